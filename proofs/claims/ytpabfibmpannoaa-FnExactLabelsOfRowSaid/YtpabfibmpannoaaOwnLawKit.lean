/- The laws' own small functions: a copy of a list, two equal lists compared, a list marked and found marked; lists of at most 1048576 numbers. -/
import Derived.Test.YtpabfibmpannoaaOwnKit
import Derived.Deep.AppendLies
import Derived.Deep.RegionHeld3
namespace Go.Proofs.Ytpabfibmpannoaa.Own
open Go.RowKit Go.Proofs.YtpabfibmpannoaaW.PrintWords Go.Proofs.YtpabfibmpannoaaW.PrintLast Go.Proofs.YtpabfibmpannoaaW.PrintMore
set_option linter.unusedVariables false
theorem Ow_re {w : World} {B : Nat} {v : Value} {l : List Int} {ok : Nat → Prop} (h : Ow w B v l) (hok : ∀ k, v.ownBlock = some k → ok k) : Kd.R (Kd.int .i64) 3 w B ok v l := Kd.R_of_own (Kd.own_of_R h) hok
/-- Two values' blocks are not one. -/
def Apart (u v : Value) : Prop := ∀ k, u.ownBlock = some k → v.ownBlock ≠ some k
theorem Apart.symm {u v : Value} (h : Apart u v) : Apart v u := fun k hk e => h k e hk
theorem Ow_keep {w w1 : World} {B : Nat} {u v : Value} {l : List Int} (h : Ow w B u l) (hg : w.grownBy w1 v.ownBlock) (ha : Apart u v) : Ow w1 B u l :=
  Kd.R_mono (Kd.R_grown (Ow_re (ok := fun k => some k ≠ v.ownBlock) h (fun k hk e => ha k hk e.symm)) hg (fun k hk => hk)) (fun _ _ => trivial)
theorem Apart_new {w w1 : World} {B : Nat} {u v : Value} {l m : List Int} (h : Ow w B u l) (hv : Ow w1 w.heap.size v m) : Apart u v := fun k hk e => by
  have := Kd.R_lt h k hk
  have := Kd.R_base hv k e
  omega
theorem Ow_below {w w1 : World} {B : Nat} {u : Value} {l : List Int} (h : Ow w B u l) (hb : Below w.heap.size w w1) : Ow w1 B u l := Kd.R_below h hb
theorem Ow_drewN {w : World} {B : Nat} {u : Value} {l : List Int} (h : Ow w B u l) (n : Nat) : Ow (w.drewN n) B u l := Kd.R_drewN h n
theorem Ow_lower {w : World} {B B' : Nat} {u : Value} {l : List Int} (h : Ow w B u l) (hb : B' ≤ B) : Ow w B' u l := Kd.R_lower h hb
theorem Ow_form {w : World} {B : Nat} {v : Value} {l : List Int} (h : Ow w B v l) : ∃ A c, v = .slice A l.length c ∧ l.length ≤ c ∧ Rd w A l := by
  obtain ⟨A, c, rfl⟩ := Kd.R_slice h
  have := Kd.R_reads' h
  exact ⟨A, c, rfl, this.2.1, this.2.2⟩
theorem own_cell {w : World} {B g n cap i : Nat} {l : List Int} (h : Ow w B (.slice (some ⟨g, 0, none⟩) n cap) l) (hi : i < n) : w.cell? ⟨g, i, none⟩ = some (.int .i64 (rd l (i : Int))) ∧ w.frozen? ⟨g, i, none⟩ = false := by
  have := Kd.R_celln 0 h (i : Int) (by omega) (by omega)
  rw [Int.toNat_natCast] at this
  exact this
theorem own_put {w : World} {B g n cap : Nat} {l : List Int} (h : Ow w B (.slice (some ⟨g, 0, none⟩) n cap) l) (i : Nat) (x : Int) :
    Ow (w.setCell ⟨g, i, none⟩ (.int .i64 x)) B (.slice (some ⟨g, 0, none⟩) n cap) (l.set i x) ∧ w.grownBy (w.setCell ⟨g, i, none⟩ (.int .i64 x)) (some g) := by
  have := Kd.R_putg h (i : Int) x
  rw [Int.toNat_natCast] at this
  exact this
theorem grown_trans {w w1 w2 : World} {r : Option Nat} (h : w.grownBy w1 r) (k : w1.grownBy w2 r) : w.grownBy w2 r := World.grownBy.trans h k
theorem copy_step {l : List Int} {i g : Nat} (h : i < l.length) (hg : i + g = l.length) : (l.take i ++ List.replicate g (0 : Int)).set i (rd l (i : Int)) = l.take (i + 1) ++ List.replicate (g - 1) 0 := by
  obtain ⟨d, rfl⟩ : ∃ d, g = d + 1 := ⟨g - 1, by omega⟩
  rw [List.set_append_right _ _ (by rw [List.length_take]; omega), take_rd h, List.length_take, Nat.min_eq_left (by omega), Nat.sub_self, List.replicate_succ, List.set_cons_zero, List.append_assoc]
  rfl
set_option maxHeartbeats 1600000 in
theorem toIntS_calls (A : Option Addr) (c : Nat) (l : List Int) (w : World) (hr : Rd w A l) (hc : l.length ≤ c) (hn : l.length ≤ 1048576) :
    Calls Try.prog 15 #[.slice A l.length c] w fun e w' => ∃ v, e = .returned v ∧ Ow w' w.heap.size v l ∧ Below w.heap.size w w' := by
  have HR := Aside0.mk hr
  have HC := Aside0.mk hc
  clear hr hc
  have hm1 : 0 ≤ (l.length : Int) := by omega
  have hm2 : (l.length : Int).toNat * 8 ≤ 281474976710656 := by omega
  go_enter Try.func15, Try.ntmps15
  go_wp2_with (at_make; refine Kd.R_make (Kd.int .i64) w.heap.size 3 rfl (N := 7) rfl 29 _ _ rfl (l.length : Int) rfl rfl Try.underlying29 (.int .i64 0) 8 infoInt rfl (by decide) (by omega) 0 (ok := fun _ => True) (okp := fun _ => True) rfl (fun _ hk => hk) trivial hm1 hm2 (Below.refl _ _) (Nat.le_refl _) ?_; intro v1 w1 ho hb hg hnew; have HO := Aside0.mk ho; have HB := Aside0.mk hb; clear ho hb hg hnew)
  go_loopg [4] l.length (fun g v4 w' => ∃ (i : Nat) (xs : List Int), v4 = .int .i64 i ∧ Aside0 (i + g = l.length) ∧ Aside0 (xs = l.take i ++ List.replicate g 0) ∧ Aside0 (Ow w' w.heap.size v1 xs) ∧ Aside0 (Below w.heap.size w w'))
  case atStart => exact ⟨0, _, rfl, ⟨by omega⟩, ⟨by simp⟩, HO, HB⟩
  case round =>
    clear HO HB
    obtain ⟨i, xs, rfl, HI, HX, HO, HB⟩ := hrel
    by_cases hlt : i < l.length
    · obtain ⟨ad, rfl, hx⟩ := at_nat HR.out hlt
      replace hx := (HB.out.cell (World.block_lt_of_cell? w _ hx)).trans hx
      have hl : xs.length = l.length := by rw [HX.out]; simp; have := HI.out; omega
      obtain ⟨g, cap, rfl, hgb, _, _, _⟩ := Kd.R_form HO.out (by omega)
      obtain ⟨hc1, hf1⟩ := own_cell HO.out (show i < xs.length by omega)
      have HP := Aside0.mk (own_put HO.out i (rd l (i : Int)))
      have HL := Aside0.mk hl
      have hlt2 : i < xs.length := by omega
      clear hl
      go_wp2
      go_roundg (gk - 1)
      case measure => have := HI.out; omega
      case rel => exact ⟨i + 1, _, by go_num, ⟨by have := HI.out; omega⟩, ⟨by rw [HX.out]; exact copy_step hlt HI.out⟩, ⟨HP.out.1⟩, ⟨below_set HB.out hgb⟩⟩
    · have HE := Aside0.mk (show xs = l by rw [HX.out, show gk = 0 by have := HI.out; omega, List.take_of_length_le (by omega)]; simp)
      go_wp2
      repeat (go_quiet (fail); try go_wp2)
      go_ret
      exact ⟨_, rfl, by rw [← HE.out]; first | exact HO.out | exact Ow_drewN HO.out _, (by repeat (first | (with_reducible first | exact HB.out | apply below_alloc | apply pw_below_drewN | apply below_drew1) | exact HB.out))⟩
set_option maxHeartbeats 800000 in
theorem eqIntS_calls (A : Option Addr) (c : Nat) (A' : Option Addr) (c' : Nat) (l : List Int) (w : World) (hr : Rd w A l) (hc : l.length ≤ c) (hr' : Rd w A' l) (hc' : l.length ≤ c') (hn : l.length ≤ 1048576) :
    Calls Try.prog 17 #[.slice A l.length c, .slice A' l.length c'] w fun e w' => e = .returned (.bool true) ∧ Drawn0 w w' := by
  have HR := Aside0.mk hr
  have HR' := Aside0.mk hr'
  clear hr hc hr' hc'
  go_enter Try.func17, Try.ntmps17
  (go_wp2; repeat (go_quiet (fail); try go_wp2))
  go_loopg [5] l.length (fun g v5 w' => ∃ i : Nat, v5 = .int .i64 i ∧ Aside0 (i + g = l.length) ∧ Drawn0 w w')
  case atStart => exact ⟨0, rfl, ⟨by omega⟩, (by repeat (first | exact Drawn0.refl _ | apply Drawn0.step))⟩
  case round =>
    obtain ⟨i, rfl, HI, ⟨m1, rfl⟩⟩ := hrel
    by_cases hlt : i < l.length
    · obtain ⟨ad, rfl, hx⟩ := at_nat HR.out hlt
      obtain ⟨ad', rfl, hx'⟩ := at_nat HR'.out hlt
      (go_wp2; repeat (go_quiet (fail); try go_wp2))
      go_roundg (gk - 1)
      case measure => have := HI.out; omega
      case rel => exact ⟨i + 1, by go_num, ⟨by have := HI.out; omega⟩, (by repeat (first | exact Drawn0.refl _ | apply Drawn0.step))⟩
    · (go_wp2; repeat (go_quiet (fail); try go_wp2))
      go_ret
      exact ⟨rfl, (by repeat (first | exact Drawn0.refl _ | apply Drawn0.step))⟩
def marks (n : Nat) (m : Int) : List Int := (List.range n).map fun j : Nat => m + (j : Int)
theorem marks_length (n : Nat) (m : Int) : (marks n m).length = n := by simp [marks]
theorem marks_rd {n i : Nat} (m : Int) (h : i < n) : rd (marks n m) (i : Int) = m + (i : Int) := by
  rw [rd_get (by rw [marks_length]; exact h)]
  simp [marks]
theorem marks_succ (n : Nat) (m : Int) : marks (n + 1) m = marks n m ++ [m + (n : Int)] := by
  unfold marks
  rw [List.range_succ, List.map_append]
  rfl
theorem mark_step {l : List Int} {i : Nat} (m : Int) (h : i < l.length) : (marks i m ++ l.drop i).set i (m + (i : Int)) = marks (i + 1) m ++ l.drop (i + 1) := by
  rw [List.set_append_right _ _ (by rw [marks_length]; omega), marks_length, Nat.sub_self, drop_rd h, List.set_cons_zero, marks_succ, List.append_assoc]
  rfl
set_option maxHeartbeats 1600000 in
theorem markIntS_calls (v : Value) (l : List Int) (m : Int) (B : Nat) (w : World) (ho : Ow w B v l) (hn : l.length ≤ 1048576) (hm0 : 0 ≤ m) (hm1 : m ≤ 4611686018427387904) :
    Calls Try.prog 20 #[v, .int .i64 m] w fun e w' => e = .returned (.int .i64 (m + (l.length : Int))) ∧ Ow w' B v (marks l.length m) ∧ w.grownBy w' v.ownBlock := by
  obtain ⟨A, c, rfl⟩ := Kd.R_slice ho
  have HO := Aside0.mk ho
  have HG := Aside0.mk (World.grownBy.refl w (Value.slice A l.length c).ownBlock)
  clear ho
  go_enter Try.func20, Try.ntmps20
  (go_wp2; repeat (go_quiet (fail); try go_wp2))
  go_loopg [1, 5] l.length (fun g v1 v5 w' => ∃ (i : Nat) (xs : List Int), v1 = .int .i64 (m + (i : Int)) ∧ v5 = .int .i64 i ∧ Aside0 (i + g = l.length) ∧ Aside0 (xs = marks i m ++ l.drop i) ∧ Aside0 (xs.length = l.length) ∧ Aside0 (Ow w' B (.slice A l.length c) xs) ∧ Aside0 (w.grownBy w' (Value.slice A l.length c).ownBlock))
  case atStart => exact ⟨0, l, by simp, rfl, ⟨by omega⟩, ⟨by simp [marks]⟩, ⟨rfl⟩, ⟨by first | exact HO.out | exact Ow_drewN HO.out _⟩, ⟨by first | exact HG.out | exact grown_trans HG.out (World.grownBy_drewN _ _ _)⟩⟩
  case round =>
    clear HO HG
    obtain ⟨i, xs, rfl, rfl, HI, HX, HL, HO, HG⟩ := hrel
    by_cases hlt : i < l.length
    · obtain ⟨g, cap, he, hgb, _, _, _⟩ := Kd.R_form HO.out (by rw [HL.out]; omega)
      obtain rfl : A = some ⟨g, 0, none⟩ := by injection he
      clear he
      have hlt2 : i < l.length := hlt
      obtain ⟨hc1, hf1⟩ := own_cell HO.out hlt2
      have HP := Aside0.mk (own_put HO.out i (m + (i : Int)))
      go_wp2
      go_roundg (gk - 1)
      case measure => have := HI.out; omega
      case rel => exact ⟨i + 1, _, by go_num, by go_num, ⟨by have := HI.out; omega⟩, ⟨by rw [HX.out]; exact mark_step m hlt⟩, ⟨by rw [List.length_set]; exact HL.out⟩, ⟨HP.out.1⟩, ⟨grown_trans HG.out HP.out.2⟩⟩
    · have HE := Aside0.mk (show i = l.length by have := HI.out; omega)
      have HY := Aside0.mk (show xs = marks l.length m by rw [HX.out, HE.out, List.drop_length, List.append_nil])
      (go_wp2; repeat (go_quiet (fail); try go_wp2))
      go_ret
      exact ⟨by rw [← HE.out]; rfl, by rw [← HY.out]; first | exact HO.out | exact Ow_drewN HO.out _, by first | exact HG.out | exact grown_trans HG.out (World.grownBy_drewN _ _ _)⟩
set_option maxHeartbeats 800000 in
theorem heldIntS_calls (A : Option Addr) (c n : Nat) (w : World) (hr : Rd w A (marks n 1)) (hc : n ≤ c) (hn : n ≤ 1048576) :
    Calls Try.prog 21 #[.slice A n c, .int .i64 1] w fun e w' => e = .returned (.int .i64 (1 + (n : Int))) ∧ Drawn0 w w' := by
  have HR := Aside0.mk hr
  clear hr hc
  go_enter Try.func21, Try.ntmps21
  (go_wp2; repeat (go_quiet (fail); try go_wp2))
  go_loopg [1, 5] n (fun g v1 v5 w' => ∃ i : Nat, v1 = .int .i64 (1 + (i : Int)) ∧ v5 = .int .i64 i ∧ Aside0 (i + g = n) ∧ Drawn0 w w')
  case atStart => exact ⟨0, by simp, rfl, ⟨by omega⟩, (by repeat (first | exact Drawn0.refl _ | apply Drawn0.step))⟩
  case round =>
    obtain ⟨i, rfl, rfl, HI, ⟨m1, rfl⟩⟩ := hrel
    by_cases hlt : i < n
    · obtain ⟨ad, rfl, hx⟩ := at_nat HR.out (show i < (marks n 1).length by rw [marks_length]; exact hlt)
      rw [marks_rd 1 hlt] at hx
      (go_wp2; repeat (go_quiet (fail); try go_wp2))
      go_roundg (gk - 1)
      case measure => have := HI.out; omega
      case rel => exact ⟨i + 1, by go_num, by go_num, ⟨by have := HI.out; omega⟩, (by repeat (first | exact Drawn0.refl _ | apply Drawn0.step))⟩
    · have HE := Aside0.mk (show i = n by have := HI.out; omega)
      (go_wp2; repeat (go_quiet (fail); try go_wp2))
      go_ret
      exact ⟨by rw [← HE.out]; rfl, (by repeat (first | exact Drawn0.refl _ | apply Drawn0.step))⟩
theorem Ow_rd {w : World} {B c n : Nat} {A : Option Addr} {l : List Int} (h : Ow w B (.slice A n c) l) : Rd w A l := (Kd.R_reads' h).2.2
theorem Ow_cap {w : World} {B c n : Nat} {A : Option Addr} {l : List Int} (h : Ow w B (.slice A n c) l) : l.length ≤ c := by
  have := Kd.R_reads' h
  omega
theorem Ow_drawn {w w1 : World} {B : Nat} {u : Value} {l : List Int} (h : Ow w B u l) (hd : Drawn0 w w1) : Ow w1 B u l := by
  obtain ⟨⟨n, rfl⟩⟩ := hd
  exact Ow_drewN h n
theorem below_drawn {w w1 w2 : World} (h : Below w.heap.size w w1) (hd : Drawn0 w1 w2) : Below w.heap.size w w2 := by
  obtain ⟨⟨n, rfl⟩⟩ := hd
  exact below_step h (pw_below_drewN (Below.refl _ _) n)
theorem below_grown {w w1 w2 : World} {v : Value} {l : List Int} (h : Below w.heap.size w w1) (hg : w1.grownBy w2 v.ownBlock) (ho : Ow w1 w.heap.size v l) : Below w.heap.size w w2 := h.grown hg h.size (Kd.R_base ho)
/-- append(v, p) as a step of a region that draws its order. -/
theorem own_append_step {ops : Array Oper} {o : Oper} {a : Act} {K : Act → World → Prop} {Q : Exit → Act → World → Prop} {E : Prop} (hgd : o.guard = none) (s x : Operand)
    (ho : o.op = .call { callee := .builtin .append, args := #[s, x], argTypes := #[29, 29] }) (B : Nat) (W : World) (v : Value) (xs : List Int) (p : Int) (hs : a.eval s = v) (HO : Ow W B v xs)
    (hx : a.eval x = .slice (some ⟨W.heap.size, 0, none⟩) 1 1) (hl : xs.length ≤ 1048576) (hbase : B ≤ W.heap.size)
    (h : ∀ v1 w1, Ow w1 B v1 (xs ++ [p]) → W.grownBy w1 v.ownBlock → K (a.put o.dst v1) w1) :
    if Region.wanted o (yielded ops a.tmps) = true then Oper.wp Try.prog o a (W.alloc (.cells #[.int .i64 p] 3)) K Q else E := by
  obtain ⟨i0, hi, hz0, hz1, hz2⟩ := info_parts infoInt
  have hown := (Kd.own_of_R HO).alloc (.cells #[.int .i64 p] 3)
  refine step_append_lies _ hgd s x 29 ho B 3 i0 (.int .i64 0) 1 8 Try.underlying29 hi hz0 hz1 hz2 rfl (by omega) v xs.length _ hs hown ⟨W.heap.size, 0, none⟩ 1 1 [.int .i64 p] hx rfl
    (World.news_of_block (cs := #[.int .i64 p]) (t := 3) (fr := (0, 0)) (heap_alloc_new W _)) (by simp [Value.oneCell']) (by omega) (by unfold maxLen; omega) (by omega) (by simp; omega) (W.heap.size + 1) (by simp) ?_
  intro g cap w1 hown1 hg _ _
  refine h _ w1 (Kd.R_of_own (by rw [List.length_append, List.length_singleton]; simpa [encs] using hown1) (fun _ _ => trivial)) (World.grownBy.trans (World.grownBy_alloc W _ _) hg)
end Go.Proofs.Ytpabfibmpannoaa.Own
