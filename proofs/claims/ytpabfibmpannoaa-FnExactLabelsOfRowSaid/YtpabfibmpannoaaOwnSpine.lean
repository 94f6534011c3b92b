/- Lists of lists: one read, one of the call's own; the laws' own functions over them: compared, marked and found marked; at most 1048576 lists of at most 1048576 numbers. -/
import Derived.Test.YtpabfibmpannoaaOwnGen
namespace Go.Proofs.Ytpabfibmpannoaa.Own.G
open Go.RowKit Go.Proofs.YtpabfibmpannoaaW.PrintWords Go.Proofs.YtpabfibmpannoaaW.PrintLast Go.Proofs.YtpabfibmpannoaaW.PrintMore
set_option linter.unusedVariables false
/-- A list of lists that is read. -/
abbrev RdS (w : World) (A : Option Addr) (l : List (List Int)) : Prop := Kd.C (Kd.slice 3 (Kd.int .i64)) w A l.length l
/-- A list of lists of the call's own. -/
abbrev OwK (w : World) (B : Nat) (ok : Nat → Prop) (v : Value) (l : List (List Int)) : Prop := Kd.S (Kd.slice 3 (Kd.int .i64)) 29 w B ok v l
/-- Only blocks of a kind are changed. -/
def Changed (w w1 : World) (ok : Nat → Prop) : Prop := w.heap.size ≤ w1.heap.size ∧ ∀ k, k < w.heap.size → ¬ ok k → w1.heap[k]? = w.heap[k]?
abbrev OwS (w : World) (B : Nat) (v : Value) (l : List (List Int)) : Prop := Kd.S (Kd.slice 3 (Kd.int .i64)) 29 w B (fun _ => True) v l
theorem row_at {w : World} {A : Option Addr} {l : List (List Int)} (h : RdS w A l) {i : Nat} (hi : i < l.length) : ∃ ad A0 c0, A = some ad ∧ w.cell? (ad.add i) = some (.slice A0 (l.getD i []).length c0) ∧ (l.getD i []).length ≤ c0 ∧ Rd w A0 (l.getD i []) := by
  obtain ⟨ad, c, e, _, hK, hc0⟩ := Kd.C_get h ([] : List Int) (i : Int) (by omega) (by omega)
  rw [Int.toNat_natCast] at hK hc0
  have hc : ∀ j u, c[j]? = some u → w.cell? (ad.add (i * 1 + j)) = some u := hc0
  obtain ⟨A0, c0, rfl, l0, g0⟩ := hK
  exact ⟨ad, A0, c0, e, by have hq := hc 0 _ rfl; rwa [Nat.mul_one, Nat.add_zero] at hq, l0, g0⟩
theorem OwS_form {w : World} {B : Nat} {v : Value} {l : List (List Int)} (h : OwS w B v l) : ∃ A c, v = .slice A l.length c ∧ l.length ≤ c ∧ RdS w A l := Kd.S_reads h
theorem OwS_rd {w : World} {B c n : Nat} {A : Option Addr} {l : List (List Int)} (h : OwS w B (.slice A n c) l) : RdS w A l := (Kd.S_reads' h).2.2
theorem OwS_cap {w : World} {B c n : Nat} {A : Option Addr} {l : List (List Int)} (h : OwS w B (.slice A n c) l) : l.length ≤ c := by
  have := Kd.S_reads' h
  omega
theorem OwS_drewN {w : World} {B : Nat} {v : Value} {l : List (List Int)} (h : OwS w B v l) (n : Nat) : OwS (w.drewN n) B v l := Kd.S_drewN h n
theorem OwS_below {w w1 : World} {B : Nat} {v : Value} {l : List (List Int)} (h : OwS w B v l) (hb : Below w.heap.size w w1) : OwS w1 B v l := Kd.S_below h hb
theorem OwS_lower {w : World} {B B' : Nat} {v : Value} {l : List (List Int)} (h : OwS w B v l) (hb : B' ≤ B) : OwS w B' v l := Kd.S_lower h hb
theorem OwS_drawn {w w1 : World} {B : Nat} {v : Value} {l : List (List Int)} (h : OwS w B v l) (hd : Drawn0 w w1) : OwS w1 B v l := by
  obtain ⟨⟨n, rfl⟩⟩ := hd
  exact OwS_drewN h n
theorem quiet_drawn2 {P : Program} {f : FuncId} {args : Array Value} {w : World} {m n : Nat} {v : Value} (h : Calls P f args (w.drewN (m + n)) fun e w' => e = .returned v ∧ Drawn0 (w.drewN (m + n)) w') :
    Calls P f args (w.drewN (m + n)) fun e w'' => e = .returned v ∧ ∃ n, w'' = w.drewN (m + n) := h.mono fun e w'' ⟨he, ⟨⟨k, hk⟩⟩⟩ => ⟨he, n + k, by
  rw [hk]
  show ({ w with drawn := w.drawn + (m + n) + k } : World) = { w with drawn := w.drawn + (m + (n + k)) }
  rw [Nat.add_assoc, Nat.add_assoc]⟩
def Fit (l : List (List Int)) : Prop := l.length ≤ 1048576 ∧ ∀ x ∈ l, x.length ≤ 1048576
theorem Fit_at {l : List (List Int)} (h : Fit l) {i : Nat} (hi : i < l.length) : (l.getD i []).length ≤ 1048576 := by
  rw [List.getD_eq_getElem?_getD, List.getElem?_eq_getElem hi]
  exact h.2 _ (List.getElem_mem hi)
set_option maxHeartbeats 1600000 in
theorem eqIntSS_calls (A : Option Addr) (c : Nat) (A' : Option Addr) (c' : Nat) (l : List (List Int)) (w : World) (hr : RdS w A l) (hc : l.length ≤ c) (hr' : RdS w A' l) (hc' : l.length ≤ c') (hn : Fit l) :
    Calls Try.prog 13 #[.slice A l.length c, .slice A' l.length c'] w fun e w' => e = .returned (.bool true) ∧ Drawn0 w w' := by
  have HR := Aside0.mk hr
  have HR' := Aside0.mk hr'
  have HF := Aside0.mk hn
  have hn1 := hn.1
  clear hr hc hr' hc' hn
  go_enter Try.func13, Try.ntmps13
  (go_wp2; repeat (go_quiet (fail); try go_wp2))
  go_loopg [5] l.length (fun g v5 w' => ∃ i : Nat, v5 = .int .i64 i ∧ Aside0 (i + g = l.length) ∧ Drawn0 w w')
  case atStart => exact ⟨0, rfl, ⟨by omega⟩, (by repeat (first | exact Drawn0.refl _ | apply Drawn0.step))⟩
  case round =>
    obtain ⟨i, rfl, HI, ⟨m1, rfl⟩⟩ := hrel
    by_cases hlt : i < l.length
    · obtain ⟨ad, A0, c0, rfl, hx, hc0, hr0⟩ := row_at HR.out hlt
      obtain ⟨ad', A1, c1, rfl, hx', hc1, hr1⟩ := row_at HR'.out hlt
      have HL := Aside0.mk (Fit_at HF.out hlt)
      have HR0 := Aside0.mk hr0
      have HR1 := Aside0.mk hr1
      have HC0 := Aside0.mk hc0
      have HC1 := Aside0.mk hc1
      clear hr0 hr1 hc0 hc1
      generalize l.getD i [] = x at *
      have HQ := Aside0.mk (fun k : Nat => eqIntS_calls A0 c0 A1 c1 x (w.drewN (m1 + k)) (by repeat (first | exact HR0.out | apply Kd.C_drewN)) HC0.out (by repeat (first | exact HR1.out | apply Kd.C_drewN)) HC1.out HL.out)
      go_wp2
      go_quiet ((go_at_call 17; exact quiet_drawn2 (HQ.out _)))
      go_wp2
      go_roundg (gk - 1)
      case measure => have := HI.out; omega
      case rel => exact ⟨i + 1, by go_num, ⟨by have := HI.out; omega⟩, (by repeat (first | exact Drawn0.refl _ | apply Drawn0.step))⟩
    · (go_wp2; repeat (go_quiet (fail); try go_wp2))
      go_ret
      exact ⟨rfl, (by repeat (first | exact Drawn0.refl _ | apply Drawn0.step))⟩
/-- How many numbers stand in the first i lists. -/
def pre (l : List (List Int)) : Nat → Nat
  | 0 => 0
  | i + 1 => pre l i + (l.getD i []).length
theorem pre_mono (l : List (List Int)) {i j : Nat} (h : i ≤ j) : pre l i ≤ pre l j := by
  induction j with
  | zero => rw [show i = 0 by omega]; exact Nat.le_refl _
  | succ j ih =>
    rcases Nat.lt_or_ge i (j + 1) with h2 | h2
    · have := ih (by omega); rw [pre]; omega
    · rw [show i = j + 1 by omega]; exact Nat.le_refl _
/-- The lists marked, from m on: i of them. -/
def marksS (l : List (List Int)) (m : Int) (i : Nat) : List (List Int) := (List.range i).map fun j : Nat => marks (l.getD j []).length (m + (pre l j : Int))
theorem marksS_length (l : List (List Int)) (m : Int) (i : Nat) : (marksS l m i).length = i := by simp [marksS]
theorem marksS_succ (l : List (List Int)) (m : Int) (i : Nat) : marksS l m (i + 1) = marksS l m i ++ [marks (l.getD i []).length (m + (pre l i : Int))] := by
  unfold marksS
  rw [List.range_succ, List.map_append]
  rfl
theorem marksS_getD (l : List (List Int)) (m : Int) {i n : Nat} (h : i < n) : (marksS l m n).getD i [] = marks (l.getD i []).length (m + (pre l i : Int)) := by
  rw [List.getD_eq_getElem?_getD, List.getElem?_eq_getElem (by rw [marksS_length]; exact h)]
  simp [marksS]
theorem marksS_mid (l : List (List Int)) (m : Int) {i : Nat} (h : i < l.length) : (marksS l m i ++ l.drop i).getD i [] = l.getD i [] := by
  rw [List.getD_eq_getElem?_getD, List.getElem?_append_right (by rw [marksS_length]; exact Nat.le_refl _), marksS_length, Nat.sub_self, List.getElem?_drop, Nat.add_zero, List.getD_eq_getElem?_getD]
theorem marksS_step (l : List (List Int)) (m : Int) {i : Nat} (h : i < l.length) : (marksS l m i ++ l.drop i).set i (marks (l.getD i []).length (m + (pre l i : Int))) = marksS l m (i + 1) ++ l.drop (i + 1) := by
  rw [List.set_append_right _ _ (by rw [marksS_length]; exact Nat.le_refl _), marksS_length, Nat.sub_self, List.drop_eq_getElem_cons h, List.set_cons_zero, marksS_succ, List.append_assoc]
  rfl
theorem marks_len (n : Nat) (m : Int) : (marks n m).length = n := marks_length n m
set_option maxHeartbeats 800000 in
theorem held_calls (A : Option Addr) (c n : Nat) (m : Int) (w : World) (hr : Rd w A (marks n m)) (hc : n ≤ c) (hn : n ≤ 1048576) (hm0 : 1 ≤ m) (hm1 : m ≤ 4611686018427387904) :
    Calls Try.prog 21 #[.slice A n c, .int .i64 m] w fun e w' => e = .returned (.int .i64 (m + (n : Int))) ∧ Drawn0 w w' := by
  have HR := Aside0.mk hr
  clear hr hc
  go_enter Try.func21, Try.ntmps21
  (go_wp2; repeat (go_quiet (fail); try go_wp2))
  go_loopg [1, 5] n (fun g v1 v5 w' => ∃ i : Nat, v1 = .int .i64 (m + (i : Int)) ∧ v5 = .int .i64 i ∧ Aside0 (i + g = n) ∧ Drawn0 w w')
  case atStart => exact ⟨0, by simp, rfl, ⟨by omega⟩, (by repeat (first | exact Drawn0.refl _ | apply Drawn0.step))⟩
  case round =>
    obtain ⟨i, rfl, rfl, HI, ⟨m1, rfl⟩⟩ := hrel
    by_cases hlt : i < n
    · obtain ⟨ad, rfl, hx⟩ := at_nat HR.out (show i < (marks n m).length by rw [marks_length]; exact hlt)
      rw [marks_rd m hlt] at hx
      (go_wp2; repeat (go_quiet (fail); try go_wp2))
      go_roundg (gk - 1)
      case measure => have := HI.out; omega
      case rel => exact ⟨i + 1, by go_num, by go_num, ⟨by have := HI.out; omega⟩, (by repeat (first | exact Drawn0.refl _ | apply Drawn0.step))⟩
    · have HE := Aside0.mk (show i = n by have := HI.out; omega)
      (go_wp2; repeat (go_quiet (fail); try go_wp2))
      go_ret
      exact ⟨by rw [← HE.out]; rfl, (by repeat (first | exact Drawn0.refl _ | apply Drawn0.step))⟩
set_option maxHeartbeats 1600000 in
theorem heldIntSS_calls (A : Option Addr) (c : Nat) (l : List (List Int)) (w : World) (hr : RdS w A (marksS l 1 l.length)) (hc : l.length ≤ c) (hn : Fit l) :
    Calls Try.prog 25 #[.slice A l.length c, .int .i64 1] w fun e w' => e = .returned (.int .i64 (1 + (pre l l.length : Int))) ∧ Drawn0 w w' := by
  have HR := Aside0.mk hr
  have HF := Aside0.mk hn
  have hn1 := hn.1
  have hpm : ∀ i : Nat, i ≤ l.length → pre l i ≤ i * 1048576 := by
    intro i hi
    induction i with
    | zero => simp [pre]
    | succ i ih => have := ih (by omega); have h2 := Fit_at hn (show i < l.length by omega); rw [pre, Nat.succ_mul]; omega
  have HPM := Aside0.mk hpm
  clear hr hc hn hpm
  go_enter Try.func25, Try.ntmps25
  (go_wp2; repeat (go_quiet (fail); try go_wp2))
  go_loopg [1, 5] l.length (fun g v1 v5 w' => ∃ (i : Nat) (p : Nat), v1 = .int .i64 (1 + (p : Int)) ∧ v5 = .int .i64 i ∧ Aside0 (p = pre l i) ∧ Aside0 (i + g = l.length) ∧ Drawn0 w w')
  case atStart => exact ⟨0, 0, by simp, rfl, ⟨rfl⟩, ⟨by omega⟩, (by repeat (first | exact Drawn0.refl _ | apply Drawn0.step))⟩
  case round =>
    obtain ⟨i, p, rfl, rfl, HP, HI, ⟨m1, rfl⟩⟩ := hrel
    have hpb : p ≤ 1048576 * 1048576 := by rw [HP.out]; exact Nat.le_trans (HPM.out i (by have := HI.out; omega)) (Nat.mul_le_mul_right _ (by have := HI.out; omega))
    by_cases hlt : i < l.length
    · obtain ⟨ad, A0, c0, rfl, hx, hc0, hr0⟩ := row_at HR.out (show i < (marksS l 1 l.length).length by rw [marksS_length]; exact hlt)
      rw [marksS_getD l 1 hlt, ← HP.out] at hx hc0 hr0
      rw [marks_length] at hx hc0
      have HL := Aside0.mk (Fit_at HF.out hlt)
      have HR0 := Aside0.mk hr0
      have HC0 := Aside0.mk hc0
      have HN := Aside0.mk (show p + (l.getD i []).length = pre l (i + 1) by rw [HP.out]; rfl)
      clear hr0 hc0
      generalize (l.getD i []).length = n at *
      have hnb : n ≤ 1048576 := HL.out
      go_wp2_with (go_at_call 21; refine (held_calls A0 c0 n (1 + (p : Int)) _ (by repeat (first | exact HR0.out | apply Kd.C_drewN)) HC0.out HL.out (by omega) (by omega)).mono ?_; rintro e w' ⟨rfl, ⟨nd, rfl⟩⟩)
      repeat (go_quiet (fail); try go_wp2)
      go_roundg (gk - 1)
      case measure => have := HI.out; omega
      case rel => exact ⟨i + 1, p + n, by go_num, by go_num, HN, ⟨by have := HI.out; omega⟩, (by repeat (first | exact Drawn0.refl _ | apply Drawn0.step))⟩
    · have HE := Aside0.mk (show p = pre l l.length by rw [HP.out, show i = l.length by have := HI.out; omega])
      (go_wp2; repeat (go_quiet (fail); try go_wp2))
      go_ret
      exact ⟨by rw [← HE.out]; rfl, (by repeat (first | exact Drawn0.refl _ | apply Drawn0.step))⟩
set_option maxHeartbeats 3200000 in
theorem markIntSS_calls (v : Value) (l : List (List Int)) (B : Nat) (ok : Nat → Prop) (w : World) (ho : OwK w B ok v l) (hB : B ≤ w.heap.size) (hn : Fit l) :
    Calls Try.prog 24 #[v, .int .i64 1] w fun e w' => e = .returned (.int .i64 (1 + (pre l l.length : Int))) ∧ OwK w' B ok v (marksS l 1 l.length) ∧ Below B w w' ∧ Changed w w' ok := by
  obtain ⟨A, c, rfl⟩ := Kd.S_slice ho
  have HO := Aside0.mk ho
  have HBb := Aside0.mk (show Below B w w ∧ Changed w w ok from ⟨Below.refl B w, Nat.le_refl _, fun _ _ _ => rfl⟩)
  have HSZ := Aside0.mk hB
  have HF := Aside0.mk hn
  have hn1 := hn.1
  have hpm : ∀ i : Nat, i ≤ l.length → pre l i ≤ i * 1048576 := by
    intro i hi
    induction i with
    | zero => simp [pre]
    | succ i ih => have := ih (by omega); have h2 := Fit_at hn (show i < l.length by omega); rw [pre, Nat.succ_mul]; omega
  have HPM := Aside0.mk hpm
  clear ho hn hpm hB
  go_enter Try.func24, Try.ntmps24
  (go_wp2; repeat (go_quiet (fail); try go_wp2))
  go_loopg [1, 5] l.length (fun g v1 v5 w' => ∃ (i : Nat) (p : Nat) (ys : List (List Int)), v1 = .int .i64 (1 + (p : Int)) ∧ v5 = .int .i64 i ∧ Aside0 (p = pre l i) ∧ Aside0 (i + g = l.length) ∧ Aside0 (ys = marksS l 1 i ++ l.drop i) ∧ Aside0 (OwK w' B ok (.slice A l.length c) ys) ∧ Aside0 (Below B w w' ∧ B ≤ w'.heap.size ∧ Changed w w' ok))
  case atStart => exact ⟨0, 0, l, by simp, rfl, ⟨rfl⟩, ⟨by omega⟩, ⟨by simp [marksS]⟩, ⟨by first | exact HO.out | exact Kd.S_drewN HO.out _⟩, ⟨by first | exact ⟨HBb.out.1, HSZ.out, HBb.out.2⟩ | exact ⟨pw_below_drewN HBb.out.1 _, HSZ.out, HBb.out.2⟩⟩⟩
  case round =>
    clear HO HBb
    obtain ⟨i, p, ys, rfl, rfl, HP, HI, HY, HO, HBb⟩ := hrel
    have hpb : p ≤ 1048576 * 1048576 := by rw [HP.out]; exact Nat.le_trans (HPM.out i (by have := HI.out; omega)) (Nat.mul_le_mul_right _ (by have := HI.out; omega))
    by_cases hlt : i < l.length
    · obtain ⟨ad, A0, c0, rfl, hx, hc0, hr0⟩ := row_at (Kd.S_reads' HO.out).2.2 (show i < ys.length by rw [HY.out, List.length_append, marksS_length, List.length_drop]; omega)
      obtain ⟨oki, cs, hcl, hM, hcc, hoki, hback⟩ := Kd.S_borrow HO.out ([] : List Int) (i : Int) (by omega) (by omega)
      rw [Int.toNat_natCast] at hM hcc hback
      obtain ⟨u, rfl, hR⟩ := hM
      have hu : u = .slice A0 (ys.getD i []).length c0 := by
        have h1 := hcc 0 u rfl
        rw [show i * (Kd.slice 3 (Kd.int .i64)).sz + 0 = i from by rw [Nat.add_zero]; exact Nat.mul_one i, hx] at h1
        injection h1 with h1
        exact h1.symm
      subst hu
      have hyi : ys.getD i [] = l.getD i [] := by rw [HY.out]; exact marksS_mid l 1 hlt
      rw [hyi] at hx hR hback
      have HL := Aside0.mk (Fit_at HF.out hlt)
      have HN := Aside0.mk (show p + (l.getD i []).length = pre l (i + 1) by rw [HP.out]; rfl)
      have HYY := Aside0.mk (show ys.set i (marks (l.getD i []).length (1 + (p : Int))) = marksS l 1 (i + 1) ++ l.drop (i + 1) by rw [HY.out, HP.out]; exact marksS_step l 1 hlt)
      have HRR := Aside0.mk hR
      have HK := Aside0.mk (@hback)
      have HOK := Aside0.mk (show ∀ k, oki k → ok k from fun k hk => (hoki k hk).1)
      clear hback hR hc0 hr0 hoki hcc hcl hyi
      generalize l.getD i [] = x at *
      have hnb : x.length ≤ 1048576 := HL.out
      go_wp2_with (go_at_call 20; refine (markIntS_calls (.slice A0 x.length c0) x (1 + (p : Int)) B _ (Kd.R_mono HRR.out (fun _ _ => trivial)) HL.out (by omega) (by omega)).mono ?_; rintro e w2 ⟨rfl, ho2, hg⟩)
      have hS := HK.out hg (fun k hk => HRR.out.1 k hk) (Kd.M_row (Ow_re ho2 (fun k hk => HRR.out.1 k hk)))
      rw [HYY.out] at hS
      have HO2 := Aside0.mk hS
      have HB2 := Aside0.mk (show Below B w w2 ∧ B ≤ w2.heap.size ∧ Changed w w2 ok from ⟨HBb.out.1.grown hg HBb.out.2.1 (Kd.R_base HRR.out), Nat.le_trans HBb.out.2.1 hg.size, Nat.le_trans HBb.out.2.2.1 hg.size, fun k hk hn => (hg.block k (Nat.lt_of_lt_of_le hk HBb.out.2.2.1) (fun he => hn (HOK.out k (HRR.out.1 k he.symm)))).trans (HBb.out.2.2.2 k hk hn)⟩)
      clear HO HBb hS hg ho2
      repeat (go_quiet (fail); try go_wp2)
      go_roundg (gk - 1)
      case measure => have := HI.out; omega
      case rel => exact ⟨i + 1, p + x.length, _, by go_num, by go_num, HN, ⟨by have := HI.out; omega⟩, ⟨rfl⟩, ⟨by first | exact HO2.out | exact Kd.S_drewN HO2.out _⟩, HB2⟩
    · have HE := Aside0.mk (show p = pre l l.length ∧ ys = marksS l 1 l.length by
        have hi : i = l.length := by have := HI.out; omega
        rw [HP.out, HY.out, hi, List.drop_length, List.append_nil]
        exact ⟨rfl, rfl⟩)
      (go_wp2; repeat (go_quiet (fail); try go_wp2))
      go_ret
      exact ⟨by rw [← HE.out.1]; rfl, by rw [← HE.out.2]; first | exact HO.out | exact Kd.S_drewN HO.out _, by first | exact HBb.out.1 | exact pw_below_drewN HBb.out.1 _, HBb.out.2.2⟩
end Go.Proofs.Ytpabfibmpannoaa.Own.G
