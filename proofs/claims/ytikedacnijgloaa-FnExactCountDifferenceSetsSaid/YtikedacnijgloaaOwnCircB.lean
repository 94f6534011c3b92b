/- How often each difference is made: what the reference's ciAdd and the program's counts do; lists of at most 8 numbers. -/
import Derived.Test.YtikedacnijgloaaOwnCircA
namespace Go.Proofs.Ytikedacnijgloaa.Own.G
open Go.RowKit Go.Proofs.YtikedacnijgloaaW.PrintWords Go.Proofs.YtikedacnijgloaaW.PrintLast Go.Proofs.YtikedacnijgloaaW.PrintMore
set_option linter.unusedVariables false
/-- Points of a circle. -/
def Pts (v : Int) (l : List Int) : Prop := (2 ≤ v ∧ v ≤ 31) ∧ l.length ≤ 8 ∧ AllIn 0 (v - 1) l
theorem Circ_pts {v : Int} {l : List Int} (h : Circ v l) : Pts v l := ⟨h.1.1, h.1.2.1.2, h.2.1⟩
def cinner (l : List Int) (v x : Int) (i : Nat) : Nat → List Int → List Int
  | 0, o => o
  | j + 1, o => if i = j then cinner l v x i j o else bump (cinner l v x i j o) (Int.tmod (x - rd l (j : Int) + v) v)
def cadd (l : List Int) (v : Int) : Nat → List Int → List Int
  | 0, o => o
  | i + 1, o => cinner l v (rd l (i : Int)) i l.length (cadd l v i o)
theorem cinner_same (l : List Int) (v x : Int) (i : Nat) (o : List Int) : cinner l v x i (i + 1) o = cinner l v x i i o := by rw [cinner, if_pos rfl]
theorem cinner_other {i j : Nat} (l : List Int) (v x : Int) (o : List Int) (h : i ≠ j) : cinner l v x i (j + 1) o = bump (cinner l v x i j o) (Int.tmod (x - rd l (j : Int) + v) v) := by rw [cinner, if_neg h]
theorem cinner_length (l : List Int) (v x : Int) (i j : Nat) (o : List Int) : (cinner l v x i j o).length = o.length := by
  induction j with
  | zero => rfl
  | succ j ih =>
    rw [cinner]
    split
    · exact ih
    · rw [bump_length, ih]
theorem cadd_length (l : List Int) (v : Int) (i : Nat) (o : List Int) : (cadd l v i o).length = o.length := by
  induction i with
  | zero => rfl
  | succ i ih => rw [cadd, cinner_length, ih]
theorem tmod_in {a v : Int} (ha : 0 ≤ a) (hv : 0 < v) : 0 ≤ Int.tmod a v ∧ Int.tmod a v < v := ⟨Int.tmod_nonneg v ha, Int.tmod_lt_of_pos a hv⟩
theorem cinner_bnd {l : List Int} {v : Int} (h : Pts v l) {i j : Nat} {o : List Int} {k : Int} (hi : i < l.length) (hj : j ≤ l.length) (ho : (o.length : Int) = v) (hb : Bnd k o) : Bnd (k + (j : Int)) (cinner l v (rd l (i : Int)) i j o) := by
  induction j with
  | zero => simpa [cinner] using hb
  | succ j ih =>
    by_cases he : i = j
    · rw [cinner, if_pos he]
      exact Bnd_mono (ih (by omega)) (by omega)
    · rw [cinner, if_neg he, show k + ((j + 1 : Nat) : Int) = k + (j : Int) + 1 by omega]
      have h1 := h.2.2 i hi
      have h2 := h.2.2 j (by omega)
      have h3 := tmod_in (a := rd l (i : Int) - rd l (j : Int) + v) (v := v) (by omega) (by have := h.1; omega)
      exact Bnd_bump (ih (by omega)) h3.1 (by rw [cinner_length, ho]; exact h3.2)
theorem cadd_bnd {l : List Int} {v : Int} (h : Pts v l) {i : Nat} {o : List Int} {k : Int} (hi : i ≤ l.length) (ho : (o.length : Int) = v) (hb : Bnd k o) : Bnd (k + 8 * (i : Int)) (cadd l v i o) := by
  induction i with
  | zero => simpa [cadd] using hb
  | succ i ih =>
    rw [cadd]
    have := cinner_bnd h (i := i) (j := l.length) (by omega) (Nat.le_refl _) (by rw [cadd_length]; exact ho) (ih (by omega))
    exact Bnd_mono this (by have := h.2.1; omega)
def counted (v : Int) (l : List Int) : List Int := cadd l v l.length (List.replicate v.toNat 0)
theorem counted_length {v : Int} {l : List Int} : (counted v l).length = v.toNat := by rw [counted, cadd_length, List.length_replicate]
theorem counted_bnd {v : Int} {l : List Int} (h : Pts v l) : Bnd 64 (counted v l) := by
  have := cadd_bnd h (Nat.le_refl _) (o := List.replicate v.toNat 0) (k := 0) (by rw [List.length_replicate]; have := h.1; omega) (Bnd_zero _)
  exact Bnd_mono this (by have := h.2.1; omega)
set_option maxHeartbeats 3200000 in
theorem ciAdd_calls (v : Int) (A : Option Addr) (c : Nat) (l : List Int) (u : Value) (o : List Int) (k0 : Int) (w ws : World) (hr : Rd w A l) (hc : l.length ≤ c) (hd : Pts v l) (hp : 1 ≤ l.length) (hol : (o.length : Int) = v) (hob : Bnd k0 o) (hk0 : k0 ≤ 1000000) (ho : Ow ws w.heap.size u o) (hb : Below w.heap.size w ws) :
    Calls Try.prog 30 #[.int .i64 v, .slice A l.length c, u] ws fun e w' => e = .returned (.tuple #[]) ∧ Ow w' w.heap.size u (cadd l v l.length o) ∧ Below w.heap.size w w' := by
  have HR := Aside0.mk hr
  have HC := Aside0.mk hc
  have HD := Aside0.mk hd
  have hv := hd.1
  have hlen := hd.2.1
  obtain ⟨ad, hA, _⟩ := at_first hr hp
  subst hA
  have HOL := Aside0.mk hol; have HOB := Aside0.mk hob; have HO := Aside0.mk ho; have HB := Aside0.mk hb; clear hr hc hd hol hob ho hb
  obtain ⟨g, cap, rfl, hgb, _, _, _⟩ := Kd.R_form HO.out (by have := HOL.out; omega)
  obtain ⟨n, hnv⟩ : ∃ n : Nat, (n : Int) = v := ⟨v.toNat, by omega⟩
  have HN := Aside0.mk (show o.length = n by have := HOL.out; omega)
  have HNV := Aside0.mk hnv
  have hh := HO.out
  rw [HN.out] at hh
  rw [HN.out]
  clear HO hnv
  have HO := Aside0.mk hh
  clear hh
  go_enter Try.func30, Try.ntmps30; (go_wp2; repeat (go_quiet (fail); try go_wp2))
  go_loopg [12] l.length (fun g' v14 w' => ∃ (i : Nat) (xs : List Int), v14 = .int .i64 i ∧ Aside0 (i + g' = l.length) ∧ Aside0 (xs = cadd l v i o) ∧ Aside0 (Ow w' w.heap.size (.slice (some ⟨g, 0, none⟩) n cap) xs) ∧ Aside0 (Below w.heap.size w w'))
  case atStart => exact ⟨0, _, rfl, ⟨by omega⟩, ⟨rfl⟩, ⟨(by first | exact HO.out | exact Ow_drewN HO.out _)⟩, ⟨(by repeat (first | (with_reducible first | exact HB.out | apply below_alloc | apply pw_below_drewN | apply below_drew1) | exact HB.out))⟩⟩
  case round =>
    clear HO HB
    obtain ⟨i, xs, rfl, HI, HX, HO, HB⟩ := hrel
    obtain ⟨gi, rfl⟩ : ∃ gi : Nat, gi = gk := ⟨_, rfl⟩
    by_cases hlt : i < l.length
    · obtain ⟨ad1, e1, hx⟩ := at_nat HR.out hlt
      obtain rfl : ad = ad1 := by injection e1
      clear e1
      replace hx := (HB.out.cell (World.block_lt_of_cell? w _ hx)).trans hx
      have hx1 := HD.out.2.2 i hlt
      obtain ⟨x, hxe⟩ : ∃ x : Int, rd l (i : Int) = x := ⟨_, rfl⟩
      rw [hxe] at hx hx1
      have HXE := Aside0.mk hxe
      have HXB := Aside0.mk (show Bnd (k0 + 56) xs by rw [HX.out]; exact Bnd_mono (cadd_bnd HD.out (by omega) HOL.out HOB.out) (by omega))
      have HXL := Aside0.mk (show xs.length = n by rw [HX.out, cadd_length, HN.out])
      clear hxe
      go_wp2
      repeat (go_quiet (fail); try go_wp2)
      obtain ⟨wo, rfl⟩ : ∃ wo : World, wo = wr := ⟨_, rfl⟩
      clear hx
      go_loopg [19] l.length (fun g' v21 w' => ∃ (j : Nat) (ys : List Int), v21 = .int .i64 j ∧ Aside0 (j + g' = l.length) ∧ Aside0 (ys = cinner l v x i j xs) ∧ Aside0 (Ow w' w.heap.size (.slice (some ⟨g, 0, none⟩) n cap) ys) ∧ Aside0 (Below w.heap.size w w'))
      case atStart => exact ⟨0, _, rfl, ⟨by omega⟩, ⟨rfl⟩, ⟨(by first | exact HO.out | exact Ow_drewN HO.out _)⟩, ⟨(by repeat (first | (with_reducible first | exact HB.out | apply below_alloc | apply pw_below_drewN | apply below_drew1) | exact HB.out))⟩⟩
      case round =>
        clear HO HB
        obtain ⟨j, ys, rfl, HJ, HYS, HO, HB⟩ := hrel
        by_cases hj : j < l.length
        · obtain ⟨ad2, e2, hx⟩ := at_nat HR.out hj
          obtain rfl : ad = ad2 := by injection e2
          clear e2
          replace hx := (HB.out.cell (World.block_lt_of_cell? w _ hx)).trans hx
          have hy1 := HD.out.2.2 j hj
          obtain ⟨y, hye⟩ : ∃ y : Int, rd l (j : Int) = y := ⟨_, rfl⟩
          rw [hye] at hx hy1
          have HYE := Aside0.mk hye
          clear hye
          by_cases hij : i = j
          · have HE := Aside0.mk (show ys = cinner l v x i (j + 1) xs by rw [HYS.out, ← hij, cinner_same])
            have hij2 : (i : Int) = (j : Int) := by omega
            subst hij
            clear hij2
            (go_wp2; repeat (go_quiet (fail); try go_wp2))
            go_roundg (gk - 1)
            case measure => have := HJ.out; omega
            case rel => exact ⟨i + 1, _, by go_num, ⟨by have := HJ.out; omega⟩, HE, ⟨(by first | exact HO.out | exact Ow_drewN HO.out _)⟩, ⟨(by repeat (first | (with_reducible first | exact HB.out | apply below_alloc | apply pw_below_drewN | apply below_drew1) | exact HB.out))⟩⟩
          · have hij2 : ¬ (i : Int) = (j : Int) := by omega
            have hdm := tmod_in (a := x - y + v) (v := v) (by omega) (by omega)
            obtain ⟨d, hde⟩ : ∃ d : Int, Int.tmod (x - y + v) v = d := ⟨_, rfl⟩
            rw [hde] at hdm
            have hdn : d < (n : Int) := by have := HNV.out; omega
            obtain ⟨hc1, hf1⟩ := own_celli HO.out d hdm.1 hdn
            have HYL := Aside0.mk (show ys.length = n by rw [HYS.out, cinner_length, HXL.out])
            have hq := Bnd_rd (show Bnd (k0 + 64) ys by
              rw [HYS.out, ← HXE.out]
              exact Bnd_mono (cinner_bnd HD.out hlt (show j ≤ l.length by omega) (by rw [HXL.out, HNV.out]) HXB.out) (by omega)) hdm.1 (by rw [HYL.out]; exact hdn)
            have HP := Aside0.mk (Kd.R_putg HO.out d (rd ys d + 1))
            have HYY := Aside0.mk (show ys.set d.toNat (rd ys d + 1) = cinner l v x i (j + 1) xs by rw [cinner_other _ _ _ _ hij, HYE.out, hde, HYS.out]; rfl)
            generalize rd ys d = q at hc1 hq HP HYY
            go_wp2
            repeat (go_quiet (fail); try go_wp2)
            go_roundg (gk - 1)
            case measure => have := HJ.out; omega
            case rel => exact ⟨j + 1, _, by go_num, ⟨by have := HJ.out; omega⟩, HYY, ⟨(by first | exact HP.out.1 | exact Ow_drewN HP.out.1 _)⟩, ⟨(by have hbb := below_set HB.out hgb (j := d.toNat) (v := .int .i64 (q + 1)); first | exact hbb | exact pw_below_drewN hbb _)⟩⟩
        · have HE := Aside0.mk (show ys = cadd l v (i + 1) o by rw [HYS.out, show j = l.length by have := HJ.out; omega, HX.out, cadd, HXE.out])
          (go_wp2; repeat (go_quiet (fail); try go_wp2))
          go_roundg (gi - 1)
          case measure => have := HI.out; omega
          case rel => exact ⟨i + 1, _, by go_num, ⟨by have := HI.out; omega⟩, HE, ⟨(by first | exact HO.out | exact Ow_drewN HO.out _)⟩, ⟨(by repeat (first | (with_reducible first | exact HB.out | apply below_alloc | apply pw_below_drewN | apply below_drew1) | exact HB.out))⟩⟩
    · have HE := Aside0.mk (show xs = cadd l v l.length o by rw [HX.out, show i = l.length by have := HI.out; omega])
      (go_wp2; repeat (go_quiet (fail); try go_wp2))
      refine bodyPost_end (v := .tuple #[]) (by simp [results, Try.results30, go_sem]) rfl ⟨rfl, by rw [← HE.out]; exact (by first | exact HO.out | exact Ow_drewN HO.out _), (by repeat (first | (with_reducible first | exact HB.out | apply below_alloc | apply pw_below_drewN | apply below_drew1) | exact HB.out))⟩
set_option maxHeartbeats 3200000 in
theorem counts_calls (v : Int) (A : Option Addr) (c : Nat) (l : List Int) (w : World) (hr : Rd w A l) (hc : l.length ≤ c) (hd : Pts v l) (hp : 1 ≤ l.length) :
    Calls Try.prog 27 #[.int .i64 v, .slice A l.length c] w fun e w' => ∃ u, e = .returned u ∧ Ow w' w.heap.size u (counted v l) ∧ Below w.heap.size w w' := by
  have HR := Aside0.mk hr
  have HC := Aside0.mk hc
  have HD := Aside0.mk hd
  have hv := hd.1
  have hlen := hd.2.1
  obtain ⟨ad, hA, _⟩ := at_first hr hp
  subst hA
  clear hr hc hd; have HB := Aside0.mk (Below.refl w.heap.size w); obtain ⟨k0, hk0⟩ : ∃ k0 : Int, k0 = 0 := ⟨_, rfl⟩; go_enter Try.func27, Try.ntmps27; go_wp2_with ((at_make; refine Kd.R_make (Kd.int .i64) (w0 := w) w.heap.size 3 rfl (N := 11) rfl 25 _ _ rfl v rfl rfl Try.underlying25 (.int .i64 0) 8 infoInt rfl (by decide) (by omega) 0 (ok := fun _ => True) (okp := fun _ => True) rfl (fun _ hk => hk) trivial (by omega) (by omega) ?mB ?mS ?_; (case mB => exact (by repeat (first | (with_reducible first | exact HB.out | apply below_alloc | apply pw_below_drewN | apply below_drew1) | exact HB.out))); (case mS => exact below_size (by repeat (first | (with_reducible first | exact HB.out | apply below_alloc | apply pw_below_drewN | apply below_drew1) | exact HB.out))); intro v1 w1 ho_ hb_ hg_ hnew_; have HO := Aside0.mk ho_; have n0_ := Aside0.mk hb_; clear HB; have HB := n0_; clear n0_ ho_ hb_ hg_ hnew_)); have hol : ((List.replicate v.toNat (0 : Int)).length : Int) = v := (by simp <;> omega); have HOL := Aside0.mk hol; have HOB := Aside0.mk (show Bnd k0 (List.replicate v.toNat (0 : Int)) by rw [hk0]; exact Bnd_zero _); generalize hoo : List.replicate v.toNat (0 : Int) = o at HO HOL HOB hol; have HOO := Aside0.mk hoo; clear hoo hol
  obtain ⟨g, cap, rfl, hgb, _, _, _⟩ := Kd.R_form HO.out (by have := HOL.out; omega)
  obtain ⟨n, hnv⟩ : ∃ n : Nat, (n : Int) = v := ⟨v.toNat, by omega⟩
  have HN := Aside0.mk (show o.length = n by have := HOL.out; omega)
  have HNV := Aside0.mk hnv
  have hh := HO.out
  rw [HN.out] at hh
  rw [HN.out]
  clear HO hnv
  have HO := Aside0.mk hh
  clear hh
  skip
  go_loopg [14] l.length (fun g' v14 w' => ∃ (i : Nat) (xs : List Int), v14 = .int .i64 i ∧ Aside0 (i + g' = l.length) ∧ Aside0 (xs = cadd l v i o) ∧ Aside0 (Ow w' w.heap.size (.slice (some ⟨g, 0, none⟩) n cap) xs) ∧ Aside0 (Below w.heap.size w w'))
  case atStart => exact ⟨0, _, rfl, ⟨by omega⟩, ⟨rfl⟩, ⟨(by first | exact HO.out | exact Ow_drewN HO.out _)⟩, ⟨(by repeat (first | (with_reducible first | exact HB.out | apply below_alloc | apply pw_below_drewN | apply below_drew1) | exact HB.out))⟩⟩
  case round =>
    clear HO HB
    obtain ⟨i, xs, rfl, HI, HX, HO, HB⟩ := hrel
    obtain ⟨gi, rfl⟩ : ∃ gi : Nat, gi = gk := ⟨_, rfl⟩
    by_cases hlt : i < l.length
    · obtain ⟨ad1, e1, hx⟩ := at_nat HR.out hlt
      obtain rfl : ad = ad1 := by injection e1
      clear e1
      replace hx := (HB.out.cell (World.block_lt_of_cell? w _ hx)).trans hx
      have hx1 := HD.out.2.2 i hlt
      obtain ⟨x, hxe⟩ : ∃ x : Int, rd l (i : Int) = x := ⟨_, rfl⟩
      rw [hxe] at hx hx1
      have HXE := Aside0.mk hxe
      have HXB := Aside0.mk (show Bnd (k0 + 56) xs by rw [HX.out]; exact Bnd_mono (cadd_bnd HD.out (by omega) HOL.out HOB.out) (by omega))
      have HXL := Aside0.mk (show xs.length = n by rw [HX.out, cadd_length, HN.out])
      clear hxe
      go_wp2
      repeat (go_quiet (fail); try go_wp2)
      obtain ⟨wo, rfl⟩ : ∃ wo : World, wo = wr := ⟨_, rfl⟩
      clear hx
      go_loopg [21] l.length (fun g' v21 w' => ∃ (j : Nat) (ys : List Int), v21 = .int .i64 j ∧ Aside0 (j + g' = l.length) ∧ Aside0 (ys = cinner l v x i j xs) ∧ Aside0 (Ow w' w.heap.size (.slice (some ⟨g, 0, none⟩) n cap) ys) ∧ Aside0 (Below w.heap.size w w'))
      case atStart => exact ⟨0, _, rfl, ⟨by omega⟩, ⟨rfl⟩, ⟨(by first | exact HO.out | exact Ow_drewN HO.out _)⟩, ⟨(by repeat (first | (with_reducible first | exact HB.out | apply below_alloc | apply pw_below_drewN | apply below_drew1) | exact HB.out))⟩⟩
      case round =>
        clear HO HB
        obtain ⟨j, ys, rfl, HJ, HYS, HO, HB⟩ := hrel
        by_cases hj : j < l.length
        · obtain ⟨ad2, e2, hx⟩ := at_nat HR.out hj
          obtain rfl : ad = ad2 := by injection e2
          clear e2
          replace hx := (HB.out.cell (World.block_lt_of_cell? w _ hx)).trans hx
          have hy1 := HD.out.2.2 j hj
          obtain ⟨y, hye⟩ : ∃ y : Int, rd l (j : Int) = y := ⟨_, rfl⟩
          rw [hye] at hx hy1
          have HYE := Aside0.mk hye
          clear hye
          by_cases hij : i = j
          · have HE := Aside0.mk (show ys = cinner l v x i (j + 1) xs by rw [HYS.out, ← hij, cinner_same])
            have hij2 : (i : Int) = (j : Int) := by omega
            subst hij
            clear hij2
            (go_wp2; repeat (go_quiet (fail); try go_wp2))
            go_roundg (gk - 1)
            case measure => have := HJ.out; omega
            case rel => exact ⟨i + 1, _, by go_num, ⟨by have := HJ.out; omega⟩, HE, ⟨(by first | exact HO.out | exact Ow_drewN HO.out _)⟩, ⟨(by repeat (first | (with_reducible first | exact HB.out | apply below_alloc | apply pw_below_drewN | apply below_drew1) | exact HB.out))⟩⟩
          · have hij2 : ¬ (i : Int) = (j : Int) := by omega
            have hdm := tmod_in (a := x - y + v) (v := v) (by omega) (by omega)
            obtain ⟨d, hde⟩ : ∃ d : Int, Int.tmod (x - y + v) v = d := ⟨_, rfl⟩
            rw [hde] at hdm
            have hdn : d < (n : Int) := by have := HNV.out; omega
            obtain ⟨hc1, hf1⟩ := own_celli HO.out d hdm.1 hdn
            have HYL := Aside0.mk (show ys.length = n by rw [HYS.out, cinner_length, HXL.out])
            have hq := Bnd_rd (show Bnd (k0 + 64) ys by
              rw [HYS.out, ← HXE.out]
              exact Bnd_mono (cinner_bnd HD.out hlt (show j ≤ l.length by omega) (by rw [HXL.out, HNV.out]) HXB.out) (by omega)) hdm.1 (by rw [HYL.out]; exact hdn)
            have HP := Aside0.mk (Kd.R_putg HO.out d (rd ys d + 1))
            have HYY := Aside0.mk (show ys.set d.toNat (rd ys d + 1) = cinner l v x i (j + 1) xs by rw [cinner_other _ _ _ _ hij, HYE.out, hde, HYS.out]; rfl)
            generalize rd ys d = q at hc1 hq HP HYY
            go_wp2
            repeat (go_quiet (fail); try go_wp2)
            go_roundg (gk - 1)
            case measure => have := HJ.out; omega
            case rel => exact ⟨j + 1, _, by go_num, ⟨by have := HJ.out; omega⟩, HYY, ⟨(by first | exact HP.out.1 | exact Ow_drewN HP.out.1 _)⟩, ⟨(by have hbb := below_set HB.out hgb (j := d.toNat) (v := .int .i64 (q + 1)); first | exact hbb | exact pw_below_drewN hbb _)⟩⟩
        · have HE := Aside0.mk (show ys = cadd l v (i + 1) o by rw [HYS.out, show j = l.length by have := HJ.out; omega, HX.out, cadd, HXE.out])
          (go_wp2; repeat (go_quiet (fail); try go_wp2))
          go_roundg (gi - 1)
          case measure => have := HI.out; omega
          case rel => exact ⟨i + 1, _, by go_num, ⟨by have := HI.out; omega⟩, HE, ⟨(by first | exact HO.out | exact Ow_drewN HO.out _)⟩, ⟨(by repeat (first | (with_reducible first | exact HB.out | apply below_alloc | apply pw_below_drewN | apply below_drew1) | exact HB.out))⟩⟩
    · have HE := Aside0.mk (show xs = cadd l v l.length o by rw [HX.out, show i = l.length by have := HI.out; omega])
      (go_wp2; repeat (go_quiet (fail); try go_wp2))
      go_ret; exact ⟨_, rfl, by unfold counted; rw [HOO.out, ← HE.out]; exact (by first | exact HO.out | exact Ow_drewN HO.out _), (by repeat (first | (with_reducible first | exact HB.out | apply below_alloc | apply pw_below_drewN | apply below_drew1) | exact HB.out))⟩
end Go.Proofs.Ytikedacnijgloaa.Own.G
