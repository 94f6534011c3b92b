/- How often a ruler measures each distance: what the reference's ruTimes and the program's measured return; lists of at most 1048576 numbers. -/
import Derived.Test.YtmmnohdokemchaaOwnRulerA
namespace Go.Proofs.Ytmmnohdokemchaa.Own.G
open Go.RowKit Go.Proofs.YtmmnohdokemchaaW.PrintWords Go.Proofs.YtmmnohdokemchaaW.PrintLast Go.Proofs.YtmmnohdokemchaaW.PrintMore
set_option linter.unusedVariables false
def inner (l : List Int) (y : Int) : Nat → List Int → List Int
  | 0, o => o
  | i + 1, o => bump (inner l y i o) (y - rd l (i : Int))
def outer (l : List Int) (n : Nat) : Nat → List Int
  | 0 => List.replicate n 0
  | j + 1 => inner l (rd l (j : Int)) j (outer l n j)
noncomputable def times (l : List Int) : List Int := outer l (span l + 1) l.length
theorem inner_length (l : List Int) (y : Int) (i : Nat) (o : List Int) : (inner l y i o).length = o.length := by
  induction i with
  | zero => rfl
  | succ i ih => rw [inner, bump_length, ih]
theorem outer_length (l : List Int) (n j : Nat) : (outer l n j).length = n := by
  induction j with
  | zero => simp [outer]
  | succ j ih => rw [outer, inner_length, ih]
theorem times_length (l : List Int) : (times l).length = span l + 1 := outer_length _ _ _
theorem inner_bnd {l : List Int} (h : Ruler l) {j i : Nat} {o : List Int} {k : Int} (hj : j < l.length) (hi : i ≤ j) (ho : o.length = span l + 1) (hb : Bnd k o) : Bnd (k + (i : Int)) (inner l (rd l (j : Int)) i o) := by
  induction i with
  | zero => simpa [inner] using hb
  | succ i ih =>
    have hr := Ruler_rd h (show i ≤ j by omega) hj
    have := Bnd_bump (d := rd l (j : Int) - rd l (i : Int)) (ih (by omega)) (by omega) (by rw [inner_length, ho]; omega)
    rw [inner, show k + ((i + 1 : Nat) : Int) = k + (i : Int) + 1 by omega]
    exact this
theorem outer_bnd {l : List Int} (h : Ruler l) {j : Nat} (hj : j ≤ l.length) : Bnd (12 * (j : Int)) (outer l (span l + 1) j) := by
  induction j with
  | zero => exact Bnd_zero _
  | succ j ih =>
    exact Bnd_mono (inner_bnd h (show j < l.length by omega) (Nat.le_refl j) (outer_length _ _ _) (ih (by omega))) (by have := h.1.1; omega)
theorem times_bnd {l : List Int} (h : Ruler l) : Bnd 144 (times l) := Bnd_mono (outer_bnd h (Nat.le_refl _)) (by have := h.1.1; omega)
theorem last_read {w : World} {A : Option Addr} {l : List Int} (h : Rd w A l) (hr : Ruler l) : ∃ (m : Int) (ad : Addr), IntKind.i64.wrap ((l.length : Int) - 1) = m ∧ 0 ≤ m ∧ m < (l.length : Int) ∧ A = some ad ∧ w.cell? (ad.add m.toNat) = some (.int .i64 (span l : Int)) := by
  have hl := hr.1.1
  have hm : IntKind.i64.wrap ((l.length : Int) - 1) = (l.length : Int) - 1 := by rw [i64_w, w64 (by omega) (by omega)]
  obtain ⟨ad, e, hx⟩ := Kd.at_int h ((l.length : Int) - 1) (by omega) (by omega)
  rw [Ruler_span hr] at hx
  exact ⟨_, ad, hm, by omega, by omega, e, hx⟩
theorem ruLength_calls (A : Option Addr) (c : Nat) (l : List Int) (w : World) (hr : Rd w A l) (hd : Ruler l) :
    Calls Try.prog 39 #[.slice A l.length c] w fun e w' => e = .returned (.int .i64 (span l : Int)) ∧ Drawn0 w w' := by
  obtain ⟨m, ad, hm, m0, m1, rfl, hx⟩ := last_read hr hd
  have hlen := hd.1.1
  clear hr hd
  go_enter Try.func39, Try.ntmps39
  (go_wp2; repeat (go_quiet (fail); try go_wp2))
  go_ret
  exact ⟨rfl, (by repeat (first | exact Drawn0.refl _ | apply Drawn0.step))⟩
set_option maxHeartbeats 3200000 in
theorem ruTimes_calls (A : Option Addr) (c : Nat) (l : List Int) (w : World) (hr : Rd w A l) (hc : l.length ≤ c) (hd : Ruler l) :
    Calls Try.prog 38 #[.slice A l.length c] w fun e w' => ∃ v, e = .returned v ∧ Ow w' w.heap.size v (times l) ∧ Below w.heap.size w w' := by
  have HR := Aside0.mk hr
  have HC := Aside0.mk hc
  have HD := Aside0.mk hd
  have hlen := hd.1.1
  obtain ⟨m, ad, hm, m0, m1, rfl, hx⟩ := last_read hr hd
  have hsp := span_le hd
  clear hr hc hd
  have HB := Aside0.mk (Below.refl w.heap.size w)
  go_enter Try.func38, Try.ntmps38
  go_wp2_with (first | (go_at_call 39; refine (ruLength_calls _ _ l _ HR.out HD.out).mono ?_; rintro e w' ⟨rfl, ⟨nd, rfl⟩⟩) | (at_make; refine Kd.R_make (Kd.int .i64) (w0 := w) w.heap.size 3 rfl (N := 11) rfl 25 _ _ rfl ((span l : Int) + 1) rfl rfl Try.underlying25 (.int .i64 0) 8 infoInt rfl (by decide) (by omega) 0 (ok := fun _ => True) (okp := fun _ => True) rfl (fun _ hk => hk) trivial (by omega) (by omega) ?mB ?mS ?_; (case mB => exact (by repeat (first | (with_reducible first | exact HB.out | apply below_alloc | apply pw_below_drewN | apply below_drew1) | exact HB.out))); (case mS => exact below_size (by repeat (first | (with_reducible first | exact HB.out | apply below_alloc | apply pw_below_drewN | apply below_drew1) | exact HB.out))); intro v1 w1 ho_ hb_ hg_ hnew_; have HO := Aside0.mk ho_; have n0_ := Aside0.mk hb_; clear HB; have HB := n0_; clear n0_ ho_ hb_ hg_ hnew_))
  clear hx hm
  obtain ⟨g, cap, rfl, hgb, _, _, _⟩ := Kd.R_form HO.out (by simp)
  have hrl : (List.replicate ((span l : Int) + 1).toNat (0 : Int)).length = span l + 1 := by simp
  have h0 : List.replicate ((span l : Int) + 1).toNat (0 : Int) = outer l (span l + 1) 0 := by rw [outer]; congr 1
  have h1 := HO.out
  rw [hrl, h0] at h1
  clear HO
  have HO := Aside0.mk h1
  rw [hrl]
  clear h0 hrl h1
  go_loopg [14] l.length (fun g' v14 w' => ∃ (j : Nat) (xs : List Int), v14 = .int .i64 j ∧ Aside0 (j + g' = l.length) ∧ Aside0 (xs = outer l (span l + 1) j) ∧ Aside0 (Ow w' w.heap.size (.slice (some ⟨g, 0, none⟩) (span l + 1) cap) xs) ∧ Aside0 (Below w.heap.size w w'))
  case atStart => exact ⟨0, _, rfl, ⟨by omega⟩, ⟨rfl⟩, ⟨by first | exact HO.out | exact Ow_drewN HO.out _⟩, ⟨(by repeat (first | (with_reducible first | exact HB.out | apply below_alloc | apply pw_below_drewN | apply below_drew1) | exact HB.out))⟩⟩
  case round =>
    clear HO HB
    obtain ⟨j, xs, rfl, HI, HX, HO, HB⟩ := hrel
    obtain ⟨gj, rfl⟩ : ∃ gj : Nat, gj = gk := ⟨_, rfl⟩
    by_cases hlt : j < l.length
    · obtain ⟨ad1, e1, hx⟩ := at_nat HR.out hlt
      obtain rfl : ad = ad1 := by injection e1
      clear e1
      replace hx := (HB.out.cell (World.block_lt_of_cell? w _ hx)).trans hx
      have hcut := cut_nat (some ad) c l j (by omega) HC.out
      have hy := Ruler_rd HD.out (Nat.le_refl j) hlt
      obtain ⟨y, hye⟩ : ∃ y : Int, rd l (j : Int) = y := ⟨_, rfl⟩
      rw [hye] at hx hy
      have HY := Aside0.mk hye
      have HXB := Aside0.mk (show Bnd 132 xs by rw [HX.out]; exact Bnd_mono (outer_bnd HD.out (by omega)) (by omega))
      have HXL := Aside0.mk (show xs.length = span l + 1 by rw [HX.out, outer_length])
      clear hye
      go_wp2
      repeat (go_quiet (fail); try go_wp2)
      obtain ⟨wo, rfl⟩ : ∃ wo : World, wo = wr := ⟨_, rfl⟩
      clear hx
      go_loopg [23] j (fun g' v23 w' => ∃ (i : Nat) (ys : List Int), v23 = .int .i64 i ∧ Aside0 (i + g' = j) ∧ Aside0 (ys = inner l y i xs) ∧ Aside0 (Ow w' w.heap.size (.slice (some ⟨g, 0, none⟩) (span l + 1) cap) ys) ∧ Aside0 (Below w.heap.size w w'))
      case atStart => exact ⟨0, _, rfl, ⟨by omega⟩, ⟨rfl⟩, ⟨by first | exact HO.out | exact Ow_drewN HO.out _⟩, ⟨(by repeat (first | (with_reducible first | exact HB.out | apply below_alloc | apply pw_below_drewN | apply below_drew1) | exact HB.out))⟩⟩
      case round =>
        clear HO HB
        obtain ⟨i, ys, rfl, HJ, HYS, HO, HB⟩ := hrel
        by_cases hi : i < j
        · obtain ⟨ad2, e2, hx⟩ := at_nat HR.out (show i < l.length by omega)
          obtain rfl : ad = ad2 := by injection e2
          clear e2
          replace hx := (HB.out.cell (World.block_lt_of_cell? w _ hx)).trans hx
          have hx3 := Ruler_rd HD.out (show i ≤ j by omega) hlt
          have h2 : rd l (i : Int) ≤ y := by rw [← HY.out]; exact hx3.2.1
          have h1 : 0 ≤ rd l (i : Int) := hx3.1
          have hyl : ys.length = span l + 1 := by rw [HYS.out, inner_length, HXL.out]
          have d0 : 0 ≤ y - rd l (i : Int) := by omega
          have d1 : y - rd l (i : Int) < (span l : Int) + 1 := by omega
          obtain ⟨hc1, hf1⟩ := own_celli HO.out (y - rd l (i : Int)) d0 (by omega)
          have hq := Bnd_rd (show Bnd 144 ys by
            rw [HYS.out, ← HY.out]
            exact Bnd_mono (inner_bnd HD.out hlt (show i ≤ j by omega) HXL.out HXB.out) (by omega)) d0 (by omega)
          have HP := Aside0.mk (Kd.R_putg HO.out (y - rd l (i : Int)) (rd ys (y - rd l (i : Int)) + 1))
          have HYB := Aside0.mk (show ys.set (y - rd l (i : Int)).toNat (rd ys (y - rd l (i : Int)) + 1) = inner l y (i + 1) xs by rw [HYS.out, inner]; rfl)
          generalize rd ys (y - rd l (i : Int)) = q at hc1 hq HP HYB
          clear hx3 hyl
          go_wp2
          go_roundg (gk - 1)
          case measure => have := HJ.out; omega
          case rel => exact ⟨i + 1, _, by go_num, ⟨by have := HJ.out; omega⟩, HYB, ⟨HP.out.1⟩, ⟨below_set HB.out hgb⟩⟩
        · have HE := Aside0.mk (show ys = outer l (span l + 1) (j + 1) by rw [HYS.out, show i = j by have := HJ.out; omega, HX.out, outer, HY.out])
          (go_wp2; repeat (go_quiet (fail); try go_wp2))
          go_roundg (gj - 1)
          case measure => have := HI.out; omega
          case rel => exact ⟨j + 1, _, by go_num, ⟨by have := HI.out; omega⟩, HE, ⟨by first | exact HO.out | exact Ow_drewN HO.out _⟩, ⟨(by repeat (first | (with_reducible first | exact HB.out | apply below_alloc | apply pw_below_drewN | apply below_drew1) | exact HB.out))⟩⟩
    · have HE := Aside0.mk (show xs = times l by rw [HX.out, show j = l.length by have := HI.out; omega]; rfl)
      (go_wp2; repeat (go_quiet (fail); try go_wp2))
      go_ret
      exact ⟨_, rfl, by rw [← HE.out]; first | exact HO.out | exact Ow_drewN HO.out _, (by repeat (first | (with_reducible first | exact HB.out | apply below_alloc | apply pw_below_drewN | apply below_drew1) | exact HB.out))⟩
set_option maxHeartbeats 3200000 in
theorem measured_calls (A : Option Addr) (c : Nat) (l : List Int) (w : World) (hr : Rd w A l) (hc : l.length ≤ c) (hd : Ruler l) :
    Calls Try.prog 32 #[.slice A l.length c] w fun e w' => ∃ v, e = .returned v ∧ Ow w' w.heap.size v (times l) ∧ Below w.heap.size w w' := by
  have HR := Aside0.mk hr
  have HC := Aside0.mk hc
  have HD := Aside0.mk hd
  have hlen := hd.1.1
  obtain ⟨m, ad, hm, m0, m1, rfl, hx⟩ := last_read hr hd
  have hsp := span_le hd
  clear hr hc hd
  have HB := Aside0.mk (Below.refl w.heap.size w)
  go_enter Try.func32, Try.ntmps32
  go_wp2_with (first | (go_at_call 39; refine (ruLength_calls _ _ l _ HR.out HD.out).mono ?_; rintro e w' ⟨rfl, ⟨nd, rfl⟩⟩) | (at_make; refine Kd.R_make (Kd.int .i64) (w0 := w) w.heap.size 3 rfl (N := 15) rfl 25 _ _ rfl ((span l : Int) + 1) rfl rfl Try.underlying25 (.int .i64 0) 8 infoInt rfl (by decide) (by omega) 0 (ok := fun _ => True) (okp := fun _ => True) rfl (fun _ hk => hk) trivial (by omega) (by omega) ?mB ?mS ?_; (case mB => exact (by repeat (first | (with_reducible first | exact HB.out | apply below_alloc | apply pw_below_drewN | apply below_drew1) | exact HB.out))); (case mS => exact below_size (by repeat (first | (with_reducible first | exact HB.out | apply below_alloc | apply pw_below_drewN | apply below_drew1) | exact HB.out))); intro v1 w1 ho_ hb_ hg_ hnew_; have HO := Aside0.mk ho_; have n0_ := Aside0.mk hb_; clear HB; have HB := n0_; clear n0_ ho_ hb_ hg_ hnew_))
  clear hx hm
  obtain ⟨g, cap, rfl, hgb, _, _, _⟩ := Kd.R_form HO.out (by simp)
  have hrl : (List.replicate ((span l : Int) + 1).toNat (0 : Int)).length = span l + 1 := by simp
  have h0 : List.replicate ((span l : Int) + 1).toNat (0 : Int) = outer l (span l + 1) 0 := by rw [outer]; congr 1
  have h1 := HO.out
  rw [hrl, h0] at h1
  clear HO
  have HO := Aside0.mk h1
  rw [hrl]
  clear h0 hrl h1
  go_loopg [18] l.length (fun g' v14 w' => ∃ (j : Nat) (xs : List Int), v14 = .int .i64 j ∧ Aside0 (j + g' = l.length) ∧ Aside0 (xs = outer l (span l + 1) j) ∧ Aside0 (Ow w' w.heap.size (.slice (some ⟨g, 0, none⟩) (span l + 1) cap) xs) ∧ Aside0 (Below w.heap.size w w'))
  case atStart => exact ⟨0, _, rfl, ⟨by omega⟩, ⟨rfl⟩, ⟨by first | exact HO.out | exact Ow_drewN HO.out _⟩, ⟨(by repeat (first | (with_reducible first | exact HB.out | apply below_alloc | apply pw_below_drewN | apply below_drew1) | exact HB.out))⟩⟩
  case round =>
    clear HO HB
    obtain ⟨j, xs, rfl, HI, HX, HO, HB⟩ := hrel
    obtain ⟨gj, rfl⟩ : ∃ gj : Nat, gj = gk := ⟨_, rfl⟩
    by_cases hlt : j < l.length
    · obtain ⟨ad1, e1, hx⟩ := at_nat HR.out hlt
      obtain rfl : ad = ad1 := by injection e1
      clear e1
      replace hx := (HB.out.cell (World.block_lt_of_cell? w _ hx)).trans hx
      have hcut := cut_nat (some ad) c l j (by omega) HC.out
      have hy := Ruler_rd HD.out (Nat.le_refl j) hlt
      obtain ⟨y, hye⟩ : ∃ y : Int, rd l (j : Int) = y := ⟨_, rfl⟩
      rw [hye] at hx hy
      have HY := Aside0.mk hye
      have HXB := Aside0.mk (show Bnd 132 xs by rw [HX.out]; exact Bnd_mono (outer_bnd HD.out (by omega)) (by omega))
      have HXL := Aside0.mk (show xs.length = span l + 1 by rw [HX.out, outer_length])
      clear hye
      go_wp2
      repeat (go_quiet (fail); try go_wp2)
      obtain ⟨wo, rfl⟩ : ∃ wo : World, wo = wr := ⟨_, rfl⟩
      clear hx
      go_loopg [27] j (fun g' v23 w' => ∃ (i : Nat) (ys : List Int), v23 = .int .i64 i ∧ Aside0 (i + g' = j) ∧ Aside0 (ys = inner l y i xs) ∧ Aside0 (Ow w' w.heap.size (.slice (some ⟨g, 0, none⟩) (span l + 1) cap) ys) ∧ Aside0 (Below w.heap.size w w'))
      case atStart => exact ⟨0, _, rfl, ⟨by omega⟩, ⟨rfl⟩, ⟨by first | exact HO.out | exact Ow_drewN HO.out _⟩, ⟨(by repeat (first | (with_reducible first | exact HB.out | apply below_alloc | apply pw_below_drewN | apply below_drew1) | exact HB.out))⟩⟩
      case round =>
        clear HO HB
        obtain ⟨i, ys, rfl, HJ, HYS, HO, HB⟩ := hrel
        by_cases hi : i < j
        · obtain ⟨ad2, e2, hx⟩ := at_nat HR.out (show i < l.length by omega)
          obtain rfl : ad = ad2 := by injection e2
          clear e2
          replace hx := (HB.out.cell (World.block_lt_of_cell? w _ hx)).trans hx
          have hx3 := Ruler_rd HD.out (show i ≤ j by omega) hlt
          have h2 : rd l (i : Int) ≤ y := by rw [← HY.out]; exact hx3.2.1
          have h1 : 0 ≤ rd l (i : Int) := hx3.1
          have hyl : ys.length = span l + 1 := by rw [HYS.out, inner_length, HXL.out]
          have d0 : 0 ≤ y - rd l (i : Int) := by omega
          have d1 : y - rd l (i : Int) < (span l : Int) + 1 := by omega
          obtain ⟨hc1, hf1⟩ := own_celli HO.out (y - rd l (i : Int)) d0 (by omega)
          have hq := Bnd_rd (show Bnd 144 ys by
            rw [HYS.out, ← HY.out]
            exact Bnd_mono (inner_bnd HD.out hlt (show i ≤ j by omega) HXL.out HXB.out) (by omega)) d0 (by omega)
          have HP := Aside0.mk (Kd.R_putg HO.out (y - rd l (i : Int)) (rd ys (y - rd l (i : Int)) + 1))
          have HYB := Aside0.mk (show ys.set (y - rd l (i : Int)).toNat (rd ys (y - rd l (i : Int)) + 1) = inner l y (i + 1) xs by rw [HYS.out, inner]; rfl)
          generalize rd ys (y - rd l (i : Int)) = q at hc1 hq HP HYB
          clear hx3 hyl
          go_wp2
          go_roundg (gk - 1)
          case measure => have := HJ.out; omega
          case rel => exact ⟨i + 1, _, by go_num, ⟨by have := HJ.out; omega⟩, HYB, ⟨HP.out.1⟩, ⟨below_set HB.out hgb⟩⟩
        · have HE := Aside0.mk (show ys = outer l (span l + 1) (j + 1) by rw [HYS.out, show i = j by have := HJ.out; omega, HX.out, outer, HY.out])
          (go_wp2; repeat (go_quiet (fail); try go_wp2))
          go_roundg (gj - 1)
          case measure => have := HI.out; omega
          case rel => exact ⟨j + 1, _, by go_num, ⟨by have := HI.out; omega⟩, HE, ⟨by first | exact HO.out | exact Ow_drewN HO.out _⟩, ⟨(by repeat (first | (with_reducible first | exact HB.out | apply below_alloc | apply pw_below_drewN | apply below_drew1) | exact HB.out))⟩⟩
    · have HE := Aside0.mk (show xs = times l by rw [HX.out, show j = l.length by have := HI.out; omega]; rfl)
      (go_wp2; repeat (go_quiet (fail); try go_wp2))
      go_ret
      exact ⟨_, rfl, by rw [← HE.out]; first | exact HO.out | exact Ow_drewN HO.out _, (by repeat (first | (with_reducible first | exact HB.out | apply below_alloc | apply pw_below_drewN | apply below_drew1) | exact HB.out))⟩
end Go.Proofs.Ytmmnohdokemchaa.Own.G
