/- Families of circle sets: the walks of the reference's and the program's AreFamily; lists of at most 1048576 numbers. -/
import Derived.Test.YtpabfibmpannoaaOwnFamA
namespace Go.Proofs.Ytpabfibmpannoaa.Own.G
open Go.RowKit Go.Proofs.YtpabfibmpannoaaW.PrintWords Go.Proofs.YtpabfibmpannoaaW.PrintLast Go.Proofs.YtpabfibmpannoaaW.PrintMore
set_option linter.unusedVariables false
set_option maxHeartbeats 3200000 in
theorem specAreFamily_calls (v : Int) (A : Option Addr) (c : Nat) (ss : List (List Int)) (w : World) (hv : W64 v) (hr : RdS w A ss) (hc : ss.length ≤ c) (hn : Fit ss) (hw : ∀ x ∈ ss, ∀ y ∈ x, W64 y) :
    Calls Try.prog 10 #[.int .i64 v, .slice A ss.length c] w fun e w' => e = .returned (.tuple #[.bool (FamF v ss).1, .bool (FamF v ss).2]) ∧ Below w.heap.size w w' := by
  have HR := Aside0.mk hr
  have HC := Aside0.mk hc
  have HFT := Aside0.mk hn
  have hn1 := hn.1
  clear hr hc hw hv hn
  have HB := Aside0.mk (Below.refl w.heap.size w)
  by_cases hv : 2 ≤ v ∧ v ≤ 31
  · have HV := Aside0.mk (within_yes hv)
    by_cases hl : 1 ≤ ss.length ∧ ss.length ≤ 6
    · have HT := Aside0.mk (within_yes (show (1 : Int) ≤ (ss.length : Int) ∧ (ss.length : Int) ≤ 6 by omega))
      have HASK := Aside0.mk (show FamAsk v ss from ⟨hv, hl⟩)
      obtain ⟨ad, A00, c00, hA, hx0, _, _⟩ := row_at HR.out (show 0 < ss.length by omega)
      subst hA
      replace hx0 : w.cell? ad = some (.slice A00 (ss.getD 0 []).length c00) := by simpa [Addr.add] using hx0
      obtain ⟨n0, hn0⟩ : ∃ n0 : Nat, (ss.getD 0 []).length = n0 := ⟨_, rfl⟩
      rw [hn0] at hx0
      have HN0 := Aside0.mk hn0
      clear hn0
      have hlp : (0 : Int) < (ss.length : Int) := by omega
      go_enter Try.func10, Try.ntmps10
      go_wp2_with (go_at_call 31; refine (in_calls _ _ _ _).mono ?_; (first | rw [HV.out] | rw [HT.out]); rintro e w' ⟨rfl, ⟨nd, rfl⟩⟩)
      go_loopg [19] ss.length (fun g v19 w' => ∃ i : Nat, v19 = .int .i64 i ∧ Aside0 (i + g = ss.length) ∧ Aside0 (∀ j : Nat, j < i → FamAt v ss j) ∧ Drawn0 w w')
      case atStart => exact ⟨0, rfl, ⟨by omega⟩, ⟨fun j h => absurd h (by omega)⟩, (by repeat (first | exact Drawn0.refl _ | apply Drawn0.step))⟩
      case round =>
        obtain ⟨i, rfl, HI, HA, ⟨m1, rfl⟩⟩ := hrel
        by_cases hlt : i < ss.length
        · obtain ⟨ad2, A0, c0, e2, hx, hc0, hr0⟩ := row_at HR.out hlt
          obtain rfl : ad = ad2 := by injection e2
          clear e2
          have HL := Aside0.mk (Fit_at HFT.out hlt)
          have HR0 := Aside0.mk hr0
          have HC0 := Aside0.mk hc0
          have HD := Aside0.mk (show FamAt v ss i ↔ Circ v (ss.getD i []) ∧ (ss.getD i []).length = n0 by unfold FamAt; rw [HN0.out])
          clear hr0 hc0
          generalize ss.getD i [] = x at *
          by_cases hg : Circ v x
          · have H1 := Aside0.mk (tf_pos hg)
            have HG := Aside0.mk hg
            clear hg
            by_cases hq : x.length = n0
            · have HY := Aside0.mk (HD.out.mpr ⟨HG.out, hq⟩)
              subst hq
              go_wp2_with (go_at_call 32; refine (ciGood_calls _ _ _ x _ (by repeat (first | exact HR0.out | apply Kd.C_drewN)) HC0.out HL.out).mono ?_; rw [H1.out]; rintro e w' ⟨rfl, ⟨nd2, rfl⟩⟩)
              repeat (go_quiet (fail); try go_wp2)
              go_roundg (gk - 1)
              case measure => have := HI.out; omega
              case rel => exact ⟨i + 1, by go_num, ⟨by have := HI.out; omega⟩, ⟨fun j hj => by
                rcases Nat.lt_or_ge j i with h | h
                · exact HA.out j h
                · rw [show j = i by omega]; exact HY.out⟩, (by repeat (first | exact Drawn0.refl _ | apply Drawn0.step))⟩
            · have HF := Aside0.mk (FamF_bad HASK.out (show ¬ Fam v ss from fun h => hq (HD.out.mp (h i hlt)).2))
              have hq2 : ¬ (x.length : Int) = (n0 : Int) := by omega
              go_wp2_with (go_at_call 32; refine (ciGood_calls _ _ _ x _ (by repeat (first | exact HR0.out | apply Kd.C_drewN)) HC0.out HL.out).mono ?_; rw [H1.out]; rintro e w' ⟨rfl, ⟨nd2, rfl⟩⟩)
              repeat (go_quiet (fail); try go_wp2)
              go_ret2
              exact ⟨by rw [HF.out]; rfl, (by repeat (first | (with_reducible first | exact HB.out | apply below_alloc | apply pw_below_drewN | apply below_drew1) | exact HB.out))⟩
          · have H1 := Aside0.mk (tf_neg hg)
            have HF := Aside0.mk (FamF_bad HASK.out (show ¬ Fam v ss from fun h => hg (HD.out.mp (h i hlt)).1))
            clear hg
            go_wp2_with (go_at_call 32; refine (ciGood_calls _ _ _ x _ (by repeat (first | exact HR0.out | apply Kd.C_drewN)) HC0.out HL.out).mono ?_; rw [H1.out]; rintro e w' ⟨rfl, ⟨nd2, rfl⟩⟩)
            repeat (go_quiet (fail); try go_wp2)
            go_ret2
            exact ⟨by rw [HF.out]; rfl, (by repeat (first | (with_reducible first | exact HB.out | apply below_alloc | apply pw_below_drewN | apply below_drew1) | exact HB.out))⟩
        · have HFAM := Aside0.mk (show Fam v ss from fun j hj => HA.out j (by have := HI.out; omega))
          have HF := Aside0.mk (FamF_yes HASK.out HFAM.out)
          go_wp2_with (go_at_call 33; refine (ciLambda_calls v _ c ss _ (fun j hj => row_at (show RdS _ _ ss by repeat (first | exact HR.out | apply Kd.C_drewN)) hj) HC.out (by omega) hv (Fam_pts HFAM.out)).mono ?_; rintro e w1 ⟨rfl, hb⟩; have n0_ := Aside0.mk (below_step (by repeat (first | (with_reducible first | exact HB.out | apply below_alloc | apply pw_below_drewN | apply below_drew1) | exact HB.out)) hb); clear HB hb; have HB := n0_; clear n0_)
          all_goals
            repeat (go_quiet (fail); try go_wp2)
            go_ret2
            exact ⟨by rw [HF.out]; rfl, (by repeat (first | (with_reducible first | exact HB.out | apply below_alloc | apply pw_below_drewN | apply below_drew1) | exact HB.out))⟩
    · have HT := Aside0.mk (within_no (show ¬ ((1 : Int) ≤ (ss.length : Int) ∧ (ss.length : Int) ≤ 6) by omega))
      have HF := Aside0.mk (FamF_no (fun h => hl h.2 : ¬ FamAsk v ss))
      clear hl
      go_enter Try.func10, Try.ntmps10
      go_wp2_with (go_at_call 31; refine (in_calls _ _ _ _).mono ?_; (first | rw [HV.out] | rw [HT.out]); rintro e w' ⟨rfl, ⟨nd, rfl⟩⟩)
      go_ret2
      exact ⟨by rw [HF.out]; rfl, (by repeat (first | (with_reducible first | exact HB.out | apply below_alloc | apply pw_below_drewN | apply below_drew1) | exact HB.out))⟩
  · have HV := Aside0.mk (within_no hv)
    have HF := Aside0.mk (FamF_no (fun h => hv h.1 : ¬ FamAsk v ss))
    clear hv
    go_enter Try.func10, Try.ntmps10
    go_wp2_with (go_at_call 31; refine (in_calls _ _ _ _).mono ?_; rw [HV.out]; rintro e w' ⟨rfl, ⟨nd, rfl⟩⟩)
    go_ret2
    exact ⟨by rw [HF.out]; rfl, (by repeat (first | (with_reducible first | exact HB.out | apply below_alloc | apply pw_below_drewN | apply below_drew1) | exact HB.out))⟩
set_option maxHeartbeats 6400000 in
theorem implAreFamily_calls (v : Int) (A : Option Addr) (c : Nat) (ss : List (List Int)) (w : World) (hv : W64 v) (hr : RdS w A ss) (hc : ss.length ≤ c) (hn : Fit ss) (hw : ∀ x ∈ ss, ∀ y ∈ x, W64 y) :
    Calls Try.prog 12 #[.int .i64 v, .slice A ss.length c] w fun e w' => e = .returned (.tuple #[.bool (FamF v ss).1, .bool (FamF v ss).2]) ∧ Below w.heap.size w w' := by
  have HR := Aside0.mk hr
  have HC := Aside0.mk hc
  have HFT := Aside0.mk hn
  have hn1 := hn.1
  clear hr hc hw hv hn
  have HB := Aside0.mk (Below.refl w.heap.size w)
  by_cases hv : 2 ≤ v ∧ v ≤ 31
  · have HV := Aside0.mk (within_yes hv)
    by_cases hl : 1 ≤ ss.length
    · by_cases hl6 : ss.length ≤ 6
      · have HASK := Aside0.mk (show FamAsk v ss from ⟨hv, hl, hl6⟩)
        obtain ⟨ad, A00, c00, hA, hx0, _, _⟩ := row_at HR.out (show 0 < ss.length by omega)
        subst hA
        replace hx0 : w.cell? ad = some (.slice A00 (ss.getD 0 []).length c00) := by simpa [Addr.add] using hx0
        obtain ⟨n0, hn0⟩ : ∃ n0 : Nat, (ss.getD 0 []).length = n0 := ⟨_, rfl⟩
        rw [hn0] at hx0
        have HX0 := Aside0.mk hx0
        have HN0 := Aside0.mk hn0
        clear hn0 hx0
        have hlp : (0 : Int) < (ss.length : Int) := by omega
        go_enter Try.func12, Try.ntmps12
        go_wp2_with (first | (go_at_call 34; refine (isCircle_calls _ _).mono ?_; rw [HV.out]; rintro e w' ⟨rfl, ⟨nd, rfl⟩⟩) | (at_make; refine Kd.R_make (Kd.int .i64) (w0 := w) w.heap.size 3 rfl (N := 25) rfl 29 _ _ rfl v rfl rfl Try.underlying29 (.int .i64 0) 8 infoInt rfl (by decide) (by omega) 0 (ok := fun _ => True) (okp := fun _ => True) rfl (fun _ hk => hk) trivial (by omega) (by omega) ?mB ?mS ?_; (case mB => exact (by repeat (first | (with_reducible first | exact HB.out | apply below_alloc | apply pw_below_drewN | apply below_drew1) | exact HB.out))); (case mS => exact below_size (by repeat (first | (with_reducible first | exact HB.out | apply below_alloc | apply pw_below_drewN | apply below_drew1) | exact HB.out))); intro v1 w1 ho_ hb_ hg_ hnew_; have HO := Aside0.mk ho_; have n0_ := Aside0.mk hb_; clear HB; have HB := n0_; clear n0_ ho_ hb_ hg_ hnew_))
        obtain ⟨g, cap, rfl, hgb, _, _, _⟩ := Kd.R_form HO.out (by simp; omega)
        obtain ⟨n, hnv⟩ : ∃ n : Nat, (n : Int) = v := ⟨v.toNat, by omega⟩
        have HNV := Aside0.mk hnv
        have hrl : (List.replicate v.toNat (0 : Int)).length = n := by rw [List.length_replicate]; omega
        have hh := HO.out
        rw [hrl] at hh
        rw [hrl]
        clear HO hnv hrl
        have HO := Aside0.mk hh
        clear hh
        go_loopg [28] ss.length (fun g' v28 w' => ∃ (i : Nat) (xs : List Int), v28 = .int .i64 i ∧ Aside0 (i + g' = ss.length) ∧ Aside0 (xs = csum v ss i) ∧ Aside0 (∀ j : Nat, j < i → FamAt v ss j) ∧ Aside0 (Ow w' w.heap.size (.slice (some ⟨g, 0, none⟩) n cap) xs) ∧ Aside0 (Below w.heap.size w w'))
        case atStart => exact ⟨0, _, rfl, ⟨by omega⟩, ⟨rfl⟩, ⟨fun j h => absurd h (by omega)⟩, ⟨(by first | exact HO.out | exact Ow_drewN HO.out _)⟩, ⟨(by repeat (first | (with_reducible first | exact HB.out | apply below_alloc | apply pw_below_drewN | apply below_drew1) | exact HB.out))⟩⟩
        case round =>
          clear HO HB
          obtain ⟨i, xs, rfl, HI, HXS, HA, HO, HB⟩ := hrel
          obtain ⟨gi, rfl⟩ : ∃ gi : Nat, gi = gk := ⟨_, rfl⟩
          by_cases hlt : i < ss.length
          · obtain ⟨ad2, A0, c0, e2, hx, hc0, hr0⟩ := row_at HR.out hlt
            obtain rfl : ad = ad2 := by injection e2
            clear e2
            have hx0 := HX0.out
            replace hx := (HB.out.cell (World.block_lt_of_cell? w _ hx)).trans hx
            replace hx0 := (HB.out.cell (World.block_lt_of_cell? w _ hx0)).trans hx0
            have HL := Aside0.mk (Fit_at HFT.out hlt)
            have HR0 := Aside0.mk hr0
            have HC0 := Aside0.mk hc0
            have HD := Aside0.mk (show FamAt v ss i ↔ Circ v (ss.getD i []) ∧ (ss.getD i []).length = n0 by unfold FamAt; rw [HN0.out])
            have HCS := Aside0.mk (show csum v ss (i + 1) = cadd (ss.getD i []) v (ss.getD i []).length (csum v ss i) from rfl)
            clear hr0 hc0
            generalize ss.getD i [] = x at *
            by_cases hg : Circ v x
            · have H1 := Aside0.mk (tf_pos hg)
              have HG := Aside0.mk hg
              have hxp := hg.1.2.1.1
              clear hg
              by_cases hq : x.length = n0
              · have HY := Aside0.mk (HD.out.mpr ⟨HG.out, hq⟩)
                subst hq
                go_upto_region 9 with (go_at_call 35; refine (IsCircleSet_calls _ _ _ x _ (by repeat (first | exact Kd.C_below HR0.out HB.out | apply Kd.C_drewN)) HC0.out HL.out).mono ?_; rw [H1.out]; rintro e w' ⟨rfl, ⟨nd2, rfl⟩⟩)
                have HXL := Aside0.mk (show xs.length = n by rw [HXS.out, csum_length]; have := HNV.out; omega)
                have HXB := Aside0.mk (show Bnd 400 xs by rw [HXS.out]; exact Bnd_mono (csum_bnd2 hv.1 HA.out) (by omega))
                go_wp2_with (go_at_call 36; refine (counts_calls v A0 c0 x _ (by repeat (first | exact Kd.C_below HR0.out HB.out | apply Kd.C_drewN)) HC0.out (Circ_pts HG.out) hxp).mono ?_; rintro e w3 ⟨u, rfl, ho, hb⟩; have m0_ := Aside0.mk (Ow_below (by first | exact HO.out | exact Ow_drewN HO.out _) hb); have HAP := Aside0.mk (Apart_new (by first | exact HO.out | exact Ow_drewN HO.out _) ho); have HDo := Aside0.mk (Ow_lower ho (below_size (by repeat (first | (with_reducible first | exact HB.out | apply below_alloc | apply pw_below_drewN | apply below_drew1) | exact HB.out)))); have n1_ := Aside0.mk (below_step (by repeat (first | (with_reducible first | exact HB.out | apply below_alloc | apply pw_below_drewN | apply below_drew1) | exact HB.out)) hb); clear HO HB ho hb; have HO := m0_; have HB := n1_; clear m0_ n1_; obtain ⟨A1, c1, e1_, _, _⟩ := Ow_form HDo.out; subst e1_)
                have HDL := Aside0.mk (show (counted v x).length = n by rw [counted_length]; have := HNV.out; omega)
                have HDB := Aside0.mk (counted_bnd (Circ_pts HG.out))
                have HSUM := Aside0.mk (show addTo xs (counted v x) (counted v x).length = csum v ss (i + 1) by rw [HCS.out, ← HXS.out]; exact addTo_counted (by rw [HXS.out, csum_length]))
                generalize counted v x = d at *
                have hdn : d.length ≤ 31 := by rw [HDL.out]; have := HNV.out; omega
                obtain ⟨wo, rfl⟩ : ∃ wo : World, wo = wr := ⟨_, rfl⟩
                clear hx hx0
                go_loopg [49] d.length (fun g' v49 w' => ∃ (j : Nat) (ys : List Int), v49 = .int .i64 j ∧ Aside0 (j + g' = d.length) ∧ Aside0 (ys = addTo xs d j) ∧ Aside0 (Ow w' w.heap.size (.slice (some ⟨g, 0, none⟩) n cap) ys) ∧ Aside0 (Ow w' w.heap.size (.slice A1 d.length c1) d) ∧ Aside0 (Below w.heap.size w w'))
                case atStart => exact ⟨0, _, rfl, ⟨by omega⟩, ⟨rfl⟩, ⟨(by first | exact HO.out | exact Ow_drewN HO.out _)⟩, ⟨by first | exact HDo.out | exact Ow_drewN HDo.out _⟩, ⟨(by repeat (first | (with_reducible first | exact HB.out | apply below_alloc | apply pw_below_drewN | apply below_drew1) | exact HB.out))⟩⟩
                case round =>
                  clear HO HB HDo
                  obtain ⟨j, ys, rfl, HJ, HYS, HO, HDo, HB⟩ := hrel
                  by_cases hj : j < d.length
                  · have hjn : j < n := by rw [← HDL.out]; exact hj
                    obtain ⟨hc1, hf1⟩ := own_cell HO.out hjn
                    obtain ⟨ad3, hA1, hd1⟩ := at_nat (Ow_rd HDo.out) hj
                    subst hA1
                    have hq1 := HDB.out _ (rd_mem hj)
                    have hyj : rd ys (j : Int) = rd xs (j : Int) := by rw [HYS.out, addTo_rd xs d (by rw [HXL.out]; exact hjn), if_neg (by omega)]; omega
                    have hq2 := HXB.out _ (rd_mem (show j < xs.length by rw [HXL.out]; exact hjn))
                    rw [← hyj] at hq2
                    have HP := Aside0.mk (own_put HO.out j (rd ys (j : Int) + rd d (j : Int)))
                    have HYY := Aside0.mk (show ys.set j (rd ys (j : Int) + rd d (j : Int)) = addTo xs d (j + 1) by rw [HYS.out, addTo])
                    clear hyj
                    generalize rd ys (j : Int) = q at *
                    generalize rd d (j : Int) = p at *
                    go_wp2
                    go_roundg (gk - 1)
                    case measure => have := HJ.out; omega
                    case rel => exact ⟨j + 1, _, by go_num, ⟨by have := HJ.out; omega⟩, HYY, ⟨HP.out.1⟩, ⟨Ow_keep HDo.out (v := .slice (some ⟨g, 0, none⟩) n cap) HP.out.2 HAP.out.symm⟩, ⟨below_set HB.out hgb⟩⟩
                  · have HE := Aside0.mk (show ys = csum v ss (i + 1) by rw [HYS.out, show j = d.length by have := HJ.out; omega, HSUM.out])
                    (go_wp2; repeat (go_quiet (fail); try go_wp2))
                    go_roundg (gi - 1)
                    case measure => have := HI.out; omega
                    case rel => exact ⟨i + 1, _, by go_num, ⟨by have := HI.out; omega⟩, HE, ⟨fun j hj => by
                      rcases Nat.lt_or_ge j i with h | h
                      · exact HA.out j h
                      · rw [show j = i by omega]; exact HY.out⟩, ⟨(by first | exact HO.out | exact Ow_drewN HO.out _)⟩, ⟨(by repeat (first | (with_reducible first | exact HB.out | apply below_alloc | apply pw_below_drewN | apply below_drew1) | exact HB.out))⟩⟩
              · have HF := Aside0.mk (FamF_bad HASK.out (show ¬ Fam v ss from fun h => hq (HD.out.mp (h i hlt)).2))
                have hq2 : ¬ (x.length : Int) = (n0 : Int) := by omega
                go_wp2_with (go_at_call 35; refine (IsCircleSet_calls _ _ _ x _ (by repeat (first | exact Kd.C_below HR0.out HB.out | apply Kd.C_drewN)) HC0.out HL.out).mono ?_; rw [H1.out]; rintro e w' ⟨rfl, ⟨nd2, rfl⟩⟩)
                repeat (go_quiet (fail); try go_wp2)
                go_ret2
                exact ⟨by rw [HF.out]; rfl, (by repeat (first | (with_reducible first | exact HB.out | apply below_alloc | apply pw_below_drewN | apply below_drew1) | exact HB.out))⟩
            · have H1 := Aside0.mk (tf_neg hg)
              have HF := Aside0.mk (FamF_bad HASK.out (show ¬ Fam v ss from fun h => hg (HD.out.mp (h i hlt)).1))
              clear hg
              go_wp2_with (go_at_call 35; refine (IsCircleSet_calls _ _ _ x _ (by repeat (first | exact Kd.C_below HR0.out HB.out | apply Kd.C_drewN)) HC0.out HL.out).mono ?_; rw [H1.out]; rintro e w' ⟨rfl, ⟨nd2, rfl⟩⟩)
              repeat (go_quiet (fail); try go_wp2)
              go_ret2
              exact ⟨by rw [HF.out]; rfl, (by repeat (first | (with_reducible first | exact HB.out | apply below_alloc | apply pw_below_drewN | apply below_drew1) | exact HB.out))⟩
          · have hi : i = ss.length := by have := HI.out; omega
            have HFAM := Aside0.mk (show Fam v ss from fun j hj => HA.out j (by omega))
            have HF := Aside0.mk (FamF_yes HASK.out HFAM.out)
            have HE := Aside0.mk (show xs = csum v ss ss.length by rw [HXS.out, hi])
            have HXL := Aside0.mk (show xs.length = n by rw [HXS.out, csum_length]; have := HNV.out; omega)
            have HN2 := Aside0.mk (show 2 ≤ n ∧ n ≤ 31 by have := HNV.out; omega)
            clear hi
            go_wp2_with (go_at_call 37; refine (calls_of_args (by rw [HXL.out]) (even_calls _ cap xs _ (Ow_rd (by first | exact HO.out | exact Ow_drewN HO.out _)) (Ow_cap (by first | exact HO.out | exact Ow_drewN HO.out _)) (by rw [HXL.out]; exact HN2.out.1) (by rw [HXL.out]; have := HN2.out; omega))).mono ?_; rw [HE.out]; rintro e w' ⟨rfl, ⟨nd3, rfl⟩⟩)
            all_goals
              repeat (go_quiet (fail); try go_wp2)
              go_ret2
              exact ⟨by rw [HF.out]; rfl, (by repeat (first | (with_reducible first | exact HB.out | apply below_alloc | apply pw_below_drewN | apply below_drew1) | exact HB.out))⟩
      · have HF := Aside0.mk (FamF_no (fun h => hl6 h.2.2 : ¬ FamAsk v ss))
        go_enter Try.func12, Try.ntmps12
        go_wp2_with (go_at_call 34; refine (isCircle_calls _ _).mono ?_; rw [HV.out]; rintro e w' ⟨rfl, ⟨nd, rfl⟩⟩)
        go_ret2
        exact ⟨by rw [HF.out]; rfl, (by repeat (first | (with_reducible first | exact HB.out | apply below_alloc | apply pw_below_drewN | apply below_drew1) | exact HB.out))⟩
    · have HF := Aside0.mk (FamF_no (fun h => hl h.2.1 : ¬ FamAsk v ss))
      go_enter Try.func12, Try.ntmps12
      go_wp2_with (go_at_call 34; refine (isCircle_calls _ _).mono ?_; rw [HV.out]; rintro e w' ⟨rfl, ⟨nd, rfl⟩⟩)
      go_ret2
      exact ⟨by rw [HF.out]; rfl, (by repeat (first | (with_reducible first | exact HB.out | apply below_alloc | apply pw_below_drewN | apply below_drew1) | exact HB.out))⟩
  · have HV := Aside0.mk (within_no hv)
    have HF := Aside0.mk (FamF_no (fun h => hv h.1 : ¬ FamAsk v ss))
    clear hv
    go_enter Try.func12, Try.ntmps12
    go_wp2_with (go_at_call 34; refine (isCircle_calls _ _).mono ?_; rw [HV.out]; rintro e w' ⟨rfl, ⟨nd, rfl⟩⟩)
    go_ret2
    exact ⟨by rw [HF.out]; rfl, (by repeat (first | (with_reducible first | exact HB.out | apply below_alloc | apply pw_below_drewN | apply below_drew1) | exact HB.out))⟩
end Go.Proofs.Ytpabfibmpannoaa.Own.G
