/- Difference triples: the walk of the reference's trDifferences; at most 10 triples. -/
import Derived.Test.YtpabfibmpannoaaOwnTrD
import Derived.Test.YtpabfibmpannoaaOwnLabelA
import Derived.Test.YtpabfibmpannoaaOwnTrL
namespace Go.Proofs.Ytpabfibmpannoaa.Own.G
open Go.RowKit Go.Proofs.YtpabfibmpannoaaW.PrintWords Go.Proofs.YtpabfibmpannoaaW.PrintLast Go.Proofs.YtpabfibmpannoaaW.PrintMore
set_option linter.unusedVariables false
theorem cell_spot3 {w : World} {a : Addr} {v : Value} (h : w.cell? a = some v) : a = ⟨a.block, a.off, none⟩ := by
  obtain ⟨b, o, s⟩ := a
  cases s with
  | none => rfl
  | some x =>
    unfold World.cell? at h
    split at h
    · simp at h
    · cases h
theorem Rd_at3 {w : World} {A : Option Addr} {l : List Int} (h : Rd w A l) (hp : 0 < l.length) : ∃ b off, A = some ⟨b, off, none⟩ ∧ ∀ j, j < l.length → w.cell? ⟨b, off + j, none⟩ = some (.int .i64 (l.getD j 0)) := by
  obtain ⟨ad, e, hx⟩ := at_nat h hp
  have hs := cell_spot3 hx
  have hs2 : ad = ⟨ad.block, ad.off, none⟩ := by
    obtain ⟨b, o, s⟩ := ad
    simp [Addr.add] at hs
    subst hs
    rfl
  refine ⟨ad.block, ad.off, by rw [← hs2]; exact e, fun j hj => ?_⟩
  obtain ⟨ad', e', hx'⟩ := at_nat h hj
  obtain rfl : ad = ad' := by rw [e] at e'; injection e'
  have : (⟨ad.block, ad.off + j, none⟩ : Addr) = ad.add j := by
    obtain ⟨b, o, s⟩ := ad
    injection hs2 with _ _ h3
    subst h3
    simp [Addr.add]
  rw [this, hx']
  simp [rd]
theorem row_at3 {w : World} {A : Option Addr} {l : List (List Int)} (h : RdS w A l) {i : Nat} (hi : i < l.length) : ∃ b f A0 c0, A = some ⟨b, f, none⟩ ∧ w.cell? ⟨b, f + i, none⟩ = some (.slice A0 (l.getD i []).length c0) ∧ (l.getD i []).length ≤ c0 ∧ Rd w A0 (l.getD i []) := by
  obtain ⟨ad1, A1, c1, e1, hx1, _, _⟩ := row_at h (show 0 < l.length by omega)
  obtain ⟨ad, A0, c0, e, hx, hc, hr⟩ := row_at h hi
  obtain rfl : ad1 = ad := by rw [e1] at e; injection e
  rw [show ad1.add 0 = ad1 by simp [Addr.add]] at hx1
  have hs := cell_spot3 hx1
  have ha : ad1.add i = ⟨ad1.block, ad1.off + i, none⟩ := by
    unfold Addr.add
    split
    · rename_i h0
      subst h0
      exact hs
    · rfl
  rw [ha] at hx
  exact ⟨ad1.block, ad1.off, A0, c0, by rw [← hs]; exact e1, hx, hc, hr⟩
theorem row_good {v : Int} {n : Nat} {t : List Int} (h1 : t.length = 3) (h2 : AllIn 1 (3 * (n : Int)) t) (h3 : rd t 0 ≤ rd t 1) (h4 : rd t 1 ≤ rd t 2) (h5 : rd t 0 + rd t 1 = rd t 2 ∨ rd t 0 + rd t 1 + rd t 2 = v) : RowI v n t :=
  ⟨h1, (h2 0 (by omega)).1, h3, h4, (h2 2 (by omega)).2, h5⟩
theorem row_all {v : Int} {n : Nat} {t : List Int} (h : RowI v n t) : AllIn 1 (3 * (n : Int)) t := fun j hj => RowI_rd h (by have := h.1; omega)
set_option maxRecDepth 8000 in
set_option maxHeartbeats 12800000 in
theorem trDifferences_calls (v : Int) (ts : List (List Int)) (A : Option Addr) (c : Nat) (w : World) (hv : W64 v) (hr : RdS w A ts) (hc : ts.length ≤ c) (hn : ts.length ≤ 10) (hfit : ∀ i : Nat, i < ts.length → (row ts i).length ≤ 1048576) :
    Calls Try.prog 46 #[.int .i64 v, .slice A ts.length c] w fun e w' => e = .returned (.bool (tf (Are v ts))) ∧ Below w.heap.size w w' := by
  have HR := Aside0.mk hr
  have HC := Aside0.mk hc
  have HFIT := Aside0.mk hfit
  clear hr hc hfit
  have HB := Aside0.mk (Below.refl w.heap.size w)
  by_cases hv1 : 7 ≤ v ∧ v ≤ 40
  · have HT := Aside0.mk (within_yes hv1)
    by_cases hv2 : v = 6 * (ts.length : Int) + 1
    · have hvb : (v != 6 * (ts.length : Int) + 1) = false := by rw [hv2]; simp
      have HV2 := Aside0.mk hv2
      clear hv2
      go_enter Try.func46, Try.ntmps46
      go_wp2_with (go_at_call 31; refine (in_calls _ _ _ _).mono ?_; rw [HT.out]; rintro e w' ⟨rfl, ⟨nd, rfl⟩⟩)
      repeat (go_quiet (fail); try go_wp2_with fail)
      go_loopg [22] ts.length (fun g v22 w' => ∃ i : Nat, v22 = .int .i64 i ∧ Aside0 (i + g = ts.length) ∧ Aside0 (∀ j : Nat, j < i → RowI v ts.length (row ts j)) ∧ Aside0 (∀ j : Nat, 0 < j → j < i → cmpL (row ts (j - 1)) (row ts j) < 0) ∧ Aside0 (Below w.heap.size w w'))
      case atStart => exact ⟨0, rfl, ⟨by omega⟩, ⟨fun j h => absurd h (by omega)⟩, ⟨fun j _ h => absurd h (by omega)⟩, ⟨(by repeat (first | (with_reducible first | exact HB.out | apply below_alloc | apply pw_below_drewN | apply below_drew1) | exact HB.out))⟩⟩
      case round =>
        clear HB
        obtain ⟨i, rfl, HI, HRI, HOR, HB⟩ := hrel
        by_cases hlt : i < ts.length
        · obtain ⟨bs, fs, A0, c0, rfl, hx, hc0, hr0⟩ := row_at3 HR.out hlt
          replace hx := (HB.out.cell (World.block_lt_of_cell? w _ hx)).trans hx
          have HR0 := Aside0.mk hr0
          have HC0 := Aside0.mk hc0
          have HBAD := Aside0.mk (show ¬ RowI v ts.length (row ts i) → tf (Are v ts) = false from fun h => tf_neg (fun h2 => h (h2.2.2.1 i hlt)))
          have HBAO := Aside0.mk (show 0 < i → ¬ cmpL (row ts (i - 1)) (row ts i) < 0 → tf (Are v ts) = false from fun h0 h => tf_neg (fun h2 => h (h2.2.1 i h0 hlt)))
          have hfi := HFIT.out i hlt
          clear hr0 hc0
          unfold row at HBAD HBAO hfi
          obtain ⟨t, ht⟩ : ∃ t, ts.getD i [] = t := ⟨_, rfl⟩
          have HROW := Aside0.mk (show row ts i = t from ht)
          rw [ht] at hx HR0 HC0 HBAD HBAO hfi
          clear ht
          by_cases h1 : t.length = 3
          · have HT3 := Aside0.mk h1
            have hl3b : ((t.length : Int) != 3) = false := by rw [h1]; rfl
            have hb3 : 2 < t.length ∧ t.length < 4 := by omega
            obtain ⟨b0, f0, hA0, hcell⟩ := Rd_at3 (Kd.C_below HR0.out HB.out) (by rw [h1]; decide)
            subst hA0
            have hx0 : wr.cell? ⟨b0, f0, none⟩ = some (.int .i64 (rd t 0)) := hcell 0 (by rw [h1]; decide)
            have hx1 : wr.cell? ⟨b0, f0 + 1, none⟩ = some (.int .i64 (rd t 1)) := hcell 1 (by rw [h1]; decide)
            have hx2 : wr.cell? ⟨b0, f0 + 2, none⟩ = some (.int .i64 (rd t 2)) := hcell 2 (by rw [h1]; decide)
            have HGOOD := Aside0.mk (fun h2 h3 h4 h5 => row_good (v := v) (n := ts.length) h1 h2 h3 h4 h5)
            clear h1 hcell
            by_cases h2 : AllIn 1 (3 * (ts.length : Int)) t
            · have HALL := Aside0.mk (tf_pos h2)
              have HALLQ := Aside0.mk (show ∀ n : Nat, Calls Try.prog 58 #[.slice (some ⟨b0, f0, none⟩) t.length c0, .int .i64 1, .int .i64 (3 * (ts.length : Int))] (wr.drewN n) (fun e w' => e = .returned (.bool true) ∧ Drawn0 (wr.drewN n) w') from fun n => by
                have h := all_calls (some ⟨b0, f0, none⟩) c0 t 1 (3 * (ts.length : Int)) (wr.drewN n) (Kd.C_below (Kd.C_below HR0.out HB.out) (pw_below_drewN (Below.refl _ _) n)) HC0.out (by rw [HT3.out]; decide)
                rw [HALL.out] at h
                exact h)
              have HA2 := Aside0.mk h2
              have r0 := h2 0 (by rw [HT3.out]; decide)
              have r1 := h2 1 (by rw [HT3.out]; decide)
              have r2 := h2 2 (by rw [HT3.out]; decide)
              rw [show (((0 : Nat) : Int)) = 0 from rfl] at r0
              rw [show (((1 : Nat) : Int)) = 1 from rfl] at r1
              rw [show (((2 : Nat) : Int)) = 2 from rfl] at r2
              have HP0 := Aside0.mk (show RowI v ts.length t → (1 ≤ rd t 0 ∧ rd t 0 ≤ rd t 1 ∧ rd t 1 ≤ rd t 2) ∧ (rd t 0 + rd t 1 = rd t 2 ∨ rd t 0 + rd t 1 + rd t 2 = v) from fun h => ⟨⟨h.2.1, h.2.2.1, h.2.2.2.1⟩, h.2.2.2.2.2⟩)
              clear h2
              generalize rd t 0 = x at *
              generalize rd t 1 = y at *
              generalize rd t 2 = z at *
              by_cases h3 : y < x
              · have HF := Aside0.mk (HBAD.out (fun h => by have := (HP0.out h).1; omega))
                go_wp2_with fail
                repeat (go_quiet ((first | (go_at_call 58; exact quiet_drawn (HALLQ.out _)) | (go_at_call 68; exact quiet_drawn (HLSQ.out _)))); try go_wp2_with fail)
                go_ret
                exact ⟨ret_bool HF.out.symm, (by repeat (first | (with_reducible first | exact HB.out | apply below_alloc | apply pw_below_drewN | apply below_drew1) | exact HB.out))⟩
              · have h3' : x ≤ y := by omega
                have hd3 : decide (y < x) = false := decide_eq_false h3
                clear h3
                by_cases h4 : z < y
                · have HF := Aside0.mk (HBAD.out (fun h => by have := (HP0.out h).1; omega))
                  go_wp2_with fail
                  repeat (go_quiet ((first | (go_at_call 58; exact quiet_drawn (HALLQ.out _)) | (go_at_call 68; exact quiet_drawn (HLSQ.out _)))); try go_wp2_with fail)
                  go_ret
                  exact ⟨ret_bool HF.out.symm, (by repeat (first | (with_reducible first | exact HB.out | apply below_alloc | apply pw_below_drewN | apply below_drew1) | exact HB.out))⟩
                · have h4' : y ≤ z := by omega
                  have hd4 : decide (z < y) = false := decide_eq_false h4
                  clear h4
                  by_cases h5 : x + y = z ∨ x + y + z = v
                  · have HRG := Aside0.mk (HGOOD.out HA2.out h3' h4' h5)
                    have hne : (x + y != z && x + y + z != v) = false := by
                      rcases h5 with h | h
                      · rw [h]; simp
                      · rw [h]; simp
                    have HH5 := Aside0.mk h5
                    have hpick : (x + y != z) = false ∨ ((x + y != z) = true ∧ (x + y + z != v) = false) := by
                      rcases (show x + y = z ∨ (x + y ≠ z ∧ x + y + z = v) by omega) with h | h
                      · exact .inl (by rw [h]; simp)
                      · exact .inr ⟨bne_iff_ne.mpr h.1, by rw [h.2]; simp⟩
                    clear hne h5
                    rcases Nat.eq_zero_or_pos i with hi0 | hi0
                    · subst hi0
                      rw [Nat.add_zero] at hx
                      rcases hpick with hp1 | ⟨hp1, hp2⟩
                      · go_wp2_with fail
                        repeat (go_quiet ((first | (go_at_call 58; exact quiet_drawn (HALLQ.out _)) | (go_at_call 68; exact quiet_drawn (HLSQ.out _)))); try go_wp2_with fail)
                        go_roundg (gk - 1)
                        case measure => have := HI.out; omega
                        case rel => exact ⟨1, by go_num, ⟨by have := HI.out; omega⟩, ⟨fun j hj => by
                          rcases Nat.lt_or_ge j (0) with h | h
                          · exact HRI.out j h
                          · rw [show j = 0 by omega, HROW.out]; exact HRG.out⟩, ⟨fun j h0 hj => by
                          rcases Nat.lt_or_ge j (0) with h | h
                          · exact HOR.out j h0 h
                          · omega⟩, ⟨(by repeat (first | (with_reducible first | exact HB.out | apply below_alloc | apply pw_below_drewN | apply below_drew1) | exact HB.out))⟩⟩
                      · go_wp2_with fail
                        repeat (go_quiet ((first | (go_at_call 58; exact quiet_drawn (HALLQ.out _)) | (go_at_call 68; exact quiet_drawn (HLSQ.out _)))); try go_wp2_with fail)
                        go_roundg (gk - 1)
                        case measure => have := HI.out; omega
                        case rel => exact ⟨1, by go_num, ⟨by have := HI.out; omega⟩, ⟨fun j hj => by
                          rcases Nat.lt_or_ge j (0) with h | h
                          · exact HRI.out j h
                          · rw [show j = 0 by omega, HROW.out]; exact HRG.out⟩, ⟨fun j h0 hj => by
                          rcases Nat.lt_or_ge j (0) with h | h
                          · exact HOR.out j h0 h
                          · omega⟩, ⟨(by repeat (first | (with_reducible first | exact HB.out | apply below_alloc | apply pw_below_drewN | apply below_drew1) | exact HB.out))⟩⟩
                    · obtain ⟨p, rfl⟩ : ∃ p, i = p + 1 := ⟨i - 1, by omega⟩
                      obtain ⟨bs9, fs9, Ap, cp, had9, hxp, hcp, hrp⟩ := row_at3 HR.out (show p < ts.length by omega)
                      obtain ⟨rfl, rfl⟩ : bs = bs9 ∧ fs = fs9 := by simpa using had9
                      replace hxp := (HB.out.cell (World.block_lt_of_cell? w _ hxp)).trans hxp
                      have HRP := Aside0.mk (Kd.C_below hrp HB.out)
                      have HCP := Aside0.mk hcp
                      have HLP0 := (HRI.out p (by omega)).1
                      have HBA2 := Aside0.mk (HBAO.out (by omega))
                      clear hrp hcp had9
                      unfold row at HLP0
                      obtain ⟨tp, htp⟩ : ∃ tp, ts.getD p [] = tp := ⟨_, rfl⟩
                      have HROWP := Aside0.mk (show row ts p = tp from htp)
                      rw [show p + 1 - 1 = p from rfl, htp] at HBA2
                      rw [htp] at hxp HRP HCP HLP0
                      have HLP := Aside0.mk (show tp.length = t.length by rw [HT3.out]; exact HLP0)
                      have HL3P := Aside0.mk HLP0
                      clear htp HLP0
                      cases hls : lexB tp t with
                      | true =>
                        have HLS := Aside0.mk hls
                        have HLSQ := Aside0.mk (show ∀ n : Nat, Calls Try.prog 68 #[.slice Ap tp.length cp, .slice (some ⟨b0, f0, none⟩) t.length c0] (wr.drewN n) (fun e w' => e = .returned (.bool true) ∧ Drawn0 (wr.drewN n) w') from fun n => by
                          have h := trLess_calls Ap cp tp (some ⟨b0, f0, none⟩) c0 t (wr.drewN n) (Kd.C_below HRP.out (pw_below_drewN (Below.refl _ _) n)) HCP.out (Kd.C_below (Kd.C_below HR0.out HB.out) (pw_below_drewN (Below.refl _ _) n)) HC0.out HLP.out (by rw [HLP.out, HT3.out]; decide)
                          rw [HLS.out] at h
                          exact h)
                        have HCL := Aside0.mk ((cmpL_lex tp t HLP.out).mpr hls)
                        clear hls
                        rcases hpick with hp1 | ⟨hp1, hp2⟩
                        · go_wp2_with fail
                          repeat (go_quiet ((first | (go_at_call 58; exact quiet_drawn (HALLQ.out _)) | (go_at_call 68; exact quiet_drawn (HLSQ.out _)))); try go_wp2_with fail)
                          go_roundg (gk - 1)
                          case measure => have := HI.out; omega
                          case rel => exact ⟨p + 1 + 1, by go_num, ⟨by have := HI.out; omega⟩, ⟨fun j hj => by
                            rcases Nat.lt_or_ge j (p + 1) with h | h
                            · exact HRI.out j h
                            · rw [show j = p + 1 by omega, HROW.out]; exact HRG.out⟩, ⟨fun j h0 hj => by
                            rcases Nat.lt_or_ge j (p + 1) with h | h
                            · exact HOR.out j h0 h
                            · rw [show j = p + 1 by omega, show p + 1 - 1 = p from rfl, HROW.out, HROWP.out]; exact HCL.out⟩, ⟨(by repeat (first | (with_reducible first | exact HB.out | apply below_alloc | apply pw_below_drewN | apply below_drew1) | exact HB.out))⟩⟩
                        · go_wp2_with fail
                          repeat (go_quiet ((first | (go_at_call 58; exact quiet_drawn (HALLQ.out _)) | (go_at_call 68; exact quiet_drawn (HLSQ.out _)))); try go_wp2_with fail)
                          go_roundg (gk - 1)
                          case measure => have := HI.out; omega
                          case rel => exact ⟨p + 1 + 1, by go_num, ⟨by have := HI.out; omega⟩, ⟨fun j hj => by
                            rcases Nat.lt_or_ge j (p + 1) with h | h
                            · exact HRI.out j h
                            · rw [show j = p + 1 by omega, HROW.out]; exact HRG.out⟩, ⟨fun j h0 hj => by
                            rcases Nat.lt_or_ge j (p + 1) with h | h
                            · exact HOR.out j h0 h
                            · rw [show j = p + 1 by omega, show p + 1 - 1 = p from rfl, HROW.out, HROWP.out]; exact HCL.out⟩, ⟨(by repeat (first | (with_reducible first | exact HB.out | apply below_alloc | apply pw_below_drewN | apply below_drew1) | exact HB.out))⟩⟩
                      | false =>
                        have HLS := Aside0.mk hls
                        have HLSQ := Aside0.mk (show ∀ n : Nat, Calls Try.prog 68 #[.slice Ap tp.length cp, .slice (some ⟨b0, f0, none⟩) t.length c0] (wr.drewN n) (fun e w' => e = .returned (.bool false) ∧ Drawn0 (wr.drewN n) w') from fun n => by
                          have h := trLess_calls Ap cp tp (some ⟨b0, f0, none⟩) c0 t (wr.drewN n) (Kd.C_below HRP.out (pw_below_drewN (Below.refl _ _) n)) HCP.out (Kd.C_below (Kd.C_below HR0.out HB.out) (pw_below_drewN (Below.refl _ _) n)) HC0.out HLP.out (by rw [HLP.out, HT3.out]; decide)
                          rw [HLS.out] at h
                          exact h)
                        have HF := Aside0.mk (HBA2.out (fun h => by have := (cmpL_lex tp t HLP.out).mp h; rw [hls] at this; cases this))
                        clear hls
                        rcases hpick with hp1 | ⟨hp1, hp2⟩
                        · go_wp2_with fail
                          repeat (go_quiet ((first | (go_at_call 58; exact quiet_drawn (HALLQ.out _)) | (go_at_call 68; exact quiet_drawn (HLSQ.out _)))); try go_wp2_with fail)
                          go_ret
                          exact ⟨ret_bool HF.out.symm, (by repeat (first | (with_reducible first | exact HB.out | apply below_alloc | apply pw_below_drewN | apply below_drew1) | exact HB.out))⟩
                        · go_wp2_with fail
                          repeat (go_quiet ((first | (go_at_call 58; exact quiet_drawn (HALLQ.out _)) | (go_at_call 68; exact quiet_drawn (HLSQ.out _)))); try go_wp2_with fail)
                          go_ret
                          exact ⟨ret_bool HF.out.symm, (by repeat (first | (with_reducible first | exact HB.out | apply below_alloc | apply pw_below_drewN | apply below_drew1) | exact HB.out))⟩
                  · have hne1 : (x + y != z) = true := bne_iff_ne.mpr (fun h => h5 (.inl h))
                    have hne2 : (x + y + z != v) = true := bne_iff_ne.mpr (fun h => h5 (.inr h))
                    have HF := Aside0.mk (HBAD.out (fun h => h5 (HP0.out h).2))
                    clear h5
                    go_wp2_with fail
                    repeat (go_quiet ((first | (go_at_call 58; exact quiet_drawn (HALLQ.out _)) | (go_at_call 68; exact quiet_drawn (HLSQ.out _)))); try go_wp2_with fail)
                    go_ret
                    exact ⟨ret_bool HF.out.symm, (by repeat (first | (with_reducible first | exact HB.out | apply below_alloc | apply pw_below_drewN | apply below_drew1) | exact HB.out))⟩
            · have HALL := Aside0.mk (tf_neg h2)
              have HALLQ := Aside0.mk (show ∀ n : Nat, Calls Try.prog 58 #[.slice (some ⟨b0, f0, none⟩) t.length c0, .int .i64 1, .int .i64 (3 * (ts.length : Int))] (wr.drewN n) (fun e w' => e = .returned (.bool false) ∧ Drawn0 (wr.drewN n) w') from fun n => by
                have h := all_calls (some ⟨b0, f0, none⟩) c0 t 1 (3 * (ts.length : Int)) (wr.drewN n) (Kd.C_below (Kd.C_below HR0.out HB.out) (pw_below_drewN (Below.refl _ _) n)) HC0.out (by rw [HT3.out]; decide)
                rw [HALL.out] at h
                exact h)
              have HF := Aside0.mk (HBAD.out (fun h => h2 (row_all h)))
              clear h2
              go_wp2_with fail
              repeat (go_quiet ((first | (go_at_call 58; exact quiet_drawn (HALLQ.out _)) | (go_at_call 68; exact quiet_drawn (HLSQ.out _)))); try go_wp2_with fail)
              go_ret
              exact ⟨ret_bool HF.out.symm, (by repeat (first | (with_reducible first | exact HB.out | apply below_alloc | apply pw_below_drewN | apply below_drew1) | exact HB.out))⟩
          · have hl3 : ((t.length : Int) != 3) = true := bne_iff_ne.mpr (by omega)
            have HF := Aside0.mk (HBAD.out (fun h => h1 h.1))
            have HT3 := HF
            clear h1
            go_wp2_with fail
            repeat (go_quiet (fail); try go_wp2_with fail)
            go_ret
            exact ⟨ret_bool HF.out.symm, (by repeat (first | (with_reducible first | exact HB.out | apply below_alloc | apply pw_below_drewN | apply below_drew1) | exact HB.out))⟩
        · have HON := Aside0.mk (show tf ts.flatten.Nodup = tf (Are v ts) by
            by_cases h : ts.flatten.Nodup
            · rw [tf_pos h, tf_pos (show Are v ts from ⟨⟨hv1, HV2.out⟩, fun j h0 hj => HOR.out j h0 (by omega), fun j hj => HRI.out j (by omega), h⟩)]
            · rw [tf_neg h, tf_neg (fun h2 : Are v ts => h h2.2.2.2)])
          have HRA := Aside0.mk (show ∀ j : Nat, j < ts.length → RowI v ts.length (row ts j) from fun j hj => HRI.out j (by omega))
          obtain ⟨S', hmk, hleft⟩ := trMarks_ev ts.length (by omega) 4000 (Nat.le_refl _)
          have HMK := Aside0.mk hmk
          have HLF := Aside0.mk hleft
          have hsl : 2 ≤ S'.length := by have := hleft.1; omega
          clear hmk hleft
          go_wp2_with (first | (go_at_call 75; refine (PFnExactFamilyOfTriples.spec_trMarks.calls 4000 (ts.length : Int) false S' _ HMK.out).mono ?_; rintro e w1 ⟨v1, rfl, ho, hb⟩; obtain ⟨g1, cap1, rfl, _, _, _, _⟩ := Kd.R_form ho (by omega); have HRB := Aside0.mk (Kd.R_reads' ho).2.2; have HCB := Aside0.mk (Kd.R_reads' ho).2.1; have n0_ := Aside0.mk (below_step (by repeat (first | (with_reducible first | exact HB.out | apply below_alloc | apply pw_below_drewN | apply below_drew1) | exact HB.out)) hb); clear HB ho hb; have HB := n0_; clear n0_) | (go_at_call 74; refine (trOnce_calls v ts _ c _ cap1 S' _ (Kd.C_below HR.out (by repeat (first | (with_reducible first | exact HB.out | apply below_alloc | apply pw_below_drewN | apply below_drew1) | exact HB.out))) HC.out (Kd.C_below HRB.out (by first | exact Below.refl _ _ | exact pw_below_drewN (Below.refl _ _) _)) HCB.out (by omega) HRA.out HLF.out).mono ?_; rw [HON.out]; rintro e w2 ⟨rfl, hb⟩; have n0_ := Aside0.mk (below_step (by repeat (first | (with_reducible first | exact HB.out | apply below_alloc | apply pw_below_drewN | apply below_drew1) | exact HB.out)) hb); clear HB hb; have HB := n0_; clear n0_))
          repeat (go_quiet (fail); try go_wp2)
          go_ret
          exact ⟨rfl, (by repeat (first | (with_reducible first | exact HB.out | apply below_alloc | apply pw_below_drewN | apply below_drew1) | exact HB.out))⟩
    · have hvb : (v != 6 * (ts.length : Int) + 1) = true := bne_iff_ne.mpr hv2
      have HF := Aside0.mk (show tf (Are v ts) = false from tf_neg (fun h => hv2 h.1.2))
      clear hv2
      go_enter Try.func46, Try.ntmps46
      go_wp2_with (go_at_call 31; refine (in_calls _ _ _ _).mono ?_; rw [HT.out]; rintro e w' ⟨rfl, ⟨nd, rfl⟩⟩)
      repeat (go_quiet (fail); try go_wp2)
      go_ret
      exact ⟨ret_bool HF.out.symm, (by repeat (first | (with_reducible first | exact HB.out | apply below_alloc | apply pw_below_drewN | apply below_drew1) | exact HB.out))⟩
  · have HT := Aside0.mk (within_no hv1)
    have HF := Aside0.mk (show tf (Are v ts) = false from tf_neg (fun h => hv1 h.1.1))
    clear hv1
    go_enter Try.func46, Try.ntmps46
    go_wp2_with (go_at_call 31; refine (in_calls _ _ _ _).mono ?_; rw [HT.out]; rintro e w' ⟨rfl, ⟨nd, rfl⟩⟩)
    repeat (go_quiet (fail); try go_wp2)
    go_ret
    exact ⟨ret_bool HF.out.symm, (by repeat (first | (with_reducible first | exact HB.out | apply below_alloc | apply pw_below_drewN | apply below_drew1) | exact HB.out))⟩
end Go.Proofs.Ytpabfibmpannoaa.Own.G
