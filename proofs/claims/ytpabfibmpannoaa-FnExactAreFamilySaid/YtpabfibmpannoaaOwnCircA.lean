/- Circle sets: what the reference's ciGood and the program's IsCircleSet return; lists of at most 1048576 numbers. -/
import Derived.Test.YtpabfibmpannoaaOwnLabelA
namespace Go.Proofs.Ytpabfibmpannoaa.Own.G
open Go.RowKit Go.Proofs.YtpabfibmpannoaaW.PrintWords Go.Proofs.YtpabfibmpannoaaW.PrintLast Go.Proofs.YtpabfibmpannoaaW.PrintMore
set_option linter.unusedVariables false
def Ups (l : List Int) : Prop := ∀ i : Nat, i + 1 < l.length → rd l (i : Int) < rd l ((i + 1 : Nat) : Int)
def Circ (v : Int) (l : List Int) : Prop := ((2 ≤ v ∧ v ≤ 31) ∧ (1 ≤ l.length ∧ l.length ≤ 8) ∧ (l.length : Int) < v) ∧ AllIn 0 (v - 1) l ∧ Ups l
set_option maxHeartbeats 1600000 in
theorem ciGood_calls (v : Int) (A : Option Addr) (c : Nat) (l : List Int) (w : World) (hr : Rd w A l) (hc : l.length ≤ c) (hn : l.length ≤ 1048576) :
    Calls Try.prog 32 #[.int .i64 v, .slice A l.length c] w fun e w' => e = .returned (.bool (tf (Circ v l))) ∧ Drawn0 w w' := by
  have HR := Aside0.mk hr
  have HC := Aside0.mk hc
  clear hr hc
  by_cases hv : 2 ≤ v ∧ v ≤ 31
  · have HV := Aside0.mk (within_yes hv)
    have hv0 := hv
    by_cases hl : 1 ≤ l.length ∧ l.length ≤ 8
    · have HT := Aside0.mk (within_yes (show (1 : Int) ≤ (l.length : Int) ∧ (l.length : Int) ≤ 8 by omega))
      by_cases hlv : (l.length : Int) < v
      · by_cases ha : AllIn 0 (v - 1) l
        · have H1 := Aside0.mk (tf_pos ha)
          have HA1 := Aside0.mk ha
          clear ha
          go_enter Try.func32, Try.ntmps32
          go_wp2_with (first | (go_at_call 31; refine (in_calls _ _ _ _).mono ?_; (first | rw [HV.out] | rw [HT.out]); rintro e w' ⟨rfl, ⟨nd, rfl⟩⟩) | (go_at_call 58; refine (all_calls _ _ l _ _ _ (by first | exact HR.out | exact Kd.C_drewN HR.out _) HC.out hn).mono ?_; rw [H1.out]; rintro e w' ⟨rfl, ⟨nd3, rfl⟩⟩))
          clear hlv
          go_loopg [5] (l.length - 1) (fun g v5 w' => ∃ (i : Nat) (k : Int), v5 = .int .i64 k ∧ Aside0 (k = (i : Int) + 1) ∧ Aside0 (i + g = l.length - 1) ∧ Aside0 (∀ j : Nat, j < i → rd l (j : Int) < rd l ((j + 1 : Nat) : Int)) ∧ Drawn0 w w')
          case atStart => exact ⟨0, _, rfl, ⟨rfl⟩, ⟨by omega⟩, ⟨fun j h => absurd h (by omega)⟩, (by repeat (first | exact Drawn0.refl _ | apply Drawn0.step))⟩
          case round =>
            obtain ⟨i, k, rfl, HK, HI, HA, ⟨m1, rfl⟩⟩ := hrel
            by_cases hlt : k < (l.length : Int)
            · have k0 : 1 ≤ k := by have := HK.out; omega
              obtain ⟨j, hj⟩ : ∃ j : Int, IntKind.i64.wrap (k - 1) = j := ⟨_, rfl⟩
              have HJ := Aside0.mk (show j = (i : Int) by rw [← hj, i64_w, w64 (by omega) (by omega), HK.out]; omega)
              obtain ⟨ad, e2, hc1⟩ := Kd.at_int HR.out k (by omega) hlt
              subst e2
              have j0 : 0 ≤ j := by have := HJ.out; omega
              have j1 : j < (l.length : Int) := by have := HJ.out; have := HK.out; omega
              obtain ⟨ad3, e3, hc2⟩ := Kd.at_int HR.out j j0 j1
              obtain rfl : ad = ad3 := by injection e3
              clear e3
              by_cases hq : rd l k ≤ rd l j
              · have HBAD := Aside0.mk (show ¬ Circ v l from fun h => by have h1 := h.2.2 i (by have := HK.out; omega); rw [show ((i + 1 : Nat) : Int) = k by have := HK.out; omega, ← HJ.out] at h1; omega)
                (go_wp2; repeat (go_quiet (fail); try go_wp2))
                go_ret
                exact ⟨ret_bool (tf_neg HBAD.out).symm, (by repeat (first | exact Drawn0.refl _ | apply Drawn0.step))⟩
              · have HD := Aside0.mk (show rd l (i : Int) < rd l ((i + 1 : Nat) : Int) by rw [show ((i + 1 : Nat) : Int) = k by have := HK.out; omega, ← HJ.out]; omega)
                (go_wp2; repeat (go_quiet (fail); try go_wp2))
                go_roundg (gk - 1)
                case measure => have := HI.out; have := HK.out; omega
                case rel => exact ⟨i + 1, k + 1, by go_num, ⟨by have := HK.out; omega⟩, ⟨by have := HI.out; have := HK.out; omega⟩, ⟨fun j hj => by
                  rcases Nat.lt_or_ge j i with h | h
                  · exact HA.out j h
                  · rw [show j = i by omega]; exact HD.out⟩, (by repeat (first | exact Drawn0.refl _ | apply Drawn0.step))⟩
            · have HE := Aside0.mk (show AllIn 0 (v - 1) l ∧ Ups l from ⟨HA1.out, fun j hj => HA.out j (by have := HK.out; have := HI.out; omega)⟩)
              (go_wp2; repeat (go_quiet (fail); try go_wp2))
              go_ret
              exact ⟨ret_bool (tf_pos (show Circ v l from ⟨⟨hv0, hl, by assumption⟩, HE.out⟩)).symm, (by repeat (first | exact Drawn0.refl _ | apply Drawn0.step))⟩
        · have H1 := Aside0.mk (tf_neg ha)
          have HBAD := Aside0.mk (show ¬ Circ v l from fun h => ha h.2.1)
          clear ha
          go_enter Try.func32, Try.ntmps32
          go_wp2_with (first | (go_at_call 31; refine (in_calls _ _ _ _).mono ?_; (first | rw [HV.out] | rw [HT.out]); rintro e w' ⟨rfl, ⟨nd, rfl⟩⟩) | (go_at_call 58; refine (all_calls _ _ l _ _ _ (by first | exact HR.out | exact Kd.C_drewN HR.out _) HC.out hn).mono ?_; rw [H1.out]; rintro e w' ⟨rfl, ⟨nd3, rfl⟩⟩))
          go_ret
          exact ⟨ret_bool (tf_neg HBAD.out).symm, (by repeat (first | exact Drawn0.refl _ | apply Drawn0.step))⟩
      · have HBAD := Aside0.mk (show ¬ Circ v l from fun h => hlv h.1.2.2)
        go_enter Try.func32, Try.ntmps32
        go_wp2_with (go_at_call 31; refine (in_calls _ _ _ _).mono ?_; (first | rw [HV.out] | rw [HT.out]); rintro e w' ⟨rfl, ⟨nd, rfl⟩⟩)
        go_ret
        exact ⟨ret_bool (tf_neg HBAD.out).symm, (by repeat (first | exact Drawn0.refl _ | apply Drawn0.step))⟩
    · have HT := Aside0.mk (within_no (show ¬ ((1 : Int) ≤ (l.length : Int) ∧ (l.length : Int) ≤ 8) by omega))
      have HBAD := Aside0.mk (show ¬ Circ v l from fun h => hl h.1.2.1)
      clear hl
      go_enter Try.func32, Try.ntmps32
      go_wp2_with (go_at_call 31; refine (in_calls _ _ _ _).mono ?_; (first | rw [HV.out] | rw [HT.out]); rintro e w' ⟨rfl, ⟨nd, rfl⟩⟩)
      go_ret
      exact ⟨ret_bool (tf_neg HBAD.out).symm, (by repeat (first | exact Drawn0.refl _ | apply Drawn0.step))⟩
  · have HV := Aside0.mk (within_no hv)
    have HBAD := Aside0.mk (show ¬ Circ v l from fun h => hv h.1.1)
    clear hv
    go_enter Try.func32, Try.ntmps32
    go_wp2_with (go_at_call 31; refine (in_calls _ _ _ _).mono ?_; rw [HV.out]; rintro e w' ⟨rfl, ⟨nd, rfl⟩⟩)
    go_ret
    exact ⟨ret_bool (tf_neg HBAD.out).symm, (by repeat (first | exact Drawn0.refl _ | apply Drawn0.step))⟩
theorem isCircle_calls (a : Int) (w : World) : Calls Try.prog 34 #[.int .i64 a] w fun e w' => e = .returned (.bool (within 2 31 a)) ∧ Drawn0 w w' := by
  by_cases h : 2 ≤ a
  · by_cases h' : a ≤ 31
    · have H := Aside0.mk (within_yes ⟨h, h'⟩)
      go_enter Try.func34, Try.ntmps34
      (go_wp2; repeat (go_quiet (fail); try go_wp2))
      go_ret
      exact ⟨by rw [H.out]; simp, (by repeat (first | exact Drawn0.refl _ | apply Drawn0.step))⟩
    · have H := Aside0.mk (within_no (fun k => h' k.2 : ¬ (2 ≤ a ∧ a ≤ 31)))
      have h2 : 31 < a := by omega
      clear h'
      go_enter Try.func34, Try.ntmps34
      (go_wp2; repeat (go_quiet (fail); try go_wp2))
      go_ret
      exact ⟨by rw [H.out]; simp [h2], (by repeat (first | exact Drawn0.refl _ | apply Drawn0.step))⟩
  · have H := Aside0.mk (within_no (fun k => h k.1 : ¬ (2 ≤ a ∧ a ≤ 31)))
    go_enter Try.func34, Try.ntmps34
    (go_wp2; repeat (go_quiet (fail); try go_wp2))
    go_ret
    exact ⟨by rw [H.out]; rfl, (by repeat (first | exact Drawn0.refl _ | apply Drawn0.step))⟩
set_option maxHeartbeats 3200000 in
theorem IsCircleSet_calls (v : Int) (A : Option Addr) (c : Nat) (l : List Int) (w : World) (hr : Rd w A l) (hc : l.length ≤ c) (hn : l.length ≤ 1048576) :
    Calls Try.prog 35 #[.int .i64 v, .slice A l.length c] w fun e w' => e = .returned (.bool (tf (Circ v l))) ∧ Drawn0 w w' := by
  have HR := Aside0.mk hr
  have HC := Aside0.mk hc
  clear hr hc
  by_cases hv : 2 ≤ v ∧ v ≤ 31
  · have HV := Aside0.mk (within_yes hv)
    have hv0 := hv
    by_cases hl1 : 1 ≤ l.length
    · by_cases hl2 : l.length ≤ 8
      · by_cases hlv : (l.length : Int) < v
        · go_enter Try.func35, Try.ntmps35
          go_wp2_with (go_at_call 34; refine (isCircle_calls _ _).mono ?_; rw [HV.out]; rintro e w' ⟨rfl, ⟨nd, rfl⟩⟩)
          go_loopg [28] l.length (fun g v28 w' => ∃ i : Nat, v28 = .int .i64 i ∧ Aside0 (i + g = l.length) ∧ Aside0 (∀ j : Nat, j < i → 0 ≤ rd l (j : Int) ∧ rd l (j : Int) ≤ v - 1) ∧ Aside0 (∀ j : Nat, j + 1 < i → rd l (j : Int) < rd l ((j + 1 : Nat) : Int)) ∧ Drawn0 w w')
          case atStart => exact ⟨0, rfl, ⟨by omega⟩, ⟨fun j h => absurd h (by omega)⟩, ⟨fun j h => absurd h (by omega)⟩, (by repeat (first | exact Drawn0.refl _ | apply Drawn0.step))⟩
          case round =>
            obtain ⟨i, rfl, HI, HA, HU, ⟨m1, rfl⟩⟩ := hrel
            by_cases hlt : i < l.length
            · obtain ⟨ad, rfl, hx⟩ := at_nat HR.out hlt
              by_cases h1 : rd l (i : Int) < 0
              · have HBAD := Aside0.mk (show ¬ Circ v l from fun h => by have := (h.2.1 i hlt).1; omega)
                (go_wp2; repeat (go_quiet (fail); try go_wp2))
                go_ret
                exact ⟨ret_bool (tf_neg HBAD.out).symm, (by repeat (first | exact Drawn0.refl _ | apply Drawn0.step))⟩
              · by_cases h2 : rd l (i : Int) < v
                · by_cases h3 : 0 < i
                  · obtain ⟨j, hj⟩ : ∃ j : Int, IntKind.i64.wrap ((i : Int) - 1) = j := ⟨_, rfl⟩
                    have HJ := Aside0.mk (show j = (i : Int) - 1 by rw [← hj, i64_w, w64 (by omega) (by omega)])
                    have j0 : 0 ≤ j := by have := HJ.out; omega
                    have j1 : j < (l.length : Int) := by have := HJ.out; omega
                    obtain ⟨ad3, e3, hc2⟩ := Kd.at_int HR.out j j0 j1
                    obtain rfl : ad = ad3 := by injection e3
                    clear e3
                    by_cases hq : rd l (i : Int) ≤ rd l j
                    · have HBAD := Aside0.mk (show ¬ Circ v l from fun h => by have h1 := h.2.2 (i - 1) (by omega); rw [show ((i - 1 + 1 : Nat) : Int) = (i : Int) by omega, show ((i - 1 : Nat) : Int) = j by have := HJ.out; omega] at h1; omega)
                      (go_wp2; repeat (go_quiet (fail); try go_wp2))
                      go_ret
                      exact ⟨ret_bool (tf_neg HBAD.out).symm, (by repeat (first | exact Drawn0.refl _ | apply Drawn0.step))⟩
                    · have HD := Aside0.mk (show rd l ((i - 1 : Nat) : Int) < rd l (i : Int) by rw [show ((i - 1 : Nat) : Int) = j by have := HJ.out; omega]; omega)
                      have HD2 := Aside0.mk (show 0 ≤ rd l (i : Int) ∧ rd l (i : Int) ≤ v - 1 by omega)
                      (go_wp2; repeat (go_quiet (fail); try go_wp2))
                      go_roundg (gk - 1)
                      case measure => have := HI.out; omega
                      case rel => exact ⟨i + 1, by go_num, ⟨by have := HI.out; omega⟩, ⟨fun j hj => by
                        rcases Nat.lt_or_ge j i with h | h
                        · exact HA.out j h
                        · rw [show j = i by omega]; exact HD2.out⟩, ⟨fun j hj => by
                        rcases Nat.lt_or_ge (j + 1) i with h | h
                        · exact HU.out j h
                        · rw [show j = i - 1 by omega, show ((i - 1 + 1 : Nat) : Int) = (i : Int) by omega]; exact HD.out⟩, (by repeat (first | exact Drawn0.refl _ | apply Drawn0.step))⟩
                  · have HD2 := Aside0.mk (show 0 ≤ rd l (i : Int) ∧ rd l (i : Int) ≤ v - 1 by omega)
                    (go_wp2; repeat (go_quiet (fail); try go_wp2))
                    go_roundg (gk - 1)
                    case measure => have := HI.out; omega
                    case rel => exact ⟨i + 1, by go_num, ⟨by have := HI.out; omega⟩, ⟨fun j hj => by
                        rcases Nat.lt_or_ge j i with h | h
                        · exact HA.out j h
                        · rw [show j = i by omega]; exact HD2.out⟩, ⟨fun j hj => absurd hj (by omega)⟩, (by repeat (first | exact Drawn0.refl _ | apply Drawn0.step))⟩
                · have HBAD := Aside0.mk (show ¬ Circ v l from fun h => by have := (h.2.1 i hlt).2; omega)
                  (go_wp2; repeat (go_quiet (fail); try go_wp2))
                  go_ret
                  exact ⟨ret_bool (tf_neg HBAD.out).symm, (by repeat (first | exact Drawn0.refl _ | apply Drawn0.step))⟩
            · have HE := Aside0.mk (show Circ v l from ⟨⟨hv0, ⟨hl1, hl2⟩, hlv⟩, fun j hj => HA.out j (by have := HI.out; omega), fun j hj => HU.out j (by have := HI.out; omega)⟩)
              (go_wp2; repeat (go_quiet (fail); try go_wp2))
              go_ret
              exact ⟨ret_bool (tf_pos HE.out).symm, (by repeat (first | exact Drawn0.refl _ | apply Drawn0.step))⟩
        · have HBAD := Aside0.mk (show ¬ Circ v l from fun h => hlv h.1.2.2)
          go_enter Try.func35, Try.ntmps35
          go_wp2_with (go_at_call 34; refine (isCircle_calls _ _).mono ?_; rw [HV.out]; rintro e w' ⟨rfl, ⟨nd, rfl⟩⟩)
          go_ret
          exact ⟨ret_bool (tf_neg HBAD.out).symm, (by repeat (first | exact Drawn0.refl _ | apply Drawn0.step))⟩
      · have HBAD := Aside0.mk (show ¬ Circ v l from fun h => hl2 h.1.2.1.2)
        go_enter Try.func35, Try.ntmps35
        go_wp2_with (go_at_call 34; refine (isCircle_calls _ _).mono ?_; rw [HV.out]; rintro e w' ⟨rfl, ⟨nd, rfl⟩⟩)
        go_ret
        exact ⟨ret_bool (tf_neg HBAD.out).symm, (by repeat (first | exact Drawn0.refl _ | apply Drawn0.step))⟩
    · have HBAD := Aside0.mk (show ¬ Circ v l from fun h => hl1 h.1.2.1.1)
      go_enter Try.func35, Try.ntmps35
      go_wp2_with (go_at_call 34; refine (isCircle_calls _ _).mono ?_; rw [HV.out]; rintro e w' ⟨rfl, ⟨nd, rfl⟩⟩)
      go_ret
      exact ⟨ret_bool (tf_neg HBAD.out).symm, (by repeat (first | exact Drawn0.refl _ | apply Drawn0.step))⟩
  · have HV := Aside0.mk (within_no hv)
    have HBAD := Aside0.mk (show ¬ Circ v l from fun h => hv h.1.1)
    clear hv
    go_enter Try.func35, Try.ntmps35
    go_wp2_with (go_at_call 34; refine (isCircle_calls _ _).mono ?_; rw [HV.out]; rintro e w' ⟨rfl, ⟨nd, rfl⟩⟩)
    go_ret
    exact ⟨ret_bool (tf_neg HBAD.out).symm, (by repeat (first | exact Drawn0.refl _ | apply Drawn0.step))⟩
end Go.Proofs.Ytpabfibmpannoaa.Own.G
