/- Rulers: what the reference's ruGood and ruTimes and the program's IsRuler and measured return; lists of at most 1048576 numbers. -/
import Derived.Test.YtfbbbefhdmimhaaOwnGen
namespace Go.Proofs.Ytfbbbefhdmimhaa.Own.G
open Go.RowKit Go.Proofs.YtfbbbefhdmimhaaW.PrintWords Go.Proofs.YtfbbbefhdmimhaaW.PrintLast Go.Proofs.YtfbbbefhdmimhaaW.PrintMore
set_option linter.unusedVariables false
def Rises (l : List Int) : Prop := ∀ i : Nat, i + 1 < l.length → rd l (i : Int) < rd l ((i + 1 : Nat) : Int)
def Ruler (l : List Int) : Prop := ((1 ≤ l.length ∧ l.length ≤ 12) ∧ rd l 0 = 0) ∧ Rises l ∧ rd l ((l.length : Int) - 1) ≤ 60
theorem Rises_lt {l : List Int} (h : Rises l) {i j : Nat} (hij : i < j) (hj : j < l.length) : rd l (i : Int) < rd l (j : Int) := by
  induction j with
  | zero => omega
  | succ j ih =>
    have h1 := h j hj
    rcases Nat.lt_or_ge i j with h2 | h2
    · have := ih h2 (by omega); omega
    · rw [show i = j by omega]; exact h1
theorem Rises_le {l : List Int} (h : Rises l) {i j : Nat} (hij : i ≤ j) (hj : j < l.length) : rd l (i : Int) ≤ rd l (j : Int) := by
  rcases Nat.lt_or_ge i j with h2 | h2
  · have := Rises_lt h h2 hj; omega
  · rw [show i = j by omega]; exact Int.le_refl _
/-- The length of a ruler. -/
def span (l : List Int) : Nat := (rd l ((l.length : Int) - 1)).toNat
theorem Ruler_span {l : List Int} (h : Ruler l) : rd l ((l.length : Int) - 1) = (span l : Int) := by
  have h1 := Rises_le h.2.1 (show 0 ≤ l.length - 1 by omega) (by have := h.1.1; omega)
  have h0 := h.1.2
  have hl := h.1.1
  rw [show ((l.length - 1 : Nat) : Int) = (l.length : Int) - 1 by omega] at h1
  unfold span
  have h2 : rd l ((0 : Nat) : Int) = 0 := h0
  omega
theorem span_le {l : List Int} (h : Ruler l) : span l ≤ 60 := by
  have := Ruler_span h
  have := h.2.2
  omega
theorem Ruler_rd {l : List Int} (h : Ruler l) {i j : Nat} (hij : i ≤ j) (hj : j < l.length) : 0 ≤ rd l (i : Int) ∧ rd l (i : Int) ≤ rd l (j : Int) ∧ rd l (j : Int) ≤ (span l : Int) := by
  have h0 := Rises_le h.2.1 (Nat.zero_le i) (by omega)
  have h1 := Rises_le h.2.1 hij hj
  have h2 := Rises_le h.2.1 (show j ≤ l.length - 1 by omega) (by omega)
  rw [show ((l.length - 1 : Nat) : Int) = (l.length : Int) - 1 by omega, Ruler_span h] at h2
  have h3 : rd l ((0 : Nat) : Int) = 0 := h.1.2
  omega
set_option maxHeartbeats 1600000 in
theorem ruGood_calls (A : Option Addr) (c : Nat) (l : List Int) (w : World) (hr : Rd w A l) (hc : l.length ≤ c) (hn : l.length ≤ 1048576) :
    Calls Try.prog 19 #[.slice A l.length c] w fun e w' => e = .returned (.bool (tf (Ruler l))) ∧ Drawn0 w w' := by
  have HR := Aside0.mk hr
  have HC := Aside0.mk hc
  clear hr hc
  by_cases hl : 1 ≤ l.length ∧ l.length ≤ 12
  · have HT := Aside0.mk (within_yes (show (1 : Int) ≤ (l.length : Int) ∧ (l.length : Int) ≤ 12 by omega))
    obtain ⟨ad, rfl, hx0⟩ := at_first HR.out hl.1
    have hlp : (0 : Int) < (l.length : Int) := by omega
    by_cases hz : rd l 0 = 0
    · go_enter Try.func19, Try.ntmps19
      go_wp2_with (go_at_call 29; refine (in_calls _ _ _ _).mono ?_; rw [HT.out]; rintro e w' ⟨rfl, ⟨nd, rfl⟩⟩)
      have HZ := Aside0.mk hz
      clear hz hx0
      go_loopg [3] (l.length - 1) (fun g v3 w' => ∃ (i : Nat) (k : Int), v3 = .int .i64 k ∧ Aside0 (k = (i : Int) + 1) ∧ Aside0 (i + g = l.length - 1) ∧ Aside0 (∀ j, j < i → rd l (j : Int) < rd l ((j + 1 : Nat) : Int)) ∧ Drawn0 w w')
      case atStart => exact ⟨0, _, rfl, ⟨rfl⟩, ⟨by omega⟩, ⟨fun j h => absurd h (by omega)⟩, (by repeat (first | exact Drawn0.refl _ | apply Drawn0.step))⟩
      case round =>
        obtain ⟨i, k, rfl, HK, HI, HA, ⟨m1, rfl⟩⟩ := hrel
        by_cases hlt : k < (l.length : Int)
        · have k0 : 1 ≤ k := by have := HK.out; omega
          obtain ⟨j, hj⟩ : ∃ j : Int, IntKind.i64.wrap (k - 1) = j := ⟨_, rfl⟩
          have HJ := Aside0.mk (show j = (i : Int) by rw [← hj, i64_w, w64 (by omega) (by omega), HK.out]; omega)
          obtain ⟨ad2, e2, hc1⟩ := Kd.at_int HR.out k (by omega) hlt
          obtain rfl : ad = ad2 := by injection e2
          clear e2
          have j0 : 0 ≤ j := by have := HJ.out; omega
          have j1 : j < (l.length : Int) := by have := HJ.out; have := HK.out; omega
          obtain ⟨ad3, e3, hc2⟩ := Kd.at_int HR.out j j0 j1
          obtain rfl : ad = ad3 := by injection e3
          clear e3
          by_cases hq : rd l k ≤ rd l j
          · have HBAD := Aside0.mk (show ¬ Ruler l from fun h => by have h1 := h.2.1 i (by have := HK.out; omega); rw [show ((i + 1 : Nat) : Int) = k by have := HK.out; omega, ← HJ.out] at h1; omega)
            (go_wp2; repeat (go_quiet (fail); try go_wp2))
            go_ret
            exact ⟨ret_bool (tf_neg HBAD.out).symm, (by repeat (first | exact Drawn0.refl _ | apply Drawn0.step))⟩
          · have HD := Aside0.mk (show rd l (i : Int) < rd l ((i + 1 : Nat) : Int) by rw [show ((i + 1 : Nat) : Int) = k by have := HK.out; omega, ← HJ.out]; omega)
            (go_wp2; repeat (go_quiet (fail); try go_wp2))
            go_roundg (gk - 1)
            case measure => have := HI.out; have := HK.out; omega
            case rel => exact ⟨i + 1, k + 1, by go_num, ⟨by have := HK.out; omega⟩, ⟨by have := HI.out; have := HK.out; omega⟩, ⟨fun j hj => by
              rcases Nat.lt_or_ge j i with h | h
              · exact HA.out j h
              · rw [show j = i by omega]; exact HD.out⟩, (by repeat (first | exact Drawn0.refl _ | apply Drawn0.step))⟩
        · obtain ⟨m, hm⟩ : ∃ m : Int, IntKind.i64.wrap ((l.length : Int) - 1) = m := ⟨_, rfl⟩
          have HM := Aside0.mk (show m = (l.length : Int) - 1 by rw [← hm, i64_w, w64 (by omega) (by omega)])
          have m0 : 0 ≤ m := by have := HM.out; omega
          have m2 : m < (l.length : Int) := by have := HM.out; omega
          obtain ⟨ad2, e2, hc1⟩ := Kd.at_int HR.out m m0 m2
          obtain rfl : ad = ad2 := by injection e2
          clear e2
          have HE := Aside0.mk (show decide (rd l m ≤ 60) = tf (Ruler l) by
            rw [← tf_dec, HM.out]
            exact tf_congr ⟨fun h => ⟨⟨hl, HZ.out⟩, fun j hj => HA.out j (by have := HK.out; have := HI.out; omega), h⟩, fun h => h.2.2⟩)
          (go_wp2; repeat (go_quiet (fail); try go_wp2))
          go_ret
          exact ⟨ret_bool HE.out, (by repeat (first | exact Drawn0.refl _ | apply Drawn0.step))⟩
    · have HBAD := Aside0.mk (show ¬ Ruler l from fun h => hz h.1.2)
      go_enter Try.func19, Try.ntmps19
      go_wp2_with (go_at_call 29; refine (in_calls _ _ _ _).mono ?_; rw [HT.out]; rintro e w' ⟨rfl, ⟨nd, rfl⟩⟩)
      go_ret
      exact ⟨ret_bool (tf_neg HBAD.out).symm, (by repeat (first | exact Drawn0.refl _ | apply Drawn0.step))⟩
  · have HT := Aside0.mk (within_no (show ¬ ((1 : Int) ≤ (l.length : Int) ∧ (l.length : Int) ≤ 12) by omega))
    have HBAD := Aside0.mk (show ¬ Ruler l from fun h => hl h.1.1)
    clear hl
    go_enter Try.func19, Try.ntmps19
    go_wp2_with (go_at_call 29; refine (in_calls _ _ _ _).mono ?_; rw [HT.out]; rintro e w' ⟨rfl, ⟨nd, rfl⟩⟩)
    go_ret
    exact ⟨ret_bool (tf_neg HBAD.out).symm, (by repeat (first | exact Drawn0.refl _ | apply Drawn0.step))⟩
set_option maxHeartbeats 1600000 in
theorem IsRuler_calls (A : Option Addr) (c : Nat) (l : List Int) (w : World) (hr : Rd w A l) (hc : l.length ≤ c) (hn : l.length ≤ 1048576) :
    Calls Try.prog 21 #[.slice A l.length c] w fun e w' => e = .returned (.bool (tf (Ruler l))) ∧ Drawn0 w w' := by
  have HR := Aside0.mk hr
  have HC := Aside0.mk hc
  clear hr hc
  by_cases hl : 1 ≤ l.length
  · obtain ⟨ad, rfl, hx0⟩ := at_first HR.out hl
    obtain ⟨m, hm⟩ : ∃ m : Int, IntKind.i64.wrap ((l.length : Int) - 1) = m := ⟨_, rfl⟩
    have HM := Aside0.mk (show m = (l.length : Int) - 1 by rw [← hm, i64_w, w64 (by omega) (by omega)])
    have m0 : 0 ≤ m := by have := HM.out; omega
    have m2 : m < (l.length : Int) := by have := HM.out; omega
    obtain ⟨ad2, e2, hx1⟩ := Kd.at_int HR.out m m0 m2
    obtain rfl : ad = ad2 := by injection e2
    clear e2
    have hlp : (0 : Int) < (l.length : Int) := by omega
    by_cases hl2 : l.length ≤ 12
    · by_cases hz : rd l 0 = 0
      · by_cases hs : rd l m ≤ 60
        · go_enter Try.func21, Try.ntmps21
          (go_wp2; repeat (go_quiet (fail); try go_wp2))
          have HZ := Aside0.mk hz
          have HS := Aside0.mk hs
          clear hz hx0 hs hx1
          go_loopg [3] (l.length - 1) (fun g v3 w' => ∃ (i : Nat) (k : Int), v3 = .int .i64 k ∧ Aside0 (k = (i : Int) + 1) ∧ Aside0 (i + g = l.length - 1) ∧ Aside0 (∀ j, j < i → rd l (j : Int) < rd l ((j + 1 : Nat) : Int)) ∧ Drawn0 w w')
          case atStart => exact ⟨0, _, rfl, ⟨rfl⟩, ⟨by omega⟩, ⟨fun j h => absurd h (by omega)⟩, (by repeat (first | exact Drawn0.refl _ | apply Drawn0.step))⟩
          case round =>
            obtain ⟨i, k, rfl, HK, HI, HA, ⟨m1, rfl⟩⟩ := hrel
            by_cases hlt : k < (l.length : Int)
            · have k0 : 1 ≤ k := by have := HK.out; omega
              obtain ⟨j, hj⟩ : ∃ j : Int, IntKind.i64.wrap (k - 1) = j := ⟨_, rfl⟩
              have HJ := Aside0.mk (show j = (i : Int) by rw [← hj, i64_w, w64 (by omega) (by omega), HK.out]; omega)
              obtain ⟨ad2, e2, hc1⟩ := Kd.at_int HR.out k (by omega) hlt
              obtain rfl : ad = ad2 := by injection e2
              clear e2
              have j0 : 0 ≤ j := by have := HJ.out; omega
              have j1 : j < (l.length : Int) := by have := HJ.out; have := HK.out; omega
              obtain ⟨ad3, e3, hc2⟩ := Kd.at_int HR.out j j0 j1
              obtain rfl : ad = ad3 := by injection e3
              clear e3
              by_cases hq : rd l k ≤ rd l j
              · have HBAD := Aside0.mk (show ¬ Ruler l from fun h => by have h1 := h.2.1 i (by have := HK.out; omega); rw [show ((i + 1 : Nat) : Int) = k by have := HK.out; omega, ← HJ.out] at h1; omega)
                (go_wp2; repeat (go_quiet (fail); try go_wp2))
                go_ret
                exact ⟨ret_bool (tf_neg HBAD.out).symm, (by repeat (first | exact Drawn0.refl _ | apply Drawn0.step))⟩
              · have HD := Aside0.mk (show rd l (i : Int) < rd l ((i + 1 : Nat) : Int) by rw [show ((i + 1 : Nat) : Int) = k by have := HK.out; omega, ← HJ.out]; omega)
                (go_wp2; repeat (go_quiet (fail); try go_wp2))
                go_roundg (gk - 1)
                case measure => have := HI.out; have := HK.out; omega
                case rel => exact ⟨i + 1, k + 1, by go_num, ⟨by have := HK.out; omega⟩, ⟨by have := HI.out; have := HK.out; omega⟩, ⟨fun j hj => by
                  rcases Nat.lt_or_ge j i with h | h
                  · exact HA.out j h
                  · rw [show j = i by omega]; exact HD.out⟩, (by repeat (first | exact Drawn0.refl _ | apply Drawn0.step))⟩
            · have HE := Aside0.mk (show Ruler l from ⟨⟨⟨hl, hl2⟩, HZ.out⟩, fun j hj => HA.out j (by have := HK.out; have := HI.out; omega), by have := HS.out; rwa [HM.out] at this⟩)
              (go_wp2; repeat (go_quiet (fail); try go_wp2))
              go_ret
              exact ⟨ret_bool (tf_pos HE.out).symm, (by repeat (first | exact Drawn0.refl _ | apply Drawn0.step))⟩
        · have HBAD := Aside0.mk (show ¬ Ruler l from fun h => hs (by rw [HM.out]; exact h.2.2))
          go_enter Try.func21, Try.ntmps21
          (go_wp2; repeat (go_quiet (fail); try go_wp2))
          go_ret
          exact ⟨ret_bool (tf_neg HBAD.out).symm, (by repeat (first | exact Drawn0.refl _ | apply Drawn0.step))⟩
      · have HBAD := Aside0.mk (show ¬ Ruler l from fun h => hz h.1.2)
        go_enter Try.func21, Try.ntmps21
        (go_wp2; repeat (go_quiet (fail); try go_wp2))
        go_ret
        exact ⟨ret_bool (tf_neg HBAD.out).symm, (by repeat (first | exact Drawn0.refl _ | apply Drawn0.step))⟩
    · have HBAD := Aside0.mk (show ¬ Ruler l from fun h => hl2 h.1.1.2)
      go_enter Try.func21, Try.ntmps21
      (go_wp2; repeat (go_quiet (fail); try go_wp2))
      go_ret
      exact ⟨ret_bool (tf_neg HBAD.out).symm, (by repeat (first | exact Drawn0.refl _ | apply Drawn0.step))⟩
  · have HBAD := Aside0.mk (show ¬ Ruler l from fun h => hl h.1.1.1)
    go_enter Try.func21, Try.ntmps21
    (go_wp2; repeat (go_quiet (fail); try go_wp2))
    go_ret
    exact ⟨ret_bool (tf_neg HBAD.out).symm, (by repeat (first | exact Drawn0.refl _ | apply Drawn0.step))⟩
end Go.Proofs.Ytfbbbefhdmimhaa.Own.G
