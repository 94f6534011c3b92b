/- Trees and labels: what the reference's grTree and grLabels and the program's IsTree and areLabels return; lists of at most 1048576 numbers. -/
import Derived.Test.YtaodmegnbkimeaaOwnGen
namespace Go.Proofs.Ytaodmegnbkimeaa.Own.G
open Go.RowKit Go.Proofs.YtaodmegnbkimeaaW.PrintWords Go.Proofs.YtaodmegnbkimeaaW.PrintLast Go.Proofs.YtaodmegnbkimeaaW.PrintMore
set_option linter.unusedVariables false
def Tree (l : List Int) : Prop := ((1 ≤ l.length ∧ l.length ≤ 9) ∧ rd l 0 = -1) ∧ ∀ j : Nat, 0 < j → j < l.length → 0 ≤ rd l (j : Int) ∧ rd l (j : Int) < (j : Int)
def LabelAt (n : Int) (l : List Int) (j : Nat) : Prop := 0 ≤ rd l (j : Int) ∧ rd l (j : Int) < n ∧ rd l (j : Int) ∉ l.take j
def Labels (n : Int) (l : List Int) : Prop := (l.length : Int) = n ∧ ∀ j : Nat, j < l.length → LabelAt n l j
def AllIn (a b : Int) (l : List Int) : Prop := ∀ j : Nat, j < l.length → a ≤ rd l (j : Int) ∧ rd l (j : Int) ≤ b
theorem nodes_calls (a : Int) (w : World) : Calls Try.prog 26 #[.int .i64 a] w fun e w' => e = .returned (.bool (within 1 9 a)) ∧ Drawn0 w w' := by
  by_cases h : 1 ≤ a
  · by_cases h' : a ≤ 9
    · have H := Aside0.mk (within_yes ⟨h, h'⟩)
      go_enter Try.func26, Try.ntmps26
      (go_wp2; repeat (go_quiet (fail); try go_wp2))
      go_ret
      exact ⟨by rw [H.out]; simp, (by repeat (first | exact Drawn0.refl _ | apply Drawn0.step))⟩
    · have H := Aside0.mk (within_no (fun k => h' k.2 : ¬ (1 ≤ a ∧ a ≤ 9)))
      have h2 : 9 < a := by omega
      clear h'
      go_enter Try.func26, Try.ntmps26
      (go_wp2; repeat (go_quiet (fail); try go_wp2))
      go_ret
      exact ⟨by rw [H.out]; simp [h2], (by repeat (first | exact Drawn0.refl _ | apply Drawn0.step))⟩
  · have H := Aside0.mk (within_no (fun k => h k.1 : ¬ (1 ≤ a ∧ a ≤ 9)))
    go_enter Try.func26, Try.ntmps26
    (go_wp2; repeat (go_quiet (fail); try go_wp2))
    go_ret
    exact ⟨by rw [H.out]; rfl, (by repeat (first | exact Drawn0.refl _ | apply Drawn0.step))⟩
set_option maxHeartbeats 1600000 in
theorem grTree_calls (A : Option Addr) (c : Nat) (l : List Int) (w : World) (hr : Rd w A l) (hc : l.length ≤ c) (hn : l.length ≤ 1048576) :
    Calls Try.prog 16 #[.slice A l.length c] w fun e w' => e = .returned (.bool (tf (Tree l))) ∧ Drawn0 w w' := by
  have HR := Aside0.mk hr
  have HC := Aside0.mk hc
  clear hr hc
  by_cases hl : 1 ≤ l.length ∧ l.length ≤ 9
  · have HT := Aside0.mk (within_yes (show (1 : Int) ≤ (l.length : Int) ∧ (l.length : Int) ≤ 9 by omega))
    obtain ⟨ad, rfl, hx0⟩ := at_first HR.out hl.1
    have hlp : (0 : Int) < (l.length : Int) := by omega
    by_cases hz : rd l 0 = -1
    · go_enter Try.func16, Try.ntmps16
      go_wp2_with (go_at_call 22; refine (in_calls _ _ _ _).mono ?_; rw [HT.out]; rintro e w' ⟨rfl, ⟨nd, rfl⟩⟩)
      have HZ := Aside0.mk hz
      clear hz hx0
      go_loopg [3] (l.length - 1) (fun g v3 w' => ∃ i : Nat, v3 = .int .i64 (i : Int) ∧ Aside0 (1 ≤ i) ∧ Aside0 (i + g = l.length) ∧ Aside0 (∀ j : Nat, 0 < j → j < i → 0 ≤ rd l (j : Int) ∧ rd l (j : Int) < (j : Int)) ∧ Drawn0 w w')
      case atStart => exact ⟨1, rfl, ⟨by omega⟩, ⟨by omega⟩, ⟨fun j h0 h => absurd h (by omega)⟩, (by repeat (first | exact Drawn0.refl _ | apply Drawn0.step))⟩
      case round =>
        obtain ⟨i, rfl, HI1, HI, HA, ⟨m1, rfl⟩⟩ := hrel
        have hi1 := HI1.out
        by_cases hlt : i < l.length
        · obtain ⟨ad2, e2, hx⟩ := at_nat HR.out hlt
          obtain rfl : ad = ad2 := by injection e2
          clear e2
          by_cases hq : 0 ≤ rd l (i : Int) ∧ rd l (i : Int) ≤ (i : Int) - 1
          · have HT2 := Aside0.mk (within_yes hq)
            have HQ := Aside0.mk (show 0 ≤ rd l (i : Int) ∧ rd l (i : Int) < (i : Int) by omega)
            clear hq
            go_wp2_with (go_at_call 22; refine (in_calls _ _ _ _).mono ?_; rw [HT2.out]; rintro e w' ⟨rfl, ⟨nd, rfl⟩⟩)
            go_roundg (gk - 1)
            case measure => have := HI.out; omega
            case rel => exact ⟨i + 1, by go_num, ⟨by omega⟩, ⟨by have := HI.out; omega⟩, ⟨fun j h0 hj => by
              rcases Nat.lt_or_ge j i with h | h
              · exact HA.out j h0 h
              · rw [show j = i by omega]; exact HQ.out⟩, (by repeat (first | exact Drawn0.refl _ | apply Drawn0.step))⟩
          · have HT2 := Aside0.mk (within_no hq)
            have HBAD := Aside0.mk (show ¬ Tree l from fun h => hq (by have := h.2 i (by omega) hlt; omega))
            clear hq
            go_wp2_with (go_at_call 22; refine (in_calls _ _ _ _).mono ?_; rw [HT2.out]; rintro e w' ⟨rfl, ⟨nd, rfl⟩⟩)
            go_ret
            exact ⟨ret_bool (tf_neg HBAD.out).symm, (by repeat (first | exact Drawn0.refl _ | apply Drawn0.step))⟩
        · have HE := Aside0.mk (show Tree l from ⟨⟨hl, HZ.out⟩, fun j h0 hj => HA.out j h0 (by omega)⟩)
          (go_wp2; repeat (go_quiet (fail); try go_wp2))
          go_ret
          exact ⟨ret_bool (tf_pos HE.out).symm, (by repeat (first | exact Drawn0.refl _ | apply Drawn0.step))⟩
    · have HBAD := Aside0.mk (show ¬ Tree l from fun h => hz h.1.2)
      go_enter Try.func16, Try.ntmps16
      go_wp2_with (go_at_call 22; refine (in_calls _ _ _ _).mono ?_; rw [HT.out]; rintro e w' ⟨rfl, ⟨nd, rfl⟩⟩)
      go_ret
      exact ⟨ret_bool (tf_neg HBAD.out).symm, (by repeat (first | exact Drawn0.refl _ | apply Drawn0.step))⟩
  · have HT := Aside0.mk (within_no (show ¬ ((1 : Int) ≤ (l.length : Int) ∧ (l.length : Int) ≤ 9) by omega))
    have HBAD := Aside0.mk (show ¬ Tree l from fun h => hl h.1.1)
    clear hl
    go_enter Try.func16, Try.ntmps16
    go_wp2_with (go_at_call 22; refine (in_calls _ _ _ _).mono ?_; rw [HT.out]; rintro e w' ⟨rfl, ⟨nd, rfl⟩⟩)
    go_ret
    exact ⟨ret_bool (tf_neg HBAD.out).symm, (by repeat (first | exact Drawn0.refl _ | apply Drawn0.step))⟩
set_option maxHeartbeats 1600000 in
theorem IsTree_calls (A : Option Addr) (c : Nat) (l : List Int) (w : World) (hr : Rd w A l) (hc : l.length ≤ c) (hn : l.length ≤ 1048576) :
    Calls Try.prog 18 #[.slice A l.length c] w fun e w' => e = .returned (.bool (tf (Tree l))) ∧ Drawn0 w w' := by
  have HR := Aside0.mk hr
  have HC := Aside0.mk hc
  clear hr hc
  by_cases hl : 1 ≤ l.length ∧ l.length ≤ 9
  · have HT := Aside0.mk (within_yes (show (1 : Int) ≤ (l.length : Int) ∧ (l.length : Int) ≤ 9 by omega))
    obtain ⟨ad, rfl, hx0⟩ := at_first HR.out hl.1
    have hlp : (0 : Int) < (l.length : Int) := by omega
    by_cases hz : rd l 0 = -1
    · go_enter Try.func18, Try.ntmps18
      go_wp2_with (go_at_call 26; refine (nodes_calls _ _).mono ?_; rw [HT.out]; rintro e w' ⟨rfl, ⟨nd, rfl⟩⟩)
      have HZ := Aside0.mk hz
      clear hz hx0
      go_loopg [3] (l.length - 1) (fun g v3 w' => ∃ i : Nat, v3 = .int .i64 (i : Int) ∧ Aside0 (1 ≤ i) ∧ Aside0 (i + g = l.length) ∧ Aside0 (∀ j : Nat, 0 < j → j < i → 0 ≤ rd l (j : Int) ∧ rd l (j : Int) < (j : Int)) ∧ Drawn0 w w')
      case atStart => exact ⟨1, rfl, ⟨by omega⟩, ⟨by omega⟩, ⟨fun j h0 h => absurd h (by omega)⟩, (by repeat (first | exact Drawn0.refl _ | apply Drawn0.step))⟩
      case round =>
        obtain ⟨i, rfl, HI1, HI, HA, ⟨m1, rfl⟩⟩ := hrel
        have hi1 := HI1.out
        by_cases hlt : i < l.length
        · obtain ⟨ad2, e2, hx⟩ := at_nat HR.out hlt
          obtain rfl : ad = ad2 := by injection e2
          clear e2
          by_cases hq : 0 ≤ rd l (i : Int)
          · by_cases hq2 : rd l (i : Int) < (i : Int)
            · have HQ := Aside0.mk (show 0 ≤ rd l (i : Int) ∧ rd l (i : Int) < (i : Int) by omega)
              (go_wp2; repeat (go_quiet (fail); try go_wp2))
              go_roundg (gk - 1)
              case measure => have := HI.out; omega
              case rel => exact ⟨i + 1, by go_num, ⟨by omega⟩, ⟨by have := HI.out; omega⟩, ⟨fun j h0 hj => by
                rcases Nat.lt_or_ge j i with h | h
                · exact HA.out j h0 h
                · rw [show j = i by omega]; exact HQ.out⟩, (by repeat (first | exact Drawn0.refl _ | apply Drawn0.step))⟩
            · have HBAD := Aside0.mk (show ¬ Tree l from fun h => hq2 (by have := h.2 i (by omega) hlt; omega))
              (go_wp2; repeat (go_quiet (fail); try go_wp2))
              go_ret
              exact ⟨ret_bool (tf_neg HBAD.out).symm, (by repeat (first | exact Drawn0.refl _ | apply Drawn0.step))⟩
          · have HBAD := Aside0.mk (show ¬ Tree l from fun h => hq (by have := h.2 i (by omega) hlt; omega))
            (go_wp2; repeat (go_quiet (fail); try go_wp2))
            go_ret
            exact ⟨ret_bool (tf_neg HBAD.out).symm, (by repeat (first | exact Drawn0.refl _ | apply Drawn0.step))⟩
        · have HE := Aside0.mk (show Tree l from ⟨⟨hl, HZ.out⟩, fun j h0 hj => HA.out j h0 (by omega)⟩)
          (go_wp2; repeat (go_quiet (fail); try go_wp2))
          go_ret
          exact ⟨ret_bool (tf_pos HE.out).symm, (by repeat (first | exact Drawn0.refl _ | apply Drawn0.step))⟩
    · have HBAD := Aside0.mk (show ¬ Tree l from fun h => hz h.1.2)
      go_enter Try.func18, Try.ntmps18
      go_wp2_with (go_at_call 26; refine (nodes_calls _ _).mono ?_; rw [HT.out]; rintro e w' ⟨rfl, ⟨nd, rfl⟩⟩)
      go_ret
      exact ⟨ret_bool (tf_neg HBAD.out).symm, (by repeat (first | exact Drawn0.refl _ | apply Drawn0.step))⟩
  · have HT := Aside0.mk (within_no (show ¬ ((1 : Int) ≤ (l.length : Int) ∧ (l.length : Int) ≤ 9) by omega))
    have HBAD := Aside0.mk (show ¬ Tree l from fun h => hl h.1.1)
    clear hl
    go_enter Try.func18, Try.ntmps18
    go_wp2_with (go_at_call 26; refine (nodes_calls _ _).mono ?_; rw [HT.out]; rintro e w' ⟨rfl, ⟨nd, rfl⟩⟩)
    go_ret
    exact ⟨ret_bool (tf_neg HBAD.out).symm, (by repeat (first | exact Drawn0.refl _ | apply Drawn0.step))⟩
end Go.Proofs.Ytaodmegnbkimeaa.Own.G
