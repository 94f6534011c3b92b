/- Trees and labels: what the reference's grTree and grLabels and the program's IsTree and areLabels return; lists of at most 1048576 numbers. -/
import Derived.Test.YtfbbbefhdmimhaaOwnGen
namespace Go.Proofs.Ytfbbbefhdmimhaa.Own.G
open Go.RowKit Go.Proofs.YtfbbbefhdmimhaaW.PrintWords Go.Proofs.YtfbbbefhdmimhaaW.PrintLast Go.Proofs.YtfbbbefhdmimhaaW.PrintMore
set_option linter.unusedVariables false
def Tree (l : List Int) : Prop := ((1 ≤ l.length ∧ l.length ≤ 9) ∧ rd l 0 = -1) ∧ ∀ j : Nat, 0 < j → j < l.length → 0 ≤ rd l (j : Int) ∧ rd l (j : Int) < (j : Int)
def LabelAt (n : Int) (l : List Int) (j : Nat) : Prop := 0 ≤ rd l (j : Int) ∧ rd l (j : Int) < n ∧ rd l (j : Int) ∉ l.take j
def Labels (n : Int) (l : List Int) : Prop := (l.length : Int) = n ∧ ∀ j : Nat, j < l.length → LabelAt n l j
def AllIn (a b : Int) (l : List Int) : Prop := ∀ j : Nat, j < l.length → a ≤ rd l (j : Int) ∧ rd l (j : Int) ≤ b
set_option maxHeartbeats 800000 in
theorem all_calls (A : Option Addr) (c : Nat) (l : List Int) (a b : Int) (w : World) (hr : Rd w A l) (hc : l.length ≤ c) (hn : l.length ≤ 1048576) :
    Calls Try.prog 42 #[.slice A l.length c, .int .i64 a, .int .i64 b] w fun e w' => e = .returned (.bool (tf (AllIn a b l))) ∧ Drawn0 w w' := by
  have HR := Aside0.mk hr
  have HC := Aside0.mk hc
  clear hr hc
  go_enter Try.func42, Try.ntmps42
  (go_wp2; repeat (go_quiet (fail); try go_wp2))
  go_loopg [11] l.length (fun g v11 w' => ∃ i : Nat, v11 = .int .i64 i ∧ Aside0 (i + g = l.length) ∧ Aside0 (∀ j : Nat, j < i → a ≤ rd l (j : Int) ∧ rd l (j : Int) ≤ b) ∧ Drawn0 w w')
  case atStart => exact ⟨0, rfl, ⟨by omega⟩, ⟨fun j h => absurd h (by omega)⟩, (by repeat (first | exact Drawn0.refl _ | apply Drawn0.step))⟩
  case round =>
    obtain ⟨i, rfl, HI, HA, ⟨m1, rfl⟩⟩ := hrel
    by_cases hlt : i < l.length
    · obtain ⟨ad, rfl, hx⟩ := at_nat HR.out hlt
      by_cases h1 : a ≤ rd l (i : Int) ∧ rd l (i : Int) ≤ b
      · have HT := Aside0.mk (within_yes h1)
        have HQ := Aside0.mk h1
        clear h1
        go_wp2_with (go_at_call 29; refine (in_calls _ _ _ _).mono ?_; rw [HT.out]; rintro e w' ⟨rfl, ⟨nd, rfl⟩⟩)
        go_roundg (gk - 1)
        case measure => have := HI.out; omega
        case rel => exact ⟨i + 1, by go_num, ⟨by have := HI.out; omega⟩, ⟨fun j hj => by
            rcases Nat.lt_or_ge j i with h | h
            · exact HA.out j h
            · rw [show j = i by omega]; exact HQ.out⟩, (by repeat (first | exact Drawn0.refl _ | apply Drawn0.step))⟩
      · have HT := Aside0.mk (within_no h1)
        have HBAD := Aside0.mk (show ¬ AllIn a b l from fun h => h1 (h i hlt))
        clear h1
        go_wp2_with (go_at_call 29; refine (in_calls _ _ _ _).mono ?_; rw [HT.out]; rintro e w' ⟨rfl, ⟨nd, rfl⟩⟩)
        go_ret
        exact ⟨ret_bool (tf_neg HBAD.out).symm, (by repeat (first | exact Drawn0.refl _ | apply Drawn0.step))⟩
    · (go_wp2; repeat (go_quiet (fail); try go_wp2))
      go_ret
      exact ⟨ret_bool (tf_pos (fun j hj => HA.out j (by omega))).symm, (by repeat (first | exact Drawn0.refl _ | apply Drawn0.step))⟩
end Go.Proofs.Ytfbbbefhdmimhaa.Own.G
