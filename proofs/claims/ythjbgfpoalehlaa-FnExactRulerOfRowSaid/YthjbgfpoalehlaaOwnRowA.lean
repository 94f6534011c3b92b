/- Rows: what the reference's roGood and the program's IsRow return; lists of at most 1048576 numbers. -/
import Derived.Test.YthjbgfpoalehlaaOwnLabelA
namespace Go.Proofs.Ythjbgfpoalehlaa.Own.G
open Go.RowKit Go.Proofs.YthjbgfpoalehlaaW.PrintWords Go.Proofs.YthjbgfpoalehlaaW.PrintLast Go.Proofs.YthjbgfpoalehlaaW.PrintMore
set_option linter.unusedVariables false
def Row (l : List Int) : Prop := l.length ≤ 40 ∧ AllIn 0 20 l
set_option maxHeartbeats 800000 in
theorem roGood_calls (A : Option Addr) (c : Nat) (l : List Int) (w : World) (hr : Rd w A l) (hc : l.length ≤ c) (hn : l.length ≤ 1048576) :
    Calls Try.prog 60 #[.slice A l.length c] w fun e w' => e = .returned (.bool (tf (Row l))) ∧ Drawn0 w w' := by
  have HR := Aside0.mk hr
  have HC := Aside0.mk hc
  clear hr hc
  by_cases hl : l.length ≤ 40
  · have HE := Aside0.mk (show tf (AllIn 0 20 l) = tf (Row l) from tf_congr ⟨fun h => ⟨hl, h⟩, fun h => h.2⟩)
    go_enter Try.func60, Try.ntmps60
    go_wp2_with (go_at_call 78; refine (all_calls _ _ l _ _ _ (by first | exact HR.out | exact Kd.C_drewN HR.out _) HC.out hn).mono ?_; rintro e w' ⟨rfl, ⟨nd, rfl⟩⟩)
    all_goals
      go_ret
      exact ⟨ret_bool HE.out, (by repeat (first | exact Drawn0.refl _ | apply Drawn0.step))⟩
  · have HBAD := Aside0.mk (show ¬ Row l from fun h => hl h.1)
    go_enter Try.func60, Try.ntmps60
    (go_wp2; repeat (go_quiet (fail); try go_wp2))
    go_ret
    exact ⟨ret_bool (tf_neg HBAD.out).symm, (by repeat (first | exact Drawn0.refl _ | apply Drawn0.step))⟩
set_option maxHeartbeats 800000 in
theorem IsRow_calls (A : Option Addr) (c : Nat) (l : List Int) (w : World) (hr : Rd w A l) (hc : l.length ≤ c) (hn : l.length ≤ 1048576) :
    Calls Try.prog 62 #[.slice A l.length c] w fun e w' => e = .returned (.bool (tf (Row l))) ∧ Drawn0 w w' := by
  have HR := Aside0.mk hr
  have HC := Aside0.mk hc
  clear hr hc
  go_enter Try.func62, Try.ntmps62
  (go_wp2; repeat (go_quiet (fail); try go_wp2))
  go_loopg [7] l.length (fun g v7 w' => ∃ i : Nat, v7 = .int .i64 i ∧ Aside0 (i + g = l.length) ∧ Aside0 (∀ j : Nat, j < i → 0 ≤ rd l (j : Int) ∧ rd l (j : Int) ≤ 20) ∧ Drawn0 w w')
  case atStart => exact ⟨0, rfl, ⟨by omega⟩, ⟨fun j h => absurd h (by omega)⟩, (by repeat (first | exact Drawn0.refl _ | apply Drawn0.step))⟩
  case round =>
    obtain ⟨i, rfl, HI, HA, ⟨m1, rfl⟩⟩ := hrel
    by_cases hlt : i < l.length
    · obtain ⟨ad, rfl, hx⟩ := at_nat HR.out hlt
      by_cases h1 : rd l (i : Int) < 0
      · have HBAD := Aside0.mk (show ¬ Row l from fun h => by have := (h.2 i hlt).1; omega)
        (go_wp2; repeat (go_quiet (fail); try go_wp2))
        go_ret
        exact ⟨ret_bool (tf_neg HBAD.out).symm, (by repeat (first | exact Drawn0.refl _ | apply Drawn0.step))⟩
      · by_cases h2 : rd l (i : Int) ≤ 20
        · have HQ := Aside0.mk (show 0 ≤ rd l (i : Int) ∧ rd l (i : Int) ≤ 20 by omega)
          (go_wp2; repeat (go_quiet (fail); try go_wp2))
          go_roundg (gk - 1)
          case measure => have := HI.out; omega
          case rel => exact ⟨i + 1, by go_num, ⟨by have := HI.out; omega⟩, ⟨fun j hj => by
            rcases Nat.lt_or_ge j i with h | h
            · exact HA.out j h
            · rw [show j = i by omega]; exact HQ.out⟩, (by repeat (first | exact Drawn0.refl _ | apply Drawn0.step))⟩
        · have HBAD := Aside0.mk (show ¬ Row l from fun h => by have := (h.2 i hlt).2; omega)
          (go_wp2; repeat (go_quiet (fail); try go_wp2))
          go_ret
          exact ⟨ret_bool (tf_neg HBAD.out).symm, (by repeat (first | exact Drawn0.refl _ | apply Drawn0.step))⟩
    · have HE := Aside0.mk (show decide (l.length ≤ 40) = tf (Row l) by
        rw [← tf_dec]
        exact tf_congr ⟨fun h => ⟨h, fun j hj => HA.out j (by omega)⟩, fun h => h.1⟩)
      have HE2 := Aside0.mk (show decide ((l.length : Int) ≤ 40) = tf (Row l) by rw [← HE.out]; exact decide_eq_decide.mpr (by omega))
      (go_wp2; repeat (go_quiet (fail); try go_wp2))
      go_ret
      exact ⟨ret_bool (by first | exact HE.out | exact HE2.out), (by repeat (first | exact Drawn0.refl _ | apply Drawn0.step))⟩
end Go.Proofs.Ythjbgfpoalehlaa.Own.G
