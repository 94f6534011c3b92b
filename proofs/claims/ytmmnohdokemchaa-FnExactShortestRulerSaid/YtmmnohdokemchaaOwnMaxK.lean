/- The greatest number of a list: what slices.Max returns of a list of whole numbers that has one; lists of at most 1048576 numbers. -/
import Derived.Test.YtmmnohdokemchaaOwnGen
namespace Go.Proofs.Ytmmnohdokemchaa.Own.G
open Go.RowKit Go.Proofs.YtmmnohdokemchaaW.PrintWords Go.Proofs.YtmmnohdokemchaaW.PrintLast Go.Proofs.YtmmnohdokemchaaW.PrintMore
set_option linter.unusedVariables false
def Top (l : List Int) (i : Nat) (m : Int) : Prop := ∀ k : Int, m ≤ k ↔ ∀ j : Nat, j < i → rd l (j : Int) ≤ k
theorem Top_one (l : List Int) : Top l 1 (rd l 0) := fun k => ⟨fun h j hj => by rw [show j = 0 by omega]; exact h, fun h => h 0 (by omega)⟩
theorem Top_step {l : List Int} {i : Nat} {m : Int} (h : Top l i m) : Top l (i + 1) (max m (rd l (i : Int))) := fun k => by
  rw [Int.max_le, h k]
  constructor
  · rintro ⟨h1, h2⟩ j hj
    rcases Nat.lt_or_ge j i with h3 | h3
    · exact h1 j h3
    · rw [show j = i by omega]; exact h2
  · intro h1
    exact ⟨fun j hj => h1 j (by omega), h1 i (by omega)⟩
set_option maxHeartbeats 1600000 in
theorem Max_calls (A : Option Addr) (c : Nat) (l : List Int) (w : World) (hr : Rd w A l) (hc : l.length ≤ c) (hp : 1 ≤ l.length) (hn : l.length ≤ 1048576) :
    Calls Try.prog 31 #[.slice A l.length c] w fun e w' => (∃ m : Int, e = .returned (.int .i64 m) ∧ Top l l.length m) ∧ Drawn0 w w' := by
  have HR := Aside0.mk hr
  have HC := Aside0.mk hc
  obtain ⟨ad, rfl, hx0⟩ := at_first hr hp
  have hlp : (0 : Int) < (l.length : Int) := by omega
  clear hr hc
  go_enter Try.func31, Try.ntmps31
  (go_wp2; repeat (go_quiet (fail); try go_wp2))
  clear hx0
  go_loopg [3, 4] (l.length - 1) (fun g v3 v4 w' => ∃ (i : Nat) (m : Int), v3 = .int .i64 m ∧ v4 = .int .i64 i ∧ Aside0 (1 ≤ i) ∧ Aside0 (i + g = l.length) ∧ Aside0 (Top l i m) ∧ Drawn0 w w')
  case atStart => exact ⟨1, _, rfl, rfl, ⟨by omega⟩, ⟨by omega⟩, ⟨Top_one l⟩, (by repeat (first | exact Drawn0.refl _ | apply Drawn0.step))⟩
  case round =>
    obtain ⟨i, m, rfl, rfl, HI1, HI, HT, ⟨m1, rfl⟩⟩ := hrel
    by_cases hlt : i < l.length
    · obtain ⟨ad2, e2, hx⟩ := at_nat HR.out hlt
      obtain rfl : ad = ad2 := by injection e2
      clear e2
      have HS := Aside0.mk (Top_step HT.out)
      (go_wp2; repeat (go_quiet (fail); try go_wp2))
      all_goals
        go_roundg (gk - 1)
        case measure => have := HI.out; omega
        case rel => exact ⟨i + 1, _, rfl, by go_num, ⟨by omega⟩, ⟨by have := HI.out; omega⟩, ⟨by have h := HS.out; first | rwa [Int.max_eq_left (by omega)] at h | rwa [Int.max_eq_right (by omega)] at h⟩, (by repeat (first | exact Drawn0.refl _ | apply Drawn0.step))⟩
    · have HE := Aside0.mk (show Top l l.length m by have := HT.out; rwa [show i = l.length by have := HI.out; omega] at this)
      (go_wp2; repeat (go_quiet (fail); try go_wp2))
      go_ret
      exact ⟨⟨_, rfl, HE.out⟩, (by repeat (first | exact Drawn0.refl _ | apply Drawn0.step))⟩
end Go.Proofs.Ytmmnohdokemchaa.Own.G
