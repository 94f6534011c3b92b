/- The labels of edges, and graceful labels: what the reference's and the program's functions return; lists of at most 1048576 numbers. -/
import Derived.Test.YtfbbbefhdmimhaaOwnLabelA
namespace Go.Proofs.Ytfbbbefhdmimhaa.Own.G
open Go.RowKit Go.Proofs.YtfbbbefhdmimhaaW.PrintWords Go.Proofs.YtfbbbefhdmimhaaW.PrintLast Go.Proofs.YtfbbbefhdmimhaaW.PrintMore
set_option linter.unusedVariables false
def dist (a b : Int) : Int := ((a - b).natAbs : Int)
/-- The labels of the first i edges. -/
def edges (l m : List Int) (i : Nat) : List Int := (List.range i).map fun j : Nat => dist (rd m ((j + 1 : Nat) : Int)) (rd m (rd l ((j + 1 : Nat) : Int)))
theorem edges_length (l m : List Int) (i : Nat) : (edges l m i).length = i := by simp [edges]
theorem edges_succ (l m : List Int) (i : Nat) : edges l m (i + 1) = edges l m i ++ [dist (rd m ((i + 1 : Nat) : Int)) (rd m (rd l ((i + 1 : Nat) : Int)))] := by
  unfold edges
  rw [List.range_succ, List.map_append]
  rfl
def Low (m : List Int) : Prop := ∀ x ∈ m, 0 ≤ x ∧ x ≤ 1000
theorem Low_rd {m : List Int} (h : Low m) {i : Int} (h0 : 0 ≤ i) (h1 : i < (m.length : Int)) : 0 ≤ rd m i ∧ rd m i ≤ 1000 := by
  obtain ⟨n, rfl⟩ : ∃ n : Nat, i = (n : Int) := ⟨i.toNat, by omega⟩
  exact h _ (rd_mem (by omega))
theorem Labels_low {n : Int} {m : List Int} (h : Labels n m) (hn : n ≤ 1000) : Low m := fun x hx => by
  obtain ⟨i, hi, rfl⟩ := mem_rd hx
  have := (h.2 i hi).1
  have := (h.2 i hi).2.1
  omega
def Unl (l : List Int) : Prop := ∀ i : Nat, i < l.length → rd l (i : Int) ∉ l.take i
set_option maxHeartbeats 1600000 in
theorem unlike_calls (A : Option Addr) (c : Nat) (l : List Int) (w : World) (hr : Rd w A l) (hc : l.length ≤ c) (hn : l.length ≤ 1048576) :
    Calls Try.prog 33 #[.slice A l.length c] w fun e w' => e = .returned (.bool (tf (Unl l))) ∧ Drawn0 w w' := by
  have HR := Aside0.mk hr
  have HC := Aside0.mk hc
  clear hr hc
  go_enter Try.func33, Try.ntmps33
  (go_wp2; repeat (go_quiet (fail); try go_wp2))
  go_loopg [7] l.length (fun g v7 w' => ∃ i : Nat, v7 = .int .i64 i ∧ Aside0 (i + g = l.length) ∧ Aside0 (∀ j : Nat, j < i → rd l (j : Int) ∉ l.take j) ∧ Drawn0 w w')
  case atStart => exact ⟨0, rfl, ⟨by omega⟩, ⟨fun j h => absurd h (by omega)⟩, (by repeat (first | exact Drawn0.refl _ | apply Drawn0.step))⟩
  case round =>
    obtain ⟨i, rfl, HI, HA, ⟨m1, rfl⟩⟩ := hrel
    by_cases hlt : i < l.length
    · obtain ⟨ad, rfl, hx⟩ := at_nat HR.out hlt
      have hcut := cut_nat (some ad) c l i (by omega) HC.out
      by_cases h2 : rd l (i : Int) ∈ l.take i
      · have H2 := Aside0.mk (decide_eq_true h2)
        have HBAD := Aside0.mk (show ¬ Unl l from fun h => h i hlt h2)
        clear h2
        go_wp2_with (go_at_call 22; refine (Contains_take _ _ l i _ _ (Kd.C_drewN HR.out _) HC.out (by omega) (by omega)).mono ?_; rw [H2.out]; rintro e w' ⟨rfl, ⟨nd2, rfl⟩⟩)
        go_ret
        exact ⟨ret_bool (tf_neg HBAD.out).symm, (by repeat (first | exact Drawn0.refl _ | apply Drawn0.step))⟩
      · have H2 := Aside0.mk (decide_eq_false h2)
        have HD := Aside0.mk h2
        clear h2
        go_wp2_with (go_at_call 22; refine (Contains_take _ _ l i _ _ (Kd.C_drewN HR.out _) HC.out (by omega) (by omega)).mono ?_; rw [H2.out]; rintro e w' ⟨rfl, ⟨nd2, rfl⟩⟩)
        go_roundg (gk - 1)
        case measure => have := HI.out; omega
        case rel => exact ⟨i + 1, by go_num, ⟨by have := HI.out; omega⟩, ⟨fun j hj => by
          rcases Nat.lt_or_ge j i with h | h
          · exact HA.out j h
          · rw [show j = i by omega]; exact HD.out⟩, (by repeat (first | exact Drawn0.refl _ | apply Drawn0.step))⟩
    · have HE := Aside0.mk (show Unl l from fun j hj => HA.out j (by omega))
      (go_wp2; repeat (go_quiet (fail); try go_wp2))
      go_ret
      exact ⟨ret_bool (tf_pos HE.out).symm, (by repeat (first | exact Drawn0.refl _ | apply Drawn0.step))⟩
def Asked (l m : List Int) : Prop := Tree l ∧ Labels (l.length : Int) m
noncomputable def EdgeF (l m : List Int) : List Int × Bool := if tf (Asked l m) = true then (edges l m (m.length - 1), true) else ([], false)
theorem EdgeF_yes {l m : List Int} (h : Asked l m) : EdgeF l m = (edges l m (m.length - 1), true) := if_pos (tf_pos h)
theorem EdgeF_no {l m : List Int} (h : ¬ Asked l m) : EdgeF l m = ([], false) := if_neg (by rw [tf_neg h]; decide)
theorem EdgeF_len (l m : List Int) (hn : l.length ≤ 1048576) (hn' : m.length ≤ 1048576) : (EdgeF l m).1.length ≤ 1048576 := by
  by_cases h : Asked l m
  · rw [EdgeF_yes h]; show (edges _ _ _).length ≤ _; rw [edges_length]; omega
  · rw [EdgeF_no h]; simp
theorem Asked_low {l m : List Int} (h : Asked l m) : Low m := Labels_low h.2 (by have := h.1.1.1; omega)
theorem Asked_len {l m : List Int} (h : Asked l m) : m.length = l.length := by have := h.2.1; omega
noncomputable def GracefulF (l m : List Int) : Bool × Bool := if tf (Asked l m) = true then (tf (Unl (edges l m (m.length - 1))), true) else (false, false)
theorem GracefulF_yes {l m : List Int} (h : Asked l m) : GracefulF l m = (tf (Unl (edges l m (m.length - 1))), true) := if_pos (tf_pos h)
theorem GracefulF_no {l m : List Int} (h : ¬ Asked l m) : GracefulF l m = (false, false) := if_neg (by rw [tf_neg h]; decide)
end Go.Proofs.Ytfbbbefhdmimhaa.Own.G
