/- What the reference's doGood and the program's IsDots answer of a list: whether it is dots; lists of at most 1048576 numbers. -/
import Derived.Test.YtafnipklejfbmaaOwnKit
namespace Go.Proofs.Ytafnipklejfbmaa.Own
open Go.RowKit Go.Proofs.YtafnipklejfbmaaW.PrintWords Go.Proofs.YtafnipklejfbmaaW.PrintLast Go.Proofs.YtafnipklejfbmaaW.PrintMore
set_option linter.unusedVariables false
/-- Dots: each number below their number, none twice. -/
def DotAt (p : List Int) (j : Nat) : Prop := 0 ≤ rd p (j : Int) ∧ rd p (j : Int) < (p.length : Int) ∧ rd p (j : Int) ∉ p.take j
def Dots (p : List Int) : Prop := (1 ≤ p.length ∧ p.length ≤ 12) ∧ ∀ j, j < p.length → DotAt p j
def idx (v : Int) (xs : List Int) : Int := if v ∈ xs then (xs.idxOf v : Int) else -1
theorem idx_pos {v : Int} {xs : List Int} : 0 ≤ idx v xs ↔ v ∈ xs := by
  unfold idx
  split
  · simp_all
  · simp_all
theorem idx_none {v : Int} {xs : List Int} (h : v ∉ xs) : idx v xs = -1 := by
  unfold idx
  rw [if_neg h]
theorem idx_at {v : Int} {xs : List Int} {i : Nat} (hi : i < xs.length) (h : rd xs (i : Int) = v) (hn : v ∉ xs.take i) : idx v xs = (i : Int) := by
  have hm : v ∈ xs := h ▸ rd_mem hi
  unfold idx
  rw [if_pos hm]
  have e : xs = xs.take i ++ v :: xs.drop (i + 1) := by
    rw [← h, ← drop_rd hi, List.take_append_drop]
  have : xs.idxOf v = i := by
    rw [e, List.idxOf_append, if_neg hn, List.idxOf_cons_self, List.length_take]
    omega
  rw [this]
theorem ret_int {k : IntKind} {a b : Int} (h : a = b) : Ending.returned (.int k a) = .returned (.int k b) := by rw [h]
set_option maxHeartbeats 800000 in
theorem Index_calls (A : Option Addr) (c : Nat) (l : List Int) (x : Int) (w : World) (hr : Rd w A l) (hc : l.length ≤ c) (hn : l.length ≤ 35184372088832) :
    Calls Try.prog 52 #[.slice A l.length c, .int .i64 x] w fun e w' => e = .returned (.int .i64 (idx x l)) ∧ Drawn0 w w' := by
  have HR := Aside0.mk hr
  have HC := Aside0.mk hc
  clear hr hc
  go_enter Try.func52, Try.ntmps52
  (go_wp2; repeat (go_quiet (fail); try go_wp2))
  go_loopg [8] l.length (fun g v8 w' => ∃ i : Nat, v8 = .int .i64 i ∧ Aside0 (i + g = l.length) ∧ Aside0 (x ∉ l.take i) ∧ Drawn0 w w')
  case atStart => exact ⟨0, rfl, ⟨by omega⟩, ⟨by simp⟩, (by repeat (first | exact Drawn0.refl _ | apply Drawn0.step))⟩
  case round =>
    obtain ⟨i, rfl, HI, HA, ⟨m1, rfl⟩⟩ := hrel
    by_cases hlt : i < l.length
    · obtain ⟨ad, rfl, hx⟩ := at_nat HR.out hlt
      by_cases h1 : rd l (i : Int) = x
      · have HM := Aside0.mk (idx_at hlt h1 HA.out)
        have ht : (x == rd l (i : Int)) = true := beq_iff_eq.mpr h1.symm
        clear h1
        (go_wp2; repeat (go_quiet (fail); try go_wp2))
        go_ret
        exact ⟨ret_int HM.out.symm, (by repeat (first | exact Drawn0.refl _ | apply Drawn0.step))⟩
      · have hm : x ∉ l.take (i + 1) := by
          rw [take_rd hlt]
          simp only [List.mem_append, List.mem_singleton]
          exact fun h => h.elim HA.out (fun e => h1 e.symm)
        have HM := Aside0.mk hm
        clear hm
        have ht : (x == rd l (i : Int)) = false := beq_eq_false_iff_ne.mpr (fun e => h1 e.symm)
        clear h1
        (go_wp2; repeat (go_quiet (fail); try go_wp2))
        go_roundg (gk - 1)
        case measure => have := HI.out; omega
        case rel => exact ⟨i + 1, by go_num, ⟨by have := HI.out; omega⟩, HM, (by repeat (first | exact Drawn0.refl _ | apply Drawn0.step))⟩
    · (go_wp2; repeat (go_quiet (fail); try go_wp2))
      go_ret
      exact ⟨ret_int (idx_none (fun h => HA.out (by rwa [List.take_of_length_le (by omega)]))).symm, (by repeat (first | exact Drawn0.refl _ | apply Drawn0.step))⟩
theorem Contains_calls (A : Option Addr) (c : Nat) (l : List Int) (x : Int) (w : World) (hr : Rd w A l) (hc : l.length ≤ c) (hn : l.length ≤ 35184372088832) :
    Calls Try.prog 41 #[.slice A l.length c, .int .i64 x] w fun e w' => e = .returned (.bool (decide (x ∈ l))) ∧ Drawn0 w w' := by
  have HR := Aside0.mk hr
  have HC := Aside0.mk hc
  clear hr hc
  go_enter Try.func41, Try.ntmps41
  go_wp2_with (go_at_call 52; refine (Index_calls _ _ l _ _ HR.out HC.out hn).mono ?_; rintro e w' ⟨rfl, ⟨nd, rfl⟩⟩)
  go_ret
  exact ⟨ret_bool (decide_eq_decide.mpr idx_pos), (by repeat (first | exact Drawn0.refl _ | apply Drawn0.step))⟩
theorem Contains_take (A : Option Addr) (c : Nat) (l : List Int) (i : Nat) (x : Int) (w : World) (hr : Rd w A l) (hc : l.length ≤ c) (hi : i ≤ l.length) (hn : l.length ≤ 35184372088832) :
    Calls Try.prog 41 #[.slice A i c, .int .i64 x] w fun e w' => e = .returned (.bool (decide (x ∈ l.take i))) ∧ Drawn0 w w' := by
  have hl : (l.take i).length = i := by rw [List.length_take]; omega
  exact calls_of_args (by rw [hl]) (Contains_calls A c (l.take i) x w (Rd_take hr i hi) (by omega) (by omega))
end Go.Proofs.Ytafnipklejfbmaa.Own
