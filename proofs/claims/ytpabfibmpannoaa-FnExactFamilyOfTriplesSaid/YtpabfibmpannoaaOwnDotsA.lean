/- What the reference's doGood and the program's IsDots answer of a list: whether it is dots; lists of at most 1048576 numbers. -/
import Derived.Test.YtpabfibmpannoaaOwnKit
namespace Go.Proofs.Ytpabfibmpannoaa.Own
open Go.RowKit Go.Proofs.YtpabfibmpannoaaW.PrintWords Go.Proofs.YtpabfibmpannoaaW.PrintLast Go.Proofs.YtpabfibmpannoaaW.PrintMore
set_option linter.unusedVariables false
/-- Dots: each number below their number, none twice. -/
def DotAt (p : List Int) (j : Nat) : Prop := 0 ≤ rd p (j : Int) ∧ rd p (j : Int) < (p.length : Int) ∧ rd p (j : Int) ∉ p.take j
def Dots (p : List Int) : Prop := (1 ≤ p.length ∧ p.length ≤ 12) ∧ ∀ j, j < p.length → DotAt p j
set_option maxHeartbeats 1600000 in
theorem doGood_calls (A : Option Addr) (c : Nat) (l : List Int) (w : World) (hr : Rd w A l) (hc : l.length ≤ c) (hn : l.length ≤ 1048576) :
    Calls Try.prog 41 #[.slice A l.length c] w fun e w' => e = .returned (.bool (tf (Dots l))) ∧ Drawn0 w w' := by
  have HR := Aside0.mk hr
  have HC := Aside0.mk hc
  clear hr hc
  by_cases hl : 1 ≤ l.length ∧ l.length ≤ 12
  · have HT := Aside0.mk (within_yes (show (1 : Int) ≤ (l.length : Int) ∧ (l.length : Int) ≤ 12 by omega))
    go_enter Try.func41, Try.ntmps41
    go_wp2_with (go_at_call 31; refine (in_calls _ _ _ _).mono ?_; rw [HT.out]; rintro e w' ⟨rfl, ⟨nd, rfl⟩⟩)
    go_loopg [11] l.length (fun g v11 w' => ∃ i : Nat, v11 = .int .i64 i ∧ Aside0 (i + g = l.length) ∧ Aside0 (∀ j, j < i → DotAt l j) ∧ Drawn0 w w')
    case atStart => exact ⟨0, rfl, ⟨by omega⟩, ⟨fun j h => absurd h (by omega)⟩, (by repeat (first | exact Drawn0.refl _ | apply Drawn0.step))⟩
    case round =>
      clear HT
      obtain ⟨i, rfl, HI, HA, ⟨m1, rfl⟩⟩ := hrel
      by_cases hlt : i < l.length
      · obtain ⟨ad, rfl, hx⟩ := at_nat HR.out hlt
        have hcut := cut_nat (some ad) c l i (by omega) HC.out
        by_cases h1 : (0 ≤ rd l (i : Int) ∧ rd l (i : Int) ≤ (l.length : Int) - 1)
        · have HT := Aside0.mk (within_yes h1)
          by_cases h2 : rd l (i : Int) ∈ l.take i
          · have H2 := Aside0.mk (decide_eq_true h2)
            have HBAD := Aside0.mk (show ¬ Dots l from fun h => (h.2 i hlt).2.2 h2)
            clear h1 h2
            go_wp2_with (first | (go_at_call 31; refine (in_calls _ _ _ _).mono ?_; rw [HT.out]; rintro e w' ⟨rfl, ⟨nd, rfl⟩⟩) | (go_at_call 63; refine (has_take _ _ l i _ _ (Kd.C_drewN HR.out _) HC.out (by omega) (by omega)).mono ?_; rw [H2.out]; rintro e w' ⟨rfl, ⟨nd2, rfl⟩⟩))
            go_ret
            exact ⟨ret_bool (tf_neg HBAD.out).symm, (by repeat (first | exact Drawn0.refl _ | apply Drawn0.step))⟩
          · have H2 := Aside0.mk (decide_eq_false h2)
            have HD := Aside0.mk (show DotAt l i from ⟨h1.1, by omega, h2⟩)
            clear h1 h2
            go_wp2_with (first | (go_at_call 31; refine (in_calls _ _ _ _).mono ?_; rw [HT.out]; rintro e w' ⟨rfl, ⟨nd, rfl⟩⟩) | (go_at_call 63; refine (has_take _ _ l i _ _ (Kd.C_drewN HR.out _) HC.out (by omega) (by omega)).mono ?_; rw [H2.out]; rintro e w' ⟨rfl, ⟨nd2, rfl⟩⟩))
            go_roundg (gk - 1)
            case measure => have := HI.out; omega
            case rel => exact ⟨i + 1, by go_num, ⟨by have := HI.out; omega⟩, ⟨fun j hj => by
              rcases Nat.lt_or_ge j i with h | h
              · exact HA.out j h
              · rw [show j = i by omega]; exact HD.out⟩, (by repeat (first | exact Drawn0.refl _ | apply Drawn0.step))⟩
        · have HT := Aside0.mk (within_no h1)
          have HBAD := Aside0.mk (show ¬ Dots l from fun h => h1 (by have := h.2 i hlt; exact ⟨this.1, by have := this.2.1; omega⟩))
          clear h1
          go_wp2_with (go_at_call 31; refine (in_calls _ _ _ _).mono ?_; rw [HT.out]; rintro e w' ⟨rfl, ⟨nd, rfl⟩⟩)
          go_ret
          exact ⟨ret_bool (tf_neg HBAD.out).symm, (by repeat (first | exact Drawn0.refl _ | apply Drawn0.step))⟩
      · (go_wp2; repeat (go_quiet (fail); try go_wp2))
        go_ret
        exact ⟨ret_bool (tf_pos ⟨hl, fun j hj => HA.out j (by omega)⟩).symm, (by repeat (first | exact Drawn0.refl _ | apply Drawn0.step))⟩
  · have HT := Aside0.mk (within_no (show ¬ ((1 : Int) ≤ (l.length : Int) ∧ (l.length : Int) ≤ 12) by omega))
    have HBAD := Aside0.mk (show ¬ Dots l from fun h => hl h.1)
    clear hl
    go_enter Try.func41, Try.ntmps41
    go_wp2_with (go_at_call 31; refine (in_calls _ _ _ _).mono ?_; rw [HT.out]; rintro e w' ⟨rfl, ⟨nd, rfl⟩⟩)
    go_ret
    exact ⟨ret_bool (tf_neg HBAD.out).symm, (by repeat (first | exact Drawn0.refl _ | apply Drawn0.step))⟩
def idx (v : Int) (xs : List Int) : Int := if v ∈ xs then (xs.idxOf v : Int) else -1
theorem idx_pos {v : Int} {xs : List Int} : 0 ≤ idx v xs ↔ v ∈ xs := by
  unfold idx
  split
  · simp_all
  · simp_all
theorem idx_none {v : Int} {xs : List Int} (h : v ∉ xs) : idx v xs = -1 := by
  unfold idx
  rw [if_neg h]
theorem idx_at {v : Int} {xs : List Int} {i : Nat} (hi : i < xs.length) (h : rd xs (i : Int) = v) (hn : v ∉ xs.take i) : idx v xs = (i : Int) := by
  have hm : v ∈ xs := h ▸ rd_mem hi
  unfold idx
  rw [if_pos hm]
  have e : xs = xs.take i ++ v :: xs.drop (i + 1) := by
    rw [← h, ← drop_rd hi, List.take_append_drop]
  have : xs.idxOf v = i := by
    rw [e, List.idxOf_append, if_neg hn, List.idxOf_cons_self, List.length_take]
    omega
  rw [this]
theorem ret_int {k : IntKind} {a b : Int} (h : a = b) : Ending.returned (.int k a) = .returned (.int k b) := by rw [h]
set_option maxHeartbeats 800000 in
theorem Index_calls (A : Option Addr) (c : Nat) (l : List Int) (x : Int) (w : World) (hr : Rd w A l) (hc : l.length ≤ c) (hn : l.length ≤ 35184372088832) :
    Calls Try.prog 90 #[.slice A l.length c, .int .i64 x] w fun e w' => e = .returned (.int .i64 (idx x l)) ∧ Drawn0 w w' := by
  have HR := Aside0.mk hr
  have HC := Aside0.mk hc
  clear hr hc
  go_enter Try.func90, Try.ntmps90
  (go_wp2; repeat (go_quiet (fail); try go_wp2))
  go_loopg [8] l.length (fun g v8 w' => ∃ i : Nat, v8 = .int .i64 i ∧ Aside0 (i + g = l.length) ∧ Aside0 (x ∉ l.take i) ∧ Drawn0 w w')
  case atStart => exact ⟨0, rfl, ⟨by omega⟩, ⟨by simp⟩, (by repeat (first | exact Drawn0.refl _ | apply Drawn0.step))⟩
  case round =>
    obtain ⟨i, rfl, HI, HA, ⟨m1, rfl⟩⟩ := hrel
    by_cases hlt : i < l.length
    · obtain ⟨ad, rfl, hx⟩ := at_nat HR.out hlt
      by_cases h1 : rd l (i : Int) = x
      · have HM := Aside0.mk (idx_at hlt h1 HA.out)
        have ht : (x == rd l (i : Int)) = true := beq_iff_eq.mpr h1.symm
        clear h1
        (go_wp2; repeat (go_quiet (fail); try go_wp2))
        go_ret
        exact ⟨ret_int HM.out.symm, (by repeat (first | exact Drawn0.refl _ | apply Drawn0.step))⟩
      · have hm : x ∉ l.take (i + 1) := by
          rw [take_rd hlt]
          simp only [List.mem_append, List.mem_singleton]
          exact fun h => h.elim HA.out (fun e => h1 e.symm)
        have HM := Aside0.mk hm
        clear hm
        have ht : (x == rd l (i : Int)) = false := beq_eq_false_iff_ne.mpr (fun e => h1 e.symm)
        clear h1
        (go_wp2; repeat (go_quiet (fail); try go_wp2))
        go_roundg (gk - 1)
        case measure => have := HI.out; omega
        case rel => exact ⟨i + 1, by go_num, ⟨by have := HI.out; omega⟩, HM, (by repeat (first | exact Drawn0.refl _ | apply Drawn0.step))⟩
    · (go_wp2; repeat (go_quiet (fail); try go_wp2))
      go_ret
      exact ⟨ret_int (idx_none (fun h => HA.out (by rwa [List.take_of_length_le (by omega)]))).symm, (by repeat (first | exact Drawn0.refl _ | apply Drawn0.step))⟩
theorem Contains_calls (A : Option Addr) (c : Nat) (l : List Int) (x : Int) (w : World) (hr : Rd w A l) (hc : l.length ≤ c) (hn : l.length ≤ 35184372088832) :
    Calls Try.prog 70 #[.slice A l.length c, .int .i64 x] w fun e w' => e = .returned (.bool (decide (x ∈ l))) ∧ Drawn0 w w' := by
  have HR := Aside0.mk hr
  have HC := Aside0.mk hc
  clear hr hc
  go_enter Try.func70, Try.ntmps70
  go_wp2_with (go_at_call 90; refine (Index_calls _ _ l _ _ HR.out HC.out hn).mono ?_; rintro e w' ⟨rfl, ⟨nd, rfl⟩⟩)
  go_ret
  exact ⟨ret_bool (decide_eq_decide.mpr idx_pos), (by repeat (first | exact Drawn0.refl _ | apply Drawn0.step))⟩
theorem Contains_take (A : Option Addr) (c : Nat) (l : List Int) (i : Nat) (x : Int) (w : World) (hr : Rd w A l) (hc : l.length ≤ c) (hi : i ≤ l.length) (hn : l.length ≤ 35184372088832) :
    Calls Try.prog 70 #[.slice A i c, .int .i64 x] w fun e w' => e = .returned (.bool (decide (x ∈ l.take i))) ∧ Drawn0 w w' := by
  have hl : (l.take i).length = i := by rw [List.length_take]; omega
  exact calls_of_args (by rw [hl]) (Contains_calls A c (l.take i) x w (Rd_take hr i hi) (by omega) (by omega))
set_option maxHeartbeats 1600000 in
theorem IsDots_calls (A : Option Addr) (c : Nat) (l : List Int) (w : World) (hr : Rd w A l) (hc : l.length ≤ c) (hn : l.length ≤ 1048576) :
    Calls Try.prog 43 #[.slice A l.length c] w fun e w' => e = .returned (.bool (tf (Dots l))) ∧ Drawn0 w w' := by
  have HR := Aside0.mk hr
  have HC := Aside0.mk hc
  clear hr hc
  go_enter Try.func43, Try.ntmps43
  (go_wp2; repeat (go_quiet (fail); try go_wp2))
  go_loopg [7] l.length (fun g v7 w' => ∃ i : Nat, v7 = .int .i64 i ∧ Aside0 (i + g = l.length) ∧ Aside0 (∀ j, j < i → DotAt l j) ∧ Drawn0 w w')
  case atStart => exact ⟨0, rfl, ⟨by omega⟩, ⟨fun j h => absurd h (by omega)⟩, (by repeat (first | exact Drawn0.refl _ | apply Drawn0.step))⟩
  case round =>
    obtain ⟨i, rfl, HI, HA, ⟨m1, rfl⟩⟩ := hrel
    by_cases hlt : i < l.length
    · obtain ⟨ad, rfl, hx⟩ := at_nat HR.out hlt
      have hcut := cut_nat (some ad) c l i (by omega) HC.out
      by_cases h1 : rd l (i : Int) < 0
      · have HBAD := Aside0.mk (show ¬ Dots l from fun h => by have := (h.2 i hlt).1; omega)
        (go_wp2; repeat (go_quiet (fail); try go_wp2))
        go_ret
        exact ⟨ret_bool (tf_neg HBAD.out).symm, (by repeat (first | exact Drawn0.refl _ | apply Drawn0.step))⟩
      · by_cases h2 : rd l (i : Int) < (l.length : Int)
        · by_cases h3 : rd l (i : Int) ∈ l.take i
          · have H3 := Aside0.mk (decide_eq_true h3)
            have HBAD := Aside0.mk (show ¬ Dots l from fun h => (h.2 i hlt).2.2 h3)
            clear h3
            go_wp2_with (go_at_call 70; refine (Contains_take _ _ l i _ _ (Kd.C_drewN HR.out _) HC.out (by omega) (by omega)).mono ?_; rw [H3.out]; rintro e w' ⟨rfl, ⟨nd2, rfl⟩⟩)
            go_ret
            exact ⟨ret_bool (tf_neg HBAD.out).symm, (by repeat (first | exact Drawn0.refl _ | apply Drawn0.step))⟩
          · have H3 := Aside0.mk (decide_eq_false h3)
            have HD := Aside0.mk (show DotAt l i from ⟨by omega, by omega, h3⟩)
            clear h3
            go_wp2_with (go_at_call 70; refine (Contains_take _ _ l i _ _ (Kd.C_drewN HR.out _) HC.out (by omega) (by omega)).mono ?_; rw [H3.out]; rintro e w' ⟨rfl, ⟨nd2, rfl⟩⟩)
            repeat (go_quiet (fail); try go_wp2)
            go_roundg (gk - 1)
            case measure => have := HI.out; omega
            case rel => exact ⟨i + 1, by go_num, ⟨by have := HI.out; omega⟩, ⟨fun j hj => by
              rcases Nat.lt_or_ge j i with h | h
              · exact HA.out j h
              · rw [show j = i by omega]; exact HD.out⟩, (by repeat (first | exact Drawn0.refl _ | apply Drawn0.step))⟩
        · have HBAD := Aside0.mk (show ¬ Dots l from fun h => by have := (h.2 i hlt).2.1; omega)
          (go_wp2; repeat (go_quiet (fail); try go_wp2))
          go_ret
          exact ⟨ret_bool (tf_neg HBAD.out).symm, (by repeat (first | exact Drawn0.refl _ | apply Drawn0.step))⟩
    · by_cases hl : 1 ≤ l.length
      · (go_wp2; repeat (go_quiet (fail); try go_wp2))
        go_ret
        exact ⟨ret_bool (by rw [← tf_dec]; exact tf_congr ⟨fun h => ⟨⟨hl, by omega⟩, fun j hj => HA.out j (by omega)⟩, fun h => by have := h.1; omega⟩), (by repeat (first | exact Drawn0.refl _ | apply Drawn0.step))⟩
      · (go_wp2; repeat (go_quiet (fail); try go_wp2))
        go_ret
        exact ⟨ret_bool (tf_neg (fun h => hl h.1.1)).symm, (by repeat (first | exact Drawn0.refl _ | apply Drawn0.step))⟩
end Go.Proofs.Ytpabfibmpannoaa.Own
