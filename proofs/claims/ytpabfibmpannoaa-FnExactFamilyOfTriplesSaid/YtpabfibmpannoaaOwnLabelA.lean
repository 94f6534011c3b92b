/- Trees and labels: what the reference's grTree and grLabels and the program's IsTree and areLabels return; lists of at most 1048576 numbers. -/
import Derived.Test.YtpabfibmpannoaaOwnGen
namespace Go.Proofs.Ytpabfibmpannoaa.Own.G
open Go.RowKit Go.Proofs.YtpabfibmpannoaaW.PrintWords Go.Proofs.YtpabfibmpannoaaW.PrintLast Go.Proofs.YtpabfibmpannoaaW.PrintMore
set_option linter.unusedVariables false
def Tree (l : List Int) : Prop := ((1 ≤ l.length ∧ l.length ≤ 9) ∧ rd l 0 = -1) ∧ ∀ j : Nat, 0 < j → j < l.length → 0 ≤ rd l (j : Int) ∧ rd l (j : Int) < (j : Int)
def LabelAt (n : Int) (l : List Int) (j : Nat) : Prop := 0 ≤ rd l (j : Int) ∧ rd l (j : Int) < n ∧ rd l (j : Int) ∉ l.take j
def Labels (n : Int) (l : List Int) : Prop := (l.length : Int) = n ∧ ∀ j : Nat, j < l.length → LabelAt n l j
def AllIn (a b : Int) (l : List Int) : Prop := ∀ j : Nat, j < l.length → a ≤ rd l (j : Int) ∧ rd l (j : Int) ≤ b
set_option maxHeartbeats 800000 in
theorem all_calls (A : Option Addr) (c : Nat) (l : List Int) (a b : Int) (w : World) (hr : Rd w A l) (hc : l.length ≤ c) (hn : l.length ≤ 1048576) :
    Calls Try.prog 58 #[.slice A l.length c, .int .i64 a, .int .i64 b] w fun e w' => e = .returned (.bool (tf (AllIn a b l))) ∧ Drawn0 w w' := by
  have HR := Aside0.mk hr
  have HC := Aside0.mk hc
  clear hr hc
  go_enter Try.func58, Try.ntmps58
  (go_wp2; repeat (go_quiet (fail); try go_wp2))
  go_loopg [11] l.length (fun g v11 w' => ∃ i : Nat, v11 = .int .i64 i ∧ Aside0 (i + g = l.length) ∧ Aside0 (∀ j : Nat, j < i → a ≤ rd l (j : Int) ∧ rd l (j : Int) ≤ b) ∧ Drawn0 w w')
  case atStart => exact ⟨0, rfl, ⟨by omega⟩, ⟨fun j h => absurd h (by omega)⟩, (by repeat (first | exact Drawn0.refl _ | apply Drawn0.step))⟩
  case round =>
    obtain ⟨i, rfl, HI, HA, ⟨m1, rfl⟩⟩ := hrel
    by_cases hlt : i < l.length
    · obtain ⟨ad, rfl, hx⟩ := at_nat HR.out hlt
      by_cases h1 : a ≤ rd l (i : Int) ∧ rd l (i : Int) ≤ b
      · have HT := Aside0.mk (within_yes h1)
        have HQ := Aside0.mk h1
        clear h1
        go_wp2_with (go_at_call 31; refine (in_calls _ _ _ _).mono ?_; rw [HT.out]; rintro e w' ⟨rfl, ⟨nd, rfl⟩⟩)
        go_roundg (gk - 1)
        case measure => have := HI.out; omega
        case rel => exact ⟨i + 1, by go_num, ⟨by have := HI.out; omega⟩, ⟨fun j hj => by
            rcases Nat.lt_or_ge j i with h | h
            · exact HA.out j h
            · rw [show j = i by omega]; exact HQ.out⟩, (by repeat (first | exact Drawn0.refl _ | apply Drawn0.step))⟩
      · have HT := Aside0.mk (within_no h1)
        have HBAD := Aside0.mk (show ¬ AllIn a b l from fun h => h1 (h i hlt))
        clear h1
        go_wp2_with (go_at_call 31; refine (in_calls _ _ _ _).mono ?_; rw [HT.out]; rintro e w' ⟨rfl, ⟨nd, rfl⟩⟩)
        go_ret
        exact ⟨ret_bool (tf_neg HBAD.out).symm, (by repeat (first | exact Drawn0.refl _ | apply Drawn0.step))⟩
    · (go_wp2; repeat (go_quiet (fail); try go_wp2))
      go_ret
      exact ⟨ret_bool (tf_pos (fun j hj => HA.out j (by omega))).symm, (by repeat (first | exact Drawn0.refl _ | apply Drawn0.step))⟩
theorem nodes_calls (a : Int) (w : World) : Calls Try.prog 97 #[.int .i64 a] w fun e w' => e = .returned (.bool (within 1 9 a)) ∧ Drawn0 w w' := by
  by_cases h : 1 ≤ a
  · by_cases h' : a ≤ 9
    · have H := Aside0.mk (within_yes ⟨h, h'⟩)
      go_enter Try.func97, Try.ntmps97
      (go_wp2; repeat (go_quiet (fail); try go_wp2))
      go_ret
      exact ⟨by rw [H.out]; simp, (by repeat (first | exact Drawn0.refl _ | apply Drawn0.step))⟩
    · have H := Aside0.mk (within_no (fun k => h' k.2 : ¬ (1 ≤ a ∧ a ≤ 9)))
      have h2 : 9 < a := by omega
      clear h'
      go_enter Try.func97, Try.ntmps97
      (go_wp2; repeat (go_quiet (fail); try go_wp2))
      go_ret
      exact ⟨by rw [H.out]; simp [h2], (by repeat (first | exact Drawn0.refl _ | apply Drawn0.step))⟩
  · have H := Aside0.mk (within_no (fun k => h k.1 : ¬ (1 ≤ a ∧ a ≤ 9)))
    go_enter Try.func97, Try.ntmps97
    (go_wp2; repeat (go_quiet (fail); try go_wp2))
    go_ret
    exact ⟨by rw [H.out]; rfl, (by repeat (first | exact Drawn0.refl _ | apply Drawn0.step))⟩
set_option maxHeartbeats 1600000 in
theorem grTree_calls (A : Option Addr) (c : Nat) (l : List Int) (w : World) (hr : Rd w A l) (hc : l.length ≤ c) (hn : l.length ≤ 1048576) :
    Calls Try.prog 60 #[.slice A l.length c] w fun e w' => e = .returned (.bool (tf (Tree l))) ∧ Drawn0 w w' := by
  have HR := Aside0.mk hr
  have HC := Aside0.mk hc
  clear hr hc
  by_cases hl : 1 ≤ l.length ∧ l.length ≤ 9
  · have HT := Aside0.mk (within_yes (show (1 : Int) ≤ (l.length : Int) ∧ (l.length : Int) ≤ 9 by omega))
    obtain ⟨ad, rfl, hx0⟩ := at_first HR.out hl.1
    have hlp : (0 : Int) < (l.length : Int) := by omega
    by_cases hz : rd l 0 = -1
    · go_enter Try.func60, Try.ntmps60
      go_wp2_with (go_at_call 31; refine (in_calls _ _ _ _).mono ?_; rw [HT.out]; rintro e w' ⟨rfl, ⟨nd, rfl⟩⟩)
      have HZ := Aside0.mk hz
      clear hz hx0
      go_loopg [3] (l.length - 1) (fun g v3 w' => ∃ i : Nat, v3 = .int .i64 (i : Int) ∧ Aside0 (1 ≤ i) ∧ Aside0 (i + g = l.length) ∧ Aside0 (∀ j : Nat, 0 < j → j < i → 0 ≤ rd l (j : Int) ∧ rd l (j : Int) < (j : Int)) ∧ Drawn0 w w')
      case atStart => exact ⟨1, rfl, ⟨by omega⟩, ⟨by omega⟩, ⟨fun j h0 h => absurd h (by omega)⟩, (by repeat (first | exact Drawn0.refl _ | apply Drawn0.step))⟩
      case round =>
        obtain ⟨i, rfl, HI1, HI, HA, ⟨m1, rfl⟩⟩ := hrel
        have hi1 := HI1.out
        by_cases hlt : i < l.length
        · obtain ⟨ad2, e2, hx⟩ := at_nat HR.out hlt
          obtain rfl : ad = ad2 := by injection e2
          clear e2
          by_cases hq : 0 ≤ rd l (i : Int) ∧ rd l (i : Int) ≤ (i : Int) - 1
          · have HT2 := Aside0.mk (within_yes hq)
            have HQ := Aside0.mk (show 0 ≤ rd l (i : Int) ∧ rd l (i : Int) < (i : Int) by omega)
            clear hq
            go_wp2_with (go_at_call 31; refine (in_calls _ _ _ _).mono ?_; rw [HT2.out]; rintro e w' ⟨rfl, ⟨nd, rfl⟩⟩)
            go_roundg (gk - 1)
            case measure => have := HI.out; omega
            case rel => exact ⟨i + 1, by go_num, ⟨by omega⟩, ⟨by have := HI.out; omega⟩, ⟨fun j h0 hj => by
              rcases Nat.lt_or_ge j i with h | h
              · exact HA.out j h0 h
              · rw [show j = i by omega]; exact HQ.out⟩, (by repeat (first | exact Drawn0.refl _ | apply Drawn0.step))⟩
          · have HT2 := Aside0.mk (within_no hq)
            have HBAD := Aside0.mk (show ¬ Tree l from fun h => hq (by have := h.2 i (by omega) hlt; omega))
            clear hq
            go_wp2_with (go_at_call 31; refine (in_calls _ _ _ _).mono ?_; rw [HT2.out]; rintro e w' ⟨rfl, ⟨nd, rfl⟩⟩)
            go_ret
            exact ⟨ret_bool (tf_neg HBAD.out).symm, (by repeat (first | exact Drawn0.refl _ | apply Drawn0.step))⟩
        · have HE := Aside0.mk (show Tree l from ⟨⟨hl, HZ.out⟩, fun j h0 hj => HA.out j h0 (by omega)⟩)
          (go_wp2; repeat (go_quiet (fail); try go_wp2))
          go_ret
          exact ⟨ret_bool (tf_pos HE.out).symm, (by repeat (first | exact Drawn0.refl _ | apply Drawn0.step))⟩
    · have HBAD := Aside0.mk (show ¬ Tree l from fun h => hz h.1.2)
      go_enter Try.func60, Try.ntmps60
      go_wp2_with (go_at_call 31; refine (in_calls _ _ _ _).mono ?_; rw [HT.out]; rintro e w' ⟨rfl, ⟨nd, rfl⟩⟩)
      go_ret
      exact ⟨ret_bool (tf_neg HBAD.out).symm, (by repeat (first | exact Drawn0.refl _ | apply Drawn0.step))⟩
  · have HT := Aside0.mk (within_no (show ¬ ((1 : Int) ≤ (l.length : Int) ∧ (l.length : Int) ≤ 9) by omega))
    have HBAD := Aside0.mk (show ¬ Tree l from fun h => hl h.1.1)
    clear hl
    go_enter Try.func60, Try.ntmps60
    go_wp2_with (go_at_call 31; refine (in_calls _ _ _ _).mono ?_; rw [HT.out]; rintro e w' ⟨rfl, ⟨nd, rfl⟩⟩)
    go_ret
    exact ⟨ret_bool (tf_neg HBAD.out).symm, (by repeat (first | exact Drawn0.refl _ | apply Drawn0.step))⟩
set_option maxHeartbeats 1600000 in
theorem IsTree_calls (A : Option Addr) (c : Nat) (l : List Int) (w : World) (hr : Rd w A l) (hc : l.length ≤ c) (hn : l.length ≤ 1048576) :
    Calls Try.prog 87 #[.slice A l.length c] w fun e w' => e = .returned (.bool (tf (Tree l))) ∧ Drawn0 w w' := by
  have HR := Aside0.mk hr
  have HC := Aside0.mk hc
  clear hr hc
  by_cases hl : 1 ≤ l.length ∧ l.length ≤ 9
  · have HT := Aside0.mk (within_yes (show (1 : Int) ≤ (l.length : Int) ∧ (l.length : Int) ≤ 9 by omega))
    obtain ⟨ad, rfl, hx0⟩ := at_first HR.out hl.1
    have hlp : (0 : Int) < (l.length : Int) := by omega
    by_cases hz : rd l 0 = -1
    · go_enter Try.func87, Try.ntmps87
      go_wp2_with (go_at_call 97; refine (nodes_calls _ _).mono ?_; rw [HT.out]; rintro e w' ⟨rfl, ⟨nd, rfl⟩⟩)
      have HZ := Aside0.mk hz
      clear hz hx0
      go_loopg [3] (l.length - 1) (fun g v3 w' => ∃ i : Nat, v3 = .int .i64 (i : Int) ∧ Aside0 (1 ≤ i) ∧ Aside0 (i + g = l.length) ∧ Aside0 (∀ j : Nat, 0 < j → j < i → 0 ≤ rd l (j : Int) ∧ rd l (j : Int) < (j : Int)) ∧ Drawn0 w w')
      case atStart => exact ⟨1, rfl, ⟨by omega⟩, ⟨by omega⟩, ⟨fun j h0 h => absurd h (by omega)⟩, (by repeat (first | exact Drawn0.refl _ | apply Drawn0.step))⟩
      case round =>
        obtain ⟨i, rfl, HI1, HI, HA, ⟨m1, rfl⟩⟩ := hrel
        have hi1 := HI1.out
        by_cases hlt : i < l.length
        · obtain ⟨ad2, e2, hx⟩ := at_nat HR.out hlt
          obtain rfl : ad = ad2 := by injection e2
          clear e2
          by_cases hq : 0 ≤ rd l (i : Int)
          · by_cases hq2 : rd l (i : Int) < (i : Int)
            · have HQ := Aside0.mk (show 0 ≤ rd l (i : Int) ∧ rd l (i : Int) < (i : Int) by omega)
              (go_wp2; repeat (go_quiet (fail); try go_wp2))
              go_roundg (gk - 1)
              case measure => have := HI.out; omega
              case rel => exact ⟨i + 1, by go_num, ⟨by omega⟩, ⟨by have := HI.out; omega⟩, ⟨fun j h0 hj => by
                rcases Nat.lt_or_ge j i with h | h
                · exact HA.out j h0 h
                · rw [show j = i by omega]; exact HQ.out⟩, (by repeat (first | exact Drawn0.refl _ | apply Drawn0.step))⟩
            · have HBAD := Aside0.mk (show ¬ Tree l from fun h => hq2 (by have := h.2 i (by omega) hlt; omega))
              (go_wp2; repeat (go_quiet (fail); try go_wp2))
              go_ret
              exact ⟨ret_bool (tf_neg HBAD.out).symm, (by repeat (first | exact Drawn0.refl _ | apply Drawn0.step))⟩
          · have HBAD := Aside0.mk (show ¬ Tree l from fun h => hq (by have := h.2 i (by omega) hlt; omega))
            (go_wp2; repeat (go_quiet (fail); try go_wp2))
            go_ret
            exact ⟨ret_bool (tf_neg HBAD.out).symm, (by repeat (first | exact Drawn0.refl _ | apply Drawn0.step))⟩
        · have HE := Aside0.mk (show Tree l from ⟨⟨hl, HZ.out⟩, fun j h0 hj => HA.out j h0 (by omega)⟩)
          (go_wp2; repeat (go_quiet (fail); try go_wp2))
          go_ret
          exact ⟨ret_bool (tf_pos HE.out).symm, (by repeat (first | exact Drawn0.refl _ | apply Drawn0.step))⟩
    · have HBAD := Aside0.mk (show ¬ Tree l from fun h => hz h.1.2)
      go_enter Try.func87, Try.ntmps87
      go_wp2_with (go_at_call 97; refine (nodes_calls _ _).mono ?_; rw [HT.out]; rintro e w' ⟨rfl, ⟨nd, rfl⟩⟩)
      go_ret
      exact ⟨ret_bool (tf_neg HBAD.out).symm, (by repeat (first | exact Drawn0.refl _ | apply Drawn0.step))⟩
  · have HT := Aside0.mk (within_no (show ¬ ((1 : Int) ≤ (l.length : Int) ∧ (l.length : Int) ≤ 9) by omega))
    have HBAD := Aside0.mk (show ¬ Tree l from fun h => hl h.1.1)
    clear hl
    go_enter Try.func87, Try.ntmps87
    go_wp2_with (go_at_call 97; refine (nodes_calls _ _).mono ?_; rw [HT.out]; rintro e w' ⟨rfl, ⟨nd, rfl⟩⟩)
    go_ret
    exact ⟨ret_bool (tf_neg HBAD.out).symm, (by repeat (first | exact Drawn0.refl _ | apply Drawn0.step))⟩
set_option maxHeartbeats 1600000 in
theorem grLabels_calls (n : Nat) (A : Option Addr) (c : Nat) (l : List Int) (w : World) (hr : Rd w A l) (hc : l.length ≤ c) (hn : l.length ≤ 1048576) (hn2 : n ≤ 1048576) :
    Calls Try.prog 61 #[.int .i64 (n : Int), .slice A l.length c] w fun e w' => e = .returned (.bool (tf (Labels (n : Int) l))) ∧ Drawn0 w w' := by
  have HR := Aside0.mk hr
  have HC := Aside0.mk hc
  clear hr hc
  by_cases hl : (l.length : Int) = (n : Int)
  · obtain rfl : n = l.length := by omega
    clear hl
    by_cases ha : AllIn 0 ((l.length : Int) - 1) l
    · have H1 := Aside0.mk (tf_pos ha)
      have HA1 := Aside0.mk ha
      clear ha
      go_enter Try.func61, Try.ntmps61
      go_wp2_with (go_at_call 58; refine (all_calls _ _ l _ _ _ (by first | exact HR.out | exact Kd.C_drewN HR.out _) HC.out hn).mono ?_; rw [H1.out]; rintro e w' ⟨rfl, ⟨nd, rfl⟩⟩)
      go_loopg [20] l.length (fun g v20 w' => ∃ i : Nat, v20 = .int .i64 i ∧ Aside0 (i + g = l.length) ∧ Aside0 (∀ j : Nat, j < i → LabelAt (l.length : Int) l j) ∧ Drawn0 w w')
      case atStart => exact ⟨0, rfl, ⟨by omega⟩, ⟨fun j h => absurd h (by omega)⟩, (by repeat (first | exact Drawn0.refl _ | apply Drawn0.step))⟩
      case round =>
        obtain ⟨i, rfl, HI, HA, ⟨m1, rfl⟩⟩ := hrel
        by_cases hlt : i < l.length
        · obtain ⟨ad, rfl, hx⟩ := at_nat HR.out hlt
          have hcut := cut_nat (some ad) c l i (by omega) HC.out
          by_cases h2 : rd l (i : Int) ∈ l.take i
          · have H2 := Aside0.mk (decide_eq_true h2)
            have HBAD := Aside0.mk (show ¬ Labels (l.length : Int) l from fun h => (h.2 i hlt).2.2 h2)
            clear h2
            go_wp2_with (go_at_call 63; refine (has_take _ _ l i _ _ (Kd.C_drewN HR.out _) HC.out (by omega) (by omega)).mono ?_; rw [H2.out]; rintro e w' ⟨rfl, ⟨nd2, rfl⟩⟩)
            go_ret
            exact ⟨ret_bool (tf_neg HBAD.out).symm, (by repeat (first | exact Drawn0.refl _ | apply Drawn0.step))⟩
          · have H2 := Aside0.mk (decide_eq_false h2)
            have HD := Aside0.mk (show LabelAt (l.length : Int) l i from ⟨(HA1.out i hlt).1, by have := (HA1.out i hlt).2; omega, h2⟩)
            clear h2
            go_wp2_with (go_at_call 63; refine (has_take _ _ l i _ _ (Kd.C_drewN HR.out _) HC.out (by omega) (by omega)).mono ?_; rw [H2.out]; rintro e w' ⟨rfl, ⟨nd2, rfl⟩⟩)
            go_roundg (gk - 1)
            case measure => have := HI.out; omega
            case rel => exact ⟨i + 1, by go_num, ⟨by have := HI.out; omega⟩, ⟨fun j hj => by
              rcases Nat.lt_or_ge j i with h | h
              · exact HA.out j h
              · rw [show j = i by omega]; exact HD.out⟩, (by repeat (first | exact Drawn0.refl _ | apply Drawn0.step))⟩
        · have HE := Aside0.mk (show Labels (l.length : Int) l from ⟨rfl, fun j hj => HA.out j (by omega)⟩)
          (go_wp2; repeat (go_quiet (fail); try go_wp2))
          go_ret
          exact ⟨ret_bool (tf_pos HE.out).symm, (by repeat (first | exact Drawn0.refl _ | apply Drawn0.step))⟩
    · have H1 := Aside0.mk (tf_neg ha)
      have HBAD := Aside0.mk (show ¬ Labels (l.length : Int) l from fun h => ha fun j hj => by have := (h.2 j hj).1; have := (h.2 j hj).2.1; omega)
      clear ha
      go_enter Try.func61, Try.ntmps61
      go_wp2_with (go_at_call 58; refine (all_calls _ _ l _ _ _ (by first | exact HR.out | exact Kd.C_drewN HR.out _) HC.out hn).mono ?_; rw [H1.out]; rintro e w' ⟨rfl, ⟨nd, rfl⟩⟩)
      go_ret
      exact ⟨ret_bool (tf_neg HBAD.out).symm, (by repeat (first | exact Drawn0.refl _ | apply Drawn0.step))⟩
  · have HBAD := Aside0.mk (show ¬ Labels (n : Int) l from fun h => hl h.1)
    go_enter Try.func61, Try.ntmps61
    (go_wp2; repeat (go_quiet (fail); try go_wp2))
    go_ret
    exact ⟨ret_bool (tf_neg HBAD.out).symm, (by repeat (first | exact Drawn0.refl _ | apply Drawn0.step))⟩
set_option maxHeartbeats 1600000 in
theorem areLabels_calls (n : Nat) (A : Option Addr) (c : Nat) (l : List Int) (w : World) (hr : Rd w A l) (hc : l.length ≤ c) (hn : l.length ≤ 1048576) (hn2 : n ≤ 1048576) :
    Calls Try.prog 88 #[.int .i64 (n : Int), .slice A l.length c] w fun e w' => e = .returned (.bool (tf (Labels (n : Int) l))) ∧ Drawn0 w w' := by
  have HR := Aside0.mk hr
  have HC := Aside0.mk hc
  clear hr hc
  go_enter Try.func88, Try.ntmps88
  (go_wp2; repeat (go_quiet (fail); try go_wp2))
  go_loopg [9] l.length (fun g v9 w' => ∃ i : Nat, v9 = .int .i64 i ∧ Aside0 (i + g = l.length) ∧ Aside0 (∀ j : Nat, j < i → LabelAt (n : Int) l j) ∧ Drawn0 w w')
  case atStart => exact ⟨0, rfl, ⟨by omega⟩, ⟨fun j h => absurd h (by omega)⟩, (by repeat (first | exact Drawn0.refl _ | apply Drawn0.step))⟩
  case round =>
    obtain ⟨i, rfl, HI, HA, ⟨m1, rfl⟩⟩ := hrel
    by_cases hlt : i < l.length
    · obtain ⟨ad, rfl, hx⟩ := at_nat HR.out hlt
      have hcut := cut_nat (some ad) c l i (by omega) HC.out
      by_cases h1 : rd l (i : Int) < 0
      · have HBAD := Aside0.mk (show ¬ Labels (n : Int) l from fun h => by have := (h.2 i hlt).1; omega)
        (go_wp2; repeat (go_quiet (fail); try go_wp2))
        go_ret
        exact ⟨ret_bool (tf_neg HBAD.out).symm, (by repeat (first | exact Drawn0.refl _ | apply Drawn0.step))⟩
      · by_cases h2 : rd l (i : Int) < (n : Int)
        · by_cases h3 : rd l (i : Int) ∈ l.take i
          · have H3 := Aside0.mk (decide_eq_true h3)
            have HBAD := Aside0.mk (show ¬ Labels (n : Int) l from fun h => (h.2 i hlt).2.2 h3)
            clear h3
            go_wp2_with (go_at_call 70; refine (Contains_take _ _ l i _ _ (Kd.C_drewN HR.out _) HC.out (by omega) (by omega)).mono ?_; rw [H3.out]; rintro e w' ⟨rfl, ⟨nd2, rfl⟩⟩)
            go_ret
            exact ⟨ret_bool (tf_neg HBAD.out).symm, (by repeat (first | exact Drawn0.refl _ | apply Drawn0.step))⟩
          · have H3 := Aside0.mk (decide_eq_false h3)
            have HD := Aside0.mk (show LabelAt (n : Int) l i from ⟨by omega, by omega, h3⟩)
            clear h3
            go_wp2_with (go_at_call 70; refine (Contains_take _ _ l i _ _ (Kd.C_drewN HR.out _) HC.out (by omega) (by omega)).mono ?_; rw [H3.out]; rintro e w' ⟨rfl, ⟨nd2, rfl⟩⟩)
            repeat (go_quiet (fail); try go_wp2)
            go_roundg (gk - 1)
            case measure => have := HI.out; omega
            case rel => exact ⟨i + 1, by go_num, ⟨by have := HI.out; omega⟩, ⟨fun j hj => by
              rcases Nat.lt_or_ge j i with h | h
              · exact HA.out j h
              · rw [show j = i by omega]; exact HD.out⟩, (by repeat (first | exact Drawn0.refl _ | apply Drawn0.step))⟩
        · have HBAD := Aside0.mk (show ¬ Labels (n : Int) l from fun h => by have := (h.2 i hlt).2.1; omega)
          (go_wp2; repeat (go_quiet (fail); try go_wp2))
          go_ret
          exact ⟨ret_bool (tf_neg HBAD.out).symm, (by repeat (first | exact Drawn0.refl _ | apply Drawn0.step))⟩
    · have HE := Aside0.mk (show ((l.length : Int) == (n : Int)) = tf (Labels (n : Int) l) by
        by_cases h : (l.length : Int) = (n : Int)
        · rw [beq_iff_eq.mpr h, tf_pos (show Labels (n : Int) l from ⟨h, fun j hj => HA.out j (by omega)⟩)]
        · rw [beq_eq_false_iff_ne.mpr h, tf_neg (fun k : Labels (n : Int) l => h k.1)])
      (go_wp2; repeat (go_quiet (fail); try go_wp2))
      go_ret
      exact ⟨ret_bool HE.out, (by repeat (first | exact Drawn0.refl _ | apply Drawn0.step))⟩
end Go.Proofs.Ytpabfibmpannoaa.Own.G
