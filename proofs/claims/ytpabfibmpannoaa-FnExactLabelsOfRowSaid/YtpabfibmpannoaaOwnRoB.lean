/- Skolem rows: what the reference's functions compute up to LabelsOfRow, and the program's IsRow, holes and isFrom (over the printed functions); lists of at most 1048576 numbers. -/
import Derived.Test.YtpabfibmpannoaaOwnRoA
import Derived.Test.YtpabfibmpannoaaPFnExactLabelsOfRowx4
namespace Go.Proofs.Ytpabfibmpannoaa.Own.G
open Go.RowKit Go.Proofs.YtpabfibmpannoaaW.PrintWords Go.Proofs.YtpabfibmpannoaaW.PrintLast Go.Proofs.YtpabfibmpannoaaW.PrintMore Go.Proofs.Ytpabfibmpannoaa.PFnExactLabelsOfRow
set_option linter.unusedVariables false
theorem l1In_eq (a b c : Int) : spec_l1In.f a b c = some (decide (b ≤ a ∧ a ≤ c)) := by
  unfold spec_l1In.f
  by_cases h : b ≤ a
  · rw [if_pos h]; simp [h]
  · rw [if_neg h]; simp [h]

theorem l1All_ev (xs : List Int) (a b : Int) (hn : xs.length ≤ 35184372088832) : Ev (fun k => spec_l1All.f k xs a b) (tf (∀ j, 0 ≤ j → j < xs.length → a ≤ rd xs (j : Int) ∧ rd xs (j : Int) ≤ b)) := by
  unfold spec_l1All.f
  refine all_loop (L := fun k i => spec_l1All.l0 k a b xs (xs.length : Int) (i : Int)) ?_ ?_ ?_ xs.length 0 (by omega)
  · refine Ev.step (fun k => by rw [spec_l1All.l0]) ?_
    exact Ev.no (by omega) (Ev.now _)
  · intro i hi hp r hr
    refine Ev.step (fun k => by rw [spec_l1All.l0]) ?_
    refine Ev.yes (by omega) (Ev.yes (by omega) (Ev.yes (by omega) ?_))
    simp only [l1In_eq, Option.bind_some]
    rw [wrS hi (by omega)]
    exact Ev.yes (decide_eq_true hp) hr
  · intro i hi hp
    refine Ev.step (fun k => by rw [spec_l1All.l0]) ?_
    refine Ev.yes (by omega) (Ev.yes (by omega) (Ev.yes (by omega) ?_))
    simp only [l1In_eq, Option.bind_some]
    exact Ev.no (by simpa using hp) (Ev.now _)

theorem roGood_ev (l : List Int) (hn : l.length ≤ 1048576) : Ev (fun k => spec_roGood.f k l) (tf (Good l)) := by
  unfold spec_roGood.f
  by_cases hl : l.length ≤ 40
  · refine Ev.yes (by omega) (Ev.bind (l1All_ev l 0 20 (by omega)) (Ev.now' ?_))
    exact tf_congr ⟨fun h => ⟨hl, h⟩, fun h => h.2⟩
  · refine Ev.no (by omega) (Ev.now' ?_)
    rw [tf_neg (fun h : Good l => hl h.1)]
theorem roPlaces_ev (l : List Int) (x : Int) (hn : l.length ≤ 1048576) : Ev (fun k => spec_roPlaces.f k l x) (plc l x) := by
  unfold spec_roPlaces.f
  refine det_loop (L := fun k i (s : List Int) => spec_roPlaces.l0 k x s l (l.length : Int) (i : Int)) (n := l.length) (fun i => plU l x i) (fun i hi r hr => ?_) ?_ l.length 0 (by omega)
  · have := plU_len l x i
    refine Ev.step (fun k => by rw [spec_roPlaces.l0]) ?_
    rw [wrS hi (by omega)]
    refine Ev.yes (by omega) (Ev.yes (by omega) (Ev.yes (by omega) ?_))
    by_cases h : rd l (i : Int) = x
    · rw [plU, if_pos h] at hr
      exact Ev.yes h (Ev.yes (by omega) hr)
    · rw [plU, if_neg h] at hr
      exact Ev.no h hr
  · refine Ev.step (fun k => by rw [spec_roPlaces.l0]) ?_
    exact Ev.no (by omega) (Ev.now _)
theorem holes_ev (l : List Int) (hn : l.length ≤ 1048576) : Ev (fun k => impl_holes.f k l) (plc l 0) := by
  unfold impl_holes.f
  refine det_loop (L := fun k i (s : List Int) => impl_holes.l0 k s l (l.length : Int) (i : Int)) (n := l.length) (fun i => plU l 0 i) (fun i hi r hr => ?_) ?_ l.length 0 (by omega)
  · have := plU_len l 0 i
    refine Ev.step (fun k => by rw [impl_holes.l0]) ?_
    rw [wrS hi (by omega)]
    refine Ev.yes (by omega) (Ev.yes (by omega) (Ev.yes (by omega) ?_))
    by_cases h : rd l (i : Int) = 0
    · rw [plU, if_pos h] at hr
      exact Ev.yes h (Ev.yes (by omega) hr)
    · rw [plU, if_neg h] at hr
      exact Ev.no h hr
  · refine Ev.step (fun k => by rw [impl_holes.l0]) ?_
    exact Ev.no (by omega) (Ev.now _)
theorem roPairs_ev (l : List Int) (hn : l.length ≤ 1048576) : Ev (fun k => spec_roPairs.f k l) (tf (Paired l)) := by
  unfold spec_roPairs.f
  have := all_from (L := fun k i => spec_roPairs.l0 k l (i : Int)) (n := 21) (P := fun n => (plc l (n : Int)).length = 0 ∨ (plc l (n : Int)).length = 2) (b := true) 1 ?_ (fun i h0 hi hp r hr => ?_) (fun i h0 hi hp => ?_) (by omega)
  · rw [Bool.and_true, tf_congr (Q := Paired l) ⟨fun h n h1 h2 => h n h1 (by omega), fun h n h1 h2 => h n h1 (by omega)⟩] at this
    exact this
  · refine Ev.step (fun k => by rw [spec_roPairs.l0]) ?_
    exact Ev.no (by omega) (Ev.now _)
  · refine Ev.step (fun k => by rw [spec_roPairs.l0]) ?_
    refine Ev.yes (by omega) (Ev.bind (roPlaces_ev l _ hn) ?_)
    rw [wrS hi (by omega)]
    rcases hp with h | h
    · exact Ev.yes (by omega) hr
    · exact Ev.no (by omega) (Ev.yes (by omega) hr)
  · refine Ev.step (fun k => by rw [spec_roPairs.l0]) ?_
    refine Ev.yes (by omega) (Ev.bind (roPlaces_ev l _ hn) ?_)
    exact Ev.no (fun h => hp (.inl (by omega))) (Ev.no (fun h => hp (.inr (by omega))) (Ev.now _))
theorem roIs_ev (l : List Int) (hn : l.length ≤ 1048576) : Ev (fun k => spec_roIs.f k l) (tf (Good l ∧ Paired l)) := by
  unfold spec_roIs.f
  refine Ev.bind (roGood_ev l hn) ?_
  by_cases h : Good l
  · rw [tf_pos h]
    refine Ev.yes rfl (Ev.bind (roPairs_ev l hn) (Ev.now' ?_))
    exact tf_congr ⟨fun h2 => ⟨h, h2⟩, fun h2 => h2.2⟩
  · rw [tf_neg h, tf_neg (fun h2 : Good l ∧ Paired l => h h2.1)]
    exact Ev.no (by simp) (Ev.now _)
theorem l1Has_ev (l : List Int) (x : Int) (hn : l.length ≤ 1048576) : Ev (fun k => spec_l1Has.f k l x) (tf (x ∈ l)) := by
  unfold spec_l1Has.f
  rcases ret_loop (L := fun k i (_ : Unit) => spec_l1Has.l0 k x l (l.length : Int) (i : Int)) (n := l.length) (fun i _ => ∀ j : Nat, j < i → rd l (j : Int) ≠ x) (fun r => r = true ∧ x ∈ l) (fun i s hi hx => by
    by_cases hb : rd l (i : Int) = x
    · left
      refine ⟨true, ?_, rfl, by rw [← hb]; exact rd_mem hi⟩
      refine Ev.step (fun k => by rw [spec_l1Has.l0]) ?_
      exact Ev.yes (by omega) (Ev.yes (by omega) (Ev.yes (by omega) (Ev.yes hb (Ev.now _))))
    · right
      refine ⟨(), fun j hj => ?_, fun r hr => ?_⟩
      · rcases Nat.lt_or_ge j i with h | h
        · exact hx j h
        · rw [show j = i by omega]; exact hb
      · refine Ev.step (fun k => by rw [spec_l1Has.l0]) ?_
        rw [wrS hi (by omega)]
        exact Ev.yes (by omega) (Ev.yes (by omega) (Ev.yes (by omega) (Ev.no hb hr)))) l.length 0 () (by omega) (fun j hj => absurd hj (by omega)) with ⟨r, hr, rfl, hb⟩ | ⟨s, hx, hk⟩
  · rw [tf_pos hb]; exact hr
  · refine hk _ ?_
    refine Ev.step (fun k => by rw [spec_l1Has.l0]) ?_
    refine Ev.no (by omega) (Ev.now' ?_)
    rw [tf_neg (fun h => by obtain ⟨j, hj, e⟩ := mem_rd h; exact hx j hj e)]
theorem Index_ev (l : List Int) (x : Int) (hn : l.length ≤ 1048576) : ∃ i : Int, Ev (fun k => slices_Index_int_int.f k l x) i ∧ (0 ≤ i ↔ x ∈ l) := by
  unfold slices_Index_int_int.f
  rcases ret_loop (L := fun k i (_ : Unit) => slices_Index_int_int.l0 k l x (l.length : Int) (i : Int)) (n := l.length) (fun i _ => ∀ j : Nat, j < i → rd l (j : Int) ≠ x) (fun r => 0 ≤ r ∧ x ∈ l) (fun i s hi hx => by
    by_cases hb : rd l (i : Int) = x
    · left
      refine ⟨(i : Int), ?_, by omega, by rw [← hb]; exact rd_mem hi⟩
      refine Ev.step (fun k => by rw [slices_Index_int_int.l0]) ?_
      exact Ev.yes (by omega) (Ev.yes (by omega) (Ev.yes (by omega) (Ev.yes hb.symm (Ev.now _))))
    · right
      refine ⟨(), fun j hj => ?_, fun r hr => ?_⟩
      · rcases Nat.lt_or_ge j i with h | h
        · exact hx j h
        · rw [show j = i by omega]; exact hb
      · refine Ev.step (fun k => by rw [slices_Index_int_int.l0]) ?_
        rw [wrS hi (by omega)]
        exact Ev.yes (by omega) (Ev.yes (by omega) (Ev.yes (by omega) (Ev.no (fun h => hb h.symm) hr)))) l.length 0 () (by omega) (fun j hj => absurd hj (by omega)) with ⟨r, hr, h0, hb⟩ | ⟨s, hx, hk⟩
  · exact ⟨r, hr, fun _ => hb, fun _ => h0⟩
  · refine ⟨-1, hk _ ?_, fun h => absurd h (by omega), fun h => by obtain ⟨j, hj, e⟩ := mem_rd h; exact absurd e (hx j hj)⟩
    refine Ev.step (fun k => by rw [slices_Index_int_int.l0]) ?_
    exact Ev.no (by omega) (Ev.now _)
theorem Contains_ev (l : List Int) (x : Int) (hn : l.length ≤ 1048576) : Ev (fun k => slices_Contains_int_int.f k l x) (tf (x ∈ l)) := by
  unfold slices_Contains_int_int.f
  obtain ⟨i, hi, h⟩ := Index_ev l x hn
  refine Ev.bind hi (Ev.now' ?_)
  rw [← tf_dec]
  exact tf_congr h
theorem roNumbers_ev (l : List Int) (hn : l.length ≤ 1048576) : Ev (fun k => spec_roNumbers.f k l) (nums l) := by
  unfold spec_roNumbers.f
  refine det_loop (L := fun k i (s : List Int) => spec_roNumbers.l0 k l s ((i + 1 : Nat) : Int)) (n := 20) (fun i => numsU l i) (fun i hi r hr => ?_) ?_ 20 0 (by omega)
  · have := numsU_len l i
    refine Ev.step (fun k => by rw [spec_roNumbers.l0]) ?_
    rw [wrS (show i + 1 < 21 by omega) (by omega)]
    refine Ev.yes (by omega) (Ev.bind (l1Has_ev l _ hn) ?_)
    by_cases h : ((i + 1 : Nat) : Int) ∈ l
    · rw [numsU_yes h] at hr
      exact Ev.yes (tf_pos h) (Ev.yes (by omega) hr)
    · rw [numsU_no h] at hr
      exact Ev.no (by rw [tf_neg h]; decide) hr
  · refine Ev.step (fun k => by rw [spec_roNumbers.l0]) ?_
    exact Ev.no (by omega) (Ev.now _)
theorem numbers_ev (l : List Int) (hn : l.length ≤ 1048576) : Ev (fun k => impl_numbers.f k l) (nums l) := by
  unfold impl_numbers.f
  refine det_loop (L := fun k i (s : List Int) => impl_numbers.l0 k l s ((i + 1 : Nat) : Int)) (n := 20) (fun i => numsU l i) (fun i hi r hr => ?_) ?_ 20 0 (by omega)
  · have := numsU_len l i
    refine Ev.step (fun k => by rw [impl_numbers.l0]) ?_
    rw [wrS (show i + 1 < 21 by omega) (by omega)]
    refine Ev.yes (by omega) (Ev.bind (Contains_ev l _ hn) ?_)
    by_cases h : ((i + 1 : Nat) : Int) ∈ l
    · rw [numsU_yes h] at hr
      exact Ev.yes (tf_pos h) (Ev.yes (by omega) hr)
    · rw [numsU_no h] at hr
      exact Ev.no (by rw [tf_neg h]; decide) hr
  · refine Ev.step (fun k => by rw [impl_numbers.l0]) ?_
    exact Ev.no (by omega) (Ev.now _)
theorem nums_at {l : List Int} {i : Nat} (hi : i < (nums l).length) : 1 ≤ rd (nums l) (i : Int) ∧ rd (nums l) (i : Int) ≤ 20 ∧ rd (nums l) (i : Int) ∈ l := (numsU_mem l 20 _).mp (rd_mem hi)
theorem roFits_ev (l : List Int) (hn : l.length ≤ 1048576) (hp : Paired l) : Ev (fun k => spec_roFits.f k l 0) (tf (FitsL l)) := by
  unfold spec_roFits.f
  refine Ev.bind (roNumbers_ev l hn) ?_
  have h20 : (nums l).length ≤ 20 := numsU_len l 20
  have two : ∀ i, i < (nums l).length → (plc l (rd (nums l) (i : Int))).length = 2 := fun i hi => by
    obtain ⟨a, b, c⟩ := nums_at hi
    have h0 := hp (rd (nums l) (i : Int)).toNat (by omega) (by omega)
    rw [show (((rd (nums l) (i : Int)).toNat : Nat) : Int) = rd (nums l) (i : Int) by omega] at h0
    rcases h0 with h0 | h0
    · exact absurd (List.eq_nil_of_length_eq_zero h0) (plc_mem.mpr c)
    · exact h0
  have pb : ∀ x : Int, (plc l x).length = 2 → (0 ≤ rd (plc l x) 1 ∧ rd (plc l x) 1 < 1048577) ∧ (0 ≤ rd (plc l x) 0 ∧ rd (plc l x) 0 < 1048577) := fun x hx => by
    have h1 := plU_in l x l.length (rd (plc l x) ((1 : Nat) : Int)) (rd_mem (show _ < (plc l x).length by rw [hx]; omega))
    have h0 := plU_in l x l.length (rd (plc l x) ((0 : Nat) : Int)) (rd_mem (show _ < (plc l x).length by rw [hx]; omega))
    have e1 : ((1 : Nat) : Int) = 1 := rfl
    have e0 : ((0 : Nat) : Int) = 0 := rfl
    rw [e1] at h1
    rw [e0] at h0
    omega
  have := all_loop (L := fun k i => spec_roFits.l0 k l 0 (nums l) ((nums l).length : Int) (i : Int)) (n := (nums l).length) (P := fun i => rd (plc l (rd (nums l) (i : Int))) 1 - rd (plc l (rd (nums l) (i : Int))) 0 = rd (nums l) (i : Int)) ?_ (fun i hi hq r hr => ?_) (fun i hi hq => ?_) (nums l).length 0 (by omega)
  · have hiff : (∀ j, 0 ≤ j → j < (nums l).length → rd (plc l (rd (nums l) (j : Int))) 1 - rd (plc l (rd (nums l) (j : Int))) 0 = rd (nums l) (j : Int)) ↔ FitsL l := by
      constructor
      · intro h n h1 h2 h3
        have hm : (n : Int) ∈ nums l := (numsU_mem l 20 (n : Int)).mpr ⟨by omega, by omega, plc_mem.mp (fun e => by rw [e] at h3; cases h3)⟩
        obtain ⟨j, hj, e⟩ := mem_rd hm
        have := h j (by omega) hj
        rw [e] at this
        exact this
      · intro h j _ hj
        obtain ⟨a, b, c⟩ := nums_at hj
        have := h (rd (nums l) (j : Int)).toNat (by omega) (by omega) (by rw [show (((rd (nums l) (j : Int)).toNat : Nat) : Int) = rd (nums l) (j : Int) by omega]; exact two j hj)
        rw [show (((rd (nums l) (j : Int)).toNat : Nat) : Int) = rd (nums l) (j : Int) by omega] at this
        exact this
    rw [tf_congr hiff] at this
    exact this
  · refine Ev.step (fun k => by rw [spec_roFits.l0]) ?_
    exact Ev.no (by omega) (Ev.now _)
  · have h2 := two i hi
    have hb := pb _ h2
    have ha := nums_at hi
    refine Ev.step (fun k => by rw [spec_roFits.l0]) ?_
    refine Ev.yes (by omega) (Ev.yes (by omega) (Ev.yes (by omega) (Ev.bind (roPlaces_ev l _ hn) ?_)))
    rw [wrS hi (by omega), wr (by omega) (by omega), wr (by omega) (by omega), Int.add_zero]
    exact Ev.yes (by omega) (Ev.yes (by omega) (Ev.yes hq hr))
  · have h2 := two i hi
    have hb := pb _ h2
    have ha := nums_at hi
    refine Ev.step (fun k => by rw [spec_roFits.l0]) ?_
    refine Ev.yes (by omega) (Ev.yes (by omega) (Ev.yes (by omega) (Ev.bind (roPlaces_ev l _ hn) ?_)))
    rw [wr (show -9223372036854775808 ≤ rd (plc l (rd (nums l) (i : Int))) 1 - rd (plc l (rd (nums l) (i : Int))) 0 by omega) (by omega), wr (show -9223372036854775808 ≤ rd (nums l) (i : Int) + 0 by omega) (by omega), Int.add_zero]
    exact Ev.yes (by omega) (Ev.yes (by omega) (Ev.no hq (Ev.now _)))
theorem roFrom_ev (l : List Int) (hn : l.length ≤ 1048576) : Ev (fun k => spec_roFrom.f k l 1) (tf (FromL 1 (nums l) ∧ 0 < (nums l).length)) := by
  unfold spec_roFrom.f
  refine Ev.bind (roNumbers_ev l hn) ?_
  have h20 : (nums l).length ≤ 20 := numsU_len l 20
  have := all_loop_b (L := fun k i => spec_roFrom.l0 k 1 (nums l) (nums l) ((nums l).length : Int) (i : Int)) (n := (nums l).length) (P := fun i => rd (nums l) (i : Int) = 1 + (i : Int)) (b := tf (0 < (nums l).length)) ?_ (fun i hi hq r hr => ?_) (fun i hi hq => ?_) (nums l).length 0 (by omega)
  · have e : (tf (∀ j, 0 ≤ j → j < (nums l).length → rd (nums l) (j : Int) = 1 + (j : Int)) && tf (0 < (nums l).length)) = tf (FromL 1 (nums l) ∧ 0 < (nums l).length) := by
      by_cases h1 : FromL 1 (nums l)
      · rw [tf_pos (show ∀ j, 0 ≤ j → j < (nums l).length → rd (nums l) (j : Int) = 1 + (j : Int) from h1), Bool.true_and]
        exact tf_congr ⟨fun h => ⟨h1, h⟩, fun h => h.2⟩
      · rw [tf_neg (show ¬ ∀ j, 0 ≤ j → j < (nums l).length → rd (nums l) (j : Int) = 1 + (j : Int) from h1), tf_neg (fun h : FromL 1 (nums l) ∧ 0 < (nums l).length => h1 h.1)]
        rfl
    rw [e] at this
    exact this
  · refine Ev.step (fun k => by rw [spec_roFrom.l0]) ?_
    refine Ev.no (by omega) (Ev.now' ?_)
    rw [← tf_dec]
    exact tf_congr (by omega)
  · refine Ev.step (fun k => by rw [spec_roFrom.l0]) ?_
    rw [wrS hi (by omega), wr (by omega) (by omega)]
    exact Ev.yes (by omega) (Ev.yes (by omega) (Ev.yes (by omega) (Ev.yes hq hr)))
  · refine Ev.step (fun k => by rw [spec_roFrom.l0]) ?_
    rw [wr (show -9223372036854775808 ≤ 1 + (i : Int) by omega) (by omega)]
    exact Ev.yes (by omega) (Ev.yes (by omega) (Ev.yes (by omega) (Ev.no hq (Ev.now _))))
theorem isFrom_ev (l : List Int) (hn : l.length ≤ 1048576) : Ev (fun k => impl_isFrom.f k l 1) (if tf (FromL 1 (nums l)) = true then (((nums l).length : Int), decide (((nums l).length : Int) > 0)) else (0, false)) := by
  unfold impl_isFrom.f
  refine Ev.bind (numbers_ev l hn) ?_
  have h20 : (nums l).length ≤ 20 := numsU_len l 20
  rcases ret_loop (L := fun k i (_ : Unit) => impl_isFrom.l0 k 1 (nums l) (nums l) ((nums l).length : Int) (i : Int)) (n := (nums l).length) (fun i _ => ∀ j : Nat, j < i → rd (nums l) (j : Int) = 1 + (j : Int)) (fun r => r = (0, false) ∧ ¬ FromL 1 (nums l)) (fun i s hi hx => by
    by_cases hb : rd (nums l) (i : Int) = 1 + (i : Int)
    · right
      refine ⟨(), fun j hj => ?_, fun r hr => ?_⟩
      · rcases Nat.lt_or_ge j i with h | h
        · exact hx j h
        · rw [show j = i by omega]; exact hb
      · refine Ev.step (fun k => by rw [impl_isFrom.l0]) ?_
        rw [wrS hi (by omega), wr (by omega) (by omega)]
        exact Ev.yes (by omega) (Ev.yes (by omega) (Ev.yes (by omega) (Ev.yes hb hr)))
    · left
      refine ⟨(0, false), ?_, rfl, fun h => hb (h i (by omega) hi)⟩
      refine Ev.step (fun k => by rw [impl_isFrom.l0]) ?_
      rw [wr (show -9223372036854775808 ≤ 1 + (i : Int) by omega) (by omega)]
      exact Ev.yes (by omega) (Ev.yes (by omega) (Ev.yes (by omega) (Ev.no hb (Ev.now _))))) (nums l).length 0 () (by omega) (fun j hj => absurd hj (by omega)) with ⟨r, hr, rfl, hb⟩ | ⟨s, hx, hk⟩
  · rw [if_neg (by rw [tf_neg hb]; decide)]; exact hr
  · rw [if_pos (tf_pos (show FromL 1 (nums l) from fun j _ hj => hx j hj))]
    refine hk _ ?_
    refine Ev.step (fun k => by rw [impl_isFrom.l0]) ?_
    exact Ev.no (by omega) (Ev.now _)
theorem roSkolem_ev (l : List Int) (hn : l.length ≤ 1048576) (hp : Paired l) : Ev (fun k => spec_roSkolem.f k l) (tf (Skol l)) := by
  unfold spec_roSkolem.f
  refine Ev.bind (roFits_ev l hn hp) ?_
  by_cases h1 : FitsL l
  · refine Ev.yes (tf_pos h1) (Ev.bind (roFrom_ev l hn) ?_)
    by_cases h2 : FromL 1 (nums l) ∧ 0 < (nums l).length
    · refine Ev.yes (tf_pos h2) (Ev.bind (roPlaces_ev l 0 hn) (Ev.now' ?_))
      by_cases h3 : (plc l 0).length = 0
      · rw [h3, tf_pos (show Skol l from ⟨h1, h2, h3⟩)]; rfl
      · rw [tf_neg (fun h : Skol l => h3 h.2.2)]
        exact beq_eq_false_iff_ne.mpr (by omega)
    · rw [tf_neg (fun h : Skol l => h2 h.2.1)]
      exact Ev.no (by rw [tf_neg h2]; decide) (Ev.now _)
  · rw [tf_neg (fun h : Skol l => h1 h.1)]
    exact Ev.no (by rw [tf_neg h1]; decide) (Ev.now _)
theorem two_row {xs : List Int} (h : xs.length = 2) : [rd xs 0, rd xs 1] = xs := by
  match xs, h with
  | [a, b], _ => rfl
theorem specLab_ev (l : List Int) (hn : l.length ≤ 1048576) : Ev (fun k => spec_LabelsOfRow.f k l) (LabF l) := by
  unfold spec_LabelsOfRow.f
  have out : ∀ b, b = true → ¬ SkOk l → Ev (fun k => spec_LabelsOfRow.j0 k l b) (LabF l) := fun b hb hc => by
    rw [LabF_no hc]
    refine Ev.step (g := fun k => spec_LabelsOfRow.j0 k _ _) (fun k => by rw [spec_LabelsOfRow.j0]) ?_
    exact Ev.yes hb (Ev.now _)
  refine Ev.bind (roIs_ev l hn) ?_
  by_cases h1 : Good l ∧ Paired l
  · refine Ev.yes (tf_pos h1) (Ev.bind (roSkolem_ev l hn h1.2) ?_)
    by_cases h2 : Skol l
    · have ok : SkOk l := ⟨h1, h2⟩
      have hh := half ok
      have hl := h1.1.1
      rw [tf_pos h2, LabF_yes ok]
      refine Ev.step (g := fun k => spec_LabelsOfRow.j0 k _ _) (fun k => by rw [spec_LabelsOfRow.j0]) ?_
      refine Ev.no (by decide) ?_
      refine det_loop (L := fun k i (s : List Int) => spec_LabelsOfRow.l0 k l s ((i + 1 : Nat) : Int)) (n := l.length / 2) (fun i => labO l i) (fun i hi r hr => ?_) ?_ (l.length / 2) 0 (by omega)
      · have h3 := two_of ok (i + 1) (by omega) (by omega)
        have h4 := labO_fit hl (m := i) (by omega)
        refine Ev.step (fun k => by rw [spec_LabelsOfRow.l0]) ?_
        rw [wr (show -9223372036854775808 ≤ (l.length : Int) / 2 by omega) (by omega), wrS (show i + 1 < 1000 by omega) (by omega)]
        refine Ev.yes (by omega) (Ev.bind (roPlaces_ev l _ hn) ?_)
        refine Ev.yes (by omega) (Ev.yes (by omega) ?_)
        rw [two_row h3]
        simp only [Option.bind_some]
        refine Ev.yes (by omega) ?_
        exact hr
      · refine Ev.step (fun k => by rw [spec_LabelsOfRow.l0]) ?_
        rw [wr (show -9223372036854775808 ≤ (l.length : Int) / 2 by omega) (by omega)]
        exact Ev.no (by omega) (Ev.now _)
    · rw [tf_neg h2]
      exact out _ rfl (fun h => h2 h.2)
  · exact Ev.no (by rw [tf_neg h1]; decide) (out _ rfl (fun h => h1 h.1))
theorem IsRow_ev (l : List Int) (hn : l.length ≤ 1048576) : Ev (fun k => impl_IsRow.f k l) (tf (Good l)) := by
  unfold impl_IsRow.f
  rcases ret_loop (L := fun k i (_ : Unit) => impl_IsRow.l0 k l l (l.length : Int) (i : Int)) (n := l.length) (fun i _ => ∀ j : Nat, j < i → 0 ≤ rd l (j : Int) ∧ rd l (j : Int) ≤ 20) (fun r => r = false ∧ ¬ Good l) (fun i s hi hx => by
    by_cases hb : 0 ≤ rd l (i : Int) ∧ rd l (i : Int) ≤ 20
    · right
      refine ⟨(), fun j hj => ?_, fun r hr => ?_⟩
      · rcases Nat.lt_or_ge j i with h | h
        · exact hx j h
        · rw [show j = i by omega]; exact hb
      · refine Ev.step (fun k => by rw [impl_IsRow.l0]) ?_
        rw [wrS hi (by omega)]
        exact Ev.yes (by omega) (Ev.yes (by omega) (Ev.yes (by omega) (Ev.no (by omega) (Ev.no (by omega) hr))))
    · left
      refine ⟨false, ?_, rfl, fun h => hb (h.2 i (by omega) hi)⟩
      refine Ev.step (fun k => by rw [impl_IsRow.l0]) ?_
      exact Ev.yes (by omega) (Ev.yes (by omega) (Ev.yes (by omega) (Ev.ite (fun _ => Ev.now _) (fun h => Ev.yes (by omega) (Ev.now _)))))) l.length 0 () (by omega) (fun j hj => absurd hj (by omega)) with ⟨r, hr, rfl, hb⟩ | ⟨s, hx, hk⟩
  · rw [tf_neg hb]; exact hr
  · refine hk _ ?_
    refine Ev.step (fun k => by rw [impl_IsRow.l0]) ?_
    refine Ev.no (by omega) (Ev.now' ?_)
    rw [← tf_dec]
    exact tf_congr ⟨fun h => ⟨by omega, fun j _ hj => hx j hj⟩, fun h => by have := h.1; omega⟩
theorem specLab_calls (A : Option Addr) (c : Nat) (l : List Int) (w : World) (hr : Rd w A l) (hc : l.length ≤ c) (hn : l.length ≤ 1048576) (hw : ∀ x ∈ l, W64 x) :
    Calls Try.prog 26 #[.slice A l.length c] w fun e w' => ∃ v, e = .returned (.tuple #[v, .bool (LabF l).2]) ∧ Ow w' w.heap.size v (LabF l).1 ∧ Below w.heap.size w w' := by
  obtain ⟨k, hk⟩ := specLab_ev l hn
  exact spec_LabelsOfRow.calls k A c l _ _ w hr hc (hk k (Nat.le_refl _))
end Go.Proofs.Ytpabfibmpannoaa.Own.G
