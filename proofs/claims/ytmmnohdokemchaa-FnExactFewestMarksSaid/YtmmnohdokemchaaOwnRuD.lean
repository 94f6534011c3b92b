/- Rulers with a length, how many, the shortest one and one with the fewest marks: what the program's CountDifferent, CountWhole, ShortestRuler and FewestMarks return; no condition. -/
import Derived.Test.YtmmnohdokemchaaOwnRuC
import Derived.Deep.RegionLaw
namespace Go.Proofs.Ytmmnohdokemchaa.Own.G
open Go.RowKit Go.Proofs.YtmmnohdokemchaaW.PrintWords Go.Proofs.YtmmnohdokemchaaW.PrintLast Go.Proofs.YtmmnohdokemchaaW.PrintMore
set_option linter.unusedVariables false
def headR (L : List (List Int)) : List Int × Bool := outFirst [] L
/-- The first that is found where d places are left. -/
noncomputable def scan (f : Nat → List (List Int)) (N : Nat) : Nat → List Int × Bool
  | 0 => ([], false)
  | d + 1 => if (headR (f (N - (d + 1)))).2 = true then headR (f (N - (d + 1))) else scan f N d
noncomputable def CountDF (a b : Int) : Int × Bool := if (1 ≤ a ∧ a ≤ 6) ∧ (0 ≤ b ∧ b ≤ 24) then (((ruR false a.toNat b.toNat).length : Int), true) else (0, false)
noncomputable def CountWF (a b : Int) : Int × Bool := if (1 ≤ a ∧ a ≤ 7) ∧ (0 ≤ b ∧ b ≤ 18) then (((ruR true a.toNat b.toNat).length : Int), true) else (0, false)
noncomputable def ShortF (a : Int) : List Int × Bool := if 1 ≤ a ∧ a ≤ 6 then scan (fun L => ruR false a.toNat L) 25 25 else ([], false)
noncomputable def FewF (b : Int) : List Int × Bool := if 0 ≤ b ∧ b ≤ 18 then scan (fun i => ruR true (i + 1) b.toNat) 12 12 else ([], false)
theorem CountDF_in {a b : Int} (h : (1 ≤ a ∧ a ≤ 6) ∧ (0 ≤ b ∧ b ≤ 24)) : CountDF a b = (((ruR false a.toNat b.toNat).length : Int), true) := if_pos h
theorem CountDF_out {a b : Int} (h : ¬ ((1 ≤ a ∧ a ≤ 6) ∧ (0 ≤ b ∧ b ≤ 24))) : CountDF a b = (0, false) := if_neg h
theorem CountWF_in {a b : Int} (h : (1 ≤ a ∧ a ≤ 7) ∧ (0 ≤ b ∧ b ≤ 18)) : CountWF a b = (((ruR true a.toNat b.toNat).length : Int), true) := if_pos h
theorem CountWF_out {a b : Int} (h : ¬ ((1 ≤ a ∧ a ≤ 7) ∧ (0 ≤ b ∧ b ≤ 18))) : CountWF a b = (0, false) := if_neg h
theorem ShortF_in {a : Int} (h : 1 ≤ a ∧ a ≤ 6) : ShortF a = scan (fun L => ruR false a.toNat L) 25 25 := if_pos h
theorem ShortF_out {a : Int} (h : ¬ (1 ≤ a ∧ a ≤ 6)) : ShortF a = ([], false) := if_neg h
theorem FewF_in {b : Int} (h : 0 ≤ b ∧ b ≤ 18) : FewF b = scan (fun i => ruR true (i + 1) b.toNat) 12 12 := if_pos h
theorem FewF_out {b : Int} (h : ¬ (0 ≤ b ∧ b ≤ 18)) : FewF b = ([], false) := if_neg h
theorem headR_len {L : List (List Int)} {k : Nat} (h : ∀ x ∈ L, x.length ≤ k) : (headR L).1.length ≤ k := by
  cases L with
  | nil => exact Nat.zero_le _
  | cons x L => exact h x (by simp)
theorem scan_len {f : Nat → List (List Int)} {k : Nat} (h : ∀ i, ∀ x ∈ f i, x.length ≤ k) (N : Nat) : ∀ d : Nat, (scan f N d).1.length ≤ k := by
  intro d
  induction d with
  | zero => exact Nat.zero_le _
  | succ d ih =>
    rw [scan]
    split
    · exact headR_len (h _)
    · exact ih
theorem ShortF_len (a : Int) : (ShortF a).1.length ≤ 1048576 := by
  by_cases h : 1 ≤ a ∧ a ≤ 6
  · rw [ShortF_in h]; exact scan_len (fun i x hx => by have := ruR_row false (by omega) x hx; omega) 25 25
  · rw [ShortF_out h]; simp
theorem FewF_len (b : Int) : (FewF b).1.length ≤ 1048576 := by
  by_cases h : 0 ≤ b ∧ b ≤ 18
  · rw [FewF_in h]
    have h2 : ∀ d : Nat, d ≤ 12 → (scan (fun i => ruR true (i + 1) b.toNat) 12 d).1.length ≤ 1048576 := by
      intro d
      induction d with
      | zero => intro _; exact Nat.zero_le _
      | succ d ih =>
        intro hd
        rw [scan]
        split
        · exact headR_len (fun x hx => by have := ruR_row true (by omega) x hx; omega)
        · exact ih (by omega)
    exact h2 12 (by omega)
  · rw [FewF_out h]; simp
theorem scan_some {f : Nat → List (List Int)} {N : Nat} (i : Nat) (hi : (headR (f i)).2 = true) : ∀ d : Nat, d ≤ N → N - d ≤ i → i < N → (scan f N d).2 = true := by
  intro d
  induction d with
  | zero => intro _ h1 h2; omega
  | succ d ih =>
    intro h0 h1 h2
    rw [scan]
    split
    · rename_i h; exact h
    · rename_i h
      refine ih (by omega) ?_ h2
      rcases Nat.eq_or_lt_of_le h1 with h3 | h3
      · rw [h3] at h; exact absurd hi h
      · omega
theorem headR_some {L : List (List Int)} {x : List Int} (h : x ∈ L) : (headR L).2 = true := by
  cases L with
  | nil => cases h
  | cons => rfl
theorem lv_in {L : Nat} {f : Nat} {l x : List Int} {y : Nat} (ht : ts false l = true) (h0 : 0 ≤ lst l) (h1 : lst l < (y : Int)) (h2 : y < L) (hx : x ∈ (ruS false L).lv f (l ++ [(y : Int)])) : x ∈ (ruS false L).lv (f + 1) l := by
  have e : (ruS false L).lv (f + 1) l = if ts false l = true then (ruS false L).lvL ((ruS false L).lv f) l ((ruS false L).st l) else [] := rfl
  rw [e, if_pos ht]
  refine ((ruS false L).lvL_mem (ruS_st false L l)).mpr ⟨y, ?_, h2, rfl, hx⟩
  show L - (L - (lst l + 1).toNat) ≤ y
  omega
theorem lv_end {L : Nat} {l : List Int} (ht : ts false l = true) (hq : ts false (l ++ [(L : Int)]) = true) : l ++ [(L : Int)] ∈ (ruS false L).lv 0 l := by
  have e : (ruS false L).lv 0 l = if ts false l = true then (if qq false (l ++ [(L : Int)]) = true then [l ++ [(L : Int)]] else []) else [] := rfl
  rw [e, if_pos ht, if_pos (by rw [qq_is, hq]; rfl)]
  simp
theorem ts_diff {l : List Int} (h : Diff (times l)) : ts false l = true := tf_pos h
instance (t : List Int) : Decidable (Diff t) := inferInstanceAs (Decidable (∀ j : Nat, j < t.length → rd t (j : Int) ≤ 1))
theorem short_is (n : Nat) (hn : 1 ≤ n ∧ n ≤ 6) : (scan (fun L => ruR false n L) 25 25).2 = true := by
  have key : ∃ L : Nat, L < 25 ∧ ∃ x, x ∈ ruR false n L := by
    obtain ⟨h1, h6⟩ := hn
    rcases (show n = 1 ∨ n = 2 ∨ n = 3 ∨ n = 4 ∨ n = 5 ∨ n = 6 by omega) with h | h | h | h | h | h <;> subst h
    · exact ⟨0, by decide, [0], by simp [ruR]⟩
    · exact ⟨1, by decide, _, (lv_end (L := 1) (l := [0]) (ts_diff (by decide)) (ts_diff (by decide)) : _ ∈ (ruS false 1).lv 0 [0])⟩
    · exact ⟨3, by decide, _, (lv_in (y := 1) (ts_diff (by decide)) (by decide) (by decide) (by decide) (lv_end (ts_diff (by decide)) (ts_diff (by decide))) : _ ∈ (ruS false 3).lv 1 [0])⟩
    · exact ⟨6, by decide, _, (lv_in (y := 1) (ts_diff (by decide)) (by decide) (by decide) (by decide) (lv_in (y := 4) (ts_diff (by decide)) (by decide) (by decide) (by decide) (lv_end (ts_diff (by decide)) (ts_diff (by decide)))) : _ ∈ (ruS false 6).lv 2 [0])⟩
    · exact ⟨11, by decide, _, (lv_in (y := 1) (ts_diff (by decide)) (by decide) (by decide) (by decide) (lv_in (y := 4) (ts_diff (by decide)) (by decide) (by decide) (by decide) (lv_in (y := 9) (ts_diff (by decide)) (by decide) (by decide) (by decide) (lv_end (ts_diff (by decide)) (ts_diff (by decide))))) : _ ∈ (ruS false 11).lv 3 [0])⟩
    · exact ⟨17, by decide, _, (lv_in (y := 1) (ts_diff (by decide)) (by decide) (by decide) (by decide) (lv_in (y := 4) (ts_diff (by decide)) (by decide) (by decide) (by decide) (lv_in (y := 10) (ts_diff (by decide)) (by decide) (by decide) (by decide) (lv_in (y := 12) (ts_diff (by decide)) (by decide) (by decide) (by decide) (lv_end (ts_diff (by decide)) (ts_diff (by decide)))))) : _ ∈ (ruS false 17).lv 4 [0])⟩
  obtain ⟨L, hL, x, hx⟩ := key
  exact scan_some L (headR_some hx) 25 (Nat.le_refl _) (by omega) hL
end Go.Proofs.Ytmmnohdokemchaa.Own.G
