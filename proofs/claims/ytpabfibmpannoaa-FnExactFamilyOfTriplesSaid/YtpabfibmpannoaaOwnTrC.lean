/- Difference triples: what the reference's trMarks and trOnce compute (over the printed functions). -/
import Derived.Test.YtpabfibmpannoaaOwnTrB
import Derived.Test.YtpabfibmpannoaaPFnExactFamilyOfTriplesx3
namespace Go.Proofs.Ytpabfibmpannoaa.Own.G
open Go.RowKit Go.Proofs.YtpabfibmpannoaaW.PrintWords Go.Proofs.YtpabfibmpannoaaW.PrintLast Go.Proofs.YtpabfibmpannoaaW.PrintMore
open Go.Proofs.Ytpabfibmpannoaa.PFnExactFamilyOfTriples (rd_L1)
set_option linter.unusedVariables false
/-- The numbers of 1 to 3 n that do not stand in L are marked. -/
def Left (n : Nat) (S : List Bool) (L : List Int) : Prop := S.length = 3 * n + 2 ∧ ∀ y : Nat, y < 3 * n + 2 → (S.getD y false = true ↔ (1 ≤ y ∧ y ≤ 3 * n) ∧ (y : Int) ∉ L)
theorem getD_set_b {S : List Bool} {i y : Nat} {b : Bool} (hi : i < S.length) : (S.set i b).getD y false = if i = y then b else S.getD y false := by
  rw [List.getD_eq_getElem?_getD, List.getElem?_set]
  by_cases e : i = y
  · subst e; rw [if_pos rfl, if_pos rfl, if_pos hi]; rfl
  · rw [if_neg e, if_neg e, List.getD_eq_getElem?_getD]
theorem marks_ev (n : Nat) (hn : n ≤ 1000) : ∀ (d i k : Nat) (S : List Bool), 1 ≤ i → i + d = 3 * n + 1 → d < k → S.length = 3 * n + 2 → (∀ y : Nat, y < 3 * n + 2 → (S.getD y false = true ↔ 1 ≤ y ∧ y < i)) → ∃ S', PFnExactFamilyOfTriples.spec_trMarks.l0 k (n : Int) false S (i : Int) = some S' ∧ Left n S' [] := by
  intro d
  induction d with
  | zero =>
    intro i k S hi hd hk hl hs
    obtain ⟨k, rfl⟩ : ∃ j, k = j + 1 := ⟨k - 1, by omega⟩
    refine ⟨S, ?_, hl, fun y hy => ?_⟩
    · rw [PFnExactFamilyOfTriples.spec_trMarks.l0, w64 (by omega) (by omega), if_neg (by omega), if_neg (by decide)]
    · rw [hs y hy]
      constructor
      · intro h; exact ⟨⟨h.1, by omega⟩, by simp⟩
      · intro h; exact ⟨h.1.1, by omega⟩
  | succ d ih =>
    intro i k S hi hd hk hl hs
    obtain ⟨k, rfl⟩ : ∃ j, k = j + 1 := ⟨k - 1, by omega⟩
    rw [PFnExactFamilyOfTriples.spec_trMarks.l0, w64 (by omega) (by omega), if_pos (by omega), if_pos (by omega), if_pos (by omega), w64 (by omega) (by omega), show (i : Int) + 1 = ((i + 1 : Nat) : Int) by omega, Int.toNat_natCast]
    refine ih (i + 1) k _ (by omega) (by omega) (by omega) (by rw [List.length_set]; exact hl) (fun y hy => ?_)
    rw [getD_set_b (by omega)]
    by_cases e : i = y
    · rw [if_pos e]; exact ⟨fun _ => ⟨by omega, by omega⟩, fun _ => rfl⟩
    · rw [if_neg e, hs y hy]; omega
theorem trMarks_ev (n : Nat) (hn : n ≤ 1000) (k : Nat) (hk : 4000 ≤ k) : ∃ S', PFnExactFamilyOfTriples.spec_trMarks.f k (n : Int) false = some S' ∧ Left n S' [] := by
  obtain ⟨S', h1, h2⟩ := marks_ev n hn (3 * n) 1 k (List.replicate (3 * n + 2) false) (by omega) (by omega) (by omega) List.length_replicate (fun y hy => by
    rw [List.getD_eq_getElem?_getD, List.getElem?_replicate, if_pos hy]
    constructor
    · intro h; cases h
    · intro h; omega)
  refine ⟨S', ?_, h2⟩
  unfold PFnExactFamilyOfTriples.spec_trMarks.f
  rw [w64 (show -9223372036854775808 ≤ 3 * (n : Int) by omega) (by omega), w64 (show -9223372036854775808 ≤ 3 * (n : Int) + 2 by omega) (by omega), if_pos (by omega), if_pos (by omega), show (3 * (n : Int) + 2).toNat = 3 * n + 2 by omega]
  exact h1
theorem flatten_len {ts : List (List Int)} (h : ∀ i : Nat, i < ts.length → (row ts i).length = 3) : ∀ i : Nat, i ≤ ts.length → (flat ts i).length = 3 * i := by
  intro i
  induction i with
  | zero => intro _; rfl
  | succ i ih => intro hi; rw [flat_succ (by omega), List.length_append, ih (by omega), h i (by omega)]; omega
theorem RowI_rd {v : Int} {n : Nat} {t : List Int} (h : RowI v n t) {j : Nat} (hj : j < 3) : 1 ≤ rd t (j : Int) ∧ rd t (j : Int) ≤ 3 * (n : Int) := by
  obtain ⟨_, h1, h2, h3, h4, _⟩ := h
  rcases (show j = 0 ∨ j = 1 ∨ j = 2 by omega) with h | h | h <;> subst h <;> exact ⟨by first | exact h1 | exact Int.le_trans h1 h2 | exact Int.le_trans (Int.le_trans h1 h2) h3, by first | exact h4 | exact Int.le_trans h3 h4 | exact Int.le_trans (Int.le_trans h2 h3) h4⟩
section
variable (v : Int) (ts : List (List Int))
theorem flat_in (hR : ∀ i : Nat, i < ts.length → RowI v ts.length (row ts i)) : ∀ i : Nat, i ≤ ts.length → ∀ x ∈ flat ts i, 1 ≤ x ∧ x ≤ 3 * (ts.length : Int) := by
  intro i
  induction i with
  | zero => intro _ x hx; cases hx
  | succ i ih =>
    intro hi x hx
    rw [flat_succ (by omega)] at hx
    rcases List.mem_append.mp hx with h | h
    · exact ih (by omega) x h
    · obtain ⟨j, hj, rfl⟩ := mem_rd h
      exact RowI_rd (hR i (by omega)) (by have := (hR i (by omega)).1; omega)
theorem flat_all (hR : ∀ i : Nat, i < ts.length → RowI v ts.length (row ts i)) (hnd : ts.flatten.Nodup) {y : Nat} (h1 : 1 ≤ y) (h2 : y ≤ 3 * ts.length) : (y : Int) ∈ ts.flatten := by
  apply Classical.byContradiction
  intro hn
  have e : flat ts ts.length = ts.flatten := by unfold flat; rw [List.take_of_length_le (Nat.le_refl _)]
  have hin := flat_in v ts hR ts.length (Nat.le_refl _)
  have hlen := flatten_len (ts := ts) (fun i hi => (hR i hi).1) ts.length (Nat.le_refl _)
  rw [e] at hin hlen
  have := nodup_bound (3 * ts.length + 1) (0 :: (y : Int) :: ts.flatten) (List.nodup_cons.mpr ⟨fun h => by
      rcases List.mem_cons.mp h with h | h
      · omega
      · have := hin 0 h; omega, List.nodup_cons.mpr ⟨hn, hnd⟩⟩) (fun x hx => by
      rcases List.mem_cons.mp hx with h | h
      · omega
      · rcases List.mem_cons.mp h with h | h
        · omega
        · have := hin x h; omega)
  simp only [List.length_cons, hlen] at this
  omega
end
end Go.Proofs.Ytpabfibmpannoaa.Own.G
