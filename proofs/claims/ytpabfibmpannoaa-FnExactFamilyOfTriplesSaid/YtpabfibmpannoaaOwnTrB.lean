/- Difference triples: what the program's FamilyOfTriples returns (over the printed functions); rows of at most 1048576 numbers. -/
import Derived.Test.YtpabfibmpannoaaOwnTrA
import Derived.Test.YtpabfibmpannoaaOwnSpine
namespace Go.Proofs.Ytpabfibmpannoaa.Own.G
open Go.RowKit Go.Proofs.YtpabfibmpannoaaW.PrintWords Go.Proofs.YtpabfibmpannoaaW.PrintLast Go.Proofs.YtpabfibmpannoaaW.PrintMore
open Go.Proofs.Ytpabfibmpannoaa.PFnExactFamilyOfTriples (rd_L1)
set_option linter.unusedVariables false
def Are (v : Int) (ts : List (List Int)) : Prop := ((7 ≤ v ∧ v ≤ 40) ∧ v = 6 * (ts.length : Int) + 1) ∧ Ordd ts ∧ Rowsd v ts
theorem areDiff_j0 (v : Int) (ts : List (List Int)) (n : Int) (k : Nat) (h : ¬ Are v ts) : PFnExactFamilyOfTriples.impl_areDifferences.j0 (k + 1) v ts n true = some (tf (Are v ts)) := by
  rw [PFnExactFamilyOfTriples.impl_areDifferences.j0, if_pos rfl, tf_neg h]
theorem areDiff_ev (v : Int) (ts : List (List Int)) (hn : ts.length ≤ 1048576) (hr : ∀ i : Nat, i < ts.length → (row ts i).length ≤ 1000000000) (k : Nat) (hk : 2000000000 ≤ k) :
    PFnExactFamilyOfTriples.impl_areDifferences.f k v ts = some (tf (Are v ts)) := by
  obtain ⟨k, rfl⟩ : ∃ j, k = j + 1 := ⟨k - 1, by omega⟩
  unfold PFnExactFamilyOfTriples.impl_areDifferences.f PFnExactFamilyOfTriples.impl_isDifference.f
  by_cases h1 : v ≥ 7
  · by_cases h2 : v ≤ 40
    · rw [if_pos h1, if_pos h2, Option.bind_some]
      have hw : wrap64 (v - 1) = v - 1 := by rw [w64 (by omega) (by omega)]
      rw [hw, Int.tdiv_eq_ediv_of_nonneg (by omega), Int.tmod_eq_emod_of_nonneg (by omega), w64 (by omega) (by omega)]
      by_cases h3 : v % 6 = 1
      · rw [if_pos (by simpa using h3)]
        by_cases h4 : (ts.length : Int) = (v - 1) / 6
        · rw [if_pos h4, ← h4]
          have hn6 : ts.length ≤ 6 := by omega
          have hv6 : v = 6 * (ts.length : Int) + 1 := by omega
          have ho := inOrder_ev ts hn hr (ts.length - 1) 1 (k + 1) (by omega) (by omega) (by omega) (fun j h0 h5 => absurd h5 (by omega))
          rw [PFnExactFamilyOfTriples.impl_inOrder.f, show (1 : Int) = ((1 : Nat) : Int) from rfl, ho, Option.bind_some]
          by_cases h5 : Ordd ts
          · rw [tf_pos h5]
            have hw3 : wrap64 (3 * (ts.length : Int)) = 3 * (ts.length : Int) := by rw [w64 (by omega) (by omega)]
            have hw4 : wrap64 (3 * (ts.length : Int) + 1) = 3 * (ts.length : Int) + 1 := by rw [w64 (by omega) (by omega)]
            show PFnExactFamilyOfTriples.impl_areDifferences.j0 (k + 1) v ts (ts.length : Int) false = _
            rw [PFnExactFamilyOfTriples.impl_areDifferences.j0, if_neg (by decide), hw3, hw4, if_pos (by omega), if_pos (by omega), show (3 * (ts.length : Int) + 1).toNat = 3 * ts.length + 1 by omega]
            have := areDiff_rows v ts hn6 ⟨h1, h2⟩ ts.length 0 k (List.replicate (3 * ts.length + 1) false) (by omega) (by omega) (fun j hj => absurd hj (by omega)) (by simp [flat]) (by simpa [flat] using Seen_none (3 * ts.length + 1))
            rw [show (0 : Int) = ((0 : Nat) : Int) from rfl, this]
            by_cases h6 : Rowsd v ts
            · rw [tf_pos h6, tf_pos (show Are v ts from ⟨⟨⟨h1, h2⟩, hv6⟩, h5, h6⟩)]
            · rw [tf_neg h6, tf_neg (fun h : Are v ts => h6 h.2.2)]
          · rw [tf_neg h5]
            exact areDiff_j0 v ts _ k (fun h => h5 h.2.1)
        · rw [if_neg h4]
          exact areDiff_j0 v ts _ k (fun h => h4 (by have := h.1.2; omega))
      · rw [if_neg (by simpa using h3)]
        exact areDiff_j0 v ts _ k (fun h => h3 (by have := h.1.2; omega))
    · rw [if_pos h1, if_neg h2, Option.bind_some, if_neg (by exact Bool.false_ne_true)]
      exact areDiff_j0 v ts _ k (fun h => h2 h.1.1.2)
  · rw [if_neg h1, Option.bind_some, if_neg (by exact Bool.false_ne_true)]
    exact areDiff_j0 v ts _ k (fun h => h1 h.1.1.1)
/-- The sets of the first i triples. -/
def famT (ts : List (List Int)) (i : Nat) : List (List Int) := (List.range i).map fun j : Nat => [0, rd (row ts j) 0, rd (row ts j) 0 + rd (row ts j) 1]
theorem famT_length (ts : List (List Int)) (i : Nat) : (famT ts i).length = i := by simp [famT]
theorem famT_succ (ts : List (List Int)) (i : Nat) : famT ts (i + 1) = famT ts i ++ [[0, rd (row ts i) 0, rd (row ts i) 0 + rd (row ts i) 1]] := by simp [famT, List.range_succ]
noncomputable def FamTF (v : Int) (ts : List (List Int)) : List (List Int) × Bool := if tf (v ≤ 31 ∧ Are v ts) = true then (famT ts ts.length, true) else ([], false)
theorem FamTF_yes {v : Int} {ts : List (List Int)} (h : v ≤ 31 ∧ Are v ts) : FamTF v ts = (famT ts ts.length, true) := if_pos (tf_pos h)
theorem FamTF_no {v : Int} {ts : List (List Int)} (h : ¬ (v ≤ 31 ∧ Are v ts)) : FamTF v ts = ([], false) := if_neg (by rw [tf_neg h]; decide)
theorem FamTF_fit (v : Int) (ts : List (List Int)) (hn : Fit ts) : Fit (FamTF v ts).1 := by
  by_cases h : v ≤ 31 ∧ Are v ts
  · rw [FamTF_yes h]
    refine ⟨by show (famT ts ts.length).length ≤ _; rw [famT_length]; have := h.2.1; omega, fun x hx => ?_⟩
    have hx : x ∈ famT ts ts.length := hx
    unfold famT at hx
    obtain ⟨j, _, rfl⟩ := List.mem_map.mp hx
    show 3 ≤ 1048576
    omega
  · rw [FamTF_no h]
    exact ⟨by simp, fun x hx => by cases hx⟩
theorem famT_ev (v : Int) (ts : List (List Int)) (hn : ts.length ≤ 6) (hR : ∀ i : Nat, i < ts.length → RowI v ts.length (row ts i)) : ∀ (d i k : Nat), i + d = ts.length → d < k → PFnExactFamilyOfTriples.impl_FamilyOfTriples.l0 k (famT ts i) ts (ts.length : Int) (i : Int) = some (famT ts ts.length, true) := by
  intro d
  induction d with
  | zero =>
    intro i k hi hk
    obtain ⟨k, rfl⟩ : ∃ j, k = j + 1 := ⟨k - 1, by omega⟩
    rw [PFnExactFamilyOfTriples.impl_FamilyOfTriples.l0, if_neg (by omega), show i = ts.length by omega]
  | succ d ih =>
    intro i k hi hk
    obtain ⟨k, rfl⟩ : ∃ j, k = j + 1 := ⟨k - 1, by omega⟩
    obtain ⟨h1, h2, h3, h4, h5, _⟩ := hR i (by omega)
    rw [PFnExactFamilyOfTriples.impl_FamilyOfTriples.l0, if_pos (by omega), if_pos (by omega), if_pos (by omega), row_L1, if_pos (by omega), if_pos (by omega), if_pos (by rw [famT_length]; omega), show wrap64 (rd (row ts i) 0 + rd (row ts i) 1) = rd (row ts i) 0 + rd (row ts i) 1 by rw [w64 (by omega) (by omega)], ← famT_succ, show wrap64 ((i : Int) + 1) = ((i + 1 : Nat) : Int) by rw [w64 (by omega) (by omega)]; omega]
    exact ih (i + 1) k (by omega) (by omega)
theorem FamT_ev (v : Int) (ts : List (List Int)) (hn : ts.length ≤ 1048576) (hr : ∀ i : Nat, i < ts.length → (row ts i).length ≤ 1000000000) (k : Nat) (hk : 2000000001 ≤ k) : PFnExactFamilyOfTriples.impl_FamilyOfTriples.f k v ts = some ((FamTF v ts).1, (FamTF v ts).2) := by
  obtain ⟨k, rfl⟩ : ∃ j, k = j + 1 := ⟨k - 1, by omega⟩
  unfold PFnExactFamilyOfTriples.impl_FamilyOfTriples.f
  by_cases h1 : v > 31
  · rw [if_pos h1, PFnExactFamilyOfTriples.impl_FamilyOfTriples.j0, if_pos rfl, FamTF_no (fun h => by omega)]
  · rw [if_neg h1, areDiff_ev v ts hn hr (k + 1) (by omega), Option.bind_some]
    by_cases h2 : Are v ts
    · have hn6 : ts.length ≤ 6 := by have := h2.1; omega
      rw [tf_pos h2, FamTF_yes ⟨by omega, h2⟩]
      show PFnExactFamilyOfTriples.impl_FamilyOfTriples.j0 (k + 1) ts false = _
      rw [PFnExactFamilyOfTriples.impl_FamilyOfTriples.j0, if_neg (by decide)]
      exact famT_ev v ts hn6 h2.2.2.1 ts.length 0 k (by omega) (by omega)
    · rw [tf_neg h2, FamTF_no (fun h => h2 h.2)]
      show PFnExactFamilyOfTriples.impl_FamilyOfTriples.j0 (k + 1) ts true = _
      rw [PFnExactFamilyOfTriples.impl_FamilyOfTriples.j0, if_pos rfl]
theorem Fit_rows {ts : List (List Int)} (h : Fit ts) {i : Nat} (hi : i < ts.length) : (row ts i).length ≤ 1048576 := Fit_at h hi
theorem implFamT_calls (v : Int) (A : Option Addr) (c : Nat) (ts : List (List Int)) (w : World) (hv : W64 v) (hr : RdS w A ts) (hc : ts.length ≤ c) (hn : Fit ts) (hw : ∀ x ∈ ts, ∀ y ∈ x, W64 y) :
    Calls Try.prog 23 #[.int .i64 v, .slice A ts.length c] w fun e w' => ∃ u, e = .returned (.tuple #[u, .bool (FamTF v ts).2]) ∧ OwS w' w.heap.size u (FamTF v ts).1 ∧ Below w.heap.size w w' := by
  refine (PFnExactFamilyOfTriples.impl_FamilyOfTriples.calls 2000000001 v A c ts _ _ w hr hc (FamT_ev v ts (by have := hn.1; omega) (fun i hi => by have := Fit_rows hn hi; omega) _ (Nat.le_refl _))).mono ?_
  rintro e w' ⟨u, rfl, ho, hb⟩
  exact ⟨u, rfl, ho, hb⟩
end Go.Proofs.Ytpabfibmpannoaa.Own.G
