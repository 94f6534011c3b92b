/- Masks of numbers below 9, and the labels of edges where a label is added; no condition. -/
import Derived.Test.YtaodmegnbkimeaaOwnLabelD
import Derived.Test.YtaodmegnbkimeaaOwnSeek
namespace Go.Proofs.Ytaodmegnbkimeaa.Own.G
open Go.RowKit Go.Proofs.YtaodmegnbkimeaaW.PrintWords Go.Proofs.YtaodmegnbkimeaaW.PrintLast Go.Proofs.YtaodmegnbkimeaaW.PrintMore
set_option linter.unusedVariables false
/-- The bits of a mask are the members of a list. -/
def Mask (M : Nat) (l : List Int) : Prop := M < 512 ∧ ∀ y : Nat, y < 9 → (M / 2 ^ y % 2 = 1 ↔ (y : Int) ∈ l)
theorem mask_yes {M y : Nat} {l : List Int} (h : Mask M l) (hy : y < 9) (hm : (y : Int) ∈ l) : (((M : Int) / 2 ^ y).tmod 2 == 1) = true := by
  have h1 := (h.2 y hy).mpr hm
  have e : ((M : Int) / 2 ^ y) = ((M / 2 ^ y : Nat) : Int) := by rw [Int.natCast_ediv, Int.natCast_pow]; rfl
  rw [e]
  have e2 : ((M / 2 ^ y : Nat) : Int).tmod 2 = ((M / 2 ^ y % 2 : Nat) : Int) := rfl
  rw [e2, h1]
  rfl
theorem mask_no {M y : Nat} {l : List Int} (h : Mask M l) (hy : y < 9) (hm : (y : Int) ∉ l) : (((M : Int) / 2 ^ y).tmod 2 == 1) = false := by
  have h1 : ¬ M / 2 ^ y % 2 = 1 := fun e => hm ((h.2 y hy).mp e)
  have e : ((M : Int) / 2 ^ y) = ((M / 2 ^ y : Nat) : Int) := by rw [Int.natCast_ediv, Int.natCast_pow]; rfl
  rw [e]
  have e2 : ((M / 2 ^ y : Nat) : Int).tmod 2 = ((M / 2 ^ y % 2 : Nat) : Int) := rfl
  rw [e2, show M / 2 ^ y % 2 = 0 by omega]
  rfl
def Upto8 (l : List Int) : Prop := ∀ x ∈ l, 0 ≤ x ∧ x ≤ 8
theorem Upto8_snoc {l : List Int} (h : Upto8 l) {k : Nat} (hk : k ≤ 8) : Upto8 (l ++ [(k : Int)]) := fun x hx => by
  rcases List.mem_append.mp hx with h1 | h1
  · exact h x h1
  · rw [List.mem_singleton.mp h1]; omega
theorem or_fin : ∀ M : Fin 512, ∀ e : Fin 9, (bits .or .i64 ((M.val : Nat) : Int) (wrap64 (2 ^ e.val)) = ((M.val ||| 2 ^ e.val : Nat) : Int) ∧ (M.val ||| 2 ^ e.val) < 512) ∧ ∀ j : Fin 9, ((M.val ||| 2 ^ e.val) / 2 ^ j.val % 2 = 1 ↔ (M.val / 2 ^ j.val % 2 = 1 ∨ j = e)) := by decide +kernel
theorem mask_or {M e : Nat} {l : List Int} (h : Mask M l) (he : e < 9) : ∃ M' : Nat, bits .or .i64 (M : Int) (wrap64 (2 ^ e)) = (M' : Int) ∧ Mask M' (l ++ [(e : Int)]) := by
  obtain ⟨⟨h1, h2⟩, h3⟩ := or_fin ⟨M, h.1⟩ ⟨e, he⟩
  refine ⟨M ||| 2 ^ e, h1, h2, fun y hy => ?_⟩
  have h4 := h3 ⟨y, hy⟩
  simp only at h4
  rw [h4, h.2 y hy, List.mem_append, List.mem_singleton]
  constructor
  · rintro (h | h)
    · exact .inl h
    · injection h with h; rw [h]; exact .inr rfl
  · rintro (h | h)
    · exact .inl h
    · exact .inr (by congr 1; omega)
theorem edges_snoc {P l : List Int} (y : Int) (ht : Tree P) (h0 : 0 < l.length) (h1 : l.length < P.length) : edges P (l ++ [y]) ((l ++ [y]).length - 1) = edges P l (l.length - 1) ++ [dist y (rd l (rd P (l.length : Int)))] := by
  have hl : (l ++ [y]).length - 1 = (l.length - 1) + 1 := by rw [List.length_append, List.length_singleton]; omega
  have hk : ((l.length - 1 + 1 : Nat) : Int) = (l.length : Int) := by omega
  have hrd : ∀ a : Int, 0 ≤ a → a < (l.length : Int) → rd (l ++ [y]) a = rd l a := fun a ha0 ha1 => by
    obtain ⟨n, rfl⟩ : ∃ n : Nat, a = (n : Int) := ⟨a.toNat, by omega⟩
    exact rd_append_left (by omega)
  rw [hl, edges_succ, hk, rd_last]
  have ha := ht.2 l.length h0 h1
  rw [hrd _ ha.1 (by omega)]
  congr 1
  unfold edges
  refine List.map_congr_left fun j hj => ?_
  have hj2 : j < l.length - 1 := by simpa using hj
  have hb := ht.2 (j + 1) (by omega) (by omega)
  rw [hrd _ (by omega) (by omega), hrd _ hb.1 (by omega)]
theorem Unl_snoc {l : List Int} {x : Int} (h : Unl l) (hx : x ∉ l) : Unl (l ++ [x]) := fun i hi => by
  rw [List.length_append, List.length_singleton] at hi
  rcases Nat.lt_or_ge i l.length with h1 | h1
  · rw [rd_append_left h1, List.take_append_of_le_length (by omega)]
    exact h i h1
  · rw [show i = l.length by omega, rd_last, List.take_append_of_le_length (Nat.le_refl _), List.take_length]
    exact hx
theorem Unl_init {l : List Int} {x : Int} (h : Unl (l ++ [x])) : x ∉ l := by
  have := h l.length (by rw [List.length_append, List.length_singleton]; omega)
  rwa [rd_last, List.take_append_of_le_length (Nat.le_refl _), List.take_length] at this
end Go.Proofs.Ytaodmegnbkimeaa.Own.G
