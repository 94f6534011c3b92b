/- A list of lists that came in, as the kit's opening of it tells it, in the words of this seat's reading. -/
import Derived.Deep.Matrix
import Derived.Test.YtpabfibmpannoaaOwnSpineB
namespace Go.Proofs.Ytpabfibmpannoaa.Own.G
open Go.RowKit Go.Proofs.YtpabfibmpannoaaW.PrintWords Go.Proofs.YtpabfibmpannoaaW.PrintLast Go.Proofs.YtpabfibmpannoaaW.PrintMore
set_option linter.unusedVariables false
theorem rows_of {w : World} {a : Addr} {len cap base : Nat} {A : Nat → Option Addr} {L C : Nat → Nat} {Z : Nat → List Int} (hl : len ≤ cap) (hm : cap ≤ maxLen)
    (h : ∀ r, r < cap → w.cell? (a.add r) = some (.slice (A r) (L r) (C r)) ∧ L r ≤ C r ∧ C r ≤ maxLen ∧ (Z r).length = C r ∧ (∀ n ∈ Z r, (Lit.int .i64 n).wf = true) ∧ (A r = none → C r = 0) ∧
      ∀ a', A r = some a' → base ≤ a'.block ∧ ∀ c, c < C r → w.cell? (a'.add c) = some (.int .i64 ((Z r).getD c 0))) :
    ∃ l : List (List Int), len = l.length ∧ RdS w (some a) l ∧ Long l ∧ (∀ x ∈ l, ∀ y ∈ x, (Lit.int .i64 y).wf = true) := by
  have hmx : maxLen ≤ 9223372036854775807 := by unfold maxLen; decide
  have hlen : ((List.range len).map fun r => (Z r).take (L r)).length = len := by simp
  refine ⟨(List.range len).map fun r => (Z r).take (L r), hlen.symm, ?_, ⟨by rw [hlen]; omega, fun x hx => ?_⟩, fun x hx y hy => ?_⟩
  · refine ⟨rfl, by rw [hlen]; omega, fun hp => ⟨a, rfl, fun j p hj => ?_⟩⟩
    obtain ⟨hjl, hpe⟩ := List.getElem?_eq_some_iff.1 hj
    rw [hlen] at hjl
    simp at hpe
    obtain ⟨h1, h2, h3, h4, h5, h6, h7⟩ := h j (by omega)
    subst hpe
    have hzl : ((Z j).take (L j)).length = L j := by rw [List.length_take]; omega
    refine ⟨[.slice (A j) (L j) (C j)], rfl, ⟨A j, C j, by rw [hzl], by rw [hzl]; exact h2, ?_⟩, fun i u hu => ?_⟩
    · rw [hzl]
      refine Kd.C_of_reads (d := (0 : Int)) (h1 := fun _ => rfl) ⟨hzl, by omega, fun hp2 => ?_⟩
      cases hA : A j with
      | none => have := h6 hA; omega
      | some a' =>
        refine ⟨a', rfl, fun c hc => ?_⟩
        rw [(h7 a' hA).2 c (by omega)]
        congr 2
        rw [List.getD_eq_getElem?_getD, List.getD_eq_getElem?_getD, List.getElem?_take, if_pos hc]
    · cases i with
      | zero => cases hu; show w.cell? (a.add (j * 1 + 0)) = _; rw [Nat.mul_one, Nat.add_zero]; exact h1
      | succ i => simp at hu
  · simp only [List.mem_map, List.mem_range] at hx
    obtain ⟨r, hr, rfl⟩ := hx
    have h3 := h r (by omega)
    rw [List.length_take]
    omega
  · simp only [List.mem_map, List.mem_range] at hx
    obtain ⟨r, hr, rfl⟩ := hx
    exact (h r (by omega)).2.2.2.2.1 y (List.mem_of_mem_take hy)
end Go.Proofs.Ytpabfibmpannoaa.Own.G
