/- A search that is cut off at a number of finds: it is the whole search's list, cut off there. -/
import Derived.Test.YtikedacnijgloaaOwnSeek
namespace Go.Proofs.Ytikedacnijgloaa.Own.G
open Go.RowKit Go.Proofs.YtikedacnijgloaaW.PrintWords Go.Proofs.YtikedacnijgloaaW.PrintLast Go.Proofs.YtikedacnijgloaaW.PrintMore
set_option linter.unusedVariables false
namespace Seek
variable (S : Seek)
/-- The loop over the next number, cut off at 'most' finds: d are left; out is what was found. -/
def tkL (g : List Int → Int → List (List Int)) (l : List Int) (most : Int) : Nat → List (List Int) → List (List Int)
  | 0, out => out
  | d + 1, out => if (out.length : Int) < most then (if S.t l (S.y (d + 1)) = true then tkL g l most d (out ++ g (l ++ [S.y (d + 1)]) (most - (out.length : Int))) else tkL g l most d out) else out
theorem tkL_eq {h : List Int → List (List Int)} {g : List Int → Int → List (List Int)} (l : List Int) (most : Int) : ∀ (d : Nat) (out : List (List Int)), (∀ e : Nat, 0 < e → e ≤ d → ∀ m : Int, 1 ≤ m → S.t l (S.y e) = true → g (l ++ [S.y e]) m = (h (l ++ [S.y e])).take m.toNat) → (out.length : Int) ≤ most → S.tkL g l most d out = (out ++ S.lvL h l d).take most.toNat := by
  intro d
  induction d with
  | zero => intro out _ ho; rw [tkL, lvL, List.append_nil, List.take_of_length_le (by omega)]
  | succ d ih =>
    intro out hg ho
    have hg' := fun e h1 h2 => hg e h1 (Nat.le_succ_of_le h2)
    rw [tkL, lvL]
    by_cases h1 : (out.length : Int) < most
    · rw [if_pos h1]
      split
      · rename_i ht
        rw [hg (d + 1) (by omega) (Nat.le_refl _) _ (by omega) ht, ih _ hg' (by rw [List.length_append, List.length_take]; omega)]
        rw [← List.append_assoc, List.take_append, List.take_append (l₁ := out ++ _) (l₂ := lvL S h l d)]
        generalize h (l ++ [S.y (d + 1)]) = x
        have e1 : (out ++ List.take (most - (out.length : Int)).toNat x).take most.toNat = (out ++ x).take most.toNat := by
          rw [List.take_append, List.take_append, List.take_take, show min (most.toNat - out.length) (most - (out.length : Int)).toNat = most.toNat - out.length by omega]
        rw [e1]
        congr 1
        rcases Nat.le_total x.length (most.toNat - out.length) with h2 | h2
        · rw [List.take_of_length_le (by omega : x.length ≤ (most - (out.length : Int)).toNat)]
        · rw [show most.toNat - (out ++ List.take (most - (out.length : Int)).toNat x).length = 0 by rw [List.length_append, List.length_take]; omega, show most.toNat - (out ++ x).length = 0 by rw [List.length_append]; omega]
      · rw [ih out hg' ho, List.nil_append]
    · rw [if_neg h1, List.take_append, List.take_of_length_le (by omega), show most.toNat - out.length = 0 by omega, List.take_zero, List.append_nil]
end Seek
end Go.Proofs.Ytikedacnijgloaa.Own.G
