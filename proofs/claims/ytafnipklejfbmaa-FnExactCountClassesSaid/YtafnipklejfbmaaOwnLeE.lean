/- The least of eight images of dots: what the reference's and the program's LeastDots return; lists of at most 1048576 numbers. -/
import Derived.Test.YtafnipklejfbmaaOwnLeD
namespace Go.Proofs.Ytafnipklejfbmaa.Own.G
open Go.RowKit Go.Proofs.YtafnipklejfbmaaW.PrintWords Go.Proofs.YtafnipklejfbmaaW.PrintLast Go.Proofs.YtafnipklejfbmaaW.PrintMore
set_option linter.unusedVariables false
theorem pick_length {x b : List Int} {n : Nat} (hx : x.length = n) (hb : b.length = n) : (pick x b).length = n := by unfold pick; split; exact hx; exact hb
theorem leI_length {n : Nat} : ∀ (g : Nat) (q b : List Int), q.length = n → b.length = n → (leI g q b).length = n := by
  intro g
  induction g with
  | zero => intro q b _ hb; exact hb
  | succ g ih => intro q b hq hb; exact ih _ _ (by rw [turnOf_length]; exact hq) (pick_length (by rw [List.length_reverse, turnOf_length]; exact hq) (pick_length (by rw [turnOf_length]; exact hq) hb))
theorem leastI_length (p : List Int) : (leastI p).length = p.length := leI_length 4 p p rfl rfl
noncomputable def LeastF (l : List Int) : List Int × Bool := if tf (Dots l) = true then (leastI l, true) else ([], false)
theorem LeastF_yes {l : List Int} (h : Dots l) : LeastF l = (leastI l, true) := if_pos (tf_pos h)
theorem LeastF_no {l : List Int} (h : ¬ Dots l) : LeastF l = ([], false) := if_neg (by rw [tf_neg h]; decide)
theorem LeastF_len (l : List Int) (hn : l.length ≤ 1048576) : (LeastF l).1.length ≤ 1048576 := by
  by_cases h : Dots l
  · rw [LeastF_yes h]; show (leastI l).length ≤ _; rw [leastI_length]; exact hn
  · rw [LeastF_no h]; simp
end Go.Proofs.Ytafnipklejfbmaa.Own.G
