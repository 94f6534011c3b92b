/- Families of circle sets: what the reference's and the program's AreFamily return; lists of at most 1048576 numbers. -/
import Derived.Test.YtpabfibmpannoaaOwnCircE
import Derived.Test.YtpabfibmpannoaaOwnSpineB
namespace Go.Proofs.Ytpabfibmpannoaa.Own.G
open Go.RowKit Go.Proofs.YtpabfibmpannoaaW.PrintWords Go.Proofs.YtpabfibmpannoaaW.PrintLast Go.Proofs.YtpabfibmpannoaaW.PrintMore
set_option linter.unusedVariables false
/-- A row of counts, and the first j of another's added. -/
def addTo (o c : List Int) : Nat → List Int
  | 0 => o
  | j + 1 => (addTo o c j).set j (rd (addTo o c j) (j : Int) + rd c (j : Int))
theorem addTo_length (o c : List Int) (j : Nat) : (addTo o c j).length = o.length := by
  induction j with
  | zero => rfl
  | succ j ih => rw [addTo, List.length_set, ih]
theorem rd_set {o : List Int} {i k : Nat} {x : Int} (hk : k < o.length) : rd (o.set i x) (k : Int) = if i = k then x else rd o (k : Int) := by
  rw [rd_get (by rw [List.length_set]; exact hk), List.getElem_set, rd_get hk]
theorem rd_nat (o : List Int) (d : Int) : rd o d = rd o ((d.toNat : Nat) : Int) := by
  show o.getD d.toNat 0 = o.getD ((d.toNat : Nat) : Int).toNat 0
  rw [Int.toNat_natCast]
theorem rd_bump {o : List Int} {d : Int} {k : Nat} (hk : k < o.length) : rd (bump o d) (k : Int) = rd o (k : Int) + if d.toNat = k then 1 else 0 := by
  rw [bump, rd_set hk]
  split
  · rename_i h
    rw [rd_nat o d, h]
  · omega
theorem addTo_rd (o c : List Int) {k : Nat} (hk : k < o.length) (j : Nat) : rd (addTo o c j) (k : Int) = rd o (k : Int) + if k < j then rd c (k : Int) else 0 := by
  induction j with
  | zero => simp [addTo]
  | succ j ih =>
    rw [addTo, rd_set (by rw [addTo_length]; exact hk)]
    by_cases h : j = k
    · subst h
      rw [if_pos rfl, ih, if_neg (by omega), if_pos (by omega)]
      omega
    · rw [if_neg h, ih]
      by_cases h2 : k < j
      · rw [if_pos h2, if_pos (by omega)]
      · rw [if_neg h2, if_neg (by omega)]
theorem cinner_diff (l : List Int) (v x : Int) (i : Nat) {o z : List Int} (hz : o.length = z.length) {k : Nat} (hk : k < o.length) (j : Nat) : rd (cinner l v x i j o) (k : Int) - rd o (k : Int) = rd (cinner l v x i j z) (k : Int) - rd z (k : Int) := by
  induction j with
  | zero => simp [cinner]
  | succ j ih =>
    rw [cinner, cinner]
    split
    · exact ih
    · rw [rd_bump (by rw [cinner_length]; exact hk), rd_bump (by rw [cinner_length]; omega)]
      omega
theorem cadd_diff (l : List Int) (v : Int) {o z : List Int} (hz : o.length = z.length) {k : Nat} (hk : k < o.length) (i : Nat) : rd (cadd l v i o) (k : Int) - rd o (k : Int) = rd (cadd l v i z) (k : Int) - rd z (k : Int) := by
  induction i with
  | zero => simp [cadd]
  | succ i ih =>
    rw [cadd, cadd]
    have := cinner_diff l v (rd l (i : Int)) i (o := cadd l v i o) (z := cadd l v i z) (by rw [cadd_length, cadd_length]; exact hz) (k := k) (by rw [cadd_length]; exact hk) l.length
    omega
theorem rd_ext {a b : List Int} (hl : a.length = b.length) (h : ∀ k : Nat, k < a.length → rd a (k : Int) = rd b (k : Int)) : a = b := by
  refine List.ext_getElem hl fun i h1 h2 => ?_
  have := h i h1
  rwa [rd_get h1, rd_get h2] at this
theorem addTo_counted {v : Int} {l o : List Int} (ho : o.length = v.toNat) : addTo o (counted v l) (counted v l).length = cadd l v l.length o := by
  refine rd_ext (by rw [addTo_length, cadd_length]) fun k hk => ?_
  rw [addTo_length] at hk
  rw [addTo_rd o _ hk, if_pos (by rw [counted_length]; omega)]
  have := cadd_diff l v (o := o) (z := List.replicate v.toNat 0) (by rw [List.length_replicate]; exact ho) hk l.length
  have h0 : rd (List.replicate v.toNat (0 : Int)) (k : Int) = 0 := by rw [rd_get (by rw [List.length_replicate]; omega), List.getElem_replicate]
  unfold counted
  omega
def FamAt (v : Int) (ss : List (List Int)) (i : Nat) : Prop := Circ v (ss.getD i []) ∧ (ss.getD i []).length = (ss.getD 0 []).length
def Fam (v : Int) (ss : List (List Int)) : Prop := ∀ i : Nat, i < ss.length → FamAt v ss i
def FamAsk (v : Int) (ss : List (List Int)) : Prop := (2 ≤ v ∧ v ≤ 31) ∧ 1 ≤ ss.length ∧ ss.length ≤ 6
noncomputable def FamF (v : Int) (ss : List (List Int)) : Bool × Bool := if tf (FamAsk v ss) = true then (if tf (Fam v ss) = true then (decide (0 < lamOf (csum v ss ss.length)), true) else (false, true)) else (false, false)
theorem FamF_yes {v : Int} {ss : List (List Int)} (h : FamAsk v ss) (h2 : Fam v ss) : FamF v ss = (decide (0 < lamOf (csum v ss ss.length)), true) := by rw [FamF, if_pos (tf_pos h), if_pos (tf_pos h2)]
theorem FamF_bad {v : Int} {ss : List (List Int)} (h : FamAsk v ss) (h2 : ¬ Fam v ss) : FamF v ss = (false, true) := by rw [FamF, if_pos (tf_pos h), if_neg (by rw [tf_neg h2]; decide)]
theorem FamF_no {v : Int} {ss : List (List Int)} (h : ¬ FamAsk v ss) : FamF v ss = (false, false) := if_neg (by rw [tf_neg h]; decide)
theorem Fam_pts {v : Int} {ss : List (List Int)} (h : Fam v ss) : AllPts v ss := fun i hi => ⟨Circ_pts (h i hi).1, (h i hi).1.1.2.1.1⟩
theorem csum_bnd2 {v : Int} {ss : List (List Int)} (hv : 2 ≤ v) {i : Nat} (h : ∀ j : Nat, j < i → FamAt v ss j) : Bnd (64 * (i : Int)) (csum v ss i) := by
  induction i with
  | zero => exact Bnd_zero _
  | succ i ih =>
    have hp := Circ_pts (h i (by omega)).1
    have := cadd_bnd hp (Nat.le_refl _) (o := csum v ss i) (by rw [csum_length]; omega) (ih (fun j hj => h j (by omega)))
    exact Bnd_mono this (by have := hp.2.1; omega)
end Go.Proofs.Ytpabfibmpannoaa.Own.G
