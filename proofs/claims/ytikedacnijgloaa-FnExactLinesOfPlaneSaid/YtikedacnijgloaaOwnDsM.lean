/- Difference sets in plain words: how often each difference is made; a set that makes one too often is part of no difference set; no condition. -/
import Derived.Test.YtikedacnijgloaaOwnCircE
import Derived.Test.YtikedacnijgloaaOwnSeekT
namespace Go.Proofs.Ytikedacnijgloaa.Own.G
open Go.RowKit Go.Proofs.YtikedacnijgloaaW.PrintWords Go.Proofs.YtikedacnijgloaaW.PrintLast Go.Proofs.YtikedacnijgloaaW.PrintMore
set_option linter.unusedVariables false
theorem rd_bump' {o : List Int} {d : Int} {k : Nat} (hk : k < o.length) : rd (bump o d) (k : Int) = rd o (k : Int) + if d.toNat = k then 1 else 0 := by
  rw [bump, rd_get (by rw [List.length_set]; exact hk), List.getElem_set, rd_get hk]
  split
  · rename_i h
    subst h
    have : rd o d = o[d.toNat] := by
      show o.getD d.toNat 0 = _
      rw [List.getD_eq_getElem?_getD, List.getElem?_eq_getElem hk]
      rfl
    rw [this]
  · omega
/-- Which difference the points i and j make. -/
def dif (v : Int) (l : List Int) (i j : Nat) : Nat := (Int.tmod (rd l (i : Int) - rd l (j : Int) + v) v).toNat
def rowN (v : Int) (l : List Int) (d i : Nat) : Nat → Nat
  | 0 => 0
  | j + 1 => rowN v l d i j + if i ≠ j ∧ dif v l i j = d then 1 else 0
def allN (v : Int) (l : List Int) (d m : Nat) : Nat → Nat
  | 0 => 0
  | i + 1 => allN v l d m i + rowN v l d i m
theorem rd_cinner (v : Int) (l : List Int) (i : Nat) {o : List Int} {d : Nat} (hd : d < o.length) (j : Nat) : rd (cinner l v (rd l (i : Int)) i j o) (d : Int) = rd o (d : Int) + (rowN v l d i j : Int) := by
  induction j with
  | zero => simp [cinner, rowN]
  | succ j ih =>
    rw [cinner, rowN]
    by_cases h : i = j
    · rw [if_pos h, ih, if_neg (fun h2 => h2.1 h)]; omega
    · rw [if_neg h, rd_bump' (by rw [cinner_length]; exact hd), ih, show (Int.tmod (rd l (i : Int) - rd l (j : Int) + v) v).toNat = dif v l i j from rfl]
      by_cases h3 : dif v l i j = d
      · rw [if_pos h3, if_pos ⟨h, h3⟩]; omega
      · rw [if_neg h3, if_neg (fun h2 => h3 h2.2)]; omega
theorem rd_cadd (v : Int) (l : List Int) {o : List Int} {d : Nat} (hd : d < o.length) (i : Nat) : rd (cadd l v i o) (d : Int) = rd o (d : Int) + (allN v l d l.length i : Int) := by
  induction i with
  | zero => simp [cadd, allN]
  | succ i ih =>
    rw [cadd, allN, rd_cinner v l i (by rw [cadd_length]; exact hd), ih]
    omega
theorem rd_counted (v : Int) (l : List Int) {d : Nat} (hd : d < v.toNat) : rd (counted v l) (d : Int) = (allN v l d l.length l.length : Int) := by
  rw [counted, rd_cadd v l (by rw [List.length_replicate]; exact hd), rd_replicate]
  omega
theorem dif_left {v : Int} {l r : List Int} {i j : Nat} (hi : i < l.length) (hj : j < l.length) : dif v (l ++ r) i j = dif v l i j := by
  unfold dif
  rw [rd_append_left hi, rd_append_left hj]
theorem rowN_left {v : Int} {l r : List Int} {d i : Nat} (hi : i < l.length) {j : Nat} (hj : j ≤ l.length) : rowN v (l ++ r) d i j = rowN v l d i j := by
  induction j with
  | zero => rfl
  | succ j ih => rw [rowN, rowN, ih (by omega), dif_left hi (by omega)]
theorem rowN_mono (v : Int) (l : List Int) (d i : Nat) {j k : Nat} (h : j ≤ k) : rowN v l d i j ≤ rowN v l d i k := by
  induction k with
  | zero => rw [show j = 0 by omega]; exact Nat.le_refl _
  | succ k ih =>
    rcases Nat.lt_or_ge j (k + 1) with h2 | h2
    · have := ih (by omega); rw [rowN]; omega
    · rw [show j = k + 1 by omega]; exact Nat.le_refl _
theorem allN_left {v : Int} {l r : List Int} {d : Nat} {i m : Nat} (hm : l.length ≤ m) (hi : i ≤ l.length) : allN v l d l.length i ≤ allN v (l ++ r) d m i := by
  induction i with
  | zero => exact Nat.le_refl _
  | succ i ih =>
    have := ih (by omega)
    have h2 := rowN_mono v (l ++ r) d i hm
    rw [rowN_left (by omega) (Nat.le_refl _)] at h2
    rw [allN, allN]
    omega
theorem allN_mono (v : Int) (l : List Int) (d m : Nat) {i k : Nat} (h : i ≤ k) : allN v l d m i ≤ allN v l d m k := by
  induction k with
  | zero => rw [show i = 0 by omega]; exact Nat.le_refl _
  | succ k ih =>
    rcases Nat.lt_or_ge i (k + 1) with h2 | h2
    · have := ih (by omega); rw [allN]; omega
    · rw [show i = k + 1 by omega]; exact Nat.le_refl _
/-- A set makes each difference at least as often as its beginning. -/
theorem counted_left (v : Int) (l r : List Int) {d : Nat} (hd : d < v.toNat) : rd (counted v l) (d : Int) ≤ rd (counted v (l ++ r)) (d : Int) := by
  rw [rd_counted v l hd, rd_counted v (l ++ r) hd]
  have h1 := allN_left (v := v) (l := l) (r := r) (d := d) (m := (l ++ r).length) (by rw [List.length_append]; omega) (Nat.le_refl _)
  have h2 := allN_mono v (l ++ r) d (l ++ r).length (show l.length ≤ (l ++ r).length by rw [List.length_append]; omega)
  omega
/-- Points of a circle that rise. -/
def Up (v : Int) (l : List Int) : Prop := (∀ x ∈ l, 0 ≤ x ∧ x < v) ∧ l.Pairwise (· < ·)
theorem Up_rd {v : Int} {l : List Int} (h : Up v l) {i : Nat} (hi : i < l.length) : 0 ≤ rd l (i : Int) ∧ rd l (i : Int) < v := h.1 _ (rd_mem hi)
theorem Up_ne {v : Int} {l : List Int} (h : Up v l) {i j : Nat} (hi : i < l.length) (hj : j < l.length) (hij : i ≠ j) : rd l (i : Int) ≠ rd l (j : Int) := by
  have hp := List.pairwise_iff_getElem.mp h.2
  rw [rd_get hi, rd_get hj]
  rcases Nat.lt_or_ge i j with h1 | h1
  · have := hp i j hi hj h1; omega
  · have := hp j i hj hi (by omega); omega
theorem dif_ne {v : Int} {l : List Int} (h : Up v l) {i j : Nat} (hi : i < l.length) (hj : j < l.length) (hij : i ≠ j) : dif v l i j ≠ 0 := by
  have h1 := Up_rd h hi
  have h2 := Up_rd h hj
  have h3 := Up_ne h hi hj hij
  unfold dif
  generalize rd l (i : Int) = x at *
  generalize rd l (j : Int) = y at *
  rw [Int.tmod_eq_emod_of_nonneg (by omega)]
  rcases (show x < y ∨ y ≤ x by omega) with h4 | h4
  · rw [Int.emod_eq_of_lt (by omega) (by omega)]; omega
  · rw [show x - y + v = (x - y) + v by omega, Int.add_emod_right, Int.emod_eq_of_lt (by omega) (by omega)]; omega
theorem rowN_zero {v : Int} {l : List Int} (h : Up v l) {i : Nat} (hi : i < l.length) {j : Nat} (hj : j ≤ l.length) : rowN v l 0 i j = 0 := by
  induction j with
  | zero => rfl
  | succ j ih => rw [rowN, ih (by omega), if_neg (fun h2 => dif_ne h hi (by omega) h2.1 h2.2)]
theorem counted_zero {v : Int} {l : List Int} (h : Up v l) (hv : 2 ≤ v) : rd (counted v l) 0 = 0 := by
  have h1 := rd_counted v l (d := 0) (by omega)
  have h2 : ∀ i : Nat, i ≤ l.length → allN v l 0 l.length i = 0 := fun i hi => by
    induction i with
    | zero => rfl
    | succ i ih => rw [allN, ih (by omega), rowN_zero h (by omega) (Nat.le_refl _)]
  rw [h2 _ (Nat.le_refl _)] at h1
  exact h1
theorem sum_set (o : List Int) (i : Nat) (x : Int) (hi : i < o.length) : (o.set i x).sum = o.sum - rd o (i : Int) + x := by
  induction o generalizing i with
  | nil => simp at hi
  | cons a o ih =>
    cases i with
    | zero => have e : rd (a :: o) ((0 : Nat) : Int) = a := rfl; rw [List.set_cons_zero, List.sum_cons, List.sum_cons, e]; omega
    | succ i =>
      have e : rd (a :: o) ((i + 1 : Nat) : Int) = rd o (i : Int) := by rw [rd_get hi, rd_get (by simpa using hi)]; simp
      rw [List.set_cons_succ, List.sum_cons, List.sum_cons, ih i (by simpa using hi), e]; omega
theorem bump_sum {o : List Int} {d : Int} (h0 : 0 ≤ d) (h1 : d < (o.length : Int)) : (bump o d).sum = o.sum + 1 := by
  obtain ⟨n, rfl⟩ : ∃ n : Nat, d = (n : Int) := ⟨d.toNat, by omega⟩
  rw [bump, Int.toNat_natCast, sum_set _ _ _ (by omega)]
  omega
theorem cinner_sum {v : Int} {l : List Int} (h : Up v l) (hv : 2 ≤ v) {i : Nat} (hi : i < l.length) {o : List Int} (ho : (o.length : Int) = v) {j : Nat} (hj : j ≤ l.length) : (cinner l v (rd l (i : Int)) i j o).sum = o.sum + (j : Int) - if i < j then 1 else 0 := by
  induction j with
  | zero => simp [cinner]
  | succ j ih =>
    have := ih (by omega)
    rw [cinner]
    by_cases he : i = j
    · rw [if_pos he, this, if_neg (by omega), if_pos (by omega)]; omega
    · have h1 := Up_rd h hi
      have h2 := Up_rd h (show j < l.length by omega)
      have h3 := tmod_in (a := rd l (i : Int) - rd l (j : Int) + v) (v := v) (by omega) (by omega)
      rw [if_neg he, bump_sum h3.1 (by rw [cinner_length, ho]; exact h3.2), this]
      by_cases h4 : i < j
      · rw [if_pos h4, if_pos (by omega)]; omega
      · rw [if_neg h4, if_neg (by omega)]; omega
theorem cadd_sum {v : Int} {l : List Int} (h : Up v l) (hv : 2 ≤ v) {o : List Int} (ho : (o.length : Int) = v) {i : Nat} (hi : i ≤ l.length) : (cadd l v i o).sum = o.sum + (i : Int) * ((l.length : Int) - 1) := by
  induction i with
  | zero => simp [cadd]
  | succ i ih =>
    rw [cadd, cinner_sum h hv (by omega) (by rw [cadd_length]; exact ho) (Nat.le_refl _), ih (by omega), if_pos (by omega), show ((i + 1 : Nat) : Int) = (i : Int) + 1 by omega, Int.add_mul]
    omega
theorem counted_sum {v : Int} {l : List Int} (h : Up v l) (hv : 2 ≤ v) : (counted v l).sum = (l.length : Int) * ((l.length : Int) - 1) := by
  have e : (List.replicate v.toNat (0 : Int)).sum = 0 := by
    induction v.toNat with
    | zero => rfl
    | succ n ih => rw [List.replicate_succ, List.sum_cons, ih]; rfl
  rw [counted, cadd_sum h hv (by rw [List.length_replicate]; omega) (Nat.le_refl _), e]
  omega
theorem sum_flat (t : List Int) (a : Int) (h : Flat t a) : t.sum = (t.length : Int) * a := by
  induction t with
  | nil => simp
  | cons x t ih =>
    have h0 : x = a := h 0 (by simp)
    have h1 : Flat t a := fun j hj => by
      have := h (j + 1) (by simpa using hj)
      rw [rd_get (by simpa using hj)] at this
      rw [rd_get hj]
      simpa using this
    rw [List.sum_cons, ih h1, h0, List.length_cons, show ((t.length + 1 : Nat) : Int) = (t.length : Int) + 1 by omega, Int.add_mul]
    omega
/-- In a set in which all differences are made as often each, that often is what counting says. -/
theorem lam_says {v : Int} {l : List Int} (h : Up v l) (hv : 2 ≤ v) (hl : 0 < lamOf (counted v l)) : Flat ((counted v l).drop 1) (lamOf (counted v l)) ∧ (v - 1) * lamOf (counted v l) = (l.length : Int) * ((l.length : Int) - 1) := by
  have hf : Flat ((counted v l).drop 1) (rd (counted v l) 1) := Classical.byContradiction fun hn => by rw [lamOf_no hn] at hl; omega
  rw [lamOf_yes hf] at hl ⊢
  refine ⟨hf, ?_⟩
  have hs := counted_sum h hv
  have hc : (counted v l).length = v.toNat := counted_length
  have h0 := counted_zero h hv
  have e : counted v l = rd (counted v l) 0 :: (counted v l).drop 1 := by
    have := drop_rd (xs := counted v l) (i := 0) (by omega)
    rw [List.drop_zero] at this
    exact this
  rw [e, List.sum_cons, h0, sum_flat _ _ hf, List.length_drop, hc] at hs
  rw [← hs, show ((v.toNat - 1 : Nat) : Int) = v - 1 by omega]
  omega
/-- The search for difference sets of k points on a circle of v. -/
noncomputable def dsS (v : Nat) : Seek := { n := v, st := fun l => v - (rd l ((l.length : Int) - 1) + 1).toNat, t := fun _ _ => true, o := fun _ => true, q := fun l => tf (0 < lamOf (counted (v : Int) l)), fin := fun l => l }
theorem dsS_st (v : Nat) (l : List Int) : (dsS v).st l ≤ (dsS v).n := Nat.sub_le _ _
theorem Up_snoc {v y : Nat} {l : List Int} (h : Up (v : Int) l) (hl : 1 ≤ l.length) (hy : (dsS v).n - (dsS v).st l ≤ y) (hyv : y < v) : Up (v : Int) (l ++ [(y : Int)]) := by
  have hlast := Up_rd h (show l.length - 1 < l.length by omega)
  rw [show ((l.length - 1 : Nat) : Int) = (l.length : Int) - 1 by omega] at hlast
  have h1 : v - (v - (rd l ((l.length : Int) - 1) + 1).toNat) ≤ y := hy
  have h2 : rd l ((l.length : Int) - 1) < (y : Int) := by omega
  refine ⟨fun x hx => ?_, ?_⟩
  · rcases List.mem_append.mp hx with h3 | h3
    · exact h.1 x h3
    · rw [List.mem_singleton.mp h3]; omega
  · rw [List.pairwise_append]
    refine ⟨h.2, by simp, fun a ha b hb => ?_⟩
    rw [List.mem_singleton.mp hb]
    obtain ⟨i, hi, rfl⟩ := mem_rd ha
    rcases Nat.lt_or_ge i (l.length - 1) with h4 | h4
    · have := List.pairwise_iff_getElem.mp h.2 i (l.length - 1) hi (by omega) h4
      rw [← rd_get hi, ← rd_get (by omega), show ((l.length - 1 : Nat) : Int) = (l.length : Int) - 1 by omega] at this
      omega
    · rw [show ((i : Nat) : Int) = (l.length : Int) - 1 by omega]; exact h2
/-- What is found goes on from the beginning, is as long as asked, and is a difference set. -/
theorem ds_found (v : Nat) : ∀ (f : Nat) (l : List Int), Up (v : Int) l → 1 ≤ l.length → ∀ x ∈ (dsS v).lv f l, (∃ r, x = l ++ r ∧ r.length = f) ∧ Up (v : Int) x ∧ 0 < lamOf (counted (v : Int) x) := by
  intro f
  induction f with
  | zero =>
    intro l h hl x hx
    have e : (dsS v).lv 0 l = if (dsS v).q l = true then [l] else [] := rfl
    rw [e] at hx
    split at hx
    · rename_i hq
      rw [List.mem_singleton.mp hx]
      exact ⟨⟨[], by simp, rfl⟩, h, tf_iff.mp hq⟩
    · cases hx
  | succ f ih =>
    intro l h hl x hx
    obtain ⟨y, h1, h2, _, h5⟩ := ((dsS v).lvL_mem (dsS_st v l)).mp (show x ∈ (dsS v).lvL ((dsS v).lv f) l ((dsS v).st l) from hx)
    obtain ⟨⟨r, hr, hrl⟩, h6, h7⟩ := ih _ (Up_snoc h hl h1 h2) (by simp) x h5
    exact ⟨⟨(y : Int) :: r, by rw [hr, List.append_assoc]; rfl, by simp [hrl]⟩, h6, h7⟩
/-- Some difference is made more often than lam. -/
def Over (v lam : Int) (l : List Int) : Prop := ∃ d : Nat, d < v.toNat ∧ lam < rd (counted v l) (d : Int)
theorem ds_over {v : Nat} {lam : Int} {f k : Nat} {l : List Int} (hv : 2 ≤ v) (hlam : 1 ≤ lam) (hk : ((v : Int) - 1) * lam = (k : Int) * ((k : Int) - 1)) (h : Up (v : Int) l) (hl : 1 ≤ l.length) (hf : l.length + f = k) (ho : Over (v : Int) lam l) : (dsS v).lv f l = [] := by
  rw [List.eq_nil_iff_forall_not_mem]
  intro x hx
  obtain ⟨⟨r, hr, hrl⟩, h6, h7⟩ := ds_found v f l h hl x hx
  obtain ⟨d, hd, ho⟩ := ho
  obtain ⟨h8, h9⟩ := lam_says h6 (by omega) h7
  have hxk : (x.length : Int) = (k : Int) := by rw [hr, List.length_append]; omega
  rw [hxk, ← hk] at h9
  have h10 : lamOf (counted (v : Int) x) = lam := Int.eq_of_mul_eq_mul_left (by omega) h9
  have h11 := counted_left (v : Int) l r hd
  rw [← hr] at h11
  rcases Nat.eq_zero_or_pos d with h0 | h0
  · subst h0
    have := counted_zero h6 (by omega)
    have e : ((0 : Nat) : Int) = 0 := rfl
    rw [e] at h11 ho
    omega
  · have h12 := h8 (d - 1) (by rw [List.length_drop, counted_length]; omega)
    have hlen : d < (counted (v : Int) x).length := by rw [counted_length]; exact hd
    have e : rd ((counted (v : Int) x).drop 1) ((d - 1 : Nat) : Int) = rd (counted (v : Int) x) (d : Int) := by
      rw [rd_get (by rw [List.length_drop]; omega), rd_get hlen, List.getElem_drop]
      congr 1
      omega
    rw [e, h10] at h12
    omega
theorem ds_leaf {v k : Nat} {lam : Int} {l : List Int} (hv : 2 ≤ v) (hlam : 1 ≤ lam) (hk : ((v : Int) - 1) * lam = (k : Int) * ((k : Int) - 1)) (h : Up (v : Int) l) (hl : l.length = k) : lamOf (counted (v : Int) l) = lam ↔ 0 < lamOf (counted (v : Int) l) := by
  constructor
  · intro h1; omega
  · intro h1
    have h9 := (lam_says h (by omega) h1).2
    rw [hl, ← hk] at h9
    exact Int.eq_of_mul_eq_mul_left (by omega) h9
/-- The reference's search with f points left. -/
noncomputable def cF (v : Nat) (lam : Int) : Nat → List Int → Int → List (List Int)
  | 0, l, _ => if lamOf (counted (v : Int) l) = lam then [l] else []
  | f + 1, l, most => if tf (Over (v : Int) lam l) = true then [] else (dsS v).tkL (cF v lam f) l most ((dsS v).st l) []
theorem cF_eq {v k : Nat} {lam : Int} (hv : 2 ≤ v) (hlam : 1 ≤ lam) (hk : ((v : Int) - 1) * lam = (k : Int) * ((k : Int) - 1)) : ∀ (f : Nat) (l : List Int) (most : Int), Up (v : Int) l → 1 ≤ l.length → l.length + f = k → 1 ≤ most → cF v lam f l most = ((dsS v).lv f l).take most.toNat := by
  intro f
  induction f with
  | zero =>
    intro l most h hl hf hm
    have e : (dsS v).lv 0 l = if (dsS v).q l = true then [l] else [] := rfl
    rw [cF, e]
    by_cases h1 : 0 < lamOf (counted (v : Int) l)
    · rw [if_pos ((ds_leaf hv hlam hk h (by omega)).mpr h1), if_pos (show (dsS v).q l = true from tf_pos h1), List.take_of_length_le (by simp; omega)]
    · rw [if_neg (fun h2 => h1 ((ds_leaf hv hlam hk h (by omega)).mp h2)), if_neg (show ¬ (dsS v).q l = true from fun h2 => h1 (tf_iff.mp h2))]
      simp
  | succ f ih =>
    intro l most h hl hf hm
    rw [cF]
    by_cases h1 : Over (v : Int) lam l
    · rw [if_pos (tf_pos h1), ds_over hv hlam hk h hl hf h1]; simp
    · rw [if_neg (by rw [tf_neg h1]; decide), (dsS v).tkL_eq (h := (dsS v).lv f) l most _ [] (fun e he1 he2 m hm1 _ => ?_) (by simp; omega), List.nil_append]
      · rfl
      · have hst := dsS_st v l
        have hu : Up (v : Int) (l ++ [(((dsS v).n - e : Nat) : Int)]) := Up_snoc h hl (by omega) (by show v - e < v; omega)
        exact ih _ m hu (by simp) (by rw [List.length_append, List.length_singleton]; omega) hm1
end Go.Proofs.Ytikedacnijgloaa.Own.G
