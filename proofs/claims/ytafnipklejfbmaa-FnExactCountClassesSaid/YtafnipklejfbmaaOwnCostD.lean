/- All Costas dots of n, in plain words: what the reference's search and the program's search find is the same; n up to 7 (the first ones: up to 9). -/
import Derived.Test.YtafnipklejfbmaaOwnCostC
namespace Go.Proofs.Ytafnipklejfbmaa.Own.G
open Go.RowKit Go.Proofs.YtafnipklejfbmaaW.PrintWords Go.Proofs.YtafnipklejfbmaaW.PrintLast Go.Proofs.YtafnipklejfbmaaW.PrintMore
set_option linter.unusedVariables false
/-- The reference's loop over the next dot: d are left; out is what was found. -/
def dL (g : List Int → Int → List (List Int)) (n : Nat) (l : List Int) (most : Int) : Nat → List (List Int) → List (List Int)
  | 0, out => out
  | d + 1, out => if (out.length : Int) < most then (if ((n - (d + 1) : Nat) : Int) ∈ l then dL g n l most d out else if costasB (l ++ [((n - (d + 1) : Nat) : Int)]) = true then dL g n l most d (out ++ g (l ++ [((n - (d + 1) : Nat) : Int)]) (most - (out.length : Int))) else dL g n l most d out) else out
/-- The reference's search with f dots left. -/
def dF (n : Nat) : Nat → List Int → Int → List (List Int)
  | 0, l, _ => [l]
  | f + 1, l, most => dL (dF n f) n l most n []
/-- What is found, in order. -/
def lvL (g : List Int → List (List Int)) (n : Nat) (l : List Int) : Nat → List (List Int)
  | 0 => []
  | d + 1 => (if ((n - (d + 1) : Nat) : Int) ∈ l then [] else if costasB (l ++ [((n - (d + 1) : Nat) : Int)]) = true then g (l ++ [((n - (d + 1) : Nat) : Int)]) else []) ++ lvL g n l d
def lv (n : Nat) : Nat → List Int → List (List Int)
  | 0, l => [l]
  | f + 1, l => lvL (lv n f) n l n
theorem goL_all {n : Nat} {g : List Int → List (List Int)} {h : List Int → List (List Int) → List (List Int) × Bool} (hg : ∀ l s, h l s = (s ++ g l, false)) (l : List Int) : ∀ (d : Nat) (s : List (List Int)), goL h n l d s = (s ++ lvL g n l d, false) := by
  intro d
  induction d with
  | zero => intro s; simp [goL, lvL]
  | succ d ih =>
    intro s
    rw [goL, lvL, hg]
    split
    · rw [ih, List.nil_append]
    · split
      · rw [if_neg (by simp), ih, List.append_assoc]
      · rw [ih, List.nil_append]
theorem goAll_eq (n : Nat) : ∀ (f : Nat) (l : List Int) (s : List (List Int)), goAll n f l s = (s ++ lv n f l, false) := by
  intro f
  induction f with
  | zero => intro l s; rfl
  | succ f ih => intro l s; exact goL_all ih l n s
def firstOf (s : List Int) : List (List Int) → List Int × Bool
  | [] => (s, false)
  | x :: _ => (x, true)
theorem goL_first {n : Nat} {g : List Int → List (List Int)} {h : List Int → List Int → List Int × Bool} (hg : ∀ l s, h l s = firstOf s (g l)) (l : List Int) : ∀ (d : Nat) (s : List Int), goL h n l d s = firstOf s (lvL g n l d) := by
  intro d
  induction d with
  | zero => intro s; rfl
  | succ d ih =>
    intro s
    rw [goL, lvL, hg]
    split
    · rw [ih, List.nil_append]
    · split
      · cases hx : g (l ++ [((n - (d + 1) : Nat) : Int)]) with
        | nil => rw [if_neg (by simp [firstOf]), List.nil_append]; exact ih s
        | cons x xs => rw [if_pos (by simp [firstOf])]; rfl
      · rw [ih, List.nil_append]
theorem goFirst_eq (n : Nat) : ∀ (f : Nat) (l : List Int) (s : List Int), goFirst n f l s = firstOf s (lv n f l) := by
  intro f
  induction f with
  | zero => intro l s; rfl
  | succ f ih => intro l s; exact goL_first ih l n s
theorem dL_eq {n : Nat} {g : List Int → List (List Int)} {h : List Int → Int → List (List Int)} (hg : ∀ l (m : Int), 1 ≤ m → h l m = (g l).take m.toNat) (l : List Int) (most : Int) : ∀ (d : Nat) (out : List (List Int)), (out.length : Int) ≤ most → dL h n l most d out = (out ++ lvL g n l d).take most.toNat := by
  intro d
  induction d with
  | zero => intro out ho; rw [dL, lvL, List.append_nil, List.take_of_length_le (by omega)]
  | succ d ih =>
    intro out ho
    rw [dL, lvL]
    by_cases h1 : (out.length : Int) < most
    · rw [if_pos h1]
      split
      · rw [ih out ho, List.nil_append]
      · split
        · rw [hg _ _ (by omega), ih _ (by rw [List.length_append, List.length_take]; omega)]
          rw [← List.append_assoc, List.take_append, List.take_append (l₁ := out ++ _) (l₂ := lvL g n l d)]
          generalize g (l ++ [((n - (d + 1) : Nat) : Int)]) = x
          have e1 : (out ++ List.take (most - (out.length : Int)).toNat x).take most.toNat = (out ++ x).take most.toNat := by
            rw [List.take_append, List.take_append, List.take_take, show min (most.toNat - out.length) (most - (out.length : Int)).toNat = most.toNat - out.length by omega]
          rw [e1]
          congr 1
          rcases Nat.le_total x.length (most.toNat - out.length) with h2 | h2
          · rw [List.take_of_length_le (by omega : x.length ≤ (most - (out.length : Int)).toNat)]
          · rw [show most.toNat - (out ++ List.take (most - (out.length : Int)).toNat x).length = 0 by rw [List.length_append, List.length_take]; omega, show most.toNat - (out ++ x).length = 0 by rw [List.length_append]; omega]
        · rw [ih out ho, List.nil_append]
    · rw [if_neg h1, List.take_append, List.take_of_length_le (by omega), show most.toNat - out.length = 0 by omega, List.take_zero, List.append_nil]
theorem dF_eq (n : Nat) : ∀ (f : Nat) (l : List Int) (most : Int), 1 ≤ most → dF n f l most = (lv n f l).take most.toNat := by
  intro f
  induction f with
  | zero => intro l most hm; rw [dF, lv, List.take_of_length_le (by simp; omega)]
  | succ f ih => intro l most hm; rw [dF, dL_eq ih l most n [] (by simp; omega), List.nil_append]; rfl
theorem lvL_len {n : Nat} {g : List Int → List (List Int)} {m : Nat} (hg : ∀ l, (g l).length ≤ m) (l : List Int) (d : Nat) : (lvL g n l d).length ≤ d * m := by
  induction d with
  | zero => simp [lvL]
  | succ d ih =>
    rw [lvL, List.length_append, Nat.succ_mul]
    have := hg (l ++ [((n - (d + 1) : Nat) : Int)])
    split
    · rw [List.length_nil]; omega
    · split
      · omega
      · rw [List.length_nil]; omega
theorem lv_len (n : Nat) : ∀ (f : Nat) (l : List Int), (lv n f l).length ≤ n ^ f := by
  intro f
  induction f with
  | zero => intro l; simp [lv]
  | succ f ih => intro l; rw [Nat.pow_succ, Nat.mul_comm]; exact lvL_len ih l n
theorem lvL_mem {n : Nat} {g : List Int → List (List Int)} {l x : List Int} {d : Nat} (hd : d ≤ n) : x ∈ lvL g n l d ↔ ∃ y : Nat, n - d ≤ y ∧ y < n ∧ (y : Int) ∉ l ∧ costasB (l ++ [(y : Int)]) = true ∧ x ∈ g (l ++ [(y : Int)]) := by
  induction d with
  | zero => simp only [lvL, List.not_mem_nil, false_iff]; rintro ⟨y, h1, h2, _⟩; omega
  | succ d ih =>
    rw [lvL, List.mem_append, ih (by omega)]
    constructor
    · rintro (h | ⟨y, h1, h2⟩)
      · split at h
        · cases h
        · split at h
          · rename_i h3 h4
            exact ⟨n - (d + 1), Nat.le_refl _, by omega, h3, h4, h⟩
          · cases h
      · exact ⟨y, by omega, h2⟩
    · rintro ⟨y, h1, h2, h3, h4, h5⟩
      rcases Nat.eq_or_lt_of_le h1 with h6 | h6
      · subst h6
        rw [if_neg h3, if_pos h4]
        exact .inl h5
      · exact .inr ⟨y, by omega, h2, h3, h4, h5⟩
/-- Numbers below n, all different. -/
def Fine (n : Nat) (l : List Int) : Prop := l.Nodup ∧ ∀ x ∈ l, 0 ≤ x ∧ x < (n : Int)
theorem Fine_snoc {n y : Nat} {l : List Int} (h : Fine n l) (hy : y < n) (hn : (y : Int) ∉ l) : Fine n (l ++ [(y : Int)]) := by
  refine ⟨?_, fun x hx => ?_⟩
  · rw [List.nodup_append]
    refine ⟨h.1, by simp, fun a ha b hb => ?_⟩
    rw [List.mem_singleton.mp hb]
    rintro rfl
    exact hn ha
  · rcases List.mem_append.mp hx with h1 | h1
    · exact h.2 x h1
    · rw [List.mem_singleton.mp h1]; omega
theorem lv_fine (n : Nat) : ∀ (f : Nat) (l : List Int), Fine n l → ∀ x ∈ lv n f l, Fine n x ∧ x.length = l.length + f := by
  intro f
  induction f with
  | zero => intro l h x hx; rw [lv, List.mem_singleton] at hx; subst hx; exact ⟨h, rfl⟩
  | succ f ih =>
    intro l h x hx
    obtain ⟨y, _, h2, h3, _, h5⟩ := (lvL_mem (Nat.le_refl n)).mp hx
    obtain ⟨h6, h7⟩ := ih _ (Fine_snoc h h2 h3) x h5
    exact ⟨h6, by rw [h7, List.length_append, List.length_singleton]; omega⟩
theorem lv_wit (n : Nat) : ∀ (f : Nat) (l w : List Int), w.length = f → (∀ i : Nat, i < f → costasB (l ++ w.take (i + 1)) = true ∧ (0 ≤ rd w (i : Int) ∧ rd w (i : Int) < (n : Int)) ∧ rd w (i : Int) ∉ l ++ w.take i) → l ++ w ∈ lv n f l := by
  intro f
  induction f with
  | zero =>
    intro l w hw _
    rw [List.eq_nil_of_length_eq_zero hw, List.append_nil, lv]
    exact List.mem_singleton.mpr rfl
  | succ f ih =>
    intro l w hw h
    match w, hw with
    | y :: w, hw =>
      obtain ⟨h1, h2, h3⟩ := h 0 (by omega)
      have e0 : rd (y :: w) ((0 : Nat) : Int) = y := rfl
      rw [e0] at h2 h3
      rw [List.take_zero, List.append_nil] at h3
      rw [List.take_succ_cons, List.take_zero] at h1
      obtain ⟨m, rfl⟩ : ∃ m : Nat, (m : Int) = y := ⟨y.toNat, by omega⟩
      refine (lvL_mem (Nat.le_refl n)).mpr ⟨m, by omega, by omega, h3, h1, ?_⟩
      have := ih (l ++ [(m : Int)]) w (by simpa using hw) (fun i hi => by
        obtain ⟨a1, a2, a3⟩ := h (i + 1) (by omega)
        have e1 : rd ((m : Int) :: w) ((i + 1 : Nat) : Int) = rd w (i : Int) := by
          rw [rd_get (by simp at hw; simp; omega), rd_get (by simp at hw; omega)]
          simp
        rw [e1] at a2 a3
        rw [List.take_succ_cons] at a1 a3
        refine ⟨by rwa [List.append_assoc], a2, by rwa [List.append_assoc]⟩)
      rwa [List.append_assoc] at this
def wits : List (List Int) := [[0], [0, 1], [0, 2, 1], [0, 1, 3, 2], [0, 2, 3, 1, 4], [0, 1, 4, 3, 5, 2], [0, 1, 5, 3, 6, 2, 4], [0, 1, 4, 6, 5, 3, 7, 2], [0, 1, 5, 3, 8, 7, 4, 6, 2]]
theorem wits_fin : ∀ k : Fin 9, (wits.getD k.val []).length = k.val + 1 ∧ ∀ i : Nat, i < k.val + 1 → costasB ([] ++ (wits.getD k.val []).take (i + 1)) = true ∧ (0 ≤ rd (wits.getD k.val []) (i : Int) ∧ rd (wits.getD k.val []) (i : Int) < ((k.val + 1 : Nat) : Int)) ∧ rd (wits.getD k.val []) (i : Int) ∉ [] ++ (wits.getD k.val []).take i := by decide +kernel
theorem lv_some {n : Nat} (h1 : 1 ≤ n) (h9 : n ≤ 9) : lv n n [] ≠ [] := by
  obtain ⟨a, b⟩ := wits_fin ⟨n - 1, by omega⟩
  simp only [show n - 1 + 1 = n by omega] at a b
  have := lv_wit n n [] _ a b
  intro e
  rw [e] at this
  cases this
def allR (n : Nat) : List (List Int) := lv n n []
def firstR (n : Nat) : List Int := (lv n n []).headD []
theorem firstR_take {n : Nat} (h1 : 1 ≤ n) (h9 : n ≤ 9) : (lv n n []).take 1 = [firstR n] := by
  unfold firstR
  cases h : lv n n [] with
  | nil => exact absurd h (lv_some h1 h9)
  | cons x xs => rfl
theorem firstR_mem {n : Nat} (h1 : 1 ≤ n) (h9 : n ≤ 9) : firstR n ∈ lv n n [] := by
  unfold firstR
  cases h : lv n n [] with
  | nil => exact absurd h (lv_some h1 h9)
  | cons x xs => simp
theorem firstR_go {n : Nat} (h1 : 1 ≤ n) (h9 : n ≤ 9) : goFirst n n [] [] = (firstR n, true) := by
  rw [goFirst_eq]
  unfold firstR
  cases h : lv n n [] with
  | nil => exact absurd h (lv_some h1 h9)
  | cons x xs => rfl
theorem Fine_nil (n : Nat) : Fine n [] := ⟨by simp, fun x hx => by cases hx⟩
theorem allR_len {n : Nat} (h7 : n ≤ 7) : (allR n).length ≤ 823543 := by
  have h1 := lv_len n n []
  have h2 : n ^ n ≤ 7 ^ 7 := Nat.le_trans (Nat.pow_le_pow_left h7 n) (Nat.pow_le_pow_right (by decide) h7)
  have h3 : (7 : Nat) ^ 7 = 823543 := by decide
  unfold allR
  omega
theorem allR_row {n : Nat} {x : List Int} (hx : x ∈ allR n) : x.length = n := by simpa using (lv_fine n n [] (Fine_nil n) x hx).2
theorem dF_all {n : Nat} (h7 : n ≤ 7) : dF n n [] 1073741824 = allR n := by
  rw [dF_eq n n [] _ (by omega), List.take_of_length_le (by have := allR_len h7; unfold allR at this; omega)]
  rfl
theorem dF_first {n : Nat} (h1 : 1 ≤ n) (h9 : n ≤ 9) : dF n n [] 1 = [firstR n] := by
  rw [dF_eq n n [] _ (by omega)]
  exact firstR_take h1 h9
theorem goAll_all (n : Nat) : goAll n n [] [] = (allR n, false) := by rw [goAll_eq, List.nil_append]; rfl
end Go.Proofs.Ytafnipklejfbmaa.Own.G
