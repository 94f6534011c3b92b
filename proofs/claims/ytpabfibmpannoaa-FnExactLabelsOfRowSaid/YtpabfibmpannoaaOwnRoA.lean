/- Skolem rows and the labels that they give, in plain words: the places of a number, the numbers of a row, how many there are; no condition. -/
import Derived.Test.YtpabfibmpannoaaOwnGen
namespace Go.Proofs.Ytpabfibmpannoaa.Own.G
open Go.RowKit Go.Proofs.YtpabfibmpannoaaW.PrintWords Go.Proofs.YtpabfibmpannoaaW.PrintLast Go.Proofs.YtpabfibmpannoaaW.PrintMore
set_option linter.unusedVariables false
/-- The places of x among the first i. -/
def plU (l : List Int) (x : Int) : Nat → List Int
  | 0 => []
  | i + 1 => if rd l (i : Int) = x then plU l x i ++ [(i : Int)] else plU l x i
def plc (l : List Int) (x : Int) : List Int := plU l x l.length
theorem plU_len (l : List Int) (x : Int) (i : Nat) : (plU l x i).length ≤ i := by
  induction i with
  | zero => simp [plU]
  | succ i ih =>
    rw [plU]
    split
    · rw [List.length_append, List.length_singleton]; omega
    · omega
theorem plU_in (l : List Int) (x : Int) (i : Nat) : ∀ y ∈ plU l x i, 0 ≤ y ∧ y < (i : Int) := by
  induction i with
  | zero => intro y hy; cases hy
  | succ i ih =>
    intro y hy
    rw [plU] at hy
    split at hy
    · rcases List.mem_append.mp hy with h | h
      · have := ih y h; omega
      · rw [List.mem_singleton.mp h]; omega
    · have := ih y hy; omega
theorem plU_pos {l : List Int} {x : Int} {i : Nat} : plU l x i ≠ [] ↔ ∃ j : Nat, j < i ∧ rd l (j : Int) = x := by
  induction i with
  | zero => simp [plU]
  | succ i ih =>
    rw [plU]
    split
    · rename_i h
      exact ⟨fun _ => ⟨i, by omega, h⟩, fun _ => by simp⟩
    · rename_i h
      rw [ih]
      constructor
      · rintro ⟨j, hj, e⟩; exact ⟨j, by omega, e⟩
      · rintro ⟨j, hj, e⟩
        refine ⟨j, ?_, e⟩
        rcases Nat.lt_or_ge j i with h2 | h2
        · exact h2
        · rw [show j = i by omega] at e; exact absurd e h
theorem plc_mem {l : List Int} {x : Int} : plc l x ≠ [] ↔ x ∈ l := by
  unfold plc
  rw [plU_pos]
  constructor
  · rintro ⟨j, hj, e⟩; rw [← e]; exact rd_mem hj
  · intro h
    obtain ⟨j, hj, e⟩ := mem_rd h
    exact ⟨j, hj, e⟩
def Good (l : List Int) : Prop := l.length ≤ 40 ∧ ∀ j, 0 ≤ j → j < l.length → 0 ≤ rd l (j : Int) ∧ rd l (j : Int) ≤ 20
def Paired (l : List Int) : Prop := ∀ n : Nat, 1 ≤ n → n ≤ 20 → (plc l (n : Int)).length = 0 ∨ (plc l (n : Int)).length = 2
/-- The numbers of 1 to n that stand in a row. -/
noncomputable def numsU (l : List Int) : Nat → List Int
  | 0 => []
  | n + 1 => if tf (((n + 1 : Nat) : Int) ∈ l) = true then numsU l n ++ [((n + 1 : Nat) : Int)] else numsU l n
theorem numsU_yes {l : List Int} {n : Nat} (h : ((n + 1 : Nat) : Int) ∈ l) : numsU l (n + 1) = numsU l n ++ [((n + 1 : Nat) : Int)] := if_pos (tf_pos h)
theorem numsU_no {l : List Int} {n : Nat} (h : ¬ ((n + 1 : Nat) : Int) ∈ l) : numsU l (n + 1) = numsU l n := if_neg (by rw [tf_neg h]; decide)
theorem numsU_len (l : List Int) (n : Nat) : (numsU l n).length ≤ n := by
  induction n with
  | zero => simp [numsU]
  | succ n ih =>
    by_cases h : ((n + 1 : Nat) : Int) ∈ l
    · rw [numsU_yes h, List.length_append, List.length_singleton]; omega
    · rw [numsU_no h]; omega
theorem numsU_mem (l : List Int) (n : Nat) (x : Int) : x ∈ numsU l n ↔ 1 ≤ x ∧ x ≤ (n : Int) ∧ x ∈ l := by
  induction n with
  | zero => simp [numsU]; omega
  | succ n ih =>
    by_cases h : ((n + 1 : Nat) : Int) ∈ l
    · rw [numsU_yes h, List.mem_append, ih, List.mem_singleton]
      constructor
      · rintro (⟨a, b, c⟩ | rfl)
        · exact ⟨a, by omega, c⟩
        · exact ⟨by omega, Int.le_refl _, h⟩
      · rintro ⟨a, b, c⟩
        rcases (show (n : Int) < x ∨ x ≤ (n : Int) by omega) with h2 | h2
        · exact .inr (by omega)
        · exact .inl ⟨a, h2, c⟩
    · rw [numsU_no h, ih]
      constructor
      · rintro ⟨a, b, c⟩; exact ⟨a, by omega, c⟩
      · rintro ⟨a, b, c⟩
        refine ⟨a, ?_, c⟩
        rcases (show (n : Int) < x ∨ x ≤ (n : Int) by omega) with h2 | h2
        · exact absurd (show ((n + 1 : Nat) : Int) ∈ l by rw [show ((n + 1 : Nat) : Int) = x by omega]; exact c) h
        · exact h2
noncomputable def nums (l : List Int) : List Int := numsU l 20
def FitsL (l : List Int) : Prop := ∀ n : Nat, 1 ≤ n → n ≤ 20 → (plc l (n : Int)).length = 2 → rd (plc l (n : Int)) 1 - rd (plc l (n : Int)) 0 = (n : Int)
def FromL (d : Int) (xs : List Int) : Prop := ∀ j, 0 ≤ j → j < xs.length → rd xs (j : Int) = d + (j : Int)
def Skol (l : List Int) : Prop := FitsL l ∧ (FromL 1 (nums l) ∧ 0 < (nums l).length) ∧ (plc l 0).length = 0
def SkOk (l : List Int) : Prop := (Good l ∧ Paired l) ∧ Skol l
def labO (l : List Int) : Nat → List Int
  | 0 => []
  | m + 1 => labO l m ++ plc l ((m + 1 : Nat) : Int)
noncomputable def LabF (l : List Int) : List Int × Bool := if tf (SkOk l) = true then (labO l (l.length / 2), true) else ([], false)
theorem LabF_yes {l : List Int} (h : SkOk l) : LabF l = (labO l (l.length / 2), true) := if_pos (tf_pos h)
theorem LabF_no {l : List Int} (h : ¬ SkOk l) : LabF l = ([], false) := if_neg (by rw [tf_neg h]; decide)
/-- What the program's skolem returns. -/
noncomputable def skN (l : List Int) : Int := if tf (((Good l ∧ Paired l) ∧ FitsL l ∧ (plc l 0).length = 0) ∧ FromL 1 (nums l)) = true then ((nums l).length : Int) else 0
theorem skN_ok {l : List Int} (h : SkOk l) : skN l = ((nums l).length : Int) := if_pos (tf_pos ⟨⟨h.1, h.2.1, h.2.2.2⟩, h.2.2.1.1⟩)
theorem skN_bad {l : List Int} (h : ¬ SkOk l) : skN l = 0 := by
  unfold skN
  by_cases hq : ((Good l ∧ Paired l) ∧ FitsL l ∧ (plc l 0).length = 0) ∧ FromL 1 (nums l)
  · rw [if_pos (tf_pos hq)]
    have h0 : ¬ 0 < (nums l).length := fun h2 => h ⟨hq.1.1, hq.1.2.1, ⟨hq.2, h2⟩, hq.1.2.2⟩
    omega
  · rw [if_neg (by rw [tf_neg hq]; decide)]
/-! ### Counting -/
def sm (f : Nat → Nat) : Nat → Nat
  | 0 => 0
  | k + 1 => sm f k + f k
theorem sm_same {f g : Nat → Nat} : ∀ k : Nat, (∀ n, n < k → g n = f n) → sm g k = sm f k := by
  intro k
  induction k with
  | zero => intro _; rfl
  | succ k ih => intro h; rw [sm, sm, ih (fun n hn => h n (by omega)), h k (by omega)]
theorem sm_one {f g : Nat → Nat} {p : Nat} : ∀ k : Nat, p < k → g p = f p + 1 → (∀ n, n < k → n ≠ p → g n = f n) → sm g k = sm f k + 1 := by
  intro k
  induction k with
  | zero => intro h; omega
  | succ k ih =>
    intro hp h1 h2
    rw [sm, sm]
    by_cases e : p = k
    · subst e
      rw [sm_same p (fun n hn => h2 n (by omega) (by omega)), h1]
      omega
    · rw [ih (by omega) h1 (fun n hn hne => h2 n (by omega) hne), h2 k (by omega) (fun e2 => e e2.symm)]
      omega
theorem sm_places {l : List Int} (h : ∀ j, 0 ≤ j → j < l.length → 0 ≤ rd l (j : Int) ∧ rd l (j : Int) ≤ 20) : ∀ i : Nat, i ≤ l.length → sm (fun n => (plU l (n : Int) i).length) 21 = i := by
  intro i
  induction i with
  | zero =>
    intro _
    have := sm_same (f := fun _ => 0) (g := fun n => (plU l (n : Int) 0).length) 21 (fun n _ => rfl)
    rw [this]
    rfl
  | succ i ih =>
    intro hi
    have hb := h i (by omega) (by omega)
    have e := ih (by omega)
    have h1 := sm_one (f := fun n => (plU l (n : Int) i).length) (g := fun n => (plU l (n : Int) (i + 1)).length) (p := (rd l (i : Int)).toNat) 21 (by omega) (by
      show (plU l (((rd l (i : Int)).toNat : Nat) : Int) (i + 1)).length = (plU l (((rd l (i : Int)).toNat : Nat) : Int) i).length + 1
      rw [show (((rd l (i : Int)).toNat : Nat) : Int) = rd l (i : Int) by omega, plU, if_pos rfl, List.length_append, List.length_singleton]) (fun n _ hne => by
      show (plU l (n : Int) (i + 1)).length = (plU l (n : Int) i).length
      rw [plU, if_neg (by omega)])
    rw [h1, e]
theorem nums_upto {l : List Int} (h : FromL 1 (nums l)) (n : Nat) (h1 : 1 ≤ n) (h2 : n ≤ 20) : (n : Int) ∈ l ↔ n ≤ (nums l).length := by
  constructor
  · intro hm
    obtain ⟨j, hj, e⟩ := mem_rd ((numsU_mem l 20 (n : Int)).mpr ⟨by omega, by omega, hm⟩)
    have := h j (by omega) hj
    have e2 : rd (nums l) (j : Int) = (n : Int) := e
    have hj2 : j < (nums l).length := hj
    omega
  · intro hn
    have hj : n - 1 < (nums l).length := by omega
    have e := h (n - 1) (by omega) hj
    have hm : rd (nums l) ((n - 1 : Nat) : Int) ∈ nums l := rd_mem hj
    rw [e, show (1 : Int) + ((n - 1 : Nat) : Int) = (n : Int) by omega] at hm
    exact ((numsU_mem l 20 (n : Int)).mp hm).2.2
theorem two_of {l : List Int} (h : SkOk l) (n : Nat) (h1 : 1 ≤ n) (h2 : n ≤ (nums l).length) : (plc l (n : Int)).length = 2 := by
  have h20 : (nums l).length ≤ 20 := numsU_len l 20
  have hm := (nums_upto h.2.2.1.1 n h1 (by omega)).mpr h2
  rcases h.1.2 n h1 (by omega) with h0 | h0
  · exact absurd (List.eq_nil_of_length_eq_zero h0) (plc_mem.mpr hm)
  · exact h0
theorem none_of {l : List Int} (h : SkOk l) (n : Nat) (h1 : (nums l).length < n) (h2 : n ≤ 20) : (plc l (n : Int)).length = 0 := by
  have hm : ¬ (n : Int) ∈ l := fun hm => by have := (nums_upto h.2.2.1.1 n (by omega) h2).mp hm; omega
  have : plc l (n : Int) = [] := Classical.byContradiction fun hn => hm (plc_mem.mp hn)
  rw [this]
  rfl
theorem half {l : List Int} (h : SkOk l) : l.length = 2 * (nums l).length := by
  have h20 : (nums l).length ≤ 20 := numsU_len l 20
  have hs := sm_places h.1.1.2 l.length (Nat.le_refl _)
  have hk : ∀ k : Nat, k ≤ 20 → sm (fun n => (plU l (n : Int) l.length).length) (k + 1) = 2 * min k (nums l).length := by
    intro k
    induction k with
    | zero =>
      intro _
      rw [sm, sm, Nat.zero_add]
      show (plc l ((0 : Nat) : Int)).length = _
      rw [show (((0 : Nat) : Int)) = 0 from rfl, h.2.2.2]
      omega
    | succ k ih =>
      intro hk
      rw [sm, ih (by omega)]
      show _ + (plc l ((k + 1 : Nat) : Int)).length = _
      rcases Nat.lt_or_ge (nums l).length (k + 1) with h3 | h3
      · rw [none_of h (k + 1) h3 hk]; omega
      · rw [two_of h (k + 1) (by omega) h3]; omega
  have h9 := hk 20 (Nat.le_refl _)
  have hs' : sm (fun n => (plU l (n : Int) l.length).length) (20 + 1) = l.length := hs
  rw [h9] at hs'
  omega
theorem labO_len (l : List Int) (m : Nat) : (labO l m).length ≤ m * l.length := by
  induction m with
  | zero => simp [labO]
  | succ m ih =>
    rw [labO, List.length_append, Nat.succ_mul]
    have : (plc l ((m + 1 : Nat) : Int)).length ≤ l.length := plU_len _ _ _
    omega
theorem labO_fit {l : List Int} (hl : l.length ≤ 40) {m : Nat} (hm : m ≤ 40) : (labO l m).length ≤ 1600 := Nat.le_trans (labO_len l m) (Nat.mul_le_mul hm hl)
theorem LabF_len (l : List Int) (hn : l.length ≤ 1048576) : (LabF l).1.length ≤ 1048576 := by
  by_cases h : SkOk l
  · rw [LabF_yes h]
    have := labO_fit h.1.1.1 (m := l.length / 2) (by have := h.1.1.1; omega)
    show (labO l _).length ≤ _
    omega
  · rw [LabF_no h]; simp
/-! ### The array of all places -/
def atL (l : List Int) (i : Nat) : List (List Int) := (List.range 21).map fun n : Nat => if n = 0 then [] else plU l (n : Int) i
theorem atL_length (l : List Int) (i : Nat) : (atL l i).length = 21 := by simp [atL]
theorem atL_get (l : List Int) (i : Nat) {n : Nat} (hn : n < 21) : (atL l i).getD n [] = if n = 0 then [] else plU l (n : Int) i := by
  unfold atL
  rw [List.getD_eq_getElem?_getD, List.getElem?_map, List.getElem?_range hn]
  rfl
theorem atL_zero (l : List Int) : atL l 0 = List.replicate 21 [] := by
  unfold atL
  apply List.ext_getElem
  · simp
  · intro n h1 h2
    rw [List.getElem_map, List.getElem_replicate]
    split <;> rfl
theorem atL_none {l : List Int} {i : Nat} (h : rd l (i : Int) = 0) : atL l (i + 1) = atL l i := by
  unfold atL
  apply List.map_congr_left
  intro n _
  by_cases e : n = 0
  · rw [if_pos e, if_pos e]
  · rw [if_neg e, if_neg e, plU, if_neg (by omega)]
theorem atL_some {l : List Int} {i n : Nat} (h : rd l (i : Int) = (n : Int)) (h1 : 1 ≤ n) (h2 : n < 21) : atL l (i + 1) = (atL l i).set n ((atL l i).getD n [] ++ [(i : Int)]) := by
  rw [atL_get l i h2, if_neg (by omega)]
  apply List.ext_getElem
  · simp [atL]
  · intro m h3 h4
    have hm : m < 21 := by simpa [atL] using h3
    rw [List.getElem_set]
    by_cases e : n = m
    · subst e
      rw [if_pos rfl]
      simp only [atL, List.getElem_map, List.getElem_range]
      rw [if_neg (by omega), plU, if_pos h]
    · rw [if_neg e]
      simp only [atL, List.getElem_map, List.getElem_range]
      by_cases e0 : m = 0
      · rw [if_pos e0, if_pos e0]
      · rw [if_neg e0, if_neg e0, plU, if_neg (by omega)]
end Go.Proofs.Ytpabfibmpannoaa.Own.G
