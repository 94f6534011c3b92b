/- Difference triples in plain words, and what the program's areDifferences and FamilyOfTriples compute (over the printed functions). -/
import Derived.Test.YtpabfibmpannoaaOwnLeA
import Derived.Test.YtpabfibmpannoaaPFnExactFamilyOfTriplesx5
namespace Go.Proofs.Ytpabfibmpannoaa.Own.G
open Go.RowKit Go.Proofs.YtpabfibmpannoaaW.PrintWords Go.Proofs.YtpabfibmpannoaaW.PrintLast Go.Proofs.YtpabfibmpannoaaW.PrintMore
open Go.Proofs.Ytpabfibmpannoaa.PFnExactFamilyOfTriples (rd_L1)
set_option linter.unusedVariables false
def cmpL : List Int → List Int → Int
  | [], [] => 0
  | [], _ :: _ => -1
  | _ :: _, [] => 1
  | x :: a, y :: b => if x < y then -1 else if y < x then 1 else cmpL a b
theorem cmpL_lex : ∀ (a b : List Int), a.length = b.length → (cmpL a b < 0 ↔ lexB a b = true) := by
  intro a
  induction a with
  | nil =>
    intro b hl
    obtain rfl : b = [] := List.eq_nil_of_length_eq_zero hl.symm
    simp [cmpL, lexB]
  | cons x a ih =>
    intro b hl
    cases b with
    | nil => simp at hl
    | cons y b =>
      rw [cmpL, lexB]
      by_cases h1 : x = y
      · rw [if_pos h1, if_neg (by omega), if_neg (by omega)]
        exact ih b (by simpa using hl)
      · rw [if_neg h1]
        by_cases h2 : x < y
        · rw [if_pos h2]; simp [h2]
        · rw [if_neg h2, if_pos (by omega)]; simp [h2]
theorem Compare1_ev (x y : Int) : PFnExactFamilyOfTriples.cmp_Compare_int.f x y = some (if x < y then -1 else if y < x then 1 else 0) := by
  unfold PFnExactFamilyOfTriples.cmp_Compare_int.f PFnExactFamilyOfTriples.cmp_isNaN_int.f
  simp
  split
  · rfl
  · split <;> rfl
theorem Compare_ev (a b : List Int) (ha : a.length ≤ 1000000000) : ∀ (d i k : Nat), i + d = a.length → i ≤ b.length → d < k → PFnExactFamilyOfTriples.slices_Compare_int_int.l0 k a b a (a.length : Int) (i : Int) = some (cmpL (a.drop i) (b.drop i)) := by
  intro d
  induction d with
  | zero =>
    intro i k hi hb hk
    obtain ⟨k, rfl⟩ : ∃ j, k = j + 1 := ⟨k - 1, by omega⟩
    rw [PFnExactFamilyOfTriples.slices_Compare_int_int.l0, if_neg (by omega), List.drop_eq_nil_of_le (show a.length ≤ i by omega)]
    by_cases h : (a.length : Int) < (b.length : Int)
    · rw [if_pos h, List.drop_eq_getElem_cons (show i < b.length by omega)]; rfl
    · rw [if_neg h, List.drop_eq_nil_of_le (show b.length ≤ i by omega)]; rfl
  | succ d ih =>
    intro i k hi hb hk
    obtain ⟨k, rfl⟩ : ∃ j, k = j + 1 := ⟨k - 1, by omega⟩
    have hia : i < a.length := by omega
    rw [PFnExactFamilyOfTriples.slices_Compare_int_int.l0, if_pos (by omega), if_pos (by omega), if_pos (by omega), List.drop_eq_getElem_cons hia]
    by_cases h : i < b.length
    · rw [if_neg (by omega), if_pos (by omega), Compare1_ev, List.drop_eq_getElem_cons h, cmpL, rd_get hia, rd_get h]
      have hr := ih (i + 1) k (by omega) (by omega) (by omega)
      rw [show ((i + 1 : Nat) : Int) = wrap64 ((i : Int) + 1) by rw [w64 (by omega) (by omega)]; omega] at hr
      by_cases h1 : a[i] < b[i]
      · simp [h1]
      · by_cases h2 : b[i] < a[i]
        · simp [h1, h2]
        · simp only [h1, h2, if_false, Option.bind_some, if_true]
          exact hr
    · rw [if_pos (by omega), List.drop_eq_nil_of_le (show b.length ≤ i by omega)]; rfl
/-- Row i. -/
def row (ts : List (List Int)) (i : Nat) : List Int := ts.getD i []
theorem row_L1 (ts : List (List Int)) (i : Nat) : rd_L1 ts (i : Int) = row ts i := by
  unfold rd_L1 row
  rw [Int.toNat_natCast]
def Ordd (ts : List (List Int)) : Prop := ∀ i : Nat, 0 < i → i < ts.length → cmpL (row ts (i - 1)) (row ts i) < 0
theorem inOrder_ev (ts : List (List Int)) (hn : ts.length ≤ 1048576) (hr : ∀ i : Nat, i < ts.length → (row ts i).length ≤ 1000000000) : ∀ (d i k : Nat), 0 < i → i + d = max ts.length i → 1000000002 + d < k → (∀ j : Nat, 0 < j → j < i → j < ts.length → cmpL (row ts (j - 1)) (row ts j) < 0) → PFnExactFamilyOfTriples.impl_inOrder.l0 k ts (i : Int) = some (tf (Ordd ts)) := by
  intro d
  induction d with
  | zero =>
    intro i k hi hd hk hj
    obtain ⟨k, rfl⟩ : ∃ j, k = j + 1 := ⟨k - 1, by omega⟩
    rw [PFnExactFamilyOfTriples.impl_inOrder.l0, if_neg (by omega), tf_pos (show Ordd ts from fun j h0 h1 => hj j h0 (by omega) h1)]
  | succ d ih =>
    intro i k hi hd hk hj
    obtain ⟨k, rfl⟩ : ∃ j, k = j + 1 := ⟨k - 1, by omega⟩
    have hin : i < ts.length := by omega
    have hw : wrap64 ((i : Int) - 1) = ((i - 1 : Nat) : Int) := by rw [w64 (by omega) (by omega)]; omega
    rw [PFnExactFamilyOfTriples.impl_inOrder.l0, if_pos (by omega), hw, if_pos (by omega), if_pos (by omega), if_pos (by omega), row_L1, row_L1]
    have hc := Compare_ev (row ts (i - 1)) (row ts i) (hr _ (by omega)) (row ts (i - 1)).length 0 k (by omega) (by omega) (by have := hr (i - 1) (by omega); omega)
    rw [PFnExactFamilyOfTriples.slices_Compare_int_int.f, show (0 : Int) = ((0 : Nat) : Int) from rfl, hc]
    simp only [List.drop_zero, Option.bind_some]
    by_cases h : cmpL (row ts (i - 1)) (row ts i) < 0
    · rw [if_neg (by omega), show wrap64 ((i : Int) + 1) = ((i + 1 : Nat) : Int) by rw [w64 (by omega) (by omega)]; omega]
      refine ih (i + 1) k (by omega) (by omega) (by omega) (fun j h0 h1 h2 => ?_)
      rcases Nat.lt_or_ge j i with h3 | h3
      · exact hj j h0 h3 h2
      · rw [show j = i by omega]; exact h
    · rw [if_pos (by omega), tf_neg (show ¬ Ordd ts from fun ho => h (ho i hi hin))]
/-- A triple as the program asks for it. -/
def RowI (v : Int) (n : Nat) (t : List Int) : Prop := t.length = 3 ∧ 1 ≤ rd t 0 ∧ rd t 0 ≤ rd t 1 ∧ rd t 1 ≤ rd t 2 ∧ rd t 2 ≤ 3 * (n : Int) ∧ (rd t 0 + rd t 1 = rd t 2 ∨ rd t 0 + rd t 1 + rd t 2 = v)
def Rowsd (v : Int) (ts : List (List Int)) : Prop := (∀ i : Nat, i < ts.length → RowI v ts.length (row ts i)) ∧ ts.flatten.Nodup
def flat (ts : List (List Int)) (i : Nat) : List Int := (ts.take i).flatten
theorem row_get {ts : List (List Int)} {i : Nat} (h : i < ts.length) : row ts i = ts[i] := by unfold row; rw [List.getD_eq_getElem?_getD, List.getElem?_eq_getElem h]; rfl
theorem flat_succ {ts : List (List Int)} {i : Nat} (h : i < ts.length) : flat ts (i + 1) = flat ts i ++ row ts i := by
  unfold flat
  rw [List.take_add_one, List.getElem?_eq_getElem h, row_get h, List.flatten_append]
  simp
theorem flat_part {ts : List (List Int)} {i : Nat} (h : i < ts.length) (j : Nat) : (flat ts i ++ (row ts i).take j).Sublist ts.flatten := by
  have e : ts.flatten = flat ts i ++ (row ts i ++ (ts.drop (i + 1)).flatten) := by
    have h1 : ts = ts.take i ++ ts[i] :: ts.drop (i + 1) := by rw [← List.drop_eq_getElem_cons h, List.take_append_drop]
    conv => lhs; rw [h1]
    rw [List.flatten_append, List.flatten_cons, row_get h]
    rfl
  rw [e]
  exact List.Sublist.append (List.Sublist.refl _) ((List.take_sublist _ _).trans (List.sublist_append_left _ _))
theorem take_snoc {t : List Int} {j : Nat} (h : j < t.length) : t.take (j + 1) = t.take j ++ [rd t (j : Int)] := by
  rw [List.take_add_one, List.getElem?_eq_getElem h, rd_get h]; rfl
/-- The marks of the numbers that stand in L. -/
def Seen (m : Nat) (S : List Bool) (L : List Int) : Prop := S.length = m ∧ ∀ y : Nat, y < m → (S.getD y false = true ↔ (y : Int) ∈ L)
theorem Seen_set {m : Nat} {S : List Bool} {L : List Int} {x : Int} (h : Seen m S L) (h0 : 0 ≤ x) (h1 : x < (m : Int)) : Seen m (S.set x.toNat true) (L ++ [x]) := by
  refine ⟨by rw [List.length_set]; exact h.1, fun y hy => ?_⟩
  have hl := h.1
  rw [List.getD_eq_getElem?_getD, List.getElem?_set, List.mem_append, List.mem_singleton]
  by_cases e : x.toNat = y
  · rw [if_pos e, if_pos (by omega)]
    exact ⟨fun _ => .inr (by omega), fun _ => rfl⟩
  · rw [if_neg e, ← List.getD_eq_getElem?_getD, h.2 y hy]
    exact ⟨.inl, fun h2 => h2.elim id (fun h3 => absurd h3 (by omega))⟩
theorem Seen_none (m : Nat) : Seen m (List.replicate m false) [] := ⟨List.length_replicate, fun y hy => by rw [List.getD_eq_getElem?_getD, List.getElem?_replicate, if_pos hy]; simp⟩
section
variable (v : Int) (ts : List (List Int))
theorem areDiff_rows (hn : ts.length ≤ 6) (hv : 7 ≤ v ∧ v ≤ 40) : ∀ (d i k : Nat) (S : List Bool), i + d = ts.length → 9 * d + 2 ≤ k → (∀ j : Nat, j < i → RowI v ts.length (row ts j)) → (flat ts i).Nodup → Seen (3 * ts.length + 1) S (flat ts i) →
    PFnExactFamilyOfTriples.impl_areDifferences.l0 k v (ts.length : Int) S ts (ts.length : Int) (i : Int) = some (tf (Rowsd v ts)) := by
  intro d
  induction d with
  | zero =>
    intro i k S hi hk hr hnd hs
    obtain ⟨k, rfl⟩ : ∃ j, k = j + 1 := ⟨k - 1, by omega⟩
    have e : flat ts i = ts.flatten := by unfold flat; rw [List.take_of_length_le (by omega)]
    rw [PFnExactFamilyOfTriples.impl_areDifferences.l0, if_neg (by omega), tf_pos (show Rowsd v ts from ⟨fun j hj => hr j (by omega), by rw [← e]; exact hnd⟩)]
  | succ d ih =>
    intro i k S hi hk hr hnd hs
    obtain ⟨k, rfl⟩ : ∃ j, k = j + 2 := ⟨k - 2, by omega⟩
    have hit : i < ts.length := by omega
    have hw3 : wrap64 (3 * (ts.length : Int)) = 3 * (ts.length : Int) := by rw [w64 (by omega) (by omega)]
    have hbad : ∀ t : List Int, ¬ RowI v ts.length (row ts i) → PFnExactFamilyOfTriples.impl_areDifferences.j2 (k + 1) v (ts.length : Int) S t ts (ts.length : Int) (i : Int) true = some (tf (Rowsd v ts)) := by
      intro t hb
      rw [PFnExactFamilyOfTriples.impl_areDifferences.j2, if_pos rfl, tf_neg (fun h : Rowsd v ts => hb (h.1 i hit))]
    -- the row's numbers
    have hgood : RowI v ts.length (row ts i) → ∀ (e j k' : Nat) (S' : List Bool), j + e = 3 → 9 * d + 4 + e ≤ k' → (flat ts i ++ (row ts i).take j).Nodup → Seen (3 * ts.length + 1) S' (flat ts i ++ (row ts i).take j) →
        PFnExactFamilyOfTriples.impl_areDifferences.l1 k' v (ts.length : Int) S' ts (ts.length : Int) (i : Int) (row ts i) (3 : Int) (j : Int) = some (tf (Rowsd v ts)) := by
      intro hR e
      induction e with
      | zero =>
        intro j k' S' hj hk' hnd' hs'
        obtain ⟨k', rfl⟩ : ∃ j, k' = j + 1 := ⟨k' - 1, by omega⟩
        have ef : flat ts i ++ (row ts i).take j = flat ts (i + 1) := by rw [flat_succ hit, List.take_of_length_le (by have := hR.1; omega)]
        rw [ef] at hnd' hs'
        rw [PFnExactFamilyOfTriples.impl_areDifferences.l1, if_neg (by omega), show wrap64 ((i : Int) + 1) = ((i + 1 : Nat) : Int) by rw [w64 (by omega) (by omega)]; omega]
        exact ih (i + 1) k' S' (by omega) (by omega) (fun j hj => by
          rcases Nat.lt_or_ge j i with h3 | h3
          · exact hr j h3
          · rw [show j = i by omega]; exact hR) hnd' hs'
      | succ e ihe =>
        intro j k' S' hj hk' hnd' hs'
        obtain ⟨k', rfl⟩ : ∃ j, k' = j + 1 := ⟨k' - 1, by omega⟩
        have hj3 : j < (row ts i).length := by have := hR.1; omega
        have hx : 1 ≤ rd (row ts i) (j : Int) ∧ rd (row ts i) (j : Int) ≤ 3 * (ts.length : Int) := by
          obtain ⟨_, h1, h2, h3, h4, _⟩ := hR
          rcases (show j = 0 ∨ j = 1 ∨ j = 2 by omega) with h | h | h <;> subst h <;> exact ⟨by first | exact h1 | exact Int.le_trans h1 h2 | exact Int.le_trans (Int.le_trans h1 h2) h3, by first | exact h4 | exact Int.le_trans h3 h4 | exact Int.le_trans (Int.le_trans h2 h3) h4⟩
        have hxl : rd (row ts i) (j : Int) < (S'.length : Int) := by rw [hs'.1]; omega
        have hdec : rdOf false S' (rd (row ts i) (j : Int)) = true ↔ rd (row ts i) (j : Int) ∈ flat ts i ++ (row ts i).take j := by
          have := hs'.2 (rd (row ts i) (j : Int)).toNat (by omega)
          rw [show (((rd (row ts i) (j : Int)).toNat : Nat) : Int) = rd (row ts i) (j : Int) by omega] at this
          exact this
        rw [PFnExactFamilyOfTriples.impl_areDifferences.l1, if_pos (by omega), if_pos (by omega), if_pos (by omega), if_pos (by omega), if_pos hxl]
        by_cases hm : rd (row ts i) (j : Int) ∈ flat ts i ++ (row ts i).take j
        · rw [if_pos (hdec.mpr hm), tf_neg (fun h : Rowsd v ts => by
            have hsub := h.2.sublist (flat_part hit (j + 1))
            rw [take_snoc hj3, ← List.append_assoc] at hsub
            exact (List.nodup_append.mp hsub).2.2 _ hm _ (List.mem_singleton.mpr rfl) rfl)]
        · rw [if_neg (fun h => hm (hdec.mp h)), show wrap64 ((j : Int) + 1) = ((j + 1 : Nat) : Int) by rw [w64 (by omega) (by omega)]; omega]
          refine ihe (j + 1) k' _ (by omega) (by omega) ?_ ?_
          · rw [take_snoc hj3, ← List.append_assoc]
            exact List.nodup_append.mpr ⟨hnd', by simp, fun a ha b hb e => by rw [List.mem_singleton.mp hb] at e; exact hm (e ▸ ha)⟩
          · rw [take_snoc hj3, ← List.append_assoc]
            exact Seen_set hs' (by omega) (by rw [← hs'.1]; exact hxl)
    rw [PFnExactFamilyOfTriples.impl_areDifferences.l0, if_pos (by omega), if_pos (by omega), if_pos (by omega), row_L1, hw3]
    by_cases h1 : (row ts i).length = 3
    · rw [if_pos (by omega), if_pos (by omega)]
      by_cases h2 : rd (row ts i) 0 < 1
      · rw [if_pos h2]; exact hbad _ (fun h => by have := h.2.1; omega)
      · rw [if_neg h2, if_pos (by omega)]
        by_cases h3 : rd (row ts i) 0 > rd (row ts i) 1
        · rw [if_pos h3]; exact hbad _ (fun h => by have := h.2.2.1; omega)
        · rw [if_neg h3, if_pos (by omega)]
          by_cases h4 : rd (row ts i) 1 > rd (row ts i) 2
          · rw [if_pos h4]; exact hbad _ (fun h => by have := h.2.2.2.1; omega)
          · rw [if_neg h4]
            by_cases h5 : rd (row ts i) 2 > 3 * (ts.length : Int)
            · rw [if_pos h5]; exact hbad _ (fun h => by have := h.2.2.2.2.1; omega)
            · have hw1 : wrap64 (rd (row ts i) 0 + rd (row ts i) 1) = rd (row ts i) 0 + rd (row ts i) 1 := by rw [w64 (by omega) (by omega)]
              have hw2 : wrap64 (rd (row ts i) 0 + rd (row ts i) 1 + rd (row ts i) 2) = rd (row ts i) 0 + rd (row ts i) 1 + rd (row ts i) 2 := by rw [w64 (by omega) (by omega)]
              rw [if_neg h5, hw1, hw2]
              have hfin : RowI v ts.length (row ts i) → PFnExactFamilyOfTriples.impl_areDifferences.j2 (k + 1) v (ts.length : Int) S (row ts i) ts (ts.length : Int) (i : Int) false = some (tf (Rowsd v ts)) := fun hR => by
                rw [PFnExactFamilyOfTriples.impl_areDifferences.j2, if_neg (by decide), show ((row ts i).length : Int) = 3 by omega]
                exact hgood hR 3 0 k S rfl (by omega) (by simpa using hnd) (by simpa using hs)
              by_cases h6 : rd (row ts i) 0 + rd (row ts i) 1 = rd (row ts i) 2
              · rw [if_pos h6]; exact hfin ⟨h1, by omega, by omega, by omega, by omega, .inl h6⟩
              · rw [if_neg h6]
                by_cases h7 : rd (row ts i) 0 + rd (row ts i) 1 + rd (row ts i) 2 = v
                · rw [show (rd (row ts i) 0 + rd (row ts i) 1 + rd (row ts i) 2 != v) = false by rw [h7]; simp]
                  exact hfin ⟨h1, by omega, by omega, by omega, by omega, .inr h7⟩
                · rw [show (rd (row ts i) 0 + rd (row ts i) 1 + rd (row ts i) 2 != v) = true from bne_iff_ne.mpr h7]
                  exact hbad _ (fun h => h.2.2.2.2.2.elim h6 h7)
    · rw [if_neg (by omega)]; exact hbad _ (fun h => h1 h.1)
end
end Go.Proofs.Ytpabfibmpannoaa.Own.G
