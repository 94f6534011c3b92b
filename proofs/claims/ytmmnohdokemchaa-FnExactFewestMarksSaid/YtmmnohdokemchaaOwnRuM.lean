/- Rulers with a length, one by one, in plain words: the program's search and the reference's find the same ones; no condition. -/
import Derived.Test.YtmmnohdokemchaaOwnRulerC
import Derived.Test.YtmmnohdokemchaaOwnRulerG
import Derived.Test.YtmmnohdokemchaaOwnSeek
namespace Go.Proofs.Ytmmnohdokemchaa.Own.G
open Go.RowKit Go.Proofs.YtmmnohdokemchaaW.PrintWords Go.Proofs.YtmmnohdokemchaaW.PrintLast Go.Proofs.YtmmnohdokemchaaW.PrintMore
set_option linter.unusedVariables false
/-- The last mark. -/
def lst (l : List Int) : Int := rd l ((l.length : Int) - 1)
theorem lst_snoc (l : List Int) (y : Int) : lst (l ++ [y]) = y := by
  unfold lst
  rw [show (((l ++ [y]).length : Int) - 1) = ((l.length : Nat) : Int) by rw [List.length_append, List.length_singleton]; omega, rd_get (by simp)]
  simp
/-- The beginning of a ruler of the length L. -/
def Nod (L : Nat) (l : List Int) : Prop := Ruler l ∧ lst l < (L : Int)
theorem Ruler_lst {l : List Int} (h : Ruler l) : 0 ≤ lst l ∧ lst l ≤ 60 := by
  have := Ruler_rd h (show l.length - 1 ≤ l.length - 1 by omega) (show l.length - 1 < l.length by have := h.1.1; omega)
  rw [show ((l.length - 1 : Nat) : Int) = (l.length : Int) - 1 by have := h.1.1; omega] at this
  exact ⟨this.1, h.2.2⟩
theorem Ruler_snoc {l : List Int} {y : Int} (h : Ruler l) (hl : l.length + 1 ≤ 12) (h1 : lst l < y) (h2 : y ≤ 60) : Ruler (l ++ [y]) := by
  have hp := h.1.1
  refine ⟨⟨by rw [List.length_append, List.length_singleton]; omega, ?_⟩, ?_, ?_⟩
  · rw [show (0 : Int) = ((0 : Nat) : Int) from rfl, rd_append_left (by omega)]; exact h.1.2
  · intro i hi
    rw [List.length_append, List.length_singleton] at hi
    rcases Nat.lt_or_ge (i + 1) l.length with h3 | h3
    · rw [rd_append_left (by omega), rd_append_left h3]; exact h.2.1 i h3
    · have e : i + 1 = l.length := by omega
      have e2 := lst_snoc l y
      unfold lst at e2
      rw [List.length_append, List.length_singleton, show ((l.length + 1 : Nat) : Int) - 1 = ((i + 1 : Nat) : Int) by omega] at e2
      rw [e2, rd_append_left (by omega)]
      have : lst l = rd l (i : Int) := by unfold lst; rw [show (l.length : Int) - 1 = (i : Int) by omega]
      omega
  · have := lst_snoc l y
    unfold lst at this
    rw [this]; exact h2
theorem Nod_snoc {L : Nat} {l : List Int} {y : Int} (h : Nod L l) (hL : L ≤ 60) (hl : l.length + 1 ≤ 12) (h1 : lst l < y) (h2 : y < L) : Nod L (l ++ [y]) := ⟨Ruler_snoc h.1 hl h1 (by omega), by rw [lst_snoc]; exact h2⟩
theorem Nod_fin {L : Nat} {l : List Int} (h : Nod L l) (hL : L ≤ 60) (hl : l.length + 1 ≤ 12) : Ruler (l ++ [(L : Int)]) := Ruler_snoc h.1 hl h.2 (by omega)
theorem Ruler_zero : Ruler [0] := ⟨⟨⟨by decide, by decide⟩, rfl⟩, fun i hi => by simp at hi, by decide⟩
theorem Nod_zero {L : Nat} (hL : 0 < L) : Nod L [0] := ⟨Ruler_zero, by show (0 : Int) < L; omega⟩
noncomputable def qs (w : Bool) (l : List Int) : Bool := if w = true then tf (Whole (times l)) else true
noncomputable def ts (w : Bool) (l : List Int) : Bool := if w = true then true else tf (Diff (times l))
noncomputable def qq (w : Bool) (l : List Int) : Bool := if w = true then tf (Whole (times l)) else tf (Diff (times l))
/-- The program's search for rulers of the length L. -/
noncomputable def ruS (w : Bool) (L : Nat) : Seek := { n := L, st := fun l => L - (lst l + 1).toNat, t := fun _ _ => true, o := ts w, q := qq w, fin := fun l => l ++ [(L : Int)] }
theorem ruS_st (w : Bool) (L : Nat) (l : List Int) : (ruS w L).st l ≤ (ruS w L).n := Nat.sub_le _ _
def lpL (t : List Int → Bool) (g : List Int → List (List Int)) (l : List Int) (U : Int) : Nat → List (List Int)
  | 0 => []
  | d + 1 => (if t (l ++ [U - ((d + 1 : Nat) : Int)]) = true then g (l ++ [U - ((d + 1 : Nat) : Int)]) else []) ++ lpL t g l U d
/-- What the reference finds where so many marks are left. -/
noncomputable def spL (w : Bool) (L : Nat) : Nat → List Int → List (List Int)
  | 0, l => if lst l = (L : Int) ∧ qs w l = true then [l] else []
  | 1, l => if lst l < (L : Int) then (if ts w (l ++ [(L : Int)]) = true then spL w L 0 (l ++ [(L : Int)]) else []) else []
  | left + 2, l => lpL (ts w) (spL w L (left + 1)) l ((L : Int) - (left : Int)) ((L : Int) - (left : Int) - (lst l + 1)).toNat
theorem qq_is (w : Bool) (l : List Int) : qq w l = (ts w l && qs w l) := by cases w <;> simp [qq, ts, qs]
theorem lv_none (w : Bool) (L : Nat) : ∀ (f : Nat) (l : List Int), 1 ≤ f → 0 ≤ lst l → (L : Int) ≤ lst l + (f : Int) → (ruS w L).lv f l = [] := by
  intro f
  induction f with
  | zero => intro l h; omega
  | succ f ih =>
    intro l _ h0 h1
    have e : (ruS w L).lv (f + 1) l = if ts w l = true then (ruS w L).lvL ((ruS w L).lv f) l ((ruS w L).st l) else [] := rfl
    rw [e]
    split
    · have hst : (ruS w L).st l = L - (lst l + 1).toNat := rfl
      rcases Nat.eq_zero_or_pos f with hf | hf
      · rw [hst, show L - (lst l + 1).toNat = 0 by omega]; rfl
      · have : ∀ d : Nat, d ≤ (ruS w L).st l → (ruS w L).lvL ((ruS w L).lv f) l d = [] := fun d => by
          induction d with
          | zero => intro _; rfl
          | succ d ihd =>
            intro hd
            rw [Seek.lvL, ihd (by omega), List.append_nil]
            have hy : (ruS w L).y (d + 1) = ((L - (d + 1) : Nat) : Int) := rfl
            rw [hst] at hd
            split
            · exact ih _ hf (by rw [lst_snoc, hy]; omega) (by rw [lst_snoc, hy]; omega)
            · rfl
        exact this _ (Nat.le_refl _)
    · rfl
theorem lvL_split (S : Seek) (g g' : List Int → List (List Int)) (t : List Int → Bool) (l : List Int) (d2 : Nat) (ht : ∀ l y, S.t l y = true) (hE : S.lvL g l d2 = []) : ∀ d1 : Nat, d1 + d2 ≤ S.n → (∀ e : Nat, d2 < e → e ≤ d1 + d2 → g (l ++ [S.y e]) = if t (l ++ [S.y e]) = true then g' (l ++ [S.y e]) else []) → S.lvL g l (d1 + d2) = lpL t g' l ((S.n : Int) - (d2 : Int)) d1 := by
  intro d1
  induction d1 with
  | zero => intro _ _; rw [Nat.zero_add, hE]; rfl
  | succ d1 ih =>
    intro hn hg
    have hy : S.y (d1 + 1 + d2) = (S.n : Int) - (d2 : Int) - ((d1 + 1 : Nat) : Int) := by
      show ((S.n - (d1 + 1 + d2) : Nat) : Int) = _
      omega
    have h1 := hg (d1 + 1 + d2) (by omega) (Nat.le_refl _)
    rw [lpL, ← ih (by omega) (fun e h2 h3 => hg e h2 (by omega)), ← hy, ← h1, show d1 + 1 + d2 = (d1 + d2) + 1 by omega, Seek.lvL, if_pos (ht _ _)]
theorem sp_eq (w : Bool) (L : Nat) (hL : L ≤ 60) : ∀ (f : Nat) (l : List Int), Nod L l → l.length + f + 1 ≤ 12 → ts w l = true → spL w L (f + 1) l = (ruS w L).lv f l := by
  intro f
  induction f with
  | zero =>
    intro l h hl ht
    have e : (ruS w L).lv 0 l = if ts w l = true then (if qq w (l ++ [(L : Int)]) = true then [l ++ [(L : Int)]] else []) else [] := rfl
    rw [e, if_pos ht, spL, if_pos h.2, spL, qq_is, lst_snoc]
    cases ts w (l ++ [(L : Int)]) <;> cases qs w (l ++ [(L : Int)]) <;> simp
  | succ f ih =>
    intro l h hl ht
    have e : (ruS w L).lv (f + 1) l = if ts w l = true then (ruS w L).lvL ((ruS w L).lv f) l ((ruS w L).st l) else [] := rfl
    have h0 := Ruler_lst h.1
    have hlt := h.2
    have hst : (ruS w L).st l = L - (lst l + 1).toNat := rfl
    have hn : (ruS w L).n = L := rfl
    have hy : ∀ k, (ruS w L).y k = ((L - k : Nat) : Int) := fun _ => rfl
    have hE : ∀ d : Nat, d ≤ f → d ≤ (ruS w L).st l → (ruS w L).lvL ((ruS w L).lv f) l d = [] := fun d => by
      induction d with
      | zero => intro _ _; rfl
      | succ d ihd =>
        intro hd hd2
        rw [Seek.lvL, ihd (by omega) (by omega), List.append_nil]
        split
        · exact lv_none w L f _ (by omega) (by rw [lst_snoc, hy]; omega) (by rw [lst_snoc, hy]; omega)
        · rfl
    rw [e, if_pos ht, spL]
    have hs := lvL_split (ruS w L) ((ruS w L).lv f) (spL w L (f + 1)) (ts w) l (min f ((ruS w L).st l)) (fun _ _ => rfl) (hE _ (by omega) (by omega)) ((ruS w L).st l - min f ((ruS w L).st l)) (by rw [hn]; rw [hst]; omega) (fun k h1 h2 => by
      split
      · rename_i h3
        exact (ih _ (Nod_snoc h hL (by omega) (by rw [hy]; omega) (by rw [hy]; omega)) (by rw [List.length_append, List.length_singleton]; omega) h3).symm
      · rename_i h3
        have : ∀ l', ¬ ts w l' = true → (ruS w L).lv f l' = [] := fun l' h4 => by
          cases f with
          | zero => exact if_neg h4
          | succ f => exact if_neg h4
        exact this _ h3)
    rw [show (ruS w L).st l - min f ((ruS w L).st l) + min f ((ruS w L).st l) = (ruS w L).st l by omega] at hs
    rw [hs]
    rcases Nat.lt_or_ge f ((ruS w L).st l) with h1 | h1
    · rw [show min f ((ruS w L).st l) = f by omega, hn]
      congr 1
      rw [hst]
      omega
    · rw [show (ruS w L).st l - min f ((ruS w L).st l) = 0 by omega, show ((L : Int) - (f : Int) - (lst l + 1)).toNat = 0 by rw [hst] at h1; omega]
      rfl
theorem times_zero : times [0] = [0] := by
  have : span [0] = 0 := rfl
  unfold times
  rw [this]
  rfl
theorem ts_zero (w : Bool) : ts w [0] = true := by
  cases w
  · exact tf_pos (by rw [times_zero]; intro j hj; have : j = 0 := (by simpa using hj); subst this; decide)
  · rfl
theorem qs_zero (w : Bool) : qs w [0] = true := by
  cases w
  · rfl
  · exact tf_pos (by rw [times_zero]; intro j h0 hj; have : j = 0 := (by simpa using hj); omega)
theorem qq_zero (w : Bool) : qq w [0] = true := by rw [qq_is, ts_zero, qs_zero]; rfl
/-- All rulers of n marks and the length L, in order. -/
noncomputable def ruR (w : Bool) (n L : Nat) : List (List Int) := if n = 1 then (if L = 0 then [[0]] else []) else if 0 < L then (ruS w L).lv (n - 2) [0] else []
theorem sp_all (w : Bool) {n L : Nat} (hn : 1 ≤ n ∧ n ≤ 12) (hL : L ≤ 60) : spL w L (n - 1) [0] = ruR w n L := by
  have h0 : lst [0] = 0 := rfl
  unfold ruR
  by_cases h1 : n = 1
  · subst h1
    rw [if_pos rfl, show 1 - 1 = 0 from rfl, spL, h0, qs_zero]
    by_cases h2 : L = 0
    · subst h2; simp
    · rw [if_neg h2, if_neg (fun h => by omega)]
  · rw [if_neg h1]
    obtain ⟨f, rfl⟩ : ∃ f, n = f + 2 := ⟨n - 2, by omega⟩
    by_cases h2 : 0 < L
    · rw [if_pos h2, show f + 2 - 1 = f + 1 from rfl, show f + 2 - 2 = f from rfl]
      exact sp_eq w L hL f [0] (Nod_zero h2) (by simp; omega) (ts_zero w)
    · obtain rfl : L = 0 := by omega
      rw [if_neg h2, show f + 2 - 1 = f + 1 from rfl]
      cases f with
      | zero => rw [spL, h0]; simp
      | succ f => rw [spL, h0, show (((0 : Nat) : Int) - (f : Int) - (0 + 1)).toNat = 0 by omega]; rfl
theorem ruR_len (w : Bool) {n L : Nat} (hn : n ≤ 12) (hL : L ≤ 24) : (ruR w n L).length ≤ 100000000000000 := by
  unfold ruR
  split
  · split <;> simp
  · split
    · have h1 := (ruS w L).lv_len (ruS_st w L) (n - 2) [0]
      have h2 : L ^ (n - 2) ≤ 24 ^ 10 := Nat.le_trans (Nat.pow_le_pow_left hL _) (Nat.pow_le_pow_right (by decide) (by omega))
      have h3 : (24 : Nat) ^ 10 ≤ 100000000000000 := by decide
      have e : (ruS w L).n ^ (n - 2) = L ^ (n - 2) := rfl
      omega
    · simp
theorem lv_row (w : Bool) (L : Nat) : ∀ (f : Nat) (l : List Int), ∀ x ∈ (ruS w L).lv f l, x.length = l.length + f + 1 := by
  intro f
  induction f with
  | zero =>
    intro l x hx
    have e : (ruS w L).lv 0 l = if ts w l = true then (if qq w (l ++ [(L : Int)]) = true then [l ++ [(L : Int)]] else []) else [] := rfl
    rw [e] at hx
    split at hx
    · split at hx
      · rw [List.mem_singleton.mp hx]; simp
      · cases hx
    · cases hx
  | succ f ih =>
    intro l x hx
    have e : (ruS w L).lv (f + 1) l = if ts w l = true then (ruS w L).lvL ((ruS w L).lv f) l ((ruS w L).st l) else [] := rfl
    rw [e] at hx
    split at hx
    · obtain ⟨y, _, _, _, h5⟩ := ((ruS w L).lvL_mem (ruS_st w L l)).mp hx
      rw [ih _ x h5, List.length_append, List.length_singleton]
      omega
    · cases hx
theorem ruR_row (w : Bool) {n L : Nat} (hn : 1 ≤ n) : ∀ x ∈ ruR w n L, x.length = n := by
  intro x hx
  unfold ruR at hx
  split at hx
  · rename_i h
    split at hx
    · rw [List.mem_singleton.mp hx, h]; rfl
    · cases hx
  · split at hx
    · have := lv_row w L (n - 2) [0] x hx
      rw [this]
      simp
      omega
    · cases hx
end Go.Proofs.Ytmmnohdokemchaa.Own.G
