/- Searches that go on with a list number by number and hand what they find to a function: what is found, in plain words. -/
import Derived.Test.YtmmnohdokemchaaOwnGen
namespace Go.Proofs.Ytmmnohdokemchaa.Own.G
open Go.RowKit Go.Proofs.YtmmnohdokemchaaW.PrintWords Go.Proofs.YtmmnohdokemchaaW.PrintLast Go.Proofs.YtmmnohdokemchaaW.PrintMore
set_option linter.unusedVariables false
/-- A search: the next number is below n, of which st are left to be tried; t: whether a number is taken; o: whether a list is gone on with at all; q: whether a whole list is handed on, and fin: as what. -/
structure Seek where
  n : Nat
  st : List Int → Nat
  t : List Int → Int → Bool
  o : List Int → Bool
  q : List Int → Bool
  fin : List Int → List Int
namespace Seek
variable {σ : Type} (S : Seek)
/-- The next number where d are left. -/
def y (d : Nat) : Int := ((S.n - d : Nat) : Int)
def goL (g : List Int → σ → σ × Bool) (l : List Int) : Nat → σ → σ × Bool
  | 0, s => (s, false)
  | d + 1, s => if S.t l (S.y (d + 1)) = true then (if (g (l ++ [S.y (d + 1)]) s).2 = true then ((g (l ++ [S.y (d + 1)]) s).1, true) else goL g l d (g (l ++ [S.y (d + 1)]) s).1) else goL g l d s
def go (next : σ → List Int → σ) (stop : Bool) : Nat → List Int → σ → σ × Bool
  | 0, l, s => if S.o l = true then (if S.q (S.fin l) = true then (next s (S.fin l), stop) else (s, false)) else (s, false)
  | f + 1, l, s => if S.o l = true then S.goL (go next stop f) l (S.st l) s else (s, false)
/-- What is found, in order. -/
def lvL (g : List Int → List (List Int)) (l : List Int) : Nat → List (List Int)
  | 0 => []
  | d + 1 => (if S.t l (S.y (d + 1)) = true then g (l ++ [S.y (d + 1)]) else []) ++ lvL g l d
def lv : Nat → List Int → List (List Int)
  | 0, l => if S.o l = true then (if S.q (S.fin l) = true then [S.fin l] else []) else []
  | f + 1, l => if S.o l = true then S.lvL (lv f) l (S.st l) else []
theorem goL_all {next : σ → List Int → σ} {g : List Int → List (List Int)} {h : List Int → σ → σ × Bool} (hg : ∀ l s, h l s = ((g l).foldl next s, false)) (l : List Int) : ∀ (d : Nat) (s : σ), S.goL h l d s = ((S.lvL g l d).foldl next s, false) := by
  intro d
  induction d with
  | zero => intro s; rfl
  | succ d ih =>
    intro s
    rw [goL, lvL, hg]
    split
    · rw [if_neg (by simp), ih, List.foldl_append]
    · rw [ih, List.nil_append]
/-- A search that never stops: all that is found is handed on. -/
theorem go_all (next : σ → List Int → σ) : ∀ (f : Nat) (l : List Int) (s : σ), S.go next false f l s = ((S.lv f l).foldl next s, false) := by
  intro f
  induction f with
  | zero =>
    intro l s
    rw [go, lv]
    split
    · split
      · rfl
      · rfl
    · rfl
  | succ f ih =>
    intro l s
    rw [go, lv]
    split
    · exact S.goL_all ih l _ s
    · rfl
def firstOf (next : σ → List Int → σ) (s : σ) : List (List Int) → σ × Bool
  | [] => (s, false)
  | x :: _ => (next s x, true)
theorem goL_first {next : σ → List Int → σ} {g : List Int → List (List Int)} {h : List Int → σ → σ × Bool} (hg : ∀ l s, h l s = firstOf next s (g l)) (l : List Int) : ∀ (d : Nat) (s : σ), S.goL h l d s = firstOf next s (S.lvL g l d) := by
  intro d
  induction d with
  | zero => intro s; rfl
  | succ d ih =>
    intro s
    rw [goL, lvL, hg]
    split
    · cases hx : g (l ++ [S.y (d + 1)]) with
      | nil => rw [if_neg (by simp [firstOf]), List.nil_append]; exact ih s
      | cons x xs => rw [if_pos (by simp [firstOf])]; rfl
    · rw [ih, List.nil_append]
/-- A search that stops at the first: the first is handed on. -/
theorem go_first (next : σ → List Int → σ) : ∀ (f : Nat) (l : List Int) (s : σ), S.go next true f l s = firstOf next s (S.lv f l) := by
  intro f
  induction f with
  | zero =>
    intro l s
    rw [go, lv]
    split
    · split
      · rfl
      · rfl
    · rfl
  | succ f ih =>
    intro l s
    rw [go, lv]
    split
    · exact S.goL_first ih l _ s
    · rfl
theorem lvL_len {g : List Int → List (List Int)} {m : Nat} (hg : ∀ l, (g l).length ≤ m) (l : List Int) (d : Nat) : (S.lvL g l d).length ≤ d * m := by
  induction d with
  | zero => simp [lvL]
  | succ d ih =>
    rw [lvL, List.length_append, Nat.succ_mul]
    have := hg (l ++ [S.y (d + 1)])
    split
    · omega
    · rw [List.length_nil]; omega
theorem lv_len (hs : ∀ l, S.st l ≤ S.n) : ∀ (f : Nat) (l : List Int), (S.lv f l).length ≤ S.n ^ f := by
  intro f
  induction f with
  | zero =>
    intro l
    rw [lv]
    split
    · split <;> simp
    · simp
  | succ f ih =>
    intro l
    rw [lv]
    split
    · rw [Nat.pow_succ, Nat.mul_comm]
      exact Nat.le_trans (S.lvL_len ih l _) (Nat.mul_le_mul_right _ (hs l))
    · simp
theorem goL_size {g : List Int → σ → σ × Bool} {size : σ → Nat} {m : Nat} (hg : ∀ l s, size (g l s).1 ≤ size s + m) (l : List Int) : ∀ (d : Nat) (s : σ), size (S.goL g l d s).1 ≤ size s + d * m := by
  intro d
  induction d with
  | zero => intro s; simp [goL]
  | succ d ih =>
    intro s
    have e : (d + 1) * m = d * m + m := Nat.succ_mul d m
    rw [goL]
    split
    · split
      · have := hg (l ++ [S.y (d + 1)]) s; show size (g _ _).1 ≤ _; omega
      · have := hg (l ++ [S.y (d + 1)]) s; have := ih (g (l ++ [S.y (d + 1)]) s).1; omega
    · have := ih s; omega
theorem pow_step (c n f : Nat) : c * n ^ (f + 1) = n * (c * n ^ f) := by rw [Nat.pow_succ, ← Nat.mul_assoc, Nat.mul_comm]
theorem go_size {next : σ → List Int → σ} {stop : Bool} {size : σ → Nat} {c : Nat} (hn : ∀ s l, size (next s l) ≤ size s + c) (hs : ∀ l, S.st l ≤ S.n) : ∀ (f : Nat) (l : List Int) (s : σ), size (S.go next stop f l s).1 ≤ size s + c * S.n ^ f := by
  intro f
  induction f with
  | zero =>
    intro l s
    rw [Nat.pow_zero, Nat.mul_one, go]
    split
    · split
      · exact hn s _
      · show size s ≤ _; omega
    · show size s ≤ _; omega
  | succ f ih =>
    intro l s
    rw [go, pow_step]
    split
    · exact Nat.le_trans (S.goL_size (size := size) (m := c * S.n ^ f) ih l _ s) (Nat.add_le_add_left (Nat.mul_le_mul_right _ (hs l)) _)
    · show size s ≤ _; omega
theorem lvL_mem {g : List Int → List (List Int)} {l x : List Int} {d : Nat} (hd : d ≤ S.n) : x ∈ S.lvL g l d ↔ ∃ y : Nat, S.n - d ≤ y ∧ y < S.n ∧ S.t l (y : Int) = true ∧ x ∈ g (l ++ [(y : Int)]) := by
  induction d with
  | zero => simp only [lvL, List.not_mem_nil, false_iff]; rintro ⟨y, h1, h2, _⟩; omega
  | succ d ih =>
    rw [lvL, List.mem_append, ih (by omega)]
    constructor
    · rintro (h | ⟨y, h1, h2⟩)
      · split at h
        · rename_i h4
          exact ⟨S.n - (d + 1), Nat.le_refl _, by omega, h4, h⟩
        · cases h
      · exact ⟨y, by omega, h2⟩
    · rintro ⟨y, h1, h2, h4, h5⟩
      rcases Nat.eq_or_lt_of_le h1 with h6 | h6
      · subst h6
        rw [show S.t l (S.y (d + 1)) = true from h4, if_pos rfl]
        exact .inl h5
      · exact .inr ⟨y, by omega, h2, h4, h5⟩
end Seek
/-- How many were handed on. -/
theorem fold_count (L : List (List Int)) (s : Nat) : L.foldl (fun (s : Nat) (_ : List Int) => s + 1) s = s + L.length := by
  induction L generalizing s with
  | nil => rfl
  | cons x L ih => rw [List.foldl_cons, ih, List.length_cons]; omega
theorem fold_list (L : List (List Int)) (s : List (List Int)) : L.foldl (fun (s : List (List Int)) (l : List Int) => s ++ [l]) s = s ++ L := by
  induction L generalizing s with
  | nil => simp
  | cons x L ih => rw [List.foldl_cons, ih, List.append_assoc]; rfl
end Go.Proofs.Ytmmnohdokemchaa.Own.G
