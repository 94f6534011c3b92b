/- slices.Sort at a list of whole numbers, in the words of rows of the call's own; lists of at most 1048576 numbers. -/
import Derived.Test.YtfbbbefhdmimhaaOwnSh
import Derived.Test.YtfbbbefhdmimhaaOwnGen
namespace Go.Proofs.Ytfbbbefhdmimhaa.Own.G
open Go.RowKit Go.Proofs.YtfbbbefhdmimhaaW.PrintWords Go.Proofs.YtfbbbefhdmimhaaW.PrintLast Go.Proofs.YtfbbbefhdmimhaaW.PrintMore
set_option linter.unusedVariables false
def sorted (l : List Int) : List Int := l.mergeSort fun x y => decide (x ≤ y)
theorem sorted_perm (l : List Int) : (sorted l).Perm l := List.mergeSort_perm l _
theorem sorted_length (l : List Int) : (sorted l).length = l.length := (sorted_perm l).length_eq
theorem sorted_le (l : List Int) : (sorted l).Pairwise (· ≤ ·) := by
  have := List.pairwise_mergeSort (le := fun x y : Int => decide (x ≤ y)) (fun a b c h1 h2 => by simp at *; omega) (fun a b => by simp; omega) l
  exact this.imp (fun h => by simpa using h)
theorem sorted_eq {l m : List Int} (hp : m.Perm l) (hm : m.Pairwise (· ≤ ·)) : sorted l = m :=
  List.Perm.eq_of_pairwise (le := (· ≤ ·)) (fun a b _ _ h1 h2 => Int.le_antisymm h1 h2) (sorted_le l) hm ((sorted_perm l).trans hp.symm)
theorem grown_grow (w : World) (os : Array Obj) (r : Option Nat) : w.grownBy (Go.Sort.grow w os) r := ⟨rfl, rfl, rfl, by simp, fun k hk _ => Go.Sort.heap_grow_old w os hk⟩
theorem Ow_grow {w : World} {B : Nat} {v : Value} {l : List Int} (h : Ow w B v l) (os : Array Obj) : Ow (Go.Sort.grow w os) B v l :=
  Kd.R_step h (fun k _ hk => Go.Sort.heap_grow_old w os hk)
theorem Sort_calls (v : Value) (B : Nat) (l : List Int) (w : World) (ho : Ow w B v l) (hn : l.length ≤ 1048577) :
    Calls Try.prog 24 #[v] w fun e w' => e = .returned (.tuple #[]) ∧ Ow w' B v (sorted l) ∧ w.grownBy w' v.ownBlock := by
  rcases Nat.eq_zero_or_pos l.length with h0 | hp
  · obtain rfl : l = [] := List.eq_nil_of_length_eq_zero h0
    obtain ⟨A, c, rfl⟩ := Kd.R_slice ho
    refine (Try.slices_Sort_int_none A c w).mono ?_
    rintro e w' ⟨rfl, rfl⟩
    exact ⟨rfl, by rw [show sorted [] = [] from List.eq_nil_of_length_eq_zero (sorted_length [])]; exact ho, World.grownBy.refl _ _⟩
  · obtain ⟨g, cap, rfl, _, hlt, _⟩ := Kd.R_form ho hp
    have hH := own_holds ho
    refine (Try.slices_Sort_int g 0 cap l w hH hlt (by omega)).mono ?_
    rintro e w' ⟨rfl, n, os, rfl⟩
    have hq := Go.Lib.putRow_eq_setCells (Value.int .i64) w g 0 l.toArray (sorted l) n hH (by simpa using sorted_length l)
    have := own_setAll (ys := sorted l) (sorted_length l) (Ow_drewN ho n)
    have hw : Go.Sort.putRow (Value.int .i64) (Go.Sort.ahead w n) g 0 (l.mergeSort fun x y => decide (x ≤ y)).toArray = (w.drewN n).setCells g 0 ((sorted l).map (Value.int .i64)) := hq
    rw [hw]
    exact ⟨rfl, Ow_grow this.1 os, World.grownBy.trans (World.grownBy.trans (grown_drewN w n _) this.2) (grown_grow _ os _)⟩
end Go.Proofs.Ytfbbbefhdmimhaa.Own.G
