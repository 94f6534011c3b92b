/- slices.Clone and slices.Reverse at lists of whole numbers, in the words of rows of the call's own; lists of at most 1048576 numbers. -/
import Derived.Test.YtafnipklejfbmaaOwnLawKit
import Derived.Test.YtafnipklejfbmaaOwnShelf
import Derived.Lib.RowBridge
namespace Go.Proofs.Ytafnipklejfbmaa.Own
open Go.RowKit Go.Proofs.YtafnipklejfbmaaW.PrintWords Go.Proofs.YtafnipklejfbmaaW.PrintLast Go.Proofs.YtafnipklejfbmaaW.PrintMore
set_option linter.unusedVariables false
theorem cell_spot {w : World} {a : Addr} {v : Value} (h : w.cell? a = some v) : a = ⟨a.block, a.off, none⟩ := by
  obtain ⟨b, o, s⟩ := a
  cases s with
  | none => rfl
  | some x =>
    unfold World.cell? at h
    split at h
    · simp at h
    · cases h
theorem Rd_at {w : World} {A : Option Addr} {l : List Int} (h : Rd w A l) (hp : 0 < l.length) : ∃ b off, A = some ⟨b, off, none⟩ ∧ ∀ j, j < l.length → w.cell? ⟨b, off + j, none⟩ = some (.int .i64 (l.getD j 0)) := by
  obtain ⟨ad, e, hx⟩ := at_nat h hp
  have hs := cell_spot hx
  have hs2 : ad = ⟨ad.block, ad.off, none⟩ := by
    obtain ⟨b, o, s⟩ := ad
    simp [Addr.add] at hs
    subst hs
    rfl
  refine ⟨ad.block, ad.off, by rw [← hs2]; exact e, fun j hj => ?_⟩
  obtain ⟨ad', e', hx'⟩ := at_nat h hj
  obtain rfl : ad = ad' := by rw [e] at e'; injection e'
  have : (⟨ad.block, ad.off + j, none⟩ : Addr) = ad.add j := by
    obtain ⟨b, o, s⟩ := ad
    injection hs2 with _ _ h3
    subst h3
    simp [Addr.add]
  rw [this, hx']
  simp [rd]
theorem Clone_calls (A : Option Addr) (c : Nat) (l : List Int) (w : World) (hr : Rd w A l) (hc : l.length ≤ c) (hn : l.length ≤ 1048577) :
    Calls Try.prog 42 #[.slice A l.length c] w fun e w' => ∃ v, e = .returned v ∧ Ow w' w.heap.size v l ∧ Below w.heap.size w w' := by
  rcases Nat.eq_zero_or_pos l.length with h0 | hp
  · obtain rfl : l = [] := List.eq_nil_of_length_eq_zero h0
    cases A with
    | none =>
      refine (Try.slices_Clone_int_nil 0 c w).mono ?_
      rintro e w' ⟨rfl, rfl⟩
      exact ⟨_, rfl, Kd.R_nil _ _ _ _ _, Below.refl _ _⟩
    | some a =>
      refine (Try.slices_Clone_int_zero a c w).mono ?_
      rintro e w' ⟨v', rfl, ho, _, hb⟩
      exact ⟨_, rfl, Kd.R_of_own (xs := ([] : List Int)) ho (fun _ _ => trivial), hb⟩
  · obtain ⟨b, off, rfl, hcell⟩ := Rd_at hr hp
    refine (Try.slices_Clone_int b off l.length c l w (Nat.le_refl _) (by omega) hcell).mono ?_
    rintro e w' ⟨v', rfl, ho, _, hb⟩
    rw [List.take_length] at ho
    exact ⟨_, rfl, Kd.R_of_own ho (fun _ _ => trivial), hb⟩
theorem own_setCells (g n cap B : Nat) : ∀ (ys : List Int) (k : Nat) (xs : List Int) (w : World), k + ys.length ≤ xs.length → Ow w B (.slice (some ⟨g, 0, none⟩) n cap) xs →
    Ow (w.setCells g k (ys.map (Value.int .i64))) B (.slice (some ⟨g, 0, none⟩) n cap) (xs.take k ++ ys ++ xs.drop (k + ys.length)) ∧ w.grownBy (w.setCells g k (ys.map (Value.int .i64))) (some g) := by
  intro ys
  induction ys with
  | nil =>
    intro k xs w hk ho
    refine ⟨?_, World.grownBy.refl _ _⟩
    rw [List.append_nil, List.length_nil, Nat.add_zero, List.take_append_drop]
    exact ho
  | cons y ys ih =>
    intro k xs w hk ho
    rw [List.length_cons] at hk
    have hp := own_put ho k y
    obtain ⟨h1, h2⟩ := ih (k + 1) (xs.set k y) _ (by rw [List.length_set]; omega) hp.1
    refine ⟨?_, World.grownBy.trans hp.2 h2⟩
    have e : (xs.set k y).take (k + 1) ++ ys ++ (xs.set k y).drop (k + 1 + ys.length) = xs.take k ++ (y :: ys) ++ xs.drop (k + (y :: ys).length) := by
      rw [List.take_succ_eq_append_getElem (by rw [List.length_set]; omega), List.take_set_of_le (Nat.le_refl _), List.getElem_set_self, List.drop_set_of_lt (by omega), List.length_cons, Nat.add_right_comm k 1 ys.length, Nat.add_assoc]
      simp
    rw [← e]
    exact h1
theorem own_setAll {g cap B : Nat} {xs ys : List Int} {w : World} (hl : ys.length = xs.length) (ho : Ow w B (.slice (some ⟨g, 0, none⟩) xs.length cap) xs) :
    Ow (w.setCells g 0 (ys.map (Value.int .i64))) B (.slice (some ⟨g, 0, none⟩) xs.length cap) ys ∧ w.grownBy (w.setCells g 0 (ys.map (Value.int .i64))) (some g) := by
  have := own_setCells g xs.length cap B ys 0 xs w (by omega) ho
  rw [List.take_zero, List.nil_append, Nat.zero_add, hl, List.drop_length, List.append_nil] at this
  exact this
theorem own_holds {g cap B : Nat} {xs : List Int} {w : World} (ho : Ow w B (.slice (some ⟨g, 0, none⟩) xs.length cap) xs) : Go.Sort.Holds (Value.int .i64) w g 0 xs.toArray := by
  intro j hj
  have hj' : j < xs.length := by simpa using hj
  have := own_cell ho hj'
  rw [Nat.zero_add]
  refine ⟨?_, this.2⟩
  rw [this.1, rd_get hj']
  simp [hj']
theorem grown_drewN (w : World) (n : Nat) (r : Option Nat) : w.grownBy (w.drewN n) r := by
  exact ⟨rfl, rfl, rfl, Nat.le_refl _, fun _ _ _ => rfl⟩
theorem Reverse_calls (v : Value) (B : Nat) (l : List Int) (w : World) (ho : Ow w B v l) (hn : l.length ≤ 1048577) :
    Calls Try.prog 54 #[v] w fun e w' => e = .returned (.tuple #[]) ∧ Ow w' B v l.reverse ∧ w.grownBy w' v.ownBlock := by
  rcases Nat.eq_zero_or_pos l.length with h0 | hp
  · obtain rfl : l = [] := List.eq_nil_of_length_eq_zero h0
    obtain ⟨A, c, rfl⟩ := Kd.R_slice ho
    refine (Try.slices_Reverse_int_empty A c w).mono ?_
    rintro e w' ⟨rfl, rfl⟩
    exact ⟨rfl, ho, World.grownBy.refl _ _⟩
  · obtain ⟨g, cap, rfl, _⟩ := Kd.R_form ho hp
    have hH := own_holds ho
    refine (Try.slices_Reverse_int g 0 cap l w hH (by omega)).mono ?_
    rintro e w' ⟨rfl, n, rfl⟩
    rw [Go.Lib.putRow_eq_setCells (Value.int .i64) w g 0 l.toArray l.reverse n hH (by simp)]
    have := own_setAll (ys := l.reverse) (by simp) (Ow_drewN ho n)
    exact ⟨rfl, this.1, World.grownBy.trans (grown_drewN w n _) this.2⟩
end Go.Proofs.Ytafnipklejfbmaa.Own
