/- Graceful labels of a tree, the first ones and how many: what the program's CountGraceful and FirstGraceful return; lists of at most 1048576 numbers. -/
import Derived.Test.YtaodmegnbkimeaaOwnGraceA
import Derived.Deep.RegionLaw
namespace Go.Proofs.Ytaodmegnbkimeaa.Own.G
open Go.RowKit Go.Proofs.YtaodmegnbkimeaaW.PrintWords Go.Proofs.YtaodmegnbkimeaaW.PrintLast Go.Proofs.YtaodmegnbkimeaaW.PrintMore
set_option linter.unusedVariables false
noncomputable def grL (P : List Int) : List (List Int) := (grS P).lv P.length []
noncomputable def GCountF (P : List Int) : Int × Bool := if tf (Tree P) = true then (((grL P).length : Int), true) else (0, false)
def headOf (L : List (List Int)) : List Int × Bool := match L with
  | [] => ([], false)
  | x :: _ => (x, true)
noncomputable def GFirstF (P : List Int) : List Int × Bool := if tf (Tree P) = true then headOf (grL P) else ([], false)
theorem GCountF_yes {P : List Int} (h : Tree P) : GCountF P = (((grL P).length : Int), true) := if_pos (tf_pos h)
theorem GCountF_no {P : List Int} (h : ¬ Tree P) : GCountF P = (0, false) := if_neg (by rw [tf_neg h]; decide)
theorem GFirstF_yes {P : List Int} (h : Tree P) : GFirstF P = headOf (grL P) := if_pos (tf_pos h)
theorem GFirstF_no {P : List Int} (h : ¬ Tree P) : GFirstF P = ([], false) := if_neg (by rw [tf_neg h]; decide)
theorem grS_row (P : List Int) : ∀ (f : Nat) (l : List Int), ∀ x ∈ (grS P).lv f l, x.length = l.length + f := by
  intro f
  induction f with
  | zero => intro l x hx; rw [show (grS P).lv 0 l = [l] from rfl, List.mem_singleton] at hx; rw [hx]; rfl
  | succ f ih =>
    intro l x hx
    obtain ⟨y, _, _, _, h5⟩ := ((grS P).lvL_mem (Nat.le_refl _)).mp (show x ∈ (grS P).lvL ((grS P).lv f) l (grS P).n from hx)
    rw [ih _ x h5, List.length_append, List.length_singleton]
    omega
theorem headOf_len {P : List Int} (h : Tree P) : headOf (grL P) = ((headOf (grL P)).1, decide (0 < (headOf (grL P)).1.length)) ∧ (headOf (grL P)).1.length ≤ 9 := by
  have hr : ∀ x ∈ grL P, x.length = P.length := fun x hx => by have := grS_row P P.length [] x hx; simpa using this
  have hp := h.1.1
  cases hL : grL P with
  | nil => exact ⟨rfl, by simp [headOf]⟩
  | cons x L =>
    have := hr x (by rw [hL]; simp)
    exact ⟨by rw [headOf]; rw [show decide (0 < x.length) = true from decide_eq_true (by omega)], by show x.length ≤ 9; omega⟩
theorem GFirstF_len (P : List Int) (hn : P.length ≤ 1048576) : (GFirstF P).1.length ≤ 1048576 := by
  by_cases h : Tree P
  · rw [GFirstF_yes h]; have := (headOf_len h).2; omega
  · rw [GFirstF_no h]; simp
theorem goCount_eq (P : List Int) : goCount P P.length [] 0 = ((grL P).length, false) := by
  have := (grS P).go_all nextCount P.length [] 0
  rw [goCount, this, show (List.foldl nextCount 0 ((grS P).lv P.length [])) = List.foldl (fun (s : Nat) (_ : List Int) => s + 1) 0 ((grS P).lv P.length []) from rfl, fold_count, Nat.zero_add]
  rfl
theorem goFirst_eq (P : List Int) : goFirst P P.length [] [] = headOf (grL P) := by
  have := (grS P).go_first nextFirst P.length [] []
  rw [goFirst, this]
  unfold grL
  cases (grS P).lv P.length [] <;> rfl
theorem pow9 {n : Nat} (h : n ≤ 9) : n ^ n ≤ 387420489 := by
  have h2 : n ^ n ≤ 9 ^ 9 := by
    rcases Nat.eq_zero_or_pos n with h0 | h0
    · subst h0; decide
    · exact Nat.le_trans (Nat.pow_le_pow_left h n) (Nat.pow_le_pow_right (by decide) h)
  have h3 : (9 : Nat) ^ 9 = 387420489 := by decide
  omega
theorem new_cell (w : World) (u : Value) (t : TypeId) (n : Nat) : ((w.drewN n).alloc (.cells #[u] t)).cell? ⟨w.heap.size, 0, none⟩ = some u := cell_of_one (Var.new (w.drewN n) u t)
theorem new_free (w : World) (u : Value) (t : TypeId) (n : Nat) : ((w.drewN n).alloc (.cells #[u] t)).frozen? ⟨w.heap.size, 0, none⟩ = false := free_of_one (Var.new (w.drewN n) u t)
set_option maxHeartbeats 3200000 in
theorem implCountGraceful_calls (A : Option Addr) (c : Nat) (P : List Int) (w : World) (hr : Rd w A P) (hc : P.length ≤ c) (hn : P.length ≤ 1048576) (hw : ∀ x ∈ P, W64 x) :
    Calls Try.prog 8 #[.slice A P.length c] w fun e w' => e = .returned (.tuple #[.int .i64 (GCountF P).1, .bool (GCountF P).2]) ∧ Below w.heap.size w w' := by
  have HR := Aside0.mk hr
  have HC := Aside0.mk hc
  have HB := Aside0.mk (Below.refl w.heap.size w)
  clear hw
  by_cases h : Tree P
  · have HT := Aside0.mk (tf_pos h)
    have HF := Aside0.mk (GCountF_yes h)
    have HGA := Aside0.mk (goCount_eq P)
    have HSZ := Aside0.mk (show sizeCount 0 + 1 * P.length ^ P.length ≤ 1000000000 by have := pow9 (n := P.length) h.1.1.2; show 0 + 1 * P.length ^ P.length ≤ _; omega)
    have HE := Aside0.mk (grcCount_calls w A c P P.length w.heap.size hr hc h (Nat.le_refl _))
    have hcn := new_cell w (.int .i64 0) 3
    have hfn := new_free w (.int .i64 0) 3
    clear h hr hc
    go_enter Try.func8, Try.ntmps8
    go_wp2_with (first | (go_at_call 18; refine (IsTree_calls _ _ P _ (by first | exact HR.out | exact Kd.C_drewN HR.out _) HC.out hn).mono ?_; rw [HT.out]; rintro e w' ⟨rfl, ⟨nd, rfl⟩⟩) | (go_at_call 19; refine (HE.out (.slice none 0 0) [] _ (fun _ => False) 0 (by repeat (first | exact Below.refl _ _ | apply below_alloc | apply pw_below_drewN | apply below_drew1 | (refine Below.setCell ?_ (by first | exact Nat.le_refl _ | (show _ ≤ _; omega)) _))) (Kd.R_nil _ _ _ _ _) (fun k hk => by simp [Value.ownBlock] at hk) (fun h => h) (fun k h => h.elim) (show Var _ _ _ _ from (by repeat (first | exact Var.new _ _ _ | apply Var.drewN | apply Var.put))) (by simp) HSZ.out (fun x hx => by cases hx)).mono ?_; rw [HGA.out]; rintro e w1 ⟨rfl, hv, hch⟩; have hc1 := cell_of_one hv; have n0_ := Aside0.mk (((by repeat (first | exact Below.refl _ _ | apply below_alloc | apply pw_below_drewN | apply below_drew1 | (refine Below.setCell ?_ (by first | exact Nat.le_refl _ | (show _ ≤ _; omega)) _))) : Below w.heap.size w _).trans (hch.to ((by repeat (first | exact Below.refl _ _ | apply below_alloc | apply pw_below_drewN | apply below_drew1 | (refine Below.setCell ?_ (by first | exact Nat.le_refl _ | (show _ ≤ _; omega)) _))) : Below w.heap.size w _).size (fun k hk hq => hq.elim (fun h => by omega) (fun h => h)))); clear HB hv hch; have HB := n0_; clear n0_))
    repeat (go_quiet (fail); try go_wp2)
    go_ret2
    exact ⟨by rw [HF.out]; rfl, (by repeat (first | (with_reducible first | exact HB.out | apply below_alloc | apply pw_below_drewN | apply below_drew1) | exact HB.out))⟩
  · have HT := Aside0.mk (tf_neg h)
    have HF := Aside0.mk (GCountF_no h)
    clear h hr hc
    go_enter Try.func8, Try.ntmps8
    go_wp2_with ((go_at_call 18; refine (IsTree_calls _ _ P _ (by first | exact HR.out | exact Kd.C_drewN HR.out _) HC.out hn).mono ?_; rw [HT.out]; rintro e w' ⟨rfl, ⟨nd, rfl⟩⟩))
    go_ret2
    exact ⟨by rw [HF.out]; rfl, (by repeat (first | (with_reducible first | exact HB.out | apply below_alloc | apply pw_below_drewN | apply below_drew1) | exact HB.out))⟩
set_option maxHeartbeats 3200000 in
theorem implFirstGraceful_calls (A : Option Addr) (c : Nat) (P : List Int) (w : World) (hr : Rd w A P) (hc : P.length ≤ c) (hn : P.length ≤ 1048576) (hw : ∀ x ∈ P, W64 x) :
    Calls Try.prog 11 #[.slice A P.length c] w fun e w' => ∃ v, e = .returned (.tuple #[v, .bool (GFirstF P).2]) ∧ Ow w' w.heap.size v (GFirstF P).1 ∧ Below w.heap.size w w' := by
  have HR := Aside0.mk hr
  have HC := Aside0.mk hc
  have HB := Aside0.mk (Below.refl w.heap.size w)
  clear hw
  by_cases h : Tree P
  · have HT := Aside0.mk (tf_pos h)
    have HHL := Aside0.mk (headOf_len h).1
    have HF := Aside0.mk (GFirstF_yes h)
    have HGA := Aside0.mk (goFirst_eq P)
    have HSZ := Aside0.mk (show sizeFirst [] + 0 * P.length ^ P.length ≤ 1000000000 by show 0 + 0 * P.length ^ P.length ≤ _; omega)
    have HE := Aside0.mk (grcFirst_calls w A c P P.length w.heap.size hr hc h (Nat.le_refl _))
    generalize headOf (grL P) = r at HHL HF HGA
    clear h hr hc
    go_enter Try.func11, Try.ntmps11
    go_wp2_with (first | (go_at_call 18; refine (IsTree_calls _ _ P _ (by first | exact HR.out | exact Kd.C_drewN HR.out _) HC.out hn).mono ?_; rw [HT.out]; rintro e w' ⟨rfl, ⟨nd, rfl⟩⟩) | (go_at_call 19; refine (HE.out (.slice none 0 0) [] _ (fun _ => False) [] (by repeat (first | exact Below.refl _ _ | apply below_alloc | apply pw_below_drewN | apply below_drew1 | (refine Below.setCell ?_ (by first | exact Nat.le_refl _ | (show _ ≤ _; omega)) _))) (Kd.R_nil _ _ _ _ _) (fun k hk => by simp [Value.ownBlock] at hk) (fun h => h) (fun k h => h.elim) ⟨.slice none 0 0, (by repeat (first | exact Var.new _ _ _ | apply Var.drewN | apply Var.put)), Kd.R_nil _ _ _ _ _⟩ (by simp) HSZ.out (fun x hx => by cases hx)).mono ?_; rw [HGA.out]; rintro e w1 ⟨rfl, ⟨v, hv, ho⟩, hch⟩; obtain ⟨Av, cv, rfl⟩ := Kd.R_slice ho; have hc1 := cell_of_one hv; have HO := Aside0.mk ho; have n0_ := Aside0.mk (((by repeat (first | exact Below.refl _ _ | apply below_alloc | apply pw_below_drewN | apply below_drew1 | (refine Below.setCell ?_ (by first | exact Nat.le_refl _ | (show _ ≤ _; omega)) _))) : Below w.heap.size w _).trans (hch.to ((by repeat (first | exact Below.refl _ _ | apply below_alloc | apply pw_below_drewN | apply below_drew1 | (refine Below.setCell ?_ (by first | exact Nat.le_refl _ | (show _ ≤ _; omega)) _))) : Below w.heap.size w _).size (fun k hk hq => hq.elim (fun h => by omega) (fun h => h)))); clear HB hv hch ho; have HB := n0_; clear n0_))
    repeat (go_quiet (fail); try go_wp2)
    go_ret2
    exact ⟨_, by rw [HF.out, HHL.out]; rfl, by rw [HF.out]; exact Kd.R_mono (by first | exact HO.out | exact Kd.R_drewN HO.out _) (fun _ _ => trivial), (by repeat (first | (with_reducible first | exact HB.out | apply below_alloc | apply pw_below_drewN | apply below_drew1) | exact HB.out))⟩
  · have HT := Aside0.mk (tf_neg h)
    have HF := Aside0.mk (GFirstF_no h)
    clear h hr hc
    go_enter Try.func11, Try.ntmps11
    go_wp2_with ((go_at_call 18; refine (IsTree_calls _ _ P _ (by first | exact HR.out | exact Kd.C_drewN HR.out _) HC.out hn).mono ?_; rw [HT.out]; rintro e w' ⟨rfl, ⟨nd, rfl⟩⟩))
    go_ret2
    exact ⟨_, by rw [HF.out]; rfl, by rw [HF.out]; exact Kd.R_nil _ _ _ _ _, (by repeat (first | (with_reducible first | exact HB.out | apply below_alloc | apply pw_below_drewN | apply below_drew1) | exact HB.out))⟩
end Go.Proofs.Ytaodmegnbkimeaa.Own.G
