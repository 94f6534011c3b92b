/- All Costas dots of n, the first ones and how many: what the program's AllCostas, FirstCostas and CountCostas return; no condition. -/
import Derived.Test.YtafnipklejfbmaaOwnCostD
namespace Go.Proofs.Ytafnipklejfbmaa.Own.G
open Go.RowKit Go.Proofs.YtafnipklejfbmaaW.PrintWords Go.Proofs.YtafnipklejfbmaaW.PrintLast Go.Proofs.YtafnipklejfbmaaW.PrintMore
set_option linter.unusedVariables false
def AllF (a : Int) : List (List Int) × Bool := if 1 ≤ a ∧ a ≤ 7 then (allR a.toNat, true) else ([], false)
def FirstF (a : Int) : List Int × Bool := if 1 ≤ a ∧ a ≤ 9 then (firstR a.toNat, true) else ([], false)
def CountF (a : Int) : Int × Bool := if 1 ≤ a ∧ a ≤ 7 then (((allR a.toNat).length : Int), true) else (0, false)
theorem AllF_in {a : Int} (h : 1 ≤ a ∧ a ≤ 7) : AllF a = (allR a.toNat, true) := if_pos h
theorem AllF_out {a : Int} (h : ¬ (1 ≤ a ∧ a ≤ 7)) : AllF a = ([], false) := if_neg h
theorem FirstF_in {a : Int} (h : 1 ≤ a ∧ a ≤ 9) : FirstF a = (firstR a.toNat, true) := if_pos h
theorem FirstF_out {a : Int} (h : ¬ (1 ≤ a ∧ a ≤ 9)) : FirstF a = ([], false) := if_neg h
theorem CountF_in {a : Int} (h : 1 ≤ a ∧ a ≤ 7) : CountF a = (((allR a.toNat).length : Int), true) := if_pos h
theorem CountF_out {a : Int} (h : ¬ (1 ≤ a ∧ a ≤ 7)) : CountF a = (0, false) := if_neg h
theorem firstR_len {n : Nat} (h1 : 1 ≤ n) (h9 : n ≤ 9) : (firstR n).length = n := by simpa using (lv_fine n n [] (Fine_nil n) _ (firstR_mem h1 h9)).2
theorem AllF_fit (a : Int) : Fit (AllF a).1 := by
  by_cases h : 1 ≤ a ∧ a ≤ 7
  · rw [AllF_in h]
    refine ⟨by have := allR_len (n := a.toNat) (by omega); show (allR _).length ≤ _; omega, fun x hx => ?_⟩
    have := allR_row hx
    omega
  · rw [AllF_out h]
    exact ⟨by simp, fun x hx => by cases hx⟩
theorem FirstF_len (a : Int) : (FirstF a).1.length ≤ 1048576 := by
  by_cases h : 1 ≤ a ∧ a ≤ 9
  · rw [FirstF_in h]
    have := firstR_len (n := a.toNat) (by omega) (by omega)
    show (firstR _).length ≤ _
    omega
  · rw [FirstF_out h]; simp
theorem eachAll_calls (n f bo B : Nat) (hn : n ≤ 9) (hB : B ≤ bo) : EachAll n f bo B := by
  induction f with
  | zero => exact eachAll_step n 0 bo B hn hB (fun f' h => by omega)
  | succ f ih => exact eachAll_step n (f + 1) bo B hn hB (fun f' h => by rw [show f' = f by omega]; exact ih)
theorem eachFirst_calls (n f bo B : Nat) (hn : n ≤ 9) (hB : B ≤ bo) : EachFirst n f bo B := by
  induction f with
  | zero => exact eachFirst_step n 0 bo B hn hB (fun f' h => by omega)
  | succ f ih => exact eachFirst_step n (f + 1) bo B hn hB (fun f' h => by rw [show f' = f by omega]; exact ih)
set_option maxHeartbeats 1600000 in
theorem implAllCostas_calls (a : Int) (w : World) (ha : W64 a) :
    Calls Try.prog 11 #[.int .i64 a] w fun e w' => ∃ v, e = .returned (.tuple #[v, .bool (AllF a).2]) ∧ OwS w' w.heap.size v (AllF a).1 ∧ Below w.heap.size w w' := by
  have HB := Aside0.mk (Below.refl w.heap.size w)
  by_cases h : 1 ≤ a ∧ a ≤ 7
  · obtain ⟨n, rfl⟩ : ∃ n : Nat, (n : Int) = a := ⟨a.toNat, by omega⟩
    have HE := Aside0.mk (eachAll_calls n n w.heap.size w.heap.size (by omega) (Nat.le_refl _))
    have HF := Aside0.mk (show AllF (n : Int) = (allR n, true) from AllF_in h)
    have HGA := Aside0.mk (goAll_all n)
    have HSZ := Aside0.mk (show sizeAll [] + 1 * n ^ n ≤ 1000000 by
      have h2 : n ^ n ≤ 7 ^ 7 := Nat.le_trans (Nat.pow_le_pow_left (by omega) n) (Nat.pow_le_pow_right (by decide) (by omega))
      have h3 : (7 : Nat) ^ 7 = 823543 := by decide
      show 0 + 1 * n ^ n ≤ 1000000
      omega)
    clear ha
    go_enter Try.func11, Try.ntmps11
    go_wp2_with (go_at_call 26; refine (HE.out (.slice none 0 0) [] _ (fun _ => False) [] (Kd.R_nil _ _ _ _ _) (fun k hk => by simp [Value.ownBlock] at hk) (fun h => h) ⟨.slice none 0 0, by first | exact Var.new _ _ _ | exact Var.drewN (Var.new _ _ _) _, Kd.S_nil _ _ _ _ _⟩ (by simp) HSZ.out (fun x hx => by cases hx)).mono ?_; rw [HGA.out]; rintro e w1 ⟨rfl, ⟨v, hv, ho⟩, hch⟩; obtain ⟨Av, cv, rfl⟩ := Kd.S_slice ho; have hc1 := cell_of_one hv; have HO := Aside0.mk ho; have n0_ := Aside0.mk (((by repeat (first | (with_reducible first | exact HB.out | apply below_alloc | apply pw_below_drewN | apply below_drew1) | exact HB.out)) : Below w.heap.size w _).trans (hch.to (by first | exact Nat.le_refl _ | exact below_size (by repeat (first | (with_reducible first | exact HB.out | apply below_alloc | apply pw_below_drewN | apply below_drew1) | exact HB.out))) (fun k hk hq => hq.elim (fun h => by omega) (fun h => h)))); clear HB hv ho hch; have HB := n0_; clear n0_)
    repeat (go_quiet (fail); try go_wp2)
    go_ret2
    exact ⟨_, by rw [HF.out]; rfl, by rw [HF.out]; exact Kd.S_mono (by first | exact HO.out | exact Kd.S_drewN HO.out _) (fun _ _ => trivial), (by repeat (first | (with_reducible first | exact HB.out | apply below_alloc | apply pw_below_drewN | apply below_drew1) | exact HB.out))⟩
  · have HF := Aside0.mk (AllF_out h)
    by_cases h3 : a < 1
    · go_enter Try.func11, Try.ntmps11
      (go_wp2; repeat (go_quiet (fail); try go_wp2))
      go_ret2
      exact ⟨_, by rw [HF.out]; rfl, by rw [HF.out]; exact Kd.S_nil _ _ _ _ _, (by repeat (first | (with_reducible first | exact HB.out | apply below_alloc | apply pw_below_drewN | apply below_drew1) | exact HB.out))⟩
    · have h8 : 7 < a := by omega
      go_enter Try.func11, Try.ntmps11
      (go_wp2; repeat (go_quiet (fail); try go_wp2))
      go_ret2
      exact ⟨_, by rw [HF.out]; rfl, by rw [HF.out]; exact Kd.S_nil _ _ _ _ _, (by repeat (first | (with_reducible first | exact HB.out | apply below_alloc | apply pw_below_drewN | apply below_drew1) | exact HB.out))⟩
set_option maxHeartbeats 1600000 in
theorem implFirstCostas_calls (a : Int) (w : World) (ha : W64 a) :
    Calls Try.prog 16 #[.int .i64 a] w fun e w' => ∃ v, e = .returned (.tuple #[v, .bool (FirstF a).2]) ∧ Ow w' w.heap.size v (FirstF a).1 ∧ Below w.heap.size w w' := by
  have HB := Aside0.mk (Below.refl w.heap.size w)
  by_cases h : 1 ≤ a ∧ a ≤ 9
  · obtain ⟨n, rfl⟩ : ∃ n : Nat, (n : Int) = a := ⟨a.toNat, by omega⟩
    have HE := Aside0.mk (eachFirst_calls n n w.heap.size w.heap.size (by omega) (Nat.le_refl _))
    have HF := Aside0.mk (show FirstF (n : Int) = (firstR n, true) from FirstF_in h)
    have HGA := Aside0.mk (firstR_go (n := n) (by omega) (by omega))
    have HLT := Aside0.mk (show decide (0 < (firstR n).length) = true by rw [firstR_len (by omega) (by omega)]; exact decide_eq_true (by omega))
    clear ha
    go_enter Try.func16, Try.ntmps16
    go_wp2_with (go_at_call 26; refine (HE.out (.slice none 0 0) [] _ (fun _ => False) [] (Kd.R_nil _ _ _ _ _) (fun k hk => by simp [Value.ownBlock] at hk) (fun h => h) ⟨.slice none 0 0, by first | exact Var.new _ _ _ | exact Var.drewN (Var.new _ _ _) _, Kd.R_nil _ _ _ _ _⟩ (by simp) (by show 0 + 0 * n ^ n ≤ 1000000; omega) (fun x hx => by cases hx)).mono ?_; rw [HGA.out]; rintro e w1 ⟨rfl, ⟨v, hv, ho⟩, hch⟩; obtain ⟨Av, cv, rfl⟩ := Kd.R_slice ho; have hc1 := cell_of_one hv; have HO := Aside0.mk ho; have n0_ := Aside0.mk (((by repeat (first | (with_reducible first | exact HB.out | apply below_alloc | apply pw_below_drewN | apply below_drew1) | exact HB.out)) : Below w.heap.size w _).trans (hch.to (by first | exact Nat.le_refl _ | exact below_size (by repeat (first | (with_reducible first | exact HB.out | apply below_alloc | apply pw_below_drewN | apply below_drew1) | exact HB.out))) (fun k hk hq => hq.elim (fun h => by omega) (fun h => h)))); clear HB hv ho hch; have HB := n0_; clear n0_)
    repeat (go_quiet (fail); try go_wp2)
    go_ret2
    exact ⟨_, by rw [HF.out]; exact ret_two HLT.out, by rw [HF.out]; exact Kd.R_mono (by first | exact HO.out | exact Kd.R_drewN HO.out _) (fun _ _ => trivial), (by repeat (first | (with_reducible first | exact HB.out | apply below_alloc | apply pw_below_drewN | apply below_drew1) | exact HB.out))⟩
  · have HF := Aside0.mk (FirstF_out h)
    by_cases h3 : a < 1
    · go_enter Try.func16, Try.ntmps16
      (go_wp2; repeat (go_quiet (fail); try go_wp2))
      go_ret2
      exact ⟨_, by rw [HF.out]; rfl, by rw [HF.out]; exact Kd.R_nil _ _ _ _ _, (by repeat (first | (with_reducible first | exact HB.out | apply below_alloc | apply pw_below_drewN | apply below_drew1) | exact HB.out))⟩
    · have h8 : 9 < a := by omega
      go_enter Try.func16, Try.ntmps16
      (go_wp2; repeat (go_quiet (fail); try go_wp2))
      go_ret2
      exact ⟨_, by rw [HF.out]; rfl, by rw [HF.out]; exact Kd.R_nil _ _ _ _ _, (by repeat (first | (with_reducible first | exact HB.out | apply below_alloc | apply pw_below_drewN | apply below_drew1) | exact HB.out))⟩
set_option maxHeartbeats 1600000 in
theorem implCountCostas_calls (a : Int) (w : World) (ha : W64 a) :
    Calls Try.prog 9 #[.int .i64 a] w fun e w' => e = .returned (.tuple #[.int .i64 (CountF a).1, .bool (CountF a).2]) ∧ Below w.heap.size w w' := by
  have HB := Aside0.mk (Below.refl w.heap.size w)
  by_cases h : 1 ≤ a ∧ a ≤ 7
  · have HF := Aside0.mk (CountF_in h)
    have HA := Aside0.mk (AllF_in h)
    go_enter Try.func9, Try.ntmps9
    go_wp2_with (go_at_call 11; refine (implAllCostas_calls a _ ha).mono ?_; rw [HA.out]; rintro e w1 ⟨v, rfl, ho, hb⟩; obtain ⟨Av, cv, rfl⟩ := Kd.S_slice ho; have n0_ := Aside0.mk (below_step (by repeat (first | (with_reducible first | exact HB.out | apply below_alloc | apply pw_below_drewN | apply below_drew1) | exact HB.out)) hb); clear HB ho hb; have HB := n0_; clear n0_)
    repeat (go_quiet (fail); try go_wp2)
    go_ret2
    exact ⟨by rw [HF.out]; rfl, (by repeat (first | (with_reducible first | exact HB.out | apply below_alloc | apply pw_below_drewN | apply below_drew1) | exact HB.out))⟩
  · have HF := Aside0.mk (CountF_out h)
    have HA := Aside0.mk (AllF_out h)
    go_enter Try.func9, Try.ntmps9
    go_wp2_with (go_at_call 11; refine (implAllCostas_calls a _ ha).mono ?_; rw [HA.out]; rintro e w1 ⟨v, rfl, ho, hb⟩; obtain ⟨Av, cv, rfl⟩ := Kd.S_slice ho; have n0_ := Aside0.mk (below_step (by repeat (first | (with_reducible first | exact HB.out | apply below_alloc | apply pw_below_drewN | apply below_drew1) | exact HB.out)) hb); clear HB ho hb; have HB := n0_; clear n0_)
    repeat (go_quiet (fail); try go_wp2)
    go_ret2
    exact ⟨by rw [HF.out]; rfl, (by repeat (first | (with_reducible first | exact HB.out | apply below_alloc | apply pw_below_drewN | apply below_drew1) | exact HB.out))⟩
end Go.Proofs.Ytafnipklejfbmaa.Own.G
