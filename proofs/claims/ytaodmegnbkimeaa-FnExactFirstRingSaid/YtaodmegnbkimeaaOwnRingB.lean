/- The first ring of n numbers: what the reference's (by its printed contract) and the program's FirstRing return; no condition. -/
import Derived.Test.YtaodmegnbkimeaaOwnRingA
import Derived.Test.YtaodmegnbkimeaaPFnExactFirstRingx3
namespace Go.Proofs.Ytaodmegnbkimeaa.Own.G
open Go.RowKit Go.Proofs.YtaodmegnbkimeaaW.PrintWords Go.Proofs.YtaodmegnbkimeaaW.PrintLast Go.Proofs.YtaodmegnbkimeaaW.PrintMore
set_option linter.unusedVariables false
def ringR (n : Nat) : List Int × Bool := if (ringF n (n - 1) [0]).2 = true then ((ringF n (n - 1) [0]).1, true) else ([], false)
def RingFF (a : Int) : List Int × Bool := if 3 ≤ a ∧ a ≤ 8 then ringR a.toNat else ([], false)
theorem ringR_small : ∀ i : Fin 6, (ringR (i.val + 3)).1.length ≤ 8 := by decide +kernel
theorem RingFF_len (a : Int) : (RingFF a).1.length ≤ 1048576 := by
  unfold RingFF
  split
  · rename_i h
    have := ringR_small ⟨a.toNat - 3, by omega⟩
    simp only [show a.toNat - 3 + 3 = a.toNat by omega] at this
    omega
  · simp
theorem ring_fin : ∀ i : Fin 6, PFnExactFirstRing.spec_FirstRing.f 1000 ((i.val + 3 : Nat) : Int) = some (ringR (i.val + 3)) := by decide +kernel
theorem ring_at {a : Int} (h : 3 ≤ a ∧ a ≤ 8) : PFnExactFirstRing.spec_FirstRing.f 1000 a = some (ringR a.toNat) := by
  have := ring_fin ⟨a.toNat - 3, by omega⟩
  simp only [show a.toNat - 3 + 3 = a.toNat by omega] at this
  rwa [show ((a.toNat : Nat) : Int) = a by omega] at this
theorem RingFF_in {a : Int} (h : 3 ≤ a ∧ a ≤ 8) : RingFF a = ringR a.toNat := if_pos h
theorem RingFF_out {a : Int} (h : ¬ (3 ≤ a ∧ a ≤ 8)) : RingFF a = ([], false) := if_neg h
theorem specFirstRing_calls (a : Int) (w : World) (ha : W64 a) :
    Calls Try.prog 14 #[.int .i64 a] w fun e w' => ∃ v, e = .returned (.tuple #[v, .bool (RingFF a).2]) ∧ Ow w' w.heap.size v (RingFF a).1 ∧ Below w.heap.size w w' := by
  refine PFnExactFirstRing.spec_FirstRing.calls 1000 a (RingFF a).1 (RingFF a).2 w ?_
  by_cases h : 3 ≤ a ∧ a ≤ 8
  · rw [RingFF_in h, ring_at h]
  · rw [RingFF_out h]
    unfold PFnExactFirstRing.spec_FirstRing.f PFnExactFirstRing.spec_l1In.f
    by_cases h1 : a ≥ 3
    · rw [if_pos h1, Option.bind_some, if_neg (by simp; omega)]
    · rw [if_neg h1, Option.bind_some, if_neg (by simp)]
theorem ring_calls (n f : Nat) (hn : n ≤ 8) : RingC n f := by
  induction f with
  | zero => exact ring_step n 0 hn (fun f' h => by omega)
  | succ f ih => exact ring_step n (f + 1) hn (fun f' h => by rw [show f' = f by omega]; exact ih)
set_option maxHeartbeats 1600000 in
theorem implFirstRing_calls (a : Int) (w : World) (ha : W64 a) :
    Calls Try.prog 15 #[.int .i64 a] w fun e w' => ∃ v, e = .returned (.tuple #[v, .bool (RingFF a).2]) ∧ Ow w' w.heap.size v (RingFF a).1 ∧ Below w.heap.size w w' := by
  have HB := Aside0.mk (Below.refl w.heap.size w)
  by_cases h : 3 ≤ a ∧ a ≤ 8
  · obtain ⟨n, rfl⟩ : ∃ n : Nat, (n : Int) = a := ⟨a.toNat, by omega⟩
    have HC := Aside0.mk (ring_calls n (n - 1) (by omega))
    have HFR := Aside0.mk (show RingFF (n : Int) = ringR n from RingFF_in h)
    clear ha
    by_cases hg : (ringF n (n - 1) [0]).2 = true
    · have HG := Aside0.mk hg
      have HF := Aside0.mk (show RingFF (n : Int) = ((ringF n (n - 1) [0]).1, true) by rw [HFR.out, ringR, if_pos hg])
      clear hg
      go_enter Try.func15, Try.ntmps15
      go_wp2_with (first | ((with_reducible refine gate_dst (N := 13) rfl ?_); refine Kd.R_lit (Kd.int .i64) _ 3 ?hg (N := 13) ?hd (xs := ([(0 : Int)] : List Int)) (inner := [.int .i64 ((0 : Int))]) (ok := fun _ => True) (okp := fun _ => True) ?hr ?hp (fun _ hk => hk) trivial (Below.refl _ _) (Nat.le_refl _) (by simp) ?_; (case hd => rfl); (case hg => rfl); (case hr => first | (go_simp; done) | (go_simp; rfl)); (case hp => exact (Reps.one (show Kd.M (Kd.int .i64) _ _ _ ((0 : Int)) [.int .i64 ((0 : Int))] from rfl) (Reps.none _ _))); intro v1 w1 ho8 hb hg_ hnew_; clear hg_ hnew_; have HO := Aside0.mk (Ow_lower (B' := w.heap.size) ho8 (below_size (by repeat (first | (with_reducible first | exact HB.out | apply below_alloc | apply pw_below_drewN | apply below_drew1) | exact HB.out)))); have n2_ := Aside0.mk (below_step (by repeat (first | (with_reducible first | exact HB.out | apply below_alloc | apply pw_below_drewN | apply below_drew1) | exact HB.out)) hb); clear HB; have HB := n2_; clear n2_ hb ho8) | (go_at_call 24; refine (HC.out v1 [0] w.heap.size _ (by first | exact HO.out | exact Ow_drewN HO.out _) (below_size (by repeat (first | (with_reducible first | exact HB.out | apply below_alloc | apply pw_below_drewN | apply below_drew1) | exact HB.out))) (by simp) (by simp; omega) (by intro x hx; simp at hx; omega)).mono ?_; rw [HG.out]; rintro e w3 ⟨u3, rfl, ho, hb⟩; have n1_ := Aside0.mk ho; have n0_ := Aside0.mk (below_step (by repeat (first | (with_reducible first | exact HB.out | apply below_alloc | apply pw_below_drewN | apply below_drew1) | exact HB.out)) hb); clear HB HO ho hb; have HB := n0_; have HO := n1_; clear n0_ n1_))
      repeat (go_quiet (fail); try go_wp2)
      go_ret2
      exact ⟨_, by rw [HF.out]; rfl, by rw [HF.out]; exact (by first | exact HO.out | exact Ow_drewN HO.out _), (by repeat (first | (with_reducible first | exact HB.out | apply below_alloc | apply pw_below_drewN | apply below_drew1) | exact HB.out))⟩
    · have HG := Aside0.mk (show (ringF n (n - 1) [0]).2 = false by simpa using hg)
      have HF := Aside0.mk (show RingFF (n : Int) = ([], false) by rw [HFR.out, ringR, if_neg hg])
      clear hg
      go_enter Try.func15, Try.ntmps15
      go_wp2_with (first | ((with_reducible refine gate_dst (N := 13) rfl ?_); refine Kd.R_lit (Kd.int .i64) _ 3 ?hg (N := 13) ?hd (xs := ([(0 : Int)] : List Int)) (inner := [.int .i64 ((0 : Int))]) (ok := fun _ => True) (okp := fun _ => True) ?hr ?hp (fun _ hk => hk) trivial (Below.refl _ _) (Nat.le_refl _) (by simp) ?_; (case hd => rfl); (case hg => rfl); (case hr => first | (go_simp; done) | (go_simp; rfl)); (case hp => exact (Reps.one (show Kd.M (Kd.int .i64) _ _ _ ((0 : Int)) [.int .i64 ((0 : Int))] from rfl) (Reps.none _ _))); intro v1 w1 ho8 hb hg_ hnew_; clear hg_ hnew_; have HO := Aside0.mk (Ow_lower (B' := w.heap.size) ho8 (below_size (by repeat (first | (with_reducible first | exact HB.out | apply below_alloc | apply pw_below_drewN | apply below_drew1) | exact HB.out)))); have n2_ := Aside0.mk (below_step (by repeat (first | (with_reducible first | exact HB.out | apply below_alloc | apply pw_below_drewN | apply below_drew1) | exact HB.out)) hb); clear HB; have HB := n2_; clear n2_ hb ho8) | (go_at_call 24; refine (HC.out v1 [0] w.heap.size _ (by first | exact HO.out | exact Ow_drewN HO.out _) (below_size (by repeat (first | (with_reducible first | exact HB.out | apply below_alloc | apply pw_below_drewN | apply below_drew1) | exact HB.out))) (by simp) (by simp; omega) (by intro x hx; simp at hx; omega)).mono ?_; rw [HG.out]; rintro e w3 ⟨u3, rfl, ho, hb⟩; have n1_ := Aside0.mk ho; have n0_ := Aside0.mk (below_step (by repeat (first | (with_reducible first | exact HB.out | apply below_alloc | apply pw_below_drewN | apply below_drew1) | exact HB.out)) hb); clear HB HO ho hb; have HB := n0_; have HO := n1_; clear n0_ n1_))
      repeat (go_quiet (fail); try go_wp2)
      go_ret2
      exact ⟨_, by rw [HF.out]; rfl, by rw [HF.out]; exact Kd.R_nil _ _ _ _ _, (by repeat (first | (with_reducible first | exact HB.out | apply below_alloc | apply pw_below_drewN | apply below_drew1) | exact HB.out))⟩
  · have HF := Aside0.mk (RingFF_out h)
    by_cases h3 : a < 3
    · go_enter Try.func15, Try.ntmps15
      (go_wp2; repeat (go_quiet (fail); try go_wp2))
      go_ret2
      exact ⟨_, by rw [HF.out]; rfl, by rw [HF.out]; exact Kd.R_nil _ _ _ _ _, (by repeat (first | (with_reducible first | exact HB.out | apply below_alloc | apply pw_below_drewN | apply below_drew1) | exact HB.out))⟩
    · have h8 : 8 < a := by omega
      go_enter Try.func15, Try.ntmps15
      (go_wp2; repeat (go_quiet (fail); try go_wp2))
      go_ret2
      exact ⟨_, by rw [HF.out]; rfl, by rw [HF.out]; exact Kd.R_nil _ _ _ _ _, (by repeat (first | (with_reducible first | exact HB.out | apply below_alloc | apply pw_below_drewN | apply below_drew1) | exact HB.out))⟩
end Go.Proofs.Ytaodmegnbkimeaa.Own.G
