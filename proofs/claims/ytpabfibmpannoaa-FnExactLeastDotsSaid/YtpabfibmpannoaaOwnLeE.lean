/- The least of eight images of dots: what the reference's and the program's LeastDots return; lists of at most 1048576 numbers. -/
import Derived.Test.YtpabfibmpannoaaOwnLeD
namespace Go.Proofs.Ytpabfibmpannoaa.Own.G
open Go.RowKit Go.Proofs.YtpabfibmpannoaaW.PrintWords Go.Proofs.YtpabfibmpannoaaW.PrintLast Go.Proofs.YtpabfibmpannoaaW.PrintMore
set_option linter.unusedVariables false
theorem pick_length {x b : List Int} {n : Nat} (hx : x.length = n) (hb : b.length = n) : (pick x b).length = n := by unfold pick; split; exact hx; exact hb
theorem leI_length {n : Nat} : ∀ (g : Nat) (q b : List Int), q.length = n → b.length = n → (leI g q b).length = n := by
  intro g
  induction g with
  | zero => intro q b _ hb; exact hb
  | succ g ih => intro q b hq hb; exact ih _ _ (by rw [turnOf_length]; exact hq) (pick_length (by rw [List.length_reverse, turnOf_length]; exact hq) (pick_length (by rw [turnOf_length]; exact hq) hb))
theorem leastI_length (p : List Int) : (leastI p).length = p.length := leI_length 4 p p rfl rfl
noncomputable def LeastF (l : List Int) : List Int × Bool := if tf (Dots l) = true then (leastI l, true) else ([], false)
theorem LeastF_yes {l : List Int} (h : Dots l) : LeastF l = (leastI l, true) := if_pos (tf_pos h)
theorem LeastF_no {l : List Int} (h : ¬ Dots l) : LeastF l = ([], false) := if_neg (by rw [tf_neg h]; decide)
theorem LeastF_len (l : List Int) (hn : l.length ≤ 1048576) : (LeastF l).1.length ≤ 1048576 := by
  by_cases h : Dots l
  · rw [LeastF_yes h]; show (leastI l).length ≤ _; rw [leastI_length]; exact hn
  · rw [LeastF_no h]; simp
set_option maxHeartbeats 1600000 in
theorem specLeast_calls (A : Option Addr) (c : Nat) (l : List Int) (w : World) (hr : Rd w A l) (hc : l.length ≤ c) (hn : l.length ≤ 1048576) (hw : ∀ x ∈ l, W64 x) :
    Calls Try.prog 18 #[.slice A l.length c] w fun e w' => ∃ v, e = .returned (.tuple #[v, .bool (LeastF l).2]) ∧ Ow w' w.heap.size v (LeastF l).1 ∧ Below w.heap.size w w' := by
  have HR := Aside0.mk hr
  have HC := Aside0.mk hc
  have HB := Aside0.mk (Below.refl w.heap.size w)
  clear hr hc hw
  by_cases h : Dots l
  · have HT := Aside0.mk (tf_pos h)
    have HD := Aside0.mk h
    have HF := Aside0.mk (LeastF_yes h)
    have HE := Aside0.mk (least_eq h)
    clear h
    go_enter Try.func18, Try.ntmps18
    go_wp2_with (first | (go_at_call 41; refine (doGood_calls A c l _ (Kd.C_below HR.out (by repeat (first | (with_reducible first | exact HB.out | apply below_alloc | apply pw_below_drewN | apply below_drew1) | exact HB.out))) HC.out hn).mono ?_; rw [HT.out]; rintro e w' ⟨rfl, ⟨nd, rfl⟩⟩) | (go_at_call 42; refine (doLeast_calls A c l _ (Kd.C_below HR.out (by repeat (first | (with_reducible first | exact HB.out | apply below_alloc | apply pw_below_drewN | apply below_drew1) | exact HB.out))) HC.out HD.out).mono ?_; rw [HE.out]; rintro e w1 ⟨v1, rfl, ho, hb⟩; have HO := Aside0.mk (Ow_lower (B' := w.heap.size) ho (below_size (by repeat (first | (with_reducible first | exact HB.out | apply below_alloc | apply pw_below_drewN | apply below_drew1) | exact HB.out)))); have n0_ := Aside0.mk (below_step (by repeat (first | (with_reducible first | exact HB.out | apply below_alloc | apply pw_below_drewN | apply below_drew1) | exact HB.out)) hb); clear HB ho hb; have HB := n0_; clear n0_))
    repeat (go_quiet (fail); try go_wp2)
    go_ret2
    exact ⟨_, by rw [HF.out]; rfl, by rw [HF.out]; first | exact HO.out | exact Ow_drewN HO.out _, (by repeat (first | (with_reducible first | exact HB.out | apply below_alloc | apply pw_below_drewN | apply below_drew1) | exact HB.out))⟩
  · have HT := Aside0.mk (tf_neg h)
    have HF := Aside0.mk (LeastF_no h)
    clear h
    go_enter Try.func18, Try.ntmps18
    go_wp2_with ((go_at_call 41; refine (doGood_calls A c l _ (Kd.C_below HR.out (by repeat (first | (with_reducible first | exact HB.out | apply below_alloc | apply pw_below_drewN | apply below_drew1) | exact HB.out))) HC.out hn).mono ?_; rw [HT.out]; rintro e w' ⟨rfl, ⟨nd, rfl⟩⟩))
    repeat (go_quiet (fail); try go_wp2)
    go_ret2
    exact ⟨_, by rw [HF.out]; rfl, by rw [HF.out]; exact Kd.R_nil _ _ _ _ _, (by repeat (first | (with_reducible first | exact HB.out | apply below_alloc | apply pw_below_drewN | apply below_drew1) | exact HB.out))⟩
set_option maxHeartbeats 1600000 in
theorem implLeast_calls (A : Option Addr) (c : Nat) (l : List Int) (w : World) (hr : Rd w A l) (hc : l.length ≤ c) (hn : l.length ≤ 1048576) (hw : ∀ x ∈ l, W64 x) :
    Calls Try.prog 19 #[.slice A l.length c] w fun e w' => ∃ v, e = .returned (.tuple #[v, .bool (LeastF l).2]) ∧ Ow w' w.heap.size v (LeastF l).1 ∧ Below w.heap.size w w' := by
  have HR := Aside0.mk hr
  have HC := Aside0.mk hc
  have HB := Aside0.mk (Below.refl w.heap.size w)
  clear hr hc hw
  by_cases h : Dots l
  · have HT := Aside0.mk (tf_pos h)
    have HD := Aside0.mk h
    have HF := Aside0.mk (LeastF_yes h)
    have HLL := Aside0.mk (leastI_length l)
    have hl12 := h.1.2
    clear h
    go_enter Try.func19, Try.ntmps19
    go_wp2_with (first | (go_at_call 43; refine (IsDots_calls A c l _ (Kd.C_below HR.out (by repeat (first | (with_reducible first | exact HB.out | apply below_alloc | apply pw_below_drewN | apply below_drew1) | exact HB.out))) HC.out hn).mono ?_; rw [HT.out]; rintro e w' ⟨rfl, ⟨nd, rfl⟩⟩) | (go_at_call 45; refine (least_calls A c l _ (Kd.C_below HR.out (by repeat (first | (with_reducible first | exact HB.out | apply below_alloc | apply pw_below_drewN | apply below_drew1) | exact HB.out))) HC.out HD.out).mono ?_; generalize leastI l = b at HF HLL; rintro e w1 ⟨v1, rfl, ⟨A1, c1, rfl, hc1, hr1⟩, hb⟩; have HR1 := Aside0.mk hr1; have HC1 := Aside0.mk hc1; have n0_ := Aside0.mk (below_step (by repeat (first | (with_reducible first | exact HB.out | apply below_alloc | apply pw_below_drewN | apply below_drew1) | exact HB.out)) hb); have HS := Aside0.mk (Below.refl w1.heap.size w1); clear HB hr1 hb hc1; have HB := n0_; clear n0_) | (go_at_call 44; refine (Clone_calls A1 c1 b _ (Kd.C_below HR1.out (by first | exact Below.refl _ _ | exact pw_below_drewN (Below.refl _ _) _)) HC1.out (by rw [HLL.out]; omega)).mono ?_; rintro e w2 ⟨v2, rfl, ho, hb⟩; have HO := Aside0.mk (Ow_lower (B' := w.heap.size) ho (below_size (by repeat (first | (with_reducible first | exact HB.out | apply below_alloc | apply pw_below_drewN | apply below_drew1) | exact HB.out)))); have n0_ := Aside0.mk (below_step (by repeat (first | (with_reducible first | exact HB.out | apply below_alloc | apply pw_below_drewN | apply below_drew1) | exact HB.out)) hb); clear HB ho hb; have HB := n0_; clear n0_))
    repeat (go_quiet (fail); try go_wp2)
    go_ret2
    exact ⟨_, by rw [HF.out]; rfl, by rw [HF.out]; first | exact HO.out | exact Ow_drewN HO.out _, (by repeat (first | (with_reducible first | exact HB.out | apply below_alloc | apply pw_below_drewN | apply below_drew1) | exact HB.out))⟩
  · have HT := Aside0.mk (tf_neg h)
    have HF := Aside0.mk (LeastF_no h)
    clear h
    go_enter Try.func19, Try.ntmps19
    go_wp2_with ((go_at_call 43; refine (IsDots_calls A c l _ (Kd.C_below HR.out (by repeat (first | (with_reducible first | exact HB.out | apply below_alloc | apply pw_below_drewN | apply below_drew1) | exact HB.out))) HC.out hn).mono ?_; rw [HT.out]; rintro e w' ⟨rfl, ⟨nd, rfl⟩⟩))
    repeat (go_quiet (fail); try go_wp2)
    go_ret2
    exact ⟨_, by rw [HF.out]; rfl, by rw [HF.out]; exact Kd.R_nil _ _ _ _ _, (by repeat (first | (with_reducible first | exact HB.out | apply below_alloc | apply pw_below_drewN | apply below_drew1) | exact HB.out))⟩
end Go.Proofs.Ytpabfibmpannoaa.Own.G
