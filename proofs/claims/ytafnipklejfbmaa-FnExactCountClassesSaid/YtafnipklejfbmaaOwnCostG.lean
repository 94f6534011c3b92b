/- All Costas dots of n, the first ones and how many: what the reference's AllCostas, FirstCostas and CountCostas return; no condition. -/
import Derived.Test.YtafnipklejfbmaaOwnCostF
import Derived.Test.YtafnipklejfbmaaOwnLiveF
namespace Go.Proofs.Ytafnipklejfbmaa.Own.G
open Go.RowKit Go.Proofs.YtafnipklejfbmaaW.PrintWords Go.Proofs.YtafnipklejfbmaaW.PrintLast Go.Proofs.YtafnipklejfbmaaW.PrintMore
set_option linter.unusedVariables false
theorem OwN_fr {w : World} {B C : Nat} {v : Value} {l : List (List Int)} (h : OwN w B C v l) : Fr (Kd.slice 3 (Kd.int .i64)) w C v l := by
  obtain ⟨A, c, e, hc, _⟩ := Kd.N_reads h
  subst e
  exact ⟨A, c, rfl, hc, Kd.N_F h⟩
theorem Fr_nil {α : Type} (d : Kd α) (w : World) (C : Nat) : Fr d w C (.slice none 0 0) ([] : List α) := ⟨none, 0, rfl, Nat.le_refl _, Kd.F_nil d w _⟩
theorem Fr_drewN {α : Type} {d : Kd α} {w : World} {C : Nat} {v : Value} {l : List α} (h : Fr d w C v l) (n : Nat) : Fr d (w.drewN n) C v l := by
  obtain ⟨A, c, e, hc, hf⟩ := h
  exact ⟨A, c, e, hc, Kd.F_drewN hf n⟩
/-- The first row of such a list. -/
theorem OwN_head {w : World} {B C n cap : Nat} {ad : Addr} {x : List Int} {l : List (List Int)} (h : OwN w B C (.slice (some ad) n cap) (x :: l)) : ∃ A c, w.cell? ad = some (.slice A x.length c) ∧ Fr (Kd.int .i64) w C (.slice A x.length c) x := by
  have hn : n = (x :: l).length := (Kd.N_reads' h).1
  obtain ⟨c, hcl, hf, hcc⟩ := Kd.N_get h ([] : List Int) 0 (by omega) (by rw [hn, List.length_cons]; omega)
  obtain ⟨A, c0, rfl, hc0, hF⟩ := Kd.FK_slice_open hf
  refine ⟨A, c0, ?_, A, c0, rfl, hc0, Kd.F_mono hF (fun k hk => hk.1)⟩
  have := hcc 0 _ rfl
  simpa [Addr.add] using this
set_option maxHeartbeats 1600000 in
theorem specAllCostas_calls (a : Int) (w : World) (ha : W64 a) :
    Calls Try.prog 10 #[.int .i64 a] w fun e w' => ∃ v, e = .returned (.tuple #[v, .bool (AllF a).2]) ∧ Fr (Kd.slice 3 (Kd.int .i64)) w' w.heap.size v (AllF a).1 ∧ Below w.heap.size w w' := by
  have HB := Aside0.mk (Below.refl w.heap.size w)
  by_cases h : 1 ≤ a ∧ a ≤ 7
  · have HT := Aside0.mk (within_yes h)
    obtain ⟨n, rfl⟩ : ∃ n : Nat, (n : Int) = a := ⟨a.toNat, by omega⟩
    have HC := Aside0.mk (doAll_calls n n (by omega))
    have HD := Aside0.mk (dF_all (n := n) (by omega))
    have HF := Aside0.mk (show AllF (n : Int) = (allR n, true) from AllF_in h)
    go_enter Try.func10, Try.ntmps10
    go_wp2_with (first | (go_at_call 24; refine (in_calls _ _ _ _).mono ?_; rw [HT.out]; rintro e w' ⟨rfl, ⟨nd, rfl⟩⟩) | (go_at_call 25; refine (HC.out none 0 [] _ _ (Kd.C_nil _ _) (Nat.le_refl _) (by simp) (by omega) (by omega) (fun x hx => by cases hx)).mono ?_; rw [HD.out]; rintro e w1 ⟨v, rfl, ho, hb⟩; have HO := Aside0.mk (Kd.N_mono (ok' := fun k => w.heap.size ≤ k) (Kd.N_lower ho (below_size (by repeat (first | (with_reducible first | exact HB.out | apply below_alloc | apply pw_below_drewN | apply below_drew1) | exact HB.out)))) (fun k hk => Nat.le_trans (below_size (by repeat (first | (with_reducible first | exact HB.out | apply below_alloc | apply pw_below_drewN | apply below_drew1) | exact HB.out))) hk)); have n0_ := Aside0.mk (below_step (by repeat (first | (with_reducible first | exact HB.out | apply below_alloc | apply pw_below_drewN | apply below_drew1) | exact HB.out)) hb); clear HB ho hb; have HB := n0_; clear n0_))
    repeat (go_quiet (fail); try go_wp2)
    go_ret2
    exact ⟨_, by rw [HF.out]; rfl, by rw [HF.out]; first | exact OwN_fr HO.out | exact OwN_fr (Kd.N_drewN HO.out _), (by repeat (first | (with_reducible first | exact HB.out | apply below_alloc | apply pw_below_drewN | apply below_drew1) | exact HB.out))⟩
  · have HT := Aside0.mk (within_no h)
    have HF := Aside0.mk (AllF_out h)
    go_enter Try.func10, Try.ntmps10
    go_wp2_with ((go_at_call 24; refine (in_calls _ _ _ _).mono ?_; rw [HT.out]; rintro e w' ⟨rfl, ⟨nd, rfl⟩⟩))
    go_ret2
    exact ⟨_, by rw [HF.out]; rfl, by rw [HF.out]; exact Fr_nil _ _ _, (by repeat (first | (with_reducible first | exact HB.out | apply below_alloc | apply pw_below_drewN | apply below_drew1) | exact HB.out))⟩
set_option maxHeartbeats 1600000 in
theorem specCountCostas_calls (a : Int) (w : World) (ha : W64 a) :
    Calls Try.prog 8 #[.int .i64 a] w fun e w' => e = .returned (.tuple #[.int .i64 (CountF a).1, .bool (CountF a).2]) ∧ Below w.heap.size w w' := by
  have HB := Aside0.mk (Below.refl w.heap.size w)
  by_cases h : 1 ≤ a ∧ a ≤ 7
  · have HT := Aside0.mk (within_yes h)
    obtain ⟨n, rfl⟩ : ∃ n : Nat, (n : Int) = a := ⟨a.toNat, by omega⟩
    have HC := Aside0.mk (doAll_calls n n (by omega))
    have HD := Aside0.mk (dF_all (n := n) (by omega))
    have HF := Aside0.mk (show CountF (n : Int) = (((allR n).length : Int), true) from CountF_in h)
    go_enter Try.func8, Try.ntmps8
    go_wp2_with (first | (go_at_call 24; refine (in_calls _ _ _ _).mono ?_; rw [HT.out]; rintro e w' ⟨rfl, ⟨nd, rfl⟩⟩) | ((go_at_call 25; refine (HC.out none 0 [] _ _ (Kd.C_nil _ _) (Nat.le_refl _) (by simp) (by omega) (by omega) (fun x hx => by cases hx)).mono ?_; rw [HD.out]; rintro e w1 ⟨v, rfl, ho, hb⟩; have HO := Aside0.mk (Kd.N_mono (ok' := fun k => w.heap.size ≤ k) (Kd.N_lower ho (below_size (by repeat (first | (with_reducible first | exact HB.out | apply below_alloc | apply pw_below_drewN | apply below_drew1) | exact HB.out)))) (fun k hk => Nat.le_trans (below_size (by repeat (first | (with_reducible first | exact HB.out | apply below_alloc | apply pw_below_drewN | apply below_drew1) | exact HB.out))) hk)); have n0_ := Aside0.mk (below_step (by repeat (first | (with_reducible first | exact HB.out | apply below_alloc | apply pw_below_drewN | apply below_drew1) | exact HB.out)) hb); clear HB ho hb; have HB := n0_; clear n0_); obtain ⟨A4, c4, e4_⟩ := Kd.N_slice HO.out; subst e4_))
    repeat (go_quiet (fail); try go_wp2)
    go_ret2
    exact ⟨by rw [HF.out]; rfl, (by repeat (first | (with_reducible first | exact HB.out | apply below_alloc | apply pw_below_drewN | apply below_drew1) | exact HB.out))⟩
  · have HT := Aside0.mk (within_no h)
    have HF := Aside0.mk (CountF_out h)
    go_enter Try.func8, Try.ntmps8
    go_wp2_with ((go_at_call 24; refine (in_calls _ _ _ _).mono ?_; rw [HT.out]; rintro e w' ⟨rfl, ⟨nd, rfl⟩⟩))
    go_ret2
    exact ⟨by rw [HF.out]; rfl, (by repeat (first | (with_reducible first | exact HB.out | apply below_alloc | apply pw_below_drewN | apply below_drew1) | exact HB.out))⟩
set_option maxHeartbeats 1600000 in
theorem specFirstCostas_calls (a : Int) (w : World) (ha : W64 a) :
    Calls Try.prog 15 #[.int .i64 a] w fun e w' => ∃ v, e = .returned (.tuple #[v, .bool (FirstF a).2]) ∧ Fr (Kd.int .i64) w' w.heap.size v (FirstF a).1 ∧ Below w.heap.size w w' := by
  have HB := Aside0.mk (Below.refl w.heap.size w)
  by_cases h : 1 ≤ a ∧ a ≤ 9
  · have HT := Aside0.mk (within_yes h)
    obtain ⟨n, rfl⟩ : ∃ n : Nat, (n : Int) = a := ⟨a.toNat, by omega⟩
    have HC := Aside0.mk (doAll_calls n n (by omega))
    have HD := Aside0.mk (dF_first (n := n) (by omega) (by omega))
    have HF := Aside0.mk (show FirstF (n : Int) = (firstR n, true) from FirstF_in h)
    go_enter Try.func15, Try.ntmps15
    go_wp2_with (first | (go_at_call 24; refine (in_calls _ _ _ _).mono ?_; rw [HT.out]; rintro e w' ⟨rfl, ⟨nd, rfl⟩⟩) | ((go_at_call 25; refine (HC.out none 0 [] _ _ (Kd.C_nil _ _) (Nat.le_refl _) (by simp) (by omega) (by omega) (fun x hx => by cases hx)).mono ?_; rw [HD.out]; rintro e w1 ⟨v, rfl, ho, hb⟩; have HO := Aside0.mk (Kd.N_mono (ok' := fun k => w.heap.size ≤ k) (Kd.N_lower ho (below_size (by repeat (first | (with_reducible first | exact HB.out | apply below_alloc | apply pw_below_drewN | apply below_drew1) | exact HB.out)))) (fun k hk => Nat.le_trans (below_size (by repeat (first | (with_reducible first | exact HB.out | apply below_alloc | apply pw_below_drewN | apply below_drew1) | exact HB.out))) hk)); have n0_ := Aside0.mk (below_step (by repeat (first | (with_reducible first | exact HB.out | apply below_alloc | apply pw_below_drewN | apply below_drew1) | exact HB.out)) hb); clear HB ho hb; have HB := n0_; clear n0_); obtain ⟨g4, c4, e4_, _⟩ := Kd.N_form HO.out (by simp); subst e4_; obtain ⟨A0, c0, hx, hfr⟩ := OwN_head HO.out; have HFR := Aside0.mk hfr; clear hfr HO))
    repeat (go_quiet (fail); try go_wp2)
    go_ret2
    exact ⟨_, by rw [HF.out]; rfl, by rw [HF.out]; first | exact HFR.out | exact Fr_drewN HFR.out _, (by repeat (first | (with_reducible first | exact HB.out | apply below_alloc | apply pw_below_drewN | apply below_drew1) | exact HB.out))⟩
  · have HT := Aside0.mk (within_no h)
    have HF := Aside0.mk (FirstF_out h)
    go_enter Try.func15, Try.ntmps15
    go_wp2_with ((go_at_call 24; refine (in_calls _ _ _ _).mono ?_; rw [HT.out]; rintro e w' ⟨rfl, ⟨nd, rfl⟩⟩))
    go_ret2
    exact ⟨_, by rw [HF.out]; rfl, by rw [HF.out]; exact Fr_nil _ _ _, (by repeat (first | (with_reducible first | exact HB.out | apply below_alloc | apply pw_below_drewN | apply below_drew1) | exact HB.out))⟩
end Go.Proofs.Ytafnipklejfbmaa.Own.G
