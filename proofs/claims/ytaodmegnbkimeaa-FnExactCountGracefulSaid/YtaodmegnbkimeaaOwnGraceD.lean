/- Graceful labels of a tree, the first ones and how many: what the reference's CountGraceful and FirstGraceful return; lists of at most 1048576 numbers. -/
import Derived.Test.YtaodmegnbkimeaaOwnGraceC
namespace Go.Proofs.Ytaodmegnbkimeaa.Own.G
open Go.RowKit Go.Proofs.YtaodmegnbkimeaaW.PrintWords Go.Proofs.YtaodmegnbkimeaaW.PrintLast Go.Proofs.YtaodmegnbkimeaaW.PrintMore
set_option linter.unusedVariables false
theorem fold_look1 (L : List (List Int)) : ∀ s : Nat × List Int, 0 < s.1 → L.foldl nextLook s = (s.1 + L.length, s.2) := by
  induction L with
  | nil => intro s _; rfl
  | cons x L ih =>
    intro s hs
    rw [List.foldl_cons, ih _ (by show 0 < s.1 + 1; omega)]
    show (s.1 + 1 + L.length, if s.1 = 0 then x else s.2) = _
    rw [if_neg (by omega), List.length_cons]
    congr 1
    omega
theorem fold_look (L : List (List Int)) : L.foldl nextLook (0, []) = (L.length, (headOf L).1) := by
  cases L with
  | nil => rfl
  | cons x L =>
    rw [List.foldl_cons, fold_look1 _ _ (by show 0 < 0 + 1; omega)]
    show (0 + 1 + L.length, x) = _
    rw [List.length_cons]
    congr 1
    omega
theorem goLook_eq (P : List Int) : (goLook P P.length [] (0, [])).1 = ((grL P).length, (headOf (grL P)).1) := by
  rw [goLook, (grS P).go_all nextLook, ← fold_look]
  rfl
theorem headOf_some (L : List (List Int)) : (L.length = 0 → headOf L = ([], false)) ∧ (¬ L.length = 0 → headOf L = ((headOf L).1, true)) := by
  cases L with
  | nil => exact ⟨fun _ => rfl, fun h => absurd rfl h⟩
  | cons x L => exact ⟨fun h => by simp at h, fun _ => rfl⟩
theorem setCell_size (w : World) (a : Addr) (u : Value) : (w.setCell a u).heap.size = w.heap.size := by simp [World.setCell]
theorem look_start (w : World) : StLook w.heap.size (w.heap.size + 1) w.heap.size ((w.alloc (.cells #[.int .i64 0] 3)).alloc (.cells #[.slice none 0 0] 22)) (0, []) := by
  refine ⟨(Var.new w _ _).below (below_alloc (Below.refl _ _) _), .slice none 0 0, ?_, Kd.R_nil _ _ _ _ _⟩
  have h2 := Var.new (w.alloc (.cells #[.int .i64 0] 3)) (.slice none 0 0) 22
  have e : (w.alloc (.cells #[.int .i64 0] 3)).heap.size = w.heap.size + 1 := by simp
  rwa [e] at h2
set_option maxHeartbeats 3200000 in
theorem grAll_calls (A : Option Addr) (c : Nat) (P : List Int) (w : World) (hr : Rd w A P) (hc : P.length ≤ c) (ht : Tree P) :
    Calls Try.prog 17 #[.slice A P.length c] w fun e w' => ∃ v, e = .returned (.tuple #[.int .i64 ((grL P).length : Int), v]) ∧ Ow w' w.heap.size v (headOf (grL P)).1 ∧ Below w.heap.size w w' := by
  have HR := Aside0.mk hr
  have HC := Aside0.mk hc
  have HE := Aside0.mk (look_calls w A c P P.length w.heap.size (w.heap.size + 1) hr hc ht (Nat.le_refl _) (by omega) (by omega))
  have HGE := Aside0.mk (goLook_eq P)
  have HSZ := Aside0.mk (show (0, ([] : List Int)).1 + P.length ^ P.length ≤ 1000000000 by have := pow9 (n := P.length) ht.1.1.2; show 0 + P.length ^ P.length ≤ _; omega)
  have hcn := cell_of_one (Var.new w (.int .i64 0) 3)
  have hfn := free_of_one (Var.new w (.int .i64 0) 3)
  have HLS := Aside0.mk (look_start w)
  have HM0 := Aside0.mk (show Mask 0 [] from ⟨by decide, fun y hy => by simp⟩)
  clear hr hc ht
  go_enter Try.func17, Try.ntmps17
  go_wp2_with (go_at_call 25; refine (HE.out (.slice none 0 0) [] 0 0 _ (0, []) (by repeat (first | exact Below.refl _ _ | apply below_alloc | apply pw_below_drewN | apply below_drew1 | (refine Below.setCell ?_ (by first | exact Nat.le_refl _ | (show _ ≤ _; omega)) _))) (Kd.R_nil _ _ _ _ _) (fun k hk => by simp [Value.ownBlock] at hk) HLS.out (by simp) HSZ.out (fun x hx => by cases hx) HM0.out HM0.out (fun i hi => by simp [edges] at hi)).mono ?_; rw [HGE.out]; rintro e w1 ⟨rfl, ⟨hv, v, hvf, ho⟩, hch⟩; obtain ⟨Av, cv, rfl⟩ := Kd.R_slice ho; have hc1 := cell_of_one hv; have hc2 := cell_of_one hvf; have HO := Aside0.mk ho; have HB := Aside0.mk (((by repeat (first | exact Below.refl _ _ | apply below_alloc | apply pw_below_drewN | apply below_drew1 | (refine Below.setCell ?_ (by first | exact Nat.le_refl _ | (show _ ≤ _; omega)) _))) : Below w.heap.size w _).trans (hch.to ((by repeat (first | exact Below.refl _ _ | apply below_alloc | apply pw_below_drewN | apply below_drew1 | (refine Below.setCell ?_ (by first | exact Nat.le_refl _ | (show _ ≤ _; omega)) _))) : Below w.heap.size w _).size (fun k hk hq => by omega))); clear hv hvf hch ho)
  repeat (go_quiet (fail); try go_wp2)
  go_ret2
  exact ⟨_, rfl, Kd.R_mono (by first | exact HO.out | exact Kd.R_drewN HO.out _) (fun _ _ => trivial), (by repeat (first | (with_reducible first | exact HB.out | apply below_alloc | apply pw_below_drewN | apply below_drew1) | exact HB.out))⟩
set_option maxHeartbeats 3200000 in
theorem specCountGraceful_calls (A : Option Addr) (c : Nat) (P : List Int) (w : World) (hr : Rd w A P) (hc : P.length ≤ c) (hn : P.length ≤ 1048576) (hw : ∀ x ∈ P, W64 x) :
    Calls Try.prog 6 #[.slice A P.length c] w fun e w' => e = .returned (.tuple #[.int .i64 (GCountF P).1, .bool (GCountF P).2]) ∧ Below w.heap.size w w' := by
  have HR := Aside0.mk hr
  have HC := Aside0.mk hc
  have HB := Aside0.mk (Below.refl w.heap.size w)
  clear hw hr hc
  by_cases h : Tree P
  · have HT := Aside0.mk (tf_pos h)
    have HTR := Aside0.mk h
    have HF := Aside0.mk (GCountF_yes h)
    clear h
    go_enter Try.func6, Try.ntmps6
    go_wp2_with (first | (go_at_call 16; refine (grTree_calls _ _ P _ (by first | exact HR.out | exact Kd.C_drewN HR.out _) HC.out hn).mono ?_; rw [HT.out]; rintro e w' ⟨rfl, ⟨nd, rfl⟩⟩) | (go_at_call 17; refine (grAll_calls A c P _ (Kd.C_below HR.out (by repeat (first | (with_reducible first | exact HB.out | apply below_alloc | apply pw_below_drewN | apply below_drew1) | exact HB.out))) HC.out HTR.out).mono ?_; rintro e w1 ⟨v, rfl, ho, hb⟩; have HO := Aside0.mk (Ow_lower ho (below_size (by repeat (first | (with_reducible first | exact HB.out | apply below_alloc | apply pw_below_drewN | apply below_drew1) | exact HB.out)))); have n0_ := Aside0.mk (below_step (by repeat (first | (with_reducible first | exact HB.out | apply below_alloc | apply pw_below_drewN | apply below_drew1) | exact HB.out)) hb); clear HB ho hb; have HB := n0_; clear n0_))
    repeat (go_quiet (fail); try go_wp2)
    go_ret2
    exact ⟨by rw [HF.out]; rfl, (by repeat (first | (with_reducible first | exact HB.out | apply below_alloc | apply pw_below_drewN | apply below_drew1) | exact HB.out))⟩
  · have HT := Aside0.mk (tf_neg h)
    have HF := Aside0.mk (GCountF_no h)
    clear h
    go_enter Try.func6, Try.ntmps6
    go_wp2_with ((go_at_call 16; refine (grTree_calls _ _ P _ (by first | exact HR.out | exact Kd.C_drewN HR.out _) HC.out hn).mono ?_; rw [HT.out]; rintro e w' ⟨rfl, ⟨nd, rfl⟩⟩))
    go_ret2
    exact ⟨by rw [HF.out]; rfl, (by repeat (first | (with_reducible first | exact HB.out | apply below_alloc | apply pw_below_drewN | apply below_drew1) | exact HB.out))⟩
set_option maxHeartbeats 3200000 in
theorem specFirstGraceful_calls (A : Option Addr) (c : Nat) (P : List Int) (w : World) (hr : Rd w A P) (hc : P.length ≤ c) (hn : P.length ≤ 1048576) (hw : ∀ x ∈ P, W64 x) :
    Calls Try.prog 10 #[.slice A P.length c] w fun e w' => ∃ v, e = .returned (.tuple #[v, .bool (GFirstF P).2]) ∧ Ow w' w.heap.size v (GFirstF P).1 ∧ Below w.heap.size w w' := by
  have HR := Aside0.mk hr
  have HC := Aside0.mk hc
  have HB := Aside0.mk (Below.refl w.heap.size w)
  clear hw hr hc
  by_cases h : Tree P
  · have HT := Aside0.mk (tf_pos h)
    have HTR := Aside0.mk h
    have HF0 := GFirstF_yes h
    by_cases h0 : (grL P).length = 0
    · have HF := Aside0.mk (HF0.trans ((headOf_some _).1 h0))
      have h0i : (((grL P).length : Int) == 0) = true := beq_iff_eq.mpr (by omega)
      clear h HF0 h0
      go_enter Try.func10, Try.ntmps10
      go_wp2_with (first | (go_at_call 16; refine (grTree_calls _ _ P _ (by first | exact HR.out | exact Kd.C_drewN HR.out _) HC.out hn).mono ?_; rw [HT.out]; rintro e w' ⟨rfl, ⟨nd, rfl⟩⟩) | (go_at_call 17; refine (grAll_calls A c P _ (Kd.C_below HR.out (by repeat (first | (with_reducible first | exact HB.out | apply below_alloc | apply pw_below_drewN | apply below_drew1) | exact HB.out))) HC.out HTR.out).mono ?_; rintro e w1 ⟨v, rfl, ho, hb⟩; have HO := Aside0.mk (Ow_lower ho (below_size (by repeat (first | (with_reducible first | exact HB.out | apply below_alloc | apply pw_below_drewN | apply below_drew1) | exact HB.out)))); have n0_ := Aside0.mk (below_step (by repeat (first | (with_reducible first | exact HB.out | apply below_alloc | apply pw_below_drewN | apply below_drew1) | exact HB.out)) hb); clear HB ho hb; have HB := n0_; clear n0_))
      repeat (go_quiet (fail); try go_wp2)
      go_ret2
      exact ⟨_, by rw [HF.out]; rfl, by rw [HF.out]; exact Kd.R_nil _ _ _ _ _, (by repeat (first | (with_reducible first | exact HB.out | apply below_alloc | apply pw_below_drewN | apply below_drew1) | exact HB.out))⟩
    · have HF := Aside0.mk (HF0.trans ((headOf_some _).2 h0))
      have h0i : (((grL P).length : Int) == 0) = false := beq_eq_false_iff_ne.mpr (by omega)
      clear h HF0 h0
      go_enter Try.func10, Try.ntmps10
      go_wp2_with (first | (go_at_call 16; refine (grTree_calls _ _ P _ (by first | exact HR.out | exact Kd.C_drewN HR.out _) HC.out hn).mono ?_; rw [HT.out]; rintro e w' ⟨rfl, ⟨nd, rfl⟩⟩) | (go_at_call 17; refine (grAll_calls A c P _ (Kd.C_below HR.out (by repeat (first | (with_reducible first | exact HB.out | apply below_alloc | apply pw_below_drewN | apply below_drew1) | exact HB.out))) HC.out HTR.out).mono ?_; rintro e w1 ⟨v, rfl, ho, hb⟩; have HO := Aside0.mk (Ow_lower ho (below_size (by repeat (first | (with_reducible first | exact HB.out | apply below_alloc | apply pw_below_drewN | apply below_drew1) | exact HB.out)))); have n0_ := Aside0.mk (below_step (by repeat (first | (with_reducible first | exact HB.out | apply below_alloc | apply pw_below_drewN | apply below_drew1) | exact HB.out)) hb); clear HB ho hb; have HB := n0_; clear n0_))
      repeat (go_quiet (fail); try go_wp2)
      go_ret2
      exact ⟨_, by rw [HF.out]; rfl, by rw [HF.out]; exact (by first | exact HO.out | exact Ow_drewN HO.out _), (by repeat (first | (with_reducible first | exact HB.out | apply below_alloc | apply pw_below_drewN | apply below_drew1) | exact HB.out))⟩
  · have HT := Aside0.mk (tf_neg h)
    have HF := Aside0.mk (GFirstF_no h)
    clear h
    go_enter Try.func10, Try.ntmps10
    go_wp2_with ((go_at_call 16; refine (grTree_calls _ _ P _ (by first | exact HR.out | exact Kd.C_drewN HR.out _) HC.out hn).mono ?_; rw [HT.out]; rintro e w' ⟨rfl, ⟨nd, rfl⟩⟩))
    go_ret2
    exact ⟨_, by rw [HF.out]; rfl, by rw [HF.out]; exact Kd.R_nil _ _ _ _ _, (by repeat (first | (with_reducible first | exact HB.out | apply below_alloc | apply pw_below_drewN | apply below_drew1) | exact HB.out))⟩
end Go.Proofs.Ytaodmegnbkimeaa.Own.G
