/- Rulers with a length, how many, the shortest one and one with the fewest marks: the walks of the reference's ruAll, CountDifferent, CountWhole, ShortestRuler and FewestMarks; no condition. -/
import Derived.Test.YtmmnohdokemchaaOwnRuF
import Derived.Test.YtmmnohdokemchaaOwnRuE
namespace Go.Proofs.Ytmmnohdokemchaa.Own.G
open Go.RowKit Go.Proofs.YtmmnohdokemchaaW.PrintWords Go.Proofs.YtmmnohdokemchaaW.PrintLast Go.Proofs.YtmmnohdokemchaaW.PrintMore
set_option linter.unusedVariables false
theorem headR_pos {R : List (List Int)} (h : 0 < R.length) : headR R = ((headR R).1, true) := by
  cases R with
  | nil => simp at h
  | cons x R => rfl
theorem headR_zero {R : List (List Int)} (h : ¬ 0 < R.length) : headR R = ([], false) := by
  cases R with
  | nil => rfl
  | cons x R => simp at h
theorem look_start (w : World) : StLook w.heap.size (w.heap.size + 1) w.heap.size ((w.alloc (.cells #[.int .i64 0] 3)).alloc (.cells #[.slice none 0 0] 25)) (0, []) := by
  refine ⟨(Var.new w _ _).below (below_alloc (Below.refl _ _) _), .slice none 0 0, ?_, Kd.R_nil _ _ _ _ _⟩
  have h2 := Var.new (w.alloc (.cells #[.int .i64 0] 3)) (.slice none 0 0) 25
  have e : (w.alloc (.cells #[.int .i64 0] 3)).heap.size = w.heap.size + 1 := by simp
  rwa [e] at h2
set_option maxHeartbeats 3200000 in
theorem ruAllD_calls (n L : Nat) (w : World) (hn : 1 ≤ n ∧ n ≤ 12) (hL : L ≤ 24) :
    Calls Try.prog 19 #[.int .i64 (n : Int), .int .i64 (L : Int), .bool false] w fun e w' => ∃ v, e = .returned (.tuple #[.int .i64 ((ruR false n L).length : Int), v]) ∧ Ow w' w.heap.size v (headR (ruR false n L)).1 ∧ Below w.heap.size w w' := by
  obtain ⟨m, hm⟩ : ∃ m, n = m + 1 := ⟨n - 1, by omega⟩
  have HMN := Aside0.mk hm
  have HSP := Aside0.mk (show spL false L m [0] = ruR false n L by rw [← sp_all false hn (by omega), hm]; rfl)
  have HSZ := Aside0.mk (show (0, ([] : List Int)).1 + (spL false L m [0]).length ≤ 100000000000000 by rw [HSP.out]; have := ruR_len false (n := n) (L := L) hn.2 hL; show 0 + _ ≤ _; omega)
  have HL12 := Aside0.mk (show [(0 : Int)].length + m ≤ 12 by simp; omega)
  have HLK := Aside0.mk (lookD_calls L m w.heap.size (w.heap.size + 1) w.heap.size (by omega) (Nat.le_refl _) (by omega) (by omega))
  have HLS := Aside0.mk (look_start w)
  have hcn := cell_of_one (Var.new w (.int .i64 0) 3)
  have hfn := free_of_one (Var.new w (.int .i64 0) 3)
  clear hm
  go_enter Try.func19, Try.ntmps19
  go_wp2_with (first | ((with_reducible refine gate_dst (N := 10) rfl ?_); refine Kd.R_lit (Kd.int .i64) _ 3 ?hg (N := 10) ?hd (xs := ([(0 : Int)] : List Int)) (inner := [.int .i64 (0 : Int)]) (ok := fun _ => True) (okp := fun _ => True) ?hr ?hp (fun _ hk => hk) trivial (Below.refl _ _) (Nat.le_refl _) (by simp) ?_; (case hd => rfl); (case hg => rfl); (case hr => first | (go_simp; done) | (go_simp; rfl)); (case hp => exact (Reps.one (show Kd.M (Kd.int .i64) _ _ _ (0 : Int) [.int .i64 (0 : Int)] from rfl) (Reps.none _ _))); intro v1 w1 ho8 hb hg_ hnew_; clear hg_ hnew_; obtain ⟨A1, c1, e1_⟩ := Kd.R_slice ho8; subst e1_; have HS1 := Aside0.mk (StLook_below HLS.out hb); have HNE := Aside0.mk (fun k (hk : (Value.slice A1 1 c1).ownBlock = some k) => (show k ≠ w.heap.size ∧ k ≠ w.heap.size + 1 by have h1 := Kd.R_base ho8 k hk; have h2 := StLook_lt HLS.out; omega)); have HO1 := Aside0.mk (Ow_lower (B' := w.heap.size) ho8 ((by repeat (first | exact Below.refl _ _ | apply below_alloc | apply pw_below_drewN | apply below_drew1 | (refine Below.setCell ?_ (by first | exact Nat.le_refl _ | (show _ ≤ _; omega)) _))) : Below w.heap.size w _).size); have n2_ := Aside0.mk (below_step ((by repeat (first | exact Below.refl _ _ | apply below_alloc | apply pw_below_drewN | apply below_drew1 | (refine Below.setCell ?_ (by first | exact Nat.le_refl _ | (show _ ≤ _; omega)) _))) : Below w.heap.size w _) hb); have HB := n2_; clear n2_ hb ho8) | (go_at_call 29; (first | rw [show ((n : Int) - 1) = (m : Int) by have := HMN.out; omega] | skip); refine (HLK.out A1 c1 [0] _ (0, []) HO1.out HNE.out Ruler_zero HL12.out HS1.out HSZ.out).mono ?_; rw [HSP.out, fold_look]; rintro e w4 ⟨rfl, ⟨hv, v, hvf, ho⟩, hch⟩; obtain ⟨Av, cv, rfl⟩ := Kd.R_slice ho; have hc1 := cell_of_one hv; have hc2 := cell_of_one hvf; have HO := Aside0.mk ho; have n0_ := Aside0.mk (HB.out.trans (hch.to HB.out.size (fun k hk hq => by omega))); clear HB hv hvf hch ho; have HB := n0_; clear n0_))
  repeat (go_quiet (fail); try go_wp2)
  go_ret2
  exact ⟨_, rfl, Kd.R_mono (by first | exact HO.out | exact Kd.R_drewN HO.out _) (fun _ _ => trivial), (by repeat (first | (with_reducible first | exact HB.out | apply below_alloc | apply pw_below_drewN | apply below_drew1) | exact HB.out))⟩
set_option maxHeartbeats 3200000 in
theorem ruAllW_calls (n L : Nat) (w : World) (hn : 1 ≤ n ∧ n ≤ 12) (hL : L ≤ 24) :
    Calls Try.prog 19 #[.int .i64 (n : Int), .int .i64 (L : Int), .bool true] w fun e w' => ∃ v, e = .returned (.tuple #[.int .i64 ((ruR true n L).length : Int), v]) ∧ Ow w' w.heap.size v (headR (ruR true n L)).1 ∧ Below w.heap.size w w' := by
  obtain ⟨m, hm⟩ : ∃ m, n = m + 1 := ⟨n - 1, by omega⟩
  have HMN := Aside0.mk hm
  have HSP := Aside0.mk (show spL true L m [0] = ruR true n L by rw [← sp_all true hn (by omega), hm]; rfl)
  have HSZ := Aside0.mk (show (0, ([] : List Int)).1 + (spL true L m [0]).length ≤ 100000000000000 by rw [HSP.out]; have := ruR_len true (n := n) (L := L) hn.2 hL; show 0 + _ ≤ _; omega)
  have HL12 := Aside0.mk (show [(0 : Int)].length + m ≤ 12 by simp; omega)
  have HLK := Aside0.mk (lookW_calls L m w.heap.size (w.heap.size + 1) w.heap.size (by omega) (Nat.le_refl _) (by omega) (by omega))
  have HLS := Aside0.mk (look_start w)
  have hcn := cell_of_one (Var.new w (.int .i64 0) 3)
  have hfn := free_of_one (Var.new w (.int .i64 0) 3)
  clear hm
  go_enter Try.func19, Try.ntmps19
  go_wp2_with (first | ((with_reducible refine gate_dst (N := 10) rfl ?_); refine Kd.R_lit (Kd.int .i64) _ 3 ?hg (N := 10) ?hd (xs := ([(0 : Int)] : List Int)) (inner := [.int .i64 (0 : Int)]) (ok := fun _ => True) (okp := fun _ => True) ?hr ?hp (fun _ hk => hk) trivial (Below.refl _ _) (Nat.le_refl _) (by simp) ?_; (case hd => rfl); (case hg => rfl); (case hr => first | (go_simp; done) | (go_simp; rfl)); (case hp => exact (Reps.one (show Kd.M (Kd.int .i64) _ _ _ (0 : Int) [.int .i64 (0 : Int)] from rfl) (Reps.none _ _))); intro v1 w1 ho8 hb hg_ hnew_; clear hg_ hnew_; obtain ⟨A1, c1, e1_⟩ := Kd.R_slice ho8; subst e1_; have HS1 := Aside0.mk (StLook_below HLS.out hb); have HNE := Aside0.mk (fun k (hk : (Value.slice A1 1 c1).ownBlock = some k) => (show k ≠ w.heap.size ∧ k ≠ w.heap.size + 1 by have h1 := Kd.R_base ho8 k hk; have h2 := StLook_lt HLS.out; omega)); have HO1 := Aside0.mk (Ow_lower (B' := w.heap.size) ho8 ((by repeat (first | exact Below.refl _ _ | apply below_alloc | apply pw_below_drewN | apply below_drew1 | (refine Below.setCell ?_ (by first | exact Nat.le_refl _ | (show _ ≤ _; omega)) _))) : Below w.heap.size w _).size); have n2_ := Aside0.mk (below_step ((by repeat (first | exact Below.refl _ _ | apply below_alloc | apply pw_below_drewN | apply below_drew1 | (refine Below.setCell ?_ (by first | exact Nat.le_refl _ | (show _ ≤ _; omega)) _))) : Below w.heap.size w _) hb); have HB := n2_; clear n2_ hb ho8) | (go_at_call 29; (first | rw [show ((n : Int) - 1) = (m : Int) by have := HMN.out; omega] | skip); refine (HLK.out A1 c1 [0] _ (0, []) HO1.out HNE.out Ruler_zero HL12.out HS1.out HSZ.out).mono ?_; rw [HSP.out, fold_look]; rintro e w4 ⟨rfl, ⟨hv, v, hvf, ho⟩, hch⟩; obtain ⟨Av, cv, rfl⟩ := Kd.R_slice ho; have hc1 := cell_of_one hv; have hc2 := cell_of_one hvf; have HO := Aside0.mk ho; have n0_ := Aside0.mk (HB.out.trans (hch.to HB.out.size (fun k hk hq => by omega))); clear HB hv hvf hch ho; have HB := n0_; clear n0_))
  repeat (go_quiet (fail); try go_wp2)
  go_ret2
  exact ⟨_, rfl, Kd.R_mono (by first | exact HO.out | exact Kd.R_drewN HO.out _) (fun _ _ => trivial), (by repeat (first | (with_reducible first | exact HB.out | apply below_alloc | apply pw_below_drewN | apply below_drew1) | exact HB.out))⟩
set_option maxHeartbeats 3200000 in
theorem specCountD_calls (a b : Int) (w : World) (ha : W64 a) (hb : W64 b) :
    Calls Try.prog 7 #[.int .i64 a, .int .i64 b] w fun e w' => e = .returned (.tuple #[.int .i64 (CountDF a b).1, .bool (CountDF a b).2]) ∧ Below w.heap.size w w' := by
  have HB := Aside0.mk (Below.refl w.heap.size w)
  by_cases h1 : 1 ≤ a ∧ a ≤ 6
  · have HT1 := Aside0.mk (within_yes h1)
    by_cases h2 : 0 ≤ b ∧ b ≤ 24
    · have HT2 := Aside0.mk (within_yes h2)
      obtain ⟨n, rfl⟩ : ∃ n : Nat, (n : Int) = a := ⟨a.toNat, by omega⟩
      obtain ⟨L, rfl⟩ : ∃ n : Nat, (n : Int) = b := ⟨b.toNat, by omega⟩
      have HF := Aside0.mk (show CountDF (n : Int) (L : Int) = (((ruR false n L).length : Int), true) from CountDF_in ⟨h1, h2⟩)
      go_enter Try.func7, Try.ntmps7
      go_wp2_with (first | (go_at_call 18; refine (in_calls _ _ _ _).mono ?_; (first | rw [HT1.out] | rw [HT2.out]); rintro e w' ⟨rfl, ⟨nd, rfl⟩⟩) | (go_at_call 19; refine (ruAllD_calls n L _ (by omega) (by omega)).mono ?_; rintro e w1 ⟨v1, rfl, ho, hb⟩; have n0_ := Aside0.mk (below_step (by repeat (first | (with_reducible first | exact HB.out | apply below_alloc | apply pw_below_drewN | apply below_drew1) | exact HB.out)) hb); clear HB ho hb; have HB := n0_; clear n0_))
      repeat (go_quiet (fail); try go_wp2)
      go_ret2
      exact ⟨by rw [HF.out]; rfl, (by repeat (first | (with_reducible first | exact HB.out | apply below_alloc | apply pw_below_drewN | apply below_drew1) | exact HB.out))⟩
    · have HT2 := Aside0.mk (within_no h2)
      have HF := Aside0.mk (CountDF_out (a := a) (b := b) (fun h => h2 h.2))
      go_enter Try.func7, Try.ntmps7
      go_wp2_with ((go_at_call 18; refine (in_calls _ _ _ _).mono ?_; (first | rw [HT1.out] | rw [HT2.out]); rintro e w' ⟨rfl, ⟨nd, rfl⟩⟩))
      repeat (go_quiet (fail); try go_wp2)
      go_ret2
      exact ⟨by rw [HF.out]; rfl, (by repeat (first | (with_reducible first | exact HB.out | apply below_alloc | apply pw_below_drewN | apply below_drew1) | exact HB.out))⟩
  · have HT1 := Aside0.mk (within_no h1)
    have HF := Aside0.mk (CountDF_out (a := a) (b := b) (fun h => h1 h.1))
    go_enter Try.func7, Try.ntmps7
    go_wp2_with ((go_at_call 18; refine (in_calls _ _ _ _).mono ?_; (first | rw [HT1.out] | rw [HT2.out]); rintro e w' ⟨rfl, ⟨nd, rfl⟩⟩))
    repeat (go_quiet (fail); try go_wp2)
    go_ret2
    exact ⟨by rw [HF.out]; rfl, (by repeat (first | (with_reducible first | exact HB.out | apply below_alloc | apply pw_below_drewN | apply below_drew1) | exact HB.out))⟩
set_option maxHeartbeats 3200000 in
theorem specCountW_calls (a b : Int) (w : World) (ha : W64 a) (hb : W64 b) :
    Calls Try.prog 9 #[.int .i64 a, .int .i64 b] w fun e w' => e = .returned (.tuple #[.int .i64 (CountWF a b).1, .bool (CountWF a b).2]) ∧ Below w.heap.size w w' := by
  have HB := Aside0.mk (Below.refl w.heap.size w)
  by_cases h1 : 1 ≤ a ∧ a ≤ 7
  · have HT1 := Aside0.mk (within_yes h1)
    by_cases h2 : 0 ≤ b ∧ b ≤ 18
    · have HT2 := Aside0.mk (within_yes h2)
      obtain ⟨n, rfl⟩ : ∃ n : Nat, (n : Int) = a := ⟨a.toNat, by omega⟩
      obtain ⟨L, rfl⟩ : ∃ n : Nat, (n : Int) = b := ⟨b.toNat, by omega⟩
      have HF := Aside0.mk (show CountWF (n : Int) (L : Int) = (((ruR true n L).length : Int), true) from CountWF_in ⟨h1, h2⟩)
      go_enter Try.func9, Try.ntmps9
      go_wp2_with (first | (go_at_call 18; refine (in_calls _ _ _ _).mono ?_; (first | rw [HT1.out] | rw [HT2.out]); rintro e w' ⟨rfl, ⟨nd, rfl⟩⟩) | (go_at_call 19; refine (ruAllW_calls n L _ (by omega) (by omega)).mono ?_; rintro e w1 ⟨v1, rfl, ho, hb⟩; have n0_ := Aside0.mk (below_step (by repeat (first | (with_reducible first | exact HB.out | apply below_alloc | apply pw_below_drewN | apply below_drew1) | exact HB.out)) hb); clear HB ho hb; have HB := n0_; clear n0_))
      repeat (go_quiet (fail); try go_wp2)
      go_ret2
      exact ⟨by rw [HF.out]; rfl, (by repeat (first | (with_reducible first | exact HB.out | apply below_alloc | apply pw_below_drewN | apply below_drew1) | exact HB.out))⟩
    · have HT2 := Aside0.mk (within_no h2)
      have HF := Aside0.mk (CountWF_out (a := a) (b := b) (fun h => h2 h.2))
      go_enter Try.func9, Try.ntmps9
      go_wp2_with ((go_at_call 18; refine (in_calls _ _ _ _).mono ?_; (first | rw [HT1.out] | rw [HT2.out]); rintro e w' ⟨rfl, ⟨nd, rfl⟩⟩))
      repeat (go_quiet (fail); try go_wp2)
      go_ret2
      exact ⟨by rw [HF.out]; rfl, (by repeat (first | (with_reducible first | exact HB.out | apply below_alloc | apply pw_below_drewN | apply below_drew1) | exact HB.out))⟩
  · have HT1 := Aside0.mk (within_no h1)
    have HF := Aside0.mk (CountWF_out (a := a) (b := b) (fun h => h1 h.1))
    go_enter Try.func9, Try.ntmps9
    go_wp2_with ((go_at_call 18; refine (in_calls _ _ _ _).mono ?_; (first | rw [HT1.out] | rw [HT2.out]); rintro e w' ⟨rfl, ⟨nd, rfl⟩⟩))
    repeat (go_quiet (fail); try go_wp2)
    go_ret2
    exact ⟨by rw [HF.out]; rfl, (by repeat (first | (with_reducible first | exact HB.out | apply below_alloc | apply pw_below_drewN | apply below_drew1) | exact HB.out))⟩
set_option maxHeartbeats 3200000 in
theorem specFirstD_calls (a : Int) (w : World) (ha : W64 a) :
    Calls Try.prog 11 #[.int .i64 a] w fun e w' => ∃ v, e = .returned (.tuple #[v, .bool (ShortF a).2]) ∧ Ow w' w.heap.size v (ShortF a).1 ∧ Below w.heap.size w w' := by
  have HB := Aside0.mk (Below.refl w.heap.size w)
  by_cases h : 1 ≤ a ∧ a ≤ 6
  · have HT1 := Aside0.mk (within_yes h)
    obtain ⟨n, rfl⟩ : ∃ n : Nat, (n : Int) = a := ⟨a.toNat, by omega⟩
    have HF := Aside0.mk (show ShortF (n : Int) = scan (fun L => ruR false n L) 25 25 from ShortF_in h)
    clear ha
    go_enter Try.func11, Try.ntmps11
    go_wp2_with ((go_at_call 18; refine (in_calls _ _ _ _).mono ?_; (first | rw [HT1.out] | rw [HT2.out]); rintro e w' ⟨rfl, ⟨nd, rfl⟩⟩))
    repeat (go_quiet (fail); try go_wp2_with fail)
    go_loopg [4] 25 (fun g v4 w' => ∃ y : Nat, v4 = .int .i64 y ∧ Aside0 (y + g = 25) ∧ Aside0 (scan (fun L => ruR false n L) 25 g = ShortF (n : Int)) ∧ Aside0 (Below w.heap.size w w'))
    case atStart => exact ⟨0, by go_num, ⟨by omega⟩, ⟨HF.out.symm⟩, ⟨(by repeat (first | (with_reducible first | exact HB.out | apply below_alloc | apply pw_below_drewN | apply below_drew1) | exact HB.out))⟩⟩
    case round =>
      clear HB
      obtain ⟨y, rfl, HY, HT, HB0⟩ := hrel
      have HB := Aside0.mk (Below.refl wr.heap.size wr)
      by_cases hy : y < 25
      · obtain ⟨d, hd⟩ : ∃ d, gk = d + 1 := ⟨gk - 1, by have := HY.out; omega⟩
        have HGD := Aside0.mk hd
        have hT := HT.out
        rw [hd, scan, show 25 - (d + 1) = y by have := HY.out; omega] at hT
        have hT : (if (headR (ruR false n y)).2 = true then headR (ruR false n y) else scan (fun L => ruR false n L) 25 d) = ShortF (n : Int) := hT
        clear hd
        by_cases hg : 0 < (ruR false n y).length
        · have HG := Aside0.mk hg
          have hp := headR_pos hg
          rw [if_pos (by rw [hp]), hp] at hT
          have HT2 := Aside0.mk hT.symm
          clear hT hp
          go_wp2_with ((go_at_call 19; (first | rw [show ((y : Int) + 1) = ((y + 1 : Nat) : Int) by omega] | skip); refine (ruAllD_calls n y _ (by omega) (by omega)).mono ?_; rintro e w1 ⟨v1, rfl, ho, hb⟩; have HO := Aside0.mk (Ow_lower (B' := w.heap.size) ho (Nat.le_trans HB0.out.size (below_size (by repeat (first | (with_reducible first | exact HB.out | apply below_alloc | apply pw_below_drewN | apply below_drew1) | exact HB.out))))); have n0_ := Aside0.mk (below_step (by repeat (first | (with_reducible first | exact HB.out | apply below_alloc | apply pw_below_drewN | apply below_drew1) | exact HB.out)) hb); clear HB ho hb; have HB := n0_; clear n0_))
          repeat (go_quiet (fail); try go_wp2)
          go_ret2
          exact ⟨_, by rw [HT2.out]; rfl, by rw [HT2.out]; first | exact HO.out | exact Ow_drewN HO.out _, below_step HB0.out (by repeat (first | (with_reducible first | exact HB.out | apply below_alloc | apply pw_below_drewN | apply below_drew1) | exact HB.out))⟩
        · have hp := headR_zero hg
          rw [if_neg (by rw [hp]; decide)] at hT
          have HT2 := Aside0.mk hT
          clear hT hp
          go_wp2_with ((go_at_call 19; (first | rw [show ((y : Int) + 1) = ((y + 1 : Nat) : Int) by omega] | skip); refine (ruAllD_calls n y _ (by omega) (by omega)).mono ?_; rintro e w1 ⟨v1, rfl, ho, hb⟩; have HO := Aside0.mk (Ow_lower (B' := w.heap.size) ho (Nat.le_trans HB0.out.size (below_size (by repeat (first | (with_reducible first | exact HB.out | apply below_alloc | apply pw_below_drewN | apply below_drew1) | exact HB.out))))); have n0_ := Aside0.mk (below_step (by repeat (first | (with_reducible first | exact HB.out | apply below_alloc | apply pw_below_drewN | apply below_drew1) | exact HB.out)) hb); clear HB ho hb; have HB := n0_; clear n0_))
          repeat (go_quiet (fail); try go_wp2)
          go_roundg (gk - 1)
          case measure => have := HY.out; omega
          case rel => exact ⟨y + 1, by go_num, ⟨by have := HY.out; omega⟩, ⟨by rw [show gk - 1 = d by have := HGD.out; omega]; exact HT2.out⟩, ⟨below_step HB0.out (by repeat (first | (with_reducible first | exact HB.out | apply below_alloc | apply pw_below_drewN | apply below_drew1) | exact HB.out))⟩⟩
      · have HT2 := Aside0.mk (show ShortF (n : Int) = ([], false) by have h := HT.out; rw [show gk = 0 by have := HY.out; omega] at h; exact h.symm)
        go_wp2_with fail
        repeat (go_quiet (fail); try go_wp2_with fail)
        go_ret2
        exact ⟨_, by rw [HT2.out]; rfl, by rw [HT2.out]; exact Kd.R_nil _ _ _ _ _, below_step HB0.out (by repeat (first | (with_reducible first | exact HB.out | apply below_alloc | apply pw_below_drewN | apply below_drew1) | exact HB.out))⟩
  · have HT1 := Aside0.mk (within_no h)
    have HF := Aside0.mk (ShortF_out h)
    go_enter Try.func11, Try.ntmps11
    go_wp2_with ((go_at_call 18; refine (in_calls _ _ _ _).mono ?_; (first | rw [HT1.out] | rw [HT2.out]); rintro e w' ⟨rfl, ⟨nd, rfl⟩⟩))
    repeat (go_quiet (fail); try go_wp2)
    go_ret2
    exact ⟨_, by rw [HF.out]; rfl, by rw [HF.out]; exact Kd.R_nil _ _ _ _ _, (by repeat (first | (with_reducible first | exact HB.out | apply below_alloc | apply pw_below_drewN | apply below_drew1) | exact HB.out))⟩
set_option maxHeartbeats 3200000 in
theorem specFirstW_calls (a : Int) (w : World) (ha : W64 a) :
    Calls Try.prog 16 #[.int .i64 a] w fun e w' => ∃ v, e = .returned (.tuple #[v, .bool (FewF a).2]) ∧ Ow w' w.heap.size v (FewF a).1 ∧ Below w.heap.size w w' := by
  have HB := Aside0.mk (Below.refl w.heap.size w)
  by_cases h : 0 ≤ a ∧ a ≤ 18
  · have HT1 := Aside0.mk (within_yes h)
    obtain ⟨n, rfl⟩ : ∃ n : Nat, (n : Int) = a := ⟨a.toNat, by omega⟩
    have HF := Aside0.mk (show FewF (n : Int) = scan (fun i => ruR true (i + 1) n) 12 12 from FewF_in h)
    clear ha
    go_enter Try.func16, Try.ntmps16
    go_wp2_with ((go_at_call 18; refine (in_calls _ _ _ _).mono ?_; (first | rw [HT1.out] | rw [HT2.out]); rintro e w' ⟨rfl, ⟨nd, rfl⟩⟩))
    repeat (go_quiet (fail); try go_wp2_with fail)
    go_loopg [4] 12 (fun g v4 w' => ∃ y : Nat, v4 = .int .i64 (y + 1) ∧ Aside0 (y + g = 12) ∧ Aside0 (scan (fun i => ruR true (i + 1) n) 12 g = FewF (n : Int)) ∧ Aside0 (Below w.heap.size w w'))
    case atStart => exact ⟨0, by go_num, ⟨by omega⟩, ⟨HF.out.symm⟩, ⟨(by repeat (first | (with_reducible first | exact HB.out | apply below_alloc | apply pw_below_drewN | apply below_drew1) | exact HB.out))⟩⟩
    case round =>
      clear HB
      obtain ⟨y, rfl, HY, HT, HB0⟩ := hrel
      have HB := Aside0.mk (Below.refl wr.heap.size wr)
      by_cases hy : y < 12
      · obtain ⟨d, hd⟩ : ∃ d, gk = d + 1 := ⟨gk - 1, by have := HY.out; omega⟩
        have HGD := Aside0.mk hd
        have hT := HT.out
        rw [hd, scan, show 12 - (d + 1) = y by have := HY.out; omega] at hT
        have hT : (if (headR (ruR true (y + 1) n)).2 = true then headR (ruR true (y + 1) n) else scan (fun i => ruR true (i + 1) n) 12 d) = FewF (n : Int) := hT
        clear hd
        by_cases hg : 0 < (ruR true (y + 1) n).length
        · have HG := Aside0.mk hg
          have hp := headR_pos hg
          rw [if_pos (by rw [hp]), hp] at hT
          have HT2 := Aside0.mk hT.symm
          clear hT hp
          go_wp2_with ((go_at_call 19; (first | rw [show ((y : Int) + 1) = ((y + 1 : Nat) : Int) by omega] | skip); refine (ruAllW_calls (y + 1) n _ (by omega) (by omega)).mono ?_; rintro e w1 ⟨v1, rfl, ho, hb⟩; have HO := Aside0.mk (Ow_lower (B' := w.heap.size) ho (Nat.le_trans HB0.out.size (below_size (by repeat (first | (with_reducible first | exact HB.out | apply below_alloc | apply pw_below_drewN | apply below_drew1) | exact HB.out))))); have n0_ := Aside0.mk (below_step (by repeat (first | (with_reducible first | exact HB.out | apply below_alloc | apply pw_below_drewN | apply below_drew1) | exact HB.out)) hb); clear HB ho hb; have HB := n0_; clear n0_))
          repeat (go_quiet (fail); try go_wp2)
          go_ret2
          exact ⟨_, by rw [HT2.out]; rfl, by rw [HT2.out]; first | exact HO.out | exact Ow_drewN HO.out _, below_step HB0.out (by repeat (first | (with_reducible first | exact HB.out | apply below_alloc | apply pw_below_drewN | apply below_drew1) | exact HB.out))⟩
        · have hp := headR_zero hg
          rw [if_neg (by rw [hp]; decide)] at hT
          have HT2 := Aside0.mk hT
          clear hT hp
          go_wp2_with ((go_at_call 19; (first | rw [show ((y : Int) + 1) = ((y + 1 : Nat) : Int) by omega] | skip); refine (ruAllW_calls (y + 1) n _ (by omega) (by omega)).mono ?_; rintro e w1 ⟨v1, rfl, ho, hb⟩; have HO := Aside0.mk (Ow_lower (B' := w.heap.size) ho (Nat.le_trans HB0.out.size (below_size (by repeat (first | (with_reducible first | exact HB.out | apply below_alloc | apply pw_below_drewN | apply below_drew1) | exact HB.out))))); have n0_ := Aside0.mk (below_step (by repeat (first | (with_reducible first | exact HB.out | apply below_alloc | apply pw_below_drewN | apply below_drew1) | exact HB.out)) hb); clear HB ho hb; have HB := n0_; clear n0_))
          repeat (go_quiet (fail); try go_wp2)
          go_roundg (gk - 1)
          case measure => have := HY.out; omega
          case rel => exact ⟨y + 1, by go_num, ⟨by have := HY.out; omega⟩, ⟨by rw [show gk - 1 = d by have := HGD.out; omega]; exact HT2.out⟩, ⟨below_step HB0.out (by repeat (first | (with_reducible first | exact HB.out | apply below_alloc | apply pw_below_drewN | apply below_drew1) | exact HB.out))⟩⟩
      · have HT2 := Aside0.mk (show FewF (n : Int) = ([], false) by have h := HT.out; rw [show gk = 0 by have := HY.out; omega] at h; exact h.symm)
        go_wp2_with fail
        repeat (go_quiet (fail); try go_wp2_with fail)
        go_ret2
        exact ⟨_, by rw [HT2.out]; rfl, by rw [HT2.out]; exact Kd.R_nil _ _ _ _ _, below_step HB0.out (by repeat (first | (with_reducible first | exact HB.out | apply below_alloc | apply pw_below_drewN | apply below_drew1) | exact HB.out))⟩
  · have HT1 := Aside0.mk (within_no h)
    have HF := Aside0.mk (FewF_out h)
    go_enter Try.func16, Try.ntmps16
    go_wp2_with ((go_at_call 18; refine (in_calls _ _ _ _).mono ?_; (first | rw [HT1.out] | rw [HT2.out]); rintro e w' ⟨rfl, ⟨nd, rfl⟩⟩))
    repeat (go_quiet (fail); try go_wp2)
    go_ret2
    exact ⟨_, by rw [HF.out]; rfl, by rw [HF.out]; exact Kd.R_nil _ _ _ _ _, (by repeat (first | (with_reducible first | exact HB.out | apply below_alloc | apply pw_below_drewN | apply below_drew1) | exact HB.out))⟩
end Go.Proofs.Ytmmnohdokemchaa.Own.G
