/- Difference sets, the first one and how many: what the reference's CountDifferenceSets, ciFirst, FirstDifferenceSet and LinesOfPlane return; no condition. -/
import Derived.Test.YtikedacnijgloaaOwnDsC
import Derived.Test.YtikedacnijgloaaOwnLiveF
namespace Go.Proofs.Ytikedacnijgloaa.Own.G
open Go.RowKit Go.Proofs.YtikedacnijgloaaW.PrintWords Go.Proofs.YtikedacnijgloaaW.PrintLast Go.Proofs.YtikedacnijgloaaW.PrintMore
set_option linter.unusedVariables false
theorem OwN_fr {w : World} {B C : Nat} {v : Value} {l : List (List Int)} (h : OwN w B C v l) : Fr (Kd.slice 3 (Kd.int .i64)) w C v l := by
  obtain ⟨A, c, e, hc, _⟩ := Kd.N_reads h
  subst e
  exact ⟨A, c, rfl, hc, Kd.N_F h⟩
theorem Fr_nil {α : Type} (d : Kd α) (w : World) (C : Nat) : Fr d w C (.slice none 0 0) ([] : List α) := ⟨none, 0, rfl, Nat.le_refl _, Kd.F_nil d w _⟩
theorem Fr_drewN {α : Type} {d : Kd α} {w : World} {C : Nat} {v : Value} {l : List α} (h : Fr d w C v l) (n : Nat) : Fr d (w.drewN n) C v l := by
  obtain ⟨A, c, e, hc, hf⟩ := h
  exact ⟨A, c, e, hc, Kd.F_drewN hf n⟩
theorem Fr_lower {α : Type} {d : Kd α} {w : World} {C C' : Nat} {v : Value} {l : List α} (h : Fr d w C v l) (hc : C' ≤ C) : Fr d w C' v l := by
  obtain ⟨A, c, e, hcp, hf⟩ := h
  exact ⟨A, c, e, hcp, Kd.F_mono hf (fun k hk => Nat.le_trans hc hk)⟩
/-- The first row of such a list. -/
theorem OwN_head {w : World} {B C n cap : Nat} {ad : Addr} {x : List Int} {l : List (List Int)} (h : OwN w B C (.slice (some ad) n cap) (x :: l)) : ∃ A c, w.cell? ad = some (.slice A x.length c) ∧ Fr (Kd.int .i64) w C (.slice A x.length c) x := by
  have hn : n = (x :: l).length := (Kd.N_reads' h).1
  obtain ⟨c, hcl, hf, hcc⟩ := Kd.N_get h ([] : List Int) 0 (by omega) (by rw [hn, List.length_cons]; omega)
  obtain ⟨A, c0, rfl, hc0, hF⟩ := Kd.FK_slice_open hf
  refine ⟨A, c0, ?_, A, c0, rfl, hc0, Kd.F_mono hF (fun k hk => hk.1)⟩
  have := hcc 0 _ rfl
  simpa [Addr.add] using this
noncomputable def lamN (v k : Nat) : Int := if tf (Poss (v : Int) (k : Int)) = true then ((k : Int) * ((k : Int) - 1)) / ((v : Int) - 1) else 0
theorem lamN_no {v k : Nat} (h : ¬ Poss (v : Int) (k : Int)) : lamN v k = 0 := if_neg (by rw [tf_neg h]; decide)
theorem lamN_is {v k : Nat} (h : Poss (v : Int) (k : Int)) : lamN v k = ((k : Int) * ((k : Int) - 1)) / ((v : Int) - 1) := if_pos (tf_pos h)
theorem lamN_yes {v k : Nat} (hv : 2 ≤ v) (hk : 2 ≤ k ∧ k ≤ 6) (h : Poss (v : Int) (k : Int)) : ((v : Int) - 1) * lamN v k = (k : Int) * ((k : Int) - 1) ∧ 1 ≤ lamN v k ∧ lamN v k ≤ 1000 := by
  have hkk := kk_in hk
  have e : ((v : Int) - 1) * lamN v k = (k : Int) * ((k : Int) - 1) := by
    rw [lamN_is h]
    exact Int.mul_ediv_cancel' (Int.dvd_of_emod_eq_zero h.2)
  have h1 : 1 ≤ lamN v k := by
    rcases (show lamN v k < 1 ∨ 1 ≤ lamN v k by omega) with h2 | h2
    · have := Int.mul_nonneg (show (0 : Int) ≤ (v : Int) - 1 by omega) (show 0 ≤ - lamN v k by omega)
      rw [Int.mul_neg] at this
      omega
    · exact h2
  refine ⟨e, h1, ?_⟩
  have := Int.mul_le_mul_of_nonneg_right (show (1 : Int) ≤ (v : Int) - 1 by omega) (show 0 ≤ lamN v k by omega)
  rw [e] at this
  omega
theorem dsL_len {v k : Nat} (hv : v ≤ 31) (hk : k ≤ 5) : (dsL v k).length ≤ 923521 := by
  have h1 := (dsS v).lv_len (dsS_st v) (k - 1) [0]
  have h2 : v ^ (k - 1) ≤ 31 ^ 4 := by
    rcases Nat.eq_zero_or_pos v with h0 | h0
    · subst h0
      rcases Nat.eq_zero_or_pos (k - 1) with h3 | h3
      · rw [h3]; decide
      · rw [Nat.zero_pow h3]; decide
    · exact Nat.le_trans (Nat.pow_le_pow_left hv _) (Nat.pow_le_pow_right (by decide) (by omega))
  have h3 : (31 : Nat) ^ 4 = 923521 := by decide
  have e : (dsS v).n ^ (k - 1) = v ^ (k - 1) := rfl
  show ((dsS v).lv (k - 1) [0]).length ≤ _
  omega
theorem cF_all {v k : Nat} {lam : Int} (hv : 2 ≤ v ∧ v ≤ 31) (hk : 2 ≤ k ∧ k ≤ 5) (hlam : 1 ≤ lam) (hkk : ((v : Int) - 1) * lam = (k : Int) * ((k : Int) - 1)) : cF v lam (k - 1) [0] 1073741824 = dsL v k := by
  rw [cF_eq hv.1 hlam hkk (k - 1) [0] 1073741824 (Up_zero hv.1) (by simp) (by simp; omega) (by decide)]
  have := dsL_len hv.2 hk.2
  exact List.take_of_length_le (by show (dsL v k).length ≤ _; omega)
theorem cF_one {v k : Nat} {lam : Int} (hv : 2 ≤ v ∧ v ≤ 31) (hk : 2 ≤ k ∧ k ≤ 6) (hlam : 1 ≤ lam) (hkk : ((v : Int) - 1) * lam = (k : Int) * ((k : Int) - 1)) : cF v lam (k - 1) [0] 1 = (dsL v k).take 1 := cF_eq hv.1 hlam hkk (k - 1) [0] 1 (Up_zero hv.1) (by simp) (by simp; omega) (by decide)
set_option maxHeartbeats 1600000 in
theorem ciPossible_calls (v k : Nat) (w : World) (hv : 2 ≤ v ∧ v ≤ 31) (hk : 2 ≤ k ∧ k ≤ 6) : Calls Try.prog 16 #[.int .i64 (v : Int), .int .i64 (k : Int)] w fun e w' => e = .returned (.int .i64 (lamN v k)) ∧ Drawn0 w w' := by
  have hkk := kk_in hk
  by_cases hp : Poss v k
  · have HF := Aside0.mk (lamN_is hp)
    have HL := Aside0.mk (lamN_yes hv.1 hk hp)
    have hlt : (k : Int) < v := hp.1
    have hrem : ((k : Int) * ((k : Int) - 1) % ((v : Int) - 1) != 0) = false := by rw [hp.2]; rfl
    generalize hK : (k : Int) * ((k : Int) - 1) = K at hkk hrem HF HL
    have hq : 0 ≤ K / ((v : Int) - 1) ∧ K / ((v : Int) - 1) ≤ 1000 := by have := HL.out; rw [HF.out] at this; omega
    clear hp
    go_enter Try.func16, Try.ntmps16
    (go_wp2; repeat (go_quiet (fail); try go_wp2))
    go_ret
    exact ⟨ret_int' HF.out.symm, (by repeat (first | exact Drawn0.refl _ | apply Drawn0.step))⟩
  · have HF := Aside0.mk (lamN_no hp)
    by_cases hlt : (k : Int) < v
    · have hrem : ((k : Int) * ((k : Int) - 1) % ((v : Int) - 1) != 0) = true := bne_iff_ne.mpr (fun h2 => hp ⟨hlt, h2⟩)
      generalize hK : (k : Int) * ((k : Int) - 1) = K at hkk hrem
      clear hp
      go_enter Try.func16, Try.ntmps16
      (go_wp2; repeat (go_quiet (fail); try go_wp2))
      go_ret
      exact ⟨ret_int' HF.out.symm, (by repeat (first | exact Drawn0.refl _ | apply Drawn0.step))⟩
    · generalize hK : (k : Int) * ((k : Int) - 1) = K at hkk
      clear hp
      go_enter Try.func16, Try.ntmps16
      (go_wp2; repeat (go_quiet (fail); try go_wp2))
      go_ret
      exact ⟨ret_int' HF.out.symm, (by repeat (first | exact Drawn0.refl _ | apply Drawn0.step))⟩
set_option maxHeartbeats 3200000 in
theorem specCountDs_calls (a b : Int) (w : World) (ha : W64 a) (hb : W64 b) :
    Calls Try.prog 6 #[.int .i64 a, .int .i64 b] w fun e w' => e = .returned (.tuple #[.int .i64 (CountDsF a b).1, .bool (CountDsF a b).2]) ∧ Below w.heap.size w w' := by
  have HB := Aside0.mk (Below.refl w.heap.size w)
  by_cases h1 : 2 ≤ a ∧ a ≤ 31
  · have HT1 := Aside0.mk (within_yes h1)
    by_cases h2 : 2 ≤ b ∧ b ≤ 5
    · have HT2 := Aside0.mk (within_yes h2)
      obtain ⟨v, rfl⟩ : ∃ n : Nat, (n : Int) = a := ⟨a.toNat, by omega⟩
      obtain ⟨k, rfl⟩ : ∃ n : Nat, (n : Int) = b := ⟨b.toNat, by omega⟩
      have HV := Aside0.mk (show 2 ≤ v ∧ v ≤ 31 by omega)
      have HK := Aside0.mk (show 2 ≤ k ∧ k ≤ 6 by omega)
      by_cases hp : Poss v k
      · have HF := Aside0.mk (show CountDsF v k = (((dsL v k).length : Int), true) from CountDsF_yes ⟨h1, h2⟩ hp)
        have hln := lamN_yes HV.out.1 HK.out hp
        obtain ⟨lam, hlam⟩ : ∃ lam : Int, lamN v k = lam := ⟨_, rfl⟩
        have HLN := Aside0.mk hlam
        rw [hlam] at hln
        have HC := Aside0.mk (ciFind_calls v k lam (k - 1) HV.out (by omega) hln.2 hln.1)
        have HD := Aside0.mk (cF_all (v := v) (k := k) HV.out (by omega) hln.2.1 hln.1)
        have hl1 := hln.2
        have HUP := Aside0.mk (Up_zero (v := v) (by omega))
        clear hln hlam hp
        go_enter Try.func6, Try.ntmps6
        go_wp2_with (first | (go_at_call 15; (first | rw [show (2 : Int) = 2 from rfl] | skip); refine (in_calls _ _ _ _).mono ?_; (first | rw [HT1.out] | rw [HT2.out]); rintro e w' ⟨rfl, ⟨nd, rfl⟩⟩) | (go_at_call 16; refine (ciPossible_calls v k _ HV.out HK.out).mono ?_; rw [HLN.out]; rintro e w' ⟨rfl, ⟨nd2, rfl⟩⟩) | (((with_reducible refine gate_dst (N := 23) rfl ?_); refine Kd.R_lit (Kd.int .i64) _ 3 ?hg (N := 23) ?hd (xs := ([(0 : Int)] : List Int)) (inner := [.int .i64 ((0 : Int))]) (ok := fun _ => True) (okp := fun _ => True) ?hr ?hp (fun _ hk => hk) trivial (Below.refl _ _) (Nat.le_refl _) (by simp) ?_; (case hd => rfl); (case hg => rfl); (case hr => first | (go_simp; done) | (go_simp; rfl)); (case hp => exact (Reps.one (show Kd.M (Kd.int .i64) _ _ _ ((0 : Int)) [.int .i64 ((0 : Int))] from rfl) (Reps.none _ _))); intro v1 w1 ho8 hb hg_ hnew_; clear hg_ hnew_; have HO1 := Aside0.mk (Ow_lower (B' := w.heap.size) ho8 (below_size (by repeat (first | (with_reducible first | exact HB.out | apply below_alloc | apply pw_below_drewN | apply below_drew1) | exact HB.out)))); have n2_ := Aside0.mk (below_step (by repeat (first | (with_reducible first | exact HB.out | apply below_alloc | apply pw_below_drewN | apply below_drew1) | exact HB.out)) hb); clear HB; have HB := n2_; clear n2_ hb ho8); obtain ⟨A1, c1, e1_, hc1_, _⟩ := Ow_form HO1.out; subst e1_; have HC1 := Aside0.mk hc1_; clear hc1_) | ((go_at_call 17; refine (HC.out A1 c1 [0] _ _ (Ow_rd HO1.out) HC1.out (by simp) (by simp; omega) (by omega) (by omega) HUP.out).mono ?_; rw [HD.out]; rintro e w4 ⟨v4, rfl, ho, hb⟩; have HO := Aside0.mk (Kd.N_mono (ok' := fun k => w.heap.size ≤ k) (Kd.N_lower ho (below_size (by repeat (first | (with_reducible first | exact HB.out | apply below_alloc | apply pw_below_drewN | apply below_drew1) | exact HB.out)))) (fun k hk => Nat.le_trans (below_size (by repeat (first | (with_reducible first | exact HB.out | apply below_alloc | apply pw_below_drewN | apply below_drew1) | exact HB.out))) hk)); have n0_ := Aside0.mk (below_step (by repeat (first | (with_reducible first | exact HB.out | apply below_alloc | apply pw_below_drewN | apply below_drew1) | exact HB.out)) hb); clear HB ho hb; have HB := n0_; clear n0_); obtain ⟨A4, c4, e4_⟩ := Kd.N_slice HO.out; subst e4_))
        repeat (go_quiet (fail); try go_wp2)
        go_ret2
        exact ⟨by rw [HF.out]; rfl, (by repeat (first | (with_reducible first | exact HB.out | apply below_alloc | apply pw_below_drewN | apply below_drew1) | exact HB.out))⟩
      · have HF := Aside0.mk (show CountDsF v k = (0, true) from CountDsF_no ⟨h1, h2⟩ hp)
        have HLN := Aside0.mk (lamN_no hp)
        go_enter Try.func6, Try.ntmps6
        go_wp2_with (first | (go_at_call 15; (first | rw [show (2 : Int) = 2 from rfl] | skip); refine (in_calls _ _ _ _).mono ?_; (first | rw [HT1.out] | rw [HT2.out]); rintro e w' ⟨rfl, ⟨nd, rfl⟩⟩) | (go_at_call 16; refine (ciPossible_calls v k _ HV.out HK.out).mono ?_; rw [HLN.out]; rintro e w' ⟨rfl, ⟨nd2, rfl⟩⟩))
        repeat (go_quiet (fail); try go_wp2)
        go_ret2
        exact ⟨by rw [HF.out]; rfl, (by repeat (first | (with_reducible first | exact HB.out | apply below_alloc | apply pw_below_drewN | apply below_drew1) | exact HB.out))⟩
    · have HT2 := Aside0.mk (within_no h2)
      have HF := Aside0.mk (CountDsF_out (a := a) (b := b) (fun h => h2 h.2))
      go_enter Try.func6, Try.ntmps6
      go_wp2_with ((go_at_call 15; (first | rw [show (2 : Int) = 2 from rfl] | skip); refine (in_calls _ _ _ _).mono ?_; (first | rw [HT1.out] | rw [HT2.out]); rintro e w' ⟨rfl, ⟨nd, rfl⟩⟩))
      repeat (go_quiet (fail); try go_wp2)
      go_ret2
      exact ⟨by rw [HF.out]; rfl, (by repeat (first | (with_reducible first | exact HB.out | apply below_alloc | apply pw_below_drewN | apply below_drew1) | exact HB.out))⟩
  · have HT1 := Aside0.mk (within_no h1)
    have HF := Aside0.mk (CountDsF_out (a := a) (b := b) (fun h => h1 h.1))
    go_enter Try.func6, Try.ntmps6
    go_wp2_with ((go_at_call 15; (first | rw [show (2 : Int) = 2 from rfl] | skip); refine (in_calls _ _ _ _).mono ?_; (first | rw [HT1.out] | rw [HT2.out]); rintro e w' ⟨rfl, ⟨nd, rfl⟩⟩))
    repeat (go_quiet (fail); try go_wp2)
    go_ret2
    exact ⟨by rw [HF.out]; rfl, (by repeat (first | (with_reducible first | exact HB.out | apply below_alloc | apply pw_below_drewN | apply below_drew1) | exact HB.out))⟩
set_option maxHeartbeats 3200000 in
theorem ciFirst_calls (v k : Nat) (w : World) (hv : 2 ≤ v ∧ v ≤ 31) (hk : 2 ≤ k ∧ k ≤ 6) :
    Calls Try.prog 21 #[.int .i64 (v : Int), .int .i64 (k : Int)] w fun e w' => ∃ u, e = .returned (.tuple #[u, .bool (FirstSetF v k).2]) ∧ Fr (Kd.int .i64) w' w.heap.size u (FirstSetF v k).1 ∧ Below w.heap.size w w' := by
  have HB := Aside0.mk (Below.refl w.heap.size w)
  have HV := Aside0.mk hv
  have HK := Aside0.mk hk
  by_cases hp : Poss v k
  · have hF := (show FirstSetF v k = headD (dsL v k) from FirstSetF_yes hp)
    have hln := lamN_yes HV.out.1 HK.out hp
    obtain ⟨lam, hlam⟩ : ∃ lam : Int, lamN v k = lam := ⟨_, rfl⟩
    have HLN := Aside0.mk hlam
    rw [hlam] at hln
    have HC := Aside0.mk (ciFind_calls v k lam (k - 1) HV.out (by omega) hln.2 hln.1)
    have hD := cF_one (v := v) (k := k) HV.out (by omega) hln.2.1 hln.1
    have hl1 := hln.2
    have HUP := Aside0.mk (Up_zero (v := v) (by omega))
    clear hln hlam hp
    cases hL : dsL v k with
    | nil =>
      rw [hL] at hD hF
      have HD := Aside0.mk (show cF v lam (k - 1) [0] 1 = [] from hD)
      have HF := Aside0.mk (show FirstSetF v k = ([], false) from hF)
      clear hD hF hL
      go_enter Try.func21, Try.ntmps21
      go_wp2_with (first | (go_at_call 16; refine (ciPossible_calls v k _ HV.out HK.out).mono ?_; rw [HLN.out]; rintro e w' ⟨rfl, ⟨nd2, rfl⟩⟩) | (((with_reducible refine gate_dst (N := 16) rfl ?_); refine Kd.R_lit (Kd.int .i64) _ 3 ?hg (N := 16) ?hd (xs := ([(0 : Int)] : List Int)) (inner := [.int .i64 ((0 : Int))]) (ok := fun _ => True) (okp := fun _ => True) ?hr ?hp (fun _ hk => hk) trivial (Below.refl _ _) (Nat.le_refl _) (by simp) ?_; (case hd => rfl); (case hg => rfl); (case hr => first | (go_simp; done) | (go_simp; rfl)); (case hp => exact (Reps.one (show Kd.M (Kd.int .i64) _ _ _ ((0 : Int)) [.int .i64 ((0 : Int))] from rfl) (Reps.none _ _))); intro v1 w1 ho8 hb hg_ hnew_; clear hg_ hnew_; have HO1 := Aside0.mk (Ow_lower (B' := w.heap.size) ho8 (below_size (by repeat (first | (with_reducible first | exact HB.out | apply below_alloc | apply pw_below_drewN | apply below_drew1) | exact HB.out)))); have n2_ := Aside0.mk (below_step (by repeat (first | (with_reducible first | exact HB.out | apply below_alloc | apply pw_below_drewN | apply below_drew1) | exact HB.out)) hb); clear HB; have HB := n2_; clear n2_ hb ho8); obtain ⟨A1, c1, e1_, hc1_, _⟩ := Ow_form HO1.out; subst e1_; have HC1 := Aside0.mk hc1_; clear hc1_) | ((go_at_call 17; refine (HC.out A1 c1 [0] _ _ (Ow_rd HO1.out) HC1.out (by simp) (by simp; omega) (by omega) (by omega) HUP.out).mono ?_; rw [HD.out]; rintro e w4 ⟨v4, rfl, ho, hb⟩; have HO := Aside0.mk (Kd.N_mono (ok' := fun k => w.heap.size ≤ k) (Kd.N_lower ho (below_size (by repeat (first | (with_reducible first | exact HB.out | apply below_alloc | apply pw_below_drewN | apply below_drew1) | exact HB.out)))) (fun k hk => Nat.le_trans (below_size (by repeat (first | (with_reducible first | exact HB.out | apply below_alloc | apply pw_below_drewN | apply below_drew1) | exact HB.out))) hk)); have n0_ := Aside0.mk (below_step (by repeat (first | (with_reducible first | exact HB.out | apply below_alloc | apply pw_below_drewN | apply below_drew1) | exact HB.out)) hb); clear HB ho hb; have HB := n0_; clear n0_); obtain ⟨A4, c4, e4_⟩ := Kd.N_slice HO.out; subst e4_))
      repeat (go_quiet (fail); try go_wp2)
      go_ret2
      exact ⟨_, by rw [HF.out]; rfl, by rw [HF.out]; exact Fr_nil _ _ _, (by repeat (first | (with_reducible first | exact HB.out | apply below_alloc | apply pw_below_drewN | apply below_drew1) | exact HB.out))⟩
    | cons x L =>
      rw [hL] at hD hF
      have HD := Aside0.mk (show cF v lam (k - 1) [0] 1 = [x] from hD)
      have HF := Aside0.mk (show FirstSetF v k = (x, true) from hF)
      clear hD hF hL
      go_enter Try.func21, Try.ntmps21
      go_wp2_with (first | (go_at_call 16; refine (ciPossible_calls v k _ HV.out HK.out).mono ?_; rw [HLN.out]; rintro e w' ⟨rfl, ⟨nd2, rfl⟩⟩) | (((with_reducible refine gate_dst (N := 16) rfl ?_); refine Kd.R_lit (Kd.int .i64) _ 3 ?hg (N := 16) ?hd (xs := ([(0 : Int)] : List Int)) (inner := [.int .i64 ((0 : Int))]) (ok := fun _ => True) (okp := fun _ => True) ?hr ?hp (fun _ hk => hk) trivial (Below.refl _ _) (Nat.le_refl _) (by simp) ?_; (case hd => rfl); (case hg => rfl); (case hr => first | (go_simp; done) | (go_simp; rfl)); (case hp => exact (Reps.one (show Kd.M (Kd.int .i64) _ _ _ ((0 : Int)) [.int .i64 ((0 : Int))] from rfl) (Reps.none _ _))); intro v1 w1 ho8 hb hg_ hnew_; clear hg_ hnew_; have HO1 := Aside0.mk (Ow_lower (B' := w.heap.size) ho8 (below_size (by repeat (first | (with_reducible first | exact HB.out | apply below_alloc | apply pw_below_drewN | apply below_drew1) | exact HB.out)))); have n2_ := Aside0.mk (below_step (by repeat (first | (with_reducible first | exact HB.out | apply below_alloc | apply pw_below_drewN | apply below_drew1) | exact HB.out)) hb); clear HB; have HB := n2_; clear n2_ hb ho8); obtain ⟨A1, c1, e1_, hc1_, _⟩ := Ow_form HO1.out; subst e1_; have HC1 := Aside0.mk hc1_; clear hc1_) | ((go_at_call 17; refine (HC.out A1 c1 [0] _ _ (Ow_rd HO1.out) HC1.out (by simp) (by simp; omega) (by omega) (by omega) HUP.out).mono ?_; rw [HD.out]; rintro e w4 ⟨v4, rfl, ho, hb⟩; have HO := Aside0.mk (Kd.N_mono (ok' := fun k => w.heap.size ≤ k) (Kd.N_lower ho (below_size (by repeat (first | (with_reducible first | exact HB.out | apply below_alloc | apply pw_below_drewN | apply below_drew1) | exact HB.out)))) (fun k hk => Nat.le_trans (below_size (by repeat (first | (with_reducible first | exact HB.out | apply below_alloc | apply pw_below_drewN | apply below_drew1) | exact HB.out))) hk)); have n0_ := Aside0.mk (below_step (by repeat (first | (with_reducible first | exact HB.out | apply below_alloc | apply pw_below_drewN | apply below_drew1) | exact HB.out)) hb); clear HB ho hb; have HB := n0_; clear n0_); obtain ⟨g4, c4, e4_, _⟩ := Kd.N_form HO.out (by simp); subst e4_; obtain ⟨A0, c0, hx, hfr⟩ := OwN_head HO.out; have HFR := Aside0.mk hfr; clear hfr HO))
      repeat (go_quiet (fail); try go_wp2)
      go_ret2
      exact ⟨_, by rw [HF.out]; rfl, by rw [HF.out]; first | exact HFR.out | exact Fr_drewN HFR.out _, (by repeat (first | (with_reducible first | exact HB.out | apply below_alloc | apply pw_below_drewN | apply below_drew1) | exact HB.out))⟩
  · have HF := Aside0.mk (show FirstSetF v k = ([], false) from FirstSetF_no hp)
    have HLN := Aside0.mk (lamN_no hp)
    go_enter Try.func21, Try.ntmps21
    go_wp2_with ((go_at_call 16; refine (ciPossible_calls v k _ HV.out HK.out).mono ?_; rw [HLN.out]; rintro e w' ⟨rfl, ⟨nd2, rfl⟩⟩))
    repeat (go_quiet (fail); try go_wp2)
    go_ret2
    exact ⟨_, by rw [HF.out]; rfl, by rw [HF.out]; exact Fr_nil _ _ _, (by repeat (first | (with_reducible first | exact HB.out | apply below_alloc | apply pw_below_drewN | apply below_drew1) | exact HB.out))⟩
set_option maxHeartbeats 3200000 in
theorem specFirstDs_calls (a b : Int) (w : World) (ha : W64 a) (hb : W64 b) :
    Calls Try.prog 8 #[.int .i64 a, .int .i64 b] w fun e w' => ∃ v, e = .returned (.tuple #[v, .bool (FirstDsF a b).2]) ∧ Fr (Kd.int .i64) w' w.heap.size v (FirstDsF a b).1 ∧ Below w.heap.size w w' := by
  have HB := Aside0.mk (Below.refl w.heap.size w)
  by_cases h1 : 2 ≤ a ∧ a ≤ 31
  · have HT1 := Aside0.mk (within_yes h1)
    by_cases h2 : 2 ≤ b ∧ b ≤ 6
    · have HT2 := Aside0.mk (within_yes h2)
      have HF := Aside0.mk (FirstDsF_in ⟨h1, h2⟩)
      obtain ⟨v, rfl⟩ : ∃ n : Nat, (n : Int) = a := ⟨a.toNat, by omega⟩
      obtain ⟨k, rfl⟩ : ∃ n : Nat, (n : Int) = b := ⟨b.toNat, by omega⟩
      have HV := Aside0.mk (show 2 ≤ v ∧ v ≤ 31 by omega)
      have HK := Aside0.mk (show 2 ≤ k ∧ k ≤ 6 by omega)
      go_enter Try.func8, Try.ntmps8
      go_wp2_with (first | (go_at_call 15; (first | rw [show (2 : Int) = 2 from rfl] | skip); refine (in_calls _ _ _ _).mono ?_; (first | rw [HT1.out] | rw [HT2.out]); rintro e w' ⟨rfl, ⟨nd, rfl⟩⟩) | (go_at_call 21; refine (ciFirst_calls v k _ HV.out HK.out).mono ?_; rintro e w1 ⟨v1, rfl, ho, hb⟩; have HO := Aside0.mk (Fr_lower (C' := w.heap.size) ho (below_size (by repeat (first | (with_reducible first | exact HB.out | apply below_alloc | apply pw_below_drewN | apply below_drew1) | exact HB.out)))); have n0_ := Aside0.mk (below_step (by repeat (first | (with_reducible first | exact HB.out | apply below_alloc | apply pw_below_drewN | apply below_drew1) | exact HB.out)) hb); clear HB ho hb; have HB := n0_; clear n0_))
      repeat (go_quiet (fail); try go_wp2)
      go_ret2
      exact ⟨_, by rw [HF.out]; rfl, by rw [HF.out]; first | exact HO.out | exact Fr_drewN HO.out _, (by repeat (first | (with_reducible first | exact HB.out | apply below_alloc | apply pw_below_drewN | apply below_drew1) | exact HB.out))⟩
    · have HT2 := Aside0.mk (within_no h2)
      have HF := Aside0.mk (FirstDsF_out (a := a) (b := b) (fun h => h2 h.2))
      go_enter Try.func8, Try.ntmps8
      go_wp2_with ((go_at_call 15; (first | rw [show (2 : Int) = 2 from rfl] | skip); refine (in_calls _ _ _ _).mono ?_; (first | rw [HT1.out] | rw [HT2.out]); rintro e w' ⟨rfl, ⟨nd, rfl⟩⟩))
      repeat (go_quiet (fail); try go_wp2)
      go_ret2
      exact ⟨_, by rw [HF.out]; rfl, by rw [HF.out]; exact Fr_nil _ _ _, (by repeat (first | (with_reducible first | exact HB.out | apply below_alloc | apply pw_below_drewN | apply below_drew1) | exact HB.out))⟩
  · have HT1 := Aside0.mk (within_no h1)
    have HF := Aside0.mk (FirstDsF_out (a := a) (b := b) (fun h => h1 h.1))
    go_enter Try.func8, Try.ntmps8
    go_wp2_with ((go_at_call 15; (first | rw [show (2 : Int) = 2 from rfl] | skip); refine (in_calls _ _ _ _).mono ?_; (first | rw [HT1.out] | rw [HT2.out]); rintro e w' ⟨rfl, ⟨nd, rfl⟩⟩))
    repeat (go_quiet (fail); try go_wp2)
    go_ret2
    exact ⟨_, by rw [HF.out]; rfl, by rw [HF.out]; exact Fr_nil _ _ _, (by repeat (first | (with_reducible first | exact HB.out | apply below_alloc | apply pw_below_drewN | apply below_drew1) | exact HB.out))⟩
set_option maxHeartbeats 3200000 in
theorem specLines_calls (q : Int) (w : World) (hq : W64 q) :
    Calls Try.prog 13 #[.int .i64 q] w fun e w' => ∃ v, e = .returned (.tuple #[v, .bool (LinesF q).2]) ∧ Fr (Kd.int .i64) w' w.heap.size v (LinesF q).1 ∧ Below w.heap.size w w' := by
  have HB := Aside0.mk (Below.refl w.heap.size w)
  by_cases h : 2 ≤ q ∧ q ≤ 5
  · have HT1 := Aside0.mk (within_yes h)
    have hqq := plane_fits h
    have HF := Aside0.mk (LinesF_in h)
    obtain ⟨v, hv⟩ : ∃ n : Nat, q * q + q + 1 = (n : Int) := ⟨(q * q + q + 1).toNat, by omega⟩
    obtain ⟨k, hk⟩ : ∃ n : Nat, q + 1 = (n : Int) := ⟨(q + 1).toNat, by omega⟩
    have HVV := Aside0.mk hv
    have HKK := Aside0.mk hk
    have HV := Aside0.mk (show 2 ≤ v ∧ v ≤ 31 by omega)
    have HK := Aside0.mk (show 2 ≤ k ∧ k ≤ 6 by omega)
    clear hv hk
    generalize hsq : q * q = s at hqq
    have HSQ := Aside0.mk hsq
    go_enter Try.func13, Try.ntmps13
    go_wp2_with (first | (go_at_call 15; (first | rw [show (2 : Int) = 2 from rfl] | skip); refine (in_calls _ _ _ _).mono ?_; (first | rw [HT1.out] | rw [HT2.out]); rintro e w' ⟨rfl, ⟨nd, rfl⟩⟩) | (go_at_call 21; (first | rw [show s + q + 1 = (v : Int) by have := HVV.out; have := HSQ.out; omega] | skip); (first | rw [HKK.out] | skip); refine (ciFirst_calls v k _ HV.out HK.out).mono ?_; rintro e w1 ⟨v1, rfl, ho, hb⟩; have HO := Aside0.mk (Fr_lower (C' := w.heap.size) ho (below_size (by repeat (first | (with_reducible first | exact HB.out | apply below_alloc | apply pw_below_drewN | apply below_drew1) | exact HB.out)))); have n0_ := Aside0.mk (below_step (by repeat (first | (with_reducible first | exact HB.out | apply below_alloc | apply pw_below_drewN | apply below_drew1) | exact HB.out)) hb); clear HB ho hb; have HB := n0_; clear n0_))
    repeat (go_quiet (fail); try go_wp2)
    go_ret2
    exact ⟨_, by rw [HF.out, HVV.out, HKK.out]; rfl, by rw [HF.out, HVV.out, HKK.out]; first | exact HO.out | exact Fr_drewN HO.out _, (by repeat (first | (with_reducible first | exact HB.out | apply below_alloc | apply pw_below_drewN | apply below_drew1) | exact HB.out))⟩
  · have HT1 := Aside0.mk (within_no h)
    have HF := Aside0.mk (LinesF_out h)
    go_enter Try.func13, Try.ntmps13
    go_wp2_with ((go_at_call 15; (first | rw [show (2 : Int) = 2 from rfl] | skip); refine (in_calls _ _ _ _).mono ?_; (first | rw [HT1.out] | rw [HT2.out]); rintro e w' ⟨rfl, ⟨nd, rfl⟩⟩))
    repeat (go_quiet (fail); try go_wp2)
    go_ret2
    exact ⟨_, by rw [HF.out]; rfl, by rw [HF.out]; exact Fr_nil _ _ _, (by repeat (first | (with_reducible first | exact HB.out | apply below_alloc | apply pw_below_drewN | apply below_drew1) | exact HB.out))⟩
end Go.Proofs.Ytikedacnijgloaa.Own.G
