/- Difference sets, the first one and how many: what the program's CountDifferenceSets, firstSet, FirstDifferenceSet and LinesOfPlane return; no condition. -/
import Derived.Test.YtikedacnijgloaaOwnDsA
import Derived.Deep.RegionLaw
import Derived.Test.YtikedacnijgloaaWRepsOne
namespace Go.Proofs.Ytikedacnijgloaa.Own.G
open Go.RowKit Go.Proofs.YtikedacnijgloaaW.PrintWords Go.Proofs.YtikedacnijgloaaW.PrintLast Go.Proofs.YtikedacnijgloaaW.PrintMore
set_option linter.unusedVariables false
noncomputable def dsL (v k : Nat) : List (List Int) := (dsS v).lv (k - 1) [0]
/-- Such sets can be, as far as counting says. -/
def Poss (a b : Int) : Prop := b < a ∧ (b * (b - 1)) % (a - 1) = 0
def headD (L : List (List Int)) : List Int × Bool := match L with
  | [] => ([], false)
  | x :: _ => (x, true)
noncomputable def FirstSetF (a b : Int) : List Int × Bool := if tf (Poss a b) = true then headD (dsL a.toNat b.toNat) else ([], false)
noncomputable def FirstDsF (a b : Int) : List Int × Bool := if (2 ≤ a ∧ a ≤ 31) ∧ (2 ≤ b ∧ b ≤ 6) then FirstSetF a b else ([], false)
noncomputable def CountDsF (a b : Int) : Int × Bool := if (2 ≤ a ∧ a ≤ 31) ∧ (2 ≤ b ∧ b ≤ 5) then ((if tf (Poss a b) = true then ((dsL a.toNat b.toNat).length : Int) else 0), true) else (0, false)
noncomputable def LinesF (q : Int) : List Int × Bool := if 2 ≤ q ∧ q ≤ 5 then FirstSetF (q * q + q + 1) (q + 1) else ([], false)
theorem FirstSetF_yes {a b : Int} (h : Poss a b) : FirstSetF a b = headD (dsL a.toNat b.toNat) := if_pos (tf_pos h)
theorem FirstSetF_no {a b : Int} (h : ¬ Poss a b) : FirstSetF a b = ([], false) := if_neg (by rw [tf_neg h]; decide)
theorem FirstDsF_in {a b : Int} (h : (2 ≤ a ∧ a ≤ 31) ∧ (2 ≤ b ∧ b ≤ 6)) : FirstDsF a b = FirstSetF a b := if_pos h
theorem FirstDsF_out {a b : Int} (h : ¬ ((2 ≤ a ∧ a ≤ 31) ∧ (2 ≤ b ∧ b ≤ 6))) : FirstDsF a b = ([], false) := if_neg h
theorem CountDsF_out {a b : Int} (h : ¬ ((2 ≤ a ∧ a ≤ 31) ∧ (2 ≤ b ∧ b ≤ 5))) : CountDsF a b = (0, false) := if_neg h
theorem CountDsF_yes {a b : Int} (h : (2 ≤ a ∧ a ≤ 31) ∧ (2 ≤ b ∧ b ≤ 5)) (hp : Poss a b) : CountDsF a b = (((dsL a.toNat b.toNat).length : Int), true) := by rw [CountDsF, if_pos h, if_pos (tf_pos hp)]
theorem CountDsF_no {a b : Int} (h : (2 ≤ a ∧ a ≤ 31) ∧ (2 ≤ b ∧ b ≤ 5)) (hp : ¬ Poss a b) : CountDsF a b = (0, true) := by rw [CountDsF, if_pos h, if_neg (by rw [tf_neg hp]; decide)]
theorem LinesF_in {q : Int} (h : 2 ≤ q ∧ q ≤ 5) : LinesF q = FirstSetF (q * q + q + 1) (q + 1) := if_pos h
theorem LinesF_out {q : Int} (h : ¬ (2 ≤ q ∧ q ≤ 5)) : LinesF q = ([], false) := if_neg h
theorem Up_zero {v : Nat} (hv : 2 ≤ v) : Up (v : Int) [0] := ⟨fun x hx => by rw [List.mem_singleton.mp hx]; omega, by simp⟩
theorem dsL_row {v k : Nat} (hv : 2 ≤ v) (hk : 2 ≤ k) : ∀ x ∈ dsL v k, x.length = k := by
  intro x hx
  obtain ⟨⟨r, hr, hrl⟩, _⟩ := ds_found v (k - 1) [0] (Up_zero hv) (by simp) x hx
  rw [hr, List.length_append, hrl]
  simp
  omega
theorem headD_len {v k : Nat} (hv : 2 ≤ v) (hk : 2 ≤ k ∧ k ≤ 8) : headD (dsL v k) = ((headD (dsL v k)).1, decide (0 < (headD (dsL v k)).1.length)) ∧ (headD (dsL v k)).1.length ≤ 8 := by
  have hr := dsL_row (v := v) (k := k) hv hk.1
  cases hL : dsL v k with
  | nil => exact ⟨rfl, by simp [headD]⟩
  | cons x L =>
    have := hr x (by rw [hL]; simp)
    exact ⟨by rw [headD]; rw [show decide (0 < x.length) = true from decide_eq_true (by omega)], by show x.length ≤ 8; omega⟩
theorem FirstSetF_len {a b : Int} (ha : 2 ≤ a) (hb : 2 ≤ b ∧ b ≤ 8) : (FirstSetF a b).1.length ≤ 1048576 := by
  by_cases h : Poss a b
  · rw [FirstSetF_yes h]; have := (headD_len (v := a.toNat) (k := b.toNat) (by omega) (by omega)).2; omega
  · rw [FirstSetF_no h]; simp
theorem FirstDsF_len (a b : Int) : (FirstDsF a b).1.length ≤ 1048576 := by
  by_cases h : (2 ≤ a ∧ a ≤ 31) ∧ (2 ≤ b ∧ b ≤ 6)
  · rw [FirstDsF_in h]; exact FirstSetF_len (by omega) (by omega)
  · rw [FirstDsF_out h]; simp
theorem plane_fits {q : Int} (h : 2 ≤ q ∧ q ≤ 5) : 4 ≤ q * q ∧ q * q ≤ 25 := ⟨by have := Int.mul_le_mul h.1 h.1 (by omega) (by omega); omega, by have := Int.mul_le_mul h.2 h.2 (by omega) (by omega); omega⟩
theorem LinesF_len (q : Int) : (LinesF q).1.length ≤ 1048576 := by
  by_cases h : 2 ≤ q ∧ q ≤ 5
  · have := plane_fits h
    rw [LinesF_in h]; exact FirstSetF_len (by omega) (by omega)
  · rw [LinesF_out h]; simp
theorem goCount_ds (v k : Nat) : goCount v (k - 1) [0] 0 = ((dsL v k).length, false) := by
  have := (dsS v).go_all nextCount (k - 1) [0] 0
  rw [goCount, this, show (List.foldl nextCount 0 ((dsS v).lv (k - 1) [0])) = List.foldl (fun (s : Nat) (_ : List Int) => s + 1) 0 ((dsS v).lv (k - 1) [0]) from rfl, fold_count, Nat.zero_add]
  rfl
theorem goFirst_ds (v k : Nat) : goFirst v (k - 1) [0] [] = headD (dsL v k) := by
  have := (dsS v).go_first nextFirst (k - 1) [0] []
  rw [goFirst, this]
  unfold dsL
  cases (dsS v).lv (k - 1) [0] <;> rfl
theorem kk_in {k : Nat} (h : 2 ≤ k ∧ k ≤ 6) : 2 ≤ (k : Int) * ((k : Int) - 1) ∧ (k : Int) * ((k : Int) - 1) ≤ 30 := by
  have h1 := Int.mul_le_mul (show (k : Int) ≤ 6 by omega) (show (k : Int) - 1 ≤ 5 by omega) (by omega) (by omega)
  have h2 := Int.mul_le_mul (show (2 : Int) ≤ k by omega) (show (1 : Int) ≤ (k : Int) - 1 by omega) (by omega) (by omega)
  omega
theorem isCircle_calls (a : Int) (w : World) : Calls Try.prog 18 #[.int .i64 a] w fun e w' => e = .returned (.bool (within 2 31 a)) ∧ Drawn0 w w' := by
  by_cases h : 2 ≤ a
  · by_cases h' : a ≤ 31
    · have H := Aside0.mk (within_yes ⟨h, h'⟩)
      go_enter Try.func18, Try.ntmps18
      (go_wp2; repeat (go_quiet (fail); try go_wp2))
      go_ret
      exact ⟨by rw [H.out]; simp, (by repeat (first | exact Drawn0.refl _ | apply Drawn0.step))⟩
    · have H := Aside0.mk (within_no (fun k => h' k.2 : ¬ (2 ≤ a ∧ a ≤ 31)))
      have h2 : 31 < a := by omega
      clear h'
      go_enter Try.func18, Try.ntmps18
      (go_wp2; repeat (go_quiet (fail); try go_wp2))
      go_ret
      exact ⟨by rw [H.out]; simp [h2], (by repeat (first | exact Drawn0.refl _ | apply Drawn0.step))⟩
  · have H := Aside0.mk (within_no (fun k => h k.1 : ¬ (2 ≤ a ∧ a ≤ 31)))
    go_enter Try.func18, Try.ntmps18
    (go_wp2; repeat (go_quiet (fail); try go_wp2))
    go_ret
    exact ⟨by rw [H.out]; rfl, (by repeat (first | exact Drawn0.refl _ | apply Drawn0.step))⟩
theorem new_cell (w : World) (u : Value) (t : TypeId) (n : Nat) : ((w.drewN n).alloc (.cells #[u] t)).cell? ⟨w.heap.size, 0, none⟩ = some u := cell_of_one (Var.new (w.drewN n) u t)
theorem new_free (w : World) (u : Value) (t : TypeId) (n : Nat) : ((w.drewN n).alloc (.cells #[u] t)).frozen? ⟨w.heap.size, 0, none⟩ = false := free_of_one (Var.new (w.drewN n) u t)
set_option maxHeartbeats 3200000 in
theorem implCountDs_calls (a b : Int) (w : World) (ha : W64 a) (hb : W64 b) :
    Calls Try.prog 7 #[.int .i64 a, .int .i64 b] w fun e w' => e = .returned (.tuple #[.int .i64 (CountDsF a b).1, .bool (CountDsF a b).2]) ∧ Below w.heap.size w w' := by
  have HB := Aside0.mk (Below.refl w.heap.size w)
  by_cases h : (2 ≤ a ∧ a ≤ 31) ∧ (2 ≤ b ∧ b ≤ 5)
  · obtain ⟨v, rfl⟩ : ∃ n : Nat, (n : Int) = a := ⟨a.toNat, by omega⟩
    obtain ⟨k, rfl⟩ : ∃ n : Nat, (n : Int) = b := ⟨b.toNat, by omega⟩
    have hkk := kk_in (k := k) (by omega)
    by_cases hp : Poss v k
    · have HF := Aside0.mk (show CountDsF v k = (((dsL v k).length : Int), true) from CountDsF_yes h hp)
      have HGA := Aside0.mk (goCount_ds v k)
      have HSZ := Aside0.mk (show sizeCount 0 + 1 * v ^ (k - 1) ≤ 1000000000 by
        have h2 : v ^ (k - 1) ≤ 31 ^ 4 := Nat.le_trans (Nat.pow_le_pow_left (by omega) _) (Nat.pow_le_pow_right (by decide) (by omega))
        have h3 : (31 : Nat) ^ 4 = 923521 := by decide
        show 0 + 1 * v ^ (k - 1) ≤ _
        omega)
      have HE := Aside0.mk (dsCount_calls v k (k - 1) w.heap.size w.heap.size (by omega) (by omega) (Nat.le_refl _))
      have HUP := Aside0.mk (Up_zero (v := v) (by omega))
      have HVC := Aside0.mk (within_yes h.1)
      have hcn := new_cell w (.int .i64 0) 3
      have hcm := fun m => new_cell (w.drewN m) (.int .i64 0) 3
      have hfm := fun m => new_free (w.drewN m) (.int .i64 0) 3
      have hfn := new_free w (.int .i64 0) 3
      have hlt : (k : Int) < v := hp.1
      have hrem : ((k : Int) * ((k : Int) - 1) % ((v : Int) - 1) != 0) = false := by rw [hp.2]; rfl
      generalize hK : (k : Int) * ((k : Int) - 1) = K at hkk hrem
      clear hp ha hb
      go_enter Try.func7, Try.ntmps7
      go_wp2_with (first | (go_at_call 18; refine (isCircle_calls _ _).mono ?_; rw [HVC.out]; rintro e w' ⟨rfl, ⟨nd, rfl⟩⟩) | ((with_reducible refine gate_dst (N := 33) rfl ?_); refine Kd.R_lit (Kd.int .i64) _ 3 ?hg (N := 33) ?hd (xs := ([0] : List Int)) (inner := [.int .i64 (0)]) (ok := fun _ => True) (okp := fun _ => True) ?hr ?hp (fun _ hk => hk) trivial (Below.refl _ _) (Nat.le_refl _) (by simp) ?_; (case hd => rfl); (case hg => rfl); (case hr => first | (go_simp; done) | (go_simp; rfl)); (case hp => exact (Reps.one (show Kd.M (Kd.int .i64) _ _ _ (0) [.int .i64 (0)] from rfl) (Reps.none _ _))); intro v1 w1 ho8 hb hg_ hnew_; clear hg_ hnew_; obtain ⟨A1, c1, e1_⟩ := Kd.R_slice ho8; subst e1_; have HVN := Aside0.mk ((show Var _ w.heap.size _ _ from (by repeat (first | exact Var.new _ _ _ | apply Var.drewN | apply Var.put))).below hb); have HNE := Aside0.mk (fun k (hk : (Value.slice A1 1 c1).ownBlock = some k) => Nat.ne_of_gt (Nat.lt_of_lt_of_le (lt_of_block (show Var _ w.heap.size _ _ from (by repeat (first | exact Var.new _ _ _ | apply Var.drewN | apply Var.put)))) (Kd.R_base ho8 k hk))); have HO1 := Aside0.mk (Ow_lower (B' := w.heap.size) ho8 ((by repeat (first | exact Below.refl _ _ | apply below_alloc | apply pw_below_drewN | apply below_drew1 | (refine Below.setCell ?_ (by first | exact Nat.le_refl _ | (show _ ≤ _; omega)) _))) : Below w.heap.size w _).size); have n2_ := Aside0.mk (below_step ((by repeat (first | exact Below.refl _ _ | apply below_alloc | apply pw_below_drewN | apply below_drew1 | (refine Below.setCell ?_ (by first | exact Nat.le_refl _ | (show _ ≤ _; omega)) _))) : Below w.heap.size w _) hb); clear HB; have HB := n2_; clear n2_ hb ho8) | (go_at_call 19; refine (HE.out (.slice A1 1 c1) [0] _ (fun _ => False) 0 HO1.out (fun k hk => ⟨fun h => h, HNE.out k hk⟩) (fun h => h) (show Var _ _ _ _ from HVN.out) (by simp) (by simp; omega) HSZ.out HUP.out).mono ?_; rw [HGA.out]; rintro e w4 ⟨rfl, hv, hch⟩; have hc1 := cell_of_one hv; have n0_ := Aside0.mk (HB.out.trans (hch.to HB.out.size (fun k hk hq => hq.elim (fun h => by omega) (fun h => h)))); clear HB hv hch; have HB := n0_; clear n0_))
      repeat (go_quiet (fail); try go_wp2)
      go_ret2
      exact ⟨by rw [HF.out]; rfl, (by repeat (first | (with_reducible first | exact HB.out | apply below_alloc | apply pw_below_drewN | apply below_drew1) | exact HB.out))⟩
    · have HF := Aside0.mk (show CountDsF v k = (0, true) from CountDsF_no h hp)
      by_cases hlt : (k : Int) < v
      · have hrem : ((k : Int) * ((k : Int) - 1) % ((v : Int) - 1) != 0) = true := bne_iff_ne.mpr (fun h2 => hp ⟨hlt, h2⟩)
        generalize hK : (k : Int) * ((k : Int) - 1) = K at hkk hrem
        clear hp ha hb
        go_enter Try.func7, Try.ntmps7
        (go_wp2; repeat (go_quiet (fail); try go_wp2))
        go_ret2
        exact ⟨by rw [HF.out]; rfl, (by repeat (first | (with_reducible first | exact HB.out | apply below_alloc | apply pw_below_drewN | apply below_drew1) | exact HB.out))⟩
      · generalize hK : (k : Int) * ((k : Int) - 1) = K at hkk
        clear hp ha hb
        go_enter Try.func7, Try.ntmps7
        (go_wp2; repeat (go_quiet (fail); try go_wp2))
        go_ret2
        exact ⟨by rw [HF.out]; rfl, (by repeat (first | (with_reducible first | exact HB.out | apply below_alloc | apply pw_below_drewN | apply below_drew1) | exact HB.out))⟩
  · have HF := Aside0.mk (CountDsF_out h)
    by_cases h1 : a < 2
    · go_enter Try.func7, Try.ntmps7
      (go_wp2; repeat (go_quiet (fail); try go_wp2))
      go_ret2
      exact ⟨by rw [HF.out]; rfl, (by repeat (first | (with_reducible first | exact HB.out | apply below_alloc | apply pw_below_drewN | apply below_drew1) | exact HB.out))⟩
    · by_cases h2 : 31 < a
      · go_enter Try.func7, Try.ntmps7
        (go_wp2; repeat (go_quiet (fail); try go_wp2))
        go_ret2
        exact ⟨by rw [HF.out]; rfl, (by repeat (first | (with_reducible first | exact HB.out | apply below_alloc | apply pw_below_drewN | apply below_drew1) | exact HB.out))⟩
      · by_cases h3 : b < 2
        · go_enter Try.func7, Try.ntmps7
          (go_wp2; repeat (go_quiet (fail); try go_wp2))
          go_ret2
          exact ⟨by rw [HF.out]; rfl, (by repeat (first | (with_reducible first | exact HB.out | apply below_alloc | apply pw_below_drewN | apply below_drew1) | exact HB.out))⟩
        · have h4 : 5 < b := by omega
          go_enter Try.func7, Try.ntmps7
          (go_wp2; repeat (go_quiet (fail); try go_wp2))
          go_ret2
          exact ⟨by rw [HF.out]; rfl, (by repeat (first | (with_reducible first | exact HB.out | apply below_alloc | apply pw_below_drewN | apply below_drew1) | exact HB.out))⟩
set_option maxHeartbeats 3200000 in
theorem implFirstSet_calls (v k : Nat) (w : World) (hv : 2 ≤ v ∧ v ≤ 31) (hk : 2 ≤ k ∧ k ≤ 6) :
    Calls Try.prog 22 #[.int .i64 (v : Int), .int .i64 (k : Int)] w fun e w' => ∃ u, e = .returned (.tuple #[u, .bool (FirstSetF v k).2]) ∧ Ow w' w.heap.size u (FirstSetF v k).1 ∧ Below w.heap.size w w' := by
  have HB := Aside0.mk (Below.refl w.heap.size w)
  have hkk := kk_in hk
  by_cases hp : Poss v k
  · have HF := Aside0.mk (show FirstSetF v k = headD (dsL v k) from FirstSetF_yes hp)
    have HHL := Aside0.mk (headD_len (v := v) (k := k) (by omega) (by omega)).1
    have HGA := Aside0.mk (goFirst_ds v k)
    have HSZ := Aside0.mk (show sizeFirst [] + 0 * v ^ (k - 1) ≤ 1000000000 by show 0 + 0 * v ^ (k - 1) ≤ _; omega)
    have HE := Aside0.mk (dsFirst_calls v k (k - 1) w.heap.size w.heap.size (by omega) (by omega) (Nat.le_refl _))
    have HUP := Aside0.mk (Up_zero (v := v) (by omega))
    have hlt : (k : Int) < v := hp.1
    have hrem : ((k : Int) * ((k : Int) - 1) % ((v : Int) - 1) != 0) = false := by rw [hp.2]; rfl
    generalize hK : (k : Int) * ((k : Int) - 1) = K at hkk hrem
    generalize headD (dsL v k) = r at HHL HF HGA
    clear hp
    go_enter Try.func22, Try.ntmps22
    go_wp2_with (first | ((with_reducible refine gate_dst (N := 22) rfl ?_); refine Kd.R_lit (Kd.int .i64) _ 3 ?hg (N := 22) ?hd (xs := ([0] : List Int)) (inner := [.int .i64 (0)]) (ok := fun _ => True) (okp := fun _ => True) ?hr ?hp (fun _ hk => hk) trivial (Below.refl _ _) (Nat.le_refl _) (by simp) ?_; (case hd => rfl); (case hg => rfl); (case hr => first | (go_simp; done) | (go_simp; rfl)); (case hp => exact (Reps.one (show Kd.M (Kd.int .i64) _ _ _ (0) [.int .i64 (0)] from rfl) (Reps.none _ _))); intro v1 w1 ho8 hb hg_ hnew_; clear hg_ hnew_; obtain ⟨A1, c1, e1_⟩ := Kd.R_slice ho8; subst e1_; have HVN := Aside0.mk ((show Var _ w.heap.size _ _ from (by repeat (first | exact Var.new _ _ _ | apply Var.drewN | apply Var.put))).below hb); have HNE := Aside0.mk (fun k (hk : (Value.slice A1 1 c1).ownBlock = some k) => Nat.ne_of_gt (Nat.lt_of_lt_of_le (lt_of_block (show Var _ w.heap.size _ _ from (by repeat (first | exact Var.new _ _ _ | apply Var.drewN | apply Var.put)))) (Kd.R_base ho8 k hk))); have HO1 := Aside0.mk (Ow_lower (B' := w.heap.size) ho8 ((by repeat (first | exact Below.refl _ _ | apply below_alloc | apply pw_below_drewN | apply below_drew1 | (refine Below.setCell ?_ (by first | exact Nat.le_refl _ | (show _ ≤ _; omega)) _))) : Below w.heap.size w _).size); have n2_ := Aside0.mk (below_step ((by repeat (first | exact Below.refl _ _ | apply below_alloc | apply pw_below_drewN | apply below_drew1 | (refine Below.setCell ?_ (by first | exact Nat.le_refl _ | (show _ ≤ _; omega)) _))) : Below w.heap.size w _) hb); clear HB; have HB := n2_; clear n2_ hb ho8) | (go_at_call 19; refine (HE.out (.slice A1 1 c1) [0] _ (fun _ => False) [] HO1.out (fun k hk => ⟨fun h => h, HNE.out k hk⟩) (fun h => h) ⟨.slice none 0 0, HVN.out, Kd.R_nil _ _ _ _ _⟩ (by simp) (by simp; omega) HSZ.out HUP.out).mono ?_; rw [HGA.out]; rintro e w4 ⟨rfl, ⟨v, hv, ho⟩, hch⟩; obtain ⟨Av, cv, rfl⟩ := Kd.R_slice ho; have hc1 := cell_of_one hv; have HO := Aside0.mk ho; have n0_ := Aside0.mk (HB.out.trans (hch.to HB.out.size (fun k hk hq => hq.elim (fun h => by omega) (fun h => h)))); clear HB hv hch ho; have HB := n0_; clear n0_))
    repeat (go_quiet (fail); try go_wp2)
    go_ret2
    exact ⟨_, by rw [HF.out, HHL.out]; rfl, by rw [HF.out]; exact Kd.R_mono (by first | exact HO.out | exact Kd.R_drewN HO.out _) (fun _ _ => trivial), (by repeat (first | (with_reducible first | exact HB.out | apply below_alloc | apply pw_below_drewN | apply below_drew1) | exact HB.out))⟩
  · have HF := Aside0.mk (show FirstSetF v k = ([], false) from FirstSetF_no hp)
    by_cases hlt : (k : Int) < v
    · have hrem : ((k : Int) * ((k : Int) - 1) % ((v : Int) - 1) != 0) = true := bne_iff_ne.mpr (fun h2 => hp ⟨hlt, h2⟩)
      generalize hK : (k : Int) * ((k : Int) - 1) = K at hkk hrem
      clear hp
      go_enter Try.func22, Try.ntmps22
      (go_wp2; repeat (go_quiet (fail); try go_wp2))
      go_ret2
      exact ⟨_, by rw [HF.out]; rfl, by rw [HF.out]; exact Kd.R_nil _ _ _ _ _, (by repeat (first | (with_reducible first | exact HB.out | apply below_alloc | apply pw_below_drewN | apply below_drew1) | exact HB.out))⟩
    · generalize hK : (k : Int) * ((k : Int) - 1) = K at hkk
      clear hp
      go_enter Try.func22, Try.ntmps22
      (go_wp2; repeat (go_quiet (fail); try go_wp2))
      go_ret2
      exact ⟨_, by rw [HF.out]; rfl, by rw [HF.out]; exact Kd.R_nil _ _ _ _ _, (by repeat (first | (with_reducible first | exact HB.out | apply below_alloc | apply pw_below_drewN | apply below_drew1) | exact HB.out))⟩
set_option maxHeartbeats 3200000 in
theorem implFirstDs_calls (a b : Int) (w : World) (ha : W64 a) (hb : W64 b) :
    Calls Try.prog 9 #[.int .i64 a, .int .i64 b] w fun e w' => ∃ v, e = .returned (.tuple #[v, .bool (FirstDsF a b).2]) ∧ Ow w' w.heap.size v (FirstDsF a b).1 ∧ Below w.heap.size w w' := by
  have HB := Aside0.mk (Below.refl w.heap.size w)
  by_cases h : (2 ≤ a ∧ a ≤ 31) ∧ (2 ≤ b ∧ b ≤ 6)
  · obtain ⟨v, rfl⟩ : ∃ n : Nat, (n : Int) = a := ⟨a.toNat, by omega⟩
    obtain ⟨k, rfl⟩ : ∃ n : Nat, (n : Int) = b := ⟨b.toNat, by omega⟩
    have HF := Aside0.mk (FirstDsF_in h)
    have HV := Aside0.mk (show 2 ≤ v ∧ v ≤ 31 by omega)
    have HK := Aside0.mk (show 2 ≤ k ∧ k ≤ 6 by omega)
    have HVC := Aside0.mk (within_yes h.1)
    go_enter Try.func9, Try.ntmps9
    go_wp2_with (first | (go_at_call 18; refine (isCircle_calls _ _).mono ?_; rw [HVC.out]; rintro e w' ⟨rfl, ⟨nd, rfl⟩⟩) | go_at_call 22; refine (implFirstSet_calls v k _ HV.out HK.out).mono ?_; rintro e w1 ⟨v1, rfl, ho, hb⟩; have HO := Aside0.mk (Ow_lower ho (below_size (by repeat (first | (with_reducible first | exact HB.out | apply below_alloc | apply pw_below_drewN | apply below_drew1) | exact HB.out)))); have n0_ := Aside0.mk (below_step (by repeat (first | (with_reducible first | exact HB.out | apply below_alloc | apply pw_below_drewN | apply below_drew1) | exact HB.out)) hb); clear HB ho hb; have HB := n0_; clear n0_)
    repeat (go_quiet (fail); try go_wp2)
    go_ret2
    exact ⟨_, by rw [HF.out]; rfl, by rw [HF.out]; first | exact HO.out | exact Ow_drewN HO.out _, (by repeat (first | (with_reducible first | exact HB.out | apply below_alloc | apply pw_below_drewN | apply below_drew1) | exact HB.out))⟩
  · have HF := Aside0.mk (FirstDsF_out h)
    by_cases h1 : a < 2
    · go_enter Try.func9, Try.ntmps9
      (go_wp2; repeat (go_quiet (fail); try go_wp2))
      go_ret2
      exact ⟨_, by rw [HF.out]; rfl, by rw [HF.out]; exact Kd.R_nil _ _ _ _ _, (by repeat (first | (with_reducible first | exact HB.out | apply below_alloc | apply pw_below_drewN | apply below_drew1) | exact HB.out))⟩
    · by_cases h2 : 31 < a
      · go_enter Try.func9, Try.ntmps9
        (go_wp2; repeat (go_quiet (fail); try go_wp2))
        go_ret2
        exact ⟨_, by rw [HF.out]; rfl, by rw [HF.out]; exact Kd.R_nil _ _ _ _ _, (by repeat (first | (with_reducible first | exact HB.out | apply below_alloc | apply pw_below_drewN | apply below_drew1) | exact HB.out))⟩
      · by_cases h3 : b < 2
        · go_enter Try.func9, Try.ntmps9
          (go_wp2; repeat (go_quiet (fail); try go_wp2))
          go_ret2
          exact ⟨_, by rw [HF.out]; rfl, by rw [HF.out]; exact Kd.R_nil _ _ _ _ _, (by repeat (first | (with_reducible first | exact HB.out | apply below_alloc | apply pw_below_drewN | apply below_drew1) | exact HB.out))⟩
        · have h4 : 6 < b := by omega
          go_enter Try.func9, Try.ntmps9
          (go_wp2; repeat (go_quiet (fail); try go_wp2))
          go_ret2
          exact ⟨_, by rw [HF.out]; rfl, by rw [HF.out]; exact Kd.R_nil _ _ _ _ _, (by repeat (first | (with_reducible first | exact HB.out | apply below_alloc | apply pw_below_drewN | apply below_drew1) | exact HB.out))⟩
set_option maxHeartbeats 3200000 in
theorem implLines_calls (q : Int) (w : World) (hq : W64 q) :
    Calls Try.prog 14 #[.int .i64 q] w fun e w' => ∃ v, e = .returned (.tuple #[v, .bool (LinesF q).2]) ∧ Ow w' w.heap.size v (LinesF q).1 ∧ Below w.heap.size w w' := by
  have HB := Aside0.mk (Below.refl w.heap.size w)
  by_cases h : 2 ≤ q ∧ q ≤ 5
  · have hqq := plane_fits h
    have HF := Aside0.mk (LinesF_in h)
    obtain ⟨v, hv⟩ : ∃ n : Nat, q * q + q + 1 = (n : Int) := ⟨(q * q + q + 1).toNat, by omega⟩
    obtain ⟨k, hk⟩ : ∃ n : Nat, q + 1 = (n : Int) := ⟨(q + 1).toNat, by omega⟩
    have HVV := Aside0.mk hv
    have HKK := Aside0.mk hk
    have HV := Aside0.mk (show 2 ≤ v ∧ v ≤ 31 by omega)
    have HK := Aside0.mk (show 2 ≤ k ∧ k ≤ 6 by omega)
    clear hv hk
    generalize hsq : q * q = s at hqq
    have HSQ := Aside0.mk hsq
    go_enter Try.func14, Try.ntmps14
    go_wp2_with (go_at_call 22; (first | rw [show s + q + 1 = (v : Int) by have := HVV.out; have := HSQ.out; omega] | skip); (first | rw [HKK.out] | skip); refine (implFirstSet_calls v k _ HV.out HK.out).mono ?_; rintro e w1 ⟨v1, rfl, ho, hb⟩; have HO := Aside0.mk (Ow_lower ho (below_size (by repeat (first | (with_reducible first | exact HB.out | apply below_alloc | apply pw_below_drewN | apply below_drew1) | exact HB.out)))); have n0_ := Aside0.mk (below_step (by repeat (first | (with_reducible first | exact HB.out | apply below_alloc | apply pw_below_drewN | apply below_drew1) | exact HB.out)) hb); clear HB ho hb; have HB := n0_; clear n0_)
    repeat (go_quiet (fail); try go_wp2)
    go_ret2
    exact ⟨_, by rw [HF.out, HVV.out, HKK.out]; rfl, by rw [HF.out, HVV.out, HKK.out]; first | exact HO.out | exact Ow_drewN HO.out _, (by repeat (first | (with_reducible first | exact HB.out | apply below_alloc | apply pw_below_drewN | apply below_drew1) | exact HB.out))⟩
  · have HF := Aside0.mk (LinesF_out h)
    by_cases h1 : q < 2
    · go_enter Try.func14, Try.ntmps14
      (go_wp2; repeat (go_quiet (fail); try go_wp2))
      go_ret2
      exact ⟨_, by rw [HF.out]; rfl, by rw [HF.out]; exact Kd.R_nil _ _ _ _ _, (by repeat (first | (with_reducible first | exact HB.out | apply below_alloc | apply pw_below_drewN | apply below_drew1) | exact HB.out))⟩
    · have h4 : 5 < q := by omega
      go_enter Try.func14, Try.ntmps14
      (go_wp2; repeat (go_quiet (fail); try go_wp2))
      go_ret2
      exact ⟨_, by rw [HF.out]; rfl, by rw [HF.out]; exact Kd.R_nil _ _ _ _ _, (by repeat (first | (with_reducible first | exact HB.out | apply below_alloc | apply pw_below_drewN | apply below_drew1) | exact HB.out))⟩
end Go.Proofs.Ytikedacnijgloaa.Own.G
