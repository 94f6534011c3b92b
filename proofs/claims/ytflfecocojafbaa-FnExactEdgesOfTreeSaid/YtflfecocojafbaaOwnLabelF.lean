/- The edges of a tree: what the reference's and the program's EdgesOfTree return; lists of at most 1048576 numbers. -/
import Derived.Test.YtflfecocojafbaaOwnLabelA
import Derived.Test.YtflfecocojafbaaOwnSpine
import Derived.Test.YtflfecocojafbaaWRepsOne
namespace Go.Proofs.Ytflfecocojafbaa.Own.G
open Go.RowKit Go.Proofs.YtflfecocojafbaaW.PrintWords Go.Proofs.YtflfecocojafbaaW.PrintLast Go.Proofs.YtflfecocojafbaaW.PrintMore
set_option linter.unusedVariables false
theorem infoRow : (Try.prog.info? 22).map (fun i => (i.zero, i.size, i.bytes)) = some (some (.slice none 0 0), 1, 24) := by kernel_rfl
/-- The first i edges. -/
def edgeL (l : List Int) (i : Nat) : List (List Int) := (List.range i).map fun j : Nat => [rd l ((j + 1 : Nat) : Int), ((j + 1 : Nat) : Int)]
theorem edgeL_length (l : List Int) (i : Nat) : (edgeL l i).length = i := by simp [edgeL]
theorem edgeL_succ (l : List Int) (i : Nat) : edgeL l (i + 1) = edgeL l i ++ [[rd l ((i + 1 : Nat) : Int), ((i + 1 : Nat) : Int)]] := by
  unfold edgeL
  rw [List.range_succ, List.map_append]
  rfl
noncomputable def EdgesF (l : List Int) : List (List Int) × Bool := if tf (Tree l) = true then (edgeL l (l.length - 1), true) else ([], false)
theorem EdgesF_yes {l : List Int} (h : Tree l) : EdgesF l = (edgeL l (l.length - 1), true) := if_pos (tf_pos h)
theorem EdgesF_no {l : List Int} (h : ¬ Tree l) : EdgesF l = ([], false) := if_neg (by rw [tf_neg h]; decide)
theorem EdgesF_fit (l : List Int) (hn : l.length ≤ 1048576) : Fit (EdgesF l).1 := by
  by_cases h : Tree l
  · rw [EdgesF_yes h]
    refine ⟨by show (edgeL _ _).length ≤ _; rw [edgeL_length]; omega, fun x hx => ?_⟩
    simp only [edgeL, List.mem_map, List.mem_range] at hx
    obtain ⟨j, _, rfl⟩ := hx
    simp
  · rw [EdgesF_no h]
    exact ⟨by simp, by simp⟩
set_option maxHeartbeats 3200000 in
theorem specEdgesOfTree_calls (A : Option Addr) (c : Nat) (l : List Int) (w : World) (hr : Rd w A l) (hc : l.length ≤ c) (hn : l.length ≤ 1048576) (hw : ∀ x ∈ l, W64 x) :
    Calls Try.prog 39 #[.slice A l.length c] w fun e w' => ∃ v, e = .returned (.tuple #[v, .bool (EdgesF l).2]) ∧ OwS w' w.heap.size v (EdgesF l).1 ∧ Below w.heap.size w w' := by
  have HR := Aside0.mk hr
  have HC := Aside0.mk hc
  clear hr hc hw
  have HB := Aside0.mk (Below.refl w.heap.size w)
  by_cases hd : Tree l
  · have HD := Aside0.mk hd
    have H1 := Aside0.mk (tf_pos hd)
    have hlen := hd.1.1
    have HF := Aside0.mk (EdgesF_yes hd)
    have HO := Aside0.mk (Kd.S_nil (Kd.slice 3 (Kd.int .i64)) 22 w w.heap.size (fun _ => True))
    obtain ⟨ad, hA, _⟩ := at_first HR.out hlen.1
    subst hA
    clear hd
    go_enter Try.func39, Try.ntmps39
    go_wp2_with (go_at_call 46; refine (grTree_calls _ _ l _ (by first | exact HR.out | exact Kd.C_drewN HR.out _) HC.out hn).mono ?_; rw [H1.out]; rintro e w' ⟨rfl, ⟨nd, rfl⟩⟩)
    go_loopg [4, 5] (l.length - 1) (fun g v4 v5 w' => ∃ (i : Nat) (k : Int) (xs : List (List Int)), v5 = .int .i64 k ∧ Aside0 (k = (i : Int) + 1) ∧ Aside0 (i + g = l.length - 1) ∧ Aside0 (xs = edgeL l i) ∧ Aside0 (xs.length ≤ 1048576) ∧ Aside0 (OwS w' w.heap.size v4 xs) ∧ Aside0 (Below w.heap.size w w'))
    case atStart => exact ⟨0, _, [], rfl, ⟨by omega⟩, ⟨by omega⟩, ⟨rfl⟩, ⟨by simp⟩, ⟨by first | exact HO.out | exact OwS_drewN HO.out _ | exact Kd.S_nil _ _ _ _ _⟩, ⟨(by repeat (first | (with_reducible first | exact HB.out | apply below_alloc | apply pw_below_drewN | apply below_drew1) | exact HB.out))⟩⟩
    case round =>
      clear HO HB
      obtain ⟨i, k, xs, rfl, HK, HI, HX, HL, HO, HB⟩ := hrel
      by_cases hlt : k < (l.length : Int)
      · have k0 : 0 ≤ k := by have := HK.out; omega
        obtain ⟨ad1, e1, hx⟩ := Kd.at_int HR.out k k0 hlt
        obtain rfl : ad = ad1 := by injection e1
        clear e1
        replace hx := (HB.out.cell (World.block_lt_of_cell? w _ hx)).trans hx
        have hk3 : ((i + 1 : Nat) : Int) = k := by have := HK.out; omega
        have HS := Aside0.mk (edgeL_succ l i)
        rw [hk3] at HS
        clear hk3
        generalize rd l k = a at hx HS
        go_wp2_with (first | ((with_reducible refine gate_dst (N := 21) rfl ?_); refine Kd.R_lit (Kd.int .i64) _ 3 ?hg (N := 21) ?hd (xs := ([a, k] : List Int)) (inner := [.int .i64 (a), .int .i64 (k)]) (ok := fun _ => True) (okp := fun _ => True) ?hr ?hp (fun _ hk => hk) trivial (Below.refl _ _) (Nat.le_refl _) (by simp) ?_; (case hd => rfl); (case hg => rfl); (case hr => first | (go_simp; done) | (go_simp; rfl)); (case hp => exact (Reps.one (show Kd.M (Kd.int .i64) _ _ _ (a) [.int .i64 (a)] from rfl) (Reps.one (show Kd.M (Kd.int .i64) _ _ _ (k) [.int .i64 (k)] from rfl) (Reps.none _ _)))); intro v1 w1 ho8 hb hg_ hnew_; clear hg_ hnew_; have n0_ := Aside0.mk (Kd.S_elder' (by (with_reducible repeat (first | apply Kd.S_alloc | apply Kd.S_drewN | apply Kd.S_drew)); exact HO.out) (Kd.R_base ho8) hb); have n1_ := Aside0.mk (Kd.R_lower ho8 (below_size (by repeat (first | (with_reducible first | exact HB.out | apply below_alloc | apply pw_below_drewN | apply below_drew1) | exact HB.out)))); have n2_ := Aside0.mk (below_step (by repeat (first | (with_reducible first | exact HB.out | apply below_alloc | apply pw_below_drewN | apply below_drew1) | exact HB.out)) hb); clear HO HB; have HO := n0_; have HO1 := n1_; have HB := n2_; clear n0_ n1_ n2_ hb ho8; obtain ⟨Ar, cr, er⟩ := Kd.R_slice HO1.out; subst er) | ((with_reducible refine gate_builtin (b := .append) (xs := #[.tmp 15, .tmp 22]) rfl ?_); at_builtin; refine Kd.S_append (Kd.slice 3 (Kd.int .i64)) (w0 := w) w.heap.size rfl (.tmp 15) (.tmp 22) 38 22 (.slice none 0 0) 24 rfl Try.underlying38 infoRow rfl (by decide) (by omega) u4 xs ([a, k]) [(.slice Ar ([a, k]).length cr : Value)] (fun _ => True) (fun k_ => some k_ = (.slice Ar ([a, k]).length cr : Value).ownBlock) rfl rfl ?aP (fun k_ hk_ => ((Kd.R_mono (ok' := fun k_ => True ∧ some k_ ≠ (u4 : Value).ownBlock) (Kd.R_apart' (HO1.out) (Kd.S_typed HO.out) (by decide)) (fun k_ hk => ⟨trivial, hk.2⟩))).1 k_ hk_.symm) ?aF ?aO ?aB ?aS ?aL ?_; (case aP => exact Kd.M_row (Kd.R_mono (Kd.R_tight rfl (Kd.R_mono (ok' := fun k_ => True ∧ some k_ ≠ (u4 : Value).ownBlock) (Kd.R_apart' (HO1.out) (Kd.S_typed HO.out) (by decide)) (fun k_ hk => ⟨trivial, hk.2⟩))) (fun _ h_ => h_))); (case aB => exact (by repeat (first | (with_reducible first | exact HB.out | apply below_alloc | apply pw_below_drewN | apply below_drew1) | exact HB.out))); (case aF => exact (fun _ _ => trivial)); (case aO => exact (by (with_reducible repeat (first | apply Kd.S_alloc | apply Kd.S_drewN | apply Kd.S_drew)); exact Kd.S_mono HO.out (fun k_ hk => ⟨trivial, fun e_ => hk.2 e_⟩))); (case aS => exact (below_size (by repeat (first | (with_reducible first | exact HB.out | apply below_alloc | apply pw_below_drewN | apply below_drew1) | exact HB.out)))); (case aL => have := HL.out; omega); intro v2 w2 ho_ hb_ hg_ hat_; have n0_ := Aside0.mk hb_; have n1_ := Aside0.mk ho_; clear HB HO HO1; have HB := n0_; have HO := n1_; clear n0_ n1_ ho_ hb_ hg_ hat_))
        go_roundg (gk - 1)
        case measure => have := HI.out; have := HK.out; omega
        case rel => exact ⟨i + 1, k + 1, _, by go_num, ⟨by have := HK.out; omega⟩, ⟨by have := HI.out; have := HK.out; omega⟩, ⟨by rw [HX.out, HS.out]⟩, ⟨by rw [HX.out, List.length_append, edgeL_length, List.length_singleton]; have := HI.out; omega⟩, HO, HB⟩
      · have HE := Aside0.mk (show xs = edgeL l (l.length - 1) by rw [HX.out, show i = l.length - 1 by have := HI.out; have := HK.out; omega])
        (go_wp2; repeat (go_quiet (fail); try go_wp2))
        go_ret2
        exact ⟨_, by rw [HF.out]; rfl, by rw [HF.out]; show OwS _ _ _ (edgeL _ _); rw [← HE.out]; first | exact HO.out | exact OwS_drewN HO.out _, (by repeat (first | (with_reducible first | exact HB.out | apply below_alloc | apply pw_below_drewN | apply below_drew1) | exact HB.out))⟩
  · have H1 := Aside0.mk (tf_neg hd)
    have HF := Aside0.mk (EdgesF_no hd)
    clear hd
    go_enter Try.func39, Try.ntmps39
    go_wp2_with (go_at_call 46; refine (grTree_calls _ _ l _ (by first | exact HR.out | exact Kd.C_drewN HR.out _) HC.out hn).mono ?_; rw [H1.out]; rintro e w' ⟨rfl, ⟨nd, rfl⟩⟩)
    go_ret2
    exact ⟨_, by rw [HF.out]; rfl, by rw [HF.out]; exact Kd.S_nil _ _ _ _ _, (by repeat (first | (with_reducible first | exact HB.out | apply below_alloc | apply pw_below_drewN | apply below_drew1) | exact HB.out))⟩
set_option maxHeartbeats 3200000 in
theorem implEdgesOfTree_calls (A : Option Addr) (c : Nat) (l : List Int) (w : World) (hr : Rd w A l) (hc : l.length ≤ c) (hn : l.length ≤ 1048576) (hw : ∀ x ∈ l, W64 x) :
    Calls Try.prog 40 #[.slice A l.length c] w fun e w' => ∃ v, e = .returned (.tuple #[v, .bool (EdgesF l).2]) ∧ OwS w' w.heap.size v (EdgesF l).1 ∧ Below w.heap.size w w' := by
  have HR := Aside0.mk hr
  have HC := Aside0.mk hc
  clear hr hc hw
  have HB := Aside0.mk (Below.refl w.heap.size w)
  by_cases hd : Tree l
  · have HD := Aside0.mk hd
    have H1 := Aside0.mk (tf_pos hd)
    have hlen := hd.1.1
    have HF := Aside0.mk (EdgesF_yes hd)
    have HO := Aside0.mk (Kd.S_nil (Kd.slice 3 (Kd.int .i64)) 22 w w.heap.size (fun _ => True))
    obtain ⟨ad, hA, _⟩ := at_first HR.out hlen.1
    subst hA
    clear hd
    go_enter Try.func40, Try.ntmps40
    go_wp2_with (go_at_call 48; refine (IsTree_calls _ _ l _ (by first | exact HR.out | exact Kd.C_drewN HR.out _) HC.out hn).mono ?_; rw [H1.out]; rintro e w' ⟨rfl, ⟨nd, rfl⟩⟩)
    go_loopg [4, 5] (l.length - 1) (fun g v4 v5 w' => ∃ (i : Nat) (k : Int) (xs : List (List Int)), v5 = .int .i64 k ∧ Aside0 (k = (i : Int) + 1) ∧ Aside0 (i + g = l.length - 1) ∧ Aside0 (xs = edgeL l i) ∧ Aside0 (xs.length ≤ 1048576) ∧ Aside0 (OwS w' w.heap.size v4 xs) ∧ Aside0 (Below w.heap.size w w'))
    case atStart => exact ⟨0, _, [], rfl, ⟨by omega⟩, ⟨by omega⟩, ⟨rfl⟩, ⟨by simp⟩, ⟨by first | exact HO.out | exact OwS_drewN HO.out _ | exact Kd.S_nil _ _ _ _ _⟩, ⟨(by repeat (first | (with_reducible first | exact HB.out | apply below_alloc | apply pw_below_drewN | apply below_drew1) | exact HB.out))⟩⟩
    case round =>
      clear HO HB
      obtain ⟨i, k, xs, rfl, HK, HI, HX, HL, HO, HB⟩ := hrel
      by_cases hlt : k < (l.length : Int)
      · have k0 : 0 ≤ k := by have := HK.out; omega
        obtain ⟨ad1, e1, hx⟩ := Kd.at_int HR.out k k0 hlt
        obtain rfl : ad = ad1 := by injection e1
        clear e1
        replace hx := (HB.out.cell (World.block_lt_of_cell? w _ hx)).trans hx
        have hk3 : ((i + 1 : Nat) : Int) = k := by have := HK.out; omega
        have HS := Aside0.mk (edgeL_succ l i)
        rw [hk3] at HS
        clear hk3
        generalize rd l k = a at hx HS
        go_wp2_with (first | ((with_reducible refine gate_dst (N := 21) rfl ?_); refine Kd.R_lit (Kd.int .i64) _ 3 ?hg (N := 21) ?hd (xs := ([a, k] : List Int)) (inner := [.int .i64 (a), .int .i64 (k)]) (ok := fun _ => True) (okp := fun _ => True) ?hr ?hp (fun _ hk => hk) trivial (Below.refl _ _) (Nat.le_refl _) (by simp) ?_; (case hd => rfl); (case hg => rfl); (case hr => first | (go_simp; done) | (go_simp; rfl)); (case hp => exact (Reps.one (show Kd.M (Kd.int .i64) _ _ _ (a) [.int .i64 (a)] from rfl) (Reps.one (show Kd.M (Kd.int .i64) _ _ _ (k) [.int .i64 (k)] from rfl) (Reps.none _ _)))); intro v1 w1 ho8 hb hg_ hnew_; clear hg_ hnew_; have n0_ := Aside0.mk (Kd.S_elder' (by (with_reducible repeat (first | apply Kd.S_alloc | apply Kd.S_drewN | apply Kd.S_drew)); exact HO.out) (Kd.R_base ho8) hb); have n1_ := Aside0.mk (Kd.R_lower ho8 (below_size (by repeat (first | (with_reducible first | exact HB.out | apply below_alloc | apply pw_below_drewN | apply below_drew1) | exact HB.out)))); have n2_ := Aside0.mk (below_step (by repeat (first | (with_reducible first | exact HB.out | apply below_alloc | apply pw_below_drewN | apply below_drew1) | exact HB.out)) hb); clear HO HB; have HO := n0_; have HO1 := n1_; have HB := n2_; clear n0_ n1_ n2_ hb ho8; obtain ⟨Ar, cr, er⟩ := Kd.R_slice HO1.out; subst er) | ((with_reducible refine gate_builtin (b := .append) (xs := #[.tmp 15, .tmp 22]) rfl ?_); at_builtin; refine Kd.S_append (Kd.slice 3 (Kd.int .i64)) (w0 := w) w.heap.size rfl (.tmp 15) (.tmp 22) 38 22 (.slice none 0 0) 24 rfl Try.underlying38 infoRow rfl (by decide) (by omega) u4 xs ([a, k]) [(.slice Ar ([a, k]).length cr : Value)] (fun _ => True) (fun k_ => some k_ = (.slice Ar ([a, k]).length cr : Value).ownBlock) rfl rfl ?aP (fun k_ hk_ => ((Kd.R_mono (ok' := fun k_ => True ∧ some k_ ≠ (u4 : Value).ownBlock) (Kd.R_apart' (HO1.out) (Kd.S_typed HO.out) (by decide)) (fun k_ hk => ⟨trivial, hk.2⟩))).1 k_ hk_.symm) ?aF ?aO ?aB ?aS ?aL ?_; (case aP => exact Kd.M_row (Kd.R_mono (Kd.R_tight rfl (Kd.R_mono (ok' := fun k_ => True ∧ some k_ ≠ (u4 : Value).ownBlock) (Kd.R_apart' (HO1.out) (Kd.S_typed HO.out) (by decide)) (fun k_ hk => ⟨trivial, hk.2⟩))) (fun _ h_ => h_))); (case aB => exact (by repeat (first | (with_reducible first | exact HB.out | apply below_alloc | apply pw_below_drewN | apply below_drew1) | exact HB.out))); (case aF => exact (fun _ _ => trivial)); (case aO => exact (by (with_reducible repeat (first | apply Kd.S_alloc | apply Kd.S_drewN | apply Kd.S_drew)); exact Kd.S_mono HO.out (fun k_ hk => ⟨trivial, fun e_ => hk.2 e_⟩))); (case aS => exact (below_size (by repeat (first | (with_reducible first | exact HB.out | apply below_alloc | apply pw_below_drewN | apply below_drew1) | exact HB.out)))); (case aL => have := HL.out; omega); intro v2 w2 ho_ hb_ hg_ hat_; have n0_ := Aside0.mk hb_; have n1_ := Aside0.mk ho_; clear HB HO HO1; have HB := n0_; have HO := n1_; clear n0_ n1_ ho_ hb_ hg_ hat_))
        go_roundg (gk - 1)
        case measure => have := HI.out; have := HK.out; omega
        case rel => exact ⟨i + 1, k + 1, _, by go_num, ⟨by have := HK.out; omega⟩, ⟨by have := HI.out; have := HK.out; omega⟩, ⟨by rw [HX.out, HS.out]⟩, ⟨by rw [HX.out, List.length_append, edgeL_length, List.length_singleton]; have := HI.out; omega⟩, HO, HB⟩
      · have HE := Aside0.mk (show xs = edgeL l (l.length - 1) by rw [HX.out, show i = l.length - 1 by have := HI.out; have := HK.out; omega])
        (go_wp2; repeat (go_quiet (fail); try go_wp2))
        go_ret2
        exact ⟨_, by rw [HF.out]; rfl, by rw [HF.out]; show OwS _ _ _ (edgeL _ _); rw [← HE.out]; first | exact HO.out | exact OwS_drewN HO.out _, (by repeat (first | (with_reducible first | exact HB.out | apply below_alloc | apply pw_below_drewN | apply below_drew1) | exact HB.out))⟩
  · have H1 := Aside0.mk (tf_neg hd)
    have HF := Aside0.mk (EdgesF_no hd)
    clear hd
    go_enter Try.func40, Try.ntmps40
    go_wp2_with (go_at_call 48; refine (IsTree_calls _ _ l _ (by first | exact HR.out | exact Kd.C_drewN HR.out _) HC.out hn).mono ?_; rw [H1.out]; rintro e w' ⟨rfl, ⟨nd, rfl⟩⟩)
    go_ret2
    exact ⟨_, by rw [HF.out]; rfl, by rw [HF.out]; exact Kd.S_nil _ _ _ _ _, (by repeat (first | (with_reducible first | exact HB.out | apply below_alloc | apply pw_below_drewN | apply below_drew1) | exact HB.out))⟩
end Go.Proofs.Ytflfecocojafbaa.Own.G
