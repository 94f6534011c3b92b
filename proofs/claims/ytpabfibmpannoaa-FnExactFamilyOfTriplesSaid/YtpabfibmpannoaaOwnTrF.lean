/- Difference triples: what the reference's FamilyOfTriples returns; rows of at most 1048576 numbers. -/
import Derived.Test.YtpabfibmpannoaaOwnTrE
import Derived.Test.YtpabfibmpannoaaOwnCiS
import Derived.Test.YtpabfibmpannoaaWApart
namespace Go.Proofs.Ytpabfibmpannoaa.Own.G
open Go.RowKit Go.Proofs.YtpabfibmpannoaaW.PrintWords Go.Proofs.YtpabfibmpannoaaW.PrintLast Go.Proofs.YtpabfibmpannoaaW.PrintMore
set_option linter.unusedVariables false
theorem fam_row {v : Int} {n : Nat} {t : List Int} (h : RowI v n t) (hv : v = 6 * (n : Int) + 1) : 0 < rd t 0 ∧ rd t 0 < rd t 0 + rd t 1 ∧ rd t 0 + rd t 1 < v := by
  obtain ⟨_, h1, h2, h3, h4, h5⟩ := h
  omega
theorem infoRow : (Try.prog.info? 29).map (fun i => (i.zero, i.size, i.bytes)) = some (some (.slice none 0 0), 1, 24) := by kernel_rfl
theorem Ow_lit3 (W : World) (x y z : Int) : Ow (W.alloc (.cells #[.int .i64 x, .int .i64 y, .int .i64 z] 3)) W.heap.size (.slice (some ⟨W.heap.size, 0, none⟩) 3 3) [x, y, z] := by
  have hrep : Reps (Kd.M (Kd.int .i64) W W.heap.size (fun _ => True)) 1 [x, y, z] [.int .i64 x, .int .i64 y, .int .i64 z] := Reps.one (show Kd.M (Kd.int .i64) _ _ _ x [.int .i64 x] from rfl) (Reps.one (show Kd.M (Kd.int .i64) _ _ _ y [.int .i64 y] from rfl) (Reps.one (show Kd.M (Kd.int .i64) _ _ _ z [.int .i64 z] from rfl) (Reps.none _ _)))
  refine ⟨fun _ _ => trivial, [.int .i64 x, .int .i64 y, .int .i64 z], ?_, ?_⟩
  · have h2 := World.ownsRow_lit (base := W.heap.size) (e := 3) (size := 1) W #[.int .i64 x, .int .i64 y, .int .i64 z] 3 (Nat.le_refl _) (by unfold maxLen; omega) (by simp)
    show (W.alloc _).ownsRow W.heap.size 3 1 _ 3 _
    simpa using h2
  · refine hrep.imp_ (fun p c hp => (Kd.int .i64).M_mono (fun k hk => ⟨trivial, fun he => ?_⟩) (Kd.M_below ((Kd.int .i64).M_bound hp) (below_alloc (Below.refl _ _) _)))
    have h3 : k = W.heap.size := by simpa [Value.ownBlock] using he
    have := hk.2.2.1
    omega
/-- append(v, row) as a step of a region that draws its order. -/
theorem own_push_step {ops : Array Oper} {o : Oper} {a : Act} {K : Act → World → Prop} {Q : Exit → Act → World → Prop} {E : Prop} (hgd : o.guard = none) (s x : Operand)
    (ho : o.op = .call { callee := .builtin .append, args := #[s, x], argTypes := #[22, 22] }) (w W : World) (v : Value) (xs : List (List Int)) (p : List Int) (A : Option Addr) (c : Nat) (hs : a.eval s = v)
    (hx : a.eval x = .slice (some ⟨W.heap.size, 0, none⟩) 1 1) (HO : Kd.S (Kd.slice 3 (Kd.int .i64)) 29 W w.heap.size (fun k => True ∧ some k ≠ (Value.slice A p.length c).ownBlock) v xs) (HO1 : Ow W w.heap.size (.slice A p.length c) p)
    (HB : Below w.heap.size w W) (hbase : w.heap.size ≤ W.heap.size) (hl : xs.length ≤ 1048576) (h : ∀ v1 w1, OwS w1 w.heap.size v1 (xs ++ [p]) → Below w.heap.size w w1 → K (a.put o.dst v1) w1) :
    if Region.wanted o (yielded ops a.tmps) = true then Oper.wp Try.prog o a (W.alloc (.cells #[.slice A p.length c] 29)) K Q else E := by
  have hw : Region.wanted o (yielded ops a.tmps) = true := by simp [Region.wanted, hgd]
  have ap := Kd.R_mono (ok' := fun k_ => True ∧ some k_ ≠ v.ownBlock) (Kd.R_apart' HO1 (Kd.S_typed HO) (by decide)) (fun k_ hk => ⟨trivial, hk.2⟩)
  have h9 := Kd.S_append_step (P := Try.prog) (ops := ops) (o := o) (a := a) (Q := Q) (Kc := K) (Kd.slice 3 (Kd.int .i64)) (w0 := w) (W := W) w.heap.size hw s x 22 29 (.slice none 0 0) 24 ho Try.underlying22 infoRow rfl (by decide) (by omega) v xs p [.slice A p.length c] (fun _ => True) (fun k_ => some k_ = (Value.slice A p.length c).ownBlock) hs hx (Kd.M_row (Kd.R_mono (Kd.R_tight rfl ap) (fun _ h_ => h_))) (fun k_ hk_ => ap.1 k_ hk_.symm) (fun _ _ => trivial) (Kd.S_mono HO (fun k_ hk => ⟨trivial, fun e_ => hk.2 e_⟩)) HB hbase (by omega) (fun v1 w1 ho hb hg hat => h v1 w1 ho hb)
  rw [if_pos hw] at h9 ⊢
  exact h9
set_option maxRecDepth 8000 in
set_option maxHeartbeats 6400000 in
theorem specFamT_calls (v : Int) (A : Option Addr) (c : Nat) (ts : List (List Int)) (w : World) (hv : W64 v) (hr : RdS w A ts) (hc : ts.length ≤ c) (hn : Fit ts) (hw : ∀ x ∈ ts, ∀ y ∈ x, W64 y) :
    Calls Try.prog 22 #[.int .i64 v, .slice A ts.length c] w fun e w' => ∃ u, e = .returned (.tuple #[u, .bool (FamTF v ts).2]) ∧ OwS w' w.heap.size u (FamTF v ts).1 ∧ Below w.heap.size w w' := by
  have HR := Aside0.mk hr
  have HC := Aside0.mk hc
  have HFIT := Aside0.mk (show ∀ i : Nat, i < ts.length → (row ts i).length ≤ 1048576 from fun i hi => Fit_rows hn hi)
  have hn1 := hn.1
  clear hr hc hw hn
  have HB := Aside0.mk (Below.refl w.heap.size w)
  by_cases hn10 : ts.length ≤ 10
  · by_cases ha : Are v ts
    · have H1 := Aside0.mk (tf_pos ha)
      have hv6 := ha.1.2
      have HRI := Aside0.mk ha.2.2.1
      have hv7 := ha.1.1
      by_cases hv3 : v ≤ 31
      · have HF := Aside0.mk (FamTF_yes ⟨hv3, ha⟩)
        have hv2 : 2 ≤ v ∧ v ≤ 31 := by omega
        have HV6 := Aside0.mk hv6
        have HO := Aside0.mk (Kd.S_nil (Kd.slice 3 (Kd.int .i64)) 29 w w.heap.size (fun _ => True))
        clear ha hv6
        go_enter Try.func22, Try.ntmps22
        go_wp2_with (go_at_call 46; refine (trDifferences_calls v ts _ c _ hv HR.out HC.out hn10 HFIT.out).mono ?_; rw [H1.out]; rintro e w4 ⟨rfl, hb⟩; have n0_ := Aside0.mk (below_step (by repeat (first | (with_reducible first | exact HB.out | apply below_alloc | apply pw_below_drewN | apply below_drew1) | exact HB.out)) hb); clear HB hb; have HB := n0_; clear n0_)
        repeat (go_quiet (fail); try go_wp2_with fail)
        go_loopg [6, 24] ts.length (fun g v6 v24 w' => ∃ (i : Nat) (xs : List (List Int)), v24 = .int .i64 i ∧ Aside0 (i + g = ts.length) ∧ Aside0 (xs = famT ts i) ∧ Aside0 (xs.length ≤ 1048576) ∧ Aside0 (OwS w' w.heap.size v6 xs) ∧ Aside0 (Below w.heap.size w w'))
        case atStart => exact ⟨0, [], rfl, ⟨by omega⟩, ⟨rfl⟩, ⟨by simp⟩, ⟨Kd.S_nil _ _ _ _ _⟩, ⟨(by repeat (first | (with_reducible first | exact HB.out | apply below_alloc | apply pw_below_drewN | apply below_drew1) | exact HB.out))⟩⟩
        case round =>
          clear HO HB
          obtain ⟨i, xs, rfl, HI, HX, HL, HO, HB⟩ := hrel
          by_cases hlt : i < ts.length
          · obtain ⟨bs, fs, A0, c0, rfl, hx, hc0, hr0⟩ := row_at3 HR.out hlt
            replace hx := (HB.out.cell (World.block_lt_of_cell? w _ hx)).trans hx
            have hR := HRI.out i hlt
            have hfr := fam_row hR HV6.out
            have HSUC := Aside0.mk (famT_succ ts i)
            have hr00 : Rd w A0 (row ts i) := hr0
            obtain ⟨b0, f0, hA0, hcell⟩ := Rd_at3 hr00 (by rw [hR.1]; decide)
            subst hA0
            have hX0 : w.cell? ⟨b0, f0, none⟩ = some (.int .i64 (rd (row ts i) 0)) := hcell 0 (by rw [hR.1]; decide)
            have hX1 : w.cell? ⟨b0, f0 + 1, none⟩ = some (.int .i64 (rd (row ts i) 1)) := hcell 1 (by rw [hR.1]; decide)
            have hl3 : (ts.getD i []).length = 3 := hR.1
            rw [hl3] at hx hc0
            clear hr0 hr00 hcell hl3 hR
            generalize rd (row ts i) 0 = x at *
            generalize rd (row ts i) 1 = y at *
            have HCS := Aside0.mk (cset3 hfr)
            have HM := Aside0.mk (show ∀ z ∈ [0, x, x + y], 0 ≤ z ∧ z ≤ 1000000 from fun z hz => by
              simp only [List.mem_cons, List.not_mem_nil, or_false] at hz
              omega)
            have hwx : IntKind.i64.wrap (x + y) = x + y := by rw [i64_w]; exact w64 (by omega) (by omega)
            have HN3 := Aside0.mk (show [0, x, x + y].length ≤ 1048576 from (show (3 : Nat) ≤ 1048576 by decide))
            have HX0 := Aside0.mk hX0
            have HX1 := Aside0.mk hX1
            have hx0 := (HB.out.cell (World.block_lt_of_cell? w _ hX0)).trans hX0
            have hx1 := (HB.out.cell (World.block_lt_of_cell? w _ hX1)).trans hX1
            clear hX0 hX1
            go_wp2_with fail
            go_region_held3 (fun w' => w'.cell? ⟨b0, f0, none⟩ = some (.int .i64 x) ∧ w'.cell? ⟨b0, f0 + 1, none⟩ = some (.int .i64 y))
              (first | go_keep | exact ⟨by assumption, by assumption⟩ | (go_split_ands; exact ⟨by assumption, by assumption⟩))
              ((first | (go_at_call 47; refine (ciSet_calls v _ 3 [0, x, x + y] _ ?hrd (Nat.le_refl 3) HN3.out hv2 HM.out).mono ?_; (case hrd => (with_reducible repeat (first | exact Ow_rd (Ow_lit3 wr 0 x (x + y)) | apply Kd.C_drewN | apply Kd.C_drew))); rw [HCS.out]; rintro e w5 ⟨u, rfl, ho, hb⟩; have n0_ := Aside0.mk (Kd.S_elder' (show OwS _ w.heap.size u6 xs by (with_reducible repeat (first | apply Kd.S_alloc | apply Kd.S_drewN | apply Kd.S_drew)); exact HO.out) (Kd.R_base ho) hb); have n1_ := Aside0.mk (Kd.R_lower ho (below_size (by repeat (first | (with_reducible first | exact HB.out | apply below_alloc | apply pw_below_drewN | apply below_drew1) | exact HB.out)))); have n2_ := Aside0.mk (below_step (by repeat (first | (with_reducible first | exact HB.out | apply below_alloc | apply pw_below_drewN | apply below_drew1) | exact HB.out)) hb); clear HO HB; have HO := n0_; have HO1 := n1_; have HB := n2_; clear n0_ n1_ n2_ hb ho; obtain ⟨Ar, cr, er⟩ := Kd.R_slice HO1.out; subst er; have g0 := (HB.out.cell (World.block_lt_of_cell? w _ HX0.out)).trans HX0.out; have g1 := (HB.out.cell (World.block_lt_of_cell? w _ HX1.out)).trans HX1.out) | (refine own_push_step (by rfl) (.tmp 28) (.tmp 42) (by rfl) w w5 u6 xs [0, x, x + y] Ar cr (by rfl) (by rfl) HO.out HO1.out HB.out HB.out.size HL.out ?_; intro v2 w2 ho_ hb_; have g2 := (hb_.cell (World.block_lt_of_cell? w _ HX0.out)).trans HX0.out; have g3 := (hb_.cell (World.block_lt_of_cell? w _ HX1.out)).trans HX1.out; clear HB HO HO1; have HB := Aside0.mk hb_; have HO := Aside0.mk ho_; clear hb_ ho_)))
            go_wp2_with fail
            go_roundg (gk - 1)
            case measure => have := HI.out; omega
            case rel => exact ⟨i + 1, xs ++ [[0, x, x + y]], by go_num, ⟨by have := HI.out; omega⟩, ⟨by rw [HX.out, HSUC.out]⟩, ⟨by rw [HX.out, List.length_append, famT_length, List.length_singleton]; omega⟩, ⟨by first | exact HO.out | exact OwS_drewN HO.out _⟩, ⟨(by repeat (first | (with_reducible first | exact HB.out | apply below_alloc | apply pw_below_drewN | apply below_drew1) | exact HB.out))⟩⟩
          · have HE := Aside0.mk (show xs = famT ts ts.length by rw [HX.out, show i = ts.length by have := HI.out; omega])
            (go_wp2; repeat (go_quiet (fail); try go_wp2))
            go_ret2
            exact ⟨_, by rw [HF.out]; rfl, by rw [HF.out]; show OwS _ _ _ (famT _ _); rw [← HE.out]; first | exact HO.out | exact OwS_drewN HO.out _, (by repeat (first | (with_reducible first | exact HB.out | apply below_alloc | apply pw_below_drewN | apply below_drew1) | exact HB.out))⟩
      · have HF := Aside0.mk (FamTF_no (show ¬ (v ≤ 31 ∧ Are v ts) from fun h => hv3 h.1))
        clear ha hv6
        go_enter Try.func22, Try.ntmps22
        go_wp2_with (go_at_call 46; refine (trDifferences_calls v ts _ c _ hv HR.out HC.out hn10 HFIT.out).mono ?_; rw [H1.out]; rintro e w4 ⟨rfl, hb⟩; have n0_ := Aside0.mk (below_step (by repeat (first | (with_reducible first | exact HB.out | apply below_alloc | apply pw_below_drewN | apply below_drew1) | exact HB.out)) hb); clear HB hb; have HB := n0_; clear n0_)
        repeat (go_quiet (fail); try go_wp2_with fail)
        go_ret2
        exact ⟨_, by rw [HF.out]; rfl, by rw [HF.out]; exact Kd.S_nil _ _ _ _ _, (by repeat (first | (with_reducible first | exact HB.out | apply below_alloc | apply pw_below_drewN | apply below_drew1) | exact HB.out))⟩
    · have H1 := Aside0.mk (tf_neg ha)
      have HF := Aside0.mk (FamTF_no (show ¬ (v ≤ 31 ∧ Are v ts) from fun h => ha h.2))
      clear ha
      go_enter Try.func22, Try.ntmps22
      go_wp2_with (go_at_call 46; refine (trDifferences_calls v ts _ c _ hv HR.out HC.out hn10 HFIT.out).mono ?_; rw [H1.out]; rintro e w4 ⟨rfl, hb⟩; have n0_ := Aside0.mk (below_step (by repeat (first | (with_reducible first | exact HB.out | apply below_alloc | apply pw_below_drewN | apply below_drew1) | exact HB.out)) hb); clear HB hb; have HB := n0_; clear n0_)
      repeat (go_quiet (fail); try go_wp2_with fail)
      go_ret2
      exact ⟨_, by rw [HF.out]; rfl, by rw [HF.out]; exact Kd.S_nil _ _ _ _ _, (by repeat (first | (with_reducible first | exact HB.out | apply below_alloc | apply pw_below_drewN | apply below_drew1) | exact HB.out))⟩
  · have HF := Aside0.mk (FamTF_no (show ¬ (v ≤ 31 ∧ Are v ts) from fun h => hn10 (by have := h.2.1; omega)))
    go_enter Try.func22, Try.ntmps22
    go_wp2_with fail
    repeat (go_quiet (fail); try go_wp2_with fail)
    go_ret2
    exact ⟨_, by rw [HF.out]; rfl, by rw [HF.out]; exact Kd.S_nil _ _ _ _ _, (by repeat (first | (with_reducible first | exact HB.out | apply below_alloc | apply pw_below_drewN | apply below_drew1) | exact HB.out))⟩
end Go.Proofs.Ytpabfibmpannoaa.Own.G
