/- The labels of a comb: the function that the program's CombLabels makes for itself, and its walk; lists of at most 1048576 numbers. -/
import Derived.Test.YtpabfibmpannoaaOwnCoA
import Derived.Test.YtpabfibmpannoaaOwnVar
namespace Go.Proofs.Ytpabfibmpannoaa.Own.G
open Go.RowKit Go.Proofs.YtpabfibmpannoaaW.PrintWords Go.Proofs.YtpabfibmpannoaaW.PrintLast Go.Proofs.YtpabfibmpannoaaW.PrintMore
set_option linter.unusedVariables false
/-- What the three captured variables hold. -/
def StC (bo bl bh B : Nat) (w : World) (s : Lab) : Prop := Var w bl 3 (.int .i64 s.2.1) ∧ Var w bh 3 (.int .i64 s.2.2) ∧ ∃ v, Var w bo 29 v ∧ Kd.R (Kd.int .i64) 3 w B (fun k => k ≠ bo ∧ k ≠ bl ∧ k ≠ bh) v s.1
theorem StC_drewN {bo bl bh B : Nat} {w : World} {s : Lab} (h : StC bo bl bh B w s) (n : Nat) : StC bo bl bh B (w.drewN n) s := ⟨h.1, h.2.1, h.2.2.imp fun v hv => ⟨hv.1, Kd.R_drewN hv.2 n⟩⟩
set_option maxHeartbeats 1600000 in
theorem take_lo (wb w : World) (bo bl bh : Nat) (xs : List Int) (lo hi : Int) (h1 : bo ≠ bl) (h2 : bo ≠ bh) (h3 : bl ≠ bh) (b1 : wb.heap.size ≤ bo) (b2 : wb.heap.size ≤ bl) (b3 : wb.heap.size ≤ bh) (hm : LabB 1000 (xs, lo, hi)) (hst : StC bo bl bh wb.heap.size w (xs, lo, hi)) (hb : Below wb.heap.size wb w) :
    Calls Try.prog 57 #[.bool true, .pointer (some ⟨bo, 0, none⟩), .pointer (some ⟨bl, 0, none⟩), .pointer (some ⟨bh, 0, none⟩)] w fun e w' => e = .returned (.tuple #[]) ∧ StC bo bl bh wb.heap.size w' (takeB true (xs, lo, hi)) ∧ Below wb.heap.size wb w' := by
  obtain ⟨hvl, hvh, v, hvo, ho⟩ := hst
  obtain ⟨Av, cv, rfl⟩ := Kd.R_slice ho
  obtain ⟨m1, m2, m3⟩ := hm
  have m2 : -1000 ≤ lo ∧ lo ≤ 1000 := m2
  have m3 : -1000 ≤ hi ∧ hi ≤ 1000 := m3
  have HXL := Aside0.mk (show xs.length ≤ 1000 from m1)
  have HB1' := Aside0.mk b1
  have HB2' := Aside0.mk b2
  have HB3' := Aside0.mk b3
  clear m1 b1 b2 b3
  have h1' := Ne.symm h1
  have h2' := Ne.symm h2
  have h3' := Ne.symm h3
  have hbo := lt_of_block hvo
  have hbl := lt_of_block hvl
  have hbh := lt_of_block hvh
  have HFR := Aside0.mk (show ∀ k, w.heap.size ≤ k → k ≠ bo ∧ k ≠ bl ∧ k ≠ bh from fun k hk => ⟨by omega, by omega, by omega⟩)
  have HVO := Aside0.mk hvo
  have HVL := Aside0.mk hvl
  have HVH := Aside0.mk hvh
  have HO := Aside0.mk ho
  have HB := Aside0.mk hb
  have co := cell_of_one hvo
  have fo := free_of_one hvo
  have cl := cell_of_one hvl
  have fl := free_of_one hvl
  have ch := cell_of_one hvh
  have fh := free_of_one hvh
  simp only at cl ch co
  clear hvo hvl hvh ho hb hbo hbl hbh
  go_enter Try.func57, Try.ntmps57
  go_wp2_with ((with_reducible refine gate_builtin (b := .append) (xs := #[.tmp 6, .tmp 8]) rfl ?_); at_builtin; refine Kd.R_append (Kd.int .i64) (w0 := wb) wb.heap.size rfl (.tmp 6) (.tmp 8) 29 3 (.int .i64 0) 8 rfl Try.underlying29 infoInt rfl (by decide) (by omega) (.slice Av xs.length cv) xs lo [.int .i64 lo] (fun k => k ≠ bo ∧ k ≠ bl ∧ k ≠ bh) (fun _ => False) rfl rfl rfl (fun _ hk => hk.elim) HFR.out HO.out HB.out HB.out.size ?aL ?_; (case aL => have := HXL.out; omega); intro v1 w1 ho hb hg hat; obtain ⟨A1, c1, e1_⟩ := Kd.R_slice ho; subst e1_; rw [show (xs ++ [lo]).length = xs.length + 1 from by rw [List.length_append]; rfl] at ho ⊢; have hvo1 := HVO.out.grown hg (fun e => (HO.out.1 bo e.symm).1 rfl); have hvl1 := HVL.out.grown hg (fun e => (HO.out.1 bl e.symm).2.1 rfl); have hvh1 := HVH.out.grown hg (fun e => (HO.out.1 bh e.symm).2.2 rfl); have ho1 := cell_of_one hvo1; have fo1 := free_of_one hvo1; have hl1 := cell_of_one hvl1; have fl1 := free_of_one hvl1; have hh1 := cell_of_one hvh1; have fh1 := free_of_one hvh1; have HVO1 := Aside0.mk hvo1; have HVL1 := Aside0.mk hvl1; have HVH1 := Aside0.mk hvh1; have HO1 := Aside0.mk ho; have HB1 := Aside0.mk hb; clear hvo1 hvl1 hvh1 ho hb hg hat)
  go_end0
  refine ⟨rfl, ⟨?_, ?_, _, (HVO1.out.put _).far h1 _ _, Kd.R_far (Kd.R_far HO1.out (fun k hk => hk.1) _) (fun k hk => hk.2.1) _⟩, below_set (below_set HB1.out HB1'.out) HB2'.out⟩
  · exact (HVL1.out.far h1' _ _).put _
  · exact (HVH1.out.far h2' _ _).far h3' _ _
set_option maxHeartbeats 1600000 in
theorem take_hi (wb w : World) (bo bl bh : Nat) (xs : List Int) (lo hi : Int) (h1 : bo ≠ bl) (h2 : bo ≠ bh) (h3 : bl ≠ bh) (b1 : wb.heap.size ≤ bo) (b2 : wb.heap.size ≤ bl) (b3 : wb.heap.size ≤ bh) (hm : LabB 1000 (xs, lo, hi)) (hst : StC bo bl bh wb.heap.size w (xs, lo, hi)) (hb : Below wb.heap.size wb w) :
    Calls Try.prog 57 #[.bool false, .pointer (some ⟨bo, 0, none⟩), .pointer (some ⟨bl, 0, none⟩), .pointer (some ⟨bh, 0, none⟩)] w fun e w' => e = .returned (.tuple #[]) ∧ StC bo bl bh wb.heap.size w' (takeB false (xs, lo, hi)) ∧ Below wb.heap.size wb w' := by
  obtain ⟨hvl, hvh, v, hvo, ho⟩ := hst
  obtain ⟨Av, cv, rfl⟩ := Kd.R_slice ho
  obtain ⟨m1, m2, m3⟩ := hm
  have m2 : -1000 ≤ lo ∧ lo ≤ 1000 := m2
  have m3 : -1000 ≤ hi ∧ hi ≤ 1000 := m3
  have HXL := Aside0.mk (show xs.length ≤ 1000 from m1)
  have HB1' := Aside0.mk b1
  have HB2' := Aside0.mk b2
  have HB3' := Aside0.mk b3
  clear m1 b1 b2 b3
  have h1' := Ne.symm h1
  have h2' := Ne.symm h2
  have h3' := Ne.symm h3
  have hbo := lt_of_block hvo
  have hbl := lt_of_block hvl
  have hbh := lt_of_block hvh
  have HFR := Aside0.mk (show ∀ k, w.heap.size ≤ k → k ≠ bo ∧ k ≠ bl ∧ k ≠ bh from fun k hk => ⟨by omega, by omega, by omega⟩)
  have HVO := Aside0.mk hvo
  have HVL := Aside0.mk hvl
  have HVH := Aside0.mk hvh
  have HO := Aside0.mk ho
  have HB := Aside0.mk hb
  have co := cell_of_one hvo
  have fo := free_of_one hvo
  have cl := cell_of_one hvl
  have fl := free_of_one hvl
  have ch := cell_of_one hvh
  have fh := free_of_one hvh
  simp only at cl ch co
  clear hvo hvl hvh ho hb hbo hbl hbh
  go_enter Try.func57, Try.ntmps57
  go_wp2_with ((with_reducible refine gate_builtin (b := .append) (xs := #[.tmp 12, .tmp 14]) rfl ?_); at_builtin; refine Kd.R_append (Kd.int .i64) (w0 := wb) wb.heap.size rfl (.tmp 12) (.tmp 14) 29 3 (.int .i64 0) 8 rfl Try.underlying29 infoInt rfl (by decide) (by omega) (.slice Av xs.length cv) xs hi [.int .i64 hi] (fun k => k ≠ bo ∧ k ≠ bl ∧ k ≠ bh) (fun _ => False) rfl rfl rfl (fun _ hk => hk.elim) HFR.out HO.out HB.out HB.out.size ?aL ?_; (case aL => have := HXL.out; omega); intro v1 w1 ho hb hg hat; obtain ⟨A1, c1, e1_⟩ := Kd.R_slice ho; subst e1_; rw [show (xs ++ [hi]).length = xs.length + 1 from by rw [List.length_append]; rfl] at ho ⊢; have hvo1 := HVO.out.grown hg (fun e => (HO.out.1 bo e.symm).1 rfl); have hvl1 := HVL.out.grown hg (fun e => (HO.out.1 bl e.symm).2.1 rfl); have hvh1 := HVH.out.grown hg (fun e => (HO.out.1 bh e.symm).2.2 rfl); have ho1 := cell_of_one hvo1; have fo1 := free_of_one hvo1; have hl1 := cell_of_one hvl1; have fl1 := free_of_one hvl1; have hh1 := cell_of_one hvh1; have fh1 := free_of_one hvh1; have HVO1 := Aside0.mk hvo1; have HVL1 := Aside0.mk hvl1; have HVH1 := Aside0.mk hvh1; have HO1 := Aside0.mk ho; have HB1 := Aside0.mk hb; clear hvo1 hvl1 hvh1 ho hb hg hat)
  go_end0
  refine ⟨rfl, ⟨?_, ?_, _, (HVO1.out.put _).far h2 _ _, Kd.R_far (Kd.R_far HO1.out (fun k hk => hk.1) _) (fun k hk => hk.2.2) _⟩, below_set (below_set HB1.out HB1'.out) HB3'.out⟩
  · exact (HVL1.out.far h1' _ _).far h3 _ _
  · exact (HVH1.out.far h2' _ _).put _
theorem take_calls (b : Bool) (wb w : World) (bo bl bh : Nat) (s : Lab) (h1 : bo ≠ bl) (h2 : bo ≠ bh) (h3 : bl ≠ bh) (b1 : wb.heap.size ≤ bo) (b2 : wb.heap.size ≤ bl) (b3 : wb.heap.size ≤ bh) (hm : LabB 1000 s) (hst : StC bo bl bh wb.heap.size w s) (hb : Below wb.heap.size wb w) :
    Calls Try.prog 57 #[.bool b, .pointer (some ⟨bo, 0, none⟩), .pointer (some ⟨bl, 0, none⟩), .pointer (some ⟨bh, 0, none⟩)] w fun e w' => e = .returned (.tuple #[]) ∧ StC bo bl bh wb.heap.size w' (takeB b s) ∧ Below wb.heap.size wb w' := by
  obtain ⟨xs, lo, hi⟩ := s
  cases b
  · exact take_hi wb w bo bl bh xs lo hi h1 h2 h3 b1 b2 b3 hm hst hb
  · exact take_lo wb w bo bl bh xs lo hi h1 h2 h3 b1 b2 b3 hm hst hb
theorem StC_new (W : World) (q : Int) : StC W.heap.size (W.heap.size + 1) (W.heap.size + 1 + 1) W.heap.size (((W.alloc (.cells #[.slice none 0 0] 29)).alloc (.cells #[.int .i64 0] 3)).alloc (.cells #[.int .i64 q] 3)) ([], 0, q) := by
  have s1 : (W.alloc (.cells #[.slice none 0 0] 29)).heap.size = W.heap.size + 1 := by simp
  have s2 : ((W.alloc (.cells #[.slice none 0 0] 29)).alloc (.cells #[.int .i64 0] 3)).heap.size = W.heap.size + 1 + 1 := by simp
  have v1 := Var.new W (.slice none 0 0) 29
  have v2 := Var.new (W.alloc (.cells #[.slice none 0 0] 29)) (.int .i64 0) 3
  have v3 := Var.new ((W.alloc (.cells #[.slice none 0 0] 29)).alloc (.cells #[.int .i64 0] 3)) (.int .i64 q) 3
  rw [s1] at v2
  rw [s2] at v3
  exact ⟨v2.below (below_alloc (Below.refl _ _) _), v3, _, (v1.below (below_alloc (Below.refl _ _) _)).below (below_alloc (Below.refl _ _) _), Kd.R_nil _ _ _ _ _⟩
set_option maxHeartbeats 3200000 in
theorem implCombL_calls (A : Option Addr) (c : Nat) (l : List Int) (w : World) (hr : Rd w A l) (hc : l.length ≤ c) (hn : l.length ≤ 1048576) (hw : ∀ x ∈ l, W64 x) :
    Calls Try.prog 29 #[.slice A l.length c] w fun e w' => ∃ v, e = .returned (.tuple #[v, .bool (CombLF l).2]) ∧ Ow w' w.heap.size v (CombLF l).1 ∧ Below w.heap.size w w' := by
  have HR := Aside0.mk hr
  have HC := Aside0.mk hc
  clear hr hc hw
  have HB := Aside0.mk (Below.refl w.heap.size w)
  by_cases hd : Legs l
  · have H1 := Aside0.mk (tf_pos hd)
    have HF := Aside0.mk (CombLF_yes hd)
    have HLB := Aside0.mk hd.2
    have hl5 := hd.1.1
    have hlen := hd.1.1.2
    have HSN := Aside0.mk (legSum_bnd hd)
    have HLL := Aside0.mk (fun i hi => LabB_mono (LabB_labs (legSum_bnd hd) hd.2 i hi) (show 9 + 6 * i ≤ 39 by omega))
    clear hd
    go_enter Try.func29, Try.ntmps29
    go_wp2_with (go_at_call 56; refine (areLegs_calls _ _ l _ (by first | exact HR.out | exact Kd.C_drewN HR.out _) HC.out hn).mono ?_; rw [H1.out]; rintro e w' ⟨rfl, ⟨nd, rfl⟩⟩)
    go_loopg [4, 20] l.length (fun g v4 v20 w' => ∃ (i : Nat) (q : Int), v20 = .int .i64 i ∧ v4 = .int .i64 q ∧ Aside0 (i + g = l.length) ∧ Aside0 (q = legSum l i) ∧ Drawn0 w w')
    case atStart => exact ⟨0, _, rfl, rfl, ⟨by omega⟩, ⟨rfl⟩, (by repeat (first | exact Drawn0.refl _ | apply Drawn0.step))⟩
    case round =>
      obtain ⟨i, q, rfl, rfl, HI, HQ, ⟨m1, rfl⟩⟩ := hrel
      have hq : 0 ≤ q ∧ q ≤ 30 := by
        have hi : i ≤ l.length := by have := HI.out; omega
        have h1 := legSum_tot hlen HLB.out i hi
        have h2 := legTot_bnd HLB.out i hi
        have h3 := HQ.out
        omega
      by_cases hlt : i < l.length
      · obtain ⟨ad, rfl, hx⟩ := at_nat HR.out hlt
        have hb := HLB.out i (by omega) hlt
        have HS := Aside0.mk (show q + rd l (i : Int) = legSum l (i + 1) by rw [legSum, ← HQ.out, w64 (by omega) (by omega)])
        generalize rd l (i : Int) = x at *
        (go_wp2; repeat (go_quiet (fail); try go_wp2))
        go_roundg (gk - 1)
        case measure => have := HI.out; omega
        case rel => exact ⟨i + 1, q + x, by go_num, by go_num, ⟨by have := HI.out; omega⟩, HS, (by repeat (first | exact Drawn0.refl _ | apply Drawn0.step))⟩
      · have HE := Aside0.mk (show q = legSum l l.length by rw [HQ.out, show i = l.length by have := HI.out; omega])
        have hq9 := HSN.out
        rw [← HE.out] at hq9
        have HLQ := Aside0.mk (show ∀ i : Nat, i ≤ l.length → LabB 39 (labs l q i) by rw [HE.out]; exact HLL.out)
        have HFQ := Aside0.mk (show CombLF l = ((labs l q l.length).1, true) by rw [HE.out]; exact HF.out)
        go_wp2
        clear hlt
        go_loopg [33] l.length (fun g v33 w' => ∃ i : Nat, v33 = .int .i64 i ∧ Aside0 (i + g = l.length) ∧ Aside0 (StC w.heap.size (w.heap.size + 1) (w.heap.size + 1 + 1) w.heap.size w' (labs l q i)) ∧ Aside0 (Below w.heap.size w w'))
        case atStart => exact ⟨0, rfl, ⟨by omega⟩, ⟨StC_new (w.drewN m1) (q - 1)⟩, ⟨(by repeat (first | (with_reducible first | exact HB.out | apply below_alloc | apply pw_below_drewN | apply below_drew1) | exact HB.out))⟩⟩
        case round =>
          clear HB HI
          obtain ⟨i, rfl, HI, HST, HB⟩ := hrel
          obtain ⟨gi, rfl⟩ : ∃ gi : Nat, gi = gk := ⟨_, rfl⟩
          by_cases hlt : i < l.length
          · obtain ⟨ad, rfl, hx⟩ := at_nat HR.out hlt
            replace hx := (HB.out.cell (World.block_lt_of_cell? w _ hx)).trans hx
            have hb := HLB.out i (by omega) hlt
            have HNX := Aside0.mk (show labs l q (i + 1) = takes (!ev2 i) (rd l (i : Int)).toNat (takeB (ev2 i) (labs l q i)) from rfl)
            generalize rd l (i : Int) = x at *
            obtain ⟨k, rfl⟩ : ∃ k : Nat, x = (k : Int) := ⟨x.toNat, by omega⟩
            rw [Int.toNat_natCast] at HNX
            have hk5 : k ≤ 5 := by omega
            clear hb
            obtain ⟨b0, hb0⟩ : ∃ b0, ev2 i = b0 := ⟨_, rfl⟩
            obtain ⟨b1, hb1⟩ : ∃ b1, (!ev2 i) = b1 := ⟨_, rfl⟩
            rw [hb1, hb0] at HNX
            have hA : ((i : Int) % 2 == 0) = b0 := by
              rw [← hb0]
              cases h : ev2 i with
              | true => have := tmod_ev h; rw [Int.tmod_eq_emod_of_nonneg (by omega)] at this; exact beq_iff_eq.mpr this
              | false => have := tmod_odd h; rw [Int.tmod_eq_emod_of_nonneg (by omega)] at this; exact beq_eq_false_iff_ne.mpr this
            have hC : ((i : Int) % 2 == 1) = b1 := by
              rw [← hb1]
              cases h : ev2 i with
              | true => have := tmod_ev h; rw [Int.tmod_eq_emod_of_nonneg (by omega)] at this; exact beq_eq_false_iff_ne.mpr (by omega)
              | false => have := tmod_odd h; rw [Int.tmod_eq_emod_of_nonneg (by omega)] at this; exact beq_iff_eq.mpr (by omega)
            have hA2 : (Int.tmod (i : Int) 2 == 0) = b0 := by rw [Int.tmod_eq_emod_of_nonneg (by omega)]; exact hA
            have hC2 : (Int.tmod (i : Int) 2 == 1) = b1 := by rw [Int.tmod_eq_emod_of_nonneg (by omega)]; exact hC
            clear hb0 hb1
            have HMB := Aside0.mk (LabB_take (HLQ.out i (by omega)) b0)
            have HM1 := Aside0.mk (LabB_mono (HLQ.out i (by omega)) (show 39 ≤ 1000 by omega))
            go_wp2_with (go_at_call 57; refine (take_calls b0 w _ _ _ _ (labs l q i) (by omega) (by omega) (by omega) (Nat.le_refl _) (by omega) (by omega) HM1.out ?st (by repeat (first | (with_reducible first | exact HB.out | apply below_alloc | apply pw_below_drewN | apply below_drew1) | exact HB.out))).mono ?_; (case st => first | exact HST.out | exact StC_drewN HST.out _); rintro e w1 ⟨rfl, hst, hb⟩; have HS1 := Aside0.mk hst; have n0_ := Aside0.mk hb; clear HB hst hb; have HB := n0_; clear n0_)
            clear HST hx
            go_loopg [44] k (fun g v44 w' => ∃ m : Nat, v44 = .int .i64 m ∧ Aside0 (m + g = k) ∧ Aside0 (StC w.heap.size (w.heap.size + 1) (w.heap.size + 1 + 1) w.heap.size w' (takes b1 m (takeB b0 (labs l q i)))) ∧ Aside0 (Below w.heap.size w w'))
            case atStart => exact ⟨0, rfl, ⟨by omega⟩, HS1, ⟨(by repeat (first | (with_reducible first | exact HB.out | apply below_alloc | apply pw_below_drewN | apply below_drew1) | exact HB.out))⟩⟩
            case round =>
              clear HS1 HB
              obtain ⟨m, rfl, HMM, HS1, HB⟩ := hrel
              by_cases hm : m < k
              · have HM2 := Aside0.mk (LabB_mono (LabB_takes b1 m _ _ HMB.out) (show 39 + 1 + m ≤ 1000 by omega))
                go_wp2_with (go_at_call 57; refine (take_calls b1 w _ _ _ _ (takes b1 m (takeB b0 (labs l q i))) (by omega) (by omega) (by omega) (Nat.le_refl _) (by omega) (by omega) HM2.out ?st (by repeat (first | (with_reducible first | exact HB.out | apply below_alloc | apply pw_below_drewN | apply below_drew1) | exact HB.out))).mono ?_; (case st => first | exact HS1.out | exact StC_drewN HS1.out _); rintro e w2 ⟨rfl, hst, hb⟩; have HS2 := Aside0.mk hst; have n0_ := Aside0.mk hb; clear HB hst hb; have HB := n0_; clear n0_)
                go_roundg (gk - 1)
                case measure => have := HMM.out; omega
                case rel => exact ⟨m + 1, by go_num, ⟨by have := HMM.out; omega⟩, ⟨by rw [takes_snoc]; exact HS2.out⟩, HB⟩
              · have HN := Aside0.mk (show takes b1 m (takeB b0 (labs l q i)) = labs l q (i + 1) by rw [HNX.out, show m = k by have := HMM.out; omega])
                (go_wp2; repeat (go_quiet (fail); try go_wp2))
                go_roundg (gi - 1)
                case measure => have := HI.out; omega
                case rel => exact ⟨i + 1, by go_num, ⟨by have := HI.out; omega⟩, ⟨by rw [← HN.out]; first | exact HS1.out | exact StC_drewN HS1.out _⟩, ⟨(by repeat (first | (with_reducible first | exact HB.out | apply below_alloc | apply pw_below_drewN | apply below_drew1) | exact HB.out))⟩⟩
          · have HEN := Aside0.mk (show i = l.length by have := HI.out; omega)
            obtain ⟨_, _, v, hvo, ho⟩ := HST.out
            have co := cell_of_one hvo
            have HO := Aside0.mk ho
            clear hvo ho HST
            (go_wp2; repeat (go_quiet (fail); try go_wp2))
            go_ret2
            exact ⟨v, by rw [HFQ.out]; rfl, by rw [HFQ.out]; show Ow _ _ _ (labs _ _ _).1; rw [← HEN.out]; exact Kd.R_mono (by first | exact HO.out | exact Kd.R_drewN HO.out _) (fun _ _ => trivial), (by repeat (first | (with_reducible first | exact HB.out | apply below_alloc | apply pw_below_drewN | apply below_drew1) | exact HB.out))⟩
  · have H1 := Aside0.mk (tf_neg hd)
    have HF := Aside0.mk (CombLF_no hd)
    clear hd
    go_enter Try.func29, Try.ntmps29
    go_wp2_with (go_at_call 56; refine (areLegs_calls _ _ l _ (by first | exact HR.out | exact Kd.C_drewN HR.out _) HC.out hn).mono ?_; rw [H1.out]; rintro e w' ⟨rfl, ⟨nd, rfl⟩⟩)
    go_ret2
    exact ⟨_, by rw [HF.out]; rfl, by rw [HF.out]; exact Kd.R_nil _ _ _ _ _, (by repeat (first | (with_reducible first | exact HB.out | apply below_alloc | apply pw_below_drewN | apply below_drew1) | exact HB.out))⟩
end Go.Proofs.Ytpabfibmpannoaa.Own.G
