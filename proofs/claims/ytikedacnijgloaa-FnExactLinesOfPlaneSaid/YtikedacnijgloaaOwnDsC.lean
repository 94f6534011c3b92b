/- Difference sets: the walk of the reference's ciFind; circles up to 31. -/
import Derived.Test.YtikedacnijgloaaOwnDsB
import Derived.Test.YtikedacnijgloaaOwnOwn1
import Derived.Test.YtikedacnijgloaaWRepsOne
namespace Go.Proofs.Ytikedacnijgloaa.Own.G
open Go.RowKit Go.Proofs.YtikedacnijgloaaW.PrintWords Go.Proofs.YtikedacnijgloaaW.PrintLast Go.Proofs.YtikedacnijgloaaW.PrintMore
set_option linter.unusedVariables false
/-- A list of lists of the call's own that are only read. -/
abbrev OwN (w : World) (B C : Nat) (v : Value) (l : List (List Int)) : Prop := Kd.N (Kd.slice 3 (Kd.int .i64)) 25 w B (fun k => C ≤ k) v l
def FindC (v k : Nat) (lam : Int) (f : Nat) : Prop := ∀ (A : Option Addr) (c : Nat) (l : List Int) (most : Int) (w : World), Rd w A l → l.length ≤ c → 1 ≤ l.length → l.length + f = k → 1 ≤ most → most ≤ 1073741824 → Up (v : Int) l →
  Calls Try.prog 17 #[.int .i64 (v : Int), .int .i64 (k : Int), .int .i64 lam, .slice A l.length c, .int .i64 most] w fun e w' => ∃ u, e = .returned u ∧ OwN w' w.heap.size w.heap.size u (cF v lam f l most) ∧ Below w.heap.size w w'
theorem infoRowC : (Try.prog.info? 25).map (fun i => (i.zero, i.size, i.bytes)) = some (some (.slice none 0 0), 1, 24) := by kernel_rfl
set_option maxRecDepth 8000 in
set_option maxHeartbeats 6400000 in
theorem ciFind_step (v k : Nat) (lam : Int) (f : Nat) (hv : 2 ≤ v ∧ v ≤ 31) (hk : k ≤ 8) (hlam : 1 ≤ lam ∧ lam ≤ 1000) (hkk : ((v : Int) - 1) * lam = (k : Int) * ((k : Int) - 1)) (hih : ∀ f', f = f' + 1 → FindC v k lam f') : FindC v k lam f := by
  intro A c l most w hr hc hl1 hlf hm1 hm2 hup
  have HIH := Aside0.mk hih
  have HKK := Aside0.mk hkk
  have HR := Aside0.mk hr
  have HC := Aside0.mk hc
  have HU := Aside0.mk hup
  have hl9 : l.length ≤ 8 := by omega
  have HPTS := Aside0.mk (Up_pts hup (by omega) hl9)
  clear hih hr hc hup hkk
  have HB := Aside0.mk (Below.refl w.heap.size w)
  by_cases hz : l.length = k
  · obtain rfl : f = 0 := by omega
    have ht : ((l.length : Int) == (k : Int)) = true := beq_iff_eq.mpr (by omega)
    have hF0 : cF v lam 0 l most = if lamOf (counted (v : Int) l) = lam then [l] else [] := rfl
    generalize hlm : lamOf (counted (v : Int) l) = lm at hF0
    have HLM := Aside0.mk hlm
    clear hz hlf hlm
    by_cases hq0 : lm = lam
    · have HF := Aside0.mk (show cF v lam 0 l most = [l] by rw [hF0, if_pos hq0])
      clear hF0
      go_enter Try.func17, Try.ntmps17
      go_wp2_with (first | (go_at_call 23; refine (ciLambda_calls (v : Int) _ 1 [l] _ (Sets_one (by first | exact HR.out | exact Kd.C_drewN HR.out _) HC.out _) (by simp) (by simp) (by omega) (AllPts_one HPTS.out hl1)).mono ?_; rw [show ([l] : List (List Int)).length = 1 from rfl, csum_one, HLM.out]; rintro e w1 ⟨rfl, hb⟩; have n0_ := Aside0.mk (below_step (by repeat (first | (with_reducible first | exact HB.out | apply below_alloc | apply pw_below_drewN | apply below_drew1) | exact HB.out)) hb); clear HB hb; have HB := n0_; clear n0_) | ((go_at_call 24; refine (l1Own_calls _ _ l _ (Kd.C_below HR.out (by repeat (first | (with_reducible first | exact HB.out | apply below_alloc | apply pw_below_drewN | apply below_drew1) | exact HB.out))) HC.out (by omega)).mono ?_; rintro e w1 ⟨v1, rfl, ho, hb⟩; have HO1 := Aside0.mk (Ow_lower ho (below_size (by repeat (first | (with_reducible first | exact HB.out | apply below_alloc | apply pw_below_drewN | apply below_drew1) | exact HB.out)))); have n0_ := Aside0.mk (below_step (by repeat (first | (with_reducible first | exact HB.out | apply below_alloc | apply pw_below_drewN | apply below_drew1) | exact HB.out)) hb); clear HB ho hb; have HB := n0_; clear n0_); obtain ⟨A2, c2, e2_, hc2_, _⟩ := Ow_form HO1.out; subst e2_; have HC2 := Aside0.mk hc2_; clear hc2_) | ((with_reducible refine gate_dst (N := 29) rfl ?_); refine Kd.N_lit (Kd.slice 3 (Kd.int .i64)) w.heap.size 25 ?hg (N' := 29) ?hd (xs := ([l] : List (List Int))) (inner := [.slice A2 l.length c2]) (w0 := w) (ok := fun k => w.heap.size ≤ k) (okp := fun k => w.heap.size ≤ k) ?hr ?hp (fun _ hk => hk) (below_size (by repeat (first | (with_reducible first | exact HB.out | apply below_alloc | apply pw_below_drewN | apply below_drew1) | exact HB.out))) (by repeat (first | (with_reducible first | exact HB.out | apply below_alloc | apply pw_below_drewN | apply below_drew1) | exact HB.out)) (below_size (by repeat (first | (with_reducible first | exact HB.out | apply below_alloc | apply pw_below_drewN | apply below_drew1) | exact HB.out))) (by simp) ?_; (case hd => rfl); (case hg => rfl); (case hr => first | (go_simp; done) | (go_simp; rfl)); (case hp => exact (Reps.one (show Kd.FK (Kd.slice 3 (Kd.int .i64)) _ _ l [.slice A2 l.length c2] from Kd.FK_slice_mk HC2.out (Kd.R_F (Ow_re (by first | exact HO1.out | exact Ow_drewN HO1.out _) (fun k hk => Kd.R_base HO1.out k hk)))) (Reps.none _ _))); intro v3 w3 ho hb hg_ hnew_; clear HB HO1; have HO7 := Aside0.mk ho; have HB := Aside0.mk hb; clear ho hb hg_ hnew_))
      repeat (go_quiet (fail); try go_wp2)
      go_ret
      exact ⟨_, rfl, by rw [HF.out]; exact (by (with_reducible repeat (first | apply Kd.N_alloc | apply Kd.N_drewN | apply Kd.N_drew)); exact HO7.out), (by repeat (first | (with_reducible first | exact HB.out | apply below_alloc | apply pw_below_drewN | apply below_drew1) | exact HB.out))⟩
    · have HF := Aside0.mk (show cF v lam 0 l most = [] by rw [hF0, if_neg hq0])
      clear hF0
      go_enter Try.func17, Try.ntmps17
      go_wp2_with ((go_at_call 23; refine (ciLambda_calls (v : Int) _ 1 [l] _ (Sets_one (by first | exact HR.out | exact Kd.C_drewN HR.out _) HC.out _) (by simp) (by simp) (by omega) (AllPts_one HPTS.out hl1)).mono ?_; rw [show ([l] : List (List Int)).length = 1 from rfl, csum_one, HLM.out]; rintro e w1 ⟨rfl, hb⟩; have n0_ := Aside0.mk (below_step (by repeat (first | (with_reducible first | exact HB.out | apply below_alloc | apply pw_below_drewN | apply below_drew1) | exact HB.out)) hb); clear HB hb; have HB := n0_; clear n0_))
      repeat (go_quiet (fail); try go_wp2)
      go_ret
      exact ⟨_, rfl, by rw [HF.out]; exact Kd.N_nil _ _ _ _ _, (by repeat (first | (with_reducible first | exact HB.out | apply below_alloc | apply pw_below_drewN | apply below_drew1) | exact HB.out))⟩
  · obtain ⟨f', rfl⟩ : ∃ f', f = f' + 1 := ⟨f - 1, by omega⟩
    have HIC := Aside0.mk (HIH.out f' rfl)
    have ht : ((l.length : Int) == (k : Int)) = false := beq_eq_false_iff_ne.mpr (by omega)
    have hlp : 0 < l.length := by omega
    have hlp2 : decide (0 < l.length) = true := decide_eq_true hlp
    obtain ⟨ad, hA, _⟩ := at_first HR.out (by omega)
    subst hA
    obtain ⟨mm, hmm⟩ : ∃ mm : Int, IntKind.i64.wrap ((l.length : Int) - 1) = mm := ⟨_, rfl⟩
    have HMM := Aside0.mk (show mm = (l.length : Int) - 1 by rw [← hmm, i64_w, w64 (by omega) (by omega)])
    have mm0 : 0 ≤ mm := by have := HMM.out; omega
    have mm2 : mm < (l.length : Int) := by have := HMM.out; omega
    obtain ⟨ad2, e2, hxm⟩ := Kd.at_int HR.out mm mm0 mm2
    obtain rfl : ad = ad2 := by injection e2
    clear e2
    have hlast := Up_rd HU.out (show l.length - 1 < l.length by omega)
    rw [show ((l.length - 1 : Nat) : Int) = mm by have := HMM.out; omega] at hlast
    obtain ⟨zn, hzn⟩ : ∃ zn : Nat, rd l mm = (zn : Int) := ⟨(rd l mm).toNat, by omega⟩
    rw [hzn] at hxm hlast
    have HST0 := Aside0.mk (show (dsS v).st l = v - (zn + 1) by show v - (rd l ((l.length : Int) - 1) + 1).toNat = _; rw [← HMM.out, hzn]; omega)
    have hF0 : cF v lam (f' + 1) l most = if tf (Over (v : Int) lam l) = true then [] else (dsS v).tkL (cF v lam f') l most ((dsS v).st l) [] := rfl
    have HOV0 := Aside0.mk (show Over (v : Int) lam l ↔ ∃ d : Nat, d < (v : Int).toNat ∧ lam < rd (counted (v : Int) l) (d : Int) from Iff.rfl)
    have HF0 := Aside0.mk hF0
    clear hzn hF0
    go_enter Try.func17, Try.ntmps17
    go_wp2_with ((go_at_call 25; refine (ciCounts_calls (v : Int) _ 1 [l] _ (Sets_one (by first | exact HR.out | exact Kd.C_drewN HR.out _) HC.out _) (by simp) (by simp) (by omega) (AllPts_one HPTS.out hl1)).mono ?_; rw [show ([l] : List (List Int)).length = 1 from rfl, csum_one]; (rintro e w1 ⟨v1, rfl, ho, hb⟩; have hdl_ := counted_length (v := (v : Int)) (l := l); generalize hd_ : counted (v : Int) l = d at ho hdl_; have HDL := Aside0.mk hdl_; have HDD := Aside0.mk hd_; clear hdl_ hd_; have HO := Aside0.mk (Ow_lower ho (below_size (by repeat (first | (with_reducible first | exact HB.out | apply below_alloc | apply pw_below_drewN | apply below_drew1) | exact HB.out)))); have n0_ := Aside0.mk (below_step (by repeat (first | (with_reducible first | exact HB.out | apply below_alloc | apply pw_below_drewN | apply below_drew1) | exact HB.out)) hb); clear HB ho hb; have HB := n0_; clear n0_; obtain ⟨A1, c1, e1_, hc1_, hr1_⟩ := Ow_form HO.out; subst e1_; have HC1 := Aside0.mk hc1_; clear hc1_ hr1_)))
    have HRD := Aside0.mk (Ow_rd HO.out)
    have HDV := Aside0.mk (show d.length = v by rw [HDL.out]; omega)
    rw [HDD.out] at HOV0
    obtain ⟨ad3, hA3, _⟩ := at_first HRD.out (by rw [HDV.out]; omega)
    subst hA3
    repeat (go_quiet (fail); try go_wp2_with fail)
    have hdm : d.length ≤ 31 := by rw [HDV.out]; omega
    go_loopg [36] d.length (fun g v36 w' => ∃ i : Nat, v36 = .int .i64 i ∧ Aside0 (i + g = d.length) ∧ Aside0 (∀ j : Nat, j < i → rd d (j : Int) ≤ lam) ∧ Aside0 (Rd w' (some ad3) d) ∧ Aside0 (Below w.heap.size w w'))
    case atStart => exact ⟨0, rfl, ⟨by omega⟩, ⟨fun j h => absurd h (by omega)⟩, ⟨by (with_reducible repeat (first | apply Kd.C_alloc | apply Kd.C_drewN | apply Kd.C_drew)); exact HRD.out⟩, ⟨(by repeat (first | (with_reducible first | exact HB.out | apply below_alloc | apply pw_below_drewN | apply below_drew1) | exact HB.out))⟩⟩
    case round =>
      clear HO HB HRD
      obtain ⟨i, rfl, HI, HA, HRD, HB⟩ := hrel
      by_cases hlt : i < d.length
      · obtain ⟨ad4, e4, hx⟩ := at_nat HRD.out hlt
        obtain rfl : ad3 = ad4 := by injection e4
        by_cases hq : lam < rd d (i : Int)
        · have HF := Aside0.mk (show cF v lam (f' + 1) l most = [] by rw [HF0.out, if_pos (tf_pos (HOV0.out.mpr ⟨i, by have := HDV.out; omega, hq⟩))])
          (go_wp2; repeat (go_quiet (fail); try go_wp2))
          go_ret
          exact ⟨_, rfl, by rw [HF.out]; exact Kd.N_nil _ _ _ _ _, (by repeat (first | (with_reducible first | exact HB.out | apply below_alloc | apply pw_below_drewN | apply below_drew1) | exact HB.out))⟩
        · have hq2 : rd d (i : Int) ≤ lam := by omega
          clear hq
          have HQ := Aside0.mk hq2
          (go_wp2; repeat (go_quiet (fail); try go_wp2))
          go_roundg (gk - 1)
          case measure => have := HI.out; omega
          case rel => exact ⟨i + 1, by go_num, ⟨by have := HI.out; omega⟩, ⟨fun j hj => by
            rcases Nat.lt_or_ge j i with h | h
            · exact HA.out j h
            · rw [show j = i by omega]; exact HQ.out⟩, ⟨by (with_reducible repeat (first | apply Kd.C_alloc | apply Kd.C_drewN | apply Kd.C_drew)); exact HRD.out⟩, ⟨(by repeat (first | (with_reducible first | exact HB.out | apply below_alloc | apply pw_below_drewN | apply below_drew1) | exact HB.out))⟩⟩
      · have hno : ¬ Over (v : Int) lam l := fun h => by
          obtain ⟨j, hj, ho⟩ := HOV0.out.mp h
          have := HDV.out; have := HA.out j (by omega)
          omega
        have HFF := Aside0.mk (show (dsS v).tkL (cF v lam f') l most (v - (zn + 1)) [] = cF v lam (f' + 1) l most by
          have h := HF0.out
          rw [if_neg (by rw [tf_neg hno]; decide), HST0.out] at h
          exact h.symm)
        clear hno
        have hxm2 : w.cell? _ = _ := hxm
        replace hxm := (HB.out.cell (World.block_lt_of_cell? w _ hxm)).trans hxm
        have HO7 := Aside0.mk (show OwN w w.heap.size w.heap.size (.slice none 0 0) [] from Kd.N_nil _ _ _ _ _)
        (go_wp2; repeat (go_quiet (fail); try go_wp2))
        go_loopg [14, 16] (v - (zn + 1)) (fun g v14 v16 w' => ∃ (y : Nat) (out : List (List Int)), v16 = .int .i64 y ∧ Aside0 (zn + 1 ≤ y ∧ y + g = v) ∧ Aside0 ((dsS v).tkL (cF v lam f') l most g out = cF v lam (f' + 1) l most) ∧ Aside0 ((out.length : Int) ≤ most) ∧ Aside0 (OwN w' w.heap.size w.heap.size v14 out) ∧ Aside0 (Below w.heap.size w w'))
        case atStart => exact ⟨zn + 1, [], by go_num, ⟨by omega⟩, HFF, ⟨by simp; omega⟩, ⟨Kd.N_nil _ _ _ _ _⟩, ⟨(by repeat (first | (with_reducible first | exact HB.out | apply below_alloc | apply pw_below_drewN | apply below_drew1) | exact HB.out))⟩⟩
        case round =>
          clear HO7 HB
          obtain ⟨y, out, rfl, HY, HT, HOL, HO7, HB⟩ := hrel
          obtain ⟨Ao, co, ev_⟩ := Kd.N_slice HO7.out
          subst ev_
          by_cases hy : y < v
          · by_cases hmo : (out.length : Int) < most
            · obtain ⟨e, he⟩ : ∃ e, gk = e + 1 := ⟨gk - 1, by have := HY.out; omega⟩
              have HGD := Aside0.mk he
              have hT := HT.out
              rw [he, Seek.tkL, if_pos hmo, show (dsS v).y (e + 1) = (y : Int) from (show ((v - (e + 1) : Nat) : Int) = (y : Int) by have := HY.out; omega), show (dsS v).t l (y : Int) = true from rfl, if_pos rfl] at hT
              have HT2 := Aside0.mk hT
              clear hT he
              have HRQ := Aside0.mk (Kd.C_below HR.out HB.out)
              have HB0 := HB
              clear HB
              have HB := Aside0.mk (Below.refl wr.heap.size wr)
              have HLN := Aside0.mk (show l.length ≤ 1000000 by omega)
              have HL1 := Aside0.mk (show 1 ≤ (l ++ [(y : Int)]).length by rw [List.length_append, List.length_singleton]; omega)
              have HL2 := Aside0.mk (show (l ++ [(y : Int)]).length + f' = k by rw [List.length_append, List.length_singleton]; omega)
              have HUQ := Aside0.mk (Up_snoc HU.out hl1 (show (dsS v).n - (dsS v).st l ≤ y by rw [HST0.out]; have := HY.out; show v - _ ≤ y; omega) hy)
              have HM1 := Aside0.mk (show 1 ≤ most - (out.length : Int) by omega)
              have HM2 := Aside0.mk (show most - (out.length : Int) ≤ 1073741824 by omega)
              have hwr : IntKind.i64.wrap (most - (out.length : Int)) = most - (out.length : Int) := by rw [i64_w, w64 (by omega) (by omega)]
              have HFR := Aside0.mk (show ∀ k, wr.heap.size ≤ k → some k ≠ (.slice Ao out.length co : Value).ownBlock from fun k hk e => by have := Kd.N_lt HO7.out k e.symm; omega)
              generalize hm_ : l ++ [(y : Int)] = m at HT2 HL1 HL2 HUQ
              have HM := Aside0.mk hm_
              clear hm_
              have HYL0 := cF_eq (by omega) (by omega) HKK.out f' m (most - (out.length : Int)) HUQ.out HL1.out HL2.out HM1.out
              have hT := HT2.out
              generalize hys_ : cF v lam f' m (most - (out.length : Int)) = ys at hT HYL0
              have HYS := Aside0.mk hys_
              have HT4 := Aside0.mk hT
              have HYL := Aside0.mk (show (ys.length : Int) ≤ most - (out.length : Int) by rw [HYL0, List.length_take]; omega)
              clear hT hys_ HYL0
              go_wp2_with (first | (go_at_call 24; refine (l1Own_calls _ _ l _ (Kd.C_below HRQ.out (by repeat (first | (with_reducible first | exact HB.out | apply below_alloc | apply pw_below_drewN | apply below_drew1) | exact HB.out))) HC.out (by omega)).mono ?_; rintro e w1 ⟨v1, rfl, ho, hb⟩; have HO1 := Aside0.mk (Ow_lower ho (below_size (by repeat (first | (with_reducible first | exact HB.out | apply below_alloc | apply pw_below_drewN | apply below_drew1) | exact HB.out)))); have n0_ := Aside0.mk (below_step (by repeat (first | (with_reducible first | exact HB.out | apply below_alloc | apply pw_below_drewN | apply below_drew1) | exact HB.out)) hb); clear HB ho hb; have HB := n0_; clear n0_) | (((with_reducible refine gate_builtin (b := .append) (xs := #[.tmp 71, .tmp 73]) rfl ?_); at_builtin; refine Kd.R_append (Kd.int .i64) (w0 := wr) wr.heap.size rfl (.tmp 71) (.tmp 73) 25 3 (.int .i64 0) 8 rfl Try.underlying25 infoInt rfl (by decide) (by omega) v1 l ((y : Int)) [.int .i64 ((y : Int))] (fun _ => True) (fun _ => False) rfl rfl rfl (fun _ hk => hk.elim) (fun _ _ => trivial) ?aO ?aB ?aS ?aL ?_; (case aO => exact (by (with_reducible repeat (first | apply Kd.R_alloc | apply Kd.R_drewN | apply Kd.R_drew)); exact HO1.out)); (case aB => exact (by repeat (first | (with_reducible first | exact HB.out | apply below_alloc | apply pw_below_drewN | apply below_drew1) | exact HB.out))); (case aS => exact below_size (by repeat (first | (with_reducible first | exact HB.out | apply below_alloc | apply pw_below_drewN | apply below_drew1) | exact HB.out))); (case aL => have := HLN.out; omega); intro v2 w2 ho_ hb_ hg_ hat_; have n0_ := Aside0.mk hb_; have n1_ := Aside0.mk ho_; clear HB HO1; have HB := n0_; have HO1 := n1_; clear n0_ n1_ ho_ hb_ hg_ hat_); have n0_ := HO1.out; rw [HM.out] at n0_; clear HO1; have HO1 := Aside0.mk n0_; clear n0_; obtain ⟨A2, c2, e2_, hc2_, _⟩ := Ow_form HO1.out; subst e2_; have HC2 := Aside0.mk hc2_; clear hc2_) | (go_at_call 17; refine (HIC.out A2 c2 m (most - (out.length : Int)) _ (Ow_rd (by first | exact HO1.out | exact Ow_drewN HO1.out _)) HC2.out HL1.out HL2.out HM1.out HM2.out HUQ.out).mono ?_; rw [HYS.out]; rintro e w4 ⟨v4, rfl, ho, hb⟩; obtain ⟨A4, c4, e4_⟩ := Kd.N_slice ho; subst e4_; have HO4 := Aside0.mk (Kd.N_mono (ok' := fun k => wr.heap.size ≤ k) (Kd.N_lower ho (below_size (by repeat (first | (with_reducible first | exact HB.out | apply below_alloc | apply pw_below_drewN | apply below_drew1) | exact HB.out)))) (fun k hk => Nat.le_trans (below_size (by repeat (first | (with_reducible first | exact HB.out | apply below_alloc | apply pw_below_drewN | apply below_drew1) | exact HB.out))) hk)); have n0_ := Aside0.mk (below_step (by repeat (first | (with_reducible first | exact HB.out | apply below_alloc | apply pw_below_drewN | apply below_drew1) | exact HB.out)) hb); clear HB ho hb; have HB := n0_; clear n0_; have n1_ := Aside0.mk (Kd.N_below HO7.out HB.out); have n2_ := Aside0.mk (below_step HB0.out HB.out); clear HO7 HB; have HO7 := n1_; have HB := n2_; clear n1_ n2_) | ((with_reducible refine gate_builtin (b := .append) (xs := #[.tmp 66, .tmp 79]) rfl ?_); at_builtin; refine Kd.N_append_rows (Kd.slice 3 (Kd.int .i64)) (w0 := w) w.heap.size rfl (.tmp 66) (.tmp 79) 34 25 (.slice none 0 0) 24 rfl Try.underlying34 infoRowC rfl (by decide) (by omega) (.slice Ao out.length co) out ys _ _ _ (fun k => w.heap.size ≤ k) (fun k => wr.heap.size ≤ k) rfl rfl ?aO ?aR (fun k hk => ⟨Nat.le_trans HB0.out.size hk, HFR.out k hk⟩) (fun k hk => Nat.le_trans (below_size (by repeat (first | (with_reducible first | exact HB.out | apply below_alloc | apply pw_below_drewN | apply below_drew1) | exact HB.out))) hk) ?aB ?aS ?aL ?_; (case aO => exact (by (with_reducible repeat (first | apply Kd.N_alloc | apply Kd.N_drewN | apply Kd.N_drew)); exact HO7.out)); (case aR => exact Kd.N_F (by (with_reducible repeat (first | apply Kd.N_alloc | apply Kd.N_drewN | apply Kd.N_drew)); exact HO4.out)); (case aB => exact (by repeat (first | (with_reducible first | exact HB.out | apply below_alloc | apply pw_below_drewN | apply below_drew1) | exact HB.out))); (case aS => exact (below_size (by repeat (first | (with_reducible first | exact HB.out | apply below_alloc | apply pw_below_drewN | apply below_drew1) | exact HB.out)))); (case aL => have := HYL.out; omega); intro v5 w5 ho hb hg hat; clear HO7 HB HO4; have HO7 := Aside0.mk ho; have HB := Aside0.mk hb; clear ho hb hg hat))
              repeat (go_quiet (fail); try go_wp2)
              go_roundg (gk - 1)
              case measure => have := HY.out; omega
              case rel => exact ⟨y + 1, out ++ ys, by go_num, ⟨by have := HY.out; omega⟩, ⟨by rw [show gk - 1 = e by have := HGD.out; omega]; exact HT4.out⟩, ⟨by rw [List.length_append]; have := HYL.out; omega⟩, ⟨(by (with_reducible repeat (first | apply Kd.N_alloc | apply Kd.N_drewN | apply Kd.N_drew)); exact HO7.out)⟩, ⟨(by repeat (first | (with_reducible first | exact HB.out | apply below_alloc | apply pw_below_drewN | apply below_drew1) | exact HB.out))⟩⟩
            · have HF := Aside0.mk (show cF v lam (f' + 1) l most = out by
                rw [← HT.out]
                obtain ⟨e, he⟩ : ∃ e, gk = e + 1 := ⟨gk - 1, by have := HY.out; omega⟩
                rw [he, Seek.tkL, if_neg hmo])
              (go_wp2; repeat (go_quiet (fail); try go_wp2))
              go_ret
              exact ⟨_, rfl, by rw [HF.out]; exact (by (with_reducible repeat (first | apply Kd.N_alloc | apply Kd.N_drewN | apply Kd.N_drew)); exact HO7.out), (by repeat (first | (with_reducible first | exact HB.out | apply below_alloc | apply pw_below_drewN | apply below_drew1) | exact HB.out))⟩
          · have HF := Aside0.mk (show cF v lam (f' + 1) l most = out by rw [← HT.out, show gk = 0 by have := HY.out; omega, Seek.tkL])
            (go_wp2; repeat (go_quiet (fail); try go_wp2))
            go_ret
            exact ⟨_, rfl, by rw [HF.out]; exact (by (with_reducible repeat (first | apply Kd.N_alloc | apply Kd.N_drewN | apply Kd.N_drew)); exact HO7.out), (by repeat (first | (with_reducible first | exact HB.out | apply below_alloc | apply pw_below_drewN | apply below_drew1) | exact HB.out))⟩
theorem ciFind_calls (v k : Nat) (lam : Int) (f : Nat) (hv : 2 ≤ v ∧ v ≤ 31) (hk : k ≤ 8) (hlam : 1 ≤ lam ∧ lam ≤ 1000) (hkk : ((v : Int) - 1) * lam = (k : Int) * ((k : Int) - 1)) : FindC v k lam f := by
  induction f with
  | zero => exact ciFind_step v k lam 0 hv hk hlam hkk (fun f' h => by omega)
  | succ f ih => exact ciFind_step v k lam (f + 1) hv hk hlam hkk (fun f' h => by rw [show f' = f by omega]; exact ih)
end Go.Proofs.Ytikedacnijgloaa.Own.G
