/- Rulers with a length: the walk of the reference's ruLook; lengths up to 60. -/
import Derived.Test.YtmmnohdokemchaaOwnRuD
import Derived.Test.YtmmnohdokemchaaOwnOwn1
import Derived.Test.YtmmnohdokemchaaWRepsOne
namespace Go.Proofs.Ytmmnohdokemchaa.Own.G
open Go.RowKit Go.Proofs.YtmmnohdokemchaaW.PrintWords Go.Proofs.YtmmnohdokemchaaW.PrintLast Go.Proofs.YtmmnohdokemchaaW.PrintMore
set_option linter.unusedVariables false
def nextLook (s : Nat × List Int) (l : List Int) : Nat × List Int := (s.1 + 1, if s.1 = 0 then l else s.2)
theorem fold_look_fst (R : List (List Int)) : ∀ s : Nat × List Int, (R.foldl nextLook s).1 = s.1 + R.length := by
  induction R with
  | nil => intro s; rfl
  | cons x R ih => intro s; rw [List.foldl_cons, ih, List.length_cons]; show s.1 + 1 + R.length = _; omega
theorem fold_look1 (R : List (List Int)) : ∀ s : Nat × List Int, 0 < s.1 → (R.foldl nextLook s).2 = s.2 := by
  induction R with
  | nil => intro s _; rfl
  | cons x R ih =>
    intro s hs
    rw [List.foldl_cons, ih _ (by show 0 < s.1 + 1; omega)]
    show (if s.1 = 0 then x else s.2) = _
    rw [if_neg (by omega)]
theorem fold_look (R : List (List Int)) : R.foldl nextLook (0, []) = (R.length, (headR R).1) := by
  refine Prod.ext ?_ ?_
  · rw [fold_look_fst]; simp
  · cases R with
    | nil => rfl
    | cons x R => rw [List.foldl_cons, fold_look1 _ _ (by show 0 < 0 + 1; omega)]; rfl
theorem spL_loop (w : Bool) (L left n1 : Nat) (l : List Int) (h : left = n1 + 1) (h2 : 2 ≤ left) : spL w L left l = lpL (ts w) (spL w L n1) l ((L : Int) - (left : Int) + 2) ((L : Int) - (left : Int) + 2 - (lst l + 1)).toNat := by
  obtain ⟨j, rfl⟩ : ∃ j, left = j + 2 := ⟨left - 2, by omega⟩
  obtain rfl : n1 = j + 1 := by omega
  rw [spL, show (L : Int) - ((j + 2 : Nat) : Int) + 2 = (L : Int) - (j : Int) by omega]
/-- What the two variables hold. -/
def StLook (bc bf B : Nat) (w : World) (s : Nat × List Int) : Prop := Var w bc 3 (.int .i64 (s.1 : Int)) ∧ ∃ v, Var w bf 25 v ∧ Kd.R (Kd.int .i64) 3 w B (fun k => k ≠ bc ∧ k ≠ bf) v s.2
theorem StLook_below {bc bf B : Nat} {w w1 : World} {s : Nat × List Int} (h : StLook bc bf B w s) (hb : Below w.heap.size w w1) : StLook bc bf B w1 s := ⟨h.1.below hb, h.2.imp fun v hv => ⟨hv.1.below hb, Kd.R_below hv.2 hb⟩⟩
theorem StLook_lt {bc bf B : Nat} {w : World} {s : Nat × List Int} (h : StLook bc bf B w s) : bc < w.heap.size ∧ bf < w.heap.size := by
  obtain ⟨h1, v, h2, _⟩ := h
  exact ⟨lt_of_block h1, lt_of_block h2⟩
def LookD (L left bc bf B : Nat) : Prop := ∀ (A : Option Addr) (c : Nat) (l : List Int) (w : World) (s : Nat × List Int), Ow w B (.slice A l.length c) l → (∀ k, (.slice A l.length c : Value).ownBlock = some k → k ≠ bc ∧ k ≠ bf) → Ruler l → l.length + left ≤ 12 → StLook bc bf B w s → s.1 + (spL false L left l).length ≤ 100000000000000 →
  Calls Try.prog 29 #[.slice A l.length c, .int .i64 (left : Int), .int .i64 (L : Int), .bool false, .pointer (some ⟨bc, 0, none⟩), .pointer (some ⟨bf, 0, none⟩)] w fun e w' => e = .returned (.tuple #[]) ∧ StLook bc bf B w' ((spL false L left l).foldl nextLook s) ∧ Chg (fun k => k = bc ∨ k = bf) w w'
set_option maxRecDepth 8000 in
set_option maxHeartbeats 12800000 in
theorem lookD_step (L left bc bf B : Nat) (hL : L ≤ 60) (hBc : B ≤ bc) (hBf : B ≤ bf) (hne : bc ≠ bf) (hih : ∀ n1, left = n1 + 1 → LookD L n1 bc bf B) : LookD L left bc bf B := by
  intro A c l w s ho hq hru hlf hst hsz
  obtain ⟨hcap, hrd⟩ : l.length ≤ c ∧ Rd w A l := by
    obtain ⟨A', c', e, h1, h2⟩ := Ow_form ho
    injection e with e1 e2 e3
    subst e1 e3
    exact ⟨h1, h2⟩
  have HST := Aside0.mk hst
  obtain ⟨hvc, v0, hvf, ho0⟩ := hst
  obtain ⟨Av, cv, rfl⟩ := Kd.R_slice ho0
  obtain ⟨cnt, fs⟩ := s
  have hne2 : bf ≠ bc := Ne.symm hne
  have HNE := Aside0.mk hne
  have hbc := lt_of_block hvc
  have hbf := lt_of_block hvf
  have hcc := cell_of_one hvc
  have hcf := free_of_one hvc
  have hfc := cell_of_one hvf
  have hff := free_of_one hvf
  have HVC := Aside0.mk hvc
  have HVF := Aside0.mk hvf
  have HO0 := Aside0.mk ho0
  have HIH := Aside0.mk hih
  have HO := Aside0.mk ho
  have HQ := Aside0.mk hq
  have HC := Aside0.mk hcap
  have HRU := Aside0.mk hru
  have HSZ := Aside0.mk hsz
  have HBW := Aside0.mk (show B ≤ w.heap.size by omega)
  have hl1 := hru.1.1
  have h0 := Ruler_lst hru
  have HR := Aside0.mk hrd
  obtain ⟨ad, hA, _⟩ := at_first hrd (by omega)
  subst hA
  obtain ⟨mm, hmm⟩ : ∃ mm : Int, IntKind.i64.wrap ((l.length : Int) - 1) = mm := ⟨_, rfl⟩
  have HMM := Aside0.mk (show mm = (l.length : Int) - 1 by rw [← hmm, i64_w, w64 (by omega) (by omega)])
  have mm0 : 0 ≤ mm := by have := HMM.out; omega
  have mm2 : mm < (l.length : Int) := by have := HMM.out; omega
  obtain ⟨ad2, e2, hxm⟩ := Kd.at_int hrd mm mm0 mm2
  obtain rfl : ad = ad2 := by injection e2
  clear e2
  obtain ⟨zn, hzn⟩ : ∃ zn : Nat, lst l = (zn : Int) := ⟨(lst l).toNat, by omega⟩
  have hzm : rd l mm = (zn : Int) := by rw [← hzn, HMM.out]; rfl
  rw [hzm] at hxm
  have HZN := Aside0.mk hzn
  rw [hzn] at h0
  have HLN := Aside0.mk (show l.length ≤ 1000000 by omega)
  clear hih ho hq hcap hrd hsz hvc hvf ho0 hzm hzn hru
  have HB := Aside0.mk (Below.refl w.heap.size w)
  simp only at hcc
  by_cases hz : left = 0
  · subst hz
    have hSP : spL false L 0 l = if lst l = (L : Int) ∧ qs false l = true then [l] else [] := rfl
    by_cases hat : (zn : Int) = (L : Int)
    · have hatb : ((zn : Int) != (L : Int)) = false := by rw [hat]; simp
      by_cases hqs : qs false l = true
      · have HQS := Aside0.mk hqs
        have hSP2 : spL false L 0 l = [l] := by rw [hSP, if_pos ⟨by rw [HZN.out]; exact hat, hqs⟩]
        have hcn : cnt + 1 ≤ 100000000000000 := by have := HSZ.out; rw [hSP2] at this; simpa using this
        rw [hSP2]
        clear hSP hSP2 hqs
        by_cases hc0 : cnt = 0
        · subst hc0
          rw [show List.foldl nextLook (0, fs) [l] = (1, l) from rfl]
          go_enter Try.func29, Try.ntmps29
          go_wp2_with (first | (go_at_call 34; refine (ruWhole_calls _ c l _ (Kd.C_below HR.out (by repeat (first | (with_reducible first | exact HB.out | apply below_alloc | apply pw_below_drewN | apply below_drew1) | exact HB.out))) HC.out HRU.out).mono ?_; rw [show tf (Whole (times l)) = _ from HQS.out]; rintro e w1 ⟨rfl, hb⟩; have n0_ := Aside0.mk (below_step (by repeat (first | (with_reducible first | exact HB.out | apply below_alloc | apply pw_below_drewN | apply below_drew1) | exact HB.out)) hb); clear HB hb; have HB := n0_; clear n0_; have hvc1 := HVC.out.below HB.out; have hvf1 := HVF.out.below HB.out; have hcc1 := cell_of_one hvc1; have hcf1 := free_of_one hvc1; have hfc1 := cell_of_one hvf1; have hff1 := free_of_one hvf1; clear hvc1 hvf1) | (go_at_call 35; refine (l1Own_calls _ c l _ (Kd.C_below HR.out (by repeat (first | (with_reducible first | exact HB.out | apply below_alloc | apply pw_below_drewN | apply below_drew1) | exact HB.out))) HC.out (by omega)).mono ?_; rintro e w2 ⟨v1, rfl, ho, hb⟩; obtain ⟨A1, c1, e1_⟩ := Kd.R_slice ho; subst e1_; have HO1 := Aside0.mk (Ow_lower (B' := w.heap.size) ho (below_size (by repeat (first | (with_reducible first | exact HB.out | apply below_alloc | apply pw_below_drewN | apply below_drew1) | exact HB.out)))); have n0_ := Aside0.mk (below_step (by repeat (first | (with_reducible first | exact HB.out | apply below_alloc | apply pw_below_drewN | apply below_drew1) | exact HB.out)) hb); clear HB hb ho; have HB := n0_; clear n0_; have hvc1 := HVC.out.below HB.out; have hvf1 := HVF.out.below HB.out; have hcc1 := cell_of_one hvc1; have hcf1 := free_of_one hvc1; have hfc1 := cell_of_one hvf1; have hff1 := free_of_one hvf1; clear hvc1 hvf1))
          repeat (go_quiet (fail); try go_wp2_with (first | (go_at_call 34; refine (ruWhole_calls _ c l _ (Kd.C_below HR.out (by repeat (first | (with_reducible first | exact HB.out | apply below_alloc | apply pw_below_drewN | apply below_drew1) | exact HB.out))) HC.out HRU.out).mono ?_; rw [show tf (Whole (times l)) = _ from HQS.out]; rintro e w1 ⟨rfl, hb⟩; have n0_ := Aside0.mk (below_step (by repeat (first | (with_reducible first | exact HB.out | apply below_alloc | apply pw_below_drewN | apply below_drew1) | exact HB.out)) hb); clear HB hb; have HB := n0_; clear n0_; have hvc1 := HVC.out.below HB.out; have hvf1 := HVF.out.below HB.out; have hcc1 := cell_of_one hvc1; have hcf1 := free_of_one hvc1; have hfc1 := cell_of_one hvf1; have hff1 := free_of_one hvf1; clear hvc1 hvf1) | (go_at_call 35; refine (l1Own_calls _ c l _ (Kd.C_below HR.out (by repeat (first | (with_reducible first | exact HB.out | apply below_alloc | apply pw_below_drewN | apply below_drew1) | exact HB.out))) HC.out (by omega)).mono ?_; rintro e w2 ⟨v1, rfl, ho, hb⟩; obtain ⟨A1, c1, e1_⟩ := Kd.R_slice ho; subst e1_; have HO1 := Aside0.mk (Ow_lower (B' := w.heap.size) ho (below_size (by repeat (first | (with_reducible first | exact HB.out | apply below_alloc | apply pw_below_drewN | apply below_drew1) | exact HB.out)))); have n0_ := Aside0.mk (below_step (by repeat (first | (with_reducible first | exact HB.out | apply below_alloc | apply pw_below_drewN | apply below_drew1) | exact HB.out)) hb); clear HB hb ho; have HB := n0_; clear n0_; have hvc1 := HVC.out.below HB.out; have hvf1 := HVF.out.below HB.out; have hcc1 := cell_of_one hvc1; have hcf1 := free_of_one hvc1; have hfc1 := cell_of_one hvf1; have hff1 := free_of_one hvf1; clear hvc1 hvf1)))
          refine bodyPost_ret (results_none (by rfl) _ _ _) rfl ⟨rfl, ?_, ((Chg.of_below HB.out).put (fun _ => .inr rfl) 0 _).put (fun _ => .inl rfl) 0 _⟩
          refine ⟨((HVC.out.below HB.out).far HNE.out 0 _).put _, _, ((HVF.out.below HB.out).put _).far HNE.out.symm 0 _, ?_⟩
          exact Kd.R_far (Kd.R_far (Ow_re (ok := fun k => k ≠ bc ∧ k ≠ bf) (Ow_lower HO1.out HBW.out) (fun k hk => by have := Kd.R_base HO1.out k hk; omega)) (fun k hk => hk.2) _) (fun k hk => hk.1) _
        · have h0i : ((cnt : Int) == 0) = false := beq_eq_false_iff_ne.mpr (by omega)
          have HF := Aside0.mk (show List.foldl nextLook (cnt, fs) [l] = (cnt + 1, fs) by show (cnt + 1, if cnt = 0 then l else fs) = _; rw [if_neg hc0])
          rw [HF.out]
          go_enter Try.func29, Try.ntmps29
          go_wp2_with ((go_at_call 34; refine (ruWhole_calls _ c l _ (Kd.C_below HR.out (by repeat (first | (with_reducible first | exact HB.out | apply below_alloc | apply pw_below_drewN | apply below_drew1) | exact HB.out))) HC.out HRU.out).mono ?_; rw [show tf (Whole (times l)) = _ from HQS.out]; rintro e w1 ⟨rfl, hb⟩; have n0_ := Aside0.mk (below_step (by repeat (first | (with_reducible first | exact HB.out | apply below_alloc | apply pw_below_drewN | apply below_drew1) | exact HB.out)) hb); clear HB hb; have HB := n0_; clear n0_; have hvc1 := HVC.out.below HB.out; have hvf1 := HVF.out.below HB.out; have hcc1 := cell_of_one hvc1; have hcf1 := free_of_one hvc1; have hfc1 := cell_of_one hvf1; have hff1 := free_of_one hvf1; clear hvc1 hvf1))
          repeat (go_quiet (fail); try go_wp2_with ((go_at_call 34; refine (ruWhole_calls _ c l _ (Kd.C_below HR.out (by repeat (first | (with_reducible first | exact HB.out | apply below_alloc | apply pw_below_drewN | apply below_drew1) | exact HB.out))) HC.out HRU.out).mono ?_; rw [show tf (Whole (times l)) = _ from HQS.out]; rintro e w1 ⟨rfl, hb⟩; have n0_ := Aside0.mk (below_step (by repeat (first | (with_reducible first | exact HB.out | apply below_alloc | apply pw_below_drewN | apply below_drew1) | exact HB.out)) hb); clear HB hb; have HB := n0_; clear n0_; have hvc1 := HVC.out.below HB.out; have hvf1 := HVF.out.below HB.out; have hcc1 := cell_of_one hvc1; have hcf1 := free_of_one hvc1; have hfc1 := cell_of_one hvf1; have hff1 := free_of_one hvf1; clear hvc1 hvf1)))
          refine bodyPost_ret (results_none (by rfl) _ _ _) rfl ⟨rfl, ?_, (Chg.of_below HB.out).put (fun _ => .inl rfl) 0 _⟩
          exact ⟨(HVC.out.below HB.out).put _, _, (HVF.out.below HB.out).far HNE.out.symm 0 _, Kd.R_far (Kd.R_below HO0.out HB.out) (fun k hk => hk.1) _⟩
      · have HQS := Aside0.mk (show qs false l = false by simpa using hqs)
        have hSP2 : spL false L 0 l = [] := by rw [hSP, if_neg (fun h => hqs h.2)]
        rw [hSP2]
        clear hSP hSP2
        exact absurd rfl hqs
    · have hatb : ((zn : Int) != (L : Int)) = true := bne_iff_ne.mpr hat
      have hSP2 : spL false L 0 l = [] := by rw [hSP, if_neg (fun h => by have := h.1; rw [HZN.out] at this; exact hat this)]
      rw [hSP2]
      clear hSP hSP2
      go_enter Try.func29, Try.ntmps29
      go_wp2_with fail
      repeat (go_quiet (fail); try go_wp2_with fail)
      refine bodyPost_ret (results_none (by rfl) _ _ _) rfl ⟨rfl, StLook_below HST.out (by repeat (first | (with_reducible first | exact HB.out | apply below_alloc | apply pw_below_drewN | apply below_drew1) | exact HB.out)), Chg.of_below (by repeat (first | (with_reducible first | exact HB.out | apply below_alloc | apply pw_below_drewN | apply below_drew1) | exact HB.out))⟩
  · obtain ⟨n1, hn1⟩ : ∃ n1, left = n1 + 1 := ⟨left - 1, by omega⟩
    have HIC := Aside0.mk (HIH.out n1 hn1)
    have HN1 := Aside0.mk hn1
    have hn1a : n1 < left := by omega
    have hn1b : left ≤ n1 + 1 := by omega
    clear hn1
    have ht0 : ((left : Int) == 0) = false := beq_eq_false_iff_ne.mpr (by omega)
    by_cases hz1 : left = 1
    · subst hz1
      obtain rfl : n1 = 0 := by omega
      have hSP : spL false L 1 l = if lst l < (L : Int) then (if ts false (l ++ [(L : Int)]) = true then spL false L 0 (l ++ [(L : Int)]) else []) else [] := rfl
      rw [HZN.out] at hSP
      by_cases hat : (zn : Int) < (L : Int)
      · rw [if_pos hat] at hSP
        have HRM := Aside0.mk (Ruler_snoc HRU.out (show l.length + 1 ≤ 12 by omega) (y := (L : Int)) (by rw [HZN.out]; exact hat) (by omega))
        have HLM := Aside0.mk (show (l ++ [(L : Int)]).length + 0 ≤ 12 by rw [List.length_append, List.length_singleton]; omega)
        have HSR := HST
        have HCH := Aside0.mk (Chg.refl (fun k => k = bc ∨ k = bf) w)
        clear hcc hcf hfc hff
        generalize hm_ : l ++ [(L : Int)] = m at hSP HRM HLM
        have HM := Aside0.mk hm_
        clear hm_
        by_cases hts : ts false m = true
        · have HTS := Aside0.mk hts
          rw [if_pos hts] at hSP
          have HSP := Aside0.mk hSP
          have HSN := Aside0.mk (show cnt + (spL false L 0 m).length ≤ 100000000000000 by have := HSZ.out; rwa [hSP] at this)
          clear hSP hts
          go_enter Try.func29, Try.ntmps29
          go_wp2_with (first | (go_at_call 35; refine (l1Own_calls _ c l _ (Kd.C_below HR.out (by repeat (first | (with_reducible first | exact HB.out | apply below_alloc | apply pw_below_drewN | apply below_drew1) | exact HB.out))) HC.out (by omega)).mono ?_; rintro e w1 ⟨v1, rfl, ho, hb⟩; have HO1 := Aside0.mk (Ow_lower ho (below_size (by repeat (first | (with_reducible first | exact HB.out | apply below_alloc | apply pw_below_drewN | apply below_drew1) | exact HB.out)))); have n0_ := Aside0.mk (below_step (by repeat (first | (with_reducible first | exact HB.out | apply below_alloc | apply pw_below_drewN | apply below_drew1) | exact HB.out)) hb); clear HB ho hb; have HB := n0_; clear n0_) | (((with_reducible refine gate_builtin (b := .append) (xs := #[.tmp 54, .tmp 56]) rfl ?_); at_builtin; refine Kd.R_append (Kd.int .i64) (w0 := w) w.heap.size rfl (.tmp 54) (.tmp 56) 25 3 (.int .i64 0) 8 rfl Try.underlying25 infoInt rfl (by decide) (by omega) v1 l ((L : Int)) [.int .i64 ((L : Int))] (fun _ => True) (fun _ => False) rfl rfl rfl (fun _ hk => hk.elim) (fun _ _ => trivial) ?aO ?aB ?aS ?aL ?_; (case aO => exact (by (with_reducible repeat (first | apply Kd.R_alloc | apply Kd.R_drewN | apply Kd.R_drew)); exact HO1.out)); (case aB => exact (by repeat (first | (with_reducible first | exact HB.out | apply below_alloc | apply pw_below_drewN | apply below_drew1) | exact HB.out))); (case aS => exact below_size (by repeat (first | (with_reducible first | exact HB.out | apply below_alloc | apply pw_below_drewN | apply below_drew1) | exact HB.out))); (case aL => have := HLN.out; omega); intro v2 w2 ho_ hb_ hg_ hat_; have n0_ := Aside0.mk hb_; have n1_ := Aside0.mk ho_; clear HB HO1; have HB := n0_; have HO1 := n1_; clear n0_ n1_ ho_ hb_ hg_ hat_); have n0_ := HO1.out; rw [HM.out] at n0_; clear HO1; have HO1 := Aside0.mk n0_; clear n0_; obtain ⟨A2, c2, e2_, hc2_, _⟩ := Ow_form HO1.out; subst e2_; have HC2 := Aside0.mk hc2_; clear hc2_) | (go_at_call 36; refine (ruDifferent_calls A2 c2 m _ (Ow_rd (by first | exact HO1.out | exact Ow_drewN HO1.out _)) HC2.out HRM.out).mono ?_; rw [show tf (Diff (times m)) = _ from HTS.out]; rintro e w3 ⟨rfl, hb⟩; have n0_ := Aside0.mk (below_step (by repeat (first | (with_reducible first | exact HB.out | apply below_alloc | apply pw_below_drewN | apply below_drew1) | exact HB.out)) hb); have n1_ := Aside0.mk (Ow_below (by first | exact HO1.out | exact Ow_drewN HO1.out _) hb); clear HB HO1 hb; have HB := n0_; have HO1 := n1_; clear n0_ n1_) | (go_at_call 29; (first | rw [show ((left : Int) - 1) = (n1 : Int) by omega] | skip); refine (HIC.out A2 c2 m _ (cnt, fs) (Ow_lower (by first | exact HO1.out | exact Ow_drewN HO1.out _) (Nat.le_trans HBW.out HCH.out.size)) (fun k hk => by have := Kd.R_base HO1.out k hk; omega) HRM.out HLM.out (StLook_below HSR.out (by repeat (first | (with_reducible first | exact HB.out | apply below_alloc | apply pw_below_drewN | apply below_drew1) | exact HB.out))) HSN.out).mono ?_; rintro e_ w4 ⟨rfl, hst, hch⟩; have HS3 := Aside0.mk hst; have HC4 := Aside0.mk ((HCH.out.below (by repeat (first | (with_reducible first | exact HB.out | apply below_alloc | apply pw_below_drewN | apply below_drew1) | exact HB.out))).trans hch (fun j _ h => h)); clear hst hch HB; have HB := Aside0.mk (Below.refl w4.heap.size w4)))
          repeat (go_quiet (fail); try go_wp2_with fail)
          refine bodyPost_ret (results_none (by rfl) _ _ _) rfl ⟨rfl, by rw [HSP.out]; exact StLook_below HS3.out (by repeat (first | (with_reducible first | exact HB.out | apply below_alloc | apply pw_below_drewN | apply below_drew1) | exact HB.out)), HC4.out.below (by repeat (first | (with_reducible first | exact HB.out | apply below_alloc | apply pw_below_drewN | apply below_drew1) | exact HB.out))⟩
        · have hSP3 := hSP
          rw [if_neg hts] at hSP3
          (have HTS := Aside0.mk (show ts false m = false by simpa using hts); rw [hSP3]; clear hSP hSP3; go_enter Try.func29, Try.ntmps29; (go_wp2_with (first | (go_at_call 35; refine (l1Own_calls _ c l _ (Kd.C_below HR.out (by repeat (first | (with_reducible first | exact HB.out | apply below_alloc | apply pw_below_drewN | apply below_drew1) | exact HB.out))) HC.out (by omega)).mono ?_; rintro e w1 ⟨v1, rfl, ho, hb⟩; have HO1 := Aside0.mk (Ow_lower ho (below_size (by repeat (first | (with_reducible first | exact HB.out | apply below_alloc | apply pw_below_drewN | apply below_drew1) | exact HB.out)))); have n0_ := Aside0.mk (below_step (by repeat (first | (with_reducible first | exact HB.out | apply below_alloc | apply pw_below_drewN | apply below_drew1) | exact HB.out)) hb); clear HB ho hb; have HB := n0_; clear n0_) | (((with_reducible refine gate_builtin (b := .append) (xs := #[.tmp 54, .tmp 56]) rfl ?_); at_builtin; refine Kd.R_append (Kd.int .i64) (w0 := w) w.heap.size rfl (.tmp 54) (.tmp 56) 25 3 (.int .i64 0) 8 rfl Try.underlying25 infoInt rfl (by decide) (by omega) v1 l ((L : Int)) [.int .i64 ((L : Int))] (fun _ => True) (fun _ => False) rfl rfl rfl (fun _ hk => hk.elim) (fun _ _ => trivial) ?aO ?aB ?aS ?aL ?_; (case aO => exact (by (with_reducible repeat (first | apply Kd.R_alloc | apply Kd.R_drewN | apply Kd.R_drew)); exact HO1.out)); (case aB => exact (by repeat (first | (with_reducible first | exact HB.out | apply below_alloc | apply pw_below_drewN | apply below_drew1) | exact HB.out))); (case aS => exact below_size (by repeat (first | (with_reducible first | exact HB.out | apply below_alloc | apply pw_below_drewN | apply below_drew1) | exact HB.out))); (case aL => have := HLN.out; omega); intro v2 w2 ho_ hb_ hg_ hat_; have n0_ := Aside0.mk hb_; have n1_ := Aside0.mk ho_; clear HB HO1; have HB := n0_; have HO1 := n1_; clear n0_ n1_ ho_ hb_ hg_ hat_); have n0_ := HO1.out; rw [HM.out] at n0_; clear HO1; have HO1 := Aside0.mk n0_; clear n0_; obtain ⟨A2, c2, e2_, hc2_, _⟩ := Ow_form HO1.out; subst e2_; have HC2 := Aside0.mk hc2_; clear hc2_) | (go_at_call 36; refine (ruDifferent_calls A2 c2 m _ (Ow_rd (by first | exact HO1.out | exact Ow_drewN HO1.out _)) HC2.out HRM.out).mono ?_; rw [show tf (Diff (times m)) = _ from HTS.out]; rintro e w3 ⟨rfl, hb⟩; have n0_ := Aside0.mk (below_step (by repeat (first | (with_reducible first | exact HB.out | apply below_alloc | apply pw_below_drewN | apply below_drew1) | exact HB.out)) hb); have n1_ := Aside0.mk (Ow_below (by first | exact HO1.out | exact Ow_drewN HO1.out _) hb); clear HB HO1 hb; have HB := n0_; have HO1 := n1_; clear n0_ n1_))); (repeat (go_quiet (fail); try go_wp2_with fail)); refine bodyPost_ret (results_none (by rfl) _ _ _) rfl ⟨rfl, StLook_below HST.out (by repeat (first | (with_reducible first | exact HB.out | apply below_alloc | apply pw_below_drewN | apply below_drew1) | exact HB.out)), Chg.of_below (by repeat (first | (with_reducible first | exact HB.out | apply below_alloc | apply pw_below_drewN | apply below_drew1) | exact HB.out))⟩)
      · rw [if_neg hat] at hSP
        rw [hSP]
        clear hSP
        go_enter Try.func29, Try.ntmps29
        go_wp2_with fail
        repeat (go_quiet (fail); try go_wp2_with fail)
        refine bodyPost_ret (results_none (by rfl) _ _ _) rfl ⟨rfl, StLook_below HST.out (by repeat (first | (with_reducible first | exact HB.out | apply below_alloc | apply pw_below_drewN | apply below_drew1) | exact HB.out)), Chg.of_below (by repeat (first | (with_reducible first | exact HB.out | apply below_alloc | apply pw_below_drewN | apply below_drew1) | exact HB.out))⟩
    · have ht1 : ((left : Int) == 1) = false := beq_eq_false_iff_ne.mpr (by omega)
      have hSP := spL_loop false L left n1 l HN1.out (by omega)
      rw [HZN.out] at hSP
      have HTOT := Aside0.mk (show (lpL (ts false) (spL false L n1) l ((L : Int) - (left : Int) + 2) ((L : Int) - (left : Int) + 2 - ((zn : Int) + 1)).toNat).foldl nextLook (cnt, fs) = (spL false L left l).foldl nextLook (cnt, fs) by rw [hSP])
      have HS0 := Aside0.mk (show cnt + (lpL (ts false) (spL false L n1) l ((L : Int) - (left : Int) + 2) ((L : Int) - (left : Int) + 2 - ((zn : Int) + 1)).toNat).length ≤ 100000000000000 by have := HSZ.out; rwa [hSP] at this)
      clear hSP
      have h2 : 2 ≤ left := by omega
      go_enter Try.func29, Try.ntmps29
      go_wp2_with fail
      repeat (go_quiet (fail); try go_wp2_with fail)
      clear hcc hcf hfc hff hxm
      go_loopg [14] (((L : Int) - (left : Int) + 2 - ((zn : Int) + 1)).toNat) (fun g v14 w' => ∃ (y : Nat) (s' : Nat × List Int), v14 = .int .i64 y ∧ Aside0 (zn + 1 ≤ y ∧ (L : Int) - (left : Int) + 2 - (y : Int) ≤ (g : Int) ∧ (0 < g → (y : Int) + (g : Int) = (L : Int) - (left : Int) + 2)) ∧ Aside0 (y ≤ 200) ∧ Aside0 ((lpL (ts false) (spL false L n1) l ((L : Int) - (left : Int) + 2) g).foldl nextLook s' = (spL false L left l).foldl nextLook (cnt, fs)) ∧ Aside0 (s'.1 + (lpL (ts false) (spL false L n1) l ((L : Int) - (left : Int) + 2) g).length ≤ 100000000000000) ∧ Aside0 (StLook bc bf B w' s') ∧ Aside0 (Chg (fun k => k = bc ∨ k = bf) w w'))
      case atStart => exact ⟨zn + 1, (cnt, fs), by go_num, ⟨by omega⟩, ⟨by omega⟩, HTOT, HS0, ⟨StLook_below HST.out (by repeat (first | (with_reducible first | exact HB.out | apply below_alloc | apply pw_below_drewN | apply below_drew1) | exact HB.out))⟩, ⟨Chg.of_below (by repeat (first | (with_reducible first | exact HB.out | apply below_alloc | apply pw_below_drewN | apply below_drew1) | exact HB.out))⟩⟩
      case round =>
        clear HB
        obtain ⟨y, s', rfl, HY, HY2, HT, HSS, HSR, HCH⟩ := hrel
        have hy2 := HY2.out
        by_cases hy : (y : Int) < (L : Int) - (left : Int) + 2
        · obtain ⟨d, hd⟩ : ∃ d, gk = d + 1 := ⟨gk - 1, by have := HY.out; omega⟩
          have HGD := Aside0.mk hd
          have hyd : (L : Int) - (left : Int) + 2 - ((d + 1 : Nat) : Int) = (y : Int) := by have := HY.out.2.2 (by omega); omega
          have hT := HT.out
          have hS := HSS.out
          rw [hd, lpL, hyd, List.foldl_append] at hT
          rw [hd, lpL, hyd, List.length_append] at hS
          have HB := Aside0.mk (Below.refl wr.heap.size wr)
          have hlt := StLook_lt HSR.out
          have HOR := Aside0.mk (Ow_chg HO.out HCH.out (fun k hk h => h.elim (HQ.out k hk).1 (HQ.out k hk).2))
          have HRQ := Aside0.mk (Ow_rd HOR.out)
          have HRM := Aside0.mk (Ruler_snoc HRU.out (show l.length + 1 ≤ 12 by omega) (y := (y : Int)) (by rw [HZN.out]; have := HY.out; omega) (by omega))
          have HLM := Aside0.mk (show (l ++ [(y : Int)]).length + n1 ≤ 12 by rw [List.length_append, List.length_singleton]; omega)
          generalize hm_ : l ++ [(y : Int)] = m at hT hS HRM HLM
          have HM := Aside0.mk hm_
          clear hm_ hd
          by_cases hts : ts false m = true
          · have HTS := Aside0.mk hts
            rw [if_pos hts] at hT hS
            have HN := Aside0.mk hT
            have HSN := Aside0.mk (show s'.1 + (spL false L n1 m).length ≤ 100000000000000 by omega)
            have HSD := Aside0.mk hS
            clear hT hS hts
            go_wp2_with (first | (go_at_call 35; refine (l1Own_calls _ c l _ (Kd.C_below HRQ.out (by repeat (first | (with_reducible first | exact HB.out | apply below_alloc | apply pw_below_drewN | apply below_drew1) | exact HB.out))) HC.out (by omega)).mono ?_; rintro e w1 ⟨v1, rfl, ho, hb⟩; have HO1 := Aside0.mk (Ow_lower ho (below_size (by repeat (first | (with_reducible first | exact HB.out | apply below_alloc | apply pw_below_drewN | apply below_drew1) | exact HB.out)))); have n0_ := Aside0.mk (below_step (by repeat (first | (with_reducible first | exact HB.out | apply below_alloc | apply pw_below_drewN | apply below_drew1) | exact HB.out)) hb); clear HB ho hb; have HB := n0_; clear n0_) | (((with_reducible refine gate_builtin (b := .append) (xs := #[.tmp 80, .tmp 82]) rfl ?_); at_builtin; refine Kd.R_append (Kd.int .i64) (w0 := wr) wr.heap.size rfl (.tmp 80) (.tmp 82) 25 3 (.int .i64 0) 8 rfl Try.underlying25 infoInt rfl (by decide) (by omega) v1 l ((y : Int)) [.int .i64 ((y : Int))] (fun _ => True) (fun _ => False) rfl rfl rfl (fun _ hk => hk.elim) (fun _ _ => trivial) ?aO ?aB ?aS ?aL ?_; (case aO => exact (by (with_reducible repeat (first | apply Kd.R_alloc | apply Kd.R_drewN | apply Kd.R_drew)); exact HO1.out)); (case aB => exact (by repeat (first | (with_reducible first | exact HB.out | apply below_alloc | apply pw_below_drewN | apply below_drew1) | exact HB.out))); (case aS => exact below_size (by repeat (first | (with_reducible first | exact HB.out | apply below_alloc | apply pw_below_drewN | apply below_drew1) | exact HB.out))); (case aL => have := HLN.out; omega); intro v2 w2 ho_ hb_ hg_ hat_; have n0_ := Aside0.mk hb_; have n1_ := Aside0.mk ho_; clear HB HO1; have HB := n0_; have HO1 := n1_; clear n0_ n1_ ho_ hb_ hg_ hat_); have n0_ := HO1.out; rw [HM.out] at n0_; clear HO1; have HO1 := Aside0.mk n0_; clear n0_; obtain ⟨A2, c2, e2_, hc2_, _⟩ := Ow_form HO1.out; subst e2_; have HC2 := Aside0.mk hc2_; clear hc2_) | (go_at_call 36; refine (ruDifferent_calls A2 c2 m _ (Ow_rd (by first | exact HO1.out | exact Ow_drewN HO1.out _)) HC2.out HRM.out).mono ?_; rw [show tf (Diff (times m)) = _ from HTS.out]; rintro e w3 ⟨rfl, hb⟩; have n0_ := Aside0.mk (below_step (by repeat (first | (with_reducible first | exact HB.out | apply below_alloc | apply pw_below_drewN | apply below_drew1) | exact HB.out)) hb); have n1_ := Aside0.mk (Ow_below (by first | exact HO1.out | exact Ow_drewN HO1.out _) hb); clear HB HO1 hb; have HB := n0_; have HO1 := n1_; clear n0_ n1_) | (go_at_call 29; (first | rw [show ((left : Int) - 1) = (n1 : Int) by omega] | skip); refine (HIC.out A2 c2 m _ s' (Ow_lower (by first | exact HO1.out | exact Ow_drewN HO1.out _) (Nat.le_trans HBW.out HCH.out.size)) (fun k hk => by have := Kd.R_base HO1.out k hk; omega) HRM.out HLM.out (StLook_below HSR.out (by repeat (first | (with_reducible first | exact HB.out | apply below_alloc | apply pw_below_drewN | apply below_drew1) | exact HB.out))) HSN.out).mono ?_; rintro e_ w4 ⟨rfl, hst, hch⟩; have HS3 := Aside0.mk hst; have HC4 := Aside0.mk ((HCH.out.below (by repeat (first | (with_reducible first | exact HB.out | apply below_alloc | apply pw_below_drewN | apply below_drew1) | exact HB.out))).trans hch (fun j _ h => h)); clear hst hch HB; have HB := Aside0.mk (Below.refl w4.heap.size w4)))
            repeat (go_quiet (fail); try go_wp2_with fail)
            go_roundg (gk - 1)
            case measure => have := HGD.out; omega
            case rel => exact ⟨y + 1, _, by go_num, ⟨by have := HY.out; have := HGD.out; omega⟩, ⟨by omega⟩, ⟨by rw [show gk - 1 = d by have := HGD.out; omega]; exact HN.out⟩, ⟨by rw [show gk - 1 = d by have := HGD.out; omega, fold_look_fst]; have := HSD.out; omega⟩, ⟨StLook_below HS3.out (by repeat (first | (with_reducible first | exact HB.out | apply below_alloc | apply pw_below_drewN | apply below_drew1) | exact HB.out))⟩, ⟨HC4.out.below (by repeat (first | (with_reducible first | exact HB.out | apply below_alloc | apply pw_below_drewN | apply below_drew1) | exact HB.out))⟩⟩
          · have HTS := Aside0.mk (show ts false m = false by simpa using hts)
            rw [if_neg hts] at hT hS
            have HN := Aside0.mk hT
            have HSD := Aside0.mk hS
            clear hT hS
            ((go_wp2_with (first | (go_at_call 35; refine (l1Own_calls _ c l _ (Kd.C_below HRQ.out (by repeat (first | (with_reducible first | exact HB.out | apply below_alloc | apply pw_below_drewN | apply below_drew1) | exact HB.out))) HC.out (by omega)).mono ?_; rintro e w1 ⟨v1, rfl, ho, hb⟩; have HO1 := Aside0.mk (Ow_lower ho (below_size (by repeat (first | (with_reducible first | exact HB.out | apply below_alloc | apply pw_below_drewN | apply below_drew1) | exact HB.out)))); have n0_ := Aside0.mk (below_step (by repeat (first | (with_reducible first | exact HB.out | apply below_alloc | apply pw_below_drewN | apply below_drew1) | exact HB.out)) hb); clear HB ho hb; have HB := n0_; clear n0_) | (((with_reducible refine gate_builtin (b := .append) (xs := #[.tmp 80, .tmp 82]) rfl ?_); at_builtin; refine Kd.R_append (Kd.int .i64) (w0 := wr) wr.heap.size rfl (.tmp 80) (.tmp 82) 25 3 (.int .i64 0) 8 rfl Try.underlying25 infoInt rfl (by decide) (by omega) v1 l ((y : Int)) [.int .i64 ((y : Int))] (fun _ => True) (fun _ => False) rfl rfl rfl (fun _ hk => hk.elim) (fun _ _ => trivial) ?aO ?aB ?aS ?aL ?_; (case aO => exact (by (with_reducible repeat (first | apply Kd.R_alloc | apply Kd.R_drewN | apply Kd.R_drew)); exact HO1.out)); (case aB => exact (by repeat (first | (with_reducible first | exact HB.out | apply below_alloc | apply pw_below_drewN | apply below_drew1) | exact HB.out))); (case aS => exact below_size (by repeat (first | (with_reducible first | exact HB.out | apply below_alloc | apply pw_below_drewN | apply below_drew1) | exact HB.out))); (case aL => have := HLN.out; omega); intro v2 w2 ho_ hb_ hg_ hat_; have n0_ := Aside0.mk hb_; have n1_ := Aside0.mk ho_; clear HB HO1; have HB := n0_; have HO1 := n1_; clear n0_ n1_ ho_ hb_ hg_ hat_); have n0_ := HO1.out; rw [HM.out] at n0_; clear HO1; have HO1 := Aside0.mk n0_; clear n0_; obtain ⟨A2, c2, e2_, hc2_, _⟩ := Ow_form HO1.out; subst e2_; have HC2 := Aside0.mk hc2_; clear hc2_) | (go_at_call 36; refine (ruDifferent_calls A2 c2 m _ (Ow_rd (by first | exact HO1.out | exact Ow_drewN HO1.out _)) HC2.out HRM.out).mono ?_; rw [show tf (Diff (times m)) = _ from HTS.out]; rintro e w3 ⟨rfl, hb⟩; have n0_ := Aside0.mk (below_step (by repeat (first | (with_reducible first | exact HB.out | apply below_alloc | apply pw_below_drewN | apply below_drew1) | exact HB.out)) hb); have n1_ := Aside0.mk (Ow_below (by first | exact HO1.out | exact Ow_drewN HO1.out _) hb); clear HB HO1 hb; have HB := n0_; have HO1 := n1_; clear n0_ n1_))); (repeat (go_quiet (fail); try go_wp2_with fail)); go_roundg (gk - 1); (case measure => have := HGD.out; omega); (case rel => exact ⟨y + 1, s', by go_num, ⟨by have := HY.out; have := HGD.out; omega⟩, ⟨by omega⟩, ⟨by rw [show gk - 1 = d by have := HGD.out; omega]; exact HN.out⟩, ⟨by rw [show gk - 1 = d by have := HGD.out; omega]; have := HSD.out; simp only [List.length_nil] at this; omega⟩, ⟨StLook_below HSR.out (by repeat (first | (with_reducible first | exact HB.out | apply below_alloc | apply pw_below_drewN | apply below_drew1) | exact HB.out))⟩, ⟨HCH.out.below (by repeat (first | (with_reducible first | exact HB.out | apply below_alloc | apply pw_below_drewN | apply below_drew1) | exact HB.out))⟩⟩))
        · have HF := Aside0.mk (show s' = (spL false L left l).foldl nextLook (cnt, fs) by have h := HT.out; rw [show gk = 0 by have := HY.out; omega] at h; exact h)
          have HB := Aside0.mk (Below.refl wr.heap.size wr)
          go_wp2_with fail
          repeat (go_quiet (fail); try go_wp2_with fail)
          go_end0
          exact ⟨rfl, by rw [← HF.out]; exact StLook_below HSR.out (by repeat (first | (with_reducible first | exact HB.out | apply below_alloc | apply pw_below_drewN | apply below_drew1) | exact HB.out)), HCH.out.below (by repeat (first | (with_reducible first | exact HB.out | apply below_alloc | apply pw_below_drewN | apply below_drew1) | exact HB.out))⟩
theorem lookD_calls (L left bc bf B : Nat) (hL : L ≤ 60) (hBc : B ≤ bc) (hBf : B ≤ bf) (hne : bc ≠ bf) : LookD L left bc bf B := by
  induction left with
  | zero => exact lookD_step L 0 bc bf B hL hBc hBf hne (fun n1 h => by omega)
  | succ n ih => exact lookD_step L (n + 1) bc bf B hL hBc hBf hne (fun n1 h => by rw [show n1 = n by omega]; exact ih)
def LookW (L left bc bf B : Nat) : Prop := ∀ (A : Option Addr) (c : Nat) (l : List Int) (w : World) (s : Nat × List Int), Ow w B (.slice A l.length c) l → (∀ k, (.slice A l.length c : Value).ownBlock = some k → k ≠ bc ∧ k ≠ bf) → Ruler l → l.length + left ≤ 12 → StLook bc bf B w s → s.1 + (spL true L left l).length ≤ 100000000000000 →
  Calls Try.prog 29 #[.slice A l.length c, .int .i64 (left : Int), .int .i64 (L : Int), .bool true, .pointer (some ⟨bc, 0, none⟩), .pointer (some ⟨bf, 0, none⟩)] w fun e w' => e = .returned (.tuple #[]) ∧ StLook bc bf B w' ((spL true L left l).foldl nextLook s) ∧ Chg (fun k => k = bc ∨ k = bf) w w'
set_option maxRecDepth 8000 in
set_option maxHeartbeats 12800000 in
theorem lookW_step (L left bc bf B : Nat) (hL : L ≤ 60) (hBc : B ≤ bc) (hBf : B ≤ bf) (hne : bc ≠ bf) (hih : ∀ n1, left = n1 + 1 → LookW L n1 bc bf B) : LookW L left bc bf B := by
  intro A c l w s ho hq hru hlf hst hsz
  obtain ⟨hcap, hrd⟩ : l.length ≤ c ∧ Rd w A l := by
    obtain ⟨A', c', e, h1, h2⟩ := Ow_form ho
    injection e with e1 e2 e3
    subst e1 e3
    exact ⟨h1, h2⟩
  have HST := Aside0.mk hst
  obtain ⟨hvc, v0, hvf, ho0⟩ := hst
  obtain ⟨Av, cv, rfl⟩ := Kd.R_slice ho0
  obtain ⟨cnt, fs⟩ := s
  have hne2 : bf ≠ bc := Ne.symm hne
  have HNE := Aside0.mk hne
  have hbc := lt_of_block hvc
  have hbf := lt_of_block hvf
  have hcc := cell_of_one hvc
  have hcf := free_of_one hvc
  have hfc := cell_of_one hvf
  have hff := free_of_one hvf
  have HVC := Aside0.mk hvc
  have HVF := Aside0.mk hvf
  have HO0 := Aside0.mk ho0
  have HIH := Aside0.mk hih
  have HO := Aside0.mk ho
  have HQ := Aside0.mk hq
  have HC := Aside0.mk hcap
  have HRU := Aside0.mk hru
  have HSZ := Aside0.mk hsz
  have HBW := Aside0.mk (show B ≤ w.heap.size by omega)
  have hl1 := hru.1.1
  have h0 := Ruler_lst hru
  have HR := Aside0.mk hrd
  obtain ⟨ad, hA, _⟩ := at_first hrd (by omega)
  subst hA
  obtain ⟨mm, hmm⟩ : ∃ mm : Int, IntKind.i64.wrap ((l.length : Int) - 1) = mm := ⟨_, rfl⟩
  have HMM := Aside0.mk (show mm = (l.length : Int) - 1 by rw [← hmm, i64_w, w64 (by omega) (by omega)])
  have mm0 : 0 ≤ mm := by have := HMM.out; omega
  have mm2 : mm < (l.length : Int) := by have := HMM.out; omega
  obtain ⟨ad2, e2, hxm⟩ := Kd.at_int hrd mm mm0 mm2
  obtain rfl : ad = ad2 := by injection e2
  clear e2
  obtain ⟨zn, hzn⟩ : ∃ zn : Nat, lst l = (zn : Int) := ⟨(lst l).toNat, by omega⟩
  have hzm : rd l mm = (zn : Int) := by rw [← hzn, HMM.out]; rfl
  rw [hzm] at hxm
  have HZN := Aside0.mk hzn
  rw [hzn] at h0
  have HLN := Aside0.mk (show l.length ≤ 1000000 by omega)
  clear hih ho hq hcap hrd hsz hvc hvf ho0 hzm hzn hru
  have HB := Aside0.mk (Below.refl w.heap.size w)
  simp only at hcc
  by_cases hz : left = 0
  · subst hz
    have hSP : spL true L 0 l = if lst l = (L : Int) ∧ qs true l = true then [l] else [] := rfl
    by_cases hat : (zn : Int) = (L : Int)
    · have hatb : ((zn : Int) != (L : Int)) = false := by rw [hat]; simp
      by_cases hqs : qs true l = true
      · have HQS := Aside0.mk hqs
        have hSP2 : spL true L 0 l = [l] := by rw [hSP, if_pos ⟨by rw [HZN.out]; exact hat, hqs⟩]
        have hcn : cnt + 1 ≤ 100000000000000 := by have := HSZ.out; rw [hSP2] at this; simpa using this
        rw [hSP2]
        clear hSP hSP2 hqs
        by_cases hc0 : cnt = 0
        · subst hc0
          rw [show List.foldl nextLook (0, fs) [l] = (1, l) from rfl]
          go_enter Try.func29, Try.ntmps29
          go_wp2_with (first | (go_at_call 34; refine (ruWhole_calls _ c l _ (Kd.C_below HR.out (by repeat (first | (with_reducible first | exact HB.out | apply below_alloc | apply pw_below_drewN | apply below_drew1) | exact HB.out))) HC.out HRU.out).mono ?_; rw [show tf (Whole (times l)) = _ from HQS.out]; rintro e w1 ⟨rfl, hb⟩; have n0_ := Aside0.mk (below_step (by repeat (first | (with_reducible first | exact HB.out | apply below_alloc | apply pw_below_drewN | apply below_drew1) | exact HB.out)) hb); clear HB hb; have HB := n0_; clear n0_; have hvc1 := HVC.out.below HB.out; have hvf1 := HVF.out.below HB.out; have hcc1 := cell_of_one hvc1; have hcf1 := free_of_one hvc1; have hfc1 := cell_of_one hvf1; have hff1 := free_of_one hvf1; clear hvc1 hvf1) | (go_at_call 35; refine (l1Own_calls _ c l _ (Kd.C_below HR.out (by repeat (first | (with_reducible first | exact HB.out | apply below_alloc | apply pw_below_drewN | apply below_drew1) | exact HB.out))) HC.out (by omega)).mono ?_; rintro e w2 ⟨v1, rfl, ho, hb⟩; obtain ⟨A1, c1, e1_⟩ := Kd.R_slice ho; subst e1_; have HO1 := Aside0.mk (Ow_lower (B' := w.heap.size) ho (below_size (by repeat (first | (with_reducible first | exact HB.out | apply below_alloc | apply pw_below_drewN | apply below_drew1) | exact HB.out)))); have n0_ := Aside0.mk (below_step (by repeat (first | (with_reducible first | exact HB.out | apply below_alloc | apply pw_below_drewN | apply below_drew1) | exact HB.out)) hb); clear HB hb ho; have HB := n0_; clear n0_; have hvc1 := HVC.out.below HB.out; have hvf1 := HVF.out.below HB.out; have hcc1 := cell_of_one hvc1; have hcf1 := free_of_one hvc1; have hfc1 := cell_of_one hvf1; have hff1 := free_of_one hvf1; clear hvc1 hvf1))
          repeat (go_quiet (fail); try go_wp2_with (first | (go_at_call 34; refine (ruWhole_calls _ c l _ (Kd.C_below HR.out (by repeat (first | (with_reducible first | exact HB.out | apply below_alloc | apply pw_below_drewN | apply below_drew1) | exact HB.out))) HC.out HRU.out).mono ?_; rw [show tf (Whole (times l)) = _ from HQS.out]; rintro e w1 ⟨rfl, hb⟩; have n0_ := Aside0.mk (below_step (by repeat (first | (with_reducible first | exact HB.out | apply below_alloc | apply pw_below_drewN | apply below_drew1) | exact HB.out)) hb); clear HB hb; have HB := n0_; clear n0_; have hvc1 := HVC.out.below HB.out; have hvf1 := HVF.out.below HB.out; have hcc1 := cell_of_one hvc1; have hcf1 := free_of_one hvc1; have hfc1 := cell_of_one hvf1; have hff1 := free_of_one hvf1; clear hvc1 hvf1) | (go_at_call 35; refine (l1Own_calls _ c l _ (Kd.C_below HR.out (by repeat (first | (with_reducible first | exact HB.out | apply below_alloc | apply pw_below_drewN | apply below_drew1) | exact HB.out))) HC.out (by omega)).mono ?_; rintro e w2 ⟨v1, rfl, ho, hb⟩; obtain ⟨A1, c1, e1_⟩ := Kd.R_slice ho; subst e1_; have HO1 := Aside0.mk (Ow_lower (B' := w.heap.size) ho (below_size (by repeat (first | (with_reducible first | exact HB.out | apply below_alloc | apply pw_below_drewN | apply below_drew1) | exact HB.out)))); have n0_ := Aside0.mk (below_step (by repeat (first | (with_reducible first | exact HB.out | apply below_alloc | apply pw_below_drewN | apply below_drew1) | exact HB.out)) hb); clear HB hb ho; have HB := n0_; clear n0_; have hvc1 := HVC.out.below HB.out; have hvf1 := HVF.out.below HB.out; have hcc1 := cell_of_one hvc1; have hcf1 := free_of_one hvc1; have hfc1 := cell_of_one hvf1; have hff1 := free_of_one hvf1; clear hvc1 hvf1)))
          refine bodyPost_ret (results_none (by rfl) _ _ _) rfl ⟨rfl, ?_, ((Chg.of_below HB.out).put (fun _ => .inr rfl) 0 _).put (fun _ => .inl rfl) 0 _⟩
          refine ⟨((HVC.out.below HB.out).far HNE.out 0 _).put _, _, ((HVF.out.below HB.out).put _).far HNE.out.symm 0 _, ?_⟩
          exact Kd.R_far (Kd.R_far (Ow_re (ok := fun k => k ≠ bc ∧ k ≠ bf) (Ow_lower HO1.out HBW.out) (fun k hk => by have := Kd.R_base HO1.out k hk; omega)) (fun k hk => hk.2) _) (fun k hk => hk.1) _
        · have h0i : ((cnt : Int) == 0) = false := beq_eq_false_iff_ne.mpr (by omega)
          have HF := Aside0.mk (show List.foldl nextLook (cnt, fs) [l] = (cnt + 1, fs) by show (cnt + 1, if cnt = 0 then l else fs) = _; rw [if_neg hc0])
          rw [HF.out]
          go_enter Try.func29, Try.ntmps29
          go_wp2_with ((go_at_call 34; refine (ruWhole_calls _ c l _ (Kd.C_below HR.out (by repeat (first | (with_reducible first | exact HB.out | apply below_alloc | apply pw_below_drewN | apply below_drew1) | exact HB.out))) HC.out HRU.out).mono ?_; rw [show tf (Whole (times l)) = _ from HQS.out]; rintro e w1 ⟨rfl, hb⟩; have n0_ := Aside0.mk (below_step (by repeat (first | (with_reducible first | exact HB.out | apply below_alloc | apply pw_below_drewN | apply below_drew1) | exact HB.out)) hb); clear HB hb; have HB := n0_; clear n0_; have hvc1 := HVC.out.below HB.out; have hvf1 := HVF.out.below HB.out; have hcc1 := cell_of_one hvc1; have hcf1 := free_of_one hvc1; have hfc1 := cell_of_one hvf1; have hff1 := free_of_one hvf1; clear hvc1 hvf1))
          repeat (go_quiet (fail); try go_wp2_with ((go_at_call 34; refine (ruWhole_calls _ c l _ (Kd.C_below HR.out (by repeat (first | (with_reducible first | exact HB.out | apply below_alloc | apply pw_below_drewN | apply below_drew1) | exact HB.out))) HC.out HRU.out).mono ?_; rw [show tf (Whole (times l)) = _ from HQS.out]; rintro e w1 ⟨rfl, hb⟩; have n0_ := Aside0.mk (below_step (by repeat (first | (with_reducible first | exact HB.out | apply below_alloc | apply pw_below_drewN | apply below_drew1) | exact HB.out)) hb); clear HB hb; have HB := n0_; clear n0_; have hvc1 := HVC.out.below HB.out; have hvf1 := HVF.out.below HB.out; have hcc1 := cell_of_one hvc1; have hcf1 := free_of_one hvc1; have hfc1 := cell_of_one hvf1; have hff1 := free_of_one hvf1; clear hvc1 hvf1)))
          refine bodyPost_ret (results_none (by rfl) _ _ _) rfl ⟨rfl, ?_, (Chg.of_below HB.out).put (fun _ => .inl rfl) 0 _⟩
          exact ⟨(HVC.out.below HB.out).put _, _, (HVF.out.below HB.out).far HNE.out.symm 0 _, Kd.R_far (Kd.R_below HO0.out HB.out) (fun k hk => hk.1) _⟩
      · have HQS := Aside0.mk (show qs true l = false by simpa using hqs)
        have hSP2 : spL true L 0 l = [] := by rw [hSP, if_neg (fun h => hqs h.2)]
        rw [hSP2]
        clear hSP hSP2
        (go_enter Try.func29, Try.ntmps29; (go_wp2_with ((go_at_call 34; refine (ruWhole_calls _ c l _ (Kd.C_below HR.out (by repeat (first | (with_reducible first | exact HB.out | apply below_alloc | apply pw_below_drewN | apply below_drew1) | exact HB.out))) HC.out HRU.out).mono ?_; rw [show tf (Whole (times l)) = _ from HQS.out]; rintro e w1 ⟨rfl, hb⟩; have n0_ := Aside0.mk (below_step (by repeat (first | (with_reducible first | exact HB.out | apply below_alloc | apply pw_below_drewN | apply below_drew1) | exact HB.out)) hb); clear HB hb; have HB := n0_; clear n0_; have hvc1 := HVC.out.below HB.out; have hvf1 := HVF.out.below HB.out; have hcc1 := cell_of_one hvc1; have hcf1 := free_of_one hvc1; have hfc1 := cell_of_one hvf1; have hff1 := free_of_one hvf1; clear hvc1 hvf1))); (repeat (go_quiet (fail); try go_wp2_with ((go_at_call 34; refine (ruWhole_calls _ c l _ (Kd.C_below HR.out (by repeat (first | (with_reducible first | exact HB.out | apply below_alloc | apply pw_below_drewN | apply below_drew1) | exact HB.out))) HC.out HRU.out).mono ?_; rw [show tf (Whole (times l)) = _ from HQS.out]; rintro e w1 ⟨rfl, hb⟩; have n0_ := Aside0.mk (below_step (by repeat (first | (with_reducible first | exact HB.out | apply below_alloc | apply pw_below_drewN | apply below_drew1) | exact HB.out)) hb); clear HB hb; have HB := n0_; clear n0_; have hvc1 := HVC.out.below HB.out; have hvf1 := HVF.out.below HB.out; have hcc1 := cell_of_one hvc1; have hcf1 := free_of_one hvc1; have hfc1 := cell_of_one hvf1; have hff1 := free_of_one hvf1; clear hvc1 hvf1)))); refine bodyPost_ret (results_none (by rfl) _ _ _) rfl ⟨rfl, StLook_below HST.out (by repeat (first | (with_reducible first | exact HB.out | apply below_alloc | apply pw_below_drewN | apply below_drew1) | exact HB.out)), Chg.of_below (by repeat (first | (with_reducible first | exact HB.out | apply below_alloc | apply pw_below_drewN | apply below_drew1) | exact HB.out))⟩)
    · have hatb : ((zn : Int) != (L : Int)) = true := bne_iff_ne.mpr hat
      have hSP2 : spL true L 0 l = [] := by rw [hSP, if_neg (fun h => by have := h.1; rw [HZN.out] at this; exact hat this)]
      rw [hSP2]
      clear hSP hSP2
      go_enter Try.func29, Try.ntmps29
      go_wp2_with fail
      repeat (go_quiet (fail); try go_wp2_with fail)
      refine bodyPost_ret (results_none (by rfl) _ _ _) rfl ⟨rfl, StLook_below HST.out (by repeat (first | (with_reducible first | exact HB.out | apply below_alloc | apply pw_below_drewN | apply below_drew1) | exact HB.out)), Chg.of_below (by repeat (first | (with_reducible first | exact HB.out | apply below_alloc | apply pw_below_drewN | apply below_drew1) | exact HB.out))⟩
  · obtain ⟨n1, hn1⟩ : ∃ n1, left = n1 + 1 := ⟨left - 1, by omega⟩
    have HIC := Aside0.mk (HIH.out n1 hn1)
    have HN1 := Aside0.mk hn1
    have hn1a : n1 < left := by omega
    have hn1b : left ≤ n1 + 1 := by omega
    clear hn1
    have ht0 : ((left : Int) == 0) = false := beq_eq_false_iff_ne.mpr (by omega)
    by_cases hz1 : left = 1
    · subst hz1
      obtain rfl : n1 = 0 := by omega
      have hSP : spL true L 1 l = if lst l < (L : Int) then (if ts true (l ++ [(L : Int)]) = true then spL true L 0 (l ++ [(L : Int)]) else []) else [] := rfl
      rw [HZN.out] at hSP
      by_cases hat : (zn : Int) < (L : Int)
      · rw [if_pos hat] at hSP
        have HRM := Aside0.mk (Ruler_snoc HRU.out (show l.length + 1 ≤ 12 by omega) (y := (L : Int)) (by rw [HZN.out]; exact hat) (by omega))
        have HLM := Aside0.mk (show (l ++ [(L : Int)]).length + 0 ≤ 12 by rw [List.length_append, List.length_singleton]; omega)
        have HSR := HST
        have HCH := Aside0.mk (Chg.refl (fun k => k = bc ∨ k = bf) w)
        clear hcc hcf hfc hff
        generalize hm_ : l ++ [(L : Int)] = m at hSP HRM HLM
        have HM := Aside0.mk hm_
        clear hm_
        by_cases hts : ts true m = true
        · have HTS := Aside0.mk hts
          rw [if_pos hts] at hSP
          have HSP := Aside0.mk hSP
          have HSN := Aside0.mk (show cnt + (spL true L 0 m).length ≤ 100000000000000 by have := HSZ.out; rwa [hSP] at this)
          clear hSP hts
          go_enter Try.func29, Try.ntmps29
          go_wp2_with (first | (go_at_call 35; refine (l1Own_calls _ c l _ (Kd.C_below HR.out (by repeat (first | (with_reducible first | exact HB.out | apply below_alloc | apply pw_below_drewN | apply below_drew1) | exact HB.out))) HC.out (by omega)).mono ?_; rintro e w1 ⟨v1, rfl, ho, hb⟩; have HO1 := Aside0.mk (Ow_lower ho (below_size (by repeat (first | (with_reducible first | exact HB.out | apply below_alloc | apply pw_below_drewN | apply below_drew1) | exact HB.out)))); have n0_ := Aside0.mk (below_step (by repeat (first | (with_reducible first | exact HB.out | apply below_alloc | apply pw_below_drewN | apply below_drew1) | exact HB.out)) hb); clear HB ho hb; have HB := n0_; clear n0_) | (((with_reducible refine gate_builtin (b := .append) (xs := #[.tmp 54, .tmp 56]) rfl ?_); at_builtin; refine Kd.R_append (Kd.int .i64) (w0 := w) w.heap.size rfl (.tmp 54) (.tmp 56) 25 3 (.int .i64 0) 8 rfl Try.underlying25 infoInt rfl (by decide) (by omega) v1 l ((L : Int)) [.int .i64 ((L : Int))] (fun _ => True) (fun _ => False) rfl rfl rfl (fun _ hk => hk.elim) (fun _ _ => trivial) ?aO ?aB ?aS ?aL ?_; (case aO => exact (by (with_reducible repeat (first | apply Kd.R_alloc | apply Kd.R_drewN | apply Kd.R_drew)); exact HO1.out)); (case aB => exact (by repeat (first | (with_reducible first | exact HB.out | apply below_alloc | apply pw_below_drewN | apply below_drew1) | exact HB.out))); (case aS => exact below_size (by repeat (first | (with_reducible first | exact HB.out | apply below_alloc | apply pw_below_drewN | apply below_drew1) | exact HB.out))); (case aL => have := HLN.out; omega); intro v2 w2 ho_ hb_ hg_ hat_; have n0_ := Aside0.mk hb_; have n1_ := Aside0.mk ho_; clear HB HO1; have HB := n0_; have HO1 := n1_; clear n0_ n1_ ho_ hb_ hg_ hat_); have n0_ := HO1.out; rw [HM.out] at n0_; clear HO1; have HO1 := Aside0.mk n0_; clear n0_; obtain ⟨A2, c2, e2_, hc2_, _⟩ := Ow_form HO1.out; subst e2_; have HC2 := Aside0.mk hc2_; clear hc2_) | (go_at_call 36; refine (ruDifferent_calls A2 c2 m _ (Ow_rd (by first | exact HO1.out | exact Ow_drewN HO1.out _)) HC2.out HRM.out).mono ?_; rw [show tf (Diff (times m)) = _ from HTS.out]; rintro e w3 ⟨rfl, hb⟩; have n0_ := Aside0.mk (below_step (by repeat (first | (with_reducible first | exact HB.out | apply below_alloc | apply pw_below_drewN | apply below_drew1) | exact HB.out)) hb); have n1_ := Aside0.mk (Ow_below (by first | exact HO1.out | exact Ow_drewN HO1.out _) hb); clear HB HO1 hb; have HB := n0_; have HO1 := n1_; clear n0_ n1_) | (go_at_call 29; (first | rw [show ((left : Int) - 1) = (n1 : Int) by omega] | skip); refine (HIC.out A2 c2 m _ (cnt, fs) (Ow_lower (by first | exact HO1.out | exact Ow_drewN HO1.out _) (Nat.le_trans HBW.out HCH.out.size)) (fun k hk => by have := Kd.R_base HO1.out k hk; omega) HRM.out HLM.out (StLook_below HSR.out (by repeat (first | (with_reducible first | exact HB.out | apply below_alloc | apply pw_below_drewN | apply below_drew1) | exact HB.out))) HSN.out).mono ?_; rintro e_ w4 ⟨rfl, hst, hch⟩; have HS3 := Aside0.mk hst; have HC4 := Aside0.mk ((HCH.out.below (by repeat (first | (with_reducible first | exact HB.out | apply below_alloc | apply pw_below_drewN | apply below_drew1) | exact HB.out))).trans hch (fun j _ h => h)); clear hst hch HB; have HB := Aside0.mk (Below.refl w4.heap.size w4)))
          repeat (go_quiet (fail); try go_wp2_with fail)
          refine bodyPost_ret (results_none (by rfl) _ _ _) rfl ⟨rfl, by rw [HSP.out]; exact StLook_below HS3.out (by repeat (first | (with_reducible first | exact HB.out | apply below_alloc | apply pw_below_drewN | apply below_drew1) | exact HB.out)), HC4.out.below (by repeat (first | (with_reducible first | exact HB.out | apply below_alloc | apply pw_below_drewN | apply below_drew1) | exact HB.out))⟩
        · have hSP3 := hSP
          rw [if_neg hts] at hSP3
          exact absurd rfl hts
      · rw [if_neg hat] at hSP
        rw [hSP]
        clear hSP
        go_enter Try.func29, Try.ntmps29
        go_wp2_with fail
        repeat (go_quiet (fail); try go_wp2_with fail)
        refine bodyPost_ret (results_none (by rfl) _ _ _) rfl ⟨rfl, StLook_below HST.out (by repeat (first | (with_reducible first | exact HB.out | apply below_alloc | apply pw_below_drewN | apply below_drew1) | exact HB.out)), Chg.of_below (by repeat (first | (with_reducible first | exact HB.out | apply below_alloc | apply pw_below_drewN | apply below_drew1) | exact HB.out))⟩
    · have ht1 : ((left : Int) == 1) = false := beq_eq_false_iff_ne.mpr (by omega)
      have hSP := spL_loop true L left n1 l HN1.out (by omega)
      rw [HZN.out] at hSP
      have HTOT := Aside0.mk (show (lpL (ts true) (spL true L n1) l ((L : Int) - (left : Int) + 2) ((L : Int) - (left : Int) + 2 - ((zn : Int) + 1)).toNat).foldl nextLook (cnt, fs) = (spL true L left l).foldl nextLook (cnt, fs) by rw [hSP])
      have HS0 := Aside0.mk (show cnt + (lpL (ts true) (spL true L n1) l ((L : Int) - (left : Int) + 2) ((L : Int) - (left : Int) + 2 - ((zn : Int) + 1)).toNat).length ≤ 100000000000000 by have := HSZ.out; rwa [hSP] at this)
      clear hSP
      have h2 : 2 ≤ left := by omega
      go_enter Try.func29, Try.ntmps29
      go_wp2_with fail
      repeat (go_quiet (fail); try go_wp2_with fail)
      clear hcc hcf hfc hff hxm
      go_loopg [14] (((L : Int) - (left : Int) + 2 - ((zn : Int) + 1)).toNat) (fun g v14 w' => ∃ (y : Nat) (s' : Nat × List Int), v14 = .int .i64 y ∧ Aside0 (zn + 1 ≤ y ∧ (L : Int) - (left : Int) + 2 - (y : Int) ≤ (g : Int) ∧ (0 < g → (y : Int) + (g : Int) = (L : Int) - (left : Int) + 2)) ∧ Aside0 (y ≤ 200) ∧ Aside0 ((lpL (ts true) (spL true L n1) l ((L : Int) - (left : Int) + 2) g).foldl nextLook s' = (spL true L left l).foldl nextLook (cnt, fs)) ∧ Aside0 (s'.1 + (lpL (ts true) (spL true L n1) l ((L : Int) - (left : Int) + 2) g).length ≤ 100000000000000) ∧ Aside0 (StLook bc bf B w' s') ∧ Aside0 (Chg (fun k => k = bc ∨ k = bf) w w'))
      case atStart => exact ⟨zn + 1, (cnt, fs), by go_num, ⟨by omega⟩, ⟨by omega⟩, HTOT, HS0, ⟨StLook_below HST.out (by repeat (first | (with_reducible first | exact HB.out | apply below_alloc | apply pw_below_drewN | apply below_drew1) | exact HB.out))⟩, ⟨Chg.of_below (by repeat (first | (with_reducible first | exact HB.out | apply below_alloc | apply pw_below_drewN | apply below_drew1) | exact HB.out))⟩⟩
      case round =>
        clear HB
        obtain ⟨y, s', rfl, HY, HY2, HT, HSS, HSR, HCH⟩ := hrel
        have hy2 := HY2.out
        by_cases hy : (y : Int) < (L : Int) - (left : Int) + 2
        · obtain ⟨d, hd⟩ : ∃ d, gk = d + 1 := ⟨gk - 1, by have := HY.out; omega⟩
          have HGD := Aside0.mk hd
          have hyd : (L : Int) - (left : Int) + 2 - ((d + 1 : Nat) : Int) = (y : Int) := by have := HY.out.2.2 (by omega); omega
          have hT := HT.out
          have hS := HSS.out
          rw [hd, lpL, hyd, List.foldl_append] at hT
          rw [hd, lpL, hyd, List.length_append] at hS
          have HB := Aside0.mk (Below.refl wr.heap.size wr)
          have hlt := StLook_lt HSR.out
          have HOR := Aside0.mk (Ow_chg HO.out HCH.out (fun k hk h => h.elim (HQ.out k hk).1 (HQ.out k hk).2))
          have HRQ := Aside0.mk (Ow_rd HOR.out)
          have HRM := Aside0.mk (Ruler_snoc HRU.out (show l.length + 1 ≤ 12 by omega) (y := (y : Int)) (by rw [HZN.out]; have := HY.out; omega) (by omega))
          have HLM := Aside0.mk (show (l ++ [(y : Int)]).length + n1 ≤ 12 by rw [List.length_append, List.length_singleton]; omega)
          generalize hm_ : l ++ [(y : Int)] = m at hT hS HRM HLM
          have HM := Aside0.mk hm_
          clear hm_ hd
          by_cases hts : ts true m = true
          · have HTS := Aside0.mk hts
            rw [if_pos hts] at hT hS
            have HN := Aside0.mk hT
            have HSN := Aside0.mk (show s'.1 + (spL true L n1 m).length ≤ 100000000000000 by omega)
            have HSD := Aside0.mk hS
            clear hT hS hts
            go_wp2_with (first | (go_at_call 35; refine (l1Own_calls _ c l _ (Kd.C_below HRQ.out (by repeat (first | (with_reducible first | exact HB.out | apply below_alloc | apply pw_below_drewN | apply below_drew1) | exact HB.out))) HC.out (by omega)).mono ?_; rintro e w1 ⟨v1, rfl, ho, hb⟩; have HO1 := Aside0.mk (Ow_lower ho (below_size (by repeat (first | (with_reducible first | exact HB.out | apply below_alloc | apply pw_below_drewN | apply below_drew1) | exact HB.out)))); have n0_ := Aside0.mk (below_step (by repeat (first | (with_reducible first | exact HB.out | apply below_alloc | apply pw_below_drewN | apply below_drew1) | exact HB.out)) hb); clear HB ho hb; have HB := n0_; clear n0_) | (((with_reducible refine gate_builtin (b := .append) (xs := #[.tmp 80, .tmp 82]) rfl ?_); at_builtin; refine Kd.R_append (Kd.int .i64) (w0 := wr) wr.heap.size rfl (.tmp 80) (.tmp 82) 25 3 (.int .i64 0) 8 rfl Try.underlying25 infoInt rfl (by decide) (by omega) v1 l ((y : Int)) [.int .i64 ((y : Int))] (fun _ => True) (fun _ => False) rfl rfl rfl (fun _ hk => hk.elim) (fun _ _ => trivial) ?aO ?aB ?aS ?aL ?_; (case aO => exact (by (with_reducible repeat (first | apply Kd.R_alloc | apply Kd.R_drewN | apply Kd.R_drew)); exact HO1.out)); (case aB => exact (by repeat (first | (with_reducible first | exact HB.out | apply below_alloc | apply pw_below_drewN | apply below_drew1) | exact HB.out))); (case aS => exact below_size (by repeat (first | (with_reducible first | exact HB.out | apply below_alloc | apply pw_below_drewN | apply below_drew1) | exact HB.out))); (case aL => have := HLN.out; omega); intro v2 w2 ho_ hb_ hg_ hat_; have n0_ := Aside0.mk hb_; have n1_ := Aside0.mk ho_; clear HB HO1; have HB := n0_; have HO1 := n1_; clear n0_ n1_ ho_ hb_ hg_ hat_); have n0_ := HO1.out; rw [HM.out] at n0_; clear HO1; have HO1 := Aside0.mk n0_; clear n0_; obtain ⟨A2, c2, e2_, hc2_, _⟩ := Ow_form HO1.out; subst e2_; have HC2 := Aside0.mk hc2_; clear hc2_) | (go_at_call 36; refine (ruDifferent_calls A2 c2 m _ (Ow_rd (by first | exact HO1.out | exact Ow_drewN HO1.out _)) HC2.out HRM.out).mono ?_; rw [show tf (Diff (times m)) = _ from HTS.out]; rintro e w3 ⟨rfl, hb⟩; have n0_ := Aside0.mk (below_step (by repeat (first | (with_reducible first | exact HB.out | apply below_alloc | apply pw_below_drewN | apply below_drew1) | exact HB.out)) hb); have n1_ := Aside0.mk (Ow_below (by first | exact HO1.out | exact Ow_drewN HO1.out _) hb); clear HB HO1 hb; have HB := n0_; have HO1 := n1_; clear n0_ n1_) | (go_at_call 29; (first | rw [show ((left : Int) - 1) = (n1 : Int) by omega] | skip); refine (HIC.out A2 c2 m _ s' (Ow_lower (by first | exact HO1.out | exact Ow_drewN HO1.out _) (Nat.le_trans HBW.out HCH.out.size)) (fun k hk => by have := Kd.R_base HO1.out k hk; omega) HRM.out HLM.out (StLook_below HSR.out (by repeat (first | (with_reducible first | exact HB.out | apply below_alloc | apply pw_below_drewN | apply below_drew1) | exact HB.out))) HSN.out).mono ?_; rintro e_ w4 ⟨rfl, hst, hch⟩; have HS3 := Aside0.mk hst; have HC4 := Aside0.mk ((HCH.out.below (by repeat (first | (with_reducible first | exact HB.out | apply below_alloc | apply pw_below_drewN | apply below_drew1) | exact HB.out))).trans hch (fun j _ h => h)); clear hst hch HB; have HB := Aside0.mk (Below.refl w4.heap.size w4)))
            repeat (go_quiet (fail); try go_wp2_with fail)
            go_roundg (gk - 1)
            case measure => have := HGD.out; omega
            case rel => exact ⟨y + 1, _, by go_num, ⟨by have := HY.out; have := HGD.out; omega⟩, ⟨by omega⟩, ⟨by rw [show gk - 1 = d by have := HGD.out; omega]; exact HN.out⟩, ⟨by rw [show gk - 1 = d by have := HGD.out; omega, fold_look_fst]; have := HSD.out; omega⟩, ⟨StLook_below HS3.out (by repeat (first | (with_reducible first | exact HB.out | apply below_alloc | apply pw_below_drewN | apply below_drew1) | exact HB.out))⟩, ⟨HC4.out.below (by repeat (first | (with_reducible first | exact HB.out | apply below_alloc | apply pw_below_drewN | apply below_drew1) | exact HB.out))⟩⟩
          · have HTS := Aside0.mk (show ts true m = false by simpa using hts)
            rw [if_neg hts] at hT hS
            have HN := Aside0.mk hT
            have HSD := Aside0.mk hS
            clear hT hS
            exact absurd rfl hts
        · have HF := Aside0.mk (show s' = (spL true L left l).foldl nextLook (cnt, fs) by have h := HT.out; rw [show gk = 0 by have := HY.out; omega] at h; exact h)
          have HB := Aside0.mk (Below.refl wr.heap.size wr)
          go_wp2_with fail
          repeat (go_quiet (fail); try go_wp2_with fail)
          go_end0
          exact ⟨rfl, by rw [← HF.out]; exact StLook_below HSR.out (by repeat (first | (with_reducible first | exact HB.out | apply below_alloc | apply pw_below_drewN | apply below_drew1) | exact HB.out)), HCH.out.below (by repeat (first | (with_reducible first | exact HB.out | apply below_alloc | apply pw_below_drewN | apply below_drew1) | exact HB.out))⟩
theorem lookW_calls (L left bc bf B : Nat) (hL : L ≤ 60) (hBc : B ≤ bc) (hBf : B ≤ bf) (hne : bc ≠ bf) : LookW L left bc bf B := by
  induction left with
  | zero => exact lookW_step L 0 bc bf B hL hBc hBf hne (fun n1 h => by omega)
  | succ n ih => exact lookW_step L (n + 1) bc bf B hL hBc hBf hne (fun n1 h => by rw [show n1 = n by omega]; exact ih)
end Go.Proofs.Ytmmnohdokemchaa.Own.G
