/- Difference sets: the walk of the program's differenceSets with the functions that CountDifferenceSets and firstSet hand it; circles up to 31. -/
import Derived.Test.YtikedacnijgloaaOwnVar
import Derived.Test.YtikedacnijgloaaOwnDsM
import Derived.Test.YtikedacnijgloaaOwnSh
namespace Go.Proofs.Ytikedacnijgloaa.Own.G
open Go.RowKit Go.Proofs.YtikedacnijgloaaW.PrintWords Go.Proofs.YtikedacnijgloaaW.PrintLast Go.Proofs.YtikedacnijgloaaW.PrintMore
set_option linter.unusedVariables false
def nextCount (s : Nat) (l : List Int) : Nat := s + 1
def sizeCount (s : Nat) : Nat := s
def nextFirst (s : List Int) (l : List Int) : List Int := l
def sizeFirst (s : List Int) : Nat := 0
/-- What the captured variable holds. -/
def StCount (bo B : Nat) (w : World) (Q : Nat → Prop) (s : Nat) : Prop := Var w bo 3 (.int .i64 (s : Int))
def StFirst (bo B : Nat) (w : World) (Q : Nat → Prop) (s : List Int) : Prop := ∃ v, Var w bo 25 v ∧ Kd.R (Kd.int .i64) 3 w B Q v s
theorem StCount_lt {bo B : Nat} {w : World} {Q : Nat → Prop} {s : Nat} (h : StCount bo B w Q s) : bo < w.heap.size := lt_of_block h
theorem StFirst_lt {bo B : Nat} {w : World} {Q : Nat → Prop} {s : List Int} (h : StFirst bo B w Q s) : bo < w.heap.size := by obtain ⟨v, hv, _⟩ := h; exact lt_of_block hv
theorem StCount_mono {bo B : Nat} {w : World} {Q Q' : Nat → Prop} {s : Nat} (h : StCount bo B w Q s) (hq : ∀ k, Q k → Q' k) : StCount bo B w Q' s := h
theorem StFirst_mono {bo B : Nat} {w : World} {Q Q' : Nat → Prop} {s : List Int} (h : StFirst bo B w Q s) (hq : ∀ k, Q k → Q' k) : StFirst bo B w Q' s := h.imp fun v hv => ⟨hv.1, Kd.R_mono hv.2 hq⟩
theorem StCount_old {bo B : Nat} {w w1 : World} {Q : Nat → Prop} {s : Nat} (h : StCount bo B w Q s) (hb : Below w.heap.size w w1) : StCount bo B w1 (fun k => Q k ∧ k < w.heap.size) s := Var.below h hb
theorem StFirst_old {bo B : Nat} {w w1 : World} {Q : Nat → Prop} {s : List Int} (h : StFirst bo B w Q s) (hb : Below w.heap.size w w1) : StFirst bo B w1 (fun k => Q k ∧ k < w.heap.size) s :=
  h.imp fun v hv => ⟨hv.1.below hb, Kd.R_mono (Kd.R_below (Kd.R_bound hv.2) hb) (fun k hk => ⟨hk.1, hk.2.2.1⟩)⟩
theorem StCount_drewN {bo B : Nat} {w : World} {Q : Nat → Prop} {s : Nat} (h : StCount bo B w Q s) (n : Nat) : StCount bo B (w.drewN n) Q s := h
theorem StFirst_drewN {bo B : Nat} {w : World} {Q : Nat → Prop} {s : List Int} (h : StFirst bo B w Q s) (n : Nat) : StFirst bo B (w.drewN n) Q s := h.imp fun v hv => ⟨hv.1, Kd.R_drewN hv.2 n⟩
theorem nextCount_size (s : Nat) (l : List Int) : sizeCount (nextCount s l) ≤ sizeCount s + 1 := Nat.le_refl _
theorem nextFirst_size (s : List Int) (l : List Int) : sizeFirst (nextFirst s l) ≤ sizeFirst s + 0 := by simp [sizeFirst]
set_option maxHeartbeats 1600000 in
theorem callCount (bo B : Nat) (u : Value) (l : List Int) (w : World) (Q : Nat → Prop) (s : Nat) (hp : Ow w B u l) (hq : ∀ k, u.ownBlock = some k → ¬ Q k ∧ k ≠ bo) (hb : ¬ Q bo) (hs : StCount bo B w Q s) (hB : B ≤ bo) (hx : sizeCount s + 1 ≤ 1000000000) :
    Calls Try.prog 20 #[u, .pointer (some ⟨bo, 0, none⟩)] w fun e w' => e = .returned (.bool false) ∧ StCount bo B w' (fun k => Q k ∨ u.ownBlock = some k ∨ w.heap.size ≤ k) (nextCount s l) ∧ Chg (fun k => k = bo ∨ Q k) w w' := by
  have hv : Var w bo 3 (.int .i64 (s : Int)) := hs
  obtain ⟨Au, cu, rfl⟩ := Kd.R_slice hp
  have hc := cell_of_one hv
  have hf := free_of_one hv
  have HV := Aside0.mk hv
  have hx2 : s + 1 ≤ 1000000000 := hx
  clear hv hs hp hq hb hx
  go_enter Try.func20, Try.ntmps20
  go_wp2
  go_ret
  refine ⟨rfl, Var.put HV.out _, (Chg.refl _ w).put (fun _ => .inl rfl) 0 _⟩
set_option maxHeartbeats 1600000 in
theorem callFirst (bo B : Nat) (u : Value) (l : List Int) (w : World) (Q : Nat → Prop) (s : List Int) (hp : Ow w B u l) (hq : ∀ k, u.ownBlock = some k → ¬ Q k ∧ k ≠ bo) (hb : ¬ Q bo) (hs : StFirst bo B w Q s) (hB : B ≤ bo) :
    Calls Try.prog 29 #[u, .pointer (some ⟨bo, 0, none⟩)] w fun e w' => e = .returned (.bool true) ∧ StFirst bo B w' (fun k => Q k ∨ u.ownBlock = some k ∨ w.heap.size ≤ k) (nextFirst s l) ∧ Chg (fun k => k = bo ∨ Q k) w w' := by
  obtain ⟨v, hv, ho⟩ := hs
  obtain ⟨Av, cv, rfl⟩ := Kd.R_slice ho
  obtain ⟨Au, cu, rfl⟩ := Kd.R_slice hp
  have hc := cell_of_one hv
  have hf := free_of_one hv
  have HV := Aside0.mk hv
  have HP := Aside0.mk hp
  have HQ := Aside0.mk hq
  clear hv ho hp hq hb
  go_enter Try.func29, Try.ntmps29
  go_wp2
  go_ret
  refine ⟨rfl, ⟨_, Var.put HV.out _, ?_⟩, (Chg.refl _ w).put (fun _ => .inl rfl) 0 _⟩
  exact Kd.R_far (Ow_re (ok := fun k => (.slice Au l.length cu : Value).ownBlock = some k) HP.out (fun k hk => hk)) (fun k hk => (HQ.out k hk).2) _ |> fun h => Kd.R_mono h (fun k hk => .inr (.inl hk))
theorem Up_pts {v : Int} {l : List Int} (h : Up v l) (hv : 2 ≤ v ∧ v ≤ 31) (hl : l.length ≤ 8) : Pts v l := ⟨hv, hl, fun j hj => by have := Up_rd h hj; omega⟩
noncomputable abbrev goCount (v : Nat) (f : Nat) (l : List Int) (s : Nat) : Nat × Bool := (dsS v).go nextCount false f l s
/-- What differenceSets does, with f points left. -/
def DsCount (v k f bo B : Nat) : Prop := ∀ (u : Value) (l : List Int) (w : World) (Q : Nat → Prop) (s : Nat), Ow w B u l → (∀ k, u.ownBlock = some k → ¬ Q k ∧ k ≠ bo) → ¬ Q bo → StCount bo B w Q s → 1 ≤ l.length → l.length + f = k → sizeCount s + 1 * v ^ f ≤ 1000000000 → Up (v : Int) l →
  Calls Try.prog 19 #[.int .i64 (v : Int), .int .i64 (k : Int), u, .func (.func 20) #[] #[.pointer (some ⟨bo, 0, none⟩)]] w fun e w' => e = .returned (.bool (goCount v f l s).2) ∧ StCount bo B w' (fun k => Q k ∨ u.ownBlock = some k ∨ w.heap.size ≤ k) (goCount v f l s).1 ∧ Chg (fun k => k = bo ∨ Q k) w w'
set_option maxRecDepth 8000 in
set_option maxHeartbeats 6400000 in
theorem dsCount_step (v k f bo B : Nat) (hv : 2 ≤ v ∧ v ≤ 31) (hk : k ≤ 8) (hB : B ≤ bo) (hih : ∀ f', f = f' + 1 → DsCount v k f' bo B) : DsCount v k f bo B := by
  intro u l w Q s ho hq hb hst hl1 hlf hsz hup
  obtain ⟨A, c, rfl, hcap, hrd⟩ := Ow_form ho
  have hbo : bo < w.heap.size := StCount_lt hst
  have HIH := Aside0.mk hih
  have HO := Aside0.mk ho
  have HQ := Aside0.mk hq
  have HNB := Aside0.mk hb
  have HST := Aside0.mk hst
  have HR := Aside0.mk hrd
  have HC := Aside0.mk hcap
  have HU := Aside0.mk hup
  have HSZ := Aside0.mk hsz
  have HBW := Aside0.mk (show B ≤ w.heap.size by omega)
  have hl9 : l.length ≤ 8 := by omega
  clear hih ho hq hb hst hcap hrd hsz hup
  have HB := Aside0.mk (Below.refl w.heap.size w)
  by_cases hz : l.length = k
  · obtain rfl : f = 0 := by omega
    have ht : ((l.length : Int) == (k : Int)) = true := beq_iff_eq.mpr (by omega)
    have HX := Aside0.mk (show sizeCount s + 1 * 1 ≤ 1000000000 by have := HSZ.out; rwa [Nat.pow_zero] at this)
    have HPTS := Aside0.mk (Up_pts HU.out (by omega) hl9)
    have HDN := Aside0.mk (show (counted (v : Int) l).length ≤ 1048576 by rw [counted_length]; omega)
    have HD2 := Aside0.mk (show 2 ≤ (counted (v : Int) l).length by rw [counted_length]; omega)
    have hF0 : goCount v 0 l s = if tf (0 < lamOf (counted (v : Int) l)) = true then (nextCount s l, false) else (s, false) := rfl
    generalize hcd : counted (v : Int) l = dd at HDN HD2 hF0
    have HCD := Aside0.mk hcd
    generalize hlm : lamOf dd = lm at hF0
    have HLM := Aside0.mk hlm
    clear hz hlf hcd hlm
    by_cases hq0 : 0 < lm
    · have HF := Aside0.mk (show goCount v 0 l s = (nextCount s l, false) by rw [hF0, if_pos (tf_pos hq0)])
      clear hF0
      go_enter Try.func19, Try.ntmps19
      go_wp2_with (first | (go_at_call 27; refine (counts_calls (v : Int) A c l _ (Kd.C_below HR.out (by repeat (first | (with_reducible first | exact HB.out | apply below_alloc | apply pw_below_drewN | apply below_drew1) | exact HB.out))) HC.out HPTS.out hl1).mono ?_; rw [HCD.out]; rintro e w1 ⟨v1, rfl, ho, hb⟩; have HO1 := Aside0.mk (Ow_lower ho (below_size (by repeat (first | (with_reducible first | exact HB.out | apply below_alloc | apply pw_below_drewN | apply below_drew1) | exact HB.out)))); have n0_ := Aside0.mk (below_step (by repeat (first | (with_reducible first | exact HB.out | apply below_alloc | apply pw_below_drewN | apply below_drew1) | exact HB.out)) hb); clear HB ho hb; have HB := n0_; clear n0_; obtain ⟨A1, c1, e1_, hc1_, _⟩ := Ow_form HO1.out; subst e1_; have HC1 := Aside0.mk hc1_; clear hc1_) | (go_at_call 26; refine (even_calls A1 c1 dd _ (Ow_rd (by first | exact HO1.out | exact Ow_drewN HO1.out _)) HC1.out HD2.out HDN.out).mono ?_; rw [HLM.out]; rintro e w' ⟨rfl, ⟨nd3, rfl⟩⟩) | (go_at_call 20; refine (callCount bo B _ l _ (fun k => Q k ∧ k < w.heap.size) s (Ow_below HO.out (by repeat (first | (with_reducible first | exact HB.out | apply below_alloc | apply pw_below_drewN | apply below_drew1) | exact HB.out))) (fun k hk => ⟨fun h => (HQ.out k hk).1 h.1, (HQ.out k hk).2⟩) (fun h => HNB.out h.1) (StCount_old HST.out (by repeat (first | (with_reducible first | exact HB.out | apply below_alloc | apply pw_below_drewN | apply below_drew1) | exact HB.out))) hB HX.out).mono ?_; rintro e w4 ⟨rfl, hst, hch⟩; have HST1 := Aside0.mk (StCount_mono (Q' := fun k => Q k ∨ (.slice A l.length c : Value).ownBlock = some k ∨ w.heap.size ≤ k) hst (fun k hk => by rcases hk with h | h | h; exact .inl h.1; exact .inr (.inl h); exact .inr (.inr (Nat.le_trans (below_size (by repeat (first | (with_reducible first | exact HB.out | apply below_alloc | apply pw_below_drewN | apply below_drew1) | exact HB.out))) h)))); have HC4 := Aside0.mk ((Chg.of_below (ok := fun k => k = bo ∨ Q k) (by repeat (first | (with_reducible first | exact HB.out | apply below_alloc | apply pw_below_drewN | apply below_drew1) | exact HB.out))).trans hch (fun j hj h => by rcases h with h | h; exact .inl h; exact .inr h.1)); clear hst hch))
      repeat (go_quiet (fail); try go_wp2)
      go_ret
      exact ⟨by rw [HF.out]; rfl, by rw [HF.out]; exact HST1.out, HC4.out⟩
    · have HF := Aside0.mk (show goCount v 0 l s = (s, false) by rw [hF0, if_neg (by rw [tf_neg hq0]; decide)])
      clear hF0
      go_enter Try.func19, Try.ntmps19
      go_wp2_with (first | (go_at_call 27; refine (counts_calls (v : Int) A c l _ (Kd.C_below HR.out (by repeat (first | (with_reducible first | exact HB.out | apply below_alloc | apply pw_below_drewN | apply below_drew1) | exact HB.out))) HC.out HPTS.out hl1).mono ?_; rw [HCD.out]; rintro e w1 ⟨v1, rfl, ho, hb⟩; have HO1 := Aside0.mk (Ow_lower ho (below_size (by repeat (first | (with_reducible first | exact HB.out | apply below_alloc | apply pw_below_drewN | apply below_drew1) | exact HB.out)))); have n0_ := Aside0.mk (below_step (by repeat (first | (with_reducible first | exact HB.out | apply below_alloc | apply pw_below_drewN | apply below_drew1) | exact HB.out)) hb); clear HB ho hb; have HB := n0_; clear n0_; obtain ⟨A1, c1, e1_, hc1_, _⟩ := Ow_form HO1.out; subst e1_; have HC1 := Aside0.mk hc1_; clear hc1_) | (go_at_call 26; refine (even_calls A1 c1 dd _ (Ow_rd (by first | exact HO1.out | exact Ow_drewN HO1.out _)) HC1.out HD2.out HDN.out).mono ?_; rw [HLM.out]; rintro e w' ⟨rfl, ⟨nd3, rfl⟩⟩))
      repeat (go_quiet (fail); try go_wp2)
      go_ret
      exact ⟨by rw [HF.out]; rfl, by rw [HF.out]; exact StCount_mono (StCount_old HST.out (by repeat (first | (with_reducible first | exact HB.out | apply below_alloc | apply pw_below_drewN | apply below_drew1) | exact HB.out))) (fun k hk => .inl hk.1), Chg.of_below (by repeat (first | (with_reducible first | exact HB.out | apply below_alloc | apply pw_below_drewN | apply below_drew1) | exact HB.out))⟩
  · obtain ⟨f', rfl⟩ : ∃ f', f = f' + 1 := ⟨f - 1, by omega⟩
    have HIC := Aside0.mk (HIH.out f' rfl)
    have ht : ((l.length : Int) == (k : Int)) = false := beq_eq_false_iff_ne.mpr (by omega)
    obtain ⟨ad, hA, _⟩ := at_first HR.out (by omega)
    subst hA
    obtain ⟨mm, hmm⟩ : ∃ mm : Int, IntKind.i64.wrap ((l.length : Int) - 1) = mm := ⟨_, rfl⟩
    have HMM := Aside0.mk (show mm = (l.length : Int) - 1 by rw [← hmm, i64_w, w64 (by omega) (by omega)])
    have mm0 : 0 ≤ mm := by have := HMM.out; omega
    have mm2 : mm < (l.length : Int) := by have := HMM.out; omega
    obtain ⟨ad2, e2, hxm⟩ := Kd.at_int HR.out mm mm0 mm2
    obtain rfl : ad = ad2 := by injection e2
    clear e2
    have hlast := Up_rd HU.out (show l.length - 1 < l.length by omega)
    rw [show ((l.length - 1 : Nat) : Int) = mm by have := HMM.out; omega] at hlast
    obtain ⟨zn, hzn⟩ : ∃ zn : Nat, rd l mm = (zn : Int) := ⟨(rd l mm).toNat, by omega⟩
    rw [hzn] at hxm hlast
    have HST0 := Aside0.mk (show (dsS v).st l = v - (zn + 1) by show v - (rd l ((l.length : Int) - 1) + 1).toNat = _; rw [← HMM.out, hzn]; omega)
    have HFF := Aside0.mk (show (dsS v).goL (goCount v f') l (v - (zn + 1)) s = goCount v (f' + 1) l s by rw [← HST0.out]; rfl)
    have hpw : 1 * v ^ (f' + 1) = v * (1 * v ^ f') := Seek.pow_step _ _ _
    have HS0 := Aside0.mk (show sizeCount s + (v - (zn + 1)) * (1 * v ^ f') ≤ 1000000000 by have := HSZ.out; rw [hpw] at this; exact Nat.le_trans (Nat.add_le_add_left (Nat.mul_le_mul_right _ (Nat.sub_le _ _)) _) this)
    clear hpw hzn
    go_enter Try.func19, Try.ntmps19
    go_wp2_with fail
    repeat (go_quiet (fail); try go_wp2_with fail)
    clear hxm
    go_loopg [9] (v - (zn + 1)) (fun g v9 w' => ∃ (y : Nat) (s' : Nat), v9 = .int .i64 y ∧ Aside0 (zn + 1 ≤ y ∧ y + g = v) ∧ Aside0 ((dsS v).goL (goCount v f') l g s' = goCount v (f' + 1) l s) ∧ Aside0 (sizeCount s' + g * (1 * v ^ f') ≤ 1000000000) ∧ Aside0 (StCount bo B w' (fun k => Q k ∨ w.heap.size ≤ k) s') ∧ Aside0 (Chg (fun k => k = bo ∨ Q k) w w'))
    case atStart => exact ⟨zn + 1, s, by go_num, ⟨by omega⟩, HFF, HS0, ⟨StCount_mono (by first | exact HST.out | exact (StCount_drewN HST.out _)) (fun k hk => .inl hk)⟩, ⟨(Chg.refl _ w).below (by first | exact Below.refl _ _ | exact pw_below_drewN (Below.refl _ _) _)⟩⟩
    case round =>
      obtain ⟨y, s', rfl, HY, HT, HSS, HSR, HCH⟩ := hrel
      by_cases hy : y < v
      · obtain ⟨d, hd⟩ : ∃ d, gk = d + 1 := ⟨gk - 1, by have := HY.out; omega⟩
        have HGD := Aside0.mk hd
        have HSD := Aside0.mk (show sizeCount s' + (d * (1 * v ^ f') + 1 * v ^ f') ≤ 1000000000 by have := HSS.out; rwa [hd, Nat.succ_mul] at this)
        have hT := HT.out
        rw [hd, Seek.goL, show (dsS v).y (d + 1) = (y : Int) from (show ((v - (d + 1) : Nat) : Int) = (y : Int) by have := HY.out; omega), show (dsS v).t l (y : Int) = true from rfl, if_pos rfl] at hT
        clear hd
        have HOR := Aside0.mk (Ow_chg HO.out HCH.out (fun k hk h => h.elim (HQ.out k hk).2 (HQ.out k hk).1))
        have HRQ := Aside0.mk (Ow_rd HOR.out)
        have HB := Aside0.mk (Below.refl wr.heap.size wr)
        have HBOR := Aside0.mk (show bo < wr.heap.size from Nat.lt_of_lt_of_le hbo HCH.out.size)
        have HLN := Aside0.mk (show l.length ≤ 1000000 by omega)
        have HL1 := Aside0.mk (show 1 ≤ (l ++ [(y : Int)]).length by rw [List.length_append, List.length_singleton]; omega)
        have HL2 := Aside0.mk (show (l ++ [(y : Int)]).length + f' = k by rw [List.length_append, List.length_singleton]; omega)
        have HUQ := Aside0.mk (Up_snoc HU.out hl1 (show (dsS v).n - (dsS v).st l ≤ y by rw [HST0.out]; have := HY.out; show v - _ ≤ y; omega) hy)
        have HSN := Aside0.mk (show sizeCount s' + 1 * v ^ f' ≤ 1000000000 by have := HSD.out; omega)
        have HQ2 := Aside0.mk (fun (W : World) (hW : Below wr.heap.size wr W) => StCount_old HSR.out hW)
        have HNB2 := Aside0.mk (show ¬ ((Q bo ∨ w.heap.size ≤ bo) ∧ bo < wr.heap.size) from fun h => h.1.elim HNB.out (fun h => by omega))
        have HTR := Aside0.mk (show ∀ j, j < w.heap.size → (j = bo ∨ ((Q j ∨ w.heap.size ≤ j) ∧ j < wr.heap.size)) → (j = bo ∨ Q j) from fun j hj h => by
          rcases h with h | h
          · exact .inl h
          · rcases h.1 with h | h
            · exact .inr h
            · omega)
        generalize hm_ : l ++ [(y : Int)] = m at hT HL1 HL2 HUQ
        have HM := Aside0.mk hm_
        have HT4 := Aside0.mk hT
        clear hm_ hT
        have HSG := Aside0.mk (show sizeCount (goCount v f' m s').1 ≤ sizeCount s' + 1 * v ^ f' from (dsS v).go_size nextCount_size (dsS_st v) f' _ _)
        by_cases hg : (goCount v f' m s').2 = true
        · have HG := Aside0.mk hg
          have HF := Aside0.mk (show goCount v (f' + 1) l s = ((goCount v f' m s').1, true) by rw [← HT4.out, if_pos hg])
          clear hg
          go_wp2_with (first | (go_at_call 28; refine (Clone_calls _ _ l _ (Kd.C_below HRQ.out (by repeat (first | (with_reducible first | exact HB.out | apply below_alloc | apply pw_below_drewN | apply below_drew1) | exact HB.out))) HC.out (by omega)).mono ?_; rintro e w1 ⟨v1, rfl, ho, hb⟩; have HO1 := Aside0.mk (Ow_lower ho (below_size (by repeat (first | (with_reducible first | exact HB.out | apply below_alloc | apply pw_below_drewN | apply below_drew1) | exact HB.out)))); have n0_ := Aside0.mk (below_step (by repeat (first | (with_reducible first | exact HB.out | apply below_alloc | apply pw_below_drewN | apply below_drew1) | exact HB.out)) hb); clear HB ho hb; have HB := n0_; clear n0_) | (((with_reducible refine gate_builtin (b := .append) (xs := #[.tmp 39, .tmp 41]) rfl ?_); at_builtin; refine Kd.R_append (Kd.int .i64) (w0 := wr) wr.heap.size rfl (.tmp 39) (.tmp 41) 25 3 (.int .i64 0) 8 rfl Try.underlying25 infoInt rfl (by decide) (by omega) v1 l ((y : Int)) [.int .i64 ((y : Int))] (fun _ => True) (fun _ => False) rfl rfl rfl (fun _ hk => hk.elim) (fun _ _ => trivial) ?aO ?aB ?aS ?aL ?_; (case aO => exact (by (with_reducible repeat (first | apply Kd.R_alloc | apply Kd.R_drewN | apply Kd.R_drew)); exact HO1.out)); (case aB => exact (by repeat (first | (with_reducible first | exact HB.out | apply below_alloc | apply pw_below_drewN | apply below_drew1) | exact HB.out))); (case aS => exact below_size (by repeat (first | (with_reducible first | exact HB.out | apply below_alloc | apply pw_below_drewN | apply below_drew1) | exact HB.out))); (case aL => have := HLN.out; omega); intro v2 w2 ho_ hb_ hg_ hat_; have n0_ := Aside0.mk hb_; have n1_ := Aside0.mk ho_; clear HB HO1; have HB := n0_; have HO1 := n1_; clear n0_ n1_ ho_ hb_ hg_ hat_); have n0_ := HO1.out; rw [HM.out] at n0_; clear HO1; have HO1 := Aside0.mk n0_; clear n0_) | (go_at_call 19; refine (HIC.out v2 m _ (fun k => (Q k ∨ w.heap.size ≤ k) ∧ k < wr.heap.size) s' (Ow_lower (by first | exact HO1.out | exact Ow_drewN HO1.out _) (Nat.le_trans HBW.out HCH.out.size)) (fun k hk => ⟨fun h => absurd h.2 (by have := Kd.R_base HO1.out k hk; omega), by have := Kd.R_base HO1.out k hk; have := HBOR.out; omega⟩) HNB2.out (HQ2.out _ (by repeat (first | (with_reducible first | exact HB.out | apply below_alloc | apply pw_below_drewN | apply below_drew1) | exact HB.out))) HL1.out HL2.out HSN.out HUQ.out).mono ?_; rw [HG.out]; rintro e w4 ⟨rfl, hst, hch⟩; have HS3 := Aside0.mk (StCount_mono (Q' := fun k => Q k ∨ w.heap.size ≤ k) hst (fun k hk => by rcases hk with h | h | h; exact h.1; exact .inr (by have := Kd.R_base HO1.out k h; have := HCH.out.size; omega); exact .inr (Nat.le_trans (Nat.le_trans HCH.out.size (below_size (by repeat (first | (with_reducible first | exact HB.out | apply below_alloc | apply pw_below_drewN | apply below_drew1) | exact HB.out)))) h))); have HC4 := Aside0.mk ((HCH.out.below (by repeat (first | (with_reducible first | exact HB.out | apply below_alloc | apply pw_below_drewN | apply below_drew1) | exact HB.out))).trans hch HTR.out); clear hst hch))
          repeat (go_quiet (fail); try go_wp2)
          go_ret
          exact ⟨by rw [HF.out]; rfl, by rw [HF.out]; exact StCount_mono (by first | exact HS3.out | exact (StCount_drewN HS3.out _)) (fun k hk => by rcases hk with h | h; exact .inl h; exact .inr (.inr h)), HC4.out.below (by first | exact Below.refl _ _ | exact pw_below_drewN (Below.refl _ _) _)⟩
        · have HG := Aside0.mk (show (goCount v f' m s').2 = false by simpa using hg)
          have HN := Aside0.mk (show (dsS v).goL (goCount v f') l d (goCount v f' m s').1 = goCount v (f' + 1) l s by have := HT4.out; rwa [if_neg hg] at this)
          clear hg
          go_wp2_with (first | (go_at_call 28; refine (Clone_calls _ _ l _ (Kd.C_below HRQ.out (by repeat (first | (with_reducible first | exact HB.out | apply below_alloc | apply pw_below_drewN | apply below_drew1) | exact HB.out))) HC.out (by omega)).mono ?_; rintro e w1 ⟨v1, rfl, ho, hb⟩; have HO1 := Aside0.mk (Ow_lower ho (below_size (by repeat (first | (with_reducible first | exact HB.out | apply below_alloc | apply pw_below_drewN | apply below_drew1) | exact HB.out)))); have n0_ := Aside0.mk (below_step (by repeat (first | (with_reducible first | exact HB.out | apply below_alloc | apply pw_below_drewN | apply below_drew1) | exact HB.out)) hb); clear HB ho hb; have HB := n0_; clear n0_) | (((with_reducible refine gate_builtin (b := .append) (xs := #[.tmp 39, .tmp 41]) rfl ?_); at_builtin; refine Kd.R_append (Kd.int .i64) (w0 := wr) wr.heap.size rfl (.tmp 39) (.tmp 41) 25 3 (.int .i64 0) 8 rfl Try.underlying25 infoInt rfl (by decide) (by omega) v1 l ((y : Int)) [.int .i64 ((y : Int))] (fun _ => True) (fun _ => False) rfl rfl rfl (fun _ hk => hk.elim) (fun _ _ => trivial) ?aO ?aB ?aS ?aL ?_; (case aO => exact (by (with_reducible repeat (first | apply Kd.R_alloc | apply Kd.R_drewN | apply Kd.R_drew)); exact HO1.out)); (case aB => exact (by repeat (first | (with_reducible first | exact HB.out | apply below_alloc | apply pw_below_drewN | apply below_drew1) | exact HB.out))); (case aS => exact below_size (by repeat (first | (with_reducible first | exact HB.out | apply below_alloc | apply pw_below_drewN | apply below_drew1) | exact HB.out))); (case aL => have := HLN.out; omega); intro v2 w2 ho_ hb_ hg_ hat_; have n0_ := Aside0.mk hb_; have n1_ := Aside0.mk ho_; clear HB HO1; have HB := n0_; have HO1 := n1_; clear n0_ n1_ ho_ hb_ hg_ hat_); have n0_ := HO1.out; rw [HM.out] at n0_; clear HO1; have HO1 := Aside0.mk n0_; clear n0_) | (go_at_call 19; refine (HIC.out v2 m _ (fun k => (Q k ∨ w.heap.size ≤ k) ∧ k < wr.heap.size) s' (Ow_lower (by first | exact HO1.out | exact Ow_drewN HO1.out _) (Nat.le_trans HBW.out HCH.out.size)) (fun k hk => ⟨fun h => absurd h.2 (by have := Kd.R_base HO1.out k hk; omega), by have := Kd.R_base HO1.out k hk; have := HBOR.out; omega⟩) HNB2.out (HQ2.out _ (by repeat (first | (with_reducible first | exact HB.out | apply below_alloc | apply pw_below_drewN | apply below_drew1) | exact HB.out))) HL1.out HL2.out HSN.out HUQ.out).mono ?_; rw [HG.out]; rintro e w4 ⟨rfl, hst, hch⟩; have HS3 := Aside0.mk (StCount_mono (Q' := fun k => Q k ∨ w.heap.size ≤ k) hst (fun k hk => by rcases hk with h | h | h; exact h.1; exact .inr (by have := Kd.R_base HO1.out k h; have := HCH.out.size; omega); exact .inr (Nat.le_trans (Nat.le_trans HCH.out.size (below_size (by repeat (first | (with_reducible first | exact HB.out | apply below_alloc | apply pw_below_drewN | apply below_drew1) | exact HB.out)))) h))); have HC4 := Aside0.mk ((HCH.out.below (by repeat (first | (with_reducible first | exact HB.out | apply below_alloc | apply pw_below_drewN | apply below_drew1) | exact HB.out))).trans hch HTR.out); clear hst hch))
          repeat (go_quiet (fail); try go_wp2)
          go_roundg (gk - 1)
          case measure => have := HY.out; omega
          case rel => exact ⟨y + 1, _, by go_num, ⟨by have := HY.out; omega⟩, ⟨by rw [show gk - 1 = d by have := HGD.out; omega]; exact HN.out⟩, ⟨by rw [show gk - 1 = d by have := HGD.out; omega]; have := HSD.out; have := HSG.out; omega⟩, ⟨by first | exact HS3.out | exact (StCount_drewN HS3.out _)⟩, ⟨HC4.out.below (by first | exact Below.refl _ _ | exact pw_below_drewN (Below.refl _ _) _)⟩⟩
      · have HF := Aside0.mk (show goCount v (f' + 1) l s = (s', false) by rw [← HT.out, show gk = 0 by have := HY.out; omega, Seek.goL])
        (go_wp2; repeat (go_quiet (fail); try go_wp2))
        go_ret
        exact ⟨by rw [HF.out]; rfl, by rw [HF.out]; exact StCount_mono (by first | exact HSR.out | exact (StCount_drewN HSR.out _)) (fun k hk => by rcases hk with h | h; exact .inl h; exact .inr (.inr h)), HCH.out.below (by first | exact Below.refl _ _ | exact pw_below_drewN (Below.refl _ _) _)⟩
theorem dsCount_calls (v k f bo B : Nat) (hv : 2 ≤ v ∧ v ≤ 31) (hk : k ≤ 8) (hB : B ≤ bo) : DsCount v k f bo B := by
  induction f with
  | zero => exact dsCount_step v k 0 bo B hv hk hB (fun f' h => by omega)
  | succ f ih => exact dsCount_step v k (f + 1) bo B hv hk hB (fun f' h => by rw [show f' = f by omega]; exact ih)
noncomputable abbrev goFirst (v : Nat) (f : Nat) (l : List Int) (s : List Int) : List Int × Bool := (dsS v).go nextFirst true f l s
/-- What differenceSets does, with f points left. -/
def DsFirst (v k f bo B : Nat) : Prop := ∀ (u : Value) (l : List Int) (w : World) (Q : Nat → Prop) (s : List Int), Ow w B u l → (∀ k, u.ownBlock = some k → ¬ Q k ∧ k ≠ bo) → ¬ Q bo → StFirst bo B w Q s → 1 ≤ l.length → l.length + f = k → sizeFirst s + 0 * v ^ f ≤ 1000000000 → Up (v : Int) l →
  Calls Try.prog 19 #[.int .i64 (v : Int), .int .i64 (k : Int), u, .func (.func 29) #[] #[.pointer (some ⟨bo, 0, none⟩)]] w fun e w' => e = .returned (.bool (goFirst v f l s).2) ∧ StFirst bo B w' (fun k => Q k ∨ u.ownBlock = some k ∨ w.heap.size ≤ k) (goFirst v f l s).1 ∧ Chg (fun k => k = bo ∨ Q k) w w'
set_option maxRecDepth 8000 in
set_option maxHeartbeats 6400000 in
theorem dsFirst_step (v k f bo B : Nat) (hv : 2 ≤ v ∧ v ≤ 31) (hk : k ≤ 8) (hB : B ≤ bo) (hih : ∀ f', f = f' + 1 → DsFirst v k f' bo B) : DsFirst v k f bo B := by
  intro u l w Q s ho hq hb hst hl1 hlf hsz hup
  obtain ⟨A, c, rfl, hcap, hrd⟩ := Ow_form ho
  have hbo : bo < w.heap.size := StFirst_lt hst
  have HIH := Aside0.mk hih
  have HO := Aside0.mk ho
  have HQ := Aside0.mk hq
  have HNB := Aside0.mk hb
  have HST := Aside0.mk hst
  have HR := Aside0.mk hrd
  have HC := Aside0.mk hcap
  have HU := Aside0.mk hup
  have HSZ := Aside0.mk hsz
  have HBW := Aside0.mk (show B ≤ w.heap.size by omega)
  have hl9 : l.length ≤ 8 := by omega
  clear hih ho hq hb hst hcap hrd hsz hup
  have HB := Aside0.mk (Below.refl w.heap.size w)
  by_cases hz : l.length = k
  · obtain rfl : f = 0 := by omega
    have ht : ((l.length : Int) == (k : Int)) = true := beq_iff_eq.mpr (by omega)
    have HX := Aside0.mk (show sizeFirst s + 0 * 1 ≤ 1000000000 by have := HSZ.out; rwa [Nat.pow_zero] at this)
    have HPTS := Aside0.mk (Up_pts HU.out (by omega) hl9)
    have HDN := Aside0.mk (show (counted (v : Int) l).length ≤ 1048576 by rw [counted_length]; omega)
    have HD2 := Aside0.mk (show 2 ≤ (counted (v : Int) l).length by rw [counted_length]; omega)
    have hF0 : goFirst v 0 l s = if tf (0 < lamOf (counted (v : Int) l)) = true then (nextFirst s l, true) else (s, false) := rfl
    generalize hcd : counted (v : Int) l = dd at HDN HD2 hF0
    have HCD := Aside0.mk hcd
    generalize hlm : lamOf dd = lm at hF0
    have HLM := Aside0.mk hlm
    clear hz hlf hcd hlm
    by_cases hq0 : 0 < lm
    · have HF := Aside0.mk (show goFirst v 0 l s = (nextFirst s l, true) by rw [hF0, if_pos (tf_pos hq0)])
      clear hF0
      go_enter Try.func19, Try.ntmps19
      go_wp2_with (first | (go_at_call 27; refine (counts_calls (v : Int) A c l _ (Kd.C_below HR.out (by repeat (first | (with_reducible first | exact HB.out | apply below_alloc | apply pw_below_drewN | apply below_drew1) | exact HB.out))) HC.out HPTS.out hl1).mono ?_; rw [HCD.out]; rintro e w1 ⟨v1, rfl, ho, hb⟩; have HO1 := Aside0.mk (Ow_lower ho (below_size (by repeat (first | (with_reducible first | exact HB.out | apply below_alloc | apply pw_below_drewN | apply below_drew1) | exact HB.out)))); have n0_ := Aside0.mk (below_step (by repeat (first | (with_reducible first | exact HB.out | apply below_alloc | apply pw_below_drewN | apply below_drew1) | exact HB.out)) hb); clear HB ho hb; have HB := n0_; clear n0_; obtain ⟨A1, c1, e1_, hc1_, _⟩ := Ow_form HO1.out; subst e1_; have HC1 := Aside0.mk hc1_; clear hc1_) | (go_at_call 26; refine (even_calls A1 c1 dd _ (Ow_rd (by first | exact HO1.out | exact Ow_drewN HO1.out _)) HC1.out HD2.out HDN.out).mono ?_; rw [HLM.out]; rintro e w' ⟨rfl, ⟨nd3, rfl⟩⟩) | (go_at_call 29; refine (callFirst bo B _ l _ (fun k => Q k ∧ k < w.heap.size) s (Ow_below HO.out (by repeat (first | (with_reducible first | exact HB.out | apply below_alloc | apply pw_below_drewN | apply below_drew1) | exact HB.out))) (fun k hk => ⟨fun h => (HQ.out k hk).1 h.1, (HQ.out k hk).2⟩) (fun h => HNB.out h.1) (StFirst_old HST.out (by repeat (first | (with_reducible first | exact HB.out | apply below_alloc | apply pw_below_drewN | apply below_drew1) | exact HB.out))) hB ).mono ?_; rintro e w4 ⟨rfl, hst, hch⟩; have HST1 := Aside0.mk (StFirst_mono (Q' := fun k => Q k ∨ (.slice A l.length c : Value).ownBlock = some k ∨ w.heap.size ≤ k) hst (fun k hk => by rcases hk with h | h | h; exact .inl h.1; exact .inr (.inl h); exact .inr (.inr (Nat.le_trans (below_size (by repeat (first | (with_reducible first | exact HB.out | apply below_alloc | apply pw_below_drewN | apply below_drew1) | exact HB.out))) h)))); have HC4 := Aside0.mk ((Chg.of_below (ok := fun k => k = bo ∨ Q k) (by repeat (first | (with_reducible first | exact HB.out | apply below_alloc | apply pw_below_drewN | apply below_drew1) | exact HB.out))).trans hch (fun j hj h => by rcases h with h | h; exact .inl h; exact .inr h.1)); clear hst hch))
      repeat (go_quiet (fail); try go_wp2)
      go_ret
      exact ⟨by rw [HF.out]; rfl, by rw [HF.out]; exact HST1.out, HC4.out⟩
    · have HF := Aside0.mk (show goFirst v 0 l s = (s, false) by rw [hF0, if_neg (by rw [tf_neg hq0]; decide)])
      clear hF0
      go_enter Try.func19, Try.ntmps19
      go_wp2_with (first | (go_at_call 27; refine (counts_calls (v : Int) A c l _ (Kd.C_below HR.out (by repeat (first | (with_reducible first | exact HB.out | apply below_alloc | apply pw_below_drewN | apply below_drew1) | exact HB.out))) HC.out HPTS.out hl1).mono ?_; rw [HCD.out]; rintro e w1 ⟨v1, rfl, ho, hb⟩; have HO1 := Aside0.mk (Ow_lower ho (below_size (by repeat (first | (with_reducible first | exact HB.out | apply below_alloc | apply pw_below_drewN | apply below_drew1) | exact HB.out)))); have n0_ := Aside0.mk (below_step (by repeat (first | (with_reducible first | exact HB.out | apply below_alloc | apply pw_below_drewN | apply below_drew1) | exact HB.out)) hb); clear HB ho hb; have HB := n0_; clear n0_; obtain ⟨A1, c1, e1_, hc1_, _⟩ := Ow_form HO1.out; subst e1_; have HC1 := Aside0.mk hc1_; clear hc1_) | (go_at_call 26; refine (even_calls A1 c1 dd _ (Ow_rd (by first | exact HO1.out | exact Ow_drewN HO1.out _)) HC1.out HD2.out HDN.out).mono ?_; rw [HLM.out]; rintro e w' ⟨rfl, ⟨nd3, rfl⟩⟩))
      repeat (go_quiet (fail); try go_wp2)
      go_ret
      exact ⟨by rw [HF.out]; rfl, by rw [HF.out]; exact StFirst_mono (StFirst_old HST.out (by repeat (first | (with_reducible first | exact HB.out | apply below_alloc | apply pw_below_drewN | apply below_drew1) | exact HB.out))) (fun k hk => .inl hk.1), Chg.of_below (by repeat (first | (with_reducible first | exact HB.out | apply below_alloc | apply pw_below_drewN | apply below_drew1) | exact HB.out))⟩
  · obtain ⟨f', rfl⟩ : ∃ f', f = f' + 1 := ⟨f - 1, by omega⟩
    have HIC := Aside0.mk (HIH.out f' rfl)
    have ht : ((l.length : Int) == (k : Int)) = false := beq_eq_false_iff_ne.mpr (by omega)
    obtain ⟨ad, hA, _⟩ := at_first HR.out (by omega)
    subst hA
    obtain ⟨mm, hmm⟩ : ∃ mm : Int, IntKind.i64.wrap ((l.length : Int) - 1) = mm := ⟨_, rfl⟩
    have HMM := Aside0.mk (show mm = (l.length : Int) - 1 by rw [← hmm, i64_w, w64 (by omega) (by omega)])
    have mm0 : 0 ≤ mm := by have := HMM.out; omega
    have mm2 : mm < (l.length : Int) := by have := HMM.out; omega
    obtain ⟨ad2, e2, hxm⟩ := Kd.at_int HR.out mm mm0 mm2
    obtain rfl : ad = ad2 := by injection e2
    clear e2
    have hlast := Up_rd HU.out (show l.length - 1 < l.length by omega)
    rw [show ((l.length - 1 : Nat) : Int) = mm by have := HMM.out; omega] at hlast
    obtain ⟨zn, hzn⟩ : ∃ zn : Nat, rd l mm = (zn : Int) := ⟨(rd l mm).toNat, by omega⟩
    rw [hzn] at hxm hlast
    have HST0 := Aside0.mk (show (dsS v).st l = v - (zn + 1) by show v - (rd l ((l.length : Int) - 1) + 1).toNat = _; rw [← HMM.out, hzn]; omega)
    have HFF := Aside0.mk (show (dsS v).goL (goFirst v f') l (v - (zn + 1)) s = goFirst v (f' + 1) l s by rw [← HST0.out]; rfl)
    have hpw : 0 * v ^ (f' + 1) = v * (0 * v ^ f') := Seek.pow_step _ _ _
    have HS0 := Aside0.mk (show sizeFirst s + (v - (zn + 1)) * (0 * v ^ f') ≤ 1000000000 by have := HSZ.out; rw [hpw] at this; exact Nat.le_trans (Nat.add_le_add_left (Nat.mul_le_mul_right _ (Nat.sub_le _ _)) _) this)
    clear hpw hzn
    go_enter Try.func19, Try.ntmps19
    go_wp2_with fail
    repeat (go_quiet (fail); try go_wp2_with fail)
    clear hxm
    go_loopg [9] (v - (zn + 1)) (fun g v9 w' => ∃ (y : Nat) (s' : List Int), v9 = .int .i64 y ∧ Aside0 (zn + 1 ≤ y ∧ y + g = v) ∧ Aside0 ((dsS v).goL (goFirst v f') l g s' = goFirst v (f' + 1) l s) ∧ Aside0 (sizeFirst s' + g * (0 * v ^ f') ≤ 1000000000) ∧ Aside0 (StFirst bo B w' (fun k => Q k ∨ w.heap.size ≤ k) s') ∧ Aside0 (Chg (fun k => k = bo ∨ Q k) w w'))
    case atStart => exact ⟨zn + 1, s, by go_num, ⟨by omega⟩, HFF, HS0, ⟨StFirst_mono (by first | exact HST.out | exact (StFirst_drewN HST.out _)) (fun k hk => .inl hk)⟩, ⟨(Chg.refl _ w).below (by first | exact Below.refl _ _ | exact pw_below_drewN (Below.refl _ _) _)⟩⟩
    case round =>
      obtain ⟨y, s', rfl, HY, HT, HSS, HSR, HCH⟩ := hrel
      by_cases hy : y < v
      · obtain ⟨d, hd⟩ : ∃ d, gk = d + 1 := ⟨gk - 1, by have := HY.out; omega⟩
        have HGD := Aside0.mk hd
        have HSD := Aside0.mk (show sizeFirst s' + (d * (0 * v ^ f') + 0 * v ^ f') ≤ 1000000000 by have := HSS.out; rwa [hd, Nat.succ_mul] at this)
        have hT := HT.out
        rw [hd, Seek.goL, show (dsS v).y (d + 1) = (y : Int) from (show ((v - (d + 1) : Nat) : Int) = (y : Int) by have := HY.out; omega), show (dsS v).t l (y : Int) = true from rfl, if_pos rfl] at hT
        clear hd
        have HOR := Aside0.mk (Ow_chg HO.out HCH.out (fun k hk h => h.elim (HQ.out k hk).2 (HQ.out k hk).1))
        have HRQ := Aside0.mk (Ow_rd HOR.out)
        have HB := Aside0.mk (Below.refl wr.heap.size wr)
        have HBOR := Aside0.mk (show bo < wr.heap.size from Nat.lt_of_lt_of_le hbo HCH.out.size)
        have HLN := Aside0.mk (show l.length ≤ 1000000 by omega)
        have HL1 := Aside0.mk (show 1 ≤ (l ++ [(y : Int)]).length by rw [List.length_append, List.length_singleton]; omega)
        have HL2 := Aside0.mk (show (l ++ [(y : Int)]).length + f' = k by rw [List.length_append, List.length_singleton]; omega)
        have HUQ := Aside0.mk (Up_snoc HU.out hl1 (show (dsS v).n - (dsS v).st l ≤ y by rw [HST0.out]; have := HY.out; show v - _ ≤ y; omega) hy)
        have HSN := Aside0.mk (show sizeFirst s' + 0 * v ^ f' ≤ 1000000000 by have := HSD.out; omega)
        have HQ2 := Aside0.mk (fun (W : World) (hW : Below wr.heap.size wr W) => StFirst_old HSR.out hW)
        have HNB2 := Aside0.mk (show ¬ ((Q bo ∨ w.heap.size ≤ bo) ∧ bo < wr.heap.size) from fun h => h.1.elim HNB.out (fun h => by omega))
        have HTR := Aside0.mk (show ∀ j, j < w.heap.size → (j = bo ∨ ((Q j ∨ w.heap.size ≤ j) ∧ j < wr.heap.size)) → (j = bo ∨ Q j) from fun j hj h => by
          rcases h with h | h
          · exact .inl h
          · rcases h.1 with h | h
            · exact .inr h
            · omega)
        generalize hm_ : l ++ [(y : Int)] = m at hT HL1 HL2 HUQ
        have HM := Aside0.mk hm_
        have HT4 := Aside0.mk hT
        clear hm_ hT
        have HSG := Aside0.mk (show sizeFirst (goFirst v f' m s').1 ≤ sizeFirst s' + 0 * v ^ f' from (dsS v).go_size nextFirst_size (dsS_st v) f' _ _)
        by_cases hg : (goFirst v f' m s').2 = true
        · have HG := Aside0.mk hg
          have HF := Aside0.mk (show goFirst v (f' + 1) l s = ((goFirst v f' m s').1, true) by rw [← HT4.out, if_pos hg])
          clear hg
          go_wp2_with (first | (go_at_call 28; refine (Clone_calls _ _ l _ (Kd.C_below HRQ.out (by repeat (first | (with_reducible first | exact HB.out | apply below_alloc | apply pw_below_drewN | apply below_drew1) | exact HB.out))) HC.out (by omega)).mono ?_; rintro e w1 ⟨v1, rfl, ho, hb⟩; have HO1 := Aside0.mk (Ow_lower ho (below_size (by repeat (first | (with_reducible first | exact HB.out | apply below_alloc | apply pw_below_drewN | apply below_drew1) | exact HB.out)))); have n0_ := Aside0.mk (below_step (by repeat (first | (with_reducible first | exact HB.out | apply below_alloc | apply pw_below_drewN | apply below_drew1) | exact HB.out)) hb); clear HB ho hb; have HB := n0_; clear n0_) | (((with_reducible refine gate_builtin (b := .append) (xs := #[.tmp 39, .tmp 41]) rfl ?_); at_builtin; refine Kd.R_append (Kd.int .i64) (w0 := wr) wr.heap.size rfl (.tmp 39) (.tmp 41) 25 3 (.int .i64 0) 8 rfl Try.underlying25 infoInt rfl (by decide) (by omega) v1 l ((y : Int)) [.int .i64 ((y : Int))] (fun _ => True) (fun _ => False) rfl rfl rfl (fun _ hk => hk.elim) (fun _ _ => trivial) ?aO ?aB ?aS ?aL ?_; (case aO => exact (by (with_reducible repeat (first | apply Kd.R_alloc | apply Kd.R_drewN | apply Kd.R_drew)); exact HO1.out)); (case aB => exact (by repeat (first | (with_reducible first | exact HB.out | apply below_alloc | apply pw_below_drewN | apply below_drew1) | exact HB.out))); (case aS => exact below_size (by repeat (first | (with_reducible first | exact HB.out | apply below_alloc | apply pw_below_drewN | apply below_drew1) | exact HB.out))); (case aL => have := HLN.out; omega); intro v2 w2 ho_ hb_ hg_ hat_; have n0_ := Aside0.mk hb_; have n1_ := Aside0.mk ho_; clear HB HO1; have HB := n0_; have HO1 := n1_; clear n0_ n1_ ho_ hb_ hg_ hat_); have n0_ := HO1.out; rw [HM.out] at n0_; clear HO1; have HO1 := Aside0.mk n0_; clear n0_) | (go_at_call 19; refine (HIC.out v2 m _ (fun k => (Q k ∨ w.heap.size ≤ k) ∧ k < wr.heap.size) s' (Ow_lower (by first | exact HO1.out | exact Ow_drewN HO1.out _) (Nat.le_trans HBW.out HCH.out.size)) (fun k hk => ⟨fun h => absurd h.2 (by have := Kd.R_base HO1.out k hk; omega), by have := Kd.R_base HO1.out k hk; have := HBOR.out; omega⟩) HNB2.out (HQ2.out _ (by repeat (first | (with_reducible first | exact HB.out | apply below_alloc | apply pw_below_drewN | apply below_drew1) | exact HB.out))) HL1.out HL2.out HSN.out HUQ.out).mono ?_; rw [HG.out]; rintro e w4 ⟨rfl, hst, hch⟩; have HS3 := Aside0.mk (StFirst_mono (Q' := fun k => Q k ∨ w.heap.size ≤ k) hst (fun k hk => by rcases hk with h | h | h; exact h.1; exact .inr (by have := Kd.R_base HO1.out k h; have := HCH.out.size; omega); exact .inr (Nat.le_trans (Nat.le_trans HCH.out.size (below_size (by repeat (first | (with_reducible first | exact HB.out | apply below_alloc | apply pw_below_drewN | apply below_drew1) | exact HB.out)))) h))); have HC4 := Aside0.mk ((HCH.out.below (by repeat (first | (with_reducible first | exact HB.out | apply below_alloc | apply pw_below_drewN | apply below_drew1) | exact HB.out))).trans hch HTR.out); clear hst hch))
          repeat (go_quiet (fail); try go_wp2)
          go_ret
          exact ⟨by rw [HF.out]; rfl, by rw [HF.out]; exact StFirst_mono (by first | exact HS3.out | exact (StFirst_drewN HS3.out _)) (fun k hk => by rcases hk with h | h; exact .inl h; exact .inr (.inr h)), HC4.out.below (by first | exact Below.refl _ _ | exact pw_below_drewN (Below.refl _ _) _)⟩
        · have HG := Aside0.mk (show (goFirst v f' m s').2 = false by simpa using hg)
          have HN := Aside0.mk (show (dsS v).goL (goFirst v f') l d (goFirst v f' m s').1 = goFirst v (f' + 1) l s by have := HT4.out; rwa [if_neg hg] at this)
          clear hg
          go_wp2_with (first | (go_at_call 28; refine (Clone_calls _ _ l _ (Kd.C_below HRQ.out (by repeat (first | (with_reducible first | exact HB.out | apply below_alloc | apply pw_below_drewN | apply below_drew1) | exact HB.out))) HC.out (by omega)).mono ?_; rintro e w1 ⟨v1, rfl, ho, hb⟩; have HO1 := Aside0.mk (Ow_lower ho (below_size (by repeat (first | (with_reducible first | exact HB.out | apply below_alloc | apply pw_below_drewN | apply below_drew1) | exact HB.out)))); have n0_ := Aside0.mk (below_step (by repeat (first | (with_reducible first | exact HB.out | apply below_alloc | apply pw_below_drewN | apply below_drew1) | exact HB.out)) hb); clear HB ho hb; have HB := n0_; clear n0_) | (((with_reducible refine gate_builtin (b := .append) (xs := #[.tmp 39, .tmp 41]) rfl ?_); at_builtin; refine Kd.R_append (Kd.int .i64) (w0 := wr) wr.heap.size rfl (.tmp 39) (.tmp 41) 25 3 (.int .i64 0) 8 rfl Try.underlying25 infoInt rfl (by decide) (by omega) v1 l ((y : Int)) [.int .i64 ((y : Int))] (fun _ => True) (fun _ => False) rfl rfl rfl (fun _ hk => hk.elim) (fun _ _ => trivial) ?aO ?aB ?aS ?aL ?_; (case aO => exact (by (with_reducible repeat (first | apply Kd.R_alloc | apply Kd.R_drewN | apply Kd.R_drew)); exact HO1.out)); (case aB => exact (by repeat (first | (with_reducible first | exact HB.out | apply below_alloc | apply pw_below_drewN | apply below_drew1) | exact HB.out))); (case aS => exact below_size (by repeat (first | (with_reducible first | exact HB.out | apply below_alloc | apply pw_below_drewN | apply below_drew1) | exact HB.out))); (case aL => have := HLN.out; omega); intro v2 w2 ho_ hb_ hg_ hat_; have n0_ := Aside0.mk hb_; have n1_ := Aside0.mk ho_; clear HB HO1; have HB := n0_; have HO1 := n1_; clear n0_ n1_ ho_ hb_ hg_ hat_); have n0_ := HO1.out; rw [HM.out] at n0_; clear HO1; have HO1 := Aside0.mk n0_; clear n0_) | (go_at_call 19; refine (HIC.out v2 m _ (fun k => (Q k ∨ w.heap.size ≤ k) ∧ k < wr.heap.size) s' (Ow_lower (by first | exact HO1.out | exact Ow_drewN HO1.out _) (Nat.le_trans HBW.out HCH.out.size)) (fun k hk => ⟨fun h => absurd h.2 (by have := Kd.R_base HO1.out k hk; omega), by have := Kd.R_base HO1.out k hk; have := HBOR.out; omega⟩) HNB2.out (HQ2.out _ (by repeat (first | (with_reducible first | exact HB.out | apply below_alloc | apply pw_below_drewN | apply below_drew1) | exact HB.out))) HL1.out HL2.out HSN.out HUQ.out).mono ?_; rw [HG.out]; rintro e w4 ⟨rfl, hst, hch⟩; have HS3 := Aside0.mk (StFirst_mono (Q' := fun k => Q k ∨ w.heap.size ≤ k) hst (fun k hk => by rcases hk with h | h | h; exact h.1; exact .inr (by have := Kd.R_base HO1.out k h; have := HCH.out.size; omega); exact .inr (Nat.le_trans (Nat.le_trans HCH.out.size (below_size (by repeat (first | (with_reducible first | exact HB.out | apply below_alloc | apply pw_below_drewN | apply below_drew1) | exact HB.out)))) h))); have HC4 := Aside0.mk ((HCH.out.below (by repeat (first | (with_reducible first | exact HB.out | apply below_alloc | apply pw_below_drewN | apply below_drew1) | exact HB.out))).trans hch HTR.out); clear hst hch))
          repeat (go_quiet (fail); try go_wp2)
          go_roundg (gk - 1)
          case measure => have := HY.out; omega
          case rel => exact ⟨y + 1, _, by go_num, ⟨by have := HY.out; omega⟩, ⟨by rw [show gk - 1 = d by have := HGD.out; omega]; exact HN.out⟩, ⟨by rw [show gk - 1 = d by have := HGD.out; omega]; have := HSD.out; have := HSG.out; omega⟩, ⟨by first | exact HS3.out | exact (StFirst_drewN HS3.out _)⟩, ⟨HC4.out.below (by first | exact Below.refl _ _ | exact pw_below_drewN (Below.refl _ _) _)⟩⟩
      · have HF := Aside0.mk (show goFirst v (f' + 1) l s = (s', false) by rw [← HT.out, show gk = 0 by have := HY.out; omega, Seek.goL])
        (go_wp2; repeat (go_quiet (fail); try go_wp2))
        go_ret
        exact ⟨by rw [HF.out]; rfl, by rw [HF.out]; exact StFirst_mono (by first | exact HSR.out | exact (StFirst_drewN HSR.out _)) (fun k hk => by rcases hk with h | h; exact .inl h; exact .inr (.inr h)), HCH.out.below (by first | exact Below.refl _ _ | exact pw_below_drewN (Below.refl _ _) _)⟩
theorem dsFirst_calls (v k f bo B : Nat) (hv : 2 ≤ v ∧ v ≤ 31) (hk : k ≤ 8) (hB : B ≤ bo) : DsFirst v k f bo B := by
  induction f with
  | zero => exact dsFirst_step v k 0 bo B hv hk hB (fun f' h => by omega)
  | succ f ih => exact dsFirst_step v k (f + 1) bo B hv hk hB (fun f' h => by rw [show f' = f by omega]; exact ih)
end Go.Proofs.Ytikedacnijgloaa.Own.G
