/- Graceful labels of a tree: the walk of the reference's grLook; trees of at most 9 nodes. -/
import Derived.Test.YtaodmegnbkimeaaOwnGraceB
import Derived.Test.YtaodmegnbkimeaaOwnGraceM
import Derived.Test.YtaodmegnbkimeaaOwnOwn1
import Derived.Deep.RegionLaw
namespace Go.Proofs.Ytaodmegnbkimeaa.Own.G
open Go.RowKit Go.Proofs.YtaodmegnbkimeaaW.PrintWords Go.Proofs.YtaodmegnbkimeaaW.PrintLast Go.Proofs.YtaodmegnbkimeaaW.PrintMore
set_option linter.unusedVariables false
/-- append(v, p) as a step of a region that draws its order; p lies in a box at ad. -/
theorem own_append_at {ops : Array Oper} {o : Oper} {a : Act} {K : Act → World → Prop} {Q : Exit → Act → World → Prop} {E : Prop} (hgd : o.guard = none) (s x : Operand)
    (ho : o.op = .call { callee := .builtin .append, args := #[s, x], argTypes := #[22, 22] }) (B : Nat) (W : World) (v : Value) (xs : List Int) (p : Int) (hs : a.eval s = v) (HO : Ow W B v xs)
    (ad : Addr) (hx : a.eval x = .slice (some ad) 1 1) (hc : W.cell? ad = some (.int .i64 p)) (hl : xs.length ≤ 1048576) (hbase : B ≤ W.heap.size)
    (h : ∀ v1 w1, Ow w1 B v1 (xs ++ [p]) → W.grownBy w1 v.ownBlock → K (a.put o.dst v1) w1) :
    if Region.wanted o (yielded ops a.tmps) = true then Oper.wp Try.prog o a W K Q else E := by
  obtain ⟨i0, hi, hz0, hz1, hz2⟩ := info_parts infoInt
  refine step_append_lies _ hgd s x 22 ho B 3 i0 (.int .i64 0) 1 8 Try.underlying22 hi hz0 hz1 hz2 rfl (by omega) v xs.length _ hs (Kd.own_of_R HO) ad 1 1 [.int .i64 p] hx rfl
    (fun j u hj => ?_) (by simp [Value.oneCell']) (by omega) (by unfold maxLen; omega) (by omega) hbase W.heap.size rfl ?_
  · rcases j with _ | j
    · simp only [List.getElem?_cons_zero, Option.some.injEq] at hj
      subst hj
      have e : ad.add 0 = ad := by unfold Addr.add; split <;> simp_all
      rw [e]
      exact hc
    · simp at hj
  · intro g cap w1 hown1 hg _ _
    exact h _ w1 (Kd.R_of_own (by rw [List.length_append, List.length_singleton]; simpa [encs] using hown1) (fun _ _ => trivial)) hg
def nextLook (s : Nat × List Int) (l : List Int) : Nat × List Int := (s.1 + 1, if s.1 = 0 then l else s.2)
noncomputable abbrev goLook (P : List Int) (f : Nat) (l : List Int) (s : Nat × List Int) : (Nat × List Int) × Bool := (grS P).go nextLook false f l s
/-- What the two variables hold. -/
def StLook (bc bf B : Nat) (w : World) (s : Nat × List Int) : Prop := Var w bc 3 (.int .i64 (s.1 : Int)) ∧ ∃ v, Var w bf 22 v ∧ Kd.R (Kd.int .i64) 3 w B (fun k => k ≠ bc ∧ k ≠ bf) v s.2
theorem StLook_below {bc bf B : Nat} {w w1 : World} {s : Nat × List Int} (h : StLook bc bf B w s) (hb : Below w.heap.size w w1) : StLook bc bf B w1 s := ⟨h.1.below hb, h.2.imp fun v hv => ⟨hv.1.below hb, Kd.R_below hv.2 hb⟩⟩
def LookC (wp : World) (Ap : Option Addr) (cp : Nat) (P : List Int) (f bc bf : Nat) : Prop := ∀ (u : Value) (l : List Int) (M E : Nat) (w : World) (s : Nat × List Int), Below wp.heap.size wp w → Ow w wp.heap.size u l → (∀ k, u.ownBlock = some k → k ≠ bc ∧ k ≠ bf) → StLook bc bf wp.heap.size w s → l.length + f = P.length → s.1 + P.length ^ f ≤ 1000000000 → Upto8 l → Mask M l → Mask E (edges P l (l.length - 1)) → Unl (edges P l (l.length - 1)) →
  Calls Try.prog 25 #[.slice Ap P.length cp, u, .int .i64 (M : Int), .int .i64 (E : Int), .pointer (some ⟨bc, 0, none⟩), .pointer (some ⟨bf, 0, none⟩)] w fun e w' => e = .returned (.tuple #[]) ∧ StLook bc bf wp.heap.size w' (goLook P f l s).1 ∧ Chg (fun k => k = bc ∨ k = bf) w w'
set_option maxRecDepth 8000 in
set_option maxHeartbeats 12800000 in
theorem look_step (wp : World) (Ap : Option Addr) (cp : Nat) (P : List Int) (f bc bf : Nat) (hrp : Rd wp Ap P) (hcp : P.length ≤ cp) (htree : Tree P) (hBc : wp.heap.size ≤ bc) (hBf : wp.heap.size ≤ bf) (hne : bc ≠ bf) (hih : ∀ f', f = f' + 1 → LookC wp Ap cp P f' bc bf) : LookC wp Ap cp P f bc bf := by
  intro u l M E w s hbp ho hq hst hlf hsz hup hM hE hun
  obtain ⟨A, c, rfl, hcap, hrd⟩ := Ow_form ho
  obtain ⟨hvc, v0, hvf, ho0⟩ := hst
  obtain ⟨Av, cv, rfl⟩ := Kd.R_slice ho0
  obtain ⟨cnt, fs⟩ := s
  have hn := htree.1.1
  have hne2 : bf ≠ bc := Ne.symm hne
  have HNE := Aside0.mk hne
  have hbc := lt_of_block hvc
  have hbf := lt_of_block hvf
  have hcc := cell_of_one hvc
  have hcf := free_of_one hvc
  have hfc := cell_of_one hvf
  have hff := free_of_one hvf
  have HVC := Aside0.mk hvc
  have HVF := Aside0.mk hvf
  have HO0 := Aside0.mk ho0
  have HRP := Aside0.mk hrp
  have HCP := Aside0.mk hcp
  have HTREE := Aside0.mk htree
  have HBP0 := Aside0.mk hbp
  have HIH := Aside0.mk hih
  have HO := Aside0.mk ho
  have HQ := Aside0.mk hq
  have HR := Aside0.mk hrd
  have HC := Aside0.mk hcap
  have HU := Aside0.mk hup
  have HSZ := Aside0.mk hsz
  have HM := Aside0.mk hM
  have HE := Aside0.mk hE
  have HUN := Aside0.mk hun
  have HBW := Aside0.mk (show wp.heap.size ≤ w.heap.size by omega)
  have hl9 : l.length ≤ 9 := by omega
  clear hih ho hq hcap hrd hsz hup hrp hcp htree hbp hvc hvf ho0 hM hE hun
  have HB := Aside0.mk (Below.refl w.heap.size w)
  by_cases hz : l.length = P.length
  · obtain rfl : f = 0 := by omega
    have ht : ((l.length : Int) == (P.length : Int)) = true := beq_iff_eq.mpr (by omega)
    have HX : cnt + 1 ≤ 1000000000 := by have := HSZ.out; rw [Nat.pow_zero] at this; exact this
    simp only at hcc
    by_cases h0 : cnt = 0
    · subst h0
      have HF := Aside0.mk (show goLook P 0 l (0, fs) = ((1, l), false) from rfl)
      clear hz hlf
      go_enter Try.func25, Try.ntmps25
      go_wp2_with (go_at_call 33; refine (l1Own_calls A c l _ (Kd.C_below HR.out (by repeat (first | (with_reducible first | exact HB.out | apply below_alloc | apply pw_below_drewN | apply below_drew1) | exact HB.out))) HC.out (by omega)).mono ?_; rintro e w1 ⟨v1, rfl, ho, hb⟩; obtain ⟨A1, c1, e1_⟩ := Kd.R_slice ho; subst e1_; have hvc1 := HVC.out.below hb; have hvf1 := HVF.out.below hb; have hcc1 := cell_of_one hvc1; have hcf1 := free_of_one hvc1; have hfc1 := cell_of_one hvf1; have hff1 := free_of_one hvf1; have HVC1 := Aside0.mk hvc1; have HVF1 := Aside0.mk hvf1; have HO1 := Aside0.mk ho; have HB1 := Aside0.mk hb; clear hvc1 hvf1 ho hb)
      refine bodyPost_ret (results_none (by rfl) _ _ _) rfl ⟨rfl, ?_, ((Chg.of_below HB1.out).put (fun _ => .inr rfl) 0 _).put (fun _ => .inl rfl) 0 _⟩
      rw [HF.out]
      refine ⟨(HVC1.out.far HNE.out 0 _).put _, _, (HVF1.out.put _).far HNE.out.symm 0 _, ?_⟩
      exact Kd.R_far (Kd.R_far (Ow_re (ok := fun k => k ≠ bc ∧ k ≠ bf) (Ow_lower HO1.out (Nat.le_trans HBW.out (Nat.le_refl _))) (fun k hk => by have := Kd.R_base HO1.out k hk; omega)) (fun k hk => hk.2) _) (fun k hk => hk.1) _
    · have HF := Aside0.mk (show goLook P 0 l (cnt, fs) = ((cnt + 1, fs), false) by show ((cnt + 1, if cnt = 0 then l else fs), false) = _; rw [if_neg h0])
      have h0i : ((cnt : Int) == 0) = false := beq_eq_false_iff_ne.mpr (by omega)
      clear hz hlf h0
      go_enter Try.func25, Try.ntmps25
      go_wp2_with fail
      refine bodyPost_ret (results_none (by rfl) _ _ _) rfl ⟨rfl, ?_, (Chg.refl _ w).put (fun _ => .inl rfl) 0 _⟩
      rw [HF.out]
      exact ⟨HVC.out.put _, _, HVF.out.far HNE.out.symm 0 _, Kd.R_far HO0.out (fun k hk => hk.1) _⟩
  · obtain ⟨f', rfl⟩ : ∃ f', f = f' + 1 := ⟨f - 1, by omega⟩
    have HIC := Aside0.mk (HIH.out f' rfl)
    have ht : ((l.length : Int) == (P.length : Int)) = false := beq_eq_false_iff_ne.mpr (by omega)
    have HFF := Aside0.mk (show (grS P).goL (goLook P f') l P.length (cnt, fs) = goLook P (f' + 1) l (cnt, fs) from rfl)
    have HS0 := Aside0.mk (show cnt + P.length * P.length ^ f' ≤ 1000000000 by have := HSZ.out; rwa [Nat.pow_succ, Nat.mul_comm] at this)
    have HST := Aside0.mk (show StLook bc bf wp.heap.size w (cnt, fs) from ⟨HVC.out, _, HVF.out, HO0.out⟩)
    clear hcc hcf hfc hff
    go_enter Try.func25, Try.ntmps25
    go_wp2_with fail
    repeat (go_quiet (fail); try go_wp2_with fail)
    go_loopg [13] P.length (fun g v13 w' => ∃ (y : Nat) (s' : Nat × List Int), v13 = .int .i64 y ∧ Aside0 (y + g = P.length) ∧ Aside0 ((grS P).goL (goLook P f') l g s' = goLook P (f' + 1) l (cnt, fs)) ∧ Aside0 (s'.1 + g * P.length ^ f' ≤ 1000000000) ∧ Aside0 (StLook bc bf wp.heap.size w' s') ∧ Aside0 (Chg (fun k => k = bc ∨ k = bf) w w'))
    case atStart => exact ⟨0, _, rfl, ⟨by omega⟩, HFF, HS0, HST, ⟨Chg.refl _ w⟩⟩
    case round =>
      obtain ⟨y, s', rfl, HY, HT, HSS, HSR, HCH⟩ := hrel
      by_cases hy : y < P.length
      · obtain ⟨d, hd⟩ : ∃ d, gk = d + 1 := ⟨gk - 1, by have := HY.out; omega⟩
        have HGD := Aside0.mk hd
        have HSD := Aside0.mk (show s'.1 + (d * P.length ^ f' + P.length ^ f') ≤ 1000000000 by have := HSS.out; rwa [hd, Nat.succ_mul] at this)
        have hT := HT.out
        rw [hd, Seek.goL, show (grS P).y (d + 1) = (y : Int) from (show ((P.length - (d + 1) : Nat) : Int) = (y : Int) by have := HY.out; omega), show (grS P).t l (y : Int) = tf ((y : Int) ∉ l ∧ Unl (edges P (l ++ [(y : Int)]) ((l ++ [(y : Int)]).length - 1))) from rfl] at hT
        have HT2 := Aside0.mk hT
        clear hT hd
        have hy9 : y < 9 := by omega
        by_cases hm : (y : Int) ∈ l
        · have htb := mask_yes HM.out hy9 hm
          have HN := Aside0.mk (show (grS P).goL (goLook P f') l d s' = goLook P (f' + 1) l (cnt, fs) by have := HT2.out; rwa [if_neg (by rw [tf_neg (fun h => h.1 hm)]; decide)] at this)
          clear hm
          go_wp2_with fail
          repeat (go_quiet (fail); try go_wp2_with fail)
          go_roundg (gk - 1)
          case measure => have := HY.out; omega
          case rel => exact ⟨y + 1, s', by go_num, ⟨by have := HY.out; omega⟩, ⟨by rw [show gk - 1 = d by have := HGD.out; omega]; exact HN.out⟩, ⟨by rw [show gk - 1 = d by have := HGD.out; omega]; have := HSD.out; omega⟩, HSR, HCH⟩
        · have htb := mask_no HM.out hy9 hm
          have HOR := Aside0.mk (Ow_chg HO.out HCH.out (fun k hk h => h.elim (HQ.out k hk).1 (HQ.out k hk).2))
          have HRQ := Aside0.mk (Ow_rd HOR.out)
          have HBP := Aside0.mk (HBP0.out.trans (HCH.out.to HBW.out (fun k hk h => h.elim (fun e => by omega) (fun h => by omega))))
          have HB := Aside0.mk (Below.refl wr.heap.size wr)
          have HLN := Aside0.mk (show l.length ≤ 1048576 by omega)
          have HL2 := Aside0.mk (show (l ++ [(y : Int)]).length + f' = P.length by rw [List.length_append, List.length_singleton]; omega)
          have HUQ := Aside0.mk (Upto8_snoc HU.out (show y ≤ 8 by omega))
          have HSN := Aside0.mk (show s'.1 + P.length ^ f' ≤ 1000000000 by have := HSD.out; omega)
          obtain ⟨M1, hm1, hM1⟩ := mask_or HM.out hy9
          have HM1 := Aside0.mk hM1
          have hm2 : bits BinOp.or IntKind.i64 (M : Int) (IntKind.i64.wrap (2 ^ y)) = (M1 : Int) := by rw [i64_w]; exact hm1
          clear hM1
          by_cases hp : 0 < l.length
          · obtain ⟨adP, hAp, hxp⟩ := at_nat HRP.out (show l.length < P.length by omega)
            subst hAp
            replace hxp := (HBP.out.cell (World.block_lt_of_cell? wp _ hxp)).trans hxp
            have ha := HTREE.out.2 l.length hp (by omega)
            have HES := Aside0.mk (edges_snoc (y : Int) HTREE.out hp (show l.length < P.length by omega))
            generalize rd P (l.length : Int) = a at hxp ha HES
            obtain ⟨adA, hAA, hxa⟩ := Kd.at_int HRQ.out a ha.1 (by omega)
            subst hAA
            have hz := HU.out _ (show rd l a ∈ l by obtain ⟨n, rfl⟩ : ∃ n : Nat, a = (n : Int) := ⟨a.toNat, by omega⟩; exact rd_mem (by omega))
            generalize rd l a = z at hxa hz HES
            have ha0 := ha.1
            have ha1 : a < (l.length : Int) := by omega
            have hl0 : (l.length : Int) < (P.length : Int) := by omega
            obtain ⟨e, he⟩ : ∃ e : Nat, ((y : Int) - z).natAbs = e := ⟨_, rfl⟩
            have HEE := Aside0.mk he
            have he9 : e < 9 := by omega
            have hdz : dist (y : Int) z = (e : Int) := by unfold dist; rw [he]
            have hes := HES.out
            rw [hdz] at hes
            generalize hmm_ : l ++ [(y : Int)] = m at hes HM1 HL2 HUQ HT2
            have HMM := Aside0.mk hmm_
            have HES2 := Aside0.mk hes
            clear he hdz hes hmm_ HES
            by_cases hin : (e : Int) ∈ edges P l (l.length - 1)
            · have hte := mask_yes HE.out he9 hin
              have HN := Aside0.mk (show (grS P).goL (goLook P f') l d s' = goLook P (f' + 1) l (cnt, fs) by have := HT2.out; rwa [if_neg (by rw [tf_neg (fun h => by have h2 := h.2; rw [HES2.out] at h2; exact Unl_init h2 hin)]; decide)] at this)
              clear hin hm
              go_wp2_with (go_at_call 31; refine (l1Abs_calls _ _ (by omega) (by omega)).mono ?_; rw [HEE.out]; rintro e_ w' ⟨rfl, ⟨nd, rfl⟩⟩)
              repeat (go_quiet (fail); try go_wp2_with fail)
              go_roundg (gk - 1)
              case measure => have := HY.out; omega
              case rel => exact ⟨y + 1, s', by go_num, ⟨by have := HY.out; omega⟩, ⟨by rw [show gk - 1 = d by have := HGD.out; omega]; exact HN.out⟩, ⟨by rw [show gk - 1 = d by have := HGD.out; omega]; have := HSD.out; omega⟩, ⟨StLook_below HSR.out (by repeat (first | (with_reducible first | exact HB.out | apply below_alloc | apply pw_below_drewN | apply below_drew1) | exact HB.out))⟩, ⟨HCH.out.below (by repeat (first | (with_reducible first | exact HB.out | apply below_alloc | apply pw_below_drewN | apply below_drew1) | exact HB.out))⟩⟩
            · have hte := mask_no HE.out he9 hin
              obtain ⟨E1, he1, hE1⟩ := mask_or HE.out he9
              have HE1 := Aside0.mk (show Mask E1 (edges P m (m.length - 1)) by rw [HES2.out]; exact hE1)
              have HUN1 := Aside0.mk (show Unl (edges P m (m.length - 1)) by rw [HES2.out]; exact Unl_snoc HUN.out hin)
              have hg : (goLook P f' m s').2 = false := by rw [goLook, (grS P).go_all nextLook]
              have HN := Aside0.mk (show (grS P).goL (goLook P f') l d (goLook P f' m s').1 = goLook P (f' + 1) l (cnt, fs) by have := HT2.out; rwa [if_pos (tf_pos ⟨hm, HUN1.out⟩), if_neg (by rw [hg]; decide)] at this)
              have HSG := Aside0.mk (show (goLook P f' m s').1.1 ≤ s'.1 + 1 * P.length ^ f' from (grS P).go_size (next := nextLook) (stop := false) (size := fun s => s.1) (c := 1) (fun _ _ => Nat.le_refl _) (fun _ => Nat.le_refl _) f' m s')
              clear hin hm hg hE1
              go_wp2_with (go_at_call 31; refine (l1Abs_calls _ _ (by omega) (by omega)).mono ?_; rw [HEE.out]; rintro e_ w' ⟨rfl, ⟨nd, rfl⟩⟩)
              clear hxp hxa
              go_region_law (first | (go_simp; go_at_call 33; refine (l1Own_calls _ c l _ (Kd.C_below HRQ.out (by repeat (first | (with_reducible first | exact HB.out | apply below_alloc | apply pw_below_drewN | apply below_drew1) | exact HB.out))) HC.out (by omega)).mono ?_; rintro e_ w1 ⟨v1, rfl, ho, hb⟩; have HO1 := Aside0.mk (Ow_lower ho (below_size (by repeat (first | (with_reducible first | exact HB.out | apply below_alloc | apply pw_below_drewN | apply below_drew1) | exact HB.out)))); have HBY := Aside0.mk hb; have n0_ := Aside0.mk (below_step (by repeat (first | (with_reducible first | exact HB.out | apply below_alloc | apply pw_below_drewN | apply below_drew1) | exact HB.out)) hb); clear HB ho hb; have HB := n0_; clear n0_) | (refine own_append_at (by rfl) _ _ (by rfl) wr.heap.size _ v1 l (y : Int) (by rfl) ?apO _ (by rfl) ?apC HLN.out ?apS ?_; (case apO => exact (by (with_reducible repeat (first | apply Kd.R_alloc | apply Kd.R_drewN | apply Kd.R_drew)); exact HO1.out)); (case apC => first | exact cell_of_one (heap_alloc_new _ _) | exact (Below.cell HBY.out (by simp)).trans (cell_of_one (heap_alloc_new _ _))); (case apS => exact below_size (by repeat (first | (with_reducible first | exact HB.out | apply below_alloc | apply pw_below_drewN | apply below_drew1) | exact HB.out))); intro v2 w2 ho hg; have n1_ := Aside0.mk (below_grown (by repeat (first | (with_reducible first | exact HB.out | apply below_alloc | apply pw_below_drewN | apply below_drew1) | exact HB.out)) hg (by (with_reducible repeat (first | apply Kd.R_alloc | apply Kd.R_drewN | apply Kd.R_drew)); exact HO1.out)); rw [HMM.out] at ho; have HO2 := Aside0.mk ho; clear HB ho hg; have HB := n1_; clear n1_) | (go_simp; go_at_call 25; refine (HIC.out v2 m M1 E1 _ s' (below_step HBP.out (by repeat (first | (with_reducible first | exact HB.out | apply below_alloc | apply pw_below_drewN | apply below_drew1) | exact HB.out))) (Ow_lower HO2.out (Nat.le_trans HBW.out HCH.out.size)) (fun k hk => by have := Kd.R_base HO2.out k hk; have := HCH.out.size; omega) (StLook_below HSR.out (by repeat (first | (with_reducible first | exact HB.out | apply below_alloc | apply pw_below_drewN | apply below_drew1) | exact HB.out))) HL2.out HSN.out HUQ.out HM1.out HE1.out HUN1.out).mono ?_; rintro e_ w3 ⟨rfl, hst, hch⟩; have HS3 := Aside0.mk hst; have HC4 := Aside0.mk ((HCH.out.below (by repeat (first | (with_reducible first | exact HB.out | apply below_alloc | apply pw_below_drewN | apply below_drew1) | exact HB.out))).trans hch (fun j _ h => h)); clear hst hch))
              all_goals
                repeat (go_quiet (fail); try go_wp2_with fail)
                try go_wp2_with fail
                go_roundg (gk - 1)
                case measure => have := HY.out; omega
                case rel => exact ⟨y + 1, _, by go_num, ⟨by have := HY.out; omega⟩, ⟨by rw [show gk - 1 = d by have := HGD.out; omega]; exact HN.out⟩, ⟨by rw [show gk - 1 = d by have := HGD.out; omega]; have := HSD.out; have := HSG.out; omega⟩, HS3, HC4⟩
          · have HLE := Aside0.mk (List.eq_nil_of_length_eq_zero (show l.length = 0 by omega))
            generalize hmm_ : l ++ [(y : Int)] = m at HM1 HL2 HUQ HT2
            have HMM := Aside0.mk hmm_
            clear hmm_
            have hm0 : m = [(y : Int)] := by rw [← HMM.out, HLE.out]; rfl
            have he0 : edges P m (m.length - 1) = edges P l (l.length - 1) := by rw [hm0, HLE.out]; rfl
            have HE1 := Aside0.mk (show Mask E (edges P m (m.length - 1)) by rw [he0]; exact HE.out)
            have HUN1 := Aside0.mk (show Unl (edges P m (m.length - 1)) by rw [he0]; exact HUN.out)
            have hg : (goLook P f' m s').2 = false := by rw [goLook, (grS P).go_all nextLook]
            have HN := Aside0.mk (show (grS P).goL (goLook P f') l d (goLook P f' m s').1 = goLook P (f' + 1) l (cnt, fs) by have := HT2.out; rwa [if_pos (tf_pos ⟨hm, HUN1.out⟩), if_neg (by rw [hg]; decide)] at this)
            have HSG := Aside0.mk (show (goLook P f' m s').1.1 ≤ s'.1 + 1 * P.length ^ f' from (grS P).go_size (next := nextLook) (stop := false) (size := fun s => s.1) (c := 1) (fun _ _ => Nat.le_refl _) (fun _ => Nat.le_refl _) f' m s')
            clear hm hg hm0 he0
            go_wp2_with fail
            repeat (go_quiet (fail); try go_wp2_with fail)
            go_region_law (first | (go_simp; go_at_call 33; refine (l1Own_calls _ c l _ (Kd.C_below HRQ.out (by repeat (first | (with_reducible first | exact HB.out | apply below_alloc | apply pw_below_drewN | apply below_drew1) | exact HB.out))) HC.out (by omega)).mono ?_; rintro e_ w1 ⟨v1, rfl, ho, hb⟩; have HO1 := Aside0.mk (Ow_lower ho (below_size (by repeat (first | (with_reducible first | exact HB.out | apply below_alloc | apply pw_below_drewN | apply below_drew1) | exact HB.out)))); have HBY := Aside0.mk hb; have n0_ := Aside0.mk (below_step (by repeat (first | (with_reducible first | exact HB.out | apply below_alloc | apply pw_below_drewN | apply below_drew1) | exact HB.out)) hb); clear HB ho hb; have HB := n0_; clear n0_) | (refine own_append_at (by rfl) _ _ (by rfl) wr.heap.size _ v1 l (y : Int) (by rfl) ?apO _ (by rfl) ?apC HLN.out ?apS ?_; (case apO => exact (by (with_reducible repeat (first | apply Kd.R_alloc | apply Kd.R_drewN | apply Kd.R_drew)); exact HO1.out)); (case apC => first | exact cell_of_one (heap_alloc_new _ _) | exact (Below.cell HBY.out (by simp)).trans (cell_of_one (heap_alloc_new _ _))); (case apS => exact below_size (by repeat (first | (with_reducible first | exact HB.out | apply below_alloc | apply pw_below_drewN | apply below_drew1) | exact HB.out))); intro v2 w2 ho hg; have n1_ := Aside0.mk (below_grown (by repeat (first | (with_reducible first | exact HB.out | apply below_alloc | apply pw_below_drewN | apply below_drew1) | exact HB.out)) hg (by (with_reducible repeat (first | apply Kd.R_alloc | apply Kd.R_drewN | apply Kd.R_drew)); exact HO1.out)); rw [HMM.out] at ho; have HO2 := Aside0.mk ho; clear HB ho hg; have HB := n1_; clear n1_) | (go_simp; go_at_call 25; refine (HIC.out v2 m M1 E _ s' (below_step HBP.out (by repeat (first | (with_reducible first | exact HB.out | apply below_alloc | apply pw_below_drewN | apply below_drew1) | exact HB.out))) (Ow_lower HO2.out (Nat.le_trans HBW.out HCH.out.size)) (fun k hk => by have := Kd.R_base HO2.out k hk; have := HCH.out.size; omega) (StLook_below HSR.out (by repeat (first | (with_reducible first | exact HB.out | apply below_alloc | apply pw_below_drewN | apply below_drew1) | exact HB.out))) HL2.out HSN.out HUQ.out HM1.out HE1.out HUN1.out).mono ?_; rintro e_ w3 ⟨rfl, hst, hch⟩; have HS3 := Aside0.mk hst; have HC4 := Aside0.mk ((HCH.out.below (by repeat (first | (with_reducible first | exact HB.out | apply below_alloc | apply pw_below_drewN | apply below_drew1) | exact HB.out))).trans hch (fun j _ h => h)); clear hst hch))
            all_goals
              repeat (go_quiet (fail); try go_wp2_with fail)
              try go_wp2_with fail
              go_roundg (gk - 1)
              case measure => have := HY.out; omega
              case rel => exact ⟨y + 1, _, by go_num, ⟨by have := HY.out; omega⟩, ⟨by rw [show gk - 1 = d by have := HGD.out; omega]; exact HN.out⟩, ⟨by rw [show gk - 1 = d by have := HGD.out; omega]; have := HSD.out; have := HSG.out; omega⟩, HS3, HC4⟩
      · have HF := Aside0.mk (show goLook P (f' + 1) l (cnt, fs) = (s', false) by rw [← HT.out, show gk = 0 by have := HY.out; omega, Seek.goL])
        go_wp2_with fail
        repeat (go_quiet (fail); try go_wp2_with fail)
        go_end0
        exact ⟨rfl, by rw [HF.out]; exact HSR.out, HCH.out⟩
theorem look_calls (wp : World) (Ap : Option Addr) (cp : Nat) (P : List Int) (f bc bf : Nat) (hrp : Rd wp Ap P) (hcp : P.length ≤ cp) (htree : Tree P) (hBc : wp.heap.size ≤ bc) (hBf : wp.heap.size ≤ bf) (hne : bc ≠ bf) : LookC wp Ap cp P f bc bf := by
  induction f with
  | zero => exact look_step wp Ap cp P 0 bc bf hrp hcp htree hBc hBf hne (fun f' h => by omega)
  | succ f ih => exact look_step wp Ap cp P (f + 1) bc bf hrp hcp htree hBc hBf hne (fun f' h => by rw [show f' = f by omega]; exact ih)
end Go.Proofs.Ytaodmegnbkimeaa.Own.G
