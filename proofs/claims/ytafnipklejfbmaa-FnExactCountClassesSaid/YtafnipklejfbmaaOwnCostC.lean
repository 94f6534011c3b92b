/- All Costas dots of n: the walk of the program's eachCostas with the functions that AllCostas and FirstCostas hand it; n up to 9. -/
import Derived.Test.YtafnipklejfbmaaOwnCostB
namespace Go.Proofs.Ytafnipklejfbmaa.Own.G
open Go.RowKit Go.Proofs.YtafnipklejfbmaaW.PrintWords Go.Proofs.YtafnipklejfbmaaW.PrintLast Go.Proofs.YtafnipklejfbmaaW.PrintMore
set_option linter.unusedVariables false
abbrev goAll (n f : Nat) (l : List Int) (s : List (List Int)) : List (List Int) × Bool := goC nextAll false n f l s
/-- What eachCostas does, with f dots left. -/
def EachAll (n f bo B : Nat) : Prop := ∀ (u : Value) (l : List Int) (w : World) (Q : Nat → Prop) (s : List (List Int)), Ow w B u l → (∀ k, u.ownBlock = some k → ¬ Q k ∧ k ≠ bo) → ¬ Q bo → StAll bo B w Q s → l.length + f = n → sizeAll s + 1 * n ^ f ≤ 1000000 → Upto9 l →
  Calls Try.prog 26 #[u, .int .i64 (n : Int), .func (.func 27) #[] #[.pointer (some ⟨bo, 0, none⟩)]] w fun e w' => e = .returned (.bool (goAll n f l s).2) ∧ StAll bo B w' (fun k => Q k ∨ u.ownBlock = some k ∨ w.heap.size ≤ k) (goAll n f l s).1 ∧ Chg (fun k => k = bo ∨ Q k) w w'
set_option maxRecDepth 8000 in
set_option maxHeartbeats 6400000 in
theorem eachAll_step (n f bo B : Nat) (hn : n ≤ 9) (hB : B ≤ bo) (hih : ∀ f', f = f' + 1 → EachAll n f' bo B) : EachAll n f bo B := by
  intro u l w Q s ho hq hb hst hlf hsz hup
  obtain ⟨A, c, rfl, hcap, hrd⟩ := Ow_form ho
  have hbo : bo < w.heap.size := by obtain ⟨v, hv, _⟩ := hst; exact lt_of_block hv
  have HIH := Aside0.mk hih
  have HO := Aside0.mk ho
  have HQ := Aside0.mk hq
  have HNB := Aside0.mk hb
  have HST := Aside0.mk hst
  have HC := Aside0.mk hcap
  have HU := Aside0.mk hup
  have HSZ := Aside0.mk hsz
  have HLF := Aside0.mk hlf
  have HBW := Aside0.mk (show B ≤ w.heap.size by omega)
  have hl9 : l.length ≤ 9 := by omega
  clear hih ho hq hb hst hcap hrd hsz hup
  by_cases hz : l.length = n
  · obtain rfl : f = 0 := by omega
    have ht : ((l.length : Int) == (n : Int)) = true := beq_iff_eq.mpr (by omega)
    have HF := Aside0.mk (show goAll n 0 l s = (nextAll s l, false) from rfl)
    have HX := Aside0.mk (show sizeAll s + 1 * 1 ≤ 1000000 by have := HSZ.out; rwa [Nat.pow_zero] at this)
    clear hz hlf
    go_enter Try.func26, Try.ntmps26
    go_wp2_with (go_at_call 27; refine (callAll bo B _ l _ Q s (by first | exact HO.out | exact Ow_drewN HO.out _) HQ.out HNB.out HST.out hB HX.out).mono ?_; rintro e w1 ⟨rfl, hst, hch⟩; have HST1 := Aside0.mk hst; have HCH := Aside0.mk hch; clear hst hch)
    go_ret
    exact ⟨by rw [HF.out]; rfl, by rw [HF.out]; exact HST1.out, HCH.out⟩
  · obtain ⟨f', rfl⟩ : ∃ f', f = f' + 1 := ⟨f - 1, by omega⟩
    have HIC := Aside0.mk (HIH.out f' rfl)
    have ht : ((l.length : Int) == (n : Int)) = false := beq_eq_false_iff_ne.mpr (by omega)
    have HFF := Aside0.mk (show goL (goAll n f') n l n s = goAll n (f' + 1) l s from rfl)
    have HS0 := Aside0.mk (show sizeAll s + n * (1 * n ^ f') ≤ 1000000 by have := HSZ.out; rwa [pow_step] at this)
    go_enter Try.func26, Try.ntmps26
    (go_wp2; repeat (go_quiet (fail); try go_wp2))
    go_loopg [17] n (fun g v17 w' => ∃ (y : Nat) (s' : List (List Int)), v17 = .int .i64 y ∧ Aside0 (y + g = n) ∧ Aside0 (goL (goAll n f') n l g s' = goAll n (f' + 1) l s) ∧ Aside0 (sizeAll s' + g * (1 * n ^ f') ≤ 1000000) ∧ Aside0 (StAll bo B w' (fun k => Q k ∨ w.heap.size ≤ k) s') ∧ Aside0 (Chg (fun k => k = bo ∨ Q k) w w'))
    case atStart => exact ⟨0, s, rfl, ⟨by omega⟩, HFF, HS0, ⟨StAll_mono (by first | exact HST.out | exact (StAll_drewN HST.out _)) (fun k hk => .inl hk)⟩, ⟨(Chg.refl _ w).below (by first | exact Below.refl _ _ | exact pw_below_drewN (Below.refl _ _) _)⟩⟩
    case round =>
      obtain ⟨y, s', rfl, HY, HT, HSS, HSR, HCH⟩ := hrel
      by_cases hy : y < n
      · obtain ⟨d, hd⟩ : ∃ d, gk = d + 1 := ⟨gk - 1, by have := HY.out; omega⟩
        have HGD := Aside0.mk hd
        have HSD := Aside0.mk (show sizeAll s' + (d * (1 * n ^ f') + 1 * n ^ f') ≤ 1000000 by have := HSS.out; rwa [hd, Nat.succ_mul] at this)
        have hT := HT.out
        rw [hd, goL, show n - (d + 1) = y by have := HY.out; omega] at hT
        have HT2 := Aside0.mk hT
        clear hT hd
        have HOR := Aside0.mk (Ow_chg HO.out HCH.out (fun k hk h => h.elim (HQ.out k hk).2 (HQ.out k hk).1))
        have HRQ := Aside0.mk (Ow_rd HOR.out)
        have HB := Aside0.mk (Below.refl wr.heap.size wr)
        have HBOR := Aside0.mk (show bo < wr.heap.size from Nat.lt_of_lt_of_le hbo HCH.out.size)
        by_cases hm : (y : Int) ∈ l
        · have H1 := Aside0.mk (decide_eq_true hm)
          have HN := Aside0.mk (show goL (goAll n f') n l d s' = goAll n (f' + 1) l s by have := HT2.out; rwa [if_pos hm] at this)
          clear hm
          go_wp2_with fail
          repeat (go_quiet (fail); try go_wp2_with fail)
          go_wp2_with ((go_at_call 41; refine (Contains_calls A c l _ _ (Kd.C_below HRQ.out (by repeat (first | (with_reducible first | exact HB.out | apply below_alloc | apply pw_below_drewN | apply below_drew1) | exact HB.out))) HC.out (by omega)).mono ?_; rw [H1.out]; rintro e w' ⟨rfl, ⟨nd, rfl⟩⟩))
          repeat (go_quiet (fail); try go_wp2)
          go_roundg (gk - 1)
          case measure => have := HY.out; omega
          case rel => exact ⟨y + 1, s', by go_num, ⟨by have := HY.out; omega⟩, ⟨by rw [show gk - 1 = d by have := HGD.out; omega]; exact HN.out⟩, ⟨by rw [show gk - 1 = d by have := HGD.out; omega]; have := HSD.out; omega⟩, ⟨StAll_mono (StAll_old HSR.out (by repeat (first | (with_reducible first | exact HB.out | apply below_alloc | apply pw_below_drewN | apply below_drew1) | exact HB.out))) (fun k hk => hk.1)⟩, ⟨HCH.out.below (by repeat (first | (with_reducible first | exact HB.out | apply below_alloc | apply pw_below_drewN | apply below_drew1) | exact HB.out))⟩⟩
        · have H1 := Aside0.mk (decide_eq_false hm)
          have hT := HT2.out
          rw [if_neg hm] at hT
          have HT3 := Aside0.mk hT
          clear hT hm
          have HLN := Aside0.mk (show l.length ≤ 1000000 by omega)
          have HLM := Aside0.mk (show (l ++ [(y : Int)]).length ≤ 1048576 by rw [List.length_append, List.length_singleton]; omega)
          have HL2 := Aside0.mk (show (l ++ [(y : Int)]).length + f' = n by rw [List.length_append, List.length_singleton]; omega)
          have HUQ := Aside0.mk (Upto9_snoc HU.out (show y ≤ 9 by omega))
          have HSM := Aside0.mk (Upto9_small HUQ.out)
          have HSN := Aside0.mk (show sizeAll s' + (1 * n ^ f') ≤ 1000000 by have := HSD.out; omega)
          have HQ2 := Aside0.mk (fun (W : World) (hW : Below wr.heap.size wr W) => StAll_old HSR.out hW)
          have HNB2 := Aside0.mk (show ¬ ((Q bo ∨ w.heap.size ≤ bo) ∧ bo < wr.heap.size) from fun h => h.1.elim HNB.out (fun h => by omega))
          have HTR := Aside0.mk (show ∀ j, j < w.heap.size → (j = bo ∨ ((Q j ∨ w.heap.size ≤ j) ∧ j < wr.heap.size)) → (j = bo ∨ Q j) from fun j hj h => by
            rcases h with h | h
            · exact .inl h
            · rcases h.1 with h | h
              · exact .inr h
              · omega)
          generalize hm_ : l ++ [(y : Int)] = m at HT3 HLM HL2 HUQ HSM
          have HM := Aside0.mk hm_
          clear hm_
          by_cases hc : costasB m = true
          · have H2 := Aside0.mk hc
            have hT := HT3.out
            rw [if_pos hc] at hT
            have HT4 := Aside0.mk hT
            clear hT hc
            have HSG := Aside0.mk (show sizeAll (goAll n f' m s').1 ≤ sizeAll s' + (1 * n ^ f') from goC_size nextAll_size n f' _ _)
            by_cases hg : (goAll n f' m s').2 = true
            · have HG := Aside0.mk hg
              have HF := Aside0.mk (show goAll n (f' + 1) l s = ((goAll n f' m s').1, true) by rw [← HT4.out, if_pos hg])
              clear hg
              go_wp2_with fail
              repeat (go_quiet (fail); try go_wp2_with fail)
              go_wp2_with (first | (go_at_call 41; refine (Contains_calls A c l _ _ (Kd.C_below HRQ.out (by repeat (first | (with_reducible first | exact HB.out | apply below_alloc | apply pw_below_drewN | apply below_drew1) | exact HB.out))) HC.out (by omega)).mono ?_; rw [H1.out]; rintro e w' ⟨rfl, ⟨nd, rfl⟩⟩) | (go_at_call 42; refine (Clone_calls _ _ l _ (Kd.C_below HRQ.out (by repeat (first | (with_reducible first | exact HB.out | apply below_alloc | apply pw_below_drewN | apply below_drew1) | exact HB.out))) HC.out (by omega)).mono ?_; rintro e w1 ⟨v1, rfl, ho, hb⟩; have HO1 := Aside0.mk (Ow_lower ho (below_size (by repeat (first | (with_reducible first | exact HB.out | apply below_alloc | apply pw_below_drewN | apply below_drew1) | exact HB.out)))); have n0_ := Aside0.mk (below_step (by repeat (first | (with_reducible first | exact HB.out | apply below_alloc | apply pw_below_drewN | apply below_drew1) | exact HB.out)) hb); clear HB ho hb; have HB := n0_; clear n0_) | (((with_reducible refine gate_builtin (b := .append) (xs := #[.tmp 24, .tmp 26]) rfl ?_); at_builtin; refine Kd.R_append (Kd.int .i64) (w0 := wr) wr.heap.size rfl (.tmp 24) (.tmp 26) 30 3 (.int .i64 0) 8 rfl Try.underlying30 infoInt rfl (by decide) (by omega) v1 l ((y : Int)) [.int .i64 ((y : Int))] (fun _ => True) (fun _ => False) rfl rfl rfl (fun _ hk => hk.elim) (fun _ _ => trivial) ?aO ?aB ?aS ?aL ?_; (case aO => exact (by (with_reducible repeat (first | apply Kd.R_alloc | apply Kd.R_drewN | apply Kd.R_drew)); exact HO1.out)); (case aB => exact (by repeat (first | (with_reducible first | exact HB.out | apply below_alloc | apply pw_below_drewN | apply below_drew1) | exact HB.out))); (case aS => exact below_size (by repeat (first | (with_reducible first | exact HB.out | apply below_alloc | apply pw_below_drewN | apply below_drew1) | exact HB.out))); (case aL => have := HLN.out; omega); intro v2 w2 ho_ hb_ hg_ hat_; have n0_ := Aside0.mk hb_; have n1_ := Aside0.mk ho_; clear HB HO1; have HB := n0_; have HO1 := n1_; clear n0_ n1_ ho_ hb_ hg_ hat_); have n0_ := HO1.out; rw [HM.out] at n0_; clear HO1; have HO1 := Aside0.mk n0_; clear n0_; obtain ⟨A2, c2, e2_, hc2_, _⟩ := Ow_form HO1.out; subst e2_; have HC2 := Aside0.mk hc2_; clear hc2_) | (go_at_call 43; refine (costas_calls A2 c2 m _ (Ow_rd (by first | exact HO1.out | exact Ow_drewN HO1.out _)) HC2.out HLM.out HSM.out).mono ?_; rw [H2.out]; rintro e w3 ⟨rfl, hb⟩; have n0_ := Aside0.mk (below_step (by repeat (first | (with_reducible first | exact HB.out | apply below_alloc | apply pw_below_drewN | apply below_drew1) | exact HB.out)) hb); have n1_ := Aside0.mk (Ow_below (by first | exact HO1.out | exact Ow_drewN HO1.out _) hb); clear HB HO1 hb; have HB := n0_; have HO1 := n1_; clear n0_ n1_) | (go_at_call 26; refine (HIC.out (.slice A2 m.length c2) m _ (fun k => (Q k ∨ w.heap.size ≤ k) ∧ k < wr.heap.size) s' (Ow_lower (by first | exact HO1.out | exact Ow_drewN HO1.out _) (Nat.le_trans HBW.out HCH.out.size)) (fun k hk => ⟨fun h => absurd h.2 (by have := Kd.R_base HO1.out k hk; omega), by have := Kd.R_base HO1.out k hk; have := HBOR.out; omega⟩) HNB2.out (HQ2.out _ (by repeat (first | (with_reducible first | exact HB.out | apply below_alloc | apply pw_below_drewN | apply below_drew1) | exact HB.out))) HL2.out HSN.out HUQ.out).mono ?_; rw [HG.out]; rintro e w4 ⟨rfl, hst, hch⟩; have HS3 := Aside0.mk (StAll_mono (Q' := fun k => Q k ∨ w.heap.size ≤ k) hst (fun k hk => by rcases hk with h | h | h; exact h.1; exact .inr (by have := Kd.R_base HO1.out k h; have := HCH.out.size; omega); exact .inr (Nat.le_trans (Nat.le_trans HCH.out.size (below_size (by repeat (first | (with_reducible first | exact HB.out | apply below_alloc | apply pw_below_drewN | apply below_drew1) | exact HB.out)))) h))); have HC3 := Aside0.mk ((HCH.out.below (by repeat (first | (with_reducible first | exact HB.out | apply below_alloc | apply pw_below_drewN | apply below_drew1) | exact HB.out))).trans hch HTR.out); clear hst hch))
              repeat (go_quiet (fail); try go_wp2)
              go_ret
              exact ⟨by rw [HF.out]; rfl, by rw [HF.out]; exact StAll_mono (by first | exact HS3.out | exact (StAll_drewN HS3.out _)) (fun k hk => by rcases hk with h | h; exact .inl h; exact .inr (.inr h)), HC3.out.below (by first | exact Below.refl _ _ | exact pw_below_drewN (Below.refl _ _) _)⟩
            · have HG := Aside0.mk (show (goAll n f' m s').2 = false by simpa using hg)
              have HN := Aside0.mk (show goL (goAll n f') n l d (goAll n f' m s').1 = goAll n (f' + 1) l s by have := HT4.out; rwa [if_neg hg] at this)
              clear hg
              go_wp2_with fail
              repeat (go_quiet (fail); try go_wp2_with fail)
              go_wp2_with (first | (go_at_call 41; refine (Contains_calls A c l _ _ (Kd.C_below HRQ.out (by repeat (first | (with_reducible first | exact HB.out | apply below_alloc | apply pw_below_drewN | apply below_drew1) | exact HB.out))) HC.out (by omega)).mono ?_; rw [H1.out]; rintro e w' ⟨rfl, ⟨nd, rfl⟩⟩) | (go_at_call 42; refine (Clone_calls _ _ l _ (Kd.C_below HRQ.out (by repeat (first | (with_reducible first | exact HB.out | apply below_alloc | apply pw_below_drewN | apply below_drew1) | exact HB.out))) HC.out (by omega)).mono ?_; rintro e w1 ⟨v1, rfl, ho, hb⟩; have HO1 := Aside0.mk (Ow_lower ho (below_size (by repeat (first | (with_reducible first | exact HB.out | apply below_alloc | apply pw_below_drewN | apply below_drew1) | exact HB.out)))); have n0_ := Aside0.mk (below_step (by repeat (first | (with_reducible first | exact HB.out | apply below_alloc | apply pw_below_drewN | apply below_drew1) | exact HB.out)) hb); clear HB ho hb; have HB := n0_; clear n0_) | (((with_reducible refine gate_builtin (b := .append) (xs := #[.tmp 24, .tmp 26]) rfl ?_); at_builtin; refine Kd.R_append (Kd.int .i64) (w0 := wr) wr.heap.size rfl (.tmp 24) (.tmp 26) 30 3 (.int .i64 0) 8 rfl Try.underlying30 infoInt rfl (by decide) (by omega) v1 l ((y : Int)) [.int .i64 ((y : Int))] (fun _ => True) (fun _ => False) rfl rfl rfl (fun _ hk => hk.elim) (fun _ _ => trivial) ?aO ?aB ?aS ?aL ?_; (case aO => exact (by (with_reducible repeat (first | apply Kd.R_alloc | apply Kd.R_drewN | apply Kd.R_drew)); exact HO1.out)); (case aB => exact (by repeat (first | (with_reducible first | exact HB.out | apply below_alloc | apply pw_below_drewN | apply below_drew1) | exact HB.out))); (case aS => exact below_size (by repeat (first | (with_reducible first | exact HB.out | apply below_alloc | apply pw_below_drewN | apply below_drew1) | exact HB.out))); (case aL => have := HLN.out; omega); intro v2 w2 ho_ hb_ hg_ hat_; have n0_ := Aside0.mk hb_; have n1_ := Aside0.mk ho_; clear HB HO1; have HB := n0_; have HO1 := n1_; clear n0_ n1_ ho_ hb_ hg_ hat_); have n0_ := HO1.out; rw [HM.out] at n0_; clear HO1; have HO1 := Aside0.mk n0_; clear n0_; obtain ⟨A2, c2, e2_, hc2_, _⟩ := Ow_form HO1.out; subst e2_; have HC2 := Aside0.mk hc2_; clear hc2_) | (go_at_call 43; refine (costas_calls A2 c2 m _ (Ow_rd (by first | exact HO1.out | exact Ow_drewN HO1.out _)) HC2.out HLM.out HSM.out).mono ?_; rw [H2.out]; rintro e w3 ⟨rfl, hb⟩; have n0_ := Aside0.mk (below_step (by repeat (first | (with_reducible first | exact HB.out | apply below_alloc | apply pw_below_drewN | apply below_drew1) | exact HB.out)) hb); have n1_ := Aside0.mk (Ow_below (by first | exact HO1.out | exact Ow_drewN HO1.out _) hb); clear HB HO1 hb; have HB := n0_; have HO1 := n1_; clear n0_ n1_) | (go_at_call 26; refine (HIC.out (.slice A2 m.length c2) m _ (fun k => (Q k ∨ w.heap.size ≤ k) ∧ k < wr.heap.size) s' (Ow_lower (by first | exact HO1.out | exact Ow_drewN HO1.out _) (Nat.le_trans HBW.out HCH.out.size)) (fun k hk => ⟨fun h => absurd h.2 (by have := Kd.R_base HO1.out k hk; omega), by have := Kd.R_base HO1.out k hk; have := HBOR.out; omega⟩) HNB2.out (HQ2.out _ (by repeat (first | (with_reducible first | exact HB.out | apply below_alloc | apply pw_below_drewN | apply below_drew1) | exact HB.out))) HL2.out HSN.out HUQ.out).mono ?_; rw [HG.out]; rintro e w4 ⟨rfl, hst, hch⟩; have HS3 := Aside0.mk (StAll_mono (Q' := fun k => Q k ∨ w.heap.size ≤ k) hst (fun k hk => by rcases hk with h | h | h; exact h.1; exact .inr (by have := Kd.R_base HO1.out k h; have := HCH.out.size; omega); exact .inr (Nat.le_trans (Nat.le_trans HCH.out.size (below_size (by repeat (first | (with_reducible first | exact HB.out | apply below_alloc | apply pw_below_drewN | apply below_drew1) | exact HB.out)))) h))); have HC3 := Aside0.mk ((HCH.out.below (by repeat (first | (with_reducible first | exact HB.out | apply below_alloc | apply pw_below_drewN | apply below_drew1) | exact HB.out))).trans hch HTR.out); clear hst hch))
              repeat (go_quiet (fail); try go_wp2)
              go_roundg (gk - 1)
              case measure => have := HY.out; omega
              case rel => exact ⟨y + 1, _, by go_num, ⟨by have := HY.out; omega⟩, ⟨by rw [show gk - 1 = d by have := HGD.out; omega]; exact HN.out⟩, ⟨by rw [show gk - 1 = d by have := HGD.out; omega]; have := HSD.out; have := HSG.out; omega⟩, ⟨by first | exact HS3.out | exact (StAll_drewN HS3.out _)⟩, ⟨HC3.out.below (by first | exact Below.refl _ _ | exact pw_below_drewN (Below.refl _ _) _)⟩⟩
          · have H2 := Aside0.mk (show costasB m = false by simpa using hc)
            have HN := Aside0.mk (show goL (goAll n f') n l d s' = goAll n (f' + 1) l s by have := HT3.out; rwa [if_neg hc] at this)
            clear hc
            go_wp2_with fail
            repeat (go_quiet (fail); try go_wp2_with fail)
            go_wp2_with (first | (go_at_call 41; refine (Contains_calls A c l _ _ (Kd.C_below HRQ.out (by repeat (first | (with_reducible first | exact HB.out | apply below_alloc | apply pw_below_drewN | apply below_drew1) | exact HB.out))) HC.out (by omega)).mono ?_; rw [H1.out]; rintro e w' ⟨rfl, ⟨nd, rfl⟩⟩) | (go_at_call 42; refine (Clone_calls _ _ l _ (Kd.C_below HRQ.out (by repeat (first | (with_reducible first | exact HB.out | apply below_alloc | apply pw_below_drewN | apply below_drew1) | exact HB.out))) HC.out (by omega)).mono ?_; rintro e w1 ⟨v1, rfl, ho, hb⟩; have HO1 := Aside0.mk (Ow_lower ho (below_size (by repeat (first | (with_reducible first | exact HB.out | apply below_alloc | apply pw_below_drewN | apply below_drew1) | exact HB.out)))); have n0_ := Aside0.mk (below_step (by repeat (first | (with_reducible first | exact HB.out | apply below_alloc | apply pw_below_drewN | apply below_drew1) | exact HB.out)) hb); clear HB ho hb; have HB := n0_; clear n0_) | (((with_reducible refine gate_builtin (b := .append) (xs := #[.tmp 24, .tmp 26]) rfl ?_); at_builtin; refine Kd.R_append (Kd.int .i64) (w0 := wr) wr.heap.size rfl (.tmp 24) (.tmp 26) 30 3 (.int .i64 0) 8 rfl Try.underlying30 infoInt rfl (by decide) (by omega) v1 l ((y : Int)) [.int .i64 ((y : Int))] (fun _ => True) (fun _ => False) rfl rfl rfl (fun _ hk => hk.elim) (fun _ _ => trivial) ?aO ?aB ?aS ?aL ?_; (case aO => exact (by (with_reducible repeat (first | apply Kd.R_alloc | apply Kd.R_drewN | apply Kd.R_drew)); exact HO1.out)); (case aB => exact (by repeat (first | (with_reducible first | exact HB.out | apply below_alloc | apply pw_below_drewN | apply below_drew1) | exact HB.out))); (case aS => exact below_size (by repeat (first | (with_reducible first | exact HB.out | apply below_alloc | apply pw_below_drewN | apply below_drew1) | exact HB.out))); (case aL => have := HLN.out; omega); intro v2 w2 ho_ hb_ hg_ hat_; have n0_ := Aside0.mk hb_; have n1_ := Aside0.mk ho_; clear HB HO1; have HB := n0_; have HO1 := n1_; clear n0_ n1_ ho_ hb_ hg_ hat_); have n0_ := HO1.out; rw [HM.out] at n0_; clear HO1; have HO1 := Aside0.mk n0_; clear n0_; obtain ⟨A2, c2, e2_, hc2_, _⟩ := Ow_form HO1.out; subst e2_; have HC2 := Aside0.mk hc2_; clear hc2_) | (go_at_call 43; refine (costas_calls A2 c2 m _ (Ow_rd (by first | exact HO1.out | exact Ow_drewN HO1.out _)) HC2.out HLM.out HSM.out).mono ?_; rw [H2.out]; rintro e w3 ⟨rfl, hb⟩; have n0_ := Aside0.mk (below_step (by repeat (first | (with_reducible first | exact HB.out | apply below_alloc | apply pw_below_drewN | apply below_drew1) | exact HB.out)) hb); have n1_ := Aside0.mk (Ow_below (by first | exact HO1.out | exact Ow_drewN HO1.out _) hb); clear HB HO1 hb; have HB := n0_; have HO1 := n1_; clear n0_ n1_))
            repeat (go_quiet (fail); try go_wp2)
            go_roundg (gk - 1)
            case measure => have := HY.out; omega
            case rel => exact ⟨y + 1, s', by go_num, ⟨by have := HY.out; omega⟩, ⟨by rw [show gk - 1 = d by have := HGD.out; omega]; exact HN.out⟩, ⟨by rw [show gk - 1 = d by have := HGD.out; omega]; have := HSD.out; omega⟩, ⟨StAll_mono (StAll_old HSR.out (by repeat (first | (with_reducible first | exact HB.out | apply below_alloc | apply pw_below_drewN | apply below_drew1) | exact HB.out))) (fun k hk => hk.1)⟩, ⟨HCH.out.below (by repeat (first | (with_reducible first | exact HB.out | apply below_alloc | apply pw_below_drewN | apply below_drew1) | exact HB.out))⟩⟩
      · have HF := Aside0.mk (show goAll n (f' + 1) l s = (s', false) by rw [← HT.out, show gk = 0 by have := HY.out; omega, goL])
        (go_wp2; repeat (go_quiet (fail); try go_wp2))
        go_ret
        exact ⟨by rw [HF.out]; rfl, by rw [HF.out]; exact StAll_mono (by first | exact HSR.out | exact (StAll_drewN HSR.out _)) (fun k hk => by rcases hk with h | h; exact .inl h; exact .inr (.inr h)), HCH.out.below (by first | exact Below.refl _ _ | exact pw_below_drewN (Below.refl _ _) _)⟩
abbrev goFirst (n f : Nat) (l : List Int) (s : List Int) : List Int × Bool := goC nextFirst true n f l s
/-- What eachCostas does, with f dots left. -/
def EachFirst (n f bo B : Nat) : Prop := ∀ (u : Value) (l : List Int) (w : World) (Q : Nat → Prop) (s : List Int), Ow w B u l → (∀ k, u.ownBlock = some k → ¬ Q k ∧ k ≠ bo) → ¬ Q bo → StFirst bo B w Q s → l.length + f = n → sizeFirst s + 0 * n ^ f ≤ 1000000 → Upto9 l →
  Calls Try.prog 26 #[u, .int .i64 (n : Int), .func (.func 28) #[] #[.pointer (some ⟨bo, 0, none⟩)]] w fun e w' => e = .returned (.bool (goFirst n f l s).2) ∧ StFirst bo B w' (fun k => Q k ∨ u.ownBlock = some k ∨ w.heap.size ≤ k) (goFirst n f l s).1 ∧ Chg (fun k => k = bo ∨ Q k) w w'
set_option maxRecDepth 8000 in
set_option maxHeartbeats 6400000 in
theorem eachFirst_step (n f bo B : Nat) (hn : n ≤ 9) (hB : B ≤ bo) (hih : ∀ f', f = f' + 1 → EachFirst n f' bo B) : EachFirst n f bo B := by
  intro u l w Q s ho hq hb hst hlf hsz hup
  obtain ⟨A, c, rfl, hcap, hrd⟩ := Ow_form ho
  have hbo : bo < w.heap.size := by obtain ⟨v, hv, _⟩ := hst; exact lt_of_block hv
  have HIH := Aside0.mk hih
  have HO := Aside0.mk ho
  have HQ := Aside0.mk hq
  have HNB := Aside0.mk hb
  have HST := Aside0.mk hst
  have HC := Aside0.mk hcap
  have HU := Aside0.mk hup
  have HSZ := Aside0.mk hsz
  have HLF := Aside0.mk hlf
  have HBW := Aside0.mk (show B ≤ w.heap.size by omega)
  have hl9 : l.length ≤ 9 := by omega
  clear hih ho hq hb hst hcap hrd hsz hup
  by_cases hz : l.length = n
  · obtain rfl : f = 0 := by omega
    have ht : ((l.length : Int) == (n : Int)) = true := beq_iff_eq.mpr (by omega)
    have HF := Aside0.mk (show goFirst n 0 l s = (nextFirst s l, true) from rfl)
    have HX := Aside0.mk (show sizeFirst s + 0 * 1 ≤ 1000000 by have := HSZ.out; rwa [Nat.pow_zero] at this)
    clear hz hlf
    go_enter Try.func26, Try.ntmps26
    go_wp2_with (go_at_call 28; refine (callFirst bo B _ l _ Q s (by first | exact HO.out | exact Ow_drewN HO.out _) HQ.out HNB.out HST.out hB ).mono ?_; rintro e w1 ⟨rfl, hst, hch⟩; have HST1 := Aside0.mk hst; have HCH := Aside0.mk hch; clear hst hch)
    go_ret
    exact ⟨by rw [HF.out]; rfl, by rw [HF.out]; exact HST1.out, HCH.out⟩
  · obtain ⟨f', rfl⟩ : ∃ f', f = f' + 1 := ⟨f - 1, by omega⟩
    have HIC := Aside0.mk (HIH.out f' rfl)
    have ht : ((l.length : Int) == (n : Int)) = false := beq_eq_false_iff_ne.mpr (by omega)
    have HFF := Aside0.mk (show goL (goFirst n f') n l n s = goFirst n (f' + 1) l s from rfl)
    have HS0 := Aside0.mk (show sizeFirst s + n * (0 * n ^ f') ≤ 1000000 by have := HSZ.out; rwa [pow_step] at this)
    go_enter Try.func26, Try.ntmps26
    (go_wp2; repeat (go_quiet (fail); try go_wp2))
    go_loopg [17] n (fun g v17 w' => ∃ (y : Nat) (s' : List Int), v17 = .int .i64 y ∧ Aside0 (y + g = n) ∧ Aside0 (goL (goFirst n f') n l g s' = goFirst n (f' + 1) l s) ∧ Aside0 (sizeFirst s' + g * (0 * n ^ f') ≤ 1000000) ∧ Aside0 (StFirst bo B w' (fun k => Q k ∨ w.heap.size ≤ k) s') ∧ Aside0 (Chg (fun k => k = bo ∨ Q k) w w'))
    case atStart => exact ⟨0, s, rfl, ⟨by omega⟩, HFF, HS0, ⟨StFirst_mono (by first | exact HST.out | exact (StFirst_drewN HST.out _)) (fun k hk => .inl hk)⟩, ⟨(Chg.refl _ w).below (by first | exact Below.refl _ _ | exact pw_below_drewN (Below.refl _ _) _)⟩⟩
    case round =>
      obtain ⟨y, s', rfl, HY, HT, HSS, HSR, HCH⟩ := hrel
      by_cases hy : y < n
      · obtain ⟨d, hd⟩ : ∃ d, gk = d + 1 := ⟨gk - 1, by have := HY.out; omega⟩
        have HGD := Aside0.mk hd
        have HSD := Aside0.mk (show sizeFirst s' + (d * (0 * n ^ f') + 0 * n ^ f') ≤ 1000000 by have := HSS.out; rwa [hd, Nat.succ_mul] at this)
        have hT := HT.out
        rw [hd, goL, show n - (d + 1) = y by have := HY.out; omega] at hT
        have HT2 := Aside0.mk hT
        clear hT hd
        have HOR := Aside0.mk (Ow_chg HO.out HCH.out (fun k hk h => h.elim (HQ.out k hk).2 (HQ.out k hk).1))
        have HRQ := Aside0.mk (Ow_rd HOR.out)
        have HB := Aside0.mk (Below.refl wr.heap.size wr)
        have HBOR := Aside0.mk (show bo < wr.heap.size from Nat.lt_of_lt_of_le hbo HCH.out.size)
        by_cases hm : (y : Int) ∈ l
        · have H1 := Aside0.mk (decide_eq_true hm)
          have HN := Aside0.mk (show goL (goFirst n f') n l d s' = goFirst n (f' + 1) l s by have := HT2.out; rwa [if_pos hm] at this)
          clear hm
          go_wp2_with fail
          repeat (go_quiet (fail); try go_wp2_with fail)
          go_wp2_with ((go_at_call 41; refine (Contains_calls A c l _ _ (Kd.C_below HRQ.out (by repeat (first | (with_reducible first | exact HB.out | apply below_alloc | apply pw_below_drewN | apply below_drew1) | exact HB.out))) HC.out (by omega)).mono ?_; rw [H1.out]; rintro e w' ⟨rfl, ⟨nd, rfl⟩⟩))
          repeat (go_quiet (fail); try go_wp2)
          go_roundg (gk - 1)
          case measure => have := HY.out; omega
          case rel => exact ⟨y + 1, s', by go_num, ⟨by have := HY.out; omega⟩, ⟨by rw [show gk - 1 = d by have := HGD.out; omega]; exact HN.out⟩, ⟨by rw [show gk - 1 = d by have := HGD.out; omega]; have := HSD.out; omega⟩, ⟨StFirst_mono (StFirst_old HSR.out (by repeat (first | (with_reducible first | exact HB.out | apply below_alloc | apply pw_below_drewN | apply below_drew1) | exact HB.out))) (fun k hk => hk.1)⟩, ⟨HCH.out.below (by repeat (first | (with_reducible first | exact HB.out | apply below_alloc | apply pw_below_drewN | apply below_drew1) | exact HB.out))⟩⟩
        · have H1 := Aside0.mk (decide_eq_false hm)
          have hT := HT2.out
          rw [if_neg hm] at hT
          have HT3 := Aside0.mk hT
          clear hT hm
          have HLN := Aside0.mk (show l.length ≤ 1000000 by omega)
          have HLM := Aside0.mk (show (l ++ [(y : Int)]).length ≤ 1048576 by rw [List.length_append, List.length_singleton]; omega)
          have HL2 := Aside0.mk (show (l ++ [(y : Int)]).length + f' = n by rw [List.length_append, List.length_singleton]; omega)
          have HUQ := Aside0.mk (Upto9_snoc HU.out (show y ≤ 9 by omega))
          have HSM := Aside0.mk (Upto9_small HUQ.out)
          have HSN := Aside0.mk (show sizeFirst s' + (0 * n ^ f') ≤ 1000000 by have := HSD.out; omega)
          have HQ2 := Aside0.mk (fun (W : World) (hW : Below wr.heap.size wr W) => StFirst_old HSR.out hW)
          have HNB2 := Aside0.mk (show ¬ ((Q bo ∨ w.heap.size ≤ bo) ∧ bo < wr.heap.size) from fun h => h.1.elim HNB.out (fun h => by omega))
          have HTR := Aside0.mk (show ∀ j, j < w.heap.size → (j = bo ∨ ((Q j ∨ w.heap.size ≤ j) ∧ j < wr.heap.size)) → (j = bo ∨ Q j) from fun j hj h => by
            rcases h with h | h
            · exact .inl h
            · rcases h.1 with h | h
              · exact .inr h
              · omega)
          generalize hm_ : l ++ [(y : Int)] = m at HT3 HLM HL2 HUQ HSM
          have HM := Aside0.mk hm_
          clear hm_
          by_cases hc : costasB m = true
          · have H2 := Aside0.mk hc
            have hT := HT3.out
            rw [if_pos hc] at hT
            have HT4 := Aside0.mk hT
            clear hT hc
            have HSG := Aside0.mk (show sizeFirst (goFirst n f' m s').1 ≤ sizeFirst s' + (0 * n ^ f') from goC_size nextFirst_size n f' _ _)
            by_cases hg : (goFirst n f' m s').2 = true
            · have HG := Aside0.mk hg
              have HF := Aside0.mk (show goFirst n (f' + 1) l s = ((goFirst n f' m s').1, true) by rw [← HT4.out, if_pos hg])
              clear hg
              go_wp2_with fail
              repeat (go_quiet (fail); try go_wp2_with fail)
              go_wp2_with (first | (go_at_call 41; refine (Contains_calls A c l _ _ (Kd.C_below HRQ.out (by repeat (first | (with_reducible first | exact HB.out | apply below_alloc | apply pw_below_drewN | apply below_drew1) | exact HB.out))) HC.out (by omega)).mono ?_; rw [H1.out]; rintro e w' ⟨rfl, ⟨nd, rfl⟩⟩) | (go_at_call 42; refine (Clone_calls _ _ l _ (Kd.C_below HRQ.out (by repeat (first | (with_reducible first | exact HB.out | apply below_alloc | apply pw_below_drewN | apply below_drew1) | exact HB.out))) HC.out (by omega)).mono ?_; rintro e w1 ⟨v1, rfl, ho, hb⟩; have HO1 := Aside0.mk (Ow_lower ho (below_size (by repeat (first | (with_reducible first | exact HB.out | apply below_alloc | apply pw_below_drewN | apply below_drew1) | exact HB.out)))); have n0_ := Aside0.mk (below_step (by repeat (first | (with_reducible first | exact HB.out | apply below_alloc | apply pw_below_drewN | apply below_drew1) | exact HB.out)) hb); clear HB ho hb; have HB := n0_; clear n0_) | (((with_reducible refine gate_builtin (b := .append) (xs := #[.tmp 24, .tmp 26]) rfl ?_); at_builtin; refine Kd.R_append (Kd.int .i64) (w0 := wr) wr.heap.size rfl (.tmp 24) (.tmp 26) 30 3 (.int .i64 0) 8 rfl Try.underlying30 infoInt rfl (by decide) (by omega) v1 l ((y : Int)) [.int .i64 ((y : Int))] (fun _ => True) (fun _ => False) rfl rfl rfl (fun _ hk => hk.elim) (fun _ _ => trivial) ?aO ?aB ?aS ?aL ?_; (case aO => exact (by (with_reducible repeat (first | apply Kd.R_alloc | apply Kd.R_drewN | apply Kd.R_drew)); exact HO1.out)); (case aB => exact (by repeat (first | (with_reducible first | exact HB.out | apply below_alloc | apply pw_below_drewN | apply below_drew1) | exact HB.out))); (case aS => exact below_size (by repeat (first | (with_reducible first | exact HB.out | apply below_alloc | apply pw_below_drewN | apply below_drew1) | exact HB.out))); (case aL => have := HLN.out; omega); intro v2 w2 ho_ hb_ hg_ hat_; have n0_ := Aside0.mk hb_; have n1_ := Aside0.mk ho_; clear HB HO1; have HB := n0_; have HO1 := n1_; clear n0_ n1_ ho_ hb_ hg_ hat_); have n0_ := HO1.out; rw [HM.out] at n0_; clear HO1; have HO1 := Aside0.mk n0_; clear n0_; obtain ⟨A2, c2, e2_, hc2_, _⟩ := Ow_form HO1.out; subst e2_; have HC2 := Aside0.mk hc2_; clear hc2_) | (go_at_call 43; refine (costas_calls A2 c2 m _ (Ow_rd (by first | exact HO1.out | exact Ow_drewN HO1.out _)) HC2.out HLM.out HSM.out).mono ?_; rw [H2.out]; rintro e w3 ⟨rfl, hb⟩; have n0_ := Aside0.mk (below_step (by repeat (first | (with_reducible first | exact HB.out | apply below_alloc | apply pw_below_drewN | apply below_drew1) | exact HB.out)) hb); have n1_ := Aside0.mk (Ow_below (by first | exact HO1.out | exact Ow_drewN HO1.out _) hb); clear HB HO1 hb; have HB := n0_; have HO1 := n1_; clear n0_ n1_) | (go_at_call 26; refine (HIC.out (.slice A2 m.length c2) m _ (fun k => (Q k ∨ w.heap.size ≤ k) ∧ k < wr.heap.size) s' (Ow_lower (by first | exact HO1.out | exact Ow_drewN HO1.out _) (Nat.le_trans HBW.out HCH.out.size)) (fun k hk => ⟨fun h => absurd h.2 (by have := Kd.R_base HO1.out k hk; omega), by have := Kd.R_base HO1.out k hk; have := HBOR.out; omega⟩) HNB2.out (HQ2.out _ (by repeat (first | (with_reducible first | exact HB.out | apply below_alloc | apply pw_below_drewN | apply below_drew1) | exact HB.out))) HL2.out HSN.out HUQ.out).mono ?_; rw [HG.out]; rintro e w4 ⟨rfl, hst, hch⟩; have HS3 := Aside0.mk (StFirst_mono (Q' := fun k => Q k ∨ w.heap.size ≤ k) hst (fun k hk => by rcases hk with h | h | h; exact h.1; exact .inr (by have := Kd.R_base HO1.out k h; have := HCH.out.size; omega); exact .inr (Nat.le_trans (Nat.le_trans HCH.out.size (below_size (by repeat (first | (with_reducible first | exact HB.out | apply below_alloc | apply pw_below_drewN | apply below_drew1) | exact HB.out)))) h))); have HC3 := Aside0.mk ((HCH.out.below (by repeat (first | (with_reducible first | exact HB.out | apply below_alloc | apply pw_below_drewN | apply below_drew1) | exact HB.out))).trans hch HTR.out); clear hst hch))
              repeat (go_quiet (fail); try go_wp2)
              go_ret
              exact ⟨by rw [HF.out]; rfl, by rw [HF.out]; exact StFirst_mono (by first | exact HS3.out | exact (StFirst_drewN HS3.out _)) (fun k hk => by rcases hk with h | h; exact .inl h; exact .inr (.inr h)), HC3.out.below (by first | exact Below.refl _ _ | exact pw_below_drewN (Below.refl _ _) _)⟩
            · have HG := Aside0.mk (show (goFirst n f' m s').2 = false by simpa using hg)
              have HN := Aside0.mk (show goL (goFirst n f') n l d (goFirst n f' m s').1 = goFirst n (f' + 1) l s by have := HT4.out; rwa [if_neg hg] at this)
              clear hg
              go_wp2_with fail
              repeat (go_quiet (fail); try go_wp2_with fail)
              go_wp2_with (first | (go_at_call 41; refine (Contains_calls A c l _ _ (Kd.C_below HRQ.out (by repeat (first | (with_reducible first | exact HB.out | apply below_alloc | apply pw_below_drewN | apply below_drew1) | exact HB.out))) HC.out (by omega)).mono ?_; rw [H1.out]; rintro e w' ⟨rfl, ⟨nd, rfl⟩⟩) | (go_at_call 42; refine (Clone_calls _ _ l _ (Kd.C_below HRQ.out (by repeat (first | (with_reducible first | exact HB.out | apply below_alloc | apply pw_below_drewN | apply below_drew1) | exact HB.out))) HC.out (by omega)).mono ?_; rintro e w1 ⟨v1, rfl, ho, hb⟩; have HO1 := Aside0.mk (Ow_lower ho (below_size (by repeat (first | (with_reducible first | exact HB.out | apply below_alloc | apply pw_below_drewN | apply below_drew1) | exact HB.out)))); have n0_ := Aside0.mk (below_step (by repeat (first | (with_reducible first | exact HB.out | apply below_alloc | apply pw_below_drewN | apply below_drew1) | exact HB.out)) hb); clear HB ho hb; have HB := n0_; clear n0_) | (((with_reducible refine gate_builtin (b := .append) (xs := #[.tmp 24, .tmp 26]) rfl ?_); at_builtin; refine Kd.R_append (Kd.int .i64) (w0 := wr) wr.heap.size rfl (.tmp 24) (.tmp 26) 30 3 (.int .i64 0) 8 rfl Try.underlying30 infoInt rfl (by decide) (by omega) v1 l ((y : Int)) [.int .i64 ((y : Int))] (fun _ => True) (fun _ => False) rfl rfl rfl (fun _ hk => hk.elim) (fun _ _ => trivial) ?aO ?aB ?aS ?aL ?_; (case aO => exact (by (with_reducible repeat (first | apply Kd.R_alloc | apply Kd.R_drewN | apply Kd.R_drew)); exact HO1.out)); (case aB => exact (by repeat (first | (with_reducible first | exact HB.out | apply below_alloc | apply pw_below_drewN | apply below_drew1) | exact HB.out))); (case aS => exact below_size (by repeat (first | (with_reducible first | exact HB.out | apply below_alloc | apply pw_below_drewN | apply below_drew1) | exact HB.out))); (case aL => have := HLN.out; omega); intro v2 w2 ho_ hb_ hg_ hat_; have n0_ := Aside0.mk hb_; have n1_ := Aside0.mk ho_; clear HB HO1; have HB := n0_; have HO1 := n1_; clear n0_ n1_ ho_ hb_ hg_ hat_); have n0_ := HO1.out; rw [HM.out] at n0_; clear HO1; have HO1 := Aside0.mk n0_; clear n0_; obtain ⟨A2, c2, e2_, hc2_, _⟩ := Ow_form HO1.out; subst e2_; have HC2 := Aside0.mk hc2_; clear hc2_) | (go_at_call 43; refine (costas_calls A2 c2 m _ (Ow_rd (by first | exact HO1.out | exact Ow_drewN HO1.out _)) HC2.out HLM.out HSM.out).mono ?_; rw [H2.out]; rintro e w3 ⟨rfl, hb⟩; have n0_ := Aside0.mk (below_step (by repeat (first | (with_reducible first | exact HB.out | apply below_alloc | apply pw_below_drewN | apply below_drew1) | exact HB.out)) hb); have n1_ := Aside0.mk (Ow_below (by first | exact HO1.out | exact Ow_drewN HO1.out _) hb); clear HB HO1 hb; have HB := n0_; have HO1 := n1_; clear n0_ n1_) | (go_at_call 26; refine (HIC.out (.slice A2 m.length c2) m _ (fun k => (Q k ∨ w.heap.size ≤ k) ∧ k < wr.heap.size) s' (Ow_lower (by first | exact HO1.out | exact Ow_drewN HO1.out _) (Nat.le_trans HBW.out HCH.out.size)) (fun k hk => ⟨fun h => absurd h.2 (by have := Kd.R_base HO1.out k hk; omega), by have := Kd.R_base HO1.out k hk; have := HBOR.out; omega⟩) HNB2.out (HQ2.out _ (by repeat (first | (with_reducible first | exact HB.out | apply below_alloc | apply pw_below_drewN | apply below_drew1) | exact HB.out))) HL2.out HSN.out HUQ.out).mono ?_; rw [HG.out]; rintro e w4 ⟨rfl, hst, hch⟩; have HS3 := Aside0.mk (StFirst_mono (Q' := fun k => Q k ∨ w.heap.size ≤ k) hst (fun k hk => by rcases hk with h | h | h; exact h.1; exact .inr (by have := Kd.R_base HO1.out k h; have := HCH.out.size; omega); exact .inr (Nat.le_trans (Nat.le_trans HCH.out.size (below_size (by repeat (first | (with_reducible first | exact HB.out | apply below_alloc | apply pw_below_drewN | apply below_drew1) | exact HB.out)))) h))); have HC3 := Aside0.mk ((HCH.out.below (by repeat (first | (with_reducible first | exact HB.out | apply below_alloc | apply pw_below_drewN | apply below_drew1) | exact HB.out))).trans hch HTR.out); clear hst hch))
              repeat (go_quiet (fail); try go_wp2)
              go_roundg (gk - 1)
              case measure => have := HY.out; omega
              case rel => exact ⟨y + 1, _, by go_num, ⟨by have := HY.out; omega⟩, ⟨by rw [show gk - 1 = d by have := HGD.out; omega]; exact HN.out⟩, ⟨by rw [show gk - 1 = d by have := HGD.out; omega]; have := HSD.out; have := HSG.out; omega⟩, ⟨by first | exact HS3.out | exact (StFirst_drewN HS3.out _)⟩, ⟨HC3.out.below (by first | exact Below.refl _ _ | exact pw_below_drewN (Below.refl _ _) _)⟩⟩
          · have H2 := Aside0.mk (show costasB m = false by simpa using hc)
            have HN := Aside0.mk (show goL (goFirst n f') n l d s' = goFirst n (f' + 1) l s by have := HT3.out; rwa [if_neg hc] at this)
            clear hc
            go_wp2_with fail
            repeat (go_quiet (fail); try go_wp2_with fail)
            go_wp2_with (first | (go_at_call 41; refine (Contains_calls A c l _ _ (Kd.C_below HRQ.out (by repeat (first | (with_reducible first | exact HB.out | apply below_alloc | apply pw_below_drewN | apply below_drew1) | exact HB.out))) HC.out (by omega)).mono ?_; rw [H1.out]; rintro e w' ⟨rfl, ⟨nd, rfl⟩⟩) | (go_at_call 42; refine (Clone_calls _ _ l _ (Kd.C_below HRQ.out (by repeat (first | (with_reducible first | exact HB.out | apply below_alloc | apply pw_below_drewN | apply below_drew1) | exact HB.out))) HC.out (by omega)).mono ?_; rintro e w1 ⟨v1, rfl, ho, hb⟩; have HO1 := Aside0.mk (Ow_lower ho (below_size (by repeat (first | (with_reducible first | exact HB.out | apply below_alloc | apply pw_below_drewN | apply below_drew1) | exact HB.out)))); have n0_ := Aside0.mk (below_step (by repeat (first | (with_reducible first | exact HB.out | apply below_alloc | apply pw_below_drewN | apply below_drew1) | exact HB.out)) hb); clear HB ho hb; have HB := n0_; clear n0_) | (((with_reducible refine gate_builtin (b := .append) (xs := #[.tmp 24, .tmp 26]) rfl ?_); at_builtin; refine Kd.R_append (Kd.int .i64) (w0 := wr) wr.heap.size rfl (.tmp 24) (.tmp 26) 30 3 (.int .i64 0) 8 rfl Try.underlying30 infoInt rfl (by decide) (by omega) v1 l ((y : Int)) [.int .i64 ((y : Int))] (fun _ => True) (fun _ => False) rfl rfl rfl (fun _ hk => hk.elim) (fun _ _ => trivial) ?aO ?aB ?aS ?aL ?_; (case aO => exact (by (with_reducible repeat (first | apply Kd.R_alloc | apply Kd.R_drewN | apply Kd.R_drew)); exact HO1.out)); (case aB => exact (by repeat (first | (with_reducible first | exact HB.out | apply below_alloc | apply pw_below_drewN | apply below_drew1) | exact HB.out))); (case aS => exact below_size (by repeat (first | (with_reducible first | exact HB.out | apply below_alloc | apply pw_below_drewN | apply below_drew1) | exact HB.out))); (case aL => have := HLN.out; omega); intro v2 w2 ho_ hb_ hg_ hat_; have n0_ := Aside0.mk hb_; have n1_ := Aside0.mk ho_; clear HB HO1; have HB := n0_; have HO1 := n1_; clear n0_ n1_ ho_ hb_ hg_ hat_); have n0_ := HO1.out; rw [HM.out] at n0_; clear HO1; have HO1 := Aside0.mk n0_; clear n0_; obtain ⟨A2, c2, e2_, hc2_, _⟩ := Ow_form HO1.out; subst e2_; have HC2 := Aside0.mk hc2_; clear hc2_) | (go_at_call 43; refine (costas_calls A2 c2 m _ (Ow_rd (by first | exact HO1.out | exact Ow_drewN HO1.out _)) HC2.out HLM.out HSM.out).mono ?_; rw [H2.out]; rintro e w3 ⟨rfl, hb⟩; have n0_ := Aside0.mk (below_step (by repeat (first | (with_reducible first | exact HB.out | apply below_alloc | apply pw_below_drewN | apply below_drew1) | exact HB.out)) hb); have n1_ := Aside0.mk (Ow_below (by first | exact HO1.out | exact Ow_drewN HO1.out _) hb); clear HB HO1 hb; have HB := n0_; have HO1 := n1_; clear n0_ n1_))
            repeat (go_quiet (fail); try go_wp2)
            go_roundg (gk - 1)
            case measure => have := HY.out; omega
            case rel => exact ⟨y + 1, s', by go_num, ⟨by have := HY.out; omega⟩, ⟨by rw [show gk - 1 = d by have := HGD.out; omega]; exact HN.out⟩, ⟨by rw [show gk - 1 = d by have := HGD.out; omega]; have := HSD.out; omega⟩, ⟨StFirst_mono (StFirst_old HSR.out (by repeat (first | (with_reducible first | exact HB.out | apply below_alloc | apply pw_below_drewN | apply below_drew1) | exact HB.out))) (fun k hk => hk.1)⟩, ⟨HCH.out.below (by repeat (first | (with_reducible first | exact HB.out | apply below_alloc | apply pw_below_drewN | apply below_drew1) | exact HB.out))⟩⟩
      · have HF := Aside0.mk (show goFirst n (f' + 1) l s = (s', false) by rw [← HT.out, show gk = 0 by have := HY.out; omega, goL])
        (go_wp2; repeat (go_quiet (fail); try go_wp2))
        go_ret
        exact ⟨by rw [HF.out]; rfl, by rw [HF.out]; exact StFirst_mono (by first | exact HSR.out | exact (StFirst_drewN HSR.out _)) (fun k hk => by rcases hk with h | h; exact .inl h; exact .inr (.inr h)), HCH.out.below (by first | exact Below.refl _ _ | exact pw_below_drewN (Below.refl _ _) _)⟩
end Go.Proofs.Ytafnipklejfbmaa.Own.G
