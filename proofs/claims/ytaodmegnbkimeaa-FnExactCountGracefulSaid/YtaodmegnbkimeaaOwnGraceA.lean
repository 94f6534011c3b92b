/- Graceful labels of a tree: the walk of the program's graceful with the functions that CountGraceful and FirstGraceful hand it; trees of at most 9 nodes. -/
import Derived.Test.YtaodmegnbkimeaaOwnVar
import Derived.Test.YtaodmegnbkimeaaOwnSeek
import Derived.Test.YtaodmegnbkimeaaOwnLabelD
import Derived.Test.YtaodmegnbkimeaaOwnSh
namespace Go.Proofs.Ytaodmegnbkimeaa.Own.G
open Go.RowKit Go.Proofs.YtaodmegnbkimeaaW.PrintWords Go.Proofs.YtaodmegnbkimeaaW.PrintLast Go.Proofs.YtaodmegnbkimeaaW.PrintMore
set_option linter.unusedVariables false
/-- The search for graceful labels of a tree. -/
noncomputable def grS (P : List Int) : Seek := { n := P.length, st := fun _ => P.length, t := fun l y => tf (y ∉ l ∧ Unl (edges P (l ++ [y]) ((l ++ [y]).length - 1))), o := fun _ => true, q := fun _ => true, fin := fun l => l }
def Upto9 (l : List Int) : Prop := ∀ x ∈ l, 0 ≤ x ∧ x ≤ 9
theorem Upto9_snoc {l : List Int} (h : Upto9 l) {k : Nat} (hk : k ≤ 9) : Upto9 (l ++ [(k : Int)]) := fun x hx => by
  rcases List.mem_append.mp hx with h1 | h1
  · exact h x h1
  · rw [List.mem_singleton.mp h1]; omega
theorem Upto9_low {l : List Int} (h : Upto9 l) : Low l := fun x hx => by have := h x hx; omega
def nextCount (s : Nat) (l : List Int) : Nat := s + 1
def sizeCount (s : Nat) : Nat := s
def nextFirst (s : List Int) (l : List Int) : List Int := l
def sizeFirst (s : List Int) : Nat := 0
/-- What the captured variable holds. -/
def StCount (bo B : Nat) (w : World) (Q : Nat → Prop) (s : Nat) : Prop := Var w bo 3 (.int .i64 (s : Int))
def StFirst (bo B : Nat) (w : World) (Q : Nat → Prop) (s : List Int) : Prop := ∃ v, Var w bo 22 v ∧ Kd.R (Kd.int .i64) 3 w B Q v s
theorem StCount_lt {bo B : Nat} {w : World} {Q : Nat → Prop} {s : Nat} (h : StCount bo B w Q s) : bo < w.heap.size := lt_of_block h
theorem StFirst_lt {bo B : Nat} {w : World} {Q : Nat → Prop} {s : List Int} (h : StFirst bo B w Q s) : bo < w.heap.size := by obtain ⟨v, hv, _⟩ := h; exact lt_of_block hv
theorem StCount_mono {bo B : Nat} {w : World} {Q Q' : Nat → Prop} {s : Nat} (h : StCount bo B w Q s) (hq : ∀ k, Q k → Q' k) : StCount bo B w Q' s := h
theorem StFirst_mono {bo B : Nat} {w : World} {Q Q' : Nat → Prop} {s : List Int} (h : StFirst bo B w Q s) (hq : ∀ k, Q k → Q' k) : StFirst bo B w Q' s := h.imp fun v hv => ⟨hv.1, Kd.R_mono hv.2 hq⟩
theorem StCount_old {bo B : Nat} {w w1 : World} {Q : Nat → Prop} {s : Nat} (h : StCount bo B w Q s) (hb : Below w.heap.size w w1) : StCount bo B w1 (fun k => Q k ∧ k < w.heap.size) s := Var.below h hb
theorem StFirst_old {bo B : Nat} {w w1 : World} {Q : Nat → Prop} {s : List Int} (h : StFirst bo B w Q s) (hb : Below w.heap.size w w1) : StFirst bo B w1 (fun k => Q k ∧ k < w.heap.size) s :=
  h.imp fun v hv => ⟨hv.1.below hb, Kd.R_mono (Kd.R_below (Kd.R_bound hv.2) hb) (fun k hk => ⟨hk.1, hk.2.2.1⟩)⟩
theorem StCount_drewN {bo B : Nat} {w : World} {Q : Nat → Prop} {s : Nat} (h : StCount bo B w Q s) (n : Nat) : StCount bo B (w.drewN n) Q s := h
theorem StFirst_drewN {bo B : Nat} {w : World} {Q : Nat → Prop} {s : List Int} (h : StFirst bo B w Q s) (n : Nat) : StFirst bo B (w.drewN n) Q s := h.imp fun v hv => ⟨hv.1, Kd.R_drewN hv.2 n⟩
theorem nextCount_size (s : Nat) (l : List Int) : sizeCount (nextCount s l) ≤ sizeCount s + 1 := Nat.le_refl _
theorem nextFirst_size (s : List Int) (l : List Int) : sizeFirst (nextFirst s l) ≤ sizeFirst s + 0 := by simp [sizeFirst]
set_option maxHeartbeats 1600000 in
theorem callCount (bo B : Nat) (u : Value) (l : List Int) (w : World) (Q : Nat → Prop) (s : Nat) (hp : Ow w B u l) (hq : ∀ k, u.ownBlock = some k → ¬ Q k ∧ k ≠ bo) (hb : ¬ Q bo) (hs : StCount bo B w Q s) (hB : B ≤ bo) (hx : sizeCount s + 1 ≤ 1000000000) :
    Calls Try.prog 20 #[u, .pointer (some ⟨bo, 0, none⟩)] w fun e w' => e = .returned (.bool false) ∧ StCount bo B w' (fun k => Q k ∨ u.ownBlock = some k ∨ w.heap.size ≤ k) (nextCount s l) ∧ Chg (fun k => k = bo ∨ Q k) w w' := by
  have hv : Var w bo 3 (.int .i64 (s : Int)) := hs
  obtain ⟨Au, cu, rfl⟩ := Kd.R_slice hp
  have hc := cell_of_one hv
  have hf := free_of_one hv
  have HV := Aside0.mk hv
  have hx2 : s + 1 ≤ 1000000000 := hx
  clear hv hs hp hq hb hx
  go_enter Try.func20, Try.ntmps20
  go_wp2
  go_ret
  refine ⟨rfl, Var.put HV.out _, (Chg.refl _ w).put (fun _ => .inl rfl) 0 _⟩
set_option maxHeartbeats 1600000 in
theorem callFirst (bo B : Nat) (u : Value) (l : List Int) (w : World) (Q : Nat → Prop) (s : List Int) (hp : Ow w B u l) (hq : ∀ k, u.ownBlock = some k → ¬ Q k ∧ k ≠ bo) (hb : ¬ Q bo) (hs : StFirst bo B w Q s) (hB : B ≤ bo) :
    Calls Try.prog 21 #[u, .pointer (some ⟨bo, 0, none⟩)] w fun e w' => e = .returned (.bool true) ∧ StFirst bo B w' (fun k => Q k ∨ u.ownBlock = some k ∨ w.heap.size ≤ k) (nextFirst s l) ∧ Chg (fun k => k = bo ∨ Q k) w w' := by
  obtain ⟨v, hv, ho⟩ := hs
  obtain ⟨Av, cv, rfl⟩ := Kd.R_slice ho
  obtain ⟨Au, cu, rfl⟩ := Kd.R_slice hp
  have hc := cell_of_one hv
  have hf := free_of_one hv
  have HV := Aside0.mk hv
  have HP := Aside0.mk hp
  have HQ := Aside0.mk hq
  clear hv ho hp hq hb
  go_enter Try.func21, Try.ntmps21
  go_wp2
  go_ret
  refine ⟨rfl, ⟨_, Var.put HV.out _, ?_⟩, (Chg.refl _ w).put (fun _ => .inl rfl) 0 _⟩
  exact Kd.R_far (Ow_re (ok := fun k => (.slice Au l.length cu : Value).ownBlock = some k) HP.out (fun k hk => hk)) (fun k hk => (HQ.out k hk).2) _ |> fun h => Kd.R_mono h (fun k hk => .inr (.inl hk))
noncomputable abbrev goCount (P : List Int) (f : Nat) (l : List Int) (s : Nat) : Nat × Bool := (grS P).go nextCount false f l s
/-- What graceful does, with f labels left; the parents came in at the world wp. -/
def GrcCount (wp : World) (Ap : Option Addr) (cp : Nat) (P : List Int) (f bo : Nat) : Prop := ∀ (u : Value) (l : List Int) (w : World) (Q : Nat → Prop) (s : Nat), Below wp.heap.size wp w → Ow w wp.heap.size u l → (∀ k, u.ownBlock = some k → ¬ Q k ∧ k ≠ bo) → ¬ Q bo → (∀ k, Q k → wp.heap.size ≤ k) → StCount bo wp.heap.size w Q s → l.length + f = P.length → sizeCount s + 1 * P.length ^ f ≤ 1000000000 → Upto9 l →
  Calls Try.prog 19 #[.slice Ap P.length cp, u, .func (.func 20) #[] #[.pointer (some ⟨bo, 0, none⟩)]] w fun e w' => e = .returned (.bool (goCount P f l s).2) ∧ StCount bo wp.heap.size w' (fun k => Q k ∨ u.ownBlock = some k ∨ w.heap.size ≤ k) (goCount P f l s).1 ∧ Chg (fun k => k = bo ∨ Q k) w w'
set_option maxRecDepth 8000 in
set_option maxHeartbeats 6400000 in
theorem grcCount_step (wp : World) (Ap : Option Addr) (cp : Nat) (P : List Int) (f bo : Nat) (hrp : Rd wp Ap P) (hcp : P.length ≤ cp) (htree : Tree P) (hB : wp.heap.size ≤ bo) (hih : ∀ f', f = f' + 1 → GrcCount wp Ap cp P f' bo) : GrcCount wp Ap cp P f bo := by
  intro u l w Q s hbp ho hq hb hqb hst hlf hsz hup
  obtain ⟨A, c, rfl, hcap, hrd⟩ := Ow_form ho
  have hbo : bo < w.heap.size := StCount_lt hst
  have hn := htree.1.1
  have HRP := Aside0.mk hrp
  have HCP := Aside0.mk hcp
  have HTREE := Aside0.mk htree
  have HBP0 := Aside0.mk hbp
  have HIH := Aside0.mk hih
  have HO := Aside0.mk ho
  have HQ := Aside0.mk hq
  have HQB := Aside0.mk hqb
  have HNB := Aside0.mk hb
  have HST := Aside0.mk hst
  have HC := Aside0.mk hcap
  have HU := Aside0.mk hup
  have HSZ := Aside0.mk hsz
  have HLF := Aside0.mk hlf
  have HBW := Aside0.mk (show wp.heap.size ≤ w.heap.size by omega)
  have hl9 : l.length ≤ 9 := by omega
  clear hih ho hq hb hst hcap hrd hsz hup hrp hcp htree hbp hqb
  by_cases hz : l.length = P.length
  · obtain rfl : f = 0 := by omega
    have ht : ((l.length : Int) == (P.length : Int)) = true := beq_iff_eq.mpr (by omega)
    have HF := Aside0.mk (show goCount P 0 l s = (nextCount s l, false) from rfl)
    have HX := Aside0.mk (show sizeCount s + 1 * 1 ≤ 1000000000 by have := HSZ.out; rwa [Nat.pow_zero] at this)
    clear hz hlf
    go_enter Try.func19, Try.ntmps19
    go_wp2_with (go_at_call 20; refine (callCount bo wp.heap.size _ l _ Q s (by first | exact HO.out | exact Ow_drewN HO.out _) HQ.out HNB.out HST.out hB HX.out).mono ?_; rintro e w1 ⟨rfl, hst, hch⟩; have HST1 := Aside0.mk hst; have HCH := Aside0.mk hch; clear hst hch)
    go_ret
    exact ⟨by rw [HF.out]; rfl, by rw [HF.out]; exact HST1.out, HCH.out⟩
  · obtain ⟨f', rfl⟩ : ∃ f', f = f' + 1 := ⟨f - 1, by omega⟩
    have HIC := Aside0.mk (HIH.out f' rfl)
    have ht : ((l.length : Int) == (P.length : Int)) = false := beq_eq_false_iff_ne.mpr (by omega)
    have HFF := Aside0.mk (show (grS P).goL (goCount P f') l P.length s = goCount P (f' + 1) l s from rfl)
    have HS0 := Aside0.mk (show sizeCount s + P.length * (1 * P.length ^ f') ≤ 1000000000 by have := HSZ.out; rwa [Seek.pow_step] at this)
    go_enter Try.func19, Try.ntmps19
    (go_wp2; repeat (go_quiet (fail); try go_wp2))
    go_loopg [19] P.length (fun g v19 w' => ∃ (y : Nat) (s' : Nat), v19 = .int .i64 y ∧ Aside0 (y + g = P.length) ∧ Aside0 ((grS P).goL (goCount P f') l g s' = goCount P (f' + 1) l s) ∧ Aside0 (sizeCount s' + g * (1 * P.length ^ f') ≤ 1000000000) ∧ Aside0 (StCount bo wp.heap.size w' (fun k => Q k ∨ w.heap.size ≤ k) s') ∧ Aside0 (Chg (fun k => k = bo ∨ Q k) w w'))
    case atStart => exact ⟨0, s, rfl, ⟨by omega⟩, HFF, HS0, ⟨StCount_mono (by first | exact HST.out | exact (StCount_drewN HST.out _)) (fun k hk => .inl hk)⟩, ⟨(Chg.refl _ w).below (by first | exact Below.refl _ _ | exact pw_below_drewN (Below.refl _ _) _)⟩⟩
    case round =>
      obtain ⟨y, s', rfl, HY, HT, HSS, HSR, HCH⟩ := hrel
      by_cases hy : y < P.length
      · obtain ⟨d, hd⟩ : ∃ d, gk = d + 1 := ⟨gk - 1, by have := HY.out; omega⟩
        have HGD := Aside0.mk hd
        have HSD := Aside0.mk (show sizeCount s' + (d * (1 * P.length ^ f') + 1 * P.length ^ f') ≤ 1000000000 by have := HSS.out; rwa [hd, Nat.succ_mul] at this)
        have hT := HT.out
        rw [hd, Seek.goL, show (grS P).y (d + 1) = (y : Int) from (show ((P.length - (d + 1) : Nat) : Int) = (y : Int) by have := HY.out; omega), show (grS P).t l (y : Int) = tf ((y : Int) ∉ l ∧ Unl (edges P (l ++ [(y : Int)]) ((l ++ [(y : Int)]).length - 1))) from rfl] at hT
        have HT2 := Aside0.mk hT
        clear hT hd
        have HOR := Aside0.mk (Ow_chg HO.out HCH.out (fun k hk h => h.elim (HQ.out k hk).2 (HQ.out k hk).1))
        have HRQ := Aside0.mk (Ow_rd HOR.out)
        have HBP := Aside0.mk (HBP0.out.trans (HCH.out.to HBW.out (fun k hk h => h.elim (fun e => by omega) (fun h => by have := HQB.out k h; omega))))
        have HB := Aside0.mk (Below.refl wr.heap.size wr)
        have HBOR := Aside0.mk (show bo < wr.heap.size from Nat.lt_of_lt_of_le hbo HCH.out.size)
        by_cases hm : (y : Int) ∈ l
        · have H1 := Aside0.mk (decide_eq_true hm)
          have HN := Aside0.mk (show (grS P).goL (goCount P f') l d s' = goCount P (f' + 1) l s by have := HT2.out; rwa [if_neg (by rw [tf_neg (fun h => h.1 hm)]; decide)] at this)
          clear hm
          go_wp2_with fail
          repeat (go_quiet (fail); try go_wp2_with fail)
          go_wp2_with ((go_at_call 27; refine (Contains_calls A c l _ _ (Kd.C_below HRQ.out (by repeat (first | (with_reducible first | exact HB.out | apply below_alloc | apply pw_below_drewN | apply below_drew1) | exact HB.out))) HC.out (by omega)).mono ?_; rw [H1.out]; rintro e w' ⟨rfl, ⟨nd, rfl⟩⟩))
          repeat (go_quiet (fail); try go_wp2)
          go_roundg (gk - 1)
          case measure => have := HY.out; omega
          case rel => exact ⟨y + 1, s', by go_num, ⟨by have := HY.out; omega⟩, ⟨by rw [show gk - 1 = d by have := HGD.out; omega]; exact HN.out⟩, ⟨by rw [show gk - 1 = d by have := HGD.out; omega]; have := HSD.out; omega⟩, ⟨StCount_mono (StCount_old HSR.out (by repeat (first | (with_reducible first | exact HB.out | apply below_alloc | apply pw_below_drewN | apply below_drew1) | exact HB.out))) (fun k hk => hk.1)⟩, ⟨HCH.out.below (by repeat (first | (with_reducible first | exact HB.out | apply below_alloc | apply pw_below_drewN | apply below_drew1) | exact HB.out))⟩⟩
        · have H1 := Aside0.mk (decide_eq_false hm)
          have hT := HT2.out
          have HLN := Aside0.mk (show l.length ≤ 1000000 by omega)
          have HML := Aside0.mk (show (l ++ [(y : Int)]).length ≤ P.length by rw [List.length_append, List.length_singleton]; omega)
          have HM1 := Aside0.mk (show 1 ≤ (l ++ [(y : Int)]).length by rw [List.length_append, List.length_singleton]; omega)
          have HL2 := Aside0.mk (show (l ++ [(y : Int)]).length + f' = P.length by rw [List.length_append, List.length_singleton]; omega)
          have HUQ := Aside0.mk (Upto9_snoc HU.out (show y ≤ 9 by omega))
          have HLO := Aside0.mk (Upto9_low HUQ.out)
          have HSN := Aside0.mk (show sizeCount s' + 1 * P.length ^ f' ≤ 1000000000 by have := HSD.out; omega)
          have HQ2 := Aside0.mk (fun (W : World) (hW : Below wr.heap.size wr W) => StCount_old HSR.out hW)
          have HNB2 := Aside0.mk (show ¬ ((Q bo ∨ w.heap.size ≤ bo) ∧ bo < wr.heap.size) from fun h => h.1.elim HNB.out (fun h => by omega))
          have HQB2 := Aside0.mk (show ∀ k, ((Q k ∨ w.heap.size ≤ k) ∧ k < wr.heap.size) → wp.heap.size ≤ k from fun k h => h.1.elim (HQB.out k) (fun h => by have := HBW.out; omega))
          have HTR := Aside0.mk (show ∀ j, j < w.heap.size → (j = bo ∨ ((Q j ∨ w.heap.size ≤ j) ∧ j < wr.heap.size)) → (j = bo ∨ Q j) from fun j hj h => by
            rcases h with h | h
            · exact .inl h
            · rcases h.1 with h | h
              · exact .inr h
              · omega)
          generalize hm_ : l ++ [(y : Int)] = m at hT HML HM1 HL2 HUQ HLO
          have HM := Aside0.mk hm_
          clear hm_
          have HDN := Aside0.mk (show (edges P m (m.length - 1)).length ≤ 1048576 by rw [edges_length]; have := HML.out; omega)
          generalize hdd_ : edges P m (m.length - 1) = dd at hT HDN
          have HDD := Aside0.mk hdd_
          have HT3 := Aside0.mk hT
          clear hT hdd_
          by_cases hc : Unl dd
          · have HU2 := Aside0.mk (tf_pos hc)
            have hT := HT3.out
            rw [if_pos (tf_pos ⟨hm, hc⟩)] at hT
            have HT4 := Aside0.mk hT
            clear hT hc hm
            have HSG := Aside0.mk (show sizeCount (goCount P f' m s').1 ≤ sizeCount s' + 1 * P.length ^ f' from (grS P).go_size nextCount_size (fun _ => Nat.le_refl _) f' _ _)
            by_cases hg : (goCount P f' m s').2 = true
            · have HG := Aside0.mk hg
              have HF := Aside0.mk (show goCount P (f' + 1) l s = ((goCount P f' m s').1, true) by rw [← HT4.out, if_pos hg])
              clear hg
              go_wp2_with fail
              repeat (go_quiet (fail); try go_wp2_with fail)
              go_wp2_with (first | (go_at_call 27; refine (Contains_calls A c l _ _ (Kd.C_below HRQ.out (by repeat (first | (with_reducible first | exact HB.out | apply below_alloc | apply pw_below_drewN | apply below_drew1) | exact HB.out))) HC.out (by omega)).mono ?_; rw [H1.out]; rintro e w' ⟨rfl, ⟨nd, rfl⟩⟩) | (go_at_call 28; refine (Clone_calls _ _ l _ (Kd.C_below HRQ.out (by repeat (first | (with_reducible first | exact HB.out | apply below_alloc | apply pw_below_drewN | apply below_drew1) | exact HB.out))) HC.out (by omega)).mono ?_; rintro e w1 ⟨v1, rfl, ho, hb⟩; have HO1 := Aside0.mk (Ow_lower ho (below_size (by repeat (first | (with_reducible first | exact HB.out | apply below_alloc | apply pw_below_drewN | apply below_drew1) | exact HB.out)))); have n0_ := Aside0.mk (below_step (by repeat (first | (with_reducible first | exact HB.out | apply below_alloc | apply pw_below_drewN | apply below_drew1) | exact HB.out)) hb); clear HB ho hb; have HB := n0_; clear n0_) | (((with_reducible refine gate_builtin (b := .append) (xs := #[.tmp 26, .tmp 28]) rfl ?_); at_builtin; refine Kd.R_append (Kd.int .i64) (w0 := wr) wr.heap.size rfl (.tmp 26) (.tmp 28) 22 3 (.int .i64 0) 8 rfl Try.underlying22 infoInt rfl (by decide) (by omega) v1 l ((y : Int)) [.int .i64 ((y : Int))] (fun _ => True) (fun _ => False) rfl rfl rfl (fun _ hk => hk.elim) (fun _ _ => trivial) ?aO ?aB ?aS ?aL ?_; (case aO => exact (by (with_reducible repeat (first | apply Kd.R_alloc | apply Kd.R_drewN | apply Kd.R_drew)); exact HO1.out)); (case aB => exact (by repeat (first | (with_reducible first | exact HB.out | apply below_alloc | apply pw_below_drewN | apply below_drew1) | exact HB.out))); (case aS => exact below_size (by repeat (first | (with_reducible first | exact HB.out | apply below_alloc | apply pw_below_drewN | apply below_drew1) | exact HB.out))); (case aL => have := HLN.out; omega); intro v2 w2 ho_ hb_ hg_ hat_; have n0_ := Aside0.mk hb_; have n1_ := Aside0.mk ho_; clear HB HO1; have HB := n0_; have HO1 := n1_; clear n0_ n1_ ho_ hb_ hg_ hat_); have n0_ := HO1.out; rw [HM.out] at n0_; clear HO1; have HO1 := Aside0.mk n0_; clear n0_; obtain ⟨A2, c2, e2_, hc2_, _⟩ := Ow_form HO1.out; subst e2_; have HC2 := Aside0.mk hc2_; clear hc2_) | (go_at_call 30; refine (edgeLabels_calls Ap cp P A2 c2 m _ (Kd.C_below HRP.out (below_step HBP.out (by repeat (first | (with_reducible first | exact HB.out | apply below_alloc | apply pw_below_drewN | apply below_drew1) | exact HB.out)))) HCP.out (Ow_rd (by first | exact HO1.out | exact Ow_drewN HO1.out _)) HC2.out HTREE.out HLO.out HML.out (Nat.le_refl _) HM1.out).mono ?_; rw [HDD.out]; rintro e w3 ⟨v3, rfl, ho, hb⟩; have n1_ := Aside0.mk (Ow_below (by first | exact HO1.out | exact Ow_drewN HO1.out _) hb); have HO3 := Aside0.mk (Ow_lower ho (below_size (by repeat (first | (with_reducible first | exact HB.out | apply below_alloc | apply pw_below_drewN | apply below_drew1) | exact HB.out)))); have n0_ := Aside0.mk (below_step (by repeat (first | (with_reducible first | exact HB.out | apply below_alloc | apply pw_below_drewN | apply below_drew1) | exact HB.out)) hb); clear HB HO1 ho hb; have HB := n0_; have HO1 := n1_; clear n0_ n1_; obtain ⟨A3, c3, e3_, hc3_, _⟩ := Ow_form HO3.out; subst e3_; have HC3 := Aside0.mk hc3_; clear hc3_) | (go_at_call 29; refine (unlike_calls A3 c3 dd _ (Ow_rd (by first | exact HO3.out | exact Ow_drewN HO3.out _)) HC3.out HDN.out).mono ?_; rw [HU2.out]; rintro e w' ⟨rfl, ⟨nd2, rfl⟩⟩) | (go_at_call 19; refine (HIC.out (.slice A2 m.length c2) m _ (fun k => (Q k ∨ w.heap.size ≤ k) ∧ k < wr.heap.size) s' (below_step HBP.out (by repeat (first | (with_reducible first | exact HB.out | apply below_alloc | apply pw_below_drewN | apply below_drew1) | exact HB.out))) (Ow_lower (by first | exact HO1.out | exact Ow_drewN HO1.out _) (Nat.le_trans HBW.out HCH.out.size)) (fun k hk => ⟨fun h => absurd h.2 (by have := Kd.R_base HO1.out k hk; omega), by have := Kd.R_base HO1.out k hk; have := HBOR.out; omega⟩) HNB2.out HQB2.out (HQ2.out _ (by repeat (first | (with_reducible first | exact HB.out | apply below_alloc | apply pw_below_drewN | apply below_drew1) | exact HB.out))) HL2.out HSN.out HUQ.out).mono ?_; rw [HG.out]; rintro e w4 ⟨rfl, hst, hch⟩; have HS3 := Aside0.mk (StCount_mono (Q' := fun k => Q k ∨ w.heap.size ≤ k) hst (fun k hk => by rcases hk with h | h | h; exact h.1; exact .inr (by have := Kd.R_base HO1.out k h; have := HCH.out.size; omega); exact .inr (Nat.le_trans (Nat.le_trans HCH.out.size (below_size (by repeat (first | (with_reducible first | exact HB.out | apply below_alloc | apply pw_below_drewN | apply below_drew1) | exact HB.out)))) h))); have HC4 := Aside0.mk ((HCH.out.below (by repeat (first | (with_reducible first | exact HB.out | apply below_alloc | apply pw_below_drewN | apply below_drew1) | exact HB.out))).trans hch HTR.out); clear hst hch))
              repeat (go_quiet (fail); try go_wp2)
              go_ret
              exact ⟨by rw [HF.out]; rfl, by rw [HF.out]; exact StCount_mono (by first | exact HS3.out | exact (StCount_drewN HS3.out _)) (fun k hk => by rcases hk with h | h; exact .inl h; exact .inr (.inr h)), HC4.out.below (by first | exact Below.refl _ _ | exact pw_below_drewN (Below.refl _ _) _)⟩
            · have HG := Aside0.mk (show (goCount P f' m s').2 = false by simpa using hg)
              have HN := Aside0.mk (show (grS P).goL (goCount P f') l d (goCount P f' m s').1 = goCount P (f' + 1) l s by have := HT4.out; rwa [if_neg hg] at this)
              clear hg
              go_wp2_with fail
              repeat (go_quiet (fail); try go_wp2_with fail)
              go_wp2_with (first | (go_at_call 27; refine (Contains_calls A c l _ _ (Kd.C_below HRQ.out (by repeat (first | (with_reducible first | exact HB.out | apply below_alloc | apply pw_below_drewN | apply below_drew1) | exact HB.out))) HC.out (by omega)).mono ?_; rw [H1.out]; rintro e w' ⟨rfl, ⟨nd, rfl⟩⟩) | (go_at_call 28; refine (Clone_calls _ _ l _ (Kd.C_below HRQ.out (by repeat (first | (with_reducible first | exact HB.out | apply below_alloc | apply pw_below_drewN | apply below_drew1) | exact HB.out))) HC.out (by omega)).mono ?_; rintro e w1 ⟨v1, rfl, ho, hb⟩; have HO1 := Aside0.mk (Ow_lower ho (below_size (by repeat (first | (with_reducible first | exact HB.out | apply below_alloc | apply pw_below_drewN | apply below_drew1) | exact HB.out)))); have n0_ := Aside0.mk (below_step (by repeat (first | (with_reducible first | exact HB.out | apply below_alloc | apply pw_below_drewN | apply below_drew1) | exact HB.out)) hb); clear HB ho hb; have HB := n0_; clear n0_) | (((with_reducible refine gate_builtin (b := .append) (xs := #[.tmp 26, .tmp 28]) rfl ?_); at_builtin; refine Kd.R_append (Kd.int .i64) (w0 := wr) wr.heap.size rfl (.tmp 26) (.tmp 28) 22 3 (.int .i64 0) 8 rfl Try.underlying22 infoInt rfl (by decide) (by omega) v1 l ((y : Int)) [.int .i64 ((y : Int))] (fun _ => True) (fun _ => False) rfl rfl rfl (fun _ hk => hk.elim) (fun _ _ => trivial) ?aO ?aB ?aS ?aL ?_; (case aO => exact (by (with_reducible repeat (first | apply Kd.R_alloc | apply Kd.R_drewN | apply Kd.R_drew)); exact HO1.out)); (case aB => exact (by repeat (first | (with_reducible first | exact HB.out | apply below_alloc | apply pw_below_drewN | apply below_drew1) | exact HB.out))); (case aS => exact below_size (by repeat (first | (with_reducible first | exact HB.out | apply below_alloc | apply pw_below_drewN | apply below_drew1) | exact HB.out))); (case aL => have := HLN.out; omega); intro v2 w2 ho_ hb_ hg_ hat_; have n0_ := Aside0.mk hb_; have n1_ := Aside0.mk ho_; clear HB HO1; have HB := n0_; have HO1 := n1_; clear n0_ n1_ ho_ hb_ hg_ hat_); have n0_ := HO1.out; rw [HM.out] at n0_; clear HO1; have HO1 := Aside0.mk n0_; clear n0_; obtain ⟨A2, c2, e2_, hc2_, _⟩ := Ow_form HO1.out; subst e2_; have HC2 := Aside0.mk hc2_; clear hc2_) | (go_at_call 30; refine (edgeLabels_calls Ap cp P A2 c2 m _ (Kd.C_below HRP.out (below_step HBP.out (by repeat (first | (with_reducible first | exact HB.out | apply below_alloc | apply pw_below_drewN | apply below_drew1) | exact HB.out)))) HCP.out (Ow_rd (by first | exact HO1.out | exact Ow_drewN HO1.out _)) HC2.out HTREE.out HLO.out HML.out (Nat.le_refl _) HM1.out).mono ?_; rw [HDD.out]; rintro e w3 ⟨v3, rfl, ho, hb⟩; have n1_ := Aside0.mk (Ow_below (by first | exact HO1.out | exact Ow_drewN HO1.out _) hb); have HO3 := Aside0.mk (Ow_lower ho (below_size (by repeat (first | (with_reducible first | exact HB.out | apply below_alloc | apply pw_below_drewN | apply below_drew1) | exact HB.out)))); have n0_ := Aside0.mk (below_step (by repeat (first | (with_reducible first | exact HB.out | apply below_alloc | apply pw_below_drewN | apply below_drew1) | exact HB.out)) hb); clear HB HO1 ho hb; have HB := n0_; have HO1 := n1_; clear n0_ n1_; obtain ⟨A3, c3, e3_, hc3_, _⟩ := Ow_form HO3.out; subst e3_; have HC3 := Aside0.mk hc3_; clear hc3_) | (go_at_call 29; refine (unlike_calls A3 c3 dd _ (Ow_rd (by first | exact HO3.out | exact Ow_drewN HO3.out _)) HC3.out HDN.out).mono ?_; rw [HU2.out]; rintro e w' ⟨rfl, ⟨nd2, rfl⟩⟩) | (go_at_call 19; refine (HIC.out (.slice A2 m.length c2) m _ (fun k => (Q k ∨ w.heap.size ≤ k) ∧ k < wr.heap.size) s' (below_step HBP.out (by repeat (first | (with_reducible first | exact HB.out | apply below_alloc | apply pw_below_drewN | apply below_drew1) | exact HB.out))) (Ow_lower (by first | exact HO1.out | exact Ow_drewN HO1.out _) (Nat.le_trans HBW.out HCH.out.size)) (fun k hk => ⟨fun h => absurd h.2 (by have := Kd.R_base HO1.out k hk; omega), by have := Kd.R_base HO1.out k hk; have := HBOR.out; omega⟩) HNB2.out HQB2.out (HQ2.out _ (by repeat (first | (with_reducible first | exact HB.out | apply below_alloc | apply pw_below_drewN | apply below_drew1) | exact HB.out))) HL2.out HSN.out HUQ.out).mono ?_; rw [HG.out]; rintro e w4 ⟨rfl, hst, hch⟩; have HS3 := Aside0.mk (StCount_mono (Q' := fun k => Q k ∨ w.heap.size ≤ k) hst (fun k hk => by rcases hk with h | h | h; exact h.1; exact .inr (by have := Kd.R_base HO1.out k h; have := HCH.out.size; omega); exact .inr (Nat.le_trans (Nat.le_trans HCH.out.size (below_size (by repeat (first | (with_reducible first | exact HB.out | apply below_alloc | apply pw_below_drewN | apply below_drew1) | exact HB.out)))) h))); have HC4 := Aside0.mk ((HCH.out.below (by repeat (first | (with_reducible first | exact HB.out | apply below_alloc | apply pw_below_drewN | apply below_drew1) | exact HB.out))).trans hch HTR.out); clear hst hch))
              repeat (go_quiet (fail); try go_wp2)
              go_roundg (gk - 1)
              case measure => have := HY.out; omega
              case rel => exact ⟨y + 1, _, by go_num, ⟨by have := HY.out; omega⟩, ⟨by rw [show gk - 1 = d by have := HGD.out; omega]; exact HN.out⟩, ⟨by rw [show gk - 1 = d by have := HGD.out; omega]; have := HSD.out; have := HSG.out; omega⟩, ⟨by first | exact HS3.out | exact (StCount_drewN HS3.out _)⟩, ⟨HC4.out.below (by first | exact Below.refl _ _ | exact pw_below_drewN (Below.refl _ _) _)⟩⟩
          · have HU2 := Aside0.mk (tf_neg hc)
            have HN := Aside0.mk (show (grS P).goL (goCount P f') l d s' = goCount P (f' + 1) l s by have := HT3.out; rwa [if_neg (by rw [tf_neg (fun h => hc h.2)]; decide)] at this)
            clear hc hm
            go_wp2_with fail
            repeat (go_quiet (fail); try go_wp2_with fail)
            go_wp2_with (first | (go_at_call 27; refine (Contains_calls A c l _ _ (Kd.C_below HRQ.out (by repeat (first | (with_reducible first | exact HB.out | apply below_alloc | apply pw_below_drewN | apply below_drew1) | exact HB.out))) HC.out (by omega)).mono ?_; rw [H1.out]; rintro e w' ⟨rfl, ⟨nd, rfl⟩⟩) | (go_at_call 28; refine (Clone_calls _ _ l _ (Kd.C_below HRQ.out (by repeat (first | (with_reducible first | exact HB.out | apply below_alloc | apply pw_below_drewN | apply below_drew1) | exact HB.out))) HC.out (by omega)).mono ?_; rintro e w1 ⟨v1, rfl, ho, hb⟩; have HO1 := Aside0.mk (Ow_lower ho (below_size (by repeat (first | (with_reducible first | exact HB.out | apply below_alloc | apply pw_below_drewN | apply below_drew1) | exact HB.out)))); have n0_ := Aside0.mk (below_step (by repeat (first | (with_reducible first | exact HB.out | apply below_alloc | apply pw_below_drewN | apply below_drew1) | exact HB.out)) hb); clear HB ho hb; have HB := n0_; clear n0_) | (((with_reducible refine gate_builtin (b := .append) (xs := #[.tmp 26, .tmp 28]) rfl ?_); at_builtin; refine Kd.R_append (Kd.int .i64) (w0 := wr) wr.heap.size rfl (.tmp 26) (.tmp 28) 22 3 (.int .i64 0) 8 rfl Try.underlying22 infoInt rfl (by decide) (by omega) v1 l ((y : Int)) [.int .i64 ((y : Int))] (fun _ => True) (fun _ => False) rfl rfl rfl (fun _ hk => hk.elim) (fun _ _ => trivial) ?aO ?aB ?aS ?aL ?_; (case aO => exact (by (with_reducible repeat (first | apply Kd.R_alloc | apply Kd.R_drewN | apply Kd.R_drew)); exact HO1.out)); (case aB => exact (by repeat (first | (with_reducible first | exact HB.out | apply below_alloc | apply pw_below_drewN | apply below_drew1) | exact HB.out))); (case aS => exact below_size (by repeat (first | (with_reducible first | exact HB.out | apply below_alloc | apply pw_below_drewN | apply below_drew1) | exact HB.out))); (case aL => have := HLN.out; omega); intro v2 w2 ho_ hb_ hg_ hat_; have n0_ := Aside0.mk hb_; have n1_ := Aside0.mk ho_; clear HB HO1; have HB := n0_; have HO1 := n1_; clear n0_ n1_ ho_ hb_ hg_ hat_); have n0_ := HO1.out; rw [HM.out] at n0_; clear HO1; have HO1 := Aside0.mk n0_; clear n0_; obtain ⟨A2, c2, e2_, hc2_, _⟩ := Ow_form HO1.out; subst e2_; have HC2 := Aside0.mk hc2_; clear hc2_) | (go_at_call 30; refine (edgeLabels_calls Ap cp P A2 c2 m _ (Kd.C_below HRP.out (below_step HBP.out (by repeat (first | (with_reducible first | exact HB.out | apply below_alloc | apply pw_below_drewN | apply below_drew1) | exact HB.out)))) HCP.out (Ow_rd (by first | exact HO1.out | exact Ow_drewN HO1.out _)) HC2.out HTREE.out HLO.out HML.out (Nat.le_refl _) HM1.out).mono ?_; rw [HDD.out]; rintro e w3 ⟨v3, rfl, ho, hb⟩; have n1_ := Aside0.mk (Ow_below (by first | exact HO1.out | exact Ow_drewN HO1.out _) hb); have HO3 := Aside0.mk (Ow_lower ho (below_size (by repeat (first | (with_reducible first | exact HB.out | apply below_alloc | apply pw_below_drewN | apply below_drew1) | exact HB.out)))); have n0_ := Aside0.mk (below_step (by repeat (first | (with_reducible first | exact HB.out | apply below_alloc | apply pw_below_drewN | apply below_drew1) | exact HB.out)) hb); clear HB HO1 ho hb; have HB := n0_; have HO1 := n1_; clear n0_ n1_; obtain ⟨A3, c3, e3_, hc3_, _⟩ := Ow_form HO3.out; subst e3_; have HC3 := Aside0.mk hc3_; clear hc3_) | (go_at_call 29; refine (unlike_calls A3 c3 dd _ (Ow_rd (by first | exact HO3.out | exact Ow_drewN HO3.out _)) HC3.out HDN.out).mono ?_; rw [HU2.out]; rintro e w' ⟨rfl, ⟨nd2, rfl⟩⟩))
            repeat (go_quiet (fail); try go_wp2)
            go_roundg (gk - 1)
            case measure => have := HY.out; omega
            case rel => exact ⟨y + 1, s', by go_num, ⟨by have := HY.out; omega⟩, ⟨by rw [show gk - 1 = d by have := HGD.out; omega]; exact HN.out⟩, ⟨by rw [show gk - 1 = d by have := HGD.out; omega]; have := HSD.out; omega⟩, ⟨StCount_mono (StCount_old HSR.out (by repeat (first | (with_reducible first | exact HB.out | apply below_alloc | apply pw_below_drewN | apply below_drew1) | exact HB.out))) (fun k hk => hk.1)⟩, ⟨HCH.out.below (by repeat (first | (with_reducible first | exact HB.out | apply below_alloc | apply pw_below_drewN | apply below_drew1) | exact HB.out))⟩⟩
      · have HF := Aside0.mk (show goCount P (f' + 1) l s = (s', false) by rw [← HT.out, show gk = 0 by have := HY.out; omega, Seek.goL])
        (go_wp2; repeat (go_quiet (fail); try go_wp2))
        go_ret
        exact ⟨by rw [HF.out]; rfl, by rw [HF.out]; exact StCount_mono (by first | exact HSR.out | exact (StCount_drewN HSR.out _)) (fun k hk => by rcases hk with h | h; exact .inl h; exact .inr (.inr h)), HCH.out.below (by first | exact Below.refl _ _ | exact pw_below_drewN (Below.refl _ _) _)⟩
theorem grcCount_calls (wp : World) (Ap : Option Addr) (cp : Nat) (P : List Int) (f bo : Nat) (hrp : Rd wp Ap P) (hcp : P.length ≤ cp) (htree : Tree P) (hB : wp.heap.size ≤ bo) : GrcCount wp Ap cp P f bo := by
  induction f with
  | zero => exact grcCount_step wp Ap cp P 0 bo hrp hcp htree hB (fun f' h => by omega)
  | succ f ih => exact grcCount_step wp Ap cp P (f + 1) bo hrp hcp htree hB (fun f' h => by rw [show f' = f by omega]; exact ih)
noncomputable abbrev goFirst (P : List Int) (f : Nat) (l : List Int) (s : List Int) : List Int × Bool := (grS P).go nextFirst true f l s
/-- What graceful does, with f labels left; the parents came in at the world wp. -/
def GrcFirst (wp : World) (Ap : Option Addr) (cp : Nat) (P : List Int) (f bo : Nat) : Prop := ∀ (u : Value) (l : List Int) (w : World) (Q : Nat → Prop) (s : List Int), Below wp.heap.size wp w → Ow w wp.heap.size u l → (∀ k, u.ownBlock = some k → ¬ Q k ∧ k ≠ bo) → ¬ Q bo → (∀ k, Q k → wp.heap.size ≤ k) → StFirst bo wp.heap.size w Q s → l.length + f = P.length → sizeFirst s + 0 * P.length ^ f ≤ 1000000000 → Upto9 l →
  Calls Try.prog 19 #[.slice Ap P.length cp, u, .func (.func 21) #[] #[.pointer (some ⟨bo, 0, none⟩)]] w fun e w' => e = .returned (.bool (goFirst P f l s).2) ∧ StFirst bo wp.heap.size w' (fun k => Q k ∨ u.ownBlock = some k ∨ w.heap.size ≤ k) (goFirst P f l s).1 ∧ Chg (fun k => k = bo ∨ Q k) w w'
set_option maxRecDepth 8000 in
set_option maxHeartbeats 6400000 in
theorem grcFirst_step (wp : World) (Ap : Option Addr) (cp : Nat) (P : List Int) (f bo : Nat) (hrp : Rd wp Ap P) (hcp : P.length ≤ cp) (htree : Tree P) (hB : wp.heap.size ≤ bo) (hih : ∀ f', f = f' + 1 → GrcFirst wp Ap cp P f' bo) : GrcFirst wp Ap cp P f bo := by
  intro u l w Q s hbp ho hq hb hqb hst hlf hsz hup
  obtain ⟨A, c, rfl, hcap, hrd⟩ := Ow_form ho
  have hbo : bo < w.heap.size := StFirst_lt hst
  have hn := htree.1.1
  have HRP := Aside0.mk hrp
  have HCP := Aside0.mk hcp
  have HTREE := Aside0.mk htree
  have HBP0 := Aside0.mk hbp
  have HIH := Aside0.mk hih
  have HO := Aside0.mk ho
  have HQ := Aside0.mk hq
  have HQB := Aside0.mk hqb
  have HNB := Aside0.mk hb
  have HST := Aside0.mk hst
  have HC := Aside0.mk hcap
  have HU := Aside0.mk hup
  have HSZ := Aside0.mk hsz
  have HLF := Aside0.mk hlf
  have HBW := Aside0.mk (show wp.heap.size ≤ w.heap.size by omega)
  have hl9 : l.length ≤ 9 := by omega
  clear hih ho hq hb hst hcap hrd hsz hup hrp hcp htree hbp hqb
  by_cases hz : l.length = P.length
  · obtain rfl : f = 0 := by omega
    have ht : ((l.length : Int) == (P.length : Int)) = true := beq_iff_eq.mpr (by omega)
    have HF := Aside0.mk (show goFirst P 0 l s = (nextFirst s l, true) from rfl)
    have HX := Aside0.mk (show sizeFirst s + 0 * 1 ≤ 1000000000 by have := HSZ.out; rwa [Nat.pow_zero] at this)
    clear hz hlf
    go_enter Try.func19, Try.ntmps19
    go_wp2_with (go_at_call 21; refine (callFirst bo wp.heap.size _ l _ Q s (by first | exact HO.out | exact Ow_drewN HO.out _) HQ.out HNB.out HST.out hB ).mono ?_; rintro e w1 ⟨rfl, hst, hch⟩; have HST1 := Aside0.mk hst; have HCH := Aside0.mk hch; clear hst hch)
    go_ret
    exact ⟨by rw [HF.out]; rfl, by rw [HF.out]; exact HST1.out, HCH.out⟩
  · obtain ⟨f', rfl⟩ : ∃ f', f = f' + 1 := ⟨f - 1, by omega⟩
    have HIC := Aside0.mk (HIH.out f' rfl)
    have ht : ((l.length : Int) == (P.length : Int)) = false := beq_eq_false_iff_ne.mpr (by omega)
    have HFF := Aside0.mk (show (grS P).goL (goFirst P f') l P.length s = goFirst P (f' + 1) l s from rfl)
    have HS0 := Aside0.mk (show sizeFirst s + P.length * (0 * P.length ^ f') ≤ 1000000000 by have := HSZ.out; rwa [Seek.pow_step] at this)
    go_enter Try.func19, Try.ntmps19
    (go_wp2; repeat (go_quiet (fail); try go_wp2))
    go_loopg [19] P.length (fun g v19 w' => ∃ (y : Nat) (s' : List Int), v19 = .int .i64 y ∧ Aside0 (y + g = P.length) ∧ Aside0 ((grS P).goL (goFirst P f') l g s' = goFirst P (f' + 1) l s) ∧ Aside0 (sizeFirst s' + g * (0 * P.length ^ f') ≤ 1000000000) ∧ Aside0 (StFirst bo wp.heap.size w' (fun k => Q k ∨ w.heap.size ≤ k) s') ∧ Aside0 (Chg (fun k => k = bo ∨ Q k) w w'))
    case atStart => exact ⟨0, s, rfl, ⟨by omega⟩, HFF, HS0, ⟨StFirst_mono (by first | exact HST.out | exact (StFirst_drewN HST.out _)) (fun k hk => .inl hk)⟩, ⟨(Chg.refl _ w).below (by first | exact Below.refl _ _ | exact pw_below_drewN (Below.refl _ _) _)⟩⟩
    case round =>
      obtain ⟨y, s', rfl, HY, HT, HSS, HSR, HCH⟩ := hrel
      by_cases hy : y < P.length
      · obtain ⟨d, hd⟩ : ∃ d, gk = d + 1 := ⟨gk - 1, by have := HY.out; omega⟩
        have HGD := Aside0.mk hd
        have HSD := Aside0.mk (show sizeFirst s' + (d * (0 * P.length ^ f') + 0 * P.length ^ f') ≤ 1000000000 by have := HSS.out; rwa [hd, Nat.succ_mul] at this)
        have hT := HT.out
        rw [hd, Seek.goL, show (grS P).y (d + 1) = (y : Int) from (show ((P.length - (d + 1) : Nat) : Int) = (y : Int) by have := HY.out; omega), show (grS P).t l (y : Int) = tf ((y : Int) ∉ l ∧ Unl (edges P (l ++ [(y : Int)]) ((l ++ [(y : Int)]).length - 1))) from rfl] at hT
        have HT2 := Aside0.mk hT
        clear hT hd
        have HOR := Aside0.mk (Ow_chg HO.out HCH.out (fun k hk h => h.elim (HQ.out k hk).2 (HQ.out k hk).1))
        have HRQ := Aside0.mk (Ow_rd HOR.out)
        have HBP := Aside0.mk (HBP0.out.trans (HCH.out.to HBW.out (fun k hk h => h.elim (fun e => by omega) (fun h => by have := HQB.out k h; omega))))
        have HB := Aside0.mk (Below.refl wr.heap.size wr)
        have HBOR := Aside0.mk (show bo < wr.heap.size from Nat.lt_of_lt_of_le hbo HCH.out.size)
        by_cases hm : (y : Int) ∈ l
        · have H1 := Aside0.mk (decide_eq_true hm)
          have HN := Aside0.mk (show (grS P).goL (goFirst P f') l d s' = goFirst P (f' + 1) l s by have := HT2.out; rwa [if_neg (by rw [tf_neg (fun h => h.1 hm)]; decide)] at this)
          clear hm
          go_wp2_with fail
          repeat (go_quiet (fail); try go_wp2_with fail)
          go_wp2_with ((go_at_call 27; refine (Contains_calls A c l _ _ (Kd.C_below HRQ.out (by repeat (first | (with_reducible first | exact HB.out | apply below_alloc | apply pw_below_drewN | apply below_drew1) | exact HB.out))) HC.out (by omega)).mono ?_; rw [H1.out]; rintro e w' ⟨rfl, ⟨nd, rfl⟩⟩))
          repeat (go_quiet (fail); try go_wp2)
          go_roundg (gk - 1)
          case measure => have := HY.out; omega
          case rel => exact ⟨y + 1, s', by go_num, ⟨by have := HY.out; omega⟩, ⟨by rw [show gk - 1 = d by have := HGD.out; omega]; exact HN.out⟩, ⟨by rw [show gk - 1 = d by have := HGD.out; omega]; have := HSD.out; omega⟩, ⟨StFirst_mono (StFirst_old HSR.out (by repeat (first | (with_reducible first | exact HB.out | apply below_alloc | apply pw_below_drewN | apply below_drew1) | exact HB.out))) (fun k hk => hk.1)⟩, ⟨HCH.out.below (by repeat (first | (with_reducible first | exact HB.out | apply below_alloc | apply pw_below_drewN | apply below_drew1) | exact HB.out))⟩⟩
        · have H1 := Aside0.mk (decide_eq_false hm)
          have hT := HT2.out
          have HLN := Aside0.mk (show l.length ≤ 1000000 by omega)
          have HML := Aside0.mk (show (l ++ [(y : Int)]).length ≤ P.length by rw [List.length_append, List.length_singleton]; omega)
          have HM1 := Aside0.mk (show 1 ≤ (l ++ [(y : Int)]).length by rw [List.length_append, List.length_singleton]; omega)
          have HL2 := Aside0.mk (show (l ++ [(y : Int)]).length + f' = P.length by rw [List.length_append, List.length_singleton]; omega)
          have HUQ := Aside0.mk (Upto9_snoc HU.out (show y ≤ 9 by omega))
          have HLO := Aside0.mk (Upto9_low HUQ.out)
          have HSN := Aside0.mk (show sizeFirst s' + 0 * P.length ^ f' ≤ 1000000000 by have := HSD.out; omega)
          have HQ2 := Aside0.mk (fun (W : World) (hW : Below wr.heap.size wr W) => StFirst_old HSR.out hW)
          have HNB2 := Aside0.mk (show ¬ ((Q bo ∨ w.heap.size ≤ bo) ∧ bo < wr.heap.size) from fun h => h.1.elim HNB.out (fun h => by omega))
          have HQB2 := Aside0.mk (show ∀ k, ((Q k ∨ w.heap.size ≤ k) ∧ k < wr.heap.size) → wp.heap.size ≤ k from fun k h => h.1.elim (HQB.out k) (fun h => by have := HBW.out; omega))
          have HTR := Aside0.mk (show ∀ j, j < w.heap.size → (j = bo ∨ ((Q j ∨ w.heap.size ≤ j) ∧ j < wr.heap.size)) → (j = bo ∨ Q j) from fun j hj h => by
            rcases h with h | h
            · exact .inl h
            · rcases h.1 with h | h
              · exact .inr h
              · omega)
          generalize hm_ : l ++ [(y : Int)] = m at hT HML HM1 HL2 HUQ HLO
          have HM := Aside0.mk hm_
          clear hm_
          have HDN := Aside0.mk (show (edges P m (m.length - 1)).length ≤ 1048576 by rw [edges_length]; have := HML.out; omega)
          generalize hdd_ : edges P m (m.length - 1) = dd at hT HDN
          have HDD := Aside0.mk hdd_
          have HT3 := Aside0.mk hT
          clear hT hdd_
          by_cases hc : Unl dd
          · have HU2 := Aside0.mk (tf_pos hc)
            have hT := HT3.out
            rw [if_pos (tf_pos ⟨hm, hc⟩)] at hT
            have HT4 := Aside0.mk hT
            clear hT hc hm
            have HSG := Aside0.mk (show sizeFirst (goFirst P f' m s').1 ≤ sizeFirst s' + 0 * P.length ^ f' from (grS P).go_size nextFirst_size (fun _ => Nat.le_refl _) f' _ _)
            by_cases hg : (goFirst P f' m s').2 = true
            · have HG := Aside0.mk hg
              have HF := Aside0.mk (show goFirst P (f' + 1) l s = ((goFirst P f' m s').1, true) by rw [← HT4.out, if_pos hg])
              clear hg
              go_wp2_with fail
              repeat (go_quiet (fail); try go_wp2_with fail)
              go_wp2_with (first | (go_at_call 27; refine (Contains_calls A c l _ _ (Kd.C_below HRQ.out (by repeat (first | (with_reducible first | exact HB.out | apply below_alloc | apply pw_below_drewN | apply below_drew1) | exact HB.out))) HC.out (by omega)).mono ?_; rw [H1.out]; rintro e w' ⟨rfl, ⟨nd, rfl⟩⟩) | (go_at_call 28; refine (Clone_calls _ _ l _ (Kd.C_below HRQ.out (by repeat (first | (with_reducible first | exact HB.out | apply below_alloc | apply pw_below_drewN | apply below_drew1) | exact HB.out))) HC.out (by omega)).mono ?_; rintro e w1 ⟨v1, rfl, ho, hb⟩; have HO1 := Aside0.mk (Ow_lower ho (below_size (by repeat (first | (with_reducible first | exact HB.out | apply below_alloc | apply pw_below_drewN | apply below_drew1) | exact HB.out)))); have n0_ := Aside0.mk (below_step (by repeat (first | (with_reducible first | exact HB.out | apply below_alloc | apply pw_below_drewN | apply below_drew1) | exact HB.out)) hb); clear HB ho hb; have HB := n0_; clear n0_) | (((with_reducible refine gate_builtin (b := .append) (xs := #[.tmp 26, .tmp 28]) rfl ?_); at_builtin; refine Kd.R_append (Kd.int .i64) (w0 := wr) wr.heap.size rfl (.tmp 26) (.tmp 28) 22 3 (.int .i64 0) 8 rfl Try.underlying22 infoInt rfl (by decide) (by omega) v1 l ((y : Int)) [.int .i64 ((y : Int))] (fun _ => True) (fun _ => False) rfl rfl rfl (fun _ hk => hk.elim) (fun _ _ => trivial) ?aO ?aB ?aS ?aL ?_; (case aO => exact (by (with_reducible repeat (first | apply Kd.R_alloc | apply Kd.R_drewN | apply Kd.R_drew)); exact HO1.out)); (case aB => exact (by repeat (first | (with_reducible first | exact HB.out | apply below_alloc | apply pw_below_drewN | apply below_drew1) | exact HB.out))); (case aS => exact below_size (by repeat (first | (with_reducible first | exact HB.out | apply below_alloc | apply pw_below_drewN | apply below_drew1) | exact HB.out))); (case aL => have := HLN.out; omega); intro v2 w2 ho_ hb_ hg_ hat_; have n0_ := Aside0.mk hb_; have n1_ := Aside0.mk ho_; clear HB HO1; have HB := n0_; have HO1 := n1_; clear n0_ n1_ ho_ hb_ hg_ hat_); have n0_ := HO1.out; rw [HM.out] at n0_; clear HO1; have HO1 := Aside0.mk n0_; clear n0_; obtain ⟨A2, c2, e2_, hc2_, _⟩ := Ow_form HO1.out; subst e2_; have HC2 := Aside0.mk hc2_; clear hc2_) | (go_at_call 30; refine (edgeLabels_calls Ap cp P A2 c2 m _ (Kd.C_below HRP.out (below_step HBP.out (by repeat (first | (with_reducible first | exact HB.out | apply below_alloc | apply pw_below_drewN | apply below_drew1) | exact HB.out)))) HCP.out (Ow_rd (by first | exact HO1.out | exact Ow_drewN HO1.out _)) HC2.out HTREE.out HLO.out HML.out (Nat.le_refl _) HM1.out).mono ?_; rw [HDD.out]; rintro e w3 ⟨v3, rfl, ho, hb⟩; have n1_ := Aside0.mk (Ow_below (by first | exact HO1.out | exact Ow_drewN HO1.out _) hb); have HO3 := Aside0.mk (Ow_lower ho (below_size (by repeat (first | (with_reducible first | exact HB.out | apply below_alloc | apply pw_below_drewN | apply below_drew1) | exact HB.out)))); have n0_ := Aside0.mk (below_step (by repeat (first | (with_reducible first | exact HB.out | apply below_alloc | apply pw_below_drewN | apply below_drew1) | exact HB.out)) hb); clear HB HO1 ho hb; have HB := n0_; have HO1 := n1_; clear n0_ n1_; obtain ⟨A3, c3, e3_, hc3_, _⟩ := Ow_form HO3.out; subst e3_; have HC3 := Aside0.mk hc3_; clear hc3_) | (go_at_call 29; refine (unlike_calls A3 c3 dd _ (Ow_rd (by first | exact HO3.out | exact Ow_drewN HO3.out _)) HC3.out HDN.out).mono ?_; rw [HU2.out]; rintro e w' ⟨rfl, ⟨nd2, rfl⟩⟩) | (go_at_call 19; refine (HIC.out (.slice A2 m.length c2) m _ (fun k => (Q k ∨ w.heap.size ≤ k) ∧ k < wr.heap.size) s' (below_step HBP.out (by repeat (first | (with_reducible first | exact HB.out | apply below_alloc | apply pw_below_drewN | apply below_drew1) | exact HB.out))) (Ow_lower (by first | exact HO1.out | exact Ow_drewN HO1.out _) (Nat.le_trans HBW.out HCH.out.size)) (fun k hk => ⟨fun h => absurd h.2 (by have := Kd.R_base HO1.out k hk; omega), by have := Kd.R_base HO1.out k hk; have := HBOR.out; omega⟩) HNB2.out HQB2.out (HQ2.out _ (by repeat (first | (with_reducible first | exact HB.out | apply below_alloc | apply pw_below_drewN | apply below_drew1) | exact HB.out))) HL2.out HSN.out HUQ.out).mono ?_; rw [HG.out]; rintro e w4 ⟨rfl, hst, hch⟩; have HS3 := Aside0.mk (StFirst_mono (Q' := fun k => Q k ∨ w.heap.size ≤ k) hst (fun k hk => by rcases hk with h | h | h; exact h.1; exact .inr (by have := Kd.R_base HO1.out k h; have := HCH.out.size; omega); exact .inr (Nat.le_trans (Nat.le_trans HCH.out.size (below_size (by repeat (first | (with_reducible first | exact HB.out | apply below_alloc | apply pw_below_drewN | apply below_drew1) | exact HB.out)))) h))); have HC4 := Aside0.mk ((HCH.out.below (by repeat (first | (with_reducible first | exact HB.out | apply below_alloc | apply pw_below_drewN | apply below_drew1) | exact HB.out))).trans hch HTR.out); clear hst hch))
              repeat (go_quiet (fail); try go_wp2)
              go_ret
              exact ⟨by rw [HF.out]; rfl, by rw [HF.out]; exact StFirst_mono (by first | exact HS3.out | exact (StFirst_drewN HS3.out _)) (fun k hk => by rcases hk with h | h; exact .inl h; exact .inr (.inr h)), HC4.out.below (by first | exact Below.refl _ _ | exact pw_below_drewN (Below.refl _ _) _)⟩
            · have HG := Aside0.mk (show (goFirst P f' m s').2 = false by simpa using hg)
              have HN := Aside0.mk (show (grS P).goL (goFirst P f') l d (goFirst P f' m s').1 = goFirst P (f' + 1) l s by have := HT4.out; rwa [if_neg hg] at this)
              clear hg
              go_wp2_with fail
              repeat (go_quiet (fail); try go_wp2_with fail)
              go_wp2_with (first | (go_at_call 27; refine (Contains_calls A c l _ _ (Kd.C_below HRQ.out (by repeat (first | (with_reducible first | exact HB.out | apply below_alloc | apply pw_below_drewN | apply below_drew1) | exact HB.out))) HC.out (by omega)).mono ?_; rw [H1.out]; rintro e w' ⟨rfl, ⟨nd, rfl⟩⟩) | (go_at_call 28; refine (Clone_calls _ _ l _ (Kd.C_below HRQ.out (by repeat (first | (with_reducible first | exact HB.out | apply below_alloc | apply pw_below_drewN | apply below_drew1) | exact HB.out))) HC.out (by omega)).mono ?_; rintro e w1 ⟨v1, rfl, ho, hb⟩; have HO1 := Aside0.mk (Ow_lower ho (below_size (by repeat (first | (with_reducible first | exact HB.out | apply below_alloc | apply pw_below_drewN | apply below_drew1) | exact HB.out)))); have n0_ := Aside0.mk (below_step (by repeat (first | (with_reducible first | exact HB.out | apply below_alloc | apply pw_below_drewN | apply below_drew1) | exact HB.out)) hb); clear HB ho hb; have HB := n0_; clear n0_) | (((with_reducible refine gate_builtin (b := .append) (xs := #[.tmp 26, .tmp 28]) rfl ?_); at_builtin; refine Kd.R_append (Kd.int .i64) (w0 := wr) wr.heap.size rfl (.tmp 26) (.tmp 28) 22 3 (.int .i64 0) 8 rfl Try.underlying22 infoInt rfl (by decide) (by omega) v1 l ((y : Int)) [.int .i64 ((y : Int))] (fun _ => True) (fun _ => False) rfl rfl rfl (fun _ hk => hk.elim) (fun _ _ => trivial) ?aO ?aB ?aS ?aL ?_; (case aO => exact (by (with_reducible repeat (first | apply Kd.R_alloc | apply Kd.R_drewN | apply Kd.R_drew)); exact HO1.out)); (case aB => exact (by repeat (first | (with_reducible first | exact HB.out | apply below_alloc | apply pw_below_drewN | apply below_drew1) | exact HB.out))); (case aS => exact below_size (by repeat (first | (with_reducible first | exact HB.out | apply below_alloc | apply pw_below_drewN | apply below_drew1) | exact HB.out))); (case aL => have := HLN.out; omega); intro v2 w2 ho_ hb_ hg_ hat_; have n0_ := Aside0.mk hb_; have n1_ := Aside0.mk ho_; clear HB HO1; have HB := n0_; have HO1 := n1_; clear n0_ n1_ ho_ hb_ hg_ hat_); have n0_ := HO1.out; rw [HM.out] at n0_; clear HO1; have HO1 := Aside0.mk n0_; clear n0_; obtain ⟨A2, c2, e2_, hc2_, _⟩ := Ow_form HO1.out; subst e2_; have HC2 := Aside0.mk hc2_; clear hc2_) | (go_at_call 30; refine (edgeLabels_calls Ap cp P A2 c2 m _ (Kd.C_below HRP.out (below_step HBP.out (by repeat (first | (with_reducible first | exact HB.out | apply below_alloc | apply pw_below_drewN | apply below_drew1) | exact HB.out)))) HCP.out (Ow_rd (by first | exact HO1.out | exact Ow_drewN HO1.out _)) HC2.out HTREE.out HLO.out HML.out (Nat.le_refl _) HM1.out).mono ?_; rw [HDD.out]; rintro e w3 ⟨v3, rfl, ho, hb⟩; have n1_ := Aside0.mk (Ow_below (by first | exact HO1.out | exact Ow_drewN HO1.out _) hb); have HO3 := Aside0.mk (Ow_lower ho (below_size (by repeat (first | (with_reducible first | exact HB.out | apply below_alloc | apply pw_below_drewN | apply below_drew1) | exact HB.out)))); have n0_ := Aside0.mk (below_step (by repeat (first | (with_reducible first | exact HB.out | apply below_alloc | apply pw_below_drewN | apply below_drew1) | exact HB.out)) hb); clear HB HO1 ho hb; have HB := n0_; have HO1 := n1_; clear n0_ n1_; obtain ⟨A3, c3, e3_, hc3_, _⟩ := Ow_form HO3.out; subst e3_; have HC3 := Aside0.mk hc3_; clear hc3_) | (go_at_call 29; refine (unlike_calls A3 c3 dd _ (Ow_rd (by first | exact HO3.out | exact Ow_drewN HO3.out _)) HC3.out HDN.out).mono ?_; rw [HU2.out]; rintro e w' ⟨rfl, ⟨nd2, rfl⟩⟩) | (go_at_call 19; refine (HIC.out (.slice A2 m.length c2) m _ (fun k => (Q k ∨ w.heap.size ≤ k) ∧ k < wr.heap.size) s' (below_step HBP.out (by repeat (first | (with_reducible first | exact HB.out | apply below_alloc | apply pw_below_drewN | apply below_drew1) | exact HB.out))) (Ow_lower (by first | exact HO1.out | exact Ow_drewN HO1.out _) (Nat.le_trans HBW.out HCH.out.size)) (fun k hk => ⟨fun h => absurd h.2 (by have := Kd.R_base HO1.out k hk; omega), by have := Kd.R_base HO1.out k hk; have := HBOR.out; omega⟩) HNB2.out HQB2.out (HQ2.out _ (by repeat (first | (with_reducible first | exact HB.out | apply below_alloc | apply pw_below_drewN | apply below_drew1) | exact HB.out))) HL2.out HSN.out HUQ.out).mono ?_; rw [HG.out]; rintro e w4 ⟨rfl, hst, hch⟩; have HS3 := Aside0.mk (StFirst_mono (Q' := fun k => Q k ∨ w.heap.size ≤ k) hst (fun k hk => by rcases hk with h | h | h; exact h.1; exact .inr (by have := Kd.R_base HO1.out k h; have := HCH.out.size; omega); exact .inr (Nat.le_trans (Nat.le_trans HCH.out.size (below_size (by repeat (first | (with_reducible first | exact HB.out | apply below_alloc | apply pw_below_drewN | apply below_drew1) | exact HB.out)))) h))); have HC4 := Aside0.mk ((HCH.out.below (by repeat (first | (with_reducible first | exact HB.out | apply below_alloc | apply pw_below_drewN | apply below_drew1) | exact HB.out))).trans hch HTR.out); clear hst hch))
              repeat (go_quiet (fail); try go_wp2)
              go_roundg (gk - 1)
              case measure => have := HY.out; omega
              case rel => exact ⟨y + 1, _, by go_num, ⟨by have := HY.out; omega⟩, ⟨by rw [show gk - 1 = d by have := HGD.out; omega]; exact HN.out⟩, ⟨by rw [show gk - 1 = d by have := HGD.out; omega]; have := HSD.out; have := HSG.out; omega⟩, ⟨by first | exact HS3.out | exact (StFirst_drewN HS3.out _)⟩, ⟨HC4.out.below (by first | exact Below.refl _ _ | exact pw_below_drewN (Below.refl _ _) _)⟩⟩
          · have HU2 := Aside0.mk (tf_neg hc)
            have HN := Aside0.mk (show (grS P).goL (goFirst P f') l d s' = goFirst P (f' + 1) l s by have := HT3.out; rwa [if_neg (by rw [tf_neg (fun h => hc h.2)]; decide)] at this)
            clear hc hm
            go_wp2_with fail
            repeat (go_quiet (fail); try go_wp2_with fail)
            go_wp2_with (first | (go_at_call 27; refine (Contains_calls A c l _ _ (Kd.C_below HRQ.out (by repeat (first | (with_reducible first | exact HB.out | apply below_alloc | apply pw_below_drewN | apply below_drew1) | exact HB.out))) HC.out (by omega)).mono ?_; rw [H1.out]; rintro e w' ⟨rfl, ⟨nd, rfl⟩⟩) | (go_at_call 28; refine (Clone_calls _ _ l _ (Kd.C_below HRQ.out (by repeat (first | (with_reducible first | exact HB.out | apply below_alloc | apply pw_below_drewN | apply below_drew1) | exact HB.out))) HC.out (by omega)).mono ?_; rintro e w1 ⟨v1, rfl, ho, hb⟩; have HO1 := Aside0.mk (Ow_lower ho (below_size (by repeat (first | (with_reducible first | exact HB.out | apply below_alloc | apply pw_below_drewN | apply below_drew1) | exact HB.out)))); have n0_ := Aside0.mk (below_step (by repeat (first | (with_reducible first | exact HB.out | apply below_alloc | apply pw_below_drewN | apply below_drew1) | exact HB.out)) hb); clear HB ho hb; have HB := n0_; clear n0_) | (((with_reducible refine gate_builtin (b := .append) (xs := #[.tmp 26, .tmp 28]) rfl ?_); at_builtin; refine Kd.R_append (Kd.int .i64) (w0 := wr) wr.heap.size rfl (.tmp 26) (.tmp 28) 22 3 (.int .i64 0) 8 rfl Try.underlying22 infoInt rfl (by decide) (by omega) v1 l ((y : Int)) [.int .i64 ((y : Int))] (fun _ => True) (fun _ => False) rfl rfl rfl (fun _ hk => hk.elim) (fun _ _ => trivial) ?aO ?aB ?aS ?aL ?_; (case aO => exact (by (with_reducible repeat (first | apply Kd.R_alloc | apply Kd.R_drewN | apply Kd.R_drew)); exact HO1.out)); (case aB => exact (by repeat (first | (with_reducible first | exact HB.out | apply below_alloc | apply pw_below_drewN | apply below_drew1) | exact HB.out))); (case aS => exact below_size (by repeat (first | (with_reducible first | exact HB.out | apply below_alloc | apply pw_below_drewN | apply below_drew1) | exact HB.out))); (case aL => have := HLN.out; omega); intro v2 w2 ho_ hb_ hg_ hat_; have n0_ := Aside0.mk hb_; have n1_ := Aside0.mk ho_; clear HB HO1; have HB := n0_; have HO1 := n1_; clear n0_ n1_ ho_ hb_ hg_ hat_); have n0_ := HO1.out; rw [HM.out] at n0_; clear HO1; have HO1 := Aside0.mk n0_; clear n0_; obtain ⟨A2, c2, e2_, hc2_, _⟩ := Ow_form HO1.out; subst e2_; have HC2 := Aside0.mk hc2_; clear hc2_) | (go_at_call 30; refine (edgeLabels_calls Ap cp P A2 c2 m _ (Kd.C_below HRP.out (below_step HBP.out (by repeat (first | (with_reducible first | exact HB.out | apply below_alloc | apply pw_below_drewN | apply below_drew1) | exact HB.out)))) HCP.out (Ow_rd (by first | exact HO1.out | exact Ow_drewN HO1.out _)) HC2.out HTREE.out HLO.out HML.out (Nat.le_refl _) HM1.out).mono ?_; rw [HDD.out]; rintro e w3 ⟨v3, rfl, ho, hb⟩; have n1_ := Aside0.mk (Ow_below (by first | exact HO1.out | exact Ow_drewN HO1.out _) hb); have HO3 := Aside0.mk (Ow_lower ho (below_size (by repeat (first | (with_reducible first | exact HB.out | apply below_alloc | apply pw_below_drewN | apply below_drew1) | exact HB.out)))); have n0_ := Aside0.mk (below_step (by repeat (first | (with_reducible first | exact HB.out | apply below_alloc | apply pw_below_drewN | apply below_drew1) | exact HB.out)) hb); clear HB HO1 ho hb; have HB := n0_; have HO1 := n1_; clear n0_ n1_; obtain ⟨A3, c3, e3_, hc3_, _⟩ := Ow_form HO3.out; subst e3_; have HC3 := Aside0.mk hc3_; clear hc3_) | (go_at_call 29; refine (unlike_calls A3 c3 dd _ (Ow_rd (by first | exact HO3.out | exact Ow_drewN HO3.out _)) HC3.out HDN.out).mono ?_; rw [HU2.out]; rintro e w' ⟨rfl, ⟨nd2, rfl⟩⟩))
            repeat (go_quiet (fail); try go_wp2)
            go_roundg (gk - 1)
            case measure => have := HY.out; omega
            case rel => exact ⟨y + 1, s', by go_num, ⟨by have := HY.out; omega⟩, ⟨by rw [show gk - 1 = d by have := HGD.out; omega]; exact HN.out⟩, ⟨by rw [show gk - 1 = d by have := HGD.out; omega]; have := HSD.out; omega⟩, ⟨StFirst_mono (StFirst_old HSR.out (by repeat (first | (with_reducible first | exact HB.out | apply below_alloc | apply pw_below_drewN | apply below_drew1) | exact HB.out))) (fun k hk => hk.1)⟩, ⟨HCH.out.below (by repeat (first | (with_reducible first | exact HB.out | apply below_alloc | apply pw_below_drewN | apply below_drew1) | exact HB.out))⟩⟩
      · have HF := Aside0.mk (show goFirst P (f' + 1) l s = (s', false) by rw [← HT.out, show gk = 0 by have := HY.out; omega, Seek.goL])
        (go_wp2; repeat (go_quiet (fail); try go_wp2))
        go_ret
        exact ⟨by rw [HF.out]; rfl, by rw [HF.out]; exact StFirst_mono (by first | exact HSR.out | exact (StFirst_drewN HSR.out _)) (fun k hk => by rcases hk with h | h; exact .inl h; exact .inr (.inr h)), HCH.out.below (by first | exact Below.refl _ _ | exact pw_below_drewN (Below.refl _ _) _)⟩
theorem grcFirst_calls (wp : World) (Ap : Option Addr) (cp : Nat) (P : List Int) (f bo : Nat) (hrp : Rd wp Ap P) (hcp : P.length ≤ cp) (htree : Tree P) (hB : wp.heap.size ≤ bo) : GrcFirst wp Ap cp P f bo := by
  induction f with
  | zero => exact grcFirst_step wp Ap cp P 0 bo hrp hcp htree hB (fun f' h => by omega)
  | succ f ih => exact grcFirst_step wp Ap cp P (f + 1) bo hrp hcp htree hB (fun f' h => by rw [show f' = f by omega]; exact ih)
end Go.Proofs.Ytaodmegnbkimeaa.Own.G
