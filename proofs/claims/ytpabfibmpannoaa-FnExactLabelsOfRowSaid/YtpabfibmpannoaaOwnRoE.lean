/- Skolem rows: the walks of the program's isPairs, fits, skolem and LabelsOfRow; lists of at most 1048576 numbers. -/
import Derived.Test.YtpabfibmpannoaaOwnRoD
namespace Go.Proofs.Ytpabfibmpannoaa.Own.G
open Go.RowKit Go.Proofs.YtpabfibmpannoaaW.PrintWords Go.Proofs.YtpabfibmpannoaaW.PrintLast Go.Proofs.YtpabfibmpannoaaW.PrintMore Go.Proofs.Ytpabfibmpannoaa.PFnExactLabelsOfRow
set_option linter.unusedVariables false
theorem IsRow_calls (A : Option Addr) (c : Nat) (l : List Int) (w : World) (hr : Rd w A l) (hc : l.length ≤ c) (hn : l.length ≤ 1048576) :
    Calls Try.prog 100 #[.slice A l.length c] w fun e w' => e = .returned (.bool (tf (Good l))) ∧ Drawn0 w w' := by
  obtain ⟨k, hk⟩ := IsRow_ev l hn
  exact impl_IsRow.calls k A c l _ w hr hc (hk k (Nat.le_refl _))
theorem holes_calls (A : Option Addr) (c : Nat) (l : List Int) (w : World) (hr : Rd w A l) (hc : l.length ≤ c) (hn : l.length ≤ 1048576) :
    Calls Try.prog 83 #[.slice A l.length c] w fun e w' => ∃ v, e = .returned v ∧ Ow w' w.heap.size v (plc l 0) ∧ Below w.heap.size w w' := by
  obtain ⟨k, hk⟩ := holes_ev l hn
  exact impl_holes.calls k A c l _ w hr hc (hk k (Nat.le_refl _))
theorem isFrom_calls (A : Option Addr) (c : Nat) (l : List Int) (w : World) (hr : Rd w A l) (hc : l.length ≤ c) (hn : l.length ≤ 1048576) :
    Calls Try.prog 84 #[.slice A l.length c, .int .i64 1] w fun e w' => ∃ b, e = .returned (.tuple #[.int .i64 (if tf (FromL 1 (nums l)) = true then ((nums l).length : Int) else 0), .bool b]) ∧ Below w.heap.size w w' := by
  obtain ⟨k, hk⟩ := isFrom_ev l hn
  have h := hk k (Nat.le_refl _)
  by_cases hf : FromL 1 (nums l)
  · rw [if_pos (tf_pos hf)] at h ⊢
    exact (impl_isFrom.calls k A c l 1 _ _ w hr hc h).mono (fun e w' he => ⟨_, he⟩)
  · rw [if_neg (by rw [tf_neg hf]; decide)] at h ⊢
    exact (impl_isFrom.calls k A c l 1 _ _ w hr hc h).mono (fun e w' he => ⟨_, he⟩)
theorem ArrRd_info {w : World} {cs : Array Value} {rows : List (List Int)} (h : ArrRd w cs rows) : (Try.prog.info? 48).map (·.size) = some cs.size := by rw [h.1]; exact infoArr
theorem ArrRd_eq {w : World} {cs : Array Value} {rows : List (List Int)} (h : ArrRd w cs rows) : (#[.slice none 0 0, .slice none 0 0, .slice none 0 0, .slice none 0 0, .slice none 0 0, .slice none 0 0, .slice none 0 0, .slice none 0 0, .slice none 0 0, .slice none 0 0, .slice none 0 0, .slice none 0 0, .slice none 0 0, .slice none 0 0, .slice none 0 0, .slice none 0 0, .slice none 0 0, .slice none 0 0, .slice none 0 0, .slice none 0 0, .slice none 0 0] : Array Value).size = cs.size := by rw [h.1]; rfl
theorem ArrRd_le {w : World} {cs : Array Value} {rows : List (List Int)} (h : ArrRd w cs rows) : cs.size ≤ (#[.slice none 0 0, .slice none 0 0, .slice none 0 0, .slice none 0 0, .slice none 0 0, .slice none 0 0, .slice none 0 0, .slice none 0 0, .slice none 0 0, .slice none 0 0, .slice none 0 0, .slice none 0 0, .slice none 0 0, .slice none 0 0, .slice none 0 0, .slice none 0 0, .slice none 0 0, .slice none 0 0, .slice none 0 0, .slice none 0 0, .slice none 0 0] : Array Value).size := by rw [h.1]; exact Nat.le_refl 21
/-- An array value laid into a new variable. -/
theorem box_whole {w : World} {cs : Array Value} {rows : List (List Int)} (h : ArrRd w cs rows) : ((w.alloc (.cells #[.slice none 0 0, .slice none 0 0, .slice none 0 0, .slice none 0 0, .slice none 0 0, .slice none 0 0, .slice none 0 0, .slice none 0 0, .slice none 0 0, .slice none 0 0, .slice none 0 0, .slice none 0 0, .slice none 0 0, .slice none 0 0, .slice none 0 0, .slice none 0 0, .slice none 0 0, .slice none 0 0, .slice none 0 0, .slice none 0 0, .slice none 0 0] 48)).setCells w.heap.size 0 cs.toList).heap[w.heap.size]? = some (.cells cs 48 (0, 0)) ∧ Below w.heap.size w ((w.alloc (.cells #[.slice none 0 0, .slice none 0 0, .slice none 0 0, .slice none 0 0, .slice none 0 0, .slice none 0 0, .slice none 0 0, .slice none 0 0, .slice none 0 0, .slice none 0 0, .slice none 0 0, .slice none 0 0, .slice none 0 0, .slice none 0 0, .slice none 0 0, .slice none 0 0, .slice none 0 0, .slice none 0 0, .slice none 0 0, .slice none 0 0, .slice none 0 0] 48)).setCells w.heap.size 0 cs.toList) ∧ ArrRd ((w.alloc (.cells #[.slice none 0 0, .slice none 0 0, .slice none 0 0, .slice none 0 0, .slice none 0 0, .slice none 0 0, .slice none 0 0, .slice none 0 0, .slice none 0 0, .slice none 0 0, .slice none 0 0, .slice none 0 0, .slice none 0 0, .slice none 0 0, .slice none 0 0, .slice none 0 0, .slice none 0 0, .slice none 0 0, .slice none 0 0, .slice none 0 0, .slice none 0 0] 48)).setCells w.heap.size 0 cs.toList) cs rows := by
  have hb : Below w.heap.size w ((w.alloc (.cells #[.slice none 0 0, .slice none 0 0, .slice none 0 0, .slice none 0 0, .slice none 0 0, .slice none 0 0, .slice none 0 0, .slice none 0 0, .slice none 0 0, .slice none 0 0, .slice none 0 0, .slice none 0 0, .slice none 0 0, .slice none 0 0, .slice none 0 0, .slice none 0 0, .slice none 0 0, .slice none 0 0, .slice none 0 0, .slice none 0 0, .slice none 0 0] 48)).setCells w.heap.size 0 cs.toList) := below_whole (below_alloc (Below.refl _ _) _) (Nat.le_refl _) _
  exact ⟨heap_whole (heap_alloc_new w _) (ArrRd_eq h), hb, ArrRd_below h hb⟩
set_option maxHeartbeats 3200000 in
theorem isPairs_calls (A : Option Addr) (c : Nat) (l : List Int) (w : World) (hr : Rd w A l) (hc : l.length ≤ c) (hn : l.length ≤ 1048576) :
    Calls Try.prog 94 #[.slice A l.length c] w fun e w' => e = .returned (.bool (tf (Good l ∧ Paired l))) ∧ Below w.heap.size w w' := by
  have HR := Aside0.mk hr
  have HC := Aside0.mk hc
  clear hr hc
  have HB := Aside0.mk (Below.refl w.heap.size w)
  by_cases hg : Good l
  · have H1 := Aside0.mk (tf_pos hg)
    have HG := Aside0.mk hg
    have HF := Aside0.mk (show tf (Good l ∧ Paired l) = tf (Paired l) from tf_congr ⟨fun h => h.2, fun h => ⟨hg, h⟩⟩)
    obtain ⟨b, hb⟩ : ∃ b, tf (Paired l) = b := ⟨_, rfl⟩
    have H2 := Aside0.mk hb
    clear hg hb
    go_enter Try.func94, Try.ntmps94
    go_wp2_with (first | (go_at_call 100; refine (IsRow_calls _ _ l _ (by repeat (first | exact HR.out | apply Kd.C_drewN)) HC.out hn).mono ?_; rw [H1.out]; rintro e w' ⟨rfl, ⟨nd, rfl⟩⟩) | (go_at_call 53; refine (pairs_calls _ _ l _ (Kd.C_below HR.out (by repeat (first | (with_reducible first | exact HB.out | apply below_alloc | apply pw_below_drewN | apply below_drew1) | exact HB.out))) HC.out HG.out).mono ?_; rw [H2.out]; rintro e w1 ⟨cs, rfl, harr, hb⟩; have n0_ := Aside0.mk (below_step (by repeat (first | (with_reducible first | exact HB.out | apply below_alloc | apply pw_below_drewN | apply below_drew1) | exact HB.out)) hb); clear HB hb; have HB := n0_; clear n0_; have HARR := Aside0.mk harr; have HIS := Aside0.mk (ArrRd_info harr); have HLE := Aside0.mk (ArrRd_le harr); have HONE := Aside0.mk (ArrRd_one harr); clear harr) | (refine wpList_store_mid rfl 48 _ _ rfl w1.heap.size 0 cs rfl rfl (there_of (heap_alloc_new w1 _) HLE.out) HIS.out HONE.out ?_; obtain ⟨hh_, hb_, ha_⟩ := box_whole HARR.out; generalize hwx_ : (w1.alloc (.cells #[.slice none 0 0, .slice none 0 0, .slice none 0 0, .slice none 0 0, .slice none 0 0, .slice none 0 0, .slice none 0 0, .slice none 0 0, .slice none 0 0, .slice none 0 0, .slice none 0 0, .slice none 0 0, .slice none 0 0, .slice none 0 0, .slice none 0 0, .slice none 0 0, .slice none 0 0, .slice none 0 0, .slice none 0 0, .slice none 0 0, .slice none 0 0] 48)).setCells w1.heap.size 0 cs.toList = w2 at hh_ hb_ ha_ ⊢; clear hwx_ HARR; have HH := Aside0.mk hh_; have HARR := Aside0.mk ha_; have n0_ := Aside0.mk (below_step HB.out hb_); clear HB hh_ hb_ ha_; have HB := n0_; clear n0_))
    go_ret
    exact ⟨by rw [HF.out, H2.out]; rfl, (by repeat (first | (with_reducible first | exact HB.out | apply below_alloc | apply pw_below_drewN | apply below_drew1) | exact HB.out))⟩
  · have H1 := Aside0.mk (tf_neg hg)
    have HF := Aside0.mk (show tf (Good l ∧ Paired l) = false from tf_neg (fun h => hg h.1))
    clear hg
    go_enter Try.func94, Try.ntmps94
    go_wp2_with (go_at_call 100; refine (IsRow_calls _ _ l _ (by repeat (first | exact HR.out | apply Kd.C_drewN)) HC.out hn).mono ?_; rw [H1.out]; rintro e w' ⟨rfl, ⟨nd, rfl⟩⟩)
    go_ret
    exact ⟨ret_bool HF.out.symm, (by repeat (first | (with_reducible first | exact HB.out | apply below_alloc | apply pw_below_drewN | apply below_drew1) | exact HB.out))⟩
theorem cell_spot3 {w : World} {a : Addr} {v : Value} (h : w.cell? a = some v) : a = ⟨a.block, a.off, none⟩ := by
  obtain ⟨b, o, s⟩ := a
  cases s with
  | none => rfl
  | some x =>
    unfold World.cell? at h
    split at h
    · simp at h
    · cases h
theorem two_at {w : World} {A : Option Addr} {l : List Int} (h : Rd w A l) (hl : l.length = 2) : ∃ b off, A = some ⟨b, off, none⟩ ∧ w.cell? ⟨b, off, none⟩ = some (.int .i64 (rd l 0)) ∧ w.cell? ⟨b, off + 1, none⟩ = some (.int .i64 (rd l 1)) := by
  obtain ⟨ad, e, hx⟩ := at_nat h (show 0 < l.length by omega)
  obtain ⟨ad', e', hx'⟩ := at_nat h (show 1 < l.length by omega)
  obtain rfl : ad = ad' := by rw [e] at e'; injection e'
  have hx0 : w.cell? ad = some (.int .i64 (rd l 0)) := by simpa [Addr.add] using hx
  have hs := cell_spot3 hx0
  refine ⟨ad.block, ad.off, by rw [← hs]; exact e, by rw [← hs]; exact hx0, ?_⟩
  have ha : ad.add 1 = ⟨ad.block, ad.off + 1, none⟩ := by
    unfold Addr.add
    rw [if_neg (by decide)]
  rw [ha] at hx'
  exact hx'
def FitAt (l : List Int) (j : Nat) : Prop := ((atL l l.length).getD j []).length = 2 → rd ((atL l l.length).getD j []) 1 - rd ((atL l l.length).getD j []) 0 = (j : Int)
theorem fitAt_all {l : List Int} : (∀ j : Nat, j < 21 → FitAt l j) ↔ FitsL l := by
  constructor
  · intro h n h1 h2 h3
    have := h n (by omega)
    unfold FitAt at this
    rw [atL_get l l.length (by omega), if_neg (by omega)] at this
    exact this h3
  · intro h j hj
    unfold FitAt
    rw [atL_get l l.length hj]
    by_cases e : j = 0
    · rw [if_pos e]; intro h2; cases h2
    · rw [if_neg e]; exact h j (by omega) (by omega)
theorem fit_bnd {l : List Int} (hl : l.length ≤ 40) {j : Nat} (hj : j < 21) (h2 : ((atL l l.length).getD j []).length = 2) : (0 ≤ rd ((atL l l.length).getD j []) 0 ∧ rd ((atL l l.length).getD j []) 0 ≤ 40) ∧ (0 ≤ rd ((atL l l.length).getD j []) 1 ∧ rd ((atL l l.length).getD j []) 1 ≤ 40) := by
  rw [atL_get l l.length hj] at h2 ⊢
  by_cases e : j = 0
  · rw [if_pos e] at h2; cases h2
  · rw [if_neg e] at h2 ⊢
    have a0 := plU_in l (j : Int) l.length (rd (plU l (j : Int) l.length) ((0 : Nat) : Int)) (rd_mem (by omega))
    have a1 := plU_in l (j : Int) l.length (rd (plU l (j : Int) l.length) ((1 : Nat) : Int)) (rd_mem (by omega))
    have e1 : ((1 : Nat) : Int) = 1 := rfl
    have e0 : ((0 : Nat) : Int) = 0 := rfl
    rw [e1] at a1
    rw [e0] at a0
    omega
set_option maxHeartbeats 3200000 in
theorem fits_calls (A : Option Addr) (c : Nat) (l : List Int) (w : World) (hr : Rd w A l) (hc : l.length ≤ c) (hn : l.length ≤ 1048576) :
    Calls Try.prog 82 #[.slice A l.length c, .int .i64 0] w fun e w' => e = .returned (.bool (tf ((Good l ∧ Paired l) ∧ FitsL l))) ∧ Below w.heap.size w w' := by
  have HR := Aside0.mk hr
  have HC := Aside0.mk hc
  clear hr hc
  have HB := Aside0.mk (Below.refl w.heap.size w)
  by_cases hg : Good l ∧ Paired l
  · have H1 := Aside0.mk (tf_pos hg)
    have H2 := Aside0.mk (tf_pos hg.2)
    have HG := Aside0.mk hg.1
    have HF := Aside0.mk (show tf ((Good l ∧ Paired l) ∧ FitsL l) = tf (FitsL l) from tf_congr ⟨fun h => h.2, fun h => ⟨hg, h⟩⟩)
    have hl40 := hg.1.1
    clear hg
    go_enter Try.func82, Try.ntmps82
    go_wp2_with (first | (go_at_call 94; refine (isPairs_calls _ _ l _ (Kd.C_below HR.out (by repeat (first | (with_reducible first | exact HB.out | apply below_alloc | apply pw_below_drewN | apply below_drew1) | exact HB.out))) HC.out hn).mono ?_; rw [H1.out]; rintro e w5 ⟨rfl, hb⟩; have n0_ := Aside0.mk (below_step (by repeat (first | (with_reducible first | exact HB.out | apply below_alloc | apply pw_below_drewN | apply below_drew1) | exact HB.out)) hb); clear HB hb; have HB := n0_; clear n0_) | (go_at_call 53; refine (pairs_calls _ _ l _ (Kd.C_below HR.out (by repeat (first | (with_reducible first | exact HB.out | apply below_alloc | apply pw_below_drewN | apply below_drew1) | exact HB.out))) HC.out HG.out).mono ?_; rw [H2.out]; rintro e w1 ⟨cs, rfl, harr, hb⟩; have n0_ := Aside0.mk (below_step (by repeat (first | (with_reducible first | exact HB.out | apply below_alloc | apply pw_below_drewN | apply below_drew1) | exact HB.out)) hb); clear HB hb; have HB := n0_; clear n0_; have HARR := Aside0.mk harr; have HIS := Aside0.mk (ArrRd_info harr); have HLE := Aside0.mk (ArrRd_le harr); have HONE := Aside0.mk (ArrRd_one harr); clear harr) | (refine wpList_store_mid rfl 48 _ _ rfl w1.heap.size 0 cs rfl rfl (there_of (heap_alloc_new w1 _) HLE.out) HIS.out HONE.out ?_; obtain ⟨hh_, hb_, ha_⟩ := box_whole HARR.out; generalize hwx_ : (w1.alloc (.cells #[.slice none 0 0, .slice none 0 0, .slice none 0 0, .slice none 0 0, .slice none 0 0, .slice none 0 0, .slice none 0 0, .slice none 0 0, .slice none 0 0, .slice none 0 0, .slice none 0 0, .slice none 0 0, .slice none 0 0, .slice none 0 0, .slice none 0 0, .slice none 0 0, .slice none 0 0, .slice none 0 0, .slice none 0 0, .slice none 0 0, .slice none 0 0] 48)).setCells w1.heap.size 0 cs.toList = w2 at hh_ hb_ ha_ ⊢; clear hwx_ HARR; have HH := Aside0.mk hh_; have HARR := Aside0.mk ha_; have n0_ := Aside0.mk (below_step HB.out hb_); clear HB hh_ hb_ ha_; have HB := n0_; clear n0_) | (refine wpList_load_row rfl 48 _ rfl w1.heap.size rfl 48 cs (0, 0) _ HH.out Try.underlying48 rfl HIS.out ?_))
    obtain ⟨wo, rfl⟩ : ∃ wo : World, wo = w2 := ⟨_, rfl⟩
    go_loopg [18] 21 (fun g v18 w' => ∃ j : Nat, v18 = .int .i64 j ∧ Aside0 (j + g = 21) ∧ Aside0 (∀ m : Nat, m < j → FitAt l m) ∧ Drawn0 wo w')
    case atStart => exact ⟨0, rfl, ⟨rfl⟩, ⟨fun m h => absurd h (by omega)⟩, (by repeat (first | exact Drawn0.refl _ | apply Drawn0.step))⟩
    case round =>
      obtain ⟨j, rfl, HJ, HP, ⟨m1, rfl⟩⟩ := hrel
      by_cases hj : j < 21
      · obtain ⟨A0, c0, hcs, hc0, hr0⟩ := HARR.out.2 j hj
        have hidx := idx_run cs hj hcs
        have HNX := Aside0.mk (show FitAt l j → ∀ m : Nat, m < j + 1 → FitAt l m from fun h m hm => by
          rcases Nat.lt_or_ge m j with h2 | h2
          · exact HP.out m h2
          · rw [show m = j by omega]; exact h)
        have HBAD := Aside0.mk (show ¬ FitAt l j → ¬ FitsL l from fun h h2 => h (fitAt_all.mpr h2 j hj))
        have HBN := Aside0.mk (fun h => fit_bnd hl40 hj h)
        unfold FitAt at HNX HBAD
        clear hcs hc0
        obtain ⟨x, hx⟩ : ∃ x, (atL l l.length).getD j [] = x := ⟨_, rfl⟩
        have HNX := Aside0.mk (show ((x.length = 2 → rd x 1 - rd x 0 = (j : Int)) → ∀ m : Nat, m < j + 1 → FitAt l m) by rw [← hx]; exact HNX.out)
        rw [hx] at hidx hr0 HBAD HBN
        clear hx
        by_cases h2 : x.length = 2
        · obtain ⟨b0, f0, hA0, hx0, hx1⟩ := two_at hr0 h2
          subst hA0
          have hbn := HBN.out h2
          rw [h2] at hidx
          by_cases hq : rd x 1 - rd x 0 = (j : Int)
          · have HN := Aside0.mk (HNX.out (fun _ => hq))
            have hd : (rd x 1 - rd x 0 != (j : Int)) = false := by rw [hq]; simp
            clear hr0 h2 hq
            generalize rd x 0 = p at *
            generalize rd x 1 = q at *
            (go_wp2; repeat (go_quiet (fail); try go_wp2))
            go_roundg (gk - 1)
            case measure => have := HJ.out; omega
            case rel => exact ⟨j + 1, by go_num, ⟨by have := HJ.out; omega⟩, HN, (by repeat (first | exact Drawn0.refl _ | apply Drawn0.step))⟩
          · have HFF := Aside0.mk (show tf (FitsL l) = false from tf_neg (HBAD.out (fun h => hq (h h2))))
            have hd : (rd x 1 - rd x 0 != (j : Int)) = true := bne_iff_ne.mpr hq
            clear hr0 h2 hq
            generalize rd x 0 = p at *
            generalize rd x 1 = q at *
            (go_wp2; repeat (go_quiet (fail); try go_wp2))
            go_ret
            exact ⟨by rw [HF.out, HFF.out]; rfl, (by repeat (first | (with_reducible first | exact HB.out | apply below_alloc | apply pw_below_drewN | apply below_drew1) | exact HB.out))⟩
        · have HN := Aside0.mk (HNX.out (fun h => absurd h h2))
          have h2b : ((x.length : Int) == 2) = false := beq_eq_false_iff_ne.mpr (by omega)
          clear h2 hr0
          (go_wp2; repeat (go_quiet (fail); try go_wp2))
          go_roundg (gk - 1)
          case measure => have := HJ.out; omega
          case rel => exact ⟨j + 1, by go_num, ⟨by have := HJ.out; omega⟩, HN, (by repeat (first | exact Drawn0.refl _ | apply Drawn0.step))⟩
      · have HFF := Aside0.mk (show tf (FitsL l) = true from tf_pos (fitAt_all.mp (fun m hm => HP.out m (by omega))))
        (go_wp2; repeat (go_quiet (fail); try go_wp2))
        go_ret
        exact ⟨by rw [HF.out, HFF.out]; rfl, (by repeat (first | (with_reducible first | exact HB.out | apply below_alloc | apply pw_below_drewN | apply below_drew1) | exact HB.out))⟩
  · have H1 := Aside0.mk (tf_neg hg)
    have HF := Aside0.mk (show tf ((Good l ∧ Paired l) ∧ FitsL l) = false from tf_neg (fun h => hg h.1))
    clear hg
    go_enter Try.func82, Try.ntmps82
    go_wp2_with (go_at_call 94; refine (isPairs_calls _ _ l _ (Kd.C_below HR.out (by repeat (first | (with_reducible first | exact HB.out | apply below_alloc | apply pw_below_drewN | apply below_drew1) | exact HB.out))) HC.out hn).mono ?_; rw [H1.out]; rintro e w5 ⟨rfl, hb⟩; have n0_ := Aside0.mk (below_step (by repeat (first | (with_reducible first | exact HB.out | apply below_alloc | apply pw_below_drewN | apply below_drew1) | exact HB.out)) hb); clear HB hb; have HB := n0_; clear n0_)
    go_ret
    exact ⟨ret_bool HF.out.symm, (by repeat (first | (with_reducible first | exact HB.out | apply below_alloc | apply pw_below_drewN | apply below_drew1) | exact HB.out))⟩
end Go.Proofs.Ytpabfibmpannoaa.Own.G
