/- Skolem rows: the walks of the program's skolem and LabelsOfRow; lists of at most 1048576 numbers. -/
import Derived.Test.YtpabfibmpannoaaOwnRoE
namespace Go.Proofs.Ytpabfibmpannoaa.Own.G
open Go.RowKit Go.Proofs.YtpabfibmpannoaaW.PrintWords Go.Proofs.YtpabfibmpannoaaW.PrintLast Go.Proofs.YtpabfibmpannoaaW.PrintMore
set_option linter.unusedVariables false
set_option maxHeartbeats 3200000 in
theorem skolem_calls (A : Option Addr) (c : Nat) (l : List Int) (w : World) (hr : Rd w A l) (hc : l.length ≤ c) (hn : l.length ≤ 1048576) :
    Calls Try.prog 52 #[.slice A l.length c] w fun e w' => e = .returned (.int .i64 (skN l)) ∧ Below w.heap.size w w' := by
  have HR := Aside0.mk hr
  have HC := Aside0.mk hc
  clear hr hc
  have HB := Aside0.mk (Below.refl w.heap.size w)
  by_cases hg : (Good l ∧ Paired l) ∧ FitsL l
  · have H1 := Aside0.mk (tf_pos hg)
    obtain ⟨hs, hhs⟩ : ∃ hs, plc l 0 = hs := ⟨_, rfl⟩
    have H3 := Aside0.mk hhs
    by_cases h0 : hs.length = 0
    · obtain ⟨n, hnn⟩ : ∃ n : Int, (if tf (FromL 1 (nums l)) = true then ((nums l).length : Int) else 0) = n := ⟨_, rfl⟩
      have H4 := Aside0.mk hnn
      have HF := Aside0.mk (show skN l = n by
        rw [← hnn]
        unfold skN
        rw [tf_congr (P := ((Good l ∧ Paired l) ∧ FitsL l ∧ (plc l 0).length = 0) ∧ FromL 1 (nums l)) (Q := FromL 1 (nums l)) ⟨fun h => h.2, fun h => ⟨⟨hg.1, hg.2, by rw [hhs]; exact h0⟩, h⟩⟩])
      have hgt : decide (0 < (hs.length : Int)) = false := decide_eq_false (by omega)
      clear hg hhs hnn
      go_enter Try.func52, Try.ntmps52
      go_wp2_with (first | (go_at_call 82; refine (fits_calls _ _ l _ (Kd.C_below HR.out (by repeat (first | (with_reducible first | exact HB.out | apply below_alloc | apply pw_below_drewN | apply below_drew1) | exact HB.out))) HC.out hn).mono ?_; rw [H1.out]; rintro e w5 ⟨rfl, hb⟩; have n0_ := Aside0.mk (below_step (by repeat (first | (with_reducible first | exact HB.out | apply below_alloc | apply pw_below_drewN | apply below_drew1) | exact HB.out)) hb); clear HB hb; have HB := n0_; clear n0_) | (go_at_call 83; refine (holes_calls _ _ l _ (Kd.C_below HR.out (by repeat (first | (with_reducible first | exact HB.out | apply below_alloc | apply pw_below_drewN | apply below_drew1) | exact HB.out))) HC.out hn).mono ?_; rw [H3.out]; rintro e w6 ⟨v6, rfl, ho, hb⟩; obtain ⟨A6, c6, e6_, _, _⟩ := Ow_form ho; subst e6_; have n0_ := Aside0.mk (below_step (by repeat (first | (with_reducible first | exact HB.out | apply below_alloc | apply pw_below_drewN | apply below_drew1) | exact HB.out)) hb); clear HB hb ho; have HB := n0_; clear n0_) | (go_at_call 84; refine (isFrom_calls _ _ l _ (Kd.C_below HR.out (by repeat (first | (with_reducible first | exact HB.out | apply below_alloc | apply pw_below_drewN | apply below_drew1) | exact HB.out))) HC.out hn).mono ?_; rw [H4.out]; rintro e w7 ⟨b7, rfl, hb⟩; have n0_ := Aside0.mk (below_step (by repeat (first | (with_reducible first | exact HB.out | apply below_alloc | apply pw_below_drewN | apply below_drew1) | exact HB.out)) hb); clear HB hb; have HB := n0_; clear n0_))
      repeat (go_quiet (fail); try go_wp2_with (first | (go_at_call 82; refine (fits_calls _ _ l _ (Kd.C_below HR.out (by repeat (first | (with_reducible first | exact HB.out | apply below_alloc | apply pw_below_drewN | apply below_drew1) | exact HB.out))) HC.out hn).mono ?_; rw [H1.out]; rintro e w5 ⟨rfl, hb⟩; have n0_ := Aside0.mk (below_step (by repeat (first | (with_reducible first | exact HB.out | apply below_alloc | apply pw_below_drewN | apply below_drew1) | exact HB.out)) hb); clear HB hb; have HB := n0_; clear n0_) | (go_at_call 83; refine (holes_calls _ _ l _ (Kd.C_below HR.out (by repeat (first | (with_reducible first | exact HB.out | apply below_alloc | apply pw_below_drewN | apply below_drew1) | exact HB.out))) HC.out hn).mono ?_; rw [H3.out]; rintro e w6 ⟨v6, rfl, ho, hb⟩; obtain ⟨A6, c6, e6_, _, _⟩ := Ow_form ho; subst e6_; have n0_ := Aside0.mk (below_step (by repeat (first | (with_reducible first | exact HB.out | apply below_alloc | apply pw_below_drewN | apply below_drew1) | exact HB.out)) hb); clear HB hb ho; have HB := n0_; clear n0_) | (go_at_call 84; refine (isFrom_calls _ _ l _ (Kd.C_below HR.out (by repeat (first | (with_reducible first | exact HB.out | apply below_alloc | apply pw_below_drewN | apply below_drew1) | exact HB.out))) HC.out hn).mono ?_; rw [H4.out]; rintro e w7 ⟨b7, rfl, hb⟩; have n0_ := Aside0.mk (below_step (by repeat (first | (with_reducible first | exact HB.out | apply below_alloc | apply pw_below_drewN | apply below_drew1) | exact HB.out)) hb); clear HB hb; have HB := n0_; clear n0_)))
      go_ret
      exact ⟨by rw [HF.out]; rfl, (by repeat (first | (with_reducible first | exact HB.out | apply below_alloc | apply pw_below_drewN | apply below_drew1) | exact HB.out))⟩
    · have HF := Aside0.mk (show skN l = 0 by
        unfold skN
        rw [if_neg (by rw [tf_neg (fun h => h0 (by rw [← hhs]; exact h.1.2.2))]; decide)])
      have hgt : decide (0 < (hs.length : Int)) = true := decide_eq_true (by omega)
      clear hg hhs
      go_enter Try.func52, Try.ntmps52
      go_wp2_with (first | (go_at_call 82; refine (fits_calls _ _ l _ (Kd.C_below HR.out (by repeat (first | (with_reducible first | exact HB.out | apply below_alloc | apply pw_below_drewN | apply below_drew1) | exact HB.out))) HC.out hn).mono ?_; rw [H1.out]; rintro e w5 ⟨rfl, hb⟩; have n0_ := Aside0.mk (below_step (by repeat (first | (with_reducible first | exact HB.out | apply below_alloc | apply pw_below_drewN | apply below_drew1) | exact HB.out)) hb); clear HB hb; have HB := n0_; clear n0_) | (go_at_call 83; refine (holes_calls _ _ l _ (Kd.C_below HR.out (by repeat (first | (with_reducible first | exact HB.out | apply below_alloc | apply pw_below_drewN | apply below_drew1) | exact HB.out))) HC.out hn).mono ?_; rw [H3.out]; rintro e w6 ⟨v6, rfl, ho, hb⟩; obtain ⟨A6, c6, e6_, _, _⟩ := Ow_form ho; subst e6_; have n0_ := Aside0.mk (below_step (by repeat (first | (with_reducible first | exact HB.out | apply below_alloc | apply pw_below_drewN | apply below_drew1) | exact HB.out)) hb); clear HB hb ho; have HB := n0_; clear n0_))
      repeat (go_quiet (fail); try go_wp2_with fail)
      go_ret
      exact ⟨by rw [HF.out]; rfl, (by repeat (first | (with_reducible first | exact HB.out | apply below_alloc | apply pw_below_drewN | apply below_drew1) | exact HB.out))⟩
  · have H1 := Aside0.mk (tf_neg hg)
    have HF := Aside0.mk (show skN l = 0 by
      unfold skN
      rw [if_neg (by rw [tf_neg (fun h => hg ⟨h.1.1, h.1.2.1⟩)]; decide)])
    clear hg
    go_enter Try.func52, Try.ntmps52
    go_wp2_with (go_at_call 82; refine (fits_calls _ _ l _ (Kd.C_below HR.out (by repeat (first | (with_reducible first | exact HB.out | apply below_alloc | apply pw_below_drewN | apply below_drew1) | exact HB.out))) HC.out hn).mono ?_; rw [H1.out]; rintro e w5 ⟨rfl, hb⟩; have n0_ := Aside0.mk (below_step (by repeat (first | (with_reducible first | exact HB.out | apply below_alloc | apply pw_below_drewN | apply below_drew1) | exact HB.out)) hb); clear HB hb; have HB := n0_; clear n0_)
    repeat (go_quiet (fail); try go_wp2_with fail)
    go_ret
    exact ⟨by rw [HF.out]; rfl, (by repeat (first | (with_reducible first | exact HB.out | apply below_alloc | apply pw_below_drewN | apply below_drew1) | exact HB.out))⟩
set_option maxHeartbeats 3200000 in
theorem implLab_calls (A : Option Addr) (c : Nat) (l : List Int) (w : World) (hr : Rd w A l) (hc : l.length ≤ c) (hn : l.length ≤ 1048576) (hw : ∀ x ∈ l, W64 x) :
    Calls Try.prog 27 #[.slice A l.length c] w fun e w' => ∃ v, e = .returned (.tuple #[v, .bool (LabF l).2]) ∧ Ow w' w.heap.size v (LabF l).1 ∧ Below w.heap.size w w' := by
  have HR := Aside0.mk hr
  have HC := Aside0.mk hc
  clear hr hc hw
  have HB := Aside0.mk (Below.refl w.heap.size w)
  by_cases hd : SkOk l
  · obtain ⟨m, hm⟩ : ∃ m : Nat, (nums l).length = m := ⟨_, rfl⟩
    have H1 := Aside0.mk (show skN l = (m : Int) by rw [skN_ok hd, hm])
    have H2 := Aside0.mk (tf_pos hd.1.2)
    have HG := Aside0.mk hd.1.1
    have hl40 := hd.1.1.1
    have hm0 : 0 < m := by rw [← hm]; exact hd.2.2.1.2
    have hm20 : m ≤ 20 := by rw [← hm]; exact numsU_len l 20
    have HF := Aside0.mk (show LabF l = (labO l m, true) by rw [LabF_yes hd, half hd, hm, show 2 * m / 2 = m by omega])
    have HTW := Aside0.mk (show ∀ k : Nat, 1 ≤ k → k ≤ m → (plc l (k : Int)).length = 2 from fun k h1 h2 => two_of hd k h1 (by rw [hm]; exact h2))
    have hmz : ((m : Int) == 0) = false := beq_eq_false_iff_ne.mpr (by omega)
    clear hd hm
    go_enter Try.func27, Try.ntmps27
    go_wp2_with (first | (go_at_call 52; refine (skolem_calls _ _ l _ (Kd.C_below HR.out (by repeat (first | (with_reducible first | exact HB.out | apply below_alloc | apply pw_below_drewN | apply below_drew1) | exact HB.out))) HC.out hn).mono ?_; rw [H1.out]; rintro e w5 ⟨rfl, hb⟩; have n0_ := Aside0.mk (below_step (by repeat (first | (with_reducible first | exact HB.out | apply below_alloc | apply pw_below_drewN | apply below_drew1) | exact HB.out)) hb); clear HB hb; have HB := n0_; clear n0_) | (go_at_call 53; refine (pairs_calls _ _ l _ (Kd.C_below HR.out (by repeat (first | (with_reducible first | exact HB.out | apply below_alloc | apply pw_below_drewN | apply below_drew1) | exact HB.out))) HC.out HG.out).mono ?_; rw [H2.out]; rintro e w1 ⟨cs, rfl, harr, hb⟩; have n0_ := Aside0.mk (below_step (by repeat (first | (with_reducible first | exact HB.out | apply below_alloc | apply pw_below_drewN | apply below_drew1) | exact HB.out)) hb); clear HB hb; have HB := n0_; clear n0_; have HARR := Aside0.mk harr; have HIS := Aside0.mk (ArrRd_info harr); have HLE := Aside0.mk (ArrRd_le harr); have HONE := Aside0.mk (ArrRd_one harr); clear harr) | (refine wpList_store_mid rfl 48 _ _ rfl w1.heap.size 0 cs rfl rfl (there_of (heap_alloc_new w1 _) HLE.out) HIS.out HONE.out ?_; obtain ⟨hh_, hb_, ha_⟩ := box_whole HARR.out; generalize hwx_ : (w1.alloc (.cells #[.slice none 0 0, .slice none 0 0, .slice none 0 0, .slice none 0 0, .slice none 0 0, .slice none 0 0, .slice none 0 0, .slice none 0 0, .slice none 0 0, .slice none 0 0, .slice none 0 0, .slice none 0 0, .slice none 0 0, .slice none 0 0, .slice none 0 0, .slice none 0 0, .slice none 0 0, .slice none 0 0, .slice none 0 0, .slice none 0 0, .slice none 0 0] 48)).setCells w1.heap.size 0 cs.toList = w2 at hh_ hb_ ha_ ⊢; clear hwx_ HARR; have HH := Aside0.mk hh_; have HARR := Aside0.mk ha_; have n0_ := Aside0.mk (below_step HB.out hb_); clear HB hh_ hb_ ha_; have HB := n0_; clear n0_))
    obtain ⟨wo, rfl⟩ : ∃ wo : World, wo = w2 := ⟨_, rfl⟩
    have HBO := HB
    clear HB
    have HB := Aside0.mk (Below.refl wo.heap.size wo)
    have HO := Aside0.mk (Kd.R_nil (Kd.int .i64) 3 wo wo.heap.size (fun _ => True))
    have hlt1 : w1.heap.size < wo.heap.size := lt_of_block HH.out
    go_loopg [7, 8] m (fun g v7 v8 w' => ∃ (k : Nat) (xs : List Int), v8 = .int .i64 ((k : Int) + 1) ∧ Aside0 (k + g = m) ∧ Aside0 (xs = labO l k) ∧ Aside0 (Ow w' wo.heap.size v7 xs) ∧ Aside0 (Below wo.heap.size wo w'))
    case atStart => exact ⟨0, [], rfl, ⟨by omega⟩, ⟨rfl⟩, HO, HB⟩
    case round =>
      clear HO HB
      obtain ⟨k, xs, rfl, HK, HX, HO, HB⟩ := hrel
      have hkm : k ≤ m := by have := HK.out; omega
      by_cases hk : k < m
      · obtain ⟨A0, c0, hcs, hc0, hr0⟩ := HARR.out.2 (k + 1) (by omega)
        have e : (atL l l.length).getD (k + 1) [] = plc l ((k + 1 : Nat) : Int) := by rw [atL_get l l.length (by omega), if_neg (by omega)]; rfl
        have HS := Aside0.mk (show labO l (k + 1) = labO l k ++ (atL l l.length).getD (k + 1) [] by rw [e]; rfl)
        have h2 : ((atL l l.length).getD (k + 1) []).length = 2 := by rw [e]; exact HTW.out (k + 1) (by omega) (by omega)
        have HXL := Aside0.mk (show xs.length ≤ 1600 by rw [HX.out]; exact labO_fit hl40 (by omega))
        clear e
        generalize (atL l l.length).getD (k + 1) [] = x at *
        have hcell : wo.cell? ⟨w1.heap.size, k + 1, none⟩ = some (.slice A0 x.length c0) := (cell_of_row wo w1.heap.size (k + 1) cs _ (0, 0) HH.out).trans hcs
        replace hcell := (HB.out.cell (World.block_lt_of_cell? wo _ hcell)).trans hcell
        have HRX := Aside0.mk hr0
        clear hcs hr0
        have HX2 := Aside0.mk h2
        clear h2
        go_wp2_with ((with_reducible refine gate_builtin (b := .append) (xs := #[.tmp 23, .tmp 26]) rfl ?_); at_builtin; refine Kd.R_append_rows (Kd.int .i64) (w0 := wo) wo.heap.size rfl (.tmp 23) (.tmp 26) 29 3 (.int .i64 0) 8 rfl Try.underlying29 infoInt rfl (by decide) (by omega) u7 xs x _ _ _ (fun _ => True) (fun _ => False) rfl rfl ?aO ?aR (fun _ _ h => h) (fun _ h => h.elim) (fun _ _ => trivial) ?aB ?aS ?aL ?_; (case aR => exact (Kd.C_below HRX.out (by repeat (first | (with_reducible first | exact HB.out | apply below_alloc | apply pw_below_drewN | apply below_drew1) | exact HB.out)))); (case aO => exact (by first | exact HO.out | exact Ow_drewN HO.out _)); (case aB => exact (by repeat (first | (with_reducible first | exact HB.out | apply below_alloc | apply pw_below_drewN | apply below_drew1) | exact HB.out))); (case aS => exact below_size (by repeat (first | (with_reducible first | exact HB.out | apply below_alloc | apply pw_below_drewN | apply below_drew1) | exact HB.out))); (case aL => have := HXL.out; have := HX2.out; omega); intro v3 w3 ho_ hb_ hg_ hat_; have n0_ := Aside0.mk hb_; have n1_ := Aside0.mk ho_; clear HB HO; have HB := n0_; have HO := n1_; clear n0_ n1_ ho_ hb_ hg_ hat_)
        repeat (go_quiet (fail); try go_wp2_with ((with_reducible refine gate_builtin (b := .append) (xs := #[.tmp 23, .tmp 26]) rfl ?_); at_builtin; refine Kd.R_append_rows (Kd.int .i64) (w0 := wo) wo.heap.size rfl (.tmp 23) (.tmp 26) 29 3 (.int .i64 0) 8 rfl Try.underlying29 infoInt rfl (by decide) (by omega) u7 xs x _ _ _ (fun _ => True) (fun _ => False) rfl rfl ?aO ?aR (fun _ _ h => h) (fun _ h => h.elim) (fun _ _ => trivial) ?aB ?aS ?aL ?_; (case aR => exact (Kd.C_below HRX.out (by repeat (first | (with_reducible first | exact HB.out | apply below_alloc | apply pw_below_drewN | apply below_drew1) | exact HB.out)))); (case aO => exact (by first | exact HO.out | exact Ow_drewN HO.out _)); (case aB => exact (by repeat (first | (with_reducible first | exact HB.out | apply below_alloc | apply pw_below_drewN | apply below_drew1) | exact HB.out))); (case aS => exact below_size (by repeat (first | (with_reducible first | exact HB.out | apply below_alloc | apply pw_below_drewN | apply below_drew1) | exact HB.out))); (case aL => have := HXL.out; have := HX2.out; omega); intro v3 w3 ho_ hb_ hg_ hat_; have n0_ := Aside0.mk hb_; have n1_ := Aside0.mk ho_; clear HB HO; have HB := n0_; have HO := n1_; clear n0_ n1_ ho_ hb_ hg_ hat_))
        go_roundg (gk - 1)
        case measure => have := HK.out; omega
        case rel => exact ⟨k + 1, xs ++ x, by go_num, ⟨by have := HK.out; omega⟩, ⟨by rw [HX.out, HS.out]⟩, ⟨(by first | exact HO.out | exact Ow_drewN HO.out _)⟩, ⟨(by repeat (first | (with_reducible first | exact HB.out | apply below_alloc | apply pw_below_drewN | apply below_drew1) | exact HB.out))⟩⟩
      · have HE := Aside0.mk (show xs = labO l m by rw [HX.out, show k = m by omega])
        go_wp2
        repeat (go_quiet (fail); try go_wp2)
        go_ret2
        exact ⟨_, by rw [HF.out]; rfl, by rw [HF.out]; show Ow _ _ _ (labO _ _); rw [← HE.out]; exact Ow_lower (by first | exact HO.out | exact Ow_drewN HO.out _) HBO.out.size, below_step HBO.out (by repeat (first | (with_reducible first | exact HB.out | apply below_alloc | apply pw_below_drewN | apply below_drew1) | exact HB.out))⟩
  · have H1 := Aside0.mk (skN_bad hd)
    have HF := Aside0.mk (LabF_no hd)
    clear hd
    go_enter Try.func27, Try.ntmps27
    go_wp2_with (go_at_call 52; refine (skolem_calls _ _ l _ (Kd.C_below HR.out (by repeat (first | (with_reducible first | exact HB.out | apply below_alloc | apply pw_below_drewN | apply below_drew1) | exact HB.out))) HC.out hn).mono ?_; rw [H1.out]; rintro e w5 ⟨rfl, hb⟩; have n0_ := Aside0.mk (below_step (by repeat (first | (with_reducible first | exact HB.out | apply below_alloc | apply pw_below_drewN | apply below_drew1) | exact HB.out)) hb); clear HB hb; have HB := n0_; clear n0_)
    go_ret2
    exact ⟨_, by rw [HF.out]; rfl, by rw [HF.out]; exact Kd.R_nil _ _ _ _ _, (by repeat (first | (with_reducible first | exact HB.out | apply below_alloc | apply pw_below_drewN | apply below_drew1) | exact HB.out))⟩
end Go.Proofs.Ytpabfibmpannoaa.Own.G
