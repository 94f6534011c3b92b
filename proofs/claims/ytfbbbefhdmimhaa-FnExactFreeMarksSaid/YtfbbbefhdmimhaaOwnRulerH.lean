/- The marks that stay free on a different ruler: what the reference's and the program's FreeMarks return; lists of at most 1048576 numbers. -/
import Derived.Test.YtfbbbefhdmimhaaOwnRulerF
import Derived.Test.YtfbbbefhdmimhaaOwnRulerG
namespace Go.Proofs.Ytfbbbefhdmimhaa.Own.G
open Go.RowKit Go.Proofs.YtfbbbefhdmimhaaW.PrintWords Go.Proofs.YtfbbbefhdmimhaaW.PrintLast Go.Proofs.YtfbbbefhdmimhaaW.PrintMore
set_option linter.unusedVariables false
def Free (l : List Int) (a : Nat) : Prop := Ruler (insd l (a : Int)) ∧ Diff (times (insd l (a : Int)))
noncomputable def frees (l : List Int) : Nat → List Int
  | 0 => []
  | i + 1 => if tf (0 < i ∧ Free l i) = true then frees l i ++ [(i : Int)] else frees l i
theorem frees_yes {l : List Int} {i : Nat} (h0 : 1 ≤ i) (h : Free l i) : frees l (i + 1) = frees l i ++ [(i : Int)] := if_pos (tf_pos ⟨by omega, h⟩)
theorem frees_no {l : List Int} {i : Nat} (h : ¬ Free l i) : frees l (i + 1) = frees l i := if_neg (by rw [tf_neg (fun k => h k.2)]; decide)
theorem frees_one (l : List Int) : frees l 1 = [] := by
  rw [frees, if_neg (by rw [tf_neg (by omega)]; decide)]
  rfl
theorem frees_len (l : List Int) (i : Nat) : (frees l i).length ≤ i := by
  induction i with
  | zero => simp [frees]
  | succ i ih =>
    rw [frees]
    split
    · rw [List.length_append, List.length_singleton]; omega
    · omega
theorem frees_top {l : List Int} {i j : Nat} (h : i ≤ 1) (hj : j ≤ 1) : frees l i = frees l j := by
  have h0 : ∀ k, k ≤ 1 → frees l k = [] := fun k hk => by
    rcases Nat.lt_or_ge k 1 with h2 | h2
    · rw [show k = 0 by omega]; rfl
    · rw [show k = 1 by omega]; exact frees_one l
  rw [h0 i h, h0 j hj]
def FreeAsked (l : List Int) : Prop := Ruler l ∧ Diff (times l)
noncomputable def FreeF (l : List Int) : List Int × Bool := if tf (FreeAsked l) = true then (frees l (span l), true) else ([], false)
theorem FreeF_yes {l : List Int} (h : FreeAsked l) : FreeF l = (frees l (span l), true) := if_pos (tf_pos h)
theorem FreeF_no {l : List Int} (h : ¬ FreeAsked l) : FreeF l = ([], false) := if_neg (by rw [tf_neg h]; decide)
theorem FreeF_len (l : List Int) (hn : l.length ≤ 1048576) : (FreeF l).1.length ≤ 1048576 := by
  by_cases h : FreeAsked l
  · rw [FreeF_yes h]
    have := frees_len l (span l)
    have := span_le h.1
    show (frees _ _).length ≤ _
    omega
  · rw [FreeF_no h]; simp
set_option maxHeartbeats 6400000 in
theorem specFreeMarks_calls (A : Option Addr) (c : Nat) (l : List Int) (w : World) (hr : Rd w A l) (hc : l.length ≤ c) (hn : l.length ≤ 1048576) (hw : ∀ x ∈ l, W64 x) :
    Calls Try.prog 13 #[.slice A l.length c] w fun e w' => ∃ v, e = .returned (.tuple #[v, .bool (FreeF l).2]) ∧ Ow w' w.heap.size v (FreeF l).1 ∧ Below w.heap.size w w' := by
  have HR := Aside0.mk hr
  have HC := Aside0.mk hc
  have HW := Aside0.mk hw
  clear hr hc hw
  have HB := Aside0.mk (Below.refl w.heap.size w)
  by_cases hd : Ruler l
  · have H1 := Aside0.mk (tf_pos hd)
    have HD := Aside0.mk hd
    have hlen := hd.1.1
    have hsp := span_le hd
    by_cases hdf : Diff (times l)
    · have H2 := Aside0.mk (tf_pos hdf)
      have HF := Aside0.mk (FreeF_yes ⟨hd, hdf⟩)
      have HO := Aside0.mk (Kd.R_nil (Kd.int .i64) 3 w w.heap.size (fun _ => True))
      obtain ⟨m, ad, hm, m0, m1, hA, hx⟩ := last_read HR.out hd
      subst hA
      have HXW := Aside0.mk hx
      clear hd hdf hx
      go_enter Try.func13, Try.ntmps13
      go_wp2_with (first | (go_at_call 19; refine (ruGood_calls _ _ l _ (by first | exact HR.out | exact Kd.C_drewN HR.out _) HC.out hn).mono ?_; rw [H1.out]; rintro e w' ⟨rfl, ⟨nd, rfl⟩⟩) | (go_at_call 25; refine (ruDifferent_calls _ _ l _ (by first | exact HR.out | exact Kd.C_drewN HR.out _) HC.out HD.out).mono ?_; rw [H2.out]; rintro e w1 ⟨rfl, hb⟩; have n0_ := Aside0.mk (below_step (by repeat (first | (with_reducible first | exact HB.out | apply below_alloc | apply pw_below_drewN | apply below_drew1) | exact HB.out)) hb); clear HB hb; have HB := n0_; clear n0_))
      repeat (go_quiet (fail); try go_wp2)
      go_loopg [4, 5] (span l - 1) (fun g v4 v5 w' => ∃ (i : Nat) (xs : List Int), v5 = .int .i64 i ∧ Aside0 (1 ≤ i) ∧ Aside0 (g = span l - i) ∧ Aside0 (i ≤ span l ∨ i = 1) ∧ Aside0 (xs = frees l i) ∧ Aside0 (xs.length ≤ 1048576) ∧ Aside0 (Ow w' w.heap.size v4 xs) ∧ Aside0 (Below w.heap.size w w'))
      case atStart => exact ⟨1, [], rfl, ⟨by omega⟩, ⟨rfl⟩, ⟨.inr rfl⟩, ⟨(frees_one l).symm⟩, ⟨by simp⟩, ⟨by first | exact HO.out | exact Ow_drewN HO.out _ | exact Kd.R_nil _ _ _ _ _⟩, ⟨(by repeat (first | (with_reducible first | exact HB.out | apply below_alloc | apply pw_below_drewN | apply below_drew1) | exact HB.out))⟩⟩
      case round =>
        clear HO HB
        obtain ⟨i, xs, rfl, HI1, HI, HT, HX, HL, HO, HB⟩ := hrel
        have hx := (HB.out.cell (World.block_lt_of_cell? w _ HXW.out)).trans HXW.out
        by_cases hlt : i < span l
        · have hi1 := HI1.out
          by_cases hq : Ruler (insd l (i : Int))
          · have HQ := Aside0.mk (tf_pos hq)
            have HQR := Aside0.mk hq
            have HQA := Aside0.mk (AddF_yes ⟨HD.out, by omega, hq⟩)
            by_cases hdd : Diff (times (insd l (i : Int)))
            · have HQD := Aside0.mk (tf_pos hdd)
              have HY := Aside0.mk (frees_yes HI1.out ⟨hq, hdd⟩)
              clear hq hdd
              go_upto_region 8 with (first | (go_at_call 26; refine (ruLength_calls _ _ l _ (Kd.C_below HR.out (by repeat (first | (with_reducible first | exact HB.out | apply below_alloc | apply pw_below_drewN | apply below_drew1) | exact HB.out))) HD.out).mono ?_; rintro e w' ⟨rfl, ⟨nd7, rfl⟩⟩) | (go_at_call 20; refine (ruAdd_calls _ _ l (i : Int) _ (Kd.C_below HR.out (by repeat (first | (with_reducible first | exact HB.out | apply below_alloc | apply pw_below_drewN | apply below_drew1) | exact HB.out))) HC.out (by omega)).mono ?_; rw [HQ.out]; rintro e w1 ⟨v1, rfl, ho, hb⟩; have m0_ := Aside0.mk (Ow_below (by first | exact HO.out | exact Ow_drewN HO.out _) hb); have n0_ := Aside0.mk (below_step (by repeat (first | (with_reducible first | exact HB.out | apply below_alloc | apply pw_below_drewN | apply below_drew1) | exact HB.out)) hb); have HM := Aside0.mk ho; clear HB HO ho hb; have HO := m0_; have HB := n0_; clear m0_ n0_; obtain ⟨AM, cM, eM, hcM, hrM⟩ := Ow_form HM.out; subst eM; have HCM := Aside0.mk hcM; clear hcM hrM))
              go_wp2_with (first | (go_at_call 25; refine (ruDifferent_calls _ _ (insd l (i : Int)) _ (Ow_rd HM.out) HCM.out HQR.out).mono ?_; rw [HQD.out]; rintro e w2 ⟨rfl, hb⟩; have m0_ := Aside0.mk (Ow_below (by first | exact HO.out | exact Ow_drewN HO.out _) hb); have n0_ := Aside0.mk (below_step (by repeat (first | (with_reducible first | exact HB.out | apply below_alloc | apply pw_below_drewN | apply below_drew1) | exact HB.out)) hb); clear HB HO hb; have HO := m0_; have HB := n0_; clear m0_ n0_) | (at_builtin; refine Kd.R_append (Kd.int .i64) (w0 := w) w.heap.size rfl (.tmp 33) (.tmp 35) 22 3 (.int .i64 0) 8 rfl Try.underlying22 infoInt rfl (by decide) (by omega) u4 xs ((i : Int)) [.int .i64 ((i : Int))] (fun _ => True) (fun _ => False) rfl rfl rfl (fun _ hk => hk.elim) (fun _ _ => trivial) ?aO ?aB ?aS ?aL ?_; (case aO => exact (by (with_reducible repeat (first | apply Kd.R_alloc | apply Kd.R_drewN | apply Kd.R_drew)); exact HO.out)); (case aB => exact (by repeat (first | (with_reducible first | exact HB.out | apply below_alloc | apply pw_below_drewN | apply below_drew1) | exact HB.out))); (case aS => exact below_size (by repeat (first | (with_reducible first | exact HB.out | apply below_alloc | apply pw_below_drewN | apply below_drew1) | exact HB.out))); (case aL => have := HL.out; omega); intro v2 w2 ho_ hb_ hg_ hat_; have n0_ := Aside0.mk hb_; have n1_ := Aside0.mk ho_; clear HB HO; have HB := n0_; have HO := n1_; clear n0_ n1_ ho_ hb_ hg_ hat_))
              repeat (go_quiet (fail); try go_wp2)
              go_roundg (gk - 1)
              case measure => have := HI.out; omega
              case rel => exact ⟨i + 1, xs ++ [(i : Int)], by go_num, ⟨by omega⟩, ⟨by have := HI.out; omega⟩, ⟨by omega⟩, ⟨by rw [HX.out, HY.out]⟩, ⟨by rw [HX.out, List.length_append, List.length_singleton]; have := frees_len l i; omega⟩, ⟨(by first | exact HO.out | exact Ow_drewN HO.out _)⟩, ⟨(by repeat (first | (with_reducible first | exact HB.out | apply below_alloc | apply pw_below_drewN | apply below_drew1) | exact HB.out))⟩⟩
            · have HQD := Aside0.mk (tf_neg hdd)
              have HY := Aside0.mk (frees_no (fun h => hdd h.2 : ¬ Free l i))
              clear hq hdd
              go_upto_region 8 with (first | (go_at_call 26; refine (ruLength_calls _ _ l _ (Kd.C_below HR.out (by repeat (first | (with_reducible first | exact HB.out | apply below_alloc | apply pw_below_drewN | apply below_drew1) | exact HB.out))) HD.out).mono ?_; rintro e w' ⟨rfl, ⟨nd7, rfl⟩⟩) | (go_at_call 20; refine (ruAdd_calls _ _ l (i : Int) _ (Kd.C_below HR.out (by repeat (first | (with_reducible first | exact HB.out | apply below_alloc | apply pw_below_drewN | apply below_drew1) | exact HB.out))) HC.out (by omega)).mono ?_; rw [HQ.out]; rintro e w1 ⟨v1, rfl, ho, hb⟩; have m0_ := Aside0.mk (Ow_below (by first | exact HO.out | exact Ow_drewN HO.out _) hb); have n0_ := Aside0.mk (below_step (by repeat (first | (with_reducible first | exact HB.out | apply below_alloc | apply pw_below_drewN | apply below_drew1) | exact HB.out)) hb); have HM := Aside0.mk ho; clear HB HO ho hb; have HO := m0_; have HB := n0_; clear m0_ n0_; obtain ⟨AM, cM, eM, hcM, hrM⟩ := Ow_form HM.out; subst eM; have HCM := Aside0.mk hcM; clear hcM hrM))
              go_wp2_with (first | (go_at_call 25; refine (ruDifferent_calls _ _ (insd l (i : Int)) _ (Ow_rd HM.out) HCM.out HQR.out).mono ?_; rw [HQD.out]; rintro e w2 ⟨rfl, hb⟩; have m0_ := Aside0.mk (Ow_below (by first | exact HO.out | exact Ow_drewN HO.out _) hb); have n0_ := Aside0.mk (below_step (by repeat (first | (with_reducible first | exact HB.out | apply below_alloc | apply pw_below_drewN | apply below_drew1) | exact HB.out)) hb); clear HB HO hb; have HO := m0_; have HB := n0_; clear m0_ n0_))
              repeat (go_quiet (fail); try go_wp2)
              go_roundg (gk - 1)
              case measure => have := HI.out; omega
              case rel => exact ⟨i + 1, xs, by go_num, ⟨by omega⟩, ⟨by have := HI.out; omega⟩, ⟨by omega⟩, ⟨by rw [HX.out, HY.out]⟩, HL, ⟨(by first | exact HO.out | exact Ow_drewN HO.out _)⟩, ⟨(by repeat (first | (with_reducible first | exact HB.out | apply below_alloc | apply pw_below_drewN | apply below_drew1) | exact HB.out))⟩⟩
          · have HQ := Aside0.mk (tf_neg hq)
            have HQA := Aside0.mk (AddF_no (fun h => hq h.2.2 : ¬ AddOk l (i : Int)))
            have HY := Aside0.mk (frees_no (fun h => hq h.1 : ¬ Free l i))
            clear hq
            go_upto_region 8 with (first | (go_at_call 26; refine (ruLength_calls _ _ l _ (Kd.C_below HR.out (by repeat (first | (with_reducible first | exact HB.out | apply below_alloc | apply pw_below_drewN | apply below_drew1) | exact HB.out))) HD.out).mono ?_; rintro e w' ⟨rfl, ⟨nd7, rfl⟩⟩) | (go_at_call 20; refine (ruAdd_calls _ _ l (i : Int) _ (Kd.C_below HR.out (by repeat (first | (with_reducible first | exact HB.out | apply below_alloc | apply pw_below_drewN | apply below_drew1) | exact HB.out))) HC.out (by omega)).mono ?_; rw [HQ.out]; rintro e w1 ⟨v1, rfl, ho, hb⟩; have m0_ := Aside0.mk (Ow_below (by first | exact HO.out | exact Ow_drewN HO.out _) hb); have n0_ := Aside0.mk (below_step (by repeat (first | (with_reducible first | exact HB.out | apply below_alloc | apply pw_below_drewN | apply below_drew1) | exact HB.out)) hb); have HM := Aside0.mk ho; clear HB HO ho hb; have HO := m0_; have HB := n0_; clear m0_ n0_; obtain ⟨AM, cM, eM, hcM, hrM⟩ := Ow_form HM.out; subst eM; have HCM := Aside0.mk hcM; clear hcM hrM))
            go_wp2
            repeat (go_quiet (fail); try go_wp2)
            go_roundg (gk - 1)
            case measure => have := HI.out; omega
            case rel => exact ⟨i + 1, xs, by go_num, ⟨by omega⟩, ⟨by have := HI.out; omega⟩, ⟨by omega⟩, ⟨by rw [HX.out, HY.out]⟩, HL, ⟨(by first | exact HO.out | exact Ow_drewN HO.out _)⟩, ⟨(by repeat (first | (with_reducible first | exact HB.out | apply below_alloc | apply pw_below_drewN | apply below_drew1) | exact HB.out))⟩⟩
        · have HE := Aside0.mk (show xs = frees l (span l) by
            rw [HX.out]
            rcases HT.out with h | h
            · rw [show i = span l by omega]
            · exact frees_top (by omega) (by have := HI1.out; omega))
          go_wp2_with (first | (go_at_call 26; refine (ruLength_calls _ _ l _ (Kd.C_below HR.out (by repeat (first | (with_reducible first | exact HB.out | apply below_alloc | apply pw_below_drewN | apply below_drew1) | exact HB.out))) HD.out).mono ?_; rintro e w' ⟨rfl, ⟨nd7, rfl⟩⟩))
          repeat (go_quiet (fail); try go_wp2)
          go_ret2
          exact ⟨_, by rw [HF.out]; rfl, by rw [HF.out]; show Ow _ _ _ (frees _ _); rw [← HE.out]; exact (by first | exact HO.out | exact Ow_drewN HO.out _), (by repeat (first | (with_reducible first | exact HB.out | apply below_alloc | apply pw_below_drewN | apply below_drew1) | exact HB.out))⟩
    · have H2 := Aside0.mk (tf_neg hdf)
      have HF := Aside0.mk (FreeF_no (fun h => hdf h.2 : ¬ FreeAsked l))
      clear hd hdf
      go_enter Try.func13, Try.ntmps13
      go_wp2_with (first | (go_at_call 19; refine (ruGood_calls _ _ l _ (by first | exact HR.out | exact Kd.C_drewN HR.out _) HC.out hn).mono ?_; rw [H1.out]; rintro e w' ⟨rfl, ⟨nd, rfl⟩⟩) | (go_at_call 25; refine (ruDifferent_calls _ _ l _ (by first | exact HR.out | exact Kd.C_drewN HR.out _) HC.out HD.out).mono ?_; rw [H2.out]; rintro e w1 ⟨rfl, hb⟩; have n0_ := Aside0.mk (below_step (by repeat (first | (with_reducible first | exact HB.out | apply below_alloc | apply pw_below_drewN | apply below_drew1) | exact HB.out)) hb); clear HB hb; have HB := n0_; clear n0_))
      repeat (go_quiet (fail); try go_wp2)
      go_ret2
      exact ⟨_, by rw [HF.out]; rfl, by rw [HF.out]; exact Kd.R_nil _ _ _ _ _, (by repeat (first | (with_reducible first | exact HB.out | apply below_alloc | apply pw_below_drewN | apply below_drew1) | exact HB.out))⟩
  · have H1 := Aside0.mk (tf_neg hd)
    have HF := Aside0.mk (FreeF_no (fun h => hd h.1 : ¬ FreeAsked l))
    clear hd
    go_enter Try.func13, Try.ntmps13
    go_wp2_with ((go_at_call 19; refine (ruGood_calls _ _ l _ (by first | exact HR.out | exact Kd.C_drewN HR.out _) HC.out hn).mono ?_; rw [H1.out]; rintro e w' ⟨rfl, ⟨nd, rfl⟩⟩))
    go_ret2
    exact ⟨_, by rw [HF.out]; rfl, by rw [HF.out]; exact Kd.R_nil _ _ _ _ _, (by repeat (first | (with_reducible first | exact HB.out | apply below_alloc | apply pw_below_drewN | apply below_drew1) | exact HB.out))⟩
set_option maxHeartbeats 6400000 in
theorem implFreeMarks_calls (A : Option Addr) (c : Nat) (l : List Int) (w : World) (hr : Rd w A l) (hc : l.length ≤ c) (hn : l.length ≤ 1048576) (hw : ∀ x ∈ l, W64 x) :
    Calls Try.prog 14 #[.slice A l.length c] w fun e w' => ∃ v, e = .returned (.tuple #[v, .bool (FreeF l).2]) ∧ Ow w' w.heap.size v (FreeF l).1 ∧ Below w.heap.size w w' := by
  have HR := Aside0.mk hr
  have HC := Aside0.mk hc
  have HW := Aside0.mk hw
  clear hr hc hw
  have HB := Aside0.mk (Below.refl w.heap.size w)
  by_cases hd : Ruler l
  · have H1 := Aside0.mk (tf_pos hd)
    have HD := Aside0.mk hd
    have hlen := hd.1.1
    have hsp := span_le hd
    by_cases hdf : Diff (times l)
    · have H2 := Aside0.mk (tf_pos hdf)
      have HF := Aside0.mk (FreeF_yes ⟨hd, hdf⟩)
      have HO := Aside0.mk (Kd.R_nil (Kd.int .i64) 3 w w.heap.size (fun _ => True))
      obtain ⟨m, ad, hm, m0, m1, hA, hx⟩ := last_read HR.out hd
      subst hA
      have HXW := Aside0.mk hx
      clear hd hdf hx
      go_enter Try.func14, Try.ntmps14
      go_wp2_with (first | (go_at_call 21; refine (IsRuler_calls _ _ l _ (by first | exact HR.out | exact Kd.C_drewN HR.out _) HC.out hn).mono ?_; rw [H1.out]; rintro e w' ⟨rfl, ⟨nd, rfl⟩⟩) | (go_at_call 27; refine (different_calls _ _ l _ (by first | exact HR.out | exact Kd.C_drewN HR.out _) HC.out HD.out).mono ?_; rw [H2.out]; rintro e w1 ⟨rfl, hb⟩; have n0_ := Aside0.mk (below_step (by repeat (first | (with_reducible first | exact HB.out | apply below_alloc | apply pw_below_drewN | apply below_drew1) | exact HB.out)) hb); clear HB hb; have HB := n0_; clear n0_))
      repeat (go_quiet (fail); try go_wp2)
      go_loopg [4, 5] (span l - 1) (fun g v4 v5 w' => ∃ (i : Nat) (xs : List Int), v5 = .int .i64 i ∧ Aside0 (1 ≤ i) ∧ Aside0 (g = span l - i) ∧ Aside0 (i ≤ span l ∨ i = 1) ∧ Aside0 (xs = frees l i) ∧ Aside0 (xs.length ≤ 1048576) ∧ Aside0 (Ow w' w.heap.size v4 xs) ∧ Aside0 (Below w.heap.size w w'))
      case atStart => exact ⟨1, [], rfl, ⟨by omega⟩, ⟨rfl⟩, ⟨.inr rfl⟩, ⟨(frees_one l).symm⟩, ⟨by simp⟩, ⟨by first | exact HO.out | exact Ow_drewN HO.out _ | exact Kd.R_nil _ _ _ _ _⟩, ⟨(by repeat (first | (with_reducible first | exact HB.out | apply below_alloc | apply pw_below_drewN | apply below_drew1) | exact HB.out))⟩⟩
      case round =>
        clear HO HB
        obtain ⟨i, xs, rfl, HI1, HI, HT, HX, HL, HO, HB⟩ := hrel
        have hx := (HB.out.cell (World.block_lt_of_cell? w _ HXW.out)).trans HXW.out
        by_cases hlt : i < span l
        · have hi1 := HI1.out
          by_cases hq : Ruler (insd l (i : Int))
          · have HQ := Aside0.mk (tf_pos hq)
            have HQR := Aside0.mk hq
            have HQA := Aside0.mk (AddF_yes ⟨HD.out, by omega, hq⟩)
            by_cases hdd : Diff (times (insd l (i : Int)))
            · have HQD := Aside0.mk (tf_pos hdd)
              have HY := Aside0.mk (frees_yes HI1.out ⟨hq, hdd⟩)
              clear hq hdd
              go_upto_region 8 with (first | fail | (go_at_call 9; refine (implAddMark_calls _ _ l (i : Int) _ (Kd.C_below HR.out (by repeat (first | (with_reducible first | exact HB.out | apply below_alloc | apply pw_below_drewN | apply below_drew1) | exact HB.out))) HC.out hn HW.out (by unfold W64; omega)).mono ?_; rw [HQA.out]; rintro e w1 ⟨v1, rfl, ho, hb⟩; have m0_ := Aside0.mk (Ow_below (by first | exact HO.out | exact Ow_drewN HO.out _) hb); have n0_ := Aside0.mk (below_step (by repeat (first | (with_reducible first | exact HB.out | apply below_alloc | apply pw_below_drewN | apply below_drew1) | exact HB.out)) hb); have HM := Aside0.mk ho; clear HB HO ho hb; have HO := m0_; have HB := n0_; clear m0_ n0_; obtain ⟨AM, cM, eM, hcM, hrM⟩ := Ow_form HM.out; subst eM; have HCM := Aside0.mk hcM; clear hcM hrM))
              go_wp2_with (first | (go_at_call 27; refine (different_calls _ _ (insd l (i : Int)) _ (Ow_rd HM.out) HCM.out HQR.out).mono ?_; rw [HQD.out]; rintro e w2 ⟨rfl, hb⟩; have m0_ := Aside0.mk (Ow_below (by first | exact HO.out | exact Ow_drewN HO.out _) hb); have n0_ := Aside0.mk (below_step (by repeat (first | (with_reducible first | exact HB.out | apply below_alloc | apply pw_below_drewN | apply below_drew1) | exact HB.out)) hb); clear HB HO hb; have HO := m0_; have HB := n0_; clear m0_ n0_) | (at_builtin; refine Kd.R_append (Kd.int .i64) (w0 := w) w.heap.size rfl (.tmp 37) (.tmp 39) 22 3 (.int .i64 0) 8 rfl Try.underlying22 infoInt rfl (by decide) (by omega) u4 xs ((i : Int)) [.int .i64 ((i : Int))] (fun _ => True) (fun _ => False) rfl rfl rfl (fun _ hk => hk.elim) (fun _ _ => trivial) ?aO ?aB ?aS ?aL ?_; (case aO => exact (by (with_reducible repeat (first | apply Kd.R_alloc | apply Kd.R_drewN | apply Kd.R_drew)); exact HO.out)); (case aB => exact (by repeat (first | (with_reducible first | exact HB.out | apply below_alloc | apply pw_below_drewN | apply below_drew1) | exact HB.out))); (case aS => exact below_size (by repeat (first | (with_reducible first | exact HB.out | apply below_alloc | apply pw_below_drewN | apply below_drew1) | exact HB.out))); (case aL => have := HL.out; omega); intro v2 w2 ho_ hb_ hg_ hat_; have n0_ := Aside0.mk hb_; have n1_ := Aside0.mk ho_; clear HB HO; have HB := n0_; have HO := n1_; clear n0_ n1_ ho_ hb_ hg_ hat_))
              repeat (go_quiet (fail); try go_wp2)
              go_roundg (gk - 1)
              case measure => have := HI.out; omega
              case rel => exact ⟨i + 1, xs ++ [(i : Int)], by go_num, ⟨by omega⟩, ⟨by have := HI.out; omega⟩, ⟨by omega⟩, ⟨by rw [HX.out, HY.out]⟩, ⟨by rw [HX.out, List.length_append, List.length_singleton]; have := frees_len l i; omega⟩, ⟨(by first | exact HO.out | exact Ow_drewN HO.out _)⟩, ⟨(by repeat (first | (with_reducible first | exact HB.out | apply below_alloc | apply pw_below_drewN | apply below_drew1) | exact HB.out))⟩⟩
            · have HQD := Aside0.mk (tf_neg hdd)
              have HY := Aside0.mk (frees_no (fun h => hdd h.2 : ¬ Free l i))
              clear hq hdd
              go_upto_region 8 with (first | fail | (go_at_call 9; refine (implAddMark_calls _ _ l (i : Int) _ (Kd.C_below HR.out (by repeat (first | (with_reducible first | exact HB.out | apply below_alloc | apply pw_below_drewN | apply below_drew1) | exact HB.out))) HC.out hn HW.out (by unfold W64; omega)).mono ?_; rw [HQA.out]; rintro e w1 ⟨v1, rfl, ho, hb⟩; have m0_ := Aside0.mk (Ow_below (by first | exact HO.out | exact Ow_drewN HO.out _) hb); have n0_ := Aside0.mk (below_step (by repeat (first | (with_reducible first | exact HB.out | apply below_alloc | apply pw_below_drewN | apply below_drew1) | exact HB.out)) hb); have HM := Aside0.mk ho; clear HB HO ho hb; have HO := m0_; have HB := n0_; clear m0_ n0_; obtain ⟨AM, cM, eM, hcM, hrM⟩ := Ow_form HM.out; subst eM; have HCM := Aside0.mk hcM; clear hcM hrM))
              go_wp2_with (first | (go_at_call 27; refine (different_calls _ _ (insd l (i : Int)) _ (Ow_rd HM.out) HCM.out HQR.out).mono ?_; rw [HQD.out]; rintro e w2 ⟨rfl, hb⟩; have m0_ := Aside0.mk (Ow_below (by first | exact HO.out | exact Ow_drewN HO.out _) hb); have n0_ := Aside0.mk (below_step (by repeat (first | (with_reducible first | exact HB.out | apply below_alloc | apply pw_below_drewN | apply below_drew1) | exact HB.out)) hb); clear HB HO hb; have HO := m0_; have HB := n0_; clear m0_ n0_))
              repeat (go_quiet (fail); try go_wp2)
              go_roundg (gk - 1)
              case measure => have := HI.out; omega
              case rel => exact ⟨i + 1, xs, by go_num, ⟨by omega⟩, ⟨by have := HI.out; omega⟩, ⟨by omega⟩, ⟨by rw [HX.out, HY.out]⟩, HL, ⟨(by first | exact HO.out | exact Ow_drewN HO.out _)⟩, ⟨(by repeat (first | (with_reducible first | exact HB.out | apply below_alloc | apply pw_below_drewN | apply below_drew1) | exact HB.out))⟩⟩
          · have HQ := Aside0.mk (tf_neg hq)
            have HQA := Aside0.mk (AddF_no (fun h => hq h.2.2 : ¬ AddOk l (i : Int)))
            have HY := Aside0.mk (frees_no (fun h => hq h.1 : ¬ Free l i))
            clear hq
            go_upto_region 8 with (first | fail | (go_at_call 9; refine (implAddMark_calls _ _ l (i : Int) _ (Kd.C_below HR.out (by repeat (first | (with_reducible first | exact HB.out | apply below_alloc | apply pw_below_drewN | apply below_drew1) | exact HB.out))) HC.out hn HW.out (by unfold W64; omega)).mono ?_; rw [HQA.out]; rintro e w1 ⟨v1, rfl, ho, hb⟩; have m0_ := Aside0.mk (Ow_below (by first | exact HO.out | exact Ow_drewN HO.out _) hb); have n0_ := Aside0.mk (below_step (by repeat (first | (with_reducible first | exact HB.out | apply below_alloc | apply pw_below_drewN | apply below_drew1) | exact HB.out)) hb); have HM := Aside0.mk ho; clear HB HO ho hb; have HO := m0_; have HB := n0_; clear m0_ n0_; obtain ⟨AM, cM, eM, hcM, hrM⟩ := Ow_form HM.out; subst eM; have HCM := Aside0.mk hcM; clear hcM hrM))
            go_wp2
            repeat (go_quiet (fail); try go_wp2)
            go_roundg (gk - 1)
            case measure => have := HI.out; omega
            case rel => exact ⟨i + 1, xs, by go_num, ⟨by omega⟩, ⟨by have := HI.out; omega⟩, ⟨by omega⟩, ⟨by rw [HX.out, HY.out]⟩, HL, ⟨(by first | exact HO.out | exact Ow_drewN HO.out _)⟩, ⟨(by repeat (first | (with_reducible first | exact HB.out | apply below_alloc | apply pw_below_drewN | apply below_drew1) | exact HB.out))⟩⟩
        · have HE := Aside0.mk (show xs = frees l (span l) by
            rw [HX.out]
            rcases HT.out with h | h
            · rw [show i = span l by omega]
            · exact frees_top (by omega) (by have := HI1.out; omega))
          go_wp2_with (first | fail)
          repeat (go_quiet (fail); try go_wp2)
          go_ret2
          exact ⟨_, by rw [HF.out]; rfl, by rw [HF.out]; show Ow _ _ _ (frees _ _); rw [← HE.out]; exact (by first | exact HO.out | exact Ow_drewN HO.out _), (by repeat (first | (with_reducible first | exact HB.out | apply below_alloc | apply pw_below_drewN | apply below_drew1) | exact HB.out))⟩
    · have H2 := Aside0.mk (tf_neg hdf)
      have HF := Aside0.mk (FreeF_no (fun h => hdf h.2 : ¬ FreeAsked l))
      clear hd hdf
      go_enter Try.func14, Try.ntmps14
      go_wp2_with (first | (go_at_call 21; refine (IsRuler_calls _ _ l _ (by first | exact HR.out | exact Kd.C_drewN HR.out _) HC.out hn).mono ?_; rw [H1.out]; rintro e w' ⟨rfl, ⟨nd, rfl⟩⟩) | (go_at_call 27; refine (different_calls _ _ l _ (by first | exact HR.out | exact Kd.C_drewN HR.out _) HC.out HD.out).mono ?_; rw [H2.out]; rintro e w1 ⟨rfl, hb⟩; have n0_ := Aside0.mk (below_step (by repeat (first | (with_reducible first | exact HB.out | apply below_alloc | apply pw_below_drewN | apply below_drew1) | exact HB.out)) hb); clear HB hb; have HB := n0_; clear n0_))
      repeat (go_quiet (fail); try go_wp2)
      go_ret2
      exact ⟨_, by rw [HF.out]; rfl, by rw [HF.out]; exact Kd.R_nil _ _ _ _ _, (by repeat (first | (with_reducible first | exact HB.out | apply below_alloc | apply pw_below_drewN | apply below_drew1) | exact HB.out))⟩
  · have H1 := Aside0.mk (tf_neg hd)
    have HF := Aside0.mk (FreeF_no (fun h => hd h.1 : ¬ FreeAsked l))
    clear hd
    go_enter Try.func14, Try.ntmps14
    go_wp2_with ((go_at_call 21; refine (IsRuler_calls _ _ l _ (by first | exact HR.out | exact Kd.C_drewN HR.out _) HC.out hn).mono ?_; rw [H1.out]; rintro e w' ⟨rfl, ⟨nd, rfl⟩⟩))
    go_ret2
    exact ⟨_, by rw [HF.out]; rfl, by rw [HF.out]; exact Kd.R_nil _ _ _ _ _, (by repeat (first | (with_reducible first | exact HB.out | apply below_alloc | apply pw_below_drewN | apply below_drew1) | exact HB.out))⟩
end Go.Proofs.Ytfbbbefhdmimhaa.Own.G
