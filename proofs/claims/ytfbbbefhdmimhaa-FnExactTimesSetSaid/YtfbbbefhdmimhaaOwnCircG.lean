/- Circle sets moved and multiplied: what the reference's and the program's MoveSet and TimesSet return; lists of at most 1048576 numbers. -/
import Derived.Test.YtfbbbefhdmimhaaOwnCircF
namespace Go.Proofs.Ytfbbbefhdmimhaa.Own.G
open Go.RowKit Go.Proofs.YtfbbbefhdmimhaaW.PrintWords Go.Proofs.YtfbbbefhdmimhaaW.PrintLast Go.Proofs.YtfbbbefhdmimhaaW.PrintMore
set_option linter.unusedVariables false
set_option maxHeartbeats 3200000 in
theorem ciSet_calls (v : Int) (A : Option Addr) (c : Nat) (M : List Int) (w : World) (hr : Rd w A M) (hc : M.length ≤ c) (hn : M.length ≤ 1048576) (hv : 2 ≤ v ∧ v ≤ 31) (hM : ∀ x ∈ M, 0 ≤ x ∧ x ≤ 1000000) :
    Calls Try.prog 43 #[.int .i64 v, .slice A M.length c] w fun e w' => ∃ u, e = .returned u ∧ Ow w' w.heap.size u (cset v M v.toNat) ∧ Below w.heap.size w w' := by
  have HR := Aside0.mk hr
  have HC := Aside0.mk hc
  have HM := Aside0.mk hM
  clear hr hc hM
  have HB := Aside0.mk (Below.refl w.heap.size w)
  have HO := Aside0.mk (Kd.R_nil (Kd.int .i64) 3 w w.heap.size (fun _ => True))
  go_enter Try.func43, Try.ntmps43
  (go_wp2; repeat (go_quiet (fail); try go_wp2))
  go_loopg [5, 6] v.toNat (fun g v5 v6 w' => ∃ (i : Nat) (xs : List Int), v6 = .int .i64 i ∧ Aside0 (i + g = v.toNat) ∧ Aside0 (xs = cset v M i) ∧ Aside0 (xs.length ≤ 1048576) ∧ Aside0 (Ow w' w.heap.size v5 xs) ∧ Aside0 (Below w.heap.size w w'))
  case atStart => exact ⟨0, [], rfl, ⟨by omega⟩, ⟨rfl⟩, ⟨by simp⟩, ⟨by first | exact HO.out | exact Ow_drewN HO.out _⟩, ⟨(by repeat (first | (with_reducible first | exact HB.out | apply below_alloc | apply pw_below_drewN | apply below_drew1) | exact HB.out))⟩⟩
  case round =>
    clear HO HB
    obtain ⟨i, xs, rfl, HI, HX, HL, HO, HB⟩ := hrel
    obtain ⟨gi, rfl⟩ : ∃ gi : Nat, gi = gk := ⟨_, rfl⟩
    by_cases hlt : (i : Int) < v
    · go_wp2
      repeat (go_quiet (fail); try go_wp2)
      obtain ⟨wo, rfl⟩ : ∃ wo : World, wo = wr := ⟨_, rfl⟩
      go_loopg [5, 16] M.length (fun g v5 v16 w' => ∃ j : Nat, v16 = .int .i64 j ∧ Aside0 (j + g = M.length) ∧ Aside0 (∀ k : Nat, k < j → ¬ Int.tmod (rd M (k : Int)) v = (i : Int)) ∧ Aside0 (Ow w' w.heap.size v5 xs) ∧ Aside0 (Below w.heap.size w w'))
      case atStart => exact ⟨0, rfl, ⟨by omega⟩, ⟨fun k h => absurd h (by omega)⟩, ⟨(by first | exact HO.out | exact Ow_drewN HO.out _)⟩, ⟨(by repeat (first | (with_reducible first | exact HB.out | apply below_alloc | apply pw_below_drewN | apply below_drew1) | exact HB.out))⟩⟩
      case round =>
        clear HO HB
        obtain ⟨j, rfl, HJ, HA, HO, HB⟩ := hrel
        by_cases hj : j < M.length
        · obtain ⟨ad, rfl, hx⟩ := at_nat HR.out hj
          replace hx := (HB.out.cell (World.block_lt_of_cell? w _ hx)).trans hx
          have hm := HM.out _ (rd_mem hj)
          by_cases hq : Int.tmod (rd M (j : Int)) v = (i : Int)
          · have HY := Aside0.mk (cset_yes (show Hits v M i from ⟨j, hj, hq⟩))
            have ht : (Int.tmod (rd M (j : Int)) v == (i : Int)) = true := beq_iff_eq.mpr hq
            have ht2 : (rd M (j : Int) % v == (i : Int)) = true := by rw [← Int.tmod_eq_emod_of_nonneg hm.1]; exact ht
            clear hq
            go_wp2_with ((at_builtin; refine Kd.R_append (Kd.int .i64) (w0 := w) w.heap.size rfl (.tmp 25) (.tmp 27) 22 3 (.int .i64 0) 8 rfl Try.underlying22 infoInt rfl (by decide) (by omega) u5 xs ((i : Int)) [.int .i64 ((i : Int))] (fun _ => True) (fun _ => False) rfl rfl rfl (fun _ hk => hk.elim) (fun _ _ => trivial) ?aO ?aB ?aS ?aL ?_; (case aO => exact (by (with_reducible repeat (first | apply Kd.R_alloc | apply Kd.R_drewN | apply Kd.R_drew)); exact HO.out)); (case aB => exact (by repeat (first | (with_reducible first | exact HB.out | apply below_alloc | apply pw_below_drewN | apply below_drew1) | exact HB.out))); (case aS => exact below_size (by repeat (first | (with_reducible first | exact HB.out | apply below_alloc | apply pw_below_drewN | apply below_drew1) | exact HB.out))); (case aL => have := HL.out; omega); intro v2 w2 ho_ hb_ hg_ hat_; have n0_ := Aside0.mk hb_; have n1_ := Aside0.mk ho_; clear HB HO; have HB := n0_; have HO := n1_; clear n0_ n1_ ho_ hb_ hg_ hat_))
            repeat (go_quiet (fail); try go_wp2)
            go_roundg (gi - 1)
            case measure => have := HI.out; omega
            case rel => exact ⟨i + 1, xs ++ [(i : Int)], by go_num, ⟨by have := HI.out; omega⟩, ⟨by rw [HX.out, HY.out]⟩, ⟨by rw [HX.out, List.length_append, List.length_singleton]; have := cset_len v M i; omega⟩, ⟨(by first | exact HO.out | exact Ow_drewN HO.out _)⟩, ⟨(by repeat (first | (with_reducible first | exact HB.out | apply below_alloc | apply pw_below_drewN | apply below_drew1) | exact HB.out))⟩⟩
          · have HQ := Aside0.mk hq
            have ht : (Int.tmod (rd M (j : Int)) v == (i : Int)) = false := beq_eq_false_iff_ne.mpr hq
            have ht2 : (rd M (j : Int) % v == (i : Int)) = false := by rw [← Int.tmod_eq_emod_of_nonneg hm.1]; exact ht
            clear hq
            (go_wp2; repeat (go_quiet (fail); try go_wp2))
            go_roundg (gk - 1)
            case measure => have := HJ.out; omega
            case rel => exact ⟨j + 1, by go_num, ⟨by have := HJ.out; omega⟩, ⟨fun k hk => by
              rcases Nat.lt_or_ge k j with h | h
              · exact HA.out k h
              · rw [show k = j by omega]; exact HQ.out⟩, ⟨(by first | exact HO.out | exact Ow_drewN HO.out _)⟩, ⟨(by repeat (first | (with_reducible first | exact HB.out | apply below_alloc | apply pw_below_drewN | apply below_drew1) | exact HB.out))⟩⟩
        · have HY := Aside0.mk (cset_no (show ¬ Hits v M i from fun ⟨k, hk, he⟩ => HA.out k (by omega) he))
          (go_wp2; repeat (go_quiet (fail); try go_wp2))
          go_roundg (gi - 1)
          case measure => have := HI.out; omega
          case rel => exact ⟨i + 1, xs, by go_num, ⟨by have := HI.out; omega⟩, ⟨by rw [HX.out, HY.out]⟩, HL, ⟨(by first | exact HO.out | exact Ow_drewN HO.out _)⟩, ⟨(by repeat (first | (with_reducible first | exact HB.out | apply below_alloc | apply pw_below_drewN | apply below_drew1) | exact HB.out))⟩⟩
    · have HE := Aside0.mk (show xs = cset v M v.toNat by rw [HX.out, show i = v.toNat by have := HI.out; omega])
      (go_wp2; repeat (go_quiet (fail); try go_wp2))
      go_ret
      exact ⟨_, rfl, by rw [← HE.out]; exact (by first | exact HO.out | exact Ow_drewN HO.out _), (by repeat (first | (with_reducible first | exact HB.out | apply below_alloc | apply pw_below_drewN | apply below_drew1) | exact HB.out))⟩
set_option maxHeartbeats 1600000 in
theorem ciMove_calls (v : Int) (A : Option Addr) (c : Nat) (l : List Int) (k : Int) (w : World) (hr : Rd w A l) (hc : l.length ≤ c) (hd : Circ v l) (hk : 0 ≤ k ∧ k < v) :
    Calls Try.prog 34 #[.int .i64 v, .slice A l.length c, .int .i64 k] w fun e w' => ∃ u, e = .returned u ∧ Ow w' w.heap.size u (cset v (movedL l k l.length) v.toNat) ∧ Below w.heap.size w w' := by
  have HR := Aside0.mk hr
  have HC := Aside0.mk hc
  have HD := Aside0.mk hd
  have hv := hd.1.1
  have hlen := hd.1.2.1
  clear hr hc hd
  have HB := Aside0.mk (Below.refl w.heap.size w)
  have HO := Aside0.mk (Kd.R_nil (Kd.int .i64) 3 w w.heap.size (fun _ => True))
  have hin : ∀ x : Int, 0 ≤ x → x ≤ 30 → 0 ≤ x * k ∧ x * k ≤ 1000 := fun x h0 h1 => ⟨Int.mul_nonneg h0 hk.1, Int.le_trans (Int.mul_le_mul h1 (show k ≤ 30 by omega) hk.1 (by omega)) (by decide)⟩
  have HIN := Aside0.mk hin
  clear hin
  go_enter Try.func34, Try.ntmps34
  (go_wp2; repeat (go_quiet (fail); try go_wp2))
  go_loopg [7, 12] l.length (fun g v7 v12 w' => ∃ (i : Nat) (xs : List Int), v12 = .int .i64 i ∧ Aside0 (i + g = l.length) ∧ Aside0 (xs = movedL l k i) ∧ Aside0 (xs.length ≤ 1048576) ∧ Aside0 (Ow w' w.heap.size v7 xs) ∧ Aside0 (Below w.heap.size w w'))
  case atStart => exact ⟨0, [], rfl, ⟨by omega⟩, ⟨rfl⟩, ⟨by simp⟩, ⟨by first | exact HO.out | exact Ow_drewN HO.out _⟩, ⟨(by repeat (first | (with_reducible first | exact HB.out | apply below_alloc | apply pw_below_drewN | apply below_drew1) | exact HB.out))⟩⟩
  case round =>
    clear HO HB
    obtain ⟨i, xs, rfl, HI, HX, HL, HO, HB⟩ := hrel
    by_cases hlt : i < l.length
    · obtain ⟨ad, rfl, hx⟩ := at_nat HR.out hlt
      replace hx := (HB.out.cell (World.block_lt_of_cell? w _ hx)).trans hx
      have hp := HD.out.2.1 i hlt
      have hp2 := HIN.out _ hp.1 (by omega)
      go_wp2_with ((at_builtin; refine Kd.R_append (Kd.int .i64) (w0 := w) w.heap.size rfl (.tmp 16) (.tmp 20) 22 3 (.int .i64 0) 8 rfl Try.underlying22 infoInt rfl (by decide) (by omega) u7 xs (rd l (i : Int) + k) [.int .i64 (rd l (i : Int) + k)] (fun _ => True) (fun _ => False) rfl rfl rfl (fun _ hk => hk.elim) (fun _ _ => trivial) ?aO ?aB ?aS ?aL ?_; (case aO => exact (by (with_reducible repeat (first | apply Kd.R_alloc | apply Kd.R_drewN | apply Kd.R_drew)); exact HO.out)); (case aB => exact (by repeat (first | (with_reducible first | exact HB.out | apply below_alloc | apply pw_below_drewN | apply below_drew1) | exact HB.out))); (case aS => exact below_size (by repeat (first | (with_reducible first | exact HB.out | apply below_alloc | apply pw_below_drewN | apply below_drew1) | exact HB.out))); (case aL => have := HL.out; omega); intro v2 w2 ho_ hb_ hg_ hat_; have n0_ := Aside0.mk hb_; have n1_ := Aside0.mk ho_; clear HB HO; have HB := n0_; have HO := n1_; clear n0_ n1_ ho_ hb_ hg_ hat_))
      go_roundg (gk - 1)
      case measure => have := HI.out; omega
      case rel => exact ⟨i + 1, xs ++ [rd l (i : Int) + k], by go_num, ⟨by have := HI.out; omega⟩, ⟨by rw [HX.out, movedL_succ]⟩, ⟨by rw [HX.out, List.length_append, movedL_length, List.length_singleton]; omega⟩, HO, HB⟩
    · have HE := Aside0.mk (show xs = movedL l k l.length by rw [HX.out, show i = l.length by have := HI.out; omega])
      obtain ⟨A1, c1, e1, hc1, hr1⟩ := Ow_form HO.out
      subst e1
      have HC1 := Aside0.mk hc1
      clear hc1 hr1
      have HXL := Aside0.mk (show xs.length = l.length by rw [HE.out, movedL_length])
      have HXB := Aside0.mk (show ∀ x ∈ xs, 0 ≤ x ∧ x ≤ 1000000 by
        intro x hx
        rw [HE.out] at hx
        simp only [movedL, List.mem_map, List.mem_range] at hx
        obtain ⟨j, hj, rfl⟩ := hx
        have h1 := HD.out.2.1 j hj
        have h2 := HIN.out _ h1.1 (by omega)
        omega)
      go_wp2_with (go_at_call 43; refine (ciSet_calls v _ c1 xs _ (Ow_rd (by first | exact HO.out | exact Ow_drewN HO.out _)) HC1.out (by rw [HXL.out]; omega) hv HXB.out).mono ?_; rw [HE.out]; rintro e w1 ⟨u, rfl, ho, hb⟩; have n0_ := Aside0.mk (Ow_lower ho (below_size (by repeat (first | (with_reducible first | exact HB.out | apply below_alloc | apply pw_below_drewN | apply below_drew1) | exact HB.out)))); have n1_ := Aside0.mk (below_step (by repeat (first | (with_reducible first | exact HB.out | apply below_alloc | apply pw_below_drewN | apply below_drew1) | exact HB.out)) hb); clear HB HO ho hb; have HO := n0_; have HB := n1_; clear n0_ n1_)
      repeat (go_quiet (fail); try go_wp2)
      go_ret
      exact ⟨_, rfl, (by first | exact HO.out | exact Ow_drewN HO.out _), (by repeat (first | (with_reducible first | exact HB.out | apply below_alloc | apply pw_below_drewN | apply below_drew1) | exact HB.out))⟩
set_option maxHeartbeats 1600000 in
theorem ciTimes_calls (v : Int) (A : Option Addr) (c : Nat) (l : List Int) (k : Int) (w : World) (hr : Rd w A l) (hc : l.length ≤ c) (hd : Circ v l) (hk : 0 ≤ k ∧ k < v) :
    Calls Try.prog 30 #[.int .i64 v, .slice A l.length c, .int .i64 k] w fun e w' => ∃ u, e = .returned u ∧ Ow w' w.heap.size u (cset v (timesL l k l.length) v.toNat) ∧ Below w.heap.size w w' := by
  have HR := Aside0.mk hr
  have HC := Aside0.mk hc
  have HD := Aside0.mk hd
  have hv := hd.1.1
  have hlen := hd.1.2.1
  clear hr hc hd
  have HB := Aside0.mk (Below.refl w.heap.size w)
  have HO := Aside0.mk (Kd.R_nil (Kd.int .i64) 3 w w.heap.size (fun _ => True))
  have hin : ∀ x : Int, 0 ≤ x → x ≤ 30 → 0 ≤ x * k ∧ x * k ≤ 1000 := fun x h0 h1 => ⟨Int.mul_nonneg h0 hk.1, Int.le_trans (Int.mul_le_mul h1 (show k ≤ 30 by omega) hk.1 (by omega)) (by decide)⟩
  have HIN := Aside0.mk hin
  clear hin
  go_enter Try.func30, Try.ntmps30
  (go_wp2; repeat (go_quiet (fail); try go_wp2))
  go_loopg [7, 12] l.length (fun g v7 v12 w' => ∃ (i : Nat) (xs : List Int), v12 = .int .i64 i ∧ Aside0 (i + g = l.length) ∧ Aside0 (xs = timesL l k i) ∧ Aside0 (xs.length ≤ 1048576) ∧ Aside0 (Ow w' w.heap.size v7 xs) ∧ Aside0 (Below w.heap.size w w'))
  case atStart => exact ⟨0, [], rfl, ⟨by omega⟩, ⟨rfl⟩, ⟨by simp⟩, ⟨by first | exact HO.out | exact Ow_drewN HO.out _⟩, ⟨(by repeat (first | (with_reducible first | exact HB.out | apply below_alloc | apply pw_below_drewN | apply below_drew1) | exact HB.out))⟩⟩
  case round =>
    clear HO HB
    obtain ⟨i, xs, rfl, HI, HX, HL, HO, HB⟩ := hrel
    by_cases hlt : i < l.length
    · obtain ⟨ad, rfl, hx⟩ := at_nat HR.out hlt
      replace hx := (HB.out.cell (World.block_lt_of_cell? w _ hx)).trans hx
      have hp := HD.out.2.1 i hlt
      have hp2 := HIN.out _ hp.1 (by omega)
      go_wp2_with ((at_builtin; refine Kd.R_append (Kd.int .i64) (w0 := w) w.heap.size rfl (.tmp 16) (.tmp 20) 22 3 (.int .i64 0) 8 rfl Try.underlying22 infoInt rfl (by decide) (by omega) u7 xs (rd l (i : Int) * k) [.int .i64 (rd l (i : Int) * k)] (fun _ => True) (fun _ => False) rfl rfl rfl (fun _ hk => hk.elim) (fun _ _ => trivial) ?aO ?aB ?aS ?aL ?_; (case aO => exact (by (with_reducible repeat (first | apply Kd.R_alloc | apply Kd.R_drewN | apply Kd.R_drew)); exact HO.out)); (case aB => exact (by repeat (first | (with_reducible first | exact HB.out | apply below_alloc | apply pw_below_drewN | apply below_drew1) | exact HB.out))); (case aS => exact below_size (by repeat (first | (with_reducible first | exact HB.out | apply below_alloc | apply pw_below_drewN | apply below_drew1) | exact HB.out))); (case aL => have := HL.out; omega); intro v2 w2 ho_ hb_ hg_ hat_; have n0_ := Aside0.mk hb_; have n1_ := Aside0.mk ho_; clear HB HO; have HB := n0_; have HO := n1_; clear n0_ n1_ ho_ hb_ hg_ hat_))
      go_roundg (gk - 1)
      case measure => have := HI.out; omega
      case rel => exact ⟨i + 1, xs ++ [rd l (i : Int) * k], by go_num, ⟨by have := HI.out; omega⟩, ⟨by rw [HX.out, timesL_succ]⟩, ⟨by rw [HX.out, List.length_append, timesL_length, List.length_singleton]; omega⟩, HO, HB⟩
    · have HE := Aside0.mk (show xs = timesL l k l.length by rw [HX.out, show i = l.length by have := HI.out; omega])
      obtain ⟨A1, c1, e1, hc1, hr1⟩ := Ow_form HO.out
      subst e1
      have HC1 := Aside0.mk hc1
      clear hc1 hr1
      have HXL := Aside0.mk (show xs.length = l.length by rw [HE.out, timesL_length])
      have HXB := Aside0.mk (show ∀ x ∈ xs, 0 ≤ x ∧ x ≤ 1000000 by
        intro x hx
        rw [HE.out] at hx
        simp only [timesL, List.mem_map, List.mem_range] at hx
        obtain ⟨j, hj, rfl⟩ := hx
        have h1 := HD.out.2.1 j hj
        have h2 := HIN.out _ h1.1 (by omega)
        omega)
      go_wp2_with (go_at_call 43; refine (ciSet_calls v _ c1 xs _ (Ow_rd (by first | exact HO.out | exact Ow_drewN HO.out _)) HC1.out (by rw [HXL.out]; omega) hv HXB.out).mono ?_; rw [HE.out]; rintro e w1 ⟨u, rfl, ho, hb⟩; have n0_ := Aside0.mk (Ow_lower ho (below_size (by repeat (first | (with_reducible first | exact HB.out | apply below_alloc | apply pw_below_drewN | apply below_drew1) | exact HB.out)))); have n1_ := Aside0.mk (below_step (by repeat (first | (with_reducible first | exact HB.out | apply below_alloc | apply pw_below_drewN | apply below_drew1) | exact HB.out)) hb); clear HB HO ho hb; have HO := n0_; have HB := n1_; clear n0_ n1_)
      repeat (go_quiet (fail); try go_wp2)
      go_ret
      exact ⟨_, rfl, (by first | exact HO.out | exact Ow_drewN HO.out _), (by repeat (first | (with_reducible first | exact HB.out | apply below_alloc | apply pw_below_drewN | apply below_drew1) | exact HB.out))⟩
set_option maxHeartbeats 1600000 in
theorem image_calls (v : Int) (A : Option Addr) (c : Nat) (l : List Int) (k m : Int) (w : World) (hr : Rd w A l) (hc : l.length ≤ c) (hd : Circ v l) (hk : 0 ≤ k ∧ k < v) (hm : 0 ≤ m ∧ m < v) :
    Calls Try.prog 32 #[.int .i64 v, .slice A l.length c, .int .i64 k, .int .i64 m] w fun e w' => ∃ u, e = .returned u ∧ Ow w' w.heap.size u (sorted (imageL v l k m l.length)) ∧ Below w.heap.size w w' := by
  have HR := Aside0.mk hr
  have HC := Aside0.mk hc
  have HD := Aside0.mk hd
  have hv := hd.1.1
  have hlen := hd.1.2.1
  clear hr hc hd
  have HB := Aside0.mk (Below.refl w.heap.size w)
  have HO := Aside0.mk (Kd.R_nil (Kd.int .i64) 3 w w.heap.size (fun _ => True))
  have hin : ∀ x : Int, 0 ≤ x → x ≤ 30 → 0 ≤ x * k ∧ x * k ≤ 1000 := fun x h0 h1 => ⟨Int.mul_nonneg h0 hk.1, Int.le_trans (Int.mul_le_mul h1 (show k ≤ 30 by omega) hk.1 (by omega)) (by decide)⟩
  have HIN := Aside0.mk hin
  clear hin
  go_enter Try.func32, Try.ntmps32
  (go_wp2; repeat (go_quiet (fail); try go_wp2))
  go_loopg [9, 14] l.length (fun g v9 v14 w' => ∃ (i : Nat) (xs : List Int), v14 = .int .i64 i ∧ Aside0 (i + g = l.length) ∧ Aside0 (xs = imageL v l k m i) ∧ Aside0 (xs.length ≤ 1048576) ∧ Aside0 (Ow w' w.heap.size v9 xs) ∧ Aside0 (Below w.heap.size w w'))
  case atStart => exact ⟨0, [], rfl, ⟨by omega⟩, ⟨rfl⟩, ⟨by simp⟩, ⟨by first | exact HO.out | exact Ow_drewN HO.out _⟩, ⟨(by repeat (first | (with_reducible first | exact HB.out | apply below_alloc | apply pw_below_drewN | apply below_drew1) | exact HB.out))⟩⟩
  case round =>
    clear HO HB
    obtain ⟨i, xs, rfl, HI, HX, HL, HO, HB⟩ := hrel
    by_cases hlt : i < l.length
    · obtain ⟨ad, rfl, hx⟩ := at_nat HR.out hlt
      replace hx := (HB.out.cell (World.block_lt_of_cell? w _ hx)).trans hx
      have hp := HD.out.2.1 i hlt
      have hp2 := HIN.out _ hp.1 (by omega)
      go_wp2_with ((at_builtin; refine Kd.R_append (Kd.int .i64) (w0 := w) w.heap.size rfl (.tmp 18) (.tmp 26) 22 3 (.int .i64 0) 8 rfl Try.underlying22 infoInt rfl (by decide) (by omega) u9 xs ((rd l (i : Int) * k + m) % v) [.int .i64 ((rd l (i : Int) * k + m) % v)] (fun _ => True) (fun _ => False) rfl rfl rfl (fun _ hk => hk.elim) (fun _ _ => trivial) ?aO ?aB ?aS ?aL ?_; (case aO => exact (by (with_reducible repeat (first | apply Kd.R_alloc | apply Kd.R_drewN | apply Kd.R_drew)); exact HO.out)); (case aB => exact (by repeat (first | (with_reducible first | exact HB.out | apply below_alloc | apply pw_below_drewN | apply below_drew1) | exact HB.out))); (case aS => exact below_size (by repeat (first | (with_reducible first | exact HB.out | apply below_alloc | apply pw_below_drewN | apply below_drew1) | exact HB.out))); (case aL => have := HL.out; omega); intro v2 w2 ho_ hb_ hg_ hat_; have n0_ := Aside0.mk hb_; have n1_ := Aside0.mk ho_; clear HB HO; have HB := n0_; have HO := n1_; clear n0_ n1_ ho_ hb_ hg_ hat_))
      go_roundg (gk - 1)
      case measure => have := HI.out; omega
      case rel => exact ⟨i + 1, xs ++ [(rd l (i : Int) * k + m) % v], by go_num, ⟨by have := HI.out; omega⟩, ⟨by rw [HX.out, imageL_succ, Int.tmod_eq_emod_of_nonneg (by omega)]⟩, ⟨by rw [HX.out, List.length_append, imageL_length, List.length_singleton]; omega⟩, HO, HB⟩
    · have HE := Aside0.mk (show xs = imageL v l k m l.length by rw [HX.out, show i = l.length by have := HI.out; omega])
      have HXL := Aside0.mk (show xs.length = l.length by rw [HE.out, imageL_length])
      go_upto_region 8 with (go_at_call 24; refine (Sort_calls _ w.heap.size xs _ (by first | exact HO.out | exact Ow_drewN HO.out _) (by rw [HXL.out]; omega)).mono ?_; rw [HE.out]; rintro e w2 ⟨rfl, ho, hg⟩; have n0_ := Aside0.mk ho; have n1_ := Aside0.mk (below_grown (by repeat (first | (with_reducible first | exact HB.out | apply below_alloc | apply pw_below_drewN | apply below_drew1) | exact HB.out)) hg (by first | exact HO.out | exact Ow_drewN HO.out _)); clear HB HO ho hg; have HO := n0_; have HB := n1_; clear n0_ n1_)
      (go_wp2; repeat (go_quiet (fail); try go_wp2))
      go_ret
      exact ⟨_, rfl, (by first | exact HO.out | exact Ow_drewN HO.out _), (by repeat (first | (with_reducible first | exact HB.out | apply below_alloc | apply pw_below_drewN | apply below_drew1) | exact HB.out))⟩
def MoveOk (v : Int) (l : List Int) (k : Int) : Prop := Circ v l ∧ 0 ≤ k ∧ k < v
noncomputable def MoveF (v : Int) (l : List Int) (k : Int) : List Int × Bool := if tf (MoveOk v l k) = true then (cset v (movedL l k l.length) v.toNat, true) else ([], false)
theorem MoveF_yes {v : Int} {l : List Int} {k : Int} (h : MoveOk v l k) : MoveF v l k = (cset v (movedL l k l.length) v.toNat, true) := if_pos (tf_pos h)
theorem MoveF_no {v : Int} {l : List Int} {k : Int} (h : ¬ MoveOk v l k) : MoveF v l k = ([], false) := if_neg (by rw [tf_neg h]; decide)
theorem MoveF_len (v : Int) (l : List Int) (k : Int) (hn : l.length ≤ 1048576) : (MoveF v l k).1.length ≤ 1048576 := by
  by_cases h : MoveOk v l k
  · rw [MoveF_yes h]
    have := cset_len v (movedL l k l.length) v.toNat
    have := h.1.1.1
    show (cset _ _ _).length ≤ _
    omega
  · rw [MoveF_no h]; simp
theorem move_image {v : Int} {l : List Int} {k : Int} (h : MoveOk v l k) : sorted (imageL v l 1 k l.length) = cset v (movedL l k l.length) v.toNat := by
  rw [image_move]
  refine mods_sorted (by have := h.1.1.1; omega) (fun x hx => ?_) (move_nodup h.1 h.2.1 h.2.2)
  simp only [movedL, List.mem_map, List.mem_range] at hx
  obtain ⟨j, hj, rfl⟩ := hx
  have := (h.1.2.1 j hj).1
  have := h.2.1
  omega
def TimesOk (v : Int) (l : List Int) (k : Int) : Prop := (Circ v l ∧ 1 ≤ k ∧ k < v) ∧ (cset v (timesL l k l.length) v.toNat).length = l.length
noncomputable def TimesF (v : Int) (l : List Int) (k : Int) : List Int × Bool := if tf (TimesOk v l k) = true then (cset v (timesL l k l.length) v.toNat, true) else ([], false)
theorem TimesF_yes {v : Int} {l : List Int} {k : Int} (h : TimesOk v l k) : TimesF v l k = (cset v (timesL l k l.length) v.toNat, true) := if_pos (tf_pos h)
theorem TimesF_no {v : Int} {l : List Int} {k : Int} (h : ¬ TimesOk v l k) : TimesF v l k = ([], false) := if_neg (by rw [tf_neg h]; decide)
theorem TimesF_len (v : Int) (l : List Int) (k : Int) (hn : l.length ≤ 1048576) : (TimesF v l k).1.length ≤ 1048576 := by
  by_cases h : TimesOk v l k
  · rw [TimesF_yes h]; show (cset _ _ _).length ≤ _; have := h.2; omega
  · rw [TimesF_no h]; simp
theorem times_pos {v : Int} {l : List Int} {k : Int} (h : Circ v l) (h1 : 1 ≤ k) : ∀ x ∈ timesL l k l.length, 0 ≤ x := by
  intro x hx
  simp only [timesL, List.mem_map, List.mem_range] at hx
  obtain ⟨j, hj, rfl⟩ := hx
  exact Int.mul_nonneg (h.2.1 j hj).1 (by omega)
theorem times_unl {v : Int} {l : List Int} {k : Int} (h : Circ v l) (h1 : 1 ≤ k) (h2 : k < v) : Unl (sorted (imageL v l k 0 l.length)) ↔ TimesOk v l k := by
  rw [Unl_nodup, (sorted_perm _).nodup_iff, image_times]
  have hv : 0 < v := by have := h.1.1; omega
  constructor
  · intro hn
    refine ⟨⟨h, h1, h2⟩, ?_⟩
    rw [← mods_sorted hv (times_pos h h1) hn, sorted_length]
    simp [mods, timesL]
  · intro ht
    refine Classical.byContradiction fun hn => ?_
    have := mods_twice hv (times_pos h h1) hn
    rw [ht.2, timesL_length] at this
    omega
theorem times_image {v : Int} {l : List Int} {k : Int} (h : TimesOk v l k) : sorted (imageL v l k 0 l.length) = cset v (timesL l k l.length) v.toNat := by
  have hn := (times_unl h.1.1 h.1.2.1 h.1.2.2).mpr h
  rw [Unl_nodup, (sorted_perm _).nodup_iff, image_times] at hn
  rw [image_times]
  exact mods_sorted (by have := h.1.1.1.1; omega) (times_pos h.1.1 h.1.2.1) hn
set_option maxHeartbeats 1600000 in
theorem specMoveSet_calls (v : Int) (A : Option Addr) (c : Nat) (l : List Int) (k : Int) (w : World) (hv : W64 v) (hr : Rd w A l) (hc : l.length ≤ c) (hn : l.length ≤ 1048576) (hw : ∀ x ∈ l, W64 x) (hk : W64 k) :
    Calls Try.prog 17 #[.int .i64 v, .slice A l.length c, .int .i64 k] w fun e w' => ∃ u, e = .returned (.tuple #[u, .bool (MoveF v l k).2]) ∧ Ow w' w.heap.size u (MoveF v l k).1 ∧ Below w.heap.size w w' := by
  have HR := Aside0.mk hr
  have HC := Aside0.mk hc
  clear hr hc hw hv hk
  have HB := Aside0.mk (Below.refl w.heap.size w)
  by_cases hd : Circ v l
  · have H1 := Aside0.mk (tf_pos hd)
    have hv := hd.1.1
    have HD := Aside0.mk hd
    by_cases hk : 0 ≤ k ∧ k ≤ v - 1
    · have HT := Aside0.mk (within_yes hk)
      have HF := Aside0.mk (MoveF_yes (show MoveOk v l k from ⟨hd, hk.1, by omega⟩))
      clear hd
      go_enter Try.func17, Try.ntmps17
      go_wp2_with (first | (go_at_call 28; refine (ciGood_calls _ _ _ l _ (by first | exact HR.out | exact Kd.C_drewN HR.out _) HC.out hn).mono ?_; rw [H1.out]; rintro e w' ⟨rfl, ⟨nd, rfl⟩⟩) | (go_at_call 29; refine (in_calls _ _ _ _).mono ?_; rw [HT.out]; rintro e w' ⟨rfl, ⟨nd2, rfl⟩⟩) | (go_at_call 34; refine (ciMove_calls v _ _ l k _ (by repeat (first | exact HR.out | apply Kd.C_drewN)) HC.out HD.out (by omega)).mono ?_; rintro e w1 ⟨u, rfl, ho, hb⟩; have HO := Aside0.mk (Ow_lower ho (below_size (by repeat (first | (with_reducible first | exact HB.out | apply below_alloc | apply pw_below_drewN | apply below_drew1) | exact HB.out)))); have n1_ := Aside0.mk (below_step (by repeat (first | (with_reducible first | exact HB.out | apply below_alloc | apply pw_below_drewN | apply below_drew1) | exact HB.out)) hb); clear HB ho hb; have HB := n1_; clear n1_))
      repeat (go_quiet (fail); try go_wp2)
      go_ret2
      exact ⟨_, by rw [HF.out]; rfl, by rw [HF.out]; exact (by first | exact HO.out | exact Ow_drewN HO.out _), (by repeat (first | (with_reducible first | exact HB.out | apply below_alloc | apply pw_below_drewN | apply below_drew1) | exact HB.out))⟩
    · have HT := Aside0.mk (within_no hk)
      have HF := Aside0.mk (MoveF_no (fun h => hk (by have := h.2; omega) : ¬ MoveOk v l k))
      clear hd hk
      go_enter Try.func17, Try.ntmps17
      go_wp2_with (first | (go_at_call 28; refine (ciGood_calls _ _ _ l _ (by first | exact HR.out | exact Kd.C_drewN HR.out _) HC.out hn).mono ?_; rw [H1.out]; rintro e w' ⟨rfl, ⟨nd, rfl⟩⟩) | (go_at_call 29; refine (in_calls _ _ _ _).mono ?_; rw [HT.out]; rintro e w' ⟨rfl, ⟨nd2, rfl⟩⟩))
      go_ret2
      exact ⟨_, by rw [HF.out]; rfl, by rw [HF.out]; exact Kd.R_nil _ _ _ _ _, (by repeat (first | (with_reducible first | exact HB.out | apply below_alloc | apply pw_below_drewN | apply below_drew1) | exact HB.out))⟩
  · have H1 := Aside0.mk (tf_neg hd)
    have HF := Aside0.mk (MoveF_no (fun h => hd h.1 : ¬ MoveOk v l k))
    clear hd
    go_enter Try.func17, Try.ntmps17
    go_wp2_with ((go_at_call 28; refine (ciGood_calls _ _ _ l _ (by first | exact HR.out | exact Kd.C_drewN HR.out _) HC.out hn).mono ?_; rw [H1.out]; rintro e w' ⟨rfl, ⟨nd, rfl⟩⟩))
    go_ret2
    exact ⟨_, by rw [HF.out]; rfl, by rw [HF.out]; exact Kd.R_nil _ _ _ _ _, (by repeat (first | (with_reducible first | exact HB.out | apply below_alloc | apply pw_below_drewN | apply below_drew1) | exact HB.out))⟩
set_option maxHeartbeats 1600000 in
theorem implMoveSet_calls (v : Int) (A : Option Addr) (c : Nat) (l : List Int) (k : Int) (w : World) (hv : W64 v) (hr : Rd w A l) (hc : l.length ≤ c) (hn : l.length ≤ 1048576) (hw : ∀ x ∈ l, W64 x) (hk : W64 k) :
    Calls Try.prog 18 #[.int .i64 v, .slice A l.length c, .int .i64 k] w fun e w' => ∃ u, e = .returned (.tuple #[u, .bool (MoveF v l k).2]) ∧ Ow w' w.heap.size u (MoveF v l k).1 ∧ Below w.heap.size w w' := by
  have HR := Aside0.mk hr
  have HC := Aside0.mk hc
  clear hr hc hw hv hk
  have HB := Aside0.mk (Below.refl w.heap.size w)
  by_cases hd : Circ v l
  · have H1 := Aside0.mk (tf_pos hd)
    have hv := hd.1.1
    have HD := Aside0.mk hd
    by_cases hk : 0 ≤ k
    · by_cases hk2 : k < v
      · have HF := Aside0.mk (MoveF_yes (show MoveOk v l k from ⟨hd, hk, hk2⟩))
        have HI := Aside0.mk (move_image (show MoveOk v l k from ⟨hd, hk, hk2⟩))
        clear hd
        go_enter Try.func18, Try.ntmps18
        go_wp2_with (first | (go_at_call 31; refine (IsCircleSet_calls _ _ _ l _ (by first | exact HR.out | exact Kd.C_drewN HR.out _) HC.out hn).mono ?_; rw [H1.out]; rintro e w' ⟨rfl, ⟨nd, rfl⟩⟩) | (go_at_call 32; refine (image_calls v _ _ l 1 k _ (by repeat (first | exact HR.out | apply Kd.C_drewN)) HC.out HD.out (by omega) (by omega)).mono ?_; rw [HI.out]; rintro e w1 ⟨u, rfl, ho, hb⟩; have HO := Aside0.mk (Ow_lower ho (below_size (by repeat (first | (with_reducible first | exact HB.out | apply below_alloc | apply pw_below_drewN | apply below_drew1) | exact HB.out)))); have n1_ := Aside0.mk (below_step (by repeat (first | (with_reducible first | exact HB.out | apply below_alloc | apply pw_below_drewN | apply below_drew1) | exact HB.out)) hb); clear HB ho hb; have HB := n1_; clear n1_))
        repeat (go_quiet (fail); try go_wp2)
        go_ret2
        exact ⟨_, by rw [HF.out]; rfl, by rw [HF.out]; exact (by first | exact HO.out | exact Ow_drewN HO.out _), (by repeat (first | (with_reducible first | exact HB.out | apply below_alloc | apply pw_below_drewN | apply below_drew1) | exact HB.out))⟩
      · have HF := Aside0.mk (MoveF_no (fun h => hk2 h.2.2 : ¬ MoveOk v l k))
        clear hd
        go_enter Try.func18, Try.ntmps18
        go_wp2_with ((go_at_call 31; refine (IsCircleSet_calls _ _ _ l _ (by first | exact HR.out | exact Kd.C_drewN HR.out _) HC.out hn).mono ?_; rw [H1.out]; rintro e w' ⟨rfl, ⟨nd, rfl⟩⟩))
        go_ret2
        exact ⟨_, by rw [HF.out]; rfl, by rw [HF.out]; exact Kd.R_nil _ _ _ _ _, (by repeat (first | (with_reducible first | exact HB.out | apply below_alloc | apply pw_below_drewN | apply below_drew1) | exact HB.out))⟩
    · have HF := Aside0.mk (MoveF_no (fun h => hk h.2.1 : ¬ MoveOk v l k))
      clear hd
      go_enter Try.func18, Try.ntmps18
      go_wp2_with ((go_at_call 31; refine (IsCircleSet_calls _ _ _ l _ (by first | exact HR.out | exact Kd.C_drewN HR.out _) HC.out hn).mono ?_; rw [H1.out]; rintro e w' ⟨rfl, ⟨nd, rfl⟩⟩))
      go_ret2
      exact ⟨_, by rw [HF.out]; rfl, by rw [HF.out]; exact Kd.R_nil _ _ _ _ _, (by repeat (first | (with_reducible first | exact HB.out | apply below_alloc | apply pw_below_drewN | apply below_drew1) | exact HB.out))⟩
  · have H1 := Aside0.mk (tf_neg hd)
    have HF := Aside0.mk (MoveF_no (fun h => hd h.1 : ¬ MoveOk v l k))
    clear hd
    go_enter Try.func18, Try.ntmps18
    go_wp2_with ((go_at_call 31; refine (IsCircleSet_calls _ _ _ l _ (by first | exact HR.out | exact Kd.C_drewN HR.out _) HC.out hn).mono ?_; rw [H1.out]; rintro e w' ⟨rfl, ⟨nd, rfl⟩⟩))
    go_ret2
    exact ⟨_, by rw [HF.out]; rfl, by rw [HF.out]; exact Kd.R_nil _ _ _ _ _, (by repeat (first | (with_reducible first | exact HB.out | apply below_alloc | apply pw_below_drewN | apply below_drew1) | exact HB.out))⟩
set_option maxHeartbeats 1600000 in
theorem specTimesSet_calls (v : Int) (A : Option Addr) (c : Nat) (l : List Int) (k : Int) (w : World) (hv : W64 v) (hr : Rd w A l) (hc : l.length ≤ c) (hn : l.length ≤ 1048576) (hw : ∀ x ∈ l, W64 x) (hk : W64 k) :
    Calls Try.prog 15 #[.int .i64 v, .slice A l.length c, .int .i64 k] w fun e w' => ∃ u, e = .returned (.tuple #[u, .bool (TimesF v l k).2]) ∧ Ow w' w.heap.size u (TimesF v l k).1 ∧ Below w.heap.size w w' := by
  have HR := Aside0.mk hr
  have HC := Aside0.mk hc
  clear hr hc hw hv hk
  have HB := Aside0.mk (Below.refl w.heap.size w)
  by_cases hd : Circ v l
  · have H1 := Aside0.mk (tf_pos hd)
    have hv := hd.1.1
    have HD := Aside0.mk hd
    by_cases hk : 1 ≤ k ∧ k ≤ v - 1
    · have HT := Aside0.mk (within_yes hk)
      by_cases hl : (cset v (timesL l k l.length) v.toNat).length = l.length
      · have HF := Aside0.mk (TimesF_yes (show TimesOk v l k from ⟨⟨hd, hk.1, by omega⟩, hl⟩))
        have HLL := Aside0.mk hl
        clear hd hl
        go_enter Try.func15, Try.ntmps15
        go_wp2_with (first | (go_at_call 28; refine (ciGood_calls _ _ _ l _ (by first | exact HR.out | exact Kd.C_drewN HR.out _) HC.out hn).mono ?_; rw [H1.out]; rintro e w' ⟨rfl, ⟨nd, rfl⟩⟩) | (go_at_call 29; refine (in_calls _ _ _ _).mono ?_; rw [HT.out]; rintro e w' ⟨rfl, ⟨nd2, rfl⟩⟩) | (go_at_call 30; refine (ciTimes_calls v _ _ l k _ (by repeat (first | exact HR.out | apply Kd.C_drewN)) HC.out HD.out (by omega)).mono ?_; rintro e w1 ⟨u, rfl, ho, hb⟩; have HO := Aside0.mk (Ow_lower ho (below_size (by repeat (first | (with_reducible first | exact HB.out | apply below_alloc | apply pw_below_drewN | apply below_drew1) | exact HB.out)))); have n1_ := Aside0.mk (below_step (by repeat (first | (with_reducible first | exact HB.out | apply below_alloc | apply pw_below_drewN | apply below_drew1) | exact HB.out)) hb); clear HB ho hb; have HB := n1_; clear n1_; obtain ⟨A1, c1, e1_, hc1_, hr1_⟩ := Ow_form HO.out; rw [HLL.out] at e1_; subst e1_; clear hc1_ hr1_))
        repeat (go_quiet (fail); try go_wp2)
        go_ret2
        exact ⟨_, by rw [HF.out]; rfl, by rw [HF.out]; exact (by first | exact HO.out | exact Ow_drewN HO.out _), (by repeat (first | (with_reducible first | exact HB.out | apply below_alloc | apply pw_below_drewN | apply below_drew1) | exact HB.out))⟩
      · have HF := Aside0.mk (TimesF_no (fun h => hl h.2 : ¬ TimesOk v l k))
        obtain ⟨d, hdd⟩ : ∃ d : List Int, cset v (timesL l k l.length) v.toNat = d := ⟨_, rfl⟩
        rw [hdd] at hl
        have HDD := Aside0.mk hdd
        have hli : ¬ (d.length : Int) = (l.length : Int) := by omega
        clear hd hdd
        go_enter Try.func15, Try.ntmps15
        go_wp2_with (first | (go_at_call 28; refine (ciGood_calls _ _ _ l _ (by first | exact HR.out | exact Kd.C_drewN HR.out _) HC.out hn).mono ?_; rw [H1.out]; rintro e w' ⟨rfl, ⟨nd, rfl⟩⟩) | (go_at_call 29; refine (in_calls _ _ _ _).mono ?_; rw [HT.out]; rintro e w' ⟨rfl, ⟨nd2, rfl⟩⟩) | (go_at_call 30; refine (ciTimes_calls v _ _ l k _ (by repeat (first | exact HR.out | apply Kd.C_drewN)) HC.out HD.out (by omega)).mono ?_; rw [HDD.out]; rintro e w1 ⟨u, rfl, ho, hb⟩; have HO := Aside0.mk (Ow_lower ho (below_size (by repeat (first | (with_reducible first | exact HB.out | apply below_alloc | apply pw_below_drewN | apply below_drew1) | exact HB.out)))); have n1_ := Aside0.mk (below_step (by repeat (first | (with_reducible first | exact HB.out | apply below_alloc | apply pw_below_drewN | apply below_drew1) | exact HB.out)) hb); clear HB ho hb; have HB := n1_; clear n1_; obtain ⟨A1, c1, e1_, hc1_, hr1_⟩ := Ow_form HO.out; subst e1_; have HC1 := Aside0.mk hc1_; clear hc1_ hr1_))
        repeat (go_quiet (fail); try go_wp2)
        go_ret2
        exact ⟨_, by rw [HF.out]; rfl, by rw [HF.out]; exact Kd.R_nil _ _ _ _ _, (by repeat (first | (with_reducible first | exact HB.out | apply below_alloc | apply pw_below_drewN | apply below_drew1) | exact HB.out))⟩
    · have HT := Aside0.mk (within_no hk)
      have HF := Aside0.mk (TimesF_no (fun h => hk (by have := h.1.2; omega) : ¬ TimesOk v l k))
      clear hd hk
      go_enter Try.func15, Try.ntmps15
      go_wp2_with (first | (go_at_call 28; refine (ciGood_calls _ _ _ l _ (by first | exact HR.out | exact Kd.C_drewN HR.out _) HC.out hn).mono ?_; rw [H1.out]; rintro e w' ⟨rfl, ⟨nd, rfl⟩⟩) | (go_at_call 29; refine (in_calls _ _ _ _).mono ?_; rw [HT.out]; rintro e w' ⟨rfl, ⟨nd2, rfl⟩⟩))
      go_ret2
      exact ⟨_, by rw [HF.out]; rfl, by rw [HF.out]; exact Kd.R_nil _ _ _ _ _, (by repeat (first | (with_reducible first | exact HB.out | apply below_alloc | apply pw_below_drewN | apply below_drew1) | exact HB.out))⟩
  · have H1 := Aside0.mk (tf_neg hd)
    have HF := Aside0.mk (TimesF_no (fun h => hd h.1.1 : ¬ TimesOk v l k))
    clear hd
    go_enter Try.func15, Try.ntmps15
    go_wp2_with ((go_at_call 28; refine (ciGood_calls _ _ _ l _ (by first | exact HR.out | exact Kd.C_drewN HR.out _) HC.out hn).mono ?_; rw [H1.out]; rintro e w' ⟨rfl, ⟨nd, rfl⟩⟩))
    go_ret2
    exact ⟨_, by rw [HF.out]; rfl, by rw [HF.out]; exact Kd.R_nil _ _ _ _ _, (by repeat (first | (with_reducible first | exact HB.out | apply below_alloc | apply pw_below_drewN | apply below_drew1) | exact HB.out))⟩
set_option maxHeartbeats 1600000 in
theorem implTimesSet_calls (v : Int) (A : Option Addr) (c : Nat) (l : List Int) (k : Int) (w : World) (hv : W64 v) (hr : Rd w A l) (hc : l.length ≤ c) (hn : l.length ≤ 1048576) (hw : ∀ x ∈ l, W64 x) (hk : W64 k) :
    Calls Try.prog 16 #[.int .i64 v, .slice A l.length c, .int .i64 k] w fun e w' => ∃ u, e = .returned (.tuple #[u, .bool (TimesF v l k).2]) ∧ Ow w' w.heap.size u (TimesF v l k).1 ∧ Below w.heap.size w w' := by
  have HR := Aside0.mk hr
  have HC := Aside0.mk hc
  clear hr hc hw hv hk
  have HB := Aside0.mk (Below.refl w.heap.size w)
  by_cases hd : Circ v l
  · have H1 := Aside0.mk (tf_pos hd)
    have hv := hd.1.1
    have hlen := hd.1.2.1
    have HD := Aside0.mk hd
    by_cases hk : 1 ≤ k
    · by_cases hk2 : k < v
      · have HU := Aside0.mk (times_unl hd hk hk2)
        have HXL := Aside0.mk (show (sorted (imageL v l k 0 l.length)).length = l.length by rw [sorted_length, imageL_length])
        obtain ⟨d, hdd⟩ : ∃ d : List Int, sorted (imageL v l k 0 l.length) = d := ⟨_, rfl⟩
        rw [hdd] at HU HXL
        have HDD := Aside0.mk hdd
        clear hdd
        by_cases hu : TimesOk v l k
        · have H2 := Aside0.mk (tf_pos (HU.out.mpr hu))
          have HF := Aside0.mk (TimesF_yes hu)
          have HI := Aside0.mk (times_image hu)
          clear hd hu
          go_enter Try.func16, Try.ntmps16
          go_wp2_with (first | (go_at_call 31; refine (IsCircleSet_calls _ _ _ l _ (by first | exact HR.out | exact Kd.C_drewN HR.out _) HC.out hn).mono ?_; rw [H1.out]; rintro e w' ⟨rfl, ⟨nd, rfl⟩⟩) | (go_at_call 32; refine (image_calls v _ _ l k 0 _ (by repeat (first | exact HR.out | apply Kd.C_drewN)) HC.out HD.out (by omega) (by omega)).mono ?_; rw [HDD.out]; rintro e w1 ⟨u, rfl, ho, hb⟩; have HO := Aside0.mk (Ow_lower ho (below_size (by repeat (first | (with_reducible first | exact HB.out | apply below_alloc | apply pw_below_drewN | apply below_drew1) | exact HB.out)))); have n1_ := Aside0.mk (below_step (by repeat (first | (with_reducible first | exact HB.out | apply below_alloc | apply pw_below_drewN | apply below_drew1) | exact HB.out)) hb); clear HB ho hb; have HB := n1_; clear n1_; obtain ⟨A1, c1, e1_, hc1_, hr1_⟩ := Ow_form HO.out; subst e1_; have HC1 := Aside0.mk hc1_; clear hc1_ hr1_) | (go_at_call 33; refine (unlike_calls _ _ d _ (Ow_rd (by first | exact HO.out | exact Ow_drewN HO.out _)) HC1.out (by rw [HXL.out]; omega)).mono ?_; rw [H2.out]; rintro e w' ⟨rfl, ⟨nd5, rfl⟩⟩))
          repeat (go_quiet (fail); try go_wp2)
          go_ret2
          exact ⟨_, by rw [HF.out]; rfl, by rw [HF.out]; show Ow _ _ _ (cset _ _ _); rw [← HI.out, HDD.out]; exact (by first | exact HO.out | exact Ow_drewN HO.out _), (by repeat (first | (with_reducible first | exact HB.out | apply below_alloc | apply pw_below_drewN | apply below_drew1) | exact HB.out))⟩
        · have H2 := Aside0.mk (tf_neg (fun h => hu (HU.out.mp h)))
          have HF := Aside0.mk (TimesF_no hu)
          clear hd hu
          go_enter Try.func16, Try.ntmps16
          go_wp2_with (first | (go_at_call 31; refine (IsCircleSet_calls _ _ _ l _ (by first | exact HR.out | exact Kd.C_drewN HR.out _) HC.out hn).mono ?_; rw [H1.out]; rintro e w' ⟨rfl, ⟨nd, rfl⟩⟩) | (go_at_call 32; refine (image_calls v _ _ l k 0 _ (by repeat (first | exact HR.out | apply Kd.C_drewN)) HC.out HD.out (by omega) (by omega)).mono ?_; rw [HDD.out]; rintro e w1 ⟨u, rfl, ho, hb⟩; have HO := Aside0.mk (Ow_lower ho (below_size (by repeat (first | (with_reducible first | exact HB.out | apply below_alloc | apply pw_below_drewN | apply below_drew1) | exact HB.out)))); have n1_ := Aside0.mk (below_step (by repeat (first | (with_reducible first | exact HB.out | apply below_alloc | apply pw_below_drewN | apply below_drew1) | exact HB.out)) hb); clear HB ho hb; have HB := n1_; clear n1_; obtain ⟨A1, c1, e1_, hc1_, hr1_⟩ := Ow_form HO.out; subst e1_; have HC1 := Aside0.mk hc1_; clear hc1_ hr1_) | (go_at_call 33; refine (unlike_calls _ _ d _ (Ow_rd (by first | exact HO.out | exact Ow_drewN HO.out _)) HC1.out (by rw [HXL.out]; omega)).mono ?_; rw [H2.out]; rintro e w' ⟨rfl, ⟨nd5, rfl⟩⟩))
          repeat (go_quiet (fail); try go_wp2)
          go_ret2
          exact ⟨_, by rw [HF.out]; rfl, by rw [HF.out]; exact Kd.R_nil _ _ _ _ _, (by repeat (first | (with_reducible first | exact HB.out | apply below_alloc | apply pw_below_drewN | apply below_drew1) | exact HB.out))⟩
      · have HF := Aside0.mk (TimesF_no (fun h => hk2 h.1.2.2 : ¬ TimesOk v l k))
        clear hd
        go_enter Try.func16, Try.ntmps16
        go_wp2_with ((go_at_call 31; refine (IsCircleSet_calls _ _ _ l _ (by first | exact HR.out | exact Kd.C_drewN HR.out _) HC.out hn).mono ?_; rw [H1.out]; rintro e w' ⟨rfl, ⟨nd, rfl⟩⟩))
        go_ret2
        exact ⟨_, by rw [HF.out]; rfl, by rw [HF.out]; exact Kd.R_nil _ _ _ _ _, (by repeat (first | (with_reducible first | exact HB.out | apply below_alloc | apply pw_below_drewN | apply below_drew1) | exact HB.out))⟩
    · have HF := Aside0.mk (TimesF_no (fun h => hk h.1.2.1 : ¬ TimesOk v l k))
      clear hd
      go_enter Try.func16, Try.ntmps16
      go_wp2_with ((go_at_call 31; refine (IsCircleSet_calls _ _ _ l _ (by first | exact HR.out | exact Kd.C_drewN HR.out _) HC.out hn).mono ?_; rw [H1.out]; rintro e w' ⟨rfl, ⟨nd, rfl⟩⟩))
      go_ret2
      exact ⟨_, by rw [HF.out]; rfl, by rw [HF.out]; exact Kd.R_nil _ _ _ _ _, (by repeat (first | (with_reducible first | exact HB.out | apply below_alloc | apply pw_below_drewN | apply below_drew1) | exact HB.out))⟩
  · have H1 := Aside0.mk (tf_neg hd)
    have HF := Aside0.mk (TimesF_no (fun h => hd h.1.1 : ¬ TimesOk v l k))
    clear hd
    go_enter Try.func16, Try.ntmps16
    go_wp2_with ((go_at_call 31; refine (IsCircleSet_calls _ _ _ l _ (by first | exact HR.out | exact Kd.C_drewN HR.out _) HC.out hn).mono ?_; rw [H1.out]; rintro e w' ⟨rfl, ⟨nd, rfl⟩⟩))
    go_ret2
    exact ⟨_, by rw [HF.out]; rfl, by rw [HF.out]; exact Kd.R_nil _ _ _ _ _, (by repeat (first | (with_reducible first | exact HB.out | apply below_alloc | apply pw_below_drewN | apply below_drew1) | exact HB.out))⟩
end Go.Proofs.Ytfbbbefhdmimhaa.Own.G
