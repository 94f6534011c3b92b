/- The reference's ciSet: the points of a circle that some numbers hit; three numbers in order that lie on the circle hit themselves; lists of at most 1048576 numbers. -/
import Derived.Test.YtpabfibmpannoaaOwnGen
namespace Go.Proofs.Ytpabfibmpannoaa.Own.G
open Go.RowKit Go.Proofs.YtpabfibmpannoaaW.PrintWords Go.Proofs.YtpabfibmpannoaaW.PrintLast Go.Proofs.YtpabfibmpannoaaW.PrintMore
set_option linter.unusedVariables false
def Hits (v : Int) (M : List Int) (x : Nat) : Prop := ∃ j : Nat, j < M.length ∧ Int.tmod (rd M (j : Int)) v = (x : Int)
noncomputable def cset (v : Int) (M : List Int) : Nat → List Int
  | 0 => []
  | i + 1 => if tf (Hits v M i) = true then cset v M i ++ [(i : Int)] else cset v M i
theorem cset_yes {v : Int} {M : List Int} {i : Nat} (h : Hits v M i) : cset v M (i + 1) = cset v M i ++ [(i : Int)] := if_pos (tf_pos h)
theorem cset_no {v : Int} {M : List Int} {i : Nat} (h : ¬ Hits v M i) : cset v M (i + 1) = cset v M i := if_neg (by rw [tf_neg h]; decide)
theorem cset_len (v : Int) (M : List Int) (i : Nat) : (cset v M i).length ≤ i := by
  induction i with
  | zero => simp [cset]
  | succ i ih =>
    by_cases h : Hits v M i
    · rw [cset_yes h, List.length_append, List.length_singleton]; omega
    · rw [cset_no h]; omega
set_option maxHeartbeats 3200000 in
theorem ciSet_calls (v : Int) (A : Option Addr) (c : Nat) (M : List Int) (w : World) (hr : Rd w A M) (hc : M.length ≤ c) (hn : M.length ≤ 1048576) (hv : 2 ≤ v ∧ v ≤ 31) (hM : ∀ x ∈ M, 0 ≤ x ∧ x ≤ 1000000) :
    Calls Try.prog 47 #[.int .i64 v, .slice A M.length c] w fun e w' => ∃ u, e = .returned u ∧ Ow w' w.heap.size u (cset v M v.toNat) ∧ Below w.heap.size w w' := by
  have HR := Aside0.mk hr
  have HC := Aside0.mk hc
  have HM := Aside0.mk hM
  clear hr hc hM
  have HB := Aside0.mk (Below.refl w.heap.size w)
  have HO := Aside0.mk (Kd.R_nil (Kd.int .i64) 3 w w.heap.size (fun _ => True))
  go_enter Try.func47, Try.ntmps47
  (go_wp2; repeat (go_quiet (fail); try go_wp2))
  go_loopg [5, 6] v.toNat (fun g v5 v6 w' => ∃ (i : Nat) (xs : List Int), v6 = .int .i64 i ∧ Aside0 (i + g = v.toNat) ∧ Aside0 (xs = cset v M i) ∧ Aside0 (xs.length ≤ 1048576) ∧ Aside0 (Ow w' w.heap.size v5 xs) ∧ Aside0 (Below w.heap.size w w'))
  case atStart => exact ⟨0, [], rfl, ⟨by omega⟩, ⟨rfl⟩, ⟨by simp⟩, ⟨by first | exact HO.out | exact Ow_drewN HO.out _⟩, ⟨(by repeat (first | (with_reducible first | exact HB.out | apply below_alloc | apply pw_below_drewN | apply below_drew1) | exact HB.out))⟩⟩
  case round =>
    clear HO HB
    obtain ⟨i, xs, rfl, HI, HX, HL, HO, HB⟩ := hrel
    obtain ⟨gi, rfl⟩ : ∃ gi : Nat, gi = gk := ⟨_, rfl⟩
    by_cases hlt : (i : Int) < v
    · go_wp2
      repeat (go_quiet (fail); try go_wp2)
      obtain ⟨wo, rfl⟩ : ∃ wo : World, wo = wr := ⟨_, rfl⟩
      go_loopg [5, 16] M.length (fun g v5 v16 w' => ∃ j : Nat, v16 = .int .i64 j ∧ Aside0 (j + g = M.length) ∧ Aside0 (∀ k : Nat, k < j → ¬ Int.tmod (rd M (k : Int)) v = (i : Int)) ∧ Aside0 (Ow w' w.heap.size v5 xs) ∧ Aside0 (Below w.heap.size w w'))
      case atStart => exact ⟨0, rfl, ⟨by omega⟩, ⟨fun k h => absurd h (by omega)⟩, ⟨(by first | exact HO.out | exact Ow_drewN HO.out _)⟩, ⟨(by repeat (first | (with_reducible first | exact HB.out | apply below_alloc | apply pw_below_drewN | apply below_drew1) | exact HB.out))⟩⟩
      case round =>
        clear HO HB
        obtain ⟨j, rfl, HJ, HA, HO, HB⟩ := hrel
        by_cases hj : j < M.length
        · obtain ⟨ad, rfl, hx⟩ := at_nat HR.out hj
          replace hx := (HB.out.cell (World.block_lt_of_cell? w _ hx)).trans hx
          have hm := HM.out _ (rd_mem hj)
          by_cases hq : Int.tmod (rd M (j : Int)) v = (i : Int)
          · have HY := Aside0.mk (cset_yes (show Hits v M i from ⟨j, hj, hq⟩))
            have ht : (Int.tmod (rd M (j : Int)) v == (i : Int)) = true := beq_iff_eq.mpr hq
            have ht2 : (rd M (j : Int) % v == (i : Int)) = true := by rw [← Int.tmod_eq_emod_of_nonneg hm.1]; exact ht
            clear hq
            go_wp2_with ((at_builtin; refine Kd.R_append (Kd.int .i64) (w0 := w) w.heap.size rfl (.tmp 25) (.tmp 27) 29 3 (.int .i64 0) 8 rfl Try.underlying29 infoInt rfl (by decide) (by omega) u5 xs ((i : Int)) [.int .i64 ((i : Int))] (fun _ => True) (fun _ => False) rfl rfl rfl (fun _ hk => hk.elim) (fun _ _ => trivial) ?aO ?aB ?aS ?aL ?_; (case aO => exact (by (with_reducible repeat (first | apply Kd.R_alloc | apply Kd.R_drewN | apply Kd.R_drew)); exact HO.out)); (case aB => exact (by repeat (first | (with_reducible first | exact HB.out | apply below_alloc | apply pw_below_drewN | apply below_drew1) | exact HB.out))); (case aS => exact below_size (by repeat (first | (with_reducible first | exact HB.out | apply below_alloc | apply pw_below_drewN | apply below_drew1) | exact HB.out))); (case aL => have := HL.out; omega); intro v2 w2 ho_ hb_ hg_ hat_; have n0_ := Aside0.mk hb_; have n1_ := Aside0.mk ho_; clear HB HO; have HB := n0_; have HO := n1_; clear n0_ n1_ ho_ hb_ hg_ hat_))
            repeat (go_quiet (fail); try go_wp2)
            go_roundg (gi - 1)
            case measure => have := HI.out; omega
            case rel => exact ⟨i + 1, xs ++ [(i : Int)], by go_num, ⟨by have := HI.out; omega⟩, ⟨by rw [HX.out, HY.out]⟩, ⟨by rw [HX.out, List.length_append, List.length_singleton]; have := cset_len v M i; omega⟩, ⟨(by first | exact HO.out | exact Ow_drewN HO.out _)⟩, ⟨(by repeat (first | (with_reducible first | exact HB.out | apply below_alloc | apply pw_below_drewN | apply below_drew1) | exact HB.out))⟩⟩
          · have HQ := Aside0.mk hq
            have ht : (Int.tmod (rd M (j : Int)) v == (i : Int)) = false := beq_eq_false_iff_ne.mpr hq
            have ht2 : (rd M (j : Int) % v == (i : Int)) = false := by rw [← Int.tmod_eq_emod_of_nonneg hm.1]; exact ht
            clear hq
            (go_wp2; repeat (go_quiet (fail); try go_wp2))
            go_roundg (gk - 1)
            case measure => have := HJ.out; omega
            case rel => exact ⟨j + 1, by go_num, ⟨by have := HJ.out; omega⟩, ⟨fun k hk => by
              rcases Nat.lt_or_ge k j with h | h
              · exact HA.out k h
              · rw [show k = j by omega]; exact HQ.out⟩, ⟨(by first | exact HO.out | exact Ow_drewN HO.out _)⟩, ⟨(by repeat (first | (with_reducible first | exact HB.out | apply below_alloc | apply pw_below_drewN | apply below_drew1) | exact HB.out))⟩⟩
        · have HY := Aside0.mk (cset_no (show ¬ Hits v M i from fun ⟨k, hk, he⟩ => HA.out k (by omega) he))
          (go_wp2; repeat (go_quiet (fail); try go_wp2))
          go_roundg (gi - 1)
          case measure => have := HI.out; omega
          case rel => exact ⟨i + 1, xs, by go_num, ⟨by have := HI.out; omega⟩, ⟨by rw [HX.out, HY.out]⟩, HL, ⟨(by first | exact HO.out | exact Ow_drewN HO.out _)⟩, ⟨(by repeat (first | (with_reducible first | exact HB.out | apply below_alloc | apply pw_below_drewN | apply below_drew1) | exact HB.out))⟩⟩
    · have HE := Aside0.mk (show xs = cset v M v.toNat by rw [HX.out, show i = v.toNat by have := HI.out; omega])
      (go_wp2; repeat (go_quiet (fail); try go_wp2))
      go_ret
      exact ⟨_, rfl, by rw [← HE.out]; exact (by first | exact HO.out | exact Ow_drewN HO.out _), (by repeat (first | (with_reducible first | exact HB.out | apply below_alloc | apply pw_below_drewN | apply below_drew1) | exact HB.out))⟩
theorem Hits3 {v a b : Int} {i : Nat} (h : 0 < a ∧ a < b ∧ b < v) : Hits v [0, a, b] i ↔ (i : Int) = 0 ∨ (i : Int) = a ∨ (i : Int) = b := by
  have e0 : Int.tmod 0 v = 0 := by rw [Int.tmod_eq_emod_of_nonneg (by omega)]; exact Int.emod_eq_of_lt (by omega) (by omega)
  have e1 : Int.tmod a v = a := by rw [Int.tmod_eq_emod_of_nonneg (by omega)]; exact Int.emod_eq_of_lt (by omega) (by omega)
  have e2 : Int.tmod b v = b := by rw [Int.tmod_eq_emod_of_nonneg (by omega)]; exact Int.emod_eq_of_lt (by omega) (by omega)
  have r0 : rd [0, a, b] ((0 : Nat) : Int) = 0 := rfl
  have r1 : rd [0, a, b] ((1 : Nat) : Int) = a := rfl
  have r2 : rd [0, a, b] ((2 : Nat) : Int) = b := rfl
  constructor
  · rintro ⟨j, hj, he⟩
    have hj3 : j < 3 := hj
    rcases (show j = 0 ∨ j = 1 ∨ j = 2 by omega) with h | h | h <;> subst h
    · rw [r0, e0] at he; omega
    · rw [r1, e1] at he; omega
    · rw [r2, e2] at he; omega
  · intro h
    rcases h with h | h | h
    · exact ⟨0, by simp, by rw [r0, e0]; omega⟩
    · exact ⟨1, by simp, by rw [r1, e1]; omega⟩
    · exact ⟨2, by simp, by rw [r2, e2]; omega⟩
theorem cset3_upto {v a b : Int} (h : 0 < a ∧ a < b ∧ b < v) (i : Nat) : cset v [0, a, b] i = (if 0 < (i : Int) then [0] else []) ++ (if a < (i : Int) then [a] else []) ++ (if b < (i : Int) then [b] else []) := by
  induction i with
  | zero =>
    rw [if_neg (by omega), if_neg (by omega), if_neg (by omega)]
    rfl
  | succ i ih =>
    have ec : ((i + 1 : Nat) : Int) = (i : Int) + 1 := by omega
    by_cases hh : Hits v [0, a, b] i
    · rw [cset_yes hh, ih, ec]
      rcases (Hits3 h).mp hh with e | e | e
      · rw [e, if_neg (by omega), if_neg (by omega), if_neg (by omega), if_pos (by omega), if_neg (by omega), if_neg (by omega)]
        rfl
      · rw [e, if_pos (by omega), if_neg (by omega), if_neg (by omega), if_pos (by omega), if_pos (by omega), if_neg (by omega)]
        rfl
      · rw [e, if_pos (by omega), if_pos (by omega), if_neg (by omega), if_pos (by omega), if_pos (by omega), if_pos (by omega)]
        rfl
    · have hn := fun e => hh ((Hits3 h).mpr e)
      have h0 : ¬ (i : Int) = 0 := fun e => hn (.inl e)
      have h1 : ¬ (i : Int) = a := fun e => hn (.inr (.inl e))
      have h2 : ¬ (i : Int) = b := fun e => hn (.inr (.inr e))
      rw [cset_no hh, ih, ec]
      have k0 : (0 < (i : Int)) = (0 < (i : Int) + 1) := propext (by omega)
      have k1 : (a < (i : Int)) = (a < (i : Int) + 1) := propext (by omega)
      have k2 : (b < (i : Int)) = (b < (i : Int) + 1) := propext (by omega)
      simp only [k0, k1, k2]
theorem cset3 {v a b : Int} (h : 0 < a ∧ a < b ∧ b < v) : cset v [0, a, b] v.toNat = [0, a, b] := by
  rw [cset3_upto h, if_pos (by omega), if_pos (by omega), if_pos (by omega)]
  rfl
end Go.Proofs.Ytpabfibmpannoaa.Own.G
