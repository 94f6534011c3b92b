/- Different rulers, and the marks that stay free: what the reference's and the program's FreeMarks return; lists of at most 1048576 numbers. -/
import Derived.Test.YtmmnohdokemchaaOwnRulerB
import Derived.Test.YtmmnohdokemchaaOwnMaxK
namespace Go.Proofs.Ytmmnohdokemchaa.Own.G
open Go.RowKit Go.Proofs.YtmmnohdokemchaaW.PrintWords Go.Proofs.YtmmnohdokemchaaW.PrintLast Go.Proofs.YtmmnohdokemchaaW.PrintMore
set_option linter.unusedVariables false
def Diff (t : List Int) : Prop := ∀ j : Nat, j < t.length → rd t (j : Int) ≤ 1
set_option maxHeartbeats 1600000 in
theorem ruDifferent_calls (A : Option Addr) (c : Nat) (l : List Int) (w : World) (hr : Rd w A l) (hc : l.length ≤ c) (hd : Ruler l) :
    Calls Try.prog 36 #[.slice A l.length c] w fun e w' => e = .returned (.bool (tf (Diff (times l)))) ∧ Below w.heap.size w w' := by
  have HR := Aside0.mk hr
  have HC := Aside0.mk hc
  have HD := Aside0.mk hd
  have hsp := span_le hd
  clear hr hc hd
  have HB := Aside0.mk (Below.refl w.heap.size w)
  go_enter Try.func36, Try.ntmps36
  go_wp2_with (go_at_call 38; refine (ruTimes_calls _ _ l _ HR.out HC.out HD.out).mono ?_; (rintro e w1 ⟨v1, rfl, ho, hb⟩; have hdl_ := times_length l; generalize hd_ : times l = d at ho hdl_; have HDL := Aside0.mk hdl_; have HDD := Aside0.mk hd_; clear hdl_ hd_; have HO := Aside0.mk (Ow_lower ho (below_size (by repeat (first | (with_reducible first | exact HB.out | apply below_alloc | apply pw_below_drewN | apply below_drew1) | exact HB.out)))); have n0_ := Aside0.mk (below_step (by repeat (first | (with_reducible first | exact HB.out | apply below_alloc | apply pw_below_drewN | apply below_drew1) | exact HB.out)) hb); clear HB ho hb; have HB := n0_; clear n0_; obtain ⟨A1, c1, e1_, hc1_, hr1_⟩ := Ow_form HO.out; subst e1_; have HC1 := Aside0.mk hc1_; clear hc1_ hr1_))
  have hdn : d.length ≤ 1048576 := by rw [HDL.out]; omega
  go_loopg [8] d.length (fun g v8 w' => ∃ i : Nat, v8 = .int .i64 i ∧ Aside0 (i + g = d.length) ∧ Aside0 (∀ j : Nat, j < i → rd d (j : Int) ≤ 1) ∧ Aside0 (Ow w' w.heap.size (.slice A1 d.length c1) d) ∧ Aside0 (Below w.heap.size w w'))
  case atStart => exact ⟨0, rfl, ⟨by omega⟩, ⟨fun j h => absurd h (by omega)⟩, ⟨(by first | exact HO.out | exact Ow_drewN HO.out _)⟩, ⟨(by repeat (first | (with_reducible first | exact HB.out | apply below_alloc | apply pw_below_drewN | apply below_drew1) | exact HB.out))⟩⟩
  case round =>
    clear HO HB
    obtain ⟨i, rfl, HI, HA, HO, HB⟩ := hrel
    by_cases hlt : i < d.length
    · obtain ⟨ad, rfl, hx⟩ := at_nat (Ow_rd HO.out) hlt
      by_cases hq : rd d (i : Int) ≤ 1
      · have HQ := Aside0.mk hq
        (go_wp2; repeat (go_quiet (fail); try go_wp2))
        go_roundg (gk - 1)
        case measure => have := HI.out; omega
        case rel => exact ⟨i + 1, by go_num, ⟨by have := HI.out; omega⟩, ⟨fun j hj => by
          rcases Nat.lt_or_ge j i with h | h
          · exact HA.out j h
          · rw [show j = i by omega]; exact HQ.out⟩, ⟨(by first | exact HO.out | exact Ow_drewN HO.out _)⟩, ⟨(by repeat (first | (with_reducible first | exact HB.out | apply below_alloc | apply pw_below_drewN | apply below_drew1) | exact HB.out))⟩⟩
      · have HE := Aside0.mk (show tf (Diff (times l)) = false by rw [HDD.out]; exact tf_neg fun h => hq (h i hlt))
        (go_wp2; repeat (go_quiet (fail); try go_wp2))
        go_ret
        exact ⟨ret_bool HE.out.symm, (by repeat (first | (with_reducible first | exact HB.out | apply below_alloc | apply pw_below_drewN | apply below_drew1) | exact HB.out))⟩
    · have HE := Aside0.mk (show tf (Diff (times l)) = true by rw [HDD.out]; exact tf_pos fun j hj => HA.out j (by omega))
      (go_wp2; repeat (go_quiet (fail); try go_wp2))
      go_ret
      exact ⟨ret_bool HE.out.symm, (by repeat (first | (with_reducible first | exact HB.out | apply below_alloc | apply pw_below_drewN | apply below_drew1) | exact HB.out))⟩
set_option maxHeartbeats 1600000 in
theorem different_calls (A : Option Addr) (c : Nat) (l : List Int) (w : World) (hr : Rd w A l) (hc : l.length ≤ c) (hd : Ruler l) :
    Calls Try.prog 21 #[.slice A l.length c] w fun e w' => e = .returned (.bool (tf (Diff (times l)))) ∧ Below w.heap.size w w' := by
  have HR := Aside0.mk hr
  have HC := Aside0.mk hc
  have HD := Aside0.mk hd
  have hsp := span_le hd
  clear hr hc hd
  have HB := Aside0.mk (Below.refl w.heap.size w)
  go_enter Try.func21, Try.ntmps21
  go_wp2_with (first | (go_at_call 32; refine (measured_calls _ _ l _ HR.out HC.out HD.out).mono ?_; (rintro e w1 ⟨v1, rfl, ho, hb⟩; have hdl_ := times_length l; generalize hd_ : times l = d at ho hdl_; have HDL := Aside0.mk hdl_; have HDD := Aside0.mk hd_; clear hdl_ hd_; have HO := Aside0.mk (Ow_lower ho (below_size (by repeat (first | (with_reducible first | exact HB.out | apply below_alloc | apply pw_below_drewN | apply below_drew1) | exact HB.out)))); have n0_ := Aside0.mk (below_step (by repeat (first | (with_reducible first | exact HB.out | apply below_alloc | apply pw_below_drewN | apply below_drew1) | exact HB.out)) hb); clear HB ho hb; have HB := n0_; clear n0_; obtain ⟨A1, c1, e1_, hc1_, hr1_⟩ := Ow_form HO.out; subst e1_; have HC1 := Aside0.mk hc1_; clear hc1_ hr1_)) | (go_at_call 31; refine (Max_calls _ _ d _ (Ow_rd HO.out) HC1.out (by rw [HDL.out]; omega) (by rw [HDL.out]; omega)).mono ?_; rintro e w' ⟨⟨m, rfl, hm⟩, ⟨nd3, rfl⟩⟩; have HM := Aside0.mk (show decide (m ≤ 1) = tf (Diff (times l)) by rw [HDD.out, ← tf_dec]; exact tf_congr (hm 1)); clear hm))
  repeat (go_quiet (fail); try go_wp2)
  go_ret
  exact ⟨ret_bool HM.out, (by repeat (first | (with_reducible first | exact HB.out | apply below_alloc | apply pw_below_drewN | apply below_drew1) | exact HB.out))⟩
end Go.Proofs.Ytmmnohdokemchaa.Own.G
