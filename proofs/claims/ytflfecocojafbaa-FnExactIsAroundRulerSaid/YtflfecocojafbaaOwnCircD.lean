/- Rulers around a circle: what the reference's and the program's IsAroundRuler return; lists of at most 1048576 numbers. -/
import Derived.Test.YtflfecocojafbaaOwnCircC
import Derived.Test.YtflfecocojafbaaOwnMaxK
namespace Go.Proofs.Ytflfecocojafbaa.Own.G
open Go.RowKit Go.Proofs.YtflfecocojafbaaW.PrintWords Go.Proofs.YtflfecocojafbaaW.PrintLast Go.Proofs.YtflfecocojafbaaW.PrintMore
set_option linter.unusedVariables false
def AllLe (k : Int) (t : List Int) : Prop := ∀ j : Nat, j < t.length → rd t (j : Int) ≤ k
noncomputable def AroundF (v : Int) (l : List Int) : Bool × Bool := if tf (Circ v l) = true then (tf (AllLe 1 (counted v l)), true) else (false, false)
theorem AroundF_yes {v : Int} {l : List Int} (h : Circ v l) : AroundF v l = (tf (AllLe 1 (counted v l)), true) := if_pos (tf_pos h)
theorem AroundF_no {v : Int} {l : List Int} (h : ¬ Circ v l) : AroundF v l = (false, false) := if_neg (by rw [tf_neg h]; decide)
set_option maxHeartbeats 1600000 in
theorem specIsAroundRuler_calls (v : Int) (A : Option Addr) (c : Nat) (l : List Int) (w : World) (hv : W64 v) (hr : Rd w A l) (hc : l.length ≤ c) (hn : l.length ≤ 1048576) (hw : ∀ x ∈ l, W64 x) :
    Calls Try.prog 44 #[.int .i64 v, .slice A l.length c] w fun e w' => e = .returned (.tuple #[.bool (AroundF v l).1, .bool (AroundF v l).2]) ∧ Below w.heap.size w w' := by
  have HR := Aside0.mk hr
  have HC := Aside0.mk hc
  clear hr hc hw hv
  have HB := Aside0.mk (Below.refl w.heap.size w)
  by_cases hd : Circ v l
  · have HD := Aside0.mk hd
    have H1 := Aside0.mk (tf_pos hd)
    have HF := Aside0.mk (AroundF_yes hd)
    have hv := hd.1.1
    have hp := hd.1.2.1.1
    clear hd
    go_enter Try.func44, Try.ntmps44
    go_wp2_with (first | (go_at_call 56; refine (ciGood_calls _ _ _ l _ HR.out HC.out hn).mono ?_; rw [H1.out]; rintro e w' ⟨rfl, ⟨nd, rfl⟩⟩) | (go_at_call 74; refine (ciCounts_calls v _ 1 [l] _ (Sets_one (by first | exact HR.out | exact Kd.C_drewN HR.out _) HC.out _) (by simp) (by simp) hv (AllPts_one (Circ_pts HD.out) hp)).mono ?_; rw [show ([l] : List (List Int)).length = 1 from rfl, csum_one]; (rintro e w1 ⟨v1, rfl, ho, hb⟩; have hdl_ := counted_length (v := v) (l := l); generalize hd_ : counted v l = d at ho hdl_; have HDL := Aside0.mk hdl_; have HDD := Aside0.mk hd_; clear hdl_ hd_; have HO := Aside0.mk (Ow_lower ho (below_size (by repeat (first | (with_reducible first | exact HB.out | apply below_alloc | apply pw_below_drewN | apply below_drew1) | exact HB.out)))); have n0_ := Aside0.mk (below_step (by repeat (first | (with_reducible first | exact HB.out | apply below_alloc | apply pw_below_drewN | apply below_drew1) | exact HB.out)) hb); clear HB ho hb; have HB := n0_; clear n0_; obtain ⟨A1, c1, e1_, hc1_, hr1_⟩ := Ow_form HO.out; subst e1_; have HC1 := Aside0.mk hc1_; clear hc1_ hr1_)))
    have hdl : d.length ≤ 31 := by rw [HDL.out]; omega
    go_loopg [17] d.length (fun g v17 w' => ∃ i : Nat, v17 = .int .i64 i ∧ Aside0 (i + g = d.length) ∧ Aside0 (∀ j : Nat, j < i → rd d (j : Int) ≤ 1) ∧ Aside0 (Ow w' w.heap.size (.slice A1 d.length c1) d) ∧ Aside0 (Below w.heap.size w w'))
    case atStart => exact ⟨0, rfl, ⟨by omega⟩, ⟨fun j h => absurd h (by omega)⟩, ⟨(by first | exact HO.out | exact Ow_drewN HO.out _)⟩, ⟨(by repeat (first | (with_reducible first | exact HB.out | apply below_alloc | apply pw_below_drewN | apply below_drew1) | exact HB.out))⟩⟩
    case round =>
      clear HO HB
      obtain ⟨i, rfl, HI, HA, HO, HB⟩ := hrel
      by_cases hlt : i < d.length
      · obtain ⟨ad, rfl, hx⟩ := at_nat (Ow_rd HO.out) hlt
        by_cases hq : rd d (i : Int) ≤ 1
        · have HQ := Aside0.mk hq
          (go_wp2; repeat (go_quiet (fail); try go_wp2))
          go_roundg (gk - 1)
          case measure => have := HI.out; omega
          case rel => exact ⟨i + 1, by go_num, ⟨by have := HI.out; omega⟩, ⟨fun j hj => by
            rcases Nat.lt_or_ge j i with h | h
            · exact HA.out j h
            · rw [show j = i by omega]; exact HQ.out⟩, ⟨(by first | exact HO.out | exact Ow_drewN HO.out _)⟩, ⟨(by repeat (first | (with_reducible first | exact HB.out | apply below_alloc | apply pw_below_drewN | apply below_drew1) | exact HB.out))⟩⟩
        · have HE := Aside0.mk (show tf (AllLe 1 (counted v l)) = false by rw [HDD.out]; exact tf_neg fun h => hq (h i hlt))
          (go_wp2; repeat (go_quiet (fail); try go_wp2))
          go_ret2
          exact ⟨by rw [HF.out, HE.out]; rfl, (by repeat (first | (with_reducible first | exact HB.out | apply below_alloc | apply pw_below_drewN | apply below_drew1) | exact HB.out))⟩
      · have HE := Aside0.mk (show tf (AllLe 1 (counted v l)) = true by rw [HDD.out]; exact tf_pos fun j hj => HA.out j (by omega))
        (go_wp2; repeat (go_quiet (fail); try go_wp2))
        go_ret2
        exact ⟨by rw [HF.out, HE.out]; rfl, (by repeat (first | (with_reducible first | exact HB.out | apply below_alloc | apply pw_below_drewN | apply below_drew1) | exact HB.out))⟩
  · have H1 := Aside0.mk (tf_neg hd)
    have HF := Aside0.mk (AroundF_no hd)
    clear hd
    go_enter Try.func44, Try.ntmps44
    go_wp2_with (go_at_call 56; refine (ciGood_calls _ _ _ l _ HR.out HC.out hn).mono ?_; rw [H1.out]; rintro e w' ⟨rfl, ⟨nd, rfl⟩⟩)
    go_ret2
    exact ⟨by rw [HF.out]; rfl, (by repeat (first | (with_reducible first | exact HB.out | apply below_alloc | apply pw_below_drewN | apply below_drew1) | exact HB.out))⟩
set_option maxHeartbeats 1600000 in
theorem implIsAroundRuler_calls (v : Int) (A : Option Addr) (c : Nat) (l : List Int) (w : World) (hv : W64 v) (hr : Rd w A l) (hc : l.length ≤ c) (hn : l.length ≤ 1048576) (hw : ∀ x ∈ l, W64 x) :
    Calls Try.prog 45 #[.int .i64 v, .slice A l.length c] w fun e w' => e = .returned (.tuple #[.bool (AroundF v l).1, .bool (AroundF v l).2]) ∧ Below w.heap.size w w' := by
  have HR := Aside0.mk hr
  have HC := Aside0.mk hc
  clear hr hc hw hv
  have HB := Aside0.mk (Below.refl w.heap.size w)
  by_cases hd : Circ v l
  · have HD := Aside0.mk hd
    have H1 := Aside0.mk (tf_pos hd)
    have HF := Aside0.mk (AroundF_yes hd)
    have hv := hd.1.1
    have hp := hd.1.2.1.1
    clear hd
    go_enter Try.func45, Try.ntmps45
    go_wp2_with (first | (go_at_call 57; refine (IsCircleSet_calls _ _ _ l _ HR.out HC.out hn).mono ?_; rw [H1.out]; rintro e w' ⟨rfl, ⟨nd, rfl⟩⟩) | (go_at_call 75; refine (counts_calls v _ _ l _ (by first | exact HR.out | exact Kd.C_drewN HR.out _) HC.out (Circ_pts HD.out) hp).mono ?_; (rintro e w1 ⟨v1, rfl, ho, hb⟩; have hdl_ := counted_length (v := v) (l := l); generalize hd_ : counted v l = d at ho hdl_; have HDL := Aside0.mk hdl_; have HDD := Aside0.mk hd_; clear hdl_ hd_; have HO := Aside0.mk (Ow_lower ho (below_size (by repeat (first | (with_reducible first | exact HB.out | apply below_alloc | apply pw_below_drewN | apply below_drew1) | exact HB.out)))); have n0_ := Aside0.mk (below_step (by repeat (first | (with_reducible first | exact HB.out | apply below_alloc | apply pw_below_drewN | apply below_drew1) | exact HB.out)) hb); clear HB ho hb; have HB := n0_; clear n0_; obtain ⟨A1, c1, e1_, hc1_, hr1_⟩ := Ow_form HO.out; subst e1_; have HC1 := Aside0.mk hc1_; clear hc1_ hr1_)) | (go_at_call 49; refine (Max_calls _ _ d _ (Ow_rd HO.out) HC1.out (by rw [HDL.out]; omega) (by rw [HDL.out]; omega)).mono ?_; rintro e w' ⟨⟨m, rfl, hm⟩, ⟨nd3, rfl⟩⟩; have HM := Aside0.mk (show decide (m ≤ 1) = tf (AllLe 1 (counted v l)) by rw [HDD.out, ← tf_dec]; exact tf_congr (hm 1)); clear hm))
    repeat (go_quiet (fail); try go_wp2)
    go_ret2
    exact ⟨by rw [HF.out, ← HM.out]; rfl, (by repeat (first | (with_reducible first | exact HB.out | apply below_alloc | apply pw_below_drewN | apply below_drew1) | exact HB.out))⟩
  · have H1 := Aside0.mk (tf_neg hd)
    have HF := Aside0.mk (AroundF_no hd)
    clear hd
    go_enter Try.func45, Try.ntmps45
    go_wp2_with (go_at_call 57; refine (IsCircleSet_calls _ _ _ l _ HR.out HC.out hn).mono ?_; rw [H1.out]; rintro e w' ⟨rfl, ⟨nd, rfl⟩⟩)
    go_ret2
    exact ⟨by rw [HF.out]; rfl, (by repeat (first | (with_reducible first | exact HB.out | apply below_alloc | apply pw_below_drewN | apply below_drew1) | exact HB.out))⟩
end Go.Proofs.Ytflfecocojafbaa.Own.G
