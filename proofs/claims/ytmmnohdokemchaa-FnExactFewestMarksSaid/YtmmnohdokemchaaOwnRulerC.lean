/- Whole rulers, and the distances that a ruler measures or misses: what the reference's and the program's functions return; lists of at most 1048576 numbers. -/
import Derived.Test.YtmmnohdokemchaaOwnRulerB
namespace Go.Proofs.Ytmmnohdokemchaa.Own.G
open Go.RowKit Go.Proofs.YtmmnohdokemchaaW.PrintWords Go.Proofs.YtmmnohdokemchaaW.PrintLast Go.Proofs.YtmmnohdokemchaaW.PrintMore
set_option linter.unusedVariables false
def Whole (t : List Int) : Prop := ∀ i : Nat, 0 < i → i < t.length → rd t (i : Int) ≠ 0
theorem Whole_drop (t : List Int) : (0 : Int) ∈ t.drop 1 ↔ ¬ Whole t := by
  constructor
  · intro h hw
    obtain ⟨i, hi, he⟩ := mem_rd h
    rw [List.length_drop] at hi
    refine hw (1 + i) (by omega) (by omega) ?_
    rw [← he, rd_get (by omega), rd_get (by rw [List.length_drop]; omega), List.getElem_drop]
  · intro h
    refine Classical.byContradiction fun hn => h fun i h0 h1 he => hn ?_
    have : rd (t.drop 1) ((i - 1 : Nat) : Int) = rd t (i : Int) := by
      rw [rd_get (by rw [List.length_drop]; omega), rd_get (by omega), List.getElem_drop]
      congr 1
      omega
    rw [← he, ← this]
    exact rd_mem (by rw [List.length_drop]; omega)
theorem times_len2 (l : List Int) : 1 ≤ (times l).length := by rw [times_length]; omega
set_option maxHeartbeats 1600000 in
theorem ruWhole_calls (A : Option Addr) (c : Nat) (l : List Int) (w : World) (hr : Rd w A l) (hc : l.length ≤ c) (hd : Ruler l) :
    Calls Try.prog 34 #[.slice A l.length c] w fun e w' => e = .returned (.bool (tf (Whole (times l)))) ∧ Below w.heap.size w w' := by
  have HR := Aside0.mk hr
  have HC := Aside0.mk hc
  have HD := Aside0.mk hd
  have hsp := span_le hd
  clear hr hc hd
  have HB := Aside0.mk (Below.refl w.heap.size w)
  go_enter Try.func34, Try.ntmps34
  go_wp2_with (go_at_call 38; refine (ruTimes_calls _ _ l _ HR.out HC.out HD.out).mono ?_; (rintro e w1 ⟨v1, rfl, ho, hb⟩; have hdl_ := times_length l; generalize hd_ : times l = d at ho hdl_; have HDL := Aside0.mk hdl_; have HDD := Aside0.mk hd_; clear hdl_ hd_; have HO := Aside0.mk (Ow_lower ho (below_size (by repeat (first | (with_reducible first | exact HB.out | apply below_alloc | apply pw_below_drewN | apply below_drew1) | exact HB.out)))); have n0_ := Aside0.mk (below_step (by repeat (first | (with_reducible first | exact HB.out | apply below_alloc | apply pw_below_drewN | apply below_drew1) | exact HB.out)) hb); clear HB ho hb; have HB := n0_; clear n0_; obtain ⟨A1, c1, e1_, hc1_, hr1_⟩ := Ow_form HO.out; subst e1_; have HC1 := Aside0.mk hc1_; clear hc1_ hr1_))
  have hdn : d.length ≤ 1048576 := by rw [HDL.out]; omega
  go_loopg [8] d.length (fun g v8 w' => ∃ i : Nat, v8 = .int .i64 i ∧ Aside0 (i + g = d.length) ∧ Aside0 (∀ j : Nat, 0 < j → j < i → rd d (j : Int) ≠ 0) ∧ Aside0 (Ow w' w.heap.size (.slice A1 d.length c1) d) ∧ Aside0 (Below w.heap.size w w'))
  case atStart => exact ⟨0, rfl, ⟨by omega⟩, ⟨fun j h0 h => absurd h (by omega)⟩, ⟨by first | exact HO.out | exact Ow_drewN HO.out _⟩, ⟨(by repeat (first | (with_reducible first | exact HB.out | apply below_alloc | apply pw_below_drewN | apply below_drew1) | exact HB.out))⟩⟩
  case round =>
    clear HO HB
    obtain ⟨i, rfl, HI, HA, HO, HB⟩ := hrel
    by_cases hlt : i < d.length
    · obtain ⟨ad, rfl, hx⟩ := at_nat (Ow_rd HO.out) hlt
      by_cases hi : 0 < i
      · by_cases hq : rd d (i : Int) = 0
        · have HE := Aside0.mk (show tf (Whole (times l)) = false by rw [HDD.out]; exact tf_neg fun h => h i hi hlt hq)
          have ht : (rd d (i : Int) == 0) = true := beq_iff_eq.mpr hq
          clear hq
          (go_wp2; repeat (go_quiet (fail); try go_wp2))
          go_ret
          exact ⟨ret_bool HE.out.symm, (by repeat (first | (with_reducible first | exact HB.out | apply below_alloc | apply pw_below_drewN | apply below_drew1) | exact HB.out))⟩
        · have HQ := Aside0.mk hq
          have ht : (rd d (i : Int) == 0) = false := beq_eq_false_iff_ne.mpr hq
          clear hq
          (go_wp2; repeat (go_quiet (fail); try go_wp2))
          go_roundg (gk - 1)
          case measure => have := HI.out; omega
          case rel => exact ⟨i + 1, by go_num, ⟨by have := HI.out; omega⟩, ⟨fun j h0 hj => by
            rcases Nat.lt_or_ge j i with h | h
            · exact HA.out j h0 h
            · rw [show j = i by omega]; exact HQ.out⟩, ⟨by first | exact HO.out | exact Ow_drewN HO.out _⟩, ⟨(by repeat (first | (with_reducible first | exact HB.out | apply below_alloc | apply pw_below_drewN | apply below_drew1) | exact HB.out))⟩⟩
      · obtain rfl : i = 0 := by omega
        replace hx : wr.cell? ad = some (.int .i64 (rd d 0)) := by simpa [Addr.add] using hx
        (go_wp2; repeat (go_quiet (fail); try go_wp2))
        go_roundg (gk - 1)
        case measure => have := HI.out; omega
        case rel => exact ⟨1, by go_num, ⟨by have := HI.out; omega⟩, ⟨fun j h0 hj => absurd hj (by omega)⟩, ⟨by first | exact HO.out | exact Ow_drewN HO.out _⟩, ⟨(by repeat (first | (with_reducible first | exact HB.out | apply below_alloc | apply pw_below_drewN | apply below_drew1) | exact HB.out))⟩⟩
    · have HE := Aside0.mk (show tf (Whole (times l)) = true by rw [HDD.out]; exact tf_pos fun j h0 hj => HA.out j h0 (by omega))
      (go_wp2; repeat (go_quiet (fail); try go_wp2))
      go_ret
      exact ⟨ret_bool HE.out.symm, (by repeat (first | (with_reducible first | exact HB.out | apply below_alloc | apply pw_below_drewN | apply below_drew1) | exact HB.out))⟩
set_option maxHeartbeats 1600000 in
theorem whole_calls (A : Option Addr) (c : Nat) (l : List Int) (w : World) (hr : Rd w A l) (hc : l.length ≤ c) (hd : Ruler l) :
    Calls Try.prog 25 #[.slice A l.length c] w fun e w' => e = .returned (.bool (tf (Whole (times l)))) ∧ Below w.heap.size w w' := by
  have HR := Aside0.mk hr
  have HC := Aside0.mk hc
  have HD := Aside0.mk hd
  have hsp := span_le hd
  clear hr hc hd
  have HB := Aside0.mk (Below.refl w.heap.size w)
  go_enter Try.func25, Try.ntmps25
  go_wp2_with (first | (go_at_call 32; refine (measured_calls _ _ l _ HR.out HC.out HD.out).mono ?_; (rintro e w1 ⟨v1, rfl, ho, hb⟩; have hdl_ := times_length l; generalize hd_ : times l = d at ho hdl_; have HDL := Aside0.mk hdl_; have HDD := Aside0.mk hd_; clear hdl_ hd_; have HO := Aside0.mk (Ow_lower ho (below_size (by repeat (first | (with_reducible first | exact HB.out | apply below_alloc | apply pw_below_drewN | apply below_drew1) | exact HB.out)))); have n0_ := Aside0.mk (below_step (by repeat (first | (with_reducible first | exact HB.out | apply below_alloc | apply pw_below_drewN | apply below_drew1) | exact HB.out)) hb); clear HB ho hb; have HB := n0_; clear n0_; obtain ⟨A1, c1, e1_, hc1_, hr1_⟩ := Ow_form HO.out; subst e1_; have HC1 := Aside0.mk hc1_; clear hc1_ hr1_); obtain ⟨A', hcut, hrd⟩ := drop_one A1 c1 d (by rw [HDL.out]; omega) HC1.out; have HR' := Aside0.mk (hrd _ (Ow_rd HO.out)); clear hrd; have hdl := List.length_drop (i := 1) (l := d); rw [HDL.out] at hdl; have hwh := Whole_drop d; generalize d.drop 1 = f at *; have HWH := Aside0.mk hwh; have HFL := Aside0.mk hdl; clear hwh hdl; have HCC := Aside0.mk (show f.length ≤ c1 - 1 by have := HFL.out; have := HC1.out; have := HDL.out; omega)) | (go_at_call 33; refine (Contains_calls _ _ f 0 _ HR'.out HCC.out (by rw [HFL.out]; omega)).mono ?_; rintro e w' ⟨rfl, ⟨nd2, rfl⟩⟩))
  have HE := Aside0.mk (show (!decide ((0 : Int) ∈ f)) = tf (Whole (times l)) by
    rw [HDD.out]
    by_cases h : Whole d
    · rw [tf_pos h, decide_eq_false fun k => HWH.out.mp k h]; rfl
    · rw [tf_neg h, decide_eq_true (HWH.out.mpr h)]; rfl)
  go_ret
  exact ⟨ret_bool HE.out, (by repeat (first | (with_reducible first | exact HB.out | apply below_alloc | apply pw_below_drewN | apply below_drew1) | exact HB.out))⟩
noncomputable def WholeF (l : List Int) : Bool × Bool := if tf (Ruler l) = true then (tf (Whole (times l)), true) else (false, false)
theorem WholeF_yes {l : List Int} (h : Ruler l) : WholeF l = (tf (Whole (times l)), true) := if_pos (tf_pos h)
theorem WholeF_no {l : List Int} (h : ¬ Ruler l) : WholeF l = (false, false) := if_neg (by rw [tf_neg h]; decide)
end Go.Proofs.Ytmmnohdokemchaa.Own.G
