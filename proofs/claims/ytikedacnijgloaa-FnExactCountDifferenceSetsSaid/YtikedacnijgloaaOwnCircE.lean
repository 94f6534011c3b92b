/- Differences made as often each: what the reference's ciLambda and the program's even return, and the counts of a circle set; lists of at most 1048576 numbers. -/
import Derived.Test.YtikedacnijgloaaOwnCircC
namespace Go.Proofs.Ytikedacnijgloaa.Own.G
open Go.RowKit Go.Proofs.YtikedacnijgloaaW.PrintWords Go.Proofs.YtikedacnijgloaaW.PrintLast Go.Proofs.YtikedacnijgloaaW.PrintMore
set_option linter.unusedVariables false
def Flat (f : List Int) (a : Int) : Prop := ∀ j : Nat, j < f.length → rd f (j : Int) = a
noncomputable def lamOf (t : List Int) : Int := if tf (Flat (t.drop 1) (rd t 1)) = true then rd t 1 else 0
theorem lamOf_yes {t : List Int} (h : Flat (t.drop 1) (rd t 1)) : lamOf t = rd t 1 := if_pos (tf_pos h)
theorem lamOf_no {t : List Int} (h : ¬ Flat (t.drop 1) (rd t 1)) : lamOf t = 0 := if_neg (by rw [tf_neg h]; decide)
theorem cell_spot {w : World} {a : Addr} {v : Value} (h : w.cell? a = some v) : a = ⟨a.block, a.off, none⟩ := by
  obtain ⟨b, o, s⟩ := a
  cases s with
  | none => rfl
  | some x =>
    unfold World.cell? at h
    split at h
    · simp at h
    · cases h
theorem Rd_at {w : World} {A : Option Addr} {l : List Int} (h : Rd w A l) (hp : 0 < l.length) : ∃ b off, A = some ⟨b, off, none⟩ ∧ ∀ j, j < l.length → w.cell? ⟨b, off + j, none⟩ = some (.int .i64 (l.getD j 0)) := by
  obtain ⟨ad, e, hx⟩ := at_nat h hp
  have hs := cell_spot hx
  have hs2 : ad = ⟨ad.block, ad.off, none⟩ := by
    obtain ⟨b, o, s⟩ := ad
    simp [Addr.add] at hs
    subst hs
    rfl
  refine ⟨ad.block, ad.off, by rw [← hs2]; exact e, fun j hj => ?_⟩
  obtain ⟨ad', e', hx'⟩ := at_nat h hj
  obtain rfl : ad = ad' := by rw [e] at e'; injection e'
  have : (⟨ad.block, ad.off + j, none⟩ : Addr) = ad.add j := by
    obtain ⟨b, o, s⟩ := ad
    injection hs2 with _ _ h3
    subst h3
    simp [Addr.add]
  rw [this, hx']
  simp [rd]
theorem at_second {w : World} {A : Option Addr} {l : List Int} (h : Rd w A l) (hp : 1 < l.length) : ∃ b off, A = some ⟨b, off, none⟩ ∧ w.cell? ⟨b, off + 1, none⟩ = some (.int .i64 (rd l 1)) := by
  obtain ⟨b, off, e, hx⟩ := Rd_at h (by omega)
  exact ⟨b, off, e, hx 1 hp⟩
theorem ret_int' {a b : Int} (h : a = b) : Ending.returned (.int .i64 a) = .returned (.int .i64 b) := by rw [h]
set_option maxHeartbeats 1600000 in
theorem even_calls (A : Option Addr) (c : Nat) (t : List Int) (w : World) (hr : Rd w A t) (hc : t.length ≤ c) (hp : 2 ≤ t.length) (hn : t.length ≤ 1048576) :
    Calls Try.prog 26 #[.slice A t.length c] w fun e w' => e = .returned (.int .i64 (lamOf t)) ∧ Drawn0 w w' := by
  have HR := Aside0.mk hr
  have HC := Aside0.mk hc
  obtain ⟨b0, f0, rfl, hx1⟩ := at_second hr hp
  obtain ⟨A', hcut, hrd⟩ := drop_one _ c t (by omega) hc
  have HR' := Aside0.mk (hrd w hr)
  have hdl : (t.drop 1).length ≤ 1048576 := by rw [List.length_drop]; omega
  have hlp : (1 : Int) < (t.length : Int) := by omega
  clear hrd hr hc
  generalize hdd : t.drop 1 = f at *
  have HDD := Aside0.mk hdd
  clear hdd
  go_enter Try.func26, Try.ntmps26
  (go_wp2; repeat (go_quiet (fail); try go_wp2))
  go_loopg [8] f.length (fun g v8 w' => ∃ i : Nat, v8 = .int .i64 i ∧ Aside0 (i + g = f.length) ∧ Aside0 (∀ j : Nat, j < i → rd f (j : Int) = rd t 1) ∧ Drawn0 w w')
  case atStart => exact ⟨0, rfl, ⟨by omega⟩, ⟨fun j h => absurd h (by omega)⟩, (by repeat (first | exact Drawn0.refl _ | apply Drawn0.step))⟩
  case round =>
    obtain ⟨i, rfl, HI, HA, ⟨m1, rfl⟩⟩ := hrel
    by_cases hlt : i < f.length
    · obtain ⟨ad2, rfl, hx⟩ := at_nat HR'.out hlt
      by_cases hq : rd f (i : Int) = rd t 1
      · have HQ := Aside0.mk hq
        (go_wp2; repeat (go_quiet (fail); try go_wp2))
        go_roundg (gk - 1)
        case measure => have := HI.out; omega
        case rel => exact ⟨i + 1, by go_num, ⟨by have := HI.out; omega⟩, ⟨fun j hj => by
          rcases Nat.lt_or_ge j i with h | h
          · exact HA.out j h
          · rw [show j = i by omega]; exact HQ.out⟩, (by repeat (first | exact Drawn0.refl _ | apply Drawn0.step))⟩
      · have HE := Aside0.mk (show lamOf t = 0 from lamOf_no (by rw [HDD.out]; exact fun h => hq (h i hlt)))
        (go_wp2; repeat (go_quiet (fail); try go_wp2))
        go_ret
        exact ⟨ret_int' HE.out.symm, (by repeat (first | exact Drawn0.refl _ | apply Drawn0.step))⟩
    · have HE := Aside0.mk (show lamOf t = rd t 1 from lamOf_yes (by rw [HDD.out]; exact fun j hj => HA.out j (by omega)))
      (go_wp2; repeat (go_quiet (fail); try go_wp2))
      go_ret
      exact ⟨ret_int' HE.out.symm, (by repeat (first | exact Drawn0.refl _ | apply Drawn0.step))⟩
set_option maxHeartbeats 1600000 in
theorem ciLambda_calls (v : Int) (A : Option Addr) (c : Nat) (ss : List (List Int)) (w : World) (hs : Sets w A ss) (hc : ss.length ≤ c) (hn : ss.length ≤ 1000) (hv : 2 ≤ v ∧ v ≤ 31) (hd : AllPts v ss) :
    Calls Try.prog 23 #[.int .i64 v, .slice A ss.length c] w fun e w' => e = .returned (.int .i64 (lamOf (csum v ss ss.length))) ∧ Below w.heap.size w w' := by
  have HS := Aside0.mk hs
  have HC := Aside0.mk hc
  have HD := Aside0.mk hd
  clear hs hc hd
  have HB := Aside0.mk (Below.refl w.heap.size w)
  go_enter Try.func23, Try.ntmps23
  go_upto_region 2 with (first | (go_at_call 25; refine (ciCounts_calls v _ c ss _ HS.out HC.out hn hv HD.out).mono ?_; (rintro e w1 ⟨v1, rfl, ho, hb⟩; have hdl_ := csum_length v ss ss.length; generalize hd_ : csum v ss ss.length = d at ho hdl_; have HDL := Aside0.mk hdl_; have HDD := Aside0.mk hd_; clear hdl_ hd_; have HO := Aside0.mk (Ow_lower ho (below_size (by repeat (first | (with_reducible first | exact HB.out | apply below_alloc | apply pw_below_drewN | apply below_drew1) | exact HB.out)))); have n0_ := Aside0.mk (below_step (by repeat (first | (with_reducible first | exact HB.out | apply below_alloc | apply pw_below_drewN | apply below_drew1) | exact HB.out)) hb); clear HB ho hb; have HB := n0_; clear n0_; obtain ⟨A1, c1, e1_, hc1_, hr1_⟩ := Ow_form HO.out; subst e1_; have HC1 := Aside0.mk hc1_; clear hc1_ hr1_)))
  obtain ⟨b0, f0, hA, hx1⟩ := at_second (Ow_rd HO.out) (by rw [HDL.out]; omega)
  subst hA
  obtain ⟨A', hcut, hrd⟩ := drop_one _ c1 d (by rw [HDL.out]; omega) HC1.out
  have HR' := Aside0.mk (hrd _ (Ow_rd HO.out))
  have HFL := Aside0.mk (show (d.drop 1).length + 1 = v.toNat by rw [List.length_drop, HDL.out]; omega)
  clear hrd
  generalize hdd : d.drop 1 = f at *
  have HD1 := Aside0.mk hdd
  clear hdd
  have HBw := HB
  clear HB
  obtain ⟨wb, rfl⟩ : ∃ wb : World, wb = w := ⟨_, rfl⟩
  obtain ⟨w, rfl⟩ : ∃ w : World, w = w1 := ⟨_, rfl⟩
  have hdl : f.length ≤ 31 := by have := HFL.out; omega
  have hdl2 : (1 : Int) < (d.length : Int) := by rw [HDL.out]; omega
  (go_wp2; repeat (go_quiet (fail); try go_wp2))
  go_loopg [14] f.length (fun g v14 w' => ∃ i : Nat, v14 = .int .i64 i ∧ Aside0 (i + g = f.length) ∧ Aside0 (∀ j : Nat, j < i → rd f (j : Int) = rd d 1) ∧ Drawn0 w w')
  case atStart => exact ⟨0, rfl, ⟨by omega⟩, ⟨fun j h => absurd h (by omega)⟩, (by repeat (first | exact Drawn0.refl _ | apply Drawn0.step))⟩
  case round =>
    obtain ⟨i, rfl, HI, HA, ⟨m1, rfl⟩⟩ := hrel
    by_cases hlt : i < f.length
    · obtain ⟨ad2, rfl, hx⟩ := at_nat HR'.out hlt
      by_cases hq : rd f (i : Int) = rd d 1
      · have HQ := Aside0.mk hq
        (go_wp2; repeat (go_quiet (fail); try go_wp2))
        go_roundg (gk - 1)
        case measure => have := HI.out; omega
        case rel => exact ⟨i + 1, by go_num, ⟨by have := HI.out; omega⟩, ⟨fun j hj => by
          rcases Nat.lt_or_ge j i with h | h
          · exact HA.out j h
          · rw [show j = i by omega]; exact HQ.out⟩, (by repeat (first | exact Drawn0.refl _ | apply Drawn0.step))⟩
      · have HE := Aside0.mk (show lamOf d = 0 from lamOf_no (by rw [HD1.out]; exact fun h => hq (h i hlt)))
        (go_wp2; repeat (go_quiet (fail); try go_wp2))
        go_ret
        exact ⟨ret_int' (by rw [HDD.out]; exact HE.out.symm), below_drawn HBw.out (by repeat (first | exact Drawn0.refl _ | apply Drawn0.step))⟩
    · have HE := Aside0.mk (show lamOf d = rd d 1 from lamOf_yes (by rw [HD1.out]; exact fun j hj => HA.out j (by omega)))
      (go_wp2; repeat (go_quiet (fail); try go_wp2))
      go_ret
      exact ⟨ret_int' (by rw [HDD.out]; exact HE.out.symm), below_drawn HBw.out (by repeat (first | exact Drawn0.refl _ | apply Drawn0.step))⟩
noncomputable def DiffCountsF (v : Int) (l : List Int) : List Int × Bool := if tf (Circ v l) = true then (counted v l, true) else ([], false)
noncomputable def IsDiffF (v : Int) (l : List Int) : Bool × Bool := if tf (Circ v l) = true then (decide (0 < lamOf (counted v l)), true) else (false, false)
noncomputable def LambdaF (v : Int) (l : List Int) : Int × Bool := if tf (Circ v l) = true then (lamOf (counted v l), decide (0 < lamOf (counted v l))) else (0, false)
theorem DiffCountsF_yes {v : Int} {l : List Int} (h : Circ v l) : DiffCountsF v l = (counted v l, true) := if_pos (tf_pos h)
theorem DiffCountsF_no {v : Int} {l : List Int} (h : ¬ Circ v l) : DiffCountsF v l = ([], false) := if_neg (by rw [tf_neg h]; decide)
theorem IsDiffF_yes {v : Int} {l : List Int} (h : Circ v l) : IsDiffF v l = (decide (0 < lamOf (counted v l)), true) := if_pos (tf_pos h)
theorem IsDiffF_no {v : Int} {l : List Int} (h : ¬ Circ v l) : IsDiffF v l = (false, false) := if_neg (by rw [tf_neg h]; decide)
theorem LambdaF_yes {v : Int} {l : List Int} (h : Circ v l) : LambdaF v l = (lamOf (counted v l), decide (0 < lamOf (counted v l))) := if_pos (tf_pos h)
theorem LambdaF_no {v : Int} {l : List Int} (h : ¬ Circ v l) : LambdaF v l = (0, false) := if_neg (by rw [tf_neg h]; decide)
theorem DiffCountsF_len (v : Int) (l : List Int) (hn : l.length ≤ 1048576) : (DiffCountsF v l).1.length ≤ 1048576 := by
  by_cases h : Circ v l
  · rw [DiffCountsF_yes h]; show (counted _ _).length ≤ _; rw [counted_length]; have := h.1.1; omega
  · rw [DiffCountsF_no h]; simp
end Go.Proofs.Ytikedacnijgloaa.Own.G
