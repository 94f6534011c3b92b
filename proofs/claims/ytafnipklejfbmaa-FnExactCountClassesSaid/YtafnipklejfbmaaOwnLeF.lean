/- The classes of Costas dots: what the reference's and the program's CountClasses return; no condition. -/
import Derived.Test.YtafnipklejfbmaaOwnLeE
import Derived.Test.YtafnipklejfbmaaOwnCostG
namespace Go.Proofs.Ytafnipklejfbmaa.Own.G
open Go.RowKit Go.Proofs.YtafnipklejfbmaaW.PrintWords Go.Proofs.YtafnipklejfbmaaW.PrintLast Go.Proofs.YtafnipklejfbmaaW.PrintMore
set_option linter.unusedVariables false
set_option maxHeartbeats 1600000 in
theorem l1Same_calls (A : Option Addr) (c : Nat) (q : List Int) (A' : Option Addr) (c' : Nat) (b : List Int) (w : World) (hr : Rd w A q) (hc : q.length ≤ c) (hr' : Rd w A' b) (hc' : b.length ≤ c') (hl : q.length = b.length) (hn : q.length ≤ 1048576) :
    Calls Try.prog 29 #[.slice A q.length c, .slice A' b.length c'] w fun e w' => e = .returned (.bool (decide (q = b))) ∧ Drawn0 w w' := by
  have HR := Aside0.mk hr
  have HR' := Aside0.mk hr'
  have HC := Aside0.mk hc
  have HC' := Aside0.mk hc'
  have HL := Aside0.mk hl
  have hbn : b.length ≤ 1048576 := by omega
  have hne0 : ((q.length : Int) != (b.length : Int)) = false := by rw [hl]; simp
  clear hr hc hr' hc' hl
  go_enter Try.func29, Try.ntmps29
  (go_wp2; repeat (go_quiet (fail); try go_wp2))
  go_loopg [13] q.length (fun g v13 w' => ∃ i : Nat, v13 = .int .i64 i ∧ Aside0 (i + g = q.length) ∧ Aside0 (∀ j : Nat, j < i → rd q (j : Int) = rd b (j : Int)) ∧ Drawn0 w w')
  case atStart => exact ⟨0, rfl, ⟨by omega⟩, ⟨fun j h => absurd h (by omega)⟩, (by repeat (first | exact Drawn0.refl _ | apply Drawn0.step))⟩
  case round =>
    obtain ⟨i, rfl, HI, HA, ⟨m1, rfl⟩⟩ := hrel
    by_cases hlt : i < q.length
    · have hlt2 : i < b.length := by rw [← HL.out]; exact hlt
      obtain ⟨ad, rfl, hx⟩ := at_nat HR.out hlt
      obtain ⟨ad2, rfl, hx2⟩ := at_nat HR'.out hlt2
      by_cases hq : rd q (i : Int) = rd b (i : Int)
      · have HQ := Aside0.mk hq
        have hne : (rd q (i : Int) != rd b (i : Int)) = false := by rw [hq]; simp
        clear hq
        (go_wp2; repeat (go_quiet (fail); try go_wp2))
        go_roundg (gk - 1)
        case measure => have := HI.out; omega
        case rel => exact ⟨i + 1, by go_num, ⟨by have := HI.out; omega⟩, ⟨fun j hj => by
          rcases Nat.lt_or_ge j i with h | h
          · exact HA.out j h
          · rw [show j = i by omega]; exact HQ.out⟩, (by repeat (first | exact Drawn0.refl _ | apply Drawn0.step))⟩
      · have HS := Aside0.mk (show decide (q = b) = false from decide_eq_false (fun h => hq (by rw [h])))
        have hne : (rd q (i : Int) != rd b (i : Int)) = true := bne_iff_ne.mpr hq
        clear hq
        (go_wp2; repeat (go_quiet (fail); try go_wp2))
        go_ret
        exact ⟨ret_bool HS.out.symm, (by repeat (first | exact Drawn0.refl _ | apply Drawn0.step))⟩
    · have HS := Aside0.mk (show decide (q = b) = true from decide_eq_true (row_ext HL.out (fun j hj => HA.out j (by omega))))
      (go_wp2; repeat (go_quiet (fail); try go_wp2))
      go_ret
      exact ⟨ret_bool HS.out.symm, (by repeat (first | exact Drawn0.refl _ | apply Drawn0.step))⟩
set_option maxHeartbeats 1600000 in
theorem Equal_calls (A : Option Addr) (c : Nat) (q : List Int) (A' : Option Addr) (c' : Nat) (b : List Int) (w : World) (hr : Rd w A q) (hc : q.length ≤ c) (hr' : Rd w A' b) (hc' : b.length ≤ c') (hl : q.length = b.length) (hn : q.length ≤ 1048576) :
    Calls Try.prog 31 #[.slice A q.length c, .slice A' b.length c'] w fun e w' => e = .returned (.bool (decide (q = b))) ∧ Drawn0 w w' := by
  have HR := Aside0.mk hr
  have HR' := Aside0.mk hr'
  have HC := Aside0.mk hc
  have HC' := Aside0.mk hc'
  have HL := Aside0.mk hl
  have hbn : b.length ≤ 1048576 := by omega
  have hne0 : ((q.length : Int) != (b.length : Int)) = false := by rw [hl]; simp
  clear hr hc hr' hc' hl
  go_enter Try.func31, Try.ntmps31
  (go_wp2; repeat (go_quiet (fail); try go_wp2))
  go_loopg [13] q.length (fun g v13 w' => ∃ i : Nat, v13 = .int .i64 i ∧ Aside0 (i + g = q.length) ∧ Aside0 (∀ j : Nat, j < i → rd q (j : Int) = rd b (j : Int)) ∧ Drawn0 w w')
  case atStart => exact ⟨0, rfl, ⟨by omega⟩, ⟨fun j h => absurd h (by omega)⟩, (by repeat (first | exact Drawn0.refl _ | apply Drawn0.step))⟩
  case round =>
    obtain ⟨i, rfl, HI, HA, ⟨m1, rfl⟩⟩ := hrel
    by_cases hlt : i < q.length
    · have hlt2 : i < b.length := by rw [← HL.out]; exact hlt
      obtain ⟨ad, rfl, hx⟩ := at_nat HR.out hlt
      obtain ⟨ad2, rfl, hx2⟩ := at_nat HR'.out hlt2
      by_cases hq : rd q (i : Int) = rd b (i : Int)
      · have HQ := Aside0.mk hq
        have hne : (rd q (i : Int) != rd b (i : Int)) = false := by rw [hq]; simp
        clear hq
        (go_wp2; repeat (go_quiet (fail); try go_wp2))
        go_roundg (gk - 1)
        case measure => have := HI.out; omega
        case rel => exact ⟨i + 1, by go_num, ⟨by have := HI.out; omega⟩, ⟨fun j hj => by
          rcases Nat.lt_or_ge j i with h | h
          · exact HA.out j h
          · rw [show j = i by omega]; exact HQ.out⟩, (by repeat (first | exact Drawn0.refl _ | apply Drawn0.step))⟩
      · have HS := Aside0.mk (show decide (q = b) = false from decide_eq_false (fun h => hq (by rw [h])))
        have hne : (rd q (i : Int) != rd b (i : Int)) = true := bne_iff_ne.mpr hq
        clear hq
        (go_wp2; repeat (go_quiet (fail); try go_wp2))
        go_ret
        exact ⟨ret_bool HS.out.symm, (by repeat (first | exact Drawn0.refl _ | apply Drawn0.step))⟩
    · have HS := Aside0.mk (show decide (q = b) = true from decide_eq_true (row_ext HL.out (fun j hj => HA.out j (by omega))))
      (go_wp2; repeat (go_quiet (fail); try go_wp2))
      go_ret
      exact ⟨ret_bool HS.out.symm, (by repeat (first | exact Drawn0.refl _ | apply Drawn0.step))⟩
def cls (L : List (List Int)) : Nat := L.countP (fun p => decide (leastI p = p))
def ClassF (a : Int) : Int × Bool := if 1 ≤ a ∧ a ≤ 7 then ((cls (allR a.toNat) : Int), true) else (0, false)
theorem ClassF_in {a : Int} (h : 1 ≤ a ∧ a ≤ 7) : ClassF a = ((cls (allR a.toNat) : Int), true) := if_pos h
theorem ClassF_out {a : Int} (h : ¬ (1 ≤ a ∧ a ≤ 7)) : ClassF a = (0, false) := if_neg h
theorem cls_take {L : List (List Int)} {i : Nat} (h : i < L.length) : cls (L.take (i + 1)) = cls (L.take i) + if leastI (L.getD i []) = L.getD i [] then 1 else 0 := by
  have e : L.take (i + 1) = L.take i ++ [L.getD i []] := by
    rw [List.take_add_one, List.getElem?_eq_getElem h, List.getD_eq_getElem?_getD, List.getElem?_eq_getElem h]; rfl
  rw [e, cls, List.countP_append]
  show _ + List.countP _ [_] = _
  rw [List.countP_singleton]
  by_cases h2 : leastI (L.getD i []) = L.getD i []
  · rw [if_pos h2, if_pos (decide_eq_true h2)]; rfl
  · rw [if_neg h2, if_neg (by rw [decide_eq_false h2]; decide)]; rfl
theorem cls_le (L : List (List Int)) (i : Nat) : cls (L.take i) ≤ L.length := Nat.le_trans List.countP_le_length (by rw [List.length_take]; omega)
theorem allR_dots {n : Nat} (hn : 1 ≤ n ∧ n ≤ 7) {i : Nat} (hi : i < (allR n).length) : Dots ((allR n).getD i []) := by
  have hm : (allR n).getD i [] ∈ allR n := by rw [List.getD_eq_getElem?_getD, List.getElem?_eq_getElem hi]; exact List.getElem_mem hi
  generalize (allR n).getD i [] = p at hm
  obtain ⟨⟨hnd, hr⟩, hl⟩ := lv_fine n n [] (Fine_nil n) p hm
  have hl : p.length = n := by simpa using hl
  refine Dots_of (by omega) (fun j hj => by rw [hl]; exact hr _ (rd_mem hj)) (fun i j hij hj => ?_)
  rw [List.Nodup, List.pairwise_iff_getElem] at hnd
  rw [rd_get (by omega), rd_get hj]
  exact hnd i j _ _ hij
set_option maxRecDepth 8000 in
set_option maxHeartbeats 3200000 in
theorem specClasses_calls (a : Int) (w : World) (ha : W64 a) :
    Calls Try.prog 20 #[.int .i64 a] w fun e w' => e = .returned (.tuple #[.int .i64 (ClassF a).1, .bool (ClassF a).2]) ∧ Below w.heap.size w w' := by
  have HB := Aside0.mk (Below.refl w.heap.size w)
  by_cases h : 1 ≤ a ∧ a ≤ 7
  · have HT := Aside0.mk (within_yes h)
    obtain ⟨n, rfl⟩ : ∃ n : Nat, (n : Int) = a := ⟨a.toNat, by omega⟩
    have HC := Aside0.mk (doAll_calls n n (by omega))
    have HD := Aside0.mk (show dF n n [] 1073741824 = allR (n : Int).toNat from dF_all (n := n) (by omega))
    have HF := Aside0.mk (ClassF_in h)
    have HLN := Aside0.mk (allR_len (n := (n : Int).toNat) (by omega))
    have HDS := Aside0.mk (fun i hi => allR_dots (n := (n : Int).toNat) (by omega) (i := i) hi)
    have HLW := Aside0.mk (show ∀ i : Nat, i < (allR (n : Int).toNat).length → ((allR (n : Int).toNat).getD i []).length ≤ 12 from fun i hi => (HDS.out i hi).1.2)
    generalize allR (n : Int).toNat = L at HF HLN HDS HLW HD
    go_enter Try.func20, Try.ntmps20
    go_wp2_with (first | (go_at_call 24; refine (in_calls _ _ _ _).mono ?_; rw [HT.out]; rintro e w' ⟨rfl, ⟨nd, rfl⟩⟩) | (go_at_call 25; refine (HC.out none 0 [] _ _ (Kd.C_nil _ _) (Nat.le_refl _) (by simp) (by omega) (by omega) (fun x hx => by cases hx)).mono ?_; rw [HD.out]; rintro e w1 ⟨v, rfl, ho, hb⟩; obtain ⟨A4, c4, rfl, hc4, hf4⟩ := OwN_fr ho; have HR4 := Aside0.mk (show RdS w1 A4 L from Kd.F_now hf4); have n0_ := Aside0.mk (below_step (by repeat (first | (with_reducible first | exact HB.out | apply below_alloc | apply pw_below_drewN | apply below_drew1) | exact HB.out)) hb); clear HB ho hb hf4; have HB := n0_; clear n0_))
    repeat (go_quiet (fail); try go_wp2_with fail)
    have hLn : L.length ≤ 823543 := HLN.out
    go_loopg [4, 13] L.length (fun g vc vi w' => ∃ i : Nat, vi = .int .i64 i ∧ vc = .int .i64 (cls (L.take i) : Int) ∧ Aside0 (i + g = L.length) ∧ Aside0 (RdS w' A4 L) ∧ Aside0 (Below w.heap.size w w'))
    case atStart => exact ⟨0, rfl, rfl, ⟨by omega⟩, ⟨Kd.C_below HR4.out (by first | exact Below.refl _ _ | exact pw_below_drewN (Below.refl _ _) _)⟩, ⟨(by repeat (first | (with_reducible first | exact HB.out | apply below_alloc | apply pw_below_drewN | apply below_drew1) | exact HB.out))⟩⟩
    case round =>
      clear HB HR4
      obtain ⟨i, rfl, rfl, HI, HR4, HB0⟩ := hrel
      have hcl := cls_le L i
      have HB := Aside0.mk (Below.refl wr.heap.size wr)
      by_cases hlt : i < L.length
      · obtain ⟨ad, A0, c0, rfl, hx, hc0, hr0⟩ := row_at HR4.out hlt
        have HR0 := Aside0.mk hr0
        have HC0 := Aside0.mk hc0
        have HDP := Aside0.mk (HDS.out i hlt)
        have HTK := Aside0.mk (cls_take hlt)
        have hp12 := HLW.out i hlt
        generalize L.getD i [] = p at hx HR0 HC0 HDP HTK hp12
        have HLP0 := leastI_length p
        obtain ⟨lp, hlp⟩ : ∃ lp, leastI p = lp := ⟨_, rfl⟩
        have HE0 := (least_eq HDP.out).trans hlp
        have HTK := Aside0.mk (hlp ▸ HTK.out)
        rw [hlp] at HLP0
        have HLP := Aside0.mk HLP0
        have HE := Aside0.mk HE0
        clear hr0 hc0 HLP0 HE0 hlp
        by_cases hq : lp = p
        · have HQ := Aside0.mk (decide_eq_true hq)
          have HT2 := Aside0.mk (show ((cls (L.take i) : Nat) : Int) + 1 = ((cls (L.take (i + 1)) : Nat) : Int) by rw [HTK.out, if_pos hq]; omega)
          clear hq
          go_wp2_with (first | (go_at_call 30; refine (doLeast_calls A0 c0 p _ (Kd.C_below HR0.out (by repeat (first | (with_reducible first | exact HB.out | apply below_alloc | apply pw_below_drewN | apply below_drew1) | exact HB.out))) HC0.out HDP.out).mono ?_; rw [HE.out]; rintro e w2 ⟨v2, rfl, ho, hb⟩; obtain ⟨A2, c2, rfl, hc2, hr2⟩ := Ow_form ho; have HR2 := Aside0.mk hr2; have HC2 := Aside0.mk hc2; have HR0B := Aside0.mk (Kd.C_below (Kd.C_below HR0.out (by repeat (first | (with_reducible first | exact HB.out | apply below_alloc | apply pw_below_drewN | apply below_drew1) | exact HB.out))) hb); have n0_ := Aside0.mk (below_step (by repeat (first | (with_reducible first | exact HB.out | apply below_alloc | apply pw_below_drewN | apply below_drew1) | exact HB.out)) hb); clear HB ho hb hr2 hc2; have HB := n0_; clear n0_) | (go_at_call 29; refine (l1Same_calls A2 c2 lp A0 c0 p _ (Kd.C_below HR2.out (by first | exact Below.refl _ _ | exact pw_below_drewN (Below.refl _ _) _)) HC2.out (Kd.C_below HR0B.out (by first | exact Below.refl _ _ | exact pw_below_drewN (Below.refl _ _) _)) HC0.out HLP.out (by rw [HLP.out]; omega)).mono ?_; rw [HQ.out]; rintro e w' ⟨rfl, ⟨nd, rfl⟩⟩))
          repeat (go_quiet (fail); try go_wp2)
          go_roundg (gk - 1)
          case measure => have := HI.out; omega
          case rel => exact ⟨i + 1, by go_num, by first | rw [← HT2.out] | (rw [← HT2.out]; go_num) | (have h := HT2.out; go_num), ⟨by have := HI.out; omega⟩, ⟨Kd.C_below HR4.out (by repeat (first | (with_reducible first | exact HB.out | apply below_alloc | apply pw_below_drewN | apply below_drew1) | exact HB.out))⟩, ⟨below_step HB0.out (by repeat (first | (with_reducible first | exact HB.out | apply below_alloc | apply pw_below_drewN | apply below_drew1) | exact HB.out))⟩⟩
        · have HQ := Aside0.mk (decide_eq_false hq)
          have HT2 := Aside0.mk (show cls (L.take (i + 1)) = cls (L.take i) by rw [HTK.out, if_neg hq]; rfl)
          clear hq
          go_wp2_with (first | (go_at_call 30; refine (doLeast_calls A0 c0 p _ (Kd.C_below HR0.out (by repeat (first | (with_reducible first | exact HB.out | apply below_alloc | apply pw_below_drewN | apply below_drew1) | exact HB.out))) HC0.out HDP.out).mono ?_; rw [HE.out]; rintro e w2 ⟨v2, rfl, ho, hb⟩; obtain ⟨A2, c2, rfl, hc2, hr2⟩ := Ow_form ho; have HR2 := Aside0.mk hr2; have HC2 := Aside0.mk hc2; have HR0B := Aside0.mk (Kd.C_below (Kd.C_below HR0.out (by repeat (first | (with_reducible first | exact HB.out | apply below_alloc | apply pw_below_drewN | apply below_drew1) | exact HB.out))) hb); have n0_ := Aside0.mk (below_step (by repeat (first | (with_reducible first | exact HB.out | apply below_alloc | apply pw_below_drewN | apply below_drew1) | exact HB.out)) hb); clear HB ho hb hr2 hc2; have HB := n0_; clear n0_) | (go_at_call 29; refine (l1Same_calls A2 c2 lp A0 c0 p _ (Kd.C_below HR2.out (by first | exact Below.refl _ _ | exact pw_below_drewN (Below.refl _ _) _)) HC2.out (Kd.C_below HR0B.out (by first | exact Below.refl _ _ | exact pw_below_drewN (Below.refl _ _) _)) HC0.out HLP.out (by rw [HLP.out]; omega)).mono ?_; rw [HQ.out]; rintro e w' ⟨rfl, ⟨nd, rfl⟩⟩))
          repeat (go_quiet (fail); try go_wp2)
          go_roundg (gk - 1)
          case measure => have := HI.out; omega
          case rel => exact ⟨i + 1, by go_num, by rw [HT2.out], ⟨by have := HI.out; omega⟩, ⟨Kd.C_below HR4.out (by repeat (first | (with_reducible first | exact HB.out | apply below_alloc | apply pw_below_drewN | apply below_drew1) | exact HB.out))⟩, ⟨below_step HB0.out (by repeat (first | (with_reducible first | exact HB.out | apply below_alloc | apply pw_below_drewN | apply below_drew1) | exact HB.out))⟩⟩
      · have HE := Aside0.mk (show cls (L.take i) = cls L by rw [List.take_of_length_le (by omega)])
        go_wp2_with fail
        repeat (go_quiet (fail); try go_wp2_with fail)
        go_ret2
        exact ⟨by rw [HF.out, ← HE.out]; rfl, below_step HB0.out (by repeat (first | (with_reducible first | exact HB.out | apply below_alloc | apply pw_below_drewN | apply below_drew1) | exact HB.out))⟩
  · have HF := Aside0.mk (ClassF_out h)
    have HT := Aside0.mk (within_no h)
    go_enter Try.func20, Try.ntmps20
    go_wp2_with ((go_at_call 24; refine (in_calls _ _ _ _).mono ?_; rw [HT.out]; rintro e w' ⟨rfl, ⟨nd, rfl⟩⟩))
    repeat (go_quiet (fail); try go_wp2_with fail)
    go_ret2
    exact ⟨by rw [HF.out]; rfl, (by repeat (first | (with_reducible first | exact HB.out | apply below_alloc | apply pw_below_drewN | apply below_drew1) | exact HB.out))⟩
set_option maxRecDepth 8000 in
set_option maxHeartbeats 3200000 in
theorem implClasses_calls (a : Int) (w : World) (ha : W64 a) :
    Calls Try.prog 21 #[.int .i64 a] w fun e w' => e = .returned (.tuple #[.int .i64 (ClassF a).1, .bool (ClassF a).2]) ∧ Below w.heap.size w w' := by
  have HB := Aside0.mk (Below.refl w.heap.size w)
  by_cases h : 1 ≤ a ∧ a ≤ 7
  · have HA := Aside0.mk (AllF_in h)
    have HF := Aside0.mk (ClassF_in h)
    have HLN := Aside0.mk (allR_len (n := a.toNat) (by omega))
    have HDS := Aside0.mk (fun i hi => allR_dots (n := a.toNat) (by omega) (i := i) hi)
    have HLW := Aside0.mk (show ∀ i : Nat, i < (allR a.toNat).length → ((allR a.toNat).getD i []).length ≤ 12 from fun i hi => (HDS.out i hi).1.2)
    generalize allR a.toNat = L at HF HLN HDS HLW HA
    go_enter Try.func21, Try.ntmps21
    go_wp2_with ((go_at_call 11; refine (implAllCostas_calls a _ ha).mono ?_; rw [HA.out]; rintro e w1 ⟨v, rfl, ho, hb⟩; obtain ⟨A4, c4, rfl, hc4, hf4⟩ := OwS_form ho; have HR4 := Aside0.mk (show RdS w1 A4 L from hf4); have n0_ := Aside0.mk (below_step (by repeat (first | (with_reducible first | exact HB.out | apply below_alloc | apply pw_below_drewN | apply below_drew1) | exact HB.out)) hb); clear HB ho hb hf4; have HB := n0_; clear n0_))
    repeat (go_quiet (fail); try go_wp2_with fail)
    have hLn : L.length ≤ 823543 := HLN.out
    go_loopg [6, 18] L.length (fun g vc vi w' => ∃ i : Nat, vi = .int .i64 i ∧ vc = .int .i64 (cls (L.take i) : Int) ∧ Aside0 (i + g = L.length) ∧ Aside0 (RdS w' A4 L) ∧ Aside0 (Below w.heap.size w w'))
    case atStart => exact ⟨0, rfl, rfl, ⟨by omega⟩, ⟨Kd.C_below HR4.out (by first | exact Below.refl _ _ | exact pw_below_drewN (Below.refl _ _) _)⟩, ⟨(by repeat (first | (with_reducible first | exact HB.out | apply below_alloc | apply pw_below_drewN | apply below_drew1) | exact HB.out))⟩⟩
    case round =>
      clear HB HR4
      obtain ⟨i, rfl, rfl, HI, HR4, HB0⟩ := hrel
      have hcl := cls_le L i
      have HB := Aside0.mk (Below.refl wr.heap.size wr)
      by_cases hlt : i < L.length
      · obtain ⟨ad, A0, c0, rfl, hx, hc0, hr0⟩ := row_at HR4.out hlt
        have HR0 := Aside0.mk hr0
        have HC0 := Aside0.mk hc0
        have HDP := Aside0.mk (HDS.out i hlt)
        have HTK := Aside0.mk (cls_take hlt)
        have hp12 := HLW.out i hlt
        generalize L.getD i [] = p at hx HR0 HC0 HDP HTK hp12
        have HLP0 := leastI_length p
        obtain ⟨lp, hlp⟩ : ∃ lp, leastI p = lp := ⟨_, rfl⟩
        have HE0 := hlp
        have HTK := Aside0.mk (hlp ▸ HTK.out)
        rw [hlp] at HLP0
        have HLP := Aside0.mk HLP0
        have HE := Aside0.mk HE0
        clear hr0 hc0 HLP0 HE0 hlp
        by_cases hq : lp = p
        · have HQ := Aside0.mk (decide_eq_true hq)
          have HT2 := Aside0.mk (show ((cls (L.take i) : Nat) : Int) + 1 = ((cls (L.take (i + 1)) : Nat) : Int) by rw [HTK.out, if_pos hq]; omega)
          clear hq
          go_wp2_with (first | (go_at_call 32; refine (least_calls A0 c0 p _ (Kd.C_below HR0.out (by repeat (first | (with_reducible first | exact HB.out | apply below_alloc | apply pw_below_drewN | apply below_drew1) | exact HB.out))) HC0.out HDP.out).mono ?_; rw [HE.out]; rintro e w2 ⟨v2, rfl, ⟨A2, c2, rfl, hc2, hr2⟩, hb⟩; have HR2 := Aside0.mk hr2; have HC2 := Aside0.mk hc2; have HR0B := Aside0.mk (Kd.C_below (Kd.C_below HR0.out (by repeat (first | (with_reducible first | exact HB.out | apply below_alloc | apply pw_below_drewN | apply below_drew1) | exact HB.out))) hb); have n0_ := Aside0.mk (below_step (by repeat (first | (with_reducible first | exact HB.out | apply below_alloc | apply pw_below_drewN | apply below_drew1) | exact HB.out)) hb); clear HB hb hr2 hc2; have HB := n0_; clear n0_) | (go_at_call 31; refine (Equal_calls A0 c0 p A2 c2 lp _ (Kd.C_below HR0B.out (by first | exact Below.refl _ _ | exact pw_below_drewN (Below.refl _ _) _)) HC0.out (Kd.C_below HR2.out (by first | exact Below.refl _ _ | exact pw_below_drewN (Below.refl _ _) _)) HC2.out HLP.out.symm (by omega)).mono ?_; rw [show decide (p = lp) = decide (lp = p) from decide_eq_decide.mpr ⟨Eq.symm, Eq.symm⟩, HQ.out]; rintro e w' ⟨rfl, ⟨nd, rfl⟩⟩))
          repeat (go_quiet (fail); try go_wp2)
          go_roundg (gk - 1)
          case measure => have := HI.out; omega
          case rel => exact ⟨i + 1, by go_num, by first | rw [← HT2.out] | (rw [← HT2.out]; go_num) | (have h := HT2.out; go_num), ⟨by have := HI.out; omega⟩, ⟨Kd.C_below HR4.out (by repeat (first | (with_reducible first | exact HB.out | apply below_alloc | apply pw_below_drewN | apply below_drew1) | exact HB.out))⟩, ⟨below_step HB0.out (by repeat (first | (with_reducible first | exact HB.out | apply below_alloc | apply pw_below_drewN | apply below_drew1) | exact HB.out))⟩⟩
        · have HQ := Aside0.mk (decide_eq_false hq)
          have HT2 := Aside0.mk (show cls (L.take (i + 1)) = cls (L.take i) by rw [HTK.out, if_neg hq]; rfl)
          clear hq
          go_wp2_with (first | (go_at_call 32; refine (least_calls A0 c0 p _ (Kd.C_below HR0.out (by repeat (first | (with_reducible first | exact HB.out | apply below_alloc | apply pw_below_drewN | apply below_drew1) | exact HB.out))) HC0.out HDP.out).mono ?_; rw [HE.out]; rintro e w2 ⟨v2, rfl, ⟨A2, c2, rfl, hc2, hr2⟩, hb⟩; have HR2 := Aside0.mk hr2; have HC2 := Aside0.mk hc2; have HR0B := Aside0.mk (Kd.C_below (Kd.C_below HR0.out (by repeat (first | (with_reducible first | exact HB.out | apply below_alloc | apply pw_below_drewN | apply below_drew1) | exact HB.out))) hb); have n0_ := Aside0.mk (below_step (by repeat (first | (with_reducible first | exact HB.out | apply below_alloc | apply pw_below_drewN | apply below_drew1) | exact HB.out)) hb); clear HB hb hr2 hc2; have HB := n0_; clear n0_) | (go_at_call 31; refine (Equal_calls A0 c0 p A2 c2 lp _ (Kd.C_below HR0B.out (by first | exact Below.refl _ _ | exact pw_below_drewN (Below.refl _ _) _)) HC0.out (Kd.C_below HR2.out (by first | exact Below.refl _ _ | exact pw_below_drewN (Below.refl _ _) _)) HC2.out HLP.out.symm (by omega)).mono ?_; rw [show decide (p = lp) = decide (lp = p) from decide_eq_decide.mpr ⟨Eq.symm, Eq.symm⟩, HQ.out]; rintro e w' ⟨rfl, ⟨nd, rfl⟩⟩))
          repeat (go_quiet (fail); try go_wp2)
          go_roundg (gk - 1)
          case measure => have := HI.out; omega
          case rel => exact ⟨i + 1, by go_num, by rw [HT2.out], ⟨by have := HI.out; omega⟩, ⟨Kd.C_below HR4.out (by repeat (first | (with_reducible first | exact HB.out | apply below_alloc | apply pw_below_drewN | apply below_drew1) | exact HB.out))⟩, ⟨below_step HB0.out (by repeat (first | (with_reducible first | exact HB.out | apply below_alloc | apply pw_below_drewN | apply below_drew1) | exact HB.out))⟩⟩
      · have HE := Aside0.mk (show cls (L.take i) = cls L by rw [List.take_of_length_le (by omega)])
        go_wp2_with fail
        repeat (go_quiet (fail); try go_wp2_with fail)
        go_ret2
        exact ⟨by rw [HF.out, ← HE.out]; rfl, below_step HB0.out (by repeat (first | (with_reducible first | exact HB.out | apply below_alloc | apply pw_below_drewN | apply below_drew1) | exact HB.out))⟩
  · have HF := Aside0.mk (ClassF_out h)
    have HA := Aside0.mk (AllF_out h)
    go_enter Try.func21, Try.ntmps21
    go_wp2_with ((go_at_call 11; refine (implAllCostas_calls a _ ha).mono ?_; rw [HA.out]; rintro e w1 ⟨v, rfl, ho, hb⟩; have n0_ := Aside0.mk (below_step (by repeat (first | (with_reducible first | exact HB.out | apply below_alloc | apply pw_below_drewN | apply below_drew1) | exact HB.out)) hb); clear HB ho hb; have HB := n0_; clear n0_))
    repeat (go_quiet (fail); try go_wp2_with fail)
    go_ret2
    exact ⟨by rw [HF.out]; rfl, (by repeat (first | (with_reducible first | exact HB.out | apply below_alloc | apply pw_below_drewN | apply below_drew1) | exact HB.out))⟩
end Go.Proofs.Ytafnipklejfbmaa.Own.G
