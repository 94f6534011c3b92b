/- The least of eight images of dots: what the reference's doLeast and the program's least return; dots. -/
import Derived.Test.YtafnipklejfbmaaOwnLeB
namespace Go.Proofs.Ytafnipklejfbmaa.Own.G
open Go.RowKit Go.Proofs.YtafnipklejfbmaaW.PrintWords Go.Proofs.YtafnipklejfbmaaW.PrintLast Go.Proofs.YtafnipklejfbmaaW.PrintMore
set_option linter.unusedVariables false
theorem pick_yes {x b : List Int} (h : lexB x b = true) : pick x b = x := if_pos h
theorem pick_no {x b : List Int} (h : lexB x b = false) : pick x b = b := if_neg (by rw [h]; decide)
theorem leS_succ (g : Nat) (q b : List Int) : leS (g + 1) q b = leS g (turnOf q) (pick q b) := rfl
theorem leI_succ (g : Nat) (q b : List Int) : leI (g + 1) q b = leI g (turnOf q) (pick (turnOf q).reverse (pick (turnOf q) b)) := rfl
set_option maxRecDepth 8000 in
set_option maxHeartbeats 6400000 in
theorem doLeast_calls (A : Option Addr) (c : Nat) (p : List Int) (w : World) (hr : Rd w A p) (hc : p.length ≤ c) (hd : Dots p) :
    Calls Try.prog 30 #[.slice A p.length c] w fun e w' => ∃ v, e = .returned v ∧ Ow w' w.heap.size v (leastS p) ∧ Below w.heap.size w w' := by
  have HR := Aside0.mk hr
  have HC := Aside0.mk hc
  have HD := Aside0.mk hd
  have hp12 := hd.1.2
  obtain ⟨r, hrev⟩ : ∃ r, p.reverse = r := ⟨_, rfl⟩
  have HREV := Aside0.mk hrev
  have HRP := Aside0.mk (show r.length = p.length by rw [← hrev]; exact List.length_reverse)
  have HDR := Aside0.mk (show Dots r by rw [← hrev]; exact Dots_reverse hd)
  have HTOT := Aside0.mk (show leS 4 r (leS 4 p p) = leastS p by rw [← hrev]; rfl)
  clear hrev
  clear hr hc hd
  have HB := Aside0.mk (Below.refl w.heap.size w)
  go_enter Try.func30, Try.ntmps30
  go_wp2_with (first | (go_at_call 38; refine (l1Own_calls A c p _ (Kd.C_below HR.out (by repeat (first | (with_reducible first | exact HB.out | apply below_alloc | apply pw_below_drewN | apply below_drew1) | exact HB.out))) HC.out (by omega)).mono ?_; rintro e w1 ⟨v1, rfl, ho, hb⟩; obtain ⟨A1, c1, rfl, hc1, hr1⟩ := Ow_form ho; have HC1 := Aside0.mk hc1; have HR1 := Aside0.mk hr1; have HW1 := Aside0.mk (show Below w1.heap.size w1 w1 from Below.refl _ _); clear hc1 hr1 ho; have n0_ := Aside0.mk (below_step (by repeat (first | (with_reducible first | exact HB.out | apply below_alloc | apply pw_below_drewN | apply below_drew1) | exact HB.out)) hb); clear HB hb; have HB := n0_; clear n0_) | (go_at_call 44; refine (roBack_calls A c p _ (Kd.C_below HR.out (by repeat (first | (with_reducible first | exact HB.out | apply below_alloc | apply pw_below_drewN | apply below_drew1) | exact HB.out))) HC.out (by omega)).mono ?_; rw [HREV.out]; rintro e w2 ⟨v2, rfl, ho, hb⟩; obtain ⟨Ab, cb, rfl, hcb, hrb⟩ := Ow_form ho; have HCB := Aside0.mk hcb; have HRB2 := Aside0.mk hrb; clear hcb hrb; have HR1B := Aside0.mk (Kd.C_below HR1.out hb); clear ho; have n0_ := Aside0.mk (below_step (by repeat (first | (with_reducible first | exact HB.out | apply below_alloc | apply pw_below_drewN | apply below_drew1) | exact HB.out)) hb); clear HB hb; have HB := n0_; clear n0_) | ((with_reducible refine gate_dst (N := 12) rfl ?_); refine lit_pair ?hg (.slice A p.length c) (.slice Ab r.length cb) 30 ?hr ?_; (case hg => rfl); (case hr => first | (go_simp; done) | (go_simp; rfl)); intro gl w3 hpr hb; have HPR := Aside0.mk hpr; have HRB := Aside0.mk (Kd.C_below HRB2.out hb); have HR1C := Aside0.mk (Kd.C_below HR1B.out hb); clear hpr; have n0_ := Aside0.mk (below_step (by repeat (first | (with_reducible first | exact HB.out | apply below_alloc | apply pw_below_drewN | apply below_drew1) | exact HB.out)) hb); clear HB hb; have HB := n0_; clear n0_))
  repeat (go_quiet (fail); try go_wp2_with fail)
  have HBW := HB
  go_loopg [3, 5, 14] 2 (fun g v3 v5 v14 w' => ∃ (i : Nat) (b : List Int), v14 = .int .i64 i ∧ Aside0 (i + g = 2) ∧ Aside0 (b.length = p.length) ∧ Aside0 ((if i = 0 then leS 4 r (leS 4 p b) else if i = 1 then leS 4 r b else b) = leastS p) ∧ Aside0 (Rs w' v3 b) ∧ Aside0 (Below w3.heap.size w3 w'))
  case atStart => exact ⟨0, p, rfl, ⟨rfl⟩, ⟨rfl⟩, HTOT, ⟨Rs_below ⟨_, _, rfl, HC1.out, HR1C.out⟩ (by first | exact Below.refl _ _ | exact pw_below_drewN (Below.refl _ _) _)⟩, ⟨by first | exact Below.refl _ _ | exact pw_below_drewN (Below.refl _ _) _⟩⟩
  case round =>
    clear HB
    obtain ⟨i, b, rfl, HI, HBL, HT, HV, HB3⟩ := hrel
    obtain ⟨A3, c3, rfl, hc3, hr3⟩ := HV.out
    have HR3 := Aside0.mk hr3
    have HC3 := Aside0.mk hc3
    clear hr3 hc3 HV
    have HB := Aside0.mk (below_step HBW.out HB3.out)
    have hpr := Pair2_below HPR.out HB3.out
    by_cases h0 : i = 0
    · subst h0
      have hx : wr.cell? ⟨gl, 0, none⟩ = some (.slice A p.length c) := hpr.1
      have HT2 := Aside0.mk (show leS 4 r (leS 4 p b) = leastS p from HT.out)
      have HQ0 := Aside0.mk (Kd.C_below HR.out HB.out)
      clear HT hpr
      go_wp2_with fail
      repeat (go_quiet (fail); try go_wp2_with fail)
      go_loopg [3, 5, 6] 4 (fun g v3 v5 v6 w' => ∃ (k : Nat) (q b9 : List Int), v6 = .int .i64 k ∧ Aside0 (k + g = 4) ∧ Aside0 (Dots q ∧ q.length = p.length) ∧ Aside0 (b9.length = p.length) ∧ Aside0 (leS g q b9 = leS 4 p b) ∧ Aside0 (Rs w' v5 q) ∧ Aside0 (Rs w' v3 b9) ∧ Aside0 (Below w3.heap.size w3 w'))
      case atStart => exact ⟨0, p, b, rfl, ⟨rfl⟩, ⟨HD.out, rfl⟩, HBL, ⟨rfl⟩, ⟨_, _, rfl, HC.out, Kd.C_below HQ0.out (by first | exact Below.refl _ _ | exact pw_below_drewN (Below.refl _ _) _)⟩, ⟨_, _, rfl, HC3.out, Kd.C_below HR3.out (by first | exact Below.refl _ _ | exact pw_below_drewN (Below.refl _ _) _)⟩, ⟨below_step HB3.out (by first | exact Below.refl _ _ | exact pw_below_drewN (Below.refl _ _) _)⟩⟩
      case round =>
        clear HB hx HQ0 HR3 HC3
        obtain ⟨k, q, b2, rfl, HK, HDQ, HBL2, HS, HVQ, HVB, HB4⟩ := hrel
        obtain ⟨A5, c5, rfl, hc5, hr5⟩ := HVQ.out
        obtain ⟨A6, c6, rfl, hc6, hr6⟩ := HVB.out
        have HC5 := Aside0.mk hc5
        have HR5 := Aside0.mk hr5
        have HC6 := Aside0.mk hc6
        have HR6 := Aside0.mk hr6
        clear hc5 hr5 hc6 hr6 HVQ HVB
        have HB := Aside0.mk (Below.refl wr.heap.size wr)
        have hq12 : q.length ≤ 12 := HDQ.out.1.1.2
        by_cases hk : k < 4
        · obtain ⟨d, hd⟩ : ∃ d, gk = d + 1 := ⟨gk - 1, by have := HK.out; omega⟩
          have HGD := Aside0.mk hd
          have hS := HS.out
          rw [hd, leS_succ] at hS
          clear hd
          have HE := Aside0.mk (show q.length = b2.length by rw [HBL2.out]; exact HDQ.out.2)
          cases hlx : lexB q b2 with
          | true =>
            have HLX := Aside0.mk hlx
            rw [pick_yes hlx] at hS
            have HS2 := Aside0.mk hS
            clear hS hlx
            go_wp2_with (first | (go_at_call 45; refine (trLess_calls A5 c5 q A6 c6 b2 _ (Kd.C_below HR5.out (by repeat (first | (with_reducible first | exact HB.out | apply below_alloc | apply pw_below_drewN | apply below_drew1) | exact HB.out))) HC5.out (Kd.C_below HR6.out (by repeat (first | (with_reducible first | exact HB.out | apply below_alloc | apply pw_below_drewN | apply below_drew1) | exact HB.out))) HC6.out HE.out (by omega)).mono ?_; rw [HLX.out]; rintro e w' ⟨rfl, ⟨nd, rfl⟩⟩) | (go_at_call 46; refine (doTurn_calls A5 c5 q _ (Kd.C_below HR5.out (by repeat (first | (with_reducible first | exact HB.out | apply below_alloc | apply pw_below_drewN | apply below_drew1) | exact HB.out))) HC5.out (by omega) (Dots_InR HDQ.out.1)).mono ?_; rintro e w5 ⟨v5, rfl, ho, hb⟩; have HRT := Aside0.mk (Rs_own ho); clear ho; have n0_ := Aside0.mk (below_step (by repeat (first | (with_reducible first | exact HB.out | apply below_alloc | apply pw_below_drewN | apply below_drew1) | exact HB.out)) hb); clear HB hb; have HB := n0_; clear n0_))
            repeat (go_quiet (fail); try go_wp2)
            go_roundg (gk - 1)
            case measure => have := HK.out; omega
            case rel => exact ⟨k + 1, turnOf q, q, by go_num, ⟨by have := HK.out; omega⟩, ⟨Dots_turn HDQ.out.1, by rw [turnOf_length]; exact HDQ.out.2⟩, ⟨HDQ.out.2⟩, ⟨by rw [show gk - 1 = d by have := HGD.out; omega]; exact HS2.out⟩, ⟨Rs_below HRT.out (by first | exact Below.refl _ _ | exact pw_below_drewN (Below.refl _ _) _)⟩, ⟨_, _, rfl, HC5.out, Kd.C_below HR5.out (by repeat (first | (with_reducible first | exact HB.out | apply below_alloc | apply pw_below_drewN | apply below_drew1) | exact HB.out))⟩, ⟨below_step HB4.out (by repeat (first | (with_reducible first | exact HB.out | apply below_alloc | apply pw_below_drewN | apply below_drew1) | exact HB.out))⟩⟩
          | false =>
            have HLX := Aside0.mk hlx
            rw [pick_no hlx] at hS
            have HS2 := Aside0.mk hS
            clear hS hlx
            go_wp2_with (first | (go_at_call 45; refine (trLess_calls A5 c5 q A6 c6 b2 _ (Kd.C_below HR5.out (by repeat (first | (with_reducible first | exact HB.out | apply below_alloc | apply pw_below_drewN | apply below_drew1) | exact HB.out))) HC5.out (Kd.C_below HR6.out (by repeat (first | (with_reducible first | exact HB.out | apply below_alloc | apply pw_below_drewN | apply below_drew1) | exact HB.out))) HC6.out HE.out (by omega)).mono ?_; rw [HLX.out]; rintro e w' ⟨rfl, ⟨nd, rfl⟩⟩) | (go_at_call 46; refine (doTurn_calls A5 c5 q _ (Kd.C_below HR5.out (by repeat (first | (with_reducible first | exact HB.out | apply below_alloc | apply pw_below_drewN | apply below_drew1) | exact HB.out))) HC5.out (by omega) (Dots_InR HDQ.out.1)).mono ?_; rintro e w5 ⟨v5, rfl, ho, hb⟩; have HRT := Aside0.mk (Rs_own ho); clear ho; have n0_ := Aside0.mk (below_step (by repeat (first | (with_reducible first | exact HB.out | apply below_alloc | apply pw_below_drewN | apply below_drew1) | exact HB.out)) hb); clear HB hb; have HB := n0_; clear n0_))
            repeat (go_quiet (fail); try go_wp2)
            go_roundg (gk - 1)
            case measure => have := HK.out; omega
            case rel => exact ⟨k + 1, turnOf q, b2, by go_num, ⟨by have := HK.out; omega⟩, ⟨Dots_turn HDQ.out.1, by rw [turnOf_length]; exact HDQ.out.2⟩, HBL2, ⟨by rw [show gk - 1 = d by have := HGD.out; omega]; exact HS2.out⟩, ⟨Rs_below HRT.out (by first | exact Below.refl _ _ | exact pw_below_drewN (Below.refl _ _) _)⟩, ⟨_, _, rfl, HC6.out, Kd.C_below HR6.out (by repeat (first | (with_reducible first | exact HB.out | apply below_alloc | apply pw_below_drewN | apply below_drew1) | exact HB.out))⟩, ⟨below_step HB4.out (by repeat (first | (with_reducible first | exact HB.out | apply below_alloc | apply pw_below_drewN | apply below_drew1) | exact HB.out))⟩⟩
        · have HE := Aside0.mk (show b2 = leS 4 p b by have h := HS.out; rw [show gk = 0 by have := HK.out; omega] at h; exact h)
          go_wp2_with fail
          repeat (go_quiet (fail); try go_wp2_with fail)
          go_roundg 1
          case measure => have := HI.out; omega
          case rel => exact ⟨0 + 1, b2, by go_num, ⟨by omega⟩, HBL2, ⟨by rw [HE.out]; exact HT2.out⟩, ⟨_, _, rfl, HC6.out, Kd.C_below HR6.out (by first | exact Below.refl _ _ | exact pw_below_drewN (Below.refl _ _) _)⟩, ⟨below_step HB4.out (by first | exact Below.refl _ _ | exact pw_below_drewN (Below.refl _ _) _)⟩⟩
    · by_cases h1 : i = 1
      · subst h1
        have hx : wr.cell? ⟨gl, 1, none⟩ = some (.slice Ab r.length cb) := hpr.2
        have HT2 := Aside0.mk (show leS 4 r b = leastS p from HT.out)
        have HQ0 := Aside0.mk (Kd.C_below HRB.out HB3.out)
        clear HT hpr
        go_wp2_with fail
        repeat (go_quiet (fail); try go_wp2_with fail)
        go_loopg [3, 5, 6] 4 (fun g v3 v5 v6 w' => ∃ (k : Nat) (q b9 : List Int), v6 = .int .i64 k ∧ Aside0 (k + g = 4) ∧ Aside0 (Dots q ∧ q.length = p.length) ∧ Aside0 (b9.length = p.length) ∧ Aside0 (leS g q b9 = leS 4 r b) ∧ Aside0 (Rs w' v5 q) ∧ Aside0 (Rs w' v3 b9) ∧ Aside0 (Below w3.heap.size w3 w'))
        case atStart => exact ⟨0, r, b, rfl, ⟨rfl⟩, ⟨HDR.out, HRP.out⟩, HBL, ⟨rfl⟩, ⟨_, _, rfl, HCB.out, Kd.C_below HQ0.out (by first | exact Below.refl _ _ | exact pw_below_drewN (Below.refl _ _) _)⟩, ⟨_, _, rfl, HC3.out, Kd.C_below HR3.out (by first | exact Below.refl _ _ | exact pw_below_drewN (Below.refl _ _) _)⟩, ⟨below_step HB3.out (by first | exact Below.refl _ _ | exact pw_below_drewN (Below.refl _ _) _)⟩⟩
        case round =>
          clear HB hx HQ0 HR3 HC3
          obtain ⟨k, q, b2, rfl, HK, HDQ, HBL2, HS, HVQ, HVB, HB4⟩ := hrel
          obtain ⟨A5, c5, rfl, hc5, hr5⟩ := HVQ.out
          obtain ⟨A6, c6, rfl, hc6, hr6⟩ := HVB.out
          have HC5 := Aside0.mk hc5
          have HR5 := Aside0.mk hr5
          have HC6 := Aside0.mk hc6
          have HR6 := Aside0.mk hr6
          clear hc5 hr5 hc6 hr6 HVQ HVB
          have HB := Aside0.mk (Below.refl wr.heap.size wr)
          have hq12 : q.length ≤ 12 := HDQ.out.1.1.2
          by_cases hk : k < 4
          · obtain ⟨d, hd⟩ : ∃ d, gk = d + 1 := ⟨gk - 1, by have := HK.out; omega⟩
            have HGD := Aside0.mk hd
            have hS := HS.out
            rw [hd, leS_succ] at hS
            clear hd
            have HE := Aside0.mk (show q.length = b2.length by rw [HBL2.out]; exact HDQ.out.2)
            cases hlx : lexB q b2 with
            | true =>
              have HLX := Aside0.mk hlx
              rw [pick_yes hlx] at hS
              have HS2 := Aside0.mk hS
              clear hS hlx
              go_wp2_with (first | (go_at_call 45; refine (trLess_calls A5 c5 q A6 c6 b2 _ (Kd.C_below HR5.out (by repeat (first | (with_reducible first | exact HB.out | apply below_alloc | apply pw_below_drewN | apply below_drew1) | exact HB.out))) HC5.out (Kd.C_below HR6.out (by repeat (first | (with_reducible first | exact HB.out | apply below_alloc | apply pw_below_drewN | apply below_drew1) | exact HB.out))) HC6.out HE.out (by omega)).mono ?_; rw [HLX.out]; rintro e w' ⟨rfl, ⟨nd, rfl⟩⟩) | (go_at_call 46; refine (doTurn_calls A5 c5 q _ (Kd.C_below HR5.out (by repeat (first | (with_reducible first | exact HB.out | apply below_alloc | apply pw_below_drewN | apply below_drew1) | exact HB.out))) HC5.out (by omega) (Dots_InR HDQ.out.1)).mono ?_; rintro e w5 ⟨v5, rfl, ho, hb⟩; have HRT := Aside0.mk (Rs_own ho); clear ho; have n0_ := Aside0.mk (below_step (by repeat (first | (with_reducible first | exact HB.out | apply below_alloc | apply pw_below_drewN | apply below_drew1) | exact HB.out)) hb); clear HB hb; have HB := n0_; clear n0_))
              repeat (go_quiet (fail); try go_wp2)
              go_roundg (gk - 1)
              case measure => have := HK.out; omega
              case rel => exact ⟨k + 1, turnOf q, q, by go_num, ⟨by have := HK.out; omega⟩, ⟨Dots_turn HDQ.out.1, by rw [turnOf_length]; exact HDQ.out.2⟩, ⟨HDQ.out.2⟩, ⟨by rw [show gk - 1 = d by have := HGD.out; omega]; exact HS2.out⟩, ⟨Rs_below HRT.out (by first | exact Below.refl _ _ | exact pw_below_drewN (Below.refl _ _) _)⟩, ⟨_, _, rfl, HC5.out, Kd.C_below HR5.out (by repeat (first | (with_reducible first | exact HB.out | apply below_alloc | apply pw_below_drewN | apply below_drew1) | exact HB.out))⟩, ⟨below_step HB4.out (by repeat (first | (with_reducible first | exact HB.out | apply below_alloc | apply pw_below_drewN | apply below_drew1) | exact HB.out))⟩⟩
            | false =>
              have HLX := Aside0.mk hlx
              rw [pick_no hlx] at hS
              have HS2 := Aside0.mk hS
              clear hS hlx
              go_wp2_with (first | (go_at_call 45; refine (trLess_calls A5 c5 q A6 c6 b2 _ (Kd.C_below HR5.out (by repeat (first | (with_reducible first | exact HB.out | apply below_alloc | apply pw_below_drewN | apply below_drew1) | exact HB.out))) HC5.out (Kd.C_below HR6.out (by repeat (first | (with_reducible first | exact HB.out | apply below_alloc | apply pw_below_drewN | apply below_drew1) | exact HB.out))) HC6.out HE.out (by omega)).mono ?_; rw [HLX.out]; rintro e w' ⟨rfl, ⟨nd, rfl⟩⟩) | (go_at_call 46; refine (doTurn_calls A5 c5 q _ (Kd.C_below HR5.out (by repeat (first | (with_reducible first | exact HB.out | apply below_alloc | apply pw_below_drewN | apply below_drew1) | exact HB.out))) HC5.out (by omega) (Dots_InR HDQ.out.1)).mono ?_; rintro e w5 ⟨v5, rfl, ho, hb⟩; have HRT := Aside0.mk (Rs_own ho); clear ho; have n0_ := Aside0.mk (below_step (by repeat (first | (with_reducible first | exact HB.out | apply below_alloc | apply pw_below_drewN | apply below_drew1) | exact HB.out)) hb); clear HB hb; have HB := n0_; clear n0_))
              repeat (go_quiet (fail); try go_wp2)
              go_roundg (gk - 1)
              case measure => have := HK.out; omega
              case rel => exact ⟨k + 1, turnOf q, b2, by go_num, ⟨by have := HK.out; omega⟩, ⟨Dots_turn HDQ.out.1, by rw [turnOf_length]; exact HDQ.out.2⟩, HBL2, ⟨by rw [show gk - 1 = d by have := HGD.out; omega]; exact HS2.out⟩, ⟨Rs_below HRT.out (by first | exact Below.refl _ _ | exact pw_below_drewN (Below.refl _ _) _)⟩, ⟨_, _, rfl, HC6.out, Kd.C_below HR6.out (by repeat (first | (with_reducible first | exact HB.out | apply below_alloc | apply pw_below_drewN | apply below_drew1) | exact HB.out))⟩, ⟨below_step HB4.out (by repeat (first | (with_reducible first | exact HB.out | apply below_alloc | apply pw_below_drewN | apply below_drew1) | exact HB.out))⟩⟩
          · have HE := Aside0.mk (show b2 = leS 4 r b by have h := HS.out; rw [show gk = 0 by have := HK.out; omega] at h; exact h)
            go_wp2_with fail
            repeat (go_quiet (fail); try go_wp2_with fail)
            go_roundg 0
            case measure => have := HI.out; omega
            case rel => exact ⟨1 + 1, b2, by go_num, ⟨by omega⟩, HBL2, ⟨by rw [HE.out]; exact HT2.out⟩, ⟨_, _, rfl, HC6.out, Kd.C_below HR6.out (by first | exact Below.refl _ _ | exact pw_below_drewN (Below.refl _ _) _)⟩, ⟨below_step HB4.out (by first | exact Below.refl _ _ | exact pw_below_drewN (Below.refl _ _) _)⟩⟩
      · have HF := Aside0.mk (show b = leastS p by have h := HT.out; rwa [if_neg h0, if_neg h1] at h)
        obtain rfl : i = 2 := by have := HI.out; omega
        go_wp2_with (go_at_call 38; refine (l1Own_calls A3 c3 b _ (Kd.C_below HR3.out (by first | exact Below.refl _ _ | exact pw_below_drewN (Below.refl _ _) _)) HC3.out (by rw [HBL.out]; omega)).mono ?_; rintro e w5 ⟨v5, rfl, ho, hb⟩; have HO := Aside0.mk (Ow_lower (B' := w.heap.size) ho (below_size (by repeat (first | (with_reducible first | exact HB.out | apply below_alloc | apply pw_below_drewN | apply below_drew1) | exact HB.out)))); clear ho; have n0_ := Aside0.mk (below_step (by repeat (first | (with_reducible first | exact HB.out | apply below_alloc | apply pw_below_drewN | apply below_drew1) | exact HB.out)) hb); clear HB hb; have HB := n0_; clear n0_)
        repeat (go_quiet (fail); try go_wp2)
        go_ret
        exact ⟨_, rfl, by rw [← HF.out]; first | exact HO.out | exact Ow_drewN HO.out _, (by repeat (first | (with_reducible first | exact HB.out | apply below_alloc | apply pw_below_drewN | apply below_drew1) | exact HB.out))⟩
end Go.Proofs.Ytafnipklejfbmaa.Own.G
