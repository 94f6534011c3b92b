/- The least of eight images of dots: what the program's least returns; dots. -/
import Derived.Test.YtafnipklejfbmaaOwnLeC
import Derived.Test.YtafnipklejfbmaaOwnSh
namespace Go.Proofs.Ytafnipklejfbmaa.Own.G
open Go.RowKit Go.Proofs.YtafnipklejfbmaaW.PrintWords Go.Proofs.YtafnipklejfbmaaW.PrintLast Go.Proofs.YtafnipklejfbmaaW.PrintMore
set_option linter.unusedVariables false
set_option maxRecDepth 8000 in
set_option maxHeartbeats 6400000 in
theorem least_calls (A : Option Addr) (c : Nat) (p : List Int) (w : World) (hr : Rd w A p) (hc : p.length ≤ c) (hd : Dots p) :
    Calls Try.prog 32 #[.slice A p.length c] w fun e w' => ∃ v, e = .returned v ∧ Rs w' v (leastI p) ∧ Below w.heap.size w w' := by
  have HR := Aside0.mk hr
  have HC := Aside0.mk hc
  have HD := Aside0.mk hd
  have hp12 := hd.1.2
  clear hr hc hd
  have HB := Aside0.mk (Below.refl w.heap.size w)
  go_enter Try.func32, Try.ntmps32
  go_wp2_with ((go_at_call 42; refine (Clone_calls A c p _ (Kd.C_below HR.out (by repeat (first | (with_reducible first | exact HB.out | apply below_alloc | apply pw_below_drewN | apply below_drew1) | exact HB.out))) HC.out (by omega)).mono ?_; rintro e w1 ⟨v1, rfl, ho, hb⟩; obtain ⟨A1, c1, rfl, hc1, hr1⟩ := Ow_form ho; have HC1 := Aside0.mk hc1; have HR1 := Aside0.mk hr1; have n0_ := Aside0.mk (below_step (by repeat (first | (with_reducible first | exact HB.out | apply below_alloc | apply pw_below_drewN | apply below_drew1) | exact HB.out)) hb); clear HB hb ho hc1 hr1; have HB := n0_; clear n0_))
  repeat (go_quiet (fail); try go_wp2_with fail)
  have HBW := HB
  go_loopg [3, 4, 10] 4 (fun g v3 v4 v10 w' => ∃ (k : Nat) (q b : List Int), v10 = .int .i64 k ∧ Aside0 (k + g = 4) ∧ Aside0 (Dots q ∧ q.length = p.length) ∧ Aside0 (b.length = p.length) ∧ Aside0 (leI g q b = leastI p) ∧ Aside0 (Rs w' v4 q) ∧ Aside0 (Rs w' v3 b) ∧ Aside0 (Below w.heap.size w w'))
  case atStart => exact ⟨0, p, p, rfl, ⟨rfl⟩, ⟨HD.out, rfl⟩, ⟨rfl⟩, ⟨rfl⟩, ⟨_, _, rfl, HC.out, Kd.C_below HR.out (by repeat (first | (with_reducible first | exact HB.out | apply below_alloc | apply pw_below_drewN | apply below_drew1) | exact HB.out))⟩, ⟨_, _, rfl, HC1.out, Kd.C_below HR1.out (by first | exact Below.refl _ _ | exact pw_below_drewN (Below.refl _ _) _)⟩, ⟨(by repeat (first | (with_reducible first | exact HB.out | apply below_alloc | apply pw_below_drewN | apply below_drew1) | exact HB.out))⟩⟩
  case round =>
    clear HB HBW
    obtain ⟨k, q, b, rfl, HK, HDQ, HBL, HT0, HV4, HV3, HB0⟩ := hrel
    obtain ⟨A4, c4, rfl, hc4, hr4⟩ := HV4.out
    obtain ⟨A3, c3, rfl, hc3, hr3⟩ := HV3.out
    have HC4 := Aside0.mk hc4
    have HR4 := Aside0.mk hr4
    have HC3 := Aside0.mk hc3
    have HR3 := Aside0.mk hr3
    clear hc4 hr4 hc3 hr3 HV4 HV3
    have hq12 : q.length ≤ 12 := HDQ.out.1.1.2
    have HB := Aside0.mk (Below.refl wr.heap.size wr)
    by_cases hk : k < 4
    · obtain ⟨d, hd⟩ : ∃ d, gk = d + 1 := ⟨gk - 1, by have := HK.out; omega⟩
      have HGD := Aside0.mk hd
      have hS := HT0.out
      rw [hd, leI_succ] at hS
      clear hd
      obtain ⟨q1, hq1⟩ : ∃ q1, turnOf q = q1 := ⟨_, rfl⟩
      have HQ1 := Aside0.mk hq1
      have HDQ1 := Aside0.mk (show Dots q1 by rw [← hq1]; exact Dots_turn HDQ.out.1)
      have HL1 := Aside0.mk (show q1.length = p.length by rw [← hq1, turnOf_length]; exact HDQ.out.2)
      obtain ⟨r1, hr1⟩ : ∃ r1, q1.reverse = r1 := ⟨_, rfl⟩
      have HRV := Aside0.mk hr1
      have HL2 := Aside0.mk (show r1.length = p.length by rw [← hr1, List.length_reverse]; exact HL1.out)
      obtain ⟨bb, hbb⟩ : ∃ bb, pick r1 (pick q1 b) = bb := ⟨_, rfl⟩
      have HBB := Aside0.mk hbb
      rw [hq1, hr1, hbb] at hS
      have HS0 := Aside0.mk hS
      clear hS hq1 hr1 hbb
      go_wp2_with (first | (go_at_call 47; refine (turned_calls A4 c4 q _ (Kd.C_below HR4.out (by repeat (first | (with_reducible first | exact HB.out | apply below_alloc | apply pw_below_drewN | apply below_drew1) | exact HB.out))) HC4.out (by omega) (Dots_InR HDQ.out.1)).mono ?_; rw [HQ1.out]; rintro e w5 ⟨v5, rfl, ho, hb⟩; obtain ⟨A7, c7, rfl, hc7, hr7⟩ := Ow_form ho; have HC7 := Aside0.mk hc7; have HR7 := Aside0.mk hr7; have HW5 := Aside0.mk (below_step (by repeat (first | (with_reducible first | exact HB.out | apply below_alloc | apply pw_below_drewN | apply below_drew1) | exact HB.out)) hb); clear HB hb ho hc7 hr7; have HB := Aside0.mk (Below.refl w5.heap.size w5)) | (go_at_call 48; refine (back_calls A7 c7 q1 _ (Kd.C_below HR7.out (by repeat (first | (with_reducible first | exact HB.out | apply below_alloc | apply pw_below_drewN | apply below_drew1) | exact HB.out))) HC7.out (by rw [HL1.out]; omega)).mono ?_; rw [HRV.out]; rintro e w6 ⟨v6, rfl, ho, hb⟩; obtain ⟨A8, c8, rfl, hc8, hr8⟩ := Ow_form ho; have HC8 := Aside0.mk hc8; have HR8 := Aside0.mk hr8; have HW6 := Aside0.mk (below_step (by repeat (first | (with_reducible first | exact HB.out | apply below_alloc | apply pw_below_drewN | apply below_drew1) | exact HB.out)) hb); clear HB hb ho hc8 hr8; have HB := Aside0.mk (Below.refl w6.heap.size w6)) | ((with_reducible refine gate_dst (N := 17) rfl ?_); refine lit_pair ?hg (.slice A7 q1.length c7) (.slice A8 r1.length c8) 30 ?hr ?_; (case hg => rfl); (case hr => first | (go_simp; done) | (go_simp; rfl)); intro gl w7 hpr hb; have HPR := Aside0.mk hpr; have HW7 := Aside0.mk (below_step (by repeat (first | (with_reducible first | exact HB.out | apply below_alloc | apply pw_below_drewN | apply below_drew1) | exact HB.out)) hb); clear HB hb hpr; have HB := Aside0.mk (Below.refl w7.heap.size w7)))
      repeat (go_quiet (fail); try go_wp2_with fail)
      have HR7L := Aside0.mk (Kd.C_below (Kd.C_below HR7.out HW6.out) HW7.out)
      have HR8L := Aside0.mk (Kd.C_below HR8.out HW7.out)
      have HR3L := Aside0.mk (Kd.C_below (Kd.C_below (Kd.C_below HR3.out HW5.out) HW6.out) HW7.out)
      have HBL7 := Aside0.mk (below_step (below_step (below_step HB0.out HW5.out) HW6.out) HW7.out)
      clear HR7 HR8 HR3 HR4 HC4 HW5 HW6 HW7
      go_loopg [3, 6, 19] 2 (fun g v3 v6 v19 w' => ∃ (i : Nat) (b9 : List Int), v19 = .int .i64 i ∧ Aside0 (i + g = 2) ∧ Aside0 (b9.length = p.length) ∧ Aside0 ((if i = 0 then pick r1 (pick q1 b9) else if i = 1 then pick r1 b9 else b9) = bb) ∧ Aside0 (Rs w' v3 b9) ∧ Aside0 (Below w7.heap.size w7 w'))
      case atStart => exact ⟨0, b, rfl, ⟨rfl⟩, HBL, ⟨HBB.out⟩, ⟨_, _, rfl, HC3.out, Kd.C_below HR3L.out (by first | exact Below.refl _ _ | exact pw_below_drewN (Below.refl _ _) _)⟩, ⟨(by first | exact Below.refl _ _ | exact pw_below_drewN (Below.refl _ _) _)⟩⟩
      case round =>
        clear HB
        obtain ⟨i, b9, rfl, HI, HBL9, HT, HV9, HB9⟩ := hrel
        obtain ⟨A9, c9, rfl, hc9, hr9⟩ := HV9.out
        have HC9 := Aside0.mk hc9
        have HR9 := Aside0.mk hr9
        clear hc9 hr9 HV9
        have HB := Aside0.mk (Below.refl wr.heap.size wr)
        have hpr := Pair2_below HPR.out HB9.out
        by_cases h0 : i = 0
        · subst h0
          have hx : wr.cell? ⟨gl, 0, none⟩ = some (.slice A7 q1.length c7) := hpr.1
          have HRQ := Aside0.mk (Kd.C_below HR7L.out HB9.out)
          have hS := HT.out
          have HE := Aside0.mk (show q1.length = b9.length by rw [HBL9.out]; exact HL1.out)
          cases hlx : lexB q1 b9 with
          | true =>
            have HLX := Aside0.mk hlx
            have HS2 := Aside0.mk (show pick r1 q1 = bb by have h : pick r1 (pick q1 b9) = bb := hS; rwa [pick_yes hlx] at h)
            clear hS hlx HT
            go_wp2_with ((go_at_call 49; refine (Compare_calls A7 c7 q1 A9 c9 b9 _ (Kd.C_below HRQ.out (by repeat (first | (with_reducible first | exact HB.out | apply below_alloc | apply pw_below_drewN | apply below_drew1) | exact HB.out))) HC7.out (Kd.C_below HR9.out (by repeat (first | (with_reducible first | exact HB.out | apply below_alloc | apply pw_below_drewN | apply below_drew1) | exact HB.out))) HC9.out HE.out (by rw [HL1.out]; omega)).mono ?_; rintro e w' ⟨m, rfl, hm, ⟨nd, rfl⟩⟩); rw [HLX.out] at hm; have hm0 := of_decide_eq_true hm; clear hm)
            repeat (go_quiet (fail); try go_wp2)
            go_roundg (gk - 1)
            case measure => have := HI.out; omega
            case rel => exact ⟨0 + 1, q1, by go_num, ⟨by have := HI.out; omega⟩, ⟨by rw [HE.out]; exact HBL9.out⟩, ⟨HS2.out⟩, ⟨_, _, rfl, HC7.out, Kd.C_below HRQ.out (by repeat (first | (with_reducible first | exact HB.out | apply below_alloc | apply pw_below_drewN | apply below_drew1) | exact HB.out))⟩, ⟨below_step HB9.out (by repeat (first | (with_reducible first | exact HB.out | apply below_alloc | apply pw_below_drewN | apply below_drew1) | exact HB.out))⟩⟩
          | false =>
            have HLX := Aside0.mk hlx
            have HS2 := Aside0.mk (show pick r1 b9 = bb by have h : pick r1 (pick q1 b9) = bb := hS; rwa [pick_no hlx] at h)
            clear hS hlx HT
            go_wp2_with ((go_at_call 49; refine (Compare_calls A7 c7 q1 A9 c9 b9 _ (Kd.C_below HRQ.out (by repeat (first | (with_reducible first | exact HB.out | apply below_alloc | apply pw_below_drewN | apply below_drew1) | exact HB.out))) HC7.out (Kd.C_below HR9.out (by repeat (first | (with_reducible first | exact HB.out | apply below_alloc | apply pw_below_drewN | apply below_drew1) | exact HB.out))) HC9.out HE.out (by rw [HL1.out]; omega)).mono ?_; rintro e w' ⟨m, rfl, hm, ⟨nd, rfl⟩⟩); rw [HLX.out] at hm; have hm0 := of_decide_eq_false hm; clear hm)
            repeat (go_quiet (fail); try go_wp2)
            go_roundg (gk - 1)
            case measure => have := HI.out; omega
            case rel => exact ⟨0 + 1, b9, by go_num, ⟨by have := HI.out; omega⟩, HBL9, ⟨HS2.out⟩, ⟨_, _, rfl, HC9.out, Kd.C_below HR9.out (by repeat (first | (with_reducible first | exact HB.out | apply below_alloc | apply pw_below_drewN | apply below_drew1) | exact HB.out))⟩, ⟨below_step HB9.out (by repeat (first | (with_reducible first | exact HB.out | apply below_alloc | apply pw_below_drewN | apply below_drew1) | exact HB.out))⟩⟩
        · by_cases h1 : i = 1
          · subst h1
            have hx : wr.cell? ⟨gl, 1, none⟩ = some (.slice A8 r1.length c8) := hpr.2
            have HRQ := Aside0.mk (Kd.C_below HR8L.out HB9.out)
            have hS := HT.out
            have HE := Aside0.mk (show r1.length = b9.length by rw [HBL9.out]; exact HL2.out)
            cases hlx : lexB r1 b9 with
            | true =>
              have HLX := Aside0.mk hlx
              have HS2 := Aside0.mk (show r1 = bb by have h : pick r1 b9 = bb := hS; rwa [pick_yes hlx] at h)
              clear hS hlx HT
              go_wp2_with ((go_at_call 49; refine (Compare_calls A8 c8 r1 A9 c9 b9 _ (Kd.C_below HRQ.out (by repeat (first | (with_reducible first | exact HB.out | apply below_alloc | apply pw_below_drewN | apply below_drew1) | exact HB.out))) HC8.out (Kd.C_below HR9.out (by repeat (first | (with_reducible first | exact HB.out | apply below_alloc | apply pw_below_drewN | apply below_drew1) | exact HB.out))) HC9.out HE.out (by rw [HL2.out]; omega)).mono ?_; rintro e w' ⟨m, rfl, hm, ⟨nd, rfl⟩⟩); rw [HLX.out] at hm; have hm0 := of_decide_eq_true hm; clear hm)
              repeat (go_quiet (fail); try go_wp2)
              go_roundg (gk - 1)
              case measure => have := HI.out; omega
              case rel => exact ⟨1 + 1, r1, by go_num, ⟨by have := HI.out; omega⟩, ⟨by rw [HE.out]; exact HBL9.out⟩, ⟨HS2.out⟩, ⟨_, _, rfl, HC8.out, Kd.C_below HRQ.out (by repeat (first | (with_reducible first | exact HB.out | apply below_alloc | apply pw_below_drewN | apply below_drew1) | exact HB.out))⟩, ⟨below_step HB9.out (by repeat (first | (with_reducible first | exact HB.out | apply below_alloc | apply pw_below_drewN | apply below_drew1) | exact HB.out))⟩⟩
            | false =>
              have HLX := Aside0.mk hlx
              have HS2 := Aside0.mk (show b9 = bb by have h : pick r1 b9 = bb := hS; rwa [pick_no hlx] at h)
              clear hS hlx HT
              go_wp2_with ((go_at_call 49; refine (Compare_calls A8 c8 r1 A9 c9 b9 _ (Kd.C_below HRQ.out (by repeat (first | (with_reducible first | exact HB.out | apply below_alloc | apply pw_below_drewN | apply below_drew1) | exact HB.out))) HC8.out (Kd.C_below HR9.out (by repeat (first | (with_reducible first | exact HB.out | apply below_alloc | apply pw_below_drewN | apply below_drew1) | exact HB.out))) HC9.out HE.out (by rw [HL2.out]; omega)).mono ?_; rintro e w' ⟨m, rfl, hm, ⟨nd, rfl⟩⟩); rw [HLX.out] at hm; have hm0 := of_decide_eq_false hm; clear hm)
              repeat (go_quiet (fail); try go_wp2)
              go_roundg (gk - 1)
              case measure => have := HI.out; omega
              case rel => exact ⟨1 + 1, b9, by go_num, ⟨by have := HI.out; omega⟩, HBL9, ⟨HS2.out⟩, ⟨_, _, rfl, HC9.out, Kd.C_below HR9.out (by repeat (first | (with_reducible first | exact HB.out | apply below_alloc | apply pw_below_drewN | apply below_drew1) | exact HB.out))⟩, ⟨below_step HB9.out (by repeat (first | (with_reducible first | exact HB.out | apply below_alloc | apply pw_below_drewN | apply below_drew1) | exact HB.out))⟩⟩
          · have HF := Aside0.mk (show b9 = bb by have h := HT.out; rwa [if_neg h0, if_neg h1] at h)
            obtain rfl : i = 2 := by have := HI.out; omega
            go_wp2_with fail
            repeat (go_quiet (fail); try go_wp2_with fail)
            go_roundg d
            case measure => have := HGD.out; omega
            case rel => exact ⟨k + 1, q1, b9, by go_num, ⟨by have := HK.out; have := HGD.out; omega⟩, ⟨HDQ1.out, HL1.out⟩, HBL9, ⟨by rw [HF.out]; exact HS0.out⟩, ⟨_, _, rfl, HC7.out, Kd.C_below (Kd.C_below HR7L.out HB9.out) (by first | exact Below.refl _ _ | exact pw_below_drewN (Below.refl _ _) _)⟩, ⟨_, _, rfl, HC9.out, Kd.C_below HR9.out (by first | exact Below.refl _ _ | exact pw_below_drewN (Below.refl _ _) _)⟩, ⟨below_step (below_step HBL7.out HB9.out) (by first | exact Below.refl _ _ | exact pw_below_drewN (Below.refl _ _) _)⟩⟩
    · have HE := Aside0.mk (show b = leastI p by have h := HT0.out; rw [show gk = 0 by have := HK.out; omega] at h; exact h)
      go_wp2_with fail
      repeat (go_quiet (fail); try go_wp2_with fail)
      go_ret
      exact ⟨_, rfl, by rw [← HE.out]; exact ⟨_, _, rfl, HC3.out, Kd.C_below HR3.out (by first | exact Below.refl _ _ | exact pw_below_drewN (Below.refl _ _) _)⟩, below_step HB0.out (by first | exact Below.refl _ _ | exact pw_below_drewN (Below.refl _ _) _)⟩
end Go.Proofs.Ytafnipklejfbmaa.Own.G
