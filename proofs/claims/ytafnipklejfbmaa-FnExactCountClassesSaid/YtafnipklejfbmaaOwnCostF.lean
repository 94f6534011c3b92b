/- All Costas dots of n: the walk of the reference's doAll; n up to 9. -/
import Derived.Test.YtafnipklejfbmaaOwnCostE
import Derived.Test.YtafnipklejfbmaaOwnOwn1
import Derived.Test.YtafnipklejfbmaaWRepsOne
namespace Go.Proofs.Ytafnipklejfbmaa.Own.G
open Go.RowKit Go.Proofs.YtafnipklejfbmaaW.PrintWords Go.Proofs.YtafnipklejfbmaaW.PrintLast Go.Proofs.YtafnipklejfbmaaW.PrintMore
set_option linter.unusedVariables false
/-- A list of lists of the call's own that are only read. -/
abbrev OwN (w : World) (B C : Nat) (v : Value) (l : List (List Int)) : Prop := Kd.N (Kd.slice 3 (Kd.int .i64)) 30 w B (fun k => C ≤ k) v l
def DoAllC (n f : Nat) : Prop := ∀ (A : Option Addr) (c : Nat) (l : List Int) (most : Int) (w : World), Rd w A l → l.length ≤ c → l.length + f = n → 1 ≤ most → most ≤ 1073741824 → Upto9 l →
  Calls Try.prog 25 #[.int .i64 (n : Int), .slice A l.length c, .int .i64 most] w fun e w' => ∃ v, e = .returned v ∧ OwN w' w.heap.size w.heap.size v (dF n f l most) ∧ Below w.heap.size w w'
set_option maxRecDepth 8000 in
set_option maxHeartbeats 6400000 in
theorem doAll_step (n f : Nat) (hn : n ≤ 9) (hih : ∀ f', f = f' + 1 → DoAllC n f') : DoAllC n f := by
  intro A c l most w hr hc hlf hm1 hm2 hup
  have HIH := Aside0.mk hih
  have HR := Aside0.mk hr
  have HC := Aside0.mk hc
  have HU := Aside0.mk hup
  have hl9 : l.length ≤ 9 := by omega
  clear hih hr hc hup
  have HB := Aside0.mk (Below.refl w.heap.size w)
  by_cases hz : l.length = n
  · obtain rfl : f = 0 := by omega
    have ht : ((l.length : Int) == (n : Int)) = true := beq_iff_eq.mpr (by omega)
    have HF := Aside0.mk (show dF n 0 l most = [l] from rfl)
    clear hz hlf
    go_enter Try.func25, Try.ntmps25
    go_wp2_with (first | ((go_at_call 38; refine (l1Own_calls _ _ l _ (Kd.C_below HR.out (by repeat (first | (with_reducible first | exact HB.out | apply below_alloc | apply pw_below_drewN | apply below_drew1) | exact HB.out))) HC.out (by omega)).mono ?_; rintro e w1 ⟨v1, rfl, ho, hb⟩; have HO1 := Aside0.mk (Ow_lower ho (below_size (by repeat (first | (with_reducible first | exact HB.out | apply below_alloc | apply pw_below_drewN | apply below_drew1) | exact HB.out)))); have n0_ := Aside0.mk (below_step (by repeat (first | (with_reducible first | exact HB.out | apply below_alloc | apply pw_below_drewN | apply below_drew1) | exact HB.out)) hb); clear HB ho hb; have HB := n0_; clear n0_); obtain ⟨A2, c2, e2_, hc2_, _⟩ := Ow_form HO1.out; subst e2_; have HC2 := Aside0.mk hc2_; clear hc2_) | ((with_reducible refine gate_dst (N := 16) rfl ?_); refine Kd.N_lit (Kd.slice 3 (Kd.int .i64)) w.heap.size 30 ?hg (N' := 16) ?hd (xs := ([l] : List (List Int))) (inner := [.slice A2 l.length c2]) (w0 := w) (ok := fun k => w.heap.size ≤ k) (okp := fun k => w.heap.size ≤ k) ?hr ?hp (fun _ hk => hk) (below_size (by repeat (first | (with_reducible first | exact HB.out | apply below_alloc | apply pw_below_drewN | apply below_drew1) | exact HB.out))) (by repeat (first | (with_reducible first | exact HB.out | apply below_alloc | apply pw_below_drewN | apply below_drew1) | exact HB.out)) (below_size (by repeat (first | (with_reducible first | exact HB.out | apply below_alloc | apply pw_below_drewN | apply below_drew1) | exact HB.out))) (by simp) ?_; (case hd => rfl); (case hg => rfl); (case hr => first | (go_simp; done) | (go_simp; rfl)); (case hp => exact (Reps.one (show Kd.FK (Kd.slice 3 (Kd.int .i64)) _ _ l [.slice A2 l.length c2] from Kd.FK_slice_mk HC2.out (Kd.R_F (Ow_re (by first | exact HO1.out | exact Ow_drewN HO1.out _) (fun k hk => Kd.R_base HO1.out k hk)))) (Reps.none _ _))); intro v3 w3 ho hb hg_ hnew_; clear HB HO1; have HO7 := Aside0.mk ho; have HB := Aside0.mk hb; clear ho hb hg_ hnew_))
    go_ret
    exact ⟨_, rfl, by rw [HF.out]; exact (by (with_reducible repeat (first | apply Kd.N_alloc | apply Kd.N_drewN | apply Kd.N_drew)); exact HO7.out), (by repeat (first | (with_reducible first | exact HB.out | apply below_alloc | apply pw_below_drewN | apply below_drew1) | exact HB.out))⟩
  · obtain ⟨f', rfl⟩ : ∃ f', f = f' + 1 := ⟨f - 1, by omega⟩
    have HIC := Aside0.mk (HIH.out f' rfl)
    have ht : ((l.length : Int) == (n : Int)) = false := beq_eq_false_iff_ne.mpr (by omega)
    have HFF := Aside0.mk (show dL (dF n f') n l most n [] = dF n (f' + 1) l most from rfl)
    have HO7 := Aside0.mk (show OwN w w.heap.size w.heap.size (.slice none 0 0) [] from Kd.N_nil _ _ _ _ _)
    go_enter Try.func25, Try.ntmps25
    (go_wp2; repeat (go_quiet (fail); try go_wp2))
    go_loopg [7, 8] n (fun g v7 v8 w' => ∃ (y : Nat) (out : List (List Int)), v8 = .int .i64 y ∧ Aside0 (y + g = n) ∧ Aside0 (dL (dF n f') n l most g out = dF n (f' + 1) l most) ∧ Aside0 ((out.length : Int) ≤ most) ∧ Aside0 (OwN w' w.heap.size w.heap.size v7 out) ∧ Aside0 (Below w.heap.size w w'))
    case atStart => exact ⟨0, [], rfl, ⟨by omega⟩, HFF, ⟨by simp; omega⟩, ⟨(by (with_reducible repeat (first | apply Kd.N_alloc | apply Kd.N_drewN | apply Kd.N_drew)); exact HO7.out)⟩, ⟨(by repeat (first | (with_reducible first | exact HB.out | apply below_alloc | apply pw_below_drewN | apply below_drew1) | exact HB.out))⟩⟩
    case round =>
      clear HO7 HB
      obtain ⟨y, out, rfl, HY, HT, HOL, HO7, HB⟩ := hrel
      obtain ⟨Ao, co, ev_⟩ := Kd.N_slice HO7.out
      subst ev_
      by_cases hy : y < n
      · by_cases hmo : (out.length : Int) < most
        · obtain ⟨d, hd⟩ : ∃ d, gk = d + 1 := ⟨gk - 1, by have := HY.out; omega⟩
          have HGD := Aside0.mk hd
          have hT := HT.out
          rw [hd, dL, if_pos hmo, show n - (d + 1) = y by have := HY.out; omega] at hT
          have HT2 := Aside0.mk hT
          clear hT hd
          have HRQ := Aside0.mk (Kd.C_below HR.out HB.out)
          have HB0 := HB
          clear HB
          have HB := Aside0.mk (Below.refl wr.heap.size wr)
          have HLN := Aside0.mk (show l.length ≤ 1000000 by omega)
          have HLM := Aside0.mk (show (l ++ [(y : Int)]).length ≤ 1048576 by rw [List.length_append, List.length_singleton]; omega)
          have HL2 := Aside0.mk (show (l ++ [(y : Int)]).length + f' = n by rw [List.length_append, List.length_singleton]; omega)
          have HUQ := Aside0.mk (Upto9_snoc HU.out (show y ≤ 9 by omega))
          have HSM := Aside0.mk (Upto9_small HUQ.out)
          have HM1 := Aside0.mk (show 1 ≤ most - (out.length : Int) by omega)
          have HM2 := Aside0.mk (show most - (out.length : Int) ≤ 1073741824 by omega)
          have hwr : IntKind.i64.wrap (most - (out.length : Int)) = most - (out.length : Int) := by rw [i64_w, w64 (by omega) (by omega)]
          have HFR := Aside0.mk (show ∀ k, wr.heap.size ≤ k → some k ≠ (.slice Ao out.length co : Value).ownBlock from fun k hk e => by have := Kd.N_lt HO7.out k e.symm; omega)
          generalize hm_ : l ++ [(y : Int)] = m at HT2 HLM HL2 HUQ HSM
          have HM := Aside0.mk hm_
          clear hm_
          by_cases hm : (y : Int) ∈ l
          · have H1 := Aside0.mk (decide_eq_true hm)
            have HN := Aside0.mk (show dL (dF n f') n l most d out = dF n (f' + 1) l most by have := HT2.out; rwa [if_pos hm] at this)
            clear hm
            go_wp2_with (first | (go_at_call 38; refine (l1Own_calls _ _ l _ (Kd.C_below HRQ.out (by repeat (first | (with_reducible first | exact HB.out | apply below_alloc | apply pw_below_drewN | apply below_drew1) | exact HB.out))) HC.out (by omega)).mono ?_; rintro e w1 ⟨v1, rfl, ho, hb⟩; have HO1 := Aside0.mk (Ow_lower ho (below_size (by repeat (first | (with_reducible first | exact HB.out | apply below_alloc | apply pw_below_drewN | apply below_drew1) | exact HB.out)))); have n0_ := Aside0.mk (below_step (by repeat (first | (with_reducible first | exact HB.out | apply below_alloc | apply pw_below_drewN | apply below_drew1) | exact HB.out)) hb); clear HB ho hb; have HB := n0_; clear n0_) | (((with_reducible refine gate_builtin (b := .append) (xs := #[.tmp 29, .tmp 31]) rfl ?_); at_builtin; refine Kd.R_append (Kd.int .i64) (w0 := wr) wr.heap.size rfl (.tmp 29) (.tmp 31) 30 3 (.int .i64 0) 8 rfl Try.underlying30 infoInt rfl (by decide) (by omega) v1 l ((y : Int)) [.int .i64 ((y : Int))] (fun _ => True) (fun _ => False) rfl rfl rfl (fun _ hk => hk.elim) (fun _ _ => trivial) ?aO ?aB ?aS ?aL ?_; (case aO => exact (by (with_reducible repeat (first | apply Kd.R_alloc | apply Kd.R_drewN | apply Kd.R_drew)); exact HO1.out)); (case aB => exact (by repeat (first | (with_reducible first | exact HB.out | apply below_alloc | apply pw_below_drewN | apply below_drew1) | exact HB.out))); (case aS => exact below_size (by repeat (first | (with_reducible first | exact HB.out | apply below_alloc | apply pw_below_drewN | apply below_drew1) | exact HB.out))); (case aL => have := HLN.out; omega); intro v2 w2 ho_ hb_ hg_ hat_; have n0_ := Aside0.mk hb_; have n1_ := Aside0.mk ho_; clear HB HO1; have HB := n0_; have HO1 := n1_; clear n0_ n1_ ho_ hb_ hg_ hat_); have n0_ := HO1.out; rw [HM.out] at n0_; clear HO1; have HO1 := Aside0.mk n0_; clear n0_; obtain ⟨A2, c2, e2_, hc2_, _⟩ := Ow_form HO1.out; subst e2_; have HC2 := Aside0.mk hc2_; clear hc2_) | (go_at_call 39; refine (has_calls A c l _ _ (Kd.C_below HRQ.out (by repeat (first | (with_reducible first | exact HB.out | apply below_alloc | apply pw_below_drewN | apply below_drew1) | exact HB.out))) HC.out (by omega)).mono ?_; rw [H1.out]; rintro e w' ⟨rfl, ⟨nd, rfl⟩⟩))
            repeat (go_quiet (fail); try go_wp2)
            go_roundg (gk - 1)
            case measure => have := HY.out; omega
            case rel => exact ⟨y + 1, out, by go_num, ⟨by have := HY.out; omega⟩, ⟨by rw [show gk - 1 = d by have := HGD.out; omega]; exact HN.out⟩, HOL, ⟨Kd.N_below HO7.out (by repeat (first | (with_reducible first | exact HB.out | apply below_alloc | apply pw_below_drewN | apply below_drew1) | exact HB.out))⟩, ⟨below_step HB0.out (by repeat (first | (with_reducible first | exact HB.out | apply below_alloc | apply pw_below_drewN | apply below_drew1) | exact HB.out))⟩⟩
          · have H1 := Aside0.mk (decide_eq_false hm)
            have hT := HT2.out
            rw [if_neg hm] at hT
            have HT3 := Aside0.mk hT
            clear hT hm
            by_cases hc : costasB m = true
            · have H2 := Aside0.mk hc
              have hT := HT3.out
              rw [if_pos hc] at hT
              have HYL0 := dF_eq n f' m (most - (out.length : Int)) HM1.out
              generalize hys_ : dF n f' m (most - (out.length : Int)) = ys at hT HYL0
              have HYS := Aside0.mk hys_
              have HT4 := Aside0.mk hT
              have HYL := Aside0.mk (show (ys.length : Int) ≤ most - (out.length : Int) by rw [HYL0, List.length_take]; omega)
              clear hT hc hys_ HYL0
              go_wp2_with (first | (go_at_call 38; refine (l1Own_calls _ _ l _ (Kd.C_below HRQ.out (by repeat (first | (with_reducible first | exact HB.out | apply below_alloc | apply pw_below_drewN | apply below_drew1) | exact HB.out))) HC.out (by omega)).mono ?_; rintro e w1 ⟨v1, rfl, ho, hb⟩; have HO1 := Aside0.mk (Ow_lower ho (below_size (by repeat (first | (with_reducible first | exact HB.out | apply below_alloc | apply pw_below_drewN | apply below_drew1) | exact HB.out)))); have n0_ := Aside0.mk (below_step (by repeat (first | (with_reducible first | exact HB.out | apply below_alloc | apply pw_below_drewN | apply below_drew1) | exact HB.out)) hb); clear HB ho hb; have HB := n0_; clear n0_) | (((with_reducible refine gate_builtin (b := .append) (xs := #[.tmp 29, .tmp 31]) rfl ?_); at_builtin; refine Kd.R_append (Kd.int .i64) (w0 := wr) wr.heap.size rfl (.tmp 29) (.tmp 31) 30 3 (.int .i64 0) 8 rfl Try.underlying30 infoInt rfl (by decide) (by omega) v1 l ((y : Int)) [.int .i64 ((y : Int))] (fun _ => True) (fun _ => False) rfl rfl rfl (fun _ hk => hk.elim) (fun _ _ => trivial) ?aO ?aB ?aS ?aL ?_; (case aO => exact (by (with_reducible repeat (first | apply Kd.R_alloc | apply Kd.R_drewN | apply Kd.R_drew)); exact HO1.out)); (case aB => exact (by repeat (first | (with_reducible first | exact HB.out | apply below_alloc | apply pw_below_drewN | apply below_drew1) | exact HB.out))); (case aS => exact below_size (by repeat (first | (with_reducible first | exact HB.out | apply below_alloc | apply pw_below_drewN | apply below_drew1) | exact HB.out))); (case aL => have := HLN.out; omega); intro v2 w2 ho_ hb_ hg_ hat_; have n0_ := Aside0.mk hb_; have n1_ := Aside0.mk ho_; clear HB HO1; have HB := n0_; have HO1 := n1_; clear n0_ n1_ ho_ hb_ hg_ hat_); have n0_ := HO1.out; rw [HM.out] at n0_; clear HO1; have HO1 := Aside0.mk n0_; clear n0_; obtain ⟨A2, c2, e2_, hc2_, _⟩ := Ow_form HO1.out; subst e2_; have HC2 := Aside0.mk hc2_; clear hc2_) | (go_at_call 39; refine (has_calls A c l _ _ (Kd.C_below HRQ.out (by repeat (first | (with_reducible first | exact HB.out | apply below_alloc | apply pw_below_drewN | apply below_drew1) | exact HB.out))) HC.out (by omega)).mono ?_; rw [H1.out]; rintro e w' ⟨rfl, ⟨nd, rfl⟩⟩) | (go_at_call 40; refine (doCostas_calls A2 c2 m _ (Ow_rd (by first | exact HO1.out | exact Ow_drewN HO1.out _)) HC2.out HLM.out HSM.out).mono ?_; rw [H2.out]; rintro e w3 ⟨rfl, hb⟩; have n0_ := Aside0.mk (below_step (by repeat (first | (with_reducible first | exact HB.out | apply below_alloc | apply pw_below_drewN | apply below_drew1) | exact HB.out)) hb); have n1_ := Aside0.mk (Ow_below (by first | exact HO1.out | exact Ow_drewN HO1.out _) hb); clear HB HO1 hb; have HB := n0_; have HO1 := n1_; clear n0_ n1_) | (go_at_call 25; refine (HIC.out A2 c2 m (most - (out.length : Int)) _ (Ow_rd (by first | exact HO1.out | exact Ow_drewN HO1.out _)) HC2.out HL2.out HM1.out HM2.out HUQ.out).mono ?_; rw [HYS.out]; rintro e w4 ⟨v4, rfl, ho, hb⟩; obtain ⟨A4, c4, e4_⟩ := Kd.N_slice ho; subst e4_; have HO4 := Aside0.mk (Kd.N_mono (ok' := fun k => wr.heap.size ≤ k) (Kd.N_lower ho (below_size (by repeat (first | (with_reducible first | exact HB.out | apply below_alloc | apply pw_below_drewN | apply below_drew1) | exact HB.out)))) (fun k hk => Nat.le_trans (below_size (by repeat (first | (with_reducible first | exact HB.out | apply below_alloc | apply pw_below_drewN | apply below_drew1) | exact HB.out))) hk)); have n0_ := Aside0.mk (below_step (by repeat (first | (with_reducible first | exact HB.out | apply below_alloc | apply pw_below_drewN | apply below_drew1) | exact HB.out)) hb); clear HB ho hb; have HB := n0_; clear n0_; have n1_ := Aside0.mk (Kd.N_below HO7.out HB.out); have n2_ := Aside0.mk (below_step HB0.out HB.out); clear HO7 HB; have HO7 := n1_; have HB := n2_; clear n1_ n2_) | ((with_reducible refine gate_builtin (b := .append) (xs := #[.tmp 41, .tmp 48]) rfl ?_); at_builtin; refine Kd.N_append_rows (Kd.slice 3 (Kd.int .i64)) (w0 := w) w.heap.size rfl (.tmp 41) (.tmp 48) 25 30 (.slice none 0 0) 24 rfl Try.underlying25 infoRowC rfl (by decide) (by omega) (.slice Ao out.length co) out ys _ _ _ (fun k => w.heap.size ≤ k) (fun k => wr.heap.size ≤ k) rfl rfl ?aO ?aR (fun k hk => ⟨Nat.le_trans HB0.out.size hk, HFR.out k hk⟩) (fun k hk => Nat.le_trans (below_size (by repeat (first | (with_reducible first | exact HB.out | apply below_alloc | apply pw_below_drewN | apply below_drew1) | exact HB.out))) hk) ?aB ?aS ?aL ?_; (case aO => exact (by (with_reducible repeat (first | apply Kd.N_alloc | apply Kd.N_drewN | apply Kd.N_drew)); exact HO7.out)); (case aR => exact Kd.N_F (by (with_reducible repeat (first | apply Kd.N_alloc | apply Kd.N_drewN | apply Kd.N_drew)); exact HO4.out)); (case aB => exact (by repeat (first | (with_reducible first | exact HB.out | apply below_alloc | apply pw_below_drewN | apply below_drew1) | exact HB.out))); (case aS => exact (below_size (by repeat (first | (with_reducible first | exact HB.out | apply below_alloc | apply pw_below_drewN | apply below_drew1) | exact HB.out)))); (case aL => have := HYL.out; omega); intro v5 w5 ho hb hg hat; clear HO7 HB HO4; have HO7 := Aside0.mk ho; have HB := Aside0.mk hb; clear ho hb hg hat))
              repeat (go_quiet (fail); try go_wp2)
              go_roundg (gk - 1)
              case measure => have := HY.out; omega
              case rel => exact ⟨y + 1, out ++ ys, by go_num, ⟨by have := HY.out; omega⟩, ⟨by rw [show gk - 1 = d by have := HGD.out; omega]; exact HT4.out⟩, ⟨by rw [List.length_append]; have := HYL.out; omega⟩, ⟨(by (with_reducible repeat (first | apply Kd.N_alloc | apply Kd.N_drewN | apply Kd.N_drew)); exact HO7.out)⟩, ⟨(by repeat (first | (with_reducible first | exact HB.out | apply below_alloc | apply pw_below_drewN | apply below_drew1) | exact HB.out))⟩⟩
            · have H2 := Aside0.mk (show costasB m = false by simpa using hc)
              have HN := Aside0.mk (show dL (dF n f') n l most d out = dF n (f' + 1) l most by have := HT3.out; rwa [if_neg hc] at this)
              clear hc
              go_wp2_with (first | (go_at_call 38; refine (l1Own_calls _ _ l _ (Kd.C_below HRQ.out (by repeat (first | (with_reducible first | exact HB.out | apply below_alloc | apply pw_below_drewN | apply below_drew1) | exact HB.out))) HC.out (by omega)).mono ?_; rintro e w1 ⟨v1, rfl, ho, hb⟩; have HO1 := Aside0.mk (Ow_lower ho (below_size (by repeat (first | (with_reducible first | exact HB.out | apply below_alloc | apply pw_below_drewN | apply below_drew1) | exact HB.out)))); have n0_ := Aside0.mk (below_step (by repeat (first | (with_reducible first | exact HB.out | apply below_alloc | apply pw_below_drewN | apply below_drew1) | exact HB.out)) hb); clear HB ho hb; have HB := n0_; clear n0_) | (((with_reducible refine gate_builtin (b := .append) (xs := #[.tmp 29, .tmp 31]) rfl ?_); at_builtin; refine Kd.R_append (Kd.int .i64) (w0 := wr) wr.heap.size rfl (.tmp 29) (.tmp 31) 30 3 (.int .i64 0) 8 rfl Try.underlying30 infoInt rfl (by decide) (by omega) v1 l ((y : Int)) [.int .i64 ((y : Int))] (fun _ => True) (fun _ => False) rfl rfl rfl (fun _ hk => hk.elim) (fun _ _ => trivial) ?aO ?aB ?aS ?aL ?_; (case aO => exact (by (with_reducible repeat (first | apply Kd.R_alloc | apply Kd.R_drewN | apply Kd.R_drew)); exact HO1.out)); (case aB => exact (by repeat (first | (with_reducible first | exact HB.out | apply below_alloc | apply pw_below_drewN | apply below_drew1) | exact HB.out))); (case aS => exact below_size (by repeat (first | (with_reducible first | exact HB.out | apply below_alloc | apply pw_below_drewN | apply below_drew1) | exact HB.out))); (case aL => have := HLN.out; omega); intro v2 w2 ho_ hb_ hg_ hat_; have n0_ := Aside0.mk hb_; have n1_ := Aside0.mk ho_; clear HB HO1; have HB := n0_; have HO1 := n1_; clear n0_ n1_ ho_ hb_ hg_ hat_); have n0_ := HO1.out; rw [HM.out] at n0_; clear HO1; have HO1 := Aside0.mk n0_; clear n0_; obtain ⟨A2, c2, e2_, hc2_, _⟩ := Ow_form HO1.out; subst e2_; have HC2 := Aside0.mk hc2_; clear hc2_) | (go_at_call 39; refine (has_calls A c l _ _ (Kd.C_below HRQ.out (by repeat (first | (with_reducible first | exact HB.out | apply below_alloc | apply pw_below_drewN | apply below_drew1) | exact HB.out))) HC.out (by omega)).mono ?_; rw [H1.out]; rintro e w' ⟨rfl, ⟨nd, rfl⟩⟩) | (go_at_call 40; refine (doCostas_calls A2 c2 m _ (Ow_rd (by first | exact HO1.out | exact Ow_drewN HO1.out _)) HC2.out HLM.out HSM.out).mono ?_; rw [H2.out]; rintro e w3 ⟨rfl, hb⟩; have n0_ := Aside0.mk (below_step (by repeat (first | (with_reducible first | exact HB.out | apply below_alloc | apply pw_below_drewN | apply below_drew1) | exact HB.out)) hb); have n1_ := Aside0.mk (Ow_below (by first | exact HO1.out | exact Ow_drewN HO1.out _) hb); clear HB HO1 hb; have HB := n0_; have HO1 := n1_; clear n0_ n1_))
              repeat (go_quiet (fail); try go_wp2)
              go_roundg (gk - 1)
              case measure => have := HY.out; omega
              case rel => exact ⟨y + 1, out, by go_num, ⟨by have := HY.out; omega⟩, ⟨by rw [show gk - 1 = d by have := HGD.out; omega]; exact HN.out⟩, HOL, ⟨Kd.N_below HO7.out (by repeat (first | (with_reducible first | exact HB.out | apply below_alloc | apply pw_below_drewN | apply below_drew1) | exact HB.out))⟩, ⟨below_step HB0.out (by repeat (first | (with_reducible first | exact HB.out | apply below_alloc | apply pw_below_drewN | apply below_drew1) | exact HB.out))⟩⟩
        · have HF := Aside0.mk (show dF n (f' + 1) l most = out by
            rw [← HT.out]
            obtain ⟨d, hd⟩ : ∃ d, gk = d + 1 := ⟨gk - 1, by have := HY.out; omega⟩
            rw [hd, dL, if_neg hmo])
          (go_wp2; repeat (go_quiet (fail); try go_wp2))
          go_ret
          exact ⟨_, rfl, by rw [HF.out]; exact (by (with_reducible repeat (first | apply Kd.N_alloc | apply Kd.N_drewN | apply Kd.N_drew)); exact HO7.out), (by repeat (first | (with_reducible first | exact HB.out | apply below_alloc | apply pw_below_drewN | apply below_drew1) | exact HB.out))⟩
      · have HF := Aside0.mk (show dF n (f' + 1) l most = out by rw [← HT.out, show gk = 0 by have := HY.out; omega, dL])
        (go_wp2; repeat (go_quiet (fail); try go_wp2))
        go_ret
        exact ⟨_, rfl, by rw [HF.out]; exact (by (with_reducible repeat (first | apply Kd.N_alloc | apply Kd.N_drewN | apply Kd.N_drew)); exact HO7.out), (by repeat (first | (with_reducible first | exact HB.out | apply below_alloc | apply pw_below_drewN | apply below_drew1) | exact HB.out))⟩
theorem doAll_calls (n f : Nat) (hn : n ≤ 9) : DoAllC n f := by
  induction f with
  | zero => exact doAll_step n 0 hn (fun f' h => by omega)
  | succ f ih => exact doAll_step n (f + 1) hn (fun f' h => by rw [show f' = f by omega]; exact ih)
end Go.Proofs.Ytafnipklejfbmaa.Own.G
