/- Rings of numbers whose differences are all different: what the program's ring and FirstRing return; no condition. -/
import Derived.Test.YtaodmegnbkimeaaOwnLabelD
import Derived.Test.YtaodmegnbkimeaaOwnSh
namespace Go.Proofs.Ytaodmegnbkimeaa.Own.G
open Go.RowKit Go.Proofs.YtaodmegnbkimeaaW.PrintWords Go.Proofs.YtaodmegnbkimeaaW.PrintLast Go.Proofs.YtaodmegnbkimeaaW.PrintMore
set_option linter.unusedVariables false
/-- The first i steps of a list. -/
def stepsN (l : List Int) (i : Nat) : List Int := (List.range i).map fun j : Nat => dist (rd l ((j + 1 : Nat) : Int)) (rd l (j : Int))
theorem stepsN_length (l : List Int) (i : Nat) : (stepsN l i).length = i := by simp [stepsN]
theorem stepsN_succ (l : List Int) (i : Nat) : stepsN l (i + 1) = stepsN l i ++ [dist (rd l ((i + 1 : Nat) : Int)) (rd l (i : Int))] := by
  unfold stepsN
  rw [List.range_succ, List.map_append]
  rfl
def lastOf (l : List Int) : Int := rd l ((l.length : Int) - 1)
def stepsOf (l : List Int) : List Int := stepsN l (l.length - 1)
instance (l : List Int) : Decidable (Unl l) := inferInstanceAs (Decidable (∀ i : Nat, i < l.length → rd l (i : Int) ∉ l.take i))
def tryK (g : List Int → List Int × Bool) (n : Nat) (l : List Int) : Nat → List Int × Bool
  | 0 => ([], false)
  | d + 1 => if ((n - d : Nat) : Int) ∈ l then tryK g n l d else if dist ((n - d : Nat) : Int) (lastOf l) ∈ stepsOf l then tryK g n l d else if (g (l ++ [((n - d : Nat) : Int)])).2 = true then (g (l ++ [((n - d : Nat) : Int)])) else tryK g n l d
def ringF (n : Nat) : Nat → List Int → List Int × Bool
  | 0, l => (l, decide (Unl (stepsOf l ++ [lastOf l - rd l 0])))
  | f + 1, l => tryK (ringF n f) n l (n + 1)
def Upto8 (l : List Int) : Prop := ∀ x ∈ l, 0 ≤ x ∧ x ≤ 8
theorem Upto8_rd {m : List Int} (h : Upto8 m) {i : Int} (h0 : 0 ≤ i) (h1 : i < (m.length : Int)) : 0 ≤ rd m i ∧ rd m i ≤ 8 := by
  obtain ⟨n, rfl⟩ : ∃ n : Nat, i = (n : Int) := ⟨i.toNat, by omega⟩
  exact h _ (rd_mem (by omega))
theorem Upto8_snoc {l : List Int} (h : Upto8 l) {k : Nat} (hk : k ≤ 8) : Upto8 (l ++ [(k : Int)]) := fun x hx => by
  rcases List.mem_append.mp hx with h1 | h1
  · exact h x h1
  · rw [List.mem_singleton.mp h1]; omega
/-- What ring's contract says, with a number f of places left. -/
def RingC (n f : Nat) : Prop := ∀ (v : Value) (l : List Int) (B : Nat) (w : World), Ow w B v l → B ≤ w.heap.size → 1 ≤ l.length → l.length + f = n → Upto8 l →
  Calls Try.prog 24 #[v, .int .i64 (n : Int)] w fun e w' => ∃ u, e = .returned (.tuple #[u, .bool (ringF n f l).2]) ∧ Ow w' B u (ringF n f l).1 ∧ Below w.heap.size w w'
set_option maxRecDepth 8000 in
set_option maxHeartbeats 6400000 in
theorem ring_step (n f : Nat) (hn : n ≤ 8) (hih : ∀ f', f = f' + 1 → RingC n f') : RingC n f := by
  intro v l B w ho hBw hl1 hlf hup
  have HIH := Aside0.mk hih
  obtain ⟨A, c, rfl, hcap, hrd⟩ := Ow_form ho
  have HV := Aside0.mk ho
  have HR := Aside0.mk hrd
  have HC := Aside0.mk hcap
  have HU := Aside0.mk hup
  have HBW := Aside0.mk hBw
  obtain ⟨ad, rfl, hx0⟩ := at_first hrd (by omega)
  clear hih ho hcap hrd hup hBw
  have HB := Aside0.mk (Below.refl w.heap.size w)
  obtain ⟨m, hm⟩ : ∃ m : Int, IntKind.i64.wrap ((l.length : Int) - 1) = m := ⟨_, rfl⟩
  have HM := Aside0.mk (show m = (l.length : Int) - 1 by rw [← hm, i64_w, w64 (by omega) (by omega)])
  have m0 : 0 ≤ m := by have := HM.out; omega
  have m2 : m < (l.length : Int) := by have := HM.out; omega
  obtain ⟨ad2, e2, hxm⟩ := Kd.at_int HR.out m m0 m2
  obtain rfl : ad = ad2 := by injection e2
  clear e2
  obtain ⟨z, hz⟩ : ∃ z : Int, rd l m = z := ⟨_, rfl⟩
  rw [hz] at hxm
  have HZ := Aside0.mk (show lastOf l = z by rw [← hz, HM.out]; rfl)
  have hzb := Upto8_rd HU.out m0 m2
  rw [hz] at hzb
  have hx0b := Upto8_rd HU.out (show (0 : Int) ≤ 0 by omega) (by omega)
  obtain ⟨y0, hy0⟩ : ∃ y0 : Int, rd l 0 = y0 := ⟨_, rfl⟩
  rw [hy0] at hx0 hx0b
  have HX0 := Aside0.mk hx0
  have HY0 := Aside0.mk hy0
  clear hz hy0 hx0
  have HO := Aside0.mk (Kd.R_nil (Kd.int .i64) 3 w w.heap.size (fun _ => True))
  go_enter Try.func24, Try.ntmps24
  (go_wp2; repeat (go_quiet (fail); try go_wp2))
  clear hxm
  go_loopg [7, 8] (l.length - 1) (fun g v7 v8 w' => ∃ (i : Nat) (k : Int) (xs : List Int), v8 = .int .i64 k ∧ Aside0 (k = (i : Int) + 1) ∧ Aside0 (i + g = l.length - 1) ∧ Aside0 (xs = stepsN l i) ∧ Aside0 (xs.length ≤ 1000) ∧ Aside0 (Ow w' w.heap.size v7 xs) ∧ Aside0 (Below w.heap.size w w'))
  case atStart => exact ⟨0, _, [], rfl, ⟨by omega⟩, ⟨by omega⟩, ⟨rfl⟩, ⟨by simp⟩, ⟨(by first | exact HO.out | exact Ow_drewN HO.out _)⟩, ⟨(by repeat (first | (with_reducible first | exact HB.out | apply below_alloc | apply pw_below_drewN | apply below_drew1) | exact HB.out))⟩⟩
  case round =>
    clear HO HB
    obtain ⟨i, k, xs, rfl, HK, HI, HX, HXL, HO, HB⟩ := hrel
    by_cases hlt : k < (l.length : Int)
    · have k0 : 1 ≤ k := by have := HK.out; omega
      have kz : 0 ≤ k := by omega
      obtain ⟨j, hj⟩ : ∃ j : Int, IntKind.i64.wrap (k - 1) = j := ⟨_, rfl⟩
      have HJ := Aside0.mk (show j = (i : Int) by rw [← hj, i64_w, w64 (by omega) (by omega), HK.out]; omega)
      have j0 : 0 ≤ j := by have := HJ.out; omega
      have j1 : j < (l.length : Int) := by have := HJ.out; have := HK.out; omega
      obtain ⟨ad1, e1, hx⟩ := Kd.at_int HR.out k (by omega) hlt
      obtain rfl : ad = ad1 := by injection e1
      clear e1
      obtain ⟨ad1, e1, hy⟩ := Kd.at_int HR.out j j0 j1
      obtain rfl : ad = ad1 := by injection e1
      clear e1
      have hq1 := Upto8_rd HU.out (show 0 ≤ k by omega) hlt
      have hq2 := Upto8_rd HU.out j0 j1
      have HS := Aside0.mk (stepsN_succ l i)
      rw [show ((i + 1 : Nat) : Int) = k by have := HK.out; omega, ← HJ.out] at HS
      generalize rd l k = a at hx hq1 HS
      generalize rd l j = b at hy hq2 HS
      have HZ0 := Aside0.mk hx
      have HZ1 := Aside0.mk hy
      replace hx := (HB.out.cell (World.block_lt_of_cell? w _ hx)).trans hx
      replace hy := (HB.out.cell (World.block_lt_of_cell? w _ hy)).trans hy
      have HXX := Aside0.mk (show xs ++ [dist a b] = stepsN l (i + 1) by rw [HX.out, HS.out])
      have hw : IntKind.i64.wrap (a - b) = a - b := by rw [i64_w, w64 (by omega) (by omega)]
      have HXL2 := Aside0.mk (show xs.length ≤ 1048576 by have := HXL.out; omega)
      go_wp2
      go_region_held3 (fun w' => w'.cell? (ad.add k.toNat) = some (.int .i64 a) ∧ w'.cell? (ad.add j.toNat) = some (.int .i64 b))
        (first | go_keep | exact ⟨by assumption, by assumption⟩ | (go_split_ands; exact ⟨by assumption, by assumption⟩))
        ((first | (go_at_call 34; refine (apart_calls _ _ _ (by omega) (by omega) (by omega) (by omega)).mono ?_; rintro e w' ⟨rfl, ⟨nd, rfl⟩⟩) | (refine own_append_step (by rfl) _ _ (by rfl) w.heap.size _ u7 xs (dist a b) (by rfl) ?apO (by rfl) HXL2.out ?apS ?_; (case apO => exact Ow_drewN HO.out _); (case apS => have := HB.out.size; simpa using this); intro v2 w2 ho hg; have HB2 := Aside0.mk (below_grown (pw_below_drewN HB.out _) hg (Ow_drewN HO.out _)); have g0 := (HB2.out.cell (World.block_lt_of_cell? w _ HZ0.out)).trans HZ0.out; have g1 := (HB2.out.cell (World.block_lt_of_cell? w _ HZ1.out)).trans HZ1.out; have HO2 := Aside0.mk ho; clear ho hg)))
      clear hx hy g0 g1
      go_wp2
      go_roundg (gk - 1)
      case measure => have := HI.out; have := HK.out; omega
      case rel => exact ⟨i + 1, k + 1, _, by go_num, ⟨by have := HK.out; omega⟩, ⟨by have := HI.out; have := HK.out; omega⟩, HXX, ⟨by rw [HX.out, List.length_append, stepsN_length, List.length_singleton]; have := HI.out; omega⟩, HO2, HB2⟩
    · have HE := Aside0.mk (show xs = stepsOf l by rw [HX.out, stepsOf, show i = l.length - 1 by have := HI.out; have := HK.out; omega])
      have HXL3 := Aside0.mk (show xs.length ≤ 1000000 by have := HXL.out; omega)
      by_cases hz : l.length = n
      · obtain rfl : f = 0 := by omega
        have ht : ((l.length : Int) == (n : Int)) = true := beq_iff_eq.mpr (by omega)
        have HF := Aside0.mk (show ringF n 0 l = (l, tf (Unl (xs ++ [z - y0]))) by rw [ringF, HE.out, HZ.out, HY0.out, tf_dec])
        clear hz hlf
        have hx0 := HX0.out
        replace hx0 := (HB.out.cell (World.block_lt_of_cell? w _ hx0)).trans hx0
        have HAL := Aside0.mk (show (xs ++ [z - y0]).length ≤ 1048576 by rw [List.length_append, List.length_singleton]; have := HXL.out; omega)
        go_wp2_with (first | ((with_reducible refine gate_builtin (b := .append) (xs := #[.tmp 42, .tmp 48]) rfl ?_); at_builtin; refine Kd.R_append (Kd.int .i64) (w0 := w) w.heap.size rfl (.tmp 42) (.tmp 48) 22 3 (.int .i64 0) 8 rfl Try.underlying22 infoInt rfl (by decide) (by omega) u7 xs (z - y0) [.int .i64 (z - y0)] (fun _ => True) (fun _ => False) rfl rfl rfl (fun _ hk => hk.elim) (fun _ _ => trivial) ?aO ?aB ?aS ?aL ?_; (case aO => exact (by (with_reducible repeat (first | apply Kd.R_alloc | apply Kd.R_drewN | apply Kd.R_drew)); exact HO.out)); (case aB => exact (by repeat (first | (with_reducible first | exact HB.out | apply below_alloc | apply pw_below_drewN | apply below_drew1) | exact HB.out))); (case aS => exact below_size (by repeat (first | (with_reducible first | exact HB.out | apply below_alloc | apply pw_below_drewN | apply below_drew1) | exact HB.out))); (case aL => have := HXL3.out; omega); intro v2 w2 ho_ hb_ hg_ hat_; have n0_ := Aside0.mk hb_; have n1_ := Aside0.mk ho_; clear HB HO; have HB := n0_; have HO := n1_; clear n0_ n1_ ho_ hb_ hg_ hat_) | (go_at_call 29; obtain ⟨A2, c2, e2_, hc2_, hr2_⟩ := Ow_form HO.out; subst e2_; refine (unlike_calls _ _ (xs ++ [z - y0]) _ (by first | exact hr2_ | exact Kd.C_drewN hr2_ _) hc2_ HAL.out).mono ?_; rintro e w' ⟨rfl, ⟨nd2, rfl⟩⟩; clear hc2_ hr2_))
        repeat (go_quiet (fail); try go_wp2)
        go_ret2
        exact ⟨_, by rw [HF.out]; rfl, by rw [HF.out]; exact Ow_below HV.out (by repeat (first | (with_reducible first | exact HB.out | apply below_alloc | apply pw_below_drewN | apply below_drew1) | exact HB.out)), (by repeat (first | (with_reducible first | exact HB.out | apply below_alloc | apply pw_below_drewN | apply below_drew1) | exact HB.out))⟩
      · obtain ⟨f', rfl⟩ : ∃ f', f = f' + 1 := ⟨f - 1, by omega⟩
        have HIC := Aside0.mk (HIH.out f' rfl)
        have ht : ((l.length : Int) == (n : Int)) = false := beq_eq_false_iff_ne.mpr (by omega)
        have HFF := Aside0.mk (show ringF n (f' + 1) l = tryK (ringF n f') n l (n + 1) from rfl)
        (go_wp2; repeat (go_quiet (fail); try go_wp2))
        obtain ⟨As, cs, rfl, hcs_, hrs_⟩ := Ow_form HO.out
        have HCS := Aside0.mk hcs_
        clear hcs_ hrs_
        obtain ⟨wo, rfl⟩ : ∃ wo : World, wo = wr := ⟨_, rfl⟩
        go_loopg [53] (n + 1) (fun g v53 w' => ∃ i : Nat, v53 = .int .i64 i ∧ Aside0 (i + g = n + 1) ∧ Aside0 (tryK (ringF n f') n l g = ringF n (f' + 1) l) ∧ Aside0 (Ow w' w.heap.size (.slice As xs.length cs) xs) ∧ Aside0 (Below w.heap.size w w'))
        case atStart => exact ⟨0, rfl, ⟨by omega⟩, ⟨rfl⟩, ⟨(by first | exact HO.out | exact Ow_drewN HO.out _)⟩, ⟨(by repeat (first | (with_reducible first | exact HB.out | apply below_alloc | apply pw_below_drewN | apply below_drew1) | exact HB.out))⟩⟩
        case round =>
          clear HO HB
          obtain ⟨q, rfl, HQ, HT, HO, HB⟩ := hrel
          by_cases hq : q < n + 1
          · obtain ⟨d, hd⟩ : ∃ d, gk = d + 1 := ⟨gk - 1, by have := HQ.out; omega⟩
            have HDQ := Aside0.mk (show n - d = q by have := HQ.out; omega)
            have HGD := Aside0.mk hd
            have hT := HT.out
            rw [hd, tryK, HDQ.out, HZ.out, ← HE.out] at hT
            have HT2 := Aside0.mk hT
            clear hT hd
            by_cases hm : (q : Int) ∈ l
            · have H1 := Aside0.mk (decide_eq_true hm)
              have HN := Aside0.mk (show tryK (ringF n f') n l d = ringF n (f' + 1) l by have := HT2.out; rwa [if_pos hm] at this)
              clear hm
              go_wp2_with (go_at_call 27; with_reducible refine (Contains_calls (some ad) c l _ _ (Kd.C_below HR.out (by repeat (first | (with_reducible first | exact HB.out | apply below_alloc | apply pw_below_drewN | apply below_drew1) | exact HB.out))) HC.out (by omega)).mono ?_; rw [H1.out]; rintro e w' ⟨rfl, ⟨nd, rfl⟩⟩)
              repeat (go_quiet (fail); try go_wp2)
              go_roundg (gk - 1)
              case measure => have := HQ.out; omega
              case rel => exact ⟨q + 1, by go_num, ⟨by have := HQ.out; omega⟩, ⟨by rw [show gk - 1 = d by have := HGD.out; omega]; exact HN.out⟩, ⟨(by first | exact HO.out | exact Ow_drewN HO.out _)⟩, ⟨(by repeat (first | (with_reducible first | exact HB.out | apply below_alloc | apply pw_below_drewN | apply below_drew1) | exact HB.out))⟩⟩
            · have H1 := Aside0.mk (decide_eq_false hm)
              have hT := HT2.out
              rw [if_neg hm] at hT
              have HT3 := Aside0.mk hT
              clear hT hm
              by_cases hs : dist (q : Int) z ∈ xs
              · have H2 := Aside0.mk (decide_eq_true hs)
                have HN := Aside0.mk (show tryK (ringF n f') n l d = ringF n (f' + 1) l by have := HT3.out; rwa [if_pos hs] at this)
                clear hs
                go_wp2_with (first | (go_at_call 27; with_reducible refine (Contains_calls (some ad) c l _ _ (Kd.C_below HR.out (by repeat (first | (with_reducible first | exact HB.out | apply below_alloc | apply pw_below_drewN | apply below_drew1) | exact HB.out))) HC.out (by omega)).mono ?_; rw [H1.out]; rintro e w' ⟨rfl, ⟨nd, rfl⟩⟩) | (go_at_call 34; refine (apart_calls _ _ _ (by omega) (by omega) (by omega) (by omega)).mono ?_; rintro e w' ⟨rfl, ⟨nd, rfl⟩⟩) | (go_at_call 27; with_reducible refine (Contains_calls As cs xs _ _ (Ow_rd (by first | exact HO.out | exact Ow_drewN HO.out _)) HCS.out (by have := HXL.out; omega)).mono ?_; rw [H2.out]; rintro e w' ⟨rfl, ⟨nd3, rfl⟩⟩))
                repeat (go_quiet (fail); try go_wp2)
                go_roundg (gk - 1)
                case measure => have := HQ.out; omega
                case rel => exact ⟨q + 1, by go_num, ⟨by have := HQ.out; omega⟩, ⟨by rw [show gk - 1 = d by have := HGD.out; omega]; exact HN.out⟩, ⟨(by first | exact HO.out | exact Ow_drewN HO.out _)⟩, ⟨(by repeat (first | (with_reducible first | exact HB.out | apply below_alloc | apply pw_below_drewN | apply below_drew1) | exact HB.out))⟩⟩
              · have H2 := Aside0.mk (decide_eq_false hs)
                have hT := HT3.out
                rw [if_neg hs] at hT
                have HT4 := Aside0.mk hT
                clear hT hs
                have HB0 := HB
                clear HB
                have HB := Aside0.mk (Below.refl wr.heap.size wr)
                have HRQ := Aside0.mk (Kd.C_below HR.out HB0.out)
                have HLN := Aside0.mk (show l.length ≤ 1000000 by omega)
                have HL1 := Aside0.mk (show 1 ≤ (l ++ [(q : Int)]).length by rw [List.length_append, List.length_singleton]; omega)
                have HL2 := Aside0.mk (show (l ++ [(q : Int)]).length + f' = n by rw [List.length_append, List.length_singleton]; omega)
                have HUQ := Aside0.mk (Upto8_snoc HU.out (show q ≤ 8 by omega))
                by_cases hg : (ringF n f' (l ++ [(q : Int)])).2 = true
                · have HG := Aside0.mk hg
                  have HF := Aside0.mk (show ringF n (f' + 1) l = ringF n f' (l ++ [(q : Int)]) by rw [← HT4.out, if_pos hg])
                  clear hg
                  go_wp2_with (first | (go_at_call 27; with_reducible refine (Contains_calls (some ad) c l _ _ (Kd.C_below HRQ.out (by repeat (first | (with_reducible first | exact HB.out | apply below_alloc | apply pw_below_drewN | apply below_drew1) | exact HB.out))) HC.out (by omega)).mono ?_; rw [H1.out]; rintro e w' ⟨rfl, ⟨nd, rfl⟩⟩) | (go_at_call 34; refine (apart_calls _ _ _ (by omega) (by omega) (by omega) (by omega)).mono ?_; rintro e w' ⟨rfl, ⟨nd, rfl⟩⟩) | (go_at_call 27; with_reducible refine (Contains_calls As cs xs _ _ (Ow_rd (by first | exact HO.out | exact Ow_drewN HO.out _)) HCS.out (by have := HXL.out; omega)).mono ?_; rw [H2.out]; rintro e w' ⟨rfl, ⟨nd3, rfl⟩⟩) | (go_at_call 28; refine (Clone_calls _ _ l _ (Kd.C_below HRQ.out (by repeat (first | (with_reducible first | exact HB.out | apply below_alloc | apply pw_below_drewN | apply below_drew1) | exact HB.out))) HC.out (by omega)).mono ?_; rintro e w1 ⟨v1, rfl, ho, hb⟩; have HO1 := Aside0.mk (Ow_lower ho (below_size (by repeat (first | (with_reducible first | exact HB.out | apply below_alloc | apply pw_below_drewN | apply below_drew1) | exact HB.out)))); have n0_ := Aside0.mk (below_step (by repeat (first | (with_reducible first | exact HB.out | apply below_alloc | apply pw_below_drewN | apply below_drew1) | exact HB.out)) hb); clear HB ho hb; have HB := n0_; clear n0_) | ((with_reducible refine gate_builtin (b := .append) (xs := #[.tmp 68, .tmp 70]) rfl ?_); at_builtin; refine Kd.R_append (Kd.int .i64) (w0 := wr) wr.heap.size rfl (.tmp 68) (.tmp 70) 22 3 (.int .i64 0) 8 rfl Try.underlying22 infoInt rfl (by decide) (by omega) v1 l ((q : Int)) [.int .i64 ((q : Int))] (fun _ => True) (fun _ => False) rfl rfl rfl (fun _ hk => hk.elim) (fun _ _ => trivial) ?aO ?aB ?aS ?aL ?_; (case aO => exact (by (with_reducible repeat (first | apply Kd.R_alloc | apply Kd.R_drewN | apply Kd.R_drew)); exact HO1.out)); (case aB => exact (by repeat (first | (with_reducible first | exact HB.out | apply below_alloc | apply pw_below_drewN | apply below_drew1) | exact HB.out))); (case aS => exact below_size (by repeat (first | (with_reducible first | exact HB.out | apply below_alloc | apply pw_below_drewN | apply below_drew1) | exact HB.out))); (case aL => have := HLN.out; omega); intro v2 w2 ho_ hb_ hg_ hat_; have n0_ := Aside0.mk hb_; have n1_ := Aside0.mk ho_; clear HB HO1; have HB := n0_; have HO1 := n1_; clear n0_ n1_ ho_ hb_ hg_ hat_) | (go_at_call 24; refine (HIC.out v2 (l ++ [(q : Int)]) wr.heap.size _ (by first | exact HO1.out | exact Ow_drewN HO1.out _) (below_size (by repeat (first | (with_reducible first | exact HB.out | apply below_alloc | apply pw_below_drewN | apply below_drew1) | exact HB.out))) HL1.out HL2.out HUQ.out).mono ?_; rw [HG.out]; rintro e w3 ⟨u3, rfl, ho, hb⟩; have n1_ := Aside0.mk ho; have n0_ := Aside0.mk (below_step (by repeat (first | (with_reducible first | exact HB.out | apply below_alloc | apply pw_below_drewN | apply below_drew1) | exact HB.out)) hb); clear HB HO1 ho hb; have HB := n0_; have HO1 := n1_; clear n0_ n1_))
                  repeat (go_quiet (fail); try go_wp2)
                  go_ret2
                  exact ⟨_, by rw [HF.out, HG.out]; rfl, by rw [HF.out]; exact Ow_lower (by first | exact HO1.out | exact Ow_drewN HO1.out _) (Nat.le_trans HBW.out HB0.out.size), below_step HB0.out (by repeat (first | (with_reducible first | exact HB.out | apply below_alloc | apply pw_below_drewN | apply below_drew1) | exact HB.out))⟩
                · have HG := Aside0.mk (show (ringF n f' (l ++ [(q : Int)])).2 = false by simpa using hg)
                  have HN := Aside0.mk (show tryK (ringF n f') n l d = ringF n (f' + 1) l by have := HT4.out; rwa [if_neg hg] at this)
                  clear hg
                  go_wp2_with (first | (go_at_call 27; with_reducible refine (Contains_calls (some ad) c l _ _ (Kd.C_below HRQ.out (by repeat (first | (with_reducible first | exact HB.out | apply below_alloc | apply pw_below_drewN | apply below_drew1) | exact HB.out))) HC.out (by omega)).mono ?_; rw [H1.out]; rintro e w' ⟨rfl, ⟨nd, rfl⟩⟩) | (go_at_call 34; refine (apart_calls _ _ _ (by omega) (by omega) (by omega) (by omega)).mono ?_; rintro e w' ⟨rfl, ⟨nd, rfl⟩⟩) | (go_at_call 27; with_reducible refine (Contains_calls As cs xs _ _ (Ow_rd (by first | exact HO.out | exact Ow_drewN HO.out _)) HCS.out (by have := HXL.out; omega)).mono ?_; rw [H2.out]; rintro e w' ⟨rfl, ⟨nd3, rfl⟩⟩) | (go_at_call 28; refine (Clone_calls _ _ l _ (Kd.C_below HRQ.out (by repeat (first | (with_reducible first | exact HB.out | apply below_alloc | apply pw_below_drewN | apply below_drew1) | exact HB.out))) HC.out (by omega)).mono ?_; rintro e w1 ⟨v1, rfl, ho, hb⟩; have HO1 := Aside0.mk (Ow_lower ho (below_size (by repeat (first | (with_reducible first | exact HB.out | apply below_alloc | apply pw_below_drewN | apply below_drew1) | exact HB.out)))); have n0_ := Aside0.mk (below_step (by repeat (first | (with_reducible first | exact HB.out | apply below_alloc | apply pw_below_drewN | apply below_drew1) | exact HB.out)) hb); clear HB ho hb; have HB := n0_; clear n0_) | ((with_reducible refine gate_builtin (b := .append) (xs := #[.tmp 68, .tmp 70]) rfl ?_); at_builtin; refine Kd.R_append (Kd.int .i64) (w0 := wr) wr.heap.size rfl (.tmp 68) (.tmp 70) 22 3 (.int .i64 0) 8 rfl Try.underlying22 infoInt rfl (by decide) (by omega) v1 l ((q : Int)) [.int .i64 ((q : Int))] (fun _ => True) (fun _ => False) rfl rfl rfl (fun _ hk => hk.elim) (fun _ _ => trivial) ?aO ?aB ?aS ?aL ?_; (case aO => exact (by (with_reducible repeat (first | apply Kd.R_alloc | apply Kd.R_drewN | apply Kd.R_drew)); exact HO1.out)); (case aB => exact (by repeat (first | (with_reducible first | exact HB.out | apply below_alloc | apply pw_below_drewN | apply below_drew1) | exact HB.out))); (case aS => exact below_size (by repeat (first | (with_reducible first | exact HB.out | apply below_alloc | apply pw_below_drewN | apply below_drew1) | exact HB.out))); (case aL => have := HLN.out; omega); intro v2 w2 ho_ hb_ hg_ hat_; have n0_ := Aside0.mk hb_; have n1_ := Aside0.mk ho_; clear HB HO1; have HB := n0_; have HO1 := n1_; clear n0_ n1_ ho_ hb_ hg_ hat_) | (go_at_call 24; refine (HIC.out v2 (l ++ [(q : Int)]) wr.heap.size _ (by first | exact HO1.out | exact Ow_drewN HO1.out _) (below_size (by repeat (first | (with_reducible first | exact HB.out | apply below_alloc | apply pw_below_drewN | apply below_drew1) | exact HB.out))) HL1.out HL2.out HUQ.out).mono ?_; rw [HG.out]; rintro e w3 ⟨u3, rfl, ho, hb⟩; have n1_ := Aside0.mk ho; have n0_ := Aside0.mk (below_step (by repeat (first | (with_reducible first | exact HB.out | apply below_alloc | apply pw_below_drewN | apply below_drew1) | exact HB.out)) hb); clear HB HO1 ho hb; have HB := n0_; have HO1 := n1_; clear n0_ n1_))
                  repeat (go_quiet (fail); try go_wp2)
                  go_roundg (gk - 1)
                  case measure => have := HQ.out; omega
                  case rel => exact ⟨q + 1, by go_num, ⟨by have := HQ.out; omega⟩, ⟨by rw [show gk - 1 = d by have := HGD.out; omega]; exact HN.out⟩, ⟨Ow_below HO.out (by repeat (first | (with_reducible first | exact HB.out | apply below_alloc | apply pw_below_drewN | apply below_drew1) | exact HB.out))⟩, ⟨below_step HB0.out (by repeat (first | (with_reducible first | exact HB.out | apply below_alloc | apply pw_below_drewN | apply below_drew1) | exact HB.out))⟩⟩
          · have HF := Aside0.mk (show ringF n (f' + 1) l = ([], false) by rw [← HT.out, show gk = 0 by have := HQ.out; omega, tryK])
            (go_wp2; repeat (go_quiet (fail); try go_wp2))
            go_ret2
            exact ⟨_, by rw [HF.out]; rfl, by rw [HF.out]; exact Kd.R_nil _ _ _ _ _, (by repeat (first | (with_reducible first | exact HB.out | apply below_alloc | apply pw_below_drewN | apply below_drew1) | exact HB.out))⟩
end Go.Proofs.Ytaodmegnbkimeaa.Own.G
