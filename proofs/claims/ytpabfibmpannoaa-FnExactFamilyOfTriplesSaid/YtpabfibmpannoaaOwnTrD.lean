/- Difference triples: the walk of the reference's trOnce. -/
import Derived.Test.YtpabfibmpannoaaOwnTrC
namespace Go.Proofs.Ytpabfibmpannoaa.Own.G
open Go.RowKit Go.Proofs.YtpabfibmpannoaaW.PrintWords Go.Proofs.YtpabfibmpannoaaW.PrintLast Go.Proofs.YtpabfibmpannoaaW.PrintMore
set_option linter.unusedVariables false
abbrev OwB (w : World) (B : Nat) (v : Value) (l : List Bool) : Prop := Kd.R Kd.bool 4 w B (fun _ => True) v l
theorem infoB : (Try.prog.info? 4).map (fun i => (i.zero, i.size, i.bytes)) = some (some (.bool false), 1, 1) := by kernel_rfl
set_option maxRecDepth 8000 in
set_option maxHeartbeats 6400000 in
theorem trOnce_calls (v : Int) (ts : List (List Int)) (A : Option Addr) (c : Nat) (A1 : Option Addr) (c1 : Nat) (S0 : List Bool) (w : World) (hr : RdS w A ts) (hc : ts.length ≤ c) (hr1 : Kd.C Kd.bool w A1 S0.length S0) (hc1 : S0.length ≤ c1) (hn : ts.length ≤ 1000) (hR : ∀ i : Nat, i < ts.length → RowI v ts.length (row ts i)) (hS : Left ts.length S0 []) :
    Calls Try.prog 74 #[.slice A ts.length c, .slice A1 S0.length c1] w fun e w' => e = .returned (.bool (tf ts.flatten.Nodup)) ∧ Below w.heap.size w w' := by
  have HR := Aside0.mk hr
  have HC := Aside0.mk hc
  have HR1 := Aside0.mk hr1
  have HC1 := Aside0.mk hc1
  have HRI := Aside0.mk hR
  have HS := Aside0.mk hS
  have hs0 : 2 ≤ S0.length ∧ S0.length ≤ 3002 := by have := hS.1; omega
  clear hr hc hr1 hc1 hR hS
  have HB := Aside0.mk (Below.refl w.heap.size w)
  go_enter Try.func74, Try.ntmps74
  go_wp2_with (first | ((with_reducible refine gate_dst (N := 12) rfl ?_); refine Kd.R_lit Kd.bool _ 4 ?hg (N := 12) ?hd (xs := ([] : List Bool)) (inner := []) (ok := fun _ => True) (okp := fun _ => True) ?hr ?hp (fun _ hk => hk) trivial (Below.refl _ _) (Nat.le_refl _) (by simp) ?_; (case hd => rfl); (case hg => rfl); (case hr => first | (go_simp; done) | (go_simp; rfl)); (case hp => exact (Reps.none _ _)); intro v1 w3 ho4 hb hg_ hnew_; clear hg_ hnew_; have n0_ := Aside0.mk (Kd.R_lower ho4 (below_size (by repeat (first | (with_reducible first | exact HB.out | apply below_alloc | apply pw_below_drewN | apply below_drew1) | exact HB.out)))); have n1_ := Aside0.mk (below_step (by repeat (first | (with_reducible first | exact HB.out | apply below_alloc | apply pw_below_drewN | apply below_drew1) | exact HB.out)) hb); clear HB; have HO := n0_; have HB := n1_; clear n0_ n1_ hb ho4) | ((with_reducible refine gate_builtin (b := .append) (xs := #[.tmp 12, .tmp 13]) rfl ?_); at_builtin; refine Kd.R_append_rows Kd.bool (w0 := w) w.heap.size rfl (.tmp 12) (.tmp 13) 59 4 (.bool false) 1 rfl Try.underlying59 infoB rfl (by decide) (by omega) v1 [] S0 _ _ _ (fun _ => True) (fun _ => False) rfl rfl ?aO ?aR (fun _ _ h => h) (fun _ h => h.elim) (fun _ _ => trivial) ?aB ?aS ?aL ?_; (case aR => exact (Kd.C_below HR1.out (by repeat (first | (with_reducible first | exact HB.out | apply below_alloc | apply pw_below_drewN | apply below_drew1) | exact HB.out)))); (case aO => exact HO.out); (case aB => exact (by repeat (first | (with_reducible first | exact HB.out | apply below_alloc | apply pw_below_drewN | apply below_drew1) | exact HB.out))); (case aS => exact below_size (by repeat (first | (with_reducible first | exact HB.out | apply below_alloc | apply pw_below_drewN | apply below_drew1) | exact HB.out))); (case aL => rw [List.length_nil]; omega); intro v2 w2 ho_ hb_ hg_ hat_; rw [List.nil_append] at ho_; have n0_ := Aside0.mk hb_; obtain ⟨g2, cap2, rfl, hgb2, _, _, _⟩ := Kd.R_form ho_ (by omega); have n1_ := Aside0.mk ho_; clear HB HO; have HB := n0_; have HO := n1_; clear n0_ n1_ ho_ hb_ hg_ hat_))
  repeat (go_quiet (fail); try go_wp2_with fail)
  go_loopg [17] ts.length (fun g v17 w' => ∃ (i : Nat) (S : List Bool), v17 = .int .i64 i ∧ Aside0 (i + g = ts.length) ∧ Aside0 (Left ts.length S (flat ts i)) ∧ Aside0 ((flat ts i).Nodup) ∧ Aside0 (OwB w' w.heap.size (.slice (some ⟨g2, 0, none⟩) S0.length cap2) S) ∧ Aside0 (Below w.heap.size w w'))
  case atStart => exact ⟨0, S0, rfl, ⟨by omega⟩, ⟨by simpa [flat] using HS.out⟩, ⟨by simp [flat]⟩, ⟨by (with_reducible repeat (first | apply Kd.R_alloc | apply Kd.R_drewN | apply Kd.R_drew)); exact HO.out⟩, ⟨(by repeat (first | (with_reducible first | exact HB.out | apply below_alloc | apply pw_below_drewN | apply below_drew1) | exact HB.out))⟩⟩
  case round =>
    clear HO HB
    obtain ⟨i, S, rfl, HI, HL, HND, HO, HB⟩ := hrel
    have hrem : i + gk = ts.length := HI.out
    by_cases hlt : i < ts.length
    · obtain ⟨d, hd⟩ : ∃ d, gk = d + 1 := ⟨gk - 1, by omega⟩
      have HGD := Aside0.mk hd
      clear hd hrem
      obtain ⟨ad, A0, c0, rfl, hx, hc0, hr0⟩ := row_at HR.out hlt
      replace hx := (HB.out.cell (World.block_lt_of_cell? w _ hx)).trans hx
      have HRI0 := Aside0.mk (HRI.out i hlt)
      have HL3 := Aside0.mk (show (ts.getD i []).length = 3 from HRI0.out.1)
      have HR0 := Aside0.mk hr0
      have HC0 := Aside0.mk hc0
      have HPART := Aside0.mk (fun j => flat_part hlt j)
      have HFS := Aside0.mk (flat_succ hlt)
      have HRD := Aside0.mk (fun (j : Nat) (hj : j < 3) => RowI_rd (HRI.out i hlt) hj)
      have ht3 : (ts.getD i []).length = 3 := HL3.out
      clear hr0 hc0
      unfold row at HPART HFS HRD
      generalize hrow : ts.getD i [] = t at *
      rw [ht3] at hx
      clear hrow
      have HT3 := Aside0.mk ht3
      clear ht3 HL3
      go_wp2_with fail
      repeat (go_quiet (fail); try go_wp2_with fail)
      clear hx
      go_loopg [23] 3 (fun g v23 w' => ∃ (j : Nat) (S' : List Bool), v23 = .int .i64 j ∧ Aside0 (j + g = 3) ∧ Aside0 (Left ts.length S' (flat ts i ++ t.take j)) ∧ Aside0 ((flat ts i ++ t.take j).Nodup) ∧ Aside0 (OwB w' w.heap.size (.slice (some ⟨g2, 0, none⟩) S0.length cap2) S') ∧ Aside0 (Below w.heap.size w w'))
      case atStart => exact ⟨0, S, rfl, ⟨rfl⟩, ⟨by simpa using HL.out⟩, ⟨by simpa using HND.out⟩, ⟨by (with_reducible repeat (first | apply Kd.R_alloc | apply Kd.R_drewN | apply Kd.R_drew)); exact HO.out⟩, ⟨(by repeat (first | (with_reducible first | exact HB.out | apply below_alloc | apply pw_below_drewN | apply below_drew1) | exact HB.out))⟩⟩
      case round =>
        clear HO HB
        obtain ⟨j, S', rfl, HJ, HL', HND', HO, HB⟩ := hrel
        by_cases hj : j < 3
        · obtain ⟨adx, rfl, hxx⟩ := at_nat (Kd.C_below HR0.out HB.out) (show j < t.length by rw [HT3.out]; exact hj)
          have hjt : j < t.length := by rw [HT3.out]; exact hj
          have HTS := Aside0.mk (take_snoc hjt)
          have HP1 := Aside0.mk (HPART.out (j + 1))
          have hx1 := HRD.out j hj
          clear hjt
          generalize rd t (j : Int) = x at hxx HTS hx1
          have hSl : S0.length = S'.length := (Kd.R_reads' HO.out).1
          have hSn := HL'.out.1
          have x0 : (0 : Int) ≤ x := by omega
          have x1 : x < (S0.length : Int) := by omega
          have HT1 := Aside0.mk (within_yes (show (0 : Int) ≤ x ∧ x ≤ (S0.length : Int) - 1 by omega))
          obtain ⟨hcb, hfb⟩ := Kd.R_celln false HO.out x x0 x1
          have hdec : rdOf false S' x = true ↔ x ∉ flat ts i ++ t.take j := by
            have := HL'.out.2 x.toNat (by omega)
            rw [show ((x.toNat : Nat) : Int) = x by omega] at this
            exact this.trans ⟨fun h => h.2, fun h => ⟨by omega, h⟩⟩
          by_cases hm : x ∈ flat ts i ++ t.take j
          · have hb0 : rdOf false S' x = false := by
              cases hb : rdOf false S' x with
              | false => rfl
              | true => exact absurd hm (hdec.mp hb)
            rw [hb0] at hcb
            have HF := Aside0.mk (show tf ts.flatten.Nodup = false from tf_neg (fun h => by
              have hsub := h.sublist HP1.out
              rw [HTS.out, ← List.append_assoc] at hsub
              exact (List.nodup_append.mp hsub).2.2 _ hm _ (List.mem_singleton.mpr rfl) rfl))
            clear hdec hm hb0 hSl hSn
            go_wp2_with (go_at_call 31; refine (in_calls _ _ _ _).mono ?_; rw [HT1.out]; rintro e w' ⟨rfl, ⟨nd, rfl⟩⟩)
            repeat (go_quiet (fail); try go_wp2)
            go_ret
            exact ⟨ret_bool HF.out.symm, (by repeat (first | (with_reducible first | exact HB.out | apply below_alloc | apply pw_below_drewN | apply below_drew1) | exact HB.out))⟩
          · have hb1 : rdOf false S' x = true := hdec.mpr hm
            rw [hb1] at hcb
            have HM := Aside0.mk hm
            have HP := Aside0.mk (Kd.R_putg HO.out x false)
            have HSN := Aside0.mk (show S'.length = 3 * ts.length + 2 from hSn)
            have HXN := Aside0.mk (show x.toNat < S'.length by omega)
            clear hdec hm hb1 hSl hSn
            have hgb := hgb2
            go_wp2_with (go_at_call 31; refine (in_calls _ _ _ _).mono ?_; rw [HT1.out]; rintro e w' ⟨rfl, ⟨nd, rfl⟩⟩)
            repeat (go_quiet (fail); try go_wp2)
            go_roundg (gk - 1)
            case measure => have := HJ.out; omega
            case rel => exact ⟨j + 1, S'.set x.toNat false, by go_num, ⟨by have := HJ.out; omega⟩, ⟨by
              rw [HTS.out, ← List.append_assoc]
              refine ⟨by rw [List.length_set]; exact HSN.out, fun y hy => ?_⟩
              rw [getD_set_b HXN.out, List.mem_append (t := [x]), List.mem_singleton]
              by_cases e2 : x.toNat = y
              · rw [if_pos e2]
                exact ⟨fun h => (by cases h), fun h => absurd (.inr (by omega)) h.2⟩
              · rw [if_neg e2, HL'.out.2 y hy]
                exact ⟨fun h => ⟨h.1, fun h2 => h2.elim h.2 (fun h3 => e2 (by omega))⟩, fun h => ⟨h.1, fun h2 => h.2 (.inl h2)⟩⟩⟩, ⟨by
              rw [HTS.out, ← List.append_assoc]
              exact List.nodup_append.mpr ⟨HND'.out, by simp, fun a ha b hb e => by rw [List.mem_singleton.mp hb] at e; exact HM.out (e ▸ ha)⟩⟩, ⟨by first | exact HP.out.1 | exact Kd.R_drewN HP.out.1 _⟩, ⟨below_set (by repeat (first | (with_reducible first | exact HB.out | apply below_alloc | apply pw_below_drewN | apply below_drew1) | exact HB.out)) hgb⟩⟩
        · have h3 : j = 3 := by have := HJ.out; omega
          subst h3
          have ef : flat ts i ++ t.take 3 = flat ts (i + 1) := by rw [HFS.out, List.take_of_length_le (by rw [HT3.out]; exact Nat.le_refl _)]
          have HL2 := Aside0.mk (show Left ts.length S' (flat ts (i + 1)) by rw [← ef]; exact HL'.out)
          have HN2 := Aside0.mk (show (flat ts (i + 1)).Nodup by rw [← ef]; exact HND'.out)
          clear ef
          go_wp2_with fail
          repeat (go_quiet (fail); try go_wp2_with fail)
          go_roundg d
          case measure => have := HGD.out; omega
          case rel => exact ⟨i + 1, S', by go_num, ⟨by have := HI.out; have := HGD.out; omega⟩, HL2, HN2, ⟨by first | exact HO.out | exact Kd.R_drewN HO.out _⟩, ⟨(by repeat (first | (with_reducible first | exact HB.out | apply below_alloc | apply pw_below_drewN | apply below_drew1) | exact HB.out))⟩⟩
    · have hie : i = ts.length := by omega
      have e : flat ts i = ts.flatten := by unfold flat; rw [List.take_of_length_le (by omega)]
      have HF := Aside0.mk (show tf ts.flatten.Nodup = true from tf_pos (by rw [← e]; exact HND.out))
      have HNO := Aside0.mk (show ∀ y : Nat, y < S.length → rdOf false S (y : Int) = false from fun y hy => by
        have hl := HL.out.1
        cases hb : rdOf false S (y : Int) with
        | false => rfl
        | true =>
          have h1 := (HL.out.2 y (by omega)).mp hb
          rw [e] at h1
          exact absurd (flat_all v ts HRI.out (by rw [← e]; exact HND.out) h1.1.1 h1.1.2) h1.2)
      have hSl : S0.length = S.length := (Kd.R_reads' HO.out).1
      have HSL := Aside0.mk hSl
      clear e hie hSl
      go_wp2_with fail
      repeat (go_quiet (fail); try go_wp2_with fail)
      go_loopg [47] S0.length (fun g v47 w' => ∃ y : Nat, v47 = .int .i64 y ∧ Aside0 (y + g = S0.length) ∧ Aside0 (OwB w' w.heap.size (.slice (some ⟨g2, 0, none⟩) S0.length cap2) S) ∧ Aside0 (Below w.heap.size w w'))
      case atStart => exact ⟨0, rfl, ⟨by omega⟩, ⟨by first | exact HO.out | exact Kd.R_drewN HO.out _⟩, ⟨(by repeat (first | (with_reducible first | exact HB.out | apply below_alloc | apply pw_below_drewN | apply below_drew1) | exact HB.out))⟩⟩
      case round =>
        clear HO HB
        obtain ⟨y, rfl, HY, HO, HB⟩ := hrel
        by_cases hy : y < S0.length
        · obtain ⟨hcb, hfb⟩ := Kd.R_celln false HO.out (y : Int) (by omega) (by omega)
          rw [HNO.out y (by rw [← HSL.out]; exact hy), Int.toNat_natCast] at hcb
          go_wp2_with fail
          repeat (go_quiet (fail); try go_wp2_with fail)
          go_roundg (gk - 1)
          case measure => have := HY.out; omega
          case rel => exact ⟨y + 1, by go_num, ⟨by have := HY.out; omega⟩, ⟨by first | exact HO.out | exact Kd.R_drewN HO.out _⟩, ⟨(by repeat (first | (with_reducible first | exact HB.out | apply below_alloc | apply pw_below_drewN | apply below_drew1) | exact HB.out))⟩⟩
        · go_wp2_with fail
          repeat (go_quiet (fail); try go_wp2_with fail)
          go_ret
          exact ⟨ret_bool HF.out.symm, (by repeat (first | (with_reducible first | exact HB.out | apply below_alloc | apply pw_below_drewN | apply below_drew1) | exact HB.out))⟩
end Go.Proofs.Ytpabfibmpannoaa.Own.G
