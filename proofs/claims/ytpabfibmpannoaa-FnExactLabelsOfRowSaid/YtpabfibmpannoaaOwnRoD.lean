/- Skolem rows: the walks of the program's pairs, isPairs, fits and skolem; lists of at most 1048576 numbers. -/
import Derived.Test.YtpabfibmpannoaaOwnRoC
namespace Go.Proofs.Ytpabfibmpannoaa.Own.G
open Go.RowKit Go.Proofs.YtpabfibmpannoaaW.PrintWords Go.Proofs.YtpabfibmpannoaaW.PrintLast Go.Proofs.YtpabfibmpannoaaW.PrintMore
set_option linter.unusedVariables false
theorem atL_pair {l : List Int} (i : Nat) : (∀ n : Nat, n < 21 → ((atL l l.length).getD n []).length = 0 ∨ ((atL l l.length).getD n []).length = 2) ↔ Paired l := by
  constructor
  · intro h n h1 h2
    have := h n (by omega)
    rw [atL_get l l.length (by omega), if_neg (by omega)] at this
    exact this
  · intro h n hn
    rw [atL_get l l.length hn]
    by_cases e : n = 0
    · rw [if_pos e]; exact .inl rfl
    · rw [if_neg e]; exact h n (by omega) (by omega)
theorem AT_fin {W : World} {B g b : Nat} {ok : Nat → Prop} {rows : List (List Int)} {cs : Array Value} (h : AT W B g ok rows) (hl : rows.length = 21) (hok : ∀ k, ok k → k ≠ b) (hg : W.heap[g]? = some (.cells cs 48 (0, 0))) (vs : List Value) : ArrRd (W.setCells b 0 vs) cs rows := by
  obtain ⟨cs', h1, h2, h3⟩ := AT_out (AT_whole h hok vs) hl
  rw [setCells_far vs 0 g (hok g h3), hg] at h1
  injection h1 with h1
  injection h1 with h1
  subst h1
  exact h2
set_option maxRecDepth 8000 in
set_option maxHeartbeats 6400000 in
theorem pairs_calls (A : Option Addr) (c : Nat) (l : List Int) (w : World) (hr : Rd w A l) (hc : l.length ≤ c) (hg : Good l) :
    Calls Try.prog 53 #[.slice A l.length c] w fun e w' => ∃ cs : Array Value, e = .returned (.tuple #[.agg cs, .bool (tf (Paired l))]) ∧ ArrRd w' cs (atL l l.length) ∧ Below w.heap.size w w' := by
  have HR := Aside0.mk hr
  have HC := Aside0.mk hc
  have HG := Aside0.mk hg
  clear hr hc
  have HB := Aside0.mk (Below.refl w.heap.size w)
  have hn := hg.1
  have HAT0 := Aside0.mk (AT_new (W := w.alloc (.cells #[.slice none 0 0, .slice none 0 0, .slice none 0 0, .slice none 0 0, .slice none 0 0, .slice none 0 0, .slice none 0 0, .slice none 0 0, .slice none 0 0, .slice none 0 0, .slice none 0 0, .slice none 0 0, .slice none 0 0, .slice none 0 0, .slice none 0 0, .slice none 0 0, .slice none 0 0, .slice none 0 0, .slice none 0 0, .slice none 0 0, .slice none 0 0] 48)) (B := w.heap.size) (ok := fun k => k ≠ w.heap.size) (by simp) (by simp))
  have HZ0 := Aside0.mk (blk_below (heap_alloc_new w (.cells #[.slice none 0 0, .slice none 0 0, .slice none 0 0, .slice none 0 0, .slice none 0 0, .slice none 0 0, .slice none 0 0, .slice none 0 0, .slice none 0 0, .slice none 0 0, .slice none 0 0, .slice none 0 0, .slice none 0 0, .slice none 0 0, .slice none 0 0, .slice none 0 0, .slice none 0 0, .slice none 0 0, .slice none 0 0, .slice none 0 0, .slice none 0 0] 48)) (below_alloc (Below.refl _ _) (.cells #[.slice none 0 0, .slice none 0 0, .slice none 0 0, .slice none 0 0, .slice none 0 0, .slice none 0 0, .slice none 0 0, .slice none 0 0, .slice none 0 0, .slice none 0 0, .slice none 0 0, .slice none 0 0, .slice none 0 0, .slice none 0 0, .slice none 0 0, .slice none 0 0, .slice none 0 0, .slice none 0 0, .slice none 0 0, .slice none 0 0, .slice none 0 0] 48)))
  rw [show (w.alloc (.cells #[.slice none 0 0, .slice none 0 0, .slice none 0 0, .slice none 0 0, .slice none 0 0, .slice none 0 0, .slice none 0 0, .slice none 0 0, .slice none 0 0, .slice none 0 0, .slice none 0 0, .slice none 0 0, .slice none 0 0, .slice none 0 0, .slice none 0 0, .slice none 0 0, .slice none 0 0, .slice none 0 0, .slice none 0 0, .slice none 0 0, .slice none 0 0] 48)).heap.size = w.heap.size + 1 by simp] at HAT0
  clear hg
  go_enter Try.func53, Try.ntmps53
  go_wp2
  go_loopg [11] l.length (fun g v11 w' => ∃ i : Nat, v11 = .int .i64 i ∧ Aside0 (i + g = l.length) ∧ Aside0 (AT w' w.heap.size (w.heap.size + 1) (fun k => k ≠ w.heap.size) (atL l i)) ∧ Aside0 (w'.heap[w.heap.size]? = some (.cells #[.slice none 0 0, .slice none 0 0, .slice none 0 0, .slice none 0 0, .slice none 0 0, .slice none 0 0, .slice none 0 0, .slice none 0 0, .slice none 0 0, .slice none 0 0, .slice none 0 0, .slice none 0 0, .slice none 0 0, .slice none 0 0, .slice none 0 0, .slice none 0 0, .slice none 0 0, .slice none 0 0, .slice none 0 0, .slice none 0 0, .slice none 0 0] 48 (0, 0))) ∧ Aside0 (Below w.heap.size w w'))
  case atStart => exact ⟨0, rfl, ⟨by omega⟩, ⟨by rw [atL_zero]; exact HAT0.out⟩, HZ0, ⟨(by repeat (first | (with_reducible first | exact HB.out | apply below_alloc | apply pw_below_drewN | apply below_drew1) | exact HB.out))⟩⟩
  case round =>
    clear HB HAT0 HZ0
    obtain ⟨i, rfl, HI, HAT, HZ, HB⟩ := hrel
    by_cases hlt : i < l.length
    · obtain ⟨ad, rfl, hx⟩ := at_nat HR.out hlt
      replace hx := (HB.out.cell (World.block_lt_of_cell? w _ hx)).trans hx
      have hgi := HG.out.2 i (by omega) hlt
      obtain ⟨n, hnn⟩ : ∃ n : Nat, rd l (i : Int) = (n : Int) := ⟨(rd l (i : Int)).toNat, by omega⟩
      have HNN := Aside0.mk hnn
      rw [hnn] at hx hgi
      clear hnn
      have hn21 : n < 21 := by omega
      rcases Nat.eq_zero_or_pos n with hz | hp
      · subst hz
        have HS := Aside0.mk (show atL l (i + 1) = atL l i from atL_none HNN.out)
        (go_wp2; repeat (go_quiet (fail); try go_wp2))
        go_roundg (gk - 1)
        case measure => have := HI.out; omega
        case rel => exact ⟨i + 1, by go_num, ⟨by have := HI.out; omega⟩, ⟨by rw [HS.out]; first | exact HAT.out | exact Kd.S_drewN HAT.out _⟩, HZ, ⟨(by repeat (first | (with_reducible first | exact HB.out | apply below_alloc | apply pw_below_drewN | apply below_drew1) | exact HB.out))⟩⟩
      · have HS := Aside0.mk (atL_some HNN.out (by omega) hn21)
        obtain ⟨A0, c0, oki0, co, fo, hc0, hR0, hoki0, hH0⟩ := AT_elem HAT.out hn21
        have hxl : ((atL l i).getD n []).length ≤ 40 := by
          rw [atL_get l i hn21, if_neg (by omega)]
          have := plU_len l (n : Int) i
          omega
        have hlt1 : w.heap.size + 1 < wr.heap.size := World.block_lt_of_cell? wr _ co
        have HLT := Aside0.mk hlt1
        have HLT0 := Aside0.mk (show w.heap.size < wr.heap.size by omega)
        have hHw := Kd.H_widen hH0
        obtain ⟨oki, hoke⟩ : ∃ oki : Nat → Prop, oki = fun k => oki0 k ∨ k ≠ w.heap.size ∧ wr.heap.size ≤ k := ⟨_, rfl⟩
        have HRo := Aside0.mk (show Kd.R (Kd.int .i64) 3 wr w.heap.size oki _ _ from Kd.R_mono hR0 (fun k hk => by rw [hoke]; exact .inl hk))
        have HOKI := Aside0.mk (show ∀ k, oki k → k ≠ w.heap.size ∧ k ≠ w.heap.size + 1 from fun k hk => by
          rw [hoke] at hk
          rcases hk with h | h
          · exact hoki0 k h
          · exact ⟨h.1, by omega⟩)
        have HFR := Aside0.mk (show ∀ k, wr.heap.size ≤ k → oki k from fun k hk => by rw [hoke]; exact .inr ⟨by omega, hk⟩)
        rw [← hoke] at hHw
        have HH := Aside0.mk hHw
        clear hHw hoke hR0 hoki0 hH0 hc0
        generalize (atL l i).getD n [] = x at *
        have HXL := Aside0.mk hxl
        clear hxl
        go_wp2_with ((with_reducible refine gate_builtin (b := .append) (xs := #[.tmp 21, .tmp 23]) rfl ?_); at_builtin; refine Kd.R_append (Kd.int .i64) (w0 := w) w.heap.size rfl (.tmp 21) (.tmp 23) 29 3 (.int .i64 0) 8 rfl Try.underlying29 infoInt rfl (by decide) (by omega) (.slice A0 x.length c0) x (i : Int) [.int .i64 (i : Int)] oki (fun _ => False) rfl rfl rfl (fun _ hk => hk.elim) HFR.out HRo.out HB.out HB.out.size ?aL ?_; (case aL => have := HXL.out; omega); intro v1 w1 ho hb hg hat; obtain ⟨A1, c1, e1_⟩ := Kd.R_slice ho; subst e1_; rw [show (x ++ [(i : Int)]).length = x.length + 1 from by rw [List.length_append]; rfl] at ho ⊢; have hh1 := Kd.H_grown HH.out hg (fun k hk => HRo.out.1 k hk.symm.symm); have hblk := hg.block (w.heap.size + 1) HLT.out (fun e => (HOKI.out _ (HRo.out.1 _ e.symm)).2 rfl); have hzz := (hg.block w.heap.size HLT0.out (fun e => (HOKI.out _ (HRo.out.1 _ e.symm)).1 rfl)).trans HZ.out; have co1 : w1.cell? ⟨w.heap.size + 1, n, none⟩ = some (.slice A0 x.length c0) := by { have := co; simp only [World.cell?, hblk] at this ⊢; exact this }; have fo1 : w1.frozen? ⟨w.heap.size + 1, n, none⟩ = false := by { have := fo; simp only [World.frozen?, hblk] at this ⊢; exact this }; have HH1 := Aside0.mk hh1; have HZ1 := Aside0.mk hzz; have HO1 := Aside0.mk ho; have HB1 := Aside0.mk hb; clear hh1 hblk hzz ho hb hg hat)
        repeat (go_quiet (fail); try go_wp2)
        go_roundg (gk - 1)
        case measure => have := HI.out; omega
        case rel => exact ⟨i + 1, by go_num, ⟨by have := HI.out; omega⟩, ⟨by rw [HS.out]; (first | exact AT_put hn21 HH1.out HO1.out (fun k hk => (HOKI.out k hk).2) | exact Kd.S_drewN (AT_put hn21 HH1.out HO1.out (fun k hk => (HOKI.out k hk).2)) _)⟩, ⟨(Below.heap_setCell w1 _ _ w.heap.size (by simp)).trans HZ1.out⟩, ⟨by first | exact below_set HB1.out (by omega) | exact pw_below_drewN (below_set HB1.out (by omega)) _⟩⟩
    · have HE := Aside0.mk (show i = l.length by have := HI.out; omega)
      rw [HE.out] at HAT
      obtain ⟨cs, hcg, harr, _⟩ := AT_out HAT.out (atL_length l l.length)
      have HCG := Aside0.mk hcg
      have HARR := Aside0.mk harr
      have HONE := Aside0.mk (ArrRd_one harr)
      have HIS := Aside0.mk (show (Try.prog.info? 48).map (·.size) = some cs.size by rw [harr.1]; exact infoArr)
      have HSZ := Aside0.mk (show (#[.slice none 0 0, .slice none 0 0, .slice none 0 0, .slice none 0 0, .slice none 0 0, .slice none 0 0, .slice none 0 0, .slice none 0 0, .slice none 0 0, .slice none 0 0, .slice none 0 0, .slice none 0 0, .slice none 0 0, .slice none 0 0, .slice none 0 0, .slice none 0 0, .slice none 0 0, .slice none 0 0, .slice none 0 0, .slice none 0 0, .slice none 0 0] : Array Value).size = cs.size by rw [harr.1]; rfl)
      have HLE := Aside0.mk (show cs.size ≤ (#[.slice none 0 0, .slice none 0 0, .slice none 0 0, .slice none 0 0, .slice none 0 0, .slice none 0 0, .slice none 0 0, .slice none 0 0, .slice none 0 0, .slice none 0 0, .slice none 0 0, .slice none 0 0, .slice none 0 0, .slice none 0 0, .slice none 0 0, .slice none 0 0, .slice none 0 0, .slice none 0 0, .slice none 0 0, .slice none 0 0, .slice none 0 0] : Array Value).size by rw [harr.1]; exact Nat.le_refl 21)
      clear hcg harr HE
      go_wp2_with (refine wpList_load_row rfl 48 _ rfl (w.heap.size + 1) rfl 48 cs (0, 0) _ HCG.out Try.underlying48 rfl HIS.out ?_)
      clear hlt HI
      obtain ⟨wo, rfl⟩ : ∃ wo : World, wo = wr := ⟨_, rfl⟩
      go_loopg [28] 21 (fun g v28 w' => ∃ j : Nat, v28 = .int .i64 j ∧ Aside0 (j + g = 21) ∧ Aside0 (∀ m : Nat, m < j → ((atL l l.length).getD m []).length = 0 ∨ ((atL l l.length).getD m []).length = 2) ∧ Drawn0 wo w')
      case atStart => exact ⟨0, rfl, ⟨rfl⟩, ⟨fun m h => absurd h (by omega)⟩, (by repeat (first | exact Drawn0.refl _ | apply Drawn0.step))⟩
      case round =>
        obtain ⟨j, rfl, HJ, HP, ⟨m1, rfl⟩⟩ := hrel
        by_cases hj : j < 21
        · obtain ⟨A0, c0, hcs, hc0, hr0⟩ := HARR.out.2 j hj
          have hidx := idx_run cs hj hcs
          have HNX := Aside0.mk (show (((atL l l.length).getD j []).length = 0 ∨ ((atL l l.length).getD j []).length = 2) → ∀ m : Nat, m < j + 1 → ((atL l l.length).getD m []).length = 0 ∨ ((atL l l.length).getD m []).length = 2 from fun h m hm => by
            rcases Nat.lt_or_ge m j with h2 | h2
            · exact HP.out m h2
            · rw [show m = j by omega]; exact h)
          have HBAD := Aside0.mk (show ¬ (((atL l l.length).getD j []).length = 0 ∨ ((atL l l.length).getD j []).length = 2) → ¬ Paired l from fun h h2 => h ((atL_pair 0).mpr h2 j hj))
          generalize ((atL l l.length).getD j []).length = n at *
          clear hcs hc0 hr0
          by_cases h0 : n = 0
          · have hz : ((n : Int) != 0) = false := by rw [h0]; rfl
            have HN := Aside0.mk (HNX.out (.inl h0))
            clear h0
            (go_wp2; repeat (go_quiet (fail); try go_wp2))
            go_roundg (gk - 1)
            case measure => have := HJ.out; omega
            case rel => exact ⟨j + 1, by go_num, ⟨by have := HJ.out; omega⟩, HN, (by repeat (first | exact Drawn0.refl _ | apply Drawn0.step))⟩
          · have hz : ((n : Int) != 0) = true := bne_iff_ne.mpr (by omega)
            by_cases h2 : n = 2
            · have hy : ((n : Int) != 2) = false := by rw [h2]; rfl
              have HN := Aside0.mk (HNX.out (.inr h2))
              clear h0 h2
              (go_wp2; repeat (go_quiet (fail); try go_wp2))
              go_roundg (gk - 1)
              case measure => have := HJ.out; omega
              case rel => exact ⟨j + 1, by go_num, ⟨by have := HJ.out; omega⟩, HN, (by repeat (first | exact Drawn0.refl _ | apply Drawn0.step))⟩
            · have hy : ((n : Int) != 2) = true := bne_iff_ne.mpr (by omega)
              have HF := Aside0.mk (show tf (Paired l) = false from tf_neg (HBAD.out (fun h => h.elim h0 h2)))
              clear h0 h2
              go_wp2_with (first | (refine wpList_load_row rfl 48 _ rfl (w.heap.size + 1) rfl 48 cs (0, 0) _ HCG.out Try.underlying48 rfl HIS.out ?_) | (refine wpList_store_mid rfl 48 _ _ rfl w.heap.size 0 cs rfl rfl (there_of HZ.out HLE.out) HIS.out HONE.out ?_))
              (refine bodyPost_ret (results_ct rfl _ _ w.heap.size 48 cs (0, 0) _ rfl (heap_whole HZ.out HSZ.out) Try.underlying48 rfl HIS.out) rfl ?_)
              exact ⟨cs, by rw [HF.out]; rfl, AT_fin (W := wo.drewN m1) (Kd.S_drewN HAT.out _) (atL_length _ _) (fun _ hk => hk) HCG.out _, below_whole (by repeat (first | (with_reducible first | exact HB.out | apply below_alloc | apply pw_below_drewN | apply below_drew1) | exact HB.out)) (Nat.le_refl _) _⟩
        · have HF := Aside0.mk (show tf (Paired l) = true from tf_pos ((atL_pair 0).mp (fun m hm => HP.out m (by omega))))
          go_wp2_with (first | (refine wpList_load_row rfl 48 _ rfl (w.heap.size + 1) rfl 48 cs (0, 0) _ HCG.out Try.underlying48 rfl HIS.out ?_) | (refine wpList_store_mid rfl 48 _ _ rfl w.heap.size 0 cs rfl rfl (there_of HZ.out HLE.out) HIS.out HONE.out ?_))
          (refine bodyPost_ret (results_ct rfl _ _ w.heap.size 48 cs (0, 0) _ rfl (heap_whole HZ.out HSZ.out) Try.underlying48 rfl HIS.out) rfl ?_)
          exact ⟨cs, by rw [HF.out]; rfl, AT_fin (W := wo.drewN m1) (Kd.S_drewN HAT.out _) (atL_length _ _) (fun _ hk => hk) HCG.out _, below_whole (by repeat (first | (with_reducible first | exact HB.out | apply below_alloc | apply pw_below_drewN | apply below_drew1) | exact HB.out)) (Nat.le_refl _) _⟩
end Go.Proofs.Ytpabfibmpannoaa.Own.G
