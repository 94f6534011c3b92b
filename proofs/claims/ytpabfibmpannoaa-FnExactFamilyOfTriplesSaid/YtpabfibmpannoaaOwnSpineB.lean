/- A copy of a list of lists, and its size: the laws' own functions toIntSS and szIntSS. -/
import Derived.Test.YtpabfibmpannoaaOwnLive
namespace Go.Proofs.Ytpabfibmpannoaa.Own.G
open Go.RowKit Go.Proofs.YtpabfibmpannoaaW.PrintWords Go.Proofs.YtpabfibmpannoaaW.PrintLast Go.Proofs.YtpabfibmpannoaaW.PrintMore
set_option linter.unusedVariables false
theorem OwS_put {W : World} {B g n cap i : Nat} {xs : List (List Int)} {u : Value} {x : List Int} (h : Kd.S (Kd.slice 3 (Kd.int .i64)) 29 W B (fun k => some k ≠ u.ownBlock) (.slice (some ⟨g, 0, none⟩) n cap) xs) (hi : i < n) (hu : Ow W B u x) :
    OwS (W.setCell ⟨g, i, none⟩ u) B (.slice (some ⟨g, 0, none⟩) n cap) (xs.set i x) ∧ W.grownBy (W.setCell ⟨g, i, none⟩ u) (some g) ∧ W.frozen? ⟨g, i, none⟩ = false ∧ ∃ u0, W.cell? ⟨g, i, none⟩ = some u0 := by
  have hX : Kd.S (Kd.slice 3 (Kd.int .i64)) 29 W B (fun k => True ∧ ¬ (some k = u.ownBlock)) (.slice (some ⟨g, 0, none⟩) n cap) xs := Kd.S_mono h (fun k hk => ⟨trivial, hk⟩)
  obtain ⟨oki, ce, hcl, hM, hcc, hfr, hoki, hH⟩ := Kd.S_elem hX [] (i : Int) (by omega) (by omega)
  obtain ⟨u0, rfl, _⟩ := hM
  have hR := Kd.R_mono (ok' := fun k => True ∧ k ≠ g) (Kd.R_apart' hu (Kd.S_typed h) (by decide)) (fun k hk => ⟨trivial, fun e => hk.2 (by rw [e]; rfl)⟩)
  have HP := Kd.S_seg hH (by omega) (by omega) (seg := [u]) (j := 0) (show 1 ≤ 1 by decide) (x' := x) (Kd.M_row (Kd.R_mono (Kd.R_tight rfl hR) (fun _ h => Or.inr h))) (fun _ hk => hk) (fun k hk => hR.1 k hk.symm)
  have h0 := hfr 0
  have h1 := hcc 0 u0 rfl
  simp only [show (Kd.slice 3 (Kd.int .i64)).sz = 1 from rfl, Nat.mul_one, Nat.add_zero, Int.toNat_natCast] at HP h0 h1
  exact ⟨HP.1, HP.2, h0, u0, h1⟩
theorem infoRw : (Try.prog.info? 29).map (fun i => (i.zero, i.size, i.bytes)) = some (some (.slice none 0 0), 1, 24) := by kernel_rfl
theorem copyS_step {l : List (List Int)} {i g : Nat} (h : i < l.length) (hg : i + g = l.length) : (l.take i ++ List.replicate g ([] : List Int)).set i (l.getD i []) = l.take (i + 1) ++ List.replicate (g - 1) [] := by
  obtain ⟨d, rfl⟩ : ∃ d, g = d + 1 := ⟨g - 1, by omega⟩
  rw [List.set_append_right _ _ (by rw [List.length_take]; omega), List.length_take, Nat.min_eq_left (by omega), Nat.sub_self, List.replicate_succ, List.set_cons_zero, List.take_succ_eq_append_getElem h, List.append_assoc, List.getD_eq_getElem?_getD, List.getElem?_eq_getElem h]
  rfl
set_option maxHeartbeats 3200000 in
theorem toIntSS_calls (A : Option Addr) (c : Nat) (l : List (List Int)) (w : World) (hr : RdS w A l) (hc : l.length ≤ c) (hn : Fit l) :
    Calls Try.prog 11 #[.slice A l.length c] w fun e w' => ∃ v, e = .returned v ∧ OwS w' w.heap.size v l ∧ Below w.heap.size w w' := by
  have HR := Aside0.mk hr
  have HC := Aside0.mk hc
  have HF := Aside0.mk hn
  have hn1 := hn.1
  clear hr hc hn
  have HB := Aside0.mk (Below.refl w.heap.size w)
  go_enter Try.func11, Try.ntmps11
  go_wp2_with ((with_reducible refine gate_dst (N := 7) rfl ?_); refine Kd.S_make (Kd.slice 3 (Kd.int .i64)) _ 29 rfl (N := 7) rfl 22 _ _ rfl (l.length : Int) rfl rfl Try.underlying22 (.slice none 0 0) 24 infoRw rfl (by decide) (by omega) [] (ok := fun _ => True) (okp := fun _ => True) ⟨_, rfl, Kd.R_nil _ _ _ _ _⟩ (fun _ hk => hk) trivial (by omega) (by omega) (Below.refl _ _) (Nat.le_refl _) ?_; intro v1 w4 ho5 hb hg_ hnew_; clear hg_ hnew_; have n0_ := Aside0.mk (Kd.S_lower ho5 (below_size (by repeat (first | (with_reducible first | exact HB.out | apply below_alloc | apply pw_below_drewN | apply below_drew1) | exact HB.out)))); have n1_ := Aside0.mk (below_step (by repeat (first | (with_reducible first | exact HB.out | apply below_alloc | apply pw_below_drewN | apply below_drew1) | exact HB.out)) hb); clear HB; have HO := n0_; have HB := n1_; clear n0_ n1_ hb ho5)
  go_loopg [4] l.length (fun g v4 w' => ∃ (i : Nat) (xs : List (List Int)), v4 = .int .i64 i ∧ Aside0 (i + g = l.length) ∧ Aside0 (xs = l.take i ++ List.replicate g []) ∧ Aside0 (OwS w' w.heap.size v1 xs) ∧ Aside0 (Below w.heap.size w w'))
  case atStart => exact ⟨0, _, rfl, ⟨by omega⟩, ⟨by simp⟩, HO, HB⟩
  case round =>
    clear HO HB
    obtain ⟨i, xs, rfl, HI, HX, HO, HB⟩ := hrel
    by_cases hlt : i < l.length
    · obtain ⟨ad, A0, c0, rfl, hx, hc0, hr0⟩ := row_at HR.out hlt
      replace hx := (HB.out.cell (World.block_lt_of_cell? w _ hx)).trans hx
      have hl : xs.length = l.length := by rw [HX.out]; simp; have := HI.out; omega
      obtain ⟨g, cap, rfl, hgb, _, _, _⟩ := Kd.S_form HO.out (by omega)
      have HLL := Aside0.mk hl
      have HL := Aside0.mk (Fit_at HF.out hlt)
      have HR0 := Aside0.mk hr0
      have HC0 := Aside0.mk hc0
      have HY := Aside0.mk (show xs.set i (l.getD i []) = l.take (i + 1) ++ List.replicate (gk - 1) [] by rw [HX.out]; exact copyS_step hlt HI.out)
      have hlt2 : i < xs.length := by omega
      clear hr0 hc0 hl
      generalize l.getD i [] = x at *
      go_wp2_with (go_at_call 15; refine (toIntS_calls A0 c0 x _ (Kd.C_below HR0.out (by repeat (first | (with_reducible first | exact HB.out | apply below_alloc | apply pw_below_drewN | apply below_drew1) | exact HB.out))) HC0.out HL.out).mono ?_; rintro e w2 ⟨u, rfl, ho, hb⟩; obtain ⟨Au, cu, eu, _, _⟩ := Ow_form ho; subst eu; have hs_ := OwS_put (u := .slice Au x.length cu) (i := i) (x := x) (Kd.S_mono (Kd.S_elder' HO.out (Kd.R_base ho) hb) (fun _ hk => hk.2)) hlt2 (Kd.R_lower ho (below_size (by repeat (first | (with_reducible first | exact HB.out | apply below_alloc | apply pw_below_drewN | apply below_drew1) | exact HB.out)))); have hf1 := hs_.2.2.1; obtain ⟨u0, hc1⟩ := hs_.2.2.2; have HP := Aside0.mk hs_; have n1_ := Aside0.mk (below_step (by repeat (first | (with_reducible first | exact HB.out | apply below_alloc | apply pw_below_drewN | apply below_drew1) | exact HB.out)) hb); clear HO HB ho hb hs_; have HB := n1_; clear n1_)
      repeat (go_quiet (fail); try go_wp2)
      go_roundg (gk - 1)
      case measure => have := HI.out; omega
      case rel => exact ⟨i + 1, _, by go_num, ⟨by have := HI.out; omega⟩, ⟨rfl⟩, ⟨by have := HP.out.1; rw [HY.out] at this; exact this⟩, ⟨below_set HB.out hgb⟩⟩
    · have HE := Aside0.mk (show xs = l by rw [HX.out, show gk = 0 by have := HI.out; omega, List.take_of_length_le (by omega)]; simp)
      go_wp2
      repeat (go_quiet (fail); try go_wp2)
      go_ret
      exact ⟨_, rfl, by rw [← HE.out]; first | exact HO.out | exact OwS_drewN HO.out _, (by repeat (first | (with_reducible first | exact HB.out | apply below_alloc | apply pw_below_drewN | apply below_drew1) | exact HB.out))⟩
def Long (l : List (List Int)) : Prop := l.length ≤ 9223372036854775807 ∧ ∀ x ∈ l, x.length ≤ 9223372036854775807
def sized (l : List (List Int)) : Nat := l.length + pre l l.length
theorem sized_fit {l : List (List Int)} (h : sized l ≤ 1048576) : Fit l := by
  refine ⟨by unfold sized at h; omega, fun x hx => ?_⟩
  obtain ⟨i, hi, rfl⟩ := List.mem_iff_getElem.mp hx
  have h1 := pre_mono l (show i + 1 ≤ l.length by omega)
  rw [pre, List.getD_eq_getElem?_getD, List.getElem?_eq_getElem hi] at h1
  unfold sized at h
  simp only [Option.getD_some] at h1
  omega
def szOf (m : Int) (n : Nat) : Int := if m < (n : Int) then -1 else m - (n : Int)
set_option maxHeartbeats 800000 in
theorem szIntS_calls (A : Option Addr) (c : Nat) (n : Nat) (m : Int) (w : World) (h0 : 0 ≤ m) (h1 : m ≤ 1048576) (hl : n ≤ 9223372036854775807) :
    Calls Try.prog 30 #[.slice A n c, .int .i64 m] w fun e w' => e = .returned (.int .i64 (szOf m n)) ∧ Drawn0 w w' := by
  by_cases h : m < (n : Int)
  · have H := Aside0.mk (show szOf m n = -1 from if_pos h)
    have h2 : m - (n : Int) < 0 := by omega
    go_enter Try.func30, Try.ntmps30
    (go_wp2; repeat (go_quiet (fail); try go_wp2))
    go_ret
    exact ⟨by rw [H.out]; rfl, (by repeat (first | exact Drawn0.refl _ | apply Drawn0.step))⟩
  · have H := Aside0.mk (show szOf m n = m - (n : Int) from if_neg h)
    have h2 : ¬ m - (n : Int) < 0 := by omega
    go_enter Try.func30, Try.ntmps30
    (go_wp2; repeat (go_quiet (fail); try go_wp2))
    go_ret
    exact ⟨by rw [H.out]; rfl, (by repeat (first | exact Drawn0.refl _ | apply Drawn0.step))⟩
set_option maxHeartbeats 1600000 in
theorem szIntSS_calls (A : Option Addr) (c : Nat) (l : List (List Int)) (w : World) (hr : RdS w A l) (hc : l.length ≤ c) (hl : Long l) :
    Calls Try.prog 9 #[.slice A l.length c, .int .i64 1048576] w fun e w' => (∃ s : Int, e = .returned (.int .i64 s) ∧ (s < 0 ↔ ¬ sized l ≤ 1048576)) ∧ Drawn0 w w' := by
  have HR := Aside0.mk hr
  have HL := Aside0.mk hl
  have hl1 := hl.1
  clear hr hc hl
  by_cases h0 : l.length ≤ 1048576
  · have h1 : ¬ (1048576 : Int) - (l.length : Int) < 0 := by omega
    go_enter Try.func9, Try.ntmps9
    (go_wp2; repeat (go_quiet (fail); try go_wp2))
    go_loopg [1, 5] l.length (fun g v1 v5 w' => ∃ (i : Nat) (s : Int), v1 = .int .i64 s ∧ v5 = .int .i64 i ∧ Aside0 (i + g = l.length) ∧ Aside0 (s = 1048576 - (l.length : Int) - (pre l i : Int) ∧ 0 ≤ s) ∧ Drawn0 w w')
    case atStart => exact ⟨0, _, rfl, rfl, ⟨by omega⟩, ⟨by simp [pre]; omega⟩, (by repeat (first | exact Drawn0.refl _ | apply Drawn0.step))⟩
    case round =>
      obtain ⟨i, s, rfl, rfl, HI, HS, ⟨m1, rfl⟩⟩ := hrel
      have hs0 := HS.out.2
      have hs1 : s ≤ 1048576 := by have := HS.out.1; omega
      by_cases hlt : i < l.length
      · obtain ⟨ad, A0, c0, rfl, hx, hc0, hr0⟩ := row_at HR.out hlt
        have hxl : (l.getD i []).length ≤ 9223372036854775807 := by
          rw [List.getD_eq_getElem?_getD, List.getElem?_eq_getElem hlt]
          exact HL.out.2 _ (List.getElem_mem hlt)
        have HN := Aside0.mk (show pre l (i + 1) = pre l i + (l.getD i []).length from rfl)
        clear hr0
        generalize (l.getD i []).length = n at *
        by_cases hq : s < (n : Int)
        · have HZ := Aside0.mk (show szOf s n = -1 from if_pos hq)
          have HBAD := Aside0.mk (show ¬ sized l ≤ 1048576 by
            have h2 := pre_mono l (show i + 1 ≤ l.length by omega)
            have := HN.out
            have := HS.out.1
            unfold sized
            omega)
          go_wp2_with (go_at_call 30; refine (szIntS_calls A0 c0 n s _ hs0 hs1 hxl).mono ?_; rw [HZ.out]; rintro e w' ⟨rfl, ⟨nd, rfl⟩⟩)
          go_ret
          exact ⟨⟨_, rfl, ⟨fun _ => HBAD.out, fun _ => by decide⟩⟩, (by repeat (first | exact Drawn0.refl _ | apply Drawn0.step))⟩
        · have HZ := Aside0.mk (show szOf s n = s - (n : Int) from if_neg hq)
          have hq2 : ¬ s - (n : Int) < 0 := by omega
          go_wp2_with (go_at_call 30; refine (szIntS_calls A0 c0 n s _ hs0 hs1 hxl).mono ?_; rw [HZ.out]; rintro e w' ⟨rfl, ⟨nd, rfl⟩⟩)
          go_roundg (gk - 1)
          case measure => have := HI.out; omega
          case rel => exact ⟨i + 1, _, rfl, by go_num, ⟨by have := HI.out; omega⟩, ⟨by rw [HN.out, HS.out.1]; omega, by omega⟩, (by repeat (first | exact Drawn0.refl _ | apply Drawn0.step))⟩
      · have HOK := Aside0.mk (show sized l ≤ 1048576 by
          have hi : i = l.length := by have := HI.out; omega
          have := HS.out.1
          rw [hi] at this
          unfold sized
          omega)
        have HEQ := Aside0.mk (show (s < 0 ↔ ¬ sized l ≤ 1048576) from ⟨fun h => absurd h (by omega), fun h => absurd HOK.out h⟩)
        (go_wp2; repeat (go_quiet (fail); try go_wp2))
        go_ret
        exact ⟨⟨_, rfl, HEQ.out⟩, (by repeat (first | exact Drawn0.refl _ | apply Drawn0.step))⟩
  · have h1 : (1048576 : Int) - (l.length : Int) < 0 := by omega
    have HBAD := Aside0.mk (show ¬ sized l ≤ 1048576 by unfold sized; omega)
    go_enter Try.func9, Try.ntmps9
    (go_wp2; repeat (go_quiet (fail); try go_wp2))
    go_ret
    exact ⟨⟨_, rfl, ⟨fun _ => HBAD.out, fun _ => by decide⟩⟩, (by repeat (first | exact Drawn0.refl _ | apply Drawn0.step))⟩
end Go.Proofs.Ytpabfibmpannoaa.Own.G
