/- Rulers with a length: the walks of the program's CountDifferent, CountWhole, ShortestRuler and FewestMarks; no condition. -/
import Derived.Test.YtmmnohdokemchaaOwnRuD
namespace Go.Proofs.Ytmmnohdokemchaa.Own.G
open Go.RowKit Go.Proofs.YtmmnohdokemchaaW.PrintWords Go.Proofs.YtmmnohdokemchaaW.PrintLast Go.Proofs.YtmmnohdokemchaaW.PrintMore
set_option linter.unusedVariables false
theorem new_cell (w : World) (u : Value) (t : TypeId) (n : Nat) : ((w.drewN n).alloc (.cells #[u] t)).cell? ⟨w.heap.size, 0, none⟩ = some u := cell_of_one (Var.new (w.drewN n) u t)
theorem new_free (w : World) (u : Value) (t : TypeId) (n : Nat) : ((w.drewN n).alloc (.cells #[u] t)).frozen? ⟨w.heap.size, 0, none⟩ = false := free_of_one (Var.new (w.drewN n) u t)
set_option maxHeartbeats 3200000 in
theorem implCountD_calls (a b : Int) (w : World) (ha : W64 a) (hb : W64 b) :
    Calls Try.prog 8 #[.int .i64 a, .int .i64 b] w fun e w' => e = .returned (.tuple #[.int .i64 (CountDF a b).1, .bool (CountDF a b).2]) ∧ Below w.heap.size w w' := by
  by_cases h : (1 ≤ a ∧ a ≤ 6) ∧ (0 ≤ b ∧ b ≤ 24)
  · obtain ⟨n, rfl⟩ : ∃ n : Nat, (n : Int) = a := ⟨a.toNat, by omega⟩
    obtain ⟨L, rfl⟩ : ∃ n : Nat, (n : Int) = b := ⟨b.toNat, by omega⟩
    have HF := Aside0.mk (show CountDF (n : Int) (L : Int) = (((ruR false n L).length : Int), true) from CountDF_in h)
    have HRL := Aside0.mk (ruR_len false (n := n) (L := L) (by omega) (by omega))
    have HSZ := Aside0.mk (show sizeCount 0 + 1 * L ^ (n - 2) ≤ 4000000000000000000 by
      have h2 : L ^ (n - 2) ≤ 24 ^ 5 := Nat.le_trans (Nat.pow_le_pow_left (by omega) _) (Nat.pow_le_pow_right (by decide) (by omega))
      have h3 : (24 : Nat) ^ 5 = 7962624 := by decide
      show 0 + 1 * L ^ (n - 2) ≤ _
      omega)
    have hcn := new_cell w (.int .i64 0) 3
    have hfn := new_free w (.int .i64 0) 3
    clear ha hb
    go_enter Try.func8, Try.ntmps8
    go_wp2_with ((go_at_call 20; refine (eachCountD_calls n L w.heap.size w.heap.size _ (fun _ => False) 0 (by omega) (by omega) (Nat.le_refl _) (fun h => h) (show Var _ _ _ _ from (by repeat (first | exact Var.new _ _ _ | apply Var.drewN | apply Var.put))) HSZ.out (by decide)).mono ?_; rintro e w4 ⟨rfl, hv, hch⟩; have hc1 := cell_of_one (show Var _ _ _ _ from hv); have HB := Aside0.mk (((by repeat (first | exact Below.refl _ _ | apply below_alloc | apply pw_below_drewN | apply below_drew1 | (refine Below.setCell ?_ (by first | exact Nat.le_refl _ | (show _ ≤ _; omega)) _))) : Below w.heap.size w _).trans (hch.to ((by repeat (first | exact Below.refl _ _ | apply below_alloc | apply pw_below_drewN | apply below_drew1 | (refine Below.setCell ?_ (by first | exact Nat.le_refl _ | (show _ ≤ _; omega)) _))) : Below w.heap.size w _).size (fun k hk hq => hq.elim (fun h => by omega) (fun h => h)))); clear hv hch))
    repeat (go_quiet (fail); try go_wp2)
    go_ret2
    exact ⟨by rw [HF.out]; simp [outCount], (by repeat (first | (with_reducible first | exact HB.out | apply below_alloc | apply pw_below_drewN | apply below_drew1) | exact HB.out))⟩
  · have HF := Aside0.mk (CountDF_out h)
    have HB := Aside0.mk (Below.refl w.heap.size w)
    by_cases h1 : a < 1
    · go_enter Try.func8, Try.ntmps8
      (go_wp2; repeat (go_quiet (fail); try go_wp2))
      go_ret2
      exact ⟨by rw [HF.out]; rfl, (by repeat (first | (with_reducible first | exact HB.out | apply below_alloc | apply pw_below_drewN | apply below_drew1) | exact HB.out))⟩
    · by_cases h2 : 6 < a
      · go_enter Try.func8, Try.ntmps8
        (go_wp2; repeat (go_quiet (fail); try go_wp2))
        go_ret2
        exact ⟨by rw [HF.out]; rfl, (by repeat (first | (with_reducible first | exact HB.out | apply below_alloc | apply pw_below_drewN | apply below_drew1) | exact HB.out))⟩
      · by_cases h3 : b < 0
        · go_enter Try.func8, Try.ntmps8
          (go_wp2; repeat (go_quiet (fail); try go_wp2))
          go_ret2
          exact ⟨by rw [HF.out]; rfl, (by repeat (first | (with_reducible first | exact HB.out | apply below_alloc | apply pw_below_drewN | apply below_drew1) | exact HB.out))⟩
        · have h4 : 24 < b := by omega
          go_enter Try.func8, Try.ntmps8
          (go_wp2; repeat (go_quiet (fail); try go_wp2))
          go_ret2
          exact ⟨by rw [HF.out]; rfl, (by repeat (first | (with_reducible first | exact HB.out | apply below_alloc | apply pw_below_drewN | apply below_drew1) | exact HB.out))⟩
set_option maxHeartbeats 3200000 in
theorem implCountW_calls (a b : Int) (w : World) (ha : W64 a) (hb : W64 b) :
    Calls Try.prog 10 #[.int .i64 a, .int .i64 b] w fun e w' => e = .returned (.tuple #[.int .i64 (CountWF a b).1, .bool (CountWF a b).2]) ∧ Below w.heap.size w w' := by
  by_cases h : (1 ≤ a ∧ a ≤ 7) ∧ (0 ≤ b ∧ b ≤ 18)
  · obtain ⟨n, rfl⟩ : ∃ n : Nat, (n : Int) = a := ⟨a.toNat, by omega⟩
    obtain ⟨L, rfl⟩ : ∃ n : Nat, (n : Int) = b := ⟨b.toNat, by omega⟩
    have HF := Aside0.mk (show CountWF (n : Int) (L : Int) = (((ruR true n L).length : Int), true) from CountWF_in h)
    have HRL := Aside0.mk (ruR_len true (n := n) (L := L) (by omega) (by omega))
    have HSZ := Aside0.mk (show sizeCount 0 + 1 * L ^ (n - 2) ≤ 4000000000000000000 by
      have h2 : L ^ (n - 2) ≤ 24 ^ 5 := Nat.le_trans (Nat.pow_le_pow_left (by omega) _) (Nat.pow_le_pow_right (by decide) (by omega))
      have h3 : (24 : Nat) ^ 5 = 7962624 := by decide
      show 0 + 1 * L ^ (n - 2) ≤ _
      omega)
    have hcn := new_cell w (.int .i64 0) 3
    have hfn := new_free w (.int .i64 0) 3
    clear ha hb
    go_enter Try.func10, Try.ntmps10
    go_wp2_with ((go_at_call 20; refine (eachCountW_calls n L w.heap.size w.heap.size _ (fun _ => False) 0 (by omega) (by omega) (Nat.le_refl _) (fun h => h) (show Var _ _ _ _ from (by repeat (first | exact Var.new _ _ _ | apply Var.drewN | apply Var.put))) HSZ.out (by decide)).mono ?_; rintro e w4 ⟨rfl, hv, hch⟩; have hc1 := cell_of_one (show Var _ _ _ _ from hv); have HB := Aside0.mk (((by repeat (first | exact Below.refl _ _ | apply below_alloc | apply pw_below_drewN | apply below_drew1 | (refine Below.setCell ?_ (by first | exact Nat.le_refl _ | (show _ ≤ _; omega)) _))) : Below w.heap.size w _).trans (hch.to ((by repeat (first | exact Below.refl _ _ | apply below_alloc | apply pw_below_drewN | apply below_drew1 | (refine Below.setCell ?_ (by first | exact Nat.le_refl _ | (show _ ≤ _; omega)) _))) : Below w.heap.size w _).size (fun k hk hq => hq.elim (fun h => by omega) (fun h => h)))); clear hv hch))
    repeat (go_quiet (fail); try go_wp2)
    go_ret2
    exact ⟨by rw [HF.out]; simp [outCount], (by repeat (first | (with_reducible first | exact HB.out | apply below_alloc | apply pw_below_drewN | apply below_drew1) | exact HB.out))⟩
  · have HF := Aside0.mk (CountWF_out h)
    have HB := Aside0.mk (Below.refl w.heap.size w)
    by_cases h1 : a < 1
    · go_enter Try.func10, Try.ntmps10
      (go_wp2; repeat (go_quiet (fail); try go_wp2))
      go_ret2
      exact ⟨by rw [HF.out]; rfl, (by repeat (first | (with_reducible first | exact HB.out | apply below_alloc | apply pw_below_drewN | apply below_drew1) | exact HB.out))⟩
    · by_cases h2 : 7 < a
      · go_enter Try.func10, Try.ntmps10
        (go_wp2; repeat (go_quiet (fail); try go_wp2))
        go_ret2
        exact ⟨by rw [HF.out]; rfl, (by repeat (first | (with_reducible first | exact HB.out | apply below_alloc | apply pw_below_drewN | apply below_drew1) | exact HB.out))⟩
      · by_cases h3 : b < 0
        · go_enter Try.func10, Try.ntmps10
          (go_wp2; repeat (go_quiet (fail); try go_wp2))
          go_ret2
          exact ⟨by rw [HF.out]; rfl, (by repeat (first | (with_reducible first | exact HB.out | apply below_alloc | apply pw_below_drewN | apply below_drew1) | exact HB.out))⟩
        · have h4 : 18 < b := by omega
          go_enter Try.func10, Try.ntmps10
          (go_wp2; repeat (go_quiet (fail); try go_wp2))
          go_ret2
          exact ⟨by rw [HF.out]; rfl, (by repeat (first | (with_reducible first | exact HB.out | apply below_alloc | apply pw_below_drewN | apply below_drew1) | exact HB.out))⟩
set_option maxHeartbeats 3200000 in
theorem implFirstD_calls (a : Int) (w : World) (ha : W64 a) :
    Calls Try.prog 12 #[.int .i64 a] w fun e w' => ∃ v, e = .returned (.tuple #[v, .bool (ShortF a).2]) ∧ Ow w' w.heap.size v (ShortF a).1 ∧ Below w.heap.size w w' := by
  by_cases h : 1 ≤ a ∧ a ≤ 6
  · obtain ⟨n, rfl⟩ : ∃ n : Nat, (n : Int) = a := ⟨a.toNat, by omega⟩
    have HF := Aside0.mk (show ShortF (n : Int) = scan (fun L => ruR false n L) 25 25 from ShortF_in h)
    have hcn := new_cell w (.slice none 0 0) 25
    have hfn := new_free w (.slice none 0 0) 25
    clear ha
    go_enter Try.func12, Try.ntmps12
    go_wp2_with fail
    repeat (go_quiet (fail); try go_wp2_with fail)
    go_loopg [5] 25 (fun g v5 w' => ∃ y : Nat, v5 = .int .i64 y ∧ Aside0 (y + g = 25) ∧ Aside0 (scan (fun L => ruR false n L) 25 g = ShortF (n : Int)) ∧ Aside0 (StFirst w.heap.size w.heap.size w' (fun k => w.heap.size < k) []) ∧ Aside0 (Below w.heap.size w w'))
    case atStart => exact ⟨0, by go_num, ⟨by omega⟩, ⟨HF.out.symm⟩, ⟨⟨.slice none 0 0, (by repeat (first | exact Var.new _ _ _ | apply Var.drewN | apply Var.put)), Kd.R_nil _ _ _ _ _⟩⟩, ⟨(by repeat (first | exact Below.refl _ _ | apply below_alloc | apply pw_below_drewN | apply below_drew1 | (refine Below.setCell ?_ (by first | exact Nat.le_refl _ | (show _ ≤ _; omega)) _)))⟩⟩
    case round =>
      obtain ⟨y, rfl, HY, HT, HSR, HB0⟩ := hrel
      have HB := Aside0.mk (Below.refl wr.heap.size wr)
      have HSL := Aside0.mk (StFirst_lt HSR.out)
      by_cases hy : y < 25
      · obtain ⟨d, hd⟩ : ∃ d, gk = d + 1 := ⟨gk - 1, by have := HY.out; omega⟩
        have HGD := Aside0.mk hd
        have hT := HT.out
        rw [hd, scan, show 25 - (d + 1) = y by have := HY.out; omega] at hT
        clear hd
        by_cases hg : (headR ((fun L => ruR false n L) y)).2 = true
        · have HG := Aside0.mk hg
          rw [if_pos hg] at hT
          have HT2 := Aside0.mk hT
          have HG2 := Aside0.mk (show (ShortF (n : Int)).2 = true by rw [← hT]; exact hg)
          clear hg hT
          go_wp2_with ((go_at_call 20; refine (eachFirstD_calls n y w.heap.size w.heap.size _ (fun k => w.heap.size < k) [] (by omega) (by omega) (Nat.le_refl _) (fun h => Nat.lt_irrefl _ h) (StFirst_mono (StFirst_chg (ok := fun _ => False) HSR.out (Chg.of_below (by repeat (first | (with_reducible first | exact HB.out | apply below_alloc | apply pw_below_drewN | apply below_drew1) | exact HB.out))) (fun k _ h => h) (fun h => h)) (fun k hk => hk.1)) (by show 0 + 0 * _ ≤ _; rw [Nat.zero_mul]; decide) (by decide)).mono ?_; rintro e w4 ⟨rfl, hst, hch⟩; have HS4 := Aside0.mk (StFirst_mono (Q' := fun k => w.heap.size < k) hst (fun k hk => by rcases hk with h | h; exact h; exact Nat.lt_of_lt_of_le (Nat.lt_of_lt_of_le HSL.out (below_size (by repeat (first | (with_reducible first | exact HB.out | apply below_alloc | apply pw_below_drewN | apply below_drew1) | exact HB.out)))) h)); have HB4 := Aside0.mk (HB0.out.trans (((Chg.of_below (ok := fun k => k = w.heap.size ∨ w.heap.size < k) (by repeat (first | (with_reducible first | exact HB.out | apply below_alloc | apply pw_below_drewN | apply below_drew1) | exact HB.out))).trans hch (fun j _ h => h)).to HB0.out.size (fun k hk hq => by omega))); clear hst hch HB; have HB := Aside0.mk (Below.refl w4.heap.size w4)); have HSF := HS4.out; rw [show outFirst [] _ = ShortF (n : Int) from HT2.out] at HSF; rw [show (outFirst [] _ : List Int × Bool).2 = true from HG.out]; obtain ⟨v, hv, ho⟩ := HSF; obtain ⟨Av, cv, rfl⟩ := Kd.R_slice ho; have hc4 := cell_of_one hv; have HO := Aside0.mk ho; clear hv ho)
          repeat (go_quiet (fail); try go_wp2)
          go_ret2
          exact ⟨_, by rw [HG2.out]; rfl, Kd.R_mono (by first | exact HO.out | exact Kd.R_drewN HO.out _) (fun _ _ => trivial), below_step HB4.out (by repeat (first | (with_reducible first | exact HB.out | apply below_alloc | apply pw_below_drewN | apply below_drew1) | exact HB.out))⟩
        · have HG := Aside0.mk (show (headR ((fun L => ruR false n L) y)).2 = false by simpa using hg)
          have HE := Aside0.mk (show headR ((fun L => ruR false n L) y) = ([], false) by
            have := HG.out
            revert this
            cases (fun L => ruR false n L) y with
            | nil => intro _; rfl
            | cons x R => intro h; cases h)
          rw [if_neg hg] at hT
          have HT2 := Aside0.mk hT
          clear hg hT
          go_wp2_with ((go_at_call 20; refine (eachFirstD_calls n y w.heap.size w.heap.size _ (fun k => w.heap.size < k) [] (by omega) (by omega) (Nat.le_refl _) (fun h => Nat.lt_irrefl _ h) (StFirst_mono (StFirst_chg (ok := fun _ => False) HSR.out (Chg.of_below (by repeat (first | (with_reducible first | exact HB.out | apply below_alloc | apply pw_below_drewN | apply below_drew1) | exact HB.out))) (fun k _ h => h) (fun h => h)) (fun k hk => hk.1)) (by show 0 + 0 * _ ≤ _; rw [Nat.zero_mul]; decide) (by decide)).mono ?_; rintro e w4 ⟨rfl, hst, hch⟩; have HS4 := Aside0.mk (StFirst_mono (Q' := fun k => w.heap.size < k) hst (fun k hk => by rcases hk with h | h; exact h; exact Nat.lt_of_lt_of_le (Nat.lt_of_lt_of_le HSL.out (below_size (by repeat (first | (with_reducible first | exact HB.out | apply below_alloc | apply pw_below_drewN | apply below_drew1) | exact HB.out)))) h)); have HB4 := Aside0.mk (HB0.out.trans (((Chg.of_below (ok := fun k => k = w.heap.size ∨ w.heap.size < k) (by repeat (first | (with_reducible first | exact HB.out | apply below_alloc | apply pw_below_drewN | apply below_drew1) | exact HB.out))).trans hch (fun j _ h => h)).to HB0.out.size (fun k hk hq => by omega))); clear hst hch HB; have HB := Aside0.mk (Below.refl w4.heap.size w4)); have HSF := HS4.out; rw [show outFirst [] _ = (([], false) : List Int × Bool) from HE.out] at HSF; have HSG := Aside0.mk HSF; rw [show (outFirst [] _ : List Int × Bool).2 = false from HG.out])
          repeat (go_quiet (fail); try go_wp2)
          go_roundg (gk - 1)
          case measure => have := HY.out; omega
          case rel => exact ⟨y + 1, by go_num, ⟨by have := HY.out; omega⟩, ⟨by rw [show gk - 1 = d by have := HGD.out; omega]; exact HT2.out⟩, ⟨StFirst_mono (StFirst_chg (ok := fun _ => False) HSG.out (Chg.of_below (by repeat (first | (with_reducible first | exact HB.out | apply below_alloc | apply pw_below_drewN | apply below_drew1) | exact HB.out))) (fun k _ h => h) (fun h => h)) (fun k hk => hk.1)⟩, ⟨below_step HB4.out (by repeat (first | (with_reducible first | exact HB.out | apply below_alloc | apply pw_below_drewN | apply below_drew1) | exact HB.out))⟩⟩
      · have hT := HT.out
        rw [show gk = 0 by have := HY.out; omega] at hT
        exact absurd (show (ShortF (n : Int)).2 = true by rw [HF.out]; exact short_is n (by omega)) (by rw [← hT]; exact Bool.false_ne_true)
  · have HF := Aside0.mk (ShortF_out h)
    have HB := Aside0.mk (Below.refl w.heap.size w)
    by_cases h3 : a < 1
    · go_enter Try.func12, Try.ntmps12
      (go_wp2; repeat (go_quiet (fail); try go_wp2))
      go_ret2
      exact ⟨_, by rw [HF.out]; rfl, by rw [HF.out]; exact Kd.R_nil _ _ _ _ _, (by repeat (first | (with_reducible first | exact HB.out | apply below_alloc | apply pw_below_drewN | apply below_drew1) | exact HB.out))⟩
    · have h8 : 6 < a := by omega
      go_enter Try.func12, Try.ntmps12
      (go_wp2; repeat (go_quiet (fail); try go_wp2))
      go_ret2
      exact ⟨_, by rw [HF.out]; rfl, by rw [HF.out]; exact Kd.R_nil _ _ _ _ _, (by repeat (first | (with_reducible first | exact HB.out | apply below_alloc | apply pw_below_drewN | apply below_drew1) | exact HB.out))⟩
set_option maxHeartbeats 3200000 in
theorem implFirstW_calls (a : Int) (w : World) (ha : W64 a) :
    Calls Try.prog 17 #[.int .i64 a] w fun e w' => ∃ v, e = .returned (.tuple #[v, .bool (FewF a).2]) ∧ Ow w' w.heap.size v (FewF a).1 ∧ Below w.heap.size w w' := by
  by_cases h : 0 ≤ a ∧ a ≤ 18
  · obtain ⟨n, rfl⟩ : ∃ n : Nat, (n : Int) = a := ⟨a.toNat, by omega⟩
    have HF := Aside0.mk (show FewF (n : Int) = scan (fun i => ruR true (i + 1) n) 12 12 from FewF_in h)
    have hcn := new_cell w (.slice none 0 0) 25
    have hfn := new_free w (.slice none 0 0) 25
    clear ha
    go_enter Try.func17, Try.ntmps17
    go_wp2_with fail
    repeat (go_quiet (fail); try go_wp2_with fail)
    go_loopg [5] 12 (fun g v5 w' => ∃ y : Nat, v5 = .int .i64 (y + 1) ∧ Aside0 (y + g = 12) ∧ Aside0 (scan (fun i => ruR true (i + 1) n) 12 g = FewF (n : Int)) ∧ Aside0 (StFirst w.heap.size w.heap.size w' (fun k => w.heap.size < k) []) ∧ Aside0 (Below w.heap.size w w'))
    case atStart => exact ⟨0, by go_num, ⟨by omega⟩, ⟨HF.out.symm⟩, ⟨⟨.slice none 0 0, (by repeat (first | exact Var.new _ _ _ | apply Var.drewN | apply Var.put)), Kd.R_nil _ _ _ _ _⟩⟩, ⟨(by repeat (first | exact Below.refl _ _ | apply below_alloc | apply pw_below_drewN | apply below_drew1 | (refine Below.setCell ?_ (by first | exact Nat.le_refl _ | (show _ ≤ _; omega)) _)))⟩⟩
    case round =>
      obtain ⟨y, rfl, HY, HT, HSR, HB0⟩ := hrel
      have HB := Aside0.mk (Below.refl wr.heap.size wr)
      have HSL := Aside0.mk (StFirst_lt HSR.out)
      by_cases hy : y < 12
      · obtain ⟨d, hd⟩ : ∃ d, gk = d + 1 := ⟨gk - 1, by have := HY.out; omega⟩
        have HGD := Aside0.mk hd
        have hT := HT.out
        rw [hd, scan, show 12 - (d + 1) = y by have := HY.out; omega] at hT
        clear hd
        by_cases hg : (headR ((fun i => ruR true (i + 1) n) y)).2 = true
        · have HG := Aside0.mk hg
          rw [if_pos hg] at hT
          have HT2 := Aside0.mk hT
          have HG2 := Aside0.mk (show (FewF (n : Int)).2 = true by rw [← hT]; exact hg)
          clear hg hT
          go_wp2_with ((go_at_call 20; refine (eachFirstW_calls (y + 1) n w.heap.size w.heap.size _ (fun k => w.heap.size < k) [] (by omega) (by omega) (Nat.le_refl _) (fun h => Nat.lt_irrefl _ h) (StFirst_mono (StFirst_chg (ok := fun _ => False) HSR.out (Chg.of_below (by repeat (first | (with_reducible first | exact HB.out | apply below_alloc | apply pw_below_drewN | apply below_drew1) | exact HB.out))) (fun k _ h => h) (fun h => h)) (fun k hk => hk.1)) (by show 0 + 0 * _ ≤ _; rw [Nat.zero_mul]; decide) (by decide)).mono ?_; rintro e w4 ⟨rfl, hst, hch⟩; have HS4 := Aside0.mk (StFirst_mono (Q' := fun k => w.heap.size < k) hst (fun k hk => by rcases hk with h | h; exact h; exact Nat.lt_of_lt_of_le (Nat.lt_of_lt_of_le HSL.out (below_size (by repeat (first | (with_reducible first | exact HB.out | apply below_alloc | apply pw_below_drewN | apply below_drew1) | exact HB.out)))) h)); have HB4 := Aside0.mk (HB0.out.trans (((Chg.of_below (ok := fun k => k = w.heap.size ∨ w.heap.size < k) (by repeat (first | (with_reducible first | exact HB.out | apply below_alloc | apply pw_below_drewN | apply below_drew1) | exact HB.out))).trans hch (fun j _ h => h)).to HB0.out.size (fun k hk hq => by omega))); clear hst hch HB; have HB := Aside0.mk (Below.refl w4.heap.size w4)); have HSF := HS4.out; rw [show outFirst [] _ = FewF (n : Int) from HT2.out] at HSF; rw [show (outFirst [] _ : List Int × Bool).2 = true from HG.out]; obtain ⟨v, hv, ho⟩ := HSF; obtain ⟨Av, cv, rfl⟩ := Kd.R_slice ho; have hc4 := cell_of_one hv; have HO := Aside0.mk ho; clear hv ho)
          repeat (go_quiet (fail); try go_wp2)
          go_ret2
          exact ⟨_, by rw [HG2.out]; rfl, Kd.R_mono (by first | exact HO.out | exact Kd.R_drewN HO.out _) (fun _ _ => trivial), below_step HB4.out (by repeat (first | (with_reducible first | exact HB.out | apply below_alloc | apply pw_below_drewN | apply below_drew1) | exact HB.out))⟩
        · have HG := Aside0.mk (show (headR ((fun i => ruR true (i + 1) n) y)).2 = false by simpa using hg)
          have HE := Aside0.mk (show headR ((fun i => ruR true (i + 1) n) y) = ([], false) by
            have := HG.out
            revert this
            cases (fun i => ruR true (i + 1) n) y with
            | nil => intro _; rfl
            | cons x R => intro h; cases h)
          rw [if_neg hg] at hT
          have HT2 := Aside0.mk hT
          clear hg hT
          go_wp2_with ((go_at_call 20; refine (eachFirstW_calls (y + 1) n w.heap.size w.heap.size _ (fun k => w.heap.size < k) [] (by omega) (by omega) (Nat.le_refl _) (fun h => Nat.lt_irrefl _ h) (StFirst_mono (StFirst_chg (ok := fun _ => False) HSR.out (Chg.of_below (by repeat (first | (with_reducible first | exact HB.out | apply below_alloc | apply pw_below_drewN | apply below_drew1) | exact HB.out))) (fun k _ h => h) (fun h => h)) (fun k hk => hk.1)) (by show 0 + 0 * _ ≤ _; rw [Nat.zero_mul]; decide) (by decide)).mono ?_; rintro e w4 ⟨rfl, hst, hch⟩; have HS4 := Aside0.mk (StFirst_mono (Q' := fun k => w.heap.size < k) hst (fun k hk => by rcases hk with h | h; exact h; exact Nat.lt_of_lt_of_le (Nat.lt_of_lt_of_le HSL.out (below_size (by repeat (first | (with_reducible first | exact HB.out | apply below_alloc | apply pw_below_drewN | apply below_drew1) | exact HB.out)))) h)); have HB4 := Aside0.mk (HB0.out.trans (((Chg.of_below (ok := fun k => k = w.heap.size ∨ w.heap.size < k) (by repeat (first | (with_reducible first | exact HB.out | apply below_alloc | apply pw_below_drewN | apply below_drew1) | exact HB.out))).trans hch (fun j _ h => h)).to HB0.out.size (fun k hk hq => by omega))); clear hst hch HB; have HB := Aside0.mk (Below.refl w4.heap.size w4)); have HSF := HS4.out; rw [show outFirst [] _ = (([], false) : List Int × Bool) from HE.out] at HSF; have HSG := Aside0.mk HSF; rw [show (outFirst [] _ : List Int × Bool).2 = false from HG.out])
          repeat (go_quiet (fail); try go_wp2)
          go_roundg (gk - 1)
          case measure => have := HY.out; omega
          case rel => exact ⟨y + 1, by go_num, ⟨by have := HY.out; omega⟩, ⟨by rw [show gk - 1 = d by have := HGD.out; omega]; exact HT2.out⟩, ⟨StFirst_mono (StFirst_chg (ok := fun _ => False) HSG.out (Chg.of_below (by repeat (first | (with_reducible first | exact HB.out | apply below_alloc | apply pw_below_drewN | apply below_drew1) | exact HB.out))) (fun k _ h => h) (fun h => h)) (fun k hk => hk.1)⟩, ⟨below_step HB4.out (by repeat (first | (with_reducible first | exact HB.out | apply below_alloc | apply pw_below_drewN | apply below_drew1) | exact HB.out))⟩⟩
      · have hT := HT.out
        rw [show gk = 0 by have := HY.out; omega] at hT
        (have HT2 := Aside0.mk (show FewF (n : Int) = ([], false) from hT.symm); clear hT; (go_wp2; repeat (go_quiet (fail); try go_wp2)); go_ret2; exact ⟨_, by rw [HT2.out]; rfl, by rw [HT2.out]; exact Kd.R_nil _ _ _ _ _, below_step HB0.out (by repeat (first | (with_reducible first | exact HB.out | apply below_alloc | apply pw_below_drewN | apply below_drew1) | exact HB.out))⟩)
  · have HF := Aside0.mk (FewF_out h)
    have HB := Aside0.mk (Below.refl w.heap.size w)
    by_cases h3 : a < 0
    · go_enter Try.func17, Try.ntmps17
      (go_wp2; repeat (go_quiet (fail); try go_wp2))
      go_ret2
      exact ⟨_, by rw [HF.out]; rfl, by rw [HF.out]; exact Kd.R_nil _ _ _ _ _, (by repeat (first | (with_reducible first | exact HB.out | apply below_alloc | apply pw_below_drewN | apply below_drew1) | exact HB.out))⟩
    · have h8 : 18 < a := by omega
      go_enter Try.func17, Try.ntmps17
      (go_wp2; repeat (go_quiet (fail); try go_wp2))
      go_ret2
      exact ⟨_, by rw [HF.out]; rfl, by rw [HF.out]; exact Kd.R_nil _ _ _ _ _, (by repeat (first | (with_reducible first | exact HB.out | apply below_alloc | apply pw_below_drewN | apply below_drew1) | exact HB.out))⟩
end Go.Proofs.Ytmmnohdokemchaa.Own.G
