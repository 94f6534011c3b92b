/- Rulers with a length: the walk of the program's rulers and eachRuler; lengths up to 60. -/
import Derived.Test.YtmmnohdokemchaaOwnRuA
namespace Go.Proofs.Ytmmnohdokemchaa.Own.G
open Go.RowKit Go.Proofs.YtmmnohdokemchaaW.PrintWords Go.Proofs.YtmmnohdokemchaaW.PrintLast Go.Proofs.YtmmnohdokemchaaW.PrintMore
set_option linter.unusedVariables false
theorem hgr_ {w w1 : World} {r : Option Nat} (h : w.grownBy w1 r) : w.grownBy w1 r := h
noncomputable abbrev goCountD (L : Nat) (f : Nat) (l : List Int) (s : Nat) : Nat × Bool := (ruS false L).go nextCount false f l s
/-- What rulers does, with f marks left beside the last one. -/
def RuCountD (L n f bo B : Nat) : Prop := ∀ (u : Value) (l : List Int) (w : World) (Q : Nat → Prop) (s : Nat), Ow w B u l → (∀ k, u.ownBlock = some k → ¬ Q k ∧ k ≠ bo) → ¬ Q bo → StCount bo B w Q s → Nod L l → l.length + f + 1 = n → sizeCount s + 1 * L ^ f ≤ 4000000000000000000 →
  Calls Try.prog 30 #[u, .int .i64 (n : Int), .int .i64 (L : Int), .func (.func 21) #[] #[], .func (.func 22) #[] #[.pointer (some ⟨bo, 0, none⟩)]] w fun e w' => e = .returned (.bool (goCountD L f l s).2) ∧ StCount bo B w' (fun k => Q k ∨ w.heap.size ≤ k) (goCountD L f l s).1 ∧ Ow w' B u l ∧ Chg (fun k => k = bo ∨ Q k ∨ u.ownBlock = some k) w w'
noncomputable abbrev goFirstD (L : Nat) (f : Nat) (l : List Int) (s : List Int) : List Int × Bool := (ruS false L).go nextFirst true f l s
/-- What rulers does, with f marks left beside the last one. -/
def RuFirstD (L n f bo B : Nat) : Prop := ∀ (u : Value) (l : List Int) (w : World) (Q : Nat → Prop) (s : List Int), Ow w B u l → (∀ k, u.ownBlock = some k → ¬ Q k ∧ k ≠ bo) → ¬ Q bo → StFirst bo B w Q s → Nod L l → l.length + f + 1 = n → sizeFirst s + 0 * L ^ f ≤ 4000000000000000000 →
  Calls Try.prog 30 #[u, .int .i64 (n : Int), .int .i64 (L : Int), .func (.func 21) #[] #[], .func (.func 26) #[] #[.pointer (some ⟨bo, 0, none⟩)]] w fun e w' => e = .returned (.bool (goFirstD L f l s).2) ∧ StFirst bo B w' (fun k => Q k ∨ w.heap.size ≤ k) (goFirstD L f l s).1 ∧ Ow w' B u l ∧ Chg (fun k => k = bo ∨ Q k ∨ u.ownBlock = some k) w w'
noncomputable abbrev goCountW (L : Nat) (f : Nat) (l : List Int) (s : Nat) : Nat × Bool := (ruS true L).go nextCount false f l s
/-- What rulers does, with f marks left beside the last one. -/
def RuCountW (L n f bo B : Nat) : Prop := ∀ (u : Value) (l : List Int) (w : World) (Q : Nat → Prop) (s : Nat), Ow w B u l → (∀ k, u.ownBlock = some k → ¬ Q k ∧ k ≠ bo) → ¬ Q bo → StCount bo B w Q s → Nod L l → l.length + f + 1 = n → sizeCount s + 1 * L ^ f ≤ 4000000000000000000 →
  Calls Try.prog 30 #[u, .int .i64 (n : Int), .int .i64 (L : Int), .func (.func 23) #[] #[], .func (.func 24) #[] #[.pointer (some ⟨bo, 0, none⟩)]] w fun e w' => e = .returned (.bool (goCountW L f l s).2) ∧ StCount bo B w' (fun k => Q k ∨ w.heap.size ≤ k) (goCountW L f l s).1 ∧ Ow w' B u l ∧ Chg (fun k => k = bo ∨ Q k ∨ u.ownBlock = some k) w w'
noncomputable abbrev goFirstW (L : Nat) (f : Nat) (l : List Int) (s : List Int) : List Int × Bool := (ruS true L).go nextFirst true f l s
/-- What rulers does, with f marks left beside the last one. -/
def RuFirstW (L n f bo B : Nat) : Prop := ∀ (u : Value) (l : List Int) (w : World) (Q : Nat → Prop) (s : List Int), Ow w B u l → (∀ k, u.ownBlock = some k → ¬ Q k ∧ k ≠ bo) → ¬ Q bo → StFirst bo B w Q s → Nod L l → l.length + f + 1 = n → sizeFirst s + 0 * L ^ f ≤ 4000000000000000000 →
  Calls Try.prog 30 #[u, .int .i64 (n : Int), .int .i64 (L : Int), .func (.func 23) #[] #[], .func (.func 28) #[] #[.pointer (some ⟨bo, 0, none⟩)]] w fun e w' => e = .returned (.bool (goFirstW L f l s).2) ∧ StFirst bo B w' (fun k => Q k ∨ w.heap.size ≤ k) (goFirstW L f l s).1 ∧ Ow w' B u l ∧ Chg (fun k => k = bo ∨ Q k ∨ u.ownBlock = some k) w w'
set_option maxHeartbeats 1600000 in
theorem ruCountD_off (L n f bo B : Nat) (A : Option Addr) (c : Nat) (l : List Int) (w : World) (Q : Nat → Prop) (s : Nat) (ho : Ow w B (.slice A l.length c) l) (hst : StCount bo B w Q s) (hr : Rd w A l) (hc : l.length ≤ c) (hnod : Nod L l) (hon : ¬ ts false l = true) (fv : Value) :
  Calls Try.prog 30 #[.slice A l.length c, .int .i64 (n : Int), .int .i64 (L : Int), .func (.func 21) #[] #[], fv] w fun e w' => e = .returned (.bool (goCountD L f l s).2) ∧ StCount bo B w' (fun k => Q k ∨ w.heap.size ≤ k) (goCountD L f l s).1 ∧ Ow w' B (.slice A l.length c) l ∧ Chg (fun k => k = bo ∨ Q k ∨ (.slice A l.length c : Value).ownBlock = some k) w w' := by
  have HO := Aside0.mk ho
  have HST := Aside0.mk hst
  have HR := Aside0.mk hr
  have HC := Aside0.mk hc
  have HN := Aside0.mk hnod
  have HON := Aside0.mk (show ts false l = false by simpa using hon)
  have HF := Aside0.mk (show goCountD L f l s = (s, false) by
    cases f with
    | zero => exact if_neg hon
    | succ f => exact if_neg hon)
  clear ho hst hr hc hnod hon
  have HB := Aside0.mk (Below.refl w.heap.size w)
  go_enter Try.func30, Try.ntmps30
  go_wp2_with ((go_at_call 21; refine (different_calls _ c l _ (Kd.C_below HR.out (by repeat (first | (with_reducible first | exact HB.out | apply below_alloc | apply pw_below_drewN | apply below_drew1) | exact HB.out))) HC.out HN.out.1).mono ?_; rw [show tf (Diff (times l)) = _ from HON.out]; rintro e w1 ⟨rfl, hb⟩; have n0_ := Aside0.mk (below_step (by repeat (first | (with_reducible first | exact HB.out | apply below_alloc | apply pw_below_drewN | apply below_drew1) | exact HB.out)) hb); (try replace hxm := (Below.cell n0_.out (World.block_lt_of_cell? w _ hxm)).trans hxm); clear HB hb; have HB := n0_; clear n0_))
  repeat (go_quiet (fail); try go_wp2_with fail)
  go_ret
  exact ⟨by rw [HF.out]; rfl, by rw [HF.out]; exact StCount_mono (StCount_chg (ok := fun _ => False) HST.out (Chg.of_below (by repeat (first | (with_reducible first | exact HB.out | apply below_alloc | apply pw_below_drewN | apply below_drew1) | exact HB.out))) (fun k _ h => h) (fun h => h)) (fun k hk => .inl hk.1), Ow_below HO.out (by repeat (first | (with_reducible first | exact HB.out | apply below_alloc | apply pw_below_drewN | apply below_drew1) | exact HB.out)), Chg.of_below (by repeat (first | (with_reducible first | exact HB.out | apply below_alloc | apply pw_below_drewN | apply below_drew1) | exact HB.out))⟩
set_option maxHeartbeats 1600000 in
theorem ruFirstD_off (L n f bo B : Nat) (A : Option Addr) (c : Nat) (l : List Int) (w : World) (Q : Nat → Prop) (s : List Int) (ho : Ow w B (.slice A l.length c) l) (hst : StFirst bo B w Q s) (hr : Rd w A l) (hc : l.length ≤ c) (hnod : Nod L l) (hon : ¬ ts false l = true) (fv : Value) :
  Calls Try.prog 30 #[.slice A l.length c, .int .i64 (n : Int), .int .i64 (L : Int), .func (.func 21) #[] #[], fv] w fun e w' => e = .returned (.bool (goFirstD L f l s).2) ∧ StFirst bo B w' (fun k => Q k ∨ w.heap.size ≤ k) (goFirstD L f l s).1 ∧ Ow w' B (.slice A l.length c) l ∧ Chg (fun k => k = bo ∨ Q k ∨ (.slice A l.length c : Value).ownBlock = some k) w w' := by
  have HO := Aside0.mk ho
  have HST := Aside0.mk hst
  have HR := Aside0.mk hr
  have HC := Aside0.mk hc
  have HN := Aside0.mk hnod
  have HON := Aside0.mk (show ts false l = false by simpa using hon)
  have HF := Aside0.mk (show goFirstD L f l s = (s, false) by
    cases f with
    | zero => exact if_neg hon
    | succ f => exact if_neg hon)
  clear ho hst hr hc hnod hon
  have HB := Aside0.mk (Below.refl w.heap.size w)
  go_enter Try.func30, Try.ntmps30
  go_wp2_with ((go_at_call 21; refine (different_calls _ c l _ (Kd.C_below HR.out (by repeat (first | (with_reducible first | exact HB.out | apply below_alloc | apply pw_below_drewN | apply below_drew1) | exact HB.out))) HC.out HN.out.1).mono ?_; rw [show tf (Diff (times l)) = _ from HON.out]; rintro e w1 ⟨rfl, hb⟩; have n0_ := Aside0.mk (below_step (by repeat (first | (with_reducible first | exact HB.out | apply below_alloc | apply pw_below_drewN | apply below_drew1) | exact HB.out)) hb); (try replace hxm := (Below.cell n0_.out (World.block_lt_of_cell? w _ hxm)).trans hxm); clear HB hb; have HB := n0_; clear n0_))
  repeat (go_quiet (fail); try go_wp2_with fail)
  go_ret
  exact ⟨by rw [HF.out]; rfl, by rw [HF.out]; exact StFirst_mono (StFirst_chg (ok := fun _ => False) HST.out (Chg.of_below (by repeat (first | (with_reducible first | exact HB.out | apply below_alloc | apply pw_below_drewN | apply below_drew1) | exact HB.out))) (fun k _ h => h) (fun h => h)) (fun k hk => .inl hk.1), Ow_below HO.out (by repeat (first | (with_reducible first | exact HB.out | apply below_alloc | apply pw_below_drewN | apply below_drew1) | exact HB.out)), Chg.of_below (by repeat (first | (with_reducible first | exact HB.out | apply below_alloc | apply pw_below_drewN | apply below_drew1) | exact HB.out))⟩
set_option maxRecDepth 8000 in
set_option maxHeartbeats 6400000 in
theorem ruCountD_step (L n f bo B : Nat) (hL : L ≤ 60) (hn : n ≤ 12) (hB : B ≤ bo) (hih : ∀ f', f = f' + 1 → RuCountD L n f' bo B) : RuCountD L n f bo B := by
  intro u l w Q s ho hq hb hst hnod hlf hsz
  obtain ⟨A, c, rfl, hcap, hrd⟩ := Ow_form ho
  have hbo : bo < w.heap.size := StCount_lt hst
  have hl1 := hnod.1.1.1
  have hlt0 := hnod.2
  have hge0 := (Ruler_lst hnod.1).1
  have HIH := Aside0.mk hih
  have HO := Aside0.mk ho
  have HQ := Aside0.mk hq
  have HNB := Aside0.mk hb
  have HST := Aside0.mk hst
  have HR := Aside0.mk hrd
  have HC := Aside0.mk hcap
  have HN := Aside0.mk hnod
  have HSZ := Aside0.mk hsz
  have HP := Aside0.mk (show 0 < l.length by omega)
  have HLN := Aside0.mk (show l.length ≤ 1048576 by omega)
  have HBW := Aside0.mk (show B ≤ w.heap.size by omega)
  clear hih ho hq hb hst hcap hrd hnod hsz
  have HB := Aside0.mk (Below.refl w.heap.size w)
  by_cases hon : ts false l = true
  · have HON := Aside0.mk hon
    by_cases hz : l.length = n - 1
    · obtain rfl : f = 0 := by omega
      have ht : ((l.length : Int) == (n : Int) - 1) = true := beq_iff_eq.mpr (by omega)
      have HX := Aside0.mk (show sizeCount s + 1 ≤ 4000000000000000000 by have := HSZ.out; rw [Nat.pow_zero] at this; omega)
      have HRU := Aside0.mk (Nod_fin HN.out hL (by omega))
      have hG : goCountD L 0 l s = if qq false (l ++ [(L : Int)]) = true then (nextCount s (l ++ [(L : Int)]), false) else (s, false) := by
        have e : goCountD L 0 l s = if ts false l = true then (if qq false (l ++ [(L : Int)]) = true then (nextCount s (l ++ [(L : Int)]), false) else (s, false)) else (s, false) := rfl
        rw [e, if_pos hon]
      generalize hm_ : l ++ [(L : Int)] = m at hG HRU
      have HM := Aside0.mk hm_
      have HG := Aside0.mk hG.symm
      clear hm_ hG hz hlf hon
      go_enter Try.func30, Try.ntmps30
      go_wp2_with (first | (go_at_call 21; refine (different_calls _ c l _ (Kd.C_below HR.out (by repeat (first | (with_reducible first | exact HB.out | apply below_alloc | apply pw_below_drewN | apply below_drew1) | exact HB.out))) HC.out HN.out.1).mono ?_; rw [show tf (Diff (times l)) = _ from HON.out]; rintro e w1 ⟨rfl, hb⟩; have n0_ := Aside0.mk (below_step (by repeat (first | (with_reducible first | exact HB.out | apply below_alloc | apply pw_below_drewN | apply below_drew1) | exact HB.out)) hb); (try replace hxm := (Below.cell n0_.out (World.block_lt_of_cell? w _ hxm)).trans hxm); clear HB hb; have HB := n0_; clear n0_) | ((with_reducible refine gate_builtin (b := .append) (xs := #[.tmp 22, .tmp 24]) rfl ?_); at_builtin; refine app_any (by rfl) (.tmp 22) (.tmp 24) (by rfl) B (.slice A l.length c) l (L : Int) (by rfl) (by rfl) (Ow_below HO.out (by repeat (first | (with_reducible first | exact HB.out | apply below_alloc | apply pw_below_drewN | apply below_drew1) | exact HB.out))) HP.out HLN.out (Nat.le_trans HBW.out (below_size (by repeat (first | (with_reducible first | exact HB.out | apply below_alloc | apply pw_below_drewN | apply below_drew1) | exact HB.out)))) ?_; intro v1 w2 ho1 hg1 hk1 hback; have HCW := Aside0.mk ((Chg.of_below (ok := fun k => (.slice A l.length c : Value).ownBlock = some k) (by repeat (first | (with_reducible first | exact HB.out | apply below_alloc | apply pw_below_drewN | apply below_drew1) | exact HB.out))).grown (hgr_ hg1) (fun k h _ => h)); have HK1 := Aside0.mk (fun k h => (hk1 k h).imp_right (fun h2 => Nat.le_trans (below_size (by repeat (first | (with_reducible first | exact HB.out | apply below_alloc | apply pw_below_drewN | apply below_drew1) | exact HB.out))) h2)); have HBK := Aside0.mk hback; have HSI := Aside0.mk (show ∀ k, v1.ownBlock = some k → ¬ ((Q k ∨ w.heap.size ≤ k) ∧ k < w.heap.size) ∧ k ≠ bo from (fun k hk => ⟨fun h => by have h1 := HK1.out k hk; rcases h1 with h1 | h1; rcases h.1 with h2 | h2; exact (HQ.out k h1).1 h2; have := Ow_lt HO.out k h1; omega; have := h.2; omega, fun h => by subst h; have h1 := HK1.out _ hk; rcases h1 with h1 | h1; exact (HQ.out _ h1).2 rfl; omega⟩)); rw [HM.out] at ho1; have HO1 := Aside0.mk ho1; clear HB hg1 hk1 hback ho1; have HB := Aside0.mk (Below.refl w2.heap.size w2)) | (go_at_call 22; refine (callCountD bo B _ m _ (fun k => (Q k ∨ w.heap.size ≤ k) ∧ k < w.heap.size) s (by first | exact HO1.out | exact Ow_drewN HO1.out _) HSI.out (fun h => h.1.elim HNB.out (fun h => by omega)) (StCount_chg (StCount_mono HST.out (fun k hk => .inl hk)) ((HCW.out).below (by repeat (first | (with_reducible first | exact HB.out | apply below_alloc | apply pw_below_drewN | apply below_drew1) | exact HB.out))) (fun k hk h => by rcases hk with h2 | h2; exact (HQ.out k h).1 h2; have := Ow_lt HO.out k h; omega) (fun h => (HQ.out bo h).2 rfl)) hB HRU.out HX.out).mono ?_; rw [show (if qq false m = true then _ else _) = _ from HG.out]; rintro e w4 ⟨rfl, hst, hch⟩; have HO4 := Aside0.mk (Ow_chg (by first | exact HO1.out | exact Ow_drewN HO1.out _) hch (fun k hk h => by have h2 := HSI.out k hk; exact h.elim h2.2 h2.1)); have HS3 := Aside0.mk (StCount_mono (Q' := fun k => Q k ∨ w.heap.size ≤ k) hst (fun k hk => by rcases hk with h | h; exact h.1; exact .inr (Nat.le_trans HCW.out.size (Nat.le_trans (below_size (by repeat (first | (with_reducible first | exact HB.out | apply below_alloc | apply pw_below_drewN | apply below_drew1) | exact HB.out))) h)))); have HCT := Aside0.mk ((Chg.of_below (ok := fun k => k = bo ∨ ((Q k ∨ w.heap.size ≤ k) ∧ k < w.heap.size)) (by repeat (first | (with_reducible first | exact HB.out | apply below_alloc | apply pw_below_drewN | apply below_drew1) | exact HB.out))).trans hch (fun j _ h => h)); clear hst hch))
      repeat (go_quiet (fail); try go_wp2)
      go_ret
      exact ⟨rfl, HS3.out, (HBK.out _ _ HCT.out (fun k hk hv h => by rcases h with h | h; exact (HQ.out k hk).2 h; rcases h.1 with h2 | h2; exact (HQ.out k hk).1 h2; have := Ow_lt HO.out k hk; omega) (by rw [HM.out]; exact HO4.out)), ((HCW.out.mono (ok1 := fun k => k = bo ∨ Q k ∨ (.slice A l.length c : Value).ownBlock = some k) (fun j h => .inr (.inr h))).trans HCT.out (fun j hj h => by rcases h with h | h; exact .inl h; rcases h.1 with h2 | h2; exact .inr (.inl h2); omega))⟩
    · obtain ⟨f', rfl⟩ : ∃ f', f = f' + 1 := ⟨f - 1, by omega⟩
      have HIC := Aside0.mk (HIH.out f' rfl)
      have ht : ((l.length : Int) == (n : Int) - 1) = false := beq_eq_false_iff_ne.mpr (by omega)
      obtain ⟨ad, hA, _⟩ := at_first HR.out (by omega)
      subst hA
      obtain ⟨mm, hmm⟩ : ∃ mm : Int, IntKind.i64.wrap ((l.length : Int) - 1) = mm := ⟨_, rfl⟩
      have HMM := Aside0.mk (show mm = (l.length : Int) - 1 by rw [← hmm, i64_w, w64 (by omega) (by omega)])
      have mm0 : 0 ≤ mm := by have := HMM.out; omega
      have mm2 : mm < (l.length : Int) := by have := HMM.out; omega
      obtain ⟨ad2, e2, hxm⟩ := Kd.at_int HR.out mm mm0 mm2
      obtain rfl : ad = ad2 := by injection e2
      clear e2
      obtain ⟨zn, hzn⟩ : ∃ zn : Nat, lst l = (zn : Int) := ⟨(lst l).toNat, by omega⟩
      have hzm : rd l mm = (zn : Int) := by rw [← hzn, HMM.out]; rfl
      rw [hzm] at hxm
      rw [hzn] at hlt0
      have HST0 := Aside0.mk (show (ruS false L).st l = L - (zn + 1) by show L - (lst l + 1).toNat = _; rw [hzn]; omega)
      have HFF := Aside0.mk (show (ruS false L).goL (goCountD L f') l (L - (zn + 1)) s = goCountD L (f' + 1) l s by
        have e : goCountD L (f' + 1) l s = if ts false l = true then (ruS false L).goL (goCountD L f') l ((ruS false L).st l) s else (s, false) := rfl
        rw [e, if_pos hon, HST0.out])
      have hpw : 1 * L ^ (f' + 1) = L * (1 * L ^ f') := Seek.pow_step _ _ _
      have HS0 := Aside0.mk (show sizeCount s + (L - (zn + 1)) * (1 * L ^ f') ≤ 4000000000000000000 by have := HSZ.out; rw [hpw] at this; exact Nat.le_trans (Nat.add_le_add_left (Nat.mul_le_mul_right _ (Nat.sub_le _ _)) _) this)
      have HZN := Aside0.mk hzn
      clear hpw hzn hzm hon
      go_enter Try.func30, Try.ntmps30
      go_wp2_with ((go_at_call 21; refine (different_calls _ c l _ (Kd.C_below HR.out (by repeat (first | (with_reducible first | exact HB.out | apply below_alloc | apply pw_below_drewN | apply below_drew1) | exact HB.out))) HC.out HN.out.1).mono ?_; rw [show tf (Diff (times l)) = _ from HON.out]; rintro e w1 ⟨rfl, hb⟩; have n0_ := Aside0.mk (below_step (by repeat (first | (with_reducible first | exact HB.out | apply below_alloc | apply pw_below_drewN | apply below_drew1) | exact HB.out)) hb); (try replace hxm := (Below.cell n0_.out (World.block_lt_of_cell? w _ hxm)).trans hxm); clear HB hb; have HB := n0_; clear n0_))
      repeat (go_quiet (fail); try go_wp2_with fail)
      clear hxm
      go_loopg [11] (L - (zn + 1)) (fun g v11 w' => ∃ (y : Nat) (s' : Nat), v11 = .int .i64 y ∧ Aside0 (zn + 1 ≤ y ∧ y + g = L) ∧ Aside0 ((ruS false L).goL (goCountD L f') l g s' = goCountD L (f' + 1) l s) ∧ Aside0 (sizeCount s' + g * (1 * L ^ f') ≤ 4000000000000000000) ∧ Aside0 (StCount bo B w' (fun k => Q k ∨ w.heap.size ≤ k) s') ∧ Aside0 (Ow w' B (.slice (some ad) l.length c) l) ∧ Aside0 (Chg (fun k => k = bo ∨ Q k ∨ (.slice (some ad) l.length c : Value).ownBlock = some k) w w'))
      case atStart => exact ⟨zn + 1, s, by go_num, ⟨by omega⟩, HFF, HS0, ⟨StCount_mono (StCount_chg (ok := fun _ => False) HST.out (Chg.of_below (by repeat (first | (with_reducible first | exact HB.out | apply below_alloc | apply pw_below_drewN | apply below_drew1) | exact HB.out))) (fun k _ h => h) (fun h => h)) (fun k hk => .inl hk.1)⟩, ⟨Ow_below HO.out (by repeat (first | (with_reducible first | exact HB.out | apply below_alloc | apply pw_below_drewN | apply below_drew1) | exact HB.out))⟩, ⟨Chg.of_below (by repeat (first | (with_reducible first | exact HB.out | apply below_alloc | apply pw_below_drewN | apply below_drew1) | exact HB.out))⟩⟩
      case round =>
        clear HB
        obtain ⟨y, s', rfl, HY, HT, HSS, HSR, HOR, HCH⟩ := hrel
        by_cases hy : y < L
        · obtain ⟨d, hd⟩ : ∃ d, gk = d + 1 := ⟨gk - 1, by have := HY.out; omega⟩
          have HGD := Aside0.mk hd
          have HSD := Aside0.mk (show sizeCount s' + (d * (1 * L ^ f') + 1 * L ^ f') ≤ 4000000000000000000 by have := HSS.out; rwa [hd, Nat.succ_mul] at this)
          have hT := HT.out
          rw [hd, Seek.goL, show (ruS false L).y (d + 1) = (y : Int) from (show ((L - (d + 1) : Nat) : Int) = (y : Int) by have := HY.out; omega), show (ruS false L).t l (y : Int) = true from rfl, if_pos rfl] at hT
          clear hd
          have HB := Aside0.mk (Below.refl wr.heap.size wr)
          have HBOR := Aside0.mk (show bo < wr.heap.size from Nat.lt_of_lt_of_le hbo HCH.out.size)
          have hbw : bo < wr.heap.size := HBOR.out
          have HL2 := Aside0.mk (show (l ++ [(y : Int)]).length + f' + 1 = n by rw [List.length_append, List.length_singleton]; omega)
          have HNQ := Aside0.mk (Nod_snoc HN.out hL (show l.length + 1 ≤ 12 by omega) (y := (y : Int)) (by rw [HZN.out]; have := HY.out; omega) (by omega))
          have HSN := Aside0.mk (show sizeCount s' + 1 * L ^ f' ≤ 4000000000000000000 by have := HSD.out; omega)
          generalize hm_ : l ++ [(y : Int)] = m at hT HL2 HNQ
          have HM := Aside0.mk hm_
          have HT4 := Aside0.mk hT
          clear hm_ hT
          have HSG := Aside0.mk (show sizeCount (goCountD L f' m s').1 ≤ sizeCount s' + 1 * L ^ f' from (ruS false L).go_size nextCount_size (ruS_st false L) f' _ _)
          by_cases hg : (goCountD L f' m s').2 = true
          · have HG := Aside0.mk hg
            have HF := Aside0.mk (show goCountD L (f' + 1) l s = ((goCountD L f' m s').1, true) by rw [← HT4.out, if_pos hg])
            clear hg
            go_wp2_with (first | ((with_reducible refine gate_builtin (b := .append) (xs := #[.tmp 39, .tmp 41]) rfl ?_); at_builtin; refine app_any (by rfl) (.tmp 39) (.tmp 41) (by rfl) B (.slice (some ad) l.length c) l (y : Int) (by rfl) (by rfl) (Ow_below HOR.out (by repeat (first | (with_reducible first | exact HB.out | apply below_alloc | apply pw_below_drewN | apply below_drew1) | exact HB.out))) HP.out HLN.out (Nat.le_trans HBW.out (Nat.le_trans HCH.out.size (below_size (by repeat (first | (with_reducible first | exact HB.out | apply below_alloc | apply pw_below_drewN | apply below_drew1) | exact HB.out))))) ?_; intro v1 w2 ho1 hg1 hk1 hback; have HCW := Aside0.mk ((Chg.of_below (ok := fun k => (.slice (some ad) l.length c : Value).ownBlock = some k) (by repeat (first | (with_reducible first | exact HB.out | apply below_alloc | apply pw_below_drewN | apply below_drew1) | exact HB.out))).grown (hgr_ hg1) (fun k h _ => h)); have HK1 := Aside0.mk (fun k h => (hk1 k h).imp_right (fun h2 => Nat.le_trans (below_size (by repeat (first | (with_reducible first | exact HB.out | apply below_alloc | apply pw_below_drewN | apply below_drew1) | exact HB.out))) h2)); have HBK := Aside0.mk hback; have HSI := Aside0.mk (show ∀ k, v1.ownBlock = some k → ¬ ((Q k ∨ w.heap.size ≤ k) ∧ k < wr.heap.size) ∧ k ≠ bo from (fun k hk => ⟨fun h => by have h1 := HK1.out k hk; rcases h1 with h1 | h1; rcases h.1 with h2 | h2; exact (HQ.out k h1).1 h2; have := Ow_lt HO.out k h1; omega; have := h.2; omega, fun h => by subst h; have h1 := HK1.out _ hk; rcases h1 with h1 | h1; exact (HQ.out _ h1).2 rfl; omega⟩)); rw [HM.out] at ho1; have HO1 := Aside0.mk ho1; clear HB hg1 hk1 hback ho1; have HB := Aside0.mk (Below.refl w2.heap.size w2)) | (go_at_call 30; refine (HIC.out v1 m _ (fun k => (Q k ∨ w.heap.size ≤ k) ∧ k < wr.heap.size) s' (by first | exact HO1.out | exact Ow_drewN HO1.out _) HSI.out (fun h => h.1.elim HNB.out (fun h => by omega)) (StCount_chg HSR.out ((HCW.out).below (by repeat (first | (with_reducible first | exact HB.out | apply below_alloc | apply pw_below_drewN | apply below_drew1) | exact HB.out))) (fun k hk h => by rcases hk with h2 | h2; exact (HQ.out k h).1 h2; have := Ow_lt HO.out k h; omega) (fun h => (HQ.out bo h).2 rfl)) HNQ.out HL2.out HSN.out).mono ?_; rw [HG.out]; rintro e w4 ⟨rfl, hst, ho4, hch⟩; have HO4 := Aside0.mk ho4; have HS3 := Aside0.mk (StCount_mono (Q' := fun k => Q k ∨ w.heap.size ≤ k) hst (fun k hk => by rcases hk with h | h; exact h.1; exact .inr (Nat.le_trans HCH.out.size (Nat.le_trans HCW.out.size (Nat.le_trans (below_size (by repeat (first | (with_reducible first | exact HB.out | apply below_alloc | apply pw_below_drewN | apply below_drew1) | exact HB.out))) h))))); have HCT := Aside0.mk ((Chg.of_below (ok := fun k => k = bo ∨ ((Q k ∨ w.heap.size ≤ k) ∧ k < wr.heap.size) ∨ v1.ownBlock = some k) (by repeat (first | (with_reducible first | exact HB.out | apply below_alloc | apply pw_below_drewN | apply below_drew1) | exact HB.out))).trans hch (fun j _ h => h)); clear hst hch ho4))
            repeat (go_quiet (fail); try go_wp2)
            go_ret
            exact ⟨by rw [HF.out]; rfl, by rw [HF.out]; exact HS3.out, (HBK.out _ _ HCT.out (fun k hk hv h => by rcases h with h | h | h; exact (HQ.out k hk).2 h; rcases h.1 with h2 | h2; exact (HQ.out k hk).1 h2; have := Ow_lt HO.out k hk; omega; exact hv h) (by rw [HM.out]; exact HO4.out)), ((HCH.out.trans HCW.out (fun j hj h => .inr (.inr h))).trans HCT.out (fun j hj h => by rcases h with h | h | h; exact .inl h; rcases h.1 with h2 | h2; exact .inr (.inl h2); omega; rcases HK1.out j h with h2 | h2; exact .inr (.inr h2); have := HCH.out.size; omega))⟩
          · have HG := Aside0.mk (show (goCountD L f' m s').2 = false by simpa using hg)
            have HN2 := Aside0.mk (show (ruS false L).goL (goCountD L f') l d (goCountD L f' m s').1 = goCountD L (f' + 1) l s by have := HT4.out; rwa [if_neg hg] at this)
            clear hg
            go_wp2_with (first | ((with_reducible refine gate_builtin (b := .append) (xs := #[.tmp 39, .tmp 41]) rfl ?_); at_builtin; refine app_any (by rfl) (.tmp 39) (.tmp 41) (by rfl) B (.slice (some ad) l.length c) l (y : Int) (by rfl) (by rfl) (Ow_below HOR.out (by repeat (first | (with_reducible first | exact HB.out | apply below_alloc | apply pw_below_drewN | apply below_drew1) | exact HB.out))) HP.out HLN.out (Nat.le_trans HBW.out (Nat.le_trans HCH.out.size (below_size (by repeat (first | (with_reducible first | exact HB.out | apply below_alloc | apply pw_below_drewN | apply below_drew1) | exact HB.out))))) ?_; intro v1 w2 ho1 hg1 hk1 hback; have HCW := Aside0.mk ((Chg.of_below (ok := fun k => (.slice (some ad) l.length c : Value).ownBlock = some k) (by repeat (first | (with_reducible first | exact HB.out | apply below_alloc | apply pw_below_drewN | apply below_drew1) | exact HB.out))).grown (hgr_ hg1) (fun k h _ => h)); have HK1 := Aside0.mk (fun k h => (hk1 k h).imp_right (fun h2 => Nat.le_trans (below_size (by repeat (first | (with_reducible first | exact HB.out | apply below_alloc | apply pw_below_drewN | apply below_drew1) | exact HB.out))) h2)); have HBK := Aside0.mk hback; have HSI := Aside0.mk (show ∀ k, v1.ownBlock = some k → ¬ ((Q k ∨ w.heap.size ≤ k) ∧ k < wr.heap.size) ∧ k ≠ bo from (fun k hk => ⟨fun h => by have h1 := HK1.out k hk; rcases h1 with h1 | h1; rcases h.1 with h2 | h2; exact (HQ.out k h1).1 h2; have := Ow_lt HO.out k h1; omega; have := h.2; omega, fun h => by subst h; have h1 := HK1.out _ hk; rcases h1 with h1 | h1; exact (HQ.out _ h1).2 rfl; omega⟩)); rw [HM.out] at ho1; have HO1 := Aside0.mk ho1; clear HB hg1 hk1 hback ho1; have HB := Aside0.mk (Below.refl w2.heap.size w2)) | (go_at_call 30; refine (HIC.out v1 m _ (fun k => (Q k ∨ w.heap.size ≤ k) ∧ k < wr.heap.size) s' (by first | exact HO1.out | exact Ow_drewN HO1.out _) HSI.out (fun h => h.1.elim HNB.out (fun h => by omega)) (StCount_chg HSR.out ((HCW.out).below (by repeat (first | (with_reducible first | exact HB.out | apply below_alloc | apply pw_below_drewN | apply below_drew1) | exact HB.out))) (fun k hk h => by rcases hk with h2 | h2; exact (HQ.out k h).1 h2; have := Ow_lt HO.out k h; omega) (fun h => (HQ.out bo h).2 rfl)) HNQ.out HL2.out HSN.out).mono ?_; rw [HG.out]; rintro e w4 ⟨rfl, hst, ho4, hch⟩; have HO4 := Aside0.mk ho4; have HS3 := Aside0.mk (StCount_mono (Q' := fun k => Q k ∨ w.heap.size ≤ k) hst (fun k hk => by rcases hk with h | h; exact h.1; exact .inr (Nat.le_trans HCH.out.size (Nat.le_trans HCW.out.size (Nat.le_trans (below_size (by repeat (first | (with_reducible first | exact HB.out | apply below_alloc | apply pw_below_drewN | apply below_drew1) | exact HB.out))) h))))); have HCT := Aside0.mk ((Chg.of_below (ok := fun k => k = bo ∨ ((Q k ∨ w.heap.size ≤ k) ∧ k < wr.heap.size) ∨ v1.ownBlock = some k) (by repeat (first | (with_reducible first | exact HB.out | apply below_alloc | apply pw_below_drewN | apply below_drew1) | exact HB.out))).trans hch (fun j _ h => h)); clear hst hch ho4))
            repeat (go_quiet (fail); try go_wp2)
            go_roundg (gk - 1)
            case measure => have := HY.out; omega
            case rel => exact ⟨y + 1, _, by go_num, ⟨by have := HY.out; omega⟩, ⟨by rw [show gk - 1 = d by have := HGD.out; omega]; exact HN2.out⟩, ⟨by rw [show gk - 1 = d by have := HGD.out; omega]; have := HSD.out; have := HSG.out; omega⟩, HS3, ⟨(HBK.out _ _ HCT.out (fun k hk hv h => by rcases h with h | h | h; exact (HQ.out k hk).2 h; rcases h.1 with h2 | h2; exact (HQ.out k hk).1 h2; have := Ow_lt HO.out k hk; omega; exact hv h) (by rw [HM.out]; exact HO4.out))⟩, ⟨((HCH.out.trans HCW.out (fun j hj h => .inr (.inr h))).trans HCT.out (fun j hj h => by rcases h with h | h | h; exact .inl h; rcases h.1 with h2 | h2; exact .inr (.inl h2); omega; rcases HK1.out j h with h2 | h2; exact .inr (.inr h2); have := HCH.out.size; omega))⟩⟩
        · have HF := Aside0.mk (show goCountD L (f' + 1) l s = (s', false) by rw [← HT.out, show gk = 0 by have := HY.out; omega, Seek.goL])
          have HB := Aside0.mk (Below.refl wr.heap.size wr)
          go_wp2_with fail
          repeat (go_quiet (fail); try go_wp2_with fail)
          go_ret
          exact ⟨by rw [HF.out]; rfl, by rw [HF.out]; exact HSR.out, HOR.out, HCH.out⟩
  · exact ruCountD_off L n f bo B A c l w Q s HO.out HST.out HR.out HC.out HN.out hon _
theorem ruCountD_calls (L n f bo B : Nat) (hL : L ≤ 60) (hn : n ≤ 12) (hB : B ≤ bo) : RuCountD L n f bo B := by
  induction f with
  | zero => exact ruCountD_step L n 0 bo B hL hn hB (fun f' h => by omega)
  | succ f ih => exact ruCountD_step L n (f + 1) bo B hL hn hB (fun f' h => by rw [show f' = f by omega]; exact ih)
set_option maxRecDepth 8000 in
set_option maxHeartbeats 6400000 in
theorem ruFirstD_step (L n f bo B : Nat) (hL : L ≤ 60) (hn : n ≤ 12) (hB : B ≤ bo) (hih : ∀ f', f = f' + 1 → RuFirstD L n f' bo B) : RuFirstD L n f bo B := by
  intro u l w Q s ho hq hb hst hnod hlf hsz
  obtain ⟨A, c, rfl, hcap, hrd⟩ := Ow_form ho
  have hbo : bo < w.heap.size := StFirst_lt hst
  have hl1 := hnod.1.1.1
  have hlt0 := hnod.2
  have hge0 := (Ruler_lst hnod.1).1
  have HIH := Aside0.mk hih
  have HO := Aside0.mk ho
  have HQ := Aside0.mk hq
  have HNB := Aside0.mk hb
  have HST := Aside0.mk hst
  have HR := Aside0.mk hrd
  have HC := Aside0.mk hcap
  have HN := Aside0.mk hnod
  have HSZ := Aside0.mk hsz
  have HP := Aside0.mk (show 0 < l.length by omega)
  have HLN := Aside0.mk (show l.length ≤ 1048576 by omega)
  have HBW := Aside0.mk (show B ≤ w.heap.size by omega)
  clear hih ho hq hb hst hcap hrd hnod hsz
  have HB := Aside0.mk (Below.refl w.heap.size w)
  by_cases hon : ts false l = true
  · have HON := Aside0.mk hon
    by_cases hz : l.length = n - 1
    · obtain rfl : f = 0 := by omega
      have ht : ((l.length : Int) == (n : Int) - 1) = true := beq_iff_eq.mpr (by omega)
      have HX := Aside0.mk (show sizeFirst s + 0 ≤ 4000000000000000000 by have := HSZ.out; rw [Nat.pow_zero] at this; omega)
      have HRU := Aside0.mk (Nod_fin HN.out hL (by omega))
      have hG : goFirstD L 0 l s = if qq false (l ++ [(L : Int)]) = true then (nextFirst s (l ++ [(L : Int)]), true) else (s, false) := by
        have e : goFirstD L 0 l s = if ts false l = true then (if qq false (l ++ [(L : Int)]) = true then (nextFirst s (l ++ [(L : Int)]), true) else (s, false)) else (s, false) := rfl
        rw [e, if_pos hon]
      generalize hm_ : l ++ [(L : Int)] = m at hG HRU
      have HM := Aside0.mk hm_
      have HG := Aside0.mk hG.symm
      clear hm_ hG hz hlf hon
      go_enter Try.func30, Try.ntmps30
      go_wp2_with (first | (go_at_call 21; refine (different_calls _ c l _ (Kd.C_below HR.out (by repeat (first | (with_reducible first | exact HB.out | apply below_alloc | apply pw_below_drewN | apply below_drew1) | exact HB.out))) HC.out HN.out.1).mono ?_; rw [show tf (Diff (times l)) = _ from HON.out]; rintro e w1 ⟨rfl, hb⟩; have n0_ := Aside0.mk (below_step (by repeat (first | (with_reducible first | exact HB.out | apply below_alloc | apply pw_below_drewN | apply below_drew1) | exact HB.out)) hb); (try replace hxm := (Below.cell n0_.out (World.block_lt_of_cell? w _ hxm)).trans hxm); clear HB hb; have HB := n0_; clear n0_) | ((with_reducible refine gate_builtin (b := .append) (xs := #[.tmp 22, .tmp 24]) rfl ?_); at_builtin; refine app_any (by rfl) (.tmp 22) (.tmp 24) (by rfl) B (.slice A l.length c) l (L : Int) (by rfl) (by rfl) (Ow_below HO.out (by repeat (first | (with_reducible first | exact HB.out | apply below_alloc | apply pw_below_drewN | apply below_drew1) | exact HB.out))) HP.out HLN.out (Nat.le_trans HBW.out (below_size (by repeat (first | (with_reducible first | exact HB.out | apply below_alloc | apply pw_below_drewN | apply below_drew1) | exact HB.out)))) ?_; intro v1 w2 ho1 hg1 hk1 hback; have HCW := Aside0.mk ((Chg.of_below (ok := fun k => (.slice A l.length c : Value).ownBlock = some k) (by repeat (first | (with_reducible first | exact HB.out | apply below_alloc | apply pw_below_drewN | apply below_drew1) | exact HB.out))).grown (hgr_ hg1) (fun k h _ => h)); have HK1 := Aside0.mk (fun k h => (hk1 k h).imp_right (fun h2 => Nat.le_trans (below_size (by repeat (first | (with_reducible first | exact HB.out | apply below_alloc | apply pw_below_drewN | apply below_drew1) | exact HB.out))) h2)); have HBK := Aside0.mk hback; have HSI := Aside0.mk (show ∀ k, v1.ownBlock = some k → ¬ ((Q k ∨ w.heap.size ≤ k) ∧ k < w.heap.size) ∧ k ≠ bo from (fun k hk => ⟨fun h => by have h1 := HK1.out k hk; rcases h1 with h1 | h1; rcases h.1 with h2 | h2; exact (HQ.out k h1).1 h2; have := Ow_lt HO.out k h1; omega; have := h.2; omega, fun h => by subst h; have h1 := HK1.out _ hk; rcases h1 with h1 | h1; exact (HQ.out _ h1).2 rfl; omega⟩)); rw [HM.out] at ho1; have HO1 := Aside0.mk ho1; clear HB hg1 hk1 hback ho1; have HB := Aside0.mk (Below.refl w2.heap.size w2)) | (go_at_call 26; refine (callFirstD bo B _ m _ (fun k => (Q k ∨ w.heap.size ≤ k) ∧ k < w.heap.size) s (by first | exact HO1.out | exact Ow_drewN HO1.out _) HSI.out (fun h => h.1.elim HNB.out (fun h => by omega)) (StFirst_chg (StFirst_mono HST.out (fun k hk => .inl hk)) ((HCW.out).below (by repeat (first | (with_reducible first | exact HB.out | apply below_alloc | apply pw_below_drewN | apply below_drew1) | exact HB.out))) (fun k hk h => by rcases hk with h2 | h2; exact (HQ.out k h).1 h2; have := Ow_lt HO.out k h; omega) (fun h => (HQ.out bo h).2 rfl)) hB HRU.out ).mono ?_; rw [show (if qq false m = true then _ else _) = _ from HG.out]; rintro e w4 ⟨rfl, hst, hch⟩; have HO4 := Aside0.mk (Ow_chg (by first | exact HO1.out | exact Ow_drewN HO1.out _) hch (fun k hk h => by have h2 := HSI.out k hk; exact h.elim h2.2 h2.1)); have HS3 := Aside0.mk (StFirst_mono (Q' := fun k => Q k ∨ w.heap.size ≤ k) hst (fun k hk => by rcases hk with h | h; exact h.1; exact .inr (Nat.le_trans HCW.out.size (Nat.le_trans (below_size (by repeat (first | (with_reducible first | exact HB.out | apply below_alloc | apply pw_below_drewN | apply below_drew1) | exact HB.out))) h)))); have HCT := Aside0.mk ((Chg.of_below (ok := fun k => k = bo ∨ ((Q k ∨ w.heap.size ≤ k) ∧ k < w.heap.size)) (by repeat (first | (with_reducible first | exact HB.out | apply below_alloc | apply pw_below_drewN | apply below_drew1) | exact HB.out))).trans hch (fun j _ h => h)); clear hst hch))
      repeat (go_quiet (fail); try go_wp2)
      go_ret
      exact ⟨rfl, HS3.out, (HBK.out _ _ HCT.out (fun k hk hv h => by rcases h with h | h; exact (HQ.out k hk).2 h; rcases h.1 with h2 | h2; exact (HQ.out k hk).1 h2; have := Ow_lt HO.out k hk; omega) (by rw [HM.out]; exact HO4.out)), ((HCW.out.mono (ok1 := fun k => k = bo ∨ Q k ∨ (.slice A l.length c : Value).ownBlock = some k) (fun j h => .inr (.inr h))).trans HCT.out (fun j hj h => by rcases h with h | h; exact .inl h; rcases h.1 with h2 | h2; exact .inr (.inl h2); omega))⟩
    · obtain ⟨f', rfl⟩ : ∃ f', f = f' + 1 := ⟨f - 1, by omega⟩
      have HIC := Aside0.mk (HIH.out f' rfl)
      have ht : ((l.length : Int) == (n : Int) - 1) = false := beq_eq_false_iff_ne.mpr (by omega)
      obtain ⟨ad, hA, _⟩ := at_first HR.out (by omega)
      subst hA
      obtain ⟨mm, hmm⟩ : ∃ mm : Int, IntKind.i64.wrap ((l.length : Int) - 1) = mm := ⟨_, rfl⟩
      have HMM := Aside0.mk (show mm = (l.length : Int) - 1 by rw [← hmm, i64_w, w64 (by omega) (by omega)])
      have mm0 : 0 ≤ mm := by have := HMM.out; omega
      have mm2 : mm < (l.length : Int) := by have := HMM.out; omega
      obtain ⟨ad2, e2, hxm⟩ := Kd.at_int HR.out mm mm0 mm2
      obtain rfl : ad = ad2 := by injection e2
      clear e2
      obtain ⟨zn, hzn⟩ : ∃ zn : Nat, lst l = (zn : Int) := ⟨(lst l).toNat, by omega⟩
      have hzm : rd l mm = (zn : Int) := by rw [← hzn, HMM.out]; rfl
      rw [hzm] at hxm
      rw [hzn] at hlt0
      have HST0 := Aside0.mk (show (ruS false L).st l = L - (zn + 1) by show L - (lst l + 1).toNat = _; rw [hzn]; omega)
      have HFF := Aside0.mk (show (ruS false L).goL (goFirstD L f') l (L - (zn + 1)) s = goFirstD L (f' + 1) l s by
        have e : goFirstD L (f' + 1) l s = if ts false l = true then (ruS false L).goL (goFirstD L f') l ((ruS false L).st l) s else (s, false) := rfl
        rw [e, if_pos hon, HST0.out])
      have hpw : 0 * L ^ (f' + 1) = L * (0 * L ^ f') := Seek.pow_step _ _ _
      have HS0 := Aside0.mk (show sizeFirst s + (L - (zn + 1)) * (0 * L ^ f') ≤ 4000000000000000000 by have := HSZ.out; rw [hpw] at this; exact Nat.le_trans (Nat.add_le_add_left (Nat.mul_le_mul_right _ (Nat.sub_le _ _)) _) this)
      have HZN := Aside0.mk hzn
      clear hpw hzn hzm hon
      go_enter Try.func30, Try.ntmps30
      go_wp2_with ((go_at_call 21; refine (different_calls _ c l _ (Kd.C_below HR.out (by repeat (first | (with_reducible first | exact HB.out | apply below_alloc | apply pw_below_drewN | apply below_drew1) | exact HB.out))) HC.out HN.out.1).mono ?_; rw [show tf (Diff (times l)) = _ from HON.out]; rintro e w1 ⟨rfl, hb⟩; have n0_ := Aside0.mk (below_step (by repeat (first | (with_reducible first | exact HB.out | apply below_alloc | apply pw_below_drewN | apply below_drew1) | exact HB.out)) hb); (try replace hxm := (Below.cell n0_.out (World.block_lt_of_cell? w _ hxm)).trans hxm); clear HB hb; have HB := n0_; clear n0_))
      repeat (go_quiet (fail); try go_wp2_with fail)
      clear hxm
      go_loopg [11] (L - (zn + 1)) (fun g v11 w' => ∃ (y : Nat) (s' : List Int), v11 = .int .i64 y ∧ Aside0 (zn + 1 ≤ y ∧ y + g = L) ∧ Aside0 ((ruS false L).goL (goFirstD L f') l g s' = goFirstD L (f' + 1) l s) ∧ Aside0 (sizeFirst s' + g * (0 * L ^ f') ≤ 4000000000000000000) ∧ Aside0 (StFirst bo B w' (fun k => Q k ∨ w.heap.size ≤ k) s') ∧ Aside0 (Ow w' B (.slice (some ad) l.length c) l) ∧ Aside0 (Chg (fun k => k = bo ∨ Q k ∨ (.slice (some ad) l.length c : Value).ownBlock = some k) w w'))
      case atStart => exact ⟨zn + 1, s, by go_num, ⟨by omega⟩, HFF, HS0, ⟨StFirst_mono (StFirst_chg (ok := fun _ => False) HST.out (Chg.of_below (by repeat (first | (with_reducible first | exact HB.out | apply below_alloc | apply pw_below_drewN | apply below_drew1) | exact HB.out))) (fun k _ h => h) (fun h => h)) (fun k hk => .inl hk.1)⟩, ⟨Ow_below HO.out (by repeat (first | (with_reducible first | exact HB.out | apply below_alloc | apply pw_below_drewN | apply below_drew1) | exact HB.out))⟩, ⟨Chg.of_below (by repeat (first | (with_reducible first | exact HB.out | apply below_alloc | apply pw_below_drewN | apply below_drew1) | exact HB.out))⟩⟩
      case round =>
        clear HB
        obtain ⟨y, s', rfl, HY, HT, HSS, HSR, HOR, HCH⟩ := hrel
        by_cases hy : y < L
        · obtain ⟨d, hd⟩ : ∃ d, gk = d + 1 := ⟨gk - 1, by have := HY.out; omega⟩
          have HGD := Aside0.mk hd
          have HSD := Aside0.mk (show sizeFirst s' + (d * (0 * L ^ f') + 0 * L ^ f') ≤ 4000000000000000000 by have := HSS.out; rwa [hd, Nat.succ_mul] at this)
          have hT := HT.out
          rw [hd, Seek.goL, show (ruS false L).y (d + 1) = (y : Int) from (show ((L - (d + 1) : Nat) : Int) = (y : Int) by have := HY.out; omega), show (ruS false L).t l (y : Int) = true from rfl, if_pos rfl] at hT
          clear hd
          have HB := Aside0.mk (Below.refl wr.heap.size wr)
          have HBOR := Aside0.mk (show bo < wr.heap.size from Nat.lt_of_lt_of_le hbo HCH.out.size)
          have hbw : bo < wr.heap.size := HBOR.out
          have HL2 := Aside0.mk (show (l ++ [(y : Int)]).length + f' + 1 = n by rw [List.length_append, List.length_singleton]; omega)
          have HNQ := Aside0.mk (Nod_snoc HN.out hL (show l.length + 1 ≤ 12 by omega) (y := (y : Int)) (by rw [HZN.out]; have := HY.out; omega) (by omega))
          have HSN := Aside0.mk (show sizeFirst s' + 0 * L ^ f' ≤ 4000000000000000000 by have := HSD.out; omega)
          generalize hm_ : l ++ [(y : Int)] = m at hT HL2 HNQ
          have HM := Aside0.mk hm_
          have HT4 := Aside0.mk hT
          clear hm_ hT
          have HSG := Aside0.mk (show sizeFirst (goFirstD L f' m s').1 ≤ sizeFirst s' + 0 * L ^ f' from (ruS false L).go_size nextFirst_size (ruS_st false L) f' _ _)
          by_cases hg : (goFirstD L f' m s').2 = true
          · have HG := Aside0.mk hg
            have HF := Aside0.mk (show goFirstD L (f' + 1) l s = ((goFirstD L f' m s').1, true) by rw [← HT4.out, if_pos hg])
            clear hg
            go_wp2_with (first | ((with_reducible refine gate_builtin (b := .append) (xs := #[.tmp 39, .tmp 41]) rfl ?_); at_builtin; refine app_any (by rfl) (.tmp 39) (.tmp 41) (by rfl) B (.slice (some ad) l.length c) l (y : Int) (by rfl) (by rfl) (Ow_below HOR.out (by repeat (first | (with_reducible first | exact HB.out | apply below_alloc | apply pw_below_drewN | apply below_drew1) | exact HB.out))) HP.out HLN.out (Nat.le_trans HBW.out (Nat.le_trans HCH.out.size (below_size (by repeat (first | (with_reducible first | exact HB.out | apply below_alloc | apply pw_below_drewN | apply below_drew1) | exact HB.out))))) ?_; intro v1 w2 ho1 hg1 hk1 hback; have HCW := Aside0.mk ((Chg.of_below (ok := fun k => (.slice (some ad) l.length c : Value).ownBlock = some k) (by repeat (first | (with_reducible first | exact HB.out | apply below_alloc | apply pw_below_drewN | apply below_drew1) | exact HB.out))).grown (hgr_ hg1) (fun k h _ => h)); have HK1 := Aside0.mk (fun k h => (hk1 k h).imp_right (fun h2 => Nat.le_trans (below_size (by repeat (first | (with_reducible first | exact HB.out | apply below_alloc | apply pw_below_drewN | apply below_drew1) | exact HB.out))) h2)); have HBK := Aside0.mk hback; have HSI := Aside0.mk (show ∀ k, v1.ownBlock = some k → ¬ ((Q k ∨ w.heap.size ≤ k) ∧ k < wr.heap.size) ∧ k ≠ bo from (fun k hk => ⟨fun h => by have h1 := HK1.out k hk; rcases h1 with h1 | h1; rcases h.1 with h2 | h2; exact (HQ.out k h1).1 h2; have := Ow_lt HO.out k h1; omega; have := h.2; omega, fun h => by subst h; have h1 := HK1.out _ hk; rcases h1 with h1 | h1; exact (HQ.out _ h1).2 rfl; omega⟩)); rw [HM.out] at ho1; have HO1 := Aside0.mk ho1; clear HB hg1 hk1 hback ho1; have HB := Aside0.mk (Below.refl w2.heap.size w2)) | (go_at_call 30; refine (HIC.out v1 m _ (fun k => (Q k ∨ w.heap.size ≤ k) ∧ k < wr.heap.size) s' (by first | exact HO1.out | exact Ow_drewN HO1.out _) HSI.out (fun h => h.1.elim HNB.out (fun h => by omega)) (StFirst_chg HSR.out ((HCW.out).below (by repeat (first | (with_reducible first | exact HB.out | apply below_alloc | apply pw_below_drewN | apply below_drew1) | exact HB.out))) (fun k hk h => by rcases hk with h2 | h2; exact (HQ.out k h).1 h2; have := Ow_lt HO.out k h; omega) (fun h => (HQ.out bo h).2 rfl)) HNQ.out HL2.out HSN.out).mono ?_; rw [HG.out]; rintro e w4 ⟨rfl, hst, ho4, hch⟩; have HO4 := Aside0.mk ho4; have HS3 := Aside0.mk (StFirst_mono (Q' := fun k => Q k ∨ w.heap.size ≤ k) hst (fun k hk => by rcases hk with h | h; exact h.1; exact .inr (Nat.le_trans HCH.out.size (Nat.le_trans HCW.out.size (Nat.le_trans (below_size (by repeat (first | (with_reducible first | exact HB.out | apply below_alloc | apply pw_below_drewN | apply below_drew1) | exact HB.out))) h))))); have HCT := Aside0.mk ((Chg.of_below (ok := fun k => k = bo ∨ ((Q k ∨ w.heap.size ≤ k) ∧ k < wr.heap.size) ∨ v1.ownBlock = some k) (by repeat (first | (with_reducible first | exact HB.out | apply below_alloc | apply pw_below_drewN | apply below_drew1) | exact HB.out))).trans hch (fun j _ h => h)); clear hst hch ho4))
            repeat (go_quiet (fail); try go_wp2)
            go_ret
            exact ⟨by rw [HF.out]; rfl, by rw [HF.out]; exact HS3.out, (HBK.out _ _ HCT.out (fun k hk hv h => by rcases h with h | h | h; exact (HQ.out k hk).2 h; rcases h.1 with h2 | h2; exact (HQ.out k hk).1 h2; have := Ow_lt HO.out k hk; omega; exact hv h) (by rw [HM.out]; exact HO4.out)), ((HCH.out.trans HCW.out (fun j hj h => .inr (.inr h))).trans HCT.out (fun j hj h => by rcases h with h | h | h; exact .inl h; rcases h.1 with h2 | h2; exact .inr (.inl h2); omega; rcases HK1.out j h with h2 | h2; exact .inr (.inr h2); have := HCH.out.size; omega))⟩
          · have HG := Aside0.mk (show (goFirstD L f' m s').2 = false by simpa using hg)
            have HN2 := Aside0.mk (show (ruS false L).goL (goFirstD L f') l d (goFirstD L f' m s').1 = goFirstD L (f' + 1) l s by have := HT4.out; rwa [if_neg hg] at this)
            clear hg
            go_wp2_with (first | ((with_reducible refine gate_builtin (b := .append) (xs := #[.tmp 39, .tmp 41]) rfl ?_); at_builtin; refine app_any (by rfl) (.tmp 39) (.tmp 41) (by rfl) B (.slice (some ad) l.length c) l (y : Int) (by rfl) (by rfl) (Ow_below HOR.out (by repeat (first | (with_reducible first | exact HB.out | apply below_alloc | apply pw_below_drewN | apply below_drew1) | exact HB.out))) HP.out HLN.out (Nat.le_trans HBW.out (Nat.le_trans HCH.out.size (below_size (by repeat (first | (with_reducible first | exact HB.out | apply below_alloc | apply pw_below_drewN | apply below_drew1) | exact HB.out))))) ?_; intro v1 w2 ho1 hg1 hk1 hback; have HCW := Aside0.mk ((Chg.of_below (ok := fun k => (.slice (some ad) l.length c : Value).ownBlock = some k) (by repeat (first | (with_reducible first | exact HB.out | apply below_alloc | apply pw_below_drewN | apply below_drew1) | exact HB.out))).grown (hgr_ hg1) (fun k h _ => h)); have HK1 := Aside0.mk (fun k h => (hk1 k h).imp_right (fun h2 => Nat.le_trans (below_size (by repeat (first | (with_reducible first | exact HB.out | apply below_alloc | apply pw_below_drewN | apply below_drew1) | exact HB.out))) h2)); have HBK := Aside0.mk hback; have HSI := Aside0.mk (show ∀ k, v1.ownBlock = some k → ¬ ((Q k ∨ w.heap.size ≤ k) ∧ k < wr.heap.size) ∧ k ≠ bo from (fun k hk => ⟨fun h => by have h1 := HK1.out k hk; rcases h1 with h1 | h1; rcases h.1 with h2 | h2; exact (HQ.out k h1).1 h2; have := Ow_lt HO.out k h1; omega; have := h.2; omega, fun h => by subst h; have h1 := HK1.out _ hk; rcases h1 with h1 | h1; exact (HQ.out _ h1).2 rfl; omega⟩)); rw [HM.out] at ho1; have HO1 := Aside0.mk ho1; clear HB hg1 hk1 hback ho1; have HB := Aside0.mk (Below.refl w2.heap.size w2)) | (go_at_call 30; refine (HIC.out v1 m _ (fun k => (Q k ∨ w.heap.size ≤ k) ∧ k < wr.heap.size) s' (by first | exact HO1.out | exact Ow_drewN HO1.out _) HSI.out (fun h => h.1.elim HNB.out (fun h => by omega)) (StFirst_chg HSR.out ((HCW.out).below (by repeat (first | (with_reducible first | exact HB.out | apply below_alloc | apply pw_below_drewN | apply below_drew1) | exact HB.out))) (fun k hk h => by rcases hk with h2 | h2; exact (HQ.out k h).1 h2; have := Ow_lt HO.out k h; omega) (fun h => (HQ.out bo h).2 rfl)) HNQ.out HL2.out HSN.out).mono ?_; rw [HG.out]; rintro e w4 ⟨rfl, hst, ho4, hch⟩; have HO4 := Aside0.mk ho4; have HS3 := Aside0.mk (StFirst_mono (Q' := fun k => Q k ∨ w.heap.size ≤ k) hst (fun k hk => by rcases hk with h | h; exact h.1; exact .inr (Nat.le_trans HCH.out.size (Nat.le_trans HCW.out.size (Nat.le_trans (below_size (by repeat (first | (with_reducible first | exact HB.out | apply below_alloc | apply pw_below_drewN | apply below_drew1) | exact HB.out))) h))))); have HCT := Aside0.mk ((Chg.of_below (ok := fun k => k = bo ∨ ((Q k ∨ w.heap.size ≤ k) ∧ k < wr.heap.size) ∨ v1.ownBlock = some k) (by repeat (first | (with_reducible first | exact HB.out | apply below_alloc | apply pw_below_drewN | apply below_drew1) | exact HB.out))).trans hch (fun j _ h => h)); clear hst hch ho4))
            repeat (go_quiet (fail); try go_wp2)
            go_roundg (gk - 1)
            case measure => have := HY.out; omega
            case rel => exact ⟨y + 1, _, by go_num, ⟨by have := HY.out; omega⟩, ⟨by rw [show gk - 1 = d by have := HGD.out; omega]; exact HN2.out⟩, ⟨by rw [show gk - 1 = d by have := HGD.out; omega]; have := HSD.out; have := HSG.out; omega⟩, HS3, ⟨(HBK.out _ _ HCT.out (fun k hk hv h => by rcases h with h | h | h; exact (HQ.out k hk).2 h; rcases h.1 with h2 | h2; exact (HQ.out k hk).1 h2; have := Ow_lt HO.out k hk; omega; exact hv h) (by rw [HM.out]; exact HO4.out))⟩, ⟨((HCH.out.trans HCW.out (fun j hj h => .inr (.inr h))).trans HCT.out (fun j hj h => by rcases h with h | h | h; exact .inl h; rcases h.1 with h2 | h2; exact .inr (.inl h2); omega; rcases HK1.out j h with h2 | h2; exact .inr (.inr h2); have := HCH.out.size; omega))⟩⟩
        · have HF := Aside0.mk (show goFirstD L (f' + 1) l s = (s', false) by rw [← HT.out, show gk = 0 by have := HY.out; omega, Seek.goL])
          have HB := Aside0.mk (Below.refl wr.heap.size wr)
          go_wp2_with fail
          repeat (go_quiet (fail); try go_wp2_with fail)
          go_ret
          exact ⟨by rw [HF.out]; rfl, by rw [HF.out]; exact HSR.out, HOR.out, HCH.out⟩
  · exact ruFirstD_off L n f bo B A c l w Q s HO.out HST.out HR.out HC.out HN.out hon _
theorem ruFirstD_calls (L n f bo B : Nat) (hL : L ≤ 60) (hn : n ≤ 12) (hB : B ≤ bo) : RuFirstD L n f bo B := by
  induction f with
  | zero => exact ruFirstD_step L n 0 bo B hL hn hB (fun f' h => by omega)
  | succ f ih => exact ruFirstD_step L n (f + 1) bo B hL hn hB (fun f' h => by rw [show f' = f by omega]; exact ih)
set_option maxRecDepth 8000 in
set_option maxHeartbeats 6400000 in
theorem ruCountW_step (L n f bo B : Nat) (hL : L ≤ 60) (hn : n ≤ 12) (hB : B ≤ bo) (hih : ∀ f', f = f' + 1 → RuCountW L n f' bo B) : RuCountW L n f bo B := by
  intro u l w Q s ho hq hb hst hnod hlf hsz
  obtain ⟨A, c, rfl, hcap, hrd⟩ := Ow_form ho
  have hbo : bo < w.heap.size := StCount_lt hst
  have hl1 := hnod.1.1.1
  have hlt0 := hnod.2
  have hge0 := (Ruler_lst hnod.1).1
  have HIH := Aside0.mk hih
  have HO := Aside0.mk ho
  have HQ := Aside0.mk hq
  have HNB := Aside0.mk hb
  have HST := Aside0.mk hst
  have HR := Aside0.mk hrd
  have HC := Aside0.mk hcap
  have HN := Aside0.mk hnod
  have HSZ := Aside0.mk hsz
  have HP := Aside0.mk (show 0 < l.length by omega)
  have HLN := Aside0.mk (show l.length ≤ 1048576 by omega)
  have HBW := Aside0.mk (show B ≤ w.heap.size by omega)
  clear hih ho hq hb hst hcap hrd hnod hsz
  have HB := Aside0.mk (Below.refl w.heap.size w)
  by_cases hon : ts true l = true
  · have HON := Aside0.mk hon
    by_cases hz : l.length = n - 1
    · obtain rfl : f = 0 := by omega
      have ht : ((l.length : Int) == (n : Int) - 1) = true := beq_iff_eq.mpr (by omega)
      have HX := Aside0.mk (show sizeCount s + 1 ≤ 4000000000000000000 by have := HSZ.out; rw [Nat.pow_zero] at this; omega)
      have HRU := Aside0.mk (Nod_fin HN.out hL (by omega))
      have hG : goCountW L 0 l s = if qq true (l ++ [(L : Int)]) = true then (nextCount s (l ++ [(L : Int)]), false) else (s, false) := by
        have e : goCountW L 0 l s = if ts true l = true then (if qq true (l ++ [(L : Int)]) = true then (nextCount s (l ++ [(L : Int)]), false) else (s, false)) else (s, false) := rfl
        rw [e, if_pos hon]
      generalize hm_ : l ++ [(L : Int)] = m at hG HRU
      have HM := Aside0.mk hm_
      have HG := Aside0.mk hG.symm
      clear hm_ hG hz hlf hon
      go_enter Try.func30, Try.ntmps30
      go_wp2_with (first | (go_at_call 23; refine (always_calls _ _).mono ?_; rintro e w1 ⟨rfl, rfl⟩) | ((with_reducible refine gate_builtin (b := .append) (xs := #[.tmp 22, .tmp 24]) rfl ?_); at_builtin; refine app_any (by rfl) (.tmp 22) (.tmp 24) (by rfl) B (.slice A l.length c) l (L : Int) (by rfl) (by rfl) (Ow_below HO.out (by repeat (first | (with_reducible first | exact HB.out | apply below_alloc | apply pw_below_drewN | apply below_drew1) | exact HB.out))) HP.out HLN.out (Nat.le_trans HBW.out (below_size (by repeat (first | (with_reducible first | exact HB.out | apply below_alloc | apply pw_below_drewN | apply below_drew1) | exact HB.out)))) ?_; intro v1 w2 ho1 hg1 hk1 hback; have HCW := Aside0.mk ((Chg.of_below (ok := fun k => (.slice A l.length c : Value).ownBlock = some k) (by repeat (first | (with_reducible first | exact HB.out | apply below_alloc | apply pw_below_drewN | apply below_drew1) | exact HB.out))).grown (hgr_ hg1) (fun k h _ => h)); have HK1 := Aside0.mk (fun k h => (hk1 k h).imp_right (fun h2 => Nat.le_trans (below_size (by repeat (first | (with_reducible first | exact HB.out | apply below_alloc | apply pw_below_drewN | apply below_drew1) | exact HB.out))) h2)); have HBK := Aside0.mk hback; have HSI := Aside0.mk (show ∀ k, v1.ownBlock = some k → ¬ ((Q k ∨ w.heap.size ≤ k) ∧ k < w.heap.size) ∧ k ≠ bo from (fun k hk => ⟨fun h => by have h1 := HK1.out k hk; rcases h1 with h1 | h1; rcases h.1 with h2 | h2; exact (HQ.out k h1).1 h2; have := Ow_lt HO.out k h1; omega; have := h.2; omega, fun h => by subst h; have h1 := HK1.out _ hk; rcases h1 with h1 | h1; exact (HQ.out _ h1).2 rfl; omega⟩)); rw [HM.out] at ho1; have HO1 := Aside0.mk ho1; clear HB hg1 hk1 hback ho1; have HB := Aside0.mk (Below.refl w2.heap.size w2)) | (go_at_call 24; refine (callCountW bo B _ m _ (fun k => (Q k ∨ w.heap.size ≤ k) ∧ k < w.heap.size) s (by first | exact HO1.out | exact Ow_drewN HO1.out _) HSI.out (fun h => h.1.elim HNB.out (fun h => by omega)) (StCount_chg (StCount_mono HST.out (fun k hk => .inl hk)) ((HCW.out).below (by repeat (first | (with_reducible first | exact HB.out | apply below_alloc | apply pw_below_drewN | apply below_drew1) | exact HB.out))) (fun k hk h => by rcases hk with h2 | h2; exact (HQ.out k h).1 h2; have := Ow_lt HO.out k h; omega) (fun h => (HQ.out bo h).2 rfl)) hB HRU.out HX.out).mono ?_; rw [show (if qq true m = true then _ else _) = _ from HG.out]; rintro e w4 ⟨rfl, hst, hch⟩; have HO4 := Aside0.mk (Ow_chg (by first | exact HO1.out | exact Ow_drewN HO1.out _) hch (fun k hk h => by have h2 := HSI.out k hk; exact h.elim h2.2 h2.1)); have HS3 := Aside0.mk (StCount_mono (Q' := fun k => Q k ∨ w.heap.size ≤ k) hst (fun k hk => by rcases hk with h | h; exact h.1; exact .inr (Nat.le_trans HCW.out.size (Nat.le_trans (below_size (by repeat (first | (with_reducible first | exact HB.out | apply below_alloc | apply pw_below_drewN | apply below_drew1) | exact HB.out))) h)))); have HCT := Aside0.mk ((Chg.of_below (ok := fun k => k = bo ∨ ((Q k ∨ w.heap.size ≤ k) ∧ k < w.heap.size)) (by repeat (first | (with_reducible first | exact HB.out | apply below_alloc | apply pw_below_drewN | apply below_drew1) | exact HB.out))).trans hch (fun j _ h => h)); clear hst hch))
      repeat (go_quiet (fail); try go_wp2)
      go_ret
      exact ⟨rfl, HS3.out, (HBK.out _ _ HCT.out (fun k hk hv h => by rcases h with h | h; exact (HQ.out k hk).2 h; rcases h.1 with h2 | h2; exact (HQ.out k hk).1 h2; have := Ow_lt HO.out k hk; omega) (by rw [HM.out]; exact HO4.out)), ((HCW.out.mono (ok1 := fun k => k = bo ∨ Q k ∨ (.slice A l.length c : Value).ownBlock = some k) (fun j h => .inr (.inr h))).trans HCT.out (fun j hj h => by rcases h with h | h; exact .inl h; rcases h.1 with h2 | h2; exact .inr (.inl h2); omega))⟩
    · obtain ⟨f', rfl⟩ : ∃ f', f = f' + 1 := ⟨f - 1, by omega⟩
      have HIC := Aside0.mk (HIH.out f' rfl)
      have ht : ((l.length : Int) == (n : Int) - 1) = false := beq_eq_false_iff_ne.mpr (by omega)
      obtain ⟨ad, hA, _⟩ := at_first HR.out (by omega)
      subst hA
      obtain ⟨mm, hmm⟩ : ∃ mm : Int, IntKind.i64.wrap ((l.length : Int) - 1) = mm := ⟨_, rfl⟩
      have HMM := Aside0.mk (show mm = (l.length : Int) - 1 by rw [← hmm, i64_w, w64 (by omega) (by omega)])
      have mm0 : 0 ≤ mm := by have := HMM.out; omega
      have mm2 : mm < (l.length : Int) := by have := HMM.out; omega
      obtain ⟨ad2, e2, hxm⟩ := Kd.at_int HR.out mm mm0 mm2
      obtain rfl : ad = ad2 := by injection e2
      clear e2
      obtain ⟨zn, hzn⟩ : ∃ zn : Nat, lst l = (zn : Int) := ⟨(lst l).toNat, by omega⟩
      have hzm : rd l mm = (zn : Int) := by rw [← hzn, HMM.out]; rfl
      rw [hzm] at hxm
      rw [hzn] at hlt0
      have HST0 := Aside0.mk (show (ruS true L).st l = L - (zn + 1) by show L - (lst l + 1).toNat = _; rw [hzn]; omega)
      have HFF := Aside0.mk (show (ruS true L).goL (goCountW L f') l (L - (zn + 1)) s = goCountW L (f' + 1) l s by
        have e : goCountW L (f' + 1) l s = if ts true l = true then (ruS true L).goL (goCountW L f') l ((ruS true L).st l) s else (s, false) := rfl
        rw [e, if_pos hon, HST0.out])
      have hpw : 1 * L ^ (f' + 1) = L * (1 * L ^ f') := Seek.pow_step _ _ _
      have HS0 := Aside0.mk (show sizeCount s + (L - (zn + 1)) * (1 * L ^ f') ≤ 4000000000000000000 by have := HSZ.out; rw [hpw] at this; exact Nat.le_trans (Nat.add_le_add_left (Nat.mul_le_mul_right _ (Nat.sub_le _ _)) _) this)
      have HZN := Aside0.mk hzn
      clear hpw hzn hzm hon
      go_enter Try.func30, Try.ntmps30
      go_wp2_with ((go_at_call 23; refine (always_calls _ _).mono ?_; rintro e w1 ⟨rfl, rfl⟩))
      repeat (go_quiet (fail); try go_wp2_with fail)
      clear hxm
      go_loopg [11] (L - (zn + 1)) (fun g v11 w' => ∃ (y : Nat) (s' : Nat), v11 = .int .i64 y ∧ Aside0 (zn + 1 ≤ y ∧ y + g = L) ∧ Aside0 ((ruS true L).goL (goCountW L f') l g s' = goCountW L (f' + 1) l s) ∧ Aside0 (sizeCount s' + g * (1 * L ^ f') ≤ 4000000000000000000) ∧ Aside0 (StCount bo B w' (fun k => Q k ∨ w.heap.size ≤ k) s') ∧ Aside0 (Ow w' B (.slice (some ad) l.length c) l) ∧ Aside0 (Chg (fun k => k = bo ∨ Q k ∨ (.slice (some ad) l.length c : Value).ownBlock = some k) w w'))
      case atStart => exact ⟨zn + 1, s, by go_num, ⟨by omega⟩, HFF, HS0, ⟨StCount_mono (StCount_chg (ok := fun _ => False) HST.out (Chg.of_below (by repeat (first | (with_reducible first | exact HB.out | apply below_alloc | apply pw_below_drewN | apply below_drew1) | exact HB.out))) (fun k _ h => h) (fun h => h)) (fun k hk => .inl hk.1)⟩, ⟨Ow_below HO.out (by repeat (first | (with_reducible first | exact HB.out | apply below_alloc | apply pw_below_drewN | apply below_drew1) | exact HB.out))⟩, ⟨Chg.of_below (by repeat (first | (with_reducible first | exact HB.out | apply below_alloc | apply pw_below_drewN | apply below_drew1) | exact HB.out))⟩⟩
      case round =>
        clear HB
        obtain ⟨y, s', rfl, HY, HT, HSS, HSR, HOR, HCH⟩ := hrel
        by_cases hy : y < L
        · obtain ⟨d, hd⟩ : ∃ d, gk = d + 1 := ⟨gk - 1, by have := HY.out; omega⟩
          have HGD := Aside0.mk hd
          have HSD := Aside0.mk (show sizeCount s' + (d * (1 * L ^ f') + 1 * L ^ f') ≤ 4000000000000000000 by have := HSS.out; rwa [hd, Nat.succ_mul] at this)
          have hT := HT.out
          rw [hd, Seek.goL, show (ruS true L).y (d + 1) = (y : Int) from (show ((L - (d + 1) : Nat) : Int) = (y : Int) by have := HY.out; omega), show (ruS true L).t l (y : Int) = true from rfl, if_pos rfl] at hT
          clear hd
          have HB := Aside0.mk (Below.refl wr.heap.size wr)
          have HBOR := Aside0.mk (show bo < wr.heap.size from Nat.lt_of_lt_of_le hbo HCH.out.size)
          have hbw : bo < wr.heap.size := HBOR.out
          have HL2 := Aside0.mk (show (l ++ [(y : Int)]).length + f' + 1 = n by rw [List.length_append, List.length_singleton]; omega)
          have HNQ := Aside0.mk (Nod_snoc HN.out hL (show l.length + 1 ≤ 12 by omega) (y := (y : Int)) (by rw [HZN.out]; have := HY.out; omega) (by omega))
          have HSN := Aside0.mk (show sizeCount s' + 1 * L ^ f' ≤ 4000000000000000000 by have := HSD.out; omega)
          generalize hm_ : l ++ [(y : Int)] = m at hT HL2 HNQ
          have HM := Aside0.mk hm_
          have HT4 := Aside0.mk hT
          clear hm_ hT
          have HSG := Aside0.mk (show sizeCount (goCountW L f' m s').1 ≤ sizeCount s' + 1 * L ^ f' from (ruS true L).go_size nextCount_size (ruS_st true L) f' _ _)
          by_cases hg : (goCountW L f' m s').2 = true
          · have HG := Aside0.mk hg
            have HF := Aside0.mk (show goCountW L (f' + 1) l s = ((goCountW L f' m s').1, true) by rw [← HT4.out, if_pos hg])
            clear hg
            go_wp2_with (first | ((with_reducible refine gate_builtin (b := .append) (xs := #[.tmp 39, .tmp 41]) rfl ?_); at_builtin; refine app_any (by rfl) (.tmp 39) (.tmp 41) (by rfl) B (.slice (some ad) l.length c) l (y : Int) (by rfl) (by rfl) (Ow_below HOR.out (by repeat (first | (with_reducible first | exact HB.out | apply below_alloc | apply pw_below_drewN | apply below_drew1) | exact HB.out))) HP.out HLN.out (Nat.le_trans HBW.out (Nat.le_trans HCH.out.size (below_size (by repeat (first | (with_reducible first | exact HB.out | apply below_alloc | apply pw_below_drewN | apply below_drew1) | exact HB.out))))) ?_; intro v1 w2 ho1 hg1 hk1 hback; have HCW := Aside0.mk ((Chg.of_below (ok := fun k => (.slice (some ad) l.length c : Value).ownBlock = some k) (by repeat (first | (with_reducible first | exact HB.out | apply below_alloc | apply pw_below_drewN | apply below_drew1) | exact HB.out))).grown (hgr_ hg1) (fun k h _ => h)); have HK1 := Aside0.mk (fun k h => (hk1 k h).imp_right (fun h2 => Nat.le_trans (below_size (by repeat (first | (with_reducible first | exact HB.out | apply below_alloc | apply pw_below_drewN | apply below_drew1) | exact HB.out))) h2)); have HBK := Aside0.mk hback; have HSI := Aside0.mk (show ∀ k, v1.ownBlock = some k → ¬ ((Q k ∨ w.heap.size ≤ k) ∧ k < wr.heap.size) ∧ k ≠ bo from (fun k hk => ⟨fun h => by have h1 := HK1.out k hk; rcases h1 with h1 | h1; rcases h.1 with h2 | h2; exact (HQ.out k h1).1 h2; have := Ow_lt HO.out k h1; omega; have := h.2; omega, fun h => by subst h; have h1 := HK1.out _ hk; rcases h1 with h1 | h1; exact (HQ.out _ h1).2 rfl; omega⟩)); rw [HM.out] at ho1; have HO1 := Aside0.mk ho1; clear HB hg1 hk1 hback ho1; have HB := Aside0.mk (Below.refl w2.heap.size w2)) | (go_at_call 30; refine (HIC.out v1 m _ (fun k => (Q k ∨ w.heap.size ≤ k) ∧ k < wr.heap.size) s' (by first | exact HO1.out | exact Ow_drewN HO1.out _) HSI.out (fun h => h.1.elim HNB.out (fun h => by omega)) (StCount_chg HSR.out ((HCW.out).below (by repeat (first | (with_reducible first | exact HB.out | apply below_alloc | apply pw_below_drewN | apply below_drew1) | exact HB.out))) (fun k hk h => by rcases hk with h2 | h2; exact (HQ.out k h).1 h2; have := Ow_lt HO.out k h; omega) (fun h => (HQ.out bo h).2 rfl)) HNQ.out HL2.out HSN.out).mono ?_; rw [HG.out]; rintro e w4 ⟨rfl, hst, ho4, hch⟩; have HO4 := Aside0.mk ho4; have HS3 := Aside0.mk (StCount_mono (Q' := fun k => Q k ∨ w.heap.size ≤ k) hst (fun k hk => by rcases hk with h | h; exact h.1; exact .inr (Nat.le_trans HCH.out.size (Nat.le_trans HCW.out.size (Nat.le_trans (below_size (by repeat (first | (with_reducible first | exact HB.out | apply below_alloc | apply pw_below_drewN | apply below_drew1) | exact HB.out))) h))))); have HCT := Aside0.mk ((Chg.of_below (ok := fun k => k = bo ∨ ((Q k ∨ w.heap.size ≤ k) ∧ k < wr.heap.size) ∨ v1.ownBlock = some k) (by repeat (first | (with_reducible first | exact HB.out | apply below_alloc | apply pw_below_drewN | apply below_drew1) | exact HB.out))).trans hch (fun j _ h => h)); clear hst hch ho4))
            repeat (go_quiet (fail); try go_wp2)
            go_ret
            exact ⟨by rw [HF.out]; rfl, by rw [HF.out]; exact HS3.out, (HBK.out _ _ HCT.out (fun k hk hv h => by rcases h with h | h | h; exact (HQ.out k hk).2 h; rcases h.1 with h2 | h2; exact (HQ.out k hk).1 h2; have := Ow_lt HO.out k hk; omega; exact hv h) (by rw [HM.out]; exact HO4.out)), ((HCH.out.trans HCW.out (fun j hj h => .inr (.inr h))).trans HCT.out (fun j hj h => by rcases h with h | h | h; exact .inl h; rcases h.1 with h2 | h2; exact .inr (.inl h2); omega; rcases HK1.out j h with h2 | h2; exact .inr (.inr h2); have := HCH.out.size; omega))⟩
          · have HG := Aside0.mk (show (goCountW L f' m s').2 = false by simpa using hg)
            have HN2 := Aside0.mk (show (ruS true L).goL (goCountW L f') l d (goCountW L f' m s').1 = goCountW L (f' + 1) l s by have := HT4.out; rwa [if_neg hg] at this)
            clear hg
            go_wp2_with (first | ((with_reducible refine gate_builtin (b := .append) (xs := #[.tmp 39, .tmp 41]) rfl ?_); at_builtin; refine app_any (by rfl) (.tmp 39) (.tmp 41) (by rfl) B (.slice (some ad) l.length c) l (y : Int) (by rfl) (by rfl) (Ow_below HOR.out (by repeat (first | (with_reducible first | exact HB.out | apply below_alloc | apply pw_below_drewN | apply below_drew1) | exact HB.out))) HP.out HLN.out (Nat.le_trans HBW.out (Nat.le_trans HCH.out.size (below_size (by repeat (first | (with_reducible first | exact HB.out | apply below_alloc | apply pw_below_drewN | apply below_drew1) | exact HB.out))))) ?_; intro v1 w2 ho1 hg1 hk1 hback; have HCW := Aside0.mk ((Chg.of_below (ok := fun k => (.slice (some ad) l.length c : Value).ownBlock = some k) (by repeat (first | (with_reducible first | exact HB.out | apply below_alloc | apply pw_below_drewN | apply below_drew1) | exact HB.out))).grown (hgr_ hg1) (fun k h _ => h)); have HK1 := Aside0.mk (fun k h => (hk1 k h).imp_right (fun h2 => Nat.le_trans (below_size (by repeat (first | (with_reducible first | exact HB.out | apply below_alloc | apply pw_below_drewN | apply below_drew1) | exact HB.out))) h2)); have HBK := Aside0.mk hback; have HSI := Aside0.mk (show ∀ k, v1.ownBlock = some k → ¬ ((Q k ∨ w.heap.size ≤ k) ∧ k < wr.heap.size) ∧ k ≠ bo from (fun k hk => ⟨fun h => by have h1 := HK1.out k hk; rcases h1 with h1 | h1; rcases h.1 with h2 | h2; exact (HQ.out k h1).1 h2; have := Ow_lt HO.out k h1; omega; have := h.2; omega, fun h => by subst h; have h1 := HK1.out _ hk; rcases h1 with h1 | h1; exact (HQ.out _ h1).2 rfl; omega⟩)); rw [HM.out] at ho1; have HO1 := Aside0.mk ho1; clear HB hg1 hk1 hback ho1; have HB := Aside0.mk (Below.refl w2.heap.size w2)) | (go_at_call 30; refine (HIC.out v1 m _ (fun k => (Q k ∨ w.heap.size ≤ k) ∧ k < wr.heap.size) s' (by first | exact HO1.out | exact Ow_drewN HO1.out _) HSI.out (fun h => h.1.elim HNB.out (fun h => by omega)) (StCount_chg HSR.out ((HCW.out).below (by repeat (first | (with_reducible first | exact HB.out | apply below_alloc | apply pw_below_drewN | apply below_drew1) | exact HB.out))) (fun k hk h => by rcases hk with h2 | h2; exact (HQ.out k h).1 h2; have := Ow_lt HO.out k h; omega) (fun h => (HQ.out bo h).2 rfl)) HNQ.out HL2.out HSN.out).mono ?_; rw [HG.out]; rintro e w4 ⟨rfl, hst, ho4, hch⟩; have HO4 := Aside0.mk ho4; have HS3 := Aside0.mk (StCount_mono (Q' := fun k => Q k ∨ w.heap.size ≤ k) hst (fun k hk => by rcases hk with h | h; exact h.1; exact .inr (Nat.le_trans HCH.out.size (Nat.le_trans HCW.out.size (Nat.le_trans (below_size (by repeat (first | (with_reducible first | exact HB.out | apply below_alloc | apply pw_below_drewN | apply below_drew1) | exact HB.out))) h))))); have HCT := Aside0.mk ((Chg.of_below (ok := fun k => k = bo ∨ ((Q k ∨ w.heap.size ≤ k) ∧ k < wr.heap.size) ∨ v1.ownBlock = some k) (by repeat (first | (with_reducible first | exact HB.out | apply below_alloc | apply pw_below_drewN | apply below_drew1) | exact HB.out))).trans hch (fun j _ h => h)); clear hst hch ho4))
            repeat (go_quiet (fail); try go_wp2)
            go_roundg (gk - 1)
            case measure => have := HY.out; omega
            case rel => exact ⟨y + 1, _, by go_num, ⟨by have := HY.out; omega⟩, ⟨by rw [show gk - 1 = d by have := HGD.out; omega]; exact HN2.out⟩, ⟨by rw [show gk - 1 = d by have := HGD.out; omega]; have := HSD.out; have := HSG.out; omega⟩, HS3, ⟨(HBK.out _ _ HCT.out (fun k hk hv h => by rcases h with h | h | h; exact (HQ.out k hk).2 h; rcases h.1 with h2 | h2; exact (HQ.out k hk).1 h2; have := Ow_lt HO.out k hk; omega; exact hv h) (by rw [HM.out]; exact HO4.out))⟩, ⟨((HCH.out.trans HCW.out (fun j hj h => .inr (.inr h))).trans HCT.out (fun j hj h => by rcases h with h | h | h; exact .inl h; rcases h.1 with h2 | h2; exact .inr (.inl h2); omega; rcases HK1.out j h with h2 | h2; exact .inr (.inr h2); have := HCH.out.size; omega))⟩⟩
        · have HF := Aside0.mk (show goCountW L (f' + 1) l s = (s', false) by rw [← HT.out, show gk = 0 by have := HY.out; omega, Seek.goL])
          have HB := Aside0.mk (Below.refl wr.heap.size wr)
          go_wp2_with fail
          repeat (go_quiet (fail); try go_wp2_with fail)
          go_ret
          exact ⟨by rw [HF.out]; rfl, by rw [HF.out]; exact HSR.out, HOR.out, HCH.out⟩
  · exact absurd rfl hon
theorem ruCountW_calls (L n f bo B : Nat) (hL : L ≤ 60) (hn : n ≤ 12) (hB : B ≤ bo) : RuCountW L n f bo B := by
  induction f with
  | zero => exact ruCountW_step L n 0 bo B hL hn hB (fun f' h => by omega)
  | succ f ih => exact ruCountW_step L n (f + 1) bo B hL hn hB (fun f' h => by rw [show f' = f by omega]; exact ih)
set_option maxRecDepth 8000 in
set_option maxHeartbeats 6400000 in
theorem ruFirstW_step (L n f bo B : Nat) (hL : L ≤ 60) (hn : n ≤ 12) (hB : B ≤ bo) (hih : ∀ f', f = f' + 1 → RuFirstW L n f' bo B) : RuFirstW L n f bo B := by
  intro u l w Q s ho hq hb hst hnod hlf hsz
  obtain ⟨A, c, rfl, hcap, hrd⟩ := Ow_form ho
  have hbo : bo < w.heap.size := StFirst_lt hst
  have hl1 := hnod.1.1.1
  have hlt0 := hnod.2
  have hge0 := (Ruler_lst hnod.1).1
  have HIH := Aside0.mk hih
  have HO := Aside0.mk ho
  have HQ := Aside0.mk hq
  have HNB := Aside0.mk hb
  have HST := Aside0.mk hst
  have HR := Aside0.mk hrd
  have HC := Aside0.mk hcap
  have HN := Aside0.mk hnod
  have HSZ := Aside0.mk hsz
  have HP := Aside0.mk (show 0 < l.length by omega)
  have HLN := Aside0.mk (show l.length ≤ 1048576 by omega)
  have HBW := Aside0.mk (show B ≤ w.heap.size by omega)
  clear hih ho hq hb hst hcap hrd hnod hsz
  have HB := Aside0.mk (Below.refl w.heap.size w)
  by_cases hon : ts true l = true
  · have HON := Aside0.mk hon
    by_cases hz : l.length = n - 1
    · obtain rfl : f = 0 := by omega
      have ht : ((l.length : Int) == (n : Int) - 1) = true := beq_iff_eq.mpr (by omega)
      have HX := Aside0.mk (show sizeFirst s + 0 ≤ 4000000000000000000 by have := HSZ.out; rw [Nat.pow_zero] at this; omega)
      have HRU := Aside0.mk (Nod_fin HN.out hL (by omega))
      have hG : goFirstW L 0 l s = if qq true (l ++ [(L : Int)]) = true then (nextFirst s (l ++ [(L : Int)]), true) else (s, false) := by
        have e : goFirstW L 0 l s = if ts true l = true then (if qq true (l ++ [(L : Int)]) = true then (nextFirst s (l ++ [(L : Int)]), true) else (s, false)) else (s, false) := rfl
        rw [e, if_pos hon]
      generalize hm_ : l ++ [(L : Int)] = m at hG HRU
      have HM := Aside0.mk hm_
      have HG := Aside0.mk hG.symm
      clear hm_ hG hz hlf hon
      go_enter Try.func30, Try.ntmps30
      go_wp2_with (first | (go_at_call 23; refine (always_calls _ _).mono ?_; rintro e w1 ⟨rfl, rfl⟩) | ((with_reducible refine gate_builtin (b := .append) (xs := #[.tmp 22, .tmp 24]) rfl ?_); at_builtin; refine app_any (by rfl) (.tmp 22) (.tmp 24) (by rfl) B (.slice A l.length c) l (L : Int) (by rfl) (by rfl) (Ow_below HO.out (by repeat (first | (with_reducible first | exact HB.out | apply below_alloc | apply pw_below_drewN | apply below_drew1) | exact HB.out))) HP.out HLN.out (Nat.le_trans HBW.out (below_size (by repeat (first | (with_reducible first | exact HB.out | apply below_alloc | apply pw_below_drewN | apply below_drew1) | exact HB.out)))) ?_; intro v1 w2 ho1 hg1 hk1 hback; have HCW := Aside0.mk ((Chg.of_below (ok := fun k => (.slice A l.length c : Value).ownBlock = some k) (by repeat (first | (with_reducible first | exact HB.out | apply below_alloc | apply pw_below_drewN | apply below_drew1) | exact HB.out))).grown (hgr_ hg1) (fun k h _ => h)); have HK1 := Aside0.mk (fun k h => (hk1 k h).imp_right (fun h2 => Nat.le_trans (below_size (by repeat (first | (with_reducible first | exact HB.out | apply below_alloc | apply pw_below_drewN | apply below_drew1) | exact HB.out))) h2)); have HBK := Aside0.mk hback; have HSI := Aside0.mk (show ∀ k, v1.ownBlock = some k → ¬ ((Q k ∨ w.heap.size ≤ k) ∧ k < w.heap.size) ∧ k ≠ bo from (fun k hk => ⟨fun h => by have h1 := HK1.out k hk; rcases h1 with h1 | h1; rcases h.1 with h2 | h2; exact (HQ.out k h1).1 h2; have := Ow_lt HO.out k h1; omega; have := h.2; omega, fun h => by subst h; have h1 := HK1.out _ hk; rcases h1 with h1 | h1; exact (HQ.out _ h1).2 rfl; omega⟩)); rw [HM.out] at ho1; have HO1 := Aside0.mk ho1; clear HB hg1 hk1 hback ho1; have HB := Aside0.mk (Below.refl w2.heap.size w2)) | (go_at_call 28; refine (callFirstW bo B _ m _ (fun k => (Q k ∨ w.heap.size ≤ k) ∧ k < w.heap.size) s (by first | exact HO1.out | exact Ow_drewN HO1.out _) HSI.out (fun h => h.1.elim HNB.out (fun h => by omega)) (StFirst_chg (StFirst_mono HST.out (fun k hk => .inl hk)) ((HCW.out).below (by repeat (first | (with_reducible first | exact HB.out | apply below_alloc | apply pw_below_drewN | apply below_drew1) | exact HB.out))) (fun k hk h => by rcases hk with h2 | h2; exact (HQ.out k h).1 h2; have := Ow_lt HO.out k h; omega) (fun h => (HQ.out bo h).2 rfl)) hB HRU.out ).mono ?_; rw [show (if qq true m = true then _ else _) = _ from HG.out]; rintro e w4 ⟨rfl, hst, hch⟩; have HO4 := Aside0.mk (Ow_chg (by first | exact HO1.out | exact Ow_drewN HO1.out _) hch (fun k hk h => by have h2 := HSI.out k hk; exact h.elim h2.2 h2.1)); have HS3 := Aside0.mk (StFirst_mono (Q' := fun k => Q k ∨ w.heap.size ≤ k) hst (fun k hk => by rcases hk with h | h; exact h.1; exact .inr (Nat.le_trans HCW.out.size (Nat.le_trans (below_size (by repeat (first | (with_reducible first | exact HB.out | apply below_alloc | apply pw_below_drewN | apply below_drew1) | exact HB.out))) h)))); have HCT := Aside0.mk ((Chg.of_below (ok := fun k => k = bo ∨ ((Q k ∨ w.heap.size ≤ k) ∧ k < w.heap.size)) (by repeat (first | (with_reducible first | exact HB.out | apply below_alloc | apply pw_below_drewN | apply below_drew1) | exact HB.out))).trans hch (fun j _ h => h)); clear hst hch))
      repeat (go_quiet (fail); try go_wp2)
      go_ret
      exact ⟨rfl, HS3.out, (HBK.out _ _ HCT.out (fun k hk hv h => by rcases h with h | h; exact (HQ.out k hk).2 h; rcases h.1 with h2 | h2; exact (HQ.out k hk).1 h2; have := Ow_lt HO.out k hk; omega) (by rw [HM.out]; exact HO4.out)), ((HCW.out.mono (ok1 := fun k => k = bo ∨ Q k ∨ (.slice A l.length c : Value).ownBlock = some k) (fun j h => .inr (.inr h))).trans HCT.out (fun j hj h => by rcases h with h | h; exact .inl h; rcases h.1 with h2 | h2; exact .inr (.inl h2); omega))⟩
    · obtain ⟨f', rfl⟩ : ∃ f', f = f' + 1 := ⟨f - 1, by omega⟩
      have HIC := Aside0.mk (HIH.out f' rfl)
      have ht : ((l.length : Int) == (n : Int) - 1) = false := beq_eq_false_iff_ne.mpr (by omega)
      obtain ⟨ad, hA, _⟩ := at_first HR.out (by omega)
      subst hA
      obtain ⟨mm, hmm⟩ : ∃ mm : Int, IntKind.i64.wrap ((l.length : Int) - 1) = mm := ⟨_, rfl⟩
      have HMM := Aside0.mk (show mm = (l.length : Int) - 1 by rw [← hmm, i64_w, w64 (by omega) (by omega)])
      have mm0 : 0 ≤ mm := by have := HMM.out; omega
      have mm2 : mm < (l.length : Int) := by have := HMM.out; omega
      obtain ⟨ad2, e2, hxm⟩ := Kd.at_int HR.out mm mm0 mm2
      obtain rfl : ad = ad2 := by injection e2
      clear e2
      obtain ⟨zn, hzn⟩ : ∃ zn : Nat, lst l = (zn : Int) := ⟨(lst l).toNat, by omega⟩
      have hzm : rd l mm = (zn : Int) := by rw [← hzn, HMM.out]; rfl
      rw [hzm] at hxm
      rw [hzn] at hlt0
      have HST0 := Aside0.mk (show (ruS true L).st l = L - (zn + 1) by show L - (lst l + 1).toNat = _; rw [hzn]; omega)
      have HFF := Aside0.mk (show (ruS true L).goL (goFirstW L f') l (L - (zn + 1)) s = goFirstW L (f' + 1) l s by
        have e : goFirstW L (f' + 1) l s = if ts true l = true then (ruS true L).goL (goFirstW L f') l ((ruS true L).st l) s else (s, false) := rfl
        rw [e, if_pos hon, HST0.out])
      have hpw : 0 * L ^ (f' + 1) = L * (0 * L ^ f') := Seek.pow_step _ _ _
      have HS0 := Aside0.mk (show sizeFirst s + (L - (zn + 1)) * (0 * L ^ f') ≤ 4000000000000000000 by have := HSZ.out; rw [hpw] at this; exact Nat.le_trans (Nat.add_le_add_left (Nat.mul_le_mul_right _ (Nat.sub_le _ _)) _) this)
      have HZN := Aside0.mk hzn
      clear hpw hzn hzm hon
      go_enter Try.func30, Try.ntmps30
      go_wp2_with ((go_at_call 23; refine (always_calls _ _).mono ?_; rintro e w1 ⟨rfl, rfl⟩))
      repeat (go_quiet (fail); try go_wp2_with fail)
      clear hxm
      go_loopg [11] (L - (zn + 1)) (fun g v11 w' => ∃ (y : Nat) (s' : List Int), v11 = .int .i64 y ∧ Aside0 (zn + 1 ≤ y ∧ y + g = L) ∧ Aside0 ((ruS true L).goL (goFirstW L f') l g s' = goFirstW L (f' + 1) l s) ∧ Aside0 (sizeFirst s' + g * (0 * L ^ f') ≤ 4000000000000000000) ∧ Aside0 (StFirst bo B w' (fun k => Q k ∨ w.heap.size ≤ k) s') ∧ Aside0 (Ow w' B (.slice (some ad) l.length c) l) ∧ Aside0 (Chg (fun k => k = bo ∨ Q k ∨ (.slice (some ad) l.length c : Value).ownBlock = some k) w w'))
      case atStart => exact ⟨zn + 1, s, by go_num, ⟨by omega⟩, HFF, HS0, ⟨StFirst_mono (StFirst_chg (ok := fun _ => False) HST.out (Chg.of_below (by repeat (first | (with_reducible first | exact HB.out | apply below_alloc | apply pw_below_drewN | apply below_drew1) | exact HB.out))) (fun k _ h => h) (fun h => h)) (fun k hk => .inl hk.1)⟩, ⟨Ow_below HO.out (by repeat (first | (with_reducible first | exact HB.out | apply below_alloc | apply pw_below_drewN | apply below_drew1) | exact HB.out))⟩, ⟨Chg.of_below (by repeat (first | (with_reducible first | exact HB.out | apply below_alloc | apply pw_below_drewN | apply below_drew1) | exact HB.out))⟩⟩
      case round =>
        clear HB
        obtain ⟨y, s', rfl, HY, HT, HSS, HSR, HOR, HCH⟩ := hrel
        by_cases hy : y < L
        · obtain ⟨d, hd⟩ : ∃ d, gk = d + 1 := ⟨gk - 1, by have := HY.out; omega⟩
          have HGD := Aside0.mk hd
          have HSD := Aside0.mk (show sizeFirst s' + (d * (0 * L ^ f') + 0 * L ^ f') ≤ 4000000000000000000 by have := HSS.out; rwa [hd, Nat.succ_mul] at this)
          have hT := HT.out
          rw [hd, Seek.goL, show (ruS true L).y (d + 1) = (y : Int) from (show ((L - (d + 1) : Nat) : Int) = (y : Int) by have := HY.out; omega), show (ruS true L).t l (y : Int) = true from rfl, if_pos rfl] at hT
          clear hd
          have HB := Aside0.mk (Below.refl wr.heap.size wr)
          have HBOR := Aside0.mk (show bo < wr.heap.size from Nat.lt_of_lt_of_le hbo HCH.out.size)
          have hbw : bo < wr.heap.size := HBOR.out
          have HL2 := Aside0.mk (show (l ++ [(y : Int)]).length + f' + 1 = n by rw [List.length_append, List.length_singleton]; omega)
          have HNQ := Aside0.mk (Nod_snoc HN.out hL (show l.length + 1 ≤ 12 by omega) (y := (y : Int)) (by rw [HZN.out]; have := HY.out; omega) (by omega))
          have HSN := Aside0.mk (show sizeFirst s' + 0 * L ^ f' ≤ 4000000000000000000 by have := HSD.out; omega)
          generalize hm_ : l ++ [(y : Int)] = m at hT HL2 HNQ
          have HM := Aside0.mk hm_
          have HT4 := Aside0.mk hT
          clear hm_ hT
          have HSG := Aside0.mk (show sizeFirst (goFirstW L f' m s').1 ≤ sizeFirst s' + 0 * L ^ f' from (ruS true L).go_size nextFirst_size (ruS_st true L) f' _ _)
          by_cases hg : (goFirstW L f' m s').2 = true
          · have HG := Aside0.mk hg
            have HF := Aside0.mk (show goFirstW L (f' + 1) l s = ((goFirstW L f' m s').1, true) by rw [← HT4.out, if_pos hg])
            clear hg
            go_wp2_with (first | ((with_reducible refine gate_builtin (b := .append) (xs := #[.tmp 39, .tmp 41]) rfl ?_); at_builtin; refine app_any (by rfl) (.tmp 39) (.tmp 41) (by rfl) B (.slice (some ad) l.length c) l (y : Int) (by rfl) (by rfl) (Ow_below HOR.out (by repeat (first | (with_reducible first | exact HB.out | apply below_alloc | apply pw_below_drewN | apply below_drew1) | exact HB.out))) HP.out HLN.out (Nat.le_trans HBW.out (Nat.le_trans HCH.out.size (below_size (by repeat (first | (with_reducible first | exact HB.out | apply below_alloc | apply pw_below_drewN | apply below_drew1) | exact HB.out))))) ?_; intro v1 w2 ho1 hg1 hk1 hback; have HCW := Aside0.mk ((Chg.of_below (ok := fun k => (.slice (some ad) l.length c : Value).ownBlock = some k) (by repeat (first | (with_reducible first | exact HB.out | apply below_alloc | apply pw_below_drewN | apply below_drew1) | exact HB.out))).grown (hgr_ hg1) (fun k h _ => h)); have HK1 := Aside0.mk (fun k h => (hk1 k h).imp_right (fun h2 => Nat.le_trans (below_size (by repeat (first | (with_reducible first | exact HB.out | apply below_alloc | apply pw_below_drewN | apply below_drew1) | exact HB.out))) h2)); have HBK := Aside0.mk hback; have HSI := Aside0.mk (show ∀ k, v1.ownBlock = some k → ¬ ((Q k ∨ w.heap.size ≤ k) ∧ k < wr.heap.size) ∧ k ≠ bo from (fun k hk => ⟨fun h => by have h1 := HK1.out k hk; rcases h1 with h1 | h1; rcases h.1 with h2 | h2; exact (HQ.out k h1).1 h2; have := Ow_lt HO.out k h1; omega; have := h.2; omega, fun h => by subst h; have h1 := HK1.out _ hk; rcases h1 with h1 | h1; exact (HQ.out _ h1).2 rfl; omega⟩)); rw [HM.out] at ho1; have HO1 := Aside0.mk ho1; clear HB hg1 hk1 hback ho1; have HB := Aside0.mk (Below.refl w2.heap.size w2)) | (go_at_call 30; refine (HIC.out v1 m _ (fun k => (Q k ∨ w.heap.size ≤ k) ∧ k < wr.heap.size) s' (by first | exact HO1.out | exact Ow_drewN HO1.out _) HSI.out (fun h => h.1.elim HNB.out (fun h => by omega)) (StFirst_chg HSR.out ((HCW.out).below (by repeat (first | (with_reducible first | exact HB.out | apply below_alloc | apply pw_below_drewN | apply below_drew1) | exact HB.out))) (fun k hk h => by rcases hk with h2 | h2; exact (HQ.out k h).1 h2; have := Ow_lt HO.out k h; omega) (fun h => (HQ.out bo h).2 rfl)) HNQ.out HL2.out HSN.out).mono ?_; rw [HG.out]; rintro e w4 ⟨rfl, hst, ho4, hch⟩; have HO4 := Aside0.mk ho4; have HS3 := Aside0.mk (StFirst_mono (Q' := fun k => Q k ∨ w.heap.size ≤ k) hst (fun k hk => by rcases hk with h | h; exact h.1; exact .inr (Nat.le_trans HCH.out.size (Nat.le_trans HCW.out.size (Nat.le_trans (below_size (by repeat (first | (with_reducible first | exact HB.out | apply below_alloc | apply pw_below_drewN | apply below_drew1) | exact HB.out))) h))))); have HCT := Aside0.mk ((Chg.of_below (ok := fun k => k = bo ∨ ((Q k ∨ w.heap.size ≤ k) ∧ k < wr.heap.size) ∨ v1.ownBlock = some k) (by repeat (first | (with_reducible first | exact HB.out | apply below_alloc | apply pw_below_drewN | apply below_drew1) | exact HB.out))).trans hch (fun j _ h => h)); clear hst hch ho4))
            repeat (go_quiet (fail); try go_wp2)
            go_ret
            exact ⟨by rw [HF.out]; rfl, by rw [HF.out]; exact HS3.out, (HBK.out _ _ HCT.out (fun k hk hv h => by rcases h with h | h | h; exact (HQ.out k hk).2 h; rcases h.1 with h2 | h2; exact (HQ.out k hk).1 h2; have := Ow_lt HO.out k hk; omega; exact hv h) (by rw [HM.out]; exact HO4.out)), ((HCH.out.trans HCW.out (fun j hj h => .inr (.inr h))).trans HCT.out (fun j hj h => by rcases h with h | h | h; exact .inl h; rcases h.1 with h2 | h2; exact .inr (.inl h2); omega; rcases HK1.out j h with h2 | h2; exact .inr (.inr h2); have := HCH.out.size; omega))⟩
          · have HG := Aside0.mk (show (goFirstW L f' m s').2 = false by simpa using hg)
            have HN2 := Aside0.mk (show (ruS true L).goL (goFirstW L f') l d (goFirstW L f' m s').1 = goFirstW L (f' + 1) l s by have := HT4.out; rwa [if_neg hg] at this)
            clear hg
            go_wp2_with (first | ((with_reducible refine gate_builtin (b := .append) (xs := #[.tmp 39, .tmp 41]) rfl ?_); at_builtin; refine app_any (by rfl) (.tmp 39) (.tmp 41) (by rfl) B (.slice (some ad) l.length c) l (y : Int) (by rfl) (by rfl) (Ow_below HOR.out (by repeat (first | (with_reducible first | exact HB.out | apply below_alloc | apply pw_below_drewN | apply below_drew1) | exact HB.out))) HP.out HLN.out (Nat.le_trans HBW.out (Nat.le_trans HCH.out.size (below_size (by repeat (first | (with_reducible first | exact HB.out | apply below_alloc | apply pw_below_drewN | apply below_drew1) | exact HB.out))))) ?_; intro v1 w2 ho1 hg1 hk1 hback; have HCW := Aside0.mk ((Chg.of_below (ok := fun k => (.slice (some ad) l.length c : Value).ownBlock = some k) (by repeat (first | (with_reducible first | exact HB.out | apply below_alloc | apply pw_below_drewN | apply below_drew1) | exact HB.out))).grown (hgr_ hg1) (fun k h _ => h)); have HK1 := Aside0.mk (fun k h => (hk1 k h).imp_right (fun h2 => Nat.le_trans (below_size (by repeat (first | (with_reducible first | exact HB.out | apply below_alloc | apply pw_below_drewN | apply below_drew1) | exact HB.out))) h2)); have HBK := Aside0.mk hback; have HSI := Aside0.mk (show ∀ k, v1.ownBlock = some k → ¬ ((Q k ∨ w.heap.size ≤ k) ∧ k < wr.heap.size) ∧ k ≠ bo from (fun k hk => ⟨fun h => by have h1 := HK1.out k hk; rcases h1 with h1 | h1; rcases h.1 with h2 | h2; exact (HQ.out k h1).1 h2; have := Ow_lt HO.out k h1; omega; have := h.2; omega, fun h => by subst h; have h1 := HK1.out _ hk; rcases h1 with h1 | h1; exact (HQ.out _ h1).2 rfl; omega⟩)); rw [HM.out] at ho1; have HO1 := Aside0.mk ho1; clear HB hg1 hk1 hback ho1; have HB := Aside0.mk (Below.refl w2.heap.size w2)) | (go_at_call 30; refine (HIC.out v1 m _ (fun k => (Q k ∨ w.heap.size ≤ k) ∧ k < wr.heap.size) s' (by first | exact HO1.out | exact Ow_drewN HO1.out _) HSI.out (fun h => h.1.elim HNB.out (fun h => by omega)) (StFirst_chg HSR.out ((HCW.out).below (by repeat (first | (with_reducible first | exact HB.out | apply below_alloc | apply pw_below_drewN | apply below_drew1) | exact HB.out))) (fun k hk h => by rcases hk with h2 | h2; exact (HQ.out k h).1 h2; have := Ow_lt HO.out k h; omega) (fun h => (HQ.out bo h).2 rfl)) HNQ.out HL2.out HSN.out).mono ?_; rw [HG.out]; rintro e w4 ⟨rfl, hst, ho4, hch⟩; have HO4 := Aside0.mk ho4; have HS3 := Aside0.mk (StFirst_mono (Q' := fun k => Q k ∨ w.heap.size ≤ k) hst (fun k hk => by rcases hk with h | h; exact h.1; exact .inr (Nat.le_trans HCH.out.size (Nat.le_trans HCW.out.size (Nat.le_trans (below_size (by repeat (first | (with_reducible first | exact HB.out | apply below_alloc | apply pw_below_drewN | apply below_drew1) | exact HB.out))) h))))); have HCT := Aside0.mk ((Chg.of_below (ok := fun k => k = bo ∨ ((Q k ∨ w.heap.size ≤ k) ∧ k < wr.heap.size) ∨ v1.ownBlock = some k) (by repeat (first | (with_reducible first | exact HB.out | apply below_alloc | apply pw_below_drewN | apply below_drew1) | exact HB.out))).trans hch (fun j _ h => h)); clear hst hch ho4))
            repeat (go_quiet (fail); try go_wp2)
            go_roundg (gk - 1)
            case measure => have := HY.out; omega
            case rel => exact ⟨y + 1, _, by go_num, ⟨by have := HY.out; omega⟩, ⟨by rw [show gk - 1 = d by have := HGD.out; omega]; exact HN2.out⟩, ⟨by rw [show gk - 1 = d by have := HGD.out; omega]; have := HSD.out; have := HSG.out; omega⟩, HS3, ⟨(HBK.out _ _ HCT.out (fun k hk hv h => by rcases h with h | h | h; exact (HQ.out k hk).2 h; rcases h.1 with h2 | h2; exact (HQ.out k hk).1 h2; have := Ow_lt HO.out k hk; omega; exact hv h) (by rw [HM.out]; exact HO4.out))⟩, ⟨((HCH.out.trans HCW.out (fun j hj h => .inr (.inr h))).trans HCT.out (fun j hj h => by rcases h with h | h | h; exact .inl h; rcases h.1 with h2 | h2; exact .inr (.inl h2); omega; rcases HK1.out j h with h2 | h2; exact .inr (.inr h2); have := HCH.out.size; omega))⟩⟩
        · have HF := Aside0.mk (show goFirstW L (f' + 1) l s = (s', false) by rw [← HT.out, show gk = 0 by have := HY.out; omega, Seek.goL])
          have HB := Aside0.mk (Below.refl wr.heap.size wr)
          go_wp2_with fail
          repeat (go_quiet (fail); try go_wp2_with fail)
          go_ret
          exact ⟨by rw [HF.out]; rfl, by rw [HF.out]; exact HSR.out, HOR.out, HCH.out⟩
  · exact absurd rfl hon
theorem ruFirstW_calls (L n f bo B : Nat) (hL : L ≤ 60) (hn : n ≤ 12) (hB : B ≤ bo) : RuFirstW L n f bo B := by
  induction f with
  | zero => exact ruFirstW_step L n 0 bo B hL hn hB (fun f' h => by omega)
  | succ f ih => exact ruFirstW_step L n (f + 1) bo B hL hn hB (fun f' h => by rw [show f' = f by omega]; exact ih)
end Go.Proofs.Ytmmnohdokemchaa.Own.G
