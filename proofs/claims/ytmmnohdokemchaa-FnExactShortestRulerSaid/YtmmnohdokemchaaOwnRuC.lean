/- Rulers with a length: the walk of the program's eachRuler with the functions that CountDifferent, ShortestRuler, CountWhole and FewestMarks hand it; lengths up to 60. -/
import Derived.Test.YtmmnohdokemchaaOwnRuB
import Derived.Test.YtmmnohdokemchaaWRepsOne
namespace Go.Proofs.Ytmmnohdokemchaa.Own.G
open Go.RowKit Go.Proofs.YtmmnohdokemchaaW.PrintWords Go.Proofs.YtmmnohdokemchaaW.PrintLast Go.Proofs.YtmmnohdokemchaaW.PrintMore
set_option linter.unusedVariables false
def outCount (s : Nat) (R : List (List Int)) : Nat × Bool := (s + R.length, false)
def outFirst (s : List Int) (R : List (List Int)) : List Int × Bool := match R with
  | [] => (s, false)
  | x :: _ => (x, true)
theorem goCountD_out (L f : Nat) (l : List Int) (s : Nat) : goCountD L f l s = outCount s ((ruS false L).lv f l) := by
  have := (ruS false L).go_all nextCount f l s
  rw [goCountD, this, show (List.foldl nextCount s ((ruS false L).lv f l)) = List.foldl (fun (s : Nat) (_ : List Int) => s + 1) s ((ruS false L).lv f l) from rfl, fold_count]
  rfl
theorem goCountW_out (L f : Nat) (l : List Int) (s : Nat) : goCountW L f l s = outCount s ((ruS true L).lv f l) := by
  have := (ruS true L).go_all nextCount f l s
  rw [goCountW, this, show (List.foldl nextCount s ((ruS true L).lv f l)) = List.foldl (fun (s : Nat) (_ : List Int) => s + 1) s ((ruS true L).lv f l) from rfl, fold_count]
  rfl
theorem goFirstD_out (L f : Nat) (l : List Int) (s : List Int) : goFirstD L f l s = outFirst s ((ruS false L).lv f l) := by
  have := (ruS false L).go_first nextFirst f l s
  rw [goFirstD, this]
  cases (ruS false L).lv f l <;> rfl
theorem goFirstW_out (L f : Nat) (l : List Int) (s : List Int) : goFirstW L f l s = outFirst s ((ruS true L).lv f l) := by
  have := (ruS true L).go_first nextFirst f l s
  rw [goFirstW, this]
  cases (ruS true L).lv f l <;> rfl
set_option maxHeartbeats 3200000 in
theorem eachCountD_calls (n L bo B : Nat) (w : World) (Q : Nat → Prop) (s : Nat) (hn : 1 ≤ n ∧ n ≤ 12) (hL : L ≤ 60) (hB : B ≤ bo) (hnb : ¬ Q bo) (hst : StCount bo B w Q s) (hsz : sizeCount s + 1 * L ^ (n - 2) ≤ 4000000000000000000) (hx : sizeCount s + 1 ≤ 4000000000000000000) :
    Calls Try.prog 20 #[.int .i64 (n : Int), .int .i64 (L : Int), .func (.func 21) #[] #[], .func (.func 22) #[] #[.pointer (some ⟨bo, 0, none⟩)]] w fun e w' => e = .returned (.bool (outCount s (ruR false n L)).2) ∧ StCount bo B w' (fun k => Q k ∨ w.heap.size ≤ k) (outCount s (ruR false n L)).1 ∧ Chg (fun k => k = bo ∨ Q k) w w' := by
  have hbo : bo < w.heap.size := StCount_lt hst
  have HST := Aside0.mk hst
  have HNB := Aside0.mk hnb
  have HSZ := Aside0.mk hsz
  have HX := Aside0.mk hx
  have HBW := Aside0.mk (show B ≤ w.heap.size by omega)
  clear hst hnb hsz hx
  have HB := Aside0.mk (Below.refl w.heap.size w)
  by_cases h1 : n = 1
  · subst h1
    by_cases h2 : L = 0
    · subst h2
      have HR := Aside0.mk (show ruR false 1 0 = [[0]] from rfl)
      go_enter Try.func20, Try.ntmps20
      go_wp2_with (first | ((with_reducible refine gate_dst (N := 15) rfl ?_); refine wpList_step fun Kk_ hKk_ => ?_; refine Kd.R_lit_step (Kd.int .i64) _ 3 ?hg (N := 15) ?hd (xs := ([(0 : Int)] : List Int)) (inner := [.int .i64 ((0 : Int))]) (ok := fun _ => True) (okp := fun _ => True) ?hr ?hp (fun _ hk => hk) trivial (Below.refl _ _) (Nat.le_refl _) (by simp) ?_; (case hd => rfl); (case hg => first | rfl | (go_simp; done) | decide); (case hr => first | (go_simp; done) | (go_simp; rfl)); (case hp => exact (Reps.one (show Kd.M (Kd.int .i64) _ _ _ ((0 : Int)) [.int .i64 ((0 : Int))] from rfl) (Reps.none _ _))); intro v1 w1 ho8 hb hg_ hnew_; clear hg_ hnew_; apply hKk_; clear hKk_ Kk_; have HO1 := Aside0.mk (Ow_lower (B' := w.heap.size) ho8 (below_size (by repeat (first | (with_reducible first | exact HB.out | apply below_alloc | apply pw_below_drewN | apply below_drew1) | exact HB.out)))); have n2_ := Aside0.mk (below_step (by repeat (first | (with_reducible first | exact HB.out | apply below_alloc | apply pw_below_drewN | apply below_drew1) | exact HB.out)) hb); clear HB; have HB := n2_; clear n2_ hb ho8) | (go_at_call 22; refine (callCountD bo B _ [0] _ (fun k => Q k ∧ k < w.heap.size) s (Ow_lower (by first | exact HO1.out | exact Ow_drewN HO1.out _) HBW.out) (fun k hk => ⟨fun h => by have := Kd.R_base HO1.out k hk; omega, by have := Kd.R_base HO1.out k hk; omega⟩) (fun h => HNB.out h.1) (StCount_chg (ok := fun _ => False) HST.out (Chg.of_below (by repeat (first | (with_reducible first | exact HB.out | apply below_alloc | apply pw_below_drewN | apply below_drew1) | exact HB.out))) (fun k _ h => h) (fun h => h)) hB Ruler_zero HX.out).mono ?_; rw [if_pos (qq_zero false)]; rintro e w4 ⟨rfl, hst, hch⟩; have HS3 := Aside0.mk (StCount_mono (Q' := fun k => Q k ∨ w.heap.size ≤ k) hst (fun k hk => by rcases hk with h | h; exact .inl h.1; exact .inr (Nat.le_trans (below_size (by repeat (first | (with_reducible first | exact HB.out | apply below_alloc | apply pw_below_drewN | apply below_drew1) | exact HB.out))) h))); have HC4 := Aside0.mk ((Chg.of_below (ok := fun k => k = bo ∨ Q k) (by repeat (first | (with_reducible first | exact HB.out | apply below_alloc | apply pw_below_drewN | apply below_drew1) | exact HB.out))).trans hch (fun j hj h => by rcases h with h | h; exact .inl h; exact .inr h.1)); clear hst hch HB; have HB := Aside0.mk (Below.refl w4.heap.size w4)))
      repeat (go_quiet (fail); try go_wp2)
      go_ret
      exact ⟨by rw [HR.out]; rfl, by rw [HR.out]; first | exact HS3.out | exact StCount_drewN HS3.out _, HC4.out.below (by repeat (first | (with_reducible first | exact HB.out | apply below_alloc | apply pw_below_drewN | apply below_drew1) | exact HB.out))⟩
    · have HR := Aside0.mk (show ruR false 1 L = [] by unfold ruR; rw [if_pos rfl, if_neg h2])
      have h3 : ((L : Int) == 0) = false := beq_eq_false_iff_ne.mpr (by omega)
      go_enter Try.func20, Try.ntmps20
      go_wp2_with fail
      repeat (go_quiet (fail); try go_wp2_with fail)
      go_ret
      exact ⟨by rw [HR.out]; simp [outCount], by rw [HR.out]; exact StCount_mono (StCount_chg (ok := fun _ => False) HST.out (Chg.of_below (by repeat (first | (with_reducible first | exact HB.out | apply below_alloc | apply pw_below_drewN | apply below_drew1) | exact HB.out))) (fun k _ h => h) (fun h => h)) (fun k hk => .inl hk.1), Chg.of_below (by repeat (first | (with_reducible first | exact HB.out | apply below_alloc | apply pw_below_drewN | apply below_drew1) | exact HB.out))⟩
  · have h3 : ((n : Int) == 1) = false := beq_eq_false_iff_ne.mpr (by omega)
    by_cases h2 : 0 < L
    · have hR : ruR false n L = (ruS false L).lv (n - 2) [0] := by unfold ruR; rw [if_neg h1, if_pos h2]
      rw [hR]
      have HRC := Aside0.mk (ruCountD_calls L n (n - 2) bo B hL hn.2 hB)
      have HNZ := Aside0.mk (Nod_zero h2)
      clear hR
      go_enter Try.func20, Try.ntmps20
      go_wp2_with (first | ((with_reducible refine gate_dst (N := 21) rfl ?_); refine wpList_step fun Kk_ hKk_ => ?_; refine Kd.R_lit_step (Kd.int .i64) _ 3 ?hg (N := 21) ?hd (xs := ([(0 : Int)] : List Int)) (inner := [.int .i64 ((0 : Int))]) (ok := fun _ => True) (okp := fun _ => True) ?hr ?hp (fun _ hk => hk) trivial (Below.refl _ _) (Nat.le_refl _) (by simp) ?_; (case hd => rfl); (case hg => first | rfl | (go_simp; done) | decide); (case hr => first | (go_simp; done) | (go_simp; rfl)); (case hp => exact (Reps.one (show Kd.M (Kd.int .i64) _ _ _ ((0 : Int)) [.int .i64 ((0 : Int))] from rfl) (Reps.none _ _))); intro v1 w1 ho8 hb hg_ hnew_; clear hg_ hnew_; apply hKk_; clear hKk_ Kk_; have HO1 := Aside0.mk (Ow_lower (B' := w.heap.size) ho8 (below_size (by repeat (first | (with_reducible first | exact HB.out | apply below_alloc | apply pw_below_drewN | apply below_drew1) | exact HB.out)))); have n2_ := Aside0.mk (below_step (by repeat (first | (with_reducible first | exact HB.out | apply below_alloc | apply pw_below_drewN | apply below_drew1) | exact HB.out)) hb); clear HB; have HB := n2_; clear n2_ hb ho8) | (go_at_call 30; refine (HRC.out _ [0] _ (fun k => Q k ∧ k < w.heap.size) s (Ow_lower (by first | exact HO1.out | exact Ow_drewN HO1.out _) HBW.out) (fun k hk => ⟨fun h => by have := Kd.R_base HO1.out k hk; omega, by have := Kd.R_base HO1.out k hk; omega⟩) (fun h => HNB.out h.1) (StCount_chg (ok := fun _ => False) HST.out (Chg.of_below (by repeat (first | (with_reducible first | exact HB.out | apply below_alloc | apply pw_below_drewN | apply below_drew1) | exact HB.out))) (fun k _ h => h) (fun h => h)) HNZ.out (by simp; omega) HSZ.out).mono ?_; rw [goCountD_out]; rintro e w4 ⟨rfl, hst, _, hch⟩; have HS3 := Aside0.mk (StCount_mono (Q' := fun k => Q k ∨ w.heap.size ≤ k) hst (fun k hk => by rcases hk with h | h; exact .inl h.1; exact .inr (Nat.le_trans (below_size (by repeat (first | (with_reducible first | exact HB.out | apply below_alloc | apply pw_below_drewN | apply below_drew1) | exact HB.out))) h))); have HC4 := Aside0.mk ((Chg.of_below (ok := fun k => k = bo ∨ Q k) (by repeat (first | (with_reducible first | exact HB.out | apply below_alloc | apply pw_below_drewN | apply below_drew1) | exact HB.out))).trans hch (fun j hj h => by rcases h with h | h | h; exact .inl h; exact .inr h.1; have := Kd.R_base HO1.out j h; omega)); clear hst hch HB; have HB := Aside0.mk (Below.refl w4.heap.size w4)))
      repeat (go_quiet (fail); try go_wp2)
      go_ret
      exact ⟨by first | rfl | simp, by first | exact HS3.out | exact StCount_drewN HS3.out _, HC4.out.below (by repeat (first | (with_reducible first | exact HB.out | apply below_alloc | apply pw_below_drewN | apply below_drew1) | exact HB.out))⟩
    · have HR := Aside0.mk (show ruR false n L = [] by unfold ruR; rw [if_neg h1, if_neg h2])
      obtain rfl : L = 0 := by omega
      go_enter Try.func20, Try.ntmps20
      go_wp2_with fail
      repeat (go_quiet (fail); try go_wp2_with fail)
      go_ret
      exact ⟨by rw [HR.out]; simp [outCount], by rw [HR.out]; exact StCount_mono (StCount_chg (ok := fun _ => False) HST.out (Chg.of_below (by repeat (first | (with_reducible first | exact HB.out | apply below_alloc | apply pw_below_drewN | apply below_drew1) | exact HB.out))) (fun k _ h => h) (fun h => h)) (fun k hk => .inl hk.1), Chg.of_below (by repeat (first | (with_reducible first | exact HB.out | apply below_alloc | apply pw_below_drewN | apply below_drew1) | exact HB.out))⟩
set_option maxHeartbeats 3200000 in
theorem eachFirstD_calls (n L bo B : Nat) (w : World) (Q : Nat → Prop) (s : List Int) (hn : 1 ≤ n ∧ n ≤ 12) (hL : L ≤ 60) (hB : B ≤ bo) (hnb : ¬ Q bo) (hst : StFirst bo B w Q s) (hsz : sizeFirst s + 0 * L ^ (n - 2) ≤ 4000000000000000000) (hx : sizeFirst s + 1 ≤ 4000000000000000000) :
    Calls Try.prog 20 #[.int .i64 (n : Int), .int .i64 (L : Int), .func (.func 21) #[] #[], .func (.func 26) #[] #[.pointer (some ⟨bo, 0, none⟩)]] w fun e w' => e = .returned (.bool (outFirst s (ruR false n L)).2) ∧ StFirst bo B w' (fun k => Q k ∨ w.heap.size ≤ k) (outFirst s (ruR false n L)).1 ∧ Chg (fun k => k = bo ∨ Q k) w w' := by
  have hbo : bo < w.heap.size := StFirst_lt hst
  have HST := Aside0.mk hst
  have HNB := Aside0.mk hnb
  have HSZ := Aside0.mk hsz
  have HX := Aside0.mk hx
  have HBW := Aside0.mk (show B ≤ w.heap.size by omega)
  clear hst hnb hsz hx
  have HB := Aside0.mk (Below.refl w.heap.size w)
  by_cases h1 : n = 1
  · subst h1
    by_cases h2 : L = 0
    · subst h2
      have HR := Aside0.mk (show ruR false 1 0 = [[0]] from rfl)
      go_enter Try.func20, Try.ntmps20
      go_wp2_with (first | ((with_reducible refine gate_dst (N := 15) rfl ?_); refine wpList_step fun Kk_ hKk_ => ?_; refine Kd.R_lit_step (Kd.int .i64) _ 3 ?hg (N := 15) ?hd (xs := ([(0 : Int)] : List Int)) (inner := [.int .i64 ((0 : Int))]) (ok := fun _ => True) (okp := fun _ => True) ?hr ?hp (fun _ hk => hk) trivial (Below.refl _ _) (Nat.le_refl _) (by simp) ?_; (case hd => rfl); (case hg => first | rfl | (go_simp; done) | decide); (case hr => first | (go_simp; done) | (go_simp; rfl)); (case hp => exact (Reps.one (show Kd.M (Kd.int .i64) _ _ _ ((0 : Int)) [.int .i64 ((0 : Int))] from rfl) (Reps.none _ _))); intro v1 w1 ho8 hb hg_ hnew_; clear hg_ hnew_; apply hKk_; clear hKk_ Kk_; have HO1 := Aside0.mk (Ow_lower (B' := w.heap.size) ho8 (below_size (by repeat (first | (with_reducible first | exact HB.out | apply below_alloc | apply pw_below_drewN | apply below_drew1) | exact HB.out)))); have n2_ := Aside0.mk (below_step (by repeat (first | (with_reducible first | exact HB.out | apply below_alloc | apply pw_below_drewN | apply below_drew1) | exact HB.out)) hb); clear HB; have HB := n2_; clear n2_ hb ho8) | (go_at_call 26; refine (callFirstD bo B _ [0] _ (fun k => Q k ∧ k < w.heap.size) s (Ow_lower (by first | exact HO1.out | exact Ow_drewN HO1.out _) HBW.out) (fun k hk => ⟨fun h => by have := Kd.R_base HO1.out k hk; omega, by have := Kd.R_base HO1.out k hk; omega⟩) (fun h => HNB.out h.1) (StFirst_chg (ok := fun _ => False) HST.out (Chg.of_below (by repeat (first | (with_reducible first | exact HB.out | apply below_alloc | apply pw_below_drewN | apply below_drew1) | exact HB.out))) (fun k _ h => h) (fun h => h)) hB Ruler_zero ).mono ?_; rw [if_pos (qq_zero false)]; rintro e w4 ⟨rfl, hst, hch⟩; have HS3 := Aside0.mk (StFirst_mono (Q' := fun k => Q k ∨ w.heap.size ≤ k) hst (fun k hk => by rcases hk with h | h; exact .inl h.1; exact .inr (Nat.le_trans (below_size (by repeat (first | (with_reducible first | exact HB.out | apply below_alloc | apply pw_below_drewN | apply below_drew1) | exact HB.out))) h))); have HC4 := Aside0.mk ((Chg.of_below (ok := fun k => k = bo ∨ Q k) (by repeat (first | (with_reducible first | exact HB.out | apply below_alloc | apply pw_below_drewN | apply below_drew1) | exact HB.out))).trans hch (fun j hj h => by rcases h with h | h; exact .inl h; exact .inr h.1)); clear hst hch HB; have HB := Aside0.mk (Below.refl w4.heap.size w4)))
      repeat (go_quiet (fail); try go_wp2)
      go_ret
      exact ⟨by rw [HR.out]; rfl, by rw [HR.out]; first | exact HS3.out | exact StFirst_drewN HS3.out _, HC4.out.below (by repeat (first | (with_reducible first | exact HB.out | apply below_alloc | apply pw_below_drewN | apply below_drew1) | exact HB.out))⟩
    · have HR := Aside0.mk (show ruR false 1 L = [] by unfold ruR; rw [if_pos rfl, if_neg h2])
      have h3 : ((L : Int) == 0) = false := beq_eq_false_iff_ne.mpr (by omega)
      go_enter Try.func20, Try.ntmps20
      go_wp2_with fail
      repeat (go_quiet (fail); try go_wp2_with fail)
      go_ret
      exact ⟨by rw [HR.out]; simp [outFirst], by rw [HR.out]; exact StFirst_mono (StFirst_chg (ok := fun _ => False) HST.out (Chg.of_below (by repeat (first | (with_reducible first | exact HB.out | apply below_alloc | apply pw_below_drewN | apply below_drew1) | exact HB.out))) (fun k _ h => h) (fun h => h)) (fun k hk => .inl hk.1), Chg.of_below (by repeat (first | (with_reducible first | exact HB.out | apply below_alloc | apply pw_below_drewN | apply below_drew1) | exact HB.out))⟩
  · have h3 : ((n : Int) == 1) = false := beq_eq_false_iff_ne.mpr (by omega)
    by_cases h2 : 0 < L
    · have hR : ruR false n L = (ruS false L).lv (n - 2) [0] := by unfold ruR; rw [if_neg h1, if_pos h2]
      rw [hR]
      have HRC := Aside0.mk (ruFirstD_calls L n (n - 2) bo B hL hn.2 hB)
      have HNZ := Aside0.mk (Nod_zero h2)
      clear hR
      go_enter Try.func20, Try.ntmps20
      go_wp2_with (first | ((with_reducible refine gate_dst (N := 21) rfl ?_); refine wpList_step fun Kk_ hKk_ => ?_; refine Kd.R_lit_step (Kd.int .i64) _ 3 ?hg (N := 21) ?hd (xs := ([(0 : Int)] : List Int)) (inner := [.int .i64 ((0 : Int))]) (ok := fun _ => True) (okp := fun _ => True) ?hr ?hp (fun _ hk => hk) trivial (Below.refl _ _) (Nat.le_refl _) (by simp) ?_; (case hd => rfl); (case hg => first | rfl | (go_simp; done) | decide); (case hr => first | (go_simp; done) | (go_simp; rfl)); (case hp => exact (Reps.one (show Kd.M (Kd.int .i64) _ _ _ ((0 : Int)) [.int .i64 ((0 : Int))] from rfl) (Reps.none _ _))); intro v1 w1 ho8 hb hg_ hnew_; clear hg_ hnew_; apply hKk_; clear hKk_ Kk_; have HO1 := Aside0.mk (Ow_lower (B' := w.heap.size) ho8 (below_size (by repeat (first | (with_reducible first | exact HB.out | apply below_alloc | apply pw_below_drewN | apply below_drew1) | exact HB.out)))); have n2_ := Aside0.mk (below_step (by repeat (first | (with_reducible first | exact HB.out | apply below_alloc | apply pw_below_drewN | apply below_drew1) | exact HB.out)) hb); clear HB; have HB := n2_; clear n2_ hb ho8) | (go_at_call 30; refine (HRC.out _ [0] _ (fun k => Q k ∧ k < w.heap.size) s (Ow_lower (by first | exact HO1.out | exact Ow_drewN HO1.out _) HBW.out) (fun k hk => ⟨fun h => by have := Kd.R_base HO1.out k hk; omega, by have := Kd.R_base HO1.out k hk; omega⟩) (fun h => HNB.out h.1) (StFirst_chg (ok := fun _ => False) HST.out (Chg.of_below (by repeat (first | (with_reducible first | exact HB.out | apply below_alloc | apply pw_below_drewN | apply below_drew1) | exact HB.out))) (fun k _ h => h) (fun h => h)) HNZ.out (by simp; omega) HSZ.out).mono ?_; rw [goFirstD_out]; rintro e w4 ⟨rfl, hst, _, hch⟩; have HS3 := Aside0.mk (StFirst_mono (Q' := fun k => Q k ∨ w.heap.size ≤ k) hst (fun k hk => by rcases hk with h | h; exact .inl h.1; exact .inr (Nat.le_trans (below_size (by repeat (first | (with_reducible first | exact HB.out | apply below_alloc | apply pw_below_drewN | apply below_drew1) | exact HB.out))) h))); have HC4 := Aside0.mk ((Chg.of_below (ok := fun k => k = bo ∨ Q k) (by repeat (first | (with_reducible first | exact HB.out | apply below_alloc | apply pw_below_drewN | apply below_drew1) | exact HB.out))).trans hch (fun j hj h => by rcases h with h | h | h; exact .inl h; exact .inr h.1; have := Kd.R_base HO1.out j h; omega)); clear hst hch HB; have HB := Aside0.mk (Below.refl w4.heap.size w4)))
      repeat (go_quiet (fail); try go_wp2)
      go_ret
      exact ⟨by first | rfl | simp, by first | exact HS3.out | exact StFirst_drewN HS3.out _, HC4.out.below (by repeat (first | (with_reducible first | exact HB.out | apply below_alloc | apply pw_below_drewN | apply below_drew1) | exact HB.out))⟩
    · have HR := Aside0.mk (show ruR false n L = [] by unfold ruR; rw [if_neg h1, if_neg h2])
      obtain rfl : L = 0 := by omega
      go_enter Try.func20, Try.ntmps20
      go_wp2_with fail
      repeat (go_quiet (fail); try go_wp2_with fail)
      go_ret
      exact ⟨by rw [HR.out]; simp [outFirst], by rw [HR.out]; exact StFirst_mono (StFirst_chg (ok := fun _ => False) HST.out (Chg.of_below (by repeat (first | (with_reducible first | exact HB.out | apply below_alloc | apply pw_below_drewN | apply below_drew1) | exact HB.out))) (fun k _ h => h) (fun h => h)) (fun k hk => .inl hk.1), Chg.of_below (by repeat (first | (with_reducible first | exact HB.out | apply below_alloc | apply pw_below_drewN | apply below_drew1) | exact HB.out))⟩
set_option maxHeartbeats 3200000 in
theorem eachCountW_calls (n L bo B : Nat) (w : World) (Q : Nat → Prop) (s : Nat) (hn : 1 ≤ n ∧ n ≤ 12) (hL : L ≤ 60) (hB : B ≤ bo) (hnb : ¬ Q bo) (hst : StCount bo B w Q s) (hsz : sizeCount s + 1 * L ^ (n - 2) ≤ 4000000000000000000) (hx : sizeCount s + 1 ≤ 4000000000000000000) :
    Calls Try.prog 20 #[.int .i64 (n : Int), .int .i64 (L : Int), .func (.func 23) #[] #[], .func (.func 24) #[] #[.pointer (some ⟨bo, 0, none⟩)]] w fun e w' => e = .returned (.bool (outCount s (ruR true n L)).2) ∧ StCount bo B w' (fun k => Q k ∨ w.heap.size ≤ k) (outCount s (ruR true n L)).1 ∧ Chg (fun k => k = bo ∨ Q k) w w' := by
  have hbo : bo < w.heap.size := StCount_lt hst
  have HST := Aside0.mk hst
  have HNB := Aside0.mk hnb
  have HSZ := Aside0.mk hsz
  have HX := Aside0.mk hx
  have HBW := Aside0.mk (show B ≤ w.heap.size by omega)
  clear hst hnb hsz hx
  have HB := Aside0.mk (Below.refl w.heap.size w)
  by_cases h1 : n = 1
  · subst h1
    by_cases h2 : L = 0
    · subst h2
      have HR := Aside0.mk (show ruR true 1 0 = [[0]] from rfl)
      go_enter Try.func20, Try.ntmps20
      go_wp2_with (first | ((with_reducible refine gate_dst (N := 15) rfl ?_); refine wpList_step fun Kk_ hKk_ => ?_; refine Kd.R_lit_step (Kd.int .i64) _ 3 ?hg (N := 15) ?hd (xs := ([(0 : Int)] : List Int)) (inner := [.int .i64 ((0 : Int))]) (ok := fun _ => True) (okp := fun _ => True) ?hr ?hp (fun _ hk => hk) trivial (Below.refl _ _) (Nat.le_refl _) (by simp) ?_; (case hd => rfl); (case hg => first | rfl | (go_simp; done) | decide); (case hr => first | (go_simp; done) | (go_simp; rfl)); (case hp => exact (Reps.one (show Kd.M (Kd.int .i64) _ _ _ ((0 : Int)) [.int .i64 ((0 : Int))] from rfl) (Reps.none _ _))); intro v1 w1 ho8 hb hg_ hnew_; clear hg_ hnew_; apply hKk_; clear hKk_ Kk_; have HO1 := Aside0.mk (Ow_lower (B' := w.heap.size) ho8 (below_size (by repeat (first | (with_reducible first | exact HB.out | apply below_alloc | apply pw_below_drewN | apply below_drew1) | exact HB.out)))); have n2_ := Aside0.mk (below_step (by repeat (first | (with_reducible first | exact HB.out | apply below_alloc | apply pw_below_drewN | apply below_drew1) | exact HB.out)) hb); clear HB; have HB := n2_; clear n2_ hb ho8) | (go_at_call 24; refine (callCountW bo B _ [0] _ (fun k => Q k ∧ k < w.heap.size) s (Ow_lower (by first | exact HO1.out | exact Ow_drewN HO1.out _) HBW.out) (fun k hk => ⟨fun h => by have := Kd.R_base HO1.out k hk; omega, by have := Kd.R_base HO1.out k hk; omega⟩) (fun h => HNB.out h.1) (StCount_chg (ok := fun _ => False) HST.out (Chg.of_below (by repeat (first | (with_reducible first | exact HB.out | apply below_alloc | apply pw_below_drewN | apply below_drew1) | exact HB.out))) (fun k _ h => h) (fun h => h)) hB Ruler_zero HX.out).mono ?_; rw [if_pos (qq_zero true)]; rintro e w4 ⟨rfl, hst, hch⟩; have HS3 := Aside0.mk (StCount_mono (Q' := fun k => Q k ∨ w.heap.size ≤ k) hst (fun k hk => by rcases hk with h | h; exact .inl h.1; exact .inr (Nat.le_trans (below_size (by repeat (first | (with_reducible first | exact HB.out | apply below_alloc | apply pw_below_drewN | apply below_drew1) | exact HB.out))) h))); have HC4 := Aside0.mk ((Chg.of_below (ok := fun k => k = bo ∨ Q k) (by repeat (first | (with_reducible first | exact HB.out | apply below_alloc | apply pw_below_drewN | apply below_drew1) | exact HB.out))).trans hch (fun j hj h => by rcases h with h | h; exact .inl h; exact .inr h.1)); clear hst hch HB; have HB := Aside0.mk (Below.refl w4.heap.size w4)))
      repeat (go_quiet (fail); try go_wp2)
      go_ret
      exact ⟨by rw [HR.out]; rfl, by rw [HR.out]; first | exact HS3.out | exact StCount_drewN HS3.out _, HC4.out.below (by repeat (first | (with_reducible first | exact HB.out | apply below_alloc | apply pw_below_drewN | apply below_drew1) | exact HB.out))⟩
    · have HR := Aside0.mk (show ruR true 1 L = [] by unfold ruR; rw [if_pos rfl, if_neg h2])
      have h3 : ((L : Int) == 0) = false := beq_eq_false_iff_ne.mpr (by omega)
      go_enter Try.func20, Try.ntmps20
      go_wp2_with fail
      repeat (go_quiet (fail); try go_wp2_with fail)
      go_ret
      exact ⟨by rw [HR.out]; simp [outCount], by rw [HR.out]; exact StCount_mono (StCount_chg (ok := fun _ => False) HST.out (Chg.of_below (by repeat (first | (with_reducible first | exact HB.out | apply below_alloc | apply pw_below_drewN | apply below_drew1) | exact HB.out))) (fun k _ h => h) (fun h => h)) (fun k hk => .inl hk.1), Chg.of_below (by repeat (first | (with_reducible first | exact HB.out | apply below_alloc | apply pw_below_drewN | apply below_drew1) | exact HB.out))⟩
  · have h3 : ((n : Int) == 1) = false := beq_eq_false_iff_ne.mpr (by omega)
    by_cases h2 : 0 < L
    · have hR : ruR true n L = (ruS true L).lv (n - 2) [0] := by unfold ruR; rw [if_neg h1, if_pos h2]
      rw [hR]
      have HRC := Aside0.mk (ruCountW_calls L n (n - 2) bo B hL hn.2 hB)
      have HNZ := Aside0.mk (Nod_zero h2)
      clear hR
      go_enter Try.func20, Try.ntmps20
      go_wp2_with (first | ((with_reducible refine gate_dst (N := 21) rfl ?_); refine wpList_step fun Kk_ hKk_ => ?_; refine Kd.R_lit_step (Kd.int .i64) _ 3 ?hg (N := 21) ?hd (xs := ([(0 : Int)] : List Int)) (inner := [.int .i64 ((0 : Int))]) (ok := fun _ => True) (okp := fun _ => True) ?hr ?hp (fun _ hk => hk) trivial (Below.refl _ _) (Nat.le_refl _) (by simp) ?_; (case hd => rfl); (case hg => first | rfl | (go_simp; done) | decide); (case hr => first | (go_simp; done) | (go_simp; rfl)); (case hp => exact (Reps.one (show Kd.M (Kd.int .i64) _ _ _ ((0 : Int)) [.int .i64 ((0 : Int))] from rfl) (Reps.none _ _))); intro v1 w1 ho8 hb hg_ hnew_; clear hg_ hnew_; apply hKk_; clear hKk_ Kk_; have HO1 := Aside0.mk (Ow_lower (B' := w.heap.size) ho8 (below_size (by repeat (first | (with_reducible first | exact HB.out | apply below_alloc | apply pw_below_drewN | apply below_drew1) | exact HB.out)))); have n2_ := Aside0.mk (below_step (by repeat (first | (with_reducible first | exact HB.out | apply below_alloc | apply pw_below_drewN | apply below_drew1) | exact HB.out)) hb); clear HB; have HB := n2_; clear n2_ hb ho8) | (go_at_call 30; refine (HRC.out _ [0] _ (fun k => Q k ∧ k < w.heap.size) s (Ow_lower (by first | exact HO1.out | exact Ow_drewN HO1.out _) HBW.out) (fun k hk => ⟨fun h => by have := Kd.R_base HO1.out k hk; omega, by have := Kd.R_base HO1.out k hk; omega⟩) (fun h => HNB.out h.1) (StCount_chg (ok := fun _ => False) HST.out (Chg.of_below (by repeat (first | (with_reducible first | exact HB.out | apply below_alloc | apply pw_below_drewN | apply below_drew1) | exact HB.out))) (fun k _ h => h) (fun h => h)) HNZ.out (by simp; omega) HSZ.out).mono ?_; rw [goCountW_out]; rintro e w4 ⟨rfl, hst, _, hch⟩; have HS3 := Aside0.mk (StCount_mono (Q' := fun k => Q k ∨ w.heap.size ≤ k) hst (fun k hk => by rcases hk with h | h; exact .inl h.1; exact .inr (Nat.le_trans (below_size (by repeat (first | (with_reducible first | exact HB.out | apply below_alloc | apply pw_below_drewN | apply below_drew1) | exact HB.out))) h))); have HC4 := Aside0.mk ((Chg.of_below (ok := fun k => k = bo ∨ Q k) (by repeat (first | (with_reducible first | exact HB.out | apply below_alloc | apply pw_below_drewN | apply below_drew1) | exact HB.out))).trans hch (fun j hj h => by rcases h with h | h | h; exact .inl h; exact .inr h.1; have := Kd.R_base HO1.out j h; omega)); clear hst hch HB; have HB := Aside0.mk (Below.refl w4.heap.size w4)))
      repeat (go_quiet (fail); try go_wp2)
      go_ret
      exact ⟨by first | rfl | simp, by first | exact HS3.out | exact StCount_drewN HS3.out _, HC4.out.below (by repeat (first | (with_reducible first | exact HB.out | apply below_alloc | apply pw_below_drewN | apply below_drew1) | exact HB.out))⟩
    · have HR := Aside0.mk (show ruR true n L = [] by unfold ruR; rw [if_neg h1, if_neg h2])
      obtain rfl : L = 0 := by omega
      go_enter Try.func20, Try.ntmps20
      go_wp2_with fail
      repeat (go_quiet (fail); try go_wp2_with fail)
      go_ret
      exact ⟨by rw [HR.out]; simp [outCount], by rw [HR.out]; exact StCount_mono (StCount_chg (ok := fun _ => False) HST.out (Chg.of_below (by repeat (first | (with_reducible first | exact HB.out | apply below_alloc | apply pw_below_drewN | apply below_drew1) | exact HB.out))) (fun k _ h => h) (fun h => h)) (fun k hk => .inl hk.1), Chg.of_below (by repeat (first | (with_reducible first | exact HB.out | apply below_alloc | apply pw_below_drewN | apply below_drew1) | exact HB.out))⟩
set_option maxHeartbeats 3200000 in
theorem eachFirstW_calls (n L bo B : Nat) (w : World) (Q : Nat → Prop) (s : List Int) (hn : 1 ≤ n ∧ n ≤ 12) (hL : L ≤ 60) (hB : B ≤ bo) (hnb : ¬ Q bo) (hst : StFirst bo B w Q s) (hsz : sizeFirst s + 0 * L ^ (n - 2) ≤ 4000000000000000000) (hx : sizeFirst s + 1 ≤ 4000000000000000000) :
    Calls Try.prog 20 #[.int .i64 (n : Int), .int .i64 (L : Int), .func (.func 23) #[] #[], .func (.func 28) #[] #[.pointer (some ⟨bo, 0, none⟩)]] w fun e w' => e = .returned (.bool (outFirst s (ruR true n L)).2) ∧ StFirst bo B w' (fun k => Q k ∨ w.heap.size ≤ k) (outFirst s (ruR true n L)).1 ∧ Chg (fun k => k = bo ∨ Q k) w w' := by
  have hbo : bo < w.heap.size := StFirst_lt hst
  have HST := Aside0.mk hst
  have HNB := Aside0.mk hnb
  have HSZ := Aside0.mk hsz
  have HX := Aside0.mk hx
  have HBW := Aside0.mk (show B ≤ w.heap.size by omega)
  clear hst hnb hsz hx
  have HB := Aside0.mk (Below.refl w.heap.size w)
  by_cases h1 : n = 1
  · subst h1
    by_cases h2 : L = 0
    · subst h2
      have HR := Aside0.mk (show ruR true 1 0 = [[0]] from rfl)
      go_enter Try.func20, Try.ntmps20
      go_wp2_with (first | ((with_reducible refine gate_dst (N := 15) rfl ?_); refine wpList_step fun Kk_ hKk_ => ?_; refine Kd.R_lit_step (Kd.int .i64) _ 3 ?hg (N := 15) ?hd (xs := ([(0 : Int)] : List Int)) (inner := [.int .i64 ((0 : Int))]) (ok := fun _ => True) (okp := fun _ => True) ?hr ?hp (fun _ hk => hk) trivial (Below.refl _ _) (Nat.le_refl _) (by simp) ?_; (case hd => rfl); (case hg => first | rfl | (go_simp; done) | decide); (case hr => first | (go_simp; done) | (go_simp; rfl)); (case hp => exact (Reps.one (show Kd.M (Kd.int .i64) _ _ _ ((0 : Int)) [.int .i64 ((0 : Int))] from rfl) (Reps.none _ _))); intro v1 w1 ho8 hb hg_ hnew_; clear hg_ hnew_; apply hKk_; clear hKk_ Kk_; have HO1 := Aside0.mk (Ow_lower (B' := w.heap.size) ho8 (below_size (by repeat (first | (with_reducible first | exact HB.out | apply below_alloc | apply pw_below_drewN | apply below_drew1) | exact HB.out)))); have n2_ := Aside0.mk (below_step (by repeat (first | (with_reducible first | exact HB.out | apply below_alloc | apply pw_below_drewN | apply below_drew1) | exact HB.out)) hb); clear HB; have HB := n2_; clear n2_ hb ho8) | (go_at_call 28; refine (callFirstW bo B _ [0] _ (fun k => Q k ∧ k < w.heap.size) s (Ow_lower (by first | exact HO1.out | exact Ow_drewN HO1.out _) HBW.out) (fun k hk => ⟨fun h => by have := Kd.R_base HO1.out k hk; omega, by have := Kd.R_base HO1.out k hk; omega⟩) (fun h => HNB.out h.1) (StFirst_chg (ok := fun _ => False) HST.out (Chg.of_below (by repeat (first | (with_reducible first | exact HB.out | apply below_alloc | apply pw_below_drewN | apply below_drew1) | exact HB.out))) (fun k _ h => h) (fun h => h)) hB Ruler_zero ).mono ?_; rw [if_pos (qq_zero true)]; rintro e w4 ⟨rfl, hst, hch⟩; have HS3 := Aside0.mk (StFirst_mono (Q' := fun k => Q k ∨ w.heap.size ≤ k) hst (fun k hk => by rcases hk with h | h; exact .inl h.1; exact .inr (Nat.le_trans (below_size (by repeat (first | (with_reducible first | exact HB.out | apply below_alloc | apply pw_below_drewN | apply below_drew1) | exact HB.out))) h))); have HC4 := Aside0.mk ((Chg.of_below (ok := fun k => k = bo ∨ Q k) (by repeat (first | (with_reducible first | exact HB.out | apply below_alloc | apply pw_below_drewN | apply below_drew1) | exact HB.out))).trans hch (fun j hj h => by rcases h with h | h; exact .inl h; exact .inr h.1)); clear hst hch HB; have HB := Aside0.mk (Below.refl w4.heap.size w4)))
      repeat (go_quiet (fail); try go_wp2)
      go_ret
      exact ⟨by rw [HR.out]; rfl, by rw [HR.out]; first | exact HS3.out | exact StFirst_drewN HS3.out _, HC4.out.below (by repeat (first | (with_reducible first | exact HB.out | apply below_alloc | apply pw_below_drewN | apply below_drew1) | exact HB.out))⟩
    · have HR := Aside0.mk (show ruR true 1 L = [] by unfold ruR; rw [if_pos rfl, if_neg h2])
      have h3 : ((L : Int) == 0) = false := beq_eq_false_iff_ne.mpr (by omega)
      go_enter Try.func20, Try.ntmps20
      go_wp2_with fail
      repeat (go_quiet (fail); try go_wp2_with fail)
      go_ret
      exact ⟨by rw [HR.out]; simp [outFirst], by rw [HR.out]; exact StFirst_mono (StFirst_chg (ok := fun _ => False) HST.out (Chg.of_below (by repeat (first | (with_reducible first | exact HB.out | apply below_alloc | apply pw_below_drewN | apply below_drew1) | exact HB.out))) (fun k _ h => h) (fun h => h)) (fun k hk => .inl hk.1), Chg.of_below (by repeat (first | (with_reducible first | exact HB.out | apply below_alloc | apply pw_below_drewN | apply below_drew1) | exact HB.out))⟩
  · have h3 : ((n : Int) == 1) = false := beq_eq_false_iff_ne.mpr (by omega)
    by_cases h2 : 0 < L
    · have hR : ruR true n L = (ruS true L).lv (n - 2) [0] := by unfold ruR; rw [if_neg h1, if_pos h2]
      rw [hR]
      have HRC := Aside0.mk (ruFirstW_calls L n (n - 2) bo B hL hn.2 hB)
      have HNZ := Aside0.mk (Nod_zero h2)
      clear hR
      go_enter Try.func20, Try.ntmps20
      go_wp2_with (first | ((with_reducible refine gate_dst (N := 21) rfl ?_); refine wpList_step fun Kk_ hKk_ => ?_; refine Kd.R_lit_step (Kd.int .i64) _ 3 ?hg (N := 21) ?hd (xs := ([(0 : Int)] : List Int)) (inner := [.int .i64 ((0 : Int))]) (ok := fun _ => True) (okp := fun _ => True) ?hr ?hp (fun _ hk => hk) trivial (Below.refl _ _) (Nat.le_refl _) (by simp) ?_; (case hd => rfl); (case hg => first | rfl | (go_simp; done) | decide); (case hr => first | (go_simp; done) | (go_simp; rfl)); (case hp => exact (Reps.one (show Kd.M (Kd.int .i64) _ _ _ ((0 : Int)) [.int .i64 ((0 : Int))] from rfl) (Reps.none _ _))); intro v1 w1 ho8 hb hg_ hnew_; clear hg_ hnew_; apply hKk_; clear hKk_ Kk_; have HO1 := Aside0.mk (Ow_lower (B' := w.heap.size) ho8 (below_size (by repeat (first | (with_reducible first | exact HB.out | apply below_alloc | apply pw_below_drewN | apply below_drew1) | exact HB.out)))); have n2_ := Aside0.mk (below_step (by repeat (first | (with_reducible first | exact HB.out | apply below_alloc | apply pw_below_drewN | apply below_drew1) | exact HB.out)) hb); clear HB; have HB := n2_; clear n2_ hb ho8) | (go_at_call 30; refine (HRC.out _ [0] _ (fun k => Q k ∧ k < w.heap.size) s (Ow_lower (by first | exact HO1.out | exact Ow_drewN HO1.out _) HBW.out) (fun k hk => ⟨fun h => by have := Kd.R_base HO1.out k hk; omega, by have := Kd.R_base HO1.out k hk; omega⟩) (fun h => HNB.out h.1) (StFirst_chg (ok := fun _ => False) HST.out (Chg.of_below (by repeat (first | (with_reducible first | exact HB.out | apply below_alloc | apply pw_below_drewN | apply below_drew1) | exact HB.out))) (fun k _ h => h) (fun h => h)) HNZ.out (by simp; omega) HSZ.out).mono ?_; rw [goFirstW_out]; rintro e w4 ⟨rfl, hst, _, hch⟩; have HS3 := Aside0.mk (StFirst_mono (Q' := fun k => Q k ∨ w.heap.size ≤ k) hst (fun k hk => by rcases hk with h | h; exact .inl h.1; exact .inr (Nat.le_trans (below_size (by repeat (first | (with_reducible first | exact HB.out | apply below_alloc | apply pw_below_drewN | apply below_drew1) | exact HB.out))) h))); have HC4 := Aside0.mk ((Chg.of_below (ok := fun k => k = bo ∨ Q k) (by repeat (first | (with_reducible first | exact HB.out | apply below_alloc | apply pw_below_drewN | apply below_drew1) | exact HB.out))).trans hch (fun j hj h => by rcases h with h | h | h; exact .inl h; exact .inr h.1; have := Kd.R_base HO1.out j h; omega)); clear hst hch HB; have HB := Aside0.mk (Below.refl w4.heap.size w4)))
      repeat (go_quiet (fail); try go_wp2)
      go_ret
      exact ⟨by first | rfl | simp, by first | exact HS3.out | exact StFirst_drewN HS3.out _, HC4.out.below (by repeat (first | (with_reducible first | exact HB.out | apply below_alloc | apply pw_below_drewN | apply below_drew1) | exact HB.out))⟩
    · have HR := Aside0.mk (show ruR true n L = [] by unfold ruR; rw [if_neg h1, if_neg h2])
      obtain rfl : L = 0 := by omega
      go_enter Try.func20, Try.ntmps20
      go_wp2_with fail
      repeat (go_quiet (fail); try go_wp2_with fail)
      go_ret
      exact ⟨by rw [HR.out]; simp [outFirst], by rw [HR.out]; exact StFirst_mono (StFirst_chg (ok := fun _ => False) HST.out (Chg.of_below (by repeat (first | (with_reducible first | exact HB.out | apply below_alloc | apply pw_below_drewN | apply below_drew1) | exact HB.out))) (fun k _ h => h) (fun h => h)) (fun k hk => .inl hk.1), Chg.of_below (by repeat (first | (with_reducible first | exact HB.out | apply below_alloc | apply pw_below_drewN | apply below_drew1) | exact HB.out))⟩
end Go.Proofs.Ytmmnohdokemchaa.Own.G
