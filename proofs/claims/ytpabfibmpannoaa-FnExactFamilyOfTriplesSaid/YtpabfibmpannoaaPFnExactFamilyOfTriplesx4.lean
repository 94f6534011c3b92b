-- PRINTED BY print.sh 35421559b90ae4d0a3588c463048766b98c2df88dd9212a6774a882060cdf62d: not written by this session
import Derived.Test.YtpabfibmpannoaaPFnExactFamilyOfTriplesx0
import Derived.Test.YtpabfibmpannoaaPFnExactFamilyOfTriplesx3
namespace Go.Proofs.Ytpabfibmpannoaa.PFnExactFamilyOfTriples
open Go.RowKit Go.Proofs.YtpabfibmpannoaaW.PrintWords Go.Proofs.YtpabfibmpannoaaW.PrintLast Go.Proofs.YtpabfibmpannoaaW.PrintMore
attribute [local go_sem] max2_int min2_int max_two min_two max_three min_three max_four min_four   -- for this text's walks alone
set_option linter.unusedVariables false
set_option linter.unusedSimpArgs false

/-! ### impl_areDifferences: function 48 -/
mutual
def impl_areDifferences.j0 : Nat → Int → List (List Int) → Int → Bool → Option (Bool)
  | 0, _, _, _, _ => none
  | k + 1, x0, x1, x5, x29 => if x29 = true then (some false) else (if 0 ≤ (wrap64 ((wrap64 (3 * x5)) + 1)) then (if (wrap64 ((wrap64 (3 * x5)) + 1) : Int).toNat ≤ 281474976710656 then (impl_areDifferences.l0 k x0 x5 (List.replicate (wrap64 ((wrap64 (3 * x5)) + 1) : Int).toNat false) x1 (x1.length : Int) 0) else (none)) else (none))
def impl_areDifferences.l0 : Nat → Int → Int → List Bool → List (List Int) → Int → Int → Option (Bool)
  | 0, _, _, _, _, _, _ => none
  | k + 1, x0, x5, x7, x34, x35, x36 => if x36 < x35 then (if 0 ≤ x36 then (if x36 < (x34.length : Int) then (if ((rd_L1 x34 x36).length : Int) = 3 then (if 0 < ((rd_L1 x34 x36).length : Int) then (if (rd (rd_L1 x34 x36) 0) < 1 then (impl_areDifferences.j2 k x0 x5 x7 (rd_L1 x34 x36) x34 x35 x36 true) else (if 1 < ((rd_L1 x34 x36).length : Int) then (if (rd (rd_L1 x34 x36) 0) > (rd (rd_L1 x34 x36) 1) then (impl_areDifferences.j2 k x0 x5 x7 (rd_L1 x34 x36) x34 x35 x36 true) else (if 2 < ((rd_L1 x34 x36).length : Int) then (if (rd (rd_L1 x34 x36) 1) > (rd (rd_L1 x34 x36) 2) then (impl_areDifferences.j2 k x0 x5 x7 (rd_L1 x34 x36) x34 x35 x36 true) else (if (rd (rd_L1 x34 x36) 2) > (wrap64 (3 * x5)) then (impl_areDifferences.j2 k x0 x5 x7 (rd_L1 x34 x36) x34 x35 x36 true) else (if (wrap64 ((rd (rd_L1 x34 x36) 0) + (rd (rd_L1 x34 x36) 1))) = (rd (rd_L1 x34 x36) 2) then (impl_areDifferences.j2 k x0 x5 x7 (rd_L1 x34 x36) x34 x35 x36 false) else (impl_areDifferences.j2 k x0 x5 x7 (rd_L1 x34 x36) x34 x35 x36 ((wrap64 ((wrap64 ((rd (rd_L1 x34 x36) 0) + (rd (rd_L1 x34 x36) 1))) + (rd (rd_L1 x34 x36) 2))) != x0))))) else (none))) else (none))) else (none)) else (impl_areDifferences.j2 k x0 x5 x7 (rd_L1 x34 x36) x34 x35 x36 true)) else (none)) else (none)) else (some true)
def impl_areDifferences.j2 : Nat → Int → Int → List Bool → List Int → List (List Int) → Int → Int → Bool → Option (Bool)
  | 0, _, _, _, _, _, _, _, _ => none
  | k + 1, x0, x5, x7, x9, x34, x35, x36, x102 => if x102 = true then (some false) else (impl_areDifferences.l1 k x0 x5 x7 x34 x35 x36 x9 (x9.length : Int) 0)
def impl_areDifferences.l1 : Nat → Int → Int → List Bool → List (List Int) → Int → Int → List Int → Int → Int → Option (Bool)
  | 0, _, _, _, _, _, _, _, _, _ => none
  | k + 1, x0, x5, x7, x34, x35, x36, x103, x104, x105 => if x105 < x104 then (if 0 ≤ x105 then (if x105 < (x103.length : Int) then (if 0 ≤ (rd x103 x105) then (if (rd x103 x105) < (x7.length : Int) then (if rdOf false x7 (rd x103 x105) = true then (some false) else (impl_areDifferences.l1 k x0 x5 (x7.set ((rd x103 x105) : Int).toNat true) x34 x35 x36 x103 x104 (wrap64 (x105 + 1)))) else (none)) else (none)) else (none)) else (none)) else (impl_areDifferences.l0 k x0 x5 x7 x34 x35 (wrap64 (x36 + 1)))
end
def impl_areDifferences.f (k : Nat) (a0 : Int) (l1 : List (List Int)) : Option (Bool) := (impl_isDifference.f a0).bind fun bt178 => (if bt178.2 = true then (if (l1.length : Int) = bt178.1 then ((impl_inOrder.f k l1).bind fun t180 => (impl_areDifferences.j0 k a0 l1 bt178.1 (!t180))) else (impl_areDifferences.j0 k a0 l1 bt178.1 true)) else (impl_areDifferences.j0 k a0 l1 bt178.1 true))
theorem impl_areDifferences.mono_l : ∀ k, (∀ y0 y1 y2 y3, LeO (impl_areDifferences.j0 k y0 y1 y2 y3) (impl_areDifferences.j0 (k + 1) y0 y1 y2 y3)) ∧ (∀ y0 y1 y2 y3 y4 y5, LeO (impl_areDifferences.l0 k y0 y1 y2 y3 y4 y5) (impl_areDifferences.l0 (k + 1) y0 y1 y2 y3 y4 y5)) ∧ (∀ y0 y1 y2 y3 y4 y5 y6 y7, LeO (impl_areDifferences.j2 k y0 y1 y2 y3 y4 y5 y6 y7) (impl_areDifferences.j2 (k + 1) y0 y1 y2 y3 y4 y5 y6 y7)) ∧ (∀ y0 y1 y2 y3 y4 y5 y6 y7 y8, LeO (impl_areDifferences.l1 k y0 y1 y2 y3 y4 y5 y6 y7 y8) (impl_areDifferences.l1 (k + 1) y0 y1 y2 y3 y4 y5 y6 y7 y8))
  | 0 => ⟨fun _ _ _ _ r h => by simp [impl_areDifferences.j0] at h, fun _ _ _ _ _ _ r h => by simp [impl_areDifferences.l0] at h, fun _ _ _ _ _ _ _ _ r h => by simp [impl_areDifferences.j2] at h, fun _ _ _ _ _ _ _ _ _ r h => by simp [impl_areDifferences.l1] at h⟩
  | k + 1 => by
    obtain ⟨ih0, ih1, ih2, ih3⟩ := impl_areDifferences.mono_l k
    refine ⟨?_, ?_, ?_, ?_⟩
    · intro y0 y1 y2 y3
      unfold impl_areDifferences.j0
      repeat' first
      | (with_reducible exact ih0 _ _ _ _)
      | (with_reducible exact ih1 _ _ _ _ _ _)
      | (with_reducible exact ih2 _ _ _ _ _ _ _ _)
      | (with_reducible exact ih3 _ _ _ _ _ _ _ _ _)
      | (with_reducible exact impl_inOrder.mono _ _)
      | (with_reducible exact LeO.refl _)
      | (with_reducible exact LeO.none _)
      | (with_reducible refine LeO.ite ?_ ?_)
      | (with_reducible refine LeO.bind ?_ (fun _ => ?_))
      | exact ih0 _ _ _ _
      | exact ih1 _ _ _ _ _ _
      | exact ih2 _ _ _ _ _ _ _ _
      | exact ih3 _ _ _ _ _ _ _ _ _
      | exact impl_inOrder.mono _ _
      | exact LeO.none _
      | refine LeO.ite ?_ ?_
      | refine LeO.bind ?_ (fun _ => ?_)
    · intro y0 y1 y2 y3 y4 y5
      unfold impl_areDifferences.l0
      repeat' first
      | (with_reducible exact ih0 _ _ _ _)
      | (with_reducible exact ih1 _ _ _ _ _ _)
      | (with_reducible exact ih2 _ _ _ _ _ _ _ _)
      | (with_reducible exact ih3 _ _ _ _ _ _ _ _ _)
      | (with_reducible exact impl_inOrder.mono _ _)
      | (with_reducible exact LeO.refl _)
      | (with_reducible exact LeO.none _)
      | (with_reducible refine LeO.ite ?_ ?_)
      | (with_reducible refine LeO.bind ?_ (fun _ => ?_))
      | exact ih0 _ _ _ _
      | exact ih1 _ _ _ _ _ _
      | exact ih2 _ _ _ _ _ _ _ _
      | exact ih3 _ _ _ _ _ _ _ _ _
      | exact impl_inOrder.mono _ _
      | exact LeO.none _
      | refine LeO.ite ?_ ?_
      | refine LeO.bind ?_ (fun _ => ?_)
    · intro y0 y1 y2 y3 y4 y5 y6 y7
      unfold impl_areDifferences.j2
      repeat' first
      | (with_reducible exact ih0 _ _ _ _)
      | (with_reducible exact ih1 _ _ _ _ _ _)
      | (with_reducible exact ih2 _ _ _ _ _ _ _ _)
      | (with_reducible exact ih3 _ _ _ _ _ _ _ _ _)
      | (with_reducible exact impl_inOrder.mono _ _)
      | (with_reducible exact LeO.refl _)
      | (with_reducible exact LeO.none _)
      | (with_reducible refine LeO.ite ?_ ?_)
      | (with_reducible refine LeO.bind ?_ (fun _ => ?_))
      | exact ih0 _ _ _ _
      | exact ih1 _ _ _ _ _ _
      | exact ih2 _ _ _ _ _ _ _ _
      | exact ih3 _ _ _ _ _ _ _ _ _
      | exact impl_inOrder.mono _ _
      | exact LeO.none _
      | refine LeO.ite ?_ ?_
      | refine LeO.bind ?_ (fun _ => ?_)
    · intro y0 y1 y2 y3 y4 y5 y6 y7 y8
      unfold impl_areDifferences.l1
      repeat' first
      | (with_reducible exact ih0 _ _ _ _)
      | (with_reducible exact ih1 _ _ _ _ _ _)
      | (with_reducible exact ih2 _ _ _ _ _ _ _ _)
      | (with_reducible exact ih3 _ _ _ _ _ _ _ _ _)
      | (with_reducible exact impl_inOrder.mono _ _)
      | (with_reducible exact LeO.refl _)
      | (with_reducible exact LeO.none _)
      | (with_reducible refine LeO.ite ?_ ?_)
      | (with_reducible refine LeO.bind ?_ (fun _ => ?_))
      | exact ih0 _ _ _ _
      | exact ih1 _ _ _ _ _ _
      | exact ih2 _ _ _ _ _ _ _ _
      | exact ih3 _ _ _ _ _ _ _ _ _
      | exact impl_inOrder.mono _ _
      | exact LeO.none _
      | refine LeO.ite ?_ ?_
      | refine LeO.bind ?_ (fun _ => ?_)
theorem impl_areDifferences.mono : ∀ a0 a1 k, LeO (impl_areDifferences.f k a0 a1) (impl_areDifferences.f (k + 1) a0 a1) := by
  intro a0 a1 k
  obtain ⟨ih0, ih1, ih2, ih3⟩ := impl_areDifferences.mono_l k
  unfold impl_areDifferences.f
  repeat' first
      | (with_reducible exact ih0 _ _ _ _)
      | (with_reducible exact ih1 _ _ _ _ _ _)
      | (with_reducible exact ih2 _ _ _ _ _ _ _ _)
      | (with_reducible exact ih3 _ _ _ _ _ _ _ _ _)
      | (with_reducible exact impl_inOrder.mono _ _)
      | (with_reducible exact LeO.refl _)
      | (with_reducible exact LeO.none _)
      | (with_reducible refine LeO.ite ?_ ?_)
      | (with_reducible refine LeO.bind ?_ (fun _ => ?_))
      | exact ih0 _ _ _ _
      | exact ih1 _ _ _ _ _ _
      | exact ih2 _ _ _ _ _ _ _ _
      | exact ih3 _ _ _ _ _ _ _ _ _
      | exact impl_inOrder.mono _ _
      | exact LeO.none _
      | refine LeO.ite ?_ ?_
      | refine LeO.bind ?_ (fun _ => ?_)
set_option maxHeartbeats 8000000 in
set_option maxRecDepth 100000 in
theorem impl_areDifferences.calls (k : Nat) (a0 : Int) (A1 : Option Addr) (c1 : Nat) (l1 : List (List Int)) (r : Bool) (w : World) (hr1 : Kd.C (Kd.slice 3 (Kd.int .i64)) w A1 l1.length l1) (hc1 : l1.length ≤ c1) (h : impl_areDifferences.f k a0 l1 = some r) :
    Calls Try.prog 48 #[.int .i64 a0, .slice A1 l1.length c1] w fun e w' => e = .returned (.bool r) ∧ Below w.heap.size w w' := by
  have HR1 := Aside0.mk hr1
  have HC1 := Aside0.mk hc1
  clear hr1 hc1
  have HB := Aside0.mk (Below.refl w.heap.size w)
  have H : ((impl_isDifference.f a0).bind fun bt178 => (if bt178.2 = true then (if (l1.length : Int) = bt178.1 then ((impl_inOrder.f k l1).bind fun t180 => (impl_areDifferences.j0 k a0 l1 bt178.1 (!t180))) else (impl_areDifferences.j0 k a0 l1 bt178.1 true)) else (impl_areDifferences.j0 k a0 l1 bt178.1 true))) = some r := h
  clear h
  replace H := Option.bind_eq_some_iff.mp H
  obtain ⟨⟨t178, t179⟩, A30, H⟩ := H
  replace H : (if t179 = true then (if (l1.length : Int) = t178 then ((impl_inOrder.f k l1).bind fun t180 => (impl_areDifferences.j0 k a0 l1 t178 (!t180))) else (impl_areDifferences.j0 k a0 l1 t178 true)) else (impl_areDifferences.j0 k a0 l1 t178 true)) = some r := H
  have A3 := Aside0.mk A30
  clear A30
  have HC4 := Aside0.mk H
  clear H
  go_enter Try.func48, Try.ntmps48
  go_upto_region 2 with (first | (go_at_call 76; (with_reducible refine (impl_isDifference.calls a0 t178 t179 _ A3.out).mono ?_); rintro e w' ⟨rfl, ⟨nd, rfl⟩⟩; (try first | exact ⟨rfl, _, World.drewN_drewN _ _ _⟩ | exact ⟨rfl, _, Eq.trans (World.drewN_drewN _ _ _) (congrArg (World.drewN _) (Nat.add_assoc _ _ _))⟩)))
  repeat (go_quiet (first | (go_at_call 76; (with_reducible refine (impl_isDifference.calls a0 t178 t179 _ A3.out).mono ?_); rintro e w' ⟨rfl, ⟨nd, rfl⟩⟩; (try first | exact ⟨rfl, _, World.drewN_drewN _ _ _⟩ | exact ⟨rfl, _, Eq.trans (World.drewN_drewN _ _ _) (congrArg (World.drewN _) (Nat.add_assoc _ _ _))⟩))); go_upto_region 2 with (first | (go_at_call 76; (with_reducible refine (impl_isDifference.calls a0 t178 t179 _ A3.out).mono ?_); rintro e w' ⟨rfl, ⟨nd, rfl⟩⟩; (try first | exact ⟨rfl, _, World.drewN_drewN _ _ _⟩ | exact ⟨rfl, _, Eq.trans (World.drewN_drewN _ _ _) (congrArg (World.drewN _) (Nat.add_assoc _ _ _))⟩))))
  (try simp only [Act.put, List.setIfInBounds_toArray, List.set_cons_zero, List.set_cons_succ])
  go_cut [29] (fun v29 wc => ∃ (kq : Nat) (x29_3 : Bool), v29 = .bool x29_3 ∧ Aside0 (impl_areDifferences.j0 kq a0 l1 t178 x29_3 = some r) ∧ Aside0 (kq ≤ k) ∧ Aside0 (Below w.heap.size w wc))
  case first =>
    have H := HC4.out
    clear HC4
    by_cases c5 : t179 = true
    · subst c5
      have H1 : (if (l1.length : Int) = t178 then ((impl_inOrder.f k l1).bind fun t180 => (impl_areDifferences.j0 k a0 l1 t178 (!t180))) else (impl_areDifferences.j0 k a0 l1 t178 true)) = some r := by rw [if_pos rfl] at H; exact H
      clear H
      have H := H1
      clear H1
      by_cases c6 : (l1.length : Int) = t178
      · rw [if_pos c6] at H
        have c6b0 : ((l1.length : Int) == t178) = true := beq_iff_eq.mpr c6
        have c6b1 : ((l1.length : Int) != t178) = false := bne_eq_false_iff_eq.mpr c6
        clear c6
        (first | rw [c6b0] | (simp only [i64_w, i32_w]; rw [c6b0]) | skip)
        replace H := Option.bind_eq_some_iff.mp H
        obtain ⟨t180, A70, H⟩ := H
        replace H : (impl_areDifferences.j0 k a0 l1 t178 (!t180)) = some r := H
        have A7 := Aside0.mk A70
        clear A70
        have H' := Aside0.mk H
        clear H
        go_wp2_with (first | (go_at_call 77; (with_reducible refine (impl_inOrder.calls k _ _ l1 t180 _ ?side1 ?side2 A7.out).mono ?_); (case side1 => repeat (first | exact (Kd.C_below HR1.out HB.out) | (with_reducible refine Kd.C_alloc ?_ _) | (with_reducible refine Kd.C_drewN ?_ _) | (with_reducible refine Kd.C_drew ?_))); (case side2 => exact HC1.out); rintro e w' ⟨rfl, ⟨nd, rfl⟩⟩; (try first | exact ⟨rfl, _, World.drewN_drewN _ _ _⟩ | exact ⟨rfl, _, Eq.trans (World.drewN_drewN _ _ _) (congrArg (World.drewN _) (Nat.add_assoc _ _ _))⟩)))
        repeat (go_quiet (first | (go_at_call 77; (with_reducible refine (impl_inOrder.calls k _ _ l1 t180 _ ?side1 ?side2 A7.out).mono ?_); (case side1 => repeat (first | exact (Kd.C_below HR1.out HB.out) | (with_reducible refine Kd.C_alloc ?_ _) | (with_reducible refine Kd.C_drewN ?_ _) | (with_reducible refine Kd.C_drew ?_))); (case side2 => exact HC1.out); rintro e w' ⟨rfl, ⟨nd, rfl⟩⟩; (try first | exact ⟨rfl, _, World.drewN_drewN _ _ _⟩ | exact ⟨rfl, _, Eq.trans (World.drewN_drewN _ _ _) (congrArg (World.drewN _) (Nat.add_assoc _ _ _))⟩))); try go_wp2_with (first | (go_at_call 77; (with_reducible refine (impl_inOrder.calls k _ _ l1 t180 _ ?side1 ?side2 A7.out).mono ?_); (case side1 => repeat (first | exact (Kd.C_below HR1.out HB.out) | (with_reducible refine Kd.C_alloc ?_ _) | (with_reducible refine Kd.C_drewN ?_ _) | (with_reducible refine Kd.C_drew ?_))); (case side2 => exact HC1.out); rintro e w' ⟨rfl, ⟨nd, rfl⟩⟩; (try first | exact ⟨rfl, _, World.drewN_drewN _ _ _⟩ | exact ⟨rfl, _, Eq.trans (World.drewN_drewN _ _ _) (congrArg (World.drewN _) (Nat.add_assoc _ _ _))⟩))))
        go_meet
        case rel => exact ⟨_, (!t180), (by first | rfl | (simp; done) | (simp [*]; done)), H', ⟨by first | omega | exact Nat.le_refl _⟩, ⟨by repeat (first | (with_reducible first | exact HB.out | apply below_alloc | apply pw_below_drewN | apply below_drew1) | exact HB.out)⟩⟩
      · rw [if_neg c6] at H
        have c6b0 : ((l1.length : Int) == t178) = false := beq_eq_false_iff_ne.mpr c6
        have c6b1 : ((l1.length : Int) != t178) = true := bne_iff_ne.mpr c6
        (first | rw [c6b0] | (simp only [i64_w, i32_w]; rw [c6b0]) | skip)
        have H' := Aside0.mk H
        clear H
        go_wp2
        repeat (go_quiet (fail); try go_wp2)
        go_meet
        case rel => exact ⟨_, (true), (by first | rfl | (simp; done) | (simp [*]; done)), H', ⟨by first | omega | exact Nat.le_refl _⟩, ⟨by repeat (first | (with_reducible first | exact HB.out | apply below_alloc | apply pw_below_drewN | apply below_drew1) | exact HB.out)⟩⟩
    · replace c5 := Bool.eq_false_iff.mpr c5
      subst c5
      have H1 : (impl_areDifferences.j0 k a0 l1 t178 true) = some r := by rw [if_neg (show ¬ (false = true) by decide)] at H; exact H
      clear H
      have H := H1
      clear H1
      have H' := Aside0.mk H
      clear H
      go_wp2
      repeat (go_quiet (fail); try go_wp2)
      go_meet
      case rel => exact ⟨_, (true), (by first | rfl | (simp; done) | (simp [*]; done)), H', ⟨by first | omega | exact Nat.le_refl _⟩, ⟨by repeat (first | (with_reducible first | exact HB.out | apply below_alloc | apply pw_below_drewN | apply below_drew1) | exact HB.out)⟩⟩
  case rest =>
    clear HC4
    try clear c1
    try clear p2
    try clear c4
    try clear c5
    try clear c6
    try clear c6b0
    try clear c6b1
    obtain ⟨kq, x29_3, rfl, HA, HJ3, HB⟩ := hcut
    cases kq with
    | zero => exact absurd HA.out (by simp [impl_areDifferences.j0])
    | succ kj3 =>
      have H := HA.out
      clear HA
      simp only [impl_areDifferences.j0] at H
      by_cases c8 : x29_3 = true
      · subst c8
        have H1 : (some false) = some r := by rw [if_pos rfl] at H; exact H
        clear H
        have H := H1
        clear H1
        obtain rfl := Option.some.inj H
        go_wp2
        repeat (go_quiet (fail); try go_wp2)
        go_ret
        exact ⟨by first | rfl | (simp [errW_none, errW_some] <;> rfl) | (simp [*, errW_none, errW_some] <;> rfl), by repeat (first | (with_reducible first | exact HB.out | apply below_alloc | apply pw_below_drewN | apply below_drew1) | exact HB.out)⟩
      · replace c8 := Bool.eq_false_iff.mpr c8
        subst c8
        have H1 : (if 0 ≤ (wrap64 ((wrap64 (3 * t178)) + 1)) then (if (wrap64 ((wrap64 (3 * t178)) + 1) : Int).toNat ≤ 281474976710656 then (impl_areDifferences.l0 kj3 a0 t178 (List.replicate (wrap64 ((wrap64 (3 * t178)) + 1) : Int).toNat false) l1 (l1.length : Int) 0) else (none)) else (none)) = some r := by rw [if_neg (show ¬ (false = true) by decide)] at H; exact H
        clear H
        have H := H1
        clear H1
        obtain ⟨ji9, hji9⟩ : ∃ j_ : Int, (wrap64 ((wrap64 (3 * t178)) + 1)) = j_ := ⟨_, rfl⟩
        replace H : (if 0 ≤ (ji9) then (if (ji9 : Int).toNat ≤ 281474976710656 then (impl_areDifferences.l0 kj3 a0 t178 (List.replicate (ji9 : Int).toNat false) l1 (l1.length : Int) 0) else (none)) else (none)) = some r := by first | (rw [hji9] at H; exact H) | (simp only [hji9] at H ⊢; exact H)
        have hji9w : (IntKind.i64.wrap ((wrap64 (3 * t178)) + 1)) = ji9 := (i64_w _).trans hji9
        by_cases c10 : 0 ≤ (ji9)
        · rw [if_pos c10] at H
          have c10b0 := eq_true c10
          have c10b1 : decide (0 ≤ (ji9)) = true := decide_eq_true c10
          clear c10
          by_cases c11 : (ji9 : Int).toNat ≤ 281474976710656
          · rw [if_pos c11] at H
            have c11b0 := eq_true c11
            have c11b1 : decide ((ji9 : Int).toNat ≤ 281474976710656) = true := decide_eq_true c11
            clear c11
            obtain ⟨y181, hy181⟩ : ∃ y_ : List Bool, y_ = (List.replicate (ji9 : Int).toNat false) := ⟨_, rfl⟩
            replace H : (impl_areDifferences.l0 kj3 a0 t178 y181 l1 (l1.length : Int) 0) = some r := by first | (rw [hy181]; with_reducible exact H) | (have H2_ := (Option.bind_some _ _).symm.trans H; rw [hy181]; with_reducible exact H2_) | (have H2_ := (Option.bind_some _ _).symm.trans H; with_reducible exact H2_) | with_reducible exact H | (rw [hy181]; exact H) | exact H
            have Ny181 := Aside0.mk hy181
            clear hy181
            have H' := Aside0.mk H
            clear H
            go_wp2_with (first | ((with_reducible refine gate_dst (N := 33) rfl ?_); (try (refine gate_guard (by rfl) ?_; dsimp only)); refine Kd.R_make Kd.bool _ 4 rfl (N := 33) rfl 59 _ _ rfl ji9 rfl rfl Try.underlying59 (.bool false) 1 info4 rfl (by decide) (by omega) false (ok := fun _ => True) (okp := fun _ => True) rfl (fun _ hk => hk) trivial (of_decide_eq_true (by first | (with_reducible assumption) | assumption)) (Nat.le_trans (Nat.mul_le_mul_right _ (of_decide_eq_true (by first | (with_reducible assumption) | assumption) : ji9.toNat ≤ 281474976710656)) (by omega)) (Below.refl _ _) (Nat.le_refl _) ?_; intro v182 w12 ho13 hb hg_ hnew_; clear hg_ hnew_; (first | rw [← Ny181.out] at ho13 | (simp only [Int.reduceToNat] at ho13; rw [← Ny181.out] at ho13)); have n0_ := Aside0.mk (Kd.R_lower ho13 (below_size (by repeat (first | (with_reducible first | exact HB.out | apply below_alloc | apply pw_below_drewN | apply below_drew1) | exact HB.out)))); have n1_ := Aside0.mk (below_step (by repeat (first | (with_reducible first | exact HB.out | apply below_alloc | apply pw_below_drewN | apply below_drew1) | exact HB.out)) hb); clear HB; have HO183 := n0_; have HB := n1_; clear n0_ n1_; clear hb ho13))
            repeat (go_quiet (first | ((with_reducible refine gate_dst (N := 33) rfl ?_); (try (refine gate_guard (by rfl) ?_; dsimp only)); refine Kd.R_make Kd.bool _ 4 rfl (N := 33) rfl 59 _ _ rfl ji9 rfl rfl Try.underlying59 (.bool false) 1 info4 rfl (by decide) (by omega) false (ok := fun _ => True) (okp := fun _ => True) rfl (fun _ hk => hk) trivial (of_decide_eq_true (by first | (with_reducible assumption) | assumption)) (Nat.le_trans (Nat.mul_le_mul_right _ (of_decide_eq_true (by first | (with_reducible assumption) | assumption) : ji9.toNat ≤ 281474976710656)) (by omega)) (Below.refl _ _) (Nat.le_refl _) ?_; intro v182 w12 ho13 hb hg_ hnew_; clear hg_ hnew_; (first | rw [← Ny181.out] at ho13 | (simp only [Int.reduceToNat] at ho13; rw [← Ny181.out] at ho13)); have n0_ := Aside0.mk (Kd.R_lower ho13 (below_size (by repeat (first | (with_reducible first | exact HB.out | apply below_alloc | apply pw_below_drewN | apply below_drew1) | exact HB.out)))); have n1_ := Aside0.mk (below_step (by repeat (first | (with_reducible first | exact HB.out | apply below_alloc | apply pw_below_drewN | apply below_drew1) | exact HB.out)) hb); clear HB; have HO183 := n0_; have HB := n1_; clear n0_ n1_; clear hb ho13)); try go_wp2_with (first | ((with_reducible refine gate_dst (N := 33) rfl ?_); (try (refine gate_guard (by rfl) ?_; dsimp only)); refine Kd.R_make Kd.bool _ 4 rfl (N := 33) rfl 59 _ _ rfl ji9 rfl rfl Try.underlying59 (.bool false) 1 info4 rfl (by decide) (by omega) false (ok := fun _ => True) (okp := fun _ => True) rfl (fun _ hk => hk) trivial (of_decide_eq_true (by first | (with_reducible assumption) | assumption)) (Nat.le_trans (Nat.mul_le_mul_right _ (of_decide_eq_true (by first | (with_reducible assumption) | assumption) : ji9.toNat ≤ 281474976710656)) (by omega)) (Below.refl _ _) (Nat.le_refl _) ?_; intro v182 w12 ho13 hb hg_ hnew_; clear hg_ hnew_; (first | rw [← Ny181.out] at ho13 | (simp only [Int.reduceToNat] at ho13; rw [← Ny181.out] at ho13)); have n0_ := Aside0.mk (Kd.R_lower ho13 (below_size (by repeat (first | (with_reducible first | exact HB.out | apply below_alloc | apply pw_below_drewN | apply below_drew1) | exact HB.out)))); have n1_ := Aside0.mk (below_step (by repeat (first | (with_reducible first | exact HB.out | apply below_alloc | apply pw_below_drewN | apply below_drew1) | exact HB.out)) hb); clear HB; have HO183 := n0_; have HB := n1_; clear n0_ n1_; clear hb ho13)))
            go_loopg [36] kj3 (fun kq v36 w' => ∃ (x7_2 : List Bool) (x36_2 : Int), v36 = .int .i64 x36_2 ∧ Aside0 (impl_areDifferences.l0 kq a0 t178 x7_2 l1 (l1.length : Int) x36_2 = some r) ∧ Aside0 (kq ≤ kj3) ∧ Aside0 (Kd.R Kd.bool 4 w' w.heap.size (fun _ => True) v182 x7_2) ∧ Aside0 (Below w.heap.size w w'))
            case atStart => exact ⟨(y181), (0), (by first | rfl | (simp; done) | (simp [*]; done)), H', ⟨Nat.le_refl _⟩, ⟨by (with_reducible repeat (first | apply Kd.R_alloc | apply Kd.R_drewN | apply Kd.R_drew)); exact HO183.out⟩, ⟨by repeat (first | (with_reducible first | exact HB.out | apply below_alloc | apply pw_below_drewN | apply below_drew1) | exact HB.out)⟩⟩
            case round =>
              clear H'
              try clear c1
              try clear p2
              try clear c4
              try clear c5
              try clear c6
              try clear c6b0
              try clear c6b1
              try clear p6
              try clear c8
              try clear c10
              try clear c10b0
              try clear c10b1
              try clear c11
              try clear c11b0
              try clear c11b1
              try clear p2
              obtain ⟨x7_2, x36_2, rfl, HA, HK2, HO_7, HB⟩ := hrel
              cases gk with
              | zero => exact absurd HA.out (by simp [impl_areDifferences.l0])
              | succ k2 =>
                have H := HA.out
                clear HA
                simp only [impl_areDifferences.l0] at H
                by_cases c14 : x36_2 < (l1.length : Int)
                · rw [if_pos c14] at H
                  have c14b0 : decide (x36_2 < (l1.length : Int)) = true := decide_eq_true c14
                  clear c14
                  by_cases c15 : 0 ≤ x36_2
                  · rw [if_pos c15] at H
                    have c15b0 : decide (0 ≤ x36_2) = true := decide_eq_true c15
                    clear c15
                    by_cases c16 : x36_2 < (l1.length : Int)
                    · rw [if_pos c16] at H
                      have c16b0 : decide (x36_2 < (l1.length : Int)) = true := decide_eq_true c16
                      clear c16
                      have HC17 := Aside0.mk H
                      clear H
                      have p184 : 0 ≤ (x36_2 : Int) := of_decide_eq_true (by first | (with_reducible assumption) | assumption)
                      have q184 : x36_2 < (l1.length : Int) := of_decide_eq_true (by first | (with_reducible assumption) | assumption)
                      obtain ⟨ad184, A184_0, c184_0, e184, hx184_0, hl184_0, hi184_0⟩ := at_L1 HR1.out x36_2 p184 q184
                      cases e184
                      replace hx184_0 := (HB.out.cell (World.block_lt_of_cell? w _ hx184_0)).trans hx184_0
                      have HR184_0 := Aside0.mk hi184_0
                      have HC184_0 := Aside0.mk hl184_0
                      clear hi184_0 hl184_0
                      replace p184 := eq_true p184
                      replace q184 := eq_true q184
                      go_upto_region 8 with (fail)
                      repeat (go_quiet (fail); go_upto_region 8 with (fail))
                      go_cut [102] (fun v102 wc => ∃ (kq : Nat) (x102_16 : Bool), v102 = .bool x102_16 ∧ Aside0 (impl_areDifferences.j2 kq a0 t178 x7_2 (rd_L1 l1 x36_2) l1 (l1.length : Int) x36_2 x102_16 = some r) ∧ Aside0 (kq ≤ k2) ∧ Aside0 (Kd.R Kd.bool 4 wc w.heap.size (fun _ => True) v182 x7_2) ∧ Aside0 (Below w.heap.size w wc))
                      case first =>
                        have H := HC17.out
                        clear HC17
                        by_cases c18 : ((rd_L1 l1 x36_2).length : Int) = 3
                        · rw [if_pos c18] at H
                          have c18b0 : (((rd_L1 l1 x36_2).length : Int) == 3) = true := beq_iff_eq.mpr c18
                          have c18b1 : (((rd_L1 l1 x36_2).length : Int) != 3) = false := bne_eq_false_iff_eq.mpr c18
                          clear c18
                          (first | rw [c18b0] | (simp only [i64_w, i32_w]; rw [c18b0]) | skip)
                          by_cases c19 : 0 < ((rd_L1 l1 x36_2).length : Int)
                          · rw [if_pos c19] at H
                            have c19b0 : decide (0 < ((rd_L1 l1 x36_2).length : Int)) = true := decide_eq_true c19
                            have c19b1 : decide (0 < (rd_L1 l1 x36_2).length) = true := decide_eq_true (by omega)
                            clear c19
                            by_cases c20 : (rd (rd_L1 l1 x36_2) 0) < 1
                            · rw [if_pos c20] at H
                              have c20b0 : decide ((rd (rd_L1 l1 x36_2) 0) < 1) = true := decide_eq_true c20
                              clear c20
                              have H' := Aside0.mk H
                              clear H
                              have p185 : 0 ≤ (0 : Int) := (by omega)
                              have q185 : 0 < ((rd_L1 l1 x36_2).length : Int) := of_decide_eq_true (by first | (with_reducible assumption) | assumption)
                              obtain ⟨ad185, e185, hx185_0⟩ := Kd.at_int HR184_0.out 0 p185 q185
                              cases e185
                              have qi185 : (0 < (rd_L1 l1 x36_2).length) = True := eq_true (by omega)
                              (try rw [show ((0 : Int)).toNat = 0 from rfl] at hx185_0)
                              (try rw [Addr.add_zero'] at hx185_0)
                              replace hx185_0 := (HB.out.cell (World.block_lt_of_cell? w _ hx185_0)).trans hx185_0
                              replace p185 := eq_true p185
                              replace q185 := eq_true q185
                              go_wp2
                              repeat (go_quiet (fail); try go_wp2)
                              go_meet
                              case rel => exact ⟨_, (true), (by first | rfl | (simp; done) | (simp [*]; done)), H', ⟨by have := HJ3.out; have := HK2.out; first | omega | exact Nat.le_refl _⟩, ⟨by (with_reducible repeat (first | apply Kd.R_alloc | apply Kd.R_drewN | apply Kd.R_drew)); exact HO_7.out⟩, ⟨by repeat (first | (with_reducible first | exact HB.out | apply below_alloc | apply pw_below_drewN | apply below_drew1) | exact HB.out)⟩⟩
                            · rw [if_neg c20] at H
                              have c20b0 : decide ((rd (rd_L1 l1 x36_2) 0) < 1) = false := decide_eq_false c20
                              clear c20
                              by_cases c21 : 1 < ((rd_L1 l1 x36_2).length : Int)
                              · rw [if_pos c21] at H
                                have c21b0 : decide (1 < ((rd_L1 l1 x36_2).length : Int)) = true := decide_eq_true c21
                                have c21b1 : decide (1 < (rd_L1 l1 x36_2).length) = true := decide_eq_true (by omega)
                                clear c21
                                by_cases c22 : (rd (rd_L1 l1 x36_2) 0) > (rd (rd_L1 l1 x36_2) 1)
                                · rw [if_pos c22] at H
                                  have c22b0 : decide ((rd (rd_L1 l1 x36_2) 1) < (rd (rd_L1 l1 x36_2) 0)) = true := decide_eq_true c22
                                  clear c22
                                  have H' := Aside0.mk H
                                  clear H
                                  have p185 : 0 ≤ (0 : Int) := (by omega)
                                  have q185 : 0 < ((rd_L1 l1 x36_2).length : Int) := of_decide_eq_true (by first | (with_reducible assumption) | assumption)
                                  obtain ⟨ad185, e185, hx185_0⟩ := Kd.at_int HR184_0.out 0 p185 q185
                                  cases e185
                                  have qi185 : (0 < (rd_L1 l1 x36_2).length) = True := eq_true (by omega)
                                  (try rw [show ((0 : Int)).toNat = 0 from rfl] at hx185_0)
                                  (try rw [Addr.add_zero'] at hx185_0)
                                  replace hx185_0 := (HB.out.cell (World.block_lt_of_cell? w _ hx185_0)).trans hx185_0
                                  replace p185 := eq_true p185
                                  replace q185 := eq_true q185
                                  have p186 : 0 ≤ (0 : Int) := (by omega)
                                  have q186 : 0 < ((rd_L1 l1 x36_2).length : Int) := of_decide_eq_true (by first | (with_reducible assumption) | assumption)
                                  obtain ⟨ad186, e186, hx186_0⟩ := Kd.at_int HR184_0.out 0 p186 q186
                                  obtain rfl : ad185 = ad186 := (by injection e186)
                                  have qi186 : (0 < (rd_L1 l1 x36_2).length) = True := eq_true (by omega)
                                  (try rw [show ((0 : Int)).toNat = 0 from rfl] at hx186_0)
                                  (try rw [Addr.add_zero'] at hx186_0)
                                  replace hx186_0 := (HB.out.cell (World.block_lt_of_cell? w _ hx186_0)).trans hx186_0
                                  replace p186 := eq_true p186
                                  replace q186 := eq_true q186
                                  have p187 : 0 ≤ (1 : Int) := (by omega)
                                  have q187 : 1 < ((rd_L1 l1 x36_2).length : Int) := of_decide_eq_true (by first | (with_reducible assumption) | assumption)
                                  obtain ⟨ad187, e187, hx187_0⟩ := Kd.at_int HR184_0.out 1 p187 q187
                                  obtain rfl : ad185 = ad187 := (by injection e187)
                                  (try simp only [show (1 : Int).toNat = 1 from rfl, Nat.reduceMul, Nat.reduceEqDiff, Go.Addr.add, ↓reduceIte] at hx187_0)
                                  have qi187 : (1 < (rd_L1 l1 x36_2).length) = True := eq_true (by omega)
                                  (try rw [show ((1 : Int)).toNat = 1 from rfl] at hx187_0)
                                  replace hx187_0 := (HB.out.cell (World.block_lt_of_cell? w _ hx187_0)).trans hx187_0
                                  replace p187 := eq_true p187
                                  replace q187 := eq_true q187
                                  go_wp2
                                  repeat (go_quiet (fail); try go_wp2)
                                  go_meet
                                  case rel => exact ⟨_, (true), (by first | rfl | (simp; done) | (simp [*]; done)), H', ⟨by have := HJ3.out; have := HK2.out; first | omega | exact Nat.le_refl _⟩, ⟨by (with_reducible repeat (first | apply Kd.R_alloc | apply Kd.R_drewN | apply Kd.R_drew)); exact HO_7.out⟩, ⟨by repeat (first | (with_reducible first | exact HB.out | apply below_alloc | apply pw_below_drewN | apply below_drew1) | exact HB.out)⟩⟩
                                · rw [if_neg c22] at H
                                  have c22b0 : decide ((rd (rd_L1 l1 x36_2) 1) < (rd (rd_L1 l1 x36_2) 0)) = false := decide_eq_false c22
                                  clear c22
                                  by_cases c23 : 2 < ((rd_L1 l1 x36_2).length : Int)
                                  · rw [if_pos c23] at H
                                    have c23b0 : decide (2 < ((rd_L1 l1 x36_2).length : Int)) = true := decide_eq_true c23
                                    have c23b1 : decide (2 < (rd_L1 l1 x36_2).length) = true := decide_eq_true (by omega)
                                    clear c23
                                    by_cases c24 : (rd (rd_L1 l1 x36_2) 1) > (rd (rd_L1 l1 x36_2) 2)
                                    · rw [if_pos c24] at H
                                      have c24b0 : decide ((rd (rd_L1 l1 x36_2) 2) < (rd (rd_L1 l1 x36_2) 1)) = true := decide_eq_true c24
                                      clear c24
                                      have H' := Aside0.mk H
                                      clear H
                                      have p185 : 0 ≤ (0 : Int) := (by omega)
                                      have q185 : 0 < ((rd_L1 l1 x36_2).length : Int) := of_decide_eq_true (by first | (with_reducible assumption) | assumption)
                                      obtain ⟨ad185, e185, hx185_0⟩ := Kd.at_int HR184_0.out 0 p185 q185
                                      cases e185
                                      have qi185 : (0 < (rd_L1 l1 x36_2).length) = True := eq_true (by omega)
                                      (try rw [show ((0 : Int)).toNat = 0 from rfl] at hx185_0)
                                      (try rw [Addr.add_zero'] at hx185_0)
                                      replace hx185_0 := (HB.out.cell (World.block_lt_of_cell? w _ hx185_0)).trans hx185_0
                                      replace p185 := eq_true p185
                                      replace q185 := eq_true q185
                                      have p186 : 0 ≤ (0 : Int) := (by omega)
                                      have q186 : 0 < ((rd_L1 l1 x36_2).length : Int) := of_decide_eq_true (by first | (with_reducible assumption) | assumption)
                                      obtain ⟨ad186, e186, hx186_0⟩ := Kd.at_int HR184_0.out 0 p186 q186
                                      obtain rfl : ad185 = ad186 := (by injection e186)
                                      have qi186 : (0 < (rd_L1 l1 x36_2).length) = True := eq_true (by omega)
                                      (try rw [show ((0 : Int)).toNat = 0 from rfl] at hx186_0)
                                      (try rw [Addr.add_zero'] at hx186_0)
                                      replace hx186_0 := (HB.out.cell (World.block_lt_of_cell? w _ hx186_0)).trans hx186_0
                                      replace p186 := eq_true p186
                                      replace q186 := eq_true q186
                                      have p187 : 0 ≤ (1 : Int) := (by omega)
                                      have q187 : 1 < ((rd_L1 l1 x36_2).length : Int) := of_decide_eq_true (by first | (with_reducible assumption) | assumption)
                                      obtain ⟨ad187, e187, hx187_0⟩ := Kd.at_int HR184_0.out 1 p187 q187
                                      obtain rfl : ad185 = ad187 := (by injection e187)
                                      (try simp only [show (1 : Int).toNat = 1 from rfl, Nat.reduceMul, Nat.reduceEqDiff, Go.Addr.add, ↓reduceIte] at hx187_0)
                                      have qi187 : (1 < (rd_L1 l1 x36_2).length) = True := eq_true (by omega)
                                      (try rw [show ((1 : Int)).toNat = 1 from rfl] at hx187_0)
                                      replace hx187_0 := (HB.out.cell (World.block_lt_of_cell? w _ hx187_0)).trans hx187_0
                                      replace p187 := eq_true p187
                                      replace q187 := eq_true q187
                                      have p188 : 0 ≤ (1 : Int) := (by omega)
                                      have q188 : 1 < ((rd_L1 l1 x36_2).length : Int) := of_decide_eq_true (by first | (with_reducible assumption) | assumption)
                                      obtain ⟨ad188, e188, hx188_0⟩ := Kd.at_int HR184_0.out 1 p188 q188
                                      obtain rfl : ad185 = ad188 := (by injection e188)
                                      (try simp only [show (1 : Int).toNat = 1 from rfl, Nat.reduceMul, Nat.reduceEqDiff, Go.Addr.add, ↓reduceIte] at hx188_0)
                                      have qi188 : (1 < (rd_L1 l1 x36_2).length) = True := eq_true (by omega)
                                      (try rw [show ((1 : Int)).toNat = 1 from rfl] at hx188_0)
                                      replace hx188_0 := (HB.out.cell (World.block_lt_of_cell? w _ hx188_0)).trans hx188_0
                                      replace p188 := eq_true p188
                                      replace q188 := eq_true q188
                                      have p189 : 0 ≤ (2 : Int) := (by omega)
                                      have q189 : 2 < ((rd_L1 l1 x36_2).length : Int) := of_decide_eq_true (by first | (with_reducible assumption) | assumption)
                                      obtain ⟨ad189, e189, hx189_0⟩ := Kd.at_int HR184_0.out 2 p189 q189
                                      obtain rfl : ad185 = ad189 := (by injection e189)
                                      (try simp only [show (2 : Int).toNat = 2 from rfl, Nat.reduceMul, Nat.reduceEqDiff, Go.Addr.add, ↓reduceIte] at hx189_0)
                                      have qi189 : (2 < (rd_L1 l1 x36_2).length) = True := eq_true (by omega)
                                      (try rw [show ((2 : Int)).toNat = 2 from rfl] at hx189_0)
                                      replace hx189_0 := (HB.out.cell (World.block_lt_of_cell? w _ hx189_0)).trans hx189_0
                                      replace p189 := eq_true p189
                                      replace q189 := eq_true q189
                                      go_wp2
                                      repeat (go_quiet (fail); try go_wp2)
                                      go_meet
                                      case rel => exact ⟨_, (true), (by first | rfl | (simp; done) | (simp [*]; done)), H', ⟨by have := HJ3.out; have := HK2.out; first | omega | exact Nat.le_refl _⟩, ⟨by (with_reducible repeat (first | apply Kd.R_alloc | apply Kd.R_drewN | apply Kd.R_drew)); exact HO_7.out⟩, ⟨by repeat (first | (with_reducible first | exact HB.out | apply below_alloc | apply pw_below_drewN | apply below_drew1) | exact HB.out)⟩⟩
                                    · rw [if_neg c24] at H
                                      have c24b0 : decide ((rd (rd_L1 l1 x36_2) 2) < (rd (rd_L1 l1 x36_2) 1)) = false := decide_eq_false c24
                                      clear c24
                                      by_cases c25 : (rd (rd_L1 l1 x36_2) 2) > (wrap64 (3 * t178))
                                      · rw [if_pos c25] at H
                                        have c25b0 : decide ((wrap64 (3 * t178)) < (rd (rd_L1 l1 x36_2) 2)) = true := decide_eq_true c25
                                        clear c25
                                        have H' := Aside0.mk H
                                        clear H
                                        have p185 : 0 ≤ (0 : Int) := (by omega)
                                        have q185 : 0 < ((rd_L1 l1 x36_2).length : Int) := of_decide_eq_true (by first | (with_reducible assumption) | assumption)
                                        obtain ⟨ad185, e185, hx185_0⟩ := Kd.at_int HR184_0.out 0 p185 q185
                                        cases e185
                                        have qi185 : (0 < (rd_L1 l1 x36_2).length) = True := eq_true (by omega)
                                        (try rw [show ((0 : Int)).toNat = 0 from rfl] at hx185_0)
                                        (try rw [Addr.add_zero'] at hx185_0)
                                        replace hx185_0 := (HB.out.cell (World.block_lt_of_cell? w _ hx185_0)).trans hx185_0
                                        replace p185 := eq_true p185
                                        replace q185 := eq_true q185
                                        have p186 : 0 ≤ (0 : Int) := (by omega)
                                        have q186 : 0 < ((rd_L1 l1 x36_2).length : Int) := of_decide_eq_true (by first | (with_reducible assumption) | assumption)
                                        obtain ⟨ad186, e186, hx186_0⟩ := Kd.at_int HR184_0.out 0 p186 q186
                                        obtain rfl : ad185 = ad186 := (by injection e186)
                                        have qi186 : (0 < (rd_L1 l1 x36_2).length) = True := eq_true (by omega)
                                        (try rw [show ((0 : Int)).toNat = 0 from rfl] at hx186_0)
                                        (try rw [Addr.add_zero'] at hx186_0)
                                        replace hx186_0 := (HB.out.cell (World.block_lt_of_cell? w _ hx186_0)).trans hx186_0
                                        replace p186 := eq_true p186
                                        replace q186 := eq_true q186
                                        have p187 : 0 ≤ (1 : Int) := (by omega)
                                        have q187 : 1 < ((rd_L1 l1 x36_2).length : Int) := of_decide_eq_true (by first | (with_reducible assumption) | assumption)
                                        obtain ⟨ad187, e187, hx187_0⟩ := Kd.at_int HR184_0.out 1 p187 q187
                                        obtain rfl : ad185 = ad187 := (by injection e187)
                                        (try simp only [show (1 : Int).toNat = 1 from rfl, Nat.reduceMul, Nat.reduceEqDiff, Go.Addr.add, ↓reduceIte] at hx187_0)
                                        have qi187 : (1 < (rd_L1 l1 x36_2).length) = True := eq_true (by omega)
                                        (try rw [show ((1 : Int)).toNat = 1 from rfl] at hx187_0)
                                        replace hx187_0 := (HB.out.cell (World.block_lt_of_cell? w _ hx187_0)).trans hx187_0
                                        replace p187 := eq_true p187
                                        replace q187 := eq_true q187
                                        have p188 : 0 ≤ (1 : Int) := (by omega)
                                        have q188 : 1 < ((rd_L1 l1 x36_2).length : Int) := of_decide_eq_true (by first | (with_reducible assumption) | assumption)
                                        obtain ⟨ad188, e188, hx188_0⟩ := Kd.at_int HR184_0.out 1 p188 q188
                                        obtain rfl : ad185 = ad188 := (by injection e188)
                                        (try simp only [show (1 : Int).toNat = 1 from rfl, Nat.reduceMul, Nat.reduceEqDiff, Go.Addr.add, ↓reduceIte] at hx188_0)
                                        have qi188 : (1 < (rd_L1 l1 x36_2).length) = True := eq_true (by omega)
                                        (try rw [show ((1 : Int)).toNat = 1 from rfl] at hx188_0)
                                        replace hx188_0 := (HB.out.cell (World.block_lt_of_cell? w _ hx188_0)).trans hx188_0
                                        replace p188 := eq_true p188
                                        replace q188 := eq_true q188
                                        have p189 : 0 ≤ (2 : Int) := (by omega)
                                        have q189 : 2 < ((rd_L1 l1 x36_2).length : Int) := of_decide_eq_true (by first | (with_reducible assumption) | assumption)
                                        obtain ⟨ad189, e189, hx189_0⟩ := Kd.at_int HR184_0.out 2 p189 q189
                                        obtain rfl : ad185 = ad189 := (by injection e189)
                                        (try simp only [show (2 : Int).toNat = 2 from rfl, Nat.reduceMul, Nat.reduceEqDiff, Go.Addr.add, ↓reduceIte] at hx189_0)
                                        have qi189 : (2 < (rd_L1 l1 x36_2).length) = True := eq_true (by omega)
                                        (try rw [show ((2 : Int)).toNat = 2 from rfl] at hx189_0)
                                        replace hx189_0 := (HB.out.cell (World.block_lt_of_cell? w _ hx189_0)).trans hx189_0
                                        replace p189 := eq_true p189
                                        replace q189 := eq_true q189
                                        have p190 : 0 ≤ (2 : Int) := (by omega)
                                        have q190 : 2 < ((rd_L1 l1 x36_2).length : Int) := of_decide_eq_true (by first | (with_reducible assumption) | assumption)
                                        obtain ⟨ad190, e190, hx190_0⟩ := Kd.at_int HR184_0.out 2 p190 q190
                                        obtain rfl : ad185 = ad190 := (by injection e190)
                                        (try simp only [show (2 : Int).toNat = 2 from rfl, Nat.reduceMul, Nat.reduceEqDiff, Go.Addr.add, ↓reduceIte] at hx190_0)
                                        have qi190 : (2 < (rd_L1 l1 x36_2).length) = True := eq_true (by omega)
                                        (try rw [show ((2 : Int)).toNat = 2 from rfl] at hx190_0)
                                        replace hx190_0 := (HB.out.cell (World.block_lt_of_cell? w _ hx190_0)).trans hx190_0
                                        replace p190 := eq_true p190
                                        replace q190 := eq_true q190
                                        go_wp2
                                        repeat (go_quiet (fail); try go_wp2)
                                        go_meet
                                        case rel => exact ⟨_, (true), (by first | rfl | (simp; done) | (simp [*]; done)), H', ⟨by have := HJ3.out; have := HK2.out; first | omega | exact Nat.le_refl _⟩, ⟨by (with_reducible repeat (first | apply Kd.R_alloc | apply Kd.R_drewN | apply Kd.R_drew)); exact HO_7.out⟩, ⟨by repeat (first | (with_reducible first | exact HB.out | apply below_alloc | apply pw_below_drewN | apply below_drew1) | exact HB.out)⟩⟩
                                      · rw [if_neg c25] at H
                                        have c25b0 : decide ((wrap64 (3 * t178)) < (rd (rd_L1 l1 x36_2) 2)) = false := decide_eq_false c25
                                        clear c25
                                        by_cases c26 : (wrap64 ((rd (rd_L1 l1 x36_2) 0) + (rd (rd_L1 l1 x36_2) 1))) = (rd (rd_L1 l1 x36_2) 2)
                                        · rw [if_pos c26] at H
                                          have c26b0 : ((wrap64 ((rd (rd_L1 l1 x36_2) 0) + (rd (rd_L1 l1 x36_2) 1))) == (rd (rd_L1 l1 x36_2) 2)) = true := beq_iff_eq.mpr c26
                                          have c26b1 : ((wrap64 ((rd (rd_L1 l1 x36_2) 0) + (rd (rd_L1 l1 x36_2) 1))) != (rd (rd_L1 l1 x36_2) 2)) = false := bne_eq_false_iff_eq.mpr c26
                                          clear c26
                                          have H' := Aside0.mk H
                                          clear H
                                          have p185 : 0 ≤ (0 : Int) := (by omega)
                                          have q185 : 0 < ((rd_L1 l1 x36_2).length : Int) := of_decide_eq_true (by first | (with_reducible assumption) | assumption)
                                          obtain ⟨ad185, e185, hx185_0⟩ := Kd.at_int HR184_0.out 0 p185 q185
                                          cases e185
                                          have qi185 : (0 < (rd_L1 l1 x36_2).length) = True := eq_true (by omega)
                                          (try rw [show ((0 : Int)).toNat = 0 from rfl] at hx185_0)
                                          (try rw [Addr.add_zero'] at hx185_0)
                                          replace hx185_0 := (HB.out.cell (World.block_lt_of_cell? w _ hx185_0)).trans hx185_0
                                          replace p185 := eq_true p185
                                          replace q185 := eq_true q185
                                          have p186 : 0 ≤ (0 : Int) := (by omega)
                                          have q186 : 0 < ((rd_L1 l1 x36_2).length : Int) := of_decide_eq_true (by first | (with_reducible assumption) | assumption)
                                          obtain ⟨ad186, e186, hx186_0⟩ := Kd.at_int HR184_0.out 0 p186 q186
                                          obtain rfl : ad185 = ad186 := (by injection e186)
                                          have qi186 : (0 < (rd_L1 l1 x36_2).length) = True := eq_true (by omega)
                                          (try rw [show ((0 : Int)).toNat = 0 from rfl] at hx186_0)
                                          (try rw [Addr.add_zero'] at hx186_0)
                                          replace hx186_0 := (HB.out.cell (World.block_lt_of_cell? w _ hx186_0)).trans hx186_0
                                          replace p186 := eq_true p186
                                          replace q186 := eq_true q186
                                          have p187 : 0 ≤ (1 : Int) := (by omega)
                                          have q187 : 1 < ((rd_L1 l1 x36_2).length : Int) := of_decide_eq_true (by first | (with_reducible assumption) | assumption)
                                          obtain ⟨ad187, e187, hx187_0⟩ := Kd.at_int HR184_0.out 1 p187 q187
                                          obtain rfl : ad185 = ad187 := (by injection e187)
                                          (try simp only [show (1 : Int).toNat = 1 from rfl, Nat.reduceMul, Nat.reduceEqDiff, Go.Addr.add, ↓reduceIte] at hx187_0)
                                          have qi187 : (1 < (rd_L1 l1 x36_2).length) = True := eq_true (by omega)
                                          (try rw [show ((1 : Int)).toNat = 1 from rfl] at hx187_0)
                                          replace hx187_0 := (HB.out.cell (World.block_lt_of_cell? w _ hx187_0)).trans hx187_0
                                          replace p187 := eq_true p187
                                          replace q187 := eq_true q187
                                          have p188 : 0 ≤ (1 : Int) := (by omega)
                                          have q188 : 1 < ((rd_L1 l1 x36_2).length : Int) := of_decide_eq_true (by first | (with_reducible assumption) | assumption)
                                          obtain ⟨ad188, e188, hx188_0⟩ := Kd.at_int HR184_0.out 1 p188 q188
                                          obtain rfl : ad185 = ad188 := (by injection e188)
                                          (try simp only [show (1 : Int).toNat = 1 from rfl, Nat.reduceMul, Nat.reduceEqDiff, Go.Addr.add, ↓reduceIte] at hx188_0)
                                          have qi188 : (1 < (rd_L1 l1 x36_2).length) = True := eq_true (by omega)
                                          (try rw [show ((1 : Int)).toNat = 1 from rfl] at hx188_0)
                                          replace hx188_0 := (HB.out.cell (World.block_lt_of_cell? w _ hx188_0)).trans hx188_0
                                          replace p188 := eq_true p188
                                          replace q188 := eq_true q188
                                          have p189 : 0 ≤ (2 : Int) := (by omega)
                                          have q189 : 2 < ((rd_L1 l1 x36_2).length : Int) := of_decide_eq_true (by first | (with_reducible assumption) | assumption)
                                          obtain ⟨ad189, e189, hx189_0⟩ := Kd.at_int HR184_0.out 2 p189 q189
                                          obtain rfl : ad185 = ad189 := (by injection e189)
                                          (try simp only [show (2 : Int).toNat = 2 from rfl, Nat.reduceMul, Nat.reduceEqDiff, Go.Addr.add, ↓reduceIte] at hx189_0)
                                          have qi189 : (2 < (rd_L1 l1 x36_2).length) = True := eq_true (by omega)
                                          (try rw [show ((2 : Int)).toNat = 2 from rfl] at hx189_0)
                                          replace hx189_0 := (HB.out.cell (World.block_lt_of_cell? w _ hx189_0)).trans hx189_0
                                          replace p189 := eq_true p189
                                          replace q189 := eq_true q189
                                          have p190 : 0 ≤ (2 : Int) := (by omega)
                                          have q190 : 2 < ((rd_L1 l1 x36_2).length : Int) := of_decide_eq_true (by first | (with_reducible assumption) | assumption)
                                          obtain ⟨ad190, e190, hx190_0⟩ := Kd.at_int HR184_0.out 2 p190 q190
                                          obtain rfl : ad185 = ad190 := (by injection e190)
                                          (try simp only [show (2 : Int).toNat = 2 from rfl, Nat.reduceMul, Nat.reduceEqDiff, Go.Addr.add, ↓reduceIte] at hx190_0)
                                          have qi190 : (2 < (rd_L1 l1 x36_2).length) = True := eq_true (by omega)
                                          (try rw [show ((2 : Int)).toNat = 2 from rfl] at hx190_0)
                                          replace hx190_0 := (HB.out.cell (World.block_lt_of_cell? w _ hx190_0)).trans hx190_0
                                          replace p190 := eq_true p190
                                          replace q190 := eq_true q190
                                          have p191 : 0 ≤ (0 : Int) := (by omega)
                                          have q191 : 0 < ((rd_L1 l1 x36_2).length : Int) := of_decide_eq_true (by first | (with_reducible assumption) | assumption)
                                          obtain ⟨ad191, e191, hx191_0⟩ := Kd.at_int HR184_0.out 0 p191 q191
                                          obtain rfl : ad185 = ad191 := (by injection e191)
                                          have qi191 : (0 < (rd_L1 l1 x36_2).length) = True := eq_true (by omega)
                                          (try rw [show ((0 : Int)).toNat = 0 from rfl] at hx191_0)
                                          (try rw [Addr.add_zero'] at hx191_0)
                                          replace hx191_0 := (HB.out.cell (World.block_lt_of_cell? w _ hx191_0)).trans hx191_0
                                          replace p191 := eq_true p191
                                          replace q191 := eq_true q191
                                          have p192 : 0 ≤ (1 : Int) := (by omega)
                                          have q192 : 1 < ((rd_L1 l1 x36_2).length : Int) := of_decide_eq_true (by first | (with_reducible assumption) | assumption)
                                          obtain ⟨ad192, e192, hx192_0⟩ := Kd.at_int HR184_0.out 1 p192 q192
                                          obtain rfl : ad185 = ad192 := (by injection e192)
                                          (try simp only [show (1 : Int).toNat = 1 from rfl, Nat.reduceMul, Nat.reduceEqDiff, Go.Addr.add, ↓reduceIte] at hx192_0)
                                          have qi192 : (1 < (rd_L1 l1 x36_2).length) = True := eq_true (by omega)
                                          (try rw [show ((1 : Int)).toNat = 1 from rfl] at hx192_0)
                                          replace hx192_0 := (HB.out.cell (World.block_lt_of_cell? w _ hx192_0)).trans hx192_0
                                          replace p192 := eq_true p192
                                          replace q192 := eq_true q192
                                          have p193 : 0 ≤ (2 : Int) := (by omega)
                                          have q193 : 2 < ((rd_L1 l1 x36_2).length : Int) := of_decide_eq_true (by first | (with_reducible assumption) | assumption)
                                          obtain ⟨ad193, e193, hx193_0⟩ := Kd.at_int HR184_0.out 2 p193 q193
                                          obtain rfl : ad185 = ad193 := (by injection e193)
                                          (try simp only [show (2 : Int).toNat = 2 from rfl, Nat.reduceMul, Nat.reduceEqDiff, Go.Addr.add, ↓reduceIte] at hx193_0)
                                          have qi193 : (2 < (rd_L1 l1 x36_2).length) = True := eq_true (by omega)
                                          (try rw [show ((2 : Int)).toNat = 2 from rfl] at hx193_0)
                                          replace hx193_0 := (HB.out.cell (World.block_lt_of_cell? w _ hx193_0)).trans hx193_0
                                          replace p193 := eq_true p193
                                          replace q193 := eq_true q193
                                          go_wp2
                                          repeat (go_quiet (fail); try go_wp2)
                                          go_meet
                                          case rel => exact ⟨_, (false), (by first | rfl | (simp; done) | (simp [*]; done)), H', ⟨by have := HJ3.out; have := HK2.out; first | omega | exact Nat.le_refl _⟩, ⟨by (with_reducible repeat (first | apply Kd.R_alloc | apply Kd.R_drewN | apply Kd.R_drew)); exact HO_7.out⟩, ⟨by repeat (first | (with_reducible first | exact HB.out | apply below_alloc | apply pw_below_drewN | apply below_drew1) | exact HB.out)⟩⟩
                                        · rw [if_neg c26] at H
                                          have c26b0 : ((wrap64 ((rd (rd_L1 l1 x36_2) 0) + (rd (rd_L1 l1 x36_2) 1))) == (rd (rd_L1 l1 x36_2) 2)) = false := beq_eq_false_iff_ne.mpr c26
                                          have c26b1 : ((wrap64 ((rd (rd_L1 l1 x36_2) 0) + (rd (rd_L1 l1 x36_2) 1))) != (rd (rd_L1 l1 x36_2) 2)) = true := bne_iff_ne.mpr c26
                                          have H' := Aside0.mk H
                                          clear H
                                          have p185 : 0 ≤ (0 : Int) := (by omega)
                                          have q185 : 0 < ((rd_L1 l1 x36_2).length : Int) := of_decide_eq_true (by first | (with_reducible assumption) | assumption)
                                          obtain ⟨ad185, e185, hx185_0⟩ := Kd.at_int HR184_0.out 0 p185 q185
                                          cases e185
                                          have qi185 : (0 < (rd_L1 l1 x36_2).length) = True := eq_true (by omega)
                                          (try rw [show ((0 : Int)).toNat = 0 from rfl] at hx185_0)
                                          (try rw [Addr.add_zero'] at hx185_0)
                                          replace hx185_0 := (HB.out.cell (World.block_lt_of_cell? w _ hx185_0)).trans hx185_0
                                          replace p185 := eq_true p185
                                          replace q185 := eq_true q185
                                          have p186 : 0 ≤ (0 : Int) := (by omega)
                                          have q186 : 0 < ((rd_L1 l1 x36_2).length : Int) := of_decide_eq_true (by first | (with_reducible assumption) | assumption)
                                          obtain ⟨ad186, e186, hx186_0⟩ := Kd.at_int HR184_0.out 0 p186 q186
                                          obtain rfl : ad185 = ad186 := (by injection e186)
                                          have qi186 : (0 < (rd_L1 l1 x36_2).length) = True := eq_true (by omega)
                                          (try rw [show ((0 : Int)).toNat = 0 from rfl] at hx186_0)
                                          (try rw [Addr.add_zero'] at hx186_0)
                                          replace hx186_0 := (HB.out.cell (World.block_lt_of_cell? w _ hx186_0)).trans hx186_0
                                          replace p186 := eq_true p186
                                          replace q186 := eq_true q186
                                          have p187 : 0 ≤ (1 : Int) := (by omega)
                                          have q187 : 1 < ((rd_L1 l1 x36_2).length : Int) := of_decide_eq_true (by first | (with_reducible assumption) | assumption)
                                          obtain ⟨ad187, e187, hx187_0⟩ := Kd.at_int HR184_0.out 1 p187 q187
                                          obtain rfl : ad185 = ad187 := (by injection e187)
                                          (try simp only [show (1 : Int).toNat = 1 from rfl, Nat.reduceMul, Nat.reduceEqDiff, Go.Addr.add, ↓reduceIte] at hx187_0)
                                          have qi187 : (1 < (rd_L1 l1 x36_2).length) = True := eq_true (by omega)
                                          (try rw [show ((1 : Int)).toNat = 1 from rfl] at hx187_0)
                                          replace hx187_0 := (HB.out.cell (World.block_lt_of_cell? w _ hx187_0)).trans hx187_0
                                          replace p187 := eq_true p187
                                          replace q187 := eq_true q187
                                          have p188 : 0 ≤ (1 : Int) := (by omega)
                                          have q188 : 1 < ((rd_L1 l1 x36_2).length : Int) := of_decide_eq_true (by first | (with_reducible assumption) | assumption)
                                          obtain ⟨ad188, e188, hx188_0⟩ := Kd.at_int HR184_0.out 1 p188 q188
                                          obtain rfl : ad185 = ad188 := (by injection e188)
                                          (try simp only [show (1 : Int).toNat = 1 from rfl, Nat.reduceMul, Nat.reduceEqDiff, Go.Addr.add, ↓reduceIte] at hx188_0)
                                          have qi188 : (1 < (rd_L1 l1 x36_2).length) = True := eq_true (by omega)
                                          (try rw [show ((1 : Int)).toNat = 1 from rfl] at hx188_0)
                                          replace hx188_0 := (HB.out.cell (World.block_lt_of_cell? w _ hx188_0)).trans hx188_0
                                          replace p188 := eq_true p188
                                          replace q188 := eq_true q188
                                          have p189 : 0 ≤ (2 : Int) := (by omega)
                                          have q189 : 2 < ((rd_L1 l1 x36_2).length : Int) := of_decide_eq_true (by first | (with_reducible assumption) | assumption)
                                          obtain ⟨ad189, e189, hx189_0⟩ := Kd.at_int HR184_0.out 2 p189 q189
                                          obtain rfl : ad185 = ad189 := (by injection e189)
                                          (try simp only [show (2 : Int).toNat = 2 from rfl, Nat.reduceMul, Nat.reduceEqDiff, Go.Addr.add, ↓reduceIte] at hx189_0)
                                          have qi189 : (2 < (rd_L1 l1 x36_2).length) = True := eq_true (by omega)
                                          (try rw [show ((2 : Int)).toNat = 2 from rfl] at hx189_0)
                                          replace hx189_0 := (HB.out.cell (World.block_lt_of_cell? w _ hx189_0)).trans hx189_0
                                          replace p189 := eq_true p189
                                          replace q189 := eq_true q189
                                          have p190 : 0 ≤ (2 : Int) := (by omega)
                                          have q190 : 2 < ((rd_L1 l1 x36_2).length : Int) := of_decide_eq_true (by first | (with_reducible assumption) | assumption)
                                          obtain ⟨ad190, e190, hx190_0⟩ := Kd.at_int HR184_0.out 2 p190 q190
                                          obtain rfl : ad185 = ad190 := (by injection e190)
                                          (try simp only [show (2 : Int).toNat = 2 from rfl, Nat.reduceMul, Nat.reduceEqDiff, Go.Addr.add, ↓reduceIte] at hx190_0)
                                          have qi190 : (2 < (rd_L1 l1 x36_2).length) = True := eq_true (by omega)
                                          (try rw [show ((2 : Int)).toNat = 2 from rfl] at hx190_0)
                                          replace hx190_0 := (HB.out.cell (World.block_lt_of_cell? w _ hx190_0)).trans hx190_0
                                          replace p190 := eq_true p190
                                          replace q190 := eq_true q190
                                          have p191 : 0 ≤ (0 : Int) := (by omega)
                                          have q191 : 0 < ((rd_L1 l1 x36_2).length : Int) := of_decide_eq_true (by first | (with_reducible assumption) | assumption)
                                          obtain ⟨ad191, e191, hx191_0⟩ := Kd.at_int HR184_0.out 0 p191 q191
                                          obtain rfl : ad185 = ad191 := (by injection e191)
                                          have qi191 : (0 < (rd_L1 l1 x36_2).length) = True := eq_true (by omega)
                                          (try rw [show ((0 : Int)).toNat = 0 from rfl] at hx191_0)
                                          (try rw [Addr.add_zero'] at hx191_0)
                                          replace hx191_0 := (HB.out.cell (World.block_lt_of_cell? w _ hx191_0)).trans hx191_0
                                          replace p191 := eq_true p191
                                          replace q191 := eq_true q191
                                          have p192 : 0 ≤ (1 : Int) := (by omega)
                                          have q192 : 1 < ((rd_L1 l1 x36_2).length : Int) := of_decide_eq_true (by first | (with_reducible assumption) | assumption)
                                          obtain ⟨ad192, e192, hx192_0⟩ := Kd.at_int HR184_0.out 1 p192 q192
                                          obtain rfl : ad185 = ad192 := (by injection e192)
                                          (try simp only [show (1 : Int).toNat = 1 from rfl, Nat.reduceMul, Nat.reduceEqDiff, Go.Addr.add, ↓reduceIte] at hx192_0)
                                          have qi192 : (1 < (rd_L1 l1 x36_2).length) = True := eq_true (by omega)
                                          (try rw [show ((1 : Int)).toNat = 1 from rfl] at hx192_0)
                                          replace hx192_0 := (HB.out.cell (World.block_lt_of_cell? w _ hx192_0)).trans hx192_0
                                          replace p192 := eq_true p192
                                          replace q192 := eq_true q192
                                          have p193 : 0 ≤ (2 : Int) := (by omega)
                                          have q193 : 2 < ((rd_L1 l1 x36_2).length : Int) := of_decide_eq_true (by first | (with_reducible assumption) | assumption)
                                          obtain ⟨ad193, e193, hx193_0⟩ := Kd.at_int HR184_0.out 2 p193 q193
                                          obtain rfl : ad185 = ad193 := (by injection e193)
                                          (try simp only [show (2 : Int).toNat = 2 from rfl, Nat.reduceMul, Nat.reduceEqDiff, Go.Addr.add, ↓reduceIte] at hx193_0)
                                          have qi193 : (2 < (rd_L1 l1 x36_2).length) = True := eq_true (by omega)
                                          (try rw [show ((2 : Int)).toNat = 2 from rfl] at hx193_0)
                                          replace hx193_0 := (HB.out.cell (World.block_lt_of_cell? w _ hx193_0)).trans hx193_0
                                          replace p193 := eq_true p193
                                          replace q193 := eq_true q193
                                          have p194 : 0 ≤ (0 : Int) := (by omega)
                                          have q194 : 0 < ((rd_L1 l1 x36_2).length : Int) := of_decide_eq_true (by first | (with_reducible assumption) | assumption)
                                          obtain ⟨ad194, e194, hx194_0⟩ := Kd.at_int HR184_0.out 0 p194 q194
                                          obtain rfl : ad185 = ad194 := (by injection e194)
                                          have qi194 : (0 < (rd_L1 l1 x36_2).length) = True := eq_true (by omega)
                                          (try rw [show ((0 : Int)).toNat = 0 from rfl] at hx194_0)
                                          (try rw [Addr.add_zero'] at hx194_0)
                                          replace hx194_0 := (HB.out.cell (World.block_lt_of_cell? w _ hx194_0)).trans hx194_0
                                          replace p194 := eq_true p194
                                          replace q194 := eq_true q194
                                          have p195 : 0 ≤ (1 : Int) := (by omega)
                                          have q195 : 1 < ((rd_L1 l1 x36_2).length : Int) := of_decide_eq_true (by first | (with_reducible assumption) | assumption)
                                          obtain ⟨ad195, e195, hx195_0⟩ := Kd.at_int HR184_0.out 1 p195 q195
                                          obtain rfl : ad185 = ad195 := (by injection e195)
                                          (try simp only [show (1 : Int).toNat = 1 from rfl, Nat.reduceMul, Nat.reduceEqDiff, Go.Addr.add, ↓reduceIte] at hx195_0)
                                          have qi195 : (1 < (rd_L1 l1 x36_2).length) = True := eq_true (by omega)
                                          (try rw [show ((1 : Int)).toNat = 1 from rfl] at hx195_0)
                                          replace hx195_0 := (HB.out.cell (World.block_lt_of_cell? w _ hx195_0)).trans hx195_0
                                          replace p195 := eq_true p195
                                          replace q195 := eq_true q195
                                          have p196 : 0 ≤ (2 : Int) := (by omega)
                                          have q196 : 2 < ((rd_L1 l1 x36_2).length : Int) := of_decide_eq_true (by first | (with_reducible assumption) | assumption)
                                          obtain ⟨ad196, e196, hx196_0⟩ := Kd.at_int HR184_0.out 2 p196 q196
                                          obtain rfl : ad185 = ad196 := (by injection e196)
                                          (try simp only [show (2 : Int).toNat = 2 from rfl, Nat.reduceMul, Nat.reduceEqDiff, Go.Addr.add, ↓reduceIte] at hx196_0)
                                          have qi196 : (2 < (rd_L1 l1 x36_2).length) = True := eq_true (by omega)
                                          (try rw [show ((2 : Int)).toNat = 2 from rfl] at hx196_0)
                                          replace hx196_0 := (HB.out.cell (World.block_lt_of_cell? w _ hx196_0)).trans hx196_0
                                          replace p196 := eq_true p196
                                          replace q196 := eq_true q196
                                          go_wp2
                                          repeat (go_quiet (fail); try go_wp2)
                                          go_meet
                                          case rel => exact ⟨_, (((wrap64 ((wrap64 ((rd (rd_L1 l1 x36_2) 0) + (rd (rd_L1 l1 x36_2) 1))) + (rd (rd_L1 l1 x36_2) 2))) != a0)), (by first | rfl | (simp; done) | (simp [*]; done)), H', ⟨by have := HJ3.out; have := HK2.out; first | omega | exact Nat.le_refl _⟩, ⟨by (with_reducible repeat (first | apply Kd.R_alloc | apply Kd.R_drewN | apply Kd.R_drew)); exact HO_7.out⟩, ⟨by repeat (first | (with_reducible first | exact HB.out | apply below_alloc | apply pw_below_drewN | apply below_drew1) | exact HB.out)⟩⟩
                                  · rw [if_neg c23] at H
                                    exact absurd H (by simp)
                              · rw [if_neg c21] at H
                                exact absurd H (by simp)
                          · rw [if_neg c19] at H
                            exact absurd H (by simp)
                        · rw [if_neg c18] at H
                          have c18b0 : (((rd_L1 l1 x36_2).length : Int) == 3) = false := beq_eq_false_iff_ne.mpr c18
                          have c18b1 : (((rd_L1 l1 x36_2).length : Int) != 3) = true := bne_iff_ne.mpr c18
                          (first | rw [c18b0] | (simp only [i64_w, i32_w]; rw [c18b0]) | skip)
                          have H' := Aside0.mk H
                          clear H
                          go_wp2
                          repeat (go_quiet (fail); try go_wp2)
                          go_meet
                          case rel => exact ⟨_, (true), (by first | rfl | (simp; done) | (simp [*]; done)), H', ⟨by have := HJ3.out; have := HK2.out; first | omega | exact Nat.le_refl _⟩, ⟨by (with_reducible repeat (first | apply Kd.R_alloc | apply Kd.R_drewN | apply Kd.R_drew)); exact HO_7.out⟩, ⟨by repeat (first | (with_reducible first | exact HB.out | apply below_alloc | apply pw_below_drewN | apply below_drew1) | exact HB.out)⟩⟩
                      case rest =>
                        clear HC17
                        try clear c1
                        try clear p1
                        try clear q1
                        try clear hx1
                        try clear qi1
                        try clear c2
                        try clear p2
                        try clear c4
                        try clear c5
                        try clear c6
                        try clear c6b0
                        try clear c6b1
                        try clear p6
                        try clear c8
                        try clear c10
                        try clear c10b0
                        try clear c10b1
                        try clear c11
                        try clear c11b0
                        try clear c11b1
                        try clear c14
                        try clear c14b0
                        try clear c15
                        try clear c15b0
                        try clear c16
                        try clear c16b0
                        try clear c18
                        try clear c18b0
                        try clear c18b1
                        try clear p18
                        try clear q18
                        try clear hx18
                        try clear qi18
                        try clear c19
                        try clear c19b0
                        try clear c19b1
                        try clear p19
                        try clear q19
                        try clear hx19
                        try clear qi19
                        try clear c20
                        try clear c20b0
                        try clear c21
                        try clear c21b0
                        try clear c21b1
                        try clear c22
                        try clear c22b0
                        try clear c23
                        try clear c23b0
                        try clear c23b1
                        try clear c24
                        try clear c24b0
                        try clear c25
                        try clear c25b0
                        try clear c26
                        try clear c26b0
                        try clear c26b1
                        try clear hx184_0
                        try clear hx185_0
                        try clear hx186_0
                        try clear hx187_0
                        try clear hx188_0
                        try clear hx189_0
                        try clear hx190_0
                        try clear hx191_0
                        try clear hx192_0
                        try clear hx193_0
                        try clear hx194_0
                        try clear hx195_0
                        try clear hx196_0
                        try clear p184
                        try clear p185
                        try clear p186
                        try clear p187
                        try clear p188
                        try clear p189
                        try clear p190
                        try clear p191
                        try clear p192
                        try clear p193
                        try clear p194
                        try clear p195
                        try clear p196
                        try clear p2
                        try clear p6
                        try clear q184
                        try clear q185
                        try clear q186
                        try clear q187
                        try clear q188
                        try clear q189
                        try clear q190
                        try clear q191
                        try clear q192
                        try clear q193
                        try clear q194
                        try clear q195
                        try clear q196
                        obtain ⟨kq, x102_16, rfl, HA, HJ16, HO_7, HB⟩ := hcut
                        cases kq with
                        | zero => exact absurd HA.out (by simp [impl_areDifferences.j2])
                        | succ kj16 =>
                          have H := HA.out
                          clear HA
                          simp only [impl_areDifferences.j2] at H
                          by_cases c27 : x102_16 = true
                          · subst c27
                            have H1 : (some false) = some r := by rw [if_pos rfl] at H; exact H
                            clear H
                            have H := H1
                            clear H1
                            obtain rfl := Option.some.inj H
                            go_wp2
                            repeat (go_quiet (fail); try go_wp2)
                            go_ret
                            exact ⟨by first | rfl | (simp [errW_none, errW_some] <;> rfl) | (simp only [← hji9]; first | rfl | (simp [errW_none, errW_some] <;> rfl)) | (simp [*, errW_none, errW_some] <;> rfl), by repeat (first | (with_reducible first | exact HB.out | apply below_alloc | apply pw_below_drewN | apply below_drew1) | exact HB.out)⟩
                          · replace c27 := Bool.eq_false_iff.mpr c27
                            subst c27
                            have H1 : (impl_areDifferences.l1 kj16 a0 t178 x7_2 l1 (l1.length : Int) x36_2 (rd_L1 l1 x36_2) ((rd_L1 l1 x36_2).length : Int) 0) = some r := by rw [if_neg (show ¬ (false = true) by decide)] at H; exact H
                            clear H
                            have H := H1
                            clear H1
                            have H' := Aside0.mk H
                            clear H
                            go_wp2
                            repeat (go_quiet (fail); try go_wp2)
                            go_loopg [105] kj16 (fun kq v105 w' => ∃ (x7_4 : List Bool) (x105_4 : Int), v105 = .int .i64 x105_4 ∧ Aside0 (impl_areDifferences.l1 kq a0 t178 x7_4 l1 (l1.length : Int) x36_2 (rd_L1 l1 x36_2) ((rd_L1 l1 x36_2).length : Int) x105_4 = some r) ∧ Aside0 (kq ≤ kj16) ∧ Aside0 (Kd.R Kd.bool 4 w' w.heap.size (fun _ => True) v182 x7_4) ∧ Aside0 (Below w.heap.size w w'))
                            case atStart => exact ⟨(x7_2), (0), (by first | rfl | (simp; done) | (simp [*]; done)), H', ⟨Nat.le_refl _⟩, ⟨by (with_reducible repeat (first | apply Kd.R_alloc | apply Kd.R_drewN | apply Kd.R_drew)); exact HO_7.out⟩, ⟨by repeat (first | (with_reducible first | exact HB.out | apply below_alloc | apply pw_below_drewN | apply below_drew1) | exact HB.out)⟩⟩
                            case round =>
                              clear H'
                              try clear c1
                              try clear p1
                              try clear q1
                              try clear hx1
                              try clear qi1
                              try clear c2
                              try clear p2
                              try clear c4
                              try clear c5
                              try clear c6
                              try clear c6b0
                              try clear c6b1
                              try clear p6
                              try clear c8
                              try clear c10
                              try clear c10b0
                              try clear c10b1
                              try clear c11
                              try clear c11b0
                              try clear c11b1
                              try clear c14
                              try clear c14b0
                              try clear c15
                              try clear c15b0
                              try clear c16
                              try clear c16b0
                              try clear c18
                              try clear c18b0
                              try clear c18b1
                              try clear p18
                              try clear q18
                              try clear hx18
                              try clear qi18
                              try clear c19
                              try clear c19b0
                              try clear c19b1
                              try clear p19
                              try clear q19
                              try clear hx19
                              try clear qi19
                              try clear c20
                              try clear c20b0
                              try clear c21
                              try clear c21b0
                              try clear c21b1
                              try clear c22
                              try clear c22b0
                              try clear c23
                              try clear c23b0
                              try clear c23b1
                              try clear c24
                              try clear c24b0
                              try clear c25
                              try clear c25b0
                              try clear c26
                              try clear c26b0
                              try clear c26b1
                              try clear c27
                              try clear hx184_0
                              try clear hx185_0
                              try clear hx186_0
                              try clear hx187_0
                              try clear hx188_0
                              try clear hx189_0
                              try clear hx190_0
                              try clear hx191_0
                              try clear hx192_0
                              try clear hx193_0
                              try clear hx194_0
                              try clear hx195_0
                              try clear hx196_0
                              try clear p1
                              try clear p18
                              try clear p184
                              try clear p185
                              try clear p186
                              try clear p187
                              try clear p188
                              try clear p189
                              try clear p19
                              try clear p190
                              try clear p191
                              try clear p192
                              try clear p193
                              try clear p194
                              try clear p195
                              try clear p196
                              try clear p2
                              try clear p6
                              try clear q1
                              try clear q18
                              try clear q184
                              try clear q185
                              try clear q186
                              try clear q187
                              try clear q188
                              try clear q189
                              try clear q19
                              try clear q190
                              try clear q191
                              try clear q192
                              try clear q193
                              try clear q194
                              try clear q195
                              try clear q196
                              obtain ⟨x7_4, x105_4, rfl, HA, HK4, HO_7, HB⟩ := hrel
                              cases gk with
                              | zero => exact absurd HA.out (by simp [impl_areDifferences.l1])
                              | succ k4 =>
                                have H := HA.out
                                clear HA
                                simp only [impl_areDifferences.l1] at H
                                by_cases c28 : x105_4 < ((rd_L1 l1 x36_2).length : Int)
                                · rw [if_pos c28] at H
                                  have c28b0 : decide (x105_4 < ((rd_L1 l1 x36_2).length : Int)) = true := decide_eq_true c28
                                  clear c28
                                  by_cases c29 : 0 ≤ x105_4
                                  · rw [if_pos c29] at H
                                    have c29b0 : decide (0 ≤ x105_4) = true := decide_eq_true c29
                                    clear c29
                                    by_cases c30 : x105_4 < ((rd_L1 l1 x36_2).length : Int)
                                    · rw [if_pos c30] at H
                                      have c30b0 : decide (x105_4 < ((rd_L1 l1 x36_2).length : Int)) = true := decide_eq_true c30
                                      clear c30
                                      by_cases c31 : 0 ≤ (rd (rd_L1 l1 x36_2) x105_4)
                                      · rw [if_pos c31] at H
                                        have c31b0 : decide (0 ≤ (rd (rd_L1 l1 x36_2) x105_4)) = true := decide_eq_true c31
                                        clear c31
                                        by_cases c32 : (rd (rd_L1 l1 x36_2) x105_4) < (x7_4.length : Int)
                                        · rw [if_pos c32] at H
                                          have c32b0 : decide ((rd (rd_L1 l1 x36_2) x105_4) < (x7_4.length : Int)) = true := decide_eq_true c32
                                          clear c32
                                          obtain ⟨bq33, hbq33⟩ : ∃ b_ : Bool, b_ = (rdOf false x7_4 (rd (rd_L1 l1 x36_2) x105_4)) := ⟨_, rfl⟩
                                          replace H : (if bq33 = true then (some false) else (impl_areDifferences.l1 k4 a0 t178 (x7_4.set ((rd (rd_L1 l1 x36_2) x105_4) : Int).toNat true) l1 (l1.length : Int) x36_2 (rd_L1 l1 x36_2) ((rd_L1 l1 x36_2).length : Int) (wrap64 (x105_4 + 1)))) = some r := by rw [← hbq33] at H; exact H
                                          have Nbq33 := Aside0.mk hbq33
                                          clear hbq33
                                          by_cases c34 : bq33 = true
                                          · subst c34
                                            have H1 : (some false) = some r := by rw [if_pos rfl] at H; exact H
                                            clear H
                                            have H := H1
                                            clear H1
                                            obtain rfl := Option.some.inj H
                                            have p197 : 0 ≤ (x105_4 : Int) := of_decide_eq_true (by first | (with_reducible assumption) | assumption)
                                            have q197 : x105_4 < ((rd_L1 l1 x36_2).length : Int) := of_decide_eq_true (by first | (with_reducible assumption) | assumption)
                                            obtain ⟨ad197, e197, hx197_0⟩ := Kd.at_int HR184_0.out x105_4 p197 q197
                                            cases e197
                                            replace hx197_0 := (HB.out.cell (World.block_lt_of_cell? w _ hx197_0)).trans hx197_0
                                            replace p197 := eq_true p197
                                            replace q197 := eq_true q197
                                            obtain ⟨Ao35, co35, eo35⟩ := Kd.R_slice HO_7.out
                                            subst eo35
                                            have p198 : 0 ≤ ((rd (rd_L1 l1 x36_2) x105_4) : Int) := of_decide_eq_true (by first | (with_reducible assumption) | assumption)
                                            have q198 : (rd (rd_L1 l1 x36_2) x105_4) < (x7_4.length : Int) := of_decide_eq_true (by first | (with_reducible assumption) | assumption)
                                            obtain ⟨ad198, e198, hx198_0⟩ := Kd.at_bool (Kd.R_reads' HO_7.out).2.2 (rd (rd_L1 l1 x36_2) x105_4) p198 q198
                                            (try rw [← Nbq33.out] at hx198_0)
                                            cases e198
                                            replace p198 := eq_true p198
                                            replace q198 := eq_true q198
                                            go_wp2
                                            repeat (go_quiet (fail); try go_wp2)
                                            go_ret
                                            exact ⟨by first | rfl | (simp [errW_none, errW_some] <;> rfl) | (simp only [← hji9]; first | rfl | (simp [errW_none, errW_some] <;> rfl)) | (simp [*, errW_none, errW_some] <;> rfl), by repeat (first | (with_reducible first | exact HB.out | apply below_alloc | apply pw_below_drewN | apply below_drew1) | exact HB.out)⟩
                                          · replace c34 := Bool.eq_false_iff.mpr c34
                                            subst c34
                                            have H1 : (impl_areDifferences.l1 k4 a0 t178 (x7_4.set ((rd (rd_L1 l1 x36_2) x105_4) : Int).toNat true) l1 (l1.length : Int) x36_2 (rd_L1 l1 x36_2) ((rd_L1 l1 x36_2).length : Int) (wrap64 (x105_4 + 1))) = some r := by rw [if_neg (show ¬ (false = true) by decide)] at H; exact H
                                            clear H
                                            have H := H1
                                            clear H1
                                            obtain ⟨y199, hy199⟩ : ∃ y_ : List Bool, y_ = (x7_4.set ((rd (rd_L1 l1 x36_2) x105_4) : Int).toNat true) := ⟨_, rfl⟩
                                            replace H : (impl_areDifferences.l1 k4 a0 t178 y199 l1 (l1.length : Int) x36_2 (rd_L1 l1 x36_2) ((rd_L1 l1 x36_2).length : Int) (wrap64 (x105_4 + 1))) = some r := by first | (rw [hy199]; with_reducible exact H) | (have H2_ := (Option.bind_some _ _).symm.trans H; rw [hy199]; with_reducible exact H2_) | (have H2_ := (Option.bind_some _ _).symm.trans H; with_reducible exact H2_) | with_reducible exact H | (rw [hy199]; exact H) | exact H
                                            have Ny199 := Aside0.mk hy199
                                            clear hy199
                                            have H' := Aside0.mk H
                                            clear H
                                            have p197 : 0 ≤ (x105_4 : Int) := of_decide_eq_true (by first | (with_reducible assumption) | assumption)
                                            have q197 : x105_4 < ((rd_L1 l1 x36_2).length : Int) := of_decide_eq_true (by first | (with_reducible assumption) | assumption)
                                            obtain ⟨ad197, e197, hx197_0⟩ := Kd.at_int HR184_0.out x105_4 p197 q197
                                            cases e197
                                            replace hx197_0 := (HB.out.cell (World.block_lt_of_cell? w _ hx197_0)).trans hx197_0
                                            replace p197 := eq_true p197
                                            replace q197 := eq_true q197
                                            obtain ⟨Ao37, co37, eo37⟩ := Kd.R_slice HO_7.out
                                            subst eo37
                                            have p198 : 0 ≤ ((rd (rd_L1 l1 x36_2) x105_4) : Int) := of_decide_eq_true (by first | (with_reducible assumption) | assumption)
                                            have q198 : (rd (rd_L1 l1 x36_2) x105_4) < (x7_4.length : Int) := of_decide_eq_true (by first | (with_reducible assumption) | assumption)
                                            obtain ⟨ad198, e198, hx198_0⟩ := Kd.at_bool (Kd.R_reads' HO_7.out).2.2 (rd (rd_L1 l1 x36_2) x105_4) p198 q198
                                            (try rw [← Nbq33.out] at hx198_0)
                                            cases e198
                                            replace p198 := eq_true p198
                                            replace q198 := eq_true q198
                                            have p36 : 0 ≤ ((rd (rd_L1 l1 x36_2) x105_4) : Int) := of_decide_eq_true (by first | (with_reducible assumption) | assumption)
                                            have q36 : ((rd (rd_L1 l1 x36_2) x105_4) : Int) < ((x7_4.length : Int) : Int) := of_decide_eq_true (by first | (with_reducible assumption) | assumption)
                                            obtain ⟨go36, co36, eo36, gb36, gl36, cl36, HG36⟩ := Kd.R_form HO_7.out (by omega)
                                            (first | cases eo36 | (injection eo36 with ea_ en_ ec_; (first | subst ea_ | (injection ea_ with ea_; subst ea_)); subst ec_; clear en_))
                                            have GB36 := Aside0.mk gb36
                                            have GG36 := Aside0.mk HG36
                                            clear gb36 gl36 HG36
                                            (first | simp only [add_plain] at hx198_0 | skip)
                                            obtain ⟨hx36_0, hf36_0⟩ := Kd.R_celln false HO_7.out ((rd (rd_L1 l1 x36_2) x105_4) : Int) p36 q36
                                            replace p36 := eq_true p36
                                            replace q36 := eq_true q36
                                            have HP38 := Kd.R_putg HO_7.out ((rd (rd_L1 l1 x36_2) x105_4) : Int) true
                                            go_wp2_with (first | ((with_reducible refine gate_store (t := 4) (p := 115) rfl ?_); (try (rw [drewN_self wr]; generalize hq_ : World.drewN wr _ = wr; have n0_ := Aside0.mk (Kd.R_at hq_ HO_7.out); have n1_ := Aside0.mk (below_at hq_ HB.out); clear hq_ HO_7 HB; have HO_7 := n0_; have HB := n1_; clear n0_ n1_; (try (have HP38 := Kd.R_putg HO_7.out ((rd (rd_L1 l1 x36_2) x105_4) : Int) true)))); refine store_event (t := 4) (p := 115) (v := ?vo_w39) (w1 := (wr.setCell ⟨go36, ((rd (rd_L1 l1 x36_2) x105_4) : Int).toNat, none⟩ (.bool true))) ?hg ?ho ?hn ?hr ?_; (case ho => rfl); (case hg => rfl); (case hn => rfl); (case hr => first | (go_simp; done) | (go_simp; rfl)); intro w39 hw; have hg : wr.grownBy w39 (some go36) := (by rw [hw]; exact HP38.2); have hp_ : Kd.R Kd.bool 4 w39 w.heap.size (fun _ => True) (.slice (some ⟨go36, 0, none⟩) x7_4.length co37) y199 := (by rw [hw, Ny199.out]; exact HP38.1); clear HP38; have n0_ := Aside0.mk (hp_); have n1_ := Aside0.mk ((by rw [hw]; exact below_set (HB.out) GB36.out : Below w.heap.size w w39)); clear HO_7; clear HB; have HO_7 := n0_; have HB := n1_; clear n0_ n1_; clear hg hw hp_))
                                            repeat (go_quiet (first | ((with_reducible refine gate_store (t := 4) (p := 115) rfl ?_); (try (rw [drewN_self wr]; generalize hq_ : World.drewN wr _ = wr; have n0_ := Aside0.mk (Kd.R_at hq_ HO_7.out); have n1_ := Aside0.mk (below_at hq_ HB.out); clear hq_ HO_7 HB; have HO_7 := n0_; have HB := n1_; clear n0_ n1_; (try (have HP38 := Kd.R_putg HO_7.out ((rd (rd_L1 l1 x36_2) x105_4) : Int) true)))); refine store_event (t := 4) (p := 115) (v := ?vo_w39) (w1 := (wr.setCell ⟨go36, ((rd (rd_L1 l1 x36_2) x105_4) : Int).toNat, none⟩ (.bool true))) ?hg ?ho ?hn ?hr ?_; (case ho => rfl); (case hg => rfl); (case hn => rfl); (case hr => first | (go_simp; done) | (go_simp; rfl)); intro w39 hw; have hg : wr.grownBy w39 (some go36) := (by rw [hw]; exact HP38.2); have hp_ : Kd.R Kd.bool 4 w39 w.heap.size (fun _ => True) (.slice (some ⟨go36, 0, none⟩) x7_4.length co37) y199 := (by rw [hw, Ny199.out]; exact HP38.1); clear HP38; have n0_ := Aside0.mk (hp_); have n1_ := Aside0.mk ((by rw [hw]; exact below_set (HB.out) GB36.out : Below w.heap.size w w39)); clear HO_7; clear HB; have HO_7 := n0_; have HB := n1_; clear n0_ n1_; clear hg hw hp_)); try go_wp2_with (first | ((with_reducible refine gate_store (t := 4) (p := 115) rfl ?_); (try (rw [drewN_self wr]; generalize hq_ : World.drewN wr _ = wr; have n0_ := Aside0.mk (Kd.R_at hq_ HO_7.out); have n1_ := Aside0.mk (below_at hq_ HB.out); clear hq_ HO_7 HB; have HO_7 := n0_; have HB := n1_; clear n0_ n1_; (try (have HP38 := Kd.R_putg HO_7.out ((rd (rd_L1 l1 x36_2) x105_4) : Int) true)))); refine store_event (t := 4) (p := 115) (v := ?vo_w39) (w1 := (wr.setCell ⟨go36, ((rd (rd_L1 l1 x36_2) x105_4) : Int).toNat, none⟩ (.bool true))) ?hg ?ho ?hn ?hr ?_; (case ho => rfl); (case hg => rfl); (case hn => rfl); (case hr => first | (go_simp; done) | (go_simp; rfl)); intro w39 hw; have hg : wr.grownBy w39 (some go36) := (by rw [hw]; exact HP38.2); have hp_ : Kd.R Kd.bool 4 w39 w.heap.size (fun _ => True) (.slice (some ⟨go36, 0, none⟩) x7_4.length co37) y199 := (by rw [hw, Ny199.out]; exact HP38.1); clear HP38; have n0_ := Aside0.mk (hp_); have n1_ := Aside0.mk ((by rw [hw]; exact below_set (HB.out) GB36.out : Below w.heap.size w w39)); clear HO_7; clear HB; have HO_7 := n0_; have HB := n1_; clear n0_ n1_; clear hg hw hp_)))
                                            go_roundg k4
                                            case measure => have := HJ3.out; have := HK2.out; have := HJ16.out; have := HK4.out; omega
                                            case rel => exact ⟨(y199), (wrap64 (x105_4 + 1)), (by first | rfl | (simp; done) | (simp [*]; done)), H', ⟨by have := HJ3.out; have := HK2.out; have := HJ16.out; have := HK4.out; omega⟩, ⟨by (with_reducible repeat (first | apply Kd.R_alloc | apply Kd.R_drewN | apply Kd.R_drew)); exact HO_7.out⟩, ⟨by repeat (first | (with_reducible first | exact HB.out | apply below_alloc | apply pw_below_drewN | apply below_drew1) | exact HB.out)⟩⟩
                                        · rw [if_neg c32] at H
                                          exact absurd H (by simp)
                                      · rw [if_neg c31] at H
                                        exact absurd H (by simp)
                                    · rw [if_neg c30] at H
                                      exact absurd H (by simp)
                                  · rw [if_neg c29] at H
                                    exact absurd H (by simp)
                                · rw [if_neg c28] at H
                                  have c28b0 : decide (x105_4 < ((rd_L1 l1 x36_2).length : Int)) = false := decide_eq_false c28
                                  clear c28
                                  have H' := Aside0.mk H
                                  clear H
                                  go_wp2
                                  repeat (go_quiet (fail); try go_wp2)
                                  go_roundg k4
                                  case measure => have := HJ3.out; have := HK2.out; have := HJ16.out; have := HK4.out; omega
                                  case rel => exact ⟨(x7_4), (wrap64 (x36_2 + 1)), (by first | rfl | (simp; done) | (simp [*]; done)), H', ⟨by have := HJ3.out; have := HK2.out; have := HJ16.out; have := HK4.out; omega⟩, ⟨by (with_reducible repeat (first | apply Kd.R_alloc | apply Kd.R_drewN | apply Kd.R_drew)); exact HO_7.out⟩, ⟨by repeat (first | (with_reducible first | exact HB.out | apply below_alloc | apply pw_below_drewN | apply below_drew1) | exact HB.out)⟩⟩
                    · rw [if_neg c16] at H
                      exact absurd H (by simp)
                  · rw [if_neg c15] at H
                    exact absurd H (by simp)
                · rw [if_neg c14] at H
                  have c14b0 : decide (x36_2 < (l1.length : Int)) = false := decide_eq_false c14
                  clear c14
                  obtain rfl := Option.some.inj H
                  go_wp2
                  repeat (go_quiet (fail); try go_wp2)
                  go_ret
                  exact ⟨by first | rfl | (simp [errW_none, errW_some] <;> rfl) | (simp only [← hji9]; first | rfl | (simp [errW_none, errW_some] <;> rfl)) | (simp [*, errW_none, errW_some] <;> rfl), by repeat (first | (with_reducible first | exact HB.out | apply below_alloc | apply pw_below_drewN | apply below_drew1) | exact HB.out)⟩
          · rw [if_neg c11] at H
            exact absurd H (by simp)
        · rw [if_neg c10] at H
          exact absurd H (by simp)

end Go.Proofs.Ytpabfibmpannoaa.PFnExactFamilyOfTriples
