/- Echoes of dots: what the reference's and the program's EchoAt return; lists of at most 1048576 numbers. -/
import Derived.Test.YtblcajicogigpaaOwnDotsC
namespace Go.Proofs.Ytblcajicogigpaa.Own
open Go.RowKit Go.Proofs.YtblcajicogigpaaW.PrintWords Go.Proofs.YtblcajicogigpaaW.PrintLast Go.Proofs.YtblcajicogigpaaW.PrintMore
set_option linter.unusedVariables false
/-- Place j has an echo x further and y higher. -/
def Hit (l : List Int) (x y : Int) (j : Nat) : Prop := (0 ≤ (j : Int) + x ∧ (j : Int) + x ≤ (l.length : Int) - 1) ∧ rd l ((j : Int) + x) = rd l (j : Int) + y
noncomputable def echoes (l : List Int) (x y : Int) : Nat → Nat
  | 0 => 0
  | i + 1 => if tf (Hit l x y i) = true then echoes l x y i + 1 else echoes l x y i
theorem echoes_yes {l : List Int} {x y : Int} {i : Nat} (h : Hit l x y i) : echoes l x y (i + 1) = echoes l x y i + 1 := if_pos (tf_pos h)
theorem echoes_no {l : List Int} {x y : Int} {i : Nat} (h : ¬ Hit l x y i) : echoes l x y (i + 1) = echoes l x y i := if_neg (by rw [tf_neg h]; decide)
theorem echoes_le (l : List Int) (x y : Int) (i : Nat) : echoes l x y i ≤ i := by
  induction i with
  | zero => simp [echoes]
  | succ i ih =>
    by_cases h : Hit l x y i
    · rw [echoes_yes h]; omega
    · rw [echoes_no h]; omega
def Off (x y : Int) : Prop := ((-12 ≤ x ∧ x ≤ 12) ∧ (-12 ≤ y ∧ y ≤ 12)) ∧ ¬ (x = 0 ∧ y = 0)
noncomputable def EchoF (l : List Int) (x y : Int) : Int × Bool := if tf (Dots l ∧ Off x y) = true then ((echoes l x y l.length : Int), true) else (0, false)
theorem EchoF_yes {l : List Int} {x y : Int} (h : Dots l ∧ Off x y) : EchoF l x y = ((echoes l x y l.length : Int), true) := if_pos (tf_pos h)
theorem EchoF_no {l : List Int} {x y : Int} (h : ¬ (Dots l ∧ Off x y)) : EchoF l x y = (0, false) := if_neg (by rw [tf_neg h]; decide)
set_option maxHeartbeats 3200000 in
theorem specEchoAt_calls (A : Option Addr) (c : Nat) (l : List Int) (x y : Int) (w : World) (hr : Rd w A l) (hc : l.length ≤ c) (hn : l.length ≤ 1048576) (hw : ∀ x ∈ l, W64 x) (hx : W64 x) (hy : W64 y) :
    Calls Try.prog 33 #[.slice A l.length c, .int .i64 x, .int .i64 y] w fun e w' => e = .returned (.tuple #[.int .i64 (EchoF l x y).1, .bool (EchoF l x y).2]) ∧ Below w.heap.size w w' := by
  have HR := Aside0.mk hr
  have HC := Aside0.mk hc
  clear hr hc hw hx hy
  have HB := Aside0.mk (Below.refl w.heap.size w)
  by_cases hd : Dots l
  · have H1 := Aside0.mk (tf_pos hd)
    by_cases hx : -12 ≤ x ∧ x ≤ 12
    · have H2 := Aside0.mk (within_yes hx)
      by_cases hy : -12 ≤ y ∧ y ≤ 12
      · have H3 := Aside0.mk (within_yes hy)
        by_cases hxy : x = 0 ∧ y = 0
        · have HF := Aside0.mk (EchoF_no (fun h => h.2.2 hxy : ¬ (Dots l ∧ Off x y)))
          obtain ⟨rfl, rfl⟩ := hxy
          clear hd hx hy
          go_enter Try.func33, Try.ntmps33
          go_wp2_with (first | (go_at_call 51; refine (doGood_calls _ _ l _ HR.out HC.out hn).mono ?_; rw [H1.out]; rintro e w' ⟨rfl, ⟨nd, rfl⟩⟩) | (go_at_call 43; refine (in_calls _ _ _ _).mono ?_; rw [H2.out]; rintro e w' ⟨rfl, ⟨nd2, rfl⟩⟩))
          go_ret2
          exact ⟨by rw [HF.out]; rfl, (by repeat (first | (with_reducible first | exact HB.out | apply below_alloc | apply pw_below_drewN | apply below_drew1) | exact HB.out))⟩
        · have HF := Aside0.mk (EchoF_yes ⟨hd, ⟨hx, hy⟩, hxy⟩)
          have HD := Aside0.mk hd
          have HX := Aside0.mk hx
          have HY := Aside0.mk hy
          have hxy' : (x = 0 ∧ ¬ y = 0) ∨ ¬ x = 0 := by omega
          clear hxy hd
          go_enter Try.func33, Try.ntmps33
          go_upto_region 1 with (fail)
          go_cut [31] (fun v31 wc => v31 = .bool false ∧ Drawn0 w wc)
          case first =>
            rcases hxy' with ⟨rfl, hy0⟩ | hx0
            all_goals
              go_wp2_with (first | (go_at_call 51; refine (doGood_calls _ _ l _ HR.out HC.out hn).mono ?_; rw [H1.out]; rintro e w' ⟨rfl, ⟨nd, rfl⟩⟩) | (go_at_call 43; refine (in_calls _ _ _ _).mono ?_; (first | rw [H2.out] | rw [H3.out]); rintro e w' ⟨rfl, ⟨nd2, rfl⟩⟩))
              go_meet
              case rel => exact ⟨by first | rfl | (simp; first | assumption | omega), (by repeat (first | exact Drawn0.refl _ | apply Drawn0.step))⟩
          case rest =>
            obtain ⟨rfl, ⟨m0, rfl⟩⟩ := hcut
            clear H1 H2 H3 hxy'
            (go_wp2; repeat (go_quiet (fail); try go_wp2))
            go_loopg [8, 34] l.length (fun g v8 v34 w' => ∃ i m : Nat, v8 = .int .i64 m ∧ v34 = .int .i64 i ∧ Aside0 (m = echoes l x y i) ∧ Aside0 (i + g = l.length) ∧ Drawn0 w w')
            case atStart => exact ⟨0, 0, rfl, rfl, ⟨rfl⟩, ⟨by omega⟩, (by repeat (first | exact Drawn0.refl _ | apply Drawn0.step))⟩
            case round =>
              obtain ⟨i, m, rfl, rfl, HM, HI, ⟨m1, rfl⟩⟩ := hrel
              by_cases hlt : i < l.length
              · obtain ⟨ad, rfl, hc1⟩ := at_nat HR.out hlt
                have hm : m ≤ 1048576 := by have := echoes_le l x y i; rw [HM.out]; omega
                have bi := Small_rd (Dots_small HD.out) hlt
                by_cases hz : 0 ≤ (i : Int) + x ∧ (i : Int) + x ≤ (l.length : Int) - 1
                · have HT := Aside0.mk (within_yes hz)
                  have z0 := hz.1
                  have z1 : (i : Int) + x < (l.length : Int) := by omega
                  obtain ⟨ad2, e2, hc2⟩ := Kd.at_int HR.out ((i : Int) + x) z0 z1
                  obtain rfl : ad = ad2 := by injection e2
                  clear e2
                  by_cases hq : rd l ((i : Int) + x) = rd l (i : Int) + y
                  · have HM2 := Aside0.mk (echoes_yes (show Hit l x y i from ⟨hz, hq⟩))
                    have ht : (rd l ((i : Int) + x) == rd l (i : Int) + y) = true := beq_iff_eq.mpr hq
                    clear hq hz
                    go_wp2_with (go_at_call 43; refine (in_calls _ _ _ _).mono ?_; rw [HT.out]; rintro e w' ⟨rfl, ⟨nd2, rfl⟩⟩)
                    go_roundg (gk - 1)
                    case measure => have := HI.out; omega
                    case rel => exact ⟨i + 1, m + 1, by go_num, by go_num, ⟨by rw [HM2.out, HM.out]⟩, ⟨by have := HI.out; omega⟩, (by repeat (first | exact Drawn0.refl _ | apply Drawn0.step))⟩
                  · have HM2 := Aside0.mk (echoes_no (fun h => hq h.2 : ¬ Hit l x y i))
                    have ht : (rd l ((i : Int) + x) == rd l (i : Int) + y) = false := beq_eq_false_iff_ne.mpr hq
                    clear hq hz
                    go_wp2_with (go_at_call 43; refine (in_calls _ _ _ _).mono ?_; rw [HT.out]; rintro e w' ⟨rfl, ⟨nd2, rfl⟩⟩)
                    go_roundg (gk - 1)
                    case measure => have := HI.out; omega
                    case rel => exact ⟨i + 1, m, by first | rfl | go_num, by go_num, ⟨by rw [HM2.out, HM.out]⟩, ⟨by have := HI.out; omega⟩, (by repeat (first | exact Drawn0.refl _ | apply Drawn0.step))⟩
                · have HT := Aside0.mk (within_no hz)
                  have HM2 := Aside0.mk (echoes_no (fun h => hz h.1 : ¬ Hit l x y i))
                  clear hz
                  go_wp2_with (go_at_call 43; refine (in_calls _ _ _ _).mono ?_; rw [HT.out]; rintro e w' ⟨rfl, ⟨nd2, rfl⟩⟩)
                  go_roundg (gk - 1)
                  case measure => have := HI.out; omega
                  case rel => exact ⟨i + 1, m, by first | rfl | go_num, by go_num, ⟨by rw [HM2.out, HM.out]⟩, ⟨by have := HI.out; omega⟩, (by repeat (first | exact Drawn0.refl _ | apply Drawn0.step))⟩
              · have HE := Aside0.mk (show m = echoes l x y l.length by rw [HM.out, show i = l.length by have := HI.out; omega])
                (go_wp2; repeat (go_quiet (fail); try go_wp2))
                go_ret2
                exact ⟨by rw [HF.out, ← HE.out]; rfl, (by repeat (first | (with_reducible first | exact HB.out | apply below_alloc | apply pw_below_drewN | apply below_drew1) | exact HB.out))⟩
      · have H3 := Aside0.mk (within_no hy)
        have HF := Aside0.mk (EchoF_no (fun h => hy h.2.1.2 : ¬ (Dots l ∧ Off x y)))
        clear hd hx hy
        go_enter Try.func33, Try.ntmps33
        go_wp2_with (first | (go_at_call 51; refine (doGood_calls _ _ l _ HR.out HC.out hn).mono ?_; rw [H1.out]; rintro e w' ⟨rfl, ⟨nd, rfl⟩⟩) | (go_at_call 43; refine (in_calls _ _ _ _).mono ?_; (first | rw [H2.out] | rw [H3.out]); rintro e w' ⟨rfl, ⟨nd2, rfl⟩⟩))
        go_ret2
        exact ⟨by rw [HF.out]; rfl, (by repeat (first | (with_reducible first | exact HB.out | apply below_alloc | apply pw_below_drewN | apply below_drew1) | exact HB.out))⟩
    · have H2 := Aside0.mk (within_no hx)
      have HF := Aside0.mk (EchoF_no (fun h => hx h.2.1.1 : ¬ (Dots l ∧ Off x y)))
      clear hd hx
      go_enter Try.func33, Try.ntmps33
      go_wp2_with (first | (go_at_call 51; refine (doGood_calls _ _ l _ HR.out HC.out hn).mono ?_; rw [H1.out]; rintro e w' ⟨rfl, ⟨nd, rfl⟩⟩) | (go_at_call 43; refine (in_calls _ _ _ _).mono ?_; rw [H2.out]; rintro e w' ⟨rfl, ⟨nd2, rfl⟩⟩))
      go_ret2
      exact ⟨by rw [HF.out]; rfl, (by repeat (first | (with_reducible first | exact HB.out | apply below_alloc | apply pw_below_drewN | apply below_drew1) | exact HB.out))⟩
  · have H1 := Aside0.mk (tf_neg hd)
    have HF := Aside0.mk (EchoF_no (fun h => hd h.1 : ¬ (Dots l ∧ Off x y)))
    clear hd
    go_enter Try.func33, Try.ntmps33
    go_wp2_with (go_at_call 51; refine (doGood_calls _ _ l _ HR.out HC.out hn).mono ?_; rw [H1.out]; rintro e w' ⟨rfl, ⟨nd, rfl⟩⟩)
    go_ret2
    exact ⟨by rw [HF.out]; rfl, (by repeat (first | (with_reducible first | exact HB.out | apply below_alloc | apply pw_below_drewN | apply below_drew1) | exact HB.out))⟩
set_option maxHeartbeats 3200000 in
theorem implEchoAt_calls (A : Option Addr) (c : Nat) (l : List Int) (x y : Int) (w : World) (hr : Rd w A l) (hc : l.length ≤ c) (hn : l.length ≤ 1048576) (hw : ∀ x ∈ l, W64 x) (hx : W64 x) (hy : W64 y) :
    Calls Try.prog 34 #[.slice A l.length c, .int .i64 x, .int .i64 y] w fun e w' => e = .returned (.tuple #[.int .i64 (EchoF l x y).1, .bool (EchoF l x y).2]) ∧ Below w.heap.size w w' := by
  have HR := Aside0.mk hr
  have HC := Aside0.mk hc
  clear hr hc hw hx hy
  have HB := Aside0.mk (Below.refl w.heap.size w)
  by_cases hd : Dots l
  · have H1 := Aside0.mk (tf_pos hd)
    by_cases ho : Off x y
    · have HF := Aside0.mk (EchoF_yes ⟨hd, ho⟩)
      have HD := Aside0.mk hd
      have hx := ho.1.1
      have hy := ho.1.2
      have hxy' : (x = 0 ∧ ¬ y = 0) ∨ ¬ x = 0 := by have := ho.2; omega
      clear ho hd
      go_enter Try.func34, Try.ntmps34
      go_upto_region 1 with (fail)
      go_cut [37] (fun v37 wc => v37 = .bool false ∧ Drawn0 w wc)
      case first =>
        rcases hxy' with ⟨rfl, hy0⟩ | hx0
        all_goals
          go_wp2_with (go_at_call 32; refine (IsDots_calls _ _ l _ HR.out HC.out hn).mono ?_; rw [H1.out]; rintro e w' ⟨rfl, ⟨nd, rfl⟩⟩)
          go_meet
          case rel => exact ⟨by first | rfl | (simp; first | assumption | omega), (by repeat (first | exact Drawn0.refl _ | apply Drawn0.step))⟩
      case rest =>
        obtain ⟨rfl, ⟨m0, rfl⟩⟩ := hcut
        clear H1 hxy'
        (go_wp2; repeat (go_quiet (fail); try go_wp2))
        go_loopg [8, 40] l.length (fun g v8 v40 w' => ∃ i m : Nat, v8 = .int .i64 m ∧ v40 = .int .i64 i ∧ Aside0 (m = echoes l x y i) ∧ Aside0 (i + g = l.length) ∧ Drawn0 w w')
        case atStart => exact ⟨0, 0, rfl, rfl, ⟨rfl⟩, ⟨by omega⟩, (by repeat (first | exact Drawn0.refl _ | apply Drawn0.step))⟩
        case round =>
          obtain ⟨i, m, rfl, rfl, HM, HI, ⟨m1, rfl⟩⟩ := hrel
          by_cases hlt : i < l.length
          · obtain ⟨ad, rfl, hc1⟩ := at_nat HR.out hlt
            have hm : m ≤ 1048576 := by have := echoes_le l x y i; rw [HM.out]; omega
            have bi := Small_rd (Dots_small HD.out) hlt
            by_cases hz0 : 0 ≤ (i : Int) + x
            · by_cases hz1 : (i : Int) + x < (l.length : Int)
              · obtain ⟨ad2, e2, hc2⟩ := Kd.at_int HR.out ((i : Int) + x) hz0 hz1
                obtain rfl : ad = ad2 := by injection e2
                clear e2
                by_cases hq : rd l ((i : Int) + x) = rd l (i : Int) + y
                · have HM2 := Aside0.mk (echoes_yes (show Hit l x y i from ⟨⟨hz0, by omega⟩, hq⟩))
                  have ht : (rd l ((i : Int) + x) == rd l (i : Int) + y) = true := beq_iff_eq.mpr hq
                  clear hq
                  (go_wp2; repeat (go_quiet (fail); try go_wp2))
                  go_roundg (gk - 1)
                  case measure => have := HI.out; omega
                  case rel => exact ⟨i + 1, m + 1, by go_num, by go_num, ⟨by rw [HM2.out, HM.out]⟩, ⟨by have := HI.out; omega⟩, (by repeat (first | exact Drawn0.refl _ | apply Drawn0.step))⟩
                · have HM2 := Aside0.mk (echoes_no (fun h => hq h.2 : ¬ Hit l x y i))
                  have ht : (rd l ((i : Int) + x) == rd l (i : Int) + y) = false := beq_eq_false_iff_ne.mpr hq
                  clear hq
                  (go_wp2; repeat (go_quiet (fail); try go_wp2))
                  go_roundg (gk - 1)
                  case measure => have := HI.out; omega
                  case rel => exact ⟨i + 1, m, by first | rfl | go_num, by go_num, ⟨by rw [HM2.out, HM.out]⟩, ⟨by have := HI.out; omega⟩, (by repeat (first | exact Drawn0.refl _ | apply Drawn0.step))⟩
              · have HM2 := Aside0.mk (echoes_no (fun h => hz1 (by have := h.1.2; omega) : ¬ Hit l x y i))
                (go_wp2; repeat (go_quiet (fail); try go_wp2))
                go_roundg (gk - 1)
                case measure => have := HI.out; omega
                case rel => exact ⟨i + 1, m, by first | rfl | go_num, by go_num, ⟨by rw [HM2.out, HM.out]⟩, ⟨by have := HI.out; omega⟩, (by repeat (first | exact Drawn0.refl _ | apply Drawn0.step))⟩
            · have HM2 := Aside0.mk (echoes_no (fun h => hz0 h.1.1 : ¬ Hit l x y i))
              (go_wp2; repeat (go_quiet (fail); try go_wp2))
              go_roundg (gk - 1)
              case measure => have := HI.out; omega
              case rel => exact ⟨i + 1, m, by first | rfl | go_num, by go_num, ⟨by rw [HM2.out, HM.out]⟩, ⟨by have := HI.out; omega⟩, (by repeat (first | exact Drawn0.refl _ | apply Drawn0.step))⟩
          · have HE := Aside0.mk (show m = echoes l x y l.length by rw [HM.out, show i = l.length by have := HI.out; omega])
            (go_wp2; repeat (go_quiet (fail); try go_wp2))
            go_ret2
            exact ⟨by rw [HF.out, ← HE.out]; rfl, (by repeat (first | (with_reducible first | exact HB.out | apply below_alloc | apply pw_below_drewN | apply below_drew1) | exact HB.out))⟩
    · have HF := Aside0.mk (EchoF_no (fun h => ho h.2 : ¬ (Dots l ∧ Off x y)))
      have hcs : x < -12 ∨ (-12 ≤ x ∧ 12 < x) ∨ ((-12 ≤ x ∧ x ≤ 12) ∧ (y < -12)) ∨ ((-12 ≤ x ∧ x ≤ 12) ∧ (-12 ≤ y ∧ 12 < y)) ∨ (x = 0 ∧ y = 0) := by
        by_cases h1 : -12 ≤ x ∧ x ≤ 12
        · by_cases h2 : -12 ≤ y ∧ y ≤ 12
          · exact .inr (.inr (.inr (.inr (Classical.byContradiction fun h => ho ⟨⟨h1, h2⟩, h⟩))))
          · omega
        · omega
      clear ho hd
      rcases hcs with h | ⟨h, h'⟩ | ⟨⟨h, h'⟩, h2⟩ | ⟨⟨h, h'⟩, h2, h3⟩ | ⟨rfl, rfl⟩
      all_goals
        go_enter Try.func34, Try.ntmps34
        go_wp2_with (go_at_call 32; refine (IsDots_calls _ _ l _ HR.out HC.out hn).mono ?_; rw [H1.out]; rintro e w' ⟨rfl, ⟨nd, rfl⟩⟩)
        go_ret2
        exact ⟨by rw [HF.out]; rfl, (by repeat (first | (with_reducible first | exact HB.out | apply below_alloc | apply pw_below_drewN | apply below_drew1) | exact HB.out))⟩
  · have H1 := Aside0.mk (tf_neg hd)
    have HF := Aside0.mk (EchoF_no (fun h => hd h.1 : ¬ (Dots l ∧ Off x y)))
    clear hd
    go_enter Try.func34, Try.ntmps34
    go_wp2_with (go_at_call 32; refine (IsDots_calls _ _ l _ HR.out HC.out hn).mono ?_; rw [H1.out]; rintro e w' ⟨rfl, ⟨nd, rfl⟩⟩)
    go_ret2
    exact ⟨by rw [HF.out]; rfl, (by repeat (first | (with_reducible first | exact HB.out | apply below_alloc | apply pw_below_drewN | apply below_drew1) | exact HB.out))⟩
end Go.Proofs.Ytblcajicogigpaa.Own
