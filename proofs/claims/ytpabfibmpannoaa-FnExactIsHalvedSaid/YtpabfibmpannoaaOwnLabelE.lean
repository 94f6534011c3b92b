/- Halved labels: what the reference's and the program's IsHalved return; lists of at most 1048576 numbers. -/
import Derived.Test.YtpabfibmpannoaaOwnLabelD
namespace Go.Proofs.Ytpabfibmpannoaa.Own.G
open Go.RowKit Go.Proofs.YtpabfibmpannoaaW.PrintWords Go.Proofs.YtpabfibmpannoaaW.PrintLast Go.Proofs.YtpabfibmpannoaaW.PrintMore
set_option linter.unusedVariables false
def Cut (k y z : Int) : Prop := (y ≤ k ∧ k < z) ∨ (z ≤ k ∧ k < y)
/-- k parts the edges of the nodes below i. -/
def Halves (l m : List Int) (k : Int) (i : Nat) : Prop := ∀ j : Nat, 0 < j → j < i → Cut k (rd m (j : Int)) (rd m (rd l (j : Int)))
theorem Halves_one (l m : List Int) (k : Int) : tf (Halves l m k 1) = true := tf_pos fun j h0 h1 => absurd h1 (by omega)
theorem Halves_yes {l m : List Int} {k : Int} {i : Nat} (h : tf (Halves l m k i) = true) (hc : Cut k (rd m (i : Int)) (rd m (rd l (i : Int)))) : tf (Halves l m k (i + 1)) = true := by
  refine tf_pos fun j h0 h1 => ?_
  have h' : Halves l m k i := by
    refine Classical.byContradiction fun hn => ?_
    rw [tf_neg hn] at h
    exact absurd h (by decide)
  rcases Nat.lt_or_ge j i with h2 | h2
  · exact h' j h0 h2
  · rw [show j = i by omega]; exact hc
theorem Halves_no {l m : List Int} {k : Int} {i : Nat} (hi : 0 < i) (hc : ¬ Cut k (rd m (i : Int)) (rd m (rd l (i : Int)))) : tf (Halves l m k (i + 1)) = false := tf_neg fun h => hc (h i hi (by omega))
theorem Halves_off {l m : List Int} {k : Int} {i : Nat} (h : tf (Halves l m k i) = false) : tf (Halves l m k (i + 1)) = false := by
  refine tf_neg fun hn => ?_
  rw [tf_pos (show Halves l m k i from fun j h0 h1 => hn j h0 (by omega))] at h
  exact absurd h (by decide)
noncomputable def halfFrom (l m : List Int) : Nat → Nat → Int × Bool
  | 0, _ => (0, false)
  | f + 1, k => if tf (Halves l m (k : Int) l.length) = true then ((k : Int), true) else halfFrom l m f (k + 1)
theorem halfFrom_at {l m : List Int} {f k : Nat} (h : tf (Halves l m (k : Int) l.length) = true) : halfFrom l m (f + 1) k = ((k : Int), true) := if_pos h
theorem halfFrom_on {l m : List Int} {f k : Nat} (h : tf (Halves l m (k : Int) l.length) = false) : halfFrom l m (f + 1) k = halfFrom l m f (k + 1) := if_neg (by rw [h]; decide)
def HalfAsked (l m : List Int) : Prop := Asked l m ∧ Unl (edges l m (m.length - 1)) ∧ 2 ≤ l.length
noncomputable def HalfF (l m : List Int) : Int × Bool := if tf (HalfAsked l m) = true then halfFrom l m l.length 0 else (0, false)
theorem HalfF_yes {l m : List Int} (h : HalfAsked l m) : HalfF l m = halfFrom l m l.length 0 := if_pos (tf_pos h)
theorem HalfF_no {l m : List Int} (h : ¬ HalfAsked l m) : HalfF l m = (0, false) := if_neg (by rw [tf_neg h]; decide)
set_option maxHeartbeats 6400000 in
theorem specIsHalved_calls (A : Option Addr) (c : Nat) (l : List Int) (A' : Option Addr) (c' : Nat) (m : List Int) (w : World) (hr : Rd w A l) (hc : l.length ≤ c) (hn : l.length ≤ 1048576) (hw : ∀ x ∈ l, W64 x) (hr' : Rd w A' m) (hc' : m.length ≤ c') (hn' : m.length ≤ 1048576) (hw' : ∀ x ∈ m, W64 x) :
    Calls Try.prog 14 #[.slice A l.length c, .slice A' m.length c'] w fun e w' => e = .returned (.tuple #[.int .i64 (HalfF l m).1, .bool (HalfF l m).2]) ∧ Below w.heap.size w w' := by
  have HR := Aside0.mk hr
  have HC := Aside0.mk hc
  have HR' := Aside0.mk hr'
  have HC' := Aside0.mk hc'
  have HW := Aside0.mk hw
  have HW' := Aside0.mk hw'
  clear hr hc hr' hc' hw hw'
  have HB := Aside0.mk (Below.refl w.heap.size w)
  by_cases hd : Asked l m
  · have HD := Aside0.mk hd
    have H1 := Aside0.mk (tf_pos hd)
    have HML := Aside0.mk (Asked_len hd)
    have HLO := Aside0.mk (Asked_low hd)
    have hlen := hd.1.1.1
    by_cases hu : Unl (edges l m (m.length - 1))
    · have H2 := Aside0.mk (tf_pos hu)
      have HG := Aside0.mk (show GracefulF l m = (true, true) by rw [GracefulF_yes hd, tf_pos hu])
      by_cases h2 : 2 ≤ l.length
      · have HF := Aside0.mk (HalfF_yes ⟨hd, hu, h2⟩)
        obtain ⟨ad, hA, _⟩ := at_first HR.out (by omega)
        subst hA
        obtain ⟨ad', hA', _⟩ := at_first HR'.out (by have := HML.out; omega)
        subst hA'
        clear hd hu
        go_enter Try.func14, Try.ntmps14
        go_wp2_with (first | (go_at_call 38; refine (grAsked_calls _ _ l _ _ m _ (by first | exact HR.out | exact Kd.C_drewN HR.out _) HC.out hn (by first | exact HR'.out | exact Kd.C_drewN HR'.out _) HC'.out hn').mono ?_; rw [H1.out]; rintro e w' ⟨rfl, ⟨nd, rfl⟩⟩) | (go_at_call 39; refine (grGraceful_calls _ _ l _ _ m _ (by first | exact HR.out | exact Kd.C_drewN HR.out _) HC.out (by first | exact HR'.out | exact Kd.C_drewN HR'.out _) HC'.out HD.out.1 (Asked_low HD.out) HML.out).mono ?_; rw [H2.out]; rintro e w1 ⟨rfl, hb⟩; have n0_ := Aside0.mk (below_step (by repeat (first | (with_reducible first | exact HB.out | apply below_alloc | apply pw_below_drewN | apply below_drew1) | exact HB.out)) hb); clear HB hb; have HB := n0_; clear n0_))
        repeat (go_quiet (fail); try go_wp2)
        go_loopg [6] l.length (fun g vk w' => ∃ k : Nat, vk = .int .i64 k ∧ Aside0 (k + g = l.length) ∧ Aside0 (halfFrom l m g k = halfFrom l m l.length 0) ∧ Aside0 (Below w.heap.size w w'))
        case atStart => exact ⟨0, by first | rfl | go_num, ⟨by omega⟩, ⟨rfl⟩, ⟨(by repeat (first | (with_reducible first | exact HB.out | apply below_alloc | apply pw_below_drewN | apply below_drew1) | exact HB.out))⟩⟩
        case round =>
          clear HB
          obtain ⟨k, rfl, HK, HV, HB⟩ := hrel
          obtain ⟨go, rfl⟩ : ∃ go : Nat, go = gk := ⟨_, rfl⟩
          by_cases hk : k < l.length
          · go_wp2
            repeat (go_quiet (fail); try go_wp2)
            obtain ⟨wo, rfl⟩ : ∃ wo : World, wo = wr := ⟨_, rfl⟩
            go_loopg [7, 8] (l.length - 1) (fun g vg vn w' => ∃ (i : Nat) (b : Bool), vg = .bool b ∧ vn = .int .i64 i ∧ Aside0 (1 ≤ i) ∧ Aside0 (i + g = l.length) ∧ Aside0 (tf (Halves l m (k : Int) i) = b) ∧ Aside0 (Below w.heap.size w w'))
            case atStart => exact ⟨1, true, rfl, rfl, ⟨by omega⟩, ⟨by omega⟩, ⟨Halves_one _ _ _⟩, ⟨(by repeat (first | (with_reducible first | exact HB.out | apply below_alloc | apply pw_below_drewN | apply below_drew1) | exact HB.out))⟩⟩
            case round =>
              clear HB
              obtain ⟨i, b, rfl, rfl, HI1, HI, HT, HB⟩ := hrel
              by_cases hi : i < l.length
              · obtain ⟨ad1, e1, hx⟩ := at_nat HR.out hi
                obtain rfl : ad = ad1 := by injection e1
                clear e1
                obtain ⟨ad1, e1, hy⟩ := at_nat HR'.out (show i < m.length by have := HML.out; omega)
                obtain rfl : ad' = ad1 := by injection e1
                clear e1
                have ht := HD.out.1.2 i HI1.out hi
                have HCY := Aside0.mk (Halves_yes (l := l) (m := m) (k := (k : Int)) (i := i))
                have HCN := Aside0.mk (Halves_no (l := l) (m := m) (k := (k : Int)) (i := i) HI1.out)
                have HCO := Aside0.mk (Halves_off (l := l) (m := m) (k := (k : Int)) (i := i))
                obtain ⟨a, hae⟩ : ∃ a : Int, rd l (i : Int) = a := ⟨_, rfl⟩
                rw [hae] at hx ht HCY HCN
                clear hae
                have ha0 : 0 ≤ a := ht.1
                have ha : a < (m.length : Int) := by have := HML.out; omega
                obtain ⟨ad1, e1, hz⟩ := Kd.at_int HR'.out a ha0 ha
                obtain rfl : ad' = ad1 := by injection e1
                clear e1
                have him : (i : Int) < (m.length : Int) := by have := HML.out; omega
                generalize rd m (i : Int) = y at hy HCY HCN
                generalize rd m a = z at hz HCY HCN
                replace hx := (HB.out.cell (World.block_lt_of_cell? w _ hx)).trans hx
                replace hy := (HB.out.cell (World.block_lt_of_cell? w _ hy)).trans hy
                replace hz := (HB.out.cell (World.block_lt_of_cell? w _ hz)).trans hz
                cases b with
                | false =>
                  have HE := Aside0.mk (HCO.out HT.out)
                  go_wp2
                  repeat (go_quiet (fail); try go_wp2)
                  all_goals
                    go_roundg (gk - 1)
                    case measure => have := HI.out; omega
                    case rel => exact ⟨i + 1, false, by first | rfl | (simp; omega) | simp, by go_num, ⟨by omega⟩, ⟨by have := HI.out; omega⟩, HE, ⟨(by repeat (first | (with_reducible first | exact HB.out | apply below_alloc | apply pw_below_drewN | apply below_drew1) | exact HB.out))⟩⟩
                | true =>
                  by_cases hy1 : y ≤ (k : Int)
                  · by_cases hz1 : z ≤ (k : Int)
                    · have HE := Aside0.mk (HCN.out (by unfold Cut; omega))
                      have hmn : ¬ (k : Int) < max y z := by omega
                      go_wp2
                      repeat (go_quiet (fail); try go_wp2)
                      all_goals
                        go_roundg (gk - 1)
                        case measure => have := HI.out; omega
                        case rel => exact ⟨i + 1, false, by first | rfl | (simp; omega) | simp, by go_num, ⟨by omega⟩, ⟨by have := HI.out; omega⟩, HE, ⟨(by repeat (first | (with_reducible first | exact HB.out | apply below_alloc | apply pw_below_drewN | apply below_drew1) | exact HB.out))⟩⟩
                    · have HE := Aside0.mk (HCY.out HT.out (by unfold Cut; omega))
                      go_wp2
                      repeat (go_quiet (fail); try go_wp2)
                      all_goals
                        go_roundg (gk - 1)
                        case measure => have := HI.out; omega
                        case rel => exact ⟨i + 1, true, by first | rfl | (simp; omega) | simp, by go_num, ⟨by omega⟩, ⟨by have := HI.out; omega⟩, HE, ⟨(by repeat (first | (with_reducible first | exact HB.out | apply below_alloc | apply pw_below_drewN | apply below_drew1) | exact HB.out))⟩⟩
                  · by_cases hz1 : z ≤ (k : Int)
                    · have HE := Aside0.mk (HCY.out HT.out (by unfold Cut; omega))
                      go_wp2
                      repeat (go_quiet (fail); try go_wp2)
                      all_goals
                        go_roundg (gk - 1)
                        case measure => have := HI.out; omega
                        case rel => exact ⟨i + 1, true, by first | rfl | (simp; omega) | simp, by go_num, ⟨by omega⟩, ⟨by have := HI.out; omega⟩, HE, ⟨(by repeat (first | (with_reducible first | exact HB.out | apply below_alloc | apply pw_below_drewN | apply below_drew1) | exact HB.out))⟩⟩
                    · have HE := Aside0.mk (HCN.out (by unfold Cut; omega))
                      go_wp2
                      repeat (go_quiet (fail); try go_wp2)
                      all_goals
                        go_roundg (gk - 1)
                        case measure => have := HI.out; omega
                        case rel => exact ⟨i + 1, false, by first | rfl | (simp; omega) | simp, by go_num, ⟨by omega⟩, ⟨by have := HI.out; omega⟩, HE, ⟨(by repeat (first | (with_reducible first | exact HB.out | apply below_alloc | apply pw_below_drewN | apply below_drew1) | exact HB.out))⟩⟩
              · have hie : i = l.length := by have := HI.out; omega
                have HT2 := Aside0.mk (show tf (Halves l m (k : Int) l.length) = b by have := HT.out; rwa [hie] at this)
                clear hie
                have hgo := Aside0.mk (show go = (go - 1) + 1 by have := HK.out; omega)
                cases b with
                | true =>
                  have HE := Aside0.mk (show HalfF l m = ((k : Int), true) by rw [HF.out, ← HV.out, hgo.out, halfFrom_at HT2.out])
                  go_wp2
                  repeat (go_quiet (fail); try go_wp2)
                  go_ret2
                  exact ⟨by rw [HE.out]; rfl, (by repeat (first | (with_reducible first | exact HB.out | apply below_alloc | apply pw_below_drewN | apply below_drew1) | exact HB.out))⟩
                | false =>
                  have HE := Aside0.mk (show halfFrom l m (go - 1) (k + 1) = halfFrom l m l.length 0 by rw [← HV.out, hgo.out, halfFrom_on HT2.out]; rfl)
                  go_wp2
                  repeat (go_quiet (fail); try go_wp2)
                  go_roundg (go - 1)
                  case measure => have := HK.out; omega
                  case rel => exact ⟨k + 1, by go_num, ⟨by have := HK.out; omega⟩, HE, ⟨(by repeat (first | (with_reducible first | exact HB.out | apply below_alloc | apply pw_below_drewN | apply below_drew1) | exact HB.out))⟩⟩
          · have HE := Aside0.mk (show HalfF l m = (0, false) by rw [HF.out, ← HV.out, show go = 0 by have := HK.out; omega]; rfl)
            go_wp2
            repeat (go_quiet (fail); try go_wp2)
            go_ret2
            exact ⟨by rw [HE.out]; rfl, (by repeat (first | (with_reducible first | exact HB.out | apply below_alloc | apply pw_below_drewN | apply below_drew1) | exact HB.out))⟩
      · have HF := Aside0.mk (HalfF_no (fun h => h2 h.2.2 : ¬ HalfAsked l m))
        clear hd hu
        go_enter Try.func14, Try.ntmps14
        go_wp2_with (first | (go_at_call 38; refine (grAsked_calls _ _ l _ _ m _ (by first | exact HR.out | exact Kd.C_drewN HR.out _) HC.out hn (by first | exact HR'.out | exact Kd.C_drewN HR'.out _) HC'.out hn').mono ?_; rw [H1.out]; rintro e w' ⟨rfl, ⟨nd, rfl⟩⟩) | (go_at_call 39; refine (grGraceful_calls _ _ l _ _ m _ (by first | exact HR.out | exact Kd.C_drewN HR.out _) HC.out (by first | exact HR'.out | exact Kd.C_drewN HR'.out _) HC'.out HD.out.1 (Asked_low HD.out) HML.out).mono ?_; rw [H2.out]; rintro e w1 ⟨rfl, hb⟩; have n0_ := Aside0.mk (below_step (by repeat (first | (with_reducible first | exact HB.out | apply below_alloc | apply pw_below_drewN | apply below_drew1) | exact HB.out)) hb); clear HB hb; have HB := n0_; clear n0_))
        repeat (go_quiet (fail); try go_wp2)
        go_ret2
        exact ⟨by rw [HF.out]; rfl, (by repeat (first | (with_reducible first | exact HB.out | apply below_alloc | apply pw_below_drewN | apply below_drew1) | exact HB.out))⟩
    · have H2 := Aside0.mk (tf_neg hu)
      have HG := Aside0.mk (show GracefulF l m = (false, true) by rw [GracefulF_yes hd, tf_neg hu])
      have HF := Aside0.mk (HalfF_no (fun h => hu h.2.1 : ¬ HalfAsked l m))
      clear hd hu
      go_enter Try.func14, Try.ntmps14
      go_wp2_with (first | (go_at_call 38; refine (grAsked_calls _ _ l _ _ m _ (by first | exact HR.out | exact Kd.C_drewN HR.out _) HC.out hn (by first | exact HR'.out | exact Kd.C_drewN HR'.out _) HC'.out hn').mono ?_; rw [H1.out]; rintro e w' ⟨rfl, ⟨nd, rfl⟩⟩) | (go_at_call 39; refine (grGraceful_calls _ _ l _ _ m _ (by first | exact HR.out | exact Kd.C_drewN HR.out _) HC.out (by first | exact HR'.out | exact Kd.C_drewN HR'.out _) HC'.out HD.out.1 (Asked_low HD.out) HML.out).mono ?_; rw [H2.out]; rintro e w1 ⟨rfl, hb⟩; have n0_ := Aside0.mk (below_step (by repeat (first | (with_reducible first | exact HB.out | apply below_alloc | apply pw_below_drewN | apply below_drew1) | exact HB.out)) hb); clear HB hb; have HB := n0_; clear n0_))
      repeat (go_quiet (fail); try go_wp2)
      go_ret2
      exact ⟨by rw [HF.out]; rfl, (by repeat (first | (with_reducible first | exact HB.out | apply below_alloc | apply pw_below_drewN | apply below_drew1) | exact HB.out))⟩
  · have H1 := Aside0.mk (tf_neg hd)
    have HG := Aside0.mk (GracefulF_no hd)
    have HF := Aside0.mk (HalfF_no (fun h => hd h.1 : ¬ HalfAsked l m))
    clear hd
    go_enter Try.func14, Try.ntmps14
    go_wp2_with (first | (go_at_call 38; refine (grAsked_calls _ _ l _ _ m _ (by first | exact HR.out | exact Kd.C_drewN HR.out _) HC.out hn (by first | exact HR'.out | exact Kd.C_drewN HR'.out _) HC'.out hn').mono ?_; rw [H1.out]; rintro e w' ⟨rfl, ⟨nd, rfl⟩⟩))
    repeat (go_quiet (fail); try go_wp2)
    go_ret2
    exact ⟨by rw [HF.out]; rfl, (by repeat (first | (with_reducible first | exact HB.out | apply below_alloc | apply pw_below_drewN | apply below_drew1) | exact HB.out))⟩
set_option maxHeartbeats 6400000 in
theorem implIsHalved_calls (A : Option Addr) (c : Nat) (l : List Int) (A' : Option Addr) (c' : Nat) (m : List Int) (w : World) (hr : Rd w A l) (hc : l.length ≤ c) (hn : l.length ≤ 1048576) (hw : ∀ x ∈ l, W64 x) (hr' : Rd w A' m) (hc' : m.length ≤ c') (hn' : m.length ≤ 1048576) (hw' : ∀ x ∈ m, W64 x) :
    Calls Try.prog 16 #[.slice A l.length c, .slice A' m.length c'] w fun e w' => e = .returned (.tuple #[.int .i64 (HalfF l m).1, .bool (HalfF l m).2]) ∧ Below w.heap.size w w' := by
  have HR := Aside0.mk hr
  have HC := Aside0.mk hc
  have HR' := Aside0.mk hr'
  have HC' := Aside0.mk hc'
  have HW := Aside0.mk hw
  have HW' := Aside0.mk hw'
  clear hr hc hr' hc' hw hw'
  have HB := Aside0.mk (Below.refl w.heap.size w)
  by_cases hd : Asked l m
  · have HD := Aside0.mk hd
    have H1 := Aside0.mk (tf_pos hd)
    have HML := Aside0.mk (Asked_len hd)
    have HLO := Aside0.mk (Asked_low hd)
    have hlen := hd.1.1.1
    by_cases hu : Unl (edges l m (m.length - 1))
    · have H2 := Aside0.mk (tf_pos hu)
      have HG := Aside0.mk (show GracefulF l m = (true, true) by rw [GracefulF_yes hd, tf_pos hu])
      by_cases h2 : 2 ≤ l.length
      · have HF := Aside0.mk (HalfF_yes ⟨hd, hu, h2⟩)
        obtain ⟨ad, hA, _⟩ := at_first HR.out (by omega)
        subst hA
        obtain ⟨ad', hA', _⟩ := at_first HR'.out (by have := HML.out; omega)
        subst hA'
        clear hd hu
        go_enter Try.func16, Try.ntmps16
        go_wp2_with (first | (go_at_call 40; refine (implIsGraceful_calls _ _ l _ _ m _ HR.out HC.out hn HW.out HR'.out HC'.out hn' HW'.out).mono ?_; rw [HG.out]; rintro e w1 ⟨rfl, hb⟩; have n0_ := Aside0.mk (below_step (by repeat (first | (with_reducible first | exact HB.out | apply below_alloc | apply pw_below_drewN | apply below_drew1) | exact HB.out)) hb); clear HB hb; have HB := n0_; clear n0_))
        repeat (go_quiet (fail); try go_wp2)
        go_loopg [32] l.length (fun g vk w' => ∃ k : Nat, vk = .int .i64 k ∧ Aside0 (k + g = l.length) ∧ Aside0 (halfFrom l m g k = halfFrom l m l.length 0) ∧ Aside0 (Below w.heap.size w w'))
        case atStart => exact ⟨0, by first | rfl | go_num, ⟨by omega⟩, ⟨rfl⟩, ⟨(by repeat (first | (with_reducible first | exact HB.out | apply below_alloc | apply pw_below_drewN | apply below_drew1) | exact HB.out))⟩⟩
        case round =>
          clear HB
          obtain ⟨k, rfl, HK, HV, HB⟩ := hrel
          obtain ⟨go, rfl⟩ : ∃ go : Nat, go = gk := ⟨_, rfl⟩
          by_cases hk : k < l.length
          · go_wp2
            repeat (go_quiet (fail); try go_wp2)
            obtain ⟨wo, rfl⟩ : ∃ wo : World, wo = wr := ⟨_, rfl⟩
            go_loopg [9, 10] (l.length - 1) (fun g vg vn w' => ∃ (i : Nat) (b : Bool), vg = .bool b ∧ vn = .int .i64 i ∧ Aside0 (1 ≤ i) ∧ Aside0 (i + g = l.length) ∧ Aside0 (tf (Halves l m (k : Int) i) = b) ∧ Aside0 (Below w.heap.size w w'))
            case atStart => exact ⟨1, true, rfl, rfl, ⟨by omega⟩, ⟨by omega⟩, ⟨Halves_one _ _ _⟩, ⟨(by repeat (first | (with_reducible first | exact HB.out | apply below_alloc | apply pw_below_drewN | apply below_drew1) | exact HB.out))⟩⟩
            case round =>
              clear HB
              obtain ⟨i, b, rfl, rfl, HI1, HI, HT, HB⟩ := hrel
              by_cases hi : i < l.length
              · obtain ⟨ad1, e1, hx⟩ := at_nat HR.out hi
                obtain rfl : ad = ad1 := by injection e1
                clear e1
                obtain ⟨ad1, e1, hy⟩ := at_nat HR'.out (show i < m.length by have := HML.out; omega)
                obtain rfl : ad' = ad1 := by injection e1
                clear e1
                have ht := HD.out.1.2 i HI1.out hi
                have HCY := Aside0.mk (Halves_yes (l := l) (m := m) (k := (k : Int)) (i := i))
                have HCN := Aside0.mk (Halves_no (l := l) (m := m) (k := (k : Int)) (i := i) HI1.out)
                have HCO := Aside0.mk (Halves_off (l := l) (m := m) (k := (k : Int)) (i := i))
                obtain ⟨a, hae⟩ : ∃ a : Int, rd l (i : Int) = a := ⟨_, rfl⟩
                rw [hae] at hx ht HCY HCN
                clear hae
                have ha0 : 0 ≤ a := ht.1
                have ha : a < (m.length : Int) := by have := HML.out; omega
                obtain ⟨ad1, e1, hz⟩ := Kd.at_int HR'.out a ha0 ha
                obtain rfl : ad' = ad1 := by injection e1
                clear e1
                have him : (i : Int) < (m.length : Int) := by have := HML.out; omega
                generalize rd m (i : Int) = y at hy HCY HCN
                generalize rd m a = z at hz HCY HCN
                replace hx := (HB.out.cell (World.block_lt_of_cell? w _ hx)).trans hx
                replace hy := (HB.out.cell (World.block_lt_of_cell? w _ hy)).trans hy
                replace hz := (HB.out.cell (World.block_lt_of_cell? w _ hz)).trans hz
                cases b with
                | false =>
                  have HE := Aside0.mk (HCO.out HT.out)
                  go_wp2
                  repeat (go_quiet (fail); try go_wp2)
                  all_goals
                    go_roundg (gk - 1)
                    case measure => have := HI.out; omega
                    case rel => exact ⟨i + 1, false, by first | rfl | (simp; omega) | simp, by go_num, ⟨by omega⟩, ⟨by have := HI.out; omega⟩, HE, ⟨(by repeat (first | (with_reducible first | exact HB.out | apply below_alloc | apply pw_below_drewN | apply below_drew1) | exact HB.out))⟩⟩
                | true =>
                  by_cases hy1 : y ≤ (k : Int)
                  · by_cases hz1 : z ≤ (k : Int)
                    · have HE := Aside0.mk (HCN.out (by unfold Cut; omega))
                      have hmn : ¬ (k : Int) < max y z := by omega
                      go_wp2
                      repeat (go_quiet (fail); try go_wp2)
                      all_goals
                        go_roundg (gk - 1)
                        case measure => have := HI.out; omega
                        case rel => exact ⟨i + 1, false, by first | rfl | (simp; omega) | simp, by go_num, ⟨by omega⟩, ⟨by have := HI.out; omega⟩, HE, ⟨(by repeat (first | (with_reducible first | exact HB.out | apply below_alloc | apply pw_below_drewN | apply below_drew1) | exact HB.out))⟩⟩
                    · have HE := Aside0.mk (HCY.out HT.out (by unfold Cut; omega))
                      go_wp2
                      repeat (go_quiet (fail); try go_wp2)
                      all_goals
                        go_roundg (gk - 1)
                        case measure => have := HI.out; omega
                        case rel => exact ⟨i + 1, true, by first | rfl | (simp; omega) | simp, by go_num, ⟨by omega⟩, ⟨by have := HI.out; omega⟩, HE, ⟨(by repeat (first | (with_reducible first | exact HB.out | apply below_alloc | apply pw_below_drewN | apply below_drew1) | exact HB.out))⟩⟩
                  · by_cases hz1 : z ≤ (k : Int)
                    · have HE := Aside0.mk (HCY.out HT.out (by unfold Cut; omega))
                      go_wp2
                      repeat (go_quiet (fail); try go_wp2)
                      all_goals
                        go_roundg (gk - 1)
                        case measure => have := HI.out; omega
                        case rel => exact ⟨i + 1, true, by first | rfl | (simp; omega) | simp, by go_num, ⟨by omega⟩, ⟨by have := HI.out; omega⟩, HE, ⟨(by repeat (first | (with_reducible first | exact HB.out | apply below_alloc | apply pw_below_drewN | apply below_drew1) | exact HB.out))⟩⟩
                    · have HE := Aside0.mk (HCN.out (by unfold Cut; omega))
                      go_wp2
                      repeat (go_quiet (fail); try go_wp2)
                      all_goals
                        go_roundg (gk - 1)
                        case measure => have := HI.out; omega
                        case rel => exact ⟨i + 1, false, by first | rfl | (simp; omega) | simp, by go_num, ⟨by omega⟩, ⟨by have := HI.out; omega⟩, HE, ⟨(by repeat (first | (with_reducible first | exact HB.out | apply below_alloc | apply pw_below_drewN | apply below_drew1) | exact HB.out))⟩⟩
              · have hie : i = l.length := by have := HI.out; omega
                have HT2 := Aside0.mk (show tf (Halves l m (k : Int) l.length) = b by have := HT.out; rwa [hie] at this)
                clear hie
                have hgo := Aside0.mk (show go = (go - 1) + 1 by have := HK.out; omega)
                cases b with
                | true =>
                  have HE := Aside0.mk (show HalfF l m = ((k : Int), true) by rw [HF.out, ← HV.out, hgo.out, halfFrom_at HT2.out])
                  go_wp2
                  repeat (go_quiet (fail); try go_wp2)
                  go_ret2
                  exact ⟨by rw [HE.out]; rfl, (by repeat (first | (with_reducible first | exact HB.out | apply below_alloc | apply pw_below_drewN | apply below_drew1) | exact HB.out))⟩
                | false =>
                  have HE := Aside0.mk (show halfFrom l m (go - 1) (k + 1) = halfFrom l m l.length 0 by rw [← HV.out, hgo.out, halfFrom_on HT2.out]; rfl)
                  go_wp2
                  repeat (go_quiet (fail); try go_wp2)
                  go_roundg (go - 1)
                  case measure => have := HK.out; omega
                  case rel => exact ⟨k + 1, by go_num, ⟨by have := HK.out; omega⟩, HE, ⟨(by repeat (first | (with_reducible first | exact HB.out | apply below_alloc | apply pw_below_drewN | apply below_drew1) | exact HB.out))⟩⟩
          · have HE := Aside0.mk (show HalfF l m = (0, false) by rw [HF.out, ← HV.out, show go = 0 by have := HK.out; omega]; rfl)
            go_wp2
            repeat (go_quiet (fail); try go_wp2)
            go_ret2
            exact ⟨by rw [HE.out]; rfl, (by repeat (first | (with_reducible first | exact HB.out | apply below_alloc | apply pw_below_drewN | apply below_drew1) | exact HB.out))⟩
      · have HF := Aside0.mk (HalfF_no (fun h => h2 h.2.2 : ¬ HalfAsked l m))
        clear hd hu
        go_enter Try.func16, Try.ntmps16
        go_wp2_with (first | (go_at_call 40; refine (implIsGraceful_calls _ _ l _ _ m _ HR.out HC.out hn HW.out HR'.out HC'.out hn' HW'.out).mono ?_; rw [HG.out]; rintro e w1 ⟨rfl, hb⟩; have n0_ := Aside0.mk (below_step (by repeat (first | (with_reducible first | exact HB.out | apply below_alloc | apply pw_below_drewN | apply below_drew1) | exact HB.out)) hb); clear HB hb; have HB := n0_; clear n0_))
        repeat (go_quiet (fail); try go_wp2)
        go_ret2
        exact ⟨by rw [HF.out]; rfl, (by repeat (first | (with_reducible first | exact HB.out | apply below_alloc | apply pw_below_drewN | apply below_drew1) | exact HB.out))⟩
    · have H2 := Aside0.mk (tf_neg hu)
      have HG := Aside0.mk (show GracefulF l m = (false, true) by rw [GracefulF_yes hd, tf_neg hu])
      have HF := Aside0.mk (HalfF_no (fun h => hu h.2.1 : ¬ HalfAsked l m))
      clear hd hu
      go_enter Try.func16, Try.ntmps16
      go_wp2_with (first | (go_at_call 40; refine (implIsGraceful_calls _ _ l _ _ m _ HR.out HC.out hn HW.out HR'.out HC'.out hn' HW'.out).mono ?_; rw [HG.out]; rintro e w1 ⟨rfl, hb⟩; have n0_ := Aside0.mk (below_step (by repeat (first | (with_reducible first | exact HB.out | apply below_alloc | apply pw_below_drewN | apply below_drew1) | exact HB.out)) hb); clear HB hb; have HB := n0_; clear n0_))
      repeat (go_quiet (fail); try go_wp2)
      go_ret2
      exact ⟨by rw [HF.out]; rfl, (by repeat (first | (with_reducible first | exact HB.out | apply below_alloc | apply pw_below_drewN | apply below_drew1) | exact HB.out))⟩
  · have H1 := Aside0.mk (tf_neg hd)
    have HG := Aside0.mk (GracefulF_no hd)
    have HF := Aside0.mk (HalfF_no (fun h => hd h.1 : ¬ HalfAsked l m))
    clear hd
    go_enter Try.func16, Try.ntmps16
    go_wp2_with (first | (go_at_call 40; refine (implIsGraceful_calls _ _ l _ _ m _ HR.out HC.out hn HW.out HR'.out HC'.out hn' HW'.out).mono ?_; rw [HG.out]; rintro e w1 ⟨rfl, hb⟩; have n0_ := Aside0.mk (below_step (by repeat (first | (with_reducible first | exact HB.out | apply below_alloc | apply pw_below_drewN | apply below_drew1) | exact HB.out)) hb); clear HB hb; have HB := n0_; clear n0_))
    repeat (go_quiet (fail); try go_wp2)
    go_ret2
    exact ⟨by rw [HF.out]; rfl, (by repeat (first | (with_reducible first | exact HB.out | apply below_alloc | apply pw_below_drewN | apply below_drew1) | exact HB.out))⟩

end Go.Proofs.Ytpabfibmpannoaa.Own.G
