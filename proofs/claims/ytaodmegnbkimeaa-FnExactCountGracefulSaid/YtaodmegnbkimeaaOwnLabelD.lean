/- The labels of edges, and graceful labels: what the reference's and the program's functions return; lists of at most 1048576 numbers. -/
import Derived.Test.YtaodmegnbkimeaaOwnLabelA
namespace Go.Proofs.Ytaodmegnbkimeaa.Own.G
open Go.RowKit Go.Proofs.YtaodmegnbkimeaaW.PrintWords Go.Proofs.YtaodmegnbkimeaaW.PrintLast Go.Proofs.YtaodmegnbkimeaaW.PrintMore
set_option linter.unusedVariables false
def dist (a b : Int) : Int := ((a - b).natAbs : Int)
theorem l1Abs_calls (a : Int) (w : World) (h0 : -1000000000 ≤ a) (h1 : a ≤ 1000000000) : Calls Try.prog 31 #[.int .i64 a] w fun e w' => e = .returned (.int .i64 (a.natAbs : Int)) ∧ Drawn0 w w' := by
  by_cases h : 0 < a
  · have H := Aside0.mk (show (a.natAbs : Int) = a by omega)
    have h2 : -a < a := by omega
    go_enter Try.func31, Try.ntmps31
    (go_wp2; repeat (go_quiet (fail); try go_wp2))
    go_ret
    exact ⟨by rw [H.out]; rfl, (by repeat (first | exact Drawn0.refl _ | apply Drawn0.step))⟩
  · have H := Aside0.mk (show (a.natAbs : Int) = -a by omega)
    have h2 : ¬ -a < a := by omega
    go_enter Try.func31, Try.ntmps31
    (go_wp2; repeat (go_quiet (fail); try go_wp2))
    go_ret
    exact ⟨by rw [H.out]; rfl, (by repeat (first | exact Drawn0.refl _ | apply Drawn0.step))⟩
theorem apart_calls (a b : Int) (w : World) (h0 : -1000000000 ≤ a) (h1 : a ≤ 1000000000) (h2 : -1000000000 ≤ b) (h3 : b ≤ 1000000000) : Calls Try.prog 34 #[.int .i64 a, .int .i64 b] w fun e w' => e = .returned (.int .i64 (dist a b)) ∧ Drawn0 w w' := by
  by_cases h : b - a < a - b
  · have H := Aside0.mk (show dist a b = a - b by unfold dist; omega)
    have hx : ¬ a - b < b - a := by omega
    have hy : ¬ a - b ≤ b - a := by omega
    go_enter Try.func34, Try.ntmps34
    (go_wp2; repeat (go_quiet (fail); try go_wp2))
    go_ret
    exact ⟨by rw [H.out]; rfl, (by repeat (first | exact Drawn0.refl _ | apply Drawn0.step))⟩
  · by_cases he : a - b < b - a
    · have H := Aside0.mk (show dist a b = b - a by unfold dist; omega)
      go_enter Try.func34, Try.ntmps34
      (go_wp2; repeat (go_quiet (fail); try go_wp2))
      go_ret
      exact ⟨by rw [H.out]; rfl, (by repeat (first | exact Drawn0.refl _ | apply Drawn0.step))⟩
    · obtain rfl : a = b := by omega
      have H := Aside0.mk (show dist a a = 0 by unfold dist; omega)
      go_enter Try.func34, Try.ntmps34
      (go_wp2; repeat (go_quiet (fail); try go_wp2))
      go_ret
      exact ⟨by rw [H.out]; first | rfl | simp, (by repeat (first | exact Drawn0.refl _ | apply Drawn0.step))⟩
/-- The labels of the first i edges. -/
def edges (l m : List Int) (i : Nat) : List Int := (List.range i).map fun j : Nat => dist (rd m ((j + 1 : Nat) : Int)) (rd m (rd l ((j + 1 : Nat) : Int)))
theorem edges_length (l m : List Int) (i : Nat) : (edges l m i).length = i := by simp [edges]
theorem edges_succ (l m : List Int) (i : Nat) : edges l m (i + 1) = edges l m i ++ [dist (rd m ((i + 1 : Nat) : Int)) (rd m (rd l ((i + 1 : Nat) : Int)))] := by
  unfold edges
  rw [List.range_succ, List.map_append]
  rfl
def Low (m : List Int) : Prop := ∀ x ∈ m, 0 ≤ x ∧ x ≤ 1000
theorem Low_rd {m : List Int} (h : Low m) {i : Int} (h0 : 0 ≤ i) (h1 : i < (m.length : Int)) : 0 ≤ rd m i ∧ rd m i ≤ 1000 := by
  obtain ⟨n, rfl⟩ : ∃ n : Nat, i = (n : Int) := ⟨i.toNat, by omega⟩
  exact h _ (rd_mem (by omega))
theorem Labels_low {n : Int} {m : List Int} (h : Labels n m) (hn : n ≤ 1000) : Low m := fun x hx => by
  obtain ⟨i, hi, rfl⟩ := mem_rd hx
  have := (h.2 i hi).1
  have := (h.2 i hi).2.1
  omega
set_option maxRecDepth 8000 in
set_option maxHeartbeats 3200000 in
theorem edgeLabels_calls (A : Option Addr) (c : Nat) (l : List Int) (A' : Option Addr) (c' : Nat) (m : List Int) (w : World) (hr : Rd w A l) (hc : l.length ≤ c) (hr' : Rd w A' m) (hc' : m.length ≤ c') (ht : Tree l) (hlo : Low m) (hml : m.length ≤ l.length) (hlv : m.length ≤ m.length) (hp : 1 ≤ m.length) :
    Calls Try.prog 30 #[.slice A l.length c, .slice A' m.length c'] w fun e w' => ∃ v, e = .returned v ∧ Ow w' w.heap.size v (edges l m (m.length - 1)) ∧ Below w.heap.size w w' := by
  have HR := Aside0.mk hr
  have HC := Aside0.mk hc
  have HR' := Aside0.mk hr'
  have HC' := Aside0.mk hc'
  have HD := Aside0.mk ht
  have HL := Aside0.mk hlo
  have hlen := ht.1.1
  obtain ⟨ad, hA, _⟩ := at_first hr (by omega)
  subst hA
  obtain ⟨ad', hA', _⟩ := at_first hr' (by omega)
  subst hA'
  clear hr hc hr' hc' ht hlo
  have HB := Aside0.mk (Below.refl w.heap.size w)
  have HO := Aside0.mk (Kd.R_nil (Kd.int .i64) 3 w w.heap.size (fun _ => True))
  go_enter Try.func30, Try.ntmps30
  (go_wp2; repeat (go_quiet (fail); try go_wp2))
  go_loopg [5, 6] (m.length - 1) (fun g v5 v6 w' => ∃ (i : Nat) (k : Int) (xs : List Int), v6 = .int .i64 k ∧ Aside0 (k = (i : Int) + 1) ∧ Aside0 (i + g = m.length - 1) ∧ Aside0 (xs = edges l m i) ∧ Aside0 (xs.length ≤ 1048576) ∧ Aside0 (Ow w' w.heap.size v5 xs) ∧ Aside0 (Below w.heap.size w w'))
  case atStart => exact ⟨0, _, [], rfl, ⟨by omega⟩, ⟨by omega⟩, ⟨rfl⟩, ⟨by simp⟩, ⟨(by first | exact HO.out | exact Ow_drewN HO.out _)⟩, ⟨(by repeat (first | (with_reducible first | exact HB.out | apply below_alloc | apply pw_below_drewN | apply below_drew1) | exact HB.out))⟩⟩
  case round =>
    clear HO HB
    obtain ⟨i, k, xs, rfl, HK, HI, HX, HXL, HO, HB⟩ := hrel
    by_cases hlt : k < (m.length : Int)
    · have k0 : 1 ≤ k := by have := HK.out; omega
      have k1 : k < (l.length : Int) := by omega
      have k2 : k < (m.length : Int) := by omega
      obtain ⟨ad1, e1, hx⟩ := Kd.at_int HR.out k (by omega) k1
      obtain rfl : ad = ad1 := by injection e1
      clear e1
      obtain ⟨ad1, e1, hy⟩ := Kd.at_int HR'.out k (by omega) hlt
      obtain rfl : ad' = ad1 := by injection e1
      clear e1
      have hk3 : ((i + 1 : Nat) : Int) = k := by have := HK.out; omega
      have ht := HD.out.2 (i + 1) (by omega) (by omega)
      have HS := Aside0.mk (edges_succ l m i)
      rw [hk3] at ht HS
      clear hk3
      have hq1 := Low_rd HL.out (show 0 ≤ k by omega) hlt
      have hq2 := Low_rd HL.out ht.1 (by omega)
      generalize rd l k = a at hx ht hq2 HS
      have ha : a < (m.length : Int) := by omega
      obtain ⟨ad1, e1, hz⟩ := Kd.at_int HR'.out a ht.1 ha
      obtain rfl : ad' = ad1 := by injection e1
      clear e1
      generalize rd m k = y at hy hq1 HS
      generalize rd m a = z at hz hq2 HS
      have HZ0 := Aside0.mk hx
      have HZ1 := Aside0.mk hy
      have HZ2 := Aside0.mk hz
      replace hx := (HB.out.cell (World.block_lt_of_cell? w _ hx)).trans hx
      replace hy := (HB.out.cell (World.block_lt_of_cell? w _ hy)).trans hy
      replace hz := (HB.out.cell (World.block_lt_of_cell? w _ hz)).trans hz
      have HXX := Aside0.mk (show xs ++ [dist y z] = edges l m (i + 1) by rw [HX.out, HS.out])
      have kz : 0 ≤ k := by omega
      have az : 0 ≤ a := ht.1
      have hw : IntKind.i64.wrap (y - z) = y - z := by rw [i64_w, w64 (by omega) (by omega)]
      have HXL2 := Aside0.mk (show xs.length ≤ 1048576 by exact HXL.out)
      go_wp2
      go_region_held3 (fun w' => w'.cell? (ad.add k.toNat) = some (.int .i64 a) ∧ w'.cell? (ad'.add k.toNat) = some (.int .i64 y) ∧ w'.cell? (ad'.add a.toNat) = some (.int .i64 z))
        (first | go_keep | exact ⟨by assumption, by assumption, by assumption⟩ | (go_split_ands; exact ⟨by assumption, by assumption, by assumption⟩))
        ((first | (go_at_call 34; refine (apart_calls _ _ _ (by omega) (by omega) (by omega) (by omega)).mono ?_; rintro e w' ⟨rfl, ⟨nd, rfl⟩⟩) | (refine own_append_step (by rfl) _ _ (by rfl) w.heap.size _ u5 xs (dist y z) (by rfl) ?apO (by rfl) HXL2.out ?apS ?_; (case apO => exact Ow_drewN HO.out _); (case apS => have := HB.out.size; simpa using this); intro v2 w2 ho hg; have HB2 := Aside0.mk (below_grown (pw_below_drewN HB.out _) hg (Ow_drewN HO.out _)); have g0 := (HB2.out.cell (World.block_lt_of_cell? w _ HZ0.out)).trans HZ0.out; have g1 := (HB2.out.cell (World.block_lt_of_cell? w _ HZ1.out)).trans HZ1.out; have g2 := (HB2.out.cell (World.block_lt_of_cell? w _ HZ2.out)).trans HZ2.out; have HO2 := Aside0.mk ho; clear ho hg)))
      clear hx hy hz g0 g1 g2
      go_wp2
      go_roundg (gk - 1)
      case measure => have := HI.out; have := HK.out; omega
      case rel => exact ⟨i + 1, k + 1, _, by go_num, ⟨by have := HK.out; omega⟩, ⟨by have := HI.out; have := HK.out; omega⟩, HXX, ⟨by rw [HX.out, List.length_append, edges_length, List.length_singleton]; have := HI.out; omega⟩, HO2, HB2⟩
    · have HE := Aside0.mk (show xs = edges l m (m.length - 1) by rw [HX.out, show i = m.length - 1 by have := HI.out; have := HK.out; omega])
      have k2 : ¬ k < (m.length : Int) := by omega
      (go_wp2; repeat (go_quiet (fail); try go_wp2))
      go_ret
      exact ⟨_, rfl, by rw [← HE.out]; exact (by first | exact HO.out | exact Ow_drewN HO.out _), (by repeat (first | (with_reducible first | exact HB.out | apply below_alloc | apply pw_below_drewN | apply below_drew1) | exact HB.out))⟩
def Unl (l : List Int) : Prop := ∀ i : Nat, i < l.length → rd l (i : Int) ∉ l.take i
set_option maxHeartbeats 1600000 in
theorem unlike_calls (A : Option Addr) (c : Nat) (l : List Int) (w : World) (hr : Rd w A l) (hc : l.length ≤ c) (hn : l.length ≤ 1048576) :
    Calls Try.prog 29 #[.slice A l.length c] w fun e w' => e = .returned (.bool (tf (Unl l))) ∧ Drawn0 w w' := by
  have HR := Aside0.mk hr
  have HC := Aside0.mk hc
  clear hr hc
  go_enter Try.func29, Try.ntmps29
  (go_wp2; repeat (go_quiet (fail); try go_wp2))
  go_loopg [7] l.length (fun g v7 w' => ∃ i : Nat, v7 = .int .i64 i ∧ Aside0 (i + g = l.length) ∧ Aside0 (∀ j : Nat, j < i → rd l (j : Int) ∉ l.take j) ∧ Drawn0 w w')
  case atStart => exact ⟨0, rfl, ⟨by omega⟩, ⟨fun j h => absurd h (by omega)⟩, (by repeat (first | exact Drawn0.refl _ | apply Drawn0.step))⟩
  case round =>
    obtain ⟨i, rfl, HI, HA, ⟨m1, rfl⟩⟩ := hrel
    by_cases hlt : i < l.length
    · obtain ⟨ad, rfl, hx⟩ := at_nat HR.out hlt
      have hcut := cut_nat (some ad) c l i (by omega) HC.out
      by_cases h2 : rd l (i : Int) ∈ l.take i
      · have H2 := Aside0.mk (decide_eq_true h2)
        have HBAD := Aside0.mk (show ¬ Unl l from fun h => h i hlt h2)
        clear h2
        go_wp2_with (go_at_call 27; refine (Contains_take _ _ l i _ _ (Kd.C_drewN HR.out _) HC.out (by omega) (by omega)).mono ?_; rw [H2.out]; rintro e w' ⟨rfl, ⟨nd2, rfl⟩⟩)
        go_ret
        exact ⟨ret_bool (tf_neg HBAD.out).symm, (by repeat (first | exact Drawn0.refl _ | apply Drawn0.step))⟩
      · have H2 := Aside0.mk (decide_eq_false h2)
        have HD := Aside0.mk h2
        clear h2
        go_wp2_with (go_at_call 27; refine (Contains_take _ _ l i _ _ (Kd.C_drewN HR.out _) HC.out (by omega) (by omega)).mono ?_; rw [H2.out]; rintro e w' ⟨rfl, ⟨nd2, rfl⟩⟩)
        go_roundg (gk - 1)
        case measure => have := HI.out; omega
        case rel => exact ⟨i + 1, by go_num, ⟨by have := HI.out; omega⟩, ⟨fun j hj => by
          rcases Nat.lt_or_ge j i with h | h
          · exact HA.out j h
          · rw [show j = i by omega]; exact HD.out⟩, (by repeat (first | exact Drawn0.refl _ | apply Drawn0.step))⟩
    · have HE := Aside0.mk (show Unl l from fun j hj => HA.out j (by omega))
      (go_wp2; repeat (go_quiet (fail); try go_wp2))
      go_ret
      exact ⟨ret_bool (tf_pos HE.out).symm, (by repeat (first | exact Drawn0.refl _ | apply Drawn0.step))⟩
def Asked (l m : List Int) : Prop := Tree l ∧ Labels (l.length : Int) m
noncomputable def EdgeF (l m : List Int) : List Int × Bool := if tf (Asked l m) = true then (edges l m (m.length - 1), true) else ([], false)
theorem EdgeF_yes {l m : List Int} (h : Asked l m) : EdgeF l m = (edges l m (m.length - 1), true) := if_pos (tf_pos h)
theorem EdgeF_no {l m : List Int} (h : ¬ Asked l m) : EdgeF l m = ([], false) := if_neg (by rw [tf_neg h]; decide)
theorem EdgeF_len (l m : List Int) (hn : l.length ≤ 1048576) (hn' : m.length ≤ 1048576) : (EdgeF l m).1.length ≤ 1048576 := by
  by_cases h : Asked l m
  · rw [EdgeF_yes h]; show (edges _ _ _).length ≤ _; rw [edges_length]; omega
  · rw [EdgeF_no h]; simp
theorem Asked_low {l m : List Int} (h : Asked l m) : Low m := Labels_low h.2 (by have := h.1.1.1; omega)
theorem Asked_len {l m : List Int} (h : Asked l m) : m.length = l.length := by have := h.2.1; omega
noncomputable def GracefulF (l m : List Int) : Bool × Bool := if tf (Asked l m) = true then (tf (Unl (edges l m (m.length - 1))), true) else (false, false)
theorem GracefulF_yes {l m : List Int} (h : Asked l m) : GracefulF l m = (tf (Unl (edges l m (m.length - 1))), true) := if_pos (tf_pos h)
theorem GracefulF_no {l m : List Int} (h : ¬ Asked l m) : GracefulF l m = (false, false) := if_neg (by rw [tf_neg h]; decide)
end Go.Proofs.Ytaodmegnbkimeaa.Own.G
