/- The dots of powers: what the reference's (by its printed contract) and the program's PowersDots return; no condition. -/
import Derived.Test.YtafnipklejfbmaaOwnGen
import Derived.Test.YtafnipklejfbmaaPFnExactPowersDotsx2
namespace Go.Proofs.Ytafnipklejfbmaa.Own.G
open Go.RowKit Go.Proofs.YtafnipklejfbmaaW.PrintWords Go.Proofs.YtafnipklejfbmaaW.PrintLast Go.Proofs.YtafnipklejfbmaaW.PrintMore Go.Proofs.Ytafnipklejfbmaa.PFnExactPowersDots
set_option linter.unusedVariables false
theorem l1In_eq (a b c : Int) : spec_l1In.f a b c = some (decide (b ≤ a ∧ a ≤ c)) := by
  unfold spec_l1In.f
  by_cases h : b ≤ a
  · rw [if_pos h]; simp [h]
  · rw [if_neg h]; simp [h]

theorem l1Has_l0 (v : Int) (xs : List Int) (hn : xs.length ≤ 35184372088832) : ∀ (d i : Nat), i + d = xs.length → Ev (fun k => spec_l1Has.l0 k v xs (xs.length : Int) (i : Int)) (decide (v ∈ xs.drop i)) := by
  intro d
  induction d with
  | zero =>
    intro i hi
    refine Ev.step (fun k => by rw [spec_l1Has.l0]) ?_
    refine Ev.no (by omega) (Ev.now' ?_)
    rw [List.drop_eq_nil_of_le (by omega)]
    rfl
  | succ d ih =>
    intro i hi
    have hlt : i < xs.length := by omega
    refine Ev.step (fun k => by rw [spec_l1Has.l0]) ?_
    refine Ev.yes (by omega) (Ev.yes (by omega) (Ev.yes (by omega) ?_))
    rw [drop_rd hlt]
    refine Ev.ite (fun h => Ev.now' ?_) (fun h => ?_)
    · simp [h]
    · rw [wrS hlt (by omega)]
      have e : decide (v ∈ rd xs (i : Int) :: xs.drop (i + 1)) = decide (v ∈ xs.drop (i + 1)) := by
        simp only [List.mem_cons, decide_eq_decide]
        exact ⟨fun h' => h'.resolve_left (fun e => h e.symm), .inr⟩
      rw [e]
      exact ih (i + 1) (by omega)
theorem l1Has_ev (xs : List Int) (v : Int) (hn : xs.length ≤ 35184372088832) : Ev (fun k => spec_l1Has.f k xs v) (decide (v ∈ xs)) := by
  unfold spec_l1Has.f
  have h := l1Has_l0 v xs hn xs.length 0 (by omega)
  rwa [List.drop_zero] at h

theorem doPrime_ev (a : Int) : Ev (fun k => spec_doPrime.f k a) (decide (a ∈ ([3, 5, 7, 11, 13] : List Int))) := by
  unfold spec_doPrime.f
  exact Ev.bind (l1Has_ev _ _ (by simp)) (Ev.now _)
theorem isPrime_eq (a : Int) : impl_isPrime.f a = some (decide (a ∈ ([3, 5, 7, 11, 13] : List Int))) := by
  unfold impl_isPrime.f
  by_cases h1 : a = 3
  · rw [if_pos h1]; simp [h1]
  rw [if_neg h1]
  by_cases h2 : a = 5
  · rw [if_pos h2]; simp [h2]
  rw [if_neg h2]
  by_cases h3 : a = 7
  · rw [if_pos h3]; simp [h3]
  rw [if_neg h3]
  by_cases h4 : a = 11
  · rw [if_pos h4]; simp [h4]
  rw [if_neg h4]
  simp [h1, h2, h3, h4]
  rfl
theorem doRoot_out (a b : Int) (ha : 3 ≤ a ∧ a ≤ 13) (hb : ¬ (2 ≤ b ∧ b < a)) : Ev (fun k => spec_doRoot.f k a b) false := by
  unfold spec_doRoot.f
  simp only [l1In_eq, Option.bind_some]
  rw [wr (by omega) (by omega)]
  refine Ev.no ?_ (Ev.now _)
  simp only [decide_eq_true_eq]
  omega
theorem isRoot_out (a b : Int) (hb : ¬ (a ∈ ([3, 5, 7, 11, 13] : List Int) ∧ 2 ≤ b ∧ b < a)) : Ev (fun k => impl_isRoot.f k a b) (false, false) := by
  unfold impl_isRoot.f
  simp only [isPrime_eq, Option.bind_some]
  have out : ∀ x, x = true → Ev (fun k => impl_isRoot.j0 k a b x) (false, false) := fun x hx => by
    refine Ev.step (g := fun k => impl_isRoot.j0 k _ _ _) (fun k => by rw [impl_isRoot.j0]) ?_
    exact Ev.yes hx (Ev.now _)
  by_cases hp : a ∈ ([3, 5, 7, 11, 13] : List Int)
  · exact Ev.yes (decide_eq_true hp) (Ev.ite (fun _ => out _ rfl) (fun h => out _ (decide_eq_true (Classical.byContradiction fun hh => hb ⟨hp, by omega, by omega⟩))))
  · exact Ev.no (by simpa using hp) (out _ rfl)
theorem in_prime {a : Int} (h : a ∈ ([3, 5, 7, 11, 13] : List Int)) : 3 ≤ a ∧ a ≤ 13 := by
  simp at h
  omega
theorem roots_fin : ∀ q ∈ ([3, 5, 7, 11, 13] : List Int), ∀ b : Fin 13, (spec_doRoot.f 40 q (b.val : Int)).isSome = true ∧ (impl_isRoot.f 40 q (b.val : Int)).isSome = true := by
  decide +kernel
theorem roots_any (q b : Int) (hq : q ∈ ([3, 5, 7, 11, 13] : List Int)) (hb : 2 ≤ b ∧ b < q) : ∃ w, Ev (fun k => spec_doRoot.f k q b) w := by
  have := in_prime hq
  have h := (roots_fin q hq ⟨b.toNat, by omega⟩).1
  simp only [show ((b.toNat : Nat) : Int) = b by omega] at h
  obtain ⟨w, hw⟩ := Option.isSome_iff_exists.1 h
  exact ⟨w, Ev.of (spec_doRoot.mono q b) (k := 40) hw⟩
theorem iroots_any (q b : Int) (hq : q ∈ ([3, 5, 7, 11, 13] : List Int)) (hb : 2 ≤ b ∧ b < q) : ∃ w, Ev (fun k => impl_isRoot.f k q b) w := by
  have := in_prime hq
  have h := (roots_fin q hq ⟨b.toNat, by omega⟩).2
  simp only [show ((b.toNat : Nat) : Int) = b by omega] at h
  obtain ⟨w, hw⟩ := Option.isSome_iff_exists.1 h
  exact ⟨w, Ev.of (impl_isRoot.mono q b) (k := 40) hw⟩
theorem iroots_all (q b : Int) : ∃ w, Ev (fun k => impl_isRoot.f k q b) w := by
  by_cases h : q ∈ ([3, 5, 7, 11, 13] : List Int) ∧ 2 ≤ b ∧ b < q
  · exact iroots_any q b h.1 h.2
  · exact ⟨_, isRoot_out q b h⟩

def PowersF (a b : Int) : List Int × Bool := if a ∈ ([3, 5, 7, 11, 13] : List Int) ∧ 2 ≤ b ∧ b < a then (spec_PowersDots.f 60 a b).getD ([], false) else ([], false)
def less (l : List Int) (i : Nat) : List Int := (l.take i).map (fun x => x - 1) ++ l.drop i
theorem less_length {l : List Int} {i : Nat} (h : i ≤ l.length) : (less l i).length = l.length := by simp [less]; omega
theorem less_rd {l : List Int} {i : Nat} (h : i < l.length) : rd (less l i) (i : Int) = rd l (i : Int) := by
  rw [rd_get (by rw [less_length (by omega)]; exact h), rd_get h]
  simp only [less]
  rw [List.getElem_append_right (by simp; omega)]
  simp [Nat.min_eq_left (Nat.le_of_lt h)]
theorem less_step {l : List Int} {i : Nat} (h : i < l.length) : (less l i).set i (rd l (i : Int) - 1) = less l (i + 1) := by
  unfold less
  rw [List.set_append_right _ _ (by simp; omega), List.length_map, List.length_take, Nat.min_eq_left (by omega), Nat.sub_self, drop_rd h, List.set_cons_zero, take_rd h, List.map_append, List.append_assoc]
  rfl
theorem powers_fin : ∀ q ∈ ([3, 5, 7, 11, 13] : List Int), ∀ b : Fin 13, 2 ≤ (b.val : Int) → (b.val : Int) < q → (spec_PowersDots.f 60 q (b.val : Int)).isSome = true ∧ (match impl_isRoot.f 60 q (b.val : Int) with
    | some (true, true) => (match impl_powers.f 60 q (b.val : Int) with
      | some ps => decide (PowersF q (b.val : Int) = (less ps ps.length, true)) && ps.all (fun x => decide (0 ≤ x ∧ x ≤ 13)) && decide (ps.length ≤ 12)
      | none => false)
    | some (false, true) => decide (PowersF q (b.val : Int) = ([], false))
    | _ => false) = true := by decide +kernel
def Pow (a b : Int) : Prop := a ∈ ([3, 5, 7, 11, 13] : List Int) ∧ 2 ≤ b ∧ b < a
theorem pow_in {a b : Int} (h : Pow a b) : spec_PowersDots.f 60 a b = some (PowersF a b) ∧ ((∃ ps, impl_isRoot.f 60 a b = some (true, true) ∧ impl_powers.f 60 a b = some ps ∧ PowersF a b = (less ps ps.length, true) ∧ (∀ x ∈ ps, 0 ≤ x ∧ x ≤ 13) ∧ ps.length ≤ 12) ∨ (impl_isRoot.f 60 a b = some (false, true) ∧ PowersF a b = ([], false))) := by
  have hq := in_prime h.1
  obtain ⟨h1, h2⟩ := powers_fin a h.1 ⟨b.toNat, by have := h.2; omega⟩ (by have := h.2; simp; omega) (by have := h.2; simp; omega)
  simp only [show ((b.toNat : Nat) : Int) = b by have := h.2; omega] at h1 h2
  refine ⟨?_, ?_⟩
  · obtain ⟨r, hr⟩ := Option.isSome_iff_exists.1 h1
    have e0 : PowersF a b = (spec_PowersDots.f 60 a b).getD ([], false) := if_pos h
    rw [e0, hr]
    rfl
  · split at h2
    · rename_i e1
      split at h2
      · rename_i ps e2
        simp only [Bool.and_eq_true, decide_eq_true_eq, List.all_eq_true] at h2
        exact .inl ⟨ps, e1, e2, h2.1.1, h2.1.2, h2.2⟩
      · cases h2
    · rename_i e1
      exact .inr ⟨e1, by simpa using h2⟩
    · cases h2
theorem pow_out {a b : Int} (h : ¬ Pow a b) : PowersF a b = ([], false) := if_neg h
theorem spec_out {a b : Int} (h : ¬ Pow a b) : Ev (fun k => spec_PowersDots.f k a b) ([], false) := by
  unfold spec_PowersDots.f
  have out : ∀ x, x = true → Ev (fun k => spec_PowersDots.j0 k a b x) ([], false) := fun x hx => by
    refine Ev.step (g := fun k => spec_PowersDots.j0 k _ _ _) (fun k => by rw [spec_PowersDots.j0]) ?_
    exact Ev.yes hx (Ev.now _)
  by_cases hp : a ∈ ([3, 5, 7, 11, 13] : List Int)
  · refine Ev.bind (doPrime_ev a) (Ev.yes (decide_eq_true hp) ?_)
    exact Ev.bind (doRoot_out a b (in_prime hp) (fun k => h ⟨hp, k⟩)) (out _ rfl)
  · exact Ev.bind (doPrime_ev a) (Ev.no (by simpa using hp) (out _ rfl))
theorem Ev.at {α : Type} {g : Nat → Option α} {r : α} (h : Ev g r) : ∃ k, g k = some r := by
  obtain ⟨K, h⟩ := h
  exact ⟨K, h K (Nat.le_refl _)⟩
theorem PowersF_len (a b : Int) : (PowersF a b).1.length ≤ 1048576 := by
  by_cases h : Pow a b
  · rcases (pow_in h).2 with ⟨ps, _, _, e, _, hl⟩ | ⟨_, e⟩
    · rw [e]; show (less _ _).length ≤ _; rw [less_length (Nat.le_refl _)]; omega
    · rw [e]; simp
  · rw [pow_out h]; simp
theorem specPowersDots_calls (a b : Int) (w : World) (ha : W64 a) (hb : W64 b) :
    Calls Try.prog 22 #[.int .i64 a, .int .i64 b] w fun e w' => ∃ v, e = .returned (.tuple #[v, .bool (PowersF a b).2]) ∧ Ow w' w.heap.size v (PowersF a b).1 ∧ Below w.heap.size w w' := by
  by_cases h : Pow a b
  · exact spec_PowersDots.calls 60 a b (PowersF a b).1 (PowersF a b).2 w (pow_in h).1
  · obtain ⟨k, hk⟩ := Ev.at (spec_out h)
    refine spec_PowersDots.calls k a b (PowersF a b).1 (PowersF a b).2 w ?_
    rw [pow_out h]
    exact hk
set_option maxHeartbeats 3200000 in
theorem implPowersDots_calls (a b : Int) (w : World) (ha : W64 a) (hb : W64 b) :
    Calls Try.prog 23 #[.int .i64 a, .int .i64 b] w fun e w' => ∃ v, e = .returned (.tuple #[v, .bool (PowersF a b).2]) ∧ Ow w' w.heap.size v (PowersF a b).1 ∧ Below w.heap.size w w' := by
  have HB := Aside0.mk (Below.refl w.heap.size w)
  clear ha hb
  by_cases h : Pow a b
  · rcases (pow_in h).2 with ⟨ps, e1, e2, e3, hps, hl⟩ | ⟨e1, e3⟩
    · have HRT := Aside0.mk e1
      have HPW := Aside0.mk e2
      have HF := Aside0.mk e3
      have HPS := Aside0.mk hps
      clear e1 e2 e3 h hps
      go_enter Try.func23, Try.ntmps23
      go_wp2_with (first | (go_at_call 36; refine (impl_isRoot.calls _ a b _ _ _ HRT.out).mono ?_; rintro e w1 ⟨rfl, hb⟩; have n0_ := Aside0.mk (below_step (by repeat (first | (with_reducible first | exact HB.out | apply below_alloc | apply pw_below_drewN | apply below_drew1) | exact HB.out)) hb); clear HB hb; have HB := n0_; clear n0_) | (go_at_call 37; refine (impl_powers.calls _ a b _ _ HPW.out).mono ?_; rintro e w2 ⟨v2, rfl, ho, hb⟩; have HO := Aside0.mk (Ow_lower ho (below_size (by repeat (first | (with_reducible first | exact HB.out | apply below_alloc | apply pw_below_drewN | apply below_drew1) | exact HB.out)))); have n0_ := Aside0.mk (below_step (by repeat (first | (with_reducible first | exact HB.out | apply below_alloc | apply pw_below_drewN | apply below_drew1) | exact HB.out)) hb); clear HB ho hb; have HB := n0_; clear n0_; obtain ⟨Av, cv, e_, _, _⟩ := Ow_form HO.out; subst e_))
      repeat (go_quiet (fail); try go_wp2)
      go_loopg [27] ps.length (fun g v27 w' => ∃ (i : Nat) (xs : List Int), v27 = .int .i64 i ∧ Aside0 (i + g = ps.length) ∧ Aside0 (xs = less ps i) ∧ Aside0 (Ow w' w.heap.size (.slice Av ps.length cv) xs) ∧ Aside0 (Below w.heap.size w w'))
      case atStart => exact ⟨0, ps, rfl, ⟨by omega⟩, ⟨by simp [less]⟩, ⟨(by first | exact HO.out | exact Ow_drewN HO.out _)⟩, ⟨(by repeat (first | (with_reducible first | exact HB.out | apply below_alloc | apply pw_below_drewN | apply below_drew1) | exact HB.out))⟩⟩
      case round =>
        clear HO HB
        obtain ⟨i, xs, rfl, HI, HX, HO, HB⟩ := hrel
        by_cases hlt : i < ps.length
        · have hxl : xs.length = ps.length := by rw [HX.out, less_length (by omega)]
          obtain ⟨g, cap, he, hgb, _, _, _⟩ := Kd.R_form HO.out (by omega)
          obtain rfl : Av = some ⟨g, 0, none⟩ := by injection he
          clear he
          obtain ⟨hc1, hf1⟩ := own_cell HO.out hlt
          have hq := HPS.out _ (rd_mem hlt)
          rw [show rd xs (i : Int) = rd ps (i : Int) by rw [HX.out, less_rd hlt]] at hc1
          have HP := Aside0.mk (own_put HO.out i (rd ps (i : Int) - 1))
          have HY := Aside0.mk (show xs.set i (rd ps (i : Int) - 1) = less ps (i + 1) by rw [HX.out, less_step hlt])
          generalize rd ps (i : Int) = q at hc1 hq HP HY
          clear hxl
          go_wp2
          repeat (go_quiet (fail); try go_wp2)
          go_roundg (gk - 1)
          case measure => have := HI.out; omega
          case rel => exact ⟨i + 1, _, by go_num, ⟨by have := HI.out; omega⟩, HY, ⟨by first | exact HP.out.1 | exact Ow_drewN HP.out.1 _⟩, ⟨by first | exact below_set HB.out hgb | exact pw_below_drewN (below_set HB.out hgb) _⟩⟩
        · have HE := Aside0.mk (show xs = less ps ps.length by rw [HX.out, show i = ps.length by have := HI.out; omega])
          (go_wp2; repeat (go_quiet (fail); try go_wp2))
          go_ret2
          exact ⟨_, by rw [HF.out]; rfl, by rw [HF.out]; show Ow _ _ _ (less _ _); rw [← HE.out]; exact (by first | exact HO.out | exact Ow_drewN HO.out _), (by repeat (first | (with_reducible first | exact HB.out | apply below_alloc | apply pw_below_drewN | apply below_drew1) | exact HB.out))⟩
    · have HRT := Aside0.mk e1
      have HF := Aside0.mk e3
      clear e1 e3 h
      go_enter Try.func23, Try.ntmps23
      go_wp2_with ((go_at_call 36; refine (impl_isRoot.calls _ a b _ _ _ HRT.out).mono ?_; rintro e w1 ⟨rfl, hb⟩; have n0_ := Aside0.mk (below_step (by repeat (first | (with_reducible first | exact HB.out | apply below_alloc | apply pw_below_drewN | apply below_drew1) | exact HB.out)) hb); clear HB hb; have HB := n0_; clear n0_))
      repeat (go_quiet (fail); try go_wp2)
      go_ret2
      exact ⟨_, by rw [HF.out]; rfl, by rw [HF.out]; exact Kd.R_nil _ _ _ _ _, (by repeat (first | (with_reducible first | exact HB.out | apply below_alloc | apply pw_below_drewN | apply below_drew1) | exact HB.out))⟩
  · obtain ⟨k, hk⟩ := Ev.at (isRoot_out a b h)
    have HRT := Aside0.mk hk
    have HF := Aside0.mk (pow_out h)
    clear hk h
    go_enter Try.func23, Try.ntmps23
    go_wp2_with ((go_at_call 36; refine (impl_isRoot.calls _ a b _ _ _ HRT.out).mono ?_; rintro e w1 ⟨rfl, hb⟩; have n0_ := Aside0.mk (below_step (by repeat (first | (with_reducible first | exact HB.out | apply below_alloc | apply pw_below_drewN | apply below_drew1) | exact HB.out)) hb); clear HB hb; have HB := n0_; clear n0_))
    repeat (go_quiet (fail); try go_wp2)
    go_ret2
    exact ⟨_, by rw [HF.out]; rfl, by rw [HF.out]; exact Kd.R_nil _ _ _ _ _, (by repeat (first | (with_reducible first | exact HB.out | apply below_alloc | apply pw_below_drewN | apply below_drew1) | exact HB.out))⟩
end Go.Proofs.Ytafnipklejfbmaa.Own.G
