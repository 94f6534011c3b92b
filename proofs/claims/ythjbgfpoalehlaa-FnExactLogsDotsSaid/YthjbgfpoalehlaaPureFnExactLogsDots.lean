/- For every argument that can be read, the law FnExactLogsDots answers true: the program's LogsDots returns what the reference's returns; no condition. -/
import Derived.Test.YthjbgfpoalehlaaPFnExactLogsDotsx4
import Derived.OpenShut
namespace Go.Proofs.Ythjbgfpoalehlaa.Pure
open Go.RowKit Go.Proofs.Ythjbgfpoalehlaa.PFnExactLogsDots Go.Proofs.YthjbgfpoalehlaaW.PrintWords Go.Proofs.YthjbgfpoalehlaaW.PrintLast Go.Proofs.YthjbgfpoalehlaaW.PrintMore
set_option linter.unusedVariables false

/-! ### small words: rounds, wraps, reads -/
theorem Ev.yes {α : Type} {c : Prop} [Decidable c] {A B : Nat → Option α} {r : α} (h : c) (k : Ev A r) : Ev (fun n => if c then A n else B n) r := by
  simp only [if_pos h]; exact k
theorem Ev.no {α : Type} {c : Prop} [Decidable c] {A B : Nat → Option α} {r : α} (h : ¬ c) (k : Ev B r) : Ev (fun n => if c then A n else B n) r := by
  simp only [if_neg h]; exact k
theorem Ev.ite {α : Type} {c : Prop} [Decidable c] {A B : Nat → Option α} {r : α} (k : c → Ev A r) (k' : ¬ c → Ev B r) : Ev (fun n => if c then A n else B n) r := by
  by_cases h : c
  · exact Ev.yes h (k h)
  · exact Ev.no h (k' h)
theorem Ev.now' {α : Type} {x r : α} (h : x = r) : Ev (fun _ => some x) r := h ▸ Ev.now x
theorem Ev.one {α : Type} {g : Nat → Option α} {r q : α} (h : Ev g r) (k : Ev g q) : r = q := by
  obtain ⟨K, h⟩ := h
  obtain ⟨K', k⟩ := k
  have h1 := h (max K K') (by omega)
  have h2 := k (max K K') (by omega)
  rw [h1] at h2
  exact Option.some.inj h2
def W64 (x : Int) : Prop := -9223372036854775808 ≤ x ∧ x ≤ 9223372036854775807
theorem wr {x : Int} (h0 : -9223372036854775808 ≤ x) (h1 : x ≤ 9223372036854775807) : wrap64 x = x := by
  unfold wrap64
  omega
theorem wrS {i n : Nat} (h : i < n) (hn : n ≤ 9223372036854775807) : wrap64 ((i : Int) + 1) = ((i + 1 : Nat) : Int) := by
  unfold wrap64
  omega
theorem wrP {i n : Nat} (h : i ≤ n) (h0 : 0 < i) (hn : n ≤ 9223372036854775807) : wrap64 ((i : Int) - 1) = ((i - 1 : Nat) : Int) := by
  unfold wrap64
  omega
theorem rd_get {xs : List Int} {i : Nat} (h : i < xs.length) : rd xs (i : Int) = xs[i] := by
  unfold rd
  simp [h]
theorem rd_none {xs : List Int} {i : Nat} (h : xs.length ≤ i) : rd xs (i : Int) = 0 := by
  unfold rd
  simp [h]
theorem drop_rd {xs : List Int} {i : Nat} (h : i < xs.length) : xs.drop i = rd xs (i : Int) :: xs.drop (i + 1) := by
  rw [rd_get h, List.drop_eq_getElem_cons h]
theorem take_rd {xs : List Int} {i : Nat} (h : i < xs.length) : xs.take (i + 1) = xs.take i ++ [rd xs (i : Int)] := by
  rw [rd_get h, List.take_succ_eq_append_getElem h]
theorem rd_mem {xs : List Int} {i : Nat} (h : i < xs.length) : rd xs (i : Int) ∈ xs := by
  rw [rd_get h]
  exact List.getElem_mem h
theorem mem_rd {xs : List Int} {x : Int} (h : x ∈ xs) : ∃ i : Nat, i < xs.length ∧ rd xs (i : Int) = x := by
  obtain ⟨i, hi, rfl⟩ := List.getElem_of_mem h
  exact ⟨i, hi, rd_get hi⟩
theorem rd_set_self {xs : List Int} {i : Nat} {v : Int} (h : i < xs.length) : rd (xs.set i v) (i : Int) = v := by
  rw [rd_get (by simpa using h)]
  simp
theorem rd_set_ne {xs : List Int} {i j : Nat} {v : Int} (h : i ≠ j) : rd (xs.set i v) (j : Int) = rd xs (j : Int) := by
  unfold rd
  simp [List.getD_eq_getElem?_getD, List.getElem?_set_ne h]
theorem rd_replicate {n i : Nat} : rd (List.replicate n (0 : Int)) (i : Int) = 0 := by
  unfold rd
  simp only [Int.toNat_natCast, List.getD_eq_getElem?_getD, List.getElem?_replicate]
  split <;> rfl
theorem rd_take {xs : List Int} {i n : Nat} (h : i < n) : rd (xs.take n) (i : Int) = rd xs (i : Int) := by
  unfold rd
  simp [List.getD_eq_getElem?_getD, h]
theorem rd_append_left {xs ys : List Int} {i : Nat} (h : i < xs.length) : rd (xs ++ ys) (i : Int) = rd xs (i : Int) := by
  unfold rd
  simp [List.getD_eq_getElem?_getD, List.getElem?_append_left h]
theorem rd_last {xs : List Int} {x : Int} : rd (xs ++ [x]) (xs.length : Int) = x := by
  unfold rd
  simp
theorem rd_ext {xs ys : List Int} (hl : xs.length = ys.length) (h : ∀ i : Nat, i < xs.length → rd xs (i : Int) = rd ys (i : Int)) : xs = ys := by
  apply List.ext_getElem hl
  intro i h1 h2
  rw [← rd_get h1, ← rd_get h2]
  exact h i h1
noncomputable def tf (P : Prop) : Bool := @decide P (Classical.propDecidable P)
theorem tf_pos {P : Prop} (h : P) : tf P = true := by
  unfold tf
  exact @decide_eq_true P (Classical.propDecidable P) h
theorem tf_neg {P : Prop} (h : ¬ P) : tf P = false := by
  unfold tf
  exact @decide_eq_false P (Classical.propDecidable P) h
theorem tf_iff {P : Prop} : tf P = true ↔ P := by
  by_cases h : P
  · rw [tf_pos h]; exact ⟨fun _ => h, fun _ => rfl⟩
  · rw [tf_neg h]; exact ⟨fun h' => (Bool.noConfusion h'), fun h' => absurd h' h⟩
theorem tf_congr {P Q : Prop} (h : P ↔ Q) : tf P = tf Q := by
  rw [show P = Q from propext h]
theorem tf_dec {P : Prop} [Decidable P] : tf P = decide P := by
  by_cases h : P
  · rw [tf_pos h, decide_eq_true h]
  · rw [tf_neg h, decide_eq_false h]
theorem tf_not {P : Prop} : (!tf P) = tf (¬ P) := by
  by_cases h : P
  · rw [tf_pos h, tf_neg (not_not_intro h)]; rfl
  · rw [tf_neg h, tf_pos h]; rfl
/-- A loop that asks each place: at the end b, where all answer yes. -/
theorem all_loop_b {L : Nat → Nat → Option Bool} {n : Nat} {P : Nat → Prop} {b : Bool} (h0 : Ev (fun k => L k n) b)
    (h1 : ∀ i, i < n → P i → ∀ r, Ev (fun k => L k (i + 1)) r → Ev (fun k => L k i) r) (h2 : ∀ i, i < n → ¬ P i → Ev (fun k => L k i) false) :
    ∀ (d i : Nat), i + d = n → Ev (fun k => L k i) (tf (∀ j, i ≤ j → j < n → P j) && b) := by
  intro d
  induction d with
  | zero =>
    intro i hi
    obtain rfl : i = n := by omega
    rw [tf_pos (fun j h h' => by omega)]
    exact h0
  | succ d ih =>
    intro i hi
    by_cases hp : P i
    · have := h1 i (by omega) hp _ (ih (i + 1) (by omega))
      rw [tf_congr (Q := ∀ j, i + 1 ≤ j → j < n → P j) ⟨fun h j hj hn => h j (by omega) hn, fun h j hj hn => by
        rcases Nat.lt_or_ge i j with hl | hl
        · exact h j hl hn
        · rw [show j = i by omega]; exact hp⟩]
      exact this
    · rw [tf_neg (fun h => hp (h i (Nat.le_refl _) (by omega)))]
      exact h2 i (by omega) hp
/-- A loop that asks each place: true where all answer yes. -/
theorem all_loop {L : Nat → Nat → Option Bool} {n : Nat} {P : Nat → Prop} (h0 : Ev (fun k => L k n) true)
    (h1 : ∀ i, i < n → P i → ∀ r, Ev (fun k => L k (i + 1)) r → Ev (fun k => L k i) r) (h2 : ∀ i, i < n → ¬ P i → Ev (fun k => L k i) false)
    (d i : Nat) (h : i + d = n) : Ev (fun k => L k i) (tf (∀ j, i ≤ j → j < n → P j)) := by
  have := all_loop_b h0 h1 h2 d i h
  rwa [Bool.and_true] at this
/-- A loop that goes on with a state. -/
theorem acc_loop {σ ρ : Type} {L : Nat → Nat → σ → Option ρ} {n : Nat} (Inv : Nat → σ → Prop)
    (step : ∀ i s, i < n → Inv i s → ∃ s', Inv (i + 1) s' ∧ ∀ r, Ev (fun k => L k (i + 1) s') r → Ev (fun k => L k i s) r) :
    ∀ (d i : Nat) (s : σ), i + d = n → Inv i s → ∃ s', Inv n s' ∧ ∀ r, Ev (fun k => L k n s') r → Ev (fun k => L k i s) r := by
  intro d
  induction d with
  | zero =>
    intro i s hi h
    obtain rfl : i = n := by omega
    exact ⟨s, h, fun _ h => h⟩
  | succ d ih =>
    intro i s hi h
    obtain ⟨s', h', k'⟩ := step i s (by omega) h
    obtain ⟨t, h'', k''⟩ := ih (i + 1) s' (by omega) h'
    exact ⟨t, h'', fun r hr => k' r (k'' r hr)⟩
/-- A loop that goes on with a state, or answers at once. -/
theorem ret_loop {σ ρ : Type} {L : Nat → Nat → σ → Option ρ} {n : Nat} (Inv : Nat → σ → Prop) (Post : ρ → Prop)
    (step : ∀ i s, i < n → Inv i s → (∃ r, Ev (fun k => L k i s) r ∧ Post r) ∨ ∃ s', Inv (i + 1) s' ∧ ∀ r, Ev (fun k => L k (i + 1) s') r → Ev (fun k => L k i s) r) :
    ∀ (d i : Nat) (s : σ), i + d = n → Inv i s → (∃ r, Ev (fun k => L k i s) r ∧ Post r) ∨ ∃ s', Inv n s' ∧ ∀ r, Ev (fun k => L k n s') r → Ev (fun k => L k i s) r := by
  intro d
  induction d with
  | zero =>
    intro i s hi h
    obtain rfl : i = n := by omega
    exact .inr ⟨s, h, fun _ h => h⟩
  | succ d ih =>
    intro i s hi h
    rcases step i s (by omega) h with h1 | ⟨s', h', k'⟩
    · exact .inl h1
    · rcases ih (i + 1) s' (by omega) h' with ⟨r, hr, hp⟩ | ⟨t, h'', k''⟩
      · exact .inl ⟨r, k' r hr, hp⟩
      · exact .inr ⟨t, h'', fun r hr => k' r (k'' r hr)⟩
/-- The state is known at each place. -/
theorem det_loop {σ ρ : Type} {L : Nat → Nat → σ → Option ρ} {n : Nat} (S : Nat → σ)
    (step : ∀ i, i < n → ∀ r, Ev (fun k => L k (i + 1) (S (i + 1))) r → Ev (fun k => L k i (S i)) r) {r : ρ} (h : Ev (fun k => L k n (S n)) r) :
    ∀ (d i : Nat), i + d = n → Ev (fun k => L k i (S i)) r := by
  intro d
  induction d with
  | zero =>
    intro i hi
    obtain rfl : i = n := by omega
    exact h
  | succ d ih =>
    intro i hi
    exact step i (by omega) r (ih (i + 1) (by omega))
theorem acc_step {σ : Type} {P Q : σ → Prop} (s : σ) (q : Q s) (p : P s) : ∃ s, P s ∧ Q s := ⟨s, p, q⟩
theorem agree_run {α : Type} {g f : Nat → Option α} (hg : ∀ k, LeO (g k) (g (k + 1))) (hf : ∀ k, LeO (f k) (f (k + 1))) (k : Nat) (h : g k = f k ∧ (f k).isSome = true) : ∃ w, Ev g w ∧ Ev f w := by
  obtain ⟨e, h⟩ := h
  obtain ⟨w, hw⟩ := Option.isSome_iff_exists.1 h
  exact ⟨w, Ev.of hg (k := k) (e.trans hw), Ev.of hf (k := k) hw⟩
/-- all_loop, from a place on. -/
theorem all_from {L : Nat → Nat → Option Bool} {n : Nat} {P : Nat → Prop} {b : Bool} (lo : Nat) (h0 : Ev (fun k => L k n) b)
    (h1 : ∀ i, lo ≤ i → i < n → P i → ∀ r, Ev (fun k => L k (i + 1)) r → Ev (fun k => L k i) r) (h2 : ∀ i, lo ≤ i → i < n → ¬ P i → Ev (fun k => L k i) false) (hlo : lo ≤ n) :
    Ev (fun k => L k lo) (tf (∀ j, lo ≤ j → j < n → P j) && b) := by
  have := all_loop_b (L := fun k i => L k (lo + i)) (n := n - lo) (P := fun i => P (lo + i)) (b := b) (by rw [show lo + (n - lo) = n by omega]; exact h0) (fun i hi hp r hr => h1 (lo + i) (by omega) (by omega) hp r hr) (fun i hi hp => h2 (lo + i) (by omega) (by omega) hp) (n - lo) 0 (by omega)
  rw [tf_congr (Q := ∀ j, 0 ≤ j → j < n - lo → P (lo + j)) ⟨fun h j a b => h (lo + j) (by omega) (by omega), fun h j a b => by
    have := h (j - lo) (by omega) (by omega)
    rwa [show lo + (j - lo) = j by omega] at this⟩]
  exact this

theorem eqIntS_l0 (xs : List Int) (hn : xs.length ≤ 1048576) : ∀ (d i : Nat), i + d = xs.length → Ev (fun k => laws_eqIntS.l0 k xs xs (i : Int)) true := by
  intro d
  induction d with
  | zero =>
    intro i hi
    refine Ev.step (fun k => by rw [laws_eqIntS.l0]) ?_
    exact Ev.no (by omega) (Ev.now _)
  | succ d ih =>
    intro i hi
    refine Ev.step (fun k => by rw [laws_eqIntS.l0]) ?_
    refine Ev.yes (by omega) (Ev.yes (by omega) (Ev.yes (by omega) (Ev.yes rfl ?_)))
    rw [wrS (show i < xs.length by omega) (by omega)]
    exact ih (i + 1) (by omega)
theorem eqIntS_ev (xs : List Int) (hn : xs.length ≤ 1048576) : Ev (fun k => laws_eqIntS.f k xs xs) true := by
  unfold laws_eqIntS.f
  exact Ev.yes rfl (eqIntS_l0 xs hn xs.length 0 (by omega))

def marks (n : Nat) (m : Int) : List Int := (List.range n).map fun j : Nat => m + (j : Int)
theorem marks_length (n : Nat) (m : Int) : (marks n m).length = n := by simp [marks]
theorem marks_rd {n i : Nat} (m : Int) (h : i < n) : rd (marks n m) (i : Int) = m + (i : Int) := by
  rw [rd_get (by rw [marks_length]; exact h)]
  simp [marks]
theorem marks_succ (n : Nat) (m : Int) : marks (n + 1) m = marks n m ++ [m + (n : Int)] := by
  unfold marks
  rw [List.range_succ, List.map_append]
  rfl
theorem markIntS_l0 (xs : List Int) (m : Int) (hn : xs.length ≤ 1048576) (h0 : 0 ≤ m) (h1 : m ≤ 4611686018427387904) : ∀ (d i : Nat), i + d = xs.length →
    Ev (fun k => laws_markIntS.l0 k (marks i m ++ xs.drop i) (m + (i : Int)) (i : Int)) (m + (xs.length : Int), marks xs.length m) := by
  intro d
  induction d with
  | zero =>
    intro i hi
    obtain rfl : i = xs.length := by omega
    refine Ev.step (fun k => by rw [laws_markIntS.l0]) ?_
    refine Ev.no (by simp [marks_length]) (Ev.now' ?_)
    rw [List.drop_length, List.append_nil]
  | succ d ih =>
    intro i hi
    have hlt : i < xs.length := by omega
    refine Ev.step (fun k => by rw [laws_markIntS.l0]) ?_
    refine Ev.yes (by rw [List.length_append, marks_length, List.length_drop]; omega) (Ev.yes (by omega) ?_)
    have e : (marks i m ++ xs.drop i).set (i : Int).toNat (m + (i : Int)) = marks (i + 1) m ++ xs.drop (i + 1) := by
      rw [Int.toNat_natCast, List.set_append_right _ _ (by rw [marks_length]; omega), marks_length, Nat.sub_self, drop_rd hlt, List.set_cons_zero, marks_succ, List.append_assoc]
      rfl
    rw [e, wrS hlt (by omega), wr (by omega) (by omega), show m + (i : Int) + 1 = m + ((i + 1 : Nat) : Int) by omega]
    exact ih (i + 1) (by omega)
theorem markIntS_ev (xs : List Int) (m : Int) (hn : xs.length ≤ 1048576) (h0 : 0 ≤ m) (h1 : m ≤ 4611686018427387904) : Ev (fun k => laws_markIntS.f k xs m) (m + (xs.length : Int), marks xs.length m) := by
  unfold laws_markIntS.f
  have h := markIntS_l0 xs m hn h0 h1 xs.length 0 (by omega)
  simpa [marks] using h
theorem heldIntS_l0 (n : Nat) (m : Int) (hn : n ≤ 1048576) (h0 : 0 ≤ m) (h1 : m ≤ 4611686018427387904) : ∀ (d i : Nat), i + d = n →
    Ev (fun k => laws_heldIntS.l0 k (marks n m) (m + (i : Int)) (i : Int)) (m + (n : Int)) := by
  intro d
  induction d with
  | zero =>
    intro i hi
    obtain rfl : i = n := by omega
    refine Ev.step (fun k => by rw [laws_heldIntS.l0]) ?_
    exact Ev.no (by simp [marks_length]) (Ev.now _)
  | succ d ih =>
    intro i hi
    have hlt : i < n := by omega
    refine Ev.step (fun k => by rw [laws_heldIntS.l0]) ?_
    refine Ev.yes (by rw [marks_length]; omega) (Ev.yes (by omega) (Ev.yes (marks_rd m hlt) ?_))
    rw [wrS hlt (by omega), wr (by omega) (by omega), show m + (i : Int) + 1 = m + ((i + 1 : Nat) : Int) by omega]
    exact ih (i + 1) (by omega)
theorem heldIntS_ev (n : Nat) (m : Int) (hn : n ≤ 1048576) (h0 : 0 ≤ m) (h1 : m ≤ 4611686018427387904) : Ev (fun k => laws_heldIntS.f k (marks n m) m) (m + (n : Int)) := by
  unfold laws_heldIntS.f
  have h := heldIntS_l0 n m hn h0 h1 n 0 (by omega)
  simpa using h

theorem l1In_eq (a b c : Int) : spec_l1In.f a b c = some (decide (b ≤ a ∧ a ≤ c)) := by
  unfold spec_l1In.f
  by_cases h : b ≤ a
  · rw [if_pos h]; simp [h]
  · rw [if_neg h]; simp [h]

theorem l1Has_l0 (v : Int) (xs : List Int) (hn : xs.length ≤ 35184372088832) : ∀ (d i : Nat), i + d = xs.length → Ev (fun k => spec_l1Has.l0 k v xs (xs.length : Int) (i : Int)) (decide (v ∈ xs.drop i)) := by
  intro d
  induction d with
  | zero =>
    intro i hi
    refine Ev.step (fun k => by rw [spec_l1Has.l0]) ?_
    refine Ev.no (by omega) (Ev.now' ?_)
    rw [List.drop_eq_nil_of_le (by omega)]
    rfl
  | succ d ih =>
    intro i hi
    have hlt : i < xs.length := by omega
    refine Ev.step (fun k => by rw [spec_l1Has.l0]) ?_
    refine Ev.yes (by omega) (Ev.yes (by omega) (Ev.yes (by omega) ?_))
    rw [drop_rd hlt]
    refine Ev.ite (fun h => Ev.now' ?_) (fun h => ?_)
    · simp [h]
    · rw [wrS hlt (by omega)]
      have e : decide (v ∈ rd xs (i : Int) :: xs.drop (i + 1)) = decide (v ∈ xs.drop (i + 1)) := by
        simp only [List.mem_cons, decide_eq_decide]
        exact ⟨fun h' => h'.resolve_left (fun e => h e.symm), .inr⟩
      rw [e]
      exact ih (i + 1) (by omega)
theorem l1Has_ev (xs : List Int) (v : Int) (hn : xs.length ≤ 35184372088832) : Ev (fun k => spec_l1Has.f k xs v) (decide (v ∈ xs)) := by
  unfold spec_l1Has.f
  have h := l1Has_l0 v xs hn xs.length 0 (by omega)
  rwa [List.drop_zero] at h

theorem doPrime_ev (a : Int) : Ev (fun k => spec_doPrime.f k a) (decide (a ∈ ([3, 5, 7, 11, 13] : List Int))) := by
  unfold spec_doPrime.f
  exact Ev.bind (l1Has_ev _ _ (by simp)) (Ev.now _)
theorem isPrime_eq (a : Int) : impl_isPrime.f a = some (decide (a ∈ ([3, 5, 7, 11, 13] : List Int))) := by
  unfold impl_isPrime.f
  by_cases h1 : a = 3
  · rw [if_pos h1]; simp [h1]
  rw [if_neg h1]
  by_cases h2 : a = 5
  · rw [if_pos h2]; simp [h2]
  rw [if_neg h2]
  by_cases h3 : a = 7
  · rw [if_pos h3]; simp [h3]
  rw [if_neg h3]
  by_cases h4 : a = 11
  · rw [if_pos h4]; simp [h4]
  rw [if_neg h4]
  simp [h1, h2, h3, h4]
  rfl
theorem doRoot_out (a b : Int) (ha : 3 ≤ a ∧ a ≤ 13) (hb : ¬ (2 ≤ b ∧ b < a)) : Ev (fun k => spec_doRoot.f k a b) false := by
  unfold spec_doRoot.f
  simp only [l1In_eq, Option.bind_some]
  rw [wr (by omega) (by omega)]
  refine Ev.no ?_ (Ev.now _)
  simp only [decide_eq_true_eq]
  omega
theorem isRoot_out (a b : Int) (hb : ¬ (a ∈ ([3, 5, 7, 11, 13] : List Int) ∧ 2 ≤ b ∧ b < a)) : Ev (fun k => impl_isRoot.f k a b) (false, false) := by
  unfold impl_isRoot.f
  simp only [isPrime_eq, Option.bind_some]
  have out : ∀ x, x = true → Ev (fun k => impl_isRoot.j0 k a b x) (false, false) := fun x hx => by
    refine Ev.step (g := fun k => impl_isRoot.j0 k _ _ _) (fun k => by rw [impl_isRoot.j0]) ?_
    exact Ev.yes hx (Ev.now _)
  by_cases hp : a ∈ ([3, 5, 7, 11, 13] : List Int)
  · exact Ev.yes (decide_eq_true hp) (Ev.ite (fun _ => out _ rfl) (fun h => out _ (decide_eq_true (Classical.byContradiction fun hh => hb ⟨hp, by omega, by omega⟩))))
  · exact Ev.no (by simpa using hp) (out _ rfl)
theorem in_prime {a : Int} (h : a ∈ ([3, 5, 7, 11, 13] : List Int)) : 3 ≤ a ∧ a ≤ 13 := by
  simp at h
  omega
theorem roots_fin : ∀ q ∈ ([3, 5, 7, 11, 13] : List Int), ∀ b : Fin 13, (spec_doRoot.f 40 q (b.val : Int)).isSome = true ∧ (impl_isRoot.f 40 q (b.val : Int)).isSome = true := by
  decide +kernel
theorem roots_any (q b : Int) (hq : q ∈ ([3, 5, 7, 11, 13] : List Int)) (hb : 2 ≤ b ∧ b < q) : ∃ w, Ev (fun k => spec_doRoot.f k q b) w := by
  have := in_prime hq
  have h := (roots_fin q hq ⟨b.toNat, by omega⟩).1
  simp only [show ((b.toNat : Nat) : Int) = b by omega] at h
  obtain ⟨w, hw⟩ := Option.isSome_iff_exists.1 h
  exact ⟨w, Ev.of (spec_doRoot.mono q b) (k := 40) hw⟩
theorem iroots_any (q b : Int) (hq : q ∈ ([3, 5, 7, 11, 13] : List Int)) (hb : 2 ≤ b ∧ b < q) : ∃ w, Ev (fun k => impl_isRoot.f k q b) w := by
  have := in_prime hq
  have h := (roots_fin q hq ⟨b.toNat, by omega⟩).2
  simp only [show ((b.toNat : Nat) : Int) = b by omega] at h
  obtain ⟨w, hw⟩ := Option.isSome_iff_exists.1 h
  exact ⟨w, Ev.of (impl_isRoot.mono q b) (k := 40) hw⟩
theorem iroots_all (q b : Int) : ∃ w, Ev (fun k => impl_isRoot.f k q b) w := by
  by_cases h : q ∈ ([3, 5, 7, 11, 13] : List Int) ∧ 2 ≤ b ∧ b < q
  · exact iroots_any q b h.1 h.2
  · exact ⟨_, isRoot_out q b h⟩

theorem logs : ∀ q ∈ ([3, 5, 7, 11, 13] : List Int), ∀ a b : Fin 13, spec_LogsDots.f 200 q (a.val : Int) (b.val : Int) = impl_LogsDots.f 200 q (a.val : Int) (b.val : Int) ∧ (impl_LogsDots.f 200 q (a.val : Int) (b.val : Int)).isSome = true := by
  decide +kernel
theorem logs_short : ∀ q ∈ ([3, 5, 7, 11, 13] : List Int), ∀ a b : Fin 13, ∀ w, impl_LogsDots.f 200 q (a.val : Int) (b.val : Int) = some w → w.1.length ≤ 1048576 := by
  have h : ∀ q ∈ ([3, 5, 7, 11, 13] : List Int), ∀ a b : Fin 13, ((impl_LogsDots.f 200 q (a.val : Int) (b.val : Int)).all fun w => decide (w.1.length ≤ 1048576)) = true := by decide +kernel
  intro q hq a b w hw
  have := h q hq a b
  rw [hw] at this
  simpa using this
theorem agree (q a b : Int) (hq : W64 q) (ha : W64 a) (hb : W64 b) : ∃ w : List Int × Bool, Ev (fun k => spec_LogsDots.f k q a b) w ∧ Ev (fun k => impl_LogsDots.f k q a b) w ∧ w.1.length ≤ 1048576 := by
  have si : ∀ x, x = true → Ev (fun k => spec_LogsDots.j0 k q a b x) ([], false) := fun x hx => by
    refine Ev.step (g := fun k => spec_LogsDots.j0 k _ _ _ _) (fun k => by rw [spec_LogsDots.j0]) ?_
    exact Ev.yes hx (Ev.now _)
  have ii : ∀ x, x = true → Ev (fun k => impl_LogsDots.j0 k q a b x) ([], false) := fun x hx => by
    refine Ev.step (g := fun k => impl_LogsDots.j0 k _ _ _ _) (fun k => by rw [impl_LogsDots.j0]) ?_
    exact Ev.yes hx (Ev.now _)
  by_cases hp : q ∈ ([3, 5, 7, 11, 13] : List Int)
  · have hp2 := in_prime hp
    by_cases hA : 2 ≤ a ∧ a < q
    · by_cases hB : 2 ≤ b ∧ b < q
      · have h1 := logs q hp ⟨a.toNat, by omega⟩ ⟨b.toNat, by omega⟩
        have h2 := logs_short q hp ⟨a.toNat, by omega⟩ ⟨b.toNat, by omega⟩
        simp only [show ((a.toNat : Nat) : Int) = a by omega, show ((b.toNat : Nat) : Int) = b by omega] at h1 h2
        obtain ⟨w, hw⟩ := Option.isSome_iff_exists.1 h1.2
        exact ⟨w, Ev.of (spec_LogsDots.mono q a b) (k := 200) (h1.1.trans hw), Ev.of (impl_LogsDots.mono q a b) (k := 200) hw, h2 w hw⟩
      · refine ⟨([], false), ?_, ?_, by simp⟩
        · unfold spec_LogsDots.f
          refine Ev.bind (doPrime_ev q) (Ev.yes (decide_eq_true hp) (Ev.ite (fun _ => si _ rfl) (fun _ => ?_)))
          obtain ⟨k, hk⟩ : ∃ w, Ev (fun k => spec_doRoot.f k q a) w := roots_any q a hp hA
          refine Ev.bind hk (Ev.ite (fun _ => Ev.bind (doRoot_out q b hp2 hB) (si _ rfl)) (fun _ => si _ rfl))
        · unfold impl_LogsDots.f
          obtain ⟨k, hk⟩ := iroots_any q a hp hA
          refine Ev.bind hk (Ev.bind (isRoot_out q b (fun h => hB h.2)) ?_)
          exact Ev.ite (fun _ => Ev.no (by simp) (ii _ rfl)) (fun _ => ii _ rfl)
    · refine ⟨([], false), ?_, ?_, by simp⟩
      · unfold spec_LogsDots.f
        refine Ev.bind (doPrime_ev q) (Ev.yes (decide_eq_true hp) (Ev.ite (fun _ => si _ rfl) (fun _ => ?_)))
        exact Ev.bind (doRoot_out q a hp2 hA) (Ev.no (by simp) (si _ rfl))
      · unfold impl_LogsDots.f
        obtain ⟨k, hk⟩ := iroots_all q b
        refine Ev.bind (isRoot_out q a (fun h => hA h.2)) (Ev.bind hk ?_)
        exact Ev.no (by simp) (ii _ rfl)
  · refine ⟨([], false), ?_, ?_, by simp⟩
    · unfold spec_LogsDots.f
      exact Ev.bind (doPrime_ev q) (Ev.no (by simpa using hp) (si _ rfl))
    · unfold impl_LogsDots.f
      refine Ev.bind (isRoot_out q a (fun h => hp h.1)) (Ev.bind (isRoot_out q b (fun h => hp h.1)) ?_)
      exact Ev.no (by simp) (ii _ rfl)

theorem FnExactLogsDots : laws_FnExactLogsDots.Pure := by
  intro a0 a1 a2 wa0 wa1 wa2
  apply Ev.rounds
  unfold laws_FnExactLogsDots.f
  obtain ⟨w, hS, hI, hW⟩ := agree a0 a1 a2 (bounds_i64 wa0) (bounds_i64 wa1) (bounds_i64 wa2)
  repeat (first
    | (exact Ev.now _)
    | (with_reducible refine Ev.bind hS ?_)
    | (with_reducible refine Ev.bind hI ?_)
    | (with_reducible refine Ev.bind (eqIntS_ev _ hW) ?_)
    | (with_reducible refine Ev.bind (markIntS_ev _ 1 hW (by omega) (by omega)) ?_)
    | (with_reducible refine Ev.bind (heldIntS_ev _ 1 hW (by omega) (by omega)) ?_)
    | (with_reducible refine Ev.step (g := fun k => laws_FnExactLogsDots.j0 k _ _ _ _ _ _ _) (fun k => by rw [laws_FnExactLogsDots.j0]) ?_)
    | (with_reducible refine Ev.step (g := fun k => laws_FnExactLogsDots.j1 k _ _ _) (fun k => by rw [laws_FnExactLogsDots.j1]) ?_)
    | ((with_reducible apply Ev.yes); rfl)
    | ((with_reducible apply Ev.no); omega)
    | ((with_reducible apply Ev.no); focus (simp; done))
    | ((with_reducible apply Ev.yes); omega)
    | ((with_reducible apply Ev.yes); focus (simp; done)))

end Go.Proofs.Ythjbgfpoalehlaa.Pure
