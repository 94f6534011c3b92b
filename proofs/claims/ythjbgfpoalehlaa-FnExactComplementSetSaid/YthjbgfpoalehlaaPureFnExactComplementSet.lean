/- For every argument that can be read, the law FnExactComplementSet answers true: the program's ComplementSet returns what the reference's returns; no condition. -/
import Derived.Test.YthjbgfpoalehlaaWSized
import Derived.ChangeSlices
import Derived.SizedLaws
import Derived.Test.YthjbgfpoalehlaaPFnExactComplementSetx4
import Derived.OpenShut
namespace Go.Proofs.Ythjbgfpoalehlaa.Pure
open Go.RowKit Go.Proofs.Ythjbgfpoalehlaa.PFnExactComplementSet Go.Proofs.YthjbgfpoalehlaaW.PrintWords Go.Proofs.YthjbgfpoalehlaaW.PrintLast Go.Proofs.YthjbgfpoalehlaaW.PrintMore
set_option linter.unusedVariables false

/-! ### small words: rounds, wraps, reads -/
theorem Ev.yes {α : Type} {c : Prop} [Decidable c] {A B : Nat → Option α} {r : α} (h : c) (k : Ev A r) : Ev (fun n => if c then A n else B n) r := by
  simp only [if_pos h]; exact k
theorem Ev.no {α : Type} {c : Prop} [Decidable c] {A B : Nat → Option α} {r : α} (h : ¬ c) (k : Ev B r) : Ev (fun n => if c then A n else B n) r := by
  simp only [if_neg h]; exact k
theorem Ev.ite {α : Type} {c : Prop} [Decidable c] {A B : Nat → Option α} {r : α} (k : c → Ev A r) (k' : ¬ c → Ev B r) : Ev (fun n => if c then A n else B n) r := by
  by_cases h : c
  · exact Ev.yes h (k h)
  · exact Ev.no h (k' h)
theorem Ev.now' {α : Type} {x r : α} (h : x = r) : Ev (fun _ => some x) r := h ▸ Ev.now x
theorem Ev.one {α : Type} {g : Nat → Option α} {r q : α} (h : Ev g r) (k : Ev g q) : r = q := by
  obtain ⟨K, h⟩ := h
  obtain ⟨K', k⟩ := k
  have h1 := h (max K K') (by omega)
  have h2 := k (max K K') (by omega)
  rw [h1] at h2
  exact Option.some.inj h2
def W64 (x : Int) : Prop := -9223372036854775808 ≤ x ∧ x ≤ 9223372036854775807
theorem wr {x : Int} (h0 : -9223372036854775808 ≤ x) (h1 : x ≤ 9223372036854775807) : wrap64 x = x := by
  unfold wrap64
  omega
theorem wrS {i n : Nat} (h : i < n) (hn : n ≤ 9223372036854775807) : wrap64 ((i : Int) + 1) = ((i + 1 : Nat) : Int) := by
  unfold wrap64
  omega
theorem wrP {i n : Nat} (h : i ≤ n) (h0 : 0 < i) (hn : n ≤ 9223372036854775807) : wrap64 ((i : Int) - 1) = ((i - 1 : Nat) : Int) := by
  unfold wrap64
  omega
theorem rd_get {xs : List Int} {i : Nat} (h : i < xs.length) : rd xs (i : Int) = xs[i] := by
  unfold rd
  simp [h]
theorem rd_none {xs : List Int} {i : Nat} (h : xs.length ≤ i) : rd xs (i : Int) = 0 := by
  unfold rd
  simp [h]
theorem drop_rd {xs : List Int} {i : Nat} (h : i < xs.length) : xs.drop i = rd xs (i : Int) :: xs.drop (i + 1) := by
  rw [rd_get h, List.drop_eq_getElem_cons h]
theorem take_rd {xs : List Int} {i : Nat} (h : i < xs.length) : xs.take (i + 1) = xs.take i ++ [rd xs (i : Int)] := by
  rw [rd_get h, List.take_succ_eq_append_getElem h]
theorem rd_mem {xs : List Int} {i : Nat} (h : i < xs.length) : rd xs (i : Int) ∈ xs := by
  rw [rd_get h]
  exact List.getElem_mem h
theorem mem_rd {xs : List Int} {x : Int} (h : x ∈ xs) : ∃ i : Nat, i < xs.length ∧ rd xs (i : Int) = x := by
  obtain ⟨i, hi, rfl⟩ := List.getElem_of_mem h
  exact ⟨i, hi, rd_get hi⟩
theorem rd_set_self {xs : List Int} {i : Nat} {v : Int} (h : i < xs.length) : rd (xs.set i v) (i : Int) = v := by
  rw [rd_get (by simpa using h)]
  simp
theorem rd_set_ne {xs : List Int} {i j : Nat} {v : Int} (h : i ≠ j) : rd (xs.set i v) (j : Int) = rd xs (j : Int) := by
  unfold rd
  simp [List.getD_eq_getElem?_getD, List.getElem?_set_ne h]
theorem rd_replicate {n i : Nat} : rd (List.replicate n (0 : Int)) (i : Int) = 0 := by
  unfold rd
  simp only [Int.toNat_natCast, List.getD_eq_getElem?_getD, List.getElem?_replicate]
  split <;> rfl
theorem rd_take {xs : List Int} {i n : Nat} (h : i < n) : rd (xs.take n) (i : Int) = rd xs (i : Int) := by
  unfold rd
  simp [List.getD_eq_getElem?_getD, h]
theorem rd_append_left {xs ys : List Int} {i : Nat} (h : i < xs.length) : rd (xs ++ ys) (i : Int) = rd xs (i : Int) := by
  unfold rd
  simp [List.getD_eq_getElem?_getD, List.getElem?_append_left h]
theorem rd_last {xs : List Int} {x : Int} : rd (xs ++ [x]) (xs.length : Int) = x := by
  unfold rd
  simp
theorem rd_ext {xs ys : List Int} (hl : xs.length = ys.length) (h : ∀ i : Nat, i < xs.length → rd xs (i : Int) = rd ys (i : Int)) : xs = ys := by
  apply List.ext_getElem hl
  intro i h1 h2
  rw [← rd_get h1, ← rd_get h2]
  exact h i h1
noncomputable def tf (P : Prop) : Bool := @decide P (Classical.propDecidable P)
theorem tf_pos {P : Prop} (h : P) : tf P = true := by
  unfold tf
  exact @decide_eq_true P (Classical.propDecidable P) h
theorem tf_neg {P : Prop} (h : ¬ P) : tf P = false := by
  unfold tf
  exact @decide_eq_false P (Classical.propDecidable P) h
theorem tf_iff {P : Prop} : tf P = true ↔ P := by
  by_cases h : P
  · rw [tf_pos h]; exact ⟨fun _ => h, fun _ => rfl⟩
  · rw [tf_neg h]; exact ⟨fun h' => (Bool.noConfusion h'), fun h' => absurd h' h⟩
theorem tf_congr {P Q : Prop} (h : P ↔ Q) : tf P = tf Q := by
  rw [show P = Q from propext h]
theorem tf_dec {P : Prop} [Decidable P] : tf P = decide P := by
  by_cases h : P
  · rw [tf_pos h, decide_eq_true h]
  · rw [tf_neg h, decide_eq_false h]
theorem tf_not {P : Prop} : (!tf P) = tf (¬ P) := by
  by_cases h : P
  · rw [tf_pos h, tf_neg (not_not_intro h)]; rfl
  · rw [tf_neg h, tf_pos h]; rfl
/-- A loop that asks each place: at the end b, where all answer yes. -/
theorem all_loop_b {L : Nat → Nat → Option Bool} {n : Nat} {P : Nat → Prop} {b : Bool} (h0 : Ev (fun k => L k n) b)
    (h1 : ∀ i, i < n → P i → ∀ r, Ev (fun k => L k (i + 1)) r → Ev (fun k => L k i) r) (h2 : ∀ i, i < n → ¬ P i → Ev (fun k => L k i) false) :
    ∀ (d i : Nat), i + d = n → Ev (fun k => L k i) (tf (∀ j, i ≤ j → j < n → P j) && b) := by
  intro d
  induction d with
  | zero =>
    intro i hi
    obtain rfl : i = n := by omega
    rw [tf_pos (fun j h h' => by omega)]
    exact h0
  | succ d ih =>
    intro i hi
    by_cases hp : P i
    · have := h1 i (by omega) hp _ (ih (i + 1) (by omega))
      rw [tf_congr (Q := ∀ j, i + 1 ≤ j → j < n → P j) ⟨fun h j hj hn => h j (by omega) hn, fun h j hj hn => by
        rcases Nat.lt_or_ge i j with hl | hl
        · exact h j hl hn
        · rw [show j = i by omega]; exact hp⟩]
      exact this
    · rw [tf_neg (fun h => hp (h i (Nat.le_refl _) (by omega)))]
      exact h2 i (by omega) hp
/-- A loop that asks each place: true where all answer yes. -/
theorem all_loop {L : Nat → Nat → Option Bool} {n : Nat} {P : Nat → Prop} (h0 : Ev (fun k => L k n) true)
    (h1 : ∀ i, i < n → P i → ∀ r, Ev (fun k => L k (i + 1)) r → Ev (fun k => L k i) r) (h2 : ∀ i, i < n → ¬ P i → Ev (fun k => L k i) false)
    (d i : Nat) (h : i + d = n) : Ev (fun k => L k i) (tf (∀ j, i ≤ j → j < n → P j)) := by
  have := all_loop_b h0 h1 h2 d i h
  rwa [Bool.and_true] at this
/-- A loop that goes on with a state. -/
theorem acc_loop {σ ρ : Type} {L : Nat → Nat → σ → Option ρ} {n : Nat} (Inv : Nat → σ → Prop)
    (step : ∀ i s, i < n → Inv i s → ∃ s', Inv (i + 1) s' ∧ ∀ r, Ev (fun k => L k (i + 1) s') r → Ev (fun k => L k i s) r) :
    ∀ (d i : Nat) (s : σ), i + d = n → Inv i s → ∃ s', Inv n s' ∧ ∀ r, Ev (fun k => L k n s') r → Ev (fun k => L k i s) r := by
  intro d
  induction d with
  | zero =>
    intro i s hi h
    obtain rfl : i = n := by omega
    exact ⟨s, h, fun _ h => h⟩
  | succ d ih =>
    intro i s hi h
    obtain ⟨s', h', k'⟩ := step i s (by omega) h
    obtain ⟨t, h'', k''⟩ := ih (i + 1) s' (by omega) h'
    exact ⟨t, h'', fun r hr => k' r (k'' r hr)⟩
/-- A loop that goes on with a state, or answers at once. -/
theorem ret_loop {σ ρ : Type} {L : Nat → Nat → σ → Option ρ} {n : Nat} (Inv : Nat → σ → Prop) (Post : ρ → Prop)
    (step : ∀ i s, i < n → Inv i s → (∃ r, Ev (fun k => L k i s) r ∧ Post r) ∨ ∃ s', Inv (i + 1) s' ∧ ∀ r, Ev (fun k => L k (i + 1) s') r → Ev (fun k => L k i s) r) :
    ∀ (d i : Nat) (s : σ), i + d = n → Inv i s → (∃ r, Ev (fun k => L k i s) r ∧ Post r) ∨ ∃ s', Inv n s' ∧ ∀ r, Ev (fun k => L k n s') r → Ev (fun k => L k i s) r := by
  intro d
  induction d with
  | zero =>
    intro i s hi h
    obtain rfl : i = n := by omega
    exact .inr ⟨s, h, fun _ h => h⟩
  | succ d ih =>
    intro i s hi h
    rcases step i s (by omega) h with h1 | ⟨s', h', k'⟩
    · exact .inl h1
    · rcases ih (i + 1) s' (by omega) h' with ⟨r, hr, hp⟩ | ⟨t, h'', k''⟩
      · exact .inl ⟨r, k' r hr, hp⟩
      · exact .inr ⟨t, h'', fun r hr => k' r (k'' r hr)⟩
/-- The state is known at each place. -/
theorem det_loop {σ ρ : Type} {L : Nat → Nat → σ → Option ρ} {n : Nat} (S : Nat → σ)
    (step : ∀ i, i < n → ∀ r, Ev (fun k => L k (i + 1) (S (i + 1))) r → Ev (fun k => L k i (S i)) r) {r : ρ} (h : Ev (fun k => L k n (S n)) r) :
    ∀ (d i : Nat), i + d = n → Ev (fun k => L k i (S i)) r := by
  intro d
  induction d with
  | zero =>
    intro i hi
    obtain rfl : i = n := by omega
    exact h
  | succ d ih =>
    intro i hi
    exact step i (by omega) r (ih (i + 1) (by omega))
theorem acc_step {σ : Type} {P Q : σ → Prop} (s : σ) (q : Q s) (p : P s) : ∃ s, P s ∧ Q s := ⟨s, p, q⟩
theorem agree_run {α : Type} {g f : Nat → Option α} (hg : ∀ k, LeO (g k) (g (k + 1))) (hf : ∀ k, LeO (f k) (f (k + 1))) (k : Nat) (h : g k = f k ∧ (f k).isSome = true) : ∃ w, Ev g w ∧ Ev f w := by
  obtain ⟨e, h⟩ := h
  obtain ⟨w, hw⟩ := Option.isSome_iff_exists.1 h
  exact ⟨w, Ev.of hg (k := k) (e.trans hw), Ev.of hf (k := k) hw⟩
/-- all_loop, from a place on. -/
theorem all_from {L : Nat → Nat → Option Bool} {n : Nat} {P : Nat → Prop} {b : Bool} (lo : Nat) (h0 : Ev (fun k => L k n) b)
    (h1 : ∀ i, lo ≤ i → i < n → P i → ∀ r, Ev (fun k => L k (i + 1)) r → Ev (fun k => L k i) r) (h2 : ∀ i, lo ≤ i → i < n → ¬ P i → Ev (fun k => L k i) false) (hlo : lo ≤ n) :
    Ev (fun k => L k lo) (tf (∀ j, lo ≤ j → j < n → P j) && b) := by
  have := all_loop_b (L := fun k i => L k (lo + i)) (n := n - lo) (P := fun i => P (lo + i)) (b := b) (by rw [show lo + (n - lo) = n by omega]; exact h0) (fun i hi hp r hr => h1 (lo + i) (by omega) (by omega) hp r hr) (fun i hi hp => h2 (lo + i) (by omega) (by omega) hp) (n - lo) 0 (by omega)
  rw [tf_congr (Q := ∀ j, 0 ≤ j → j < n - lo → P (lo + j)) ⟨fun h j a b => h (lo + j) (by omega) (by omega), fun h j a b => by
    have := h (j - lo) (by omega) (by omega)
    rwa [show lo + (j - lo) = j by omega] at this⟩]
  exact this

theorem toIntS_l0 (xs : List Int) (hn : xs.length ≤ 1048576) : ∀ (d i : Nat), i + d = xs.length → Ev (fun k => laws_toIntS.l0 k xs (xs.take i ++ List.replicate d 0) (i : Int)) xs := by
  intro d
  induction d with
  | zero =>
    intro i hi
    refine Ev.step (fun k => by rw [laws_toIntS.l0]) ?_
    refine Ev.no (by omega) (Ev.now' ?_)
    rw [List.take_of_length_le (by omega)]
    simp
  | succ d ih =>
    intro i hi
    have hlt : i < xs.length := by omega
    refine Ev.step (fun k => by rw [laws_toIntS.l0]) ?_
    refine Ev.yes (by omega) (Ev.yes (by omega) (Ev.yes (by simp only [List.length_append, List.length_take, List.length_replicate]; omega) ?_))
    rw [wrS hlt (by omega)]
    have e : (xs.take i ++ List.replicate (d + 1) (0 : Int)).set (i : Int).toNat (rd xs (i : Int)) = xs.take (i + 1) ++ List.replicate d 0 := by
      rw [Int.toNat_natCast, List.set_append_right _ _ (by rw [List.length_take]; omega), take_rd hlt, List.length_take, Nat.min_eq_left (by omega), Nat.sub_self, List.replicate_succ, List.set_cons_zero, List.append_assoc]
      rfl
    rw [e]
    exact ih (i + 1) (by omega)
theorem toIntS_ev (xs : List Int) (hn : xs.length ≤ 1048576) : Ev (fun k => laws_toIntS.f k xs) xs := by
  unfold laws_toIntS.f
  refine Ev.yes (by omega) (Ev.yes (by omega) ?_)
  have h := toIntS_l0 xs hn xs.length 0 (by omega)
  rw [List.take_zero, List.nil_append] at h
  rw [Int.toNat_natCast]
  exact h

theorem eqIntS_l0 (xs : List Int) (hn : xs.length ≤ 1048576) : ∀ (d i : Nat), i + d = xs.length → Ev (fun k => laws_eqIntS.l0 k xs xs (i : Int)) true := by
  intro d
  induction d with
  | zero =>
    intro i hi
    refine Ev.step (fun k => by rw [laws_eqIntS.l0]) ?_
    exact Ev.no (by omega) (Ev.now _)
  | succ d ih =>
    intro i hi
    refine Ev.step (fun k => by rw [laws_eqIntS.l0]) ?_
    refine Ev.yes (by omega) (Ev.yes (by omega) (Ev.yes (by omega) (Ev.yes rfl ?_)))
    rw [wrS (show i < xs.length by omega) (by omega)]
    exact ih (i + 1) (by omega)
theorem eqIntS_ev (xs : List Int) (hn : xs.length ≤ 1048576) : Ev (fun k => laws_eqIntS.f k xs xs) true := by
  unfold laws_eqIntS.f
  exact Ev.yes rfl (eqIntS_l0 xs hn xs.length 0 (by omega))

def marks (n : Nat) (m : Int) : List Int := (List.range n).map fun j : Nat => m + (j : Int)
theorem marks_length (n : Nat) (m : Int) : (marks n m).length = n := by simp [marks]
theorem marks_rd {n i : Nat} (m : Int) (h : i < n) : rd (marks n m) (i : Int) = m + (i : Int) := by
  rw [rd_get (by rw [marks_length]; exact h)]
  simp [marks]
theorem marks_succ (n : Nat) (m : Int) : marks (n + 1) m = marks n m ++ [m + (n : Int)] := by
  unfold marks
  rw [List.range_succ, List.map_append]
  rfl
theorem markIntS_l0 (xs : List Int) (m : Int) (hn : xs.length ≤ 1048576) (h0 : 0 ≤ m) (h1 : m ≤ 4611686018427387904) : ∀ (d i : Nat), i + d = xs.length →
    Ev (fun k => laws_markIntS.l0 k (marks i m ++ xs.drop i) (m + (i : Int)) (i : Int)) (m + (xs.length : Int), marks xs.length m) := by
  intro d
  induction d with
  | zero =>
    intro i hi
    obtain rfl : i = xs.length := by omega
    refine Ev.step (fun k => by rw [laws_markIntS.l0]) ?_
    refine Ev.no (by simp [marks_length]) (Ev.now' ?_)
    rw [List.drop_length, List.append_nil]
  | succ d ih =>
    intro i hi
    have hlt : i < xs.length := by omega
    refine Ev.step (fun k => by rw [laws_markIntS.l0]) ?_
    refine Ev.yes (by rw [List.length_append, marks_length, List.length_drop]; omega) (Ev.yes (by omega) ?_)
    have e : (marks i m ++ xs.drop i).set (i : Int).toNat (m + (i : Int)) = marks (i + 1) m ++ xs.drop (i + 1) := by
      rw [Int.toNat_natCast, List.set_append_right _ _ (by rw [marks_length]; omega), marks_length, Nat.sub_self, drop_rd hlt, List.set_cons_zero, marks_succ, List.append_assoc]
      rfl
    rw [e, wrS hlt (by omega), wr (by omega) (by omega), show m + (i : Int) + 1 = m + ((i + 1 : Nat) : Int) by omega]
    exact ih (i + 1) (by omega)
theorem markIntS_ev (xs : List Int) (m : Int) (hn : xs.length ≤ 1048576) (h0 : 0 ≤ m) (h1 : m ≤ 4611686018427387904) : Ev (fun k => laws_markIntS.f k xs m) (m + (xs.length : Int), marks xs.length m) := by
  unfold laws_markIntS.f
  have h := markIntS_l0 xs m hn h0 h1 xs.length 0 (by omega)
  simpa [marks] using h
theorem heldIntS_l0 (n : Nat) (m : Int) (hn : n ≤ 1048576) (h0 : 0 ≤ m) (h1 : m ≤ 4611686018427387904) : ∀ (d i : Nat), i + d = n →
    Ev (fun k => laws_heldIntS.l0 k (marks n m) (m + (i : Int)) (i : Int)) (m + (n : Int)) := by
  intro d
  induction d with
  | zero =>
    intro i hi
    obtain rfl : i = n := by omega
    refine Ev.step (fun k => by rw [laws_heldIntS.l0]) ?_
    exact Ev.no (by simp [marks_length]) (Ev.now _)
  | succ d ih =>
    intro i hi
    have hlt : i < n := by omega
    refine Ev.step (fun k => by rw [laws_heldIntS.l0]) ?_
    refine Ev.yes (by rw [marks_length]; omega) (Ev.yes (by omega) (Ev.yes (marks_rd m hlt) ?_))
    rw [wrS hlt (by omega), wr (by omega) (by omega), show m + (i : Int) + 1 = m + ((i + 1 : Nat) : Int) by omega]
    exact ih (i + 1) (by omega)
theorem heldIntS_ev (n : Nat) (m : Int) (hn : n ≤ 1048576) (h0 : 0 ≤ m) (h1 : m ≤ 4611686018427387904) : Ev (fun k => laws_heldIntS.f k (marks n m) m) (m + (n : Int)) := by
  unfold laws_heldIntS.f
  have h := heldIntS_l0 n m hn h0 h1 n 0 (by omega)
  simpa using h

theorem l1In_eq (a b c : Int) : spec_l1In.f a b c = some (decide (b ≤ a ∧ a ≤ c)) := by
  unfold spec_l1In.f
  by_cases h : b ≤ a
  · rw [if_pos h]; simp [h]
  · rw [if_neg h]; simp [h]

theorem l1All_ev (xs : List Int) (a b : Int) (hn : xs.length ≤ 35184372088832) : Ev (fun k => spec_l1All.f k xs a b) (tf (∀ j, 0 ≤ j → j < xs.length → a ≤ rd xs (j : Int) ∧ rd xs (j : Int) ≤ b)) := by
  unfold spec_l1All.f
  refine all_loop (L := fun k i => spec_l1All.l0 k a b xs (xs.length : Int) (i : Int)) ?_ ?_ ?_ xs.length 0 (by omega)
  · refine Ev.step (fun k => by rw [spec_l1All.l0]) ?_
    exact Ev.no (by omega) (Ev.now _)
  · intro i hi hp r hr
    refine Ev.step (fun k => by rw [spec_l1All.l0]) ?_
    refine Ev.yes (by omega) (Ev.yes (by omega) (Ev.yes (by omega) ?_))
    simp only [l1In_eq, Option.bind_some]
    rw [wrS hi (by omega)]
    exact Ev.yes (decide_eq_true hp) hr
  · intro i hi hp
    refine Ev.step (fun k => by rw [spec_l1All.l0]) ?_
    refine Ev.yes (by omega) (Ev.yes (by omega) (Ev.yes (by omega) ?_))
    simp only [l1In_eq, Option.bind_some]
    exact Ev.no (by simpa using hp) (Ev.now _)

/-- A circle set: points of a circle, increasing. -/
def Circ (v : Int) (s : List Int) : Prop := (2 ≤ v ∧ v ≤ 31 ∧ 1 ≤ s.length ∧ s.length ≤ 8 ∧ (s.length : Int) < v) ∧ (∀ j, 0 ≤ j → j < s.length → 0 ≤ rd s (j : Int) ∧ rd s (j : Int) < v) ∧ ∀ j, 1 ≤ j → j < s.length → rd s ((j - 1 : Nat) : Int) < rd s (j : Int)
theorem ciGood_ev (v : Int) (s : List Int) (hn : s.length ≤ 1048576) : Ev (fun k => spec_ciGood.f k v s) (tf (Circ v s)) := by
  unfold spec_ciGood.f
  simp only [l1In_eq, Option.bind_some]
  refine Ev.ite (fun h1 => Ev.ite (fun h2 => Ev.ite (fun h3 => ?_) (fun h3 => ?_)) (fun h2 => ?_)) (fun h1 => ?_)
  · rw [tf_neg (fun h => by have := h.1; omega)]
    refine Ev.step (g := fun k => spec_ciGood.j0 k _ _) (fun k => by rw [spec_ciGood.j0]) ?_
    exact Ev.yes rfl (Ev.now _)
  · have h1 := of_decide_eq_true h1
    have h2 := of_decide_eq_true h2
    rw [wr (by omega) (by omega)]
    refine Ev.bind (l1All_ev s 0 (v - 1) (by omega)) ?_
    refine Ev.step (g := fun k => spec_ciGood.j0 k _ _) (fun k => by rw [spec_ciGood.j0]) ?_
    by_cases h4 : ∀ j, 0 ≤ j → j < s.length → 0 ≤ rd s (j : Int) ∧ rd s (j : Int) ≤ v - 1
    · rw [tf_pos h4]
      refine Ev.no (by simp) ?_
      rw [tf_congr (Q := ∀ j, 1 ≤ j → j < s.length → rd s ((j - 1 : Nat) : Int) < rd s (j : Int)) ⟨fun h => h.2.2, fun h => ⟨⟨h1.1, h1.2, by omega, by omega, by omega⟩, fun j a b => ⟨(h4 j a b).1, by have := (h4 j a b).2; omega⟩, h⟩⟩]
      rw [← Bool.and_true (tf _)]
      refine all_from (L := fun k i => spec_ciGood.l0 k s (i : Int)) 1 ?_ (fun i h0 hi hp r hr => ?_) (fun i h0 hi hp => ?_) (by omega)
      · refine Ev.step (fun k => by rw [spec_ciGood.l0]) ?_
        exact Ev.no (by omega) (Ev.now _)
      · refine Ev.step (fun k => by rw [spec_ciGood.l0]) ?_
        rw [wrP (Nat.le_refl _) h0 (by omega)]
        refine Ev.yes (by omega) (Ev.yes (by omega) (Ev.yes (by omega) (Ev.yes (by omega) (Ev.no (by omega) ?_))))
        rw [wrS hi (by omega)]
        exact hr
      · refine Ev.step (fun k => by rw [spec_ciGood.l0]) ?_
        rw [wrP (Nat.le_refl _) h0 (by omega)]
        exact Ev.yes (by omega) (Ev.yes (by omega) (Ev.yes (by omega) (Ev.yes (by omega) (Ev.yes (by omega) (Ev.now _)))))
    · rw [tf_neg h4, tf_neg (fun h => h4 (fun j a b => ⟨(h.2.1 j a b).1, by have := (h.2.1 j a b).2; omega⟩))]
      exact Ev.yes rfl (Ev.now _)
  · rw [tf_neg (fun h => h2 (decide_eq_true (by have := h.1; omega)))]
    refine Ev.step (g := fun k => spec_ciGood.j0 k _ _) (fun k => by rw [spec_ciGood.j0]) ?_
    exact Ev.yes rfl (Ev.now _)
  · rw [tf_neg (fun h => h1 (decide_eq_true (by have := h.1; omega)))]
    refine Ev.step (g := fun k => spec_ciGood.j0 k _ _) (fun k => by rw [spec_ciGood.j0]) ?_
    exact Ev.yes rfl (Ev.now _)
theorem isCircle_eq (a : Int) : impl_isCircle.f a = some (decide (2 ≤ a ∧ a ≤ 31)) := by
  unfold impl_isCircle.f
  by_cases h : 2 ≤ a
  · rw [if_pos h]; simp [h]
  · rw [if_neg h]; simp [h]
theorem IsCircleSet_ev (v : Int) (s : List Int) (hn : s.length ≤ 1048576) : Ev (fun k => impl_IsCircleSet.f k v s) (tf (Circ v s)) := by
  unfold impl_IsCircleSet.f
  simp only [isCircle_eq, Option.bind_some]
  have out : ∀ b : Bool, b = true → ¬ Circ v s → Ev (fun k => impl_IsCircleSet.j0 k v s b) (tf (Circ v s)) := by
    intro b hb hc
    rw [tf_neg hc]
    refine Ev.step (g := fun k => impl_IsCircleSet.j0 k _ _ _) (fun k => by rw [impl_IsCircleSet.j0]) ?_
    exact Ev.yes hb (Ev.now _)
  refine Ev.ite (fun h1 => Ev.ite (fun h2 => ?_) (fun h2 => Ev.ite (fun h3 => ?_) (fun h3 => ?_))) (fun h1 => ?_)
  · exact out true rfl (fun h => by have := h.1; omega)
  · exact out true rfl (fun h => by have := h.1; omega)
  · by_cases h4 : (s.length : Int) ≥ v
    · exact out _ (decide_eq_true h4) (fun h => by have := h.1; omega)
    · have h1 := of_decide_eq_true h1
      refine Ev.step (g := fun k => impl_IsCircleSet.j0 k _ _ _) (fun k => by rw [impl_IsCircleSet.j0]) ?_
      refine Ev.no (by simpa using h4) ?_
      rw [tf_congr (Q := ∀ j, 0 ≤ j → j < s.length → (0 ≤ rd s (j : Int) ∧ rd s (j : Int) < v) ∧ (0 < j → rd s ((j - 1 : Nat) : Int) < rd s (j : Int)))
        ⟨fun h j a b => ⟨h.2.1 j a b, fun h0 => h.2.2 j h0 b⟩, fun h => ⟨⟨h1.1, h1.2, by omega, by omega, by omega⟩, fun j a b => (h j a b).1, fun j a b => (h j (by omega) b).2 a⟩⟩]
      refine all_loop (L := fun k i => impl_IsCircleSet.l0 k v s s (s.length : Int) (i : Int)) ?_ (fun i hi hp r hr => ?_) (fun i hi hp => ?_) s.length 0 (by omega)
      · refine Ev.step (fun k => by rw [impl_IsCircleSet.l0]) ?_
        exact Ev.no (by omega) (Ev.now _)
      · refine Ev.step (fun k => by rw [impl_IsCircleSet.l0]) ?_
        refine Ev.yes (by omega) (Ev.yes (by omega) (Ev.yes (by omega) (Ev.no (by omega) (Ev.no (by omega) ?_))))
        rw [wrS hi (by omega)]
        refine Ev.ite (fun h0 => ?_) (fun h0 => hr)
        rw [wrP (Nat.le_refl _) (by omega) (by omega)]
        have := hp.2 (by omega)
        exact Ev.yes (by omega) (Ev.yes (by omega) (Ev.no (by omega) hr))
      · refine Ev.step (fun k => by rw [impl_IsCircleSet.l0]) ?_
        refine Ev.yes (by omega) (Ev.yes (by omega) (Ev.yes (by omega) (Ev.ite (fun _ => Ev.now _) (fun g1 => Ev.ite (fun _ => Ev.now _) (fun g2 => Ev.ite (fun g3 => ?_) (fun g3 => ?_))))))
        · rw [wrP (Nat.le_refl _) (by omega) (by omega)]
          exact Ev.yes (by omega) (Ev.yes (by omega) (Ev.yes (Classical.byContradiction fun hh => hp ⟨⟨by omega, by omega⟩, fun _ => by omega⟩) (Ev.now _)))
        · exact absurd ⟨⟨by omega, by omega⟩, fun h => by omega⟩ hp
  · exact out true rfl (fun h => h1 (decide_eq_true (by have := h.1; omega)))

theorem l1Has_l0 (v : Int) (xs : List Int) (hn : xs.length ≤ 35184372088832) : ∀ (d i : Nat), i + d = xs.length → Ev (fun k => spec_l1Has.l0 k v xs (xs.length : Int) (i : Int)) (decide (v ∈ xs.drop i)) := by
  intro d
  induction d with
  | zero =>
    intro i hi
    refine Ev.step (fun k => by rw [spec_l1Has.l0]) ?_
    refine Ev.no (by omega) (Ev.now' ?_)
    rw [List.drop_eq_nil_of_le (by omega)]
    rfl
  | succ d ih =>
    intro i hi
    have hlt : i < xs.length := by omega
    refine Ev.step (fun k => by rw [spec_l1Has.l0]) ?_
    refine Ev.yes (by omega) (Ev.yes (by omega) (Ev.yes (by omega) ?_))
    rw [drop_rd hlt]
    refine Ev.ite (fun h => Ev.now' ?_) (fun h => ?_)
    · simp [h]
    · rw [wrS hlt (by omega)]
      have e : decide (v ∈ rd xs (i : Int) :: xs.drop (i + 1)) = decide (v ∈ xs.drop (i + 1)) := by
        simp only [List.mem_cons, decide_eq_decide]
        exact ⟨fun h' => h'.resolve_left (fun e => h e.symm), .inr⟩
      rw [e]
      exact ih (i + 1) (by omega)
theorem l1Has_ev (xs : List Int) (v : Int) (hn : xs.length ≤ 35184372088832) : Ev (fun k => spec_l1Has.f k xs v) (decide (v ∈ xs)) := by
  unfold spec_l1Has.f
  have h := l1Has_l0 v xs hn xs.length 0 (by omega)
  rwa [List.drop_zero] at h

def idx (v : Int) (xs : List Int) : Int := if v ∈ xs then (xs.idxOf v : Int) else -1
theorem Index_l0 (v : Int) (xs : List Int) (hn : xs.length ≤ 35184372088832) : ∀ (d i : Nat), i + d = xs.length → Ev (fun k => slices_Index_int_int.l0 k xs v (xs.length : Int) (i : Int)) (if v ∈ xs.drop i then (i : Int) + ((xs.drop i).idxOf v : Int) else -1) := by
  intro d
  induction d with
  | zero =>
    intro i hi
    refine Ev.step (fun k => by rw [slices_Index_int_int.l0]) ?_
    refine Ev.no (by omega) (Ev.now' ?_)
    rw [List.drop_eq_nil_of_le (by omega), if_neg (by simp)]
  | succ d ih =>
    intro i hi
    have hlt : i < xs.length := by omega
    refine Ev.step (fun k => by rw [slices_Index_int_int.l0]) ?_
    refine Ev.yes (by omega) (Ev.yes (by omega) (Ev.yes (by omega) ?_))
    rw [drop_rd hlt]
    refine Ev.ite (fun h => Ev.now' ?_) (fun h => ?_)
    · rw [if_pos (by simp [h]), ← h]
      simp
    · rw [wrS hlt (by omega)]
      have := ih (i + 1) (by omega)
      rw [List.idxOf_cons, show (rd xs (i : Int) == v) = false from beq_eq_false_iff_ne.mpr (fun e => h e.symm), cond_false]
      have e : (if v ∈ rd xs (i : Int) :: xs.drop (i + 1) then (i : Int) + ((((xs.drop (i + 1)).idxOf v) + 1 : Nat) : Int) else -1) = (if v ∈ xs.drop (i + 1) then ((i + 1 : Nat) : Int) + ((xs.drop (i + 1)).idxOf v : Int) else -1) := by
        simp only [List.mem_cons, h, false_or]
        split <;> omega
      rw [e]
      exact this
theorem Index_ev (xs : List Int) (v : Int) (hn : xs.length ≤ 35184372088832) : Ev (fun k => slices_Index_int_int.f k xs v) (idx v xs) := by
  unfold slices_Index_int_int.f idx
  have h := Index_l0 v xs hn xs.length 0 (by omega)
  rw [List.drop_zero] at h
  simpa using h
theorem idx_pos {v : Int} {xs : List Int} : 0 ≤ idx v xs ↔ v ∈ xs := by
  unfold idx
  split
  · simp_all
  · simp_all

theorem Contains_ev (xs : List Int) (v : Int) (hn : xs.length ≤ 35184372088832) : Ev (fun k => slices_Contains_int_int.f k xs v) (decide (v ∈ xs)) := by
  unfold slices_Contains_int_int.f
  refine Ev.bind (Index_ev xs v hn) (Ev.now' ?_)
  simp only [ge_iff_le, decide_eq_decide]
  exact idx_pos

/-- The points below i that are not in the set. -/
def others (s : List Int) : Nat → List Int
  | 0 => []
  | i + 1 => if (i : Int) ∈ s then others s i else others s i ++ [(i : Int)]
theorem others_length (s : List Int) (i : Nat) : (others s i).length ≤ i := by
  induction i with
  | zero => simp [others]
  | succ i ih =>
    unfold others
    split
    · omega
    · simp; omega
theorem agree (v : Int) (s : List Int) (hn : s.length ≤ 1048576) (hw : ∀ x ∈ s, W64 x) (hv : W64 v) : ∃ w : List Int × Bool, Ev (fun k => spec_ComplementSet.f k v s) w ∧ Ev (fun k => impl_ComplementSet.f k v s) w ∧ w.1.length ≤ 1048576 := by
  by_cases hc : Circ v s
  · have h1 := hc.1
    obtain ⟨n, rfl⟩ : ∃ n : Nat, v = (n : Int) := ⟨v.toNat, by omega⟩
    have hol := others_length s n
    have he : ∃ w : List Int × Bool, (Ev (fun k => (spec_ciGood.f k (n : Int) (others s n)).bind fun t => if t = true then some (others s n, true) else some (([] : List Int), false)) w) ∧ (Ev (fun k => (impl_IsCircleSet.f k (n : Int) (others s n)).bind fun t => if t = true then some (others s n, true) else some (([] : List Int), false)) w) ∧ w.1.length ≤ 1048576 := by
      by_cases hc : Circ (n : Int) (others s n)
      · refine ⟨(others s n, true), Ev.bind (ciGood_ev _ _ (by omega)) ?_, Ev.bind (IsCircleSet_ev _ _ (by omega)) ?_, by simp only; omega⟩
        · rw [tf_pos hc]; exact Ev.yes rfl (Ev.now _)
        · rw [tf_pos hc]; exact Ev.yes rfl (Ev.now _)
      · refine ⟨([], false), Ev.bind (ciGood_ev _ _ (by omega)) ?_, Ev.bind (IsCircleSet_ev _ _ (by omega)) ?_, by simp⟩
        · rw [tf_neg hc]; exact Ev.no (by simp) (Ev.now _)
        · rw [tf_neg hc]; exact Ev.no (by simp) (Ev.now _)
    obtain ⟨w, hS, hI, hW⟩ := he
    refine ⟨w, ?_, ?_, hW⟩
    · unfold spec_ComplementSet.f
      refine Ev.bind (ciGood_ev _ s hn) ?_
      rw [tf_pos hc]
      refine Ev.yes rfl ?_
      refine det_loop (L := fun k i (x : List Int) => spec_ComplementSet.l0 k (n : Int) s x (i : Int)) (n := n) (fun i => others s i) (fun i hi r hr => ?_) ?_ n 0 (by omega)
      · have := others_length s i
        refine Ev.step (fun k => by rw [spec_ComplementSet.l0]) ?_
        rw [wrS hi (by omega)]
        refine Ev.yes (by omega) (Ev.bind (l1Has_ev _ _ (by omega)) ?_)
        by_cases hm : (i : Int) ∈ s
        · simp only [others, if_pos hm] at hr
          exact Ev.yes (decide_eq_true hm) hr
        · simp only [others, if_neg hm] at hr
          exact Ev.no (by simpa using hm) (Ev.yes (by omega) hr)
      · refine Ev.step (fun k => by rw [spec_ComplementSet.l0]) ?_
        exact Ev.no (by omega) hS
    · unfold impl_ComplementSet.f
      refine Ev.bind (IsCircleSet_ev _ s hn) ?_
      rw [tf_pos hc]
      refine Ev.yes rfl ?_
      refine det_loop (L := fun k i (x : List Int) => impl_ComplementSet.l0 k (n : Int) s x (n : Int) (i : Int)) (n := n) (fun i => others s i) (fun i hi r hr => ?_) ?_ n 0 (by omega)
      · have := others_length s i
        refine Ev.step (fun k => by rw [impl_ComplementSet.l0]) ?_
        rw [wrS hi (by omega)]
        refine Ev.yes (by omega) (Ev.bind (Contains_ev _ _ (by omega)) ?_)
        by_cases hm : (i : Int) ∈ s
        · simp only [others, if_pos hm] at hr
          exact Ev.yes (decide_eq_true hm) hr
        · simp only [others, if_neg hm] at hr
          exact Ev.no (by simpa using hm) (Ev.yes (by omega) hr)
      · refine Ev.step (fun k => by rw [impl_ComplementSet.l0]) ?_
        exact Ev.no (by omega) hI
  · refine ⟨([], false), ?_, ?_, by simp⟩
    · unfold spec_ComplementSet.f
      refine Ev.bind (ciGood_ev v s hn) ?_
      rw [tf_neg hc]
      exact Ev.no (by simp) (Ev.now _)
    · unfold impl_ComplementSet.f
      refine Ev.bind (IsCircleSet_ev v s hn) ?_
      rw [tf_neg hc]
      exact Ev.no (by simp) (Ev.now _)

theorem FnExactComplementSet : laws_FnExactComplementSet.Pure := by
  intro a0 l1 wa0 ml1 bl1 wl1
  apply Ev.rounds
  unfold laws_FnExactComplementSet.f
  refine Ev.ite (fun _ => Ev.now _) (fun gl1 => ?_)
  have nl1 : l1.length ≤ 1048576 := by omega
  obtain ⟨w, hS, hI, hW⟩ := agree a0 l1 nl1 (fun x hx => bounds_i64 (wl1 x hx)) (bounds_i64 wa0)
  repeat (first
    | (exact Ev.now _)
    | (with_reducible refine Ev.bind (toIntS_ev _ nl1) ?_)
    | (with_reducible refine Ev.bind hS ?_)
    | (with_reducible refine Ev.bind hI ?_)
    | (with_reducible refine Ev.bind (eqIntS_ev _ nl1) ?_)
    | (with_reducible refine Ev.bind (markIntS_ev _ 1 nl1 (by omega) (by omega)) ?_)
    | (with_reducible refine Ev.bind (heldIntS_ev _ 1 nl1 (by omega) (by omega)) ?_)
    | (with_reducible refine Ev.bind (eqIntS_ev _ hW) ?_)
    | (with_reducible refine Ev.bind (markIntS_ev _ 1 hW (by omega) (by omega)) ?_)
    | (with_reducible refine Ev.bind (heldIntS_ev _ 1 hW (by omega) (by omega)) ?_)
    | (with_reducible refine Ev.step (g := fun k => laws_FnExactComplementSet.j0 k _ _ _ _ _ _ _ _) (fun k => by rw [laws_FnExactComplementSet.j0]) ?_)
    | (with_reducible refine Ev.step (g := fun k => laws_FnExactComplementSet.j1 k _ _ _ _ _ _) (fun k => by rw [laws_FnExactComplementSet.j1]) ?_)
    | (with_reducible refine Ev.step (g := fun k => laws_FnExactComplementSet.j2 k _ _ _) (fun k => by rw [laws_FnExactComplementSet.j2]) ?_)
    | ((with_reducible apply Ev.yes); rfl)
    | ((with_reducible apply Ev.no); omega)
    | ((with_reducible apply Ev.no); focus (simp; done))
    | ((with_reducible apply Ev.yes); omega)
    | ((with_reducible apply Ev.yes); focus (simp; done)))

end Go.Proofs.Ythjbgfpoalehlaa.Pure
namespace Go.Proofs.Ythjbgfpoalehlaa.PrintWords
open Go.RowKit Go.ChangeShapes Go.WideShapes
/-- A row's slice of whole numbers is no longer than its weight allows (the seat's word, under the name that its rows use). -/
theorem sized_ints {H : Type} {enc : TypeId × Value → H} {P : Program} {W : World} {base : Nat} {spare : Nat → Bool} {held : Bool} {t e : TypeId} {k : IntKind} {a : Option Addr} {len cap : Nat} {d : DataW H} {ps : List MemPlace} {ts : List TypeId} {ds : List (DataW H)} {j : Nat}
    (hsz : (DataW.weightsEach P ts ds).all (· ≤ reachBytes) = true) (ht : ts[j]? = some t) (hd : ds[j]? = some d) (hu : P.underlying t = some (.slice e)) (he : P.underlying e = some (.int k)) (hc : P.cellsOf e = 1) {B : Nat} (hB : P.bytesOf e = B)
    (h : DataW.Trod enc P W base spare held t (.slice a len cap) d ps) : len * B ≤ 140737488351232 :=
  Go.Proofs.YthjbgfpoalehlaaW.PrintWords.sized_ints hsz ht hd hu he hc hB h
end Go.Proofs.Ythjbgfpoalehlaa.PrintWords
