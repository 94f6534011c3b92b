/- For every argument that can be read, the law FnExactCombTree answers true: the program's CombTree returns what the reference's returns; no condition. -/
import Derived.Test.YtflfecocojafbaaWSized
import Derived.ChangeSlices
import Derived.SizedLaws
import Derived.Test.YtflfecocojafbaaPFnExactCombTreex3
import Derived.OpenShut
namespace Go.Proofs.Ytflfecocojafbaa.Pure
open Go.RowKit Go.Proofs.Ytflfecocojafbaa.PFnExactCombTree Go.Proofs.YtflfecocojafbaaW.PrintWords Go.Proofs.YtflfecocojafbaaW.PrintLast Go.Proofs.YtflfecocojafbaaW.PrintMore
set_option linter.unusedVariables false

/-! ### small words: rounds, wraps, reads -/
theorem Ev.yes {α : Type} {c : Prop} [Decidable c] {A B : Nat → Option α} {r : α} (h : c) (k : Ev A r) : Ev (fun n => if c then A n else B n) r := by
  simp only [if_pos h]; exact k
theorem Ev.no {α : Type} {c : Prop} [Decidable c] {A B : Nat → Option α} {r : α} (h : ¬ c) (k : Ev B r) : Ev (fun n => if c then A n else B n) r := by
  simp only [if_neg h]; exact k
theorem Ev.ite {α : Type} {c : Prop} [Decidable c] {A B : Nat → Option α} {r : α} (k : c → Ev A r) (k' : ¬ c → Ev B r) : Ev (fun n => if c then A n else B n) r := by
  by_cases h : c
  · exact Ev.yes h (k h)
  · exact Ev.no h (k' h)
theorem Ev.now' {α : Type} {x r : α} (h : x = r) : Ev (fun _ => some x) r := h ▸ Ev.now x
theorem Ev.one {α : Type} {g : Nat → Option α} {r q : α} (h : Ev g r) (k : Ev g q) : r = q := by
  obtain ⟨K, h⟩ := h
  obtain ⟨K', k⟩ := k
  have h1 := h (max K K') (by omega)
  have h2 := k (max K K') (by omega)
  rw [h1] at h2
  exact Option.some.inj h2
def W64 (x : Int) : Prop := -9223372036854775808 ≤ x ∧ x ≤ 9223372036854775807
theorem wr {x : Int} (h0 : -9223372036854775808 ≤ x) (h1 : x ≤ 9223372036854775807) : wrap64 x = x := by
  unfold wrap64
  omega
theorem wrS {i n : Nat} (h : i < n) (hn : n ≤ 9223372036854775807) : wrap64 ((i : Int) + 1) = ((i + 1 : Nat) : Int) := by
  unfold wrap64
  omega
theorem wrP {i n : Nat} (h : i ≤ n) (h0 : 0 < i) (hn : n ≤ 9223372036854775807) : wrap64 ((i : Int) - 1) = ((i - 1 : Nat) : Int) := by
  unfold wrap64
  omega
theorem rd_get {xs : List Int} {i : Nat} (h : i < xs.length) : rd xs (i : Int) = xs[i] := by
  unfold rd
  simp [h]
theorem rd_none {xs : List Int} {i : Nat} (h : xs.length ≤ i) : rd xs (i : Int) = 0 := by
  unfold rd
  simp [h]
theorem drop_rd {xs : List Int} {i : Nat} (h : i < xs.length) : xs.drop i = rd xs (i : Int) :: xs.drop (i + 1) := by
  rw [rd_get h, List.drop_eq_getElem_cons h]
theorem take_rd {xs : List Int} {i : Nat} (h : i < xs.length) : xs.take (i + 1) = xs.take i ++ [rd xs (i : Int)] := by
  rw [rd_get h, List.take_succ_eq_append_getElem h]
theorem rd_mem {xs : List Int} {i : Nat} (h : i < xs.length) : rd xs (i : Int) ∈ xs := by
  rw [rd_get h]
  exact List.getElem_mem h
theorem mem_rd {xs : List Int} {x : Int} (h : x ∈ xs) : ∃ i : Nat, i < xs.length ∧ rd xs (i : Int) = x := by
  obtain ⟨i, hi, rfl⟩ := List.getElem_of_mem h
  exact ⟨i, hi, rd_get hi⟩
theorem rd_set_self {xs : List Int} {i : Nat} {v : Int} (h : i < xs.length) : rd (xs.set i v) (i : Int) = v := by
  rw [rd_get (by simpa using h)]
  simp
theorem rd_set_ne {xs : List Int} {i j : Nat} {v : Int} (h : i ≠ j) : rd (xs.set i v) (j : Int) = rd xs (j : Int) := by
  unfold rd
  simp [List.getD_eq_getElem?_getD, List.getElem?_set_ne h]
theorem rd_replicate {n i : Nat} : rd (List.replicate n (0 : Int)) (i : Int) = 0 := by
  unfold rd
  simp only [Int.toNat_natCast, List.getD_eq_getElem?_getD, List.getElem?_replicate]
  split <;> rfl
theorem rd_take {xs : List Int} {i n : Nat} (h : i < n) : rd (xs.take n) (i : Int) = rd xs (i : Int) := by
  unfold rd
  simp [List.getD_eq_getElem?_getD, h]
theorem rd_append_left {xs ys : List Int} {i : Nat} (h : i < xs.length) : rd (xs ++ ys) (i : Int) = rd xs (i : Int) := by
  unfold rd
  simp [List.getD_eq_getElem?_getD, List.getElem?_append_left h]
theorem rd_last {xs : List Int} {x : Int} : rd (xs ++ [x]) (xs.length : Int) = x := by
  unfold rd
  simp
theorem rd_ext {xs ys : List Int} (hl : xs.length = ys.length) (h : ∀ i : Nat, i < xs.length → rd xs (i : Int) = rd ys (i : Int)) : xs = ys := by
  apply List.ext_getElem hl
  intro i h1 h2
  rw [← rd_get h1, ← rd_get h2]
  exact h i h1
noncomputable def tf (P : Prop) : Bool := @decide P (Classical.propDecidable P)
theorem tf_pos {P : Prop} (h : P) : tf P = true := by
  unfold tf
  exact @decide_eq_true P (Classical.propDecidable P) h
theorem tf_neg {P : Prop} (h : ¬ P) : tf P = false := by
  unfold tf
  exact @decide_eq_false P (Classical.propDecidable P) h
theorem tf_iff {P : Prop} : tf P = true ↔ P := by
  by_cases h : P
  · rw [tf_pos h]; exact ⟨fun _ => h, fun _ => rfl⟩
  · rw [tf_neg h]; exact ⟨fun h' => (Bool.noConfusion h'), fun h' => absurd h' h⟩
theorem tf_congr {P Q : Prop} (h : P ↔ Q) : tf P = tf Q := by
  rw [show P = Q from propext h]
theorem tf_dec {P : Prop} [Decidable P] : tf P = decide P := by
  by_cases h : P
  · rw [tf_pos h, decide_eq_true h]
  · rw [tf_neg h, decide_eq_false h]
theorem tf_not {P : Prop} : (!tf P) = tf (¬ P) := by
  by_cases h : P
  · rw [tf_pos h, tf_neg (not_not_intro h)]; rfl
  · rw [tf_neg h, tf_pos h]; rfl
/-- A loop that asks each place: at the end b, where all answer yes. -/
theorem all_loop_b {L : Nat → Nat → Option Bool} {n : Nat} {P : Nat → Prop} {b : Bool} (h0 : Ev (fun k => L k n) b)
    (h1 : ∀ i, i < n → P i → ∀ r, Ev (fun k => L k (i + 1)) r → Ev (fun k => L k i) r) (h2 : ∀ i, i < n → ¬ P i → Ev (fun k => L k i) false) :
    ∀ (d i : Nat), i + d = n → Ev (fun k => L k i) (tf (∀ j, i ≤ j → j < n → P j) && b) := by
  intro d
  induction d with
  | zero =>
    intro i hi
    obtain rfl : i = n := by omega
    rw [tf_pos (fun j h h' => by omega)]
    exact h0
  | succ d ih =>
    intro i hi
    by_cases hp : P i
    · have := h1 i (by omega) hp _ (ih (i + 1) (by omega))
      rw [tf_congr (Q := ∀ j, i + 1 ≤ j → j < n → P j) ⟨fun h j hj hn => h j (by omega) hn, fun h j hj hn => by
        rcases Nat.lt_or_ge i j with hl | hl
        · exact h j hl hn
        · rw [show j = i by omega]; exact hp⟩]
      exact this
    · rw [tf_neg (fun h => hp (h i (Nat.le_refl _) (by omega)))]
      exact h2 i (by omega) hp
/-- A loop that asks each place: true where all answer yes. -/
theorem all_loop {L : Nat → Nat → Option Bool} {n : Nat} {P : Nat → Prop} (h0 : Ev (fun k => L k n) true)
    (h1 : ∀ i, i < n → P i → ∀ r, Ev (fun k => L k (i + 1)) r → Ev (fun k => L k i) r) (h2 : ∀ i, i < n → ¬ P i → Ev (fun k => L k i) false)
    (d i : Nat) (h : i + d = n) : Ev (fun k => L k i) (tf (∀ j, i ≤ j → j < n → P j)) := by
  have := all_loop_b h0 h1 h2 d i h
  rwa [Bool.and_true] at this
/-- A loop that goes on with a state. -/
theorem acc_loop {σ ρ : Type} {L : Nat → Nat → σ → Option ρ} {n : Nat} (Inv : Nat → σ → Prop)
    (step : ∀ i s, i < n → Inv i s → ∃ s', Inv (i + 1) s' ∧ ∀ r, Ev (fun k => L k (i + 1) s') r → Ev (fun k => L k i s) r) :
    ∀ (d i : Nat) (s : σ), i + d = n → Inv i s → ∃ s', Inv n s' ∧ ∀ r, Ev (fun k => L k n s') r → Ev (fun k => L k i s) r := by
  intro d
  induction d with
  | zero =>
    intro i s hi h
    obtain rfl : i = n := by omega
    exact ⟨s, h, fun _ h => h⟩
  | succ d ih =>
    intro i s hi h
    obtain ⟨s', h', k'⟩ := step i s (by omega) h
    obtain ⟨t, h'', k''⟩ := ih (i + 1) s' (by omega) h'
    exact ⟨t, h'', fun r hr => k' r (k'' r hr)⟩
/-- A loop that goes on with a state, or answers at once. -/
theorem ret_loop {σ ρ : Type} {L : Nat → Nat → σ → Option ρ} {n : Nat} (Inv : Nat → σ → Prop) (Post : ρ → Prop)
    (step : ∀ i s, i < n → Inv i s → (∃ r, Ev (fun k => L k i s) r ∧ Post r) ∨ ∃ s', Inv (i + 1) s' ∧ ∀ r, Ev (fun k => L k (i + 1) s') r → Ev (fun k => L k i s) r) :
    ∀ (d i : Nat) (s : σ), i + d = n → Inv i s → (∃ r, Ev (fun k => L k i s) r ∧ Post r) ∨ ∃ s', Inv n s' ∧ ∀ r, Ev (fun k => L k n s') r → Ev (fun k => L k i s) r := by
  intro d
  induction d with
  | zero =>
    intro i s hi h
    obtain rfl : i = n := by omega
    exact .inr ⟨s, h, fun _ h => h⟩
  | succ d ih =>
    intro i s hi h
    rcases step i s (by omega) h with h1 | ⟨s', h', k'⟩
    · exact .inl h1
    · rcases ih (i + 1) s' (by omega) h' with ⟨r, hr, hp⟩ | ⟨t, h'', k''⟩
      · exact .inl ⟨r, k' r hr, hp⟩
      · exact .inr ⟨t, h'', fun r hr => k' r (k'' r hr)⟩
/-- The state is known at each place. -/
theorem det_loop {σ ρ : Type} {L : Nat → Nat → σ → Option ρ} {n : Nat} (S : Nat → σ)
    (step : ∀ i, i < n → ∀ r, Ev (fun k => L k (i + 1) (S (i + 1))) r → Ev (fun k => L k i (S i)) r) {r : ρ} (h : Ev (fun k => L k n (S n)) r) :
    ∀ (d i : Nat), i + d = n → Ev (fun k => L k i (S i)) r := by
  intro d
  induction d with
  | zero =>
    intro i hi
    obtain rfl : i = n := by omega
    exact h
  | succ d ih =>
    intro i hi
    exact step i (by omega) r (ih (i + 1) (by omega))
theorem acc_step {σ : Type} {P Q : σ → Prop} (s : σ) (q : Q s) (p : P s) : ∃ s, P s ∧ Q s := ⟨s, p, q⟩
theorem agree_run {α : Type} {g f : Nat → Option α} (hg : ∀ k, LeO (g k) (g (k + 1))) (hf : ∀ k, LeO (f k) (f (k + 1))) (k : Nat) (h : g k = f k ∧ (f k).isSome = true) : ∃ w, Ev g w ∧ Ev f w := by
  obtain ⟨e, h⟩ := h
  obtain ⟨w, hw⟩ := Option.isSome_iff_exists.1 h
  exact ⟨w, Ev.of hg (k := k) (e.trans hw), Ev.of hf (k := k) hw⟩
/-- all_loop, from a place on. -/
theorem all_from {L : Nat → Nat → Option Bool} {n : Nat} {P : Nat → Prop} {b : Bool} (lo : Nat) (h0 : Ev (fun k => L k n) b)
    (h1 : ∀ i, lo ≤ i → i < n → P i → ∀ r, Ev (fun k => L k (i + 1)) r → Ev (fun k => L k i) r) (h2 : ∀ i, lo ≤ i → i < n → ¬ P i → Ev (fun k => L k i) false) (hlo : lo ≤ n) :
    Ev (fun k => L k lo) (tf (∀ j, lo ≤ j → j < n → P j) && b) := by
  have := all_loop_b (L := fun k i => L k (lo + i)) (n := n - lo) (P := fun i => P (lo + i)) (b := b) (by rw [show lo + (n - lo) = n by omega]; exact h0) (fun i hi hp r hr => h1 (lo + i) (by omega) (by omega) hp r hr) (fun i hi hp => h2 (lo + i) (by omega) (by omega) hp) (n - lo) 0 (by omega)
  rw [tf_congr (Q := ∀ j, 0 ≤ j → j < n - lo → P (lo + j)) ⟨fun h j a b => h (lo + j) (by omega) (by omega), fun h j a b => by
    have := h (j - lo) (by omega) (by omega)
    rwa [show lo + (j - lo) = j by omega] at this⟩]
  exact this

theorem toIntS_l0 (xs : List Int) (hn : xs.length ≤ 1048576) : ∀ (d i : Nat), i + d = xs.length → Ev (fun k => laws_toIntS.l0 k xs (xs.take i ++ List.replicate d 0) (i : Int)) xs := by
  intro d
  induction d with
  | zero =>
    intro i hi
    refine Ev.step (fun k => by rw [laws_toIntS.l0]) ?_
    refine Ev.no (by omega) (Ev.now' ?_)
    rw [List.take_of_length_le (by omega)]
    simp
  | succ d ih =>
    intro i hi
    have hlt : i < xs.length := by omega
    refine Ev.step (fun k => by rw [laws_toIntS.l0]) ?_
    refine Ev.yes (by omega) (Ev.yes (by omega) (Ev.yes (by simp only [List.length_append, List.length_take, List.length_replicate]; omega) ?_))
    rw [wrS hlt (by omega)]
    have e : (xs.take i ++ List.replicate (d + 1) (0 : Int)).set (i : Int).toNat (rd xs (i : Int)) = xs.take (i + 1) ++ List.replicate d 0 := by
      rw [Int.toNat_natCast, List.set_append_right _ _ (by rw [List.length_take]; omega), take_rd hlt, List.length_take, Nat.min_eq_left (by omega), Nat.sub_self, List.replicate_succ, List.set_cons_zero, List.append_assoc]
      rfl
    rw [e]
    exact ih (i + 1) (by omega)
theorem toIntS_ev (xs : List Int) (hn : xs.length ≤ 1048576) : Ev (fun k => laws_toIntS.f k xs) xs := by
  unfold laws_toIntS.f
  refine Ev.yes (by omega) (Ev.yes (by omega) ?_)
  have h := toIntS_l0 xs hn xs.length 0 (by omega)
  rw [List.take_zero, List.nil_append] at h
  rw [Int.toNat_natCast]
  exact h

theorem eqIntS_l0 (xs : List Int) (hn : xs.length ≤ 1048576) : ∀ (d i : Nat), i + d = xs.length → Ev (fun k => laws_eqIntS.l0 k xs xs (i : Int)) true := by
  intro d
  induction d with
  | zero =>
    intro i hi
    refine Ev.step (fun k => by rw [laws_eqIntS.l0]) ?_
    exact Ev.no (by omega) (Ev.now _)
  | succ d ih =>
    intro i hi
    refine Ev.step (fun k => by rw [laws_eqIntS.l0]) ?_
    refine Ev.yes (by omega) (Ev.yes (by omega) (Ev.yes (by omega) (Ev.yes rfl ?_)))
    rw [wrS (show i < xs.length by omega) (by omega)]
    exact ih (i + 1) (by omega)
theorem eqIntS_ev (xs : List Int) (hn : xs.length ≤ 1048576) : Ev (fun k => laws_eqIntS.f k xs xs) true := by
  unfold laws_eqIntS.f
  exact Ev.yes rfl (eqIntS_l0 xs hn xs.length 0 (by omega))

def marks (n : Nat) (m : Int) : List Int := (List.range n).map fun j : Nat => m + (j : Int)
theorem marks_length (n : Nat) (m : Int) : (marks n m).length = n := by simp [marks]
theorem marks_rd {n i : Nat} (m : Int) (h : i < n) : rd (marks n m) (i : Int) = m + (i : Int) := by
  rw [rd_get (by rw [marks_length]; exact h)]
  simp [marks]
theorem marks_succ (n : Nat) (m : Int) : marks (n + 1) m = marks n m ++ [m + (n : Int)] := by
  unfold marks
  rw [List.range_succ, List.map_append]
  rfl
theorem markIntS_l0 (xs : List Int) (m : Int) (hn : xs.length ≤ 1048576) (h0 : 0 ≤ m) (h1 : m ≤ 4611686018427387904) : ∀ (d i : Nat), i + d = xs.length →
    Ev (fun k => laws_markIntS.l0 k (marks i m ++ xs.drop i) (m + (i : Int)) (i : Int)) (m + (xs.length : Int), marks xs.length m) := by
  intro d
  induction d with
  | zero =>
    intro i hi
    obtain rfl : i = xs.length := by omega
    refine Ev.step (fun k => by rw [laws_markIntS.l0]) ?_
    refine Ev.no (by simp [marks_length]) (Ev.now' ?_)
    rw [List.drop_length, List.append_nil]
  | succ d ih =>
    intro i hi
    have hlt : i < xs.length := by omega
    refine Ev.step (fun k => by rw [laws_markIntS.l0]) ?_
    refine Ev.yes (by rw [List.length_append, marks_length, List.length_drop]; omega) (Ev.yes (by omega) ?_)
    have e : (marks i m ++ xs.drop i).set (i : Int).toNat (m + (i : Int)) = marks (i + 1) m ++ xs.drop (i + 1) := by
      rw [Int.toNat_natCast, List.set_append_right _ _ (by rw [marks_length]; omega), marks_length, Nat.sub_self, drop_rd hlt, List.set_cons_zero, marks_succ, List.append_assoc]
      rfl
    rw [e, wrS hlt (by omega), wr (by omega) (by omega), show m + (i : Int) + 1 = m + ((i + 1 : Nat) : Int) by omega]
    exact ih (i + 1) (by omega)
theorem markIntS_ev (xs : List Int) (m : Int) (hn : xs.length ≤ 1048576) (h0 : 0 ≤ m) (h1 : m ≤ 4611686018427387904) : Ev (fun k => laws_markIntS.f k xs m) (m + (xs.length : Int), marks xs.length m) := by
  unfold laws_markIntS.f
  have h := markIntS_l0 xs m hn h0 h1 xs.length 0 (by omega)
  simpa [marks] using h
theorem heldIntS_l0 (n : Nat) (m : Int) (hn : n ≤ 1048576) (h0 : 0 ≤ m) (h1 : m ≤ 4611686018427387904) : ∀ (d i : Nat), i + d = n →
    Ev (fun k => laws_heldIntS.l0 k (marks n m) (m + (i : Int)) (i : Int)) (m + (n : Int)) := by
  intro d
  induction d with
  | zero =>
    intro i hi
    obtain rfl : i = n := by omega
    refine Ev.step (fun k => by rw [laws_heldIntS.l0]) ?_
    exact Ev.no (by simp [marks_length]) (Ev.now _)
  | succ d ih =>
    intro i hi
    have hlt : i < n := by omega
    refine Ev.step (fun k => by rw [laws_heldIntS.l0]) ?_
    refine Ev.yes (by rw [marks_length]; omega) (Ev.yes (by omega) (Ev.yes (marks_rd m hlt) ?_))
    rw [wrS hlt (by omega), wr (by omega) (by omega), show m + (i : Int) + 1 = m + ((i + 1 : Nat) : Int) by omega]
    exact ih (i + 1) (by omega)
theorem heldIntS_ev (n : Nat) (m : Int) (hn : n ≤ 1048576) (h0 : 0 ≤ m) (h1 : m ≤ 4611686018427387904) : Ev (fun k => laws_heldIntS.f k (marks n m) m) (m + (n : Int)) := by
  unfold laws_heldIntS.f
  have h := heldIntS_l0 n m hn h0 h1 n 0 (by omega)
  simpa using h

theorem l1In_eq (a b c : Int) : spec_l1In.f a b c = some (decide (b ≤ a ∧ a ≤ c)) := by
  unfold spec_l1In.f
  by_cases h : b ≤ a
  · rw [if_pos h]; simp [h]
  · rw [if_neg h]; simp [h]

theorem l1All_ev (xs : List Int) (a b : Int) (hn : xs.length ≤ 35184372088832) : Ev (fun k => spec_l1All.f k xs a b) (tf (∀ j, 0 ≤ j → j < xs.length → a ≤ rd xs (j : Int) ∧ rd xs (j : Int) ≤ b)) := by
  unfold spec_l1All.f
  refine all_loop (L := fun k i => spec_l1All.l0 k a b xs (xs.length : Int) (i : Int)) ?_ ?_ ?_ xs.length 0 (by omega)
  · refine Ev.step (fun k => by rw [spec_l1All.l0]) ?_
    exact Ev.no (by omega) (Ev.now _)
  · intro i hi hp r hr
    refine Ev.step (fun k => by rw [spec_l1All.l0]) ?_
    refine Ev.yes (by omega) (Ev.yes (by omega) (Ev.yes (by omega) ?_))
    simp only [l1In_eq, Option.bind_some]
    rw [wrS hi (by omega)]
    exact Ev.yes (decide_eq_true hp) hr
  · intro i hi hp
    refine Ev.step (fun k => by rw [spec_l1All.l0]) ?_
    refine Ev.yes (by omega) (Ev.yes (by omega) (Ev.yes (by omega) ?_))
    simp only [l1In_eq, Option.bind_some]
    exact Ev.no (by simpa using hp) (Ev.now _)

/-- The nodes of a comb, teeth by teeth. -/
def legSum (p : List Int) : Nat → Int
  | 0 => (p.length : Int)
  | i + 1 => wrap64 (legSum p i + rd p (i : Int))
def Legs (p : List Int) : Prop := ((1 ≤ p.length ∧ p.length ≤ 5) ∧ legSum p p.length ≤ 9) ∧ ∀ j, 0 ≤ j → j < p.length → 0 ≤ rd p (j : Int) ∧ rd p (j : Int) ≤ 5
theorem grLegs_ev (p : List Int) (hn : p.length ≤ 1048576) : Ev (fun k => spec_grLegs.f k p) (tf (Legs p)) := by
  unfold spec_grLegs.f
  simp only [l1In_eq, Option.bind_some]
  have out : ∀ b, b = true → ¬ Legs p → Ev (fun k => spec_grLegs.j0 k p b) (tf (Legs p)) := fun b hb hc => by
    rw [tf_neg hc]
    refine Ev.step (g := fun k => spec_grLegs.j0 k _ _) (fun k => by rw [spec_grLegs.j0]) ?_
    exact Ev.yes hb (Ev.now _)
  by_cases hl : 1 ≤ p.length ∧ p.length ≤ 5
  · refine Ev.yes (decide_eq_true (by omega)) (Ev.bind (l1All_ev p 0 5 (by omega)) ?_)
    by_cases ha : ∀ j, 0 ≤ j → j < p.length → 0 ≤ rd p (j : Int) ∧ rd p (j : Int) ≤ 5
    · rw [tf_pos ha]
      refine Ev.step (g := fun k => spec_grLegs.j0 k _ _) (fun k => by rw [spec_grLegs.j0]) ?_
      refine Ev.no (by simp) ?_
      refine det_loop (L := fun k i (x : Int) => spec_grLegs.l0 k x p (p.length : Int) (i : Int)) (n := p.length) (fun i => legSum p i) (fun i hi r hr => ?_) ?_ p.length 0 (by omega)
      · refine Ev.step (fun k => by rw [spec_grLegs.l0]) ?_
        rw [wrS hi (by omega)]
        exact Ev.yes (by omega) (Ev.yes (by omega) (Ev.yes (by omega) hr))
      · refine Ev.step (fun k => by rw [spec_grLegs.l0]) ?_
        refine Ev.no (by omega) (Ev.now' ?_)
        rw [← tf_dec]
        exact tf_congr ⟨fun h => ⟨⟨hl, h⟩, ha⟩, fun h => h.1.2⟩
    · rw [tf_neg ha]
      exact out _ rfl (fun h => ha h.2)
  · exact Ev.no (by simp; omega) (out _ rfl (fun h => hl h.1.1))
theorem areLegs_ev (p : List Int) (hn : p.length ≤ 1048576) : Ev (fun k => impl_areLegs.f k p) (tf (Legs p)) := by
  unfold impl_areLegs.f
  have out : ∀ b, b = true → ¬ Legs p → Ev (fun k => impl_areLegs.j0 k p b) (tf (Legs p)) := fun b hb hc => by
    rw [tf_neg hc]
    refine Ev.step (g := fun k => impl_areLegs.j0 k _ _) (fun k => by rw [impl_areLegs.j0]) ?_
    exact Ev.yes hb (Ev.now _)
  by_cases hl : 1 ≤ p.length ∧ p.length ≤ 5
  · refine Ev.no (by omega) ?_
    refine Ev.step (g := fun k => impl_areLegs.j0 k _ _) (fun k => by rw [impl_areLegs.j0]) ?_
    refine Ev.no (by simp; omega) ?_
    rcases ret_loop (L := fun k i (x : Int) => impl_areLegs.l0 k x p (p.length : Int) (i : Int)) (n := p.length) (fun i x => x = legSum p i ∧ ∀ j, j < i → 0 ≤ rd p (j : Int) ∧ rd p (j : Int) ≤ 5) (fun r => r = false ∧ ¬ Legs p) (fun i x hi hx => by
      obtain ⟨rfl, hx⟩ := hx
      by_cases hb : 0 ≤ rd p (i : Int) ∧ rd p (i : Int) ≤ 5
      · right
        refine ⟨legSum p (i + 1), ⟨rfl, fun j hj => ?_⟩, fun r hr => ?_⟩
        · rcases Nat.lt_or_ge j i with h | h
          · exact hx j h
          · rw [show j = i by omega]; exact hb
        · refine Ev.step (fun k => by rw [impl_areLegs.l0]) ?_
          rw [wrS hi (by omega)]
          exact Ev.yes (by omega) (Ev.yes (by omega) (Ev.yes (by omega) (Ev.no (by omega) (Ev.no (by omega) hr))))
      · left
        refine ⟨_, ?_, rfl, fun h => hb (h.2 i (by omega) hi)⟩
        refine Ev.step (fun k => by rw [impl_areLegs.l0]) ?_
        exact Ev.yes (by omega) (Ev.yes (by omega) (Ev.yes (by omega) (Ev.ite (fun _ => Ev.now _) (fun h => Ev.yes (by omega) (Ev.now _)))))) p.length 0 (p.length : Int) (by omega) ⟨rfl, fun j hj => absurd hj (by omega)⟩ with ⟨r, hr, rfl, hb⟩ | ⟨x, ⟨rfl, hx⟩, hk⟩
    · rw [tf_neg hb]
      exact hr
    · refine hk _ ?_
      refine Ev.step (fun k => by rw [impl_areLegs.l0]) ?_
      refine Ev.no (by omega) (Ev.now' ?_)
      rw [← tf_dec]
      exact tf_congr ⟨fun h => ⟨⟨hl, h⟩, fun j _ hj => hx j hj⟩, fun h => h.1.2⟩
  · exact Ev.ite (fun _ => out _ rfl (fun h => hl h.1.1)) (fun h => out _ (decide_eq_true (by omega)) (fun h => hl h.1.1))
/-- The parents, and the last tooth's root, behind i teeth. -/
def comb (p : List Int) : Nat → List Int × Int
  | 0 => ([], -1)
  | i + 1 => (((comb p i).1 ++ [(comb p i).2]) ++ List.replicate (rd p (i : Int)).toNat ((comb p i).1.length : Int), ((comb p i).1.length : Int))
theorem comb_length (p : List Int) (h : ∀ j, 0 ≤ j → j < p.length → 0 ≤ rd p (j : Int) ∧ rd p (j : Int) ≤ 5) (i : Nat) (hi : i ≤ p.length) : (comb p i).1.length ≤ 6 * i := by
  induction i with
  | zero => simp [comb]
  | succ i ih =>
    have := ih (by omega)
    have := h i (by omega) (by omega)
    simp only [comb, List.length_append, List.length_replicate, List.length_singleton]
    omega
theorem sComb_l1 (p : List Int) (a i : Int) : ∀ (c : Nat) (x : List Int) (r : List Int), x.length + c ≤ 1000 →
    Ev (fun k => spec_grComb.l0 k (x ++ List.replicate c a) a p (p.length : Int) (wrap64 (i + 1))) r → Ev (fun k => spec_grComb.l1 k x (c : Int) a p (p.length : Int) i) r := by
  intro c
  induction c with
  | zero =>
    intro x r _ hr
    refine Ev.step (fun k => by rw [spec_grComb.l1]) ?_
    refine Ev.no (by omega) ?_
    simpa using hr
  | succ c ih =>
    intro x r hc hr
    refine Ev.step (fun k => by rw [spec_grComb.l1]) ?_
    refine Ev.yes (by omega) (Ev.yes (by omega) ?_)
    rw [wr (by omega) (by omega), show ((c + 1 : Nat) : Int) - 1 = (c : Int) by omega]
    refine ih _ _ (by simp; omega) ?_
    rwa [List.append_assoc, show [a] ++ List.replicate c a = List.replicate (c + 1) a from rfl]
theorem iComb_l1 (p : List Int) (a i : Int) (n : Nat) (hn : n ≤ 1000) : ∀ (c m : Nat) (x : List Int) (r : List Int × Bool), m + c = n → x.length + n ≤ 1000 + m →
    Ev (fun k => impl_CombTree.l0 k (x ++ List.replicate c a) a p (p.length : Int) (wrap64 (i + 1))) r → Ev (fun k => impl_CombTree.l1 k x a p (p.length : Int) i (n : Int) (m : Int)) r := by
  intro c
  induction c with
  | zero =>
    intro m x r hm _ hr
    refine Ev.step (fun k => by rw [impl_CombTree.l1]) ?_
    refine Ev.no (by omega) ?_
    simpa using hr
  | succ c ih =>
    intro m x r hm hc hr
    refine Ev.step (fun k => by rw [impl_CombTree.l1]) ?_
    refine Ev.yes (by omega) (Ev.yes (by omega) ?_)
    rw [wrS (show m < n by omega) (by omega)]
    refine ih (m + 1) _ _ (by omega) (by simp; omega) ?_
    rwa [List.append_assoc, show [a] ++ List.replicate c a = List.replicate (c + 1) a from rfl]
theorem agree (p : List Int) (hn : p.length ≤ 1048576) (hw : ∀ x ∈ p, W64 x) : ∃ w : List Int × Bool, Ev (fun k => spec_CombTree.f k p) w ∧ Ev (fun k => impl_CombTree.f k p) w ∧ w.1.length ≤ 1048576 := by
  unfold spec_CombTree.f impl_CombTree.f
  by_cases hl : Legs p
  · have h1 := hl.1.1
    have hc := comb_length p hl.2
    refine ⟨((comb p p.length).1, true), Ev.bind (grLegs_ev p hn) ?_, Ev.bind (areLegs_ev p hn) ?_, by have := hc p.length (Nat.le_refl _); simp only; omega⟩
    · rw [tf_pos hl]
      refine Ev.yes rfl ?_
      refine Ev.bind (a := (comb p p.length).1) ?_ (Ev.now _)
      unfold spec_grComb.f
      refine det_loop (L := fun k i (x : List Int × Int) => spec_grComb.l0 k x.1 x.2 p (p.length : Int) (i : Int)) (n := p.length) (fun i => comb p i) (fun i hi r hr => ?_) ?_ p.length 0 (by omega)
      · have := hc i (by omega)
        have hb := hl.2 i (by omega) hi
        refine Ev.step (fun k => by rw [spec_grComb.l0]) ?_
        refine Ev.yes (by omega) (Ev.yes (by omega) (Ev.yes (by omega) (Ev.yes (by omega) ?_)))
        have e := sComb_l1 p ((comb p i).1.length : Int) (i : Int) (rd p (i : Int)).toNat ((comb p i).1 ++ [(comb p i).2]) r (by simp; omega)
        rw [wrS hi (by omega), show (((rd p (i : Int)).toNat : Nat) : Int) = rd p (i : Int) by omega] at e
        exact e hr
      · refine Ev.step (fun k => by rw [spec_grComb.l0]) ?_
        exact Ev.no (by omega) (Ev.now _)
    · rw [tf_pos hl]
      refine Ev.yes rfl ?_
      refine det_loop (L := fun k i (x : List Int × Int) => impl_CombTree.l0 k x.1 x.2 p (p.length : Int) (i : Int)) (n := p.length) (fun i => comb p i) (fun i hi r hr => ?_) ?_ p.length 0 (by omega)
      · have := hc i (by omega)
        have hb := hl.2 i (by omega) hi
        refine Ev.step (fun k => by rw [impl_CombTree.l0]) ?_
        refine Ev.yes (by omega) (Ev.yes (by omega) (Ev.yes (by omega) (Ev.yes (by omega) ?_)))
        have e := iComb_l1 p ((comb p i).1.length : Int) (i : Int) (rd p (i : Int)).toNat (by omega) (rd p (i : Int)).toNat 0 ((comb p i).1 ++ [(comb p i).2]) r (by omega) (by simp; omega)
        rw [wrS hi (by omega), show (((rd p (i : Int)).toNat : Nat) : Int) = rd p (i : Int) by omega] at e
        exact e hr
      · refine Ev.step (fun k => by rw [impl_CombTree.l0]) ?_
        exact Ev.no (by omega) (Ev.now _)
  · refine ⟨([], false), Ev.bind (grLegs_ev p hn) ?_, Ev.bind (areLegs_ev p hn) ?_, by simp⟩
    · rw [tf_neg hl]
      exact Ev.no (by simp) (Ev.now _)
    · rw [tf_neg hl]
      exact Ev.no (by simp) (Ev.now _)

theorem FnExactCombTree : laws_FnExactCombTree.Pure := by
  intro l0 ml0 bl0 wl0
  apply Ev.rounds
  unfold laws_FnExactCombTree.f
  refine Ev.ite (fun _ => Ev.now _) (fun gl0 => ?_)
  have nl0 : l0.length ≤ 1048576 := by omega
  obtain ⟨w, hS, hI, hW⟩ := agree l0 nl0 (fun x hx => bounds_i64 (wl0 x hx))
  repeat (first
    | (exact Ev.now _)
    | (with_reducible refine Ev.bind (toIntS_ev _ nl0) ?_)
    | (with_reducible refine Ev.bind hS ?_)
    | (with_reducible refine Ev.bind hI ?_)
    | (with_reducible refine Ev.bind (eqIntS_ev _ nl0) ?_)
    | (with_reducible refine Ev.bind (markIntS_ev _ 1 nl0 (by omega) (by omega)) ?_)
    | (with_reducible refine Ev.bind (heldIntS_ev _ 1 nl0 (by omega) (by omega)) ?_)
    | (with_reducible refine Ev.bind (eqIntS_ev _ hW) ?_)
    | (with_reducible refine Ev.bind (markIntS_ev _ 1 hW (by omega) (by omega)) ?_)
    | (with_reducible refine Ev.bind (heldIntS_ev _ 1 hW (by omega) (by omega)) ?_)
    | (with_reducible refine Ev.step (g := fun k => laws_FnExactCombTree.j0 k _ _ _ _ _ _ _) (fun k => by rw [laws_FnExactCombTree.j0]) ?_)
    | (with_reducible refine Ev.step (g := fun k => laws_FnExactCombTree.j1 k _ _ _ _ _) (fun k => by rw [laws_FnExactCombTree.j1]) ?_)
    | (with_reducible refine Ev.step (g := fun k => laws_FnExactCombTree.j2 k _ _ _) (fun k => by rw [laws_FnExactCombTree.j2]) ?_)
    | ((with_reducible apply Ev.yes); rfl)
    | ((with_reducible apply Ev.no); omega)
    | ((with_reducible apply Ev.no); focus (simp; done))
    | ((with_reducible apply Ev.yes); omega)
    | ((with_reducible apply Ev.yes); focus (simp; done)))

end Go.Proofs.Ytflfecocojafbaa.Pure
namespace Go.Proofs.Ytflfecocojafbaa.PrintWords
open Go.RowKit Go.ChangeShapes Go.WideShapes
/-- A row's slice of whole numbers is no longer than its weight allows (the seat's word, under the name that its rows use). -/
theorem sized_ints {H : Type} {enc : TypeId × Value → H} {P : Program} {W : World} {base : Nat} {spare : Nat → Bool} {held : Bool} {t e : TypeId} {k : IntKind} {a : Option Addr} {len cap : Nat} {d : DataW H} {ps : List MemPlace} {ts : List TypeId} {ds : List (DataW H)} {j : Nat}
    (hsz : (DataW.weightsEach P ts ds).all (· ≤ reachBytes) = true) (ht : ts[j]? = some t) (hd : ds[j]? = some d) (hu : P.underlying t = some (.slice e)) (he : P.underlying e = some (.int k)) (hc : P.cellsOf e = 1) {B : Nat} (hB : P.bytesOf e = B)
    (h : DataW.Trod enc P W base spare held t (.slice a len cap) d ps) : len * B ≤ 140737488351232 :=
  Go.Proofs.YtflfecocojafbaaW.PrintWords.sized_ints hsz ht hd hu he hc hB h
end Go.Proofs.Ytflfecocojafbaa.PrintWords
