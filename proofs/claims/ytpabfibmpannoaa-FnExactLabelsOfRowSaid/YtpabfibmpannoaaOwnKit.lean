/- Words on rows of whole numbers that a call reads: what stands at a place, the first i of them, and the answers of two small functions of the reference; no condition. -/
import Derived.Test.YtpabfibmpannoaaProg
import Derived.Test.YtpabfibmpannoaaWMore
import Derived.Test.YtpabfibmpannoaaWSized
import Derived.Deep.LoopGhost
import Derived.Deep.QuietTactic
import Derived.BigQuiet
import Derived.Deep.DeepCutAuto
import Derived.WalkKit
import Derived.KernelRfl
import Derived.OpenShut
namespace Go.Proofs.Ytpabfibmpannoaa.Own
open Go.RowKit Go.Proofs.YtpabfibmpannoaaW.PrintWords Go.Proofs.YtpabfibmpannoaaW.PrintLast Go.Proofs.YtpabfibmpannoaaW.PrintMore
set_option linter.unusedVariables false
/-! ### small words: rounds, wraps, reads -/
theorem Ev.yes {α : Type} {c : Prop} [Decidable c] {A B : Nat → Option α} {r : α} (h : c) (k : Ev A r) : Ev (fun n => if c then A n else B n) r := by
  simp only [if_pos h]; exact k
theorem Ev.no {α : Type} {c : Prop} [Decidable c] {A B : Nat → Option α} {r : α} (h : ¬ c) (k : Ev B r) : Ev (fun n => if c then A n else B n) r := by
  simp only [if_neg h]; exact k
theorem Ev.ite {α : Type} {c : Prop} [Decidable c] {A B : Nat → Option α} {r : α} (k : c → Ev A r) (k' : ¬ c → Ev B r) : Ev (fun n => if c then A n else B n) r := by
  by_cases h : c
  · exact Ev.yes h (k h)
  · exact Ev.no h (k' h)
theorem Ev.now' {α : Type} {x r : α} (h : x = r) : Ev (fun _ => some x) r := h ▸ Ev.now x
theorem Ev.one {α : Type} {g : Nat → Option α} {r q : α} (h : Ev g r) (k : Ev g q) : r = q := by
  obtain ⟨K, h⟩ := h
  obtain ⟨K', k⟩ := k
  have h1 := h (max K K') (by omega)
  have h2 := k (max K K') (by omega)
  rw [h1] at h2
  exact Option.some.inj h2
def W64 (x : Int) : Prop := -9223372036854775808 ≤ x ∧ x ≤ 9223372036854775807
theorem wr {x : Int} (h0 : -9223372036854775808 ≤ x) (h1 : x ≤ 9223372036854775807) : wrap64 x = x := by
  unfold wrap64
  omega
theorem wrS {i n : Nat} (h : i < n) (hn : n ≤ 9223372036854775807) : wrap64 ((i : Int) + 1) = ((i + 1 : Nat) : Int) := by
  unfold wrap64
  omega
theorem wrP {i n : Nat} (h : i ≤ n) (h0 : 0 < i) (hn : n ≤ 9223372036854775807) : wrap64 ((i : Int) - 1) = ((i - 1 : Nat) : Int) := by
  unfold wrap64
  omega
theorem rd_get {xs : List Int} {i : Nat} (h : i < xs.length) : rd xs (i : Int) = xs[i] := by
  unfold rd
  simp [h]
theorem rd_none {xs : List Int} {i : Nat} (h : xs.length ≤ i) : rd xs (i : Int) = 0 := by
  unfold rd
  simp [h]
theorem drop_rd {xs : List Int} {i : Nat} (h : i < xs.length) : xs.drop i = rd xs (i : Int) :: xs.drop (i + 1) := by
  rw [rd_get h, List.drop_eq_getElem_cons h]
theorem take_rd {xs : List Int} {i : Nat} (h : i < xs.length) : xs.take (i + 1) = xs.take i ++ [rd xs (i : Int)] := by
  rw [rd_get h, List.take_succ_eq_append_getElem h]
theorem rd_mem {xs : List Int} {i : Nat} (h : i < xs.length) : rd xs (i : Int) ∈ xs := by
  rw [rd_get h]
  exact List.getElem_mem h
theorem mem_rd {xs : List Int} {x : Int} (h : x ∈ xs) : ∃ i : Nat, i < xs.length ∧ rd xs (i : Int) = x := by
  obtain ⟨i, hi, rfl⟩ := List.getElem_of_mem h
  exact ⟨i, hi, rd_get hi⟩
theorem rd_set_self {xs : List Int} {i : Nat} {v : Int} (h : i < xs.length) : rd (xs.set i v) (i : Int) = v := by
  rw [rd_get (by simpa using h)]
  simp
theorem rd_set_ne {xs : List Int} {i j : Nat} {v : Int} (h : i ≠ j) : rd (xs.set i v) (j : Int) = rd xs (j : Int) := by
  unfold rd
  simp [List.getD_eq_getElem?_getD, List.getElem?_set_ne h]
theorem rd_replicate {n i : Nat} : rd (List.replicate n (0 : Int)) (i : Int) = 0 := by
  unfold rd
  simp only [Int.toNat_natCast, List.getD_eq_getElem?_getD, List.getElem?_replicate]
  split <;> rfl
theorem rd_take {xs : List Int} {i n : Nat} (h : i < n) : rd (xs.take n) (i : Int) = rd xs (i : Int) := by
  unfold rd
  simp [List.getD_eq_getElem?_getD, h]
theorem rd_append_left {xs ys : List Int} {i : Nat} (h : i < xs.length) : rd (xs ++ ys) (i : Int) = rd xs (i : Int) := by
  unfold rd
  simp [List.getD_eq_getElem?_getD, List.getElem?_append_left h]
theorem rd_last {xs : List Int} {x : Int} : rd (xs ++ [x]) (xs.length : Int) = x := by
  unfold rd
  simp
theorem rd_ext {xs ys : List Int} (hl : xs.length = ys.length) (h : ∀ i : Nat, i < xs.length → rd xs (i : Int) = rd ys (i : Int)) : xs = ys := by
  apply List.ext_getElem hl
  intro i h1 h2
  rw [← rd_get h1, ← rd_get h2]
  exact h i h1
noncomputable def tf (P : Prop) : Bool := @decide P (Classical.propDecidable P)
theorem tf_pos {P : Prop} (h : P) : tf P = true := by
  unfold tf
  exact @decide_eq_true P (Classical.propDecidable P) h
theorem tf_neg {P : Prop} (h : ¬ P) : tf P = false := by
  unfold tf
  exact @decide_eq_false P (Classical.propDecidable P) h
theorem tf_iff {P : Prop} : tf P = true ↔ P := by
  by_cases h : P
  · rw [tf_pos h]; exact ⟨fun _ => h, fun _ => rfl⟩
  · rw [tf_neg h]; exact ⟨fun h' => (Bool.noConfusion h'), fun h' => absurd h' h⟩
theorem tf_congr {P Q : Prop} (h : P ↔ Q) : tf P = tf Q := by
  rw [show P = Q from propext h]
theorem tf_dec {P : Prop} [Decidable P] : tf P = decide P := by
  by_cases h : P
  · rw [tf_pos h, decide_eq_true h]
  · rw [tf_neg h, decide_eq_false h]
theorem tf_not {P : Prop} : (!tf P) = tf (¬ P) := by
  by_cases h : P
  · rw [tf_pos h, tf_neg (not_not_intro h)]; rfl
  · rw [tf_neg h, tf_pos h]; rfl
/-- A loop that asks each place: at the end b, where all answer yes. -/
theorem all_loop_b {L : Nat → Nat → Option Bool} {n : Nat} {P : Nat → Prop} {b : Bool} (h0 : Ev (fun k => L k n) b)
    (h1 : ∀ i, i < n → P i → ∀ r, Ev (fun k => L k (i + 1)) r → Ev (fun k => L k i) r) (h2 : ∀ i, i < n → ¬ P i → Ev (fun k => L k i) false) :
    ∀ (d i : Nat), i + d = n → Ev (fun k => L k i) (tf (∀ j, i ≤ j → j < n → P j) && b) := by
  intro d
  induction d with
  | zero =>
    intro i hi
    obtain rfl : i = n := by omega
    rw [tf_pos (fun j h h' => by omega)]
    exact h0
  | succ d ih =>
    intro i hi
    by_cases hp : P i
    · have := h1 i (by omega) hp _ (ih (i + 1) (by omega))
      rw [tf_congr (Q := ∀ j, i + 1 ≤ j → j < n → P j) ⟨fun h j hj hn => h j (by omega) hn, fun h j hj hn => by
        rcases Nat.lt_or_ge i j with hl | hl
        · exact h j hl hn
        · rw [show j = i by omega]; exact hp⟩]
      exact this
    · rw [tf_neg (fun h => hp (h i (Nat.le_refl _) (by omega)))]
      exact h2 i (by omega) hp
/-- A loop that asks each place: true where all answer yes. -/
theorem all_loop {L : Nat → Nat → Option Bool} {n : Nat} {P : Nat → Prop} (h0 : Ev (fun k => L k n) true)
    (h1 : ∀ i, i < n → P i → ∀ r, Ev (fun k => L k (i + 1)) r → Ev (fun k => L k i) r) (h2 : ∀ i, i < n → ¬ P i → Ev (fun k => L k i) false)
    (d i : Nat) (h : i + d = n) : Ev (fun k => L k i) (tf (∀ j, i ≤ j → j < n → P j)) := by
  have := all_loop_b h0 h1 h2 d i h
  rwa [Bool.and_true] at this
/-- A loop that goes on with a state. -/
theorem acc_loop {σ ρ : Type} {L : Nat → Nat → σ → Option ρ} {n : Nat} (Inv : Nat → σ → Prop)
    (step : ∀ i s, i < n → Inv i s → ∃ s', Inv (i + 1) s' ∧ ∀ r, Ev (fun k => L k (i + 1) s') r → Ev (fun k => L k i s) r) :
    ∀ (d i : Nat) (s : σ), i + d = n → Inv i s → ∃ s', Inv n s' ∧ ∀ r, Ev (fun k => L k n s') r → Ev (fun k => L k i s) r := by
  intro d
  induction d with
  | zero =>
    intro i s hi h
    obtain rfl : i = n := by omega
    exact ⟨s, h, fun _ h => h⟩
  | succ d ih =>
    intro i s hi h
    obtain ⟨s', h', k'⟩ := step i s (by omega) h
    obtain ⟨t, h'', k''⟩ := ih (i + 1) s' (by omega) h'
    exact ⟨t, h'', fun r hr => k' r (k'' r hr)⟩
/-- A loop that goes on with a state, or answers at once. -/
theorem ret_loop {σ ρ : Type} {L : Nat → Nat → σ → Option ρ} {n : Nat} (Inv : Nat → σ → Prop) (Post : ρ → Prop)
    (step : ∀ i s, i < n → Inv i s → (∃ r, Ev (fun k => L k i s) r ∧ Post r) ∨ ∃ s', Inv (i + 1) s' ∧ ∀ r, Ev (fun k => L k (i + 1) s') r → Ev (fun k => L k i s) r) :
    ∀ (d i : Nat) (s : σ), i + d = n → Inv i s → (∃ r, Ev (fun k => L k i s) r ∧ Post r) ∨ ∃ s', Inv n s' ∧ ∀ r, Ev (fun k => L k n s') r → Ev (fun k => L k i s) r := by
  intro d
  induction d with
  | zero =>
    intro i s hi h
    obtain rfl : i = n := by omega
    exact .inr ⟨s, h, fun _ h => h⟩
  | succ d ih =>
    intro i s hi h
    rcases step i s (by omega) h with h1 | ⟨s', h', k'⟩
    · exact .inl h1
    · rcases ih (i + 1) s' (by omega) h' with ⟨r, hr, hp⟩ | ⟨t, h'', k''⟩
      · exact .inl ⟨r, k' r hr, hp⟩
      · exact .inr ⟨t, h'', fun r hr => k' r (k'' r hr)⟩
/-- The state is known at each place. -/
theorem det_loop {σ ρ : Type} {L : Nat → Nat → σ → Option ρ} {n : Nat} (S : Nat → σ)
    (step : ∀ i, i < n → ∀ r, Ev (fun k => L k (i + 1) (S (i + 1))) r → Ev (fun k => L k i (S i)) r) {r : ρ} (h : Ev (fun k => L k n (S n)) r) :
    ∀ (d i : Nat), i + d = n → Ev (fun k => L k i (S i)) r := by
  intro d
  induction d with
  | zero =>
    intro i hi
    obtain rfl : i = n := by omega
    exact h
  | succ d ih =>
    intro i hi
    exact step i (by omega) r (ih (i + 1) (by omega))
theorem acc_step {σ : Type} {P Q : σ → Prop} (s : σ) (q : Q s) (p : P s) : ∃ s, P s ∧ Q s := ⟨s, p, q⟩
theorem agree_run {α : Type} {g f : Nat → Option α} (hg : ∀ k, LeO (g k) (g (k + 1))) (hf : ∀ k, LeO (f k) (f (k + 1))) (k : Nat) (h : g k = f k ∧ (f k).isSome = true) : ∃ w, Ev g w ∧ Ev f w := by
  obtain ⟨e, h⟩ := h
  obtain ⟨w, hw⟩ := Option.isSome_iff_exists.1 h
  exact ⟨w, Ev.of hg (k := k) (e.trans hw), Ev.of hf (k := k) hw⟩
/-- all_loop, from a place on. -/
theorem all_from {L : Nat → Nat → Option Bool} {n : Nat} {P : Nat → Prop} {b : Bool} (lo : Nat) (h0 : Ev (fun k => L k n) b)
    (h1 : ∀ i, lo ≤ i → i < n → P i → ∀ r, Ev (fun k => L k (i + 1)) r → Ev (fun k => L k i) r) (h2 : ∀ i, lo ≤ i → i < n → ¬ P i → Ev (fun k => L k i) false) (hlo : lo ≤ n) :
    Ev (fun k => L k lo) (tf (∀ j, lo ≤ j → j < n → P j) && b) := by
  have := all_loop_b (L := fun k i => L k (lo + i)) (n := n - lo) (P := fun i => P (lo + i)) (b := b) (by rw [show lo + (n - lo) = n by omega]; exact h0) (fun i hi hp r hr => h1 (lo + i) (by omega) (by omega) hp r hr) (fun i hi hp => h2 (lo + i) (by omega) (by omega) hp) (n - lo) 0 (by omega)
  rw [tf_congr (Q := ∀ j, 0 ≤ j → j < n - lo → P (lo + j)) ⟨fun h j a b => h (lo + j) (by omega) (by omega), fun h j a b => by
    have := h (j - lo) (by omega) (by omega)
    rwa [show lo + (j - lo) = j by omega] at this⟩]
  exact this

theorem w64 {x : Int} (h0 : -9223372036854775808 ≤ x) (h1 : x ≤ 9223372036854775807) : wrap64 x = x := wr h0 h1
theorem infoInt : (Try.prog.info? 3).map (fun i => (i.zero, i.size, i.bytes)) = some (some (.int .i64 0), 1, 8) := by kernel_rfl
/-- A row of whole numbers that is read. -/
abbrev Rd (w : World) (A : Option Addr) (l : List Int) : Prop := Kd.C (Kd.int .i64) w A l.length l
/-- A row of whole numbers of the call's own. -/
abbrev Ow (w : World) (B : Nat) (v : Value) (l : List Int) : Prop := Kd.R (Kd.int .i64) 3 w B (fun _ => True) v l
theorem at_nat {w : World} {A : Option Addr} {l : List Int} (h : Rd w A l) {i : Nat} (hi : i < l.length) : ∃ ad, A = some ad ∧ w.cell? (ad.add i) = some (.int .i64 (rd l (i : Int))) := by
  obtain ⟨ad, e, hx⟩ := Kd.at_int h (i : Int) (by omega) (by omega)
  exact ⟨ad, e, by rwa [Int.toNat_natCast] at hx⟩
theorem Rd_take {w : World} {A : Option Addr} {l : List Int} (h : Rd w A l) (i : Nat) (hi : i ≤ l.length) : Rd w A (l.take i) := by
  refine ⟨rfl, by have := h.2.1; rw [List.length_take]; omega, fun hp => ?_⟩
  obtain ⟨ad, he, hc⟩ := h.2.2 (by rw [List.length_take] at hp; omega)
  refine ⟨ad, he, fun j p hj => hc j p ?_⟩
  rw [List.getElem?_take] at hj
  split at hj
  · exact hj
  · cases hj
theorem cut_nat (A : Option Addr) (c : Nat) (l : List Int) (i : Nat) (hi : i ≤ l.length) (hc : l.length ≤ c) (W : World) :
    Sem.run Try.prog (Instr.slice 29 (.slice A l.length c) none (some (.int .i64 (i : Int))) none) W = .ok (.slice A i c) W := by
  obtain ⟨i0, hi0, _, hsz, _⟩ := info_parts infoInt
  have h := (print_take_of (P := Try.prog) (Value.int .i64) 0 29 3 .i64 Try.underlying29 hi0 hsz A c l (i : Int) (by omega) (by omega) hc).1 W
  rw [h, Int.toNat_natCast, List.length_take, Nat.min_eq_left hi]
theorem ret_bool {a b : Bool} (h : a = b) : Ending.returned (.bool a) = .returned (.bool b) := by rw [h]
/-- Whether a number lies between two. -/
def within (b c a : Int) : Bool := decide (b ≤ a ∧ a ≤ c)
theorem within_yes {b c a : Int} (h : b ≤ a ∧ a ≤ c) : within b c a = true := decide_eq_true h
theorem within_no {b c a : Int} (h : ¬ (b ≤ a ∧ a ≤ c)) : within b c a = false := decide_eq_false h
theorem in_calls (a b c : Int) (w : World) : Calls Try.prog 31 #[.int .i64 a, .int .i64 b, .int .i64 c] w fun e w' => e = .returned (.bool (within b c a)) ∧ Drawn0 w w' := by
  by_cases h : b ≤ a
  · by_cases h' : a ≤ c
    · have H := Aside0.mk (within_yes ⟨h, h'⟩)
      go_enter Try.func31, Try.ntmps31
      (go_wp2; repeat (go_quiet (fail); try go_wp2))
      go_ret
      exact ⟨by rw [H.out]; simp, (by repeat (first | exact Drawn0.refl _ | apply Drawn0.step))⟩
    · have H := Aside0.mk (within_no (fun k => h' k.2 : ¬ (b ≤ a ∧ a ≤ c)))
      have h2 : c < a := by omega
      clear h'
      go_enter Try.func31, Try.ntmps31
      (go_wp2; repeat (go_quiet (fail); try go_wp2))
      go_ret
      exact ⟨by rw [H.out]; simp [h2], (by repeat (first | exact Drawn0.refl _ | apply Drawn0.step))⟩
  · have H := Aside0.mk (within_no (fun k => h k.1 : ¬ (b ≤ a ∧ a ≤ c)))
    go_enter Try.func31, Try.ntmps31
    (go_wp2; repeat (go_quiet (fail); try go_wp2))
    go_ret
    exact ⟨by rw [H.out]; rfl, (by repeat (first | exact Drawn0.refl _ | apply Drawn0.step))⟩
set_option maxHeartbeats 800000 in
theorem has_calls (A : Option Addr) (c : Nat) (l : List Int) (x : Int) (w : World) (hr : Rd w A l) (hc : l.length ≤ c) (hn : l.length ≤ 35184372088832) :
    Calls Try.prog 63 #[.slice A l.length c, .int .i64 x] w fun e w' => e = .returned (.bool (decide (x ∈ l))) ∧ Drawn0 w w' := by
  have HR := Aside0.mk hr
  have HC := Aside0.mk hc
  clear hr hc
  go_enter Try.func63, Try.ntmps63
  (go_wp2; repeat (go_quiet (fail); try go_wp2))
  go_loopg [9] l.length (fun g v9 w' => ∃ i : Nat, v9 = .int .i64 i ∧ Aside0 (i + g = l.length) ∧ Aside0 (x ∉ l.take i) ∧ Drawn0 w w')
  case atStart => exact ⟨0, rfl, ⟨by omega⟩, ⟨by simp⟩, (by repeat (first | exact Drawn0.refl _ | apply Drawn0.step))⟩
  case round =>
    obtain ⟨i, rfl, HI, HA, ⟨m1, rfl⟩⟩ := hrel
    by_cases hlt : i < l.length
    · obtain ⟨ad, rfl, hx⟩ := at_nat HR.out hlt
      by_cases h1 : rd l (i : Int) = x
      · have hm : x ∈ l := h1 ▸ rd_mem hlt
        have HM := Aside0.mk hm
        clear hm
        have ht : ((rd l (i : Int)) == x) = true := beq_iff_eq.mpr h1
        clear h1
        (go_wp2; repeat (go_quiet (fail); try go_wp2))
        go_ret
        exact ⟨ret_bool (decide_eq_true HM.out).symm, (by repeat (first | exact Drawn0.refl _ | apply Drawn0.step))⟩
      · have hm : x ∉ l.take (i + 1) := by
          rw [take_rd hlt]
          simp only [List.mem_append, List.mem_singleton]
          exact fun h => h.elim HA.out (fun e => h1 e.symm)
        have HM := Aside0.mk hm
        clear hm
        have ht : ((rd l (i : Int)) == x) = false := beq_eq_false_iff_ne.mpr h1
        clear h1
        (go_wp2; repeat (go_quiet (fail); try go_wp2))
        go_roundg (gk - 1)
        case measure => have := HI.out; omega
        case rel => exact ⟨i + 1, by go_num, ⟨by have := HI.out; omega⟩, HM, (by repeat (first | exact Drawn0.refl _ | apply Drawn0.step))⟩
    · (go_wp2; repeat (go_quiet (fail); try go_wp2))
      go_ret
      exact ⟨ret_bool (decide_eq_false (fun h => HA.out (by rwa [List.take_of_length_le (by omega)]))).symm, (by repeat (first | exact Drawn0.refl _ | apply Drawn0.step))⟩
/-- l1Has of the first i elements. -/
theorem has_take (A : Option Addr) (c : Nat) (l : List Int) (i : Nat) (x : Int) (w : World) (hr : Rd w A l) (hc : l.length ≤ c) (hi : i ≤ l.length) (hn : l.length ≤ 35184372088832) :
    Calls Try.prog 63 #[.slice A i c, .int .i64 x] w fun e w' => e = .returned (.bool (decide (x ∈ l.take i))) ∧ Drawn0 w w' := by
  have hl : (l.take i).length = i := by rw [List.length_take]; omega
  exact calls_of_args (by rw [hl]) (has_calls A c (l.take i) x w (Rd_take hr i hi) (by omega) (by omega))
end Go.Proofs.Ytpabfibmpannoaa.Own
