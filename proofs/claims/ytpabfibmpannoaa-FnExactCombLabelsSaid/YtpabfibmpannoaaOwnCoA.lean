/- The labels of a comb in plain words, and what the reference's grLegs, grComb and CombLabels and the program's areLegs compute (over the printed functions); lists of at most 1048576 numbers. -/
import Derived.Test.YtpabfibmpannoaaOwnGen
import Derived.Test.YtpabfibmpannoaaPFnExactCombLabelsx2
namespace Go.Proofs.Ytpabfibmpannoaa.Own.G
open Go.RowKit Go.Proofs.YtpabfibmpannoaaW.PrintWords Go.Proofs.YtpabfibmpannoaaW.PrintLast Go.Proofs.YtpabfibmpannoaaW.PrintMore Go.Proofs.Ytpabfibmpannoaa.PFnExactCombLabels
set_option linter.unusedVariables false
theorem l1In_eq (a b c : Int) : spec_l1In.f a b c = some (decide (b ≤ a ∧ a ≤ c)) := by
  unfold spec_l1In.f
  by_cases h : b ≤ a
  · rw [if_pos h]; simp [h]
  · rw [if_neg h]; simp [h]

theorem l1All_ev (xs : List Int) (a b : Int) (hn : xs.length ≤ 35184372088832) : Ev (fun k => spec_l1All.f k xs a b) (tf (∀ j, 0 ≤ j → j < xs.length → a ≤ rd xs (j : Int) ∧ rd xs (j : Int) ≤ b)) := by
  unfold spec_l1All.f
  refine all_loop (L := fun k i => spec_l1All.l0 k a b xs (xs.length : Int) (i : Int)) ?_ ?_ ?_ xs.length 0 (by omega)
  · refine Ev.step (fun k => by rw [spec_l1All.l0]) ?_
    exact Ev.no (by omega) (Ev.now _)
  · intro i hi hp r hr
    refine Ev.step (fun k => by rw [spec_l1All.l0]) ?_
    refine Ev.yes (by omega) (Ev.yes (by omega) (Ev.yes (by omega) ?_))
    simp only [l1In_eq, Option.bind_some]
    rw [wrS hi (by omega)]
    exact Ev.yes (decide_eq_true hp) hr
  · intro i hi hp
    refine Ev.step (fun k => by rw [spec_l1All.l0]) ?_
    refine Ev.yes (by omega) (Ev.yes (by omega) (Ev.yes (by omega) ?_))
    simp only [l1In_eq, Option.bind_some]
    exact Ev.no (by simpa using hp) (Ev.now _)

/-- The nodes of a comb, teeth by teeth. -/
def legSum (p : List Int) : Nat → Int
  | 0 => (p.length : Int)
  | i + 1 => wrap64 (legSum p i + rd p (i : Int))
def Legs (p : List Int) : Prop := ((1 ≤ p.length ∧ p.length ≤ 5) ∧ legSum p p.length ≤ 9) ∧ ∀ j, 0 ≤ j → j < p.length → 0 ≤ rd p (j : Int) ∧ rd p (j : Int) ≤ 5
theorem grLegs_ev (p : List Int) (hn : p.length ≤ 1048576) : Ev (fun k => spec_grLegs.f k p) (tf (Legs p)) := by
  unfold spec_grLegs.f
  simp only [l1In_eq, Option.bind_some]
  have out : ∀ b, b = true → ¬ Legs p → Ev (fun k => spec_grLegs.j0 k p b) (tf (Legs p)) := fun b hb hc => by
    rw [tf_neg hc]
    refine Ev.step (g := fun k => spec_grLegs.j0 k _ _) (fun k => by rw [spec_grLegs.j0]) ?_
    exact Ev.yes hb (Ev.now _)
  by_cases hl : 1 ≤ p.length ∧ p.length ≤ 5
  · refine Ev.yes (decide_eq_true (by omega)) (Ev.bind (l1All_ev p 0 5 (by omega)) ?_)
    by_cases ha : ∀ j, 0 ≤ j → j < p.length → 0 ≤ rd p (j : Int) ∧ rd p (j : Int) ≤ 5
    · rw [tf_pos ha]
      refine Ev.step (g := fun k => spec_grLegs.j0 k _ _) (fun k => by rw [spec_grLegs.j0]) ?_
      refine Ev.no (by simp) ?_
      refine det_loop (L := fun k i (x : Int) => spec_grLegs.l0 k x p (p.length : Int) (i : Int)) (n := p.length) (fun i => legSum p i) (fun i hi r hr => ?_) ?_ p.length 0 (by omega)
      · refine Ev.step (fun k => by rw [spec_grLegs.l0]) ?_
        rw [wrS hi (by omega)]
        exact Ev.yes (by omega) (Ev.yes (by omega) (Ev.yes (by omega) hr))
      · refine Ev.step (fun k => by rw [spec_grLegs.l0]) ?_
        refine Ev.no (by omega) (Ev.now' ?_)
        rw [← tf_dec]
        exact tf_congr ⟨fun h => ⟨⟨hl, h⟩, ha⟩, fun h => h.1.2⟩
    · rw [tf_neg ha]
      exact out _ rfl (fun h => ha h.2)
  · exact Ev.no (by simp; omega) (out _ rfl (fun h => hl h.1.1))
theorem areLegs_ev (p : List Int) (hn : p.length ≤ 1048576) : Ev (fun k => impl_areLegs.f k p) (tf (Legs p)) := by
  unfold impl_areLegs.f
  have out : ∀ b, b = true → ¬ Legs p → Ev (fun k => impl_areLegs.j0 k p b) (tf (Legs p)) := fun b hb hc => by
    rw [tf_neg hc]
    refine Ev.step (g := fun k => impl_areLegs.j0 k _ _) (fun k => by rw [impl_areLegs.j0]) ?_
    exact Ev.yes hb (Ev.now _)
  by_cases hl : 1 ≤ p.length ∧ p.length ≤ 5
  · refine Ev.no (by omega) ?_
    refine Ev.step (g := fun k => impl_areLegs.j0 k _ _) (fun k => by rw [impl_areLegs.j0]) ?_
    refine Ev.no (by simp; omega) ?_
    rcases ret_loop (L := fun k i (x : Int) => impl_areLegs.l0 k x p (p.length : Int) (i : Int)) (n := p.length) (fun i x => x = legSum p i ∧ ∀ j, j < i → 0 ≤ rd p (j : Int) ∧ rd p (j : Int) ≤ 5) (fun r => r = false ∧ ¬ Legs p) (fun i x hi hx => by
      obtain ⟨rfl, hx⟩ := hx
      by_cases hb : 0 ≤ rd p (i : Int) ∧ rd p (i : Int) ≤ 5
      · right
        refine ⟨legSum p (i + 1), ⟨rfl, fun j hj => ?_⟩, fun r hr => ?_⟩
        · rcases Nat.lt_or_ge j i with h | h
          · exact hx j h
          · rw [show j = i by omega]; exact hb
        · refine Ev.step (fun k => by rw [impl_areLegs.l0]) ?_
          rw [wrS hi (by omega)]
          exact Ev.yes (by omega) (Ev.yes (by omega) (Ev.yes (by omega) (Ev.no (by omega) (Ev.no (by omega) hr))))
      · left
        refine ⟨_, ?_, rfl, fun h => hb (h.2 i (by omega) hi)⟩
        refine Ev.step (fun k => by rw [impl_areLegs.l0]) ?_
        exact Ev.yes (by omega) (Ev.yes (by omega) (Ev.yes (by omega) (Ev.ite (fun _ => Ev.now _) (fun h => Ev.yes (by omega) (Ev.now _)))))) p.length 0 (p.length : Int) (by omega) ⟨rfl, fun j hj => absurd hj (by omega)⟩ with ⟨r, hr, rfl, hb⟩ | ⟨x, ⟨rfl, hx⟩, hk⟩
    · rw [tf_neg hb]
      exact hr
    · refine hk _ ?_
      refine Ev.step (fun k => by rw [impl_areLegs.l0]) ?_
      refine Ev.no (by omega) (Ev.now' ?_)
      rw [← tf_dec]
      exact tf_congr ⟨fun h => ⟨⟨hl, h⟩, fun j _ hj => hx j hj⟩, fun h => h.1.2⟩
  · exact Ev.ite (fun _ => out _ rfl (fun h => hl h.1.1)) (fun h => out _ (decide_eq_true (by omega)) (fun h => hl h.1.1))
/-- The parents, and the last tooth's root, behind i teeth. -/
def comb (p : List Int) : Nat → List Int × Int
  | 0 => ([], -1)
  | i + 1 => (((comb p i).1 ++ [(comb p i).2]) ++ List.replicate (rd p (i : Int)).toNat ((comb p i).1.length : Int), ((comb p i).1.length : Int))
theorem comb_length (p : List Int) (h : ∀ j, 0 ≤ j → j < p.length → 0 ≤ rd p (j : Int) ∧ rd p (j : Int) ≤ 5) (i : Nat) (hi : i ≤ p.length) : (comb p i).1.length ≤ 6 * i := by
  induction i with
  | zero => simp [comb]
  | succ i ih =>
    have := ih (by omega)
    have := h i (by omega) (by omega)
    simp only [comb, List.length_append, List.length_replicate, List.length_singleton]
    omega
theorem sComb_l1 (p : List Int) (a i : Int) : ∀ (c : Nat) (x : List Int) (r : List Int), x.length + c ≤ 1000 →
    Ev (fun k => spec_grComb.l0 k (x ++ List.replicate c a) a p (p.length : Int) (wrap64 (i + 1))) r → Ev (fun k => spec_grComb.l1 k x (c : Int) a p (p.length : Int) i) r := by
  intro c
  induction c with
  | zero =>
    intro x r _ hr
    refine Ev.step (fun k => by rw [spec_grComb.l1]) ?_
    refine Ev.no (by omega) ?_
    simpa using hr
  | succ c ih =>
    intro x r hc hr
    refine Ev.step (fun k => by rw [spec_grComb.l1]) ?_
    refine Ev.yes (by omega) (Ev.yes (by omega) ?_)
    rw [wr (by omega) (by omega), show ((c + 1 : Nat) : Int) - 1 = (c : Int) by omega]
    refine ih _ _ (by simp; omega) ?_
    rwa [List.append_assoc, show [a] ++ List.replicate c a = List.replicate (c + 1) a from rfl]

/-- The sum of the first i legs. -/
def legTot (p : List Int) : Nat → Int
  | 0 => 0
  | i + 1 => legTot p i + rd p (i : Int)
theorem legTot_bnd {p : List Int} (h : ∀ j, 0 ≤ j → j < p.length → 0 ≤ rd p (j : Int) ∧ rd p (j : Int) ≤ 5) : ∀ i : Nat, i ≤ p.length → 0 ≤ legTot p i ∧ legTot p i ≤ 5 * (i : Int) := by
  intro i
  induction i with
  | zero => intro _; exact ⟨Int.le_refl _, by simp [legTot]⟩
  | succ i ih =>
    intro hi
    have h1 := ih (by omega)
    have h2 := h i (by omega) (by omega)
    rw [legTot]
    omega
theorem legSum_tot {p : List Int} (hl : p.length ≤ 5) (h : ∀ j, 0 ≤ j → j < p.length → 0 ≤ rd p (j : Int) ∧ rd p (j : Int) ≤ 5) : ∀ i : Nat, i ≤ p.length → legSum p i = (p.length : Int) + legTot p i := by
  intro i
  induction i with
  | zero => intro _; simp [legSum, legTot]
  | succ i ih =>
    intro hi
    have h1 := legTot_bnd h i (by omega)
    have h2 := h i (by omega) (by omega)
    rw [legSum, ih (by omega), legTot, wr (by omega) (by omega)]
    omega
theorem comb_tot {p : List Int} (h : ∀ j, 0 ≤ j → j < p.length → 0 ≤ rd p (j : Int) ∧ rd p (j : Int) ≤ 5) : ∀ i : Nat, i ≤ p.length → ((comb p i).1.length : Int) = (i : Int) + legTot p i := by
  intro i
  induction i with
  | zero => intro _; simp [comb, legTot]
  | succ i ih =>
    intro hi
    have h1 := ih (by omega)
    have h2 := h i (by omega) (by omega)
    simp only [comb, List.length_append, List.length_replicate, List.length_singleton, legTot]
    omega
abbrev Lab : Type := List Int × Int × Int
/-- The next label: the least that is left, or the greatest. -/
def takeB (b : Bool) (s : Lab) : Lab := if b = true then (s.1 ++ [s.2.1], s.2.1 + 1, s.2.2) else (s.1 ++ [s.2.2], s.2.1, s.2.2 - 1)
def takes (b : Bool) : Nat → Lab → Lab
  | 0, s => s
  | c + 1, s => takes b c (takeB b s)
theorem takes_snoc (b : Bool) : ∀ (c : Nat) (s : Lab), takes b (c + 1) s = takeB b (takes b c s) := by
  intro c
  induction c with
  | zero => intro s; rfl
  | succ c ih => intro s; rw [takes, ih, ← takes]
def ev2 (i : Nat) : Bool := decide (i % 2 = 0)
/-- The labels of the first i teeth, and what is left. -/
def labs (p : List Int) (n : Int) : Nat → Lab
  | 0 => ([], 0, n - 1)
  | i + 1 => takes (!ev2 i) (rd p (i : Int)).toNat (takeB (ev2 i) (labs p n i))
def LabB (M : Nat) (s : Lab) : Prop := s.1.length ≤ M ∧ (-(M : Int) ≤ s.2.1 ∧ s.2.1 ≤ (M : Int)) ∧ (-(M : Int) ≤ s.2.2 ∧ s.2.2 ≤ (M : Int))
theorem LabB_take {M : Nat} {s : Lab} (h : LabB M s) (b : Bool) : LabB (M + 1) (takeB b s) := by
  obtain ⟨h1, h2, h3⟩ := h
  cases b
  · exact ⟨by simp [takeB]; omega, by simp [takeB]; omega, by simp [takeB]; omega⟩
  · exact ⟨by simp [takeB]; omega, by simp [takeB]; omega, by simp [takeB]; omega⟩
theorem LabB_mono {M M' : Nat} {s : Lab} (h : LabB M s) (hm : M ≤ M') : LabB M' s := by
  obtain ⟨h1, h2, h3⟩ := h
  exact ⟨by omega, by omega, by omega⟩
theorem LabB_takes (b : Bool) : ∀ (c M : Nat) (s : Lab), LabB M s → LabB (M + c) (takes b c s) := by
  intro c
  induction c with
  | zero => intro M s h; exact h
  | succ c ih => intro M s h; rw [takes]; exact LabB_mono (ih (M + 1) _ (LabB_take h b)) (by omega)
theorem LabB_labs {p : List Int} {n : Int} (hn : 0 ≤ n ∧ n ≤ 9) (h : ∀ j, 0 ≤ j → j < p.length → 0 ≤ rd p (j : Int) ∧ rd p (j : Int) ≤ 5) : ∀ i : Nat, i ≤ p.length → LabB (9 + 6 * i) (labs p n i) := by
  intro i
  induction i with
  | zero => intro _; exact ⟨by simp [labs], by simp only [labs]; omega, by simp only [labs]; omega⟩
  | succ i ih =>
    intro hi
    have h2 := h i (by omega) (by omega)
    rw [labs]
    exact LabB_mono (LabB_takes _ _ _ _ (LabB_take (ih (by omega)) _)) (by omega)
noncomputable def CombLF (p : List Int) : List Int × Bool := if tf (Legs p) = true then ((labs p (legSum p p.length) p.length).1, true) else ([], false)
theorem CombLF_yes {p : List Int} (h : Legs p) : CombLF p = ((labs p (legSum p p.length) p.length).1, true) := if_pos (tf_pos h)
theorem CombLF_no {p : List Int} (h : ¬ Legs p) : CombLF p = ([], false) := if_neg (by rw [tf_neg h]; decide)
theorem legSum_bnd {p : List Int} (h : Legs p) : 0 ≤ legSum p p.length ∧ legSum p p.length ≤ 9 := by
  have h1 := legSum_tot h.1.1.2 h.2 p.length (Nat.le_refl _)
  have h2 := legTot_bnd h.2 p.length (Nat.le_refl _)
  have h3 := h.1.2
  omega
theorem CombLF_len (p : List Int) (hn : p.length ≤ 1048576) : (CombLF p).1.length ≤ 1048576 := by
  by_cases h : Legs p
  · rw [CombLF_yes h]
    have h1 := (LabB_labs (legSum_bnd h) h.2 p.length (Nat.le_refl _)).1
    have h2 := h.1.1.2
    show (labs p _ _).1.length ≤ _
    omega
  · rw [CombLF_no h]; simp
theorem grComb_ev (p : List Int) (hl : p.length ≤ 5) (hb : ∀ j, 0 ≤ j → j < p.length → 0 ≤ rd p (j : Int) ∧ rd p (j : Int) ≤ 5) : Ev (fun k => spec_grComb.f k p) (comb p p.length).1 := by
  have hc := comb_length p hb
  unfold spec_grComb.f
  refine det_loop (L := fun k i (x : List Int × Int) => spec_grComb.l0 k x.1 x.2 p (p.length : Int) (i : Int)) (n := p.length) (fun i => comb p i) (fun i hi r hr => ?_) ?_ p.length 0 (by omega)
  · have := hc i (by omega)
    have hb := hb i (by omega) hi
    refine Ev.step (fun k => by rw [spec_grComb.l0]) ?_
    refine Ev.yes (by omega) (Ev.yes (by omega) (Ev.yes (by omega) (Ev.yes (by omega) ?_)))
    have e := sComb_l1 p ((comb p i).1.length : Int) (i : Int) (rd p (i : Int)).toNat ((comb p i).1 ++ [(comb p i).2]) r (by simp; omega)
    rw [wrS hi (by omega), show (((rd p (i : Int)).toNat : Nat) : Int) = rd p (i : Int) by omega] at e
    exact e hr
  · refine Ev.step (fun k => by rw [spec_grComb.l0]) ?_
    exact Ev.no (by omega) (Ev.now _)
theorem tmod_ev {i : Nat} (h : ev2 i = true) : Int.tmod (i : Int) 2 = 0 := by
  have : i % 2 = 0 := of_decide_eq_true h
  rw [Int.tmod_eq_emod_of_nonneg (by omega)]
  omega
theorem tmod_odd {i : Nat} (h : ev2 i = false) : ¬ Int.tmod (i : Int) 2 = 0 := by
  have : ¬ i % 2 = 0 := of_decide_eq_false h
  rw [Int.tmod_eq_emod_of_nonneg (by omega)]
  omega
theorem labs_l1 (p : List Int) (i : Nat) : ∀ (c M : Nat) (s : Lab) (r : List Int × Bool), LabB M s → M + c ≤ 1000 →
    Ev (fun k => spec_CombLabels.l0 k (takes (!ev2 i) c s).2.1 (takes (!ev2 i) c s).2.2 (takes (!ev2 i) c s).1 p (p.length : Int) (wrap64 ((i : Int) + 1))) r → Ev (fun k => spec_CombLabels.l1 k s.2.1 s.2.2 s.1 (i : Int) (c : Int) p (p.length : Int) (i : Int)) r := by
  intro c
  induction c with
  | zero =>
    intro M s r _ _ hr
    refine Ev.step (fun k => by rw [spec_CombLabels.l1]) ?_
    exact Ev.no (by omega) hr
  | succ c ih =>
    intro M s r hM hc hr
    have h0 := ih (M + 1) (takeB (!ev2 i) s) r (LabB_take hM _) (by omega) hr
    have h1 := hM
    obtain ⟨b1, b2, b3⟩ := h1
    refine Ev.step (fun k => by rw [spec_CombLabels.l1]) ?_
    refine Ev.yes (by omega) ?_
    rw [wr (show -9223372036854775808 ≤ ((c + 1 : Nat) : Int) - 1 by omega) (by omega), show ((c + 1 : Nat) : Int) - 1 = (c : Int) by omega, wr (show -9223372036854775808 ≤ s.2.2 - 1 by omega) (by omega), wr (show -9223372036854775808 ≤ s.2.1 + 1 by omega) (by omega)]
    cases he : ev2 i with
    | true =>
      rw [he] at h0
      exact Ev.yes (tmod_ev he) (Ev.yes (by omega) h0)
    | false =>
      rw [he] at h0
      exact Ev.no (tmod_odd he) (Ev.yes (by omega) h0)
theorem specCombL_ev (p : List Int) (hn : p.length ≤ 1048576) : Ev (fun k => spec_CombLabels.f k p) (CombLF p) := by
  unfold spec_CombLabels.f
  by_cases hl : Legs p
  · have h5 := hl.1.1
    have hs := legSum_bnd hl
    have hB := LabB_labs hs hl.2
    rw [CombLF_yes hl]
    refine Ev.bind (grLegs_ev p hn) ?_
    rw [tf_pos hl]
    refine Ev.yes rfl (Ev.bind (grComb_ev p h5.2 hl.2) ?_)
    have e := comb_tot hl.2 p.length (Nat.le_refl _)
    rw [show wrap64 (((comb p p.length).1.length : Int) - 1) = legSum p p.length - 1 by rw [e, ← legSum_tot h5.2 hl.2 p.length (Nat.le_refl _), wr (by omega) (by omega)]]
    generalize legSum p p.length = n at hs hB ⊢
    refine det_loop (L := fun k i (x : Lab) => spec_CombLabels.l0 k x.2.1 x.2.2 x.1 p (p.length : Int) (i : Int)) (n := p.length) (fun i => labs p n i) (fun i hi r hr => ?_) ?_ p.length 0 (by omega)
    · have hb := hl.2 i (by omega) hi
      have hM := hB i (by omega)
      have h0 := labs_l1 p i (rd p (i : Int)).toNat (9 + 6 * i + 1) (takeB (ev2 i) (labs p n i)) r (LabB_take hM _) (by omega)
      rw [wrS hi (by omega), show (((rd p (i : Int)).toNat : Nat) : Int) = rd p (i : Int) by omega] at h0
      have h1 := h0 hr
      obtain ⟨b1, b2, b3⟩ := hM
      refine Ev.step (fun k => by rw [spec_CombLabels.l0]) ?_
      refine Ev.yes (by omega) (Ev.yes (by omega) (Ev.yes (by omega) ?_))
      rw [wr (show -9223372036854775808 ≤ (labs p n i).2.1 + 1 by omega) (by omega), wr (show -9223372036854775808 ≤ (labs p n i).2.2 - 1 by omega) (by omega)]
      cases he : ev2 i with
      | true =>
        rw [he] at h1
        refine Ev.yes (tmod_ev he) (Ev.yes (by omega) ?_)
        exact Ev.step (fun k => by rw [spec_CombLabels.j1]; rfl) h1
      | false =>
        rw [he] at h1
        refine Ev.no (tmod_odd he) (Ev.yes (by omega) ?_)
        exact Ev.step (fun k => by rw [spec_CombLabels.j1]; rfl) h1
    · refine Ev.step (fun k => by rw [spec_CombLabels.l0]) ?_
      exact Ev.no (by omega) (Ev.now _)
  · rw [CombLF_no hl]
    refine Ev.bind (grLegs_ev p hn) ?_
    rw [tf_neg hl]
    exact Ev.no (by simp) (Ev.now _)
theorem specCombL_calls (A : Option Addr) (c : Nat) (l : List Int) (w : World) (hr : Rd w A l) (hc : l.length ≤ c) (hn : l.length ≤ 1048576) (hw : ∀ x ∈ l, W64 x) :
    Calls Try.prog 28 #[.slice A l.length c] w fun e w' => ∃ v, e = .returned (.tuple #[v, .bool (CombLF l).2]) ∧ Ow w' w.heap.size v (CombLF l).1 ∧ Below w.heap.size w w' := by
  obtain ⟨k, hk⟩ := specCombL_ev l hn
  exact spec_CombLabels.calls k A c l _ _ w hr hc (hk k (Nat.le_refl _))
theorem areLegs_calls (A : Option Addr) (c : Nat) (l : List Int) (w : World) (hr : Rd w A l) (hc : l.length ≤ c) (hn : l.length ≤ 1048576) :
    Calls Try.prog 56 #[.slice A l.length c] w fun e w' => e = .returned (.bool (tf (Legs l))) ∧ Drawn0 w w' := by
  obtain ⟨k, hk⟩ := areLegs_ev l hn
  exact impl_areLegs.calls k A c l _ w hr hc (hk k (Nat.le_refl _))
end Go.Proofs.Ytpabfibmpannoaa.Own.G
