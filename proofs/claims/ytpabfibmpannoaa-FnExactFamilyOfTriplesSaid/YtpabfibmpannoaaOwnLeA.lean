/- The least of eight images of dots in plain words: the reference's way and the program's way find the same; no condition. -/
import Derived.Test.YtpabfibmpannoaaOwnDotsD
import Derived.Test.YtpabfibmpannoaaOwnGen
namespace Go.Proofs.Ytpabfibmpannoaa.Own.G
open Go.RowKit Go.Proofs.YtpabfibmpannoaaW.PrintWords Go.Proofs.YtpabfibmpannoaaW.PrintLast Go.Proofs.YtpabfibmpannoaaW.PrintMore
set_option linter.unusedVariables false
/-- The order of the rows: the first number that differs decides. -/
def lexB : List Int → List Int → Bool
  | [], _ => false
  | _ :: _, [] => false
  | a :: a2, b :: b2 => if a = b then lexB a2 b2 else decide (a < b)
theorem lexB_irrefl (a : List Int) : lexB a a = false := by
  induction a with
  | nil => rfl
  | cons x a ih => rw [lexB, if_pos rfl, ih]
theorem lexB_trans : ∀ (a b c : List Int), lexB a b = true → lexB b c = true → lexB a c = true := by
  intro a
  induction a with
  | nil => intro b c h; cases h
  | cons x a ih =>
    intro b c h1 h2
    cases b with
    | nil => cases h1
    | cons y b =>
      cases c with
      | nil => cases h2
      | cons z c =>
        rw [lexB] at h1 h2 ⊢
        by_cases e1 : x = y
        · rw [if_pos e1] at h1
          by_cases e2 : y = z
          · rw [if_pos e2] at h2
            rw [if_pos (e1.trans e2)]
            exact ih _ _ h1 h2
          · rw [if_neg e2] at h2
            rw [if_neg (fun h => e2 (e1.symm.trans h)), e1]
            exact h2
        · rw [if_neg e1] at h1
          have h3 := of_decide_eq_true h1
          by_cases e2 : y = z
          · rw [if_neg (fun h => e1 (h.trans e2.symm)), ← e2]
            exact h1
          · rw [if_neg e2] at h2
            have h4 := of_decide_eq_true h2
            rw [if_neg (by omega)]
            exact decide_eq_true (by omega)
theorem lexB_total : ∀ (a b : List Int), a.length = b.length → lexB a b = false → lexB b a = false → a = b := by
  intro a
  induction a with
  | nil => intro b hl _ _; exact (List.eq_nil_of_length_eq_zero hl.symm).symm
  | cons x a ih =>
    intro b hl h1 h2
    cases b with
    | nil => simp at hl
    | cons y b =>
      rw [lexB] at h1 h2
      by_cases e : x = y
      · rw [if_pos e] at h1
        rw [if_pos e.symm] at h2
        rw [e, ih b (by simpa using hl) h1 h2]
      · rw [if_neg e] at h1
        rw [if_neg (Ne.symm e)] at h2
        have := of_decide_eq_false h1
        have := of_decide_eq_false h2
        omega
def pick (x b : List Int) : List Int := if lexB x b = true then x else b
def minL (L : List (List Int)) (b : List Int) : List Int := L.foldl (fun b x => pick x b) b
theorem minL_mem (L : List (List Int)) : ∀ b : List Int, minL L b = b ∨ minL L b ∈ L := by
  induction L with
  | nil => intro b; exact .inl rfl
  | cons y L ih =>
    intro b
    show minL L (pick y b) = b ∨ minL L (pick y b) ∈ y :: L
    rcases ih (pick y b) with h | h
    · unfold pick at h ⊢
      split at h
      · rename_i hy; rw [if_pos hy]; exact .inr (by rw [h]; simp)
      · rename_i hy; rw [if_neg hy]; exact .inl h
    · exact .inr (List.mem_cons_of_mem _ h)
theorem minL_le (n : Nat) (L : List (List Int)) : ∀ b : List Int, b.length = n → (∀ x ∈ L, x.length = n) → ∀ x, (x = b ∨ x ∈ L) → lexB x (minL L b) = false := by
  induction L with
  | nil => intro b _ _ x hx; rcases hx with h | h; subst h; exact lexB_irrefl _; cases h
  | cons y L ih =>
    intro b hb hL x hx
    have hy : y.length = n := hL y (by simp)
    have hp : (pick y b).length = n := by unfold pick; split; exact hy; exact hb
    have h1 := ih (pick y b) hp (fun x hx => hL x (List.mem_cons_of_mem _ hx))
    show lexB x (minL L (pick y b)) = false
    have h2 := h1 (pick y b) (.inl rfl)
    generalize minL L (pick y b) = m at h1 h2 ⊢
    have key : ∀ z : List Int, z.length = n → lexB z (pick y b) = false → lexB z m = false := by
      intro z hz hzp
      cases hzm : lexB z m with
      | false => rfl
      | true =>
        cases hpz : lexB (pick y b) z with
        | false =>
          have := lexB_total _ _ (hz.trans hp.symm) hzp hpz
          rw [this, h2] at hzm
          cases hzm
        | true =>
          have := lexB_trans _ _ _ hpz hzm
          rw [h2] at this
          cases this
    rcases hx with h | h
    · subst h
      apply key _ hb
      unfold pick
      split
      · rename_i h3
        cases h4 : lexB x y with
        | false => rfl
        | true => have := lexB_trans _ _ _ h4 h3; rw [lexB_irrefl] at this; cases this
      · exact lexB_irrefl _
    · rcases List.mem_cons.mp h with h | h
      · subst h
        apply key _ hy
        unfold pick
        split
        · exact lexB_irrefl _
        · rename_i h3; simpa using h3
      · exact h1 x (.inr h)
theorem minL_same {n : Nat} {L L' : List (List Int)} {b : List Int} (hb : b.length = n) (hL : ∀ x ∈ L, x.length = n) (hL' : ∀ x ∈ L', x.length = n) (h1 : ∀ x ∈ L, x = b ∨ x ∈ L') (h2 : ∀ x ∈ L', x = b ∨ x ∈ L) : minL L b = minL L' b := by
  have hm : minL L b = b ∨ minL L b ∈ L' := by rcases minL_mem L b with h | h; exact .inl h; exact h1 _ h
  have hm' : minL L' b = b ∨ minL L' b ∈ L := by rcases minL_mem L' b with h | h; exact .inl h; exact h2 _ h
  have hl : (minL L b).length = n := by rcases hm with h | h; rw [h]; exact hb; exact hL' _ h
  have hl' : (minL L' b).length = n := by rcases hm' with h | h; rw [h]; exact hb; exact hL _ h
  exact lexB_total _ _ (hl.trans hl'.symm) (minL_le n L' b hb hL' _ hm) (minL_le n L b hb hL _ hm')
theorem row_ext {a b : List Int} (hl : a.length = b.length) (h : ∀ j : Nat, j < a.length → rd a (j : Int) = rd b (j : Int)) : a = b := by
  apply List.ext_getElem hl
  intro j h1 h2
  have := h j h1
  rwa [rd_get h1, rd_get h2] at this
theorem Dots_inj {p : List Int} (h : Dots p) {i j : Nat} (hij : i < j) (hj : j < p.length) : rd p (i : Int) ≠ rd p (j : Int) := by
  intro e
  apply (h.2 j hj).2.2
  rw [← e, rd_get (by omega)]
  exact List.mem_take_iff_getElem.mpr ⟨i, by omega, rfl⟩
theorem Dots_of {p : List Int} (h1 : 1 ≤ p.length ∧ p.length ≤ 12) (h2 : ∀ j : Nat, j < p.length → 0 ≤ rd p (j : Int) ∧ rd p (j : Int) < (p.length : Int)) (h3 : ∀ i j : Nat, i < j → j < p.length → rd p (i : Int) ≠ rd p (j : Int)) : Dots p := by
  refine ⟨h1, fun j hj => ⟨(h2 j hj).1, (h2 j hj).2, fun hm => ?_⟩⟩
  obtain ⟨i, hi, e⟩ := List.mem_take_iff_getElem.mp hm
  refine h3 i j (by omega) hj ?_
  rw [rd_get (by omega), ← e]
theorem nodup_bound : ∀ (n : Nat) (l : List Int), l.Nodup → (∀ x ∈ l, 0 ≤ x ∧ x < (n : Int)) → l.length ≤ n := by
  intro n
  induction n with
  | zero =>
    intro l _ h
    cases l with
    | nil => exact Nat.le_refl _
    | cons x l => have := h x (by simp); omega
  | succ n ih =>
    intro l hn h
    by_cases hm : (n : Int) ∈ l
    · have h1 := ih (l.erase (n : Int)) (hn.erase _) (fun x hx => by
        have h2 := (List.Nodup.mem_erase_iff hn).mp hx
        have := h x h2.2
        have := h2.1
        omega)
      rw [List.length_erase_of_mem hm] at h1
      omega
    · have := ih l hn (fun x hx => by
        have h1 := h x hx
        have : x ≠ (n : Int) := fun e => hm (e ▸ hx)
        omega)
      omega
theorem Dots_nodup {p : List Int} (h : Dots p) : p.Nodup := by
  rw [List.Nodup, List.pairwise_iff_getElem]
  intro i j hi hj hij e
  apply Dots_inj h hij hj
  rw [rd_get hi, rd_get hj, e]
theorem Dots_onto {p : List Int} (h : Dots p) {y : Nat} (hy : y < p.length) : ∃ x : Nat, x < p.length ∧ rd p (x : Int) = (y : Int) := by
  have hm : (y : Int) ∈ p := by
    apply Classical.byContradiction
    intro hn
    have := nodup_bound p.length ((y : Int) :: p) (List.nodup_cons.mpr ⟨hn, Dots_nodup h⟩) (fun x hx => by
      rcases List.mem_cons.mp hx with e | e
      · subst e; omega
      · obtain ⟨i, hi, rfl⟩ := mem_rd e
        have := h.2 i hi
        exact ⟨this.1, this.2.1⟩)
    simp at this
    omega
  obtain ⟨i, hi, e⟩ := mem_rd hm
  exact ⟨i, hi, e⟩
theorem turns_at {q : List Int} (h : Dots q) : ∀ i : Nat, i ≤ q.length → ∀ x : Nat, x < i → rd (turns q i) (rd q (x : Int)) = (q.length : Int) - 1 - (x : Int) := by
  intro i
  induction i with
  | zero => intro _ x hx; omega
  | succ i ih =>
    intro hi x hx
    have hr := h.2 i (by omega)
    have hrx := h.2 x (by omega)
    obtain ⟨k, hk⟩ : ∃ k : Nat, rd q (x : Int) = (k : Int) := ⟨(rd q (x : Int)).toNat, by have := hrx.1; omega⟩
    have hkn : k < q.length := by have := hrx.2.1; omega
    rw [turns, hk, rd_get (by rw [List.length_set, turns_length]; exact hkn), List.getElem_set]
    split
    · rename_i e
      have hxi : x = i := by
        rcases Nat.lt_or_ge x i with h1 | h1
        · exact absurd (show rd q (x : Int) = rd q (i : Int) by have := hr.1; omega) (Dots_inj h h1 (by omega))
        · omega
      rw [hxi]
    · rename_i e
      have hxi : x < i := by
        rcases Nat.lt_or_ge x i with h1 | h1
        · exact h1
        · have : x = i := by omega
          subst this
          rw [hk] at e
          exact absurd (Int.toNat_natCast k) e
      have := ih (by omega) x hxi
      rw [hk, rd_get (by rw [turns_length]; exact hkn)] at this
      exact this
theorem turn_at {q : List Int} (h : Dots q) {x : Nat} (hx : x < q.length) : rd (turnOf q) (rd q (x : Int)) = (q.length : Int) - 1 - (x : Int) := turns_at h q.length (Nat.le_refl _) x hx
theorem Dots_turn {q : List Int} (h : Dots q) : Dots (turnOf q) := by
  have hl := turnOf_length q
  refine Dots_of (by rw [hl]; exact h.1) (fun j hj => ?_) (fun i j hij hj => ?_)
  · rw [hl] at hj ⊢
    obtain ⟨x, hx, e⟩ := Dots_onto h hj
    rw [← e, turn_at h hx]
    omega
  · rw [hl] at hj
    obtain ⟨x, hx, e⟩ := Dots_onto h hj
    obtain ⟨x', hx', e'⟩ := Dots_onto h (show i < q.length by omega)
    rw [← e, ← e', turn_at h hx, turn_at h hx']
    intro h2
    have : x = x' := by omega
    subst this
    omega
theorem rd_reverse {q : List Int} {z : Nat} (hz : z < q.length) : rd q.reverse (z : Int) = rd q ((q.length - 1 - z : Nat) : Int) := by
  rw [rd_get (by rw [List.length_reverse]; exact hz), rd_get (by omega), List.getElem_reverse]
theorem Dots_reverse {q : List Int} (h : Dots q) : Dots q.reverse := by
  have hl : q.reverse.length = q.length := List.length_reverse
  refine Dots_of (by rw [hl]; exact h.1) (fun j hj => ?_) (fun i j hij hj => ?_)
  · rw [hl] at hj ⊢
    rw [rd_reverse hj]
    have := h.2 (q.length - 1 - j) (by omega)
    exact ⟨this.1, this.2.1⟩
  · rw [hl] at hj
    rw [rd_reverse hj, rd_reverse (show i < q.length by omega)]
    exact fun e => Dots_inj h (show q.length - 1 - j < q.length - 1 - i by omega) (by omega) e.symm
/-- A half turn. -/
theorem turn2_at {q : List Int} (h : Dots q) {z : Nat} (hz : z < q.length) : rd (turnOf (turnOf q)) (z : Int) = (q.length : Int) - 1 - rd q ((q.length - 1 - z : Nat) : Int) := by
  have hd := Dots_turn h
  have hl := turnOf_length q
  have h1 := turn_at h (show q.length - 1 - z < q.length by omega)
  have hr := h.2 (q.length - 1 - z) (by omega)
  obtain ⟨y, hy⟩ : ∃ y : Nat, rd q ((q.length - 1 - z : Nat) : Int) = (y : Int) := ⟨(rd q ((q.length - 1 - z : Nat) : Int)).toNat, by have := hr.1; omega⟩
  have hyn : y < (turnOf q).length := by rw [hl]; have := hr.2.1; omega
  have h2 := turn_at hd hyn
  rw [hy] at h1 ⊢
  rw [h1, hl, show (q.length : Int) - 1 - ((q.length - 1 - z : Nat) : Int) = (z : Int) by omega] at h2
  exact h2
theorem turn4 {q : List Int} (h : Dots q) : turnOf (turnOf (turnOf (turnOf q))) = q := by
  have h2 := Dots_turn (Dots_turn h)
  have e2 : (turnOf (turnOf q)).length = q.length := by rw [turnOf_length, turnOf_length]
  apply row_ext (by simp only [turnOf_length])
  intro z hz
  simp only [turnOf_length] at hz
  rw [turn2_at h2 (by rw [e2]; exact hz), e2, turn2_at h (by omega)]
  rw [show q.length - 1 - (q.length - 1 - z) = z by omega]
  omega
/-- Turned and mirrored is mirrored and turned three times. -/
theorem turn_back {q : List Int} (h : Dots q) : (turnOf q).reverse = turnOf (turnOf (turnOf q.reverse)) := by
  have hr := Dots_reverse h
  have hlr : q.reverse.length = q.length := List.length_reverse
  have hlt : (turnOf q.reverse).length = q.length := by rw [turnOf_length, hlr]
  apply row_ext (by simp only [turnOf_length, List.length_reverse])
  intro z hz
  simp only [turnOf_length, List.length_reverse] at hz
  rw [turn2_at (Dots_turn hr) (by rw [hlt]; exact hz), hlt, rd_reverse (by rw [turnOf_length]; exact hz), turnOf_length]
  obtain ⟨x, hx, e⟩ := Dots_onto h (show q.length - 1 - z < q.length by omega)
  have h1 := turn_at h hx
  have h2 := turn_at hr (show q.length - 1 - x < q.reverse.length by omega)
  rw [rd_reverse (by omega), show q.length - 1 - (q.length - 1 - x) = x by omega, hlr] at h2
  rw [← e, h1, h2]
  omega
/-- The reference's way: best of q and its turns. -/
def leS : Nat → List Int → List Int → List Int
  | 0, _, b => b
  | g + 1, q, b => leS g (turnOf q) (pick q b)
/-- The program's way. -/
def leI : Nat → List Int → List Int → List Int
  | 0, _, b => b
  | g + 1, q, b => leI g (turnOf q) (pick (turnOf q).reverse (pick (turnOf q) b))
def leastS (p : List Int) : List Int := leS 4 p.reverse (leS 4 p p)
def leastI (p : List Int) : List Int := leI 4 p p
theorem least_eq {p : List Int} (h : Dots p) : leastS p = leastI p := by
  have hr := Dots_reverse h
  have h1 := Dots_turn h
  have h2 := Dots_turn h1
  have h3 := Dots_turn h2
  have e1 := turn_back h
  have e2 := turn_back h1
  have e3 := turn_back h2
  have e4 := turn4 h
  have f4 := turn4 hr
  rw [e1, f4] at e2
  have hS : leastS p = minL [p, turnOf p, turnOf (turnOf p), turnOf (turnOf (turnOf p)), p.reverse, turnOf p.reverse, turnOf (turnOf p.reverse), turnOf (turnOf (turnOf p.reverse))] p := rfl
  have hI : leastI p = minL [turnOf p, (turnOf p).reverse, turnOf (turnOf p), (turnOf (turnOf p)).reverse, turnOf (turnOf (turnOf p)), (turnOf (turnOf (turnOf p))).reverse, turnOf (turnOf (turnOf (turnOf p))), (turnOf (turnOf (turnOf (turnOf p)))).reverse] p := rfl
  rw [hS, hI]
  rw [e2, f4] at e3
  have g1 := turnOf_length p
  have g2 := turnOf_length (turnOf p)
  have g3 := turnOf_length (turnOf (turnOf p))
  have k0 : p.reverse.length = p.length := List.length_reverse
  have k1 := turnOf_length p.reverse
  have k2 := turnOf_length (turnOf p.reverse)
  have k3 := turnOf_length (turnOf (turnOf p.reverse))
  rw [e1, e2, e3, e4]
  clear e1 e2 e3 e4 f4 hS hI hr h1 h2 h3 h
  generalize turnOf (turnOf (turnOf p)) = a3 at *
  generalize turnOf (turnOf p) = a2 at *
  generalize turnOf p = a1 at *
  generalize turnOf (turnOf (turnOf p.reverse)) = b3 at *
  generalize turnOf (turnOf p.reverse) = b2 at *
  generalize turnOf p.reverse = b1 at *
  generalize p.reverse = b0 at *
  refine minL_same (n := p.length) rfl ?_ ?_ ?_ ?_
  · intro x hx
    simp only [List.mem_cons, List.not_mem_nil, or_false] at hx
    rcases hx with h | h | h | h | h | h | h | h <;> subst h <;> omega
  · intro x hx
    simp only [List.mem_cons, List.not_mem_nil, or_false] at hx
    rcases hx with h | h | h | h | h | h | h | h <;> subst h <;> omega
  · intro x hx
    simp only [List.mem_cons, List.not_mem_nil, or_false] at hx ⊢
    rcases hx with h | h | h | h | h | h | h | h <;> simp [h]
  · intro x hx
    simp only [List.mem_cons, List.not_mem_nil, or_false] at hx ⊢
    rcases hx with h | h | h | h | h | h | h | h <;> simp [h]
end Go.Proofs.Ytpabfibmpannoaa.Own.G
