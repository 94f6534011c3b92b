/- Circle sets moved and multiplied: what the reference's ciSet, ciMove, ciTimes and the program's image return; lists of at most 1048576 numbers. -/
import Derived.Test.YtfbbbefhdmimhaaOwnCircA
import Derived.Test.YtfbbbefhdmimhaaOwnLabelD
import Derived.Test.YtfbbbefhdmimhaaOwnSort
namespace Go.Proofs.Ytfbbbefhdmimhaa.Own.G
open Go.RowKit Go.Proofs.YtfbbbefhdmimhaaW.PrintWords Go.Proofs.YtfbbbefhdmimhaaW.PrintLast Go.Proofs.YtfbbbefhdmimhaaW.PrintMore
set_option linter.unusedVariables false
def Hits (v : Int) (M : List Int) (x : Nat) : Prop := ∃ j : Nat, j < M.length ∧ Int.tmod (rd M (j : Int)) v = (x : Int)
noncomputable def cset (v : Int) (M : List Int) : Nat → List Int
  | 0 => []
  | i + 1 => if tf (Hits v M i) = true then cset v M i ++ [(i : Int)] else cset v M i
theorem cset_yes {v : Int} {M : List Int} {i : Nat} (h : Hits v M i) : cset v M (i + 1) = cset v M i ++ [(i : Int)] := if_pos (tf_pos h)
theorem cset_no {v : Int} {M : List Int} {i : Nat} (h : ¬ Hits v M i) : cset v M (i + 1) = cset v M i := if_neg (by rw [tf_neg h]; decide)
theorem cset_len (v : Int) (M : List Int) (i : Nat) : (cset v M i).length ≤ i := by
  induction i with
  | zero => simp [cset]
  | succ i ih =>
    by_cases h : Hits v M i
    · rw [cset_yes h, List.length_append, List.length_singleton]; omega
    · rw [cset_no h]; omega
theorem cset_mem (v : Int) (M : List Int) (i : Nat) (x : Int) : x ∈ cset v M i ↔ 0 ≤ x ∧ x < (i : Int) ∧ Hits v M x.toNat := by
  induction i with
  | zero => simp [cset]; omega
  | succ i ih =>
    by_cases h : Hits v M i
    · rw [cset_yes h, List.mem_append, ih, List.mem_singleton]
      constructor
      · rintro (h1 | rfl)
        · exact ⟨h1.1, by omega, h1.2.2⟩
        · exact ⟨by omega, by omega, by rw [Int.toNat_natCast]; exact h⟩
      · rintro ⟨h1, h2, h3⟩
        by_cases he : x = (i : Int)
        · exact .inr he
        · exact .inl ⟨h1, by omega, h3⟩
    · rw [cset_no h, ih]
      constructor
      · rintro ⟨h1, h2, h3⟩
        exact ⟨h1, by omega, h3⟩
      · rintro ⟨h1, h2, h3⟩
        refine ⟨h1, ?_, h3⟩
        by_cases he : x = (i : Int)
        · subst he
          rw [Int.toNat_natCast] at h3
          exact absurd h3 h
        · omega
theorem cset_rises (v : Int) (M : List Int) (i : Nat) : (cset v M i).Pairwise (· < ·) := by
  induction i with
  | zero => simp [cset]
  | succ i ih =>
    by_cases h : Hits v M i
    · rw [cset_yes h, List.pairwise_append]
      refine ⟨ih, by simp, fun x hx y hy => ?_⟩
      rw [List.mem_singleton] at hy
      have := (cset_mem v M i x).mp hx
      omega
    · rw [cset_no h]; exact ih
theorem strict_ext : ∀ {a b : List Int}, a.Pairwise (· < ·) → b.Pairwise (· < ·) → (∀ x, x ∈ a ↔ x ∈ b) → a = b
  | [], [], _, _, _ => rfl
  | [], y :: b, _, _, h => absurd ((h y).mpr (by simp)) (by simp)
  | x :: a, [], _, _, h => absurd ((h x).mp (by simp)) (by simp)
  | x :: a, y :: b, ha, hb, h => by
    rw [List.pairwise_cons] at ha hb
    have hx := (h x).mp (by simp)
    have hy := (h y).mpr (by simp)
    have hxy : x = y := by
      rcases List.mem_cons.mp hx with h1 | h1
      · exact h1
      · rcases List.mem_cons.mp hy with h2 | h2
        · exact h2.symm
        · have := hb.1 x h1
          have := ha.1 y h2
          omega
    subst hxy
    rw [strict_ext ha.2 hb.2 (fun z => ?_)]
    constructor
    · intro hz
      rcases List.mem_cons.mp ((h z).mp (List.mem_cons_of_mem _ hz)) with h1 | h1
      · have := ha.1 z hz; omega
      · exact h1
    · intro hz
      rcases List.mem_cons.mp ((h z).mpr (List.mem_cons_of_mem _ hz)) with h1 | h1
      · have := hb.1 z hz; omega
      · exact h1
theorem short_of : ∀ {a b : List Int}, a.Nodup → (∀ x ∈ a, x ∈ b) → a.length ≤ b.length
  | [], b, _, _ => by simp
  | x :: a, b, ha, h => by
    rw [List.nodup_cons] at ha
    have hx := h x (by simp)
    have h2 := short_of (a := a) (b := b.erase x) ha.2 (fun z hz => by
      have hne : z ≠ x := fun e => ha.1 (e ▸ hz)
      exact (List.mem_erase_of_ne hne).mpr (h z (List.mem_cons_of_mem _ hz)))
    rw [List.length_erase_of_mem hx] at h2
    have : 0 < b.length := List.length_pos_of_mem hx
    rw [List.length_cons]
    omega
theorem less_of_twice : ∀ {I : List Int}, ¬ I.Nodup → ∃ J : List Int, (∀ x, x ∈ I → x ∈ J) ∧ J.length + 1 = I.length
  | [], h => absurd List.nodup_nil h
  | x :: I, h => by
    by_cases hx : x ∈ I
    · exact ⟨I, fun z hz => by
        rcases List.mem_cons.mp hz with rfl | h1
        · exact hx
        · exact h1, by simp⟩
    · obtain ⟨J, h1, h2⟩ := less_of_twice (I := I) (fun hn => h (List.nodup_cons.mpr ⟨hx, hn⟩))
      refine ⟨x :: J, fun z hz => ?_, by simp; omega⟩
      rcases List.mem_cons.mp hz with rfl | h3
      · simp
      · exact List.mem_cons_of_mem _ (h1 z h3)
/-- The remainders of a list. -/
def mods (v : Int) (M : List Int) : List Int := M.map fun x => Int.tmod x v
theorem mods_mem {v : Int} {M : List Int} (hv : 0 < v) (hM : ∀ x ∈ M, 0 ≤ x) (x : Int) : x ∈ mods v M ↔ x ∈ cset v M v.toNat := by
  rw [cset_mem]
  unfold mods Hits
  rw [List.mem_map]
  constructor
  · rintro ⟨m, hm, rfl⟩
    have h0 := Int.tmod_nonneg v (hM m hm)
    have h1 := Int.tmod_lt_of_pos m hv
    refine ⟨h0, by omega, ?_⟩
    obtain ⟨j, hj, rfl⟩ := mem_rd hm
    exact ⟨j, hj, by omega⟩
  · rintro ⟨h0, h1, j, hj, he⟩
    exact ⟨rd M (j : Int), rd_mem hj, by rw [he]; omega⟩
theorem strict_of {l : List Int} (h : l.Pairwise (· ≤ ·)) (hn : l.Nodup) : l.Pairwise (· < ·) := by
  have := List.Pairwise.and h hn
  exact this.imp (fun h => by omega)
theorem mods_sorted {v : Int} {M : List Int} (hv : 0 < v) (hM : ∀ x ∈ M, 0 ≤ x) (hn : (mods v M).Nodup) : sorted (mods v M) = cset v M v.toNat :=
  strict_ext (strict_of (sorted_le _) ((sorted_perm _).nodup_iff.mpr hn)) (cset_rises _ _ _) (fun x => by rw [(sorted_perm _).mem_iff, mods_mem hv hM])
theorem mods_twice {v : Int} {M : List Int} (hv : 0 < v) (hM : ∀ x ∈ M, 0 ≤ x) (hn : ¬ (mods v M).Nodup) : (cset v M v.toNat).length < M.length := by
  obtain ⟨J, h1, h2⟩ := less_of_twice hn
  have hc : (cset v M v.toNat).Nodup := (cset_rises v M v.toNat).imp (fun h => Int.ne_of_lt h)
  have := short_of hc (fun x hx => h1 x ((mods_mem hv hM x).mpr hx))
  have hl : (mods v M).length = M.length := by simp [mods]
  omega
theorem Unl_nodup (l : List Int) : Unl l ↔ l.Nodup := by
  unfold Unl List.Nodup
  rw [List.pairwise_iff_getElem]
  constructor
  · intro h i j hi hj hij he
    refine h j hj ?_
    rw [rd_get hj, ← he, List.mem_take_iff_getElem]
    exact ⟨i, by omega, rfl⟩
  · intro h i hi hm
    rw [rd_get hi, List.mem_take_iff_getElem] at hm
    obtain ⟨j, hj, he⟩ := hm
    exact h j i (by omega) hi (by omega) he
theorem Ups_pairwise {l : List Int} (h : Ups l) : l.Pairwise (· < ·) := by
  have hlt : ∀ (i j : Nat), i < j → j < l.length → rd l (i : Int) < rd l (j : Int) := by
    intro i j hij hj
    induction j with
    | zero => omega
    | succ j ih =>
      have h1 := h j hj
      rcases Nat.lt_or_ge i j with h2 | h2
      · have := ih h2 (by omega); omega
      · rw [show i = j by omega]; exact h1
  rw [List.pairwise_iff_getElem]
  intro i j hi hj hij
  have := hlt i j hij hj
  rwa [rd_get hi, rd_get hj] at this
def movedL (l : List Int) (k : Int) (i : Nat) : List Int := (List.range i).map fun j : Nat => rd l (j : Int) + k
def timesL (l : List Int) (k : Int) (i : Nat) : List Int := (List.range i).map fun j : Nat => rd l (j : Int) * k
def imageL (v : Int) (l : List Int) (k m : Int) (i : Nat) : List Int := (List.range i).map fun j : Nat => Int.tmod (rd l (j : Int) * k + m) v
theorem movedL_length (l : List Int) (k : Int) (i : Nat) : (movedL l k i).length = i := by simp [movedL]
theorem movedL_succ (l : List Int) (k : Int) (i : Nat) : movedL l k (i + 1) = movedL l k i ++ [rd l (i : Int) + k] := by
  unfold movedL
  rw [List.range_succ, List.map_append]
  rfl
theorem timesL_length (l : List Int) (k : Int) (i : Nat) : (timesL l k i).length = i := by simp [timesL]
theorem timesL_succ (l : List Int) (k : Int) (i : Nat) : timesL l k (i + 1) = timesL l k i ++ [rd l (i : Int) * k] := by
  unfold timesL
  rw [List.range_succ, List.map_append]
  rfl
theorem imageL_length (v : Int) (l : List Int) (k m : Int) (i : Nat) : (imageL v l k m i).length = i := by simp [imageL]
theorem imageL_succ (v : Int) (l : List Int) (k m : Int) (i : Nat) : imageL v l k m (i + 1) = imageL v l k m i ++ [Int.tmod (rd l (i : Int) * k + m) v] := by
  unfold imageL
  rw [List.range_succ, List.map_append]
  rfl
theorem image_move (v : Int) (l : List Int) (k : Int) (i : Nat) : imageL v l 1 k i = mods v (movedL l k i) := by
  simp [imageL, mods, movedL]
theorem image_times (v : Int) (l : List Int) (k : Int) (i : Nat) : imageL v l k 0 i = mods v (timesL l k i) := by
  simp [imageL, mods, timesL]
theorem move_nodup {v : Int} {l : List Int} {k : Int} (h : Circ v l) (h0 : 0 ≤ k) (h1 : k < v) : (mods v (movedL l k l.length)).Nodup := by
  have hu := Ups_pairwise h.2.2
  have hmod : ∀ x, 0 ≤ x → x < v → Int.tmod (x + k) v = if x + k < v then x + k else x + k - v := by
    intro x hx hxv
    rw [Int.tmod_eq_emod_of_nonneg (by omega)]
    split
    · exact Int.emod_eq_of_lt (by omega) (by assumption)
    · have := Int.add_emod_right (x + k - v) v
      rw [show x + k - v + v = x + k by omega] at this
      rw [this]
      exact Int.emod_eq_of_lt (by omega) (by omega)
  unfold List.Nodup
  rw [List.pairwise_iff_getElem] at hu ⊢
  intro i j hi hj hij
  have hil : i < l.length := by simpa [mods, movedL] using hi
  have hjl : j < l.length := by simpa [mods, movedL] using hj
  have := hu i j hil hjl hij
  have hA := h.2.1 i hil
  have hB := h.2.1 j hjl
  rw [rd_get hil] at hA
  rw [rd_get hjl] at hB
  have hgi : (mods v (movedL l k l.length))[i] = Int.tmod (l[i] + k) v := by simp [mods, movedL, rd_get hil]
  have hgj : (mods v (movedL l k l.length))[j] = Int.tmod (l[j] + k) v := by simp [mods, movedL, rd_get hjl]
  rw [hgi, hgj, hmod _ (by omega) (by omega), hmod _ (by omega) (by omega)]
  split <;> split <;> omega
end Go.Proofs.Ytfbbbefhdmimhaa.Own.G
