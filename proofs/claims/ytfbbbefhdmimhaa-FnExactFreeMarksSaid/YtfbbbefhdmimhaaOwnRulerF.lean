/- A mark more on a ruler: what the reference's and the program's AddMark return; lists of at most 1048576 numbers. -/
import Derived.Test.YtfbbbefhdmimhaaOwnRulerA
import Derived.Test.YtfbbbefhdmimhaaOwnOwn1
import Derived.Test.YtfbbbefhdmimhaaOwnSort
namespace Go.Proofs.Ytfbbbefhdmimhaa.Own.G
open Go.RowKit Go.Proofs.YtfbbbefhdmimhaaW.PrintWords Go.Proofs.YtfbbbefhdmimhaaW.PrintLast Go.Proofs.YtfbbbefhdmimhaaW.PrintMore
set_option linter.unusedVariables false
theorem drop_nat (A : Option Addr) (c : Nat) (l : List Int) (k : Nat) (hp : k ≤ l.length) (hc : l.length ≤ c) :
    ∃ A' : Option Addr, (∀ W : World, Sem.run Try.prog (Instr.slice 22 (.slice A l.length c) (some (.int .i64 (k : Int))) none none) W = .ok (.slice A' (l.drop k).length (c - k)) W) ∧ ∀ w, Rd w A l → Rd w A' (l.drop k) := by
  obtain ⟨i0, hi0, _, hsz, _⟩ := info_parts infoInt
  obtain ⟨A', h1, h2, _⟩ := print_drop_of (P := Try.prog) (Value.int .i64) 0 22 3 .i64 Try.underlying22 hi0 hsz A c l (k : Int) (by omega) (by omega) hc
  refine ⟨A', fun W => ?_, fun w h => ?_⟩
  · have := h1 W
    rwa [Int.toNat_natCast] at this
  · have := Kd.C_of_reads (h1 := fun _ => rfl) (h2 w (Kd.reads_of_C h))
    rwa [Int.toNat_natCast] at this
/-- Where a number would stand in a rising list. -/
def place (a : Int) : List Int → Nat
  | [] => 0
  | x :: xs => if a ≤ x then 0 else place a xs + 1
theorem place_eq (a : Int) (l : List Int) (k : Nat) (hk : k ≤ l.length) (h1 : ∀ j : Nat, j < k → rd l (j : Int) < a) (h2 : k < l.length → a ≤ rd l (k : Int)) : place a l = k := by
  induction l generalizing k with
  | nil => simp at hk; subst hk; rfl
  | cons x xs ih =>
    cases k with
    | zero =>
      have h0 : a ≤ x := h2 (by simp)
      rw [place, if_pos h0]
    | succ k =>
      have hx : ¬ a ≤ x := by have := h1 0 (by omega); have e : rd (x :: xs) ((0 : Nat) : Int) = x := rfl; omega
      rw [place, if_neg hx, ih k (by simpa using hk)]
      · intro j hj
        have := h1 (j + 1) (by omega)
        rw [rd_get (by simp at hk; simp; omega)] at this
        rw [rd_get (by simp at hk; omega)]
        simpa using this
      · intro hj
        have := h2 (by simp; omega)
        rw [rd_get (by simp; omega)] at this
        rw [rd_get hj]
        simpa using this
theorem place_le (a : Int) (l : List Int) : place a l ≤ l.length := by
  induction l with
  | nil => simp [place]
  | cons x xs ih =>
    rw [place]
    split
    · simp
    · simp; omega
theorem place_lt (a : Int) (l : List Int) : ∀ j : Nat, j < place a l → rd l (j : Int) < a := by
  induction l with
  | nil => intro j hj; simp [place] at hj
  | cons x xs ih =>
    intro j hj
    rw [place] at hj
    split at hj
    · omega
    · rename_i hx
      cases j with
      | zero => have e : rd (x :: xs) ((0 : Nat) : Int) = x := rfl; omega
      | succ j =>
        have h1 := ih j (by omega)
        have h3 := place_le a xs
        rw [rd_get (by omega)] at h1
        rw [rd_get (by simp; omega)]
        simpa using h1
theorem place_ge (a : Int) (l : List Int) (h : place a l < l.length) : a ≤ rd l (place a l : Int) := by
  induction l with
  | nil => simp at h
  | cons x xs ih =>
    rw [place] at h ⊢
    split at h
    · rename_i hx
      rw [if_pos hx]
      exact hx
    · rename_i hx
      rw [if_neg hx]
      have h1 := ih (by simpa using h)
      rw [rd_get (by simpa using h)] at h1
      rw [rd_get (by simpa using h)]
      simpa using h1
def insd (l : List Int) (a : Int) : List Int := l.take (place a l) ++ [a] ++ l.drop (place a l)
theorem insd_length (l : List Int) (a : Int) : (insd l a).length = l.length + 1 := by
  have := place_le a l
  simp [insd]
  omega
theorem Rises_pairwise {l : List Int} (h : Rises l) : l.Pairwise (· < ·) := by
  rw [List.pairwise_iff_getElem]
  intro i j hi hj hij
  have := Rises_lt h hij hj
  rwa [rd_get hi, rd_get hj] at this
theorem pairwise_Rises {l : List Int} (h : l.Pairwise (· < ·)) : Rises l := by
  intro i hi
  rw [List.pairwise_iff_getElem] at h
  have := h i (i + 1) (by omega) hi (by omega)
  rwa [rd_get (by omega), rd_get hi]
theorem insd_perm (l : List Int) (a : Int) : (insd l a).Perm (l ++ [a]) := by
  have h : (l.take (place a l) ++ [a] ++ l.drop (place a l)).Perm (l.take (place a l) ++ l.drop (place a l) ++ [a]) := by
    rw [List.append_assoc, List.append_assoc]
    exact List.Perm.append_left _ List.perm_append_comm
  rw [List.take_append_drop] at h
  exact h
theorem insd_sorted {l : List Int} {a : Int} (h : Rises l) (ha : a ∉ l) : (insd l a).Pairwise (· ≤ ·) := by
  have hp := Rises_pairwise h
  unfold insd
  rw [List.append_assoc, List.pairwise_append]
  refine ⟨(hp.sublist (List.take_sublist _ _)).imp (fun h => Int.le_of_lt h), ?_, ?_⟩
  · rw [List.singleton_append, List.pairwise_cons]
    refine ⟨fun x hx => ?_, (hp.sublist (List.drop_sublist _ _)).imp (fun h => Int.le_of_lt h)⟩
    obtain ⟨i, hi, rfl⟩ := List.mem_iff_getElem.mp hx
    rw [List.length_drop] at hi
    have h1 := place_ge a l (by omega)
    have h2 := Rises_le h (show place a l ≤ place a l + i by omega) (by omega)
    rw [rd_get (show place a l + i < l.length by omega)] at h2
    rw [List.getElem_drop]
    omega
  · intro x hx y hy
    obtain ⟨i, hi, rfl⟩ := List.mem_iff_getElem.mp hx
    rw [List.length_take] at hi
    have h1 := place_lt a l i (by omega)
    rw [List.getElem_take]
    rw [rd_get (by omega)] at h1
    rw [List.singleton_append] at hy
    rcases List.mem_cons.mp hy with rfl | hy
    · omega
    · obtain ⟨j, hj, rfl⟩ := List.mem_iff_getElem.mp hy
      rw [List.length_drop] at hj
      have h2 := Rises_lt h (show i < place a l + j by omega) (by omega)
      rw [rd_get (by omega), rd_get (by omega)] at h2
      rw [List.getElem_drop]
      omega
theorem sorted_insd {l : List Int} {a : Int} (h : Rises l) (ha : a ∉ l) : sorted (l ++ [a]) = insd l a := sorted_eq (insd_perm l a) (insd_sorted h ha)
theorem insd_twice {l : List Int} {a : Int} (ha : a ∈ l) : ¬ Rises (insd l a) := by
  intro hr
  have hp := Rises_pairwise hr
  have hnd : (insd l a).Nodup := hp.imp (fun h => Int.ne_of_lt h)
  have hn2 := (insd_perm l a).nodup_iff.mp hnd
  rw [List.nodup_append] at hn2
  exact hn2.2.2 a ha a (by simp) rfl
def AddOk (l : List Int) (a : Int) : Prop := Ruler l ∧ 0 ≤ a ∧ Ruler (insd l a)
noncomputable def AddF (l : List Int) (a : Int) : List Int × Bool := if tf (AddOk l a) = true then (insd l a, true) else ([], false)
theorem AddF_yes {l : List Int} {a : Int} (h : AddOk l a) : AddF l a = (insd l a, true) := if_pos (tf_pos h)
theorem AddF_no {l : List Int} {a : Int} (h : ¬ AddOk l a) : AddF l a = ([], false) := if_neg (by rw [tf_neg h]; decide)
theorem AddF_len (l : List Int) (a : Int) (hn : l.length ≤ 1048576) : (AddF l a).1.length ≤ 1048576 := by
  by_cases h : AddOk l a
  · rw [AddF_yes h]; show (insd l a).length ≤ _; have := h.2.2.1.1; omega
  · rw [AddF_no h]; simp
set_option maxHeartbeats 3200000 in
theorem ruAdd_calls (A : Option Addr) (c : Nat) (l : List Int) (a : Int) (w : World) (hr : Rd w A l) (hc : l.length ≤ c) (hn : l.length ≤ 1048575) :
    Calls Try.prog 20 #[.slice A l.length c, .int .i64 a] w fun e w' => ∃ v, e = .returned (.tuple #[v, .bool (tf (Ruler (insd l a)))]) ∧ Ow w' w.heap.size v (insd l a) ∧ Below w.heap.size w w' := by
  have HR := Aside0.mk hr
  have HC := Aside0.mk hc
  clear hr hc
  have HB := Aside0.mk (Below.refl w.heap.size w)
  go_enter Try.func20, Try.ntmps20
  (go_wp2; repeat (go_quiet (fail); try go_wp2))
  go_loopg [6] l.length (fun g v6 w' => ∃ k : Nat, v6 = .int .i64 k ∧ Aside0 (k + g = l.length) ∧ Aside0 (∀ j : Nat, j < k → rd l (j : Int) < a) ∧ Aside0 (Below w.heap.size w w'))
  case atStart => exact ⟨0, rfl, ⟨by omega⟩, ⟨fun j h => absurd h (by omega)⟩, ⟨(by repeat (first | (with_reducible first | exact HB.out | apply below_alloc | apply pw_below_drewN | apply below_drew1) | exact HB.out))⟩⟩
  case round =>
    clear HB
    obtain ⟨k, rfl, HI, HA, HB⟩ := hrel
    have hkl : k ≤ l.length := by have := HI.out; omega
    by_cases hlt : k < l.length
    · obtain ⟨ad, hA, hx⟩ := at_nat HR.out hlt
      replace hx := (HB.out.cell (World.block_lt_of_cell? w _ hx)).trans hx
      by_cases hq : rd l (k : Int) < a
      · have HQ := Aside0.mk hq
        subst hA
        (go_wp2; repeat (go_quiet (fail); try go_wp2))
        go_roundg (gk - 1)
        case measure => have := HI.out; omega
        case rel => exact ⟨k + 1, by go_num, ⟨by have := HI.out; omega⟩, ⟨fun j hj => by
          rcases Nat.lt_or_ge j k with h | h
          · exact HA.out j h
          · rw [show j = k by omega]; exact HQ.out⟩, ⟨(by repeat (first | (with_reducible first | exact HB.out | apply below_alloc | apply pw_below_drewN | apply below_drew1) | exact HB.out))⟩⟩
      · have HPL := Aside0.mk (show place a l = k from place_eq a l k hkl HA.out (fun _ => by omega))
        subst hA
        go_upto_region 4 with (fail)
        clear hx
        generalize some ad = A at *
        have hcut := cut_nat A c l k hkl HC.out; have hrt := Rd_take HR.out k hkl; obtain ⟨A', hcut2, hrd2⟩ := drop_nat A c l k hkl HC.out; have HR2 := Aside0.mk (hrd2 w HR.out); clear hrd2; have HTL := Aside0.mk (List.length_take_of_le hkl); have hfl := List.length_drop (i := k) (l := l); have HIN := Aside0.mk (show l.take k ++ [a] ++ l.drop k = insd l a by rw [insd, HPL.out]); generalize l.drop k = f at *; have HFL := Aside0.mk hfl; clear hfl; generalize l.take k = t at *; have hfn : f.length ≤ 1048576 := (by rw [HFL.out]; omega); have HRT := Aside0.mk (show Rd w A t from hrt); clear hrt; have HTL2 := Aside0.mk (show t.length ≤ 1048576 by rw [HTL.out]; omega); have HTL3 := Aside0.mk (show (t ++ [a]).length + f.length ≤ 1048577 by rw [List.length_append, HTL.out, HFL.out, List.length_singleton]; omega)
        go_wp2_with (first | (go_at_call 35; refine (calls_of_args (by rw [HTL.out]) (l1Own_calls _ c t _ (Kd.C_below HRT.out (by repeat (first | (with_reducible first | exact HB.out | apply below_alloc | apply pw_below_drewN | apply below_drew1) | exact HB.out))) (by rw [HTL.out]; have := HC.out; omega) (by rw [HTL.out]; omega))).mono ?_; rintro e w1 ⟨v1, rfl, ho, hb⟩; have HO := Aside0.mk (Ow_lower ho (below_size (by repeat (first | (with_reducible first | exact HB.out | apply below_alloc | apply pw_below_drewN | apply below_drew1) | exact HB.out)))); have n0_ := Aside0.mk (below_step (by repeat (first | (with_reducible first | exact HB.out | apply below_alloc | apply pw_below_drewN | apply below_drew1) | exact HB.out)) hb); clear HB ho hb; have HB := n0_; clear n0_) | (at_builtin; refine Kd.R_append (Kd.int .i64) (w0 := w) w.heap.size rfl (.tmp 25) (.tmp 27) 22 3 (.int .i64 0) 8 rfl Try.underlying22 infoInt rfl (by decide) (by omega) v1 t (a) [.int .i64 (a)] (fun _ => True) (fun _ => False) rfl rfl rfl (fun _ hk => hk.elim) (fun _ _ => trivial) ?aO ?aB ?aS ?aL ?_; (case aO => exact (by (with_reducible repeat (first | apply Kd.R_alloc | apply Kd.R_drewN | apply Kd.R_drew)); exact HO.out)); (case aB => exact (by repeat (first | (with_reducible first | exact HB.out | apply below_alloc | apply pw_below_drewN | apply below_drew1) | exact HB.out))); (case aS => exact below_size (by repeat (first | (with_reducible first | exact HB.out | apply below_alloc | apply pw_below_drewN | apply below_drew1) | exact HB.out))); (case aL => have := HTL2.out; omega); intro v2 w2 ho_ hb_ hg_ hat_; have n0_ := Aside0.mk hb_; have n1_ := Aside0.mk ho_; clear HB HO; have HB := n0_; have HO := n1_; clear n0_ n1_ ho_ hb_ hg_ hat_) | ((with_reducible refine gate_builtin (b := .append) (xs := #[.tmp 29, .tmp 32]) rfl ?_); at_builtin; refine Kd.R_append_rows (Kd.int .i64) (w0 := w) w.heap.size rfl (.tmp 29) (.tmp 32) 22 3 (.int .i64 0) 8 rfl Try.underlying22 infoInt rfl (by decide) (by omega) v2 (t ++ [a]) f _ _ _ (fun _ => True) (fun _ => False) rfl rfl ?aO ?aR (fun _ _ h => h) (fun _ h => h.elim) (fun _ _ => trivial) ?aB ?aS ?aL ?_; (case aR => exact (Kd.C_below HR2.out (by repeat (first | (with_reducible first | exact HB.out | apply below_alloc | apply pw_below_drewN | apply below_drew1) | exact HB.out)))); (case aO => exact (by (with_reducible repeat (first | apply Kd.R_alloc | apply Kd.R_drewN | apply Kd.R_drew)); exact HO.out)); (case aB => exact (by repeat (first | (with_reducible first | exact HB.out | apply below_alloc | apply pw_below_drewN | apply below_drew1) | exact HB.out))); (case aS => exact below_size (by repeat (first | (with_reducible first | exact HB.out | apply below_alloc | apply pw_below_drewN | apply below_drew1) | exact HB.out))); (case aL => have := HTL3.out; omega); intro v3 w3 ho_ hb_ hg_ hat_; have n0_ := Aside0.mk hb_; have n1_ := Aside0.mk ho_; clear HB HO; have HB := n0_; have HO := n1_; clear n0_ n1_ ho_ hb_ hg_ hat_))
        have hh := HO.out; rw [HIN.out] at hh; clear HO; have HO := Aside0.mk hh; clear hh; obtain ⟨A3, c3, e3, hc3, hr3⟩ := Ow_form HO.out; subst e3; have HC3 := Aside0.mk hc3; clear hc3 hr3; go_wp2_with (go_at_call 19; refine (ruGood_calls _ _ (insd l a) _ (Ow_rd (by first | exact HO.out | exact Ow_drewN HO.out _)) HC3.out (by rw [insd_length]; omega)).mono ?_; rintro e w' ⟨rfl, ⟨nd3, rfl⟩⟩); (repeat (go_quiet (fail); try go_wp2)); go_ret2; exact ⟨_, rfl, (by first | exact HO.out | exact Ow_drewN HO.out _), (by repeat (first | (with_reducible first | exact HB.out | apply below_alloc | apply pw_below_drewN | apply below_drew1) | exact HB.out))⟩
    · have HPL := Aside0.mk (show place a l = k from place_eq a l k hkl HA.out (fun h => absurd h hlt))
      go_upto_region 4 with (fail)
      have hcut := cut_nat A c l k hkl HC.out; have hrt := Rd_take HR.out k hkl; obtain ⟨A', hcut2, hrd2⟩ := drop_nat A c l k hkl HC.out; have HR2 := Aside0.mk (hrd2 w HR.out); clear hrd2; have HTL := Aside0.mk (List.length_take_of_le hkl); have hfl := List.length_drop (i := k) (l := l); have HIN := Aside0.mk (show l.take k ++ [a] ++ l.drop k = insd l a by rw [insd, HPL.out]); generalize l.drop k = f at *; have HFL := Aside0.mk hfl; clear hfl; generalize l.take k = t at *; have hfn : f.length ≤ 1048576 := (by rw [HFL.out]; omega); have HRT := Aside0.mk (show Rd w A t from hrt); clear hrt; have HTL2 := Aside0.mk (show t.length ≤ 1048576 by rw [HTL.out]; omega); have HTL3 := Aside0.mk (show (t ++ [a]).length + f.length ≤ 1048577 by rw [List.length_append, HTL.out, HFL.out, List.length_singleton]; omega)
      go_wp2_with (first | (go_at_call 35; refine (calls_of_args (by rw [HTL.out]) (l1Own_calls _ c t _ (Kd.C_below HRT.out (by repeat (first | (with_reducible first | exact HB.out | apply below_alloc | apply pw_below_drewN | apply below_drew1) | exact HB.out))) (by rw [HTL.out]; have := HC.out; omega) (by rw [HTL.out]; omega))).mono ?_; rintro e w1 ⟨v1, rfl, ho, hb⟩; have HO := Aside0.mk (Ow_lower ho (below_size (by repeat (first | (with_reducible first | exact HB.out | apply below_alloc | apply pw_below_drewN | apply below_drew1) | exact HB.out)))); have n0_ := Aside0.mk (below_step (by repeat (first | (with_reducible first | exact HB.out | apply below_alloc | apply pw_below_drewN | apply below_drew1) | exact HB.out)) hb); clear HB ho hb; have HB := n0_; clear n0_) | (at_builtin; refine Kd.R_append (Kd.int .i64) (w0 := w) w.heap.size rfl (.tmp 25) (.tmp 27) 22 3 (.int .i64 0) 8 rfl Try.underlying22 infoInt rfl (by decide) (by omega) v1 t (a) [.int .i64 (a)] (fun _ => True) (fun _ => False) rfl rfl rfl (fun _ hk => hk.elim) (fun _ _ => trivial) ?aO ?aB ?aS ?aL ?_; (case aO => exact (by (with_reducible repeat (first | apply Kd.R_alloc | apply Kd.R_drewN | apply Kd.R_drew)); exact HO.out)); (case aB => exact (by repeat (first | (with_reducible first | exact HB.out | apply below_alloc | apply pw_below_drewN | apply below_drew1) | exact HB.out))); (case aS => exact below_size (by repeat (first | (with_reducible first | exact HB.out | apply below_alloc | apply pw_below_drewN | apply below_drew1) | exact HB.out))); (case aL => have := HTL2.out; omega); intro v2 w2 ho_ hb_ hg_ hat_; have n0_ := Aside0.mk hb_; have n1_ := Aside0.mk ho_; clear HB HO; have HB := n0_; have HO := n1_; clear n0_ n1_ ho_ hb_ hg_ hat_) | ((with_reducible refine gate_builtin (b := .append) (xs := #[.tmp 29, .tmp 32]) rfl ?_); at_builtin; refine Kd.R_append_rows (Kd.int .i64) (w0 := w) w.heap.size rfl (.tmp 29) (.tmp 32) 22 3 (.int .i64 0) 8 rfl Try.underlying22 infoInt rfl (by decide) (by omega) v2 (t ++ [a]) f _ _ _ (fun _ => True) (fun _ => False) rfl rfl ?aO ?aR (fun _ _ h => h) (fun _ h => h.elim) (fun _ _ => trivial) ?aB ?aS ?aL ?_; (case aR => exact (Kd.C_below HR2.out (by repeat (first | (with_reducible first | exact HB.out | apply below_alloc | apply pw_below_drewN | apply below_drew1) | exact HB.out)))); (case aO => exact (by (with_reducible repeat (first | apply Kd.R_alloc | apply Kd.R_drewN | apply Kd.R_drew)); exact HO.out)); (case aB => exact (by repeat (first | (with_reducible first | exact HB.out | apply below_alloc | apply pw_below_drewN | apply below_drew1) | exact HB.out))); (case aS => exact below_size (by repeat (first | (with_reducible first | exact HB.out | apply below_alloc | apply pw_below_drewN | apply below_drew1) | exact HB.out))); (case aL => have := HTL3.out; omega); intro v3 w3 ho_ hb_ hg_ hat_; have n0_ := Aside0.mk hb_; have n1_ := Aside0.mk ho_; clear HB HO; have HB := n0_; have HO := n1_; clear n0_ n1_ ho_ hb_ hg_ hat_))
      have hh := HO.out; rw [HIN.out] at hh; clear HO; have HO := Aside0.mk hh; clear hh; obtain ⟨A3, c3, e3, hc3, hr3⟩ := Ow_form HO.out; subst e3; have HC3 := Aside0.mk hc3; clear hc3 hr3; go_wp2_with (go_at_call 19; refine (ruGood_calls _ _ (insd l a) _ (Ow_rd (by first | exact HO.out | exact Ow_drewN HO.out _)) HC3.out (by rw [insd_length]; omega)).mono ?_; rintro e w' ⟨rfl, ⟨nd3, rfl⟩⟩); (repeat (go_quiet (fail); try go_wp2)); go_ret2; exact ⟨_, rfl, (by first | exact HO.out | exact Ow_drewN HO.out _), (by repeat (first | (with_reducible first | exact HB.out | apply below_alloc | apply pw_below_drewN | apply below_drew1) | exact HB.out))⟩
set_option maxHeartbeats 1600000 in
theorem specAddMark_calls (A : Option Addr) (c : Nat) (l : List Int) (a : Int) (w : World) (hr : Rd w A l) (hc : l.length ≤ c) (hn : l.length ≤ 1048576) (hw : ∀ x ∈ l, W64 x) (ha : W64 a) :
    Calls Try.prog 7 #[.slice A l.length c, .int .i64 a] w fun e w' => ∃ v, e = .returned (.tuple #[v, .bool (AddF l a).2]) ∧ Ow w' w.heap.size v (AddF l a).1 ∧ Below w.heap.size w w' := by
  have HR := Aside0.mk hr
  have HC := Aside0.mk hc
  clear hr hc hw ha
  have HB := Aside0.mk (Below.refl w.heap.size w)
  by_cases hd : Ruler l
  · have H1 := Aside0.mk (tf_pos hd)
    have hlen := hd.1.1
    by_cases h0 : 0 ≤ a
    · by_cases hi : Ruler (insd l a)
      · have H2 := Aside0.mk (tf_pos hi)
        have HF := Aside0.mk (AddF_yes ⟨hd, h0, hi⟩)
        clear hd hi
        go_enter Try.func7, Try.ntmps7
        go_wp2_with (first | (go_at_call 19; refine (ruGood_calls _ _ l _ (by first | exact HR.out | exact Kd.C_drewN HR.out _) HC.out hn).mono ?_; rw [H1.out]; rintro e w' ⟨rfl, ⟨nd, rfl⟩⟩) | (go_at_call 20; refine (ruAdd_calls _ _ l a _ (by first | exact HR.out | exact Kd.C_drewN HR.out _) HC.out (by omega)).mono ?_; rw [H2.out]; (rintro e w1 ⟨v1, rfl, ho, hb⟩; have hdl_ := insd_length l a; generalize hd_ : insd l a = d at ho hdl_; have HDL := Aside0.mk hdl_; have HDD := Aside0.mk hd_; clear hdl_ hd_; have HO := Aside0.mk (Ow_lower ho (below_size (by repeat (first | (with_reducible first | exact HB.out | apply below_alloc | apply pw_below_drewN | apply below_drew1) | exact HB.out)))); have n0_ := Aside0.mk (below_step (by repeat (first | (with_reducible first | exact HB.out | apply below_alloc | apply pw_below_drewN | apply below_drew1) | exact HB.out)) hb); clear HB ho hb; have HB := n0_; clear n0_; obtain ⟨A1, c1, e1_, hc1_, hr1_⟩ := Ow_form HO.out; subst e1_; have HC1 := Aside0.mk hc1_; clear hc1_ hr1_)))
        repeat (go_quiet (fail); try go_wp2)
        go_ret2
        exact ⟨_, by rw [HF.out]; rfl, by rw [HF.out]; show Ow _ _ _ (insd l a); rw [HDD.out]; exact (by first | exact HO.out | exact Ow_drewN HO.out _), (by repeat (first | (with_reducible first | exact HB.out | apply below_alloc | apply pw_below_drewN | apply below_drew1) | exact HB.out))⟩
      · have H2 := Aside0.mk (tf_neg hi)
        have HF := Aside0.mk (AddF_no (fun h => hi h.2.2 : ¬ AddOk l a))
        clear hd hi
        go_enter Try.func7, Try.ntmps7
        go_wp2_with (first | (go_at_call 19; refine (ruGood_calls _ _ l _ (by first | exact HR.out | exact Kd.C_drewN HR.out _) HC.out hn).mono ?_; rw [H1.out]; rintro e w' ⟨rfl, ⟨nd, rfl⟩⟩) | (go_at_call 20; refine (ruAdd_calls _ _ l a _ (by first | exact HR.out | exact Kd.C_drewN HR.out _) HC.out (by omega)).mono ?_; rw [H2.out]; (rintro e w1 ⟨v1, rfl, ho, hb⟩; have hdl_ := insd_length l a; generalize hd_ : insd l a = d at ho hdl_; have HDL := Aside0.mk hdl_; have HDD := Aside0.mk hd_; clear hdl_ hd_; have HO := Aside0.mk (Ow_lower ho (below_size (by repeat (first | (with_reducible first | exact HB.out | apply below_alloc | apply pw_below_drewN | apply below_drew1) | exact HB.out)))); have n0_ := Aside0.mk (below_step (by repeat (first | (with_reducible first | exact HB.out | apply below_alloc | apply pw_below_drewN | apply below_drew1) | exact HB.out)) hb); clear HB ho hb; have HB := n0_; clear n0_; obtain ⟨A1, c1, e1_, hc1_, hr1_⟩ := Ow_form HO.out; subst e1_; have HC1 := Aside0.mk hc1_; clear hc1_ hr1_)))
        repeat (go_quiet (fail); try go_wp2)
        go_ret2
        exact ⟨_, by rw [HF.out]; rfl, by rw [HF.out]; exact Kd.R_nil _ _ _ _ _, (by repeat (first | (with_reducible first | exact HB.out | apply below_alloc | apply pw_below_drewN | apply below_drew1) | exact HB.out))⟩
    · have HF := Aside0.mk (AddF_no (fun h => h0 h.2.1 : ¬ AddOk l a))
      clear hd
      go_enter Try.func7, Try.ntmps7
      go_wp2_with (go_at_call 19; refine (ruGood_calls _ _ l _ (by first | exact HR.out | exact Kd.C_drewN HR.out _) HC.out hn).mono ?_; rw [H1.out]; rintro e w' ⟨rfl, ⟨nd, rfl⟩⟩)
      go_ret2
      exact ⟨_, by rw [HF.out]; rfl, by rw [HF.out]; exact Kd.R_nil _ _ _ _ _, (by repeat (first | (with_reducible first | exact HB.out | apply below_alloc | apply pw_below_drewN | apply below_drew1) | exact HB.out))⟩
  · have H1 := Aside0.mk (tf_neg hd)
    have HF := Aside0.mk (AddF_no (fun h => hd h.1 : ¬ AddOk l a))
    clear hd
    go_enter Try.func7, Try.ntmps7
    go_wp2_with (go_at_call 19; refine (ruGood_calls _ _ l _ (by first | exact HR.out | exact Kd.C_drewN HR.out _) HC.out hn).mono ?_; rw [H1.out]; rintro e w' ⟨rfl, ⟨nd, rfl⟩⟩)
    go_ret2
    exact ⟨_, by rw [HF.out]; rfl, by rw [HF.out]; exact Kd.R_nil _ _ _ _ _, (by repeat (first | (with_reducible first | exact HB.out | apply below_alloc | apply pw_below_drewN | apply below_drew1) | exact HB.out))⟩
set_option maxHeartbeats 3200000 in
theorem implAddMark_calls (A : Option Addr) (c : Nat) (l : List Int) (a : Int) (w : World) (hr : Rd w A l) (hc : l.length ≤ c) (hn : l.length ≤ 1048576) (hw : ∀ x ∈ l, W64 x) (ha : W64 a) :
    Calls Try.prog 9 #[.slice A l.length c, .int .i64 a] w fun e w' => ∃ v, e = .returned (.tuple #[v, .bool (AddF l a).2]) ∧ Ow w' w.heap.size v (AddF l a).1 ∧ Below w.heap.size w w' := by
  have HR := Aside0.mk hr
  have HC := Aside0.mk hc
  clear hr hc hw ha
  have HB := Aside0.mk (Below.refl w.heap.size w)
  by_cases hd : Ruler l
  · have H1 := Aside0.mk (tf_pos hd)
    have hlen := hd.1.1
    by_cases h0 : 0 ≤ a
    · by_cases hm : a ∈ l
      · have H3 := Aside0.mk (decide_eq_true hm)
        have HF := Aside0.mk (AddF_no (fun h => insd_twice hm h.2.2.2.1 : ¬ AddOk l a))
        clear hd hm
        go_enter Try.func9, Try.ntmps9
        go_wp2_with (first | (go_at_call 21; refine (IsRuler_calls _ _ l _ (by first | exact HR.out | exact Kd.C_drewN HR.out _) HC.out hn).mono ?_; rw [H1.out]; rintro e w' ⟨rfl, ⟨nd, rfl⟩⟩) | (go_at_call 22; refine (Contains_calls _ _ l a _ (by first | exact HR.out | exact Kd.C_drewN HR.out _) HC.out (by omega)).mono ?_; rw [H3.out]; rintro e w' ⟨rfl, ⟨nd4, rfl⟩⟩))
        go_ret2
        exact ⟨_, by rw [HF.out]; rfl, by rw [HF.out]; exact Kd.R_nil _ _ _ _ _, (by repeat (first | (with_reducible first | exact HB.out | apply below_alloc | apply pw_below_drewN | apply below_drew1) | exact HB.out))⟩
      · have H3 := Aside0.mk (decide_eq_false hm)
        have HST := Aside0.mk (sorted_insd hd.2.1 hm)
        have HLN := Aside0.mk (show l.length ≤ 1000000 by omega)
        by_cases hi : Ruler (insd l a)
        · have H2 := Aside0.mk (tf_pos hi)
          have HF := Aside0.mk (AddF_yes ⟨hd, h0, hi⟩)
          clear hd hi hm
          go_enter Try.func9, Try.ntmps9
          go_upto_region 3 with (first | (go_at_call 21; refine (IsRuler_calls _ _ l _ (by first | exact HR.out | exact Kd.C_drewN HR.out _) HC.out hn).mono ?_; rw [H1.out]; rintro e w' ⟨rfl, ⟨nd, rfl⟩⟩) | (go_at_call 22; refine (Contains_calls _ _ l a _ (by first | exact HR.out | exact Kd.C_drewN HR.out _) HC.out (by omega)).mono ?_; rw [H3.out]; rintro e w' ⟨rfl, ⟨nd4, rfl⟩⟩))
          go_upto_region 5 with (first | (go_at_call 23; refine (Clone_calls _ _ l _ (by repeat (first | exact HR.out | apply Kd.C_drewN)) HC.out (by omega)).mono ?_; rintro e w1 ⟨v1, rfl, ho, hb⟩; have HO := Aside0.mk (Ow_lower ho (below_size (by repeat (first | (with_reducible first | exact HB.out | apply below_alloc | apply pw_below_drewN | apply below_drew1) | exact HB.out)))); have n0_ := Aside0.mk (below_step (by repeat (first | (with_reducible first | exact HB.out | apply below_alloc | apply pw_below_drewN | apply below_drew1) | exact HB.out)) hb); clear HB ho hb; have HB := n0_; clear n0_) | (at_builtin; refine Kd.R_append (Kd.int .i64) (w0 := w) w.heap.size rfl (.tmp 20) (.tmp 22) 22 3 (.int .i64 0) 8 rfl Try.underlying22 infoInt rfl (by decide) (by omega) v1 l (a) [.int .i64 (a)] (fun _ => True) (fun _ => False) rfl rfl rfl (fun _ hk => hk.elim) (fun _ _ => trivial) ?aO ?aB ?aS ?aL ?_; (case aO => exact (by (with_reducible repeat (first | apply Kd.R_alloc | apply Kd.R_drewN | apply Kd.R_drew)); exact HO.out)); (case aB => exact (by repeat (first | (with_reducible first | exact HB.out | apply below_alloc | apply pw_below_drewN | apply below_drew1) | exact HB.out))); (case aS => exact below_size (by repeat (first | (with_reducible first | exact HB.out | apply below_alloc | apply pw_below_drewN | apply below_drew1) | exact HB.out))); (case aL => have := HLN.out; omega); intro v2 w2 ho_ hb_ hg_ hat_; have n0_ := Aside0.mk hb_; have n1_ := Aside0.mk ho_; clear HB HO; have HB := n0_; have HO := n1_; clear n0_ n1_ ho_ hb_ hg_ hat_) | (go_at_call 24; refine (Sort_calls _ w.heap.size (l ++ [a]) _ (by first | exact HO.out | exact Ow_drewN HO.out _) (by rw [List.length_append, List.length_singleton]; omega)).mono ?_; rw [HST.out]; rintro e w2 ⟨rfl, ho, hg⟩; have n0_ := Aside0.mk ho; have n1_ := Aside0.mk (below_grown (by repeat (first | (with_reducible first | exact HB.out | apply below_alloc | apply pw_below_drewN | apply below_drew1) | exact HB.out)) hg (by first | exact HO.out | exact Ow_drewN HO.out _)); clear HB HO ho hg; have HO := n0_; have HB := n1_; clear n0_ n1_; obtain ⟨A3, c3, e3, hc3, hr3⟩ := Ow_form HO.out; subst e3; have HC3 := Aside0.mk hc3; clear hc3 hr3))
          go_wp2_with (go_at_call 21; refine (IsRuler_calls _ _ (insd l a) _ (Ow_rd (by first | exact HO.out | exact Ow_drewN HO.out _)) HC3.out (by rw [insd_length]; omega)).mono ?_; rw [H2.out]; rintro e w' ⟨rfl, ⟨nd5, rfl⟩⟩)
          go_ret2
          exact ⟨_, by rw [HF.out]; rfl, by rw [HF.out]; show Ow _ _ _ (insd l a); exact (by first | exact HO.out | exact Ow_drewN HO.out _), (by repeat (first | (with_reducible first | exact HB.out | apply below_alloc | apply pw_below_drewN | apply below_drew1) | exact HB.out))⟩
        · have H2 := Aside0.mk (tf_neg hi)
          have HF := Aside0.mk (AddF_no (fun h => hi h.2.2 : ¬ AddOk l a))
          clear hd hi hm
          go_enter Try.func9, Try.ntmps9
          go_upto_region 3 with (first | (go_at_call 21; refine (IsRuler_calls _ _ l _ (by first | exact HR.out | exact Kd.C_drewN HR.out _) HC.out hn).mono ?_; rw [H1.out]; rintro e w' ⟨rfl, ⟨nd, rfl⟩⟩) | (go_at_call 22; refine (Contains_calls _ _ l a _ (by first | exact HR.out | exact Kd.C_drewN HR.out _) HC.out (by omega)).mono ?_; rw [H3.out]; rintro e w' ⟨rfl, ⟨nd4, rfl⟩⟩))
          go_upto_region 5 with (first | (go_at_call 23; refine (Clone_calls _ _ l _ (by repeat (first | exact HR.out | apply Kd.C_drewN)) HC.out (by omega)).mono ?_; rintro e w1 ⟨v1, rfl, ho, hb⟩; have HO := Aside0.mk (Ow_lower ho (below_size (by repeat (first | (with_reducible first | exact HB.out | apply below_alloc | apply pw_below_drewN | apply below_drew1) | exact HB.out)))); have n0_ := Aside0.mk (below_step (by repeat (first | (with_reducible first | exact HB.out | apply below_alloc | apply pw_below_drewN | apply below_drew1) | exact HB.out)) hb); clear HB ho hb; have HB := n0_; clear n0_) | (at_builtin; refine Kd.R_append (Kd.int .i64) (w0 := w) w.heap.size rfl (.tmp 20) (.tmp 22) 22 3 (.int .i64 0) 8 rfl Try.underlying22 infoInt rfl (by decide) (by omega) v1 l (a) [.int .i64 (a)] (fun _ => True) (fun _ => False) rfl rfl rfl (fun _ hk => hk.elim) (fun _ _ => trivial) ?aO ?aB ?aS ?aL ?_; (case aO => exact (by (with_reducible repeat (first | apply Kd.R_alloc | apply Kd.R_drewN | apply Kd.R_drew)); exact HO.out)); (case aB => exact (by repeat (first | (with_reducible first | exact HB.out | apply below_alloc | apply pw_below_drewN | apply below_drew1) | exact HB.out))); (case aS => exact below_size (by repeat (first | (with_reducible first | exact HB.out | apply below_alloc | apply pw_below_drewN | apply below_drew1) | exact HB.out))); (case aL => have := HLN.out; omega); intro v2 w2 ho_ hb_ hg_ hat_; have n0_ := Aside0.mk hb_; have n1_ := Aside0.mk ho_; clear HB HO; have HB := n0_; have HO := n1_; clear n0_ n1_ ho_ hb_ hg_ hat_) | (go_at_call 24; refine (Sort_calls _ w.heap.size (l ++ [a]) _ (by first | exact HO.out | exact Ow_drewN HO.out _) (by rw [List.length_append, List.length_singleton]; omega)).mono ?_; rw [HST.out]; rintro e w2 ⟨rfl, ho, hg⟩; have n0_ := Aside0.mk ho; have n1_ := Aside0.mk (below_grown (by repeat (first | (with_reducible first | exact HB.out | apply below_alloc | apply pw_below_drewN | apply below_drew1) | exact HB.out)) hg (by first | exact HO.out | exact Ow_drewN HO.out _)); clear HB HO ho hg; have HO := n0_; have HB := n1_; clear n0_ n1_; obtain ⟨A3, c3, e3, hc3, hr3⟩ := Ow_form HO.out; subst e3; have HC3 := Aside0.mk hc3; clear hc3 hr3))
          go_wp2_with (go_at_call 21; refine (IsRuler_calls _ _ (insd l a) _ (Ow_rd (by first | exact HO.out | exact Ow_drewN HO.out _)) HC3.out (by rw [insd_length]; omega)).mono ?_; rw [H2.out]; rintro e w' ⟨rfl, ⟨nd5, rfl⟩⟩)
          go_ret2
          exact ⟨_, by rw [HF.out]; rfl, by rw [HF.out]; exact Kd.R_nil _ _ _ _ _, (by repeat (first | (with_reducible first | exact HB.out | apply below_alloc | apply pw_below_drewN | apply below_drew1) | exact HB.out))⟩
    · have HF := Aside0.mk (AddF_no (fun h => h0 h.2.1 : ¬ AddOk l a))
      clear hd
      go_enter Try.func9, Try.ntmps9
      go_wp2_with ((go_at_call 21; refine (IsRuler_calls _ _ l _ (by first | exact HR.out | exact Kd.C_drewN HR.out _) HC.out hn).mono ?_; rw [H1.out]; rintro e w' ⟨rfl, ⟨nd, rfl⟩⟩))
      go_ret2
      exact ⟨_, by rw [HF.out]; rfl, by rw [HF.out]; exact Kd.R_nil _ _ _ _ _, (by repeat (first | (with_reducible first | exact HB.out | apply below_alloc | apply pw_below_drewN | apply below_drew1) | exact HB.out))⟩
  · have H1 := Aside0.mk (tf_neg hd)
    have HF := Aside0.mk (AddF_no (fun h => hd h.1 : ¬ AddOk l a))
    clear hd
    go_enter Try.func9, Try.ntmps9
    go_wp2_with ((go_at_call 21; refine (IsRuler_calls _ _ l _ (by first | exact HR.out | exact Kd.C_drewN HR.out _) HC.out hn).mono ?_; rw [H1.out]; rintro e w' ⟨rfl, ⟨nd, rfl⟩⟩))
    go_ret2
    exact ⟨_, by rw [HF.out]; rfl, by rw [HF.out]; exact Kd.R_nil _ _ _ _ _, (by repeat (first | (with_reducible first | exact HB.out | apply below_alloc | apply pw_below_drewN | apply below_drew1) | exact HB.out))⟩
end Go.Proofs.Ytfbbbefhdmimhaa.Own.G
