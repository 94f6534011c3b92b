/- Labels asked, and their complements: what the reference's and the program's functions return; lists of at most 1048576 numbers. -/
import Derived.Test.YtflfecocojafbaaOwnLabelA
namespace Go.Proofs.Ytflfecocojafbaa.Own.G
open Go.RowKit Go.Proofs.YtflfecocojafbaaW.PrintWords Go.Proofs.YtflfecocojafbaaW.PrintLast Go.Proofs.YtflfecocojafbaaW.PrintMore
set_option linter.unusedVariables false
noncomputable def IsLabelsF (l m : List Int) : Bool × Bool := if tf (Tree l) = true then (tf (Labels (l.length : Int) m), true) else (false, false)
theorem IsLabelsF_yes {l m : List Int} (h : Tree l) : IsLabelsF l m = (tf (Labels (l.length : Int) m), true) := if_pos (tf_pos h)
theorem IsLabelsF_no {l m : List Int} (h : ¬ Tree l) : IsLabelsF l m = (false, false) := if_neg (by rw [tf_neg h]; decide)
set_option maxHeartbeats 800000 in
theorem specIsLabels_calls (A : Option Addr) (c : Nat) (l : List Int) (A' : Option Addr) (c' : Nat) (m : List Int) (w : World) (hr : Rd w A l) (hc : l.length ≤ c) (hn : l.length ≤ 1048576) (hw : ∀ x ∈ l, W64 x) (hr' : Rd w A' m) (hc' : m.length ≤ c') (hn' : m.length ≤ 1048576) (hw' : ∀ x ∈ m, W64 x) :
    Calls Try.prog 33 #[.slice A l.length c, .slice A' m.length c'] w fun e w' => e = .returned (.tuple #[.bool (IsLabelsF l m).1, .bool (IsLabelsF l m).2]) ∧ Below w.heap.size w w' := by
  have HR := Aside0.mk hr
  have HC := Aside0.mk hc
  have HR' := Aside0.mk hr'
  have HC' := Aside0.mk hc'
  clear hr hc hw hr' hc' hw'
  have HB := Aside0.mk (Below.refl w.heap.size w)
  by_cases hd : Tree l
  · have H1 := Aside0.mk (tf_pos hd)
    have HF := Aside0.mk (IsLabelsF_yes (m := m) hd)
    clear hd
    go_enter Try.func33, Try.ntmps33
    go_wp2_with (first | (go_at_call 46; refine (grTree_calls _ _ l _ HR.out HC.out hn).mono ?_; rw [H1.out]; rintro e w' ⟨rfl, ⟨nd, rfl⟩⟩) | (go_at_call 68; refine (grLabels_calls l.length _ _ m _ (Kd.C_drewN HR'.out _) HC'.out hn' hn).mono ?_; rintro e w1 ⟨rfl, ⟨nd2, rfl⟩⟩))
    go_ret2
    exact ⟨by rw [HF.out]; rfl, (by repeat (first | (with_reducible first | exact HB.out | apply below_alloc | apply pw_below_drewN | apply below_drew1) | exact HB.out))⟩
  · have H1 := Aside0.mk (tf_neg hd)
    have HF := Aside0.mk (IsLabelsF_no (m := m) hd)
    clear hd
    go_enter Try.func33, Try.ntmps33
    go_wp2_with (go_at_call 46; refine (grTree_calls _ _ l _ HR.out HC.out hn).mono ?_; rw [H1.out]; rintro e w' ⟨rfl, ⟨nd, rfl⟩⟩)
    go_ret2
    exact ⟨by rw [HF.out]; rfl, (by repeat (first | (with_reducible first | exact HB.out | apply below_alloc | apply pw_below_drewN | apply below_drew1) | exact HB.out))⟩
set_option maxHeartbeats 800000 in
theorem implIsLabels_calls (A : Option Addr) (c : Nat) (l : List Int) (A' : Option Addr) (c' : Nat) (m : List Int) (w : World) (hr : Rd w A l) (hc : l.length ≤ c) (hn : l.length ≤ 1048576) (hw : ∀ x ∈ l, W64 x) (hr' : Rd w A' m) (hc' : m.length ≤ c') (hn' : m.length ≤ 1048576) (hw' : ∀ x ∈ m, W64 x) :
    Calls Try.prog 34 #[.slice A l.length c, .slice A' m.length c'] w fun e w' => e = .returned (.tuple #[.bool (IsLabelsF l m).1, .bool (IsLabelsF l m).2]) ∧ Below w.heap.size w w' := by
  have HR := Aside0.mk hr
  have HC := Aside0.mk hc
  have HR' := Aside0.mk hr'
  have HC' := Aside0.mk hc'
  clear hr hc hw hr' hc' hw'
  have HB := Aside0.mk (Below.refl w.heap.size w)
  by_cases hd : Tree l
  · have H1 := Aside0.mk (tf_pos hd)
    have HF := Aside0.mk (IsLabelsF_yes (m := m) hd)
    clear hd
    go_enter Try.func34, Try.ntmps34
    go_wp2_with (first | (go_at_call 48; refine (IsTree_calls _ _ l _ HR.out HC.out hn).mono ?_; rw [H1.out]; rintro e w' ⟨rfl, ⟨nd, rfl⟩⟩) | (go_at_call 69; refine (areLabels_calls l.length _ _ m _ (Kd.C_drewN HR'.out _) HC'.out hn' hn).mono ?_; rintro e w1 ⟨rfl, ⟨nd2, rfl⟩⟩))
    go_ret2
    exact ⟨by rw [HF.out]; rfl, (by repeat (first | (with_reducible first | exact HB.out | apply below_alloc | apply pw_below_drewN | apply below_drew1) | exact HB.out))⟩
  · have H1 := Aside0.mk (tf_neg hd)
    have HF := Aside0.mk (IsLabelsF_no (m := m) hd)
    clear hd
    go_enter Try.func34, Try.ntmps34
    go_wp2_with (go_at_call 48; refine (IsTree_calls _ _ l _ HR.out HC.out hn).mono ?_; rw [H1.out]; rintro e w' ⟨rfl, ⟨nd, rfl⟩⟩)
    go_ret2
    exact ⟨by rw [HF.out]; rfl, (by repeat (first | (with_reducible first | exact HB.out | apply below_alloc | apply pw_below_drewN | apply below_drew1) | exact HB.out))⟩
/-- Complements of i labels. -/
def comp (l : List Int) (i : Nat) : List Int := (List.range i).map fun j : Nat => (l.length : Int) - 1 - rd l (j : Int)
theorem comp_length (l : List Int) (i : Nat) : (comp l i).length = i := by simp [comp]
theorem comp_succ (l : List Int) (i : Nat) : comp l (i + 1) = comp l i ++ [(l.length : Int) - 1 - rd l (i : Int)] := by
  unfold comp
  rw [List.range_succ, List.map_append]
  rfl
def Full (l : List Int) : Prop := (1 ≤ l.length ∧ l.length ≤ 9) ∧ Labels (l.length : Int) l
noncomputable def CompF (l : List Int) : List Int × Bool := if tf (Full l) = true then (comp l l.length, true) else ([], false)
theorem CompF_yes {l : List Int} (h : Full l) : CompF l = (comp l l.length, true) := if_pos (tf_pos h)
theorem CompF_no {l : List Int} (h : ¬ Full l) : CompF l = ([], false) := if_neg (by rw [tf_neg h]; decide)
theorem CompF_len (l : List Int) (hn : l.length ≤ 1048576) : (CompF l).1.length ≤ 1048576 := by
  by_cases h : Full l
  · rw [CompF_yes h]; show (comp _ _).length ≤ _; rw [comp_length]; exact hn
  · rw [CompF_no h]; simp
set_option maxHeartbeats 1600000 in
theorem specComplementLabels_calls (A : Option Addr) (c : Nat) (l : List Int) (w : World) (hr : Rd w A l) (hc : l.length ≤ c) (hn : l.length ≤ 1048576) (hw : ∀ x ∈ l, W64 x) :
    Calls Try.prog 37 #[.slice A l.length c] w fun e w' => ∃ v, e = .returned (.tuple #[v, .bool (CompF l).2]) ∧ Ow w' w.heap.size v (CompF l).1 ∧ Below w.heap.size w w' := by
  have HR := Aside0.mk hr
  have HC := Aside0.mk hc
  clear hr hc hw
  have HB := Aside0.mk (Below.refl w.heap.size w)
  by_cases hl : 1 ≤ l.length ∧ l.length ≤ 9
  · have HT := Aside0.mk (within_yes (show (1 : Int) ≤ (l.length : Int) ∧ (l.length : Int) ≤ 9 by omega))
    by_cases hd : Labels (l.length : Int) l
    · have H1 := Aside0.mk (tf_pos hd)
      have HD := Aside0.mk hd
      have HF := Aside0.mk (CompF_yes ⟨hl, hd⟩)
      have HO := Aside0.mk (Kd.R_nil (Kd.int .i64) 3 w w.heap.size (fun _ => True))
      clear hd
      go_enter Try.func37, Try.ntmps37
      go_wp2_with (first | (go_at_call 55; refine (in_calls _ _ _ _).mono ?_; rw [HT.out]; rintro e w' ⟨rfl, ⟨nd, rfl⟩⟩) | (go_at_call 68; refine (grLabels_calls l.length _ _ l _ (by first | exact HR.out | exact Kd.C_drewN HR.out _) HC.out hn hn).mono ?_; rw [H1.out]; rintro e w1 ⟨rfl, ⟨nd2, rfl⟩⟩))
      go_loopg [5, 21] l.length (fun g vo vi w' => ∃ (i : Nat) (xs : List Int), vi = .int .i64 i ∧ Aside0 (i + g = l.length) ∧ Aside0 (xs = comp l i) ∧ Aside0 (xs.length ≤ 1048576) ∧ Aside0 (Ow w' w.heap.size vo xs) ∧ Aside0 (Below w.heap.size w w'))
      case atStart => exact ⟨0, [], rfl, ⟨by omega⟩, ⟨by simp [comp]⟩, ⟨by simp⟩, ⟨(by first | exact HO.out | exact Ow_drewN HO.out _)⟩, ⟨(by repeat (first | (with_reducible first | exact HB.out | apply below_alloc | apply pw_below_drewN | apply below_drew1) | exact HB.out))⟩⟩
      case round =>
        clear HO HB
        obtain ⟨i, xs, rfl, HI, HX, HL, HO, HB⟩ := hrel
        by_cases hlt : i < l.length
        · obtain ⟨ad, rfl, hx⟩ := at_nat HR.out hlt
          replace hx := (HB.out.cell (World.block_lt_of_cell? w _ hx)).trans hx
          have b1 := (HD.out.2 i hlt).1
          have b2 := (HD.out.2 i hlt).2.1
          go_wp2_with ((at_builtin; refine Kd.R_append (Kd.int .i64) (w0 := w) w.heap.size rfl (.tmp 25) (.tmp 30) 22 3 (.int .i64 0) 8 rfl Try.underlying22 infoInt rfl (by decide) (by omega) u5 xs ((l.length : Int) - 1 - rd l (i : Int)) [.int .i64 ((l.length : Int) - 1 - rd l (i : Int))] (fun _ => True) (fun _ => False) rfl rfl rfl (fun _ hk => hk.elim) (fun _ _ => trivial) ?aO ?aB ?aS ?aL ?_; (case aO => exact (by (with_reducible repeat (first | apply Kd.R_alloc | apply Kd.R_drewN | apply Kd.R_drew)); exact HO.out)); (case aB => exact (by repeat (first | (with_reducible first | exact HB.out | apply below_alloc | apply pw_below_drewN | apply below_drew1) | exact HB.out))); (case aS => exact below_size (by repeat (first | (with_reducible first | exact HB.out | apply below_alloc | apply pw_below_drewN | apply below_drew1) | exact HB.out))); (case aL => have := HL.out; omega); intro v2 w2 ho_ hb_ hg_ hat_; have n0_ := Aside0.mk hb_; have n1_ := Aside0.mk ho_; clear HB HO; have HB := n0_; have HO := n1_; clear n0_ n1_ ho_ hb_ hg_ hat_))
          go_roundg (gk - 1)
          case measure => have := HI.out; omega
          case rel => exact ⟨i + 1, _, by go_num, ⟨by have := HI.out; omega⟩, ⟨by rw [HX.out, comp_succ]⟩, ⟨by rw [HX.out, List.length_append, comp_length, List.length_singleton]; omega⟩, HO, HB⟩
        · have HE := Aside0.mk (show xs = comp l l.length by rw [HX.out, show i = l.length by have := HI.out; omega])
          (go_wp2; repeat (go_quiet (fail); try go_wp2))
          go_ret2
          exact ⟨_, by rw [HF.out]; rfl, by rw [HF.out]; show Ow _ _ _ (comp _ _); rw [← HE.out]; exact (by first | exact HO.out | exact Ow_drewN HO.out _), (by repeat (first | (with_reducible first | exact HB.out | apply below_alloc | apply pw_below_drewN | apply below_drew1) | exact HB.out))⟩
    · have H1 := Aside0.mk (tf_neg hd)
      have HF := Aside0.mk (CompF_no (fun h => hd h.2 : ¬ Full l))
      clear hd
      go_enter Try.func37, Try.ntmps37
      go_wp2_with (first | (go_at_call 55; refine (in_calls _ _ _ _).mono ?_; rw [HT.out]; rintro e w' ⟨rfl, ⟨nd, rfl⟩⟩) | (go_at_call 68; refine (grLabels_calls l.length _ _ l _ (by first | exact HR.out | exact Kd.C_drewN HR.out _) HC.out hn hn).mono ?_; rw [H1.out]; rintro e w1 ⟨rfl, ⟨nd2, rfl⟩⟩))
      go_ret2
      exact ⟨_, by rw [HF.out]; rfl, by rw [HF.out]; exact Kd.R_nil _ _ _ _ _, (by repeat (first | (with_reducible first | exact HB.out | apply below_alloc | apply pw_below_drewN | apply below_drew1) | exact HB.out))⟩
  · have HT := Aside0.mk (within_no (show ¬ ((1 : Int) ≤ (l.length : Int) ∧ (l.length : Int) ≤ 9) by omega))
    have HF := Aside0.mk (CompF_no (fun h => hl h.1 : ¬ Full l))
    clear hl
    go_enter Try.func37, Try.ntmps37
    go_wp2_with (go_at_call 55; refine (in_calls _ _ _ _).mono ?_; rw [HT.out]; rintro e w' ⟨rfl, ⟨nd, rfl⟩⟩)
    go_ret2
    exact ⟨_, by rw [HF.out]; rfl, by rw [HF.out]; exact Kd.R_nil _ _ _ _ _, (by repeat (first | (with_reducible first | exact HB.out | apply below_alloc | apply pw_below_drewN | apply below_drew1) | exact HB.out))⟩
set_option maxHeartbeats 1600000 in
theorem implComplementLabels_calls (A : Option Addr) (c : Nat) (l : List Int) (w : World) (hr : Rd w A l) (hc : l.length ≤ c) (hn : l.length ≤ 1048576) (hw : ∀ x ∈ l, W64 x) :
    Calls Try.prog 38 #[.slice A l.length c] w fun e w' => ∃ v, e = .returned (.tuple #[v, .bool (CompF l).2]) ∧ Ow w' w.heap.size v (CompF l).1 ∧ Below w.heap.size w w' := by
  have HR := Aside0.mk hr
  have HC := Aside0.mk hc
  clear hr hc hw
  have HB := Aside0.mk (Below.refl w.heap.size w)
  by_cases hl : 1 ≤ l.length ∧ l.length ≤ 9
  · have HT := Aside0.mk (within_yes (show (1 : Int) ≤ (l.length : Int) ∧ (l.length : Int) ≤ 9 by omega))
    by_cases hd : Labels (l.length : Int) l
    · have H1 := Aside0.mk (tf_pos hd)
      have HD := Aside0.mk hd
      have HF := Aside0.mk (CompF_yes ⟨hl, hd⟩)
      have HO := Aside0.mk (Kd.R_nil (Kd.int .i64) 3 w w.heap.size (fun _ => True))
      clear hd
      go_enter Try.func38, Try.ntmps38
      go_wp2_with (first | (go_at_call 73; refine (nodes_calls _ _).mono ?_; rw [HT.out]; rintro e w' ⟨rfl, ⟨nd, rfl⟩⟩) | (go_at_call 69; refine (areLabels_calls l.length _ _ l _ (by first | exact HR.out | exact Kd.C_drewN HR.out _) HC.out hn hn).mono ?_; rw [H1.out]; rintro e w1 ⟨rfl, ⟨nd2, rfl⟩⟩))
      go_loopg [4, 20] l.length (fun g vo vi w' => ∃ (i : Nat) (xs : List Int), vi = .int .i64 i ∧ Aside0 (i + g = l.length) ∧ Aside0 (xs = comp l i) ∧ Aside0 (xs.length ≤ 1048576) ∧ Aside0 (Ow w' w.heap.size vo xs) ∧ Aside0 (Below w.heap.size w w'))
      case atStart => exact ⟨0, [], rfl, ⟨by omega⟩, ⟨by simp [comp]⟩, ⟨by simp⟩, ⟨(by first | exact HO.out | exact Ow_drewN HO.out _)⟩, ⟨(by repeat (first | (with_reducible first | exact HB.out | apply below_alloc | apply pw_below_drewN | apply below_drew1) | exact HB.out))⟩⟩
      case round =>
        clear HO HB
        obtain ⟨i, xs, rfl, HI, HX, HL, HO, HB⟩ := hrel
        by_cases hlt : i < l.length
        · obtain ⟨ad, rfl, hx⟩ := at_nat HR.out hlt
          replace hx := (HB.out.cell (World.block_lt_of_cell? w _ hx)).trans hx
          have b1 := (HD.out.2 i hlt).1
          have b2 := (HD.out.2 i hlt).2.1
          go_wp2_with ((at_builtin; refine Kd.R_append (Kd.int .i64) (w0 := w) w.heap.size rfl (.tmp 24) (.tmp 30) 22 3 (.int .i64 0) 8 rfl Try.underlying22 infoInt rfl (by decide) (by omega) u4 xs ((l.length : Int) - 1 - rd l (i : Int)) [.int .i64 ((l.length : Int) - 1 - rd l (i : Int))] (fun _ => True) (fun _ => False) rfl rfl rfl (fun _ hk => hk.elim) (fun _ _ => trivial) ?aO ?aB ?aS ?aL ?_; (case aO => exact (by (with_reducible repeat (first | apply Kd.R_alloc | apply Kd.R_drewN | apply Kd.R_drew)); exact HO.out)); (case aB => exact (by repeat (first | (with_reducible first | exact HB.out | apply below_alloc | apply pw_below_drewN | apply below_drew1) | exact HB.out))); (case aS => exact below_size (by repeat (first | (with_reducible first | exact HB.out | apply below_alloc | apply pw_below_drewN | apply below_drew1) | exact HB.out))); (case aL => have := HL.out; omega); intro v2 w2 ho_ hb_ hg_ hat_; have n0_ := Aside0.mk hb_; have n1_ := Aside0.mk ho_; clear HB HO; have HB := n0_; have HO := n1_; clear n0_ n1_ ho_ hb_ hg_ hat_))
          go_roundg (gk - 1)
          case measure => have := HI.out; omega
          case rel => exact ⟨i + 1, _, by go_num, ⟨by have := HI.out; omega⟩, ⟨by rw [HX.out, comp_succ]⟩, ⟨by rw [HX.out, List.length_append, comp_length, List.length_singleton]; omega⟩, HO, HB⟩
        · have HE := Aside0.mk (show xs = comp l l.length by rw [HX.out, show i = l.length by have := HI.out; omega])
          (go_wp2; repeat (go_quiet (fail); try go_wp2))
          go_ret2
          exact ⟨_, by rw [HF.out]; rfl, by rw [HF.out]; show Ow _ _ _ (comp _ _); rw [← HE.out]; exact (by first | exact HO.out | exact Ow_drewN HO.out _), (by repeat (first | (with_reducible first | exact HB.out | apply below_alloc | apply pw_below_drewN | apply below_drew1) | exact HB.out))⟩
    · have H1 := Aside0.mk (tf_neg hd)
      have HF := Aside0.mk (CompF_no (fun h => hd h.2 : ¬ Full l))
      clear hd
      go_enter Try.func38, Try.ntmps38
      go_wp2_with (first | (go_at_call 73; refine (nodes_calls _ _).mono ?_; rw [HT.out]; rintro e w' ⟨rfl, ⟨nd, rfl⟩⟩) | (go_at_call 69; refine (areLabels_calls l.length _ _ l _ (by first | exact HR.out | exact Kd.C_drewN HR.out _) HC.out hn hn).mono ?_; rw [H1.out]; rintro e w1 ⟨rfl, ⟨nd2, rfl⟩⟩))
      go_ret2
      exact ⟨_, by rw [HF.out]; rfl, by rw [HF.out]; exact Kd.R_nil _ _ _ _ _, (by repeat (first | (with_reducible first | exact HB.out | apply below_alloc | apply pw_below_drewN | apply below_drew1) | exact HB.out))⟩
  · have HT := Aside0.mk (within_no (show ¬ ((1 : Int) ≤ (l.length : Int) ∧ (l.length : Int) ≤ 9) by omega))
    have HF := Aside0.mk (CompF_no (fun h => hl h.1 : ¬ Full l))
    clear hl
    go_enter Try.func38, Try.ntmps38
    go_wp2_with (go_at_call 73; refine (nodes_calls _ _).mono ?_; rw [HT.out]; rintro e w' ⟨rfl, ⟨nd, rfl⟩⟩)
    go_ret2
    exact ⟨_, by rw [HF.out]; rfl, by rw [HF.out]; exact Kd.R_nil _ _ _ _ _, (by repeat (first | (with_reducible first | exact HB.out | apply below_alloc | apply pw_below_drewN | apply below_drew1) | exact HB.out))⟩
end Go.Proofs.Ytflfecocojafbaa.Own.G
