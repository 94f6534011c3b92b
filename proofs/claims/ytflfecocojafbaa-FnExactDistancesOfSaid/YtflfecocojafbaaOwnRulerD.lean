/- The distances that a ruler measures or misses: what the reference's and the program's functions return; lists of at most 1048576 numbers. -/
import Derived.Test.YtflfecocojafbaaOwnRulerB
namespace Go.Proofs.Ytflfecocojafbaa.Own.G
open Go.RowKit Go.Proofs.YtflfecocojafbaaW.PrintWords Go.Proofs.YtflfecocojafbaaW.PrintLast Go.Proofs.YtflfecocojafbaaW.PrintMore
set_option linter.unusedVariables false
/-- The numbers below i that a thing holds of. -/
noncomputable def picked (p : Nat → Prop) : Nat → List Int
  | 0 => []
  | i + 1 => if tf (p i) = true then picked p i ++ [(i : Int)] else picked p i
theorem picked_yes {p : Nat → Prop} {i : Nat} (h : p i) : picked p (i + 1) = picked p i ++ [(i : Int)] := if_pos (tf_pos h)
theorem picked_no {p : Nat → Prop} {i : Nat} (h : ¬ p i) : picked p (i + 1) = picked p i := if_neg (by rw [tf_neg h]; decide)
theorem picked_len (p : Nat → Prop) (i : Nat) : (picked p i).length ≤ i := by
  induction i with
  | zero => simp [picked]
  | succ i ih =>
    by_cases h : p i
    · rw [picked_yes h, List.length_append, List.length_singleton]; omega
    · rw [picked_no h]; omega
def Met (t : List Int) (i : Nat) : Prop := 0 < rd t (i : Int)
def Missed (t : List Int) (i : Nat) : Prop := 0 < i ∧ rd t (i : Int) = 0
noncomputable def MetF (l : List Int) : List Int × Bool := if tf (Ruler l) = true then (picked (Met (times l)) (times l).length, true) else ([], false)
noncomputable def MissedF (l : List Int) : List Int × Bool := if tf (Ruler l) = true then (picked (Missed (times l)) (times l).length, true) else ([], false)
theorem MetF_yes {l : List Int} (h : Ruler l) : MetF l = (picked (Met (times l)) (times l).length, true) := if_pos (tf_pos h)
theorem MetF_no {l : List Int} (h : ¬ Ruler l) : MetF l = ([], false) := if_neg (by rw [tf_neg h]; decide)
theorem MetF_len (l : List Int) (hn : l.length ≤ 1048576) : (MetF l).1.length ≤ 1048576 := by
  by_cases h : Ruler l
  · rw [MetF_yes h]
    have := picked_len (Met (times l)) (times l).length
    have h2 := times_length l
    have h3 := span_le h
    show (picked _ _).length ≤ _
    omega
  · rw [MetF_no h]; simp
theorem MissedF_yes {l : List Int} (h : Ruler l) : MissedF l = (picked (Missed (times l)) (times l).length, true) := if_pos (tf_pos h)
theorem MissedF_no {l : List Int} (h : ¬ Ruler l) : MissedF l = ([], false) := if_neg (by rw [tf_neg h]; decide)
theorem MissedF_len (l : List Int) (hn : l.length ≤ 1048576) : (MissedF l).1.length ≤ 1048576 := by
  by_cases h : Ruler l
  · rw [MissedF_yes h]
    have := picked_len (Missed (times l)) (times l).length
    have h2 := times_length l
    have h3 := span_le h
    show (picked _ _).length ≤ _
    omega
  · rw [MissedF_no h]; simp
set_option maxHeartbeats 3200000 in
theorem specDistancesOf_calls (A : Option Addr) (c : Nat) (l : List Int) (w : World) (hr : Rd w A l) (hc : l.length ≤ c) (hn : l.length ≤ 1048576) (hw : ∀ x ∈ l, W64 x) :
    Calls Try.prog 29 #[.slice A l.length c] w fun e w' => ∃ v, e = .returned (.tuple #[v, .bool (MetF l).2]) ∧ Ow w' w.heap.size v (MetF l).1 ∧ Below w.heap.size w w' := by
  have HR := Aside0.mk hr
  have HC := Aside0.mk hc
  clear hr hc hw
  have HB := Aside0.mk (Below.refl w.heap.size w)
  by_cases hd : Ruler l
  · have HD := Aside0.mk hd
    have H1 := Aside0.mk (tf_pos hd)
    have HF := Aside0.mk (MetF_yes hd)
    have hsp := span_le hd
    clear hd
    go_enter Try.func29, Try.ntmps29
    go_wp2_with (first | (go_at_call 64; refine (ruGood_calls _ _ l _ HR.out HC.out hn).mono ?_; rw [H1.out]; rintro e w' ⟨rfl, ⟨nd, rfl⟩⟩) | (go_at_call 65; refine (ruTimes_calls _ _ l _ (Kd.C_drewN HR.out _) HC.out HD.out).mono ?_; (rintro e w1 ⟨v1, rfl, ho, hb⟩; have hdl_ := times_length l; generalize hd_ : times l = d at ho hdl_; have HDL := Aside0.mk hdl_; have HDD := Aside0.mk hd_; clear hdl_ hd_; have HO := Aside0.mk (Ow_lower ho (below_size (by repeat (first | (with_reducible first | exact HB.out | apply below_alloc | apply pw_below_drewN | apply below_drew1) | exact HB.out)))); have n0_ := Aside0.mk (below_step (by repeat (first | (with_reducible first | exact HB.out | apply below_alloc | apply pw_below_drewN | apply below_drew1) | exact HB.out)) hb); clear HB ho hb; have HB := n0_; clear n0_; obtain ⟨A1, c1, e1_, hc1_, hr1_⟩ := Ow_form HO.out; subst e1_; have HC1 := Aside0.mk hc1_; clear hc1_ hr1_)))
    have HB0 := HB
    clear HB
    obtain ⟨wb, rfl⟩ : ∃ wb : World, wb = w := ⟨_, rfl⟩
    obtain ⟨w, rfl⟩ : ∃ w : World, w = w1 := ⟨_, rfl⟩
    have HT := Aside0.mk (Ow_rd HO.out)
    clear HO
    have HB := Aside0.mk (Below.refl w.heap.size w)
    have HO := Aside0.mk (Kd.R_nil (Kd.int .i64) 3 w w.heap.size (fun _ => True))
    have hdn : d.length ≤ 1048576 := by rw [HDL.out]; omega
    go_loopg [4, 13] d.length (fun g v4 v13 w' => ∃ (i : Nat) (xs : List Int), v13 = .int .i64 i ∧ Aside0 (i + g = d.length) ∧ Aside0 (xs = picked (Met d) i) ∧ Aside0 (xs.length ≤ 1048576) ∧ Aside0 (Ow w' w.heap.size v4 xs) ∧ Aside0 (Below w.heap.size w w'))
    case atStart => exact ⟨0, [], rfl, ⟨by omega⟩, ⟨by simp [picked]⟩, ⟨by simp⟩, ⟨by first | exact HO.out | exact Ow_drewN HO.out _⟩, ⟨(by repeat (first | (with_reducible first | exact HB.out | apply below_alloc | apply pw_below_drewN | apply below_drew1) | exact HB.out))⟩⟩
    case round =>
      clear HO HB
      obtain ⟨i, xs, rfl, HI, HX, HL, HO, HB⟩ := hrel
      by_cases hlt : i < d.length
      · obtain ⟨ad2, rfl, hx⟩ := at_nat HT.out hlt
        replace hx := (HB.out.cell (World.block_lt_of_cell? w _ hx)).trans hx
        have HXL := Aside0.mk (picked_len (Met d) i)
        by_cases hp : Met d i
        · have HY := Aside0.mk (picked_yes hp)
          have HP := Aside0.mk hp
          have hq : 0 < rd d (i : Int) := hp
          clear hp
          go_wp2_with ((at_builtin; refine Kd.R_append (Kd.int .i64) (w0 := w) w.heap.size rfl (.tmp 20) (.tmp 22) 22 3 (.int .i64 0) 8 rfl Try.underlying22 infoInt rfl (by decide) (by omega) u4 xs ((i : Int)) [.int .i64 ((i : Int))] (fun _ => True) (fun _ => False) rfl rfl rfl (fun _ hk => hk.elim) (fun _ _ => trivial) ?aO ?aB ?aS ?aL ?_; (case aO => exact (by (with_reducible repeat (first | apply Kd.R_alloc | apply Kd.R_drewN | apply Kd.R_drew)); exact HO.out)); (case aB => exact (by repeat (first | (with_reducible first | exact HB.out | apply below_alloc | apply pw_below_drewN | apply below_drew1) | exact HB.out))); (case aS => exact below_size (by repeat (first | (with_reducible first | exact HB.out | apply below_alloc | apply pw_below_drewN | apply below_drew1) | exact HB.out))); (case aL => have := HL.out; omega); intro v2 w2 ho_ hb_ hg_ hat_; have n0_ := Aside0.mk hb_; have n1_ := Aside0.mk ho_; clear HB HO; have HB := n0_; have HO := n1_; clear n0_ n1_ ho_ hb_ hg_ hat_))
          go_roundg (gk - 1)
          case measure => have := HI.out; omega
          case rel => exact ⟨i + 1, _, by go_num, ⟨by have := HI.out; omega⟩, ⟨by rw [HX.out, HY.out]⟩, ⟨by rw [HX.out, List.length_append, List.length_singleton]; have := HXL.out; omega⟩, HO, HB⟩
        · have HY := Aside0.mk (picked_no hp)
          have hq : ¬ 0 < rd d (i : Int) := hp; clear hp
          all_goals
            go_wp2_with (fail)
            go_roundg (gk - 1)
            case measure => have := HI.out; omega
            case rel => exact ⟨i + 1, xs, by go_num, ⟨by have := HI.out; omega⟩, ⟨by rw [HX.out, HY.out]⟩, HL, HO, HB⟩
      · have HE := Aside0.mk (show xs = picked (Met (times l)) (times l).length by rw [HX.out, HDD.out, show i = d.length by have := HI.out; omega])
        (go_wp2; repeat (go_quiet (fail); try go_wp2))
        go_ret2
        exact ⟨_, by rw [HF.out]; rfl, by rw [HF.out]; show Ow _ _ _ (picked _ _); rw [← HE.out]; exact Ow_lower (by first | exact HO.out | exact Ow_drewN HO.out _) HB0.out.size, below_step HB0.out (by repeat (first | (with_reducible first | exact HB.out | apply below_alloc | apply pw_below_drewN | apply below_drew1) | exact HB.out))⟩
  · have H1 := Aside0.mk (tf_neg hd)
    have HF := Aside0.mk (MetF_no hd)
    clear hd
    go_enter Try.func29, Try.ntmps29
    go_wp2_with (go_at_call 64; refine (ruGood_calls _ _ l _ HR.out HC.out hn).mono ?_; rw [H1.out]; rintro e w' ⟨rfl, ⟨nd, rfl⟩⟩)
    go_ret2
    exact ⟨_, by rw [HF.out]; rfl, by rw [HF.out]; exact Kd.R_nil _ _ _ _ _, (by repeat (first | (with_reducible first | exact HB.out | apply below_alloc | apply pw_below_drewN | apply below_drew1) | exact HB.out))⟩
set_option maxHeartbeats 3200000 in
theorem implDistancesOf_calls (A : Option Addr) (c : Nat) (l : List Int) (w : World) (hr : Rd w A l) (hc : l.length ≤ c) (hn : l.length ≤ 1048576) (hw : ∀ x ∈ l, W64 x) :
    Calls Try.prog 30 #[.slice A l.length c] w fun e w' => ∃ v, e = .returned (.tuple #[v, .bool (MetF l).2]) ∧ Ow w' w.heap.size v (MetF l).1 ∧ Below w.heap.size w w' := by
  have HR := Aside0.mk hr
  have HC := Aside0.mk hc
  clear hr hc hw
  have HB := Aside0.mk (Below.refl w.heap.size w)
  by_cases hd : Ruler l
  · have HD := Aside0.mk hd
    have H1 := Aside0.mk (tf_pos hd)
    have HF := Aside0.mk (MetF_yes hd)
    have hsp := span_le hd
    clear hd
    go_enter Try.func30, Try.ntmps30
    go_wp2_with (first | (go_at_call 66; refine (IsRuler_calls _ _ l _ HR.out HC.out hn).mono ?_; rw [H1.out]; rintro e w' ⟨rfl, ⟨nd, rfl⟩⟩) | (go_at_call 67; refine (measured_calls _ _ l _ (Kd.C_drewN HR.out _) HC.out HD.out).mono ?_; (rintro e w1 ⟨v1, rfl, ho, hb⟩; have hdl_ := times_length l; generalize hd_ : times l = d at ho hdl_; have HDL := Aside0.mk hdl_; have HDD := Aside0.mk hd_; clear hdl_ hd_; have HO := Aside0.mk (Ow_lower ho (below_size (by repeat (first | (with_reducible first | exact HB.out | apply below_alloc | apply pw_below_drewN | apply below_drew1) | exact HB.out)))); have n0_ := Aside0.mk (below_step (by repeat (first | (with_reducible first | exact HB.out | apply below_alloc | apply pw_below_drewN | apply below_drew1) | exact HB.out)) hb); clear HB ho hb; have HB := n0_; clear n0_; obtain ⟨A1, c1, e1_, hc1_, hr1_⟩ := Ow_form HO.out; subst e1_; have HC1 := Aside0.mk hc1_; clear hc1_ hr1_)))
    have HB0 := HB
    clear HB
    obtain ⟨wb, rfl⟩ : ∃ wb : World, wb = w := ⟨_, rfl⟩
    obtain ⟨w, rfl⟩ : ∃ w : World, w = w1 := ⟨_, rfl⟩
    have HT := Aside0.mk (Ow_rd HO.out)
    clear HO
    have HB := Aside0.mk (Below.refl w.heap.size w)
    have HO := Aside0.mk (Kd.R_nil (Kd.int .i64) 3 w w.heap.size (fun _ => True))
    have hdn : d.length ≤ 1048576 := by rw [HDL.out]; omega
    go_loopg [4, 13] d.length (fun g v4 v13 w' => ∃ (i : Nat) (xs : List Int), v13 = .int .i64 i ∧ Aside0 (i + g = d.length) ∧ Aside0 (xs = picked (Met d) i) ∧ Aside0 (xs.length ≤ 1048576) ∧ Aside0 (Ow w' w.heap.size v4 xs) ∧ Aside0 (Below w.heap.size w w'))
    case atStart => exact ⟨0, [], rfl, ⟨by omega⟩, ⟨by simp [picked]⟩, ⟨by simp⟩, ⟨by first | exact HO.out | exact Ow_drewN HO.out _⟩, ⟨(by repeat (first | (with_reducible first | exact HB.out | apply below_alloc | apply pw_below_drewN | apply below_drew1) | exact HB.out))⟩⟩
    case round =>
      clear HO HB
      obtain ⟨i, xs, rfl, HI, HX, HL, HO, HB⟩ := hrel
      by_cases hlt : i < d.length
      · obtain ⟨ad2, rfl, hx⟩ := at_nat HT.out hlt
        replace hx := (HB.out.cell (World.block_lt_of_cell? w _ hx)).trans hx
        have HXL := Aside0.mk (picked_len (Met d) i)
        by_cases hp : Met d i
        · have HY := Aside0.mk (picked_yes hp)
          have HP := Aside0.mk hp
          have hq : 0 < rd d (i : Int) := hp
          clear hp
          go_wp2_with ((at_builtin; refine Kd.R_append (Kd.int .i64) (w0 := w) w.heap.size rfl (.tmp 20) (.tmp 22) 22 3 (.int .i64 0) 8 rfl Try.underlying22 infoInt rfl (by decide) (by omega) u4 xs ((i : Int)) [.int .i64 ((i : Int))] (fun _ => True) (fun _ => False) rfl rfl rfl (fun _ hk => hk.elim) (fun _ _ => trivial) ?aO ?aB ?aS ?aL ?_; (case aO => exact (by (with_reducible repeat (first | apply Kd.R_alloc | apply Kd.R_drewN | apply Kd.R_drew)); exact HO.out)); (case aB => exact (by repeat (first | (with_reducible first | exact HB.out | apply below_alloc | apply pw_below_drewN | apply below_drew1) | exact HB.out))); (case aS => exact below_size (by repeat (first | (with_reducible first | exact HB.out | apply below_alloc | apply pw_below_drewN | apply below_drew1) | exact HB.out))); (case aL => have := HL.out; omega); intro v2 w2 ho_ hb_ hg_ hat_; have n0_ := Aside0.mk hb_; have n1_ := Aside0.mk ho_; clear HB HO; have HB := n0_; have HO := n1_; clear n0_ n1_ ho_ hb_ hg_ hat_))
          go_roundg (gk - 1)
          case measure => have := HI.out; omega
          case rel => exact ⟨i + 1, _, by go_num, ⟨by have := HI.out; omega⟩, ⟨by rw [HX.out, HY.out]⟩, ⟨by rw [HX.out, List.length_append, List.length_singleton]; have := HXL.out; omega⟩, HO, HB⟩
        · have HY := Aside0.mk (picked_no hp)
          have hq : ¬ 0 < rd d (i : Int) := hp; clear hp
          all_goals
            go_wp2_with (fail)
            go_roundg (gk - 1)
            case measure => have := HI.out; omega
            case rel => exact ⟨i + 1, xs, by go_num, ⟨by have := HI.out; omega⟩, ⟨by rw [HX.out, HY.out]⟩, HL, HO, HB⟩
      · have HE := Aside0.mk (show xs = picked (Met (times l)) (times l).length by rw [HX.out, HDD.out, show i = d.length by have := HI.out; omega])
        (go_wp2; repeat (go_quiet (fail); try go_wp2))
        go_ret2
        exact ⟨_, by rw [HF.out]; rfl, by rw [HF.out]; show Ow _ _ _ (picked _ _); rw [← HE.out]; exact Ow_lower (by first | exact HO.out | exact Ow_drewN HO.out _) HB0.out.size, below_step HB0.out (by repeat (first | (with_reducible first | exact HB.out | apply below_alloc | apply pw_below_drewN | apply below_drew1) | exact HB.out))⟩
  · have H1 := Aside0.mk (tf_neg hd)
    have HF := Aside0.mk (MetF_no hd)
    clear hd
    go_enter Try.func30, Try.ntmps30
    go_wp2_with (go_at_call 66; refine (IsRuler_calls _ _ l _ HR.out HC.out hn).mono ?_; rw [H1.out]; rintro e w' ⟨rfl, ⟨nd, rfl⟩⟩)
    go_ret2
    exact ⟨_, by rw [HF.out]; rfl, by rw [HF.out]; exact Kd.R_nil _ _ _ _ _, (by repeat (first | (with_reducible first | exact HB.out | apply below_alloc | apply pw_below_drewN | apply below_drew1) | exact HB.out))⟩
set_option maxHeartbeats 3200000 in
theorem specMissingDistances_calls (A : Option Addr) (c : Nat) (l : List Int) (w : World) (hr : Rd w A l) (hc : l.length ≤ c) (hn : l.length ≤ 1048576) (hw : ∀ x ∈ l, W64 x) :
    Calls Try.prog 31 #[.slice A l.length c] w fun e w' => ∃ v, e = .returned (.tuple #[v, .bool (MissedF l).2]) ∧ Ow w' w.heap.size v (MissedF l).1 ∧ Below w.heap.size w w' := by
  have HR := Aside0.mk hr
  have HC := Aside0.mk hc
  clear hr hc hw
  have HB := Aside0.mk (Below.refl w.heap.size w)
  by_cases hd : Ruler l
  · have HD := Aside0.mk hd
    have H1 := Aside0.mk (tf_pos hd)
    have HF := Aside0.mk (MissedF_yes hd)
    have hsp := span_le hd
    clear hd
    go_enter Try.func31, Try.ntmps31
    go_wp2_with (first | (go_at_call 64; refine (ruGood_calls _ _ l _ HR.out HC.out hn).mono ?_; rw [H1.out]; rintro e w' ⟨rfl, ⟨nd, rfl⟩⟩) | (go_at_call 65; refine (ruTimes_calls _ _ l _ (Kd.C_drewN HR.out _) HC.out HD.out).mono ?_; (rintro e w1 ⟨v1, rfl, ho, hb⟩; have hdl_ := times_length l; generalize hd_ : times l = d at ho hdl_; have HDL := Aside0.mk hdl_; have HDD := Aside0.mk hd_; clear hdl_ hd_; have HO := Aside0.mk (Ow_lower ho (below_size (by repeat (first | (with_reducible first | exact HB.out | apply below_alloc | apply pw_below_drewN | apply below_drew1) | exact HB.out)))); have n0_ := Aside0.mk (below_step (by repeat (first | (with_reducible first | exact HB.out | apply below_alloc | apply pw_below_drewN | apply below_drew1) | exact HB.out)) hb); clear HB ho hb; have HB := n0_; clear n0_; obtain ⟨A1, c1, e1_, hc1_, hr1_⟩ := Ow_form HO.out; subst e1_; have HC1 := Aside0.mk hc1_; clear hc1_ hr1_)))
    have HB0 := HB
    clear HB
    obtain ⟨wb, rfl⟩ : ∃ wb : World, wb = w := ⟨_, rfl⟩
    obtain ⟨w, rfl⟩ : ∃ w : World, w = w1 := ⟨_, rfl⟩
    have HT := Aside0.mk (Ow_rd HO.out)
    clear HO
    have HB := Aside0.mk (Below.refl w.heap.size w)
    have HO := Aside0.mk (Kd.R_nil (Kd.int .i64) 3 w w.heap.size (fun _ => True))
    have hdn : d.length ≤ 1048576 := by rw [HDL.out]; omega
    go_loopg [4, 13] d.length (fun g v4 v13 w' => ∃ (i : Nat) (xs : List Int), v13 = .int .i64 i ∧ Aside0 (i + g = d.length) ∧ Aside0 (xs = picked (Missed d) i) ∧ Aside0 (xs.length ≤ 1048576) ∧ Aside0 (Ow w' w.heap.size v4 xs) ∧ Aside0 (Below w.heap.size w w'))
    case atStart => exact ⟨0, [], rfl, ⟨by omega⟩, ⟨by simp [picked]⟩, ⟨by simp⟩, ⟨by first | exact HO.out | exact Ow_drewN HO.out _⟩, ⟨(by repeat (first | (with_reducible first | exact HB.out | apply below_alloc | apply pw_below_drewN | apply below_drew1) | exact HB.out))⟩⟩
    case round =>
      clear HO HB
      obtain ⟨i, xs, rfl, HI, HX, HL, HO, HB⟩ := hrel
      by_cases hlt : i < d.length
      · obtain ⟨ad2, rfl, hx⟩ := at_nat HT.out hlt
        replace hx := (HB.out.cell (World.block_lt_of_cell? w _ hx)).trans hx
        have HXL := Aside0.mk (picked_len (Missed d) i)
        by_cases hp : Missed d i
        · have HY := Aside0.mk (picked_yes hp)
          have HP := Aside0.mk hp
          have hi0 : 0 < i := hp.1; have ht : (rd d (i : Int) == 0) = true := beq_iff_eq.mpr hp.2
          clear hp
          go_wp2_with ((at_builtin; refine Kd.R_append (Kd.int .i64) (w0 := w) w.heap.size rfl (.tmp 24) (.tmp 26) 22 3 (.int .i64 0) 8 rfl Try.underlying22 infoInt rfl (by decide) (by omega) u4 xs ((i : Int)) [.int .i64 ((i : Int))] (fun _ => True) (fun _ => False) rfl rfl rfl (fun _ hk => hk.elim) (fun _ _ => trivial) ?aO ?aB ?aS ?aL ?_; (case aO => exact (by (with_reducible repeat (first | apply Kd.R_alloc | apply Kd.R_drewN | apply Kd.R_drew)); exact HO.out)); (case aB => exact (by repeat (first | (with_reducible first | exact HB.out | apply below_alloc | apply pw_below_drewN | apply below_drew1) | exact HB.out))); (case aS => exact below_size (by repeat (first | (with_reducible first | exact HB.out | apply below_alloc | apply pw_below_drewN | apply below_drew1) | exact HB.out))); (case aL => have := HL.out; omega); intro v2 w2 ho_ hb_ hg_ hat_; have n0_ := Aside0.mk hb_; have n1_ := Aside0.mk ho_; clear HB HO; have HB := n0_; have HO := n1_; clear n0_ n1_ ho_ hb_ hg_ hat_))
          go_roundg (gk - 1)
          case measure => have := HI.out; omega
          case rel => exact ⟨i + 1, _, by go_num, ⟨by have := HI.out; omega⟩, ⟨by rw [HX.out, HY.out]⟩, ⟨by rw [HX.out, List.length_append, List.length_singleton]; have := HXL.out; omega⟩, HO, HB⟩
        · have HY := Aside0.mk (picked_no hp)
          by_cases hi0 : 0 < i; (have ht : (rd d (i : Int) == 0) = false := beq_eq_false_iff_ne.mpr (fun h => hp ⟨hi0, h⟩)); clear hp; rotate_left; clear hp; rotate_left
          all_goals
            go_wp2_with (fail)
            go_roundg (gk - 1)
            case measure => have := HI.out; omega
            case rel => exact ⟨i + 1, xs, by go_num, ⟨by have := HI.out; omega⟩, ⟨by rw [HX.out, HY.out]⟩, HL, HO, HB⟩
      · have HE := Aside0.mk (show xs = picked (Missed (times l)) (times l).length by rw [HX.out, HDD.out, show i = d.length by have := HI.out; omega])
        (go_wp2; repeat (go_quiet (fail); try go_wp2))
        go_ret2
        exact ⟨_, by rw [HF.out]; rfl, by rw [HF.out]; show Ow _ _ _ (picked _ _); rw [← HE.out]; exact Ow_lower (by first | exact HO.out | exact Ow_drewN HO.out _) HB0.out.size, below_step HB0.out (by repeat (first | (with_reducible first | exact HB.out | apply below_alloc | apply pw_below_drewN | apply below_drew1) | exact HB.out))⟩
  · have H1 := Aside0.mk (tf_neg hd)
    have HF := Aside0.mk (MissedF_no hd)
    clear hd
    go_enter Try.func31, Try.ntmps31
    go_wp2_with (go_at_call 64; refine (ruGood_calls _ _ l _ HR.out HC.out hn).mono ?_; rw [H1.out]; rintro e w' ⟨rfl, ⟨nd, rfl⟩⟩)
    go_ret2
    exact ⟨_, by rw [HF.out]; rfl, by rw [HF.out]; exact Kd.R_nil _ _ _ _ _, (by repeat (first | (with_reducible first | exact HB.out | apply below_alloc | apply pw_below_drewN | apply below_drew1) | exact HB.out))⟩
set_option maxHeartbeats 3200000 in
theorem implMissingDistances_calls (A : Option Addr) (c : Nat) (l : List Int) (w : World) (hr : Rd w A l) (hc : l.length ≤ c) (hn : l.length ≤ 1048576) (hw : ∀ x ∈ l, W64 x) :
    Calls Try.prog 32 #[.slice A l.length c] w fun e w' => ∃ v, e = .returned (.tuple #[v, .bool (MissedF l).2]) ∧ Ow w' w.heap.size v (MissedF l).1 ∧ Below w.heap.size w w' := by
  have HR := Aside0.mk hr
  have HC := Aside0.mk hc
  clear hr hc hw
  have HB := Aside0.mk (Below.refl w.heap.size w)
  by_cases hd : Ruler l
  · have HD := Aside0.mk hd
    have H1 := Aside0.mk (tf_pos hd)
    have HF := Aside0.mk (MissedF_yes hd)
    have hsp := span_le hd
    clear hd
    go_enter Try.func32, Try.ntmps32
    go_wp2_with (first | (go_at_call 66; refine (IsRuler_calls _ _ l _ HR.out HC.out hn).mono ?_; rw [H1.out]; rintro e w' ⟨rfl, ⟨nd, rfl⟩⟩) | (go_at_call 67; refine (measured_calls _ _ l _ (Kd.C_drewN HR.out _) HC.out HD.out).mono ?_; (rintro e w1 ⟨v1, rfl, ho, hb⟩; have hdl_ := times_length l; generalize hd_ : times l = d at ho hdl_; have HDL := Aside0.mk hdl_; have HDD := Aside0.mk hd_; clear hdl_ hd_; have HO := Aside0.mk (Ow_lower ho (below_size (by repeat (first | (with_reducible first | exact HB.out | apply below_alloc | apply pw_below_drewN | apply below_drew1) | exact HB.out)))); have n0_ := Aside0.mk (below_step (by repeat (first | (with_reducible first | exact HB.out | apply below_alloc | apply pw_below_drewN | apply below_drew1) | exact HB.out)) hb); clear HB ho hb; have HB := n0_; clear n0_; obtain ⟨A1, c1, e1_, hc1_, hr1_⟩ := Ow_form HO.out; subst e1_; have HC1 := Aside0.mk hc1_; clear hc1_ hr1_)))
    have HB0 := HB
    clear HB
    obtain ⟨wb, rfl⟩ : ∃ wb : World, wb = w := ⟨_, rfl⟩
    obtain ⟨w, rfl⟩ : ∃ w : World, w = w1 := ⟨_, rfl⟩
    have HT := Aside0.mk (Ow_rd HO.out)
    clear HO
    have HB := Aside0.mk (Below.refl w.heap.size w)
    have HO := Aside0.mk (Kd.R_nil (Kd.int .i64) 3 w w.heap.size (fun _ => True))
    have hdn : d.length ≤ 1048576 := by rw [HDL.out]; omega
    go_loopg [4, 13] d.length (fun g v4 v13 w' => ∃ (i : Nat) (xs : List Int), v13 = .int .i64 i ∧ Aside0 (i + g = d.length) ∧ Aside0 (xs = picked (Missed d) i) ∧ Aside0 (xs.length ≤ 1048576) ∧ Aside0 (Ow w' w.heap.size v4 xs) ∧ Aside0 (Below w.heap.size w w'))
    case atStart => exact ⟨0, [], rfl, ⟨by omega⟩, ⟨by simp [picked]⟩, ⟨by simp⟩, ⟨by first | exact HO.out | exact Ow_drewN HO.out _⟩, ⟨(by repeat (first | (with_reducible first | exact HB.out | apply below_alloc | apply pw_below_drewN | apply below_drew1) | exact HB.out))⟩⟩
    case round =>
      clear HO HB
      obtain ⟨i, xs, rfl, HI, HX, HL, HO, HB⟩ := hrel
      by_cases hlt : i < d.length
      · obtain ⟨ad2, rfl, hx⟩ := at_nat HT.out hlt
        replace hx := (HB.out.cell (World.block_lt_of_cell? w _ hx)).trans hx
        have HXL := Aside0.mk (picked_len (Missed d) i)
        by_cases hp : Missed d i
        · have HY := Aside0.mk (picked_yes hp)
          have HP := Aside0.mk hp
          have hi0 : 0 < i := hp.1; have ht : (rd d (i : Int) == 0) = true := beq_iff_eq.mpr hp.2
          clear hp
          go_wp2_with ((at_builtin; refine Kd.R_append (Kd.int .i64) (w0 := w) w.heap.size rfl (.tmp 24) (.tmp 26) 22 3 (.int .i64 0) 8 rfl Try.underlying22 infoInt rfl (by decide) (by omega) u4 xs ((i : Int)) [.int .i64 ((i : Int))] (fun _ => True) (fun _ => False) rfl rfl rfl (fun _ hk => hk.elim) (fun _ _ => trivial) ?aO ?aB ?aS ?aL ?_; (case aO => exact (by (with_reducible repeat (first | apply Kd.R_alloc | apply Kd.R_drewN | apply Kd.R_drew)); exact HO.out)); (case aB => exact (by repeat (first | (with_reducible first | exact HB.out | apply below_alloc | apply pw_below_drewN | apply below_drew1) | exact HB.out))); (case aS => exact below_size (by repeat (first | (with_reducible first | exact HB.out | apply below_alloc | apply pw_below_drewN | apply below_drew1) | exact HB.out))); (case aL => have := HL.out; omega); intro v2 w2 ho_ hb_ hg_ hat_; have n0_ := Aside0.mk hb_; have n1_ := Aside0.mk ho_; clear HB HO; have HB := n0_; have HO := n1_; clear n0_ n1_ ho_ hb_ hg_ hat_))
          go_roundg (gk - 1)
          case measure => have := HI.out; omega
          case rel => exact ⟨i + 1, _, by go_num, ⟨by have := HI.out; omega⟩, ⟨by rw [HX.out, HY.out]⟩, ⟨by rw [HX.out, List.length_append, List.length_singleton]; have := HXL.out; omega⟩, HO, HB⟩
        · have HY := Aside0.mk (picked_no hp)
          by_cases hi0 : 0 < i; (have ht : (rd d (i : Int) == 0) = false := beq_eq_false_iff_ne.mpr (fun h => hp ⟨hi0, h⟩)); clear hp; rotate_left; clear hp; rotate_left
          all_goals
            go_wp2_with (fail)
            go_roundg (gk - 1)
            case measure => have := HI.out; omega
            case rel => exact ⟨i + 1, xs, by go_num, ⟨by have := HI.out; omega⟩, ⟨by rw [HX.out, HY.out]⟩, HL, HO, HB⟩
      · have HE := Aside0.mk (show xs = picked (Missed (times l)) (times l).length by rw [HX.out, HDD.out, show i = d.length by have := HI.out; omega])
        (go_wp2; repeat (go_quiet (fail); try go_wp2))
        go_ret2
        exact ⟨_, by rw [HF.out]; rfl, by rw [HF.out]; show Ow _ _ _ (picked _ _); rw [← HE.out]; exact Ow_lower (by first | exact HO.out | exact Ow_drewN HO.out _) HB0.out.size, below_step HB0.out (by repeat (first | (with_reducible first | exact HB.out | apply below_alloc | apply pw_below_drewN | apply below_drew1) | exact HB.out))⟩
  · have H1 := Aside0.mk (tf_neg hd)
    have HF := Aside0.mk (MissedF_no hd)
    clear hd
    go_enter Try.func32, Try.ntmps32
    go_wp2_with (go_at_call 66; refine (IsRuler_calls _ _ l _ HR.out HC.out hn).mono ?_; rw [H1.out]; rintro e w' ⟨rfl, ⟨nd, rfl⟩⟩)
    go_ret2
    exact ⟨_, by rw [HF.out]; rfl, by rw [HF.out]; exact Kd.R_nil _ _ _ _ _, (by repeat (first | (with_reducible first | exact HB.out | apply below_alloc | apply pw_below_drewN | apply below_drew1) | exact HB.out))⟩
end Go.Proofs.Ytflfecocojafbaa.Own.G
