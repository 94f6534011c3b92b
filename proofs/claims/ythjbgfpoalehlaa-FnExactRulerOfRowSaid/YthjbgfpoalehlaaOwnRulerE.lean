/- The ruler of a row: what the reference's and the program's RulerOfRow return; lists of at most 1048576 numbers. -/
import Derived.Test.YthjbgfpoalehlaaOwnRulerA
import Derived.Test.YthjbgfpoalehlaaOwnRowA
namespace Go.Proofs.Ythjbgfpoalehlaa.Own.G
open Go.RowKit Go.Proofs.YthjbgfpoalehlaaW.PrintWords Go.Proofs.YthjbgfpoalehlaaW.PrintLast Go.Proofs.YthjbgfpoalehlaaW.PrintMore
set_option linter.unusedVariables false
/-- The places below i at which a number stands. -/
noncomputable def spots (l : List Int) : Nat → List Int
  | 0 => []
  | i + 1 => if tf (0 < rd l (i : Int)) = true then spots l i ++ [(i : Int)] else spots l i
theorem spots_yes {l : List Int} {i : Nat} (h : 0 < rd l (i : Int)) : spots l (i + 1) = spots l i ++ [(i : Int)] := if_pos (tf_pos h)
theorem spots_no {l : List Int} {i : Nat} (h : ¬ 0 < rd l (i : Int)) : spots l (i + 1) = spots l i := if_neg (by rw [tf_neg h]; decide)
theorem spots_len (l : List Int) (i : Nat) : (spots l i).length ≤ i := by
  induction i with
  | zero => simp [spots]
  | succ i ih =>
    by_cases h : 0 < rd l (i : Int)
    · rw [spots_yes h, List.length_append, List.length_singleton]; omega
    · rw [spots_no h]; omega
theorem spots_in (l : List Int) (i : Nat) : ∀ x ∈ spots l i, 0 ≤ x ∧ x < (i : Int) := by
  induction i with
  | zero => simp [spots]
  | succ i ih =>
    intro x hx
    by_cases h : 0 < rd l (i : Int)
    · rw [spots_yes h, List.mem_append] at hx
      rcases hx with hx | hx
      · have := ih x hx; omega
      · have := List.mem_singleton.mp hx; omega
    · rw [spots_no h] at hx
      have := ih x hx; omega
/-- The first of a list; -1 if there is none. -/
def fst1 : List Int → Int
  | [] => -1
  | x :: _ => x
def shift (p : List Int) : List Int := p.map fun x => x - fst1 p
theorem shift_length (p : List Int) : (shift p).length = p.length := by simp [shift]
theorem fst1_nil_app (x : Int) : fst1 ([] ++ [x]) = x := rfl
theorem fst1_app {p : List Int} (h : p ≠ []) (x : Int) : fst1 (p ++ [x]) = fst1 p := by
  cases p with
  | nil => exact absurd rfl h
  | cons a p => rfl
theorem shift_app (p : List Int) (x : Int) : shift (p ++ [x]) = shift p ++ [x - fst1 (p ++ [x])] := by
  cases p with
  | nil => rfl
  | cons a p => simp [shift, fst1]
theorem fst1_rd {p : List Int} (h : 0 < p.length) : fst1 p = rd p 0 := by
  cases p with
  | nil => simp at h
  | cons a p => rfl
theorem fst1_pos {p : List Int} (h : ∀ x ∈ p, 0 ≤ x) : (0 ≤ fst1 p ↔ p ≠ []) := by
  cases p with
  | nil => simp [fst1]
  | cons a p => simp [fst1, h a (by simp)]
theorem shift_rd {p : List Int} {i : Nat} (h : i < p.length) : rd (shift p) (i : Int) = rd p (i : Int) - rd p 0 := by
  rw [← fst1_rd (by omega), rd_get (by rw [shift_length]; exact h), rd_get h]
  simp [shift]
theorem shift_step {xs : List Int} {i : Nat} (h : i < xs.length) : (xs.take (i + 1) ++ (shift xs).drop (i + 1)).set i (rd xs (i : Int) - rd xs 0) = xs.take i ++ (shift xs).drop i := by
  have hs : i < (shift xs).length := by rw [shift_length]; exact h
  rw [take_rd h, List.append_assoc, List.set_append_right _ _ (by rw [List.length_take]; omega), List.length_take, Nat.min_eq_left (by omega), Nat.sub_self, drop_rd hs, shift_rd h]
  rfl
theorem shift_head {xs : List Int} {i g : Nat} (h : i < g) (hg : g ≤ xs.length) : rd (xs.take g ++ (shift xs).drop g) (i : Int) = rd xs (i : Int) := by
  rw [rd_get (by rw [List.length_append, List.length_take]; omega), rd_get (by omega), List.getElem_append_left (by rw [List.length_take]; omega), List.getElem_take]
noncomputable def rulerRow (l : List Int) : List Int := shift (spots l l.length)
noncomputable def RowRulerF (l : List Int) : List Int × Bool := if tf (Row l ∧ Ruler (rulerRow l)) = true then (rulerRow l, true) else ([], false)
theorem RowRulerF_yes {l : List Int} (h : Row l ∧ Ruler (rulerRow l)) : RowRulerF l = (rulerRow l, true) := if_pos (tf_pos h)
theorem RowRulerF_no {l : List Int} (h : ¬ (Row l ∧ Ruler (rulerRow l))) : RowRulerF l = ([], false) := if_neg (by rw [tf_neg h]; decide)
theorem rulerRow_len (l : List Int) : (rulerRow l).length ≤ l.length := by rw [rulerRow, shift_length]; exact spots_len _ _
theorem RowRulerF_len (l : List Int) (hn : l.length ≤ 1048576) : (RowRulerF l).1.length ≤ 1048576 := by
  by_cases h : Row l ∧ Ruler (rulerRow l)
  · rw [RowRulerF_yes h]; exact Nat.le_trans (rulerRow_len l) hn
  · rw [RowRulerF_no h]; simp
set_option maxHeartbeats 3200000 in
theorem specRulerOfRow_calls (A : Option Addr) (c : Nat) (l : List Int) (w : World) (hr : Rd w A l) (hc : l.length ≤ c) (hn : l.length ≤ 1048576) (hw : ∀ x ∈ l, W64 x) :
    Calls Try.prog 31 #[.slice A l.length c] w fun e w' => ∃ v, e = .returned (.tuple #[v, .bool (RowRulerF l).2]) ∧ Ow w' w.heap.size v (RowRulerF l).1 ∧ Below w.heap.size w w' := by
  have HR := Aside0.mk hr
  have HC := Aside0.mk hc
  clear hr hc hw
  have HB := Aside0.mk (Below.refl w.heap.size w)
  by_cases hd : Row l
  · have HD := Aside0.mk hd
    have H1 := Aside0.mk (tf_pos hd)
    have hlen := hd.1
    have HO := Aside0.mk (Kd.R_nil (Kd.int .i64) 3 w w.heap.size (fun _ => True))
    clear hd
    go_enter Try.func31, Try.ntmps31
    go_wp2_with (go_at_call 60; refine (roGood_calls _ _ l _ HR.out HC.out hn).mono ?_; rw [H1.out]; rintro e w' ⟨rfl, ⟨nd, rfl⟩⟩)
    go_loopg [4, 5, 13] l.length (fun g v4 v5 v13 w' => ∃ (i : Nat) (f : Int) (xs : List Int), v5 = .int .i64 f ∧ v13 = .int .i64 i ∧ Aside0 (i + g = l.length) ∧ Aside0 (f = fst1 (spots l i)) ∧ Aside0 (xs = shift (spots l i)) ∧ Aside0 (xs.length ≤ 1048576) ∧ Aside0 (Ow w' w.heap.size v4 xs) ∧ Aside0 (Below w.heap.size w w'))
    case atStart => exact ⟨0, -1, [], by first | rfl | go_num, rfl, ⟨by omega⟩, ⟨rfl⟩, ⟨rfl⟩, ⟨by simp⟩, ⟨(by first | exact HO.out | exact Ow_drewN HO.out _)⟩, ⟨(by repeat (first | (with_reducible first | exact HB.out | apply below_alloc | apply pw_below_drewN | apply below_drew1) | exact HB.out))⟩⟩
    case round =>
      clear HO HB
      obtain ⟨i, f, xs, rfl, rfl, HI, HFF, HX, HL, HO, HB⟩ := hrel
      by_cases hlt : i < l.length
      · obtain ⟨ad2, rfl, hx⟩ := at_nat HR.out hlt
        replace hx := (HB.out.cell (World.block_lt_of_cell? w _ hx)).trans hx
        have hrow := HD.out.2 i hlt
        by_cases hq : 0 < rd l (i : Int)
        · have HY := Aside0.mk (spots_yes hq)
          have ht : (rd l (i : Int) == 0) = false := beq_eq_false_iff_ne.mpr (by omega)
          have HIN := Aside0.mk (spots_in l i)
          have HSL := Aside0.mk (spots_len l i)
          by_cases hf : 0 ≤ f
          · have hne : spots l i ≠ [] := (fst1_pos (fun x hx => (HIN.out x hx).1)).mp (by rw [← HFF.out]; exact hf)
            have HG := Aside0.mk (fst1_app hne (i : Int))
            have hfi : f ≤ 1048576 := by
              rw [HFF.out]
              have : fst1 (spots l i) ∈ spots l i := by
                cases hs : spots l i with
                | nil => exact absurd hs hne
                | cons a p => simp [fst1]
              have := HIN.out _ this
              omega
            clear hne
            go_wp2_with ((at_builtin; refine Kd.R_append (Kd.int .i64) (w0 := w) w.heap.size rfl (.tmp 23) (.tmp 27) 22 3 (.int .i64 0) 8 rfl Try.underlying22 infoInt rfl (by decide) (by omega) u4 xs ((i : Int) - f) [.int .i64 ((i : Int) - f)] (fun _ => True) (fun _ => False) rfl rfl rfl (fun _ hk => hk.elim) (fun _ _ => trivial) ?aO ?aB ?aS ?aL ?_; (case aO => exact (by (with_reducible repeat (first | apply Kd.R_alloc | apply Kd.R_drewN | apply Kd.R_drew)); exact HO.out)); (case aB => exact (by repeat (first | (with_reducible first | exact HB.out | apply below_alloc | apply pw_below_drewN | apply below_drew1) | exact HB.out))); (case aS => exact below_size (by repeat (first | (with_reducible first | exact HB.out | apply below_alloc | apply pw_below_drewN | apply below_drew1) | exact HB.out))); (case aL => have := HL.out; omega); intro v2 w2 ho_ hb_ hg_ hat_; have n0_ := Aside0.mk hb_; have n1_ := Aside0.mk ho_; clear HB HO; have HB := n0_; have HO := n1_; clear n0_ n1_ ho_ hb_ hg_ hat_))
            go_roundg (gk - 1)
            case measure => have := HI.out; omega
            case rel => exact ⟨i + 1, f, _, rfl, by go_num, ⟨by have := HI.out; omega⟩, ⟨by rw [HY.out, HG.out]; exact HFF.out⟩, ⟨by rw [HX.out, HY.out, shift_app, HG.out, HFF.out]⟩, ⟨by rw [HX.out, List.length_append, shift_length, List.length_singleton]; have := HSL.out; omega⟩, HO, HB⟩
          · have he : spots l i = [] := Classical.byContradiction fun h => hf (by rw [HFF.out]; exact (fst1_pos (fun x hx => (HIN.out x hx).1)).mpr h)
            have HG := Aside0.mk he
            clear he
            go_wp2_with ((at_builtin; refine Kd.R_append (Kd.int .i64) (w0 := w) w.heap.size rfl (.tmp 23) (.tmp 27) 22 3 (.int .i64 0) 8 rfl Try.underlying22 infoInt rfl (by decide) (by omega) u4 xs (0) [.int .i64 (0)] (fun _ => True) (fun _ => False) rfl rfl rfl (fun _ hk => hk.elim) (fun _ _ => trivial) ?aO ?aB ?aS ?aL ?_; (case aO => exact (by (with_reducible repeat (first | apply Kd.R_alloc | apply Kd.R_drewN | apply Kd.R_drew)); exact HO.out)); (case aB => exact (by repeat (first | (with_reducible first | exact HB.out | apply below_alloc | apply pw_below_drewN | apply below_drew1) | exact HB.out))); (case aS => exact below_size (by repeat (first | (with_reducible first | exact HB.out | apply below_alloc | apply pw_below_drewN | apply below_drew1) | exact HB.out))); (case aL => have := HL.out; omega); intro v2 w2 ho_ hb_ hg_ hat_; have n0_ := Aside0.mk hb_; have n1_ := Aside0.mk ho_; clear HB HO; have HB := n0_; have HO := n1_; clear n0_ n1_ ho_ hb_ hg_ hat_))
            go_roundg (gk - 1)
            case measure => have := HI.out; omega
            case rel => exact ⟨i + 1, (i : Int), _, rfl, by go_num, ⟨by have := HI.out; omega⟩, ⟨by rw [HY.out, HG.out]; rfl⟩, ⟨by rw [HX.out, HY.out, shift_app, HG.out, fst1_nil_app, Int.sub_self]⟩, ⟨by rw [HX.out, List.length_append, shift_length, List.length_singleton]; have := HSL.out; omega⟩, HO, HB⟩
        · have HY := Aside0.mk (spots_no hq)
          have hz : rd l (i : Int) = 0 := by omega
          have ht : (rd l (i : Int) == 0) = true := beq_iff_eq.mpr hz
          clear hz
          go_wp2
          go_roundg (gk - 1)
          case measure => have := HI.out; omega
          case rel => exact ⟨i + 1, f, xs, rfl, by go_num, ⟨by have := HI.out; omega⟩, ⟨by rw [HY.out]; exact HFF.out⟩, ⟨by rw [HX.out, HY.out]⟩, HL, HO, HB⟩
      · have HE := Aside0.mk (show xs = rulerRow l by rw [HX.out, show i = l.length by have := HI.out; omega]; rfl)
        obtain ⟨A1, c1, e1, hc1, hr1⟩ := Ow_form HO.out
        subst e1
        have HXN := Aside0.mk (show xs.length ≤ 1048576 by rw [HE.out]; exact Nat.le_trans (rulerRow_len l) hn)
        have HC1 := Aside0.mk hc1
        clear hc1 hr1
        by_cases hz : xs.length = 0
        · have HF := Aside0.mk (RowRulerF_no (show ¬ (Row l ∧ Ruler (rulerRow l)) from fun h => by have := h.2.1.1; rw [← HE.out] at this; omega))
          have ht : (xs.length == 0) = true := beq_iff_eq.mpr hz
          have ht2 : ((xs.length : Int) == 0) = true := beq_iff_eq.mpr (by omega)
          clear hz
          (go_wp2; repeat (go_quiet (fail); try go_wp2))
          go_ret2
          exact ⟨_, by rw [HF.out]; rfl, by rw [HF.out]; exact Kd.R_nil _ _ _ _ _, (by repeat (first | (with_reducible first | exact HB.out | apply below_alloc | apply pw_below_drewN | apply below_drew1) | exact HB.out))⟩
        · have ht : (xs.length == 0) = false := beq_eq_false_iff_ne.mpr hz
          have ht2 : ((xs.length : Int) == 0) = false := beq_eq_false_iff_ne.mpr (by omega)
          clear hz
          by_cases hru : Ruler xs
          · have H2 := Aside0.mk (tf_pos hru)
            have HF := Aside0.mk (RowRulerF_yes ⟨HD.out, by rw [← HE.out]; exact hru⟩)
            clear hru
            go_wp2_with (go_at_call 61; refine (ruGood_calls _ _ xs _ (Ow_rd (by first | exact HO.out | exact Ow_drewN HO.out _)) HC1.out HXN.out).mono ?_; rw [H2.out]; rintro e w' ⟨rfl, ⟨nd3, rfl⟩⟩)
            repeat (go_quiet (fail); try go_wp2)
            go_ret2
            exact ⟨_, by rw [HF.out]; rfl, by rw [HF.out]; show Ow _ _ _ (rulerRow l); rw [← HE.out]; exact (by first | exact HO.out | exact Ow_drewN HO.out _), (by repeat (first | (with_reducible first | exact HB.out | apply below_alloc | apply pw_below_drewN | apply below_drew1) | exact HB.out))⟩
          · have H2 := Aside0.mk (tf_neg hru)
            have HF := Aside0.mk (RowRulerF_no (show ¬ (Row l ∧ Ruler (rulerRow l)) from fun h => hru (by rw [HE.out]; exact h.2)))
            clear hru
            go_wp2_with (go_at_call 61; refine (ruGood_calls _ _ xs _ (Ow_rd (by first | exact HO.out | exact Ow_drewN HO.out _)) HC1.out HXN.out).mono ?_; rw [H2.out]; rintro e w' ⟨rfl, ⟨nd3, rfl⟩⟩)
            repeat (go_quiet (fail); try go_wp2)
            go_ret2
            exact ⟨_, by rw [HF.out]; rfl, by rw [HF.out]; exact Kd.R_nil _ _ _ _ _, (by repeat (first | (with_reducible first | exact HB.out | apply below_alloc | apply pw_below_drewN | apply below_drew1) | exact HB.out))⟩
  · have H1 := Aside0.mk (tf_neg hd)
    have HF := Aside0.mk (RowRulerF_no (fun h => hd h.1 : ¬ (Row l ∧ Ruler (rulerRow l))))
    clear hd
    go_enter Try.func31, Try.ntmps31
    go_wp2_with (go_at_call 60; refine (roGood_calls _ _ l _ HR.out HC.out hn).mono ?_; rw [H1.out]; rintro e w' ⟨rfl, ⟨nd, rfl⟩⟩)
    go_ret2
    exact ⟨_, by rw [HF.out]; rfl, by rw [HF.out]; exact Kd.R_nil _ _ _ _ _, (by repeat (first | (with_reducible first | exact HB.out | apply below_alloc | apply pw_below_drewN | apply below_drew1) | exact HB.out))⟩
set_option maxHeartbeats 3200000 in
theorem implRulerOfRow_calls (A : Option Addr) (c : Nat) (l : List Int) (w : World) (hr : Rd w A l) (hc : l.length ≤ c) (hn : l.length ≤ 1048576) (hw : ∀ x ∈ l, W64 x) :
    Calls Try.prog 32 #[.slice A l.length c] w fun e w' => ∃ v, e = .returned (.tuple #[v, .bool (RowRulerF l).2]) ∧ Ow w' w.heap.size v (RowRulerF l).1 ∧ Below w.heap.size w w' := by
  have HR := Aside0.mk hr
  have HC := Aside0.mk hc
  clear hr hc hw
  have HB := Aside0.mk (Below.refl w.heap.size w)
  by_cases hd : Row l
  · have HD := Aside0.mk hd
    have H1 := Aside0.mk (tf_pos hd)
    have hlen := hd.1
    have HO := Aside0.mk (Kd.R_nil (Kd.int .i64) 3 w w.heap.size (fun _ => True))
    clear hd
    go_enter Try.func32, Try.ntmps32
    go_wp2_with (go_at_call 62; refine (IsRow_calls _ _ l _ HR.out HC.out hn).mono ?_; rw [H1.out]; rintro e w' ⟨rfl, ⟨nd, rfl⟩⟩)
    go_loopg [4, 13] l.length (fun g v4 v13 w' => ∃ (i : Nat) (xs : List Int), v13 = .int .i64 i ∧ Aside0 (i + g = l.length) ∧ Aside0 (xs = spots l i) ∧ Aside0 (xs.length ≤ 1048576) ∧ Aside0 (Ow w' w.heap.size v4 xs) ∧ Aside0 (Below w.heap.size w w'))
    case atStart => exact ⟨0, [], rfl, ⟨by omega⟩, ⟨rfl⟩, ⟨by simp⟩, ⟨(by first | exact HO.out | exact Ow_drewN HO.out _)⟩, ⟨(by repeat (first | (with_reducible first | exact HB.out | apply below_alloc | apply pw_below_drewN | apply below_drew1) | exact HB.out))⟩⟩
    case round =>
      clear HO HB
      obtain ⟨i, xs, rfl, HI, HX, HL, HO, HB⟩ := hrel
      by_cases hlt : i < l.length
      · obtain ⟨ad2, rfl, hx⟩ := at_nat HR.out hlt
        replace hx := (HB.out.cell (World.block_lt_of_cell? w _ hx)).trans hx
        by_cases hq : 0 < rd l (i : Int)
        · have HY := Aside0.mk (spots_yes hq)
          have HSL := Aside0.mk (spots_len l i)
          go_wp2_with ((at_builtin; refine Kd.R_append (Kd.int .i64) (w0 := w) w.heap.size rfl (.tmp 20) (.tmp 22) 22 3 (.int .i64 0) 8 rfl Try.underlying22 infoInt rfl (by decide) (by omega) u4 xs ((i : Int)) [.int .i64 ((i : Int))] (fun _ => True) (fun _ => False) rfl rfl rfl (fun _ hk => hk.elim) (fun _ _ => trivial) ?aO ?aB ?aS ?aL ?_; (case aO => exact (by (with_reducible repeat (first | apply Kd.R_alloc | apply Kd.R_drewN | apply Kd.R_drew)); exact HO.out)); (case aB => exact (by repeat (first | (with_reducible first | exact HB.out | apply below_alloc | apply pw_below_drewN | apply below_drew1) | exact HB.out))); (case aS => exact below_size (by repeat (first | (with_reducible first | exact HB.out | apply below_alloc | apply pw_below_drewN | apply below_drew1) | exact HB.out))); (case aL => have := HL.out; omega); intro v2 w2 ho_ hb_ hg_ hat_; have n0_ := Aside0.mk hb_; have n1_ := Aside0.mk ho_; clear HB HO; have HB := n0_; have HO := n1_; clear n0_ n1_ ho_ hb_ hg_ hat_))
          go_roundg (gk - 1)
          case measure => have := HI.out; omega
          case rel => exact ⟨i + 1, _, by go_num, ⟨by have := HI.out; omega⟩, ⟨by rw [HX.out, HY.out]⟩, ⟨by rw [HX.out, List.length_append, List.length_singleton]; have := HSL.out; omega⟩, HO, HB⟩
        · have HY := Aside0.mk (spots_no hq)
          go_wp2
          go_roundg (gk - 1)
          case measure => have := HI.out; omega
          case rel => exact ⟨i + 1, xs, by go_num, ⟨by have := HI.out; omega⟩, ⟨by rw [HX.out, HY.out]⟩, HL, HO, HB⟩
      · have HE := Aside0.mk (show xs = spots l l.length by rw [HX.out, show i = l.length by have := HI.out; omega])
        obtain ⟨A1, c1, e1, hc1, hr1⟩ := Ow_form HO.out
        subst e1
        have HXN := Aside0.mk (show xs.length ≤ 40 by rw [HE.out]; exact Nat.le_trans (spots_len _ _) hlen)
        have HC1 := Aside0.mk hc1
        clear hc1 hr1
        have hxn := HXN.out
        have HSP := Aside0.mk (spots_in l l.length)
        rw [← HE.out] at HSP
        go_wp2
        obtain ⟨wo, rfl⟩ : ∃ wo : World, wo = wr := ⟨_, rfl⟩
        clear hlt HX HI
        go_loopg [7] xs.length (fun g v7 w' => ∃ (k : Int) (ys : List Int), v7 = .int .i64 k ∧ Aside0 (k + 1 = (g : Int) ∧ g ≤ xs.length) ∧ Aside0 (ys = xs.take g ++ (shift xs).drop g) ∧ Aside0 (Ow w' w.heap.size (.slice A1 xs.length c1) ys) ∧ Aside0 (Below w.heap.size w w'))
        case atStart => exact ⟨(xs.length : Int) - 1, xs, by go_num, ⟨by omega⟩, ⟨by rw [List.take_length, List.drop_eq_nil_of_le (by rw [shift_length]; exact Nat.le_refl _), List.append_nil]⟩, ⟨(by first | exact HO.out | exact Ow_drewN HO.out _)⟩, ⟨(by repeat (first | (with_reducible first | exact HB.out | apply below_alloc | apply pw_below_drewN | apply below_drew1) | exact HB.out))⟩⟩
        case round =>
          clear HO HB
          obtain ⟨k, ys, rfl, HK, HY, HO, HB⟩ := hrel
          have HYL := Aside0.mk (show ys.length = xs.length by rw [HY.out, List.length_append, List.length_take, List.length_drop, shift_length]; have := HK.out.2; omega)
          by_cases hk : 0 ≤ k
          · obtain ⟨i, rfl⟩ : ∃ i : Nat, k = (i : Int) := ⟨k.toNat, by omega⟩
            have hil : i < xs.length := by have := HK.out; omega
            obtain ⟨g2, cap2, he, hgb, _, _, _⟩ := Kd.R_form HO.out (by have := HYL.out; omega)
            obtain ⟨rfl, _, rfl⟩ : A1 = some ⟨g2, 0, none⟩ ∧ _ ∧ c1 = cap2 := by injection he with h1 h2 h3; exact ⟨h1, h2, h3⟩
            clear he
            obtain ⟨hc1, hf1⟩ := own_cell HO.out hil
            obtain ⟨hc0, hf0⟩ := own_cell HO.out (show 0 < xs.length by omega)
            have b1 := Aside0.mk (HSP.out _ (rd_mem hil))
            have b0 := Aside0.mk (HSP.out _ (rd_mem (show 0 < xs.length by omega)))
            have r1 : rd ys (i : Int) = rd xs (i : Int) := by rw [HY.out]; exact shift_head (by have := HK.out; omega) HK.out.2
            have r0 : rd ys ((0 : Nat) : Int) = rd xs 0 := by rw [HY.out]; exact shift_head (by have := HK.out; omega) HK.out.2
            rw [r1] at hc1
            rw [r0] at hc0
            have HP := Aside0.mk (own_put HO.out i (rd xs (i : Int) - rd xs 0))
            have HYY := Aside0.mk (show ys.set i (rd xs (i : Int) - rd xs 0) = xs.take (gk - 1) ++ (shift xs).drop (gk - 1) by rw [HY.out, show gk = i + 1 by have := HK.out; omega, shift_step hil]; rfl)
            have p0 := b1.out
            have q0 := b0.out
            clear r1 r0 b1 b0
            generalize rd xs (i : Int) = p at *
            generalize rd xs 0 = q at *
            go_wp2
            go_region
            go_wp2
            go_roundg (gk - 1)
            case measure => have := HK.out; omega
            case rel => exact ⟨(i : Int) - 1, _, by go_num, ⟨by have := HK.out; omega⟩, HYY, ⟨(by first | exact HP.out.1 | exact Kd.R_drew HP.out.1)⟩, ⟨(by have hbb := below_set HB.out hgb (j := i) (v := .int .i64 (p - q)); first | exact hbb | exact below_drew1 hbb)⟩⟩
          · have HE2 := Aside0.mk (show ys = rulerRow l by rw [HY.out, show gk = 0 by have := HK.out; omega, List.take_zero, List.nil_append, List.drop_zero, HE.out]; rfl)
            by_cases hru : Ruler ys
            · have H2 := Aside0.mk (tf_pos hru)
              have HF := Aside0.mk (RowRulerF_yes ⟨HD.out, by rw [← HE2.out]; exact hru⟩)
              clear hru
              go_wp2_with (go_at_call 63; refine (calls_of_args (by rw [HYL.out]) (IsRuler_calls _ c1 ys _ (Ow_rd (by first | exact HO.out | exact Ow_drewN HO.out _)) (Ow_cap (by first | exact HO.out | exact Ow_drewN HO.out _)) (by rw [HYL.out]; omega))).mono ?_; rw [H2.out]; rintro e w' ⟨rfl, ⟨nd3, rfl⟩⟩)
              repeat (go_quiet (fail); try go_wp2)
              go_ret2
              exact ⟨_, by rw [HF.out]; rfl, by rw [HF.out]; show Ow _ _ _ (rulerRow l); rw [← HE2.out]; exact (by first | exact HO.out | exact Ow_drewN HO.out _), (by repeat (first | (with_reducible first | exact HB.out | apply below_alloc | apply pw_below_drewN | apply below_drew1) | exact HB.out))⟩
            · have H2 := Aside0.mk (tf_neg hru)
              have HF := Aside0.mk (RowRulerF_no (show ¬ (Row l ∧ Ruler (rulerRow l)) from fun h => hru (by rw [HE2.out]; exact h.2)))
              clear hru
              go_wp2_with (go_at_call 63; refine (calls_of_args (by rw [HYL.out]) (IsRuler_calls _ c1 ys _ (Ow_rd (by first | exact HO.out | exact Ow_drewN HO.out _)) (Ow_cap (by first | exact HO.out | exact Ow_drewN HO.out _)) (by rw [HYL.out]; omega))).mono ?_; rw [H2.out]; rintro e w' ⟨rfl, ⟨nd3, rfl⟩⟩)
              repeat (go_quiet (fail); try go_wp2)
              go_ret2
              exact ⟨_, by rw [HF.out]; rfl, by rw [HF.out]; exact Kd.R_nil _ _ _ _ _, (by repeat (first | (with_reducible first | exact HB.out | apply below_alloc | apply pw_below_drewN | apply below_drew1) | exact HB.out))⟩
  · have H1 := Aside0.mk (tf_neg hd)
    have HF := Aside0.mk (RowRulerF_no (fun h => hd h.1 : ¬ (Row l ∧ Ruler (rulerRow l))))
    clear hd
    go_enter Try.func32, Try.ntmps32
    go_wp2_with (go_at_call 62; refine (IsRow_calls _ _ l _ HR.out HC.out hn).mono ?_; rw [H1.out]; rintro e w' ⟨rfl, ⟨nd, rfl⟩⟩)
    go_ret2
    exact ⟨_, by rw [HF.out]; rfl, by rw [HF.out]; exact Kd.R_nil _ _ _ _ _, (by repeat (first | (with_reducible first | exact HB.out | apply below_alloc | apply pw_below_drewN | apply below_drew1) | exact HB.out))⟩
end Go.Proofs.Ythjbgfpoalehlaa.Own.G
