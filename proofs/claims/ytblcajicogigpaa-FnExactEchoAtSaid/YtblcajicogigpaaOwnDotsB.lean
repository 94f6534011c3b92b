/- Dots crossed, turned, and their differences: what the reference's and the program's functions return; lists of at most 1048576 numbers. -/
import Derived.Test.YtblcajicogigpaaOwnDotsA
import Derived.Test.YtblcajicogigpaaOwnLawKit
import Derived.StillTailTactics
namespace Go.Proofs.Ytblcajicogigpaa.Own
open Go.RowKit Go.Proofs.YtblcajicogigpaaW.PrintWords Go.Proofs.YtblcajicogigpaaW.PrintLast Go.Proofs.YtblcajicogigpaaW.PrintMore
set_option linter.unusedVariables false
theorem ret_two {v : Value} {a b : Bool} (h : a = b) : Ending.returned (.tuple #[v, .bool a]) = .returned (.tuple #[v, .bool b]) := by rw [h]
/-- The row that stores make, behind i of them. -/
def crossed (l : List Int) : Nat → List Int
  | 0 => List.replicate l.length 0
  | i + 1 => (crossed l i).set (rd l (i : Int)).toNat (i : Int)
theorem crossed_length (l : List Int) (i : Nat) : (crossed l i).length = l.length := by
  induction i with
  | zero => simp [crossed]
  | succ i ih => simp [crossed, ih]
noncomputable def CrossF (l : List Int) : List Int × Bool := if tf (Dots l) = true then (crossed l l.length, true) else ([], false)
theorem CrossF_yes {l : List Int} (h : Dots l) : CrossF l = (crossed l l.length, true) := if_pos (tf_pos h)
theorem CrossF_no {l : List Int} (h : ¬ Dots l) : CrossF l = ([], false) := if_neg (by rw [tf_neg h]; decide)
theorem CrossF_len (l : List Int) (hn : l.length ≤ 1048576) : (CrossF l).1.length ≤ 1048576 := by
  by_cases h : Dots l
  · rw [CrossF_yes h, crossed_length]; exact hn
  · rw [CrossF_no h]; simp
set_option maxHeartbeats 1600000 in
theorem specCrossDots_calls (A : Option Addr) (c : Nat) (l : List Int) (w : World) (hr : Rd w A l) (hc : l.length ≤ c) (hn : l.length ≤ 1048576) (hw : ∀ x ∈ l, W64 x) :
    Calls Try.prog 39 #[.slice A l.length c] w fun e w' => ∃ v, e = .returned (.tuple #[v, .bool (CrossF l).2]) ∧ Ow w' w.heap.size v (CrossF l).1 ∧ Below w.heap.size w w' := by
  have HR := Aside0.mk hr
  have HC := Aside0.mk hc
  clear hr hc hw
  have HB := Aside0.mk (Below.refl w.heap.size w)
  by_cases hd : Dots l
  · have HD := Aside0.mk hd
    have H1 := Aside0.mk (tf_pos hd)
    have HF := Aside0.mk (CrossF_yes hd)
    clear hd
    go_enter Try.func39, Try.ntmps39
    go_wp2_with (first | (go_at_call 51; refine (doGood_calls _ _ l _ HR.out HC.out hn).mono ?_; rw [H1.out]; rintro e w' ⟨rfl, ⟨nd, rfl⟩⟩) | (at_make; refine Kd.R_make (Kd.int .i64) (w0 := w) w.heap.size 3 rfl (N := 12) rfl 25 _ _ rfl (l.length : Int) rfl rfl Try.underlying25 (.int .i64 0) 8 infoInt rfl (by decide) (by omega) 0 (ok := fun _ => True) (okp := fun _ => True) rfl (fun _ hk => hk) trivial (by omega) (by omega) ?mB ?mS ?_; (case mB => exact (by repeat (first | (with_reducible first | exact HB.out | apply below_alloc | apply pw_below_drewN | apply below_drew1) | exact HB.out))); (case mS => exact below_size (by repeat (first | (with_reducible first | exact HB.out | apply below_alloc | apply pw_below_drewN | apply below_drew1) | exact HB.out))); intro v1 w1 ho_ hb_ hg_ hnew_; have HO := Aside0.mk ho_; have n0_ := Aside0.mk hb_; clear HB; have HB := n0_; clear n0_ ho_ hb_ hg_ hnew_))
    go_loopg [15] l.length (fun g v15 w' => ∃ (i : Nat) (xs : List Int), v15 = .int .i64 i ∧ Aside0 (i + g = l.length) ∧ Aside0 (xs = crossed l i) ∧ Aside0 (xs.length = l.length) ∧ Aside0 (Ow w' w.heap.size v1 xs) ∧ Aside0 (Below w.heap.size w w'))
    case atStart => exact ⟨0, _, rfl, ⟨by omega⟩, ⟨by simp [crossed]⟩, ⟨by simp⟩, HO, HB⟩
    case round =>
      clear HO HB
      obtain ⟨i, xs, rfl, HI, HX, HL, HO, HB⟩ := hrel
      by_cases hlt : i < l.length
      · obtain ⟨ad, rfl, hx⟩ := at_nat HR.out hlt
        replace hx := (HB.out.cell (World.block_lt_of_cell? w _ hx)).trans hx
        obtain ⟨y, hy⟩ : ∃ y : Nat, rd l (i : Int) = (y : Int) := ⟨(rd l (i : Int)).toNat, by have := (HD.out.2 i hlt).1; omega⟩
        have hyl : y < l.length := by have := (HD.out.2 i hlt).2.1; omega
        rw [hy] at hx
        have HY := Aside0.mk hy
        clear hy
        obtain ⟨g, cap, rfl, hgb, _, _, _⟩ := Kd.R_form HO.out (by rw [HL.out]; omega)
        have hyx : y < xs.length := by rw [HL.out]; exact hyl
        obtain ⟨hc1, hf1⟩ := own_cell HO.out hyx
        have HP := Aside0.mk (own_put HO.out y (i : Int))
        go_wp2
        go_roundg (gk - 1)
        case measure => have := HI.out; omega
        case rel => exact ⟨i + 1, _, by go_num, ⟨by have := HI.out; omega⟩, ⟨by rw [HX.out, crossed, HY.out]; rfl⟩, ⟨by rw [List.length_set]; exact HL.out⟩, ⟨HP.out.1⟩, ⟨below_set HB.out hgb⟩⟩
      · have HE := Aside0.mk (show xs = crossed l l.length by rw [HX.out, show i = l.length by have := HI.out; omega])
        (go_wp2; repeat (go_quiet (fail); try go_wp2))
        go_ret2
        exact ⟨_, by rw [HF.out]; rfl, by rw [HF.out]; show Ow _ _ _ (crossed l l.length); rw [← HE.out]; first | exact HO.out | exact Ow_drewN HO.out _, (by repeat (first | (with_reducible first | exact HB.out | apply below_alloc | apply pw_below_drewN | apply below_drew1) | exact HB.out))⟩
  · have H1 := Aside0.mk (tf_neg hd)
    have HF := Aside0.mk (CrossF_no hd)
    clear hd
    go_enter Try.func39, Try.ntmps39
    go_wp2_with (go_at_call 51; refine (doGood_calls _ _ l _ HR.out HC.out hn).mono ?_; rw [H1.out]; rintro e w' ⟨rfl, ⟨nd, rfl⟩⟩)
    go_ret2
    exact ⟨_, by rw [HF.out]; rfl, by rw [HF.out]; exact Kd.R_nil _ _ _ _ _, (by repeat (first | (with_reducible first | exact HB.out | apply below_alloc | apply pw_below_drewN | apply below_drew1) | exact HB.out))⟩
set_option maxHeartbeats 1600000 in
theorem implCrossDots_calls (A : Option Addr) (c : Nat) (l : List Int) (w : World) (hr : Rd w A l) (hc : l.length ≤ c) (hn : l.length ≤ 1048576) (hw : ∀ x ∈ l, W64 x) :
    Calls Try.prog 40 #[.slice A l.length c] w fun e w' => ∃ v, e = .returned (.tuple #[v, .bool (CrossF l).2]) ∧ Ow w' w.heap.size v (CrossF l).1 ∧ Below w.heap.size w w' := by
  have HR := Aside0.mk hr
  have HC := Aside0.mk hc
  clear hr hc hw
  have HB := Aside0.mk (Below.refl w.heap.size w)
  by_cases hd : Dots l
  · have HD := Aside0.mk hd
    have H1 := Aside0.mk (tf_pos hd)
    have HF := Aside0.mk (CrossF_yes hd)
    clear hd
    go_enter Try.func40, Try.ntmps40
    go_wp2_with (first | (go_at_call 32; refine (IsDots_calls _ _ l _ HR.out HC.out hn).mono ?_; rw [H1.out]; rintro e w' ⟨rfl, ⟨nd, rfl⟩⟩) | (at_make; refine Kd.R_make (Kd.int .i64) (w0 := w) w.heap.size 3 rfl (N := 12) rfl 25 _ _ rfl (l.length : Int) rfl rfl Try.underlying25 (.int .i64 0) 8 infoInt rfl (by decide) (by omega) 0 (ok := fun _ => True) (okp := fun _ => True) rfl (fun _ hk => hk) trivial (by omega) (by omega) ?mB ?mS ?_; (case mB => exact (by repeat (first | (with_reducible first | exact HB.out | apply below_alloc | apply pw_below_drewN | apply below_drew1) | exact HB.out))); (case mS => exact below_size (by repeat (first | (with_reducible first | exact HB.out | apply below_alloc | apply pw_below_drewN | apply below_drew1) | exact HB.out))); intro v1 w1 ho_ hb_ hg_ hnew_; have HO := Aside0.mk ho_; have n0_ := Aside0.mk hb_; clear HB; have HB := n0_; clear n0_ ho_ hb_ hg_ hnew_))
    go_loopg [15] l.length (fun g v15 w' => ∃ (i : Nat) (xs : List Int), v15 = .int .i64 i ∧ Aside0 (i + g = l.length) ∧ Aside0 (xs = crossed l i) ∧ Aside0 (xs.length = l.length) ∧ Aside0 (Ow w' w.heap.size v1 xs) ∧ Aside0 (Below w.heap.size w w'))
    case atStart => exact ⟨0, _, rfl, ⟨by omega⟩, ⟨by simp [crossed]⟩, ⟨by simp⟩, HO, HB⟩
    case round =>
      clear HO HB
      obtain ⟨i, xs, rfl, HI, HX, HL, HO, HB⟩ := hrel
      by_cases hlt : i < l.length
      · obtain ⟨ad, rfl, hx⟩ := at_nat HR.out hlt
        replace hx := (HB.out.cell (World.block_lt_of_cell? w _ hx)).trans hx
        obtain ⟨y, hy⟩ : ∃ y : Nat, rd l (i : Int) = (y : Int) := ⟨(rd l (i : Int)).toNat, by have := (HD.out.2 i hlt).1; omega⟩
        have hyl : y < l.length := by have := (HD.out.2 i hlt).2.1; omega
        rw [hy] at hx
        have HY := Aside0.mk hy
        clear hy
        obtain ⟨g, cap, rfl, hgb, _, _, _⟩ := Kd.R_form HO.out (by rw [HL.out]; omega)
        have hyx : y < xs.length := by rw [HL.out]; exact hyl
        obtain ⟨hc1, hf1⟩ := own_cell HO.out hyx
        have HP := Aside0.mk (own_put HO.out y (i : Int))
        go_wp2
        go_roundg (gk - 1)
        case measure => have := HI.out; omega
        case rel => exact ⟨i + 1, _, by go_num, ⟨by have := HI.out; omega⟩, ⟨by rw [HX.out, crossed, HY.out]; rfl⟩, ⟨by rw [List.length_set]; exact HL.out⟩, ⟨HP.out.1⟩, ⟨below_set HB.out hgb⟩⟩
      · have HE := Aside0.mk (show xs = crossed l l.length by rw [HX.out, show i = l.length by have := HI.out; omega])
        (go_wp2; repeat (go_quiet (fail); try go_wp2))
        go_ret2
        exact ⟨_, by rw [HF.out]; rfl, by rw [HF.out]; show Ow _ _ _ (crossed l l.length); rw [← HE.out]; first | exact HO.out | exact Ow_drewN HO.out _, (by repeat (first | (with_reducible first | exact HB.out | apply below_alloc | apply pw_below_drewN | apply below_drew1) | exact HB.out))⟩
  · have H1 := Aside0.mk (tf_neg hd)
    have HF := Aside0.mk (CrossF_no hd)
    clear hd
    go_enter Try.func40, Try.ntmps40
    go_wp2_with (go_at_call 32; refine (IsDots_calls _ _ l _ HR.out HC.out hn).mono ?_; rw [H1.out]; rintro e w' ⟨rfl, ⟨nd, rfl⟩⟩)
    go_ret2
    exact ⟨_, by rw [HF.out]; rfl, by rw [HF.out]; exact Kd.R_nil _ _ _ _ _, (by repeat (first | (with_reducible first | exact HB.out | apply below_alloc | apply pw_below_drewN | apply below_drew1) | exact HB.out))⟩
end Go.Proofs.Ytblcajicogigpaa.Own
