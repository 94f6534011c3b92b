/- DifferencesOf and TurnDots: what the reference's and the program's functions return; lists of at most 1048576 numbers. -/
import Derived.Test.YtpabfibmpannoaaOwnDotsC
namespace Go.Proofs.Ytpabfibmpannoaa.Own
open Go.RowKit Go.Proofs.YtpabfibmpannoaaW.PrintWords Go.Proofs.YtpabfibmpannoaaW.PrintLast Go.Proofs.YtpabfibmpannoaaW.PrintMore
set_option linter.unusedVariables false
/-- Each number is a place. -/
def InR (l : List Int) : Prop := ∀ j, j < l.length → 0 ≤ rd l (j : Int) ∧ rd l (j : Int) < (l.length : Int)
theorem Dots_InR {l : List Int} (h : Dots l) : InR l := fun j hj => ⟨(h.2 j hj).1, (h.2 j hj).2.1⟩
/-- The row of a turn by a quarter, behind i stores. -/
def turns (l : List Int) : Nat → List Int
  | 0 => List.replicate l.length 0
  | i + 1 => (turns l i).set (rd l (i : Int)).toNat ((l.length : Int) - 1 - (i : Int))
theorem turns_length (l : List Int) (i : Nat) : (turns l i).length = l.length := by
  induction i with
  | zero => simp [turns]
  | succ i ih => simp [turns, ih]
def turnOf (l : List Int) : List Int := turns l l.length
theorem turnOf_length (l : List Int) : (turnOf l).length = l.length := turns_length l l.length
set_option maxHeartbeats 1600000 in
theorem doTurn_calls (A : Option Addr) (c : Nat) (l : List Int) (w : World) (hr : Rd w A l) (hc : l.length ≤ c) (hn : l.length ≤ 1048576) (hs : InR l) :
    Calls Try.prog 69 #[.slice A l.length c] w fun e w' => ∃ v, e = .returned v ∧ Ow w' w.heap.size v (turnOf l) ∧ Below w.heap.size w w' := by
  have HR := Aside0.mk hr
  have HC := Aside0.mk hc
  have HSM := Aside0.mk hs
  clear hr hc hs
  have HB := Aside0.mk (Below.refl w.heap.size w)
  go_enter Try.func69, Try.ntmps69
  go_wp2_with ((at_make; refine Kd.R_make (Kd.int .i64) (w0 := w) w.heap.size 3 rfl (N := 8) rfl 29 _ _ rfl (l.length : Int) rfl rfl Try.underlying29 (.int .i64 0) 8 infoInt rfl (by decide) (by omega) 0 (ok := fun _ => True) (okp := fun _ => True) rfl (fun _ hk => hk) trivial (by omega) (by omega) ?mB ?mS ?_; (case mB => exact (by repeat (first | (with_reducible first | exact HB.out | apply below_alloc | apply pw_below_drewN | apply below_drew1) | exact HB.out))); (case mS => exact below_size (by repeat (first | (with_reducible first | exact HB.out | apply below_alloc | apply pw_below_drewN | apply below_drew1) | exact HB.out))); intro v1 w1 ho_ hb_ hg_ hnew_; have HO := Aside0.mk ho_; have n0_ := Aside0.mk hb_; clear HB; have HB := n0_; clear n0_ ho_ hb_ hg_ hnew_))
  go_loopg [11] l.length (fun g v11 w' => ∃ (i : Nat) (xs : List Int), v11 = .int .i64 i ∧ Aside0 (i + g = l.length) ∧ Aside0 (xs = turns l i) ∧ Aside0 (xs.length = l.length) ∧ Aside0 (Ow w' w.heap.size v1 xs) ∧ Aside0 (Below w.heap.size w w'))
  case atStart => exact ⟨0, _, rfl, ⟨by omega⟩, ⟨by simp [turns]⟩, ⟨by simp⟩, HO, HB⟩
  case round =>
    clear HO HB
    obtain ⟨i, xs, rfl, HI, HX, HL, HO, HB⟩ := hrel
    by_cases hlt : i < l.length
    · obtain ⟨ad, rfl, hx⟩ := at_nat HR.out hlt
      replace hx := (HB.out.cell (World.block_lt_of_cell? w _ hx)).trans hx
      obtain ⟨y, hy⟩ : ∃ y : Int, rd l (i : Int) = y := ⟨_, rfl⟩
      have y0 : (0 : Int) ≤ y := by have := (HSM.out i hlt).1; omega
      have y1 : y < (xs.length : Int) := by have := (HSM.out i hlt).2; rw [HL.out]; omega
      rw [hy] at hx
      have HY := Aside0.mk hy
      clear hy
      obtain ⟨g, cap, rfl, hgb, _, _, _⟩ := Kd.R_form HO.out (by rw [HL.out]; omega)
      obtain ⟨hc1, hf1⟩ := Kd.R_celln 0 HO.out y y0 y1
      have HP := Aside0.mk (Kd.R_putg HO.out y ((l.length : Int) - 1 - (i : Int)))
      go_wp2
      go_roundg (gk - 1)
      case measure => have := HI.out; omega
      case rel => exact ⟨i + 1, _, by go_num, ⟨by have := HI.out; omega⟩, ⟨by rw [HX.out, turns, HY.out]⟩, ⟨by rw [List.length_set]; exact HL.out⟩, ⟨HP.out.1⟩, ⟨below_set HB.out hgb⟩⟩
    · have HE := Aside0.mk (show xs = turnOf l by rw [HX.out, show i = l.length by have := HI.out; omega]; rfl)
      (go_wp2; repeat (go_quiet (fail); try go_wp2))
      go_ret
      exact ⟨_, rfl, by rw [← HE.out]; first | exact HO.out | exact Ow_drewN HO.out _, (by repeat (first | (with_reducible first | exact HB.out | apply below_alloc | apply pw_below_drewN | apply below_drew1) | exact HB.out))⟩
set_option maxHeartbeats 1600000 in
theorem turned_calls (A : Option Addr) (c : Nat) (l : List Int) (w : World) (hr : Rd w A l) (hc : l.length ≤ c) (hn : l.length ≤ 1048576) (hs : InR l) :
    Calls Try.prog 71 #[.slice A l.length c] w fun e w' => ∃ v, e = .returned v ∧ Ow w' w.heap.size v (turnOf l) ∧ Below w.heap.size w w' := by
  have HR := Aside0.mk hr
  have HC := Aside0.mk hc
  have HSM := Aside0.mk hs
  clear hr hc hs
  have HB := Aside0.mk (Below.refl w.heap.size w)
  go_enter Try.func71, Try.ntmps71
  go_wp2_with ((at_make; refine Kd.R_make (Kd.int .i64) (w0 := w) w.heap.size 3 rfl (N := 8) rfl 29 _ _ rfl (l.length : Int) rfl rfl Try.underlying29 (.int .i64 0) 8 infoInt rfl (by decide) (by omega) 0 (ok := fun _ => True) (okp := fun _ => True) rfl (fun _ hk => hk) trivial (by omega) (by omega) ?mB ?mS ?_; (case mB => exact (by repeat (first | (with_reducible first | exact HB.out | apply below_alloc | apply pw_below_drewN | apply below_drew1) | exact HB.out))); (case mS => exact below_size (by repeat (first | (with_reducible first | exact HB.out | apply below_alloc | apply pw_below_drewN | apply below_drew1) | exact HB.out))); intro v1 w1 ho_ hb_ hg_ hnew_; have HO := Aside0.mk ho_; have n0_ := Aside0.mk hb_; clear HB; have HB := n0_; clear n0_ ho_ hb_ hg_ hnew_))
  go_loopg [11] l.length (fun g v11 w' => ∃ (i : Nat) (xs : List Int), v11 = .int .i64 i ∧ Aside0 (i + g = l.length) ∧ Aside0 (xs = turns l i) ∧ Aside0 (xs.length = l.length) ∧ Aside0 (Ow w' w.heap.size v1 xs) ∧ Aside0 (Below w.heap.size w w'))
  case atStart => exact ⟨0, _, rfl, ⟨by omega⟩, ⟨by simp [turns]⟩, ⟨by simp⟩, HO, HB⟩
  case round =>
    clear HO HB
    obtain ⟨i, xs, rfl, HI, HX, HL, HO, HB⟩ := hrel
    by_cases hlt : i < l.length
    · obtain ⟨ad, rfl, hx⟩ := at_nat HR.out hlt
      replace hx := (HB.out.cell (World.block_lt_of_cell? w _ hx)).trans hx
      obtain ⟨y, hy⟩ : ∃ y : Int, rd l (i : Int) = y := ⟨_, rfl⟩
      have y0 : (0 : Int) ≤ y := by have := (HSM.out i hlt).1; omega
      have y1 : y < (xs.length : Int) := by have := (HSM.out i hlt).2; rw [HL.out]; omega
      rw [hy] at hx
      have HY := Aside0.mk hy
      clear hy
      obtain ⟨g, cap, rfl, hgb, _, _, _⟩ := Kd.R_form HO.out (by rw [HL.out]; omega)
      obtain ⟨hc1, hf1⟩ := Kd.R_celln 0 HO.out y y0 y1
      have HP := Aside0.mk (Kd.R_putg HO.out y ((l.length : Int) - 1 - (i : Int)))
      go_wp2
      go_roundg (gk - 1)
      case measure => have := HI.out; omega
      case rel => exact ⟨i + 1, _, by go_num, ⟨by have := HI.out; omega⟩, ⟨by rw [HX.out, turns, HY.out]⟩, ⟨by rw [List.length_set]; exact HL.out⟩, ⟨HP.out.1⟩, ⟨below_set HB.out hgb⟩⟩
    · have HE := Aside0.mk (show xs = turnOf l by rw [HX.out, show i = l.length by have := HI.out; omega]; rfl)
      (go_wp2; repeat (go_quiet (fail); try go_wp2))
      go_ret
      exact ⟨_, rfl, by rw [← HE.out]; first | exact HO.out | exact Ow_drewN HO.out _, (by repeat (first | (with_reducible first | exact HB.out | apply below_alloc | apply pw_below_drewN | apply below_drew1) | exact HB.out))⟩
noncomputable def TurnF (l : List Int) : List Int × Bool := if tf (Dots l) = true then (turnOf l, true) else ([], false)
theorem TurnF_yes {l : List Int} (h : Dots l) : TurnF l = (turnOf l, true) := if_pos (tf_pos h)
theorem TurnF_no {l : List Int} (h : ¬ Dots l) : TurnF l = ([], false) := if_neg (by rw [tf_neg h]; decide)
theorem TurnF_len (l : List Int) (hn : l.length ≤ 1048576) : (TurnF l).1.length ≤ 1048576 := by
  by_cases h : Dots l
  · rw [TurnF_yes h]; show (turnOf l).length ≤ _; rw [turnOf_length]; exact hn
  · rw [TurnF_no h]; simp
/-- Differences are asked at a distance from 1 to one less than the number of dots. -/
def AtDist (l : List Int) (k : Int) : Prop := 1 ≤ k ∧ k ≤ (l.length : Int) - 1
noncomputable def DiffOfF (l : List Int) (k : Int) : List Int × Bool := if tf (Dots l ∧ AtDist l k) = true then (diffs l k.toNat (l.length - k.toNat), true) else ([], false)
theorem DiffOfF_yes {l : List Int} {k : Int} (h : Dots l ∧ AtDist l k) : DiffOfF l k = (diffs l k.toNat (l.length - k.toNat), true) := if_pos (tf_pos h)
theorem DiffOfF_no {l : List Int} {k : Int} (h : ¬ (Dots l ∧ AtDist l k)) : DiffOfF l k = ([], false) := if_neg (by rw [tf_neg h]; decide)
theorem DiffOfF_len (l : List Int) (k : Int) (hn : l.length ≤ 1048576) : (DiffOfF l k).1.length ≤ 1048576 := by
  by_cases h : Dots l ∧ AtDist l k
  · rw [DiffOfF_yes h]; show (diffs _ _ _).length ≤ _; rw [diffs_length]; omega
  · rw [DiffOfF_no h]; simp
end Go.Proofs.Ytpabfibmpannoaa.Own
