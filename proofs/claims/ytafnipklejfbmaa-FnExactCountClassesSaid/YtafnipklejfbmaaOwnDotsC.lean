/- Differences of dots, dots turned, dots without a corner, echoes: what the reference's and the program's functions return; lists of at most 1048576 numbers. -/
import Derived.Test.YtafnipklejfbmaaOwnDotsB
namespace Go.Proofs.Ytafnipklejfbmaa.Own
open Go.RowKit Go.Proofs.YtafnipklejfbmaaW.PrintWords Go.Proofs.YtafnipklejfbmaaW.PrintLast Go.Proofs.YtafnipklejfbmaaW.PrintMore
set_option linter.unusedVariables false
/-- The differences at a distance, i of them. -/
def diffs (l : List Int) (k : Nat) (i : Nat) : List Int := (List.range i).map fun j : Nat => rd l ((k + j : Nat) : Int) - rd l (j : Int)
theorem diffs_length (l : List Int) (k i : Nat) : (diffs l k i).length = i := by simp [diffs]
theorem diffs_succ (l : List Int) (k i : Nat) : diffs l k (i + 1) = diffs l k i ++ [rd l ((k + i : Nat) : Int) - rd l (i : Int)] := by
  unfold diffs
  rw [List.range_succ, List.map_append]
  rfl
/-- Numbers of a small size: sums and differences of two do not wrap. -/
def Small (l : List Int) : Prop := ∀ x ∈ l, -1000000 ≤ x ∧ x ≤ 1000000
theorem Small_rd {l : List Int} (h : Small l) {i : Nat} (hi : i < l.length) : -1000000 ≤ rd l (i : Int) ∧ rd l (i : Int) ≤ 1000000 := h _ (rd_mem hi)
theorem Dots_small {l : List Int} (h : Dots l) : Small l := fun x hx => by
  obtain ⟨i, hi, rfl⟩ := mem_rd hx
  have := h.2 i hi
  have := this.1
  have := (h.2 i hi).2.1
  have := h.1
  omega
set_option maxHeartbeats 1600000 in
theorem doDifferences_calls (A : Option Addr) (c : Nat) (l : List Int) (k : Nat) (w : World) (hr : Rd w A l) (hc : l.length ≤ c) (hn : l.length ≤ 1048576) (hs : Small l) (hk : k ≤ 1048576) :
    Calls Try.prog 56 #[.slice A l.length c, .int .i64 (k : Int)] w fun e w' => ∃ v, e = .returned v ∧ Ow w' w.heap.size v (diffs l k (l.length - k)) ∧ Below w.heap.size w w' := by
  have HR := Aside0.mk hr
  have HC := Aside0.mk hc
  have HSM := Aside0.mk hs
  clear hr hc hs
  have HB := Aside0.mk (Below.refl w.heap.size w)
  have HO := Aside0.mk (Kd.R_nil (Kd.int .i64) 3 w w.heap.size (fun _ => True))
  go_enter Try.func56, Try.ntmps56
  (go_wp2; repeat (go_quiet (fail); try go_wp2))
  go_loopg [5, 6] (l.length - k) (fun g v5 v6 w' => ∃ (i : Nat) (x : Int) (xs : List Int), v6 = .int .i64 x ∧ Aside0 (x = (k : Int) + (i : Int)) ∧ Aside0 (i + g = l.length - k) ∧ Aside0 (xs = diffs l k i) ∧ Aside0 (xs.length = i) ∧ Aside0 (Ow w' w.heap.size v5 xs) ∧ Aside0 (Below w.heap.size w w'))
  case atStart => exact ⟨0, _, [], rfl, ⟨by simp⟩, ⟨by omega⟩, ⟨by simp [diffs]⟩, ⟨by simp⟩, ⟨by first | exact HO.out | exact Ow_drewN HO.out _⟩, ⟨(by repeat (first | (with_reducible first | exact HB.out | apply below_alloc | apply pw_below_drewN | apply below_drew1) | exact HB.out))⟩⟩
  case round =>
    clear HO HB
    obtain ⟨i, x, xs, rfl, HXI, HI, HX, HL, HO, HB⟩ := hrel
    by_cases hlt : k + i < l.length
    · have q0 : (0 : Int) ≤ x := by have := HXI.out; omega
      have q1 : x < (l.length : Int) := by have := HXI.out; omega
      obtain ⟨j, hj⟩ : ∃ j : Int, IntKind.i64.wrap (x - (k : Int)) = j := ⟨_, rfl⟩
      have HJ := Aside0.mk (show j = (i : Int) by rw [← hj, i64_w, w64 (by omega) (by omega), HXI.out]; omega)
      have j0 : (0 : Int) ≤ j := by have := HJ.out; omega
      have j1 : j < (l.length : Int) := by have := HJ.out; omega
      obtain ⟨ad, rfl, hx⟩ := Kd.at_int HR.out x q0 q1
      obtain ⟨ad', e', hx'⟩ := Kd.at_int HR.out j j0 j1
      obtain rfl : ad = ad' := by injection e'
      clear e'
      have HX0 := Aside0.mk hx
      have HX1 := Aside0.mk hx'
      replace hx := (HB.out.cell (World.block_lt_of_cell? w _ hx)).trans hx
      replace hx' := (HB.out.cell (World.block_lt_of_cell? w _ hx')).trans hx'
      obtain ⟨p, hp⟩ : ∃ p : Int, IntKind.i64.wrap (rd l x - rd l j) = p := ⟨_, rfl⟩
      have HP := Aside0.mk (show p = rd l ((k + i : Nat) : Int) - rd l (i : Int) by
        have b1 := Small_rd HSM.out hlt
        have b2 := Small_rd HSM.out (show i < l.length by omega)
        rw [← hp, i64_w, HXI.out, HJ.out, show (k : Int) + (i : Int) = ((k + i : Nat) : Int) by omega, w64 (by omega) (by omega)])
      have hlx : xs.length ≤ 1048576 := by rw [HL.out]; omega
      have HLX := Aside0.mk hlx
      clear hlx hlt
      go_wp2
      go_region_held3 (fun w' => w'.cell? (ad.add x.toNat) = some (.int .i64 (rd l x)) ∧ w'.cell? (ad.add j.toNat) = some (.int .i64 (rd l j)))
        (first | go_keep | exact ⟨by assumption, by assumption⟩ | (go_split_ands; exact ⟨by assumption, by assumption⟩))
        ((refine own_append_step (by rfl) _ _ (by rfl) w.heap.size _ u5 xs p (by rfl) (Ow_drewN (n := 1) HO.out) (by rfl) HLX.out (by have := HB.out.size; simpa using this) ?_; intro v2 w2 ho hg; have HB2 := Aside0.mk (below_grown (below_drew1 HB.out) hg (Ow_drewN (n := 1) HO.out)); have g1 := (HB2.out.cell (World.block_lt_of_cell? w _ HX0.out)).trans HX0.out; have g2 := (HB2.out.cell (World.block_lt_of_cell? w _ HX1.out)).trans HX1.out; have HO2 := Aside0.mk ho; clear ho hg))
      clear hx hx' g1 g2
      go_wp2
      go_roundg (gk - 1)
      case measure => have := HI.out; have := HXI.out; omega
      case rel => exact ⟨i + 1, x + 1, _, by go_num, ⟨by have := HXI.out; omega⟩, ⟨by have := HI.out; have := HXI.out; omega⟩, ⟨by rw [HX.out, HP.out, diffs_succ]⟩, ⟨by rw [List.length_append, HL.out]; rfl⟩, HO2, HB2⟩
    · have HE := Aside0.mk (show xs = diffs l k (l.length - k) by rw [HX.out, show i = l.length - k by have := HI.out; omega])
      have q1 : ¬ x < (l.length : Int) := by have := HXI.out; omega
      clear hlt
      (go_wp2; repeat (go_quiet (fail); try go_wp2))
      go_ret
      exact ⟨_, rfl, by rw [← HE.out]; first | exact HO.out | exact Ow_drewN HO.out _, (by repeat (first | (with_reducible first | exact HB.out | apply below_alloc | apply pw_below_drewN | apply below_drew1) | exact HB.out))⟩
set_option maxHeartbeats 1600000 in
theorem differences_calls (A : Option Addr) (c : Nat) (l : List Int) (k : Nat) (w : World) (hr : Rd w A l) (hc : l.length ≤ c) (hn : l.length ≤ 1048576) (hs : Small l) (hk : k ≤ 1048576) :
    Calls Try.prog 57 #[.slice A l.length c, .int .i64 (k : Int)] w fun e w' => ∃ v, e = .returned v ∧ Ow w' w.heap.size v (diffs l k (l.length - k)) ∧ Below w.heap.size w w' := by
  have HR := Aside0.mk hr
  have HC := Aside0.mk hc
  have HSM := Aside0.mk hs
  clear hr hc hs
  have HB := Aside0.mk (Below.refl w.heap.size w)
  have HO := Aside0.mk (Kd.R_nil (Kd.int .i64) 3 w w.heap.size (fun _ => True))
  go_enter Try.func57, Try.ntmps57
  (go_wp2; repeat (go_quiet (fail); try go_wp2))
  go_loopg [5, 6] (l.length - k) (fun g v5 v6 w' => ∃ (i : Nat) (x : Int) (xs : List Int), v6 = .int .i64 x ∧ Aside0 (x = (k : Int) + (i : Int)) ∧ Aside0 (i + g = l.length - k) ∧ Aside0 (xs = diffs l k i) ∧ Aside0 (xs.length = i) ∧ Aside0 (Ow w' w.heap.size v5 xs) ∧ Aside0 (Below w.heap.size w w'))
  case atStart => exact ⟨0, _, [], rfl, ⟨by simp⟩, ⟨by omega⟩, ⟨by simp [diffs]⟩, ⟨by simp⟩, ⟨by first | exact HO.out | exact Ow_drewN HO.out _⟩, ⟨(by repeat (first | (with_reducible first | exact HB.out | apply below_alloc | apply pw_below_drewN | apply below_drew1) | exact HB.out))⟩⟩
  case round =>
    clear HO HB
    obtain ⟨i, x, xs, rfl, HXI, HI, HX, HL, HO, HB⟩ := hrel
    by_cases hlt : k + i < l.length
    · have q0 : (0 : Int) ≤ x := by have := HXI.out; omega
      have q1 : x < (l.length : Int) := by have := HXI.out; omega
      obtain ⟨j, hj⟩ : ∃ j : Int, IntKind.i64.wrap (x - (k : Int)) = j := ⟨_, rfl⟩
      have HJ := Aside0.mk (show j = (i : Int) by rw [← hj, i64_w, w64 (by omega) (by omega), HXI.out]; omega)
      have j0 : (0 : Int) ≤ j := by have := HJ.out; omega
      have j1 : j < (l.length : Int) := by have := HJ.out; omega
      obtain ⟨ad, rfl, hx⟩ := Kd.at_int HR.out x q0 q1
      obtain ⟨ad', e', hx'⟩ := Kd.at_int HR.out j j0 j1
      obtain rfl : ad = ad' := by injection e'
      clear e'
      have HX0 := Aside0.mk hx
      have HX1 := Aside0.mk hx'
      replace hx := (HB.out.cell (World.block_lt_of_cell? w _ hx)).trans hx
      replace hx' := (HB.out.cell (World.block_lt_of_cell? w _ hx')).trans hx'
      obtain ⟨p, hp⟩ : ∃ p : Int, IntKind.i64.wrap (rd l x - rd l j) = p := ⟨_, rfl⟩
      have HP := Aside0.mk (show p = rd l ((k + i : Nat) : Int) - rd l (i : Int) by
        have b1 := Small_rd HSM.out hlt
        have b2 := Small_rd HSM.out (show i < l.length by omega)
        rw [← hp, i64_w, HXI.out, HJ.out, show (k : Int) + (i : Int) = ((k + i : Nat) : Int) by omega, w64 (by omega) (by omega)])
      have hlx : xs.length ≤ 1048576 := by rw [HL.out]; omega
      have HLX := Aside0.mk hlx
      clear hlx hlt
      go_wp2
      go_region_held3 (fun w' => w'.cell? (ad.add x.toNat) = some (.int .i64 (rd l x)) ∧ w'.cell? (ad.add j.toNat) = some (.int .i64 (rd l j)))
        (first | go_keep | exact ⟨by assumption, by assumption⟩ | (go_split_ands; exact ⟨by assumption, by assumption⟩))
        ((refine own_append_step (by rfl) _ _ (by rfl) w.heap.size _ u5 xs p (by rfl) (Ow_drewN (n := 1) HO.out) (by rfl) HLX.out (by have := HB.out.size; simpa using this) ?_; intro v2 w2 ho hg; have HB2 := Aside0.mk (below_grown (below_drew1 HB.out) hg (Ow_drewN (n := 1) HO.out)); have g1 := (HB2.out.cell (World.block_lt_of_cell? w _ HX0.out)).trans HX0.out; have g2 := (HB2.out.cell (World.block_lt_of_cell? w _ HX1.out)).trans HX1.out; have HO2 := Aside0.mk ho; clear ho hg))
      clear hx hx' g1 g2
      go_wp2
      go_roundg (gk - 1)
      case measure => have := HI.out; have := HXI.out; omega
      case rel => exact ⟨i + 1, x + 1, _, by go_num, ⟨by have := HXI.out; omega⟩, ⟨by have := HI.out; have := HXI.out; omega⟩, ⟨by rw [HX.out, HP.out, diffs_succ]⟩, ⟨by rw [List.length_append, HL.out]; rfl⟩, HO2, HB2⟩
    · have HE := Aside0.mk (show xs = diffs l k (l.length - k) by rw [HX.out, show i = l.length - k by have := HI.out; omega])
      have q1 : ¬ x < (l.length : Int) := by have := HXI.out; omega
      clear hlt
      (go_wp2; repeat (go_quiet (fail); try go_wp2))
      go_ret
      exact ⟨_, rfl, by rw [← HE.out]; first | exact HO.out | exact Ow_drewN HO.out _, (by repeat (first | (with_reducible first | exact HB.out | apply below_alloc | apply pw_below_drewN | apply below_drew1) | exact HB.out))⟩
end Go.Proofs.Ytafnipklejfbmaa.Own
