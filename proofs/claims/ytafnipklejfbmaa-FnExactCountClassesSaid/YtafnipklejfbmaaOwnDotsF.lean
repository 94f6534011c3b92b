/- A list backwards, and dots mirrored: what the reference's and the program's functions return; lists of at most 1048576 numbers. -/
import Derived.Test.YtafnipklejfbmaaOwnDotsB
import Derived.Test.YtafnipklejfbmaaOwnSh
namespace Go.Proofs.Ytafnipklejfbmaa.Own
open Go.RowKit Go.Proofs.YtafnipklejfbmaaW.PrintWords Go.Proofs.YtafnipklejfbmaaW.PrintLast Go.Proofs.YtafnipklejfbmaaW.PrintMore
set_option linter.unusedVariables false
theorem back_step {l : List Int} {m : Nat} (h : m < l.length) : (l.drop m).reverse = (l.drop (m + 1)).reverse ++ [rd l (m : Int)] := by
  rw [drop_rd h, List.reverse_cons]
set_option maxHeartbeats 1600000 in
theorem roBack_calls (A : Option Addr) (c : Nat) (l : List Int) (w : World) (hr : Rd w A l) (hc : l.length ≤ c) (hn : l.length ≤ 1048576) :
    Calls Try.prog 44 #[.slice A l.length c] w fun e w' => ∃ v, e = .returned v ∧ Ow w' w.heap.size v l.reverse ∧ Below w.heap.size w w' := by
  have HR := Aside0.mk hr
  have HC := Aside0.mk hc
  clear hr hc
  have HB := Aside0.mk (Below.refl w.heap.size w)
  have HO := Aside0.mk (Kd.R_nil (Kd.int .i64) 3 w w.heap.size (fun _ => True))
  go_enter Try.func44, Try.ntmps44
  (go_wp2; repeat (go_quiet (fail); try go_wp2))
  go_loopg [3, 4] l.length (fun g v3 v4 w' => ∃ (x : Int) (xs : List Int), v4 = .int .i64 x ∧ Aside0 (x = (g : Int) - 1) ∧ Aside0 (g ≤ l.length) ∧ Aside0 (xs = (l.drop g).reverse) ∧ Aside0 (xs.length ≤ l.length) ∧ Aside0 (Ow w' w.heap.size v3 xs) ∧ Aside0 (Below w.heap.size w w'))
  case atStart => exact ⟨_, [], rfl, ⟨rfl⟩, ⟨Nat.le_refl _⟩, ⟨by simp⟩, ⟨by simp⟩, ⟨by first | exact HO.out | exact Ow_drewN HO.out _⟩, ⟨(by repeat (first | (with_reducible first | exact HB.out | apply below_alloc | apply pw_below_drewN | apply below_drew1) | exact HB.out))⟩⟩
  case round =>
    clear HO HB
    obtain ⟨x, xs, rfl, HXI, HI, HX, HL, HO, HB⟩ := hrel
    rcases gk with _ | m
    · have hx : x < 0 := by have := HXI.out; omega
      have HE := Aside0.mk (show xs = l.reverse by rw [HX.out]; rfl)
      (go_wp2; repeat (go_quiet (fail); try go_wp2))
      go_ret
      exact ⟨_, rfl, by rw [← HE.out]; first | exact HO.out | exact Ow_drewN HO.out _, (by repeat (first | (with_reducible first | exact HB.out | apply below_alloc | apply pw_below_drewN | apply below_drew1) | exact HB.out))⟩
    · obtain rfl : x = (m : Int) := by have := HXI.out; omega
      have hlt : m < l.length := by have := HI.out; omega
      obtain ⟨ad, rfl, hx⟩ := at_nat HR.out hlt
      replace hx := (HB.out.cell (World.block_lt_of_cell? w _ hx)).trans hx
      go_wp2_with ((at_builtin; refine Kd.R_append (Kd.int .i64) (w0 := w) w.heap.size rfl (.tmp 12) (.tmp 17) 30 3 (.int .i64 0) 8 rfl Try.underlying30 infoInt rfl (by decide) (by omega) u3 xs (rd l (m : Int)) [.int .i64 (rd l (m : Int))] (fun _ => True) (fun _ => False) rfl rfl rfl (fun _ hk => hk.elim) (fun _ _ => trivial) ?aO ?aB ?aS ?aL ?_; (case aO => exact (by (with_reducible repeat (first | apply Kd.R_alloc | apply Kd.R_drewN | apply Kd.R_drew)); exact HO.out)); (case aB => exact (by repeat (first | (with_reducible first | exact HB.out | apply below_alloc | apply pw_below_drewN | apply below_drew1) | exact HB.out))); (case aS => exact below_size (by repeat (first | (with_reducible first | exact HB.out | apply below_alloc | apply pw_below_drewN | apply below_drew1) | exact HB.out))); (case aL => have := HL.out; omega); intro v2 w2 ho_ hb_ hg_ hat_; have n0_ := Aside0.mk hb_; have n1_ := Aside0.mk ho_; clear HB HO; have HB := n0_; have HO := n1_; clear n0_ n1_ ho_ hb_ hg_ hat_))
      go_roundg m
      case measure => omega
      case rel => exact ⟨(m : Int) - 1, _, by go_num, ⟨rfl⟩, ⟨by omega⟩, ⟨by rw [back_step hlt, HX.out]⟩, ⟨by rw [HX.out]; simp; omega⟩, HO, HB⟩
set_option maxHeartbeats 1600000 in
theorem back_calls (A : Option Addr) (c : Nat) (l : List Int) (w : World) (hr : Rd w A l) (hc : l.length ≤ c) (hn : l.length ≤ 1048576) :
    Calls Try.prog 48 #[.slice A l.length c] w fun e w' => ∃ v, e = .returned v ∧ Ow w' w.heap.size v l.reverse ∧ Below w.heap.size w w' := by
  have HR := Aside0.mk hr
  have HC := Aside0.mk hc
  clear hr hc
  have HB := Aside0.mk (Below.refl w.heap.size w)
  go_enter Try.func48, Try.ntmps48
  go_wp2_with fail
  refine (Clone_calls _ _ l _ ?h1 HC.out (by omega)).mono ?_
  case h1 => exact Kd.C_below HR.out (by repeat (first | (with_reducible first | exact HB.out | apply below_alloc | apply pw_below_drewN | apply below_drew1) | exact HB.out))
  rintro e w1 ⟨v1, rfl, ho, hb⟩
  have HO := Aside0.mk (Ow_lower ho (below_size (by repeat (first | (with_reducible first | exact HB.out | apply below_alloc | apply pw_below_drewN | apply below_drew1) | exact HB.out))))
  have n0_ := Aside0.mk (below_step (by repeat (first | (with_reducible first | exact HB.out | apply below_alloc | apply pw_below_drewN | apply below_drew1) | exact HB.out)) hb)
  clear HB ho hb
  have HB := n0_
  clear n0_
  go_wp2_with fail
  refine (Reverse_calls v1 w.heap.size l _ ?h2 (by omega)).mono ?_
  case h2 => first | exact HO.out | exact Ow_drewN HO.out _
  rintro e w2 ⟨rfl, ho, hg⟩
  have n0_ := Aside0.mk (below_grown (by repeat (first | (with_reducible first | exact HB.out | apply below_alloc | apply pw_below_drewN | apply below_drew1) | exact HB.out)) hg (by first | exact HO.out | exact Ow_drewN HO.out _))
  clear HB hg HO
  have HB := n0_
  have HO := Aside0.mk ho
  clear n0_ ho
  (go_wp2; repeat (go_quiet (fail); try go_wp2))
  go_ret
  exact ⟨_, rfl, by first | exact HO.out | exact Ow_drewN HO.out _, (by repeat (first | (with_reducible first | exact HB.out | apply below_alloc | apply pw_below_drewN | apply below_drew1) | exact HB.out))⟩
noncomputable def MirrorF (l : List Int) : List Int × Bool := if tf (Dots l) = true then (l.reverse, true) else ([], false)
theorem MirrorF_yes {l : List Int} (h : Dots l) : MirrorF l = (l.reverse, true) := if_pos (tf_pos h)
theorem MirrorF_no {l : List Int} (h : ¬ Dots l) : MirrorF l = ([], false) := if_neg (by rw [tf_neg h]; decide)
theorem MirrorF_len (l : List Int) (hn : l.length ≤ 1048576) : (MirrorF l).1.length ≤ 1048576 := by
  by_cases h : Dots l
  · rw [MirrorF_yes h]; simpa using hn
  · rw [MirrorF_no h]; simp
end Go.Proofs.Ytafnipklejfbmaa.Own
