/- How often each difference is made by some sets: what the reference's ciCounts returns, and a set told as a list of sets. -/
import Derived.Test.YtikedacnijgloaaOwnCircB
namespace Go.Proofs.Ytikedacnijgloaa.Own.G
open Go.RowKit Go.Proofs.YtikedacnijgloaaW.PrintWords Go.Proofs.YtikedacnijgloaaW.PrintLast Go.Proofs.YtikedacnijgloaaW.PrintMore
set_option linter.unusedVariables false
/-- A list of lists that is read. -/
def Sets (w : World) (A : Option Addr) (ss : List (List Int)) : Prop := ∀ i : Nat, i < ss.length → ∃ ad A0 c0, A = some ad ∧ w.cell? (ad.add i) = some (.slice A0 (ss.getD i []).length c0) ∧ (ss.getD i []).length ≤ c0 ∧ Rd w A0 (ss.getD i [])
def csum (v : Int) (ss : List (List Int)) : Nat → List Int
  | 0 => List.replicate v.toNat 0
  | i + 1 => cadd (ss.getD i []) v (ss.getD i []).length (csum v ss i)
def AllPts (v : Int) (ss : List (List Int)) : Prop := ∀ i : Nat, i < ss.length → Pts v (ss.getD i []) ∧ 1 ≤ (ss.getD i []).length
theorem csum_length (v : Int) (ss : List (List Int)) (i : Nat) : (csum v ss i).length = v.toNat := by
  induction i with
  | zero => rw [csum, List.length_replicate]
  | succ i ih => rw [csum, cadd_length, ih]
theorem csum_bnd {v : Int} {ss : List (List Int)} (h : AllPts v ss) (hv : 2 ≤ v) {i : Nat} (hi : i ≤ ss.length) : Bnd (64 * (i : Int)) (csum v ss i) := by
  induction i with
  | zero => exact Bnd_zero _
  | succ i ih =>
    have hp := (h i (by omega)).1
    have := cadd_bnd hp (Nat.le_refl _) (o := csum v ss i) (by rw [csum_length]; omega) (ih (by omega))
    exact Bnd_mono this (by have := hp.2.1; omega)
theorem csum_one (v : Int) (l : List Int) : csum v [l] 1 = counted v l := rfl
theorem AllPts_one {v : Int} {l : List Int} (h : Pts v l) (hp : 1 ≤ l.length) : AllPts v [l] := fun i hi => by
  obtain rfl : i = 0 := by simpa using hi
  exact ⟨h, hp⟩
theorem Sets_one {w : World} {A : Option Addr} {c : Nat} {l : List Int} (hr : Rd w A l) (hc : l.length ≤ c) (t : TypeId) : Sets (w.alloc (.cells #[.slice A l.length c] t)) (some ⟨w.heap.size, 0, none⟩) [l] := fun i hi => by
  obtain rfl : i = 0 := by simpa using hi
  refine ⟨_, A, c, rfl, ?_, hc, Kd.C_below hr (below_alloc (Below.refl _ _) _)⟩
  exact World.news_of_block (cs := #[.slice A l.length c]) (t := t) (fr := (0, 0)) (heap_alloc_new w _) 0 _ rfl
set_option maxHeartbeats 3200000 in
theorem ciCounts_calls (v : Int) (A : Option Addr) (c : Nat) (ss : List (List Int)) (w : World) (hs : Sets w A ss) (hc : ss.length ≤ c) (hn : ss.length ≤ 1000) (hv : 2 ≤ v ∧ v ≤ 31) (hd : AllPts v ss) :
    Calls Try.prog 25 #[.int .i64 v, .slice A ss.length c] w fun e w' => ∃ u, e = .returned u ∧ Ow w' w.heap.size u (csum v ss ss.length) ∧ Below w.heap.size w w' := by
  have HS := Aside0.mk hs
  have HC := Aside0.mk hc
  have HD := Aside0.mk hd
  clear hs hc hd
  have HB := Aside0.mk (Below.refl w.heap.size w)
  go_enter Try.func25, Try.ntmps25
  go_wp2_with ((at_make; refine Kd.R_make (Kd.int .i64) (w0 := w) w.heap.size 3 rfl (N := 9) rfl 25 _ _ rfl v rfl rfl Try.underlying25 (.int .i64 0) 8 infoInt rfl (by decide) (by omega) 0 (ok := fun _ => True) (okp := fun _ => True) rfl (fun _ hk => hk) trivial (by omega) (by omega) ?mB ?mS ?_; (case mB => exact (by repeat (first | (with_reducible first | exact HB.out | apply below_alloc | apply pw_below_drewN | apply below_drew1) | exact HB.out))); (case mS => exact below_size (by repeat (first | (with_reducible first | exact HB.out | apply below_alloc | apply pw_below_drewN | apply below_drew1) | exact HB.out))); intro v1 w1 ho_ hb_ hg_ hnew_; have HO := Aside0.mk ho_; have n0_ := Aside0.mk hb_; clear HB; have HB := n0_; clear n0_ ho_ hb_ hg_ hnew_))
  go_loopg [12] ss.length (fun g' v12 w' => ∃ (i : Nat) (xs : List Int), v12 = .int .i64 i ∧ Aside0 (i + g' = ss.length) ∧ Aside0 (xs = csum v ss i) ∧ Aside0 (Ow w' w.heap.size v1 xs) ∧ Aside0 (Below w.heap.size w w'))
  case atStart => exact ⟨0, _, rfl, ⟨by omega⟩, ⟨rfl⟩, ⟨(by first | exact HO.out | exact Ow_drewN HO.out _)⟩, ⟨(by repeat (first | (with_reducible first | exact HB.out | apply below_alloc | apply pw_below_drewN | apply below_drew1) | exact HB.out))⟩⟩
  case round =>
    clear HO HB
    obtain ⟨i, xs, rfl, HI, HX, HO, HB⟩ := hrel
    by_cases hlt : i < ss.length
    · obtain ⟨ad, A0, c0, rfl, hx, hc0, hr0⟩ := HS.out i hlt
      replace hx := (HB.out.cell (World.block_lt_of_cell? w _ hx)).trans hx
      have HP := Aside0.mk (HD.out i hlt)
      have HR0 := Aside0.mk hr0
      have HC0 := Aside0.mk hc0
      have HXB := Aside0.mk (show Bnd (64 * (i : Int)) xs by rw [HX.out]; exact csum_bnd HD.out hv.1 (by omega))
      have HXL := Aside0.mk (show (xs.length : Int) = v by rw [HX.out, csum_length]; omega)
      have HY := Aside0.mk (show cadd (ss.getD i []) v (ss.getD i []).length xs = csum v ss (i + 1) by rw [HX.out, csum])
      clear hr0 hc0
      generalize ss.getD i [] = l at *
      go_wp2_with (go_at_call 30; refine (ciAdd_calls v A0 c0 l v1 xs (64 * (i : Int)) w _ HR0.out HC0.out HP.out.1 HP.out.2 HXL.out HXB.out (by omega) (by first | exact HO.out | exact Ow_drewN HO.out _) (by repeat (first | (with_reducible first | exact HB.out | apply below_alloc | apply pw_below_drewN | apply below_drew1) | exact HB.out))).mono ?_; rintro e w2 ⟨rfl, ho, hb⟩; rw [HY.out] at ho; have n0_ := Aside0.mk ho; have n1_ := Aside0.mk hb; clear HO HB ho hb; have HO := n0_; have HB := n1_; clear n0_ n1_)
      repeat (go_quiet (fail); try go_wp2)
      go_roundg (gk - 1)
      case measure => have := HI.out; omega
      case rel => exact ⟨i + 1, _, by go_num, ⟨by have := HI.out; omega⟩, ⟨rfl⟩, ⟨(by first | exact HO.out | exact Ow_drewN HO.out _)⟩, ⟨(by repeat (first | (with_reducible first | exact HB.out | apply below_alloc | apply pw_below_drewN | apply below_drew1) | exact HB.out))⟩⟩
    · have HE := Aside0.mk (show xs = csum v ss ss.length by rw [HX.out, show i = ss.length by have := HI.out; omega])
      (go_wp2; repeat (go_quiet (fail); try go_wp2))
      go_ret
      exact ⟨_, rfl, by rw [← HE.out]; exact (by first | exact HO.out | exact Ow_drewN HO.out _), (by repeat (first | (with_reducible first | exact HB.out | apply below_alloc | apply pw_below_drewN | apply below_drew1) | exact HB.out))⟩
end Go.Proofs.Ytikedacnijgloaa.Own.G
