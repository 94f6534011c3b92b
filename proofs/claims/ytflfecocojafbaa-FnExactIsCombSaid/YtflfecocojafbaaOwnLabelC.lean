/- Combs told: what the reference's IsComb and the program's IsComb return; lists of at most 1048576 numbers. -/
import Derived.Test.YtflfecocojafbaaOwnLabelA
import Derived.Test.YtflfecocojafbaaOwnMaxK
namespace Go.Proofs.Ytflfecocojafbaa.Own.G
open Go.RowKit Go.Proofs.YtflfecocojafbaaW.PrintWords Go.Proofs.YtflfecocojafbaaW.PrintLast Go.Proofs.YtflfecocojafbaaW.PrintMore
set_option linter.unusedVariables false
/-- Edges of each node, behind the nodes below i. -/
def degs (l : List Int) : Nat → List Int
  | 0 => List.replicate l.length 0
  | i + 1 => if 0 < i then bump (bump (degs l i) (i : Int)) (rd l (i : Int)) else degs l i
theorem degs_one (l : List Int) : degs l 1 = List.replicate l.length 0 := by simp [degs]
theorem degs_succ {l : List Int} {i : Nat} (h : 1 ≤ i) : degs l (i + 1) = bump (bump (degs l i) (i : Int)) (rd l (i : Int)) := by
  rw [degs, if_pos (by omega)]
def Joint (l e : List Int) (i : Nat) : Prop := 1 < rd e (i : Int) ∧ 1 < rd e (rd l (i : Int))
noncomputable def joints (l e : List Int) : Nat → List Int
  | 0 => List.replicate l.length 0
  | i + 1 => if tf (0 < i ∧ Joint l e i) = true then bump (bump (joints l e i) (i : Int)) (rd l (i : Int)) else joints l e i
theorem joints_one (l e : List Int) : joints l e 1 = List.replicate l.length 0 := by
  rw [joints, if_neg (by rw [tf_neg (by omega)]; decide)]
  rfl
theorem joints_yes {l e : List Int} {i : Nat} (h : 1 ≤ i) (hj : Joint l e i) : joints l e (i + 1) = bump (bump (joints l e i) (i : Int)) (rd l (i : Int)) := by
  rw [joints, if_pos (tf_pos ⟨by omega, hj⟩)]
theorem joints_no {l e : List Int} {i : Nat} (hj : ¬ Joint l e i) : joints l e (i + 1) = joints l e i := by
  rw [joints, if_neg (by rw [tf_neg (fun h => hj h.2)]; decide)]
theorem degs_length (l : List Int) (i : Nat) : (degs l i).length = l.length := by
  induction i with
  | zero => simp [degs]
  | succ i ih =>
    rw [degs]
    split
    · rw [bump_length, bump_length, ih]
    · exact ih
theorem joints_length (l e : List Int) (i : Nat) : (joints l e i).length = l.length := by
  induction i with
  | zero => simp [joints]
  | succ i ih =>
    rw [joints]
    split
    · rw [bump_length, bump_length, ih]
    · exact ih
theorem bump2_bnd {o : List Int} {k a b : Int} (h : Bnd k o) (a0 : 0 ≤ a) (a1 : a < (o.length : Int)) (b0 : 0 ≤ b) (b1 : b < (o.length : Int)) : Bnd (k + 2) (bump (bump o a) b) := by
  have := Bnd_bump (Bnd_bump h a0 a1) b0 (by rw [bump_length]; exact b1)
  rwa [show k + 1 + 1 = k + 2 by omega] at this
theorem degs_bnd {l : List Int} (h : Tree l) {i : Nat} (hi : i ≤ l.length) : Bnd (2 * (i : Int)) (degs l i) := by
  induction i with
  | zero => exact Bnd_zero _
  | succ i ih =>
    rcases Nat.eq_zero_or_pos i with h0 | h0
    · subst h0
      rw [degs_one]
      exact Bnd_mono (Bnd_zero _) (by omega)
    · rw [degs_succ h0]
      have ht := h.2 i h0 (by omega)
      have := bump2_bnd (a := (i : Int)) (b := rd l (i : Int)) (ih (by omega)) (by omega) (by rw [degs_length]; omega) ht.1 (by rw [degs_length]; omega)
      exact Bnd_mono this (by omega)
theorem joints_bnd {l : List Int} (e : List Int) (h : Tree l) {i : Nat} (hi : i ≤ l.length) : Bnd (2 * (i : Int)) (joints l e i) := by
  induction i with
  | zero => exact Bnd_zero _
  | succ i ih =>
    by_cases hj : 0 < i ∧ Joint l e i
    · rw [joints_yes hj.1 hj.2]
      have ht := h.2 i hj.1 (by omega)
      have := bump2_bnd (a := (i : Int)) (b := rd l (i : Int)) (ih (by omega)) (by omega) (by rw [joints_length]; omega) ht.1 (by rw [joints_length]; omega)
      exact Bnd_mono this (by omega)
    · rw [joints, if_neg (by rw [tf_neg hj]; decide)]
      exact Bnd_mono (ih (by omega)) (by omega)
noncomputable def combRow (l : List Int) : List Int := joints l (degs l l.length) l.length
theorem combRow_length (l : List Int) : (combRow l).length = l.length := joints_length _ _ _
noncomputable def IsCombF (l : List Int) : Bool × Bool := if tf (Tree l) = true then (tf (AllIn 0 2 (combRow l)), true) else (false, false)
theorem IsCombF_yes {l : List Int} (h : Tree l) : IsCombF l = (tf (AllIn 0 2 (combRow l)), true) := if_pos (tf_pos h)
theorem IsCombF_no {l : List Int} (h : ¬ Tree l) : IsCombF l = (false, false) := if_neg (by rw [tf_neg h]; decide)
theorem comb_top {l : List Int} (h : Tree l) {m : Int} (hm : Top (combRow l) (combRow l).length m) : decide (m ≤ 2) = tf (AllIn 0 2 (combRow l)) := by
  rw [← tf_dec]
  refine tf_congr ?_
  rw [hm 2]
  exact ⟨fun k j hj => ⟨(joints_bnd _ h (Nat.le_refl _) _ (rd_mem hj)).1, k j hj⟩, fun k j hj => (k j hj).2⟩
set_option maxHeartbeats 6400000 in
theorem specIsComb_calls (A : Option Addr) (c : Nat) (l : List Int) (w : World) (hr : Rd w A l) (hc : l.length ≤ c) (hn : l.length ≤ 1048576) (hw : ∀ x ∈ l, W64 x) :
    Calls Try.prog 15 #[.slice A l.length c] w fun e w' => e = .returned (.tuple #[.bool (IsCombF l).1, .bool (IsCombF l).2]) ∧ Below w.heap.size w w' := by
  have HR := Aside0.mk hr
  have HC := Aside0.mk hc
  clear hr hc hw
  have HB := Aside0.mk (Below.refl w.heap.size w)
  by_cases hd : Tree l
  · have H1 := Aside0.mk (tf_pos hd)
    have HF := Aside0.mk (IsCombF_yes hd)
    have HD := Aside0.mk hd
    have hlen := hd.1.1
    obtain ⟨ad, hA, _⟩ := at_first HR.out hlen.1
    subst hA
    clear hd
    go_enter Try.func15, Try.ntmps15
    go_wp2_with (first | (go_at_call 46; refine (grTree_calls _ _ l _ HR.out HC.out hn).mono ?_; rw [H1.out]; rintro e w' ⟨rfl, ⟨nd, rfl⟩⟩) | (at_make; refine Kd.R_make (Kd.int .i64) (w0 := w) w.heap.size 3 rfl (N := 14) rfl 22 _ _ rfl (l.length : Int) rfl rfl Try.underlying22 (.int .i64 0) 8 infoInt rfl (by decide) (by omega) 0 (ok := fun _ => True) (okp := fun _ => True) rfl (fun _ hk => hk) trivial (by omega) (by omega) ?mB ?mS ?_; (case mB => exact (by repeat (first | (with_reducible first | exact HB.out | apply below_alloc | apply pw_below_drewN | apply below_drew1) | exact HB.out))); (case mS => exact below_size (by repeat (first | (with_reducible first | exact HB.out | apply below_alloc | apply pw_below_drewN | apply below_drew1) | exact HB.out))); intro v1 w1 ho_ hb_ hg_ hnew_; have HO := Aside0.mk ho_; have n0_ := Aside0.mk hb_; clear HB; have HB := n0_; clear n0_ ho_ hb_ hg_ hnew_))
    obtain ⟨g, cap, rfl, hgb, _, _, _⟩ := Kd.R_form HO.out (by simp; omega)
    have hrl : (List.replicate (l.length : Int).toNat (0 : Int)).length = l.length := by simp
    have h0 : List.replicate (l.length : Int).toNat (0 : Int) = degs l 1 := by rw [degs_one]; rfl
    have h1 := HO.out
    rw [hrl, h0] at h1
    clear HO
    have HO := Aside0.mk h1
    rw [hrl]
    clear h0 hrl h1
    go_loopg [5] (l.length - 1) (fun g' v5 w' => ∃ (i : Nat) (xs : List Int), v5 = .int .i64 i ∧ Aside0 (1 ≤ i) ∧ Aside0 (i + g' = l.length) ∧ Aside0 (xs = degs l i) ∧ Aside0 (Ow w' w.heap.size (.slice (some ⟨g, 0, none⟩) l.length cap) xs) ∧ Aside0 (Below w.heap.size w w'))
    case atStart => exact ⟨1, _, rfl, ⟨by omega⟩, ⟨by omega⟩, ⟨rfl⟩, ⟨(by first | exact HO.out | exact Ow_drewN HO.out _)⟩, ⟨(by repeat (first | (with_reducible first | exact HB.out | apply below_alloc | apply pw_below_drewN | apply below_drew1) | exact HB.out))⟩⟩
    case round =>
      clear HO HB
      obtain ⟨i, xs, rfl, HI1, HI, HX, HO, HB⟩ := hrel
      by_cases hlt : i < l.length
      · obtain ⟨ad1, e1, hx⟩ := at_nat HR.out hlt
        obtain rfl : ad = ad1 := by injection e1
        clear e1
        have HXW := Aside0.mk hx
        replace hx := (HB.out.cell (World.block_lt_of_cell? w _ hx)).trans hx
        have ht := HD.out.2 i HI1.out hlt
        obtain ⟨a, hae⟩ : ∃ a : Int, rd l (i : Int) = a := ⟨_, rfl⟩
        rw [hae] at hx ht
        have HAE := Aside0.mk hae
        clear hae
        have HXL := Aside0.mk (show xs.length = l.length by rw [HX.out, degs_length])
        have HXB := Aside0.mk (show Bnd 18 xs by rw [HX.out]; exact Bnd_mono (degs_bnd HD.out (by omega)) (by omega))
        obtain ⟨hc1, hf1⟩ := own_cell HO.out hlt
        have hq := Bnd_rd HXB.out (show 0 ≤ (i : Int) by omega) (by rw [HXL.out]; omega)
        have HP := Aside0.mk (own_put HO.out i (rd xs (i : Int) + 1))
        have HY := Aside0.mk (show xs.set i (rd xs (i : Int) + 1) = bump xs (i : Int) by rw [bump, Int.toNat_natCast])
        generalize rd xs (i : Int) = q at hc1 hq HP HY
        go_upto_region 8 with (fail)
        have hb2 := below_set (j := i) (v := .int .i64 (q + 1)) HB.out hgb
        have ho2 := HP.out.1
        rw [HY.out] at ho2
        clear hc1 hf1 hx hq HO HB HP HY
        generalize wr.setCell ⟨g, i, none⟩ (.int .i64 (q + 1)) = w2 at hb2 ho2 ⊢
        have HB := Aside0.mk hb2
        have HO := Aside0.mk ho2
        clear hb2 ho2
        have hx := (HB.out.cell (World.block_lt_of_cell? w _ HXW.out)).trans HXW.out
        rw [HAE.out] at hx
        have ha1 : a < (l.length : Int) := by omega
        obtain ⟨hc1, hf1⟩ := own_celli HO.out a ht.1 ha1
        have hq := Bnd_rd (Bnd_bump HXB.out (show 0 ≤ (i : Int) by omega) (by rw [HXL.out]; omega)) ht.1 (by rw [bump_length, HXL.out]; exact ha1)
        have HP := Aside0.mk (Kd.R_putg HO.out a (rd (bump xs (i : Int)) a + 1))
        have HY := Aside0.mk (show (bump xs (i : Int)).set a.toNat (rd (bump xs (i : Int)) a + 1) = degs l (i + 1) by rw [degs_succ HI1.out, HAE.out, ← HX.out]; rfl)
        generalize rd (bump xs (i : Int)) a = q2 at hc1 hq HP HY
        go_wp2
        go_roundg (gk - 1)
        case measure => have := HI.out; omega
        case rel => exact ⟨i + 1, _, by go_num, ⟨by omega⟩, ⟨by have := HI.out; omega⟩, ⟨rfl⟩, ⟨by have := HP.out.1; rwa [HY.out] at this⟩, ⟨below_set HB.out hgb⟩⟩
      · have HE := Aside0.mk (show xs = degs l l.length by rw [HX.out, show i = l.length by have := HI.out; omega])
        clear HX
        go_upto_region 9 with (fail)
        have HB0 := HB
        clear HB
        obtain ⟨wb, rfl⟩ : ∃ wb : World, wb = w := ⟨_, rfl⟩
        have HR2 := Aside0.mk (Kd.C_below HR.out HB0.out)
        have HO2 := HO
        clear HR HO
        obtain ⟨w, rfl⟩ : ∃ w : World, w = wr := ⟨_, rfl⟩
        have HB := Aside0.mk (Below.refl w.heap.size w)
        go_wp2_with ((at_make; refine Kd.R_make (Kd.int .i64) (w0 := w) w.heap.size 3 rfl (N := 38) rfl 22 _ _ rfl (l.length : Int) rfl rfl Try.underlying22 (.int .i64 0) 8 infoInt rfl (by decide) (by omega) 0 (ok := fun _ => True) (okp := fun _ => True) rfl (fun _ hk => hk) trivial (by omega) (by omega) ?mB ?mS ?_; (case mB => exact (by repeat (first | (with_reducible first | exact HB.out | apply below_alloc | apply pw_below_drewN | apply below_drew1) | exact HB.out))); (case mS => exact below_size (by repeat (first | (with_reducible first | exact HB.out | apply below_alloc | apply pw_below_drewN | apply below_drew1) | exact HB.out))); intro v1 w1 ho_ hb_ hg_ hnew_; have HO := Aside0.mk ho_; have n0_ := Aside0.mk hb_; clear HB; have HB := n0_; clear n0_ ho_ hb_ hg_ hnew_))
        obtain ⟨g2, cap2, rfl, hgb2, _, _, _⟩ := Kd.R_form HO.out (by simp; omega)
        have hrl : (List.replicate (l.length : Int).toNat (0 : Int)).length = l.length := by simp
        have h0 : List.replicate (l.length : Int).toNat (0 : Int) = joints l xs 1 := by rw [joints_one]; rfl
        have h1 := HO.out
        rw [hrl, h0] at h1
        clear HO
        have HO := Aside0.mk h1
        rw [hrl]
        clear h0 hrl h1
        have HBx := Aside0.mk (show Bnd 18 xs by rw [HE.out]; exact Bnd_mono (degs_bnd HD.out (Nat.le_refl _)) (by omega))
        have HXL := Aside0.mk (show xs.length = l.length by rw [HE.out, degs_length])
        go_loopg [7] (l.length - 1) (fun g' v7 w' => ∃ (i : Nat) (ys : List Int), v7 = .int .i64 i ∧ Aside0 (1 ≤ i) ∧ Aside0 (i + g' = l.length) ∧ Aside0 (ys = joints l xs i) ∧ Aside0 (Ow w' w.heap.size (.slice (some ⟨g2, 0, none⟩) l.length cap2) ys) ∧ Aside0 (Below w.heap.size w w'))
        case atStart => exact ⟨1, _, rfl, ⟨by omega⟩, ⟨by omega⟩, ⟨rfl⟩, ⟨(by first | exact HO.out | exact Ow_drewN HO.out _)⟩, ⟨(by repeat (first | (with_reducible first | exact HB.out | apply below_alloc | apply pw_below_drewN | apply below_drew1) | exact HB.out))⟩⟩
        case round =>
          clear HO HB HI1 HI hlt
          obtain ⟨i, ys, rfl, HI1, HI, HX, HO, HB⟩ := hrel
          by_cases hlt : i < l.length
          · obtain ⟨ad1, e1, hx⟩ := at_nat HR2.out hlt
            obtain rfl : ad = ad1 := by injection e1
            clear e1
            have ht := HD.out.2 i HI1.out hlt
            obtain ⟨a, hae⟩ : ∃ a : Int, rd l (i : Int) = a := ⟨_, rfl⟩
            rw [hae] at hx ht
            have HAE := Aside0.mk hae
            clear hae
            have ha1 : a < (l.length : Int) := by omega
            have HXW := Aside0.mk hx
            replace hx := (HB.out.cell (World.block_lt_of_cell? w _ hx)).trans hx
            obtain ⟨he1, _⟩ := own_cell HO2.out hlt
            replace he1 := (HB.out.cell (World.block_lt_of_cell? w _ he1)).trans he1
            obtain ⟨he2, _⟩ := own_celli HO2.out a ht.1 ha1
            replace he2 := (HB.out.cell (World.block_lt_of_cell? w _ he2)).trans he2
            have HYL := Aside0.mk (show ys.length = l.length by rw [HX.out, joints_length])
            have HYB := Aside0.mk (show Bnd 18 ys by rw [HX.out]; exact Bnd_mono (joints_bnd _ HD.out (by omega)) (by omega))
            by_cases p1 : 1 < rd xs (i : Int)
            · by_cases p2 : 1 < rd xs a
              · have HJ := Aside0.mk (joints_yes HI1.out (show Joint l xs i from ⟨p1, by rw [HAE.out]; exact p2⟩))
                obtain ⟨hc1, hf1⟩ := own_cell HO.out hlt
                have hq := Bnd_rd HYB.out (show 0 ≤ (i : Int) by omega) (by rw [HYL.out]; omega)
                have HP := Aside0.mk (own_put HO.out i (rd ys (i : Int) + 1))
                have HY := Aside0.mk (show ys.set i (rd ys (i : Int) + 1) = bump ys (i : Int) by rw [bump, Int.toNat_natCast])
                generalize rd ys (i : Int) = q at hc1 hq HP HY
                go_upto_region 16 with (fail)
                have hb2 := below_set (j := i) (v := .int .i64 (q + 1)) HB.out hgb2
                have ho2 := HP.out.1
                rw [HY.out] at ho2
                clear hc1 hf1 hx hq HO HB HP HY he1 he2
                generalize wr.setCell ⟨g2, i, none⟩ (.int .i64 (q + 1)) = w2 at hb2 ho2 ⊢
                have HB := Aside0.mk hb2
                have HO := Aside0.mk ho2
                clear hb2 ho2
                have hx := (HB.out.cell (World.block_lt_of_cell? w _ HXW.out)).trans HXW.out
                obtain ⟨hc1, hf1⟩ := own_celli HO.out a ht.1 ha1
                have hq := Bnd_rd (Bnd_bump HYB.out (show 0 ≤ (i : Int) by omega) (by rw [HYL.out]; omega)) ht.1 (by rw [bump_length, HYL.out]; exact ha1)
                have HP := Aside0.mk (Kd.R_putg HO.out a (rd (bump ys (i : Int)) a + 1))
                have HY := Aside0.mk (show (bump ys (i : Int)).set a.toNat (rd (bump ys (i : Int)) a + 1) = joints l xs (i + 1) by rw [HJ.out, HAE.out, ← HX.out]; rfl)
                generalize rd (bump ys (i : Int)) a = q2 at hc1 hq HP HY
                go_wp2
                go_roundg (gk - 1)
                case measure => have := HI.out; omega
                case rel => exact ⟨i + 1, _, by go_num, ⟨by omega⟩, ⟨by have := HI.out; omega⟩, ⟨rfl⟩, ⟨by have := HP.out.1; rwa [HY.out] at this⟩, ⟨below_set HB.out hgb2⟩⟩
              · have HJ := Aside0.mk (joints_no (show ¬ Joint l xs i from fun h => p2 (by have := h.2; rwa [HAE.out] at this)))
                go_wp2
                go_roundg (gk - 1)
                case measure => have := HI.out; omega
                case rel => exact ⟨i + 1, ys, by go_num, ⟨by omega⟩, ⟨by have := HI.out; omega⟩, ⟨by rw [HJ.out, HX.out]⟩, HO, HB⟩
            · have HJ := Aside0.mk (joints_no (show ¬ Joint l xs i from fun h => p1 h.1))
              go_wp2
              go_roundg (gk - 1)
              case measure => have := HI.out; omega
              case rel => exact ⟨i + 1, ys, by go_num, ⟨by omega⟩, ⟨by have := HI.out; omega⟩, ⟨by rw [HJ.out, HX.out]⟩, HO, HB⟩
          · have HE2 := Aside0.mk (show ys = combRow l by rw [HX.out, HE.out, show i = l.length by have := HI.out; omega]; rfl)
            have hyl := combRow_length l
            rw [← HE2.out] at hyl
            have HYL := Aside0.mk hyl
            clear hyl
            go_wp2_with (go_at_call 47; refine (calls_of_args (by rw [HYL.out]) (all_calls _ cap2 ys 0 2 _ (Ow_rd HO.out) (Ow_cap HO.out) (by rw [HYL.out]; exact hn))).mono ?_; rw [HE2.out]; rintro e w' ⟨rfl, ⟨nd3, rfl⟩⟩)
            go_ret2
            exact ⟨by rw [HF.out]; first | rfl | (rw [HM.out]; rfl), below_step HB0.out (by repeat (first | (with_reducible first | exact HB.out | apply below_alloc | apply pw_below_drewN | apply below_drew1) | exact HB.out))⟩
  · have H1 := Aside0.mk (tf_neg hd)
    have HF := Aside0.mk (IsCombF_no hd)
    clear hd
    go_enter Try.func15, Try.ntmps15
    go_wp2_with (go_at_call 46; refine (grTree_calls _ _ l _ HR.out HC.out hn).mono ?_; rw [H1.out]; rintro e w' ⟨rfl, ⟨nd, rfl⟩⟩)
    go_ret2
    exact ⟨by rw [HF.out]; rfl, (by repeat (first | (with_reducible first | exact HB.out | apply below_alloc | apply pw_below_drewN | apply below_drew1) | exact HB.out))⟩
set_option maxHeartbeats 6400000 in
theorem implIsComb_calls (A : Option Addr) (c : Nat) (l : List Int) (w : World) (hr : Rd w A l) (hc : l.length ≤ c) (hn : l.length ≤ 1048576) (hw : ∀ x ∈ l, W64 x) :
    Calls Try.prog 17 #[.slice A l.length c] w fun e w' => e = .returned (.tuple #[.bool (IsCombF l).1, .bool (IsCombF l).2]) ∧ Below w.heap.size w w' := by
  have HR := Aside0.mk hr
  have HC := Aside0.mk hc
  clear hr hc hw
  have HB := Aside0.mk (Below.refl w.heap.size w)
  by_cases hd : Tree l
  · have H1 := Aside0.mk (tf_pos hd)
    have HF := Aside0.mk (IsCombF_yes hd)
    have HD := Aside0.mk hd
    have hlen := hd.1.1
    obtain ⟨ad, hA, _⟩ := at_first HR.out hlen.1
    subst hA
    clear hd
    go_enter Try.func17, Try.ntmps17
    go_wp2_with (first | (go_at_call 48; refine (IsTree_calls _ _ l _ HR.out HC.out hn).mono ?_; rw [H1.out]; rintro e w' ⟨rfl, ⟨nd, rfl⟩⟩) | (at_make; refine Kd.R_make (Kd.int .i64) (w0 := w) w.heap.size 3 rfl (N := 13) rfl 22 _ _ rfl (l.length : Int) rfl rfl Try.underlying22 (.int .i64 0) 8 infoInt rfl (by decide) (by omega) 0 (ok := fun _ => True) (okp := fun _ => True) rfl (fun _ hk => hk) trivial (by omega) (by omega) ?mB ?mS ?_; (case mB => exact (by repeat (first | (with_reducible first | exact HB.out | apply below_alloc | apply pw_below_drewN | apply below_drew1) | exact HB.out))); (case mS => exact below_size (by repeat (first | (with_reducible first | exact HB.out | apply below_alloc | apply pw_below_drewN | apply below_drew1) | exact HB.out))); intro v1 w1 ho_ hb_ hg_ hnew_; have HO := Aside0.mk ho_; have n0_ := Aside0.mk hb_; clear HB; have HB := n0_; clear n0_ ho_ hb_ hg_ hnew_))
    obtain ⟨g, cap, rfl, hgb, _, _, _⟩ := Kd.R_form HO.out (by simp; omega)
    have hrl : (List.replicate (l.length : Int).toNat (0 : Int)).length = l.length := by simp
    have h0 : List.replicate (l.length : Int).toNat (0 : Int) = degs l 1 := by rw [degs_one]; rfl
    have h1 := HO.out
    rw [hrl, h0] at h1
    clear HO
    have HO := Aside0.mk h1
    rw [hrl]
    clear h0 hrl h1
    go_loopg [5] (l.length - 1) (fun g' v5 w' => ∃ (i : Nat) (xs : List Int), v5 = .int .i64 i ∧ Aside0 (1 ≤ i) ∧ Aside0 (i + g' = l.length) ∧ Aside0 (xs = degs l i) ∧ Aside0 (Ow w' w.heap.size (.slice (some ⟨g, 0, none⟩) l.length cap) xs) ∧ Aside0 (Below w.heap.size w w'))
    case atStart => exact ⟨1, _, rfl, ⟨by omega⟩, ⟨by omega⟩, ⟨rfl⟩, ⟨(by first | exact HO.out | exact Ow_drewN HO.out _)⟩, ⟨(by repeat (first | (with_reducible first | exact HB.out | apply below_alloc | apply pw_below_drewN | apply below_drew1) | exact HB.out))⟩⟩
    case round =>
      clear HO HB
      obtain ⟨i, xs, rfl, HI1, HI, HX, HO, HB⟩ := hrel
      by_cases hlt : i < l.length
      · obtain ⟨ad1, e1, hx⟩ := at_nat HR.out hlt
        obtain rfl : ad = ad1 := by injection e1
        clear e1
        have HXW := Aside0.mk hx
        replace hx := (HB.out.cell (World.block_lt_of_cell? w _ hx)).trans hx
        have ht := HD.out.2 i HI1.out hlt
        obtain ⟨a, hae⟩ : ∃ a : Int, rd l (i : Int) = a := ⟨_, rfl⟩
        rw [hae] at hx ht
        have HAE := Aside0.mk hae
        clear hae
        have HXL := Aside0.mk (show xs.length = l.length by rw [HX.out, degs_length])
        have HXB := Aside0.mk (show Bnd 18 xs by rw [HX.out]; exact Bnd_mono (degs_bnd HD.out (by omega)) (by omega))
        obtain ⟨hc1, hf1⟩ := own_cell HO.out hlt
        have hq := Bnd_rd HXB.out (show 0 ≤ (i : Int) by omega) (by rw [HXL.out]; omega)
        have HP := Aside0.mk (own_put HO.out i (rd xs (i : Int) + 1))
        have HY := Aside0.mk (show xs.set i (rd xs (i : Int) + 1) = bump xs (i : Int) by rw [bump, Int.toNat_natCast])
        generalize rd xs (i : Int) = q at hc1 hq HP HY
        go_upto_region 8 with (fail)
        have hb2 := below_set (j := i) (v := .int .i64 (q + 1)) HB.out hgb
        have ho2 := HP.out.1
        rw [HY.out] at ho2
        clear hc1 hf1 hx hq HO HB HP HY
        generalize wr.setCell ⟨g, i, none⟩ (.int .i64 (q + 1)) = w2 at hb2 ho2 ⊢
        have HB := Aside0.mk hb2
        have HO := Aside0.mk ho2
        clear hb2 ho2
        have hx := (HB.out.cell (World.block_lt_of_cell? w _ HXW.out)).trans HXW.out
        rw [HAE.out] at hx
        have ha1 : a < (l.length : Int) := by omega
        obtain ⟨hc1, hf1⟩ := own_celli HO.out a ht.1 ha1
        have hq := Bnd_rd (Bnd_bump HXB.out (show 0 ≤ (i : Int) by omega) (by rw [HXL.out]; omega)) ht.1 (by rw [bump_length, HXL.out]; exact ha1)
        have HP := Aside0.mk (Kd.R_putg HO.out a (rd (bump xs (i : Int)) a + 1))
        have HY := Aside0.mk (show (bump xs (i : Int)).set a.toNat (rd (bump xs (i : Int)) a + 1) = degs l (i + 1) by rw [degs_succ HI1.out, HAE.out, ← HX.out]; rfl)
        generalize rd (bump xs (i : Int)) a = q2 at hc1 hq HP HY
        go_wp2
        go_roundg (gk - 1)
        case measure => have := HI.out; omega
        case rel => exact ⟨i + 1, _, by go_num, ⟨by omega⟩, ⟨by have := HI.out; omega⟩, ⟨rfl⟩, ⟨by have := HP.out.1; rwa [HY.out] at this⟩, ⟨below_set HB.out hgb⟩⟩
      · have HE := Aside0.mk (show xs = degs l l.length by rw [HX.out, show i = l.length by have := HI.out; omega])
        clear HX
        go_upto_region 9 with (fail)
        have HB0 := HB
        clear HB
        obtain ⟨wb, rfl⟩ : ∃ wb : World, wb = w := ⟨_, rfl⟩
        have HR2 := Aside0.mk (Kd.C_below HR.out HB0.out)
        have HO2 := HO
        clear HR HO
        obtain ⟨w, rfl⟩ : ∃ w : World, w = wr := ⟨_, rfl⟩
        have HB := Aside0.mk (Below.refl w.heap.size w)
        go_wp2_with ((at_make; refine Kd.R_make (Kd.int .i64) (w0 := w) w.heap.size 3 rfl (N := 37) rfl 22 _ _ rfl (l.length : Int) rfl rfl Try.underlying22 (.int .i64 0) 8 infoInt rfl (by decide) (by omega) 0 (ok := fun _ => True) (okp := fun _ => True) rfl (fun _ hk => hk) trivial (by omega) (by omega) ?mB ?mS ?_; (case mB => exact (by repeat (first | (with_reducible first | exact HB.out | apply below_alloc | apply pw_below_drewN | apply below_drew1) | exact HB.out))); (case mS => exact below_size (by repeat (first | (with_reducible first | exact HB.out | apply below_alloc | apply pw_below_drewN | apply below_drew1) | exact HB.out))); intro v1 w1 ho_ hb_ hg_ hnew_; have HO := Aside0.mk ho_; have n0_ := Aside0.mk hb_; clear HB; have HB := n0_; clear n0_ ho_ hb_ hg_ hnew_))
        obtain ⟨g2, cap2, rfl, hgb2, _, _, _⟩ := Kd.R_form HO.out (by simp; omega)
        have hrl : (List.replicate (l.length : Int).toNat (0 : Int)).length = l.length := by simp
        have h0 : List.replicate (l.length : Int).toNat (0 : Int) = joints l xs 1 := by rw [joints_one]; rfl
        have h1 := HO.out
        rw [hrl, h0] at h1
        clear HO
        have HO := Aside0.mk h1
        rw [hrl]
        clear h0 hrl h1
        have HBx := Aside0.mk (show Bnd 18 xs by rw [HE.out]; exact Bnd_mono (degs_bnd HD.out (Nat.le_refl _)) (by omega))
        have HXL := Aside0.mk (show xs.length = l.length by rw [HE.out, degs_length])
        go_loopg [7] (l.length - 1) (fun g' v7 w' => ∃ (i : Nat) (ys : List Int), v7 = .int .i64 i ∧ Aside0 (1 ≤ i) ∧ Aside0 (i + g' = l.length) ∧ Aside0 (ys = joints l xs i) ∧ Aside0 (Ow w' w.heap.size (.slice (some ⟨g2, 0, none⟩) l.length cap2) ys) ∧ Aside0 (Below w.heap.size w w'))
        case atStart => exact ⟨1, _, rfl, ⟨by omega⟩, ⟨by omega⟩, ⟨rfl⟩, ⟨(by first | exact HO.out | exact Ow_drewN HO.out _)⟩, ⟨(by repeat (first | (with_reducible first | exact HB.out | apply below_alloc | apply pw_below_drewN | apply below_drew1) | exact HB.out))⟩⟩
        case round =>
          clear HO HB HI1 HI hlt
          obtain ⟨i, ys, rfl, HI1, HI, HX, HO, HB⟩ := hrel
          by_cases hlt : i < l.length
          · obtain ⟨ad1, e1, hx⟩ := at_nat HR2.out hlt
            obtain rfl : ad = ad1 := by injection e1
            clear e1
            have ht := HD.out.2 i HI1.out hlt
            obtain ⟨a, hae⟩ : ∃ a : Int, rd l (i : Int) = a := ⟨_, rfl⟩
            rw [hae] at hx ht
            have HAE := Aside0.mk hae
            clear hae
            have ha1 : a < (l.length : Int) := by omega
            have HXW := Aside0.mk hx
            replace hx := (HB.out.cell (World.block_lt_of_cell? w _ hx)).trans hx
            obtain ⟨he1, _⟩ := own_cell HO2.out hlt
            replace he1 := (HB.out.cell (World.block_lt_of_cell? w _ he1)).trans he1
            obtain ⟨he2, _⟩ := own_celli HO2.out a ht.1 ha1
            replace he2 := (HB.out.cell (World.block_lt_of_cell? w _ he2)).trans he2
            have HYL := Aside0.mk (show ys.length = l.length by rw [HX.out, joints_length])
            have HYB := Aside0.mk (show Bnd 18 ys by rw [HX.out]; exact Bnd_mono (joints_bnd _ HD.out (by omega)) (by omega))
            by_cases p1 : 1 < rd xs (i : Int)
            · by_cases p2 : 1 < rd xs a
              · have HJ := Aside0.mk (joints_yes HI1.out (show Joint l xs i from ⟨p1, by rw [HAE.out]; exact p2⟩))
                obtain ⟨hc1, hf1⟩ := own_cell HO.out hlt
                have hq := Bnd_rd HYB.out (show 0 ≤ (i : Int) by omega) (by rw [HYL.out]; omega)
                have HP := Aside0.mk (own_put HO.out i (rd ys (i : Int) + 1))
                have HY := Aside0.mk (show ys.set i (rd ys (i : Int) + 1) = bump ys (i : Int) by rw [bump, Int.toNat_natCast])
                generalize rd ys (i : Int) = q at hc1 hq HP HY
                go_upto_region 15 with (fail)
                have hb2 := below_set (j := i) (v := .int .i64 (q + 1)) HB.out hgb2
                have ho2 := HP.out.1
                rw [HY.out] at ho2
                clear hc1 hf1 hx hq HO HB HP HY he1 he2
                generalize wr.setCell ⟨g2, i, none⟩ (.int .i64 (q + 1)) = w2 at hb2 ho2 ⊢
                have HB := Aside0.mk hb2
                have HO := Aside0.mk ho2
                clear hb2 ho2
                have hx := (HB.out.cell (World.block_lt_of_cell? w _ HXW.out)).trans HXW.out
                obtain ⟨hc1, hf1⟩ := own_celli HO.out a ht.1 ha1
                have hq := Bnd_rd (Bnd_bump HYB.out (show 0 ≤ (i : Int) by omega) (by rw [HYL.out]; omega)) ht.1 (by rw [bump_length, HYL.out]; exact ha1)
                have HP := Aside0.mk (Kd.R_putg HO.out a (rd (bump ys (i : Int)) a + 1))
                have HY := Aside0.mk (show (bump ys (i : Int)).set a.toNat (rd (bump ys (i : Int)) a + 1) = joints l xs (i + 1) by rw [HJ.out, HAE.out, ← HX.out]; rfl)
                generalize rd (bump ys (i : Int)) a = q2 at hc1 hq HP HY
                go_wp2
                go_roundg (gk - 1)
                case measure => have := HI.out; omega
                case rel => exact ⟨i + 1, _, by go_num, ⟨by omega⟩, ⟨by have := HI.out; omega⟩, ⟨rfl⟩, ⟨by have := HP.out.1; rwa [HY.out] at this⟩, ⟨below_set HB.out hgb2⟩⟩
              · have HJ := Aside0.mk (joints_no (show ¬ Joint l xs i from fun h => p2 (by have := h.2; rwa [HAE.out] at this)))
                go_wp2
                go_roundg (gk - 1)
                case measure => have := HI.out; omega
                case rel => exact ⟨i + 1, ys, by go_num, ⟨by omega⟩, ⟨by have := HI.out; omega⟩, ⟨by rw [HJ.out, HX.out]⟩, HO, HB⟩
            · have HJ := Aside0.mk (joints_no (show ¬ Joint l xs i from fun h => p1 h.1))
              go_wp2
              go_roundg (gk - 1)
              case measure => have := HI.out; omega
              case rel => exact ⟨i + 1, ys, by go_num, ⟨by omega⟩, ⟨by have := HI.out; omega⟩, ⟨by rw [HJ.out, HX.out]⟩, HO, HB⟩
          · have HE2 := Aside0.mk (show ys = combRow l by rw [HX.out, HE.out, show i = l.length by have := HI.out; omega]; rfl)
            have hyl := combRow_length l
            rw [← HE2.out] at hyl
            have HYL := Aside0.mk hyl
            clear hyl
            go_wp2_with (go_at_call 49; refine (calls_of_args (by rw [HYL.out]) (Max_calls _ cap2 ys _ (Ow_rd HO.out) (Ow_cap HO.out) (by rw [HYL.out]; omega) (by rw [HYL.out]; exact hn))).mono ?_; rw [HE2.out]; rintro e w' ⟨⟨m, rfl, hm⟩, ⟨nd3, rfl⟩⟩; have HM := Aside0.mk (comb_top HD.out hm); clear hm)
            go_ret2
            exact ⟨by rw [HF.out]; first | rfl | (rw [HM.out]; rfl), below_step HB0.out (by repeat (first | (with_reducible first | exact HB.out | apply below_alloc | apply pw_below_drewN | apply below_drew1) | exact HB.out))⟩
  · have H1 := Aside0.mk (tf_neg hd)
    have HF := Aside0.mk (IsCombF_no hd)
    clear hd
    go_enter Try.func17, Try.ntmps17
    go_wp2_with (go_at_call 48; refine (IsTree_calls _ _ l _ HR.out HC.out hn).mono ?_; rw [H1.out]; rintro e w' ⟨rfl, ⟨nd, rfl⟩⟩)
    go_ret2
    exact ⟨by rw [HF.out]; rfl, (by repeat (first | (with_reducible first | exact HB.out | apply below_alloc | apply pw_below_drewN | apply below_drew1) | exact HB.out))⟩
end Go.Proofs.Ytflfecocojafbaa.Own.G
