/- The least of eight images of dots: the walks of the reference's doLeast and the program's least; no condition. -/
import Derived.Test.YtafnipklejfbmaaOwnLeA
import Derived.Test.YtafnipklejfbmaaOwnDotsF
import Derived.Test.YtafnipklejfbmaaOwnOwn1
import Derived.OneCell
namespace Go.Proofs.Ytafnipklejfbmaa.Own.G
open Go.RowKit Go.Proofs.YtafnipklejfbmaaW.PrintWords Go.Proofs.YtafnipklejfbmaaW.PrintLast Go.Proofs.YtafnipklejfbmaaW.PrintMore
set_option linter.unusedVariables false
theorem rowdrop {q : List Int} {i : Nat} (h : i < q.length) : q.drop i = rd q (i : Int) :: q.drop (i + 1) := by rw [rd_get h]; exact List.drop_eq_getElem_cons h
theorem lexB_step {q b : List Int} {i : Nat} (hq : i < q.length) (hb : i < b.length) : lexB (q.drop i) (b.drop i) = if rd q (i : Int) = rd b (i : Int) then lexB (q.drop (i + 1)) (b.drop (i + 1)) else decide (rd q (i : Int) < rd b (i : Int)) := by rw [rowdrop hq, rowdrop hb, lexB]
set_option maxHeartbeats 1600000 in
theorem trLess_calls (A : Option Addr) (c : Nat) (q : List Int) (A' : Option Addr) (c' : Nat) (b : List Int) (w : World) (hr : Rd w A q) (hc : q.length ≤ c) (hr' : Rd w A' b) (hc' : b.length ≤ c') (hl : q.length = b.length) (hn : q.length ≤ 1048576) :
    Calls Try.prog 45 #[.slice A q.length c, .slice A' b.length c'] w fun e w' => e = .returned (.bool (lexB q b)) ∧ Drawn0 w w' := by
  have HR := Aside0.mk hr
  have HR' := Aside0.mk hr'
  have HC := Aside0.mk hc
  have HC' := Aside0.mk hc'
  have HL := Aside0.mk hl
  have hbn : b.length ≤ 1048576 := by omega
  clear hr hc hr' hc' hl
  go_enter Try.func45, Try.ntmps45
  (go_wp2; repeat (go_quiet (fail); try go_wp2))
  go_loopg [8] q.length (fun g v8 w' => ∃ i : Nat, v8 = .int .i64 i ∧ Aside0 (i + g = q.length) ∧ Aside0 (lexB (q.drop i) (b.drop i) = lexB q b) ∧ Drawn0 w w')
  case atStart => exact ⟨0, rfl, ⟨by omega⟩, ⟨rfl⟩, (by repeat (first | exact Drawn0.refl _ | apply Drawn0.step))⟩
  case round =>
    obtain ⟨i, rfl, HI, HA, ⟨m1, rfl⟩⟩ := hrel
    by_cases hlt : i < q.length
    · have hlt2 : i < b.length := by rw [← HL.out]; exact hlt
      obtain ⟨ad, rfl, hx⟩ := at_nat HR.out hlt
      obtain ⟨ad2, rfl, hx2⟩ := at_nat HR'.out hlt2
      have hs := HA.out
      rw [lexB_step hlt hlt2] at hs
      by_cases hq : rd q (i : Int) = rd b (i : Int)
      · rw [if_pos hq] at hs
        have HS := Aside0.mk hs
        have hne : (rd q (i : Int) != rd b (i : Int)) = false := by rw [hq]; simp
        clear hs hq
        (go_wp2; repeat (go_quiet (fail); try go_wp2))
        go_roundg (gk - 1)
        case measure => have := HI.out; omega
        case rel => exact ⟨i + 1, by go_num, ⟨by have := HI.out; omega⟩, HS, (by repeat (first | exact Drawn0.refl _ | apply Drawn0.step))⟩
      · rw [if_neg hq] at hs
        have HS := Aside0.mk hs
        have hne : (rd q (i : Int) != rd b (i : Int)) = true := bne_iff_ne.mpr hq
        clear hs hq
        (go_wp2; repeat (go_quiet (fail); try go_wp2))
        go_ret
        exact ⟨ret_bool HS.out, (by repeat (first | exact Drawn0.refl _ | apply Drawn0.step))⟩
    · have HS := Aside0.mk (show lexB q b = false by
        rw [← HA.out, List.drop_eq_nil_of_le (show q.length ≤ i by omega)]; rfl)
      (go_wp2; repeat (go_quiet (fail); try go_wp2))
      go_ret
      exact ⟨ret_bool HS.out.symm, (by repeat (first | exact Drawn0.refl _ | apply Drawn0.step))⟩
def cmpI (x y : Int) : Int := if x < y then -1 else if y < x then 1 else 0
theorem isNaN_calls (x : Int) (w : World) : Calls Try.prog 58 #[.int .i64 x] w fun e w' => e = .returned (.bool false) ∧ Drawn0 w w' := by
  go_enter Try.func58, Try.ntmps58
  (go_wp2; repeat (go_quiet (fail); try go_wp2))
  go_ret
  exact ⟨by simp, (by repeat (first | exact Drawn0.refl _ | apply Drawn0.step))⟩
theorem Compare1_calls (x y : Int) (w : World) : Calls Try.prog 55 #[.int .i64 x, .int .i64 y] w fun e w' => e = .returned (.int .i64 (cmpI x y)) ∧ Drawn0 w w' := by
  by_cases h1 : x < y
  · have H := Aside0.mk (show cmpI x y = -1 from if_pos h1)
    go_enter Try.func55, Try.ntmps55
    go_wp2_with ((go_at_call 58; refine (isNaN_calls _ _).mono ?_; rintro e w' ⟨rfl, ⟨nd, rfl⟩⟩))
    repeat (go_quiet (fail); try go_wp2_with ((go_at_call 58; refine (isNaN_calls _ _).mono ?_; rintro e w' ⟨rfl, ⟨nd, rfl⟩⟩)))
    go_ret
    exact ⟨by rw [H.out]; rfl, (by repeat (first | exact Drawn0.refl _ | apply Drawn0.step))⟩
  · by_cases h2 : y < x
    · have H := Aside0.mk (show cmpI x y = 1 by rw [cmpI, if_neg h1, if_pos h2])
      go_enter Try.func55, Try.ntmps55
      go_wp2_with ((go_at_call 58; refine (isNaN_calls _ _).mono ?_; rintro e w' ⟨rfl, ⟨nd, rfl⟩⟩))
      repeat (go_quiet (fail); try go_wp2_with ((go_at_call 58; refine (isNaN_calls _ _).mono ?_; rintro e w' ⟨rfl, ⟨nd, rfl⟩⟩)))
      go_ret
      exact ⟨by rw [H.out]; rfl, (by repeat (first | exact Drawn0.refl _ | apply Drawn0.step))⟩
    · have H := Aside0.mk (show cmpI x y = 0 by rw [cmpI, if_neg h1, if_neg h2])
      go_enter Try.func55, Try.ntmps55
      go_wp2_with ((go_at_call 58; refine (isNaN_calls _ _).mono ?_; rintro e w' ⟨rfl, ⟨nd, rfl⟩⟩))
      repeat (go_quiet (fail); try go_wp2_with ((go_at_call 58; refine (isNaN_calls _ _).mono ?_; rintro e w' ⟨rfl, ⟨nd, rfl⟩⟩)))
      go_ret
      exact ⟨by rw [H.out]; rfl, (by repeat (first | exact Drawn0.refl _ | apply Drawn0.step))⟩
set_option maxHeartbeats 1600000 in
theorem Compare_calls (A : Option Addr) (c : Nat) (q : List Int) (A' : Option Addr) (c' : Nat) (b : List Int) (w : World) (hr : Rd w A q) (hc : q.length ≤ c) (hr' : Rd w A' b) (hc' : b.length ≤ c') (hl : q.length = b.length) (hn : q.length ≤ 1048576) :
    Calls Try.prog 49 #[.slice A q.length c, .slice A' b.length c'] w fun e w' => ∃ m : Int, e = .returned (.int .i64 m) ∧ decide (m < 0) = lexB q b ∧ Drawn0 w w' := by
  have HR := Aside0.mk hr
  have HR' := Aside0.mk hr'
  have HC := Aside0.mk hc
  have HC' := Aside0.mk hc'
  have HL := Aside0.mk hl
  have hbn : b.length ≤ 1048576 := by omega
  have hbl : (q.length : Int) ≤ (b.length : Int) ∧ (b.length : Int) ≤ (q.length : Int) := by omega
  clear hr hc hr' hc' hl
  go_enter Try.func49, Try.ntmps49
  (go_wp2; repeat (go_quiet (fail); try go_wp2))
  go_loopg [11] q.length (fun g v11 w' => ∃ i : Nat, v11 = .int .i64 i ∧ Aside0 (i + g = q.length) ∧ Aside0 (lexB (q.drop i) (b.drop i) = lexB q b) ∧ Drawn0 w w')
  case atStart => exact ⟨0, rfl, ⟨by omega⟩, ⟨rfl⟩, (by repeat (first | exact Drawn0.refl _ | apply Drawn0.step))⟩
  case round =>
    obtain ⟨i, rfl, HI, HA, ⟨m1, rfl⟩⟩ := hrel
    by_cases hlt : i < q.length
    · have hlt2 : i < b.length := by rw [← HL.out]; exact hlt
      obtain ⟨ad, rfl, hx⟩ := at_nat HR.out hlt
      obtain ⟨ad2, rfl, hx2⟩ := at_nat HR'.out hlt2
      have hs := HA.out
      rw [lexB_step hlt hlt2] at hs
      by_cases hq : rd q (i : Int) = rd b (i : Int)
      · rw [if_pos hq] at hs
        have HS := Aside0.mk hs
        have HM := Aside0.mk (show cmpI (rd q (i : Int)) (rd b (i : Int)) = 0 by rw [hq, cmpI, if_neg (by omega), if_neg (by omega)])
        clear hs hq
        go_wp2_with (go_at_call 55; refine (Compare1_calls _ _ _).mono ?_; rw [HM.out]; rintro e w' ⟨rfl, ⟨nd, rfl⟩⟩)
        repeat (go_quiet (fail); try go_wp2)
        go_roundg (gk - 1)
        case measure => have := HI.out; omega
        case rel => exact ⟨i + 1, by go_num, ⟨by have := HI.out; omega⟩, HS, (by repeat (first | exact Drawn0.refl _ | apply Drawn0.step))⟩
      · rw [if_neg hq] at hs
        have HS := Aside0.mk hs
        obtain ⟨m, hm⟩ : ∃ m, cmpI (rd q (i : Int)) (rd b (i : Int)) = m := ⟨_, rfl⟩
        have HM := Aside0.mk hm
        have hm0 : (m != 0) = true := bne_iff_ne.mpr (by rw [← hm, cmpI]; split; decide; split; decide; omega)
        have HD := Aside0.mk (show decide (m < 0) = decide (rd q (i : Int) < rd b (i : Int)) by
          rw [← hm, cmpI]
          split
          · rename_i h; rw [decide_eq_true h]; rfl
          · rename_i h; rw [decide_eq_false h]; split <;> rfl)
        clear hs hq hm
        go_wp2_with (go_at_call 55; refine (Compare1_calls _ _ _).mono ?_; rw [HM.out]; rintro e w' ⟨rfl, ⟨nd, rfl⟩⟩)
        repeat (go_quiet (fail); try go_wp2)
        go_ret
        exact ⟨m, rfl, HD.out.trans HS.out, (by repeat (first | exact Drawn0.refl _ | apply Drawn0.step))⟩
    · have HS := Aside0.mk (show lexB q b = false by
        rw [← HA.out, List.drop_eq_nil_of_le (show q.length ≤ i by omega)]; rfl)
      have hlt3 : ¬ q.length < b.length := by omega
      (go_wp2; repeat (go_quiet (fail); try go_wp2))
      go_ret
      exact ⟨0, rfl, by rw [HS.out]; rfl, (by repeat (first | exact Drawn0.refl _ | apply Drawn0.step))⟩
/-- A slice that reads a row. -/
def Rs (w : World) (v : Value) (l : List Int) : Prop := ∃ A c, v = .slice A l.length c ∧ l.length ≤ c ∧ Rd w A l
theorem Rs_below {w w1 : World} {v : Value} {l : List Int} (h : Rs w v l) (hb : Below w.heap.size w w1) : Rs w1 v l := by
  obtain ⟨A, c, e, hc, hr⟩ := h
  exact ⟨A, c, e, hc, Kd.C_below hr hb⟩
theorem Rs_own {w : World} {B : Nat} {v : Value} {l : List Int} (h : Ow w B v l) : Rs w v l := by
  obtain ⟨A, c, e, hc, hr⟩ := Ow_form h
  exact ⟨A, c, e, hc, hr⟩
def Pair2 (w : World) (g : Nat) (u v : Value) : Prop := w.cell? ⟨g, 0, none⟩ = some u ∧ w.cell? ⟨g, 1, none⟩ = some v
theorem Pair2_below {w w1 : World} {g : Nat} {u v : Value} (h : Pair2 w g u v) (hb : Below w.heap.size w w1) : Pair2 w1 g u v :=
  ⟨(hb.cell (World.block_lt_of_cell? w _ h.1)).trans h.1, (hb.cell (World.block_lt_of_cell? w _ h.2)).trans h.2⟩
theorem Pair2_new (W : World) (u v : Value) (t : TypeId) : Pair2 (W.alloc (.cells #[u, v] t)) W.heap.size u v :=
  ⟨World.news_of_block (cs := #[u, v]) (t := t) (fr := (0, 0)) (heap_alloc_new W _) 0 _ rfl, World.news_of_block (cs := #[u, v]) (t := t) (fr := (0, 0)) (heap_alloc_new W _) 1 _ rfl⟩
theorem lit_pair {W : World} {ops : Array Oper} {rest : List Oper} {o : Oper} {a : Act} {Q : Exit → Act → World → Prop} (hgd : o.guard = none) (u v : Value) (t : TypeId)
    (hrun : (execOp a.eval o).run Try.prog W = .ok (.value (.slice (some ⟨W.heap.size, 0, none⟩) 2 2)) (W.alloc (.cells #[u, v] t)))
    (h : ∀ g w1, Pair2 w1 g u v → Below W.heap.size W w1 → wpList Try.prog ops Q rest (a.put o.dst (.slice (some ⟨g, 0, none⟩) 2 2)) w1) : wpList Try.prog ops Q (o :: rest) a W :=
  Kd.event_run hgd hrun (h _ _ (Pair2_new W u v t) (below_alloc (Below.refl _ _) _))
end Go.Proofs.Ytafnipklejfbmaa.Own.G
