/- Dots without a corner, and echoes: what the reference's and the program's functions return; lists of at most 1048576 numbers. -/
import Derived.Test.YtblcajicogigpaaOwnDotsC
namespace Go.Proofs.Ytblcajicogigpaa.Own
open Go.RowKit Go.Proofs.YtblcajicogigpaaW.PrintWords Go.Proofs.YtblcajicogigpaaW.PrintLast Go.Proofs.YtblcajicogigpaaW.PrintMore
set_option linter.unusedVariables false
theorem drop_one (A : Option Addr) (c : Nat) (l : List Int) (hp : 1 ≤ l.length) (hc : l.length ≤ c) :
    ∃ A' : Option Addr, (∀ W : World, Sem.run Try.prog (Instr.slice 25 (.slice A l.length c) (some (.int .i64 1)) none none) W = .ok (.slice A' (l.drop 1).length (c - 1)) W) ∧ ∀ w, Rd w A l → Rd w A' (l.drop 1) := by
  obtain ⟨i0, hi0, _, hsz, _⟩ := info_parts infoInt
  obtain ⟨A', h1, h2, _⟩ := print_drop_of (P := Try.prog) (Value.int .i64) 0 25 3 .i64 Try.underlying25 hi0 hsz A c l 1 (by omega) (by omega) hc
  exact ⟨A', h1, fun w h => Kd.C_of_reads (h1 := fun _ => rfl) (h2 w (Kd.reads_of_C h))⟩
/-- The list without its first, each less one: i of them. -/
def less (l : List Int) (i : Nat) : List Int := (List.range i).map fun j : Nat => rd (l.drop 1) (j : Int) - 1
theorem less_length (l : List Int) (i : Nat) : (less l i).length = i := by simp [less]
theorem less_succ (l : List Int) (i : Nat) : less l (i + 1) = less l i ++ [rd (l.drop 1) (i : Int) - 1] := by
  unfold less
  rw [List.range_succ, List.map_append]
  rfl
def Corner (l : List Int) : Prop := rd l 0 = 0 ∧ l.length ≠ 1
noncomputable def DropF (l : List Int) : List Int × Bool := if tf (Dots l ∧ Corner l) = true then (less l (l.drop 1).length, true) else ([], false)
theorem DropF_yes {l : List Int} (h : Dots l ∧ Corner l) : DropF l = (less l (l.drop 1).length, true) := if_pos (tf_pos h)
theorem DropF_no {l : List Int} (h : ¬ (Dots l ∧ Corner l)) : DropF l = ([], false) := if_neg (by rw [tf_neg h]; decide)
theorem DropF_len (l : List Int) (hn : l.length ≤ 1048576) : (DropF l).1.length ≤ 1048576 := by
  by_cases h : Dots l ∧ Corner l
  · rw [DropF_yes h]; show (less _ _).length ≤ _; rw [less_length, List.length_drop]; omega
  · rw [DropF_no h]; simp
set_option maxHeartbeats 1600000 in
theorem specDropCorner_calls (A : Option Addr) (c : Nat) (l : List Int) (w : World) (hr : Rd w A l) (hc : l.length ≤ c) (hn : l.length ≤ 1048576) (hw : ∀ x ∈ l, W64 x) :
    Calls Try.prog 41 #[.slice A l.length c] w fun e w' => ∃ v, e = .returned (.tuple #[v, .bool (DropF l).2]) ∧ Ow w' w.heap.size v (DropF l).1 ∧ Below w.heap.size w w' := by
  have HR := Aside0.mk hr
  have HC := Aside0.mk hc
  clear hr hc hw
  have HB := Aside0.mk (Below.refl w.heap.size w)
  by_cases hd : Dots l
  · have HD := Aside0.mk hd
    have H1 := Aside0.mk (tf_pos hd)
    have hlen := hd.1
    obtain ⟨ad, rfl, hx⟩ := at_nat HR.out (show 0 < l.length by omega)
    have hx0 : w.cell? ad = some (.int .i64 (rd l 0)) := by simpa [Addr.add] using hx
    have hlp : (0 : Int) < (l.length : Int) := by omega
    by_cases hz : rd l 0 = 0
    · by_cases h1 : l.length = 1
      · have HF := Aside0.mk (DropF_no (fun h => h.2.2 h1 : ¬ (Dots l ∧ Corner l)))
        have h1b : (l.length == 1) = true := beq_iff_eq.mpr h1
        have h1c : ((l.length : Int) == 1) = true := by rw [h1]; rfl
        clear hd h1 hlen
        go_enter Try.func41, Try.ntmps41
        go_wp2_with (go_at_call 51; refine (doGood_calls _ _ l _ HR.out HC.out hn).mono ?_; rw [H1.out]; rintro e w' ⟨rfl, ⟨nd, rfl⟩⟩)
        go_ret2
        exact ⟨_, by rw [HF.out]; rfl, by rw [HF.out]; exact Kd.R_nil _ _ _ _ _, (by repeat (first | (with_reducible first | exact HB.out | apply below_alloc | apply pw_below_drewN | apply below_drew1) | exact HB.out))⟩
      · have HF := Aside0.mk (DropF_yes ⟨hd, hz, h1⟩)
        have h1b : (l.length == 1) = false := beq_eq_false_iff_ne.mpr h1
        have h1c : ((l.length : Int) == 1) = false := beq_eq_false_iff_ne.mpr (by omega)
        obtain ⟨A', hcut, hrd⟩ := drop_one (some ad) c l (by omega) HC.out
        have HR' := Aside0.mk (hrd w HR.out)
        have HS := Aside0.mk (Dots_small hd)
        have hdl : (l.drop 1).length ≤ 1048576 := by rw [List.length_drop]; omega
        clear hd h1 hlen hrd
        generalize hdd : l.drop 1 = d at *
        have HDD := Aside0.mk hdd
        clear hdd
        have HSD := Aside0.mk (show Small d from fun x hx => HS.out x (by rw [← HDD.out] at hx; exact List.mem_of_mem_drop hx))
        have HO := Aside0.mk (Kd.R_nil (Kd.int .i64) 3 w w.heap.size (fun _ => True))
        go_enter Try.func41, Try.ntmps41
        go_wp2_with (go_at_call 51; refine (doGood_calls _ _ l _ HR.out HC.out hn).mono ?_; rw [H1.out]; rintro e w' ⟨rfl, ⟨nd, rfl⟩⟩)
        go_loopg [4, 24] d.length (fun g v4 v24 w' => ∃ (i : Nat) (xs : List Int), v24 = .int .i64 i ∧ Aside0 (i + g = d.length) ∧ Aside0 (xs = less l i) ∧ Aside0 (xs.length ≤ 1048576) ∧ Aside0 (Ow w' w.heap.size v4 xs) ∧ Aside0 (Below w.heap.size w w'))
        case atStart => exact ⟨0, [], rfl, ⟨by omega⟩, ⟨by simp [less]⟩, ⟨by simp⟩, ⟨by first | exact HO.out | exact Ow_drewN HO.out _⟩, ⟨(by repeat (first | (with_reducible first | exact HB.out | apply below_alloc | apply pw_below_drewN | apply below_drew1) | exact HB.out))⟩⟩
        case round =>
          clear HO HB
          obtain ⟨i, xs, rfl, HI, HX, HL, HO, HB⟩ := hrel
          by_cases hlt : i < d.length
          · obtain ⟨ad2, rfl, hx2⟩ := at_nat HR'.out hlt
            replace hx2 := (HB.out.cell (World.block_lt_of_cell? w _ hx2)).trans hx2
            have b1 := Small_rd HSD.out hlt
            go_wp2_with ((at_builtin; refine Kd.R_append (Kd.int .i64) (w0 := w) w.heap.size rfl (.tmp 28) (.tmp 31) 25 3 (.int .i64 0) 8 rfl Try.underlying25 infoInt rfl (by decide) (by omega) u4 xs (rd d (i : Int) - 1) [.int .i64 (rd d (i : Int) - 1)] (fun _ => True) (fun _ => False) rfl rfl rfl (fun _ hk => hk.elim) (fun _ _ => trivial) ?aO ?aB ?aS ?aL ?_; (case aO => exact (by (with_reducible repeat (first | apply Kd.R_alloc | apply Kd.R_drewN | apply Kd.R_drew)); exact HO.out)); (case aB => exact (by repeat (first | (with_reducible first | exact HB.out | apply below_alloc | apply pw_below_drewN | apply below_drew1) | exact HB.out))); (case aS => exact below_size (by repeat (first | (with_reducible first | exact HB.out | apply below_alloc | apply pw_below_drewN | apply below_drew1) | exact HB.out))); (case aL => have := HL.out; omega); intro v2 w2 ho_ hb_ hg_ hat_; have n0_ := Aside0.mk hb_; have n1_ := Aside0.mk ho_; clear HB HO; have HB := n0_; have HO := n1_; clear n0_ n1_ ho_ hb_ hg_ hat_))
            go_roundg (gk - 1)
            case measure => have := HI.out; omega
            case rel => exact ⟨i + 1, _, by go_num, ⟨by have := HI.out; omega⟩, ⟨by rw [HX.out, less_succ, HDD.out]⟩, ⟨by rw [HX.out, List.length_append, less_length, List.length_singleton]; omega⟩, HO, HB⟩
          · have HE := Aside0.mk (show xs = less l d.length by rw [HX.out, show i = d.length by have := HI.out; omega])
            (go_wp2; repeat (go_quiet (fail); try go_wp2))
            go_ret2
            exact ⟨_, by rw [HF.out]; rfl, by rw [HF.out]; show Ow _ _ _ (less l d.length); rw [← HE.out]; first | exact HO.out | exact Ow_drewN HO.out _, (by repeat (first | (with_reducible first | exact HB.out | apply below_alloc | apply pw_below_drewN | apply below_drew1) | exact HB.out))⟩
    · have HF := Aside0.mk (DropF_no (fun h => hz h.2.1 : ¬ (Dots l ∧ Corner l)))
      clear hd hlen
      go_enter Try.func41, Try.ntmps41
      go_wp2_with (go_at_call 51; refine (doGood_calls _ _ l _ HR.out HC.out hn).mono ?_; rw [H1.out]; rintro e w' ⟨rfl, ⟨nd, rfl⟩⟩)
      go_ret2
      exact ⟨_, by rw [HF.out]; rfl, by rw [HF.out]; exact Kd.R_nil _ _ _ _ _, (by repeat (first | (with_reducible first | exact HB.out | apply below_alloc | apply pw_below_drewN | apply below_drew1) | exact HB.out))⟩
  · have H1 := Aside0.mk (tf_neg hd)
    have HF := Aside0.mk (DropF_no (fun h => hd h.1 : ¬ (Dots l ∧ Corner l)))
    clear hd
    go_enter Try.func41, Try.ntmps41
    go_wp2_with (go_at_call 51; refine (doGood_calls _ _ l _ HR.out HC.out hn).mono ?_; rw [H1.out]; rintro e w' ⟨rfl, ⟨nd, rfl⟩⟩)
    go_ret2
    exact ⟨_, by rw [HF.out]; rfl, by rw [HF.out]; exact Kd.R_nil _ _ _ _ _, (by repeat (first | (with_reducible first | exact HB.out | apply below_alloc | apply pw_below_drewN | apply below_drew1) | exact HB.out))⟩
set_option maxHeartbeats 1600000 in
theorem implDropCorner_calls (A : Option Addr) (c : Nat) (l : List Int) (w : World) (hr : Rd w A l) (hc : l.length ≤ c) (hn : l.length ≤ 1048576) (hw : ∀ x ∈ l, W64 x) :
    Calls Try.prog 42 #[.slice A l.length c] w fun e w' => ∃ v, e = .returned (.tuple #[v, .bool (DropF l).2]) ∧ Ow w' w.heap.size v (DropF l).1 ∧ Below w.heap.size w w' := by
  have HR := Aside0.mk hr
  have HC := Aside0.mk hc
  clear hr hc hw
  have HB := Aside0.mk (Below.refl w.heap.size w)
  by_cases hd : Dots l
  · have HD := Aside0.mk hd
    have H1 := Aside0.mk (tf_pos hd)
    have hlen := hd.1
    obtain ⟨ad, rfl, hx⟩ := at_nat HR.out (show 0 < l.length by omega)
    have hx0 : w.cell? ad = some (.int .i64 (rd l 0)) := by simpa [Addr.add] using hx
    have hlp : (0 : Int) < (l.length : Int) := by omega
    by_cases hz : rd l 0 = 0
    · by_cases h1 : l.length = 1
      · have HF := Aside0.mk (DropF_no (fun h => h.2.2 h1 : ¬ (Dots l ∧ Corner l)))
        have h1b : (l.length == 1) = true := beq_iff_eq.mpr h1
        have h1c : ((l.length : Int) == 1) = true := by rw [h1]; rfl
        clear hd h1 hlen
        go_enter Try.func42, Try.ntmps42
        go_wp2_with (go_at_call 32; refine (IsDots_calls _ _ l _ HR.out HC.out hn).mono ?_; rw [H1.out]; rintro e w' ⟨rfl, ⟨nd, rfl⟩⟩)
        go_ret2
        exact ⟨_, by rw [HF.out]; rfl, by rw [HF.out]; exact Kd.R_nil _ _ _ _ _, (by repeat (first | (with_reducible first | exact HB.out | apply below_alloc | apply pw_below_drewN | apply below_drew1) | exact HB.out))⟩
      · have HF := Aside0.mk (DropF_yes ⟨hd, hz, h1⟩)
        have h1b : (l.length == 1) = false := beq_eq_false_iff_ne.mpr h1
        have h1c : ((l.length : Int) == 1) = false := beq_eq_false_iff_ne.mpr (by omega)
        obtain ⟨A', hcut, hrd⟩ := drop_one (some ad) c l (by omega) HC.out
        have HR' := Aside0.mk (hrd w HR.out)
        have HS := Aside0.mk (Dots_small hd)
        have hdl : (l.drop 1).length ≤ 1048576 := by rw [List.length_drop]; omega
        clear hd h1 hlen hrd
        generalize hdd : l.drop 1 = d at *
        have HDD := Aside0.mk hdd
        clear hdd
        have HSD := Aside0.mk (show Small d from fun x hx => HS.out x (by rw [← HDD.out] at hx; exact List.mem_of_mem_drop hx))
        have HO := Aside0.mk (Kd.R_nil (Kd.int .i64) 3 w w.heap.size (fun _ => True))
        go_enter Try.func42, Try.ntmps42
        go_wp2_with (go_at_call 32; refine (IsDots_calls _ _ l _ HR.out HC.out hn).mono ?_; rw [H1.out]; rintro e w' ⟨rfl, ⟨nd, rfl⟩⟩)
        go_loopg [4, 24] d.length (fun g v4 v24 w' => ∃ (i : Nat) (xs : List Int), v24 = .int .i64 i ∧ Aside0 (i + g = d.length) ∧ Aside0 (xs = less l i) ∧ Aside0 (xs.length ≤ 1048576) ∧ Aside0 (Ow w' w.heap.size v4 xs) ∧ Aside0 (Below w.heap.size w w'))
        case atStart => exact ⟨0, [], rfl, ⟨by omega⟩, ⟨by simp [less]⟩, ⟨by simp⟩, ⟨by first | exact HO.out | exact Ow_drewN HO.out _⟩, ⟨(by repeat (first | (with_reducible first | exact HB.out | apply below_alloc | apply pw_below_drewN | apply below_drew1) | exact HB.out))⟩⟩
        case round =>
          clear HO HB
          obtain ⟨i, xs, rfl, HI, HX, HL, HO, HB⟩ := hrel
          by_cases hlt : i < d.length
          · obtain ⟨ad2, rfl, hx2⟩ := at_nat HR'.out hlt
            replace hx2 := (HB.out.cell (World.block_lt_of_cell? w _ hx2)).trans hx2
            have b1 := Small_rd HSD.out hlt
            go_wp2_with ((at_builtin; refine Kd.R_append (Kd.int .i64) (w0 := w) w.heap.size rfl (.tmp 28) (.tmp 31) 25 3 (.int .i64 0) 8 rfl Try.underlying25 infoInt rfl (by decide) (by omega) u4 xs (rd d (i : Int) - 1) [.int .i64 (rd d (i : Int) - 1)] (fun _ => True) (fun _ => False) rfl rfl rfl (fun _ hk => hk.elim) (fun _ _ => trivial) ?aO ?aB ?aS ?aL ?_; (case aO => exact (by (with_reducible repeat (first | apply Kd.R_alloc | apply Kd.R_drewN | apply Kd.R_drew)); exact HO.out)); (case aB => exact (by repeat (first | (with_reducible first | exact HB.out | apply below_alloc | apply pw_below_drewN | apply below_drew1) | exact HB.out))); (case aS => exact below_size (by repeat (first | (with_reducible first | exact HB.out | apply below_alloc | apply pw_below_drewN | apply below_drew1) | exact HB.out))); (case aL => have := HL.out; omega); intro v2 w2 ho_ hb_ hg_ hat_; have n0_ := Aside0.mk hb_; have n1_ := Aside0.mk ho_; clear HB HO; have HB := n0_; have HO := n1_; clear n0_ n1_ ho_ hb_ hg_ hat_))
            go_roundg (gk - 1)
            case measure => have := HI.out; omega
            case rel => exact ⟨i + 1, _, by go_num, ⟨by have := HI.out; omega⟩, ⟨by rw [HX.out, less_succ, HDD.out]⟩, ⟨by rw [HX.out, List.length_append, less_length, List.length_singleton]; omega⟩, HO, HB⟩
          · have HE := Aside0.mk (show xs = less l d.length by rw [HX.out, show i = d.length by have := HI.out; omega])
            (go_wp2; repeat (go_quiet (fail); try go_wp2))
            go_ret2
            exact ⟨_, by rw [HF.out]; rfl, by rw [HF.out]; show Ow _ _ _ (less l d.length); rw [← HE.out]; first | exact HO.out | exact Ow_drewN HO.out _, (by repeat (first | (with_reducible first | exact HB.out | apply below_alloc | apply pw_below_drewN | apply below_drew1) | exact HB.out))⟩
    · have HF := Aside0.mk (DropF_no (fun h => hz h.2.1 : ¬ (Dots l ∧ Corner l)))
      clear hd hlen
      go_enter Try.func42, Try.ntmps42
      go_wp2_with (go_at_call 32; refine (IsDots_calls _ _ l _ HR.out HC.out hn).mono ?_; rw [H1.out]; rintro e w' ⟨rfl, ⟨nd, rfl⟩⟩)
      go_ret2
      exact ⟨_, by rw [HF.out]; rfl, by rw [HF.out]; exact Kd.R_nil _ _ _ _ _, (by repeat (first | (with_reducible first | exact HB.out | apply below_alloc | apply pw_below_drewN | apply below_drew1) | exact HB.out))⟩
  · have H1 := Aside0.mk (tf_neg hd)
    have HF := Aside0.mk (DropF_no (fun h => hd h.1 : ¬ (Dots l ∧ Corner l)))
    clear hd
    go_enter Try.func42, Try.ntmps42
    go_wp2_with (go_at_call 32; refine (IsDots_calls _ _ l _ HR.out HC.out hn).mono ?_; rw [H1.out]; rintro e w' ⟨rfl, ⟨nd, rfl⟩⟩)
    go_ret2
    exact ⟨_, by rw [HF.out]; rfl, by rw [HF.out]; exact Kd.R_nil _ _ _ _ _, (by repeat (first | (with_reducible first | exact HB.out | apply below_alloc | apply pw_below_drewN | apply below_drew1) | exact HB.out))⟩
end Go.Proofs.Ytblcajicogigpaa.Own
