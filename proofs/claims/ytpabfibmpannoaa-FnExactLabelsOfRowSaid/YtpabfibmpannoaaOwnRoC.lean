/- An array of slices in a variable: its rows are lent, appended to and put back, it is read and written whole; the program's pairs; lists of at most 40 numbers. -/
import Derived.Test.YtpabfibmpannoaaOwnRoB
import Derived.Test.YtpabfibmpannoaaOwnVar
import Derived.Test.YtpabfibmpannoaaWApart
import Derived.Deep.MidRow
namespace Go.Proofs.Ytpabfibmpannoaa.Own.G
open Go.RowKit Go.Proofs.YtpabfibmpannoaaW.PrintWords Go.Proofs.YtpabfibmpannoaaW.PrintLast Go.Proofs.YtpabfibmpannoaaW.PrintMore
set_option linter.unusedVariables false
theorem infoArr : (Try.prog.info? 48).map (·.size) = some 21 := by kernel_rfl
/-- A variable's array of 21 slices of the call's own. -/
abbrev AT (w : World) (B g : Nat) (ok : Nat → Prop) (rows : List (List Int)) : Prop := Kd.S (Kd.slice 3 (Kd.int .i64)) 48 w B ok (.slice (some ⟨g, 0, none⟩) 21 21) rows
/-- An array value whose slices are read. -/
def ArrRd (w : World) (cs : Array Value) (rows : List (List Int)) : Prop := cs.size = 21 ∧ ∀ n, n < 21 → ∃ A c, cs[n]? = some (.slice A (rows.getD n []).length c) ∧ (rows.getD n []).length ≤ c ∧ Rd w A (rows.getD n [])
theorem ArrRd_below {w w1 : World} {cs : Array Value} {rows : List (List Int)} (h : ArrRd w cs rows) (hb : Below w.heap.size w w1) : ArrRd w1 cs rows :=
  ⟨h.1, fun n hn => by
    obtain ⟨A, c, h1, h2, h3⟩ := h.2 n hn
    exact ⟨A, c, h1, h2, Kd.C_below h3 hb⟩⟩
theorem ArrRd_one {w : World} {cs : Array Value} {rows : List (List Int)} (h : ArrRd w cs rows) : cs.all (·.oneCell') = true := by
  rw [Array.all_eq_true]
  intro i hi
  obtain ⟨A, c, h1, _⟩ := h.2 i (by have := h.1; omega)
  have : cs[i] = .slice A (rows.getD i []).length c := by
    rw [Array.getElem?_eq_getElem hi] at h1
    injection h1
  rw [this]
  rfl
theorem AT_new {W : World} {B : Nat} {ok : Nat → Prop} (hB : B ≤ W.heap.size) (hok : ok W.heap.size) : AT (W.alloc (.cells #[.slice none 0 0, .slice none 0 0, .slice none 0 0, .slice none 0 0, .slice none 0 0, .slice none 0 0, .slice none 0 0, .slice none 0 0, .slice none 0 0, .slice none 0 0, .slice none 0 0, .slice none 0 0, .slice none 0 0, .slice none 0 0, .slice none 0 0, .slice none 0 0, .slice none 0 0, .slice none 0 0, .slice none 0 0, .slice none 0 0, .slice none 0 0] 48)) B W.heap.size ok (List.replicate 21 []) := by
  refine Kd.S_bare ⟨fun k hk => ?_, List.replicate 21 (.slice none 0 0), ?_, ?_, fun j p hj => ?_⟩
  · have : W.heap.size = k := by simpa [Value.ownBlock] using hk
    subst this
    exact hok
  · have h2 := World.ownsRow_lit (base := B) (e := 48) (size := 1) W #[.slice none 0 0, .slice none 0 0, .slice none 0 0, .slice none 0 0, .slice none 0 0, .slice none 0 0, .slice none 0 0, .slice none 0 0, .slice none 0 0, .slice none 0 0, .slice none 0 0, .slice none 0 0, .slice none 0 0, .slice none 0 0, .slice none 0 0, .slice none 0 0, .slice none 0 0, .slice none 0 0, .slice none 0 0, .slice none 0 0, .slice none 0 0] 21 hB (by unfold maxLen; omega) rfl
    exact h2
  · rfl
  · obtain ⟨hjl, hp⟩ := List.getElem?_eq_some_iff.1 hj
    have hj2 : j < 21 := by simpa using hjl
    have hp' : p = [] := by rw [← hp]; exact List.getElem_replicate ..
    subst hp'
    refine ⟨.slice none 0 0, ?_, Kd.R_nil _ _ _ _ _⟩
    show ((List.replicate 21 (Value.slice none 0 0)).drop (j * 1)).take 1 = [.slice none 0 0]
    rw [Nat.mul_one, List.drop_replicate, List.take_replicate, show min 1 (21 - j) = 1 by omega]
    rfl
theorem AT_elem {w : World} {B g : Nat} {ok : Nat → Prop} {rows : List (List Int)} (h : AT w B g ok rows) {i : Nat} (hi : i < 21) : ∃ A0 c0 oki, w.cell? ⟨g, i, none⟩ = some (.slice A0 (rows.getD i []).length c0) ∧ w.frozen? ⟨g, i, none⟩ = false ∧ (rows.getD i []).length ≤ c0 ∧ Kd.R (Kd.int .i64) 3 w B oki (.slice A0 (rows.getD i []).length c0) (rows.getD i []) ∧ (∀ k, oki k → ok k ∧ k ≠ g) ∧ Kd.H (Kd.slice 3 (Kd.int .i64)) 48 w B ok (.slice (some ⟨g, 0, none⟩) 21 21) rows (i : Int) oki [.slice A0 (rows.getD i []).length c0] := by
  obtain ⟨oki, c, hcl, hM, hcc, hfr, hoki, hH⟩ := Kd.S_elem h ([] : List Int) (i : Int) (by omega) (by omega)
  rw [Int.toNat_natCast] at hM hcc hfr
  obtain ⟨u, rfl, hR⟩ := hM
  obtain ⟨A0, c0, rfl⟩ := Kd.R_slice hR
  have h1 := hcc 0 _ rfl
  have h2 := hfr 0
  have e : i * (Kd.slice 3 (Kd.int .i64)).sz + 0 = i := Nat.mul_one i
  rw [e] at h1 h2
  exact ⟨A0, c0, oki, h1, h2, Ow_cap (Kd.R_mono hR (fun _ _ => trivial)), hR, hoki, hH⟩
theorem AT_put {W : World} {B g : Nat} {ok oki : Nat → Prop} {rows : List (List Int)} {i : Nat} {c : List Value} {v1 : Value} {x' : List Int} (hi : i < 21) (hH : Kd.H (Kd.slice 3 (Kd.int .i64)) 48 W B ok (.slice (some ⟨g, 0, none⟩) 21 21) rows (i : Int) oki c) (hR : Kd.R (Kd.int .i64) 3 W B oki v1 x') (hg : ∀ k, oki k → k ≠ g) :
    AT (W.setCell ⟨g, i, none⟩ v1) B g ok (rows.set i x') := by
  obtain ⟨A1, c1, rfl⟩ := Kd.R_slice hR
  obtain ⟨_, _, _, hcl, _⟩ := Kd.H_raw hH (by omega) (by omega)
  obtain ⟨h2, h3⟩ := Kd.H_seg hH (by omega) (by omega) (seg := [.slice A1 x'.length c1]) (j := 0) (by exact Nat.le_refl 1) (fun q hq => by rw [List.mem_singleton.mp hq]; rfl)
  have e : (i : Int).toNat * (Kd.slice 3 (Kd.int .i64)).sz + 0 = i := by rw [Int.toNat_natCast]; exact Nat.mul_one i
  rw [e] at h2 h3
  have ec : c.take 0 ++ [Value.slice A1 x'.length c1] ++ c.drop (0 + [Value.slice A1 x'.length c1].length) = [.slice A1 x'.length c1] := by
    have : c.length = 1 := hcl
    rw [List.take_zero, List.nil_append, List.drop_eq_nil_of_le (by rw [this]; exact Nat.le_refl 1), List.append_nil]
  rw [ec] at h2
  have h4 := Kd.H_back h2 (x' := x') (okp := oki) (Kd.M_row (Kd.R_step hR (fun k hk hlt => h3.block k hlt (fun he => hg k hk (by injection he))))) (fun _ hk => hk)
  rw [Int.toNat_natCast] at h4
  exact h4
theorem AT_out {W : World} {B g : Nat} {ok : Nat → Prop} {rows : List (List Int)} (h : AT W B g ok rows) (hl : rows.length = 21) : ∃ cs, W.heap[g]? = some (.cells cs 48 (0, 0)) ∧ ArrRd W cs rows ∧ ok g := by
  have hR := Kd.S_R h
  have hok := hR.1 g rfl
  obtain ⟨_, inner, ho, hr⟩ := hR
  rcases ho.2 with ⟨hv, _⟩ | ⟨g', cap, cur, hv, hb, hh, _, _, hsz, _⟩
  · cases hv
  · injection hv with hv1 hv2 hv3
    injection hv1 with hv4
    injection hv4 with hv5
    subst hv5
    subst hv3
    refine ⟨cur, hh, ⟨hsz, fun n hn => ?_⟩, hok⟩
    obtain ⟨ad, A0, c0, e, hx, hc, hrd⟩ := row_at (Kd.S_reads' h).2.2 (show n < rows.length by omega)
    injection e with e
    subst e
    have ha : (⟨g, 0, none⟩ : Addr).add n = ⟨g, n, none⟩ := by unfold Addr.add; split <;> simp_all
    rw [ha, cell_of_row W g n cur 48 (0, 0) hh] at hx
    exact ⟨A0, c0, hx, hc, hrd⟩
theorem there_of {W : World} {b : Nat} {cur : Array Value} {t : TypeId} (h : W.heap[b]? = some (.cells cur t (0, 0))) {n : Nat} (hn : n ≤ cur.size) : W.there b 0 n := fun j hj => by
  rw [Nat.zero_add]
  exact ⟨by rw [cell_of_row W b j cur t (0, 0) h, Array.getElem?_eq_getElem (by omega)]; rfl, frozen_of_row W b j cur t h⟩
theorem heap_whole {W : World} {b : Nat} {cur cs : Array Value} {t : TypeId} (h : W.heap[b]? = some (.cells cur t (0, 0))) (hs : cur.size = cs.size) : (W.setCells b 0 cs.toList).heap[b]? = some (.cells cs t (0, 0)) := by
  obtain ⟨cur', h1, h2, h3⟩ := setCells_row cs.toList 0 W cur h (by rw [Array.length_toList]; omega)
  rw [h1]
  have : cur' = cs := by
    apply Array.toList_inj.mp
    rw [h3, List.take_zero, List.nil_append, List.drop_eq_nil_of_le (by rw [Array.length_toList, Array.length_toList]; omega), List.append_nil]
  rw [this]
theorem below_whole {w W : World} {b : Nat} (h : Below w.heap.size w W) (hb : w.heap.size ≤ b) (vs : List Value) : Below w.heap.size w (W.setCells b 0 vs) := by
  obtain ⟨h1, h2, h3, h4⟩ := setCells_same b vs 0 W
  exact ⟨h1.trans h.os, h2.trans h.tape, h3.trans h.output, by rw [h4]; exact h.size, fun k hk => (setCells_far vs 0 k (by omega)).trans (h.block k hk)⟩
theorem AT_whole {W : World} {B g b : Nat} {ok : Nat → Prop} {rows : List (List Int)} (h : AT W B g ok rows) (hok : ∀ k, ok k → k ≠ b) (vs : List Value) : AT (W.setCells b 0 vs) B g ok rows := Kd.S_step h (fun k hk _ => setCells_far vs 0 k (hok k hk))
theorem idx_run (cs : Array Value) {i : Nat} {v : Value} (hi : i < 21) (h : cs[i]? = some v) (W : World) : Sem.run Try.prog (Instr.index 48 (.agg cs) (.int .i64 (i : Int))) W = .ok v W := by
  have hs : (sizeOf 29).run Try.prog W = .ok 1 W := by kernel_rfl
  have hu : Try.prog.underlying 48 = some (.array 21 29) := Try.underlying48
  have hp : (part 29 cs (i * 1)).run Try.prog W = .ok v W := by
    rw [Nat.mul_one]
    simp [part, isAgg, run_underlying Try.underlying29, h]
  have hlt : (0 : Int) ≤ (i : Int) ∧ (i : Int) < ((21 : Nat) : Int) := by omega
  simp only [Instr.index, Sem.run_bind, Sem.run_pure, asIntOf, Result.andThen_ok, run_underlying hu, if_pos hlt, hs, Int.toNat_natCast, hp]
end Go.Proofs.Ytpabfibmpannoaa.Own.G
