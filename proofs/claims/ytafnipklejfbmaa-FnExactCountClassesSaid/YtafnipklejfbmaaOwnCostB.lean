/- All Costas dots of n: what the program's eachCostas does with the functions that AllCostas and FirstCostas hand it; n up to 9. -/
import Derived.Test.YtafnipklejfbmaaOwnVar
import Derived.Test.YtafnipklejfbmaaOwnDotsE
import Derived.Test.YtafnipklejfbmaaOwnSh
namespace Go.Proofs.Ytafnipklejfbmaa.Own.G
open Go.RowKit Go.Proofs.YtafnipklejfbmaaW.PrintWords Go.Proofs.YtafnipklejfbmaaW.PrintLast Go.Proofs.YtafnipklejfbmaaW.PrintMore
set_option linter.unusedVariables false
theorem infoRowC : (Try.prog.info? 30).map (fun i => (i.zero, i.size, i.bytes)) = some (some (.slice none 0 0), 1, 24) := by kernel_rfl
/-- The loop over the next dot: d are left. -/
def goL {σ : Type} (g : List Int → σ → σ × Bool) (n : Nat) (l : List Int) : Nat → σ → σ × Bool
  | 0, s => (s, false)
  | d + 1, s => if ((n - (d + 1) : Nat) : Int) ∈ l then goL g n l d s else if costasB (l ++ [((n - (d + 1) : Nat) : Int)]) = true then (if (g (l ++ [((n - (d + 1) : Nat) : Int)]) s).2 = true then ((g (l ++ [((n - (d + 1) : Nat) : Int)]) s).1, true) else goL g n l d (g (l ++ [((n - (d + 1) : Nat) : Int)]) s).1) else goL g n l d s
/-- The search with f dots left. -/
def goC {σ : Type} (next : σ → List Int → σ) (stop : Bool) (n : Nat) : Nat → List Int → σ → σ × Bool
  | 0, l, s => (next s l, stop)
  | f + 1, l, s => goL (goC next stop n f) n l n s
theorem goL_size {σ : Type} {g : List Int → σ → σ × Bool} {size : σ → Nat} {m : Nat} (hg : ∀ l s, size (g l s).1 ≤ size s + m) (n : Nat) (l : List Int) : ∀ (d : Nat) (s : σ), size (goL g n l d s).1 ≤ size s + d * m := by
  intro d
  induction d with
  | zero => intro s; simp [goL]
  | succ d ih =>
    intro s
    have e : (d + 1) * m = d * m + m := Nat.succ_mul d m
    rw [goL]
    split
    · have := ih s; omega
    · split
      · split
        · have := hg (l ++ [((n - (d + 1) : Nat) : Int)]) s; show size (g _ _).1 ≤ _; omega
        · have := hg (l ++ [((n - (d + 1) : Nat) : Int)]) s; have := ih (g (l ++ [((n - (d + 1) : Nat) : Int)]) s).1; omega
      · have := ih s; omega
theorem pow_step (c n f : Nat) : c * n ^ (f + 1) = n * (c * n ^ f) := by rw [Nat.pow_succ, ← Nat.mul_assoc, Nat.mul_comm]
theorem goC_size {σ : Type} {next : σ → List Int → σ} {stop : Bool} {size : σ → Nat} {c : Nat} (hs : ∀ s l, size (next s l) ≤ size s + c) (n : Nat) : ∀ (f : Nat) (l : List Int) (s : σ), size (goC next stop n f l s).1 ≤ size s + c * n ^ f := by
  intro f
  induction f with
  | zero => intro l s; rw [Nat.pow_zero, Nat.mul_one]; exact hs s l
  | succ f ih =>
    intro l s
    rw [goC, pow_step]
    exact goL_size (size := size) (m := c * n ^ f) ih n l n s
def Upto9 (l : List Int) : Prop := ∀ x ∈ l, 0 ≤ x ∧ x ≤ 9
theorem Upto9_snoc {l : List Int} (h : Upto9 l) {k : Nat} (hk : k ≤ 9) : Upto9 (l ++ [(k : Int)]) := fun x hx => by
  rcases List.mem_append.mp hx with h1 | h1
  · exact h x h1
  · rw [List.mem_singleton.mp h1]; omega
theorem Upto9_small {l : List Int} (h : Upto9 l) : Own.Small l := fun x hx => by have := h x hx; omega
/-- What the captured variable holds: its rows' blocks are Q. -/
def StAll (bo B : Nat) (w : World) (Q : Nat → Prop) (s : List (List Int)) : Prop := ∃ v, Var w bo 25 v ∧ OwK w B Q v s
def nextAll (s : List (List Int)) (l : List Int) : List (List Int) := s ++ [l]
def sizeAll (s : List (List Int)) : Nat := s.length
/-- What the captured variable holds: its rows' blocks are Q. -/
def StFirst (bo B : Nat) (w : World) (Q : Nat → Prop) (s : List Int) : Prop := ∃ v, Var w bo 30 v ∧ Kd.R (Kd.int .i64) 3 w B Q v s
def nextFirst (s : List Int) (l : List Int) : List Int := l
def sizeFirst (s : List Int) : Nat := 0
theorem StAll_mono {bo B : Nat} {w : World} {Q Q' : Nat → Prop} {s : List (List Int)} (h : StAll bo B w Q s) (hq : ∀ k, Q k → Q' k) : StAll bo B w Q' s := h.imp fun v hv => ⟨hv.1, Kd.S_mono hv.2 hq⟩
theorem StFirst_mono {bo B : Nat} {w : World} {Q Q' : Nat → Prop} {s : List Int} (h : StFirst bo B w Q s) (hq : ∀ k, Q k → Q' k) : StFirst bo B w Q' s := h.imp fun v hv => ⟨hv.1, Kd.R_mono hv.2 hq⟩
theorem StAll_old {bo B : Nat} {w w1 : World} {Q : Nat → Prop} {s : List (List Int)} (h : StAll bo B w Q s) (hb : Below w.heap.size w w1) : StAll bo B w1 (fun k => Q k ∧ k < w.heap.size) s := h.imp fun v hv => ⟨hv.1.below hb, Kd.S_old hv.2 hb⟩
theorem StFirst_old {bo B : Nat} {w w1 : World} {Q : Nat → Prop} {s : List Int} (h : StFirst bo B w Q s) (hb : Below w.heap.size w w1) : StFirst bo B w1 (fun k => Q k ∧ k < w.heap.size) s :=
  h.imp fun v hv => ⟨hv.1.below hb, Kd.R_mono (Kd.R_below (Kd.R_bound hv.2) hb) (fun k hk => ⟨hk.1, hk.2.2.1⟩)⟩
theorem StAll_drewN {bo B : Nat} {w : World} {Q : Nat → Prop} {s : List (List Int)} (h : StAll bo B w Q s) (n : Nat) : StAll bo B (w.drewN n) Q s := h.imp fun v hv => ⟨hv.1, Kd.S_drewN hv.2 n⟩
theorem StFirst_drewN {bo B : Nat} {w : World} {Q : Nat → Prop} {s : List Int} (h : StFirst bo B w Q s) (n : Nat) : StFirst bo B (w.drewN n) Q s := h.imp fun v hv => ⟨hv.1, Kd.R_drewN hv.2 n⟩
theorem nextAll_size (s : List (List Int)) (l : List Int) : sizeAll (nextAll s l) ≤ sizeAll s + 1 := by simp [sizeAll, nextAll]
theorem nextFirst_size (s : List Int) (l : List Int) : sizeFirst (nextFirst s l) ≤ sizeFirst s + 0 := by simp [sizeFirst]
set_option maxHeartbeats 1600000 in
theorem callAll (bo B : Nat) (u : Value) (l : List Int) (w : World) (Q : Nat → Prop) (s : List (List Int)) (hp : Ow w B u l) (hq : ∀ k, u.ownBlock = some k → ¬ Q k ∧ k ≠ bo) (hb : ¬ Q bo) (hs : StAll bo B w Q s) (hB : B ≤ bo) (hx : sizeAll s < 1000000) :
    Calls Try.prog 27 #[u, .pointer (some ⟨bo, 0, none⟩)] w fun e w' => e = .returned (.bool false) ∧ StAll bo B w' (fun k => Q k ∨ u.ownBlock = some k ∨ w.heap.size ≤ k) (nextAll s l) ∧ Chg (fun k => k = bo ∨ Q k) w w' := by
  obtain ⟨v, hv, ho⟩ := hs
  obtain ⟨Av, cv, rfl⟩ := Kd.S_slice ho
  obtain ⟨Au, cu, rfl⟩ := Kd.R_slice hp
  have hlt := lt_of_block hv
  have hc := cell_of_one hv
  have hf := free_of_one hv
  have hvq : ∀ k, (.slice Av s.length cv : Value).ownBlock = some k → Q k := (Kd.S_R ho).1
  have hpp : Kd.R (Kd.int .i64) 3 w B (fun k => (.slice Au l.length cu : Value).ownBlock = some k) (.slice Au l.length cu : Value) l := Kd.R_mono (Kd.R_tight rfl hp) (fun _ h => h.symm)
  have HX := Aside0.mk hx
  have HV := Aside0.mk hv
  have HO := Aside0.mk ho
  have HP := Aside0.mk hpp
  have HQ := Aside0.mk hq
  have HVQ := Aside0.mk hvq
  have HBB := Aside0.mk hb
  have HBS := Aside0.mk (show B ≤ w.heap.size by omega)
  have HLT := Aside0.mk hlt
  clear hv ho hvq hpp hp hq hb hx
  go_enter Try.func27, Try.ntmps27
  go_wp2_with ((with_reducible refine gate_builtin (b := .append) (xs := #[.tmp 4, .tmp 6]) rfl ?_); at_builtin; refine Kd.S_append (Kd.slice 3 (Kd.int .i64)) (w0 := w) B rfl (.tmp 4) (.tmp 6) 25 30 (.slice none 0 0) 24 rfl Try.underlying25 infoRowC rfl (by decide) (by omega) (.slice Av s.length cv : Value) s l [(.slice Au l.length cu : Value)] (fun k => Q k ∨ (.slice Au l.length cu : Value).ownBlock = some k ∨ w.heap.size ≤ k) (fun k => (.slice Au l.length cu : Value).ownBlock = some k) rfl rfl (Kd.M_row HP.out) (fun k hk => ⟨.inr (.inl hk), fun e => (HQ.out k hk).1 (HVQ.out k e.symm)⟩) (fun k hk => .inr (.inr hk)) ?aO (Below.refl _ _) HBS.out ?aL ?_; (case aO => exact Kd.S_mono HO.out (fun k hk => ⟨.inl hk, fun e => (HQ.out k e).1 hk⟩)); (case aL => have h0 : s.length < 1000000 := HX.out; omega); intro v1 w1 ho1 hb1 hg1 hat1; obtain ⟨A1, c1, e1_⟩ := Kd.S_slice ho1; subst e1_; rw [show (s ++ [l]).length = s.length + 1 from by rw [List.length_append]; rfl] at ho1 ⊢; have hv1 : Var w1 bo 25 (.slice Av s.length cv : Value) := Var.grown HV.out hg1 (fun e => HBB.out (HVQ.out bo e.symm)); have hc1 := cell_of_one hv1; have hf1 := free_of_one hv1; have HV1 := Aside0.mk hv1; have HO1 := Aside0.mk ho1; have HG1 := Aside0.mk hg1; clear ho1 hb1 hg1 hat1 hv1 hc hf)
  go_ret
  refine ⟨rfl, ⟨_, Var.put HV1.out _, Kd.S_far HO1.out (fun k hk => ?_) _⟩, ((Chg.refl _ w).grown HG1.out (fun k hk _ => .inr (HVQ.out k hk))).put (fun _ => .inl rfl) 0 _⟩
  intro e_
  replace e_ : k = bo := e_
  rw [e_] at hk
  rcases hk with h | h | h
  · exact HBB.out h
  · exact (HQ.out _ h).2 rfl
  · have := HLT.out; have h2 : w.heap.size ≤ bo := h; omega
set_option maxHeartbeats 1600000 in
theorem callFirst (bo B : Nat) (u : Value) (l : List Int) (w : World) (Q : Nat → Prop) (s : List Int) (hp : Ow w B u l) (hq : ∀ k, u.ownBlock = some k → ¬ Q k ∧ k ≠ bo) (hb : ¬ Q bo) (hs : StFirst bo B w Q s) (hB : B ≤ bo) :
    Calls Try.prog 28 #[u, .pointer (some ⟨bo, 0, none⟩)] w fun e w' => e = .returned (.bool true) ∧ StFirst bo B w' (fun k => Q k ∨ u.ownBlock = some k ∨ w.heap.size ≤ k) (nextFirst s l) ∧ Chg (fun k => k = bo ∨ Q k) w w' := by
  obtain ⟨v, hv, ho⟩ := hs
  obtain ⟨Av, cv, rfl⟩ := Kd.R_slice ho
  obtain ⟨Au, cu, rfl⟩ := Kd.R_slice hp
  have hc := cell_of_one hv
  have hf := free_of_one hv
  have HV := Aside0.mk hv
  have HP := Aside0.mk hp
  have HQ := Aside0.mk hq
  clear hv ho hp hq hb
  go_enter Try.func28, Try.ntmps28
  go_wp2
  go_ret
  refine ⟨rfl, ⟨_, Var.put HV.out _, ?_⟩, (Chg.refl _ w).put (fun _ => .inl rfl) 0 _⟩
  exact Kd.R_far (Ow_re (ok := fun k => (.slice Au l.length cu : Value).ownBlock = some k) HP.out (fun k hk => hk)) (fun k hk => (HQ.out k hk).2) _ |> fun h => Kd.R_mono h (fun k hk => .inr (.inl hk))
end Go.Proofs.Ytafnipklejfbmaa.Own.G
