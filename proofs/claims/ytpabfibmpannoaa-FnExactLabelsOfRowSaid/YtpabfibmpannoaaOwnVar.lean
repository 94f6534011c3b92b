/- A variable's own block, and what a call may change beside new memory; no condition. -/
import Derived.Test.YtpabfibmpannoaaOwnSpine
import Derived.OneCell
namespace Go.Proofs.Ytpabfibmpannoaa.Own.G
open Go.RowKit Go.Proofs.YtpabfibmpannoaaW.PrintWords Go.Proofs.YtpabfibmpannoaaW.PrintLast Go.Proofs.YtpabfibmpannoaaW.PrintMore
set_option linter.unusedVariables false
/-- The world is as it was, but for blocks of a kind and for new ones. -/
structure Chg (ok : Nat → Prop) (w w1 : World) : Prop where
  os : w1.os = w.os
  tape : w1.tape = w.tape
  output : w1.output = w.output
  size : w.heap.size ≤ w1.heap.size
  block : ∀ k, k < w.heap.size → ¬ ok k → w1.heap[k]? = w.heap[k]?
/-- A variable that lies in memory: a block of one cell. -/
abbrev Var (w : World) (b : Nat) (t : TypeId) (u : Value) : Prop := w.heap[b]? = some (.cells #[u] t (0, 0))
section
variable {ok ok1 : Nat → Prop} {w w1 w2 : World}
theorem Chg.refl (ok : Nat → Prop) (w : World) : Chg ok w w := ⟨rfl, rfl, rfl, Nat.le_refl _, fun _ _ _ => rfl⟩
theorem Chg.trans (h : Chg ok w w1) (k : Chg ok1 w1 w2) (hk : ∀ j, j < w.heap.size → ok1 j → ok j) : Chg ok w w2 :=
  ⟨k.os.trans h.os, k.tape.trans h.tape, k.output.trans h.output, Nat.le_trans h.size k.size, fun j hj hn => (k.block j (Nat.lt_of_lt_of_le hj h.size) (fun h1 => hn (hk j hj h1))).trans (h.block j hj hn)⟩
theorem Chg.mono (h : Chg ok w w1) (hk : ∀ j, ok j → ok1 j) : Chg ok1 w w1 := ⟨h.os, h.tape, h.output, h.size, fun j hj hn => h.block j hj (fun h1 => hn (hk j h1))⟩
theorem Chg.below (h : Chg ok w w1) (hb : Below w1.heap.size w1 w2) : Chg ok w w2 :=
  ⟨hb.os.trans h.os, hb.tape.trans h.tape, hb.output.trans h.output, Nat.le_trans h.size hb.size, fun j hj hn => (hb.block j (Nat.lt_of_lt_of_le hj h.size)).trans (h.block j hj hn)⟩
theorem Chg.of_below (hb : Below w.heap.size w w1) : Chg ok w w1 := (Chg.refl ok w).below hb
theorem Chg.to {B : Nat} (h : Chg ok w w1) (hB : B ≤ w.heap.size) (hk : ∀ k, k < B → ¬ ok k) : Below B w w1 := ⟨h.os, h.tape, h.output, h.size, fun k hk2 => h.block k (Nat.lt_of_lt_of_le hk2 hB) (hk k hk2)⟩
theorem Chg.drewN (h : Chg ok w w1) (n : Nat) : Chg ok w (w1.drewN n) := h.below (pw_below_drewN (Below.refl _ _) n)
theorem Chg.alloc (h : Chg ok w w1) (o : Obj) : Chg ok w (w1.alloc o) := h.below (below_alloc (Below.refl _ _) o)
theorem Chg.put (h : Chg ok w w1) {b : Nat} (hb : b < w.heap.size → ok b) (i : Nat) (u : Value) : Chg ok w (w1.setCell ⟨b, i, none⟩ u) :=
  ⟨h.os, h.tape, h.output, by have := h.size; simpa [World.setCell] using this, fun j hj hn => (Below.heap_setCell w1 ⟨b, i, none⟩ u j (fun e => hn (by subst e; exact hb hj))).trans (h.block j hj hn)⟩
theorem Chg.grown (h : Chg ok w w1) {row : Option Nat} (hg : w1.grownBy w2 row) (hr : ∀ k, row = some k → k < w.heap.size → ok k) : Chg ok w w2 :=
  ⟨hg.os.trans h.os, hg.tape.trans h.tape, hg.output.trans h.output, Nat.le_trans h.size hg.size, fun j hj hn => (hg.block j (Nat.lt_of_lt_of_le hj h.size) (fun e => hn (hr j e.symm hj))).trans (h.block j hj hn)⟩
theorem Var.chg {b : Nat} {t : TypeId} {u : Value} (h : Var w b t u) (hc : Chg ok w w1) (hn : ¬ ok b) : Var w1 b t u := (hc.block b (lt_of_block h) hn).trans h
theorem Var.below {b : Nat} {t : TypeId} {u : Value} (h : Var w b t u) (hb : Below w.heap.size w w1) : Var w1 b t u := (hb.block b (lt_of_block h)).trans h
theorem Var.grown {b : Nat} {t : TypeId} {u : Value} (h : Var w b t u) {row : Option Nat} (hg : w.grownBy w1 row) (hn : some b ≠ row) : Var w1 b t u := (hg.block b (lt_of_block h) hn).trans h
theorem Var.drewN {b : Nat} {t : TypeId} {u : Value} (h : Var w b t u) (n : Nat) : Var (w.drewN n) b t u := h
theorem Var.new (w : World) (u : Value) (t : TypeId) : Var (w.alloc (.cells #[u] t)) w.heap.size t u := heap_alloc_new w _
theorem Var.put {b : Nat} {t : TypeId} {u : Value} (h : Var w b t u) (x : Value) : Var (w.setCell ⟨b, 0, none⟩ x) b t x := one_setCell h
theorem Var.far {b b' : Nat} {t : TypeId} {u : Value} (h : Var w b t u) (hn : b ≠ b') (i : Nat) (x : Value) : Var (w.setCell ⟨b', i, none⟩ x) b t u := (Below.heap_setCell w ⟨b', i, none⟩ x b hn).trans h
theorem Ow_chg {B : Nat} {u : Value} {l : List Int} (h : Ow w B u l) (hc : Chg ok w w1) (hn : ∀ k, u.ownBlock = some k → ¬ ok k) : Ow w1 B u l :=
  Kd.R_mono (Kd.R_step (Ow_re (ok := fun k => ¬ ok k) h hn) (fun k hk hlt => hc.block k hlt hk)) (fun _ _ => trivial)
theorem Ow_lt {B : Nat} {u : Value} {l : List Int} (h : Ow w B u l) : ∀ k, u.ownBlock = some k → k < w.heap.size := Kd.R_lt h
theorem Ow_base {B : Nat} {u : Value} {l : List Int} (h : Ow w B u l) : ∀ k, u.ownBlock = some k → B ≤ k := Kd.R_base h
theorem block_len {A : Option Addr} {n m c d : Nat} : (Value.slice A n c).ownBlock = (Value.slice A m d).ownBlock := by cases A <;> rfl
end
end Go.Proofs.Ytpabfibmpannoaa.Own.G
