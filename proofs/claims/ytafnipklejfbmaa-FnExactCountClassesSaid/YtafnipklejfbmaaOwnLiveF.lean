/- Rows and lists of rows that a callee handed back and that are only read, through a law's walk. -/
import Derived.Test.YtafnipklejfbmaaOwnLive
namespace Go.Proofs.Ytafnipklejfbmaa.Own.G
open Go.RowKit Go.Proofs.YtafnipklejfbmaaW.PrintWords Go.Proofs.YtafnipklejfbmaaW.PrintLast Go.Proofs.YtafnipklejfbmaaW.PrintMore
set_option linter.unusedVariables false
/-- A slice value that reads l; what it leads to lies in blocks from C on. -/
def Fr {α : Type} (d : Kd α) (W : World) (C : Nat) (v : Value) (l : List α) : Prop := ∃ A c, v = .slice A l.length c ∧ l.length ≤ c ∧ Kd.F d W (fun k => C ≤ k) A l.length l
def LivF {α : Type} (d : Kd α) (W : World) (B : Nat) (ok : Nat → Prop) (v : Value) (l : List α) : Prop := (∃ A c, v = .slice A l.length c ∧ l.length ≤ c ∧ Kd.F d W ok A l.length l) ∧ ∀ k, ok k → k < W.heap.size
section
variable {α : Type} {d : Kd α} {W W1 : World} {B : Nat} {ok ok2 : Nat → Prop} {v : Value} {l : List α}
theorem LivF_new (ho : Fr d W1 W.heap.size v l) (hB : B ≤ W.heap.size) : ∃ ok : Nat → Prop, LivF d W1 B ok v l ∧ ∀ k, ok k → W.heap.size ≤ k := by
  obtain ⟨A, c, e, hc, hf⟩ := ho
  exact ⟨fun k => W.heap.size ≤ k ∧ k < W1.heap.size, ⟨⟨A, c, e, hc, Kd.F_bound hf⟩, fun k hk => hk.2⟩, fun k hk => hk.1⟩
theorem LivF_step (h : LivF d W B ok v l) (hs : W.heap.size ≤ W1.heap.size) (hm : ∀ k, ok k → k < W.heap.size → W1.heap[k]? = W.heap[k]?) : LivF d W1 B ok v l := by
  obtain ⟨⟨A, c, e, hc, hf⟩, hlt⟩ := h
  exact ⟨⟨A, c, e, hc, Kd.F_step hf hm⟩, fun k hk => Nat.lt_of_lt_of_le (hlt k hk) hs⟩
theorem LivF_below (h : LivF d W B ok v l) (hb : Below W.heap.size W W1) : LivF d W1 B ok v l := LivF_step h hb.size (fun k _ hk => hb.block k hk)
theorem LivF_drewN (h : LivF d W B ok v l) (n : Nat) : LivF d (W.drewN n) B ok v l := LivF_below h (pw_below_drewN (Below.refl _ _) n)
theorem LivF_drawn (h : LivF d W B ok v l) (hd : Drawn0 W W1) : LivF d W1 B ok v l := by
  obtain ⟨⟨n, rfl⟩⟩ := hd
  exact LivF_drewN h n
theorem LivF_changed (h : LivF d W B ok v l) (hc : Changed W W1 ok2) (hs : Sep ok ok2) : LivF d W1 B ok v l := LivF_step h hc.1 (fun k hk hlt => hc.2 k hlt (hs k hk))
theorem LivF_form (h : LivF d W B ok v l) : ∃ A c, v = .slice A l.length c := by
  obtain ⟨⟨A, c, e, _⟩, _⟩ := h
  exact ⟨A, c, e⟩
theorem LivF_rd {n c : Nat} {A : Option Addr} (h : LivF d W B ok (.slice A n c) l) : d.C W A l.length l := by
  obtain ⟨⟨A', c', e, hc, hf⟩, _⟩ := h
  injection e with e1 e2 e3
  subst e1
  exact Kd.F_now hf
theorem LivF_cap {n c : Nat} {A : Option Addr} (h : LivF d W B ok (.slice A n c) l) : l.length ≤ c := by
  obtain ⟨⟨A', c', e, hc, hf⟩, _⟩ := h
  injection e with e1 e2 e3
  subst e3
  exact hc
theorem LivF_lt (h : LivF d W B ok v l) : ∀ k, ok k → k < W.heap.size := h.2
end
end Go.Proofs.Ytafnipklejfbmaa.Own.G
