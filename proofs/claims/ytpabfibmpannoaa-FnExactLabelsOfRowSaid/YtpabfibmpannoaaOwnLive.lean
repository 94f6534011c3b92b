/- Rows and lists of rows that live through a law's walk, each with its own blocks. -/
import Derived.Test.YtpabfibmpannoaaOwnSpine
namespace Go.Proofs.Ytpabfibmpannoaa.Own.G
open Go.RowKit Go.Proofs.YtpabfibmpannoaaW.PrintWords Go.Proofs.YtpabfibmpannoaaW.PrintLast Go.Proofs.YtpabfibmpannoaaW.PrintMore
set_option linter.unusedVariables false
def Liv (W : World) (B : Nat) (ok : Nat → Prop) (v : Value) (l : List Int) : Prop := Kd.R (Kd.int .i64) 3 W B ok v l ∧ ∀ k, ok k → k < W.heap.size
def LivS (W : World) (B : Nat) (ok : Nat → Prop) (v : Value) (l : List (List Int)) : Prop := OwK W B ok v l ∧ ∀ k, ok k → k < W.heap.size
def Sep (a b : Nat → Prop) : Prop := ∀ k, a k → ¬ b k
theorem Sep.symm {a b : Nat → Prop} (h : Sep a b) : Sep b a := fun k hb ha => h k ha hb
theorem Liv_new {W W1 : World} {B : Nat} {v : Value} {l : List Int} (ho : Ow W1 W.heap.size v l) (hB : B ≤ W.heap.size) : ∃ ok : Nat → Prop, Liv W1 B ok v l ∧ ∀ k, ok k → W.heap.size ≤ k :=
  ⟨fun k => W.heap.size ≤ k ∧ k < W1.heap.size, ⟨Kd.R_lower (Kd.R_mono (Kd.R_bound ho) (fun k hk => ⟨hk.2.1, hk.2.2.1⟩)) hB, fun k hk => hk.2⟩, fun k hk => hk.1⟩
theorem LivS_new {W W1 : World} {B : Nat} {v : Value} {l : List (List Int)} (ho : OwS W1 W.heap.size v l) (hB : B ≤ W.heap.size) : ∃ ok : Nat → Prop, LivS W1 B ok v l ∧ ∀ k, ok k → W.heap.size ≤ k :=
  ⟨fun k => W.heap.size ≤ k ∧ k < W1.heap.size, ⟨Kd.S_lower (Kd.S_mono (Kd.S_bound ho) (fun k hk => ⟨hk.2.1, hk.2.2.1⟩)) hB, fun k hk => hk.2⟩, fun k hk => hk.1⟩
theorem Sep_new {W : World} {a ok : Nat → Prop} (h : ∀ k, a k → k < W.heap.size) (hn : ∀ k, ok k → W.heap.size ≤ k) : Sep a ok := fun k ha hk => by
  have := h k ha
  have := hn k hk
  omega
theorem Liv_below {W W1 : World} {B : Nat} {ok : Nat → Prop} {v : Value} {l : List Int} (h : Liv W B ok v l) (hb : Below W.heap.size W W1) : Liv W1 B ok v l := ⟨Kd.R_below h.1 hb, fun k hk => Nat.lt_of_lt_of_le (h.2 k hk) hb.size⟩
theorem LivS_below {W W1 : World} {B : Nat} {ok : Nat → Prop} {v : Value} {l : List (List Int)} (h : LivS W B ok v l) (hb : Below W.heap.size W W1) : LivS W1 B ok v l := ⟨Kd.S_below h.1 hb, fun k hk => Nat.lt_of_lt_of_le (h.2 k hk) hb.size⟩
theorem Liv_drewN {W : World} {B : Nat} {ok : Nat → Prop} {v : Value} {l : List Int} (h : Liv W B ok v l) (n : Nat) : Liv (W.drewN n) B ok v l := ⟨Kd.R_drewN h.1 n, h.2⟩
theorem LivS_drewN {W : World} {B : Nat} {ok : Nat → Prop} {v : Value} {l : List (List Int)} (h : LivS W B ok v l) (n : Nat) : LivS (W.drewN n) B ok v l := ⟨Kd.S_drewN h.1 n, h.2⟩
theorem Liv_drawn {W W1 : World} {B : Nat} {ok : Nat → Prop} {v : Value} {l : List Int} (h : Liv W B ok v l) (hd : Drawn0 W W1) : Liv W1 B ok v l := by
  obtain ⟨⟨n, rfl⟩⟩ := hd
  exact Liv_drewN h n
theorem LivS_drawn {W W1 : World} {B : Nat} {ok : Nat → Prop} {v : Value} {l : List (List Int)} (h : LivS W B ok v l) (hd : Drawn0 W W1) : LivS W1 B ok v l := by
  obtain ⟨⟨n, rfl⟩⟩ := hd
  exact LivS_drewN h n
theorem Liv_changed {W W1 : World} {B : Nat} {ok ok2 : Nat → Prop} {v : Value} {l : List Int} (h : Liv W B ok v l) (hc : Changed W W1 ok2) (hs : Sep ok ok2) : Liv W1 B ok v l :=
  ⟨Kd.R_step h.1 (fun k hk hlt => hc.2 k hlt (hs k hk)), fun k hk => Nat.lt_of_lt_of_le (h.2 k hk) hc.1⟩
theorem LivS_changed {W W1 : World} {B : Nat} {ok ok2 : Nat → Prop} {v : Value} {l : List (List Int)} (h : LivS W B ok v l) (hc : Changed W W1 ok2) (hs : Sep ok ok2) : LivS W1 B ok v l :=
  ⟨Kd.S_step h.1 (fun k hk hlt => hc.2 k hlt (hs k hk)), fun k hk => Nat.lt_of_lt_of_le (h.2 k hk) hc.1⟩
theorem Liv_marked {W W1 : World} {B : Nat} {ok : Nat → Prop} {v : Value} {l m : List Int} (h : Liv W B ok v l) (ho : Ow W1 B v m) (hg : W.grownBy W1 v.ownBlock) : Liv W1 B ok v m ∧ Changed W W1 ok :=
  ⟨⟨Ow_re ho (fun k hk => h.1.1 k hk), fun k hk => Nat.lt_of_lt_of_le (h.2 k hk) hg.size⟩, hg.size, fun k hk hn => hg.block k hk (fun he => hn (h.1.1 k he.symm))⟩
theorem LivS_marked {W W1 : World} {B : Nat} {ok : Nat → Prop} {v : Value} {l m : List (List Int)} (h : LivS W B ok v l) (ho : OwK W1 B ok v m) (hc : Changed W W1 ok) : LivS W1 B ok v m ∧ Changed W W1 ok :=
  ⟨⟨ho, fun k hk => Nat.lt_of_lt_of_le (h.2 k hk) hc.1⟩, hc⟩
theorem Liv_form {W : World} {B : Nat} {ok : Nat → Prop} {v : Value} {l : List Int} (h : Liv W B ok v l) : ∃ A c, v = .slice A l.length c := Kd.R_slice h.1
theorem LivS_form {W : World} {B : Nat} {ok : Nat → Prop} {v : Value} {l : List (List Int)} (h : LivS W B ok v l) : ∃ A c, v = .slice A l.length c := Kd.S_slice h.1
theorem Liv_rd {W : World} {B n c : Nat} {ok : Nat → Prop} {A : Option Addr} {l : List Int} (h : Liv W B ok (.slice A n c) l) : Rd W A l := (Kd.R_reads' h.1).2.2
theorem LivS_rd {W : World} {B n c : Nat} {ok : Nat → Prop} {A : Option Addr} {l : List (List Int)} (h : LivS W B ok (.slice A n c) l) : RdS W A l := (Kd.S_reads' h.1).2.2
theorem Liv_cap {W : World} {B n c : Nat} {ok : Nat → Prop} {A : Option Addr} {l : List Int} (h : Liv W B ok (.slice A n c) l) : l.length ≤ c := by
  have := Kd.R_reads' h.1
  omega
theorem LivS_cap {W : World} {B n c : Nat} {ok : Nat → Prop} {A : Option Addr} {l : List (List Int)} (h : LivS W B ok (.slice A n c) l) : l.length ≤ c := by
  have := Kd.S_reads' h.1
  omega
theorem Liv_ow {W : World} {B : Nat} {ok : Nat → Prop} {v : Value} {l : List Int} (h : Liv W B ok v l) : Ow W B v l := Kd.R_mono h.1 (fun _ _ => trivial)
theorem Liv_lt {W : World} {B : Nat} {ok : Nat → Prop} {v : Value} {l : List Int} (h : Liv W B ok v l) : ∀ k, ok k → k < W.heap.size := h.2
theorem LivS_lt {W : World} {B : Nat} {ok : Nat → Prop} {v : Value} {l : List (List Int)} (h : LivS W B ok v l) : ∀ k, ok k → k < W.heap.size := h.2
theorem LivS_own {W : World} {B : Nat} {ok : Nat → Prop} {v : Value} {l : List (List Int)} (h : LivS W B ok v l) : OwK W B ok v l := h.1
end Go.Proofs.Ytpabfibmpannoaa.Own.G
