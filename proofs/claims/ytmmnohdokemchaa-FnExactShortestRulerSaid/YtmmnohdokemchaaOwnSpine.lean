/- Lists of lists: one read, one of the call's own; the laws' own functions over them: compared, marked and found marked; at most 1048576 lists of at most 1048576 numbers. -/
import Derived.Test.YtmmnohdokemchaaOwnGen
namespace Go.Proofs.Ytmmnohdokemchaa.Own.G
open Go.RowKit Go.Proofs.YtmmnohdokemchaaW.PrintWords Go.Proofs.YtmmnohdokemchaaW.PrintLast Go.Proofs.YtmmnohdokemchaaW.PrintMore
set_option linter.unusedVariables false
/-- A list of lists that is read. -/
abbrev RdS (w : World) (A : Option Addr) (l : List (List Int)) : Prop := Kd.C (Kd.slice 3 (Kd.int .i64)) w A l.length l
/-- A list of lists of the call's own. -/
abbrev OwK (w : World) (B : Nat) (ok : Nat → Prop) (v : Value) (l : List (List Int)) : Prop := Kd.S (Kd.slice 3 (Kd.int .i64)) 25 w B ok v l
/-- Only blocks of a kind are changed. -/
def Changed (w w1 : World) (ok : Nat → Prop) : Prop := w.heap.size ≤ w1.heap.size ∧ ∀ k, k < w.heap.size → ¬ ok k → w1.heap[k]? = w.heap[k]?
abbrev OwS (w : World) (B : Nat) (v : Value) (l : List (List Int)) : Prop := Kd.S (Kd.slice 3 (Kd.int .i64)) 25 w B (fun _ => True) v l
theorem row_at {w : World} {A : Option Addr} {l : List (List Int)} (h : RdS w A l) {i : Nat} (hi : i < l.length) : ∃ ad A0 c0, A = some ad ∧ w.cell? (ad.add i) = some (.slice A0 (l.getD i []).length c0) ∧ (l.getD i []).length ≤ c0 ∧ Rd w A0 (l.getD i []) := by
  obtain ⟨ad, c, e, _, hK, hc0⟩ := Kd.C_get h ([] : List Int) (i : Int) (by omega) (by omega)
  rw [Int.toNat_natCast] at hK hc0
  have hc : ∀ j u, c[j]? = some u → w.cell? (ad.add (i * 1 + j)) = some u := hc0
  obtain ⟨A0, c0, rfl, l0, g0⟩ := hK
  exact ⟨ad, A0, c0, e, by have hq := hc 0 _ rfl; rwa [Nat.mul_one, Nat.add_zero] at hq, l0, g0⟩
theorem OwS_form {w : World} {B : Nat} {v : Value} {l : List (List Int)} (h : OwS w B v l) : ∃ A c, v = .slice A l.length c ∧ l.length ≤ c ∧ RdS w A l := Kd.S_reads h
theorem OwS_rd {w : World} {B c n : Nat} {A : Option Addr} {l : List (List Int)} (h : OwS w B (.slice A n c) l) : RdS w A l := (Kd.S_reads' h).2.2
theorem OwS_cap {w : World} {B c n : Nat} {A : Option Addr} {l : List (List Int)} (h : OwS w B (.slice A n c) l) : l.length ≤ c := by
  have := Kd.S_reads' h
  omega
theorem OwS_drewN {w : World} {B : Nat} {v : Value} {l : List (List Int)} (h : OwS w B v l) (n : Nat) : OwS (w.drewN n) B v l := Kd.S_drewN h n
theorem OwS_below {w w1 : World} {B : Nat} {v : Value} {l : List (List Int)} (h : OwS w B v l) (hb : Below w.heap.size w w1) : OwS w1 B v l := Kd.S_below h hb
theorem OwS_lower {w : World} {B B' : Nat} {v : Value} {l : List (List Int)} (h : OwS w B v l) (hb : B' ≤ B) : OwS w B' v l := Kd.S_lower h hb
theorem OwS_drawn {w w1 : World} {B : Nat} {v : Value} {l : List (List Int)} (h : OwS w B v l) (hd : Drawn0 w w1) : OwS w1 B v l := by
  obtain ⟨⟨n, rfl⟩⟩ := hd
  exact OwS_drewN h n
theorem quiet_drawn2 {P : Program} {f : FuncId} {args : Array Value} {w : World} {m n : Nat} {v : Value} (h : Calls P f args (w.drewN (m + n)) fun e w' => e = .returned v ∧ Drawn0 (w.drewN (m + n)) w') :
    Calls P f args (w.drewN (m + n)) fun e w'' => e = .returned v ∧ ∃ n, w'' = w.drewN (m + n) := h.mono fun e w'' ⟨he, ⟨⟨k, hk⟩⟩⟩ => ⟨he, n + k, by
  rw [hk]
  show ({ w with drawn := w.drawn + (m + n) + k } : World) = { w with drawn := w.drawn + (m + (n + k)) }
  rw [Nat.add_assoc, Nat.add_assoc]⟩
def Fit (l : List (List Int)) : Prop := l.length ≤ 1048576 ∧ ∀ x ∈ l, x.length ≤ 1048576
theorem Fit_at {l : List (List Int)} (h : Fit l) {i : Nat} (hi : i < l.length) : (l.getD i []).length ≤ 1048576 := by
  rw [List.getD_eq_getElem?_getD, List.getElem?_eq_getElem hi]
  exact h.2 _ (List.getElem_mem hi)
/-- How many numbers stand in the first i lists. -/
def pre (l : List (List Int)) : Nat → Nat
  | 0 => 0
  | i + 1 => pre l i + (l.getD i []).length
theorem pre_mono (l : List (List Int)) {i j : Nat} (h : i ≤ j) : pre l i ≤ pre l j := by
  induction j with
  | zero => rw [show i = 0 by omega]; exact Nat.le_refl _
  | succ j ih =>
    rcases Nat.lt_or_ge i (j + 1) with h2 | h2
    · have := ih (by omega); rw [pre]; omega
    · rw [show i = j + 1 by omega]; exact Nat.le_refl _
/-- The lists marked, from m on: i of them. -/
def marksS (l : List (List Int)) (m : Int) (i : Nat) : List (List Int) := (List.range i).map fun j : Nat => marks (l.getD j []).length (m + (pre l j : Int))
theorem marksS_length (l : List (List Int)) (m : Int) (i : Nat) : (marksS l m i).length = i := by simp [marksS]
theorem marksS_succ (l : List (List Int)) (m : Int) (i : Nat) : marksS l m (i + 1) = marksS l m i ++ [marks (l.getD i []).length (m + (pre l i : Int))] := by
  unfold marksS
  rw [List.range_succ, List.map_append]
  rfl
theorem marksS_getD (l : List (List Int)) (m : Int) {i n : Nat} (h : i < n) : (marksS l m n).getD i [] = marks (l.getD i []).length (m + (pre l i : Int)) := by
  rw [List.getD_eq_getElem?_getD, List.getElem?_eq_getElem (by rw [marksS_length]; exact h)]
  simp [marksS]
theorem marksS_mid (l : List (List Int)) (m : Int) {i : Nat} (h : i < l.length) : (marksS l m i ++ l.drop i).getD i [] = l.getD i [] := by
  rw [List.getD_eq_getElem?_getD, List.getElem?_append_right (by rw [marksS_length]; exact Nat.le_refl _), marksS_length, Nat.sub_self, List.getElem?_drop, Nat.add_zero, List.getD_eq_getElem?_getD]
theorem marksS_step (l : List (List Int)) (m : Int) {i : Nat} (h : i < l.length) : (marksS l m i ++ l.drop i).set i (marks (l.getD i []).length (m + (pre l i : Int))) = marksS l m (i + 1) ++ l.drop (i + 1) := by
  rw [List.set_append_right _ _ (by rw [marksS_length]; exact Nat.le_refl _), marksS_length, Nat.sub_self, List.drop_eq_getElem_cons h, List.set_cons_zero, marksS_succ, List.append_assoc]
  rfl
theorem marks_len (n : Nat) (m : Int) : (marks n m).length = n := marks_length n m
end Go.Proofs.Ytmmnohdokemchaa.Own.G
