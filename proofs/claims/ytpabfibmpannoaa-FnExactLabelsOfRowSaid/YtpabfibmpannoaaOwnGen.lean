/- General words behind the kit of this seat: a list searched, a list without its first, rows of counts that are counted up; lists of at most 1048576 numbers where a call is told. -/
import Derived.Test.YtpabfibmpannoaaOwnLawKit
import Derived.StillTailTactics
namespace Go.Proofs.Ytpabfibmpannoaa.Own.G
open Go.RowKit Go.Proofs.YtpabfibmpannoaaW.PrintWords Go.Proofs.YtpabfibmpannoaaW.PrintLast Go.Proofs.YtpabfibmpannoaaW.PrintMore
set_option linter.unusedVariables false
theorem ret_two {v : Value} {a b : Bool} (h : a = b) : Ending.returned (.tuple #[v, .bool a]) = .returned (.tuple #[v, .bool b]) := by rw [h]
def idx (v : Int) (xs : List Int) : Int := if v ∈ xs then (xs.idxOf v : Int) else -1
theorem idx_pos {v : Int} {xs : List Int} : 0 ≤ idx v xs ↔ v ∈ xs := by
  unfold idx
  split
  · simp_all
  · simp_all
theorem idx_none {v : Int} {xs : List Int} (h : v ∉ xs) : idx v xs = -1 := by
  unfold idx
  rw [if_neg h]
theorem idx_at {v : Int} {xs : List Int} {i : Nat} (hi : i < xs.length) (h : rd xs (i : Int) = v) (hn : v ∉ xs.take i) : idx v xs = (i : Int) := by
  have hm : v ∈ xs := h ▸ rd_mem hi
  unfold idx
  rw [if_pos hm]
  have e : xs = xs.take i ++ v :: xs.drop (i + 1) := by
    rw [← h, ← drop_rd hi, List.take_append_drop]
  have : xs.idxOf v = i := by
    rw [e, List.idxOf_append, if_neg hn, List.idxOf_cons_self, List.length_take]
    omega
  rw [this]
theorem ret_int {k : IntKind} {a b : Int} (h : a = b) : Ending.returned (.int k a) = .returned (.int k b) := by rw [h]
set_option maxHeartbeats 800000 in
theorem Index_calls (A : Option Addr) (c : Nat) (l : List Int) (x : Int) (w : World) (hr : Rd w A l) (hc : l.length ≤ c) (hn : l.length ≤ 35184372088832) :
    Calls Try.prog 90 #[.slice A l.length c, .int .i64 x] w fun e w' => e = .returned (.int .i64 (idx x l)) ∧ Drawn0 w w' := by
  have HR := Aside0.mk hr
  have HC := Aside0.mk hc
  clear hr hc
  go_enter Try.func90, Try.ntmps90
  (go_wp2; repeat (go_quiet (fail); try go_wp2))
  go_loopg [8] l.length (fun g v8 w' => ∃ i : Nat, v8 = .int .i64 i ∧ Aside0 (i + g = l.length) ∧ Aside0 (x ∉ l.take i) ∧ Drawn0 w w')
  case atStart => exact ⟨0, rfl, ⟨by omega⟩, ⟨by simp⟩, (by repeat (first | exact Drawn0.refl _ | apply Drawn0.step))⟩
  case round =>
    obtain ⟨i, rfl, HI, HA, ⟨m1, rfl⟩⟩ := hrel
    by_cases hlt : i < l.length
    · obtain ⟨ad, rfl, hx⟩ := at_nat HR.out hlt
      by_cases h1 : rd l (i : Int) = x
      · have HM := Aside0.mk (idx_at hlt h1 HA.out)
        have ht : (x == rd l (i : Int)) = true := beq_iff_eq.mpr h1.symm
        clear h1
        (go_wp2; repeat (go_quiet (fail); try go_wp2))
        go_ret
        exact ⟨ret_int HM.out.symm, (by repeat (first | exact Drawn0.refl _ | apply Drawn0.step))⟩
      · have hm : x ∉ l.take (i + 1) := by
          rw [take_rd hlt]
          simp only [List.mem_append, List.mem_singleton]
          exact fun h => h.elim HA.out (fun e => h1 e.symm)
        have HM := Aside0.mk hm
        clear hm
        have ht : (x == rd l (i : Int)) = false := beq_eq_false_iff_ne.mpr (fun e => h1 e.symm)
        clear h1
        (go_wp2; repeat (go_quiet (fail); try go_wp2))
        go_roundg (gk - 1)
        case measure => have := HI.out; omega
        case rel => exact ⟨i + 1, by go_num, ⟨by have := HI.out; omega⟩, HM, (by repeat (first | exact Drawn0.refl _ | apply Drawn0.step))⟩
    · (go_wp2; repeat (go_quiet (fail); try go_wp2))
      go_ret
      exact ⟨ret_int (idx_none (fun h => HA.out (by rwa [List.take_of_length_le (by omega)]))).symm, (by repeat (first | exact Drawn0.refl _ | apply Drawn0.step))⟩
theorem Index_take (A : Option Addr) (c : Nat) (l : List Int) (i : Nat) (x : Int) (w : World) (hr : Rd w A l) (hc : l.length ≤ c) (hi : i ≤ l.length) (hn : l.length ≤ 35184372088832) :
    Calls Try.prog 90 #[.slice A i c, .int .i64 x] w fun e w' => e = .returned (.int .i64 (idx x (l.take i))) ∧ Drawn0 w w' := by
  have hl : (l.take i).length = i := by rw [List.length_take]; omega
  exact calls_of_args (by rw [hl]) (Index_calls A c (l.take i) x w (Rd_take hr i hi) (by omega) (by omega))
theorem idx_mem {v : Int} {xs : List Int} (h : v ∈ xs) : idx v xs = ((xs.idxOf v : Nat) : Int) := by
  unfold idx
  rw [if_pos h]
theorem Contains_calls (A : Option Addr) (c : Nat) (l : List Int) (x : Int) (w : World) (hr : Rd w A l) (hc : l.length ≤ c) (hn : l.length ≤ 35184372088832) :
    Calls Try.prog 70 #[.slice A l.length c, .int .i64 x] w fun e w' => e = .returned (.bool (decide (x ∈ l))) ∧ Drawn0 w w' := by
  have HR := Aside0.mk hr
  have HC := Aside0.mk hc
  clear hr hc
  go_enter Try.func70, Try.ntmps70
  go_wp2_with (go_at_call 90; refine (Index_calls _ _ l _ _ HR.out HC.out hn).mono ?_; rintro e w' ⟨rfl, ⟨nd, rfl⟩⟩)
  go_ret
  exact ⟨ret_bool (decide_eq_decide.mpr idx_pos), (by repeat (first | exact Drawn0.refl _ | apply Drawn0.step))⟩
theorem Contains_take (A : Option Addr) (c : Nat) (l : List Int) (i : Nat) (x : Int) (w : World) (hr : Rd w A l) (hc : l.length ≤ c) (hi : i ≤ l.length) (hn : l.length ≤ 35184372088832) :
    Calls Try.prog 70 #[.slice A i c, .int .i64 x] w fun e w' => e = .returned (.bool (decide (x ∈ l.take i))) ∧ Drawn0 w w' := by
  have hl : (l.take i).length = i := by rw [List.length_take]; omega
  exact calls_of_args (by rw [hl]) (Contains_calls A c (l.take i) x w (Rd_take hr i hi) (by omega) (by omega))
theorem quiet_drawn {P : Program} {f : FuncId} {args : Array Value} {w : World} {n : Nat} {v : Value} (h : Calls P f args (w.drewN n) fun e w' => e = .returned v ∧ Drawn0 (w.drewN n) w') :
    Calls P f args (w.drewN n) fun e w'' => e = .returned v ∧ ∃ m, w'' = w.drewN m := Calls.quiet_of (h.mono fun _ _ ⟨he, hd⟩ => ⟨he, hd.out⟩)
theorem drop_one (A : Option Addr) (c : Nat) (l : List Int) (hp : 1 ≤ l.length) (hc : l.length ≤ c) :
    ∃ A' : Option Addr, (∀ W : World, Sem.run Try.prog (Instr.slice 29 (.slice A l.length c) (some (.int .i64 1)) none none) W = .ok (.slice A' (l.drop 1).length (c - 1)) W) ∧ ∀ w, Rd w A l → Rd w A' (l.drop 1) := by
  obtain ⟨i0, hi0, _, hsz, _⟩ := info_parts infoInt
  obtain ⟨A', h1, h2, _⟩ := print_drop_of (P := Try.prog) (Value.int .i64) 0 29 3 .i64 Try.underlying29 hi0 hsz A c l 1 (by omega) (by omega) hc
  exact ⟨A', h1, fun w h => Kd.C_of_reads (h1 := fun _ => rfl) (h2 w (Kd.reads_of_C h))⟩
/-- Numbers of a small size: sums and differences of two do not wrap. -/
def Small (l : List Int) : Prop := ∀ x ∈ l, -1000000 ≤ x ∧ x ≤ 1000000
theorem Small_rd {l : List Int} (h : Small l) {i : Nat} (hi : i < l.length) : -1000000 ≤ rd l (i : Int) ∧ rd l (i : Int) ≤ 1000000 := h _ (rd_mem hi)
theorem at_first {w : World} {A : Option Addr} {l : List Int} (h : Rd w A l) (hp : 0 < l.length) : ∃ ad, A = some ad ∧ w.cell? ad = some (.int .i64 (rd l 0)) := by
  obtain ⟨ad, e, hx⟩ := at_nat h hp
  exact ⟨ad, e, by simpa [Addr.add] using hx⟩
theorem own_celli {w : World} {B g n cap : Nat} {l : List Int} (h : Ow w B (.slice (some ⟨g, 0, none⟩) n cap) l) (i : Int) (h0 : 0 ≤ i) (h1 : i < (n : Int)) : w.cell? ⟨g, i.toNat, none⟩ = some (.int .i64 (rd l i)) ∧ w.frozen? ⟨g, i.toNat, none⟩ = false :=
  Kd.R_celln 0 h i h0 h1
/-- A row of counts, one of them counted up. -/
def bump (o : List Int) (d : Int) : List Int := o.set d.toNat (rd o d + 1)
theorem bump_length (o : List Int) (d : Int) : (bump o d).length = o.length := by simp [bump]
def Bnd (k : Int) (o : List Int) : Prop := ∀ x ∈ o, 0 ≤ x ∧ x ≤ k
theorem Bnd_zero (n : Nat) : Bnd 0 (List.replicate n 0) := fun x h => by have := List.eq_of_mem_replicate h; omega
theorem Bnd_mono {k k' : Int} {o : List Int} (h : Bnd k o) (hk : k ≤ k') : Bnd k' o := fun x hx => by have := h x hx; omega
theorem Bnd_rd {k d : Int} {o : List Int} (h : Bnd k o) (h0 : 0 ≤ d) (h1 : d < (o.length : Int)) : 0 ≤ rd o d ∧ rd o d ≤ k := by
  obtain ⟨n, rfl⟩ : ∃ n : Nat, d = (n : Int) := ⟨d.toNat, by omega⟩
  exact h _ (rd_mem (by omega))
theorem Bnd_bump {k d : Int} {o : List Int} (h : Bnd k o) (h0 : 0 ≤ d) (h1 : d < (o.length : Int)) : Bnd (k + 1) (bump o d) := fun x hx => by
  rcases List.mem_or_eq_of_mem_set hx with h2 | h2
  · have := h x h2; omega
  · have := Bnd_rd h h0 h1; omega
end Go.Proofs.Ytpabfibmpannoaa.Own.G
