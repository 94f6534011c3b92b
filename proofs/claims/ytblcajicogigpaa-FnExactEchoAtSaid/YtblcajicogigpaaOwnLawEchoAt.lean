/- For every argument that can be read, the law FnExactEchoAt answers true: the program's EchoAt returns what the reference's returns; no condition. -/
import Derived.Test.YtblcajicogigpaaRows
import Derived.WalkKit
import Derived.ProofKit
import Derived.OpenShut
import Derived.ShutString
import Derived.ChangeOld
import Derived.Below
import Derived.Test.YtblcajicogigpaaOwnLawKit
import Derived.Test.YtblcajicogigpaaOwnDotsH
namespace Go.Proofs.Ytblcajicogigpaa.Own
open Go.RowKit Go.Proofs.YtblcajicogigpaaW.PrintWords Go.Proofs.YtblcajicogigpaaW.PrintLast Go.Proofs.YtblcajicogigpaaW.PrintMore
set_option linter.unusedVariables false
set_option maxHeartbeats 3200000 in
theorem law_EchoAt (A0 : Option Addr) (c0 : Nat) (l0 : List Int) (a1 : Int) (a2 : Int) (w : World) (hr0 : Rd w A0 l0) (hc0 : l0.length ≤ c0) (hw0 : ∀ x ∈ l0, W64 x) (ha1 : W64 a1) (ha2 : W64 a2) :
    Calls Try.prog 10 #[.slice A0 l0.length c0, .int .i64 a1, .int .i64 a2] w fun e w' => e = .returned (.bool true) ∧ Below w.heap.size w w' := by
  have HR0 := Aside0.mk hr0
  have HC0 := Aside0.mk hc0
  have HW0 := Aside0.mk hw0
  clear hr0 hc0 hw0
  have HA1 := Aside0.mk ha1
  clear ha1
  have HA2 := Aside0.mk ha2
  clear ha2
  have HB := Aside0.mk (Below.refl w.heap.size w)
  by_cases hn0 : l0.length ≤ 1048576
  rotate_left
  · go_enter Try.func10, Try.ntmps10
    (go_wp2; repeat (go_quiet (fail); try go_wp2))
    go_ret
    exact ⟨rfl, (by repeat (first | (with_reducible first | exact HB.out | apply below_alloc | apply pw_below_drewN | apply below_drew1) | exact HB.out))⟩
  go_enter Try.func10, Try.ntmps10
  go_wp2_with fail
  refine (toIntS_calls _ _ l0 _ ?h1 HC0.out hn0).mono ?_
  case h1 => exact Kd.C_below HR0.out (by repeat (first | (with_reducible first | exact HB.out | apply below_alloc | apply pw_below_drewN | apply below_drew1) | exact HB.out))
  rintro e w1 ⟨v01, rfl, ho, hb⟩
  have n0_ := Aside0.mk (Ow_lower ho (below_size (by repeat (first | (with_reducible first | exact HB.out | apply below_alloc | apply pw_below_drewN | apply below_drew1) | exact HB.out))))
  have n1_ := Aside0.mk (below_step (by repeat (first | (with_reducible first | exact HB.out | apply below_alloc | apply pw_below_drewN | apply below_drew1) | exact HB.out)) hb)
  clear HB ho hb
  have HO01 := n0_
  have HB := n1_
  clear n0_ n1_
  obtain ⟨B01, d01, e_, _, _⟩ := Ow_form HO01.out
  subst e_
  go_wp2_with fail
  refine (specEchoAt_calls _ _ l0 a1 a2 _ ?h2a0 (Ow_cap HO01.out) hn0 HW0.out HA1.out HA2.out).mono ?_
  case h2a0 => exact Ow_rd (by first | exact HO01.out | exact Ow_drewN HO01.out _)
  rintro e w2 ⟨rfl, hb⟩
  have m01_ := Aside0.mk (Ow_below (by first | exact HO01.out | exact Ow_drewN HO01.out _) hb)
  have n1_ := Aside0.mk (below_step (by repeat (first | (with_reducible first | exact HB.out | apply below_alloc | apply pw_below_drewN | apply below_drew1) | exact HB.out)) hb)
  clear HB hb
  clear HO01
  have HO01 := m01_
  clear m01_
  have HB := n1_
  clear n1_
  go_wp2_with fail
  refine (toIntS_calls _ _ l0 _ ?h3 HC0.out hn0).mono ?_
  case h3 => exact Kd.C_below HR0.out (by repeat (first | (with_reducible first | exact HB.out | apply below_alloc | apply pw_below_drewN | apply below_drew1) | exact HB.out))
  rintro e w3 ⟨v02, rfl, ho, hb⟩
  have m01_ := Aside0.mk (Ow_below (by first | exact HO01.out | exact Ow_drewN HO01.out _) hb)
  have s01_ := Aside0.mk (Apart_new (by first | exact HO01.out | exact Ow_drewN HO01.out _) ho)
  have n0_ := Aside0.mk (Ow_lower ho (below_size (by repeat (first | (with_reducible first | exact HB.out | apply below_alloc | apply pw_below_drewN | apply below_drew1) | exact HB.out))))
  have n1_ := Aside0.mk (below_step (by repeat (first | (with_reducible first | exact HB.out | apply below_alloc | apply pw_below_drewN | apply below_drew1) | exact HB.out)) hb)
  clear HB ho hb
  clear HO01
  have HO01 := m01_
  clear m01_
  have HS01_02 := s01_
  clear s01_
  have HO02 := n0_
  have HB := n1_
  clear n0_ n1_
  obtain ⟨B02, d02, e_, _, _⟩ := Ow_form HO02.out
  subst e_
  go_wp2_with fail
  refine (implEchoAt_calls _ _ l0 a1 a2 _ ?h4a0 (Ow_cap HO02.out) hn0 HW0.out HA1.out HA2.out).mono ?_
  case h4a0 => exact Ow_rd (by first | exact HO02.out | exact Ow_drewN HO02.out _)
  rintro e w4 ⟨rfl, hb⟩
  have m01_ := Aside0.mk (Ow_below (by first | exact HO01.out | exact Ow_drewN HO01.out _) hb)
  have m02_ := Aside0.mk (Ow_below (by first | exact HO02.out | exact Ow_drewN HO02.out _) hb)
  have n1_ := Aside0.mk (below_step (by repeat (first | (with_reducible first | exact HB.out | apply below_alloc | apply pw_below_drewN | apply below_drew1) | exact HB.out)) hb)
  clear HB hb
  clear HO01 HO02
  have HO01 := m01_
  clear m01_
  have HO02 := m02_
  clear m02_
  have HB := n1_
  clear n1_
  go_wp2_with fail
  refine (toIntS_calls _ _ l0 _ ?h5 HC0.out hn0).mono ?_
  case h5 => exact Kd.C_below HR0.out (by repeat (first | (with_reducible first | exact HB.out | apply below_alloc | apply pw_below_drewN | apply below_drew1) | exact HB.out))
  rintro e w5 ⟨v03, rfl, ho, hb⟩
  have m01_ := Aside0.mk (Ow_below (by first | exact HO01.out | exact Ow_drewN HO01.out _) hb)
  have m02_ := Aside0.mk (Ow_below (by first | exact HO02.out | exact Ow_drewN HO02.out _) hb)
  have s01_ := Aside0.mk (Apart_new (by first | exact HO01.out | exact Ow_drewN HO01.out _) ho)
  have s02_ := Aside0.mk (Apart_new (by first | exact HO02.out | exact Ow_drewN HO02.out _) ho)
  have n0_ := Aside0.mk (Ow_lower ho (below_size (by repeat (first | (with_reducible first | exact HB.out | apply below_alloc | apply pw_below_drewN | apply below_drew1) | exact HB.out))))
  have n1_ := Aside0.mk (below_step (by repeat (first | (with_reducible first | exact HB.out | apply below_alloc | apply pw_below_drewN | apply below_drew1) | exact HB.out)) hb)
  clear HB ho hb
  clear HO01 HO02
  have HO01 := m01_
  clear m01_
  have HO02 := m02_
  clear m02_
  have HS01_03 := s01_
  clear s01_
  have HS02_03 := s02_
  clear s02_
  have HO03 := n0_
  have HB := n1_
  clear n0_ n1_
  obtain ⟨B03, d03, e_, _, _⟩ := Ow_form HO03.out
  subst e_
  go_wp2_with fail
  refine (eqIntS_calls _ _ _ _ (l0) _ ?h6a (Ow_cap HO02.out) ?h6b (Ow_cap HO03.out) hn0).mono ?_
  case h6a => exact Ow_rd (by first | exact HO02.out | exact Ow_drewN HO02.out _)
  case h6b => exact Ow_rd (by first | exact HO03.out | exact Ow_drewN HO03.out _)
  rintro e w6 ⟨rfl, hd⟩
  have m01_ := Aside0.mk (Ow_drawn (by first | exact HO01.out | exact Ow_drewN HO01.out _) hd)
  have m02_ := Aside0.mk (Ow_drawn (by first | exact HO02.out | exact Ow_drewN HO02.out _) hd)
  have m03_ := Aside0.mk (Ow_drawn (by first | exact HO03.out | exact Ow_drewN HO03.out _) hd)
  have n1_ := Aside0.mk (below_drawn (by repeat (first | (with_reducible first | exact HB.out | apply below_alloc | apply pw_below_drewN | apply below_drew1) | exact HB.out)) hd)
  clear HB hd
  clear HO01 HO02 HO03
  have HO01 := m01_
  clear m01_
  have HO02 := m02_
  clear m02_
  have HO03 := m03_
  clear m03_
  have HB := n1_
  clear n1_
  (go_wp2; repeat (go_quiet (fail); try go_wp2))
  go_ret
  exact ⟨rfl, (by repeat (first | (with_reducible first | exact HB.out | apply below_alloc | apply pw_below_drewN | apply below_drew1) | exact HB.out))⟩
end Go.Proofs.Ytblcajicogigpaa.Own
namespace Go.Proofs.Ytblcajicogigpaa.fnExactEchoAt
open Go.ChangeShapes Go.WideShapes Go.ChangeAt Go.RowKit
open Go.ChangeMaps (open_string shut_string)
set_option linter.unusedVariables false

theorem own : ownKnob Try.prog.godebug = none := by kernel_rfl
theorem laidOut : laidOutB Try.prog = true := by kernel_rfl

/-- WHAT THE WALK IS TOLD OF A SLICE OF INTEGERS THAT CAME IN: it is nil; or it leads to a row of 'cap' cells, the numbers 'zs' (the first 'len' are its elements, the rest its spare room), each fitting its kind. -/
def IsRow (k : IntKind) (w : World) (a : Option Addr) (len cap : Nat) (zs : List Int) : Prop :=
  (a = none ∧ len = 0 ∧ cap = 0 ∧ zs = []) ∨
  ∃ x, a = some x ∧ len ≤ cap ∧ cap ≤ maxLen ∧ zs.length = cap ∧ (∀ i, i < zs.length → w.cell? (x.add i) = some (.int k (zs.getD i 0))) ∧ ∀ n ∈ zs, (Lit.int k n).wf = true

theorem walk (a0 : Option Addr) (len0 cap0 : Nat) (z0 : List Int) (a1 : Int) (a2 : Int) (w : World) (w0 : IsRow .i64 w a0 len0 cap0 z0) (w1 : (Lit.int .i64 a1).wf = true) (w2 : (Lit.int .i64 a2).wf = true) :
    Calls Try.prog 10 #[.slice a0 len0 cap0, .int .i64 a1, .int .i64 a2] w fun e w' => e = .returned (.bool true) ∧ Below w.heap.size w w' := by
  obtain ⟨l0, rfl, hr0, hm0, hw0, hc0⟩ := Go.Proofs.YtblcajicogigpaaW.PrintWords.ReadsInt.ofRowC w0
  exact Own.law_EchoAt _ _ l0 a1 a2 w (Go.Proofs.YtblcajicogigpaaW.PrintWords.Kd.C_of_reads (d := (0 : Int)) (h1 := fun _ => rfl) hr0) hc0 (fun x hx => bounds_i64 (hw0 x hx)) (bounds_i64 w1) (bounds_i64 w2)

/-! ### THE ROW's STEP: WRITTEN OUT: LEAVE IT -/
set_option maxRecDepth 100000 in
theorem lifted (os : Os) (started : os.Started) (H : Type) (enc : TypeId × Value → H) :
    ReturnsInHanded {} Try.checked os 10 .any (Rows.fnExactEchoAtSpec.pre6 enc Try.prog Try.f10 Rows.fnExactEchoAtRow.domain false) (Rows.fnExactEchoAtSpec.post enc Try.prog Try.f10 false true false false) := by
  refine returnsInHanded_of_change (C := Try.checked) own started (by kernel_rfl) Try.func10
    (ChangeSpec.witness6 (enc := enc) (C := Try.checked) false ⟨#[], #[.slice none 0 0, .int .i64 0, .int .i64 0], []⟩ 8 (by kernel_rfl) (by kernel_rfl) (by kernel_rfl) (by kernel_rfl)) ?_
  intro W base args ds gs before hval0 hW hcnd _
  have hval : ∀ (j : Nat) t v, Try.f10.params[j]? = some t → args[j]? = some v → Value.okWide Try.prog W .any base t v := hval0
  have hW' := hW
  obtain ⟨p, q, hA0, hV, rfl, hfz, hnd⟩ := hW
  have hA : DataW.TrodAll enc Try.prog W 0 (fun _ => true) true Try.f10.params.toList args.toList ds p := hA0
  rw [Try.params10] at hA hval
  obtain ⟨v0, vs0, d0, ds0, p0, q0, hargs, rfl, rfl, h0, r0⟩ := trodAll_cons hA
  obtain ⟨v1, vs1, d1, ds1, p1, q1, rfl, rfl, rfl, h1, r1⟩ := trodAll_cons r0
  obtain ⟨v2, vs2, d2, ds2, p2, q2, rfl, rfl, rfl, h2, r2⟩ := trodAll_cons r1
  obtain ⟨rfl, rfl, rfl⟩ := trodAll_nil r2
  obtain rfl : args = #[v0, v1, v2] := by cases args; simp_all
  obtain ⟨rfl, rfl⟩ := trodVars_none hV
  obtain ⟨a0, len0, cap0, rfl⟩ := okWide_slice Try.underlying25 (hval 0 25 v0 rfl rfl)
  have k0 := h0
  have lt0 : ∀ x ∈ p0, x.block < W.heap.size := by obtain ⟨m, hm⟩ := k0; exact DataW.trod_lt m _ _ _ hm
  obtain ⟨z0, w0⟩ : ∃ zs, IsRow .i64 W a0 len0 cap0 zs := by
    obtain ⟨fuel, hf⟩ := h0
    rcases open_ints Try.underlying25 Try.underlying3 (by kernel_rfl) hf with ⟨hcs, _⟩ | ⟨x, l, c, zs, hcs, _, hl, hm, hz, _, hcell, hwz⟩
    · simp [Value.cells] at hcs
      obtain ⟨rfl, rfl, rfl⟩ := hcs
      exact ⟨[], .inl ⟨rfl, rfl, rfl, rfl⟩⟩
    · simp [Value.cells] at hcs
      obtain ⟨rfl, rfl, rfl⟩ := hcs
      exact ⟨zs, .inr ⟨_, rfl, hl, hm, by simpa using hz, hcell, hwz⟩⟩
  obtain ⟨a1, rfl, rfl, rfl, w1⟩ := open_int Try.underlying3 (hval 1 3 v1 rfl rfl) h1
  obtain ⟨a2, rfl, rfl, rfl, w2⟩ := open_int Try.underlying3 (hval 2 3 v2 rfl rfl) h2
  clear hA0 hval0
  refine (walk a0 len0 cap0 z0 a1 a2 W w0 w1 w2).mono fun e W' ⟨he, bel⟩ => ?_
  subst he
  exact ⟨_, rfl, _, _, _, [], _, [], hW', trodAll_mk1 (shut_bool Try.underlying4 _), (trodAll_cons_mk (Below.trod laidOut (by kernel_rfl) (of_decide_eq_true (by kernel_rfl)) k0 bel lt0) (trodAll_cons_mk (shut_int Try.underlying3 w1) (trodAll_cons_mk (shut_int Try.underlying3 w2) trodAll_mk0))), rfl, bel.frame _, fun h => by cases h⟩

theorem over : Rows.fnExactEchoAtRow.holds Try.pinned (OpenSpec.ofChange Rows.fnExactEchoAtSpec) :=
  OpenClaim.holds_of_wide 10 Try.f10 rfl rfl rfl rfl rfl rfl rfl ⟨rfl, rfl, rfl, rfl, rfl⟩ rfl rfl rfl rfl rfl (by kernel_rfl) Try.func10 (by kernel_rfl)
    (of_decide_eq_true (by kernel_rfl)) (by unfold Func.isWrapper; first | (rw [if_pos (by decide +kernel)]; kernel_rfl) | (rw [if_neg (by decide +kernel)]; exact ⟨rfl, rfl⟩))
    (fun os started H enc _ => lifted os started H enc)

/-- ████ THE STATEMENT ████ -/
theorem proved : Rows.FnExactEchoAtSaid := over
#print axioms proved
end Go.Proofs.Ytblcajicogigpaa.fnExactEchoAt
namespace Go.Proofs.Ytblcajicogigpaa
/-- The row, under a short name, for the claim. -/
theorem fnExactEchoAt_holds : Rows.FnExactEchoAtSaid := fnExactEchoAt.proved
end Go.Proofs.Ytblcajicogigpaa
