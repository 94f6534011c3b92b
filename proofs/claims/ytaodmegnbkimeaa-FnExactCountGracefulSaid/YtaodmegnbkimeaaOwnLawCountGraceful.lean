/- For every argument that can be read, the law FnExactCountGraceful answers true: the program's CountGraceful returns what the reference's returns; no condition. -/
import Derived.Test.YtaodmegnbkimeaaRows
import Derived.WalkKit
import Derived.ProofKit
import Derived.OpenShut
import Derived.ShutString
import Derived.ChangeOld
import Derived.Below
import Derived.Test.YtaodmegnbkimeaaOwnLawKit
import Derived.Test.YtaodmegnbkimeaaOwnGraceD
namespace Go.Proofs.Ytaodmegnbkimeaa.Own
open Go.RowKit Go.Proofs.YtaodmegnbkimeaaW.PrintWords Go.Proofs.YtaodmegnbkimeaaW.PrintLast Go.Proofs.YtaodmegnbkimeaaW.PrintMore
set_option linter.unusedVariables false
set_option maxHeartbeats 3200000 in
theorem law_CountGraceful (A0 : Option Addr) (c0 : Nat) (l0 : List Int) (w : World) (hr0 : Rd w A0 l0) (hc0 : l0.length ≤ c0) (hw0 : ∀ x ∈ l0, W64 x) :
    Calls Try.prog 3 #[.slice A0 l0.length c0] w fun e w' => e = .returned (.bool true) ∧ Below w.heap.size w w' := by
  have HR0 := Aside0.mk hr0
  have HC0 := Aside0.mk hc0
  have HW0 := Aside0.mk hw0
  clear hr0 hc0 hw0
  have HB := Aside0.mk (Below.refl w.heap.size w)
  by_cases hn0 : l0.length ≤ 1048576
  rotate_left
  · go_enter Try.func3, Try.ntmps3
    (go_wp2; repeat (go_quiet (fail); try go_wp2))
    go_ret
    exact ⟨rfl, (by repeat (first | (with_reducible first | exact HB.out | apply below_alloc | apply pw_below_drewN | apply below_drew1) | exact HB.out))⟩
  go_enter Try.func3, Try.ntmps3
  go_wp2_with fail
  refine (toIntS_calls _ _ l0 _ ?h1 HC0.out hn0).mono ?_
  case h1 => exact Kd.C_below HR0.out (by repeat (first | (with_reducible first | exact HB.out | apply below_alloc | apply pw_below_drewN | apply below_drew1) | exact HB.out))
  rintro e w1 ⟨v01, rfl, ho, hb⟩
  have n0_ := Aside0.mk (Ow_lower ho (below_size (by repeat (first | (with_reducible first | exact HB.out | apply below_alloc | apply pw_below_drewN | apply below_drew1) | exact HB.out))))
  have n1_ := Aside0.mk (below_step (by repeat (first | (with_reducible first | exact HB.out | apply below_alloc | apply pw_below_drewN | apply below_drew1) | exact HB.out)) hb)
  clear HB ho hb
  have HO01 := n0_
  have HB := n1_
  clear n0_ n1_
  obtain ⟨B01, d01, e_, _, _⟩ := Ow_form HO01.out
  subst e_
  go_wp2_with fail
  refine (G.specCountGraceful_calls _ _ l0 _ ?h2a0 (Ow_cap HO01.out) hn0 HW0.out).mono ?_
  case h2a0 => exact Ow_rd (by first | exact HO01.out | exact Ow_drewN HO01.out _)
  rintro e w2 ⟨rfl, hb⟩
  have m01_ := Aside0.mk (Ow_below (by first | exact HO01.out | exact Ow_drewN HO01.out _) hb)
  have n1_ := Aside0.mk (below_step (by repeat (first | (with_reducible first | exact HB.out | apply below_alloc | apply pw_below_drewN | apply below_drew1) | exact HB.out)) hb)
  clear HB hb
  clear HO01
  have HO01 := m01_
  clear m01_
  have HB := n1_
  clear n1_
  go_wp2_with fail
  refine (toIntS_calls _ _ l0 _ ?h3 HC0.out hn0).mono ?_
  case h3 => exact Kd.C_below HR0.out (by repeat (first | (with_reducible first | exact HB.out | apply below_alloc | apply pw_below_drewN | apply below_drew1) | exact HB.out))
  rintro e w3 ⟨v02, rfl, ho, hb⟩
  have m01_ := Aside0.mk (Ow_below (by first | exact HO01.out | exact Ow_drewN HO01.out _) hb)
  have s01_ := Aside0.mk (Apart_new (by first | exact HO01.out | exact Ow_drewN HO01.out _) ho)
  have n0_ := Aside0.mk (Ow_lower ho (below_size (by repeat (first | (with_reducible first | exact HB.out | apply below_alloc | apply pw_below_drewN | apply below_drew1) | exact HB.out))))
  have n1_ := Aside0.mk (below_step (by repeat (first | (with_reducible first | exact HB.out | apply below_alloc | apply pw_below_drewN | apply below_drew1) | exact HB.out)) hb)
  clear HB ho hb
  clear HO01
  have HO01 := m01_
  clear m01_
  have HS01_02 := s01_
  clear s01_
  have HO02 := n0_
  have HB := n1_
  clear n0_ n1_
  obtain ⟨B02, d02, e_, _, _⟩ := Ow_form HO02.out
  subst e_
  go_wp2_with fail
  refine (G.implCountGraceful_calls _ _ l0 _ ?h4a0 (Ow_cap HO02.out) hn0 HW0.out).mono ?_
  case h4a0 => exact Ow_rd (by first | exact HO02.out | exact Ow_drewN HO02.out _)
  rintro e w4 ⟨rfl, hb⟩
  have m01_ := Aside0.mk (Ow_below (by first | exact HO01.out | exact Ow_drewN HO01.out _) hb)
  have m02_ := Aside0.mk (Ow_below (by first | exact HO02.out | exact Ow_drewN HO02.out _) hb)
  have n1_ := Aside0.mk (below_step (by repeat (first | (with_reducible first | exact HB.out | apply below_alloc | apply pw_below_drewN | apply below_drew1) | exact HB.out)) hb)
  clear HB hb
  clear HO01 HO02
  have HO01 := m01_
  clear m01_
  have HO02 := m02_
  clear m02_
  have HB := n1_
  clear n1_
  go_wp2_with fail
  refine (toIntS_calls _ _ l0 _ ?h5 HC0.out hn0).mono ?_
  case h5 => exact Kd.C_below HR0.out (by repeat (first | (with_reducible first | exact HB.out | apply below_alloc | apply pw_below_drewN | apply below_drew1) | exact HB.out))
  rintro e w5 ⟨v03, rfl, ho, hb⟩
  have m01_ := Aside0.mk (Ow_below (by first | exact HO01.out | exact Ow_drewN HO01.out _) hb)
  have m02_ := Aside0.mk (Ow_below (by first | exact HO02.out | exact Ow_drewN HO02.out _) hb)
  have s01_ := Aside0.mk (Apart_new (by first | exact HO01.out | exact Ow_drewN HO01.out _) ho)
  have s02_ := Aside0.mk (Apart_new (by first | exact HO02.out | exact Ow_drewN HO02.out _) ho)
  have n0_ := Aside0.mk (Ow_lower ho (below_size (by repeat (first | (with_reducible first | exact HB.out | apply below_alloc | apply pw_below_drewN | apply below_drew1) | exact HB.out))))
  have n1_ := Aside0.mk (below_step (by repeat (first | (with_reducible first | exact HB.out | apply below_alloc | apply pw_below_drewN | apply below_drew1) | exact HB.out)) hb)
  clear HB ho hb
  clear HO01 HO02
  have HO01 := m01_
  clear m01_
  have HO02 := m02_
  clear m02_
  have HS01_03 := s01_
  clear s01_
  have HS02_03 := s02_
  clear s02_
  have HO03 := n0_
  have HB := n1_
  clear n0_ n1_
  obtain ⟨B03, d03, e_, _, _⟩ := Ow_form HO03.out
  subst e_
  go_wp2_with fail
  refine (eqIntS_calls _ _ _ _ (l0) _ ?h6a (Ow_cap HO02.out) ?h6b (Ow_cap HO03.out) hn0).mono ?_
  case h6a => exact Ow_rd (by first | exact HO02.out | exact Ow_drewN HO02.out _)
  case h6b => exact Ow_rd (by first | exact HO03.out | exact Ow_drewN HO03.out _)
  rintro e w6 ⟨rfl, hd⟩
  have m01_ := Aside0.mk (Ow_drawn (by first | exact HO01.out | exact Ow_drewN HO01.out _) hd)
  have m02_ := Aside0.mk (Ow_drawn (by first | exact HO02.out | exact Ow_drewN HO02.out _) hd)
  have m03_ := Aside0.mk (Ow_drawn (by first | exact HO03.out | exact Ow_drewN HO03.out _) hd)
  have n1_ := Aside0.mk (below_drawn (by repeat (first | (with_reducible first | exact HB.out | apply below_alloc | apply pw_below_drewN | apply below_drew1) | exact HB.out)) hd)
  clear HB hd
  clear HO01 HO02 HO03
  have HO01 := m01_
  clear m01_
  have HO02 := m02_
  clear m02_
  have HO03 := m03_
  clear m03_
  have HB := n1_
  clear n1_
  (go_wp2; repeat (go_quiet (fail); try go_wp2))
  go_ret
  exact ⟨rfl, (by repeat (first | (with_reducible first | exact HB.out | apply below_alloc | apply pw_below_drewN | apply below_drew1) | exact HB.out))⟩
end Go.Proofs.Ytaodmegnbkimeaa.Own
namespace Go.Proofs.Ytaodmegnbkimeaa.fnExactCountGraceful
open Go.ChangeShapes Go.WideShapes Go.ChangeAt Go.RowKit
open Go.ChangeMaps (open_string shut_string)
set_option linter.unusedVariables false

theorem own : ownKnob Try.prog.godebug = none := by kernel_rfl
theorem laidOut : laidOutB Try.prog = true := by kernel_rfl

/-- WHAT THE WALK IS TOLD OF A SLICE OF INTEGERS THAT CAME IN: it is nil; or it leads to a row of 'cap' cells, the numbers 'zs' (the first 'len' are its elements, the rest its spare room), each fitting its kind. -/
def IsRow (k : IntKind) (w : World) (a : Option Addr) (len cap : Nat) (zs : List Int) : Prop :=
  (a = none ∧ len = 0 ∧ cap = 0 ∧ zs = []) ∨
  ∃ x, a = some x ∧ len ≤ cap ∧ cap ≤ maxLen ∧ zs.length = cap ∧ (∀ i, i < zs.length → w.cell? (x.add i) = some (.int k (zs.getD i 0))) ∧ ∀ n ∈ zs, (Lit.int k n).wf = true

theorem walk (a0 : Option Addr) (len0 cap0 : Nat) (z0 : List Int) (w : World) (w0 : IsRow .i64 w a0 len0 cap0 z0) :
    Calls Try.prog 3 #[.slice a0 len0 cap0] w fun e w' => e = .returned (.bool true) ∧ Below w.heap.size w w' := by
  obtain ⟨l0, rfl, hr0, hm0, hw0, hc0⟩ := Go.Proofs.YtaodmegnbkimeaaW.PrintWords.ReadsInt.ofRowC w0
  exact Own.law_CountGraceful _ _ l0 w (Go.Proofs.YtaodmegnbkimeaaW.PrintWords.Kd.C_of_reads (d := (0 : Int)) (h1 := fun _ => rfl) hr0) hc0 (fun x hx => bounds_i64 (hw0 x hx))

/-! ### THE ROW's STEP: WRITTEN OUT: LEAVE IT -/
set_option maxRecDepth 100000 in
theorem lifted (os : Os) (started : os.Started) (H : Type) (enc : TypeId × Value → H) :
    ReturnsInHanded {} Try.checked os 3 .any (Rows.fnExactCountGracefulSpec.pre6 enc Try.prog Try.f3 Rows.fnExactCountGracefulRow.domain false) (Rows.fnExactCountGracefulSpec.post enc Try.prog Try.f3 false true false false) := by
  refine returnsInHanded_of_change (C := Try.checked) own started (by kernel_rfl) Try.func3
    (ChangeSpec.witness6 (enc := enc) (C := Try.checked) false ⟨#[], #[.slice none 0 0], []⟩ 8 (by kernel_rfl) (by kernel_rfl) (by kernel_rfl) (by kernel_rfl)) ?_
  intro W base args ds gs before hval0 hW hcnd _
  have hval : ∀ (j : Nat) t v, Try.f3.params[j]? = some t → args[j]? = some v → Value.okWide Try.prog W .any base t v := hval0
  have hW' := hW
  obtain ⟨p, q, hA0, hV, rfl, hfz, hnd⟩ := hW
  have hA : DataW.TrodAll enc Try.prog W 0 (fun _ => true) true Try.f3.params.toList args.toList ds p := hA0
  rw [Try.params3] at hA hval
  obtain ⟨v0, vs0, d0, ds0, p0, q0, hargs, rfl, rfl, h0, r0⟩ := trodAll_cons hA
  obtain ⟨rfl, rfl, rfl⟩ := trodAll_nil r0
  obtain rfl : args = #[v0] := by cases args; simp_all
  obtain ⟨rfl, rfl⟩ := trodVars_none hV
  obtain ⟨a0, len0, cap0, rfl⟩ := okWide_slice Try.underlying22 (hval 0 22 v0 rfl rfl)
  have k0 := h0
  have lt0 : ∀ x ∈ p0, x.block < W.heap.size := by obtain ⟨m, hm⟩ := k0; exact DataW.trod_lt m _ _ _ hm
  obtain ⟨z0, w0⟩ : ∃ zs, IsRow .i64 W a0 len0 cap0 zs := by
    obtain ⟨fuel, hf⟩ := h0
    rcases open_ints Try.underlying22 Try.underlying3 (by kernel_rfl) hf with ⟨hcs, _⟩ | ⟨x, l, c, zs, hcs, _, hl, hm, hz, _, hcell, hwz⟩
    · simp [Value.cells] at hcs
      obtain ⟨rfl, rfl, rfl⟩ := hcs
      exact ⟨[], .inl ⟨rfl, rfl, rfl, rfl⟩⟩
    · simp [Value.cells] at hcs
      obtain ⟨rfl, rfl, rfl⟩ := hcs
      exact ⟨zs, .inr ⟨_, rfl, hl, hm, by simpa using hz, hcell, hwz⟩⟩
  clear hA0 hval0
  refine (walk a0 len0 cap0 z0 W w0).mono fun e W' ⟨he, bel⟩ => ?_
  subst he
  exact ⟨_, rfl, _, _, _, [], _, [], hW', trodAll_mk1 (shut_bool Try.underlying4 _), (trodAll_cons_mk (Below.trod laidOut (by kernel_rfl) (of_decide_eq_true (by kernel_rfl)) k0 bel lt0) trodAll_mk0), rfl, bel.frame _, fun h => by cases h⟩

theorem over : Rows.fnExactCountGracefulRow.holds Try.pinned (OpenSpec.ofChange Rows.fnExactCountGracefulSpec) :=
  OpenClaim.holds_of_wide 3 Try.f3 rfl rfl rfl rfl rfl rfl rfl ⟨rfl, rfl, rfl, rfl, rfl⟩ rfl rfl rfl rfl rfl (by kernel_rfl) Try.func3 (by kernel_rfl)
    (of_decide_eq_true (by kernel_rfl)) (by unfold Func.isWrapper; first | (rw [if_pos (by decide +kernel)]; kernel_rfl) | (rw [if_neg (by decide +kernel)]; exact ⟨rfl, rfl⟩))
    (fun os started H enc _ => lifted os started H enc)

/-- ████ THE STATEMENT ████ -/
theorem proved : Rows.FnExactCountGracefulSaid := over
#print axioms proved
end Go.Proofs.Ytaodmegnbkimeaa.fnExactCountGraceful
namespace Go.Proofs.Ytaodmegnbkimeaa
/-- The row, under a short name, for the claim. -/
theorem fnExactCountGraceful_holds : Rows.FnExactCountGracefulSaid := fnExactCountGraceful.proved
end Go.Proofs.Ytaodmegnbkimeaa
