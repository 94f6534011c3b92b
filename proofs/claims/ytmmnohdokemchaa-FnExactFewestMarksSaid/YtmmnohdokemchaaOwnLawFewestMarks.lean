/- For every argument that can be read, the law FnExactFewestMarks answers true: the program's FewestMarks returns what the reference's returns; no condition. -/
import Derived.Test.YtmmnohdokemchaaRows
import Derived.WalkKit
import Derived.ProofKit
import Derived.OpenShut
import Derived.ShutString
import Derived.ChangeOld
import Derived.Below
import Derived.Test.YtmmnohdokemchaaOwnLawKit
import Derived.Test.YtmmnohdokemchaaOwnLive
import Derived.Test.YtmmnohdokemchaaOwnRuG
namespace Go.Proofs.Ytmmnohdokemchaa.Own.G
open Go.RowKit Go.Proofs.YtmmnohdokemchaaW.PrintWords Go.Proofs.YtmmnohdokemchaaW.PrintLast Go.Proofs.YtmmnohdokemchaaW.PrintMore
set_option linter.unusedVariables false
set_option maxHeartbeats 6400000 in
theorem law_FewestMarks (a0 : Int) (w : World) (ha0 : W64 a0) :
    Calls Try.prog 6 #[.int .i64 a0] w fun e w' => e = .returned (.bool true) ∧ Below w.heap.size w w' := by
  have HA0 := Aside0.mk ha0
  clear ha0
  have HB := Aside0.mk (Below.refl w.heap.size w)
  have HF := Aside0.mk (FewF_len a0 )
  go_enter Try.func6, Try.ntmps6
  go_wp2_with fail
  refine (specFirstW_calls a0 _ HA0.out).mono ?_
  rintro e w1 ⟨v01, rfl, ho, hb⟩
  obtain ⟨ok01, n0_, n2_⟩ := Liv_new ho (below_size (by repeat (first | (with_reducible first | exact HB.out | apply below_alloc | apply pw_below_drewN | apply below_drew1) | exact HB.out)))
  have HO01 := Aside0.mk n0_
  have n1_ := Aside0.mk (below_step (by repeat (first | (with_reducible first | exact HB.out | apply below_alloc | apply pw_below_drewN | apply below_drew1) | exact HB.out)) hb)
  clear HB ho hb n0_ n2_
  have HB := n1_
  clear n1_
  obtain ⟨B01, d01, e_⟩ := Liv_form HO01.out
  subst e_
  go_wp2_with fail
  refine (implFirstW_calls a0 _ HA0.out).mono ?_
  rintro e w2 ⟨v02, rfl, ho, hb⟩
  have m01_ := Aside0.mk (Liv_below (by first | exact HO01.out | exact Liv_drewN HO01.out _) hb)
  obtain ⟨ok02, n0_, n2_⟩ := Liv_new ho (below_size (by repeat (first | (with_reducible first | exact HB.out | apply below_alloc | apply pw_below_drewN | apply below_drew1) | exact HB.out)))
  have HS01_02 := Aside0.mk (Sep_new (Liv_lt (by first | exact HO01.out | exact Liv_drewN HO01.out _)) n2_)
  have HO02 := Aside0.mk n0_
  have n1_ := Aside0.mk (below_step (by repeat (first | (with_reducible first | exact HB.out | apply below_alloc | apply pw_below_drewN | apply below_drew1) | exact HB.out)) hb)
  clear HB ho hb n0_ n2_
  clear HO01
  have HO01 := m01_
  clear m01_
  have HB := n1_
  clear n1_
  obtain ⟨B02, d02, e_⟩ := Liv_form HO02.out
  subst e_
  go_wp2_with fail
  refine (eqIntS_calls _ _ _ _ ((FewF a0).1) _ ?h3a (Liv_cap HO02.out) ?h3b (Liv_cap HO01.out) HF.out).mono ?_
  case h3a => exact Liv_rd (by first | exact HO02.out | exact Liv_drewN HO02.out _)
  case h3b => exact Liv_rd (by first | exact HO01.out | exact Liv_drewN HO01.out _)
  rintro e w3 ⟨rfl, hd⟩
  have m01_ := Aside0.mk (Liv_drawn (by first | exact HO01.out | exact Liv_drewN HO01.out _) hd)
  have m02_ := Aside0.mk (Liv_drawn (by first | exact HO02.out | exact Liv_drewN HO02.out _) hd)
  have n1_ := Aside0.mk (below_drawn (by repeat (first | (with_reducible first | exact HB.out | apply below_alloc | apply pw_below_drewN | apply below_drew1) | exact HB.out)) hd)
  clear HB hd
  clear HO01 HO02
  have HO01 := m01_
  clear m01_
  have HO02 := m02_
  clear m02_
  have HB := n1_
  clear n1_
  go_wp2_with fail
  refine (markIntS_calls _ ((FewF a0).1) _ w.heap.size _ ?h4 HF.out (by omega) (by have := HB; omega)).mono ?_
  case h4 => exact Liv_ow (by first | exact HO02.out | exact Liv_drewN HO02.out _)
  rintro e w4 ⟨rfl, ho, hg⟩
  have c_ := Liv_marked (by first | exact HO02.out | exact Liv_drewN HO02.out _) ho hg
  have n1_ := Aside0.mk (below_grown (by repeat (first | (with_reducible first | exact HB.out | apply below_alloc | apply pw_below_drewN | apply below_drew1) | exact HB.out)) hg (Liv_ow (by first | exact HO02.out | exact Liv_drewN HO02.out _)))
  have m01_ := Aside0.mk (Liv_changed (by first | exact HO01.out | exact Liv_drewN HO01.out _) c_.2 HS01_02.out)
  have q_ := Aside0.mk c_.1
  clear HB ho c_ hg
  clear HO01 HO02
  have HO01 := m01_
  clear m01_
  have HO02 := q_
  have HB := n1_
  clear q_ n1_
  go_wp2_with fail
  refine (heldIntS_calls _ _ ((FewF a0).1).length _ ?h5 ?h5c HF.out).mono ?_
  case h5 => exact Liv_rd (by first | exact HO02.out | exact Liv_drewN HO02.out _)
  case h5c => have hcap_ := Liv_cap HO02.out; rwa [marks_length] at hcap_
  rintro e w5 ⟨rfl, hd⟩
  have m01_ := Aside0.mk (Liv_drawn (by first | exact HO01.out | exact Liv_drewN HO01.out _) hd)
  have m02_ := Aside0.mk (Liv_drawn (by first | exact HO02.out | exact Liv_drewN HO02.out _) hd)
  have n1_ := Aside0.mk (below_drawn (by repeat (first | (with_reducible first | exact HB.out | apply below_alloc | apply pw_below_drewN | apply below_drew1) | exact HB.out)) hd)
  clear HB hd
  clear HO01 HO02
  have HO01 := m01_
  clear m01_
  have HO02 := m02_
  clear m02_
  have HB := n1_
  clear n1_
  go_wp2_with fail
  refine (implFirstW_calls a0 _ HA0.out).mono ?_
  rintro e w6 ⟨v03, rfl, ho, hb⟩
  have m01_ := Aside0.mk (Liv_below (by first | exact HO01.out | exact Liv_drewN HO01.out _) hb)
  have m02_ := Aside0.mk (Liv_below (by first | exact HO02.out | exact Liv_drewN HO02.out _) hb)
  obtain ⟨ok03, n0_, n2_⟩ := Liv_new ho (below_size (by repeat (first | (with_reducible first | exact HB.out | apply below_alloc | apply pw_below_drewN | apply below_drew1) | exact HB.out)))
  have HS01_03 := Aside0.mk (Sep_new (Liv_lt (by first | exact HO01.out | exact Liv_drewN HO01.out _)) n2_)
  have HS02_03 := Aside0.mk (Sep_new (Liv_lt (by first | exact HO02.out | exact Liv_drewN HO02.out _)) n2_)
  have HO03 := Aside0.mk n0_
  have n1_ := Aside0.mk (below_step (by repeat (first | (with_reducible first | exact HB.out | apply below_alloc | apply pw_below_drewN | apply below_drew1) | exact HB.out)) hb)
  clear HB ho hb n0_ n2_
  clear HO01 HO02
  have HO01 := m01_
  clear m01_
  have HO02 := m02_
  clear m02_
  have HB := n1_
  clear n1_
  obtain ⟨B03, d03, e_⟩ := Liv_form HO03.out
  subst e_
  go_wp2_with fail
  refine (eqIntS_calls _ _ _ _ ((FewF a0).1) _ ?h7a (Liv_cap HO03.out) ?h7b (Liv_cap HO01.out) HF.out).mono ?_
  case h7a => exact Liv_rd (by first | exact HO03.out | exact Liv_drewN HO03.out _)
  case h7b => exact Liv_rd (by first | exact HO01.out | exact Liv_drewN HO01.out _)
  rintro e w7 ⟨rfl, hd⟩
  have m01_ := Aside0.mk (Liv_drawn (by first | exact HO01.out | exact Liv_drewN HO01.out _) hd)
  have m02_ := Aside0.mk (Liv_drawn (by first | exact HO02.out | exact Liv_drewN HO02.out _) hd)
  have m03_ := Aside0.mk (Liv_drawn (by first | exact HO03.out | exact Liv_drewN HO03.out _) hd)
  have n1_ := Aside0.mk (below_drawn (by repeat (first | (with_reducible first | exact HB.out | apply below_alloc | apply pw_below_drewN | apply below_drew1) | exact HB.out)) hd)
  clear HB hd
  clear HO01 HO02 HO03
  have HO01 := m01_
  clear m01_
  have HO02 := m02_
  clear m02_
  have HO03 := m03_
  clear m03_
  have HB := n1_
  clear n1_
  go_wp2_with fail
  refine (heldIntS_calls _ _ ((FewF a0).1).length _ ?h8 ?h8c HF.out).mono ?_
  case h8 => exact Liv_rd (by first | exact HO02.out | exact Liv_drewN HO02.out _)
  case h8c => have hcap_ := Liv_cap HO02.out; rwa [marks_length] at hcap_
  rintro e w8 ⟨rfl, hd⟩
  have m01_ := Aside0.mk (Liv_drawn (by first | exact HO01.out | exact Liv_drewN HO01.out _) hd)
  have m02_ := Aside0.mk (Liv_drawn (by first | exact HO02.out | exact Liv_drewN HO02.out _) hd)
  have m03_ := Aside0.mk (Liv_drawn (by first | exact HO03.out | exact Liv_drewN HO03.out _) hd)
  have n1_ := Aside0.mk (below_drawn (by repeat (first | (with_reducible first | exact HB.out | apply below_alloc | apply pw_below_drewN | apply below_drew1) | exact HB.out)) hd)
  clear HB hd
  clear HO01 HO02 HO03
  have HO01 := m01_
  clear m01_
  have HO02 := m02_
  clear m02_
  have HO03 := m03_
  clear m03_
  have HB := n1_
  clear n1_
  (go_wp2; repeat (go_quiet (fail); try go_wp2))
  go_ret
  exact ⟨rfl, (by repeat (first | (with_reducible first | exact HB.out | apply below_alloc | apply pw_below_drewN | apply below_drew1) | exact HB.out))⟩
end Go.Proofs.Ytmmnohdokemchaa.Own.G
namespace Go.Proofs.Ytmmnohdokemchaa.fnExactFewestMarks
open Go.ChangeShapes Go.WideShapes Go.ChangeAt Go.RowKit
open Go.ChangeMaps (open_string shut_string)
open Go.Deep
set_option linter.unusedVariables false
theorem own : ownKnob Try.prog.godebug = none := by kernel_rfl
theorem laidOut : laidOutB Try.prog = true := by kernel_rfl
set_option maxRecDepth 100000 in
theorem lifted (os : Os) (started : os.Started) (H : Type) (enc : TypeId × Value → H) :
    ReturnsInHanded {} Try.checked os 6 .any (Rows.fnExactFewestMarksSpec.pre6 enc Try.prog Try.f6 Rows.fnExactFewestMarksRow.domain false) (Rows.fnExactFewestMarksSpec.post enc Try.prog Try.f6 false true false false) := by
  refine returnsInHanded_of_change (C := Try.checked) own started (by kernel_rfl) Try.func6
    (ChangeSpec.witness6 (enc := enc) (C := Try.checked) false ⟨#[], #[.int .i64 0], []⟩ 8 (by kernel_rfl) (by kernel_rfl) (by kernel_rfl) (by kernel_rfl)) ?_
  intro W base args ds gs before hval0 hW hcnd _
  have hval : ∀ (j : Nat) t v, Try.f6.params[j]? = some t → args[j]? = some v → Value.okWide Try.prog W .any base t v := hval0
  have hW' := hW
  obtain ⟨p, q, hA0, hV, rfl, hfz, hnd⟩ := hW
  have hA : DataW.TrodAll enc Try.prog W 0 (fun _ => true) true Try.f6.params.toList args.toList ds p := hA0
  rw [Try.params6] at hA hval
  obtain ⟨v0, vs0, d0, ds0, p0, q0, hargs, rfl, rfl, h0, r0⟩ := trodAll_cons hA
  obtain ⟨rfl, rfl, rfl⟩ := trodAll_nil r0
  obtain rfl : args = #[v0] := by cases args; simp_all
  obtain ⟨rfl, rfl⟩ := trodVars_none hV
  obtain ⟨a0, rfl, rfl, rfl, w0⟩ := open_int Try.underlying3 (hval 0 3 v0 rfl rfl) h0
  clear hA0 hval0
  refine (Own.G.law_FewestMarks a0 W (bounds_i64 w0)).mono fun e W' ⟨he, bel⟩ => ?_
  subst he
  exact ⟨_, rfl, _, _, _, [], _, [], hW', trodAll_mk1 (shut_bool Try.underlying4 _), (trodAll_cons_mk (shut_int Try.underlying3 w0) trodAll_mk0), rfl, bel.frame _, fun h => by cases h⟩
theorem over : Rows.fnExactFewestMarksRow.holds Try.pinned (OpenSpec.ofChange Rows.fnExactFewestMarksSpec) :=
  OpenClaim.holds_of_wide 6 Try.f6 rfl rfl rfl rfl rfl rfl rfl ⟨rfl, rfl, rfl, rfl, rfl⟩ rfl rfl rfl rfl rfl (by kernel_rfl) Try.func6 (by kernel_rfl)
    (of_decide_eq_true (by kernel_rfl)) (by unfold Func.isWrapper; first | (rw [if_pos (by decide +kernel)]; kernel_rfl) | (rw [if_neg (by decide +kernel)]; exact ⟨rfl, rfl⟩))
    (fun os started H enc _ => lifted os started H enc)
theorem proved : Rows.FnExactFewestMarksSaid := over
#print axioms proved
end Go.Proofs.Ytmmnohdokemchaa.fnExactFewestMarks
namespace Go.Proofs.Ytmmnohdokemchaa
/-- The row, under a short name, for the claim. -/
theorem fnExactFewestMarks_holds : Rows.FnExactFewestMarksSaid := fnExactFewestMarks.proved
end Go.Proofs.Ytmmnohdokemchaa
