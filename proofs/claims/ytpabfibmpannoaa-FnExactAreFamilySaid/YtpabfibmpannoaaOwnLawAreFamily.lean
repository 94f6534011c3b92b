/- For every argument that can be read, the law FnExactAreFamily answers true: the program's AreFamily returns what the reference's returns; no condition. -/
import Derived.Test.YtpabfibmpannoaaRows
import Derived.WalkKit
import Derived.ProofKit
import Derived.OpenShut
import Derived.ShutString
import Derived.ChangeOld
import Derived.Below
import Derived.Test.YtpabfibmpannoaaOwnLawKit
import Derived.Test.YtpabfibmpannoaaOwnLive
import Derived.Test.YtpabfibmpannoaaOwnFrameS
import Derived.Test.YtpabfibmpannoaaOwnCircE
import Derived.Test.YtpabfibmpannoaaOwnFamB
namespace Go.Proofs.Ytpabfibmpannoaa.Own.G
open Go.RowKit Go.Proofs.YtpabfibmpannoaaW.PrintWords Go.Proofs.YtpabfibmpannoaaW.PrintLast Go.Proofs.YtpabfibmpannoaaW.PrintMore
set_option linter.unusedVariables false
set_option maxHeartbeats 6400000 in
theorem law_AreFamily (a0 : Int) (A1 : Option Addr) (c1 : Nat) (l1 : List (List Int)) (w : World) (ha0 : W64 a0) (hr1 : RdS w A1 l1) (hc1 : l1.length ≤ c1) (hL1 : Long l1) (hw1 : ∀ x ∈ l1, ∀ y ∈ x, W64 y) :
    Calls Try.prog 3 #[.int .i64 a0, .slice A1 l1.length c1] w fun e w' => e = .returned (.bool true) ∧ Below w.heap.size w w' := by
  have HR1 := Aside0.mk hr1
  have HC1 := Aside0.mk hc1
  have HW1 := Aside0.mk hw1
  clear hr1 hc1 hw1
  have HA0 := Aside0.mk ha0
  clear ha0
  have HB := Aside0.mk (Below.refl w.heap.size w)
  by_cases hn1 : sized l1 ≤ 1048576
  rotate_left
  · go_enter Try.func3, Try.ntmps3
    go_wp2_with (go_at_call 9; refine (szIntSS_calls _ _ l1 _ HR1.out HC1.out hL1).mono ?_; rintro e w' ⟨⟨s, rfl, hs⟩, ⟨nd, rfl⟩⟩; have hs2 : s < 0 := hs.mpr hn1; clear hs)
    (go_wp2; repeat (go_quiet (fail); try go_wp2))
    go_ret
    exact ⟨rfl, (by repeat (first | (with_reducible first | exact HB.out | apply below_alloc | apply pw_below_drewN | apply below_drew1) | exact HB.out))⟩
  have HN1 := Aside0.mk (sized_fit hn1)
  go_enter Try.func3, Try.ntmps3
  go_wp2_with fail
  refine (szIntSS_calls _ _ l1 _ HR1.out HC1.out hL1).mono ?_
  rintro e w' ⟨⟨s, rfl, hs⟩, ⟨nd, rfl⟩⟩
  have hs2 : ¬ s < 0 := fun h => hs.mp h hn1
  clear hs
  go_wp2_with fail
  refine (toIntSS_calls _ _ l1 _ ?h1 HC1.out HN1.out).mono ?_
  case h1 => exact Kd.C_below HR1.out (by repeat (first | (with_reducible first | exact HB.out | apply below_alloc | apply pw_below_drewN | apply below_drew1) | exact HB.out))
  rintro e w1 ⟨v01, rfl, ho, hb⟩
  obtain ⟨ok01, n0_, n2_⟩ := LivS_new ho (below_size (by repeat (first | (with_reducible first | exact HB.out | apply below_alloc | apply pw_below_drewN | apply below_drew1) | exact HB.out)))
  have HO01 := Aside0.mk n0_
  have n1_ := Aside0.mk (below_step (by repeat (first | (with_reducible first | exact HB.out | apply below_alloc | apply pw_below_drewN | apply below_drew1) | exact HB.out)) hb)
  clear HB ho hb n0_ n2_
  have HB := n1_
  clear n1_
  obtain ⟨B01, d01, e_⟩ := LivS_form HO01.out
  subst e_
  go_wp2_with fail
  refine (specAreFamily_calls a0 _ _ l1 _ HA0.out ?h2a1 (LivS_cap HO01.out) HN1.out HW1.out).mono ?_
  case h2a1 => exact LivS_rd (by first | exact HO01.out | exact LivS_drewN HO01.out _)
  rintro e w2 ⟨rfl, hb⟩
  have m01_ := Aside0.mk (LivS_below (by first | exact HO01.out | exact LivS_drewN HO01.out _) hb)
  have n1_ := Aside0.mk (below_step (by repeat (first | (with_reducible first | exact HB.out | apply below_alloc | apply pw_below_drewN | apply below_drew1) | exact HB.out)) hb)
  clear HB hb
  clear HO01
  have HO01 := m01_
  clear m01_
  have HB := n1_
  clear n1_
  go_wp2_with fail
  refine (toIntSS_calls _ _ l1 _ ?h3 HC1.out HN1.out).mono ?_
  case h3 => exact Kd.C_below HR1.out (by repeat (first | (with_reducible first | exact HB.out | apply below_alloc | apply pw_below_drewN | apply below_drew1) | exact HB.out))
  rintro e w3 ⟨v02, rfl, ho, hb⟩
  have m01_ := Aside0.mk (LivS_below (by first | exact HO01.out | exact LivS_drewN HO01.out _) hb)
  obtain ⟨ok02, n0_, n2_⟩ := LivS_new ho (below_size (by repeat (first | (with_reducible first | exact HB.out | apply below_alloc | apply pw_below_drewN | apply below_drew1) | exact HB.out)))
  have HS01_02 := Aside0.mk (Sep_new (LivS_lt (by first | exact HO01.out | exact LivS_drewN HO01.out _)) n2_)
  have HO02 := Aside0.mk n0_
  have n1_ := Aside0.mk (below_step (by repeat (first | (with_reducible first | exact HB.out | apply below_alloc | apply pw_below_drewN | apply below_drew1) | exact HB.out)) hb)
  clear HB ho hb n0_ n2_
  clear HO01
  have HO01 := m01_
  clear m01_
  have HB := n1_
  clear n1_
  obtain ⟨B02, d02, e_⟩ := LivS_form HO02.out
  subst e_
  go_wp2_with fail
  refine (implAreFamily_calls a0 _ _ l1 _ HA0.out ?h4a1 (LivS_cap HO02.out) HN1.out HW1.out).mono ?_
  case h4a1 => exact LivS_rd (by first | exact HO02.out | exact LivS_drewN HO02.out _)
  rintro e w4 ⟨rfl, hb⟩
  have m01_ := Aside0.mk (LivS_below (by first | exact HO01.out | exact LivS_drewN HO01.out _) hb)
  have m02_ := Aside0.mk (LivS_below (by first | exact HO02.out | exact LivS_drewN HO02.out _) hb)
  have n1_ := Aside0.mk (below_step (by repeat (first | (with_reducible first | exact HB.out | apply below_alloc | apply pw_below_drewN | apply below_drew1) | exact HB.out)) hb)
  clear HB hb
  clear HO01 HO02
  have HO01 := m01_
  clear m01_
  have HO02 := m02_
  clear m02_
  have HB := n1_
  clear n1_
  go_wp2_with fail
  refine (toIntSS_calls _ _ l1 _ ?h5 HC1.out HN1.out).mono ?_
  case h5 => exact Kd.C_below HR1.out (by repeat (first | (with_reducible first | exact HB.out | apply below_alloc | apply pw_below_drewN | apply below_drew1) | exact HB.out))
  rintro e w5 ⟨v03, rfl, ho, hb⟩
  have m01_ := Aside0.mk (LivS_below (by first | exact HO01.out | exact LivS_drewN HO01.out _) hb)
  have m02_ := Aside0.mk (LivS_below (by first | exact HO02.out | exact LivS_drewN HO02.out _) hb)
  obtain ⟨ok03, n0_, n2_⟩ := LivS_new ho (below_size (by repeat (first | (with_reducible first | exact HB.out | apply below_alloc | apply pw_below_drewN | apply below_drew1) | exact HB.out)))
  have HS01_03 := Aside0.mk (Sep_new (LivS_lt (by first | exact HO01.out | exact LivS_drewN HO01.out _)) n2_)
  have HS02_03 := Aside0.mk (Sep_new (LivS_lt (by first | exact HO02.out | exact LivS_drewN HO02.out _)) n2_)
  have HO03 := Aside0.mk n0_
  have n1_ := Aside0.mk (below_step (by repeat (first | (with_reducible first | exact HB.out | apply below_alloc | apply pw_below_drewN | apply below_drew1) | exact HB.out)) hb)
  clear HB ho hb n0_ n2_
  clear HO01 HO02
  have HO01 := m01_
  clear m01_
  have HO02 := m02_
  clear m02_
  have HB := n1_
  clear n1_
  obtain ⟨B03, d03, e_⟩ := LivS_form HO03.out
  subst e_
  go_wp2_with fail
  refine (eqIntSS_calls _ _ _ _ (l1) _ ?h6a (LivS_cap HO02.out) ?h6b (LivS_cap HO03.out) HN1.out).mono ?_
  case h6a => exact LivS_rd (by first | exact HO02.out | exact LivS_drewN HO02.out _)
  case h6b => exact LivS_rd (by first | exact HO03.out | exact LivS_drewN HO03.out _)
  rintro e w6 ⟨rfl, hd⟩
  have m01_ := Aside0.mk (LivS_drawn (by first | exact HO01.out | exact LivS_drewN HO01.out _) hd)
  have m02_ := Aside0.mk (LivS_drawn (by first | exact HO02.out | exact LivS_drewN HO02.out _) hd)
  have m03_ := Aside0.mk (LivS_drawn (by first | exact HO03.out | exact LivS_drewN HO03.out _) hd)
  have n1_ := Aside0.mk (below_drawn (by repeat (first | (with_reducible first | exact HB.out | apply below_alloc | apply pw_below_drewN | apply below_drew1) | exact HB.out)) hd)
  clear HB hd
  clear HO01 HO02 HO03
  have HO01 := m01_
  clear m01_
  have HO02 := m02_
  clear m02_
  have HO03 := m03_
  clear m03_
  have HB := n1_
  clear n1_
  (go_wp2; repeat (go_quiet (fail); try go_wp2))
  go_ret
  exact ⟨rfl, (by repeat (first | (with_reducible first | exact HB.out | apply below_alloc | apply pw_below_drewN | apply below_drew1) | exact HB.out))⟩
end Go.Proofs.Ytpabfibmpannoaa.Own.G
namespace Go.Proofs.Ytpabfibmpannoaa.fnExactAreFamily
open Go.ChangeShapes Go.WideShapes Go.ChangeAt Go.RowKit
open Go.ChangeMaps (open_string shut_string)
open Go.Deep
set_option linter.unusedVariables false
theorem own : ownKnob Try.prog.godebug = none := by kernel_rfl
theorem laidOut : laidOutB Try.prog = true := by kernel_rfl
set_option maxRecDepth 100000 in
theorem lifted (os : Os) (started : os.Started) (H : Type) (enc : TypeId × Value → H) :
    ReturnsInHanded {} Try.checked os 3 .any (Rows.fnExactAreFamilySpec.pre6 enc Try.prog Try.f3 Rows.fnExactAreFamilyRow.domain false) (Rows.fnExactAreFamilySpec.post enc Try.prog Try.f3 false true false false) := by
  refine returnsInHanded_of_change (C := Try.checked) own started (by kernel_rfl) Try.func3
    (ChangeSpec.witness6 (enc := enc) (C := Try.checked) false ⟨#[], #[.int .i64 0, .slice none 0 0], []⟩ 8 (by kernel_rfl) (by kernel_rfl) (by kernel_rfl) (by kernel_rfl)) ?_
  intro W base args ds gs before hval0 hW hcnd _
  have hval : ∀ (j : Nat) t v, Try.f3.params[j]? = some t → args[j]? = some v → Value.okWide Try.prog W .any base t v := hval0
  have hW' := hW
  obtain ⟨p, q, hA0, hV, rfl, hfz, hnd⟩ := hW
  have hA : DataW.TrodAll enc Try.prog W 0 (fun _ => true) true Try.f3.params.toList args.toList ds p := hA0
  rw [Try.params3] at hA hval
  obtain ⟨v0, vs0, d0, ds0, p0, q0, hargs, rfl, rfl, h0, r0⟩ := trodAll_cons hA
  obtain ⟨v1, vs1, d1, ds1, p1, q1, rfl, rfl, rfl, h1, r1⟩ := trodAll_cons r0
  obtain ⟨rfl, rfl, rfl⟩ := trodAll_nil r1
  obtain rfl : args = #[v0, v1] := by cases args; simp_all
  obtain ⟨rfl, rfl⟩ := trodVars_none hV
  obtain ⟨a0, rfl, rfl, rfl, w0⟩ := open_int Try.underlying3 (hval 0 3 v0 rfl rfl) h0
  obtain ⟨a1, len1, cap1, rfl⟩ := okWide_slice Try.underlying22 (hval 1 22 v1 rfl rfl)
  have k1 := h1
  have lt1 : ∀ x ∈ p1, x.block < W.heap.size := by obtain ⟨m, hm⟩ := k1; exact DataW.trod_lt m _ _ _ hm
  obtain ⟨l1, rfl, hr1, hL1, hw1, hc1⟩ : ∃ l : List (List Int), len1 = l.length ∧ Own.G.RdS W a1 l ∧ Own.G.Long l ∧ (∀ x ∈ l, ∀ y ∈ x, (Lit.int .i64 y).wf = true) ∧ l.length ≤ cap1 := by
    obtain ⟨fuel, hf⟩ := h1
    rcases open_int_rows Try.underlying22 Try.underlying29 Try.underlying3 (by kernel_rfl) (by kernel_rfl) hf with ⟨hcs, _⟩ | ⟨a, len, cap, AA, L, C, Z, hcs, _, hl, hm, _, hrows⟩
    · simp [Value.cells] at hcs
      obtain ⟨rfl, rfl, rfl⟩ := hcs
      exact ⟨[], rfl, Go.Proofs.YtpabfibmpannoaaW.PrintWords.Kd.C_nil _ _, ⟨by simp, by simp⟩, by simp, by simp⟩
    · simp [Value.cells] at hcs
      obtain ⟨rfl, rfl, rfl⟩ := hcs
      obtain ⟨l, he, h1, h2, h3⟩ := Own.G.rows_of hl hm hrows
      exact ⟨l, he, h1, h2, h3, by omega⟩
  clear hA0 hval0
  refine (Own.G.law_AreFamily a0 _ _ l1 W (bounds_i64 w0) hr1 hc1 hL1 (fun x hx y hy => bounds_i64 (hw1 x hx y hy))).mono fun e W' ⟨he, bel⟩ => ?_
  subst he
  exact ⟨_, rfl, _, _, _, [], _, [], hW', trodAll_mk1 (shut_bool Try.underlying4 _), (trodAll_cons_mk (shut_int Try.underlying3 w0) (trodAll_cons_mk (Below.trod laidOut (by kernel_rfl) (of_decide_eq_true (by kernel_rfl)) k1 bel lt1) trodAll_mk0)), rfl, bel.frame _, fun h => by cases h⟩
theorem over : Rows.fnExactAreFamilyRow.holds Try.pinned (OpenSpec.ofChange Rows.fnExactAreFamilySpec) :=
  OpenClaim.holds_of_wide 3 Try.f3 rfl rfl rfl rfl rfl rfl rfl ⟨rfl, rfl, rfl, rfl, rfl⟩ rfl rfl rfl rfl rfl (by kernel_rfl) Try.func3 (by kernel_rfl)
    (of_decide_eq_true (by kernel_rfl)) (by unfold Func.isWrapper; first | (rw [if_pos (by decide +kernel)]; kernel_rfl) | (rw [if_neg (by decide +kernel)]; exact ⟨rfl, rfl⟩))
    (fun os started H enc _ => lifted os started H enc)
theorem proved : Rows.FnExactAreFamilySaid := over
#print axioms proved
end Go.Proofs.Ytpabfibmpannoaa.fnExactAreFamily
namespace Go.Proofs.Ytpabfibmpannoaa
/-- The row, under a short name, for the claim. -/
theorem fnExactAreFamily_holds : Rows.FnExactAreFamilySaid := fnExactAreFamily.proved
end Go.Proofs.Ytpabfibmpannoaa
