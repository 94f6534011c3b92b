/- For every argument that can be read, the law FnExactFamilyOfTriples answers true: the program's FamilyOfTriples returns what the reference's returns; no condition. -/
import Derived.Test.YtpabfibmpannoaaRows
import Derived.WalkKit
import Derived.ProofKit
import Derived.OpenShut
import Derived.ShutString
import Derived.ChangeOld
import Derived.Below
import Derived.Test.YtpabfibmpannoaaOwnLawKit
import Derived.Test.YtpabfibmpannoaaOwnLive
import Derived.Test.YtpabfibmpannoaaOwnFrameS
import Derived.Test.YtpabfibmpannoaaOwnTrF
namespace Go.Proofs.Ytpabfibmpannoaa.Own.G
open Go.RowKit Go.Proofs.YtpabfibmpannoaaW.PrintWords Go.Proofs.YtpabfibmpannoaaW.PrintLast Go.Proofs.YtpabfibmpannoaaW.PrintMore
set_option linter.unusedVariables false
set_option maxHeartbeats 6400000 in
theorem law_FamilyOfTriples (a0 : Int) (A1 : Option Addr) (c1 : Nat) (l1 : List (List Int)) (w : World) (ha0 : W64 a0) (hr1 : RdS w A1 l1) (hc1 : l1.length ≤ c1) (hL1 : Long l1) (hw1 : ∀ x ∈ l1, ∀ y ∈ x, W64 y) :
    Calls Try.prog 6 #[.int .i64 a0, .slice A1 l1.length c1] w fun e w' => e = .returned (.bool true) ∧ Below w.heap.size w w' := by
  have HR1 := Aside0.mk hr1
  have HC1 := Aside0.mk hc1
  have HW1 := Aside0.mk hw1
  clear hr1 hc1 hw1
  have HA0 := Aside0.mk ha0
  clear ha0
  have HB := Aside0.mk (Below.refl w.heap.size w)
  by_cases hn1 : sized l1 ≤ 1048576
  rotate_left
  · go_enter Try.func6, Try.ntmps6
    go_wp2_with (go_at_call 9; refine (szIntSS_calls _ _ l1 _ HR1.out HC1.out hL1).mono ?_; rintro e w' ⟨⟨s, rfl, hs⟩, ⟨nd, rfl⟩⟩; have hs2 : s < 0 := hs.mpr hn1; clear hs)
    (go_wp2; repeat (go_quiet (fail); try go_wp2))
    go_ret
    exact ⟨rfl, (by repeat (first | (with_reducible first | exact HB.out | apply below_alloc | apply pw_below_drewN | apply below_drew1) | exact HB.out))⟩
  have HN1 := Aside0.mk (sized_fit hn1)
  have HF := Aside0.mk (FamTF_fit a0 l1 HN1.out)
  go_enter Try.func6, Try.ntmps6
  go_wp2_with fail
  refine (szIntSS_calls _ _ l1 _ HR1.out HC1.out hL1).mono ?_
  rintro e w' ⟨⟨s, rfl, hs⟩, ⟨nd, rfl⟩⟩
  have hs2 : ¬ s < 0 := fun h => hs.mp h hn1
  clear hs
  go_wp2_with fail
  refine (toIntSS_calls _ _ l1 _ ?h1 HC1.out HN1.out).mono ?_
  case h1 => exact Kd.C_below HR1.out (by repeat (first | (with_reducible first | exact HB.out | apply below_alloc | apply pw_below_drewN | apply below_drew1) | exact HB.out))
  rintro e w1 ⟨v01, rfl, ho, hb⟩
  obtain ⟨ok01, n0_, n2_⟩ := LivS_new ho (below_size (by repeat (first | (with_reducible first | exact HB.out | apply below_alloc | apply pw_below_drewN | apply below_drew1) | exact HB.out)))
  have HO01 := Aside0.mk n0_
  have n1_ := Aside0.mk (below_step (by repeat (first | (with_reducible first | exact HB.out | apply below_alloc | apply pw_below_drewN | apply below_drew1) | exact HB.out)) hb)
  clear HB ho hb n0_ n2_
  have HB := n1_
  clear n1_
  obtain ⟨B01, d01, e_⟩ := LivS_form HO01.out
  subst e_
  go_wp2_with fail
  refine (specFamT_calls a0 _ _ l1 _ HA0.out ?h2a1 (LivS_cap HO01.out) HN1.out HW1.out).mono ?_
  case h2a1 => exact LivS_rd (by first | exact HO01.out | exact LivS_drewN HO01.out _)
  rintro e w2 ⟨v02, rfl, ho, hb⟩
  have m01_ := Aside0.mk (LivS_below (by first | exact HO01.out | exact LivS_drewN HO01.out _) hb)
  obtain ⟨ok02, n0_, n2_⟩ := LivS_new ho (below_size (by repeat (first | (with_reducible first | exact HB.out | apply below_alloc | apply pw_below_drewN | apply below_drew1) | exact HB.out)))
  have HS01_02 := Aside0.mk (Sep_new (LivS_lt (by first | exact HO01.out | exact LivS_drewN HO01.out _)) n2_)
  have HO02 := Aside0.mk n0_
  have n1_ := Aside0.mk (below_step (by repeat (first | (with_reducible first | exact HB.out | apply below_alloc | apply pw_below_drewN | apply below_drew1) | exact HB.out)) hb)
  clear HB ho hb n0_ n2_
  clear HO01
  have HO01 := m01_
  clear m01_
  have HB := n1_
  clear n1_
  obtain ⟨B02, d02, e_⟩ := LivS_form HO02.out
  subst e_
  go_wp2_with fail
  refine (toIntSS_calls _ _ l1 _ ?h3 HC1.out HN1.out).mono ?_
  case h3 => exact Kd.C_below HR1.out (by repeat (first | (with_reducible first | exact HB.out | apply below_alloc | apply pw_below_drewN | apply below_drew1) | exact HB.out))
  rintro e w3 ⟨v03, rfl, ho, hb⟩
  have m01_ := Aside0.mk (LivS_below (by first | exact HO01.out | exact LivS_drewN HO01.out _) hb)
  have m02_ := Aside0.mk (LivS_below (by first | exact HO02.out | exact LivS_drewN HO02.out _) hb)
  obtain ⟨ok03, n0_, n2_⟩ := LivS_new ho (below_size (by repeat (first | (with_reducible first | exact HB.out | apply below_alloc | apply pw_below_drewN | apply below_drew1) | exact HB.out)))
  have HS01_03 := Aside0.mk (Sep_new (LivS_lt (by first | exact HO01.out | exact LivS_drewN HO01.out _)) n2_)
  have HS02_03 := Aside0.mk (Sep_new (LivS_lt (by first | exact HO02.out | exact LivS_drewN HO02.out _)) n2_)
  have HO03 := Aside0.mk n0_
  have n1_ := Aside0.mk (below_step (by repeat (first | (with_reducible first | exact HB.out | apply below_alloc | apply pw_below_drewN | apply below_drew1) | exact HB.out)) hb)
  clear HB ho hb n0_ n2_
  clear HO01 HO02
  have HO01 := m01_
  clear m01_
  have HO02 := m02_
  clear m02_
  have HB := n1_
  clear n1_
  obtain ⟨B03, d03, e_⟩ := LivS_form HO03.out
  subst e_
  go_wp2_with fail
  refine (implFamT_calls a0 _ _ l1 _ HA0.out ?h4a1 (LivS_cap HO03.out) HN1.out HW1.out).mono ?_
  case h4a1 => exact LivS_rd (by first | exact HO03.out | exact LivS_drewN HO03.out _)
  rintro e w4 ⟨v04, rfl, ho, hb⟩
  have m01_ := Aside0.mk (LivS_below (by first | exact HO01.out | exact LivS_drewN HO01.out _) hb)
  have m02_ := Aside0.mk (LivS_below (by first | exact HO02.out | exact LivS_drewN HO02.out _) hb)
  have m03_ := Aside0.mk (LivS_below (by first | exact HO03.out | exact LivS_drewN HO03.out _) hb)
  obtain ⟨ok04, n0_, n2_⟩ := LivS_new ho (below_size (by repeat (first | (with_reducible first | exact HB.out | apply below_alloc | apply pw_below_drewN | apply below_drew1) | exact HB.out)))
  have HS01_04 := Aside0.mk (Sep_new (LivS_lt (by first | exact HO01.out | exact LivS_drewN HO01.out _)) n2_)
  have HS02_04 := Aside0.mk (Sep_new (LivS_lt (by first | exact HO02.out | exact LivS_drewN HO02.out _)) n2_)
  have HS03_04 := Aside0.mk (Sep_new (LivS_lt (by first | exact HO03.out | exact LivS_drewN HO03.out _)) n2_)
  have HO04 := Aside0.mk n0_
  have n1_ := Aside0.mk (below_step (by repeat (first | (with_reducible first | exact HB.out | apply below_alloc | apply pw_below_drewN | apply below_drew1) | exact HB.out)) hb)
  clear HB ho hb n0_ n2_
  clear HO01 HO02 HO03
  have HO01 := m01_
  clear m01_
  have HO02 := m02_
  clear m02_
  have HO03 := m03_
  clear m03_
  have HB := n1_
  clear n1_
  obtain ⟨B04, d04, e_⟩ := LivS_form HO04.out
  subst e_
  go_wp2_with fail
  refine (eqIntSS_calls _ _ _ _ ((FamTF a0 l1).1) _ ?h5a (LivS_cap HO04.out) ?h5b (LivS_cap HO02.out) HF.out).mono ?_
  case h5a => exact LivS_rd (by first | exact HO04.out | exact LivS_drewN HO04.out _)
  case h5b => exact LivS_rd (by first | exact HO02.out | exact LivS_drewN HO02.out _)
  rintro e w5 ⟨rfl, hd⟩
  have m01_ := Aside0.mk (LivS_drawn (by first | exact HO01.out | exact LivS_drewN HO01.out _) hd)
  have m02_ := Aside0.mk (LivS_drawn (by first | exact HO02.out | exact LivS_drewN HO02.out _) hd)
  have m03_ := Aside0.mk (LivS_drawn (by first | exact HO03.out | exact LivS_drewN HO03.out _) hd)
  have m04_ := Aside0.mk (LivS_drawn (by first | exact HO04.out | exact LivS_drewN HO04.out _) hd)
  have n1_ := Aside0.mk (below_drawn (by repeat (first | (with_reducible first | exact HB.out | apply below_alloc | apply pw_below_drewN | apply below_drew1) | exact HB.out)) hd)
  clear HB hd
  clear HO01 HO02 HO03 HO04
  have HO01 := m01_
  clear m01_
  have HO02 := m02_
  clear m02_
  have HO03 := m03_
  clear m03_
  have HO04 := m04_
  clear m04_
  have HB := n1_
  clear n1_
  go_wp2_with fail
  refine (toIntSS_calls _ _ l1 _ ?h6 HC1.out HN1.out).mono ?_
  case h6 => exact Kd.C_below HR1.out (by repeat (first | (with_reducible first | exact HB.out | apply below_alloc | apply pw_below_drewN | apply below_drew1) | exact HB.out))
  rintro e w6 ⟨v05, rfl, ho, hb⟩
  have m01_ := Aside0.mk (LivS_below (by first | exact HO01.out | exact LivS_drewN HO01.out _) hb)
  have m02_ := Aside0.mk (LivS_below (by first | exact HO02.out | exact LivS_drewN HO02.out _) hb)
  have m03_ := Aside0.mk (LivS_below (by first | exact HO03.out | exact LivS_drewN HO03.out _) hb)
  have m04_ := Aside0.mk (LivS_below (by first | exact HO04.out | exact LivS_drewN HO04.out _) hb)
  obtain ⟨ok05, n0_, n2_⟩ := LivS_new ho (below_size (by repeat (first | (with_reducible first | exact HB.out | apply below_alloc | apply pw_below_drewN | apply below_drew1) | exact HB.out)))
  have HS01_05 := Aside0.mk (Sep_new (LivS_lt (by first | exact HO01.out | exact LivS_drewN HO01.out _)) n2_)
  have HS02_05 := Aside0.mk (Sep_new (LivS_lt (by first | exact HO02.out | exact LivS_drewN HO02.out _)) n2_)
  have HS03_05 := Aside0.mk (Sep_new (LivS_lt (by first | exact HO03.out | exact LivS_drewN HO03.out _)) n2_)
  have HS04_05 := Aside0.mk (Sep_new (LivS_lt (by first | exact HO04.out | exact LivS_drewN HO04.out _)) n2_)
  have HO05 := Aside0.mk n0_
  have n1_ := Aside0.mk (below_step (by repeat (first | (with_reducible first | exact HB.out | apply below_alloc | apply pw_below_drewN | apply below_drew1) | exact HB.out)) hb)
  clear HB ho hb n0_ n2_
  clear HO01 HO02 HO03 HO04
  have HO01 := m01_
  clear m01_
  have HO02 := m02_
  clear m02_
  have HO03 := m03_
  clear m03_
  have HO04 := m04_
  clear m04_
  have HB := n1_
  clear n1_
  obtain ⟨B05, d05, e_⟩ := LivS_form HO05.out
  subst e_
  go_wp2_with fail
  refine (eqIntSS_calls _ _ _ _ (l1) _ ?h7a (LivS_cap HO03.out) ?h7b (LivS_cap HO05.out) HN1.out).mono ?_
  case h7a => exact LivS_rd (by first | exact HO03.out | exact LivS_drewN HO03.out _)
  case h7b => exact LivS_rd (by first | exact HO05.out | exact LivS_drewN HO05.out _)
  rintro e w7 ⟨rfl, hd⟩
  have m01_ := Aside0.mk (LivS_drawn (by first | exact HO01.out | exact LivS_drewN HO01.out _) hd)
  have m02_ := Aside0.mk (LivS_drawn (by first | exact HO02.out | exact LivS_drewN HO02.out _) hd)
  have m03_ := Aside0.mk (LivS_drawn (by first | exact HO03.out | exact LivS_drewN HO03.out _) hd)
  have m04_ := Aside0.mk (LivS_drawn (by first | exact HO04.out | exact LivS_drewN HO04.out _) hd)
  have m05_ := Aside0.mk (LivS_drawn (by first | exact HO05.out | exact LivS_drewN HO05.out _) hd)
  have n1_ := Aside0.mk (below_drawn (by repeat (first | (with_reducible first | exact HB.out | apply below_alloc | apply pw_below_drewN | apply below_drew1) | exact HB.out)) hd)
  clear HB hd
  clear HO01 HO02 HO03 HO04 HO05
  have HO01 := m01_
  clear m01_
  have HO02 := m02_
  clear m02_
  have HO03 := m03_
  clear m03_
  have HO04 := m04_
  clear m04_
  have HO05 := m05_
  clear m05_
  have HB := n1_
  clear n1_
  go_wp2_with fail
  refine (markIntSS_calls _ (l1) w.heap.size ok03 _ ?h8 (below_size (by repeat (first | (with_reducible first | exact HB.out | apply below_alloc | apply pw_below_drewN | apply below_drew1) | exact HB.out))) HN1.out).mono ?_
  case h8 => exact LivS_own (by first | exact HO03.out | exact LivS_drewN HO03.out _)
  rintro e w8 ⟨rfl, ho, hbB, hc_⟩
  have c_ := LivS_marked (by first | exact HO03.out | exact LivS_drewN HO03.out _) ho hc_
  have n1_ := Aside0.mk (Below.trans (by repeat (first | (with_reducible first | exact HB.out | apply below_alloc | apply pw_below_drewN | apply below_drew1) | exact HB.out)) hbB)
  have m01_ := Aside0.mk (LivS_changed (by first | exact HO01.out | exact LivS_drewN HO01.out _) c_.2 HS01_03.out)
  have m02_ := Aside0.mk (LivS_changed (by first | exact HO02.out | exact LivS_drewN HO02.out _) c_.2 HS02_03.out)
  have m04_ := Aside0.mk (LivS_changed (by first | exact HO04.out | exact LivS_drewN HO04.out _) c_.2 (Sep.symm HS03_04.out))
  have m05_ := Aside0.mk (LivS_changed (by first | exact HO05.out | exact LivS_drewN HO05.out _) c_.2 (Sep.symm HS03_05.out))
  have q_ := Aside0.mk c_.1
  clear HB ho c_ hbB hc_
  clear HO01 HO02 HO03 HO04 HO05
  have HO01 := m01_
  clear m01_
  have HO02 := m02_
  clear m02_
  have HO04 := m04_
  clear m04_
  have HO05 := m05_
  clear m05_
  have HO03 := q_
  have HB := n1_
  clear q_ n1_
  go_wp2_with fail
  refine (eqIntSS_calls _ _ _ _ ((FamTF a0 l1).1) _ ?h9a (LivS_cap HO04.out) ?h9b (LivS_cap HO02.out) HF.out).mono ?_
  case h9a => exact LivS_rd (by first | exact HO04.out | exact LivS_drewN HO04.out _)
  case h9b => exact LivS_rd (by first | exact HO02.out | exact LivS_drewN HO02.out _)
  rintro e w9 ⟨rfl, hd⟩
  have m01_ := Aside0.mk (LivS_drawn (by first | exact HO01.out | exact LivS_drewN HO01.out _) hd)
  have m02_ := Aside0.mk (LivS_drawn (by first | exact HO02.out | exact LivS_drewN HO02.out _) hd)
  have m03_ := Aside0.mk (LivS_drawn (by first | exact HO03.out | exact LivS_drewN HO03.out _) hd)
  have m04_ := Aside0.mk (LivS_drawn (by first | exact HO04.out | exact LivS_drewN HO04.out _) hd)
  have m05_ := Aside0.mk (LivS_drawn (by first | exact HO05.out | exact LivS_drewN HO05.out _) hd)
  have n1_ := Aside0.mk (below_drawn (by repeat (first | (with_reducible first | exact HB.out | apply below_alloc | apply pw_below_drewN | apply below_drew1) | exact HB.out)) hd)
  clear HB hd
  clear HO01 HO02 HO03 HO04 HO05
  have HO01 := m01_
  clear m01_
  have HO02 := m02_
  clear m02_
  have HO03 := m03_
  clear m03_
  have HO04 := m04_
  clear m04_
  have HO05 := m05_
  clear m05_
  have HB := n1_
  clear n1_
  go_wp2_with fail
  refine (markIntSS_calls _ ((FamTF a0 l1).1) w.heap.size ok04 _ ?h10 (below_size (by repeat (first | (with_reducible first | exact HB.out | apply below_alloc | apply pw_below_drewN | apply below_drew1) | exact HB.out))) HF.out).mono ?_
  case h10 => exact LivS_own (by first | exact HO04.out | exact LivS_drewN HO04.out _)
  rintro e w10 ⟨rfl, ho, hbB, hc_⟩
  have c_ := LivS_marked (by first | exact HO04.out | exact LivS_drewN HO04.out _) ho hc_
  have n1_ := Aside0.mk (Below.trans (by repeat (first | (with_reducible first | exact HB.out | apply below_alloc | apply pw_below_drewN | apply below_drew1) | exact HB.out)) hbB)
  have m01_ := Aside0.mk (LivS_changed (by first | exact HO01.out | exact LivS_drewN HO01.out _) c_.2 HS01_04.out)
  have m02_ := Aside0.mk (LivS_changed (by first | exact HO02.out | exact LivS_drewN HO02.out _) c_.2 HS02_04.out)
  have m03_ := Aside0.mk (LivS_changed (by first | exact HO03.out | exact LivS_drewN HO03.out _) c_.2 HS03_04.out)
  have m05_ := Aside0.mk (LivS_changed (by first | exact HO05.out | exact LivS_drewN HO05.out _) c_.2 (Sep.symm HS04_05.out))
  have q_ := Aside0.mk c_.1
  clear HB ho c_ hbB hc_
  clear HO01 HO02 HO03 HO04 HO05
  have HO01 := m01_
  clear m01_
  have HO02 := m02_
  clear m02_
  have HO03 := m03_
  clear m03_
  have HO05 := m05_
  clear m05_
  have HO04 := q_
  have HB := n1_
  clear q_ n1_
  go_wp2_with fail
  refine (heldIntSS_calls _ _ ((FamTF a0 l1).1) _ ?h11 ?h11c HF.out).mono ?_
  case h11 => exact LivS_rd (by first | exact HO04.out | exact LivS_drewN HO04.out _)
  case h11c => have hcap_ := LivS_cap HO04.out; rwa [marksS_length] at hcap_
  rintro e w11 ⟨rfl, hd⟩
  have m01_ := Aside0.mk (LivS_drawn (by first | exact HO01.out | exact LivS_drewN HO01.out _) hd)
  have m02_ := Aside0.mk (LivS_drawn (by first | exact HO02.out | exact LivS_drewN HO02.out _) hd)
  have m03_ := Aside0.mk (LivS_drawn (by first | exact HO03.out | exact LivS_drewN HO03.out _) hd)
  have m04_ := Aside0.mk (LivS_drawn (by first | exact HO04.out | exact LivS_drewN HO04.out _) hd)
  have m05_ := Aside0.mk (LivS_drawn (by first | exact HO05.out | exact LivS_drewN HO05.out _) hd)
  have n1_ := Aside0.mk (below_drawn (by repeat (first | (with_reducible first | exact HB.out | apply below_alloc | apply pw_below_drewN | apply below_drew1) | exact HB.out)) hd)
  clear HB hd
  clear HO01 HO02 HO03 HO04 HO05
  have HO01 := m01_
  clear m01_
  have HO02 := m02_
  clear m02_
  have HO03 := m03_
  clear m03_
  have HO04 := m04_
  clear m04_
  have HO05 := m05_
  clear m05_
  have HB := n1_
  clear n1_
  go_wp2_with fail
  refine (toIntSS_calls _ _ l1 _ ?h12 HC1.out HN1.out).mono ?_
  case h12 => exact Kd.C_below HR1.out (by repeat (first | (with_reducible first | exact HB.out | apply below_alloc | apply pw_below_drewN | apply below_drew1) | exact HB.out))
  rintro e w12 ⟨v06, rfl, ho, hb⟩
  have m01_ := Aside0.mk (LivS_below (by first | exact HO01.out | exact LivS_drewN HO01.out _) hb)
  have m02_ := Aside0.mk (LivS_below (by first | exact HO02.out | exact LivS_drewN HO02.out _) hb)
  have m03_ := Aside0.mk (LivS_below (by first | exact HO03.out | exact LivS_drewN HO03.out _) hb)
  have m04_ := Aside0.mk (LivS_below (by first | exact HO04.out | exact LivS_drewN HO04.out _) hb)
  have m05_ := Aside0.mk (LivS_below (by first | exact HO05.out | exact LivS_drewN HO05.out _) hb)
  obtain ⟨ok06, n0_, n2_⟩ := LivS_new ho (below_size (by repeat (first | (with_reducible first | exact HB.out | apply below_alloc | apply pw_below_drewN | apply below_drew1) | exact HB.out)))
  have HS01_06 := Aside0.mk (Sep_new (LivS_lt (by first | exact HO01.out | exact LivS_drewN HO01.out _)) n2_)
  have HS02_06 := Aside0.mk (Sep_new (LivS_lt (by first | exact HO02.out | exact LivS_drewN HO02.out _)) n2_)
  have HS03_06 := Aside0.mk (Sep_new (LivS_lt (by first | exact HO03.out | exact LivS_drewN HO03.out _)) n2_)
  have HS04_06 := Aside0.mk (Sep_new (LivS_lt (by first | exact HO04.out | exact LivS_drewN HO04.out _)) n2_)
  have HS05_06 := Aside0.mk (Sep_new (LivS_lt (by first | exact HO05.out | exact LivS_drewN HO05.out _)) n2_)
  have HO06 := Aside0.mk n0_
  have n1_ := Aside0.mk (below_step (by repeat (first | (with_reducible first | exact HB.out | apply below_alloc | apply pw_below_drewN | apply below_drew1) | exact HB.out)) hb)
  clear HB ho hb n0_ n2_
  clear HO01 HO02 HO03 HO04 HO05
  have HO01 := m01_
  clear m01_
  have HO02 := m02_
  clear m02_
  have HO03 := m03_
  clear m03_
  have HO04 := m04_
  clear m04_
  have HO05 := m05_
  clear m05_
  have HB := n1_
  clear n1_
  obtain ⟨B06, d06, e_⟩ := LivS_form HO06.out
  subst e_
  go_wp2_with fail
  refine (implFamT_calls a0 _ _ l1 _ HA0.out ?h13a1 (LivS_cap HO06.out) HN1.out HW1.out).mono ?_
  case h13a1 => exact LivS_rd (by first | exact HO06.out | exact LivS_drewN HO06.out _)
  rintro e w13 ⟨v07, rfl, ho, hb⟩
  have m01_ := Aside0.mk (LivS_below (by first | exact HO01.out | exact LivS_drewN HO01.out _) hb)
  have m02_ := Aside0.mk (LivS_below (by first | exact HO02.out | exact LivS_drewN HO02.out _) hb)
  have m03_ := Aside0.mk (LivS_below (by first | exact HO03.out | exact LivS_drewN HO03.out _) hb)
  have m04_ := Aside0.mk (LivS_below (by first | exact HO04.out | exact LivS_drewN HO04.out _) hb)
  have m05_ := Aside0.mk (LivS_below (by first | exact HO05.out | exact LivS_drewN HO05.out _) hb)
  have m06_ := Aside0.mk (LivS_below (by first | exact HO06.out | exact LivS_drewN HO06.out _) hb)
  obtain ⟨ok07, n0_, n2_⟩ := LivS_new ho (below_size (by repeat (first | (with_reducible first | exact HB.out | apply below_alloc | apply pw_below_drewN | apply below_drew1) | exact HB.out)))
  have HS01_07 := Aside0.mk (Sep_new (LivS_lt (by first | exact HO01.out | exact LivS_drewN HO01.out _)) n2_)
  have HS02_07 := Aside0.mk (Sep_new (LivS_lt (by first | exact HO02.out | exact LivS_drewN HO02.out _)) n2_)
  have HS03_07 := Aside0.mk (Sep_new (LivS_lt (by first | exact HO03.out | exact LivS_drewN HO03.out _)) n2_)
  have HS04_07 := Aside0.mk (Sep_new (LivS_lt (by first | exact HO04.out | exact LivS_drewN HO04.out _)) n2_)
  have HS05_07 := Aside0.mk (Sep_new (LivS_lt (by first | exact HO05.out | exact LivS_drewN HO05.out _)) n2_)
  have HS06_07 := Aside0.mk (Sep_new (LivS_lt (by first | exact HO06.out | exact LivS_drewN HO06.out _)) n2_)
  have HO07 := Aside0.mk n0_
  have n1_ := Aside0.mk (below_step (by repeat (first | (with_reducible first | exact HB.out | apply below_alloc | apply pw_below_drewN | apply below_drew1) | exact HB.out)) hb)
  clear HB ho hb n0_ n2_
  clear HO01 HO02 HO03 HO04 HO05 HO06
  have HO01 := m01_
  clear m01_
  have HO02 := m02_
  clear m02_
  have HO03 := m03_
  clear m03_
  have HO04 := m04_
  clear m04_
  have HO05 := m05_
  clear m05_
  have HO06 := m06_
  clear m06_
  have HB := n1_
  clear n1_
  obtain ⟨B07, d07, e_⟩ := LivS_form HO07.out
  subst e_
  go_wp2_with fail
  refine (eqIntSS_calls _ _ _ _ ((FamTF a0 l1).1) _ ?h14a (LivS_cap HO07.out) ?h14b (LivS_cap HO02.out) HF.out).mono ?_
  case h14a => exact LivS_rd (by first | exact HO07.out | exact LivS_drewN HO07.out _)
  case h14b => exact LivS_rd (by first | exact HO02.out | exact LivS_drewN HO02.out _)
  rintro e w14 ⟨rfl, hd⟩
  have m01_ := Aside0.mk (LivS_drawn (by first | exact HO01.out | exact LivS_drewN HO01.out _) hd)
  have m02_ := Aside0.mk (LivS_drawn (by first | exact HO02.out | exact LivS_drewN HO02.out _) hd)
  have m03_ := Aside0.mk (LivS_drawn (by first | exact HO03.out | exact LivS_drewN HO03.out _) hd)
  have m04_ := Aside0.mk (LivS_drawn (by first | exact HO04.out | exact LivS_drewN HO04.out _) hd)
  have m05_ := Aside0.mk (LivS_drawn (by first | exact HO05.out | exact LivS_drewN HO05.out _) hd)
  have m06_ := Aside0.mk (LivS_drawn (by first | exact HO06.out | exact LivS_drewN HO06.out _) hd)
  have m07_ := Aside0.mk (LivS_drawn (by first | exact HO07.out | exact LivS_drewN HO07.out _) hd)
  have n1_ := Aside0.mk (below_drawn (by repeat (first | (with_reducible first | exact HB.out | apply below_alloc | apply pw_below_drewN | apply below_drew1) | exact HB.out)) hd)
  clear HB hd
  clear HO01 HO02 HO03 HO04 HO05 HO06 HO07
  have HO01 := m01_
  clear m01_
  have HO02 := m02_
  clear m02_
  have HO03 := m03_
  clear m03_
  have HO04 := m04_
  clear m04_
  have HO05 := m05_
  clear m05_
  have HO06 := m06_
  clear m06_
  have HO07 := m07_
  clear m07_
  have HB := n1_
  clear n1_
  go_wp2_with fail
  refine (heldIntSS_calls _ _ ((FamTF a0 l1).1) _ ?h15 ?h15c HF.out).mono ?_
  case h15 => exact LivS_rd (by first | exact HO04.out | exact LivS_drewN HO04.out _)
  case h15c => have hcap_ := LivS_cap HO04.out; rwa [marksS_length] at hcap_
  rintro e w15 ⟨rfl, hd⟩
  have m01_ := Aside0.mk (LivS_drawn (by first | exact HO01.out | exact LivS_drewN HO01.out _) hd)
  have m02_ := Aside0.mk (LivS_drawn (by first | exact HO02.out | exact LivS_drewN HO02.out _) hd)
  have m03_ := Aside0.mk (LivS_drawn (by first | exact HO03.out | exact LivS_drewN HO03.out _) hd)
  have m04_ := Aside0.mk (LivS_drawn (by first | exact HO04.out | exact LivS_drewN HO04.out _) hd)
  have m05_ := Aside0.mk (LivS_drawn (by first | exact HO05.out | exact LivS_drewN HO05.out _) hd)
  have m06_ := Aside0.mk (LivS_drawn (by first | exact HO06.out | exact LivS_drewN HO06.out _) hd)
  have m07_ := Aside0.mk (LivS_drawn (by first | exact HO07.out | exact LivS_drewN HO07.out _) hd)
  have n1_ := Aside0.mk (below_drawn (by repeat (first | (with_reducible first | exact HB.out | apply below_alloc | apply pw_below_drewN | apply below_drew1) | exact HB.out)) hd)
  clear HB hd
  clear HO01 HO02 HO03 HO04 HO05 HO06 HO07
  have HO01 := m01_
  clear m01_
  have HO02 := m02_
  clear m02_
  have HO03 := m03_
  clear m03_
  have HO04 := m04_
  clear m04_
  have HO05 := m05_
  clear m05_
  have HO06 := m06_
  clear m06_
  have HO07 := m07_
  clear m07_
  have HB := n1_
  clear n1_
  (go_wp2; repeat (go_quiet (fail); try go_wp2))
  go_ret
  exact ⟨rfl, (by repeat (first | (with_reducible first | exact HB.out | apply below_alloc | apply pw_below_drewN | apply below_drew1) | exact HB.out))⟩
end Go.Proofs.Ytpabfibmpannoaa.Own.G
namespace Go.Proofs.Ytpabfibmpannoaa.fnExactFamilyOfTriples
open Go.ChangeShapes Go.WideShapes Go.ChangeAt Go.RowKit
open Go.ChangeMaps (open_string shut_string)
open Go.Deep
set_option linter.unusedVariables false
theorem own : ownKnob Try.prog.godebug = none := by kernel_rfl
theorem laidOut : laidOutB Try.prog = true := by kernel_rfl
set_option maxRecDepth 100000 in
theorem lifted (os : Os) (started : os.Started) (H : Type) (enc : TypeId × Value → H) :
    ReturnsInHanded {} Try.checked os 6 .any (Rows.fnExactFamilyOfTriplesSpec.pre6 enc Try.prog Try.f6 Rows.fnExactFamilyOfTriplesRow.domain false) (Rows.fnExactFamilyOfTriplesSpec.post enc Try.prog Try.f6 false true false false) := by
  refine returnsInHanded_of_change (C := Try.checked) own started (by kernel_rfl) Try.func6
    (ChangeSpec.witness6 (enc := enc) (C := Try.checked) false ⟨#[], #[.int .i64 0, .slice none 0 0], []⟩ 8 (by kernel_rfl) (by kernel_rfl) (by kernel_rfl) (by kernel_rfl)) ?_
  intro W base args ds gs before hval0 hW hcnd _
  have hval : ∀ (j : Nat) t v, Try.f6.params[j]? = some t → args[j]? = some v → Value.okWide Try.prog W .any base t v := hval0
  have hW' := hW
  obtain ⟨p, q, hA0, hV, rfl, hfz, hnd⟩ := hW
  have hA : DataW.TrodAll enc Try.prog W 0 (fun _ => true) true Try.f6.params.toList args.toList ds p := hA0
  rw [Try.params6] at hA hval
  obtain ⟨v0, vs0, d0, ds0, p0, q0, hargs, rfl, rfl, h0, r0⟩ := trodAll_cons hA
  obtain ⟨v1, vs1, d1, ds1, p1, q1, rfl, rfl, rfl, h1, r1⟩ := trodAll_cons r0
  obtain ⟨rfl, rfl, rfl⟩ := trodAll_nil r1
  obtain rfl : args = #[v0, v1] := by cases args; simp_all
  obtain ⟨rfl, rfl⟩ := trodVars_none hV
  obtain ⟨a0, rfl, rfl, rfl, w0⟩ := open_int Try.underlying3 (hval 0 3 v0 rfl rfl) h0
  obtain ⟨a1, len1, cap1, rfl⟩ := okWide_slice Try.underlying22 (hval 1 22 v1 rfl rfl)
  have k1 := h1
  have lt1 : ∀ x ∈ p1, x.block < W.heap.size := by obtain ⟨m, hm⟩ := k1; exact DataW.trod_lt m _ _ _ hm
  obtain ⟨l1, rfl, hr1, hL1, hw1, hc1⟩ : ∃ l : List (List Int), len1 = l.length ∧ Own.G.RdS W a1 l ∧ Own.G.Long l ∧ (∀ x ∈ l, ∀ y ∈ x, (Lit.int .i64 y).wf = true) ∧ l.length ≤ cap1 := by
    obtain ⟨fuel, hf⟩ := h1
    rcases open_int_rows Try.underlying22 Try.underlying29 Try.underlying3 (by kernel_rfl) (by kernel_rfl) hf with ⟨hcs, _⟩ | ⟨a, len, cap, AA, L, C, Z, hcs, _, hl, hm, _, hrows⟩
    · simp [Value.cells] at hcs
      obtain ⟨rfl, rfl, rfl⟩ := hcs
      exact ⟨[], rfl, Go.Proofs.YtpabfibmpannoaaW.PrintWords.Kd.C_nil _ _, ⟨by simp, by simp⟩, by simp, by simp⟩
    · simp [Value.cells] at hcs
      obtain ⟨rfl, rfl, rfl⟩ := hcs
      obtain ⟨l, he, h1, h2, h3⟩ := Own.G.rows_of hl hm hrows
      exact ⟨l, he, h1, h2, h3, by omega⟩
  clear hA0 hval0
  refine (Own.G.law_FamilyOfTriples a0 _ _ l1 W (bounds_i64 w0) hr1 hc1 hL1 (fun x hx y hy => bounds_i64 (hw1 x hx y hy))).mono fun e W' ⟨he, bel⟩ => ?_
  subst he
  exact ⟨_, rfl, _, _, _, [], _, [], hW', trodAll_mk1 (shut_bool Try.underlying4 _), (trodAll_cons_mk (shut_int Try.underlying3 w0) (trodAll_cons_mk (Below.trod laidOut (by kernel_rfl) (of_decide_eq_true (by kernel_rfl)) k1 bel lt1) trodAll_mk0)), rfl, bel.frame _, fun h => by cases h⟩
theorem over : Rows.fnExactFamilyOfTriplesRow.holds Try.pinned (OpenSpec.ofChange Rows.fnExactFamilyOfTriplesSpec) :=
  OpenClaim.holds_of_wide 6 Try.f6 rfl rfl rfl rfl rfl rfl rfl ⟨rfl, rfl, rfl, rfl, rfl⟩ rfl rfl rfl rfl rfl (by kernel_rfl) Try.func6 (by kernel_rfl)
    (of_decide_eq_true (by kernel_rfl)) (by unfold Func.isWrapper; first | (rw [if_pos (by decide +kernel)]; kernel_rfl) | (rw [if_neg (by decide +kernel)]; exact ⟨rfl, rfl⟩))
    (fun os started H enc _ => lifted os started H enc)
theorem proved : Rows.FnExactFamilyOfTriplesSaid := over
#print axioms proved
end Go.Proofs.Ytpabfibmpannoaa.fnExactFamilyOfTriples
namespace Go.Proofs.Ytpabfibmpannoaa
/-- The row, under a short name, for the claim. -/
theorem fnExactFamilyOfTriples_holds : Rows.FnExactFamilyOfTriplesSaid := fnExactFamilyOfTriples.proved
end Go.Proofs.Ytpabfibmpannoaa
