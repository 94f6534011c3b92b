/- For every argument that can be read, the law FnExactLabelsOfRow answers true: the program's LabelsOfRow returns what the reference's returns; no condition. -/
import Derived.Test.YtpabfibmpannoaaRows
import Derived.WalkKit
import Derived.ProofKit
import Derived.OpenShut
import Derived.ShutString
import Derived.ChangeOld
import Derived.Below
import Derived.Test.YtpabfibmpannoaaOwnLawKit
import Derived.Test.YtpabfibmpannoaaOwnLive
import Derived.Test.YtpabfibmpannoaaOwnRoF
namespace Go.Proofs.Ytpabfibmpannoaa.Own.G
open Go.RowKit Go.Proofs.YtpabfibmpannoaaW.PrintWords Go.Proofs.YtpabfibmpannoaaW.PrintLast Go.Proofs.YtpabfibmpannoaaW.PrintMore
set_option linter.unusedVariables false
set_option maxHeartbeats 6400000 in
theorem law_LabelsOfRow (A0 : Option Addr) (c0 : Nat) (l0 : List Int) (w : World) (hr0 : Rd w A0 l0) (hc0 : l0.length ≤ c0) (hw0 : ∀ x ∈ l0, W64 x) :
    Calls Try.prog 7 #[.slice A0 l0.length c0] w fun e w' => e = .returned (.bool true) ∧ Below w.heap.size w w' := by
  have HR0 := Aside0.mk hr0
  have HC0 := Aside0.mk hc0
  have HW0 := Aside0.mk hw0
  clear hr0 hc0 hw0
  have HB := Aside0.mk (Below.refl w.heap.size w)
  by_cases hn0 : l0.length ≤ 1048576
  rotate_left
  · go_enter Try.func7, Try.ntmps7
    (go_wp2; repeat (go_quiet (fail); try go_wp2))
    go_ret
    exact ⟨rfl, (by repeat (first | (with_reducible first | exact HB.out | apply below_alloc | apply pw_below_drewN | apply below_drew1) | exact HB.out))⟩
  have HF := Aside0.mk (LabF_len l0 hn0)
  go_enter Try.func7, Try.ntmps7
  go_wp2_with fail
  refine (toIntS_calls _ _ l0 _ ?h1 HC0.out hn0).mono ?_
  case h1 => exact Kd.C_below HR0.out (by repeat (first | (with_reducible first | exact HB.out | apply below_alloc | apply pw_below_drewN | apply below_drew1) | exact HB.out))
  rintro e w1 ⟨v01, rfl, ho, hb⟩
  obtain ⟨ok01, n0_, n2_⟩ := Liv_new ho (below_size (by repeat (first | (with_reducible first | exact HB.out | apply below_alloc | apply pw_below_drewN | apply below_drew1) | exact HB.out)))
  have HO01 := Aside0.mk n0_
  have n1_ := Aside0.mk (below_step (by repeat (first | (with_reducible first | exact HB.out | apply below_alloc | apply pw_below_drewN | apply below_drew1) | exact HB.out)) hb)
  clear HB ho hb n0_ n2_
  have HB := n1_
  clear n1_
  obtain ⟨B01, d01, e_⟩ := Liv_form HO01.out
  subst e_
  go_wp2_with fail
  refine (specLab_calls _ _ l0 _ ?h2a0 (Liv_cap HO01.out) hn0 HW0.out).mono ?_
  case h2a0 => exact Liv_rd (by first | exact HO01.out | exact Liv_drewN HO01.out _)
  rintro e w2 ⟨v02, rfl, ho, hb⟩
  have m01_ := Aside0.mk (Liv_below (by first | exact HO01.out | exact Liv_drewN HO01.out _) hb)
  obtain ⟨ok02, n0_, n2_⟩ := Liv_new ho (below_size (by repeat (first | (with_reducible first | exact HB.out | apply below_alloc | apply pw_below_drewN | apply below_drew1) | exact HB.out)))
  have HS01_02 := Aside0.mk (Sep_new (Liv_lt (by first | exact HO01.out | exact Liv_drewN HO01.out _)) n2_)
  have HO02 := Aside0.mk n0_
  have n1_ := Aside0.mk (below_step (by repeat (first | (with_reducible first | exact HB.out | apply below_alloc | apply pw_below_drewN | apply below_drew1) | exact HB.out)) hb)
  clear HB ho hb n0_ n2_
  clear HO01
  have HO01 := m01_
  clear m01_
  have HB := n1_
  clear n1_
  obtain ⟨B02, d02, e_⟩ := Liv_form HO02.out
  subst e_
  go_wp2_with fail
  refine (toIntS_calls _ _ l0 _ ?h3 HC0.out hn0).mono ?_
  case h3 => exact Kd.C_below HR0.out (by repeat (first | (with_reducible first | exact HB.out | apply below_alloc | apply pw_below_drewN | apply below_drew1) | exact HB.out))
  rintro e w3 ⟨v03, rfl, ho, hb⟩
  have m01_ := Aside0.mk (Liv_below (by first | exact HO01.out | exact Liv_drewN HO01.out _) hb)
  have m02_ := Aside0.mk (Liv_below (by first | exact HO02.out | exact Liv_drewN HO02.out _) hb)
  obtain ⟨ok03, n0_, n2_⟩ := Liv_new ho (below_size (by repeat (first | (with_reducible first | exact HB.out | apply below_alloc | apply pw_below_drewN | apply below_drew1) | exact HB.out)))
  have HS01_03 := Aside0.mk (Sep_new (Liv_lt (by first | exact HO01.out | exact Liv_drewN HO01.out _)) n2_)
  have HS02_03 := Aside0.mk (Sep_new (Liv_lt (by first | exact HO02.out | exact Liv_drewN HO02.out _)) n2_)
  have HO03 := Aside0.mk n0_
  have n1_ := Aside0.mk (below_step (by repeat (first | (with_reducible first | exact HB.out | apply below_alloc | apply pw_below_drewN | apply below_drew1) | exact HB.out)) hb)
  clear HB ho hb n0_ n2_
  clear HO01 HO02
  have HO01 := m01_
  clear m01_
  have HO02 := m02_
  clear m02_
  have HB := n1_
  clear n1_
  obtain ⟨B03, d03, e_⟩ := Liv_form HO03.out
  subst e_
  go_wp2_with fail
  refine (implLab_calls _ _ l0 _ ?h4a0 (Liv_cap HO03.out) hn0 HW0.out).mono ?_
  case h4a0 => exact Liv_rd (by first | exact HO03.out | exact Liv_drewN HO03.out _)
  rintro e w4 ⟨v04, rfl, ho, hb⟩
  have m01_ := Aside0.mk (Liv_below (by first | exact HO01.out | exact Liv_drewN HO01.out _) hb)
  have m02_ := Aside0.mk (Liv_below (by first | exact HO02.out | exact Liv_drewN HO02.out _) hb)
  have m03_ := Aside0.mk (Liv_below (by first | exact HO03.out | exact Liv_drewN HO03.out _) hb)
  obtain ⟨ok04, n0_, n2_⟩ := Liv_new ho (below_size (by repeat (first | (with_reducible first | exact HB.out | apply below_alloc | apply pw_below_drewN | apply below_drew1) | exact HB.out)))
  have HS01_04 := Aside0.mk (Sep_new (Liv_lt (by first | exact HO01.out | exact Liv_drewN HO01.out _)) n2_)
  have HS02_04 := Aside0.mk (Sep_new (Liv_lt (by first | exact HO02.out | exact Liv_drewN HO02.out _)) n2_)
  have HS03_04 := Aside0.mk (Sep_new (Liv_lt (by first | exact HO03.out | exact Liv_drewN HO03.out _)) n2_)
  have HO04 := Aside0.mk n0_
  have n1_ := Aside0.mk (below_step (by repeat (first | (with_reducible first | exact HB.out | apply below_alloc | apply pw_below_drewN | apply below_drew1) | exact HB.out)) hb)
  clear HB ho hb n0_ n2_
  clear HO01 HO02 HO03
  have HO01 := m01_
  clear m01_
  have HO02 := m02_
  clear m02_
  have HO03 := m03_
  clear m03_
  have HB := n1_
  clear n1_
  obtain ⟨B04, d04, e_⟩ := Liv_form HO04.out
  subst e_
  go_wp2_with fail
  refine (eqIntS_calls _ _ _ _ ((LabF l0).1) _ ?h5a (Liv_cap HO04.out) ?h5b (Liv_cap HO02.out) HF.out).mono ?_
  case h5a => exact Liv_rd (by first | exact HO04.out | exact Liv_drewN HO04.out _)
  case h5b => exact Liv_rd (by first | exact HO02.out | exact Liv_drewN HO02.out _)
  rintro e w5 ⟨rfl, hd⟩
  have m01_ := Aside0.mk (Liv_drawn (by first | exact HO01.out | exact Liv_drewN HO01.out _) hd)
  have m02_ := Aside0.mk (Liv_drawn (by first | exact HO02.out | exact Liv_drewN HO02.out _) hd)
  have m03_ := Aside0.mk (Liv_drawn (by first | exact HO03.out | exact Liv_drewN HO03.out _) hd)
  have m04_ := Aside0.mk (Liv_drawn (by first | exact HO04.out | exact Liv_drewN HO04.out _) hd)
  have n1_ := Aside0.mk (below_drawn (by repeat (first | (with_reducible first | exact HB.out | apply below_alloc | apply pw_below_drewN | apply below_drew1) | exact HB.out)) hd)
  clear HB hd
  clear HO01 HO02 HO03 HO04
  have HO01 := m01_
  clear m01_
  have HO02 := m02_
  clear m02_
  have HO03 := m03_
  clear m03_
  have HO04 := m04_
  clear m04_
  have HB := n1_
  clear n1_
  go_wp2_with fail
  refine (toIntS_calls _ _ l0 _ ?h6 HC0.out hn0).mono ?_
  case h6 => exact Kd.C_below HR0.out (by repeat (first | (with_reducible first | exact HB.out | apply below_alloc | apply pw_below_drewN | apply below_drew1) | exact HB.out))
  rintro e w6 ⟨v05, rfl, ho, hb⟩
  have m01_ := Aside0.mk (Liv_below (by first | exact HO01.out | exact Liv_drewN HO01.out _) hb)
  have m02_ := Aside0.mk (Liv_below (by first | exact HO02.out | exact Liv_drewN HO02.out _) hb)
  have m03_ := Aside0.mk (Liv_below (by first | exact HO03.out | exact Liv_drewN HO03.out _) hb)
  have m04_ := Aside0.mk (Liv_below (by first | exact HO04.out | exact Liv_drewN HO04.out _) hb)
  obtain ⟨ok05, n0_, n2_⟩ := Liv_new ho (below_size (by repeat (first | (with_reducible first | exact HB.out | apply below_alloc | apply pw_below_drewN | apply below_drew1) | exact HB.out)))
  have HS01_05 := Aside0.mk (Sep_new (Liv_lt (by first | exact HO01.out | exact Liv_drewN HO01.out _)) n2_)
  have HS02_05 := Aside0.mk (Sep_new (Liv_lt (by first | exact HO02.out | exact Liv_drewN HO02.out _)) n2_)
  have HS03_05 := Aside0.mk (Sep_new (Liv_lt (by first | exact HO03.out | exact Liv_drewN HO03.out _)) n2_)
  have HS04_05 := Aside0.mk (Sep_new (Liv_lt (by first | exact HO04.out | exact Liv_drewN HO04.out _)) n2_)
  have HO05 := Aside0.mk n0_
  have n1_ := Aside0.mk (below_step (by repeat (first | (with_reducible first | exact HB.out | apply below_alloc | apply pw_below_drewN | apply below_drew1) | exact HB.out)) hb)
  clear HB ho hb n0_ n2_
  clear HO01 HO02 HO03 HO04
  have HO01 := m01_
  clear m01_
  have HO02 := m02_
  clear m02_
  have HO03 := m03_
  clear m03_
  have HO04 := m04_
  clear m04_
  have HB := n1_
  clear n1_
  obtain ⟨B05, d05, e_⟩ := Liv_form HO05.out
  subst e_
  go_wp2_with fail
  refine (eqIntS_calls _ _ _ _ (l0) _ ?h7a (Liv_cap HO03.out) ?h7b (Liv_cap HO05.out) hn0).mono ?_
  case h7a => exact Liv_rd (by first | exact HO03.out | exact Liv_drewN HO03.out _)
  case h7b => exact Liv_rd (by first | exact HO05.out | exact Liv_drewN HO05.out _)
  rintro e w7 ⟨rfl, hd⟩
  have m01_ := Aside0.mk (Liv_drawn (by first | exact HO01.out | exact Liv_drewN HO01.out _) hd)
  have m02_ := Aside0.mk (Liv_drawn (by first | exact HO02.out | exact Liv_drewN HO02.out _) hd)
  have m03_ := Aside0.mk (Liv_drawn (by first | exact HO03.out | exact Liv_drewN HO03.out _) hd)
  have m04_ := Aside0.mk (Liv_drawn (by first | exact HO04.out | exact Liv_drewN HO04.out _) hd)
  have m05_ := Aside0.mk (Liv_drawn (by first | exact HO05.out | exact Liv_drewN HO05.out _) hd)
  have n1_ := Aside0.mk (below_drawn (by repeat (first | (with_reducible first | exact HB.out | apply below_alloc | apply pw_below_drewN | apply below_drew1) | exact HB.out)) hd)
  clear HB hd
  clear HO01 HO02 HO03 HO04 HO05
  have HO01 := m01_
  clear m01_
  have HO02 := m02_
  clear m02_
  have HO03 := m03_
  clear m03_
  have HO04 := m04_
  clear m04_
  have HO05 := m05_
  clear m05_
  have HB := n1_
  clear n1_
  go_wp2_with fail
  refine (markIntS_calls _ (l0) _ w.heap.size _ ?h8 hn0 (by omega) (by have := HB; omega)).mono ?_
  case h8 => exact Liv_ow (by first | exact HO03.out | exact Liv_drewN HO03.out _)
  rintro e w8 ⟨rfl, ho, hg⟩
  have c_ := Liv_marked (by first | exact HO03.out | exact Liv_drewN HO03.out _) ho hg
  have n1_ := Aside0.mk (below_grown (by repeat (first | (with_reducible first | exact HB.out | apply below_alloc | apply pw_below_drewN | apply below_drew1) | exact HB.out)) hg (Liv_ow (by first | exact HO03.out | exact Liv_drewN HO03.out _)))
  have m01_ := Aside0.mk (Liv_changed (by first | exact HO01.out | exact Liv_drewN HO01.out _) c_.2 HS01_03.out)
  have m02_ := Aside0.mk (Liv_changed (by first | exact HO02.out | exact Liv_drewN HO02.out _) c_.2 HS02_03.out)
  have m04_ := Aside0.mk (Liv_changed (by first | exact HO04.out | exact Liv_drewN HO04.out _) c_.2 (Sep.symm HS03_04.out))
  have m05_ := Aside0.mk (Liv_changed (by first | exact HO05.out | exact Liv_drewN HO05.out _) c_.2 (Sep.symm HS03_05.out))
  have q_ := Aside0.mk c_.1
  clear HB ho c_ hg
  clear HO01 HO02 HO03 HO04 HO05
  have HO01 := m01_
  clear m01_
  have HO02 := m02_
  clear m02_
  have HO04 := m04_
  clear m04_
  have HO05 := m05_
  clear m05_
  have HO03 := q_
  have HB := n1_
  clear q_ n1_
  go_wp2_with fail
  refine (eqIntS_calls _ _ _ _ ((LabF l0).1) _ ?h9a (Liv_cap HO04.out) ?h9b (Liv_cap HO02.out) HF.out).mono ?_
  case h9a => exact Liv_rd (by first | exact HO04.out | exact Liv_drewN HO04.out _)
  case h9b => exact Liv_rd (by first | exact HO02.out | exact Liv_drewN HO02.out _)
  rintro e w9 ⟨rfl, hd⟩
  have m01_ := Aside0.mk (Liv_drawn (by first | exact HO01.out | exact Liv_drewN HO01.out _) hd)
  have m02_ := Aside0.mk (Liv_drawn (by first | exact HO02.out | exact Liv_drewN HO02.out _) hd)
  have m03_ := Aside0.mk (Liv_drawn (by first | exact HO03.out | exact Liv_drewN HO03.out _) hd)
  have m04_ := Aside0.mk (Liv_drawn (by first | exact HO04.out | exact Liv_drewN HO04.out _) hd)
  have m05_ := Aside0.mk (Liv_drawn (by first | exact HO05.out | exact Liv_drewN HO05.out _) hd)
  have n1_ := Aside0.mk (below_drawn (by repeat (first | (with_reducible first | exact HB.out | apply below_alloc | apply pw_below_drewN | apply below_drew1) | exact HB.out)) hd)
  clear HB hd
  clear HO01 HO02 HO03 HO04 HO05
  have HO01 := m01_
  clear m01_
  have HO02 := m02_
  clear m02_
  have HO03 := m03_
  clear m03_
  have HO04 := m04_
  clear m04_
  have HO05 := m05_
  clear m05_
  have HB := n1_
  clear n1_
  go_wp2_with fail
  refine (markIntS_calls _ ((LabF l0).1) _ w.heap.size _ ?h10 HF.out (by omega) (by have := HB; omega)).mono ?_
  case h10 => exact Liv_ow (by first | exact HO04.out | exact Liv_drewN HO04.out _)
  rintro e w10 ⟨rfl, ho, hg⟩
  have c_ := Liv_marked (by first | exact HO04.out | exact Liv_drewN HO04.out _) ho hg
  have n1_ := Aside0.mk (below_grown (by repeat (first | (with_reducible first | exact HB.out | apply below_alloc | apply pw_below_drewN | apply below_drew1) | exact HB.out)) hg (Liv_ow (by first | exact HO04.out | exact Liv_drewN HO04.out _)))
  have m01_ := Aside0.mk (Liv_changed (by first | exact HO01.out | exact Liv_drewN HO01.out _) c_.2 HS01_04.out)
  have m02_ := Aside0.mk (Liv_changed (by first | exact HO02.out | exact Liv_drewN HO02.out _) c_.2 HS02_04.out)
  have m03_ := Aside0.mk (Liv_changed (by first | exact HO03.out | exact Liv_drewN HO03.out _) c_.2 HS03_04.out)
  have m05_ := Aside0.mk (Liv_changed (by first | exact HO05.out | exact Liv_drewN HO05.out _) c_.2 (Sep.symm HS04_05.out))
  have q_ := Aside0.mk c_.1
  clear HB ho c_ hg
  clear HO01 HO02 HO03 HO04 HO05
  have HO01 := m01_
  clear m01_
  have HO02 := m02_
  clear m02_
  have HO03 := m03_
  clear m03_
  have HO05 := m05_
  clear m05_
  have HO04 := q_
  have HB := n1_
  clear q_ n1_
  go_wp2_with fail
  refine (heldIntS_calls _ _ ((LabF l0).1).length _ ?h11 ?h11c HF.out).mono ?_
  case h11 => exact Liv_rd (by first | exact HO04.out | exact Liv_drewN HO04.out _)
  case h11c => have hcap_ := Liv_cap HO04.out; rwa [marks_length] at hcap_
  rintro e w11 ⟨rfl, hd⟩
  have m01_ := Aside0.mk (Liv_drawn (by first | exact HO01.out | exact Liv_drewN HO01.out _) hd)
  have m02_ := Aside0.mk (Liv_drawn (by first | exact HO02.out | exact Liv_drewN HO02.out _) hd)
  have m03_ := Aside0.mk (Liv_drawn (by first | exact HO03.out | exact Liv_drewN HO03.out _) hd)
  have m04_ := Aside0.mk (Liv_drawn (by first | exact HO04.out | exact Liv_drewN HO04.out _) hd)
  have m05_ := Aside0.mk (Liv_drawn (by first | exact HO05.out | exact Liv_drewN HO05.out _) hd)
  have n1_ := Aside0.mk (below_drawn (by repeat (first | (with_reducible first | exact HB.out | apply below_alloc | apply pw_below_drewN | apply below_drew1) | exact HB.out)) hd)
  clear HB hd
  clear HO01 HO02 HO03 HO04 HO05
  have HO01 := m01_
  clear m01_
  have HO02 := m02_
  clear m02_
  have HO03 := m03_
  clear m03_
  have HO04 := m04_
  clear m04_
  have HO05 := m05_
  clear m05_
  have HB := n1_
  clear n1_
  go_wp2_with fail
  refine (toIntS_calls _ _ l0 _ ?h12 HC0.out hn0).mono ?_
  case h12 => exact Kd.C_below HR0.out (by repeat (first | (with_reducible first | exact HB.out | apply below_alloc | apply pw_below_drewN | apply below_drew1) | exact HB.out))
  rintro e w12 ⟨v06, rfl, ho, hb⟩
  have m01_ := Aside0.mk (Liv_below (by first | exact HO01.out | exact Liv_drewN HO01.out _) hb)
  have m02_ := Aside0.mk (Liv_below (by first | exact HO02.out | exact Liv_drewN HO02.out _) hb)
  have m03_ := Aside0.mk (Liv_below (by first | exact HO03.out | exact Liv_drewN HO03.out _) hb)
  have m04_ := Aside0.mk (Liv_below (by first | exact HO04.out | exact Liv_drewN HO04.out _) hb)
  have m05_ := Aside0.mk (Liv_below (by first | exact HO05.out | exact Liv_drewN HO05.out _) hb)
  obtain ⟨ok06, n0_, n2_⟩ := Liv_new ho (below_size (by repeat (first | (with_reducible first | exact HB.out | apply below_alloc | apply pw_below_drewN | apply below_drew1) | exact HB.out)))
  have HS01_06 := Aside0.mk (Sep_new (Liv_lt (by first | exact HO01.out | exact Liv_drewN HO01.out _)) n2_)
  have HS02_06 := Aside0.mk (Sep_new (Liv_lt (by first | exact HO02.out | exact Liv_drewN HO02.out _)) n2_)
  have HS03_06 := Aside0.mk (Sep_new (Liv_lt (by first | exact HO03.out | exact Liv_drewN HO03.out _)) n2_)
  have HS04_06 := Aside0.mk (Sep_new (Liv_lt (by first | exact HO04.out | exact Liv_drewN HO04.out _)) n2_)
  have HS05_06 := Aside0.mk (Sep_new (Liv_lt (by first | exact HO05.out | exact Liv_drewN HO05.out _)) n2_)
  have HO06 := Aside0.mk n0_
  have n1_ := Aside0.mk (below_step (by repeat (first | (with_reducible first | exact HB.out | apply below_alloc | apply pw_below_drewN | apply below_drew1) | exact HB.out)) hb)
  clear HB ho hb n0_ n2_
  clear HO01 HO02 HO03 HO04 HO05
  have HO01 := m01_
  clear m01_
  have HO02 := m02_
  clear m02_
  have HO03 := m03_
  clear m03_
  have HO04 := m04_
  clear m04_
  have HO05 := m05_
  clear m05_
  have HB := n1_
  clear n1_
  obtain ⟨B06, d06, e_⟩ := Liv_form HO06.out
  subst e_
  go_wp2_with fail
  refine (implLab_calls _ _ l0 _ ?h13a0 (Liv_cap HO06.out) hn0 HW0.out).mono ?_
  case h13a0 => exact Liv_rd (by first | exact HO06.out | exact Liv_drewN HO06.out _)
  rintro e w13 ⟨v07, rfl, ho, hb⟩
  have m01_ := Aside0.mk (Liv_below (by first | exact HO01.out | exact Liv_drewN HO01.out _) hb)
  have m02_ := Aside0.mk (Liv_below (by first | exact HO02.out | exact Liv_drewN HO02.out _) hb)
  have m03_ := Aside0.mk (Liv_below (by first | exact HO03.out | exact Liv_drewN HO03.out _) hb)
  have m04_ := Aside0.mk (Liv_below (by first | exact HO04.out | exact Liv_drewN HO04.out _) hb)
  have m05_ := Aside0.mk (Liv_below (by first | exact HO05.out | exact Liv_drewN HO05.out _) hb)
  have m06_ := Aside0.mk (Liv_below (by first | exact HO06.out | exact Liv_drewN HO06.out _) hb)
  obtain ⟨ok07, n0_, n2_⟩ := Liv_new ho (below_size (by repeat (first | (with_reducible first | exact HB.out | apply below_alloc | apply pw_below_drewN | apply below_drew1) | exact HB.out)))
  have HS01_07 := Aside0.mk (Sep_new (Liv_lt (by first | exact HO01.out | exact Liv_drewN HO01.out _)) n2_)
  have HS02_07 := Aside0.mk (Sep_new (Liv_lt (by first | exact HO02.out | exact Liv_drewN HO02.out _)) n2_)
  have HS03_07 := Aside0.mk (Sep_new (Liv_lt (by first | exact HO03.out | exact Liv_drewN HO03.out _)) n2_)
  have HS04_07 := Aside0.mk (Sep_new (Liv_lt (by first | exact HO04.out | exact Liv_drewN HO04.out _)) n2_)
  have HS05_07 := Aside0.mk (Sep_new (Liv_lt (by first | exact HO05.out | exact Liv_drewN HO05.out _)) n2_)
  have HS06_07 := Aside0.mk (Sep_new (Liv_lt (by first | exact HO06.out | exact Liv_drewN HO06.out _)) n2_)
  have HO07 := Aside0.mk n0_
  have n1_ := Aside0.mk (below_step (by repeat (first | (with_reducible first | exact HB.out | apply below_alloc | apply pw_below_drewN | apply below_drew1) | exact HB.out)) hb)
  clear HB ho hb n0_ n2_
  clear HO01 HO02 HO03 HO04 HO05 HO06
  have HO01 := m01_
  clear m01_
  have HO02 := m02_
  clear m02_
  have HO03 := m03_
  clear m03_
  have HO04 := m04_
  clear m04_
  have HO05 := m05_
  clear m05_
  have HO06 := m06_
  clear m06_
  have HB := n1_
  clear n1_
  obtain ⟨B07, d07, e_⟩ := Liv_form HO07.out
  subst e_
  go_wp2_with fail
  refine (eqIntS_calls _ _ _ _ ((LabF l0).1) _ ?h14a (Liv_cap HO07.out) ?h14b (Liv_cap HO02.out) HF.out).mono ?_
  case h14a => exact Liv_rd (by first | exact HO07.out | exact Liv_drewN HO07.out _)
  case h14b => exact Liv_rd (by first | exact HO02.out | exact Liv_drewN HO02.out _)
  rintro e w14 ⟨rfl, hd⟩
  have m01_ := Aside0.mk (Liv_drawn (by first | exact HO01.out | exact Liv_drewN HO01.out _) hd)
  have m02_ := Aside0.mk (Liv_drawn (by first | exact HO02.out | exact Liv_drewN HO02.out _) hd)
  have m03_ := Aside0.mk (Liv_drawn (by first | exact HO03.out | exact Liv_drewN HO03.out _) hd)
  have m04_ := Aside0.mk (Liv_drawn (by first | exact HO04.out | exact Liv_drewN HO04.out _) hd)
  have m05_ := Aside0.mk (Liv_drawn (by first | exact HO05.out | exact Liv_drewN HO05.out _) hd)
  have m06_ := Aside0.mk (Liv_drawn (by first | exact HO06.out | exact Liv_drewN HO06.out _) hd)
  have m07_ := Aside0.mk (Liv_drawn (by first | exact HO07.out | exact Liv_drewN HO07.out _) hd)
  have n1_ := Aside0.mk (below_drawn (by repeat (first | (with_reducible first | exact HB.out | apply below_alloc | apply pw_below_drewN | apply below_drew1) | exact HB.out)) hd)
  clear HB hd
  clear HO01 HO02 HO03 HO04 HO05 HO06 HO07
  have HO01 := m01_
  clear m01_
  have HO02 := m02_
  clear m02_
  have HO03 := m03_
  clear m03_
  have HO04 := m04_
  clear m04_
  have HO05 := m05_
  clear m05_
  have HO06 := m06_
  clear m06_
  have HO07 := m07_
  clear m07_
  have HB := n1_
  clear n1_
  go_wp2_with fail
  refine (heldIntS_calls _ _ ((LabF l0).1).length _ ?h15 ?h15c HF.out).mono ?_
  case h15 => exact Liv_rd (by first | exact HO04.out | exact Liv_drewN HO04.out _)
  case h15c => have hcap_ := Liv_cap HO04.out; rwa [marks_length] at hcap_
  rintro e w15 ⟨rfl, hd⟩
  have m01_ := Aside0.mk (Liv_drawn (by first | exact HO01.out | exact Liv_drewN HO01.out _) hd)
  have m02_ := Aside0.mk (Liv_drawn (by first | exact HO02.out | exact Liv_drewN HO02.out _) hd)
  have m03_ := Aside0.mk (Liv_drawn (by first | exact HO03.out | exact Liv_drewN HO03.out _) hd)
  have m04_ := Aside0.mk (Liv_drawn (by first | exact HO04.out | exact Liv_drewN HO04.out _) hd)
  have m05_ := Aside0.mk (Liv_drawn (by first | exact HO05.out | exact Liv_drewN HO05.out _) hd)
  have m06_ := Aside0.mk (Liv_drawn (by first | exact HO06.out | exact Liv_drewN HO06.out _) hd)
  have m07_ := Aside0.mk (Liv_drawn (by first | exact HO07.out | exact Liv_drewN HO07.out _) hd)
  have n1_ := Aside0.mk (below_drawn (by repeat (first | (with_reducible first | exact HB.out | apply below_alloc | apply pw_below_drewN | apply below_drew1) | exact HB.out)) hd)
  clear HB hd
  clear HO01 HO02 HO03 HO04 HO05 HO06 HO07
  have HO01 := m01_
  clear m01_
  have HO02 := m02_
  clear m02_
  have HO03 := m03_
  clear m03_
  have HO04 := m04_
  clear m04_
  have HO05 := m05_
  clear m05_
  have HO06 := m06_
  clear m06_
  have HO07 := m07_
  clear m07_
  have HB := n1_
  clear n1_
  (go_wp2; repeat (go_quiet (fail); try go_wp2))
  go_ret
  exact ⟨rfl, (by repeat (first | (with_reducible first | exact HB.out | apply below_alloc | apply pw_below_drewN | apply below_drew1) | exact HB.out))⟩
end Go.Proofs.Ytpabfibmpannoaa.Own.G
namespace Go.Proofs.Ytpabfibmpannoaa.fnExactLabelsOfRow
open Go.ChangeShapes Go.WideShapes Go.ChangeAt Go.RowKit
open Go.ChangeMaps (open_string shut_string)
set_option linter.unusedVariables false

theorem own : ownKnob Try.prog.godebug = none := by kernel_rfl
theorem laidOut : laidOutB Try.prog = true := by kernel_rfl

/-- WHAT THE WALK IS TOLD OF A SLICE OF INTEGERS THAT CAME IN: it is nil; or it leads to a row of 'cap' cells, the numbers 'zs' (the first 'len' are its elements, the rest its spare room), each fitting its kind. -/
def IsRow (k : IntKind) (w : World) (a : Option Addr) (len cap : Nat) (zs : List Int) : Prop :=
  (a = none ∧ len = 0 ∧ cap = 0 ∧ zs = []) ∨
  ∃ x, a = some x ∧ len ≤ cap ∧ cap ≤ maxLen ∧ zs.length = cap ∧ (∀ i, i < zs.length → w.cell? (x.add i) = some (.int k (zs.getD i 0))) ∧ ∀ n ∈ zs, (Lit.int k n).wf = true

theorem walk (a0 : Option Addr) (len0 cap0 : Nat) (z0 : List Int) (w : World) (w0 : IsRow .i64 w a0 len0 cap0 z0) :
    Calls Try.prog 7 #[.slice a0 len0 cap0] w fun e w' => e = .returned (.bool true) ∧ Below w.heap.size w w' := by
  obtain ⟨l0, rfl, hr0, hm0, hw0, hc0⟩ := Go.Proofs.YtpabfibmpannoaaW.PrintWords.ReadsInt.ofRowC w0
  exact Own.G.law_LabelsOfRow _ _ l0 w (Go.Proofs.YtpabfibmpannoaaW.PrintWords.Kd.C_of_reads (d := (0 : Int)) (h1 := fun _ => rfl) hr0) hc0 (fun x hx => bounds_i64 (hw0 x hx))

/-! ### THE ROW's STEP: WRITTEN OUT: LEAVE IT -/
set_option maxRecDepth 100000 in
theorem lifted (os : Os) (started : os.Started) (H : Type) (enc : TypeId × Value → H) :
    ReturnsInHanded {} Try.checked os 7 .any (Rows.fnExactLabelsOfRowSpec.pre6 enc Try.prog Try.f7 Rows.fnExactLabelsOfRowRow.domain false) (Rows.fnExactLabelsOfRowSpec.post enc Try.prog Try.f7 false true false false) := by
  refine returnsInHanded_of_change (C := Try.checked) own started (by kernel_rfl) Try.func7
    (ChangeSpec.witness6 (enc := enc) (C := Try.checked) false ⟨#[], #[.slice none 0 0], []⟩ 8 (by kernel_rfl) (by kernel_rfl) (by kernel_rfl) (by kernel_rfl)) ?_
  intro W base args ds gs before hval0 hW hcnd _
  have hval : ∀ (j : Nat) t v, Try.f7.params[j]? = some t → args[j]? = some v → Value.okWide Try.prog W .any base t v := hval0
  have hW' := hW
  obtain ⟨p, q, hA0, hV, rfl, hfz, hnd⟩ := hW
  have hA : DataW.TrodAll enc Try.prog W 0 (fun _ => true) true Try.f7.params.toList args.toList ds p := hA0
  rw [Try.params7] at hA hval
  obtain ⟨v0, vs0, d0, ds0, p0, q0, hargs, rfl, rfl, h0, r0⟩ := trodAll_cons hA
  obtain ⟨rfl, rfl, rfl⟩ := trodAll_nil r0
  obtain rfl : args = #[v0] := by cases args; simp_all
  obtain ⟨rfl, rfl⟩ := trodVars_none hV
  obtain ⟨a0, len0, cap0, rfl⟩ := okWide_slice Try.underlying29 (hval 0 29 v0 rfl rfl)
  have k0 := h0
  have lt0 : ∀ x ∈ p0, x.block < W.heap.size := by obtain ⟨m, hm⟩ := k0; exact DataW.trod_lt m _ _ _ hm
  obtain ⟨z0, w0⟩ : ∃ zs, IsRow .i64 W a0 len0 cap0 zs := by
    obtain ⟨fuel, hf⟩ := h0
    rcases open_ints Try.underlying29 Try.underlying3 (by kernel_rfl) hf with ⟨hcs, _⟩ | ⟨x, l, c, zs, hcs, _, hl, hm, hz, _, hcell, hwz⟩
    · simp [Value.cells] at hcs
      obtain ⟨rfl, rfl, rfl⟩ := hcs
      exact ⟨[], .inl ⟨rfl, rfl, rfl, rfl⟩⟩
    · simp [Value.cells] at hcs
      obtain ⟨rfl, rfl, rfl⟩ := hcs
      exact ⟨zs, .inr ⟨_, rfl, hl, hm, by simpa using hz, hcell, hwz⟩⟩
  clear hA0 hval0
  refine (walk a0 len0 cap0 z0 W w0).mono fun e W' ⟨he, bel⟩ => ?_
  subst he
  exact ⟨_, rfl, _, _, _, [], _, [], hW', trodAll_mk1 (shut_bool Try.underlying4 _), (trodAll_cons_mk (Below.trod laidOut (by kernel_rfl) (of_decide_eq_true (by kernel_rfl)) k0 bel lt0) trodAll_mk0), rfl, bel.frame _, fun h => by cases h⟩

theorem over : Rows.fnExactLabelsOfRowRow.holds Try.pinned (OpenSpec.ofChange Rows.fnExactLabelsOfRowSpec) :=
  OpenClaim.holds_of_wide 7 Try.f7 rfl rfl rfl rfl rfl rfl rfl ⟨rfl, rfl, rfl, rfl, rfl⟩ rfl rfl rfl rfl rfl (by kernel_rfl) Try.func7 (by kernel_rfl)
    (of_decide_eq_true (by kernel_rfl)) (by unfold Func.isWrapper; first | (rw [if_pos (by decide +kernel)]; kernel_rfl) | (rw [if_neg (by decide +kernel)]; exact ⟨rfl, rfl⟩))
    (fun os started H enc _ => lifted os started H enc)

/-- ████ THE STATEMENT ████ -/
theorem proved : Rows.FnExactLabelsOfRowSaid := over
#print axioms proved
end Go.Proofs.Ytpabfibmpannoaa.fnExactLabelsOfRow
namespace Go.Proofs.Ytpabfibmpannoaa
/-- The row, under a short name, for the claim. -/
theorem fnExactLabelsOfRow_holds : Rows.FnExactLabelsOfRowSaid := fnExactLabelsOfRow.proved
end Go.Proofs.Ytpabfibmpannoaa
