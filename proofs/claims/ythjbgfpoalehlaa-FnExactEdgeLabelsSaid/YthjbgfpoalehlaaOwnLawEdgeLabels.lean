/- For every argument that can be read, the law FnExactEdgeLabels answers true: the program's EdgeLabels returns what the reference's returns; no condition. -/
import Derived.Test.YthjbgfpoalehlaaRows
import Derived.WalkKit
import Derived.ProofKit
import Derived.OpenShut
import Derived.ShutString
import Derived.ChangeOld
import Derived.Below
import Derived.Test.YthjbgfpoalehlaaOwnLawKit
import Derived.Test.YthjbgfpoalehlaaOwnLabelD
namespace Go.Proofs.Ythjbgfpoalehlaa.Own
open Go.RowKit Go.Proofs.YthjbgfpoalehlaaW.PrintWords Go.Proofs.YthjbgfpoalehlaaW.PrintLast Go.Proofs.YthjbgfpoalehlaaW.PrintMore
set_option linter.unusedVariables false
set_option maxHeartbeats 3200000 in
theorem law_EdgeLabels (A0 : Option Addr) (c0 : Nat) (l0 : List Int) (A1 : Option Addr) (c1 : Nat) (l1 : List Int) (w : World) (hr0 : Rd w A0 l0) (hc0 : l0.length ≤ c0) (hw0 : ∀ x ∈ l0, W64 x) (hr1 : Rd w A1 l1) (hc1 : l1.length ≤ c1) (hw1 : ∀ x ∈ l1, W64 x) :
    Calls Try.prog 13 #[.slice A0 l0.length c0, .slice A1 l1.length c1] w fun e w' => e = .returned (.bool true) ∧ Below w.heap.size w w' := by
  have HR0 := Aside0.mk hr0
  have HC0 := Aside0.mk hc0
  have HW0 := Aside0.mk hw0
  clear hr0 hc0 hw0
  have HR1 := Aside0.mk hr1
  have HC1 := Aside0.mk hc1
  have HW1 := Aside0.mk hw1
  clear hr1 hc1 hw1
  have HB := Aside0.mk (Below.refl w.heap.size w)
  by_cases hn0 : l0.length ≤ 1048576
  rotate_left
  · go_enter Try.func13, Try.ntmps13
    (go_wp2; repeat (go_quiet (fail); try go_wp2))
    go_ret
    exact ⟨rfl, (by repeat (first | (with_reducible first | exact HB.out | apply below_alloc | apply pw_below_drewN | apply below_drew1) | exact HB.out))⟩
  by_cases hn1 : l1.length ≤ 1048576
  rotate_left
  · go_enter Try.func13, Try.ntmps13
    (go_wp2; repeat (go_quiet (fail); try go_wp2))
    go_ret
    exact ⟨rfl, (by repeat (first | (with_reducible first | exact HB.out | apply below_alloc | apply pw_below_drewN | apply below_drew1) | exact HB.out))⟩
  have HF := Aside0.mk (G.EdgeF_len l0 l1 hn0 hn1)
  go_enter Try.func13, Try.ntmps13
  go_wp2_with fail
  refine (toIntS_calls _ _ l0 _ ?h1 HC0.out hn0).mono ?_
  case h1 => exact Kd.C_below HR0.out (by repeat (first | (with_reducible first | exact HB.out | apply below_alloc | apply pw_below_drewN | apply below_drew1) | exact HB.out))
  rintro e w1 ⟨v01, rfl, ho, hb⟩
  have n0_ := Aside0.mk (Ow_lower ho (below_size (by repeat (first | (with_reducible first | exact HB.out | apply below_alloc | apply pw_below_drewN | apply below_drew1) | exact HB.out))))
  have n1_ := Aside0.mk (below_step (by repeat (first | (with_reducible first | exact HB.out | apply below_alloc | apply pw_below_drewN | apply below_drew1) | exact HB.out)) hb)
  clear HB ho hb
  have HO01 := n0_
  have HB := n1_
  clear n0_ n1_
  obtain ⟨B01, d01, e_, _, _⟩ := Ow_form HO01.out
  subst e_
  go_wp2_with fail
  refine (toIntS_calls _ _ l1 _ ?h2 HC1.out hn1).mono ?_
  case h2 => exact Kd.C_below HR1.out (by repeat (first | (with_reducible first | exact HB.out | apply below_alloc | apply pw_below_drewN | apply below_drew1) | exact HB.out))
  rintro e w2 ⟨v02, rfl, ho, hb⟩
  have m01_ := Aside0.mk (Ow_below (by first | exact HO01.out | exact Ow_drewN HO01.out _) hb)
  have s01_ := Aside0.mk (Apart_new (by first | exact HO01.out | exact Ow_drewN HO01.out _) ho)
  have n0_ := Aside0.mk (Ow_lower ho (below_size (by repeat (first | (with_reducible first | exact HB.out | apply below_alloc | apply pw_below_drewN | apply below_drew1) | exact HB.out))))
  have n1_ := Aside0.mk (below_step (by repeat (first | (with_reducible first | exact HB.out | apply below_alloc | apply pw_below_drewN | apply below_drew1) | exact HB.out)) hb)
  clear HB ho hb
  clear HO01
  have HO01 := m01_
  clear m01_
  have HS01_02 := s01_
  clear s01_
  have HO02 := n0_
  have HB := n1_
  clear n0_ n1_
  obtain ⟨B02, d02, e_, _, _⟩ := Ow_form HO02.out
  subst e_
  go_wp2_with fail
  refine (G.specEdgeLabels_calls _ _ l0 _ _ l1 _ ?h3a0 (Ow_cap HO01.out) hn0 HW0.out ?h3a1 (Ow_cap HO02.out) hn1 HW1.out).mono ?_
  case h3a0 => exact Ow_rd (by first | exact HO01.out | exact Ow_drewN HO01.out _)
  case h3a1 => exact Ow_rd (by first | exact HO02.out | exact Ow_drewN HO02.out _)
  rintro e w3 ⟨v03, rfl, ho, hb⟩
  have m01_ := Aside0.mk (Ow_below (by first | exact HO01.out | exact Ow_drewN HO01.out _) hb)
  have m02_ := Aside0.mk (Ow_below (by first | exact HO02.out | exact Ow_drewN HO02.out _) hb)
  have s01_ := Aside0.mk (Apart_new (by first | exact HO01.out | exact Ow_drewN HO01.out _) ho)
  have s02_ := Aside0.mk (Apart_new (by first | exact HO02.out | exact Ow_drewN HO02.out _) ho)
  have n0_ := Aside0.mk (Ow_lower ho (below_size (by repeat (first | (with_reducible first | exact HB.out | apply below_alloc | apply pw_below_drewN | apply below_drew1) | exact HB.out))))
  have n1_ := Aside0.mk (below_step (by repeat (first | (with_reducible first | exact HB.out | apply below_alloc | apply pw_below_drewN | apply below_drew1) | exact HB.out)) hb)
  clear HB ho hb
  clear HO01 HO02
  have HO01 := m01_
  clear m01_
  have HO02 := m02_
  clear m02_
  have HS01_03 := s01_
  clear s01_
  have HS02_03 := s02_
  clear s02_
  have HO03 := n0_
  have HB := n1_
  clear n0_ n1_
  obtain ⟨B03, d03, e_, _, _⟩ := Ow_form HO03.out
  subst e_
  go_wp2_with fail
  refine (toIntS_calls _ _ l0 _ ?h4 HC0.out hn0).mono ?_
  case h4 => exact Kd.C_below HR0.out (by repeat (first | (with_reducible first | exact HB.out | apply below_alloc | apply pw_below_drewN | apply below_drew1) | exact HB.out))
  rintro e w4 ⟨v04, rfl, ho, hb⟩
  have m01_ := Aside0.mk (Ow_below (by first | exact HO01.out | exact Ow_drewN HO01.out _) hb)
  have m02_ := Aside0.mk (Ow_below (by first | exact HO02.out | exact Ow_drewN HO02.out _) hb)
  have m03_ := Aside0.mk (Ow_below (by first | exact HO03.out | exact Ow_drewN HO03.out _) hb)
  have s01_ := Aside0.mk (Apart_new (by first | exact HO01.out | exact Ow_drewN HO01.out _) ho)
  have s02_ := Aside0.mk (Apart_new (by first | exact HO02.out | exact Ow_drewN HO02.out _) ho)
  have s03_ := Aside0.mk (Apart_new (by first | exact HO03.out | exact Ow_drewN HO03.out _) ho)
  have n0_ := Aside0.mk (Ow_lower ho (below_size (by repeat (first | (with_reducible first | exact HB.out | apply below_alloc | apply pw_below_drewN | apply below_drew1) | exact HB.out))))
  have n1_ := Aside0.mk (below_step (by repeat (first | (with_reducible first | exact HB.out | apply below_alloc | apply pw_below_drewN | apply below_drew1) | exact HB.out)) hb)
  clear HB ho hb
  clear HO01 HO02 HO03
  have HO01 := m01_
  clear m01_
  have HO02 := m02_
  clear m02_
  have HO03 := m03_
  clear m03_
  have HS01_04 := s01_
  clear s01_
  have HS02_04 := s02_
  clear s02_
  have HS03_04 := s03_
  clear s03_
  have HO04 := n0_
  have HB := n1_
  clear n0_ n1_
  obtain ⟨B04, d04, e_, _, _⟩ := Ow_form HO04.out
  subst e_
  go_wp2_with fail
  refine (toIntS_calls _ _ l1 _ ?h5 HC1.out hn1).mono ?_
  case h5 => exact Kd.C_below HR1.out (by repeat (first | (with_reducible first | exact HB.out | apply below_alloc | apply pw_below_drewN | apply below_drew1) | exact HB.out))
  rintro e w5 ⟨v05, rfl, ho, hb⟩
  have m01_ := Aside0.mk (Ow_below (by first | exact HO01.out | exact Ow_drewN HO01.out _) hb)
  have m02_ := Aside0.mk (Ow_below (by first | exact HO02.out | exact Ow_drewN HO02.out _) hb)
  have m03_ := Aside0.mk (Ow_below (by first | exact HO03.out | exact Ow_drewN HO03.out _) hb)
  have m04_ := Aside0.mk (Ow_below (by first | exact HO04.out | exact Ow_drewN HO04.out _) hb)
  have s01_ := Aside0.mk (Apart_new (by first | exact HO01.out | exact Ow_drewN HO01.out _) ho)
  have s02_ := Aside0.mk (Apart_new (by first | exact HO02.out | exact Ow_drewN HO02.out _) ho)
  have s03_ := Aside0.mk (Apart_new (by first | exact HO03.out | exact Ow_drewN HO03.out _) ho)
  have s04_ := Aside0.mk (Apart_new (by first | exact HO04.out | exact Ow_drewN HO04.out _) ho)
  have n0_ := Aside0.mk (Ow_lower ho (below_size (by repeat (first | (with_reducible first | exact HB.out | apply below_alloc | apply pw_below_drewN | apply below_drew1) | exact HB.out))))
  have n1_ := Aside0.mk (below_step (by repeat (first | (with_reducible first | exact HB.out | apply below_alloc | apply pw_below_drewN | apply below_drew1) | exact HB.out)) hb)
  clear HB ho hb
  clear HO01 HO02 HO03 HO04
  have HO01 := m01_
  clear m01_
  have HO02 := m02_
  clear m02_
  have HO03 := m03_
  clear m03_
  have HO04 := m04_
  clear m04_
  have HS01_05 := s01_
  clear s01_
  have HS02_05 := s02_
  clear s02_
  have HS03_05 := s03_
  clear s03_
  have HS04_05 := s04_
  clear s04_
  have HO05 := n0_
  have HB := n1_
  clear n0_ n1_
  obtain ⟨B05, d05, e_, _, _⟩ := Ow_form HO05.out
  subst e_
  go_wp2_with fail
  refine (G.implEdgeLabels_calls _ _ l0 _ _ l1 _ ?h6a0 (Ow_cap HO04.out) hn0 HW0.out ?h6a1 (Ow_cap HO05.out) hn1 HW1.out).mono ?_
  case h6a0 => exact Ow_rd (by first | exact HO04.out | exact Ow_drewN HO04.out _)
  case h6a1 => exact Ow_rd (by first | exact HO05.out | exact Ow_drewN HO05.out _)
  rintro e w6 ⟨v06, rfl, ho, hb⟩
  have m01_ := Aside0.mk (Ow_below (by first | exact HO01.out | exact Ow_drewN HO01.out _) hb)
  have m02_ := Aside0.mk (Ow_below (by first | exact HO02.out | exact Ow_drewN HO02.out _) hb)
  have m03_ := Aside0.mk (Ow_below (by first | exact HO03.out | exact Ow_drewN HO03.out _) hb)
  have m04_ := Aside0.mk (Ow_below (by first | exact HO04.out | exact Ow_drewN HO04.out _) hb)
  have m05_ := Aside0.mk (Ow_below (by first | exact HO05.out | exact Ow_drewN HO05.out _) hb)
  have s01_ := Aside0.mk (Apart_new (by first | exact HO01.out | exact Ow_drewN HO01.out _) ho)
  have s02_ := Aside0.mk (Apart_new (by first | exact HO02.out | exact Ow_drewN HO02.out _) ho)
  have s03_ := Aside0.mk (Apart_new (by first | exact HO03.out | exact Ow_drewN HO03.out _) ho)
  have s04_ := Aside0.mk (Apart_new (by first | exact HO04.out | exact Ow_drewN HO04.out _) ho)
  have s05_ := Aside0.mk (Apart_new (by first | exact HO05.out | exact Ow_drewN HO05.out _) ho)
  have n0_ := Aside0.mk (Ow_lower ho (below_size (by repeat (first | (with_reducible first | exact HB.out | apply below_alloc | apply pw_below_drewN | apply below_drew1) | exact HB.out))))
  have n1_ := Aside0.mk (below_step (by repeat (first | (with_reducible first | exact HB.out | apply below_alloc | apply pw_below_drewN | apply below_drew1) | exact HB.out)) hb)
  clear HB ho hb
  clear HO01 HO02 HO03 HO04 HO05
  have HO01 := m01_
  clear m01_
  have HO02 := m02_
  clear m02_
  have HO03 := m03_
  clear m03_
  have HO04 := m04_
  clear m04_
  have HO05 := m05_
  clear m05_
  have HS01_06 := s01_
  clear s01_
  have HS02_06 := s02_
  clear s02_
  have HS03_06 := s03_
  clear s03_
  have HS04_06 := s04_
  clear s04_
  have HS05_06 := s05_
  clear s05_
  have HO06 := n0_
  have HB := n1_
  clear n0_ n1_
  obtain ⟨B06, d06, e_, _, _⟩ := Ow_form HO06.out
  subst e_
  go_wp2_with fail
  refine (eqIntS_calls _ _ _ _ ((G.EdgeF l0 l1).1) _ ?h7a (Ow_cap HO06.out) ?h7b (Ow_cap HO03.out) HF.out).mono ?_
  case h7a => exact Ow_rd (by first | exact HO06.out | exact Ow_drewN HO06.out _)
  case h7b => exact Ow_rd (by first | exact HO03.out | exact Ow_drewN HO03.out _)
  rintro e w7 ⟨rfl, hd⟩
  have m01_ := Aside0.mk (Ow_drawn (by first | exact HO01.out | exact Ow_drewN HO01.out _) hd)
  have m02_ := Aside0.mk (Ow_drawn (by first | exact HO02.out | exact Ow_drewN HO02.out _) hd)
  have m03_ := Aside0.mk (Ow_drawn (by first | exact HO03.out | exact Ow_drewN HO03.out _) hd)
  have m04_ := Aside0.mk (Ow_drawn (by first | exact HO04.out | exact Ow_drewN HO04.out _) hd)
  have m05_ := Aside0.mk (Ow_drawn (by first | exact HO05.out | exact Ow_drewN HO05.out _) hd)
  have m06_ := Aside0.mk (Ow_drawn (by first | exact HO06.out | exact Ow_drewN HO06.out _) hd)
  have n1_ := Aside0.mk (below_drawn (by repeat (first | (with_reducible first | exact HB.out | apply below_alloc | apply pw_below_drewN | apply below_drew1) | exact HB.out)) hd)
  clear HB hd
  clear HO01 HO02 HO03 HO04 HO05 HO06
  have HO01 := m01_
  clear m01_
  have HO02 := m02_
  clear m02_
  have HO03 := m03_
  clear m03_
  have HO04 := m04_
  clear m04_
  have HO05 := m05_
  clear m05_
  have HO06 := m06_
  clear m06_
  have HB := n1_
  clear n1_
  go_wp2_with fail
  refine (toIntS_calls _ _ l0 _ ?h8 HC0.out hn0).mono ?_
  case h8 => exact Kd.C_below HR0.out (by repeat (first | (with_reducible first | exact HB.out | apply below_alloc | apply pw_below_drewN | apply below_drew1) | exact HB.out))
  rintro e w8 ⟨v07, rfl, ho, hb⟩
  have m01_ := Aside0.mk (Ow_below (by first | exact HO01.out | exact Ow_drewN HO01.out _) hb)
  have m02_ := Aside0.mk (Ow_below (by first | exact HO02.out | exact Ow_drewN HO02.out _) hb)
  have m03_ := Aside0.mk (Ow_below (by first | exact HO03.out | exact Ow_drewN HO03.out _) hb)
  have m04_ := Aside0.mk (Ow_below (by first | exact HO04.out | exact Ow_drewN HO04.out _) hb)
  have m05_ := Aside0.mk (Ow_below (by first | exact HO05.out | exact Ow_drewN HO05.out _) hb)
  have m06_ := Aside0.mk (Ow_below (by first | exact HO06.out | exact Ow_drewN HO06.out _) hb)
  have s01_ := Aside0.mk (Apart_new (by first | exact HO01.out | exact Ow_drewN HO01.out _) ho)
  have s02_ := Aside0.mk (Apart_new (by first | exact HO02.out | exact Ow_drewN HO02.out _) ho)
  have s03_ := Aside0.mk (Apart_new (by first | exact HO03.out | exact Ow_drewN HO03.out _) ho)
  have s04_ := Aside0.mk (Apart_new (by first | exact HO04.out | exact Ow_drewN HO04.out _) ho)
  have s05_ := Aside0.mk (Apart_new (by first | exact HO05.out | exact Ow_drewN HO05.out _) ho)
  have s06_ := Aside0.mk (Apart_new (by first | exact HO06.out | exact Ow_drewN HO06.out _) ho)
  have n0_ := Aside0.mk (Ow_lower ho (below_size (by repeat (first | (with_reducible first | exact HB.out | apply below_alloc | apply pw_below_drewN | apply below_drew1) | exact HB.out))))
  have n1_ := Aside0.mk (below_step (by repeat (first | (with_reducible first | exact HB.out | apply below_alloc | apply pw_below_drewN | apply below_drew1) | exact HB.out)) hb)
  clear HB ho hb
  clear HO01 HO02 HO03 HO04 HO05 HO06
  have HO01 := m01_
  clear m01_
  have HO02 := m02_
  clear m02_
  have HO03 := m03_
  clear m03_
  have HO04 := m04_
  clear m04_
  have HO05 := m05_
  clear m05_
  have HO06 := m06_
  clear m06_
  have HS01_07 := s01_
  clear s01_
  have HS02_07 := s02_
  clear s02_
  have HS03_07 := s03_
  clear s03_
  have HS04_07 := s04_
  clear s04_
  have HS05_07 := s05_
  clear s05_
  have HS06_07 := s06_
  clear s06_
  have HO07 := n0_
  have HB := n1_
  clear n0_ n1_
  obtain ⟨B07, d07, e_, _, _⟩ := Ow_form HO07.out
  subst e_
  go_wp2_with fail
  refine (eqIntS_calls _ _ _ _ (l0) _ ?h9a (Ow_cap HO04.out) ?h9b (Ow_cap HO07.out) hn0).mono ?_
  case h9a => exact Ow_rd (by first | exact HO04.out | exact Ow_drewN HO04.out _)
  case h9b => exact Ow_rd (by first | exact HO07.out | exact Ow_drewN HO07.out _)
  rintro e w9 ⟨rfl, hd⟩
  have m01_ := Aside0.mk (Ow_drawn (by first | exact HO01.out | exact Ow_drewN HO01.out _) hd)
  have m02_ := Aside0.mk (Ow_drawn (by first | exact HO02.out | exact Ow_drewN HO02.out _) hd)
  have m03_ := Aside0.mk (Ow_drawn (by first | exact HO03.out | exact Ow_drewN HO03.out _) hd)
  have m04_ := Aside0.mk (Ow_drawn (by first | exact HO04.out | exact Ow_drewN HO04.out _) hd)
  have m05_ := Aside0.mk (Ow_drawn (by first | exact HO05.out | exact Ow_drewN HO05.out _) hd)
  have m06_ := Aside0.mk (Ow_drawn (by first | exact HO06.out | exact Ow_drewN HO06.out _) hd)
  have m07_ := Aside0.mk (Ow_drawn (by first | exact HO07.out | exact Ow_drewN HO07.out _) hd)
  have n1_ := Aside0.mk (below_drawn (by repeat (first | (with_reducible first | exact HB.out | apply below_alloc | apply pw_below_drewN | apply below_drew1) | exact HB.out)) hd)
  clear HB hd
  clear HO01 HO02 HO03 HO04 HO05 HO06 HO07
  have HO01 := m01_
  clear m01_
  have HO02 := m02_
  clear m02_
  have HO03 := m03_
  clear m03_
  have HO04 := m04_
  clear m04_
  have HO05 := m05_
  clear m05_
  have HO06 := m06_
  clear m06_
  have HO07 := m07_
  clear m07_
  have HB := n1_
  clear n1_
  go_wp2_with fail
  refine (toIntS_calls _ _ l1 _ ?h10 HC1.out hn1).mono ?_
  case h10 => exact Kd.C_below HR1.out (by repeat (first | (with_reducible first | exact HB.out | apply below_alloc | apply pw_below_drewN | apply below_drew1) | exact HB.out))
  rintro e w10 ⟨v08, rfl, ho, hb⟩
  have m01_ := Aside0.mk (Ow_below (by first | exact HO01.out | exact Ow_drewN HO01.out _) hb)
  have m02_ := Aside0.mk (Ow_below (by first | exact HO02.out | exact Ow_drewN HO02.out _) hb)
  have m03_ := Aside0.mk (Ow_below (by first | exact HO03.out | exact Ow_drewN HO03.out _) hb)
  have m04_ := Aside0.mk (Ow_below (by first | exact HO04.out | exact Ow_drewN HO04.out _) hb)
  have m05_ := Aside0.mk (Ow_below (by first | exact HO05.out | exact Ow_drewN HO05.out _) hb)
  have m06_ := Aside0.mk (Ow_below (by first | exact HO06.out | exact Ow_drewN HO06.out _) hb)
  have m07_ := Aside0.mk (Ow_below (by first | exact HO07.out | exact Ow_drewN HO07.out _) hb)
  have s01_ := Aside0.mk (Apart_new (by first | exact HO01.out | exact Ow_drewN HO01.out _) ho)
  have s02_ := Aside0.mk (Apart_new (by first | exact HO02.out | exact Ow_drewN HO02.out _) ho)
  have s03_ := Aside0.mk (Apart_new (by first | exact HO03.out | exact Ow_drewN HO03.out _) ho)
  have s04_ := Aside0.mk (Apart_new (by first | exact HO04.out | exact Ow_drewN HO04.out _) ho)
  have s05_ := Aside0.mk (Apart_new (by first | exact HO05.out | exact Ow_drewN HO05.out _) ho)
  have s06_ := Aside0.mk (Apart_new (by first | exact HO06.out | exact Ow_drewN HO06.out _) ho)
  have s07_ := Aside0.mk (Apart_new (by first | exact HO07.out | exact Ow_drewN HO07.out _) ho)
  have n0_ := Aside0.mk (Ow_lower ho (below_size (by repeat (first | (with_reducible first | exact HB.out | apply below_alloc | apply pw_below_drewN | apply below_drew1) | exact HB.out))))
  have n1_ := Aside0.mk (below_step (by repeat (first | (with_reducible first | exact HB.out | apply below_alloc | apply pw_below_drewN | apply below_drew1) | exact HB.out)) hb)
  clear HB ho hb
  clear HO01 HO02 HO03 HO04 HO05 HO06 HO07
  have HO01 := m01_
  clear m01_
  have HO02 := m02_
  clear m02_
  have HO03 := m03_
  clear m03_
  have HO04 := m04_
  clear m04_
  have HO05 := m05_
  clear m05_
  have HO06 := m06_
  clear m06_
  have HO07 := m07_
  clear m07_
  have HS01_08 := s01_
  clear s01_
  have HS02_08 := s02_
  clear s02_
  have HS03_08 := s03_
  clear s03_
  have HS04_08 := s04_
  clear s04_
  have HS05_08 := s05_
  clear s05_
  have HS06_08 := s06_
  clear s06_
  have HS07_08 := s07_
  clear s07_
  have HO08 := n0_
  have HB := n1_
  clear n0_ n1_
  obtain ⟨B08, d08, e_, _, _⟩ := Ow_form HO08.out
  subst e_
  go_wp2_with fail
  refine (eqIntS_calls _ _ _ _ (l1) _ ?h11a (Ow_cap HO05.out) ?h11b (Ow_cap HO08.out) hn1).mono ?_
  case h11a => exact Ow_rd (by first | exact HO05.out | exact Ow_drewN HO05.out _)
  case h11b => exact Ow_rd (by first | exact HO08.out | exact Ow_drewN HO08.out _)
  rintro e w11 ⟨rfl, hd⟩
  have m01_ := Aside0.mk (Ow_drawn (by first | exact HO01.out | exact Ow_drewN HO01.out _) hd)
  have m02_ := Aside0.mk (Ow_drawn (by first | exact HO02.out | exact Ow_drewN HO02.out _) hd)
  have m03_ := Aside0.mk (Ow_drawn (by first | exact HO03.out | exact Ow_drewN HO03.out _) hd)
  have m04_ := Aside0.mk (Ow_drawn (by first | exact HO04.out | exact Ow_drewN HO04.out _) hd)
  have m05_ := Aside0.mk (Ow_drawn (by first | exact HO05.out | exact Ow_drewN HO05.out _) hd)
  have m06_ := Aside0.mk (Ow_drawn (by first | exact HO06.out | exact Ow_drewN HO06.out _) hd)
  have m07_ := Aside0.mk (Ow_drawn (by first | exact HO07.out | exact Ow_drewN HO07.out _) hd)
  have m08_ := Aside0.mk (Ow_drawn (by first | exact HO08.out | exact Ow_drewN HO08.out _) hd)
  have n1_ := Aside0.mk (below_drawn (by repeat (first | (with_reducible first | exact HB.out | apply below_alloc | apply pw_below_drewN | apply below_drew1) | exact HB.out)) hd)
  clear HB hd
  clear HO01 HO02 HO03 HO04 HO05 HO06 HO07 HO08
  have HO01 := m01_
  clear m01_
  have HO02 := m02_
  clear m02_
  have HO03 := m03_
  clear m03_
  have HO04 := m04_
  clear m04_
  have HO05 := m05_
  clear m05_
  have HO06 := m06_
  clear m06_
  have HO07 := m07_
  clear m07_
  have HO08 := m08_
  clear m08_
  have HB := n1_
  clear n1_
  go_wp2_with fail
  refine (markIntS_calls _ (l0) _ w.heap.size _ ?h12 hn0 (by omega) (by have := HB; omega)).mono ?_
  case h12 => exact (by first | exact HO04.out | exact Ow_drewN HO04.out _)
  rintro e w12 ⟨rfl, ho, hg⟩
  have m01_ := Aside0.mk (Ow_keep (by first | exact HO01.out | exact Ow_drewN HO01.out _) hg HS01_04.out)
  have m02_ := Aside0.mk (Ow_keep (by first | exact HO02.out | exact Ow_drewN HO02.out _) hg HS02_04.out)
  have m03_ := Aside0.mk (Ow_keep (by first | exact HO03.out | exact Ow_drewN HO03.out _) hg HS03_04.out)
  have m05_ := Aside0.mk (Ow_keep (by first | exact HO05.out | exact Ow_drewN HO05.out _) hg (Apart.symm HS04_05.out))
  have m06_ := Aside0.mk (Ow_keep (by first | exact HO06.out | exact Ow_drewN HO06.out _) hg (Apart.symm HS04_06.out))
  have m07_ := Aside0.mk (Ow_keep (by first | exact HO07.out | exact Ow_drewN HO07.out _) hg (Apart.symm HS04_07.out))
  have m08_ := Aside0.mk (Ow_keep (by first | exact HO08.out | exact Ow_drewN HO08.out _) hg (Apart.symm HS04_08.out))
  have n1_ := Aside0.mk (below_grown (by repeat (first | (with_reducible first | exact HB.out | apply below_alloc | apply pw_below_drewN | apply below_drew1) | exact HB.out)) hg (by first | exact HO04.out | exact Ow_drewN HO04.out _))
  clear HB hg
  clear HO01 HO02 HO03 HO04 HO05 HO06 HO07 HO08
  have HO01 := m01_
  clear m01_
  have HO02 := m02_
  clear m02_
  have HO03 := m03_
  clear m03_
  have HO05 := m05_
  clear m05_
  have HO06 := m06_
  clear m06_
  have HO07 := m07_
  clear m07_
  have HO08 := m08_
  clear m08_
  have HO04 := Aside0.mk ho
  clear ho
  have HB := n1_
  clear n1_
  go_wp2_with fail
  refine (markIntS_calls _ (l1) _ w.heap.size _ ?h13 hn1 (by omega) (by have := HB; omega)).mono ?_
  case h13 => exact (by first | exact HO05.out | exact Ow_drewN HO05.out _)
  rintro e w13 ⟨rfl, ho, hg⟩
  have m01_ := Aside0.mk (Ow_keep (by first | exact HO01.out | exact Ow_drewN HO01.out _) hg HS01_05.out)
  have m02_ := Aside0.mk (Ow_keep (by first | exact HO02.out | exact Ow_drewN HO02.out _) hg HS02_05.out)
  have m03_ := Aside0.mk (Ow_keep (by first | exact HO03.out | exact Ow_drewN HO03.out _) hg HS03_05.out)
  have m04_ := Aside0.mk (Ow_keep (by first | exact HO04.out | exact Ow_drewN HO04.out _) hg HS04_05.out)
  have m06_ := Aside0.mk (Ow_keep (by first | exact HO06.out | exact Ow_drewN HO06.out _) hg (Apart.symm HS05_06.out))
  have m07_ := Aside0.mk (Ow_keep (by first | exact HO07.out | exact Ow_drewN HO07.out _) hg (Apart.symm HS05_07.out))
  have m08_ := Aside0.mk (Ow_keep (by first | exact HO08.out | exact Ow_drewN HO08.out _) hg (Apart.symm HS05_08.out))
  have n1_ := Aside0.mk (below_grown (by repeat (first | (with_reducible first | exact HB.out | apply below_alloc | apply pw_below_drewN | apply below_drew1) | exact HB.out)) hg (by first | exact HO05.out | exact Ow_drewN HO05.out _))
  clear HB hg
  clear HO01 HO02 HO03 HO04 HO05 HO06 HO07 HO08
  have HO01 := m01_
  clear m01_
  have HO02 := m02_
  clear m02_
  have HO03 := m03_
  clear m03_
  have HO04 := m04_
  clear m04_
  have HO06 := m06_
  clear m06_
  have HO07 := m07_
  clear m07_
  have HO08 := m08_
  clear m08_
  have HO05 := Aside0.mk ho
  clear ho
  have HB := n1_
  clear n1_
  go_wp2_with fail
  refine (eqIntS_calls _ _ _ _ ((G.EdgeF l0 l1).1) _ ?h14a (Ow_cap HO06.out) ?h14b (Ow_cap HO03.out) HF.out).mono ?_
  case h14a => exact Ow_rd (by first | exact HO06.out | exact Ow_drewN HO06.out _)
  case h14b => exact Ow_rd (by first | exact HO03.out | exact Ow_drewN HO03.out _)
  rintro e w14 ⟨rfl, hd⟩
  have m01_ := Aside0.mk (Ow_drawn (by first | exact HO01.out | exact Ow_drewN HO01.out _) hd)
  have m02_ := Aside0.mk (Ow_drawn (by first | exact HO02.out | exact Ow_drewN HO02.out _) hd)
  have m03_ := Aside0.mk (Ow_drawn (by first | exact HO03.out | exact Ow_drewN HO03.out _) hd)
  have m04_ := Aside0.mk (Ow_drawn (by first | exact HO04.out | exact Ow_drewN HO04.out _) hd)
  have m05_ := Aside0.mk (Ow_drawn (by first | exact HO05.out | exact Ow_drewN HO05.out _) hd)
  have m06_ := Aside0.mk (Ow_drawn (by first | exact HO06.out | exact Ow_drewN HO06.out _) hd)
  have m07_ := Aside0.mk (Ow_drawn (by first | exact HO07.out | exact Ow_drewN HO07.out _) hd)
  have m08_ := Aside0.mk (Ow_drawn (by first | exact HO08.out | exact Ow_drewN HO08.out _) hd)
  have n1_ := Aside0.mk (below_drawn (by repeat (first | (with_reducible first | exact HB.out | apply below_alloc | apply pw_below_drewN | apply below_drew1) | exact HB.out)) hd)
  clear HB hd
  clear HO01 HO02 HO03 HO04 HO05 HO06 HO07 HO08
  have HO01 := m01_
  clear m01_
  have HO02 := m02_
  clear m02_
  have HO03 := m03_
  clear m03_
  have HO04 := m04_
  clear m04_
  have HO05 := m05_
  clear m05_
  have HO06 := m06_
  clear m06_
  have HO07 := m07_
  clear m07_
  have HO08 := m08_
  clear m08_
  have HB := n1_
  clear n1_
  go_wp2_with fail
  refine (markIntS_calls _ ((G.EdgeF l0 l1).1) _ w.heap.size _ ?h15 HF.out (by omega) (by have := HB; omega)).mono ?_
  case h15 => exact (by first | exact HO06.out | exact Ow_drewN HO06.out _)
  rintro e w15 ⟨rfl, ho, hg⟩
  have m01_ := Aside0.mk (Ow_keep (by first | exact HO01.out | exact Ow_drewN HO01.out _) hg HS01_06.out)
  have m02_ := Aside0.mk (Ow_keep (by first | exact HO02.out | exact Ow_drewN HO02.out _) hg HS02_06.out)
  have m03_ := Aside0.mk (Ow_keep (by first | exact HO03.out | exact Ow_drewN HO03.out _) hg HS03_06.out)
  have m04_ := Aside0.mk (Ow_keep (by first | exact HO04.out | exact Ow_drewN HO04.out _) hg HS04_06.out)
  have m05_ := Aside0.mk (Ow_keep (by first | exact HO05.out | exact Ow_drewN HO05.out _) hg HS05_06.out)
  have m07_ := Aside0.mk (Ow_keep (by first | exact HO07.out | exact Ow_drewN HO07.out _) hg (Apart.symm HS06_07.out))
  have m08_ := Aside0.mk (Ow_keep (by first | exact HO08.out | exact Ow_drewN HO08.out _) hg (Apart.symm HS06_08.out))
  have n1_ := Aside0.mk (below_grown (by repeat (first | (with_reducible first | exact HB.out | apply below_alloc | apply pw_below_drewN | apply below_drew1) | exact HB.out)) hg (by first | exact HO06.out | exact Ow_drewN HO06.out _))
  clear HB hg
  clear HO01 HO02 HO03 HO04 HO05 HO06 HO07 HO08
  have HO01 := m01_
  clear m01_
  have HO02 := m02_
  clear m02_
  have HO03 := m03_
  clear m03_
  have HO04 := m04_
  clear m04_
  have HO05 := m05_
  clear m05_
  have HO07 := m07_
  clear m07_
  have HO08 := m08_
  clear m08_
  have HO06 := Aside0.mk ho
  clear ho
  have HB := n1_
  clear n1_
  go_wp2_with fail
  refine (heldIntS_calls _ _ ((G.EdgeF l0 l1).1).length _ ?h16 ?h16c HF.out).mono ?_
  case h16 => exact Ow_rd (by first | exact HO06.out | exact Ow_drewN HO06.out _)
  case h16c => have hcap_ := Ow_cap HO06.out; rwa [marks_length] at hcap_
  rintro e w16 ⟨rfl, hd⟩
  have m01_ := Aside0.mk (Ow_drawn (by first | exact HO01.out | exact Ow_drewN HO01.out _) hd)
  have m02_ := Aside0.mk (Ow_drawn (by first | exact HO02.out | exact Ow_drewN HO02.out _) hd)
  have m03_ := Aside0.mk (Ow_drawn (by first | exact HO03.out | exact Ow_drewN HO03.out _) hd)
  have m04_ := Aside0.mk (Ow_drawn (by first | exact HO04.out | exact Ow_drewN HO04.out _) hd)
  have m05_ := Aside0.mk (Ow_drawn (by first | exact HO05.out | exact Ow_drewN HO05.out _) hd)
  have m06_ := Aside0.mk (Ow_drawn (by first | exact HO06.out | exact Ow_drewN HO06.out _) hd)
  have m07_ := Aside0.mk (Ow_drawn (by first | exact HO07.out | exact Ow_drewN HO07.out _) hd)
  have m08_ := Aside0.mk (Ow_drawn (by first | exact HO08.out | exact Ow_drewN HO08.out _) hd)
  have n1_ := Aside0.mk (below_drawn (by repeat (first | (with_reducible first | exact HB.out | apply below_alloc | apply pw_below_drewN | apply below_drew1) | exact HB.out)) hd)
  clear HB hd
  clear HO01 HO02 HO03 HO04 HO05 HO06 HO07 HO08
  have HO01 := m01_
  clear m01_
  have HO02 := m02_
  clear m02_
  have HO03 := m03_
  clear m03_
  have HO04 := m04_
  clear m04_
  have HO05 := m05_
  clear m05_
  have HO06 := m06_
  clear m06_
  have HO07 := m07_
  clear m07_
  have HO08 := m08_
  clear m08_
  have HB := n1_
  clear n1_
  go_wp2_with fail
  refine (toIntS_calls _ _ l0 _ ?h17 HC0.out hn0).mono ?_
  case h17 => exact Kd.C_below HR0.out (by repeat (first | (with_reducible first | exact HB.out | apply below_alloc | apply pw_below_drewN | apply below_drew1) | exact HB.out))
  rintro e w17 ⟨v09, rfl, ho, hb⟩
  have m01_ := Aside0.mk (Ow_below (by first | exact HO01.out | exact Ow_drewN HO01.out _) hb)
  have m02_ := Aside0.mk (Ow_below (by first | exact HO02.out | exact Ow_drewN HO02.out _) hb)
  have m03_ := Aside0.mk (Ow_below (by first | exact HO03.out | exact Ow_drewN HO03.out _) hb)
  have m04_ := Aside0.mk (Ow_below (by first | exact HO04.out | exact Ow_drewN HO04.out _) hb)
  have m05_ := Aside0.mk (Ow_below (by first | exact HO05.out | exact Ow_drewN HO05.out _) hb)
  have m06_ := Aside0.mk (Ow_below (by first | exact HO06.out | exact Ow_drewN HO06.out _) hb)
  have m07_ := Aside0.mk (Ow_below (by first | exact HO07.out | exact Ow_drewN HO07.out _) hb)
  have m08_ := Aside0.mk (Ow_below (by first | exact HO08.out | exact Ow_drewN HO08.out _) hb)
  have s01_ := Aside0.mk (Apart_new (by first | exact HO01.out | exact Ow_drewN HO01.out _) ho)
  have s02_ := Aside0.mk (Apart_new (by first | exact HO02.out | exact Ow_drewN HO02.out _) ho)
  have s03_ := Aside0.mk (Apart_new (by first | exact HO03.out | exact Ow_drewN HO03.out _) ho)
  have s04_ := Aside0.mk (Apart_new (by first | exact HO04.out | exact Ow_drewN HO04.out _) ho)
  have s05_ := Aside0.mk (Apart_new (by first | exact HO05.out | exact Ow_drewN HO05.out _) ho)
  have s06_ := Aside0.mk (Apart_new (by first | exact HO06.out | exact Ow_drewN HO06.out _) ho)
  have s07_ := Aside0.mk (Apart_new (by first | exact HO07.out | exact Ow_drewN HO07.out _) ho)
  have s08_ := Aside0.mk (Apart_new (by first | exact HO08.out | exact Ow_drewN HO08.out _) ho)
  have n0_ := Aside0.mk (Ow_lower ho (below_size (by repeat (first | (with_reducible first | exact HB.out | apply below_alloc | apply pw_below_drewN | apply below_drew1) | exact HB.out))))
  have n1_ := Aside0.mk (below_step (by repeat (first | (with_reducible first | exact HB.out | apply below_alloc | apply pw_below_drewN | apply below_drew1) | exact HB.out)) hb)
  clear HB ho hb
  clear HO01 HO02 HO03 HO04 HO05 HO06 HO07 HO08
  have HO01 := m01_
  clear m01_
  have HO02 := m02_
  clear m02_
  have HO03 := m03_
  clear m03_
  have HO04 := m04_
  clear m04_
  have HO05 := m05_
  clear m05_
  have HO06 := m06_
  clear m06_
  have HO07 := m07_
  clear m07_
  have HO08 := m08_
  clear m08_
  have HS01_09 := s01_
  clear s01_
  have HS02_09 := s02_
  clear s02_
  have HS03_09 := s03_
  clear s03_
  have HS04_09 := s04_
  clear s04_
  have HS05_09 := s05_
  clear s05_
  have HS06_09 := s06_
  clear s06_
  have HS07_09 := s07_
  clear s07_
  have HS08_09 := s08_
  clear s08_
  have HO09 := n0_
  have HB := n1_
  clear n0_ n1_
  obtain ⟨B09, d09, e_, _, _⟩ := Ow_form HO09.out
  subst e_
  go_wp2_with fail
  refine (toIntS_calls _ _ l1 _ ?h18 HC1.out hn1).mono ?_
  case h18 => exact Kd.C_below HR1.out (by repeat (first | (with_reducible first | exact HB.out | apply below_alloc | apply pw_below_drewN | apply below_drew1) | exact HB.out))
  rintro e w18 ⟨v10, rfl, ho, hb⟩
  have m01_ := Aside0.mk (Ow_below (by first | exact HO01.out | exact Ow_drewN HO01.out _) hb)
  have m02_ := Aside0.mk (Ow_below (by first | exact HO02.out | exact Ow_drewN HO02.out _) hb)
  have m03_ := Aside0.mk (Ow_below (by first | exact HO03.out | exact Ow_drewN HO03.out _) hb)
  have m04_ := Aside0.mk (Ow_below (by first | exact HO04.out | exact Ow_drewN HO04.out _) hb)
  have m05_ := Aside0.mk (Ow_below (by first | exact HO05.out | exact Ow_drewN HO05.out _) hb)
  have m06_ := Aside0.mk (Ow_below (by first | exact HO06.out | exact Ow_drewN HO06.out _) hb)
  have m07_ := Aside0.mk (Ow_below (by first | exact HO07.out | exact Ow_drewN HO07.out _) hb)
  have m08_ := Aside0.mk (Ow_below (by first | exact HO08.out | exact Ow_drewN HO08.out _) hb)
  have m09_ := Aside0.mk (Ow_below (by first | exact HO09.out | exact Ow_drewN HO09.out _) hb)
  have s01_ := Aside0.mk (Apart_new (by first | exact HO01.out | exact Ow_drewN HO01.out _) ho)
  have s02_ := Aside0.mk (Apart_new (by first | exact HO02.out | exact Ow_drewN HO02.out _) ho)
  have s03_ := Aside0.mk (Apart_new (by first | exact HO03.out | exact Ow_drewN HO03.out _) ho)
  have s04_ := Aside0.mk (Apart_new (by first | exact HO04.out | exact Ow_drewN HO04.out _) ho)
  have s05_ := Aside0.mk (Apart_new (by first | exact HO05.out | exact Ow_drewN HO05.out _) ho)
  have s06_ := Aside0.mk (Apart_new (by first | exact HO06.out | exact Ow_drewN HO06.out _) ho)
  have s07_ := Aside0.mk (Apart_new (by first | exact HO07.out | exact Ow_drewN HO07.out _) ho)
  have s08_ := Aside0.mk (Apart_new (by first | exact HO08.out | exact Ow_drewN HO08.out _) ho)
  have s09_ := Aside0.mk (Apart_new (by first | exact HO09.out | exact Ow_drewN HO09.out _) ho)
  have n0_ := Aside0.mk (Ow_lower ho (below_size (by repeat (first | (with_reducible first | exact HB.out | apply below_alloc | apply pw_below_drewN | apply below_drew1) | exact HB.out))))
  have n1_ := Aside0.mk (below_step (by repeat (first | (with_reducible first | exact HB.out | apply below_alloc | apply pw_below_drewN | apply below_drew1) | exact HB.out)) hb)
  clear HB ho hb
  clear HO01 HO02 HO03 HO04 HO05 HO06 HO07 HO08 HO09
  have HO01 := m01_
  clear m01_
  have HO02 := m02_
  clear m02_
  have HO03 := m03_
  clear m03_
  have HO04 := m04_
  clear m04_
  have HO05 := m05_
  clear m05_
  have HO06 := m06_
  clear m06_
  have HO07 := m07_
  clear m07_
  have HO08 := m08_
  clear m08_
  have HO09 := m09_
  clear m09_
  have HS01_10 := s01_
  clear s01_
  have HS02_10 := s02_
  clear s02_
  have HS03_10 := s03_
  clear s03_
  have HS04_10 := s04_
  clear s04_
  have HS05_10 := s05_
  clear s05_
  have HS06_10 := s06_
  clear s06_
  have HS07_10 := s07_
  clear s07_
  have HS08_10 := s08_
  clear s08_
  have HS09_10 := s09_
  clear s09_
  have HO10 := n0_
  have HB := n1_
  clear n0_ n1_
  obtain ⟨B10, d10, e_, _, _⟩ := Ow_form HO10.out
  subst e_
  go_wp2_with fail
  refine (G.implEdgeLabels_calls _ _ l0 _ _ l1 _ ?h19a0 (Ow_cap HO09.out) hn0 HW0.out ?h19a1 (Ow_cap HO10.out) hn1 HW1.out).mono ?_
  case h19a0 => exact Ow_rd (by first | exact HO09.out | exact Ow_drewN HO09.out _)
  case h19a1 => exact Ow_rd (by first | exact HO10.out | exact Ow_drewN HO10.out _)
  rintro e w19 ⟨v11, rfl, ho, hb⟩
  have m01_ := Aside0.mk (Ow_below (by first | exact HO01.out | exact Ow_drewN HO01.out _) hb)
  have m02_ := Aside0.mk (Ow_below (by first | exact HO02.out | exact Ow_drewN HO02.out _) hb)
  have m03_ := Aside0.mk (Ow_below (by first | exact HO03.out | exact Ow_drewN HO03.out _) hb)
  have m04_ := Aside0.mk (Ow_below (by first | exact HO04.out | exact Ow_drewN HO04.out _) hb)
  have m05_ := Aside0.mk (Ow_below (by first | exact HO05.out | exact Ow_drewN HO05.out _) hb)
  have m06_ := Aside0.mk (Ow_below (by first | exact HO06.out | exact Ow_drewN HO06.out _) hb)
  have m07_ := Aside0.mk (Ow_below (by first | exact HO07.out | exact Ow_drewN HO07.out _) hb)
  have m08_ := Aside0.mk (Ow_below (by first | exact HO08.out | exact Ow_drewN HO08.out _) hb)
  have m09_ := Aside0.mk (Ow_below (by first | exact HO09.out | exact Ow_drewN HO09.out _) hb)
  have m10_ := Aside0.mk (Ow_below (by first | exact HO10.out | exact Ow_drewN HO10.out _) hb)
  have s01_ := Aside0.mk (Apart_new (by first | exact HO01.out | exact Ow_drewN HO01.out _) ho)
  have s02_ := Aside0.mk (Apart_new (by first | exact HO02.out | exact Ow_drewN HO02.out _) ho)
  have s03_ := Aside0.mk (Apart_new (by first | exact HO03.out | exact Ow_drewN HO03.out _) ho)
  have s04_ := Aside0.mk (Apart_new (by first | exact HO04.out | exact Ow_drewN HO04.out _) ho)
  have s05_ := Aside0.mk (Apart_new (by first | exact HO05.out | exact Ow_drewN HO05.out _) ho)
  have s06_ := Aside0.mk (Apart_new (by first | exact HO06.out | exact Ow_drewN HO06.out _) ho)
  have s07_ := Aside0.mk (Apart_new (by first | exact HO07.out | exact Ow_drewN HO07.out _) ho)
  have s08_ := Aside0.mk (Apart_new (by first | exact HO08.out | exact Ow_drewN HO08.out _) ho)
  have s09_ := Aside0.mk (Apart_new (by first | exact HO09.out | exact Ow_drewN HO09.out _) ho)
  have s10_ := Aside0.mk (Apart_new (by first | exact HO10.out | exact Ow_drewN HO10.out _) ho)
  have n0_ := Aside0.mk (Ow_lower ho (below_size (by repeat (first | (with_reducible first | exact HB.out | apply below_alloc | apply pw_below_drewN | apply below_drew1) | exact HB.out))))
  have n1_ := Aside0.mk (below_step (by repeat (first | (with_reducible first | exact HB.out | apply below_alloc | apply pw_below_drewN | apply below_drew1) | exact HB.out)) hb)
  clear HB ho hb
  clear HO01 HO02 HO03 HO04 HO05 HO06 HO07 HO08 HO09 HO10
  have HO01 := m01_
  clear m01_
  have HO02 := m02_
  clear m02_
  have HO03 := m03_
  clear m03_
  have HO04 := m04_
  clear m04_
  have HO05 := m05_
  clear m05_
  have HO06 := m06_
  clear m06_
  have HO07 := m07_
  clear m07_
  have HO08 := m08_
  clear m08_
  have HO09 := m09_
  clear m09_
  have HO10 := m10_
  clear m10_
  have HS01_11 := s01_
  clear s01_
  have HS02_11 := s02_
  clear s02_
  have HS03_11 := s03_
  clear s03_
  have HS04_11 := s04_
  clear s04_
  have HS05_11 := s05_
  clear s05_
  have HS06_11 := s06_
  clear s06_
  have HS07_11 := s07_
  clear s07_
  have HS08_11 := s08_
  clear s08_
  have HS09_11 := s09_
  clear s09_
  have HS10_11 := s10_
  clear s10_
  have HO11 := n0_
  have HB := n1_
  clear n0_ n1_
  obtain ⟨B11, d11, e_, _, _⟩ := Ow_form HO11.out
  subst e_
  go_wp2_with fail
  refine (eqIntS_calls _ _ _ _ ((G.EdgeF l0 l1).1) _ ?h20a (Ow_cap HO11.out) ?h20b (Ow_cap HO03.out) HF.out).mono ?_
  case h20a => exact Ow_rd (by first | exact HO11.out | exact Ow_drewN HO11.out _)
  case h20b => exact Ow_rd (by first | exact HO03.out | exact Ow_drewN HO03.out _)
  rintro e w20 ⟨rfl, hd⟩
  have m01_ := Aside0.mk (Ow_drawn (by first | exact HO01.out | exact Ow_drewN HO01.out _) hd)
  have m02_ := Aside0.mk (Ow_drawn (by first | exact HO02.out | exact Ow_drewN HO02.out _) hd)
  have m03_ := Aside0.mk (Ow_drawn (by first | exact HO03.out | exact Ow_drewN HO03.out _) hd)
  have m04_ := Aside0.mk (Ow_drawn (by first | exact HO04.out | exact Ow_drewN HO04.out _) hd)
  have m05_ := Aside0.mk (Ow_drawn (by first | exact HO05.out | exact Ow_drewN HO05.out _) hd)
  have m06_ := Aside0.mk (Ow_drawn (by first | exact HO06.out | exact Ow_drewN HO06.out _) hd)
  have m07_ := Aside0.mk (Ow_drawn (by first | exact HO07.out | exact Ow_drewN HO07.out _) hd)
  have m08_ := Aside0.mk (Ow_drawn (by first | exact HO08.out | exact Ow_drewN HO08.out _) hd)
  have m09_ := Aside0.mk (Ow_drawn (by first | exact HO09.out | exact Ow_drewN HO09.out _) hd)
  have m10_ := Aside0.mk (Ow_drawn (by first | exact HO10.out | exact Ow_drewN HO10.out _) hd)
  have m11_ := Aside0.mk (Ow_drawn (by first | exact HO11.out | exact Ow_drewN HO11.out _) hd)
  have n1_ := Aside0.mk (below_drawn (by repeat (first | (with_reducible first | exact HB.out | apply below_alloc | apply pw_below_drewN | apply below_drew1) | exact HB.out)) hd)
  clear HB hd
  clear HO01 HO02 HO03 HO04 HO05 HO06 HO07 HO08 HO09 HO10 HO11
  have HO01 := m01_
  clear m01_
  have HO02 := m02_
  clear m02_
  have HO03 := m03_
  clear m03_
  have HO04 := m04_
  clear m04_
  have HO05 := m05_
  clear m05_
  have HO06 := m06_
  clear m06_
  have HO07 := m07_
  clear m07_
  have HO08 := m08_
  clear m08_
  have HO09 := m09_
  clear m09_
  have HO10 := m10_
  clear m10_
  have HO11 := m11_
  clear m11_
  have HB := n1_
  clear n1_
  go_wp2_with fail
  refine (heldIntS_calls _ _ ((G.EdgeF l0 l1).1).length _ ?h21 ?h21c HF.out).mono ?_
  case h21 => exact Ow_rd (by first | exact HO06.out | exact Ow_drewN HO06.out _)
  case h21c => have hcap_ := Ow_cap HO06.out; rwa [marks_length] at hcap_
  rintro e w21 ⟨rfl, hd⟩
  have m01_ := Aside0.mk (Ow_drawn (by first | exact HO01.out | exact Ow_drewN HO01.out _) hd)
  have m02_ := Aside0.mk (Ow_drawn (by first | exact HO02.out | exact Ow_drewN HO02.out _) hd)
  have m03_ := Aside0.mk (Ow_drawn (by first | exact HO03.out | exact Ow_drewN HO03.out _) hd)
  have m04_ := Aside0.mk (Ow_drawn (by first | exact HO04.out | exact Ow_drewN HO04.out _) hd)
  have m05_ := Aside0.mk (Ow_drawn (by first | exact HO05.out | exact Ow_drewN HO05.out _) hd)
  have m06_ := Aside0.mk (Ow_drawn (by first | exact HO06.out | exact Ow_drewN HO06.out _) hd)
  have m07_ := Aside0.mk (Ow_drawn (by first | exact HO07.out | exact Ow_drewN HO07.out _) hd)
  have m08_ := Aside0.mk (Ow_drawn (by first | exact HO08.out | exact Ow_drewN HO08.out _) hd)
  have m09_ := Aside0.mk (Ow_drawn (by first | exact HO09.out | exact Ow_drewN HO09.out _) hd)
  have m10_ := Aside0.mk (Ow_drawn (by first | exact HO10.out | exact Ow_drewN HO10.out _) hd)
  have m11_ := Aside0.mk (Ow_drawn (by first | exact HO11.out | exact Ow_drewN HO11.out _) hd)
  have n1_ := Aside0.mk (below_drawn (by repeat (first | (with_reducible first | exact HB.out | apply below_alloc | apply pw_below_drewN | apply below_drew1) | exact HB.out)) hd)
  clear HB hd
  clear HO01 HO02 HO03 HO04 HO05 HO06 HO07 HO08 HO09 HO10 HO11
  have HO01 := m01_
  clear m01_
  have HO02 := m02_
  clear m02_
  have HO03 := m03_
  clear m03_
  have HO04 := m04_
  clear m04_
  have HO05 := m05_
  clear m05_
  have HO06 := m06_
  clear m06_
  have HO07 := m07_
  clear m07_
  have HO08 := m08_
  clear m08_
  have HO09 := m09_
  clear m09_
  have HO10 := m10_
  clear m10_
  have HO11 := m11_
  clear m11_
  have HB := n1_
  clear n1_
  (go_wp2; repeat (go_quiet (fail); try go_wp2))
  go_ret
  exact ⟨rfl, (by repeat (first | (with_reducible first | exact HB.out | apply below_alloc | apply pw_below_drewN | apply below_drew1) | exact HB.out))⟩
end Go.Proofs.Ythjbgfpoalehlaa.Own
namespace Go.Proofs.Ythjbgfpoalehlaa.fnExactEdgeLabels
open Go.ChangeShapes Go.WideShapes Go.ChangeAt Go.RowKit
open Go.ChangeMaps (open_string shut_string)
set_option linter.unusedVariables false

theorem own : ownKnob Try.prog.godebug = none := by kernel_rfl
theorem laidOut : laidOutB Try.prog = true := by kernel_rfl

/-- WHAT THE WALK IS TOLD OF A SLICE OF INTEGERS THAT CAME IN: it is nil; or it leads to a row of 'cap' cells, the numbers 'zs' (the first 'len' are its elements, the rest its spare room), each fitting its kind. -/
def IsRow (k : IntKind) (w : World) (a : Option Addr) (len cap : Nat) (zs : List Int) : Prop :=
  (a = none ∧ len = 0 ∧ cap = 0 ∧ zs = []) ∨
  ∃ x, a = some x ∧ len ≤ cap ∧ cap ≤ maxLen ∧ zs.length = cap ∧ (∀ i, i < zs.length → w.cell? (x.add i) = some (.int k (zs.getD i 0))) ∧ ∀ n ∈ zs, (Lit.int k n).wf = true

theorem walk (a0 : Option Addr) (len0 cap0 : Nat) (z0 : List Int) (a1 : Option Addr) (len1 cap1 : Nat) (z1 : List Int) (w : World) (w0 : IsRow .i64 w a0 len0 cap0 z0) (w1 : IsRow .i64 w a1 len1 cap1 z1) :
    Calls Try.prog 13 #[.slice a0 len0 cap0, .slice a1 len1 cap1] w fun e w' => e = .returned (.bool true) ∧ Below w.heap.size w w' := by
  obtain ⟨l0, rfl, hr0, hm0, hw0, hc0⟩ := Go.Proofs.YthjbgfpoalehlaaW.PrintWords.ReadsInt.ofRowC w0
  obtain ⟨l1, rfl, hr1, hm1, hw1, hc1⟩ := Go.Proofs.YthjbgfpoalehlaaW.PrintWords.ReadsInt.ofRowC w1
  exact Own.law_EdgeLabels _ _ l0 _ _ l1 w (Go.Proofs.YthjbgfpoalehlaaW.PrintWords.Kd.C_of_reads (d := (0 : Int)) (h1 := fun _ => rfl) hr0) hc0 (fun x hx => bounds_i64 (hw0 x hx)) (Go.Proofs.YthjbgfpoalehlaaW.PrintWords.Kd.C_of_reads (d := (0 : Int)) (h1 := fun _ => rfl) hr1) hc1 (fun x hx => bounds_i64 (hw1 x hx))

/-! ### THE ROW's STEP: WRITTEN OUT: LEAVE IT -/
set_option maxRecDepth 100000 in
theorem lifted (os : Os) (started : os.Started) (H : Type) (enc : TypeId × Value → H) :
    ReturnsInHanded {} Try.checked os 13 .any (Rows.fnExactEdgeLabelsSpec.pre6 enc Try.prog Try.f13 Rows.fnExactEdgeLabelsRow.domain false) (Rows.fnExactEdgeLabelsSpec.post enc Try.prog Try.f13 false true false false) := by
  refine returnsInHanded_of_change (C := Try.checked) own started (by kernel_rfl) Try.func13
    (ChangeSpec.witness6 (enc := enc) (C := Try.checked) false ⟨#[], #[.slice none 0 0, .slice none 0 0], []⟩ 8 (by kernel_rfl) (by kernel_rfl) (by kernel_rfl) (by kernel_rfl)) ?_
  intro W base args ds gs before hval0 hW hcnd _
  have hval : ∀ (j : Nat) t v, Try.f13.params[j]? = some t → args[j]? = some v → Value.okWide Try.prog W .any base t v := hval0
  have hW' := hW
  obtain ⟨p, q, hA0, hV, rfl, hfz, hnd⟩ := hW
  have hA : DataW.TrodAll enc Try.prog W 0 (fun _ => true) true Try.f13.params.toList args.toList ds p := hA0
  rw [Try.params13] at hA hval
  obtain ⟨v0, vs0, d0, ds0, p0, q0, hargs, rfl, rfl, h0, r0⟩ := trodAll_cons hA
  obtain ⟨v1, vs1, d1, ds1, p1, q1, rfl, rfl, rfl, h1, r1⟩ := trodAll_cons r0
  obtain ⟨rfl, rfl, rfl⟩ := trodAll_nil r1
  obtain rfl : args = #[v0, v1] := by cases args; simp_all
  obtain ⟨rfl, rfl⟩ := trodVars_none hV
  obtain ⟨a0, len0, cap0, rfl⟩ := okWide_slice Try.underlying22 (hval 0 22 v0 rfl rfl)
  have k0 := h0
  have lt0 : ∀ x ∈ p0, x.block < W.heap.size := by obtain ⟨m, hm⟩ := k0; exact DataW.trod_lt m _ _ _ hm
  obtain ⟨z0, w0⟩ : ∃ zs, IsRow .i64 W a0 len0 cap0 zs := by
    obtain ⟨fuel, hf⟩ := h0
    rcases open_ints Try.underlying22 Try.underlying3 (by kernel_rfl) hf with ⟨hcs, _⟩ | ⟨x, l, c, zs, hcs, _, hl, hm, hz, _, hcell, hwz⟩
    · simp [Value.cells] at hcs
      obtain ⟨rfl, rfl, rfl⟩ := hcs
      exact ⟨[], .inl ⟨rfl, rfl, rfl, rfl⟩⟩
    · simp [Value.cells] at hcs
      obtain ⟨rfl, rfl, rfl⟩ := hcs
      exact ⟨zs, .inr ⟨_, rfl, hl, hm, by simpa using hz, hcell, hwz⟩⟩
  obtain ⟨a1, len1, cap1, rfl⟩ := okWide_slice Try.underlying22 (hval 1 22 v1 rfl rfl)
  have k1 := h1
  have lt1 : ∀ x ∈ p1, x.block < W.heap.size := by obtain ⟨m, hm⟩ := k1; exact DataW.trod_lt m _ _ _ hm
  obtain ⟨z1, w1⟩ : ∃ zs, IsRow .i64 W a1 len1 cap1 zs := by
    obtain ⟨fuel, hf⟩ := h1
    rcases open_ints Try.underlying22 Try.underlying3 (by kernel_rfl) hf with ⟨hcs, _⟩ | ⟨x, l, c, zs, hcs, _, hl, hm, hz, _, hcell, hwz⟩
    · simp [Value.cells] at hcs
      obtain ⟨rfl, rfl, rfl⟩ := hcs
      exact ⟨[], .inl ⟨rfl, rfl, rfl, rfl⟩⟩
    · simp [Value.cells] at hcs
      obtain ⟨rfl, rfl, rfl⟩ := hcs
      exact ⟨zs, .inr ⟨_, rfl, hl, hm, by simpa using hz, hcell, hwz⟩⟩
  clear hA0 hval0
  refine (walk a0 len0 cap0 z0 a1 len1 cap1 z1 W w0 w1).mono fun e W' ⟨he, bel⟩ => ?_
  subst he
  exact ⟨_, rfl, _, _, _, [], _, [], hW', trodAll_mk1 (shut_bool Try.underlying4 _), (trodAll_cons_mk (Below.trod laidOut (by kernel_rfl) (of_decide_eq_true (by kernel_rfl)) k0 bel lt0) (trodAll_cons_mk (Below.trod laidOut (by kernel_rfl) (of_decide_eq_true (by kernel_rfl)) k1 bel lt1) trodAll_mk0)), rfl, bel.frame _, fun h => by cases h⟩

theorem over : Rows.fnExactEdgeLabelsRow.holds Try.pinned (OpenSpec.ofChange Rows.fnExactEdgeLabelsSpec) :=
  OpenClaim.holds_of_wide 13 Try.f13 rfl rfl rfl rfl rfl rfl rfl ⟨rfl, rfl, rfl, rfl, rfl⟩ rfl rfl rfl rfl rfl (by kernel_rfl) Try.func13 (by kernel_rfl)
    (of_decide_eq_true (by kernel_rfl)) (by unfold Func.isWrapper; first | (rw [if_pos (by decide +kernel)]; kernel_rfl) | (rw [if_neg (by decide +kernel)]; exact ⟨rfl, rfl⟩))
    (fun os started H enc _ => lifted os started H enc)

/-- ████ THE STATEMENT ████ -/
theorem proved : Rows.FnExactEdgeLabelsSaid := over
#print axioms proved
end Go.Proofs.Ythjbgfpoalehlaa.fnExactEdgeLabels
namespace Go.Proofs.Ythjbgfpoalehlaa
/-- The row, under a short name, for the claim. -/
theorem fnExactEdgeLabels_holds : Rows.FnExactEdgeLabelsSaid := fnExactEdgeLabels.proved
end Go.Proofs.Ythjbgfpoalehlaa
