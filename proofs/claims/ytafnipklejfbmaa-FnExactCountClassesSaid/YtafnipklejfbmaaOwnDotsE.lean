/- The first repeated differences, and Costas dots: what the reference's and the program's functions return; lists of at most 1048576 numbers. -/
import Derived.Test.YtafnipklejfbmaaOwnDotsC
namespace Go.Proofs.Ytafnipklejfbmaa.Own
open Go.RowKit Go.Proofs.YtafnipklejfbmaaW.PrintWords Go.Proofs.YtafnipklejfbmaaW.PrintLast Go.Proofs.YtafnipklejfbmaaW.PrintMore
set_option linter.unusedVariables false
theorem quiet_drawn {P : Program} {f : FuncId} {args : Array Value} {w : World} {n : Nat} {v : Value} (h : Calls P f args (w.drewN n) fun e w' => e = .returned v ∧ Drawn0 (w.drewN n) w') :
    Calls P f args (w.drewN n) fun e w'' => e = .returned v ∧ ∃ m, w'' = w.drewN m := Calls.quiet_of (h.mono fun _ _ ⟨he, hd⟩ => ⟨he, hd.out⟩)
/-- The first place from j on whose number stands before it, and where. -/
def repIn (d : List Int) : Nat → Nat → Option (Nat × Nat)
  | 0, _ => none
  | n + 1, j => if rd d (j : Int) ∈ d.take j then some ((d.take j).idxOf (rd d (j : Int)), j) else repIn d n (j + 1)
/-- The first distance from k on at which a difference is repeated. -/
def repFrom (l : List Int) : Nat → Nat → Nat × Nat × Nat × Bool
  | 0, _ => (0, 0, 0, false)
  | n + 1, k => match repIn (diffs l k (l.length - k)) (l.length - k) 0 with
    | some (i, j) => (k, i, j, true)
    | none => repFrom l n (k + 1)
def repF (l : List Int) : Nat × Nat × Nat × Bool := repFrom l (l.length - 1) 1
def repV (r : Nat × Nat × Nat × Bool) : Value := .tuple #[.int .i64 (r.1 : Int), .int .i64 (r.2.1 : Int), .int .i64 (r.2.2.1 : Int), .bool r.2.2.2]
theorem repIn_at {d : List Int} {n j : Nat} (h : rd d (j : Int) ∈ d.take j) : repIn d (n + 1) j = some ((d.take j).idxOf (rd d (j : Int)), j) := by
  unfold repIn
  rw [if_pos h]
theorem repIn_on {d : List Int} {n j : Nat} (h : rd d (j : Int) ∉ d.take j) : repIn d (n + 1) j = repIn d n (j + 1) := by
  rw [repIn, if_neg h]
theorem repFrom_at {l : List Int} {n k i j : Nat} (h : repIn (diffs l k (l.length - k)) (l.length - k) 0 = some (i, j)) : repFrom l (n + 1) k = (k, i, j, true) := by
  rw [repFrom, h]
theorem repFrom_on {l : List Int} {n k : Nat} (h : repIn (diffs l k (l.length - k)) (l.length - k) 0 = none) : repFrom l (n + 1) k = repFrom l n (k + 1) := by
  rw [repFrom, h]
theorem Index_take (A : Option Addr) (c : Nat) (l : List Int) (i : Nat) (x : Int) (w : World) (hr : Rd w A l) (hc : l.length ≤ c) (hi : i ≤ l.length) (hn : l.length ≤ 35184372088832) :
    Calls Try.prog 52 #[.slice A i c, .int .i64 x] w fun e w' => e = .returned (.int .i64 (idx x (l.take i))) ∧ Drawn0 w w' := by
  have hl : (l.take i).length = i := by rw [List.length_take]; omega
  exact calls_of_args (by rw [hl]) (Index_calls A c (l.take i) x w (Rd_take hr i hi) (by omega) (by omega))
theorem idx_mem {v : Int} {xs : List Int} (h : v ∈ xs) : idx v xs = ((xs.idxOf v : Nat) : Int) := by
  unfold idx
  rw [if_pos h]
set_option maxHeartbeats 3200000 in
theorem repeat_calls (A : Option Addr) (c : Nat) (l : List Int) (w : World) (hr : Rd w A l) (hc : l.length ≤ c) (hn : l.length ≤ 1048576) (hs : Small l) :
    Calls Try.prog 53 #[.slice A l.length c] w fun e w' => e = .returned (repV (repF l)) ∧ Below w.heap.size w w' := by
  have HR := Aside0.mk hr
  have HC := Aside0.mk hc
  have HSM := Aside0.mk hs
  clear hr hc hs
  have HB := Aside0.mk (Below.refl w.heap.size w)
  go_enter Try.func53, Try.ntmps53
  (go_wp2; repeat (go_quiet (fail); try go_wp2))
  go_loopg [6] (l.length - 1) (fun g v6 w' => ∃ k : Nat, v6 = .int .i64 k ∧ Aside0 (1 ≤ k) ∧ Aside0 (g = l.length - k) ∧ Aside0 (repFrom l g k = repF l) ∧ Aside0 (Below w.heap.size w w'))
  case atStart => exact ⟨1, rfl, ⟨Nat.le_refl _⟩, ⟨rfl⟩, ⟨rfl⟩, ⟨(by repeat (first | (with_reducible first | exact HB.out | apply below_alloc | apply pw_below_drewN | apply below_drew1) | exact HB.out))⟩⟩
  case round =>
    clear HB
    obtain ⟨k, rfl, HK, HG, HF, HB⟩ := hrel
    by_cases hlt : k < l.length
    · have hk2 : k ≤ 1048576 := by omega
      go_wp2_with (go_at_call 57; refine (differences_calls _ _ l k _ (Kd.C_below HR.out (by repeat (first | (with_reducible first | exact HB.out | apply below_alloc | apply pw_below_drewN | apply below_drew1) | exact HB.out))) HC.out hn HSM.out hk2).mono ?_; rintro e w1 ⟨v1, rfl, ho, hb⟩; have hdl_ := diffs_length l k (l.length - k); generalize hd_ : diffs l k (l.length - k) = d at ho hdl_; have HDL := Aside0.mk hdl_; have HDD := Aside0.mk hd_; clear hdl_ hd_; have HO := Aside0.mk (Ow_lower ho (below_size (by repeat (first | (with_reducible first | exact HB.out | apply below_alloc | apply pw_below_drewN | apply below_drew1) | exact HB.out)))); have n0_ := Aside0.mk (below_step (by repeat (first | (with_reducible first | exact HB.out | apply below_alloc | apply pw_below_drewN | apply below_drew1) | exact HB.out)) hb); clear HB ho hb; have HB := n0_; clear n0_; obtain ⟨A1, c1, e1_, hc1_, hr1_⟩ := Ow_form HO.out; subst e1_; have HC1 := Aside0.mk hc1_; clear hc1_ hr1_)
      obtain ⟨go, rfl⟩ : ∃ go : Nat, go = gk := ⟨_, rfl⟩
      obtain ⟨wo, rfl⟩ : ∃ wo : World, wo = wr := ⟨_, rfl⟩
      have hdn : d.length ≤ 1048576 := by rw [HDL.out]; omega
      go_loopg [21] d.length (fun g v21 w' => ∃ j : Nat, v21 = .int .i64 j ∧ Aside0 (j + g = d.length) ∧ Aside0 (repIn d g j = repIn d d.length 0) ∧ Aside0 (Ow w' w.heap.size (.slice A1 d.length c1) d) ∧ Aside0 (Below w.heap.size w w'))
      case atStart => exact ⟨0, rfl, ⟨by omega⟩, ⟨rfl⟩, ⟨by first | exact HO.out | exact Ow_drewN HO.out _⟩, ⟨(by repeat (first | (with_reducible first | exact HB.out | apply below_alloc | apply pw_below_drewN | apply below_drew1) | exact HB.out))⟩⟩
      case round =>
        clear HO HB
        obtain ⟨j, rfl, HI, HE, HO, HB⟩ := hrel
        by_cases hj : j < d.length
        · obtain ⟨ad, rfl, hx⟩ := at_nat (Ow_rd HO.out) hj
          have hcut := cut_nat (some ad) c1 d j (by omega) HC1.out
          by_cases hm : rd d (j : Int) ∈ d.take j
          · have HIX := Aside0.mk (fun n => Index_take (some ad) c1 d j (rd d (j : Int)) (wr.drewN n) (Kd.C_drewN (Ow_rd HO.out) n) HC1.out (by omega) (by omega))
            rw [idx_mem hm] at HIX
            have HV := Aside0.mk (show repF l = (k, (d.take j).idxOf (rd d (j : Int)), j, true) by
              obtain ⟨g', hg'⟩ : ∃ g', gk = g' + 1 := ⟨gk - 1, by have := HI.out; omega⟩
              obtain ⟨o', ho'⟩ : ∃ o', go = o' + 1 := ⟨go - 1, by have := HG.out; omega⟩
              have h1 := HE.out
              rw [hg', repIn_at hm] at h1
              rw [← HF.out, ho']
              exact repFrom_at (by rw [HDD.out, ← HDL.out]; exact h1.symm))
            generalize (d.take j).idxOf (rd d (j : Int)) = q at HIX HV
            clear hm
            go_wp2
            go_quiet ((go_at_call 52; exact quiet_drawn (HIX.out _)))
            go_wp2
            refine bodyPost_ret (v := repV (k, q, j, true)) (by simp [results, Try.results53, go_sem, repV]) rfl ⟨?_, (by repeat (first | (with_reducible first | exact HB.out | apply below_alloc | apply pw_below_drewN | apply below_drew1) | exact HB.out))⟩
            rw [HV.out]
          · have HIX := Aside0.mk (fun n => Index_take (some ad) c1 d j (rd d (j : Int)) (wr.drewN n) (Kd.C_drewN (Ow_rd HO.out) n) HC1.out (by omega) (by omega))
            rw [idx_none hm] at HIX
            have HM := Aside0.mk hm
            clear hm
            go_wp2
            go_quiet ((go_at_call 52; exact quiet_drawn (HIX.out _)))
            (go_wp2; repeat (go_quiet (fail); try go_wp2))
            go_roundg (gk - 1)
            case measure => have := HI.out; omega
            case rel => exact ⟨j + 1, by go_num, ⟨by have := HI.out; omega⟩, ⟨by
              obtain ⟨g', hg'⟩ : ∃ g', gk = g' + 1 := ⟨gk - 1, by have := HI.out; omega⟩
              have h1 := HE.out
              rw [hg', repIn_on HM.out] at h1
              rw [← h1, hg', Nat.add_sub_cancel]⟩, ⟨by first | exact HO.out | exact Ow_drewN HO.out _⟩, ⟨(by repeat (first | (with_reducible first | exact HB.out | apply below_alloc | apply pw_below_drewN | apply below_drew1) | exact HB.out))⟩⟩
        · have HN := Aside0.mk (show repIn (diffs l k (l.length - k)) (l.length - k) 0 = none by rw [HDD.out, ← HDL.out, ← HE.out, show gk = 0 by have := HI.out; omega]; rfl)
          (go_wp2; repeat (go_quiet (fail); try go_wp2))
          go_roundg (go - 1)
          case measure => have := HG.out; omega
          case rel => exact ⟨k + 1, by go_num, ⟨by omega⟩, ⟨by have := HG.out; omega⟩, ⟨by
            obtain ⟨o', ho'⟩ : ∃ o', go = o' + 1 := ⟨go - 1, by have := HG.out; omega⟩
            rw [← HF.out, ho', Nat.add_sub_cancel, repFrom_on HN.out]⟩, ⟨(by repeat (first | (with_reducible first | exact HB.out | apply below_alloc | apply pw_below_drewN | apply below_drew1) | exact HB.out))⟩⟩
    · have HV := Aside0.mk (show repF l = (0, 0, 0, false) by rw [← HF.out, show gk = 0 by have := HG.out; omega]; rfl)
      (go_wp2; repeat (go_quiet (fail); try go_wp2))
      refine bodyPost_ret (v := repV (0, 0, 0, false)) (by simp [results, Try.results53, go_sem, repV]) rfl ⟨?_, (by repeat (first | (with_reducible first | exact HB.out | apply below_alloc | apply pw_below_drewN | apply below_drew1) | exact HB.out))⟩
      rw [HV.out]
set_option maxHeartbeats 3200000 in
theorem doRepeat_calls (A : Option Addr) (c : Nat) (l : List Int) (w : World) (hr : Rd w A l) (hc : l.length ≤ c) (hn : l.length ≤ 1048576) (hs : Small l) :
    Calls Try.prog 51 #[.slice A l.length c] w fun e w' => e = .returned (repV (repF l)) ∧ Below w.heap.size w w' := by
  have HR := Aside0.mk hr
  have HC := Aside0.mk hc
  have HSM := Aside0.mk hs
  clear hr hc hs
  have HB := Aside0.mk (Below.refl w.heap.size w)
  go_enter Try.func51, Try.ntmps51
  (go_wp2; repeat (go_quiet (fail); try go_wp2))
  go_loopg [6] (l.length - 1) (fun g v6 w' => ∃ k : Nat, v6 = .int .i64 k ∧ Aside0 (1 ≤ k) ∧ Aside0 (g = l.length - k) ∧ Aside0 (repFrom l g k = repF l) ∧ Aside0 (Below w.heap.size w w'))
  case atStart => exact ⟨1, rfl, ⟨Nat.le_refl _⟩, ⟨rfl⟩, ⟨rfl⟩, ⟨(by repeat (first | (with_reducible first | exact HB.out | apply below_alloc | apply pw_below_drewN | apply below_drew1) | exact HB.out))⟩⟩
  case round =>
    clear HB
    obtain ⟨k, rfl, HK, HG, HF, HB⟩ := hrel
    by_cases hlt : k < l.length
    · have hk2 : k ≤ 1048576 := by omega
      go_wp2_with (go_at_call 56; refine (doDifferences_calls _ _ l k _ (Kd.C_below HR.out (by repeat (first | (with_reducible first | exact HB.out | apply below_alloc | apply pw_below_drewN | apply below_drew1) | exact HB.out))) HC.out hn HSM.out hk2).mono ?_; rintro e w1 ⟨v1, rfl, ho, hb⟩; have hdl_ := diffs_length l k (l.length - k); generalize hd_ : diffs l k (l.length - k) = d at ho hdl_; have HDL := Aside0.mk hdl_; have HDD := Aside0.mk hd_; clear hdl_ hd_; have HO := Aside0.mk (Ow_lower ho (below_size (by repeat (first | (with_reducible first | exact HB.out | apply below_alloc | apply pw_below_drewN | apply below_drew1) | exact HB.out)))); have n0_ := Aside0.mk (below_step (by repeat (first | (with_reducible first | exact HB.out | apply below_alloc | apply pw_below_drewN | apply below_drew1) | exact HB.out)) hb); clear HB ho hb; have HB := n0_; clear n0_; obtain ⟨A1, c1, e1_, hc1_, hr1_⟩ := Ow_form HO.out; subst e1_; have HC1 := Aside0.mk hc1_; clear hc1_ hr1_)
      obtain ⟨go, rfl⟩ : ∃ go : Nat, go = gk := ⟨_, rfl⟩
      obtain ⟨wo, rfl⟩ : ∃ wo : World, wo = wr := ⟨_, rfl⟩
      have hdn : d.length ≤ 1048576 := by rw [HDL.out]; omega
      go_loopg [23] d.length (fun g v23 w' => ∃ j : Nat, v23 = .int .i64 j ∧ Aside0 (j + g = d.length) ∧ Aside0 (repIn d g j = repIn d d.length 0) ∧ Aside0 (Ow w' w.heap.size (.slice A1 d.length c1) d) ∧ Aside0 (Below w.heap.size w w'))
      case atStart => exact ⟨0, rfl, ⟨by omega⟩, ⟨rfl⟩, ⟨by first | exact HO.out | exact Ow_drewN HO.out _⟩, ⟨(by repeat (first | (with_reducible first | exact HB.out | apply below_alloc | apply pw_below_drewN | apply below_drew1) | exact HB.out))⟩⟩
      case round =>
        clear HO HB
        obtain ⟨j, rfl, HI, HE, HO, HB⟩ := hrel
        by_cases hj : j < d.length
        · obtain ⟨ad, rfl, hx⟩ := at_nat (Ow_rd HO.out) hj
          have hcut := cut_nat (some ad) c1 d j (by omega) HC1.out
          obtain ⟨gi, rfl⟩ : ∃ gi : Nat, gi = gk := ⟨_, rfl⟩
          obtain ⟨wi, rfl⟩ : ∃ wi : World, wi = wr := ⟨_, rfl⟩
          (go_wp2; repeat (go_quiet (fail); try go_wp2))
          go_loopg [32] j (fun g v32 w' => ∃ i : Nat, v32 = .int .i64 i ∧ Aside0 (i + g = j) ∧ Aside0 (rd d (j : Int) ∉ d.take i) ∧ Aside0 (Ow w' w.heap.size (.slice (some ad) d.length c1) d) ∧ Aside0 (Below w.heap.size w w'))
          case atStart => exact ⟨0, rfl, ⟨by omega⟩, ⟨by simp⟩, ⟨by first | exact HO.out | exact Ow_drewN HO.out _⟩, ⟨(by repeat (first | (with_reducible first | exact HB.out | apply below_alloc | apply pw_below_drewN | apply below_drew1) | exact HB.out))⟩⟩
          case round =>
            clear HO HB
            obtain ⟨i, rfl, HJ, HM, HO, HB⟩ := hrel
            by_cases hi : i < j
            · obtain ⟨ad2, e2, hx2⟩ := at_nat (Ow_rd HO.out) (show i < d.length by omega)
              obtain rfl : ad = ad2 := by injection e2
              clear e2
              by_cases hm : rd d (i : Int) = rd d (j : Int)
              · have hin : rd d (j : Int) ∈ d.take j := by
                  rw [← hm, ← rd_take hi]
                  exact rd_mem (by rw [List.length_take]; omega)
                have hq : (d.take j).idxOf (rd d (j : Int)) = i := by
                  have h2 := idx_at (xs := d.take j) (v := rd d (j : Int)) (i := i) (by rw [List.length_take]; omega) (by rw [rd_take hi]; exact hm) (by rw [List.take_take, Nat.min_eq_left (by omega)]; exact HM.out)
                  rw [idx_mem hin] at h2
                  exact Int.ofNat.inj h2
                have HV := Aside0.mk (show repF l = (k, i, j, true) by
                  obtain ⟨g', hg'⟩ : ∃ g', gi = g' + 1 := ⟨gi - 1, by have := HI.out; omega⟩
                  obtain ⟨o', ho'⟩ : ∃ o', go = o' + 1 := ⟨go - 1, by have := HG.out; omega⟩
                  have h1 := HE.out
                  rw [hg', repIn_at hin, hq] at h1
                  rw [← HF.out, ho']
                  exact repFrom_at (by rw [HDD.out, ← HDL.out]; exact h1.symm))
                have ht : ((rd d (i : Int)) == rd d (j : Int)) = true := beq_iff_eq.mpr hm
                clear hm hin hq
                (go_wp2; repeat (go_quiet (fail); try go_wp2))
                refine bodyPost_ret (v := repV (k, i, j, true)) (by simp [results, Try.results51, go_sem, repV]) rfl ⟨?_, (by repeat (first | (with_reducible first | exact HB.out | apply below_alloc | apply pw_below_drewN | apply below_drew1) | exact HB.out))⟩
                rw [HV.out]
              · have HM2 := Aside0.mk (show rd d (j : Int) ∉ d.take (i + 1) by
                  rw [take_rd (show i < d.length by omega)]
                  simp only [List.mem_append, List.mem_singleton]
                  exact fun h => h.elim HM.out (fun e => hm e.symm))
                have ht : ((rd d (i : Int)) == rd d (j : Int)) = false := beq_eq_false_iff_ne.mpr hm
                clear hm
                (go_wp2; repeat (go_quiet (fail); try go_wp2))
                go_roundg (gk - 1)
                case measure => have := HJ.out; omega
                case rel => exact ⟨i + 1, by go_num, ⟨by have := HJ.out; omega⟩, HM2, ⟨by first | exact HO.out | exact Ow_drewN HO.out _⟩, ⟨(by repeat (first | (with_reducible first | exact HB.out | apply below_alloc | apply pw_below_drewN | apply below_drew1) | exact HB.out))⟩⟩
            · have HM2 := Aside0.mk (show rd d (j : Int) ∉ d.take j by have := HM.out; rwa [show i = j by have := HJ.out; omega] at this)
              (go_wp2; repeat (go_quiet (fail); try go_wp2))
              go_roundg (gi - 1)
              case measure => have := HI.out; omega
              case rel => exact ⟨j + 1, by go_num, ⟨by have := HI.out; omega⟩, ⟨by
                obtain ⟨g', hg'⟩ : ∃ g', gi = g' + 1 := ⟨gi - 1, by have := HI.out; omega⟩
                have h1 := HE.out
                rw [hg', repIn_on HM2.out] at h1
                rw [← h1, hg', Nat.add_sub_cancel]⟩, ⟨by first | exact HO.out | exact Ow_drewN HO.out _⟩, ⟨(by repeat (first | (with_reducible first | exact HB.out | apply below_alloc | apply pw_below_drewN | apply below_drew1) | exact HB.out))⟩⟩
        · have HN := Aside0.mk (show repIn (diffs l k (l.length - k)) (l.length - k) 0 = none by rw [HDD.out, ← HDL.out, ← HE.out, show gk = 0 by have := HI.out; omega]; rfl)
          (go_wp2; repeat (go_quiet (fail); try go_wp2))
          go_roundg (go - 1)
          case measure => have := HG.out; omega
          case rel => exact ⟨k + 1, by go_num, ⟨by omega⟩, ⟨by have := HG.out; omega⟩, ⟨by
            obtain ⟨o', ho'⟩ : ∃ o', go = o' + 1 := ⟨go - 1, by have := HG.out; omega⟩
            rw [← HF.out, ho', Nat.add_sub_cancel, repFrom_on HN.out]⟩, ⟨(by repeat (first | (with_reducible first | exact HB.out | apply below_alloc | apply pw_below_drewN | apply below_drew1) | exact HB.out))⟩⟩
    · have HV := Aside0.mk (show repF l = (0, 0, 0, false) by rw [← HF.out, show gk = 0 by have := HG.out; omega]; rfl)
      (go_wp2; repeat (go_quiet (fail); try go_wp2))
      refine bodyPost_ret (v := repV (0, 0, 0, false)) (by simp [results, Try.results51, go_sem, repV]) rfl ⟨?_, (by repeat (first | (with_reducible first | exact HB.out | apply below_alloc | apply pw_below_drewN | apply below_drew1) | exact HB.out))⟩
      rw [HV.out]
def costasB (l : List Int) : Bool := !(repF l).2.2.2
theorem doCostas_calls (A : Option Addr) (c : Nat) (l : List Int) (w : World) (hr : Rd w A l) (hc : l.length ≤ c) (hn : l.length ≤ 1048576) (hs : Small l) :
    Calls Try.prog 40 #[.slice A l.length c] w fun e w' => e = .returned (.bool (costasB l)) ∧ Below w.heap.size w w' := by
  have HR := Aside0.mk hr
  have HC := Aside0.mk hc
  have HS := Aside0.mk hs
  clear hr hc hs
  have HB := Aside0.mk (Below.refl w.heap.size w)
  go_enter Try.func40, Try.ntmps40
  go_wp2_with (go_at_call 51; refine (doRepeat_calls _ _ l _ HR.out HC.out hn HS.out).mono ?_; rintro e w1 ⟨rfl, hb⟩; unfold repV; have n0_ := Aside0.mk (below_step (by repeat (first | (with_reducible first | exact HB.out | apply below_alloc | apply pw_below_drewN | apply below_drew1) | exact HB.out)) hb); clear HB hb; have HB := n0_; clear n0_)
  repeat (go_quiet (fail); try go_wp2)
  go_ret
  exact ⟨rfl, (by repeat (first | (with_reducible first | exact HB.out | apply below_alloc | apply pw_below_drewN | apply below_drew1) | exact HB.out))⟩
theorem costas_calls (A : Option Addr) (c : Nat) (l : List Int) (w : World) (hr : Rd w A l) (hc : l.length ≤ c) (hn : l.length ≤ 1048576) (hs : Small l) :
    Calls Try.prog 43 #[.slice A l.length c] w fun e w' => e = .returned (.bool (costasB l)) ∧ Below w.heap.size w w' := by
  have HR := Aside0.mk hr
  have HC := Aside0.mk hc
  have HS := Aside0.mk hs
  clear hr hc hs
  have HB := Aside0.mk (Below.refl w.heap.size w)
  go_enter Try.func43, Try.ntmps43
  go_wp2_with (go_at_call 53; refine (repeat_calls _ _ l _ HR.out HC.out hn HS.out).mono ?_; rintro e w1 ⟨rfl, hb⟩; unfold repV; have n0_ := Aside0.mk (below_step (by repeat (first | (with_reducible first | exact HB.out | apply below_alloc | apply pw_below_drewN | apply below_drew1) | exact HB.out)) hb); clear HB hb; have HB := n0_; clear n0_)
  repeat (go_quiet (fail); try go_wp2)
  go_ret
  exact ⟨rfl, (by repeat (first | (with_reducible first | exact HB.out | apply below_alloc | apply pw_below_drewN | apply below_drew1) | exact HB.out))⟩
noncomputable def CostasF (l : List Int) : Bool × Bool := if tf (Dots l) = true then (costasB l, true) else (false, false)
theorem CostasF_yes {l : List Int} (h : Dots l) : CostasF l = (costasB l, true) := if_pos (tf_pos h)
theorem CostasF_no {l : List Int} (h : ¬ Dots l) : CostasF l = (false, false) := if_neg (by rw [tf_neg h]; decide)
noncomputable def FirstRepF (l : List Int) : Nat × Nat × Nat × Bool := if tf (Dots l) = true then repF l else (0, 0, 0, false)
theorem FirstRepF_yes {l : List Int} (h : Dots l) : FirstRepF l = repF l := if_pos (tf_pos h)
theorem FirstRepF_no {l : List Int} (h : ¬ Dots l) : FirstRepF l = (0, 0, 0, false) := if_neg (by rw [tf_neg h]; decide)
noncomputable def FirstRepI (l : List Int) : Int × Int × Int × Bool := ((FirstRepF l).1, (FirstRepF l).2.1, (FirstRepF l).2.2.1, (FirstRepF l).2.2.2)
end Go.Proofs.Ytafnipklejfbmaa.Own
