/- Rulers with a length: the walk of the program's rulers with the functions that CountDifferent, ShortestRuler, CountWhole and FewestMarks hand it; lengths up to 60. -/
import Derived.Test.YtmmnohdokemchaaOwnVar
import Derived.Test.YtmmnohdokemchaaOwnRuM
import Derived.Test.YtmmnohdokemchaaOwnSh
import Derived.ArgAppend
namespace Go.Proofs.Ytmmnohdokemchaa.Own.G
open Go.RowKit Go.Proofs.YtmmnohdokemchaaW.PrintWords Go.Proofs.YtmmnohdokemchaaW.PrintLast Go.Proofs.YtmmnohdokemchaaW.PrintMore
set_option linter.unusedVariables false
/-- What the caller's row is good for when the callee is back. -/
def Back (u : Value) (l : List Int) (v1 : Value) (m : List Int) (B : Nat) (w1 : World) : Prop := ∀ (ok : Nat → Prop) (w2 : World), Chg ok w1 w2 → (∀ k, u.ownBlock = some k → v1.ownBlock ≠ some k → ¬ ok k) → Ow w2 B v1 m → Ow w2 B u l
theorem app_any {W : World} {ops : Array Oper} {rest : List Oper} {o : Oper} {a : Act} {Q : Exit → Act → World → Prop} (hgd : o.guard = none) (s x : Operand)
    (ho : o.op = .call { callee := .builtin .append, args := #[s, x], argTypes := #[25, 25] }) (B : Nat) (u : Value) (l : List Int) (y : Int) (hs : a.eval s = u)
    (hx : a.eval x = .slice (some ⟨W.heap.size, 0, none⟩) 1 1) (HO : Ow (W.alloc (.cells #[.int .i64 y] 3)) B u l) (hp : 0 < l.length) (hl : l.length ≤ 1048576) (hBW : B ≤ W.heap.size)
    (h : ∀ v1 w1, Ow w1 B v1 (l ++ [y]) → (W.alloc (.cells #[.int .i64 y] 3)).grownBy w1 u.ownBlock → (∀ k, v1.ownBlock = some k → u.ownBlock = some k ∨ W.heap.size ≤ k) → Back u l v1 (l ++ [y]) B w1 → wpList Try.prog ops Q rest (a.put o.dst v1) w1) :
    wpList Try.prog ops Q (o :: rest) a (W.alloc (.cells #[.int .i64 y] 3)) := by
  obtain ⟨i0, hi, hz0, hz1, hz2⟩ := info_parts infoInt
  obtain ⟨g, cap, e, hBg, hg, cells, hcells⟩ := Kd.R_form HO hp
  subst e
  have hbox : (W.alloc (.cells #[.int .i64 y] 3)).cell? ⟨W.heap.size, 0, none⟩ = some (.int .i64 y) := cell_of_one (heap_alloc_new W _)
  have hnews : ∀ j u, ([.int .i64 y] : List Value)[j]? = some u → (W.alloc (.cells #[.int .i64 y] 3)).cell? ((⟨W.heap.size, 0, none⟩ : Addr).add j) = some u := by
    intro j u hj
    rcases j with _ | j
    · simp only [List.getElem?_cons_zero, Option.some.injEq] at hj
      subst hj
      have e : (⟨W.heap.size, 0, none⟩ : Addr).add 0 = ⟨W.heap.size, 0, none⟩ := by unfold Addr.add; split <;> simp_all
      rw [e]
      exact hbox
    · simp at hj
  have hlen : (l ++ [y]).length = l.length + 1 := by rw [List.length_append, List.length_singleton]
  by_cases hroom : l.length + 1 ≤ cap
  · refine wpList_append_fits _ hgd s x 25 ho B 3 i0 1 Try.underlying25 hi hz1 g l.length cap _ hs (Kd.own_of_R HO) ⟨W.heap.size, 0, none⟩ 1 1 [.int .i64 y] hx rfl hnews (by simp [Value.oneCell']) hroom ?_
    intro w1 hown hgr
    have ho1 : Ow w1 B (.slice (some ⟨g, 0, none⟩) (l.length + 1) cap) (l ++ [y]) := Kd.R_of_own (by rw [hlen]; simpa [encs] using hown) (fun _ _ => trivial)
    refine h _ w1 ho1 hgr (fun k hk => .inl hk) ?_
    intro ok w2 hch _ ho2
    have := Kd.R_take ho2 (m := l.length) (by rw [hlen]; omega)
    rwa [List.take_left'] at this
    rfl
  · have hl0 : (encs (Value.int .i64) l).length = l.length := encs_length _
    refine wpList_append_grows _ hgd s x 25 ho 3 i0 (.int .i64 0) 1 8 Try.underlying25 hi hz0 hz1 hz2 rfl (by omega) (some ⟨g, 0, none⟩) l.length cap (encs (Value.int .i64) l) hs (by simp) (by rw [hl0]; omega) (fun b hb j u hj => ?_) ⟨W.heap.size, 0, none⟩ 1 1 [.int .i64 y] hx rfl hnews (by simp [Value.oneCell']) (by omega) (by unfold maxLen; omega) (by omega) ?_
    · have hjl : j < l.length := by rw [← hl0]; exact (List.getElem?_eq_some_iff.1 hj).1
      obtain ⟨ad, e, hc⟩ := at_nat (Ow_rd HO) hjl
      rw [hb] at e
      injection e with e
      subst e
      rw [hc]
      rw [rd_get hjl]
      simp [encs, List.getElem?_eq_getElem hjl] at hj
      rw [hj]
    · intro v1 w1 hown hgr
      have ho1 : Ow w1 (W.alloc (.cells #[.int .i64 y] 3)).heap.size v1 (l ++ [y]) := Kd.R_of_own (by rw [hlen]; simpa [encs] using hown) (fun _ _ => trivial)
      have hsz : (W.alloc (.cells #[.int .i64 y] 3)).heap.size = W.heap.size + 1 := by simp
      have hbase := Kd.R_base ho1
      refine h v1 w1 (Ow_lower ho1 (by omega)) ⟨hgr.os, hgr.tape, hgr.output, hgr.size, fun k hk _ => hgr.block k hk (by simp)⟩ (fun k hk => .inr (by have := hbase k hk; omega)) ?_
      intro ok w2 hch hok _
      have h1 : Ow w1 B _ l := Kd.R_grown HO hgr (fun k _ => by simp)
      refine Ow_chg h1 hch (fun k hk => hok k hk (fun e => ?_))
      have := hbase k e
      have := Kd.R_lt HO k hk
      omega
def nextCount (s : Nat) (l : List Int) : Nat := s + 1
def sizeCount (s : Nat) : Nat := s
def nextFirst (s : List Int) (l : List Int) : List Int := l
def sizeFirst (s : List Int) : Nat := 0
/-- What the captured variable holds. -/
def StCount (bo B : Nat) (w : World) (Q : Nat → Prop) (s : Nat) : Prop := Var w bo 3 (.int .i64 (s : Int))
def StFirst (bo B : Nat) (w : World) (Q : Nat → Prop) (s : List Int) : Prop := ∃ v, Var w bo 25 v ∧ Kd.R (Kd.int .i64) 3 w B Q v s
theorem StCount_lt {bo B : Nat} {w : World} {Q : Nat → Prop} {s : Nat} (h : StCount bo B w Q s) : bo < w.heap.size := lt_of_block h
theorem StFirst_lt {bo B : Nat} {w : World} {Q : Nat → Prop} {s : List Int} (h : StFirst bo B w Q s) : bo < w.heap.size := by obtain ⟨v, hv, _⟩ := h; exact lt_of_block hv
theorem StCount_mono {bo B : Nat} {w : World} {Q Q' : Nat → Prop} {s : Nat} (h : StCount bo B w Q s) (hq : ∀ k, Q k → Q' k) : StCount bo B w Q' s := h
theorem StFirst_mono {bo B : Nat} {w : World} {Q Q' : Nat → Prop} {s : List Int} (h : StFirst bo B w Q s) (hq : ∀ k, Q k → Q' k) : StFirst bo B w Q' s := h.imp fun v hv => ⟨hv.1, Kd.R_mono hv.2 hq⟩
theorem StCount_chg {bo B : Nat} {w w1 : World} {Q ok : Nat → Prop} {s : Nat} (h : StCount bo B w Q s) (hc : Chg ok w w1) (hq : ∀ k, Q k → ¬ ok k) (hb : ¬ ok bo) : StCount bo B w1 (fun k => Q k ∧ k < w.heap.size) s := Var.chg h hc hb
theorem StFirst_chg {bo B : Nat} {w w1 : World} {Q ok : Nat → Prop} {s : List Int} (h : StFirst bo B w Q s) (hc : Chg ok w w1) (hq : ∀ k, Q k → ¬ ok k) (hb : ¬ ok bo) : StFirst bo B w1 (fun k => Q k ∧ k < w.heap.size) s :=
  h.imp fun v hv => ⟨Var.chg hv.1 hc hb, Kd.R_mono (Kd.R_step (Kd.R_bound hv.2) (fun k hk hlt => hc.block k hlt (hq k hk.1))) (fun k hk => ⟨hk.1, hk.2.2.1⟩)⟩
theorem nextCount_size (s : Nat) (l : List Int) : sizeCount (nextCount s l) ≤ sizeCount s + 1 := Nat.le_refl _
theorem nextFirst_size (s : List Int) (l : List Int) : sizeFirst (nextFirst s l) ≤ sizeFirst s + 0 := by simp [sizeFirst]
theorem always_calls (u : Value) (w : World) : Calls Try.prog 23 #[u] w fun e w' => e = .returned (.bool true) ∧ w = w' := by
  go_enter Try.func23, Try.ntmps23
  go_wp2
  go_ret
  exact ⟨rfl, rfl⟩
set_option maxHeartbeats 1600000 in
theorem callCountD (bo B : Nat) (u : Value) (l : List Int) (w : World) (Q : Nat → Prop) (s : Nat) (hp : Ow w B u l) (hq : ∀ k, u.ownBlock = some k → ¬ Q k ∧ k ≠ bo) (hb : ¬ Q bo) (hs : StCount bo B w Q s) (hB : B ≤ bo) (hru : Ruler l) (hx : sizeCount s + 1 ≤ 4000000000000000000) :
    Calls Try.prog 22 #[u, .pointer (some ⟨bo, 0, none⟩)] w fun e w' => e = .returned (.bool (if qq false l = true then (nextCount s l, false) else (s, false)).2) ∧ StCount bo B w' (fun k => Q k ∨ w.heap.size ≤ k) (if qq false l = true then (nextCount s l, false) else (s, false)).1 ∧ Chg (fun k => k = bo ∨ Q k) w w' := by
  have hv : Var w bo 3 (.int .i64 (s : Int)) := hs
  obtain ⟨Au, cu, rfl, hcap, hrd⟩ := Ow_form hp
  have HV := Aside0.mk hv
  have HR := Aside0.mk hrd
  have HC := Aside0.mk hcap
  have HRU := Aside0.mk hru
  have hx2 : s + 1 ≤ 4000000000000000000 := hx
  clear hv hs hp hq hb hx hru hrd hcap
  by_cases h : qq false l = true
  · have HQ := Aside0.mk h
    rw [if_pos h]
    clear h
    go_enter Try.func22, Try.ntmps22
    go_wp2_with (go_at_call 21; refine (different_calls Au cu l _ HR.out HC.out HRU.out).mono ?_; rw [show tf (Diff (times l)) = true from HQ.out]; rintro e w1 ⟨rfl, hb⟩; have hv1 := HV.out.below hb; have hc1 := cell_of_one hv1; have hf1 := free_of_one hv1; have HV1 := Aside0.mk hv1; have HB := Aside0.mk hb; clear hv1 hb)
    repeat (go_quiet (fail); try go_wp2)
    go_ret
    refine ⟨rfl, Var.put HV1.out _, (Chg.of_below HB.out).put (fun _ => .inl rfl) 0 _⟩
  · have HQ := Aside0.mk (show qq false l = false by simpa using h)
    rw [if_neg h]
    clear h
    go_enter Try.func22, Try.ntmps22
    go_wp2_with (go_at_call 21; refine (different_calls Au cu l _ HR.out HC.out HRU.out).mono ?_; rw [show tf (Diff (times l)) = false from HQ.out]; rintro e w1 ⟨rfl, hb⟩; have HB := Aside0.mk hb; clear hb)
    repeat (go_quiet (fail); try go_wp2)
    go_ret
    exact ⟨rfl, HV.out.below (by repeat (first | (with_reducible first | exact HB.out | apply below_alloc | apply pw_below_drewN | apply below_drew1) | exact HB.out)), Chg.of_below (by repeat (first | (with_reducible first | exact HB.out | apply below_alloc | apply pw_below_drewN | apply below_drew1) | exact HB.out))⟩
set_option maxHeartbeats 1600000 in
theorem callCountW (bo B : Nat) (u : Value) (l : List Int) (w : World) (Q : Nat → Prop) (s : Nat) (hp : Ow w B u l) (hq : ∀ k, u.ownBlock = some k → ¬ Q k ∧ k ≠ bo) (hb : ¬ Q bo) (hs : StCount bo B w Q s) (hB : B ≤ bo) (hru : Ruler l) (hx : sizeCount s + 1 ≤ 4000000000000000000) :
    Calls Try.prog 24 #[u, .pointer (some ⟨bo, 0, none⟩)] w fun e w' => e = .returned (.bool (if qq true l = true then (nextCount s l, false) else (s, false)).2) ∧ StCount bo B w' (fun k => Q k ∨ w.heap.size ≤ k) (if qq true l = true then (nextCount s l, false) else (s, false)).1 ∧ Chg (fun k => k = bo ∨ Q k) w w' := by
  have hv : Var w bo 3 (.int .i64 (s : Int)) := hs
  obtain ⟨Au, cu, rfl, hcap, hrd⟩ := Ow_form hp
  have HV := Aside0.mk hv
  have HR := Aside0.mk hrd
  have HC := Aside0.mk hcap
  have HRU := Aside0.mk hru
  have hx2 : s + 1 ≤ 4000000000000000000 := hx
  clear hv hs hp hq hb hx hru hrd hcap
  by_cases h : qq true l = true
  · have HQ := Aside0.mk h
    rw [if_pos h]
    clear h
    go_enter Try.func24, Try.ntmps24
    go_wp2_with (go_at_call 25; refine (whole_calls Au cu l _ HR.out HC.out HRU.out).mono ?_; rw [show tf (Whole (times l)) = true from HQ.out]; rintro e w1 ⟨rfl, hb⟩; have hv1 := HV.out.below hb; have hc1 := cell_of_one hv1; have hf1 := free_of_one hv1; have HV1 := Aside0.mk hv1; have HB := Aside0.mk hb; clear hv1 hb)
    repeat (go_quiet (fail); try go_wp2)
    go_ret
    refine ⟨rfl, Var.put HV1.out _, (Chg.of_below HB.out).put (fun _ => .inl rfl) 0 _⟩
  · have HQ := Aside0.mk (show qq true l = false by simpa using h)
    rw [if_neg h]
    clear h
    go_enter Try.func24, Try.ntmps24
    go_wp2_with (go_at_call 25; refine (whole_calls Au cu l _ HR.out HC.out HRU.out).mono ?_; rw [show tf (Whole (times l)) = false from HQ.out]; rintro e w1 ⟨rfl, hb⟩; have HB := Aside0.mk hb; clear hb)
    repeat (go_quiet (fail); try go_wp2)
    go_ret
    exact ⟨rfl, HV.out.below (by repeat (first | (with_reducible first | exact HB.out | apply below_alloc | apply pw_below_drewN | apply below_drew1) | exact HB.out)), Chg.of_below (by repeat (first | (with_reducible first | exact HB.out | apply below_alloc | apply pw_below_drewN | apply below_drew1) | exact HB.out))⟩
set_option maxHeartbeats 1600000 in
theorem callFirstD (bo B : Nat) (u : Value) (l : List Int) (w : World) (Q : Nat → Prop) (s : List Int) (hp : Ow w B u l) (hq : ∀ k, u.ownBlock = some k → ¬ Q k ∧ k ≠ bo) (hb : ¬ Q bo) (hs : StFirst bo B w Q s) (hB : B ≤ bo) (hru : Ruler l) :
    Calls Try.prog 26 #[u, .pointer (some ⟨bo, 0, none⟩)] w fun e w' => e = .returned (.bool (if qq false l = true then (nextFirst s l, true) else (s, false)).2) ∧ StFirst bo B w' (fun k => Q k ∨ w.heap.size ≤ k) (if qq false l = true then (nextFirst s l, true) else (s, false)).1 ∧ Chg (fun k => k = bo ∨ Q k) w w' := by
  have hbo := StFirst_lt hs
  obtain ⟨v, hv, ho⟩ := hs
  obtain ⟨Au, cu, rfl, hcap, hrd⟩ := Ow_form hp
  obtain ⟨Av, cv, rfl⟩ := Kd.R_slice ho
  have hl12 := hru.1.1.2
  have HV := Aside0.mk hv
  have HO := Aside0.mk ho
  have HR := Aside0.mk hrd
  have HC := Aside0.mk hcap
  have HRU := Aside0.mk hru
  clear hv hp hq hb hru hrd hcap ho
  by_cases h : qq false l = true
  · have HQ := Aside0.mk h
    rw [if_pos h]
    clear h
    go_enter Try.func26, Try.ntmps26
    go_wp2_with (first | (go_at_call 21; refine (different_calls Au cu l _ HR.out HC.out HRU.out).mono ?_; rw [show tf (Diff (times l)) = true from HQ.out]; rintro e w1 ⟨rfl, hb⟩; have HB := Aside0.mk hb; clear hb) | (go_at_call 27; refine (Clone_calls _ _ l _ (Kd.C_below HR.out (by repeat (first | (with_reducible first | exact HB.out | apply below_alloc | apply pw_below_drewN | apply below_drew1) | exact HB.out))) HC.out (by omega)).mono ?_; rintro e w2 ⟨v2, rfl, ho2, hb2⟩; obtain ⟨A2, c2, rfl⟩ := Kd.R_slice ho2; have hb3 := below_step (by repeat (first | (with_reducible first | exact HB.out | apply below_alloc | apply pw_below_drewN | apply below_drew1) | exact HB.out)) hb2; have hv2 := HV.out.below hb3; have hc2 := cell_of_one hv2; have hf2 := free_of_one hv2; have HV2 := Aside0.mk hv2; have HO2 := Aside0.mk (Ow_lower (B' := w.heap.size) ho2 (below_size (by repeat (first | (with_reducible first | exact HB.out | apply below_alloc | apply pw_below_drewN | apply below_drew1) | exact HB.out)))); clear HB; have HB := Aside0.mk hb3; clear hv2 hb2 hb3 ho2))
    repeat (go_quiet (fail); try go_wp2)
    go_ret
    refine ⟨rfl, ⟨_, Var.put HV2.out _, ?_⟩, (Chg.of_below HB.out).put (fun _ => .inl rfl) 0 _⟩
    exact Kd.R_mono (Kd.R_far (Kd.R_lower (base' := B) (Ow_re (ok := fun k => w.heap.size ≤ k) HO2.out (fun k hk => Kd.R_base HO2.out k hk)) (by omega)) (fun k (hk : w.heap.size ≤ k) => show k ≠ bo by omega) _) (fun k hk => .inr hk)
  · have HQ := Aside0.mk (show qq false l = false by simpa using h)
    rw [if_neg h]
    clear h
    go_enter Try.func26, Try.ntmps26
    go_wp2_with (go_at_call 21; refine (different_calls Au cu l _ HR.out HC.out HRU.out).mono ?_; rw [show tf (Diff (times l)) = false from HQ.out]; rintro e w1 ⟨rfl, hb⟩; have HB := Aside0.mk hb; clear hb)
    repeat (go_quiet (fail); try go_wp2)
    go_ret
    exact ⟨rfl, ⟨_, HV.out.below (by repeat (first | (with_reducible first | exact HB.out | apply below_alloc | apply pw_below_drewN | apply below_drew1) | exact HB.out)), Kd.R_mono (Kd.R_below HO.out (by repeat (first | (with_reducible first | exact HB.out | apply below_alloc | apply pw_below_drewN | apply below_drew1) | exact HB.out))) (fun k hk => .inl hk)⟩, Chg.of_below (by repeat (first | (with_reducible first | exact HB.out | apply below_alloc | apply pw_below_drewN | apply below_drew1) | exact HB.out))⟩
set_option maxHeartbeats 1600000 in
theorem callFirstW (bo B : Nat) (u : Value) (l : List Int) (w : World) (Q : Nat → Prop) (s : List Int) (hp : Ow w B u l) (hq : ∀ k, u.ownBlock = some k → ¬ Q k ∧ k ≠ bo) (hb : ¬ Q bo) (hs : StFirst bo B w Q s) (hB : B ≤ bo) (hru : Ruler l) :
    Calls Try.prog 28 #[u, .pointer (some ⟨bo, 0, none⟩)] w fun e w' => e = .returned (.bool (if qq true l = true then (nextFirst s l, true) else (s, false)).2) ∧ StFirst bo B w' (fun k => Q k ∨ w.heap.size ≤ k) (if qq true l = true then (nextFirst s l, true) else (s, false)).1 ∧ Chg (fun k => k = bo ∨ Q k) w w' := by
  have hbo := StFirst_lt hs
  obtain ⟨v, hv, ho⟩ := hs
  obtain ⟨Au, cu, rfl, hcap, hrd⟩ := Ow_form hp
  obtain ⟨Av, cv, rfl⟩ := Kd.R_slice ho
  have hl12 := hru.1.1.2
  have HV := Aside0.mk hv
  have HO := Aside0.mk ho
  have HR := Aside0.mk hrd
  have HC := Aside0.mk hcap
  have HRU := Aside0.mk hru
  clear hv hp hq hb hru hrd hcap ho
  by_cases h : qq true l = true
  · have HQ := Aside0.mk h
    rw [if_pos h]
    clear h
    go_enter Try.func28, Try.ntmps28
    go_wp2_with (first | (go_at_call 25; refine (whole_calls Au cu l _ HR.out HC.out HRU.out).mono ?_; rw [show tf (Whole (times l)) = true from HQ.out]; rintro e w1 ⟨rfl, hb⟩; have HB := Aside0.mk hb; clear hb) | (go_at_call 27; refine (Clone_calls _ _ l _ (Kd.C_below HR.out (by repeat (first | (with_reducible first | exact HB.out | apply below_alloc | apply pw_below_drewN | apply below_drew1) | exact HB.out))) HC.out (by omega)).mono ?_; rintro e w2 ⟨v2, rfl, ho2, hb2⟩; obtain ⟨A2, c2, rfl⟩ := Kd.R_slice ho2; have hb3 := below_step (by repeat (first | (with_reducible first | exact HB.out | apply below_alloc | apply pw_below_drewN | apply below_drew1) | exact HB.out)) hb2; have hv2 := HV.out.below hb3; have hc2 := cell_of_one hv2; have hf2 := free_of_one hv2; have HV2 := Aside0.mk hv2; have HO2 := Aside0.mk (Ow_lower (B' := w.heap.size) ho2 (below_size (by repeat (first | (with_reducible first | exact HB.out | apply below_alloc | apply pw_below_drewN | apply below_drew1) | exact HB.out)))); clear HB; have HB := Aside0.mk hb3; clear hv2 hb2 hb3 ho2))
    repeat (go_quiet (fail); try go_wp2)
    go_ret
    refine ⟨rfl, ⟨_, Var.put HV2.out _, ?_⟩, (Chg.of_below HB.out).put (fun _ => .inl rfl) 0 _⟩
    exact Kd.R_mono (Kd.R_far (Kd.R_lower (base' := B) (Ow_re (ok := fun k => w.heap.size ≤ k) HO2.out (fun k hk => Kd.R_base HO2.out k hk)) (by omega)) (fun k (hk : w.heap.size ≤ k) => show k ≠ bo by omega) _) (fun k hk => .inr hk)
  · have HQ := Aside0.mk (show qq true l = false by simpa using h)
    rw [if_neg h]
    clear h
    go_enter Try.func28, Try.ntmps28
    go_wp2_with (go_at_call 25; refine (whole_calls Au cu l _ HR.out HC.out HRU.out).mono ?_; rw [show tf (Whole (times l)) = false from HQ.out]; rintro e w1 ⟨rfl, hb⟩; have HB := Aside0.mk hb; clear hb)
    repeat (go_quiet (fail); try go_wp2)
    go_ret
    exact ⟨rfl, ⟨_, HV.out.below (by repeat (first | (with_reducible first | exact HB.out | apply below_alloc | apply pw_below_drewN | apply below_drew1) | exact HB.out)), Kd.R_mono (Kd.R_below HO.out (by repeat (first | (with_reducible first | exact HB.out | apply below_alloc | apply pw_below_drewN | apply below_drew1) | exact HB.out))) (fun k hk => .inl hk)⟩, Chg.of_below (by repeat (first | (with_reducible first | exact HB.out | apply below_alloc | apply pw_below_drewN | apply below_drew1) | exact HB.out))⟩
end Go.Proofs.Ytmmnohdokemchaa.Own.G
