/- The reference's trLess: the order of two rows of one length; lists of at most 1048576 numbers. -/
import Derived.Test.YtpabfibmpannoaaOwnLeA
namespace Go.Proofs.Ytpabfibmpannoaa.Own.G
open Go.RowKit Go.Proofs.YtpabfibmpannoaaW.PrintWords Go.Proofs.YtpabfibmpannoaaW.PrintLast Go.Proofs.YtpabfibmpannoaaW.PrintMore
set_option linter.unusedVariables false
theorem rowdrop {q : List Int} {i : Nat} (h : i < q.length) : q.drop i = rd q (i : Int) :: q.drop (i + 1) := by rw [rd_get h]; exact List.drop_eq_getElem_cons h
theorem lexB_step {q b : List Int} {i : Nat} (hq : i < q.length) (hb : i < b.length) : lexB (q.drop i) (b.drop i) = if rd q (i : Int) = rd b (i : Int) then lexB (q.drop (i + 1)) (b.drop (i + 1)) else decide (rd q (i : Int) < rd b (i : Int)) := by rw [rowdrop hq, rowdrop hb, lexB]
set_option maxHeartbeats 1600000 in
theorem trLess_calls (A : Option Addr) (c : Nat) (q : List Int) (A' : Option Addr) (c' : Nat) (b : List Int) (w : World) (hr : Rd w A q) (hc : q.length ≤ c) (hr' : Rd w A' b) (hc' : b.length ≤ c') (hl : q.length = b.length) (hn : q.length ≤ 1048576) :
    Calls Try.prog 68 #[.slice A q.length c, .slice A' b.length c'] w fun e w' => e = .returned (.bool (lexB q b)) ∧ Drawn0 w w' := by
  have HR := Aside0.mk hr
  have HR' := Aside0.mk hr'
  have HC := Aside0.mk hc
  have HC' := Aside0.mk hc'
  have HL := Aside0.mk hl
  have hbn : b.length ≤ 1048576 := by omega
  clear hr hc hr' hc' hl
  go_enter Try.func68, Try.ntmps68
  (go_wp2; repeat (go_quiet (fail); try go_wp2))
  go_loopg [8] q.length (fun g v8 w' => ∃ i : Nat, v8 = .int .i64 i ∧ Aside0 (i + g = q.length) ∧ Aside0 (lexB (q.drop i) (b.drop i) = lexB q b) ∧ Drawn0 w w')
  case atStart => exact ⟨0, rfl, ⟨by omega⟩, ⟨rfl⟩, (by repeat (first | exact Drawn0.refl _ | apply Drawn0.step))⟩
  case round =>
    obtain ⟨i, rfl, HI, HA, ⟨m1, rfl⟩⟩ := hrel
    by_cases hlt : i < q.length
    · have hlt2 : i < b.length := by rw [← HL.out]; exact hlt
      obtain ⟨ad, rfl, hx⟩ := at_nat HR.out hlt
      obtain ⟨ad2, rfl, hx2⟩ := at_nat HR'.out hlt2
      have hs := HA.out
      rw [lexB_step hlt hlt2] at hs
      by_cases hq : rd q (i : Int) = rd b (i : Int)
      · rw [if_pos hq] at hs
        have HS := Aside0.mk hs
        have hne : (rd q (i : Int) != rd b (i : Int)) = false := by rw [hq]; simp
        clear hs hq
        (go_wp2; repeat (go_quiet (fail); try go_wp2))
        go_roundg (gk - 1)
        case measure => have := HI.out; omega
        case rel => exact ⟨i + 1, by go_num, ⟨by have := HI.out; omega⟩, HS, (by repeat (first | exact Drawn0.refl _ | apply Drawn0.step))⟩
      · rw [if_neg hq] at hs
        have HS := Aside0.mk hs
        have hne : (rd q (i : Int) != rd b (i : Int)) = true := bne_iff_ne.mpr hq
        clear hs hq
        (go_wp2; repeat (go_quiet (fail); try go_wp2))
        go_ret
        exact ⟨ret_bool HS.out, (by repeat (first | exact Drawn0.refl _ | apply Drawn0.step))⟩
    · have HS := Aside0.mk (show lexB q b = false by
        rw [← HA.out, List.drop_eq_nil_of_le (show q.length ≤ i by omega)]; rfl)
      (go_wp2; repeat (go_quiet (fail); try go_wp2))
      go_ret
      exact ⟨ret_bool HS.out.symm, (by repeat (first | exact Drawn0.refl _ | apply Drawn0.step))⟩
end Go.Proofs.Ytpabfibmpannoaa.Own.G
