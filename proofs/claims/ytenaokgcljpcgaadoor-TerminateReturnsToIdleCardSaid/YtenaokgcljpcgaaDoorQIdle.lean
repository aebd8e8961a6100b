/- The plain laws TerminateReturnsToIdle and TerminateRefusesSecondCall. -/
import Derived.Test.YtenaokgcljpcgaaDoorQT
import Derived.Test.YtenaokgcljpcgaaDoorGAx9b
set_option linter.unusedVariables false
set_option linter.unusedSimpArgs false
namespace Go.Proofs.YtenaokgcljpcgaaDoor.GA
open Go.RowKit Go.Proofs.YtenaokgcljpcgaaDoorW.PrintWords Go.Proofs.YtenaokgcljpcgaaDoorW.PrintLast Go.Proofs.YtenaokgcljpcgaaDoorW.PrintMore
theorem pure_TerminateReturnsToIdle (s c : Int) : ∃ k, crossbarlaw17_TerminateReturnsToIdle.f k s c = some true := by
  refine ⟨40, ?_⟩
  unfold crossbarlaw17_TerminateReturnsToIdle.f
  rw [sane_40, tcheck_eq]
  simp only [step_ge (show 10 ≤ 40 by omega), Option.bind_some, if_pos]
  by_cases h : 0 ≤ s ∧ s ≤ 4
  · rw [if_pos h]
    have hs : s = 0 ∨ s = 1 ∨ s = 2 ∨ s = 3 ∨ s = 4 := by omega
    rcases hs with rfl | rfl | rfl | rfl | rfl <;> simp [stepF]
  · rw [if_neg h]; rfl
theorem refuse_of {s : Int} (h0 : 0 ≤ s) (h1 : s ≤ 4) (h : s ≠ 0) : stepF s 10 0 = (s, [⟨17, 17, E, 0⟩], 0) := by
  unfold stepF
  rw [if_neg (by omega), if_pos ⟨rfl, h⟩]
theorem pure_TerminateRefusesSecondCall (s : Int) (l : List S25) : ∃ k, crossbarlaw17_TerminateRefusesSecondCall.f k s l = some true := by
  refine ⟨500, ?_⟩
  unfold crossbarlaw17_TerminateRefusesSecondCall.f
  rw [sane_ge (by omega), tcheck_eq]
  simp only [Option.bind_some, if_pos]
  by_cases hl : (l.length : Int) > 100
  · rw [if_pos hl]; simp [crossbarlaw17_TerminateRefusesSecondCall.j0]
  · rw [if_neg hl]
    by_cases h : 0 ≤ s ∧ s ≤ 4
    · rw [if_pos h]
      simp only [if_pos]
      by_cases h0 : s = 0
      · simp [crossbarlaw17_TerminateRefusesSecondCall.j0, h0]
      · rw [beq_eq_false_iff_ne.mpr h0]
        have hb := (runM_len l s).1
        simp only [crossbarlaw17_TerminateRefusesSecondCall.j0, step_ge (show 10 ≤ 499 by omega), refuse_of h.1 h.2 h0, Bool.false_eq_true, if_false, Option.bind_some, if_pos, beq_self_eq_true, Bool.not_true]
        rw [same_self _ (by simp) (by simp)]
        have hr : runM s ((⟨10, 0, 0⟩ : S25) :: l) = ((runM s l).1, (⟨17, 17, E, 0⟩ : S46) :: (runM s l).2.1, (runM s l).2.2 + 1) := by simp [runM, refuse_of h.1 h.2 h0]
        have hm := runM_len l s
        simp only [crossbarlaw17_TerminateRefusesSecondCall.j1, Option.bind_some, Bool.not_true, Bool.false_eq_true, if_false]
        rw [if_pos (by simp; omega), List.singleton_append, run_ge s ((⟨10, 0, 0⟩ : S25) :: l) (by simp; omega) (by simp; omega), run_ge s l (by omega) (by omega), if_pos h, if_pos h, hr]
        simp only [Option.bind_some, beq_self_eq_true, if_true, List.length_cons]
        rw [wr (by omega), wr (by omega), if_pos (by omega), if_pos (by omega), if_pos (by omega), List.drop_succ_cons, List.drop_zero, same_self _ (by omega) (by omega)]
        rfl
    · rw [if_neg h]
      simp [crossbarlaw17_TerminateRefusesSecondCall.j0]
end Go.Proofs.YtenaokgcljpcgaaDoor.GA
