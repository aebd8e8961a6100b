/- The plain law TerminateRunSpec. -/
import Derived.Test.YtenaokgcljpcgaaDoorQT
import Derived.Test.YtenaokgcljpcgaaDoorGAx7
import Derived.Test.YtenaokgcljpcgaaDoorGAx7b
set_option linter.unusedVariables false
set_option linter.unusedSimpArgs false
namespace Go.Proofs.YtenaokgcljpcgaaDoor.GA
open Go.RowKit Go.Proofs.YtenaokgcljpcgaaDoorW.PrintWords Go.Proofs.YtenaokgcljpcgaaDoorW.PrintLast Go.Proofs.YtenaokgcljpcgaaDoorW.PrintMore
theorem rrun_l0 : ∀ (k : Nat) (a : List S25) (b : List S46) (c : List S25) (d e f : Int), crossbarref17_Run.l0 k a b c d e f = terminate_Run.l0 k a b c d e f := by
  intro k
  induction k with
  | zero => intros; rfl
  | succ k ih =>
    intro a b c d e f
    simp only [crossbarref17_Run.l0, terminate_Run.l0, rstep_eq, ih]
theorem rrun_eq (k : Nat) (s : Int) (l : List S25) : crossbarref17_Run.f k s l = terminate_Run.f k s l := by
  unfold crossbarref17_Run.f terminate_Run.f
  rw [tcheck_eq, rcheck_eq]
  simp only [rrun_l0]
theorem pure_TerminateRunSpec (s : Int) (l : List S25) : ∃ k, crossbarlaw17_TerminateRunSpec.f k s l = some true := by
  refine ⟨400, ?_⟩
  unfold crossbarlaw17_TerminateRunSpec.f
  rw [sane_ge (by omega)]
  simp only [Option.bind_some, if_pos]
  by_cases h : (l.length : Int) > 100
  · rw [if_pos h]
  · rw [if_neg h, rrun_eq, run_ge s l (by omega) (by omega)]
    have hb := (runM_len l s).1
    split
    · simp only [Option.bind_some, beq_self_eq_true, if_pos]
      rw [same_self _ (by omega) (by omega)]
      simp
    · simp only [Option.bind_some, beq_self_eq_true, if_pos]
      rw [same_self _ (by simp) (by simp)]
      simp
end Go.Proofs.YtenaokgcljpcgaaDoor.GA
