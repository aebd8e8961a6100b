/- The plain law TerminateStepSpec. -/
import Derived.Test.YtenaokgcljpcgaaDoorQT
import Derived.Test.YtenaokgcljpcgaaDoorGAx6b
set_option linter.unusedVariables false
set_option linter.unusedSimpArgs false
namespace Go.Proofs.YtenaokgcljpcgaaDoor.GA
open Go.RowKit Go.Proofs.YtenaokgcljpcgaaDoorW.PrintWords Go.Proofs.YtenaokgcljpcgaaDoorW.PrintLast Go.Proofs.YtenaokgcljpcgaaDoorW.PrintMore
theorem pure_TerminateStepSpec (s kd c dg : Int) : ∃ k, crossbarlaw17_TerminateStepSpec.f k s kd c dg = some true := by
  refine ⟨40, ?_⟩
  unfold crossbarlaw17_TerminateStepSpec.f
  rw [sane_40, rstep_eq, step_ge (by omega), tcheck_eq, rcheck_eq]
  simp only [Option.bind_some, if_pos, beq_self_eq_true]
  rw [same_self _ (by have := (stepF_ok s kd c).2.1; omega) (by have := (stepF_ok s kd c).2.1; omega)]
  simp
end Go.Proofs.YtenaokgcljpcgaaDoor.GA
