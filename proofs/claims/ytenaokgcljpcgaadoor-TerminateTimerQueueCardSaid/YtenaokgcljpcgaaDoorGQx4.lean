-- written by wip/tools/doctor.py (the kit's print.py run with hand-given contracts); Lean checks it
import Derived.Test.YtenaokgcljpcgaaDoorGQx0
import Derived.Test.YtenaokgcljpcgaaDoorGQx3
namespace Go.Proofs.YtenaokgcljpcgaaDoor.GQ
open Go.RowKit Go.Proofs.YtenaokgcljpcgaaDoorW.PrintWords Go.Proofs.YtenaokgcljpcgaaDoorW.PrintLast Go.Proofs.YtenaokgcljpcgaaDoorW.PrintMore
attribute [local go_sem] max2_int min2_int max_two min_two max_three min_three max_four min_four   -- for this text's walks alone
set_option linter.unusedVariables false
set_option linter.unusedSimpArgs false

/-! ### timers_Expire: function 25 -/
def timers_Expire.f (l0_0 : List S98) (a1 : Int) : Option (List S98 × List Int × Int) := match l0_0 with
  | [x] => if a1 = x.f1 ∧ 0 ≤ x.f1 ∧ x.f1 ≤ 1099511627776 then some ([], [x.f0], 0) else none
  | _ => none
/-! ### timers_Set: function 26 -/
def timers_Set.f (l0_0 : List S98) (a1 : Int) (a2 : Int) : Option (List S98 × Int) := match l0_0 with
  | [] => if 0 ≤ a2 ∧ a2 ≤ 1099511627776 then some ([⟨a1, a2⟩], 0) else none
  | _ => none
/-! ### timers_Cancel: function 27 -/
def timers_Cancel.f (l0_0 : List S98) (a1 : Int) : Option (List S98 × Int) := match l0_0 with
  | [] => some ([], 0)
  | [x] => if x.f0 = a1 ∧ 0 ≤ x.f1 ∧ x.f1 ≤ 1099511627776 then some ([], 0) else none
  | _ => none
end Go.Proofs.YtenaokgcljpcgaaDoor.GQ
