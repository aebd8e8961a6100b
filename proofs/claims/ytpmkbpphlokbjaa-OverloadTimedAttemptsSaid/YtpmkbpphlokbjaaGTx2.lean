-- written by wip/tools/doctor.py (the kit's print.py run with hand-given contracts); Lean checks it
import Derived.Test.YtpmkbpphlokbjaaGTx0
import Derived.Test.YtpmkbpphlokbjaaGTx1
namespace Go.Proofs.Ytpmkbpphlokbjaa.GT
open Go.RowKit Go.Proofs.YtpmkbpphlokbjaaW.PrintWords Go.Proofs.YtpmkbpphlokbjaaW.PrintLast Go.Proofs.YtpmkbpphlokbjaaW.PrintMore
attribute [local go_sem] max2_int min2_int max_two min_two max_three min_three max_four min_four   -- for this text's walks alone
set_option linter.unusedVariables false
set_option linter.unusedSimpArgs false

/-! ### timers_Set: function 19 -/
/-- earlier, or at one time with the lower identifier -/
def tlt (a b : S64) : Prop := a.f1 < b.f1 ∨ (a.f1 = b.f1 ∧ a.f0 < b.f0)
instance (a b : S64) : Decidable (tlt a b) := by unfold tlt; exact inferInstance
/-- a valid queue -/
structure QV (l : List S64) : Prop where
  few : l.length ≤ 1024
  ids : (l.map S64.f0).Nodup
  times : ∀ x ∈ l, 0 ≤ x.f1 ∧ x.f1 ≤ 1099511627776
  order : l.Pairwise tlt
instance (l : List S64) : Decidable (QV l) := decidable_of_iff (l.length ≤ 1024 ∧ (l.map S64.f0).Nodup ∧ (∀ x ∈ l, 0 ≤ x.f1 ∧ x.f1 ≤ 1099511627776) ∧ l.Pairwise tlt) ⟨fun ⟨a, b, c, d⟩ => ⟨a, b, c, d⟩, fun ⟨a, b, c, d⟩ => ⟨a, b, c, d⟩⟩
def insT (l : List S64) (t : S64) : List S64 := l.filter (fun x => decide (tlt x t)) ++ t :: l.filter (fun x => !decide (tlt x t))
def timers_Set.f (l0_0 : List S64) (a1 : Int) (a2 : Int) : Option (List S64 × Int) := if QV l0_0 ∧ 0 ≤ a2 ∧ a2 ≤ 1099511627776 ∧ (l0_0.filter (fun x => !(x.f0 == a1))).length < 1024 then some (insT (l0_0.filter (fun x => !(x.f0 == a1))) ⟨a1, a2⟩, 0) else none
/-! ### timers_Check: function 34 -/
def timers_Check.f (l0_0 : List S64) : Option Int := if QV l0_0 then some 0 else none
/-! ### timers_Expire: function 21 -/
def timers_Expire.f (l0_0 : List S64) (a1 : Int) : Option (List S64 × List Int × Int) := if QV l0_0 ∧ 0 ≤ a1 ∧ a1 ≤ 1099511627776 then some (l0_0.filter (fun x => !(decide (x.f1 ≤ a1))), (l0_0.filter (fun x => decide (x.f1 ≤ a1))).map S64.f0, 0) else none
end Go.Proofs.Ytpmkbpphlokbjaa.GT
