/- The contracts of timers.Check, Set and Expire and of overload.Admit and Level, in the printed form. -/
import Derived.Test.YtpmkbpphlokbjaaJH
import Derived.Test.YtpmkbpphlokbjaaJW
set_option linter.unusedVariables false
set_option linter.unusedSimpArgs false
namespace Go.Proofs.Ytpmkbpphlokbjaa.GT
open Go.RowKit Go.Proofs.YtpmkbpphlokbjaaW.PrintWords Go.Proofs.YtpmkbpphlokbjaaW.PrintLast Go.Proofs.YtpmkbpphlokbjaaW.PrintMore
theorem timers_Check.calls (A0_0 : Option Addr) (c0_0 : Nat) (l0_0 : List (S64)) (r : Int) (w : World) (hr0_0 : Kd.C k64 w A0_0 l0_0.length l0_0) (hc0_0 : l0_0.length ≤ c0_0) (h : timers_Check.f l0_0 = some r) :
    Calls Try.prog 34 #[.agg #[.slice A0_0 l0_0.length c0_0]] w fun e w' => e = .returned (.int .i64 r) ∧ Below w.heap.size w w' := by
  unfold timers_Check.f at h
  by_cases hq : QV l0_0
  · rw [if_pos hq] at h
    obtain rfl := Option.some.inj h
    exact check_calls hr0_0 hc0_0 hq
  · rw [if_neg hq] at h
    cases h
theorem timers_Expire.calls (A0_0 : Option Addr) (c0_0 : Nat) (l0_0 : List (S64)) (a1 : Int) (r1 : List (S64)) (r2 : List Int) (r3 : Int) (w : World) (hr0_0 : Kd.C k64 w A0_0 l0_0.length l0_0) (hc0_0 : l0_0.length ≤ c0_0) (h : timers_Expire.f l0_0 a1 = some (r1, r2, r3)) :
    Calls Try.prog 21 #[.agg #[.slice A0_0 l0_0.length c0_0], .int .i64 a1] w fun e w' => ∃ v0_ v1_ : Value, e = .returned (.tuple #[.agg #[v0_], v1_, .int .i64 r3]) ∧ Kd.R k64 64 w' w.heap.size (fun _ => True) v0_ r1 ∧ Kd.R (Kd.int .i64) 3 w' w.heap.size (fun _ => True) v1_ r2 ∧ Below w.heap.size w w' := by
  unfold timers_Expire.f at h
  by_cases hq : QV l0_0 ∧ 0 ≤ a1 ∧ a1 ≤ 1099511627776
  · rw [if_pos hq] at h
    obtain ⟨rfl, h2⟩ := Prod.mk.inj (Option.some.inj h)
    obtain ⟨rfl, rfl⟩ := Prod.mk.inj h2
    exact expire_calls hr0_0 hc0_0 hq.1 hq.2.1 hq.2.2
  · rw [if_neg hq] at h
    cases h
theorem timers_Set.calls (A0_0 : Option Addr) (c0_0 : Nat) (l0_0 : List (S64)) (a1 : Int) (a2 : Int) (r1 : List (S64)) (r2 : Int) (w : World) (hr0_0 : Kd.C k64 w A0_0 l0_0.length l0_0) (hc0_0 : l0_0.length ≤ c0_0) (h : timers_Set.f l0_0 a1 a2 = some (r1, r2)) :
    Calls Try.prog 19 #[.agg #[.slice A0_0 l0_0.length c0_0], .int .i64 a1, .int .i64 a2] w fun e w' => ∃ v0_ : Value, e = .returned (.tuple #[.agg #[v0_], .int .i64 r2]) ∧ Kd.R k64 64 w' w.heap.size (fun _ => True) v0_ r1 ∧ Below w.heap.size w w' := by
  unfold timers_Set.f at h
  by_cases hq : QV l0_0 ∧ 0 ≤ a2 ∧ a2 ≤ 1099511627776 ∧ (l0_0.filter (fun x => !(x.f0 == a1))).length < 1024
  · rw [if_pos hq] at h
    obtain ⟨rfl, rfl⟩ := Prod.mk.inj (Option.some.inj h)
    exact set_all hr0_0 hc0_0 hq.1 hq.2.1 hq.2.2.1 hq.2.2.2
  · rw [if_neg hq] at h
    cases h
end Go.Proofs.Ytpmkbpphlokbjaa.GT
