/- The contracts of timers.Check, Cancel, Set and Expire at queues of at most one timer, in the printed form. -/
import Derived.Test.YtenaokgcljpcgaaDoorJA
import Derived.Test.YtenaokgcljpcgaaDoorGQx4
import Derived.Test.YtenaokgcljpcgaaDoorJI
set_option linter.unusedVariables false
set_option linter.unusedSimpArgs false
namespace Go.Proofs.YtenaokgcljpcgaaDoor.GQ
open Go.RowKit Go.Proofs.YtenaokgcljpcgaaDoorW.PrintWords Go.Proofs.YtenaokgcljpcgaaDoorW.PrintLast Go.Proofs.YtenaokgcljpcgaaDoorW.PrintMore
theorem QV.one {x : S98} (h0 : 0 ≤ x.f1) (h1 : x.f1 ≤ 1099511627776) : QV [x] := ⟨by simp, by simp, fun y hy => by rw [List.mem_singleton.1 hy]; exact ⟨h0, h1⟩, List.pairwise_singleton _ _⟩
theorem timers_Check.calls (A0_0 : Option Addr) (c0_0 : Nat) (l0_0 : List (S98)) (r : Int) (w : World) (hr0_0 : Kd.C k98 w A0_0 l0_0.length l0_0) (hc0_0 : l0_0.length ≤ c0_0) (h : timers_Check.f l0_0 = some r) (hT : Tab w) :
    Calls Tryd.prog 35 #[.agg #[.slice A0_0 l0_0.length c0_0]] w fun e w' => e = .returned (.int .i64 r) ∧ Below w.heap.size w w' := by
  rcases l0_0 with _ | ⟨x, _ | ⟨y, l⟩⟩
  · obtain rfl := Option.some.inj h
    exact check_calls hr0_0 hc0_0 QV.nil
  · by_cases hx : 0 ≤ x.f1 ∧ x.f1 ≤ 1099511627776
    · obtain rfl : (0 : Int) = r := by simpa [timers_Check.f, hx] using h
      exact check_calls hr0_0 hc0_0 (QV.one hx.1 hx.2)
    · simp [timers_Check.f, hx] at h
  · simp [timers_Check.f] at h
theorem timers_Expire.calls (A0_0 : Option Addr) (c0_0 : Nat) (l0_0 : List (S98)) (a1 : Int) (r1 : List (S98)) (r2 : List Int) (r3 : Int) (w : World) (hr0_0 : Kd.C k98 w A0_0 l0_0.length l0_0) (hc0_0 : l0_0.length ≤ c0_0) (h : timers_Expire.f l0_0 a1 = some (r1, r2, r3)) (hT : Tab w) :
    Calls Tryd.prog 25 #[.agg #[.slice A0_0 l0_0.length c0_0], .int .i64 a1] w fun e w' => ∃ v0_ v1_ : Value, e = .returned (.tuple #[.agg #[v0_], v1_, .int .i64 r3]) ∧ Kd.R k98 98 w' w.heap.size (fun _ => True) v0_ r1 ∧ Kd.R (Kd.int .i64) 3 w' w.heap.size (fun _ => True) v1_ r2 ∧ Below w.heap.size w w' := by
  rcases l0_0 with _ | ⟨x, _ | ⟨y, l⟩⟩
  · simp [timers_Expire.f] at h
  · by_cases hx : a1 = x.f1 ∧ 0 ≤ x.f1 ∧ x.f1 ≤ 1099511627776
    · have h' : some (([] : List S98), [x.f0], (0 : Int)) = some (r1, r2, r3) := by rw [← h]; simp only [timers_Expire.f]; rw [if_pos hx]
      obtain ⟨rfl, h2⟩ := Prod.mk.inj (Option.some.inj h')
      obtain ⟨rfl, rfl⟩ := Prod.mk.inj h2
      obtain ⟨rfl, hx0, hx1⟩ := hx
      have := expire_calls (now := x.f1) hr0_0 hc0_0 (QV.one hx0 hx1) hx0 hx1
      rw [show [x].filter (fun y => !(decide (y.f1 ≤ x.f1))) = [] by simp, show [x].filter (fun y => decide (y.f1 ≤ x.f1)) = [x] by simp] at this
      exact this
    · simp [timers_Expire.f, hx] at h
  · simp [timers_Expire.f] at h
theorem timers_Set.calls (A0_0 : Option Addr) (c0_0 : Nat) (l0_0 : List (S98)) (a1 : Int) (a2 : Int) (r1 : List (S98)) (r2 : Int) (w : World) (hr0_0 : Kd.C k98 w A0_0 l0_0.length l0_0) (hc0_0 : l0_0.length ≤ c0_0) (h : timers_Set.f l0_0 a1 a2 = some (r1, r2)) (hT : Tab w) :
    Calls Tryd.prog 26 #[.agg #[.slice A0_0 l0_0.length c0_0], .int .i64 a1, .int .i64 a2] w fun e w' => ∃ v0_ : Value, e = .returned (.tuple #[.agg #[v0_], .int .i64 r2]) ∧ Kd.R k98 98 w' w.heap.size (fun _ => True) v0_ r1 ∧ Below w.heap.size w w' := by
  rcases l0_0 with _ | ⟨x, l⟩
  · by_cases hx : 0 ≤ a2 ∧ a2 ≤ 1099511627776
    · have h' : some ([(⟨a1, a2⟩ : S98)], (0 : Int)) = some (r1, r2) := by rw [← h]; simp only [timers_Set.f]; rw [if_pos hx]
      obtain ⟨rfl, rfl⟩ := Prod.mk.inj (Option.some.inj h')
      exact set_calls0 hr0_0 hc0_0 QV.nil hx.1 hx.2 (by simp)
    · simp [timers_Set.f, hx] at h
  · simp [timers_Set.f] at h
theorem timers_Cancel.calls (A0_0 : Option Addr) (c0_0 : Nat) (l0_0 : List (S98)) (a1 : Int) (r1 : List (S98)) (r2 : Int) (w : World) (hr0_0 : Kd.C k98 w A0_0 l0_0.length l0_0) (hc0_0 : l0_0.length ≤ c0_0) (h : timers_Cancel.f l0_0 a1 = some (r1, r2)) (hT : Tab w) :
    Calls Tryd.prog 27 #[.agg #[.slice A0_0 l0_0.length c0_0], .int .i64 a1] w fun e w' => ∃ v0_ : Value, e = .returned (.tuple #[.agg #[v0_], .int .i64 r2]) ∧ Kd.R k98 98 w' w.heap.size (fun _ => True) v0_ r1 ∧ Below w.heap.size w w' := by
  rcases l0_0 with _ | ⟨x, _ | ⟨y, l⟩⟩
  · have h' : some (([] : List S98), (0 : Int)) = some (r1, r2) := h
    obtain ⟨rfl, rfl⟩ := Prod.mk.inj (Option.some.inj h')
    have := cancel_calls (id := a1) hr0_0 hc0_0 QV.nil
    simpa using this
  · by_cases hx : x.f0 = a1 ∧ 0 ≤ x.f1 ∧ x.f1 ≤ 1099511627776
    · have h' : some (([] : List S98), (0 : Int)) = some (r1, r2) := by rw [← h]; simp only [timers_Cancel.f]; rw [if_pos hx]
      obtain ⟨rfl, rfl⟩ := Prod.mk.inj (Option.some.inj h')
      obtain ⟨rfl, hx0, hx1⟩ := hx
      have := cancel_calls (id := x.f0) hr0_0 hc0_0 (QV.one hx0 hx1)
      rw [show [x].filter (fun y => !(y.f0 == x.f0)) = [] by simp] at this
      exact this
    · simp [timers_Cancel.f, hx] at h
  · simp [timers_Cancel.f] at h
end Go.Proofs.YtenaokgcljpcgaaDoor.GQ
