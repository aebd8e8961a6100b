import Derived.Test.YtpmkbpphlokbjaaGAx4
import Derived.Test.YtpmkbpphlokbjaaGAx4b
import Derived.Test.YtpmkbpphlokbjaaHA
namespace Go.Proofs.Ytpmkbpphlokbjaa.GA
open Go.RowKit HA
theorem sane_one : crossbarlaw32_sane.f 1 = some true := by kernel_rfl
def newOk (p d l : Int) : Prop := 1 ≤ p ∧ p ≤ 86400 ∧ 1 ≤ d ∧ d ≤ 1024 ∧ 0 ≤ l ∧ l ≤ 1099511627776
instance (p d l : Int) : Decidable (newOk p d l) := by unfold newOk; exact inferInstance
theorem new_eq (p d now : Int) : overload_New.f p d now = some (if newOk p d now then (d, now, p, d, 0) else (0, 0, 0, 0, 1)) := by
  unfold overload_New.f
  rw [check_eq]
  simp only [Option.bind_some]
  by_cases h : newOk p d now
  · have hv : Vb d now p d := ⟨h.1, h.2.1, h.2.2.1, h.2.2.2.1, by have := h.2.2.1; omega, by omega, h.2.2.2.2.1, h.2.2.2.2.2⟩
    rw [if_pos hv, if_pos h]; rfl
  · have hv : ¬ Vb d now p d := fun v => h ⟨v.1, v.2.1, v.2.2.1, v.2.2.2.1, v.2.2.2.2.2.2.1, v.2.2.2.2.2.2.2⟩
    rw [if_neg hv, if_neg h]; rfl
theorem rnew_eq (p d now : Int) : crossbarref32_New.f p d now = some (if newOk p d now then (d, now, p, d, 0) else (0, 0, 0, 0, 1)) := by
  unfold crossbarref32_New.f
  rw [shape_eq]
  simp only [Option.bind_some]
  by_cases h : newOk p d now
  · rw [if_pos h, if_pos (decide_eq_true (show 1 ≤ p ∧ _ from h))]
  · rw [if_neg h, if_neg (by rw [decide_eq_true_eq]; exact h)]
theorem pure_OverloadBucketSpec (t l p d a1 a2 a3 : Int) : ∃ k, crossbarlaw32_OverloadBucketSpec.f k t l p d a1 a2 a3 = some true := by
  refine ⟨1, ?_⟩
  unfold crossbarlaw32_OverloadBucketSpec.f
  rw [sane_one, new_eq, rnew_eq, level_eq, rlevel_eq, check_eq, rcheck_eq]
  simp
end Go.Proofs.Ytpmkbpphlokbjaa.GA
