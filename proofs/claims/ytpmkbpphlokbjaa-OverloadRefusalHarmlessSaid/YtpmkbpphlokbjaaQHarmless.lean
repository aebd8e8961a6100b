import Derived.Test.YtpmkbpphlokbjaaGAx8
import Derived.Test.YtpmkbpphlokbjaaGAx8b
import Derived.Test.YtpmkbpphlokbjaaHA
set_option linter.unusedVariables false
set_option linter.unusedSimpArgs false
namespace Go.Proofs.Ytpmkbpphlokbjaa.GA
open Go.RowKit HA
theorem sane_one : crossbarlaw32_sane.f 1 = some true := by kernel_rfl
/-- advancing in two steps is advancing at once, but for a bucket that was full in between -/
theorem two_steps {t l p d now b : Int} (v : Valid t l p d now) (h : now ≤ b) (hb : b ≤ 1099511627776) (h0 : advT t l p d now = 0) :
    advT 0 (advL t l p d now) p d b = advT t l p d b := by
  have vb : Valid t l p d b := ⟨v.t0, v.td, v.d1, v.d2, v.p1, v.p2, v.l0, by have := v.ln; omega, hb⟩
  have n0 := v.n0; have n3 := vb.n0
  have ⟨a1, a2, a3, a4, a5, a6, a7, a8, a9⟩ := v
  unfold advT at h0
  have hlt : t + (now - l) / p < d := by
    by_cases hl : t + (now - l) / p < d
    · exact hl
    · rw [if_neg hl] at h0; omega
  rw [if_pos hlt] at h0
  have hn : (now - l) / p = 0 := by omega
  have ht : t = 0 := by omega
  have hL : advL t l p d now = l := by
    unfold advL
    rw [if_pos hlt, hn]; omega
  rw [hL, ht]
theorem pure_OverloadRefusalHarmless (t l p d now b : Int) : ∃ k, crossbarlaw32_OverloadRefusalHarmless.f k t l p d now b = some true := by
  refine ⟨1, ?_⟩
  unfold crossbarlaw32_OverloadRefusalHarmless.f
  rw [sane_one, admit_eq]
  unfold admitF
  simp only [Option.bind_some, if_pos]
  by_cases h : okNow t l p d now
  · have v := h.valid
    have ht := advT_bd v; have hl := advL_bd v
    have ⟨a1, a2, a3, a4, a5, a6, a7, a8, a9⟩ := v
    rw [if_pos h]
    by_cases h0 : advT t l p d now = 0
    · rw [if_pos h0]
      simp only [if_pos]
      simp only [crossbarlaw32_OverloadRefusalHarmless.j0, level_eq, Option.bind_some, Bool.false_eq_true, if_false]
      by_cases c1 : b < now
      · rw [if_pos c1]
      · by_cases c2 : b > 1099511627776
        · rw [if_neg c1, if_pos c2]
        · have e1 : okNow t l p d b := ⟨h.1, by omega, by omega⟩
          have e2 : okNow 0 (advL t l p d now) p d b := ⟨⟨a5, a6, a3, a4, by omega, by omega, by omega, by omega⟩, by omega, by omega⟩
          rw [if_neg c1, if_neg c2, if_pos e1, if_pos e2, two_steps v (by omega) (by omega) h0]
          simp
    · rw [if_neg h0]
      simp [crossbarlaw32_OverloadRefusalHarmless.j0]
  · rw [if_neg h]
    simp [crossbarlaw32_OverloadRefusalHarmless.j0]
end Go.Proofs.Ytpmkbpphlokbjaa.GA
