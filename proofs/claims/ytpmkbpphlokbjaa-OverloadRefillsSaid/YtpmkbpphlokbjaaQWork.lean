import Derived.Test.YtpmkbpphlokbjaaGAx7
import Derived.Test.YtpmkbpphlokbjaaGAx7b
import Derived.Test.YtpmkbpphlokbjaaHA
set_option linter.unusedVariables false
set_option linter.unusedSimpArgs false
namespace Go.Proofs.Ytpmkbpphlokbjaa.GA
open Go.RowKit HA Go.Proofs.YtpmkbpphlokbjaaW.PrintWords
theorem sane_one : crossbarlaw32_sane.f 1 = some true := by kernel_rfl

/-- after a bucket has been advanced, advancing it again at once changes nothing -/
theorem after_valid {t l p d now n' : Int} (v : Valid t l p d now) (h0 : 0 ≤ n') (h1 : n' ≤ advT t l p d now) : Vb n' (advL t l p d now) p d := by
  have ht := advT_bd v; have hl := advL_bd v
  have ⟨a1, a2, a3, a4, a5, a6, a7, a8, a9⟩ := v
  exact ⟨a5, a6, a3, a4, h0, by omega, by omega, by omega⟩
theorem after_div {t l p d now : Int} (v : Valid t l p d now) : (now - advL t l p d now) / p = 0 := by
  have m2 := v.m2; have m1 := v.m1
  have ⟨a1, a2, a3, a4, a5, a6, a7, a8, a9⟩ := v
  unfold advL
  split
  · exact Int.ediv_eq_zero_of_lt (by omega) (by omega)
  · rw [Int.sub_self]; exact Int.zero_ediv _
theorem after_level {t l p d now n' : Int} (v : Valid t l p d now) (h0 : 0 ≤ n') (h1 : n' ≤ advT t l p d now) : advT n' (advL t l p d now) p d now = n' := by
  have ht := advT_bd v
  unfold advT
  rw [after_div v]
  split <;> omega
theorem pure_OverloadWorkConserving (t l p d now : Int) (em : Bool) : ∃ k, crossbarlaw32_OverloadWorkConserving.f k t l p d now em = some true := by
  refine ⟨1, ?_⟩
  unfold crossbarlaw32_OverloadWorkConserving.f
  rw [sane_one, level_eq, admit_eq]
  unfold admitF
  simp only [Option.bind_some, if_pos]
  by_cases h : okNow t l p d now
  · have v := h.valid
    have ht := advT_bd v; have hl := advL_bd v
    have ⟨a1, a2, a3, a4, a5, a6, a7, a8, a9⟩ := v
    rw [if_pos h, if_pos h]
    by_cases h0 : advT t l p d now = 0
    · have e : okNow 0 (advL t l p d now) p d now := ⟨after_valid v (by omega) (by omega), hl.2, a9⟩
      rw [if_pos h0]
      simp only [if_pos]
      rw [level_eq, if_pos e, after_level v (by omega) (by omega)]
      simp [h0, mx]
      unfold wrap64
      omega
    · have e : okNow (advT t l p d now - 1) (advL t l p d now) p d now := ⟨after_valid v (by omega) (by omega), hl.2, a9⟩
      rw [if_neg h0]
      simp only [if_pos]
      rw [level_eq, if_pos e, after_level v (by omega) (by omega), wr (by omega)]
      have hp : advT t l p d now > 0 := by omega
      simp [hp, mx]
      omega
  · rw [if_neg h, if_neg h]
    simp

theorem pure_OverloadRefills (t l p d a b : Int) : ∃ k, crossbarlaw32_OverloadRefills.f k t l p d a b = some true := by
  refine ⟨1, ?_⟩
  unfold crossbarlaw32_OverloadRefills.f
  rw [sane_one, check_eq]
  simp only [Option.bind_some, if_pos]
  by_cases hv : Vb t l p d
  · rw [if_pos hv]
    simp only [if_pos]
    by_cases h1 : a < l
    · rw [if_pos h1]; simp [crossbarlaw32_OverloadRefills.j0]
    · rw [if_neg h1]
      by_cases h2 : b < a
      · rw [if_pos h2]; simp [crossbarlaw32_OverloadRefills.j0]
      · rw [if_neg h2]
        by_cases h3 : b > 1099511627776
        · simp [crossbarlaw32_OverloadRefills.j0, h3]
        · have oa : okNow t l p d a := ⟨hv, by omega, by omega⟩
          have ob : okNow t l p d b := ⟨hv, by omega, by omega⟩
          have va := oa.valid; have vb := ob.valid
          have ha := advT_bd va; have hb := advT_bd vb
          have n0 := va.n0; have n1 := va.n1; have n2 := vb.n1; have n3 := vb.n0
          have m1 := va.m1; have m2 := va.m2; have q1 := vb.m1; have q2 := vb.m2
          have ⟨a1, a2, a3, a4, a5, a6, a7, a8, a9⟩ := va
          -- the steps of the two divisions
          have hmono : (a - l) / p ≤ (b - l) / p := Int.ediv_le_ediv (by omega) (by omega)
          have hdiff : (b - l) / p - (a - l) / p ≤ (b - a + p - 1) / p := by
            refine (Int.le_ediv_iff_mul_le (by omega)).2 ?_
            rw [Int.sub_mul]
            omega
          have hz : 0 ≤ (b - a + p - 1) / p := Int.ediv_nonneg (by omega) (by omega)
          have hz2 : (b - a + p - 1) / p ≤ b - a + p - 1 := Int.ediv_le_self _ (by omega)
          have tm : advT t l p d a ≤ advT t l p d b := by unfold advT; split <;> split <;> omega
          have td : advT t l p d b - advT t l p d a ≤ (b - a + p - 1) / p := by unfold advT; split <;> split <;> omega
          have hdp : 0 ≤ d * p := Int.mul_nonneg (by omega) (by omega)
          have hdp2 : d * p ≤ 1024 * 86400 := Int.mul_le_mul (by omega) (by omega) (by omega) (by omega)
          have full : ¬ b - l < d * p → advT t l p d b = d := by
            intro hfl
            have : d ≤ (b - l) / p := (Int.le_ediv_iff_mul_le (by omega)).2 (by omega)
            unfold advT
            rw [if_neg (by omega)]
          have e1 : wrap64 (b - a) = b - a := wr (by omega)
          have e2 : wrap64 (b - a + p) = b - a + p := wr (by omega)
          have e3 : wrap64 (b - a + p - 1) = b - a + p - 1 := wr (by omega)
          have e4 : Int.tdiv (b - a + p - 1) p = (b - a + p - 1) / p := Int.tdiv_eq_ediv_of_nonneg (by omega)
          have e5 : wrap64 ((b - a + p - 1) / p) = (b - a + p - 1) / p := wr (by omega)
          have e6 : wrap64 (advT t l p d b - advT t l p d a) = advT t l p d b - advT t l p d a := wr (by omega)
          have e7 : wrap64 (b - l) = b - l := wr (by omega)
          have e8 : wrap64 (d * p) = d * p := wr (by omega)
          rw [decide_eq_false h3]
          simp only [crossbarlaw32_OverloadRefills.j0]
          rw [level_eq, level_eq, if_pos oa, if_pos ob, e1, e2, e3, e4, e5, e7, e8]
          simp only [Option.bind_some, if_pos, Bool.false_eq_true, if_false]
          rw [if_neg (by omega), if_neg (by omega), if_neg (by omega), e6, if_neg (by omega)]
          by_cases hfl : b - l < d * p
          · rw [if_pos hfl]
          · rw [if_neg hfl, full hfl]; simp
  · rw [if_neg hv]
    simp [crossbarlaw32_OverloadRefills.j0]
end Go.Proofs.Ytpmkbpphlokbjaa.GA
