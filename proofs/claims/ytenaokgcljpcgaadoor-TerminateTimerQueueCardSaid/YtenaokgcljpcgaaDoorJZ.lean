import Derived.Test.YtenaokgcljpcgaaDoorJY
set_option linter.unusedVariables false
set_option linter.unusedSimpArgs false
namespace Go.Proofs.YtenaokgcljpcgaaDoor.GQ
open Go.RowKit Go.Proofs.YtenaokgcljpcgaaDoorW.PrintWords Go.Proofs.YtenaokgcljpcgaaDoorW.PrintLast Go.Proofs.YtenaokgcljpcgaaDoorW.PrintMore

def A0 (k : Int) : S46 := ⟨k, 0, E, 0⟩
/-- what Step answers -/
def stepF (s kd c : Int) : Int × List S46 × Int :=
  if s < 0 ∨ 4 < s then (0, [], 1)
  else if kd = 10 ∧ s ≠ 0 then (s, [⟨17, 17, E, 0⟩], 0)
  else if s = 0 then (if kd = 10 then (1, [A0 11, A0 13, ⟨9, 0, E, 30⟩], 0) else (0, [], 160))
  else if s = 1 then
    if kd = 1 then (2, [A0 12, A0 10, A0 14], 0) else if kd = 11 then (0, [A0 12, A0 10], 0) else if kd = 9 then (0, [A0 12, A0 10], 0)
    else if kd = 4 then (0, [A0 12, ⟨17, 19, E, 0⟩], 0) else (0, [], 160)
  else if s = 2 then if kd = 2 then (3, [A0 15, ⟨9, 0, E, 15⟩], 0) else if kd = 9 then (4, [⟨3, c, E, 0⟩], 0) else (0, [], 160)
  else if s = 3 then if kd = 1 then (2, [A0 10, A0 16], 0) else if kd = 12 then (0, [⟨7, 16, E, 0⟩], 0) else if kd = 9 then (0, [A0 10], 0) else (0, [], 160)
  else if kd = 2 then (0, [A0 2], 0) else (0, [], 160)
theorem check_yes {s : Int} (h0 : 0 ≤ s) (h1 : s ≤ 4) : terminate_Check.f s = some 0 := by
  unfold terminate_Check.f
  simp [show ¬ s < 0 by omega, show ¬ s > 4 by omega]
theorem check_no {s : Int} (h : s < 0 ∨ 4 < s) : terminate_Check.f s = some 1 := by
  unfold terminate_Check.f
  by_cases h1 : s < 0
  · simp [h1]
  · simp [h1, show s > 4 by omega]
theorem says_eq {s kd c r1 : Int} {l : List S46} {r3 : Int} (h0 : 0 ≤ s) (h1 : s ≤ 4) (hk : ¬ (kd = 10 ∧ s ≠ 0)) (h : StepSays s kd c r1 l r3) : (r1, l, r3) = stepF s kd c := by
  have hs : s = 0 ∨ s = 1 ∨ s = 2 ∨ s = 3 ∨ s = 4 := by omega
  rcases h with ⟨hn, rfl, rfl, rfl⟩ | ⟨j, hj, e1, e2, rfl, rfl, q, hq, hz, he, rfl⟩
  · have n0 := hn 0 (by omega); have n1 := hn 1 (by omega); have n2 := hn 2 (by omega); have n3 := hn 3 (by omega); have n4 := hn 4 (by omega); have n5 := hn 5 (by omega)
    have n6 := hn 6 (by omega); have n7 := hn 7 (by omega); have n8 := hn 8 (by omega); have n9 := hn 9 (by omega); have n10 := hn 10 (by omega)
    simp only [trow] at n0 n1 n2 n3 n4 n5 n6 n7 n8 n9 n10
    unfold stepF
    rw [if_neg (by omega), if_neg hk]
    rcases hs with rfl | rfl | rfl | rfl | rfl
    · rw [if_pos rfl, if_neg (by omega)]
    · rw [if_neg (by omega), if_pos rfl, if_neg (by omega), if_neg (by omega), if_neg (by omega), if_neg (by omega)]
    · rw [if_neg (by omega), if_neg (by omega), if_pos rfl, if_neg (by omega), if_neg (by omega)]
    · rw [if_neg (by omega), if_neg (by omega), if_neg (by omega), if_pos rfl, if_neg (by omega), if_neg (by omega), if_neg (by omega)]
    · rw [if_neg (by omega), if_neg (by omega), if_neg (by omega), if_neg (by omega), if_neg (by omega)]
  · have hjc : j = 0 ∨ j = 1 ∨ j = 2 ∨ j = 3 ∨ j = 4 ∨ j = 5 ∨ j = 6 ∨ j = 7 ∨ j = 8 ∨ j = 9 ∨ j = 10 := by omega
    have hqc : q = 0 ∨ q = 1 ∨ q = 2 ∨ q = 3 := by omega
    clear hs hq hj hk h0 h1
    have z0 := hz 0; have z1 := hz 1; have z2 := hz 2
    clear hz
    rcases hjc with rfl | rfl | rfl | rfl | rfl | rfl | rfl | rfl | rfl | rfl | rfl <;> simp only [trow, kOf] at e1 e2 z0 z1 z2 <;> subst e1 <;> subst e2 <;>
      rcases hqc with rfl | rfl | rfl | rfl <;> simp [trow, kOf] at he z0 z1 z2 <;> simp [stepF, emit, act, trow, A0, List.range_succ]
theorem step_says (s kd c dg : Int) (w : World) (hT : Tab w) :
    Calls Tryd.prog 13 #[.agg #[.int .i64 s], .agg #[.int .i64 kd, .int .i64 c, .int .u8 dg]] w (StepPost w (stepF s kd c).1 (stepF s kd c).2.1 (stepF s kd c).2.2) := by
  have fin : ∀ e w', 0 ≤ s → s ≤ 4 → ¬ (kd = 10 ∧ s ≠ 0) → StepDone w s kd c e w' → StepPost w (stepF s kd c).1 (stepF s kd c).2.1 (stepF s kd c).2.2 e w' := by
    rintro e w' h0 h1 hk ⟨r1, l, r3, hs, hp⟩
    rw [← says_eq h0 h1 hk hs]
    exact hp
  by_cases hr : s < 0 ∨ 4 < s
  · have : stepF s kd c = (0, [], 1) := by unfold stepF; rw [if_pos hr]
    rw [this]
    exact step_d s kd c dg w (check_no hr)
  · by_cases hk : kd = 10
    · have b1 : (kd == 10) = true := by rw [hk]; rfl
      by_cases h0 : s = 0
      · have b2 : (s != 0) = false := by rw [h0]; rfl
        exact (step_b s kd c dg w hT (check_yes (by omega) (by omega)) b1 b2).mono fun e w' h => fin e w' (by omega) (by omega) (by omega) h
      · have b2 : (s != 0) = true := by rw [bne_iff_ne]; exact h0
        have : stepF s kd c = (s, [⟨17, 17, E, 0⟩], 0) := by unfold stepF; rw [if_neg hr, if_pos ⟨hk, h0⟩]
        rw [this]
        exact step_c s kd c dg w (check_yes (by omega) (by omega)) b1 b2
    · exact (step_a s kd c dg w hT (check_yes (by omega) (by omega)) (beq_eq_false_iff_ne.mpr hk)).mono fun e w' h => fin e w' (by omega) (by omega) (by omega) h
end Go.Proofs.YtenaokgcljpcgaaDoor.GQ
