/- The contract of terminate.Step of the given program in the printed form: it answers what the reference's Step does, where the table stands as the program's text lays it. -/
import Derived.Test.YtenaokgcljpcgaaDoorJZ
set_option linter.unusedVariables false
set_option linter.unusedSimpArgs false
namespace Go.Proofs.YtenaokgcljpcgaaDoor.GQ
open Go.RowKit Go.Proofs.YtenaokgcljpcgaaDoorW.PrintWords Go.Proofs.YtenaokgcljpcgaaDoorW.PrintLast Go.Proofs.YtenaokgcljpcgaaDoorW.PrintMore
theorem rcheck_yes {s : Int} (h0 : 0 ≤ s) (h1 : s ≤ 4) : crossbarref17_Check.f s = some 0 := by
  unfold crossbarref17_Check.f
  simp [show ¬ s < 0 by omega, show ¬ s > 4 by omega]
theorem rcheck_no {s : Int} (h : s < 0 ∨ 4 < s) : crossbarref17_Check.f s = some 1 := by
  unfold crossbarref17_Check.f
  by_cases h1 : s < 0
  · simp [h1]
  · simp [h1, show s > 4 by omega]
theorem step_ten (s kd c dg : Int) : terminate_Step.f 10 s kd c dg = some (stepF s kd c) := by
  unfold terminate_Step.f stepF
  by_cases hr : s < 0 ∨ 4 < s
  · rw [rcheck_no hr, if_pos hr]; rfl
  · rw [rcheck_yes (by omega) (by omega), if_neg hr]
    simp only [Option.bind_some, if_pos]
    have hs : s = 0 ∨ s = 1 ∨ s = 2 ∨ s = 3 ∨ s = 4 := by omega
    rcases hs with rfl | rfl | rfl | rfl | rfl
    · by_cases h1 : kd = 10
      · subst h1; show _ = _; kernel_rfl
      · simp [crossbarref17_row.f, crossbarref17_row.j0, crossbarref17_idle.f, h1]
    · by_cases h1 : kd = 10
      · subst h1; show _ = _; kernel_rfl
      · by_cases h2 : kd = 1
        · subst h2; show _ = _; kernel_rfl
        · by_cases h3 : kd = 11
          · subst h3; show _ = _; kernel_rfl
          · by_cases h4 : kd = 9
            · subst h4; show _ = _; kernel_rfl
            · by_cases h5 : kd = 4
              · subst h5; show _ = _; kernel_rfl
              · simp [crossbarref17_row.f, crossbarref17_row.j0, crossbarref17_ringing.f, crossbarref17_ringing.j0, h1, h2, h3, h4, h5]
    · by_cases h1 : kd = 10
      · subst h1; show _ = _; kernel_rfl
      · by_cases h2 : kd = 2
        · subst h2; show _ = _; kernel_rfl
        · by_cases h4 : kd = 9
          · subst h4; show _ = _; kernel_rfl
          · simp [crossbarref17_row.f, crossbarref17_row.j0, crossbarref17_talking.f, h1, h2, h4]
    · by_cases h1 : kd = 10
      · subst h1; show _ = _; kernel_rfl
      · by_cases h2 : kd = 1
        · subst h2; show _ = _; kernel_rfl
        · by_cases h3 : kd = 12
          · subst h3; show _ = _; kernel_rfl
          · by_cases h4 : kd = 9
            · subst h4; show _ = _; kernel_rfl
            · simp [crossbarref17_row.f, crossbarref17_row.j0, crossbarref17_suspended.f, h1, h2, h3, h4]
    · by_cases h1 : kd = 10
      · subst h1; show _ = _; kernel_rfl
      · by_cases h2 : kd = 2
        · subst h2; show _ = _; kernel_rfl
        · simp [crossbarref17_row.f, crossbarref17_row.j0, h1, h2]
theorem step_of {k : Nat} {s kd c dg : Int} {r : Int × List S46 × Int} (h : terminate_Step.f k s kd c dg = some r) : r = stepF s kd c := by
  have h1 := at_rounds (terminate_Step.mono s kd c dg) (Nat.le_max_left k 10) h
  have h2 := at_rounds (terminate_Step.mono s kd c dg) (Nat.le_max_right k 10) (step_ten s kd c dg)
  exact Option.some.inj (h1.symm.trans h2)
theorem reps46 (w : World) (b : Nat) (ok : Nat → Prop) (l : List S46) : Reps (k46.M w b ok) 4 l (cells46 l) := by
  refine ⟨?_, ?_⟩
  · unfold cells46
    induction l with
    | nil => rfl
    | cons x l ih => simp at ih ⊢; omega
  · unfold cells46
    induction l with
    | nil => intro j p h; simp at h
    | cons x l ih =>
      intro j p h
      cases j with
      | zero =>
        simp at h
        subst h
        simpa using k46_mkM w b ok x
      | succ j =>
        simp at h
        have h2 := ih j p h
        have e : (j + 1) * 4 = j * 4 + 4 := by omega
        rw [List.flatMap_cons, e, ← List.drop_drop]
        simpa [List.drop_append] using h2
theorem terminate_Step.calls (k : Nat) (a0_0 : Int) (a1_0 : Int) (a1_1 : Int) (a1_2 : Int) (r1 : Int) (r2 : List (S46)) (r3 : Int) (w : World) (h : terminate_Step.f k a0_0 a1_0 a1_1 a1_2 = some (r1, r2, r3)) (hT : Tab w) :
    Calls Tryd.prog 13 #[.agg #[.int .i64 a0_0], .agg #[.int .i64 a1_0, .int .i64 a1_1, .int .u8 a1_2]] w fun e w' => ∃ v1_ : Value, e = .returned (.tuple #[.agg #[.int .i64 r1], v1_, .int .i64 r3]) ∧ Kd.R k46 46 w' w.heap.size (fun _ => True) v1_ r2 ∧ Below w.heap.size w w' := by
  have e := step_of h
  have e1 : r1 = (stepF a0_0 a1_0 a1_1).1 := congrArg (·.1) e
  have e2 : r2 = (stepF a0_0 a1_0 a1_1).2.1 := congrArg (·.2.1) e
  have e3 : r3 = (stepF a0_0 a1_0 a1_1).2.2 := congrArg (·.2.2) e
  subst e1 e2 e3
  refine (step_says a0_0 a1_0 a1_1 a1_2 w hT).mono ?_
  rintro e w' ⟨v, rfl, ho, hb⟩
  exact ⟨v, rfl, ⟨fun _ _ => trivial, _, ho, reps46 _ _ _ _⟩, hb⟩
end Go.Proofs.YtenaokgcljpcgaaDoor.GQ
