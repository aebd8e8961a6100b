/- The plain law TerminateResourcesFollowState: ring, timer and tone follow the state. -/
import Derived.Test.YtenaokgcljpcgaaDoorQT
import Derived.Test.YtenaokgcljpcgaaDoorGAx7
import Derived.Test.YtenaokgcljpcgaaDoorGAx8b
set_option linter.unusedVariables false
set_option linter.unusedSimpArgs false
namespace Go.Proofs.YtenaokgcljpcgaaDoor.GA
open Go.RowKit Go.Proofs.YtenaokgcljpcgaaDoorW.PrintWords Go.Proofs.YtenaokgcljpcgaaDoorW.PrintLast Go.Proofs.YtenaokgcljpcgaaDoorW.PrintMore
theorem ws1 : wrap64 (0 + 1) = 1 := by rw [wr (by omega)]; rfl
theorem ws2 : wrap64 (1 + 1) = 2 := by rw [wr (by omega)]; rfl
theorem ws3 : wrap64 (2 + 1) = 3 := by rw [wr (by omega)]; rfl
theorem ws1' : wrap64 1 = 1 := wr (by omega)
theorem ws2' : wrap64 2 = 2 := wr (by omega)
theorem ws3' : wrap64 3 = 3 := wr (by omega)
theorem shown_of {s kd c : Int} (h0 : 0 ≤ s) (h1 : s ≤ 4) (he : (stepF s kd c).2.2 = 0) :
    ((kd = 4 ∨ kd = 12) → s = 1 ∨ s = 3) ∧ crossbarlaw17_shown.f 10 (s == 1) (if kd = 4 ∨ kd = 12 then false else (s == 1 || s == 3)) (s == 4) (stepF s kd c).2.1
      = some ((stepF s kd c).1 == 1, ((stepF s kd c).1 == 1 || (stepF s kd c).1 == 3), (stepF s kd c).1 == 4, true) := by
  have hs : s = 0 ∨ s = 1 ∨ s = 2 ∨ s = 3 ∨ s = 4 := by omega
  by_cases k10 : kd = 10
  · subst k10
    rcases hs with rfl | rfl | rfl | rfl | rfl <;> simp [stepF, crossbarlaw17_shown.f, crossbarlaw17_shown.l0, rd_T46, A0, ws1, ws2, ws3, ws1', ws2', ws3']
  · by_cases k1 : kd = 1
    · subst k1
      rcases hs with rfl | rfl | rfl | rfl | rfl <;> simp [stepF] at he <;> simp [stepF, crossbarlaw17_shown.f, crossbarlaw17_shown.l0, rd_T46, A0, ws1, ws2, ws3, ws1', ws2', ws3']
    · by_cases k2 : kd = 2
      · subst k2
        rcases hs with rfl | rfl | rfl | rfl | rfl <;> simp [stepF] at he <;> simp [stepF, crossbarlaw17_shown.f, crossbarlaw17_shown.l0, rd_T46, A0, ws1, ws2, ws3, ws1', ws2', ws3']
      · by_cases k4 : kd = 4
        · subst k4
          rcases hs with rfl | rfl | rfl | rfl | rfl <;> simp [stepF] at he <;> simp [stepF, crossbarlaw17_shown.f, crossbarlaw17_shown.l0, rd_T46, A0, ws1, ws2, ws3, ws1', ws2', ws3']
        · by_cases k9 : kd = 9
          · subst k9
            rcases hs with rfl | rfl | rfl | rfl | rfl <;> simp [stepF] at he <;> simp [stepF, crossbarlaw17_shown.f, crossbarlaw17_shown.l0, rd_T46, A0, ws1, ws2, ws3, ws1', ws2', ws3']
          · by_cases k11 : kd = 11
            · subst k11
              rcases hs with rfl | rfl | rfl | rfl | rfl <;> simp [stepF] at he <;> simp [stepF, crossbarlaw17_shown.f, crossbarlaw17_shown.l0, rd_T46, A0, ws1, ws2, ws3, ws1', ws2', ws3']
            · by_cases k12 : kd = 12
              · subst k12
                rcases hs with rfl | rfl | rfl | rfl | rfl <;> simp [stepF] at he <;> simp [stepF, crossbarlaw17_shown.f, crossbarlaw17_shown.l0, rd_T46, A0, ws1, ws2, ws3, ws1', ws2', ws3']
              · exfalso
                rcases hs with rfl | rfl | rfl | rfl | rfl <;> simp [stepF, k10, k1, k2, k4, k9, k11, k12] at he
theorem shown_ge {k : Nat} (hk : 10 ≤ k) {a b c : Bool} {l : List S46} {r : Bool × Bool × Bool × Bool} (h : crossbarlaw17_shown.f 10 a b c l = some r) : crossbarlaw17_shown.f k a b c l = some r := at_rounds (crossbarlaw17_shown.mono a b c l) hk h
theorem res_loop (l : List S25) (hl : l.length ≤ 1000) : ∀ (d k i : Nat) (s : Int), l.length - i = d → i ≤ l.length → 3 * d + 20 < k → 0 ≤ s → s ≤ 4 →
    crossbarlaw17_TerminateResourcesFollowState.l0 k l (l.length : Int) (i : Int) s (s == 1) (s == 1 || s == 3) (s == 4) = some true := by
  intro d
  induction d with
  | zero =>
    intro k i s hd hi hk h0 h1
    obtain ⟨k, rfl⟩ : ∃ m, k = m + 1 := ⟨k - 1, by omega⟩
    simp only [crossbarlaw17_TerminateResourcesFollowState.l0]
    rw [if_neg (by omega)]
  | succ d ih =>
    intro k i s hd hi hk h0 h1
    obtain ⟨k, rfl⟩ : ∃ m, k = m + 3 := ⟨k - 3, by omega⟩
    have hok := stepF_ok s (rd_T25 l i).f0 (rd_T25 l i).f1
    simp only [crossbarlaw17_TerminateResourcesFollowState.l0]
    rw [if_pos (by omega), if_pos (by omega), if_pos (by omega), step_ge (by omega)]
    simp only [Option.bind_some]
    have hw : wrap64 ((i : Int) + 1) = ((i + 1 : Nat) : Int) := by rw [wr (by omega)]; omega
    by_cases he : (stepF s (rd_T25 l i).f0 (rd_T25 l i).f1).2.2 = 0
    · rw [if_pos he]
      obtain ⟨ht, hs⟩ := shown_of (c := (rd_T25 l i).f1) (kd := (rd_T25 l i).f0) h0 h1 he
      have hst := hok.1 he
      have hnext := ih k (i + 1) (stepF s (rd_T25 l i).f0 (rd_T25 l i).f1).1 (by omega) (by omega) (by omega) hst.1 hst.2
      have j2 : crossbarlaw17_TerminateResourcesFollowState.j2 (k + 1) (stepF s (rd_T25 l i).f0 (rd_T25 l i).f1).2.1 l (l.length : Int) (i : Int) (s == 1) (if (rd_T25 l i).f0 = 4 ∨ (rd_T25 l i).f0 = 12 then false else (s == 1 || s == 3)) (s == 4) (stepF s (rd_T25 l i).f0 (rd_T25 l i).f1).1 = some true := by
        simp only [crossbarlaw17_TerminateResourcesFollowState.j2]
        rw [shown_ge (by omega) hs]
        simp only [Option.bind_some, hw]
        generalize (stepF s (rd_T25 l i).f0 (rd_T25 l i).f1).1 = s' at hnext ⊢
        by_cases e1 : s' = 1
        · subst e1; simpa using hnext
        · simp only [beq_eq_false_iff_ne.mpr e1, if_neg e1] at hnext ⊢
          simpa using hnext
      by_cases h4 : (rd_T25 l i).f0 = 4
      · rw [if_pos h4]
        rw [if_pos (Or.inl h4)] at j2
        have hb : (s == 1 || s == 3) = true := by simpa using ht (Or.inl h4)
        simp only [crossbarlaw17_TerminateResourcesFollowState.j1, hb, if_true]
        exact j2
      · rw [if_neg h4]
        simp only [crossbarlaw17_TerminateResourcesFollowState.j1]
        by_cases h12 : (rd_T25 l i).f0 = 12
        · rw [if_pos (Or.inr h12)] at j2
          have hb : (s == 1 || s == 3) = true := by simpa using ht (Or.inr h12)
          rw [if_pos (by simpa using h12), hb, if_pos rfl]
          exact j2
        · rw [if_neg (by omega)] at j2
          rw [if_neg (by simpa using h12)]
          exact j2
    · rw [if_neg he]
      have h := hok.2.2 he
      rw [h.1, h.2, hw]
      simp only [beq_self_eq_true, Bool.not_true, Bool.false_eq_true, if_false, List.length_nil, if_true, Int.natCast_zero]
      exact ih (k + 2) (i + 1) s (by omega) (by omega) (by omega) h0 h1
theorem pure_TerminateResourcesFollowState (l : List S25) : ∃ k, crossbarlaw17_TerminateResourcesFollowState.f k l = some true := by
  refine ⟨500, ?_⟩
  unfold crossbarlaw17_TerminateResourcesFollowState.f
  rw [sane_ge (by omega)]
  simp only [Option.bind_some, if_pos]
  by_cases h : (l.length : Int) > 100
  · rw [if_pos h]
  · rw [if_neg h]
    exact res_loop l (by omega) l.length 500 0 0 (by omega) (by omega) (by omega) (by omega) (by omega)
end Go.Proofs.YtenaokgcljpcgaaDoor.GA
