/- The plain law TerminateRunSplits: running a list in two parts is running it at once. -/
import Derived.Test.YtenaokgcljpcgaaDoorQT
import Derived.Test.YtenaokgcljpcgaaDoorGAx10b
set_option linter.unusedVariables false
set_option linter.unusedSimpArgs false
namespace Go.Proofs.YtenaokgcljpcgaaDoor.GA
open Go.RowKit Go.Proofs.YtenaokgcljpcgaaDoorW.PrintWords Go.Proofs.YtenaokgcljpcgaaDoorW.PrintLast Go.Proofs.YtenaokgcljpcgaaDoorW.PrintMore
theorem runM_state (l : List S25) : ∀ s, 0 ≤ s ∧ s ≤ 4 → 0 ≤ (runM s l).1 ∧ (runM s l).1 ≤ 4 := by
  induction l with
  | nil => intro s h; exact h
  | cons e es ih =>
    intro s h
    simp only [runM]
    split
    · rename_i h0; exact ih _ ((stepF_ok s e.f0 e.f1).1 h0)
    · exact h
theorem runM_take (l : List S25) : ∀ (s : Int) (m : Nat), m ≤ (runM s l).2.2 → (runM s (l.take m)).2.2 = m ∧
    runM s l = ((runM (runM s (l.take m)).1 (l.drop m)).1, (runM s (l.take m)).2.1 ++ (runM (runM s (l.take m)).1 (l.drop m)).2.1, m + (runM (runM s (l.take m)).1 (l.drop m)).2.2) := by
  induction l with
  | nil => intro s m h; simp [runM] at h; subst h; simp [runM]
  | cons e es ih =>
    intro s m h
    cases m with
    | zero => simp [runM]
    | succ m =>
      by_cases h0 : (stepF s e.f0 e.f1).2.2 = 0
      · simp only [runM, if_pos h0] at h
        have := ih (stepF s e.f0 e.f1).1 m (by omega)
        simp only [List.take_succ_cons, List.drop_succ_cons, runM, if_pos h0]
        refine ⟨by rw [this.1], ?_⟩
        rw [this.2]
        simp [List.append_assoc]
        omega
      · simp only [runM, if_neg h0] at h
        omega
theorem pure_TerminateRunSplits (s : Int) (l : List S25) (c : Int) : ∃ k, crossbarlaw17_TerminateRunSplits.f k s l c = some true := by
  refine ⟨500, ?_⟩
  unfold crossbarlaw17_TerminateRunSplits.f
  rw [sane_ge (by omega)]
  simp only [Option.bind_some, if_pos]
  by_cases h : (l.length : Int) > 100
  · rw [if_pos h]; simp [crossbarlaw17_TerminateRunSplits.j0]
  · rw [if_neg h]
    by_cases hc : c < 0
    · rw [decide_eq_true hc]; simp [crossbarlaw17_TerminateRunSplits.j0]
    · rw [decide_eq_false hc]
      simp only [crossbarlaw17_TerminateRunSplits.j0, Bool.false_eq_true, if_false]
      have hl : l.length ≤ 100 := by omega
      rw [run_ge s l (by omega) (by omega)]
      by_cases hv : 0 ≤ s ∧ s ≤ 4
      · rw [if_pos hv]
        simp only [Option.bind_some]
        have hlen := runM_len l s
        rw [if_neg (by omega), decide_eq_false (by omega)]
        obtain ⟨m, hm, hmn⟩ : ∃ m : Nat, m ≤ (runM s l).2.2 ∧ mn c ((runM s l).2.2 : Int) = (m : Int) := by
          unfold mn
          split
          · exact ⟨(runM s l).2.2, Nat.le_refl _, rfl⟩
          · exact ⟨c.toNat, by omega, by omega⟩
        have ht := runM_take l s m hm
        have hy := runM_state (l.take m) s hv
        have hl1 : (l.take m).length ≤ l.length := List.length_take_le' m l
        have hl2 : (l.drop m).length ≤ l.length := by rw [List.length_drop]; omega
        have hb := runM_len (l.take m) s
        have hd := runM_len (l.drop m) (runM s (l.take m)).1
        simp only [crossbarlaw17_TerminateRunSplits.j1, Bool.false_eq_true, if_false, hmn]
        rw [if_pos (by omega), if_pos (by omega), Int.toNat_natCast, run_ge s (l.take m) (by omega) (by omega), if_pos hv]
        simp only [Option.bind_some]
        rw [run_ge _ (l.drop m) (by omega) (by omega), if_pos hy, tcheck_eq, if_pos hv]
        simp only [Option.bind_some, if_true]
        rw [if_pos (by rw [ht.1])]
        have e1 : ((runM s l).1 == (runM (runM s (l.take m)).1 (l.drop m)).1) = true := by rw [beq_iff_eq]; exact congrArg (fun p => p.1) ht.2
        have e2 : (runM s l).2.1 = (runM s (l.take m)).2.1 ++ (runM (runM s (l.take m)).1 (l.drop m)).2.1 := congrArg (fun p => p.2.1) ht.2
        have e3 : (runM s l).2.2 = m + (runM (runM s (l.take m)).1 (l.drop m)).2.2 := congrArg (fun p => p.2.2) ht.2
        rw [e1, if_pos rfl, if_pos (by simp; omega)]
        simp only [Option.bind_some, List.nil_append]
        rw [if_pos (by omega), ← e2, same_self _ (by omega) (by omega)]
        simp only [Option.bind_some, if_true]
        rw [wr (by omega), e3]
        simp
      · rw [if_neg hv]
        simp only [Option.bind_some]
        rw [if_neg (by omega), decide_eq_false (by omega)]
        have hmn : mn c 0 = 0 := by unfold mn; split <;> omega
        simp only [crossbarlaw17_TerminateRunSplits.j1, Bool.false_eq_true, if_false, hmn]
        rw [if_pos (by omega), if_pos (by omega)]
        simp only [Int.toNat_zero, List.take_zero, List.drop_zero]
        rw [run_ge s [] (by simp) (by simp), if_neg hv]
        simp only [Option.bind_some]
        rw [run_ge 0 l (by omega) (by omega), if_pos (by omega), tcheck_eq, if_neg hv]
        simp
end Go.Proofs.YtenaokgcljpcgaaDoor.GA
