/- Plain laws of the terminating half call: what Step and Run answer, as functions on lists. -/
import Derived.Test.YtenaokgcljpcgaaDoorGAx4b
import Derived.Test.YtenaokgcljpcgaaDoorGAx5
import Derived.Test.YtenaokgcljpcgaaDoorHA
set_option linter.unusedVariables false
set_option linter.unusedSimpArgs false
namespace Go.Proofs.YtenaokgcljpcgaaDoor.GA
open Go.RowKit Go.Proofs.YtenaokgcljpcgaaDoorW.PrintWords Go.Proofs.YtenaokgcljpcgaaDoorW.PrintLast Go.Proofs.YtenaokgcljpcgaaDoorW.PrintMore
theorem wr {n : Int} (h : -9223372036854775808 ≤ n ∧ n ≤ 9223372036854775807) : wrap64 n = n := IntWalk.wrap64_in n ⟨h.1, h.2⟩
theorem step_ge {k : Nat} (hk : 10 ≤ k) (s kd c dg : Int) : terminate_Step.f k s kd c dg = some (stepF s kd c) := at_rounds (terminate_Step.mono s kd c dg) hk (step_ten s kd c dg)
theorem rstep_eq (k : Nat) (s kd c dg : Int) : crossbarref17_Step.f k s kd c dg = terminate_Step.f k s kd c dg := rfl
theorem sane_40 : crossbarlaw17_sane.f 40 = some true := by kernel_rfl
theorem sane_ge {k : Nat} (hk : 40 ≤ k) : crossbarlaw17_sane.f k = some true := at_rounds crossbarlaw17_sane.mono hk sane_40
theorem tcheck_eq (s : Int) : terminate_Check.f s = some (if 0 ≤ s ∧ s ≤ 4 then 0 else 1) := by
  by_cases h : 0 ≤ s ∧ s ≤ 4
  · rw [check_yes h.1 h.2, if_pos h]
  · rw [check_no (by omega), if_neg h]
theorem rcheck_eq (s : Int) : crossbarref17_Check.f s = some (if 0 ≤ s ∧ s ≤ 4 then 0 else 1) := by
  by_cases h : 0 ≤ s ∧ s ≤ 4
  · rw [rcheck_yes h.1 h.2, if_pos h]
  · rw [rcheck_no (by omega), if_neg h]
/-- Step's error is one of three; beside none, the state is one of the five and there are at most three actions; beside one, there is nothing -/
theorem stepF_ok (s kd c : Int) : ((stepF s kd c).2.2 = 0 → 0 ≤ (stepF s kd c).1 ∧ (stepF s kd c).1 ≤ 4) ∧ (stepF s kd c).2.1.length ≤ 3 ∧ ((stepF s kd c).2.2 ≠ 0 → (stepF s kd c).1 = 0 ∧ (stepF s kd c).2.1 = []) := by
  unfold stepF
  repeat' split
  all_goals simp_all [A0]
  all_goals omega
theorem same_loop (l : List S46) (hl : l.length ≤ 1000000) : ∀ (d k i : Nat), l.length - i = d → i ≤ l.length → d < k → crossbarref17_Same.l0 k l l (l.length : Int) (i : Int) = some true := by
  intro d
  induction d with
  | zero =>
    intro k i hd hi hk
    obtain ⟨k, rfl⟩ : ∃ m, k = m + 1 := ⟨k - 1, by omega⟩
    simp only [crossbarref17_Same.l0]
    rw [if_neg (by omega)]
  | succ d ih =>
    intro k i hd hi hk
    obtain ⟨k, rfl⟩ : ∃ m, k = m + 1 := ⟨k - 1, by omega⟩
    simp only [crossbarref17_Same.l0]
    rw [if_pos (by omega), if_pos (by omega), if_pos (by omega), if_pos (by omega), if_neg (by simp)]
    rw [wr (by omega), show (i : Int) + 1 = ((i + 1 : Nat) : Int) by omega]
    exact ih k (i + 1) (by omega) (by omega) (by omega)
theorem same_self (l : List S46) (hl : l.length ≤ 1000000) {k : Nat} (hk : l.length < k) : crossbarref17_Same.f k l l = some true := by
  unfold crossbarref17_Same.f
  rw [if_pos rfl]
  exact same_loop l hl l.length k 0 (by omega) (by omega) hk

/-- what Run answers -/
def runM : Int → List S25 → Int × List S46 × Nat
  | s, [] => (s, [], 0)
  | s, e :: es => if (stepF s e.f0 e.f1).2.2 = 0 then ((runM (stepF s e.f0 e.f1).1 es).1, (stepF s e.f0 e.f1).2.1 ++ (runM (stepF s e.f0 e.f1).1 es).2.1, (runM (stepF s e.f0 e.f1).1 es).2.2 + 1) else (s, [], 0)
theorem runM_len (l : List S25) : ∀ s, (runM s l).2.1.length ≤ 3 * l.length ∧ (runM s l).2.2 ≤ l.length := by
  induction l with
  | nil => intro s; simp [runM]
  | cons e es ih =>
    intro s
    have h3 := (stepF_ok s e.f0 e.f1).2.1
    have h := ih (stepF s e.f0 e.f1).1
    simp only [runM]
    split
    · simp; omega
    · simp
theorem rd_drop (l : List S25) (i : Nat) (hi : i < l.length) : l.drop i = rd_T25 l (i : Int) :: l.drop (i + 1) := by
  unfold rd_T25
  rw [Int.toNat_natCast, List.getD_eq_getElem?_getD, List.getElem?_eq_getElem hi]
  exact List.drop_eq_getElem_cons hi
theorem run_loop (l : List S25) (hl : l.length ≤ 1000) : ∀ (d k i : Nat) (acc : List S46) (s : Int), l.length - i = d → i ≤ l.length → d + 10 < k → acc.length ≤ 3 * i →
    terminate_Run.l0 k l acc l (l.length : Int) (i : Int) s = some ((runM s (l.drop i)).1, acc ++ (runM s (l.drop i)).2.1, ((i + (runM s (l.drop i)).2.2 : Nat) : Int)) := by
  intro d
  induction d with
  | zero =>
    intro k i acc s hd hi hk ha
    obtain ⟨k, rfl⟩ : ∃ m, k = m + 1 := ⟨k - 1, by omega⟩
    have hie : i = l.length := by omega
    simp only [terminate_Run.l0]
    rw [if_neg (by omega), hie, List.drop_length]
    simp [runM]
  | succ d ih =>
    intro k i acc s hd hi hk ha
    obtain ⟨k, rfl⟩ : ∃ m, k = m + 1 := ⟨k - 1, by omega⟩
    have h3 := (stepF_ok s (rd_T25 l i).f0 (rd_T25 l i).f1).2.1
    simp only [terminate_Run.l0]
    rw [if_pos (by omega), if_pos (by omega), if_pos (by omega), step_ge (by omega), rd_drop l i (by omega)]
    simp only [Option.bind_some, runM]
    by_cases h0 : (stepF s (rd_T25 l i).f0 (rd_T25 l i).f1).2.2 = 0
    · rw [if_pos h0, if_pos (by omega), if_pos h0, wr (by omega), show (i : Int) + 1 = ((i + 1 : Nat) : Int) by omega]
      rw [ih k (i + 1) _ _ (by omega) (by omega) (by omega) (by simp; omega)]
      simp [List.append_assoc]
      omega
    · rw [if_neg h0, if_neg h0]
      simp
theorem run_ge (s : Int) (l : List S25) (hl : l.length ≤ 1000) {k : Nat} (hk : l.length + 10 < k) :
    terminate_Run.f k s l = some (if 0 ≤ s ∧ s ≤ 4 then ((runM s l).1, (runM s l).2.1, ((runM s l).2.2 : Int)) else (0, [], 0)) := by
  unfold terminate_Run.f
  rw [tcheck_eq]
  by_cases h : 0 ≤ s ∧ s ≤ 4
  · rw [if_pos h, if_pos h]
    simp only [Option.bind_some, if_pos]
    have := run_loop l hl l.length k 0 [] s (by omega) (by omega) hk (by simp)
    simpa using this
  · rw [if_neg h, if_neg h]; rfl
end Go.Proofs.YtenaokgcljpcgaaDoor.GA
