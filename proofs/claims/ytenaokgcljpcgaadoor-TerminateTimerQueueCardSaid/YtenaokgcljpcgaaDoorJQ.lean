/- The plain law TerminateTimerQueue: the timer queue holds one timer exactly while ringing or suspended. -/
import Derived.Test.YtenaokgcljpcgaaDoorGQx5b
import Derived.Test.YtenaokgcljpcgaaDoorJA
set_option linter.unusedVariables false
set_option linter.unusedSimpArgs false
namespace Go.Proofs.YtenaokgcljpcgaaDoor.GQ
open Go.RowKit Go.Proofs.YtenaokgcljpcgaaDoorW.PrintWords Go.Proofs.YtenaokgcljpcgaaDoorW.PrintLast Go.Proofs.YtenaokgcljpcgaaDoorW.PrintMore
theorem wr {n : Int} (h : -9223372036854775808 ≤ n ∧ n ≤ 9223372036854775807) : wrap64 n = n := IntWalk.wrap64_in n ⟨h.1, h.2⟩
theorem step_ge {k : Nat} (hk : 10 ≤ k) (s kd c dg : Int) : terminate_Step.f k s kd c dg = some (stepF s kd c) := at_rounds (terminate_Step.mono s kd c dg) hk (step_ten s kd c dg)
theorem sane_40 : crossbarlaw17_sane.f 40 = some true := by kernel_rfl
theorem sane_ge {k : Nat} (hk : 40 ≤ k) : crossbarlaw17_sane.f k = some true := at_rounds crossbarlaw17_sane.mono hk sane_40
/-- Step's error is one of three; beside none, the state is one of the five and there are at most three actions; beside one, there is nothing -/
theorem stepF_ok (s kd c : Int) : ((stepF s kd c).2.2 = 0 → 0 ≤ (stepF s kd c).1 ∧ (stepF s kd c).1 ≤ 4) ∧ (stepF s kd c).2.1.length ≤ 3 ∧ ((stepF s kd c).2.2 ≠ 0 → (stepF s kd c).1 = 0 ∧ (stepF s kd c).2.1 = []) := by
  unfold stepF
  repeat' split
  all_goals simp_all [A0]
  all_goals omega
theorem ws1 : wrap64 (0 + 1) = 1 := by rw [wr (by omega)]; rfl
theorem ws2 : wrap64 (1 + 1) = 2 := by rw [wr (by omega)]; rfl
theorem ws3 : wrap64 (2 + 1) = 3 := by rw [wr (by omega)]; rfl
theorem ws1' : wrap64 1 = 1 := wr (by omega)
theorem ws2' : wrap64 2 = 2 := wr (by omega)
theorem ws3' : wrap64 3 = 3 := wr (by omega)
def QInv (s : Int) (q : List S98) : Prop := ((s = 1 ∨ s = 3) ∧ ∃ a, 0 ≤ a ∧ a ≤ 1099511627776 ∧ q = [⟨3, a⟩]) ∨ (s ≠ 1 ∧ s ≠ 3 ∧ q = [])
theorem q_of_run {s : Int} {q : List S98} (h : QInv s q) (hs : s = 1 ∨ s = 3) : ∃ a, 0 ≤ a ∧ a ≤ 1099511627776 ∧ q = [⟨3, a⟩] := by
  rcases h with ⟨_, h⟩ | ⟨h1, h2, _⟩
  · exact h
  · omega
theorem q_of_not {s : Int} {q : List S98} (h : QInv s q) (h1 : s ≠ 1) (h3 : s ≠ 3) : q = [] := by
  rcases h with ⟨h, _⟩ | ⟨_, _, h⟩
  · omega
  · exact h
theorem inv0 : QInv 0 [] := .inr ⟨by decide, by decide, rfl⟩
theorem inv2 : QInv 2 [] := .inr ⟨by decide, by decide, rfl⟩
theorem inv4 : QInv 4 [] := .inr ⟨by decide, by decide, rfl⟩
theorem inv1 {a : Int} (h0 : 0 ≤ a) (h1 : a ≤ 1099511627776) : QInv 1 [⟨3, a⟩] := .inl ⟨.inl rfl, a, h0, h1, rfl⟩
theorem inv3 {a : Int} (h0 : 0 ≤ a) (h1 : a ≤ 1099511627776) : QInv 3 [⟨3, a⟩] := .inl ⟨.inr rfl, a, h0, h1, rfl⟩
theorem acts_of {s kd c now : Int} {q : List S98} (hn0 : 0 ≤ now) (hn1 : now ≤ 4294967295) (h0 : 0 ≤ s) (h4 : s ≤ 4) (hi : QInv s q) (he : (stepF s kd c).2.2 = 0) {l : List S25} {n i : Int} {k : Nat}
    (hnext : ∀ q', QInv (stepF s kd c).1 q' → ∀ j, k ≤ j → j ≤ k + 9 → crossbarlaw17_TerminateTimerQueue.l0 j now l n (wrap64 (i + 1)) (stepF s kd c).1 q' = some true) :
    crossbarlaw17_TerminateTimerQueue.j1 (k + 9) now (stepF s kd c).2.1 l n i (if kd = 4 then true else (kd == 12)) (stepF s kd c).1 q (stepF s kd c).1 = some true := by
  have w30 : wrap64 (wrap64 now + 30) = now + 30 := by rw [wr (n := now) (by omega), wr (by omega)]
  have w15 : wrap64 (wrap64 now + 15) = now + 15 := by rw [wr (n := now) (by omega), wr (by omega)]
  have hs : s = 0 ∨ s = 1 ∨ s = 2 ∨ s = 3 ∨ s = 4 := by omega
  have g30 : 0 ≤ now + 30 ∧ now + 30 ≤ 1099511627776 := by omega
  have g15 : 0 ≤ now + 15 ∧ now + 15 ≤ 1099511627776 := by omega
  by_cases k10 : kd = 10
  case pos =>
    subst k10
    rcases hs with rfl | rfl | rfl | rfl | rfl
    · obtain rfl := q_of_not hi (by decide) (by decide)
      simp [stepF] at hnext
      simp [crossbarlaw17_TerminateTimerQueue.l1, crossbarlaw17_TerminateTimerQueue.j4, crossbarlaw17_TerminateTimerQueue.j2, crossbarlaw17_TerminateTimerQueue.j1, timers_Set.f, timers_Cancel.f, timers_Next.f, timers_Check.f, timers_Expire.f, rd_T46, rd_T98, A0, stepF, ws1, ws2, ws3, ws1', ws2', ws3', w30, w15, g30, g15]
      exact hnext _ (inv1 (by omega) (by omega)) _ (by omega) (by omega)
    · obtain ⟨a, ha0, ha1, rfl⟩ := q_of_run hi (by decide)
      simp [stepF] at hnext
      simp [crossbarlaw17_TerminateTimerQueue.l1, crossbarlaw17_TerminateTimerQueue.j4, crossbarlaw17_TerminateTimerQueue.j2, crossbarlaw17_TerminateTimerQueue.j1, timers_Set.f, timers_Cancel.f, timers_Next.f, timers_Check.f, timers_Expire.f, rd_T46, rd_T98, A0, stepF, ws1, ws2, ws3, ws1', ws2', ws3', w30, w15, g30, g15, ha0, ha1]
      exact hnext _ (inv1 (by omega) (by omega)) _ (by omega) (by omega)
    · obtain rfl := q_of_not hi (by decide) (by decide)
      simp [stepF] at hnext
      simp [crossbarlaw17_TerminateTimerQueue.l1, crossbarlaw17_TerminateTimerQueue.j4, crossbarlaw17_TerminateTimerQueue.j2, crossbarlaw17_TerminateTimerQueue.j1, timers_Set.f, timers_Cancel.f, timers_Next.f, timers_Check.f, timers_Expire.f, rd_T46, rd_T98, A0, stepF, ws1, ws2, ws3, ws1', ws2', ws3', w30, w15, g30, g15]
      exact hnext _ inv2 _ (by omega) (by omega)
    · obtain ⟨a, ha0, ha1, rfl⟩ := q_of_run hi (by decide)
      simp [stepF] at hnext
      simp [crossbarlaw17_TerminateTimerQueue.l1, crossbarlaw17_TerminateTimerQueue.j4, crossbarlaw17_TerminateTimerQueue.j2, crossbarlaw17_TerminateTimerQueue.j1, timers_Set.f, timers_Cancel.f, timers_Next.f, timers_Check.f, timers_Expire.f, rd_T46, rd_T98, A0, stepF, ws1, ws2, ws3, ws1', ws2', ws3', w30, w15, g30, g15, ha0, ha1]
      exact hnext _ (inv3 (by omega) (by omega)) _ (by omega) (by omega)
    · obtain rfl := q_of_not hi (by decide) (by decide)
      simp [stepF] at hnext
      simp [crossbarlaw17_TerminateTimerQueue.l1, crossbarlaw17_TerminateTimerQueue.j4, crossbarlaw17_TerminateTimerQueue.j2, crossbarlaw17_TerminateTimerQueue.j1, timers_Set.f, timers_Cancel.f, timers_Next.f, timers_Check.f, timers_Expire.f, rd_T46, rd_T98, A0, stepF, ws1, ws2, ws3, ws1', ws2', ws3', w30, w15, g30, g15]
      exact hnext _ inv4 _ (by omega) (by omega)
  by_cases k1 : kd = 1
  case pos =>
    subst k1
    rcases hs with rfl | rfl | rfl | rfl | rfl
    · simp [stepF] at he
    · obtain ⟨a, ha0, ha1, rfl⟩ := q_of_run hi (by decide)
      simp [stepF] at hnext
      simp [crossbarlaw17_TerminateTimerQueue.l1, crossbarlaw17_TerminateTimerQueue.j4, crossbarlaw17_TerminateTimerQueue.j2, crossbarlaw17_TerminateTimerQueue.j1, timers_Set.f, timers_Cancel.f, timers_Next.f, timers_Check.f, timers_Expire.f, rd_T46, rd_T98, A0, stepF, ws1, ws2, ws3, ws1', ws2', ws3', w30, w15, g30, g15, ha0, ha1]
      exact hnext _ inv2 _ (by omega) (by omega)
    · simp [stepF] at he
    · obtain ⟨a, ha0, ha1, rfl⟩ := q_of_run hi (by decide)
      simp [stepF] at hnext
      simp [crossbarlaw17_TerminateTimerQueue.l1, crossbarlaw17_TerminateTimerQueue.j4, crossbarlaw17_TerminateTimerQueue.j2, crossbarlaw17_TerminateTimerQueue.j1, timers_Set.f, timers_Cancel.f, timers_Next.f, timers_Check.f, timers_Expire.f, rd_T46, rd_T98, A0, stepF, ws1, ws2, ws3, ws1', ws2', ws3', w30, w15, g30, g15, ha0, ha1]
      exact hnext _ inv2 _ (by omega) (by omega)
    · simp [stepF] at he
  by_cases k2 : kd = 2
  case pos =>
    subst k2
    rcases hs with rfl | rfl | rfl | rfl | rfl
    · simp [stepF] at he
    · simp [stepF] at he
    · obtain rfl := q_of_not hi (by decide) (by decide)
      simp [stepF] at hnext
      simp [crossbarlaw17_TerminateTimerQueue.l1, crossbarlaw17_TerminateTimerQueue.j4, crossbarlaw17_TerminateTimerQueue.j2, crossbarlaw17_TerminateTimerQueue.j1, timers_Set.f, timers_Cancel.f, timers_Next.f, timers_Check.f, timers_Expire.f, rd_T46, rd_T98, A0, stepF, ws1, ws2, ws3, ws1', ws2', ws3', w30, w15, g30, g15]
      exact hnext _ (inv3 (by omega) (by omega)) _ (by omega) (by omega)
    · simp [stepF] at he
    · obtain rfl := q_of_not hi (by decide) (by decide)
      simp [stepF] at hnext
      simp [crossbarlaw17_TerminateTimerQueue.l1, crossbarlaw17_TerminateTimerQueue.j4, crossbarlaw17_TerminateTimerQueue.j2, crossbarlaw17_TerminateTimerQueue.j1, timers_Set.f, timers_Cancel.f, timers_Next.f, timers_Check.f, timers_Expire.f, rd_T46, rd_T98, A0, stepF, ws1, ws2, ws3, ws1', ws2', ws3', w30, w15, g30, g15]
      exact hnext _ inv0 _ (by omega) (by omega)
  by_cases k4 : kd = 4
  case pos =>
    subst k4
    rcases hs with rfl | rfl | rfl | rfl | rfl
    · simp [stepF] at he
    · obtain ⟨a, ha0, ha1, rfl⟩ := q_of_run hi (by decide)
      simp [stepF] at hnext
      simp [crossbarlaw17_TerminateTimerQueue.l1, crossbarlaw17_TerminateTimerQueue.j4, crossbarlaw17_TerminateTimerQueue.j2, crossbarlaw17_TerminateTimerQueue.j1, timers_Set.f, timers_Cancel.f, timers_Next.f, timers_Check.f, timers_Expire.f, rd_T46, rd_T98, A0, stepF, ws1, ws2, ws3, ws1', ws2', ws3', w30, w15, g30, g15, ha0, ha1]
      exact hnext _ inv0 _ (by omega) (by omega)
    · simp [stepF] at he
    · simp [stepF] at he
    · simp [stepF] at he
  by_cases k9 : kd = 9
  case pos =>
    subst k9
    rcases hs with rfl | rfl | rfl | rfl | rfl
    · simp [stepF] at he
    · obtain ⟨a, ha0, ha1, rfl⟩ := q_of_run hi (by decide)
      simp [stepF] at hnext
      simp [crossbarlaw17_TerminateTimerQueue.l1, crossbarlaw17_TerminateTimerQueue.j4, crossbarlaw17_TerminateTimerQueue.j2, crossbarlaw17_TerminateTimerQueue.j1, timers_Set.f, timers_Cancel.f, timers_Next.f, timers_Check.f, timers_Expire.f, rd_T46, rd_T98, A0, stepF, ws1, ws2, ws3, ws1', ws2', ws3', w30, w15, g30, g15, ha0, ha1]
      exact hnext _ inv0 _ (by omega) (by omega)
    · obtain rfl := q_of_not hi (by decide) (by decide)
      simp [stepF] at hnext
      simp [crossbarlaw17_TerminateTimerQueue.l1, crossbarlaw17_TerminateTimerQueue.j4, crossbarlaw17_TerminateTimerQueue.j2, crossbarlaw17_TerminateTimerQueue.j1, timers_Set.f, timers_Cancel.f, timers_Next.f, timers_Check.f, timers_Expire.f, rd_T46, rd_T98, A0, stepF, ws1, ws2, ws3, ws1', ws2', ws3', w30, w15, g30, g15]
      exact hnext _ inv4 _ (by omega) (by omega)
    · obtain ⟨a, ha0, ha1, rfl⟩ := q_of_run hi (by decide)
      simp [stepF] at hnext
      simp [crossbarlaw17_TerminateTimerQueue.l1, crossbarlaw17_TerminateTimerQueue.j4, crossbarlaw17_TerminateTimerQueue.j2, crossbarlaw17_TerminateTimerQueue.j1, timers_Set.f, timers_Cancel.f, timers_Next.f, timers_Check.f, timers_Expire.f, rd_T46, rd_T98, A0, stepF, ws1, ws2, ws3, ws1', ws2', ws3', w30, w15, g30, g15, ha0, ha1]
      exact hnext _ inv0 _ (by omega) (by omega)
    · simp [stepF] at he
  by_cases k11 : kd = 11
  case pos =>
    subst k11
    rcases hs with rfl | rfl | rfl | rfl | rfl
    · simp [stepF] at he
    · obtain ⟨a, ha0, ha1, rfl⟩ := q_of_run hi (by decide)
      simp [stepF] at hnext
      simp [crossbarlaw17_TerminateTimerQueue.l1, crossbarlaw17_TerminateTimerQueue.j4, crossbarlaw17_TerminateTimerQueue.j2, crossbarlaw17_TerminateTimerQueue.j1, timers_Set.f, timers_Cancel.f, timers_Next.f, timers_Check.f, timers_Expire.f, rd_T46, rd_T98, A0, stepF, ws1, ws2, ws3, ws1', ws2', ws3', w30, w15, g30, g15, ha0, ha1]
      exact hnext _ inv0 _ (by omega) (by omega)
    · simp [stepF] at he
    · simp [stepF] at he
    · simp [stepF] at he
  by_cases k12 : kd = 12
  case pos =>
    subst k12
    rcases hs with rfl | rfl | rfl | rfl | rfl
    · simp [stepF] at he
    · simp [stepF] at he
    · simp [stepF] at he
    · obtain ⟨a, ha0, ha1, rfl⟩ := q_of_run hi (by decide)
      simp [stepF] at hnext
      simp [crossbarlaw17_TerminateTimerQueue.l1, crossbarlaw17_TerminateTimerQueue.j4, crossbarlaw17_TerminateTimerQueue.j2, crossbarlaw17_TerminateTimerQueue.j1, timers_Set.f, timers_Cancel.f, timers_Next.f, timers_Check.f, timers_Expire.f, rd_T46, rd_T98, A0, stepF, ws1, ws2, ws3, ws1', ws2', ws3', w30, w15, g30, g15, ha0, ha1]
      exact hnext _ inv0 _ (by omega) (by omega)
    · simp [stepF] at he
  exfalso
  rcases hs with rfl | rfl | rfl | rfl | rfl <;> simp [stepF, k10, k1, k2, k4, k9, k11, k12] at he
theorem tq_loop (now : Int) (hn0 : 0 ≤ now) (hn1 : now ≤ 4294967295) (l : List S25) (hl : l.length ≤ 1000) : ∀ (d k i : Nat) (s : Int) (q : List S98), l.length - i = d → i ≤ l.length → 10 * d + 40 < k → 0 ≤ s → s ≤ 4 → QInv s q →
    crossbarlaw17_TerminateTimerQueue.l0 k now l (l.length : Int) (i : Int) s q = some true := by
  intro d
  induction d with
  | zero =>
    intro k i s q hd hi hk h0 h1 hq
    obtain ⟨k, rfl⟩ : ∃ m, k = m + 1 := ⟨k - 1, by omega⟩
    simp only [crossbarlaw17_TerminateTimerQueue.l0]
    rw [if_neg (by omega)]
  | succ d ih =>
    intro k i s q hd hi hk h0 h1 hq
    obtain ⟨k, rfl⟩ : ∃ m, k = m + 10 := ⟨k - 10, by omega⟩
    have hok := stepF_ok s (rd_T25 l i).f0 (rd_T25 l i).f1
    simp only [crossbarlaw17_TerminateTimerQueue.l0]
    rw [if_pos (by omega), if_pos (by omega), if_pos (by omega), step_ge (by omega)]
    simp only [Option.bind_some]
    have hw : wrap64 ((i : Int) + 1) = ((i + 1 : Nat) : Int) := by rw [wr (by omega)]; omega
    by_cases he : (stepF s (rd_T25 l i).f0 (rd_T25 l i).f1).2.2 = 0
    · rw [if_pos he]
      have hst := hok.1 he
      have := acts_of (l := l) (n := (l.length : Int)) (i := (i : Int)) (k := k) hn0 hn1 h0 h1 hq he (fun q' hq' j hj1 hj2 => by rw [hw]; exact ih j (i + 1) _ q' (by omega) (by omega) (by omega) hst.1 hst.2 hq')
      by_cases k4 : (rd_T25 l i).f0 = 4
      · rw [if_pos k4] at this ⊢
        exact this
      · rw [if_neg k4] at this ⊢
        exact this
    · rw [if_neg he, hw]
      exact ih (k + 9) (i + 1) s q (by omega) (by omega) (by omega) h0 h1 hq
theorem pure_TerminateTimerQueue (l : List S25) (now : Int) (hn : 0 ≤ now ∧ now ≤ 4294967295) : ∃ k, crossbarlaw17_TerminateTimerQueue.f k l now = some true := by
  refine ⟨2000, ?_⟩
  unfold crossbarlaw17_TerminateTimerQueue.f
  rw [sane_ge (by omega)]
  simp only [Option.bind_some, if_pos]
  by_cases h : (l.length : Int) > 60
  · rw [if_pos h]
  · rw [if_neg h]
    exact tq_loop now hn.1 hn.2 l (by omega) l.length 2000 0 0 [] (by omega) (by omega) (by omega) (by omega) (by omega) inv0
end Go.Proofs.YtenaokgcljpcgaaDoor.GQ
