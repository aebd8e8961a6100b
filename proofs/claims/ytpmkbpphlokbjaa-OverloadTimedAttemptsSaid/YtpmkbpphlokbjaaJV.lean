/- A queue in strict order, of at most 1024 timers with different identifiers and valid times, passes timers.Check. -/
import Derived.Test.YtpmkbpphlokbjaaJC
set_option linter.unusedVariables false
set_option linter.unusedSimpArgs false
namespace Go.Proofs.Ytpmkbpphlokbjaa.GT
open Go.RowKit Go.Proofs.YtpmkbpphlokbjaaW.PrintWords Go.Proofs.YtpmkbpphlokbjaaW.PrintLast Go.Proofs.YtpmkbpphlokbjaaW.PrintMore
theorem QV.nil : QV [] := ⟨by simp, by simp, by simp, List.Pairwise.nil⟩
theorem QV.filter {l : List S64} (h : QV l) (p : S64 → Bool) : QV (l.filter p) :=
  ⟨Nat.le_trans (List.length_filter_le _ _) h.few, (List.Sublist.nodup (List.Sublist.map _ List.filter_sublist) h.ids), fun x hx => h.times x (List.mem_filter.1 hx).1, h.order.filter _⟩
theorem cmp_eq (a b : Int) : cmp_Compare_int.f a b = some (if a < b then -1 else if a > b then 1 else 0) := by
  simp only [cmp_Compare_int.f, cmp_isNaN_int.f, Option.bind_some, bne_self_eq_false, Bool.false_eq_true, if_false]
  repeat' split
  all_goals rfl
theorem or_two (k : Nat) (a b : Int) : cmp_Or_int.f (k + 3) [a, b] = some (if a = 0 then b else a) := by
  have w1 : wrap64 (0 + 1) = 1 := by rw [IntWalk.wrap64_in _ (by omega)]; rfl
  have w2 : wrap64 (1 + 1) = 2 := by rw [IntWalk.wrap64_in _ (by omega)]; rfl
  have w1' : wrap64 1 = 1 := by rw [IntWalk.wrap64_in _ (by omega)]
  have w2' : wrap64 2 = 2 := by rw [IntWalk.wrap64_in _ (by omega)]
  by_cases ha : a = 0
  · subst ha
    by_cases hb : b = 0
    · subst hb
      simp [cmp_Or_int.f, cmp_Or_int.l0, rd, w1, w2, w1', w2']
    · simp [cmp_Or_int.f, cmp_Or_int.l0, rd, w1, w2, w1', w2', hb]
  · simp [cmp_Or_int.f, cmp_Or_int.l0, rd, w1, w2, w1', w2', ha]
theorem compare_lt {a b : S64} (h : tlt a b) (k : Nat) : timers_compare.f (k + 3) a.f0 a.f1 b.f0 b.f1 = some (-1) := by
  simp only [timers_compare.f, cmp_eq, Option.bind_some, or_two]
  rcases h with h | ⟨h1, h2⟩
  · simp [h]
  · simp [h1, h2]
theorem tcheck_loop (l : List S64) (h : QV l) : ∀ (d k j : Nat), l.length - j = d → j ≤ l.length → d + 5 < k → tcheck.l0 k l (l.length : Int) (j : Int) l = some 0 := by
  intro d
  induction d with
  | zero =>
    intro k j hd hj hk
    obtain ⟨k, rfl⟩ : ∃ m, k = m + 1 := ⟨k - 1, by omega⟩
    simp only [tcheck.l0]
    rw [if_neg (by omega)]
  | succ d ih =>
    intro k j hd hj hk
    obtain ⟨k, rfl⟩ : ∃ m, k = m + 4 := ⟨k - 4, by omega⟩
    have hlt : j < l.length := by omega
    have hn := h.few
    have hrd : rd_T64 l (j : Int) = l[j] := by simp [rd_T64, List.getD_eq_getElem?_getD, hlt]
    have ht := h.times l[j] (List.getElem_mem hlt)
    have hv : timers_valid.f (rd_T64 l (j : Int)).f1 = some true := by
      rw [hrd]
      simp [timers_valid.f, ht.1, ht.2]
    have hw : wrap64 ((j : Int) + 1) = ((j + 1 : Nat) : Int) := by rw [IntWalk.wrap64_in _ (by omega)]; omega
    simp only [tcheck.l0]
    rw [if_pos (by omega), if_pos (by omega), if_pos (by omega), hv]
    simp only [Option.bind_some, if_true]
    rw [if_neg (by decide), hw]
    have hnext := ih (k + 3) (j + 1) (by omega) (by omega) (by omega)
    by_cases h0 : (j : Int) > 0
    · obtain ⟨i, rfl⟩ : ∃ i, j = i + 1 := ⟨j - 1, by omega⟩
      have hw' : wrap64 (((i + 1 : Nat) : Int) - 1) = (i : Int) := by rw [IntWalk.wrap64_in _ (by omega)]; omega
      have hi : rd_T64 l (i : Int) = l[i] := by simp [rd_T64, List.getD_eq_getElem?_getD, show i < l.length by omega]
      have hc := compare_lt (List.pairwise_iff_getElem.1 h.order i (i + 1) (by omega) hlt (by omega)) k
      rw [if_pos h0, hw', if_pos (by omega), if_pos (by omega), hi, hrd, hc]
      simp only [Option.bind_some]
      rw [if_neg (by decide)]
      exact hnext
    · rw [if_neg h0]
      exact hnext
theorem tcheck_ok {l : List S64} (h : QV l) : tcheck.f 2000 l = some 0 := by
  unfold tcheck.f
  have hn := h.few
  rw [if_neg (by omega)]
  exact tcheck_loop l h l.length 2000 0 (by omega) (by omega) (by omega)
end Go.Proofs.Ytpmkbpphlokbjaa.GT
