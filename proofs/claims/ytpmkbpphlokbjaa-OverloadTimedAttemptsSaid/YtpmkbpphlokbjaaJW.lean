/- timers.Set of the given program at any valid queue: the timer stands where the order has it, in a row of its own. -/
import Derived.Test.YtpmkbpphlokbjaaJK
import Derived.Test.YtpmkbpphlokbjaaGTx2
set_option linter.unusedVariables false
set_option linter.unusedSimpArgs false
namespace Go.Proofs.Ytpmkbpphlokbjaa.GT
open Go.RowKit Go.Proofs.YtpmkbpphlokbjaaW.PrintWords Go.Proofs.YtpmkbpphlokbjaaW.PrintLast Go.Proofs.YtpmkbpphlokbjaaW.PrintMore
theorem tlt.trans {a b c : S64} (h : tlt a b) (h' : tlt b c) : tlt a c := by
  unfold tlt at *
  omega
theorem tlt.irrefl (a : S64) : ¬ tlt a a := by
  unfold tlt
  omega
theorem split_at_ (t : S64) : ∀ l : List S64, l.Pairwise tlt → l.filter (fun x => decide (tlt x t)) = l.take (l.filter (fun x => decide (tlt x t))).length ∧ l.filter (fun x => !decide (tlt x t)) = l.drop (l.filter (fun x => decide (tlt x t))).length
  | [], _ => by simp
  | x :: l, h => by
    obtain ⟨h1, h2⟩ := List.pairwise_cons.1 h
    by_cases hx : tlt x t
    · obtain ⟨e1, e2⟩ := split_at_ t l h2
      simp only [List.filter_cons, hx, decide_true, if_true, Bool.not_true, Bool.false_eq_true, if_false, List.length_cons, List.take_succ_cons, List.drop_succ_cons]
      exact ⟨by rw [← e1], e2⟩
    · have hn : l.filter (fun x => decide (tlt x t)) = [] := by
        rw [List.filter_eq_nil_iff]
        intro y hy hyt
        exact hx ((h1 y hy).trans (by simpa using hyt))
      have hm : l.filter (fun x => !decide (tlt x t)) = l := by
        rw [List.filter_eq_self]
        intro y hy
        have : ¬ tlt y t := fun hyt => hx ((h1 y hy).trans hyt)
        simp [this]
      simp [List.filter_cons, hx, hn, hm]
theorem lt_iff {t : S64} {l : List S64} (h : l.Pairwise tlt) {j : Nat} (hj : j < l.length) : tlt l[j] t ↔ j < (l.filter (fun x => decide (tlt x t))).length := by
  obtain ⟨e1, e2⟩ := split_at_ t l h
  constructor
  · intro hlt
    rcases Nat.lt_or_ge j (l.filter (fun x => decide (tlt x t))).length with hl | hl
    · exact hl
    · exfalso
      have hm : l[j] ∈ l.drop (l.filter (fun x => decide (tlt x t))).length := by
        rw [List.mem_drop_iff_getElem]
        exact ⟨j - (l.filter (fun x => decide (tlt x t))).length, by omega, by congr 1; omega⟩
      rw [← e2] at hm
      have := (List.mem_filter.1 hm).2
      simp [hlt] at this
  · intro hl
    have hm : l[j] ∈ l.take (l.filter (fun x => decide (tlt x t))).length := by
      rw [List.mem_take_iff_getElem]
      exact ⟨j, by omega, rfl⟩
    rw [← e1] at hm
    simpa using (List.mem_filter.1 hm).2
theorem compare_sign (a b : S64) (k : Nat) : ∃ c, timers_compare.f (k + 3) a.f0 a.f1 b.f0 b.f1 = some c ∧ (c < 0 ↔ tlt a b) := by
  simp only [timers_compare.f, cmp_eq, Option.bind_some, or_two]
  refine ⟨_, rfl, ?_⟩
  unfold tlt
  by_cases h1 : a.f1 < b.f1
  · simp [h1]
  · by_cases h2 : a.f1 > b.f1
    · have : ¬ a.f1 = b.f1 := by omega
      simp [h1, h2, this]
    · have e : a.f1 = b.f1 := by omega
      by_cases h3 : a.f0 < b.f0
      · simp [e, h3]
      · by_cases h4 : a.f0 > b.f0
        · simp [e, h3, h4]
        · simp [e, h3, h4]
theorem wr_ {n : Int} (h : -9223372036854775808 ≤ n ∧ n ≤ 9223372036854775807) : wrap64 n = n := IntWalk.wrap64_in n ⟨h.1, h.2⟩
theorem half_ {lo hi : Nat} (h : hi ≤ 1024) (hl : lo ≤ hi) : wrap64 ((IntKind.u64.wrap (wrap64 ((lo : Int) + (hi : Int)))) / 2) = (((lo + hi) / 2 : Nat) : Int) := by
  have e : wrap64 ((lo : Int) + (hi : Int)) = (lo : Int) + (hi : Int) := wr_ (by omega)
  have e2 : IntKind.u64.wrap ((lo : Int) + (hi : Int)) = (lo : Int) + (hi : Int) := by
    rw [show IntKind.u64.wrap ((lo : Int) + (hi : Int)) = ((lo : Int) + (hi : Int)) % 18446744073709551616 by simp [IntKind.wrap, IntKind.bits, IntKind.signed]]
    exact Int.emod_eq_of_lt (by omega) (by omega)
  rw [e, e2, wr_ (by omega)]
  omega
theorem rd_at (l : List S64) {j : Nat} (hj : j < l.length) : rd_T64 l (j : Int) = l[j] := by simp [rd_T64, List.getD_eq_getElem?_getD, hj]
theorem bs_loop (l : List S64) (h : l.Pairwise tlt) (hn : l.length ≤ 1024) (t : S64) : ∀ (d k lo hi : Nat), hi - lo ≤ d → lo ≤ (l.filter (fun x => decide (tlt x t))).length → (l.filter (fun x => decide (tlt x t))).length ≤ hi → hi ≤ l.length → d + 10 < k →
    ∃ b, bsearch.l0 k l (l.length : Int) (lo : Int) (hi : Int) t.f0 t.f1 = some (((l.filter (fun x => decide (tlt x t))).length : Int), b) := by
  intro d
  induction d with
  | zero =>
    intro k lo hi hd h1 h2 h3 hk
    obtain ⟨k, rfl⟩ : ∃ m, k = m + 4 := ⟨k - 4, by omega⟩
    have e : lo = (l.filter (fun x => decide (tlt x t))).length := by omega
    simp only [bsearch.l0]
    rw [if_neg (by omega), ← e]
    by_cases hlt : (lo : Int) < (l.length : Int)
    · have hrd : rd_T64 l (lo : Int) = l[lo]'(by omega) := by simp [rd_T64, List.getD_eq_getElem?_getD, show lo < l.length by omega]
      obtain ⟨c, hc, _⟩ := compare_sign (l[lo]'(by omega)) t k
      rw [if_pos hlt, if_pos (by omega), if_pos (by omega), hrd, hc]
      exact ⟨_, rfl⟩
    · rw [if_neg hlt]
      exact ⟨_, rfl⟩
  | succ d ih =>
    intro k lo hi hd h1 h2 h3 hk
    obtain ⟨k, rfl⟩ : ∃ m, k = m + 4 := ⟨k - 4, by omega⟩
    by_cases hlt : lo < hi
    · obtain ⟨m, hm⟩ : ∃ m, (lo + hi) / 2 = m := ⟨_, rfl⟩
      have hm1 : lo ≤ m := by omega
      have hm2 : m < hi := by omega
      have hh : wrap64 ((IntKind.u64.wrap (wrap64 ((lo : Int) + (hi : Int)))) / 2) = (m : Int) := by rw [half_ (lo := lo) (hi := hi) (by omega) (by omega), hm]
      clear hm
      have hml : m < l.length := by omega
      have hrd := rd_at l hml
      obtain ⟨c, hc, hcs⟩ := compare_sign (l[m]) t k
      have hiff := lt_iff (t := t) h hml
      simp only [bsearch.l0]
      rw [if_pos (by omega), hh, if_pos (by omega), if_pos (by omega), hrd, hc]
      simp only [Option.bind_some]
      clear hh hrd hc
      generalize (l.filter (fun x => decide (tlt x t))).length = k0 at *
      by_cases hc0 : c < 0
      · have hk0 := hiff.1 (hcs.1 hc0)
        have hw : wrap64 ((m : Int) + 1) = ((m + 1 : Nat) : Int) := by rw [wr_ (by omega)]; omega
        rw [if_pos hc0, hw]
        clear hw
        exact ih (k + 3) (m + 1) hi (by omega) (by omega) h2 h3 (by omega)
      · have hk0 : ¬ m < k0 := fun hx => hc0 (hcs.2 (hiff.2 hx))
        rw [if_neg hc0]
        exact ih (k + 3) lo m (by omega) h1 (by omega) (by omega) (by omega)
    · exact ih (k + 4) lo hi (by omega) h1 h2 h3 (by omega)
theorem bs_ok (l : List S64) (h : l.Pairwise tlt) (hn : l.length ≤ 1024) (t : S64) : ∃ b, bsearch.f 2000 l t.f0 t.f1 0 = some (((l.filter (fun x => decide (tlt x t))).length : Int), b) := by
  unfold bsearch.f
  exact bs_loop l h hn t 1024 2000 0 l.length (by omega) (by omega) (List.length_filter_le _ _) (Nat.le_refl _) (by omega)
theorem insT_eq (l : List S64) (h : l.Pairwise tlt) (t : S64) : insT l t = l.take (l.filter (fun x => decide (tlt x t))).length ++ t :: l.drop (l.filter (fun x => decide (tlt x t))).length := by
  obtain ⟨e1, e2⟩ := split_at_ t l h
  unfold insT
  rw [← e1, ← e2]
theorem set_all {A0 : Option Addr} {cap : Nat} {l : List S64} {id at_ : Int} {w : World} (hr : Kd.C k64 w A0 l.length l) (hlc : l.length ≤ cap) (hq : QV l) (ha0 : 0 ≤ at_) (ha1 : at_ ≤ 1099511627776) (hfew : (l.filter (fun x => !(x.f0 == id))).length < 1024) :
    Calls Try.prog 19 #[.agg #[.slice A0 l.length cap], .int .i64 id, .int .i64 at_] w fun e w' => ∃ v0, e = .returned (.tuple #[.agg #[v0], .int .i64 0]) ∧ Kd.R k64 64 w' w.heap.size (fun _ => True) v0 (insT (l.filter (fun x => !(x.f0 == id))) ⟨id, at_⟩) ∧ Below w.heap.size w w' := by
  obtain ⟨rest, hrest⟩ : ∃ r, l.filter (fun x => !(x.f0 == id)) = r := ⟨_, rfl⟩
  have hqr : QV rest := hrest ▸ hq.filter _
  rw [hrest] at hfew ⊢
  obtain ⟨b, hb⟩ := bs_ok rest hqr.order hqr.few ⟨id, at_⟩
  refine set_calls (kf := 2000) (b := b) (res := insT rest ⟨id, at_⟩) hr hlc hq ha0 ha1 hrest hfew hb ?_
  intro A1 q1 q2 q W h1 ho hx h2 hne
  have := ins_any (q2 := q2) (x := ⟨id, at_⟩) ho h2 hqr.few (List.length_filter_le (fun x => decide (tlt x ⟨id, at_⟩)) rest) hx hne
  rw [← insT_eq rest hqr.order] at this
  have hlen : (insT rest ⟨id, at_⟩).length = rest.length + 1 := by
    rw [insT_eq rest hqr.order]
    have := List.length_filter_le (fun x => decide (tlt x ⟨id, at_⟩)) rest
    simp
    omega
  rw [hlen]
  exact this
end Go.Proofs.Ytpmkbpphlokbjaa.GT
