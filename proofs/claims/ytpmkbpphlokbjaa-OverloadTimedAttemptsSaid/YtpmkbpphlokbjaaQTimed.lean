/- The plain law OverloadTimedAttempts: attempts that are set as timers are admitted within the bound, and the first ones all. -/
import Derived.Test.YtpmkbpphlokbjaaGTx3b
import Derived.Test.YtpmkbpphlokbjaaHT
set_option linter.unusedVariables false
set_option linter.unusedSimpArgs false
namespace Go.Proofs.Ytpmkbpphlokbjaa.GT
open Go.RowKit HA Go.Proofs.YtpmkbpphlokbjaaW.PrintWords Go.Proofs.YtpmkbpphlokbjaaW.PrintMore
theorem sane_one : crossbarlaw32_sane.f 1 = some true := by kernel_rfl
theorem sane_k (k : Nat) : crossbarlaw32_sane.f (k + 1) = some true := at_rounds crossbarlaw32_sane.mono (by omega) sane_one

/-- what is lent: tokens already given count as much as tokens still there; the potential never grows -/
def pot (adm t l p : Int) : Int := adm * p + t * p - l

theorem pot_adv {adm t l p d now : Int} (v : Valid t l p d now) : pot adm (advT t l p d now) (advL t l p d now) p ≤ pot adm t l p := by
  have n0 := v.n0; have m1 := v.m1; have m0 := v.m0
  have ⟨a1, a2, a3, a4, a5, a6, a7, a8, a9⟩ := v
  unfold pot advT advL
  by_cases hlt : t + (now - l) / p < d
  · rw [if_pos hlt, if_pos hlt, Int.add_mul]; omega
  · rw [if_neg hlt, if_neg hlt]
    have : d * p ≤ (t + (now - l) / p) * p := Int.mul_le_mul_of_nonneg_right (by omega) (by omega)
    rw [Int.add_mul] at this
    omega
theorem pot_first {t l p d now : Int} (v : Valid t l p d now) : pot 0 (advT t l p d now) (advL t l p d now) p ≤ d * p - now := by
  have n0 := v.n0; have m1 := v.m1; have m0 := v.m0; have m2 := v.m2
  have ⟨a1, a2, a3, a4, a5, a6, a7, a8, a9⟩ := v
  unfold pot advT advL
  by_cases hlt : t + (now - l) / p < d
  · rw [if_pos hlt, if_pos hlt]
    have : (t + (now - l) / p + 1) * p ≤ d * p := Int.mul_le_mul_of_nonneg_right (by omega) (by omega)
    rw [Int.add_mul, Int.one_mul] at this
    omega
  · rw [if_neg hlt, if_neg hlt]
    omega
/-- the bound out of the potential -/
theorem pot_bound {adm t l p d now beg : Int} (hp : 1 ≤ p) (ht : 0 ≤ t) (hl : l ≤ now) (h : pot adm t l p ≤ d * p - beg) : adm ≤ d + (now - beg) / p := by
  have h1 : 0 ≤ t * p := Int.mul_nonneg ht (by omega)
  unfold pot at h
  have h2 : (adm - d) * p ≤ now - beg := by rw [Int.sub_mul]; omega
  have h3 : adm - d ≤ (now - beg) / p := (Int.le_ediv_iff_mul_le (by omega)).2 h2
  omega
theorem u16_bd {n : Int} (h : (Lit.int .u16 n).wf = true) : 0 ≤ n ∧ n ≤ 65535 := by
  simp [Lit.wf, IntKind.min, IntKind.max, IntKind.signed, IntKind.bits] at h
  omega
/-- the bound as the program reckons it -/
theorem lim_eq {d p now beg : Int} (h1 : 1 ≤ p) (h2 : 0 ≤ beg) (h3 : beg ≤ now) (h4 : now ≤ 1099511627776) (h5 : 0 ≤ d) (h6 : d ≤ 1024) :
    wrap64 (d + wrap64 (Int.tdiv (wrap64 (now - beg)) p)) = d + (now - beg) / p := by
  have hdv0 : 0 ≤ (now - beg) / p := Int.ediv_nonneg (by omega) (by omega)
  have hdv1 : (now - beg) / p ≤ now - beg := Int.ediv_le_self _ (by omega)
  have f1 : wrap64 (now - beg) = now - beg := wr (by omega)
  have f2 : Int.tdiv (now - beg) p = (now - beg) / p := Int.tdiv_eq_ediv_of_nonneg (by omega)
  have f3 : wrap64 ((now - beg) / p) = (now - beg) / p := wr (by omega)
  rw [f1, f2, f3, wr (by omega)]
theorem u8_bd {n : Int} (h : (Lit.int .u8 n).wf = true) : 0 ≤ n ∧ n ≤ 255 := by
  simp [Lit.wf, IntKind.min, IntKind.max, IntKind.signed, IntKind.bits] at h
  omega
/-! #### the queue -/
theorem insT_perm (l : List S64) (t : S64) : (insT l t).Perm (t :: l) := by
  unfold insT
  exact List.perm_middle.trans ((List.filter_append_perm _ l).cons t)
theorem tlt_or {a b : S64} (hne : a.f0 ≠ b.f0) (h : ¬ tlt a b) : tlt b a := by
  unfold tlt at *
  omega
theorem QV.insT {l : List S64} (h : QV l) {t : S64} (hn : ∀ x ∈ l, x.f0 ≠ t.f0) (h0 : 0 ≤ t.f1) (h1 : t.f1 ≤ 1099511627776) (hf : l.length < 1024) : QV (insT l t) ∧ (GT.insT l t).length = l.length + 1 := by
  have hp := insT_perm l t
  refine ⟨⟨by rw [hp.length_eq]; simp; omega, ?_, ?_, ?_⟩, by rw [hp.length_eq]; rfl⟩
  · rw [(hp.map S64.f0).nodup_iff, List.map_cons, List.nodup_cons]
    refine ⟨fun hm => ?_, h.ids⟩
    obtain ⟨x, hx, he⟩ := List.mem_map.1 hm
    exact hn x hx he
  · intro x hx
    rcases List.mem_cons.1 (hp.mem_iff.1 hx) with rfl | hx
    · exact ⟨h0, h1⟩
    · exact h.times x hx
  · unfold GT.insT
    rw [List.pairwise_append]
    refine ⟨h.order.filter _, List.pairwise_cons.2 ⟨fun y hy => ?_, h.order.filter _⟩, fun a ha b hb => ?_⟩
    · obtain ⟨hy1, hy2⟩ := List.mem_filter.1 hy
      exact tlt_or (hn y hy1) (by simpa using hy2)
    · obtain ⟨ha1, ha2⟩ := List.mem_filter.1 ha
      have hat : tlt a t := by simpa using ha2
      rcases List.mem_cons.1 hb with rfl | hb
      · exact hat
      · obtain ⟨hb1, hb2⟩ := List.mem_filter.1 hb
        exact hat.trans (tlt_or (hn b hb1) (by simpa using hb2))
theorem wr_small {n : Int} (h0 : 0 ≤ n) (h1 : n ≤ 1000000) : wrap64 n = n := wr ⟨by omega, by omega⟩
theorem wr_nat (i : Nat) (h : i ≤ 1000000) : wrap64 ((i : Int) + 1) = ((i + 1 : Nat) : Int) := by rw [wr (by omega)]; omega
set_option maxHeartbeats 400000 in
theorem set_loop {p d : Int} (at_ : List Int) (hu : ∀ x ∈ at_, (Lit.int .u16 x).wf = true) (hlen : at_.length ≤ 40) (K : Nat)
    (hfin : ∀ q : List S64, QV q → q.length = at_.length → ∀ k', K ≤ k' → ((overload_New.f (wrap64 p) (wrap64 d) 0).bind fun bt197 => (if bt197.2.2.2.2 = 0 then (crossbarlaw32_OverloadTimedAttempts.l1 k' p d at_ 0 0 0 (at_.length : Int) 0 q bt197.1 bt197.2.1 bt197.2.2.1 bt197.2.2.2.1) else (none))) = some true) :
    ∀ (r k i : Nat) (q : List S64), at_.length - i = r → i ≤ at_.length → QV q → q.length = i → (∀ x ∈ q, x.f0 < (i : Int)) → r + K + 1 ≤ k →
      crossbarlaw32_OverloadTimedAttempts.l0 k p d at_ at_ (at_.length : Int) (i : Int) q = some true := by
  intro r
  induction r with
  | zero =>
    intro k i q hr hi hq hql hids hk
    obtain ⟨k, rfl⟩ : ∃ m, k = m + 1 := ⟨k - 1, by omega⟩
    simp only [crossbarlaw32_OverloadTimedAttempts.l0]
    rw [if_neg (by omega)]
    exact hfin q hq (by omega) k (by omega)
  | succ r ih =>
    intro k i q hr hi hq hql hids hk
    obtain ⟨k, rfl⟩ : ∃ m, k = m + 1 := ⟨k - 1, by omega⟩
    have hil : i < at_.length := by omega
    have c1 : (i : Int) < (at_.length : Int) := by omega
    have c2 : (0 : Int) ≤ (i : Int) := by omega
    have o1 : at_.length - (i + 1) = r := by omega
    have o2 : r + K + 1 ≤ k := by omega
    have o3 : q.length < 1024 := by omega
    have o4 : ∀ y ∈ q, y.f0 ≠ (i : Int) := fun y hy => by have := hids y hy; omega
    have o5 : ∀ y ∈ q, y.f0 < ((i + 1 : Nat) : Int) := fun y hy => by have := hids y hy; omega
    have o6 : (i : Int) < ((i + 1 : Nat) : Int) := by omega
    have o7 : q.length + 1 = i + 1 := by omega
    have hw : wrap64 ((i : Int) + 1) = ((i + 1 : Nat) : Int) := wr_nat i (by omega)
    obtain ⟨x, hx⟩ : ∃ x, rd at_ (i : Int) = x := ⟨_, rfl⟩
    have hxm : x ∈ at_ := by
      rw [← hx]
      simp only [rd, Int.toNat_natCast, List.getD_eq_getElem?_getD, List.getElem?_eq_getElem hil]
      exact List.getElem_mem hil
    have hb := u16_bd (hu x hxm)
    have b2 : x ≤ 1099511627776 := by omega
    have e1 : wrap64 x = x := wr ⟨by omega, by omega⟩
    have hrest : q.filter (fun y => !(y.f0 == (i : Int))) = q := by
      rw [List.filter_eq_self]
      intro y hy
      simp [o4 y hy]
    have hins := hq.insT (t := ⟨(i : Int), x⟩) o4 hb.1 b2 o3
    have hS : timers_Set.f q (i : Int) x = some (GT.insT q ⟨(i : Int), x⟩, 0) := by
      unfold timers_Set.f
      rw [hrest, if_pos ⟨hq, hb.1, b2, o3⟩]
    simp only [crossbarlaw32_OverloadTimedAttempts.l0]
    rw [if_pos c1, if_pos c2, if_pos c1, hx, e1, hS]
    simp only [Option.bind_some, if_true]
    rw [hw]
    refine ih k (i + 1) _ o1 hil hins.1 (by rw [hins.2, o7]) (fun y hy => ?_) o2
    rcases List.mem_cons.1 ((insT_perm q _).mem_iff.1 hy) with rfl | hy
    · exact o6
    · exact o5 y hy
/-! #### the attempts at one time -/
structure IInv (now beg p d seen adm t l : Int) : Prop where
  vb : Vb t l p d
  ln : l ≤ now
  b0 : 0 ≤ beg
  bn : beg ≤ now
  a0 : 0 ≤ adm
  as_ : adm ≤ seen
  first : seen = 0 → adm = 0 ∧ beg = now
  pot : 0 < seen → pot adm t l p ≤ d * p - beg
  low : d ≤ t + adm
  low2 : seen ≤ adm ∨ d ≤ adm
theorem advT_ge {t l p d now : Int} (v : Valid t l p d now) : t ≤ advT t l p d now := by
  have n0 := v.n0
  have ⟨a1, a2, a3, a4, a5, a6, a7, a8, a9⟩ := v
  unfold advT
  split <;> omega
theorem vb_adv {t l p d now T L : Int} (vb : Vb t l p d) (hn : now ≤ 1099511627776) (hT0 : 0 ≤ T) (hTd : T ≤ d) (hL : l ≤ L) (hLn : L ≤ now) : Vb T L p d := by
  have ⟨q1, q2, q3, q4, q5, q6, q7, q8⟩ := vb
  exact ⟨q1, q2, q3, q4, hT0, hTd, by omega, by omega⟩
set_option maxHeartbeats 400000 in
theorem inner {p d : Int} (at_ : List Int) (rest : List S64) (n i now beg : Int) (m : Nat) (hm : m ≤ 40) (hm1 : 1 ≤ m) (hp : 1 ≤ p ∧ p ≤ 255) (hd : 1 ≤ d ∧ d ≤ 255) (hnow : 0 ≤ now ∧ now ≤ 1099511627776) (s0 : Nat) (hs0 : s0 + m ≤ 40) (K : Nat)
    (hnext : ∀ adm t l, IInv now beg p d ((s0 + m : Nat) : Int) adm t l → ∀ k', K ≤ k' → crossbarlaw32_OverloadTimedAttempts.l1 k' p d at_ beg ((s0 + m : Nat) : Int) adm n (wrap64 (i + 1)) rest t l p d = some true) :
    ∀ (r k j : Nat) (adm t l : Int), m - j = r → j ≤ m → IInv now beg p d ((s0 + j : Nat) : Int) adm t l → r + K + 1 ≤ k →
      crossbarlaw32_OverloadTimedAttempts.l2 k p d at_ beg ((s0 + j : Nat) : Int) adm now n i (m : Int) (j : Int) t l p d rest = some true := by
  intro r
  induction r with
  | zero =>
    intro k j adm t l hr hj hI hk
    obtain ⟨k, rfl⟩ : ∃ m, k = m + 1 := ⟨k - 1, by omega⟩
    have hjm : j = m := by omega
    subst hjm
    have c1 : ¬ (j : Int) < (j : Int) := by omega
    have c2 : ¬ p = 0 := by omega
    have o1 : K ≤ k := by omega
    have o2 : 0 < ((s0 + j : Nat) : Int) := by omega
    have d0 : 0 ≤ d := by omega
    have d1 : d ≤ 1024 := by omega
    have wp : wrap64 p = p := wr_small (by omega) (by omega)
    have wd : wrap64 d = d := wr_small d0 (Int.le_trans d1 (by decide))
    have hlim := lim_eq (d := d) hp.1 hI.b0 hI.bn hnow.2 d0 d1
    have ⟨q1, q2, q3, q4, q5, q6, q7, q8⟩ := hI.vb
    have hpb := pot_bound (now := now) hp.1 q5 hI.ln (hI.pot o2)
    simp only [crossbarlaw32_OverloadTimedAttempts.l2]
    rw [if_neg c1, wp, wd, hlim, if_neg c2, if_neg (Int.not_lt.mpr hpb)]
    exact hnext adm t l hI k o1
  | succ r ih =>
    intro k j adm t l hr hj hI hk
    obtain ⟨k, rfl⟩ : ∃ m, k = m + 1 := ⟨k - 1, by omega⟩
    have c1 : (j : Int) < (m : Int) := by omega
    have o1 : m - (j + 1) = r := by omega
    have o2 : j + 1 ≤ m := by omega
    have o3 : r + K + 1 ≤ k := by omega
    have o4 : ¬ ((s0 + (j + 1) : Nat) : Int) = 0 := by omega
    have o5 : ((s0 + (j + 1) : Nat) : Int) = ((s0 + j : Nat) : Int) + 1 := by omega
    have o6 : ¬ ((s0 + j : Nat) : Int) = 0 → 0 < ((s0 + j : Nat) : Int) := by omega
    have has := hI.as_; have ha0 := hI.a0; have hlow := hI.low; have hlow2 := hI.low2
    have p1 : s0 + j ≤ 1000000 := by omega
    have p2 : j ≤ 1000000 := by omega
    have p3 : 0 ≤ adm + 1 := by omega
    have p4 : adm + 1 ≤ 1000000 := by omega
    have w1 : wrap64 (((s0 + j : Nat) : Int) + 1) = ((s0 + (j + 1) : Nat) : Int) := wr_nat (s0 + j) p1
    have w2 : wrap64 ((j : Int) + 1) = ((j + 1 : Nat) : Int) := wr_nat j p2
    have w3 : wrap64 (adm + 1) = adm + 1 := wr_small p3 p4
    have vb := hI.vb
    have ⟨q1, q2, q3, q4, q5, q6, q7, q8⟩ := vb
    have ok : okNow t l p d now := ⟨vb, hI.ln, hnow.2⟩
    have v := ok.valid
    have ht := advT_bd v; have hl := advL_bd v; have hge := advT_ge v
    have hadm := admit_eq t l p d now false
    unfold admitF at hadm
    rw [if_pos ok] at hadm
    have hpot : pot adm (advT t l p d now) (advL t l p d now) p ≤ d * p - beg := by
      by_cases h0 : ((s0 + j : Nat) : Int) = 0
      · obtain ⟨ha, hbn⟩ := hI.first h0
        rw [ha, hbn]
        exact pot_first v
      · exact Int.le_trans (pot_adv v) (hI.pot (o6 h0))
    simp only [crossbarlaw32_OverloadTimedAttempts.l2]
    rw [if_pos c1, hadm]
    by_cases h0 : advT t l p d now = 0
    · rw [if_pos h0]
      simp only [Option.bind_some, if_true, Bool.false_eq_true, if_false]
      rw [w1, w2]
      rw [h0] at hpot hge
      refine ih k (j + 1) adm 0 (advL t l p d now) o1 o2 ?_ o3
      clear hadm w1 w2 w3 h0 hnext ih
      generalize advL t l p d now = L at *
      have vb' : Vb 0 L p d := vb_adv vb hnow.2 (Int.le_refl _) (by omega) hl.1 hl.2
      rw [o5]
      exact ⟨vb', hl.2, hI.b0, hI.bn, ha0, by omega, fun h => by omega, fun _ => hpot, by omega, by omega⟩
    · rw [if_neg h0]
      simp only [Option.bind_some, if_true]
      rw [w1, w2, w3]
      refine ih k (j + 1) (adm + 1) (advT t l p d now - 1) (advL t l p d now) o1 o2 ?_ o3
      clear hadm w1 w2 w3 hnext ih
      generalize advL t l p d now = L at *
      generalize advT t l p d now = T at *
      have vb' : Vb (T - 1) L p d := vb_adv vb hnow.2 (by omega) (by omega) hl.1 hl.2
      have hpot' : pot (adm + 1) (T - 1) L p ≤ d * p - beg := by
        unfold pot at hpot ⊢
        rw [Int.sub_mul, Int.one_mul, Int.add_mul, Int.one_mul]
        omega
      rw [o5]
      exact ⟨vb', hl.2, hI.b0, hI.bn, by omega, by omega, fun h => by omega, fun _ => hpot', by omega, by omega⟩
/-! #### the rounds over the queue -/
structure OInv (q : List S64) (beg p d seen adm t l : Int) : Prop where
  vb : Vb t l p d
  qt : ∀ y ∈ q, l ≤ y.f1 ∧ (0 < seen → beg ≤ y.f1)
  b0 : 0 ≤ beg
  a0 : 0 ≤ adm
  as_ : adm ≤ seen
  first : seen = 0 → adm = 0
  pot : 0 < seen → pot adm t l p ≤ d * p - beg
  low : d ≤ t + adm
  low2 : seen ≤ adm ∨ d ≤ adm
theorem last_ok {p d seen adm t l beg : Int} {q : List S64} (n : Int) (hd : wrap64 d = d) (h : OInv q beg p d seen adm t l) (hs : seen = n) : (if seen = n then some (decide (adm ≥ mn n (wrap64 d))) else none) = some true := by
  rw [if_pos hs, hd]
  have := h.low2
  congr 1
  apply decide_eq_true
  unfold mn
  split <;> omega
set_option maxHeartbeats 400000 in
theorem outer {p d : Int} (at_ : List Int) (hlen : at_.length ≤ 40) (hp : 1 ≤ p ∧ p ≤ 255) (hd : 1 ≤ d ∧ d ≤ 255) :
    ∀ (r k i seen : Nat) (q : List S64) (beg adm t l : Int), at_.length - i = r → i ≤ at_.length → QV q → q.length ≤ r → seen + q.length = at_.length → OInv q beg p d (seen : Int) adm t l → 50 * r + 10 ≤ k →
      crossbarlaw32_OverloadTimedAttempts.l1 k p d at_ beg (seen : Int) adm (at_.length : Int) (i : Int) q t l p d = some true := by
  intro r
  induction r with
  | zero =>
    intro k i seen q beg adm t l hr hi hq hql hsq hO hk
    obtain ⟨k, rfl⟩ : ∃ m, k = m + 1 := ⟨k - 1, by omega⟩
    simp only [crossbarlaw32_OverloadTimedAttempts.l1]
    rw [if_neg (by omega)]
    exact last_ok _ (wr_small (by omega) (by omega)) hO (by omega)
  | succ r ih =>
    intro k i seen q beg adm t l hr hi hq hql hsq hO hk
    obtain ⟨k, rfl⟩ : ∃ m, k = m + 3 := ⟨k - 3, by omega⟩
    simp only [crossbarlaw32_OverloadTimedAttempts.l1]
    rw [if_pos (by omega)]
    rcases q with _ | ⟨x, q⟩
    · have hN : timers_Next.f [] = some (0, false) := by simp [timers_Next.f, timers_Check.f, QV.nil]
      have hE : timers_Expire.f [] 0 = some ([], [], 0) := by
        unfold timers_Expire.f
        rw [if_pos ⟨QV.nil, by omega, by omega⟩]
        rfl
      rw [hN]
      simp only [Option.bind_some]
      rw [hE]
      simp only [Option.bind_some, Bool.false_eq_true, if_false]
      exact last_ok _ (wr_small (by omega) (by omega)) hO (by have h_ := hsq; simp only [List.length_nil] at h_; omega)
    · have hx := hq.times x List.mem_cons_self
      have hN : timers_Next.f (x :: q) = some (x.f1, true) := by
        have h0 : ¬ ((((x :: q).length : Nat) : Int) = 0) := by rw [List.length_cons]; omega
        simp only [timers_Next.f, timers_Check.f, if_pos hq, Option.bind_some, if_true]
        rw [if_neg h0, if_pos (by rw [List.length_cons]; omega)]
        simp [rd_T64]
      obtain ⟨rest, hrest⟩ : ∃ R, (x :: q).filter (fun y => !(decide (y.f1 ≤ x.f1))) = R := ⟨_, rfl⟩
      obtain ⟨ids, hids⟩ : ∃ I, ((x :: q).filter (fun y => decide (y.f1 ≤ x.f1))).map S64.f0 = I := ⟨_, rfl⟩
      have hE : timers_Expire.f (x :: q) x.f1 = some (rest, ids, 0) := by
        unfold timers_Expire.f
        rw [if_pos ⟨hq, hx.1, hx.2⟩, hrest, hids]
      have hqr : QV rest := hrest ▸ hq.filter _
      have hsum : ids.length + rest.length = (x :: q).length := by
        rw [← hids, ← hrest, List.length_map, ← List.length_append]
        exact (List.filter_append_perm _ (x :: q)).length_eq
      have hid1 : 1 ≤ ids.length := by
        rw [← hids, List.length_map, List.filter_cons, if_pos (by simp)]
        simp
      have hrm : ∀ y ∈ rest, y ∈ (x :: q) ∧ x.f1 ≤ y.f1 := by
        intro y hy
        rw [← hrest] at hy
        obtain ⟨h1, h2⟩ := List.mem_filter.1 hy
        have : ¬ y.f1 ≤ x.f1 := by simpa using h2
        exact ⟨h1, by omega⟩
      have hQ := hO.qt x List.mem_cons_self
      have hlen1 : (x :: q).length = q.length + 1 := rfl
      rw [hN]
      simp only [Option.bind_some]
      rw [hE]
      simp only [Option.bind_some, if_true]
      have hne : ((ids.length : Int) == 0) = false := beq_eq_false_iff_ne.mpr (by omega)
      rw [hne]
      simp only [crossbarlaw32_OverloadTimedAttempts.j3, Bool.false_eq_true, if_false]
      obtain ⟨beg', hbeg'⟩ : ∃ b, (if (seen : Int) = 0 then x.f1 else beg) = b := ⟨_, rfl⟩
      have hb1 : 0 ≤ beg' ∧ beg' ≤ x.f1 := by
        rw [← hbeg']
        split
        · exact ⟨hx.1, Int.le_refl _⟩
        · exact ⟨hO.b0, hQ.2 (by omega)⟩
      have hgo : crossbarlaw32_OverloadTimedAttempts.j4 (k + 1) p d at_ beg' (seen : Int) adm x.f1 ids (at_.length : Int) (i : Int) t l p d rest = some true := by
        simp only [crossbarlaw32_OverloadTimedAttempts.j4]
        have hI0 : IInv x.f1 beg' p d ((seen + 0 : Nat) : Int) adm t l := by
          refine ⟨hO.vb, hQ.1, hb1.1, hb1.2, hO.a0, by simpa using hO.as_, fun h => ?_, fun h => ?_, hO.low, by simpa using hO.low2⟩
          · have h' : (seen : Int) = 0 := by simpa using h
            exact ⟨hO.first h', by rw [← hbeg', if_pos h']⟩
          · have h' : ¬ (seen : Int) = 0 := by simp at h; omega
            rw [← hbeg', if_neg h']
            exact hO.pot (by omega)
        have := inner (p := p) (d := d) at_ rest (at_.length : Int) (i : Int) x.f1 beg' ids.length (by omega) hid1 hp hd hx seen (by omega) (50 * r + 10) (fun adm' t' l' hI k' hk' => by
          rw [wr_nat i (by omega)]
          refine ih k' (i + 1) (seen + ids.length) rest beg' adm' t' l' (by omega) (by omega) hqr (by omega) (by omega) ⟨hI.vb, fun y hy => ?_, hI.b0, hI.a0, hI.as_, fun h => (hI.first h).1, hI.pot, hI.low, hI.low2⟩ hk'
          have h1 := (hrm y hy).2
          have h2 := hI.ln
          exact ⟨by omega, fun _ => by omega⟩) ids.length k 0 adm t l (by omega) (by omega) hI0 (by omega)
        simpa using this
      by_cases hs : (seen : Int) = 0
      · rw [if_pos hs] at hbeg' ⊢
        rw [hbeg']
        rw [← hbeg'] at hgo ⊢
        exact hgo
      · rw [if_neg hs] at hbeg' ⊢
        rw [hbeg']
        exact hgo
set_option maxHeartbeats 400000 in
theorem pure_OverloadTimedAttempts : crossbarlaw32_OverloadTimedAttempts.Pure := by
  intro a0 a1 at_ w0 w1 _ _ hu
  have hp := u8_bd w0
  have hd := u8_bd w1
  refine ⟨4000 + 1, ?_⟩
  unfold crossbarlaw32_OverloadTimedAttempts.f
  rw [sane_k]
  simp only [Option.bind_some, if_true]
  by_cases hlen : (at_.length : Int) > 40
  · rw [if_pos hlen]
    simp [crossbarlaw32_OverloadTimedAttempts.j0]
  · rw [if_neg hlen]
    by_cases h0 : a0 = 0
    · rw [if_pos h0]
      simp [crossbarlaw32_OverloadTimedAttempts.j0]
    · rw [if_neg h0]
      by_cases h1 : a1 = 0
      · simp [crossbarlaw32_OverloadTimedAttempts.j0, h1]
      · have hb : (a1 == 0) = false := beq_eq_false_iff_ne.mpr h1
        rw [hb]
        simp only [crossbarlaw32_OverloadTimedAttempts.j0, Bool.false_eq_true, if_false]
        have vb : Vb a1 0 a0 a1 := ⟨by omega, by omega, by omega, by omega, by omega, by omega, by omega, by omega⟩
        have hN : overload_New.f (wrap64 a0) (wrap64 a1) 0 = some (a1, 0, a0, a1, 0) := by
          rw [wr_small (n := a0) (by omega) (by omega), wr_small (n := a1) (by omega) (by omega)]
          unfold overload_New.f
          rw [check_eq, if_pos vb]
          simp
        refine set_loop at_ hu (by omega) 3000 (fun q hq hql k' hk' => ?_) at_.length 4000 0 [] (by omega) (by omega) QV.nil rfl (fun x hx => by cases hx) (by omega)
        rw [hN]
        simp only [Option.bind_some, if_true]
        exact outer at_ (by omega) (by omega) (by omega) at_.length k' 0 0 q 0 0 a1 0 (by omega) (by omega) hq (by omega) (by omega)
          ⟨vb, fun y hy => ⟨(hq.times y hy).1, fun h => by omega⟩, by omega, by omega, by omega, fun _ => rfl, fun h => by omega, by omega, by omega⟩ (by omega)
end Go.Proofs.Ytpmkbpphlokbjaa.GT
