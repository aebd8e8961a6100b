import Derived.Test.YtpmkbpphlokbjaaGAx6
import Derived.Test.YtpmkbpphlokbjaaGAx6b
import Derived.Test.YtpmkbpphlokbjaaHA
set_option linter.unusedVariables false
set_option linter.unusedSimpArgs false
namespace Go.Proofs.Ytpmkbpphlokbjaa.GA
open Go.RowKit HA Go.Proofs.YtpmkbpphlokbjaaW.PrintWords
theorem sane_one : crossbarlaw32_sane.f 1 = some true := by kernel_rfl
theorem sane_k (k : Nat) : crossbarlaw32_sane.f (k + 1) = some true := at_rounds crossbarlaw32_sane.mono (by omega) sane_one

/-- what is lent: tokens already given count as much as tokens still there; the potential never grows -/
def pot (adm t l p : Int) : Int := adm * p + t * p - l

theorem pot_adv {adm t l p d now : Int} (v : Valid t l p d now) : pot adm (advT t l p d now) (advL t l p d now) p ≤ pot adm t l p := by
  have n0 := v.n0; have m1 := v.m1; have m0 := v.m0
  have ⟨a1, a2, a3, a4, a5, a6, a7, a8, a9⟩ := v
  unfold pot advT advL
  by_cases hlt : t + (now - l) / p < d
  · rw [if_pos hlt, if_pos hlt, Int.add_mul]; omega
  · rw [if_neg hlt, if_neg hlt]
    have : d * p ≤ (t + (now - l) / p) * p := Int.mul_le_mul_of_nonneg_right (by omega) (by omega)
    rw [Int.add_mul] at this
    omega
theorem pot_first {t l p d now : Int} (v : Valid t l p d now) : pot 0 (advT t l p d now) (advL t l p d now) p ≤ d * p - now := by
  have n0 := v.n0; have m1 := v.m1; have m0 := v.m0; have m2 := v.m2
  have ⟨a1, a2, a3, a4, a5, a6, a7, a8, a9⟩ := v
  unfold pot advT advL
  by_cases hlt : t + (now - l) / p < d
  · rw [if_pos hlt, if_pos hlt]
    have : (t + (now - l) / p + 1) * p ≤ d * p := Int.mul_le_mul_of_nonneg_right (by omega) (by omega)
    rw [Int.add_mul, Int.one_mul] at this
    omega
  · rw [if_neg hlt, if_neg hlt]
    omega
/-- the bound out of the potential -/
theorem pot_bound {adm t l p d now beg : Int} (hp : 1 ≤ p) (ht : 0 ≤ t) (hl : l ≤ now) (h : pot adm t l p ≤ d * p - beg) : adm ≤ d + (now - beg) / p := by
  have h1 : 0 ≤ t * p := Int.mul_nonneg ht (by omega)
  unfold pot at h
  have h2 : (adm - d) * p ≤ now - beg := by rw [Int.sub_mul]; omega
  have h3 : adm - d ≤ (now - beg) / p := (Int.le_ediv_iff_mul_le (by omega)).2 h2
  omega
structure Inv (xs : List S38) (i : Nat) (now beg adm t l p d : Int) : Prop where
  vb : Vb t l p d
  ln : l ≤ now
  nb : now ≤ 549755813888 + 65535 * (i : Int)
  b0 : 0 ≤ beg
  bn : beg ≤ now
  a0 : 0 ≤ adm
  ai : adm ≤ i
  first : i = 0 → adm = 0
  pot : 0 < i → pot adm t l p ≤ d * p - beg

theorem u16_bd {n : Int} (h : (Lit.int .u16 n).wf = true) : 0 ≤ n ∧ n ≤ 65535 := by
  simp [Lit.wf, IntKind.min, IntKind.max, IntKind.signed, IntKind.bits] at h
  omega
/-- the bound as the program reckons it -/
theorem lim_eq {d p now beg : Int} (h1 : 1 ≤ p) (h2 : 0 ≤ beg) (h3 : beg ≤ now) (h4 : now ≤ 1099511627776) (h5 : 0 ≤ d) (h6 : d ≤ 1024) :
    wrap64 (d + wrap64 (Int.tdiv (wrap64 (now - beg)) p)) = d + (now - beg) / p := by
  have hdv0 : 0 ≤ (now - beg) / p := Int.ediv_nonneg (by omega) (by omega)
  have hdv1 : (now - beg) / p ≤ now - beg := Int.ediv_le_self _ (by omega)
  have f1 : wrap64 (now - beg) = now - beg := wr (by omega)
  have f2 : Int.tdiv (now - beg) p = (now - beg) / p := Int.tdiv_eq_ediv_of_nonneg (by omega)
  have f3 : wrap64 ((now - beg) / p) = (now - beg) / p := wr (by omega)
  rw [f1, f2, f3, wr (by omega)]
theorem next_inv {xs : List S38} {i : Nat} {now beg adm t l p d now' beg' L a' t' : Int} (hi : i < 200) (hv : Inv xs i now beg adm t l p d) (h1 : now ≤ now') (h2 : now' ≤ now + 65535) (hb0 : 0 ≤ beg') (hbn : beg' ≤ now')
    (hL : l ≤ L) (hLn : L ≤ now') (g1 : 0 ≤ t') (g2 : t' ≤ d) (g3 : 0 ≤ a') (g4 : a' ≤ (i : Int) + 1) (g5 : pot a' t' L p ≤ d * p - beg') : Inv xs (i + 1) now' beg' a' t' L p d := by
  obtain ⟨⟨q1, q2, q3, q4, q5, q6, q7, q8⟩, h2, h3, h4, h5, h6, h7, h8, h9⟩ := hv
  clear h8 h9
  exact ⟨⟨q1, q2, q3, q4, g1, g2, by omega, by omega⟩, hLn, by omega, hb0, hbn, g3, by omega, fun h => by omega, fun _ => g5⟩
theorem round_pot {xs : List S38} {i : Nat} {now beg adm t l p d f0 : Int} (hv : Inv xs i now beg adm t l p d) (v : Valid t l p d (now + f0)) (h0 : 0 ≤ f0) :
    ∃ beg', (if (i : Int) = 0 then now + f0 else beg) = beg' ∧ 0 ≤ beg' ∧ beg' ≤ now + f0 ∧ pot adm (advT t l p d (now + f0)) (advL t l p d (now + f0)) p ≤ d * p - beg' := by
  obtain ⟨⟨q1, q2, q3, q4, q5, q6, q7, q8⟩, h2, h3, h4, h5, h6, h7, h8, h9⟩ := hv
  by_cases hi0 : i = 0
  · subst hi0
    refine ⟨now + f0, by simp, by omega, by omega, ?_⟩
    rw [h8 rfl]
    exact pot_first v
  · refine ⟨beg, by rw [if_neg (by omega)], h4, by omega, ?_⟩
    exact Int.le_trans (pot_adv v) (h9 (by omega))

/-- the rounds behind a call of Admit -/
theorem tail_round (k : Nat) (now beg adm : Int) (xs : List S38) (n i : Int) (t l p d : Int) (em : Bool) (T L a' : Int) (ok : Bool) (f0 : Int)
    (hp : 1 ≤ p) (b0 : 0 ≤ beg) (bn : beg ≤ now) (nm : now ≤ 1099511627776) (d0 : 0 ≤ d) (d1 : d ≤ 1024) (ha0 : 0 ≤ adm) (ha1 : adm ≤ 200) (hi0 : 0 ≤ i) (hi1 : i ≤ 200)
    (hem : em = true → ok = true) (had : a' = if (ok && !em) = true then adm + 1 else adm) (hchk : overload_Check.f T L p d = some 0)
    (hadm : overload_Admit.f t l p d now em = some (T, L, p, d, ok, 0)) (hle : ¬ (a' > d + (now - beg) / p)) (hrest : crossbarlaw32_OverloadBoundsRate.l0 k now beg a' xs n (i + 1) T L p d = some true) :
    crossbarlaw32_OverloadBoundsRate.j2 (k + 1 + 1 + 1) now beg adm xs n i t l p d f0 em = some true := by
  have hl := lim_eq (d := d) hp b0 bn nm d0 d1
  have f5 : wrap64 (adm + 1) = adm + 1 := wr (by omega)
  have f6 : wrap64 (i + 1) = i + 1 := wr (by omega)
  have hp0 : ¬ p = 0 := by omega
  rw [crossbarlaw32_OverloadBoundsRate.j2, hadm]
  simp only [Option.bind_some, if_pos, hchk, bne_self_eq_false]
  cases em with
  | true =>
    obtain rfl := hem rfl
    simp only [Bool.not_true, Bool.and_false, Bool.false_eq_true, if_false] at had
    subst had
    simp only [if_pos, if_true, crossbarlaw32_OverloadBoundsRate.j3, crossbarlaw32_OverloadBoundsRate.j4, Bool.not_true, Bool.false_eq_true, if_false, hl, f6, if_neg hp0, if_neg hle]
    exact hrest
  | false =>
    cases ok with
    | true =>
      simp only [Bool.not_false, Bool.and_true, if_true] at had
      subst had
      simp only [if_pos, if_true, crossbarlaw32_OverloadBoundsRate.j3, crossbarlaw32_OverloadBoundsRate.j4, Bool.not_false, Bool.false_eq_true, if_false, hl, f5, f6, if_neg hp0, if_neg hle]
      exact hrest
    | false =>
      simp only [Bool.false_and, Bool.false_eq_true, if_false] at had
      subst had
      simp only [if_pos, if_true, crossbarlaw32_OverloadBoundsRate.j3, crossbarlaw32_OverloadBoundsRate.j4, Bool.false_eq_true, if_false, hl, f6, if_neg hp0, if_neg hle]
      exact hrest

theorem bounds_loop (xs : List S38) (hlen : xs.length ≤ 200) (hg : ∀ x ∈ xs, (Lit.int .u16 x.f0).wf = true) :
    ∀ (rem k i : Nat) (now beg adm t l p d : Int), xs.length - i = rem → i ≤ xs.length → 4 * rem + 1 ≤ k → Inv xs i now beg adm t l p d →
      crossbarlaw32_OverloadBoundsRate.l0 k now beg adm xs (xs.length : Int) (i : Int) t l p d = some true := by
  intro rem
  induction rem with
  | zero =>
    intro k i now beg adm t l p d hr hi hk hv
    obtain ⟨k, rfl⟩ : ∃ m, k = m + 1 := ⟨k - 1, by omega⟩
    simp only [crossbarlaw32_OverloadBoundsRate.l0]
    rw [if_neg (by omega)]
  | succ rem ih =>
    intro k i now beg adm t l p d hr hi hk hv
    obtain ⟨k, rfl⟩ : ∃ m, k = m + 1 + 1 + 1 + 1 := ⟨k - 4, by omega⟩
    have hil : i < xs.length := by omega
    obtain ⟨x, hx⟩ : ∃ x, rd_T38 xs (i : Int) = x := ⟨_, rfl⟩
    have hxm : x ∈ xs := by
      rw [← hx]
      unfold rd_T38
      rw [Int.toNat_natCast, List.getD_eq_getElem?_getD, List.getElem?_eq_getElem hil]
      exact List.getElem_mem hil
    have hb0 := u16_bd (hg x hxm)
    have vb := hv.vb; have ln := hv.ln; have nb := hv.nb; have b0 := hv.b0; have bn := hv.bn; have a0 := hv.a0; have ai := hv.ai
    have ⟨q1, q2, q3, q4, q5, q6, q7, q8⟩ := vb
    have e1 : wrap64 x.f0 = x.f0 := wr (by omega)
    have e2 : wrap64 (now + x.f0) = now + x.f0 := wr (by omega)
    have ok : okNow t l p d (now + x.f0) := ⟨vb, by omega, by omega⟩
    have v := ok.valid
    have ht := advT_bd v; have hl := advL_bd v
    obtain ⟨beg', hbeg, hp1, hp2, hp3⟩ := round_pot hv v hb0.1
    have hstep : crossbarlaw32_OverloadBoundsRate.l0 (k + 1 + 1 + 1 + 1) now beg adm xs (xs.length : Int) (i : Int) t l p d =
        crossbarlaw32_OverloadBoundsRate.j2 (k + 1 + 1 + 1) (now + x.f0) beg' adm xs (xs.length : Int) (i : Int) t l p d x.f0 x.f1 := by
      rw [crossbarlaw32_OverloadBoundsRate.l0, hx, e1, e2, if_pos (by omega), if_pos (by omega), if_pos (by omega), ← hbeg]
      split <;> rfl
    rw [hstep]
    clear hstep hbeg
    have hadm := admit_eq t l p d (now + x.f0) x.f1
    unfold admitF at hadm
    rw [if_pos ok] at hadm
    have hnm := ok.2.2
    have hcast : ((i : Int) + 1) = ((i + 1 : Nat) : Int) := by omega
    by_cases h0 : advT t l p d (now + x.f0) = 0
    · rw [if_pos h0] at hadm
      rw [h0] at hp3
      have hinv := next_inv (a' := adm) (t' := 0) (by omega) hv (show now ≤ now + x.f0 by omega) (by omega) hp1 hp2 hl.1 hl.2 (by omega) (by omega) a0 (by omega) hp3
      refine tail_round k _ beg' adm xs _ _ t l p d x.f1 0 _ adm x.f1 x.f0 q1 hp1 hp2 hnm (by omega) q4 a0 (by omega) (by omega) (by omega) (fun h => h) (by cases x.f1 <;> rfl) (by rw [check_eq, if_pos hinv.vb]) hadm ?_ ?_
      · have := pot_bound q1 (by omega) hl.2 hp3; omega
      · rw [hcast]; exact ih k (i + 1) _ _ _ _ _ _ _ (by omega) (by omega) (by omega) hinv
    · rw [if_neg h0] at hadm
      have hpe : pot (if (true && !x.f1) = true then adm + 1 else adm) (advT t l p d (now + x.f0) - 1) (advL t l p d (now + x.f0)) p ≤ d * p - beg' := by
        unfold pot at hp3 ⊢
        split <;> rw [Int.sub_mul, Int.one_mul]
        · rw [Int.add_mul, Int.one_mul]; omega
        · omega
      have ha : 0 ≤ (if (true && !x.f1) = true then adm + 1 else adm) ∧ (if (true && !x.f1) = true then adm + 1 else adm) ≤ (i : Int) + 1 := by split <;> omega
      have hinv := next_inv (by omega) hv (show now ≤ now + x.f0 by omega) (by omega) hp1 hp2 hl.1 hl.2 (by omega) (by omega) ha.1 ha.2 hpe
      refine tail_round k _ beg' adm xs _ _ t l p d x.f1 _ _ _ true x.f0 q1 hp1 hp2 hnm (by omega) q4 a0 (by omega) (by omega) (by omega) (fun h => rfl) rfl (by rw [check_eq, if_pos hinv.vb]) hadm ?_ ?_
      · have := pot_bound q1 (show 0 ≤ advT t l p d (now + x.f0) - 1 by omega) hl.2 hpe; omega
      · rw [hcast]; exact ih k (i + 1) _ _ _ _ _ _ _ (by omega) (by omega) (by omega) hinv

theorem pure_OverloadBoundsRate (t l p d : Int) (xs : List S38) (hg : ∀ x ∈ xs, (Lit.int .u16 x.f0).wf = true) : ∃ k, crossbarlaw32_OverloadBoundsRate.f k t l p d xs = some true := by
  refine ⟨4 * xs.length + 1 + 1, ?_⟩
  unfold crossbarlaw32_OverloadBoundsRate.f
  rw [sane_k, check_eq]
  simp only [Option.bind_some, if_pos]
  by_cases h1 : (xs.length : Int) > 200
  · rw [if_pos h1]; simp [crossbarlaw32_OverloadBoundsRate.j0]
  · rw [if_neg h1]
    by_cases hv : Vb t l p d
    · rw [if_pos hv]
      simp only [if_pos]
      by_cases h2 : l > 549755813888
      · simp [crossbarlaw32_OverloadBoundsRate.j0, h2]
      · rw [decide_eq_false h2]
        have ⟨q1, q2, q3, q4, q5, q6, q7, q8⟩ := hv
        simp only [crossbarlaw32_OverloadBoundsRate.j0, Bool.false_eq_true, if_false]
        exact bounds_loop xs (by omega) hg xs.length _ 0 l 0 0 t l p d (by omega) (by omega) (by omega)
          ⟨hv, by omega, by omega, by omega, by omega, by omega, by omega, fun _ => rfl, fun h => by omega⟩
    · rw [if_neg hv]
      simp [crossbarlaw32_OverloadBoundsRate.j0]
end Go.Proofs.Ytpmkbpphlokbjaa.GA
