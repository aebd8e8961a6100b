/- The trie as a row of numbers, in plain Lean: eleven to a node, ten kids and a value. What a trie made by New and Put holds. -/
import Derived.Test.YtegblcdnmcnngaaDoorTA
set_option linter.unusedVariables false
set_option linter.unusedSimpArgs false
namespace Go.Proofs.YtegblcdnmcnngaaDoor.TB
open Go.RowKit
theorem snoc_ind {α : Type} {P : List α → Prop} (h0 : P []) (h1 : ∀ l a, P l → P (l ++ [a])) (l : List α) : P l := by
  have : ∀ m : List α, P m.reverse := by
    intro m
    induction m with
    | nil => exact h0
    | cons a m ih => rw [List.reverse_cons]; exact h1 _ _ ih
  have h := this l.reverse
  rwa [List.reverse_reverse] at h
def zeros (k : Nat) : List Int := List.replicate k 0
def kidOf (xs : List Int) (i d : Nat) : Int := (xs[i * 11 + d]?).getD 0
def valOf (xs : List Int) (i : Nat) : Int := (xs[i * 11 + 10]?).getD 0
/-- n nodes; each kid is a node -/
structure OkT (xs : List Int) (n : Nat) : Prop where
  len : xs.length = n * 11
  pos : 0 < n
  kids : ∀ i d, i < n → d < 10 → ∃ k : Nat, k < n ∧ xs[i * 11 + d]? = some (k : Int)
def kd (xs : List Int) (i d : Nat) : Nat := (kidOf xs i d).toNat
theorem OkT.kd {xs : List Int} {n i d : Nat} (h : OkT xs n) (hi : i < n) (hd : d < 10) : kd xs i d < n ∧ xs[i * 11 + d]? = some ((kd xs i d : Nat) : Int) := by
  obtain ⟨k, hk, hx⟩ := h.kids i d hi hd
  have : TB.kd xs i d = k := by simp [TB.kd, kidOf, hx]
  rw [this]
  exact ⟨hk, hx⟩
/-- one digit on the way of an update -/
def pstep (p : List Int × Nat) (d : Nat) : List Int × Nat :=
  if kd p.1 p.2 d = 0 then (p.1.set (p.2 * 11 + d) ((p.1.length / 11 : Nat) : Int) ++ zeros 11, p.1.length / 11) else (p.1, kd p.1 p.2 d)
def pfold (xs : List Int) (ds : List Nat) : List Int × Nat := ds.foldl pstep (xs, 0)
def putT (xs : List Int) (ds : List Nat) (v : Int) : List Int := (pfold xs ds).1.set ((pfold xs ds).2 * 11 + 10) v
theorem pfold_snoc (xs : List Int) (ds : List Nat) (d : Nat) : pfold xs (ds ++ [d]) = pstep (pfold xs ds) d := by simp [pfold]
theorem zeros_at (k j : Nat) (h : j < k) : (zeros k)[j]? = some 0 := by simp [zeros, h]
theorem OkT.grow {xs : List Int} {n at' d : Nat} (h : OkT xs n) (ha : at' < n) (hd : d < 10) : OkT (xs.set (at' * 11 + d) (n : Int) ++ zeros 11) (n + 1) := by
  have hl := h.len
  refine ⟨by simp [zeros]; omega, by omega, fun i e hi he => ?_⟩
  by_cases hin : i < n
  · rw [List.getElem?_append_left (by rw [List.length_set]; omega)]
    by_cases hc : i * 11 + e = at' * 11 + d
    · have hi2 : i = at' := by omega
      have he2 : e = d := by omega
      subst hi2; subst he2
      exact ⟨n, by omega, by rw [List.getElem?_set_self (by omega)]⟩
    · obtain ⟨k, hk, hx⟩ := h.kids i e hin he
      exact ⟨k, by omega, by rw [List.getElem?_set_ne (by omega)]; exact hx⟩
  · refine ⟨0, by omega, ?_⟩
    rw [List.getElem?_append_right (by rw [List.length_set]; omega), List.length_set, zeros_at 11 _ (by omega)]
    rfl
theorem OkT.value {xs : List Int} {n i : Nat} (h : OkT xs n) (hi : i < n) (v : Int) : OkT (xs.set (i * 11 + 10) v) n := by
  refine ⟨by rw [List.length_set]; exact h.len, h.pos, fun j d hj hd => ?_⟩
  obtain ⟨k, hk, hx⟩ := h.kids j d hj hd
  exact ⟨k, hk, by rw [List.getElem?_set_ne (by omega)]; exact hx⟩
def dg (b : UInt8) : Nat := b.toNat - 48
def dgs (s : ByteArray) : List Nat := s.data.toList.map dg
theorem dgs_lt {s : ByteArray} (h : Digs s) : ∀ d ∈ dgs s, d < 10 := by
  intro d hd
  simp only [dgs, List.mem_map] at hd
  obtain ⟨b, hb, rfl⟩ := hd
  have := h b hb
  simp only [dg]; omega
theorem dgs_len (s : ByteArray) : (dgs s).length = s.size := by simp [dgs]
theorem okT_new : OkT (zeros 11) 1 := ⟨rfl, by omega, fun i d hi hd => ⟨0, by omega, zeros_at 11 _ (by omega)⟩⟩
theorem OkT.uniq {xs : List Int} {n m : Nat} (h : OkT xs n) (k : OkT xs m) : n = m := by
  have := h.len; have := k.len; omega
/-- a tree of nodes: P tells the digits on the way to a node -/
structure Tree (xs : List Int) (n : Nat) (P : Nat → List Nat) : Prop where
  ok : OkT xs n
  root : P 0 = []
  up : ∀ k, 0 < k → k < n → ∃ i d, i < k ∧ d < 10 ∧ kd xs i d = k ∧ P k = P i ++ [d]
  down : ∀ i d, i < n → d < 10 → kd xs i d ≠ 0 → P (kd xs i d) = P i ++ [d] ∧ i < kd xs i d
  inj : ∀ i j, i < n → j < n → P i = P j → i = j
/-- values of nodes lie in a range -/
def Vb (xs : List Int) (n : Nat) : Prop := ∀ i, i < n → 0 ≤ valOf xs i ∧ valOf xs i ≤ 1099511627776
theorem kd_set {xs : List Int} {i d j : Nat} {v : Int} (h : i * 11 + d ≠ j) : kd (xs.set j v) i d = kd xs i d := by
  unfold kd kidOf
  rw [List.getElem?_set_ne (by omega)]
theorem kd_app {xs ys : List Int} {i d : Nat} (h : i * 11 + d < xs.length) : kd (xs ++ ys) i d = kd xs i d := by
  unfold kd kidOf
  rw [List.getElem?_append_left h]
theorem val_set {xs : List Int} {i j : Nat} {v : Int} (h : i * 11 + 10 ≠ j) : valOf (xs.set j v) i = valOf xs i := by
  unfold valOf
  rw [List.getElem?_set_ne (by omega)]
theorem val_app {xs ys : List Int} {i : Nat} (h : i * 11 + 10 < xs.length) : valOf (xs ++ ys) i = valOf xs i := by
  unfold valOf
  rw [List.getElem?_append_left h]
/-- a new node -/
theorem Tree.grow {xs : List Int} {n at' d : Nat} {P : Nat → List Nat} (h : Tree xs n P) (ha : at' < n) (hd : d < 10) (h0 : kd xs at' d = 0) :
    Tree (xs.set (at' * 11 + d) (n : Int) ++ zeros 11) (n + 1) (fun k => if k = n then P at' ++ [d] else P k) := by
  have hl := h.ok.len
  have kn : kd (xs.set (at' * 11 + d) (n : Int) ++ zeros 11) at' d = n := by
    rw [kd_app (by rw [List.length_set]; omega)]
    unfold kd kidOf
    rw [List.getElem?_set_self (by omega)]
    simp
  have ko : ∀ i e, i < n → e < 10 → ¬ (i = at' ∧ e = d) → kd (xs.set (at' * 11 + d) (n : Int) ++ zeros 11) i e = kd xs i e := by
    intro i e hi he hne
    rw [kd_app (by rw [List.length_set]; omega), kd_set (by omega)]
  have kz : ∀ e, e < 10 → kd (xs.set (at' * 11 + d) (n : Int) ++ zeros 11) n e = 0 := by
    intro e he
    unfold kd kidOf
    rw [List.getElem?_append_right (by rw [List.length_set]; omega), List.length_set, zeros_at 11 _ (by omega)]
    rfl
  refine ⟨h.ok.grow ha hd, ?_, ?_, ?_, ?_⟩
  · rw [if_neg (by have := h.ok.pos; omega)]; exact h.root
  · intro k hk hkn
    by_cases e : k = n
    · subst e
      exact ⟨at', d, ha, hd, kn, by rw [if_pos rfl, if_neg (by omega)]⟩
    · obtain ⟨i, f, hi, hf, hkd, hp⟩ := h.up k hk (by omega)
      refine ⟨i, f, hi, hf, ?_, by rw [if_neg e, if_neg (by omega)]; exact hp⟩
      rw [ko i f (by omega) hf (fun hh => by rw [hh.1, hh.2, h0] at hkd; omega)]
      exact hkd
  · intro i e hi he hne
    by_cases hin : i = n
    · subst hin; exact absurd (kz e he) hne
    · by_cases hc : i = at' ∧ e = d
      · obtain ⟨rfl, rfl⟩ := hc
        rw [kn]
        exact ⟨by rw [if_pos rfl, if_neg (by omega)], by omega⟩
      · rw [ko i e (by omega) he hc] at hne ⊢
        obtain ⟨h1, h2⟩ := h.down i e (by omega) he hne
        have := (h.ok.kd (show i < n by omega) he).1
        exact ⟨by rw [if_neg (by omega), if_neg (by omega)]; exact h1, h2⟩
  · have hnew : ∀ i, i < n → P i ≠ P at' ++ [d] := by
      intro i hi hp
      by_cases hi0 : i = 0
      · subst hi0; rw [h.root] at hp; simp at hp
      · obtain ⟨q, f, hq, hf, hkd, hpp⟩ := h.up i (by omega) hi
        rw [hpp] at hp
        obtain ⟨h1, h2⟩ := List.append_inj' hp rfl
        have := h.inj q at' (by omega) ha h1
        simp only [List.cons.injEq, and_true] at h2
        subst this; subst h2
        omega
    intro i j hi hj hp
    by_cases e1 : i = n <;> by_cases e2 : j = n
    · omega
    · simp only [if_pos e1, if_neg e2] at hp
      exact absurd hp.symm (hnew j (by omega))
    · simp only [if_neg e1, if_pos e2] at hp
      exact absurd hp (hnew i (by omega))
    · simp only [if_neg e1, if_neg e2] at hp
      exact h.inj i j (by omega) (by omega) hp
theorem Tree.value {xs : List Int} {n i : Nat} {P : Nat → List Nat} (h : Tree xs n P) (hi : i < n) (v : Int) : Tree (xs.set (i * 11 + 10) v) n P := by
  have hk : ∀ j d, d < 10 → kd (xs.set (i * 11 + 10) v) j d = kd xs j d := fun j d hd => kd_set (by omega)
  refine ⟨h.ok.value hi v, h.root, ?_, ?_, h.inj⟩
  · intro k h0 hkn
    obtain ⟨j, d, hj, hd, hkd, hp⟩ := h.up k h0 hkn
    exact ⟨j, d, hj, hd, by rw [hk j d hd]; exact hkd, hp⟩
  · intro j d hj hd hne
    rw [hk j d hd] at hne ⊢
    exact h.down j d hj hd hne
theorem tree_new : Tree (zeros 11) 1 (fun _ => []) := by
  refine ⟨okT_new, rfl, fun k h0 h1 => by omega, fun i d hi hd hne => ?_, fun i j hi hj _ => by omega⟩
  exfalso; apply hne
  unfold kd kidOf
  rw [zeros_at 11 _ (by omega)]; rfl
/-- what the trie holds at a row of digits -/
def look (xs : List Int) (n : Nat) (P : Nat → List Nat) (es : List Nat) (v : Int) : Prop := (∃ b, b < n ∧ P b = es ∧ valOf xs b = v) ∨ ((∀ b, b < n → P b ≠ es) ∧ v = 0)
/-- the fold of Put's way -/
theorem fold_good {xs : List Int} {n : Nat} {P : Nat → List Nat} (h : Tree xs n P) (hlen : ∀ k, k < n → (P k).length ≤ 15) : ∀ ds : List Nat, (∀ d ∈ ds, d < 10) → ds.length ≤ 15 →
    ∃ m P', Tree (pfold xs ds).1 m P' ∧ (pfold xs ds).2 < m ∧ P' (pfold xs ds).2 = ds ∧ n ≤ m ∧ m ≤ n + ds.length ∧ (∀ k, k < m → (P' k).length ≤ 15) ∧ (∀ k, k < n → P' k = P k ∧ valOf (pfold xs ds).1 k = valOf xs k) ∧ ∀ k, n ≤ k → k < m → valOf (pfold xs ds).1 k = 0 := by
  refine snoc_ind (P := fun ds => (∀ d ∈ ds, d < 10) → ds.length ≤ 15 → ∃ m P', Tree (pfold xs ds).1 m P' ∧ (pfold xs ds).2 < m ∧ P' (pfold xs ds).2 = ds ∧ n ≤ m ∧ m ≤ n + ds.length ∧ (∀ k, k < m → (P' k).length ≤ 15) ∧ (∀ k, k < n → P' k = P k ∧ valOf (pfold xs ds).1 k = valOf xs k) ∧ ∀ k, n ≤ k → k < m → valOf (pfold xs ds).1 k = 0) ?_ ?_
  · intro _ _
    exact ⟨n, P, h, h.ok.pos, h.root, Nat.le_refl _, by simp, hlen, fun k hk => ⟨rfl, rfl⟩, fun k h1 h2 => by omega⟩
  · intro ds d ih hd hl
    have hdd : d < 10 := hd d (by simp)
    obtain ⟨m, P', hT, ha, hp, hnm, hm, hL, hold, hnew⟩ := ih (fun e he => hd e (by simp [he])) (by simp at hl; omega)
    rw [pfold_snoc]
    generalize pfold xs ds = q at hT ha hp hold hnew ⊢
    obtain ⟨ys, at'⟩ := q
    simp only at hT ha hp hold hnew
    have hyl := hT.ok.len
    by_cases h0 : kd ys at' d = 0
    · have hps : pstep (ys, at') d = (ys.set (at' * 11 + d) (m : Int) ++ zeros 11, m) := by
        unfold pstep
        rw [if_pos h0]
        have : ys.length / 11 = m := by rw [hyl]; omega
        simp only [this]
      rw [hps]
      refine ⟨m + 1, _, hT.grow ha hdd h0, by simp, by simp [hp], by omega, by simp; omega, ?_, ?_, ?_⟩
      · intro k hk
        by_cases e : k = m
        · simp only [if_pos e]; rw [hp]; exact hl
        · simp only [if_neg e]; exact hL k (by omega)
      · intro k hk
        refine ⟨by simp only [if_neg (show k ≠ m by omega)]; exact (hold k hk).1, ?_⟩
        rw [val_app (by rw [List.length_set]; omega), val_set (by omega)]
        exact (hold k hk).2
      · intro k h1 h2
        by_cases e : k = m
        · subst e
          unfold valOf
          rw [List.getElem?_append_right (by rw [List.length_set]; omega), List.length_set, zeros_at 11 _ (by omega)]
          rfl
        · rw [val_app (by rw [List.length_set]; omega), val_set (by omega)]
          exact hnew k h1 (by omega)
    · have hps : pstep (ys, at') d = (ys, kd ys at' d) := by
        unfold pstep
        rw [if_neg h0]
      rw [hps]
      obtain ⟨h1, h2⟩ := hT.down at' d ha hdd h0
      exact ⟨m, P', hT, (hT.ok.kd ha hdd).1, by rw [h1, hp], hnm, by simp; omega, hL, hold, hnew⟩
/-- what Put makes of a trie -/
theorem put_good {xs : List Int} {n : Nat} {P : Nat → List Nat} (h : Tree xs n P) (hlen : ∀ k, k < n → (P k).length ≤ 15) (hV : Vb xs n) (ds : List Nat) (hd : ∀ d ∈ ds, d < 10) (hl : ds.length ≤ 15) (v : Int) (hv : 0 ≤ v) (hv2 : v ≤ 1099511627776) :
    ∃ m P', Tree (putT xs ds v) m P' ∧ (∀ k, k < m → (P' k).length ≤ 15) ∧ Vb (putT xs ds v) m ∧ n ≤ m ∧ m ≤ n + ds.length ∧
      ∀ es u, look xs n P es u → look (putT xs ds v) m P' es (if es = ds then v else u) := by
  obtain ⟨m, P', hT, ha, hp, hnm, hm, hL, hold, hnew⟩ := fold_good h hlen ds hd hl
  unfold putT
  generalize pfold xs ds = q at hT ha hp hold hnew ⊢
  obtain ⟨ys, at'⟩ := q
  simp only at hT ha hp hold hnew ⊢
  have hyl := hT.ok.len
  have va : valOf (ys.set (at' * 11 + 10) v) at' = v := by
    unfold valOf
    rw [List.getElem?_set_self (by omega)]
    rfl
  have vo : ∀ b, b ≠ at' → valOf (ys.set (at' * 11 + 10) v) b = valOf ys b := fun b hb => val_set (by omega)
  refine ⟨m, P', hT.value ha v, hL, ?_, hnm, hm, ?_⟩
  · intro i hi
    by_cases e : i = at'
    · subst e; rw [va]; exact ⟨hv, hv2⟩
    · rw [vo i e]
      by_cases hin : i < n
      · rw [(hold i hin).2]; exact hV i hin
      · rw [hnew i (by omega) hi]; exact ⟨by omega, by omega⟩
  · intro es u hu
    by_cases he : es = ds
    · rw [if_pos he]
      exact .inl ⟨at', ha, by rw [hp, he], va⟩
    · rw [if_neg he]
      rcases hu with ⟨b, hb, hpb, hvb⟩ | ⟨hno, rfl⟩
      · have hne : b ≠ at' := by
          intro e; subst e
          apply he
          rw [← hp, (hold b hb).1, hpb]
        exact .inl ⟨b, by omega, by rw [(hold b hb).1, hpb], by rw [vo b hne, (hold b hb).2, hvb]⟩
      · by_cases hex : ∃ b, b < m ∧ P' b = es
        · obtain ⟨b, hb, hpb⟩ := hex
          have hbn : n ≤ b := by
            rcases Nat.lt_or_ge b n with h1 | h1
            · exact absurd ((hold b h1).1.symm.trans hpb) (hno b h1)
            · exact h1
          have hne : b ≠ at' := by
            intro e; subst e
            exact he (hpb.symm.trans hp)
          exact .inl ⟨b, hb, hpb, by rw [vo b hne, hnew b hbn hb]⟩
        · exact .inr ⟨fun b hb hpb => hex ⟨b, hb, hpb⟩, rfl⟩
end Go.Proofs.YtegblcdnmcnngaaDoor.TB
