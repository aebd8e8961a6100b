/- The trie as a row of numbers, in plain Lean: eleven to a node, ten kids and a value. -/
import Derived.Test.YtpmkbpphlokbjaaDoorDP
set_option linter.unusedVariables false
set_option linter.unusedSimpArgs false
namespace Go.Proofs.YtpmkbpphlokbjaaDoor.EM
open Go.RowKit
theorem snoc_ind {α : Type} {P : List α → Prop} (h0 : P []) (h1 : ∀ l a, P l → P (l ++ [a])) (l : List α) : P l := by
  have : ∀ m : List α, P m.reverse := by
    intro m
    induction m with
    | nil => exact h0
    | cons a m ih => rw [List.reverse_cons]; exact h1 _ _ ih
  have h := this l.reverse
  rwa [List.reverse_reverse] at h
/-- n nodes; each kid is a node -/
structure OkT (xs : List Int) (n : Nat) : Prop where
  len : xs.length = n * 11
  pos : 0 < n
  kids : ∀ i d, i < n → d < 10 → ∃ k : Nat, k < n ∧ xs[i * 11 + d]? = some (k : Int)
def kd (xs : List Int) (i d : Nat) : Nat := (kidOf xs i d).toNat
theorem OkT.kd {xs : List Int} {n i d : Nat} (h : OkT xs n) (hi : i < n) (hd : d < 10) : kd xs i d < n ∧ xs[i * 11 + d]? = some ((kd xs i d : Nat) : Int) := by
  obtain ⟨k, hk, hx⟩ := h.kids i d hi hd
  have : EM.kd xs i d = k := by simp [EM.kd, kidOf, hx]
  rw [this]
  exact ⟨hk, hx⟩
/-- one digit on the way of an update -/
def pstep (p : List Int × Nat) (d : Nat) : List Int × Nat :=
  if kd p.1 p.2 d = 0 then (p.1.set (p.2 * 11 + d) ((p.1.length / 11 : Nat) : Int) ++ zeros 11, p.1.length / 11) else (p.1, kd p.1 p.2 d)
def pfold (xs : List Int) (ds : List Nat) : List Int × Nat := ds.foldl pstep (xs, 0)
def putT (xs : List Int) (ds : List Nat) (v : Int) : List Int := (pfold xs ds).1.set ((pfold xs ds).2 * 11 + 10) v
theorem pfold_snoc (xs : List Int) (ds : List Nat) (d : Nat) : pfold xs (ds ++ [d]) = pstep (pfold xs ds) d := by simp [pfold]
theorem zeros_at (k j : Nat) (h : j < k) : (zeros k)[j]? = some 0 := by simp [zeros, h]
theorem OkT.grow {xs : List Int} {n at' d : Nat} (h : OkT xs n) (ha : at' < n) (hd : d < 10) : OkT (xs.set (at' * 11 + d) (n : Int) ++ zeros 11) (n + 1) := by
  have hl := h.len
  refine ⟨by simp [zeros, hl]; omega, by omega, ?_⟩
  intro i e hi he
  by_cases hn : i < n
  · rw [List.getElem?_append_left (by simp [hl]; omega), List.getElem?_set]
    by_cases heq : at' * 11 + d = i * 11 + e
    · rw [if_pos heq, if_pos (by omega)]
      exact ⟨n, by omega, rfl⟩
    · rw [if_neg heq]
      obtain ⟨k, hk, hx⟩ := h.kids i e hn he
      exact ⟨k, by omega, hx⟩
  · have : i = n := by omega
    subst this
    rw [List.getElem?_append_right (by simp [hl]), List.length_set, hl]
    refine ⟨0, by omega, ?_⟩
    rw [show i * 11 + e - i * 11 = e by omega]
    exact zeros_at 11 e (by omega)
theorem OkT.value {xs : List Int} {n i : Nat} (h : OkT xs n) (hi : i < n) (v : Int) : OkT (xs.set (i * 11 + 10) v) n := by
  refine ⟨by simp [h.len], h.pos, fun j e hj he => ?_⟩
  rw [List.getElem?_set, if_neg (by omega)]
  exact h.kids j e hj he
theorem pstep_ok {xs : List Int} {n at' d : Nat} (h : OkT xs n) (ha : at' < n) (hd : d < 10) :
    ∃ m, OkT (pstep (xs, at') d).1 m ∧ (pstep (xs, at') d).2 < m ∧ n ≤ m ∧ m ≤ n + 1 := by
  have hl : xs.length / 11 = n := by rw [h.len]; omega
  unfold pstep
  simp only [hl]
  split
  · exact ⟨n + 1, h.grow ha hd, by simp, by omega, by omega⟩
  · exact ⟨n, h, (h.kd ha hd).1, by omega, by omega⟩
theorem pfold_ok {xs : List Int} {n : Nat} (h : OkT xs n) : ∀ ds : List Nat, (∀ d ∈ ds, d < 10) → ∃ m, OkT (pfold xs ds).1 m ∧ (pfold xs ds).2 < m ∧ n ≤ m ∧ m ≤ n + ds.length := by
  intro ds
  refine snoc_ind (P := fun ds => (∀ d ∈ ds, d < 10) → ∃ m, OkT (pfold xs ds).1 m ∧ (pfold xs ds).2 < m ∧ n ≤ m ∧ m ≤ n + ds.length) ?_ ?_ ds
  · exact fun _ => ⟨n, h, h.pos, by omega, by simp⟩
  · intro ds d ih hd
    obtain ⟨m, h1, h2, h3, h4⟩ := ih (fun e he => hd e (by simp [he]))
    obtain ⟨m', g1, g2, g3, g4⟩ := pstep_ok h1 h2 (hd d (by simp))
    rw [pfold_snoc]
    exact ⟨m', g1, g2, by omega, by simp; omega⟩
/-- a byte's digit -/
def dg (b : UInt8) : Nat := b.toNat - 48
def dgs (s : ByteArray) : List Nat := s.data.toList.map dg
theorem dgs_lt {s : ByteArray} (h : ∀ b ∈ s.data.toList, 48 ≤ b.toNat ∧ b.toNat ≤ 57) : ∀ d ∈ dgs s, d < 10 := by
  intro d hd
  obtain ⟨b, hb, rfl⟩ := List.mem_map.1 hd
  have := h b hb
  unfold dg
  omega
theorem okT_new : OkT (zeros 11) 1 := ⟨rfl, by omega, fun i d hi hd => ⟨0, by omega, zeros_at 11 _ (by omega)⟩⟩
/-- every value lies in the bounds -/
def Vals (xs : List Int) (n R : Nat) : Prop := ∀ i, i < n → ∃ v : Nat, v ≤ R ∧ xs[i * 11 + 10]? = some (v : Int)
theorem Vals.pstep {xs : List Int} {n at' d R m : Nat} (h : OkT xs n) (ha : at' < n) (hd : d < 10) (hv : Vals xs n R) (hm : OkT (pstep (xs, at') d).1 m) : Vals (EM.pstep (xs, at') d).1 m R := by
  have hl : xs.length / 11 = n := by rw [h.len]; omega
  have hlm := hm.len
  unfold EM.pstep at hlm ⊢
  simp only [hl] at hlm ⊢
  split at hlm
  · next hk =>
    rw [if_pos hk]
    simp [zeros, h.len] at hlm
    have hmn : m = n + 1 := by omega
    subst hmn
    intro i hi
    by_cases hn : i < n
    · rw [List.getElem?_append_left (by simp [h.len]; omega), List.getElem?_set, if_neg (by omega)]
      exact hv i hn
    · have : i = n := by omega
      subst this
      rw [List.getElem?_append_right (by simp [h.len]), List.length_set, h.len]
      refine ⟨0, by omega, ?_⟩
      rw [show i * 11 + 10 - i * 11 = 10 by omega]
      exact zeros_at 11 10 (by omega)
  · next hk =>
    rw [if_neg hk]
    have hmn : m = n := by have := h.len; simp at hlm; omega
    subst hmn
    exact hv
theorem OkT.uniq {xs : List Int} {n m : Nat} (h : OkT xs n) (k : OkT xs m) : n = m := by
  have := h.len
  have := k.len
  omega
theorem pfold_vals {xs : List Int} {n R : Nat} (h : OkT xs n) (hv : Vals xs n R) : ∀ ds : List Nat, (∀ d ∈ ds, d < 10) → ∀ m, OkT (pfold xs ds).1 m → Vals (pfold xs ds).1 m R := by
  intro ds
  refine snoc_ind (P := fun ds => (∀ d ∈ ds, d < 10) → ∀ m, OkT (pfold xs ds).1 m → Vals (pfold xs ds).1 m R) ?_ ?_ ds
  · intro _ m hm
    have := h.uniq hm
    subst this
    exact hv
  · intro ds d ih hd m hm
    obtain ⟨m1, h1, h2, h3, h4⟩ := pfold_ok h ds (fun e he => hd e (by simp [he]))
    rw [pfold_snoc] at hm ⊢
    exact Vals.pstep h1 h2 (hd d (by simp)) (ih (fun e he => hd e (by simp [he])) m1 h1) hm
theorem putT_ok {xs : List Int} {n : Nat} (h : OkT xs n) (ds : List Nat) (hd : ∀ d ∈ ds, d < 10) (v : Int) : ∃ m, OkT (putT xs ds v) m ∧ n ≤ m ∧ m ≤ n + ds.length := by
  obtain ⟨m, h1, h2, h3, h4⟩ := pfold_ok h ds hd
  exact ⟨m, h1.value h2 v, h3, h4⟩
theorem putT_vals {xs : List Int} {n R m : Nat} (h : OkT xs n) (hv : Vals xs n R) (ds : List Nat) (hd : ∀ d ∈ ds, d < 10) (v : Nat) (hvR : v ≤ R) (hm : OkT (putT xs ds v) m) : Vals (putT xs ds v) m R := by
  obtain ⟨m', h1, h2, h3, h4⟩ := pfold_ok h ds hd
  have := (h1.value h2 (v : Int)).uniq hm
  subst this
  intro i hi
  unfold putT
  rw [List.getElem?_set]
  split
  · next he =>
    rw [if_pos (by rw [h1.len]; omega)]
    exact ⟨v, hvR, rfl⟩
  · exact pfold_vals h hv ds hd m' h1 i hi
end Go.Proofs.YtpmkbpphlokbjaaDoor.EM
