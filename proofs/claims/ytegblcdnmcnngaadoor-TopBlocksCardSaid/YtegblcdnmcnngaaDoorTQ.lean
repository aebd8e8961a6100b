/- The plain law: the longest prefix in the trie of the grants is the holder's. -/
import Derived.Test.YtegblcdnmcnngaaDoorTN
set_option linter.unusedVariables false
set_option linter.unusedSimpArgs false
namespace Go.Proofs.YtegblcdnmcnngaaDoor.TB
open Go.RowKit
/-- what the trie of the first k grants holds -/
def gval (l : List Gr) : Nat → List Nat → Int
  | 0, _ => 0
  | k + 1, es => if es = dgs (l[k]?.getD default).p then (l[k]?.getD default).c + 1 else gval l k es
theorem gval_spec (l : List Gr) (es : List Nat) : ∀ k, (∃ i, i < k ∧ dgs (l[i]?.getD default).p = es ∧ gval l k es = (l[i]?.getD default).c + 1) ∨ ((∀ i, i < k → dgs (l[i]?.getD default).p ≠ es) ∧ gval l k es = 0)
  | 0 => .inr ⟨fun i h => by omega, rfl⟩
  | k + 1 => by
    by_cases h : es = dgs (l[k]?.getD default).p
    · exact .inl ⟨k, by omega, h.symm, by rw [gval, if_pos h]⟩
    · rw [gval, if_neg h]
      rcases gval_spec l es k with ⟨i, hi, h1, h2⟩ | ⟨h1, h2⟩
      · exact .inl ⟨i, by omega, h1, h2⟩
      · refine .inr ⟨fun i hi => ?_, h2⟩
        by_cases e : i = k
        · subst e; exact fun hh => h hh.symm
        · exact h1 i (by omega)
/-- the last prefix with a value -/
def best (f : List Nat → Int) : List Nat → Int → Int × Int × Bool → List Nat → Int × Int × Bool
  | pre, i, acc, [] => if f pre = 0 then acc else (f pre, i, true)
  | pre, i, acc, d :: ds => best f (pre ++ [d]) (i + 1) (if f pre = 0 then acc else (f pre, i, true)) ds
theorem best_zero (f : List Nat → Int) : ∀ (ds pre : List Nat) (i : Int) (acc : Int × Int × Bool), (∀ e, f (pre ++ e) = 0) → best f pre i acc ds = acc
  | [], pre, i, acc, h => by
    have := h []
    rw [List.append_nil] at this
    rw [best, if_pos this]
  | d :: ds, pre, i, acc, h => by
    have h0 := h []
    rw [List.append_nil] at h0
    rw [best, if_pos h0]
    exact best_zero f ds (pre ++ [d]) (i + 1) acc (fun e => by rw [List.append_assoc]; exact h _)
theorem best_spec (f : List Nat → Int) : ∀ (ds pre : List Nat) (i : Int) (acc : Int × Int × Bool),
    ((∀ j, j ≤ ds.length → f (pre ++ ds.take j) = 0) ∧ best f pre i acc ds = acc) ∨
    ∃ j, j ≤ ds.length ∧ f (pre ++ ds.take j) ≠ 0 ∧ (∀ q, j < q → q ≤ ds.length → f (pre ++ ds.take q) = 0) ∧ (best f pre i acc ds).1 = f (pre ++ ds.take j) ∧ (best f pre i acc ds).2.2 = true
  | [], pre, i, acc => by
    by_cases h : f pre = 0
    · refine .inl ⟨fun j hj => ?_, by rw [best, if_pos h]⟩
      simp only [List.take_nil, List.append_nil]; exact h
    · refine .inr ⟨0, Nat.le_refl _, by simpa using h, fun q h1 h2 => by simp at h2; omega, ?_, ?_⟩
      · rw [best, if_neg h]; simp
      · rw [best, if_neg h]
  | d :: ds, pre, i, acc => by
    rw [best]
    have hs : ∀ j, (d :: ds).take (j + 1) = d :: ds.take j := fun j => rfl
    rcases best_spec f ds (pre ++ [d]) (i + 1) (if f pre = 0 then acc else (f pre, i, true)) with ⟨h1, h2⟩ | ⟨j, h1, h2, h3, h4, h5⟩
    · have h1' : ∀ j, j ≤ ds.length → f (pre ++ (d :: ds).take (j + 1)) = 0 := fun j hj => by
        have := h1 j hj
        rw [List.append_assoc] at this
        exact this
      by_cases h : f pre = 0
      · rw [if_pos h] at h2
        refine .inl ⟨fun j hj => ?_, by rw [if_pos h]; exact h2⟩
        cases j with
        | zero => simpa using h
        | succ j => exact h1' j (by simp at hj; omega)
      · rw [if_neg h] at h2
        refine .inr ⟨0, Nat.zero_le _, by simpa using h, fun q hq hq2 => ?_, ?_, ?_⟩
        · cases q with
          | zero => omega
          | succ q => exact h1' q (by simp at hq2; omega)
        · rw [if_neg h, h2]; simp
        · rw [if_neg h, h2]
    · rw [List.append_assoc] at h2 h4
      refine .inr ⟨j + 1, by simp; omega, h2, fun q hq hq2 => ?_, h4, h5⟩
      cases q with
      | zero => omega
      | succ q =>
        have := h3 q (by omega) (by simp at hq2; omega)
        rw [List.append_assoc] at this
        exact this
/-- the fold over the nodes on the way is the search for the last prefix with a value -/
theorem fold_path {xs : List Int} {n : Nat} {P : Nat → List Nat} {f : List Nat → Int} (hT : Tree xs n P) (hf : ∀ es, look xs n P es (f es)) : ∀ (ds : List Nat) (i a : Nat) (acc : Int × Int × Bool), a < n → (∀ d ∈ ds, d < 10) →
    (pathL xs i a ds).foldl (lstep xs) acc = best f (P a) (i : Int) acc ds := by
  have hval : ∀ a, a < n → valOf xs a = f (P a) := by
    intro a ha
    rcases hf (P a) with ⟨b, hb, hp, hv⟩ | ⟨h, _⟩
    · have := hT.inj b a hb ha hp
      subst this; exact hv
    · exact absurd rfl (h a ha)
  have hst : ∀ (a i : Nat) acc, a < n → lstep xs acc (i, a) = if f (P a) = 0 then acc else (f (P a), (i : Int), true) := by
    intro a i acc ha
    unfold lstep
    rw [hval a ha]
  intro ds
  induction ds with
  | nil =>
    intro i a acc ha _
    simp only [pathL, List.foldl_cons, List.foldl_nil]
    rw [hst a i acc ha, best]
  | cons d ds ih =>
    intro i a acc ha hd
    rw [pathL_cons, List.foldl_cons, hst a i acc ha, best]
    by_cases h0 : kd xs a d = 0
    · rw [if_pos h0]
      have hno : ∀ e : List Nat, ∀ b, b < n → P b ≠ P a ++ [d] ++ e := by
        refine snoc_ind (P := fun e => ∀ b, b < n → P b ≠ P a ++ [d] ++ e) ?_ ?_
        · intro b hb hp
          rw [List.append_nil] at hp
          by_cases hb0 : b = 0
          · subst hb0; rw [hT.root] at hp; simp at hp
          · obtain ⟨q, g, hq, hg, hk, hpp⟩ := hT.up b (by omega) hb
            rw [hpp] at hp
            obtain ⟨h1, h2⟩ := List.append_inj' hp rfl
            have := hT.inj q a (by omega) ha h1
            simp only [List.cons.injEq, and_true] at h2
            subst this; subst h2; omega
        · intro e x ihe b hb hp
          by_cases hb0 : b = 0
          · subst hb0; rw [hT.root] at hp; simp at hp
          · obtain ⟨q, g, hq, hg, hk, hpp⟩ := hT.up b (by omega) hb
            rw [hpp, ← List.append_assoc] at hp
            obtain ⟨h1, _⟩ := List.append_inj' hp rfl
            exact ihe q (by omega) h1
      rw [List.foldl_nil, best_zero]
      intro e
      rcases hf (P a ++ [d] ++ e) with ⟨b, hb, hp, _⟩ | ⟨_, h⟩
      · exact absurd hp (hno e b hb)
      · exact h
    · rw [if_neg h0, ih (i + 1) (kd xs a d) _ (hT.ok.kd ha (hd d (by simp))).1 (fun e he => hd e (by simp [he])), (hT.down a d ha (hd d (by simp)) h0).1]
      rfl
/-- what the search for the holder finds -/
theorem bfold_spec (l : List Gr) (s : ByteArray) : ∀ k, (bfold l s k = -1 ∧ ∀ i, i < k → Lib.hasPrefix s.data.toList (l[i]?.getD default).p.data.toList = false) ∨
    ∃ b : Nat, b < k ∧ bfold l s k = (b : Int) ∧ Lib.hasPrefix s.data.toList (l[b]?.getD default).p.data.toList = true ∧ ∀ i, i < k → Lib.hasPrefix s.data.toList (l[i]?.getD default).p.data.toList = true → (l[i]?.getD default).p.size ≤ (l[b]?.getD default).p.size
  | 0 => .inl ⟨rfl, fun i h => by omega⟩
  | k + 1 => by
    rw [bfold_succ, bstep]
    rcases bfold_spec l s k with ⟨h1, h2⟩ | ⟨b, h1, h2, h3, h4⟩
    · rw [h1]
      by_cases hp : Lib.hasPrefix s.data.toList (l[k]?.getD default).p.data.toList = true
      · rw [if_pos ⟨hp, .inl (by omega)⟩]
        refine .inr ⟨k, by omega, rfl, hp, fun i hi hpi => ?_⟩
        by_cases e : i = k
        · subst e; exact Nat.le_refl _
        · rw [h2 i (by omega)] at hpi; cases hpi
      · rw [if_neg (fun h => hp h.1)]
        refine .inl ⟨rfl, fun i hi => ?_⟩
        by_cases e : i = k
        · subst e; simpa using hp
        · exact h2 i (by omega)
    · rw [h2]
      have hb : ((b : Int).toNat) = b := Int.toNat_natCast b
      rw [hb]
      by_cases hc : Lib.hasPrefix s.data.toList (l[k]?.getD default).p.data.toList = true ∧ ((b : Int) < 0 ∨ (l[b]?.getD default).p.size < (l[k]?.getD default).p.size)
      · rw [if_pos hc]
        have hlt : (l[b]?.getD default).p.size < (l[k]?.getD default).p.size := by rcases hc.2 with h | h; omega; exact h
        refine .inr ⟨k, by omega, rfl, hc.1, fun i hi hpi => ?_⟩
        by_cases e : i = k
        · subst e; exact Nat.le_refl _
        · have := h4 i (by omega) hpi; omega
      · rw [if_neg hc]
        refine .inr ⟨b, by omega, rfl, h3, fun i hi hpi => ?_⟩
        by_cases e : i = k
        · subst e
          rcases Nat.lt_or_ge (l[b]?.getD default).p.size (l[i]?.getD default).p.size with h | h
          · exact absurd ⟨hpi, .inr h⟩ hc
          · exact h
        · exact h4 i (by omega) hpi
theorem dg_inj : ∀ (a b : List UInt8), (∀ c ∈ a, 48 ≤ c.toNat ∧ c.toNat ≤ 57) → (∀ c ∈ b, 48 ≤ c.toNat ∧ c.toNat ≤ 57) → a.map dg = b.map dg → a = b
  | [], [], _, _, _ => rfl
  | [], _ :: _, _, _, h => by simp at h
  | _ :: _, [], _, _, h => by simp at h
  | x :: a, y :: b, ha, hb, h => by
    simp only [List.map_cons, List.cons.injEq] at h
    have hx := ha x (by simp)
    have hy := hb y (by simp)
    have hd := h.1
    simp only [dg] at hd
    have e : x = y := UInt8.toNat_inj.1 (by omega)
    rw [e, dg_inj a b (fun c hc => ha c (by simp [hc])) (fun c hc => hb c (by simp [hc])) h.2]
theorem pre_iff {s p : ByteArray} (hs : Digs s) (hp : Digs p) : Lib.hasPrefix s.data.toList p.data.toList = true ↔ (dgs s).take p.size = dgs p := by
  unfold Lib.hasPrefix
  rw [List.isPrefixOf_iff_prefix]
  have hlen : p.data.toList.length = p.size := by simp
  constructor
  · intro h
    have := List.prefix_iff_eq_take.1 h
    rw [hlen] at this
    unfold dgs
    rw [← List.map_take, ← this]
  · intro h
    apply List.prefix_iff_eq_take.2
    rw [hlen]
    unfold dgs at h
    rw [← List.map_take] at h
    exact (dg_inj _ _ (fun c hc => hs c (List.mem_of_mem_take hc)) hp h).symm
theorem digs_of_cat {p : ByteArray} (h : validS (p ++ ⟨#[48]⟩) = true) : Digs p ∧ p.size ≤ 14 := by
  obtain ⟨h1, h2, h3⟩ := valid_digs h
  refine ⟨fun c hc => h1 c ?_, ?_⟩
  · simp; exact .inl (by simpa using hc)
  · have : (p ++ ⟨#[48]⟩ : ByteArray).size = p.size + 1 := by simp [ByteArray.size_append]; rfl
    omega
/-- the plain law -/
theorem top_pure {l : List Gr} {nk n : Nat} {s : ByteArray} {xs : List Int} {P : Nat → List Nat} (hG : GoodK l nk l.length) (hs : Digs s) (hT : Tree xs n P) (hf : ∀ es, look xs n P es (gval l l.length es)) :
    (bfold l s l.length < 0 ∧ (longF xs (pathL xs 0 0 (dgs s))).2.2 = false ∧ ((l.map (·.p)).any fun p => Lib.hasPrefix s.data.toList p.data.toList) = false) ∨
    (0 ≤ bfold l s l.length ∧ (longF xs (pathL xs 0 0 (dgs s))).2.2 = true ∧ (longF xs (pathL xs 0 0 (dgs s))).1 = (l[(bfold l s l.length).toNat]?.getD default).c + 1 ∧ ((l.map (·.p)).any fun p => Lib.hasPrefix s.data.toList p.data.toList) = true) := by
  have hgo : ∀ i, i < l.length → ∃ r, l[i]? = some r ∧ l[i]?.getD default = r ∧ Digs r.p ∧ 0 ≤ r.c := by
    intro i hi
    have hr : l[i]? = some l[i] := List.getElem?_eq_getElem hi
    obtain ⟨h1, h2, h3, h4⟩ := hG.one i _ hi hr
    exact ⟨_, hr, by rw [hr]; rfl, (digs_of_cat h1).1, h3⟩
  have hlong : longF xs (pathL xs 0 0 (dgs s)) = best (gval l l.length) [] 0 (0, 0, false) (dgs s) := by
    unfold longF
    rw [fold_path hT hf (dgs s) 0 0 _ hT.ok.pos (dgs_lt hs), hT.root]
    rfl
  have hsz : (dgs s).length = s.size := dgs_len s
  rcases bfold_spec l s l.length with ⟨h1, h2⟩ | ⟨b, h1, h2, h3, h4⟩
  · refine .inl ⟨by omega, ?_, ?_⟩
    · rw [hlong]
      rcases best_spec (gval l l.length) (dgs s) [] 0 (0, 0, false) with ⟨_, hb⟩ | ⟨j, hj, hne, _, _, _⟩
      · rw [hb]
      · exfalso
        rw [List.nil_append] at hne
        rcases gval_spec l ((dgs s).take j) l.length with ⟨i, hi, he, _⟩ | ⟨_, h0⟩
        · obtain ⟨r, hr, hrd, hdg, _⟩ := hgo i hi
          have hno := h2 i hi
          rw [hrd] at hno he
          have hjs : r.p.size = j := by
            have := congrArg List.length he
            rw [dgs_len, List.length_take] at this
            omega
          have := (pre_iff hs hdg).2 (by rw [hjs, he])
          rw [this] at hno
          cases hno
        · exact hne h0
    · rw [List.any_eq_false]
      intro p hp
      obtain ⟨r, hr, rfl⟩ := List.mem_map.1 hp
      obtain ⟨i, hi⟩ := List.getElem?_of_mem hr
      have := h2 i (List.getElem?_eq_some_iff.1 hi).1
      rw [hi] at this
      simpa using this
  · obtain ⟨r, hr, hrd, hdg, hrc⟩ := hgo b h1
    rw [hrd] at h3 h4
    have htk := (pre_iff hs hdg).1 h3
    have hple : r.p.size ≤ s.size := by
      have := congrArg List.length htk
      rw [dgs_len, List.length_take] at this
      omega
    have hgv : gval l l.length (dgs r.p) = r.c + 1 := by
      rcases gval_spec l (dgs r.p) l.length with ⟨i, hi, he, hv⟩ | ⟨hno, _⟩
      · obtain ⟨q, hq, hqd, hqg, _⟩ := hgo i hi
        rw [hqd] at he hv
        have hpe : q.p = r.p := by
          have := dg_inj q.p.data.toList r.p.data.toList hqg hdg he
          have h2 : q.p.data = r.p.data := Array.toList_inj.1 this
          cases hqp : q.p; cases hrp : r.p
          rw [hqp, hrp] at h2
          simp only at h2
          rw [h2]
        rcases Nat.lt_trichotomy i b with h | h | h
        · exact absurd hpe (hG.two i b q r h h1 hq hr)
        · subst h
          rw [hr] at hq
          cases hq
          exact hv
        · exact absurd hpe.symm (hG.two b i r q h hi hr hq)
      · exact absurd (by rw [hrd]) (hno b h1)
    refine .inr ⟨by omega, ?_⟩
    rw [h2, Int.toNat_natCast, hrd, hlong]
    rcases best_spec (gval l l.length) (dgs s) [] 0 (0, 0, false) with ⟨hz, _⟩ | ⟨j, hj, hne, hmax, hv, ht⟩
    · exfalso
      have := hz r.p.size (by omega)
      rw [List.nil_append, htk, hgv] at this
      omega
    · rw [List.nil_append] at hne hv
      have hjs : j = r.p.size := by
        rcases gval_spec l ((dgs s).take j) l.length with ⟨i, hi, he, _⟩ | ⟨_, h0⟩
        · obtain ⟨q, hq, hqd, hqg, _⟩ := hgo i hi
          have hle := h4 i hi
          rw [hqd] at he hle
          have hqj : q.p.size = j := by
            have := congrArg List.length he
            rw [dgs_len, List.length_take] at this
            omega
          have hle' := hle ((pre_iff hs hqg).2 (by rw [hqj, he]))
          rcases Nat.lt_or_ge j r.p.size with h | h
          · exfalso
            have := hmax r.p.size h (by omega)
            rw [List.nil_append, htk, hgv] at this
            omega
          · omega
        · exact absurd h0 hne
      refine ⟨ht, ?_, ?_⟩
      · rw [hv, hjs, htk, hgv]
      · rw [List.any_eq_true]
        exact ⟨r.p, List.mem_map.2 ⟨r, List.mem_of_getElem? hr, rfl⟩, h3⟩
end Go.Proofs.YtegblcdnmcnngaaDoor.TB
