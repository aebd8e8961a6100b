/- registry.New of the given program. -/
import Derived.Test.YtegblcdnmcnngaaDoorTC
import Derived.Maps.OwnOps
import Derived.Maps.Views
import Derived.Carry
import Derived.StringKeys
set_option linter.unusedVariables false
set_option linter.unusedSimpArgs false
namespace Go.Proofs.YtegblcdnmcnngaaDoor.TB
open Go.RowKit
theorem plainElem_bool_inv {H : Type} {P : Program} {e : TypeId} (he : P.underlying e = some .bool) {v : Value} {z : DataW H × List MemPlace} (h : plainElem P e v = some z) : ∃ x, v = .bool x ∧ z = (.lit (.bool x), []) := by
  unfold plainElem at h
  rw [he] at h
  cases v <;> simp at h
  exact ⟨_, rfl, h.symm⟩
theorem zero4 (w : World) : (zeroValue 4).run Tryd.prog w = .ok (.bool false) w := by simp [go_sem]
theorem lookup_bool {w : World} {b n : Nat} {D : DataW Unit} (h : w.ownsMap (H := Unit) Tryd.prog 9 (plainElem Tryd.prog 4) b n D) (s : ByteArray) (hs : s.size ≤ maxLen) :
    ∃ x, (Instr.lookup 46 (.map (some b)) (.string s) false).run Tryd.prog w = .ok (.bool x) w ∧ D.atKey (.string s.data.toList) (.lit (.bool false)) = .lit (.bool x) := by
  obtain ⟨v, ps, hrun, hv⟩ := h.lookup (Maps.string_keyed Tryd.underlying9) Tryd.underlying46 (zero4 w) (plainElem_bool Tryd.underlying4 false) (Go.WideMaps.keyOf_string_mk Tryd.underlying9 hs)
  obtain ⟨x, rfl, hz⟩ := plainElem_bool_inv Tryd.underlying4 hv
  simp only [Prod.mk.injEq] at hz
  exact ⟨x, hrun, hz.1⟩
/-- the first k grants are in order -/
structure GoodK (l : List Gr) (nk k : Nat) : Prop where
  one : ∀ (i : Nat) (r : Gr), i < k → l[i]? = some r → validS (r.p ++ ⟨#[48]⟩) = true ∧ r.p.size ≠ 0 ∧ 0 ≤ r.c ∧ r.c < nk
  two : ∀ (i j : Nat) (r q : Gr), i < j → j < k → l[i]? = some r → l[j]? = some q → r.p ≠ q.p
def Seen (l : List Gr) (k : Nat) (D : DataW Unit) : Prop := Maps.IsMap D ∧ ∀ (i : Nat) (r : Gr), i < k → l[i]? = some r → D.atKey (.string r.p.data.toList) (.lit (.bool false)) = .lit (.bool true)
theorem Seen.put {l : List Gr} {k : Nat} {D : DataW Unit} {r : Gr} (h : Seen l k D) (hr : l[k]? = some r) : Seen l (k + 1) (D.put (.string r.p.data.toList) (.lit (.bool true))) := by
  refine ⟨?_, fun i q hi hq => ?_⟩
  · obtain ⟨es, rfl⟩ := h.1
    exact ⟨_, rfl⟩
  · by_cases e : (Lit.string q.p.data.toList) = .string r.p.data.toList
    · rw [e]
      exact Maps.atKey_put_same (k := .string r.p.data.toList) h.1 trivial _ _
    · rw [Maps.atKey_put_other e]
      by_cases hik : i = k
      · subst hik
        rw [hr] at hq
        cases hq
        exact absurd rfl e
      · exact h.2 i q (by omega) hq
def NewPost (w : World) (l : List Gr) (nk : Nat) (e : Ending) (w' : World) : Prop :=
  Below w.heap.size w w' ∧ ((∃ r, e = .returned (.tuple #[.agg #[.slice none 0 0, .slice none 0 0, .slice none 0 0], .int .i64 r]) ∧ r ≠ 0) ∨
    (∃ ag cg ak ck, e = .returned (.tuple #[.agg #[.slice ag l.length cg, .slice ak nk ck, .slice none 0 0], .int .i64 0]) ∧ l.length ≤ 64 ∧ l.length ≤ cg ∧ Grants w' ag l ∧ GoodK l nk l.length))
/-- three cells of a registry -/
structure Rg (w : World) (n : Nat) : Prop where
  c0 : w.cell? ⟨n, 0, none⟩ = some (.slice none 0 0)
  c1 : w.cell? ⟨n, 1, none⟩ = some (.slice none 0 0)
  c2 : w.cell? ⟨n, 2, none⟩ = some (.slice none 0 0)
  f0 : w.frozen? ⟨n, 0, none⟩ = false
  f1 : w.frozen? ⟨n, 1, none⟩ = false
  f2 : w.frozen? ⟨n, 2, none⟩ = false
theorem Rg.new (w : World) : Rg (w.alloc (.cells #[.slice none 0 0, .slice none 0 0, .slice none 0 0] 26)) w.heap.size := by
  constructor <;> simp [go_sem]
theorem Rg.below {W W' : World} {n : Nat} (h : Rg W n) (hB : Below W.heap.size W W') : Rg W' n := by
  have hn := World.block_lt_of_cell? _ _ h.c0
  exact ⟨(hB.cell hn).trans h.c0, (hB.cell (p := ⟨n, 1, none⟩) hn).trans h.c1, (hB.cell (p := ⟨n, 2, none⟩) hn).trans h.c2, (hB.frozen (p := ⟨n, 0, none⟩) hn).trans h.f0, (hB.frozen (p := ⟨n, 1, none⟩) hn).trans h.f1, (hB.frozen (p := ⟨n, 2, none⟩) hn).trans h.f2⟩
theorem Rg.kept {W W' : World} {n b : Nat} (h : Rg W n) (hg : W.grownBy W' (some b)) (hb : ∃ o : Obj, W.heap[b]? = some o ∧ o.isCells = false) : Rg W' n := by
  have hr : ∀ r, some b = some r → ∃ o : Obj, W.heap[r]? = some o ∧ o.isCells = false := fun r e => by cases e; exact hb
  exact ⟨cell_kept h.c0 hg hr, cell_kept h.c1 hg hr, cell_kept h.c2 hg hr, (frozen_kept h.c0 hg hr).trans h.f0, (frozen_kept h.c1 hg hr).trans h.f1, (frozen_kept h.c2 hg hr).trans h.f2⟩
theorem own_map {W : World} {b n : Nat} {D : DataW Unit} (h : W.ownsMap (H := Unit) Tryd.prog 9 (plainElem Tryd.prog 4) b n D) : ∃ o : Obj, W.heap[b]? = some o ∧ o.isCells = false := by
  obtain ⟨es, clock, hb, _⟩ := h
  exact ⟨_, hb, rfl⟩
theorem Rg.set {W : World} {n : Nat} (h : Rg W n) (x y z : Value) :
    (((W.setCell ⟨n, 0, none⟩ x).setCell ⟨n, 1, none⟩ y).setCell ⟨n, 2, none⟩ z).cell? ⟨n, 0, none⟩ = some x ∧ (((W.setCell ⟨n, 0, none⟩ x).setCell ⟨n, 1, none⟩ y).setCell ⟨n, 2, none⟩ z).cell? ⟨n, 1, none⟩ = some y ∧ (((W.setCell ⟨n, 0, none⟩ x).setCell ⟨n, 1, none⟩ y).setCell ⟨n, 2, none⟩ z).cell? ⟨n, 2, none⟩ = some z := by
  have n01 : (⟨n, 0, none⟩ : Addr) ≠ ⟨n, 1, none⟩ := by intro h; injection h with _ h; omega
  have n02 : (⟨n, 0, none⟩ : Addr) ≠ ⟨n, 2, none⟩ := by intro h; injection h with _ h; omega
  have n12 : (⟨n, 1, none⟩ : Addr) ≠ ⟨n, 2, none⟩ := by intro h; injection h with _ h; omega
  refine ⟨?_, ?_, ?_⟩
  · rw [World.cell?_setCell_other _ _ _ _ n02.symm, World.cell?_setCell_other _ _ _ _ n01.symm]; exact set_same h.c0
  · rw [World.cell?_setCell_other _ _ _ _ n12.symm]; exact set_same (y := .slice none 0 0) (by rw [World.cell?_setCell_other _ _ _ _ n01]; exact h.c1)
  · exact set_same (y := .slice none 0 0) (by rw [World.cell?_setCell_other _ _ _ _ n12, World.cell?_setCell_other _ _ _ _ n02]; exact h.c2)
theorem Rg.setB {B : Nat} {w W : World} {n : Nat} (h : Below B w W) (hn : B ≤ n) (x y z : Value) : Below B w (((W.setCell ⟨n, 0, none⟩ x).setCell ⟨n, 1, none⟩ y).setCell ⟨n, 2, none⟩ z) := ((h.setCell hn _).setCell hn _).setCell hn _
set_option maxRecDepth 100000 in
set_option maxHeartbeats 8000000 in
theorem new4 {a : Option Addr} {c kb nk ck : Nat} {l : List Gr} {w : World} (hR : Grants w a l) (hn : l.length ≤ c) (hl : l.length ≤ 9223372036854775807) (hK : ∀ j, j < nk * 32 → w.cell? ⟨kb, j, none⟩ = some (.int .u8 0)) (hnk : nk ≤ 8) (hkc : nk ≤ ck) :
    Calls Tryd.prog 4 #[.slice a l.length c, .slice (some ⟨kb, 0, none⟩) nk ck] w (NewPost w l nk) := by
  have A := Rg.new w
  have aB := (Below.refl w.heap.size w).alloc (Nat.le_refl _) (.cells #[.slice none 0 0, .slice none 0 0, .slice none 0 0] 26)
  have aS : (w.alloc (.cells #[.slice none 0 0, .slice none 0 0, .slice none 0 0] 26)).heap.size = w.heap.size + 1 := by simp
  obtain ⟨wa, hwa⟩ : ∃ W, w.alloc (.cells #[.slice none 0 0, .slice none 0 0, .slice none 0 0] 26) = W := ⟨_, rfl⟩
  rw [hwa] at A aB aS
  by_cases h64 : 64 < l.length
  · have g1 : decide (64 < (l.length : Int)) = true := decide_eq_true (by omega)
    have g1' : decide (64 < l.length) = true := decide_eq_true h64
    have A' := Lib.hid A
    obtain ⟨c0, c1, c2, f0, f1, f2⟩ := A
    go_enter Tryd.func4, Tryd.ntmps4
    go_wp2_with fail
    obtain ⟨k0, k1, k2⟩ := A'.out.set (.slice none 0 0) (.slice none 0 0) (.slice none 0 0)
    have hbz := Rg.setB aB (Nat.le_refl _) (.slice none 0 0) (.slice none 0 0) (.slice none 0 0)
    generalize ((wa.setCell ⟨w.heap.size, 0, none⟩ (.slice none 0 0)).setCell ⟨w.heap.size, 1, none⟩ (.slice none 0 0)).setCell ⟨w.heap.size, 2, none⟩ (.slice none 0 0) = w9 at k0 k1 k2 hbz ⊢
    exact bodyPost_ret (v := .tuple #[.agg #[.slice none 0 0, .slice none 0 0, .slice none 0 0], .int .i64 2]) (by simp [results, Tryd.f4, go_sem, k0, k1, k2]) rfl ⟨hbz, .inl ⟨2, rfl, by omega⟩⟩
  have g1 : decide (64 < (l.length : Int)) = false := decide_eq_false (by omega)
  have g1' : decide (64 < l.length) = false := decide_eq_false h64
  have g2 : decide (64 < (nk : Int)) = false := decide_eq_false (by omega)
  have g2' : decide (64 < nk) = false := decide_eq_false (by omega)
  have hmB : Below w.heap.size w (wa.alloc (Obj.map #[] 0)) := aB.alloc aB.size _
  have hmA := A.below ((Below.refl wa.heap.size wa).alloc (Nat.le_refl _) (Obj.map #[] 0))
  have hmO : (wa.alloc (Obj.map #[] 0)).ownsMap (H := Unit) Tryd.prog 9 (plainElem Tryd.prog 4) wa.heap.size 0 (.map []) := World.ownsMap_made wa Tryd.prog 9 _
  have hmS : (wa.alloc (Obj.map #[] 0)).heap.size = w.heap.size + 2 := by simp; omega
  rw [aS] at hmO
  obtain ⟨wm, hwm⟩ : ∃ W, wa.alloc (Obj.map #[] 0) = W := ⟨_, rfl⟩
  rw [hwm] at hmB hmA hmO hmS
  go_enter Tryd.func4, Tryd.ntmps4
  have hmm := @run_makeMap Tryd.prog
  go_wp2_with fail
  go_loopw [21] (fun i W => ∃ (k : Nat) (D : DataW Unit), k ≤ l.length ∧ i = .int .i64 (k : Int) ∧ Below w.heap.size w W ∧ w.heap.size + 2 ≤ W.heap.size ∧ W.ownsMap (H := Unit) Tryd.prog 9 (plainElem Tryd.prog 4) (w.heap.size + 1) k D ∧ Rg W w.heap.size ∧ Seen l k D ∧ GoodK l nk k) (fun i _ => l.length - (intOf i).toNat)
  case atStart => exact ⟨0, _, by omega, rfl, hmB, by omega, hmO, hmA, ⟨Maps.isMap_empty, fun i r hi _ => by omega⟩, ⟨fun i r hi _ => by omega, fun i j r q h1 h2 => by omega⟩⟩
  case round =>
    obtain ⟨k, D, hk, rfl, hB, hS, hown, hRg, hSeen, hGood⟩ := hrel
    by_cases hlt : k < l.length
    · have hlt' : decide ((k : Int) < (l.length : Int)) = true := decide_eq_true (by omega)
      have hkb : (k : Int) < (l.length : Int) := by omega
      obtain ⟨r, hr⟩ : ∃ r, l[k]? = some r := ⟨_, List.getElem?_eq_getElem hlt⟩
      obtain ⟨x, rfl, hra⟩ := (hR.below hB) k r hr
      obtain ⟨a0, a1, hsz⟩ := hra
      have hszm : r.p.size ≤ maxLen := by simp only [maxLen]; omega
      have hsz' : r.p.size ≤ 9223372036854775807 := by omega
      have hAl : Below wr.heap.size wr (wr.alloc (.cells #[.string r.p, .int .i64 r.c] 41)) := (Below.refl _ _).alloc (Nat.le_refl _) _
      have ak := hown.alloc (.cells #[.string r.p, .int .i64 r.c] 41)
      have aB2 : Below w.heap.size w (wr.alloc (.cells #[.string r.p, .int .i64 r.c] 41)) := hB.trans (hAl.mono hB.size)
      have aRg := hRg.below hAl
      have e0 : (wr.alloc (.cells #[.string r.p, .int .i64 r.c] 41)).cell? ⟨wr.heap.size, 0, none⟩ = some (.string r.p) := by simp [go_sem]
      have e1 : (wr.alloc (.cells #[.string r.p, .int .i64 r.c] 41)).cell? ⟨wr.heap.size, 1, none⟩ = some (.int .i64 r.c) := by simp [go_sem]
      have eS : (wr.alloc (.cells #[.string r.p, .int .i64 r.c] 41)).heap.size = wr.heap.size + 1 := by simp
      obtain ⟨wb, hwb⟩ : ∃ W, wr.alloc (.cells #[.string r.p, .int .i64 r.c] 41) = W := ⟨_, rfl⟩
      rw [hwb] at ak aB2 aRg e0 e1 eS hAl
      have hcat : ¬ 9223372036854775807 < r.p.size + 1 := by omega
      have hcat' : decide (9223372036854775807 < r.p.size + 1) = false := decide_eq_false hcat
      have A2 := Lib.hid aRg
      obtain ⟨c0, c1, c2, f0, f1, f2⟩ := aRg
      by_cases s1 : r.p.toList = []
      · have s1' : decide (r.p.toList = []) = true := decide_eq_true s1
        go_wp2_with fail
        obtain ⟨k0, k1, k2⟩ := A2.out.set (.slice none 0 0) (.slice none 0 0) (.slice none 0 0)
        have hbz := Rg.setB aB2 (Nat.le_refl _) (.slice none 0 0) (.slice none 0 0) (.slice none 0 0)
        generalize ((wb.setCell ⟨w.heap.size, 0, none⟩ (.slice none 0 0)).setCell ⟨w.heap.size, 1, none⟩ (.slice none 0 0)).setCell ⟨w.heap.size, 2, none⟩ (.slice none 0 0) = w9 at k0 k1 k2 hbz ⊢
        exact bodyPost_ret (v := .tuple #[.agg #[.slice none 0 0, .slice none 0 0, .slice none 0 0], .int .i64 1]) (by simp [results, Tryd.f4, go_sem, k0, k1, k2]) rfl ⟨hbz, .inl ⟨1, rfl, by omega⟩⟩
      have s1' : decide (r.p.toList = []) = false := decide_eq_false s1
      have s1'' : r.p.toList.isEmpty = false := by cases h : r.p.toList with
        | nil => exact absurd h s1
        | cons _ _ => rfl
      have hne0 : r.p.size ≠ 0 := by
        intro h
        apply s1
        have h0 : r.p = ByteArray.empty := by simpa using h
        rw [h0]
        first | simp | decide | kernel_rfl
      have hN0 := Lib.hid hne0
      clear hne0
      go_wp2_with fail
      obtain ⟨vb, hvb⟩ : ∃ b, validS (r.p ++ ⟨#[48]⟩) = b := ⟨_, rfl⟩
      have hV := valid6 (r.p ++ ⟨#[48]⟩)
      rw [hvb] at hV
      refine (hV _).mono ?_
      rintro e w5 ⟨rfl, hb5⟩
      have HVB := Lib.hid hvb
      clear hvb hV c0 c1 c2 f0 f1 f2
      have B5 : Below w.heap.size w w5 := aB2.trans (hb5.mono aB2.size)
      have q0 := (hb5.cell (World.block_lt_of_cell? _ _ e0)).trans e0
      have q1 := (hb5.cell (World.block_lt_of_cell? _ _ e1)).trans e1
      have hS5 : w.heap.size + 2 ≤ w5.heap.size := by have := hb5.size; omega
      have R5 := A2.out.below hb5
      have R5h := Lib.hid R5
      obtain ⟨c0, c1, c2, f0, f1, f2⟩ := R5
      have ak5 : w5.ownsMap (H := Unit) Tryd.prog 9 (plainElem Tryd.prog 4) (w.heap.size + 1) k D := ak.kept ⟨hb5.os, hb5.tape, hb5.output, hb5.size, fun i hi _ => hb5.block i hi⟩ (row := none) (by simp)
      clear e0 e1
      rcases vb with _ | _
      · go_wp2_with fail
        obtain ⟨k0, k1, k2⟩ := R5h.out.set (.slice none 0 0) (.slice none 0 0) (.slice none 0 0)
        have hbz := Rg.setB B5 (Nat.le_refl _) (.slice none 0 0) (.slice none 0 0) (.slice none 0 0)
        generalize ((w5.setCell ⟨w.heap.size, 0, none⟩ (.slice none 0 0)).setCell ⟨w.heap.size, 1, none⟩ (.slice none 0 0)).setCell ⟨w.heap.size, 2, none⟩ (.slice none 0 0) = w9 at k0 k1 k2 hbz ⊢
        exact bodyPost_ret (v := .tuple #[.agg #[.slice none 0 0, .slice none 0 0, .slice none 0 0], .int .i64 1]) (by simp [results, Tryd.f4, go_sem, k0, k1, k2]) rfl ⟨hbz, .inl ⟨1, rfl, by omega⟩⟩
      obtain ⟨q, hq, hat⟩ := lookup_bool ak5 r.p hszm
      have HAT := Lib.hid hat
      clear hat
      rcases q with _ | _
      case true =>
        go_wp2_with fail
        obtain ⟨k0, k1, k2⟩ := R5h.out.set (.slice none 0 0) (.slice none 0 0) (.slice none 0 0)
        have hbz := Rg.setB B5 (Nat.le_refl _) (.slice none 0 0) (.slice none 0 0) (.slice none 0 0)
        generalize ((w5.setCell ⟨w.heap.size, 0, none⟩ (.slice none 0 0)).setCell ⟨w.heap.size, 1, none⟩ (.slice none 0 0)).setCell ⟨w.heap.size, 2, none⟩ (.slice none 0 0) = w9 at k0 k1 k2 hbz ⊢
        exact bodyPost_ret (v := .tuple #[.agg #[.slice none 0 0, .slice none 0 0, .slice none 0 0], .int .i64 1]) (by simp [results, Tryd.f4, go_sem, k0, k1, k2]) rfl ⟨hbz, .inl ⟨1, rfl, by omega⟩⟩
      by_cases n1 : r.c < 0
      · have n1' : decide (r.c < 0) = true := decide_eq_true n1
        go_wp2_with fail
        obtain ⟨k0, k1, k2⟩ := R5h.out.set (.slice none 0 0) (.slice none 0 0) (.slice none 0 0)
        have hbz := Rg.setB B5 (Nat.le_refl _) (.slice none 0 0) (.slice none 0 0) (.slice none 0 0)
        generalize ((w5.setCell ⟨w.heap.size, 0, none⟩ (.slice none 0 0)).setCell ⟨w.heap.size, 1, none⟩ (.slice none 0 0)).setCell ⟨w.heap.size, 2, none⟩ (.slice none 0 0) = w9 at k0 k1 k2 hbz ⊢
        exact bodyPost_ret (v := .tuple #[.agg #[.slice none 0 0, .slice none 0 0, .slice none 0 0], .int .i64 1]) (by simp [results, Tryd.f4, go_sem, k0, k1, k2]) rfl ⟨hbz, .inl ⟨1, rfl, by omega⟩⟩
      have n1' : decide (r.c < 0) = false := decide_eq_false n1
      by_cases n2 : (nk : Int) ≤ r.c
      · have n2' : decide ((nk : Int) ≤ r.c) = true := decide_eq_true n2
        go_wp2_with fail
        obtain ⟨k0, k1, k2⟩ := R5h.out.set (.slice none 0 0) (.slice none 0 0) (.slice none 0 0)
        have hbz := Rg.setB B5 (Nat.le_refl _) (.slice none 0 0) (.slice none 0 0) (.slice none 0 0)
        generalize ((w5.setCell ⟨w.heap.size, 0, none⟩ (.slice none 0 0)).setCell ⟨w.heap.size, 1, none⟩ (.slice none 0 0)).setCell ⟨w.heap.size, 2, none⟩ (.slice none 0 0) = w9 at k0 k1 k2 hbz ⊢
        exact bodyPost_ret (v := .tuple #[.agg #[.slice none 0 0, .slice none 0 0, .slice none 0 0], .int .i64 1]) (by simp [results, Tryd.f4, go_sem, k0, k1, k2]) rfl ⟨hbz, .inl ⟨1, rfl, by omega⟩⟩
      have n2' : decide ((nk : Int) ≤ r.c) = false := decide_eq_false n2
      have hG' : GoodK l nk (k + 1) := by
        refine ⟨fun i r' hi hr' => ?_, fun i j r' q' hij hj hr' hq' => ?_⟩
        · by_cases hik : i = k
          · subst hik
            rw [hr] at hr'
            cases hr'
            exact ⟨HVB.out, hN0.out, by omega, by omega⟩
          · exact hGood.one i r' (by omega) hr'
        · by_cases hjk : j = k
          · subst hjk
            rw [hr] at hq'
            cases hq'
            intro e
            have h1 := hSeen.2 i r' hij hr'
            rw [e, HAT.out] at h1
            cases h1
          · exact hGood.two i j r' q' hij (by omega) hr' hq'
      have hS' := hSeen.put hr
      have HH := Lib.hid (And.intro hG' hS')
      clear hG' hS' hGood hSeen n1 n2
      go_wp2_with (at_mapUpdate; refine wpList_mapUpdate_own (H := Unit) _ rfl _ _ _ 46 rfl 9 4 (Maps.string_keyed Tryd.underlying9) Tryd.underlying46 _ (w.heap.size + 1) k D rfl ak5 (by simp only [maxLen]; omega) _ _ (.string r.p.data.toList) rfl rfl (Go.WideMaps.keyOf_string_mk Tryd.underlying9 hszm) (.lit (.bool true)) [] (plainElem_bool Tryd.underlying4 true) ?_; intro w6 hown6 hgrow6)
      exact ⟨⟨k + 1, _, by omega, rfl, B5.grown hgrow6 B5.size (fun q e => by cases e; omega), by have := hgrow6.size; omega, hown6, R5h.out.kept hgrow6 (own_map ak5), HH.out.2, HH.out.1⟩, by simp [intOf]; omega⟩
    · have hlt' : decide ((k : Int) < (l.length : Int)) = false := decide_eq_false (by omega)
      have hke : k = l.length := by omega
      subst hke
      have HG := Lib.hid hGood
      clear hGood hSeen
      go_wp2_with fail
      refine (clone11 (hR.below hB) (by omega) hn).mono ?_
      rintro e w7 ⟨ag, cg, rfl, hcg, hGr, hag, hb7⟩
      have B7 := hB.trans (hb7.mono hB.size)
      have R7 := hRg.below hb7
      go_wp2_with fail
      refine (clone12 (g := kb) (n := nk) (c := ck) (fun j hj => by
        have h := hK j hj
        exact (B7.cell (World.block_lt_of_cell? _ _ h)).trans h) (by omega) hkc).mono ?_
      rintro e w8 ⟨ak', ck', rfl, hb8⟩
      have B8 := B7.trans (hb8.mono B7.size)
      have R8 := R7.below hb8
      have HR8 := Lib.hid R8
      obtain ⟨c0, c1, c2, f0, f1, f2⟩ := R8
      go_wp2_with fail
      obtain ⟨k0, k1, k2⟩ := HR8.out.set (.slice ag l.length cg) (.slice ak' nk ck') (.slice none 0 0)
      have hbz := Rg.setB B8 (Nat.le_refl _) (.slice ag l.length cg) (.slice ak' nk ck') (.slice none 0 0)
      have hne : ∀ j x, ag = some x → x.block ≠ (⟨w.heap.size, j, none⟩ : Addr).block := fun j x hx => by
        have := hag x hx
        show x.block ≠ w.heap.size
        omega
      have hGz := (((hGr.below hb8).set (u := .slice ag l.length cg) (hne 0)).set (u := .slice ak' nk ck') (hne 1)).set (u := .slice none 0 0) (hne 2)
      generalize ((w8.setCell ⟨w.heap.size, 0, none⟩ (.slice ag l.length cg)).setCell ⟨w.heap.size, 1, none⟩ (.slice ak' nk ck')).setCell ⟨w.heap.size, 2, none⟩ (.slice none 0 0) = w9 at k0 k1 k2 hbz hGz ⊢
      exact bodyPost_ret (v := .tuple #[.agg #[.slice ag l.length cg, .slice ak' nk ck', .slice none 0 0], .int .i64 0]) (by simp [results, Tryd.f4, go_sem, k0, k1, k2]) rfl ⟨hbz, .inr ⟨ag, cg, ak', ck', rfl, by omega, hcg, hGz, HG.out⟩⟩
end Go.Proofs.YtegblcdnmcnngaaDoor.TB
