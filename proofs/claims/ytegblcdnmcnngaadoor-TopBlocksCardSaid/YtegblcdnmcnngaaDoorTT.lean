/- trie.Check of the given program accepts every tree that New and Put make. -/
import Derived.Test.YtegblcdnmcnngaaDoorTU
import Derived.Below
import Derived.OwnWalk
import Derived.Deep.OwnRows
import Derived.KernelRfl
import Derived.RowKit3
import Derived.Laws.IdiomCopy
import Derived.Lib.Hide
set_option linter.unusedVariables false
set_option linter.unusedSimpArgs false
namespace Go.Proofs.YtegblcdnmcnngaaDoor.TB
open Go.RowKit
/-- n nodes from a row's head on: ten kids and a value each -/
structure Nodes (W : World) (g n : Nat) (kid : Nat → Nat → Int) (val : Nat → Int) : Prop where
  kids : ∀ i d, i < n → d < 10 → W.cell? ⟨g, i * 11 + d, none⟩ = some (.int .i64 (kid i d))
  vals : ∀ i, i < n → W.cell? ⟨g, i * 11 + 10, none⟩ = some (.int .i64 (val i))
theorem cell_lt {W : World} {b n : Nat} {v : Value} (h : W.cell? ⟨b, n, none⟩ = some v) : b < W.heap.size := by
  rcases Nat.lt_or_ge b W.heap.size with hl | hl
  · exact hl
  · simp [World.cell?, Array.getElem?_eq_none hl] at h
theorem Nodes.below {W W' : World} {g n : Nat} {kid : Nat → Nat → Int} {val : Nat → Int} (h : Nodes W g n kid val) (hb : Below W.heap.size W W') : Nodes W' g n kid val :=
  ⟨fun i d hi hd => (hb.cell (p := ⟨g, i * 11 + d, none⟩) (cell_lt (h.kids i d hi hd))).trans (h.kids i d hi hd), fun i hi => (hb.cell (p := ⟨g, i * 11 + 10, none⟩) (cell_lt (h.vals i hi))).trans (h.vals i hi)⟩
/-- a row of n numbers -/
structure Nums (W : World) (b n : Nat) : Prop where
  nums : ∀ k, k < n → ∃ z, W.cell? ⟨b, k, none⟩ = some (.int .i64 z)
  thaw : ∀ k, W.frozen? ⟨b, k, none⟩ = false
theorem nums_new (W : World) (n : Nat) : Nums (W.alloc (.cells (madeCells #[.int .i64 0] n) 3)) W.heap.size n :=
  ⟨fun k hk => ⟨0, by rw [World.cell?_alloc_at (w := W) _ _ W.heap.size k rfl]; simp [madeCells, hk, Nat.mod_one]⟩, fun k => World.frozen?_alloc_at (w := W) _ _ W.heap.size k rfl⟩
theorem Nums.below {W W' : World} {b n : Nat} (h : Nums W b n) (hl : b < W.heap.size) (hb : Below W.heap.size W W') : Nums W' b n :=
  ⟨fun k hk => by obtain ⟨z, hz⟩ := h.nums k hk; exact ⟨z, (hb.cell (p := ⟨b, k, none⟩) hl).trans hz⟩, fun k => (hb.frozen (p := ⟨b, k, none⟩) hl).trans (h.thaw k)⟩
theorem set_same {W : World} {b k : Nat} {v y : Value} (hy : W.cell? ⟨b, k, none⟩ = some y) : (W.setCell ⟨b, k, none⟩ v).cell? ⟨b, k, none⟩ = some v := by
  have := World.cell?_setCells_in b [v] k W (fun q hq => by
    have h0 : q = 0 := by simpa using hq
    rw [h0, Nat.add_zero, hy]
    rfl) 0 (by simp)
  simpa [World.setCells] using this
theorem Nums.set {W : World} {b n k : Nat} {z : Int} (h : Nums W b n) (hk : k < n) : Nums (W.setCell ⟨b, k, none⟩ (.int .i64 z)) b n :=
  ⟨fun j hj => by
    by_cases hjk : j = k
    · subst hjk
      obtain ⟨y, hy⟩ := h.nums j hj
      exact ⟨z, set_same hy⟩
    · obtain ⟨y, hy⟩ := h.nums j hj
      exact ⟨y, by rw [World.cell?_setCell_other _ _ _ _ (by intro h; cases h; exact hjk rfl)]; exact hy⟩, fun j => by rw [World.frozen?_setCell]; exact h.thaw j⟩
theorem iq0 (x0 x1 x2 x3 x4 x5 x6 x7 x8 x9 : Int) (W : World) : (Instr.index 55 (.agg #[.int .i64 x0, .int .i64 x1, .int .i64 x2, .int .i64 x3, .int .i64 x4, .int .i64 x5, .int .i64 x6, .int .i64 x7, .int .i64 x8, .int .i64 x9]) (.int .i64 0)).run Tryd.prog W = .ok (.int .i64 x0) W := by kernel_rfl
theorem iq1 (x0 x1 x2 x3 x4 x5 x6 x7 x8 x9 : Int) (W : World) : (Instr.index 55 (.agg #[.int .i64 x0, .int .i64 x1, .int .i64 x2, .int .i64 x3, .int .i64 x4, .int .i64 x5, .int .i64 x6, .int .i64 x7, .int .i64 x8, .int .i64 x9]) (.int .i64 1)).run Tryd.prog W = .ok (.int .i64 x1) W := by kernel_rfl
theorem iq2 (x0 x1 x2 x3 x4 x5 x6 x7 x8 x9 : Int) (W : World) : (Instr.index 55 (.agg #[.int .i64 x0, .int .i64 x1, .int .i64 x2, .int .i64 x3, .int .i64 x4, .int .i64 x5, .int .i64 x6, .int .i64 x7, .int .i64 x8, .int .i64 x9]) (.int .i64 2)).run Tryd.prog W = .ok (.int .i64 x2) W := by kernel_rfl
theorem iq3 (x0 x1 x2 x3 x4 x5 x6 x7 x8 x9 : Int) (W : World) : (Instr.index 55 (.agg #[.int .i64 x0, .int .i64 x1, .int .i64 x2, .int .i64 x3, .int .i64 x4, .int .i64 x5, .int .i64 x6, .int .i64 x7, .int .i64 x8, .int .i64 x9]) (.int .i64 3)).run Tryd.prog W = .ok (.int .i64 x3) W := by kernel_rfl
theorem iq4 (x0 x1 x2 x3 x4 x5 x6 x7 x8 x9 : Int) (W : World) : (Instr.index 55 (.agg #[.int .i64 x0, .int .i64 x1, .int .i64 x2, .int .i64 x3, .int .i64 x4, .int .i64 x5, .int .i64 x6, .int .i64 x7, .int .i64 x8, .int .i64 x9]) (.int .i64 4)).run Tryd.prog W = .ok (.int .i64 x4) W := by kernel_rfl
theorem iq5 (x0 x1 x2 x3 x4 x5 x6 x7 x8 x9 : Int) (W : World) : (Instr.index 55 (.agg #[.int .i64 x0, .int .i64 x1, .int .i64 x2, .int .i64 x3, .int .i64 x4, .int .i64 x5, .int .i64 x6, .int .i64 x7, .int .i64 x8, .int .i64 x9]) (.int .i64 5)).run Tryd.prog W = .ok (.int .i64 x5) W := by kernel_rfl
theorem iq6 (x0 x1 x2 x3 x4 x5 x6 x7 x8 x9 : Int) (W : World) : (Instr.index 55 (.agg #[.int .i64 x0, .int .i64 x1, .int .i64 x2, .int .i64 x3, .int .i64 x4, .int .i64 x5, .int .i64 x6, .int .i64 x7, .int .i64 x8, .int .i64 x9]) (.int .i64 6)).run Tryd.prog W = .ok (.int .i64 x6) W := by kernel_rfl
theorem iq7 (x0 x1 x2 x3 x4 x5 x6 x7 x8 x9 : Int) (W : World) : (Instr.index 55 (.agg #[.int .i64 x0, .int .i64 x1, .int .i64 x2, .int .i64 x3, .int .i64 x4, .int .i64 x5, .int .i64 x6, .int .i64 x7, .int .i64 x8, .int .i64 x9]) (.int .i64 7)).run Tryd.prog W = .ok (.int .i64 x7) W := by kernel_rfl
theorem iq8 (x0 x1 x2 x3 x4 x5 x6 x7 x8 x9 : Int) (W : World) : (Instr.index 55 (.agg #[.int .i64 x0, .int .i64 x1, .int .i64 x2, .int .i64 x3, .int .i64 x4, .int .i64 x5, .int .i64 x6, .int .i64 x7, .int .i64 x8, .int .i64 x9]) (.int .i64 8)).run Tryd.prog W = .ok (.int .i64 x8) W := by kernel_rfl
theorem iq9 (x0 x1 x2 x3 x4 x5 x6 x7 x8 x9 : Int) (W : World) : (Instr.index 55 (.agg #[.int .i64 x0, .int .i64 x1, .int .i64 x2, .int .i64 x3, .int .i64 x4, .int .i64 x5, .int .i64 x6, .int .i64 x7, .int .i64 x8, .int .i64 x9]) (.int .i64 9)).run Tryd.prog W = .ok (.int .i64 x9) W := by kernel_rfl
theorem ixk (f : Nat → Int) (q : Nat) (hq : q < 10) (W : World) : (Instr.index 55 (.agg #[.int .i64 (f 0), .int .i64 (f 1), .int .i64 (f 2), .int .i64 (f 3), .int .i64 (f 4), .int .i64 (f 5), .int .i64 (f 6), .int .i64 (f 7), .int .i64 (f 8), .int .i64 (f 9)]) (.int .i64 (q : Int))).run Tryd.prog W = .ok (.int .i64 (f q)) W := by
  match q, hq with
  | 0, _ => exact iq0 (f 0) (f 1) (f 2) (f 3) (f 4) (f 5) (f 6) (f 7) (f 8) (f 9) W
  | 1, _ => exact iq1 (f 0) (f 1) (f 2) (f 3) (f 4) (f 5) (f 6) (f 7) (f 8) (f 9) W
  | 2, _ => exact iq2 (f 0) (f 1) (f 2) (f 3) (f 4) (f 5) (f 6) (f 7) (f 8) (f 9) W
  | 3, _ => exact iq3 (f 0) (f 1) (f 2) (f 3) (f 4) (f 5) (f 6) (f 7) (f 8) (f 9) W
  | 4, _ => exact iq4 (f 0) (f 1) (f 2) (f 3) (f 4) (f 5) (f 6) (f 7) (f 8) (f 9) W
  | 5, _ => exact iq5 (f 0) (f 1) (f 2) (f 3) (f 4) (f 5) (f 6) (f 7) (f 8) (f 9) W
  | 6, _ => exact iq6 (f 0) (f 1) (f 2) (f 3) (f 4) (f 5) (f 6) (f 7) (f 8) (f 9) W
  | 7, _ => exact iq7 (f 0) (f 1) (f 2) (f 3) (f 4) (f 5) (f 6) (f 7) (f 8) (f 9) W
  | 8, _ => exact iq8 (f 0) (f 1) (f 2) (f 3) (f 4) (f 5) (f 6) (f 7) (f 8) (f 9) W
  | 9, _ => exact iq9 (f 0) (f 1) (f 2) (f 3) (f 4) (f 5) (f 6) (f 7) (f 8) (f 9) W
theorem info3 : (Tryd.prog.info? 3).map (fun i => (i.zero, i.size, i.bytes)) = some (some (.int .i64 0), 1, 8) := by kernel_rfl
/-- the numbers of a row from its head on -/
def Row (W : World) (g : Nat) (xs : List Int) : Prop := ∀ j x, xs[j]? = some x → W.cell? ⟨g, j, none⟩ = some (.int .i64 x)
theorem Row.below {W W' : World} {g : Nat} {xs : List Int} (h : Row W g xs) (hb : Below W.heap.size W W') : Row W' g xs :=
  fun j x hx => (hb.cell (p := ⟨g, j, none⟩) (cell_lt (h j x hx))).trans (h j x hx)
theorem Row.below' {B : Nat} {W W' : World} {g : Nat} {xs : List Int} (h : Row W g xs) (hb : Below B W W') (hg : g < B) : Row W' g xs :=
  fun j x hx => (hb.cell (p := ⟨g, j, none⟩) hg).trans (h j x hx)
theorem Row.tree {W : World} {g n : Nat} {xs : List Int} (h : Row W g xs) (hO : OkT xs n) : Nodes W g n (fun i d => ((kd xs i d : Nat) : Int)) (valOf xs) := by
  refine ⟨fun i d hi hd => h _ _ (hO.kd hi hd).2, fun i hi => ?_⟩
  have hl := hO.len
  refine h _ _ ?_
  unfold valOf
  rw [List.getElem?_eq_getElem (by omega)]
  rfl
/-- a kid that was met before kid d of node i -/
def Met (xs : List Int) (i d k : Nat) : Prop := k ≠ 0 ∧ ∃ p e, (p < i ∨ p = i ∧ e < d) ∧ e < 10 ∧ kd xs p e = k
/-- the depths that Check has written -/
structure Dep (W : World) (b n : Nat) (xs : List Int) (P : Nat → List Nat) (i d : Nat) : Prop where
  met : ∀ k, k < n → Met xs i d k → W.cell? ⟨b, k, none⟩ = some (.int .i64 ((P k).length : Nat))
  not : ∀ k, k < n → ¬ Met xs i d k → W.cell? ⟨b, k, none⟩ = some (.int .i64 0)
  thaw : ∀ k, W.frozen? ⟨b, k, none⟩ = false
theorem dep_new (W : World) (n : Nat) (xs : List Int) (P : Nat → List Nat) : Dep (W.alloc (.cells (madeCells #[.int .i64 0] n) 3)) W.heap.size n xs P 0 0 := by
  refine ⟨fun k hk h => ?_, fun k hk _ => ?_, fun k => World.frozen?_alloc_at (w := W) _ _ W.heap.size k rfl⟩
  · obtain ⟨_, p, e, h, _⟩ := h; omega
  · rw [World.cell?_alloc_at (w := W) _ _ W.heap.size k rfl]; simp [madeCells, hk, Nat.mod_one]
theorem Dep.below {W W' : World} {b n i d : Nat} {xs : List Int} {P : Nat → List Nat} (h : Dep W b n xs P i d) (hl : b < W.heap.size) (hb : Below W.heap.size W W') : Dep W' b n xs P i d :=
  ⟨fun k hk hm => (hb.cell (p := ⟨b, k, none⟩) hl).trans (h.met k hk hm), fun k hk hm => (hb.cell (p := ⟨b, k, none⟩) hl).trans (h.not k hk hm), fun k => (hb.frozen (p := ⟨b, k, none⟩) hl).trans (h.thaw k)⟩
theorem Dep.self {W : World} {b n i d : Nat} {xs : List Int} {P : Nat → List Nat} (h : Dep W b n xs P i d) (hT : Tree xs n P) (hi : i < n) : W.cell? ⟨b, i, none⟩ = some (.int .i64 ((P i).length : Nat)) := by
  by_cases h0 : i = 0
  · subst h0
    rw [h.not 0 hi (fun hm => hm.1 rfl), hT.root]
    rfl
  · obtain ⟨p, e, hp, he, hk, _⟩ := hT.up i (by omega) hi
    exact h.met i hi ⟨h0, p, e, .inl hp, he, hk⟩
theorem Dep.kid {W : World} {b n i d : Nat} {xs : List Int} {P : Nat → List Nat} (h : Dep W b n xs P i d) (hT : Tree xs n P) (hi : i < n) (hd : d < 10) (hne : kd xs i d ≠ 0) : W.cell? ⟨b, kd xs i d, none⟩ = some (.int .i64 0) := by
  refine h.not _ (hT.ok.kd hi hd).1 ?_
  rintro ⟨_, p, e, hlt, he, hk⟩
  have hp : p < n := by omega
  obtain ⟨h1, _⟩ := hT.down i d hi hd hne
  obtain ⟨h2, _⟩ := hT.down p e hp he (by rw [hk]; exact hne)
  rw [hk, h1] at h2
  obtain ⟨h3, h4⟩ := List.append_inj' h2 rfl
  have := hT.inj _ _ hi hp h3
  simp only [List.cons.injEq, and_true] at h4
  omega
theorem Dep.skip {W : World} {b n i d : Nat} {xs : List Int} {P : Nat → List Nat} (h : Dep W b n xs P i d) (h0 : kd xs i d = 0) : Dep W b n xs P i (d + 1) := by
  have e : ∀ k, Met xs i (d + 1) k ↔ Met xs i d k := by
    intro k
    constructor
    · rintro ⟨hk, p, e, hlt, he, hkd⟩
      refine ⟨hk, p, e, ?_, he, hkd⟩
      rcases hlt with hlt | ⟨rfl, hlt⟩
      · exact .inl hlt
      · by_cases hed : e = d
        · subst hed; rw [h0] at hkd; exact absurd hkd.symm hk
        · exact .inr ⟨rfl, by omega⟩
    · rintro ⟨hk, p, e, hlt, he, hkd⟩
      exact ⟨hk, p, e, by omega, he, hkd⟩
  exact ⟨fun k hk hm => h.met k hk ((e k).1 hm), fun k hk hm => h.not k hk (fun hh => hm ((e k).2 hh)), h.thaw⟩
theorem Dep.put {W : World} {b n i d : Nat} {xs : List Int} {P : Nat → List Nat} (h : Dep W b n xs P i d) (hT : Tree xs n P) (hi : i < n) (hd : d < 10) (hne : kd xs i d ≠ 0) : Dep (W.setCell ⟨b, kd xs i d, none⟩ (.int .i64 (((P i).length : Nat) + 1))) b n xs P i (d + 1) := by
  have hkn := (hT.ok.kd hi hd).1
  obtain ⟨h1, _⟩ := hT.down i d hi hd hne
  have hs := h.kid hT hi hd hne
  refine ⟨fun k hk hm => ?_, fun k hk hm => ?_, fun k => by rw [World.frozen?_setCell]; exact h.thaw k⟩
  · by_cases e : k = kd xs i d
    · subst e
      rw [set_same hs, h1]
      simp
    · rw [World.cell?_setCell_other _ _ _ _ (by intro hh; injection hh with _ hh; exact e hh.symm)]
      refine h.met k hk ?_
      obtain ⟨hk0, p, f, hlt, hf, hkd⟩ := hm
      refine ⟨hk0, p, f, ?_, hf, hkd⟩
      rcases hlt with hlt | ⟨rfl, hlt⟩
      · exact .inl hlt
      · by_cases hfd : f = d
        · subst hfd; exact absurd hkd.symm e
        · exact .inr ⟨rfl, by omega⟩
  · have e : kd xs i d ≠ k := by
      intro e
      exact hm ⟨by rw [← e]; exact hne, i, d, .inr ⟨rfl, by omega⟩, hd, e⟩
    rw [World.cell?_setCell_other _ _ _ _ (by intro hh; injection hh with _ hh; exact e hh)]
    refine h.not k hk (fun hh => hm ?_)
    obtain ⟨hk0, p, f, hlt, hf, hkd⟩ := hh
    exact ⟨hk0, p, f, by omega, hf, hkd⟩
theorem Dep.next {W : World} {b n i : Nat} {xs : List Int} {P : Nat → List Nat} (h : Dep W b n xs P i 10) : Dep W b n xs P (i + 1) 0 := by
  have e : ∀ k, Met xs (i + 1) 0 k ↔ Met xs i 10 k := by
    intro k
    constructor
    · rintro ⟨hk, p, e, hlt, he, hkd⟩
      exact ⟨hk, p, e, by omega, he, hkd⟩
    · rintro ⟨hk, p, e, hlt, he, hkd⟩
      exact ⟨hk, p, e, by omega, he, hkd⟩
  exact ⟨fun k hk hm => h.met k hk ((e k).1 hm), fun k hk hm => h.not k hk (fun hh => hm ((e k).2 hh)), h.thaw⟩
set_option maxRecDepth 100000 in
set_option maxHeartbeats 8000000 in
theorem check17 {g n c : Nat} {xs : List Int} {P : Nat → List Nat} {w : World} (hR : Row w g xs) (hT : Tree xs n P) (hlen : ∀ k, k < n → (P k).length ≤ 15) (hV : Vb xs n) (h4 : n ≤ 4096) (hnc : n ≤ c) :
    Calls Tryd.prog 17 #[.agg #[.slice (some ⟨g, 0, none⟩) n c]] w fun e w' => e = .returned (.int .i64 0) ∧ Below w.heap.size w w' := by
  obtain ⟨i3, hi3, hz3⟩ := Option.map_eq_some_iff.1 info3
  simp only [Prod.mk.injEq] at hz3
  obtain ⟨hz0, hz1, hz2⟩ := hz3
  have h0 := hT.ok.pos
  have hN := hR.tree hT.ok
  have d1 : decide (4096 < (n : Int)) = false := decide_eq_false (by omega)
  have d1' : decide (4096 < n) = false := decide_eq_false (by omega)
  have d2 : ((n : Int) == 0) = false := beq_eq_false_iff_ne.mpr (by omega)
  have d2' : (n == 0) = false := beq_eq_false_iff_ne.mpr (by omega)
  go_enter Tryd.func17, Tryd.ntmps17
  go_wp2_with fail
  rw [run_make_row (P := Tryd.prog) 67 3 i3 (.int .i64 0) Tryd.underlying67 hi3 hz0 hz1 rfl .i64 .i64 n (by rw [hz2]; omega) (by omega)]
  have hds : (w.alloc (Obj.cells #[Value.slice (some ⟨g, 0, none⟩) n c] 35)).heap.size = w.heap.size + 1 := by simp [go_sem]
  have hD0 : Dep ((w.alloc (Obj.cells #[Value.slice (some ⟨g, 0, none⟩) n c] 35)).alloc (Obj.cells (madeCells #[Value.int .i64 0] n) 3)) (w.heap.size + 1) n xs P 0 0 := by
    have := dep_new (w.alloc (Obj.cells #[Value.slice (some ⟨g, 0, none⟩) n c] 35)) n xs P
    rwa [hds] at this
  have hB0 : Below w.heap.size w ((w.alloc (Obj.cells #[Value.slice (some ⟨g, 0, none⟩) n c] 35)).alloc (Obj.cells (madeCells #[Value.int .i64 0] n) 3)) := ((Below.refl _ _).alloc (Nat.le_refl _) _).alloc (by simp [go_sem]) _
  have hX0 : ((w.alloc (Obj.cells #[Value.slice (some ⟨g, 0, none⟩) n c] 35)).alloc (Obj.cells (madeCells #[Value.int .i64 0] n) 3)).cell? ⟨w.heap.size, 0, none⟩ = some (.slice (some ⟨g, 0, none⟩) n c) := by simp [go_sem]
  have hS0 : w.heap.size + 2 ≤ ((w.alloc (Obj.cells #[Value.slice (some ⟨g, 0, none⟩) n c] 35)).alloc (Obj.cells (madeCells #[Value.int .i64 0] n) 3)).heap.size := by simp [go_sem]
  obtain ⟨w0, hw0⟩ : ∃ W, (w.alloc (Obj.cells #[Value.slice (some ⟨g, 0, none⟩) n c] 35)).alloc (Obj.cells (madeCells #[Value.int .i64 0] n) 3) = W := ⟨_, rfl⟩
  rw [hw0] at hD0 hB0 hX0 hS0 ⊢
  rw [hds]
  go_wp2_with fail
  go_loopw [25] (fun i W => ∃ j : Nat, j ≤ n ∧ i = .int .i64 (j : Int) ∧ Below w.heap.size w W ∧ Dep W (w.heap.size + 1) n xs P j 0 ∧ W.cell? ⟨w.heap.size, 0, none⟩ = some (.slice (some ⟨g, 0, none⟩) n c) ∧ w.heap.size + 2 ≤ W.heap.size) (fun i _ => n - (intOf i).toNat)
  case atStart => exact ⟨0, by omega, rfl, hB0, hD0, hX0, hS0⟩
  case round =>
    obtain ⟨j, hj, rfl, hB, hD, hX, hS⟩ := hrel
    by_cases hlt : j < n
    · have hlt' : decide ((j : Int) < (n : Int)) = true := decide_eq_true (by omega)
      have hNr : Nodes wr g n (fun i d => ((kd xs i d : Nat) : Int)) (valOf xs) := ⟨fun i d hi hd => (hB.cell (p := ⟨g, i * 11 + d, none⟩) (cell_lt (hN.kids i d hi hd))).trans (hN.kids i d hi hd), fun i hi => (hB.cell (p := ⟨g, i * 11 + 10, none⟩) (cell_lt (hN.vals i hi))).trans (hN.vals i hi)⟩
      have x0 : wr.cell? ⟨g, j * 11, none⟩ = some (.int .i64 ((kd xs j 0 : Nat) : Int)) := hNr.kids j 0 hlt (by decide)
      have x1 : wr.cell? ⟨g, j * 11 + 1, none⟩ = some (.int .i64 ((kd xs j 1 : Nat) : Int)) := hNr.kids j 1 hlt (by decide)
      have x2 : wr.cell? ⟨g, j * 11 + 2, none⟩ = some (.int .i64 ((kd xs j 2 : Nat) : Int)) := hNr.kids j 2 hlt (by decide)
      have x3 : wr.cell? ⟨g, j * 11 + 3, none⟩ = some (.int .i64 ((kd xs j 3 : Nat) : Int)) := hNr.kids j 3 hlt (by decide)
      have x4 : wr.cell? ⟨g, j * 11 + 4, none⟩ = some (.int .i64 ((kd xs j 4 : Nat) : Int)) := hNr.kids j 4 hlt (by decide)
      have x5 : wr.cell? ⟨g, j * 11 + 5, none⟩ = some (.int .i64 ((kd xs j 5 : Nat) : Int)) := hNr.kids j 5 hlt (by decide)
      have x6 : wr.cell? ⟨g, j * 11 + 6, none⟩ = some (.int .i64 ((kd xs j 6 : Nat) : Int)) := hNr.kids j 6 hlt (by decide)
      have x7 : wr.cell? ⟨g, j * 11 + 7, none⟩ = some (.int .i64 ((kd xs j 7 : Nat) : Int)) := hNr.kids j 7 hlt (by decide)
      have x8 : wr.cell? ⟨g, j * 11 + 8, none⟩ = some (.int .i64 ((kd xs j 8 : Nat) : Int)) := hNr.kids j 8 hlt (by decide)
      have x9 : wr.cell? ⟨g, j * 11 + 9, none⟩ = some (.int .i64 ((kd xs j 9 : Nat) : Int)) := hNr.kids j 9 hlt (by decide)
      have x10 : wr.cell? ⟨g, j * 11 + 10, none⟩ = some (.int .i64 (valOf xs j)) := hNr.vals j hlt
      obtain ⟨hv1, hv2⟩ := hV j hlt
      have v1 : decide (valOf xs j < 0) = false := decide_eq_false (by omega)
      have v2 : decide (1099511627776 < valOf xs j) = false := decide_eq_false (by omega)
      have hself := hD.self hT hlt
      have hwr : w.heap.size ≤ wr.heap.size := by omega
      have hS1 : w.heap.size + 1 < wr.heap.size := by omega
      have hS2 : w.heap.size < wr.heap.size := by omega
      have hAl : Below wr.heap.size wr (wr.alloc (Obj.cells #[.int .i64 ((kd xs j 0 : Nat) : Int), .int .i64 ((kd xs j 1 : Nat) : Int), .int .i64 ((kd xs j 2 : Nat) : Int), .int .i64 ((kd xs j 3 : Nat) : Int), .int .i64 ((kd xs j 4 : Nat) : Int), .int .i64 ((kd xs j 5 : Nat) : Int), .int .i64 ((kd xs j 6 : Nat) : Int), .int .i64 ((kd xs j 7 : Nat) : Int), .int .i64 ((kd xs j 8 : Nat) : Int), .int .i64 ((kd xs j 9 : Nat) : Int), .int .i64 (valOf xs j)] 57)) := (Below.refl _ _).alloc (Nat.le_refl _) _
      have hB1 : Below w.heap.size w (wr.alloc (Obj.cells #[.int .i64 ((kd xs j 0 : Nat) : Int), .int .i64 ((kd xs j 1 : Nat) : Int), .int .i64 ((kd xs j 2 : Nat) : Int), .int .i64 ((kd xs j 3 : Nat) : Int), .int .i64 ((kd xs j 4 : Nat) : Int), .int .i64 ((kd xs j 5 : Nat) : Int), .int .i64 ((kd xs j 6 : Nat) : Int), .int .i64 ((kd xs j 7 : Nat) : Int), .int .i64 ((kd xs j 8 : Nat) : Int), .int .i64 ((kd xs j 9 : Nat) : Int), .int .i64 (valOf xs j)] 57)) := hB.alloc hB.size _
      have hD1 : Dep (wr.alloc (Obj.cells #[.int .i64 ((kd xs j 0 : Nat) : Int), .int .i64 ((kd xs j 1 : Nat) : Int), .int .i64 ((kd xs j 2 : Nat) : Int), .int .i64 ((kd xs j 3 : Nat) : Int), .int .i64 ((kd xs j 4 : Nat) : Int), .int .i64 ((kd xs j 5 : Nat) : Int), .int .i64 ((kd xs j 6 : Nat) : Int), .int .i64 ((kd xs j 7 : Nat) : Int), .int .i64 ((kd xs j 8 : Nat) : Int), .int .i64 ((kd xs j 9 : Nat) : Int), .int .i64 (valOf xs j)] 57)) (w.heap.size + 1) n xs P j 0 := hD.below hS1 hAl
      have hX1 : (wr.alloc (Obj.cells #[.int .i64 ((kd xs j 0 : Nat) : Int), .int .i64 ((kd xs j 1 : Nat) : Int), .int .i64 ((kd xs j 2 : Nat) : Int), .int .i64 ((kd xs j 3 : Nat) : Int), .int .i64 ((kd xs j 4 : Nat) : Int), .int .i64 ((kd xs j 5 : Nat) : Int), .int .i64 ((kd xs j 6 : Nat) : Int), .int .i64 ((kd xs j 7 : Nat) : Int), .int .i64 ((kd xs j 8 : Nat) : Int), .int .i64 ((kd xs j 9 : Nat) : Int), .int .i64 (valOf xs j)] 57)).cell? ⟨w.heap.size, 0, none⟩ = some (.slice (some ⟨g, 0, none⟩) n c) := (hAl.cell (p := ⟨w.heap.size, 0, none⟩) hS2).trans hX
      have hz' := (hAl.cell (p := ⟨w.heap.size + 1, j, none⟩) hS1).trans hself
      have hS3 : w.heap.size + 2 ≤ (wr.alloc (Obj.cells #[.int .i64 ((kd xs j 0 : Nat) : Int), .int .i64 ((kd xs j 1 : Nat) : Int), .int .i64 ((kd xs j 2 : Nat) : Int), .int .i64 ((kd xs j 3 : Nat) : Int), .int .i64 ((kd xs j 4 : Nat) : Int), .int .i64 ((kd xs j 5 : Nat) : Int), .int .i64 ((kd xs j 6 : Nat) : Int), .int .i64 ((kd xs j 7 : Nat) : Int), .int .i64 ((kd xs j 8 : Nat) : Int), .int .i64 ((kd xs j 9 : Nat) : Int), .int .i64 (valOf xs j)] 57)).heap.size := by simp [go_sem]; omega
      have y0 : (wr.alloc (Obj.cells #[.int .i64 ((kd xs j 0 : Nat) : Int), .int .i64 ((kd xs j 1 : Nat) : Int), .int .i64 ((kd xs j 2 : Nat) : Int), .int .i64 ((kd xs j 3 : Nat) : Int), .int .i64 ((kd xs j 4 : Nat) : Int), .int .i64 ((kd xs j 5 : Nat) : Int), .int .i64 ((kd xs j 6 : Nat) : Int), .int .i64 ((kd xs j 7 : Nat) : Int), .int .i64 ((kd xs j 8 : Nat) : Int), .int .i64 ((kd xs j 9 : Nat) : Int), .int .i64 (valOf xs j)] 57)).cell? ⟨wr.heap.size, 0, none⟩ = some (.int .i64 ((kd xs j 0 : Nat) : Int)) := by simp [go_sem]
      have y10 : (wr.alloc (Obj.cells #[.int .i64 ((kd xs j 0 : Nat) : Int), .int .i64 ((kd xs j 1 : Nat) : Int), .int .i64 ((kd xs j 2 : Nat) : Int), .int .i64 ((kd xs j 3 : Nat) : Int), .int .i64 ((kd xs j 4 : Nat) : Int), .int .i64 ((kd xs j 5 : Nat) : Int), .int .i64 ((kd xs j 6 : Nat) : Int), .int .i64 ((kd xs j 7 : Nat) : Int), .int .i64 ((kd xs j 8 : Nat) : Int), .int .i64 ((kd xs j 9 : Nat) : Int), .int .i64 (valOf xs j)] 57)).cell? ⟨wr.heap.size, 10, none⟩ = some (.int .i64 (valOf xs j)) := by simp [go_sem]
      obtain ⟨LJ, hLJ⟩ : ∃ L, (P j).length = L := ⟨_, rfl⟩
      have hLpos : 0 < j → 0 < LJ := by
        intro h
        obtain ⟨p, e, hp, he, hk, hpp⟩ := hT.up j h hlt
        rw [← hLJ, hpp]
        simp
      rw [hLJ] at hz' hself
      have HLJ := Lib.hid hLJ
      rcases Nat.eq_zero_or_pos j with hj0 | hj0
      case' inl =>
        have j0 : decide (0 < (j : Int)) = false := decide_eq_false (by omega)
        have j0' : decide (0 < j) = false := decide_eq_false (by omega)
        clear hLJ hLpos hj0
        go_wp2_with fail
      case' inr =>
        have j0 : decide (0 < (j : Int)) = true := decide_eq_true (by omega)
        have j0' : decide (0 < j) = true := decide_eq_true hj0
        have hL1 : ((LJ : Int) == 0) = false := beq_eq_false_iff_ne.mpr (by have := hLpos hj0; omega)
        have hL1' : (LJ == 0) = false := beq_eq_false_iff_ne.mpr (by have := hLpos hj0; omega)
        clear hLJ hLpos
        go_wp2_with fail
      all_goals (
        obtain ⟨w4, hw4⟩ : ∃ W, (wr.alloc (Obj.cells #[.int .i64 ((kd xs j 0 : Nat) : Int), .int .i64 ((kd xs j 1 : Nat) : Int), .int .i64 ((kd xs j 2 : Nat) : Int), .int .i64 ((kd xs j 3 : Nat) : Int), .int .i64 ((kd xs j 4 : Nat) : Int), .int .i64 ((kd xs j 5 : Nat) : Int), .int .i64 ((kd xs j 6 : Nat) : Int), .int .i64 ((kd xs j 7 : Nat) : Int), .int .i64 ((kd xs j 8 : Nat) : Int), .int .i64 ((kd xs j 9 : Nat) : Int), .int .i64 (valOf xs j)] 57)) = W := ⟨_, rfl⟩
        rw [hw4] at hB1 hD1 hX1 hS3 ⊢
        clear x0 x1 x2 x3 x4 x5 x6 x7 x8 x9 x10 y0 y10 hz' hself hX hD hNr hD0 hX0 hB0 hAl j0 j0'
        go_loopw [51] (fun d W => ∃ q : Nat, q ≤ 10 ∧ d = .int .i64 (q : Int) ∧ Below w.heap.size w W ∧ Dep W (w.heap.size + 1) n xs P j q ∧ W.cell? ⟨w.heap.size, 0, none⟩ = some (.slice (some ⟨g, 0, none⟩) n c) ∧ w.heap.size + 2 ≤ W.heap.size) (fun d _ => 10 - (intOf d).toNat)
        case atStart => exact ⟨0, by omega, rfl, hB1, hD1, hX1, hS3⟩
        case round =>
          obtain ⟨q, hq, rfl, hB2, hD2, hX2, hS4⟩ := hrel
          by_cases hq10 : q < 10
          · have hq1 : decide ((q : Int) < 10) = true := decide_eq_true (by omega)
            have hix := fun W => ixk (fun e => ((kd xs j e : Nat) : Int)) q hq10 W
            obtain ⟨kk, hkk⟩ : ∃ kk, kd xs j q = kk := ⟨_, rfl⟩
            rw [hkk] at hix
            have hS5 : w.heap.size + 1 < wr.heap.size := by omega
            by_cases k0 : kk = 0
            · have e0 : ((kk : Int) == 0) = true := by rw [k0]; rfl
              have e0' : (kk == 0) = true := by rw [k0]; rfl
              have hD3 := hD2.skip (hkk.trans k0)
              have K0 := Lib.hid k0
              clear k0
              go_wp2_with fail
              go_roundw
              case rel => exact ⟨q + 1, by omega, rfl, hB2, hD3, hX2, hS4⟩
              case measure => simp [intOf]; omega
            · have hne : kd xs j q ≠ 0 := by omega
              have e0 : ((kk : Int) == 0) = false := beq_eq_false_iff_ne.mpr (by omega)
              have e0' : (kk == 0) = false := beq_eq_false_iff_ne.mpr k0
              obtain ⟨hp1, hp2⟩ := hT.down j q hlt hq10 hne
              have hkn := (hT.ok.kd hlt hq10).1
              have hzm := hD2.kid hT hlt hq10 hne
              have hzj := hD2.self hT hlt
              have hD5 := hD2.put hT hlt hq10 hne
              have hL15 := hlen _ hkn
              rw [hp1] at hL15
              simp only [List.length_append, List.length_cons, List.length_nil] at hL15
              rw [hkk] at hkn hp2 hzm hD5
              rw [HLJ.out] at hzj hD5 hL15
              have hfm := hD2.thaw kk
              have e1 : decide ((kk : Int) ≤ (j : Int)) = false := decide_eq_false (by omega)
              have e1' : decide (kk ≤ j) = false := decide_eq_false (by omega)
              have e2 : decide ((n : Int) ≤ (kk : Int)) = false := decide_eq_false (by omega)
              have e2' : decide (n ≤ kk) = false := decide_eq_false (by omega)
              have e3 : decide ((kk : Int) < (n : Int)) = true := decide_eq_true (by omega)
              have e3' : decide (kk < n) = true := decide_eq_true hkn
              have e5 : ((LJ : Int) == 15) = false := beq_eq_false_iff_ne.mpr (by omega)
              have e5' : (LJ == 15) = false := beq_eq_false_iff_ne.mpr (by omega)
              have hw : IntKind.i64.wrap ((LJ : Int) + 1) = (LJ : Int) + 1 := by rw [IntKind.wrap_i64]; omega
              have hw' : wrap64 ((LJ : Int) + 1) = (LJ : Int) + 1 := IntWalk.wrap64_in _ ⟨by omega, by omega⟩
              have K := Lib.hid (And.intro k0 (And.intro hne (And.intro hp1 hp2)))
              clear k0 hne hp1 hp2
              have hB5 : Below w.heap.size w (wr.setCell ⟨w.heap.size + 1, kk, none⟩ (.int .i64 ((LJ : Int) + 1))) := hB2.setCell (by show w.heap.size ≤ w.heap.size + 1; omega) _
              have hX5 : (wr.setCell ⟨w.heap.size + 1, kk, none⟩ (.int .i64 ((LJ : Int) + 1))).cell? ⟨w.heap.size, 0, none⟩ = some (.slice (some ⟨g, 0, none⟩) n c) := (World.cell?_setCell_other _ _ _ _ (by intro h; injection h with h; omega)).trans hX2
              have hS6 : w.heap.size + 2 ≤ (wr.setCell ⟨w.heap.size + 1, kk, none⟩ (.int .i64 ((LJ : Int) + 1))).heap.size := by simpa [World.setCell] using hS4
              go_wp2_with fail
              all_goals first | exact ⟨⟨q + 1, by omega, rfl, hB5, hD5, hX5, hS6⟩, by simp [intOf]; omega⟩ | trace_state
          · have hq1 : decide ((q : Int) < 10) = false := decide_eq_false (by omega)
            have hqe : q = 10 := by omega
            subst hqe
            go_wp2_with fail
            go_roundw
            case rel => exact ⟨j + 1, by omega, rfl, hB2, hD2.next, hX2, hS4⟩
            case measure => simp [intOf]; omega)
    · have hlt' : decide ((j : Int) < (n : Int)) = false := decide_eq_false (by omega)
      go_wp2_with fail
      try rw [Exit.noGoto_ret]
      refine bodyPost_ret (v := .int .i64 0) (by simp [results, Tryd.f17, go_sem]) rfl ⟨rfl, hB⟩
end Go.Proofs.YtegblcdnmcnngaaDoor.TB
