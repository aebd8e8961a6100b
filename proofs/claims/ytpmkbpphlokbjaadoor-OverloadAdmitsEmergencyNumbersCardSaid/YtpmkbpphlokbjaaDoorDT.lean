/- trie.Check of the given program answers at every list of nodes, and leaves what lay below. -/
import Derived.Test.YtpmkbpphlokbjaaDoorDA
import Derived.Below
import Derived.OwnWalk
import Derived.Deep.OwnRows
import Derived.KernelRfl
import Derived.RowKit3
import Derived.Laws.IdiomCopy
import Derived.Lib.Hide
set_option linter.unusedVariables false
set_option linter.unusedSimpArgs false
namespace Go.Proofs.YtpmkbpphlokbjaaDoor.EM
open Go.RowKit
/-- n nodes from a row's head on: ten kids and a value each -/
structure Nodes (W : World) (g n : Nat) (kid : Nat → Nat → Int) (val : Nat → Int) : Prop where
  kids : ∀ i d, i < n → d < 10 → W.cell? ⟨g, i * 11 + d, none⟩ = some (.int .i64 (kid i d))
  vals : ∀ i, i < n → W.cell? ⟨g, i * 11 + 10, none⟩ = some (.int .i64 (val i))
theorem cell_lt {W : World} {b n : Nat} {v : Value} (h : W.cell? ⟨b, n, none⟩ = some v) : b < W.heap.size := by
  rcases Nat.lt_or_ge b W.heap.size with hl | hl
  · exact hl
  · simp [World.cell?, Array.getElem?_eq_none hl] at h
theorem Nodes.below {W W' : World} {g n : Nat} {kid : Nat → Nat → Int} {val : Nat → Int} (h : Nodes W g n kid val) (hb : Below W.heap.size W W') : Nodes W' g n kid val :=
  ⟨fun i d hi hd => (hb.cell (p := ⟨g, i * 11 + d, none⟩) (cell_lt (h.kids i d hi hd))).trans (h.kids i d hi hd), fun i hi => (hb.cell (p := ⟨g, i * 11 + 10, none⟩) (cell_lt (h.vals i hi))).trans (h.vals i hi)⟩
/-- a row of n numbers -/
structure Nums (W : World) (b n : Nat) : Prop where
  nums : ∀ k, k < n → ∃ z, W.cell? ⟨b, k, none⟩ = some (.int .i64 z)
  thaw : ∀ k, W.frozen? ⟨b, k, none⟩ = false
theorem nums_new (W : World) (n : Nat) : Nums (W.alloc (.cells (madeCells #[.int .i64 0] n) 3)) W.heap.size n :=
  ⟨fun k hk => ⟨0, by rw [World.cell?_alloc_at (w := W) _ _ W.heap.size k rfl]; simp [madeCells, hk, Nat.mod_one]⟩, fun k => World.frozen?_alloc_at (w := W) _ _ W.heap.size k rfl⟩
theorem Nums.below {W W' : World} {b n : Nat} (h : Nums W b n) (hl : b < W.heap.size) (hb : Below W.heap.size W W') : Nums W' b n :=
  ⟨fun k hk => by obtain ⟨z, hz⟩ := h.nums k hk; exact ⟨z, (hb.cell (p := ⟨b, k, none⟩) hl).trans hz⟩, fun k => (hb.frozen (p := ⟨b, k, none⟩) hl).trans (h.thaw k)⟩
theorem set_same {W : World} {b k : Nat} {v y : Value} (hy : W.cell? ⟨b, k, none⟩ = some y) : (W.setCell ⟨b, k, none⟩ v).cell? ⟨b, k, none⟩ = some v := by
  have := World.cell?_setCells_in b [v] k W (fun q hq => by
    have h0 : q = 0 := by simpa using hq
    rw [h0, Nat.add_zero, hy]
    rfl) 0 (by simp)
  simpa [World.setCells] using this
theorem Nums.set {W : World} {b n k : Nat} {z : Int} (h : Nums W b n) (hk : k < n) : Nums (W.setCell ⟨b, k, none⟩ (.int .i64 z)) b n :=
  ⟨fun j hj => by
    by_cases hjk : j = k
    · subst hjk
      obtain ⟨y, hy⟩ := h.nums j hj
      exact ⟨z, set_same hy⟩
    · obtain ⟨y, hy⟩ := h.nums j hj
      exact ⟨y, by rw [World.cell?_setCell_other _ _ _ _ (by intro h; cases h; exact hjk rfl)]; exact hy⟩, fun j => by rw [World.frozen?_setCell]; exact h.thaw j⟩
theorem iq0 (x0 x1 x2 x3 x4 x5 x6 x7 x8 x9 : Int) (W : World) : (Instr.index 70 (.agg #[.int .i64 x0, .int .i64 x1, .int .i64 x2, .int .i64 x3, .int .i64 x4, .int .i64 x5, .int .i64 x6, .int .i64 x7, .int .i64 x8, .int .i64 x9]) (.int .i64 0)).run Tryd.prog W = .ok (.int .i64 x0) W := by kernel_rfl
theorem iq1 (x0 x1 x2 x3 x4 x5 x6 x7 x8 x9 : Int) (W : World) : (Instr.index 70 (.agg #[.int .i64 x0, .int .i64 x1, .int .i64 x2, .int .i64 x3, .int .i64 x4, .int .i64 x5, .int .i64 x6, .int .i64 x7, .int .i64 x8, .int .i64 x9]) (.int .i64 1)).run Tryd.prog W = .ok (.int .i64 x1) W := by kernel_rfl
theorem iq2 (x0 x1 x2 x3 x4 x5 x6 x7 x8 x9 : Int) (W : World) : (Instr.index 70 (.agg #[.int .i64 x0, .int .i64 x1, .int .i64 x2, .int .i64 x3, .int .i64 x4, .int .i64 x5, .int .i64 x6, .int .i64 x7, .int .i64 x8, .int .i64 x9]) (.int .i64 2)).run Tryd.prog W = .ok (.int .i64 x2) W := by kernel_rfl
theorem iq3 (x0 x1 x2 x3 x4 x5 x6 x7 x8 x9 : Int) (W : World) : (Instr.index 70 (.agg #[.int .i64 x0, .int .i64 x1, .int .i64 x2, .int .i64 x3, .int .i64 x4, .int .i64 x5, .int .i64 x6, .int .i64 x7, .int .i64 x8, .int .i64 x9]) (.int .i64 3)).run Tryd.prog W = .ok (.int .i64 x3) W := by kernel_rfl
theorem iq4 (x0 x1 x2 x3 x4 x5 x6 x7 x8 x9 : Int) (W : World) : (Instr.index 70 (.agg #[.int .i64 x0, .int .i64 x1, .int .i64 x2, .int .i64 x3, .int .i64 x4, .int .i64 x5, .int .i64 x6, .int .i64 x7, .int .i64 x8, .int .i64 x9]) (.int .i64 4)).run Tryd.prog W = .ok (.int .i64 x4) W := by kernel_rfl
theorem iq5 (x0 x1 x2 x3 x4 x5 x6 x7 x8 x9 : Int) (W : World) : (Instr.index 70 (.agg #[.int .i64 x0, .int .i64 x1, .int .i64 x2, .int .i64 x3, .int .i64 x4, .int .i64 x5, .int .i64 x6, .int .i64 x7, .int .i64 x8, .int .i64 x9]) (.int .i64 5)).run Tryd.prog W = .ok (.int .i64 x5) W := by kernel_rfl
theorem iq6 (x0 x1 x2 x3 x4 x5 x6 x7 x8 x9 : Int) (W : World) : (Instr.index 70 (.agg #[.int .i64 x0, .int .i64 x1, .int .i64 x2, .int .i64 x3, .int .i64 x4, .int .i64 x5, .int .i64 x6, .int .i64 x7, .int .i64 x8, .int .i64 x9]) (.int .i64 6)).run Tryd.prog W = .ok (.int .i64 x6) W := by kernel_rfl
theorem iq7 (x0 x1 x2 x3 x4 x5 x6 x7 x8 x9 : Int) (W : World) : (Instr.index 70 (.agg #[.int .i64 x0, .int .i64 x1, .int .i64 x2, .int .i64 x3, .int .i64 x4, .int .i64 x5, .int .i64 x6, .int .i64 x7, .int .i64 x8, .int .i64 x9]) (.int .i64 7)).run Tryd.prog W = .ok (.int .i64 x7) W := by kernel_rfl
theorem iq8 (x0 x1 x2 x3 x4 x5 x6 x7 x8 x9 : Int) (W : World) : (Instr.index 70 (.agg #[.int .i64 x0, .int .i64 x1, .int .i64 x2, .int .i64 x3, .int .i64 x4, .int .i64 x5, .int .i64 x6, .int .i64 x7, .int .i64 x8, .int .i64 x9]) (.int .i64 8)).run Tryd.prog W = .ok (.int .i64 x8) W := by kernel_rfl
theorem iq9 (x0 x1 x2 x3 x4 x5 x6 x7 x8 x9 : Int) (W : World) : (Instr.index 70 (.agg #[.int .i64 x0, .int .i64 x1, .int .i64 x2, .int .i64 x3, .int .i64 x4, .int .i64 x5, .int .i64 x6, .int .i64 x7, .int .i64 x8, .int .i64 x9]) (.int .i64 9)).run Tryd.prog W = .ok (.int .i64 x9) W := by kernel_rfl
theorem ixk (f : Nat → Int) (q : Nat) (hq : q < 10) (W : World) : (Instr.index 70 (.agg #[.int .i64 (f 0), .int .i64 (f 1), .int .i64 (f 2), .int .i64 (f 3), .int .i64 (f 4), .int .i64 (f 5), .int .i64 (f 6), .int .i64 (f 7), .int .i64 (f 8), .int .i64 (f 9)]) (.int .i64 (q : Int))).run Tryd.prog W = .ok (.int .i64 (f q)) W := by
  match q, hq with
  | 0, _ => exact iq0 (f 0) (f 1) (f 2) (f 3) (f 4) (f 5) (f 6) (f 7) (f 8) (f 9) W
  | 1, _ => exact iq1 (f 0) (f 1) (f 2) (f 3) (f 4) (f 5) (f 6) (f 7) (f 8) (f 9) W
  | 2, _ => exact iq2 (f 0) (f 1) (f 2) (f 3) (f 4) (f 5) (f 6) (f 7) (f 8) (f 9) W
  | 3, _ => exact iq3 (f 0) (f 1) (f 2) (f 3) (f 4) (f 5) (f 6) (f 7) (f 8) (f 9) W
  | 4, _ => exact iq4 (f 0) (f 1) (f 2) (f 3) (f 4) (f 5) (f 6) (f 7) (f 8) (f 9) W
  | 5, _ => exact iq5 (f 0) (f 1) (f 2) (f 3) (f 4) (f 5) (f 6) (f 7) (f 8) (f 9) W
  | 6, _ => exact iq6 (f 0) (f 1) (f 2) (f 3) (f 4) (f 5) (f 6) (f 7) (f 8) (f 9) W
  | 7, _ => exact iq7 (f 0) (f 1) (f 2) (f 3) (f 4) (f 5) (f 6) (f 7) (f 8) (f 9) W
  | 8, _ => exact iq8 (f 0) (f 1) (f 2) (f 3) (f 4) (f 5) (f 6) (f 7) (f 8) (f 9) W
  | 9, _ => exact iq9 (f 0) (f 1) (f 2) (f 3) (f 4) (f 5) (f 6) (f 7) (f 8) (f 9) W
theorem info3 : (Tryd.prog.info? 3).map (fun i => (i.zero, i.size, i.bytes)) = some (some (.int .i64 0), 1, 8) := by kernel_rfl
set_option maxRecDepth 100000 in
set_option maxHeartbeats 8000000 in
theorem check33 {g n c : Nat} {kid : Nat → Nat → Int} {val : Nat → Int} {w : World} (hN : Nodes w g n kid val) (hnc : n ≤ c) :
    Calls Tryd.prog 33 #[.agg #[.slice (some ⟨g, 0, none⟩) n c]] w fun e w' => (∃ r, e = .returned (.int .i64 r)) ∧ Below w.heap.size w w' := by
  obtain ⟨i3, hi3, hz3⟩ := Option.map_eq_some_iff.1 info3
  simp only [Prod.mk.injEq] at hz3
  obtain ⟨hz0, hz1, hz2⟩ := hz3
  by_cases h4 : n ≤ 4096
  case neg =>
    have d1 : decide (4096 < (n : Int)) = true := decide_eq_true (by omega)
    have d1' : decide (4096 < n) = true := decide_eq_true (by omega)
    go_enter Tryd.func33, Tryd.ntmps33
    go_wp2_with fail
    refine ⟨rfl, .int .i64 2, ?res, ⟨_, rfl⟩, (Below.refl _ _).alloc (Nat.le_refl _) _⟩
    case res => simp [go_sem, results, Tryd.f33]
  have d1 : decide (4096 < (n : Int)) = false := decide_eq_false (by omega)
  have d1' : decide (4096 < n) = false := decide_eq_false (by omega)
  by_cases h0 : n = 0
  · subst h0
    go_enter Tryd.func33, Tryd.ntmps33
    go_wp2_with fail
    refine ⟨rfl, .int .i64 1, ?res2, ⟨_, rfl⟩, (Below.refl _ _).alloc (Nat.le_refl _) _⟩
    case res2 => simp [go_sem, results, Tryd.f33]
  have d2 : ((n : Int) == 0) = false := beq_eq_false_iff_ne.mpr (by omega)
  have d2' : (n == 0) = false := beq_eq_false_iff_ne.mpr h0
  go_enter Tryd.func33, Tryd.ntmps33
  go_wp2_with fail
  rw [run_make_row (P := Tryd.prog) 95 3 i3 (.int .i64 0) Tryd.underlying95 hi3 hz0 hz1 rfl .i64 .i64 n (by rw [hz2]; omega) (by omega)]
  have hds : (w.alloc (Obj.cells #[Value.slice (some ⟨g, 0, none⟩) n c] 56)).heap.size = w.heap.size + 1 := by simp [go_sem]
  have hD0 : Nums ((w.alloc (Obj.cells #[Value.slice (some ⟨g, 0, none⟩) n c] 56)).alloc (Obj.cells (madeCells #[Value.int .i64 0] n) 3)) (w.heap.size + 1) n := by
    have := nums_new (w.alloc (Obj.cells #[Value.slice (some ⟨g, 0, none⟩) n c] 56)) n
    rwa [hds] at this
  have hB0 : Below w.heap.size w ((w.alloc (Obj.cells #[Value.slice (some ⟨g, 0, none⟩) n c] 56)).alloc (Obj.cells (madeCells #[Value.int .i64 0] n) 3)) := ((Below.refl _ _).alloc (Nat.le_refl _) _).alloc (by simp [go_sem]) _
  have hX0 : ((w.alloc (Obj.cells #[Value.slice (some ⟨g, 0, none⟩) n c] 56)).alloc (Obj.cells (madeCells #[Value.int .i64 0] n) 3)).cell? ⟨w.heap.size, 0, none⟩ = some (.slice (some ⟨g, 0, none⟩) n c) := by simp [go_sem]
  have hS0 : w.heap.size + 2 ≤ ((w.alloc (Obj.cells #[Value.slice (some ⟨g, 0, none⟩) n c] 56)).alloc (Obj.cells (madeCells #[Value.int .i64 0] n) 3)).heap.size := by simp [go_sem]
  obtain ⟨w0, hw0⟩ : ∃ W, (w.alloc (Obj.cells #[Value.slice (some ⟨g, 0, none⟩) n c] 56)).alloc (Obj.cells (madeCells #[Value.int .i64 0] n) 3) = W := ⟨_, rfl⟩
  rw [hw0] at hD0 hB0 hX0 hS0 ⊢
  rw [hds]
  go_wp2_with fail
  go_loopw [25] (fun i W => ∃ j : Nat, j ≤ n ∧ i = .int .i64 (j : Int) ∧ Below w.heap.size w W ∧ Nums W (w.heap.size + 1) n ∧ W.cell? ⟨w.heap.size, 0, none⟩ = some (.slice (some ⟨g, 0, none⟩) n c) ∧ w.heap.size + 2 ≤ W.heap.size) (fun i _ => n - (intOf i).toNat)
  case atStart => exact ⟨0, by omega, rfl, hB0, hD0, hX0, hS0⟩
  case round =>
    obtain ⟨j, hj, rfl, hB, hD, hX, hS⟩ := hrel
    by_cases hlt : j < n
    · have hlt' : decide ((j : Int) < (n : Int)) = true := decide_eq_true (by omega)
      have hNr : Nodes wr g n kid val := ⟨fun i d hi hd => (hB.cell (p := ⟨g, i * 11 + d, none⟩) (cell_lt (hN.kids i d hi hd))).trans (hN.kids i d hi hd), fun i hi => (hB.cell (p := ⟨g, i * 11 + 10, none⟩) (cell_lt (hN.vals i hi))).trans (hN.vals i hi)⟩
      have x0 : wr.cell? ⟨g, j * 11, none⟩ = _ := hNr.kids j 0 hlt (by decide)
      have x1 : wr.cell? ⟨g, j * 11 + 1, none⟩ = _ := hNr.kids j 1 hlt (by decide)
      have x2 : wr.cell? ⟨g, j * 11 + 2, none⟩ = _ := hNr.kids j 2 hlt (by decide)
      have x3 : wr.cell? ⟨g, j * 11 + 3, none⟩ = _ := hNr.kids j 3 hlt (by decide)
      have x4 : wr.cell? ⟨g, j * 11 + 4, none⟩ = _ := hNr.kids j 4 hlt (by decide)
      have x5 : wr.cell? ⟨g, j * 11 + 5, none⟩ = _ := hNr.kids j 5 hlt (by decide)
      have x6 : wr.cell? ⟨g, j * 11 + 6, none⟩ = _ := hNr.kids j 6 hlt (by decide)
      have x7 : wr.cell? ⟨g, j * 11 + 7, none⟩ = _ := hNr.kids j 7 hlt (by decide)
      have x8 : wr.cell? ⟨g, j * 11 + 8, none⟩ = _ := hNr.kids j 8 hlt (by decide)
      have x9 : wr.cell? ⟨g, j * 11 + 9, none⟩ = _ := hNr.kids j 9 hlt (by decide)
      have x10 : wr.cell? ⟨g, j * 11 + 10, none⟩ = _ := hNr.vals j hlt
      obtain ⟨z, hz⟩ := hD.nums j hlt
      have hwr : w.heap.size ≤ wr.heap.size := by omega
      have hS1 : w.heap.size + 1 < wr.heap.size := by omega
      have hS2 : w.heap.size < wr.heap.size := by omega
      have hz' : (wr.alloc (Obj.cells #[.int .i64 (kid j 0), .int .i64 (kid j 1), .int .i64 (kid j 2), .int .i64 (kid j 3), .int .i64 (kid j 4), .int .i64 (kid j 5), .int .i64 (kid j 6), .int .i64 (kid j 7), .int .i64 (kid j 8), .int .i64 (kid j 9), .int .i64 (val j)] 72)).cell? ⟨w.heap.size + 1, j, none⟩ = some (.int .i64 z) := (Below.cell (p := ⟨w.heap.size + 1, j, none⟩) ((Below.refl wr.heap.size wr).alloc (Nat.le_refl _) _) hS1).trans hz
      go_wp2_with fail
      all_goals first | (exact bodyPost_ret (v := .int .i64 1) (by simp [results, Tryd.f33, go_sem]) rfl ⟨⟨_, rfl⟩, hB.alloc hB.size _⟩) | skip
      all_goals (
        have hB1 : Below w.heap.size w (wr.alloc (Obj.cells #[.int .i64 (kid j 0), .int .i64 (kid j 1), .int .i64 (kid j 2), .int .i64 (kid j 3), .int .i64 (kid j 4), .int .i64 (kid j 5), .int .i64 (kid j 6), .int .i64 (kid j 7), .int .i64 (kid j 8), .int .i64 (kid j 9), .int .i64 (val j)] 72)) := hB.alloc hB.size _
        have hD1 : Nums (wr.alloc (Obj.cells #[.int .i64 (kid j 0), .int .i64 (kid j 1), .int .i64 (kid j 2), .int .i64 (kid j 3), .int .i64 (kid j 4), .int .i64 (kid j 5), .int .i64 (kid j 6), .int .i64 (kid j 7), .int .i64 (kid j 8), .int .i64 (kid j 9), .int .i64 (val j)] 72)) (w.heap.size + 1) n := hD.below hS1 ((Below.refl _ _).alloc (Nat.le_refl _) _)
        have hX1 : (wr.alloc (Obj.cells #[.int .i64 (kid j 0), .int .i64 (kid j 1), .int .i64 (kid j 2), .int .i64 (kid j 3), .int .i64 (kid j 4), .int .i64 (kid j 5), .int .i64 (kid j 6), .int .i64 (kid j 7), .int .i64 (kid j 8), .int .i64 (kid j 9), .int .i64 (val j)] 72)).cell? ⟨w.heap.size, 0, none⟩ = some (.slice (some ⟨g, 0, none⟩) n c) := (Below.cell (p := ⟨w.heap.size, 0, none⟩) ((Below.refl wr.heap.size wr).alloc (Nat.le_refl _) _) hS2).trans hX
        have hS3 : w.heap.size + 2 ≤ (wr.alloc (Obj.cells #[.int .i64 (kid j 0), .int .i64 (kid j 1), .int .i64 (kid j 2), .int .i64 (kid j 3), .int .i64 (kid j 4), .int .i64 (kid j 5), .int .i64 (kid j 6), .int .i64 (kid j 7), .int .i64 (kid j 8), .int .i64 (kid j 9), .int .i64 (val j)] 72)).heap.size := by simp [go_sem]; omega
        obtain ⟨w4, hw4⟩ : ∃ W, wr.alloc (Obj.cells #[.int .i64 (kid j 0), .int .i64 (kid j 1), .int .i64 (kid j 2), .int .i64 (kid j 3), .int .i64 (kid j 4), .int .i64 (kid j 5), .int .i64 (kid j 6), .int .i64 (kid j 7), .int .i64 (kid j 8), .int .i64 (kid j 9), .int .i64 (val j)] 72) = W := ⟨_, rfl⟩
        rw [hw4] at hB1 hD1 hX1 hS3 ⊢
        clear x0 x1 x2 x3 x4 x5 x6 x7 x8 x9 x10 hz hz' hX hD hNr hD0 hX0 hB0
        go_loopw [51] (fun d W => ∃ q : Nat, q ≤ 10 ∧ d = .int .i64 (q : Int) ∧ Below w.heap.size w W ∧ Nums W (w.heap.size + 1) n ∧ W.cell? ⟨w.heap.size, 0, none⟩ = some (.slice (some ⟨g, 0, none⟩) n c) ∧ w.heap.size + 2 ≤ W.heap.size) (fun d _ => 10 - (intOf d).toNat)
        case atStart => exact ⟨0, by omega, rfl, hB1, hD1, hX1, hS3⟩
        case round =>
          obtain ⟨q, hq, rfl, hB2, hD2, hX2, hS4⟩ := hrel
          by_cases hq10 : q < 10
          · have hq1 : decide ((q : Int) < 10) = true := decide_eq_true (by omega)
            have hix := fun W => ixk (kid j) q hq10 W
            obtain ⟨kk, hkk⟩ : ∃ kk, kid j q = kk := ⟨_, rfl⟩
            rw [hkk] at hix
            have hS5 : w.heap.size + 1 < wr.heap.size := by omega
            by_cases k0 : kk = 0
            · have e0 : (kk == 0) = true := by rw [k0]; rfl
              have K0 := Lib.hid k0
              clear k0
              go_wp2_with fail
              go_roundw
              case rel => exact ⟨q + 1, by omega, rfl, hB2, hD2, hX2, hS4⟩
              case measure => simp [intOf]; omega
            · have e0 : (kk == 0) = false := beq_eq_false_iff_ne.mpr k0
              have K0 := Lib.hid k0
              clear k0
              by_cases k1 : kk ≤ (j : Int)
              · have e1 : decide (kk ≤ (j : Int)) = true := decide_eq_true k1
                have K1 := Lib.hid k1
                clear k1
                go_wp2_with fail
                exact bodyPost_ret (v := .int .i64 1) (by simp [results, Tryd.f33, go_sem]) rfl ⟨⟨_, rfl⟩, hB2⟩
              · by_cases k2 : (n : Int) ≤ kk
                · have e1 : decide (kk ≤ (j : Int)) = false := decide_eq_false k1
                  have e2 : decide ((n : Int) ≤ kk) = true := decide_eq_true k2
                  have K1 := Lib.hid k1
                  have K2 := Lib.hid k2
                  clear k1 k2
                  go_wp2_with fail
                  exact bodyPost_ret (v := .int .i64 1) (by simp [results, Tryd.f33, go_sem]) rfl ⟨⟨_, rfl⟩, hB2⟩
                · have e1 : decide (kk ≤ (j : Int)) = false := decide_eq_false k1
                  have e2 : decide ((n : Int) ≤ kk) = false := decide_eq_false k2
                  obtain ⟨m, rfl⟩ : ∃ m : Nat, kk = (m : Int) := ⟨kk.toNat, by omega⟩
                  have hm : m < n := by omega
                  obtain ⟨zm, hzm⟩ := hD2.nums m hm
                  obtain ⟨zj, hzj⟩ := hD2.nums j hlt
                  have hfm := hD2.thaw m
                  have e3 : decide ((m : Int) < (n : Int)) = true := decide_eq_true (by omega)
                  have K1 := Lib.hid k1
                  have K2 := Lib.hid k2
                  clear k1 k2
                  by_cases z0 : 0 < zm
                  · have e4 : decide (0 < zm) = true := decide_eq_true z0
                    have Z0 := Lib.hid z0
                    clear z0
                    go_wp2_with fail
                    all_goals exact bodyPost_ret (v := .int .i64 1) (by simp [results, Tryd.f33, go_sem]) rfl ⟨⟨_, rfl⟩, hB2⟩
                  · have e4 : decide (0 < zm) = false := decide_eq_false z0
                    have Z0 := Lib.hid z0
                    clear z0
                    by_cases z1 : zj = 15
                    · have e5 : (zj == 15) = true := by rw [z1]; rfl
                      have Z1 := Lib.hid z1
                      clear z1
                      go_wp2_with fail
                      all_goals exact bodyPost_ret (v := .int .i64 1) (by simp [results, Tryd.f33, go_sem]) rfl ⟨⟨_, rfl⟩, hB2⟩
                    · have e5 : (zj == 15) = false := beq_eq_false_iff_ne.mpr z1
                      have Z1 := Lib.hid z1
                      clear z1
                      have hB5 : Below w.heap.size w (wr.setCell ⟨w.heap.size + 1, m, none⟩ (.int .i64 (wrap64 (zj + 1)))) := hB2.setCell (by show w.heap.size ≤ w.heap.size + 1; omega) _
                      have hD5 : Nums (wr.setCell ⟨w.heap.size + 1, m, none⟩ (.int .i64 (wrap64 (zj + 1)))) (w.heap.size + 1) n := hD2.set hm
                      have hX5 : (wr.setCell ⟨w.heap.size + 1, m, none⟩ (.int .i64 (wrap64 (zj + 1)))).cell? ⟨w.heap.size, 0, none⟩ = some (.slice (some ⟨g, 0, none⟩) n c) := (World.cell?_setCell_other _ _ _ _ (by intro h; injection h with h; omega)).trans hX2
                      have hS6 : w.heap.size + 2 ≤ (wr.setCell ⟨w.heap.size + 1, m, none⟩ (.int .i64 (wrap64 (zj + 1)))).heap.size := by simpa [World.setCell] using hS4
                      go_wp2_with fail
                      all_goals first | exact bodyPost_ret (v := .int .i64 1) (by simp [results, Tryd.f33, go_sem]) rfl ⟨⟨_, rfl⟩, hB2⟩ | exact ⟨⟨_, _, _, ⟨q + 1, by omega, rfl, hB5, hD5, hX5, hS6⟩, rfl, rfl, rfl⟩, by simp [intOf]; omega⟩ | exact ⟨⟨q + 1, by omega, rfl, hB5, hD5, hX5, hS6⟩, by simp [intOf]; omega⟩ | exact ⟨⟨_, _, _, ⟨q + 1, by omega, rfl⟩, rfl, rfl, rfl⟩, by simp [intOf]; omega⟩ | exact ⟨⟨q + 1, by omega, rfl⟩, by simp [intOf]; omega⟩ | trace_state
          · have hq1 : decide ((q : Int) < 10) = false := decide_eq_false (by omega)
            have hqe : q = 10 := by omega
            go_wp2_with fail
            go_roundw
            case rel => exact ⟨j + 1, by omega, rfl, hB2, hD2, hX2, hS4⟩
            case measure => simp [intOf]; omega)
    · have hlt' : decide ((j : Int) < (n : Int)) = false := decide_eq_false (by omega)
      go_wp2_with fail
      try rw [Exit.noGoto_ret]
      refine bodyPost_ret (v := .int .i64 0) (by simp [results, Tryd.f33, go_sem]) rfl ⟨⟨_, rfl⟩, hB⟩
end Go.Proofs.YtpmkbpphlokbjaaDoor.EM
