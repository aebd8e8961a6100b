/- The contract of isup.Check at the backward messages of the terminating half call: it answers 0 and leaves what lay below. -/
import Derived.Test.YtenaokgcljpcgaaDoorHD
import Derived.LoopN
set_option linter.unusedVariables false
set_option linter.unusedSimpArgs false
namespace Go.Proofs.YtenaokgcljpcgaaDoor.GA
open Go.RowKit Go.Proofs.YtenaokgcljpcgaaDoorW.PrintWords Go.Proofs.YtenaokgcljpcgaaDoorW.PrintLast Go.Proofs.YtenaokgcljpcgaaDoorW.PrintMore
/-- what lay in w1, the block s aside, lies in W too -/
structure Same (w1 W : World) (s : Nat) : Prop where
  size : w1.heap.size ≤ W.heap.size
  blk : ∀ b, b ≠ s → b < w1.heap.size → W.heap[b]? = w1.heap[b]?
theorem Same.rfl {w1 : World} {s : Nat} : Same w1 w1 s := ⟨Nat.le_refl _, fun _ _ _ => Eq.refl _⟩
theorem Same.alloc {w1 W : World} {s : Nat} (h : Same w1 W s) (X : Obj) : Same w1 (W.alloc X) s :=
  ⟨Nat.le_trans h.size (by simp [go_sem]), fun b h1 h2 => (Below.heap_alloc _ _ b (Nat.lt_of_lt_of_le h2 h.size)).trans (h.blk b h1 h2)⟩
theorem Same.below {w1 W W' : World} {s : Nat} (h : Same w1 W s) (hb : Below W.heap.size W W') : Same w1 W' s :=
  ⟨Nat.le_trans h.size hb.size, fun b h1 h2 => (hb.block b (Nat.lt_of_lt_of_le h2 h.size)).trans (h.blk b h1 h2)⟩
theorem Same.set {w1 W : World} {s n : Nat} (h : Same w1 W s) (v : Value) : Same w1 (W.setCell ⟨s, n, none⟩ v) s :=
  ⟨by simpa [World.setCell] using h.size, fun b h1 h2 => (Below.heap_setCell W ⟨s, n, none⟩ v b h1).trans (h.blk b h1 h2)⟩
theorem cell_lt {W : World} {b n : Nat} {v : Value} (h : W.cell? ⟨b, n, none⟩ = some v) : b < W.heap.size := by
  rcases Nat.lt_or_ge b W.heap.size with hl | hl
  · exact hl
  · simp [World.cell?, Array.getElem?_eq_none hl] at h
theorem Same.cell {w1 W : World} {s g n : Nat} {v : Value} (h : Same w1 W s) (hne : g ≠ s) (hc : w1.cell? ⟨g, n, none⟩ = some v) : W.cell? ⟨g, n, none⟩ = some v := (cell_heap (h.blk g hne (cell_lt hc))).trans hc
theorem Same.fi {w1 W : World} {s base o f t g : Nat} {v : Value} {x y : Int} (h : Same w1 W s) (hf : FI w1 base o f t v g x y) (hs : s < base) : FI W base o f t v g x y := hf.mv (Nat.le_refl _) h.size (fun k h1 h2 => h.blk k (by omega) h2)
theorem Same.fb {w1 W : World} {s base o g : Nat} {v : Value} (h : Same w1 W s) (hf : FB w1 base o v g) (hs : s < base) : FB W base o v g := hf.mv (Nat.le_refl _) h.size (fun k h1 h2 => h.blk k (by omega) h2)
set_option maxRecDepth 100000 in
set_option maxHeartbeats 8000000 in
theorem check22 (k ref cause : Int) (w : World) (h3 : 3 ≤ k) (h7 : k ≤ 7) (hr1 : 1 ≤ ref) (hr2 : ref ≤ 65536) (hc7 : k = 7 → 1 ≤ cause ∧ cause ≤ 127) (hc : k ≠ 7 → cause = 0) :
    Calls Tryd.prog 22 #[.agg #[.int .i64 k, .int .i64 1, .int .i64 ref, .int .i64 0, .int .i64 cause, .string ⟨#[]⟩, .string ⟨#[]⟩, .string ⟨#[]⟩, .bool false, .bool false]] w fun e w' => e = .returned (.int .i64 0) ∧ Below w.heap.size w w' := by
  have h51 : ∀ (args : Array Value) (w : World), (callFunc 51 args).run Tryd.prog w = .ok (.enter 51 args) w := enters_ Tryd.func51 (by kernel_rfl) rfl
  have h52 : ∀ (args : Array Value) (w : World), (callFunc 52 args).run Tryd.prog w = .ok (.enter 52 args) w := enters_ Tryd.func52 (by kernel_rfl) rfl
  have h63 : ∀ (args : Array Value) (w : World), (callFunc 63 args).run Tryd.prog w = .ok (.enter 63 args) w := enters_ Tryd.func63 (by kernel_rfl) rfl
  have h64 : ∀ (args : Array Value) (w : World), (callFunc 64 args).run Tryd.prog w = .ok (.enter 64 args) w := enters_ Tryd.func64 (by kernel_rfl) rfl
  have h81 : ∀ (args : Array Value) (w : World), (callFunc 81 args).run Tryd.prog w = .ok (.enter 81 args) w := enters_ Tryd.func81 (by kernel_rfl) rfl
  have h86 : ∀ (args : Array Value) (w : World), (callFunc 86 args).run Tryd.prog w = .ok (.enter 86 args) w := enters_ Tryd.func86 (by kernel_rfl) rfl
  have h94 : ∀ (args : Array Value) (w : World), (callFunc 94 args).run Tryd.prog w = .ok (.enter 94 args) w := enters_ Tryd.func94 (by kernel_rfl) rfl
  have h98 : ∀ (args : Array Value) (w : World), (callFunc 98 args).run Tryd.prog w = .ok (.enter 98 args) w := enters_ Tryd.func98 (by kernel_rfl) rfl
  go_enter Tryd.func22, Tryd.ntmps22
  go_wp2_with fail
  refine (fields34 k _ h3 h7).mono ?_
  rintro e w1 ⟨g, cap, n, o1, f1, t1, o2, f2, t2, vs, v1, v2, rfl, hg, hrow, X1, X2, hk, hb1⟩
  have hgs : w.heap.size < g := by simp [go_sem] at hg; omega
  have hba : w.heap.size < (w.alloc (.cells #[.int .i64 k, .int .i64 1, .int .i64 ref, .int .i64 0, .int .i64 cause, .string ⟨#[]⟩, .string ⟨#[]⟩, .string ⟨#[]⟩, .bool false, .bool false] 51)).heap.size := by simp [go_sem]
  have bx := (hb1.block w.heap.size (by simp [go_sem])).trans (heap_new _ _ rfl)
  have HB1 : Below w.heap.size w w1 := ((Below.refl _ _).alloc (Nat.le_refl _) _).trans (hb1.mono (Nat.le_of_lt hba))
  have E1 : Same w1 w1 w.heap.size := Same.rfl
  rcases hk with ⟨rfl, rfl, o3, f3, t3, v3, rfl, X3⟩ | ⟨rfl, rfl, o3, v3, rfl, X3⟩ | ⟨hk7, hk4, rfl, rfl⟩
  · obtain ⟨hca, hcb⟩ := hc7 rfl
    skip
    have c0 : w1.cell? ⟨g, 0, none⟩ = _ := E1.cell (Nat.ne_of_gt hgs) (hrow 0 _ rfl)
    have c1 : w1.cell? ⟨g, 1, none⟩ = _ := E1.cell (Nat.ne_of_gt hgs) (hrow 1 _ rfl)
    have c2 : w1.cell? ⟨g, 2, none⟩ = _ := E1.cell (Nat.ne_of_gt hgs) (hrow 2 _ rfl)
    have c3 : w1.cell? ⟨g, 3, none⟩ = _ := E1.cell (Nat.ne_of_gt hgs) (hrow 3 _ rfl)
    have c4 : w1.cell? ⟨g, 4, none⟩ = _ := E1.cell (Nat.ne_of_gt hgs) (hrow 4 _ rfl)
    have c5 : w1.cell? ⟨g, 5, none⟩ = _ := E1.cell (Nat.ne_of_gt hgs) (hrow 5 _ rfl)
    have c6 : w1.cell? ⟨g, 6, none⟩ = _ := E1.cell (Nat.ne_of_gt hgs) (hrow 6 _ rfl)
    have c7 : w1.cell? ⟨g, 7, none⟩ = _ := E1.cell (Nat.ne_of_gt hgs) (hrow 7 _ rfl)
    have c8 : w1.cell? ⟨g, 8, none⟩ = _ := E1.cell (Nat.ne_of_gt hgs) (hrow 8 _ rfl)
    have c9 : w1.cell? ⟨g, 9, none⟩ = _ := E1.cell (Nat.ne_of_gt hgs) (hrow 9 _ rfl)
    have c10 : w1.cell? ⟨g, 10, none⟩ = _ := E1.cell (Nat.ne_of_gt hgs) (hrow 10 _ rfl)
    have c11 : w1.cell? ⟨g, 11, none⟩ = _ := E1.cell (Nat.ne_of_gt hgs) (hrow 11 _ rfl)
    go_wp2_with fail
    refine wp_loop_rounds 4 ?_
    rw [rounds_succ]
    go_wp2_with fail
    refine (valid81 (b := w.heap.size) (n := 1) (z := 1) ((E1.alloc _).fi X1 hba) h51 (of51 _) (blk_cell (blk_alloc bx _) 1) (by omega) (by omega)).mono ?_
    rintro e w2 ⟨rfl, hb2⟩
    have E2 := (E1.alloc _).below hb2
    have HB2 : Below w.heap.size w w2 := (HB1.alloc HB1.size _).trans (hb2.mono (Nat.le_trans HB1.size (by simp [go_sem])))
    have bx := blk_below (blk_alloc bx _) hb2
    clear c0 c1 c2 c3 c4 c5 c6 c7 c8 c9 c10 c11
    have c0 : w2.cell? ⟨g, 0, none⟩ = _ := E2.cell (Nat.ne_of_gt hgs) (hrow 0 _ rfl)
    have c1 : w2.cell? ⟨g, 1, none⟩ = _ := E2.cell (Nat.ne_of_gt hgs) (hrow 1 _ rfl)
    have c2 : w2.cell? ⟨g, 2, none⟩ = _ := E2.cell (Nat.ne_of_gt hgs) (hrow 2 _ rfl)
    have c3 : w2.cell? ⟨g, 3, none⟩ = _ := E2.cell (Nat.ne_of_gt hgs) (hrow 3 _ rfl)
    have c4 : w2.cell? ⟨g, 4, none⟩ = _ := E2.cell (Nat.ne_of_gt hgs) (hrow 4 _ rfl)
    have c5 : w2.cell? ⟨g, 5, none⟩ = _ := E2.cell (Nat.ne_of_gt hgs) (hrow 5 _ rfl)
    have c6 : w2.cell? ⟨g, 6, none⟩ = _ := E2.cell (Nat.ne_of_gt hgs) (hrow 6 _ rfl)
    have c7 : w2.cell? ⟨g, 7, none⟩ = _ := E2.cell (Nat.ne_of_gt hgs) (hrow 7 _ rfl)
    have c8 : w2.cell? ⟨g, 8, none⟩ = _ := E2.cell (Nat.ne_of_gt hgs) (hrow 8 _ rfl)
    have c9 : w2.cell? ⟨g, 9, none⟩ = _ := E2.cell (Nat.ne_of_gt hgs) (hrow 9 _ rfl)
    have c10 : w2.cell? ⟨g, 10, none⟩ = _ := E2.cell (Nat.ne_of_gt hgs) (hrow 10 _ rfl)
    have c11 : w2.cell? ⟨g, 11, none⟩ = _ := E2.cell (Nat.ne_of_gt hgs) (hrow 11 _ rfl)
    go_wp2_with fail
    rw [rounds_succ]
    go_wp2_with fail
    refine (valid81 (b := w.heap.size) (n := 2) (z := ref) ((E2.alloc _).fi X2 hba) h52 (of52 _) (blk_cell (blk_alloc bx _) 2) (by omega) (by omega)).mono ?_
    rintro e w3 ⟨rfl, hb3⟩
    have E3 := (E2.alloc _).below hb3
    have HB3 : Below w.heap.size w w3 := (HB2.alloc HB2.size _).trans (hb3.mono (Nat.le_trans HB2.size (by simp [go_sem])))
    have bx := blk_below (blk_alloc bx _) hb3
    clear c0 c1 c2 c3 c4 c5 c6 c7 c8 c9 c10 c11
    have c0 : w3.cell? ⟨g, 0, none⟩ = _ := E3.cell (Nat.ne_of_gt hgs) (hrow 0 _ rfl)
    have c1 : w3.cell? ⟨g, 1, none⟩ = _ := E3.cell (Nat.ne_of_gt hgs) (hrow 1 _ rfl)
    have c2 : w3.cell? ⟨g, 2, none⟩ = _ := E3.cell (Nat.ne_of_gt hgs) (hrow 2 _ rfl)
    have c3 : w3.cell? ⟨g, 3, none⟩ = _ := E3.cell (Nat.ne_of_gt hgs) (hrow 3 _ rfl)
    have c4 : w3.cell? ⟨g, 4, none⟩ = _ := E3.cell (Nat.ne_of_gt hgs) (hrow 4 _ rfl)
    have c5 : w3.cell? ⟨g, 5, none⟩ = _ := E3.cell (Nat.ne_of_gt hgs) (hrow 5 _ rfl)
    have c6 : w3.cell? ⟨g, 6, none⟩ = _ := E3.cell (Nat.ne_of_gt hgs) (hrow 6 _ rfl)
    have c7 : w3.cell? ⟨g, 7, none⟩ = _ := E3.cell (Nat.ne_of_gt hgs) (hrow 7 _ rfl)
    have c8 : w3.cell? ⟨g, 8, none⟩ = _ := E3.cell (Nat.ne_of_gt hgs) (hrow 8 _ rfl)
    have c9 : w3.cell? ⟨g, 9, none⟩ = _ := E3.cell (Nat.ne_of_gt hgs) (hrow 9 _ rfl)
    have c10 : w3.cell? ⟨g, 10, none⟩ = _ := E3.cell (Nat.ne_of_gt hgs) (hrow 10 _ rfl)
    have c11 : w3.cell? ⟨g, 11, none⟩ = _ := E3.cell (Nat.ne_of_gt hgs) (hrow 11 _ rfl)
    go_wp2_with fail
    rw [rounds_succ]
    go_wp2_with fail
    refine (valid81 (b := w.heap.size) (n := 4) (z := cause) ((E3.alloc _).fi X3 hba) h64 (of64 _) (blk_cell (blk_alloc bx _) 4) (by omega) (by omega)).mono ?_
    rintro e w4 ⟨rfl, hb4⟩
    have E4 := (E3.alloc _).below hb4
    have HB4 : Below w.heap.size w w4 := (HB3.alloc HB3.size _).trans (hb4.mono (Nat.le_trans HB3.size (by simp [go_sem])))
    have bx := blk_below (blk_alloc bx _) hb4
    clear c0 c1 c2 c3 c4 c5 c6 c7 c8 c9 c10 c11
    have c0 : w4.cell? ⟨g, 0, none⟩ = _ := E4.cell (Nat.ne_of_gt hgs) (hrow 0 _ rfl)
    have c1 : w4.cell? ⟨g, 1, none⟩ = _ := E4.cell (Nat.ne_of_gt hgs) (hrow 1 _ rfl)
    have c2 : w4.cell? ⟨g, 2, none⟩ = _ := E4.cell (Nat.ne_of_gt hgs) (hrow 2 _ rfl)
    have c3 : w4.cell? ⟨g, 3, none⟩ = _ := E4.cell (Nat.ne_of_gt hgs) (hrow 3 _ rfl)
    have c4 : w4.cell? ⟨g, 4, none⟩ = _ := E4.cell (Nat.ne_of_gt hgs) (hrow 4 _ rfl)
    have c5 : w4.cell? ⟨g, 5, none⟩ = _ := E4.cell (Nat.ne_of_gt hgs) (hrow 5 _ rfl)
    have c6 : w4.cell? ⟨g, 6, none⟩ = _ := E4.cell (Nat.ne_of_gt hgs) (hrow 6 _ rfl)
    have c7 : w4.cell? ⟨g, 7, none⟩ = _ := E4.cell (Nat.ne_of_gt hgs) (hrow 7 _ rfl)
    have c8 : w4.cell? ⟨g, 8, none⟩ = _ := E4.cell (Nat.ne_of_gt hgs) (hrow 8 _ rfl)
    have c9 : w4.cell? ⟨g, 9, none⟩ = _ := E4.cell (Nat.ne_of_gt hgs) (hrow 9 _ rfl)
    have c10 : w4.cell? ⟨g, 10, none⟩ = _ := E4.cell (Nat.ne_of_gt hgs) (hrow 10 _ rfl)
    have c11 : w4.cell? ⟨g, 11, none⟩ = _ := E4.cell (Nat.ne_of_gt hgs) (hrow 11 _ rfl)
    go_wp2_with fail
    rw [rounds_succ]
    go_wp2_with fail
    refine wp_loop_rounds 4 ?_
    rw [rounds_succ]
    go_wp2_with fail
    refine (clear86 (b := w.heap.size) (n := 1) h51 ((E4.alloc _).fi X1 hba).ho (of51 _) (blk_cell (blk_alloc bx _) 1) (blk_frozen (blk_alloc bx _) 1)).mono ?_
    rintro e w5 ⟨⟨vv5, rfl⟩, hs5⟩
    have E5 : Same w1 w5 w.heap.size := hs5 ▸ (E4.alloc _).set _
    have HB5 : Below w.heap.size w w5 := hs5 ▸ (HB4.alloc HB4.size _).setCell (Nat.le_refl _) _
    have bx : w5.heap[w.heap.size]? = some (.cells #[.int .i64 7, .int .i64 0, .int .i64 ref, .int .i64 0, .int .i64 cause, .string ⟨#[]⟩, .string ⟨#[]⟩, .string ⟨#[]⟩, .bool false, .bool false] 51 (0, 0)) := hs5 ▸ blk_put (blk_alloc bx _) 1 _ rfl
    clear hs5
    clear c0 c1 c2 c3 c4 c5 c6 c7 c8 c9 c10 c11
    have c0 : w5.cell? ⟨g, 0, none⟩ = _ := E5.cell (Nat.ne_of_gt hgs) (hrow 0 _ rfl)
    have c1 : w5.cell? ⟨g, 1, none⟩ = _ := E5.cell (Nat.ne_of_gt hgs) (hrow 1 _ rfl)
    have c2 : w5.cell? ⟨g, 2, none⟩ = _ := E5.cell (Nat.ne_of_gt hgs) (hrow 2 _ rfl)
    have c3 : w5.cell? ⟨g, 3, none⟩ = _ := E5.cell (Nat.ne_of_gt hgs) (hrow 3 _ rfl)
    have c4 : w5.cell? ⟨g, 4, none⟩ = _ := E5.cell (Nat.ne_of_gt hgs) (hrow 4 _ rfl)
    have c5 : w5.cell? ⟨g, 5, none⟩ = _ := E5.cell (Nat.ne_of_gt hgs) (hrow 5 _ rfl)
    have c6 : w5.cell? ⟨g, 6, none⟩ = _ := E5.cell (Nat.ne_of_gt hgs) (hrow 6 _ rfl)
    have c7 : w5.cell? ⟨g, 7, none⟩ = _ := E5.cell (Nat.ne_of_gt hgs) (hrow 7 _ rfl)
    have c8 : w5.cell? ⟨g, 8, none⟩ = _ := E5.cell (Nat.ne_of_gt hgs) (hrow 8 _ rfl)
    have c9 : w5.cell? ⟨g, 9, none⟩ = _ := E5.cell (Nat.ne_of_gt hgs) (hrow 9 _ rfl)
    have c10 : w5.cell? ⟨g, 10, none⟩ = _ := E5.cell (Nat.ne_of_gt hgs) (hrow 10 _ rfl)
    have c11 : w5.cell? ⟨g, 11, none⟩ = _ := E5.cell (Nat.ne_of_gt hgs) (hrow 11 _ rfl)
    go_wp2_with fail
    rw [rounds_succ]
    go_wp2_with fail
    refine (clear86 (b := w.heap.size) (n := 2) h52 ((E5.alloc _).fi X2 hba).ho (of52 _) (blk_cell (blk_alloc bx _) 2) (blk_frozen (blk_alloc bx _) 2)).mono ?_
    rintro e w6 ⟨⟨vv6, rfl⟩, hs6⟩
    have E6 : Same w1 w6 w.heap.size := hs6 ▸ (E5.alloc _).set _
    have HB6 : Below w.heap.size w w6 := hs6 ▸ (HB5.alloc HB5.size _).setCell (Nat.le_refl _) _
    have bx : w6.heap[w.heap.size]? = some (.cells #[.int .i64 7, .int .i64 0, .int .i64 0, .int .i64 0, .int .i64 cause, .string ⟨#[]⟩, .string ⟨#[]⟩, .string ⟨#[]⟩, .bool false, .bool false] 51 (0, 0)) := hs6 ▸ blk_put (blk_alloc bx _) 2 _ rfl
    clear hs6
    clear c0 c1 c2 c3 c4 c5 c6 c7 c8 c9 c10 c11
    have c0 : w6.cell? ⟨g, 0, none⟩ = _ := E6.cell (Nat.ne_of_gt hgs) (hrow 0 _ rfl)
    have c1 : w6.cell? ⟨g, 1, none⟩ = _ := E6.cell (Nat.ne_of_gt hgs) (hrow 1 _ rfl)
    have c2 : w6.cell? ⟨g, 2, none⟩ = _ := E6.cell (Nat.ne_of_gt hgs) (hrow 2 _ rfl)
    have c3 : w6.cell? ⟨g, 3, none⟩ = _ := E6.cell (Nat.ne_of_gt hgs) (hrow 3 _ rfl)
    have c4 : w6.cell? ⟨g, 4, none⟩ = _ := E6.cell (Nat.ne_of_gt hgs) (hrow 4 _ rfl)
    have c5 : w6.cell? ⟨g, 5, none⟩ = _ := E6.cell (Nat.ne_of_gt hgs) (hrow 5 _ rfl)
    have c6 : w6.cell? ⟨g, 6, none⟩ = _ := E6.cell (Nat.ne_of_gt hgs) (hrow 6 _ rfl)
    have c7 : w6.cell? ⟨g, 7, none⟩ = _ := E6.cell (Nat.ne_of_gt hgs) (hrow 7 _ rfl)
    have c8 : w6.cell? ⟨g, 8, none⟩ = _ := E6.cell (Nat.ne_of_gt hgs) (hrow 8 _ rfl)
    have c9 : w6.cell? ⟨g, 9, none⟩ = _ := E6.cell (Nat.ne_of_gt hgs) (hrow 9 _ rfl)
    have c10 : w6.cell? ⟨g, 10, none⟩ = _ := E6.cell (Nat.ne_of_gt hgs) (hrow 10 _ rfl)
    have c11 : w6.cell? ⟨g, 11, none⟩ = _ := E6.cell (Nat.ne_of_gt hgs) (hrow 11 _ rfl)
    go_wp2_with fail
    rw [rounds_succ]
    go_wp2_with fail
    refine (clear86 (b := w.heap.size) (n := 4) h64 ((E6.alloc _).fi X3 hba).ho (of64 _) (blk_cell (blk_alloc bx _) 4) (blk_frozen (blk_alloc bx _) 4)).mono ?_
    rintro e w7 ⟨⟨vv7, rfl⟩, hs7⟩
    have E7 : Same w1 w7 w.heap.size := hs7 ▸ (E6.alloc _).set _
    have HB7 : Below w.heap.size w w7 := hs7 ▸ (HB6.alloc HB6.size _).setCell (Nat.le_refl _) _
    have bx : w7.heap[w.heap.size]? = some (.cells #[.int .i64 7, .int .i64 0, .int .i64 0, .int .i64 0, .int .i64 0, .string ⟨#[]⟩, .string ⟨#[]⟩, .string ⟨#[]⟩, .bool false, .bool false] 51 (0, 0)) := hs7 ▸ blk_put (blk_alloc bx _) 4 _ rfl
    clear hs7
    clear c0 c1 c2 c3 c4 c5 c6 c7 c8 c9 c10 c11
    have c0 : w7.cell? ⟨g, 0, none⟩ = _ := E7.cell (Nat.ne_of_gt hgs) (hrow 0 _ rfl)
    have c1 : w7.cell? ⟨g, 1, none⟩ = _ := E7.cell (Nat.ne_of_gt hgs) (hrow 1 _ rfl)
    have c2 : w7.cell? ⟨g, 2, none⟩ = _ := E7.cell (Nat.ne_of_gt hgs) (hrow 2 _ rfl)
    have c3 : w7.cell? ⟨g, 3, none⟩ = _ := E7.cell (Nat.ne_of_gt hgs) (hrow 3 _ rfl)
    have c4 : w7.cell? ⟨g, 4, none⟩ = _ := E7.cell (Nat.ne_of_gt hgs) (hrow 4 _ rfl)
    have c5 : w7.cell? ⟨g, 5, none⟩ = _ := E7.cell (Nat.ne_of_gt hgs) (hrow 5 _ rfl)
    have c6 : w7.cell? ⟨g, 6, none⟩ = _ := E7.cell (Nat.ne_of_gt hgs) (hrow 6 _ rfl)
    have c7 : w7.cell? ⟨g, 7, none⟩ = _ := E7.cell (Nat.ne_of_gt hgs) (hrow 7 _ rfl)
    have c8 : w7.cell? ⟨g, 8, none⟩ = _ := E7.cell (Nat.ne_of_gt hgs) (hrow 8 _ rfl)
    have c9 : w7.cell? ⟨g, 9, none⟩ = _ := E7.cell (Nat.ne_of_gt hgs) (hrow 9 _ rfl)
    have c10 : w7.cell? ⟨g, 10, none⟩ = _ := E7.cell (Nat.ne_of_gt hgs) (hrow 10 _ rfl)
    have c11 : w7.cell? ⟨g, 11, none⟩ = _ := E7.cell (Nat.ne_of_gt hgs) (hrow 11 _ rfl)
    have b0 := blk_cell bx 0
    have b1 := blk_cell bx 1
    have b2 := blk_cell bx 2
    have b3 := blk_cell bx 3
    have b4 := blk_cell bx 4
    have b5 := blk_cell bx 5
    have b6 := blk_cell bx 6
    have b7 := blk_cell bx 7
    have b8 := blk_cell bx 8
    have b9 := blk_cell bx 9
    go_wp2_with fail
    rw [rounds_succ]
    go_wp2_with fail
    refine ⟨rfl, _, ?res, rfl, HB7⟩
    case res => simp [go_sem, results, Tryd.f22]
  · have hcs : cause = 0 := hc (by decide)
    subst hcs
    skip
    have c0 : w1.cell? ⟨g, 0, none⟩ = _ := E1.cell (Nat.ne_of_gt hgs) (hrow 0 _ rfl)
    have c1 : w1.cell? ⟨g, 1, none⟩ = _ := E1.cell (Nat.ne_of_gt hgs) (hrow 1 _ rfl)
    have c2 : w1.cell? ⟨g, 2, none⟩ = _ := E1.cell (Nat.ne_of_gt hgs) (hrow 2 _ rfl)
    have c3 : w1.cell? ⟨g, 3, none⟩ = _ := E1.cell (Nat.ne_of_gt hgs) (hrow 3 _ rfl)
    have c4 : w1.cell? ⟨g, 4, none⟩ = _ := E1.cell (Nat.ne_of_gt hgs) (hrow 4 _ rfl)
    have c5 : w1.cell? ⟨g, 5, none⟩ = _ := E1.cell (Nat.ne_of_gt hgs) (hrow 5 _ rfl)
    have c6 : w1.cell? ⟨g, 6, none⟩ = _ := E1.cell (Nat.ne_of_gt hgs) (hrow 6 _ rfl)
    have c7 : w1.cell? ⟨g, 7, none⟩ = _ := E1.cell (Nat.ne_of_gt hgs) (hrow 7 _ rfl)
    have c8 : w1.cell? ⟨g, 8, none⟩ = _ := E1.cell (Nat.ne_of_gt hgs) (hrow 8 _ rfl)
    have c9 : w1.cell? ⟨g, 9, none⟩ = _ := E1.cell (Nat.ne_of_gt hgs) (hrow 9 _ rfl)
    have c10 : w1.cell? ⟨g, 10, none⟩ = _ := E1.cell (Nat.ne_of_gt hgs) (hrow 10 _ rfl)
    have c11 : w1.cell? ⟨g, 11, none⟩ = _ := E1.cell (Nat.ne_of_gt hgs) (hrow 11 _ rfl)
    go_wp2_with fail
    refine wp_loop_rounds 4 ?_
    rw [rounds_succ]
    go_wp2_with fail
    refine (valid81 (b := w.heap.size) (n := 1) (z := 1) ((E1.alloc _).fi X1 hba) h51 (of51 _) (blk_cell (blk_alloc bx _) 1) (by omega) (by omega)).mono ?_
    rintro e w2 ⟨rfl, hb2⟩
    have E2 := (E1.alloc _).below hb2
    have HB2 : Below w.heap.size w w2 := (HB1.alloc HB1.size _).trans (hb2.mono (Nat.le_trans HB1.size (by simp [go_sem])))
    have bx := blk_below (blk_alloc bx _) hb2
    clear c0 c1 c2 c3 c4 c5 c6 c7 c8 c9 c10 c11
    have c0 : w2.cell? ⟨g, 0, none⟩ = _ := E2.cell (Nat.ne_of_gt hgs) (hrow 0 _ rfl)
    have c1 : w2.cell? ⟨g, 1, none⟩ = _ := E2.cell (Nat.ne_of_gt hgs) (hrow 1 _ rfl)
    have c2 : w2.cell? ⟨g, 2, none⟩ = _ := E2.cell (Nat.ne_of_gt hgs) (hrow 2 _ rfl)
    have c3 : w2.cell? ⟨g, 3, none⟩ = _ := E2.cell (Nat.ne_of_gt hgs) (hrow 3 _ rfl)
    have c4 : w2.cell? ⟨g, 4, none⟩ = _ := E2.cell (Nat.ne_of_gt hgs) (hrow 4 _ rfl)
    have c5 : w2.cell? ⟨g, 5, none⟩ = _ := E2.cell (Nat.ne_of_gt hgs) (hrow 5 _ rfl)
    have c6 : w2.cell? ⟨g, 6, none⟩ = _ := E2.cell (Nat.ne_of_gt hgs) (hrow 6 _ rfl)
    have c7 : w2.cell? ⟨g, 7, none⟩ = _ := E2.cell (Nat.ne_of_gt hgs) (hrow 7 _ rfl)
    have c8 : w2.cell? ⟨g, 8, none⟩ = _ := E2.cell (Nat.ne_of_gt hgs) (hrow 8 _ rfl)
    have c9 : w2.cell? ⟨g, 9, none⟩ = _ := E2.cell (Nat.ne_of_gt hgs) (hrow 9 _ rfl)
    have c10 : w2.cell? ⟨g, 10, none⟩ = _ := E2.cell (Nat.ne_of_gt hgs) (hrow 10 _ rfl)
    have c11 : w2.cell? ⟨g, 11, none⟩ = _ := E2.cell (Nat.ne_of_gt hgs) (hrow 11 _ rfl)
    go_wp2_with fail
    rw [rounds_succ]
    go_wp2_with fail
    refine (valid81 (b := w.heap.size) (n := 2) (z := ref) ((E2.alloc _).fi X2 hba) h52 (of52 _) (blk_cell (blk_alloc bx _) 2) (by omega) (by omega)).mono ?_
    rintro e w3 ⟨rfl, hb3⟩
    have E3 := (E2.alloc _).below hb3
    have HB3 : Below w.heap.size w w3 := (HB2.alloc HB2.size _).trans (hb3.mono (Nat.le_trans HB2.size (by simp [go_sem])))
    have bx := blk_below (blk_alloc bx _) hb3
    clear c0 c1 c2 c3 c4 c5 c6 c7 c8 c9 c10 c11
    have c0 : w3.cell? ⟨g, 0, none⟩ = _ := E3.cell (Nat.ne_of_gt hgs) (hrow 0 _ rfl)
    have c1 : w3.cell? ⟨g, 1, none⟩ = _ := E3.cell (Nat.ne_of_gt hgs) (hrow 1 _ rfl)
    have c2 : w3.cell? ⟨g, 2, none⟩ = _ := E3.cell (Nat.ne_of_gt hgs) (hrow 2 _ rfl)
    have c3 : w3.cell? ⟨g, 3, none⟩ = _ := E3.cell (Nat.ne_of_gt hgs) (hrow 3 _ rfl)
    have c4 : w3.cell? ⟨g, 4, none⟩ = _ := E3.cell (Nat.ne_of_gt hgs) (hrow 4 _ rfl)
    have c5 : w3.cell? ⟨g, 5, none⟩ = _ := E3.cell (Nat.ne_of_gt hgs) (hrow 5 _ rfl)
    have c6 : w3.cell? ⟨g, 6, none⟩ = _ := E3.cell (Nat.ne_of_gt hgs) (hrow 6 _ rfl)
    have c7 : w3.cell? ⟨g, 7, none⟩ = _ := E3.cell (Nat.ne_of_gt hgs) (hrow 7 _ rfl)
    have c8 : w3.cell? ⟨g, 8, none⟩ = _ := E3.cell (Nat.ne_of_gt hgs) (hrow 8 _ rfl)
    have c9 : w3.cell? ⟨g, 9, none⟩ = _ := E3.cell (Nat.ne_of_gt hgs) (hrow 9 _ rfl)
    have c10 : w3.cell? ⟨g, 10, none⟩ = _ := E3.cell (Nat.ne_of_gt hgs) (hrow 10 _ rfl)
    have c11 : w3.cell? ⟨g, 11, none⟩ = _ := E3.cell (Nat.ne_of_gt hgs) (hrow 11 _ rfl)
    go_wp2_with fail
    rw [rounds_succ]
    go_wp2_with fail
    refine (valid94 w.heap.size _).mono ?_
    rintro e w4 ⟨rfl, hb4⟩
    have E4 := (E3.alloc _).below hb4
    have HB4 : Below w.heap.size w w4 := (HB3.alloc HB3.size _).trans (hb4.mono (Nat.le_trans HB3.size (by simp [go_sem])))
    have bx := blk_below (blk_alloc bx _) hb4
    clear c0 c1 c2 c3 c4 c5 c6 c7 c8 c9 c10 c11
    have c0 : w4.cell? ⟨g, 0, none⟩ = _ := E4.cell (Nat.ne_of_gt hgs) (hrow 0 _ rfl)
    have c1 : w4.cell? ⟨g, 1, none⟩ = _ := E4.cell (Nat.ne_of_gt hgs) (hrow 1 _ rfl)
    have c2 : w4.cell? ⟨g, 2, none⟩ = _ := E4.cell (Nat.ne_of_gt hgs) (hrow 2 _ rfl)
    have c3 : w4.cell? ⟨g, 3, none⟩ = _ := E4.cell (Nat.ne_of_gt hgs) (hrow 3 _ rfl)
    have c4 : w4.cell? ⟨g, 4, none⟩ = _ := E4.cell (Nat.ne_of_gt hgs) (hrow 4 _ rfl)
    have c5 : w4.cell? ⟨g, 5, none⟩ = _ := E4.cell (Nat.ne_of_gt hgs) (hrow 5 _ rfl)
    have c6 : w4.cell? ⟨g, 6, none⟩ = _ := E4.cell (Nat.ne_of_gt hgs) (hrow 6 _ rfl)
    have c7 : w4.cell? ⟨g, 7, none⟩ = _ := E4.cell (Nat.ne_of_gt hgs) (hrow 7 _ rfl)
    have c8 : w4.cell? ⟨g, 8, none⟩ = _ := E4.cell (Nat.ne_of_gt hgs) (hrow 8 _ rfl)
    have c9 : w4.cell? ⟨g, 9, none⟩ = _ := E4.cell (Nat.ne_of_gt hgs) (hrow 9 _ rfl)
    have c10 : w4.cell? ⟨g, 10, none⟩ = _ := E4.cell (Nat.ne_of_gt hgs) (hrow 10 _ rfl)
    have c11 : w4.cell? ⟨g, 11, none⟩ = _ := E4.cell (Nat.ne_of_gt hgs) (hrow 11 _ rfl)
    go_wp2_with fail
    rw [rounds_succ]
    go_wp2_with fail
    refine wp_loop_rounds 4 ?_
    rw [rounds_succ]
    go_wp2_with fail
    refine (clear86 (b := w.heap.size) (n := 1) h51 ((E4.alloc _).fi X1 hba).ho (of51 _) (blk_cell (blk_alloc bx _) 1) (blk_frozen (blk_alloc bx _) 1)).mono ?_
    rintro e w5 ⟨⟨vv5, rfl⟩, hs5⟩
    have E5 : Same w1 w5 w.heap.size := hs5 ▸ (E4.alloc _).set _
    have HB5 : Below w.heap.size w w5 := hs5 ▸ (HB4.alloc HB4.size _).setCell (Nat.le_refl _) _
    have bx : w5.heap[w.heap.size]? = some (.cells #[.int .i64 4, .int .i64 0, .int .i64 ref, .int .i64 0, .int .i64 0, .string ⟨#[]⟩, .string ⟨#[]⟩, .string ⟨#[]⟩, .bool false, .bool false] 51 (0, 0)) := hs5 ▸ blk_put (blk_alloc bx _) 1 _ rfl
    clear hs5
    clear c0 c1 c2 c3 c4 c5 c6 c7 c8 c9 c10 c11
    have c0 : w5.cell? ⟨g, 0, none⟩ = _ := E5.cell (Nat.ne_of_gt hgs) (hrow 0 _ rfl)
    have c1 : w5.cell? ⟨g, 1, none⟩ = _ := E5.cell (Nat.ne_of_gt hgs) (hrow 1 _ rfl)
    have c2 : w5.cell? ⟨g, 2, none⟩ = _ := E5.cell (Nat.ne_of_gt hgs) (hrow 2 _ rfl)
    have c3 : w5.cell? ⟨g, 3, none⟩ = _ := E5.cell (Nat.ne_of_gt hgs) (hrow 3 _ rfl)
    have c4 : w5.cell? ⟨g, 4, none⟩ = _ := E5.cell (Nat.ne_of_gt hgs) (hrow 4 _ rfl)
    have c5 : w5.cell? ⟨g, 5, none⟩ = _ := E5.cell (Nat.ne_of_gt hgs) (hrow 5 _ rfl)
    have c6 : w5.cell? ⟨g, 6, none⟩ = _ := E5.cell (Nat.ne_of_gt hgs) (hrow 6 _ rfl)
    have c7 : w5.cell? ⟨g, 7, none⟩ = _ := E5.cell (Nat.ne_of_gt hgs) (hrow 7 _ rfl)
    have c8 : w5.cell? ⟨g, 8, none⟩ = _ := E5.cell (Nat.ne_of_gt hgs) (hrow 8 _ rfl)
    have c9 : w5.cell? ⟨g, 9, none⟩ = _ := E5.cell (Nat.ne_of_gt hgs) (hrow 9 _ rfl)
    have c10 : w5.cell? ⟨g, 10, none⟩ = _ := E5.cell (Nat.ne_of_gt hgs) (hrow 10 _ rfl)
    have c11 : w5.cell? ⟨g, 11, none⟩ = _ := E5.cell (Nat.ne_of_gt hgs) (hrow 11 _ rfl)
    go_wp2_with fail
    rw [rounds_succ]
    go_wp2_with fail
    refine (clear86 (b := w.heap.size) (n := 2) h52 ((E5.alloc _).fi X2 hba).ho (of52 _) (blk_cell (blk_alloc bx _) 2) (blk_frozen (blk_alloc bx _) 2)).mono ?_
    rintro e w6 ⟨⟨vv6, rfl⟩, hs6⟩
    have E6 : Same w1 w6 w.heap.size := hs6 ▸ (E5.alloc _).set _
    have HB6 : Below w.heap.size w w6 := hs6 ▸ (HB5.alloc HB5.size _).setCell (Nat.le_refl _) _
    have bx : w6.heap[w.heap.size]? = some (.cells #[.int .i64 4, .int .i64 0, .int .i64 0, .int .i64 0, .int .i64 0, .string ⟨#[]⟩, .string ⟨#[]⟩, .string ⟨#[]⟩, .bool false, .bool false] 51 (0, 0)) := hs6 ▸ blk_put (blk_alloc bx _) 2 _ rfl
    clear hs6
    clear c0 c1 c2 c3 c4 c5 c6 c7 c8 c9 c10 c11
    have c0 : w6.cell? ⟨g, 0, none⟩ = _ := E6.cell (Nat.ne_of_gt hgs) (hrow 0 _ rfl)
    have c1 : w6.cell? ⟨g, 1, none⟩ = _ := E6.cell (Nat.ne_of_gt hgs) (hrow 1 _ rfl)
    have c2 : w6.cell? ⟨g, 2, none⟩ = _ := E6.cell (Nat.ne_of_gt hgs) (hrow 2 _ rfl)
    have c3 : w6.cell? ⟨g, 3, none⟩ = _ := E6.cell (Nat.ne_of_gt hgs) (hrow 3 _ rfl)
    have c4 : w6.cell? ⟨g, 4, none⟩ = _ := E6.cell (Nat.ne_of_gt hgs) (hrow 4 _ rfl)
    have c5 : w6.cell? ⟨g, 5, none⟩ = _ := E6.cell (Nat.ne_of_gt hgs) (hrow 5 _ rfl)
    have c6 : w6.cell? ⟨g, 6, none⟩ = _ := E6.cell (Nat.ne_of_gt hgs) (hrow 6 _ rfl)
    have c7 : w6.cell? ⟨g, 7, none⟩ = _ := E6.cell (Nat.ne_of_gt hgs) (hrow 7 _ rfl)
    have c8 : w6.cell? ⟨g, 8, none⟩ = _ := E6.cell (Nat.ne_of_gt hgs) (hrow 8 _ rfl)
    have c9 : w6.cell? ⟨g, 9, none⟩ = _ := E6.cell (Nat.ne_of_gt hgs) (hrow 9 _ rfl)
    have c10 : w6.cell? ⟨g, 10, none⟩ = _ := E6.cell (Nat.ne_of_gt hgs) (hrow 10 _ rfl)
    have c11 : w6.cell? ⟨g, 11, none⟩ = _ := E6.cell (Nat.ne_of_gt hgs) (hrow 11 _ rfl)
    go_wp2_with fail
    rw [rounds_succ]
    go_wp2_with fail
    refine (clear98 (b := w.heap.size) (n := 9) h63 ((E6.alloc _).fb X3 hba).ho (of63 _) (blk_cell (blk_alloc bx _) 9) (blk_frozen (blk_alloc bx _) 9)).mono ?_
    rintro e w7 ⟨⟨vv7, rfl⟩, hs7⟩
    have E7 : Same w1 w7 w.heap.size := hs7 ▸ (E6.alloc _).set _
    have HB7 : Below w.heap.size w w7 := hs7 ▸ (HB6.alloc HB6.size _).setCell (Nat.le_refl _) _
    have bx : w7.heap[w.heap.size]? = some (.cells #[.int .i64 4, .int .i64 0, .int .i64 0, .int .i64 0, .int .i64 0, .string ⟨#[]⟩, .string ⟨#[]⟩, .string ⟨#[]⟩, .bool false, .bool false] 51 (0, 0)) := hs7 ▸ blk_put (blk_alloc bx _) 9 _ rfl
    clear hs7
    clear c0 c1 c2 c3 c4 c5 c6 c7 c8 c9 c10 c11
    have c0 : w7.cell? ⟨g, 0, none⟩ = _ := E7.cell (Nat.ne_of_gt hgs) (hrow 0 _ rfl)
    have c1 : w7.cell? ⟨g, 1, none⟩ = _ := E7.cell (Nat.ne_of_gt hgs) (hrow 1 _ rfl)
    have c2 : w7.cell? ⟨g, 2, none⟩ = _ := E7.cell (Nat.ne_of_gt hgs) (hrow 2 _ rfl)
    have c3 : w7.cell? ⟨g, 3, none⟩ = _ := E7.cell (Nat.ne_of_gt hgs) (hrow 3 _ rfl)
    have c4 : w7.cell? ⟨g, 4, none⟩ = _ := E7.cell (Nat.ne_of_gt hgs) (hrow 4 _ rfl)
    have c5 : w7.cell? ⟨g, 5, none⟩ = _ := E7.cell (Nat.ne_of_gt hgs) (hrow 5 _ rfl)
    have c6 : w7.cell? ⟨g, 6, none⟩ = _ := E7.cell (Nat.ne_of_gt hgs) (hrow 6 _ rfl)
    have c7 : w7.cell? ⟨g, 7, none⟩ = _ := E7.cell (Nat.ne_of_gt hgs) (hrow 7 _ rfl)
    have c8 : w7.cell? ⟨g, 8, none⟩ = _ := E7.cell (Nat.ne_of_gt hgs) (hrow 8 _ rfl)
    have c9 : w7.cell? ⟨g, 9, none⟩ = _ := E7.cell (Nat.ne_of_gt hgs) (hrow 9 _ rfl)
    have c10 : w7.cell? ⟨g, 10, none⟩ = _ := E7.cell (Nat.ne_of_gt hgs) (hrow 10 _ rfl)
    have c11 : w7.cell? ⟨g, 11, none⟩ = _ := E7.cell (Nat.ne_of_gt hgs) (hrow 11 _ rfl)
    have b0 := blk_cell bx 0
    have b1 := blk_cell bx 1
    have b2 := blk_cell bx 2
    have b3 := blk_cell bx 3
    have b4 := blk_cell bx 4
    have b5 := blk_cell bx 5
    have b6 := blk_cell bx 6
    have b7 := blk_cell bx 7
    have b8 := blk_cell bx 8
    have b9 := blk_cell bx 9
    go_wp2_with fail
    rw [rounds_succ]
    go_wp2_with fail
    refine ⟨rfl, _, ?res, rfl, HB7⟩
    case res => simp [go_sem, results, Tryd.f22]
  · have hcs : cause = 0 := hc hk7
    subst hcs
    skip
    have c0 : w1.cell? ⟨g, 0, none⟩ = _ := E1.cell (Nat.ne_of_gt hgs) (hrow 0 _ rfl)
    have c1 : w1.cell? ⟨g, 1, none⟩ = _ := E1.cell (Nat.ne_of_gt hgs) (hrow 1 _ rfl)
    have c2 : w1.cell? ⟨g, 2, none⟩ = _ := E1.cell (Nat.ne_of_gt hgs) (hrow 2 _ rfl)
    have c3 : w1.cell? ⟨g, 3, none⟩ = _ := E1.cell (Nat.ne_of_gt hgs) (hrow 3 _ rfl)
    have c4 : w1.cell? ⟨g, 4, none⟩ = _ := E1.cell (Nat.ne_of_gt hgs) (hrow 4 _ rfl)
    have c5 : w1.cell? ⟨g, 5, none⟩ = _ := E1.cell (Nat.ne_of_gt hgs) (hrow 5 _ rfl)
    have c6 : w1.cell? ⟨g, 6, none⟩ = _ := E1.cell (Nat.ne_of_gt hgs) (hrow 6 _ rfl)
    have c7 : w1.cell? ⟨g, 7, none⟩ = _ := E1.cell (Nat.ne_of_gt hgs) (hrow 7 _ rfl)
    go_wp2_with fail
    refine wp_loop_rounds 3 ?_
    rw [rounds_succ]
    go_wp2_with fail
    refine (valid81 (b := w.heap.size) (n := 1) (z := 1) ((E1.alloc _).fi X1 hba) h51 (of51 _) (blk_cell (blk_alloc bx _) 1) (by omega) (by omega)).mono ?_
    rintro e w2 ⟨rfl, hb2⟩
    have E2 := (E1.alloc _).below hb2
    have HB2 : Below w.heap.size w w2 := (HB1.alloc HB1.size _).trans (hb2.mono (Nat.le_trans HB1.size (by simp [go_sem])))
    have bx := blk_below (blk_alloc bx _) hb2
    clear c0 c1 c2 c3 c4 c5 c6 c7
    have c0 : w2.cell? ⟨g, 0, none⟩ = _ := E2.cell (Nat.ne_of_gt hgs) (hrow 0 _ rfl)
    have c1 : w2.cell? ⟨g, 1, none⟩ = _ := E2.cell (Nat.ne_of_gt hgs) (hrow 1 _ rfl)
    have c2 : w2.cell? ⟨g, 2, none⟩ = _ := E2.cell (Nat.ne_of_gt hgs) (hrow 2 _ rfl)
    have c3 : w2.cell? ⟨g, 3, none⟩ = _ := E2.cell (Nat.ne_of_gt hgs) (hrow 3 _ rfl)
    have c4 : w2.cell? ⟨g, 4, none⟩ = _ := E2.cell (Nat.ne_of_gt hgs) (hrow 4 _ rfl)
    have c5 : w2.cell? ⟨g, 5, none⟩ = _ := E2.cell (Nat.ne_of_gt hgs) (hrow 5 _ rfl)
    have c6 : w2.cell? ⟨g, 6, none⟩ = _ := E2.cell (Nat.ne_of_gt hgs) (hrow 6 _ rfl)
    have c7 : w2.cell? ⟨g, 7, none⟩ = _ := E2.cell (Nat.ne_of_gt hgs) (hrow 7 _ rfl)
    go_wp2_with fail
    rw [rounds_succ]
    go_wp2_with fail
    refine (valid81 (b := w.heap.size) (n := 2) (z := ref) ((E2.alloc _).fi X2 hba) h52 (of52 _) (blk_cell (blk_alloc bx _) 2) (by omega) (by omega)).mono ?_
    rintro e w3 ⟨rfl, hb3⟩
    have E3 := (E2.alloc _).below hb3
    have HB3 : Below w.heap.size w w3 := (HB2.alloc HB2.size _).trans (hb3.mono (Nat.le_trans HB2.size (by simp [go_sem])))
    have bx := blk_below (blk_alloc bx _) hb3
    clear c0 c1 c2 c3 c4 c5 c6 c7
    have c0 : w3.cell? ⟨g, 0, none⟩ = _ := E3.cell (Nat.ne_of_gt hgs) (hrow 0 _ rfl)
    have c1 : w3.cell? ⟨g, 1, none⟩ = _ := E3.cell (Nat.ne_of_gt hgs) (hrow 1 _ rfl)
    have c2 : w3.cell? ⟨g, 2, none⟩ = _ := E3.cell (Nat.ne_of_gt hgs) (hrow 2 _ rfl)
    have c3 : w3.cell? ⟨g, 3, none⟩ = _ := E3.cell (Nat.ne_of_gt hgs) (hrow 3 _ rfl)
    have c4 : w3.cell? ⟨g, 4, none⟩ = _ := E3.cell (Nat.ne_of_gt hgs) (hrow 4 _ rfl)
    have c5 : w3.cell? ⟨g, 5, none⟩ = _ := E3.cell (Nat.ne_of_gt hgs) (hrow 5 _ rfl)
    have c6 : w3.cell? ⟨g, 6, none⟩ = _ := E3.cell (Nat.ne_of_gt hgs) (hrow 6 _ rfl)
    have c7 : w3.cell? ⟨g, 7, none⟩ = _ := E3.cell (Nat.ne_of_gt hgs) (hrow 7 _ rfl)
    go_wp2_with fail
    rw [rounds_succ]
    go_wp2_with fail
    refine wp_loop_rounds 3 ?_
    rw [rounds_succ]
    go_wp2_with fail
    refine (clear86 (b := w.heap.size) (n := 1) h51 ((E3.alloc _).fi X1 hba).ho (of51 _) (blk_cell (blk_alloc bx _) 1) (blk_frozen (blk_alloc bx _) 1)).mono ?_
    rintro e w4 ⟨⟨vv4, rfl⟩, hs4⟩
    have E4 : Same w1 w4 w.heap.size := hs4 ▸ (E3.alloc _).set _
    have HB4 : Below w.heap.size w w4 := hs4 ▸ (HB3.alloc HB3.size _).setCell (Nat.le_refl _) _
    have bx : w4.heap[w.heap.size]? = some (.cells #[.int .i64 k, .int .i64 0, .int .i64 ref, .int .i64 0, .int .i64 0, .string ⟨#[]⟩, .string ⟨#[]⟩, .string ⟨#[]⟩, .bool false, .bool false] 51 (0, 0)) := hs4 ▸ blk_put (blk_alloc bx _) 1 _ rfl
    clear hs4
    clear c0 c1 c2 c3 c4 c5 c6 c7
    have c0 : w4.cell? ⟨g, 0, none⟩ = _ := E4.cell (Nat.ne_of_gt hgs) (hrow 0 _ rfl)
    have c1 : w4.cell? ⟨g, 1, none⟩ = _ := E4.cell (Nat.ne_of_gt hgs) (hrow 1 _ rfl)
    have c2 : w4.cell? ⟨g, 2, none⟩ = _ := E4.cell (Nat.ne_of_gt hgs) (hrow 2 _ rfl)
    have c3 : w4.cell? ⟨g, 3, none⟩ = _ := E4.cell (Nat.ne_of_gt hgs) (hrow 3 _ rfl)
    have c4 : w4.cell? ⟨g, 4, none⟩ = _ := E4.cell (Nat.ne_of_gt hgs) (hrow 4 _ rfl)
    have c5 : w4.cell? ⟨g, 5, none⟩ = _ := E4.cell (Nat.ne_of_gt hgs) (hrow 5 _ rfl)
    have c6 : w4.cell? ⟨g, 6, none⟩ = _ := E4.cell (Nat.ne_of_gt hgs) (hrow 6 _ rfl)
    have c7 : w4.cell? ⟨g, 7, none⟩ = _ := E4.cell (Nat.ne_of_gt hgs) (hrow 7 _ rfl)
    go_wp2_with fail
    rw [rounds_succ]
    go_wp2_with fail
    refine (clear86 (b := w.heap.size) (n := 2) h52 ((E4.alloc _).fi X2 hba).ho (of52 _) (blk_cell (blk_alloc bx _) 2) (blk_frozen (blk_alloc bx _) 2)).mono ?_
    rintro e w5 ⟨⟨vv5, rfl⟩, hs5⟩
    have E5 : Same w1 w5 w.heap.size := hs5 ▸ (E4.alloc _).set _
    have HB5 : Below w.heap.size w w5 := hs5 ▸ (HB4.alloc HB4.size _).setCell (Nat.le_refl _) _
    have bx : w5.heap[w.heap.size]? = some (.cells #[.int .i64 k, .int .i64 0, .int .i64 0, .int .i64 0, .int .i64 0, .string ⟨#[]⟩, .string ⟨#[]⟩, .string ⟨#[]⟩, .bool false, .bool false] 51 (0, 0)) := hs5 ▸ blk_put (blk_alloc bx _) 2 _ rfl
    clear hs5
    clear c0 c1 c2 c3 c4 c5 c6 c7
    have c0 : w5.cell? ⟨g, 0, none⟩ = _ := E5.cell (Nat.ne_of_gt hgs) (hrow 0 _ rfl)
    have c1 : w5.cell? ⟨g, 1, none⟩ = _ := E5.cell (Nat.ne_of_gt hgs) (hrow 1 _ rfl)
    have c2 : w5.cell? ⟨g, 2, none⟩ = _ := E5.cell (Nat.ne_of_gt hgs) (hrow 2 _ rfl)
    have c3 : w5.cell? ⟨g, 3, none⟩ = _ := E5.cell (Nat.ne_of_gt hgs) (hrow 3 _ rfl)
    have c4 : w5.cell? ⟨g, 4, none⟩ = _ := E5.cell (Nat.ne_of_gt hgs) (hrow 4 _ rfl)
    have c5 : w5.cell? ⟨g, 5, none⟩ = _ := E5.cell (Nat.ne_of_gt hgs) (hrow 5 _ rfl)
    have c6 : w5.cell? ⟨g, 6, none⟩ = _ := E5.cell (Nat.ne_of_gt hgs) (hrow 6 _ rfl)
    have c7 : w5.cell? ⟨g, 7, none⟩ = _ := E5.cell (Nat.ne_of_gt hgs) (hrow 7 _ rfl)
    have b0 := blk_cell bx 0
    have b1 := blk_cell bx 1
    have b2 := blk_cell bx 2
    have b3 := blk_cell bx 3
    have b4 := blk_cell bx 4
    have b5 := blk_cell bx 5
    have b6 := blk_cell bx 6
    have b7 := blk_cell bx 7
    have b8 := blk_cell bx 8
    have b9 := blk_cell bx 9
    go_wp2_with fail
    rw [rounds_succ]
    go_wp2_with fail
    refine ⟨rfl, _, ?res, rfl, HB5⟩
    case res => simp [go_sem, results, Tryd.f22]
end Go.Proofs.YtenaokgcljpcgaaDoor.GA
