/- terminate.Step of the given program: what it answers, for every half call and event, where its table stands as the program's text lays it. -/
import Derived.Test.YtenaokgcljpcgaaDoorGQx2
import Derived.Test.YtenaokgcljpcgaaDoorGQx3
import Derived.Lib.Hide
import Derived.WalkMore
set_option linter.unusedVariables false
set_option linter.unusedSimpArgs false
namespace Go.Proofs.YtenaokgcljpcgaaDoor.GQ
open Go.RowKit Go.Proofs.YtenaokgcljpcgaaDoorW.PrintWords Go.Proofs.YtenaokgcljpcgaaDoorW.PrintLast Go.Proofs.YtenaokgcljpcgaaDoorW.PrintMore
def tabCells : Array Value := #[.int .i64 0, .int .i64 10, .int .i64 11, .int .i64 0, .string ⟨#[]⟩, .int .i64 0, .int .i64 13, .int .i64 0, .string ⟨#[]⟩, .int .i64 0, .int .i64 9, .int .i64 0, .string ⟨#[]⟩, .int .i64 30, .int .i64 1, .int .i64 1, .int .i64 1, .int .i64 12, .int .i64 0, .string ⟨#[]⟩, .int .i64 0, .int .i64 10, .int .i64 0, .string ⟨#[]⟩, .int .i64 0, .int .i64 14, .int .i64 0, .string ⟨#[]⟩, .int .i64 0, .int .i64 2, .int .i64 1, .int .i64 11, .int .i64 12, .int .i64 0, .string ⟨#[]⟩, .int .i64 0, .int .i64 10, .int .i64 0, .string ⟨#[]⟩, .int .i64 0, .int .i64 0, .int .i64 0, .string ⟨#[]⟩, .int .i64 0, .int .i64 0, .int .i64 1, .int .i64 9, .int .i64 12, .int .i64 0, .string ⟨#[]⟩, .int .i64 0, .int .i64 10, .int .i64 0, .string ⟨#[]⟩, .int .i64 0, .int .i64 0, .int .i64 0, .string ⟨#[]⟩, .int .i64 0, .int .i64 0, .int .i64 1, .int .i64 4, .int .i64 12, .int .i64 0, .string ⟨#[]⟩, .int .i64 0, .int .i64 17, .int .i64 19, .string ⟨#[]⟩, .int .i64 0, .int .i64 0, .int .i64 0, .string ⟨#[]⟩, .int .i64 0, .int .i64 0, .int .i64 2, .int .i64 2, .int .i64 15, .int .i64 0, .string ⟨#[]⟩, .int .i64 0, .int .i64 9, .int .i64 0, .string ⟨#[]⟩, .int .i64 15, .int .i64 0, .int .i64 0, .string ⟨#[]⟩, .int .i64 0, .int .i64 3, .int .i64 2, .int .i64 9, .int .i64 3, .int .i64 0, .string ⟨#[]⟩, .int .i64 0, .int .i64 0, .int .i64 0, .string ⟨#[]⟩, .int .i64 0, .int .i64 0, .int .i64 0, .string ⟨#[]⟩, .int .i64 0, .int .i64 4, .int .i64 3, .int .i64 1, .int .i64 10, .int .i64 0, .string ⟨#[]⟩, .int .i64 0, .int .i64 16, .int .i64 0, .string ⟨#[]⟩, .int .i64 0, .int .i64 0, .int .i64 0, .string ⟨#[]⟩, .int .i64 0, .int .i64 2, .int .i64 3, .int .i64 12, .int .i64 7, .int .i64 16, .string ⟨#[]⟩, .int .i64 0, .int .i64 0, .int .i64 0, .string ⟨#[]⟩, .int .i64 0, .int .i64 0, .int .i64 0, .string ⟨#[]⟩, .int .i64 0, .int .i64 0, .int .i64 3, .int .i64 9, .int .i64 10, .int .i64 0, .string ⟨#[]⟩, .int .i64 0, .int .i64 0, .int .i64 0, .string ⟨#[]⟩, .int .i64 0, .int .i64 0, .int .i64 0, .string ⟨#[]⟩, .int .i64 0, .int .i64 0, .int .i64 4, .int .i64 2, .int .i64 2, .int .i64 0, .string ⟨#[]⟩, .int .i64 0, .int .i64 0, .int .i64 0, .string ⟨#[]⟩, .int .i64 0, .int .i64 0, .int .i64 0, .string ⟨#[]⟩, .int .i64 0, .int .i64 0]
structure Tab (w : World) : Prop where
  row : ∃ t fr, w.heap[0]? = some (.cells tabCells t fr)
theorem tab_lt {w : World} (h : Tab w) : 0 < w.heap.size := by
  obtain ⟨t, fr, h⟩ := h
  exact (Array.getElem?_eq_some_iff.1 h).1
theorem tab_below {w w' : World} (h : Tab w) (hb : Below w.heap.size w w') : Tab w' := by
  have hl := tab_lt h
  obtain ⟨t, fr, h⟩ := h
  exact ⟨t, fr, (hb.block 0 hl).trans h⟩
theorem tabbed {P : Program} {f : FuncId} {args : Array Value} {w W : World} {R : Ending → World → Prop} (hT : Tab w) (hb : Below w.heap.size w W) (h : Tab W → Calls P f args W R) : Calls P f args W R := h (tab_below hT hb)
theorem ix0 (w : World) : (Instr.index 83 (.agg tabCells) (.int .i64 0)).run Tryd.prog w = .ok (.agg #[.int .i64 0, .int .i64 10, .int .i64 11, .int .i64 0, .string ⟨#[]⟩, .int .i64 0, .int .i64 13, .int .i64 0, .string ⟨#[]⟩, .int .i64 0, .int .i64 9, .int .i64 0, .string ⟨#[]⟩, .int .i64 30, .int .i64 1]) w := by kernel_rfl
theorem ix1 (w : World) : (Instr.index 83 (.agg tabCells) (.int .i64 1)).run Tryd.prog w = .ok (.agg #[.int .i64 1, .int .i64 1, .int .i64 12, .int .i64 0, .string ⟨#[]⟩, .int .i64 0, .int .i64 10, .int .i64 0, .string ⟨#[]⟩, .int .i64 0, .int .i64 14, .int .i64 0, .string ⟨#[]⟩, .int .i64 0, .int .i64 2]) w := by kernel_rfl
theorem ix2 (w : World) : (Instr.index 83 (.agg tabCells) (.int .i64 2)).run Tryd.prog w = .ok (.agg #[.int .i64 1, .int .i64 11, .int .i64 12, .int .i64 0, .string ⟨#[]⟩, .int .i64 0, .int .i64 10, .int .i64 0, .string ⟨#[]⟩, .int .i64 0, .int .i64 0, .int .i64 0, .string ⟨#[]⟩, .int .i64 0, .int .i64 0]) w := by kernel_rfl
theorem ix3 (w : World) : (Instr.index 83 (.agg tabCells) (.int .i64 3)).run Tryd.prog w = .ok (.agg #[.int .i64 1, .int .i64 9, .int .i64 12, .int .i64 0, .string ⟨#[]⟩, .int .i64 0, .int .i64 10, .int .i64 0, .string ⟨#[]⟩, .int .i64 0, .int .i64 0, .int .i64 0, .string ⟨#[]⟩, .int .i64 0, .int .i64 0]) w := by kernel_rfl
theorem ix4 (w : World) : (Instr.index 83 (.agg tabCells) (.int .i64 4)).run Tryd.prog w = .ok (.agg #[.int .i64 1, .int .i64 4, .int .i64 12, .int .i64 0, .string ⟨#[]⟩, .int .i64 0, .int .i64 17, .int .i64 19, .string ⟨#[]⟩, .int .i64 0, .int .i64 0, .int .i64 0, .string ⟨#[]⟩, .int .i64 0, .int .i64 0]) w := by kernel_rfl
theorem ix5 (w : World) : (Instr.index 83 (.agg tabCells) (.int .i64 5)).run Tryd.prog w = .ok (.agg #[.int .i64 2, .int .i64 2, .int .i64 15, .int .i64 0, .string ⟨#[]⟩, .int .i64 0, .int .i64 9, .int .i64 0, .string ⟨#[]⟩, .int .i64 15, .int .i64 0, .int .i64 0, .string ⟨#[]⟩, .int .i64 0, .int .i64 3]) w := by kernel_rfl
theorem ix6 (w : World) : (Instr.index 83 (.agg tabCells) (.int .i64 6)).run Tryd.prog w = .ok (.agg #[.int .i64 2, .int .i64 9, .int .i64 3, .int .i64 0, .string ⟨#[]⟩, .int .i64 0, .int .i64 0, .int .i64 0, .string ⟨#[]⟩, .int .i64 0, .int .i64 0, .int .i64 0, .string ⟨#[]⟩, .int .i64 0, .int .i64 4]) w := by kernel_rfl
theorem ix7 (w : World) : (Instr.index 83 (.agg tabCells) (.int .i64 7)).run Tryd.prog w = .ok (.agg #[.int .i64 3, .int .i64 1, .int .i64 10, .int .i64 0, .string ⟨#[]⟩, .int .i64 0, .int .i64 16, .int .i64 0, .string ⟨#[]⟩, .int .i64 0, .int .i64 0, .int .i64 0, .string ⟨#[]⟩, .int .i64 0, .int .i64 2]) w := by kernel_rfl
theorem ix8 (w : World) : (Instr.index 83 (.agg tabCells) (.int .i64 8)).run Tryd.prog w = .ok (.agg #[.int .i64 3, .int .i64 12, .int .i64 7, .int .i64 16, .string ⟨#[]⟩, .int .i64 0, .int .i64 0, .int .i64 0, .string ⟨#[]⟩, .int .i64 0, .int .i64 0, .int .i64 0, .string ⟨#[]⟩, .int .i64 0, .int .i64 0]) w := by kernel_rfl
theorem ix9 (w : World) : (Instr.index 83 (.agg tabCells) (.int .i64 9)).run Tryd.prog w = .ok (.agg #[.int .i64 3, .int .i64 9, .int .i64 10, .int .i64 0, .string ⟨#[]⟩, .int .i64 0, .int .i64 0, .int .i64 0, .string ⟨#[]⟩, .int .i64 0, .int .i64 0, .int .i64 0, .string ⟨#[]⟩, .int .i64 0, .int .i64 0]) w := by kernel_rfl
theorem ix10 (w : World) : (Instr.index 83 (.agg tabCells) (.int .i64 10)).run Tryd.prog w = .ok (.agg #[.int .i64 4, .int .i64 2, .int .i64 2, .int .i64 0, .string ⟨#[]⟩, .int .i64 0, .int .i64 0, .int .i64 0, .string ⟨#[]⟩, .int .i64 0, .int .i64 0, .int .i64 0, .string ⟨#[]⟩, .int .i64 0, .int .i64 0]) w := by kernel_rfl

theorem below_setRow {B : Nat} {a w : World} (h : Below B a w) {g : Nat} (hg : B ≤ g) (cs : Array Value) : Below B a (w.setRow g cs) :=
  ⟨h.os, h.tape, h.output, by simpa using h.size, fun k hk => (setRow_other w g k cs (by omega)).trans (h.block k hk)⟩
/-- a whole value stored into a variable that was just made: the world's new name -/
theorem store_new {P : Program} {W : World} {ops : Array Oper} {rest : List Oper} {o : Oper} {a : Act} {Q : Exit → Act → World → Prop} (hgd : o.guard = none) (ty : TypeId) (x y : Operand) (ho : o.op = .store ty x y)
    (cells zs : Array Value) (hx : a.eval x = .pointer (some ⟨W.heap.size, 0, none⟩)) (hy : a.eval y = .agg cells)
    (hi : (P.info? ty).map (·.size) = some cells.size) (hold : zs.size = cells.size) (h1 : cells.all (·.oneCell') = true)
    (h : ∀ w1, w1.heap[W.heap.size]? = some (.cells cells ty (0, 0)) → Below W.heap.size W w1 → wpList P ops Q rest (a.put o.dst undef) w1) : wpList P ops Q (o :: rest) a (W.alloc (.cells zs ty)) :=
  wpList_store_row hgd ty x y ho W.heap.size cells hx hy ty zs (heap_alloc_new W _) hi hold h1
    (h _ (setRow_heap _ _ zs cells ty (0, 0) (heap_alloc_new W _)) (below_setRow ((Below.refl _ _).alloc (Nat.le_refl _) _) (Nat.le_refl _) _))

/-- a row of the table: state, event, three actions (kind, cause, number), the next state -/
structure TRow where
  st : Int
  ev : Int
  k0 : Int
  c0 : Int
  n0 : Int
  k1 : Int
  c1 : Int
  n1 : Int
  k2 : Int
  c2 : Int
  n2 : Int
  nx : Int
abbrev E : ByteArray := ⟨#[]⟩
def TRow.cells (r : TRow) : Array Value := #[.int .i64 r.st, .int .i64 r.ev, .int .i64 r.k0, .int .i64 r.c0, .string E, .int .i64 r.n0, .int .i64 r.k1, .int .i64 r.c1, .string E, .int .i64 r.n1, .int .i64 r.k2, .int .i64 r.c2, .string E, .int .i64 r.n2, .int .i64 r.nx]
def trow : Nat → TRow
  | 0 => ⟨0, 10, 11, 0, 0, 13, 0, 0, 9, 0, 30, 1⟩
  | 1 => ⟨1, 1, 12, 0, 0, 10, 0, 0, 14, 0, 0, 2⟩
  | 2 => ⟨1, 11, 12, 0, 0, 10, 0, 0, 0, 0, 0, 0⟩
  | 3 => ⟨1, 9, 12, 0, 0, 10, 0, 0, 0, 0, 0, 0⟩
  | 4 => ⟨1, 4, 12, 0, 0, 17, 19, 0, 0, 0, 0, 0⟩
  | 5 => ⟨2, 2, 15, 0, 0, 9, 0, 15, 0, 0, 0, 3⟩
  | 6 => ⟨2, 9, 3, 0, 0, 0, 0, 0, 0, 0, 0, 4⟩
  | 7 => ⟨3, 1, 10, 0, 0, 16, 0, 0, 0, 0, 0, 2⟩
  | 8 => ⟨3, 12, 7, 16, 0, 0, 0, 0, 0, 0, 0, 0⟩
  | 9 => ⟨3, 9, 10, 0, 0, 0, 0, 0, 0, 0, 0, 0⟩
  | 10 => ⟨4, 2, 2, 0, 0, 0, 0, 0, 0, 0, 0, 0⟩
  | _ => ⟨0, 0, 0, 0, 0, 0, 0, 0, 0, 0, 0, 0⟩
theorem ixr (j : Nat) (hj : j < 11) (w : World) : (Instr.index 83 (.agg tabCells) (.int .i64 (j : Int))).run Tryd.prog w = .ok (.agg (trow j).cells) w := by
  match j, hj with
  | 0, _ => exact ix0 w
  | 1, _ => exact ix1 w
  | 2, _ => exact ix2 w
  | 3, _ => exact ix3 w
  | 4, _ => exact ix4 w
  | 5, _ => exact ix5 w
  | 6, _ => exact ix6 w
  | 7, _ => exact ix7 w
  | 8, _ => exact ix8 w
  | 9, _ => exact ix9 w
  | 10, _ => exact ix10 w

theorem iy0 (a b c d e f g h i : Int) (w : World) : (Instr.index 80 (.agg #[.int .i64 a, .int .i64 b, .string E, .int .i64 c, .int .i64 d, .int .i64 e, .string E, .int .i64 f, .int .i64 g, .int .i64 h, .string E, .int .i64 i]) (.int .i64 0)).run Tryd.prog w = .ok (.agg #[.int .i64 a, .int .i64 b, .string E, .int .i64 c]) w := by kernel_rfl
theorem iy1 (a b c d e f g h i : Int) (w : World) : (Instr.index 80 (.agg #[.int .i64 a, .int .i64 b, .string E, .int .i64 c, .int .i64 d, .int .i64 e, .string E, .int .i64 f, .int .i64 g, .int .i64 h, .string E, .int .i64 i]) (.int .i64 1)).run Tryd.prog w = .ok (.agg #[.int .i64 d, .int .i64 e, .string E, .int .i64 f]) w := by kernel_rfl
theorem iy2 (a b c d e f g h i : Int) (w : World) : (Instr.index 80 (.agg #[.int .i64 a, .int .i64 b, .string E, .int .i64 c, .int .i64 d, .int .i64 e, .string E, .int .i64 f, .int .i64 g, .int .i64 h, .string E, .int .i64 i]) (.int .i64 2)).run Tryd.prog w = .ok (.agg #[.int .i64 g, .int .i64 h, .string E, .int .i64 i]) w := by kernel_rfl
end Go.Proofs.YtenaokgcljpcgaaDoor.GQ
