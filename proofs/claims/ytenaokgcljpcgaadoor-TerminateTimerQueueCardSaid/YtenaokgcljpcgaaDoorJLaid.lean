/- What the rows' condition on crossbar/terminate.table gives: the table's cells; and a world that meets it. -/
import Derived.Test.YtenaokgcljpcgaaDoorRows
import Derived.Test.YtenaokgcljpcgaaDoorJT
import Derived.ProofKit
import Derived.LaidMore
import Derived.OpenShut
import Derived.Stop.Joined
set_option linter.unusedVariables false
set_option maxRecDepth 100000
set_option linter.unusedSimpArgs false
namespace Go.Proofs.YtenaokgcljpcgaaDoor.GQ
open Go.ChangeShapes Go.WideShapes Go.ChangeAt Go.RowKit

theorem chunks {α : Type} (k : Nat) : ∀ (n : Nat) (cs : List α), cs.length = n * k → cs = (List.range n).flatMap fun i => (cs.drop (i * k)).take k := by
  intro n
  induction n with
  | zero => intro cs h; simp at h; simp [h]
  | succ n ih =>
    intro cs h
    rw [Nat.add_mul, Nat.one_mul] at h
    have h1 := ih (cs.take (n * k)) (by rw [List.length_take]; omega)
    rw [List.range_succ, List.flatMap_append]
    have h2 : (List.range n).flatMap (fun i => (cs.drop (i * k)).take k) = cs.take (n * k) := by
      conv => rhs; rw [h1]
      simp only [List.flatMap_def]
      congr 1
      apply List.map_congr_left
      intro i hi
      have hi := List.mem_range.1 hi
      have hik : i * k + k ≤ n * k := by
        have := Nat.mul_le_mul_right k (show i + 1 ≤ n by omega)
        rw [Nat.add_mul, Nat.one_mul] at this
        exact this
      rw [List.drop_take, List.take_take]
      congr 1
      omega
    rw [h2]
    simp only [List.flatMap_cons, List.flatMap_nil, List.append_nil]
    rw [List.take_of_length_le (l := cs.drop (n * k)) (by rw [List.length_drop]; omega), List.take_append_drop]

section
variable {H : Type} {enc : TypeId × Value → H} {w : World} {base : Nat} {sp : Nat → Bool} {held : Bool} {m : Nat} {cs : List Value} {x : DataW H × List MemPlace}
abbrev ld (n : Int) : DataW H := .lit (.int .i64 n)
def d46 (a b c : Int) : DataW H := .agg [ld a, ld b, .lit (.string []), ld c]
def v46 (a b c : Int) : List Value := [.int .i64 a, .int .i64 b, .string E, .int .i64 c]
theorem c3 {n : Int} (h : DataW.trod enc Tryd.prog w base sp held m 3 cs = some x) (e : x.1 = ld n) : cs = [.int .i64 n] := by
  obtain ⟨q, rfl, rfl, _⟩ := DataW.trod_int Tryd.underlying3 h
  simp [ld] at e
  rw [e]
theorem c9 (h : DataW.trod enc Tryd.prog w base sp held m 9 cs = some x) (e : x.1 = .lit (.string [])) : cs = [.string E] := by
  obtain ⟨⟨q⟩, rfl, rfl, _⟩ := DataW.trod_string Tryd.underlying9 h
  simp at e
  rw [e]
theorem n3 : Tryd.prog.cellsOf 3 = 1 := by kernel_rfl
theorem n9 : Tryd.prog.cellsOf 9 = 1 := by kernel_rfl
theorem n46 : Tryd.prog.cellsOf 46 = 4 := by kernel_rfl
theorem n80 : Tryd.prog.cellsOf 80 = 12 := by kernel_rfl
theorem n82 : Tryd.prog.cellsOf 82 = 15 := by kernel_rfl
theorem n83 : Tryd.prog.cellsOf 83 = 165 := by kernel_rfl
theorem c46 {a b c : Int} (h : DataW.trod enc Tryd.prog w base sp held m 46 cs = some x) (e : x.1 = d46 a b c) : cs = v46 a b c := by
  obtain ⟨xs, n, rfl, rfl, hl, hx, hf⟩ := DataW.trod_struct Tryd.underlying46 h
  rw [n46] at hl
  match xs, hx, cs, hl with
  | [x0, x1, x2, x3], _, [y0, y1, y2, y3], _ =>
    simp only [d46, List.map_cons, List.map_nil, DataW.agg.injEq, List.cons.injEq, and_true] at e
    have h0 := hf 0 _ rfl; have h1 := hf 1 _ rfl; have h2 := hf 2 _ rfl; have h3 := hf 3 _ rfl
    simp [n3, n9] at h0 h1 h2 h3
    have g0 := c3 h0 e.1; have g1 := c3 h1 e.2.1; have g2 := c9 h2 e.2.2.1; have g3 := c3 h3 e.2.2.2
    simp at g0 g1 g2 g3
    rw [g0, g1, g2, g3]; rfl
theorem c80 {a b c a1 b1 c1 a2 b2 c2 : Int} (h : DataW.trod enc Tryd.prog w base sp held m 80 cs = some x) (e : x.1 = .agg [d46 a b c, d46 a1 b1 c1, d46 a2 b2 c2]) : cs = v46 a b c ++ v46 a1 b1 c1 ++ v46 a2 b2 c2 := by
  obtain ⟨xs, n, rfl, rfl, hl, hx, hf⟩ := DataW.trod_array Tryd.underlying80 h
  rw [n80] at hl
  match xs, hx with
  | [x0, x1, x2], _ =>
    simp only [List.map_cons, List.map_nil, DataW.agg.injEq, List.cons.injEq, and_true] at e
    have h0 := hf 0 (by omega); have h1 := hf 1 (by omega); have h2 := hf 2 (by omega)
    rw [n46] at h0 h1 h2
    have g0 := c46 h0 e.1; have g1 := c46 h1 e.2.1; have g2 := c46 h2 e.2.2
    rw [chunks 4 3 cs (by omega)]
    simp only [List.range_succ, List.range_zero, List.nil_append, List.flatMap_append, List.flatMap_cons, List.flatMap_nil, List.append_nil, List.append_assoc, List.cons_append]
    rw [g0, g1, g2]
def dRow (r : TRow) : DataW H := .agg [ld r.st, ld r.ev, .agg [d46 r.k0 r.c0 r.n0, d46 r.k1 r.c1 r.n1, d46 r.k2 r.c2 r.n2], ld r.nx]
theorem c82 {r : TRow} (h : DataW.trod enc Tryd.prog w base sp held m 82 cs = some x) (e : x.1 = dRow r) : cs = r.cells.toList := by
  obtain ⟨xs, n, rfl, rfl, hl, hx, hf⟩ := DataW.trod_struct Tryd.underlying82 h
  rw [n82] at hl
  match xs, hx with
  | [x0, x1, x2, x3], _ =>
    simp only [dRow, List.map_cons, List.map_nil, DataW.agg.injEq, List.cons.injEq, and_true] at e
    have h0 := hf 0 _ rfl; have h1 := hf 1 _ rfl; have h2 := hf 2 _ rfl; have h3 := hf 3 _ rfl
    simp [n3, n80] at h0 h1 h2 h3
    have g0 := c3 h0 e.1; have g1 := c3 h1 e.2.1; have g2 := c80 h2 e.2.2.1; have g3 := c3 h3 e.2.2.2
    have hc : cs = (cs.drop 0).take 1 ++ ((cs.drop 1).take 1 ++ ((cs.drop 2).take 12 ++ (cs.drop 14).take 1)) := by
      rw [List.take_of_length_le (l := cs.drop 14) (by rw [List.length_drop]; omega)]
      rw [show cs.drop 14 = (cs.drop 2).drop 12 by rw [List.drop_drop], List.take_append_drop]
      rw [show cs.drop 2 = (cs.drop 1).drop 1 by rw [List.drop_drop], List.take_append_drop]
      rw [show cs.drop 1 = (cs.drop 0).drop 1 by rw [List.drop_drop], List.take_append_drop]
      rfl
    rw [hc]
    rw [show (cs.drop 0).take 1 = [.int .i64 r.st] from g0, show (cs.drop 1).take 1 = [.int .i64 r.ev] by simpa using g1, show (cs.drop 2).take 12 = _ from g2, show (cs.drop 14).take 1 = [.int .i64 r.nx] from g3]
    rfl
theorem c83 (h : DataW.trod enc Tryd.prog w base sp held m 83 cs = some x) (e : x.1 = .agg ((List.range 11).map fun j => dRow (trow j))) : cs = (List.range 11).flatMap fun j => (trow j).cells.toList := by
  obtain ⟨xs, n, rfl, rfl, hl, hx, hf⟩ := DataW.trod_array Tryd.underlying83 h
  rw [n83] at hl
  simp only [DataW.agg.injEq] at e
  rw [chunks 15 11 cs (by omega)]
  simp only [List.flatMap_def]
  congr 1
  apply List.map_congr_left
  intro i hi
  have hi := List.mem_range.1 hi
  have hxi : xs[i]? = some (xs[i]'(by omega)) := List.getElem?_eq_getElem (by omega)
  have h1 := (hf i hi).trans hxi
  rw [n82] at h1
  refine c82 h1 ?_
  have e2 := congrArg (·[i]?) e
  simp only [List.getElem?_map, hxi, List.getElem?_range hi, Option.map_some] at e2
  exact Option.some.inj e2
end
theorem tab_data : (Rows.laid_crossbar_terminate_table : DataW Unit) = .agg ((List.range 11).map fun j => dRow (trow j)) := by kernel_rfl
theorem tab_list : tabCells.toList = (List.range 11).flatMap fun j => (trow j).cells.toList := by kernel_rfl
theorem gTab : Tryd.prog.globalNamed "crossbar/terminate.table" = some 0 := by kernel_rfl
theorem tTab : (Tryd.prog.globals[0]?).map (·.type) = some 83 := by kernel_rfl
theorem own : ownKnob Tryd.prog.godebug = none := by kernel_rfl
theorem laidOut : laidOutB Tryd.prog = true := by kernel_rfl
theorem var_tab {W : World} {cs : Array Value} (h : W.var? Tryd.prog "crossbar/terminate.table" = some cs) : ∃ t fr, W.heap[0]? = some (.cells cs t fr) := by
  unfold World.var? at h
  rw [gTab] at h
  simp only [Option.bind_some, Option.bind_eq_bind] at h
  split at h <;> simp_all
def tabL : List (String × DataW Unit) := [("crossbar/terminate.table", Rows.laid_crossbar_terminate_table)]
/-- what the condition says of the table, for the walks -/
theorem tab_of_laid {W : World} (h : laidMetH Tryd.prog [("crossbar/terminate.table", Rows.laid_crossbar_terminate_table)] W) : Tab W := by
  obtain ⟨ps, ⟨g0, t0, cs0, f0, p0, q0, hg0, ht0, hv0, hd0, _⟩, _⟩ := h
  obtain rfl := Option.some.inj (gTab.symm.trans hg0)
  obtain rfl := Option.some.inj (tTab.symm.trans ht0)
  have e : cs0 = tabCells := by
    have h1 := c83 hd0 tab_data
    rw [← tab_list] at h1
    exact Array.toList_inj.1 h1
  subst e
  obtain ⟨t, fr, hh⟩ := var_tab hv0
  exact ⟨t, fr, hh⟩
theorem door_met (os : Os) (args : Array Value) : laidMetH Tryd.prog [("crossbar/terminate.table", Rows.laid_crossbar_terminate_table)] ((World.doorLaid Tryd.prog 66 os).forCall (fun _ _ => 0) ⟨#[], args, []⟩).memory := by
  have h : laidMet Tryd.prog [("crossbar/terminate.table", Rows.laid_crossbar_terminate_table)] ((World.doorLaid Tryd.prog 66 os).forCall (fun _ _ => 0) ⟨#[], args, []⟩).memory := laidMet_of_run' 8 (by kernel_rfl) (by kernel_rfl)
  exact h
end Go.Proofs.YtenaokgcljpcgaaDoor.GQ
