/- A new entry of a map with keys of type int. -/
import Derived.Test.YtenaokgcljpcgaaDoorHC
import Derived.WideMake
set_option linter.unusedVariables false
set_option linter.unusedSimpArgs false
namespace Go.Proofs.YtenaokgcljpcgaaDoor.GA
open Go.RowKit Go.Proofs.YtenaokgcljpcgaaDoorW.PrintWords Go.Proofs.YtenaokgcljpcgaaDoorW.PrintLast Go.Proofs.YtenaokgcljpcgaaDoorW.PrintMore
theorem mput {w : World} {r clock : Nat} {es : Array MapEntry} {k : Int} (val : Value) (hb : w.heap[r]? = some (.map es clock)) (hf : Instr.findNow (.int .i64) (.int .i64 k) es.toList 0 = some none) :
    (Instr.mapUpdate 129 (.map (some r)) (.int .i64 k) val).run Tryd.prog w = .ok () { w with heap := w.heap.setIfInBounds r (.map (es.push { key := .int .i64 k, val := val, born := clock }) (clock + 1)) } := by
  have hc : (Instr.checkKey false 10000 3 (.int .i64 k)).run Tryd.prog w = .ok () w := MapKept.run_checkKey (k := .int .i64 k) Tryd.underlying3 (by simp [MapKept.IsKey]) false 9999
  simp [Instr.mapUpdate, run_underlying Tryd.underlying129, MapKept.run_getObj_map hb, hc, MapKept.run_findKey Tryd.underlying3 hf, MapKept.run_setObj_map _ hb, Result.andThen]
theorem heap_new (w : World) (o : Obj) {n : Nat} (h : n = w.heap.size) : (w.alloc o).heap[n]? = some o := by
  subst h
  show (w.heap.push o)[w.heap.size]? = _
  simp
set_option maxRecDepth 100000 in
theorem mput_ {W : World} {r clock : Nat} {es : Array MapEntry} {k : Int} (val : Value) (hb : W.heap[r]? = some (.map es clock)) (hf : Instr.findNow (.int .i64) (.int .i64 k) es.toList 0 = some none) :
    ∃ W', (Instr.mapUpdate 129 (.map (some r)) (.int .i64 k) val).run Tryd.prog W = .ok () W' ∧ W'.heap[r]? = some (.map (es.push { key := .int .i64 k, val := val, born := clock }) (clock + 1)) ∧ W'.heap.size = W.heap.size ∧ (∀ b, b ≠ r → W'.heap[b]? = W.heap[b]?) ∧ (∀ B, B ≤ r → Below B W W') := by
  have hlt : r < W.heap.size := (Array.getElem?_eq_some_iff.1 hb).1
  have hne : ∀ b, b ≠ r → (W.heap.setIfInBounds r (.map (es.push { key := .int .i64 k, val := val, born := clock }) (clock + 1)))[b]? = W.heap[b]? := fun b h => by rw [Array.getElem?_setIfInBounds, if_neg (by omega)]
  refine ⟨_, mput val hb hf, ?_, by simp, hne, fun B hB => ⟨rfl, rfl, rfl, by simp, fun j hj => hne j (by omega)⟩⟩
  show (W.heap.setIfInBounds r _)[r]? = _
  rw [Array.getElem?_setIfInBounds, if_pos rfl, if_pos hlt]
set_option maxRecDepth 100000 in
theorem upd_ {o : Oper} {a : Act} {K : Act → World → Prop} {Q : Exit → Act → World → Prop} {W : World} {r clock : Nat} {es : Array MapEntry} {k : Int} {val : Value} {f : Unit → World → Result Next} (hb : W.heap[r]? = some (.map es clock)) (hf : Instr.findNow (.int .i64) (.int .i64 k) es.toList 0 = some none)
    (h : ∀ W', W'.heap[r]? = some (.map (es.push { key := .int .i64 k, val := val, born := clock }) (clock + 1)) → W'.heap.size = W.heap.size → (∀ b, b ≠ r → W'.heap[b]? = W.heap[b]?) → (∀ B, B ≤ r → Below B W W') → Oper.upon Tryd.prog o a K Q (f () W')) :
    Oper.upon Tryd.prog o a K Q (((Instr.mapUpdate 129 (.map (some r)) (.int .i64 k) val).run Tryd.prog W).andThen f) := by
  obtain ⟨W', hr, h1, h2, h3, h4⟩ := mput_ val hb hf
  rw [hr]
  exact h W' h1 h2 h3 h4
theorem mget_none {w : World} {r clock : Nat} {es : Array MapEntry} {k : Int} (hb : w.heap[r]? = some (.map es clock)) (hf : Instr.findNow (.int .i64) (.int .i64 k) es.toList 0 = some none) :
    (Instr.lookup 129 (.map (some r)) (.int .i64 k) false).run Tryd.prog w = .ok (.slice none 0 0) w := by
  have hc : (Instr.checkKey es.isEmpty 10000 3 (.int .i64 k)).run Tryd.prog w = .ok () w := MapKept.run_checkKey (k := .int .i64 k) Tryd.underlying3 (by simp [MapKept.IsKey]) es.isEmpty 9999
  have hz : (zeroValue 86).run Tryd.prog w = .ok (.slice none 0 0) w := by kernel_rfl
  simp [Instr.lookup, run_underlying Tryd.underlying129, MapKept.run_getObj_map hb, hc, MapKept.run_findKey Tryd.underlying3 hf, hz, Result.andThen]
theorem mget_some {w : World} {r clock j : Nat} {v : Value} {es : Array MapEntry} {k : Int} (hb : w.heap[r]? = some (.map es clock)) (hf : Instr.findNow (.int .i64) (.int .i64 k) es.toList 0 = some (some (j, v))) :
    (Instr.lookup 129 (.map (some r)) (.int .i64 k) false).run Tryd.prog w = .ok v w := by
  have hc : (Instr.checkKey es.isEmpty 10000 3 (.int .i64 k)).run Tryd.prog w = .ok () w := MapKept.run_checkKey (k := .int .i64 k) Tryd.underlying3 (by simp [MapKept.IsKey]) es.isEmpty 9999
  simp [Instr.lookup, run_underlying Tryd.underlying129, MapKept.run_getObj_map hb, hc, MapKept.run_findKey Tryd.underlying3 hf, Result.andThen]
end Go.Proofs.YtenaokgcljpcgaaDoor.GA
