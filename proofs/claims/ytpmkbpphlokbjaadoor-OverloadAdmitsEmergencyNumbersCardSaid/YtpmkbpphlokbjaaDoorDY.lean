/- dialplan.Check of the given program answers at every list of rules. -/
import Derived.Test.YtpmkbpphlokbjaaDoorDX
import Derived.Maps.OwnOps
import Derived.Carry
import Derived.StringKeys
set_option linter.unusedVariables false
set_option linter.unusedSimpArgs false
namespace Go.Proofs.YtpmkbpphlokbjaaDoor.EM
open Go.RowKit
theorem plainElem_bool_inv {H : Type} {P : Program} {e : TypeId} (he : P.underlying e = some .bool) {v : Value} {z : DataW H × List MemPlace} (h : plainElem P e v = some z) : ∃ x, v = .bool x := by
  unfold plainElem at h
  rw [he] at h
  cases v <;> simp at h
  exact ⟨_, rfl⟩
theorem zero4 (w : World) : (zeroValue 4).run Tryd.prog w = .ok (.bool false) w := by simp [go_sem]
theorem lookup_bool {w : World} {b n : Nat} {D : DataW Unit} (h : w.ownsMap (H := Unit) Tryd.prog 9 (plainElem Tryd.prog 4) b n D) (s : ByteArray) (hs : s.size ≤ maxLen) :
    ∃ x, (Instr.lookup 67 (.map (some b)) (.string s) false).run Tryd.prog w = .ok (.bool x) w := by
  obtain ⟨v, ps, hrun, hv⟩ := h.lookup (Maps.string_keyed Tryd.underlying9) Tryd.underlying67 (zero4 w) (plainElem_bool Tryd.underlying4 false) (Go.WideMaps.keyOf_string_mk Tryd.underlying9 hs)
  obtain ⟨x, rfl⟩ := plainElem_bool_inv Tryd.underlying4 hv
  exact ⟨x, hrun⟩
/-- a dial rule -/
structure Rl where
  p : ByteArray
  mn : Int
  mx : Int
  kd : Int
theorem add_form (x : Addr) (n j : Nat) : x.add (n + (j + 1)) = ⟨(x.add n).block, (x.add n).off + (j + 1), none⟩ := by
  unfold Addr.add
  by_cases h : n = 0
  · subst h; simp
  · simp [h]; omega
/-- a rule's cells -/
structure RuleAt (W : World) (y : Addr) (r : Rl) : Prop where
  c0 : W.cell? y = some (.string r.p)
  c1 : W.cell? ⟨y.block, y.off + 1, none⟩ = some (.int .i64 r.mn)
  c2 : W.cell? ⟨y.block, y.off + 2, none⟩ = some (.int .i64 r.mx)
  c3 : W.cell? ⟨y.block, y.off + 3, none⟩ = some (.int .i64 r.kd)
  sz : r.p.size ≤ maxLen
theorem RuleAt.below {W W' : World} {y : Addr} {r : Rl} (h : RuleAt W y r) (hB : Below W.heap.size W W') : RuleAt W' y r :=
  ⟨(hB.cell (World.block_lt_of_cell? _ _ h.c0)).trans h.c0, (hB.cell (World.block_lt_of_cell? _ _ h.c1)).trans h.c1, (hB.cell (World.block_lt_of_cell? _ _ h.c2)).trans h.c2, (hB.cell (World.block_lt_of_cell? _ _ h.c3)).trans h.c3, h.sz⟩
/-- the rules lie in a row -/
def Rules (W : World) (a : Option Addr) (l : List Rl) : Prop := ∀ (i : Nat) (r : Rl), l[i]? = some r → ∃ x, a = some x ∧ RuleAt W (x.add (i * 4)) r
theorem Rules.below {W W' : World} {a : Option Addr} {l : List Rl} (h : Rules W a l) (hB : Below W.heap.size W W') : Rules W' a l := by
  intro i r hr
  obtain ⟨x, hx, hx'⟩ := h i r hr
  exact ⟨x, hx, hx'.below hB⟩
set_option maxRecDepth 100000 in
set_option maxHeartbeats 8000000 in
theorem check17 {a : Option Addr} {c : Nat} {l : List Rl} {w : World} (hR : Rules w a l) (hn : l.length ≤ c) (hl : l.length ≤ 100000) :
    Calls Tryd.prog 17 #[.slice a l.length c] w fun e w' => (∃ r, e = .returned (.int .i64 r)) ∧ Below w.heap.size w w' := by
  by_cases h64 : 64 < l.length
  · have d1 : decide (64 < (l.length : Int)) = true := decide_eq_true (by omega)
    have d1' : decide (64 < l.length) = true := decide_eq_true h64
    go_enter Tryd.func17, Tryd.ntmps17
    go_wp2_with fail
    refine ⟨rfl, .int .i64 2, ?res, ⟨_, rfl⟩, Below.refl _ _⟩
    case res => simp [go_sem, results, Tryd.f17]
  have d1 : decide (64 < (l.length : Int)) = false := decide_eq_false (by omega)
  have d1' : decide (64 < l.length) = false := decide_eq_false h64
  go_enter Tryd.func17, Tryd.ntmps17
  have hmm := @run_makeMap Tryd.prog
  go_wp2_with fail
  have hK : Maps.Keyed Tryd.prog 9 := Maps.string_keyed Tryd.underlying9
  have hB0 : Below w.heap.size w (w.alloc (Obj.map #[] 0)) := (Below.refl _ _).alloc (Nat.le_refl _) _
  have hown0 : (w.alloc (Obj.map #[] 0)).ownsMap (H := Unit) Tryd.prog 9 (plainElem Tryd.prog 4) w.heap.size 0 (.map []) := World.ownsMap_made w Tryd.prog 9 _
  go_loopw [13] (fun i W => ∃ (k : Nat) (D : DataW Unit), k ≤ l.length ∧ i = .int .i64 (k : Int) ∧ Below w.heap.size w W ∧ w.heap.size < W.heap.size ∧ W.ownsMap (H := Unit) Tryd.prog 9 (plainElem Tryd.prog 4) w.heap.size k D) (fun i _ => l.length - (intOf i).toNat)
  case atStart => exact ⟨0, _, by omega, rfl, hB0, by simp, hown0⟩
  case round =>
    obtain ⟨k, D, hk, rfl, hB, hS, hown⟩ := hrel
    by_cases hlt : k < l.length
    · have hlt' : decide ((k : Int) < (l.length : Int)) = true := decide_eq_true (by omega)
      have hkb : (k : Int) < (l.length : Int) := by omega
      obtain ⟨r, hr⟩ : ∃ r, l[k]? = some r := ⟨_, List.getElem?_eq_getElem hlt⟩
      obtain ⟨x, rfl, hra⟩ := (hR.below hB) k r hr
      obtain ⟨a0, a1, a2, a3, hsz⟩ := hra
      have hsz' : r.p.size ≤ 9223372036854775807 := by simpa [maxLen] using hsz
      have ak := hown.alloc (.cells #[.string r.p, .int .i64 r.mn, .int .i64 r.mx, .int .i64 r.kd] 32)
      have aB : Below w.heap.size w (wr.alloc (.cells #[.string r.p, .int .i64 r.mn, .int .i64 r.mx, .int .i64 r.kd] 32)) := hB.alloc (by omega) _
      have e0 : (wr.alloc (.cells #[.string r.p, .int .i64 r.mn, .int .i64 r.mx, .int .i64 r.kd] 32)).cell? ⟨wr.heap.size, 0, none⟩ = some (.string r.p) := by simp [go_sem]
      have e1 : (wr.alloc (.cells #[.string r.p, .int .i64 r.mn, .int .i64 r.mx, .int .i64 r.kd] 32)).cell? ⟨wr.heap.size, 1, none⟩ = some (.int .i64 r.mn) := by simp [go_sem]
      have e2 : (wr.alloc (.cells #[.string r.p, .int .i64 r.mn, .int .i64 r.mx, .int .i64 r.kd] 32)).cell? ⟨wr.heap.size, 2, none⟩ = some (.int .i64 r.mx) := by simp [go_sem]
      have e3 : (wr.alloc (.cells #[.string r.p, .int .i64 r.mn, .int .i64 r.mx, .int .i64 r.kd] 32)).cell? ⟨wr.heap.size, 3, none⟩ = some (.int .i64 r.kd) := by simp [go_sem]
      have eS : (wr.alloc (.cells #[.string r.p, .int .i64 r.mn, .int .i64 r.mx, .int .i64 r.kd] 32)).heap.size = wr.heap.size + 1 := by simp
      obtain ⟨wa, hwa⟩ : ∃ W, wr.alloc (.cells #[.string r.p, .int .i64 r.mn, .int .i64 r.mx, .int .i64 r.kd] 32) = W := ⟨_, rfl⟩
      rw [hwa] at ak aB e0 e1 e2 e3 eS
      by_cases s1 : r.p.size < 1
      · have s1' : decide ((r.p.size : Int) < 1) = true := decide_eq_true (by omega)
        have s1'' : decide (r.p.size < 1) = true := decide_eq_true s1
        go_wp2_with fail
        all_goals exact bodyPost_ret (v := .int .i64 80) (by simp [results, Tryd.f17, go_sem]) rfl ⟨⟨_, rfl⟩, aB⟩
      have s1' : decide ((r.p.size : Int) < 1) = false := decide_eq_false (by omega)
      by_cases s2 : 15 < r.p.size
      · have s2' : decide (15 < (r.p.size : Int)) = true := decide_eq_true (by omega)
        have s2'' : decide (15 < r.p.size) = true := decide_eq_true s2
        go_wp2_with fail
        all_goals exact bodyPost_ret (v := .int .i64 80) (by simp [results, Tryd.f17, go_sem]) rfl ⟨⟨_, rfl⟩, aB⟩
      have s2' : decide (15 < (r.p.size : Int)) = false := decide_eq_false (by omega)
      have s2'' : decide (15 < r.p.size) = false := decide_eq_false s2
      go_wp2_with fail
      refine (numeric_calls r.p wa hsz').mono ?_
      rintro e w5 ⟨⟨b, rfl, _⟩, hb5⟩
      have f0 := (hb5.cell (p := ⟨wr.heap.size, 0, none⟩) (by show wr.heap.size < _; omega)).trans e0
      have f1 := (hb5.cell (p := ⟨wr.heap.size, 1, none⟩) (by show wr.heap.size < _; omega)).trans e1
      have f2 := (hb5.cell (p := ⟨wr.heap.size, 2, none⟩) (by show wr.heap.size < _; omega)).trans e2
      have f3 := (hb5.cell (p := ⟨wr.heap.size, 3, none⟩) (by show wr.heap.size < _; omega)).trans e3
      have aB5 : Below w.heap.size w w5 := aB.trans (hb5.mono aB.size)
      have fS : w.heap.size < w5.heap.size := by have := hb5.size; omega
      have ak5 : w5.ownsMap (H := Unit) Tryd.prog 9 (plainElem Tryd.prog 4) w.heap.size k D := ak.kept ⟨hb5.os, hb5.tape, hb5.output, hb5.size, fun i hi _ => hb5.block i hi⟩ (row := none) (by simp)
      rcases b with _ | _
      · go_wp2_with fail
        all_goals exact bodyPost_ret (v := .int .i64 80) (by simp [results, Tryd.f17, go_sem]) rfl ⟨⟨_, rfl⟩, aB5⟩
      obtain ⟨q, hq⟩ := lookup_bool ak5 r.p hsz
      rcases q with _ | _
      case true =>
        go_wp2_with fail
        all_goals exact bodyPost_ret (v := .int .i64 80) (by simp [results, Tryd.f17, go_sem]) rfl ⟨⟨_, rfl⟩, aB5⟩
      clear e0 e1 e2 e3 a0 a1 a2 a3
      go_wp2_with (at_mapUpdate; refine wpList_mapUpdate_own (H := Unit) _ rfl _ _ _ 67 rfl 9 4 (Maps.string_keyed Tryd.underlying9) Tryd.underlying67 _ w.heap.size k D rfl ak5 (by simp only [maxLen]; omega) _ _ (.string r.p.data.toList) rfl rfl (Go.WideMaps.keyOf_string_mk Tryd.underlying9 hsz) (.lit (.bool true)) [] (plainElem_bool Tryd.underlying4 true) ?_; intro w6 hown6 hgrow6)
      all_goals first | exact bodyPost_ret (v := .int .i64 80) (by simp [results, Tryd.f17, go_sem]) rfl ⟨⟨_, rfl⟩, aB5⟩ | exact ⟨⟨k + 1, _, by omega, rfl, aB5.grown hgrow6 aB5.size (fun q e => by cases e; exact Nat.le_refl _), by have := hgrow6.size; omega, hown6⟩, by simp [intOf]; omega⟩
    · have hlt' : decide ((k : Int) < (l.length : Int)) = false := decide_eq_false (by omega)
      go_wp2_with fail
      exact bodyPost_ret (v := .int .i64 0) (by simp [results, Tryd.f17, go_sem]) rfl ⟨⟨_, rfl⟩, hB⟩
end Go.Proofs.YtpmkbpphlokbjaaDoor.EM
