/- trie.New and trie.checked of the given program, and slices.Clone at its nodes. -/
import Derived.Test.YtpmkbpphlokbjaaDoorDT
import Derived.Maps.AppendAt
set_option linter.unusedVariables false
set_option linter.unusedSimpArgs false
namespace Go.Proofs.YtpmkbpphlokbjaaDoor.EM
open Go.RowKit
set_option maxRecDepth 100000 in
set_option maxHeartbeats 4000000 in
theorem checked24 {g n c : Nat} {kid : Nat → Nat → Int} {val : Nat → Int} {s : ByteArray} {w : World} (hN : Nodes w g n kid val) (hnc : n ≤ c) (hs : s.size ≤ 9223372036854775807) :
    Calls Tryd.prog 24 #[.agg #[.slice (some ⟨g, 0, none⟩) n c], .string s] w fun e w' => (∃ r, e = .returned (.int .i64 r) ∧ (r = 0 → s.size ≤ 15 ∧ ∀ b ∈ s.data.toList, 48 ≤ b.toNat ∧ b.toNat ≤ 57)) ∧ Below w.heap.size w w' := by
  go_enter Tryd.func24, Tryd.ntmps24
  go_wp2_with fail
  have hb0 : Below w.heap.size w (w.alloc (Obj.cells #[Value.slice (some ⟨g, 0, none⟩) n c] 56)) := (Below.refl _ _).alloc (Nat.le_refl _) _
  refine (check33 (hN.below hb0) hnc).mono ?_
  rintro e w1 ⟨⟨r, rfl⟩, hb1⟩
  have HB1 : Below w.heap.size w w1 := hb0.trans (hb1.mono hb0.size)
  by_cases hr : r = 0
  · subst hr
    by_cases hl : s.size ≤ 15
    · have d1 : decide (15 < (s.size : Int)) = false := decide_eq_false (by omega)
      have d1' : decide (15 < s.size) = false := decide_eq_false (by omega)
      go_wp2_with fail
      refine (digits_calls s _ hs).mono ?_
      rintro e w2 ⟨⟨b, rfl, hb⟩, hb2⟩
      have HB2 : Below w.heap.size w w2 := HB1.trans (hb2.mono HB1.size)
      rcases b with _ | _
      · go_wp2_with fail
        refine ⟨rfl, .int .i64 60, ?res, ⟨_, rfl, fun h => by omega⟩, HB2⟩
        case res => simp [go_sem, results, Tryd.f24]
      · go_wp2_with fail
        refine ⟨rfl, .int .i64 0, ?res2, ⟨_, rfl, fun _ => ⟨hl, hb trivial⟩⟩, HB2⟩
        case res2 => simp [go_sem, results, Tryd.f24]
    · have d1 : decide (15 < (s.size : Int)) = true := decide_eq_true (by omega)
      have d1' : decide (15 < s.size) = true := decide_eq_true (by omega)
      go_wp2_with fail
      refine ⟨rfl, .int .i64 60, ?res3, ⟨_, rfl, fun h => by omega⟩, HB1⟩
      case res3 => simp [go_sem, results, Tryd.f24]
  · have e0 : (r != 0) = true := bne_iff_ne.mpr hr
    have e0' : (r == 0) = false := beq_eq_false_iff_ne.mpr hr
    have HR := Lib.hid hr
    clear hr
    go_wp2_with fail
    refine ⟨rfl, .int .i64 r, ?res4, ⟨_, rfl, fun h => absurd h HR.out⟩, HB1⟩
    case res4 => simp [go_sem, results, Tryd.f24]
theorem info72 : (Tryd.prog.info? 72).map (fun i => (i.zero, i.size, i.bytes)) = some (some (.agg #[.int .i64 0, .int .i64 0, .int .i64 0, .int .i64 0, .int .i64 0, .int .i64 0, .int .i64 0, .int .i64 0, .int .i64 0, .int .i64 0, .int .i64 0]), 11, 88) := by kernel_rfl
/-- a row of numbers as the cells hold it -/
def iv (xs : List Int) : List Value := xs.map (.int .i64)
theorem iv_len (xs : List Int) : (iv xs).length = xs.length := by simp [iv]
theorem iv_one (xs : List Int) : ∀ u ∈ iv xs, u.oneCell' = true := by
  intro u hu
  obtain ⟨x, _, rfl⟩ := List.mem_map.1 hu
  rfl
/-- the numbers of a row from its head on -/
def Row (W : World) (g : Nat) (xs : List Int) : Prop := ∀ j x, xs[j]? = some x → W.cell? ⟨g, j, none⟩ = some (.int .i64 x)
theorem Row.below {W W' : World} {g : Nat} {xs : List Int} (h : Row W g xs) (hb : Below W.heap.size W W') : Row W' g xs :=
  fun j x hx => (hb.cell (p := ⟨g, j, none⟩) (cell_lt (h j x hx))).trans (h j x hx)
theorem Row.below' {B : Nat} {W W' : World} {g : Nat} {xs : List Int} (h : Row W g xs) (hb : Below B W W') (hg : g < B) : Row W' g xs :=
  fun j x hx => (hb.cell (p := ⟨g, j, none⟩) hg).trans (h j x hx)
def kidOf (xs : List Int) (i d : Nat) : Int := (xs[i * 11 + d]?).getD 0
def valOf (xs : List Int) (i : Nat) : Int := (xs[i * 11 + 10]?).getD 0
theorem Row.nodes {W : World} {g n : Nat} {xs : List Int} (h : Row W g xs) (hl : xs.length = n * 11) : Nodes W g n (kidOf xs) (valOf xs) := by
  have hall : ∀ j, j < n * 11 → W.cell? ⟨g, j, none⟩ = some (.int .i64 ((xs[j]?).getD 0)) := by
    intro j hj
    have he : xs[j]? = some xs[j] := List.getElem?_eq_getElem (by omega)
    rw [he]
    exact h j _ he
  exact ⟨fun i d hi hd => hall _ (by omega), fun i hi => hall _ (by omega)⟩
theorem Row.cells {W : World} {g : Nat} {xs : List Int} (h : Row W g xs) : ∀ j u, (iv xs)[j]? = some u → W.cell? ⟨g, j, none⟩ = some u := by
  intro j u hu
  simp only [iv, List.getElem?_map, Option.map_eq_some_iff] at hu
  obtain ⟨x, hx, rfl⟩ := hu
  exact h j x hx
/-- a row of nodes of the call's own -/
theorem own_nodes {W : World} {base n : Nat} {v : Value} {xs : List Int} (h : W.ownsRow base 72 11 v n (iv xs)) (hn : 0 < n) :
    ∃ g c, v = .slice (some ⟨g, 0, none⟩) n c ∧ base ≤ g ∧ g < W.heap.size ∧ n ≤ c ∧ Row W g xs := by
  have h0 := h
  rcases h.2 with ⟨_, h0⟩ | ⟨g, c, cur, rfl, hb, hh, hnc, hcm, hcs, htk⟩
  · omega
  refine ⟨g, c, rfl, hb, (Array.getElem?_eq_some_iff.1 hh).1, hnc, fun j x hx => ?_⟩
  have hj : j < n * 11 := by
    have h1 := (List.getElem?_eq_some_iff.1 hx).1
    have h2 := h.1
    rw [iv_len] at h2
    omega
  rw [h0.cellAt j hj]
  simp [iv, hx]
theorem addz (b j : Nat) : ((⟨b, 0, none⟩ : Addr).add j) = ⟨b, j, none⟩ := by
  unfold Addr.add
  split <;> simp_all
theorem eq_nil (a : Addr) (n c : Nat) (w : World) : (binOp BinOp.eql 54 (.slice (some a) n c) (.slice none 0 0)).run Tryd.prog w = .ok (.bool false) w := by kernel_rfl
set_option maxRecDepth 100000 in
set_option maxHeartbeats 4000000 in
theorem clone25 {g n c : Nat} {xs : List Int} {w : World} (hR : Row w g xs) (hl : xs.length = n * 11) (hn : n ≤ 4096) (hnc : n ≤ c) :
    Calls Tryd.prog 25 #[.slice (some ⟨g, 0, none⟩) n c] w fun e w' => ∃ v, e = .returned v ∧ w'.ownsRow w.heap.size 72 11 v n (iv xs) ∧ Below w.heap.size w w' := by
  obtain ⟨i72, hi72, hz72⟩ := Option.map_eq_some_iff.1 info72
  simp only [Prod.mk.injEq] at hz72
  obtain ⟨hz0, hz1, hz2⟩ := hz72
  go_enter Tryd.func25, Tryd.ntmps25
  go_wp2_with fail
  rw [eq_nil]
  have hb0 : Below w.heap.size w (w.alloc (Obj.cells #[] 72)) := (Below.refl _ _).alloc (Nat.le_refl _) _
  have hown0 : (w.alloc (Obj.cells #[] 72)).ownsRow w.heap.size 72 11 (.slice (some ⟨w.heap.size, 0, none⟩) 0 0) 0 [] := ⟨rfl, .inr ⟨w.heap.size, 0, #[], rfl, Nat.le_refl _, heap_alloc_new w _, Nat.le_refl _, by decide, rfl, rfl⟩⟩
  have hcl : ∀ j u, (iv xs)[j]? = some u → (w.alloc (Obj.cells #[] 72)).cell? ((⟨g, 0, none⟩ : Addr).add j) = some u := fun j u hu => by rw [addz]; exact (hR.below hb0).cells j u hu
  go_wp2_with (first | (at_builtin; go_loud (refine wpList_append_own_at _ rfl (.tmp 5) (.tmp 6) 54 rfl w.heap.size 72 i72 _ 11 88 Tryd.underlying54 hi72 hz0 hz1 hz2 rfl (by decide) _ 0 [] rfl hown0 ⟨g, 0, none⟩ n c (iv xs) rfl (by rw [iv_len]; exact hl) hcl (iv_one xs) (by simp only [maxLen]; omega) (by omega) hb0.size ?_); intro v' w3 ho hg _ hat))
  refine ⟨rfl, v', ?res, _, rfl, by simpa using ho, hb0.grown hg hb0.size (fun k hk => by
    have : w.heap.size = k := by simpa [Value.ownBlock, Act.eval] using hk
    omega)⟩
  case res => simp [go_sem, results, Tryd.f25]
theorem made72 (W : World) : (Instr.makeSlice 54 (.int .i64 1) (.int .i64 1)).run Tryd.prog W = .ok (.slice (some ⟨W.heap.size, 0, none⟩) 1 1) (W.alloc (.cells #[.int .i64 0, .int .i64 0, .int .i64 0, .int .i64 0, .int .i64 0, .int .i64 0, .int .i64 0, .int .i64 0, .int .i64 0, .int .i64 0, .int .i64 0] 72)) := by
  obtain ⟨i72, hi72, hz72⟩ := Option.map_eq_some_iff.1 info72
  simp only [Prod.mk.injEq] at hz72
  obtain ⟨hz0, hz1, hz2⟩ := hz72
  have := run_make (P := Tryd.prog) W 54 72 i72 _ Tryd.underlying54 hi72 hz0 .i64 .i64 1 1 (by omega) (by omega) (by rw [hz2]; decide) (by decide)
  rw [hz1] at this
  have e : madeCells (Value.agg #[Value.int IntKind.i64 0, Value.int IntKind.i64 0, Value.int IntKind.i64 0, Value.int IntKind.i64 0, Value.int IntKind.i64 0, Value.int IntKind.i64 0, Value.int IntKind.i64 0, Value.int IntKind.i64 0, Value.int IntKind.i64 0, Value.int IntKind.i64 0, Value.int IntKind.i64 0]).cells (Int.toNat 1 * 11) = #[.int .i64 0, .int .i64 0, .int .i64 0, .int .i64 0, .int .i64 0, .int .i64 0, .int .i64 0, .int .i64 0, .int .i64 0, .int .i64 0, .int .i64 0] := by kernel_rfl
  rw [e] at this
  exact this
def zeros (k : Nat) : List Int := List.replicate k 0
set_option maxRecDepth 100000 in
set_option maxHeartbeats 4000000 in
theorem new18 (w : World) : Calls Tryd.prog 18 #[] w fun e w' => ∃ v, e = .returned (.agg #[v]) ∧ w'.ownsRow w.heap.size 72 11 v 1 (iv (zeros 11)) ∧ Below w.heap.size w w' := by
  go_enter Tryd.func18, Tryd.ntmps18
  have hm := made72
  go_wp2_with fail
  have hown := World.ownsRow_lit (base := w.heap.size) (e := 72) (size := 11) (w.alloc (Obj.cells #[Value.slice (some { block := w.heap.size + 1, off := 0 }) 1 1] 56)) #[.int .i64 0, .int .i64 0, .int .i64 0, .int .i64 0, .int .i64 0, .int .i64 0, .int .i64 0, .int .i64 0, .int .i64 0, .int .i64 0, .int .i64 0] 1 (by simp) (by decide) rfl
  rw [World.size_alloc] at hown
  refine ⟨rfl, .agg #[Value.slice (some { block := w.heap.size + 1, off := 0 }) 1 1], ?res, ⟨_, rfl, hown, ((Below.refl _ _).alloc (Nat.le_refl _) _).alloc (by simp) _⟩⟩
  case res => simp [go_sem, results, Tryd.f18]
end Go.Proofs.YtpmkbpphlokbjaaDoor.EM
