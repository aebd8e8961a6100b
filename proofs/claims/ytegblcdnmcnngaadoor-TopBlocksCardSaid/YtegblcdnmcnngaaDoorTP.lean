/- trie.New and trie.checked of the given program, and slices.Clone at its nodes. -/
import Derived.Test.YtegblcdnmcnngaaDoorTT
import Derived.Maps.AppendAt
set_option linter.unusedVariables false
set_option linter.unusedSimpArgs false
namespace Go.Proofs.YtegblcdnmcnngaaDoor.TB
open Go.RowKit
set_option maxRecDepth 100000 in
set_option maxHeartbeats 4000000 in
theorem checked15 {g n c : Nat} {xs : List Int} {P : Nat → List Nat} {s : ByteArray} {w : World} (hR : Row w g xs) (hT : Tree xs n P) (hlen : ∀ k, k < n → (P k).length ≤ 15) (hV : Vb xs n) (h4 : n ≤ 4096) (hnc : n ≤ c) (hs : s.size ≤ 15) (hd : Digs s) :
    Calls Tryd.prog 15 #[.agg #[.slice (some ⟨g, 0, none⟩) n c], .string s] w fun e w' => e = .returned (.int .i64 0) ∧ Below w.heap.size w w' := by
  go_enter Tryd.func15, Tryd.ntmps15
  go_wp2_with fail
  have hb0 : Below w.heap.size w (w.alloc (Obj.cells #[Value.slice (some ⟨g, 0, none⟩) n c] 35)) := (Below.refl _ _).alloc (Nat.le_refl _) _
  refine (check17 (hR.below hb0) hT hlen hV h4 hnc).mono ?_
  rintro e w1 ⟨rfl, hb1⟩
  have HB1 : Below w.heap.size w w1 := hb0.trans (hb1.mono hb0.size)
  have d1 : decide (15 < (s.size : Int)) = false := decide_eq_false (by omega)
  have d1' : decide (15 < s.size) = false := decide_eq_false (by omega)
  go_wp2_with fail
  refine (digits18 s _ (by omega) hd).mono ?_
  rintro e w2 ⟨rfl, hb2⟩
  have HB2 : Below w.heap.size w w2 := HB1.trans (hb2.mono HB1.size)
  go_wp2_with fail
  refine ⟨rfl, .int .i64 0, ?res2, rfl, HB2⟩
  case res2 => simp [go_sem, results, Tryd.f15]
theorem info72 : (Tryd.prog.info? 57).map (fun i => (i.zero, i.size, i.bytes)) = some (some (.agg #[.int .i64 0, .int .i64 0, .int .i64 0, .int .i64 0, .int .i64 0, .int .i64 0, .int .i64 0, .int .i64 0, .int .i64 0, .int .i64 0, .int .i64 0]), 11, 88) := by kernel_rfl
/-- a row of numbers as the cells hold it -/
def iv (xs : List Int) : List Value := xs.map (.int .i64)
theorem iv_len (xs : List Int) : (iv xs).length = xs.length := by simp [iv]
theorem iv_one (xs : List Int) : ∀ u ∈ iv xs, u.oneCell' = true := by
  intro u hu
  obtain ⟨x, _, rfl⟩ := List.mem_map.1 hu
  rfl
theorem Row.cells {W : World} {g : Nat} {xs : List Int} (h : Row W g xs) : ∀ j u, (iv xs)[j]? = some u → W.cell? ⟨g, j, none⟩ = some u := by
  intro j u hu
  simp only [iv, List.getElem?_map, Option.map_eq_some_iff] at hu
  obtain ⟨x, hx, rfl⟩ := hu
  exact h j x hx
/-- a row of nodes of the call's own -/
theorem own_nodes {W : World} {base n : Nat} {v : Value} {xs : List Int} (h : W.ownsRow base 57 11 v n (iv xs)) (hn : 0 < n) :
    ∃ g c, v = .slice (some ⟨g, 0, none⟩) n c ∧ base ≤ g ∧ g < W.heap.size ∧ n ≤ c ∧ Row W g xs := by
  have h0 := h
  rcases h.2 with ⟨_, h0⟩ | ⟨g, c, cur, rfl, hb, hh, hnc, hcm, hcs, htk⟩
  · omega
  refine ⟨g, c, rfl, hb, (Array.getElem?_eq_some_iff.1 hh).1, hnc, fun j x hx => ?_⟩
  have hj : j < n * 11 := by
    have h1 := (List.getElem?_eq_some_iff.1 hx).1
    have h2 := h.1
    rw [iv_len] at h2
    omega
  rw [h0.cellAt j hj]
  simp [iv, hx]
theorem addz (b j : Nat) : ((⟨b, 0, none⟩ : Addr).add j) = ⟨b, j, none⟩ := by
  unfold Addr.add
  split <;> simp_all
theorem eq_nil (a : Addr) (n c : Nat) (w : World) : (binOp BinOp.eql 33 (.slice (some a) n c) (.slice none 0 0)).run Tryd.prog w = .ok (.bool false) w := by kernel_rfl
set_option maxRecDepth 100000 in
set_option maxHeartbeats 4000000 in
theorem clone16 {g n c : Nat} {xs : List Int} {w : World} (hR : Row w g xs) (hl : xs.length = n * 11) (hn : n ≤ 4096) (hnc : n ≤ c) :
    Calls Tryd.prog 16 #[.slice (some ⟨g, 0, none⟩) n c] w fun e w' => ∃ v, e = .returned v ∧ w'.ownsRow w.heap.size 57 11 v n (iv xs) ∧ Below w.heap.size w w' := by
  obtain ⟨i72, hi72, hz72⟩ := Option.map_eq_some_iff.1 info72
  simp only [Prod.mk.injEq] at hz72
  obtain ⟨hz0, hz1, hz2⟩ := hz72
  go_enter Tryd.func16, Tryd.ntmps16
  go_wp2_with fail
  rw [eq_nil]
  have hb0 : Below w.heap.size w (w.alloc (Obj.cells #[] 57)) := (Below.refl _ _).alloc (Nat.le_refl _) _
  have hown0 : (w.alloc (Obj.cells #[] 57)).ownsRow w.heap.size 57 11 (.slice (some ⟨w.heap.size, 0, none⟩) 0 0) 0 [] := ⟨rfl, .inr ⟨w.heap.size, 0, #[], rfl, Nat.le_refl _, heap_alloc_new w _, Nat.le_refl _, by decide, rfl, rfl⟩⟩
  have hcl : ∀ j u, (iv xs)[j]? = some u → (w.alloc (Obj.cells #[] 57)).cell? ((⟨g, 0, none⟩ : Addr).add j) = some u := fun j u hu => by rw [addz]; exact (hR.below hb0).cells j u hu
  go_wp2_with (first | (at_builtin; go_loud (refine wpList_append_own_at _ rfl (.tmp 5) (.tmp 6) 33 rfl w.heap.size 57 i72 _ 11 88 Tryd.underlying33 hi72 hz0 hz1 hz2 rfl (by decide) _ 0 [] rfl hown0 ⟨g, 0, none⟩ n c (iv xs) rfl (by rw [iv_len]; exact hl) hcl (iv_one xs) (by simp only [maxLen]; omega) (by omega) hb0.size ?_); intro v' w3 ho hg _ hat))
  refine ⟨rfl, v', ?res, _, rfl, by simpa using ho, hb0.grown hg hb0.size (fun k hk => by
    have : w.heap.size = k := by simpa [Value.ownBlock, Act.eval] using hk
    omega)⟩
  case res => simp [go_sem, results, Tryd.f16]
theorem made72 (W : World) : (Instr.makeSlice 33 (.int .i64 1) (.int .i64 1)).run Tryd.prog W = .ok (.slice (some ⟨W.heap.size, 0, none⟩) 1 1) (W.alloc (.cells #[.int .i64 0, .int .i64 0, .int .i64 0, .int .i64 0, .int .i64 0, .int .i64 0, .int .i64 0, .int .i64 0, .int .i64 0, .int .i64 0, .int .i64 0] 57)) := by
  obtain ⟨i72, hi72, hz72⟩ := Option.map_eq_some_iff.1 info72
  simp only [Prod.mk.injEq] at hz72
  obtain ⟨hz0, hz1, hz2⟩ := hz72
  have := run_make (P := Tryd.prog) W 33 57 i72 _ Tryd.underlying33 hi72 hz0 .i64 .i64 1 1 (by omega) (by omega) (by rw [hz2]; decide) (by decide)
  rw [hz1] at this
  have e : madeCells (Value.agg #[Value.int IntKind.i64 0, Value.int IntKind.i64 0, Value.int IntKind.i64 0, Value.int IntKind.i64 0, Value.int IntKind.i64 0, Value.int IntKind.i64 0, Value.int IntKind.i64 0, Value.int IntKind.i64 0, Value.int IntKind.i64 0, Value.int IntKind.i64 0, Value.int IntKind.i64 0]).cells (Int.toNat 1 * 11) = #[.int .i64 0, .int .i64 0, .int .i64 0, .int .i64 0, .int .i64 0, .int .i64 0, .int .i64 0, .int .i64 0, .int .i64 0, .int .i64 0, .int .i64 0] := by kernel_rfl
  rw [e] at this
  exact this
set_option maxRecDepth 100000 in
set_option maxHeartbeats 4000000 in
theorem new7 (w : World) : Calls Tryd.prog 7 #[] w fun e w' => ∃ v, e = .returned (.agg #[v]) ∧ w'.ownsRow w.heap.size 57 11 v 1 (iv (zeros 11)) ∧ Below w.heap.size w w' := by
  go_enter Tryd.func7, Tryd.ntmps7
  have hm := made72
  go_wp2_with fail
  have hown := World.ownsRow_lit (base := w.heap.size) (e := 57) (size := 11) (w.alloc (Obj.cells #[Value.slice (some { block := w.heap.size + 1, off := 0 }) 1 1] 35)) #[.int .i64 0, .int .i64 0, .int .i64 0, .int .i64 0, .int .i64 0, .int .i64 0, .int .i64 0, .int .i64 0, .int .i64 0, .int .i64 0, .int .i64 0] 1 (by simp) (by decide) rfl
  rw [World.size_alloc] at hown
  refine ⟨rfl, .agg #[Value.slice (some { block := w.heap.size + 1, off := 0 }) 1 1], ?res, ⟨_, rfl, hown, ((Below.refl _ _).alloc (Nat.le_refl _) _).alloc (by simp) _⟩⟩
  case res => simp [go_sem, results, Tryd.f7]
end Go.Proofs.YtegblcdnmcnngaaDoor.TB
