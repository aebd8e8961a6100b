/- trie.Longest of the given program. -/
import Derived.Test.YtegblcdnmcnngaaDoorTW
set_option linter.unusedVariables false
set_option linter.unusedSimpArgs false
namespace Go.Proofs.YtegblcdnmcnngaaDoor.TB
open Go.RowKit Go.Shelf
attribute [local go_sem] Oper.semAt_some
theorem path42_stops (n : Nat) (hn : 1 ≤ n) (Bs Bt n₀ n₁ B g m c : Nat) (xs : List Int) (s : ByteArray) (hO : OkT xs m) (hs : s.size ≤ 9223372036854775807) (hm : m ≤ 100000)
    (hBs : Bs < B) (hBs' : n₁ ≤ Bs) (hBt : Bt < B) (hBt' : Bt < n₀ ∨ n₁ ≤ Bt) (hg : g < B) (hg' : g < n₀) (hdig : ∀ b ∈ s.data.toList, 48 ≤ b.toNat ∧ b.toNat ≤ 57)
    (w : World) (hBw : B ≤ w.heap.size) (hcs : w.cell? ⟨Bs, 0, none⟩ = some (.string s)) (hct : w.cell? ⟨Bt, 0, none⟩ = some (.slice (some ⟨g, 0, none⟩) m c)) (hR : Row w g xs) :
    SeqStopsK Fence.wide n Tryd.prog 26 #[.pointer (some ⟨Bs, 0, none⟩), .pointer (some ⟨Bt, 0, none⟩)] (fun x : At m => #[Value.int .i64 (x.1.1 : Int), Value.int .i64 (x.1.2 : Int)]) (KpI n₀ n₁ B)
      (fun ys => ys.map Subtype.val = pathL xs 0 0 (dgs s)) (fun _ => True) (s.size + 1) w := fun l J Jx W hW hJ _ hY h0 => by
  have hcs' := (hW.cell (p := ⟨Bs, 0, none⟩) (by show Bs < _; omega)).trans hcs
  have hct' := (hW.cell (p := ⟨Bt, 0, none⟩) (by show Bt < _; omega)).trans hct
  have hR' := hR.below hW
  exact path42_in n hn l Bs Bt n₀ n₁ B g m c xs s hO hs hm hBs hBs' hBt hBt' hg hg' hdig J Jx _ hJ hY W hcs' hct' hR' h0
set_option maxHeartbeats 1000000 in
theorem path35 (n : Nat) (v : Value) (s : ByteArray) (w : World) :
    CallsIn Fence.wide n Tryd.prog 19 #[.agg #[v], .string s] w fun e w' => e = .returned (.func (.func 26) #[] #[.pointer (some ⟨w.heap.size + 1, 0, none⟩), .pointer (some ⟨w.heap.size, 0, none⟩)]) ∧ w' = (w.alloc (.cells #[v] 35)).alloc (.cells #[.string s] 9) := by
  refine callsIn_of_wp Tryd.func19 rfl trivial ?_ rfl
  simp only [Tryd.ntmps19, List.size_toArray, List.length_cons, List.length_nil, Nat.reduceAdd, Nat.reduceSub, Array.replicate_succ, Array.replicate_zero, List.push_toArray, List.append_toArray, List.nil_append, List.cons_append]
  gi_wp2
  go_ret
  exact ⟨rfl, rfl⟩
theorem KpI.set {n₀ n₁ B : Nat} {W X : World} {a : Addr} {y : Value} (h : KpI n₀ n₁ B W X) (h1 : n₀ ≤ a.block) (h2 : a.block < n₁) : KpI n₀ n₁ B W (X.setCell a y) :=
  fun k hk hd => (Below.heap_setCell X a y k (by omega)).trans (h k hk hd)
theorem valOf_at {xs : List Int} {m i : Nat} (hO : OkT xs m) (hi : i < m) : xs[i * 11 + 10]? = some (valOf xs i) := by
  have hl := hO.len
  unfold valOf
  rw [List.getElem?_eq_getElem (by omega)]
  rfl
/-- three cells written in a row hold what was written -/
theorem three {W : World} {b : Nat} {x1 x2 x3 y1 y2 y3 : Value} (h1 : W.cell? ⟨b + 1, 0, none⟩ = some x1) (h2 : W.cell? ⟨b + 1 + 1, 0, none⟩ = some x2) (h3 : W.cell? ⟨b + 1 + 1 + 1, 0, none⟩ = some x3) :
    (((W.setCell ⟨b + 1, 0, none⟩ y1).setCell ⟨b + 1 + 1, 0, none⟩ y2).setCell ⟨b + 1 + 1 + 1, 0, none⟩ y3).cell? ⟨b + 1, 0, none⟩ = some y1 ∧
    (((W.setCell ⟨b + 1, 0, none⟩ y1).setCell ⟨b + 1 + 1, 0, none⟩ y2).setCell ⟨b + 1 + 1 + 1, 0, none⟩ y3).cell? ⟨b + 1 + 1, 0, none⟩ = some y2 ∧
    (((W.setCell ⟨b + 1, 0, none⟩ y1).setCell ⟨b + 1 + 1, 0, none⟩ y2).setCell ⟨b + 1 + 1 + 1, 0, none⟩ y3).cell? ⟨b + 1 + 1 + 1, 0, none⟩ = some y3 := by
  have n1 : (⟨b + 1, 0, none⟩ : Addr) ≠ ⟨b + 1 + 1, 0, none⟩ := by intro h; injection h with h; omega
  have n2 : (⟨b + 1, 0, none⟩ : Addr) ≠ ⟨b + 1 + 1 + 1, 0, none⟩ := by intro h; injection h with h; omega
  have n3 : (⟨b + 1 + 1, 0, none⟩ : Addr) ≠ ⟨b + 1 + 1 + 1, 0, none⟩ := by intro h; injection h with h; omega
  refine ⟨?_, ?_, ?_⟩
  · rw [World.cell?_setCell_other _ _ _ _ n2.symm, World.cell?_setCell_other _ _ _ _ n1.symm]
    exact set_same h1
  · rw [World.cell?_setCell_other _ _ _ _ n3.symm]
    exact set_same (y := x2) (by rw [World.cell?_setCell_other _ _ _ _ n1]; exact h2)
  · exact set_same (y := x3) (by rw [World.cell?_setCell_other _ _ _ _ n3, World.cell?_setCell_other _ _ _ _ n2]; exact h3)
theorem three_frozen {W : World} {a1 a2 a3 q : Addr} {y1 y2 y3 : Value} : (((W.setCell a1 y1).setCell a2 y2).setCell a3 y3).frozen? q = W.frozen? q := by
  rw [World.frozen?_setCell, World.frozen?_setCell, World.frozen?_setCell]
/-- one node's step of Longest -/
def lstep (xs : List Int) (acc : Int × Int × Bool) (x : Nat × Nat) : Int × Int × Bool := if valOf xs x.2 = 0 then acc else (valOf xs x.2, (x.1 : Int), true)
def longF (xs : List Int) (l : List (Nat × Nat)) : Int × Int × Bool := l.foldl (lstep xs) (0, 0, false)
theorem longF_snoc (xs : List Int) (l : List (Nat × Nat)) (x : Nat × Nat) : longF xs (l ++ [x]) = lstep xs (longF xs l) x := by simp [longF]
set_option maxRecDepth 100000 in
set_option maxHeartbeats 8000000 in
theorem long9 {g m c : Nat} {xs : List Int} {P : Nat → List Nat} {s : ByteArray} {w : World} (hR : Row w g xs) (hTr : Tree xs m P) (hlen : ∀ k, k < m → (P k).length ≤ 15) (hVb : Vb xs m) (hm4 : m ≤ 4096) (hmc : m ≤ c) (hs15 : s.size ≤ 15) (hdig : Digs s) (hg : g < w.heap.size) :
    Calls Tryd.prog 9 #[.agg #[.slice (some ⟨g, 0, none⟩) m c], .string s] w fun e w' => Below w.heap.size w w' ∧ e = .returned (.tuple #[.int .i64 (longF xs (pathL xs 0 0 (dgs s))).1, .int .i64 (longF xs (pathL xs 0 0 (dgs s))).2.1, .bool (longF xs (pathL xs 0 0 (dgs s))).2.2]) := by
  have hO := hTr.ok
  have hm : m ≤ 100000 := by omega
  have hs : s.size ≤ 9223372036854775807 := by omega
  refine (callsIn_wide (n := 4)).1 ?_
  have h1 : 1 ≤ 3 := by omega
  refine callsIn_of_wp_marks Tryd.func9 rfl trivial ?_ rfl
  simp only [Tryd.ntmps9, List.size_toArray, List.length_cons, List.length_nil, Nat.reduceAdd, Nat.reduceSub, Array.replicate_succ, Array.replicate_zero, List.push_toArray, List.append_toArray, List.nil_append, List.cons_append]
  gi_wp2_with fail
  refine ⟨trivial, ?_⟩
  have hz1 : (w.alloc (Obj.cells #[Value.slice (some ⟨g, 0, none⟩) m c] 35)).heap.size = w.heap.size + 1 := by simp
  obtain ⟨W0, hW0⟩ : ∃ W, (((w.alloc (Obj.cells #[Value.slice (some ⟨g, 0, none⟩) m c] 35)).alloc (Obj.cells #[Value.int IntKind.i64 0] 3)).alloc (Obj.cells #[Value.int IntKind.i64 0] 3)).alloc (Obj.cells #[Value.bool false] 4) = W := ⟨_, rfl⟩
  have hb0 : Below w.heap.size w W0 := by rw [← hW0]; exact ((((Below.refl _ _).alloc (Nat.le_refl _) _).alloc (by simp) _).alloc (by simp; omega) _).alloc (by simp; omega) _
  have hS0 : W0.heap.size = w.heap.size + 4 := by rw [← hW0]; simp
  have c0 : W0.cell? ⟨w.heap.size, 0, none⟩ = some (.slice (some ⟨g, 0, none⟩) m c) := by rw [← hW0]; simp [go_sem]
  have c1 : W0.cell? ⟨w.heap.size + 1, 0, none⟩ = some (.int .i64 0) := by rw [← hW0]; simp [go_sem]
  have c2 : W0.cell? ⟨w.heap.size + 1 + 1, 0, none⟩ = some (.int .i64 0) := by rw [← hW0]; simp [go_sem]
  have c3 : W0.cell? ⟨w.heap.size + 1 + 1 + 1, 0, none⟩ = some (.bool false) := by rw [← hW0]; simp [go_sem]
  have f1 : W0.frozen? ⟨w.heap.size + 1, 0, none⟩ = false := by rw [← hW0]; simp [go_sem]
  have f2 : W0.frozen? ⟨w.heap.size + 1 + 1, 0, none⟩ = false := by rw [← hW0]; simp [go_sem]
  have f3 : W0.frozen? ⟨w.heap.size + 1 + 1 + 1, 0, none⟩ = false := by rw [← hW0]; simp [go_sem]
  rw [hW0]
  clear hW0 hz1
  refine (callsIn_wide.2 (check17 (hR.below hb0) hTr hlen hVb hm4 hmc)).mono ?_
  rintro e w1 ⟨rfl, hb1⟩
  rw [hS0] at hb1
  have hS1 : w.heap.size + 4 ≤ w1.heap.size := by have := hb1.size; omega
  gi_wp2_with fail
  refine ⟨trivial, ?_⟩
  refine (callsIn_wide.2 (digits18 s _ hs hdig)).mono ?_
  rintro e w2 ⟨rfl, hb2⟩
  have hb12 : Below (w.heap.size + 4) W0 w2 := hb1.trans (hb2.mono hS1)
  have hS2 : w.heap.size + 4 ≤ w2.heap.size := by have := hb2.size; omega
  have d0 := (hb12.cell (p := ⟨w.heap.size, 0, none⟩) (by show w.heap.size < _; omega)).trans c0
  have d1 := (hb12.cell (p := ⟨w.heap.size + 1, 0, none⟩) (by show w.heap.size + 1 < _; omega)).trans c1
  have d2 := (hb12.cell (p := ⟨w.heap.size + 1 + 1, 0, none⟩) (by show w.heap.size + 1 + 1 < _; omega)).trans c2
  have d3 := (hb12.cell (p := ⟨w.heap.size + 1 + 1 + 1, 0, none⟩) (by show w.heap.size + 1 + 1 + 1 < _; omega)).trans c3
  have g1 := (hb12.frozen (p := ⟨w.heap.size + 1, 0, none⟩) (by show w.heap.size + 1 < _; omega)).trans f1
  have g2 := (hb12.frozen (p := ⟨w.heap.size + 1 + 1, 0, none⟩) (by show w.heap.size + 1 + 1 < _; omega)).trans f2
  have g3 := (hb12.frozen (p := ⟨w.heap.size + 1 + 1 + 1, 0, none⟩) (by show w.heap.size + 1 + 1 + 1 < _; omega)).trans f3
  have HB2 : Below w.heap.size w w2 := hb0.trans (hb12.mono (by omega))
  clear c0 c1 c2 c3 f1 f2 f3
  have HD := Lib.hid hdig
  clear hdig
  gi_wp2_with fail
  refine ⟨trivial, ?_⟩
  refine (path35 _ _ _ _).mono ?_
  rintro e w3 ⟨rfl, hw3⟩
  have hS3 : w3.heap.size = w2.heap.size + 2 := by rw [hw3]; simp
  have e1 : w3.cell? ⟨w2.heap.size, 0, none⟩ = some (.slice (some ⟨g, 0, none⟩) m c) := by rw [hw3]; simp [go_sem]
  have e2 : w3.cell? ⟨w2.heap.size + 1, 0, none⟩ = some (.string s) := by rw [hw3]; simp [go_sem]
  have hb3 : Below w2.heap.size w2 w3 := by rw [hw3]; exact ((Below.refl _ _).alloc (Nat.le_refl _) _).alloc (by simp) _
  clear hw3
  have a0 := (hb3.cell (p := ⟨w.heap.size, 0, none⟩) (by show w.heap.size < _; omega)).trans d0
  have a1 := (hb3.cell (p := ⟨w.heap.size + 1, 0, none⟩) (by show w.heap.size + 1 < _; omega)).trans d1
  have a2 := (hb3.cell (p := ⟨w.heap.size + 1 + 1, 0, none⟩) (by show w.heap.size + 1 + 1 < _; omega)).trans d2
  have a3 := (hb3.cell (p := ⟨w.heap.size + 1 + 1 + 1, 0, none⟩) (by show w.heap.size + 1 + 1 + 1 < _; omega)).trans d3
  have b1 := (hb3.frozen (p := ⟨w.heap.size + 1, 0, none⟩) (by show w.heap.size + 1 < _; omega)).trans g1
  have b2 := (hb3.frozen (p := ⟨w.heap.size + 1 + 1, 0, none⟩) (by show w.heap.size + 1 + 1 < _; omega)).trans g2
  have b3 := (hb3.frozen (p := ⟨w.heap.size + 1 + 1 + 1, 0, none⟩) (by show w.heap.size + 1 + 1 + 1 < _; omega)).trans g3
  have HB3 : Below w.heap.size w w3 := HB2.trans (hb3.mono (by omega))
  have hR3 : Row w3 g xs := hR.below HB3
  clear d0 d1 d2 d3 g1 g2 g3
  gi_wp2_with fail
  have hL : ∀ pre : List (At m), ∃ L, longF xs (pre.map Subtype.val) = L := fun pre => ⟨_, rfl⟩
  refine wpIn_rangeFunc_ownF rfl (by omega) (gf := 26) (lb := #[.pointer (some ⟨w2.heap.size + 1, 0, none⟩), .pointer (some ⟨w2.heap.size, 0, none⟩)]) rfl trivial (enters_of Tryd.func26 (by kernel_rfl) rfl)
    (path42_stops 3 (by omega) (w2.heap.size + 1) w2.heap.size (w.heap.size + 1) (w.heap.size + 4) w3.heap.size g m c xs s hO hs hm (by omega) (by omega) (by omega) (.inr (by omega)) (by omega) (by omega) HD.out w3 (Nat.le_refl _) e2 e1 hR3)
    KpI.t (KpI.b (Nat.le_refl _)) (Below.refl _ _) (fun _ => rfl)
    (fun pre W => (W.cell? ⟨w.heap.size, 0, none⟩ = some (.slice (some ⟨g, 0, none⟩) m c) ∧ W.cell? ⟨w.heap.size + 1, 0, none⟩ = some (.int .i64 (longF xs (pre.map Subtype.val)).1) ∧ W.cell? ⟨w.heap.size + 1 + 1, 0, none⟩ = some (.int .i64 (longF xs (pre.map Subtype.val)).2.1) ∧ W.cell? ⟨w.heap.size + 1 + 1 + 1, 0, none⟩ = some (.bool (longF xs (pre.map Subtype.val)).2.2) ∧
      W.frozen? ⟨w.heap.size + 1, 0, none⟩ = false ∧ W.frozen? ⟨w.heap.size + 1 + 1, 0, none⟩ = false ∧ W.frozen? ⟨w.heap.size + 1 + 1 + 1, 0, none⟩ = false) ∧ Below w.heap.size w W)
    (fun _ _ _ => False)
    (OwnFrom.and (Own.from (fun pre A B row hs hg hr => ⟨cell_kept hs.1 hg hr, cell_kept hs.2.1 hg hr, cell_kept hs.2.2.1 hg hr, cell_kept hs.2.2.2.1 hg hr, (frozen_kept hs.2.1 hg hr).trans hs.2.2.2.2.1, (frozen_kept hs.2.2.1 hg hr).trans hs.2.2.2.2.2.1, (frozen_kept hs.2.2.2.1 hg hr).trans hs.2.2.2.2.2.2⟩) _) (ownFrom_below (Nat.le_refl _) (by omega)))
    (fun _ _ _ _ _ hs _ _ => hs)
    ⟨⟨a0, a1, a2, a3, b1, b2, b3⟩, HB3⟩
    (fun x => { tmps := #[Value.agg #[Value.slice (some { block := g, off := 0 }) m c], Value.string s,
          Value.pointer (some { block := w.heap.size, off := 0 }), undef,
          Value.pointer (some { block := w.heap.size + 1, off := 0 }),
          Value.pointer (some { block := w.heap.size + 1 + 1, off := 0 }),
          Value.pointer (some { block := w.heap.size + 1 + 1 + 1, off := 0 }), .int .i64 (x.1.1 : Int), .int .i64 (x.1.2 : Int), undef,
          Value.agg #[Value.slice (some { block := g, off := 0 }) m c], Value.int IntKind.i64 0, Value.bool false,
          Value.bool false, Value.string s, Value.bool true, Value.bool false, Value.bool false,
          Value.agg #[Value.slice (some { block := g, off := 0 }) m c], Value.string s,
          Value.func (Fn.func 26) #[]
            #[Value.pointer (some { block := w2.heap.size + 1, off := 0 }),
              Value.pointer (some { block := w2.heap.size, off := 0 })],
          .int .i64 (x.1.1 : Int), .int .i64 (x.1.2 : Int), undef, undef, undef, undef, undef, undef, undef, undef, undef, undef, undef, undef, undef], defers := [] }) ?assign ?body ?done ?stop
  case assign =>
    intro l x W K hK
    gi_wp2
    exact hK
  case body =>
    rintro l pre ⟨⟨i, at'⟩, hat⟩ W ⟨⟨k0, k1, k2, k3, z1, z2, z3⟩, hB⟩ _
    have hat' : at' < m := hat
    have hvc : W.cell? ⟨g, at' * 11 + 10, none⟩ = some (.int .i64 (valOf xs at')) := (hR.below hB) _ _ (valOf_at hO hat')
    have hsn : longF xs ((pre ++ [(⟨(i, at'), hat⟩ : At m)]).map Subtype.val) = lstep xs (longF xs (pre.map Subtype.val)) (i, at') := by rw [List.map_append, List.map_cons, List.map_nil, longF_snoc]
    obtain ⟨L, hLL⟩ := hL pre
    rw [hLL] at k1 k2 k3 hsn
    obtain ⟨L1, L2, L3⟩ := L
    clear hLL
    by_cases hv0 : valOf xs at' = 0
    · have hst : lstep xs (L1, L2, L3) (i, at') = (L1, L2, L3) := by unfold lstep; rw [if_pos hv0]
      have q0 : (valOf xs at' != 0) = false := by rw [hv0]; rfl
      have q1 : (valOf xs at' == 0) = true := by rw [hv0]; rfl
      have HV := Lib.hid hv0
      have HSN := Lib.hid (hsn.trans hst)
      clear hv0 hsn hst
      gi_wp2
      refine ⟨KeepsOthers.refl _, KpI.r, ⟨k0, ?_, ?_, ?_, z1, z2, z3⟩, hB⟩
      · rw [HSN.out]; exact k1
      · rw [HSN.out]; exact k2
      · rw [HSN.out]; exact k3
    · have hst : lstep xs (L1, L2, L3) (i, at') = (valOf xs at', (i : Int), true) := by unfold lstep; rw [if_neg hv0]
      have q0 : (valOf xs at' != 0) = true := bne_iff_ne.mpr hv0
      have q1 : (valOf xs at' == 0) = false := beq_eq_false_iff_ne.mpr hv0
      have HV := Lib.hid hv0
      have HSN := Lib.hid (hsn.trans hst)
      clear hv0 hsn hst
      gi_wp2
      obtain ⟨q1', q2', q3'⟩ := three (y1 := .int .i64 (valOf xs at')) (y2 := .int .i64 (i : Int)) (y3 := .bool true) k1 k2 k3
      refine ⟨((KeepsOthers.setCell _ _ _).trans (KeepsOthers.setCell _ _ _)).trans (KeepsOthers.setCell _ _ _), ((KpI.r.set (by show _ ≤ w.heap.size + 1; omega) (by show w.heap.size + 1 < _; omega)).set (by show _ ≤ w.heap.size + 1 + 1; omega) (by show w.heap.size + 1 + 1 < _; omega)).set (by show _ ≤ w.heap.size + 1 + 1 + 1; omega) (by show w.heap.size + 1 + 1 + 1 < _; omega), ⟨?_, ?_, ?_, ?_, ?_, ?_, ?_⟩, ?_⟩
      · rw [World.cell?_setCell_other _ _ _ _ (by intro h; injection h with h; omega), World.cell?_setCell_other _ _ _ _ (by intro h; injection h with h; omega), World.cell?_setCell_other _ _ _ _ (by intro h; injection h with h; omega)]
        exact k0
      · rw [HSN.out]; exact q1'
      · rw [HSN.out]; exact q2'
      · rw [HSN.out]; exact q3'
      · rw [three_frozen]; exact z1
      · rw [three_frozen]; exact z2
      · rw [three_frozen]; exact z3
      · exact ((hB.setCell (by show _ ≤ w.heap.size + 1; omega) _).setCell (by show _ ≤ w.heap.size + 1 + 1; omega) _).setCell (by show _ ≤ w.heap.size + 1 + 1 + 1; omega) _
  case done =>
    rintro D ys W hD hys ⟨⟨k0, k1, k2, k3, z1, z2, z3⟩, hB⟩ hK
    rw [hys] at k1 k2 k3
    obtain ⟨L, hLL⟩ : ∃ L, longF xs (pathL xs 0 0 (dgs s)) = L := ⟨_, rfl⟩
    rw [hLL] at k1 k2 k3
    obtain ⟨L1, L2, L3⟩ := L
    gi_wp2
    gi_region
    all_goals gi_wp2
    obtain ⟨q1', q2', q3'⟩ := three (y1 := .int .i64 L1) (y2 := .int .i64 L2) (y3 := .bool L3) k1 k2 k3
    have hK' := (((KeepsOthers.setCell W ⟨w.heap.size + 1, 0, none⟩ (.int .i64 L1)).trans (KeepsOthers.setCell _ ⟨w.heap.size + 1 + 1, 0, none⟩ (.int .i64 L2))).trans (KeepsOthers.setCell _ ⟨w.heap.size + 1 + 1 + 1, 0, none⟩ (.bool L3))).same D _ hK rfl
    have hB' : Below w.heap.size w (((W.setCell ⟨w.heap.size + 1, 0, none⟩ (.int .i64 L1)).setCell ⟨w.heap.size + 1 + 1, 0, none⟩ (.int .i64 L2)).setCell ⟨w.heap.size + 1 + 1 + 1, 0, none⟩ (.bool L3)) := ((hB.setCell (by show _ ≤ w.heap.size + 1; omega) _).setCell (by show _ ≤ w.heap.size + 1 + 1; omega) _).setCell (by show _ ≤ w.heap.size + 1 + 1 + 1; omega) _
    generalize ((W.setCell ⟨w.heap.size + 1, 0, none⟩ (.int .i64 L1)).setCell ⟨w.heap.size + 1 + 1, 0, none⟩ (.int .i64 L2)).setCell ⟨w.heap.size + 1 + 1 + 1, 0, none⟩ (.bool L3) = X at q1' q2' q3' hK' hB' ⊢
    have hKd : X.drew.heap[D]? = some (.deferred (some [])) := hK'
    have p1 : X.drew.cell? ⟨w.heap.size + 1, 0, none⟩ = some (.int .i64 L1) := q1'
    have p2 : X.drew.cell? ⟨w.heap.size + 1 + 1, 0, none⟩ = some (.int .i64 L2) := q2'
    have p3 : X.drew.cell? ⟨w.heap.size + 1 + 1 + 1, 0, none⟩ = some (.bool L3) := q3'
    have hBd : Below w.heap.size w X.drew := hB'.drew
    generalize X.drew = Y at hKd p1 p2 p3 hBd ⊢
    refine ⟨by simp, .inl ⟨_, _, rfl, run_takeDeferred hKd, ?_⟩⟩
    have r1 := cell_kept p1 (grownBy_putObj' _ D (.deferred none)) (fun r e => by cases e; exact ⟨_, hKd, rfl⟩)
    have r2 := cell_kept p2 (grownBy_putObj' _ D (.deferred none)) (fun r e => by cases e; exact ⟨_, hKd, rfl⟩)
    have r3 := cell_kept p3 (grownBy_putObj' _ D (.deferred none)) (fun r e => by cases e; exact ⟨_, hKd, rfl⟩)
    have hBz := hBd.trans (belowK_b (w := w) (Nat.le_refl _) Y D _ (.deferred none) (by omega) hKd rfl rfl)
    refine ⟨.tuple #[.int .i64 L1, .int .i64 L2, .bool L3], ?res9, hBz, by rw [hLL]⟩
    case res9 => simp [go_sem, results, Tryd.f9, r1, r2, r3]
  case stop =>
    rintro D cc pre W _ _ h _
    exact h.elim
end Go.Proofs.YtegblcdnmcnngaaDoor.TB
