/- slices.Insert of one timer into a list of timers, as the given program calls it: its contract. (Turned from the kit's proofs at elements of one cell.) -/
import Derived.Test.YtpmkbpphlokbjaaJI
import Derived.Lib.AppendZeros
import Derived.Lib.AppendZerosOnto
import Derived.Lib.Overlaps
import Derived.Laws.Externs
import Derived.Laws.IdiomCopy
import Derived.Laws.NewBlocks
import Derived.Deep.RegionLaw
set_option linter.unusedVariables false
set_option linter.unusedSimpArgs false
namespace Go.Proofs.Ytpmkbpphlokbjaa.GT
open Go.RowKit Go.Proofs.YtpmkbpphlokbjaaW.PrintWords Go.Proofs.YtpmkbpphlokbjaaW.PrintLast Go.Proofs.YtpmkbpphlokbjaaW.PrintMore
/-- copy, at elements of any size -/
theorem run_copy_rows {P : Program} (w : World) (dT sT ty elem : TypeId) (b o dLen dCap : Nat) (a : Addr) (sLen sCap : Nat) (cs : List Value) (size k : Nat)
    (hu : P.underlying dT = some (.slice elem)) (hs : (P.info? elem).map (·.size) = some size) (hk : Nat.min sLen dLen = k) (hn : cs.length = k * size)
    (hsrc : ∀ j v, cs[j]? = some v → w.cell? (a.add j) = some v) (hc : ∀ j, j < cs.length → (w.cell? ⟨b, o + j, none⟩).isSome = true) (hf : ∀ j, j < cs.length → w.frozen? ⟨b, o + j, none⟩ = false) (h1 : ∀ v ∈ cs, v.oneCell' = true) :
    (Builtin.copy_ #[dT, sT] ty #[.slice (some ⟨b, o, none⟩) dLen dCap, .slice (some a) sLen sCap]).run P w = .ok (goInt k) (w.setCells b o cs) := by
  have hl := run_loadCells_list (P := P) w a cs hsrc
  have hst := run_storeCells_cells (P := P) b o cs 0 w (by simpa using hc) (by simpa using hf) h1
  cases hq : P.info? elem with
  | none => simp [hq] at hs
  | some i =>
    have hi : i.size = size := by simpa [hq] using hs
    simp [Builtin.copy_, run_underlying hu, Builtin.lenOf, Builtin.firstCells, sizeOf, typeInfo, hq, hi, hk, ← hn, hl, hst]
theorem wp_copy_run_ {P : Program} (w : World) {o : Oper} {a : Act} {K : Act → World → Prop} {Q : Exit → Act → World → Prop} (d s : Operand) (t t' : TypeId)
    (ho : o.op = .call { callee := .builtin .copy, args := #[d, s], argTypes := #[t, t'] }) (v u : Value) (hd : a.eval d = v) (hs : a.eval s = u) {v' : Value} {w' : World}
    (hr : (Builtin.copy_ #[t, t'] o.type #[v, u]).run P w = .ok v' w') (h : K (a.put o.dst v') w') : o.wp P a w K Q := by
  unfold Oper.wp execOp
  simp only [ho, resolve, invoke, builtin, Sem.run_bind, Sem.run_pure, Result.andThen_ok, List.map_toArray, List.map_cons, List.map_nil, hd, hs, hr]
  exact h
theorem wpList_copy_run_ {P : Program} (w : World) {ops : Array Oper} {rest : List Oper} {o : Oper} {a : Act} {Q : Exit → Act → World → Prop} (hgd : o.guard = none) (d s : Operand) (t t' : TypeId)
    (ho : o.op = .call { callee := .builtin .copy, args := #[d, s], argTypes := #[t, t'] }) (v u : Value) (hd : a.eval d = v) (hs : a.eval s = u) {v' : Value} {w' : World}
    (hr : (Builtin.copy_ #[t, t'] o.type #[v, u]).run P w = .ok v' w') (h : wpList P ops Q rest (a.put o.dst v') w') : wpList P ops Q (o :: rest) a w :=
  wpList_plain hgd fun _ hK => wp_copy_run_ w d s t t' ho v u hd hs hr (hK _ _ h)
theorem step_copy_run_ {P : Program} {ops : Array Oper} {o : Oper} {a : Act} {w : World} {K : Act → World → Prop} {Q : Exit → Act → World → Prop} {E : Prop}
    (hg : o.guard = none) (d x : Operand) (dT sT : TypeId) (hop : o.op = Op.call { callee := Callee.builtin Builtin.copy, args := #[d, x], argTypes := #[dT, sT] })
    (v u : Value) (hd : a.eval d = v) (hx : a.eval x = u) {v' : Value} {w' : World} (hr : (Builtin.copy_ #[dT, sT] o.type #[v, u]).run P w = .ok v' w') (hK : K (a.put o.dst v') w') :
    if Region.wanted o (yielded ops a.tmps) = true then Oper.wp P o a w K Q else E := by
  have hw : Region.wanted o (yielded ops a.tmps) = true := by simp [Region.wanted, hg]
  rw [if_pos hw]
  unfold Oper.wp
  simp [execOp, hop, resolve, invoke, builtin, hd, hx, hr, Result.andThen]
  exact hK
theorem isSome_sets (b : Nat) (vs : List Value) (o : Nat) (w : World) (h : ∀ j, j < vs.length → (w.cell? ⟨b, o + j, none⟩).isSome = true) (k : Nat) (hk : (w.cell? ⟨b, k, none⟩).isSome = true) : ((w.setCells b o vs).cell? ⟨b, k, none⟩).isSome = true := by
  by_cases hin : o ≤ k ∧ k < o + vs.length
  · have := World.cell?_setCells_in b vs o w h (k - o) (by omega)
    rw [show o + (k - o) = k by omega] at this
    rw [this]; rfl
  · rw [World.cell?_setCells_out b vs o w ⟨b, k, none⟩ (fun _ _ => by show k < o ∨ o + vs.length ≤ k; omega)]
    exact hk
theorem addl (b o j : Nat) : ((⟨b, o, none⟩ : Addr).add j) = ⟨b, o + j, none⟩ := by
  unfold Addr.add
  split <;> simp_all
theorem tcells_len (l : List S64) : (tcells l).length = l.length * 2 := by
  induction l with
  | nil => rfl
  | cons x l ih => simp [tcells] at ih ⊢; omega
theorem tcells_one (l : List S64) : ∀ v ∈ tcells l, v.oneCell' = true := by
  intro v hv
  simp only [tcells, List.mem_flatMap] at hv
  obtain ⟨x, _, hx⟩ := hv
  simp at hx
  rcases hx with rfl | rfl <;> rfl
theorem tcells_app (a b : List S64) : tcells (a ++ b) = tcells a ++ tcells b := by simp [tcells]
theorem tcells_drop (l : List S64) (i : Nat) (hi : i ≤ l.length) : (tcells l).drop (i * 2) = tcells (l.drop i) := by
  have h := tcells_app (l.take i) (l.drop i)
  rw [List.take_append_drop] at h
  rw [h, List.drop_append_of_le_length (by rw [tcells_len, List.length_take]; omega), List.drop_of_length_le (by rw [tcells_len, List.length_take]; omega), List.nil_append]
theorem tcells_take (l : List S64) (i : Nat) (hi : i ≤ l.length) : (tcells l).take (i * 2) = tcells (l.take i) := by
  have h := tcells_app (l.take i) (l.drop i)
  rw [List.take_append_drop] at h
  rw [h, List.take_append_of_le_length (by rw [tcells_len, List.length_take]; omega), List.take_of_length_le (by rw [tcells_len, List.length_take]; omega)]
set_option maxHeartbeats 4000000 in
set_option maxRecDepth 100000 in
/-- there is room: in place -/
theorem ins_shift (b n c i vb vc : Nat) (cs : List S64) (x : S64) (w : World) (hi : i < n) (hroom : n + 1 ≤ c) (hc63 : c ≤ 9223372036854775807) (hvb : vb ≠ b)
    (hcl : cs.length = n)
    (hcs : ∀ j v, (tcells cs)[j]? = some v → w.cell? ⟨b, j, none⟩ = some v) (hsp : ∀ j, j < (n + 1) * 2 → (w.cell? ⟨b, j, none⟩).isSome = true) (hfz : ∀ j, j < (n + 1) * 2 → w.frozen? ⟨b, j, none⟩ = false)
    (hvs : ∀ j v, [Value.int .i64 x.f0, Value.int .i64 x.f1][j]? = some v → w.cell? ⟨vb, j, none⟩ = some v)
    (tA tB : TypeId) (kA kB : Nat) (hsa : w.shape? vb = some (tA, kA)) (hsb : w.shape? b = some (tB, kB)) (hkB : kB ≠ 0) (hfa : w.frozen? ⟨vb, 0, none⟩ = false) (hfe : w.frozen? ⟨vb, kA, none⟩ = false) :
    Calls Try.prog 33 #[.slice (some ⟨b, 0, none⟩) n c, .int .i64 i, .slice (some ⟨vb, 0, none⟩) 1 vc] w fun e w' =>
      e = .returned (.slice (some ⟨b, 0, none⟩) (n + 1) c) ∧ w' = (w.drew.setCells b ((i + 1) * 2) (tcells (cs.drop i))).setCells b (i * 2) [Value.int .i64 x.f0, Value.int .i64 x.f1] := by
  have hz2 : ¬ ((i : Int) = (n : Int)) := by omega
  obtain ⟨i94, hi94, hz94⟩ := Option.map_eq_some_iff.1 info64
  simp only [Prod.mk.injEq] at hz94
  obtain ⟨hz0, hzs, hzb⟩ := hz94
  have hsz : (Try.prog.info? 64).map (·.size) = some 2 := by rw [hi94]; simp [hzs]
  have hszr : ∀ w, (Go.sizeOf 64).run Try.prog w = .ok 2 w := fun w => by simp [sizeOf, typeInfo, hi94, hzs]
  have hov : ∀ lb cb, (callFunc 41 #[.slice (some ⟨vb, 0, none⟩) 1 vc, .slice (some ⟨b, (i + 1) * 2, none⟩) lb cb]).run Try.prog w = .ok (.value (.bool false)) w := fun lb cb => by
    rw [run_callFunc_extern Try.func41 (by kernel_rfl) (by kernel_rfl) (by kernel_rfl) (e := Extern.SlicesOverlaps.overlaps #[42, 42] #[4]) (by kernel_rfl),
      Lib.run_overlaps_apart w 42 4 64 Try.underlying42 2 hszr ⟨vb, 0, none⟩ ⟨b, (i + 1) * 2, none⟩ 1 vc lb cb hvb tA tB kA kB hsa hsb hkB hfa hfe]
    rfl
  have hdl : (tcells (cs.drop i)).length = (n - i) * 2 := by rw [tcells_len, List.length_drop, hcl]
  have hw1 : IntKind.i64.wrap ((i : Int) + 1) = (i : Int) + 1 := by rw [IntKind.wrap_i64]; omega
  have hw2 : IntKind.i64.wrap ((n : Int) + 1) = (n : Int) + 1 := by rw [IntKind.wrap_i64]; omega
  have hb1 : (0 : Int) ≤ (i : Int) + 1 := by omega
  have hin : i ≤ n := by omega
  have htn : ((i : Int) + 1).toNat = i + 1 := by omega
  have hb2 : ¬ (c = i + 1) := by omega
  have hb3 : (i : Int) ≤ (n : Int) + 1 := by omega
  have hb4 : ¬ (c = i) := by omega
  have hg1 : decide ((c : Int) < (n : Int) + 1) = false := decide_eq_false (by omega)
  have hcp1 : ∀ ty dc sc, (Builtin.copy_ #[42, 42] ty #[.slice (some ⟨b, (i + 1) * 2, none⟩) (n - i) dc, .slice (some ⟨b, i * 2, none⟩) (n + 1 - i) sc]).run Try.prog w.drew = .ok (goInt (n - i : Nat)) (w.drew.setCells b ((i + 1) * 2) (tcells (cs.drop i))) := fun ty dc sc =>
    run_copy_rows w.drew _ _ ty 64 b ((i + 1) * 2) (n - i) dc ⟨b, i * 2, none⟩ (n + 1 - i) sc (tcells (cs.drop i)) 2 (n - i) Try.underlying42 hsz (by simp only [Nat.min_def]; split <;> omega) hdl
      (fun j v hj => by rw [addl]; rw [← tcells_drop cs i (by omega), List.getElem?_drop] at hj; exact hcs (i * 2 + j) v hj)
      (fun j hj => hsp _ (by rw [hdl] at hj; omega)) (fun j hj => hfz _ (by rw [hdl] at hj; omega)) (tcells_one _)
  obtain ⟨W1, hW1⟩ : ∃ W1, W1 = w.drew.setCells b ((i + 1) * 2) (tcells (cs.drop i)) := ⟨_, rfl⟩
  have hsp1 : ∀ k, k < (n + 1) * 2 → (W1.cell? ⟨b, k, none⟩).isSome = true := fun k hk => by
    rw [hW1]
    exact isSome_sets b _ _ w.drew (fun j hj => hsp ((i + 1) * 2 + j) (by rw [hdl] at hj; omega)) _ (hsp k hk)
  have hcp2 : ∀ (W : World), (∀ x, W.cell? x = W1.cell? x) → (∀ x, W.frozen? x = W1.frozen? x) → ∀ ty dc, (Builtin.copy_ #[42, 42] ty #[.slice (some ⟨b, i * 2, none⟩) (n + 1 - i) dc, .slice (some ⟨vb, 0, none⟩) 1 vc]).run Try.prog W = .ok (goInt (1 : Nat)) (W.setCells b (i * 2) [Value.int .i64 x.f0, Value.int .i64 x.f1]) := fun W hWc hWf ty dc =>
    run_copy_rows W _ _ ty 64 b (i * 2) (n + 1 - i) dc ⟨vb, 0, none⟩ 1 vc [Value.int .i64 x.f0, Value.int .i64 x.f1] 2 1 Try.underlying42 hsz (by simp only [Nat.min_def]; split <;> omega) rfl
      (fun j v hj => by
        rw [addl, hWc, hW1, World.cell?_setCells_out b _ _ _ _ (fun h _ => absurd h hvb), Nat.zero_add]
        exact hvs j v hj)
      (fun j hj => by rw [hWc]; exact hsp1 (i * 2 + j) (by simp at hj; omega)) (fun j hj => by rw [hWf, hW1, World.frozen?_setCells]; exact hfz (i * 2 + j) (by simp at hj; omega)) (by simp [Value.oneCell'])
  rw [← hW1] at hcp1
  go_enter Try.func33, Try.ntmps33
  go_wp2_with (simp only [hov])
  go_region_law (refine step_copy_run_ rfl _ _ 42 42 rfl _ _ (by simp [Act.eval, Act.put]) (by simp [Act.eval, Act.put]) (hcp1 _ _ _) ?_)
  go_wp2_with (at_builtin; refine wpList_copy_run_ _ rfl _ _ 42 42 rfl _ _ rfl rfl (hcp2 _ (fun _ => rfl) (fun _ => rfl) _ _) ?_)
  go_ret
  first | exact ⟨rfl, rfl⟩ | exact ⟨rfl, by rw [hW1]⟩
set_option maxHeartbeats 4000000 in
set_option maxRecDepth 100000 in
/-- there is no room: a new row -/
theorem ins_grow (b n c i vb vc : Nat) (cs : List S64) (x : S64) (w : World) (hi : i < n) (hnc : n ≤ c) (hroom : c < n + 1) (hbig : (n + 1) * 16 ≤ 140737488355328)
    (hcl : cs.length = n)
    (hcs : ∀ j v, (tcells cs)[j]? = some v → w.cell? ⟨b, j, none⟩ = some v)
    (hvs : ∀ j v, [Value.int .i64 x.f0, Value.int .i64 x.f1][j]? = some v → w.cell? ⟨vb, j, none⟩ = some v) :
    Calls Try.prog 33 #[.slice (some ⟨b, 0, none⟩) n c, .int .i64 i, .slice (some ⟨vb, 0, none⟩) 1 vc] w fun e w' =>
      e = .returned (.slice (some ⟨w.heap.size, 0, none⟩) (n + 1) (grownCap w (n + 1) c 64)) ∧
      w' = (((w.alloc (.cells ((tcells (cs.take i)).toArray ++ Builtin.zeroCells #[Value.int .i64 0, Value.int .i64 0] (n + 1 - i) ++ Builtin.zeroCells #[Value.int .i64 0, Value.int .i64 0] (grownCap w (n + 1) c 64 - (n + 1))) 64)).drew.setCells w.heap.size (i * 2) [Value.int .i64 x.f0, Value.int .i64 x.f1]).drew).setCells w.heap.size ((i + 1) * 2) (tcells (cs.drop i)) := by
  have hz2 : ¬ ((i : Int) = (n : Int)) := by omega
  have hz3 : (c : Int) < (n : Int) + 1 := by omega
  obtain ⟨i94, hi94, hz94⟩ := Option.map_eq_some_iff.1 info64
  simp only [Prod.mk.injEq] at hz94
  obtain ⟨hz0, hzs, hzb⟩ := hz94
  have hsz : (Try.prog.info? 64).map (·.size) = some 2 := by rw [hi94]; simp [hzs]
  have hc0 := tcells_len cs
  have hbw : b < w.heap.size := block_lt_of_cell (hcs 0 _ (List.getElem?_eq_getElem (by omega)))
  have hvw : vb < w.heap.size := block_lt_of_cell (hvs 0 _ rfl)
  have hkk : (n : Int) + 1 - (i : Int) = ((n + 1 - i : Nat) : Int) := by omega
  have hik : i + (n + 1 - i) = n + 1 := by omega
  have hold : (Builtin.firstCells i94.size i (.slice (some ⟨b, 0, none⟩) i c)).run Try.prog w.drew = .ok (tcells (cs.take i)).toArray w.drew := by
    rw [hzs]
    exact run_firstCells_some w.drew 2 i ⟨b, 0, none⟩ i c (tcells (cs.take i)) (by rw [tcells_len, List.length_take]; omega) (fun j v hj => by
      rw [addl, Nat.zero_add]
      rw [← tcells_take cs i (by omega), List.getElem?_take] at hj
      split at hj
      · exact hcs j v hj
      · cases hj)
  have hrz : ∀ ty, (Builtin.append_ #[42, 3] ty #[.slice (some ⟨b, 0, none⟩) i c, .int .i64 ((n : Int) + 1 - (i : Int))]).run Try.prog w =
      .ok (.slice (some ⟨w.heap.size, 0, none⟩) (n + 1) (grownCap w (n + 1) c 64)) (w.drew.alloc (.cells ((tcells (cs.take i)).toArray ++ Builtin.zeroCells #[Value.int .i64 0, Value.int .i64 0] (n + 1 - i) ++ Builtin.zeroCells #[Value.int .i64 0, Value.int .i64 0] (grownCap w (n + 1) c 64 - (n + 1))) 64)) := fun ty => by
    have h := Lib.run_append_grow_zeros w 42 3 ty 64 i94 _ .i64 .i64 Try.underlying42 Try.underlying3 hi94 hz0 (some ⟨b, 0, none⟩) i c (tcells (cs.take i)) hold (n + 1 - i) (by omega) (by omega) (by omega) (by omega) (by rw [hzb]; omega) (by rw [hzb, hik]; exact growslice_fits hroom hbig)
    rw [hik] at h
    rw [hkk]
    exact h
  obtain ⟨G, hG⟩ : ∃ G, G = grownCap w (n + 1) c 64 := ⟨_, rfl⟩
  obtain ⟨ROW, hROW⟩ : ∃ ROW : Array Value, ROW = (tcells (cs.take i)).toArray ++ Builtin.zeroCells #[Value.int .i64 0, Value.int .i64 0] (n + 1 - i) ++ Builtin.zeroCells #[Value.int .i64 0, Value.int .i64 0] (G - (n + 1)) := ⟨_, rfl⟩
  rw [← hG] at hrz ⊢
  rw [← hROW] at hrz ⊢
  have hRl : (n + 1) * 2 ≤ ROW.size := by
    rw [hROW]
    simp [Builtin.zeroCells, tcells_len]
    omega
  obtain ⟨W1, hW1⟩ : ∃ W1, W1 = w.drew.alloc (.cells ROW 64) := ⟨_, rfl⟩
  rw [← hW1] at hrz
  have hN : ∀ j, j < (n + 1) * 2 → (W1.cell? ⟨w.heap.size, j, none⟩).isSome = true := fun j hj => by
    rw [hW1, World.cell?_alloc_at (w := w.drew) ROW _ w.heap.size j rfl, Array.getElem?_eq_getElem (by omega)]; rfl
  have hNf : ∀ j, W1.frozen? ⟨w.heap.size, j, none⟩ = false := fun j => by rw [hW1]; exact World.frozen?_alloc_at (w := w.drew) ROW _ w.heap.size j rfl
  have hOb : ∀ j v, w.cell? ⟨b, j, none⟩ = some v → W1.cell? ⟨b, j, none⟩ = some v := fun j v h => by rw [hW1, World.cell?_alloc_past (w := w.drew) _ b j hbw]; exact h
  have hOv : ∀ j v, w.cell? ⟨vb, j, none⟩ = some v → W1.cell? ⟨vb, j, none⟩ = some v := fun j v h => by rw [hW1, World.cell?_alloc_past (w := w.drew) _ vb j hvw]; exact h
  have hcpA : ∀ (W : World), (∀ x, W.cell? x = W1.cell? x) → (∀ x, W.frozen? x = W1.frozen? x) → ∀ ty dc, (Builtin.copy_ #[42, 42] ty #[.slice (some ⟨w.heap.size, i * 2, none⟩) (n + 1 - i) dc, .slice (some ⟨vb, 0, none⟩) 1 vc]).run Try.prog W = .ok (goInt (1 : Nat)) (W.setCells w.heap.size (i * 2) [Value.int .i64 x.f0, Value.int .i64 x.f1]) := fun W hWc hWf ty dc =>
    run_copy_rows W _ _ ty 64 w.heap.size (i * 2) (n + 1 - i) dc ⟨vb, 0, none⟩ 1 vc [Value.int .i64 x.f0, Value.int .i64 x.f1] 2 1 Try.underlying42 hsz (by simp only [Nat.min_def]; split <;> omega) rfl
      (fun j v hj => by rw [addl, hWc, Nat.zero_add]; exact hOv _ v (hvs j v hj))
      (fun j hj => by rw [hWc]; exact hN (i * 2 + j) (by simp at hj; omega)) (fun j hj => by rw [hWf]; exact hNf _) (by simp [Value.oneCell'])
  have hGn : n + 1 ≤ G := by rw [hG]; exact grownCap_ge w _ _ _
  have hG63 : G ≤ 9223372036854775807 := by
    have := grownCap_le_maxLen w (n + 1) c 64 (by unfold maxLen; omega)
    rw [← hG] at this
    unfold maxLen at this
    omega
  have hGi : ¬ (G = i) := by omega
  have hGim : ¬ (G = i + 1) := by omega
  have hci : ¬ (c = i) := by omega
  have hbN : b ≠ w.heap.size := by omega
  have hdl : (tcells (cs.drop i)).length = (n - i) * 2 := by rw [tcells_len, List.length_drop, hcl]
  have hcpB : ∀ (W : World), (∀ y, W.cell? y = (W1.setCells w.heap.size (i * 2) [Value.int .i64 x.f0, Value.int .i64 x.f1]).cell? y) → (∀ y, W.frozen? y = (W1.setCells w.heap.size (i * 2) [Value.int .i64 x.f0, Value.int .i64 x.f1]).frozen? y) → ∀ ty dc sc, (Builtin.copy_ #[42, 42] ty #[.slice (some ⟨w.heap.size, (i + 1) * 2, none⟩) (n - i) dc, .slice (some ⟨b, i * 2, none⟩) (n - i) sc]).run Try.prog W = .ok (goInt (n - i : Nat)) (W.setCells w.heap.size ((i + 1) * 2) (tcells (cs.drop i))) := fun W hWc hWf ty dc sc =>
    run_copy_rows W _ _ ty 64 w.heap.size ((i + 1) * 2) (n - i) dc ⟨b, i * 2, none⟩ (n - i) sc (tcells (cs.drop i)) 2 (n - i) Try.underlying42 hsz (by simp only [Nat.min_def]; split <;> omega) hdl
      (fun j v hj => by
        rw [addl, hWc, World.cell?_setCells_out _ _ _ _ _ (fun h _ => absurd h hbN)]
        rw [← tcells_drop cs i (by omega), List.getElem?_drop] at hj
        exact hOb _ v (hcs (i * 2 + j) v hj))
      (fun j hj => by rw [hWc]; exact isSome_sets _ _ _ _ (fun t ht => hN _ (by simp at ht; omega)) _ (hN _ (by rw [hdl] at hj; omega)))
      (fun j hj => by rw [hWf, World.frozen?_setCells]; exact hNf _) (tcells_one _)
  subst hW1
  have hE1 : ∀ x, ((w.alloc (.cells ROW 64)).drew).cell? x = (w.drew.alloc (.cells ROW 64)).cell? x := fun x => rfl
  have hE2 : ∀ x, ((w.alloc (.cells ROW 64)).drew).frozen? x = (w.drew.alloc (.cells ROW 64)).frozen? x := fun x => rfl
  have hF1 : ∀ y, (((w.alloc (.cells ROW 64)).drew.setCells w.heap.size (i * 2) [Value.int .i64 x.f0, Value.int .i64 x.f1]).drew).cell? y = ((w.drew.alloc (.cells ROW 64)).setCells w.heap.size (i * 2) [Value.int .i64 x.f0, Value.int .i64 x.f1]).cell? y := fun x => rfl
  have hF2 : ∀ y, (((w.alloc (.cells ROW 64)).drew.setCells w.heap.size (i * 2) [Value.int .i64 x.f0, Value.int .i64 x.f1]).drew).frozen? y = ((w.drew.alloc (.cells ROW 64)).setCells w.heap.size (i * 2) [Value.int .i64 x.f0, Value.int .i64 x.f1]).frozen? y := fun x => rfl
  have hw1 : IntKind.i64.wrap ((i : Int) + 1) = (i : Int) + 1 := by rw [IntKind.wrap_i64]; omega
  have hw2 : IntKind.i64.wrap ((n : Int) + 1) = (n : Int) + 1 := by rw [IntKind.wrap_i64]; omega
  have hw3 : IntKind.i64.wrap ((n : Int) + 1 - (i : Int)) = (n : Int) + 1 - (i : Int) := by rw [IntKind.wrap_i64]; omega
  have hb1 : (0 : Int) ≤ (i : Int) + 1 := by omega
  have hin : i ≤ n := by omega
  have htn : ((i : Int) + 1).toNat = i + 1 := by omega
  have hb3 : (i : Int) ≤ (n : Int) := by omega
  clear hkk hik hold hROW hG hRl
  go_enter Try.func33, Try.ntmps33
  go_wp2_with (first
    | (at_builtin; refine Lib.wpList_append_run _ rfl _ _ _ _ rfl _ _ rfl rfl _ _ (hrz _) ?_)
    | (at_builtin; refine wpList_copy_run_ _ rfl _ _ 42 42 rfl _ _ rfl rfl (hcpA _ hE1 hE2 _ _) ?_)
    | (at_builtin; refine wpList_copy_run_ _ rfl _ _ 42 42 rfl _ _ rfl rfl (hcpB _ (fun _ => rfl) (fun _ => rfl) _ _ _) ?_))
  go_region_law (refine step_copy_run_ rfl _ _ 42 42 rfl (.slice (some ⟨w.heap.size, (i + 1) * 2, none⟩) (n - i) (G - (i + 1))) (.slice (some ⟨b, i * 2, none⟩) (n - i) (c - i)) (by simp [Act.eval, Act.put]) (by simp [Act.eval, Act.put]) (hcpB _ hF1 hF2 3 (G - (i + 1)) (c - i)) ?_)
  go_wp2
  go_ret
  exact ⟨rfl, rfl⟩
theorem below_sets {B g : Nat} (hg : B ≤ g) (vs : List Value) (o : Nat) (w : World) : Below B w (w.setCells g o vs) := by
  obtain ⟨h1, h2, h3, h4⟩ := setCells_same g vs o w
  exact ⟨h1, h2, h3, by omega, fun j hj => setCells_far vs o j (by omega)⟩
/-- laid over a list: the new element at i, and what stood from i on behind it -/
theorem lay_shift (L : List Value) (cs : List S64) (x y : Value) (i : Nat) (hi : i ≤ cs.length) (hL : (cs.length + 1) * 2 ≤ L.length) (hh : L.take (i * 2) = tcells (cs.take i)) :
    (((L.take ((i + 1) * 2) ++ tcells (cs.drop i) ++ L.drop ((i + 1) * 2 + (tcells (cs.drop i)).length)).take (i * 2) ++ [x, y] ++ (L.take ((i + 1) * 2) ++ tcells (cs.drop i) ++ L.drop ((i + 1) * 2 + (tcells (cs.drop i)).length)).drop (i * 2 + 2))).take ((cs.length + 1) * 2)
      = tcells (cs.take i) ++ ([x, y] ++ tcells (cs.drop i)) := by
  have hd : (tcells (cs.drop i)).length = (cs.length - i) * 2 := by rw [tcells_len, List.length_drop]
  have ht : (tcells (cs.take i)).length = i * 2 := by rw [tcells_len, List.length_take]; omega
  have h1 : (L.take ((i + 1) * 2)).length = (i + 1) * 2 := by rw [List.length_take]; omega
  have e1 : (L.take ((i + 1) * 2) ++ tcells (cs.drop i) ++ L.drop ((i + 1) * 2 + (tcells (cs.drop i)).length)).take (i * 2) = tcells (cs.take i) := by
    rw [List.append_assoc, List.take_append_of_le_length (by omega), List.take_take, Nat.min_eq_left (by omega), hh]
  have e2 : (L.take ((i + 1) * 2) ++ tcells (cs.drop i) ++ L.drop ((i + 1) * 2 + (tcells (cs.drop i)).length)).drop (i * 2 + 2) = tcells (cs.drop i) ++ L.drop ((i + 1) * 2 + (tcells (cs.drop i)).length) := by
    rw [List.append_assoc, List.drop_append_of_le_length (by omega), List.drop_of_length_le (by omega), List.nil_append]
  rw [e1, e2, List.append_assoc, List.take_append, ht, List.take_of_length_le (by omega)]
  congr 1
  rw [← List.append_assoc, List.take_append_of_le_length (by simp [hd]; omega), List.take_of_length_le (by simp [hd]; omega)]
theorem lay_grow (L : List Value) (cs : List S64) (x y : Value) (i : Nat) (hi : i ≤ cs.length) (hL : (cs.length + 1) * 2 ≤ L.length) (hh : L.take (i * 2) = tcells (cs.take i)) :
    (((L.take (i * 2) ++ [x, y] ++ L.drop (i * 2 + 2)).take ((i + 1) * 2) ++ tcells (cs.drop i) ++ (L.take (i * 2) ++ [x, y] ++ L.drop (i * 2 + 2)).drop ((i + 1) * 2 + (tcells (cs.drop i)).length))).take ((cs.length + 1) * 2)
      = tcells (cs.take i) ++ ([x, y] ++ tcells (cs.drop i)) := by
  have hd : (tcells (cs.drop i)).length = (cs.length - i) * 2 := by rw [tcells_len, List.length_drop]
  have ht : (tcells (cs.take i)).length = i * 2 := by rw [tcells_len, List.length_take]; omega
  have e1 : (L.take (i * 2) ++ [x, y] ++ L.drop (i * 2 + 2)).take ((i + 1) * 2) = tcells (cs.take i) ++ [x, y] := by
    rw [hh, List.take_append_of_le_length (by simp [ht]; omega), List.take_of_length_le (by simp [ht]; omega)]
  rw [e1, List.take_append_of_le_length (by simp [ht, hd]; omega), List.take_of_length_le (by simp [ht, hd]; omega), List.append_assoc]
set_option maxHeartbeats 8000000 in
theorem ins_any {base : Nat} {A1 : Option Addr} {q1 q2 q i : Nat} {cs : List S64} {x : S64} {W : World} (hown : W.ownsRow base 64 2 (.slice A1 cs.length q1) cs.length (tcells cs)) (hbase : base ≤ W.heap.size) (hlen : cs.length ≤ 1024) (hi : i ≤ cs.length)
    (hx : W.heap[q]? = some (.cells #[Value.int .i64 x.f0, Value.int .i64 x.f1] 64 (0, 0))) (hne : some q ≠ (Value.slice A1 cs.length q1).ownBlock) :
    Calls Try.prog 33 #[.slice A1 cs.length q1, .int .i64 (i : Int), .slice (some ⟨q, 0, none⟩) 1 q2] W fun e w' => ∃ v', e = .returned v' ∧ w'.ownsRow base 64 2 v' (cs.length + 1) (tcells (cs.take i ++ x :: cs.drop i)) ∧ Below base W w' := by
  have hxc : ∀ j v, [Value.int .i64 x.f0, Value.int .i64 x.f1][j]? = some v → W.cell? ⟨q, j, none⟩ = some v := fun j v hj => (blk_cell hx j).trans (by simpa using hj)
  rcases Nat.lt_or_ge i cs.length with hlt | hge
  · rcases hown.2 with ⟨_, h0⟩ | ⟨g, cap, cur, hv, hg, hh, hnc, hcm, hcs, htk⟩
    · omega
    simp only [Value.slice.injEq, true_and] at hv
    obtain ⟨rfl, rfl⟩ := hv
    have hqg : q ≠ g := fun h => hne (by rw [h]; rfl)
    have hcells : ∀ j v, (tcells cs)[j]? = some v → W.cell? ⟨g, j, none⟩ = some v := by
      intro j v hj
      rw [← htk, List.getElem?_take] at hj
      split at hj
      · rw [blk_cell hh j]; simpa using hj
      · cases hj
    have htl : tcells (cs.take i ++ x :: cs.drop i) = tcells (cs.take i) ++ ([Value.int .i64 x.f0, Value.int .i64 x.f1] ++ tcells (cs.drop i)) := by rw [tcells_app]; rfl
    have hll : (tcells (cs.take i ++ x :: cs.drop i)).length = (cs.length + 1) * 2 := by rw [tcells_len]; simp; omega
    have hm : q1 ≤ 9223372036854775807 := by have := hcm; unfold maxLen at this; omega
    by_cases hroom : cs.length + 1 ≤ q1
    · refine (ins_shift g cs.length q1 i q q2 cs x W hlt hroom hm hqg rfl hcells (fun j hj => by rw [blk_cell hh j, Array.getElem?_eq_getElem (by omega)]; rfl) (fun j hj => blk_frozen hh j) hxc 64 64 2 cur.size (by simp [World.shape?, hx]) (by simp [World.shape?, hh]) (by omega) (blk_frozen hx 0) (blk_frozen hx 2)).mono ?_
      rintro e w' ⟨rfl, rfl⟩
      obtain ⟨cur1, h1, s1, l1⟩ := setCells_row (tcells (cs.drop i)) ((i + 1) * 2) W.drew cur hh (by rw [tcells_len, List.length_drop]; omega)
      obtain ⟨cur2, h2, s2, l2⟩ := setCells_row [Value.int .i64 x.f0, Value.int .i64 x.f1] (i * 2) _ cur1 h1 (by simp; omega)
      refine ⟨_, rfl, ⟨hll, .inr ⟨g, q1, cur2, rfl, hg, h2, hroom, hcm, by omega, ?_⟩⟩, (below_drew1 (Below.refl _ _)).trans ((below_sets hg _ _ _).trans (below_sets hg _ _ _))⟩
      rw [l2, l1, htl]
      have hsz : (cs.length + 1) * 2 ≤ cur.toList.length := by
        rw [show cur.toList.length = cur.size from Array.length_toList, hcs]
        exact Nat.mul_le_mul_right 2 hroom
      exact lay_shift cur.toList cs _ _ i hi hsz (by
        rw [← tcells_take cs i hi, ← htk, List.take_take, Nat.min_eq_left (by omega)])
    · refine (ins_grow g cs.length q1 i q q2 cs x W hlt hnc (by omega) (by omega) rfl hcells hxc).mono ?_
      rintro e w' ⟨rfl, rfl⟩
      have hgc := grownCap_ge W (cs.length + 1) q1 64
      have hgm := grownCap_le_maxLen W (cs.length + 1) q1 64 (by unfold maxLen; omega)
      generalize grownCap W (cs.length + 1) q1 64 = G at hgc hgm ⊢
      obtain ⟨ROW, hROW⟩ : ∃ ROW : Array Value, (tcells (cs.take i)).toArray ++ Builtin.zeroCells #[Value.int .i64 0, Value.int .i64 0] (cs.length + 1 - i) ++ Builtin.zeroCells #[Value.int .i64 0, Value.int .i64 0] (G - (cs.length + 1)) = ROW := ⟨_, rfl⟩
      rw [hROW]
      have hRs : ROW.size = G * 2 := by
        rw [← hROW]
        simp [Builtin.zeroCells, tcells_len]
        omega
      have hRt : ROW.toList.take (i * 2) = tcells (cs.take i) := by
        rw [← hROW]
        simp only [Array.toList_append, List.toList_toArray]
        rw [List.append_assoc, List.take_append_of_le_length (by rw [tcells_len, List.length_take]; omega), List.take_of_length_le (by rw [tcells_len, List.length_take]; omega)]
      have hb0 : ((W.alloc (.cells ROW 64)).drew).heap[W.heap.size]? = some (.cells ROW 64 (0, 0)) := blk_new W _
      obtain ⟨cur1, h1, s1, l1⟩ := setCells_row [Value.int .i64 x.f0, Value.int .i64 x.f1] (i * 2) (W.alloc (.cells ROW 64)).drew ROW hb0 (by simp; omega)
      have h1' : (((W.alloc (.cells ROW 64)).drew.setCells W.heap.size (i * 2) [Value.int .i64 x.f0, Value.int .i64 x.f1]).drew).heap[W.heap.size]? = some (.cells cur1 64 (0, 0)) := h1
      obtain ⟨cur2, h2, s2, l2⟩ := setCells_row (tcells (cs.drop i)) ((i + 1) * 2) _ cur1 h1' (by rw [tcells_len, List.length_drop]; omega)
      refine ⟨_, rfl, ⟨hll, .inr ⟨W.heap.size, G, cur2, rfl, hbase, h2, hgc, hgm, by omega, ?_⟩⟩, ((below_drew1 ((Below.refl _ _).alloc hbase _)).trans ((below_drew1 (below_sets hbase _ _ _)).trans (below_sets hbase _ _ _)))⟩
      rw [l2, l1, htl]
      have hsz : (cs.length + 1) * 2 ≤ ROW.toList.length := by
        rw [show ROW.toList.length = ROW.size from Array.length_toList, hRs]
        exact Nat.mul_le_mul_right 2 hgc
      exact lay_grow ROW.toList cs _ _ i hi hsz hRt
  · have hil : i = cs.length := by omega
    subst hil
    refine (ins_end (x := x) hown hbase hlen (cell_ats (cs := [.int .i64 x.f0, .int .i64 x.f1]) hx)).mono ?_
    rintro e w' ⟨v', rfl, ho, hg⟩
    refine ⟨v', rfl, ?_, (Below.refl _ _).grown hg hbase (fun k hk => own_base hown k hk)⟩
    rw [List.take_length, List.drop_length]
    exact ho
end Go.Proofs.Ytpmkbpphlokbjaa.GT
