/- The contract of isup.fields at the kinds of the backward messages. -/
import Derived.Test.YtenaokgcljpcgaaDoorHM
set_option linter.unusedVariables false
set_option linter.unusedSimpArgs false
namespace Go.Proofs.YtenaokgcljpcgaaDoor.GA
open Go.RowKit Go.Proofs.YtenaokgcljpcgaaDoorW.PrintWords Go.Proofs.YtenaokgcljpcgaaDoorW.PrintLast Go.Proofs.YtenaokgcljpcgaaDoorW.PrintMore
theorem e50 (args : Array Value) (w : World) : (callFunc 50 args).run Tryd.prog w = .ok (.enter 50 args) w := enters_ Tryd.func50 (by kernel_rfl) rfl args w
theorem e57 (args : Array Value) (w : World) : (callFunc 57 args).run Tryd.prog w = .ok (.enter 57 args) w := enters_ Tryd.func57 (by kernel_rfl) rfl args w
theorem e60 (args : Array Value) (w : World) : (callFunc 60 args).run Tryd.prog w = .ok (.enter 60 args) w := enters_ Tryd.func60 (by kernel_rfl) rfl args w
def T34 : Bool × List (List Nat × List Nat) := (true, [([], []), ([], []), ([1], [1]), ([0, 2], [0, 2]), ([3, 2, 0, 1, 2, 3], [3])])
def B34 : List Nat := [0, 0, 2, 7, 15]
theorem tab34 : rtab .any (opsOf Tryd.f34 9) = T34 := by kernel_rfl
theorem bits34 : waitsOk T34.2 B34 = true := by kernel_rfl
def fi (o f t : Nat) : List Value := [.func (.func 81) #[] #[.pointer (some ⟨f, 0, none⟩), .pointer (some ⟨o, 0, none⟩), .pointer (some ⟨t, 0, none⟩)], .func (.func 82) #[] #[.pointer (some ⟨o, 0, none⟩)], .func (.func 84) #[] #[.pointer (some ⟨o, 0, none⟩)], .func (.func 86) #[] #[.pointer (some ⟨o, 0, none⟩)]]
def fb (o : Nat) : List Value := [.func (.func 94) #[] #[], .func (.func 95) #[] #[.pointer (some ⟨o, 0, none⟩)], .func (.func 96) #[] #[.pointer (some ⟨o, 0, none⟩)], .func (.func 98) #[] #[.pointer (some ⟨o, 0, none⟩)]]
/-- what lies from a row's head on -/
def FRow (W : World) (g : Nat) (vs : List Value) : Prop := ∀ j x, vs[j]? = some x → W.cell? ⟨g, j, none⟩ = some x
theorem cell_heap {W W' : World} {b n : Nat} (h : W'.heap[b]? = W.heap[b]?) : W'.cell? ⟨b, n, none⟩ = W.cell? ⟨b, n, none⟩ := by simp [World.cell?, h]
theorem FI.mv {W W' : World} {base base' o f t g : Nat} {v : Value} {x y : Int} (h : FI W base o f t v g x y) (hl : base' ≤ base) (hs : W.heap.size ≤ W'.heap.size) (hm : ∀ k, base ≤ k → k < W.heap.size → W'.heap[k]? = W.heap[k]?) : FI W' base' o f t v g x y := by
  obtain ⟨hv, ho, hf, ht, lo, lf, lt⟩ := h
  exact ⟨hv, (cell_heap (hm o lo.1 lo.2)).trans ho, (cell_heap (hm f lf.1 lf.2)).trans hf, (cell_heap (hm t lt.1 lt.2)).trans ht, ⟨by omega, by omega⟩, ⟨by omega, by omega⟩, ⟨by omega, by omega⟩⟩
theorem FB.mv {W W' : World} {base base' o g : Nat} {v : Value} (h : FB W base o v g) (hl : base' ≤ base) (hs : W.heap.size ≤ W'.heap.size) (hm : ∀ k, base ≤ k → k < W.heap.size → W'.heap[k]? = W.heap[k]?) : FB W' base' o v g := by
  obtain ⟨hv, ho, lo⟩ := h
  exact ⟨hv, (cell_heap (hm o lo.1 lo.2)).trans ho, ⟨by omega, by omega⟩⟩
theorem FRow.of_own {W : World} {base e n : Nat} {v : Value} {xs : List Value} (h : W.ownsRow base e 4 v n xs) (hn : 0 < n) : ∃ g cap, v = .slice (some ⟨g, 0, none⟩) n cap ∧ base ≤ g ∧ FRow W g xs := by
  obtain ⟨hl, h | ⟨g, cap, cur, rfl, hg, hh, h1, h2, h3, h4⟩⟩ := h
  · omega
  · refine ⟨g, cap, rfl, hg, fun j x hj => ?_⟩
    subst h4
    rw [List.getElem?_take] at hj
    split at hj
    · simp [World.cell?, hh]
      simpa using hj
    · cases hj
theorem cell_at {W : World} {b e : Nat} {cs : List Value} {fz : Nat × Nat} (h : W.heap[b]? = some (.cells cs.toArray e fz)) (j : Nat) (u : Value) (hj : cs[j]? = some u) : W.cell? ((⟨b, 0, none⟩ : Addr).add j) = some u := by
  have ha : ((⟨b, 0, none⟩ : Addr).add j) = ⟨b, j, none⟩ := by
    unfold Addr.add
    split <;> simp_all
  rw [ha]
  simp [World.cell?, h]
  simpa using hj
theorem add0 (b j : Nat) : ((⟨b, 0, none⟩ : Addr).add j) = ⟨b, j, none⟩ := by
  unfold Addr.add
  split <;> simp_all
theorem ownne {b g : Nat} {n c : Nat} (h : b ≠ g) : some b ≠ (Value.slice (some ⟨g, 0, none⟩) n c).ownBlock := by
  simp [Value.ownBlock, h]
theorem ownge {B k g : Nat} {n c : Nat} (hk : (Value.slice (some ⟨g, 0, none⟩) n c).ownBlock = some k) (h : B ≤ g) : B ≤ k := by
  simp [Value.ownBlock] at hk
  omega
theorem info94 : (Tryd.prog.info? 94).map (fun i => (i.zero, i.size, i.bytes)) = some (some (.agg #[.nilFunc, .nilFunc, .nilFunc, .nilFunc]), 4, 32) := by kernel_rfl
theorem own_here {W : World} {base e g n cap : Nat} {cs : Array Value} (hb : base ≤ g) (h : W.heap[g]? = some (.cells cs e (0, 0))) (hn : n ≤ cap) (hc : cap ≤ maxLen) (hs : cs.size = cap * 4) (h0 : 0 < n) : W.ownsRow base e 4 (.slice (some ⟨g, 0, none⟩) n cap) n (cs.toList.take (n * 4)) :=
  ⟨by rw [List.length_take, Array.length_toList, hs]; omega, .inr ⟨g, cap, cs, rfl, hb, h, hn, hc, hs, rfl⟩⟩
/-- what isup.fields answers at the kinds 3 to 7 -/
def Post34 (k : Int) (w : World) (e : Ending) (w' : World) : Prop := ∃ g cap n o1 f1 t1 o2 f2 t2 vs v1 v2, e = .returned (.tuple #[.slice (some ⟨g, 0, none⟩) n cap, .bool true]) ∧ w.heap.size ≤ g ∧ FRow w' g (fi o1 f1 t1 ++ fi o2 f2 t2 ++ vs) ∧ FI w' w.heap.size o1 f1 t1 v1 51 0 47 ∧ FI w' w.heap.size o2 f2 t2 v2 52 1 1099511627776 ∧ ((k = 7 ∧ n = 3 ∧ ∃ o f t v, vs = fi o f t ∧ FI w' w.heap.size o f t v 64 1 127) ∨ (k = 4 ∧ n = 3 ∧ ∃ o v, vs = fb o ∧ FB w' w.heap.size o v 63) ∨ (k ≠ 7 ∧ k ≠ 4 ∧ n = 2 ∧ vs = [])) ∧ Below w.heap.size w w'
set_option maxRecDepth 100000 in
set_option maxHeartbeats 4000000 in
theorem fields34 (k : Int) (w : World) (h3 : 3 ≤ k) (h7 : k ≤ 7) : Calls Tryd.prog 34 #[.int .i64 k] w fun e w' => Post34 k w e w' := by
  have hmf := mf
  have hmm := @run_makeMap Tryd.prog
  have h50 := e50
  have h57 := e57
  have h60 := e60
  have c1 : decide (k < 1) = false := decide_eq_false (by omega)
  have c2 : decide (13 < k) = false := decide_eq_false (by omega)
  have c3 : decide (8 < k) = false := decide_eq_false (by omega)
  have c4 : (k == 8) = false := beq_eq_false_iff_ne.mpr (by omega)
  go_enter Tryd.func34, Tryd.ntmps34
  go_wp2_with fail
  refine (int50 51 0 47 _).mono ?_
  rintro e w1 ⟨v1, o1, f1, t1, rfl, F1, hb1⟩
  have G1 : Below w.heap.size w w1 := hb1
  have S1 := F1
  obtain ⟨rfl, ho1, hf1, ht1, lo1, lf1, lt1⟩ := F1
  go_wp2_with fail
  have B1 := G1.alloc G1.size (Obj.cells #[Value.func (Fn.func 81) #[] #[Value.pointer (some ⟨f1, 0, none⟩), Value.pointer (some ⟨o1, 0, none⟩), Value.pointer (some ⟨t1, 0, none⟩)], Value.func (Fn.func 82) #[] #[Value.pointer (some ⟨o1, 0, none⟩)], Value.func (Fn.func 84) #[] #[Value.pointer (some ⟨o1, 0, none⟩)], Value.func (Fn.func 86) #[] #[Value.pointer (some ⟨o1, 0, none⟩)]] 94)
  refine start_ (n := 5) (S := fun w' => w'.cell? ⟨w1.heap.size, 0, none⟩ = some (.func (.func 81) #[] #[.pointer (some ⟨f1, 0, none⟩), .pointer (some ⟨o1, 0, none⟩), .pointer (some ⟨t1, 0, none⟩)]) ∧ w'.cell? ⟨w1.heap.size, 1, none⟩ = some (.func (.func 82) #[] #[.pointer (some ⟨o1, 0, none⟩)]) ∧ w'.cell? ⟨w1.heap.size, 2, none⟩ = some (.func (.func 84) #[] #[.pointer (some ⟨o1, 0, none⟩)]) ∧ w'.cell? ⟨w1.heap.size, 3, none⟩ = some (.func (.func 86) #[] #[.pointer (some ⟨o1, 0, none⟩)])) (ds := []) #[false, false, false, false, false] (by kernel_rfl) rfl rfl ⟨by simp [go_sem], by simp [go_sem], by simp [go_sem], by simp [go_sem]⟩ (fun hHeld => ?_); refine with_tabW tab34 bits34 (fun HT_ HW_ => ?_)
  refine take_ (i := 0) (N := some 24) (v := ?_) (a' := ?_) #[true, false, false, false, false] rfl rfl (take_ofW HT_.out HW_.out (by kernel_rfl)) (fun _ _ _ h => h) (Or.inl ⟨by rfl, ?_⟩) hHeld ?_ ?_
  rotate_left
  · rintro w' ⟨s0, s1, s2, s3⟩
    go_simp
    with_reducible rfl
  rotate_left
  · simp only [Act.put, List.setIfInBounds_toArray, List.set_cons_zero, List.set_cons_succ, i64_w, i32_w]
    rfl
  refine pure_ (i := 1) (N := some 25) (v := ?_) (a' := ?_) #[true, true, false, false, false] rfl rfl (any_of HT_.out (by kernel_rfl)) (fun _ _ _ h => h) (Or.inl ⟨by rfl, ?_⟩) ?_ ?_
  rotate_left
  · intro w'
    go_simp
    with_reducible rfl
  rotate_left
  · simp only [Act.put, List.setIfInBounds_toArray, List.set_cons_zero, List.set_cons_succ, i64_w, i32_w]
    rfl
  refine one_ (i := 2) (N := some 26) #[true, true, true, false, false] rfl rfl (one_of HT_.out (by kernel_rfl)) (by decide) (fun K hK => ?_)
  refine goes_ Tryd.func50 (by kernel_rfl) rfl #[.func (.func 52) #[] #[], .int .i64 1, .int .i64 1099511627776] (by rfl) rfl rfl (by (try simp only [List.map_toArray, List.map_cons, List.map_nil]); first | done | rfl) ?_
  refine (int50 52 1 1099511627776 _).mono ?_
  rintro e w2 ⟨v2, o2, f2, t2, rfl, F2, hb2⟩
  refine ⟨_, rfl, ?_⟩
  have hz1 : w1.heap.size < (w1.alloc (Obj.cells #[Value.func (Fn.func 81) #[] #[Value.pointer (some ⟨f1, 0, none⟩), Value.pointer (some ⟨o1, 0, none⟩), Value.pointer (some ⟨t1, 0, none⟩)], Value.func (Fn.func 82) #[] #[Value.pointer (some ⟨o1, 0, none⟩)], Value.func (Fn.func 84) #[] #[Value.pointer (some ⟨o1, 0, none⟩)], Value.func (Fn.func 86) #[] #[Value.pointer (some ⟨o1, 0, none⟩)]] 94)).drew.heap.size := by simp [go_sem]
  have q0 := (hb2.cell (p := ⟨w1.heap.size, 0, none⟩) hz1).trans hHeld.1
  have q1 := (hb2.cell (p := ⟨w1.heap.size, 1, none⟩) hz1).trans hHeld.2.1
  have q2 := (hb2.cell (p := ⟨w1.heap.size, 2, none⟩) hz1).trans hHeld.2.2.1
  have q3 := (hb2.cell (p := ⟨w1.heap.size, 3, none⟩) hz1).trans hHeld.2.2.2
  refine hK.out _ _ ⟨q0, q1, q2, q3⟩ (fun hHeld => ?_)
  clear hK K
  have B2 : Below w.heap.size w w2 := (below_drew1 B1).trans (hb2.mono (below_drew1 B1).size)
  have S2 := F2
  obtain ⟨rfl, ho2, hf2, ht2, lo2, lf2, lt2⟩ := F2
  refine norm_ (a' := ?_) ?_ ?_
  rotate_left
  · simp only [Act.put, List.setIfInBounds_toArray, List.set_cons_zero, List.set_cons_succ, i64_w, i32_w]
    rfl
  refine one_ (i := 3) (N := some 27) #[true, true, true, true, false] rfl rfl (one_of HT_.out (by kernel_rfl)) (by decide) (fun K hK => ?_)
  rw [if_pos (by rfl)]
  unfold Oper.wp
  go_simp
  have hz2 : w1.heap.size < w2.heap.size := Nat.lt_of_lt_of_le hz1 hb2.size
  have A2 : ∀ X, Below w2.heap.size w2 (w2.alloc X) := fun X => (Below.refl _ _).alloc (Nat.le_refl _) X
  refine hK.out _ _ ⟨((A2 _).cell (p := ⟨w1.heap.size, 0, none⟩) hz2).trans hHeld.1, ((A2 _).cell (p := ⟨w1.heap.size, 1, none⟩) hz2).trans hHeld.2.1, ((A2 _).cell (p := ⟨w1.heap.size, 2, none⟩) hz2).trans hHeld.2.2.1, ((A2 _).cell (p := ⟨w1.heap.size, 3, none⟩) hz2).trans hHeld.2.2.2⟩ (fun hHeld => ?_)
  clear hK K
  refine pure_ (i := 4) (N := some 6) (v := ?_) (a' := ?_) #[true, true, true, true, true] rfl rfl (any_of HT_.out (by kernel_rfl)) (fun _ _ _ h => h) (Or.inl ⟨by rfl, ?_⟩) ?_ ?_
  rotate_left
  · intro w'
    go_simp
    with_reducible rfl
  rotate_left
  · simp only [Act.put, List.setIfInBounds_toArray, List.set_cons_zero, List.set_cons_succ, i64_w, i32_w]
    rfl
  refine done_ (done_of HT_.out (by kernel_rfl)) ?_
  clear HT_ HW_
  go_wp2_with fail
  refine (int50 56 0 8 _).mono ?_
  rintro e w3 ⟨v3, o3, f3, t3, rfl, F3, hb3⟩
  obtain ⟨rfl, ho3, hf3, ht3, lo3, lf3, lt3⟩ := F3
  have m3 : w3.heap[w2.heap.size + 1]? = some (.map #[] 0) := (hb3.block _ (by simp [go_sem])).trans (heap_new _ _ (by simp [go_sem]))
  have l3 : w2.heap.size + 1 < w3.heap.size := (Array.getElem?_eq_some_iff.1 m3).1
  have e3 : ∀ b, b < w2.heap.size → w3.heap[b]? = w2.heap[b]? := fun b h => (hb3.block b (by simp [go_sem]; omega)).trans ((Below.heap_alloc _ _ b (by simp [go_sem]; omega)).trans (Below.heap_alloc _ _ b h))
  have r3 : w3.heap[w2.heap.size]? = some (.cells (fi o1 f1 t1 ++ fi o2 f2 t2).toArray 94 (0, 0)) := (hb3.block _ (by simp [go_sem])).trans ((Below.heap_alloc _ _ _ (by simp [go_sem])).trans (heap_new _ _ rfl))
  have C3 : Below w.heap.size w w3 := ((B2.alloc B2.size _).alloc (Nat.le_trans B2.size (by simp [go_sem])) _).trans (hb3.mono (Nat.le_trans B2.size (by simp [go_sem]; omega)))
  go_wp2_with fail
  refine (addr57 58 55 _).mono ?_
  rintro e w4 ⟨v4, rfl, ⟨o4, q4, rfl⟩, hb4⟩
  have m4 := (hb4.block _ l3).trans m3
  have l4 : w2.heap.size + 1 < w4.heap.size := (Array.getElem?_eq_some_iff.1 m4).1
  have e4 : ∀ b, b < w2.heap.size → w4.heap[b]? = w2.heap[b]? := fun b h => (hb4.block b (by omega)).trans (e3 b h)
  have r4 := (hb4.block w2.heap.size (by omega)).trans r3
  have C4 : Below w.heap.size w w4 := C3.trans (hb4.mono C3.size)
  go_wp2_with fail
  refine (addr57 59 54 _).mono ?_
  rintro e w5 ⟨v5, rfl, ⟨o5, q5, rfl⟩, hb5⟩
  have m5 := (hb5.block _ l4).trans m4
  have l5 : w2.heap.size + 1 < w5.heap.size := (Array.getElem?_eq_some_iff.1 m5).1
  have e5 : ∀ b, b < w2.heap.size → w5.heap[b]? = w2.heap[b]? := fun b h => (hb5.block b (by omega)).trans (e4 b h)
  have r5 := (hb5.block w2.heap.size (by omega)).trans r4
  have C5 : Below w.heap.size w w5 := C4.trans (hb5.mono C4.size)
  go_wp2_with fail
  refine (bool60 61 _).mono ?_
  rintro e w6 ⟨v6, o6, rfl, F6, hb6⟩
  obtain ⟨rfl, ho6, lo6⟩ := F6
  have m6 := (hb6.block _ l5).trans m5
  have l6 : w2.heap.size + 1 < w6.heap.size := (Array.getElem?_eq_some_iff.1 m6).1
  have e6 : ∀ b, b < w2.heap.size → w6.heap[b]? = w2.heap[b]? := fun b h => (hb6.block b (by omega)).trans (e5 b h)
  have r6 := (hb6.block w2.heap.size (by omega)).trans r5
  have C6 : Below w.heap.size w w6 := C5.trans (hb6.mono C5.size)
  go_wp2_with fail
  refine upd_ (clock := 0) (es := #[]) ((Below.heap_alloc _ _ _ l6).trans m6) rfl ?_
  intro w7 m7 z7 n7 b7
  have l7 : w2.heap.size + 1 < w7.heap.size := (Array.getElem?_eq_some_iff.1 m7).1
  have e7 : ∀ b, b < w2.heap.size → w7.heap[b]? = w2.heap[b]? := fun b h => (n7 b (by omega)).trans ((Below.heap_alloc _ _ b (by omega)).trans (e6 b h))
  have r7 := (n7 w2.heap.size (by omega)).trans ((Below.heap_alloc _ _ w2.heap.size (by omega)).trans r6)
  have C7 : Below w.heap.size w w7 := (C6.alloc C6.size _).trans (b7 _ (by have := B2.size; omega))
  go_wp2_with fail
  refine (addr57 62 53 _).mono ?_
  rintro e w8 ⟨v8, rfl, ⟨o8, q8, rfl⟩, hb8⟩
  have m8 := (hb8.block _ l7).trans m7
  have l8 : w2.heap.size + 1 < w8.heap.size := (Array.getElem?_eq_some_iff.1 m8).1
  have e8 : ∀ b, b < w2.heap.size → w8.heap[b]? = w2.heap[b]? := fun b h => (hb8.block b (by omega)).trans (e7 b h)
  have r8 := (hb8.block w2.heap.size (by omega)).trans r7
  have C8 : Below w.heap.size w w8 := C7.trans (hb8.mono C7.size)
  go_wp2_with fail
  refine upd_ ((Below.heap_alloc _ _ _ l8).trans m8) rfl ?_
  intro w9 m9 z9 n9 b9
  have l9 : w2.heap.size + 1 < w9.heap.size := (Array.getElem?_eq_some_iff.1 m9).1
  have e9 : ∀ b, b < w2.heap.size → w9.heap[b]? = w2.heap[b]? := fun b h => (n9 b (by omega)).trans ((Below.heap_alloc _ _ b (by omega)).trans (e8 b h))
  have r9 := (n9 w2.heap.size (by omega)).trans ((Below.heap_alloc _ _ w2.heap.size (by omega)).trans r8)
  have C9 : Below w.heap.size w w9 := (C8.alloc C8.size _).trans (b9 _ (by have := B2.size; omega))
  go_wp2_with fail
  refine (bool60 63 _).mono ?_
  rintro e w10 ⟨v10, o10, rfl, F10, hb10⟩
  have S10 := F10
  obtain ⟨rfl, ho10, lo10⟩ := F10
  have m10 := (hb10.block _ l9).trans m9
  have l10 : w2.heap.size + 1 < w10.heap.size := (Array.getElem?_eq_some_iff.1 m10).1
  have e10 : ∀ b, b < w2.heap.size → w10.heap[b]? = w2.heap[b]? := fun b h => (hb10.block b (by omega)).trans (e9 b h)
  have r10 := (hb10.block w2.heap.size (by omega)).trans r9
  have C10 : Below w.heap.size w w10 := C9.trans (hb10.mono C9.size)
  go_wp2_with fail
  refine upd_ ((Below.heap_alloc _ _ _ l10).trans m10) rfl ?_
  intro w11 m11 z11 n11 b11
  have l11 : w2.heap.size + 1 < w11.heap.size := (Array.getElem?_eq_some_iff.1 m11).1
  have e11 : ∀ b, b < w2.heap.size → w11.heap[b]? = w2.heap[b]? := fun b h => (n11 b (by omega)).trans ((Below.heap_alloc _ _ b (by omega)).trans (e10 b h))
  have r11 := (n11 w2.heap.size (by omega)).trans ((Below.heap_alloc _ _ w2.heap.size (by omega)).trans r10)
  have C11 : Below w.heap.size w w11 := (C10.alloc C10.size _).trans (b11 _ (by have := B2.size; omega))
  go_wp2_with fail
  refine (int50 64 1 127 _).mono ?_
  rintro e w12 ⟨v12, o12, f12, t12, rfl, F12, hb12⟩
  have S12 := F12
  obtain ⟨rfl, ho12, hf12, ht12, lo12, lf12, lt12⟩ := F12
  have m12 := (hb12.block _ l11).trans m11
  have l12 : w2.heap.size + 1 < w12.heap.size := (Array.getElem?_eq_some_iff.1 m12).1
  have e12 : ∀ b, b < w2.heap.size → w12.heap[b]? = w2.heap[b]? := fun b h => (hb12.block b (by omega)).trans (e11 b h)
  have r12 := (hb12.block w2.heap.size (by omega)).trans r11
  have C12 : Below w.heap.size w w12 := C11.trans (hb12.mono C11.size)
  go_wp2_with fail
  refine upd_ ((Below.heap_alloc _ _ _ l12).trans m12) rfl ?_
  intro w13 m13 z13 n13 b13
  have l13 : w2.heap.size + 1 < w13.heap.size := (Array.getElem?_eq_some_iff.1 m13).1
  have e13 : ∀ b, b < w2.heap.size → w13.heap[b]? = w2.heap[b]? := fun b h => (n13 b (by omega)).trans ((Below.heap_alloc _ _ b (by omega)).trans (e12 b h))
  have r13 := (n13 w2.heap.size (by omega)).trans ((Below.heap_alloc _ _ w2.heap.size (by omega)).trans r12)
  have C13 : Below w.heap.size w w13 := (C12.alloc C12.size _).trans (b13 _ (by have := B2.size; omega))
  go_wp2_with fail
  have hw1 : w.heap.size ≤ w1.heap.size := hb1.size
  have hw12 : w1.heap.size ≤ w2.heap.size := Nat.le_of_lt (Nat.lt_of_lt_of_le hz1 hb2.size)
  have D1 : ∀ b, b < w1.heap.size → w2.heap[b]? = w1.heap[b]? := fun b h => (hb2.block b (by simp [go_sem]; omega)).trans ((Below.heap_alloc _ _ b h))
  have R13 := own_here (W := w13) (base := w.heap.size) (n := 2) (cap := 2) (by omega) r13 (by decide) (by decide) (by simp [fi]) (by decide)
  obtain ⟨i94, hi94, hz94⟩ := Option.map_eq_some_iff.1 info94
  simp only [Prod.mk.injEq] at hz94
  obtain ⟨hz0, hz1', hz2⟩ := hz94
  have n12 : ∀ b, b ≠ w2.heap.size + 1 → b < w12.heap.size → w13.heap[b]? = w12.heap[b]? := fun b h h' => (n13 b h).trans (Below.heap_alloc _ _ b h')
  have W13 : w13.heap.size = w12.heap.size + 1 := by rw [z13]; simp [go_sem]
  have W11 : w11.heap.size = w10.heap.size + 1 := by rw [z11]; simp [go_sem]
  have W12 : w11.heap.size ≤ w12.heap.size := hb12.size
  have hx12 : ∀ b, w11.heap.size ≤ b → b < w12.heap.size → w13.heap[b]? = w12.heap[b]? := fun b h1 h2 => n12 b (by omega) h2
  have hx10 : ∀ b, w9.heap.size ≤ b → b < w10.heap.size → w13.heap[b]? = w10.heap[b]? := fun b h1 h2 => (n12 b (by omega) (by omega)).trans ((hb12.block b (by omega)).trans ((n11 b (by omega)).trans (Below.heap_alloc _ _ b h2)))
  have hx1 : ∀ b, w.heap.size ≤ b → b < w1.heap.size → w13.heap[b]? = w1.heap[b]? := fun b h1 h2 => (e13 b (by omega)).trans (D1 b h2)
  have W2 : w.heap.size ≤ (w1.alloc (Obj.cells #[Value.func (Fn.func 81) #[] #[Value.pointer (some ⟨f1, 0, none⟩), Value.pointer (some ⟨o1, 0, none⟩), Value.pointer (some ⟨t1, 0, none⟩)], Value.func (Fn.func 82) #[] #[Value.pointer (some ⟨o1, 0, none⟩)], Value.func (Fn.func 84) #[] #[Value.pointer (some ⟨o1, 0, none⟩)], Value.func (Fn.func 86) #[] #[Value.pointer (some ⟨o1, 0, none⟩)]] 94)).drew.heap.size := by simp [go_sem]; omega
  have W9 : w.heap.size ≤ w9.heap.size := C9.size
  have W10 : w.heap.size ≤ w11.heap.size := C11.size
  clear e3 e4 e5 e6 e7 e8 e9 e10 e11 e12
  by_cases k7 : k = 7
  · subst k7
    rw [mget_some m13 (j := 3) (v := .slice (some ⟨w12.heap.size, 0, none⟩) 1 1) (by rfl)]
    have q12 : w13.heap[w12.heap.size]? = some (.cells (fi o12 f12 t12).toArray 94 (0, 0)) := (n13 _ (by omega)).trans (heap_new _ _ rfl)
    go_wp2_with (first | (at_builtin; go_loud (refine wpList_append_own_at _ rfl (.tmp 44) (.tmp 47) 86 rfl w.heap.size 94 i94 _ 4 32 Tryd.underlying86 hi94 hz0 hz1' hz2 rfl (by decide) _ 2 _ rfl R13 ⟨w12.heap.size, 0, none⟩ 1 1 (fi o12 f12 t12) rfl rfl ?nw (by simp [fi, fb, Value.oneCell']) (by decide) (by decide) C13.size ?_); (case nw => exact cell_at q12); intro v' w' ho hg _ hat))
    obtain ⟨g, cap, rfl, hgb, hrow⟩ := FRow.of_own ho (by decide)
    refine ⟨rfl, _, ?res, g, cap, 3, o1, f1, t1, o2, f2, t2, fi o12 f12 t12, _, _, rfl, hgb, hrow, S1.mv (Nat.le_refl _) (by have := hg.size; omega) (fun b h1 h2 => (hg.block b (by omega) (ownne (by omega))).trans (hx1 b h1 h2)), S2.mv W2 (by have := hg.size; omega) (fun b h1 h2 => (hg.block b (by omega) (ownne (by omega))).trans (e13 b h2)), .inl ⟨rfl, rfl, o12, f12, t12, _, rfl, S12.mv W10 (by have := hg.size; omega) (fun b h1 h2 => (hg.block b (by omega) (ownne (by omega))).trans (hx12 b h1 h2))⟩, ?_⟩
    case res => simp [go_sem, results, Tryd.f34]
    exact C13.grown hg C13.size (fun k hk => ownge hk (by omega))
  · by_cases k4 : k = 4
    · subst k4
      rw [mget_some m13 (j := 2) (v := .slice (some ⟨w10.heap.size, 0, none⟩) 1 1) (by rfl)]
      have q10 : w13.heap[w10.heap.size]? = some (.cells (fb o10).toArray 94 (0, 0)) := (n12 _ (by omega) (by omega)).trans ((hb12.block _ (by omega)).trans ((n11 _ (by omega)).trans (heap_new _ _ rfl)))
      go_wp2_with (first | (at_builtin; go_loud (refine wpList_append_own_at _ rfl (.tmp 44) (.tmp 47) 86 rfl w.heap.size 94 i94 _ 4 32 Tryd.underlying86 hi94 hz0 hz1' hz2 rfl (by decide) _ 2 _ rfl R13 ⟨w10.heap.size, 0, none⟩ 1 1 (fb o10) rfl rfl ?nw (by simp [fi, fb, Value.oneCell']) (by decide) (by decide) C13.size ?_); (case nw => exact cell_at q10); intro v' w' ho hg _ hat))
      obtain ⟨g, cap, rfl, hgb, hrow⟩ := FRow.of_own ho (by decide)
      refine ⟨rfl, _, ?res, g, cap, 3, o1, f1, t1, o2, f2, t2, fb o10, _, _, rfl, hgb, hrow, S1.mv (Nat.le_refl _) (by have := hg.size; omega) (fun b h1 h2 => (hg.block b (by omega) (ownne (by omega))).trans (hx1 b h1 h2)), S2.mv W2 (by have := hg.size; omega) (fun b h1 h2 => (hg.block b (by omega) (ownne (by omega))).trans (e13 b h2)), .inr (.inl ⟨rfl, rfl, o10, _, rfl, S10.mv W9 (by have := hg.size; omega) (fun b h1 h2 => (hg.block b (by omega) (ownne (by omega))).trans (hx10 b h1 h2))⟩), ?_⟩
      case res => simp [go_sem, results, Tryd.f34]
      exact C13.grown hg C13.size (fun k hk => ownge hk (by omega))
    · have hf : Instr.findNow (.int .i64) (.int .i64 k) (((((#[] : Array MapEntry).push { key := .int .i64 1, val := .slice (some ⟨w6.heap.size, 0, none⟩) 4 4, born := 0 }).push { key := .int .i64 2, val := .slice (some ⟨w8.heap.size, 0, none⟩) 1 1, born := 1 }).push { key := .int .i64 4, val := .slice (some ⟨w10.heap.size, 0, none⟩) 1 1, born := 2 }).push { key := .int .i64 7, val := .slice (some ⟨w12.heap.size, 0, none⟩) 1 1, born := 3 }).toList 0 = some none := by
        simp [Instr.findNow, Instr.sameNow, beq_eq_false_iff_ne.mpr (show k ≠ 1 by omega), beq_eq_false_iff_ne.mpr (show k ≠ 2 by omega), beq_eq_false_iff_ne.mpr k4, beq_eq_false_iff_ne.mpr k7]
      rw [mget_none m13 hf]
      go_wp2_with fail
      refine ⟨rfl, _, ?res, w2.heap.size, 2, 2, o1, f1, t1, o2, f2, t2, [], _, _, rfl, by omega, ?_, S1.mv (Nat.le_refl _) (by omega) hx1, S2.mv W2 (by omega) (fun b h1 h2 => e13 b h2), .inr (.inr ⟨k7, k4, rfl, rfl⟩), C13⟩
      case res => simp [go_sem, results, Tryd.f34]
      intro j x hj
      rw [List.append_nil] at hj
      have := cell_at r13 j x hj
      rwa [add0] at this
end Go.Proofs.YtenaokgcljpcgaaDoor.GA
