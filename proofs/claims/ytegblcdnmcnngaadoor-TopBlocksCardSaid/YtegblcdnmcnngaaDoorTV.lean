/- trie.Put of the given program. -/
import Derived.Test.YtegblcdnmcnngaaDoorTP
import Derived.Lib.ConvBytes
set_option linter.unusedVariables false
set_option linter.unusedSimpArgs false
namespace Go.Proofs.YtegblcdnmcnngaaDoor.TB
open Go.RowKit
theorem own_form {W : World} {base n : Nat} {v : Value} {vs : List Value} (h : W.ownsRow base 57 11 v (n + 1) vs) : ∃ g c, v = .slice (some ⟨g, 0, none⟩) (n + 1) c := by
  rcases h.2 with ⟨_, h0⟩ | ⟨g, c, cur, rfl, _⟩
  · omega
  · exact ⟨g, c, rfl⟩
theorem own_mono {W : World} {base base' n : Nat} {v : Value} {vs : List Value} (h : W.ownsRow base 57 11 v n vs) (hb : base' ≤ base) : W.ownsRow base' 57 11 v n vs := by
  refine ⟨h.1, ?_⟩
  rcases h.2 with h0 | ⟨g, c, cur, hv, hg, r⟩
  · exact .inl h0
  · exact .inr ⟨g, c, cur, hv, by omega, r⟩
theorem Below.bytes (w : World) (s : ByteArray) : Below w.heap.size w (Lib.bytesWorld w 5 s) :=
  ⟨rfl, rfl, rfl, by rw [Lib.bytesWorld_size]; omega, fun k hk => Lib.bytesWorld_at_old w 5 s k hk⟩
set_option maxRecDepth 100000 in
set_option maxHeartbeats 8000000 in
theorem put8 {g n c : Nat} {xs : List Int} {P : Nat → List Nat} {s : ByteArray} {v : Int} {w : World} (hR : Row w g xs) (hTr : Tree xs n P) (hlen : ∀ k, k < n → (P k).length ≤ 15) (hVb : Vb xs n) (hn : n + 15 ≤ 4096) (hnc : n ≤ c) (hs15 : s.size ≤ 15) (hdig : Digs s) (hv1 : 1 ≤ v) (hv2 : v ≤ 1099511627776) :
    Calls Tryd.prog 8 #[.agg #[.slice (some ⟨g, 0, none⟩) n c], .string s, .int .i64 v] w fun e w' => Below w.heap.size w w' ∧ ∃ u m, e = .returned (.tuple #[.agg #[u], .int .i64 0]) ∧ w'.ownsRow w.heap.size 57 11 u m (iv (putT xs (dgs s) v)) ∧ OkT (putT xs (dgs s) v) m := by
  have hT := hTr.ok
  have hs : s.size ≤ 9223372036854775807 := by omega
  obtain ⟨i72, hi72, hz72⟩ := Option.map_eq_some_iff.1 info72
  simp only [Prod.mk.injEq] at hz72
  obtain ⟨hz0, hz1, hz2⟩ := hz72
  go_enter Tryd.func8, Tryd.ntmps8
  go_wp2_with fail
  obtain ⟨W0, hW0⟩ : ∃ W, (w.alloc (Obj.cells #[Value.slice (some ⟨g, 0, none⟩) n c] 35)).alloc (Obj.cells #[Value.slice none 0 0] 35) = W := ⟨_, rfl⟩
  have hs0 : (w.alloc (Obj.cells #[Value.slice (some ⟨g, 0, none⟩) n c] 35)).heap.size = w.heap.size + 1 := by simp [go_sem]
  have hb0 : Below w.heap.size w W0 := by rw [← hW0]; exact ((Below.refl _ _).alloc (Nat.le_refl _) _).alloc (by simp) _
  have hS0 : W0.heap.size = w.heap.size + 2 := by rw [← hW0]; simp [go_sem]
  have hX0 : W0.cell? ⟨w.heap.size, 0, none⟩ = some (.slice (some ⟨g, 0, none⟩) n c) := by rw [← hW0]; simp [go_sem]
  have hY0 : W0.cell? ⟨w.heap.size + 1, 0, none⟩ = some (.slice none 0 0) := by rw [← hW0]; simp [go_sem]
  have hY0f : W0.frozen? ⟨w.heap.size + 1, 0, none⟩ = false := by rw [← hW0]; simp [go_sem]
  try rw [hW0]
  refine (checked15 (s := s) (hR.below hb0) hTr hlen hVb (by omega) hnc hs15 hdig).mono ?_
  rintro e w1 ⟨rfl, hb1⟩
  rw [hS0] at hb1
  have hX1 : w1.cell? ⟨w.heap.size, 0, none⟩ = some (.slice (some ⟨g, 0, none⟩) n c) := (hb1.cell (p := ⟨w.heap.size, 0, none⟩) (by show w.heap.size < _; omega)).trans hX0
  have hY1 : w1.cell? ⟨w.heap.size + 1, 0, none⟩ = some (.slice none 0 0) := (hb1.cell (p := ⟨w.heap.size + 1, 0, none⟩) (by show w.heap.size + 1 < _; omega)).trans hY0
  have hY1f : w1.frozen? ⟨w.heap.size + 1, 0, none⟩ = false := (hb1.frozen (p := ⟨w.heap.size + 1, 0, none⟩) (by show w.heap.size + 1 < _; omega)).trans hY0f
  have HB1 : Below w.heap.size w w1 := hb0.trans (hb1.mono (by omega))
  have hS1 : w.heap.size + 2 ≤ w1.heap.size := by have := hb1.size; omega
  have hR1 : Row w1 g xs := hR.below HB1
  have HD := Lib.hid hdig
  clear hdig
  have d1 : decide (v < 1) = false := decide_eq_false (by omega)
  have d2 : decide (1099511627776 < v) = false := decide_eq_false (by omega)
  go_wp2_with fail
  refine (clone16 hR1 hT.len (by omega) hnc).mono ?_
  rintro e w2 ⟨u, rfl, hown, hb2⟩
  have HB2 : Below w.heap.size w w2 := HB1.trans (hb2.mono HB1.size)
  have hS2 : w.heap.size + 2 ≤ w2.heap.size := by have := hb2.size; omega
  have hY2 : w2.cell? ⟨w.heap.size + 1, 0, none⟩ = some (.slice none 0 0) := (hb2.cell (p := ⟨w.heap.size + 1, 0, none⟩) (by show w.heap.size + 1 < _; omega)).trans hY1
  have hY2f : w2.frozen? ⟨w.heap.size + 1, 0, none⟩ = false := (hb2.frozen (p := ⟨w.heap.size + 1, 0, none⟩) (by show w.heap.size + 1 < _; omega)).trans hY1f
  have hconv : (convert 9 58 (Value.string s)).run Tryd.prog w2 = .ok (.slice (some ⟨w2.heap.size, 0, none⟩) s.size (grownCap w2 s.size 0 5)) (Lib.bytesWorld w2 5 s) := Lib.run_convert_string_bytes (P := Tryd.prog) w2 9 58 5 s Tryd.underlying9 Tryd.underlying58 Tryd.underlying5
  obtain ⟨W3, hW3⟩ : ∃ W, Lib.bytesWorld w2 5 s = W := ⟨_, rfl⟩
  have hb3 : Below w2.heap.size w2 W3 := by rw [← hW3]; exact Below.bytes w2 s
  obtain ⟨bt, hbt⟩ : ∃ bt : Nat → Nat, ∀ j, j < s.size → bt j < 10 ∧ (s.data.toList.getD j 0).toNat = 48 + bt j ∧ (dgs s)[j]? = some (bt j) := by
    refine ⟨fun j => dg (s.data.toList.getD j 0), fun j hj => ?_⟩
    have hjl : j < s.data.toList.length := by simpa using hj
    have hget : s.data.toList.getD j 0 = s.data.toList[j] := by rw [List.getD, List.getElem?_eq_getElem hjl]; rfl
    have hmem : s.data.toList.getD j 0 ∈ s.data.toList := by rw [hget]; exact List.getElem_mem _
    have := HD.out _ hmem
    refine ⟨by show (s.data.toList.getD j 0).toNat - 48 < 10; omega, by show _ = 48 + ((s.data.toList.getD j 0).toNat - 48); omega, ?_⟩
    simp only [dgs, List.getElem?_map, List.getElem?_eq_getElem hjl, Option.map_some, hget]
  have hc3 : ∀ j, j < s.size → W3.cell? ⟨w2.heap.size, j, none⟩ = some (.int .u8 (48 + (bt j : Int))) := by
    rw [← hW3]
    intro j hj
    rw [Lib.bytesWorld_cell w2 5 s j hj, (hbt j hj).2.1]
    rfl
  have hS3 : W3.heap.size = w2.heap.size + 1 := by rw [← hW3]; exact Lib.bytesWorld_size w2 5 s
  rw [hW3] at hconv
  have hgr3 : w2.grownBy W3 none := by rw [← hW3]; exact ⟨rfl, rfl, rfl, by rw [Lib.bytesWorld_size]; omega, fun k hk _ => Lib.bytesWorld_at_old w2 5 s k hk⟩
  clear hW3
  have HL := hown.lt
  have hown3 : W3.ownsRow w1.heap.size 57 11 u n (iv xs) := hown.kept hgr3 (by cases u.ownBlock <;> simp)
  have hbase3 : Below w1.heap.size w1 W3 := hb2.trans (hb3.mono hb2.size)
  go_wp2_with fail
  go_loopw [34, 9, 10] (fun i l a W => ∃ k m at' : Nat, ∃ ys : List Int, k ≤ s.size ∧ i = .int .i64 (k : Int) ∧ pfold xs ((dgs s).take k) = (ys, at') ∧ W.ownsRow w1.heap.size 57 11 l m (iv ys) ∧ OkT ys m ∧ a = .int .i64 (at' : Int) ∧ at' < m ∧ m ≤ n + k ∧ l.ownBlock ≠ some w2.heap.size ∧ Below w1.heap.size w1 W ∧ w2.heap.size < W.heap.size ∧ ∀ j, j < s.size → W.cell? ⟨w2.heap.size, j, none⟩ = some (.int .u8 (48 + (bt j : Int)))) (fun i _ _ _ => s.size - (intOf i).toNat)
  case atStart => exact ⟨0, n, 0, xs, by omega, rfl, rfl, hown3, hT, rfl, hT.pos, by omega, fun h => by have := (HL _ h).2; omega, hbase3, by omega, hc3⟩
  case round =>
    obtain ⟨k, m, at', ys, hk, rfl, hp, ho, hO, rfl, hat, hm, hl, hB, hS, hC⟩ := hrel
    by_cases hlt : k < s.size
    · have hlt' : decide ((k : Int) < (s.size : Int)) = true := decide_eq_true (by omega)
      obtain ⟨g', c', rfl, hg1, hg2, hg3, hg4⟩ := own_nodes ho hO.pos
      have hck := hC k hlt
      obtain ⟨hd10, _, hdk⟩ := hbt k hlt
      obtain ⟨d, hd⟩ : ∃ d, bt k = d := ⟨_, rfl⟩
      rw [hd] at hck hd10 hdk
      obtain ⟨hkd1, hkd2⟩ := hO.kd hat hd10
      have hpk : pfold xs ((dgs s).take (k + 1)) = pstep (ys, at') d := by rw [List.take_add_one, hdk, Option.toList_some, pfold_snoc, hp]
      have HPK := Lib.hid hpk
      clear hpk
      have hcell := hg4 _ _ hkd2
      have hm1 : (d : Int) % 256 = d := by omega
      have hm2 : (48 + (d : Int) - 48) % 256 = d := by omega
      by_cases hk0 : kd ys at' d = 0
      · have e0 : ((kd ys at' d : Int) == 0) = true := by rw [hk0]; rfl
        have e0' : (kd ys at' d == 0) = true := by rw [hk0]; rfl
        rw [hk0] at hcell
        have hps : pstep (ys, at') d = (ys.set (at' * 11 + d) (m : Int) ++ zeros 11, m) := by
          unfold pstep
          rw [if_pos hk0]
          have : ys.length / 11 = m := by rw [hO.len]; omega
          rw [this]
        have HK := Lib.hid hk0
        clear hk0
        have hfz := ho.frozenAt (at' * 11 + d)
        obtain ⟨hst, hgs⟩ := ho.stored (at' * 11 + d) (.int .i64 (m : Int))
        have hset : (iv ys).set (at' * 11 + d) (.int .i64 (m : Int)) = iv (ys.set (at' * 11 + d) (m : Int)) := by simp [iv, List.map_set]
        rw [hset] at hst
        have hgl : g' ≠ w2.heap.size := fun h => hl (by rw [h]; rfl)
        obtain ⟨ws, hws⟩ : ∃ W, wr.setCell ⟨g', at' * 11 + d, none⟩ (.int .i64 (m : Int)) = W := ⟨_, rfl⟩
        rw [hws] at hst hgs
        have hssz : ws.heap.size = wr.heap.size := by rw [← hws]; simp [World.setCell]
        have hBs : Below w1.heap.size w1 ws := by rw [← hws]; exact hB.setCell hg1 _
        have hCs : ∀ j, j < s.size → ws.cell? ⟨w2.heap.size, j, none⟩ = some (.int .u8 (48 + (bt j : Int))) := fun j hj => hgs.cell (hC j hj) (fun h => hgl (by injection h with h; exact h.symm))
        have hownA := hst.alloc (.cells #[.int .i64 0, .int .i64 0, .int .i64 0, .int .i64 0, .int .i64 0, .int .i64 0, .int .i64 0, .int .i64 0, .int .i64 0, .int .i64 0, .int .i64 0] 57)
        have hz := World.ownsRow_lit (base := 0) (e := 57) (size := 11) ws #[.int .i64 0, .int .i64 0, .int .i64 0, .int .i64 0, .int .i64 0, .int .i64 0, .int .i64 0, .int .i64 0, .int .i64 0, .int .i64 0, .int .i64 0] 1 (Nat.zero_le _) (by decide) rfl
        have hzc : ∀ j u, (iv (zeros 11))[j]? = some u → (ws.alloc (.cells #[.int .i64 0, .int .i64 0, .int .i64 0, .int .i64 0, .int .i64 0, .int .i64 0, .int .i64 0, .int .i64 0, .int .i64 0, .int .i64 0, .int .i64 0] 57)).cell? ((⟨ws.heap.size, 0, none⟩ : Addr).add j) = some u := hz.cells rfl
        have hBA : Below w1.heap.size w1 (ws.alloc (.cells #[.int .i64 0, .int .i64 0, .int .i64 0, .int .i64 0, .int .i64 0, .int .i64 0, .int .i64 0, .int .i64 0, .int .i64 0, .int .i64 0, .int .i64 0] 57)) := hBs.alloc hBs.size _
        have hCA : ∀ j, j < s.size → (ws.alloc (.cells #[.int .i64 0, .int .i64 0, .int .i64 0, .int .i64 0, .int .i64 0, .int .i64 0, .int .i64 0, .int .i64 0, .int .i64 0, .int .i64 0, .int .i64 0] 57)).cell? ⟨w2.heap.size, j, none⟩ = some (.int .u8 (48 + (bt j : Int))) := fun j hj => (World.grownBy_alloc ws _ none).cell (hCs j hj) (by simp)
        have hsA : (ws.alloc (.cells #[.int .i64 0, .int .i64 0, .int .i64 0, .int .i64 0, .int .i64 0, .int .i64 0, .int .i64 0, .int .i64 0, .int .i64 0, .int .i64 0, .int .i64 0] 57)).heap.size = wr.heap.size + 1 := by rw [World.size_alloc, hssz]
        obtain ⟨wA, hwA⟩ : ∃ W, ws.alloc (.cells #[.int .i64 0, .int .i64 0, .int .i64 0, .int .i64 0, .int .i64 0, .int .i64 0, .int .i64 0, .int .i64 0, .int .i64 0, .int .i64 0, .int .i64 0] 57) = W := ⟨_, rfl⟩
        rw [hwA] at hownA hzc hBA hCA hsA
        rw [hssz] at hzc
        have hwA' : (wr.setCell ⟨g', at' * 11 + d, none⟩ (.int .i64 (m : Int))).alloc (.cells #[.int .i64 0, .int .i64 0, .int .i64 0, .int .i64 0, .int .i64 0, .int .i64 0, .int .i64 0, .int .i64 0, .int .i64 0, .int .i64 0, .int .i64 0] 57) = wA := by rw [hws, hwA]
        clear hz
        go_wp2_with (first | (at_builtin; refine wpList_append_own_at _ rfl (.tmp 53) (.tmp 55) 33 rfl w1.heap.size 57 i72 _ 11 88 Tryd.underlying33 hi72 hz0 hz1 hz2 rfl (by decide) _ m (iv (ys.set (at' * 11 + d) (m : Int))) rfl hownA ⟨wr.heap.size, 0, none⟩ 1 1 (iv (zeros 11)) rfl rfl hzc (iv_one _) (by simp only [maxLen]; omega) (by omega) hBA.size ?_; intro v' w5 ho5 hg5 _ hat5; obtain ⟨g5, c5, rfl⟩ := own_form ho5))
        have HO5 : w5.ownsRow w1.heap.size 57 11 (.slice (some ⟨g5, 0, none⟩) (m + 1) c5) (m + 1) (iv (ys.set (at' * 11 + d) (m : Int) ++ zeros 11)) := by
          have : iv (ys.set (at' * 11 + d) (m : Int) ++ zeros 11) = iv (ys.set (at' * 11 + d) (m : Int)) ++ iv (zeros 11) := by simp [iv]
          rw [this]
          exact ho5
        have hl5 : (Value.slice (some ⟨g5, 0, none⟩) (m + 1) c5).ownBlock ≠ some w2.heap.size := by
          intro h
          rcases hat5 with h5 | h5
          · exact hl (h5.symm.trans h)
          · rw [h] at h5
            injection h5 with h5
            omega
        have hB5 : Below w1.heap.size w1 w5 := hBA.grown hg5 hBA.size (fun q e => by
          have e' : (Value.slice (some ⟨g', 0, none⟩) m c').ownBlock = some q := e
          simp only [Value.ownBlock, Option.some.injEq] at e'
          omega)
        have hC5 : ∀ j, j < s.size → w5.cell? ⟨w2.heap.size, j, none⟩ = some (.int .u8 (48 + (bt j : Int))) := fun j hj => hg5.cell (hCA j hj) (fun h => hl h.symm)
        have hS5 : w2.heap.size < w5.heap.size := by have := hg5.size; omega
        refine ⟨⟨k + 1, m + 1, m, _, by omega, rfl, HPK.out.trans hps, HO5, hO.grow hat hd10, rfl, by omega, by omega, hl5, hB5, hS5, hC5⟩, by simp [intOf]; omega⟩
      · have e0 : ((kd ys at' d : Int) == 0) = false := beq_eq_false_iff_ne.mpr (by omega)
        have e0' : (kd ys at' d == 0) = false := beq_eq_false_iff_ne.mpr hk0
        have HK := Lib.hid hk0
        clear hk0
        go_wp2_with fail
        refine ⟨⟨k + 1, m, kd ys at' d, ys, by omega, rfl, HPK.out.trans (by unfold pstep; rw [if_neg HK.out]), ho, hO, rfl, hkd1, by omega, hl, hB, hS, hC⟩, by simp [intOf]; omega⟩
    · have hlt' : decide ((k : Int) < (s.size : Int)) = false := decide_eq_false (by omega)
      obtain ⟨g', c', rfl, hg1, hg2, hg3, hg4⟩ := own_nodes ho hO.pos
      have hks : k = s.size := by omega
      have hall : (dgs s).take k = dgs s := List.take_of_length_le (by simp [dgs, hks])
      rw [hall] at hp
      have hput : putT xs (dgs s) v = ys.set (at' * 11 + 10) v := by unfold putT; rw [hp]
      have hYr : wr.cell? ⟨w.heap.size + 1, 0, none⟩ = some (.slice none 0 0) := (hB.cell (p := ⟨w.heap.size + 1, 0, none⟩) (by show w.heap.size + 1 < _; omega)).trans hY1
      have hYrf : wr.frozen? ⟨w.heap.size + 1, 0, none⟩ = false := (hB.frozen (p := ⟨w.heap.size + 1, 0, none⟩) (by show w.heap.size + 1 < _; omega)).trans hY1f
      have HBr : Below w.heap.size w wr := HB1.trans (hB.mono (by omega))
      · have hm4 : ¬ 4096 < m := by omega
        have d4 : decide (4096 < (m : Int)) = false := decide_eq_false (by omega)
        have d4' : decide (4096 < m) = false := decide_eq_false hm4
        have hvl : at' * 11 + 10 < ys.length := by rw [hO.len]; omega
        have hvc : wr.cell? ⟨g', at' * 11 + 10, none⟩ = some (.int .i64 ys[at' * 11 + 10]) := hg4 _ _ (List.getElem?_eq_getElem hvl)
        have hvf := ho.frozenAt (at' * 11 + 10)
        have HP := Lib.hid hput
        clear hput hp hks hall
        go_wp2_with fail
        obtain ⟨hst, hgs⟩ := ho.stored (at' * 11 + 10) (.int .i64 v)
        have hset : (iv ys).set (at' * 11 + 10) (.int .i64 v) = iv (putT xs (dgs s) v) := by rw [HP.out]; simp [iv, List.map_set]
        rw [hset] at hst
        have hst2 := ownsRow_setCell_below hst (a := ⟨w.heap.size + 1, 0, none⟩) (by show w.heap.size + 1 < _; omega) (.slice (some ⟨g', 0, none⟩) m c')
        have hbs : Below w.heap.size w ((wr.setCell ⟨g', at' * 11 + 10, none⟩ (.int .i64 v)).setCell ⟨w.heap.size + 1, 0, none⟩ (.slice (some ⟨g', 0, none⟩) m c')) := (HBr.setCell (by show w.heap.size ≤ g'; omega) _).setCell (by show w.heap.size ≤ w.heap.size + 1; omega) _
        have hys1 : (wr.setCell ⟨g', at' * 11 + 10, none⟩ (.int .i64 v)).cell? ⟨w.heap.size + 1, 0, none⟩ = some (.slice none 0 0) := hgs.cell hYr (fun h => by injection h with h; have : w.heap.size + 1 = g' := h; omega)
        have hys : ((wr.setCell ⟨g', at' * 11 + 10, none⟩ (.int .i64 v)).setCell ⟨w.heap.size + 1, 0, none⟩ (.slice (some ⟨g', 0, none⟩) m c')).cell? ⟨w.heap.size + 1, 0, none⟩ = some (.slice (some ⟨g', 0, none⟩) m c') := set_same hys1
        generalize (wr.setCell ⟨g', at' * 11 + 10, none⟩ (.int .i64 v)).setCell ⟨w.heap.size + 1, 0, none⟩ (.slice (some ⟨g', 0, none⟩) m c') = w6 at hbs hys hst2 ⊢
        have hOT : OkT (putT xs (dgs s) v) m := by rw [HP.out]; exact hO.value hat v
        refine ⟨rfl, .tuple #[.agg #[.slice (some ⟨g', 0, none⟩) m c'], .int .i64 0], ?res5, hbs, _, m, rfl, own_mono hst2 (by omega), hOT⟩
        case res5 => simp [go_sem, results, Tryd.f8, hys]
end Go.Proofs.YtegblcdnmcnngaaDoor.TB
