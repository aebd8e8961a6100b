/- The law TopBlocks of the given program answers true. -/
import Derived.Test.YtegblcdnmcnngaaDoorTQ
import Derived.Deep.RegionWith
set_option linter.unusedVariables false
set_option linter.unusedSimpArgs false
namespace Go.Proofs.YtegblcdnmcnngaaDoor.TB
open Go.RowKit
theorem info9 : (Tryd.prog.info? 9).map (fun i => (i.zero, i.size, i.bytes)) = some (some (.string ⟨#[]⟩), 1, 16) := by kernel_rfl
/-- the trie of the first k grants -/
def TrieK (W : World) (l : List Gr) (k g n c : Nat) : Prop := ∃ (xs : List Int) (P : Nat → List Nat), Row W g xs ∧ Tree xs n P ∧ (∀ q, q < n → (P q).length ≤ 15) ∧ Vb xs n ∧ n ≤ 1 + 15 * k ∧ n ≤ c ∧ g < W.heap.size ∧ ∀ es, look xs n P es (gval l k es)
theorem put8' {g n c : Nat} {xs : List Int} {P : Nat → List Nat} {s : ByteArray} {v : Int} {wa w : World} (hR : Row wa g xs) (hX : Below wa.heap.size wa w) (hTr : Tree xs n P) (hlen : ∀ k, k < n → (P k).length ≤ 15) (hVb : Vb xs n) (hn : n + 15 ≤ 4096) (hnc : n ≤ c) (hs15 : s.size ≤ 15) (hdig : Digs s) (hv1 : 1 ≤ v) (hv2 : v ≤ 1099511627776) :
    Calls Tryd.prog 8 #[.agg #[.slice (some ⟨g, 0, none⟩) n c], .string s, .int .i64 v] w fun e w' => ∃ (g' m c' : Nat), e = .returned (.tuple #[.agg #[.slice (some ⟨g', 0, none⟩) m c'], .int .i64 0]) ∧ Below w.heap.size w w' ∧ Below wa.heap.size wa w' ∧
      Row w' g' (putT xs (dgs s) v) ∧ OkT (putT xs (dgs s) v) m ∧ m ≤ c' ∧ w.heap.size ≤ g' ∧ g' < w'.heap.size := by
  refine (put8 (hR.below hX) hTr hlen hVb hn hnc hs15 hdig hv1 hv2).mono ?_
  rintro e w' ⟨hB, u, m, rfl, hown, hO⟩
  obtain ⟨g', c', rfl, hg1, hg2, hg3, hg4⟩ := own_nodes hown hO.pos
  exact ⟨g', m, c', rfl, hB, hX.trans (hB.mono hX.size), hg4, hO, hg3, hg1, hg2⟩
theorem alloc_kept {wa w5 : World} {n : Nat} (hb : Below ((wa.alloc (.cells #[.slice none 0 0] 35)).drew).heap.size (wa.alloc (.cells #[.slice none 0 0] 35)).drew w5) (hn : wa.heap.size = n) :
    w5.cell? ⟨n, 0, none⟩ = some (.slice none 0 0) ∧ w5.frozen? ⟨n, 0, none⟩ = false := by
  subst hn
  have hs : wa.heap.size < ((wa.alloc (.cells #[.slice none 0 0] 35)).drew).heap.size := by simp [go_sem]
  exact ⟨(hb.cell (p := ⟨wa.heap.size, 0, none⟩) hs).trans (by simp [go_sem]), (hb.frozen (p := ⟨wa.heap.size, 0, none⟩) hs).trans (by simp [go_sem])⟩
/-- the prefixes of the first k grants -/
def strs (l : List Gr) (k : Nat) : List Value := (l.take k).map fun r => .string r.p
theorem strs_succ {l : List Gr} {k : Nat} {r : Gr} (h : l[k]? = some r) : strs l (k + 1) = strs l k ++ [.string r.p] := by
  unfold strs
  rw [List.take_add_one, h]
  simp
theorem TrieK.below {W W' : World} {l : List Gr} {k g n c : Nat} (h : TrieK W l k g n c) (hB : Below W.heap.size W W') : TrieK W' l k g n c := by
  obtain ⟨xs, P, h1, h2, h3, h4, h5, h6, h7, h8⟩ := h
  exact ⟨xs, P, h1.below hB, h2, h3, h4, h5, h6, by have := hB.size; omega, h8⟩
theorem TrieK.set {W : World} {l : List Gr} {k g n c b : Nat} {v : Value} (h : TrieK W l k g n c) (hb : b ≠ g) : TrieK (W.setCell ⟨b, 0, none⟩ v) l k g n c := by
  obtain ⟨xs, P, h1, h2, h3, h4, h5, h6, h7, h8⟩ := h
  refine ⟨xs, P, fun j x hx => ?_, h2, h3, h4, h5, h6, by rw [World.size_setCell]; exact h7, h8⟩
  rw [World.cell?_setCell_other _ _ _ _ (by intro h; injection h with h; exact hb h)]
  exact h1 j x hx
theorem TrieK.kept {W W' : World} {l : List Gr} {k g n c : Nat} {row : Option Nat} (h : TrieK W l k g n c) (hg : W.grownBy W' row) (hr : some g ≠ row) : TrieK W' l k g n c := by
  obtain ⟨xs, P, h1, h2, h3, h4, h5, h6, h7, h8⟩ := h
  exact ⟨xs, P, fun j x hx => hg.cell (h1 j x hx) hr, h2, h3, h4, h5, h6, by have := hg.size; omega, h8⟩
theorem TrieK.put {W' : World} {l : List Gr} {k n g' m c' : Nat} {r : Gr} {xs : List Int} {P : Nat → List Nat} (hr : l[k]? = some r) (hT : Tree xs n P) (hlen : ∀ q, q < n → (P q).length ≤ 15) (hV : Vb xs n) (hn : n ≤ 1 + 15 * k) (hf : ∀ es, look xs n P es (gval l k es))
    (hd : Digs r.p) (hs : r.p.size ≤ 14) (hc0 : 0 ≤ r.c) (hc1 : r.c < 8) (hrow : Row W' g' (putT xs (dgs r.p) (r.c + 1))) (hO : OkT (putT xs (dgs r.p) (r.c + 1)) m) (hmc : m ≤ c') (hg : g' < W'.heap.size) : TrieK W' l (k + 1) g' m c' := by
  obtain ⟨m', P', hT', hlen', hV', _, hm', hf'⟩ := put_good hT hlen hV (dgs r.p) (dgs_lt hd) (by rw [dgs_len]; omega) (r.c + 1) (by omega) (by omega)
  obtain rfl := hT'.ok.uniq hO
  rw [dgs_len] at hm'
  refine ⟨_, P', hrow, hT', hlen', hV', by omega, hmc, hg, fun es => ?_⟩
  have := hf' es _ (hf es)
  rw [gval, hr]
  exact this
/-- what holds between two rounds -/
structure LR (w : World) (l : List Gr) (tb k : Nat) (b : Value) (W : World) : Prop where
  bel : Below w.heap.size w W
  siz : tb + 2 ≤ W.heap.size
  thaw : W.frozen? ⟨tb, 0, none⟩ = false
  own : W.ownsRow (tb + 1) 9 1 b k (strs l k)
  tri : ∃ g n c, W.cell? ⟨tb, 0, none⟩ = some (.slice (some ⟨g, 0, none⟩) n c) ∧ TrieK W l k g n c ∧ g ≠ tb ∧ b.ownBlock ≠ some g
theorem LR.next {w X Y : World} {l : List Gr} {tb k g n c : Nat} {b v : Value} {r : Gr} (hr : l[k]? = some r) (htw : w.heap.size ≤ tb) (hB : Below w.heap.size w X) (hS : tb + 2 ≤ X.heap.size) (hF : X.frozen? ⟨tb, 0, none⟩ = false) (hown : X.ownsRow (tb + 1) 9 1 b k (strs l k))
    (hc : X.cell? ⟨tb, 0, none⟩ = some (.slice (some ⟨g, 0, none⟩) n c)) (hT : TrieK X l (k + 1) g n c) (hgt : g ≠ tb) (hgb : b.ownBlock ≠ some g)
    (ho : Y.ownsRow (tb + 1) 9 1 v (k + 1) (strs l k ++ [.string r.p])) (hg : (X.alloc (.cells #[.string r.p] 9)).grownBy Y b.ownBlock) (hat : v.ownBlock = b.ownBlock ∨ v.ownBlock = some (X.alloc (.cells #[.string r.p] 9)).heap.size) : LR w l tb (k + 1) v Y := by
  have hAl : Below X.heap.size X (X.alloc (.cells #[.string r.p] 9)) := (Below.refl _ _).alloc (Nat.le_refl _) _
  have hbt : ∀ q, b.ownBlock = some q → tb + 1 ≤ q := fun q e => (hown.lt q e).1
  have hgl : g < X.heap.size := by obtain ⟨_, _, _, _, _, _, _, _, h, _⟩ := hT; exact h
  refine ⟨(hB.trans (hAl.mono hB.size)).grown hg ?_ (fun q e => by have := hbt q e; omega), by have := hg.size; rw [World.size_alloc] at this; omega, ?_, by rw [strs_succ hr]; exact ho, g, n, c, ?_, ?_, hgt, ?_⟩
  · have := hB.size; rw [World.size_alloc]; omega
  · have hk : Y.frozen? ⟨tb, 0, none⟩ = (X.alloc (.cells #[.string r.p] 9)).frozen? ⟨tb, 0, none⟩ := World.frozen?_of_block (hg.block tb (by rw [World.size_alloc]; omega) (fun e => by have := hbt tb e.symm; omega))
    rw [hk]
    exact (hAl.frozen (p := ⟨tb, 0, none⟩) (by show tb < _; omega)).trans hF
  · exact hg.cell ((hAl.cell (p := ⟨tb, 0, none⟩) (by show tb < _; omega)).trans hc) (fun e => by have := hbt tb e.symm; omega)
  · exact (hT.below hAl).kept hg (fun e => hgb e.symm)
  · rcases hat with h | h
    · rw [h]; exact hgb
    · rw [h, World.size_alloc]
      intro e
      injection e with e
      omega
/-- what holds ahead of the append -/
structure XF (w X : World) (l : List Gr) (tb k g n c : Nat) (b : Value) : Prop where
  bel : Below w.heap.size w X
  siz : tb + 2 ≤ X.heap.size
  thaw : X.frozen? ⟨tb, 0, none⟩ = false
  own : X.ownsRow (tb + 1) 9 1 b k (strs l k)
  cell : X.cell? ⟨tb, 0, none⟩ = some (.slice (some ⟨g, 0, none⟩) n c)
  tri : TrieK X l (k + 1) g n c
  gt : g ≠ tb
  gb : b.ownBlock ≠ some g
theorem XF.store {w X : World} {l : List Gr} {tb k g n c : Nat} {b y : Value} (htw : w.heap.size ≤ tb) (hB : Below w.heap.size w X) (hS : tb + 2 ≤ X.heap.size) (hF : X.frozen? ⟨tb, 0, none⟩ = false) (hown : X.ownsRow (tb + 1) 9 1 b k (strs l k))
    (hc : X.cell? ⟨tb, 0, none⟩ = some y) (hT : TrieK X l (k + 1) g n c) (hgt : g ≠ tb) (hgb : b.ownBlock ≠ some g) : XF w (X.setCell ⟨tb, 0, none⟩ (.slice (some ⟨g, 0, none⟩) n c)) l tb k g n c b :=
  ⟨hB.setCell htw _, by rw [World.size_setCell]; exact hS, by rw [World.frozen?_setCell]; exact hF, ownsRow_setCell_below hown (a := ⟨tb, 0, none⟩) (by show tb < tb + 1; omega) _, set_same hc, hT.set (fun e => hgt e.symm), hgt, hgb⟩
theorem XF.alloc {w X : World} {l : List Gr} {tb k g n c : Nat} {b : Value} (h : XF w X l tb k g n c b) (o : Obj) : XF w (X.alloc o) l tb k g n c b := by
  have hA : Below X.heap.size X (X.alloc o) := (Below.refl _ _).alloc (Nat.le_refl _) _
  have hs := h.siz
  exact ⟨h.bel.trans (hA.mono h.bel.size), by rw [World.size_alloc]; omega, (hA.frozen (p := ⟨tb, 0, none⟩) (by show tb < _; omega)).trans h.thaw, h.own.alloc _, (hA.cell (p := ⟨tb, 0, none⟩) (by show tb < _; omega)).trans h.cell, h.tri.below hA, h.gt, h.gb⟩
theorem XF.next {w X Y : World} {l : List Gr} {tb k g n c : Nat} {b v : Value} {r : Gr} (h : XF w X l tb k g n c b) (hr : l[k]? = some r) (htw : w.heap.size ≤ tb)
    (ho : Y.ownsRow (tb + 1) 9 1 v (k + 1) (strs l k ++ [.string r.p])) (hg : (X.alloc (.cells #[.string r.p] 9)).grownBy Y b.ownBlock) (hat : v.ownBlock = b.ownBlock ∨ v.ownBlock = some (X.alloc (.cells #[.string r.p] 9)).heap.size) : LR w l tb (k + 1) v Y :=
  LR.next hr htw h.bel h.siz h.thaw h.own h.cell h.tri h.gt h.gb ho hg hat
theorem lit_cells (X : World) (p : ByteArray) (q : Nat) (hq : X.heap.size = q) : ∀ j u, [Value.string p][j]? = some u → (X.alloc (.cells #[.string p] 9)).cell? ((⟨q, 0, none⟩ : Addr).add j) = some u := by
  subst hq
  intro j u hu
  rw [addz]
  cases j with
  | zero => simp at hu; subst hu; simp [go_sem]
  | succ j => simp at hu
theorem own_setBox {W : World} {base n k : Nat} {b v : Value} {vs : List Value} (h : W.ownsRow base 9 1 b k vs) (hn : ∀ q, b.ownBlock = some q → q ≠ n) : (W.setCell ⟨n, 0, none⟩ v).ownsRow base 9 1 b k vs :=
  h.kept (grownBy_setCell' W n v) (by cases hb : b.ownBlock with
    | none => exact .inl rfl
    | some q => exact .inr (fun e => by injection e with e; exact hn q hb e))
set_option maxHeartbeats 1000000 in
theorem matches10n (n : Nat) (s : ByteArray) (w : World) :
    Calls Tryd.prog 10 #[.slice none 0 n, .string s] w fun e w' => e = .returned (.bool false) ∧ Below w.heap.size w w' := by
  have hB0 : Below w.heap.size w (w.alloc (.cells #[.string s] 9)) := (Below.refl _ _).alloc (Nat.le_refl _) _
  have hC := AnyE.slices_ContainsFunc_empty Tryd.lH8 none n (.func (.func 21) #[] #[.pointer (some ⟨w.heap.size, 0, none⟩)]) (w.alloc (.cells #[.string s] 9))
  change Calls Tryd.prog 20 _ _ _ at hC
  have hmf : ∀ (fn : Fn) (first cap : Array Value) (w : World), (Instr.makeFunc fn first cap).run Tryd.prog w = .ok (.func fn first cap) w := fun _ _ _ _ => rfl
  go_enter Tryd.func10, Tryd.ntmps10
  go_wp2_with (go_at_call 20; refine hC.mono ?_; rintro e w' ⟨rfl, rfl⟩)
  go_ret
  exact ⟨rfl, hB0⟩
theorem matches_own {W : World} {base : Nat} {v : Value} {l : List Gr} {s : ByteArray} (h : W.ownsRow base 9 1 v l.length (strs l l.length)) (hl : l.length ≤ 100) :
    Calls Tryd.prog 10 #[v, .string s] W fun e w' => e = .returned (.bool ((l.map (·.p)).any fun p => Lib.hasPrefix s.data.toList p.data.toList)) ∧ Below W.heap.size W w' := by
  have h0 := h
  rcases h.2 with ⟨rfl, hz⟩ | ⟨g, c, cur, rfl, hb, hh, hnc, hcm, hcs, htk⟩
  · have hl0 : l = [] := List.length_eq_zero_iff.1 hz
    subst hl0
    exact matches10n 0 s W
  · refine matches10 g l.length c (l.map (·.p)) s W (by simp) (by omega) (fun j hj => ?_)
    simp only [List.length_map] at hj
    rw [h0.cellAt j (by omega)]
    unfold strs
    rw [List.take_of_length_le (Nat.le_refl _), List.getElem?_map, List.getElem?_eq_getElem hj]
    simp [hj]
set_option maxRecDepth 100000 in
set_option maxHeartbeats 16000000 in
theorem law3 {a : Option Addr} {c : Nat} {l : List Gr} {s : ByteArray} {w : World} (u : Int) (hu0 : 0 ≤ u) (hu1 : u ≤ 255) (hR : Grants w a l) (hn : l.length ≤ c) (hl : l.length ≤ 9223372036854775807) (hs : s.size ≤ 140737488355328) :
    Calls Tryd.prog 3 #[.slice a l.length c, .int .u8 u, .string s] w fun e w' => e = .returned (.bool true) ∧ Below w.heap.size w w' := by
  by_cases h64 : 64 < l.length
  · have g1 : decide (64 < (l.length : Int)) = true := decide_eq_true (by omega)
    have g1' : decide (64 < l.length) = true := decide_eq_true h64
    go_enter Tryd.func3, Tryd.ntmps3
    go_wp2_with fail
    all_goals go_ret
    all_goals exact ⟨rfl, Below.refl _ _⟩
  have g1 : decide (64 < (l.length : Int)) = false := decide_eq_false (by omega)
  have g1' : decide (64 < l.length) = false := decide_eq_false h64
  by_cases h40 : 40 < s.size
  · have g2 : decide (40 < (s.size : Int)) = true := decide_eq_true (by omega)
    have g2' : decide (40 < s.size) = true := decide_eq_true h40
    go_enter Tryd.func3, Tryd.ntmps3
    go_wp2_with fail
    all_goals go_ret
    all_goals exact ⟨rfl, Below.refl _ _⟩
  have g2 : decide (40 < (s.size : Int)) = false := decide_eq_false (by omega)
  have g2' : decide (40 < s.size) = false := decide_eq_false h40
  obtain ⟨nk, hnk⟩ : ∃ nk : Nat, 1 + u % 8 = (nk : Int) := ⟨(1 + u % 8).toNat, by omega⟩
  have hnk8 : nk ≤ 8 := by omega
  have hw1 : IntKind.i64.wrap u = u := by rw [IntKind.wrap_i64]; omega
  have hw2 : IntKind.i64.wrap (u.tmod 8) = u % 8 := by rw [Int.tmod_eq_emod_of_nonneg hu0, IntKind.wrap_i64]; omega
  have hw3 : IntKind.i64.wrap (1 + u % 8) = (nk : Int) := by rw [hnk, IntKind.wrap_i64]; omega
  have hmk := made50 w nk (by omega)
  have hKz := made50_cell w nk
  have kB : Below w.heap.size w (w.alloc (.cells (madeCells zd.cells (nk * 32)) 50)) := (Below.refl _ _).alloc (Nat.le_refl _) _
  have kS : (w.alloc (.cells (madeCells zd.cells (nk * 32)) 50)).heap.size = w.heap.size + 1 := by simp
  obtain ⟨wk, hwk⟩ : ∃ W, w.alloc (.cells (madeCells zd.cells (nk * 32)) 50) = W := ⟨_, rfl⟩
  rw [hwk] at hmk hKz kB kS
  clear hwk
  have hV := valid6 s
  obtain ⟨vb, hvb⟩ : ∃ b, validS s = b := ⟨_, rfl⟩
  rw [hvb] at hV
  have HVB := Lib.hid hvb
  clear hvb
  have HNK := Lib.hid hnk
  go_enter Tryd.func3, Tryd.ntmps3
  go_wp2_with fail
  refine (new4 (hR.below kB) hn hl hKz hnk8 (Nat.le_refl _)).mono ?_
  rintro e w1 ⟨hb1, hnew⟩
  have B1 := kB.trans (hb1.mono (by omega))
  have hS1 : w.heap.size + 1 ≤ w1.heap.size := by have := hb1.size; omega
  clear hmk hKz hw1 hw2 hw3
  rcases hnew with ⟨r, rfl, hr⟩ | ⟨ag, cg, ak, ck, rfl, _, hcg, hGr, hGood⟩
  · have e0 : (r != 0) = true := bne_iff_ne.mpr hr
    have e0' : (r == 0) = false := beq_eq_false_iff_ne.mpr hr
    have HR := Lib.hid hr
    clear hr
    go_wp2_with fail
    all_goals go_ret
    all_goals exact ⟨rfl, by first | exact B1 | exact B1.alloc B1.size _⟩
  have rB : Below w1.heap.size w1 (w1.alloc (.cells #[.slice ag l.length cg, .slice ak nk ck, .slice none 0 0] 26)) := (Below.refl _ _).alloc (Nat.le_refl _) _
  have B2 := B1.trans (rB.mono B1.size)
  have r0 : (w1.alloc (.cells #[.slice ag l.length cg, .slice ak nk ck, .slice none 0 0] 26)).cell? ⟨w1.heap.size, 0, none⟩ = some (.slice ag l.length cg) := by simp [go_sem]
  have r1 : (w1.alloc (.cells #[.slice ag l.length cg, .slice ak nk ck, .slice none 0 0] 26)).cell? ⟨w1.heap.size, 1, none⟩ = some (.slice ak nk ck) := by simp [go_sem]
  have r2 : (w1.alloc (.cells #[.slice ag l.length cg, .slice ak nk ck, .slice none 0 0] 26)).cell? ⟨w1.heap.size, 2, none⟩ = some (.slice none 0 0) := by simp [go_sem]
  have hGr2 := hGr.below rB
  have HG := Lib.hid hGood
  clear hGood
  obtain ⟨hv, hhv⟩ : ∃ q, holdV l s = q := ⟨_, rfl⟩
  have hH := holder5 (ak := ak) (nk := nk) (ck := ck) (s := s) hGr2 hcg (by omega) (by omega)
  rw [hhv] at hH
  have HH := Lib.hid hhv
  clear hhv
  go_wp2_with fail
  refine hH.mono ?_
  rintro e w3 ⟨rfl, hb3⟩
  have B3 := B2.trans (hb3.mono B2.size)
  clear hH r0 r1 r2
  obtain ⟨h1, h2⟩ := hv
  go_wp2_with fail
  refine (hV _).mono ?_
  rintro e w4 ⟨rfl, hb4⟩
  have B4 := B3.trans (hb4.mono B3.size)
  clear hV
  rcases vb with _ | _
  · have hhz : (h1, h2) = ((0 : Int), (60 : Int)) := by
      rw [← HH.out, holdV, if_neg (by rw [HVB.out]; decide)]
    simp only [Prod.mk.injEq] at hhz
    obtain ⟨rfl, rfl⟩ := hhz
    go_wp2_with fail
    all_goals go_ret
    all_goals exact ⟨rfl, B4⟩
  go_wp2_with fail
  refine (new7 w4).mono ?_
  rintro e w5 ⟨v5, rfl, hown5, hb5⟩
  have B5 := B4.trans (hb5.mono B4.size)
  obtain ⟨g0, c0, rfl, hg0a, hg0, hc0, hrow0⟩ := own_nodes hown5 (by omega)
  go_wp2_with fail
  obtain ⟨tb, htb⟩ : ∃ q, w5.heap.size = q := ⟨_, rfl⟩
  have htw : w.heap.size ≤ tb := by have := B5.size; omega
  obtain ⟨i9, hi9, hz9⟩ := Option.map_eq_some_iff.1 info9
  simp only [Prod.mk.injEq] at hz9
  obtain ⟨hz0, hz1, hz2⟩ := hz9
  have L0 : LR w l tb 0 (.slice (some ⟨tb + 1, 0, none⟩) 0 0) ((w5.alloc (.cells #[.slice (some ⟨g0, 0, none⟩) 1 c0] 35)).alloc (.cells #[] 9)) := by
    subst htb
    have hA1 : Below w5.heap.size w5 (w5.alloc (.cells #[.slice (some ⟨g0, 0, none⟩) 1 c0] 35)) := (Below.refl _ _).alloc (Nat.le_refl _) _
    have hA2 : Below w5.heap.size w5 ((w5.alloc (.cells #[.slice (some ⟨g0, 0, none⟩) 1 c0] 35)).alloc (.cells #[] 9)) := hA1.alloc (by simp) _
    refine ⟨B5.trans (hA2.mono B5.size), by simp, by simp [go_sem], ?_, g0, 1, c0, by simp [go_sem], ?_, by omega, ?_⟩
    · refine ⟨rfl, .inr ⟨w5.heap.size + 1, 0, #[], rfl, Nat.le_refl _, ?_, Nat.le_refl _, by decide, rfl, rfl⟩⟩
      have := heap_alloc_new (w5.alloc (.cells #[.slice (some ⟨g0, 0, none⟩) 1 c0] 35)) (.cells #[] 9)
      rwa [World.size_alloc] at this
    · refine ⟨zeros 11, fun _ => [], hrow0.below hA2, tree_new, fun q hq => by simp, fun i hi => ?_, by omega, hc0, by simp; omega, fun es => ?_⟩
      · have : valOf (zeros 11) i = 0 := by unfold valOf; rw [zeros_at 11 _ (by omega)]; rfl
        omega
      · by_cases he : es = []
        · subst he
          exact .inl ⟨0, by omega, rfl, by unfold valOf; rw [zeros_at 11 _ (by omega)]; rfl⟩
        · exact .inr ⟨fun b hb h => he h.symm, rfl⟩
    · intro e
      have e' : (some (w5.heap.size + 1) : Option Nat) = some g0 := e
      injection e' with e'
      omega
  rw [htb]
  generalize (w5.alloc (.cells #[.slice (some ⟨g0, 0, none⟩) 1 c0] 35)).alloc (.cells #[] 9) = w6 at L0 ⊢
  clear htb hrow0 hown5
  go_loopw [14, 13] (fun i b W => ∃ k : Nat, k ≤ l.length ∧ i = .int .i64 (k : Int) ∧ LR w l tb k b W) (fun i _ _ => l.length - (intOf i).toNat)
  case atStart => exact ⟨0, by omega, rfl, L0⟩
  case round =>
    obtain ⟨k, hk, rfl, hLR⟩ := hrel
    have HLR := Lib.hid hLR
    obtain ⟨hB, hS, hF, hown, g, n, c', hc, hTK, hgt, hgb⟩ := hLR
    by_cases hlt : k < l.length
    · have hlt' : decide ((k : Int) < (l.length : Int)) = true := decide_eq_true (by omega)
      have hkb : (k : Int) < (l.length : Int) := by omega
      obtain ⟨r, hr⟩ : ∃ r, l[k]? = some r := ⟨_, List.getElem?_eq_getElem hlt⟩
      obtain ⟨x, rfl, hra⟩ := (hR.below hB) k r hr
      obtain ⟨a0, a1, hsz⟩ := hra
      obtain ⟨xs, P, hrow, hT, hlen, hVb, hn15, hnc, hgl, hf⟩ := hTK
      obtain ⟨v1, v2, v3, v4⟩ := HG.out.one k r hlt hr
      obtain ⟨hdig, h14⟩ := digs_of_cat v1
      have hwr : IntKind.i64.wrap (r.c + 1) = r.c + 1 := by rw [IntKind.wrap_i64]; omega
      have hall : Below wr.heap.size wr (wr.alloc (.cells #[.slice none 0 0] 35)) := (Below.refl _ _).alloc (Nat.le_refl _) _
      have p0 := (hall.cell (World.block_lt_of_cell? _ _ a0)).trans a0
      have p1 := (hall.cell (World.block_lt_of_cell? _ _ a1)).trans a1
      have pc := (hall.cell (World.block_lt_of_cell? _ _ hc)).trans hc
      have hD := Lib.hid hdig
      clear hdig v1
      go_wp2_with fail
      go_region_with (go_at_call 8; refine (put8' hrow (by first | exact (Below.refl _ _).drew | exact ((Below.refl _ _).drew.alloc (by simp) _) | exact ((Below.refl _ _).alloc (Nat.le_refl _) _).drew) hT hlen hVb (by omega) hnc (by omega) hD.out (by omega) (by omega)).mono ?_; rintro e w7 ⟨g', m, c7, rfl, hb7, hbw, hrow7, hO7, hmc7, hg7, hg7'⟩; try (have q8 := (alloc_kept hb7 rfl).1; have q9 := (alloc_kept hb7 rfl).2))
      all_goals (
        simp only [World.size_drew, World.size_alloc] at hg7
        have B7 : Below w.heap.size w w7 := hB.trans (hbw.mono hB.size)
        have S7 : tb + 2 ≤ w7.heap.size := by have := hbw.size; omega
        have F7 := (hbw.frozen (World.block_lt_of_cell? _ _ hc)).trans hF
        have p7 := (hbw.cell (World.block_lt_of_cell? _ _ hc)).trans hc
        have a7 := (hbw.cell (World.block_lt_of_cell? _ _ a0)).trans a0
        have HLT := hown.lt
        have own7 : w7.ownsRow (tb + 1) 9 1 u13 k (strs l k) := hown.kept (row := none) ⟨hbw.os, hbw.tape, hbw.output, hbw.size, fun i hi _ => hbw.block i hi⟩ (by cases u13.ownBlock <;> simp)
        have T7 : TrieK w7 l (k + 1) g' m c7 := TrieK.put hr hT hlen hVb hn15 hf hD.out h14 v3 (by omega) hrow7 hO7 hmc7 hg7'
        have gt7 : g' ≠ tb := by omega
        have gb7 : u13.ownBlock ≠ some g' := fun e => by have := (HLT g' e).2; omega
        have htr : tb < wr.heap.size := by omega
        have ht7 : tb < w7.heap.size := by omega
        have hne : tb ≠ wr.heap.size := by omega
        have hx7 : (x.add (k * 2)).block < w7.heap.size := World.block_lt_of_cell? _ _ a7
        first
        | (have q8' := q8
           have XB := XF.store (y := .slice (some ⟨g, 0, none⟩) n c') htw (B7.setCell (p := ⟨wr.heap.size, 0, none⟩) (by show w.heap.size ≤ wr.heap.size; exact hB.size) (.slice (some ⟨g', 0, none⟩) m c7)) (by rw [World.size_setCell]; exact S7) (by rw [World.frozen?_setCell]; exact F7) (own_setBox own7 (fun q e => by have := (HLT q e).2; omega)) (by rw [World.cell?_setCell_other _ _ _ _ (by intro h; injection h with h; omega)]; exact p7) (T7.set (by omega)) gt7 gb7
           have ownB := XB.own.alloc (.cells #[.string r.p] 9)
           have litB := lit_cells _ r.p w7.heap.size (show ((w7.setCell ⟨wr.heap.size, 0, none⟩ (.slice (some ⟨g', 0, none⟩) m c7)).setCell ⟨tb, 0, none⟩ (.slice (some ⟨g', 0, none⟩) m c7)).heap.size = w7.heap.size by rw [World.size_setCell, World.size_setCell])
           have aB := (World.cell?_setCell_other w7 ⟨wr.heap.size, 0, none⟩ (x.add (k * 2)) (.slice (some ⟨g', 0, none⟩) m c7) (by intro h; have h1 := congrArg Addr.block h; have h2 := World.block_lt_of_cell? _ _ a0; rw [← h1] at h2; exact Nat.lt_irrefl _ h2)).trans a7
           have aB2 := (World.cell?_setCell_other (w7.setCell ⟨wr.heap.size, 0, none⟩ (.slice (some ⟨g', 0, none⟩) m c7)) ⟨tb, 0, none⟩ (x.add (k * 2)) (.slice (some ⟨g', 0, none⟩) m c7) (by intro h; rw [← h, p7] at a7; cases a7)).trans aB
           have HX := Lib.hid XB
           have HO := Lib.hid ownB
           have HL := Lib.hid litB
           clear XB ownB litB own7 T7 hrow7 hO7 hrow hT hlen hVb hf hown
           go_wp2_with (first | (at_builtin; refine wpList_append_own_at _ rfl (.tmp 83) (.tmp 89) 37 rfl (tb + 1) 9 i9 _ 1 16 Tryd.underlying37 hi9 hz0 hz1 hz2 rfl (by decide) _ k (strs l k) rfl HO.out ⟨w7.heap.size, 0, none⟩ 1 1 [.string r.p] rfl rfl HL.out (fun u hu => by simp at hu; subst hu; rfl) (by simp only [maxLen]; omega) (by omega) (by simp; omega) ?_; intro v' w10 ho10 hg10 _ hat10))
           exact ⟨⟨k + 1, by omega, rfl, HX.out.next hr htw ho10 hg10 hat10⟩, by simp [intOf]; omega⟩)
        | (have XA := (XF.store (y := .slice (some ⟨g, 0, none⟩) n c') htw B7 S7 F7 own7 p7 T7 gt7 gb7).alloc (.cells #[.slice (some ⟨g', 0, none⟩) m c7] 35)
           have ownA := XA.own.alloc (.cells #[.string r.p] 9)
           have litA := lit_cells _ r.p (w7.heap.size + 1) (show ((w7.setCell ⟨tb, 0, none⟩ (.slice (some ⟨g', 0, none⟩) m c7)).alloc (.cells #[.slice (some ⟨g', 0, none⟩) m c7] 35)).heap.size = w7.heap.size + 1 by rw [World.size_alloc, World.size_setCell])
           have aA := (World.cell?_setCell_other w7 ⟨tb, 0, none⟩ (x.add (k * 2)) (.slice (some ⟨g', 0, none⟩) m c7) (by intro h; rw [← h, p7] at a7; cases a7)).trans a7
           have aA2 := ((Below.cell (w := w7.setCell ⟨tb, 0, none⟩ (.slice (some ⟨g', 0, none⟩) m c7)) (p := x.add (k * 2)) ((Below.refl _ _).alloc (Nat.le_refl _) (.cells #[.slice (some ⟨g', 0, none⟩) m c7] 35)) (by rw [World.size_setCell]; exact hx7))).trans aA
           have HX := Lib.hid XA
           have HO := Lib.hid ownA
           have HL := Lib.hid litA
           clear XA ownA litA own7 T7 hrow7 hO7 hrow hT hlen hVb hf hown
           go_wp2_with (first | (at_builtin; refine wpList_append_own_at _ rfl (.tmp 83) (.tmp 89) 37 rfl (tb + 1) 9 i9 _ 1 16 Tryd.underlying37 hi9 hz0 hz1 hz2 rfl (by decide) _ k (strs l k) rfl HO.out ⟨w7.heap.size + 1, 0, none⟩ 1 1 [.string r.p] rfl rfl HL.out (fun u hu => by simp at hu; subst hu; rfl) (by simp only [maxLen]; omega) (by omega) (by simp; omega) ?_; intro v' w10 ho10 hg10 _ hat10))
           exact ⟨⟨k + 1, by omega, rfl, HX.out.next hr htw ho10 hg10 hat10⟩, by simp [intOf]; omega⟩))
    · have hlt' : decide ((k : Int) < (l.length : Int)) = false := decide_eq_false (by omega)
      have hke : k = l.length := by omega
      subst hke
      obtain ⟨xs, P, hrow, hT, hlen, hVb, hn15, hnc, hgl, hf⟩ := hTK
      obtain ⟨hdig, _, h15⟩ := valid_digs HVB.out
      have hTP := top_pure HG.out hdig hT hf
      have hLg := long9 (s := s) hrow hT hlen hVb (by omega) hnc h15 hdig hgl
      obtain ⟨L, hL⟩ : ∃ L, longF xs (pathL xs 0 0 (dgs s)) = L := ⟨_, rfl⟩
      rw [hL] at hTP hLg
      obtain ⟨L1, L2, L3⟩ := L
      obtain ⟨M, hM0⟩ : ∃ M, ((l.map (·.p)).any fun p => Lib.hasPrefix s.data.toList p.data.toList) = M := ⟨_, rfl⟩
      rw [hM0] at hTP
      have HTP := Lib.hid hTP
      clear hTP hL hf hrow hT hlen hVb
      go_wp2_with fail
      refine hLg.mono ?_
      rintro e w7 ⟨hb7, rfl⟩
      have B7 : Below w.heap.size w w7 := hB.trans (hb7.mono hB.size)
      have own7 : w7.ownsRow (tb + 1) 9 1 u13 l.length (strs l l.length) := hown.kept (row := none) ⟨hb7.os, hb7.tape, hb7.output, hb7.size, fun i hi _ => hb7.block i hi⟩ (by cases u13.ownBlock <;> simp)
      have hM := matches_own (s := s) own7 (by omega)
      rw [hM0] at hM
      clear hLg hM0 own7 hown
      rcases HTP.out with ⟨b1, b2, b3⟩ | ⟨b1, b2, b3, b4⟩
      · have hh : (h1, h2) = ((0 : Int), (90 : Int)) := by
          rw [← HH.out, holdV, if_pos HVB.out, if_pos b1]
        simp only [Prod.mk.injEq] at hh
        obtain ⟨rfl, rfl⟩ := hh
        subst b2; subst b3
        clear HTP b1
        go_wp2_with fail
        refine hM.mono ?_
        rintro e w8 ⟨rfl, hb8⟩
        go_wp2_with fail
        all_goals go_ret
        all_goals exact ⟨rfl, B7.trans (hb8.mono B7.size)⟩
      · have hh : (h1, h2) = (((l[(bfold l s l.length).toNat]?.getD default).c : Int), (0 : Int)) := by
          rw [← HH.out, holdV, if_pos HVB.out, if_neg (by omega)]
        have hcb : 0 ≤ h1 ∧ h1 < 8 := by
          simp only [Prod.mk.injEq] at hh
          rcases bfold_spec l s l.length with ⟨h1', _⟩ | ⟨q, hq, h2', _, _⟩
          · omega
          · rw [h2', Int.toNat_natCast] at hh
            have hr : l[q]? = some l[q] := List.getElem?_eq_getElem hq
            have := HG.out.one q _ hq hr
            rw [hr] at hh
            have h3 : h1 = (l[q]).c := hh.1
            omega
        simp only [Prod.mk.injEq] at hh
        rw [← hh.1] at b3
        obtain ⟨_, rfl⟩ := hh
        subst b2; subst b3; subst b4
        have hwr : IntKind.i64.wrap (h1 + 1) = h1 + 1 := by rw [IntKind.wrap_i64]; omega
        have heq : (h1 + 1 == h1 + 1) = true := beq_self_eq_true _
        clear HTP b1
        go_wp2_with fail
        refine hM.mono ?_
        rintro e w8 ⟨rfl, hb8⟩
        go_wp2_with fail
        all_goals go_ret
        all_goals exact ⟨rfl, B7.trans (hb8.mono B7.size)⟩
end Go.Proofs.YtegblcdnmcnngaaDoor.TB
