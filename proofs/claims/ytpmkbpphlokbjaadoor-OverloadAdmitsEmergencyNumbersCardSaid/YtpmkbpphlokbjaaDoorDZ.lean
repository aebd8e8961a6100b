/- dialplan.compile of the given program. -/
import Derived.Test.YtpmkbpphlokbjaaDoorDY
import Derived.Deep.RegionWith
set_option linter.unusedVariables false
set_option linter.unusedSimpArgs false
namespace Go.Proofs.YtpmkbpphlokbjaaDoor.EM
open Go.RowKit
/-- the trie of the first k rules -/
def compT (l : List Rl) : Nat → List Int
  | 0 => zeros 11
  | k + 1 => match l[k]? with
    | some r => putT (compT l k) (dgs r.p) ((k : Int) + 1)
    | none => compT l k
/-- a compiled plan lies at pb -/
structure PlanAt (W : World) (pb : Nat) (a : Option Addr) (c : Nat) (l : List Rl) (xs : List Int) : Prop where
  rules : W.cell? ⟨pb, 0, none⟩ = some (.slice a l.length c)
  trie : ∃ g m ct, W.cell? ⟨pb, 1, none⟩ = some (.slice (some ⟨g, 0, none⟩) m ct) ∧ Row W g xs ∧ OkT xs m ∧ Vals xs m l.length ∧ m ≤ ct ∧ m ≤ 4096
def CompPost (w : World) (a : Option Addr) (c : Nat) (l : List Rl) (e : Ending) (w' : World) : Prop :=
  Below w.heap.size w w' ∧ ((∃ r, e = .returned (.tuple #[.pointer none, .int .i64 r]) ∧ r ≠ 0) ∨
    (∃ pb, e = .returned (.tuple #[.pointer (some ⟨pb, 0, none⟩), .int .i64 0]) ∧ PlanAt w' pb a c l (compT l l.length)))
theorem alloc_kept {wa w5 : World} {n : Nat} (hb : Below ((wa.alloc (.cells #[.slice none 0 0] 56)).drew).heap.size (wa.alloc (.cells #[.slice none 0 0] 56)).drew w5) (hn : wa.heap.size = n) :
    w5.cell? ⟨n, 0, none⟩ = some (.slice none 0 0) ∧ w5.frozen? ⟨n, 0, none⟩ = false := by
  subst hn
  have hs : wa.heap.size < ((wa.alloc (.cells #[.slice none 0 0] 56)).drew).heap.size := by simp [go_sem]
  exact ⟨(hb.cell (p := ⟨wa.heap.size, 0, none⟩) hs).trans (by simp [go_sem]), (hb.frozen (p := ⟨wa.heap.size, 0, none⟩) hs).trans (by simp [go_sem])⟩
/-- Put's answer in one form -/
theorem put19' {g n c : Nat} {xs : List Int} {s : ByteArray} {v : Int} {wa w : World} (hR : Row wa g xs) (hX : Below wa.heap.size wa w) (hT : OkT xs n) (hn : n ≤ 4096) (hnc : n ≤ c) (hs : s.size ≤ 9223372036854775807) :
    Calls Tryd.prog 19 #[.agg #[.slice (some ⟨g, 0, none⟩) n c], .string s, .int .i64 v] w fun e w' => ∃ (au : Option Addr) (nu cu : Nat) (r : Int), e = .returned (.tuple #[.agg #[.slice au nu cu], .int .i64 r]) ∧ Below w.heap.size w w' ∧ Below wa.heap.size wa w' ∧ (r = 0 → ∃ g' m c', Value.slice au nu cu = .slice (some ⟨g', 0, none⟩) m c' ∧ Row w' g' (putT xs (dgs s) v) ∧ OkT (putT xs (dgs s) v) m ∧ m ≤ c' ∧ m ≤ 4096 ∧ (∀ d ∈ dgs s, d < 10) ∧ w.heap.size ≤ g' ∧ g' < w'.heap.size) := by
  refine (put19 (hR.below hX) hT hn hnc hs).mono ?_
  rintro e w' ⟨hB, ⟨r, rfl, hr⟩ | ⟨u, m, rfl, hown, hO, hm, hv, hs15, hd⟩⟩
  · exact ⟨none, 0, 0, r, rfl, hB, hX.trans (hB.mono hX.size), fun h => absurd h hr⟩
  · obtain ⟨g', c', rfl, hg1, hg2, hg3, hg4⟩ := own_nodes hown hO.pos
    exact ⟨_, _, _, 0, rfl, hB, hX.trans (hB.mono hX.size), fun _ => ⟨g', m, c', rfl, hg4, hO, hg3, hm, dgs_lt hd, hg1, hg2⟩⟩
theorem Row.set_other {W : World} {g : Nat} {xs : List Int} {q : Addr} {u : Value} (h : Row W g xs) (hq : q.block ≠ g) : Row (W.setCell q u) g xs :=
  fun j x hx => (World.cell?_of_block (w := W) (a := ⟨g, j, none⟩) (Below.heap_setCell W q u g (fun e => hq e.symm))).trans (h j x hx)
/-- what holds between two rounds of compile -/
def CompRel (w : World) (pb : Nat) (a : Option Addr) (c : Nat) (l : List Rl) (k : Nat) (W : World) : Prop :=
  Below w.heap.size w W ∧ W.frozen? ⟨pb, 1, none⟩ = false ∧ pb < W.heap.size ∧ W.cell? ⟨pb, 0, none⟩ = some (.slice a l.length c) ∧ ∃ g m ct, W.cell? ⟨pb, 1, none⟩ = some (.slice (some ⟨g, 0, none⟩) m ct) ∧ Row W g (compT l k) ∧ OkT (compT l k) m ∧ Vals (compT l k) m l.length ∧ m ≤ ct ∧ m ≤ 4096 ∧ g < W.heap.size ∧ g ≠ pb
theorem CompRel.step {w X : World} {pb : Nat} {a : Option Addr} {c : Nat} {l : List Rl} {k g m ct : Nat} {r : Rl} {y : Value} (hr : l[k]? = some r) (hw : w.heap.size ≤ pb) (hB : Below w.heap.size w X) (hF : X.frozen? ⟨pb, 1, none⟩ = false) (hS : pb < X.heap.size) (h0 : X.cell? ⟨pb, 0, none⟩ = some (.slice a l.length c)) (h1 : X.cell? ⟨pb, 1, none⟩ = some y)
    (hrow : Row X g (putT (compT l k) (dgs r.p) ((k : Int) + 1))) (hO : OkT (putT (compT l k) (dgs r.p) ((k : Int) + 1)) m) (hV : Vals (putT (compT l k) (dgs r.p) ((k : Int) + 1)) m l.length) (hmc : m ≤ ct) (hm4 : m ≤ 4096) (hg : g < X.heap.size) (hgp : g ≠ pb) :
    CompRel w pb a c l (k + 1) (X.setCell ⟨pb, 1, none⟩ (.slice (some ⟨g, 0, none⟩) m ct)) := by
  have hc : compT l (k + 1) = putT (compT l k) (dgs r.p) ((k : Int) + 1) := by rw [compT, hr]
  refine ⟨hB.setCell (by show _ ≤ pb; omega) _, by rw [World.frozen?_setCell]; exact hF, by rw [World.size_setCell]; exact hS, ?_, g, m, ct, set_same h1, ?_, ?_, ?_, hmc, hm4, by rw [World.size_setCell]; exact hg, hgp⟩
  · rw [World.cell?_setCell_other _ _ _ _ (by intro h; injection h with h1 h2; omega)]; exact h0
  · rw [hc]; exact hrow.set_other (fun h => hgp h.symm)
  · rw [hc]; exact hO
  · rw [hc]; exact hV
theorem CompRel.alloc {w W : World} {pb : Nat} {a : Option Addr} {c : Nat} {l : List Rl} {k : Nat} (h : CompRel w pb a c l k W) (o : Obj) : CompRel w pb a c l k (W.alloc o) := by
  obtain ⟨hB, hF, hS, h0, g, m, ct, h1, hrow, hO, hV, hmc, hm4, hg, hgp⟩ := h
  have hb : Below W.heap.size W (W.alloc o) := (Below.refl _ _).alloc (Nat.le_refl _) _
  exact ⟨hB.trans (hb.mono hB.size), (hb.frozen (p := ⟨pb, 1, none⟩) hS).trans hF, by rw [World.size_alloc]; omega, (hb.cell (p := ⟨pb, 0, none⟩) hS).trans h0, g, m, ct, (hb.cell (p := ⟨pb, 1, none⟩) hS).trans h1, hrow.below hb, hO, hV, hmc, hm4, by rw [World.size_alloc]; omega, hgp⟩
theorem CompRel.stepB {w w5 : World} {n : Nat} {u : Value} {pb : Nat} {a : Option Addr} {c : Nat} {l : List Rl} {k g m ct : Nat} {r : Rl} {y : Value} (hn : n ≠ pb) (hng : n ≠ g) (hnw : w.heap.size ≤ n) (hr : l[k]? = some r) (hw : w.heap.size ≤ pb) (hB : Below w.heap.size w w5) (hF : w5.frozen? ⟨pb, 1, none⟩ = false) (hS : pb < w5.heap.size) (h0 : w5.cell? ⟨pb, 0, none⟩ = some (.slice a l.length c)) (h1 : w5.cell? ⟨pb, 1, none⟩ = some y)
    (hrow : Row w5 g (putT (compT l k) (dgs r.p) ((k : Int) + 1))) (hO : OkT (putT (compT l k) (dgs r.p) ((k : Int) + 1)) m) (hV : Vals (putT (compT l k) (dgs r.p) ((k : Int) + 1)) m l.length) (hmc : m ≤ ct) (hm4 : m ≤ 4096) (hg : g < w5.heap.size) (hgp : g ≠ pb) :
    CompRel w pb a c l (k + 1) ((w5.setCell ⟨n, 0, none⟩ u).setCell ⟨pb, 1, none⟩ (.slice (some ⟨g, 0, none⟩) m ct)) :=
  CompRel.step hr hw (hB.setCell hnw _) (by rw [World.frozen?_setCell]; exact hF) (by rw [World.size_setCell]; exact hS) (by rw [World.cell?_setCell_other _ _ _ _ (by intro h; injection h with h; omega)]; exact h0) (by rw [World.cell?_setCell_other _ _ _ _ (by intro h; injection h with h; omega)]; exact h1) (hrow.set_other hng) hO hV hmc hm4 (by rw [World.size_setCell]; exact hg) hgp
set_option maxRecDepth 100000 in
set_option maxHeartbeats 16000000 in
theorem compile11 {a : Option Addr} {c : Nat} {l : List Rl} {w : World} (hR : Rules w a l) (hn : l.length ≤ c) (hl : l.length ≤ 100000) :
    Calls Tryd.prog 11 #[.slice a l.length c] w (CompPost w a c l) := by
  go_enter Tryd.func11, Tryd.ntmps11
  go_wp2_with fail
  refine (check17 hR hn hl).mono ?_
  rintro e w1 ⟨⟨r, rfl⟩, hb1⟩
  by_cases hr0 : r = 0
  case neg =>
    have e0 : (r != 0) = true := bne_iff_ne.mpr hr0
    have e0' : (r == 0) = false := beq_eq_false_iff_ne.mpr hr0
    have HR := Lib.hid hr0
    clear hr0
    go_wp2_with fail
    refine ⟨rfl, .tuple #[.pointer none, .int .i64 r], ?res, hb1, .inl ⟨_, rfl, HR.out⟩⟩
    case res => simp [go_sem, results, Tryd.f11]
  subst hr0
  go_wp2_with fail
  refine (new18 w1).mono ?_
  rintro e w2 ⟨v, rfl, hown, hb2⟩
  obtain ⟨g0, c0, rfl, _, hg0, hc0, hrow0⟩ := own_nodes hown (by omega)
  have HB2 : Below w.heap.size w w2 := hb1.trans (hb2.mono hb1.size)
  have hp0 : (w2.alloc (.cells #[.slice a l.length c, .slice (some ⟨g0, 0, none⟩) 1 c0] 59)).cell? ⟨w2.heap.size, 0, none⟩ = some (.slice a l.length c) := by simp [go_sem]
  have hp1 : (w2.alloc (.cells #[.slice a l.length c, .slice (some ⟨g0, 0, none⟩) 1 c0] 59)).cell? ⟨w2.heap.size, 1, none⟩ = some (.slice (some ⟨g0, 0, none⟩) 1 c0) := by simp [go_sem]
  have hpf : (w2.alloc (.cells #[.slice a l.length c, .slice (some ⟨g0, 0, none⟩) 1 c0] 59)).frozen? ⟨w2.heap.size, 1, none⟩ = false := by simp [go_sem]
  have hpB : Below w2.heap.size w2 (w2.alloc (.cells #[.slice a l.length c, .slice (some ⟨g0, 0, none⟩) 1 c0] 59)) := (Below.refl _ _).alloc (Nat.le_refl _) _
  have hpS : (w2.alloc (.cells #[.slice a l.length c, .slice (some ⟨g0, 0, none⟩) 1 c0] 59)).heap.size = w2.heap.size + 1 := by simp
  obtain ⟨w3, hw3⟩ : ∃ W, w2.alloc (.cells #[.slice a l.length c, .slice (some ⟨g0, 0, none⟩) 1 c0] 59) = W := ⟨_, rfl⟩
  rw [hw3] at hp0 hp1 hpf hpB hpS
  have hrow3 := hrow0.below hpB
  have HB3 : Below w.heap.size w w3 := HB2.trans (hpB.mono HB2.size)
  have hw2s := HB2.size
  obtain ⟨pb, hpb⟩ : ∃ pb, w2.heap.size = pb := ⟨_, rfl⟩
  rw [hpb] at hp0 hp1 hpf hpS
  have hg3 : g0 < pb := by omega
  clear hrow0 hpB hown
  go_wp2_with fail
  go_loopw [21] (fun i W => ∃ k : Nat, k ≤ l.length ∧ i = .int .i64 (k : Int) ∧ CompRel w pb a c l k W) (fun i _ => l.length - (intOf i).toNat)
  case atStart => exact ⟨0, by omega, rfl, HB3, hpf, by omega, hp0, g0, 1, c0, hp1, hrow3, okT_new, fun i hi => ⟨0, by omega, zeros_at 11 _ (by omega)⟩, hc0, by omega, by omega, by omega⟩
  case round =>
    obtain ⟨k, hk, rfl, hrel'⟩ := hrel
    have HREL := Lib.hid hrel'
    obtain ⟨hB, hF, hS, hq0, g, m, ct, hq1, hrow, hO, hV, hmc, hm4, hgl, hgp⟩ := hrel'
    by_cases hlt : k < l.length
    · have hlt' : decide ((k : Int) < (l.length : Int)) = true := decide_eq_true (by omega)
      have hkb : (k : Int) < (l.length : Int) := by omega
      obtain ⟨r, hr⟩ : ∃ r, l[k]? = some r := ⟨_, List.getElem?_eq_getElem hlt⟩
      obtain ⟨x, rfl, hra⟩ := (hR.below hB) k r hr
      obtain ⟨a0, a1, a2, a3, hsz⟩ := hra
      have hsz' : r.p.size ≤ 9223372036854775807 := by simpa [maxLen] using hsz
      have aB0 : Below wr.heap.size wr (wr.alloc (.cells #[.string r.p, .int .i64 r.mn, .int .i64 r.mx, .int .i64 r.kd] 32)) := (Below.refl _ _).alloc (Nat.le_refl _) _
      have e0 : (wr.alloc (.cells #[.string r.p, .int .i64 r.mn, .int .i64 r.mx, .int .i64 r.kd] 32)).cell? ⟨wr.heap.size, 0, none⟩ = some (.string r.p) := by simp [go_sem]
      have eS : (wr.alloc (.cells #[.string r.p, .int .i64 r.mn, .int .i64 r.mx, .int .i64 r.kd] 32)).heap.size = wr.heap.size + 1 := by simp
      obtain ⟨wa, hwa⟩ : ∃ W, wr.alloc (.cells #[.string r.p, .int .i64 r.mn, .int .i64 r.mx, .int .i64 r.kd] 32) = W := ⟨_, rfl⟩
      rw [hwa] at aB0 e0 eS
      have aB : Below w.heap.size w wa := hB.trans (aB0.mono hB.size)
      have b0 := (aB0.cell (p := ⟨pb, 0, none⟩) (by show pb < _; omega)).trans hq0
      have b1 := (aB0.cell (p := ⟨pb, 1, none⟩) (by show pb < _; omega)).trans hq1
      have bF := (aB0.frozen (p := ⟨pb, 1, none⟩) (by show pb < _; omega)).trans hF
      have hrowa := hrow.below aB0
      go_wp2_with fail
      have hwr : IntKind.i64.wrap ((k : Int) + 1) = (k : Int) + 1 := by rw [IntKind.wrap_i64]; omega
      have hpa : pb < wa.heap.size := by omega
      go_region_with (go_at_call 19; refine (put19' hrowa (by first | exact (Below.refl _ _).drew | exact ((Below.refl _ _).drew.alloc (by simp) _) | exact ((Below.refl _ _).alloc (Nat.le_refl _) _).drew) hO hm4 hmc hsz').mono ?_; rintro e w5 ⟨au, nu, cu, r5, rfl, hb5, hbw, hr5⟩; try (have q8 := (alloc_kept hb5 eS).1; have q9 := (alloc_kept hb5 eS).2))
      all_goals
        have p0 := (hbw.cell (p := ⟨pb, 0, none⟩) hpa).trans b0
        have p1 := (hbw.cell (p := ⟨pb, 1, none⟩) hpa).trans b1
        have pF := (hbw.frozen (p := ⟨pb, 1, none⟩) hpa).trans bF
        have B5 : Below w.heap.size w w5 := aB.trans (hbw.mono aB.size)
        have pS : pb < w5.heap.size := by have := hbw.size; omega
        have hsz5 := hb5.size
        by_cases hr0 : r5 = 0
        · subst hr0
          obtain ⟨g', m', c', hu, hrow', hO', hmc', hm4', hdl, hgw, hgs⟩ := hr5 rfl
          cases hu
          have hV' : Vals (putT (compT l k) (dgs r.p) ((k : Int) + 1)) nu l.length := putT_vals hO hV (dgs r.p) hdl (k + 1) (by omega) hO'
          simp only [World.size_alloc, World.size_drew] at hgw
          have HU := Lib.hid hgw
          clear hr5 hgw
          go_wp2_with fail
          have hU := HU.out
          refine ⟨⟨k + 1, by omega, rfl, ?_⟩, by simp [intOf]; omega⟩
          first
          | exact (CompRel.step hr (by omega) B5 pF pS p0 p1 hrow' hO' hV' hmc' hm4' hgs (by omega)).alloc _
          | exact CompRel.stepB (by omega) (by omega) (by omega) hr (by omega) B5 pF pS p0 p1 hrow' hO' hV' hmc' hm4' hgs (by omega)
        · have f0 : (r5 != 0) = true := bne_iff_ne.mpr hr0
          have f0' : (r5 == 0) = false := beq_eq_false_iff_ne.mpr hr0
          have HR := Lib.hid hr0
          clear hr0 hr5
          go_wp2_with fail
          exact bodyPost_ret (v := .tuple #[.pointer none, .int .i64 r5]) (by simp [results, Tryd.f11, go_sem]) rfl ⟨by first | exact B5.alloc B5.size _ | exact B5.setCell (by show _ ≤ wr.heap.size + 1; omega) _, .inl ⟨_, rfl, HR.out⟩⟩
    · have hlt' : decide ((k : Int) < (l.length : Int)) = false := decide_eq_false (by omega)
      have hke : k = l.length := by omega
      subst hke
      go_wp2_with fail
      exact bodyPost_ret (v := .tuple #[.pointer (some ⟨pb, 0, none⟩), .int .i64 0]) (by simp [results, Tryd.f11, go_sem]) rfl ⟨hB, .inr ⟨pb, rfl, hq0, g, m, ct, hq1, hrow, hO, hV, hmc, hm4⟩⟩
end Go.Proofs.YtpmkbpphlokbjaaDoor.EM
