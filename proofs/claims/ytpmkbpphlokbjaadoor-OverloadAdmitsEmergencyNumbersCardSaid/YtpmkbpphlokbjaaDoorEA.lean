/- dialplan.bloc of the given program. -/
import Derived.Test.YtpmkbpphlokbjaaDoorDZ
set_option linter.unusedVariables false
set_option linter.unusedSimpArgs false
namespace Go.Proofs.YtpmkbpphlokbjaaDoor.EM
open Go.RowKit
theorem pathL_lt {xs : List Int} {m : Nat} (hO : OkT xs m) : ∀ (ds : List Nat) (i a : Nat), a < m → (∀ d ∈ ds, d < 10) → ∀ p ∈ pathL xs i a ds, p.2 < m := by
  intro ds
  induction ds with
  | nil =>
    intro i a ha _ p hp
    simp only [pathL, List.mem_singleton] at hp
    subst hp
    exact ha
  | cons d ds ih =>
    intro i a ha hd p hp
    rw [pathL_cons] at hp
    rcases List.mem_cons.1 hp with rfl | hp
    · exact ha
    · by_cases hk : kd xs a d = 0
      · rw [if_pos hk] at hp; simp at hp
      · rw [if_neg hk] at hp
        exact ih (i + 1) (kd xs a d) (hO.kd ha (hd d (by simp))).1 (fun e he => hd e (by simp [he])) p hp
theorem longF_val {xs : List Int} {m : Nat} (l : List (Nat × Nat)) : (∀ p ∈ l, p.2 < m) → ((longF xs l).2.2 = false ∧ (longF xs l).1 = 0) ∨ ((longF xs l).2.2 = true ∧ (longF xs l).1 ≠ 0 ∧ ∃ i, i < m ∧ (longF xs l).1 = valOf xs i) := by
  refine snoc_ind (P := fun l => (∀ p ∈ l, p.2 < m) → ((longF xs l).2.2 = false ∧ (longF xs l).1 = 0) ∨ ((longF xs l).2.2 = true ∧ (longF xs l).1 ≠ 0 ∧ ∃ i, i < m ∧ (longF xs l).1 = valOf xs i)) (fun _ => .inl ⟨rfl, rfl⟩) ?_ l
  · intro l x ih h
    rw [longF_snoc]
    unfold lstep
    by_cases hv : valOf xs x.2 = 0
    · rw [if_pos hv]
      exact ih (fun p hp => h p (by simp [hp]))
    · rw [if_neg hv]
      exact .inr ⟨rfl, hv, x.2, h x (by simp), rfl⟩
/-- Longest's answer: no value, or one more than the number of a rule -/
theorem long_ok {xs : List Int} {m R : Nat} {s : ByteArray} {v ln : Int} {ok : Bool} (hO : OkT xs m) (hV : Vals xs m R)
    (h : (v, ln, ok) = (0, 0, false) ∨ ((v, ln, ok) = longF xs (pathL xs 0 0 (dgs s)) ∧ ∀ b ∈ s.data.toList, 48 ≤ b.toNat ∧ b.toNat ≤ 57)) :
    (ok = false → v = 0) ∧ (ok = true → ∃ k : Nat, k < R ∧ v = (k : Int) + 1) := by
  rcases h with h | ⟨h, hd⟩
  · simp only [Prod.mk.injEq] at h
    obtain ⟨rfl, rfl, rfl⟩ := h
    exact ⟨fun _ => rfl, fun h => by cases h⟩
  · have h1 : (longF xs (pathL xs 0 0 (dgs s))).1 = v := by rw [← h]
    have h3 : (longF xs (pathL xs 0 0 (dgs s))).2.2 = ok := by rw [← h]
    have hl := longF_val (xs := xs) (m := m) (pathL xs 0 0 (dgs s)) (pathL_lt hO _ _ _ hO.pos (dgs_lt hd))
    rw [h1, h3] at hl
    rcases hl with ⟨hl, hv⟩ | ⟨hl, hv, i, hi, hvi⟩
    · subst hl; exact ⟨fun _ => hv, fun h => by cases h⟩
    · subst hl
      refine ⟨fun h => (by cases h), fun _ => ?_⟩
      obtain ⟨u, hu, hx⟩ := hV i hi
      have : valOf xs i = (u : Int) := by unfold valOf; rw [hx]; rfl
      exact ⟨u - 1, by omega, by omega⟩
theorem two {W : World} {n : Nat} {x0 x1 y0 y1 : Value} (h0 : W.cell? ⟨n, 0, none⟩ = some x0) (h1 : W.cell? ⟨n, 1, none⟩ = some x1) :
    ((W.setCell ⟨n, 0, none⟩ y0).setCell ⟨n, 1, none⟩ y1).cell? ⟨n, 0, none⟩ = some y0 ∧ ((W.setCell ⟨n, 0, none⟩ y0).setCell ⟨n, 1, none⟩ y1).cell? ⟨n, 1, none⟩ = some y1 := by
  have n1 : (⟨n, 0, none⟩ : Addr) ≠ ⟨n, 1, none⟩ := by intro h; injection h with _ h; omega
  refine ⟨?_, set_same (y := x1) (by rw [World.cell?_setCell_other _ _ _ _ n1]; exact h1)⟩
  rw [World.cell?_setCell_other _ _ _ _ n1.symm]
  exact set_same h0
/-- the state that bloc answers where a rule is found -/
def blocSt (r : Rl) (n : Nat) : Int := if (r.kd = 1 ∨ r.kd = 2 ∨ r.kd = 3) ∧ r.mn ≤ (n : Int) ∧ (n : Int) ≤ r.mx then 2 else 3
theorem blocSt_pos {r : Rl} {n : Nat} (h0 : r.kd = 1 ∨ r.kd = 2 ∨ r.kd = 3) (h1 : r.mn ≤ (n : Int)) (h2 : (n : Int) ≤ r.mx) : blocSt r n = 2 := if_pos ⟨h0, h1, h2⟩
theorem blocSt_neg {r : Rl} {n : Nat} (h : ¬ ((r.kd = 1 ∨ r.kd = 2 ∨ r.kd = 3) ∧ r.mn ≤ (n : Int) ∧ (n : Int) ≤ r.mx)) : blocSt r n = 3 := if_neg h
def BlocPost (w : World) (l : List Rl) (xs : List Int) (s : ByteArray) (e : Ending) (w' : World) : Prop :=
  Below w.heap.size w w' ∧ ∃ v ln ok st, e = .returned (.agg #[.int .i64 st, .int .i64 (v - 1)]) ∧ ((v, ln, ok) = (0, 0, false) ∨ ((v, ln, ok) = longF xs (pathL xs 0 0 (dgs s)) ∧ ∀ b ∈ s.data.toList, 48 ≤ b.toNat ∧ b.toNat ≤ 57)) ∧
    (ok = false → st = 3) ∧ (ok = true → ∃ (k : Nat) (r : Rl), v = (k : Int) + 1 ∧ l[k]? = some r ∧ st = blocSt r s.size)
set_option maxRecDepth 100000 in
set_option maxHeartbeats 8000000 in
theorem bloc13 {pb : Nat} {a : Option Addr} {c : Nat} {l : List Rl} {xs : List Int} {s : ByteArray} {w : World} (hP : PlanAt w pb a c l xs) (hR : Rules w a l) (hn : l.length ≤ c) (hl : l.length ≤ 100000) (hs : s.size ≤ 9223372036854775807) :
    Calls Tryd.prog 13 #[.pointer (some ⟨pb, 0, none⟩), .string s] w (BlocPost w l xs s) := by
  obtain ⟨hp0, g, m, ct, hp1, hrow, hO, hV, hmc, hm4⟩ := hP
  have hgw : g < w.heap.size := by
    obtain ⟨k, hk, hx⟩ := hO.kids 0 0 hO.pos (by omega)
    exact cell_lt (hrow _ _ hx)
  have hpw : pb < w.heap.size := cell_lt hp0
  have aB0 : Below w.heap.size w (w.alloc (.cells #[.int .i64 0, .int .i64 0] 27)) := (Below.refl _ _).alloc (Nat.le_refl _) _
  have aS0 : (w.alloc (.cells #[.int .i64 0, .int .i64 0] 27)).heap.size = w.heap.size + 1 := by simp
  have r0 : (w.alloc (.cells #[.int .i64 0, .int .i64 0] 27)).cell? ⟨w.heap.size, 0, none⟩ = some (.int .i64 0) := by simp [go_sem]
  have r1 : (w.alloc (.cells #[.int .i64 0, .int .i64 0] 27)).cell? ⟨w.heap.size, 1, none⟩ = some (.int .i64 0) := by simp [go_sem]
  have z0 : (w.alloc (.cells #[.int .i64 0, .int .i64 0] 27)).frozen? ⟨w.heap.size, 0, none⟩ = false := by simp [go_sem]
  have z1 : (w.alloc (.cells #[.int .i64 0, .int .i64 0] 27)).frozen? ⟨w.heap.size, 1, none⟩ = false := by simp [go_sem]
  obtain ⟨wa, hwa⟩ : ∃ W, w.alloc (.cells #[.int .i64 0, .int .i64 0] 27) = W := ⟨_, rfl⟩
  rw [hwa] at aB0 aS0 r0 r1 z0 z1
  have ap0 := (aB0.cell (p := ⟨pb, 0, none⟩) hpw).trans hp0
  have ap1 := (aB0.cell (p := ⟨pb, 1, none⟩) hpw).trans hp1
  have arow := hrow.below aB0
  go_enter Tryd.func13, Tryd.ntmps13
  go_wp2_with fail
  refine (long21 (s := s) arow hO (by omega) hmc hs (by omega)).mono ?_
  rintro e w1 ⟨hb1, v, ln, ok, rfl, hlong⟩
  have hvv := Lib.hid (long_ok hO hV hlong)
  have hS1 : w.heap.size + 1 ≤ w1.heap.size := by have := hb1.size; omega
  have B1 : Below w.heap.size w w1 := aB0.trans (hb1.mono (by omega))
  have b0 := (hb1.cell (p := ⟨w.heap.size, 0, none⟩) (by show w.heap.size < _; omega)).trans r0
  have b1 := (hb1.cell (p := ⟨w.heap.size, 1, none⟩) (by show w.heap.size < _; omega)).trans r1
  have y0 := (hb1.frozen (p := ⟨w.heap.size, 0, none⟩) (by show w.heap.size < _; omega)).trans z0
  have y1 := (hb1.frozen (p := ⟨w.heap.size, 1, none⟩) (by show w.heap.size < _; omega)).trans z1
  have bp0 := (hb1.cell (p := ⟨pb, 0, none⟩) (by show pb < _; omega)).trans ap0
  have bp1 := (hb1.cell (p := ⟨pb, 1, none⟩) (by show pb < _; omega)).trans ap1
  have LG := Lib.hid hlong
  clear hlong r0 r1 z0 z1 ap0 ap1
  have WB : ∀ rr : Int, ∃ wb : World, w1.alloc (.cells #[.int .i64 3, .int .i64 rr] 27) = wb ∧ Below w.heap.size w wb ∧ Below w1.heap.size w1 wb ∧ wb.heap.size = w1.heap.size + 1 ∧ wb.cell? ⟨w.heap.size, 0, none⟩ = some (.int .i64 0) ∧ wb.cell? ⟨w.heap.size, 1, none⟩ = some (.int .i64 0) ∧ wb.frozen? ⟨w.heap.size, 0, none⟩ = false ∧ wb.frozen? ⟨w.heap.size, 1, none⟩ = false ∧
      wb.cell? ⟨pb, 0, none⟩ = some (.slice a l.length c) ∧ wb.cell? ⟨w1.heap.size, 0, none⟩ = some (.int .i64 3) ∧ wb.cell? ⟨w1.heap.size, 1, none⟩ = some (.int .i64 rr) ∧ wb.frozen? ⟨w1.heap.size, 0, none⟩ = false ∧ wb.frozen? ⟨w1.heap.size, 1, none⟩ = false := by
    intro rr
    have hb : Below w1.heap.size w1 (w1.alloc (.cells #[.int .i64 3, .int .i64 rr] 27)) := (Below.refl _ _).alloc (Nat.le_refl _) _
    exact ⟨_, rfl, B1.trans (hb.mono B1.size), hb, by simp, (hb.cell (p := ⟨w.heap.size, 0, none⟩) (by show w.heap.size < _; omega)).trans b0, (hb.cell (p := ⟨w.heap.size, 1, none⟩) (by show w.heap.size < _; omega)).trans b1,
      (hb.frozen (p := ⟨w.heap.size, 0, none⟩) (by show w.heap.size < _; omega)).trans y0, (hb.frozen (p := ⟨w.heap.size, 1, none⟩) (by show w.heap.size < _; omega)).trans y1, (hb.cell (p := ⟨pb, 0, none⟩) (by show pb < _; omega)).trans bp0,
      by simp [go_sem], by simp [go_sem], by simp [go_sem], by simp [go_sem]⟩
  rcases ok with _ | _
  · have hv0 := hvv.out.1 rfl
    subst hv0
    have hwr : IntKind.i64.wrap (0 - 1) = -1 := by rw [IntKind.wrap_i64]; omega
    obtain ⟨wb, hwb, BB, hbb, hSb, e0, e1, x0, x1, ep0, d0, d1, u0, u1⟩ := WB (-1)
    clear WB
    go_wp2_with fail
    obtain ⟨k1, k2⟩ := two (y0 := .int .i64 3) (y1 := .int .i64 (-1)) e0 e1
    have hBf : Below w.heap.size w ((wb.setCell ⟨w.heap.size, 0, none⟩ (.int .i64 3)).setCell ⟨w.heap.size, 1, none⟩ (.int .i64 (-1))) := (BB.setCell (by show _ ≤ w.heap.size; omega) _).setCell (by show _ ≤ w.heap.size; omega) _
    generalize (wb.setCell ⟨w.heap.size, 0, none⟩ (.int .i64 3)).setCell ⟨w.heap.size, 1, none⟩ (.int .i64 (-1)) = w9 at k1 k2 hBf ⊢
    exact bodyPost_ret (v := .agg #[.int .i64 3, .int .i64 (-1)]) (by simp [results, Tryd.f13, go_sem, k1, k2]) rfl ⟨hBf, 0, ln, false, 3, rfl, LG.out, fun _ => rfl, fun h => by cases h⟩
  · obtain ⟨k, hk, rfl⟩ := hvv.out.2 rfl
    have hwr : IntKind.i64.wrap ((k : Int) + 1 - 1) = (k : Int) := by rw [IntKind.wrap_i64]; omega
    obtain ⟨wb, hwb, BB, hbb, hSb, e0, e1, x0, x1, ep0, d0, d1, u0, u1⟩ := WB k
    clear WB
    obtain ⟨r, hr⟩ : ∃ r, l[k]? = some r := ⟨_, List.getElem?_eq_getElem hk⟩
    obtain ⟨x, rfl, hra⟩ := (hR.below BB) k r hr
    obtain ⟨a0, a1, a2, a3, hsz⟩ := hra
    have hkl : (k : Int) < (l.length : Int) := by omega
    have hbc : Below wb.heap.size wb (wb.alloc (.cells #[.string ⟨#[]⟩, .int .i64 0, .int .i64 0, .int .i64 0] 32)) := (Below.refl _ _).alloc (Nat.le_refl _) _
    have q0 := (hbc.cell (World.block_lt_of_cell? _ _ a0)).trans a0
    have q1 := (hbc.cell (World.block_lt_of_cell? _ _ a1)).trans a1
    have q2 := (hbc.cell (World.block_lt_of_cell? _ _ a2)).trans a2
    have q3 := (hbc.cell (World.block_lt_of_cell? _ _ a3)).trans a3
    have q4 := (hbc.cell (World.block_lt_of_cell? _ _ ep0)).trans ep0
    have q5 := (hbc.cell (World.block_lt_of_cell? _ _ d1)).trans d1
    go_wp2_with fail
    go_region
    have hbd : Below wb.heap.size wb ((wb.alloc (.cells #[.string r.p, .int .i64 r.mn, .int .i64 r.mx, .int .i64 r.kd] 32)).drew) := ((Below.refl _ _).alloc (Nat.le_refl _) _).drew
    have v1 : ((wb.alloc (.cells #[.string r.p, .int .i64 r.mn, .int .i64 r.mx, .int .i64 r.kd] 32)).drew).cell? ⟨w1.heap.size + 1, 1, none⟩ = some (.int .i64 r.mn) := by rw [← hSb]; simp [go_sem]
    have v2 : ((wb.alloc (.cells #[.string r.p, .int .i64 r.mn, .int .i64 r.mx, .int .i64 r.kd] 32)).drew).cell? ⟨w1.heap.size + 1, 2, none⟩ = some (.int .i64 r.mx) := by rw [← hSb]; simp [go_sem]
    have v3 : ((wb.alloc (.cells #[.string r.p, .int .i64 r.mn, .int .i64 r.mx, .int .i64 r.kd] 32)).drew).cell? ⟨w1.heap.size + 1, 3, none⟩ = some (.int .i64 r.kd) := by rw [← hSb]; simp [go_sem]
    generalize (wb.alloc (.cells #[.string r.p, .int .i64 r.mn, .int .i64 r.mx, .int .i64 r.kd] 32)).drew = wc at hbd v1 v2 v3 ⊢
    have f0 := (hbd.cell (World.block_lt_of_cell? _ _ e0)).trans e0
    have f1 := (hbd.cell (World.block_lt_of_cell? _ _ e1)).trans e1
    have f2 := (hbd.cell (World.block_lt_of_cell? _ _ d0)).trans d0
    have f3 := (hbd.cell (World.block_lt_of_cell? _ _ d1)).trans d1
    have l0 := (hbd.frozen (World.block_lt_of_cell? _ _ e0)).trans x0
    have l1 := (hbd.frozen (World.block_lt_of_cell? _ _ e1)).trans x1
    have l2 := (hbd.frozen (World.block_lt_of_cell? _ _ d0)).trans u0
    have l3 := (hbd.frozen (World.block_lt_of_cell? _ _ d1)).trans u1
    have BC : Below w.heap.size w wc := BB.trans (hbd.mono BB.size)
    clear q0 q1 q2 q3 q4 q5 hbc
    have HR := Lib.hid hr
    clear hr
    have hk1 : (k : Int) + 1 - 1 = (k : Int) := by omega
    have hne : (⟨w1.heap.size, 0, none⟩ : Addr) ≠ ⟨w.heap.size, 0, none⟩ := by intro h; injection h with h; omega
    have hne' : (⟨w1.heap.size, 0, none⟩ : Addr) ≠ ⟨w.heap.size, 1, none⟩ := by intro h; injection h with h; omega
    by_cases h1 : r.kd = 1
    · have HK := Lib.hid (show r.kd = 1 ∨ r.kd = 2 ∨ r.kd = 3 from .inl h1)
      have g1 : (r.kd == 1) = true := beq_iff_eq.mpr h1
      clear h1
      by_cases h2 : r.mn ≤ (s.size : Int)
      · have g3 : decide (r.mn ≤ (s.size : Int)) = true := decide_eq_true h2
        by_cases h3 : (s.size : Int) ≤ r.mx
        · have g4 : decide ((s.size : Int) ≤ r.mx) = true := decide_eq_true h3
          go_wp2_with fail
          have c0 := (World.cell?_setCell_other wc _ _ (.int .i64 2) hne).trans f0
          have c1 := (World.cell?_setCell_other wc _ _ (.int .i64 2) hne').trans f1
          have BX := BC.setCell (p := ⟨w1.heap.size, 0, none⟩) (by show _ ≤ w1.heap.size; omega) (.int .i64 2)
          obtain ⟨k1, k2⟩ := two (y0 := .int .i64 2) (y1 := .int .i64 k) c0 c1
          have hBf := (BX.setCell (p := ⟨w.heap.size, 0, none⟩) (by show _ ≤ w.heap.size; omega) (.int .i64 2)).setCell (p := ⟨w.heap.size, 1, none⟩) (by show _ ≤ w.heap.size; omega) (.int .i64 k)
          generalize ((wc.setCell ⟨w1.heap.size, 0, none⟩ (.int .i64 2)).setCell ⟨w.heap.size, 0, none⟩ (.int .i64 2)).setCell ⟨w.heap.size, 1, none⟩ (.int .i64 k) = w9 at k1 k2 hBf ⊢
          exact bodyPost_ret (v := .agg #[.int .i64 2, .int .i64 k]) (by simp [results, Tryd.f13, go_sem, k1, k2]) rfl ⟨hBf, (k : Int) + 1, ln, true, 2, by rw [hk1], LG.out, fun h => (by cases h), fun _ => ⟨k, r, rfl, HR.out, (blocSt_pos HK.out h2 h3).symm⟩⟩
        · have g4 : decide ((s.size : Int) ≤ r.mx) = false := decide_eq_false h3
          go_wp2_with fail
          have c0 := f0
          have c1 := f1
          have BX := BC
          obtain ⟨k1, k2⟩ := two (y0 := .int .i64 3) (y1 := .int .i64 k) c0 c1
          have hBf := (BX.setCell (p := ⟨w.heap.size, 0, none⟩) (by show _ ≤ w.heap.size; omega) (.int .i64 3)).setCell (p := ⟨w.heap.size, 1, none⟩) (by show _ ≤ w.heap.size; omega) (.int .i64 k)
          generalize (wc.setCell ⟨w.heap.size, 0, none⟩ (.int .i64 3)).setCell ⟨w.heap.size, 1, none⟩ (.int .i64 k) = w9 at k1 k2 hBf ⊢
          exact bodyPost_ret (v := .agg #[.int .i64 3, .int .i64 k]) (by simp [results, Tryd.f13, go_sem, k1, k2]) rfl ⟨hBf, (k : Int) + 1, ln, true, 3, by rw [hk1], LG.out, fun h => (by cases h), fun _ => ⟨k, r, rfl, HR.out, (blocSt_neg (fun h => by have := h.2.2; omega)).symm⟩⟩
      · have g3 : decide (r.mn ≤ (s.size : Int)) = false := decide_eq_false h2
        go_wp2_with fail
        have c0 := f0
        have c1 := f1
        have BX := BC
        obtain ⟨k1, k2⟩ := two (y0 := .int .i64 3) (y1 := .int .i64 k) c0 c1
        have hBf := (BX.setCell (p := ⟨w.heap.size, 0, none⟩) (by show _ ≤ w.heap.size; omega) (.int .i64 3)).setCell (p := ⟨w.heap.size, 1, none⟩) (by show _ ≤ w.heap.size; omega) (.int .i64 k)
        generalize (wc.setCell ⟨w.heap.size, 0, none⟩ (.int .i64 3)).setCell ⟨w.heap.size, 1, none⟩ (.int .i64 k) = w9 at k1 k2 hBf ⊢
        exact bodyPost_ret (v := .agg #[.int .i64 3, .int .i64 k]) (by simp [results, Tryd.f13, go_sem, k1, k2]) rfl ⟨hBf, (k : Int) + 1, ln, true, 3, by rw [hk1], LG.out, fun h => (by cases h), fun _ => ⟨k, r, rfl, HR.out, (blocSt_neg (fun h => by have := h.2.1; omega)).symm⟩⟩
    have g1 : (r.kd == 1) = false := beq_eq_false_iff_ne.mpr h1
    by_cases h5 : r.kd = 2
    · have HK := Lib.hid (show r.kd = 1 ∨ r.kd = 2 ∨ r.kd = 3 from .inr (.inl h5))
      have g5 : (r.kd == 2) = true := beq_iff_eq.mpr h5
      clear h5
      by_cases h2 : r.mn ≤ (s.size : Int)
      · have g3 : decide (r.mn ≤ (s.size : Int)) = true := decide_eq_true h2
        by_cases h3 : (s.size : Int) ≤ r.mx
        · have g4 : decide ((s.size : Int) ≤ r.mx) = true := decide_eq_true h3
          go_wp2_with fail
          have c0 := (World.cell?_setCell_other wc _ _ (.int .i64 2) hne).trans f0
          have c1 := (World.cell?_setCell_other wc _ _ (.int .i64 2) hne').trans f1
          have BX := BC.setCell (p := ⟨w1.heap.size, 0, none⟩) (by show _ ≤ w1.heap.size; omega) (.int .i64 2)
          obtain ⟨k1, k2⟩ := two (y0 := .int .i64 2) (y1 := .int .i64 k) c0 c1
          have hBf := (BX.setCell (p := ⟨w.heap.size, 0, none⟩) (by show _ ≤ w.heap.size; omega) (.int .i64 2)).setCell (p := ⟨w.heap.size, 1, none⟩) (by show _ ≤ w.heap.size; omega) (.int .i64 k)
          generalize ((wc.setCell ⟨w1.heap.size, 0, none⟩ (.int .i64 2)).setCell ⟨w.heap.size, 0, none⟩ (.int .i64 2)).setCell ⟨w.heap.size, 1, none⟩ (.int .i64 k) = w9 at k1 k2 hBf ⊢
          exact bodyPost_ret (v := .agg #[.int .i64 2, .int .i64 k]) (by simp [results, Tryd.f13, go_sem, k1, k2]) rfl ⟨hBf, (k : Int) + 1, ln, true, 2, by rw [hk1], LG.out, fun h => (by cases h), fun _ => ⟨k, r, rfl, HR.out, (blocSt_pos HK.out h2 h3).symm⟩⟩
        · have g4 : decide ((s.size : Int) ≤ r.mx) = false := decide_eq_false h3
          go_wp2_with fail
          have c0 := f0
          have c1 := f1
          have BX := BC
          obtain ⟨k1, k2⟩ := two (y0 := .int .i64 3) (y1 := .int .i64 k) c0 c1
          have hBf := (BX.setCell (p := ⟨w.heap.size, 0, none⟩) (by show _ ≤ w.heap.size; omega) (.int .i64 3)).setCell (p := ⟨w.heap.size, 1, none⟩) (by show _ ≤ w.heap.size; omega) (.int .i64 k)
          generalize (wc.setCell ⟨w.heap.size, 0, none⟩ (.int .i64 3)).setCell ⟨w.heap.size, 1, none⟩ (.int .i64 k) = w9 at k1 k2 hBf ⊢
          exact bodyPost_ret (v := .agg #[.int .i64 3, .int .i64 k]) (by simp [results, Tryd.f13, go_sem, k1, k2]) rfl ⟨hBf, (k : Int) + 1, ln, true, 3, by rw [hk1], LG.out, fun h => (by cases h), fun _ => ⟨k, r, rfl, HR.out, (blocSt_neg (fun h => by have := h.2.2; omega)).symm⟩⟩
      · have g3 : decide (r.mn ≤ (s.size : Int)) = false := decide_eq_false h2
        go_wp2_with fail
        have c0 := f0
        have c1 := f1
        have BX := BC
        obtain ⟨k1, k2⟩ := two (y0 := .int .i64 3) (y1 := .int .i64 k) c0 c1
        have hBf := (BX.setCell (p := ⟨w.heap.size, 0, none⟩) (by show _ ≤ w.heap.size; omega) (.int .i64 3)).setCell (p := ⟨w.heap.size, 1, none⟩) (by show _ ≤ w.heap.size; omega) (.int .i64 k)
        generalize (wc.setCell ⟨w.heap.size, 0, none⟩ (.int .i64 3)).setCell ⟨w.heap.size, 1, none⟩ (.int .i64 k) = w9 at k1 k2 hBf ⊢
        exact bodyPost_ret (v := .agg #[.int .i64 3, .int .i64 k]) (by simp [results, Tryd.f13, go_sem, k1, k2]) rfl ⟨hBf, (k : Int) + 1, ln, true, 3, by rw [hk1], LG.out, fun h => (by cases h), fun _ => ⟨k, r, rfl, HR.out, (blocSt_neg (fun h => by have := h.2.1; omega)).symm⟩⟩
    have g5 : (r.kd == 2) = false := beq_eq_false_iff_ne.mpr h5
    by_cases h6 : r.kd = 3
    · have HK := Lib.hid (show r.kd = 1 ∨ r.kd = 2 ∨ r.kd = 3 from .inr (.inr h6))
      have g6 : (r.kd == 3) = true := beq_iff_eq.mpr h6
      clear h6
      by_cases h2 : r.mn ≤ (s.size : Int)
      · have g3 : decide (r.mn ≤ (s.size : Int)) = true := decide_eq_true h2
        by_cases h3 : (s.size : Int) ≤ r.mx
        · have g4 : decide ((s.size : Int) ≤ r.mx) = true := decide_eq_true h3
          go_wp2_with fail
          have c0 := (World.cell?_setCell_other wc _ _ (.int .i64 2) hne).trans f0
          have c1 := (World.cell?_setCell_other wc _ _ (.int .i64 2) hne').trans f1
          have BX := BC.setCell (p := ⟨w1.heap.size, 0, none⟩) (by show _ ≤ w1.heap.size; omega) (.int .i64 2)
          obtain ⟨k1, k2⟩ := two (y0 := .int .i64 2) (y1 := .int .i64 k) c0 c1
          have hBf := (BX.setCell (p := ⟨w.heap.size, 0, none⟩) (by show _ ≤ w.heap.size; omega) (.int .i64 2)).setCell (p := ⟨w.heap.size, 1, none⟩) (by show _ ≤ w.heap.size; omega) (.int .i64 k)
          generalize ((wc.setCell ⟨w1.heap.size, 0, none⟩ (.int .i64 2)).setCell ⟨w.heap.size, 0, none⟩ (.int .i64 2)).setCell ⟨w.heap.size, 1, none⟩ (.int .i64 k) = w9 at k1 k2 hBf ⊢
          exact bodyPost_ret (v := .agg #[.int .i64 2, .int .i64 k]) (by simp [results, Tryd.f13, go_sem, k1, k2]) rfl ⟨hBf, (k : Int) + 1, ln, true, 2, by rw [hk1], LG.out, fun h => (by cases h), fun _ => ⟨k, r, rfl, HR.out, (blocSt_pos HK.out h2 h3).symm⟩⟩
        · have g4 : decide ((s.size : Int) ≤ r.mx) = false := decide_eq_false h3
          go_wp2_with fail
          have c0 := f0
          have c1 := f1
          have BX := BC
          obtain ⟨k1, k2⟩ := two (y0 := .int .i64 3) (y1 := .int .i64 k) c0 c1
          have hBf := (BX.setCell (p := ⟨w.heap.size, 0, none⟩) (by show _ ≤ w.heap.size; omega) (.int .i64 3)).setCell (p := ⟨w.heap.size, 1, none⟩) (by show _ ≤ w.heap.size; omega) (.int .i64 k)
          generalize (wc.setCell ⟨w.heap.size, 0, none⟩ (.int .i64 3)).setCell ⟨w.heap.size, 1, none⟩ (.int .i64 k) = w9 at k1 k2 hBf ⊢
          exact bodyPost_ret (v := .agg #[.int .i64 3, .int .i64 k]) (by simp [results, Tryd.f13, go_sem, k1, k2]) rfl ⟨hBf, (k : Int) + 1, ln, true, 3, by rw [hk1], LG.out, fun h => (by cases h), fun _ => ⟨k, r, rfl, HR.out, (blocSt_neg (fun h => by have := h.2.2; omega)).symm⟩⟩
      · have g3 : decide (r.mn ≤ (s.size : Int)) = false := decide_eq_false h2
        go_wp2_with fail
        have c0 := f0
        have c1 := f1
        have BX := BC
        obtain ⟨k1, k2⟩ := two (y0 := .int .i64 3) (y1 := .int .i64 k) c0 c1
        have hBf := (BX.setCell (p := ⟨w.heap.size, 0, none⟩) (by show _ ≤ w.heap.size; omega) (.int .i64 3)).setCell (p := ⟨w.heap.size, 1, none⟩) (by show _ ≤ w.heap.size; omega) (.int .i64 k)
        generalize (wc.setCell ⟨w.heap.size, 0, none⟩ (.int .i64 3)).setCell ⟨w.heap.size, 1, none⟩ (.int .i64 k) = w9 at k1 k2 hBf ⊢
        exact bodyPost_ret (v := .agg #[.int .i64 3, .int .i64 k]) (by simp [results, Tryd.f13, go_sem, k1, k2]) rfl ⟨hBf, (k : Int) + 1, ln, true, 3, by rw [hk1], LG.out, fun h => (by cases h), fun _ => ⟨k, r, rfl, HR.out, (blocSt_neg (fun h => by have := h.2.1; omega)).symm⟩⟩
    have g6 : (r.kd == 3) = false := beq_eq_false_iff_ne.mpr h6
    have HK := Lib.hid (show ¬ (r.kd = 1 ∨ r.kd = 2 ∨ r.kd = 3) from fun h => by rcases h with h | h | h <;> contradiction)
    clear h1 h5 h6
    go_wp2_with fail
    have c0 := f0
    have c1 := f1
    have BX := BC
    obtain ⟨k1, k2⟩ := two (y0 := .int .i64 3) (y1 := .int .i64 k) c0 c1
    have hBf := (BX.setCell (p := ⟨w.heap.size, 0, none⟩) (by show _ ≤ w.heap.size; omega) (.int .i64 3)).setCell (p := ⟨w.heap.size, 1, none⟩) (by show _ ≤ w.heap.size; omega) (.int .i64 k)
    generalize (wc.setCell ⟨w.heap.size, 0, none⟩ (.int .i64 3)).setCell ⟨w.heap.size, 1, none⟩ (.int .i64 k) = w9 at k1 k2 hBf ⊢
    exact bodyPost_ret (v := .agg #[.int .i64 3, .int .i64 k]) (by simp [results, Tryd.f13, go_sem, k1, k2]) rfl ⟨hBf, (k : Int) + 1, ln, true, 3, by rw [hk1], LG.out, fun h => (by cases h), fun _ => ⟨k, r, rfl, HR.out, (blocSt_neg (fun h => HK.out h.1)).symm⟩⟩
end Go.Proofs.YtpmkbpphlokbjaaDoor.EM
