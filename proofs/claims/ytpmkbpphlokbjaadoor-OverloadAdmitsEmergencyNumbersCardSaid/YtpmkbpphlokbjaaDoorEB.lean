/- dialplan.Analyze of the given program, with all digits given. -/
import Derived.Test.YtpmkbpphlokbjaaDoorEA
set_option linter.unusedVariables false
set_option linter.unusedSimpArgs false
namespace Go.Proofs.YtpmkbpphlokbjaaDoor.EM
open Go.RowKit
theorem PlanAt.below {W W' : World} {pb : Nat} {a : Option Addr} {c : Nat} {l : List Rl} {xs : List Int} (h : PlanAt W pb a c l xs) (hB : Below W.heap.size W W') : PlanAt W' pb a c l xs := by
  obtain ⟨h0, g, m, ct, h1, hrow, rest⟩ := h
  exact ⟨(hB.cell (World.block_lt_of_cell? _ _ h0)).trans h0, g, m, ct, (hB.cell (World.block_lt_of_cell? _ _ h1)).trans h1, hrow.below hB, rest⟩
/-- what Analyze answers of all digits -/
def AnPost (w : World) (l : List Rl) (s : ByteArray) (e : Ending) (w' : World) : Prop :=
  Below w.heap.size w w' ∧ ((∃ r, e = .returned (.tuple #[.agg #[.int .i64 0, .int .i64 0], .int .i64 r]) ∧ r ≠ 0) ∨
    ∃ v ln ok st, e = .returned (.tuple #[.agg #[.int .i64 st, .int .i64 (v - 1)], .int .i64 0]) ∧ ((v, ln, ok) = (0, 0, false) ∨ ((v, ln, ok) = longF (compT l l.length) (pathL (compT l l.length) 0 0 (dgs s)) ∧ ∀ b ∈ s.data.toList, 48 ≤ b.toNat ∧ b.toNat ≤ 57)) ∧
      (ok = false → st = 3) ∧ (ok = true → ∃ (k : Nat) (r : Rl), v = (k : Int) + 1 ∧ l[k]? = some r ∧ st = blocSt r s.size))
set_option maxRecDepth 100000 in
set_option maxHeartbeats 8000000 in
theorem analyze5 {a : Option Addr} {c : Nat} {l : List Rl} {s : ByteArray} {w : World} (hR : Rules w a l) (hn : l.length ≤ c) (hl : l.length ≤ 100000) (hs : s.size ≤ 9223372036854775807) :
    Calls Tryd.prog 5 #[.slice a l.length c, .string s, .bool true] w (AnPost w l s) := by
  have aB0 : Below w.heap.size w (w.alloc (.cells #[.int .i64 0, .int .i64 0] 27)) := (Below.refl _ _).alloc (Nat.le_refl _) _
  have aS0 : (w.alloc (.cells #[.int .i64 0, .int .i64 0] 27)).heap.size = w.heap.size + 1 := by simp
  have r0 : (w.alloc (.cells #[.int .i64 0, .int .i64 0] 27)).cell? ⟨w.heap.size, 0, none⟩ = some (.int .i64 0) := by simp [go_sem]
  have r1 : (w.alloc (.cells #[.int .i64 0, .int .i64 0] 27)).cell? ⟨w.heap.size, 1, none⟩ = some (.int .i64 0) := by simp [go_sem]
  have z0 : (w.alloc (.cells #[.int .i64 0, .int .i64 0] 27)).frozen? ⟨w.heap.size, 0, none⟩ = false := by simp [go_sem]
  have z1 : (w.alloc (.cells #[.int .i64 0, .int .i64 0] 27)).frozen? ⟨w.heap.size, 1, none⟩ = false := by simp [go_sem]
  obtain ⟨wa, hwa⟩ : ∃ W, w.alloc (.cells #[.int .i64 0, .int .i64 0] 27) = W := ⟨_, rfl⟩
  rw [hwa] at aB0 aS0 r0 r1 z0 z1
  have hRa := hR.below aB0
  go_enter Tryd.func5, Tryd.ntmps5
  go_wp2_with fail
  refine (compile11 hRa hn hl).mono ?_
  rintro e w1 ⟨hb1, hc⟩
  have hS1 : w.heap.size + 1 ≤ w1.heap.size := by have := hb1.size; omega
  have B1 : Below w.heap.size w w1 := aB0.trans (hb1.mono (by omega))
  have b0 := (hb1.cell (p := ⟨w.heap.size, 0, none⟩) (by show w.heap.size < _; omega)).trans r0
  have b1 := (hb1.cell (p := ⟨w.heap.size, 1, none⟩) (by show w.heap.size < _; omega)).trans r1
  have y0 := (hb1.frozen (p := ⟨w.heap.size, 0, none⟩) (by show w.heap.size < _; omega)).trans z0
  have y1 := (hb1.frozen (p := ⟨w.heap.size, 1, none⟩) (by show w.heap.size < _; omega)).trans z1
  clear r0 r1 z0 z1
  rcases hc with ⟨r, rfl, hr⟩ | ⟨pb, rfl, hP⟩
  · have e0 : (r != 0) = true := bne_iff_ne.mpr hr
    have e0' : (r == 0) = false := beq_eq_false_iff_ne.mpr hr
    have HR := Lib.hid hr
    clear hr
    go_wp2_with fail
    obtain ⟨k1, k2⟩ := two (y0 := .int .i64 0) (y1 := .int .i64 0) b0 b1
    have hBf := (B1.setCell (p := ⟨w.heap.size, 0, none⟩) (by show _ ≤ w.heap.size; omega) (.int .i64 0)).setCell (p := ⟨w.heap.size, 1, none⟩) (by show _ ≤ w.heap.size; omega) (.int .i64 0)
    generalize (w1.setCell ⟨w.heap.size, 0, none⟩ (.int .i64 0)).setCell ⟨w.heap.size, 1, none⟩ (.int .i64 0) = w9 at k1 k2 hBf ⊢
    exact bodyPost_ret (v := .tuple #[.agg #[.int .i64 0, .int .i64 0], .int .i64 r]) (by simp [results, Tryd.f5, go_sem, k1, k2]) rfl ⟨hBf, .inl ⟨r, rfl, HR.out⟩⟩
  go_wp2_with fail
  refine (numeric_calls s _ hs).mono ?_
  rintro e w2 ⟨⟨b, rfl, _⟩, hb2⟩
  have hS2 : w.heap.size + 1 ≤ w2.heap.size := by have := hb2.size; omega
  have B2 : Below w.heap.size w w2 := B1.trans (hb2.mono (by omega))
  have c0 := (hb2.cell (p := ⟨w.heap.size, 0, none⟩) (by show w.heap.size < _; omega)).trans b0
  have c1 := (hb2.cell (p := ⟨w.heap.size, 1, none⟩) (by show w.heap.size < _; omega)).trans b1
  have x0 := (hb2.frozen (p := ⟨w.heap.size, 0, none⟩) (by show w.heap.size < _; omega)).trans y0
  have x1 := (hb2.frozen (p := ⟨w.heap.size, 1, none⟩) (by show w.heap.size < _; omega)).trans y1
  clear b0 b1 y0 y1
  rcases b with _ | _
  · go_wp2_with fail
    obtain ⟨k1, k2⟩ := two (y0 := .int .i64 0) (y1 := .int .i64 0) c0 c1
    have hBf := (B2.setCell (p := ⟨w.heap.size, 0, none⟩) (by show _ ≤ w.heap.size; omega) (.int .i64 0)).setCell (p := ⟨w.heap.size, 1, none⟩) (by show _ ≤ w.heap.size; omega) (.int .i64 0)
    generalize (w2.setCell ⟨w.heap.size, 0, none⟩ (.int .i64 0)).setCell ⟨w.heap.size, 1, none⟩ (.int .i64 0) = w9 at k1 k2 hBf ⊢
    exact bodyPost_ret (v := .tuple #[.agg #[.int .i64 0, .int .i64 0], .int .i64 60]) (by simp [results, Tryd.f5, go_sem, k1, k2]) rfl ⟨hBf, .inl ⟨60, rfl, by omega⟩⟩
  go_wp2_with fail
  refine (bloc13 (hP.below hb2) (hR.below B2) hn hl hs).mono ?_
  rintro e w3 ⟨hb3, v, ln, ok, st, rfl, h1, h2, h3⟩
  have B3 : Below w.heap.size w w3 := B2.trans (hb3.mono (by omega))
  have d0 := (hb3.cell (p := ⟨w.heap.size, 0, none⟩) (by show w.heap.size < _; omega)).trans c0
  have d1 := (hb3.cell (p := ⟨w.heap.size, 1, none⟩) (by show w.heap.size < _; omega)).trans c1
  have u0 := (hb3.frozen (p := ⟨w.heap.size, 0, none⟩) (by show w.heap.size < _; omega)).trans x0
  have u1 := (hb3.frozen (p := ⟨w.heap.size, 1, none⟩) (by show w.heap.size < _; omega)).trans x1
  have H := Lib.hid (And.intro h1 (And.intro h2 h3))
  clear h1 h2 h3
  obtain ⟨rl, hrl⟩ : ∃ z, v - 1 = z := ⟨_, rfl⟩
  rw [hrl]
  have HL := Lib.hid hrl
  clear hrl
  go_wp2_with fail
  obtain ⟨k1, k2⟩ := two (y0 := .int .i64 st) (y1 := .int .i64 rl) d0 d1
  have hBf := (B3.setCell (p := ⟨w.heap.size, 0, none⟩) (by show _ ≤ w.heap.size; omega) (.int .i64 st)).setCell (p := ⟨w.heap.size, 1, none⟩) (by show _ ≤ w.heap.size; omega) (.int .i64 rl)
  generalize (w3.setCell ⟨w.heap.size, 0, none⟩ (.int .i64 st)).setCell ⟨w.heap.size, 1, none⟩ (.int .i64 rl) = w9 at k1 k2 hBf ⊢
  exact bodyPost_ret (v := .tuple #[.agg #[.int .i64 st, .int .i64 rl], .int .i64 0]) (by simp [results, Tryd.f5, go_sem, k1, k2]) rfl ⟨hBf, .inr ⟨v, ln, ok, st, by rw [HL.out], H.out⟩⟩
end Go.Proofs.YtpmkbpphlokbjaaDoor.EM
