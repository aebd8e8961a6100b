/- sane of the given program's laws answers true. -/
import Derived.Test.YtpmkbpphlokbjaaDoorEC
set_option linter.unusedVariables false
set_option linter.unusedSimpArgs false
namespace Go.Proofs.YtpmkbpphlokbjaaDoor.EM
open Go.RowKit
/-- a bucket's cells -/
structure Bk (w : World) (n : Nat) (t l p d : Int) : Prop where
  c0 : w.cell? ⟨n, 0, none⟩ = some (.int .i64 t)
  c1 : w.cell? ⟨n, 1, none⟩ = some (.int .i64 l)
  c2 : w.cell? ⟨n, 2, none⟩ = some (.int .i64 p)
  c3 : w.cell? ⟨n, 3, none⟩ = some (.int .i64 d)
  f0 : w.frozen? ⟨n, 0, none⟩ = false
  f1 : w.frozen? ⟨n, 1, none⟩ = false
  f2 : w.frozen? ⟨n, 2, none⟩ = false
  f3 : w.frozen? ⟨n, 3, none⟩ = false
theorem Bk.new (w : World) (t l p d : Int) : Bk (w.alloc (.cells #[.int .i64 t, .int .i64 l, .int .i64 p, .int .i64 d] 24)) w.heap.size t l p d := by
  constructor <;> simp [go_sem]
theorem Bk.below {W W' : World} {n : Nat} {t l p d : Int} (h : Bk W n t l p d) (hB : Below W.heap.size W W') : Bk W' n t l p d := by
  have hn := World.block_lt_of_cell? _ _ h.c0
  exact ⟨(hB.cell hn).trans h.c0, (hB.cell (p := ⟨n, 1, none⟩) hn).trans h.c1, (hB.cell (p := ⟨n, 2, none⟩) hn).trans h.c2, (hB.cell (p := ⟨n, 3, none⟩) hn).trans h.c3, (hB.frozen (p := ⟨n, 0, none⟩) hn).trans h.f0, (hB.frozen (p := ⟨n, 1, none⟩) hn).trans h.f1, (hB.frozen (p := ⟨n, 2, none⟩) hn).trans h.f2, (hB.frozen (p := ⟨n, 3, none⟩) hn).trans h.f3⟩
theorem Bk.set {W : World} {n : Nat} {t l p d : Int} (h : Bk W n t l p d) (t' l' p' d' : Int) :
    Bk ((((W.setCell ⟨n, 0, none⟩ (.int .i64 t')).setCell ⟨n, 1, none⟩ (.int .i64 l')).setCell ⟨n, 2, none⟩ (.int .i64 p')).setCell ⟨n, 3, none⟩ (.int .i64 d')) n t' l' p' d' := by
  obtain ⟨c0, c1, c2, c3, f0, f1, f2, f3⟩ := h
  have n01 : (⟨n, 0, none⟩ : Addr) ≠ ⟨n, 1, none⟩ := by intro h; injection h with _ h; omega
  have n02 : (⟨n, 0, none⟩ : Addr) ≠ ⟨n, 2, none⟩ := by intro h; injection h with _ h; omega
  have n03 : (⟨n, 0, none⟩ : Addr) ≠ ⟨n, 3, none⟩ := by intro h; injection h with _ h; omega
  have n12 : (⟨n, 1, none⟩ : Addr) ≠ ⟨n, 2, none⟩ := by intro h; injection h with _ h; omega
  have n13 : (⟨n, 1, none⟩ : Addr) ≠ ⟨n, 3, none⟩ := by intro h; injection h with _ h; omega
  have n23 : (⟨n, 2, none⟩ : Addr) ≠ ⟨n, 3, none⟩ := by intro h; injection h with _ h; omega
  refine ⟨?_, ?_, ?_, ?_, ?_, ?_, ?_, ?_⟩
  · rw [World.cell?_setCell_other _ _ _ _ n03.symm, World.cell?_setCell_other _ _ _ _ n02.symm, World.cell?_setCell_other _ _ _ _ n01.symm]; exact set_same c0
  · rw [World.cell?_setCell_other _ _ _ _ n13.symm, World.cell?_setCell_other _ _ _ _ n12.symm]; exact set_same (y := .int .i64 l) (by rw [World.cell?_setCell_other _ _ _ _ n01]; exact c1)
  · rw [World.cell?_setCell_other _ _ _ _ n23.symm]; exact set_same (y := .int .i64 p) (by rw [World.cell?_setCell_other _ _ _ _ n12, World.cell?_setCell_other _ _ _ _ n02]; exact c2)
  · exact set_same (y := .int .i64 d) (by rw [World.cell?_setCell_other _ _ _ _ n23, World.cell?_setCell_other _ _ _ _ n13, World.cell?_setCell_other _ _ _ _ n03]; exact c3)
  all_goals rw [World.frozen?_setCell, World.frozen?_setCell, World.frozen?_setCell, World.frozen?_setCell]; assumption
theorem Bk.setB {B : Nat} {w W : World} {n : Nat} (h : Below B w W) (hn : B ≤ n) (t' l' p' d' : Int) :
    Below B w ((((W.setCell ⟨n, 0, none⟩ (.int .i64 t')).setCell ⟨n, 1, none⟩ (.int .i64 l')).setCell ⟨n, 2, none⟩ (.int .i64 p')).setCell ⟨n, 3, none⟩ (.int .i64 d')) :=
  (((h.setCell hn _).setCell hn _).setCell hn _).setCell hn _
theorem Bk.setO {W : World} {n m : Nat} {t l p d : Int} (h : Bk W m t l p d) (hn : n ≠ m) (t' l' p' d' : Int) :
    Bk ((((W.setCell ⟨n, 0, none⟩ (.int .i64 t')).setCell ⟨n, 1, none⟩ (.int .i64 l')).setCell ⟨n, 2, none⟩ (.int .i64 p')).setCell ⟨n, 3, none⟩ (.int .i64 d')) m t l p d := by
  obtain ⟨c0, c1, c2, c3, f0, f1, f2, f3⟩ := h
  have e : ∀ i j, (⟨n, i, none⟩ : Addr) ≠ ⟨m, j, none⟩ := fun i j h => by injection h with h; exact hn h
  refine ⟨?_, ?_, ?_, ?_, ?_, ?_, ?_, ?_⟩
  all_goals first
  | rw [World.cell?_setCell_other _ _ _ _ (e _ _), World.cell?_setCell_other _ _ _ _ (e _ _), World.cell?_setCell_other _ _ _ _ (e _ _), World.cell?_setCell_other _ _ _ _ (e _ _)]; assumption
  | rw [World.frozen?_setCell, World.frozen?_setCell, World.frozen?_setCell, World.frozen?_setCell]; assumption
set_option maxHeartbeats 2000000 in
theorem level9 (t l p d now n : Int) (w : World) : Calls Tryd.prog 9 #[.agg #[.int .i64 t, .int .i64 l, .int .i64 p, .int .i64 d], .int .i64 now, .int .i64 n] w fun e w' =>
    e = .returned (.bool (decide (okNow t l p d now) && decide (advT t l p d now = n))) ∧ Below w.heap.size w w' := by
  have LV := Lib.hid (level6 t l p d now)
  by_cases h : okNow t l p d now
  · by_cases h2 : advT t l p d now = n
    · have g2 : (advT t l p d now == n) = true := beq_iff_eq.mpr h2
      have H := Lib.hid (show (decide (okNow t l p d now) && decide (advT t l p d now = n)) = true by simp [h, h2])
      rw [H.out]
      simp only [if_pos h] at LV
      clear h h2
      go_enter Tryd.func9, Tryd.ntmps9
      go_wp2_with fail
      refine (LV.out _).mono ?_
      rintro e w1 ⟨rfl, hb⟩
      go_wp2_with fail
      go_ret
      exact ⟨rfl, ((Below.refl _ _).alloc (Nat.le_refl _) _).trans (hb.mono (by simp))⟩
    · have g2 : (advT t l p d now == n) = false := beq_eq_false_iff_ne.mpr h2
      have H := Lib.hid (show (decide (okNow t l p d now) && decide (advT t l p d now = n)) = false by simp [h, h2])
      rw [H.out]
      simp only [if_pos h] at LV
      clear h h2
      go_enter Tryd.func9, Tryd.ntmps9
      go_wp2_with fail
      refine (LV.out _).mono ?_
      rintro e w1 ⟨rfl, hb⟩
      go_wp2_with fail
      go_ret
      exact ⟨rfl, ((Below.refl _ _).alloc (Nat.le_refl _) _).trans (hb.mono (by simp))⟩
  · have H := Lib.hid (show (decide (okNow t l p d now) && decide (advT t l p d now = n)) = false by simp [h])
    rw [H.out]
    simp only [if_neg h] at LV
    clear h
    go_enter Tryd.func9, Tryd.ntmps9
    go_wp2_with fail
    refine (LV.out _).mono ?_
    rintro e w1 ⟨rfl, hb⟩
    go_wp2_with fail
    go_ret
    exact ⟨rfl, ((Below.refl _ _).alloc (Nat.le_refl _) _).trans (hb.mono (by simp))⟩
set_option maxHeartbeats 2000000 in
theorem new8 (w : World) : Calls Tryd.prog 8 #[.int .i64 10, .int .i64 2, .int .i64 100] w fun e w' =>
    e = .returned (.tuple #[.agg #[.int .i64 2, .int .i64 100, .int .i64 10, .int .i64 2], .int .i64 0]) ∧ Below w.heap.size w w' := by
  have A := Bk.new w 0 0 0 0
  have aB := (Below.refl w.heap.size w).alloc (Nat.le_refl _) (.cells #[.int .i64 0, .int .i64 0, .int .i64 0, .int .i64 0] 24)
  have aS : (w.alloc (.cells #[.int .i64 0, .int .i64 0, .int .i64 0, .int .i64 0] 24)).heap.size = w.heap.size + 1 := by simp
  obtain ⟨wa, hwa⟩ : ∃ W, w.alloc (.cells #[.int .i64 0, .int .i64 0, .int .i64 0, .int .i64 0] 24) = W := ⟨_, rfl⟩
  rw [hwa] at A aB aS
  have B := Bk.new wa 2 100 10 2
  rw [aS] at B
  have A' := A.below ((Below.refl wa.heap.size wa).alloc (Nat.le_refl _) (.cells #[.int .i64 2, .int .i64 100, .int .i64 10, .int .i64 2] 24))
  have bB := aB.alloc aB.size (.cells #[.int .i64 2, .int .i64 100, .int .i64 10, .int .i64 2] 24)
  obtain ⟨wb, hwb⟩ : ∃ W, wa.alloc (.cells #[.int .i64 2, .int .i64 100, .int .i64 10, .int .i64 2] 24) = W := ⟨_, rfl⟩
  rw [hwb] at A' B bB
  have HB := Lib.hid B
  obtain ⟨b0, b1, b2, b3, _, _, _, _⟩ := B
  go_enter Tryd.func8, Tryd.ntmps8
  go_wp2_with fail
  refine (check10' 2 100 10 2 0 _ (by decide)).mono ?_
  rintro e w1 ⟨rfl, hb⟩
  have A1 := A'.below hb
  clear b0 b1 b2 b3
  obtain ⟨b0, b1, b2, b3, _, _, _, _⟩ := HB.out.below hb
  have A1' := A1
  obtain ⟨a0, a1, a2, a3, f0, f1, f2, f3⟩ := A1'
  have cB := bB.trans (hb.mono bB.size)
  clear A A'
  have HA := Lib.hid A1
  clear A1
  go_wp2_with fail
  have BZ := Bk.setB cB (Nat.le_refl _) 2 100 10 2
  obtain ⟨k0, k1, k2, k3, _, _, _, _⟩ := HA.out.set 2 100 10 2
  generalize (((w1.setCell ⟨w.heap.size, 0, none⟩ (.int .i64 2)).setCell ⟨w.heap.size, 1, none⟩ (.int .i64 100)).setCell ⟨w.heap.size, 2, none⟩ (.int .i64 10)).setCell ⟨w.heap.size, 3, none⟩ (.int .i64 2) = w9 at BZ k0 k1 k2 k3 ⊢
  exact bodyPost_ret (v := .tuple #[.agg #[.int .i64 2, .int .i64 100, .int .i64 10, .int .i64 2], .int .i64 0]) (by simp [results, Tryd.f8, go_sem, k0, k1, k2, k3]) rfl ⟨rfl, BZ⟩
set_option maxHeartbeats 4000000 in
theorem sane4 (w : World) : Calls Tryd.prog 4 #[] w fun e w' => e = .returned (.bool true) ∧ Below w.heap.size w w' := by
  have F1 : admitF 2 100 10 2 103 false = (1, 103, 10, 2, true, 0) := by decide
  have F2 : admitF 1 103 10 2 103 false = (0, 103, 10, 2, true, 0) := by decide
  have F3 : admitF 0 103 10 2 103 false = (0, 103, 10, 2, false, 0) := by decide
  have HF := Lib.hid (And.intro F1 (And.intro F2 F3))
  clear F1 F2 F3
  go_enter Tryd.func4, Tryd.ntmps4
  go_wp2_with fail
  refine (new8 _).mono ?_
  rintro e w1 ⟨rfl, hb⟩
  have aB := hb.alloc hb.size (.cells #[.int .i64 2, .int .i64 100, .int .i64 10, .int .i64 2] 24)
  have A := Bk.new w1 2 100 10 2
  obtain ⟨wa, hwa⟩ : ∃ W, w1.alloc (.cells #[.int .i64 2, .int .i64 100, .int .i64 10, .int .i64 2] 24) = W := ⟨_, rfl⟩
  rw [hwa] at aB A
  obtain ⟨a0, a1, a2, a3, _, _, _, _⟩ := A
  go_wp2_with fail
  refine (admit7 2 100 10 2 103 false _).mono ?_
  rintro e w2 ⟨⟨r1, r2, r3, r4, r5, r6, hF, rfl⟩, hb2⟩
  rw [HF.out.1] at hF
  simp only [Prod.mk.injEq] at hF
  obtain ⟨rfl, rfl, rfl, rfl, rfl, rfl⟩ := hF
  have B2 := aB.trans (hb2.mono aB.size)
  clear a0 a1 a2 a3 hwa
  have bB := B2.alloc B2.size (.cells #[.int .i64 1, .int .i64 103, .int .i64 10, .int .i64 2] 24)
  have A := Bk.new w2 1 103 10 2
  obtain ⟨wb, hwb⟩ : ∃ W, w2.alloc (.cells #[.int .i64 1, .int .i64 103, .int .i64 10, .int .i64 2] 24) = W := ⟨_, rfl⟩
  rw [hwb] at bB A
  obtain ⟨a0, a1, a2, a3, _, _, _, _⟩ := A
  go_wp2_with fail
  refine (admit7 1 103 10 2 103 false _).mono ?_
  rintro e w3 ⟨⟨r1, r2, r3, r4, r5, r6, hF, rfl⟩, hb3⟩
  rw [HF.out.2.1] at hF
  simp only [Prod.mk.injEq] at hF
  obtain ⟨rfl, rfl, rfl, rfl, rfl, rfl⟩ := hF
  have B3 := bB.trans (hb3.mono bB.size)
  clear a0 a1 a2 a3 hwb
  have cB := B3.alloc B3.size (.cells #[.int .i64 0, .int .i64 103, .int .i64 10, .int .i64 2] 24)
  have A := Bk.new w3 0 103 10 2
  obtain ⟨wc, hwc⟩ : ∃ W, w3.alloc (.cells #[.int .i64 0, .int .i64 103, .int .i64 10, .int .i64 2] 24) = W := ⟨_, rfl⟩
  rw [hwc] at cB A
  obtain ⟨a0, a1, a2, a3, _, _, _, _⟩ := A
  go_wp2_with fail
  refine (admit7 0 103 10 2 103 false _).mono ?_
  rintro e w4 ⟨⟨r1, r2, r3, r4, r5, r6, hF, rfl⟩, hb4⟩
  rw [HF.out.2.2] at hF
  simp only [Prod.mk.injEq] at hF
  obtain ⟨rfl, rfl, rfl, rfl, rfl, rfl⟩ := hF
  have B4 := cB.trans (hb4.mono cB.size)
  clear a0 a1 a2 a3 hwc
  have dB := B4.alloc B4.size (.cells #[.int .i64 0, .int .i64 103, .int .i64 10, .int .i64 2] 24)
  have A := Bk.new w4 0 103 10 2
  obtain ⟨wd, hwd⟩ : ∃ W, w4.alloc (.cells #[.int .i64 0, .int .i64 103, .int .i64 10, .int .i64 2] 24) = W := ⟨_, rfl⟩
  rw [hwd] at dB A
  have A4 := A
  obtain ⟨a0, a1, a2, a3, _, _, _, _⟩ := A
  have HA4 := Lib.hid A4
  clear A4
  go_wp2_with fail
  refine (level9 0 103 10 2 112 0 _).mono ?_
  rintro e w5 ⟨rfl, hb5⟩
  have B5 := dB.trans (hb5.mono dB.size)
  have g5 : (decide (okNow 0 103 10 2 112) && decide (advT 0 103 10 2 112 = 0)) = true := by decide
  rw [g5]
  clear a0 a1 a2 a3 g5 hwd
  have A5 := HA4.out.below hb5
  have HA5 := Lib.hid A5
  obtain ⟨a0, a1, a2, a3, _, _, _, _⟩ := A5
  go_wp2_with fail
  refine (level9 0 103 10 2 113 1 _).mono ?_
  rintro e w6 ⟨rfl, hb6⟩
  have B6 := B5.trans (hb6.mono B5.size)
  have g5 : (decide (okNow 0 103 10 2 113) && decide (advT 0 103 10 2 113 = 1)) = true := by decide
  rw [g5]
  clear a0 a1 a2 a3 g5
  have A6 := HA5.out.below hb6
  have HA6 := Lib.hid A6
  obtain ⟨a0, a1, a2, a3, _, _, _, _⟩ := A6
  go_wp2_with fail
  refine (level9 0 103 10 2 123 2 _).mono ?_
  rintro e w7 ⟨rfl, hb7⟩
  have B7 := B6.trans (hb7.mono B6.size)
  have g5 : (decide (okNow 0 103 10 2 123) && decide (advT 0 103 10 2 123 = 2)) = true := by decide
  rw [g5]
  clear a0 a1 a2 a3 g5
  have A7 := HA6.out.below hb7
  have HA7 := Lib.hid A7
  obtain ⟨a0, a1, a2, a3, _, _, _, _⟩ := A7
  go_wp2_with fail
  refine (level9 0 103 10 2 9999 2 _).mono ?_
  rintro e w8 ⟨rfl, hb8⟩
  have B8 := B7.trans (hb8.mono B7.size)
  have g5 : (decide (okNow 0 103 10 2 9999) && decide (advT 0 103 10 2 9999 = 2)) = true := by decide
  rw [g5]
  clear a0 a1 a2 a3 g5
  go_wp2_with fail
  refine (check10' 0 0 0 0 1 _ (by decide)).mono ?_
  rintro e w9 ⟨rfl, hb9⟩
  have B9 := B8.trans (hb9.mono B8.size)
  go_wp2_with fail
  go_ret
  exact ⟨rfl, B9⟩
end Go.Proofs.YtpmkbpphlokbjaaDoor.EM
