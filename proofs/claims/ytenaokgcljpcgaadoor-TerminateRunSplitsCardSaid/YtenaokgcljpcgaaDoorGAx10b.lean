-- written by wip/tools/doctor.py (the kit's print.py run with hand-given contracts); Lean checks it
import Derived.Test.YtenaokgcljpcgaaDoorGAx0
import Derived.Test.YtenaokgcljpcgaaDoorGAx1
import Derived.Test.YtenaokgcljpcgaaDoorGAx4
import Derived.Test.YtenaokgcljpcgaaDoorGAx4b
import Derived.Test.YtenaokgcljpcgaaDoorGAx5
import Derived.Test.YtenaokgcljpcgaaDoorGAx10
import Derived.Test.YtenaokgcljpcgaaDoorHA
namespace Go.Proofs.YtenaokgcljpcgaaDoor.GA
open Go.RowKit Go.Proofs.YtenaokgcljpcgaaDoorW.PrintWords Go.Proofs.YtenaokgcljpcgaaDoorW.PrintLast Go.Proofs.YtenaokgcljpcgaaDoorW.PrintMore
attribute [local go_sem] max2_int min2_int max_two min_two max_three min_three max_four min_four   -- for this text's walks alone
set_option linter.unusedVariables false
set_option linter.unusedSimpArgs false

attribute [local go_sem high] eqA23
/-! ### crossbarlaw17_TerminateRunSplits: function 5 -/
mutual
def crossbarlaw17_TerminateRunSplits.j0 : Nat → List (S25) → Int → Bool → Int → Option (Bool)
  | 0, _, _, _, _ => none
  | k + 1, x1, x2, x25, x373000 => if x25 = true then (some true) else ((terminate_Run.f k x373000 x1).bind fun bt374 => (if bt374.2.2 < 0 then (crossbarlaw17_TerminateRunSplits.j1 k x1 bt374.2.1 bt374.2.2 (mn x2 bt374.2.2) true x373000 bt374.1) else (crossbarlaw17_TerminateRunSplits.j1 k x1 bt374.2.1 bt374.2.2 (mn x2 bt374.2.2) (decide (bt374.2.2 > (x1.length : Int))) x373000 bt374.1)))
def crossbarlaw17_TerminateRunSplits.j1 : Nat → List (S25) → List (S46) → Int → Int → Bool → Int → Int → Option (Bool)
  | 0, _, _, _, _, _, _, _ => none
  | k + 1, x1, x8, x9, x10, x43, x373000, x380000 => if x43 = true then (none) else (if 0 ≤ x10 then (if x10 ≤ (x1.length : Int) then ((terminate_Run.f k x373000 (x1.take (x10 : Int).toNat)).bind fun bt384 => ((terminate_Run.f k bt384.1 (x1.drop (x10 : Int).toNat)).bind fun bt394 => ((terminate_Check.f x373000).bind fun t400 => (if t400 = 0 then (if bt384.2.2 = x10 then (if (x380000 == bt394.1) = true then (if ([] : List (S46)).length + bt384.2.1.length < 3518437208883 then ((some (([] : List (S46)) ++ bt384.2.1 : List (S46))).bind fun y401 => (if y401.length + bt394.2.1.length < 3518437208883 then ((crossbarref17_Same.f k x8 (y401 ++ bt394.2.1)).bind fun t407 => (if t407 = true then (some (x9 == (wrap64 (x10 + bt394.2.2)))) else (none))) else (none))) else (none)) else (none)) else (none)) else (if (x380000 == 0) = true then (if (x8.length : Int) = 0 then (some (x9 == 0)) else (none)) else (none)))))) else (none)) else (none))
end
def crossbarlaw17_TerminateRunSplits.f (k : Nat) (a0_0 : Int) (l1 : List (S25)) (a2 : Int) : Option (Bool) := (crossbarlaw17_sane.f k).bind fun t373 => (if t373 = true then (if (l1.length : Int) > 100 then (crossbarlaw17_TerminateRunSplits.j0 k l1 a2 true a0_0) else (crossbarlaw17_TerminateRunSplits.j0 k l1 a2 (decide (a2 < 0)) a0_0)) else (none))
theorem crossbarlaw17_TerminateRunSplits.mono_l : ∀ k, (∀ y0 y1 y2 y3, LeO (crossbarlaw17_TerminateRunSplits.j0 k y0 y1 y2 y3) (crossbarlaw17_TerminateRunSplits.j0 (k + 1) y0 y1 y2 y3)) ∧ (∀ y0 y1 y2 y3 y4 y5 y6, LeO (crossbarlaw17_TerminateRunSplits.j1 k y0 y1 y2 y3 y4 y5 y6) (crossbarlaw17_TerminateRunSplits.j1 (k + 1) y0 y1 y2 y3 y4 y5 y6))
  | 0 => ⟨fun _ _ _ _ r h => by simp [crossbarlaw17_TerminateRunSplits.j0] at h, fun _ _ _ _ _ _ _ r h => by simp [crossbarlaw17_TerminateRunSplits.j1] at h⟩
  | k + 1 => by
    obtain ⟨ih0, ih1⟩ := crossbarlaw17_TerminateRunSplits.mono_l k
    refine ⟨?_, ?_⟩
    · intro y0 y1 y2 y3
      unfold crossbarlaw17_TerminateRunSplits.j0
      repeat' first
      | (with_reducible exact ih0 _ _ _ _)
      | (with_reducible exact ih1 _ _ _ _ _ _ _)
      | (with_reducible exact crossbarlaw17_sane.mono _)
      | (with_reducible exact crossbarref17_Same.mono _ _ _)
      | (with_reducible exact terminate_Run.mono _ _ _)
      | (with_reducible exact LeO.refl _)
      | (with_reducible exact LeO.none _)
      | (with_reducible refine LeO.ite ?_ ?_)
      | (with_reducible refine LeO.bind ?_ (fun _ => ?_))
      | exact ih0 _ _ _ _
      | exact ih1 _ _ _ _ _ _ _
      | exact crossbarlaw17_sane.mono _
      | exact crossbarref17_Same.mono _ _ _
      | exact terminate_Run.mono _ _ _
      | exact LeO.none _
      | refine LeO.ite ?_ ?_
      | refine LeO.bind ?_ (fun _ => ?_)
    · intro y0 y1 y2 y3 y4 y5 y6
      unfold crossbarlaw17_TerminateRunSplits.j1
      repeat' first
      | (with_reducible exact ih0 _ _ _ _)
      | (with_reducible exact ih1 _ _ _ _ _ _ _)
      | (with_reducible exact crossbarlaw17_sane.mono _)
      | (with_reducible exact crossbarref17_Same.mono _ _ _)
      | (with_reducible exact terminate_Run.mono _ _ _)
      | (with_reducible exact LeO.refl _)
      | (with_reducible exact LeO.none _)
      | (with_reducible refine LeO.ite ?_ ?_)
      | (with_reducible refine LeO.bind ?_ (fun _ => ?_))
      | exact ih0 _ _ _ _
      | exact ih1 _ _ _ _ _ _ _
      | exact crossbarlaw17_sane.mono _
      | exact crossbarref17_Same.mono _ _ _
      | exact terminate_Run.mono _ _ _
      | exact LeO.none _
      | refine LeO.ite ?_ ?_
      | refine LeO.bind ?_ (fun _ => ?_)
theorem crossbarlaw17_TerminateRunSplits.mono : ∀ a0 a1 a2 k, LeO (crossbarlaw17_TerminateRunSplits.f k a0 a1 a2) (crossbarlaw17_TerminateRunSplits.f (k + 1) a0 a1 a2) := by
  intro a0 a1 a2 k
  obtain ⟨ih0, ih1⟩ := crossbarlaw17_TerminateRunSplits.mono_l k
  unfold crossbarlaw17_TerminateRunSplits.f
  repeat' first
      | (with_reducible exact ih0 _ _ _ _)
      | (with_reducible exact ih1 _ _ _ _ _ _ _)
      | (with_reducible exact crossbarlaw17_sane.mono _)
      | (with_reducible exact crossbarref17_Same.mono _ _ _)
      | (with_reducible exact terminate_Run.mono _ _ _)
      | (with_reducible exact LeO.refl _)
      | (with_reducible exact LeO.none _)
      | (with_reducible refine LeO.ite ?_ ?_)
      | (with_reducible refine LeO.bind ?_ (fun _ => ?_))
      | exact ih0 _ _ _ _
      | exact ih1 _ _ _ _ _ _ _
      | exact crossbarlaw17_sane.mono _
      | exact crossbarref17_Same.mono _ _ _
      | exact terminate_Run.mono _ _ _
      | exact LeO.none _
      | refine LeO.ite ?_ ?_
      | refine LeO.bind ?_ (fun _ => ?_)
def crossbarlaw17_TerminateRunSplits.T9 : Bool × List (List Nat × List Nat) := (true, [([], []), ([], []), ([], []), ([1, 2], [1, 2]), ([0, 3], [0, 3]), ([4], [4]), ([5], [5]), ([5], [5]), ([5], [5]), ([], []), ([9, 6, 4, 0, 1, 2, 3, 4, 5, 6, 9], [6, 9]), ([7, 10, 0, 1, 2, 3, 4, 5, 6, 7, 9, 10], [7]), ([8, 11, 0, 1, 2, 3, 4, 5, 6, 7, 8, 9, 10, 11], [8])])
def crossbarlaw17_TerminateRunSplits.B9 : List Nat := [0, 0, 0, 6, 15, 31, 63, 63, 63, 0, 639, 1791, 4095]
theorem crossbarlaw17_TerminateRunSplits.tab9 : rtab .any (opsOf Tryd.f5 9) = crossbarlaw17_TerminateRunSplits.T9 := by kernel_rfl
theorem crossbarlaw17_TerminateRunSplits.bits9 : waitsOk crossbarlaw17_TerminateRunSplits.T9.2 crossbarlaw17_TerminateRunSplits.B9 = true := by kernel_rfl
def crossbarlaw17_TerminateRunSplits.T10 : Bool × List (List Nat × List Nat) := (true, [([], []), ([], []), ([], []), ([1, 2], [1, 2]), ([0, 3], [0, 3]), ([4], [4]), ([5], [5]), ([5], [5]), ([5], [5]), ([], []), ([9, 6, 4, 0, 1, 2, 3, 4, 5, 6, 9], [6, 9]), ([7, 10, 0, 1, 2, 3, 4, 5, 6, 7, 9, 10], [7]), ([8, 11, 0, 1, 2, 3, 4, 5, 6, 7, 8, 9, 10, 11], [8])])
def crossbarlaw17_TerminateRunSplits.B10 : List Nat := [0, 0, 0, 6, 15, 31, 63, 63, 63, 0, 639, 1791, 4095]
theorem crossbarlaw17_TerminateRunSplits.tab10 : rtab .any (opsOf Tryd.f5 10) = crossbarlaw17_TerminateRunSplits.T10 := by kernel_rfl
theorem crossbarlaw17_TerminateRunSplits.bits10 : waitsOk crossbarlaw17_TerminateRunSplits.T10.2 crossbarlaw17_TerminateRunSplits.B10 = true := by kernel_rfl
set_option maxHeartbeats 8000000 in
set_option maxRecDepth 100000 in
theorem crossbarlaw17_TerminateRunSplits.calls (k : Nat) (a0_0 : Int) (A1 : Option Addr) (c1 : Nat) (l1 : List (S25)) (a2 : Int) (r : Bool) (w : World) (hr1 : Kd.C k25 w A1 l1.length l1) (hc1 : l1.length ≤ c1) (h : crossbarlaw17_TerminateRunSplits.f k a0_0 l1 a2 = some r) (hT : Tab w) :
    Calls Tryd.prog 5 #[.agg #[.int .i64 a0_0], .slice A1 l1.length c1, .int .i64 a2] w fun e w' => e = .returned (.bool r) ∧ Below w.heap.size w w' := by
  have HT := Aside0.mk hT
  clear hT
  have hu23 := Tryd.underlying23
  have HR1 := Aside0.mk hr1
  have HC1 := Aside0.mk hc1
  clear hr1 hc1
  have HB := Aside0.mk (Below.refl w.heap.size w)
  have H : ((crossbarlaw17_sane.f k).bind fun t373 => (if t373 = true then (if (l1.length : Int) > 100 then (crossbarlaw17_TerminateRunSplits.j0 k l1 a2 true a0_0) else (crossbarlaw17_TerminateRunSplits.j0 k l1 a2 (decide (a2 < 0)) a0_0)) else (none))) = some r := h
  clear h
  replace H := Option.bind_eq_some_iff.mp H
  obtain ⟨t373, A40, H⟩ := H
  replace H : (if t373 = true then (if (l1.length : Int) > 100 then (crossbarlaw17_TerminateRunSplits.j0 k l1 a2 true a0_0) else (crossbarlaw17_TerminateRunSplits.j0 k l1 a2 (decide (a2 < 0)) a0_0)) else (none)) = some r := H
  have A4 := Aside0.mk A40
  clear A40
  by_cases c5 : t373 = true
  · subst c5
    have H1 : (if (l1.length : Int) > 100 then (crossbarlaw17_TerminateRunSplits.j0 k l1 a2 true a0_0) else (crossbarlaw17_TerminateRunSplits.j0 k l1 a2 (decide (a2 < 0)) a0_0)) = some r := by rw [if_pos rfl] at H; exact H
    clear H
    have H := H1
    clear H1
    have HC6 := Aside0.mk H
    clear H
    go_enter Tryd.func5, Tryd.ntmps5
    go_upto_region 3 with (first | ((with_reducible refine gate_dst (N := 3) rfl ?_); (try (refine gate_guard (by rfl) ?_; dsimp only)); refine box_event ?hg (N := 3) ?hd (cs := #[.int .i64 a0_0]) (t := 23) ?hr ?_; (case hd => rfl); (case hg => rfl); (case hr => first | (go_simp; done) | (go_simp; rfl)); intro gb372 hg w7 hbox hb; have n0_ := Aside0.mk (below_step (by repeat (first | (with_reducible first | exact HB.out | apply below_alloc | apply pw_below_drewN | apply below_drew1) | exact HB.out)) hb); have n1_ := Aside0.mk (hbox); have n2_ := Aside0.mk ((by rw [hg]; exact (below_size (by repeat (first | (with_reducible first | exact HB.out | apply below_alloc | apply pw_below_drewN | apply below_drew1) | exact HB.out))) : w.heap.size ≤ gb372)); have n3_ := Aside0.mk ((by rw [hg]; exact (below_size (by repeat (first | (with_reducible first | exact HB.out | apply below_alloc | apply pw_below_drewN | apply below_drew1) | exact HB.out))) : w.heap.size ≤ gb372)); clear HB; have HB := n0_; have BK372 := n1_; have GW372 := n2_; have GE372 := n3_; clear n0_ n1_ n2_ n3_; clear hb hbox hg) | ((with_reducible refine gate_callee (f := 12) rfl ?_); refine goesL_ (some 17) rfl rfl Tryd.func12 (by kernel_rfl) rfl #[] rfl (by (try simp only [List.map_toArray, List.map_cons, List.map_nil]); first | done | rfl | (simp only [List.length_drop, List.length_take]; rfl)) ?_; (refine tabbed (w := w) HT.out (by repeat (first | (with_reducible first | exact HB.out | apply below_alloc | apply pw_below_drewN | apply below_drew1 | refine below_set ?_ GE372.out) | exact HB.out)) ?_); intro hT_; (with_reducible refine (crossbarlaw17_sane.calls k  true _ A4.out hT_).mono ?_); clear hT_; rintro e w8 ⟨rfl, hb⟩; refine ⟨_, rfl, ?_⟩; have n0_ := Aside0.mk (blk_below (g := gb372) (o := .cells #[.int .i64 a0_0] 23 (0, 0)) (by (with_reducible repeat (first | refine blk_drewN ?_ _ | refine blk_drew ?_ | refine blk_alloc ?_ _)); exact BK372.out) hb); have n1_ := Aside0.mk (below_step (by repeat (first | (with_reducible first | exact HB.out | apply below_alloc | apply pw_below_drewN | apply below_drew1 | refine below_set ?_ GE372.out) | exact HB.out)) hb); clear BK372; clear HB; have BK372 := n0_; have HB := n1_; clear n0_ n1_; (try clear hb); (try clear hb2); (try clear hk); (try clear hi)))
    (try simp only [Act.put, List.setIfInBounds_toArray, List.set_cons_zero, List.set_cons_succ])
    go_cut [25] (fun v25 wc => ∃ (kq : Nat) (x25_5 : Bool), v25 = .bool x25_5 ∧ Aside0 (crossbarlaw17_TerminateRunSplits.j0 kq l1 a2 x25_5 a0_0 = some r) ∧ Aside0 (kq ≤ k) ∧ Aside0 (wc.heap[gb372]? = some (.cells #[.int .i64 a0_0] 23 (0, 0))) ∧ Aside0 (Below w.heap.size w wc))
    case first =>
      have H := HC6.out
      clear HC6
      by_cases c9 : (l1.length : Int) > 100
      · rw [if_pos c9] at H
        have c9b0 : decide (100 < (l1.length : Int)) = true := decide_eq_true c9
        have c9b1 : decide (100 < l1.length) = true := decide_eq_true (by omega)
        clear c9
        (first | rw [c9b0] | (simp only [i64_w, i32_w]; rw [c9b0]) | skip)
        have H' := Aside0.mk H
        clear H
        go_wp2
        go_meet
        case rel => exact ⟨_, (true), (by first | rfl | (simp; done) | (simp [*]; done)), H', ⟨by first | omega | exact Nat.le_refl _⟩, ⟨by (with_reducible repeat (first | refine blk_drewN ?_ _ | refine blk_drew ?_ | refine blk_alloc ?_ _)); exact BK372.out⟩, ⟨by repeat (first | (with_reducible first | exact HB.out | apply below_alloc | apply pw_below_drewN | apply below_drew1 | refine below_set ?_ GE372.out) | exact HB.out)⟩⟩
      · rw [if_neg c9] at H
        have c9b0 : decide (100 < (l1.length : Int)) = false := decide_eq_false c9
        have c9b1 : decide (100 < l1.length) = false := decide_eq_false (by omega)
        clear c9
        (first | rw [c9b0] | (simp only [i64_w, i32_w]; rw [c9b0]) | skip)
        have H' := Aside0.mk H
        clear H
        go_wp2
        go_meet
        case rel => exact ⟨_, (decide (a2 < 0)), (by first | rfl | (simp; done) | (simp [*]; done)), H', ⟨by first | omega | exact Nat.le_refl _⟩, ⟨by (with_reducible repeat (first | refine blk_drewN ?_ _ | refine blk_drew ?_ | refine blk_alloc ?_ _)); exact BK372.out⟩, ⟨by repeat (first | (with_reducible first | exact HB.out | apply below_alloc | apply pw_below_drewN | apply below_drew1 | refine below_set ?_ GE372.out) | exact HB.out)⟩⟩
    case rest =>
      clear HC6
      try clear c1
      try clear p2
      try clear c5
      try clear c9
      try clear c9b0
      try clear c9b1
      obtain ⟨kq, x25_5, rfl, HA, HJ5, BK372, HB⟩ := hcut
      cases kq with
      | zero => exact absurd HA.out (by simp [crossbarlaw17_TerminateRunSplits.j0])
      | succ kj5 =>
        have H := HA.out
        clear HA
        simp only [crossbarlaw17_TerminateRunSplits.j0] at H
        by_cases c10 : x25_5 = true
        · subst c10
          have H1 : (some true) = some r := by rw [if_pos rfl] at H; exact H
          clear H
          have H := H1
          clear H1
          obtain rfl := Option.some.inj H
          go_wp2
          go_ret
          exact ⟨by first | rfl | (simp [errW_none, errW_some] <;> rfl) | (simp [*, errW_none, errW_some] <;> rfl), by repeat (first | (with_reducible first | exact HB.out | apply below_alloc | apply pw_below_drewN | apply below_drew1 | refine below_set ?_ GE372.out) | exact HB.out)⟩
        · replace c10 := Bool.eq_false_iff.mpr c10
          subst c10
          have H1 : ((terminate_Run.f kj5 a0_0 l1).bind fun bt374 => (if bt374.2.2 < 0 then (crossbarlaw17_TerminateRunSplits.j1 kj5 l1 bt374.2.1 bt374.2.2 (mn a2 bt374.2.2) true a0_0 bt374.1) else (crossbarlaw17_TerminateRunSplits.j1 kj5 l1 bt374.2.1 bt374.2.2 (mn a2 bt374.2.2) (decide (bt374.2.2 > (l1.length : Int))) a0_0 bt374.1))) = some r := by rw [if_neg (show ¬ (false = true) by decide)] at H; exact H
          clear H
          have H := H1
          clear H1
          replace H := Option.bind_eq_some_iff.mp H
          obtain ⟨⟨t374, t375, t378⟩, A110, H⟩ := H
          replace H : (if t378 < 0 then (crossbarlaw17_TerminateRunSplits.j1 kj5 l1 t375 t378 (mn a2 t378) true a0_0 t374) else (crossbarlaw17_TerminateRunSplits.j1 kj5 l1 t375 t378 (mn a2 t378) (decide (t378 > (l1.length : Int))) a0_0 t374)) = some r := H
          have A11 := Aside0.mk A110
          clear A110
          obtain ⟨ji12, hji12⟩ : ∃ j_ : Int, (mn a2 t378) = j_ := ⟨_, rfl⟩
          replace H : (if t378 < 0 then (crossbarlaw17_TerminateRunSplits.j1 kj5 l1 t375 t378 ji12 true a0_0 t374) else (crossbarlaw17_TerminateRunSplits.j1 kj5 l1 t375 t378 ji12 (decide (t378 > (l1.length : Int))) a0_0 t374)) = some r := by first | (rw [hji12] at H; exact H) | (simp only [hji12] at H ⊢; exact H)
          (try rw [hji12] at A11)
          have hji12_ : (if t378 < a2 then t378 else a2) = ji12 := hji12
          have HC13 := Aside0.mk H
          clear H
          have hcz14_0 : wc.cell? ⟨gb372, 0, none⟩ = some (.int .i64 a0_0) := (blk_cell BK372.out 0).trans rfl
          have hfz14_0 := blk_frozen BK372.out 0
          go_upto_region 7 with (first | ((with_reducible refine gate_callee (f := 18) rfl ?_); refine goesL_ (some 29) rfl rfl Tryd.func18 (by kernel_rfl) rfl #[.agg #[.int .i64 a0_0], .slice A1 l1.length c1] rfl (by (try simp only [List.map_toArray, List.map_cons, List.map_nil]); first | done | rfl | (simp only [List.length_drop, List.length_take]; rfl)) ?_; (refine tabbed (w := w) HT.out (by repeat (first | (with_reducible first | exact HB.out | apply below_alloc | apply pw_below_drewN | apply below_drew1 | refine below_set ?_ GE372.out) | exact HB.out)) ?_); intro hT_; (with_reducible refine (terminate_Run.calls kj5 a0_0 _ _ l1 t374 t375 t378 _ ?side1 ?side2 A11.out hT_).mono ?_); clear hT_; (case side1 => repeat (first | exact (Kd.C_below HR1.out HB.out) | (with_reducible refine Kd.C_alloc ?_ _) | (with_reducible refine Kd.C_drewN ?_ _) | (with_reducible refine Kd.C_drew ?_))); (case side2 => exact HC1.out); rintro e w15 ⟨v376, rfl, ho0, hb⟩; refine ⟨_, rfl, ?_⟩; have n0_ := Aside0.mk (Kd.R_lower ho0 (below_size (by repeat (first | (with_reducible first | exact HB.out | apply below_alloc | apply pw_below_drewN | apply below_drew1 | refine below_set ?_ GE372.out) | exact HB.out)))); have n1_ := Aside0.mk (blk_below (g := gb372) (o := .cells #[.int .i64 a0_0] 23 (0, 0)) (by (with_reducible repeat (first | refine blk_drewN ?_ _ | refine blk_drew ?_ | refine blk_alloc ?_ _)); exact BK372.out) hb); have n2_ := Aside0.mk (below_step (by repeat (first | (with_reducible first | exact HB.out | apply below_alloc | apply pw_below_drewN | apply below_drew1 | refine below_set ?_ GE372.out) | exact HB.out)) hb); clear BK372; clear HB; have HO377 := n0_; have BK372 := n1_; have HB := n2_; clear n0_ n1_ n2_; (try clear hb); (try clear hb2); (try clear hk); (try clear hi); (try clear ho0)) | ((with_reducible refine gate_dst (N := 7) rfl ?_); (try (refine gate_guard (by rfl) ?_; dsimp only)); refine box_event ?hg (N := 7) ?hd (cs := #[.int .i64 0]) (t := 23) ?hr ?_; (case hd => rfl); (case hg => rfl); (case hr => first | (go_simp; done) | (go_simp; rfl)); intro gb379 hg w16 hbox hb; have n0_ := Aside0.mk (Kd.R_below (by (with_reducible repeat (first | apply Kd.R_alloc | apply Kd.R_drewN | apply Kd.R_drew)); exact HO377.out) hb); have n1_ := Aside0.mk (blk_below (g := gb372) (o := .cells #[.int .i64 a0_0] 23 (0, 0)) (by (with_reducible repeat (first | refine blk_drewN ?_ _ | refine blk_drew ?_ | refine blk_alloc ?_ _)); exact BK372.out) hb); have n2_ := Aside0.mk (below_step (by repeat (first | (with_reducible first | exact HB.out | apply below_alloc | apply pw_below_drewN | apply below_drew1 | refine below_set ?_ GE372.out) | exact HB.out)) hb); have n3_ := Aside0.mk (hbox); have n4_ := Aside0.mk ((by rw [hg]; exact (below_size (by repeat (first | (with_reducible first | exact HB.out | apply below_alloc | apply pw_below_drewN | apply below_drew1 | refine below_set ?_ GE372.out) | exact HB.out))) : w.heap.size ≤ gb379)); have n5_ := Aside0.mk ((by rw [hg]; exact (below_size (by repeat (first | (with_reducible first | exact HB.out | apply below_alloc | apply pw_below_drewN | apply below_drew1 | refine below_set ?_ GE372.out) | exact HB.out))) : w.heap.size ≤ gb379)); have n6_ := Aside0.mk ((by rw [hg]; exact Nat.ne_of_lt (blk_lt (g := gb372) (o := .cells #[.int .i64 a0_0] 23 (0, 0)) (by (with_reducible repeat (first | refine blk_drewN ?_ _ | refine blk_drew ?_ | refine blk_alloc ?_ _)); exact BK372.out)) : gb372 ≠ gb379)); have n7_ := Aside0.mk ((by rw [hg]; exact Nat.ne_of_gt (blk_lt (g := gb372) (o := .cells #[.int .i64 a0_0] 23 (0, 0)) (by (with_reducible repeat (first | refine blk_drewN ?_ _ | refine blk_drew ?_ | refine blk_alloc ?_ _)); exact BK372.out)) : gb379 ≠ gb372)); clear HO377; clear BK372; clear HB; have HO377 := n0_; have BK372 := n1_; have HB := n2_; have BK379 := n3_; have GW379 := n4_; have GE379 := n5_; have NB372_379 := n6_; have NB379_372 := n7_; clear n0_ n1_ n2_ n3_ n4_ n5_ n6_ n7_; clear hb hbox hg; have hnb17 := NB379_372.out; have hnc17 := NB372_379.out; have hcz18_0 : w16.cell? ⟨gb379, 0, none⟩ = some (.int .i64 0) := (blk_cell BK379.out 0).trans rfl; have hfz18_0 := blk_frozen BK379.out 0))
          (try simp only [Act.put, List.setIfInBounds_toArray, List.set_cons_zero, List.set_cons_succ])
          go_cut [43] (fun v43 wc => ∃ (kq : Nat) (x43_12 : Bool), v43 = .bool x43_12 ∧ Aside0 (crossbarlaw17_TerminateRunSplits.j1 kq l1 t375 t378 ji12 x43_12 a0_0 t374 = some r) ∧ Aside0 (kq ≤ kj5) ∧ Aside0 (Kd.R k46 46 wc w.heap.size (fun _ => True) v376 t375) ∧ Aside0 (wc.heap[gb372]? = some (.cells #[.int .i64 a0_0] 23 (0, 0))) ∧ Aside0 (wc.heap[gb379]? = some (.cells #[.int .i64 t374] 23 (0, 0))) ∧ Aside0 (Below w.heap.size w wc))
          case first =>
            have H := HC13.out
            clear HC13
            by_cases c19 : t378 < 0
            · rw [if_pos c19] at H
              have c19b0 : decide (t378 < 0) = true := decide_eq_true c19
              clear c19
              (first | rw [c19b0] | (simp only [i64_w, i32_w]; rw [c19b0]) | skip)
              have H' := Aside0.mk H
              clear H
              go_wp2
              go_meet
              case rel => exact ⟨_, (true), (by first | rfl | (simp; done) | (simp [*]; done)), H', ⟨by have := HJ5.out; first | omega | exact Nat.le_refl _⟩, ⟨by (with_reducible repeat (first | apply Kd.R_alloc | apply Kd.R_drewN | apply Kd.R_drew)); exact Kd.R_mono (Kd.R_far (p := ⟨gb379, 0, none⟩) (Kd.R_types HO377.out BK379.out (by decide)) (fun _ hk => hk.2) (.int .i64 t374)) (fun _ hk => trivial)⟩, ⟨by (with_reducible repeat (first | refine blk_drewN ?_ _ | refine blk_drew ?_ | refine blk_alloc ?_ _)); refine blk_far ?_ NB372_379.out _; (with_reducible repeat (first | refine blk_drewN ?_ _ | refine blk_drew ?_ | refine blk_alloc ?_ _)); exact BK372.out⟩, ⟨by (with_reducible repeat (first | refine blk_drewN ?_ _ | refine blk_drew ?_ | refine blk_alloc ?_ _)); refine blk_put (cs := #[.int .i64 0]) ?_ 0 _ rfl; (with_reducible repeat (first | refine blk_drewN ?_ _ | refine blk_drew ?_ | refine blk_alloc ?_ _)); exact BK379.out⟩, ⟨by repeat (first | (with_reducible first | exact HB.out | apply below_alloc | apply pw_below_drewN | apply below_drew1 | refine below_set ?_ GE372.out | refine below_set ?_ GE379.out) | exact HB.out)⟩⟩
            · rw [if_neg c19] at H
              have c19b0 : decide (t378 < 0) = false := decide_eq_false c19
              clear c19
              (first | rw [c19b0] | (simp only [i64_w, i32_w]; rw [c19b0]) | skip)
              have H' := Aside0.mk H
              clear H
              go_wp2
              go_meet
              case rel => exact ⟨_, (decide (t378 > (l1.length : Int))), (by first | rfl | (simp; done) | (simp [*]; done)), H', ⟨by have := HJ5.out; first | omega | exact Nat.le_refl _⟩, ⟨by (with_reducible repeat (first | apply Kd.R_alloc | apply Kd.R_drewN | apply Kd.R_drew)); exact Kd.R_mono (Kd.R_far (p := ⟨gb379, 0, none⟩) (Kd.R_types HO377.out BK379.out (by decide)) (fun _ hk => hk.2) (.int .i64 t374)) (fun _ hk => trivial)⟩, ⟨by (with_reducible repeat (first | refine blk_drewN ?_ _ | refine blk_drew ?_ | refine blk_alloc ?_ _)); refine blk_far ?_ NB372_379.out _; (with_reducible repeat (first | refine blk_drewN ?_ _ | refine blk_drew ?_ | refine blk_alloc ?_ _)); exact BK372.out⟩, ⟨by (with_reducible repeat (first | refine blk_drewN ?_ _ | refine blk_drew ?_ | refine blk_alloc ?_ _)); refine blk_put (cs := #[.int .i64 0]) ?_ 0 _ rfl; (with_reducible repeat (first | refine blk_drewN ?_ _ | refine blk_drew ?_ | refine blk_alloc ?_ _)); exact BK379.out⟩, ⟨by repeat (first | (with_reducible first | exact HB.out | apply below_alloc | apply pw_below_drewN | apply below_drew1 | refine below_set ?_ GE372.out | refine below_set ?_ GE379.out) | exact HB.out)⟩⟩
          case rest =>
            clear HC13
            try clear c1
            try clear p2
            try clear c5
            try clear c9
            try clear c9b0
            try clear c9b1
            try clear c10
            try clear c12
            try clear c17
            try clear c18
            try clear c19
            try clear c19b0
            try clear hcz14_0
            try clear hcz18_0
            try clear hfz14_0
            try clear hfz18_0
            try clear p2
            obtain ⟨kq, x43_12, rfl, HA, HJ12, HO_8, BK372, BK379, HB⟩ := hcut
            cases kq with
            | zero => exact absurd HA.out (by simp [crossbarlaw17_TerminateRunSplits.j1])
            | succ kj12 =>
              have H := HA.out
              clear HA
              simp only [crossbarlaw17_TerminateRunSplits.j1] at H
              by_cases c20 : x43_12 = true
              · subst c20
                have H1 : (none) = some r := by rw [if_pos rfl] at H; exact H
                clear H
                have H := H1
                clear H1
                exact absurd H (by simp)
              · replace c20 := Bool.eq_false_iff.mpr c20
                subst c20
                have H1 : (if 0 ≤ ji12 then (if ji12 ≤ (l1.length : Int) then ((terminate_Run.f kj12 a0_0 (l1.take (ji12 : Int).toNat)).bind fun bt384 => ((terminate_Run.f kj12 bt384.1 (l1.drop (ji12 : Int).toNat)).bind fun bt394 => ((terminate_Check.f a0_0).bind fun t400 => (if t400 = 0 then (if bt384.2.2 = ji12 then (if (t374 == bt394.1) = true then (if ([] : List (S46)).length + bt384.2.1.length < 3518437208883 then ((some (([] : List (S46)) ++ bt384.2.1 : List (S46))).bind fun y401 => (if y401.length + bt394.2.1.length < 3518437208883 then ((crossbarref17_Same.f kj12 t375 (y401 ++ bt394.2.1)).bind fun t407 => (if t407 = true then (some (t378 == (wrap64 (ji12 + bt394.2.2)))) else (none))) else (none))) else (none)) else (none)) else (none)) else (if (t374 == 0) = true then (if (t375.length : Int) = 0 then (some (t378 == 0)) else (none)) else (none)))))) else (none)) else (none)) = some r := by rw [if_neg (show ¬ (false = true) by decide)] at H; exact H
                clear H
                have H := H1
                clear H1
                by_cases c21 : 0 ≤ ji12
                · rw [if_pos c21] at H
                  have c21b0 := eq_true c21
                  have c21b1 : decide (0 ≤ ji12) = true := decide_eq_true c21
                  clear c21
                  by_cases c22 : ji12 ≤ (l1.length : Int)
                  · rw [if_pos c22] at H
                    have c22b0 := eq_true c22
                    have c22b1 : decide (ji12 ≤ (l1.length : Int)) = true := decide_eq_true c22
                    clear c22
                    obtain ⟨y380, hy380⟩ : ∃ y_ : List (S25), y_ = (l1.take (ji12 : Int).toNat) := ⟨_, rfl⟩
                    replace H : ((terminate_Run.f kj12 a0_0 y380).bind fun bt384 => ((terminate_Run.f kj12 bt384.1 (l1.drop (ji12 : Int).toNat)).bind fun bt394 => ((terminate_Check.f a0_0).bind fun t400 => (if t400 = 0 then (if bt384.2.2 = ji12 then (if (t374 == bt394.1) = true then (if ([] : List (S46)).length + bt384.2.1.length < 3518437208883 then ((some (([] : List (S46)) ++ bt384.2.1 : List (S46))).bind fun y401 => (if y401.length + bt394.2.1.length < 3518437208883 then ((crossbarref17_Same.f kj12 t375 (y401 ++ bt394.2.1)).bind fun t407 => (if t407 = true then (some (t378 == (wrap64 (ji12 + bt394.2.2)))) else (none))) else (none))) else (none)) else (none)) else (none)) else (if (t374 == 0) = true then (if (t375.length : Int) = 0 then (some (t378 == 0)) else (none)) else (none)))))) = some r := by first | (rw [hy380]; with_reducible exact H) | (have H2_ := (Option.bind_some _ _).symm.trans H; rw [hy380]; with_reducible exact H2_) | (have H2_ := (Option.bind_some _ _).symm.trans H; with_reducible exact H2_) | with_reducible exact H | (rw [hy380]; exact H) | exact H
                    have Ny380 := Aside0.mk hy380
                    clear hy380
                    replace H := Option.bind_eq_some_iff.mp H
                    obtain ⟨⟨t384, t385, t388⟩, A230, H⟩ := H
                    replace H : ((terminate_Run.f kj12 t384 (l1.drop (ji12 : Int).toNat)).bind fun bt394 => ((terminate_Check.f a0_0).bind fun t400 => (if t400 = 0 then (if t388 = ji12 then (if (t374 == bt394.1) = true then (if ([] : List (S46)).length + t385.length < 3518437208883 then ((some (([] : List (S46)) ++ t385 : List (S46))).bind fun y401 => (if y401.length + bt394.2.1.length < 3518437208883 then ((crossbarref17_Same.f kj12 t375 (y401 ++ bt394.2.1)).bind fun t407 => (if t407 = true then (some (t378 == (wrap64 (ji12 + bt394.2.2)))) else (none))) else (none))) else (none)) else (none)) else (none)) else (if (t374 == 0) = true then (if (t375.length : Int) = 0 then (some (t378 == 0)) else (none)) else (none))))) = some r := H
                    have A23 := Aside0.mk A230
                    clear A230
                    have c24b0 := eq_true (of_decide_eq_true (by first | (with_reducible assumption) | assumption) : 0 ≤ ji12)
                    have c25b0 := eq_true (of_decide_eq_true (by first | (with_reducible assumption) | assumption) : ji12 ≤ (l1.length : Int))
                    obtain ⟨y390, hy390⟩ : ∃ y_ : List (S25), y_ = (l1.drop (ji12 : Int).toNat) := ⟨_, rfl⟩
                    replace H : ((terminate_Run.f kj12 t384 y390).bind fun bt394 => ((terminate_Check.f a0_0).bind fun t400 => (if t400 = 0 then (if t388 = ji12 then (if (t374 == bt394.1) = true then (if ([] : List (S46)).length + t385.length < 3518437208883 then ((some (([] : List (S46)) ++ t385 : List (S46))).bind fun y401 => (if y401.length + bt394.2.1.length < 3518437208883 then ((crossbarref17_Same.f kj12 t375 (y401 ++ bt394.2.1)).bind fun t407 => (if t407 = true then (some (t378 == (wrap64 (ji12 + bt394.2.2)))) else (none))) else (none))) else (none)) else (none)) else (none)) else (if (t374 == 0) = true then (if (t375.length : Int) = 0 then (some (t378 == 0)) else (none)) else (none))))) = some r := by first | (rw [hy390]; with_reducible exact H) | (have H2_ := (Option.bind_some _ _).symm.trans H; rw [hy390]; with_reducible exact H2_) | (have H2_ := (Option.bind_some _ _).symm.trans H; with_reducible exact H2_) | with_reducible exact H | (rw [hy390]; exact H) | exact H
                    have Ny390 := Aside0.mk hy390
                    clear hy390
                    replace H := Option.bind_eq_some_iff.mp H
                    obtain ⟨⟨t394, t395, t398⟩, A260, H⟩ := H
                    replace H : ((terminate_Check.f a0_0).bind fun t400 => (if t400 = 0 then (if t388 = ji12 then (if (t374 == t394) = true then (if ([] : List (S46)).length + t385.length < 3518437208883 then ((some (([] : List (S46)) ++ t385 : List (S46))).bind fun y401 => (if y401.length + t395.length < 3518437208883 then ((crossbarref17_Same.f kj12 t375 (y401 ++ t395)).bind fun t407 => (if t407 = true then (some (t378 == (wrap64 (ji12 + t398)))) else (none))) else (none))) else (none)) else (none)) else (none)) else (if (t374 == 0) = true then (if (t375.length : Int) = 0 then (some (t378 == 0)) else (none)) else (none)))) = some r := H
                    have A26 := Aside0.mk A260
                    clear A260
                    replace H := Option.bind_eq_some_iff.mp H
                    obtain ⟨t400, A270, H⟩ := H
                    replace H : (if t400 = 0 then (if t388 = ji12 then (if (t374 == t394) = true then (if ([] : List (S46)).length + t385.length < 3518437208883 then ((some (([] : List (S46)) ++ t385 : List (S46))).bind fun y401 => (if y401.length + t395.length < 3518437208883 then ((crossbarref17_Same.f kj12 t375 (y401 ++ t395)).bind fun t407 => (if t407 = true then (some (t378 == (wrap64 (ji12 + t398)))) else (none))) else (none))) else (none)) else (none)) else (none)) else (if (t374 == 0) = true then (if (t375.length : Int) = 0 then (some (t378 == 0)) else (none)) else (none))) = some r := H
                    have A27 := Aside0.mk A270
                    clear A270
                    by_cases c28 : t400 = 0
                    · rw [if_pos c28] at H
                      have c28b0 : (t400 == 0) = true := beq_iff_eq.mpr c28
                      have c28b1 : (t400 != 0) = false := bne_eq_false_iff_eq.mpr c28
                      clear c28
                      by_cases c29 : t388 = ji12
                      · rw [if_pos c29] at H
                        have c29b0 : (t388 == ji12) = true := beq_iff_eq.mpr c29
                        have c29b1 : (t388 != ji12) = false := bne_eq_false_iff_eq.mpr c29
                        clear c29
                        by_cases c30 : (t374 == t394) = true
                        · rw [if_pos c30] at H
                          have c30b0 : (t374 == t394) = true := c30
                          (try (have c30b1 : decide (t374 = t394) = true := by simpa using c30))
                          (try (have c30b2 : (t374 == t394) = true := by simpa using c30))
                          clear c30
                          by_cases c31 : ([] : List (S46)).length + t385.length < 3518437208883
                          · rw [if_pos c31] at H
                            have LMc31 := Aside0.mk c31
                            clear c31
                            obtain ⟨y401, hy401⟩ : ∃ y_ : List (S46), y_ = (([] : List (S46)) ++ t385) := ⟨_, rfl⟩
                            replace H : (if y401.length + t395.length < 3518437208883 then ((crossbarref17_Same.f kj12 t375 (y401 ++ t395)).bind fun t407 => (if t407 = true then (some (t378 == (wrap64 (ji12 + t398)))) else (none))) else (none)) = some r := by first | (rw [hy401]; with_reducible exact H) | (have H2_ := (Option.bind_some _ _).symm.trans H; rw [hy401]; with_reducible exact H2_) | (have H2_ := (Option.bind_some _ _).symm.trans H; with_reducible exact H2_) | with_reducible exact H | (rw [hy401]; exact H) | exact H
                            have Ny401 := Aside0.mk hy401
                            clear hy401
                            by_cases c32 : y401.length + t395.length < 3518437208883
                            · rw [if_pos c32] at H
                              have LMc32 := Aside0.mk c32
                              clear c32
                              obtain ⟨y404, hy404⟩ : ∃ y_ : List (S46), y_ = (y401 ++ t395) := ⟨_, rfl⟩
                              replace H : ((crossbarref17_Same.f kj12 t375 y404).bind fun t407 => (if t407 = true then (some (t378 == (wrap64 (ji12 + t398)))) else (none))) = some r := by first | (rw [hy404]; with_reducible exact H) | (have H2_ := (Option.bind_some _ _).symm.trans H; rw [hy404]; with_reducible exact H2_) | (have H2_ := (Option.bind_some _ _).symm.trans H; with_reducible exact H2_) | with_reducible exact H | (rw [hy404]; exact H) | exact H
                              have Ny404 := Aside0.mk hy404
                              clear hy404
                              replace H := Option.bind_eq_some_iff.mp H
                              obtain ⟨t407, A330, H⟩ := H
                              replace H : (if t407 = true then (some (t378 == (wrap64 (ji12 + t398)))) else (none)) = some r := H
                              have A33 := Aside0.mk A330
                              clear A330
                              by_cases c34 : t407 = true
                              · subst c34
                                have H1 : (some (t378 == (wrap64 (ji12 + t398)))) = some r := by rw [if_pos rfl] at H; exact H
                                clear H
                                have H := H1
                                clear H1
                                obtain rfl := Option.some.inj H
                                try go_wp2
                                have n0_ := Aside0.mk (Kd.R_drew HO_8.out)
                                have n1_ := Aside0.mk (blk_drew BK372.out)
                                have n2_ := Aside0.mk (blk_drew BK379.out)
                                have n3_ := Aside0.mk (below_drew1 HB.out)
                                clear HO_8
                                clear BK372
                                clear BK379
                                clear HB
                                have HO_8 := n0_
                                have BK372 := n1_
                                have BK379 := n2_
                                have HB := n3_
                                clear n0_ n1_ n2_ n3_
                                have q36 : (ji12 : Int) ≤ ((l1.length : Int) : Int) := of_decide_eq_true (by first | (with_reducible assumption) | assumption)
                                obtain ⟨i036, hi036, _, hsz36, _⟩ := info_parts info25
                                have hroom36 : l1.length ≤ c1 := HC1.out
                                have hC36 : Kd.C k25 _ A1 l1.length l1 := HR1.out
                                have hcut36 := cut_to (P := Tryd.prog) 34 25 .i64 Tryd.underlying34 hi036 A1 l1.length c1 ji12 (of_decide_eq_true (by first | (with_reducible assumption) | assumption)) q36 hroom36
                                have hr36 := Kd.C_take (m := (ji12 : Int).toNat) hC36 (by omega)
                                have hy36 : y380.length = (ji12 : Int).toNat := (by rw [Ny380.out, List.length_take]; omega)
                                rw [← Ny380.out] at hr36
                                rw [← hy36] at hcut36
                                have HR383 := Aside0.mk hr36
                                have HC383 := Aside0.mk (show y380.length ≤ c1 from by omega)
                                clear hr36 hC36 hroom36 hi036 hsz36
                                have KY36 := Aside0.mk hy36
                                clear hy36
                                replace q36 := eq_true q36
                                refine start_ (n := 13) (S := fun w' => w'.cell? ⟨gb372, 0, none⟩ = some (.int .i64 a0_0)) (ds := []) #[false, false, false, false, false, false, false, false, false, false, false, false, false] (by kernel_rfl) rfl rfl ((blk_cell BK372.out 0).trans rfl) (fun hHeld => ?_); refine with_tabW crossbarlaw17_TerminateRunSplits.tab9 crossbarlaw17_TerminateRunSplits.bits9 (fun HT_ HW_ => ?_)
                                generalize wc.drew = w35 at HO_8 BK372 BK379 HB HR383 hHeld ⊢
                                refine pure_ (i := 1) (N := some 46) (v := ?_) (a' := ?_) #[false, true, false, false, false, false, false, false, false, false, false, false, false] rfl rfl (any_of HT_.out (by kernel_rfl)) (fun _ _ _ h => h) (Or.inl ⟨by rfl, ?_⟩) ?_ ?_
                                rotate_left
                                · intro w'
                                  go_simp
                                  with_reducible rfl
                                rotate_left
                                · simp only [Act.put, List.setIfInBounds_toArray, List.set_cons_zero, List.set_cons_succ, i64_w, i32_w]
                                  rfl
                                refine pure_ (i := 2) (N := some 47) (v := ?_) (a' := ?_) #[false, true, true, false, false, false, false, false, false, false, false, false, false] rfl rfl (any_of HT_.out (by kernel_rfl)) (fun _ _ _ h => h) (Or.inl ⟨by rfl, ?_⟩) ?_ ?_
                                rotate_left
                                · intro w'
                                  go_simp
                                  with_reducible rfl
                                rotate_left
                                · simp only [Act.put, List.setIfInBounds_toArray, List.set_cons_zero, List.set_cons_succ, i64_w, i32_w]
                                  rfl
                                refine pure_ (i := 3) (N := some 48) (v := ?_) (a' := ?_) #[false, true, true, true, false, false, false, false, false, false, false, false, false] rfl rfl (any_of HT_.out (by kernel_rfl)) (fun _ _ _ h => h) (Or.inl ⟨by rfl, ?_⟩) ?_ ?_
                                rotate_left
                                · intro w'
                                  go_simp
                                  with_reducible rfl
                                rotate_left
                                · simp only [Act.put, List.setIfInBounds_toArray, List.set_cons_zero, List.set_cons_succ, i64_w, i32_w]
                                  rfl
                                refine take_ (i := 0) (N := some 45) (v := ?_) (a' := ?_) #[true, true, true, true, false, false, false, false, false, false, false, false, false] rfl rfl (take_ofW HT_.out HW_.out (by kernel_rfl)) (fun _ _ _ h => h) (Or.inl ⟨by rfl, ?_⟩) hHeld ?_ ?_
                                rotate_left
                                · intro w' s0
                                  go_simp
                                  with_reducible rfl
                                rotate_left
                                · simp only [Act.put, List.setIfInBounds_toArray, List.set_cons_zero, List.set_cons_succ, i64_w, i32_w]
                                  rfl
                                refine join_ (σ := Value × Nat) 3 #[true, true, true, true, true, true, true, true, true, true, false, false, false] (fun s_ => [(49, .tuple #[.agg #[.int .i64 t384], s_.1, .int .i64 t388]), (11, .pointer (some ⟨s_.2, 0, none⟩)), (44, .tuple #[.agg #[.int .i64 t384], s_.1, .int .i64 t388]), (50, .agg #[.int .i64 t384]), (51, s_.1), (52, .int .i64 t388)]) (fun s_ w' => (w'.cell? ⟨gb372, 0, none⟩ = some (.int .i64 a0_0)) ∧ (Kd.R k46 46 w' w.heap.size (fun k_ => some k_ ≠ (v376 : Value).ownBlock) s_.1 t385) ∧ (Kd.R k46 46 w' w.heap.size (fun k_ => some k_ ≠ (s_.1 : Value).ownBlock) v376 t375) ∧ (w'.heap[gb372]? = some (.cells #[.int .i64 a0_0] 23 (0, 0))) ∧ (w'.heap[gb379]? = some (.cells #[.int .i64 t374] 23 (0, 0))) ∧ (w'.heap[s_.2]? = some (.cells #[.int .i64 0] 23 (0, 0))) ∧ (w.heap.size ≤ s_.2) ∧ (w.heap.size ≤ s_.2) ∧ (gb372 ≠ s_.2) ∧ (s_.2 ≠ gb372) ∧ (gb379 ≠ s_.2) ∧ (s_.2 ≠ gb379) ∧ (Below w.heap.size w w')) ?_ ?_
                                rotate_left
                                · intro hCont
                                  refine two_ (i := 4) (j := 9) (Ni := some 49) (Nj := some 11) #[true, true, true, true, true, false, false, false, false, false, false, false, false] #[true, true, true, true, false, false, false, false, false, true, false, false, false] rfl rfl rfl rfl (two_of HT_.out (by kernel_rfl)) (by decide) (by decide) (fun K hK => ?_) (fun K hK => ?_)
                                  · skip
                                    refine goes_ Tryd.func18 (by kernel_rfl) rfl #[.agg #[.int .i64 a0_0], .slice A1 y380.length c1] (by rfl) rfl rfl (by (try simp only [List.map_toArray, List.map_cons, List.map_nil]); first | done | rfl | (simp only [List.length_drop, List.length_take]; rfl)) ?_
                                    refine tabbed (w := w) HT.out (by repeat (first | (with_reducible first | exact HB.out | apply below_alloc | apply pw_below_drewN | apply below_drew1 | refine below_set ?_ GE372.out | refine below_set ?_ GE379.out) | exact HB.out)) ?_
                                    intro hT_
                                    with_reducible refine (terminate_Run.calls kj12 a0_0 _ _ y380 t384 t385 t388 _ ?side1 ?side2 A23.out hT_).mono ?_
                                    clear hT_
                                    (case side1 => repeat (first | exact (Kd.C_below HR383.out HB.out) | (with_reducible refine Kd.C_alloc ?_ _) | (with_reducible refine Kd.C_drewN ?_ _) | (with_reducible refine Kd.C_drew ?_)))
                                    (case side2 => exact HC383.out)
                                    rintro e w37 ⟨v386, rfl, ho0, hb⟩
                                    refine ⟨_, rfl, ?_⟩
                                    have n0_ := Aside0.mk (Kd.R_elder' (by (with_reducible repeat (first | apply Kd.R_alloc | apply Kd.R_drewN | apply Kd.R_drew)); exact HO_8.out) (Kd.R_base ho0) hb)
                                    have n1_ := Aside0.mk (Kd.R_lower (Kd.R_new' ho0 (Kd.R_lt (by (with_reducible repeat (first | apply Kd.R_alloc | apply Kd.R_drewN | apply Kd.R_drew)); exact HO_8.out))) (below_size (by repeat (first | (with_reducible first | exact HB.out | apply below_alloc | apply pw_below_drewN | apply below_drew1 | refine below_set ?_ GE372.out | refine below_set ?_ GE379.out) | exact HB.out))))
                                    have n2_ := Aside0.mk (blk_below (g := gb372) (o := .cells #[.int .i64 a0_0] 23 (0, 0)) (by (with_reducible repeat (first | refine blk_drewN ?_ _ | refine blk_drew ?_ | refine blk_alloc ?_ _)); exact BK372.out) hb)
                                    have n3_ := Aside0.mk (blk_below (g := gb379) (o := .cells #[.int .i64 t374] 23 (0, 0)) (by (with_reducible repeat (first | refine blk_drewN ?_ _ | refine blk_drew ?_ | refine blk_alloc ?_ _)); exact BK379.out) hb)
                                    have n4_ := Aside0.mk (below_step (by repeat (first | (with_reducible first | exact HB.out | apply below_alloc | apply pw_below_drewN | apply below_drew1 | refine below_set ?_ GE372.out | refine below_set ?_ GE379.out) | exact HB.out)) hb)
                                    clear HO_8
                                    clear BK372
                                    clear BK379
                                    clear HB
                                    have HO_8 := n0_
                                    have HO387 := n1_
                                    have BK372 := n2_
                                    have BK379 := n3_
                                    have HB := n4_
                                    clear n0_ n1_ n2_ n3_ n4_
                                    (try clear hb)
                                    (try clear hb2)
                                    (try clear hk)
                                    (try clear hi)
                                    (try clear ho0)
                                    refine hK.out _ _ ((blk_cell BK372.out 0).trans rfl) (fun hHeld => ?_)
                                    clear hK K
                                    refine norm_ (a' := ?_) ?_ ?_
                                    rotate_left
                                    · show Act.put _ (some 49) _ = _
                                      simp only [Act.put, List.setIfInBounds_toArray, List.set_cons_zero, List.set_cons_succ, i64_w, i32_w]
                                      rfl
                                    refine pure_ (i := 5) (N := some 44) (v := ?_) (a' := ?_) #[true, true, true, true, true, true, false, false, false, false, false, false, false] rfl rfl (any_of HT_.out (by kernel_rfl)) (fun _ _ _ h => h) (Or.inl ⟨by rfl, ?_⟩) ?_ ?_
                                    rotate_left
                                    · intro w'
                                      go_simp
                                      with_reducible rfl
                                    rotate_left
                                    · simp only [Act.put, List.setIfInBounds_toArray, List.set_cons_zero, List.set_cons_succ, i64_w, i32_w]
                                      rfl
                                    refine pure_ (i := 6) (N := some 50) (v := ?_) (a' := ?_) #[true, true, true, true, true, true, true, false, false, false, false, false, false] rfl rfl (any_of HT_.out (by kernel_rfl)) (fun _ _ _ h => h) (Or.inl ⟨by rfl, ?_⟩) ?_ ?_
                                    rotate_left
                                    · intro w'
                                      go_simp
                                      with_reducible rfl
                                    rotate_left
                                    · simp only [Act.put, List.setIfInBounds_toArray, List.set_cons_zero, List.set_cons_succ, i64_w, i32_w]
                                      rfl
                                    refine pure_ (i := 7) (N := some 51) (v := ?_) (a' := ?_) #[true, true, true, true, true, true, true, true, false, false, false, false, false] rfl rfl (any_of HT_.out (by kernel_rfl)) (fun _ _ _ h => h) (Or.inl ⟨by rfl, ?_⟩) ?_ ?_
                                    rotate_left
                                    · intro w'
                                      go_simp
                                      with_reducible rfl
                                    rotate_left
                                    · simp only [Act.put, List.setIfInBounds_toArray, List.set_cons_zero, List.set_cons_succ, i64_w, i32_w]
                                      rfl
                                    refine pure_ (i := 8) (N := some 52) (v := ?_) (a' := ?_) #[true, true, true, true, true, true, true, true, true, false, false, false, false] rfl rfl (any_of HT_.out (by kernel_rfl)) (fun _ _ _ h => h) (Or.inl ⟨by rfl, ?_⟩) ?_ ?_
                                    rotate_left
                                    · intro w'
                                      go_simp
                                      with_reducible rfl
                                    rotate_left
                                    · simp only [Act.put, List.setIfInBounds_toArray, List.set_cons_zero, List.set_cons_succ, i64_w, i32_w]
                                      rfl
                                    refine one_ (i := 9) (N := some 11) #[true, true, true, true, true, true, true, true, true, true, false, false, false] rfl rfl (one_of HT_.out (by kernel_rfl)) (by decide) (fun K hK => ?_)
                                    refine box_step ?hg (N := 11) ?hd (cs := #[.int .i64 0]) (t := 23) ?hr ?_; (case hd => rfl); (case hg => rfl); (case hr => first | (go_simp; done) | (go_simp; rfl))
                                    intro gb389 hg w38 hbox hb
                                    have n0_ := Aside0.mk (Kd.R_below (by (with_reducible repeat (first | apply Kd.R_alloc | apply Kd.R_drewN | apply Kd.R_drew)); exact HO_8.out) hb)
                                    have n1_ := Aside0.mk (Kd.R_below (by (with_reducible repeat (first | apply Kd.R_alloc | apply Kd.R_drewN | apply Kd.R_drew)); exact HO387.out) hb)
                                    have n2_ := Aside0.mk (blk_below (g := gb372) (o := .cells #[.int .i64 a0_0] 23 (0, 0)) (by (with_reducible repeat (first | refine blk_drewN ?_ _ | refine blk_drew ?_ | refine blk_alloc ?_ _)); exact BK372.out) hb)
                                    have n3_ := Aside0.mk (blk_below (g := gb379) (o := .cells #[.int .i64 t374] 23 (0, 0)) (by (with_reducible repeat (first | refine blk_drewN ?_ _ | refine blk_drew ?_ | refine blk_alloc ?_ _)); exact BK379.out) hb)
                                    have n4_ := Aside0.mk (below_step (by repeat (first | (with_reducible first | exact HB.out | apply below_alloc | apply pw_below_drewN | apply below_drew1 | refine below_set ?_ GE372.out | refine below_set ?_ GE379.out) | exact HB.out)) hb)
                                    have n5_ := Aside0.mk (hbox)
                                    have n6_ := Aside0.mk ((by rw [hg]; exact (below_size (by repeat (first | (with_reducible first | exact HB.out | apply below_alloc | apply pw_below_drewN | apply below_drew1 | refine below_set ?_ GE372.out | refine below_set ?_ GE379.out) | exact HB.out))) : w.heap.size ≤ gb389))
                                    have n7_ := Aside0.mk ((by rw [hg]; exact (below_size (by repeat (first | (with_reducible first | exact HB.out | apply below_alloc | apply pw_below_drewN | apply below_drew1 | refine below_set ?_ GE372.out | refine below_set ?_ GE379.out) | exact HB.out))) : w.heap.size ≤ gb389))
                                    have n8_ := Aside0.mk ((by rw [hg]; exact Nat.ne_of_lt (blk_lt (g := gb372) (o := .cells #[.int .i64 a0_0] 23 (0, 0)) (by (with_reducible repeat (first | refine blk_drewN ?_ _ | refine blk_drew ?_ | refine blk_alloc ?_ _)); exact BK372.out)) : gb372 ≠ gb389))
                                    have n9_ := Aside0.mk ((by rw [hg]; exact Nat.ne_of_gt (blk_lt (g := gb372) (o := .cells #[.int .i64 a0_0] 23 (0, 0)) (by (with_reducible repeat (first | refine blk_drewN ?_ _ | refine blk_drew ?_ | refine blk_alloc ?_ _)); exact BK372.out)) : gb389 ≠ gb372))
                                    have n10_ := Aside0.mk ((by rw [hg]; exact Nat.ne_of_lt (blk_lt (g := gb379) (o := .cells #[.int .i64 t374] 23 (0, 0)) (by (with_reducible repeat (first | refine blk_drewN ?_ _ | refine blk_drew ?_ | refine blk_alloc ?_ _)); exact BK379.out)) : gb379 ≠ gb389))
                                    have n11_ := Aside0.mk ((by rw [hg]; exact Nat.ne_of_gt (blk_lt (g := gb379) (o := .cells #[.int .i64 t374] 23 (0, 0)) (by (with_reducible repeat (first | refine blk_drewN ?_ _ | refine blk_drew ?_ | refine blk_alloc ?_ _)); exact BK379.out)) : gb389 ≠ gb379))
                                    clear HO_8
                                    clear HO387
                                    clear BK372
                                    clear BK379
                                    clear HB
                                    have HO_8 := n0_
                                    have HO387 := n1_
                                    have BK372 := n2_
                                    have BK379 := n3_
                                    have HB := n4_
                                    have BK389 := n5_
                                    have GW389 := n6_
                                    have GE389 := n7_
                                    have NB372_389 := n8_
                                    have NB389_372 := n9_
                                    have NB379_389 := n10_
                                    have NB389_379 := n11_
                                    clear n0_ n1_ n2_ n3_ n4_ n5_ n6_ n7_ n8_ n9_ n10_ n11_
                                    clear hb hbox hg
                                    refine hK.out _ _ ((blk_cell BK372.out 0).trans rfl) (fun hHeld => ?_)
                                    clear hK K
                                    refine norm_ (a' := ?_) ?_ ?_
                                    rotate_left
                                    · show Act.put _ (some 11) _ = _
                                      simp only [Act.put, List.setIfInBounds_toArray, List.set_cons_zero, List.set_cons_succ, i64_w, i32_w]
                                      rfl
                                    exact norm_ (by simp only [putAll, Act.put, List.setIfInBounds_toArray, List.set_cons_zero, List.set_cons_succ]) (hCont (v386, gb389) _ ⟨hHeld, (by (with_reducible repeat (first | apply Kd.R_alloc | apply Kd.R_drewN | apply Kd.R_drew)); exact Kd.R_mono HO387.out (fun _ hk => hk.2)), (by (with_reducible repeat (first | apply Kd.R_alloc | apply Kd.R_drewN | apply Kd.R_drew)); exact Kd.R_mono HO_8.out (fun _ hk => hk.2)), (by (with_reducible repeat (first | refine blk_drewN ?_ _ | refine blk_drew ?_ | refine blk_alloc ?_ _)); exact BK372.out), (by (with_reducible repeat (first | refine blk_drewN ?_ _ | refine blk_drew ?_ | refine blk_alloc ?_ _)); exact BK379.out), (by (with_reducible repeat (first | refine blk_drewN ?_ _ | refine blk_drew ?_ | refine blk_alloc ?_ _)); exact BK389.out), GW389.out, GE389.out, NB372_389.out, NB389_372.out, NB379_389.out, NB389_379.out, (by repeat (first | (with_reducible first | exact HB.out | apply below_alloc | apply pw_below_drewN | apply below_drew1 | refine below_set ?_ GE372.out | refine below_set ?_ GE379.out | refine below_set ?_ GE389.out) | exact HB.out))⟩)
                                  · skip
                                    refine box_step ?hg (N := 11) ?hd (cs := #[.int .i64 0]) (t := 23) ?hr ?_; (case hd => rfl); (case hg => rfl); (case hr => first | (go_simp; done) | (go_simp; rfl))
                                    intro gb389 hg w37 hbox hb
                                    have n0_ := Aside0.mk (Kd.R_below (by (with_reducible repeat (first | apply Kd.R_alloc | apply Kd.R_drewN | apply Kd.R_drew)); exact HO_8.out) hb)
                                    have n1_ := Aside0.mk (blk_below (g := gb372) (o := .cells #[.int .i64 a0_0] 23 (0, 0)) (by (with_reducible repeat (first | refine blk_drewN ?_ _ | refine blk_drew ?_ | refine blk_alloc ?_ _)); exact BK372.out) hb)
                                    have n2_ := Aside0.mk (blk_below (g := gb379) (o := .cells #[.int .i64 t374] 23 (0, 0)) (by (with_reducible repeat (first | refine blk_drewN ?_ _ | refine blk_drew ?_ | refine blk_alloc ?_ _)); exact BK379.out) hb)
                                    have n3_ := Aside0.mk (below_step (by repeat (first | (with_reducible first | exact HB.out | apply below_alloc | apply pw_below_drewN | apply below_drew1 | refine below_set ?_ GE372.out | refine below_set ?_ GE379.out) | exact HB.out)) hb)
                                    have n4_ := Aside0.mk (hbox)
                                    have n5_ := Aside0.mk ((by rw [hg]; exact (below_size (by repeat (first | (with_reducible first | exact HB.out | apply below_alloc | apply pw_below_drewN | apply below_drew1 | refine below_set ?_ GE372.out | refine below_set ?_ GE379.out) | exact HB.out))) : w.heap.size ≤ gb389))
                                    have n6_ := Aside0.mk ((by rw [hg]; exact (below_size (by repeat (first | (with_reducible first | exact HB.out | apply below_alloc | apply pw_below_drewN | apply below_drew1 | refine below_set ?_ GE372.out | refine below_set ?_ GE379.out) | exact HB.out))) : w.heap.size ≤ gb389))
                                    have n7_ := Aside0.mk ((by rw [hg]; exact Nat.ne_of_lt (blk_lt (g := gb372) (o := .cells #[.int .i64 a0_0] 23 (0, 0)) (by (with_reducible repeat (first | refine blk_drewN ?_ _ | refine blk_drew ?_ | refine blk_alloc ?_ _)); exact BK372.out)) : gb372 ≠ gb389))
                                    have n8_ := Aside0.mk ((by rw [hg]; exact Nat.ne_of_gt (blk_lt (g := gb372) (o := .cells #[.int .i64 a0_0] 23 (0, 0)) (by (with_reducible repeat (first | refine blk_drewN ?_ _ | refine blk_drew ?_ | refine blk_alloc ?_ _)); exact BK372.out)) : gb389 ≠ gb372))
                                    have n9_ := Aside0.mk ((by rw [hg]; exact Nat.ne_of_lt (blk_lt (g := gb379) (o := .cells #[.int .i64 t374] 23 (0, 0)) (by (with_reducible repeat (first | refine blk_drewN ?_ _ | refine blk_drew ?_ | refine blk_alloc ?_ _)); exact BK379.out)) : gb379 ≠ gb389))
                                    have n10_ := Aside0.mk ((by rw [hg]; exact Nat.ne_of_gt (blk_lt (g := gb379) (o := .cells #[.int .i64 t374] 23 (0, 0)) (by (with_reducible repeat (first | refine blk_drewN ?_ _ | refine blk_drew ?_ | refine blk_alloc ?_ _)); exact BK379.out)) : gb389 ≠ gb379))
                                    clear HO_8
                                    clear BK372
                                    clear BK379
                                    clear HB
                                    have HO_8 := n0_
                                    have BK372 := n1_
                                    have BK379 := n2_
                                    have HB := n3_
                                    have BK389 := n4_
                                    have GW389 := n5_
                                    have GE389 := n6_
                                    have NB372_389 := n7_
                                    have NB389_372 := n8_
                                    have NB379_389 := n9_
                                    have NB389_379 := n10_
                                    clear n0_ n1_ n2_ n3_ n4_ n5_ n6_ n7_ n8_ n9_ n10_
                                    clear hb hbox hg
                                    refine hK.out _ _ ((blk_cell BK372.out 0).trans rfl) (fun hHeld => ?_)
                                    clear hK K
                                    refine norm_ (a' := ?_) ?_ ?_
                                    rotate_left
                                    · show Act.put _ (some 11) _ = _
                                      simp only [Act.put, List.setIfInBounds_toArray, List.set_cons_zero, List.set_cons_succ, i64_w, i32_w]
                                      rfl
                                    refine one_ (i := 4) (N := some 49) #[true, true, true, true, true, false, false, false, false, true, false, false, false] rfl rfl (one_of HT_.out (by kernel_rfl)) (by decide) (fun K hK => ?_)
                                    refine goes_ Tryd.func18 (by kernel_rfl) rfl #[.agg #[.int .i64 a0_0], .slice A1 y380.length c1] (by rfl) rfl rfl (by (try simp only [List.map_toArray, List.map_cons, List.map_nil]); first | done | rfl | (simp only [List.length_drop, List.length_take]; rfl)) ?_
                                    refine tabbed (w := w) HT.out (by repeat (first | (with_reducible first | exact HB.out | apply below_alloc | apply pw_below_drewN | apply below_drew1 | refine below_set ?_ GE372.out | refine below_set ?_ GE379.out | refine below_set ?_ GE389.out) | exact HB.out)) ?_
                                    intro hT_
                                    with_reducible refine (terminate_Run.calls kj12 a0_0 _ _ y380 t384 t385 t388 _ ?side1 ?side2 A23.out hT_).mono ?_
                                    clear hT_
                                    (case side1 => repeat (first | exact (Kd.C_below HR383.out HB.out) | (with_reducible refine Kd.C_alloc ?_ _) | (with_reducible refine Kd.C_drewN ?_ _) | (with_reducible refine Kd.C_drew ?_)))
                                    (case side2 => exact HC383.out)
                                    rintro e w38 ⟨v386, rfl, ho0, hb⟩
                                    refine ⟨_, rfl, ?_⟩
                                    have n0_ := Aside0.mk (Kd.R_elder' (by (with_reducible repeat (first | apply Kd.R_alloc | apply Kd.R_drewN | apply Kd.R_drew)); exact HO_8.out) (Kd.R_base ho0) hb)
                                    have n1_ := Aside0.mk (Kd.R_lower (Kd.R_new' ho0 (Kd.R_lt (by (with_reducible repeat (first | apply Kd.R_alloc | apply Kd.R_drewN | apply Kd.R_drew)); exact HO_8.out))) (below_size (by repeat (first | (with_reducible first | exact HB.out | apply below_alloc | apply pw_below_drewN | apply below_drew1 | refine below_set ?_ GE372.out | refine below_set ?_ GE379.out | refine below_set ?_ GE389.out) | exact HB.out))))
                                    have n2_ := Aside0.mk (blk_below (g := gb372) (o := .cells #[.int .i64 a0_0] 23 (0, 0)) (by (with_reducible repeat (first | refine blk_drewN ?_ _ | refine blk_drew ?_ | refine blk_alloc ?_ _)); exact BK372.out) hb)
                                    have n3_ := Aside0.mk (blk_below (g := gb379) (o := .cells #[.int .i64 t374] 23 (0, 0)) (by (with_reducible repeat (first | refine blk_drewN ?_ _ | refine blk_drew ?_ | refine blk_alloc ?_ _)); exact BK379.out) hb)
                                    have n4_ := Aside0.mk (blk_below (g := gb389) (o := .cells #[.int .i64 0] 23 (0, 0)) (by (with_reducible repeat (first | refine blk_drewN ?_ _ | refine blk_drew ?_ | refine blk_alloc ?_ _)); exact BK389.out) hb)
                                    have n5_ := Aside0.mk (below_step (by repeat (first | (with_reducible first | exact HB.out | apply below_alloc | apply pw_below_drewN | apply below_drew1 | refine below_set ?_ GE372.out | refine below_set ?_ GE379.out | refine below_set ?_ GE389.out) | exact HB.out)) hb)
                                    clear HO_8
                                    clear BK372
                                    clear BK379
                                    clear BK389
                                    clear HB
                                    have HO_8 := n0_
                                    have HO387 := n1_
                                    have BK372 := n2_
                                    have BK379 := n3_
                                    have BK389 := n4_
                                    have HB := n5_
                                    clear n0_ n1_ n2_ n3_ n4_ n5_
                                    (try clear hb)
                                    (try clear hb2)
                                    (try clear hk)
                                    (try clear hi)
                                    (try clear ho0)
                                    refine hK.out _ _ ((blk_cell BK372.out 0).trans rfl) (fun hHeld => ?_)
                                    clear hK K
                                    refine norm_ (a' := ?_) ?_ ?_
                                    rotate_left
                                    · show Act.put _ (some 49) _ = _
                                      simp only [Act.put, List.setIfInBounds_toArray, List.set_cons_zero, List.set_cons_succ, i64_w, i32_w]
                                      rfl
                                    refine pure_ (i := 5) (N := some 44) (v := ?_) (a' := ?_) #[true, true, true, true, true, true, false, false, false, true, false, false, false] rfl rfl (any_of HT_.out (by kernel_rfl)) (fun _ _ _ h => h) (Or.inl ⟨by rfl, ?_⟩) ?_ ?_
                                    rotate_left
                                    · intro w'
                                      go_simp
                                      with_reducible rfl
                                    rotate_left
                                    · simp only [Act.put, List.setIfInBounds_toArray, List.set_cons_zero, List.set_cons_succ, i64_w, i32_w]
                                      rfl
                                    refine pure_ (i := 6) (N := some 50) (v := ?_) (a' := ?_) #[true, true, true, true, true, true, true, false, false, true, false, false, false] rfl rfl (any_of HT_.out (by kernel_rfl)) (fun _ _ _ h => h) (Or.inl ⟨by rfl, ?_⟩) ?_ ?_
                                    rotate_left
                                    · intro w'
                                      go_simp
                                      with_reducible rfl
                                    rotate_left
                                    · simp only [Act.put, List.setIfInBounds_toArray, List.set_cons_zero, List.set_cons_succ, i64_w, i32_w]
                                      rfl
                                    refine pure_ (i := 7) (N := some 51) (v := ?_) (a' := ?_) #[true, true, true, true, true, true, true, true, false, true, false, false, false] rfl rfl (any_of HT_.out (by kernel_rfl)) (fun _ _ _ h => h) (Or.inl ⟨by rfl, ?_⟩) ?_ ?_
                                    rotate_left
                                    · intro w'
                                      go_simp
                                      with_reducible rfl
                                    rotate_left
                                    · simp only [Act.put, List.setIfInBounds_toArray, List.set_cons_zero, List.set_cons_succ, i64_w, i32_w]
                                      rfl
                                    refine pure_ (i := 8) (N := some 52) (v := ?_) (a' := ?_) #[true, true, true, true, true, true, true, true, true, true, false, false, false] rfl rfl (any_of HT_.out (by kernel_rfl)) (fun _ _ _ h => h) (Or.inl ⟨by rfl, ?_⟩) ?_ ?_
                                    rotate_left
                                    · intro w'
                                      go_simp
                                      with_reducible rfl
                                    rotate_left
                                    · simp only [Act.put, List.setIfInBounds_toArray, List.set_cons_zero, List.set_cons_succ, i64_w, i32_w]
                                      rfl
                                    exact norm_ (by simp only [putAll, Act.put, List.setIfInBounds_toArray, List.set_cons_zero, List.set_cons_succ]) (hCont (v386, gb389) _ ⟨hHeld, (by (with_reducible repeat (first | apply Kd.R_alloc | apply Kd.R_drewN | apply Kd.R_drew)); exact Kd.R_mono HO387.out (fun _ hk => hk.2)), (by (with_reducible repeat (first | apply Kd.R_alloc | apply Kd.R_drewN | apply Kd.R_drew)); exact Kd.R_mono HO_8.out (fun _ hk => hk.2)), (by (with_reducible repeat (first | refine blk_drewN ?_ _ | refine blk_drew ?_ | refine blk_alloc ?_ _)); exact BK372.out), (by (with_reducible repeat (first | refine blk_drewN ?_ _ | refine blk_drew ?_ | refine blk_alloc ?_ _)); exact BK379.out), (by (with_reducible repeat (first | refine blk_drewN ?_ _ | refine blk_drew ?_ | refine blk_alloc ?_ _)); exact BK389.out), GW389.out, GE389.out, NB372_389.out, NB389_372.out, NB379_389.out, NB389_379.out, (by repeat (first | (with_reducible first | exact HB.out | apply below_alloc | apply pw_below_drewN | apply below_drew1 | refine below_set ?_ GE372.out | refine below_set ?_ GE379.out | refine below_set ?_ GE389.out) | exact HB.out))⟩)
                                rintro ⟨v386, gb389⟩ w39 ⟨hS_, h0_, h1_, h2_, h3_, h4_, h5_, h6_, h7_, h8_, h9_, h10_, h11_⟩
                                have n0_ : Aside0 (Kd.R k46 46 w39 w.heap.size (fun k_ => some k_ ≠ (v376 : Value).ownBlock) v386 t385) := ⟨h0_⟩
                                have n1_ : Aside0 (Kd.R k46 46 w39 w.heap.size (fun k_ => some k_ ≠ (v386 : Value).ownBlock) v376 t375) := ⟨h1_⟩
                                have n2_ : Aside0 (w39.heap[gb372]? = some (.cells #[.int .i64 a0_0] 23 (0, 0))) := ⟨h2_⟩
                                have n3_ : Aside0 (w39.heap[gb379]? = some (.cells #[.int .i64 t374] 23 (0, 0))) := ⟨h3_⟩
                                have n4_ : Aside0 (w39.heap[gb389]? = some (.cells #[.int .i64 0] 23 (0, 0))) := ⟨h4_⟩
                                have n5_ : Aside0 (w.heap.size ≤ gb389) := ⟨h5_⟩
                                have n6_ : Aside0 (w.heap.size ≤ gb389) := ⟨h6_⟩
                                have n7_ : Aside0 (gb372 ≠ gb389) := ⟨h7_⟩
                                have n8_ : Aside0 (gb389 ≠ gb372) := ⟨h8_⟩
                                have n9_ : Aside0 (gb379 ≠ gb389) := ⟨h9_⟩
                                have n10_ : Aside0 (gb389 ≠ gb379) := ⟨h10_⟩
                                have n11_ : Aside0 (Below w.heap.size w w39) := ⟨h11_⟩
                                clear HO_8
                                clear BK372
                                clear BK379
                                clear HB
                                clear h0_ h1_ h2_ h3_ h4_ h5_ h6_ h7_ h8_ h9_ h10_ h11_
                                have HO387 := n0_
                                have HO_8 := n1_
                                have BK372 := n2_
                                have BK379 := n3_
                                have BK389 := n4_
                                have GW389 := n5_
                                have GE389 := n6_
                                have NB372_389 := n7_
                                have NB389_372 := n8_
                                have NB379_389 := n9_
                                have NB389_379 := n10_
                                have HB := n11_
                                clear n0_ n1_ n2_ n3_ n4_ n5_ n6_ n7_ n8_ n9_ n10_ n11_
                                have hHeld : w39.cell? ⟨gb372, 0, none⟩ = some (.int .i64 a0_0) := hS_
                                refine norm_ (a' := ?_) ?_ ?_
                                rotate_left
                                · simp only [putAll, Act.put, List.setIfInBounds_toArray, List.set_cons_zero, List.set_cons_succ]
                                  rfl
                                refine one_ (i := 10) (N := none) #[true, true, true, true, true, true, true, true, true, true, true, false, false] rfl rfl (one_of HT_.out (by kernel_rfl)) (by decide) (fun K hK => ?_)
                                have hs40 : w39.cell? ⟨gb389, 0, none⟩ = some (.int .i64 0) := (blk_cell BK389.out 0).trans rfl
                                have hfs40 := blk_frozen BK389.out 0
                                have hns40_0 := NB372_389.out
                                have hns40_1 := NB379_389.out
                                have hms40_0 := NB389_372.out
                                have hms40_1 := NB389_379.out
                                refine skip_ (w1 := ?_) (by rfl) rfl ?_ ?_
                                rotate_left
                                · go_simp
                                  rfl
                                refine hK.out _ _ (((cell_far (p := ⟨gb389, _, none⟩) NB372_389.out _).trans (hHeld))) (fun hHeld => ?_)
                                clear hK K
                                refine pure_ (i := 11) (N := some 12) (v := ?_) (a' := ?_) #[true, true, true, true, true, true, true, true, true, true, true, true, false] rfl rfl (any_of HT_.out (by kernel_rfl)) (fun _ _ _ h => h) (Or.inl ⟨by rfl, ?_⟩) ?_ ?_
                                rotate_left
                                · intro w'
                                  go_simp
                                  with_reducible rfl
                                rotate_left
                                · simp only [Act.put, List.setIfInBounds_toArray, List.set_cons_zero, List.set_cons_succ, i64_w, i32_w]
                                  rfl
                                refine pure_ (i := 12) (N := some 13) (v := ?_) (a' := ?_) #[true, true, true, true, true, true, true, true, true, true, true, true, true] rfl rfl (any_of HT_.out (by kernel_rfl)) (fun _ _ _ h => h) (Or.inl ⟨by rfl, ?_⟩) ?_ ?_
                                rotate_left
                                · intro w'
                                  go_simp
                                  with_reducible rfl
                                rotate_left
                                · simp only [Act.put, List.setIfInBounds_toArray, List.set_cons_zero, List.set_cons_succ, i64_w, i32_w]
                                  rfl
                                refine done_ (done_of HT_.out (by kernel_rfl)) ?_
                                try go_wp2
                                have n0_ : Aside0 (Kd.R k46 46 (w39.setCell ⟨gb389, 0, none⟩ (.int .i64 t384)) w.heap.size (fun k_ => some k_ ≠ (v386 : Value).ownBlock) v376 t375) := ⟨by (with_reducible repeat (first | apply Kd.R_alloc | apply Kd.R_drewN | apply Kd.R_drew)); exact Kd.R_mono (Kd.R_far (p := ⟨gb389, 0, none⟩) (Kd.R_types HO_8.out BK389.out (by decide)) (fun _ hk => hk.2) (.int .i64 t384)) (fun _ hk => hk.1)⟩
                                have n1_ : Aside0 (Kd.R k46 46 (w39.setCell ⟨gb389, 0, none⟩ (.int .i64 t384)) w.heap.size (fun k_ => some k_ ≠ (v376 : Value).ownBlock) v386 t385) := ⟨by (with_reducible repeat (first | apply Kd.R_alloc | apply Kd.R_drewN | apply Kd.R_drew)); exact Kd.R_mono (Kd.R_far (p := ⟨gb389, 0, none⟩) (Kd.R_types HO387.out BK389.out (by decide)) (fun _ hk => hk.2) (.int .i64 t384)) (fun _ hk => hk.1)⟩
                                have n2_ : Aside0 ((w39.setCell ⟨gb389, 0, none⟩ (.int .i64 t384)).heap[gb372]? = some (.cells #[.int .i64 a0_0] 23 (0, 0))) := ⟨by (with_reducible repeat (first | refine blk_drewN ?_ _ | refine blk_drew ?_ | refine blk_alloc ?_ _)); refine blk_far ?_ NB372_389.out _; (with_reducible repeat (first | refine blk_drewN ?_ _ | refine blk_drew ?_ | refine blk_alloc ?_ _)); exact BK372.out⟩
                                have n3_ : Aside0 ((w39.setCell ⟨gb389, 0, none⟩ (.int .i64 t384)).heap[gb379]? = some (.cells #[.int .i64 t374] 23 (0, 0))) := ⟨by (with_reducible repeat (first | refine blk_drewN ?_ _ | refine blk_drew ?_ | refine blk_alloc ?_ _)); refine blk_far ?_ NB379_389.out _; (with_reducible repeat (first | refine blk_drewN ?_ _ | refine blk_drew ?_ | refine blk_alloc ?_ _)); exact BK379.out⟩
                                have n4_ : Aside0 ((w39.setCell ⟨gb389, 0, none⟩ (.int .i64 t384)).heap[gb389]? = some (.cells #[.int .i64 t384] 23 (0, 0))) := ⟨by (with_reducible repeat (first | refine blk_drewN ?_ _ | refine blk_drew ?_ | refine blk_alloc ?_ _)); refine blk_put (cs := #[.int .i64 0]) ?_ 0 _ rfl; (with_reducible repeat (first | refine blk_drewN ?_ _ | refine blk_drew ?_ | refine blk_alloc ?_ _)); exact BK389.out⟩
                                have n5_ : Aside0 (Below w.heap.size w (w39.setCell ⟨gb389, 0, none⟩ (.int .i64 t384))) := ⟨by repeat (first | (with_reducible first | exact HB.out | apply below_alloc | apply pw_below_drewN | apply below_drew1 | refine below_set ?_ GE372.out | refine below_set ?_ GE379.out | refine below_set ?_ GE389.out) | exact HB.out)⟩
                                (try clear HO_8)
                                (try clear HO387)
                                (try clear BK372)
                                (try clear BK379)
                                (try clear BK389)
                                (try clear HB)
                                generalize (w39.setCell ⟨gb389, 0, none⟩ (.int .i64 t384)) = w41 at n0_ n1_ n2_ n3_ n4_ n5_ ⊢
                                have HO_8 := n0_
                                have HO387 := n1_
                                have BK372 := n2_
                                have BK379 := n3_
                                have BK389 := n4_
                                have HB := n5_
                                clear n0_ n1_ n2_ n3_ n4_ n5_
                                have n0_ := Aside0.mk (Kd.R_drew HO_8.out)
                                have n1_ := Aside0.mk (Kd.R_drew HO387.out)
                                have n2_ := Aside0.mk (blk_drew BK372.out)
                                have n3_ := Aside0.mk (blk_drew BK379.out)
                                have n4_ := Aside0.mk (blk_drew BK389.out)
                                have n5_ := Aside0.mk (below_drew1 HB.out)
                                clear HO_8
                                clear HO387
                                clear BK372
                                clear BK379
                                clear BK389
                                clear HB
                                have HO_8 := n0_
                                have HO387 := n1_
                                have BK372 := n2_
                                have BK379 := n3_
                                have BK389 := n4_
                                have HB := n5_
                                clear n0_ n1_ n2_ n3_ n4_ n5_
                                have q43 : (ji12 : Int) ≤ ((l1.length : Int) : Int) := of_decide_eq_true (by first | (with_reducible assumption) | assumption)
                                obtain ⟨i043, hi043, _, hsz43, _⟩ := info_parts info25
                                have hroom43 : l1.length ≤ c1 := HC1.out
                                have hC43 : Kd.C k25 _ A1 l1.length l1 := HR1.out
                                have q043 : (0 : Int) ≤ (ji12 : Int) := of_decide_eq_true (by first | (with_reducible assumption) | assumption)
                                have hcut43 := cut_from (P := Tryd.prog) 34 25 .i64 Tryd.underlying34 hi043 3 hsz43 A1 l1.length c1 ji12 q043 q43
                                have hr43 := Kd.C_drop (m := (ji12 : Int).toNat) (c := c1) hC43 (by omega) hroom43
                                obtain ⟨A43, hA43⟩ : ∃ A1_, A1_ = (if c1 = (ji12 : Int).toNat then A1 else (A1 : Option Addr).map (·.add ((ji12 : Int).toNat * 3))) := ⟨_, rfl⟩
                                obtain ⟨c43, hc43⟩ : ∃ c1_, c1_ = c1 - (ji12 : Int).toNat := ⟨_, rfl⟩
                                have hy43 : y390.length = l1.length - (ji12 : Int).toNat := (by rw [Ny390.out, List.length_drop] <;> omega)
                                rw [show (l1).drop (ji12 : Int).toNat = y390 from Ny390.out.symm] at hr43
                                replace hr43 : Kd.C k25 _ A43 y390.length y390 := (by rw [hA43]; exact hr43)
                                rw [← hy43, ← hA43, ← hc43] at hcut43
                                have HR393 := Aside0.mk hr43
                                have HC393 := Aside0.mk (show y390.length ≤ c43 from by rw [hy43, hc43]; exact Nat.sub_le_sub_right hroom43 _)
                                clear hr43 hC43 hroom43 hi043 hsz43 hc43
                                have KY43 := Aside0.mk hy43
                                have KA43 := Aside0.mk hA43
                                clear hy43 hA43
                                replace q43 := eq_true q43
                                refine start_ (n := 13) (S := fun w' => w'.cell? ⟨gb389, 0, none⟩ = some (.int .i64 t384)) (ds := []) #[false, false, false, false, false, false, false, false, false, false, false, false, false] (by kernel_rfl) rfl rfl ((blk_cell BK389.out 0).trans rfl) (fun hHeld => ?_); refine with_tabW crossbarlaw17_TerminateRunSplits.tab10 crossbarlaw17_TerminateRunSplits.bits10 (fun HT_ HW_ => ?_)
                                generalize w41.drew = w42 at HO_8 HO387 BK372 BK379 BK389 HB HR393 hHeld ⊢
                                refine pure_ (i := 1) (N := some 55) (v := ?_) (a' := ?_) #[false, true, false, false, false, false, false, false, false, false, false, false, false] rfl rfl (any_of HT_.out (by kernel_rfl)) (fun _ _ _ h => h) (Or.inl ⟨by rfl, ?_⟩) ?_ ?_
                                rotate_left
                                · intro w'
                                  go_simp
                                  with_reducible rfl
                                rotate_left
                                · simp only [Act.put, List.setIfInBounds_toArray, List.set_cons_zero, List.set_cons_succ, i64_w, i32_w]
                                  rfl
                                refine pure_ (i := 2) (N := some 56) (v := ?_) (a' := ?_) #[false, true, true, false, false, false, false, false, false, false, false, false, false] rfl rfl (any_of HT_.out (by kernel_rfl)) (fun _ _ _ h => h) (Or.inl ⟨by rfl, ?_⟩) ?_ ?_
                                rotate_left
                                · intro w'
                                  go_simp
                                  with_reducible rfl
                                rotate_left
                                · simp only [Act.put, List.setIfInBounds_toArray, List.set_cons_zero, List.set_cons_succ, i64_w, i32_w]
                                  rfl
                                refine pure_ (i := 3) (N := some 57) (v := ?_) (a' := ?_) #[false, true, true, true, false, false, false, false, false, false, false, false, false] rfl rfl (any_of HT_.out (by kernel_rfl)) (fun _ _ _ h => h) (Or.inl ⟨by rfl, ?_⟩) ?_ ?_
                                rotate_left
                                · intro w'
                                  go_simp
                                  with_reducible rfl
                                rotate_left
                                · simp only [Act.put, List.setIfInBounds_toArray, List.set_cons_zero, List.set_cons_succ, i64_w, i32_w]
                                  rfl
                                refine take_ (i := 0) (N := some 54) (v := ?_) (a' := ?_) #[true, true, true, true, false, false, false, false, false, false, false, false, false] rfl rfl (take_ofW HT_.out HW_.out (by kernel_rfl)) (fun _ _ _ h => h) (Or.inl ⟨by rfl, ?_⟩) hHeld ?_ ?_
                                rotate_left
                                · intro w' s0
                                  go_simp
                                  with_reducible rfl
                                rotate_left
                                · simp only [Act.put, List.setIfInBounds_toArray, List.set_cons_zero, List.set_cons_succ, i64_w, i32_w]
                                  rfl
                                refine join_ (σ := Value × Nat) 3 #[true, true, true, true, true, true, true, true, true, true, false, false, false] (fun s_ => [(58, .tuple #[.agg #[.int .i64 t394], s_.1, .int .i64 t398]), (14, .pointer (some ⟨s_.2, 0, none⟩)), (53, .tuple #[.agg #[.int .i64 t394], s_.1, .int .i64 t398]), (59, .agg #[.int .i64 t394]), (60, s_.1), (61, .int .i64 t398)]) (fun s_ w' => (w'.cell? ⟨gb389, 0, none⟩ = some (.int .i64 t384)) ∧ (Kd.R k46 46 w' w.heap.size (fun k_ => some k_ ≠ (s_.1 : Value).ownBlock ∧ some k_ ≠ (v376 : Value).ownBlock) v386 t385) ∧ (Kd.R k46 46 w' w.heap.size (fun k_ => some k_ ≠ (v386 : Value).ownBlock ∧ some k_ ≠ (v376 : Value).ownBlock) s_.1 t395) ∧ (Kd.R k46 46 w' w.heap.size (fun k_ => some k_ ≠ (v386 : Value).ownBlock ∧ some k_ ≠ (s_.1 : Value).ownBlock) v376 t375) ∧ (w'.heap[gb372]? = some (.cells #[.int .i64 a0_0] 23 (0, 0))) ∧ (w'.heap[gb379]? = some (.cells #[.int .i64 t374] 23 (0, 0))) ∧ (w'.heap[gb389]? = some (.cells #[.int .i64 t384] 23 (0, 0))) ∧ (w'.heap[s_.2]? = some (.cells #[.int .i64 0] 23 (0, 0))) ∧ (w.heap.size ≤ s_.2) ∧ (w.heap.size ≤ s_.2) ∧ (gb372 ≠ s_.2) ∧ (s_.2 ≠ gb372) ∧ (gb379 ≠ s_.2) ∧ (s_.2 ≠ gb379) ∧ (gb389 ≠ s_.2) ∧ (s_.2 ≠ gb389) ∧ (Below w.heap.size w w')) ?_ ?_
                                rotate_left
                                · intro hCont
                                  refine two_ (i := 4) (j := 9) (Ni := some 58) (Nj := some 14) #[true, true, true, true, true, false, false, false, false, false, false, false, false] #[true, true, true, true, false, false, false, false, false, true, false, false, false] rfl rfl rfl rfl (two_of HT_.out (by kernel_rfl)) (by decide) (by decide) (fun K hK => ?_) (fun K hK => ?_)
                                  · skip
                                    refine goes_ Tryd.func18 (by kernel_rfl) rfl #[.agg #[.int .i64 t384], .slice A43 y390.length c43] (by rfl) rfl rfl (by (try simp only [List.map_toArray, List.map_cons, List.map_nil]); first | done | rfl | (simp only [List.length_drop, List.length_take]; rfl)) ?_
                                    refine tabbed (w := w) HT.out (by repeat (first | (with_reducible first | exact HB.out | apply below_alloc | apply pw_below_drewN | apply below_drew1 | refine below_set ?_ GE372.out | refine below_set ?_ GE379.out | refine below_set ?_ GE389.out) | exact HB.out)) ?_
                                    intro hT_
                                    with_reducible refine (terminate_Run.calls kj12 t384 _ _ y390 t394 t395 t398 _ ?side1 ?side2 A26.out hT_).mono ?_
                                    clear hT_
                                    (case side1 => repeat (first | exact (Kd.C_below HR393.out HB.out) | (with_reducible refine Kd.C_alloc ?_ _) | (with_reducible refine Kd.C_drewN ?_ _) | (with_reducible refine Kd.C_drew ?_)))
                                    (case side2 => exact HC393.out)
                                    rintro e w44 ⟨v396, rfl, ho0, hb⟩
                                    refine ⟨_, rfl, ?_⟩
                                    have n0_ := Aside0.mk (Kd.R_elder' (by (with_reducible repeat (first | apply Kd.R_alloc | apply Kd.R_drewN | apply Kd.R_drew)); exact HO_8.out) (Kd.R_base ho0) hb)
                                    have n1_ := Aside0.mk (Kd.R_elder' (by (with_reducible repeat (first | apply Kd.R_alloc | apply Kd.R_drewN | apply Kd.R_drew)); exact HO387.out) (Kd.R_base ho0) hb)
                                    have n2_ := Aside0.mk (Kd.R_lower (Kd.R_new' (Kd.R_new' ho0 (Kd.R_lt (by (with_reducible repeat (first | apply Kd.R_alloc | apply Kd.R_drewN | apply Kd.R_drew)); exact HO_8.out))) (Kd.R_lt (by (with_reducible repeat (first | apply Kd.R_alloc | apply Kd.R_drewN | apply Kd.R_drew)); exact HO387.out))) (below_size (by repeat (first | (with_reducible first | exact HB.out | apply below_alloc | apply pw_below_drewN | apply below_drew1 | refine below_set ?_ GE372.out | refine below_set ?_ GE379.out | refine below_set ?_ GE389.out) | exact HB.out))))
                                    have n3_ := Aside0.mk (blk_below (g := gb372) (o := .cells #[.int .i64 a0_0] 23 (0, 0)) (by (with_reducible repeat (first | refine blk_drewN ?_ _ | refine blk_drew ?_ | refine blk_alloc ?_ _)); exact BK372.out) hb)
                                    have n4_ := Aside0.mk (blk_below (g := gb379) (o := .cells #[.int .i64 t374] 23 (0, 0)) (by (with_reducible repeat (first | refine blk_drewN ?_ _ | refine blk_drew ?_ | refine blk_alloc ?_ _)); exact BK379.out) hb)
                                    have n5_ := Aside0.mk (blk_below (g := gb389) (o := .cells #[.int .i64 t384] 23 (0, 0)) (by (with_reducible repeat (first | refine blk_drewN ?_ _ | refine blk_drew ?_ | refine blk_alloc ?_ _)); exact BK389.out) hb)
                                    have n6_ := Aside0.mk (below_step (by repeat (first | (with_reducible first | exact HB.out | apply below_alloc | apply pw_below_drewN | apply below_drew1 | refine below_set ?_ GE372.out | refine below_set ?_ GE379.out | refine below_set ?_ GE389.out) | exact HB.out)) hb)
                                    clear HO_8
                                    clear HO387
                                    clear BK372
                                    clear BK379
                                    clear BK389
                                    clear HB
                                    have HO_8 := n0_
                                    have HO387 := n1_
                                    have HO397 := n2_
                                    have BK372 := n3_
                                    have BK379 := n4_
                                    have BK389 := n5_
                                    have HB := n6_
                                    clear n0_ n1_ n2_ n3_ n4_ n5_ n6_
                                    (try clear hb)
                                    (try clear hb2)
                                    (try clear hk)
                                    (try clear hi)
                                    (try clear ho0)
                                    refine hK.out _ _ ((blk_cell BK389.out 0).trans rfl) (fun hHeld => ?_)
                                    clear hK K
                                    refine norm_ (a' := ?_) ?_ ?_
                                    rotate_left
                                    · show Act.put _ (some 58) _ = _
                                      simp only [Act.put, List.setIfInBounds_toArray, List.set_cons_zero, List.set_cons_succ, i64_w, i32_w]
                                      rfl
                                    refine pure_ (i := 5) (N := some 53) (v := ?_) (a' := ?_) #[true, true, true, true, true, true, false, false, false, false, false, false, false] rfl rfl (any_of HT_.out (by kernel_rfl)) (fun _ _ _ h => h) (Or.inl ⟨by rfl, ?_⟩) ?_ ?_
                                    rotate_left
                                    · intro w'
                                      go_simp
                                      with_reducible rfl
                                    rotate_left
                                    · simp only [Act.put, List.setIfInBounds_toArray, List.set_cons_zero, List.set_cons_succ, i64_w, i32_w]
                                      rfl
                                    refine pure_ (i := 6) (N := some 59) (v := ?_) (a' := ?_) #[true, true, true, true, true, true, true, false, false, false, false, false, false] rfl rfl (any_of HT_.out (by kernel_rfl)) (fun _ _ _ h => h) (Or.inl ⟨by rfl, ?_⟩) ?_ ?_
                                    rotate_left
                                    · intro w'
                                      go_simp
                                      with_reducible rfl
                                    rotate_left
                                    · simp only [Act.put, List.setIfInBounds_toArray, List.set_cons_zero, List.set_cons_succ, i64_w, i32_w]
                                      rfl
                                    refine pure_ (i := 7) (N := some 60) (v := ?_) (a' := ?_) #[true, true, true, true, true, true, true, true, false, false, false, false, false] rfl rfl (any_of HT_.out (by kernel_rfl)) (fun _ _ _ h => h) (Or.inl ⟨by rfl, ?_⟩) ?_ ?_
                                    rotate_left
                                    · intro w'
                                      go_simp
                                      with_reducible rfl
                                    rotate_left
                                    · simp only [Act.put, List.setIfInBounds_toArray, List.set_cons_zero, List.set_cons_succ, i64_w, i32_w]
                                      rfl
                                    refine pure_ (i := 8) (N := some 61) (v := ?_) (a' := ?_) #[true, true, true, true, true, true, true, true, true, false, false, false, false] rfl rfl (any_of HT_.out (by kernel_rfl)) (fun _ _ _ h => h) (Or.inl ⟨by rfl, ?_⟩) ?_ ?_
                                    rotate_left
                                    · intro w'
                                      go_simp
                                      with_reducible rfl
                                    rotate_left
                                    · simp only [Act.put, List.setIfInBounds_toArray, List.set_cons_zero, List.set_cons_succ, i64_w, i32_w]
                                      rfl
                                    refine one_ (i := 9) (N := some 14) #[true, true, true, true, true, true, true, true, true, true, false, false, false] rfl rfl (one_of HT_.out (by kernel_rfl)) (by decide) (fun K hK => ?_)
                                    refine box_step ?hg (N := 14) ?hd (cs := #[.int .i64 0]) (t := 23) ?hr ?_; (case hd => rfl); (case hg => rfl); (case hr => first | (go_simp; done) | (go_simp; rfl))
                                    intro gb399 hg w45 hbox hb
                                    have n0_ := Aside0.mk (Kd.R_below (by (with_reducible repeat (first | apply Kd.R_alloc | apply Kd.R_drewN | apply Kd.R_drew)); exact HO_8.out) hb)
                                    have n1_ := Aside0.mk (Kd.R_below (by (with_reducible repeat (first | apply Kd.R_alloc | apply Kd.R_drewN | apply Kd.R_drew)); exact HO387.out) hb)
                                    have n2_ := Aside0.mk (Kd.R_below (by (with_reducible repeat (first | apply Kd.R_alloc | apply Kd.R_drewN | apply Kd.R_drew)); exact HO397.out) hb)
                                    have n3_ := Aside0.mk (blk_below (g := gb372) (o := .cells #[.int .i64 a0_0] 23 (0, 0)) (by (with_reducible repeat (first | refine blk_drewN ?_ _ | refine blk_drew ?_ | refine blk_alloc ?_ _)); exact BK372.out) hb)
                                    have n4_ := Aside0.mk (blk_below (g := gb379) (o := .cells #[.int .i64 t374] 23 (0, 0)) (by (with_reducible repeat (first | refine blk_drewN ?_ _ | refine blk_drew ?_ | refine blk_alloc ?_ _)); exact BK379.out) hb)
                                    have n5_ := Aside0.mk (blk_below (g := gb389) (o := .cells #[.int .i64 t384] 23 (0, 0)) (by (with_reducible repeat (first | refine blk_drewN ?_ _ | refine blk_drew ?_ | refine blk_alloc ?_ _)); exact BK389.out) hb)
                                    have n6_ := Aside0.mk (below_step (by repeat (first | (with_reducible first | exact HB.out | apply below_alloc | apply pw_below_drewN | apply below_drew1 | refine below_set ?_ GE372.out | refine below_set ?_ GE379.out | refine below_set ?_ GE389.out) | exact HB.out)) hb)
                                    have n7_ := Aside0.mk (hbox)
                                    have n8_ := Aside0.mk ((by rw [hg]; exact (below_size (by repeat (first | (with_reducible first | exact HB.out | apply below_alloc | apply pw_below_drewN | apply below_drew1 | refine below_set ?_ GE372.out | refine below_set ?_ GE379.out | refine below_set ?_ GE389.out) | exact HB.out))) : w.heap.size ≤ gb399))
                                    have n9_ := Aside0.mk ((by rw [hg]; exact (below_size (by repeat (first | (with_reducible first | exact HB.out | apply below_alloc | apply pw_below_drewN | apply below_drew1 | refine below_set ?_ GE372.out | refine below_set ?_ GE379.out | refine below_set ?_ GE389.out) | exact HB.out))) : w.heap.size ≤ gb399))
                                    have n10_ := Aside0.mk ((by rw [hg]; exact Nat.ne_of_lt (blk_lt (g := gb372) (o := .cells #[.int .i64 a0_0] 23 (0, 0)) (by (with_reducible repeat (first | refine blk_drewN ?_ _ | refine blk_drew ?_ | refine blk_alloc ?_ _)); exact BK372.out)) : gb372 ≠ gb399))
                                    have n11_ := Aside0.mk ((by rw [hg]; exact Nat.ne_of_gt (blk_lt (g := gb372) (o := .cells #[.int .i64 a0_0] 23 (0, 0)) (by (with_reducible repeat (first | refine blk_drewN ?_ _ | refine blk_drew ?_ | refine blk_alloc ?_ _)); exact BK372.out)) : gb399 ≠ gb372))
                                    have n12_ := Aside0.mk ((by rw [hg]; exact Nat.ne_of_lt (blk_lt (g := gb379) (o := .cells #[.int .i64 t374] 23 (0, 0)) (by (with_reducible repeat (first | refine blk_drewN ?_ _ | refine blk_drew ?_ | refine blk_alloc ?_ _)); exact BK379.out)) : gb379 ≠ gb399))
                                    have n13_ := Aside0.mk ((by rw [hg]; exact Nat.ne_of_gt (blk_lt (g := gb379) (o := .cells #[.int .i64 t374] 23 (0, 0)) (by (with_reducible repeat (first | refine blk_drewN ?_ _ | refine blk_drew ?_ | refine blk_alloc ?_ _)); exact BK379.out)) : gb399 ≠ gb379))
                                    have n14_ := Aside0.mk ((by rw [hg]; exact Nat.ne_of_lt (blk_lt (g := gb389) (o := .cells #[.int .i64 t384] 23 (0, 0)) (by (with_reducible repeat (first | refine blk_drewN ?_ _ | refine blk_drew ?_ | refine blk_alloc ?_ _)); exact BK389.out)) : gb389 ≠ gb399))
                                    have n15_ := Aside0.mk ((by rw [hg]; exact Nat.ne_of_gt (blk_lt (g := gb389) (o := .cells #[.int .i64 t384] 23 (0, 0)) (by (with_reducible repeat (first | refine blk_drewN ?_ _ | refine blk_drew ?_ | refine blk_alloc ?_ _)); exact BK389.out)) : gb399 ≠ gb389))
                                    clear HO_8
                                    clear HO387
                                    clear HO397
                                    clear BK372
                                    clear BK379
                                    clear BK389
                                    clear HB
                                    have HO_8 := n0_
                                    have HO387 := n1_
                                    have HO397 := n2_
                                    have BK372 := n3_
                                    have BK379 := n4_
                                    have BK389 := n5_
                                    have HB := n6_
                                    have BK399 := n7_
                                    have GW399 := n8_
                                    have GE399 := n9_
                                    have NB372_399 := n10_
                                    have NB399_372 := n11_
                                    have NB379_399 := n12_
                                    have NB399_379 := n13_
                                    have NB389_399 := n14_
                                    have NB399_389 := n15_
                                    clear n0_ n1_ n2_ n3_ n4_ n5_ n6_ n7_ n8_ n9_ n10_ n11_ n12_ n13_ n14_ n15_
                                    clear hb hbox hg
                                    refine hK.out _ _ ((blk_cell BK389.out 0).trans rfl) (fun hHeld => ?_)
                                    clear hK K
                                    refine norm_ (a' := ?_) ?_ ?_
                                    rotate_left
                                    · show Act.put _ (some 14) _ = _
                                      simp only [Act.put, List.setIfInBounds_toArray, List.set_cons_zero, List.set_cons_succ, i64_w, i32_w]
                                      rfl
                                    exact norm_ (by simp only [putAll, Act.put, List.setIfInBounds_toArray, List.set_cons_zero, List.set_cons_succ]) (hCont (v396, gb399) _ ⟨hHeld, (by (with_reducible repeat (first | apply Kd.R_alloc | apply Kd.R_drewN | apply Kd.R_drew)); exact Kd.R_mono HO387.out (fun _ hk => ⟨hk.2, hk.1⟩)), (by (with_reducible repeat (first | apply Kd.R_alloc | apply Kd.R_drewN | apply Kd.R_drew)); exact Kd.R_mono HO397.out (fun _ hk => ⟨hk.2, hk.1.2⟩)), (by (with_reducible repeat (first | apply Kd.R_alloc | apply Kd.R_drewN | apply Kd.R_drew)); exact HO_8.out), (by (with_reducible repeat (first | refine blk_drewN ?_ _ | refine blk_drew ?_ | refine blk_alloc ?_ _)); exact BK372.out), (by (with_reducible repeat (first | refine blk_drewN ?_ _ | refine blk_drew ?_ | refine blk_alloc ?_ _)); exact BK379.out), (by (with_reducible repeat (first | refine blk_drewN ?_ _ | refine blk_drew ?_ | refine blk_alloc ?_ _)); exact BK389.out), (by (with_reducible repeat (first | refine blk_drewN ?_ _ | refine blk_drew ?_ | refine blk_alloc ?_ _)); exact BK399.out), GW399.out, GE399.out, NB372_399.out, NB399_372.out, NB379_399.out, NB399_379.out, NB389_399.out, NB399_389.out, (by repeat (first | (with_reducible first | exact HB.out | apply below_alloc | apply pw_below_drewN | apply below_drew1 | refine below_set ?_ GE372.out | refine below_set ?_ GE379.out | refine below_set ?_ GE389.out | refine below_set ?_ GE399.out) | exact HB.out))⟩)
                                  · skip
                                    refine box_step ?hg (N := 14) ?hd (cs := #[.int .i64 0]) (t := 23) ?hr ?_; (case hd => rfl); (case hg => rfl); (case hr => first | (go_simp; done) | (go_simp; rfl))
                                    intro gb399 hg w44 hbox hb
                                    have n0_ := Aside0.mk (Kd.R_below (by (with_reducible repeat (first | apply Kd.R_alloc | apply Kd.R_drewN | apply Kd.R_drew)); exact HO_8.out) hb)
                                    have n1_ := Aside0.mk (Kd.R_below (by (with_reducible repeat (first | apply Kd.R_alloc | apply Kd.R_drewN | apply Kd.R_drew)); exact HO387.out) hb)
                                    have n2_ := Aside0.mk (blk_below (g := gb372) (o := .cells #[.int .i64 a0_0] 23 (0, 0)) (by (with_reducible repeat (first | refine blk_drewN ?_ _ | refine blk_drew ?_ | refine blk_alloc ?_ _)); exact BK372.out) hb)
                                    have n3_ := Aside0.mk (blk_below (g := gb379) (o := .cells #[.int .i64 t374] 23 (0, 0)) (by (with_reducible repeat (first | refine blk_drewN ?_ _ | refine blk_drew ?_ | refine blk_alloc ?_ _)); exact BK379.out) hb)
                                    have n4_ := Aside0.mk (blk_below (g := gb389) (o := .cells #[.int .i64 t384] 23 (0, 0)) (by (with_reducible repeat (first | refine blk_drewN ?_ _ | refine blk_drew ?_ | refine blk_alloc ?_ _)); exact BK389.out) hb)
                                    have n5_ := Aside0.mk (below_step (by repeat (first | (with_reducible first | exact HB.out | apply below_alloc | apply pw_below_drewN | apply below_drew1 | refine below_set ?_ GE372.out | refine below_set ?_ GE379.out | refine below_set ?_ GE389.out) | exact HB.out)) hb)
                                    have n6_ := Aside0.mk (hbox)
                                    have n7_ := Aside0.mk ((by rw [hg]; exact (below_size (by repeat (first | (with_reducible first | exact HB.out | apply below_alloc | apply pw_below_drewN | apply below_drew1 | refine below_set ?_ GE372.out | refine below_set ?_ GE379.out | refine below_set ?_ GE389.out) | exact HB.out))) : w.heap.size ≤ gb399))
                                    have n8_ := Aside0.mk ((by rw [hg]; exact (below_size (by repeat (first | (with_reducible first | exact HB.out | apply below_alloc | apply pw_below_drewN | apply below_drew1 | refine below_set ?_ GE372.out | refine below_set ?_ GE379.out | refine below_set ?_ GE389.out) | exact HB.out))) : w.heap.size ≤ gb399))
                                    have n9_ := Aside0.mk ((by rw [hg]; exact Nat.ne_of_lt (blk_lt (g := gb372) (o := .cells #[.int .i64 a0_0] 23 (0, 0)) (by (with_reducible repeat (first | refine blk_drewN ?_ _ | refine blk_drew ?_ | refine blk_alloc ?_ _)); exact BK372.out)) : gb372 ≠ gb399))
                                    have n10_ := Aside0.mk ((by rw [hg]; exact Nat.ne_of_gt (blk_lt (g := gb372) (o := .cells #[.int .i64 a0_0] 23 (0, 0)) (by (with_reducible repeat (first | refine blk_drewN ?_ _ | refine blk_drew ?_ | refine blk_alloc ?_ _)); exact BK372.out)) : gb399 ≠ gb372))
                                    have n11_ := Aside0.mk ((by rw [hg]; exact Nat.ne_of_lt (blk_lt (g := gb379) (o := .cells #[.int .i64 t374] 23 (0, 0)) (by (with_reducible repeat (first | refine blk_drewN ?_ _ | refine blk_drew ?_ | refine blk_alloc ?_ _)); exact BK379.out)) : gb379 ≠ gb399))
                                    have n12_ := Aside0.mk ((by rw [hg]; exact Nat.ne_of_gt (blk_lt (g := gb379) (o := .cells #[.int .i64 t374] 23 (0, 0)) (by (with_reducible repeat (first | refine blk_drewN ?_ _ | refine blk_drew ?_ | refine blk_alloc ?_ _)); exact BK379.out)) : gb399 ≠ gb379))
                                    have n13_ := Aside0.mk ((by rw [hg]; exact Nat.ne_of_lt (blk_lt (g := gb389) (o := .cells #[.int .i64 t384] 23 (0, 0)) (by (with_reducible repeat (first | refine blk_drewN ?_ _ | refine blk_drew ?_ | refine blk_alloc ?_ _)); exact BK389.out)) : gb389 ≠ gb399))
                                    have n14_ := Aside0.mk ((by rw [hg]; exact Nat.ne_of_gt (blk_lt (g := gb389) (o := .cells #[.int .i64 t384] 23 (0, 0)) (by (with_reducible repeat (first | refine blk_drewN ?_ _ | refine blk_drew ?_ | refine blk_alloc ?_ _)); exact BK389.out)) : gb399 ≠ gb389))
                                    clear HO_8
                                    clear HO387
                                    clear BK372
                                    clear BK379
                                    clear BK389
                                    clear HB
                                    have HO_8 := n0_
                                    have HO387 := n1_
                                    have BK372 := n2_
                                    have BK379 := n3_
                                    have BK389 := n4_
                                    have HB := n5_
                                    have BK399 := n6_
                                    have GW399 := n7_
                                    have GE399 := n8_
                                    have NB372_399 := n9_
                                    have NB399_372 := n10_
                                    have NB379_399 := n11_
                                    have NB399_379 := n12_
                                    have NB389_399 := n13_
                                    have NB399_389 := n14_
                                    clear n0_ n1_ n2_ n3_ n4_ n5_ n6_ n7_ n8_ n9_ n10_ n11_ n12_ n13_ n14_
                                    clear hb hbox hg
                                    refine hK.out _ _ ((blk_cell BK389.out 0).trans rfl) (fun hHeld => ?_)
                                    clear hK K
                                    refine norm_ (a' := ?_) ?_ ?_
                                    rotate_left
                                    · show Act.put _ (some 14) _ = _
                                      simp only [Act.put, List.setIfInBounds_toArray, List.set_cons_zero, List.set_cons_succ, i64_w, i32_w]
                                      rfl
                                    refine one_ (i := 4) (N := some 58) #[true, true, true, true, true, false, false, false, false, true, false, false, false] rfl rfl (one_of HT_.out (by kernel_rfl)) (by decide) (fun K hK => ?_)
                                    refine goes_ Tryd.func18 (by kernel_rfl) rfl #[.agg #[.int .i64 t384], .slice A43 y390.length c43] (by rfl) rfl rfl (by (try simp only [List.map_toArray, List.map_cons, List.map_nil]); first | done | rfl | (simp only [List.length_drop, List.length_take]; rfl)) ?_
                                    refine tabbed (w := w) HT.out (by repeat (first | (with_reducible first | exact HB.out | apply below_alloc | apply pw_below_drewN | apply below_drew1 | refine below_set ?_ GE372.out | refine below_set ?_ GE379.out | refine below_set ?_ GE389.out | refine below_set ?_ GE399.out) | exact HB.out)) ?_
                                    intro hT_
                                    with_reducible refine (terminate_Run.calls kj12 t384 _ _ y390 t394 t395 t398 _ ?side1 ?side2 A26.out hT_).mono ?_
                                    clear hT_
                                    (case side1 => repeat (first | exact (Kd.C_below HR393.out HB.out) | (with_reducible refine Kd.C_alloc ?_ _) | (with_reducible refine Kd.C_drewN ?_ _) | (with_reducible refine Kd.C_drew ?_)))
                                    (case side2 => exact HC393.out)
                                    rintro e w45 ⟨v396, rfl, ho0, hb⟩
                                    refine ⟨_, rfl, ?_⟩
                                    have n0_ := Aside0.mk (Kd.R_elder' (by (with_reducible repeat (first | apply Kd.R_alloc | apply Kd.R_drewN | apply Kd.R_drew)); exact HO_8.out) (Kd.R_base ho0) hb)
                                    have n1_ := Aside0.mk (Kd.R_elder' (by (with_reducible repeat (first | apply Kd.R_alloc | apply Kd.R_drewN | apply Kd.R_drew)); exact HO387.out) (Kd.R_base ho0) hb)
                                    have n2_ := Aside0.mk (Kd.R_lower (Kd.R_new' (Kd.R_new' ho0 (Kd.R_lt (by (with_reducible repeat (first | apply Kd.R_alloc | apply Kd.R_drewN | apply Kd.R_drew)); exact HO_8.out))) (Kd.R_lt (by (with_reducible repeat (first | apply Kd.R_alloc | apply Kd.R_drewN | apply Kd.R_drew)); exact HO387.out))) (below_size (by repeat (first | (with_reducible first | exact HB.out | apply below_alloc | apply pw_below_drewN | apply below_drew1 | refine below_set ?_ GE372.out | refine below_set ?_ GE379.out | refine below_set ?_ GE389.out | refine below_set ?_ GE399.out) | exact HB.out))))
                                    have n3_ := Aside0.mk (blk_below (g := gb372) (o := .cells #[.int .i64 a0_0] 23 (0, 0)) (by (with_reducible repeat (first | refine blk_drewN ?_ _ | refine blk_drew ?_ | refine blk_alloc ?_ _)); exact BK372.out) hb)
                                    have n4_ := Aside0.mk (blk_below (g := gb379) (o := .cells #[.int .i64 t374] 23 (0, 0)) (by (with_reducible repeat (first | refine blk_drewN ?_ _ | refine blk_drew ?_ | refine blk_alloc ?_ _)); exact BK379.out) hb)
                                    have n5_ := Aside0.mk (blk_below (g := gb389) (o := .cells #[.int .i64 t384] 23 (0, 0)) (by (with_reducible repeat (first | refine blk_drewN ?_ _ | refine blk_drew ?_ | refine blk_alloc ?_ _)); exact BK389.out) hb)
                                    have n6_ := Aside0.mk (blk_below (g := gb399) (o := .cells #[.int .i64 0] 23 (0, 0)) (by (with_reducible repeat (first | refine blk_drewN ?_ _ | refine blk_drew ?_ | refine blk_alloc ?_ _)); exact BK399.out) hb)
                                    have n7_ := Aside0.mk (below_step (by repeat (first | (with_reducible first | exact HB.out | apply below_alloc | apply pw_below_drewN | apply below_drew1 | refine below_set ?_ GE372.out | refine below_set ?_ GE379.out | refine below_set ?_ GE389.out | refine below_set ?_ GE399.out) | exact HB.out)) hb)
                                    clear HO_8
                                    clear HO387
                                    clear BK372
                                    clear BK379
                                    clear BK389
                                    clear BK399
                                    clear HB
                                    have HO_8 := n0_
                                    have HO387 := n1_
                                    have HO397 := n2_
                                    have BK372 := n3_
                                    have BK379 := n4_
                                    have BK389 := n5_
                                    have BK399 := n6_
                                    have HB := n7_
                                    clear n0_ n1_ n2_ n3_ n4_ n5_ n6_ n7_
                                    (try clear hb)
                                    (try clear hb2)
                                    (try clear hk)
                                    (try clear hi)
                                    (try clear ho0)
                                    refine hK.out _ _ ((blk_cell BK389.out 0).trans rfl) (fun hHeld => ?_)
                                    clear hK K
                                    refine norm_ (a' := ?_) ?_ ?_
                                    rotate_left
                                    · show Act.put _ (some 58) _ = _
                                      simp only [Act.put, List.setIfInBounds_toArray, List.set_cons_zero, List.set_cons_succ, i64_w, i32_w]
                                      rfl
                                    refine pure_ (i := 5) (N := some 53) (v := ?_) (a' := ?_) #[true, true, true, true, true, true, false, false, false, true, false, false, false] rfl rfl (any_of HT_.out (by kernel_rfl)) (fun _ _ _ h => h) (Or.inl ⟨by rfl, ?_⟩) ?_ ?_
                                    rotate_left
                                    · intro w'
                                      go_simp
                                      with_reducible rfl
                                    rotate_left
                                    · simp only [Act.put, List.setIfInBounds_toArray, List.set_cons_zero, List.set_cons_succ, i64_w, i32_w]
                                      rfl
                                    refine pure_ (i := 6) (N := some 59) (v := ?_) (a' := ?_) #[true, true, true, true, true, true, true, false, false, true, false, false, false] rfl rfl (any_of HT_.out (by kernel_rfl)) (fun _ _ _ h => h) (Or.inl ⟨by rfl, ?_⟩) ?_ ?_
                                    rotate_left
                                    · intro w'
                                      go_simp
                                      with_reducible rfl
                                    rotate_left
                                    · simp only [Act.put, List.setIfInBounds_toArray, List.set_cons_zero, List.set_cons_succ, i64_w, i32_w]
                                      rfl
                                    refine pure_ (i := 7) (N := some 60) (v := ?_) (a' := ?_) #[true, true, true, true, true, true, true, true, false, true, false, false, false] rfl rfl (any_of HT_.out (by kernel_rfl)) (fun _ _ _ h => h) (Or.inl ⟨by rfl, ?_⟩) ?_ ?_
                                    rotate_left
                                    · intro w'
                                      go_simp
                                      with_reducible rfl
                                    rotate_left
                                    · simp only [Act.put, List.setIfInBounds_toArray, List.set_cons_zero, List.set_cons_succ, i64_w, i32_w]
                                      rfl
                                    refine pure_ (i := 8) (N := some 61) (v := ?_) (a' := ?_) #[true, true, true, true, true, true, true, true, true, true, false, false, false] rfl rfl (any_of HT_.out (by kernel_rfl)) (fun _ _ _ h => h) (Or.inl ⟨by rfl, ?_⟩) ?_ ?_
                                    rotate_left
                                    · intro w'
                                      go_simp
                                      with_reducible rfl
                                    rotate_left
                                    · simp only [Act.put, List.setIfInBounds_toArray, List.set_cons_zero, List.set_cons_succ, i64_w, i32_w]
                                      rfl
                                    exact norm_ (by simp only [putAll, Act.put, List.setIfInBounds_toArray, List.set_cons_zero, List.set_cons_succ]) (hCont (v396, gb399) _ ⟨hHeld, (by (with_reducible repeat (first | apply Kd.R_alloc | apply Kd.R_drewN | apply Kd.R_drew)); exact Kd.R_mono HO387.out (fun _ hk => ⟨hk.2, hk.1⟩)), (by (with_reducible repeat (first | apply Kd.R_alloc | apply Kd.R_drewN | apply Kd.R_drew)); exact Kd.R_mono HO397.out (fun _ hk => ⟨hk.2, hk.1.2⟩)), (by (with_reducible repeat (first | apply Kd.R_alloc | apply Kd.R_drewN | apply Kd.R_drew)); exact HO_8.out), (by (with_reducible repeat (first | refine blk_drewN ?_ _ | refine blk_drew ?_ | refine blk_alloc ?_ _)); exact BK372.out), (by (with_reducible repeat (first | refine blk_drewN ?_ _ | refine blk_drew ?_ | refine blk_alloc ?_ _)); exact BK379.out), (by (with_reducible repeat (first | refine blk_drewN ?_ _ | refine blk_drew ?_ | refine blk_alloc ?_ _)); exact BK389.out), (by (with_reducible repeat (first | refine blk_drewN ?_ _ | refine blk_drew ?_ | refine blk_alloc ?_ _)); exact BK399.out), GW399.out, GE399.out, NB372_399.out, NB399_372.out, NB379_399.out, NB399_379.out, NB389_399.out, NB399_389.out, (by repeat (first | (with_reducible first | exact HB.out | apply below_alloc | apply pw_below_drewN | apply below_drew1 | refine below_set ?_ GE372.out | refine below_set ?_ GE379.out | refine below_set ?_ GE389.out | refine below_set ?_ GE399.out) | exact HB.out))⟩)
                                rintro ⟨v396, gb399⟩ w46 ⟨hS_, h0_, h1_, h2_, h3_, h4_, h5_, h6_, h7_, h8_, h9_, h10_, h11_, h12_, h13_, h14_, h15_⟩
                                have n0_ : Aside0 (Kd.R k46 46 w46 w.heap.size (fun k_ => some k_ ≠ (v396 : Value).ownBlock ∧ some k_ ≠ (v376 : Value).ownBlock) v386 t385) := ⟨h0_⟩
                                have n1_ : Aside0 (Kd.R k46 46 w46 w.heap.size (fun k_ => some k_ ≠ (v386 : Value).ownBlock ∧ some k_ ≠ (v376 : Value).ownBlock) v396 t395) := ⟨h1_⟩
                                have n2_ : Aside0 (Kd.R k46 46 w46 w.heap.size (fun k_ => some k_ ≠ (v386 : Value).ownBlock ∧ some k_ ≠ (v396 : Value).ownBlock) v376 t375) := ⟨h2_⟩
                                have n3_ : Aside0 (w46.heap[gb372]? = some (.cells #[.int .i64 a0_0] 23 (0, 0))) := ⟨h3_⟩
                                have n4_ : Aside0 (w46.heap[gb379]? = some (.cells #[.int .i64 t374] 23 (0, 0))) := ⟨h4_⟩
                                have n5_ : Aside0 (w46.heap[gb389]? = some (.cells #[.int .i64 t384] 23 (0, 0))) := ⟨h5_⟩
                                have n6_ : Aside0 (w46.heap[gb399]? = some (.cells #[.int .i64 0] 23 (0, 0))) := ⟨h6_⟩
                                have n7_ : Aside0 (w.heap.size ≤ gb399) := ⟨h7_⟩
                                have n8_ : Aside0 (w.heap.size ≤ gb399) := ⟨h8_⟩
                                have n9_ : Aside0 (gb372 ≠ gb399) := ⟨h9_⟩
                                have n10_ : Aside0 (gb399 ≠ gb372) := ⟨h10_⟩
                                have n11_ : Aside0 (gb379 ≠ gb399) := ⟨h11_⟩
                                have n12_ : Aside0 (gb399 ≠ gb379) := ⟨h12_⟩
                                have n13_ : Aside0 (gb389 ≠ gb399) := ⟨h13_⟩
                                have n14_ : Aside0 (gb399 ≠ gb389) := ⟨h14_⟩
                                have n15_ : Aside0 (Below w.heap.size w w46) := ⟨h15_⟩
                                clear HO_8
                                clear HO387
                                clear BK372
                                clear BK379
                                clear BK389
                                clear HB
                                clear h0_ h1_ h2_ h3_ h4_ h5_ h6_ h7_ h8_ h9_ h10_ h11_ h12_ h13_ h14_ h15_
                                have HO387 := n0_
                                have HO397 := n1_
                                have HO_8 := n2_
                                have BK372 := n3_
                                have BK379 := n4_
                                have BK389 := n5_
                                have BK399 := n6_
                                have GW399 := n7_
                                have GE399 := n8_
                                have NB372_399 := n9_
                                have NB399_372 := n10_
                                have NB379_399 := n11_
                                have NB399_379 := n12_
                                have NB389_399 := n13_
                                have NB399_389 := n14_
                                have HB := n15_
                                clear n0_ n1_ n2_ n3_ n4_ n5_ n6_ n7_ n8_ n9_ n10_ n11_ n12_ n13_ n14_ n15_
                                have hHeld : w46.cell? ⟨gb389, 0, none⟩ = some (.int .i64 t384) := hS_
                                refine norm_ (a' := ?_) ?_ ?_
                                rotate_left
                                · simp only [putAll, Act.put, List.setIfInBounds_toArray, List.set_cons_zero, List.set_cons_succ]
                                  rfl
                                refine one_ (i := 10) (N := none) #[true, true, true, true, true, true, true, true, true, true, true, false, false] rfl rfl (one_of HT_.out (by kernel_rfl)) (by decide) (fun K hK => ?_)
                                have hs47 : w46.cell? ⟨gb399, 0, none⟩ = some (.int .i64 0) := (blk_cell BK399.out 0).trans rfl
                                have hfs47 := blk_frozen BK399.out 0
                                have hns47_0 := NB372_399.out
                                have hns47_1 := NB379_399.out
                                have hns47_2 := NB389_399.out
                                have hms47_0 := NB399_372.out
                                have hms47_1 := NB399_379.out
                                have hms47_2 := NB399_389.out
                                refine skip_ (w1 := ?_) (by rfl) rfl ?_ ?_
                                rotate_left
                                · go_simp
                                  rfl
                                refine hK.out _ _ (((cell_far (p := ⟨gb399, _, none⟩) NB389_399.out _).trans (hHeld))) (fun hHeld => ?_)
                                clear hK K
                                refine pure_ (i := 11) (N := some 15) (v := ?_) (a' := ?_) #[true, true, true, true, true, true, true, true, true, true, true, true, false] rfl rfl (any_of HT_.out (by kernel_rfl)) (fun _ _ _ h => h) (Or.inl ⟨by rfl, ?_⟩) ?_ ?_
                                rotate_left
                                · intro w'
                                  go_simp
                                  with_reducible rfl
                                rotate_left
                                · simp only [Act.put, List.setIfInBounds_toArray, List.set_cons_zero, List.set_cons_succ, i64_w, i32_w]
                                  rfl
                                refine pure_ (i := 12) (N := some 16) (v := ?_) (a' := ?_) #[true, true, true, true, true, true, true, true, true, true, true, true, true] rfl rfl (any_of HT_.out (by kernel_rfl)) (fun _ _ _ h => h) (Or.inl ⟨by rfl, ?_⟩) ?_ ?_
                                rotate_left
                                · intro w'
                                  go_simp
                                  with_reducible rfl
                                rotate_left
                                · simp only [Act.put, List.setIfInBounds_toArray, List.set_cons_zero, List.set_cons_succ, i64_w, i32_w]
                                  rfl
                                refine done_ (done_of HT_.out (by kernel_rfl)) ?_
                                have hnb48 := NB372_379.out
                                have hnc48 := NB379_372.out
                                have hnb49 := NB372_389.out
                                have hnc49 := NB389_372.out
                                have hnb50 := NB372_399.out
                                have hnc50 := NB399_372.out
                                have hcz51_0 : w46.cell? ⟨gb372, 0, none⟩ = some (.int .i64 a0_0) := (blk_cell BK372.out 0).trans rfl
                                have hfz51_0 := blk_frozen BK372.out 0
                                try go_wp2_with (first | ((with_reducible refine gate_callee (f := 16) rfl ?_); refine goesL_ (some 63) rfl rfl Tryd.func16 (by kernel_rfl) rfl #[.agg #[.int .i64 a0_0]] rfl (by (try simp only [List.map_toArray, List.map_cons, List.map_nil]); first | done | rfl | (simp only [List.length_drop, List.length_take]; rfl)) ?_; (with_reducible refine (terminate_Check.calls a0_0 t400 _ A27.out).mono ?_); rintro e w52 ⟨rfl, hb⟩; refine ⟨_, rfl, ?_⟩; have n0_ := Aside0.mk (Kd.R_below (by (with_reducible repeat (first | apply Kd.R_alloc | apply Kd.R_drewN | apply Kd.R_drew)); exact (Kd.R_mono (Kd.R_far (p := ⟨gb399, 0, none⟩) (Kd.R_types HO_8.out BK399.out (by decide)) (fun _ hk => hk.2) (.int .i64 t394)) (fun _ h_ => h_.1))) hb); have n1_ := Aside0.mk (Kd.R_below (by (with_reducible repeat (first | apply Kd.R_alloc | apply Kd.R_drewN | apply Kd.R_drew)); exact (Kd.R_mono (Kd.R_far (p := ⟨gb399, 0, none⟩) (Kd.R_types HO387.out BK399.out (by decide)) (fun _ hk => hk.2) (.int .i64 t394)) (fun _ h_ => h_.1))) hb); have n2_ := Aside0.mk (Kd.R_below (by (with_reducible repeat (first | apply Kd.R_alloc | apply Kd.R_drewN | apply Kd.R_drew)); exact (Kd.R_mono (Kd.R_far (p := ⟨gb399, 0, none⟩) (Kd.R_types HO397.out BK399.out (by decide)) (fun _ hk => hk.2) (.int .i64 t394)) (fun _ h_ => h_.1))) hb); have n3_ := Aside0.mk (blk_below (g := gb372) (o := .cells #[.int .i64 a0_0] 23 (0, 0)) (by (with_reducible repeat (first | refine blk_drewN ?_ _ | refine blk_drew ?_ | refine blk_alloc ?_ _)); refine blk_far ?_ NB372_399.out _; (with_reducible repeat (first | refine blk_drewN ?_ _ | refine blk_drew ?_ | refine blk_alloc ?_ _)); exact BK372.out) hb); have n4_ := Aside0.mk (blk_below (g := gb379) (o := .cells #[.int .i64 t374] 23 (0, 0)) (by (with_reducible repeat (first | refine blk_drewN ?_ _ | refine blk_drew ?_ | refine blk_alloc ?_ _)); refine blk_far ?_ NB379_399.out _; (with_reducible repeat (first | refine blk_drewN ?_ _ | refine blk_drew ?_ | refine blk_alloc ?_ _)); exact BK379.out) hb); have n5_ := Aside0.mk (blk_below (g := gb389) (o := .cells #[.int .i64 t384] 23 (0, 0)) (by (with_reducible repeat (first | refine blk_drewN ?_ _ | refine blk_drew ?_ | refine blk_alloc ?_ _)); refine blk_far ?_ NB389_399.out _; (with_reducible repeat (first | refine blk_drewN ?_ _ | refine blk_drew ?_ | refine blk_alloc ?_ _)); exact BK389.out) hb); have n6_ := Aside0.mk (blk_below (g := gb399) (o := .cells #[.int .i64 t394] 23 (0, 0)) (by (with_reducible repeat (first | refine blk_drewN ?_ _ | refine blk_drew ?_ | refine blk_alloc ?_ _)); refine blk_put (cs := #[.int .i64 0]) ?_ 0 _ rfl; (with_reducible repeat (first | refine blk_drewN ?_ _ | refine blk_drew ?_ | refine blk_alloc ?_ _)); exact BK399.out) hb); have n7_ := Aside0.mk (below_step (by repeat (first | (with_reducible first | exact HB.out | apply below_alloc | apply pw_below_drewN | apply below_drew1 | refine below_set ?_ GE372.out | refine below_set ?_ GE379.out | refine below_set ?_ GE389.out | refine below_set ?_ GE399.out) | exact HB.out)) hb); clear HO_8; clear HO387; clear HO397; clear BK372; clear BK379; clear BK389; clear BK399; clear HB; have HO_8 := n0_; have HO387 := n1_; have HO397 := n2_; have BK372 := n3_; have BK379 := n4_; have BK389 := n5_; have BK399 := n6_; have HB := n7_; clear n0_ n1_ n2_ n3_ n4_ n5_ n6_ n7_; (try clear hb); (try clear hb2); (try clear hk); (try clear hi); have hnb53 := NB379_389.out; have hnc53 := NB389_379.out; have hnb54 := NB379_399.out; have hnc54 := NB399_379.out; have hcz55_0 : w52.cell? ⟨gb379, 0, none⟩ = some (.int .i64 t374) := (blk_cell BK379.out 0).trans rfl; have hfz55_0 := blk_frozen BK379.out 0; have hnb56 := NB399_389.out; have hnc56 := NB389_399.out; have hcz57_0 : w52.cell? ⟨gb399, 0, none⟩ = some (.int .i64 t394) := (blk_cell BK399.out 0).trans rfl; have hfz57_0 := blk_frozen BK399.out 0; obtain ⟨Ao59, co59, eo59⟩ := Kd.R_slice HO387.out; subst eo59) | ((with_reducible refine gate_builtin (b := .append) (xs := #[.const (.slice none 0 0), .tmp 87]) rfl ?_); (try (refine gate_guard (by rfl) ?_; dsimp only)); at_builtin; refine Kd.R_append_rows k46 (w0 := w) w.heap.size rfl (.const (.slice none 0 0)) (.tmp 87) 27 46 (.agg #[(.int .i64 0), (.int .i64 0), (.string ⟨#[]⟩), (.int .i64 0)]) 40 rfl Tryd.underlying27 info46 rfl (by decide) (by omega) (.slice none 0 0) ([] : List (S46)) t385 _ _ _ (fun k_ => some k_ ≠ (v376 : Value).ownBlock ∧ some k_ ≠ (.slice Ao59 t385.length co59 : Value).ownBlock ∧ some k_ ≠ (v396 : Value).ownBlock) (fun _ => False) rfl rfl ?aO ?aR (fun _ _ h => h) (fun _ h => h.elim) ?aF ?aB ?aS ?aL ?_; (case aR => repeat (first | exact (Kd.R_reads' HO387.out).2.2 | (with_reducible refine Kd.C_alloc ?_ _) | (with_reducible refine Kd.C_drewN ?_ _) | (with_reducible refine Kd.C_drew ?_))); (case aB => exact (by repeat (first | (with_reducible first | exact HB.out | apply below_alloc | apply pw_below_drewN | apply below_drew1 | refine below_set ?_ GE372.out | refine below_set ?_ GE379.out | refine below_set ?_ GE389.out | refine below_set ?_ GE399.out) | exact HB.out))); (case aF => exact (fun k_ hk => ⟨Kd.fresh' (Kd.R_lt (by (with_reducible repeat (first | apply Kd.R_alloc | apply Kd.R_drewN | apply Kd.R_drew)); exact HO_8.out)) k_ hk, Kd.fresh' (Kd.R_lt (by (with_reducible repeat (first | apply Kd.R_alloc | apply Kd.R_drewN | apply Kd.R_drew)); exact HO387.out)) k_ hk, Kd.fresh' (Kd.R_lt (by (with_reducible repeat (first | apply Kd.R_alloc | apply Kd.R_drewN | apply Kd.R_drew)); exact HO397.out)) k_ hk⟩)); (case aO => exact ((Kd.R_nil _ _ _ _ (fun k_ => some k_ ≠ (v376 : Value).ownBlock ∧ some k_ ≠ (.slice Ao59 t385.length co59 : Value).ownBlock ∧ some k_ ≠ (v396 : Value).ownBlock)))); (case aS => exact (below_size (by repeat (first | (with_reducible first | exact HB.out | apply below_alloc | apply pw_below_drewN | apply below_drew1 | refine below_set ?_ GE372.out | refine below_set ?_ GE379.out | refine below_set ?_ GE389.out | refine below_set ?_ GE399.out) | exact HB.out)))); (case aL => have := LMc31.out; omega); intro v402 w58 ho hb hg hat; rw [← Ny401.out] at ho; have n0_ := Aside0.mk (Kd.R_after (Kd.R_apart_nil (by (with_reducible repeat (first | apply Kd.R_alloc | apply Kd.R_drewN | apply Kd.R_drew)); exact HO_8.out)) hg hat); have n1_ := Aside0.mk (blk_grown (g := gb372) (o := .cells #[.int .i64 a0_0] 23 (0, 0)) (by (with_reducible repeat (first | refine blk_drewN ?_ _ | refine blk_drew ?_ | refine blk_alloc ?_ _)); exact BK372.out) hg (by simp [Value.ownBlock])); have n2_ := Aside0.mk (blk_grown (g := gb379) (o := .cells #[.int .i64 t374] 23 (0, 0)) (by (with_reducible repeat (first | refine blk_drewN ?_ _ | refine blk_drew ?_ | refine blk_alloc ?_ _)); exact BK379.out) hg (by simp [Value.ownBlock])); have n3_ := Aside0.mk (Kd.R_after (Kd.R_apart_nil (by (with_reducible repeat (first | apply Kd.R_alloc | apply Kd.R_drewN | apply Kd.R_drew)); exact HO387.out)) hg hat); have n4_ := Aside0.mk (blk_grown (g := gb389) (o := .cells #[.int .i64 t384] 23 (0, 0)) (by (with_reducible repeat (first | refine blk_drewN ?_ _ | refine blk_drew ?_ | refine blk_alloc ?_ _)); exact BK389.out) hg (by simp [Value.ownBlock])); have n5_ := Aside0.mk (Kd.R_after (Kd.R_apart_nil (by (with_reducible repeat (first | apply Kd.R_alloc | apply Kd.R_drewN | apply Kd.R_drew)); exact HO397.out)) hg hat); have n6_ := Aside0.mk (blk_grown (g := gb399) (o := .cells #[.int .i64 t394] 23 (0, 0)) (by (with_reducible repeat (first | refine blk_drewN ?_ _ | refine blk_drew ?_ | refine blk_alloc ?_ _)); exact BK399.out) hg (by simp [Value.ownBlock])); have n7_ := Aside0.mk (hb); have n8_ := Aside0.mk (ho); clear HO_8; clear BK372; clear BK379; clear HO387; clear BK389; clear HO397; clear BK399; clear HB; have HO_8 := n0_; have BK372 := n1_; have BK379 := n2_; have HO387 := n3_; have BK389 := n4_; have HO397 := n5_; have BK399 := n6_; have HB := n7_; have HO403 := n8_; clear n0_ n1_ n2_ n3_ n4_ n5_ n6_ n7_ n8_; clear ho hb hg hat; obtain ⟨Ao61, co61, eo61⟩ := Kd.R_slice HO397.out; subst eo61) | ((with_reducible refine gate_builtin (b := .append) (xs := #[.tmp 88, .tmp 89]) rfl ?_); (try (refine gate_guard (by rfl) ?_; dsimp only)); at_builtin; refine Kd.R_append_rows k46 (w0 := w) w.heap.size rfl (.tmp 88) (.tmp 89) 27 46 (.agg #[(.int .i64 0), (.int .i64 0), (.string ⟨#[]⟩), (.int .i64 0)]) 40 rfl Tryd.underlying27 info46 rfl (by decide) (by omega) v402 y401 t395 _ _ _ (fun k_ => some k_ ≠ (v376 : Value).ownBlock ∧ some k_ ≠ (.slice Ao59 t385.length co59 : Value).ownBlock ∧ some k_ ≠ (.slice Ao61 t395.length co61 : Value).ownBlock) (fun _ => False) rfl rfl ?aO ?aR (fun _ _ h => h) (fun _ h => h.elim) ?aF ?aB ?aS ?aL ?_; (case aR => repeat (first | exact (Kd.R_reads' HO397.out).2.2 | (with_reducible refine Kd.C_alloc ?_ _) | (with_reducible refine Kd.C_drewN ?_ _) | (with_reducible refine Kd.C_drew ?_))); (case aB => exact (by repeat (first | (with_reducible first | exact HB.out | apply below_alloc | apply pw_below_drewN | apply below_drew1 | refine below_set ?_ GE372.out | refine below_set ?_ GE379.out | refine below_set ?_ GE389.out | refine below_set ?_ GE399.out) | exact HB.out))); (case aF => exact (fun k_ hk => ⟨Kd.fresh' (Kd.R_lt (by (with_reducible repeat (first | apply Kd.R_alloc | apply Kd.R_drewN | apply Kd.R_drew)); exact HO_8.out)) k_ hk, Kd.fresh' (Kd.R_lt (by (with_reducible repeat (first | apply Kd.R_alloc | apply Kd.R_drewN | apply Kd.R_drew)); exact HO387.out)) k_ hk, Kd.fresh' (Kd.R_lt (by (with_reducible repeat (first | apply Kd.R_alloc | apply Kd.R_drewN | apply Kd.R_drew)); exact HO397.out)) k_ hk⟩)); (case aO => exact (by (with_reducible repeat (first | apply Kd.R_alloc | apply Kd.R_drewN | apply Kd.R_drew)); exact HO403.out)); (case aS => exact (below_size (by repeat (first | (with_reducible first | exact HB.out | apply below_alloc | apply pw_below_drewN | apply below_drew1 | refine below_set ?_ GE372.out | refine below_set ?_ GE379.out | refine below_set ?_ GE389.out | refine below_set ?_ GE399.out) | exact HB.out)))); (case aL => have := LMc32.out; omega); intro v405 w60 ho hb hg hat; rw [← Ny404.out] at ho; have n0_ := Aside0.mk (Kd.R_after (ok := (fun k_ => some k_ ≠ (.slice Ao59 t385.length co59 : Value).ownBlock ∧ some k_ ≠ (.slice Ao61 t395.length co61 : Value).ownBlock)) (by (with_reducible repeat (first | apply Kd.R_alloc | apply Kd.R_drewN | apply Kd.R_drew)); exact HO_8.out) hg hat); have n1_ := Aside0.mk (blk_grown (g := gb372) (o := .cells #[.int .i64 a0_0] 23 (0, 0)) (by (with_reducible repeat (first | refine blk_drewN ?_ _ | refine blk_drew ?_ | refine blk_alloc ?_ _)); exact BK372.out) hg (Kd.R_ne HO403.out BK372.out (by decide))); have n2_ := Aside0.mk (blk_grown (g := gb379) (o := .cells #[.int .i64 t374] 23 (0, 0)) (by (with_reducible repeat (first | refine blk_drewN ?_ _ | refine blk_drew ?_ | refine blk_alloc ?_ _)); exact BK379.out) hg (Kd.R_ne HO403.out BK379.out (by decide))); have n3_ := Aside0.mk (Kd.R_after (ok := (fun k_ => some k_ ≠ (v376 : Value).ownBlock ∧ some k_ ≠ (.slice Ao61 t395.length co61 : Value).ownBlock)) (by (with_reducible repeat (first | apply Kd.R_alloc | apply Kd.R_drewN | apply Kd.R_drew)); exact Kd.R_mono HO387.out (fun _ hk => ⟨⟨hk.1.2, hk.1.1⟩, hk.2⟩)) hg hat); have n4_ := Aside0.mk (blk_grown (g := gb389) (o := .cells #[.int .i64 t384] 23 (0, 0)) (by (with_reducible repeat (first | refine blk_drewN ?_ _ | refine blk_drew ?_ | refine blk_alloc ?_ _)); exact BK389.out) hg (Kd.R_ne HO403.out BK389.out (by decide))); have n5_ := Aside0.mk (Kd.R_after (ok := (fun k_ => some k_ ≠ (v376 : Value).ownBlock ∧ some k_ ≠ (.slice Ao59 t385.length co59 : Value).ownBlock)) (by (with_reducible repeat (first | apply Kd.R_alloc | apply Kd.R_drewN | apply Kd.R_drew)); exact Kd.R_mono HO397.out (fun _ hk => ⟨⟨hk.1.2, hk.1.1⟩, hk.2⟩)) hg hat); have n6_ := Aside0.mk (blk_grown (g := gb399) (o := .cells #[.int .i64 t394] 23 (0, 0)) (by (with_reducible repeat (first | refine blk_drewN ?_ _ | refine blk_drew ?_ | refine blk_alloc ?_ _)); exact BK399.out) hg (Kd.R_ne HO403.out BK399.out (by decide))); have n7_ := Aside0.mk (hb); have n8_ := Aside0.mk (ho); clear HO_8; clear BK372; clear BK379; clear HO387; clear BK389; clear HO397; clear BK399; clear HB; clear HO403; have HO_8 := n0_; have BK372 := n1_; have BK379 := n2_; have HO387 := n3_; have BK389 := n4_; have HO397 := n5_; have BK399 := n6_; have HB := n7_; have HO406 := n8_; clear n0_ n1_ n2_ n3_ n4_ n5_ n6_ n7_ n8_; clear ho hb hg hat; obtain ⟨Ao62, co62, eo62⟩ := Kd.R_slice HO_8.out; subst eo62; obtain ⟨Ao63, co63, eo63⟩ := Kd.R_slice HO406.out; subst eo63) | (go_at_call 15; (with_reducible refine (crossbarref17_Same.calls kj12 _ _ t375 _ _ y404 true _ ?side1 ?side2 ?side3 ?side4 A33.out).mono ?_); (case side1 => repeat (first | exact (Kd.R_reads' HO_8.out).2.2 | (with_reducible refine Kd.C_alloc ?_ _) | (with_reducible refine Kd.C_drewN ?_ _) | (with_reducible refine Kd.C_drew ?_))); (case side2 => exact (Kd.R_reads' HO_8.out).2.1); (case side3 => repeat (first | exact (Kd.R_reads' HO406.out).2.2 | (with_reducible refine Kd.C_alloc ?_ _) | (with_reducible refine Kd.C_drewN ?_ _) | (with_reducible refine Kd.C_drew ?_))); (case side4 => exact (Kd.R_reads' HO406.out).2.1); rintro e w' ⟨rfl, ⟨nd, rfl⟩⟩))
                                go_ret
                                exact ⟨by first | rfl | (simp [errW_none, errW_some] <;> rfl) | (simp only [← hji12]; first | rfl | (simp [errW_none, errW_some] <;> rfl)) | (simp [*, errW_none, errW_some] <;> rfl), by repeat (first | (with_reducible first | exact HB.out | apply below_alloc | apply pw_below_drewN | apply below_drew1 | refine below_set ?_ GE372.out | refine below_set ?_ GE379.out | refine below_set ?_ GE389.out | refine below_set ?_ GE399.out) | exact HB.out)⟩
                              · replace c34 := Bool.eq_false_iff.mpr c34
                                subst c34
                                have H1 : (none) = some r := by rw [if_neg (show ¬ (false = true) by decide)] at H; exact H
                                clear H
                                have H := H1
                                clear H1
                                exact absurd H (by simp)
                            · rw [if_neg c32] at H
                              exact absurd H (by simp)
                          · rw [if_neg c31] at H
                            exact absurd H (by simp)
                        · rw [if_neg c30] at H
                          exact absurd H (by simp)
                      · rw [if_neg c29] at H
                        exact absurd H (by simp)
                    · rw [if_neg c28] at H
                      have c28b0 : (t400 == 0) = false := beq_eq_false_iff_ne.mpr c28
                      have c28b1 : (t400 != 0) = true := bne_iff_ne.mpr c28
                      by_cases c64 : (t374 == 0) = true
                      · rw [if_pos c64] at H
                        have c64b0 : (t374 == 0) = true := c64
                        (try (have c64b1 : decide (t374 = 0) = true := by simpa using c64))
                        (try (have c64b2 : (t374 == 0) = true := by simpa using c64))
                        clear c64
                        by_cases c65 : (t375.length : Int) = 0
                        · rw [if_pos c65] at H
                          have c65b0 : ((t375.length : Int) == 0) = true := beq_iff_eq.mpr c65
                          have c65b1 : ((t375.length : Int) != 0) = false := bne_eq_false_iff_eq.mpr c65
                          clear c65
                          obtain rfl := Option.some.inj H
                          try go_wp2
                          have n0_ := Aside0.mk (Kd.R_drew HO_8.out)
                          have n1_ := Aside0.mk (blk_drew BK372.out)
                          have n2_ := Aside0.mk (blk_drew BK379.out)
                          have n3_ := Aside0.mk (below_drew1 HB.out)
                          clear HO_8
                          clear BK372
                          clear BK379
                          clear HB
                          have HO_8 := n0_
                          have BK372 := n1_
                          have BK379 := n2_
                          have HB := n3_
                          clear n0_ n1_ n2_ n3_
                          have q67 : (ji12 : Int) ≤ ((l1.length : Int) : Int) := of_decide_eq_true (by first | (with_reducible assumption) | assumption)
                          obtain ⟨i067, hi067, _, hsz67, _⟩ := info_parts info25
                          have hroom67 : l1.length ≤ c1 := HC1.out
                          have hC67 : Kd.C k25 _ A1 l1.length l1 := HR1.out
                          have hcut67 := cut_to (P := Tryd.prog) 34 25 .i64 Tryd.underlying34 hi067 A1 l1.length c1 ji12 (of_decide_eq_true (by first | (with_reducible assumption) | assumption)) q67 hroom67
                          have hr67 := Kd.C_take (m := (ji12 : Int).toNat) hC67 (by omega)
                          have hy67 : y380.length = (ji12 : Int).toNat := (by rw [Ny380.out, List.length_take]; omega)
                          rw [← Ny380.out] at hr67
                          rw [← hy67] at hcut67
                          have HR383 := Aside0.mk hr67
                          have HC383 := Aside0.mk (show y380.length ≤ c1 from by omega)
                          clear hr67 hC67 hroom67 hi067 hsz67
                          have KY67 := Aside0.mk hy67
                          clear hy67
                          replace q67 := eq_true q67
                          refine start_ (n := 13) (S := fun w' => w'.cell? ⟨gb372, 0, none⟩ = some (.int .i64 a0_0)) (ds := []) #[false, false, false, false, false, false, false, false, false, false, false, false, false] (by kernel_rfl) rfl rfl ((blk_cell BK372.out 0).trans rfl) (fun hHeld => ?_); refine with_tabW crossbarlaw17_TerminateRunSplits.tab9 crossbarlaw17_TerminateRunSplits.bits9 (fun HT_ HW_ => ?_)
                          generalize wc.drew = w66 at HO_8 BK372 BK379 HB HR383 hHeld ⊢
                          refine pure_ (i := 1) (N := some 46) (v := ?_) (a' := ?_) #[false, true, false, false, false, false, false, false, false, false, false, false, false] rfl rfl (any_of HT_.out (by kernel_rfl)) (fun _ _ _ h => h) (Or.inl ⟨by rfl, ?_⟩) ?_ ?_
                          rotate_left
                          · intro w'
                            go_simp
                            with_reducible rfl
                          rotate_left
                          · simp only [Act.put, List.setIfInBounds_toArray, List.set_cons_zero, List.set_cons_succ, i64_w, i32_w]
                            rfl
                          refine pure_ (i := 2) (N := some 47) (v := ?_) (a' := ?_) #[false, true, true, false, false, false, false, false, false, false, false, false, false] rfl rfl (any_of HT_.out (by kernel_rfl)) (fun _ _ _ h => h) (Or.inl ⟨by rfl, ?_⟩) ?_ ?_
                          rotate_left
                          · intro w'
                            go_simp
                            with_reducible rfl
                          rotate_left
                          · simp only [Act.put, List.setIfInBounds_toArray, List.set_cons_zero, List.set_cons_succ, i64_w, i32_w]
                            rfl
                          refine pure_ (i := 3) (N := some 48) (v := ?_) (a' := ?_) #[false, true, true, true, false, false, false, false, false, false, false, false, false] rfl rfl (any_of HT_.out (by kernel_rfl)) (fun _ _ _ h => h) (Or.inl ⟨by rfl, ?_⟩) ?_ ?_
                          rotate_left
                          · intro w'
                            go_simp
                            with_reducible rfl
                          rotate_left
                          · simp only [Act.put, List.setIfInBounds_toArray, List.set_cons_zero, List.set_cons_succ, i64_w, i32_w]
                            rfl
                          refine take_ (i := 0) (N := some 45) (v := ?_) (a' := ?_) #[true, true, true, true, false, false, false, false, false, false, false, false, false] rfl rfl (take_ofW HT_.out HW_.out (by kernel_rfl)) (fun _ _ _ h => h) (Or.inl ⟨by rfl, ?_⟩) hHeld ?_ ?_
                          rotate_left
                          · intro w' s0
                            go_simp
                            with_reducible rfl
                          rotate_left
                          · simp only [Act.put, List.setIfInBounds_toArray, List.set_cons_zero, List.set_cons_succ, i64_w, i32_w]
                            rfl
                          refine join_ (σ := Value × Nat) 3 #[true, true, true, true, true, true, true, true, true, true, false, false, false] (fun s_ => [(49, .tuple #[.agg #[.int .i64 t384], s_.1, .int .i64 t388]), (11, .pointer (some ⟨s_.2, 0, none⟩)), (44, .tuple #[.agg #[.int .i64 t384], s_.1, .int .i64 t388]), (50, .agg #[.int .i64 t384]), (51, s_.1), (52, .int .i64 t388)]) (fun s_ w' => (w'.cell? ⟨gb372, 0, none⟩ = some (.int .i64 a0_0)) ∧ (Kd.R k46 46 w' w.heap.size (fun k_ => some k_ ≠ (v376 : Value).ownBlock) s_.1 t385) ∧ (Kd.R k46 46 w' w.heap.size (fun k_ => some k_ ≠ (s_.1 : Value).ownBlock) v376 t375) ∧ (w'.heap[gb372]? = some (.cells #[.int .i64 a0_0] 23 (0, 0))) ∧ (w'.heap[gb379]? = some (.cells #[.int .i64 t374] 23 (0, 0))) ∧ (w'.heap[s_.2]? = some (.cells #[.int .i64 0] 23 (0, 0))) ∧ (w.heap.size ≤ s_.2) ∧ (w.heap.size ≤ s_.2) ∧ (gb372 ≠ s_.2) ∧ (s_.2 ≠ gb372) ∧ (gb379 ≠ s_.2) ∧ (s_.2 ≠ gb379) ∧ (Below w.heap.size w w')) ?_ ?_
                          rotate_left
                          · intro hCont
                            refine two_ (i := 4) (j := 9) (Ni := some 49) (Nj := some 11) #[true, true, true, true, true, false, false, false, false, false, false, false, false] #[true, true, true, true, false, false, false, false, false, true, false, false, false] rfl rfl rfl rfl (two_of HT_.out (by kernel_rfl)) (by decide) (by decide) (fun K hK => ?_) (fun K hK => ?_)
                            · skip
                              refine goes_ Tryd.func18 (by kernel_rfl) rfl #[.agg #[.int .i64 a0_0], .slice A1 y380.length c1] (by rfl) rfl rfl (by (try simp only [List.map_toArray, List.map_cons, List.map_nil]); first | done | rfl | (simp only [List.length_drop, List.length_take]; rfl)) ?_
                              refine tabbed (w := w) HT.out (by repeat (first | (with_reducible first | exact HB.out | apply below_alloc | apply pw_below_drewN | apply below_drew1 | refine below_set ?_ GE372.out | refine below_set ?_ GE379.out) | exact HB.out)) ?_
                              intro hT_
                              with_reducible refine (terminate_Run.calls kj12 a0_0 _ _ y380 t384 t385 t388 _ ?side1 ?side2 A23.out hT_).mono ?_
                              clear hT_
                              (case side1 => repeat (first | exact (Kd.C_below HR383.out HB.out) | (with_reducible refine Kd.C_alloc ?_ _) | (with_reducible refine Kd.C_drewN ?_ _) | (with_reducible refine Kd.C_drew ?_)))
                              (case side2 => exact HC383.out)
                              rintro e w68 ⟨v386, rfl, ho0, hb⟩
                              refine ⟨_, rfl, ?_⟩
                              have n0_ := Aside0.mk (Kd.R_elder' (by (with_reducible repeat (first | apply Kd.R_alloc | apply Kd.R_drewN | apply Kd.R_drew)); exact HO_8.out) (Kd.R_base ho0) hb)
                              have n1_ := Aside0.mk (Kd.R_lower (Kd.R_new' ho0 (Kd.R_lt (by (with_reducible repeat (first | apply Kd.R_alloc | apply Kd.R_drewN | apply Kd.R_drew)); exact HO_8.out))) (below_size (by repeat (first | (with_reducible first | exact HB.out | apply below_alloc | apply pw_below_drewN | apply below_drew1 | refine below_set ?_ GE372.out | refine below_set ?_ GE379.out) | exact HB.out))))
                              have n2_ := Aside0.mk (blk_below (g := gb372) (o := .cells #[.int .i64 a0_0] 23 (0, 0)) (by (with_reducible repeat (first | refine blk_drewN ?_ _ | refine blk_drew ?_ | refine blk_alloc ?_ _)); exact BK372.out) hb)
                              have n3_ := Aside0.mk (blk_below (g := gb379) (o := .cells #[.int .i64 t374] 23 (0, 0)) (by (with_reducible repeat (first | refine blk_drewN ?_ _ | refine blk_drew ?_ | refine blk_alloc ?_ _)); exact BK379.out) hb)
                              have n4_ := Aside0.mk (below_step (by repeat (first | (with_reducible first | exact HB.out | apply below_alloc | apply pw_below_drewN | apply below_drew1 | refine below_set ?_ GE372.out | refine below_set ?_ GE379.out) | exact HB.out)) hb)
                              clear HO_8
                              clear BK372
                              clear BK379
                              clear HB
                              have HO_8 := n0_
                              have HO387 := n1_
                              have BK372 := n2_
                              have BK379 := n3_
                              have HB := n4_
                              clear n0_ n1_ n2_ n3_ n4_
                              (try clear hb)
                              (try clear hb2)
                              (try clear hk)
                              (try clear hi)
                              (try clear ho0)
                              refine hK.out _ _ ((blk_cell BK372.out 0).trans rfl) (fun hHeld => ?_)
                              clear hK K
                              refine norm_ (a' := ?_) ?_ ?_
                              rotate_left
                              · show Act.put _ (some 49) _ = _
                                simp only [Act.put, List.setIfInBounds_toArray, List.set_cons_zero, List.set_cons_succ, i64_w, i32_w]
                                rfl
                              refine pure_ (i := 5) (N := some 44) (v := ?_) (a' := ?_) #[true, true, true, true, true, true, false, false, false, false, false, false, false] rfl rfl (any_of HT_.out (by kernel_rfl)) (fun _ _ _ h => h) (Or.inl ⟨by rfl, ?_⟩) ?_ ?_
                              rotate_left
                              · intro w'
                                go_simp
                                with_reducible rfl
                              rotate_left
                              · simp only [Act.put, List.setIfInBounds_toArray, List.set_cons_zero, List.set_cons_succ, i64_w, i32_w]
                                rfl
                              refine pure_ (i := 6) (N := some 50) (v := ?_) (a' := ?_) #[true, true, true, true, true, true, true, false, false, false, false, false, false] rfl rfl (any_of HT_.out (by kernel_rfl)) (fun _ _ _ h => h) (Or.inl ⟨by rfl, ?_⟩) ?_ ?_
                              rotate_left
                              · intro w'
                                go_simp
                                with_reducible rfl
                              rotate_left
                              · simp only [Act.put, List.setIfInBounds_toArray, List.set_cons_zero, List.set_cons_succ, i64_w, i32_w]
                                rfl
                              refine pure_ (i := 7) (N := some 51) (v := ?_) (a' := ?_) #[true, true, true, true, true, true, true, true, false, false, false, false, false] rfl rfl (any_of HT_.out (by kernel_rfl)) (fun _ _ _ h => h) (Or.inl ⟨by rfl, ?_⟩) ?_ ?_
                              rotate_left
                              · intro w'
                                go_simp
                                with_reducible rfl
                              rotate_left
                              · simp only [Act.put, List.setIfInBounds_toArray, List.set_cons_zero, List.set_cons_succ, i64_w, i32_w]
                                rfl
                              refine pure_ (i := 8) (N := some 52) (v := ?_) (a' := ?_) #[true, true, true, true, true, true, true, true, true, false, false, false, false] rfl rfl (any_of HT_.out (by kernel_rfl)) (fun _ _ _ h => h) (Or.inl ⟨by rfl, ?_⟩) ?_ ?_
                              rotate_left
                              · intro w'
                                go_simp
                                with_reducible rfl
                              rotate_left
                              · simp only [Act.put, List.setIfInBounds_toArray, List.set_cons_zero, List.set_cons_succ, i64_w, i32_w]
                                rfl
                              refine one_ (i := 9) (N := some 11) #[true, true, true, true, true, true, true, true, true, true, false, false, false] rfl rfl (one_of HT_.out (by kernel_rfl)) (by decide) (fun K hK => ?_)
                              refine box_step ?hg (N := 11) ?hd (cs := #[.int .i64 0]) (t := 23) ?hr ?_; (case hd => rfl); (case hg => rfl); (case hr => first | (go_simp; done) | (go_simp; rfl))
                              intro gb389 hg w69 hbox hb
                              have n0_ := Aside0.mk (Kd.R_below (by (with_reducible repeat (first | apply Kd.R_alloc | apply Kd.R_drewN | apply Kd.R_drew)); exact HO_8.out) hb)
                              have n1_ := Aside0.mk (Kd.R_below (by (with_reducible repeat (first | apply Kd.R_alloc | apply Kd.R_drewN | apply Kd.R_drew)); exact HO387.out) hb)
                              have n2_ := Aside0.mk (blk_below (g := gb372) (o := .cells #[.int .i64 a0_0] 23 (0, 0)) (by (with_reducible repeat (first | refine blk_drewN ?_ _ | refine blk_drew ?_ | refine blk_alloc ?_ _)); exact BK372.out) hb)
                              have n3_ := Aside0.mk (blk_below (g := gb379) (o := .cells #[.int .i64 t374] 23 (0, 0)) (by (with_reducible repeat (first | refine blk_drewN ?_ _ | refine blk_drew ?_ | refine blk_alloc ?_ _)); exact BK379.out) hb)
                              have n4_ := Aside0.mk (below_step (by repeat (first | (with_reducible first | exact HB.out | apply below_alloc | apply pw_below_drewN | apply below_drew1 | refine below_set ?_ GE372.out | refine below_set ?_ GE379.out) | exact HB.out)) hb)
                              have n5_ := Aside0.mk (hbox)
                              have n6_ := Aside0.mk ((by rw [hg]; exact (below_size (by repeat (first | (with_reducible first | exact HB.out | apply below_alloc | apply pw_below_drewN | apply below_drew1 | refine below_set ?_ GE372.out | refine below_set ?_ GE379.out) | exact HB.out))) : w.heap.size ≤ gb389))
                              have n7_ := Aside0.mk ((by rw [hg]; exact (below_size (by repeat (first | (with_reducible first | exact HB.out | apply below_alloc | apply pw_below_drewN | apply below_drew1 | refine below_set ?_ GE372.out | refine below_set ?_ GE379.out) | exact HB.out))) : w.heap.size ≤ gb389))
                              have n8_ := Aside0.mk ((by rw [hg]; exact Nat.ne_of_lt (blk_lt (g := gb372) (o := .cells #[.int .i64 a0_0] 23 (0, 0)) (by (with_reducible repeat (first | refine blk_drewN ?_ _ | refine blk_drew ?_ | refine blk_alloc ?_ _)); exact BK372.out)) : gb372 ≠ gb389))
                              have n9_ := Aside0.mk ((by rw [hg]; exact Nat.ne_of_gt (blk_lt (g := gb372) (o := .cells #[.int .i64 a0_0] 23 (0, 0)) (by (with_reducible repeat (first | refine blk_drewN ?_ _ | refine blk_drew ?_ | refine blk_alloc ?_ _)); exact BK372.out)) : gb389 ≠ gb372))
                              have n10_ := Aside0.mk ((by rw [hg]; exact Nat.ne_of_lt (blk_lt (g := gb379) (o := .cells #[.int .i64 t374] 23 (0, 0)) (by (with_reducible repeat (first | refine blk_drewN ?_ _ | refine blk_drew ?_ | refine blk_alloc ?_ _)); exact BK379.out)) : gb379 ≠ gb389))
                              have n11_ := Aside0.mk ((by rw [hg]; exact Nat.ne_of_gt (blk_lt (g := gb379) (o := .cells #[.int .i64 t374] 23 (0, 0)) (by (with_reducible repeat (first | refine blk_drewN ?_ _ | refine blk_drew ?_ | refine blk_alloc ?_ _)); exact BK379.out)) : gb389 ≠ gb379))
                              clear HO_8
                              clear HO387
                              clear BK372
                              clear BK379
                              clear HB
                              have HO_8 := n0_
                              have HO387 := n1_
                              have BK372 := n2_
                              have BK379 := n3_
                              have HB := n4_
                              have BK389 := n5_
                              have GW389 := n6_
                              have GE389 := n7_
                              have NB372_389 := n8_
                              have NB389_372 := n9_
                              have NB379_389 := n10_
                              have NB389_379 := n11_
                              clear n0_ n1_ n2_ n3_ n4_ n5_ n6_ n7_ n8_ n9_ n10_ n11_
                              clear hb hbox hg
                              refine hK.out _ _ ((blk_cell BK372.out 0).trans rfl) (fun hHeld => ?_)
                              clear hK K
                              refine norm_ (a' := ?_) ?_ ?_
                              rotate_left
                              · show Act.put _ (some 11) _ = _
                                simp only [Act.put, List.setIfInBounds_toArray, List.set_cons_zero, List.set_cons_succ, i64_w, i32_w]
                                rfl
                              exact norm_ (by simp only [putAll, Act.put, List.setIfInBounds_toArray, List.set_cons_zero, List.set_cons_succ]) (hCont (v386, gb389) _ ⟨hHeld, (by (with_reducible repeat (first | apply Kd.R_alloc | apply Kd.R_drewN | apply Kd.R_drew)); exact Kd.R_mono HO387.out (fun _ hk => hk.2)), (by (with_reducible repeat (first | apply Kd.R_alloc | apply Kd.R_drewN | apply Kd.R_drew)); exact Kd.R_mono HO_8.out (fun _ hk => hk.2)), (by (with_reducible repeat (first | refine blk_drewN ?_ _ | refine blk_drew ?_ | refine blk_alloc ?_ _)); exact BK372.out), (by (with_reducible repeat (first | refine blk_drewN ?_ _ | refine blk_drew ?_ | refine blk_alloc ?_ _)); exact BK379.out), (by (with_reducible repeat (first | refine blk_drewN ?_ _ | refine blk_drew ?_ | refine blk_alloc ?_ _)); exact BK389.out), GW389.out, GE389.out, NB372_389.out, NB389_372.out, NB379_389.out, NB389_379.out, (by repeat (first | (with_reducible first | exact HB.out | apply below_alloc | apply pw_below_drewN | apply below_drew1 | refine below_set ?_ GE372.out | refine below_set ?_ GE379.out | refine below_set ?_ GE389.out) | exact HB.out))⟩)
                            · skip
                              refine box_step ?hg (N := 11) ?hd (cs := #[.int .i64 0]) (t := 23) ?hr ?_; (case hd => rfl); (case hg => rfl); (case hr => first | (go_simp; done) | (go_simp; rfl))
                              intro gb389 hg w68 hbox hb
                              have n0_ := Aside0.mk (Kd.R_below (by (with_reducible repeat (first | apply Kd.R_alloc | apply Kd.R_drewN | apply Kd.R_drew)); exact HO_8.out) hb)
                              have n1_ := Aside0.mk (blk_below (g := gb372) (o := .cells #[.int .i64 a0_0] 23 (0, 0)) (by (with_reducible repeat (first | refine blk_drewN ?_ _ | refine blk_drew ?_ | refine blk_alloc ?_ _)); exact BK372.out) hb)
                              have n2_ := Aside0.mk (blk_below (g := gb379) (o := .cells #[.int .i64 t374] 23 (0, 0)) (by (with_reducible repeat (first | refine blk_drewN ?_ _ | refine blk_drew ?_ | refine blk_alloc ?_ _)); exact BK379.out) hb)
                              have n3_ := Aside0.mk (below_step (by repeat (first | (with_reducible first | exact HB.out | apply below_alloc | apply pw_below_drewN | apply below_drew1 | refine below_set ?_ GE372.out | refine below_set ?_ GE379.out) | exact HB.out)) hb)
                              have n4_ := Aside0.mk (hbox)
                              have n5_ := Aside0.mk ((by rw [hg]; exact (below_size (by repeat (first | (with_reducible first | exact HB.out | apply below_alloc | apply pw_below_drewN | apply below_drew1 | refine below_set ?_ GE372.out | refine below_set ?_ GE379.out) | exact HB.out))) : w.heap.size ≤ gb389))
                              have n6_ := Aside0.mk ((by rw [hg]; exact (below_size (by repeat (first | (with_reducible first | exact HB.out | apply below_alloc | apply pw_below_drewN | apply below_drew1 | refine below_set ?_ GE372.out | refine below_set ?_ GE379.out) | exact HB.out))) : w.heap.size ≤ gb389))
                              have n7_ := Aside0.mk ((by rw [hg]; exact Nat.ne_of_lt (blk_lt (g := gb372) (o := .cells #[.int .i64 a0_0] 23 (0, 0)) (by (with_reducible repeat (first | refine blk_drewN ?_ _ | refine blk_drew ?_ | refine blk_alloc ?_ _)); exact BK372.out)) : gb372 ≠ gb389))
                              have n8_ := Aside0.mk ((by rw [hg]; exact Nat.ne_of_gt (blk_lt (g := gb372) (o := .cells #[.int .i64 a0_0] 23 (0, 0)) (by (with_reducible repeat (first | refine blk_drewN ?_ _ | refine blk_drew ?_ | refine blk_alloc ?_ _)); exact BK372.out)) : gb389 ≠ gb372))
                              have n9_ := Aside0.mk ((by rw [hg]; exact Nat.ne_of_lt (blk_lt (g := gb379) (o := .cells #[.int .i64 t374] 23 (0, 0)) (by (with_reducible repeat (first | refine blk_drewN ?_ _ | refine blk_drew ?_ | refine blk_alloc ?_ _)); exact BK379.out)) : gb379 ≠ gb389))
                              have n10_ := Aside0.mk ((by rw [hg]; exact Nat.ne_of_gt (blk_lt (g := gb379) (o := .cells #[.int .i64 t374] 23 (0, 0)) (by (with_reducible repeat (first | refine blk_drewN ?_ _ | refine blk_drew ?_ | refine blk_alloc ?_ _)); exact BK379.out)) : gb389 ≠ gb379))
                              clear HO_8
                              clear BK372
                              clear BK379
                              clear HB
                              have HO_8 := n0_
                              have BK372 := n1_
                              have BK379 := n2_
                              have HB := n3_
                              have BK389 := n4_
                              have GW389 := n5_
                              have GE389 := n6_
                              have NB372_389 := n7_
                              have NB389_372 := n8_
                              have NB379_389 := n9_
                              have NB389_379 := n10_
                              clear n0_ n1_ n2_ n3_ n4_ n5_ n6_ n7_ n8_ n9_ n10_
                              clear hb hbox hg
                              refine hK.out _ _ ((blk_cell BK372.out 0).trans rfl) (fun hHeld => ?_)
                              clear hK K
                              refine norm_ (a' := ?_) ?_ ?_
                              rotate_left
                              · show Act.put _ (some 11) _ = _
                                simp only [Act.put, List.setIfInBounds_toArray, List.set_cons_zero, List.set_cons_succ, i64_w, i32_w]
                                rfl
                              refine one_ (i := 4) (N := some 49) #[true, true, true, true, true, false, false, false, false, true, false, false, false] rfl rfl (one_of HT_.out (by kernel_rfl)) (by decide) (fun K hK => ?_)
                              refine goes_ Tryd.func18 (by kernel_rfl) rfl #[.agg #[.int .i64 a0_0], .slice A1 y380.length c1] (by rfl) rfl rfl (by (try simp only [List.map_toArray, List.map_cons, List.map_nil]); first | done | rfl | (simp only [List.length_drop, List.length_take]; rfl)) ?_
                              refine tabbed (w := w) HT.out (by repeat (first | (with_reducible first | exact HB.out | apply below_alloc | apply pw_below_drewN | apply below_drew1 | refine below_set ?_ GE372.out | refine below_set ?_ GE379.out | refine below_set ?_ GE389.out) | exact HB.out)) ?_
                              intro hT_
                              with_reducible refine (terminate_Run.calls kj12 a0_0 _ _ y380 t384 t385 t388 _ ?side1 ?side2 A23.out hT_).mono ?_
                              clear hT_
                              (case side1 => repeat (first | exact (Kd.C_below HR383.out HB.out) | (with_reducible refine Kd.C_alloc ?_ _) | (with_reducible refine Kd.C_drewN ?_ _) | (with_reducible refine Kd.C_drew ?_)))
                              (case side2 => exact HC383.out)
                              rintro e w69 ⟨v386, rfl, ho0, hb⟩
                              refine ⟨_, rfl, ?_⟩
                              have n0_ := Aside0.mk (Kd.R_elder' (by (with_reducible repeat (first | apply Kd.R_alloc | apply Kd.R_drewN | apply Kd.R_drew)); exact HO_8.out) (Kd.R_base ho0) hb)
                              have n1_ := Aside0.mk (Kd.R_lower (Kd.R_new' ho0 (Kd.R_lt (by (with_reducible repeat (first | apply Kd.R_alloc | apply Kd.R_drewN | apply Kd.R_drew)); exact HO_8.out))) (below_size (by repeat (first | (with_reducible first | exact HB.out | apply below_alloc | apply pw_below_drewN | apply below_drew1 | refine below_set ?_ GE372.out | refine below_set ?_ GE379.out | refine below_set ?_ GE389.out) | exact HB.out))))
                              have n2_ := Aside0.mk (blk_below (g := gb372) (o := .cells #[.int .i64 a0_0] 23 (0, 0)) (by (with_reducible repeat (first | refine blk_drewN ?_ _ | refine blk_drew ?_ | refine blk_alloc ?_ _)); exact BK372.out) hb)
                              have n3_ := Aside0.mk (blk_below (g := gb379) (o := .cells #[.int .i64 t374] 23 (0, 0)) (by (with_reducible repeat (first | refine blk_drewN ?_ _ | refine blk_drew ?_ | refine blk_alloc ?_ _)); exact BK379.out) hb)
                              have n4_ := Aside0.mk (blk_below (g := gb389) (o := .cells #[.int .i64 0] 23 (0, 0)) (by (with_reducible repeat (first | refine blk_drewN ?_ _ | refine blk_drew ?_ | refine blk_alloc ?_ _)); exact BK389.out) hb)
                              have n5_ := Aside0.mk (below_step (by repeat (first | (with_reducible first | exact HB.out | apply below_alloc | apply pw_below_drewN | apply below_drew1 | refine below_set ?_ GE372.out | refine below_set ?_ GE379.out | refine below_set ?_ GE389.out) | exact HB.out)) hb)
                              clear HO_8
                              clear BK372
                              clear BK379
                              clear BK389
                              clear HB
                              have HO_8 := n0_
                              have HO387 := n1_
                              have BK372 := n2_
                              have BK379 := n3_
                              have BK389 := n4_
                              have HB := n5_
                              clear n0_ n1_ n2_ n3_ n4_ n5_
                              (try clear hb)
                              (try clear hb2)
                              (try clear hk)
                              (try clear hi)
                              (try clear ho0)
                              refine hK.out _ _ ((blk_cell BK372.out 0).trans rfl) (fun hHeld => ?_)
                              clear hK K
                              refine norm_ (a' := ?_) ?_ ?_
                              rotate_left
                              · show Act.put _ (some 49) _ = _
                                simp only [Act.put, List.setIfInBounds_toArray, List.set_cons_zero, List.set_cons_succ, i64_w, i32_w]
                                rfl
                              refine pure_ (i := 5) (N := some 44) (v := ?_) (a' := ?_) #[true, true, true, true, true, true, false, false, false, true, false, false, false] rfl rfl (any_of HT_.out (by kernel_rfl)) (fun _ _ _ h => h) (Or.inl ⟨by rfl, ?_⟩) ?_ ?_
                              rotate_left
                              · intro w'
                                go_simp
                                with_reducible rfl
                              rotate_left
                              · simp only [Act.put, List.setIfInBounds_toArray, List.set_cons_zero, List.set_cons_succ, i64_w, i32_w]
                                rfl
                              refine pure_ (i := 6) (N := some 50) (v := ?_) (a' := ?_) #[true, true, true, true, true, true, true, false, false, true, false, false, false] rfl rfl (any_of HT_.out (by kernel_rfl)) (fun _ _ _ h => h) (Or.inl ⟨by rfl, ?_⟩) ?_ ?_
                              rotate_left
                              · intro w'
                                go_simp
                                with_reducible rfl
                              rotate_left
                              · simp only [Act.put, List.setIfInBounds_toArray, List.set_cons_zero, List.set_cons_succ, i64_w, i32_w]
                                rfl
                              refine pure_ (i := 7) (N := some 51) (v := ?_) (a' := ?_) #[true, true, true, true, true, true, true, true, false, true, false, false, false] rfl rfl (any_of HT_.out (by kernel_rfl)) (fun _ _ _ h => h) (Or.inl ⟨by rfl, ?_⟩) ?_ ?_
                              rotate_left
                              · intro w'
                                go_simp
                                with_reducible rfl
                              rotate_left
                              · simp only [Act.put, List.setIfInBounds_toArray, List.set_cons_zero, List.set_cons_succ, i64_w, i32_w]
                                rfl
                              refine pure_ (i := 8) (N := some 52) (v := ?_) (a' := ?_) #[true, true, true, true, true, true, true, true, true, true, false, false, false] rfl rfl (any_of HT_.out (by kernel_rfl)) (fun _ _ _ h => h) (Or.inl ⟨by rfl, ?_⟩) ?_ ?_
                              rotate_left
                              · intro w'
                                go_simp
                                with_reducible rfl
                              rotate_left
                              · simp only [Act.put, List.setIfInBounds_toArray, List.set_cons_zero, List.set_cons_succ, i64_w, i32_w]
                                rfl
                              exact norm_ (by simp only [putAll, Act.put, List.setIfInBounds_toArray, List.set_cons_zero, List.set_cons_succ]) (hCont (v386, gb389) _ ⟨hHeld, (by (with_reducible repeat (first | apply Kd.R_alloc | apply Kd.R_drewN | apply Kd.R_drew)); exact Kd.R_mono HO387.out (fun _ hk => hk.2)), (by (with_reducible repeat (first | apply Kd.R_alloc | apply Kd.R_drewN | apply Kd.R_drew)); exact Kd.R_mono HO_8.out (fun _ hk => hk.2)), (by (with_reducible repeat (first | refine blk_drewN ?_ _ | refine blk_drew ?_ | refine blk_alloc ?_ _)); exact BK372.out), (by (with_reducible repeat (first | refine blk_drewN ?_ _ | refine blk_drew ?_ | refine blk_alloc ?_ _)); exact BK379.out), (by (with_reducible repeat (first | refine blk_drewN ?_ _ | refine blk_drew ?_ | refine blk_alloc ?_ _)); exact BK389.out), GW389.out, GE389.out, NB372_389.out, NB389_372.out, NB379_389.out, NB389_379.out, (by repeat (first | (with_reducible first | exact HB.out | apply below_alloc | apply pw_below_drewN | apply below_drew1 | refine below_set ?_ GE372.out | refine below_set ?_ GE379.out | refine below_set ?_ GE389.out) | exact HB.out))⟩)
                          rintro ⟨v386, gb389⟩ w70 ⟨hS_, h0_, h1_, h2_, h3_, h4_, h5_, h6_, h7_, h8_, h9_, h10_, h11_⟩
                          have n0_ : Aside0 (Kd.R k46 46 w70 w.heap.size (fun k_ => some k_ ≠ (v376 : Value).ownBlock) v386 t385) := ⟨h0_⟩
                          have n1_ : Aside0 (Kd.R k46 46 w70 w.heap.size (fun k_ => some k_ ≠ (v386 : Value).ownBlock) v376 t375) := ⟨h1_⟩
                          have n2_ : Aside0 (w70.heap[gb372]? = some (.cells #[.int .i64 a0_0] 23 (0, 0))) := ⟨h2_⟩
                          have n3_ : Aside0 (w70.heap[gb379]? = some (.cells #[.int .i64 t374] 23 (0, 0))) := ⟨h3_⟩
                          have n4_ : Aside0 (w70.heap[gb389]? = some (.cells #[.int .i64 0] 23 (0, 0))) := ⟨h4_⟩
                          have n5_ : Aside0 (w.heap.size ≤ gb389) := ⟨h5_⟩
                          have n6_ : Aside0 (w.heap.size ≤ gb389) := ⟨h6_⟩
                          have n7_ : Aside0 (gb372 ≠ gb389) := ⟨h7_⟩
                          have n8_ : Aside0 (gb389 ≠ gb372) := ⟨h8_⟩
                          have n9_ : Aside0 (gb379 ≠ gb389) := ⟨h9_⟩
                          have n10_ : Aside0 (gb389 ≠ gb379) := ⟨h10_⟩
                          have n11_ : Aside0 (Below w.heap.size w w70) := ⟨h11_⟩
                          clear HO_8
                          clear BK372
                          clear BK379
                          clear HB
                          clear h0_ h1_ h2_ h3_ h4_ h5_ h6_ h7_ h8_ h9_ h10_ h11_
                          have HO387 := n0_
                          have HO_8 := n1_
                          have BK372 := n2_
                          have BK379 := n3_
                          have BK389 := n4_
                          have GW389 := n5_
                          have GE389 := n6_
                          have NB372_389 := n7_
                          have NB389_372 := n8_
                          have NB379_389 := n9_
                          have NB389_379 := n10_
                          have HB := n11_
                          clear n0_ n1_ n2_ n3_ n4_ n5_ n6_ n7_ n8_ n9_ n10_ n11_
                          have hHeld : w70.cell? ⟨gb372, 0, none⟩ = some (.int .i64 a0_0) := hS_
                          refine norm_ (a' := ?_) ?_ ?_
                          rotate_left
                          · simp only [putAll, Act.put, List.setIfInBounds_toArray, List.set_cons_zero, List.set_cons_succ]
                            rfl
                          refine one_ (i := 10) (N := none) #[true, true, true, true, true, true, true, true, true, true, true, false, false] rfl rfl (one_of HT_.out (by kernel_rfl)) (by decide) (fun K hK => ?_)
                          have hs71 : w70.cell? ⟨gb389, 0, none⟩ = some (.int .i64 0) := (blk_cell BK389.out 0).trans rfl
                          have hfs71 := blk_frozen BK389.out 0
                          have hns71_0 := NB372_389.out
                          have hns71_1 := NB379_389.out
                          have hms71_0 := NB389_372.out
                          have hms71_1 := NB389_379.out
                          refine skip_ (w1 := ?_) (by rfl) rfl ?_ ?_
                          rotate_left
                          · go_simp
                            rfl
                          refine hK.out _ _ (((cell_far (p := ⟨gb389, _, none⟩) NB372_389.out _).trans (hHeld))) (fun hHeld => ?_)
                          clear hK K
                          refine pure_ (i := 11) (N := some 12) (v := ?_) (a' := ?_) #[true, true, true, true, true, true, true, true, true, true, true, true, false] rfl rfl (any_of HT_.out (by kernel_rfl)) (fun _ _ _ h => h) (Or.inl ⟨by rfl, ?_⟩) ?_ ?_
                          rotate_left
                          · intro w'
                            go_simp
                            with_reducible rfl
                          rotate_left
                          · simp only [Act.put, List.setIfInBounds_toArray, List.set_cons_zero, List.set_cons_succ, i64_w, i32_w]
                            rfl
                          refine pure_ (i := 12) (N := some 13) (v := ?_) (a' := ?_) #[true, true, true, true, true, true, true, true, true, true, true, true, true] rfl rfl (any_of HT_.out (by kernel_rfl)) (fun _ _ _ h => h) (Or.inl ⟨by rfl, ?_⟩) ?_ ?_
                          rotate_left
                          · intro w'
                            go_simp
                            with_reducible rfl
                          rotate_left
                          · simp only [Act.put, List.setIfInBounds_toArray, List.set_cons_zero, List.set_cons_succ, i64_w, i32_w]
                            rfl
                          refine done_ (done_of HT_.out (by kernel_rfl)) ?_
                          try go_wp2
                          have n0_ : Aside0 (Kd.R k46 46 (w70.setCell ⟨gb389, 0, none⟩ (.int .i64 t384)) w.heap.size (fun k_ => some k_ ≠ (v386 : Value).ownBlock) v376 t375) := ⟨by (with_reducible repeat (first | apply Kd.R_alloc | apply Kd.R_drewN | apply Kd.R_drew)); exact Kd.R_mono (Kd.R_far (p := ⟨gb389, 0, none⟩) (Kd.R_types HO_8.out BK389.out (by decide)) (fun _ hk => hk.2) (.int .i64 t384)) (fun _ hk => hk.1)⟩
                          have n1_ : Aside0 (Kd.R k46 46 (w70.setCell ⟨gb389, 0, none⟩ (.int .i64 t384)) w.heap.size (fun k_ => some k_ ≠ (v376 : Value).ownBlock) v386 t385) := ⟨by (with_reducible repeat (first | apply Kd.R_alloc | apply Kd.R_drewN | apply Kd.R_drew)); exact Kd.R_mono (Kd.R_far (p := ⟨gb389, 0, none⟩) (Kd.R_types HO387.out BK389.out (by decide)) (fun _ hk => hk.2) (.int .i64 t384)) (fun _ hk => hk.1)⟩
                          have n2_ : Aside0 ((w70.setCell ⟨gb389, 0, none⟩ (.int .i64 t384)).heap[gb372]? = some (.cells #[.int .i64 a0_0] 23 (0, 0))) := ⟨by (with_reducible repeat (first | refine blk_drewN ?_ _ | refine blk_drew ?_ | refine blk_alloc ?_ _)); refine blk_far ?_ NB372_389.out _; (with_reducible repeat (first | refine blk_drewN ?_ _ | refine blk_drew ?_ | refine blk_alloc ?_ _)); exact BK372.out⟩
                          have n3_ : Aside0 ((w70.setCell ⟨gb389, 0, none⟩ (.int .i64 t384)).heap[gb379]? = some (.cells #[.int .i64 t374] 23 (0, 0))) := ⟨by (with_reducible repeat (first | refine blk_drewN ?_ _ | refine blk_drew ?_ | refine blk_alloc ?_ _)); refine blk_far ?_ NB379_389.out _; (with_reducible repeat (first | refine blk_drewN ?_ _ | refine blk_drew ?_ | refine blk_alloc ?_ _)); exact BK379.out⟩
                          have n4_ : Aside0 ((w70.setCell ⟨gb389, 0, none⟩ (.int .i64 t384)).heap[gb389]? = some (.cells #[.int .i64 t384] 23 (0, 0))) := ⟨by (with_reducible repeat (first | refine blk_drewN ?_ _ | refine blk_drew ?_ | refine blk_alloc ?_ _)); refine blk_put (cs := #[.int .i64 0]) ?_ 0 _ rfl; (with_reducible repeat (first | refine blk_drewN ?_ _ | refine blk_drew ?_ | refine blk_alloc ?_ _)); exact BK389.out⟩
                          have n5_ : Aside0 (Below w.heap.size w (w70.setCell ⟨gb389, 0, none⟩ (.int .i64 t384))) := ⟨by repeat (first | (with_reducible first | exact HB.out | apply below_alloc | apply pw_below_drewN | apply below_drew1 | refine below_set ?_ GE372.out | refine below_set ?_ GE379.out | refine below_set ?_ GE389.out) | exact HB.out)⟩
                          (try clear HO_8)
                          (try clear HO387)
                          (try clear BK372)
                          (try clear BK379)
                          (try clear BK389)
                          (try clear HB)
                          generalize (w70.setCell ⟨gb389, 0, none⟩ (.int .i64 t384)) = w72 at n0_ n1_ n2_ n3_ n4_ n5_ ⊢
                          have HO_8 := n0_
                          have HO387 := n1_
                          have BK372 := n2_
                          have BK379 := n3_
                          have BK389 := n4_
                          have HB := n5_
                          clear n0_ n1_ n2_ n3_ n4_ n5_
                          have n0_ := Aside0.mk (Kd.R_drew HO_8.out)
                          have n1_ := Aside0.mk (Kd.R_drew HO387.out)
                          have n2_ := Aside0.mk (blk_drew BK372.out)
                          have n3_ := Aside0.mk (blk_drew BK379.out)
                          have n4_ := Aside0.mk (blk_drew BK389.out)
                          have n5_ := Aside0.mk (below_drew1 HB.out)
                          clear HO_8
                          clear HO387
                          clear BK372
                          clear BK379
                          clear BK389
                          clear HB
                          have HO_8 := n0_
                          have HO387 := n1_
                          have BK372 := n2_
                          have BK379 := n3_
                          have BK389 := n4_
                          have HB := n5_
                          clear n0_ n1_ n2_ n3_ n4_ n5_
                          have q74 : (ji12 : Int) ≤ ((l1.length : Int) : Int) := of_decide_eq_true (by first | (with_reducible assumption) | assumption)
                          obtain ⟨i074, hi074, _, hsz74, _⟩ := info_parts info25
                          have hroom74 : l1.length ≤ c1 := HC1.out
                          have hC74 : Kd.C k25 _ A1 l1.length l1 := HR1.out
                          have q074 : (0 : Int) ≤ (ji12 : Int) := of_decide_eq_true (by first | (with_reducible assumption) | assumption)
                          have hcut74 := cut_from (P := Tryd.prog) 34 25 .i64 Tryd.underlying34 hi074 3 hsz74 A1 l1.length c1 ji12 q074 q74
                          have hr74 := Kd.C_drop (m := (ji12 : Int).toNat) (c := c1) hC74 (by omega) hroom74
                          obtain ⟨A74, hA74⟩ : ∃ A1_, A1_ = (if c1 = (ji12 : Int).toNat then A1 else (A1 : Option Addr).map (·.add ((ji12 : Int).toNat * 3))) := ⟨_, rfl⟩
                          obtain ⟨c74, hc74⟩ : ∃ c1_, c1_ = c1 - (ji12 : Int).toNat := ⟨_, rfl⟩
                          have hy74 : y390.length = l1.length - (ji12 : Int).toNat := (by rw [Ny390.out, List.length_drop] <;> omega)
                          rw [show (l1).drop (ji12 : Int).toNat = y390 from Ny390.out.symm] at hr74
                          replace hr74 : Kd.C k25 _ A74 y390.length y390 := (by rw [hA74]; exact hr74)
                          rw [← hy74, ← hA74, ← hc74] at hcut74
                          have HR393 := Aside0.mk hr74
                          have HC393 := Aside0.mk (show y390.length ≤ c74 from by rw [hy74, hc74]; exact Nat.sub_le_sub_right hroom74 _)
                          clear hr74 hC74 hroom74 hi074 hsz74 hc74
                          have KY74 := Aside0.mk hy74
                          have KA74 := Aside0.mk hA74
                          clear hy74 hA74
                          replace q74 := eq_true q74
                          refine start_ (n := 13) (S := fun w' => w'.cell? ⟨gb389, 0, none⟩ = some (.int .i64 t384)) (ds := []) #[false, false, false, false, false, false, false, false, false, false, false, false, false] (by kernel_rfl) rfl rfl ((blk_cell BK389.out 0).trans rfl) (fun hHeld => ?_); refine with_tabW crossbarlaw17_TerminateRunSplits.tab10 crossbarlaw17_TerminateRunSplits.bits10 (fun HT_ HW_ => ?_)
                          generalize w72.drew = w73 at HO_8 HO387 BK372 BK379 BK389 HB HR393 hHeld ⊢
                          refine pure_ (i := 1) (N := some 55) (v := ?_) (a' := ?_) #[false, true, false, false, false, false, false, false, false, false, false, false, false] rfl rfl (any_of HT_.out (by kernel_rfl)) (fun _ _ _ h => h) (Or.inl ⟨by rfl, ?_⟩) ?_ ?_
                          rotate_left
                          · intro w'
                            go_simp
                            with_reducible rfl
                          rotate_left
                          · simp only [Act.put, List.setIfInBounds_toArray, List.set_cons_zero, List.set_cons_succ, i64_w, i32_w]
                            rfl
                          refine pure_ (i := 2) (N := some 56) (v := ?_) (a' := ?_) #[false, true, true, false, false, false, false, false, false, false, false, false, false] rfl rfl (any_of HT_.out (by kernel_rfl)) (fun _ _ _ h => h) (Or.inl ⟨by rfl, ?_⟩) ?_ ?_
                          rotate_left
                          · intro w'
                            go_simp
                            with_reducible rfl
                          rotate_left
                          · simp only [Act.put, List.setIfInBounds_toArray, List.set_cons_zero, List.set_cons_succ, i64_w, i32_w]
                            rfl
                          refine pure_ (i := 3) (N := some 57) (v := ?_) (a' := ?_) #[false, true, true, true, false, false, false, false, false, false, false, false, false] rfl rfl (any_of HT_.out (by kernel_rfl)) (fun _ _ _ h => h) (Or.inl ⟨by rfl, ?_⟩) ?_ ?_
                          rotate_left
                          · intro w'
                            go_simp
                            with_reducible rfl
                          rotate_left
                          · simp only [Act.put, List.setIfInBounds_toArray, List.set_cons_zero, List.set_cons_succ, i64_w, i32_w]
                            rfl
                          refine take_ (i := 0) (N := some 54) (v := ?_) (a' := ?_) #[true, true, true, true, false, false, false, false, false, false, false, false, false] rfl rfl (take_ofW HT_.out HW_.out (by kernel_rfl)) (fun _ _ _ h => h) (Or.inl ⟨by rfl, ?_⟩) hHeld ?_ ?_
                          rotate_left
                          · intro w' s0
                            go_simp
                            with_reducible rfl
                          rotate_left
                          · simp only [Act.put, List.setIfInBounds_toArray, List.set_cons_zero, List.set_cons_succ, i64_w, i32_w]
                            rfl
                          refine join_ (σ := Value × Nat) 3 #[true, true, true, true, true, true, true, true, true, true, false, false, false] (fun s_ => [(58, .tuple #[.agg #[.int .i64 t394], s_.1, .int .i64 t398]), (14, .pointer (some ⟨s_.2, 0, none⟩)), (53, .tuple #[.agg #[.int .i64 t394], s_.1, .int .i64 t398]), (59, .agg #[.int .i64 t394]), (60, s_.1), (61, .int .i64 t398)]) (fun s_ w' => (w'.cell? ⟨gb389, 0, none⟩ = some (.int .i64 t384)) ∧ (Kd.R k46 46 w' w.heap.size (fun k_ => some k_ ≠ (s_.1 : Value).ownBlock ∧ some k_ ≠ (v376 : Value).ownBlock) v386 t385) ∧ (Kd.R k46 46 w' w.heap.size (fun k_ => some k_ ≠ (v386 : Value).ownBlock ∧ some k_ ≠ (v376 : Value).ownBlock) s_.1 t395) ∧ (Kd.R k46 46 w' w.heap.size (fun k_ => some k_ ≠ (v386 : Value).ownBlock ∧ some k_ ≠ (s_.1 : Value).ownBlock) v376 t375) ∧ (w'.heap[gb372]? = some (.cells #[.int .i64 a0_0] 23 (0, 0))) ∧ (w'.heap[gb379]? = some (.cells #[.int .i64 t374] 23 (0, 0))) ∧ (w'.heap[gb389]? = some (.cells #[.int .i64 t384] 23 (0, 0))) ∧ (w'.heap[s_.2]? = some (.cells #[.int .i64 0] 23 (0, 0))) ∧ (w.heap.size ≤ s_.2) ∧ (w.heap.size ≤ s_.2) ∧ (gb372 ≠ s_.2) ∧ (s_.2 ≠ gb372) ∧ (gb379 ≠ s_.2) ∧ (s_.2 ≠ gb379) ∧ (gb389 ≠ s_.2) ∧ (s_.2 ≠ gb389) ∧ (Below w.heap.size w w')) ?_ ?_
                          rotate_left
                          · intro hCont
                            refine two_ (i := 4) (j := 9) (Ni := some 58) (Nj := some 14) #[true, true, true, true, true, false, false, false, false, false, false, false, false] #[true, true, true, true, false, false, false, false, false, true, false, false, false] rfl rfl rfl rfl (two_of HT_.out (by kernel_rfl)) (by decide) (by decide) (fun K hK => ?_) (fun K hK => ?_)
                            · skip
                              refine goes_ Tryd.func18 (by kernel_rfl) rfl #[.agg #[.int .i64 t384], .slice A74 y390.length c74] (by rfl) rfl rfl (by (try simp only [List.map_toArray, List.map_cons, List.map_nil]); first | done | rfl | (simp only [List.length_drop, List.length_take]; rfl)) ?_
                              refine tabbed (w := w) HT.out (by repeat (first | (with_reducible first | exact HB.out | apply below_alloc | apply pw_below_drewN | apply below_drew1 | refine below_set ?_ GE372.out | refine below_set ?_ GE379.out | refine below_set ?_ GE389.out) | exact HB.out)) ?_
                              intro hT_
                              with_reducible refine (terminate_Run.calls kj12 t384 _ _ y390 t394 t395 t398 _ ?side1 ?side2 A26.out hT_).mono ?_
                              clear hT_
                              (case side1 => repeat (first | exact (Kd.C_below HR393.out HB.out) | (with_reducible refine Kd.C_alloc ?_ _) | (with_reducible refine Kd.C_drewN ?_ _) | (with_reducible refine Kd.C_drew ?_)))
                              (case side2 => exact HC393.out)
                              rintro e w75 ⟨v396, rfl, ho0, hb⟩
                              refine ⟨_, rfl, ?_⟩
                              have n0_ := Aside0.mk (Kd.R_elder' (by (with_reducible repeat (first | apply Kd.R_alloc | apply Kd.R_drewN | apply Kd.R_drew)); exact HO_8.out) (Kd.R_base ho0) hb)
                              have n1_ := Aside0.mk (Kd.R_elder' (by (with_reducible repeat (first | apply Kd.R_alloc | apply Kd.R_drewN | apply Kd.R_drew)); exact HO387.out) (Kd.R_base ho0) hb)
                              have n2_ := Aside0.mk (Kd.R_lower (Kd.R_new' (Kd.R_new' ho0 (Kd.R_lt (by (with_reducible repeat (first | apply Kd.R_alloc | apply Kd.R_drewN | apply Kd.R_drew)); exact HO_8.out))) (Kd.R_lt (by (with_reducible repeat (first | apply Kd.R_alloc | apply Kd.R_drewN | apply Kd.R_drew)); exact HO387.out))) (below_size (by repeat (first | (with_reducible first | exact HB.out | apply below_alloc | apply pw_below_drewN | apply below_drew1 | refine below_set ?_ GE372.out | refine below_set ?_ GE379.out | refine below_set ?_ GE389.out) | exact HB.out))))
                              have n3_ := Aside0.mk (blk_below (g := gb372) (o := .cells #[.int .i64 a0_0] 23 (0, 0)) (by (with_reducible repeat (first | refine blk_drewN ?_ _ | refine blk_drew ?_ | refine blk_alloc ?_ _)); exact BK372.out) hb)
                              have n4_ := Aside0.mk (blk_below (g := gb379) (o := .cells #[.int .i64 t374] 23 (0, 0)) (by (with_reducible repeat (first | refine blk_drewN ?_ _ | refine blk_drew ?_ | refine blk_alloc ?_ _)); exact BK379.out) hb)
                              have n5_ := Aside0.mk (blk_below (g := gb389) (o := .cells #[.int .i64 t384] 23 (0, 0)) (by (with_reducible repeat (first | refine blk_drewN ?_ _ | refine blk_drew ?_ | refine blk_alloc ?_ _)); exact BK389.out) hb)
                              have n6_ := Aside0.mk (below_step (by repeat (first | (with_reducible first | exact HB.out | apply below_alloc | apply pw_below_drewN | apply below_drew1 | refine below_set ?_ GE372.out | refine below_set ?_ GE379.out | refine below_set ?_ GE389.out) | exact HB.out)) hb)
                              clear HO_8
                              clear HO387
                              clear BK372
                              clear BK379
                              clear BK389
                              clear HB
                              have HO_8 := n0_
                              have HO387 := n1_
                              have HO397 := n2_
                              have BK372 := n3_
                              have BK379 := n4_
                              have BK389 := n5_
                              have HB := n6_
                              clear n0_ n1_ n2_ n3_ n4_ n5_ n6_
                              (try clear hb)
                              (try clear hb2)
                              (try clear hk)
                              (try clear hi)
                              (try clear ho0)
                              refine hK.out _ _ ((blk_cell BK389.out 0).trans rfl) (fun hHeld => ?_)
                              clear hK K
                              refine norm_ (a' := ?_) ?_ ?_
                              rotate_left
                              · show Act.put _ (some 58) _ = _
                                simp only [Act.put, List.setIfInBounds_toArray, List.set_cons_zero, List.set_cons_succ, i64_w, i32_w]
                                rfl
                              refine pure_ (i := 5) (N := some 53) (v := ?_) (a' := ?_) #[true, true, true, true, true, true, false, false, false, false, false, false, false] rfl rfl (any_of HT_.out (by kernel_rfl)) (fun _ _ _ h => h) (Or.inl ⟨by rfl, ?_⟩) ?_ ?_
                              rotate_left
                              · intro w'
                                go_simp
                                with_reducible rfl
                              rotate_left
                              · simp only [Act.put, List.setIfInBounds_toArray, List.set_cons_zero, List.set_cons_succ, i64_w, i32_w]
                                rfl
                              refine pure_ (i := 6) (N := some 59) (v := ?_) (a' := ?_) #[true, true, true, true, true, true, true, false, false, false, false, false, false] rfl rfl (any_of HT_.out (by kernel_rfl)) (fun _ _ _ h => h) (Or.inl ⟨by rfl, ?_⟩) ?_ ?_
                              rotate_left
                              · intro w'
                                go_simp
                                with_reducible rfl
                              rotate_left
                              · simp only [Act.put, List.setIfInBounds_toArray, List.set_cons_zero, List.set_cons_succ, i64_w, i32_w]
                                rfl
                              refine pure_ (i := 7) (N := some 60) (v := ?_) (a' := ?_) #[true, true, true, true, true, true, true, true, false, false, false, false, false] rfl rfl (any_of HT_.out (by kernel_rfl)) (fun _ _ _ h => h) (Or.inl ⟨by rfl, ?_⟩) ?_ ?_
                              rotate_left
                              · intro w'
                                go_simp
                                with_reducible rfl
                              rotate_left
                              · simp only [Act.put, List.setIfInBounds_toArray, List.set_cons_zero, List.set_cons_succ, i64_w, i32_w]
                                rfl
                              refine pure_ (i := 8) (N := some 61) (v := ?_) (a' := ?_) #[true, true, true, true, true, true, true, true, true, false, false, false, false] rfl rfl (any_of HT_.out (by kernel_rfl)) (fun _ _ _ h => h) (Or.inl ⟨by rfl, ?_⟩) ?_ ?_
                              rotate_left
                              · intro w'
                                go_simp
                                with_reducible rfl
                              rotate_left
                              · simp only [Act.put, List.setIfInBounds_toArray, List.set_cons_zero, List.set_cons_succ, i64_w, i32_w]
                                rfl
                              refine one_ (i := 9) (N := some 14) #[true, true, true, true, true, true, true, true, true, true, false, false, false] rfl rfl (one_of HT_.out (by kernel_rfl)) (by decide) (fun K hK => ?_)
                              refine box_step ?hg (N := 14) ?hd (cs := #[.int .i64 0]) (t := 23) ?hr ?_; (case hd => rfl); (case hg => rfl); (case hr => first | (go_simp; done) | (go_simp; rfl))
                              intro gb399 hg w76 hbox hb
                              have n0_ := Aside0.mk (Kd.R_below (by (with_reducible repeat (first | apply Kd.R_alloc | apply Kd.R_drewN | apply Kd.R_drew)); exact HO_8.out) hb)
                              have n1_ := Aside0.mk (Kd.R_below (by (with_reducible repeat (first | apply Kd.R_alloc | apply Kd.R_drewN | apply Kd.R_drew)); exact HO387.out) hb)
                              have n2_ := Aside0.mk (Kd.R_below (by (with_reducible repeat (first | apply Kd.R_alloc | apply Kd.R_drewN | apply Kd.R_drew)); exact HO397.out) hb)
                              have n3_ := Aside0.mk (blk_below (g := gb372) (o := .cells #[.int .i64 a0_0] 23 (0, 0)) (by (with_reducible repeat (first | refine blk_drewN ?_ _ | refine blk_drew ?_ | refine blk_alloc ?_ _)); exact BK372.out) hb)
                              have n4_ := Aside0.mk (blk_below (g := gb379) (o := .cells #[.int .i64 t374] 23 (0, 0)) (by (with_reducible repeat (first | refine blk_drewN ?_ _ | refine blk_drew ?_ | refine blk_alloc ?_ _)); exact BK379.out) hb)
                              have n5_ := Aside0.mk (blk_below (g := gb389) (o := .cells #[.int .i64 t384] 23 (0, 0)) (by (with_reducible repeat (first | refine blk_drewN ?_ _ | refine blk_drew ?_ | refine blk_alloc ?_ _)); exact BK389.out) hb)
                              have n6_ := Aside0.mk (below_step (by repeat (first | (with_reducible first | exact HB.out | apply below_alloc | apply pw_below_drewN | apply below_drew1 | refine below_set ?_ GE372.out | refine below_set ?_ GE379.out | refine below_set ?_ GE389.out) | exact HB.out)) hb)
                              have n7_ := Aside0.mk (hbox)
                              have n8_ := Aside0.mk ((by rw [hg]; exact (below_size (by repeat (first | (with_reducible first | exact HB.out | apply below_alloc | apply pw_below_drewN | apply below_drew1 | refine below_set ?_ GE372.out | refine below_set ?_ GE379.out | refine below_set ?_ GE389.out) | exact HB.out))) : w.heap.size ≤ gb399))
                              have n9_ := Aside0.mk ((by rw [hg]; exact (below_size (by repeat (first | (with_reducible first | exact HB.out | apply below_alloc | apply pw_below_drewN | apply below_drew1 | refine below_set ?_ GE372.out | refine below_set ?_ GE379.out | refine below_set ?_ GE389.out) | exact HB.out))) : w.heap.size ≤ gb399))
                              have n10_ := Aside0.mk ((by rw [hg]; exact Nat.ne_of_lt (blk_lt (g := gb372) (o := .cells #[.int .i64 a0_0] 23 (0, 0)) (by (with_reducible repeat (first | refine blk_drewN ?_ _ | refine blk_drew ?_ | refine blk_alloc ?_ _)); exact BK372.out)) : gb372 ≠ gb399))
                              have n11_ := Aside0.mk ((by rw [hg]; exact Nat.ne_of_gt (blk_lt (g := gb372) (o := .cells #[.int .i64 a0_0] 23 (0, 0)) (by (with_reducible repeat (first | refine blk_drewN ?_ _ | refine blk_drew ?_ | refine blk_alloc ?_ _)); exact BK372.out)) : gb399 ≠ gb372))
                              have n12_ := Aside0.mk ((by rw [hg]; exact Nat.ne_of_lt (blk_lt (g := gb379) (o := .cells #[.int .i64 t374] 23 (0, 0)) (by (with_reducible repeat (first | refine blk_drewN ?_ _ | refine blk_drew ?_ | refine blk_alloc ?_ _)); exact BK379.out)) : gb379 ≠ gb399))
                              have n13_ := Aside0.mk ((by rw [hg]; exact Nat.ne_of_gt (blk_lt (g := gb379) (o := .cells #[.int .i64 t374] 23 (0, 0)) (by (with_reducible repeat (first | refine blk_drewN ?_ _ | refine blk_drew ?_ | refine blk_alloc ?_ _)); exact BK379.out)) : gb399 ≠ gb379))
                              have n14_ := Aside0.mk ((by rw [hg]; exact Nat.ne_of_lt (blk_lt (g := gb389) (o := .cells #[.int .i64 t384] 23 (0, 0)) (by (with_reducible repeat (first | refine blk_drewN ?_ _ | refine blk_drew ?_ | refine blk_alloc ?_ _)); exact BK389.out)) : gb389 ≠ gb399))
                              have n15_ := Aside0.mk ((by rw [hg]; exact Nat.ne_of_gt (blk_lt (g := gb389) (o := .cells #[.int .i64 t384] 23 (0, 0)) (by (with_reducible repeat (first | refine blk_drewN ?_ _ | refine blk_drew ?_ | refine blk_alloc ?_ _)); exact BK389.out)) : gb399 ≠ gb389))
                              clear HO_8
                              clear HO387
                              clear HO397
                              clear BK372
                              clear BK379
                              clear BK389
                              clear HB
                              have HO_8 := n0_
                              have HO387 := n1_
                              have HO397 := n2_
                              have BK372 := n3_
                              have BK379 := n4_
                              have BK389 := n5_
                              have HB := n6_
                              have BK399 := n7_
                              have GW399 := n8_
                              have GE399 := n9_
                              have NB372_399 := n10_
                              have NB399_372 := n11_
                              have NB379_399 := n12_
                              have NB399_379 := n13_
                              have NB389_399 := n14_
                              have NB399_389 := n15_
                              clear n0_ n1_ n2_ n3_ n4_ n5_ n6_ n7_ n8_ n9_ n10_ n11_ n12_ n13_ n14_ n15_
                              clear hb hbox hg
                              refine hK.out _ _ ((blk_cell BK389.out 0).trans rfl) (fun hHeld => ?_)
                              clear hK K
                              refine norm_ (a' := ?_) ?_ ?_
                              rotate_left
                              · show Act.put _ (some 14) _ = _
                                simp only [Act.put, List.setIfInBounds_toArray, List.set_cons_zero, List.set_cons_succ, i64_w, i32_w]
                                rfl
                              exact norm_ (by simp only [putAll, Act.put, List.setIfInBounds_toArray, List.set_cons_zero, List.set_cons_succ]) (hCont (v396, gb399) _ ⟨hHeld, (by (with_reducible repeat (first | apply Kd.R_alloc | apply Kd.R_drewN | apply Kd.R_drew)); exact Kd.R_mono HO387.out (fun _ hk => ⟨hk.2, hk.1⟩)), (by (with_reducible repeat (first | apply Kd.R_alloc | apply Kd.R_drewN | apply Kd.R_drew)); exact Kd.R_mono HO397.out (fun _ hk => ⟨hk.2, hk.1.2⟩)), (by (with_reducible repeat (first | apply Kd.R_alloc | apply Kd.R_drewN | apply Kd.R_drew)); exact HO_8.out), (by (with_reducible repeat (first | refine blk_drewN ?_ _ | refine blk_drew ?_ | refine blk_alloc ?_ _)); exact BK372.out), (by (with_reducible repeat (first | refine blk_drewN ?_ _ | refine blk_drew ?_ | refine blk_alloc ?_ _)); exact BK379.out), (by (with_reducible repeat (first | refine blk_drewN ?_ _ | refine blk_drew ?_ | refine blk_alloc ?_ _)); exact BK389.out), (by (with_reducible repeat (first | refine blk_drewN ?_ _ | refine blk_drew ?_ | refine blk_alloc ?_ _)); exact BK399.out), GW399.out, GE399.out, NB372_399.out, NB399_372.out, NB379_399.out, NB399_379.out, NB389_399.out, NB399_389.out, (by repeat (first | (with_reducible first | exact HB.out | apply below_alloc | apply pw_below_drewN | apply below_drew1 | refine below_set ?_ GE372.out | refine below_set ?_ GE379.out | refine below_set ?_ GE389.out | refine below_set ?_ GE399.out) | exact HB.out))⟩)
                            · skip
                              refine box_step ?hg (N := 14) ?hd (cs := #[.int .i64 0]) (t := 23) ?hr ?_; (case hd => rfl); (case hg => rfl); (case hr => first | (go_simp; done) | (go_simp; rfl))
                              intro gb399 hg w75 hbox hb
                              have n0_ := Aside0.mk (Kd.R_below (by (with_reducible repeat (first | apply Kd.R_alloc | apply Kd.R_drewN | apply Kd.R_drew)); exact HO_8.out) hb)
                              have n1_ := Aside0.mk (Kd.R_below (by (with_reducible repeat (first | apply Kd.R_alloc | apply Kd.R_drewN | apply Kd.R_drew)); exact HO387.out) hb)
                              have n2_ := Aside0.mk (blk_below (g := gb372) (o := .cells #[.int .i64 a0_0] 23 (0, 0)) (by (with_reducible repeat (first | refine blk_drewN ?_ _ | refine blk_drew ?_ | refine blk_alloc ?_ _)); exact BK372.out) hb)
                              have n3_ := Aside0.mk (blk_below (g := gb379) (o := .cells #[.int .i64 t374] 23 (0, 0)) (by (with_reducible repeat (first | refine blk_drewN ?_ _ | refine blk_drew ?_ | refine blk_alloc ?_ _)); exact BK379.out) hb)
                              have n4_ := Aside0.mk (blk_below (g := gb389) (o := .cells #[.int .i64 t384] 23 (0, 0)) (by (with_reducible repeat (first | refine blk_drewN ?_ _ | refine blk_drew ?_ | refine blk_alloc ?_ _)); exact BK389.out) hb)
                              have n5_ := Aside0.mk (below_step (by repeat (first | (with_reducible first | exact HB.out | apply below_alloc | apply pw_below_drewN | apply below_drew1 | refine below_set ?_ GE372.out | refine below_set ?_ GE379.out | refine below_set ?_ GE389.out) | exact HB.out)) hb)
                              have n6_ := Aside0.mk (hbox)
                              have n7_ := Aside0.mk ((by rw [hg]; exact (below_size (by repeat (first | (with_reducible first | exact HB.out | apply below_alloc | apply pw_below_drewN | apply below_drew1 | refine below_set ?_ GE372.out | refine below_set ?_ GE379.out | refine below_set ?_ GE389.out) | exact HB.out))) : w.heap.size ≤ gb399))
                              have n8_ := Aside0.mk ((by rw [hg]; exact (below_size (by repeat (first | (with_reducible first | exact HB.out | apply below_alloc | apply pw_below_drewN | apply below_drew1 | refine below_set ?_ GE372.out | refine below_set ?_ GE379.out | refine below_set ?_ GE389.out) | exact HB.out))) : w.heap.size ≤ gb399))
                              have n9_ := Aside0.mk ((by rw [hg]; exact Nat.ne_of_lt (blk_lt (g := gb372) (o := .cells #[.int .i64 a0_0] 23 (0, 0)) (by (with_reducible repeat (first | refine blk_drewN ?_ _ | refine blk_drew ?_ | refine blk_alloc ?_ _)); exact BK372.out)) : gb372 ≠ gb399))
                              have n10_ := Aside0.mk ((by rw [hg]; exact Nat.ne_of_gt (blk_lt (g := gb372) (o := .cells #[.int .i64 a0_0] 23 (0, 0)) (by (with_reducible repeat (first | refine blk_drewN ?_ _ | refine blk_drew ?_ | refine blk_alloc ?_ _)); exact BK372.out)) : gb399 ≠ gb372))
                              have n11_ := Aside0.mk ((by rw [hg]; exact Nat.ne_of_lt (blk_lt (g := gb379) (o := .cells #[.int .i64 t374] 23 (0, 0)) (by (with_reducible repeat (first | refine blk_drewN ?_ _ | refine blk_drew ?_ | refine blk_alloc ?_ _)); exact BK379.out)) : gb379 ≠ gb399))
                              have n12_ := Aside0.mk ((by rw [hg]; exact Nat.ne_of_gt (blk_lt (g := gb379) (o := .cells #[.int .i64 t374] 23 (0, 0)) (by (with_reducible repeat (first | refine blk_drewN ?_ _ | refine blk_drew ?_ | refine blk_alloc ?_ _)); exact BK379.out)) : gb399 ≠ gb379))
                              have n13_ := Aside0.mk ((by rw [hg]; exact Nat.ne_of_lt (blk_lt (g := gb389) (o := .cells #[.int .i64 t384] 23 (0, 0)) (by (with_reducible repeat (first | refine blk_drewN ?_ _ | refine blk_drew ?_ | refine blk_alloc ?_ _)); exact BK389.out)) : gb389 ≠ gb399))
                              have n14_ := Aside0.mk ((by rw [hg]; exact Nat.ne_of_gt (blk_lt (g := gb389) (o := .cells #[.int .i64 t384] 23 (0, 0)) (by (with_reducible repeat (first | refine blk_drewN ?_ _ | refine blk_drew ?_ | refine blk_alloc ?_ _)); exact BK389.out)) : gb399 ≠ gb389))
                              clear HO_8
                              clear HO387
                              clear BK372
                              clear BK379
                              clear BK389
                              clear HB
                              have HO_8 := n0_
                              have HO387 := n1_
                              have BK372 := n2_
                              have BK379 := n3_
                              have BK389 := n4_
                              have HB := n5_
                              have BK399 := n6_
                              have GW399 := n7_
                              have GE399 := n8_
                              have NB372_399 := n9_
                              have NB399_372 := n10_
                              have NB379_399 := n11_
                              have NB399_379 := n12_
                              have NB389_399 := n13_
                              have NB399_389 := n14_
                              clear n0_ n1_ n2_ n3_ n4_ n5_ n6_ n7_ n8_ n9_ n10_ n11_ n12_ n13_ n14_
                              clear hb hbox hg
                              refine hK.out _ _ ((blk_cell BK389.out 0).trans rfl) (fun hHeld => ?_)
                              clear hK K
                              refine norm_ (a' := ?_) ?_ ?_
                              rotate_left
                              · show Act.put _ (some 14) _ = _
                                simp only [Act.put, List.setIfInBounds_toArray, List.set_cons_zero, List.set_cons_succ, i64_w, i32_w]
                                rfl
                              refine one_ (i := 4) (N := some 58) #[true, true, true, true, true, false, false, false, false, true, false, false, false] rfl rfl (one_of HT_.out (by kernel_rfl)) (by decide) (fun K hK => ?_)
                              refine goes_ Tryd.func18 (by kernel_rfl) rfl #[.agg #[.int .i64 t384], .slice A74 y390.length c74] (by rfl) rfl rfl (by (try simp only [List.map_toArray, List.map_cons, List.map_nil]); first | done | rfl | (simp only [List.length_drop, List.length_take]; rfl)) ?_
                              refine tabbed (w := w) HT.out (by repeat (first | (with_reducible first | exact HB.out | apply below_alloc | apply pw_below_drewN | apply below_drew1 | refine below_set ?_ GE372.out | refine below_set ?_ GE379.out | refine below_set ?_ GE389.out | refine below_set ?_ GE399.out) | exact HB.out)) ?_
                              intro hT_
                              with_reducible refine (terminate_Run.calls kj12 t384 _ _ y390 t394 t395 t398 _ ?side1 ?side2 A26.out hT_).mono ?_
                              clear hT_
                              (case side1 => repeat (first | exact (Kd.C_below HR393.out HB.out) | (with_reducible refine Kd.C_alloc ?_ _) | (with_reducible refine Kd.C_drewN ?_ _) | (with_reducible refine Kd.C_drew ?_)))
                              (case side2 => exact HC393.out)
                              rintro e w76 ⟨v396, rfl, ho0, hb⟩
                              refine ⟨_, rfl, ?_⟩
                              have n0_ := Aside0.mk (Kd.R_elder' (by (with_reducible repeat (first | apply Kd.R_alloc | apply Kd.R_drewN | apply Kd.R_drew)); exact HO_8.out) (Kd.R_base ho0) hb)
                              have n1_ := Aside0.mk (Kd.R_elder' (by (with_reducible repeat (first | apply Kd.R_alloc | apply Kd.R_drewN | apply Kd.R_drew)); exact HO387.out) (Kd.R_base ho0) hb)
                              have n2_ := Aside0.mk (Kd.R_lower (Kd.R_new' (Kd.R_new' ho0 (Kd.R_lt (by (with_reducible repeat (first | apply Kd.R_alloc | apply Kd.R_drewN | apply Kd.R_drew)); exact HO_8.out))) (Kd.R_lt (by (with_reducible repeat (first | apply Kd.R_alloc | apply Kd.R_drewN | apply Kd.R_drew)); exact HO387.out))) (below_size (by repeat (first | (with_reducible first | exact HB.out | apply below_alloc | apply pw_below_drewN | apply below_drew1 | refine below_set ?_ GE372.out | refine below_set ?_ GE379.out | refine below_set ?_ GE389.out | refine below_set ?_ GE399.out) | exact HB.out))))
                              have n3_ := Aside0.mk (blk_below (g := gb372) (o := .cells #[.int .i64 a0_0] 23 (0, 0)) (by (with_reducible repeat (first | refine blk_drewN ?_ _ | refine blk_drew ?_ | refine blk_alloc ?_ _)); exact BK372.out) hb)
                              have n4_ := Aside0.mk (blk_below (g := gb379) (o := .cells #[.int .i64 t374] 23 (0, 0)) (by (with_reducible repeat (first | refine blk_drewN ?_ _ | refine blk_drew ?_ | refine blk_alloc ?_ _)); exact BK379.out) hb)
                              have n5_ := Aside0.mk (blk_below (g := gb389) (o := .cells #[.int .i64 t384] 23 (0, 0)) (by (with_reducible repeat (first | refine blk_drewN ?_ _ | refine blk_drew ?_ | refine blk_alloc ?_ _)); exact BK389.out) hb)
                              have n6_ := Aside0.mk (blk_below (g := gb399) (o := .cells #[.int .i64 0] 23 (0, 0)) (by (with_reducible repeat (first | refine blk_drewN ?_ _ | refine blk_drew ?_ | refine blk_alloc ?_ _)); exact BK399.out) hb)
                              have n7_ := Aside0.mk (below_step (by repeat (first | (with_reducible first | exact HB.out | apply below_alloc | apply pw_below_drewN | apply below_drew1 | refine below_set ?_ GE372.out | refine below_set ?_ GE379.out | refine below_set ?_ GE389.out | refine below_set ?_ GE399.out) | exact HB.out)) hb)
                              clear HO_8
                              clear HO387
                              clear BK372
                              clear BK379
                              clear BK389
                              clear BK399
                              clear HB
                              have HO_8 := n0_
                              have HO387 := n1_
                              have HO397 := n2_
                              have BK372 := n3_
                              have BK379 := n4_
                              have BK389 := n5_
                              have BK399 := n6_
                              have HB := n7_
                              clear n0_ n1_ n2_ n3_ n4_ n5_ n6_ n7_
                              (try clear hb)
                              (try clear hb2)
                              (try clear hk)
                              (try clear hi)
                              (try clear ho0)
                              refine hK.out _ _ ((blk_cell BK389.out 0).trans rfl) (fun hHeld => ?_)
                              clear hK K
                              refine norm_ (a' := ?_) ?_ ?_
                              rotate_left
                              · show Act.put _ (some 58) _ = _
                                simp only [Act.put, List.setIfInBounds_toArray, List.set_cons_zero, List.set_cons_succ, i64_w, i32_w]
                                rfl
                              refine pure_ (i := 5) (N := some 53) (v := ?_) (a' := ?_) #[true, true, true, true, true, true, false, false, false, true, false, false, false] rfl rfl (any_of HT_.out (by kernel_rfl)) (fun _ _ _ h => h) (Or.inl ⟨by rfl, ?_⟩) ?_ ?_
                              rotate_left
                              · intro w'
                                go_simp
                                with_reducible rfl
                              rotate_left
                              · simp only [Act.put, List.setIfInBounds_toArray, List.set_cons_zero, List.set_cons_succ, i64_w, i32_w]
                                rfl
                              refine pure_ (i := 6) (N := some 59) (v := ?_) (a' := ?_) #[true, true, true, true, true, true, true, false, false, true, false, false, false] rfl rfl (any_of HT_.out (by kernel_rfl)) (fun _ _ _ h => h) (Or.inl ⟨by rfl, ?_⟩) ?_ ?_
                              rotate_left
                              · intro w'
                                go_simp
                                with_reducible rfl
                              rotate_left
                              · simp only [Act.put, List.setIfInBounds_toArray, List.set_cons_zero, List.set_cons_succ, i64_w, i32_w]
                                rfl
                              refine pure_ (i := 7) (N := some 60) (v := ?_) (a' := ?_) #[true, true, true, true, true, true, true, true, false, true, false, false, false] rfl rfl (any_of HT_.out (by kernel_rfl)) (fun _ _ _ h => h) (Or.inl ⟨by rfl, ?_⟩) ?_ ?_
                              rotate_left
                              · intro w'
                                go_simp
                                with_reducible rfl
                              rotate_left
                              · simp only [Act.put, List.setIfInBounds_toArray, List.set_cons_zero, List.set_cons_succ, i64_w, i32_w]
                                rfl
                              refine pure_ (i := 8) (N := some 61) (v := ?_) (a' := ?_) #[true, true, true, true, true, true, true, true, true, true, false, false, false] rfl rfl (any_of HT_.out (by kernel_rfl)) (fun _ _ _ h => h) (Or.inl ⟨by rfl, ?_⟩) ?_ ?_
                              rotate_left
                              · intro w'
                                go_simp
                                with_reducible rfl
                              rotate_left
                              · simp only [Act.put, List.setIfInBounds_toArray, List.set_cons_zero, List.set_cons_succ, i64_w, i32_w]
                                rfl
                              exact norm_ (by simp only [putAll, Act.put, List.setIfInBounds_toArray, List.set_cons_zero, List.set_cons_succ]) (hCont (v396, gb399) _ ⟨hHeld, (by (with_reducible repeat (first | apply Kd.R_alloc | apply Kd.R_drewN | apply Kd.R_drew)); exact Kd.R_mono HO387.out (fun _ hk => ⟨hk.2, hk.1⟩)), (by (with_reducible repeat (first | apply Kd.R_alloc | apply Kd.R_drewN | apply Kd.R_drew)); exact Kd.R_mono HO397.out (fun _ hk => ⟨hk.2, hk.1.2⟩)), (by (with_reducible repeat (first | apply Kd.R_alloc | apply Kd.R_drewN | apply Kd.R_drew)); exact HO_8.out), (by (with_reducible repeat (first | refine blk_drewN ?_ _ | refine blk_drew ?_ | refine blk_alloc ?_ _)); exact BK372.out), (by (with_reducible repeat (first | refine blk_drewN ?_ _ | refine blk_drew ?_ | refine blk_alloc ?_ _)); exact BK379.out), (by (with_reducible repeat (first | refine blk_drewN ?_ _ | refine blk_drew ?_ | refine blk_alloc ?_ _)); exact BK389.out), (by (with_reducible repeat (first | refine blk_drewN ?_ _ | refine blk_drew ?_ | refine blk_alloc ?_ _)); exact BK399.out), GW399.out, GE399.out, NB372_399.out, NB399_372.out, NB379_399.out, NB399_379.out, NB389_399.out, NB399_389.out, (by repeat (first | (with_reducible first | exact HB.out | apply below_alloc | apply pw_below_drewN | apply below_drew1 | refine below_set ?_ GE372.out | refine below_set ?_ GE379.out | refine below_set ?_ GE389.out | refine below_set ?_ GE399.out) | exact HB.out))⟩)
                          rintro ⟨v396, gb399⟩ w77 ⟨hS_, h0_, h1_, h2_, h3_, h4_, h5_, h6_, h7_, h8_, h9_, h10_, h11_, h12_, h13_, h14_, h15_⟩
                          have n0_ : Aside0 (Kd.R k46 46 w77 w.heap.size (fun k_ => some k_ ≠ (v396 : Value).ownBlock ∧ some k_ ≠ (v376 : Value).ownBlock) v386 t385) := ⟨h0_⟩
                          have n1_ : Aside0 (Kd.R k46 46 w77 w.heap.size (fun k_ => some k_ ≠ (v386 : Value).ownBlock ∧ some k_ ≠ (v376 : Value).ownBlock) v396 t395) := ⟨h1_⟩
                          have n2_ : Aside0 (Kd.R k46 46 w77 w.heap.size (fun k_ => some k_ ≠ (v386 : Value).ownBlock ∧ some k_ ≠ (v396 : Value).ownBlock) v376 t375) := ⟨h2_⟩
                          have n3_ : Aside0 (w77.heap[gb372]? = some (.cells #[.int .i64 a0_0] 23 (0, 0))) := ⟨h3_⟩
                          have n4_ : Aside0 (w77.heap[gb379]? = some (.cells #[.int .i64 t374] 23 (0, 0))) := ⟨h4_⟩
                          have n5_ : Aside0 (w77.heap[gb389]? = some (.cells #[.int .i64 t384] 23 (0, 0))) := ⟨h5_⟩
                          have n6_ : Aside0 (w77.heap[gb399]? = some (.cells #[.int .i64 0] 23 (0, 0))) := ⟨h6_⟩
                          have n7_ : Aside0 (w.heap.size ≤ gb399) := ⟨h7_⟩
                          have n8_ : Aside0 (w.heap.size ≤ gb399) := ⟨h8_⟩
                          have n9_ : Aside0 (gb372 ≠ gb399) := ⟨h9_⟩
                          have n10_ : Aside0 (gb399 ≠ gb372) := ⟨h10_⟩
                          have n11_ : Aside0 (gb379 ≠ gb399) := ⟨h11_⟩
                          have n12_ : Aside0 (gb399 ≠ gb379) := ⟨h12_⟩
                          have n13_ : Aside0 (gb389 ≠ gb399) := ⟨h13_⟩
                          have n14_ : Aside0 (gb399 ≠ gb389) := ⟨h14_⟩
                          have n15_ : Aside0 (Below w.heap.size w w77) := ⟨h15_⟩
                          clear HO_8
                          clear HO387
                          clear BK372
                          clear BK379
                          clear BK389
                          clear HB
                          clear h0_ h1_ h2_ h3_ h4_ h5_ h6_ h7_ h8_ h9_ h10_ h11_ h12_ h13_ h14_ h15_
                          have HO387 := n0_
                          have HO397 := n1_
                          have HO_8 := n2_
                          have BK372 := n3_
                          have BK379 := n4_
                          have BK389 := n5_
                          have BK399 := n6_
                          have GW399 := n7_
                          have GE399 := n8_
                          have NB372_399 := n9_
                          have NB399_372 := n10_
                          have NB379_399 := n11_
                          have NB399_379 := n12_
                          have NB389_399 := n13_
                          have NB399_389 := n14_
                          have HB := n15_
                          clear n0_ n1_ n2_ n3_ n4_ n5_ n6_ n7_ n8_ n9_ n10_ n11_ n12_ n13_ n14_ n15_
                          have hHeld : w77.cell? ⟨gb389, 0, none⟩ = some (.int .i64 t384) := hS_
                          refine norm_ (a' := ?_) ?_ ?_
                          rotate_left
                          · simp only [putAll, Act.put, List.setIfInBounds_toArray, List.set_cons_zero, List.set_cons_succ]
                            rfl
                          refine one_ (i := 10) (N := none) #[true, true, true, true, true, true, true, true, true, true, true, false, false] rfl rfl (one_of HT_.out (by kernel_rfl)) (by decide) (fun K hK => ?_)
                          have hs78 : w77.cell? ⟨gb399, 0, none⟩ = some (.int .i64 0) := (blk_cell BK399.out 0).trans rfl
                          have hfs78 := blk_frozen BK399.out 0
                          have hns78_0 := NB372_399.out
                          have hns78_1 := NB379_399.out
                          have hns78_2 := NB389_399.out
                          have hms78_0 := NB399_372.out
                          have hms78_1 := NB399_379.out
                          have hms78_2 := NB399_389.out
                          refine skip_ (w1 := ?_) (by rfl) rfl ?_ ?_
                          rotate_left
                          · go_simp
                            rfl
                          refine hK.out _ _ (((cell_far (p := ⟨gb399, _, none⟩) NB389_399.out _).trans (hHeld))) (fun hHeld => ?_)
                          clear hK K
                          refine pure_ (i := 11) (N := some 15) (v := ?_) (a' := ?_) #[true, true, true, true, true, true, true, true, true, true, true, true, false] rfl rfl (any_of HT_.out (by kernel_rfl)) (fun _ _ _ h => h) (Or.inl ⟨by rfl, ?_⟩) ?_ ?_
                          rotate_left
                          · intro w'
                            go_simp
                            with_reducible rfl
                          rotate_left
                          · simp only [Act.put, List.setIfInBounds_toArray, List.set_cons_zero, List.set_cons_succ, i64_w, i32_w]
                            rfl
                          refine pure_ (i := 12) (N := some 16) (v := ?_) (a' := ?_) #[true, true, true, true, true, true, true, true, true, true, true, true, true] rfl rfl (any_of HT_.out (by kernel_rfl)) (fun _ _ _ h => h) (Or.inl ⟨by rfl, ?_⟩) ?_ ?_
                          rotate_left
                          · intro w'
                            go_simp
                            with_reducible rfl
                          rotate_left
                          · simp only [Act.put, List.setIfInBounds_toArray, List.set_cons_zero, List.set_cons_succ, i64_w, i32_w]
                            rfl
                          refine done_ (done_of HT_.out (by kernel_rfl)) ?_
                          have hnb79 := NB372_379.out
                          have hnc79 := NB379_372.out
                          have hnb80 := NB372_389.out
                          have hnc80 := NB389_372.out
                          have hnb81 := NB372_399.out
                          have hnc81 := NB399_372.out
                          have hcz82_0 : w77.cell? ⟨gb372, 0, none⟩ = some (.int .i64 a0_0) := (blk_cell BK372.out 0).trans rfl
                          have hfz82_0 := blk_frozen BK372.out 0
                          try go_wp2_with (first | ((with_reducible refine gate_callee (f := 16) rfl ?_); refine goesL_ (some 63) rfl rfl Tryd.func16 (by kernel_rfl) rfl #[.agg #[.int .i64 a0_0]] rfl (by (try simp only [List.map_toArray, List.map_cons, List.map_nil]); first | done | rfl | (simp only [List.length_drop, List.length_take]; rfl)) ?_; (with_reducible refine (terminate_Check.calls a0_0 t400 _ A27.out).mono ?_); rintro e w83 ⟨rfl, hb⟩; refine ⟨_, rfl, ?_⟩; have n0_ := Aside0.mk (Kd.R_below (by (with_reducible repeat (first | apply Kd.R_alloc | apply Kd.R_drewN | apply Kd.R_drew)); exact (Kd.R_mono (Kd.R_far (p := ⟨gb399, 0, none⟩) (Kd.R_types HO_8.out BK399.out (by decide)) (fun _ hk => hk.2) (.int .i64 t394)) (fun _ h_ => h_.1))) hb); have n1_ := Aside0.mk (Kd.R_below (by (with_reducible repeat (first | apply Kd.R_alloc | apply Kd.R_drewN | apply Kd.R_drew)); exact (Kd.R_mono (Kd.R_far (p := ⟨gb399, 0, none⟩) (Kd.R_types HO387.out BK399.out (by decide)) (fun _ hk => hk.2) (.int .i64 t394)) (fun _ h_ => h_.1))) hb); have n2_ := Aside0.mk (Kd.R_below (by (with_reducible repeat (first | apply Kd.R_alloc | apply Kd.R_drewN | apply Kd.R_drew)); exact (Kd.R_mono (Kd.R_far (p := ⟨gb399, 0, none⟩) (Kd.R_types HO397.out BK399.out (by decide)) (fun _ hk => hk.2) (.int .i64 t394)) (fun _ h_ => h_.1))) hb); have n3_ := Aside0.mk (blk_below (g := gb372) (o := .cells #[.int .i64 a0_0] 23 (0, 0)) (by (with_reducible repeat (first | refine blk_drewN ?_ _ | refine blk_drew ?_ | refine blk_alloc ?_ _)); refine blk_far ?_ NB372_399.out _; (with_reducible repeat (first | refine blk_drewN ?_ _ | refine blk_drew ?_ | refine blk_alloc ?_ _)); exact BK372.out) hb); have n4_ := Aside0.mk (blk_below (g := gb379) (o := .cells #[.int .i64 t374] 23 (0, 0)) (by (with_reducible repeat (first | refine blk_drewN ?_ _ | refine blk_drew ?_ | refine blk_alloc ?_ _)); refine blk_far ?_ NB379_399.out _; (with_reducible repeat (first | refine blk_drewN ?_ _ | refine blk_drew ?_ | refine blk_alloc ?_ _)); exact BK379.out) hb); have n5_ := Aside0.mk (blk_below (g := gb389) (o := .cells #[.int .i64 t384] 23 (0, 0)) (by (with_reducible repeat (first | refine blk_drewN ?_ _ | refine blk_drew ?_ | refine blk_alloc ?_ _)); refine blk_far ?_ NB389_399.out _; (with_reducible repeat (first | refine blk_drewN ?_ _ | refine blk_drew ?_ | refine blk_alloc ?_ _)); exact BK389.out) hb); have n6_ := Aside0.mk (blk_below (g := gb399) (o := .cells #[.int .i64 t394] 23 (0, 0)) (by (with_reducible repeat (first | refine blk_drewN ?_ _ | refine blk_drew ?_ | refine blk_alloc ?_ _)); refine blk_put (cs := #[.int .i64 0]) ?_ 0 _ rfl; (with_reducible repeat (first | refine blk_drewN ?_ _ | refine blk_drew ?_ | refine blk_alloc ?_ _)); exact BK399.out) hb); have n7_ := Aside0.mk (below_step (by repeat (first | (with_reducible first | exact HB.out | apply below_alloc | apply pw_below_drewN | apply below_drew1 | refine below_set ?_ GE372.out | refine below_set ?_ GE379.out | refine below_set ?_ GE389.out | refine below_set ?_ GE399.out) | exact HB.out)) hb); clear HO_8; clear HO387; clear HO397; clear BK372; clear BK379; clear BK389; clear BK399; clear HB; have HO_8 := n0_; have HO387 := n1_; have HO397 := n2_; have BK372 := n3_; have BK379 := n4_; have BK389 := n5_; have BK399 := n6_; have HB := n7_; clear n0_ n1_ n2_ n3_ n4_ n5_ n6_ n7_; (try clear hb); (try clear hb2); (try clear hk); (try clear hi); have hnb84 := NB379_389.out; have hnc84 := NB389_379.out; have hnb85 := NB379_399.out; have hnc85 := NB399_379.out; have hcz86_0 : w83.cell? ⟨gb379, 0, none⟩ = some (.int .i64 t374) := (blk_cell BK379.out 0).trans rfl; have hfz86_0 := blk_frozen BK379.out 0; obtain ⟨Ao87, co87, eo87⟩ := Kd.R_slice HO_8.out; subst eo87))
                          go_ret
                          exact ⟨by first | rfl | (simp [errW_none, errW_some] <;> rfl) | (simp only [← hji12]; first | rfl | (simp [errW_none, errW_some] <;> rfl)) | (simp [*, errW_none, errW_some] <;> rfl), by repeat (first | (with_reducible first | exact HB.out | apply below_alloc | apply pw_below_drewN | apply below_drew1 | refine below_set ?_ GE372.out | refine below_set ?_ GE379.out | refine below_set ?_ GE389.out | refine below_set ?_ GE399.out) | exact HB.out)⟩
                        · rw [if_neg c65] at H
                          exact absurd H (by simp)
                      · rw [if_neg c64] at H
                        exact absurd H (by simp)
                  · rw [if_neg c22] at H
                    exact absurd H (by simp)
                · rw [if_neg c21] at H
                  exact absurd H (by simp)
  · replace c5 := Bool.eq_false_iff.mpr c5
    subst c5
    have H1 : (none) = some r := by rw [if_neg (show ¬ (false = true) by decide)] at H; exact H
    clear H
    have H := H1
    clear H1
    exact absurd H (by simp)

end Go.Proofs.YtenaokgcljpcgaaDoor.GA
