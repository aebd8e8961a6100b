-- written by wip/tools/doctor.py (the kit's print.py run with hand-given contracts); Lean checks it
import Derived.Test.YtenaokgcljpcgaaDoorGAx0
import Derived.Test.YtenaokgcljpcgaaDoorGAx1
import Derived.Test.YtenaokgcljpcgaaDoorGAx4
import Derived.Test.YtenaokgcljpcgaaDoorGAx4b
import Derived.Test.YtenaokgcljpcgaaDoorGAx7
import Derived.Test.YtenaokgcljpcgaaDoorGAx7b
import Derived.Test.YtenaokgcljpcgaaDoorGAx8
import Derived.Test.YtenaokgcljpcgaaDoorHA
namespace Go.Proofs.YtenaokgcljpcgaaDoor.GA
open Go.RowKit Go.Proofs.YtenaokgcljpcgaaDoorW.PrintWords Go.Proofs.YtenaokgcljpcgaaDoorW.PrintLast Go.Proofs.YtenaokgcljpcgaaDoorW.PrintMore
attribute [local go_sem] max2_int min2_int max_two min_two max_three min_three max_four min_four   -- for this text's walks alone
set_option linter.unusedVariables false
set_option linter.unusedSimpArgs false

attribute [local go_sem high] eqA23
/-! ### crossbarlaw17_TerminateResourcesFollowState: function 6 -/
mutual
def crossbarlaw17_TerminateResourcesFollowState.l0 : Nat → List (S25) → Int → Int → Int → Bool → Bool → Bool → Option (Bool)
  | 0, _, _, _, _, _, _, _ => none
  | k + 1, x19, x20, x21, x301000, x302000, x302001, x302002 => if x21 < x20 then (if 0 ≤ x21 then (if x21 < (x19.length : Int) then ((terminate_Step.f k x301000 ((rd_T25 x19 x21).f0) ((rd_T25 x19 x21).f1) ((rd_T25 x19 x21).f2)).bind fun bt304 => (if bt304.2.2 = 0 then (if ((rd_T25 x19 x21).f0) = 4 then (crossbarlaw17_TerminateResourcesFollowState.j1 k bt304.2.1 x19 x20 x21 true x302000 x302001 x302002 bt304.1) else (crossbarlaw17_TerminateResourcesFollowState.j1 k bt304.2.1 x19 x20 x21 (((rd_T25 x19 x21).f0) == 12) x302000 x302001 x302002 bt304.1)) else (if (!(bt304.1 == 0)) = true then (none) else (if (bt304.2.1.length : Int) = 0 then (crossbarlaw17_TerminateResourcesFollowState.l0 k x19 x20 (wrap64 (x21 + 1)) x301000 x302000 x302001 x302002) else (none))))) else (none)) else (none)) else (some true)
def crossbarlaw17_TerminateResourcesFollowState.j1 : Nat → List (S46) → List (S25) → Int → Int → Bool → Bool → Bool → Bool → Int → Option (Bool)
  | 0, _, _, _, _, _, _, _, _, _ => none
  | k + 1, x8, x19, x20, x21, x49, x302000, x302001, x302002, x310000 => if x49 = true then (if x302001 = true then (crossbarlaw17_TerminateResourcesFollowState.j2 k x8 x19 x20 x21 x302000 false x302002 x310000) else (none)) else (crossbarlaw17_TerminateResourcesFollowState.j2 k x8 x19 x20 x21 x302000 x302001 x302002 x310000)
def crossbarlaw17_TerminateResourcesFollowState.j2 : Nat → List (S46) → List (S25) → Int → Int → Bool → Bool → Bool → Int → Option (Bool)
  | 0, _, _, _, _, _, _, _, _ => none
  | k + 1, x8, x19, x20, x21, x302000, x302001, x302002, x310000 => (crossbarlaw17_shown.f k x302000 x302001 x302002 x8).bind fun bt310 => (if bt310.2.2.2 = true then (if (bt310.1 != (x310000 == 1)) = true then (none) else (if x310000 = 1 then (if (bt310.2.1 != true) = true then (none) else (if (bt310.2.2.1 != (x310000 == 4)) = true then (none) else (crossbarlaw17_TerminateResourcesFollowState.l0 k x19 x20 (wrap64 (x21 + 1)) x310000 bt310.1 bt310.2.1 bt310.2.2.1))) else (if (bt310.2.1 != (x310000 == 3)) = true then (none) else (if (bt310.2.2.1 != (x310000 == 4)) = true then (none) else (crossbarlaw17_TerminateResourcesFollowState.l0 k x19 x20 (wrap64 (x21 + 1)) x310000 bt310.1 bt310.2.1 bt310.2.2.1))))) else (none))
end
def crossbarlaw17_TerminateResourcesFollowState.f (k : Nat) (l0 : List (S25)) : Option (Bool) := (crossbarlaw17_sane.f k).bind fun t299 => (if t299 = true then (if (l0.length : Int) > 100 then (some true) else (crossbarlaw17_TerminateResourcesFollowState.l0 k l0 (l0.length : Int) 0 0 false false false)) else (none))
theorem crossbarlaw17_TerminateResourcesFollowState.mono_l : ∀ k, (∀ y0 y1 y2 y3 y4 y5 y6, LeO (crossbarlaw17_TerminateResourcesFollowState.l0 k y0 y1 y2 y3 y4 y5 y6) (crossbarlaw17_TerminateResourcesFollowState.l0 (k + 1) y0 y1 y2 y3 y4 y5 y6)) ∧ (∀ y0 y1 y2 y3 y4 y5 y6 y7 y8, LeO (crossbarlaw17_TerminateResourcesFollowState.j1 k y0 y1 y2 y3 y4 y5 y6 y7 y8) (crossbarlaw17_TerminateResourcesFollowState.j1 (k + 1) y0 y1 y2 y3 y4 y5 y6 y7 y8)) ∧ (∀ y0 y1 y2 y3 y4 y5 y6 y7, LeO (crossbarlaw17_TerminateResourcesFollowState.j2 k y0 y1 y2 y3 y4 y5 y6 y7) (crossbarlaw17_TerminateResourcesFollowState.j2 (k + 1) y0 y1 y2 y3 y4 y5 y6 y7))
  | 0 => ⟨fun _ _ _ _ _ _ _ r h => by simp [crossbarlaw17_TerminateResourcesFollowState.l0] at h, fun _ _ _ _ _ _ _ _ _ r h => by simp [crossbarlaw17_TerminateResourcesFollowState.j1] at h, fun _ _ _ _ _ _ _ _ r h => by simp [crossbarlaw17_TerminateResourcesFollowState.j2] at h⟩
  | k + 1 => by
    obtain ⟨ih0, ih1, ih2⟩ := crossbarlaw17_TerminateResourcesFollowState.mono_l k
    refine ⟨?_, ?_, ?_⟩
    · intro y0 y1 y2 y3 y4 y5 y6
      unfold crossbarlaw17_TerminateResourcesFollowState.l0
      repeat' first
      | (with_reducible exact ih0 _ _ _ _ _ _ _)
      | (with_reducible exact ih1 _ _ _ _ _ _ _ _ _)
      | (with_reducible exact ih2 _ _ _ _ _ _ _ _)
      | (with_reducible exact crossbarlaw17_sane.mono _)
      | (with_reducible exact crossbarlaw17_shown.mono _ _ _ _ _)
      | (with_reducible exact terminate_Step.mono _ _ _ _ _)
      | (with_reducible exact LeO.refl _)
      | (with_reducible exact LeO.none _)
      | (with_reducible refine LeO.ite ?_ ?_)
      | (with_reducible refine LeO.bind ?_ (fun _ => ?_))
      | exact ih0 _ _ _ _ _ _ _
      | exact ih1 _ _ _ _ _ _ _ _ _
      | exact ih2 _ _ _ _ _ _ _ _
      | exact crossbarlaw17_sane.mono _
      | exact crossbarlaw17_shown.mono _ _ _ _ _
      | exact terminate_Step.mono _ _ _ _ _
      | exact LeO.none _
      | refine LeO.ite ?_ ?_
      | refine LeO.bind ?_ (fun _ => ?_)
    · intro y0 y1 y2 y3 y4 y5 y6 y7 y8
      unfold crossbarlaw17_TerminateResourcesFollowState.j1
      repeat' first
      | (with_reducible exact ih0 _ _ _ _ _ _ _)
      | (with_reducible exact ih1 _ _ _ _ _ _ _ _ _)
      | (with_reducible exact ih2 _ _ _ _ _ _ _ _)
      | (with_reducible exact crossbarlaw17_sane.mono _)
      | (with_reducible exact crossbarlaw17_shown.mono _ _ _ _ _)
      | (with_reducible exact terminate_Step.mono _ _ _ _ _)
      | (with_reducible exact LeO.refl _)
      | (with_reducible exact LeO.none _)
      | (with_reducible refine LeO.ite ?_ ?_)
      | (with_reducible refine LeO.bind ?_ (fun _ => ?_))
      | exact ih0 _ _ _ _ _ _ _
      | exact ih1 _ _ _ _ _ _ _ _ _
      | exact ih2 _ _ _ _ _ _ _ _
      | exact crossbarlaw17_sane.mono _
      | exact crossbarlaw17_shown.mono _ _ _ _ _
      | exact terminate_Step.mono _ _ _ _ _
      | exact LeO.none _
      | refine LeO.ite ?_ ?_
      | refine LeO.bind ?_ (fun _ => ?_)
    · intro y0 y1 y2 y3 y4 y5 y6 y7
      unfold crossbarlaw17_TerminateResourcesFollowState.j2
      repeat' first
      | (with_reducible exact ih0 _ _ _ _ _ _ _)
      | (with_reducible exact ih1 _ _ _ _ _ _ _ _ _)
      | (with_reducible exact ih2 _ _ _ _ _ _ _ _)
      | (with_reducible exact crossbarlaw17_sane.mono _)
      | (with_reducible exact crossbarlaw17_shown.mono _ _ _ _ _)
      | (with_reducible exact terminate_Step.mono _ _ _ _ _)
      | (with_reducible exact LeO.refl _)
      | (with_reducible exact LeO.none _)
      | (with_reducible refine LeO.ite ?_ ?_)
      | (with_reducible refine LeO.bind ?_ (fun _ => ?_))
      | exact ih0 _ _ _ _ _ _ _
      | exact ih1 _ _ _ _ _ _ _ _ _
      | exact ih2 _ _ _ _ _ _ _ _
      | exact crossbarlaw17_sane.mono _
      | exact crossbarlaw17_shown.mono _ _ _ _ _
      | exact terminate_Step.mono _ _ _ _ _
      | exact LeO.none _
      | refine LeO.ite ?_ ?_
      | refine LeO.bind ?_ (fun _ => ?_)
theorem crossbarlaw17_TerminateResourcesFollowState.mono : ∀ a0 k, LeO (crossbarlaw17_TerminateResourcesFollowState.f k a0) (crossbarlaw17_TerminateResourcesFollowState.f (k + 1) a0) := by
  intro a0 k
  obtain ⟨ih0, ih1, ih2⟩ := crossbarlaw17_TerminateResourcesFollowState.mono_l k
  unfold crossbarlaw17_TerminateResourcesFollowState.f
  repeat' first
      | (with_reducible exact ih0 _ _ _ _ _ _ _)
      | (with_reducible exact ih1 _ _ _ _ _ _ _ _ _)
      | (with_reducible exact ih2 _ _ _ _ _ _ _ _)
      | (with_reducible exact crossbarlaw17_sane.mono _)
      | (with_reducible exact crossbarlaw17_shown.mono _ _ _ _ _)
      | (with_reducible exact terminate_Step.mono _ _ _ _ _)
      | (with_reducible exact LeO.refl _)
      | (with_reducible exact LeO.none _)
      | (with_reducible refine LeO.ite ?_ ?_)
      | (with_reducible refine LeO.bind ?_ (fun _ => ?_))
      | exact ih0 _ _ _ _ _ _ _
      | exact ih1 _ _ _ _ _ _ _ _ _
      | exact ih2 _ _ _ _ _ _ _ _
      | exact crossbarlaw17_sane.mono _
      | exact crossbarlaw17_shown.mono _ _ _ _ _
      | exact terminate_Step.mono _ _ _ _ _
      | exact LeO.none _
      | refine LeO.ite ?_ ?_
      | refine LeO.bind ?_ (fun _ => ?_)
set_option maxHeartbeats 8000000 in
set_option maxRecDepth 100000 in
theorem crossbarlaw17_TerminateResourcesFollowState.calls (k : Nat) (A0 : Option Addr) (c0 : Nat) (l0 : List (S25)) (r : Bool) (w : World) (hr0 : Kd.C k25 w A0 l0.length l0) (hc0 : l0.length ≤ c0) (h : crossbarlaw17_TerminateResourcesFollowState.f k l0 = some r) (hT : Tab w) :
    Calls Tryd.prog 6 #[.slice A0 l0.length c0] w fun e w' => e = .returned (.bool r) ∧ Below w.heap.size w w' := by
  have HT := Aside0.mk hT
  clear hT
  have hu23 := Tryd.underlying23
  have hu40 := Tryd.underlying40
  have hu25 := Tryd.underlying25
  have HR0 := Aside0.mk hr0
  have HC0 := Aside0.mk hc0
  clear hr0 hc0
  have HB := Aside0.mk (Below.refl w.heap.size w)
  have H : ((crossbarlaw17_sane.f k).bind fun t299 => (if t299 = true then (if (l0.length : Int) > 100 then (some true) else (crossbarlaw17_TerminateResourcesFollowState.l0 k l0 (l0.length : Int) 0 0 false false false)) else (none))) = some r := h
  clear h
  replace H := Option.bind_eq_some_iff.mp H
  obtain ⟨t299, A20, H⟩ := H
  replace H : (if t299 = true then (if (l0.length : Int) > 100 then (some true) else (crossbarlaw17_TerminateResourcesFollowState.l0 k l0 (l0.length : Int) 0 0 false false false)) else (none)) = some r := H
  have A2 := Aside0.mk A20
  clear A20
  by_cases c3 : t299 = true
  · subst c3
    have H1 : (if (l0.length : Int) > 100 then (some true) else (crossbarlaw17_TerminateResourcesFollowState.l0 k l0 (l0.length : Int) 0 0 false false false)) = some r := by rw [if_pos rfl] at H; exact H
    clear H
    have H := H1
    clear H1
    by_cases c4 : (l0.length : Int) > 100
    · rw [if_pos c4] at H
      have c4b0 : decide (100 < (l0.length : Int)) = true := decide_eq_true c4
      have c4b1 : decide (100 < l0.length) = true := decide_eq_true (by omega)
      clear c4
      obtain rfl := Option.some.inj H
      go_enter Tryd.func6, Tryd.ntmps6
      go_wp2_with (first | ((with_reducible refine gate_callee (f := 12) rfl ?_); refine goesL_ (some 12) rfl rfl Tryd.func12 (by kernel_rfl) rfl #[] rfl (by (try simp only [List.map_toArray, List.map_cons, List.map_nil]); first | done | rfl | (simp only [List.length_drop, List.length_take]; rfl)) ?_; (refine tabbed (w := w) HT.out (by repeat (first | (with_reducible first | exact HB.out | apply below_alloc | apply pw_below_drewN | apply below_drew1) | exact HB.out)) ?_); intro hT_; (with_reducible refine (crossbarlaw17_sane.calls k  true _ A2.out hT_).mono ?_); clear hT_; rintro e w5 ⟨rfl, hb⟩; refine ⟨_, rfl, ?_⟩; have n0_ := Aside0.mk (below_step (by repeat (first | (with_reducible first | exact HB.out | apply below_alloc | apply pw_below_drewN | apply below_drew1) | exact HB.out)) hb); clear HB; have HB := n0_; clear n0_; (try clear hb); (try clear hb2); (try clear hk); (try clear hi)))
      go_ret
      exact ⟨by first | rfl | (simp [errW_none, errW_some] <;> rfl) | (simp [*, errW_none, errW_some] <;> rfl), by repeat (first | (with_reducible first | exact HB.out | apply below_alloc | apply pw_below_drewN | apply below_drew1) | exact HB.out)⟩
    · rw [if_neg c4] at H
      have c4b0 : decide (100 < (l0.length : Int)) = false := decide_eq_false c4
      have c4b1 : decide (100 < l0.length) = false := decide_eq_false (by omega)
      clear c4
      have H' := Aside0.mk H
      clear H
      go_enter Tryd.func6, Tryd.ntmps6
      go_wp2_with (first | ((with_reducible refine gate_callee (f := 12) rfl ?_); refine goesL_ (some 12) rfl rfl Tryd.func12 (by kernel_rfl) rfl #[] rfl (by (try simp only [List.map_toArray, List.map_cons, List.map_nil]); first | done | rfl | (simp only [List.length_drop, List.length_take]; rfl)) ?_; (refine tabbed (w := w) HT.out (by repeat (first | (with_reducible first | exact HB.out | apply below_alloc | apply pw_below_drewN | apply below_drew1) | exact HB.out)) ?_); intro hT_; (with_reducible refine (crossbarlaw17_sane.calls k  true _ A2.out hT_).mono ?_); clear hT_; rintro e w6 ⟨rfl, hb⟩; refine ⟨_, rfl, ?_⟩; have n0_ := Aside0.mk (below_step (by repeat (first | (with_reducible first | exact HB.out | apply below_alloc | apply pw_below_drewN | apply below_drew1) | exact HB.out)) hb); clear HB; have HB := n0_; clear n0_; (try clear hb); (try clear hb2); (try clear hk); (try clear hi)) | ((with_reducible refine gate_dst (N := 3) rfl ?_); (try (refine gate_guard (by rfl) ?_; dsimp only)); refine box_event ?hg (N := 3) ?hd (cs := #[.int .i64 0]) (t := 23) ?hr ?_; (case hd => rfl); (case hg => rfl); (case hr => first | (go_simp; done) | (go_simp; rfl)); intro gb300 hg w7 hbox hb; have n0_ := Aside0.mk (below_step (by repeat (first | (with_reducible first | exact HB.out | apply below_alloc | apply pw_below_drewN | apply below_drew1) | exact HB.out)) hb); have n1_ := Aside0.mk (hbox); have n2_ := Aside0.mk ((by rw [hg]; exact (below_size (by repeat (first | (with_reducible first | exact HB.out | apply below_alloc | apply pw_below_drewN | apply below_drew1) | exact HB.out))) : w.heap.size ≤ gb300)); have n3_ := Aside0.mk ((by rw [hg]; exact (below_size (by repeat (first | (with_reducible first | exact HB.out | apply below_alloc | apply pw_below_drewN | apply below_drew1) | exact HB.out))) : w.heap.size ≤ gb300)); clear HB; have HB := n0_; have BK300 := n1_; have GW300 := n2_; have GE300 := n3_; clear n0_ n1_ n2_ n3_; clear hb hbox hg; have hcz8_0 : w7.cell? ⟨gb300, 0, none⟩ = some (.int .i64 0) := (blk_cell BK300.out 0).trans rfl; have hfz8_0 := blk_frozen BK300.out 0) | ((with_reducible refine gate_dst (N := 4) rfl ?_); (try (refine gate_guard (by rfl) ?_; dsimp only)); refine box_event ?hg (N := 4) ?hd (cs := #[.bool false, .bool false, .bool false]) (t := 40) ?hr ?_; (case hd => rfl); (case hg => rfl); (case hr => first | (go_simp; done) | (go_simp; rfl)); intro gb301 hg w9 hbox hb; have n0_ := Aside0.mk (blk_below (g := gb300) (o := .cells #[.int .i64 0] 23 (0, 0)) (by (with_reducible repeat (first | refine blk_drewN ?_ _ | refine blk_drew ?_ | refine blk_alloc ?_ _)); refine blk_put (cs := #[.int .i64 0]) ?_ 0 _ rfl; (with_reducible repeat (first | refine blk_drewN ?_ _ | refine blk_drew ?_ | refine blk_alloc ?_ _)); exact BK300.out) hb); have n1_ := Aside0.mk (below_step (by repeat (first | (with_reducible first | exact HB.out | apply below_alloc | apply pw_below_drewN | apply below_drew1 | refine below_set ?_ GE300.out) | exact HB.out)) hb); have n2_ := Aside0.mk (hbox); have n3_ := Aside0.mk ((by rw [hg]; exact (below_size (by repeat (first | (with_reducible first | exact HB.out | apply below_alloc | apply pw_below_drewN | apply below_drew1 | refine below_set ?_ GE300.out) | exact HB.out))) : w.heap.size ≤ gb301)); have n4_ := Aside0.mk ((by rw [hg]; exact (below_size (by repeat (first | (with_reducible first | exact HB.out | apply below_alloc | apply pw_below_drewN | apply below_drew1 | refine below_set ?_ GE300.out) | exact HB.out))) : w.heap.size ≤ gb301)); have n5_ := Aside0.mk ((by rw [hg]; exact Nat.ne_of_lt (blk_lt (g := gb300) (o := .cells #[.int .i64 0] 23 (0, 0)) (by (with_reducible repeat (first | refine blk_drewN ?_ _ | refine blk_drew ?_ | refine blk_alloc ?_ _)); refine blk_put (cs := #[.int .i64 0]) ?_ 0 _ rfl; (with_reducible repeat (first | refine blk_drewN ?_ _ | refine blk_drew ?_ | refine blk_alloc ?_ _)); exact BK300.out)) : gb300 ≠ gb301)); have n6_ := Aside0.mk ((by rw [hg]; exact Nat.ne_of_gt (blk_lt (g := gb300) (o := .cells #[.int .i64 0] 23 (0, 0)) (by (with_reducible repeat (first | refine blk_drewN ?_ _ | refine blk_drew ?_ | refine blk_alloc ?_ _)); refine blk_put (cs := #[.int .i64 0]) ?_ 0 _ rfl; (with_reducible repeat (first | refine blk_drewN ?_ _ | refine blk_drew ?_ | refine blk_alloc ?_ _)); exact BK300.out)) : gb301 ≠ gb300)); clear BK300; clear HB; have BK300 := n0_; have HB := n1_; have BK301 := n2_; have GW301 := n3_; have GE301 := n4_; have NB300_301 := n5_; have NB301_300 := n6_; clear n0_ n1_ n2_ n3_ n4_ n5_ n6_; clear hb hbox hg; have hnb10 := NB301_300.out; have hnc10 := NB300_301.out; have hcz11_0 : w9.cell? ⟨gb301, 0, none⟩ = some (.bool false) := (blk_cell BK301.out 0).trans rfl; have hcz11_1 : w9.cell? ⟨gb301, 1, none⟩ = some (.bool false) := (blk_cell BK301.out 1).trans rfl; have hcz11_2 : w9.cell? ⟨gb301, 2, none⟩ = some (.bool false) := (blk_cell BK301.out 2).trans rfl; have hfz11_0 := blk_frozen BK301.out 0; have hfz11_1 := blk_frozen BK301.out 1; have hfz11_2 := blk_frozen BK301.out 2))
      go_loopg [21] k (fun kq v21 w' => ∃ (x21_1 : Int) (x301000_1 : Int) (x302000_1 : Bool) (x302001_1 : Bool) (x302002_1 : Bool), v21 = .int .i64 x21_1 ∧ Aside0 (crossbarlaw17_TerminateResourcesFollowState.l0 kq l0 (l0.length : Int) x21_1 x301000_1 x302000_1 x302001_1 x302002_1 = some r) ∧ Aside0 (kq ≤ k) ∧ Aside0 (w'.heap[gb300]? = some (.cells #[.int .i64 x301000_1] 23 (0, 0))) ∧ Aside0 (w'.heap[gb301]? = some (.cells #[.bool x302000_1, .bool x302001_1, .bool x302002_1] 40 (0, 0))) ∧ Aside0 (Below w.heap.size w w'))
      case atStart => exact ⟨(0), (0), (false), (false), (false), (by first | rfl | (simp; done) | (simp [*]; done)), H', ⟨Nat.le_refl _⟩, ⟨by (with_reducible repeat (first | refine blk_drewN ?_ _ | refine blk_drew ?_ | refine blk_alloc ?_ _)); refine blk_far ?_ NB300_301.out _; (with_reducible repeat (first | refine blk_drewN ?_ _ | refine blk_drew ?_ | refine blk_alloc ?_ _)); refine blk_far ?_ NB300_301.out _; (with_reducible repeat (first | refine blk_drewN ?_ _ | refine blk_drew ?_ | refine blk_alloc ?_ _)); refine blk_far ?_ NB300_301.out _; (with_reducible repeat (first | refine blk_drewN ?_ _ | refine blk_drew ?_ | refine blk_alloc ?_ _)); exact BK300.out⟩, ⟨by (with_reducible repeat (first | refine blk_drewN ?_ _ | refine blk_drew ?_ | refine blk_alloc ?_ _)); refine blk_put (cs := #[.bool false, .bool false, .bool false]) ?_ 2 _ rfl; (with_reducible repeat (first | refine blk_drewN ?_ _ | refine blk_drew ?_ | refine blk_alloc ?_ _)); refine blk_put (cs := #[.bool false, .bool false, .bool false]) ?_ 1 _ rfl; (with_reducible repeat (first | refine blk_drewN ?_ _ | refine blk_drew ?_ | refine blk_alloc ?_ _)); refine blk_put (cs := #[.bool false, .bool false, .bool false]) ?_ 0 _ rfl; (with_reducible repeat (first | refine blk_drewN ?_ _ | refine blk_drew ?_ | refine blk_alloc ?_ _)); exact BK301.out⟩, ⟨by repeat (first | (with_reducible first | exact HB.out | apply below_alloc | apply pw_below_drewN | apply below_drew1 | refine below_set ?_ GE300.out | refine below_set ?_ GE301.out) | exact HB.out)⟩⟩
      case round =>
        clear H'
        try clear c1
        try clear p2
        try clear c3
        try clear c4
        try clear c4b0
        try clear c4b1
        try clear c6
        try clear c10
        try clear hcz11_0
        try clear hcz11_1
        try clear hcz11_2
        try clear hcz8_0
        try clear hfz11_0
        try clear hfz11_1
        try clear hfz11_2
        try clear hfz8_0
        obtain ⟨x21_1, x301000_1, x302000_1, x302001_1, x302002_1, rfl, HA, HK1, BK300, BK301, HB⟩ := hrel
        cases gk with
        | zero => exact absurd HA.out (by simp [crossbarlaw17_TerminateResourcesFollowState.l0])
        | succ k1 =>
          have H := HA.out
          clear HA
          simp only [crossbarlaw17_TerminateResourcesFollowState.l0] at H
          by_cases c12 : x21_1 < (l0.length : Int)
          · rw [if_pos c12] at H
            have c12b0 : decide (x21_1 < (l0.length : Int)) = true := decide_eq_true c12
            clear c12
            by_cases c13 : 0 ≤ x21_1
            · rw [if_pos c13] at H
              have c13b0 : decide (0 ≤ x21_1) = true := decide_eq_true c13
              clear c13
              by_cases c14 : x21_1 < (l0.length : Int)
              · rw [if_pos c14] at H
                have c14b0 : decide (x21_1 < (l0.length : Int)) = true := decide_eq_true c14
                clear c14
                replace H := Option.bind_eq_some_iff.mp H
                obtain ⟨⟨t304, t305, t308⟩, A150, H⟩ := H
                replace H : (if t308 = 0 then (if ((rd_T25 l0 x21_1).f0) = 4 then (crossbarlaw17_TerminateResourcesFollowState.j1 k1 t305 l0 (l0.length : Int) x21_1 true x302000_1 x302001_1 x302002_1 t304) else (crossbarlaw17_TerminateResourcesFollowState.j1 k1 t305 l0 (l0.length : Int) x21_1 (((rd_T25 l0 x21_1).f0) == 12) x302000_1 x302001_1 x302002_1 t304)) else (if (!(t304 == 0)) = true then (none) else (if (t305.length : Int) = 0 then (crossbarlaw17_TerminateResourcesFollowState.l0 k1 l0 (l0.length : Int) (wrap64 (x21_1 + 1)) x301000_1 x302000_1 x302001_1 x302002_1) else (none)))) = some r := H
                have A15 := Aside0.mk A150
                clear A150
                by_cases c16 : t308 = 0
                · rw [if_pos c16] at H
                  have c16b0 : (t308 == 0) = true := beq_iff_eq.mpr c16
                  have c16b1 : (t308 != 0) = false := bne_eq_false_iff_eq.mpr c16
                  clear c16
                  have HC17 := Aside0.mk H
                  clear H
                  have p302 : 0 ≤ (x21_1 : Int) := of_decide_eq_true (by first | (with_reducible assumption) | assumption)
                  have q302 : x21_1 < (l0.length : Int) := of_decide_eq_true (by first | (with_reducible assumption) | assumption)
                  obtain ⟨ad302, e302, hx302_0, hx302_1, hx302_2⟩ := at_T25 HR0.out x21_1 p302 q302
                  cases e302
                  replace hx302_0 := (HB.out.cell (World.block_lt_of_cell? w _ hx302_0)).trans hx302_0
                  replace hx302_1 := (HB.out.cell (World.block_lt_of_cell? w _ hx302_1)).trans hx302_1
                  replace hx302_2 := (HB.out.cell (World.block_lt_of_cell? w _ hx302_2)).trans hx302_2
                  replace p302 := eq_true p302
                  replace q302 := eq_true q302
                  go_upto_region 14 with (first | ((with_reducible refine gate_dst (N := 6) rfl ?_); (try (refine gate_guard (by rfl) ?_; dsimp only)); refine box_event ?hg (N := 6) ?hd (cs := #[.int .i64 0, .int .i64 0, .int .u8 0]) (t := 25) ?hr ?_; (case hd => rfl); (case hg => rfl); (case hr => first | (go_simp; done) | (go_simp; rfl)); intro gb303 hg w18 hbox hb; have n0_ := Aside0.mk (blk_below (g := gb300) (o := .cells #[.int .i64 x301000_1] 23 (0, 0)) (by (with_reducible repeat (first | refine blk_drewN ?_ _ | refine blk_drew ?_ | refine blk_alloc ?_ _)); exact BK300.out) hb); have n1_ := Aside0.mk (blk_below (g := gb301) (o := .cells #[.bool x302000_1, .bool x302001_1, .bool x302002_1] 40 (0, 0)) (by (with_reducible repeat (first | refine blk_drewN ?_ _ | refine blk_drew ?_ | refine blk_alloc ?_ _)); exact BK301.out) hb); have n2_ := Aside0.mk (below_step (by repeat (first | (with_reducible first | exact HB.out | apply below_alloc | apply pw_below_drewN | apply below_drew1 | refine below_set ?_ GE300.out | refine below_set ?_ GE301.out) | exact HB.out)) hb); have n3_ := Aside0.mk (hbox); have n4_ := Aside0.mk ((by rw [hg]; exact (below_size (by repeat (first | (with_reducible first | exact HB.out | apply below_alloc | apply pw_below_drewN | apply below_drew1 | refine below_set ?_ GE300.out | refine below_set ?_ GE301.out) | exact HB.out))) : w.heap.size ≤ gb303)); have n5_ := Aside0.mk ((by rw [hg]; exact (below_size (by repeat (first | (with_reducible first | exact HB.out | apply below_alloc | apply pw_below_drewN | apply below_drew1 | refine below_set ?_ GE300.out | refine below_set ?_ GE301.out) | exact HB.out))) : w.heap.size ≤ gb303)); have n6_ := Aside0.mk ((by rw [hg]; exact Nat.ne_of_lt (blk_lt (g := gb300) (o := .cells #[.int .i64 x301000_1] 23 (0, 0)) (by (with_reducible repeat (first | refine blk_drewN ?_ _ | refine blk_drew ?_ | refine blk_alloc ?_ _)); exact BK300.out)) : gb300 ≠ gb303)); have n7_ := Aside0.mk ((by rw [hg]; exact Nat.ne_of_gt (blk_lt (g := gb300) (o := .cells #[.int .i64 x301000_1] 23 (0, 0)) (by (with_reducible repeat (first | refine blk_drewN ?_ _ | refine blk_drew ?_ | refine blk_alloc ?_ _)); exact BK300.out)) : gb303 ≠ gb300)); have n8_ := Aside0.mk ((by rw [hg]; exact Nat.ne_of_lt (blk_lt (g := gb301) (o := .cells #[.bool x302000_1, .bool x302001_1, .bool x302002_1] 40 (0, 0)) (by (with_reducible repeat (first | refine blk_drewN ?_ _ | refine blk_drew ?_ | refine blk_alloc ?_ _)); exact BK301.out)) : gb301 ≠ gb303)); have n9_ := Aside0.mk ((by rw [hg]; exact Nat.ne_of_gt (blk_lt (g := gb301) (o := .cells #[.bool x302000_1, .bool x302001_1, .bool x302002_1] 40 (0, 0)) (by (with_reducible repeat (first | refine blk_drewN ?_ _ | refine blk_drew ?_ | refine blk_alloc ?_ _)); exact BK301.out)) : gb303 ≠ gb301)); clear BK300; clear BK301; clear HB; have BK300 := n0_; have BK301 := n1_; have HB := n2_; have BK303 := n3_; have GW303 := n4_; have GE303 := n5_; have NB300_303 := n6_; have NB303_300 := n7_; have NB301_303 := n8_; have NB303_301 := n9_; clear n0_ n1_ n2_ n3_ n4_ n5_ n6_ n7_ n8_ n9_; clear hb hbox hg; have hnb19 := NB303_300.out; have hnc19 := NB300_303.out; have hnb20 := NB303_301.out; have hnc20 := NB301_303.out; have hcz21_0 : w18.cell? ⟨gb303, 0, none⟩ = some (.int .i64 0) := (blk_cell BK303.out 0).trans rfl; have hcz21_1 : w18.cell? ⟨gb303, 1, none⟩ = some (.int .i64 0) := (blk_cell BK303.out 1).trans rfl; have hcz21_2 : w18.cell? ⟨gb303, 2, none⟩ = some (.int .u8 0) := (blk_cell BK303.out 2).trans rfl; have hfz21_0 := blk_frozen BK303.out 0; have hfz21_1 := blk_frozen BK303.out 1; have hfz21_2 := blk_frozen BK303.out 2; have hnb22 := NB300_301.out; have hnc22 := NB301_300.out; have hcz23_0 : w18.cell? ⟨gb300, 0, none⟩ = some (.int .i64 x301000_1) := (blk_cell BK300.out 0).trans rfl; have hfz23_0 := blk_frozen BK300.out 0) | ((with_reducible refine gate_callee (f := 13) rfl ?_); refine goesL_ (some 28) rfl rfl Tryd.func13 (by kernel_rfl) rfl #[.agg #[.int .i64 x301000_1], .agg #[.int .i64 ((rd_T25 l0 x21_1).f0), .int .i64 ((rd_T25 l0 x21_1).f1), .int .u8 ((rd_T25 l0 x21_1).f2)]] rfl (by (try simp only [List.map_toArray, List.map_cons, List.map_nil]); first | done | rfl | (simp only [List.length_drop, List.length_take]; rfl)) ?_; (refine tabbed (w := w) HT.out (by repeat (first | (with_reducible first | exact HB.out | apply below_alloc | apply pw_below_drewN | apply below_drew1 | refine below_set ?_ GE300.out | refine below_set ?_ GE301.out | refine below_set ?_ GE303.out) | exact HB.out)) ?_); intro hT_; (with_reducible refine (terminate_Step.calls k1 x301000_1 ((rd_T25 l0 x21_1).f0) ((rd_T25 l0 x21_1).f1) ((rd_T25 l0 x21_1).f2) t304 t305 t308 _ A15.out hT_).mono ?_); clear hT_; rintro e w24 ⟨v306, rfl, ho0, hb⟩; refine ⟨_, rfl, ?_⟩; have n0_ := Aside0.mk (Kd.R_lower ho0 (below_size (by repeat (first | (with_reducible first | exact HB.out | apply below_alloc | apply pw_below_drewN | apply below_drew1 | refine below_set ?_ GE300.out | refine below_set ?_ GE301.out | refine below_set ?_ GE303.out) | exact HB.out)))); have n1_ := Aside0.mk (blk_below (g := gb300) (o := .cells #[.int .i64 x301000_1] 23 (0, 0)) (by (with_reducible repeat (first | refine blk_drewN ?_ _ | refine blk_drew ?_ | refine blk_alloc ?_ _)); refine blk_far ?_ NB300_303.out _; (with_reducible repeat (first | refine blk_drewN ?_ _ | refine blk_drew ?_ | refine blk_alloc ?_ _)); refine blk_far ?_ NB300_303.out _; (with_reducible repeat (first | refine blk_drewN ?_ _ | refine blk_drew ?_ | refine blk_alloc ?_ _)); refine blk_far ?_ NB300_303.out _; (with_reducible repeat (first | refine blk_drewN ?_ _ | refine blk_drew ?_ | refine blk_alloc ?_ _)); exact BK300.out) hb); have n2_ := Aside0.mk (blk_below (g := gb301) (o := .cells #[.bool x302000_1, .bool x302001_1, .bool x302002_1] 40 (0, 0)) (by (with_reducible repeat (first | refine blk_drewN ?_ _ | refine blk_drew ?_ | refine blk_alloc ?_ _)); refine blk_far ?_ NB301_303.out _; (with_reducible repeat (first | refine blk_drewN ?_ _ | refine blk_drew ?_ | refine blk_alloc ?_ _)); refine blk_far ?_ NB301_303.out _; (with_reducible repeat (first | refine blk_drewN ?_ _ | refine blk_drew ?_ | refine blk_alloc ?_ _)); refine blk_far ?_ NB301_303.out _; (with_reducible repeat (first | refine blk_drewN ?_ _ | refine blk_drew ?_ | refine blk_alloc ?_ _)); exact BK301.out) hb); have n3_ := Aside0.mk (blk_below (g := gb303) (o := .cells #[.int .i64 ((rd_T25 l0 x21_1).f0), .int .i64 ((rd_T25 l0 x21_1).f1), .int .u8 ((rd_T25 l0 x21_1).f2)] 25 (0, 0)) (by (with_reducible repeat (first | refine blk_drewN ?_ _ | refine blk_drew ?_ | refine blk_alloc ?_ _)); refine blk_put (cs := #[.int .i64 ((rd_T25 l0 x21_1).f0), .int .i64 ((rd_T25 l0 x21_1).f1), .int .u8 0]) ?_ 2 _ rfl; (with_reducible repeat (first | refine blk_drewN ?_ _ | refine blk_drew ?_ | refine blk_alloc ?_ _)); refine blk_put (cs := #[.int .i64 ((rd_T25 l0 x21_1).f0), .int .i64 0, .int .u8 0]) ?_ 1 _ rfl; (with_reducible repeat (first | refine blk_drewN ?_ _ | refine blk_drew ?_ | refine blk_alloc ?_ _)); refine blk_put (cs := #[.int .i64 0, .int .i64 0, .int .u8 0]) ?_ 0 _ rfl; (with_reducible repeat (first | refine blk_drewN ?_ _ | refine blk_drew ?_ | refine blk_alloc ?_ _)); exact BK303.out) hb); have n4_ := Aside0.mk (below_step (by repeat (first | (with_reducible first | exact HB.out | apply below_alloc | apply pw_below_drewN | apply below_drew1 | refine below_set ?_ GE300.out | refine below_set ?_ GE301.out | refine below_set ?_ GE303.out) | exact HB.out)) hb); clear BK300; clear BK301; clear BK303; clear HB; have HO307 := n0_; have BK300 := n1_; have BK301 := n2_; have BK303 := n3_; have HB := n4_; clear n0_ n1_ n2_ n3_ n4_; (try clear hb); (try clear hb2); (try clear hk); (try clear hi); (try clear ho0)) | ((with_reducible refine gate_dst (N := 7) rfl ?_); (try (refine gate_guard (by rfl) ?_; dsimp only)); refine box_event ?hg (N := 7) ?hd (cs := #[.int .i64 0]) (t := 23) ?hr ?_; (case hd => rfl); (case hg => rfl); (case hr => first | (go_simp; done) | (go_simp; rfl)); intro gb309 hg w25 hbox hb; have n0_ := Aside0.mk (Kd.R_below (by (with_reducible repeat (first | apply Kd.R_alloc | apply Kd.R_drewN | apply Kd.R_drew)); exact HO307.out) hb); have n1_ := Aside0.mk (blk_below (g := gb300) (o := .cells #[.int .i64 x301000_1] 23 (0, 0)) (by (with_reducible repeat (first | refine blk_drewN ?_ _ | refine blk_drew ?_ | refine blk_alloc ?_ _)); exact BK300.out) hb); have n2_ := Aside0.mk (blk_below (g := gb301) (o := .cells #[.bool x302000_1, .bool x302001_1, .bool x302002_1] 40 (0, 0)) (by (with_reducible repeat (first | refine blk_drewN ?_ _ | refine blk_drew ?_ | refine blk_alloc ?_ _)); exact BK301.out) hb); have n3_ := Aside0.mk (blk_below (g := gb303) (o := .cells #[.int .i64 ((rd_T25 l0 x21_1).f0), .int .i64 ((rd_T25 l0 x21_1).f1), .int .u8 ((rd_T25 l0 x21_1).f2)] 25 (0, 0)) (by (with_reducible repeat (first | refine blk_drewN ?_ _ | refine blk_drew ?_ | refine blk_alloc ?_ _)); exact BK303.out) hb); have n4_ := Aside0.mk (below_step (by repeat (first | (with_reducible first | exact HB.out | apply below_alloc | apply pw_below_drewN | apply below_drew1 | refine below_set ?_ GE300.out | refine below_set ?_ GE301.out | refine below_set ?_ GE303.out) | exact HB.out)) hb); have n5_ := Aside0.mk (hbox); have n6_ := Aside0.mk ((by rw [hg]; exact (below_size (by repeat (first | (with_reducible first | exact HB.out | apply below_alloc | apply pw_below_drewN | apply below_drew1 | refine below_set ?_ GE300.out | refine below_set ?_ GE301.out | refine below_set ?_ GE303.out) | exact HB.out))) : w.heap.size ≤ gb309)); have n7_ := Aside0.mk ((by rw [hg]; exact (below_size (by repeat (first | (with_reducible first | exact HB.out | apply below_alloc | apply pw_below_drewN | apply below_drew1 | refine below_set ?_ GE300.out | refine below_set ?_ GE301.out | refine below_set ?_ GE303.out) | exact HB.out))) : w.heap.size ≤ gb309)); have n8_ := Aside0.mk ((by rw [hg]; exact Nat.ne_of_lt (blk_lt (g := gb300) (o := .cells #[.int .i64 x301000_1] 23 (0, 0)) (by (with_reducible repeat (first | refine blk_drewN ?_ _ | refine blk_drew ?_ | refine blk_alloc ?_ _)); exact BK300.out)) : gb300 ≠ gb309)); have n9_ := Aside0.mk ((by rw [hg]; exact Nat.ne_of_gt (blk_lt (g := gb300) (o := .cells #[.int .i64 x301000_1] 23 (0, 0)) (by (with_reducible repeat (first | refine blk_drewN ?_ _ | refine blk_drew ?_ | refine blk_alloc ?_ _)); exact BK300.out)) : gb309 ≠ gb300)); have n10_ := Aside0.mk ((by rw [hg]; exact Nat.ne_of_lt (blk_lt (g := gb301) (o := .cells #[.bool x302000_1, .bool x302001_1, .bool x302002_1] 40 (0, 0)) (by (with_reducible repeat (first | refine blk_drewN ?_ _ | refine blk_drew ?_ | refine blk_alloc ?_ _)); exact BK301.out)) : gb301 ≠ gb309)); have n11_ := Aside0.mk ((by rw [hg]; exact Nat.ne_of_gt (blk_lt (g := gb301) (o := .cells #[.bool x302000_1, .bool x302001_1, .bool x302002_1] 40 (0, 0)) (by (with_reducible repeat (first | refine blk_drewN ?_ _ | refine blk_drew ?_ | refine blk_alloc ?_ _)); exact BK301.out)) : gb309 ≠ gb301)); have n12_ := Aside0.mk ((by rw [hg]; exact Nat.ne_of_lt (blk_lt (g := gb303) (o := .cells #[.int .i64 ((rd_T25 l0 x21_1).f0), .int .i64 ((rd_T25 l0 x21_1).f1), .int .u8 ((rd_T25 l0 x21_1).f2)] 25 (0, 0)) (by (with_reducible repeat (first | refine blk_drewN ?_ _ | refine blk_drew ?_ | refine blk_alloc ?_ _)); exact BK303.out)) : gb303 ≠ gb309)); have n13_ := Aside0.mk ((by rw [hg]; exact Nat.ne_of_gt (blk_lt (g := gb303) (o := .cells #[.int .i64 ((rd_T25 l0 x21_1).f0), .int .i64 ((rd_T25 l0 x21_1).f1), .int .u8 ((rd_T25 l0 x21_1).f2)] 25 (0, 0)) (by (with_reducible repeat (first | refine blk_drewN ?_ _ | refine blk_drew ?_ | refine blk_alloc ?_ _)); exact BK303.out)) : gb309 ≠ gb303)); clear HO307; clear BK300; clear BK301; clear BK303; clear HB; have HO307 := n0_; have BK300 := n1_; have BK301 := n2_; have BK303 := n3_; have HB := n4_; have BK309 := n5_; have GW309 := n6_; have GE309 := n7_; have NB300_309 := n8_; have NB309_300 := n9_; have NB301_309 := n10_; have NB309_301 := n11_; have NB303_309 := n12_; have NB309_303 := n13_; clear n0_ n1_ n2_ n3_ n4_ n5_ n6_ n7_ n8_ n9_ n10_ n11_ n12_ n13_; clear hb hbox hg; have hnb26 := NB309_300.out; have hnc26 := NB300_309.out; have hnb27 := NB309_301.out; have hnc27 := NB301_309.out; have hnb28 := NB309_303.out; have hnc28 := NB303_309.out; have hcz29_0 : w25.cell? ⟨gb309, 0, none⟩ = some (.int .i64 0) := (blk_cell BK309.out 0).trans rfl; have hfz29_0 := blk_frozen BK309.out 0))
                  (try simp only [Act.put, List.setIfInBounds_toArray, List.set_cons_zero, List.set_cons_succ])
                  go_cut [49] (fun v49 wc => ∃ (kq : Nat) (x49_16 : Bool), v49 = .bool x49_16 ∧ Aside0 (crossbarlaw17_TerminateResourcesFollowState.j1 kq t305 l0 (l0.length : Int) x21_1 x49_16 x302000_1 x302001_1 x302002_1 t304 = some r) ∧ Aside0 (kq ≤ k1) ∧ Aside0 (Kd.R k46 46 wc w.heap.size (fun _ => True) v306 t305) ∧ Aside0 (wc.heap[gb300]? = some (.cells #[.int .i64 x301000_1] 23 (0, 0))) ∧ Aside0 (wc.heap[gb301]? = some (.cells #[.bool x302000_1, .bool x302001_1, .bool x302002_1] 40 (0, 0))) ∧ Aside0 (wc.heap[gb303]? = some (.cells #[.int .i64 ((rd_T25 l0 x21_1).f0), .int .i64 ((rd_T25 l0 x21_1).f1), .int .u8 ((rd_T25 l0 x21_1).f2)] 25 (0, 0))) ∧ Aside0 (wc.heap[gb309]? = some (.cells #[.int .i64 t304] 23 (0, 0))) ∧ Aside0 (Below w.heap.size w wc))
                  case first =>
                    have H := HC17.out
                    clear HC17
                    by_cases c30 : ((rd_T25 l0 x21_1).f0) = 4
                    · rw [if_pos c30] at H
                      have c30b0 : (((rd_T25 l0 x21_1).f0) == 4) = true := beq_iff_eq.mpr c30
                      have c30b1 : (((rd_T25 l0 x21_1).f0) != 4) = false := bne_eq_false_iff_eq.mpr c30
                      clear c30
                      (first | rw [c30b0] | (simp only [i64_w, i32_w]; rw [c30b0]) | skip)
                      have H' := Aside0.mk H
                      clear H
                      have hnb31 := NB303_300.out
                      have hnc31 := NB300_303.out
                      have hnb32 := NB303_301.out
                      have hnc32 := NB301_303.out
                      have hnb33 := NB303_309.out
                      have hnc33 := NB309_303.out
                      have hcz34_0 : w25.cell? ⟨gb303, 0, none⟩ = some (.int .i64 ((rd_T25 l0 x21_1).f0)) := (blk_cell BK303.out 0).trans rfl
                      have hcz34_1 : w25.cell? ⟨gb303, 1, none⟩ = some (.int .i64 ((rd_T25 l0 x21_1).f1)) := (blk_cell BK303.out 1).trans rfl
                      have hcz34_2 : w25.cell? ⟨gb303, 2, none⟩ = some (.int .u8 ((rd_T25 l0 x21_1).f2)) := (blk_cell BK303.out 2).trans rfl
                      have hfz34_0 := blk_frozen BK303.out 0
                      have hfz34_1 := blk_frozen BK303.out 1
                      have hfz34_2 := blk_frozen BK303.out 2
                      go_wp2
                      go_meet
                      case rel => exact ⟨_, (true), (by first | rfl | (simp; done) | (simp [*]; done)), H', ⟨by have := HK1.out; first | omega | exact Nat.le_refl _⟩, ⟨by (with_reducible repeat (first | apply Kd.R_alloc | apply Kd.R_drewN | apply Kd.R_drew)); exact Kd.R_mono (Kd.R_far (p := ⟨gb309, 0, none⟩) (Kd.R_types HO307.out BK309.out (by decide)) (fun _ hk => hk.2) (.int .i64 t304)) (fun _ hk => trivial)⟩, ⟨by (with_reducible repeat (first | refine blk_drewN ?_ _ | refine blk_drew ?_ | refine blk_alloc ?_ _)); refine blk_far ?_ NB300_309.out _; (with_reducible repeat (first | refine blk_drewN ?_ _ | refine blk_drew ?_ | refine blk_alloc ?_ _)); exact BK300.out⟩, ⟨by (with_reducible repeat (first | refine blk_drewN ?_ _ | refine blk_drew ?_ | refine blk_alloc ?_ _)); refine blk_far ?_ NB301_309.out _; (with_reducible repeat (first | refine blk_drewN ?_ _ | refine blk_drew ?_ | refine blk_alloc ?_ _)); exact BK301.out⟩, ⟨by (with_reducible repeat (first | refine blk_drewN ?_ _ | refine blk_drew ?_ | refine blk_alloc ?_ _)); refine blk_far ?_ NB303_309.out _; (with_reducible repeat (first | refine blk_drewN ?_ _ | refine blk_drew ?_ | refine blk_alloc ?_ _)); exact BK303.out⟩, ⟨by (with_reducible repeat (first | refine blk_drewN ?_ _ | refine blk_drew ?_ | refine blk_alloc ?_ _)); refine blk_put (cs := #[.int .i64 0]) ?_ 0 _ rfl; (with_reducible repeat (first | refine blk_drewN ?_ _ | refine blk_drew ?_ | refine blk_alloc ?_ _)); exact BK309.out⟩, ⟨by repeat (first | (with_reducible first | exact HB.out | apply below_alloc | apply pw_below_drewN | apply below_drew1 | refine below_set ?_ GE300.out | refine below_set ?_ GE301.out | refine below_set ?_ GE303.out | refine below_set ?_ GE309.out) | exact HB.out)⟩⟩
                    · rw [if_neg c30] at H
                      have c30b0 : (((rd_T25 l0 x21_1).f0) == 4) = false := beq_eq_false_iff_ne.mpr c30
                      have c30b1 : (((rd_T25 l0 x21_1).f0) != 4) = true := bne_iff_ne.mpr c30
                      (first | rw [c30b0] | (simp only [i64_w, i32_w]; rw [c30b0]) | skip)
                      have H' := Aside0.mk H
                      clear H
                      have hnb35 := NB303_300.out
                      have hnc35 := NB300_303.out
                      have hnb36 := NB303_301.out
                      have hnc36 := NB301_303.out
                      have hnb37 := NB303_309.out
                      have hnc37 := NB309_303.out
                      have hcz38_0 : w25.cell? ⟨gb303, 0, none⟩ = some (.int .i64 ((rd_T25 l0 x21_1).f0)) := (blk_cell BK303.out 0).trans rfl
                      have hcz38_1 : w25.cell? ⟨gb303, 1, none⟩ = some (.int .i64 ((rd_T25 l0 x21_1).f1)) := (blk_cell BK303.out 1).trans rfl
                      have hcz38_2 : w25.cell? ⟨gb303, 2, none⟩ = some (.int .u8 ((rd_T25 l0 x21_1).f2)) := (blk_cell BK303.out 2).trans rfl
                      have hfz38_0 := blk_frozen BK303.out 0
                      have hfz38_1 := blk_frozen BK303.out 1
                      have hfz38_2 := blk_frozen BK303.out 2
                      go_wp2
                      go_meet
                      case rel => exact ⟨_, ((((rd_T25 l0 x21_1).f0) == 12)), (by first | rfl | (simp; done) | (simp [*]; done)), H', ⟨by have := HK1.out; first | omega | exact Nat.le_refl _⟩, ⟨by (with_reducible repeat (first | apply Kd.R_alloc | apply Kd.R_drewN | apply Kd.R_drew)); exact Kd.R_mono (Kd.R_far (p := ⟨gb309, 0, none⟩) (Kd.R_types HO307.out BK309.out (by decide)) (fun _ hk => hk.2) (.int .i64 t304)) (fun _ hk => trivial)⟩, ⟨by (with_reducible repeat (first | refine blk_drewN ?_ _ | refine blk_drew ?_ | refine blk_alloc ?_ _)); refine blk_far ?_ NB300_309.out _; (with_reducible repeat (first | refine blk_drewN ?_ _ | refine blk_drew ?_ | refine blk_alloc ?_ _)); exact BK300.out⟩, ⟨by (with_reducible repeat (first | refine blk_drewN ?_ _ | refine blk_drew ?_ | refine blk_alloc ?_ _)); refine blk_far ?_ NB301_309.out _; (with_reducible repeat (first | refine blk_drewN ?_ _ | refine blk_drew ?_ | refine blk_alloc ?_ _)); exact BK301.out⟩, ⟨by (with_reducible repeat (first | refine blk_drewN ?_ _ | refine blk_drew ?_ | refine blk_alloc ?_ _)); refine blk_far ?_ NB303_309.out _; (with_reducible repeat (first | refine blk_drewN ?_ _ | refine blk_drew ?_ | refine blk_alloc ?_ _)); exact BK303.out⟩, ⟨by (with_reducible repeat (first | refine blk_drewN ?_ _ | refine blk_drew ?_ | refine blk_alloc ?_ _)); refine blk_put (cs := #[.int .i64 0]) ?_ 0 _ rfl; (with_reducible repeat (first | refine blk_drewN ?_ _ | refine blk_drew ?_ | refine blk_alloc ?_ _)); exact BK309.out⟩, ⟨by repeat (first | (with_reducible first | exact HB.out | apply below_alloc | apply pw_below_drewN | apply below_drew1 | refine below_set ?_ GE300.out | refine below_set ?_ GE301.out | refine below_set ?_ GE303.out | refine below_set ?_ GE309.out) | exact HB.out)⟩⟩
                  case rest =>
                    clear HC17
                    try clear c1
                    try clear c2
                    try clear p2
                    try clear c3
                    try clear p3
                    try clear q3
                    try clear hx3
                    try clear c4
                    try clear c4b0
                    try clear c4b1
                    try clear c6
                    try clear p6
                    try clear c10
                    try clear c12
                    try clear c12b0
                    try clear c13
                    try clear c13b0
                    try clear c14
                    try clear c14b0
                    try clear c16
                    try clear c16b0
                    try clear c16b1
                    try clear c19
                    try clear c20
                    try clear c22
                    try clear c26
                    try clear c27
                    try clear c28
                    try clear c30
                    try clear c30b0
                    try clear c30b1
                    try clear p30
                    try clear q30
                    try clear hx30
                    try clear c31
                    try clear c32
                    try clear c33
                    try clear c35
                    try clear c36
                    try clear c37
                    try clear hcz11_0
                    try clear hcz11_1
                    try clear hcz11_2
                    try clear hcz21_0
                    try clear hcz21_1
                    try clear hcz21_2
                    try clear hcz23_0
                    try clear hcz29_0
                    try clear hcz34_0
                    try clear hcz34_1
                    try clear hcz34_2
                    try clear hcz38_0
                    try clear hcz38_1
                    try clear hcz38_2
                    try clear hcz8_0
                    try clear hfz11_0
                    try clear hfz11_1
                    try clear hfz11_2
                    try clear hfz21_0
                    try clear hfz21_1
                    try clear hfz21_2
                    try clear hfz23_0
                    try clear hfz29_0
                    try clear hfz34_0
                    try clear hfz34_1
                    try clear hfz34_2
                    try clear hfz38_0
                    try clear hfz38_1
                    try clear hfz38_2
                    try clear hfz8_0
                    try clear hx302_0
                    try clear hx302_1
                    try clear hx302_2
                    try clear p2
                    try clear p302
                    try clear q302
                    obtain ⟨kq, x49_16, rfl, HA, HJ16, HO_8, BK300, BK301, BK303, BK309, HB⟩ := hcut
                    cases kq with
                    | zero => exact absurd HA.out (by simp [crossbarlaw17_TerminateResourcesFollowState.j1])
                    | succ kj16 =>
                      have H := HA.out
                      clear HA
                      simp only [crossbarlaw17_TerminateResourcesFollowState.j1] at H
                      have HC39 := Aside0.mk H
                      clear H
                      go_upto_if 49 with (fail)
                      go_cut [] (fun wc => ∃ (kq : Nat) (x302001_38 : Bool), Aside0 (crossbarlaw17_TerminateResourcesFollowState.j2 kq t305 l0 (l0.length : Int) x21_1 x302000_1 x302001_38 x302002_1 t304 = some r) ∧ Aside0 (kq ≤ kj16) ∧ Aside0 (Kd.R k46 46 wc w.heap.size (fun _ => True) v306 t305) ∧ Aside0 (wc.heap[gb300]? = some (.cells #[.int .i64 x301000_1] 23 (0, 0))) ∧ Aside0 (wc.heap[gb301]? = some (.cells #[.bool x302000_1, .bool x302001_38, .bool x302002_1] 40 (0, 0))) ∧ Aside0 (wc.heap[gb303]? = some (.cells #[.int .i64 ((rd_T25 l0 x21_1).f0), .int .i64 ((rd_T25 l0 x21_1).f1), .int .u8 ((rd_T25 l0 x21_1).f2)] 25 (0, 0))) ∧ Aside0 (wc.heap[gb309]? = some (.cells #[.int .i64 t304] 23 (0, 0))) ∧ Aside0 (Below w.heap.size w wc))
                      case first =>
                        have H := HC39.out
                        clear HC39
                        by_cases c40 : x49_16 = true
                        · subst c40
                          have H1 : (if x302001_1 = true then (crossbarlaw17_TerminateResourcesFollowState.j2 kj16 t305 l0 (l0.length : Int) x21_1 x302000_1 false x302002_1 t304) else (none)) = some r := by rw [if_pos rfl] at H; exact H
                          clear H
                          have H := H1
                          clear H1
                          by_cases c41 : x302001_1 = true
                          · subst c41
                            have H1 : (crossbarlaw17_TerminateResourcesFollowState.j2 kj16 t305 l0 (l0.length : Int) x21_1 x302000_1 false x302002_1 t304) = some r := by rw [if_pos rfl] at H; exact H
                            clear H
                            have H := H1
                            clear H1
                            have H' := Aside0.mk H
                            clear H
                            have hnb42 := NB301_300.out
                            have hnc42 := NB300_301.out
                            have hnb43 := NB301_303.out
                            have hnc43 := NB303_301.out
                            have hnb44 := NB301_309.out
                            have hnc44 := NB309_301.out
                            have hcz45_0 : wc.cell? ⟨gb301, 0, none⟩ = some (.bool x302000_1) := (blk_cell BK301.out 0).trans rfl
                            have hcz45_1 : wc.cell? ⟨gb301, 1, none⟩ = some (.bool true) := (blk_cell BK301.out 1).trans rfl
                            have hcz45_2 : wc.cell? ⟨gb301, 2, none⟩ = some (.bool x302002_1) := (blk_cell BK301.out 2).trans rfl
                            have hfz45_0 := blk_frozen BK301.out 0
                            have hfz45_1 := blk_frozen BK301.out 1
                            have hfz45_2 := blk_frozen BK301.out 2
                            go_wp2
                            go_meet
                            case rel => exact ⟨_, (false), H', ⟨by have := HK1.out; have := HJ16.out; first | omega | exact Nat.le_refl _⟩, ⟨by (with_reducible repeat (first | apply Kd.R_alloc | apply Kd.R_drewN | apply Kd.R_drew)); exact Kd.R_mono (Kd.R_far (p := ⟨gb301, 1, none⟩) (Kd.R_types HO_8.out BK301.out (by decide)) (fun _ hk => hk.2) (.bool false)) (fun _ hk => trivial)⟩, ⟨by (with_reducible repeat (first | refine blk_drewN ?_ _ | refine blk_drew ?_ | refine blk_alloc ?_ _)); refine blk_far ?_ NB300_301.out _; (with_reducible repeat (first | refine blk_drewN ?_ _ | refine blk_drew ?_ | refine blk_alloc ?_ _)); exact BK300.out⟩, ⟨by (with_reducible repeat (first | refine blk_drewN ?_ _ | refine blk_drew ?_ | refine blk_alloc ?_ _)); refine blk_put (cs := #[.bool x302000_1, .bool true, .bool x302002_1]) ?_ 1 _ rfl; (with_reducible repeat (first | refine blk_drewN ?_ _ | refine blk_drew ?_ | refine blk_alloc ?_ _)); exact BK301.out⟩, ⟨by (with_reducible repeat (first | refine blk_drewN ?_ _ | refine blk_drew ?_ | refine blk_alloc ?_ _)); refine blk_far ?_ NB303_301.out _; (with_reducible repeat (first | refine blk_drewN ?_ _ | refine blk_drew ?_ | refine blk_alloc ?_ _)); exact BK303.out⟩, ⟨by (with_reducible repeat (first | refine blk_drewN ?_ _ | refine blk_drew ?_ | refine blk_alloc ?_ _)); refine blk_far ?_ NB309_301.out _; (with_reducible repeat (first | refine blk_drewN ?_ _ | refine blk_drew ?_ | refine blk_alloc ?_ _)); exact BK309.out⟩, ⟨by repeat (first | (with_reducible first | exact HB.out | apply below_alloc | apply pw_below_drewN | apply below_drew1 | refine below_set ?_ GE300.out | refine below_set ?_ GE301.out | refine below_set ?_ GE303.out | refine below_set ?_ GE309.out) | exact HB.out)⟩⟩
                          · replace c41 := Bool.eq_false_iff.mpr c41
                            subst c41
                            have H1 : (none) = some r := by rw [if_neg (show ¬ (false = true) by decide)] at H; exact H
                            clear H
                            have H := H1
                            clear H1
                            exact absurd H (by simp)
                        · replace c40 := Bool.eq_false_iff.mpr c40
                          subst c40
                          have H1 : (crossbarlaw17_TerminateResourcesFollowState.j2 kj16 t305 l0 (l0.length : Int) x21_1 x302000_1 x302001_1 x302002_1 t304) = some r := by rw [if_neg (show ¬ (false = true) by decide)] at H; exact H
                          clear H
                          have H := H1
                          clear H1
                          have H' := Aside0.mk H
                          clear H
                          go_wp2
                          go_meet
                          case rel => exact ⟨_, (x302001_1), H', ⟨by have := HK1.out; have := HJ16.out; first | omega | exact Nat.le_refl _⟩, ⟨by (with_reducible repeat (first | apply Kd.R_alloc | apply Kd.R_drewN | apply Kd.R_drew)); exact HO_8.out⟩, ⟨by (with_reducible repeat (first | refine blk_drewN ?_ _ | refine blk_drew ?_ | refine blk_alloc ?_ _)); exact BK300.out⟩, ⟨by (with_reducible repeat (first | refine blk_drewN ?_ _ | refine blk_drew ?_ | refine blk_alloc ?_ _)); exact BK301.out⟩, ⟨by (with_reducible repeat (first | refine blk_drewN ?_ _ | refine blk_drew ?_ | refine blk_alloc ?_ _)); exact BK303.out⟩, ⟨by (with_reducible repeat (first | refine blk_drewN ?_ _ | refine blk_drew ?_ | refine blk_alloc ?_ _)); exact BK309.out⟩, ⟨by repeat (first | (with_reducible first | exact HB.out | apply below_alloc | apply pw_below_drewN | apply below_drew1 | refine below_set ?_ GE300.out | refine below_set ?_ GE301.out | refine below_set ?_ GE303.out | refine below_set ?_ GE309.out) | exact HB.out)⟩⟩
                      case rest =>
                        clear HC39
                        try clear c1
                        try clear c2
                        try clear p2
                        try clear c3
                        try clear p3
                        try clear q3
                        try clear hx3
                        try clear c4
                        try clear c4b0
                        try clear c4b1
                        try clear c6
                        try clear p6
                        try clear c10
                        try clear c12
                        try clear c12b0
                        try clear c13
                        try clear c13b0
                        try clear c14
                        try clear c14b0
                        try clear c16
                        try clear c16b0
                        try clear c16b1
                        try clear c19
                        try clear c20
                        try clear c22
                        try clear c26
                        try clear c27
                        try clear c28
                        try clear c30
                        try clear c30b0
                        try clear c30b1
                        try clear p30
                        try clear q30
                        try clear hx30
                        try clear c31
                        try clear c32
                        try clear c33
                        try clear c35
                        try clear c36
                        try clear c37
                        try clear c40
                        try clear c41
                        try clear c42
                        try clear c43
                        try clear c44
                        try clear hcz11_0
                        try clear hcz11_1
                        try clear hcz11_2
                        try clear hcz21_0
                        try clear hcz21_1
                        try clear hcz21_2
                        try clear hcz23_0
                        try clear hcz29_0
                        try clear hcz34_0
                        try clear hcz34_1
                        try clear hcz34_2
                        try clear hcz38_0
                        try clear hcz38_1
                        try clear hcz38_2
                        try clear hcz45_0
                        try clear hcz45_1
                        try clear hcz45_2
                        try clear hcz8_0
                        try clear hfz11_0
                        try clear hfz11_1
                        try clear hfz11_2
                        try clear hfz21_0
                        try clear hfz21_1
                        try clear hfz21_2
                        try clear hfz23_0
                        try clear hfz29_0
                        try clear hfz34_0
                        try clear hfz34_1
                        try clear hfz34_2
                        try clear hfz38_0
                        try clear hfz38_1
                        try clear hfz38_2
                        try clear hfz45_0
                        try clear hfz45_1
                        try clear hfz45_2
                        try clear hfz8_0
                        try clear hx302_0
                        try clear hx302_1
                        try clear hx302_2
                        try clear p2
                        try clear p3
                        try clear p30
                        try clear p302
                        try clear p6
                        try clear q3
                        try clear q30
                        try clear q302
                        obtain ⟨kq, x302001_38, HA, HJ38, HO_8, BK300, BK301, BK303, BK309, HB⟩ := hcut
                        cases kq with
                        | zero => exact absurd HA.out (by simp [crossbarlaw17_TerminateResourcesFollowState.j2])
                        | succ kj38 =>
                          have H := HA.out
                          clear HA
                          simp only [crossbarlaw17_TerminateResourcesFollowState.j2] at H
                          replace H := Option.bind_eq_some_iff.mp H
                          obtain ⟨⟨t310, t311, t312, t313⟩, A460, H⟩ := H
                          replace H : (if t313 = true then (if (t310 != (t304 == 1)) = true then (none) else (if t304 = 1 then (if (t311 != true) = true then (none) else (if (t312 != (t304 == 4)) = true then (none) else (crossbarlaw17_TerminateResourcesFollowState.l0 kj38 l0 (l0.length : Int) (wrap64 (x21_1 + 1)) t304 t310 t311 t312))) else (if (t311 != (t304 == 3)) = true then (none) else (if (t312 != (t304 == 4)) = true then (none) else (crossbarlaw17_TerminateResourcesFollowState.l0 kj38 l0 (l0.length : Int) (wrap64 (x21_1 + 1)) t304 t310 t311 t312))))) else (none)) = some r := H
                          have A46 := Aside0.mk A460
                          clear A460
                          by_cases c47 : t313 = true
                          · subst c47
                            have H1 : (if (t310 != (t304 == 1)) = true then (none) else (if t304 = 1 then (if (t311 != true) = true then (none) else (if (t312 != (t304 == 4)) = true then (none) else (crossbarlaw17_TerminateResourcesFollowState.l0 kj38 l0 (l0.length : Int) (wrap64 (x21_1 + 1)) t304 t310 t311 t312))) else (if (t311 != (t304 == 3)) = true then (none) else (if (t312 != (t304 == 4)) = true then (none) else (crossbarlaw17_TerminateResourcesFollowState.l0 kj38 l0 (l0.length : Int) (wrap64 (x21_1 + 1)) t304 t310 t311 t312))))) = some r := by rw [if_pos rfl] at H; exact H
                            clear H
                            have H := H1
                            clear H1
                            by_cases c48 : (t310 != (t304 == 1)) = true
                            · rw [if_pos c48] at H
                              exact absurd H (by simp)
                            · rw [if_neg c48] at H
                              have c48b0 : (t310 != (t304 == 1)) = false := by simpa using c48
                              (try (have c48b1 : decide (t310 = (t304 == 1)) = true := by simpa using c48))
                              (try (have c48b2 : (t310 == (t304 == 1)) = true := by simpa using c48))
                              clear c48
                              by_cases c49 : t304 = 1
                              · rw [if_pos c49] at H
                                have c49b0 : (t304 == 1) = true := beq_iff_eq.mpr c49
                                have c49b1 : (t304 != 1) = false := bne_eq_false_iff_eq.mpr c49
                                clear c49
                                by_cases c50 : (t311 != true) = true
                                · rw [if_pos c50] at H
                                  exact absurd H (by simp)
                                · rw [if_neg c50] at H
                                  have c50b0 : (t311 != true) = false := by simpa using c50
                                  (try (have c50b1 : decide (t311 = true) = true := by simpa using c50))
                                  (try (have c50b2 : (t311 == true) = true := by simpa using c50))
                                  clear c50
                                  by_cases c51 : (t312 != (t304 == 4)) = true
                                  · rw [if_pos c51] at H
                                    exact absurd H (by simp)
                                  · rw [if_neg c51] at H
                                    have c51b0 : (t312 != (t304 == 4)) = false := by simpa using c51
                                    (try (have c51b1 : decide (t312 = (t304 == 4)) = true := by simpa using c51))
                                    (try (have c51b2 : (t312 == (t304 == 4)) = true := by simpa using c51))
                                    clear c51
                                    have H' := Aside0.mk H
                                    clear H
                                    have hnb52 := NB301_300.out
                                    have hnc52 := NB300_301.out
                                    have hnb53 := NB301_303.out
                                    have hnc53 := NB303_301.out
                                    have hnb54 := NB301_309.out
                                    have hnc54 := NB309_301.out
                                    have hcz55_0 : wc.cell? ⟨gb301, 0, none⟩ = some (.bool x302000_1) := (blk_cell BK301.out 0).trans rfl
                                    have hcz55_1 : wc.cell? ⟨gb301, 1, none⟩ = some (.bool x302001_38) := (blk_cell BK301.out 1).trans rfl
                                    have hcz55_2 : wc.cell? ⟨gb301, 2, none⟩ = some (.bool x302002_1) := (blk_cell BK301.out 2).trans rfl
                                    have hfz55_0 := blk_frozen BK301.out 0
                                    have hfz55_1 := blk_frozen BK301.out 1
                                    have hfz55_2 := blk_frozen BK301.out 2
                                    obtain ⟨Ao56, co56, eo56⟩ := Kd.R_slice HO_8.out
                                    subst eo56
                                    try go_wp2_with (first | ((with_reducible refine gate_callee (f := 20) rfl ?_); refine goesL_ (some 57) rfl rfl Tryd.func20 (by kernel_rfl) rfl #[.agg #[.bool x302000_1, .bool x302001_38, .bool x302002_1], .slice Ao56 t305.length co56] rfl (by (try simp only [List.map_toArray, List.map_cons, List.map_nil]); first | done | rfl | (simp only [List.length_drop, List.length_take]; rfl)) ?_; (with_reducible refine (crossbarlaw17_shown.calls kj38 x302000_1 x302001_38 x302002_1 _ _ t305 t310 t311 t312 true _ ?side1 ?side2 A46.out).mono ?_); (case side1 => repeat (first | exact (Kd.R_reads' HO_8.out).2.2 | (with_reducible refine Kd.C_alloc ?_ _) | (with_reducible refine Kd.C_drewN ?_ _) | (with_reducible refine Kd.C_drew ?_))); (case side2 => exact (Kd.R_reads' HO_8.out).2.1); rintro e w57 ⟨rfl, hb⟩; refine ⟨_, rfl, ?_⟩; have n0_ := Aside0.mk (Kd.R_below (by (with_reducible repeat (first | apply Kd.R_alloc | apply Kd.R_drewN | apply Kd.R_drew)); exact HO_8.out) hb); have n1_ := Aside0.mk (blk_below (g := gb300) (o := .cells #[.int .i64 x301000_1] 23 (0, 0)) (by (with_reducible repeat (first | refine blk_drewN ?_ _ | refine blk_drew ?_ | refine blk_alloc ?_ _)); exact BK300.out) hb); have n2_ := Aside0.mk (blk_below (g := gb301) (o := .cells #[.bool x302000_1, .bool x302001_38, .bool x302002_1] 40 (0, 0)) (by (with_reducible repeat (first | refine blk_drewN ?_ _ | refine blk_drew ?_ | refine blk_alloc ?_ _)); exact BK301.out) hb); have n3_ := Aside0.mk (blk_below (g := gb303) (o := .cells #[.int .i64 ((rd_T25 l0 x21_1).f0), .int .i64 ((rd_T25 l0 x21_1).f1), .int .u8 ((rd_T25 l0 x21_1).f2)] 25 (0, 0)) (by (with_reducible repeat (first | refine blk_drewN ?_ _ | refine blk_drew ?_ | refine blk_alloc ?_ _)); exact BK303.out) hb); have n4_ := Aside0.mk (blk_below (g := gb309) (o := .cells #[.int .i64 t304] 23 (0, 0)) (by (with_reducible repeat (first | refine blk_drewN ?_ _ | refine blk_drew ?_ | refine blk_alloc ?_ _)); exact BK309.out) hb); have n5_ := Aside0.mk (below_step (by repeat (first | (with_reducible first | exact HB.out | apply below_alloc | apply pw_below_drewN | apply below_drew1 | refine below_set ?_ GE300.out | refine below_set ?_ GE301.out | refine below_set ?_ GE303.out | refine below_set ?_ GE309.out) | exact HB.out)) hb); clear HO_8; clear BK300; clear BK301; clear BK303; clear BK309; clear HB; have HO_8 := n0_; have BK300 := n1_; have BK301 := n2_; have BK303 := n3_; have BK309 := n4_; have HB := n5_; clear n0_ n1_ n2_ n3_ n4_ n5_; (try clear hb); (try clear hb2); (try clear hk); (try clear hi)) | ((with_reducible refine gate_dst (N := 10) rfl ?_); (try (refine gate_guard (by rfl) ?_; dsimp only)); refine box_event ?hg (N := 10) ?hd (cs := #[.bool false, .bool false, .bool false]) (t := 40) ?hr ?_; (case hd => rfl); (case hg => rfl); (case hr => first | (go_simp; done) | (go_simp; rfl)); intro gb314 hg w58 hbox hb; have n0_ := Aside0.mk (Kd.R_below (by (with_reducible repeat (first | apply Kd.R_alloc | apply Kd.R_drewN | apply Kd.R_drew)); exact HO_8.out) hb); have n1_ := Aside0.mk (blk_below (g := gb300) (o := .cells #[.int .i64 x301000_1] 23 (0, 0)) (by (with_reducible repeat (first | refine blk_drewN ?_ _ | refine blk_drew ?_ | refine blk_alloc ?_ _)); exact BK300.out) hb); have n2_ := Aside0.mk (blk_below (g := gb301) (o := .cells #[.bool x302000_1, .bool x302001_38, .bool x302002_1] 40 (0, 0)) (by (with_reducible repeat (first | refine blk_drewN ?_ _ | refine blk_drew ?_ | refine blk_alloc ?_ _)); exact BK301.out) hb); have n3_ := Aside0.mk (blk_below (g := gb303) (o := .cells #[.int .i64 ((rd_T25 l0 x21_1).f0), .int .i64 ((rd_T25 l0 x21_1).f1), .int .u8 ((rd_T25 l0 x21_1).f2)] 25 (0, 0)) (by (with_reducible repeat (first | refine blk_drewN ?_ _ | refine blk_drew ?_ | refine blk_alloc ?_ _)); exact BK303.out) hb); have n4_ := Aside0.mk (blk_below (g := gb309) (o := .cells #[.int .i64 t304] 23 (0, 0)) (by (with_reducible repeat (first | refine blk_drewN ?_ _ | refine blk_drew ?_ | refine blk_alloc ?_ _)); exact BK309.out) hb); have n5_ := Aside0.mk (below_step (by repeat (first | (with_reducible first | exact HB.out | apply below_alloc | apply pw_below_drewN | apply below_drew1 | refine below_set ?_ GE300.out | refine below_set ?_ GE301.out | refine below_set ?_ GE303.out | refine below_set ?_ GE309.out) | exact HB.out)) hb); have n6_ := Aside0.mk (hbox); have n7_ := Aside0.mk ((by rw [hg]; exact (below_size (by repeat (first | (with_reducible first | exact HB.out | apply below_alloc | apply pw_below_drewN | apply below_drew1 | refine below_set ?_ GE300.out | refine below_set ?_ GE301.out | refine below_set ?_ GE303.out | refine below_set ?_ GE309.out) | exact HB.out))) : w.heap.size ≤ gb314)); have n8_ := Aside0.mk ((by rw [hg]; exact (below_size (by repeat (first | (with_reducible first | exact HB.out | apply below_alloc | apply pw_below_drewN | apply below_drew1 | refine below_set ?_ GE300.out | refine below_set ?_ GE301.out | refine below_set ?_ GE303.out | refine below_set ?_ GE309.out) | exact HB.out))) : w.heap.size ≤ gb314)); have n9_ := Aside0.mk ((by rw [hg]; exact Nat.ne_of_lt (blk_lt (g := gb300) (o := .cells #[.int .i64 x301000_1] 23 (0, 0)) (by (with_reducible repeat (first | refine blk_drewN ?_ _ | refine blk_drew ?_ | refine blk_alloc ?_ _)); exact BK300.out)) : gb300 ≠ gb314)); have n10_ := Aside0.mk ((by rw [hg]; exact Nat.ne_of_gt (blk_lt (g := gb300) (o := .cells #[.int .i64 x301000_1] 23 (0, 0)) (by (with_reducible repeat (first | refine blk_drewN ?_ _ | refine blk_drew ?_ | refine blk_alloc ?_ _)); exact BK300.out)) : gb314 ≠ gb300)); have n11_ := Aside0.mk ((by rw [hg]; exact Nat.ne_of_lt (blk_lt (g := gb301) (o := .cells #[.bool x302000_1, .bool x302001_38, .bool x302002_1] 40 (0, 0)) (by (with_reducible repeat (first | refine blk_drewN ?_ _ | refine blk_drew ?_ | refine blk_alloc ?_ _)); exact BK301.out)) : gb301 ≠ gb314)); have n12_ := Aside0.mk ((by rw [hg]; exact Nat.ne_of_gt (blk_lt (g := gb301) (o := .cells #[.bool x302000_1, .bool x302001_38, .bool x302002_1] 40 (0, 0)) (by (with_reducible repeat (first | refine blk_drewN ?_ _ | refine blk_drew ?_ | refine blk_alloc ?_ _)); exact BK301.out)) : gb314 ≠ gb301)); have n13_ := Aside0.mk ((by rw [hg]; exact Nat.ne_of_lt (blk_lt (g := gb303) (o := .cells #[.int .i64 ((rd_T25 l0 x21_1).f0), .int .i64 ((rd_T25 l0 x21_1).f1), .int .u8 ((rd_T25 l0 x21_1).f2)] 25 (0, 0)) (by (with_reducible repeat (first | refine blk_drewN ?_ _ | refine blk_drew ?_ | refine blk_alloc ?_ _)); exact BK303.out)) : gb303 ≠ gb314)); have n14_ := Aside0.mk ((by rw [hg]; exact Nat.ne_of_gt (blk_lt (g := gb303) (o := .cells #[.int .i64 ((rd_T25 l0 x21_1).f0), .int .i64 ((rd_T25 l0 x21_1).f1), .int .u8 ((rd_T25 l0 x21_1).f2)] 25 (0, 0)) (by (with_reducible repeat (first | refine blk_drewN ?_ _ | refine blk_drew ?_ | refine blk_alloc ?_ _)); exact BK303.out)) : gb314 ≠ gb303)); have n15_ := Aside0.mk ((by rw [hg]; exact Nat.ne_of_lt (blk_lt (g := gb309) (o := .cells #[.int .i64 t304] 23 (0, 0)) (by (with_reducible repeat (first | refine blk_drewN ?_ _ | refine blk_drew ?_ | refine blk_alloc ?_ _)); exact BK309.out)) : gb309 ≠ gb314)); have n16_ := Aside0.mk ((by rw [hg]; exact Nat.ne_of_gt (blk_lt (g := gb309) (o := .cells #[.int .i64 t304] 23 (0, 0)) (by (with_reducible repeat (first | refine blk_drewN ?_ _ | refine blk_drew ?_ | refine blk_alloc ?_ _)); exact BK309.out)) : gb314 ≠ gb309)); clear HO_8; clear BK300; clear BK301; clear BK303; clear BK309; clear HB; have HO_8 := n0_; have BK300 := n1_; have BK301 := n2_; have BK303 := n3_; have BK309 := n4_; have HB := n5_; have BK314 := n6_; have GW314 := n7_; have GE314 := n8_; have NB300_314 := n9_; have NB314_300 := n10_; have NB301_314 := n11_; have NB314_301 := n12_; have NB303_314 := n13_; have NB314_303 := n14_; have NB309_314 := n15_; have NB314_309 := n16_; clear n0_ n1_ n2_ n3_ n4_ n5_ n6_ n7_ n8_ n9_ n10_ n11_ n12_ n13_ n14_ n15_ n16_; clear hb hbox hg; have hnb59 := NB314_300.out; have hnc59 := NB300_314.out; have hnb60 := NB314_301.out; have hnc60 := NB301_314.out; have hnb61 := NB314_303.out; have hnc61 := NB303_314.out; have hnb62 := NB314_309.out; have hnc62 := NB309_314.out; have hcz63_0 : w58.cell? ⟨gb314, 0, none⟩ = some (.bool false) := (blk_cell BK314.out 0).trans rfl; have hcz63_1 : w58.cell? ⟨gb314, 1, none⟩ = some (.bool false) := (blk_cell BK314.out 1).trans rfl; have hcz63_2 : w58.cell? ⟨gb314, 2, none⟩ = some (.bool false) := (blk_cell BK314.out 2).trans rfl; have hfz63_0 := blk_frozen BK314.out 0; have hfz63_1 := blk_frozen BK314.out 1; have hfz63_2 := blk_frozen BK314.out 2; have hnb64 := NB309_300.out; have hnc64 := NB300_309.out; have hnb65 := NB309_303.out; have hnc65 := NB303_309.out; have hcz66_0 : w58.cell? ⟨gb309, 0, none⟩ = some (.int .i64 t304) := (blk_cell BK309.out 0).trans rfl; have hfz66_0 := blk_frozen BK309.out 0))
                                    any_goals (first | (exfalso; exact absurd (show t310 = true by simpa [c49b0] using c48b2) (by first | assumption | (rw [Bool.not_eq_false]; assumption))) | skip)
                                    have e310 : t310 = true := by simpa [c49b0] using c48b2
                                    have hw_ : (((w58.setCell ⟨gb314, 0, none⟩ (.bool true)).setCell ⟨gb314, 1, none⟩ (.bool t311)).setCell ⟨gb314, 2, none⟩ (.bool t312)) = (((w58.setCell ⟨gb314, 0, none⟩ (.bool t310)).setCell ⟨gb314, 1, none⟩ (.bool t311)).setCell ⟨gb314, 2, none⟩ (.bool t312)) := by rw [e310]
                                    (try rw [hw_])
                                    have n0_ : Aside0 (Kd.R k46 46 (((w58.setCell ⟨gb314, 0, none⟩ (.bool t310)).setCell ⟨gb314, 1, none⟩ (.bool t311)).setCell ⟨gb314, 2, none⟩ (.bool t312)) w.heap.size (fun _ => True) (.slice Ao56 t305.length co56) t305) := ⟨by (with_reducible repeat (first | apply Kd.R_alloc | apply Kd.R_drewN | apply Kd.R_drew)); exact Kd.R_mono (Kd.R_far (p := ⟨gb314, 2, none⟩) (Kd.R_far (p := ⟨gb314, 1, none⟩) (Kd.R_far (p := ⟨gb314, 0, none⟩) (Kd.R_types HO_8.out BK314.out (by decide)) (fun _ hk => hk.2) (.bool t310)) (fun _ hk => hk.2) (.bool t311)) (fun _ hk => hk.2) (.bool t312)) (fun _ hk => trivial)⟩
                                    have n1_ : Aside0 ((((w58.setCell ⟨gb314, 0, none⟩ (.bool t310)).setCell ⟨gb314, 1, none⟩ (.bool t311)).setCell ⟨gb314, 2, none⟩ (.bool t312)).heap[gb300]? = some (.cells #[.int .i64 x301000_1] 23 (0, 0))) := ⟨by (with_reducible repeat (first | refine blk_drewN ?_ _ | refine blk_drew ?_ | refine blk_alloc ?_ _)); refine blk_far ?_ NB300_314.out _; (with_reducible repeat (first | refine blk_drewN ?_ _ | refine blk_drew ?_ | refine blk_alloc ?_ _)); refine blk_far ?_ NB300_314.out _; (with_reducible repeat (first | refine blk_drewN ?_ _ | refine blk_drew ?_ | refine blk_alloc ?_ _)); refine blk_far ?_ NB300_314.out _; (with_reducible repeat (first | refine blk_drewN ?_ _ | refine blk_drew ?_ | refine blk_alloc ?_ _)); exact BK300.out⟩
                                    have n2_ : Aside0 ((((w58.setCell ⟨gb314, 0, none⟩ (.bool t310)).setCell ⟨gb314, 1, none⟩ (.bool t311)).setCell ⟨gb314, 2, none⟩ (.bool t312)).heap[gb301]? = some (.cells #[.bool x302000_1, .bool x302001_38, .bool x302002_1] 40 (0, 0))) := ⟨by (with_reducible repeat (first | refine blk_drewN ?_ _ | refine blk_drew ?_ | refine blk_alloc ?_ _)); refine blk_far ?_ NB301_314.out _; (with_reducible repeat (first | refine blk_drewN ?_ _ | refine blk_drew ?_ | refine blk_alloc ?_ _)); refine blk_far ?_ NB301_314.out _; (with_reducible repeat (first | refine blk_drewN ?_ _ | refine blk_drew ?_ | refine blk_alloc ?_ _)); refine blk_far ?_ NB301_314.out _; (with_reducible repeat (first | refine blk_drewN ?_ _ | refine blk_drew ?_ | refine blk_alloc ?_ _)); exact BK301.out⟩
                                    have n3_ : Aside0 ((((w58.setCell ⟨gb314, 0, none⟩ (.bool t310)).setCell ⟨gb314, 1, none⟩ (.bool t311)).setCell ⟨gb314, 2, none⟩ (.bool t312)).heap[gb303]? = some (.cells #[.int .i64 ((rd_T25 l0 x21_1).f0), .int .i64 ((rd_T25 l0 x21_1).f1), .int .u8 ((rd_T25 l0 x21_1).f2)] 25 (0, 0))) := ⟨by (with_reducible repeat (first | refine blk_drewN ?_ _ | refine blk_drew ?_ | refine blk_alloc ?_ _)); refine blk_far ?_ NB303_314.out _; (with_reducible repeat (first | refine blk_drewN ?_ _ | refine blk_drew ?_ | refine blk_alloc ?_ _)); refine blk_far ?_ NB303_314.out _; (with_reducible repeat (first | refine blk_drewN ?_ _ | refine blk_drew ?_ | refine blk_alloc ?_ _)); refine blk_far ?_ NB303_314.out _; (with_reducible repeat (first | refine blk_drewN ?_ _ | refine blk_drew ?_ | refine blk_alloc ?_ _)); exact BK303.out⟩
                                    have n4_ : Aside0 ((((w58.setCell ⟨gb314, 0, none⟩ (.bool t310)).setCell ⟨gb314, 1, none⟩ (.bool t311)).setCell ⟨gb314, 2, none⟩ (.bool t312)).heap[gb309]? = some (.cells #[.int .i64 t304] 23 (0, 0))) := ⟨by (with_reducible repeat (first | refine blk_drewN ?_ _ | refine blk_drew ?_ | refine blk_alloc ?_ _)); refine blk_far ?_ NB309_314.out _; (with_reducible repeat (first | refine blk_drewN ?_ _ | refine blk_drew ?_ | refine blk_alloc ?_ _)); refine blk_far ?_ NB309_314.out _; (with_reducible repeat (first | refine blk_drewN ?_ _ | refine blk_drew ?_ | refine blk_alloc ?_ _)); refine blk_far ?_ NB309_314.out _; (with_reducible repeat (first | refine blk_drewN ?_ _ | refine blk_drew ?_ | refine blk_alloc ?_ _)); exact BK309.out⟩
                                    have n5_ : Aside0 ((((w58.setCell ⟨gb314, 0, none⟩ (.bool t310)).setCell ⟨gb314, 1, none⟩ (.bool t311)).setCell ⟨gb314, 2, none⟩ (.bool t312)).heap[gb314]? = some (.cells #[.bool t310, .bool t311, .bool t312] 40 (0, 0))) := ⟨by (with_reducible repeat (first | refine blk_drewN ?_ _ | refine blk_drew ?_ | refine blk_alloc ?_ _)); refine blk_put (cs := #[.bool t310, .bool t311, .bool false]) ?_ 2 _ rfl; (with_reducible repeat (first | refine blk_drewN ?_ _ | refine blk_drew ?_ | refine blk_alloc ?_ _)); refine blk_put (cs := #[.bool t310, .bool false, .bool false]) ?_ 1 _ rfl; (with_reducible repeat (first | refine blk_drewN ?_ _ | refine blk_drew ?_ | refine blk_alloc ?_ _)); refine blk_put (cs := #[.bool false, .bool false, .bool false]) ?_ 0 _ rfl; (with_reducible repeat (first | refine blk_drewN ?_ _ | refine blk_drew ?_ | refine blk_alloc ?_ _)); exact BK314.out⟩
                                    have n6_ : Aside0 (Below w.heap.size w (((w58.setCell ⟨gb314, 0, none⟩ (.bool t310)).setCell ⟨gb314, 1, none⟩ (.bool t311)).setCell ⟨gb314, 2, none⟩ (.bool t312))) := ⟨by repeat (first | (with_reducible first | exact HB.out | apply below_alloc | apply pw_below_drewN | apply below_drew1 | refine below_set ?_ GE300.out | refine below_set ?_ GE301.out | refine below_set ?_ GE303.out | refine below_set ?_ GE309.out | refine below_set ?_ GE314.out) | exact HB.out)⟩
                                    (try clear HO_8)
                                    (try clear BK300)
                                    (try clear BK301)
                                    (try clear BK303)
                                    (try clear BK309)
                                    (try clear BK314)
                                    (try clear HB)
                                    generalize (((w58.setCell ⟨gb314, 0, none⟩ (.bool t310)).setCell ⟨gb314, 1, none⟩ (.bool t311)).setCell ⟨gb314, 2, none⟩ (.bool t312)) = w67 at n0_ n1_ n2_ n3_ n4_ n5_ n6_ ⊢
                                    have HO_8 := n0_
                                    have BK300 := n1_
                                    have BK301 := n2_
                                    have BK303 := n3_
                                    have BK309 := n4_
                                    have BK314 := n5_
                                    have HB := n6_
                                    clear n0_ n1_ n2_ n3_ n4_ n5_ n6_
                                    have n0_ := Aside0.mk (Kd.R_drew HO_8.out)
                                    have n1_ := Aside0.mk (blk_drew BK300.out)
                                    have n2_ := Aside0.mk (blk_drew BK301.out)
                                    have n3_ := Aside0.mk (blk_drew BK303.out)
                                    have n4_ := Aside0.mk (blk_drew BK309.out)
                                    have n5_ := Aside0.mk (blk_drew BK314.out)
                                    have n6_ := Aside0.mk (below_drew1 HB.out)
                                    clear HO_8
                                    clear BK300
                                    clear BK301
                                    clear BK303
                                    clear BK309
                                    clear BK314
                                    clear HB
                                    have HO_8 := n0_
                                    have BK300 := n1_
                                    have BK301 := n2_
                                    have BK303 := n3_
                                    have BK309 := n4_
                                    have BK314 := n5_
                                    have HB := n6_
                                    clear n0_ n1_ n2_ n3_ n4_ n5_ n6_
                                    refine start_ (n := 4) (S := fun w' => w'.cell? ⟨gb309, 0, none⟩ = some (.int .i64 t304) ∧ w'.cell? ⟨gb314, 0, none⟩ = some (.bool t310) ∧ w'.cell? ⟨gb314, 1, none⟩ = some (.bool t311) ∧ w'.cell? ⟨gb314, 2, none⟩ = some (.bool t312)) (ds := []) #[false, false, false, false] (by kernel_rfl) rfl rfl ⟨(blk_cell BK309.out 0).trans rfl, (blk_cell BK314.out 0).trans rfl, (blk_cell BK314.out 1).trans rfl, (blk_cell BK314.out 2).trans rfl⟩ (fun hHeld => ?_)
                                    generalize w67.drew = w68 at HO_8 BK300 BK301 BK303 BK309 BK314 HB hHeld ⊢
                                    refine take_ (i := 0) (N := some 91) (v := ?_) (a' := ?_) #[true, false, false, false] rfl rfl (by kernel_rfl) (fun _ _ _ h => h) (Or.inl ⟨by rfl, ?_⟩) hHeld ?_ ?_
                                    rotate_left
                                    · rintro w' ⟨s0, s1, s2, s3⟩
                                      go_simp
                                      with_reducible rfl
                                    rotate_left
                                    · simp only [Act.put, List.setIfInBounds_toArray, List.set_cons_zero, List.set_cons_succ, i64_w, i32_w]
                                      rfl
                                    refine take_ (i := 1) (N := some 92) (v := ?_) (a' := ?_) #[true, true, false, false] rfl rfl (by kernel_rfl) (fun _ _ _ h => h) (Or.inl ⟨by rfl, ?_⟩) hHeld ?_ ?_
                                    rotate_left
                                    · rintro w' ⟨s0, s1, s2, s3⟩
                                      go_simp
                                      with_reducible rfl
                                    rotate_left
                                    · simp only [Act.put, List.setIfInBounds_toArray, List.set_cons_zero, List.set_cons_succ, i64_w, i32_w]
                                      rfl
                                    refine one_ (i := 2) (N := none) #[true, true, true, false] rfl rfl (by kernel_rfl) (by decide) (fun K hK => ?_)
                                    have hs69 : w68.cell? ⟨gb300, 0, none⟩ = some (.int .i64 x301000_1) := (blk_cell BK300.out 0).trans rfl
                                    have hfs69 := blk_frozen BK300.out 0
                                    have hns69_1 := NB301_300.out
                                    have hns69_2 := NB303_300.out
                                    have hns69_3 := NB309_300.out
                                    have hns69_4 := NB314_300.out
                                    have hms69_1 := NB300_301.out
                                    have hms69_2 := NB300_303.out
                                    have hms69_3 := NB300_309.out
                                    have hms69_4 := NB300_314.out
                                    refine skip_ (w1 := ?_) (by rfl) rfl ?_ ?_
                                    rotate_left
                                    · go_simp
                                      rfl
                                    refine hK.out _ _ ⟨((cell_far (p := ⟨gb300, _, none⟩) NB309_300.out _).trans (hHeld.1)), ((cell_far (p := ⟨gb300, _, none⟩) NB314_300.out _).trans (hHeld.2.1)), ((cell_far (p := ⟨gb300, _, none⟩) NB314_300.out _).trans (hHeld.2.2.1)), ((cell_far (p := ⟨gb300, _, none⟩) NB314_300.out _).trans (hHeld.2.2.2))⟩ (fun hHeld => ?_)
                                    clear hK K
                                    refine one_ (i := 3) (N := none) #[true, true, true, true] rfl rfl (by kernel_rfl) (by decide) (fun K hK => ?_)
                                    have hs70 : w68.cell? ⟨gb301, 0, none⟩ = some (.bool x302000_1) := (blk_cell BK301.out 0).trans rfl
                                    have hfs70 := blk_frozen BK301.out 0
                                    have hns70_0 := NB300_301.out
                                    have hns70_2 := NB303_301.out
                                    have hns70_3 := NB309_301.out
                                    have hns70_4 := NB314_301.out
                                    have hms70_0 := NB301_300.out
                                    have hms70_2 := NB301_303.out
                                    have hms70_3 := NB301_309.out
                                    have hms70_4 := NB301_314.out
                                    have hs71 : w68.cell? ⟨gb301, 1, none⟩ = some (.bool x302001_38) := (blk_cell BK301.out 1).trans rfl
                                    have hfs71 := blk_frozen BK301.out 1
                                    have hns71_0 := NB300_301.out
                                    have hns71_2 := NB303_301.out
                                    have hns71_3 := NB309_301.out
                                    have hns71_4 := NB314_301.out
                                    have hms71_0 := NB301_300.out
                                    have hms71_2 := NB301_303.out
                                    have hms71_3 := NB301_309.out
                                    have hms71_4 := NB301_314.out
                                    have hs72 : w68.cell? ⟨gb301, 2, none⟩ = some (.bool x302002_1) := (blk_cell BK301.out 2).trans rfl
                                    have hfs72 := blk_frozen BK301.out 2
                                    have hns72_0 := NB300_301.out
                                    have hns72_2 := NB303_301.out
                                    have hns72_3 := NB309_301.out
                                    have hns72_4 := NB314_301.out
                                    have hms72_0 := NB301_300.out
                                    have hms72_2 := NB301_303.out
                                    have hms72_3 := NB301_309.out
                                    have hms72_4 := NB301_314.out
                                    refine skip_ (w1 := ?_) (by rfl) rfl ?_ ?_
                                    rotate_left
                                    · go_simp
                                      rfl
                                    refine hK.out _ _ ⟨((cell_far (p := ⟨gb301, _, none⟩) NB309_301.out _).trans (((cell_far (p := ⟨gb301, _, none⟩) NB309_301.out _).trans (((cell_far (p := ⟨gb301, _, none⟩) NB309_301.out _).trans (hHeld.1)))))), ((cell_far (p := ⟨gb301, _, none⟩) NB314_301.out _).trans (((cell_far (p := ⟨gb301, _, none⟩) NB314_301.out _).trans (((cell_far (p := ⟨gb301, _, none⟩) NB314_301.out _).trans (hHeld.2.1)))))), ((cell_far (p := ⟨gb301, _, none⟩) NB314_301.out _).trans (((cell_far (p := ⟨gb301, _, none⟩) NB314_301.out _).trans (((cell_far (p := ⟨gb301, _, none⟩) NB314_301.out _).trans (hHeld.2.2.1)))))), ((cell_far (p := ⟨gb301, _, none⟩) NB314_301.out _).trans (((cell_far (p := ⟨gb301, _, none⟩) NB314_301.out _).trans (((cell_far (p := ⟨gb301, _, none⟩) NB314_301.out _).trans (hHeld.2.2.2))))))⟩ (fun hHeld => ?_)
                                    clear hK K
                                    refine done_ (by kernel_rfl) ?_
                                    try go_wp2
                                    go_roundg kj38
                                    case measure => have := HK1.out; have := HJ16.out; have := HJ38.out; omega
                                    case rel => (try rw [show (Value.bool true) = Value.bool t310 by rw [e310]]); exact ⟨(wrap64 (x21_1 + 1)), (t304), (t310), (t311), (t312), (by first | rfl | (simp; done) | (simp [*]; done)), H', ⟨by have := HK1.out; have := HJ16.out; have := HJ38.out; omega⟩, ⟨by (with_reducible repeat (first | refine blk_drewN ?_ _ | refine blk_drew ?_ | refine blk_alloc ?_ _)); refine blk_far ?_ NB300_301.out _; (with_reducible repeat (first | refine blk_drewN ?_ _ | refine blk_drew ?_ | refine blk_alloc ?_ _)); refine blk_far ?_ NB300_301.out _; (with_reducible repeat (first | refine blk_drewN ?_ _ | refine blk_drew ?_ | refine blk_alloc ?_ _)); refine blk_far ?_ NB300_301.out _; (with_reducible repeat (first | refine blk_drewN ?_ _ | refine blk_drew ?_ | refine blk_alloc ?_ _)); refine blk_put (cs := #[.int .i64 x301000_1]) ?_ 0 _ rfl; (with_reducible repeat (first | refine blk_drewN ?_ _ | refine blk_drew ?_ | refine blk_alloc ?_ _)); exact BK300.out⟩, ⟨by (with_reducible repeat (first | refine blk_drewN ?_ _ | refine blk_drew ?_ | refine blk_alloc ?_ _)); refine blk_put (cs := #[.bool t310, .bool t311, .bool x302002_1]) ?_ 2 _ rfl; (with_reducible repeat (first | refine blk_drewN ?_ _ | refine blk_drew ?_ | refine blk_alloc ?_ _)); refine blk_put (cs := #[.bool t310, .bool x302001_38, .bool x302002_1]) ?_ 1 _ rfl; (with_reducible repeat (first | refine blk_drewN ?_ _ | refine blk_drew ?_ | refine blk_alloc ?_ _)); refine blk_put (cs := #[.bool x302000_1, .bool x302001_38, .bool x302002_1]) ?_ 0 _ rfl; (with_reducible repeat (first | refine blk_drewN ?_ _ | refine blk_drew ?_ | refine blk_alloc ?_ _)); refine blk_far ?_ NB301_300.out _; (with_reducible repeat (first | refine blk_drewN ?_ _ | refine blk_drew ?_ | refine blk_alloc ?_ _)); exact BK301.out⟩, ⟨by repeat (first | (with_reducible first | exact HB.out | apply below_alloc | apply pw_below_drewN | apply below_drew1 | refine below_set ?_ GE300.out | refine below_set ?_ GE301.out | refine below_set ?_ GE303.out | refine below_set ?_ GE309.out | refine below_set ?_ GE314.out) | exact HB.out)⟩⟩
                              · rw [if_neg c49] at H
                                have c49b0 : (t304 == 1) = false := beq_eq_false_iff_ne.mpr c49
                                have c49b1 : (t304 != 1) = true := bne_iff_ne.mpr c49
                                by_cases c73 : (t311 != (t304 == 3)) = true
                                · rw [if_pos c73] at H
                                  exact absurd H (by simp)
                                · rw [if_neg c73] at H
                                  have c73b0 : (t311 != (t304 == 3)) = false := by simpa using c73
                                  (try (have c73b1 : decide (t311 = (t304 == 3)) = true := by simpa using c73))
                                  (try (have c73b2 : (t311 == (t304 == 3)) = true := by simpa using c73))
                                  clear c73
                                  by_cases c74 : (t312 != (t304 == 4)) = true
                                  · rw [if_pos c74] at H
                                    exact absurd H (by simp)
                                  · rw [if_neg c74] at H
                                    have c74b0 : (t312 != (t304 == 4)) = false := by simpa using c74
                                    (try (have c74b1 : decide (t312 = (t304 == 4)) = true := by simpa using c74))
                                    (try (have c74b2 : (t312 == (t304 == 4)) = true := by simpa using c74))
                                    clear c74
                                    have H' := Aside0.mk H
                                    clear H
                                    have hnb75 := NB301_300.out
                                    have hnc75 := NB300_301.out
                                    have hnb76 := NB301_303.out
                                    have hnc76 := NB303_301.out
                                    have hnb77 := NB301_309.out
                                    have hnc77 := NB309_301.out
                                    have hcz78_0 : wc.cell? ⟨gb301, 0, none⟩ = some (.bool x302000_1) := (blk_cell BK301.out 0).trans rfl
                                    have hcz78_1 : wc.cell? ⟨gb301, 1, none⟩ = some (.bool x302001_38) := (blk_cell BK301.out 1).trans rfl
                                    have hcz78_2 : wc.cell? ⟨gb301, 2, none⟩ = some (.bool x302002_1) := (blk_cell BK301.out 2).trans rfl
                                    have hfz78_0 := blk_frozen BK301.out 0
                                    have hfz78_1 := blk_frozen BK301.out 1
                                    have hfz78_2 := blk_frozen BK301.out 2
                                    obtain ⟨Ao79, co79, eo79⟩ := Kd.R_slice HO_8.out
                                    subst eo79
                                    try go_wp2_with (first | ((with_reducible refine gate_callee (f := 20) rfl ?_); refine goesL_ (some 57) rfl rfl Tryd.func20 (by kernel_rfl) rfl #[.agg #[.bool x302000_1, .bool x302001_38, .bool x302002_1], .slice Ao79 t305.length co79] rfl (by (try simp only [List.map_toArray, List.map_cons, List.map_nil]); first | done | rfl | (simp only [List.length_drop, List.length_take]; rfl)) ?_; (with_reducible refine (crossbarlaw17_shown.calls kj38 x302000_1 x302001_38 x302002_1 _ _ t305 t310 t311 t312 true _ ?side1 ?side2 A46.out).mono ?_); (case side1 => repeat (first | exact (Kd.R_reads' HO_8.out).2.2 | (with_reducible refine Kd.C_alloc ?_ _) | (with_reducible refine Kd.C_drewN ?_ _) | (with_reducible refine Kd.C_drew ?_))); (case side2 => exact (Kd.R_reads' HO_8.out).2.1); rintro e w80 ⟨rfl, hb⟩; refine ⟨_, rfl, ?_⟩; have n0_ := Aside0.mk (Kd.R_below (by (with_reducible repeat (first | apply Kd.R_alloc | apply Kd.R_drewN | apply Kd.R_drew)); exact HO_8.out) hb); have n1_ := Aside0.mk (blk_below (g := gb300) (o := .cells #[.int .i64 x301000_1] 23 (0, 0)) (by (with_reducible repeat (first | refine blk_drewN ?_ _ | refine blk_drew ?_ | refine blk_alloc ?_ _)); exact BK300.out) hb); have n2_ := Aside0.mk (blk_below (g := gb301) (o := .cells #[.bool x302000_1, .bool x302001_38, .bool x302002_1] 40 (0, 0)) (by (with_reducible repeat (first | refine blk_drewN ?_ _ | refine blk_drew ?_ | refine blk_alloc ?_ _)); exact BK301.out) hb); have n3_ := Aside0.mk (blk_below (g := gb303) (o := .cells #[.int .i64 ((rd_T25 l0 x21_1).f0), .int .i64 ((rd_T25 l0 x21_1).f1), .int .u8 ((rd_T25 l0 x21_1).f2)] 25 (0, 0)) (by (with_reducible repeat (first | refine blk_drewN ?_ _ | refine blk_drew ?_ | refine blk_alloc ?_ _)); exact BK303.out) hb); have n4_ := Aside0.mk (blk_below (g := gb309) (o := .cells #[.int .i64 t304] 23 (0, 0)) (by (with_reducible repeat (first | refine blk_drewN ?_ _ | refine blk_drew ?_ | refine blk_alloc ?_ _)); exact BK309.out) hb); have n5_ := Aside0.mk (below_step (by repeat (first | (with_reducible first | exact HB.out | apply below_alloc | apply pw_below_drewN | apply below_drew1 | refine below_set ?_ GE300.out | refine below_set ?_ GE301.out | refine below_set ?_ GE303.out | refine below_set ?_ GE309.out) | exact HB.out)) hb); clear HO_8; clear BK300; clear BK301; clear BK303; clear BK309; clear HB; have HO_8 := n0_; have BK300 := n1_; have BK301 := n2_; have BK303 := n3_; have BK309 := n4_; have HB := n5_; clear n0_ n1_ n2_ n3_ n4_ n5_; (try clear hb); (try clear hb2); (try clear hk); (try clear hi)) | ((with_reducible refine gate_dst (N := 10) rfl ?_); (try (refine gate_guard (by rfl) ?_; dsimp only)); refine box_event ?hg (N := 10) ?hd (cs := #[.bool false, .bool false, .bool false]) (t := 40) ?hr ?_; (case hd => rfl); (case hg => rfl); (case hr => first | (go_simp; done) | (go_simp; rfl)); intro gb314 hg w81 hbox hb; have n0_ := Aside0.mk (Kd.R_below (by (with_reducible repeat (first | apply Kd.R_alloc | apply Kd.R_drewN | apply Kd.R_drew)); exact HO_8.out) hb); have n1_ := Aside0.mk (blk_below (g := gb300) (o := .cells #[.int .i64 x301000_1] 23 (0, 0)) (by (with_reducible repeat (first | refine blk_drewN ?_ _ | refine blk_drew ?_ | refine blk_alloc ?_ _)); exact BK300.out) hb); have n2_ := Aside0.mk (blk_below (g := gb301) (o := .cells #[.bool x302000_1, .bool x302001_38, .bool x302002_1] 40 (0, 0)) (by (with_reducible repeat (first | refine blk_drewN ?_ _ | refine blk_drew ?_ | refine blk_alloc ?_ _)); exact BK301.out) hb); have n3_ := Aside0.mk (blk_below (g := gb303) (o := .cells #[.int .i64 ((rd_T25 l0 x21_1).f0), .int .i64 ((rd_T25 l0 x21_1).f1), .int .u8 ((rd_T25 l0 x21_1).f2)] 25 (0, 0)) (by (with_reducible repeat (first | refine blk_drewN ?_ _ | refine blk_drew ?_ | refine blk_alloc ?_ _)); exact BK303.out) hb); have n4_ := Aside0.mk (blk_below (g := gb309) (o := .cells #[.int .i64 t304] 23 (0, 0)) (by (with_reducible repeat (first | refine blk_drewN ?_ _ | refine blk_drew ?_ | refine blk_alloc ?_ _)); exact BK309.out) hb); have n5_ := Aside0.mk (below_step (by repeat (first | (with_reducible first | exact HB.out | apply below_alloc | apply pw_below_drewN | apply below_drew1 | refine below_set ?_ GE300.out | refine below_set ?_ GE301.out | refine below_set ?_ GE303.out | refine below_set ?_ GE309.out) | exact HB.out)) hb); have n6_ := Aside0.mk (hbox); have n7_ := Aside0.mk ((by rw [hg]; exact (below_size (by repeat (first | (with_reducible first | exact HB.out | apply below_alloc | apply pw_below_drewN | apply below_drew1 | refine below_set ?_ GE300.out | refine below_set ?_ GE301.out | refine below_set ?_ GE303.out | refine below_set ?_ GE309.out) | exact HB.out))) : w.heap.size ≤ gb314)); have n8_ := Aside0.mk ((by rw [hg]; exact (below_size (by repeat (first | (with_reducible first | exact HB.out | apply below_alloc | apply pw_below_drewN | apply below_drew1 | refine below_set ?_ GE300.out | refine below_set ?_ GE301.out | refine below_set ?_ GE303.out | refine below_set ?_ GE309.out) | exact HB.out))) : w.heap.size ≤ gb314)); have n9_ := Aside0.mk ((by rw [hg]; exact Nat.ne_of_lt (blk_lt (g := gb300) (o := .cells #[.int .i64 x301000_1] 23 (0, 0)) (by (with_reducible repeat (first | refine blk_drewN ?_ _ | refine blk_drew ?_ | refine blk_alloc ?_ _)); exact BK300.out)) : gb300 ≠ gb314)); have n10_ := Aside0.mk ((by rw [hg]; exact Nat.ne_of_gt (blk_lt (g := gb300) (o := .cells #[.int .i64 x301000_1] 23 (0, 0)) (by (with_reducible repeat (first | refine blk_drewN ?_ _ | refine blk_drew ?_ | refine blk_alloc ?_ _)); exact BK300.out)) : gb314 ≠ gb300)); have n11_ := Aside0.mk ((by rw [hg]; exact Nat.ne_of_lt (blk_lt (g := gb301) (o := .cells #[.bool x302000_1, .bool x302001_38, .bool x302002_1] 40 (0, 0)) (by (with_reducible repeat (first | refine blk_drewN ?_ _ | refine blk_drew ?_ | refine blk_alloc ?_ _)); exact BK301.out)) : gb301 ≠ gb314)); have n12_ := Aside0.mk ((by rw [hg]; exact Nat.ne_of_gt (blk_lt (g := gb301) (o := .cells #[.bool x302000_1, .bool x302001_38, .bool x302002_1] 40 (0, 0)) (by (with_reducible repeat (first | refine blk_drewN ?_ _ | refine blk_drew ?_ | refine blk_alloc ?_ _)); exact BK301.out)) : gb314 ≠ gb301)); have n13_ := Aside0.mk ((by rw [hg]; exact Nat.ne_of_lt (blk_lt (g := gb303) (o := .cells #[.int .i64 ((rd_T25 l0 x21_1).f0), .int .i64 ((rd_T25 l0 x21_1).f1), .int .u8 ((rd_T25 l0 x21_1).f2)] 25 (0, 0)) (by (with_reducible repeat (first | refine blk_drewN ?_ _ | refine blk_drew ?_ | refine blk_alloc ?_ _)); exact BK303.out)) : gb303 ≠ gb314)); have n14_ := Aside0.mk ((by rw [hg]; exact Nat.ne_of_gt (blk_lt (g := gb303) (o := .cells #[.int .i64 ((rd_T25 l0 x21_1).f0), .int .i64 ((rd_T25 l0 x21_1).f1), .int .u8 ((rd_T25 l0 x21_1).f2)] 25 (0, 0)) (by (with_reducible repeat (first | refine blk_drewN ?_ _ | refine blk_drew ?_ | refine blk_alloc ?_ _)); exact BK303.out)) : gb314 ≠ gb303)); have n15_ := Aside0.mk ((by rw [hg]; exact Nat.ne_of_lt (blk_lt (g := gb309) (o := .cells #[.int .i64 t304] 23 (0, 0)) (by (with_reducible repeat (first | refine blk_drewN ?_ _ | refine blk_drew ?_ | refine blk_alloc ?_ _)); exact BK309.out)) : gb309 ≠ gb314)); have n16_ := Aside0.mk ((by rw [hg]; exact Nat.ne_of_gt (blk_lt (g := gb309) (o := .cells #[.int .i64 t304] 23 (0, 0)) (by (with_reducible repeat (first | refine blk_drewN ?_ _ | refine blk_drew ?_ | refine blk_alloc ?_ _)); exact BK309.out)) : gb314 ≠ gb309)); clear HO_8; clear BK300; clear BK301; clear BK303; clear BK309; clear HB; have HO_8 := n0_; have BK300 := n1_; have BK301 := n2_; have BK303 := n3_; have BK309 := n4_; have HB := n5_; have BK314 := n6_; have GW314 := n7_; have GE314 := n8_; have NB300_314 := n9_; have NB314_300 := n10_; have NB301_314 := n11_; have NB314_301 := n12_; have NB303_314 := n13_; have NB314_303 := n14_; have NB309_314 := n15_; have NB314_309 := n16_; clear n0_ n1_ n2_ n3_ n4_ n5_ n6_ n7_ n8_ n9_ n10_ n11_ n12_ n13_ n14_ n15_ n16_; clear hb hbox hg; have hnb82 := NB314_300.out; have hnc82 := NB300_314.out; have hnb83 := NB314_301.out; have hnc83 := NB301_314.out; have hnb84 := NB314_303.out; have hnc84 := NB303_314.out; have hnb85 := NB314_309.out; have hnc85 := NB309_314.out; have hcz86_0 : w81.cell? ⟨gb314, 0, none⟩ = some (.bool false) := (blk_cell BK314.out 0).trans rfl; have hcz86_1 : w81.cell? ⟨gb314, 1, none⟩ = some (.bool false) := (blk_cell BK314.out 1).trans rfl; have hcz86_2 : w81.cell? ⟨gb314, 2, none⟩ = some (.bool false) := (blk_cell BK314.out 2).trans rfl; have hfz86_0 := blk_frozen BK314.out 0; have hfz86_1 := blk_frozen BK314.out 1; have hfz86_2 := blk_frozen BK314.out 2; have hnb87 := NB309_300.out; have hnc87 := NB300_309.out; have hnb88 := NB309_303.out; have hnc88 := NB303_309.out; have hcz89_0 : w81.cell? ⟨gb309, 0, none⟩ = some (.int .i64 t304) := (blk_cell BK309.out 0).trans rfl; have hfz89_0 := blk_frozen BK309.out 0))
                                    any_goals (first | (exfalso; exact absurd (show t310 = false by simpa [c49b0] using c48b2) (by first | assumption | (rw [Bool.not_eq_false]; assumption))) | skip)
                                    have e310 : t310 = false := by simpa [c49b0] using c48b2
                                    have hw_ : (((w81.setCell ⟨gb314, 0, none⟩ (.bool false)).setCell ⟨gb314, 1, none⟩ (.bool t311)).setCell ⟨gb314, 2, none⟩ (.bool t312)) = (((w81.setCell ⟨gb314, 0, none⟩ (.bool t310)).setCell ⟨gb314, 1, none⟩ (.bool t311)).setCell ⟨gb314, 2, none⟩ (.bool t312)) := by rw [e310]
                                    (try rw [hw_])
                                    have n0_ : Aside0 (Kd.R k46 46 (((w81.setCell ⟨gb314, 0, none⟩ (.bool t310)).setCell ⟨gb314, 1, none⟩ (.bool t311)).setCell ⟨gb314, 2, none⟩ (.bool t312)) w.heap.size (fun _ => True) (.slice Ao79 t305.length co79) t305) := ⟨by (with_reducible repeat (first | apply Kd.R_alloc | apply Kd.R_drewN | apply Kd.R_drew)); exact Kd.R_mono (Kd.R_far (p := ⟨gb314, 2, none⟩) (Kd.R_far (p := ⟨gb314, 1, none⟩) (Kd.R_far (p := ⟨gb314, 0, none⟩) (Kd.R_types HO_8.out BK314.out (by decide)) (fun _ hk => hk.2) (.bool t310)) (fun _ hk => hk.2) (.bool t311)) (fun _ hk => hk.2) (.bool t312)) (fun _ hk => trivial)⟩
                                    have n1_ : Aside0 ((((w81.setCell ⟨gb314, 0, none⟩ (.bool t310)).setCell ⟨gb314, 1, none⟩ (.bool t311)).setCell ⟨gb314, 2, none⟩ (.bool t312)).heap[gb300]? = some (.cells #[.int .i64 x301000_1] 23 (0, 0))) := ⟨by (with_reducible repeat (first | refine blk_drewN ?_ _ | refine blk_drew ?_ | refine blk_alloc ?_ _)); refine blk_far ?_ NB300_314.out _; (with_reducible repeat (first | refine blk_drewN ?_ _ | refine blk_drew ?_ | refine blk_alloc ?_ _)); refine blk_far ?_ NB300_314.out _; (with_reducible repeat (first | refine blk_drewN ?_ _ | refine blk_drew ?_ | refine blk_alloc ?_ _)); refine blk_far ?_ NB300_314.out _; (with_reducible repeat (first | refine blk_drewN ?_ _ | refine blk_drew ?_ | refine blk_alloc ?_ _)); exact BK300.out⟩
                                    have n2_ : Aside0 ((((w81.setCell ⟨gb314, 0, none⟩ (.bool t310)).setCell ⟨gb314, 1, none⟩ (.bool t311)).setCell ⟨gb314, 2, none⟩ (.bool t312)).heap[gb301]? = some (.cells #[.bool x302000_1, .bool x302001_38, .bool x302002_1] 40 (0, 0))) := ⟨by (with_reducible repeat (first | refine blk_drewN ?_ _ | refine blk_drew ?_ | refine blk_alloc ?_ _)); refine blk_far ?_ NB301_314.out _; (with_reducible repeat (first | refine blk_drewN ?_ _ | refine blk_drew ?_ | refine blk_alloc ?_ _)); refine blk_far ?_ NB301_314.out _; (with_reducible repeat (first | refine blk_drewN ?_ _ | refine blk_drew ?_ | refine blk_alloc ?_ _)); refine blk_far ?_ NB301_314.out _; (with_reducible repeat (first | refine blk_drewN ?_ _ | refine blk_drew ?_ | refine blk_alloc ?_ _)); exact BK301.out⟩
                                    have n3_ : Aside0 ((((w81.setCell ⟨gb314, 0, none⟩ (.bool t310)).setCell ⟨gb314, 1, none⟩ (.bool t311)).setCell ⟨gb314, 2, none⟩ (.bool t312)).heap[gb303]? = some (.cells #[.int .i64 ((rd_T25 l0 x21_1).f0), .int .i64 ((rd_T25 l0 x21_1).f1), .int .u8 ((rd_T25 l0 x21_1).f2)] 25 (0, 0))) := ⟨by (with_reducible repeat (first | refine blk_drewN ?_ _ | refine blk_drew ?_ | refine blk_alloc ?_ _)); refine blk_far ?_ NB303_314.out _; (with_reducible repeat (first | refine blk_drewN ?_ _ | refine blk_drew ?_ | refine blk_alloc ?_ _)); refine blk_far ?_ NB303_314.out _; (with_reducible repeat (first | refine blk_drewN ?_ _ | refine blk_drew ?_ | refine blk_alloc ?_ _)); refine blk_far ?_ NB303_314.out _; (with_reducible repeat (first | refine blk_drewN ?_ _ | refine blk_drew ?_ | refine blk_alloc ?_ _)); exact BK303.out⟩
                                    have n4_ : Aside0 ((((w81.setCell ⟨gb314, 0, none⟩ (.bool t310)).setCell ⟨gb314, 1, none⟩ (.bool t311)).setCell ⟨gb314, 2, none⟩ (.bool t312)).heap[gb309]? = some (.cells #[.int .i64 t304] 23 (0, 0))) := ⟨by (with_reducible repeat (first | refine blk_drewN ?_ _ | refine blk_drew ?_ | refine blk_alloc ?_ _)); refine blk_far ?_ NB309_314.out _; (with_reducible repeat (first | refine blk_drewN ?_ _ | refine blk_drew ?_ | refine blk_alloc ?_ _)); refine blk_far ?_ NB309_314.out _; (with_reducible repeat (first | refine blk_drewN ?_ _ | refine blk_drew ?_ | refine blk_alloc ?_ _)); refine blk_far ?_ NB309_314.out _; (with_reducible repeat (first | refine blk_drewN ?_ _ | refine blk_drew ?_ | refine blk_alloc ?_ _)); exact BK309.out⟩
                                    have n5_ : Aside0 ((((w81.setCell ⟨gb314, 0, none⟩ (.bool t310)).setCell ⟨gb314, 1, none⟩ (.bool t311)).setCell ⟨gb314, 2, none⟩ (.bool t312)).heap[gb314]? = some (.cells #[.bool t310, .bool t311, .bool t312] 40 (0, 0))) := ⟨by (with_reducible repeat (first | refine blk_drewN ?_ _ | refine blk_drew ?_ | refine blk_alloc ?_ _)); refine blk_put (cs := #[.bool t310, .bool t311, .bool false]) ?_ 2 _ rfl; (with_reducible repeat (first | refine blk_drewN ?_ _ | refine blk_drew ?_ | refine blk_alloc ?_ _)); refine blk_put (cs := #[.bool t310, .bool false, .bool false]) ?_ 1 _ rfl; (with_reducible repeat (first | refine blk_drewN ?_ _ | refine blk_drew ?_ | refine blk_alloc ?_ _)); refine blk_put (cs := #[.bool false, .bool false, .bool false]) ?_ 0 _ rfl; (with_reducible repeat (first | refine blk_drewN ?_ _ | refine blk_drew ?_ | refine blk_alloc ?_ _)); exact BK314.out⟩
                                    have n6_ : Aside0 (Below w.heap.size w (((w81.setCell ⟨gb314, 0, none⟩ (.bool t310)).setCell ⟨gb314, 1, none⟩ (.bool t311)).setCell ⟨gb314, 2, none⟩ (.bool t312))) := ⟨by repeat (first | (with_reducible first | exact HB.out | apply below_alloc | apply pw_below_drewN | apply below_drew1 | refine below_set ?_ GE300.out | refine below_set ?_ GE301.out | refine below_set ?_ GE303.out | refine below_set ?_ GE309.out | refine below_set ?_ GE314.out) | exact HB.out)⟩
                                    (try clear HO_8)
                                    (try clear BK300)
                                    (try clear BK301)
                                    (try clear BK303)
                                    (try clear BK309)
                                    (try clear BK314)
                                    (try clear HB)
                                    generalize (((w81.setCell ⟨gb314, 0, none⟩ (.bool t310)).setCell ⟨gb314, 1, none⟩ (.bool t311)).setCell ⟨gb314, 2, none⟩ (.bool t312)) = w90 at n0_ n1_ n2_ n3_ n4_ n5_ n6_ ⊢
                                    have HO_8 := n0_
                                    have BK300 := n1_
                                    have BK301 := n2_
                                    have BK303 := n3_
                                    have BK309 := n4_
                                    have BK314 := n5_
                                    have HB := n6_
                                    clear n0_ n1_ n2_ n3_ n4_ n5_ n6_
                                    have n0_ := Aside0.mk (Kd.R_drew HO_8.out)
                                    have n1_ := Aside0.mk (blk_drew BK300.out)
                                    have n2_ := Aside0.mk (blk_drew BK301.out)
                                    have n3_ := Aside0.mk (blk_drew BK303.out)
                                    have n4_ := Aside0.mk (blk_drew BK309.out)
                                    have n5_ := Aside0.mk (blk_drew BK314.out)
                                    have n6_ := Aside0.mk (below_drew1 HB.out)
                                    clear HO_8
                                    clear BK300
                                    clear BK301
                                    clear BK303
                                    clear BK309
                                    clear BK314
                                    clear HB
                                    have HO_8 := n0_
                                    have BK300 := n1_
                                    have BK301 := n2_
                                    have BK303 := n3_
                                    have BK309 := n4_
                                    have BK314 := n5_
                                    have HB := n6_
                                    clear n0_ n1_ n2_ n3_ n4_ n5_ n6_
                                    refine start_ (n := 4) (S := fun w' => w'.cell? ⟨gb309, 0, none⟩ = some (.int .i64 t304) ∧ w'.cell? ⟨gb314, 0, none⟩ = some (.bool t310) ∧ w'.cell? ⟨gb314, 1, none⟩ = some (.bool t311) ∧ w'.cell? ⟨gb314, 2, none⟩ = some (.bool t312)) (ds := []) #[false, false, false, false] (by kernel_rfl) rfl rfl ⟨(blk_cell BK309.out 0).trans rfl, (blk_cell BK314.out 0).trans rfl, (blk_cell BK314.out 1).trans rfl, (blk_cell BK314.out 2).trans rfl⟩ (fun hHeld => ?_)
                                    generalize w90.drew = w91 at HO_8 BK300 BK301 BK303 BK309 BK314 HB hHeld ⊢
                                    refine take_ (i := 0) (N := some 91) (v := ?_) (a' := ?_) #[true, false, false, false] rfl rfl (by kernel_rfl) (fun _ _ _ h => h) (Or.inl ⟨by rfl, ?_⟩) hHeld ?_ ?_
                                    rotate_left
                                    · rintro w' ⟨s0, s1, s2, s3⟩
                                      go_simp
                                      with_reducible rfl
                                    rotate_left
                                    · simp only [Act.put, List.setIfInBounds_toArray, List.set_cons_zero, List.set_cons_succ, i64_w, i32_w]
                                      rfl
                                    refine take_ (i := 1) (N := some 92) (v := ?_) (a' := ?_) #[true, true, false, false] rfl rfl (by kernel_rfl) (fun _ _ _ h => h) (Or.inl ⟨by rfl, ?_⟩) hHeld ?_ ?_
                                    rotate_left
                                    · rintro w' ⟨s0, s1, s2, s3⟩
                                      go_simp
                                      with_reducible rfl
                                    rotate_left
                                    · simp only [Act.put, List.setIfInBounds_toArray, List.set_cons_zero, List.set_cons_succ, i64_w, i32_w]
                                      rfl
                                    refine one_ (i := 2) (N := none) #[true, true, true, false] rfl rfl (by kernel_rfl) (by decide) (fun K hK => ?_)
                                    have hs92 : w91.cell? ⟨gb300, 0, none⟩ = some (.int .i64 x301000_1) := (blk_cell BK300.out 0).trans rfl
                                    have hfs92 := blk_frozen BK300.out 0
                                    have hns92_1 := NB301_300.out
                                    have hns92_2 := NB303_300.out
                                    have hns92_3 := NB309_300.out
                                    have hns92_4 := NB314_300.out
                                    have hms92_1 := NB300_301.out
                                    have hms92_2 := NB300_303.out
                                    have hms92_3 := NB300_309.out
                                    have hms92_4 := NB300_314.out
                                    refine skip_ (w1 := ?_) (by rfl) rfl ?_ ?_
                                    rotate_left
                                    · go_simp
                                      rfl
                                    refine hK.out _ _ ⟨((cell_far (p := ⟨gb300, _, none⟩) NB309_300.out _).trans (hHeld.1)), ((cell_far (p := ⟨gb300, _, none⟩) NB314_300.out _).trans (hHeld.2.1)), ((cell_far (p := ⟨gb300, _, none⟩) NB314_300.out _).trans (hHeld.2.2.1)), ((cell_far (p := ⟨gb300, _, none⟩) NB314_300.out _).trans (hHeld.2.2.2))⟩ (fun hHeld => ?_)
                                    clear hK K
                                    refine one_ (i := 3) (N := none) #[true, true, true, true] rfl rfl (by kernel_rfl) (by decide) (fun K hK => ?_)
                                    have hs93 : w91.cell? ⟨gb301, 0, none⟩ = some (.bool x302000_1) := (blk_cell BK301.out 0).trans rfl
                                    have hfs93 := blk_frozen BK301.out 0
                                    have hns93_0 := NB300_301.out
                                    have hns93_2 := NB303_301.out
                                    have hns93_3 := NB309_301.out
                                    have hns93_4 := NB314_301.out
                                    have hms93_0 := NB301_300.out
                                    have hms93_2 := NB301_303.out
                                    have hms93_3 := NB301_309.out
                                    have hms93_4 := NB301_314.out
                                    have hs94 : w91.cell? ⟨gb301, 1, none⟩ = some (.bool x302001_38) := (blk_cell BK301.out 1).trans rfl
                                    have hfs94 := blk_frozen BK301.out 1
                                    have hns94_0 := NB300_301.out
                                    have hns94_2 := NB303_301.out
                                    have hns94_3 := NB309_301.out
                                    have hns94_4 := NB314_301.out
                                    have hms94_0 := NB301_300.out
                                    have hms94_2 := NB301_303.out
                                    have hms94_3 := NB301_309.out
                                    have hms94_4 := NB301_314.out
                                    have hs95 : w91.cell? ⟨gb301, 2, none⟩ = some (.bool x302002_1) := (blk_cell BK301.out 2).trans rfl
                                    have hfs95 := blk_frozen BK301.out 2
                                    have hns95_0 := NB300_301.out
                                    have hns95_2 := NB303_301.out
                                    have hns95_3 := NB309_301.out
                                    have hns95_4 := NB314_301.out
                                    have hms95_0 := NB301_300.out
                                    have hms95_2 := NB301_303.out
                                    have hms95_3 := NB301_309.out
                                    have hms95_4 := NB301_314.out
                                    refine skip_ (w1 := ?_) (by rfl) rfl ?_ ?_
                                    rotate_left
                                    · go_simp
                                      rfl
                                    refine hK.out _ _ ⟨((cell_far (p := ⟨gb301, _, none⟩) NB309_301.out _).trans (((cell_far (p := ⟨gb301, _, none⟩) NB309_301.out _).trans (((cell_far (p := ⟨gb301, _, none⟩) NB309_301.out _).trans (hHeld.1)))))), ((cell_far (p := ⟨gb301, _, none⟩) NB314_301.out _).trans (((cell_far (p := ⟨gb301, _, none⟩) NB314_301.out _).trans (((cell_far (p := ⟨gb301, _, none⟩) NB314_301.out _).trans (hHeld.2.1)))))), ((cell_far (p := ⟨gb301, _, none⟩) NB314_301.out _).trans (((cell_far (p := ⟨gb301, _, none⟩) NB314_301.out _).trans (((cell_far (p := ⟨gb301, _, none⟩) NB314_301.out _).trans (hHeld.2.2.1)))))), ((cell_far (p := ⟨gb301, _, none⟩) NB314_301.out _).trans (((cell_far (p := ⟨gb301, _, none⟩) NB314_301.out _).trans (((cell_far (p := ⟨gb301, _, none⟩) NB314_301.out _).trans (hHeld.2.2.2))))))⟩ (fun hHeld => ?_)
                                    clear hK K
                                    refine done_ (by kernel_rfl) ?_
                                    try go_wp2
                                    go_roundg kj38
                                    case measure => have := HK1.out; have := HJ16.out; have := HJ38.out; omega
                                    case rel => (try rw [show (Value.bool false) = Value.bool t310 by rw [e310]]); exact ⟨(wrap64 (x21_1 + 1)), (t304), (t310), (t311), (t312), (by first | rfl | (simp; done) | (simp [*]; done)), H', ⟨by have := HK1.out; have := HJ16.out; have := HJ38.out; omega⟩, ⟨by (with_reducible repeat (first | refine blk_drewN ?_ _ | refine blk_drew ?_ | refine blk_alloc ?_ _)); refine blk_far ?_ NB300_301.out _; (with_reducible repeat (first | refine blk_drewN ?_ _ | refine blk_drew ?_ | refine blk_alloc ?_ _)); refine blk_far ?_ NB300_301.out _; (with_reducible repeat (first | refine blk_drewN ?_ _ | refine blk_drew ?_ | refine blk_alloc ?_ _)); refine blk_far ?_ NB300_301.out _; (with_reducible repeat (first | refine blk_drewN ?_ _ | refine blk_drew ?_ | refine blk_alloc ?_ _)); refine blk_put (cs := #[.int .i64 x301000_1]) ?_ 0 _ rfl; (with_reducible repeat (first | refine blk_drewN ?_ _ | refine blk_drew ?_ | refine blk_alloc ?_ _)); exact BK300.out⟩, ⟨by (with_reducible repeat (first | refine blk_drewN ?_ _ | refine blk_drew ?_ | refine blk_alloc ?_ _)); refine blk_put (cs := #[.bool t310, .bool t311, .bool x302002_1]) ?_ 2 _ rfl; (with_reducible repeat (first | refine blk_drewN ?_ _ | refine blk_drew ?_ | refine blk_alloc ?_ _)); refine blk_put (cs := #[.bool t310, .bool x302001_38, .bool x302002_1]) ?_ 1 _ rfl; (with_reducible repeat (first | refine blk_drewN ?_ _ | refine blk_drew ?_ | refine blk_alloc ?_ _)); refine blk_put (cs := #[.bool x302000_1, .bool x302001_38, .bool x302002_1]) ?_ 0 _ rfl; (with_reducible repeat (first | refine blk_drewN ?_ _ | refine blk_drew ?_ | refine blk_alloc ?_ _)); refine blk_far ?_ NB301_300.out _; (with_reducible repeat (first | refine blk_drewN ?_ _ | refine blk_drew ?_ | refine blk_alloc ?_ _)); exact BK301.out⟩, ⟨by repeat (first | (with_reducible first | exact HB.out | apply below_alloc | apply pw_below_drewN | apply below_drew1 | refine below_set ?_ GE300.out | refine below_set ?_ GE301.out | refine below_set ?_ GE303.out | refine below_set ?_ GE309.out | refine below_set ?_ GE314.out) | exact HB.out)⟩⟩
                          · replace c47 := Bool.eq_false_iff.mpr c47
                            subst c47
                            have H1 : (none) = some r := by rw [if_neg (show ¬ (false = true) by decide)] at H; exact H
                            clear H
                            have H := H1
                            clear H1
                            exact absurd H (by simp)
                · rw [if_neg c16] at H
                  have c16b0 : (t308 == 0) = false := beq_eq_false_iff_ne.mpr c16
                  have c16b1 : (t308 != 0) = true := bne_iff_ne.mpr c16
                  by_cases c96 : (!(t304 == 0)) = true
                  · rw [if_pos c96] at H
                    exact absurd H (by simp)
                  · rw [if_neg c96] at H
                    have c96b0 : (!(t304 == 0)) = false := by simpa using c96
                    clear c96
                    by_cases c97 : (t305.length : Int) = 0
                    · rw [if_pos c97] at H
                      have c97b0 : ((t305.length : Int) == 0) = true := beq_iff_eq.mpr c97
                      have c97b1 : ((t305.length : Int) != 0) = false := bne_eq_false_iff_eq.mpr c97
                      clear c97
                      have H' := Aside0.mk H
                      clear H
                      have p302 : 0 ≤ (x21_1 : Int) := of_decide_eq_true (by first | (with_reducible assumption) | assumption)
                      have q302 : x21_1 < (l0.length : Int) := of_decide_eq_true (by first | (with_reducible assumption) | assumption)
                      obtain ⟨ad302, e302, hx302_0, hx302_1, hx302_2⟩ := at_T25 HR0.out x21_1 p302 q302
                      cases e302
                      replace hx302_0 := (HB.out.cell (World.block_lt_of_cell? w _ hx302_0)).trans hx302_0
                      replace hx302_1 := (HB.out.cell (World.block_lt_of_cell? w _ hx302_1)).trans hx302_1
                      replace hx302_2 := (HB.out.cell (World.block_lt_of_cell? w _ hx302_2)).trans hx302_2
                      replace p302 := eq_true p302
                      replace q302 := eq_true q302
                      go_wp2_with (first | ((with_reducible refine gate_dst (N := 6) rfl ?_); (try (refine gate_guard (by rfl) ?_; dsimp only)); refine box_event ?hg (N := 6) ?hd (cs := #[.int .i64 0, .int .i64 0, .int .u8 0]) (t := 25) ?hr ?_; (case hd => rfl); (case hg => rfl); (case hr => first | (go_simp; done) | (go_simp; rfl)); intro gb303 hg w98 hbox hb; have n0_ := Aside0.mk (blk_below (g := gb300) (o := .cells #[.int .i64 x301000_1] 23 (0, 0)) (by (with_reducible repeat (first | refine blk_drewN ?_ _ | refine blk_drew ?_ | refine blk_alloc ?_ _)); exact BK300.out) hb); have n1_ := Aside0.mk (blk_below (g := gb301) (o := .cells #[.bool x302000_1, .bool x302001_1, .bool x302002_1] 40 (0, 0)) (by (with_reducible repeat (first | refine blk_drewN ?_ _ | refine blk_drew ?_ | refine blk_alloc ?_ _)); exact BK301.out) hb); have n2_ := Aside0.mk (below_step (by repeat (first | (with_reducible first | exact HB.out | apply below_alloc | apply pw_below_drewN | apply below_drew1 | refine below_set ?_ GE300.out | refine below_set ?_ GE301.out) | exact HB.out)) hb); have n3_ := Aside0.mk (hbox); have n4_ := Aside0.mk ((by rw [hg]; exact (below_size (by repeat (first | (with_reducible first | exact HB.out | apply below_alloc | apply pw_below_drewN | apply below_drew1 | refine below_set ?_ GE300.out | refine below_set ?_ GE301.out) | exact HB.out))) : w.heap.size ≤ gb303)); have n5_ := Aside0.mk ((by rw [hg]; exact (below_size (by repeat (first | (with_reducible first | exact HB.out | apply below_alloc | apply pw_below_drewN | apply below_drew1 | refine below_set ?_ GE300.out | refine below_set ?_ GE301.out) | exact HB.out))) : w.heap.size ≤ gb303)); have n6_ := Aside0.mk ((by rw [hg]; exact Nat.ne_of_lt (blk_lt (g := gb300) (o := .cells #[.int .i64 x301000_1] 23 (0, 0)) (by (with_reducible repeat (first | refine blk_drewN ?_ _ | refine blk_drew ?_ | refine blk_alloc ?_ _)); exact BK300.out)) : gb300 ≠ gb303)); have n7_ := Aside0.mk ((by rw [hg]; exact Nat.ne_of_gt (blk_lt (g := gb300) (o := .cells #[.int .i64 x301000_1] 23 (0, 0)) (by (with_reducible repeat (first | refine blk_drewN ?_ _ | refine blk_drew ?_ | refine blk_alloc ?_ _)); exact BK300.out)) : gb303 ≠ gb300)); have n8_ := Aside0.mk ((by rw [hg]; exact Nat.ne_of_lt (blk_lt (g := gb301) (o := .cells #[.bool x302000_1, .bool x302001_1, .bool x302002_1] 40 (0, 0)) (by (with_reducible repeat (first | refine blk_drewN ?_ _ | refine blk_drew ?_ | refine blk_alloc ?_ _)); exact BK301.out)) : gb301 ≠ gb303)); have n9_ := Aside0.mk ((by rw [hg]; exact Nat.ne_of_gt (blk_lt (g := gb301) (o := .cells #[.bool x302000_1, .bool x302001_1, .bool x302002_1] 40 (0, 0)) (by (with_reducible repeat (first | refine blk_drewN ?_ _ | refine blk_drew ?_ | refine blk_alloc ?_ _)); exact BK301.out)) : gb303 ≠ gb301)); clear BK300; clear BK301; clear HB; have BK300 := n0_; have BK301 := n1_; have HB := n2_; have BK303 := n3_; have GW303 := n4_; have GE303 := n5_; have NB300_303 := n6_; have NB303_300 := n7_; have NB301_303 := n8_; have NB303_301 := n9_; clear n0_ n1_ n2_ n3_ n4_ n5_ n6_ n7_ n8_ n9_; clear hb hbox hg; have hnb99 := NB303_300.out; have hnc99 := NB300_303.out; have hnb100 := NB303_301.out; have hnc100 := NB301_303.out; have hcz101_0 : w98.cell? ⟨gb303, 0, none⟩ = some (.int .i64 0) := (blk_cell BK303.out 0).trans rfl; have hcz101_1 : w98.cell? ⟨gb303, 1, none⟩ = some (.int .i64 0) := (blk_cell BK303.out 1).trans rfl; have hcz101_2 : w98.cell? ⟨gb303, 2, none⟩ = some (.int .u8 0) := (blk_cell BK303.out 2).trans rfl; have hfz101_0 := blk_frozen BK303.out 0; have hfz101_1 := blk_frozen BK303.out 1; have hfz101_2 := blk_frozen BK303.out 2; have hnb102 := NB300_301.out; have hnc102 := NB301_300.out; have hcz103_0 : w98.cell? ⟨gb300, 0, none⟩ = some (.int .i64 x301000_1) := (blk_cell BK300.out 0).trans rfl; have hfz103_0 := blk_frozen BK300.out 0) | ((with_reducible refine gate_callee (f := 13) rfl ?_); refine goesL_ (some 28) rfl rfl Tryd.func13 (by kernel_rfl) rfl #[.agg #[.int .i64 x301000_1], .agg #[.int .i64 ((rd_T25 l0 x21_1).f0), .int .i64 ((rd_T25 l0 x21_1).f1), .int .u8 ((rd_T25 l0 x21_1).f2)]] rfl (by (try simp only [List.map_toArray, List.map_cons, List.map_nil]); first | done | rfl | (simp only [List.length_drop, List.length_take]; rfl)) ?_; (refine tabbed (w := w) HT.out (by repeat (first | (with_reducible first | exact HB.out | apply below_alloc | apply pw_below_drewN | apply below_drew1 | refine below_set ?_ GE300.out | refine below_set ?_ GE301.out | refine below_set ?_ GE303.out) | exact HB.out)) ?_); intro hT_; (with_reducible refine (terminate_Step.calls k1 x301000_1 ((rd_T25 l0 x21_1).f0) ((rd_T25 l0 x21_1).f1) ((rd_T25 l0 x21_1).f2) t304 t305 t308 _ A15.out hT_).mono ?_); clear hT_; rintro e w104 ⟨v306, rfl, ho0, hb⟩; refine ⟨_, rfl, ?_⟩; have n0_ := Aside0.mk (Kd.R_lower ho0 (below_size (by repeat (first | (with_reducible first | exact HB.out | apply below_alloc | apply pw_below_drewN | apply below_drew1 | refine below_set ?_ GE300.out | refine below_set ?_ GE301.out | refine below_set ?_ GE303.out) | exact HB.out)))); have n1_ := Aside0.mk (blk_below (g := gb300) (o := .cells #[.int .i64 x301000_1] 23 (0, 0)) (by (with_reducible repeat (first | refine blk_drewN ?_ _ | refine blk_drew ?_ | refine blk_alloc ?_ _)); refine blk_far ?_ NB300_303.out _; (with_reducible repeat (first | refine blk_drewN ?_ _ | refine blk_drew ?_ | refine blk_alloc ?_ _)); refine blk_far ?_ NB300_303.out _; (with_reducible repeat (first | refine blk_drewN ?_ _ | refine blk_drew ?_ | refine blk_alloc ?_ _)); refine blk_far ?_ NB300_303.out _; (with_reducible repeat (first | refine blk_drewN ?_ _ | refine blk_drew ?_ | refine blk_alloc ?_ _)); exact BK300.out) hb); have n2_ := Aside0.mk (blk_below (g := gb301) (o := .cells #[.bool x302000_1, .bool x302001_1, .bool x302002_1] 40 (0, 0)) (by (with_reducible repeat (first | refine blk_drewN ?_ _ | refine blk_drew ?_ | refine blk_alloc ?_ _)); refine blk_far ?_ NB301_303.out _; (with_reducible repeat (first | refine blk_drewN ?_ _ | refine blk_drew ?_ | refine blk_alloc ?_ _)); refine blk_far ?_ NB301_303.out _; (with_reducible repeat (first | refine blk_drewN ?_ _ | refine blk_drew ?_ | refine blk_alloc ?_ _)); refine blk_far ?_ NB301_303.out _; (with_reducible repeat (first | refine blk_drewN ?_ _ | refine blk_drew ?_ | refine blk_alloc ?_ _)); exact BK301.out) hb); have n3_ := Aside0.mk (blk_below (g := gb303) (o := .cells #[.int .i64 ((rd_T25 l0 x21_1).f0), .int .i64 ((rd_T25 l0 x21_1).f1), .int .u8 ((rd_T25 l0 x21_1).f2)] 25 (0, 0)) (by (with_reducible repeat (first | refine blk_drewN ?_ _ | refine blk_drew ?_ | refine blk_alloc ?_ _)); refine blk_put (cs := #[.int .i64 ((rd_T25 l0 x21_1).f0), .int .i64 ((rd_T25 l0 x21_1).f1), .int .u8 0]) ?_ 2 _ rfl; (with_reducible repeat (first | refine blk_drewN ?_ _ | refine blk_drew ?_ | refine blk_alloc ?_ _)); refine blk_put (cs := #[.int .i64 ((rd_T25 l0 x21_1).f0), .int .i64 0, .int .u8 0]) ?_ 1 _ rfl; (with_reducible repeat (first | refine blk_drewN ?_ _ | refine blk_drew ?_ | refine blk_alloc ?_ _)); refine blk_put (cs := #[.int .i64 0, .int .i64 0, .int .u8 0]) ?_ 0 _ rfl; (with_reducible repeat (first | refine blk_drewN ?_ _ | refine blk_drew ?_ | refine blk_alloc ?_ _)); exact BK303.out) hb); have n4_ := Aside0.mk (below_step (by repeat (first | (with_reducible first | exact HB.out | apply below_alloc | apply pw_below_drewN | apply below_drew1 | refine below_set ?_ GE300.out | refine below_set ?_ GE301.out | refine below_set ?_ GE303.out) | exact HB.out)) hb); clear BK300; clear BK301; clear BK303; clear HB; have HO307 := n0_; have BK300 := n1_; have BK301 := n2_; have BK303 := n3_; have HB := n4_; clear n0_ n1_ n2_ n3_ n4_; (try clear hb); (try clear hb2); (try clear hk); (try clear hi); (try clear ho0)) | ((with_reducible refine gate_dst (N := 7) rfl ?_); (try (refine gate_guard (by rfl) ?_; dsimp only)); refine box_event ?hg (N := 7) ?hd (cs := #[.int .i64 0]) (t := 23) ?hr ?_; (case hd => rfl); (case hg => rfl); (case hr => first | (go_simp; done) | (go_simp; rfl)); intro gb309 hg w105 hbox hb; have n0_ := Aside0.mk (Kd.R_below (by (with_reducible repeat (first | apply Kd.R_alloc | apply Kd.R_drewN | apply Kd.R_drew)); exact HO307.out) hb); have n1_ := Aside0.mk (blk_below (g := gb300) (o := .cells #[.int .i64 x301000_1] 23 (0, 0)) (by (with_reducible repeat (first | refine blk_drewN ?_ _ | refine blk_drew ?_ | refine blk_alloc ?_ _)); exact BK300.out) hb); have n2_ := Aside0.mk (blk_below (g := gb301) (o := .cells #[.bool x302000_1, .bool x302001_1, .bool x302002_1] 40 (0, 0)) (by (with_reducible repeat (first | refine blk_drewN ?_ _ | refine blk_drew ?_ | refine blk_alloc ?_ _)); exact BK301.out) hb); have n3_ := Aside0.mk (blk_below (g := gb303) (o := .cells #[.int .i64 ((rd_T25 l0 x21_1).f0), .int .i64 ((rd_T25 l0 x21_1).f1), .int .u8 ((rd_T25 l0 x21_1).f2)] 25 (0, 0)) (by (with_reducible repeat (first | refine blk_drewN ?_ _ | refine blk_drew ?_ | refine blk_alloc ?_ _)); exact BK303.out) hb); have n4_ := Aside0.mk (below_step (by repeat (first | (with_reducible first | exact HB.out | apply below_alloc | apply pw_below_drewN | apply below_drew1 | refine below_set ?_ GE300.out | refine below_set ?_ GE301.out | refine below_set ?_ GE303.out) | exact HB.out)) hb); have n5_ := Aside0.mk (hbox); have n6_ := Aside0.mk ((by rw [hg]; exact (below_size (by repeat (first | (with_reducible first | exact HB.out | apply below_alloc | apply pw_below_drewN | apply below_drew1 | refine below_set ?_ GE300.out | refine below_set ?_ GE301.out | refine below_set ?_ GE303.out) | exact HB.out))) : w.heap.size ≤ gb309)); have n7_ := Aside0.mk ((by rw [hg]; exact (below_size (by repeat (first | (with_reducible first | exact HB.out | apply below_alloc | apply pw_below_drewN | apply below_drew1 | refine below_set ?_ GE300.out | refine below_set ?_ GE301.out | refine below_set ?_ GE303.out) | exact HB.out))) : w.heap.size ≤ gb309)); have n8_ := Aside0.mk ((by rw [hg]; exact Nat.ne_of_lt (blk_lt (g := gb300) (o := .cells #[.int .i64 x301000_1] 23 (0, 0)) (by (with_reducible repeat (first | refine blk_drewN ?_ _ | refine blk_drew ?_ | refine blk_alloc ?_ _)); exact BK300.out)) : gb300 ≠ gb309)); have n9_ := Aside0.mk ((by rw [hg]; exact Nat.ne_of_gt (blk_lt (g := gb300) (o := .cells #[.int .i64 x301000_1] 23 (0, 0)) (by (with_reducible repeat (first | refine blk_drewN ?_ _ | refine blk_drew ?_ | refine blk_alloc ?_ _)); exact BK300.out)) : gb309 ≠ gb300)); have n10_ := Aside0.mk ((by rw [hg]; exact Nat.ne_of_lt (blk_lt (g := gb301) (o := .cells #[.bool x302000_1, .bool x302001_1, .bool x302002_1] 40 (0, 0)) (by (with_reducible repeat (first | refine blk_drewN ?_ _ | refine blk_drew ?_ | refine blk_alloc ?_ _)); exact BK301.out)) : gb301 ≠ gb309)); have n11_ := Aside0.mk ((by rw [hg]; exact Nat.ne_of_gt (blk_lt (g := gb301) (o := .cells #[.bool x302000_1, .bool x302001_1, .bool x302002_1] 40 (0, 0)) (by (with_reducible repeat (first | refine blk_drewN ?_ _ | refine blk_drew ?_ | refine blk_alloc ?_ _)); exact BK301.out)) : gb309 ≠ gb301)); have n12_ := Aside0.mk ((by rw [hg]; exact Nat.ne_of_lt (blk_lt (g := gb303) (o := .cells #[.int .i64 ((rd_T25 l0 x21_1).f0), .int .i64 ((rd_T25 l0 x21_1).f1), .int .u8 ((rd_T25 l0 x21_1).f2)] 25 (0, 0)) (by (with_reducible repeat (first | refine blk_drewN ?_ _ | refine blk_drew ?_ | refine blk_alloc ?_ _)); exact BK303.out)) : gb303 ≠ gb309)); have n13_ := Aside0.mk ((by rw [hg]; exact Nat.ne_of_gt (blk_lt (g := gb303) (o := .cells #[.int .i64 ((rd_T25 l0 x21_1).f0), .int .i64 ((rd_T25 l0 x21_1).f1), .int .u8 ((rd_T25 l0 x21_1).f2)] 25 (0, 0)) (by (with_reducible repeat (first | refine blk_drewN ?_ _ | refine blk_drew ?_ | refine blk_alloc ?_ _)); exact BK303.out)) : gb309 ≠ gb303)); clear HO307; clear BK300; clear BK301; clear BK303; clear HB; have HO307 := n0_; have BK300 := n1_; have BK301 := n2_; have BK303 := n3_; have HB := n4_; have BK309 := n5_; have GW309 := n6_; have GE309 := n7_; have NB300_309 := n8_; have NB309_300 := n9_; have NB301_309 := n10_; have NB309_301 := n11_; have NB303_309 := n12_; have NB309_303 := n13_; clear n0_ n1_ n2_ n3_ n4_ n5_ n6_ n7_ n8_ n9_ n10_ n11_ n12_ n13_; clear hb hbox hg; have hnb106 := NB309_300.out; have hnc106 := NB300_309.out; have hnb107 := NB309_301.out; have hnc107 := NB301_309.out; have hnb108 := NB309_303.out; have hnc108 := NB303_309.out; have hcz109_0 : w105.cell? ⟨gb309, 0, none⟩ = some (.int .i64 0) := (blk_cell BK309.out 0).trans rfl; have hfz109_0 := blk_frozen BK309.out 0; obtain ⟨Ao110, co110, eo110⟩ := Kd.R_slice HO307.out; subst eo110))
                      go_roundg k1
                      case measure => have := HK1.out; omega
                      case rel => exact ⟨(wrap64 (x21_1 + 1)), (x301000_1), (x302000_1), (x302001_1), (x302002_1), (by first | rfl | (simp; done) | (simp [*]; done)), H', ⟨by have := HK1.out; omega⟩, ⟨by (with_reducible repeat (first | refine blk_drewN ?_ _ | refine blk_drew ?_ | refine blk_alloc ?_ _)); refine blk_far ?_ NB300_309.out _; (with_reducible repeat (first | refine blk_drewN ?_ _ | refine blk_drew ?_ | refine blk_alloc ?_ _)); exact BK300.out⟩, ⟨by (with_reducible repeat (first | refine blk_drewN ?_ _ | refine blk_drew ?_ | refine blk_alloc ?_ _)); refine blk_far ?_ NB301_309.out _; (with_reducible repeat (first | refine blk_drewN ?_ _ | refine blk_drew ?_ | refine blk_alloc ?_ _)); exact BK301.out⟩, ⟨by repeat (first | (with_reducible first | exact HB.out | apply below_alloc | apply pw_below_drewN | apply below_drew1 | refine below_set ?_ GE300.out | refine below_set ?_ GE301.out | refine below_set ?_ GE303.out | refine below_set ?_ GE309.out) | exact HB.out)⟩⟩
                    · rw [if_neg c97] at H
                      exact absurd H (by simp)
              · rw [if_neg c14] at H
                exact absurd H (by simp)
            · rw [if_neg c13] at H
              exact absurd H (by simp)
          · rw [if_neg c12] at H
            have c12b0 : decide (x21_1 < (l0.length : Int)) = false := decide_eq_false c12
            clear c12
            obtain rfl := Option.some.inj H
            go_wp2
            go_ret
            exact ⟨by first | rfl | (simp [errW_none, errW_some] <;> rfl) | (simp [*, errW_none, errW_some] <;> rfl), by repeat (first | (with_reducible first | exact HB.out | apply below_alloc | apply pw_below_drewN | apply below_drew1 | refine below_set ?_ GE300.out | refine below_set ?_ GE301.out) | exact HB.out)⟩
  · replace c3 := Bool.eq_false_iff.mpr c3
    subst c3
    have H1 : (none) = some r := by rw [if_neg (show ¬ (false = true) by decide)] at H; exact H
    clear H
    have H := H1
    clear H1
    exact absurd H (by simp)

end Go.Proofs.YtenaokgcljpcgaaDoor.GA
