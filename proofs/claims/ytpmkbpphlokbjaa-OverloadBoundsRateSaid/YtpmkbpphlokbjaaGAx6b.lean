-- written by wip/tools/doctor.py (the kit's print.py run with hand-given contracts); Lean checks it
import Derived.Test.YtpmkbpphlokbjaaGAx0
import Derived.Test.YtpmkbpphlokbjaaGAx2
import Derived.Test.YtpmkbpphlokbjaaGAx2b
import Derived.Test.YtpmkbpphlokbjaaGAx3
import Derived.Test.YtpmkbpphlokbjaaGAx3b
import Derived.Test.YtpmkbpphlokbjaaGAx6
import Derived.Test.YtpmkbpphlokbjaaHA
namespace Go.Proofs.Ytpmkbpphlokbjaa.GA
open Go.RowKit Go.Proofs.YtpmkbpphlokbjaaW.PrintWords Go.Proofs.YtpmkbpphlokbjaaW.PrintLast Go.Proofs.YtpmkbpphlokbjaaW.PrintMore
attribute [local go_sem] max2_int min2_int max_two min_two max_three min_three max_four min_four   -- for this text's walks alone
set_option linter.unusedVariables false
set_option linter.unusedSimpArgs false

/-! ### crossbarlaw32_OverloadBoundsRate: function 5 -/
mutual
def crossbarlaw32_OverloadBoundsRate.j0 : Nat → List (S38) → Bool → Int → Int → Int → Int → Option (Bool)
  | 0, _, _, _, _, _, _ => none
  | k + 1, x1, x27, x222000, x222001, x222002, x222003 => if x27 = true then (some true) else (crossbarlaw32_OverloadBoundsRate.l0 k x222001 0 0 x1 (x1.length : Int) 0 x222000 x222001 x222002 x222003)
def crossbarlaw32_OverloadBoundsRate.l0 : Nat → Int → Int → Int → List (S38) → Int → Int → Int → Int → Int → Int → Option (Bool)
  | 0, _, _, _, _, _, _, _, _, _, _ => none
  | k + 1, x5, x6, x7, x30, x31, x32, x222000, x222001, x222002, x222003 => if x32 < x31 then (if 0 ≤ x32 then (if x32 < (x30.length : Int) then (if x32 = 0 then (crossbarlaw32_OverloadBoundsRate.j2 k (wrap64 (x5 + (wrap64 ((rd_T38 x30 x32).f0)))) (wrap64 (x5 + (wrap64 ((rd_T38 x30 x32).f0)))) x7 x30 x31 x32 x222000 x222001 x222002 x222003 ((rd_T38 x30 x32).f0) ((rd_T38 x30 x32).f1)) else (crossbarlaw32_OverloadBoundsRate.j2 k (wrap64 (x5 + (wrap64 ((rd_T38 x30 x32).f0)))) x6 x7 x30 x31 x32 x222000 x222001 x222002 x222003 ((rd_T38 x30 x32).f0) ((rd_T38 x30 x32).f1))) else (none)) else (none)) else (some true)
def crossbarlaw32_OverloadBoundsRate.j2 : Nat → Int → Int → Int → List (S38) → Int → Int → Int → Int → Int → Int → Int → Bool → Option (Bool)
  | 0, _, _, _, _, _, _, _, _, _, _, _, _ => none
  | k + 1, x5, x6, x7, x30, x31, x32, x222000, x222001, x222002, x222003, x226000, x226001 => (overload_Admit.f x222000 x222001 x222002 x222003 x5 x226001).bind fun bt226 => (if bt226.2.2.2.2.2 = 0 then ((overload_Check.f bt226.1 bt226.2.1 bt226.2.2.1 bt226.2.2.2.1).bind fun t233 => (if t233 = 0 then (if x226001 = true then (if bt226.2.2.2.2.1 = true then (if bt226.2.2.1 = x222002 then (crossbarlaw32_OverloadBoundsRate.j3 k x5 x6 x7 bt226.2.2.2.2.1 x30 x31 x32 (bt226.2.2.2.1 != x222003) x226000 x226001 bt226.1 bt226.2.1 bt226.2.2.1 bt226.2.2.2.1) else (crossbarlaw32_OverloadBoundsRate.j3 k x5 x6 x7 bt226.2.2.2.2.1 x30 x31 x32 true x226000 x226001 bt226.1 bt226.2.1 bt226.2.2.1 bt226.2.2.2.1)) else (crossbarlaw32_OverloadBoundsRate.j3 k x5 x6 x7 bt226.2.2.2.2.1 x30 x31 x32 true x226000 x226001 bt226.1 bt226.2.1 bt226.2.2.1 bt226.2.2.2.1)) else (if bt226.2.2.1 = x222002 then (crossbarlaw32_OverloadBoundsRate.j3 k x5 x6 x7 bt226.2.2.2.2.1 x30 x31 x32 (bt226.2.2.2.1 != x222003) x226000 x226001 bt226.1 bt226.2.1 bt226.2.2.1 bt226.2.2.2.1) else (crossbarlaw32_OverloadBoundsRate.j3 k x5 x6 x7 bt226.2.2.2.2.1 x30 x31 x32 true x226000 x226001 bt226.1 bt226.2.1 bt226.2.2.1 bt226.2.2.2.1))) else (crossbarlaw32_OverloadBoundsRate.j3 k x5 x6 x7 bt226.2.2.2.2.1 x30 x31 x32 true x226000 x226001 bt226.1 bt226.2.1 bt226.2.2.1 bt226.2.2.2.1))) else (crossbarlaw32_OverloadBoundsRate.j3 k x5 x6 x7 bt226.2.2.2.2.1 x30 x31 x32 true x226000 x226001 bt226.1 bt226.2.1 bt226.2.2.1 bt226.2.2.2.1))
def crossbarlaw32_OverloadBoundsRate.j3 : Nat → Int → Int → Int → Bool → List (S38) → Int → Int → Bool → Int → Bool → Int → Int → Int → Int → Option (Bool)
  | 0, _, _, _, _, _, _, _, _, _, _, _, _, _, _ => none
  | k + 1, x5, x6, x7, x11, x30, x31, x32, x82, x226000, x226001, x233000, x233001, x233002, x233003 => if x82 = true then (some false) else (if x11 = true then (crossbarlaw32_OverloadBoundsRate.j4 k x5 x6 x7 x30 x31 x32 (!x226001) x233000 x233001 x233002 x233003) else (crossbarlaw32_OverloadBoundsRate.j4 k x5 x6 x7 x30 x31 x32 false x233000 x233001 x233002 x233003))
def crossbarlaw32_OverloadBoundsRate.j4 : Nat → Int → Int → Int → List (S38) → Int → Int → Bool → Int → Int → Int → Int → Option (Bool)
  | 0, _, _, _, _, _, _, _, _, _, _, _ => none
  | k + 1, x5, x6, x7, x30, x31, x32, x88, x233000, x233001, x233002, x233003 => if x88 = true then (if x233002 = 0 then (none) else (if (wrap64 (x7 + 1)) > (wrap64 (x233003 + (wrap64 (Int.tdiv (wrap64 (x5 - x6)) x233002)))) then (some false) else (crossbarlaw32_OverloadBoundsRate.l0 k x5 x6 (wrap64 (x7 + 1)) x30 x31 (wrap64 (x32 + 1)) x233000 x233001 x233002 x233003))) else (if x233002 = 0 then (none) else (if x7 > (wrap64 (x233003 + (wrap64 (Int.tdiv (wrap64 (x5 - x6)) x233002)))) then (some false) else (crossbarlaw32_OverloadBoundsRate.l0 k x5 x6 x7 x30 x31 (wrap64 (x32 + 1)) x233000 x233001 x233002 x233003)))
end
def crossbarlaw32_OverloadBoundsRate.f (k : Nat) (a0_0 : Int) (a0_1 : Int) (a0_2 : Int) (a0_3 : Int) (l1 : List (S38)) : Option (Bool) := (crossbarlaw32_sane.f k).bind fun t222 => (if t222 = true then (if (l1.length : Int) > 200 then (crossbarlaw32_OverloadBoundsRate.j0 k l1 true a0_0 a0_1 a0_2 a0_3) else ((overload_Check.f a0_0 a0_1 a0_2 a0_3).bind fun t223 => (if t223 = 0 then (crossbarlaw32_OverloadBoundsRate.j0 k l1 (decide (a0_1 > 549755813888)) a0_0 a0_1 a0_2 a0_3) else (crossbarlaw32_OverloadBoundsRate.j0 k l1 true a0_0 a0_1 a0_2 a0_3)))) else (some false))
theorem crossbarlaw32_OverloadBoundsRate.mono_l : ∀ k, (∀ y0 y1 y2 y3 y4 y5, LeO (crossbarlaw32_OverloadBoundsRate.j0 k y0 y1 y2 y3 y4 y5) (crossbarlaw32_OverloadBoundsRate.j0 (k + 1) y0 y1 y2 y3 y4 y5)) ∧ (∀ y0 y1 y2 y3 y4 y5 y6 y7 y8 y9, LeO (crossbarlaw32_OverloadBoundsRate.l0 k y0 y1 y2 y3 y4 y5 y6 y7 y8 y9) (crossbarlaw32_OverloadBoundsRate.l0 (k + 1) y0 y1 y2 y3 y4 y5 y6 y7 y8 y9)) ∧ (∀ y0 y1 y2 y3 y4 y5 y6 y7 y8 y9 y10 y11, LeO (crossbarlaw32_OverloadBoundsRate.j2 k y0 y1 y2 y3 y4 y5 y6 y7 y8 y9 y10 y11) (crossbarlaw32_OverloadBoundsRate.j2 (k + 1) y0 y1 y2 y3 y4 y5 y6 y7 y8 y9 y10 y11)) ∧ (∀ y0 y1 y2 y3 y4 y5 y6 y7 y8 y9 y10 y11 y12 y13, LeO (crossbarlaw32_OverloadBoundsRate.j3 k y0 y1 y2 y3 y4 y5 y6 y7 y8 y9 y10 y11 y12 y13) (crossbarlaw32_OverloadBoundsRate.j3 (k + 1) y0 y1 y2 y3 y4 y5 y6 y7 y8 y9 y10 y11 y12 y13)) ∧ (∀ y0 y1 y2 y3 y4 y5 y6 y7 y8 y9 y10, LeO (crossbarlaw32_OverloadBoundsRate.j4 k y0 y1 y2 y3 y4 y5 y6 y7 y8 y9 y10) (crossbarlaw32_OverloadBoundsRate.j4 (k + 1) y0 y1 y2 y3 y4 y5 y6 y7 y8 y9 y10))
  | 0 => ⟨fun _ _ _ _ _ _ r h => by simp [crossbarlaw32_OverloadBoundsRate.j0] at h, fun _ _ _ _ _ _ _ _ _ _ r h => by simp [crossbarlaw32_OverloadBoundsRate.l0] at h, fun _ _ _ _ _ _ _ _ _ _ _ _ r h => by simp [crossbarlaw32_OverloadBoundsRate.j2] at h, fun _ _ _ _ _ _ _ _ _ _ _ _ _ _ r h => by simp [crossbarlaw32_OverloadBoundsRate.j3] at h, fun _ _ _ _ _ _ _ _ _ _ _ r h => by simp [crossbarlaw32_OverloadBoundsRate.j4] at h⟩
  | k + 1 => by
    obtain ⟨ih0, ih1, ih2, ih3, ih4⟩ := crossbarlaw32_OverloadBoundsRate.mono_l k
    refine ⟨?_, ?_, ?_, ?_, ?_⟩
    · intro y0 y1 y2 y3 y4 y5
      unfold crossbarlaw32_OverloadBoundsRate.j0
      repeat' first
      | (with_reducible exact ih0 _ _ _ _ _ _)
      | (with_reducible exact ih1 _ _ _ _ _ _ _ _ _ _)
      | (with_reducible exact ih2 _ _ _ _ _ _ _ _ _ _ _ _)
      | (with_reducible exact ih3 _ _ _ _ _ _ _ _ _ _ _ _ _ _)
      | (with_reducible exact ih4 _ _ _ _ _ _ _ _ _ _ _)
      | (with_reducible exact crossbarlaw32_sane.mono _)
      | (with_reducible exact LeO.refl _)
      | (with_reducible exact LeO.none _)
      | (with_reducible refine LeO.ite ?_ ?_)
      | (with_reducible refine LeO.bind ?_ (fun _ => ?_))
      | exact ih0 _ _ _ _ _ _
      | exact ih1 _ _ _ _ _ _ _ _ _ _
      | exact ih2 _ _ _ _ _ _ _ _ _ _ _ _
      | exact ih3 _ _ _ _ _ _ _ _ _ _ _ _ _ _
      | exact ih4 _ _ _ _ _ _ _ _ _ _ _
      | exact crossbarlaw32_sane.mono _
      | exact LeO.none _
      | refine LeO.ite ?_ ?_
      | refine LeO.bind ?_ (fun _ => ?_)
    · intro y0 y1 y2 y3 y4 y5 y6 y7 y8 y9
      unfold crossbarlaw32_OverloadBoundsRate.l0
      repeat' first
      | (with_reducible exact ih0 _ _ _ _ _ _)
      | (with_reducible exact ih1 _ _ _ _ _ _ _ _ _ _)
      | (with_reducible exact ih2 _ _ _ _ _ _ _ _ _ _ _ _)
      | (with_reducible exact ih3 _ _ _ _ _ _ _ _ _ _ _ _ _ _)
      | (with_reducible exact ih4 _ _ _ _ _ _ _ _ _ _ _)
      | (with_reducible exact crossbarlaw32_sane.mono _)
      | (with_reducible exact LeO.refl _)
      | (with_reducible exact LeO.none _)
      | (with_reducible refine LeO.ite ?_ ?_)
      | (with_reducible refine LeO.bind ?_ (fun _ => ?_))
      | exact ih0 _ _ _ _ _ _
      | exact ih1 _ _ _ _ _ _ _ _ _ _
      | exact ih2 _ _ _ _ _ _ _ _ _ _ _ _
      | exact ih3 _ _ _ _ _ _ _ _ _ _ _ _ _ _
      | exact ih4 _ _ _ _ _ _ _ _ _ _ _
      | exact crossbarlaw32_sane.mono _
      | exact LeO.none _
      | refine LeO.ite ?_ ?_
      | refine LeO.bind ?_ (fun _ => ?_)
    · intro y0 y1 y2 y3 y4 y5 y6 y7 y8 y9 y10 y11
      unfold crossbarlaw32_OverloadBoundsRate.j2
      repeat' first
      | (with_reducible exact ih0 _ _ _ _ _ _)
      | (with_reducible exact ih1 _ _ _ _ _ _ _ _ _ _)
      | (with_reducible exact ih2 _ _ _ _ _ _ _ _ _ _ _ _)
      | (with_reducible exact ih3 _ _ _ _ _ _ _ _ _ _ _ _ _ _)
      | (with_reducible exact ih4 _ _ _ _ _ _ _ _ _ _ _)
      | (with_reducible exact crossbarlaw32_sane.mono _)
      | (with_reducible exact LeO.refl _)
      | (with_reducible exact LeO.none _)
      | (with_reducible refine LeO.ite ?_ ?_)
      | (with_reducible refine LeO.bind ?_ (fun _ => ?_))
      | exact ih0 _ _ _ _ _ _
      | exact ih1 _ _ _ _ _ _ _ _ _ _
      | exact ih2 _ _ _ _ _ _ _ _ _ _ _ _
      | exact ih3 _ _ _ _ _ _ _ _ _ _ _ _ _ _
      | exact ih4 _ _ _ _ _ _ _ _ _ _ _
      | exact crossbarlaw32_sane.mono _
      | exact LeO.none _
      | refine LeO.ite ?_ ?_
      | refine LeO.bind ?_ (fun _ => ?_)
    · intro y0 y1 y2 y3 y4 y5 y6 y7 y8 y9 y10 y11 y12 y13
      unfold crossbarlaw32_OverloadBoundsRate.j3
      repeat' first
      | (with_reducible exact ih0 _ _ _ _ _ _)
      | (with_reducible exact ih1 _ _ _ _ _ _ _ _ _ _)
      | (with_reducible exact ih2 _ _ _ _ _ _ _ _ _ _ _ _)
      | (with_reducible exact ih3 _ _ _ _ _ _ _ _ _ _ _ _ _ _)
      | (with_reducible exact ih4 _ _ _ _ _ _ _ _ _ _ _)
      | (with_reducible exact crossbarlaw32_sane.mono _)
      | (with_reducible exact LeO.refl _)
      | (with_reducible exact LeO.none _)
      | (with_reducible refine LeO.ite ?_ ?_)
      | (with_reducible refine LeO.bind ?_ (fun _ => ?_))
      | exact ih0 _ _ _ _ _ _
      | exact ih1 _ _ _ _ _ _ _ _ _ _
      | exact ih2 _ _ _ _ _ _ _ _ _ _ _ _
      | exact ih3 _ _ _ _ _ _ _ _ _ _ _ _ _ _
      | exact ih4 _ _ _ _ _ _ _ _ _ _ _
      | exact crossbarlaw32_sane.mono _
      | exact LeO.none _
      | refine LeO.ite ?_ ?_
      | refine LeO.bind ?_ (fun _ => ?_)
    · intro y0 y1 y2 y3 y4 y5 y6 y7 y8 y9 y10
      unfold crossbarlaw32_OverloadBoundsRate.j4
      repeat' first
      | (with_reducible exact ih0 _ _ _ _ _ _)
      | (with_reducible exact ih1 _ _ _ _ _ _ _ _ _ _)
      | (with_reducible exact ih2 _ _ _ _ _ _ _ _ _ _ _ _)
      | (with_reducible exact ih3 _ _ _ _ _ _ _ _ _ _ _ _ _ _)
      | (with_reducible exact ih4 _ _ _ _ _ _ _ _ _ _ _)
      | (with_reducible exact crossbarlaw32_sane.mono _)
      | (with_reducible exact LeO.refl _)
      | (with_reducible exact LeO.none _)
      | (with_reducible refine LeO.ite ?_ ?_)
      | (with_reducible refine LeO.bind ?_ (fun _ => ?_))
      | exact ih0 _ _ _ _ _ _
      | exact ih1 _ _ _ _ _ _ _ _ _ _
      | exact ih2 _ _ _ _ _ _ _ _ _ _ _ _
      | exact ih3 _ _ _ _ _ _ _ _ _ _ _ _ _ _
      | exact ih4 _ _ _ _ _ _ _ _ _ _ _
      | exact crossbarlaw32_sane.mono _
      | exact LeO.none _
      | refine LeO.ite ?_ ?_
      | refine LeO.bind ?_ (fun _ => ?_)
theorem crossbarlaw32_OverloadBoundsRate.mono : ∀ a0 a1 a2 a3 a4 k, LeO (crossbarlaw32_OverloadBoundsRate.f k a0 a1 a2 a3 a4) (crossbarlaw32_OverloadBoundsRate.f (k + 1) a0 a1 a2 a3 a4) := by
  intro a0 a1 a2 a3 a4 k
  obtain ⟨ih0, ih1, ih2, ih3, ih4⟩ := crossbarlaw32_OverloadBoundsRate.mono_l k
  unfold crossbarlaw32_OverloadBoundsRate.f
  repeat' first
      | (with_reducible exact ih0 _ _ _ _ _ _)
      | (with_reducible exact ih1 _ _ _ _ _ _ _ _ _ _)
      | (with_reducible exact ih2 _ _ _ _ _ _ _ _ _ _ _ _)
      | (with_reducible exact ih3 _ _ _ _ _ _ _ _ _ _ _ _ _ _)
      | (with_reducible exact ih4 _ _ _ _ _ _ _ _ _ _ _)
      | (with_reducible exact crossbarlaw32_sane.mono _)
      | (with_reducible exact LeO.refl _)
      | (with_reducible exact LeO.none _)
      | (with_reducible refine LeO.ite ?_ ?_)
      | (with_reducible refine LeO.bind ?_ (fun _ => ?_))
      | exact ih0 _ _ _ _ _ _
      | exact ih1 _ _ _ _ _ _ _ _ _ _
      | exact ih2 _ _ _ _ _ _ _ _ _ _ _ _
      | exact ih3 _ _ _ _ _ _ _ _ _ _ _ _ _ _
      | exact ih4 _ _ _ _ _ _ _ _ _ _ _
      | exact crossbarlaw32_sane.mono _
      | exact LeO.none _
      | refine LeO.ite ?_ ?_
      | refine LeO.bind ?_ (fun _ => ?_)
set_option maxHeartbeats 8000000 in
set_option maxRecDepth 100000 in
theorem crossbarlaw32_OverloadBoundsRate.calls (k : Nat) (a0_0 : Int) (a0_1 : Int) (a0_2 : Int) (a0_3 : Int) (A1 : Option Addr) (c1 : Nat) (l1 : List (S38)) (r : Bool) (w : World) (hr1 : Kd.C k38 w A1 l1.length l1) (hc1 : l1.length ≤ c1) (h : crossbarlaw32_OverloadBoundsRate.f k a0_0 a0_1 a0_2 a0_3 l1 = some r) :
    Calls Try.prog 5 #[.agg #[.int .i64 a0_0, .int .i64 a0_1, .int .i64 a0_2, .int .i64 a0_3], .slice A1 l1.length c1] w fun e w' => e = .returned (.bool r) ∧ Below w.heap.size w w' := by
  have hu23 := Try.underlying23
  have hu38 := Try.underlying38
  have HR1 := Aside0.mk hr1
  have HC1 := Aside0.mk hc1
  clear hr1 hc1
  have HB := Aside0.mk (Below.refl w.heap.size w)
  have H : ((crossbarlaw32_sane.f k).bind fun t222 => (if t222 = true then (if (l1.length : Int) > 200 then (crossbarlaw32_OverloadBoundsRate.j0 k l1 true a0_0 a0_1 a0_2 a0_3) else ((overload_Check.f a0_0 a0_1 a0_2 a0_3).bind fun t223 => (if t223 = 0 then (crossbarlaw32_OverloadBoundsRate.j0 k l1 (decide (a0_1 > 549755813888)) a0_0 a0_1 a0_2 a0_3) else (crossbarlaw32_OverloadBoundsRate.j0 k l1 true a0_0 a0_1 a0_2 a0_3)))) else (some false))) = some r := h
  clear h
  replace H := Option.bind_eq_some_iff.mp H
  obtain ⟨t222, A30, H⟩ := H
  replace H : (if t222 = true then (if (l1.length : Int) > 200 then (crossbarlaw32_OverloadBoundsRate.j0 k l1 true a0_0 a0_1 a0_2 a0_3) else ((overload_Check.f a0_0 a0_1 a0_2 a0_3).bind fun t223 => (if t223 = 0 then (crossbarlaw32_OverloadBoundsRate.j0 k l1 (decide (a0_1 > 549755813888)) a0_0 a0_1 a0_2 a0_3) else (crossbarlaw32_OverloadBoundsRate.j0 k l1 true a0_0 a0_1 a0_2 a0_3)))) else (some false)) = some r := H
  have A3 := Aside0.mk A30
  clear A30
  by_cases c4 : t222 = true
  · subst c4
    have H1 : (if (l1.length : Int) > 200 then (crossbarlaw32_OverloadBoundsRate.j0 k l1 true a0_0 a0_1 a0_2 a0_3) else ((overload_Check.f a0_0 a0_1 a0_2 a0_3).bind fun t223 => (if t223 = 0 then (crossbarlaw32_OverloadBoundsRate.j0 k l1 (decide (a0_1 > 549755813888)) a0_0 a0_1 a0_2 a0_3) else (crossbarlaw32_OverloadBoundsRate.j0 k l1 true a0_0 a0_1 a0_2 a0_3)))) = some r := by rw [if_pos rfl] at H; exact H
    clear H
    have H := H1
    clear H1
    have HC5 := Aside0.mk H
    clear H
    go_enter Try.func5, Try.ntmps5
    go_upto_region 3 with (first | ((with_reducible refine gate_dst (N := 2) rfl ?_); refine box_event ?hg (N := 2) ?hd (cs := #[.int .i64 a0_0, .int .i64 a0_1, .int .i64 a0_2, .int .i64 a0_3]) (t := 23) ?hr ?_; (case hd => rfl); (case hg => rfl); (case hr => first | (go_simp; done) | (go_simp; rfl)); intro gb221 hg w6 hbox hb; have n0_ := Aside0.mk (below_step (by repeat (first | (with_reducible first | exact HB.out | apply below_alloc | apply pw_below_drewN | apply below_drew1) | exact HB.out)) hb); have n1_ := Aside0.mk (hbox); have n2_ := Aside0.mk ((by rw [hg]; exact (below_size (by repeat (first | (with_reducible first | exact HB.out | apply below_alloc | apply pw_below_drewN | apply below_drew1) | exact HB.out))) : w.heap.size ≤ gb221)); have n3_ := Aside0.mk ((by rw [hg]; exact (below_size (by repeat (first | (with_reducible first | exact HB.out | apply below_alloc | apply pw_below_drewN | apply below_drew1) | exact HB.out))) : w.heap.size ≤ gb221)); clear HB; have HB := n0_; have BK221 := n1_; have GW221 := n2_; have GE221 := n3_; clear n0_ n1_ n2_ n3_; clear hb hbox hg) | (go_at_call 10; (with_reducible refine (crossbarlaw32_sane.calls k  true _ A3.out).mono ?_); rintro e w7 ⟨rfl, hb⟩; have n0_ := Aside0.mk (blk_below (g := gb221) (o := .cells #[.int .i64 a0_0, .int .i64 a0_1, .int .i64 a0_2, .int .i64 a0_3] 23 (0, 0)) (by (with_reducible repeat (first | refine blk_drewN ?_ _ | refine blk_drew ?_ | refine blk_alloc ?_ _)); exact BK221.out) hb); have n1_ := Aside0.mk (below_step (by repeat (first | (with_reducible first | exact HB.out | apply below_alloc | apply pw_below_drewN | apply below_drew1 | refine below_set ?_ GE221.out) | exact HB.out)) hb); clear BK221; clear HB; have BK221 := n0_; have HB := n1_; clear n0_ n1_; (try clear hb); (try clear hb2); (try clear hk); (try clear hi)))
    repeat (go_quiet (first | ((with_reducible refine gate_dst (N := 2) rfl ?_); refine box_event ?hg (N := 2) ?hd (cs := #[.int .i64 a0_0, .int .i64 a0_1, .int .i64 a0_2, .int .i64 a0_3]) (t := 23) ?hr ?_; (case hd => rfl); (case hg => rfl); (case hr => first | (go_simp; done) | (go_simp; rfl)); intro gb221 hg w6 hbox hb; have n0_ := Aside0.mk (below_step (by repeat (first | (with_reducible first | exact HB.out | apply below_alloc | apply pw_below_drewN | apply below_drew1) | exact HB.out)) hb); have n1_ := Aside0.mk (hbox); have n2_ := Aside0.mk ((by rw [hg]; exact (below_size (by repeat (first | (with_reducible first | exact HB.out | apply below_alloc | apply pw_below_drewN | apply below_drew1) | exact HB.out))) : w.heap.size ≤ gb221)); have n3_ := Aside0.mk ((by rw [hg]; exact (below_size (by repeat (first | (with_reducible first | exact HB.out | apply below_alloc | apply pw_below_drewN | apply below_drew1) | exact HB.out))) : w.heap.size ≤ gb221)); clear HB; have HB := n0_; have BK221 := n1_; have GW221 := n2_; have GE221 := n3_; clear n0_ n1_ n2_ n3_; clear hb hbox hg) | (go_at_call 10; (with_reducible refine (crossbarlaw32_sane.calls k  true _ A3.out).mono ?_); rintro e w7 ⟨rfl, hb⟩; have n0_ := Aside0.mk (blk_below (g := gb221) (o := .cells #[.int .i64 a0_0, .int .i64 a0_1, .int .i64 a0_2, .int .i64 a0_3] 23 (0, 0)) (by (with_reducible repeat (first | refine blk_drewN ?_ _ | refine blk_drew ?_ | refine blk_alloc ?_ _)); exact BK221.out) hb); have n1_ := Aside0.mk (below_step (by repeat (first | (with_reducible first | exact HB.out | apply below_alloc | apply pw_below_drewN | apply below_drew1 | refine below_set ?_ GE221.out) | exact HB.out)) hb); clear BK221; clear HB; have BK221 := n0_; have HB := n1_; clear n0_ n1_; (try clear hb); (try clear hb2); (try clear hk); (try clear hi))); go_upto_region 3 with (first | ((with_reducible refine gate_dst (N := 2) rfl ?_); refine box_event ?hg (N := 2) ?hd (cs := #[.int .i64 a0_0, .int .i64 a0_1, .int .i64 a0_2, .int .i64 a0_3]) (t := 23) ?hr ?_; (case hd => rfl); (case hg => rfl); (case hr => first | (go_simp; done) | (go_simp; rfl)); intro gb221 hg w6 hbox hb; have n0_ := Aside0.mk (below_step (by repeat (first | (with_reducible first | exact HB.out | apply below_alloc | apply pw_below_drewN | apply below_drew1) | exact HB.out)) hb); have n1_ := Aside0.mk (hbox); have n2_ := Aside0.mk ((by rw [hg]; exact (below_size (by repeat (first | (with_reducible first | exact HB.out | apply below_alloc | apply pw_below_drewN | apply below_drew1) | exact HB.out))) : w.heap.size ≤ gb221)); have n3_ := Aside0.mk ((by rw [hg]; exact (below_size (by repeat (first | (with_reducible first | exact HB.out | apply below_alloc | apply pw_below_drewN | apply below_drew1) | exact HB.out))) : w.heap.size ≤ gb221)); clear HB; have HB := n0_; have BK221 := n1_; have GW221 := n2_; have GE221 := n3_; clear n0_ n1_ n2_ n3_; clear hb hbox hg) | (go_at_call 10; (with_reducible refine (crossbarlaw32_sane.calls k  true _ A3.out).mono ?_); rintro e w7 ⟨rfl, hb⟩; have n0_ := Aside0.mk (blk_below (g := gb221) (o := .cells #[.int .i64 a0_0, .int .i64 a0_1, .int .i64 a0_2, .int .i64 a0_3] 23 (0, 0)) (by (with_reducible repeat (first | refine blk_drewN ?_ _ | refine blk_drew ?_ | refine blk_alloc ?_ _)); exact BK221.out) hb); have n1_ := Aside0.mk (below_step (by repeat (first | (with_reducible first | exact HB.out | apply below_alloc | apply pw_below_drewN | apply below_drew1 | refine below_set ?_ GE221.out) | exact HB.out)) hb); clear BK221; clear HB; have BK221 := n0_; have HB := n1_; clear n0_ n1_; (try clear hb); (try clear hb2); (try clear hk); (try clear hi))))
    (try simp only [Act.put, List.setIfInBounds_toArray, List.set_cons_zero, List.set_cons_succ])
    go_cut [27] (fun v27 wc => ∃ (kq : Nat) (x27_4 : Bool), v27 = .bool x27_4 ∧ Aside0 (crossbarlaw32_OverloadBoundsRate.j0 kq l1 x27_4 a0_0 a0_1 a0_2 a0_3 = some r) ∧ Aside0 (kq ≤ k) ∧ Aside0 (wc.heap[gb221]? = some (.cells #[.int .i64 a0_0, .int .i64 a0_1, .int .i64 a0_2, .int .i64 a0_3] 23 (0, 0))) ∧ Aside0 (Below w.heap.size w wc))
    case first =>
      have H := HC5.out
      clear HC5
      by_cases c8 : (l1.length : Int) > 200
      · rw [if_pos c8] at H
        have c8b0 : decide (200 < (l1.length : Int)) = true := decide_eq_true c8
        have c8b1 : decide (200 < l1.length) = true := decide_eq_true (by omega)
        clear c8
        (first | rw [c8b0] | (simp only [i64_w, i32_w]; rw [c8b0]) | skip)
        have H' := Aside0.mk H
        clear H
        go_wp2
        repeat (go_quiet (fail); try go_wp2)
        go_meet
        case rel => exact ⟨_, (true), (by first | rfl | (simp; done) | (simp [*]; done)), H', ⟨by first | omega | exact Nat.le_refl _⟩, ⟨by (with_reducible repeat (first | refine blk_drewN ?_ _ | refine blk_drew ?_ | refine blk_alloc ?_ _)); exact BK221.out⟩, ⟨by repeat (first | (with_reducible first | exact HB.out | apply below_alloc | apply pw_below_drewN | apply below_drew1 | refine below_set ?_ GE221.out) | exact HB.out)⟩⟩
      · rw [if_neg c8] at H
        have c8b0 : decide (200 < (l1.length : Int)) = false := decide_eq_false c8
        have c8b1 : decide (200 < l1.length) = false := decide_eq_false (by omega)
        clear c8
        (first | rw [c8b0] | (simp only [i64_w, i32_w]; rw [c8b0]) | skip)
        replace H := Option.bind_eq_some_iff.mp H
        obtain ⟨t223, A90, H⟩ := H
        replace H : (if t223 = 0 then (crossbarlaw32_OverloadBoundsRate.j0 k l1 (decide (a0_1 > 549755813888)) a0_0 a0_1 a0_2 a0_3) else (crossbarlaw32_OverloadBoundsRate.j0 k l1 true a0_0 a0_1 a0_2 a0_3)) = some r := H
        have A9 := Aside0.mk A90
        clear A90
        by_cases c10 : t223 = 0
        · rw [if_pos c10] at H
          have c10b0 : (t223 == 0) = true := beq_iff_eq.mpr c10
          have c10b1 : (t223 != 0) = false := bne_eq_false_iff_eq.mpr c10
          clear c10
          have H' := Aside0.mk H
          clear H
          have hcz11_0 : w7.cell? ⟨gb221, 0, none⟩ = some (.int .i64 a0_0) := (blk_cell BK221.out 0).trans rfl
          have hcz11_1 : w7.cell? ⟨gb221, 1, none⟩ = some (.int .i64 a0_1) := (blk_cell BK221.out 1).trans rfl
          have hcz11_2 : w7.cell? ⟨gb221, 2, none⟩ = some (.int .i64 a0_2) := (blk_cell BK221.out 2).trans rfl
          have hcz11_3 : w7.cell? ⟨gb221, 3, none⟩ = some (.int .i64 a0_3) := (blk_cell BK221.out 3).trans rfl
          have hfz11_0 := blk_frozen BK221.out 0
          have hfz11_1 := blk_frozen BK221.out 1
          have hfz11_2 := blk_frozen BK221.out 2
          have hfz11_3 := blk_frozen BK221.out 3
          go_wp2_with (first | (go_at_call 15; (with_reducible refine (overload_Check.calls a0_0 a0_1 a0_2 a0_3 t223 _ A9.out).mono ?_); rintro e w12 ⟨rfl, hb⟩; have n0_ := Aside0.mk (blk_below (g := gb221) (o := .cells #[.int .i64 a0_0, .int .i64 a0_1, .int .i64 a0_2, .int .i64 a0_3] 23 (0, 0)) (by (with_reducible repeat (first | refine blk_drewN ?_ _ | refine blk_drew ?_ | refine blk_alloc ?_ _)); exact BK221.out) hb); have n1_ := Aside0.mk (below_step (by repeat (first | (with_reducible first | exact HB.out | apply below_alloc | apply pw_below_drewN | apply below_drew1 | refine below_set ?_ GE221.out) | exact HB.out)) hb); clear BK221; clear HB; have BK221 := n0_; have HB := n1_; clear n0_ n1_; (try clear hb); (try clear hb2); (try clear hk); (try clear hi); have hcz13_0 : w12.cell? ⟨gb221, 0, none⟩ = some (.int .i64 a0_0) := (blk_cell BK221.out 0).trans rfl; have hcz13_1 : w12.cell? ⟨gb221, 1, none⟩ = some (.int .i64 a0_1) := (blk_cell BK221.out 1).trans rfl; have hcz13_2 : w12.cell? ⟨gb221, 2, none⟩ = some (.int .i64 a0_2) := (blk_cell BK221.out 2).trans rfl; have hcz13_3 : w12.cell? ⟨gb221, 3, none⟩ = some (.int .i64 a0_3) := (blk_cell BK221.out 3).trans rfl; have hfz13_0 := blk_frozen BK221.out 0; have hfz13_1 := blk_frozen BK221.out 1; have hfz13_2 := blk_frozen BK221.out 2; have hfz13_3 := blk_frozen BK221.out 3))
          repeat (go_quiet (first | (go_at_call 15; (with_reducible refine (overload_Check.calls a0_0 a0_1 a0_2 a0_3 t223 _ A9.out).mono ?_); rintro e w12 ⟨rfl, hb⟩; have n0_ := Aside0.mk (blk_below (g := gb221) (o := .cells #[.int .i64 a0_0, .int .i64 a0_1, .int .i64 a0_2, .int .i64 a0_3] 23 (0, 0)) (by (with_reducible repeat (first | refine blk_drewN ?_ _ | refine blk_drew ?_ | refine blk_alloc ?_ _)); exact BK221.out) hb); have n1_ := Aside0.mk (below_step (by repeat (first | (with_reducible first | exact HB.out | apply below_alloc | apply pw_below_drewN | apply below_drew1 | refine below_set ?_ GE221.out) | exact HB.out)) hb); clear BK221; clear HB; have BK221 := n0_; have HB := n1_; clear n0_ n1_; (try clear hb); (try clear hb2); (try clear hk); (try clear hi); have hcz13_0 : w12.cell? ⟨gb221, 0, none⟩ = some (.int .i64 a0_0) := (blk_cell BK221.out 0).trans rfl; have hcz13_1 : w12.cell? ⟨gb221, 1, none⟩ = some (.int .i64 a0_1) := (blk_cell BK221.out 1).trans rfl; have hcz13_2 : w12.cell? ⟨gb221, 2, none⟩ = some (.int .i64 a0_2) := (blk_cell BK221.out 2).trans rfl; have hcz13_3 : w12.cell? ⟨gb221, 3, none⟩ = some (.int .i64 a0_3) := (blk_cell BK221.out 3).trans rfl; have hfz13_0 := blk_frozen BK221.out 0; have hfz13_1 := blk_frozen BK221.out 1; have hfz13_2 := blk_frozen BK221.out 2; have hfz13_3 := blk_frozen BK221.out 3)); try go_wp2_with (first | (go_at_call 15; (with_reducible refine (overload_Check.calls a0_0 a0_1 a0_2 a0_3 t223 _ A9.out).mono ?_); rintro e w12 ⟨rfl, hb⟩; have n0_ := Aside0.mk (blk_below (g := gb221) (o := .cells #[.int .i64 a0_0, .int .i64 a0_1, .int .i64 a0_2, .int .i64 a0_3] 23 (0, 0)) (by (with_reducible repeat (first | refine blk_drewN ?_ _ | refine blk_drew ?_ | refine blk_alloc ?_ _)); exact BK221.out) hb); have n1_ := Aside0.mk (below_step (by repeat (first | (with_reducible first | exact HB.out | apply below_alloc | apply pw_below_drewN | apply below_drew1 | refine below_set ?_ GE221.out) | exact HB.out)) hb); clear BK221; clear HB; have BK221 := n0_; have HB := n1_; clear n0_ n1_; (try clear hb); (try clear hb2); (try clear hk); (try clear hi); have hcz13_0 : w12.cell? ⟨gb221, 0, none⟩ = some (.int .i64 a0_0) := (blk_cell BK221.out 0).trans rfl; have hcz13_1 : w12.cell? ⟨gb221, 1, none⟩ = some (.int .i64 a0_1) := (blk_cell BK221.out 1).trans rfl; have hcz13_2 : w12.cell? ⟨gb221, 2, none⟩ = some (.int .i64 a0_2) := (blk_cell BK221.out 2).trans rfl; have hcz13_3 : w12.cell? ⟨gb221, 3, none⟩ = some (.int .i64 a0_3) := (blk_cell BK221.out 3).trans rfl; have hfz13_0 := blk_frozen BK221.out 0; have hfz13_1 := blk_frozen BK221.out 1; have hfz13_2 := blk_frozen BK221.out 2; have hfz13_3 := blk_frozen BK221.out 3)))
          go_meet
          case rel => exact ⟨_, (decide (a0_1 > 549755813888)), (by first | rfl | (simp; done) | (simp [*]; done)), H', ⟨by first | omega | exact Nat.le_refl _⟩, ⟨by (with_reducible repeat (first | refine blk_drewN ?_ _ | refine blk_drew ?_ | refine blk_alloc ?_ _)); exact BK221.out⟩, ⟨by repeat (first | (with_reducible first | exact HB.out | apply below_alloc | apply pw_below_drewN | apply below_drew1 | refine below_set ?_ GE221.out) | exact HB.out)⟩⟩
        · rw [if_neg c10] at H
          have c10b0 : (t223 == 0) = false := beq_eq_false_iff_ne.mpr c10
          have c10b1 : (t223 != 0) = true := bne_iff_ne.mpr c10
          have H' := Aside0.mk H
          clear H
          have hcz14_0 : w7.cell? ⟨gb221, 0, none⟩ = some (.int .i64 a0_0) := (blk_cell BK221.out 0).trans rfl
          have hcz14_1 : w7.cell? ⟨gb221, 1, none⟩ = some (.int .i64 a0_1) := (blk_cell BK221.out 1).trans rfl
          have hcz14_2 : w7.cell? ⟨gb221, 2, none⟩ = some (.int .i64 a0_2) := (blk_cell BK221.out 2).trans rfl
          have hcz14_3 : w7.cell? ⟨gb221, 3, none⟩ = some (.int .i64 a0_3) := (blk_cell BK221.out 3).trans rfl
          have hfz14_0 := blk_frozen BK221.out 0
          have hfz14_1 := blk_frozen BK221.out 1
          have hfz14_2 := blk_frozen BK221.out 2
          have hfz14_3 := blk_frozen BK221.out 3
          go_wp2_with (first | (go_at_call 15; (with_reducible refine (overload_Check.calls a0_0 a0_1 a0_2 a0_3 t223 _ A9.out).mono ?_); rintro e w15 ⟨rfl, hb⟩; have n0_ := Aside0.mk (blk_below (g := gb221) (o := .cells #[.int .i64 a0_0, .int .i64 a0_1, .int .i64 a0_2, .int .i64 a0_3] 23 (0, 0)) (by (with_reducible repeat (first | refine blk_drewN ?_ _ | refine blk_drew ?_ | refine blk_alloc ?_ _)); exact BK221.out) hb); have n1_ := Aside0.mk (below_step (by repeat (first | (with_reducible first | exact HB.out | apply below_alloc | apply pw_below_drewN | apply below_drew1 | refine below_set ?_ GE221.out) | exact HB.out)) hb); clear BK221; clear HB; have BK221 := n0_; have HB := n1_; clear n0_ n1_; (try clear hb); (try clear hb2); (try clear hk); (try clear hi)))
          repeat (go_quiet (first | (go_at_call 15; (with_reducible refine (overload_Check.calls a0_0 a0_1 a0_2 a0_3 t223 _ A9.out).mono ?_); rintro e w15 ⟨rfl, hb⟩; have n0_ := Aside0.mk (blk_below (g := gb221) (o := .cells #[.int .i64 a0_0, .int .i64 a0_1, .int .i64 a0_2, .int .i64 a0_3] 23 (0, 0)) (by (with_reducible repeat (first | refine blk_drewN ?_ _ | refine blk_drew ?_ | refine blk_alloc ?_ _)); exact BK221.out) hb); have n1_ := Aside0.mk (below_step (by repeat (first | (with_reducible first | exact HB.out | apply below_alloc | apply pw_below_drewN | apply below_drew1 | refine below_set ?_ GE221.out) | exact HB.out)) hb); clear BK221; clear HB; have BK221 := n0_; have HB := n1_; clear n0_ n1_; (try clear hb); (try clear hb2); (try clear hk); (try clear hi))); try go_wp2_with (first | (go_at_call 15; (with_reducible refine (overload_Check.calls a0_0 a0_1 a0_2 a0_3 t223 _ A9.out).mono ?_); rintro e w15 ⟨rfl, hb⟩; have n0_ := Aside0.mk (blk_below (g := gb221) (o := .cells #[.int .i64 a0_0, .int .i64 a0_1, .int .i64 a0_2, .int .i64 a0_3] 23 (0, 0)) (by (with_reducible repeat (first | refine blk_drewN ?_ _ | refine blk_drew ?_ | refine blk_alloc ?_ _)); exact BK221.out) hb); have n1_ := Aside0.mk (below_step (by repeat (first | (with_reducible first | exact HB.out | apply below_alloc | apply pw_below_drewN | apply below_drew1 | refine below_set ?_ GE221.out) | exact HB.out)) hb); clear BK221; clear HB; have BK221 := n0_; have HB := n1_; clear n0_ n1_; (try clear hb); (try clear hb2); (try clear hk); (try clear hi))))
          go_meet
          case rel => exact ⟨_, (true), (by first | rfl | (simp; done) | (simp [*]; done)), H', ⟨by first | omega | exact Nat.le_refl _⟩, ⟨by (with_reducible repeat (first | refine blk_drewN ?_ _ | refine blk_drew ?_ | refine blk_alloc ?_ _)); exact BK221.out⟩, ⟨by repeat (first | (with_reducible first | exact HB.out | apply below_alloc | apply pw_below_drewN | apply below_drew1 | refine below_set ?_ GE221.out) | exact HB.out)⟩⟩
    case rest =>
      clear HC5
      try clear c1
      try clear p2
      try clear c4
      try clear c5
      try clear c8
      try clear c8b0
      try clear c8b1
      try clear c10
      try clear c10b0
      try clear c10b1
      try clear hcz11_0
      try clear hcz11_1
      try clear hcz11_2
      try clear hcz11_3
      try clear hcz13_0
      try clear hcz13_1
      try clear hcz13_2
      try clear hcz13_3
      try clear hcz14_0
      try clear hcz14_1
      try clear hcz14_2
      try clear hcz14_3
      try clear hfz11_0
      try clear hfz11_1
      try clear hfz11_2
      try clear hfz11_3
      try clear hfz13_0
      try clear hfz13_1
      try clear hfz13_2
      try clear hfz13_3
      try clear hfz14_0
      try clear hfz14_1
      try clear hfz14_2
      try clear hfz14_3
      obtain ⟨kq, x27_4, rfl, HA, HJ4, BK221, HB⟩ := hcut
      cases kq with
      | zero => exact absurd HA.out (by simp [crossbarlaw32_OverloadBoundsRate.j0])
      | succ kj4 =>
        have H := HA.out
        clear HA
        simp only [crossbarlaw32_OverloadBoundsRate.j0] at H
        by_cases c16 : x27_4 = true
        · subst c16
          have H1 : (some true) = some r := by rw [if_pos rfl] at H; exact H
          clear H
          have H := H1
          clear H1
          obtain rfl := Option.some.inj H
          go_wp2
          repeat (go_quiet (fail); try go_wp2)
          go_ret
          exact ⟨by first | rfl | (simp [errW_none, errW_some] <;> rfl) | (simp [*, errW_none, errW_some] <;> rfl), by repeat (first | (with_reducible first | exact HB.out | apply below_alloc | apply pw_below_drewN | apply below_drew1 | refine below_set ?_ GE221.out) | exact HB.out)⟩
        · replace c16 := Bool.eq_false_iff.mpr c16
          subst c16
          have H1 : (crossbarlaw32_OverloadBoundsRate.l0 kj4 a0_1 0 0 l1 (l1.length : Int) 0 a0_0 a0_1 a0_2 a0_3) = some r := by rw [if_neg (show ¬ (false = true) by decide)] at H; exact H
          clear H
          have H := H1
          clear H1
          have H' := Aside0.mk H
          clear H
          have hcz17_0 : wc.cell? ⟨gb221, 0, none⟩ = some (.int .i64 a0_0) := (blk_cell BK221.out 0).trans rfl
          have hcz17_1 : wc.cell? ⟨gb221, 1, none⟩ = some (.int .i64 a0_1) := (blk_cell BK221.out 1).trans rfl
          have hcz17_2 : wc.cell? ⟨gb221, 2, none⟩ = some (.int .i64 a0_2) := (blk_cell BK221.out 2).trans rfl
          have hcz17_3 : wc.cell? ⟨gb221, 3, none⟩ = some (.int .i64 a0_3) := (blk_cell BK221.out 3).trans rfl
          have hfz17_0 := blk_frozen BK221.out 0
          have hfz17_1 := blk_frozen BK221.out 1
          have hfz17_2 := blk_frozen BK221.out 2
          have hfz17_3 := blk_frozen BK221.out 3
          go_wp2
          repeat (go_quiet (fail); try go_wp2)
          go_loopg [5, 6, 7, 32] kj4 (fun kq v5 v6 v7 v32 w' => ∃ (x5_2 : Int) (x6_2 : Int) (x7_2 : Int) (x32_2 : Int) (x222000_2 : Int) (x222001_2 : Int) (x222002_2 : Int) (x222003_2 : Int), v5 = .int .i64 x5_2 ∧ v6 = .int .i64 x6_2 ∧ v7 = .int .i64 x7_2 ∧ v32 = .int .i64 x32_2 ∧ Aside0 (crossbarlaw32_OverloadBoundsRate.l0 kq x5_2 x6_2 x7_2 l1 (l1.length : Int) x32_2 x222000_2 x222001_2 x222002_2 x222003_2 = some r) ∧ Aside0 (kq ≤ kj4) ∧ Aside0 (w'.heap[gb221]? = some (.cells #[.int .i64 x222000_2, .int .i64 x222001_2, .int .i64 x222002_2, .int .i64 x222003_2] 23 (0, 0))) ∧ Aside0 (Below w.heap.size w w'))
          case atStart => exact ⟨(a0_1), (0), (0), (0), (a0_0), (a0_1), (a0_2), (a0_3), (by first | rfl | (simp; done) | (simp [*]; done)), (by first | rfl | (simp; done) | (simp [*]; done)), (by first | rfl | (simp; done) | (simp [*]; done)), (by first | rfl | (simp; done) | (simp [*]; done)), H', ⟨Nat.le_refl _⟩, ⟨by (with_reducible repeat (first | refine blk_drewN ?_ _ | refine blk_drew ?_ | refine blk_alloc ?_ _)); exact BK221.out⟩, ⟨by repeat (first | (with_reducible first | exact HB.out | apply below_alloc | apply pw_below_drewN | apply below_drew1 | refine below_set ?_ GE221.out) | exact HB.out)⟩⟩
          case round =>
            clear H'
            try clear c1
            try clear p2
            try clear c4
            try clear c5
            try clear c8
            try clear c8b0
            try clear c8b1
            try clear c10
            try clear c10b0
            try clear c10b1
            try clear c16
            try clear hcz11_0
            try clear hcz11_1
            try clear hcz11_2
            try clear hcz11_3
            try clear hcz13_0
            try clear hcz13_1
            try clear hcz13_2
            try clear hcz13_3
            try clear hcz14_0
            try clear hcz14_1
            try clear hcz14_2
            try clear hcz14_3
            try clear hcz17_0
            try clear hcz17_1
            try clear hcz17_2
            try clear hcz17_3
            try clear hfz11_0
            try clear hfz11_1
            try clear hfz11_2
            try clear hfz11_3
            try clear hfz13_0
            try clear hfz13_1
            try clear hfz13_2
            try clear hfz13_3
            try clear hfz14_0
            try clear hfz14_1
            try clear hfz14_2
            try clear hfz14_3
            try clear hfz17_0
            try clear hfz17_1
            try clear hfz17_2
            try clear hfz17_3
            try clear p2
            obtain ⟨x5_2, x6_2, x7_2, x32_2, x222000_2, x222001_2, x222002_2, x222003_2, rfl, rfl, rfl, rfl, HA, HK2, BK221, HB⟩ := hrel
            cases gk with
            | zero => exact absurd HA.out (by simp [crossbarlaw32_OverloadBoundsRate.l0])
            | succ k2 =>
              have H := HA.out
              clear HA
              simp only [crossbarlaw32_OverloadBoundsRate.l0] at H
              by_cases c18 : x32_2 < (l1.length : Int)
              · rw [if_pos c18] at H
                have c18b0 : decide (x32_2 < (l1.length : Int)) = true := decide_eq_true c18
                clear c18
                by_cases c19 : 0 ≤ x32_2
                · rw [if_pos c19] at H
                  have c19b0 : decide (0 ≤ x32_2) = true := decide_eq_true c19
                  clear c19
                  by_cases c20 : x32_2 < (l1.length : Int)
                  · rw [if_pos c20] at H
                    have c20b0 : decide (x32_2 < (l1.length : Int)) = true := decide_eq_true c20
                    clear c20
                    have HC21 := Aside0.mk H
                    clear H
                    have p224 : 0 ≤ (x32_2 : Int) := of_decide_eq_true (by first | (with_reducible assumption) | assumption)
                    have q224 : x32_2 < (l1.length : Int) := of_decide_eq_true (by first | (with_reducible assumption) | assumption)
                    obtain ⟨ad224, e224, hx224_0, hx224_1⟩ := at_T38 HR1.out x32_2 p224 q224
                    cases e224
                    replace hx224_0 := (HB.out.cell (World.block_lt_of_cell? w _ hx224_0)).trans hx224_0
                    replace hx224_1 := (HB.out.cell (World.block_lt_of_cell? w _ hx224_1)).trans hx224_1
                    replace p224 := eq_true p224
                    replace q224 := eq_true q224
                    go_upto_if 43 with (first | ((with_reducible refine gate_dst (N := 9) rfl ?_); refine box_event ?hg (N := 9) ?hd (cs := #[.int .u16 0, .bool false]) (t := 38) ?hr ?_; (case hd => rfl); (case hg => rfl); (case hr => first | (go_simp; done) | (go_simp; rfl)); intro gb225 hg w22 hbox hb; have n0_ := Aside0.mk (blk_below (g := gb221) (o := .cells #[.int .i64 x222000_2, .int .i64 x222001_2, .int .i64 x222002_2, .int .i64 x222003_2] 23 (0, 0)) (by (with_reducible repeat (first | refine blk_drewN ?_ _ | refine blk_drew ?_ | refine blk_alloc ?_ _)); exact BK221.out) hb); have n1_ := Aside0.mk (below_step (by repeat (first | (with_reducible first | exact HB.out | apply below_alloc | apply pw_below_drewN | apply below_drew1 | refine below_set ?_ GE221.out) | exact HB.out)) hb); have n2_ := Aside0.mk (hbox); have n3_ := Aside0.mk ((by rw [hg]; exact (below_size (by repeat (first | (with_reducible first | exact HB.out | apply below_alloc | apply pw_below_drewN | apply below_drew1 | refine below_set ?_ GE221.out) | exact HB.out))) : w.heap.size ≤ gb225)); have n4_ := Aside0.mk ((by rw [hg]; exact (below_size (by repeat (first | (with_reducible first | exact HB.out | apply below_alloc | apply pw_below_drewN | apply below_drew1 | refine below_set ?_ GE221.out) | exact HB.out))) : w.heap.size ≤ gb225)); have n5_ := Aside0.mk ((by rw [hg]; exact Nat.ne_of_lt (blk_lt (g := gb221) (o := .cells #[.int .i64 x222000_2, .int .i64 x222001_2, .int .i64 x222002_2, .int .i64 x222003_2] 23 (0, 0)) (by (with_reducible repeat (first | refine blk_drewN ?_ _ | refine blk_drew ?_ | refine blk_alloc ?_ _)); exact BK221.out)) : gb221 ≠ gb225)); have n6_ := Aside0.mk ((by rw [hg]; exact Nat.ne_of_gt (blk_lt (g := gb221) (o := .cells #[.int .i64 x222000_2, .int .i64 x222001_2, .int .i64 x222002_2, .int .i64 x222003_2] 23 (0, 0)) (by (with_reducible repeat (first | refine blk_drewN ?_ _ | refine blk_drew ?_ | refine blk_alloc ?_ _)); exact BK221.out)) : gb225 ≠ gb221)); clear BK221; clear HB; have BK221 := n0_; have HB := n1_; have BK225 := n2_; have GW225 := n3_; have GE225 := n4_; have NB221_225 := n5_; have NB225_221 := n6_; clear n0_ n1_ n2_ n3_ n4_ n5_ n6_; clear hb hbox hg; have hnb23 := NB225_221.out; have hnc23 := NB221_225.out; have hcz24_0 : w22.cell? ⟨gb225, 0, none⟩ = some (.int .u16 0) := (blk_cell BK225.out 0).trans rfl; have hcz24_1 : w22.cell? ⟨gb225, 1, none⟩ = some (.bool false) := (blk_cell BK225.out 1).trans rfl; have hfz24_0 := blk_frozen BK225.out 0; have hfz24_1 := blk_frozen BK225.out 1))
                    repeat (go_quiet (first | ((with_reducible refine gate_dst (N := 9) rfl ?_); refine box_event ?hg (N := 9) ?hd (cs := #[.int .u16 0, .bool false]) (t := 38) ?hr ?_; (case hd => rfl); (case hg => rfl); (case hr => first | (go_simp; done) | (go_simp; rfl)); intro gb225 hg w22 hbox hb; have n0_ := Aside0.mk (blk_below (g := gb221) (o := .cells #[.int .i64 x222000_2, .int .i64 x222001_2, .int .i64 x222002_2, .int .i64 x222003_2] 23 (0, 0)) (by (with_reducible repeat (first | refine blk_drewN ?_ _ | refine blk_drew ?_ | refine blk_alloc ?_ _)); exact BK221.out) hb); have n1_ := Aside0.mk (below_step (by repeat (first | (with_reducible first | exact HB.out | apply below_alloc | apply pw_below_drewN | apply below_drew1 | refine below_set ?_ GE221.out) | exact HB.out)) hb); have n2_ := Aside0.mk (hbox); have n3_ := Aside0.mk ((by rw [hg]; exact (below_size (by repeat (first | (with_reducible first | exact HB.out | apply below_alloc | apply pw_below_drewN | apply below_drew1 | refine below_set ?_ GE221.out) | exact HB.out))) : w.heap.size ≤ gb225)); have n4_ := Aside0.mk ((by rw [hg]; exact (below_size (by repeat (first | (with_reducible first | exact HB.out | apply below_alloc | apply pw_below_drewN | apply below_drew1 | refine below_set ?_ GE221.out) | exact HB.out))) : w.heap.size ≤ gb225)); have n5_ := Aside0.mk ((by rw [hg]; exact Nat.ne_of_lt (blk_lt (g := gb221) (o := .cells #[.int .i64 x222000_2, .int .i64 x222001_2, .int .i64 x222002_2, .int .i64 x222003_2] 23 (0, 0)) (by (with_reducible repeat (first | refine blk_drewN ?_ _ | refine blk_drew ?_ | refine blk_alloc ?_ _)); exact BK221.out)) : gb221 ≠ gb225)); have n6_ := Aside0.mk ((by rw [hg]; exact Nat.ne_of_gt (blk_lt (g := gb221) (o := .cells #[.int .i64 x222000_2, .int .i64 x222001_2, .int .i64 x222002_2, .int .i64 x222003_2] 23 (0, 0)) (by (with_reducible repeat (first | refine blk_drewN ?_ _ | refine blk_drew ?_ | refine blk_alloc ?_ _)); exact BK221.out)) : gb225 ≠ gb221)); clear BK221; clear HB; have BK221 := n0_; have HB := n1_; have BK225 := n2_; have GW225 := n3_; have GE225 := n4_; have NB221_225 := n5_; have NB225_221 := n6_; clear n0_ n1_ n2_ n3_ n4_ n5_ n6_; clear hb hbox hg; have hnb23 := NB225_221.out; have hnc23 := NB221_225.out; have hcz24_0 : w22.cell? ⟨gb225, 0, none⟩ = some (.int .u16 0) := (blk_cell BK225.out 0).trans rfl; have hcz24_1 : w22.cell? ⟨gb225, 1, none⟩ = some (.bool false) := (blk_cell BK225.out 1).trans rfl; have hfz24_0 := blk_frozen BK225.out 0; have hfz24_1 := blk_frozen BK225.out 1)); go_upto_if 43 with (first | ((with_reducible refine gate_dst (N := 9) rfl ?_); refine box_event ?hg (N := 9) ?hd (cs := #[.int .u16 0, .bool false]) (t := 38) ?hr ?_; (case hd => rfl); (case hg => rfl); (case hr => first | (go_simp; done) | (go_simp; rfl)); intro gb225 hg w22 hbox hb; have n0_ := Aside0.mk (blk_below (g := gb221) (o := .cells #[.int .i64 x222000_2, .int .i64 x222001_2, .int .i64 x222002_2, .int .i64 x222003_2] 23 (0, 0)) (by (with_reducible repeat (first | refine blk_drewN ?_ _ | refine blk_drew ?_ | refine blk_alloc ?_ _)); exact BK221.out) hb); have n1_ := Aside0.mk (below_step (by repeat (first | (with_reducible first | exact HB.out | apply below_alloc | apply pw_below_drewN | apply below_drew1 | refine below_set ?_ GE221.out) | exact HB.out)) hb); have n2_ := Aside0.mk (hbox); have n3_ := Aside0.mk ((by rw [hg]; exact (below_size (by repeat (first | (with_reducible first | exact HB.out | apply below_alloc | apply pw_below_drewN | apply below_drew1 | refine below_set ?_ GE221.out) | exact HB.out))) : w.heap.size ≤ gb225)); have n4_ := Aside0.mk ((by rw [hg]; exact (below_size (by repeat (first | (with_reducible first | exact HB.out | apply below_alloc | apply pw_below_drewN | apply below_drew1 | refine below_set ?_ GE221.out) | exact HB.out))) : w.heap.size ≤ gb225)); have n5_ := Aside0.mk ((by rw [hg]; exact Nat.ne_of_lt (blk_lt (g := gb221) (o := .cells #[.int .i64 x222000_2, .int .i64 x222001_2, .int .i64 x222002_2, .int .i64 x222003_2] 23 (0, 0)) (by (with_reducible repeat (first | refine blk_drewN ?_ _ | refine blk_drew ?_ | refine blk_alloc ?_ _)); exact BK221.out)) : gb221 ≠ gb225)); have n6_ := Aside0.mk ((by rw [hg]; exact Nat.ne_of_gt (blk_lt (g := gb221) (o := .cells #[.int .i64 x222000_2, .int .i64 x222001_2, .int .i64 x222002_2, .int .i64 x222003_2] 23 (0, 0)) (by (with_reducible repeat (first | refine blk_drewN ?_ _ | refine blk_drew ?_ | refine blk_alloc ?_ _)); exact BK221.out)) : gb225 ≠ gb221)); clear BK221; clear HB; have BK221 := n0_; have HB := n1_; have BK225 := n2_; have GW225 := n3_; have GE225 := n4_; have NB221_225 := n5_; have NB225_221 := n6_; clear n0_ n1_ n2_ n3_ n4_ n5_ n6_; clear hb hbox hg; have hnb23 := NB225_221.out; have hnc23 := NB221_225.out; have hcz24_0 : w22.cell? ⟨gb225, 0, none⟩ = some (.int .u16 0) := (blk_cell BK225.out 0).trans rfl; have hcz24_1 : w22.cell? ⟨gb225, 1, none⟩ = some (.bool false) := (blk_cell BK225.out 1).trans rfl; have hfz24_0 := blk_frozen BK225.out 0; have hfz24_1 := blk_frozen BK225.out 1)))
                    (try simp only [Act.put, List.setIfInBounds_toArray, List.set_cons_zero, List.set_cons_succ])
                    go_cut [6] (fun v6 wc => ∃ (kq : Nat) (x6_20 : Int), v6 = .int .i64 x6_20 ∧ Aside0 (crossbarlaw32_OverloadBoundsRate.j2 kq (wrap64 (x5_2 + (wrap64 ((rd_T38 l1 x32_2).f0)))) x6_20 x7_2 l1 (l1.length : Int) x32_2 x222000_2 x222001_2 x222002_2 x222003_2 ((rd_T38 l1 x32_2).f0) ((rd_T38 l1 x32_2).f1) = some r) ∧ Aside0 (kq ≤ k2) ∧ Aside0 (wc.heap[gb221]? = some (.cells #[.int .i64 x222000_2, .int .i64 x222001_2, .int .i64 x222002_2, .int .i64 x222003_2] 23 (0, 0))) ∧ Aside0 (wc.heap[gb225]? = some (.cells #[.int .u16 ((rd_T38 l1 x32_2).f0), .bool ((rd_T38 l1 x32_2).f1)] 38 (0, 0))) ∧ Aside0 (Below w.heap.size w wc))
                    case first =>
                      have H := HC21.out
                      clear HC21
                      by_cases c25 : x32_2 = 0
                      · rw [if_pos c25] at H
                        have c25b0 : (x32_2 == 0) = true := beq_iff_eq.mpr c25
                        have c25b1 : (x32_2 != 0) = false := bne_eq_false_iff_eq.mpr c25
                        clear c25
                        (first | rw [c25b0] | (simp only [i64_w, i32_w]; rw [c25b0]) | skip)
                        have H' := Aside0.mk H
                        clear H
                        go_wp2
                        repeat (go_quiet (fail); try go_wp2)
                        go_meet
                        case rel => exact ⟨_, (wrap64 (x5_2 + (wrap64 ((rd_T38 l1 x32_2).f0)))), (by first | rfl | (simp; done) | (simp [*]; done)), H', ⟨by have := HJ4.out; have := HK2.out; first | omega | exact Nat.le_refl _⟩, ⟨by (with_reducible repeat (first | refine blk_drewN ?_ _ | refine blk_drew ?_ | refine blk_alloc ?_ _)); refine blk_far ?_ NB221_225.out _; (with_reducible repeat (first | refine blk_drewN ?_ _ | refine blk_drew ?_ | refine blk_alloc ?_ _)); refine blk_far ?_ NB221_225.out _; (with_reducible repeat (first | refine blk_drewN ?_ _ | refine blk_drew ?_ | refine blk_alloc ?_ _)); exact BK221.out⟩, ⟨by (with_reducible repeat (first | refine blk_drewN ?_ _ | refine blk_drew ?_ | refine blk_alloc ?_ _)); refine blk_put (cs := #[.int .u16 ((rd_T38 l1 x32_2).f0), .bool false]) ?_ 1 _ rfl; (with_reducible repeat (first | refine blk_drewN ?_ _ | refine blk_drew ?_ | refine blk_alloc ?_ _)); refine blk_put (cs := #[.int .u16 0, .bool false]) ?_ 0 _ rfl; (with_reducible repeat (first | refine blk_drewN ?_ _ | refine blk_drew ?_ | refine blk_alloc ?_ _)); exact BK225.out⟩, ⟨by repeat (first | (with_reducible first | exact HB.out | apply below_alloc | apply pw_below_drewN | apply below_drew1 | refine below_set ?_ GE221.out | refine below_set ?_ GE225.out) | exact HB.out)⟩⟩
                      · rw [if_neg c25] at H
                        have c25b0 : (x32_2 == 0) = false := beq_eq_false_iff_ne.mpr c25
                        have c25b1 : (x32_2 != 0) = true := bne_iff_ne.mpr c25
                        (first | rw [c25b0] | (simp only [i64_w, i32_w]; rw [c25b0]) | skip)
                        have H' := Aside0.mk H
                        clear H
                        go_wp2
                        repeat (go_quiet (fail); try go_wp2)
                        go_meet
                        case rel => exact ⟨_, (x6_2), (by first | rfl | (simp; done) | (simp [*]; done)), H', ⟨by have := HJ4.out; have := HK2.out; first | omega | exact Nat.le_refl _⟩, ⟨by (with_reducible repeat (first | refine blk_drewN ?_ _ | refine blk_drew ?_ | refine blk_alloc ?_ _)); refine blk_far ?_ NB221_225.out _; (with_reducible repeat (first | refine blk_drewN ?_ _ | refine blk_drew ?_ | refine blk_alloc ?_ _)); refine blk_far ?_ NB221_225.out _; (with_reducible repeat (first | refine blk_drewN ?_ _ | refine blk_drew ?_ | refine blk_alloc ?_ _)); exact BK221.out⟩, ⟨by (with_reducible repeat (first | refine blk_drewN ?_ _ | refine blk_drew ?_ | refine blk_alloc ?_ _)); refine blk_put (cs := #[.int .u16 ((rd_T38 l1 x32_2).f0), .bool false]) ?_ 1 _ rfl; (with_reducible repeat (first | refine blk_drewN ?_ _ | refine blk_drew ?_ | refine blk_alloc ?_ _)); refine blk_put (cs := #[.int .u16 0, .bool false]) ?_ 0 _ rfl; (with_reducible repeat (first | refine blk_drewN ?_ _ | refine blk_drew ?_ | refine blk_alloc ?_ _)); exact BK225.out⟩, ⟨by repeat (first | (with_reducible first | exact HB.out | apply below_alloc | apply pw_below_drewN | apply below_drew1 | refine below_set ?_ GE221.out | refine below_set ?_ GE225.out) | exact HB.out)⟩⟩
                    case rest =>
                      clear HC21
                      try clear c1
                      try clear c2
                      try clear p2
                      try clear q2
                      try clear hx2
                      try clear c4
                      try clear c5
                      try clear p6
                      try clear c8
                      try clear c8b0
                      try clear c8b1
                      try clear c10
                      try clear c10b0
                      try clear c10b1
                      try clear c16
                      try clear c18
                      try clear c18b0
                      try clear c19
                      try clear c19b0
                      try clear c20
                      try clear c20b0
                      try clear p22
                      try clear q22
                      try clear hx22
                      try clear c23
                      try clear c25
                      try clear c25b0
                      try clear c25b1
                      try clear hcz11_0
                      try clear hcz11_1
                      try clear hcz11_2
                      try clear hcz11_3
                      try clear hcz13_0
                      try clear hcz13_1
                      try clear hcz13_2
                      try clear hcz13_3
                      try clear hcz14_0
                      try clear hcz14_1
                      try clear hcz14_2
                      try clear hcz14_3
                      try clear hcz17_0
                      try clear hcz17_1
                      try clear hcz17_2
                      try clear hcz17_3
                      try clear hcz24_0
                      try clear hcz24_1
                      try clear hfz11_0
                      try clear hfz11_1
                      try clear hfz11_2
                      try clear hfz11_3
                      try clear hfz13_0
                      try clear hfz13_1
                      try clear hfz13_2
                      try clear hfz13_3
                      try clear hfz14_0
                      try clear hfz14_1
                      try clear hfz14_2
                      try clear hfz14_3
                      try clear hfz17_0
                      try clear hfz17_1
                      try clear hfz17_2
                      try clear hfz17_3
                      try clear hfz24_0
                      try clear hfz24_1
                      try clear hx224_0
                      try clear hx224_1
                      try clear p2
                      try clear p224
                      try clear q224
                      obtain ⟨kq, x6_20, rfl, HA, HJ20, BK221, BK225, HB⟩ := hcut
                      cases kq with
                      | zero => exact absurd HA.out (by simp [crossbarlaw32_OverloadBoundsRate.j2])
                      | succ kj20 =>
                        have H := HA.out
                        clear HA
                        simp only [crossbarlaw32_OverloadBoundsRate.j2] at H
                        replace H := Option.bind_eq_some_iff.mp H
                        obtain ⟨⟨t226, t227, t228, t229, t230, t231⟩, A260, H⟩ := H
                        replace H : (if t231 = 0 then ((overload_Check.f t226 t227 t228 t229).bind fun t233 => (if t233 = 0 then (if ((rd_T38 l1 x32_2).f1) = true then (if t230 = true then (if t228 = x222002_2 then (crossbarlaw32_OverloadBoundsRate.j3 kj20 (wrap64 (x5_2 + (wrap64 ((rd_T38 l1 x32_2).f0)))) x6_20 x7_2 t230 l1 (l1.length : Int) x32_2 (t229 != x222003_2) ((rd_T38 l1 x32_2).f0) ((rd_T38 l1 x32_2).f1) t226 t227 t228 t229) else (crossbarlaw32_OverloadBoundsRate.j3 kj20 (wrap64 (x5_2 + (wrap64 ((rd_T38 l1 x32_2).f0)))) x6_20 x7_2 t230 l1 (l1.length : Int) x32_2 true ((rd_T38 l1 x32_2).f0) ((rd_T38 l1 x32_2).f1) t226 t227 t228 t229)) else (crossbarlaw32_OverloadBoundsRate.j3 kj20 (wrap64 (x5_2 + (wrap64 ((rd_T38 l1 x32_2).f0)))) x6_20 x7_2 t230 l1 (l1.length : Int) x32_2 true ((rd_T38 l1 x32_2).f0) ((rd_T38 l1 x32_2).f1) t226 t227 t228 t229)) else (if t228 = x222002_2 then (crossbarlaw32_OverloadBoundsRate.j3 kj20 (wrap64 (x5_2 + (wrap64 ((rd_T38 l1 x32_2).f0)))) x6_20 x7_2 t230 l1 (l1.length : Int) x32_2 (t229 != x222003_2) ((rd_T38 l1 x32_2).f0) ((rd_T38 l1 x32_2).f1) t226 t227 t228 t229) else (crossbarlaw32_OverloadBoundsRate.j3 kj20 (wrap64 (x5_2 + (wrap64 ((rd_T38 l1 x32_2).f0)))) x6_20 x7_2 t230 l1 (l1.length : Int) x32_2 true ((rd_T38 l1 x32_2).f0) ((rd_T38 l1 x32_2).f1) t226 t227 t228 t229))) else (crossbarlaw32_OverloadBoundsRate.j3 kj20 (wrap64 (x5_2 + (wrap64 ((rd_T38 l1 x32_2).f0)))) x6_20 x7_2 t230 l1 (l1.length : Int) x32_2 true ((rd_T38 l1 x32_2).f0) ((rd_T38 l1 x32_2).f1) t226 t227 t228 t229))) else (crossbarlaw32_OverloadBoundsRate.j3 kj20 (wrap64 (x5_2 + (wrap64 ((rd_T38 l1 x32_2).f0)))) x6_20 x7_2 t230 l1 (l1.length : Int) x32_2 true ((rd_T38 l1 x32_2).f0) ((rd_T38 l1 x32_2).f1) t226 t227 t228 t229)) = some r := H
                        have A26 := Aside0.mk A260
                        clear A260
                        have HC27 := Aside0.mk H
                        clear H
                        have hnb28 := NB221_225.out
                        have hnc28 := NB225_221.out
                        have hcz29_0 : wc.cell? ⟨gb221, 0, none⟩ = some (.int .i64 x222000_2) := (blk_cell BK221.out 0).trans rfl
                        have hcz29_1 : wc.cell? ⟨gb221, 1, none⟩ = some (.int .i64 x222001_2) := (blk_cell BK221.out 1).trans rfl
                        have hcz29_2 : wc.cell? ⟨gb221, 2, none⟩ = some (.int .i64 x222002_2) := (blk_cell BK221.out 2).trans rfl
                        have hcz29_3 : wc.cell? ⟨gb221, 3, none⟩ = some (.int .i64 x222003_2) := (blk_cell BK221.out 3).trans rfl
                        have hfz29_0 := blk_frozen BK221.out 0
                        have hfz29_1 := blk_frozen BK221.out 1
                        have hfz29_2 := blk_frozen BK221.out 2
                        have hfz29_3 := blk_frozen BK221.out 3
                        have hcz30_0 : wc.cell? ⟨gb225, 0, none⟩ = some (.int .u16 ((rd_T38 l1 x32_2).f0)) := (blk_cell BK225.out 0).trans rfl
                        have hcz30_1 : wc.cell? ⟨gb225, 1, none⟩ = some (.bool ((rd_T38 l1 x32_2).f1)) := (blk_cell BK225.out 1).trans rfl
                        have hfz30_0 := blk_frozen BK225.out 0
                        have hfz30_1 := blk_frozen BK225.out 1
                        go_upto_region 15 with (first | (go_at_call 17; (with_reducible refine (overload_Admit.calls x222000_2 x222001_2 x222002_2 x222003_2 (wrap64 (x5_2 + (wrap64 ((rd_T38 l1 x32_2).f0)))) ((rd_T38 l1 x32_2).f1) t226 t227 t228 t229 t230 t231 _ A26.out).mono ?_); rintro e w31 ⟨rfl, hb⟩; have n0_ := Aside0.mk (blk_below (g := gb221) (o := .cells #[.int .i64 x222000_2, .int .i64 x222001_2, .int .i64 x222002_2, .int .i64 x222003_2] 23 (0, 0)) (by (with_reducible repeat (first | refine blk_drewN ?_ _ | refine blk_drew ?_ | refine blk_alloc ?_ _)); exact BK221.out) hb); have n1_ := Aside0.mk (blk_below (g := gb225) (o := .cells #[.int .u16 ((rd_T38 l1 x32_2).f0), .bool ((rd_T38 l1 x32_2).f1)] 38 (0, 0)) (by (with_reducible repeat (first | refine blk_drewN ?_ _ | refine blk_drew ?_ | refine blk_alloc ?_ _)); exact BK225.out) hb); have n2_ := Aside0.mk (below_step (by repeat (first | (with_reducible first | exact HB.out | apply below_alloc | apply pw_below_drewN | apply below_drew1 | refine below_set ?_ GE221.out | refine below_set ?_ GE225.out) | exact HB.out)) hb); clear BK221; clear BK225; clear HB; have BK221 := n0_; have BK225 := n1_; have HB := n2_; clear n0_ n1_ n2_; (try clear hb); (try clear hb2); (try clear hk); (try clear hi)) | ((with_reducible refine gate_dst (N := 10) rfl ?_); refine box_event ?hg (N := 10) ?hd (cs := #[.int .i64 0, .int .i64 0, .int .i64 0, .int .i64 0]) (t := 23) ?hr ?_; (case hd => rfl); (case hg => rfl); (case hr => first | (go_simp; done) | (go_simp; rfl)); intro gb232 hg w32 hbox hb; have n0_ := Aside0.mk (blk_below (g := gb221) (o := .cells #[.int .i64 x222000_2, .int .i64 x222001_2, .int .i64 x222002_2, .int .i64 x222003_2] 23 (0, 0)) (by (with_reducible repeat (first | refine blk_drewN ?_ _ | refine blk_drew ?_ | refine blk_alloc ?_ _)); exact BK221.out) hb); have n1_ := Aside0.mk (blk_below (g := gb225) (o := .cells #[.int .u16 ((rd_T38 l1 x32_2).f0), .bool ((rd_T38 l1 x32_2).f1)] 38 (0, 0)) (by (with_reducible repeat (first | refine blk_drewN ?_ _ | refine blk_drew ?_ | refine blk_alloc ?_ _)); exact BK225.out) hb); have n2_ := Aside0.mk (below_step (by repeat (first | (with_reducible first | exact HB.out | apply below_alloc | apply pw_below_drewN | apply below_drew1 | refine below_set ?_ GE221.out | refine below_set ?_ GE225.out) | exact HB.out)) hb); have n3_ := Aside0.mk (hbox); have n4_ := Aside0.mk ((by rw [hg]; exact (below_size (by repeat (first | (with_reducible first | exact HB.out | apply below_alloc | apply pw_below_drewN | apply below_drew1 | refine below_set ?_ GE221.out | refine below_set ?_ GE225.out) | exact HB.out))) : w.heap.size ≤ gb232)); have n5_ := Aside0.mk ((by rw [hg]; exact (below_size (by repeat (first | (with_reducible first | exact HB.out | apply below_alloc | apply pw_below_drewN | apply below_drew1 | refine below_set ?_ GE221.out | refine below_set ?_ GE225.out) | exact HB.out))) : w.heap.size ≤ gb232)); have n6_ := Aside0.mk ((by rw [hg]; exact Nat.ne_of_lt (blk_lt (g := gb221) (o := .cells #[.int .i64 x222000_2, .int .i64 x222001_2, .int .i64 x222002_2, .int .i64 x222003_2] 23 (0, 0)) (by (with_reducible repeat (first | refine blk_drewN ?_ _ | refine blk_drew ?_ | refine blk_alloc ?_ _)); exact BK221.out)) : gb221 ≠ gb232)); have n7_ := Aside0.mk ((by rw [hg]; exact Nat.ne_of_gt (blk_lt (g := gb221) (o := .cells #[.int .i64 x222000_2, .int .i64 x222001_2, .int .i64 x222002_2, .int .i64 x222003_2] 23 (0, 0)) (by (with_reducible repeat (first | refine blk_drewN ?_ _ | refine blk_drew ?_ | refine blk_alloc ?_ _)); exact BK221.out)) : gb232 ≠ gb221)); have n8_ := Aside0.mk ((by rw [hg]; exact Nat.ne_of_lt (blk_lt (g := gb225) (o := .cells #[.int .u16 ((rd_T38 l1 x32_2).f0), .bool ((rd_T38 l1 x32_2).f1)] 38 (0, 0)) (by (with_reducible repeat (first | refine blk_drewN ?_ _ | refine blk_drew ?_ | refine blk_alloc ?_ _)); exact BK225.out)) : gb225 ≠ gb232)); have n9_ := Aside0.mk ((by rw [hg]; exact Nat.ne_of_gt (blk_lt (g := gb225) (o := .cells #[.int .u16 ((rd_T38 l1 x32_2).f0), .bool ((rd_T38 l1 x32_2).f1)] 38 (0, 0)) (by (with_reducible repeat (first | refine blk_drewN ?_ _ | refine blk_drew ?_ | refine blk_alloc ?_ _)); exact BK225.out)) : gb232 ≠ gb225)); clear BK221; clear BK225; clear HB; have BK221 := n0_; have BK225 := n1_; have HB := n2_; have BK232 := n3_; have GW232 := n4_; have GE232 := n5_; have NB221_232 := n6_; have NB232_221 := n7_; have NB225_232 := n8_; have NB232_225 := n9_; clear n0_ n1_ n2_ n3_ n4_ n5_ n6_ n7_ n8_ n9_; clear hb hbox hg; have hnb33 := NB232_221.out; have hnc33 := NB221_232.out; have hnb34 := NB232_225.out; have hnc34 := NB225_232.out; have hcz35_0 : w32.cell? ⟨gb232, 0, none⟩ = some (.int .i64 0) := (blk_cell BK232.out 0).trans rfl; have hcz35_1 : w32.cell? ⟨gb232, 1, none⟩ = some (.int .i64 0) := (blk_cell BK232.out 1).trans rfl; have hcz35_2 : w32.cell? ⟨gb232, 2, none⟩ = some (.int .i64 0) := (blk_cell BK232.out 2).trans rfl; have hcz35_3 : w32.cell? ⟨gb232, 3, none⟩ = some (.int .i64 0) := (blk_cell BK232.out 3).trans rfl; have hfz35_0 := blk_frozen BK232.out 0; have hfz35_1 := blk_frozen BK232.out 1; have hfz35_2 := blk_frozen BK232.out 2; have hfz35_3 := blk_frozen BK232.out 3))
                        repeat (go_quiet (first | (go_at_call 17; (with_reducible refine (overload_Admit.calls x222000_2 x222001_2 x222002_2 x222003_2 (wrap64 (x5_2 + (wrap64 ((rd_T38 l1 x32_2).f0)))) ((rd_T38 l1 x32_2).f1) t226 t227 t228 t229 t230 t231 _ A26.out).mono ?_); rintro e w31 ⟨rfl, hb⟩; have n0_ := Aside0.mk (blk_below (g := gb221) (o := .cells #[.int .i64 x222000_2, .int .i64 x222001_2, .int .i64 x222002_2, .int .i64 x222003_2] 23 (0, 0)) (by (with_reducible repeat (first | refine blk_drewN ?_ _ | refine blk_drew ?_ | refine blk_alloc ?_ _)); exact BK221.out) hb); have n1_ := Aside0.mk (blk_below (g := gb225) (o := .cells #[.int .u16 ((rd_T38 l1 x32_2).f0), .bool ((rd_T38 l1 x32_2).f1)] 38 (0, 0)) (by (with_reducible repeat (first | refine blk_drewN ?_ _ | refine blk_drew ?_ | refine blk_alloc ?_ _)); exact BK225.out) hb); have n2_ := Aside0.mk (below_step (by repeat (first | (with_reducible first | exact HB.out | apply below_alloc | apply pw_below_drewN | apply below_drew1 | refine below_set ?_ GE221.out | refine below_set ?_ GE225.out) | exact HB.out)) hb); clear BK221; clear BK225; clear HB; have BK221 := n0_; have BK225 := n1_; have HB := n2_; clear n0_ n1_ n2_; (try clear hb); (try clear hb2); (try clear hk); (try clear hi)) | ((with_reducible refine gate_dst (N := 10) rfl ?_); refine box_event ?hg (N := 10) ?hd (cs := #[.int .i64 0, .int .i64 0, .int .i64 0, .int .i64 0]) (t := 23) ?hr ?_; (case hd => rfl); (case hg => rfl); (case hr => first | (go_simp; done) | (go_simp; rfl)); intro gb232 hg w32 hbox hb; have n0_ := Aside0.mk (blk_below (g := gb221) (o := .cells #[.int .i64 x222000_2, .int .i64 x222001_2, .int .i64 x222002_2, .int .i64 x222003_2] 23 (0, 0)) (by (with_reducible repeat (first | refine blk_drewN ?_ _ | refine blk_drew ?_ | refine blk_alloc ?_ _)); exact BK221.out) hb); have n1_ := Aside0.mk (blk_below (g := gb225) (o := .cells #[.int .u16 ((rd_T38 l1 x32_2).f0), .bool ((rd_T38 l1 x32_2).f1)] 38 (0, 0)) (by (with_reducible repeat (first | refine blk_drewN ?_ _ | refine blk_drew ?_ | refine blk_alloc ?_ _)); exact BK225.out) hb); have n2_ := Aside0.mk (below_step (by repeat (first | (with_reducible first | exact HB.out | apply below_alloc | apply pw_below_drewN | apply below_drew1 | refine below_set ?_ GE221.out | refine below_set ?_ GE225.out) | exact HB.out)) hb); have n3_ := Aside0.mk (hbox); have n4_ := Aside0.mk ((by rw [hg]; exact (below_size (by repeat (first | (with_reducible first | exact HB.out | apply below_alloc | apply pw_below_drewN | apply below_drew1 | refine below_set ?_ GE221.out | refine below_set ?_ GE225.out) | exact HB.out))) : w.heap.size ≤ gb232)); have n5_ := Aside0.mk ((by rw [hg]; exact (below_size (by repeat (first | (with_reducible first | exact HB.out | apply below_alloc | apply pw_below_drewN | apply below_drew1 | refine below_set ?_ GE221.out | refine below_set ?_ GE225.out) | exact HB.out))) : w.heap.size ≤ gb232)); have n6_ := Aside0.mk ((by rw [hg]; exact Nat.ne_of_lt (blk_lt (g := gb221) (o := .cells #[.int .i64 x222000_2, .int .i64 x222001_2, .int .i64 x222002_2, .int .i64 x222003_2] 23 (0, 0)) (by (with_reducible repeat (first | refine blk_drewN ?_ _ | refine blk_drew ?_ | refine blk_alloc ?_ _)); exact BK221.out)) : gb221 ≠ gb232)); have n7_ := Aside0.mk ((by rw [hg]; exact Nat.ne_of_gt (blk_lt (g := gb221) (o := .cells #[.int .i64 x222000_2, .int .i64 x222001_2, .int .i64 x222002_2, .int .i64 x222003_2] 23 (0, 0)) (by (with_reducible repeat (first | refine blk_drewN ?_ _ | refine blk_drew ?_ | refine blk_alloc ?_ _)); exact BK221.out)) : gb232 ≠ gb221)); have n8_ := Aside0.mk ((by rw [hg]; exact Nat.ne_of_lt (blk_lt (g := gb225) (o := .cells #[.int .u16 ((rd_T38 l1 x32_2).f0), .bool ((rd_T38 l1 x32_2).f1)] 38 (0, 0)) (by (with_reducible repeat (first | refine blk_drewN ?_ _ | refine blk_drew ?_ | refine blk_alloc ?_ _)); exact BK225.out)) : gb225 ≠ gb232)); have n9_ := Aside0.mk ((by rw [hg]; exact Nat.ne_of_gt (blk_lt (g := gb225) (o := .cells #[.int .u16 ((rd_T38 l1 x32_2).f0), .bool ((rd_T38 l1 x32_2).f1)] 38 (0, 0)) (by (with_reducible repeat (first | refine blk_drewN ?_ _ | refine blk_drew ?_ | refine blk_alloc ?_ _)); exact BK225.out)) : gb232 ≠ gb225)); clear BK221; clear BK225; clear HB; have BK221 := n0_; have BK225 := n1_; have HB := n2_; have BK232 := n3_; have GW232 := n4_; have GE232 := n5_; have NB221_232 := n6_; have NB232_221 := n7_; have NB225_232 := n8_; have NB232_225 := n9_; clear n0_ n1_ n2_ n3_ n4_ n5_ n6_ n7_ n8_ n9_; clear hb hbox hg; have hnb33 := NB232_221.out; have hnc33 := NB221_232.out; have hnb34 := NB232_225.out; have hnc34 := NB225_232.out; have hcz35_0 : w32.cell? ⟨gb232, 0, none⟩ = some (.int .i64 0) := (blk_cell BK232.out 0).trans rfl; have hcz35_1 : w32.cell? ⟨gb232, 1, none⟩ = some (.int .i64 0) := (blk_cell BK232.out 1).trans rfl; have hcz35_2 : w32.cell? ⟨gb232, 2, none⟩ = some (.int .i64 0) := (blk_cell BK232.out 2).trans rfl; have hcz35_3 : w32.cell? ⟨gb232, 3, none⟩ = some (.int .i64 0) := (blk_cell BK232.out 3).trans rfl; have hfz35_0 := blk_frozen BK232.out 0; have hfz35_1 := blk_frozen BK232.out 1; have hfz35_2 := blk_frozen BK232.out 2; have hfz35_3 := blk_frozen BK232.out 3)); go_upto_region 15 with (first | (go_at_call 17; (with_reducible refine (overload_Admit.calls x222000_2 x222001_2 x222002_2 x222003_2 (wrap64 (x5_2 + (wrap64 ((rd_T38 l1 x32_2).f0)))) ((rd_T38 l1 x32_2).f1) t226 t227 t228 t229 t230 t231 _ A26.out).mono ?_); rintro e w31 ⟨rfl, hb⟩; have n0_ := Aside0.mk (blk_below (g := gb221) (o := .cells #[.int .i64 x222000_2, .int .i64 x222001_2, .int .i64 x222002_2, .int .i64 x222003_2] 23 (0, 0)) (by (with_reducible repeat (first | refine blk_drewN ?_ _ | refine blk_drew ?_ | refine blk_alloc ?_ _)); exact BK221.out) hb); have n1_ := Aside0.mk (blk_below (g := gb225) (o := .cells #[.int .u16 ((rd_T38 l1 x32_2).f0), .bool ((rd_T38 l1 x32_2).f1)] 38 (0, 0)) (by (with_reducible repeat (first | refine blk_drewN ?_ _ | refine blk_drew ?_ | refine blk_alloc ?_ _)); exact BK225.out) hb); have n2_ := Aside0.mk (below_step (by repeat (first | (with_reducible first | exact HB.out | apply below_alloc | apply pw_below_drewN | apply below_drew1 | refine below_set ?_ GE221.out | refine below_set ?_ GE225.out) | exact HB.out)) hb); clear BK221; clear BK225; clear HB; have BK221 := n0_; have BK225 := n1_; have HB := n2_; clear n0_ n1_ n2_; (try clear hb); (try clear hb2); (try clear hk); (try clear hi)) | ((with_reducible refine gate_dst (N := 10) rfl ?_); refine box_event ?hg (N := 10) ?hd (cs := #[.int .i64 0, .int .i64 0, .int .i64 0, .int .i64 0]) (t := 23) ?hr ?_; (case hd => rfl); (case hg => rfl); (case hr => first | (go_simp; done) | (go_simp; rfl)); intro gb232 hg w32 hbox hb; have n0_ := Aside0.mk (blk_below (g := gb221) (o := .cells #[.int .i64 x222000_2, .int .i64 x222001_2, .int .i64 x222002_2, .int .i64 x222003_2] 23 (0, 0)) (by (with_reducible repeat (first | refine blk_drewN ?_ _ | refine blk_drew ?_ | refine blk_alloc ?_ _)); exact BK221.out) hb); have n1_ := Aside0.mk (blk_below (g := gb225) (o := .cells #[.int .u16 ((rd_T38 l1 x32_2).f0), .bool ((rd_T38 l1 x32_2).f1)] 38 (0, 0)) (by (with_reducible repeat (first | refine blk_drewN ?_ _ | refine blk_drew ?_ | refine blk_alloc ?_ _)); exact BK225.out) hb); have n2_ := Aside0.mk (below_step (by repeat (first | (with_reducible first | exact HB.out | apply below_alloc | apply pw_below_drewN | apply below_drew1 | refine below_set ?_ GE221.out | refine below_set ?_ GE225.out) | exact HB.out)) hb); have n3_ := Aside0.mk (hbox); have n4_ := Aside0.mk ((by rw [hg]; exact (below_size (by repeat (first | (with_reducible first | exact HB.out | apply below_alloc | apply pw_below_drewN | apply below_drew1 | refine below_set ?_ GE221.out | refine below_set ?_ GE225.out) | exact HB.out))) : w.heap.size ≤ gb232)); have n5_ := Aside0.mk ((by rw [hg]; exact (below_size (by repeat (first | (with_reducible first | exact HB.out | apply below_alloc | apply pw_below_drewN | apply below_drew1 | refine below_set ?_ GE221.out | refine below_set ?_ GE225.out) | exact HB.out))) : w.heap.size ≤ gb232)); have n6_ := Aside0.mk ((by rw [hg]; exact Nat.ne_of_lt (blk_lt (g := gb221) (o := .cells #[.int .i64 x222000_2, .int .i64 x222001_2, .int .i64 x222002_2, .int .i64 x222003_2] 23 (0, 0)) (by (with_reducible repeat (first | refine blk_drewN ?_ _ | refine blk_drew ?_ | refine blk_alloc ?_ _)); exact BK221.out)) : gb221 ≠ gb232)); have n7_ := Aside0.mk ((by rw [hg]; exact Nat.ne_of_gt (blk_lt (g := gb221) (o := .cells #[.int .i64 x222000_2, .int .i64 x222001_2, .int .i64 x222002_2, .int .i64 x222003_2] 23 (0, 0)) (by (with_reducible repeat (first | refine blk_drewN ?_ _ | refine blk_drew ?_ | refine blk_alloc ?_ _)); exact BK221.out)) : gb232 ≠ gb221)); have n8_ := Aside0.mk ((by rw [hg]; exact Nat.ne_of_lt (blk_lt (g := gb225) (o := .cells #[.int .u16 ((rd_T38 l1 x32_2).f0), .bool ((rd_T38 l1 x32_2).f1)] 38 (0, 0)) (by (with_reducible repeat (first | refine blk_drewN ?_ _ | refine blk_drew ?_ | refine blk_alloc ?_ _)); exact BK225.out)) : gb225 ≠ gb232)); have n9_ := Aside0.mk ((by rw [hg]; exact Nat.ne_of_gt (blk_lt (g := gb225) (o := .cells #[.int .u16 ((rd_T38 l1 x32_2).f0), .bool ((rd_T38 l1 x32_2).f1)] 38 (0, 0)) (by (with_reducible repeat (first | refine blk_drewN ?_ _ | refine blk_drew ?_ | refine blk_alloc ?_ _)); exact BK225.out)) : gb232 ≠ gb225)); clear BK221; clear BK225; clear HB; have BK221 := n0_; have BK225 := n1_; have HB := n2_; have BK232 := n3_; have GW232 := n4_; have GE232 := n5_; have NB221_232 := n6_; have NB232_221 := n7_; have NB225_232 := n8_; have NB232_225 := n9_; clear n0_ n1_ n2_ n3_ n4_ n5_ n6_ n7_ n8_ n9_; clear hb hbox hg; have hnb33 := NB232_221.out; have hnc33 := NB221_232.out; have hnb34 := NB232_225.out; have hnc34 := NB225_232.out; have hcz35_0 : w32.cell? ⟨gb232, 0, none⟩ = some (.int .i64 0) := (blk_cell BK232.out 0).trans rfl; have hcz35_1 : w32.cell? ⟨gb232, 1, none⟩ = some (.int .i64 0) := (blk_cell BK232.out 1).trans rfl; have hcz35_2 : w32.cell? ⟨gb232, 2, none⟩ = some (.int .i64 0) := (blk_cell BK232.out 2).trans rfl; have hcz35_3 : w32.cell? ⟨gb232, 3, none⟩ = some (.int .i64 0) := (blk_cell BK232.out 3).trans rfl; have hfz35_0 := blk_frozen BK232.out 0; have hfz35_1 := blk_frozen BK232.out 1; have hfz35_2 := blk_frozen BK232.out 2; have hfz35_3 := blk_frozen BK232.out 3)))
                        (try simp only [Act.put, List.setIfInBounds_toArray, List.set_cons_zero, List.set_cons_succ])
                        go_cut [82] (fun v82 wc => ∃ (kq : Nat) (x82_26 : Bool), v82 = .bool x82_26 ∧ Aside0 (crossbarlaw32_OverloadBoundsRate.j3 kq (wrap64 (x5_2 + (wrap64 ((rd_T38 l1 x32_2).f0)))) x6_20 x7_2 t230 l1 (l1.length : Int) x32_2 x82_26 ((rd_T38 l1 x32_2).f0) ((rd_T38 l1 x32_2).f1) t226 t227 t228 t229 = some r) ∧ Aside0 (kq ≤ kj20) ∧ Aside0 (wc.heap[gb221]? = some (.cells #[.int .i64 x222000_2, .int .i64 x222001_2, .int .i64 x222002_2, .int .i64 x222003_2] 23 (0, 0))) ∧ Aside0 (wc.heap[gb225]? = some (.cells #[.int .u16 ((rd_T38 l1 x32_2).f0), .bool ((rd_T38 l1 x32_2).f1)] 38 (0, 0))) ∧ Aside0 (wc.heap[gb232]? = some (.cells #[.int .i64 t226, .int .i64 t227, .int .i64 t228, .int .i64 t229] 23 (0, 0))) ∧ Aside0 (Below w.heap.size w wc))
                        case first =>
                          have H := HC27.out
                          clear HC27
                          by_cases c36 : t231 = 0
                          · rw [if_pos c36] at H
                            have c36b0 : (t231 == 0) = true := beq_iff_eq.mpr c36
                            have c36b1 : (t231 != 0) = false := bne_eq_false_iff_eq.mpr c36
                            clear c36
                            (first | rw [c36b0] | (simp only [i64_w, i32_w]; rw [c36b0]) | skip)
                            replace H := Option.bind_eq_some_iff.mp H
                            obtain ⟨t233, A370, H⟩ := H
                            replace H : (if t233 = 0 then (if ((rd_T38 l1 x32_2).f1) = true then (if t230 = true then (if t228 = x222002_2 then (crossbarlaw32_OverloadBoundsRate.j3 kj20 (wrap64 (x5_2 + (wrap64 ((rd_T38 l1 x32_2).f0)))) x6_20 x7_2 t230 l1 (l1.length : Int) x32_2 (t229 != x222003_2) ((rd_T38 l1 x32_2).f0) ((rd_T38 l1 x32_2).f1) t226 t227 t228 t229) else (crossbarlaw32_OverloadBoundsRate.j3 kj20 (wrap64 (x5_2 + (wrap64 ((rd_T38 l1 x32_2).f0)))) x6_20 x7_2 t230 l1 (l1.length : Int) x32_2 true ((rd_T38 l1 x32_2).f0) ((rd_T38 l1 x32_2).f1) t226 t227 t228 t229)) else (crossbarlaw32_OverloadBoundsRate.j3 kj20 (wrap64 (x5_2 + (wrap64 ((rd_T38 l1 x32_2).f0)))) x6_20 x7_2 t230 l1 (l1.length : Int) x32_2 true ((rd_T38 l1 x32_2).f0) ((rd_T38 l1 x32_2).f1) t226 t227 t228 t229)) else (if t228 = x222002_2 then (crossbarlaw32_OverloadBoundsRate.j3 kj20 (wrap64 (x5_2 + (wrap64 ((rd_T38 l1 x32_2).f0)))) x6_20 x7_2 t230 l1 (l1.length : Int) x32_2 (t229 != x222003_2) ((rd_T38 l1 x32_2).f0) ((rd_T38 l1 x32_2).f1) t226 t227 t228 t229) else (crossbarlaw32_OverloadBoundsRate.j3 kj20 (wrap64 (x5_2 + (wrap64 ((rd_T38 l1 x32_2).f0)))) x6_20 x7_2 t230 l1 (l1.length : Int) x32_2 true ((rd_T38 l1 x32_2).f0) ((rd_T38 l1 x32_2).f1) t226 t227 t228 t229))) else (crossbarlaw32_OverloadBoundsRate.j3 kj20 (wrap64 (x5_2 + (wrap64 ((rd_T38 l1 x32_2).f0)))) x6_20 x7_2 t230 l1 (l1.length : Int) x32_2 true ((rd_T38 l1 x32_2).f0) ((rd_T38 l1 x32_2).f1) t226 t227 t228 t229)) = some r := H
                            have A37 := Aside0.mk A370
                            clear A370
                            by_cases c38 : t233 = 0
                            · rw [if_pos c38] at H
                              have c38b0 : (t233 == 0) = true := beq_iff_eq.mpr c38
                              have c38b1 : (t233 != 0) = false := bne_eq_false_iff_eq.mpr c38
                              clear c38
                              by_cases c39 : ((rd_T38 l1 x32_2).f1) = true
                              · rw [if_pos c39] at H
                                have c39b0 : ((rd_T38 l1 x32_2).f1) = true := c39
                                clear c39
                                by_cases c40 : t230 = true
                                · subst c40
                                  have H1 : (if t228 = x222002_2 then (crossbarlaw32_OverloadBoundsRate.j3 kj20 (wrap64 (x5_2 + (wrap64 ((rd_T38 l1 x32_2).f0)))) x6_20 x7_2 true l1 (l1.length : Int) x32_2 (t229 != x222003_2) ((rd_T38 l1 x32_2).f0) ((rd_T38 l1 x32_2).f1) t226 t227 t228 t229) else (crossbarlaw32_OverloadBoundsRate.j3 kj20 (wrap64 (x5_2 + (wrap64 ((rd_T38 l1 x32_2).f0)))) x6_20 x7_2 true l1 (l1.length : Int) x32_2 true ((rd_T38 l1 x32_2).f0) ((rd_T38 l1 x32_2).f1) t226 t227 t228 t229)) = some r := by rw [if_pos rfl] at H; exact H
                                  clear H
                                  have H := H1
                                  clear H1
                                  by_cases c41 : t228 = x222002_2
                                  · rw [if_pos c41] at H
                                    have c41b0 : (t228 == x222002_2) = true := beq_iff_eq.mpr c41
                                    have c41b1 : (t228 != x222002_2) = false := bne_eq_false_iff_eq.mpr c41
                                    clear c41
                                    have H' := Aside0.mk H
                                    clear H
                                    have hnb42 := NB232_221.out
                                    have hnc42 := NB221_232.out
                                    have hnb43 := NB232_225.out
                                    have hnc43 := NB225_232.out
                                    have hcz44_0 : w32.cell? ⟨gb232, 0, none⟩ = some (.int .i64 0) := (blk_cell BK232.out 0).trans rfl
                                    have hcz44_1 : w32.cell? ⟨gb232, 1, none⟩ = some (.int .i64 0) := (blk_cell BK232.out 1).trans rfl
                                    have hcz44_2 : w32.cell? ⟨gb232, 2, none⟩ = some (.int .i64 0) := (blk_cell BK232.out 2).trans rfl
                                    have hcz44_3 : w32.cell? ⟨gb232, 3, none⟩ = some (.int .i64 0) := (blk_cell BK232.out 3).trans rfl
                                    have hfz44_0 := blk_frozen BK232.out 0
                                    have hfz44_1 := blk_frozen BK232.out 1
                                    have hfz44_2 := blk_frozen BK232.out 2
                                    have hfz44_3 := blk_frozen BK232.out 3
                                    go_wp2_with (first | (go_at_call 15; (with_reducible refine (overload_Check.calls t226 t227 t228 t229 t233 _ A37.out).mono ?_); rintro e w45 ⟨rfl, hb⟩; have n0_ := Aside0.mk (blk_below (g := gb221) (o := .cells #[.int .i64 x222000_2, .int .i64 x222001_2, .int .i64 x222002_2, .int .i64 x222003_2] 23 (0, 0)) (by (with_reducible repeat (first | refine blk_drewN ?_ _ | refine blk_drew ?_ | refine blk_alloc ?_ _)); refine blk_far ?_ NB221_232.out _; (with_reducible repeat (first | refine blk_drewN ?_ _ | refine blk_drew ?_ | refine blk_alloc ?_ _)); refine blk_far ?_ NB221_232.out _; (with_reducible repeat (first | refine blk_drewN ?_ _ | refine blk_drew ?_ | refine blk_alloc ?_ _)); refine blk_far ?_ NB221_232.out _; (with_reducible repeat (first | refine blk_drewN ?_ _ | refine blk_drew ?_ | refine blk_alloc ?_ _)); refine blk_far ?_ NB221_232.out _; (with_reducible repeat (first | refine blk_drewN ?_ _ | refine blk_drew ?_ | refine blk_alloc ?_ _)); exact BK221.out) hb); have n1_ := Aside0.mk (blk_below (g := gb225) (o := .cells #[.int .u16 ((rd_T38 l1 x32_2).f0), .bool ((rd_T38 l1 x32_2).f1)] 38 (0, 0)) (by (with_reducible repeat (first | refine blk_drewN ?_ _ | refine blk_drew ?_ | refine blk_alloc ?_ _)); refine blk_far ?_ NB225_232.out _; (with_reducible repeat (first | refine blk_drewN ?_ _ | refine blk_drew ?_ | refine blk_alloc ?_ _)); refine blk_far ?_ NB225_232.out _; (with_reducible repeat (first | refine blk_drewN ?_ _ | refine blk_drew ?_ | refine blk_alloc ?_ _)); refine blk_far ?_ NB225_232.out _; (with_reducible repeat (first | refine blk_drewN ?_ _ | refine blk_drew ?_ | refine blk_alloc ?_ _)); refine blk_far ?_ NB225_232.out _; (with_reducible repeat (first | refine blk_drewN ?_ _ | refine blk_drew ?_ | refine blk_alloc ?_ _)); exact BK225.out) hb); have n2_ := Aside0.mk (blk_below (g := gb232) (o := .cells #[.int .i64 t226, .int .i64 t227, .int .i64 t228, .int .i64 t229] 23 (0, 0)) (by (with_reducible repeat (first | refine blk_drewN ?_ _ | refine blk_drew ?_ | refine blk_alloc ?_ _)); refine blk_put (cs := #[.int .i64 t226, .int .i64 t227, .int .i64 t228, .int .i64 0]) ?_ 3 _ rfl; (with_reducible repeat (first | refine blk_drewN ?_ _ | refine blk_drew ?_ | refine blk_alloc ?_ _)); refine blk_put (cs := #[.int .i64 t226, .int .i64 t227, .int .i64 0, .int .i64 0]) ?_ 2 _ rfl; (with_reducible repeat (first | refine blk_drewN ?_ _ | refine blk_drew ?_ | refine blk_alloc ?_ _)); refine blk_put (cs := #[.int .i64 t226, .int .i64 0, .int .i64 0, .int .i64 0]) ?_ 1 _ rfl; (with_reducible repeat (first | refine blk_drewN ?_ _ | refine blk_drew ?_ | refine blk_alloc ?_ _)); refine blk_put (cs := #[.int .i64 0, .int .i64 0, .int .i64 0, .int .i64 0]) ?_ 0 _ rfl; (with_reducible repeat (first | refine blk_drewN ?_ _ | refine blk_drew ?_ | refine blk_alloc ?_ _)); exact BK232.out) hb); have n3_ := Aside0.mk (below_step (by repeat (first | (with_reducible first | exact HB.out | apply below_alloc | apply pw_below_drewN | apply below_drew1 | refine below_set ?_ GE221.out | refine below_set ?_ GE225.out | refine below_set ?_ GE232.out) | exact HB.out)) hb); clear BK221; clear BK225; clear BK232; clear HB; have BK221 := n0_; have BK225 := n1_; have BK232 := n2_; have HB := n3_; clear n0_ n1_ n2_ n3_; (try clear hb); (try clear hb2); (try clear hk); (try clear hi); have hnb46 := NB225_221.out; have hnc46 := NB221_225.out; have hcz47_0 : w45.cell? ⟨gb225, 0, none⟩ = some (.int .u16 ((rd_T38 l1 x32_2).f0)) := (blk_cell BK225.out 0).trans rfl; have hcz47_1 : w45.cell? ⟨gb225, 1, none⟩ = some (.bool ((rd_T38 l1 x32_2).f1)) := (blk_cell BK225.out 1).trans rfl; have hfz47_0 := blk_frozen BK225.out 0; have hfz47_1 := blk_frozen BK225.out 1; have hcz48_0 : w45.cell? ⟨gb232, 0, none⟩ = some (.int .i64 t226) := (blk_cell BK232.out 0).trans rfl; have hcz48_1 : w45.cell? ⟨gb232, 1, none⟩ = some (.int .i64 t227) := (blk_cell BK232.out 1).trans rfl; have hcz48_2 : w45.cell? ⟨gb232, 2, none⟩ = some (.int .i64 t228) := (blk_cell BK232.out 2).trans rfl; have hcz48_3 : w45.cell? ⟨gb232, 3, none⟩ = some (.int .i64 t229) := (blk_cell BK232.out 3).trans rfl; have hfz48_0 := blk_frozen BK232.out 0; have hfz48_1 := blk_frozen BK232.out 1; have hfz48_2 := blk_frozen BK232.out 2; have hfz48_3 := blk_frozen BK232.out 3; have hcz49_0 : w45.cell? ⟨gb221, 0, none⟩ = some (.int .i64 x222000_2) := (blk_cell BK221.out 0).trans rfl; have hcz49_1 : w45.cell? ⟨gb221, 1, none⟩ = some (.int .i64 x222001_2) := (blk_cell BK221.out 1).trans rfl; have hcz49_2 : w45.cell? ⟨gb221, 2, none⟩ = some (.int .i64 x222002_2) := (blk_cell BK221.out 2).trans rfl; have hcz49_3 : w45.cell? ⟨gb221, 3, none⟩ = some (.int .i64 x222003_2) := (blk_cell BK221.out 3).trans rfl; have hfz49_0 := blk_frozen BK221.out 0; have hfz49_1 := blk_frozen BK221.out 1; have hfz49_2 := blk_frozen BK221.out 2; have hfz49_3 := blk_frozen BK221.out 3))
                                    repeat (go_quiet (first | (go_at_call 15; (with_reducible refine (overload_Check.calls t226 t227 t228 t229 t233 _ A37.out).mono ?_); rintro e w45 ⟨rfl, hb⟩; have n0_ := Aside0.mk (blk_below (g := gb221) (o := .cells #[.int .i64 x222000_2, .int .i64 x222001_2, .int .i64 x222002_2, .int .i64 x222003_2] 23 (0, 0)) (by (with_reducible repeat (first | refine blk_drewN ?_ _ | refine blk_drew ?_ | refine blk_alloc ?_ _)); refine blk_far ?_ NB221_232.out _; (with_reducible repeat (first | refine blk_drewN ?_ _ | refine blk_drew ?_ | refine blk_alloc ?_ _)); refine blk_far ?_ NB221_232.out _; (with_reducible repeat (first | refine blk_drewN ?_ _ | refine blk_drew ?_ | refine blk_alloc ?_ _)); refine blk_far ?_ NB221_232.out _; (with_reducible repeat (first | refine blk_drewN ?_ _ | refine blk_drew ?_ | refine blk_alloc ?_ _)); refine blk_far ?_ NB221_232.out _; (with_reducible repeat (first | refine blk_drewN ?_ _ | refine blk_drew ?_ | refine blk_alloc ?_ _)); exact BK221.out) hb); have n1_ := Aside0.mk (blk_below (g := gb225) (o := .cells #[.int .u16 ((rd_T38 l1 x32_2).f0), .bool ((rd_T38 l1 x32_2).f1)] 38 (0, 0)) (by (with_reducible repeat (first | refine blk_drewN ?_ _ | refine blk_drew ?_ | refine blk_alloc ?_ _)); refine blk_far ?_ NB225_232.out _; (with_reducible repeat (first | refine blk_drewN ?_ _ | refine blk_drew ?_ | refine blk_alloc ?_ _)); refine blk_far ?_ NB225_232.out _; (with_reducible repeat (first | refine blk_drewN ?_ _ | refine blk_drew ?_ | refine blk_alloc ?_ _)); refine blk_far ?_ NB225_232.out _; (with_reducible repeat (first | refine blk_drewN ?_ _ | refine blk_drew ?_ | refine blk_alloc ?_ _)); refine blk_far ?_ NB225_232.out _; (with_reducible repeat (first | refine blk_drewN ?_ _ | refine blk_drew ?_ | refine blk_alloc ?_ _)); exact BK225.out) hb); have n2_ := Aside0.mk (blk_below (g := gb232) (o := .cells #[.int .i64 t226, .int .i64 t227, .int .i64 t228, .int .i64 t229] 23 (0, 0)) (by (with_reducible repeat (first | refine blk_drewN ?_ _ | refine blk_drew ?_ | refine blk_alloc ?_ _)); refine blk_put (cs := #[.int .i64 t226, .int .i64 t227, .int .i64 t228, .int .i64 0]) ?_ 3 _ rfl; (with_reducible repeat (first | refine blk_drewN ?_ _ | refine blk_drew ?_ | refine blk_alloc ?_ _)); refine blk_put (cs := #[.int .i64 t226, .int .i64 t227, .int .i64 0, .int .i64 0]) ?_ 2 _ rfl; (with_reducible repeat (first | refine blk_drewN ?_ _ | refine blk_drew ?_ | refine blk_alloc ?_ _)); refine blk_put (cs := #[.int .i64 t226, .int .i64 0, .int .i64 0, .int .i64 0]) ?_ 1 _ rfl; (with_reducible repeat (first | refine blk_drewN ?_ _ | refine blk_drew ?_ | refine blk_alloc ?_ _)); refine blk_put (cs := #[.int .i64 0, .int .i64 0, .int .i64 0, .int .i64 0]) ?_ 0 _ rfl; (with_reducible repeat (first | refine blk_drewN ?_ _ | refine blk_drew ?_ | refine blk_alloc ?_ _)); exact BK232.out) hb); have n3_ := Aside0.mk (below_step (by repeat (first | (with_reducible first | exact HB.out | apply below_alloc | apply pw_below_drewN | apply below_drew1 | refine below_set ?_ GE221.out | refine below_set ?_ GE225.out | refine below_set ?_ GE232.out) | exact HB.out)) hb); clear BK221; clear BK225; clear BK232; clear HB; have BK221 := n0_; have BK225 := n1_; have BK232 := n2_; have HB := n3_; clear n0_ n1_ n2_ n3_; (try clear hb); (try clear hb2); (try clear hk); (try clear hi); have hnb46 := NB225_221.out; have hnc46 := NB221_225.out; have hcz47_0 : w45.cell? ⟨gb225, 0, none⟩ = some (.int .u16 ((rd_T38 l1 x32_2).f0)) := (blk_cell BK225.out 0).trans rfl; have hcz47_1 : w45.cell? ⟨gb225, 1, none⟩ = some (.bool ((rd_T38 l1 x32_2).f1)) := (blk_cell BK225.out 1).trans rfl; have hfz47_0 := blk_frozen BK225.out 0; have hfz47_1 := blk_frozen BK225.out 1; have hcz48_0 : w45.cell? ⟨gb232, 0, none⟩ = some (.int .i64 t226) := (blk_cell BK232.out 0).trans rfl; have hcz48_1 : w45.cell? ⟨gb232, 1, none⟩ = some (.int .i64 t227) := (blk_cell BK232.out 1).trans rfl; have hcz48_2 : w45.cell? ⟨gb232, 2, none⟩ = some (.int .i64 t228) := (blk_cell BK232.out 2).trans rfl; have hcz48_3 : w45.cell? ⟨gb232, 3, none⟩ = some (.int .i64 t229) := (blk_cell BK232.out 3).trans rfl; have hfz48_0 := blk_frozen BK232.out 0; have hfz48_1 := blk_frozen BK232.out 1; have hfz48_2 := blk_frozen BK232.out 2; have hfz48_3 := blk_frozen BK232.out 3; have hcz49_0 : w45.cell? ⟨gb221, 0, none⟩ = some (.int .i64 x222000_2) := (blk_cell BK221.out 0).trans rfl; have hcz49_1 : w45.cell? ⟨gb221, 1, none⟩ = some (.int .i64 x222001_2) := (blk_cell BK221.out 1).trans rfl; have hcz49_2 : w45.cell? ⟨gb221, 2, none⟩ = some (.int .i64 x222002_2) := (blk_cell BK221.out 2).trans rfl; have hcz49_3 : w45.cell? ⟨gb221, 3, none⟩ = some (.int .i64 x222003_2) := (blk_cell BK221.out 3).trans rfl; have hfz49_0 := blk_frozen BK221.out 0; have hfz49_1 := blk_frozen BK221.out 1; have hfz49_2 := blk_frozen BK221.out 2; have hfz49_3 := blk_frozen BK221.out 3)); try go_wp2_with (first | (go_at_call 15; (with_reducible refine (overload_Check.calls t226 t227 t228 t229 t233 _ A37.out).mono ?_); rintro e w45 ⟨rfl, hb⟩; have n0_ := Aside0.mk (blk_below (g := gb221) (o := .cells #[.int .i64 x222000_2, .int .i64 x222001_2, .int .i64 x222002_2, .int .i64 x222003_2] 23 (0, 0)) (by (with_reducible repeat (first | refine blk_drewN ?_ _ | refine blk_drew ?_ | refine blk_alloc ?_ _)); refine blk_far ?_ NB221_232.out _; (with_reducible repeat (first | refine blk_drewN ?_ _ | refine blk_drew ?_ | refine blk_alloc ?_ _)); refine blk_far ?_ NB221_232.out _; (with_reducible repeat (first | refine blk_drewN ?_ _ | refine blk_drew ?_ | refine blk_alloc ?_ _)); refine blk_far ?_ NB221_232.out _; (with_reducible repeat (first | refine blk_drewN ?_ _ | refine blk_drew ?_ | refine blk_alloc ?_ _)); refine blk_far ?_ NB221_232.out _; (with_reducible repeat (first | refine blk_drewN ?_ _ | refine blk_drew ?_ | refine blk_alloc ?_ _)); exact BK221.out) hb); have n1_ := Aside0.mk (blk_below (g := gb225) (o := .cells #[.int .u16 ((rd_T38 l1 x32_2).f0), .bool ((rd_T38 l1 x32_2).f1)] 38 (0, 0)) (by (with_reducible repeat (first | refine blk_drewN ?_ _ | refine blk_drew ?_ | refine blk_alloc ?_ _)); refine blk_far ?_ NB225_232.out _; (with_reducible repeat (first | refine blk_drewN ?_ _ | refine blk_drew ?_ | refine blk_alloc ?_ _)); refine blk_far ?_ NB225_232.out _; (with_reducible repeat (first | refine blk_drewN ?_ _ | refine blk_drew ?_ | refine blk_alloc ?_ _)); refine blk_far ?_ NB225_232.out _; (with_reducible repeat (first | refine blk_drewN ?_ _ | refine blk_drew ?_ | refine blk_alloc ?_ _)); refine blk_far ?_ NB225_232.out _; (with_reducible repeat (first | refine blk_drewN ?_ _ | refine blk_drew ?_ | refine blk_alloc ?_ _)); exact BK225.out) hb); have n2_ := Aside0.mk (blk_below (g := gb232) (o := .cells #[.int .i64 t226, .int .i64 t227, .int .i64 t228, .int .i64 t229] 23 (0, 0)) (by (with_reducible repeat (first | refine blk_drewN ?_ _ | refine blk_drew ?_ | refine blk_alloc ?_ _)); refine blk_put (cs := #[.int .i64 t226, .int .i64 t227, .int .i64 t228, .int .i64 0]) ?_ 3 _ rfl; (with_reducible repeat (first | refine blk_drewN ?_ _ | refine blk_drew ?_ | refine blk_alloc ?_ _)); refine blk_put (cs := #[.int .i64 t226, .int .i64 t227, .int .i64 0, .int .i64 0]) ?_ 2 _ rfl; (with_reducible repeat (first | refine blk_drewN ?_ _ | refine blk_drew ?_ | refine blk_alloc ?_ _)); refine blk_put (cs := #[.int .i64 t226, .int .i64 0, .int .i64 0, .int .i64 0]) ?_ 1 _ rfl; (with_reducible repeat (first | refine blk_drewN ?_ _ | refine blk_drew ?_ | refine blk_alloc ?_ _)); refine blk_put (cs := #[.int .i64 0, .int .i64 0, .int .i64 0, .int .i64 0]) ?_ 0 _ rfl; (with_reducible repeat (first | refine blk_drewN ?_ _ | refine blk_drew ?_ | refine blk_alloc ?_ _)); exact BK232.out) hb); have n3_ := Aside0.mk (below_step (by repeat (first | (with_reducible first | exact HB.out | apply below_alloc | apply pw_below_drewN | apply below_drew1 | refine below_set ?_ GE221.out | refine below_set ?_ GE225.out | refine below_set ?_ GE232.out) | exact HB.out)) hb); clear BK221; clear BK225; clear BK232; clear HB; have BK221 := n0_; have BK225 := n1_; have BK232 := n2_; have HB := n3_; clear n0_ n1_ n2_ n3_; (try clear hb); (try clear hb2); (try clear hk); (try clear hi); have hnb46 := NB225_221.out; have hnc46 := NB221_225.out; have hcz47_0 : w45.cell? ⟨gb225, 0, none⟩ = some (.int .u16 ((rd_T38 l1 x32_2).f0)) := (blk_cell BK225.out 0).trans rfl; have hcz47_1 : w45.cell? ⟨gb225, 1, none⟩ = some (.bool ((rd_T38 l1 x32_2).f1)) := (blk_cell BK225.out 1).trans rfl; have hfz47_0 := blk_frozen BK225.out 0; have hfz47_1 := blk_frozen BK225.out 1; have hcz48_0 : w45.cell? ⟨gb232, 0, none⟩ = some (.int .i64 t226) := (blk_cell BK232.out 0).trans rfl; have hcz48_1 : w45.cell? ⟨gb232, 1, none⟩ = some (.int .i64 t227) := (blk_cell BK232.out 1).trans rfl; have hcz48_2 : w45.cell? ⟨gb232, 2, none⟩ = some (.int .i64 t228) := (blk_cell BK232.out 2).trans rfl; have hcz48_3 : w45.cell? ⟨gb232, 3, none⟩ = some (.int .i64 t229) := (blk_cell BK232.out 3).trans rfl; have hfz48_0 := blk_frozen BK232.out 0; have hfz48_1 := blk_frozen BK232.out 1; have hfz48_2 := blk_frozen BK232.out 2; have hfz48_3 := blk_frozen BK232.out 3; have hcz49_0 : w45.cell? ⟨gb221, 0, none⟩ = some (.int .i64 x222000_2) := (blk_cell BK221.out 0).trans rfl; have hcz49_1 : w45.cell? ⟨gb221, 1, none⟩ = some (.int .i64 x222001_2) := (blk_cell BK221.out 1).trans rfl; have hcz49_2 : w45.cell? ⟨gb221, 2, none⟩ = some (.int .i64 x222002_2) := (blk_cell BK221.out 2).trans rfl; have hcz49_3 : w45.cell? ⟨gb221, 3, none⟩ = some (.int .i64 x222003_2) := (blk_cell BK221.out 3).trans rfl; have hfz49_0 := blk_frozen BK221.out 0; have hfz49_1 := blk_frozen BK221.out 1; have hfz49_2 := blk_frozen BK221.out 2; have hfz49_3 := blk_frozen BK221.out 3)))
                                    go_meet
                                    case rel => exact ⟨_, ((t229 != x222003_2)), (by first | rfl | (simp; done) | (simp [*]; done)), H', ⟨by have := HJ4.out; have := HK2.out; have := HJ20.out; first | omega | exact Nat.le_refl _⟩, ⟨by (with_reducible repeat (first | refine blk_drewN ?_ _ | refine blk_drew ?_ | refine blk_alloc ?_ _)); exact BK221.out⟩, ⟨by (with_reducible repeat (first | refine blk_drewN ?_ _ | refine blk_drew ?_ | refine blk_alloc ?_ _)); exact BK225.out⟩, ⟨by (with_reducible repeat (first | refine blk_drewN ?_ _ | refine blk_drew ?_ | refine blk_alloc ?_ _)); exact BK232.out⟩, ⟨by repeat (first | (with_reducible first | exact HB.out | apply below_alloc | apply pw_below_drewN | apply below_drew1 | refine below_set ?_ GE221.out | refine below_set ?_ GE225.out | refine below_set ?_ GE232.out) | exact HB.out)⟩⟩
                                  · rw [if_neg c41] at H
                                    have c41b0 : (t228 == x222002_2) = false := beq_eq_false_iff_ne.mpr c41
                                    have c41b1 : (t228 != x222002_2) = true := bne_iff_ne.mpr c41
                                    have H' := Aside0.mk H
                                    clear H
                                    have hnb50 := NB232_221.out
                                    have hnc50 := NB221_232.out
                                    have hnb51 := NB232_225.out
                                    have hnc51 := NB225_232.out
                                    have hcz52_0 : w32.cell? ⟨gb232, 0, none⟩ = some (.int .i64 0) := (blk_cell BK232.out 0).trans rfl
                                    have hcz52_1 : w32.cell? ⟨gb232, 1, none⟩ = some (.int .i64 0) := (blk_cell BK232.out 1).trans rfl
                                    have hcz52_2 : w32.cell? ⟨gb232, 2, none⟩ = some (.int .i64 0) := (blk_cell BK232.out 2).trans rfl
                                    have hcz52_3 : w32.cell? ⟨gb232, 3, none⟩ = some (.int .i64 0) := (blk_cell BK232.out 3).trans rfl
                                    have hfz52_0 := blk_frozen BK232.out 0
                                    have hfz52_1 := blk_frozen BK232.out 1
                                    have hfz52_2 := blk_frozen BK232.out 2
                                    have hfz52_3 := blk_frozen BK232.out 3
                                    go_wp2_with (first | (go_at_call 15; (with_reducible refine (overload_Check.calls t226 t227 t228 t229 t233 _ A37.out).mono ?_); rintro e w53 ⟨rfl, hb⟩; have n0_ := Aside0.mk (blk_below (g := gb221) (o := .cells #[.int .i64 x222000_2, .int .i64 x222001_2, .int .i64 x222002_2, .int .i64 x222003_2] 23 (0, 0)) (by (with_reducible repeat (first | refine blk_drewN ?_ _ | refine blk_drew ?_ | refine blk_alloc ?_ _)); refine blk_far ?_ NB221_232.out _; (with_reducible repeat (first | refine blk_drewN ?_ _ | refine blk_drew ?_ | refine blk_alloc ?_ _)); refine blk_far ?_ NB221_232.out _; (with_reducible repeat (first | refine blk_drewN ?_ _ | refine blk_drew ?_ | refine blk_alloc ?_ _)); refine blk_far ?_ NB221_232.out _; (with_reducible repeat (first | refine blk_drewN ?_ _ | refine blk_drew ?_ | refine blk_alloc ?_ _)); refine blk_far ?_ NB221_232.out _; (with_reducible repeat (first | refine blk_drewN ?_ _ | refine blk_drew ?_ | refine blk_alloc ?_ _)); exact BK221.out) hb); have n1_ := Aside0.mk (blk_below (g := gb225) (o := .cells #[.int .u16 ((rd_T38 l1 x32_2).f0), .bool ((rd_T38 l1 x32_2).f1)] 38 (0, 0)) (by (with_reducible repeat (first | refine blk_drewN ?_ _ | refine blk_drew ?_ | refine blk_alloc ?_ _)); refine blk_far ?_ NB225_232.out _; (with_reducible repeat (first | refine blk_drewN ?_ _ | refine blk_drew ?_ | refine blk_alloc ?_ _)); refine blk_far ?_ NB225_232.out _; (with_reducible repeat (first | refine blk_drewN ?_ _ | refine blk_drew ?_ | refine blk_alloc ?_ _)); refine blk_far ?_ NB225_232.out _; (with_reducible repeat (first | refine blk_drewN ?_ _ | refine blk_drew ?_ | refine blk_alloc ?_ _)); refine blk_far ?_ NB225_232.out _; (with_reducible repeat (first | refine blk_drewN ?_ _ | refine blk_drew ?_ | refine blk_alloc ?_ _)); exact BK225.out) hb); have n2_ := Aside0.mk (blk_below (g := gb232) (o := .cells #[.int .i64 t226, .int .i64 t227, .int .i64 t228, .int .i64 t229] 23 (0, 0)) (by (with_reducible repeat (first | refine blk_drewN ?_ _ | refine blk_drew ?_ | refine blk_alloc ?_ _)); refine blk_put (cs := #[.int .i64 t226, .int .i64 t227, .int .i64 t228, .int .i64 0]) ?_ 3 _ rfl; (with_reducible repeat (first | refine blk_drewN ?_ _ | refine blk_drew ?_ | refine blk_alloc ?_ _)); refine blk_put (cs := #[.int .i64 t226, .int .i64 t227, .int .i64 0, .int .i64 0]) ?_ 2 _ rfl; (with_reducible repeat (first | refine blk_drewN ?_ _ | refine blk_drew ?_ | refine blk_alloc ?_ _)); refine blk_put (cs := #[.int .i64 t226, .int .i64 0, .int .i64 0, .int .i64 0]) ?_ 1 _ rfl; (with_reducible repeat (first | refine blk_drewN ?_ _ | refine blk_drew ?_ | refine blk_alloc ?_ _)); refine blk_put (cs := #[.int .i64 0, .int .i64 0, .int .i64 0, .int .i64 0]) ?_ 0 _ rfl; (with_reducible repeat (first | refine blk_drewN ?_ _ | refine blk_drew ?_ | refine blk_alloc ?_ _)); exact BK232.out) hb); have n3_ := Aside0.mk (below_step (by repeat (first | (with_reducible first | exact HB.out | apply below_alloc | apply pw_below_drewN | apply below_drew1 | refine below_set ?_ GE221.out | refine below_set ?_ GE225.out | refine below_set ?_ GE232.out) | exact HB.out)) hb); clear BK221; clear BK225; clear BK232; clear HB; have BK221 := n0_; have BK225 := n1_; have BK232 := n2_; have HB := n3_; clear n0_ n1_ n2_ n3_; (try clear hb); (try clear hb2); (try clear hk); (try clear hi); have hnb54 := NB225_221.out; have hnc54 := NB221_225.out; have hcz55_0 : w53.cell? ⟨gb225, 0, none⟩ = some (.int .u16 ((rd_T38 l1 x32_2).f0)) := (blk_cell BK225.out 0).trans rfl; have hcz55_1 : w53.cell? ⟨gb225, 1, none⟩ = some (.bool ((rd_T38 l1 x32_2).f1)) := (blk_cell BK225.out 1).trans rfl; have hfz55_0 := blk_frozen BK225.out 0; have hfz55_1 := blk_frozen BK225.out 1; have hcz56_0 : w53.cell? ⟨gb232, 0, none⟩ = some (.int .i64 t226) := (blk_cell BK232.out 0).trans rfl; have hcz56_1 : w53.cell? ⟨gb232, 1, none⟩ = some (.int .i64 t227) := (blk_cell BK232.out 1).trans rfl; have hcz56_2 : w53.cell? ⟨gb232, 2, none⟩ = some (.int .i64 t228) := (blk_cell BK232.out 2).trans rfl; have hcz56_3 : w53.cell? ⟨gb232, 3, none⟩ = some (.int .i64 t229) := (blk_cell BK232.out 3).trans rfl; have hfz56_0 := blk_frozen BK232.out 0; have hfz56_1 := blk_frozen BK232.out 1; have hfz56_2 := blk_frozen BK232.out 2; have hfz56_3 := blk_frozen BK232.out 3; have hcz57_0 : w53.cell? ⟨gb221, 0, none⟩ = some (.int .i64 x222000_2) := (blk_cell BK221.out 0).trans rfl; have hcz57_1 : w53.cell? ⟨gb221, 1, none⟩ = some (.int .i64 x222001_2) := (blk_cell BK221.out 1).trans rfl; have hcz57_2 : w53.cell? ⟨gb221, 2, none⟩ = some (.int .i64 x222002_2) := (blk_cell BK221.out 2).trans rfl; have hcz57_3 : w53.cell? ⟨gb221, 3, none⟩ = some (.int .i64 x222003_2) := (blk_cell BK221.out 3).trans rfl; have hfz57_0 := blk_frozen BK221.out 0; have hfz57_1 := blk_frozen BK221.out 1; have hfz57_2 := blk_frozen BK221.out 2; have hfz57_3 := blk_frozen BK221.out 3))
                                    repeat (go_quiet (first | (go_at_call 15; (with_reducible refine (overload_Check.calls t226 t227 t228 t229 t233 _ A37.out).mono ?_); rintro e w53 ⟨rfl, hb⟩; have n0_ := Aside0.mk (blk_below (g := gb221) (o := .cells #[.int .i64 x222000_2, .int .i64 x222001_2, .int .i64 x222002_2, .int .i64 x222003_2] 23 (0, 0)) (by (with_reducible repeat (first | refine blk_drewN ?_ _ | refine blk_drew ?_ | refine blk_alloc ?_ _)); refine blk_far ?_ NB221_232.out _; (with_reducible repeat (first | refine blk_drewN ?_ _ | refine blk_drew ?_ | refine blk_alloc ?_ _)); refine blk_far ?_ NB221_232.out _; (with_reducible repeat (first | refine blk_drewN ?_ _ | refine blk_drew ?_ | refine blk_alloc ?_ _)); refine blk_far ?_ NB221_232.out _; (with_reducible repeat (first | refine blk_drewN ?_ _ | refine blk_drew ?_ | refine blk_alloc ?_ _)); refine blk_far ?_ NB221_232.out _; (with_reducible repeat (first | refine blk_drewN ?_ _ | refine blk_drew ?_ | refine blk_alloc ?_ _)); exact BK221.out) hb); have n1_ := Aside0.mk (blk_below (g := gb225) (o := .cells #[.int .u16 ((rd_T38 l1 x32_2).f0), .bool ((rd_T38 l1 x32_2).f1)] 38 (0, 0)) (by (with_reducible repeat (first | refine blk_drewN ?_ _ | refine blk_drew ?_ | refine blk_alloc ?_ _)); refine blk_far ?_ NB225_232.out _; (with_reducible repeat (first | refine blk_drewN ?_ _ | refine blk_drew ?_ | refine blk_alloc ?_ _)); refine blk_far ?_ NB225_232.out _; (with_reducible repeat (first | refine blk_drewN ?_ _ | refine blk_drew ?_ | refine blk_alloc ?_ _)); refine blk_far ?_ NB225_232.out _; (with_reducible repeat (first | refine blk_drewN ?_ _ | refine blk_drew ?_ | refine blk_alloc ?_ _)); refine blk_far ?_ NB225_232.out _; (with_reducible repeat (first | refine blk_drewN ?_ _ | refine blk_drew ?_ | refine blk_alloc ?_ _)); exact BK225.out) hb); have n2_ := Aside0.mk (blk_below (g := gb232) (o := .cells #[.int .i64 t226, .int .i64 t227, .int .i64 t228, .int .i64 t229] 23 (0, 0)) (by (with_reducible repeat (first | refine blk_drewN ?_ _ | refine blk_drew ?_ | refine blk_alloc ?_ _)); refine blk_put (cs := #[.int .i64 t226, .int .i64 t227, .int .i64 t228, .int .i64 0]) ?_ 3 _ rfl; (with_reducible repeat (first | refine blk_drewN ?_ _ | refine blk_drew ?_ | refine blk_alloc ?_ _)); refine blk_put (cs := #[.int .i64 t226, .int .i64 t227, .int .i64 0, .int .i64 0]) ?_ 2 _ rfl; (with_reducible repeat (first | refine blk_drewN ?_ _ | refine blk_drew ?_ | refine blk_alloc ?_ _)); refine blk_put (cs := #[.int .i64 t226, .int .i64 0, .int .i64 0, .int .i64 0]) ?_ 1 _ rfl; (with_reducible repeat (first | refine blk_drewN ?_ _ | refine blk_drew ?_ | refine blk_alloc ?_ _)); refine blk_put (cs := #[.int .i64 0, .int .i64 0, .int .i64 0, .int .i64 0]) ?_ 0 _ rfl; (with_reducible repeat (first | refine blk_drewN ?_ _ | refine blk_drew ?_ | refine blk_alloc ?_ _)); exact BK232.out) hb); have n3_ := Aside0.mk (below_step (by repeat (first | (with_reducible first | exact HB.out | apply below_alloc | apply pw_below_drewN | apply below_drew1 | refine below_set ?_ GE221.out | refine below_set ?_ GE225.out | refine below_set ?_ GE232.out) | exact HB.out)) hb); clear BK221; clear BK225; clear BK232; clear HB; have BK221 := n0_; have BK225 := n1_; have BK232 := n2_; have HB := n3_; clear n0_ n1_ n2_ n3_; (try clear hb); (try clear hb2); (try clear hk); (try clear hi); have hnb54 := NB225_221.out; have hnc54 := NB221_225.out; have hcz55_0 : w53.cell? ⟨gb225, 0, none⟩ = some (.int .u16 ((rd_T38 l1 x32_2).f0)) := (blk_cell BK225.out 0).trans rfl; have hcz55_1 : w53.cell? ⟨gb225, 1, none⟩ = some (.bool ((rd_T38 l1 x32_2).f1)) := (blk_cell BK225.out 1).trans rfl; have hfz55_0 := blk_frozen BK225.out 0; have hfz55_1 := blk_frozen BK225.out 1; have hcz56_0 : w53.cell? ⟨gb232, 0, none⟩ = some (.int .i64 t226) := (blk_cell BK232.out 0).trans rfl; have hcz56_1 : w53.cell? ⟨gb232, 1, none⟩ = some (.int .i64 t227) := (blk_cell BK232.out 1).trans rfl; have hcz56_2 : w53.cell? ⟨gb232, 2, none⟩ = some (.int .i64 t228) := (blk_cell BK232.out 2).trans rfl; have hcz56_3 : w53.cell? ⟨gb232, 3, none⟩ = some (.int .i64 t229) := (blk_cell BK232.out 3).trans rfl; have hfz56_0 := blk_frozen BK232.out 0; have hfz56_1 := blk_frozen BK232.out 1; have hfz56_2 := blk_frozen BK232.out 2; have hfz56_3 := blk_frozen BK232.out 3; have hcz57_0 : w53.cell? ⟨gb221, 0, none⟩ = some (.int .i64 x222000_2) := (blk_cell BK221.out 0).trans rfl; have hcz57_1 : w53.cell? ⟨gb221, 1, none⟩ = some (.int .i64 x222001_2) := (blk_cell BK221.out 1).trans rfl; have hcz57_2 : w53.cell? ⟨gb221, 2, none⟩ = some (.int .i64 x222002_2) := (blk_cell BK221.out 2).trans rfl; have hcz57_3 : w53.cell? ⟨gb221, 3, none⟩ = some (.int .i64 x222003_2) := (blk_cell BK221.out 3).trans rfl; have hfz57_0 := blk_frozen BK221.out 0; have hfz57_1 := blk_frozen BK221.out 1; have hfz57_2 := blk_frozen BK221.out 2; have hfz57_3 := blk_frozen BK221.out 3)); try go_wp2_with (first | (go_at_call 15; (with_reducible refine (overload_Check.calls t226 t227 t228 t229 t233 _ A37.out).mono ?_); rintro e w53 ⟨rfl, hb⟩; have n0_ := Aside0.mk (blk_below (g := gb221) (o := .cells #[.int .i64 x222000_2, .int .i64 x222001_2, .int .i64 x222002_2, .int .i64 x222003_2] 23 (0, 0)) (by (with_reducible repeat (first | refine blk_drewN ?_ _ | refine blk_drew ?_ | refine blk_alloc ?_ _)); refine blk_far ?_ NB221_232.out _; (with_reducible repeat (first | refine blk_drewN ?_ _ | refine blk_drew ?_ | refine blk_alloc ?_ _)); refine blk_far ?_ NB221_232.out _; (with_reducible repeat (first | refine blk_drewN ?_ _ | refine blk_drew ?_ | refine blk_alloc ?_ _)); refine blk_far ?_ NB221_232.out _; (with_reducible repeat (first | refine blk_drewN ?_ _ | refine blk_drew ?_ | refine blk_alloc ?_ _)); refine blk_far ?_ NB221_232.out _; (with_reducible repeat (first | refine blk_drewN ?_ _ | refine blk_drew ?_ | refine blk_alloc ?_ _)); exact BK221.out) hb); have n1_ := Aside0.mk (blk_below (g := gb225) (o := .cells #[.int .u16 ((rd_T38 l1 x32_2).f0), .bool ((rd_T38 l1 x32_2).f1)] 38 (0, 0)) (by (with_reducible repeat (first | refine blk_drewN ?_ _ | refine blk_drew ?_ | refine blk_alloc ?_ _)); refine blk_far ?_ NB225_232.out _; (with_reducible repeat (first | refine blk_drewN ?_ _ | refine blk_drew ?_ | refine blk_alloc ?_ _)); refine blk_far ?_ NB225_232.out _; (with_reducible repeat (first | refine blk_drewN ?_ _ | refine blk_drew ?_ | refine blk_alloc ?_ _)); refine blk_far ?_ NB225_232.out _; (with_reducible repeat (first | refine blk_drewN ?_ _ | refine blk_drew ?_ | refine blk_alloc ?_ _)); refine blk_far ?_ NB225_232.out _; (with_reducible repeat (first | refine blk_drewN ?_ _ | refine blk_drew ?_ | refine blk_alloc ?_ _)); exact BK225.out) hb); have n2_ := Aside0.mk (blk_below (g := gb232) (o := .cells #[.int .i64 t226, .int .i64 t227, .int .i64 t228, .int .i64 t229] 23 (0, 0)) (by (with_reducible repeat (first | refine blk_drewN ?_ _ | refine blk_drew ?_ | refine blk_alloc ?_ _)); refine blk_put (cs := #[.int .i64 t226, .int .i64 t227, .int .i64 t228, .int .i64 0]) ?_ 3 _ rfl; (with_reducible repeat (first | refine blk_drewN ?_ _ | refine blk_drew ?_ | refine blk_alloc ?_ _)); refine blk_put (cs := #[.int .i64 t226, .int .i64 t227, .int .i64 0, .int .i64 0]) ?_ 2 _ rfl; (with_reducible repeat (first | refine blk_drewN ?_ _ | refine blk_drew ?_ | refine blk_alloc ?_ _)); refine blk_put (cs := #[.int .i64 t226, .int .i64 0, .int .i64 0, .int .i64 0]) ?_ 1 _ rfl; (with_reducible repeat (first | refine blk_drewN ?_ _ | refine blk_drew ?_ | refine blk_alloc ?_ _)); refine blk_put (cs := #[.int .i64 0, .int .i64 0, .int .i64 0, .int .i64 0]) ?_ 0 _ rfl; (with_reducible repeat (first | refine blk_drewN ?_ _ | refine blk_drew ?_ | refine blk_alloc ?_ _)); exact BK232.out) hb); have n3_ := Aside0.mk (below_step (by repeat (first | (with_reducible first | exact HB.out | apply below_alloc | apply pw_below_drewN | apply below_drew1 | refine below_set ?_ GE221.out | refine below_set ?_ GE225.out | refine below_set ?_ GE232.out) | exact HB.out)) hb); clear BK221; clear BK225; clear BK232; clear HB; have BK221 := n0_; have BK225 := n1_; have BK232 := n2_; have HB := n3_; clear n0_ n1_ n2_ n3_; (try clear hb); (try clear hb2); (try clear hk); (try clear hi); have hnb54 := NB225_221.out; have hnc54 := NB221_225.out; have hcz55_0 : w53.cell? ⟨gb225, 0, none⟩ = some (.int .u16 ((rd_T38 l1 x32_2).f0)) := (blk_cell BK225.out 0).trans rfl; have hcz55_1 : w53.cell? ⟨gb225, 1, none⟩ = some (.bool ((rd_T38 l1 x32_2).f1)) := (blk_cell BK225.out 1).trans rfl; have hfz55_0 := blk_frozen BK225.out 0; have hfz55_1 := blk_frozen BK225.out 1; have hcz56_0 : w53.cell? ⟨gb232, 0, none⟩ = some (.int .i64 t226) := (blk_cell BK232.out 0).trans rfl; have hcz56_1 : w53.cell? ⟨gb232, 1, none⟩ = some (.int .i64 t227) := (blk_cell BK232.out 1).trans rfl; have hcz56_2 : w53.cell? ⟨gb232, 2, none⟩ = some (.int .i64 t228) := (blk_cell BK232.out 2).trans rfl; have hcz56_3 : w53.cell? ⟨gb232, 3, none⟩ = some (.int .i64 t229) := (blk_cell BK232.out 3).trans rfl; have hfz56_0 := blk_frozen BK232.out 0; have hfz56_1 := blk_frozen BK232.out 1; have hfz56_2 := blk_frozen BK232.out 2; have hfz56_3 := blk_frozen BK232.out 3; have hcz57_0 : w53.cell? ⟨gb221, 0, none⟩ = some (.int .i64 x222000_2) := (blk_cell BK221.out 0).trans rfl; have hcz57_1 : w53.cell? ⟨gb221, 1, none⟩ = some (.int .i64 x222001_2) := (blk_cell BK221.out 1).trans rfl; have hcz57_2 : w53.cell? ⟨gb221, 2, none⟩ = some (.int .i64 x222002_2) := (blk_cell BK221.out 2).trans rfl; have hcz57_3 : w53.cell? ⟨gb221, 3, none⟩ = some (.int .i64 x222003_2) := (blk_cell BK221.out 3).trans rfl; have hfz57_0 := blk_frozen BK221.out 0; have hfz57_1 := blk_frozen BK221.out 1; have hfz57_2 := blk_frozen BK221.out 2; have hfz57_3 := blk_frozen BK221.out 3)))
                                    go_meet
                                    case rel => exact ⟨_, (true), (by first | rfl | (simp; done) | (simp [*]; done)), H', ⟨by have := HJ4.out; have := HK2.out; have := HJ20.out; first | omega | exact Nat.le_refl _⟩, ⟨by (with_reducible repeat (first | refine blk_drewN ?_ _ | refine blk_drew ?_ | refine blk_alloc ?_ _)); exact BK221.out⟩, ⟨by (with_reducible repeat (first | refine blk_drewN ?_ _ | refine blk_drew ?_ | refine blk_alloc ?_ _)); exact BK225.out⟩, ⟨by (with_reducible repeat (first | refine blk_drewN ?_ _ | refine blk_drew ?_ | refine blk_alloc ?_ _)); exact BK232.out⟩, ⟨by repeat (first | (with_reducible first | exact HB.out | apply below_alloc | apply pw_below_drewN | apply below_drew1 | refine below_set ?_ GE221.out | refine below_set ?_ GE225.out | refine below_set ?_ GE232.out) | exact HB.out)⟩⟩
                                · replace c40 := Bool.eq_false_iff.mpr c40
                                  subst c40
                                  have H1 : (crossbarlaw32_OverloadBoundsRate.j3 kj20 (wrap64 (x5_2 + (wrap64 ((rd_T38 l1 x32_2).f0)))) x6_20 x7_2 false l1 (l1.length : Int) x32_2 true ((rd_T38 l1 x32_2).f0) ((rd_T38 l1 x32_2).f1) t226 t227 t228 t229) = some r := by rw [if_neg (show ¬ (false = true) by decide)] at H; exact H
                                  clear H
                                  have H := H1
                                  clear H1
                                  have H' := Aside0.mk H
                                  clear H
                                  have hnb58 := NB232_221.out
                                  have hnc58 := NB221_232.out
                                  have hnb59 := NB232_225.out
                                  have hnc59 := NB225_232.out
                                  have hcz60_0 : w32.cell? ⟨gb232, 0, none⟩ = some (.int .i64 0) := (blk_cell BK232.out 0).trans rfl
                                  have hcz60_1 : w32.cell? ⟨gb232, 1, none⟩ = some (.int .i64 0) := (blk_cell BK232.out 1).trans rfl
                                  have hcz60_2 : w32.cell? ⟨gb232, 2, none⟩ = some (.int .i64 0) := (blk_cell BK232.out 2).trans rfl
                                  have hcz60_3 : w32.cell? ⟨gb232, 3, none⟩ = some (.int .i64 0) := (blk_cell BK232.out 3).trans rfl
                                  have hfz60_0 := blk_frozen BK232.out 0
                                  have hfz60_1 := blk_frozen BK232.out 1
                                  have hfz60_2 := blk_frozen BK232.out 2
                                  have hfz60_3 := blk_frozen BK232.out 3
                                  go_wp2_with (first | (go_at_call 15; (with_reducible refine (overload_Check.calls t226 t227 t228 t229 t233 _ A37.out).mono ?_); rintro e w61 ⟨rfl, hb⟩; have n0_ := Aside0.mk (blk_below (g := gb221) (o := .cells #[.int .i64 x222000_2, .int .i64 x222001_2, .int .i64 x222002_2, .int .i64 x222003_2] 23 (0, 0)) (by (with_reducible repeat (first | refine blk_drewN ?_ _ | refine blk_drew ?_ | refine blk_alloc ?_ _)); refine blk_far ?_ NB221_232.out _; (with_reducible repeat (first | refine blk_drewN ?_ _ | refine blk_drew ?_ | refine blk_alloc ?_ _)); refine blk_far ?_ NB221_232.out _; (with_reducible repeat (first | refine blk_drewN ?_ _ | refine blk_drew ?_ | refine blk_alloc ?_ _)); refine blk_far ?_ NB221_232.out _; (with_reducible repeat (first | refine blk_drewN ?_ _ | refine blk_drew ?_ | refine blk_alloc ?_ _)); refine blk_far ?_ NB221_232.out _; (with_reducible repeat (first | refine blk_drewN ?_ _ | refine blk_drew ?_ | refine blk_alloc ?_ _)); exact BK221.out) hb); have n1_ := Aside0.mk (blk_below (g := gb225) (o := .cells #[.int .u16 ((rd_T38 l1 x32_2).f0), .bool ((rd_T38 l1 x32_2).f1)] 38 (0, 0)) (by (with_reducible repeat (first | refine blk_drewN ?_ _ | refine blk_drew ?_ | refine blk_alloc ?_ _)); refine blk_far ?_ NB225_232.out _; (with_reducible repeat (first | refine blk_drewN ?_ _ | refine blk_drew ?_ | refine blk_alloc ?_ _)); refine blk_far ?_ NB225_232.out _; (with_reducible repeat (first | refine blk_drewN ?_ _ | refine blk_drew ?_ | refine blk_alloc ?_ _)); refine blk_far ?_ NB225_232.out _; (with_reducible repeat (first | refine blk_drewN ?_ _ | refine blk_drew ?_ | refine blk_alloc ?_ _)); refine blk_far ?_ NB225_232.out _; (with_reducible repeat (first | refine blk_drewN ?_ _ | refine blk_drew ?_ | refine blk_alloc ?_ _)); exact BK225.out) hb); have n2_ := Aside0.mk (blk_below (g := gb232) (o := .cells #[.int .i64 t226, .int .i64 t227, .int .i64 t228, .int .i64 t229] 23 (0, 0)) (by (with_reducible repeat (first | refine blk_drewN ?_ _ | refine blk_drew ?_ | refine blk_alloc ?_ _)); refine blk_put (cs := #[.int .i64 t226, .int .i64 t227, .int .i64 t228, .int .i64 0]) ?_ 3 _ rfl; (with_reducible repeat (first | refine blk_drewN ?_ _ | refine blk_drew ?_ | refine blk_alloc ?_ _)); refine blk_put (cs := #[.int .i64 t226, .int .i64 t227, .int .i64 0, .int .i64 0]) ?_ 2 _ rfl; (with_reducible repeat (first | refine blk_drewN ?_ _ | refine blk_drew ?_ | refine blk_alloc ?_ _)); refine blk_put (cs := #[.int .i64 t226, .int .i64 0, .int .i64 0, .int .i64 0]) ?_ 1 _ rfl; (with_reducible repeat (first | refine blk_drewN ?_ _ | refine blk_drew ?_ | refine blk_alloc ?_ _)); refine blk_put (cs := #[.int .i64 0, .int .i64 0, .int .i64 0, .int .i64 0]) ?_ 0 _ rfl; (with_reducible repeat (first | refine blk_drewN ?_ _ | refine blk_drew ?_ | refine blk_alloc ?_ _)); exact BK232.out) hb); have n3_ := Aside0.mk (below_step (by repeat (first | (with_reducible first | exact HB.out | apply below_alloc | apply pw_below_drewN | apply below_drew1 | refine below_set ?_ GE221.out | refine below_set ?_ GE225.out | refine below_set ?_ GE232.out) | exact HB.out)) hb); clear BK221; clear BK225; clear BK232; clear HB; have BK221 := n0_; have BK225 := n1_; have BK232 := n2_; have HB := n3_; clear n0_ n1_ n2_ n3_; (try clear hb); (try clear hb2); (try clear hk); (try clear hi); have hnb62 := NB225_221.out; have hnc62 := NB221_225.out; have hcz63_0 : w61.cell? ⟨gb225, 0, none⟩ = some (.int .u16 ((rd_T38 l1 x32_2).f0)) := (blk_cell BK225.out 0).trans rfl; have hcz63_1 : w61.cell? ⟨gb225, 1, none⟩ = some (.bool ((rd_T38 l1 x32_2).f1)) := (blk_cell BK225.out 1).trans rfl; have hfz63_0 := blk_frozen BK225.out 0; have hfz63_1 := blk_frozen BK225.out 1))
                                  repeat (go_quiet (first | (go_at_call 15; (with_reducible refine (overload_Check.calls t226 t227 t228 t229 t233 _ A37.out).mono ?_); rintro e w61 ⟨rfl, hb⟩; have n0_ := Aside0.mk (blk_below (g := gb221) (o := .cells #[.int .i64 x222000_2, .int .i64 x222001_2, .int .i64 x222002_2, .int .i64 x222003_2] 23 (0, 0)) (by (with_reducible repeat (first | refine blk_drewN ?_ _ | refine blk_drew ?_ | refine blk_alloc ?_ _)); refine blk_far ?_ NB221_232.out _; (with_reducible repeat (first | refine blk_drewN ?_ _ | refine blk_drew ?_ | refine blk_alloc ?_ _)); refine blk_far ?_ NB221_232.out _; (with_reducible repeat (first | refine blk_drewN ?_ _ | refine blk_drew ?_ | refine blk_alloc ?_ _)); refine blk_far ?_ NB221_232.out _; (with_reducible repeat (first | refine blk_drewN ?_ _ | refine blk_drew ?_ | refine blk_alloc ?_ _)); refine blk_far ?_ NB221_232.out _; (with_reducible repeat (first | refine blk_drewN ?_ _ | refine blk_drew ?_ | refine blk_alloc ?_ _)); exact BK221.out) hb); have n1_ := Aside0.mk (blk_below (g := gb225) (o := .cells #[.int .u16 ((rd_T38 l1 x32_2).f0), .bool ((rd_T38 l1 x32_2).f1)] 38 (0, 0)) (by (with_reducible repeat (first | refine blk_drewN ?_ _ | refine blk_drew ?_ | refine blk_alloc ?_ _)); refine blk_far ?_ NB225_232.out _; (with_reducible repeat (first | refine blk_drewN ?_ _ | refine blk_drew ?_ | refine blk_alloc ?_ _)); refine blk_far ?_ NB225_232.out _; (with_reducible repeat (first | refine blk_drewN ?_ _ | refine blk_drew ?_ | refine blk_alloc ?_ _)); refine blk_far ?_ NB225_232.out _; (with_reducible repeat (first | refine blk_drewN ?_ _ | refine blk_drew ?_ | refine blk_alloc ?_ _)); refine blk_far ?_ NB225_232.out _; (with_reducible repeat (first | refine blk_drewN ?_ _ | refine blk_drew ?_ | refine blk_alloc ?_ _)); exact BK225.out) hb); have n2_ := Aside0.mk (blk_below (g := gb232) (o := .cells #[.int .i64 t226, .int .i64 t227, .int .i64 t228, .int .i64 t229] 23 (0, 0)) (by (with_reducible repeat (first | refine blk_drewN ?_ _ | refine blk_drew ?_ | refine blk_alloc ?_ _)); refine blk_put (cs := #[.int .i64 t226, .int .i64 t227, .int .i64 t228, .int .i64 0]) ?_ 3 _ rfl; (with_reducible repeat (first | refine blk_drewN ?_ _ | refine blk_drew ?_ | refine blk_alloc ?_ _)); refine blk_put (cs := #[.int .i64 t226, .int .i64 t227, .int .i64 0, .int .i64 0]) ?_ 2 _ rfl; (with_reducible repeat (first | refine blk_drewN ?_ _ | refine blk_drew ?_ | refine blk_alloc ?_ _)); refine blk_put (cs := #[.int .i64 t226, .int .i64 0, .int .i64 0, .int .i64 0]) ?_ 1 _ rfl; (with_reducible repeat (first | refine blk_drewN ?_ _ | refine blk_drew ?_ | refine blk_alloc ?_ _)); refine blk_put (cs := #[.int .i64 0, .int .i64 0, .int .i64 0, .int .i64 0]) ?_ 0 _ rfl; (with_reducible repeat (first | refine blk_drewN ?_ _ | refine blk_drew ?_ | refine blk_alloc ?_ _)); exact BK232.out) hb); have n3_ := Aside0.mk (below_step (by repeat (first | (with_reducible first | exact HB.out | apply below_alloc | apply pw_below_drewN | apply below_drew1 | refine below_set ?_ GE221.out | refine below_set ?_ GE225.out | refine below_set ?_ GE232.out) | exact HB.out)) hb); clear BK221; clear BK225; clear BK232; clear HB; have BK221 := n0_; have BK225 := n1_; have BK232 := n2_; have HB := n3_; clear n0_ n1_ n2_ n3_; (try clear hb); (try clear hb2); (try clear hk); (try clear hi); have hnb62 := NB225_221.out; have hnc62 := NB221_225.out; have hcz63_0 : w61.cell? ⟨gb225, 0, none⟩ = some (.int .u16 ((rd_T38 l1 x32_2).f0)) := (blk_cell BK225.out 0).trans rfl; have hcz63_1 : w61.cell? ⟨gb225, 1, none⟩ = some (.bool ((rd_T38 l1 x32_2).f1)) := (blk_cell BK225.out 1).trans rfl; have hfz63_0 := blk_frozen BK225.out 0; have hfz63_1 := blk_frozen BK225.out 1)); try go_wp2_with (first | (go_at_call 15; (with_reducible refine (overload_Check.calls t226 t227 t228 t229 t233 _ A37.out).mono ?_); rintro e w61 ⟨rfl, hb⟩; have n0_ := Aside0.mk (blk_below (g := gb221) (o := .cells #[.int .i64 x222000_2, .int .i64 x222001_2, .int .i64 x222002_2, .int .i64 x222003_2] 23 (0, 0)) (by (with_reducible repeat (first | refine blk_drewN ?_ _ | refine blk_drew ?_ | refine blk_alloc ?_ _)); refine blk_far ?_ NB221_232.out _; (with_reducible repeat (first | refine blk_drewN ?_ _ | refine blk_drew ?_ | refine blk_alloc ?_ _)); refine blk_far ?_ NB221_232.out _; (with_reducible repeat (first | refine blk_drewN ?_ _ | refine blk_drew ?_ | refine blk_alloc ?_ _)); refine blk_far ?_ NB221_232.out _; (with_reducible repeat (first | refine blk_drewN ?_ _ | refine blk_drew ?_ | refine blk_alloc ?_ _)); refine blk_far ?_ NB221_232.out _; (with_reducible repeat (first | refine blk_drewN ?_ _ | refine blk_drew ?_ | refine blk_alloc ?_ _)); exact BK221.out) hb); have n1_ := Aside0.mk (blk_below (g := gb225) (o := .cells #[.int .u16 ((rd_T38 l1 x32_2).f0), .bool ((rd_T38 l1 x32_2).f1)] 38 (0, 0)) (by (with_reducible repeat (first | refine blk_drewN ?_ _ | refine blk_drew ?_ | refine blk_alloc ?_ _)); refine blk_far ?_ NB225_232.out _; (with_reducible repeat (first | refine blk_drewN ?_ _ | refine blk_drew ?_ | refine blk_alloc ?_ _)); refine blk_far ?_ NB225_232.out _; (with_reducible repeat (first | refine blk_drewN ?_ _ | refine blk_drew ?_ | refine blk_alloc ?_ _)); refine blk_far ?_ NB225_232.out _; (with_reducible repeat (first | refine blk_drewN ?_ _ | refine blk_drew ?_ | refine blk_alloc ?_ _)); refine blk_far ?_ NB225_232.out _; (with_reducible repeat (first | refine blk_drewN ?_ _ | refine blk_drew ?_ | refine blk_alloc ?_ _)); exact BK225.out) hb); have n2_ := Aside0.mk (blk_below (g := gb232) (o := .cells #[.int .i64 t226, .int .i64 t227, .int .i64 t228, .int .i64 t229] 23 (0, 0)) (by (with_reducible repeat (first | refine blk_drewN ?_ _ | refine blk_drew ?_ | refine blk_alloc ?_ _)); refine blk_put (cs := #[.int .i64 t226, .int .i64 t227, .int .i64 t228, .int .i64 0]) ?_ 3 _ rfl; (with_reducible repeat (first | refine blk_drewN ?_ _ | refine blk_drew ?_ | refine blk_alloc ?_ _)); refine blk_put (cs := #[.int .i64 t226, .int .i64 t227, .int .i64 0, .int .i64 0]) ?_ 2 _ rfl; (with_reducible repeat (first | refine blk_drewN ?_ _ | refine blk_drew ?_ | refine blk_alloc ?_ _)); refine blk_put (cs := #[.int .i64 t226, .int .i64 0, .int .i64 0, .int .i64 0]) ?_ 1 _ rfl; (with_reducible repeat (first | refine blk_drewN ?_ _ | refine blk_drew ?_ | refine blk_alloc ?_ _)); refine blk_put (cs := #[.int .i64 0, .int .i64 0, .int .i64 0, .int .i64 0]) ?_ 0 _ rfl; (with_reducible repeat (first | refine blk_drewN ?_ _ | refine blk_drew ?_ | refine blk_alloc ?_ _)); exact BK232.out) hb); have n3_ := Aside0.mk (below_step (by repeat (first | (with_reducible first | exact HB.out | apply below_alloc | apply pw_below_drewN | apply below_drew1 | refine below_set ?_ GE221.out | refine below_set ?_ GE225.out | refine below_set ?_ GE232.out) | exact HB.out)) hb); clear BK221; clear BK225; clear BK232; clear HB; have BK221 := n0_; have BK225 := n1_; have BK232 := n2_; have HB := n3_; clear n0_ n1_ n2_ n3_; (try clear hb); (try clear hb2); (try clear hk); (try clear hi); have hnb62 := NB225_221.out; have hnc62 := NB221_225.out; have hcz63_0 : w61.cell? ⟨gb225, 0, none⟩ = some (.int .u16 ((rd_T38 l1 x32_2).f0)) := (blk_cell BK225.out 0).trans rfl; have hcz63_1 : w61.cell? ⟨gb225, 1, none⟩ = some (.bool ((rd_T38 l1 x32_2).f1)) := (blk_cell BK225.out 1).trans rfl; have hfz63_0 := blk_frozen BK225.out 0; have hfz63_1 := blk_frozen BK225.out 1)))
                                  go_meet
                                  case rel => exact ⟨_, (true), (by first | rfl | (simp; done) | (simp [*]; done)), H', ⟨by have := HJ4.out; have := HK2.out; have := HJ20.out; first | omega | exact Nat.le_refl _⟩, ⟨by (with_reducible repeat (first | refine blk_drewN ?_ _ | refine blk_drew ?_ | refine blk_alloc ?_ _)); exact BK221.out⟩, ⟨by (with_reducible repeat (first | refine blk_drewN ?_ _ | refine blk_drew ?_ | refine blk_alloc ?_ _)); exact BK225.out⟩, ⟨by (with_reducible repeat (first | refine blk_drewN ?_ _ | refine blk_drew ?_ | refine blk_alloc ?_ _)); exact BK232.out⟩, ⟨by repeat (first | (with_reducible first | exact HB.out | apply below_alloc | apply pw_below_drewN | apply below_drew1 | refine below_set ?_ GE221.out | refine below_set ?_ GE225.out | refine below_set ?_ GE232.out) | exact HB.out)⟩⟩
                              · rw [if_neg c39] at H
                                have c39b0 : ((rd_T38 l1 x32_2).f1) = false := by simpa using c39
                                clear c39
                                by_cases c64 : t228 = x222002_2
                                · rw [if_pos c64] at H
                                  have c64b0 : (t228 == x222002_2) = true := beq_iff_eq.mpr c64
                                  have c64b1 : (t228 != x222002_2) = false := bne_eq_false_iff_eq.mpr c64
                                  clear c64
                                  have H' := Aside0.mk H
                                  clear H
                                  have hnb65 := NB232_221.out
                                  have hnc65 := NB221_232.out
                                  have hnb66 := NB232_225.out
                                  have hnc66 := NB225_232.out
                                  have hcz67_0 : w32.cell? ⟨gb232, 0, none⟩ = some (.int .i64 0) := (blk_cell BK232.out 0).trans rfl
                                  have hcz67_1 : w32.cell? ⟨gb232, 1, none⟩ = some (.int .i64 0) := (blk_cell BK232.out 1).trans rfl
                                  have hcz67_2 : w32.cell? ⟨gb232, 2, none⟩ = some (.int .i64 0) := (blk_cell BK232.out 2).trans rfl
                                  have hcz67_3 : w32.cell? ⟨gb232, 3, none⟩ = some (.int .i64 0) := (blk_cell BK232.out 3).trans rfl
                                  have hfz67_0 := blk_frozen BK232.out 0
                                  have hfz67_1 := blk_frozen BK232.out 1
                                  have hfz67_2 := blk_frozen BK232.out 2
                                  have hfz67_3 := blk_frozen BK232.out 3
                                  go_wp2_with (first | (go_at_call 15; (with_reducible refine (overload_Check.calls t226 t227 t228 t229 t233 _ A37.out).mono ?_); rintro e w68 ⟨rfl, hb⟩; have n0_ := Aside0.mk (blk_below (g := gb221) (o := .cells #[.int .i64 x222000_2, .int .i64 x222001_2, .int .i64 x222002_2, .int .i64 x222003_2] 23 (0, 0)) (by (with_reducible repeat (first | refine blk_drewN ?_ _ | refine blk_drew ?_ | refine blk_alloc ?_ _)); refine blk_far ?_ NB221_232.out _; (with_reducible repeat (first | refine blk_drewN ?_ _ | refine blk_drew ?_ | refine blk_alloc ?_ _)); refine blk_far ?_ NB221_232.out _; (with_reducible repeat (first | refine blk_drewN ?_ _ | refine blk_drew ?_ | refine blk_alloc ?_ _)); refine blk_far ?_ NB221_232.out _; (with_reducible repeat (first | refine blk_drewN ?_ _ | refine blk_drew ?_ | refine blk_alloc ?_ _)); refine blk_far ?_ NB221_232.out _; (with_reducible repeat (first | refine blk_drewN ?_ _ | refine blk_drew ?_ | refine blk_alloc ?_ _)); exact BK221.out) hb); have n1_ := Aside0.mk (blk_below (g := gb225) (o := .cells #[.int .u16 ((rd_T38 l1 x32_2).f0), .bool ((rd_T38 l1 x32_2).f1)] 38 (0, 0)) (by (with_reducible repeat (first | refine blk_drewN ?_ _ | refine blk_drew ?_ | refine blk_alloc ?_ _)); refine blk_far ?_ NB225_232.out _; (with_reducible repeat (first | refine blk_drewN ?_ _ | refine blk_drew ?_ | refine blk_alloc ?_ _)); refine blk_far ?_ NB225_232.out _; (with_reducible repeat (first | refine blk_drewN ?_ _ | refine blk_drew ?_ | refine blk_alloc ?_ _)); refine blk_far ?_ NB225_232.out _; (with_reducible repeat (first | refine blk_drewN ?_ _ | refine blk_drew ?_ | refine blk_alloc ?_ _)); refine blk_far ?_ NB225_232.out _; (with_reducible repeat (first | refine blk_drewN ?_ _ | refine blk_drew ?_ | refine blk_alloc ?_ _)); exact BK225.out) hb); have n2_ := Aside0.mk (blk_below (g := gb232) (o := .cells #[.int .i64 t226, .int .i64 t227, .int .i64 t228, .int .i64 t229] 23 (0, 0)) (by (with_reducible repeat (first | refine blk_drewN ?_ _ | refine blk_drew ?_ | refine blk_alloc ?_ _)); refine blk_put (cs := #[.int .i64 t226, .int .i64 t227, .int .i64 t228, .int .i64 0]) ?_ 3 _ rfl; (with_reducible repeat (first | refine blk_drewN ?_ _ | refine blk_drew ?_ | refine blk_alloc ?_ _)); refine blk_put (cs := #[.int .i64 t226, .int .i64 t227, .int .i64 0, .int .i64 0]) ?_ 2 _ rfl; (with_reducible repeat (first | refine blk_drewN ?_ _ | refine blk_drew ?_ | refine blk_alloc ?_ _)); refine blk_put (cs := #[.int .i64 t226, .int .i64 0, .int .i64 0, .int .i64 0]) ?_ 1 _ rfl; (with_reducible repeat (first | refine blk_drewN ?_ _ | refine blk_drew ?_ | refine blk_alloc ?_ _)); refine blk_put (cs := #[.int .i64 0, .int .i64 0, .int .i64 0, .int .i64 0]) ?_ 0 _ rfl; (with_reducible repeat (first | refine blk_drewN ?_ _ | refine blk_drew ?_ | refine blk_alloc ?_ _)); exact BK232.out) hb); have n3_ := Aside0.mk (below_step (by repeat (first | (with_reducible first | exact HB.out | apply below_alloc | apply pw_below_drewN | apply below_drew1 | refine below_set ?_ GE221.out | refine below_set ?_ GE225.out | refine below_set ?_ GE232.out) | exact HB.out)) hb); clear BK221; clear BK225; clear BK232; clear HB; have BK221 := n0_; have BK225 := n1_; have BK232 := n2_; have HB := n3_; clear n0_ n1_ n2_ n3_; (try clear hb); (try clear hb2); (try clear hk); (try clear hi); have hnb69 := NB225_221.out; have hnc69 := NB221_225.out; have hcz70_0 : w68.cell? ⟨gb225, 0, none⟩ = some (.int .u16 ((rd_T38 l1 x32_2).f0)) := (blk_cell BK225.out 0).trans rfl; have hcz70_1 : w68.cell? ⟨gb225, 1, none⟩ = some (.bool ((rd_T38 l1 x32_2).f1)) := (blk_cell BK225.out 1).trans rfl; have hfz70_0 := blk_frozen BK225.out 0; have hfz70_1 := blk_frozen BK225.out 1; have hcz71_0 : w68.cell? ⟨gb232, 0, none⟩ = some (.int .i64 t226) := (blk_cell BK232.out 0).trans rfl; have hcz71_1 : w68.cell? ⟨gb232, 1, none⟩ = some (.int .i64 t227) := (blk_cell BK232.out 1).trans rfl; have hcz71_2 : w68.cell? ⟨gb232, 2, none⟩ = some (.int .i64 t228) := (blk_cell BK232.out 2).trans rfl; have hcz71_3 : w68.cell? ⟨gb232, 3, none⟩ = some (.int .i64 t229) := (blk_cell BK232.out 3).trans rfl; have hfz71_0 := blk_frozen BK232.out 0; have hfz71_1 := blk_frozen BK232.out 1; have hfz71_2 := blk_frozen BK232.out 2; have hfz71_3 := blk_frozen BK232.out 3; have hcz72_0 : w68.cell? ⟨gb221, 0, none⟩ = some (.int .i64 x222000_2) := (blk_cell BK221.out 0).trans rfl; have hcz72_1 : w68.cell? ⟨gb221, 1, none⟩ = some (.int .i64 x222001_2) := (blk_cell BK221.out 1).trans rfl; have hcz72_2 : w68.cell? ⟨gb221, 2, none⟩ = some (.int .i64 x222002_2) := (blk_cell BK221.out 2).trans rfl; have hcz72_3 : w68.cell? ⟨gb221, 3, none⟩ = some (.int .i64 x222003_2) := (blk_cell BK221.out 3).trans rfl; have hfz72_0 := blk_frozen BK221.out 0; have hfz72_1 := blk_frozen BK221.out 1; have hfz72_2 := blk_frozen BK221.out 2; have hfz72_3 := blk_frozen BK221.out 3))
                                  repeat (go_quiet (first | (go_at_call 15; (with_reducible refine (overload_Check.calls t226 t227 t228 t229 t233 _ A37.out).mono ?_); rintro e w68 ⟨rfl, hb⟩; have n0_ := Aside0.mk (blk_below (g := gb221) (o := .cells #[.int .i64 x222000_2, .int .i64 x222001_2, .int .i64 x222002_2, .int .i64 x222003_2] 23 (0, 0)) (by (with_reducible repeat (first | refine blk_drewN ?_ _ | refine blk_drew ?_ | refine blk_alloc ?_ _)); refine blk_far ?_ NB221_232.out _; (with_reducible repeat (first | refine blk_drewN ?_ _ | refine blk_drew ?_ | refine blk_alloc ?_ _)); refine blk_far ?_ NB221_232.out _; (with_reducible repeat (first | refine blk_drewN ?_ _ | refine blk_drew ?_ | refine blk_alloc ?_ _)); refine blk_far ?_ NB221_232.out _; (with_reducible repeat (first | refine blk_drewN ?_ _ | refine blk_drew ?_ | refine blk_alloc ?_ _)); refine blk_far ?_ NB221_232.out _; (with_reducible repeat (first | refine blk_drewN ?_ _ | refine blk_drew ?_ | refine blk_alloc ?_ _)); exact BK221.out) hb); have n1_ := Aside0.mk (blk_below (g := gb225) (o := .cells #[.int .u16 ((rd_T38 l1 x32_2).f0), .bool ((rd_T38 l1 x32_2).f1)] 38 (0, 0)) (by (with_reducible repeat (first | refine blk_drewN ?_ _ | refine blk_drew ?_ | refine blk_alloc ?_ _)); refine blk_far ?_ NB225_232.out _; (with_reducible repeat (first | refine blk_drewN ?_ _ | refine blk_drew ?_ | refine blk_alloc ?_ _)); refine blk_far ?_ NB225_232.out _; (with_reducible repeat (first | refine blk_drewN ?_ _ | refine blk_drew ?_ | refine blk_alloc ?_ _)); refine blk_far ?_ NB225_232.out _; (with_reducible repeat (first | refine blk_drewN ?_ _ | refine blk_drew ?_ | refine blk_alloc ?_ _)); refine blk_far ?_ NB225_232.out _; (with_reducible repeat (first | refine blk_drewN ?_ _ | refine blk_drew ?_ | refine blk_alloc ?_ _)); exact BK225.out) hb); have n2_ := Aside0.mk (blk_below (g := gb232) (o := .cells #[.int .i64 t226, .int .i64 t227, .int .i64 t228, .int .i64 t229] 23 (0, 0)) (by (with_reducible repeat (first | refine blk_drewN ?_ _ | refine blk_drew ?_ | refine blk_alloc ?_ _)); refine blk_put (cs := #[.int .i64 t226, .int .i64 t227, .int .i64 t228, .int .i64 0]) ?_ 3 _ rfl; (with_reducible repeat (first | refine blk_drewN ?_ _ | refine blk_drew ?_ | refine blk_alloc ?_ _)); refine blk_put (cs := #[.int .i64 t226, .int .i64 t227, .int .i64 0, .int .i64 0]) ?_ 2 _ rfl; (with_reducible repeat (first | refine blk_drewN ?_ _ | refine blk_drew ?_ | refine blk_alloc ?_ _)); refine blk_put (cs := #[.int .i64 t226, .int .i64 0, .int .i64 0, .int .i64 0]) ?_ 1 _ rfl; (with_reducible repeat (first | refine blk_drewN ?_ _ | refine blk_drew ?_ | refine blk_alloc ?_ _)); refine blk_put (cs := #[.int .i64 0, .int .i64 0, .int .i64 0, .int .i64 0]) ?_ 0 _ rfl; (with_reducible repeat (first | refine blk_drewN ?_ _ | refine blk_drew ?_ | refine blk_alloc ?_ _)); exact BK232.out) hb); have n3_ := Aside0.mk (below_step (by repeat (first | (with_reducible first | exact HB.out | apply below_alloc | apply pw_below_drewN | apply below_drew1 | refine below_set ?_ GE221.out | refine below_set ?_ GE225.out | refine below_set ?_ GE232.out) | exact HB.out)) hb); clear BK221; clear BK225; clear BK232; clear HB; have BK221 := n0_; have BK225 := n1_; have BK232 := n2_; have HB := n3_; clear n0_ n1_ n2_ n3_; (try clear hb); (try clear hb2); (try clear hk); (try clear hi); have hnb69 := NB225_221.out; have hnc69 := NB221_225.out; have hcz70_0 : w68.cell? ⟨gb225, 0, none⟩ = some (.int .u16 ((rd_T38 l1 x32_2).f0)) := (blk_cell BK225.out 0).trans rfl; have hcz70_1 : w68.cell? ⟨gb225, 1, none⟩ = some (.bool ((rd_T38 l1 x32_2).f1)) := (blk_cell BK225.out 1).trans rfl; have hfz70_0 := blk_frozen BK225.out 0; have hfz70_1 := blk_frozen BK225.out 1; have hcz71_0 : w68.cell? ⟨gb232, 0, none⟩ = some (.int .i64 t226) := (blk_cell BK232.out 0).trans rfl; have hcz71_1 : w68.cell? ⟨gb232, 1, none⟩ = some (.int .i64 t227) := (blk_cell BK232.out 1).trans rfl; have hcz71_2 : w68.cell? ⟨gb232, 2, none⟩ = some (.int .i64 t228) := (blk_cell BK232.out 2).trans rfl; have hcz71_3 : w68.cell? ⟨gb232, 3, none⟩ = some (.int .i64 t229) := (blk_cell BK232.out 3).trans rfl; have hfz71_0 := blk_frozen BK232.out 0; have hfz71_1 := blk_frozen BK232.out 1; have hfz71_2 := blk_frozen BK232.out 2; have hfz71_3 := blk_frozen BK232.out 3; have hcz72_0 : w68.cell? ⟨gb221, 0, none⟩ = some (.int .i64 x222000_2) := (blk_cell BK221.out 0).trans rfl; have hcz72_1 : w68.cell? ⟨gb221, 1, none⟩ = some (.int .i64 x222001_2) := (blk_cell BK221.out 1).trans rfl; have hcz72_2 : w68.cell? ⟨gb221, 2, none⟩ = some (.int .i64 x222002_2) := (blk_cell BK221.out 2).trans rfl; have hcz72_3 : w68.cell? ⟨gb221, 3, none⟩ = some (.int .i64 x222003_2) := (blk_cell BK221.out 3).trans rfl; have hfz72_0 := blk_frozen BK221.out 0; have hfz72_1 := blk_frozen BK221.out 1; have hfz72_2 := blk_frozen BK221.out 2; have hfz72_3 := blk_frozen BK221.out 3)); try go_wp2_with (first | (go_at_call 15; (with_reducible refine (overload_Check.calls t226 t227 t228 t229 t233 _ A37.out).mono ?_); rintro e w68 ⟨rfl, hb⟩; have n0_ := Aside0.mk (blk_below (g := gb221) (o := .cells #[.int .i64 x222000_2, .int .i64 x222001_2, .int .i64 x222002_2, .int .i64 x222003_2] 23 (0, 0)) (by (with_reducible repeat (first | refine blk_drewN ?_ _ | refine blk_drew ?_ | refine blk_alloc ?_ _)); refine blk_far ?_ NB221_232.out _; (with_reducible repeat (first | refine blk_drewN ?_ _ | refine blk_drew ?_ | refine blk_alloc ?_ _)); refine blk_far ?_ NB221_232.out _; (with_reducible repeat (first | refine blk_drewN ?_ _ | refine blk_drew ?_ | refine blk_alloc ?_ _)); refine blk_far ?_ NB221_232.out _; (with_reducible repeat (first | refine blk_drewN ?_ _ | refine blk_drew ?_ | refine blk_alloc ?_ _)); refine blk_far ?_ NB221_232.out _; (with_reducible repeat (first | refine blk_drewN ?_ _ | refine blk_drew ?_ | refine blk_alloc ?_ _)); exact BK221.out) hb); have n1_ := Aside0.mk (blk_below (g := gb225) (o := .cells #[.int .u16 ((rd_T38 l1 x32_2).f0), .bool ((rd_T38 l1 x32_2).f1)] 38 (0, 0)) (by (with_reducible repeat (first | refine blk_drewN ?_ _ | refine blk_drew ?_ | refine blk_alloc ?_ _)); refine blk_far ?_ NB225_232.out _; (with_reducible repeat (first | refine blk_drewN ?_ _ | refine blk_drew ?_ | refine blk_alloc ?_ _)); refine blk_far ?_ NB225_232.out _; (with_reducible repeat (first | refine blk_drewN ?_ _ | refine blk_drew ?_ | refine blk_alloc ?_ _)); refine blk_far ?_ NB225_232.out _; (with_reducible repeat (first | refine blk_drewN ?_ _ | refine blk_drew ?_ | refine blk_alloc ?_ _)); refine blk_far ?_ NB225_232.out _; (with_reducible repeat (first | refine blk_drewN ?_ _ | refine blk_drew ?_ | refine blk_alloc ?_ _)); exact BK225.out) hb); have n2_ := Aside0.mk (blk_below (g := gb232) (o := .cells #[.int .i64 t226, .int .i64 t227, .int .i64 t228, .int .i64 t229] 23 (0, 0)) (by (with_reducible repeat (first | refine blk_drewN ?_ _ | refine blk_drew ?_ | refine blk_alloc ?_ _)); refine blk_put (cs := #[.int .i64 t226, .int .i64 t227, .int .i64 t228, .int .i64 0]) ?_ 3 _ rfl; (with_reducible repeat (first | refine blk_drewN ?_ _ | refine blk_drew ?_ | refine blk_alloc ?_ _)); refine blk_put (cs := #[.int .i64 t226, .int .i64 t227, .int .i64 0, .int .i64 0]) ?_ 2 _ rfl; (with_reducible repeat (first | refine blk_drewN ?_ _ | refine blk_drew ?_ | refine blk_alloc ?_ _)); refine blk_put (cs := #[.int .i64 t226, .int .i64 0, .int .i64 0, .int .i64 0]) ?_ 1 _ rfl; (with_reducible repeat (first | refine blk_drewN ?_ _ | refine blk_drew ?_ | refine blk_alloc ?_ _)); refine blk_put (cs := #[.int .i64 0, .int .i64 0, .int .i64 0, .int .i64 0]) ?_ 0 _ rfl; (with_reducible repeat (first | refine blk_drewN ?_ _ | refine blk_drew ?_ | refine blk_alloc ?_ _)); exact BK232.out) hb); have n3_ := Aside0.mk (below_step (by repeat (first | (with_reducible first | exact HB.out | apply below_alloc | apply pw_below_drewN | apply below_drew1 | refine below_set ?_ GE221.out | refine below_set ?_ GE225.out | refine below_set ?_ GE232.out) | exact HB.out)) hb); clear BK221; clear BK225; clear BK232; clear HB; have BK221 := n0_; have BK225 := n1_; have BK232 := n2_; have HB := n3_; clear n0_ n1_ n2_ n3_; (try clear hb); (try clear hb2); (try clear hk); (try clear hi); have hnb69 := NB225_221.out; have hnc69 := NB221_225.out; have hcz70_0 : w68.cell? ⟨gb225, 0, none⟩ = some (.int .u16 ((rd_T38 l1 x32_2).f0)) := (blk_cell BK225.out 0).trans rfl; have hcz70_1 : w68.cell? ⟨gb225, 1, none⟩ = some (.bool ((rd_T38 l1 x32_2).f1)) := (blk_cell BK225.out 1).trans rfl; have hfz70_0 := blk_frozen BK225.out 0; have hfz70_1 := blk_frozen BK225.out 1; have hcz71_0 : w68.cell? ⟨gb232, 0, none⟩ = some (.int .i64 t226) := (blk_cell BK232.out 0).trans rfl; have hcz71_1 : w68.cell? ⟨gb232, 1, none⟩ = some (.int .i64 t227) := (blk_cell BK232.out 1).trans rfl; have hcz71_2 : w68.cell? ⟨gb232, 2, none⟩ = some (.int .i64 t228) := (blk_cell BK232.out 2).trans rfl; have hcz71_3 : w68.cell? ⟨gb232, 3, none⟩ = some (.int .i64 t229) := (blk_cell BK232.out 3).trans rfl; have hfz71_0 := blk_frozen BK232.out 0; have hfz71_1 := blk_frozen BK232.out 1; have hfz71_2 := blk_frozen BK232.out 2; have hfz71_3 := blk_frozen BK232.out 3; have hcz72_0 : w68.cell? ⟨gb221, 0, none⟩ = some (.int .i64 x222000_2) := (blk_cell BK221.out 0).trans rfl; have hcz72_1 : w68.cell? ⟨gb221, 1, none⟩ = some (.int .i64 x222001_2) := (blk_cell BK221.out 1).trans rfl; have hcz72_2 : w68.cell? ⟨gb221, 2, none⟩ = some (.int .i64 x222002_2) := (blk_cell BK221.out 2).trans rfl; have hcz72_3 : w68.cell? ⟨gb221, 3, none⟩ = some (.int .i64 x222003_2) := (blk_cell BK221.out 3).trans rfl; have hfz72_0 := blk_frozen BK221.out 0; have hfz72_1 := blk_frozen BK221.out 1; have hfz72_2 := blk_frozen BK221.out 2; have hfz72_3 := blk_frozen BK221.out 3)))
                                  go_meet
                                  case rel => exact ⟨_, ((t229 != x222003_2)), (by first | rfl | (simp; done) | (simp [*]; done)), H', ⟨by have := HJ4.out; have := HK2.out; have := HJ20.out; first | omega | exact Nat.le_refl _⟩, ⟨by (with_reducible repeat (first | refine blk_drewN ?_ _ | refine blk_drew ?_ | refine blk_alloc ?_ _)); exact BK221.out⟩, ⟨by (with_reducible repeat (first | refine blk_drewN ?_ _ | refine blk_drew ?_ | refine blk_alloc ?_ _)); exact BK225.out⟩, ⟨by (with_reducible repeat (first | refine blk_drewN ?_ _ | refine blk_drew ?_ | refine blk_alloc ?_ _)); exact BK232.out⟩, ⟨by repeat (first | (with_reducible first | exact HB.out | apply below_alloc | apply pw_below_drewN | apply below_drew1 | refine below_set ?_ GE221.out | refine below_set ?_ GE225.out | refine below_set ?_ GE232.out) | exact HB.out)⟩⟩
                                · rw [if_neg c64] at H
                                  have c64b0 : (t228 == x222002_2) = false := beq_eq_false_iff_ne.mpr c64
                                  have c64b1 : (t228 != x222002_2) = true := bne_iff_ne.mpr c64
                                  have H' := Aside0.mk H
                                  clear H
                                  have hnb73 := NB232_221.out
                                  have hnc73 := NB221_232.out
                                  have hnb74 := NB232_225.out
                                  have hnc74 := NB225_232.out
                                  have hcz75_0 : w32.cell? ⟨gb232, 0, none⟩ = some (.int .i64 0) := (blk_cell BK232.out 0).trans rfl
                                  have hcz75_1 : w32.cell? ⟨gb232, 1, none⟩ = some (.int .i64 0) := (blk_cell BK232.out 1).trans rfl
                                  have hcz75_2 : w32.cell? ⟨gb232, 2, none⟩ = some (.int .i64 0) := (blk_cell BK232.out 2).trans rfl
                                  have hcz75_3 : w32.cell? ⟨gb232, 3, none⟩ = some (.int .i64 0) := (blk_cell BK232.out 3).trans rfl
                                  have hfz75_0 := blk_frozen BK232.out 0
                                  have hfz75_1 := blk_frozen BK232.out 1
                                  have hfz75_2 := blk_frozen BK232.out 2
                                  have hfz75_3 := blk_frozen BK232.out 3
                                  go_wp2_with (first | (go_at_call 15; (with_reducible refine (overload_Check.calls t226 t227 t228 t229 t233 _ A37.out).mono ?_); rintro e w76 ⟨rfl, hb⟩; have n0_ := Aside0.mk (blk_below (g := gb221) (o := .cells #[.int .i64 x222000_2, .int .i64 x222001_2, .int .i64 x222002_2, .int .i64 x222003_2] 23 (0, 0)) (by (with_reducible repeat (first | refine blk_drewN ?_ _ | refine blk_drew ?_ | refine blk_alloc ?_ _)); refine blk_far ?_ NB221_232.out _; (with_reducible repeat (first | refine blk_drewN ?_ _ | refine blk_drew ?_ | refine blk_alloc ?_ _)); refine blk_far ?_ NB221_232.out _; (with_reducible repeat (first | refine blk_drewN ?_ _ | refine blk_drew ?_ | refine blk_alloc ?_ _)); refine blk_far ?_ NB221_232.out _; (with_reducible repeat (first | refine blk_drewN ?_ _ | refine blk_drew ?_ | refine blk_alloc ?_ _)); refine blk_far ?_ NB221_232.out _; (with_reducible repeat (first | refine blk_drewN ?_ _ | refine blk_drew ?_ | refine blk_alloc ?_ _)); exact BK221.out) hb); have n1_ := Aside0.mk (blk_below (g := gb225) (o := .cells #[.int .u16 ((rd_T38 l1 x32_2).f0), .bool ((rd_T38 l1 x32_2).f1)] 38 (0, 0)) (by (with_reducible repeat (first | refine blk_drewN ?_ _ | refine blk_drew ?_ | refine blk_alloc ?_ _)); refine blk_far ?_ NB225_232.out _; (with_reducible repeat (first | refine blk_drewN ?_ _ | refine blk_drew ?_ | refine blk_alloc ?_ _)); refine blk_far ?_ NB225_232.out _; (with_reducible repeat (first | refine blk_drewN ?_ _ | refine blk_drew ?_ | refine blk_alloc ?_ _)); refine blk_far ?_ NB225_232.out _; (with_reducible repeat (first | refine blk_drewN ?_ _ | refine blk_drew ?_ | refine blk_alloc ?_ _)); refine blk_far ?_ NB225_232.out _; (with_reducible repeat (first | refine blk_drewN ?_ _ | refine blk_drew ?_ | refine blk_alloc ?_ _)); exact BK225.out) hb); have n2_ := Aside0.mk (blk_below (g := gb232) (o := .cells #[.int .i64 t226, .int .i64 t227, .int .i64 t228, .int .i64 t229] 23 (0, 0)) (by (with_reducible repeat (first | refine blk_drewN ?_ _ | refine blk_drew ?_ | refine blk_alloc ?_ _)); refine blk_put (cs := #[.int .i64 t226, .int .i64 t227, .int .i64 t228, .int .i64 0]) ?_ 3 _ rfl; (with_reducible repeat (first | refine blk_drewN ?_ _ | refine blk_drew ?_ | refine blk_alloc ?_ _)); refine blk_put (cs := #[.int .i64 t226, .int .i64 t227, .int .i64 0, .int .i64 0]) ?_ 2 _ rfl; (with_reducible repeat (first | refine blk_drewN ?_ _ | refine blk_drew ?_ | refine blk_alloc ?_ _)); refine blk_put (cs := #[.int .i64 t226, .int .i64 0, .int .i64 0, .int .i64 0]) ?_ 1 _ rfl; (with_reducible repeat (first | refine blk_drewN ?_ _ | refine blk_drew ?_ | refine blk_alloc ?_ _)); refine blk_put (cs := #[.int .i64 0, .int .i64 0, .int .i64 0, .int .i64 0]) ?_ 0 _ rfl; (with_reducible repeat (first | refine blk_drewN ?_ _ | refine blk_drew ?_ | refine blk_alloc ?_ _)); exact BK232.out) hb); have n3_ := Aside0.mk (below_step (by repeat (first | (with_reducible first | exact HB.out | apply below_alloc | apply pw_below_drewN | apply below_drew1 | refine below_set ?_ GE221.out | refine below_set ?_ GE225.out | refine below_set ?_ GE232.out) | exact HB.out)) hb); clear BK221; clear BK225; clear BK232; clear HB; have BK221 := n0_; have BK225 := n1_; have BK232 := n2_; have HB := n3_; clear n0_ n1_ n2_ n3_; (try clear hb); (try clear hb2); (try clear hk); (try clear hi); have hnb77 := NB225_221.out; have hnc77 := NB221_225.out; have hcz78_0 : w76.cell? ⟨gb225, 0, none⟩ = some (.int .u16 ((rd_T38 l1 x32_2).f0)) := (blk_cell BK225.out 0).trans rfl; have hcz78_1 : w76.cell? ⟨gb225, 1, none⟩ = some (.bool ((rd_T38 l1 x32_2).f1)) := (blk_cell BK225.out 1).trans rfl; have hfz78_0 := blk_frozen BK225.out 0; have hfz78_1 := blk_frozen BK225.out 1; have hcz79_0 : w76.cell? ⟨gb232, 0, none⟩ = some (.int .i64 t226) := (blk_cell BK232.out 0).trans rfl; have hcz79_1 : w76.cell? ⟨gb232, 1, none⟩ = some (.int .i64 t227) := (blk_cell BK232.out 1).trans rfl; have hcz79_2 : w76.cell? ⟨gb232, 2, none⟩ = some (.int .i64 t228) := (blk_cell BK232.out 2).trans rfl; have hcz79_3 : w76.cell? ⟨gb232, 3, none⟩ = some (.int .i64 t229) := (blk_cell BK232.out 3).trans rfl; have hfz79_0 := blk_frozen BK232.out 0; have hfz79_1 := blk_frozen BK232.out 1; have hfz79_2 := blk_frozen BK232.out 2; have hfz79_3 := blk_frozen BK232.out 3; have hcz80_0 : w76.cell? ⟨gb221, 0, none⟩ = some (.int .i64 x222000_2) := (blk_cell BK221.out 0).trans rfl; have hcz80_1 : w76.cell? ⟨gb221, 1, none⟩ = some (.int .i64 x222001_2) := (blk_cell BK221.out 1).trans rfl; have hcz80_2 : w76.cell? ⟨gb221, 2, none⟩ = some (.int .i64 x222002_2) := (blk_cell BK221.out 2).trans rfl; have hcz80_3 : w76.cell? ⟨gb221, 3, none⟩ = some (.int .i64 x222003_2) := (blk_cell BK221.out 3).trans rfl; have hfz80_0 := blk_frozen BK221.out 0; have hfz80_1 := blk_frozen BK221.out 1; have hfz80_2 := blk_frozen BK221.out 2; have hfz80_3 := blk_frozen BK221.out 3))
                                  repeat (go_quiet (first | (go_at_call 15; (with_reducible refine (overload_Check.calls t226 t227 t228 t229 t233 _ A37.out).mono ?_); rintro e w76 ⟨rfl, hb⟩; have n0_ := Aside0.mk (blk_below (g := gb221) (o := .cells #[.int .i64 x222000_2, .int .i64 x222001_2, .int .i64 x222002_2, .int .i64 x222003_2] 23 (0, 0)) (by (with_reducible repeat (first | refine blk_drewN ?_ _ | refine blk_drew ?_ | refine blk_alloc ?_ _)); refine blk_far ?_ NB221_232.out _; (with_reducible repeat (first | refine blk_drewN ?_ _ | refine blk_drew ?_ | refine blk_alloc ?_ _)); refine blk_far ?_ NB221_232.out _; (with_reducible repeat (first | refine blk_drewN ?_ _ | refine blk_drew ?_ | refine blk_alloc ?_ _)); refine blk_far ?_ NB221_232.out _; (with_reducible repeat (first | refine blk_drewN ?_ _ | refine blk_drew ?_ | refine blk_alloc ?_ _)); refine blk_far ?_ NB221_232.out _; (with_reducible repeat (first | refine blk_drewN ?_ _ | refine blk_drew ?_ | refine blk_alloc ?_ _)); exact BK221.out) hb); have n1_ := Aside0.mk (blk_below (g := gb225) (o := .cells #[.int .u16 ((rd_T38 l1 x32_2).f0), .bool ((rd_T38 l1 x32_2).f1)] 38 (0, 0)) (by (with_reducible repeat (first | refine blk_drewN ?_ _ | refine blk_drew ?_ | refine blk_alloc ?_ _)); refine blk_far ?_ NB225_232.out _; (with_reducible repeat (first | refine blk_drewN ?_ _ | refine blk_drew ?_ | refine blk_alloc ?_ _)); refine blk_far ?_ NB225_232.out _; (with_reducible repeat (first | refine blk_drewN ?_ _ | refine blk_drew ?_ | refine blk_alloc ?_ _)); refine blk_far ?_ NB225_232.out _; (with_reducible repeat (first | refine blk_drewN ?_ _ | refine blk_drew ?_ | refine blk_alloc ?_ _)); refine blk_far ?_ NB225_232.out _; (with_reducible repeat (first | refine blk_drewN ?_ _ | refine blk_drew ?_ | refine blk_alloc ?_ _)); exact BK225.out) hb); have n2_ := Aside0.mk (blk_below (g := gb232) (o := .cells #[.int .i64 t226, .int .i64 t227, .int .i64 t228, .int .i64 t229] 23 (0, 0)) (by (with_reducible repeat (first | refine blk_drewN ?_ _ | refine blk_drew ?_ | refine blk_alloc ?_ _)); refine blk_put (cs := #[.int .i64 t226, .int .i64 t227, .int .i64 t228, .int .i64 0]) ?_ 3 _ rfl; (with_reducible repeat (first | refine blk_drewN ?_ _ | refine blk_drew ?_ | refine blk_alloc ?_ _)); refine blk_put (cs := #[.int .i64 t226, .int .i64 t227, .int .i64 0, .int .i64 0]) ?_ 2 _ rfl; (with_reducible repeat (first | refine blk_drewN ?_ _ | refine blk_drew ?_ | refine blk_alloc ?_ _)); refine blk_put (cs := #[.int .i64 t226, .int .i64 0, .int .i64 0, .int .i64 0]) ?_ 1 _ rfl; (with_reducible repeat (first | refine blk_drewN ?_ _ | refine blk_drew ?_ | refine blk_alloc ?_ _)); refine blk_put (cs := #[.int .i64 0, .int .i64 0, .int .i64 0, .int .i64 0]) ?_ 0 _ rfl; (with_reducible repeat (first | refine blk_drewN ?_ _ | refine blk_drew ?_ | refine blk_alloc ?_ _)); exact BK232.out) hb); have n3_ := Aside0.mk (below_step (by repeat (first | (with_reducible first | exact HB.out | apply below_alloc | apply pw_below_drewN | apply below_drew1 | refine below_set ?_ GE221.out | refine below_set ?_ GE225.out | refine below_set ?_ GE232.out) | exact HB.out)) hb); clear BK221; clear BK225; clear BK232; clear HB; have BK221 := n0_; have BK225 := n1_; have BK232 := n2_; have HB := n3_; clear n0_ n1_ n2_ n3_; (try clear hb); (try clear hb2); (try clear hk); (try clear hi); have hnb77 := NB225_221.out; have hnc77 := NB221_225.out; have hcz78_0 : w76.cell? ⟨gb225, 0, none⟩ = some (.int .u16 ((rd_T38 l1 x32_2).f0)) := (blk_cell BK225.out 0).trans rfl; have hcz78_1 : w76.cell? ⟨gb225, 1, none⟩ = some (.bool ((rd_T38 l1 x32_2).f1)) := (blk_cell BK225.out 1).trans rfl; have hfz78_0 := blk_frozen BK225.out 0; have hfz78_1 := blk_frozen BK225.out 1; have hcz79_0 : w76.cell? ⟨gb232, 0, none⟩ = some (.int .i64 t226) := (blk_cell BK232.out 0).trans rfl; have hcz79_1 : w76.cell? ⟨gb232, 1, none⟩ = some (.int .i64 t227) := (blk_cell BK232.out 1).trans rfl; have hcz79_2 : w76.cell? ⟨gb232, 2, none⟩ = some (.int .i64 t228) := (blk_cell BK232.out 2).trans rfl; have hcz79_3 : w76.cell? ⟨gb232, 3, none⟩ = some (.int .i64 t229) := (blk_cell BK232.out 3).trans rfl; have hfz79_0 := blk_frozen BK232.out 0; have hfz79_1 := blk_frozen BK232.out 1; have hfz79_2 := blk_frozen BK232.out 2; have hfz79_3 := blk_frozen BK232.out 3; have hcz80_0 : w76.cell? ⟨gb221, 0, none⟩ = some (.int .i64 x222000_2) := (blk_cell BK221.out 0).trans rfl; have hcz80_1 : w76.cell? ⟨gb221, 1, none⟩ = some (.int .i64 x222001_2) := (blk_cell BK221.out 1).trans rfl; have hcz80_2 : w76.cell? ⟨gb221, 2, none⟩ = some (.int .i64 x222002_2) := (blk_cell BK221.out 2).trans rfl; have hcz80_3 : w76.cell? ⟨gb221, 3, none⟩ = some (.int .i64 x222003_2) := (blk_cell BK221.out 3).trans rfl; have hfz80_0 := blk_frozen BK221.out 0; have hfz80_1 := blk_frozen BK221.out 1; have hfz80_2 := blk_frozen BK221.out 2; have hfz80_3 := blk_frozen BK221.out 3)); try go_wp2_with (first | (go_at_call 15; (with_reducible refine (overload_Check.calls t226 t227 t228 t229 t233 _ A37.out).mono ?_); rintro e w76 ⟨rfl, hb⟩; have n0_ := Aside0.mk (blk_below (g := gb221) (o := .cells #[.int .i64 x222000_2, .int .i64 x222001_2, .int .i64 x222002_2, .int .i64 x222003_2] 23 (0, 0)) (by (with_reducible repeat (first | refine blk_drewN ?_ _ | refine blk_drew ?_ | refine blk_alloc ?_ _)); refine blk_far ?_ NB221_232.out _; (with_reducible repeat (first | refine blk_drewN ?_ _ | refine blk_drew ?_ | refine blk_alloc ?_ _)); refine blk_far ?_ NB221_232.out _; (with_reducible repeat (first | refine blk_drewN ?_ _ | refine blk_drew ?_ | refine blk_alloc ?_ _)); refine blk_far ?_ NB221_232.out _; (with_reducible repeat (first | refine blk_drewN ?_ _ | refine blk_drew ?_ | refine blk_alloc ?_ _)); refine blk_far ?_ NB221_232.out _; (with_reducible repeat (first | refine blk_drewN ?_ _ | refine blk_drew ?_ | refine blk_alloc ?_ _)); exact BK221.out) hb); have n1_ := Aside0.mk (blk_below (g := gb225) (o := .cells #[.int .u16 ((rd_T38 l1 x32_2).f0), .bool ((rd_T38 l1 x32_2).f1)] 38 (0, 0)) (by (with_reducible repeat (first | refine blk_drewN ?_ _ | refine blk_drew ?_ | refine blk_alloc ?_ _)); refine blk_far ?_ NB225_232.out _; (with_reducible repeat (first | refine blk_drewN ?_ _ | refine blk_drew ?_ | refine blk_alloc ?_ _)); refine blk_far ?_ NB225_232.out _; (with_reducible repeat (first | refine blk_drewN ?_ _ | refine blk_drew ?_ | refine blk_alloc ?_ _)); refine blk_far ?_ NB225_232.out _; (with_reducible repeat (first | refine blk_drewN ?_ _ | refine blk_drew ?_ | refine blk_alloc ?_ _)); refine blk_far ?_ NB225_232.out _; (with_reducible repeat (first | refine blk_drewN ?_ _ | refine blk_drew ?_ | refine blk_alloc ?_ _)); exact BK225.out) hb); have n2_ := Aside0.mk (blk_below (g := gb232) (o := .cells #[.int .i64 t226, .int .i64 t227, .int .i64 t228, .int .i64 t229] 23 (0, 0)) (by (with_reducible repeat (first | refine blk_drewN ?_ _ | refine blk_drew ?_ | refine blk_alloc ?_ _)); refine blk_put (cs := #[.int .i64 t226, .int .i64 t227, .int .i64 t228, .int .i64 0]) ?_ 3 _ rfl; (with_reducible repeat (first | refine blk_drewN ?_ _ | refine blk_drew ?_ | refine blk_alloc ?_ _)); refine blk_put (cs := #[.int .i64 t226, .int .i64 t227, .int .i64 0, .int .i64 0]) ?_ 2 _ rfl; (with_reducible repeat (first | refine blk_drewN ?_ _ | refine blk_drew ?_ | refine blk_alloc ?_ _)); refine blk_put (cs := #[.int .i64 t226, .int .i64 0, .int .i64 0, .int .i64 0]) ?_ 1 _ rfl; (with_reducible repeat (first | refine blk_drewN ?_ _ | refine blk_drew ?_ | refine blk_alloc ?_ _)); refine blk_put (cs := #[.int .i64 0, .int .i64 0, .int .i64 0, .int .i64 0]) ?_ 0 _ rfl; (with_reducible repeat (first | refine blk_drewN ?_ _ | refine blk_drew ?_ | refine blk_alloc ?_ _)); exact BK232.out) hb); have n3_ := Aside0.mk (below_step (by repeat (first | (with_reducible first | exact HB.out | apply below_alloc | apply pw_below_drewN | apply below_drew1 | refine below_set ?_ GE221.out | refine below_set ?_ GE225.out | refine below_set ?_ GE232.out) | exact HB.out)) hb); clear BK221; clear BK225; clear BK232; clear HB; have BK221 := n0_; have BK225 := n1_; have BK232 := n2_; have HB := n3_; clear n0_ n1_ n2_ n3_; (try clear hb); (try clear hb2); (try clear hk); (try clear hi); have hnb77 := NB225_221.out; have hnc77 := NB221_225.out; have hcz78_0 : w76.cell? ⟨gb225, 0, none⟩ = some (.int .u16 ((rd_T38 l1 x32_2).f0)) := (blk_cell BK225.out 0).trans rfl; have hcz78_1 : w76.cell? ⟨gb225, 1, none⟩ = some (.bool ((rd_T38 l1 x32_2).f1)) := (blk_cell BK225.out 1).trans rfl; have hfz78_0 := blk_frozen BK225.out 0; have hfz78_1 := blk_frozen BK225.out 1; have hcz79_0 : w76.cell? ⟨gb232, 0, none⟩ = some (.int .i64 t226) := (blk_cell BK232.out 0).trans rfl; have hcz79_1 : w76.cell? ⟨gb232, 1, none⟩ = some (.int .i64 t227) := (blk_cell BK232.out 1).trans rfl; have hcz79_2 : w76.cell? ⟨gb232, 2, none⟩ = some (.int .i64 t228) := (blk_cell BK232.out 2).trans rfl; have hcz79_3 : w76.cell? ⟨gb232, 3, none⟩ = some (.int .i64 t229) := (blk_cell BK232.out 3).trans rfl; have hfz79_0 := blk_frozen BK232.out 0; have hfz79_1 := blk_frozen BK232.out 1; have hfz79_2 := blk_frozen BK232.out 2; have hfz79_3 := blk_frozen BK232.out 3; have hcz80_0 : w76.cell? ⟨gb221, 0, none⟩ = some (.int .i64 x222000_2) := (blk_cell BK221.out 0).trans rfl; have hcz80_1 : w76.cell? ⟨gb221, 1, none⟩ = some (.int .i64 x222001_2) := (blk_cell BK221.out 1).trans rfl; have hcz80_2 : w76.cell? ⟨gb221, 2, none⟩ = some (.int .i64 x222002_2) := (blk_cell BK221.out 2).trans rfl; have hcz80_3 : w76.cell? ⟨gb221, 3, none⟩ = some (.int .i64 x222003_2) := (blk_cell BK221.out 3).trans rfl; have hfz80_0 := blk_frozen BK221.out 0; have hfz80_1 := blk_frozen BK221.out 1; have hfz80_2 := blk_frozen BK221.out 2; have hfz80_3 := blk_frozen BK221.out 3)))
                                  go_meet
                                  case rel => exact ⟨_, (true), (by first | rfl | (simp; done) | (simp [*]; done)), H', ⟨by have := HJ4.out; have := HK2.out; have := HJ20.out; first | omega | exact Nat.le_refl _⟩, ⟨by (with_reducible repeat (first | refine blk_drewN ?_ _ | refine blk_drew ?_ | refine blk_alloc ?_ _)); exact BK221.out⟩, ⟨by (with_reducible repeat (first | refine blk_drewN ?_ _ | refine blk_drew ?_ | refine blk_alloc ?_ _)); exact BK225.out⟩, ⟨by (with_reducible repeat (first | refine blk_drewN ?_ _ | refine blk_drew ?_ | refine blk_alloc ?_ _)); exact BK232.out⟩, ⟨by repeat (first | (with_reducible first | exact HB.out | apply below_alloc | apply pw_below_drewN | apply below_drew1 | refine below_set ?_ GE221.out | refine below_set ?_ GE225.out | refine below_set ?_ GE232.out) | exact HB.out)⟩⟩
                            · rw [if_neg c38] at H
                              have c38b0 : (t233 == 0) = false := beq_eq_false_iff_ne.mpr c38
                              have c38b1 : (t233 != 0) = true := bne_iff_ne.mpr c38
                              have H' := Aside0.mk H
                              clear H
                              have hnb81 := NB232_221.out
                              have hnc81 := NB221_232.out
                              have hnb82 := NB232_225.out
                              have hnc82 := NB225_232.out
                              have hcz83_0 : w32.cell? ⟨gb232, 0, none⟩ = some (.int .i64 0) := (blk_cell BK232.out 0).trans rfl
                              have hcz83_1 : w32.cell? ⟨gb232, 1, none⟩ = some (.int .i64 0) := (blk_cell BK232.out 1).trans rfl
                              have hcz83_2 : w32.cell? ⟨gb232, 2, none⟩ = some (.int .i64 0) := (blk_cell BK232.out 2).trans rfl
                              have hcz83_3 : w32.cell? ⟨gb232, 3, none⟩ = some (.int .i64 0) := (blk_cell BK232.out 3).trans rfl
                              have hfz83_0 := blk_frozen BK232.out 0
                              have hfz83_1 := blk_frozen BK232.out 1
                              have hfz83_2 := blk_frozen BK232.out 2
                              have hfz83_3 := blk_frozen BK232.out 3
                              go_wp2_with (first | (go_at_call 15; (with_reducible refine (overload_Check.calls t226 t227 t228 t229 t233 _ A37.out).mono ?_); rintro e w84 ⟨rfl, hb⟩; have n0_ := Aside0.mk (blk_below (g := gb221) (o := .cells #[.int .i64 x222000_2, .int .i64 x222001_2, .int .i64 x222002_2, .int .i64 x222003_2] 23 (0, 0)) (by (with_reducible repeat (first | refine blk_drewN ?_ _ | refine blk_drew ?_ | refine blk_alloc ?_ _)); refine blk_far ?_ NB221_232.out _; (with_reducible repeat (first | refine blk_drewN ?_ _ | refine blk_drew ?_ | refine blk_alloc ?_ _)); refine blk_far ?_ NB221_232.out _; (with_reducible repeat (first | refine blk_drewN ?_ _ | refine blk_drew ?_ | refine blk_alloc ?_ _)); refine blk_far ?_ NB221_232.out _; (with_reducible repeat (first | refine blk_drewN ?_ _ | refine blk_drew ?_ | refine blk_alloc ?_ _)); refine blk_far ?_ NB221_232.out _; (with_reducible repeat (first | refine blk_drewN ?_ _ | refine blk_drew ?_ | refine blk_alloc ?_ _)); exact BK221.out) hb); have n1_ := Aside0.mk (blk_below (g := gb225) (o := .cells #[.int .u16 ((rd_T38 l1 x32_2).f0), .bool ((rd_T38 l1 x32_2).f1)] 38 (0, 0)) (by (with_reducible repeat (first | refine blk_drewN ?_ _ | refine blk_drew ?_ | refine blk_alloc ?_ _)); refine blk_far ?_ NB225_232.out _; (with_reducible repeat (first | refine blk_drewN ?_ _ | refine blk_drew ?_ | refine blk_alloc ?_ _)); refine blk_far ?_ NB225_232.out _; (with_reducible repeat (first | refine blk_drewN ?_ _ | refine blk_drew ?_ | refine blk_alloc ?_ _)); refine blk_far ?_ NB225_232.out _; (with_reducible repeat (first | refine blk_drewN ?_ _ | refine blk_drew ?_ | refine blk_alloc ?_ _)); refine blk_far ?_ NB225_232.out _; (with_reducible repeat (first | refine blk_drewN ?_ _ | refine blk_drew ?_ | refine blk_alloc ?_ _)); exact BK225.out) hb); have n2_ := Aside0.mk (blk_below (g := gb232) (o := .cells #[.int .i64 t226, .int .i64 t227, .int .i64 t228, .int .i64 t229] 23 (0, 0)) (by (with_reducible repeat (first | refine blk_drewN ?_ _ | refine blk_drew ?_ | refine blk_alloc ?_ _)); refine blk_put (cs := #[.int .i64 t226, .int .i64 t227, .int .i64 t228, .int .i64 0]) ?_ 3 _ rfl; (with_reducible repeat (first | refine blk_drewN ?_ _ | refine blk_drew ?_ | refine blk_alloc ?_ _)); refine blk_put (cs := #[.int .i64 t226, .int .i64 t227, .int .i64 0, .int .i64 0]) ?_ 2 _ rfl; (with_reducible repeat (first | refine blk_drewN ?_ _ | refine blk_drew ?_ | refine blk_alloc ?_ _)); refine blk_put (cs := #[.int .i64 t226, .int .i64 0, .int .i64 0, .int .i64 0]) ?_ 1 _ rfl; (with_reducible repeat (first | refine blk_drewN ?_ _ | refine blk_drew ?_ | refine blk_alloc ?_ _)); refine blk_put (cs := #[.int .i64 0, .int .i64 0, .int .i64 0, .int .i64 0]) ?_ 0 _ rfl; (with_reducible repeat (first | refine blk_drewN ?_ _ | refine blk_drew ?_ | refine blk_alloc ?_ _)); exact BK232.out) hb); have n3_ := Aside0.mk (below_step (by repeat (first | (with_reducible first | exact HB.out | apply below_alloc | apply pw_below_drewN | apply below_drew1 | refine below_set ?_ GE221.out | refine below_set ?_ GE225.out | refine below_set ?_ GE232.out) | exact HB.out)) hb); clear BK221; clear BK225; clear BK232; clear HB; have BK221 := n0_; have BK225 := n1_; have BK232 := n2_; have HB := n3_; clear n0_ n1_ n2_ n3_; (try clear hb); (try clear hb2); (try clear hk); (try clear hi)))
                              repeat (go_quiet (first | (go_at_call 15; (with_reducible refine (overload_Check.calls t226 t227 t228 t229 t233 _ A37.out).mono ?_); rintro e w84 ⟨rfl, hb⟩; have n0_ := Aside0.mk (blk_below (g := gb221) (o := .cells #[.int .i64 x222000_2, .int .i64 x222001_2, .int .i64 x222002_2, .int .i64 x222003_2] 23 (0, 0)) (by (with_reducible repeat (first | refine blk_drewN ?_ _ | refine blk_drew ?_ | refine blk_alloc ?_ _)); refine blk_far ?_ NB221_232.out _; (with_reducible repeat (first | refine blk_drewN ?_ _ | refine blk_drew ?_ | refine blk_alloc ?_ _)); refine blk_far ?_ NB221_232.out _; (with_reducible repeat (first | refine blk_drewN ?_ _ | refine blk_drew ?_ | refine blk_alloc ?_ _)); refine blk_far ?_ NB221_232.out _; (with_reducible repeat (first | refine blk_drewN ?_ _ | refine blk_drew ?_ | refine blk_alloc ?_ _)); refine blk_far ?_ NB221_232.out _; (with_reducible repeat (first | refine blk_drewN ?_ _ | refine blk_drew ?_ | refine blk_alloc ?_ _)); exact BK221.out) hb); have n1_ := Aside0.mk (blk_below (g := gb225) (o := .cells #[.int .u16 ((rd_T38 l1 x32_2).f0), .bool ((rd_T38 l1 x32_2).f1)] 38 (0, 0)) (by (with_reducible repeat (first | refine blk_drewN ?_ _ | refine blk_drew ?_ | refine blk_alloc ?_ _)); refine blk_far ?_ NB225_232.out _; (with_reducible repeat (first | refine blk_drewN ?_ _ | refine blk_drew ?_ | refine blk_alloc ?_ _)); refine blk_far ?_ NB225_232.out _; (with_reducible repeat (first | refine blk_drewN ?_ _ | refine blk_drew ?_ | refine blk_alloc ?_ _)); refine blk_far ?_ NB225_232.out _; (with_reducible repeat (first | refine blk_drewN ?_ _ | refine blk_drew ?_ | refine blk_alloc ?_ _)); refine blk_far ?_ NB225_232.out _; (with_reducible repeat (first | refine blk_drewN ?_ _ | refine blk_drew ?_ | refine blk_alloc ?_ _)); exact BK225.out) hb); have n2_ := Aside0.mk (blk_below (g := gb232) (o := .cells #[.int .i64 t226, .int .i64 t227, .int .i64 t228, .int .i64 t229] 23 (0, 0)) (by (with_reducible repeat (first | refine blk_drewN ?_ _ | refine blk_drew ?_ | refine blk_alloc ?_ _)); refine blk_put (cs := #[.int .i64 t226, .int .i64 t227, .int .i64 t228, .int .i64 0]) ?_ 3 _ rfl; (with_reducible repeat (first | refine blk_drewN ?_ _ | refine blk_drew ?_ | refine blk_alloc ?_ _)); refine blk_put (cs := #[.int .i64 t226, .int .i64 t227, .int .i64 0, .int .i64 0]) ?_ 2 _ rfl; (with_reducible repeat (first | refine blk_drewN ?_ _ | refine blk_drew ?_ | refine blk_alloc ?_ _)); refine blk_put (cs := #[.int .i64 t226, .int .i64 0, .int .i64 0, .int .i64 0]) ?_ 1 _ rfl; (with_reducible repeat (first | refine blk_drewN ?_ _ | refine blk_drew ?_ | refine blk_alloc ?_ _)); refine blk_put (cs := #[.int .i64 0, .int .i64 0, .int .i64 0, .int .i64 0]) ?_ 0 _ rfl; (with_reducible repeat (first | refine blk_drewN ?_ _ | refine blk_drew ?_ | refine blk_alloc ?_ _)); exact BK232.out) hb); have n3_ := Aside0.mk (below_step (by repeat (first | (with_reducible first | exact HB.out | apply below_alloc | apply pw_below_drewN | apply below_drew1 | refine below_set ?_ GE221.out | refine below_set ?_ GE225.out | refine below_set ?_ GE232.out) | exact HB.out)) hb); clear BK221; clear BK225; clear BK232; clear HB; have BK221 := n0_; have BK225 := n1_; have BK232 := n2_; have HB := n3_; clear n0_ n1_ n2_ n3_; (try clear hb); (try clear hb2); (try clear hk); (try clear hi))); try go_wp2_with (first | (go_at_call 15; (with_reducible refine (overload_Check.calls t226 t227 t228 t229 t233 _ A37.out).mono ?_); rintro e w84 ⟨rfl, hb⟩; have n0_ := Aside0.mk (blk_below (g := gb221) (o := .cells #[.int .i64 x222000_2, .int .i64 x222001_2, .int .i64 x222002_2, .int .i64 x222003_2] 23 (0, 0)) (by (with_reducible repeat (first | refine blk_drewN ?_ _ | refine blk_drew ?_ | refine blk_alloc ?_ _)); refine blk_far ?_ NB221_232.out _; (with_reducible repeat (first | refine blk_drewN ?_ _ | refine blk_drew ?_ | refine blk_alloc ?_ _)); refine blk_far ?_ NB221_232.out _; (with_reducible repeat (first | refine blk_drewN ?_ _ | refine blk_drew ?_ | refine blk_alloc ?_ _)); refine blk_far ?_ NB221_232.out _; (with_reducible repeat (first | refine blk_drewN ?_ _ | refine blk_drew ?_ | refine blk_alloc ?_ _)); refine blk_far ?_ NB221_232.out _; (with_reducible repeat (first | refine blk_drewN ?_ _ | refine blk_drew ?_ | refine blk_alloc ?_ _)); exact BK221.out) hb); have n1_ := Aside0.mk (blk_below (g := gb225) (o := .cells #[.int .u16 ((rd_T38 l1 x32_2).f0), .bool ((rd_T38 l1 x32_2).f1)] 38 (0, 0)) (by (with_reducible repeat (first | refine blk_drewN ?_ _ | refine blk_drew ?_ | refine blk_alloc ?_ _)); refine blk_far ?_ NB225_232.out _; (with_reducible repeat (first | refine blk_drewN ?_ _ | refine blk_drew ?_ | refine blk_alloc ?_ _)); refine blk_far ?_ NB225_232.out _; (with_reducible repeat (first | refine blk_drewN ?_ _ | refine blk_drew ?_ | refine blk_alloc ?_ _)); refine blk_far ?_ NB225_232.out _; (with_reducible repeat (first | refine blk_drewN ?_ _ | refine blk_drew ?_ | refine blk_alloc ?_ _)); refine blk_far ?_ NB225_232.out _; (with_reducible repeat (first | refine blk_drewN ?_ _ | refine blk_drew ?_ | refine blk_alloc ?_ _)); exact BK225.out) hb); have n2_ := Aside0.mk (blk_below (g := gb232) (o := .cells #[.int .i64 t226, .int .i64 t227, .int .i64 t228, .int .i64 t229] 23 (0, 0)) (by (with_reducible repeat (first | refine blk_drewN ?_ _ | refine blk_drew ?_ | refine blk_alloc ?_ _)); refine blk_put (cs := #[.int .i64 t226, .int .i64 t227, .int .i64 t228, .int .i64 0]) ?_ 3 _ rfl; (with_reducible repeat (first | refine blk_drewN ?_ _ | refine blk_drew ?_ | refine blk_alloc ?_ _)); refine blk_put (cs := #[.int .i64 t226, .int .i64 t227, .int .i64 0, .int .i64 0]) ?_ 2 _ rfl; (with_reducible repeat (first | refine blk_drewN ?_ _ | refine blk_drew ?_ | refine blk_alloc ?_ _)); refine blk_put (cs := #[.int .i64 t226, .int .i64 0, .int .i64 0, .int .i64 0]) ?_ 1 _ rfl; (with_reducible repeat (first | refine blk_drewN ?_ _ | refine blk_drew ?_ | refine blk_alloc ?_ _)); refine blk_put (cs := #[.int .i64 0, .int .i64 0, .int .i64 0, .int .i64 0]) ?_ 0 _ rfl; (with_reducible repeat (first | refine blk_drewN ?_ _ | refine blk_drew ?_ | refine blk_alloc ?_ _)); exact BK232.out) hb); have n3_ := Aside0.mk (below_step (by repeat (first | (with_reducible first | exact HB.out | apply below_alloc | apply pw_below_drewN | apply below_drew1 | refine below_set ?_ GE221.out | refine below_set ?_ GE225.out | refine below_set ?_ GE232.out) | exact HB.out)) hb); clear BK221; clear BK225; clear BK232; clear HB; have BK221 := n0_; have BK225 := n1_; have BK232 := n2_; have HB := n3_; clear n0_ n1_ n2_ n3_; (try clear hb); (try clear hb2); (try clear hk); (try clear hi))))
                              go_meet
                              case rel => exact ⟨_, (true), (by first | rfl | (simp; done) | (simp [*]; done)), H', ⟨by have := HJ4.out; have := HK2.out; have := HJ20.out; first | omega | exact Nat.le_refl _⟩, ⟨by (with_reducible repeat (first | refine blk_drewN ?_ _ | refine blk_drew ?_ | refine blk_alloc ?_ _)); exact BK221.out⟩, ⟨by (with_reducible repeat (first | refine blk_drewN ?_ _ | refine blk_drew ?_ | refine blk_alloc ?_ _)); exact BK225.out⟩, ⟨by (with_reducible repeat (first | refine blk_drewN ?_ _ | refine blk_drew ?_ | refine blk_alloc ?_ _)); exact BK232.out⟩, ⟨by repeat (first | (with_reducible first | exact HB.out | apply below_alloc | apply pw_below_drewN | apply below_drew1 | refine below_set ?_ GE221.out | refine below_set ?_ GE225.out | refine below_set ?_ GE232.out) | exact HB.out)⟩⟩
                          · rw [if_neg c36] at H
                            have c36b0 : (t231 == 0) = false := beq_eq_false_iff_ne.mpr c36
                            have c36b1 : (t231 != 0) = true := bne_iff_ne.mpr c36
                            (first | rw [c36b0] | (simp only [i64_w, i32_w]; rw [c36b0]) | skip)
                            have H' := Aside0.mk H
                            clear H
                            go_wp2
                            repeat (go_quiet (fail); try go_wp2)
                            go_meet
                            case rel => exact ⟨_, (true), (by first | rfl | (simp; done) | (simp [*]; done)), H', ⟨by have := HJ4.out; have := HK2.out; have := HJ20.out; first | omega | exact Nat.le_refl _⟩, ⟨by (with_reducible repeat (first | refine blk_drewN ?_ _ | refine blk_drew ?_ | refine blk_alloc ?_ _)); refine blk_far ?_ NB221_232.out _; (with_reducible repeat (first | refine blk_drewN ?_ _ | refine blk_drew ?_ | refine blk_alloc ?_ _)); refine blk_far ?_ NB221_232.out _; (with_reducible repeat (first | refine blk_drewN ?_ _ | refine blk_drew ?_ | refine blk_alloc ?_ _)); refine blk_far ?_ NB221_232.out _; (with_reducible repeat (first | refine blk_drewN ?_ _ | refine blk_drew ?_ | refine blk_alloc ?_ _)); refine blk_far ?_ NB221_232.out _; (with_reducible repeat (first | refine blk_drewN ?_ _ | refine blk_drew ?_ | refine blk_alloc ?_ _)); exact BK221.out⟩, ⟨by (with_reducible repeat (first | refine blk_drewN ?_ _ | refine blk_drew ?_ | refine blk_alloc ?_ _)); refine blk_far ?_ NB225_232.out _; (with_reducible repeat (first | refine blk_drewN ?_ _ | refine blk_drew ?_ | refine blk_alloc ?_ _)); refine blk_far ?_ NB225_232.out _; (with_reducible repeat (first | refine blk_drewN ?_ _ | refine blk_drew ?_ | refine blk_alloc ?_ _)); refine blk_far ?_ NB225_232.out _; (with_reducible repeat (first | refine blk_drewN ?_ _ | refine blk_drew ?_ | refine blk_alloc ?_ _)); refine blk_far ?_ NB225_232.out _; (with_reducible repeat (first | refine blk_drewN ?_ _ | refine blk_drew ?_ | refine blk_alloc ?_ _)); exact BK225.out⟩, ⟨by (with_reducible repeat (first | refine blk_drewN ?_ _ | refine blk_drew ?_ | refine blk_alloc ?_ _)); refine blk_put (cs := #[.int .i64 t226, .int .i64 t227, .int .i64 t228, .int .i64 0]) ?_ 3 _ rfl; (with_reducible repeat (first | refine blk_drewN ?_ _ | refine blk_drew ?_ | refine blk_alloc ?_ _)); refine blk_put (cs := #[.int .i64 t226, .int .i64 t227, .int .i64 0, .int .i64 0]) ?_ 2 _ rfl; (with_reducible repeat (first | refine blk_drewN ?_ _ | refine blk_drew ?_ | refine blk_alloc ?_ _)); refine blk_put (cs := #[.int .i64 t226, .int .i64 0, .int .i64 0, .int .i64 0]) ?_ 1 _ rfl; (with_reducible repeat (first | refine blk_drewN ?_ _ | refine blk_drew ?_ | refine blk_alloc ?_ _)); refine blk_put (cs := #[.int .i64 0, .int .i64 0, .int .i64 0, .int .i64 0]) ?_ 0 _ rfl; (with_reducible repeat (first | refine blk_drewN ?_ _ | refine blk_drew ?_ | refine blk_alloc ?_ _)); exact BK232.out⟩, ⟨by repeat (first | (with_reducible first | exact HB.out | apply below_alloc | apply pw_below_drewN | apply below_drew1 | refine below_set ?_ GE221.out | refine below_set ?_ GE225.out | refine below_set ?_ GE232.out) | exact HB.out)⟩⟩
                        case rest =>
                          clear HC27
                          try clear c1
                          try clear c2
                          try clear p2
                          try clear q2
                          try clear hx2
                          try clear c3
                          try clear c4
                          try clear c5
                          try clear c6
                          try clear p6
                          try clear c7
                          try clear c8
                          try clear c8b0
                          try clear c8b1
                          try clear c10
                          try clear c10b0
                          try clear c10b1
                          try clear c16
                          try clear c18
                          try clear c18b0
                          try clear c19
                          try clear c19b0
                          try clear c20
                          try clear c20b0
                          try clear p22
                          try clear q22
                          try clear hx22
                          try clear c23
                          try clear c25
                          try clear c25b0
                          try clear c25b1
                          try clear c28
                          try clear c33
                          try clear c34
                          try clear c36
                          try clear c36b0
                          try clear c36b1
                          try clear c38
                          try clear c38b0
                          try clear c38b1
                          try clear c39
                          try clear c39b0
                          try clear c40
                          try clear c41
                          try clear c41b0
                          try clear c41b1
                          try clear c42
                          try clear c43
                          try clear c46
                          try clear c50
                          try clear c51
                          try clear c54
                          try clear c58
                          try clear c59
                          try clear c62
                          try clear c64
                          try clear c64b0
                          try clear c64b1
                          try clear p64
                          try clear c65
                          try clear c66
                          try clear c69
                          try clear c73
                          try clear c74
                          try clear c77
                          try clear c81
                          try clear c82
                          try clear hcz11_0
                          try clear hcz11_1
                          try clear hcz11_2
                          try clear hcz11_3
                          try clear hcz13_0
                          try clear hcz13_1
                          try clear hcz13_2
                          try clear hcz13_3
                          try clear hcz14_0
                          try clear hcz14_1
                          try clear hcz14_2
                          try clear hcz14_3
                          try clear hcz17_0
                          try clear hcz17_1
                          try clear hcz17_2
                          try clear hcz17_3
                          try clear hcz24_0
                          try clear hcz24_1
                          try clear hcz29_0
                          try clear hcz29_1
                          try clear hcz29_2
                          try clear hcz29_3
                          try clear hcz30_0
                          try clear hcz30_1
                          try clear hcz35_0
                          try clear hcz35_1
                          try clear hcz35_2
                          try clear hcz35_3
                          try clear hcz44_0
                          try clear hcz44_1
                          try clear hcz44_2
                          try clear hcz44_3
                          try clear hcz47_0
                          try clear hcz47_1
                          try clear hcz48_0
                          try clear hcz48_1
                          try clear hcz48_2
                          try clear hcz48_3
                          try clear hcz49_0
                          try clear hcz49_1
                          try clear hcz49_2
                          try clear hcz49_3
                          try clear hcz52_0
                          try clear hcz52_1
                          try clear hcz52_2
                          try clear hcz52_3
                          try clear hcz55_0
                          try clear hcz55_1
                          try clear hcz56_0
                          try clear hcz56_1
                          try clear hcz56_2
                          try clear hcz56_3
                          try clear hcz57_0
                          try clear hcz57_1
                          try clear hcz57_2
                          try clear hcz57_3
                          try clear hcz60_0
                          try clear hcz60_1
                          try clear hcz60_2
                          try clear hcz60_3
                          try clear hcz63_0
                          try clear hcz63_1
                          try clear hcz67_0
                          try clear hcz67_1
                          try clear hcz67_2
                          try clear hcz67_3
                          try clear hcz70_0
                          try clear hcz70_1
                          try clear hcz71_0
                          try clear hcz71_1
                          try clear hcz71_2
                          try clear hcz71_3
                          try clear hcz72_0
                          try clear hcz72_1
                          try clear hcz72_2
                          try clear hcz72_3
                          try clear hcz75_0
                          try clear hcz75_1
                          try clear hcz75_2
                          try clear hcz75_3
                          try clear hcz78_0
                          try clear hcz78_1
                          try clear hcz79_0
                          try clear hcz79_1
                          try clear hcz79_2
                          try clear hcz79_3
                          try clear hcz80_0
                          try clear hcz80_1
                          try clear hcz80_2
                          try clear hcz80_3
                          try clear hcz83_0
                          try clear hcz83_1
                          try clear hcz83_2
                          try clear hcz83_3
                          try clear hfz11_0
                          try clear hfz11_1
                          try clear hfz11_2
                          try clear hfz11_3
                          try clear hfz13_0
                          try clear hfz13_1
                          try clear hfz13_2
                          try clear hfz13_3
                          try clear hfz14_0
                          try clear hfz14_1
                          try clear hfz14_2
                          try clear hfz14_3
                          try clear hfz17_0
                          try clear hfz17_1
                          try clear hfz17_2
                          try clear hfz17_3
                          try clear hfz24_0
                          try clear hfz24_1
                          try clear hfz29_0
                          try clear hfz29_1
                          try clear hfz29_2
                          try clear hfz29_3
                          try clear hfz30_0
                          try clear hfz30_1
                          try clear hfz35_0
                          try clear hfz35_1
                          try clear hfz35_2
                          try clear hfz35_3
                          try clear hfz44_0
                          try clear hfz44_1
                          try clear hfz44_2
                          try clear hfz44_3
                          try clear hfz47_0
                          try clear hfz47_1
                          try clear hfz48_0
                          try clear hfz48_1
                          try clear hfz48_2
                          try clear hfz48_3
                          try clear hfz49_0
                          try clear hfz49_1
                          try clear hfz49_2
                          try clear hfz49_3
                          try clear hfz52_0
                          try clear hfz52_1
                          try clear hfz52_2
                          try clear hfz52_3
                          try clear hfz55_0
                          try clear hfz55_1
                          try clear hfz56_0
                          try clear hfz56_1
                          try clear hfz56_2
                          try clear hfz56_3
                          try clear hfz57_0
                          try clear hfz57_1
                          try clear hfz57_2
                          try clear hfz57_3
                          try clear hfz60_0
                          try clear hfz60_1
                          try clear hfz60_2
                          try clear hfz60_3
                          try clear hfz63_0
                          try clear hfz63_1
                          try clear hfz67_0
                          try clear hfz67_1
                          try clear hfz67_2
                          try clear hfz67_3
                          try clear hfz70_0
                          try clear hfz70_1
                          try clear hfz71_0
                          try clear hfz71_1
                          try clear hfz71_2
                          try clear hfz71_3
                          try clear hfz72_0
                          try clear hfz72_1
                          try clear hfz72_2
                          try clear hfz72_3
                          try clear hfz75_0
                          try clear hfz75_1
                          try clear hfz75_2
                          try clear hfz75_3
                          try clear hfz78_0
                          try clear hfz78_1
                          try clear hfz79_0
                          try clear hfz79_1
                          try clear hfz79_2
                          try clear hfz79_3
                          try clear hfz80_0
                          try clear hfz80_1
                          try clear hfz80_2
                          try clear hfz80_3
                          try clear hfz83_0
                          try clear hfz83_1
                          try clear hfz83_2
                          try clear hfz83_3
                          try clear hx224_0
                          try clear hx224_1
                          try clear p2
                          try clear p22
                          try clear p224
                          try clear p6
                          try clear q2
                          try clear q22
                          try clear q224
                          obtain ⟨kq, x82_26, rfl, HA, HJ26, BK221, BK225, BK232, HB⟩ := hcut
                          cases kq with
                          | zero => exact absurd HA.out (by simp [crossbarlaw32_OverloadBoundsRate.j3])
                          | succ kj26 =>
                            have H := HA.out
                            clear HA
                            simp only [crossbarlaw32_OverloadBoundsRate.j3] at H
                            by_cases c85 : x82_26 = true
                            · subst c85
                              have H1 : (some false) = some r := by rw [if_pos rfl] at H; exact H
                              clear H
                              have H := H1
                              clear H1
                              obtain rfl := Option.some.inj H
                              go_wp2
                              repeat (go_quiet (fail); try go_wp2)
                              go_ret
                              exact ⟨by first | rfl | (simp [errW_none, errW_some] <;> rfl) | (simp [*, errW_none, errW_some] <;> rfl), by repeat (first | (with_reducible first | exact HB.out | apply below_alloc | apply pw_below_drewN | apply below_drew1 | refine below_set ?_ GE221.out | refine below_set ?_ GE225.out | refine below_set ?_ GE232.out) | exact HB.out)⟩
                            · replace c85 := Bool.eq_false_iff.mpr c85
                              subst c85
                              have H1 : (if t230 = true then (crossbarlaw32_OverloadBoundsRate.j4 kj26 (wrap64 (x5_2 + (wrap64 ((rd_T38 l1 x32_2).f0)))) x6_20 x7_2 l1 (l1.length : Int) x32_2 (!((rd_T38 l1 x32_2).f1)) t226 t227 t228 t229) else (crossbarlaw32_OverloadBoundsRate.j4 kj26 (wrap64 (x5_2 + (wrap64 ((rd_T38 l1 x32_2).f0)))) x6_20 x7_2 l1 (l1.length : Int) x32_2 false t226 t227 t228 t229)) = some r := by rw [if_neg (show ¬ (false = true) by decide)] at H; exact H
                              clear H
                              have H := H1
                              clear H1
                              have HC86 := Aside0.mk H
                              clear H
                              go_upto_region 17 with (fail)
                              repeat (go_quiet (fail); go_upto_region 17 with (fail))
                              go_cut [88] (fun v88 wc => ∃ (kq : Nat) (x88_85 : Bool), v88 = .bool x88_85 ∧ Aside0 (crossbarlaw32_OverloadBoundsRate.j4 kq (wrap64 (x5_2 + (wrap64 ((rd_T38 l1 x32_2).f0)))) x6_20 x7_2 l1 (l1.length : Int) x32_2 x88_85 t226 t227 t228 t229 = some r) ∧ Aside0 (kq ≤ kj26) ∧ Aside0 (wc.heap[gb221]? = some (.cells #[.int .i64 x222000_2, .int .i64 x222001_2, .int .i64 x222002_2, .int .i64 x222003_2] 23 (0, 0))) ∧ Aside0 (wc.heap[gb225]? = some (.cells #[.int .u16 ((rd_T38 l1 x32_2).f0), .bool ((rd_T38 l1 x32_2).f1)] 38 (0, 0))) ∧ Aside0 (wc.heap[gb232]? = some (.cells #[.int .i64 t226, .int .i64 t227, .int .i64 t228, .int .i64 t229] 23 (0, 0))) ∧ Aside0 (Below w.heap.size w wc))
                              case first =>
                                have H := HC86.out
                                clear HC86
                                by_cases c87 : t230 = true
                                · subst c87
                                  have H1 : (crossbarlaw32_OverloadBoundsRate.j4 kj26 (wrap64 (x5_2 + (wrap64 ((rd_T38 l1 x32_2).f0)))) x6_20 x7_2 l1 (l1.length : Int) x32_2 (!((rd_T38 l1 x32_2).f1)) t226 t227 t228 t229) = some r := by rw [if_pos rfl] at H; exact H
                                  clear H
                                  have H := H1
                                  clear H1
                                  have H' := Aside0.mk H
                                  clear H
                                  have hnb88 := NB225_221.out
                                  have hnc88 := NB221_225.out
                                  have hnb89 := NB225_232.out
                                  have hnc89 := NB232_225.out
                                  have hcz90_0 : wc.cell? ⟨gb225, 0, none⟩ = some (.int .u16 ((rd_T38 l1 x32_2).f0)) := (blk_cell BK225.out 0).trans rfl
                                  have hcz90_1 : wc.cell? ⟨gb225, 1, none⟩ = some (.bool ((rd_T38 l1 x32_2).f1)) := (blk_cell BK225.out 1).trans rfl
                                  have hfz90_0 := blk_frozen BK225.out 0
                                  have hfz90_1 := blk_frozen BK225.out 1
                                  go_wp2
                                  repeat (go_quiet (fail); try go_wp2)
                                  go_meet
                                  case rel => exact ⟨_, (!((rd_T38 l1 x32_2).f1)), (by first | rfl | (simp; done) | (simp [*]; done)), H', ⟨by have := HJ4.out; have := HK2.out; have := HJ20.out; have := HJ26.out; first | omega | exact Nat.le_refl _⟩, ⟨by (with_reducible repeat (first | refine blk_drewN ?_ _ | refine blk_drew ?_ | refine blk_alloc ?_ _)); exact BK221.out⟩, ⟨by (with_reducible repeat (first | refine blk_drewN ?_ _ | refine blk_drew ?_ | refine blk_alloc ?_ _)); exact BK225.out⟩, ⟨by (with_reducible repeat (first | refine blk_drewN ?_ _ | refine blk_drew ?_ | refine blk_alloc ?_ _)); exact BK232.out⟩, ⟨by repeat (first | (with_reducible first | exact HB.out | apply below_alloc | apply pw_below_drewN | apply below_drew1 | refine below_set ?_ GE221.out | refine below_set ?_ GE225.out | refine below_set ?_ GE232.out) | exact HB.out)⟩⟩
                                · replace c87 := Bool.eq_false_iff.mpr c87
                                  subst c87
                                  have H1 : (crossbarlaw32_OverloadBoundsRate.j4 kj26 (wrap64 (x5_2 + (wrap64 ((rd_T38 l1 x32_2).f0)))) x6_20 x7_2 l1 (l1.length : Int) x32_2 false t226 t227 t228 t229) = some r := by rw [if_neg (show ¬ (false = true) by decide)] at H; exact H
                                  clear H
                                  have H := H1
                                  clear H1
                                  have H' := Aside0.mk H
                                  clear H
                                  go_wp2
                                  repeat (go_quiet (fail); try go_wp2)
                                  go_meet
                                  case rel => exact ⟨_, (false), (by first | rfl | (simp; done) | (simp [*]; done)), H', ⟨by have := HJ4.out; have := HK2.out; have := HJ20.out; have := HJ26.out; first | omega | exact Nat.le_refl _⟩, ⟨by (with_reducible repeat (first | refine blk_drewN ?_ _ | refine blk_drew ?_ | refine blk_alloc ?_ _)); exact BK221.out⟩, ⟨by (with_reducible repeat (first | refine blk_drewN ?_ _ | refine blk_drew ?_ | refine blk_alloc ?_ _)); exact BK225.out⟩, ⟨by (with_reducible repeat (first | refine blk_drewN ?_ _ | refine blk_drew ?_ | refine blk_alloc ?_ _)); exact BK232.out⟩, ⟨by repeat (first | (with_reducible first | exact HB.out | apply below_alloc | apply pw_below_drewN | apply below_drew1 | refine below_set ?_ GE221.out | refine below_set ?_ GE225.out | refine below_set ?_ GE232.out) | exact HB.out)⟩⟩
                              case rest =>
                                clear HC86
                                try clear c1
                                try clear c2
                                try clear p2
                                try clear q2
                                try clear hx2
                                try clear c3
                                try clear c4
                                try clear c5
                                try clear c6
                                try clear p6
                                try clear c7
                                try clear c8
                                try clear c8b0
                                try clear c8b1
                                try clear c10
                                try clear c10b0
                                try clear c10b1
                                try clear c16
                                try clear c18
                                try clear c18b0
                                try clear c19
                                try clear c19b0
                                try clear c20
                                try clear c20b0
                                try clear p22
                                try clear q22
                                try clear hx22
                                try clear c23
                                try clear c25
                                try clear c25b0
                                try clear c25b1
                                try clear c28
                                try clear c33
                                try clear c34
                                try clear c36
                                try clear c36b0
                                try clear c36b1
                                try clear c38
                                try clear c38b0
                                try clear c38b1
                                try clear c39
                                try clear c39b0
                                try clear c40
                                try clear c41
                                try clear c41b0
                                try clear c41b1
                                try clear c42
                                try clear c43
                                try clear c46
                                try clear c50
                                try clear c51
                                try clear c54
                                try clear c58
                                try clear c59
                                try clear c62
                                try clear c64
                                try clear c64b0
                                try clear c64b1
                                try clear p64
                                try clear c65
                                try clear c66
                                try clear c69
                                try clear c73
                                try clear c74
                                try clear c77
                                try clear c81
                                try clear c82
                                try clear c85
                                try clear c87
                                try clear c88
                                try clear c89
                                try clear hcz11_0
                                try clear hcz11_1
                                try clear hcz11_2
                                try clear hcz11_3
                                try clear hcz13_0
                                try clear hcz13_1
                                try clear hcz13_2
                                try clear hcz13_3
                                try clear hcz14_0
                                try clear hcz14_1
                                try clear hcz14_2
                                try clear hcz14_3
                                try clear hcz17_0
                                try clear hcz17_1
                                try clear hcz17_2
                                try clear hcz17_3
                                try clear hcz24_0
                                try clear hcz24_1
                                try clear hcz29_0
                                try clear hcz29_1
                                try clear hcz29_2
                                try clear hcz29_3
                                try clear hcz30_0
                                try clear hcz30_1
                                try clear hcz35_0
                                try clear hcz35_1
                                try clear hcz35_2
                                try clear hcz35_3
                                try clear hcz44_0
                                try clear hcz44_1
                                try clear hcz44_2
                                try clear hcz44_3
                                try clear hcz47_0
                                try clear hcz47_1
                                try clear hcz48_0
                                try clear hcz48_1
                                try clear hcz48_2
                                try clear hcz48_3
                                try clear hcz49_0
                                try clear hcz49_1
                                try clear hcz49_2
                                try clear hcz49_3
                                try clear hcz52_0
                                try clear hcz52_1
                                try clear hcz52_2
                                try clear hcz52_3
                                try clear hcz55_0
                                try clear hcz55_1
                                try clear hcz56_0
                                try clear hcz56_1
                                try clear hcz56_2
                                try clear hcz56_3
                                try clear hcz57_0
                                try clear hcz57_1
                                try clear hcz57_2
                                try clear hcz57_3
                                try clear hcz60_0
                                try clear hcz60_1
                                try clear hcz60_2
                                try clear hcz60_3
                                try clear hcz63_0
                                try clear hcz63_1
                                try clear hcz67_0
                                try clear hcz67_1
                                try clear hcz67_2
                                try clear hcz67_3
                                try clear hcz70_0
                                try clear hcz70_1
                                try clear hcz71_0
                                try clear hcz71_1
                                try clear hcz71_2
                                try clear hcz71_3
                                try clear hcz72_0
                                try clear hcz72_1
                                try clear hcz72_2
                                try clear hcz72_3
                                try clear hcz75_0
                                try clear hcz75_1
                                try clear hcz75_2
                                try clear hcz75_3
                                try clear hcz78_0
                                try clear hcz78_1
                                try clear hcz79_0
                                try clear hcz79_1
                                try clear hcz79_2
                                try clear hcz79_3
                                try clear hcz80_0
                                try clear hcz80_1
                                try clear hcz80_2
                                try clear hcz80_3
                                try clear hcz83_0
                                try clear hcz83_1
                                try clear hcz83_2
                                try clear hcz83_3
                                try clear hcz90_0
                                try clear hcz90_1
                                try clear hfz11_0
                                try clear hfz11_1
                                try clear hfz11_2
                                try clear hfz11_3
                                try clear hfz13_0
                                try clear hfz13_1
                                try clear hfz13_2
                                try clear hfz13_3
                                try clear hfz14_0
                                try clear hfz14_1
                                try clear hfz14_2
                                try clear hfz14_3
                                try clear hfz17_0
                                try clear hfz17_1
                                try clear hfz17_2
                                try clear hfz17_3
                                try clear hfz24_0
                                try clear hfz24_1
                                try clear hfz29_0
                                try clear hfz29_1
                                try clear hfz29_2
                                try clear hfz29_3
                                try clear hfz30_0
                                try clear hfz30_1
                                try clear hfz35_0
                                try clear hfz35_1
                                try clear hfz35_2
                                try clear hfz35_3
                                try clear hfz44_0
                                try clear hfz44_1
                                try clear hfz44_2
                                try clear hfz44_3
                                try clear hfz47_0
                                try clear hfz47_1
                                try clear hfz48_0
                                try clear hfz48_1
                                try clear hfz48_2
                                try clear hfz48_3
                                try clear hfz49_0
                                try clear hfz49_1
                                try clear hfz49_2
                                try clear hfz49_3
                                try clear hfz52_0
                                try clear hfz52_1
                                try clear hfz52_2
                                try clear hfz52_3
                                try clear hfz55_0
                                try clear hfz55_1
                                try clear hfz56_0
                                try clear hfz56_1
                                try clear hfz56_2
                                try clear hfz56_3
                                try clear hfz57_0
                                try clear hfz57_1
                                try clear hfz57_2
                                try clear hfz57_3
                                try clear hfz60_0
                                try clear hfz60_1
                                try clear hfz60_2
                                try clear hfz60_3
                                try clear hfz63_0
                                try clear hfz63_1
                                try clear hfz67_0
                                try clear hfz67_1
                                try clear hfz67_2
                                try clear hfz67_3
                                try clear hfz70_0
                                try clear hfz70_1
                                try clear hfz71_0
                                try clear hfz71_1
                                try clear hfz71_2
                                try clear hfz71_3
                                try clear hfz72_0
                                try clear hfz72_1
                                try clear hfz72_2
                                try clear hfz72_3
                                try clear hfz75_0
                                try clear hfz75_1
                                try clear hfz75_2
                                try clear hfz75_3
                                try clear hfz78_0
                                try clear hfz78_1
                                try clear hfz79_0
                                try clear hfz79_1
                                try clear hfz79_2
                                try clear hfz79_3
                                try clear hfz80_0
                                try clear hfz80_1
                                try clear hfz80_2
                                try clear hfz80_3
                                try clear hfz83_0
                                try clear hfz83_1
                                try clear hfz83_2
                                try clear hfz83_3
                                try clear hfz90_0
                                try clear hfz90_1
                                try clear hx224_0
                                try clear hx224_1
                                try clear p2
                                try clear p22
                                try clear p224
                                try clear p6
                                try clear p64
                                try clear q2
                                try clear q22
                                try clear q224
                                obtain ⟨kq, x88_85, rfl, HA, HJ85, BK221, BK225, BK232, HB⟩ := hcut
                                cases kq with
                                | zero => exact absurd HA.out (by simp [crossbarlaw32_OverloadBoundsRate.j4])
                                | succ kj85 =>
                                  have H := HA.out
                                  clear HA
                                  simp only [crossbarlaw32_OverloadBoundsRate.j4] at H
                                  by_cases c91 : x88_85 = true
                                  · subst c91
                                    have H1 : (if t228 = 0 then (none) else (if (wrap64 (x7_2 + 1)) > (wrap64 (t229 + (wrap64 (Int.tdiv (wrap64 ((wrap64 (x5_2 + (wrap64 ((rd_T38 l1 x32_2).f0)))) - x6_20)) t228)))) then (some false) else (crossbarlaw32_OverloadBoundsRate.l0 kj85 (wrap64 (x5_2 + (wrap64 ((rd_T38 l1 x32_2).f0)))) x6_20 (wrap64 (x7_2 + 1)) l1 (l1.length : Int) (wrap64 (x32_2 + 1)) t226 t227 t228 t229))) = some r := by rw [if_pos rfl] at H; exact H
                                    clear H
                                    have H := H1
                                    clear H1
                                    by_cases c92 : t228 = 0
                                    · rw [if_pos c92] at H
                                      exact absurd H (by simp)
                                    · rw [if_neg c92] at H
                                      have c92b0 : (t228 == 0) = false := beq_eq_false_iff_ne.mpr c92
                                      have c92b1 : (t228 != 0) = true := bne_iff_ne.mpr c92
                                      by_cases c93 : (wrap64 (x7_2 + 1)) > (wrap64 (t229 + (wrap64 (Int.tdiv (wrap64 ((wrap64 (x5_2 + (wrap64 ((rd_T38 l1 x32_2).f0)))) - x6_20)) t228))))
                                      · rw [if_pos c93] at H
                                        have c93b0 : decide ((wrap64 (t229 + (wrap64 (Int.tdiv (wrap64 ((wrap64 (x5_2 + (wrap64 ((rd_T38 l1 x32_2).f0)))) - x6_20)) t228)))) < (wrap64 (x7_2 + 1))) = true := decide_eq_true c93
                                        clear c93
                                        obtain rfl := Option.some.inj H
                                        have hnb94 := NB232_221.out
                                        have hnc94 := NB221_232.out
                                        have hnb95 := NB232_225.out
                                        have hnc95 := NB225_232.out
                                        have hcz96_0 : wc.cell? ⟨gb232, 0, none⟩ = some (.int .i64 t226) := (blk_cell BK232.out 0).trans rfl
                                        have hcz96_1 : wc.cell? ⟨gb232, 1, none⟩ = some (.int .i64 t227) := (blk_cell BK232.out 1).trans rfl
                                        have hcz96_2 : wc.cell? ⟨gb232, 2, none⟩ = some (.int .i64 t228) := (blk_cell BK232.out 2).trans rfl
                                        have hcz96_3 : wc.cell? ⟨gb232, 3, none⟩ = some (.int .i64 t229) := (blk_cell BK232.out 3).trans rfl
                                        have hfz96_0 := blk_frozen BK232.out 0
                                        have hfz96_1 := blk_frozen BK232.out 1
                                        have hfz96_2 := blk_frozen BK232.out 2
                                        have hfz96_3 := blk_frozen BK232.out 3
                                        have hnb97 := NB221_225.out
                                        have hnc97 := NB225_221.out
                                        have hcz98_0 : wc.cell? ⟨gb221, 0, none⟩ = some (.int .i64 x222000_2) := (blk_cell BK221.out 0).trans rfl
                                        have hcz98_1 : wc.cell? ⟨gb221, 1, none⟩ = some (.int .i64 x222001_2) := (blk_cell BK221.out 1).trans rfl
                                        have hcz98_2 : wc.cell? ⟨gb221, 2, none⟩ = some (.int .i64 x222002_2) := (blk_cell BK221.out 2).trans rfl
                                        have hcz98_3 : wc.cell? ⟨gb221, 3, none⟩ = some (.int .i64 x222003_2) := (blk_cell BK221.out 3).trans rfl
                                        have hfz98_0 := blk_frozen BK221.out 0
                                        have hfz98_1 := blk_frozen BK221.out 1
                                        have hfz98_2 := blk_frozen BK221.out 2
                                        have hfz98_3 := blk_frozen BK221.out 3
                                        go_wp2
                                        repeat (go_quiet (fail); try go_wp2)
                                        go_ret
                                        exact ⟨by first | rfl | (simp [errW_none, errW_some] <;> rfl) | (simp [*, errW_none, errW_some] <;> rfl), by repeat (first | (with_reducible first | exact HB.out | apply below_alloc | apply pw_below_drewN | apply below_drew1 | refine below_set ?_ GE221.out | refine below_set ?_ GE225.out | refine below_set ?_ GE232.out) | exact HB.out)⟩
                                      · rw [if_neg c93] at H
                                        have c93b0 : decide ((wrap64 (t229 + (wrap64 (Int.tdiv (wrap64 ((wrap64 (x5_2 + (wrap64 ((rd_T38 l1 x32_2).f0)))) - x6_20)) t228)))) < (wrap64 (x7_2 + 1))) = false := decide_eq_false c93
                                        clear c93
                                        have H' := Aside0.mk H
                                        clear H
                                        have hnb99 := NB232_221.out
                                        have hnc99 := NB221_232.out
                                        have hnb100 := NB232_225.out
                                        have hnc100 := NB225_232.out
                                        have hcz101_0 : wc.cell? ⟨gb232, 0, none⟩ = some (.int .i64 t226) := (blk_cell BK232.out 0).trans rfl
                                        have hcz101_1 : wc.cell? ⟨gb232, 1, none⟩ = some (.int .i64 t227) := (blk_cell BK232.out 1).trans rfl
                                        have hcz101_2 : wc.cell? ⟨gb232, 2, none⟩ = some (.int .i64 t228) := (blk_cell BK232.out 2).trans rfl
                                        have hcz101_3 : wc.cell? ⟨gb232, 3, none⟩ = some (.int .i64 t229) := (blk_cell BK232.out 3).trans rfl
                                        have hfz101_0 := blk_frozen BK232.out 0
                                        have hfz101_1 := blk_frozen BK232.out 1
                                        have hfz101_2 := blk_frozen BK232.out 2
                                        have hfz101_3 := blk_frozen BK232.out 3
                                        have hnb102 := NB221_225.out
                                        have hnc102 := NB225_221.out
                                        have hcz103_0 : wc.cell? ⟨gb221, 0, none⟩ = some (.int .i64 x222000_2) := (blk_cell BK221.out 0).trans rfl
                                        have hcz103_1 : wc.cell? ⟨gb221, 1, none⟩ = some (.int .i64 x222001_2) := (blk_cell BK221.out 1).trans rfl
                                        have hcz103_2 : wc.cell? ⟨gb221, 2, none⟩ = some (.int .i64 x222002_2) := (blk_cell BK221.out 2).trans rfl
                                        have hcz103_3 : wc.cell? ⟨gb221, 3, none⟩ = some (.int .i64 x222003_2) := (blk_cell BK221.out 3).trans rfl
                                        have hfz103_0 := blk_frozen BK221.out 0
                                        have hfz103_1 := blk_frozen BK221.out 1
                                        have hfz103_2 := blk_frozen BK221.out 2
                                        have hfz103_3 := blk_frozen BK221.out 3
                                        go_wp2
                                        repeat (go_quiet (fail); try go_wp2)
                                        go_roundg kj85
                                        case measure => have := HJ4.out; have := HK2.out; have := HJ20.out; have := HJ26.out; have := HJ85.out; omega
                                        case rel => exact ⟨((wrap64 (x5_2 + (wrap64 ((rd_T38 l1 x32_2).f0))))), (x6_20), (wrap64 (x7_2 + 1)), (wrap64 (x32_2 + 1)), (t226), (t227), (t228), (t229), (by first | rfl | (simp; done) | (simp [*]; done)), (by first | rfl | (simp; done) | (simp [*]; done)), (by first | rfl | (simp; done) | (simp [*]; done)), (by first | rfl | (simp; done) | (simp [*]; done)), H', ⟨by have := HJ4.out; have := HK2.out; have := HJ20.out; have := HJ26.out; have := HJ85.out; omega⟩, ⟨by (with_reducible repeat (first | refine blk_drewN ?_ _ | refine blk_drew ?_ | refine blk_alloc ?_ _)); refine blk_put (cs := #[.int .i64 t226, .int .i64 t227, .int .i64 t228, .int .i64 x222003_2]) ?_ 3 _ rfl; (with_reducible repeat (first | refine blk_drewN ?_ _ | refine blk_drew ?_ | refine blk_alloc ?_ _)); refine blk_put (cs := #[.int .i64 t226, .int .i64 t227, .int .i64 x222002_2, .int .i64 x222003_2]) ?_ 2 _ rfl; (with_reducible repeat (first | refine blk_drewN ?_ _ | refine blk_drew ?_ | refine blk_alloc ?_ _)); refine blk_put (cs := #[.int .i64 t226, .int .i64 x222001_2, .int .i64 x222002_2, .int .i64 x222003_2]) ?_ 1 _ rfl; (with_reducible repeat (first | refine blk_drewN ?_ _ | refine blk_drew ?_ | refine blk_alloc ?_ _)); refine blk_put (cs := #[.int .i64 x222000_2, .int .i64 x222001_2, .int .i64 x222002_2, .int .i64 x222003_2]) ?_ 0 _ rfl; (with_reducible repeat (first | refine blk_drewN ?_ _ | refine blk_drew ?_ | refine blk_alloc ?_ _)); exact BK221.out⟩, ⟨by repeat (first | (with_reducible first | exact HB.out | apply below_alloc | apply pw_below_drewN | apply below_drew1 | refine below_set ?_ GE221.out | refine below_set ?_ GE225.out | refine below_set ?_ GE232.out) | exact HB.out)⟩⟩
                                  · replace c91 := Bool.eq_false_iff.mpr c91
                                    subst c91
                                    have H1 : (if t228 = 0 then (none) else (if x7_2 > (wrap64 (t229 + (wrap64 (Int.tdiv (wrap64 ((wrap64 (x5_2 + (wrap64 ((rd_T38 l1 x32_2).f0)))) - x6_20)) t228)))) then (some false) else (crossbarlaw32_OverloadBoundsRate.l0 kj85 (wrap64 (x5_2 + (wrap64 ((rd_T38 l1 x32_2).f0)))) x6_20 x7_2 l1 (l1.length : Int) (wrap64 (x32_2 + 1)) t226 t227 t228 t229))) = some r := by rw [if_neg (show ¬ (false = true) by decide)] at H; exact H
                                    clear H
                                    have H := H1
                                    clear H1
                                    by_cases c104 : t228 = 0
                                    · rw [if_pos c104] at H
                                      exact absurd H (by simp)
                                    · rw [if_neg c104] at H
                                      have c104b0 : (t228 == 0) = false := beq_eq_false_iff_ne.mpr c104
                                      have c104b1 : (t228 != 0) = true := bne_iff_ne.mpr c104
                                      by_cases c105 : x7_2 > (wrap64 (t229 + (wrap64 (Int.tdiv (wrap64 ((wrap64 (x5_2 + (wrap64 ((rd_T38 l1 x32_2).f0)))) - x6_20)) t228))))
                                      · rw [if_pos c105] at H
                                        have c105b0 : decide ((wrap64 (t229 + (wrap64 (Int.tdiv (wrap64 ((wrap64 (x5_2 + (wrap64 ((rd_T38 l1 x32_2).f0)))) - x6_20)) t228)))) < x7_2) = true := decide_eq_true c105
                                        clear c105
                                        obtain rfl := Option.some.inj H
                                        have hnb106 := NB232_221.out
                                        have hnc106 := NB221_232.out
                                        have hnb107 := NB232_225.out
                                        have hnc107 := NB225_232.out
                                        have hcz108_0 : wc.cell? ⟨gb232, 0, none⟩ = some (.int .i64 t226) := (blk_cell BK232.out 0).trans rfl
                                        have hcz108_1 : wc.cell? ⟨gb232, 1, none⟩ = some (.int .i64 t227) := (blk_cell BK232.out 1).trans rfl
                                        have hcz108_2 : wc.cell? ⟨gb232, 2, none⟩ = some (.int .i64 t228) := (blk_cell BK232.out 2).trans rfl
                                        have hcz108_3 : wc.cell? ⟨gb232, 3, none⟩ = some (.int .i64 t229) := (blk_cell BK232.out 3).trans rfl
                                        have hfz108_0 := blk_frozen BK232.out 0
                                        have hfz108_1 := blk_frozen BK232.out 1
                                        have hfz108_2 := blk_frozen BK232.out 2
                                        have hfz108_3 := blk_frozen BK232.out 3
                                        have hnb109 := NB221_225.out
                                        have hnc109 := NB225_221.out
                                        have hcz110_0 : wc.cell? ⟨gb221, 0, none⟩ = some (.int .i64 x222000_2) := (blk_cell BK221.out 0).trans rfl
                                        have hcz110_1 : wc.cell? ⟨gb221, 1, none⟩ = some (.int .i64 x222001_2) := (blk_cell BK221.out 1).trans rfl
                                        have hcz110_2 : wc.cell? ⟨gb221, 2, none⟩ = some (.int .i64 x222002_2) := (blk_cell BK221.out 2).trans rfl
                                        have hcz110_3 : wc.cell? ⟨gb221, 3, none⟩ = some (.int .i64 x222003_2) := (blk_cell BK221.out 3).trans rfl
                                        have hfz110_0 := blk_frozen BK221.out 0
                                        have hfz110_1 := blk_frozen BK221.out 1
                                        have hfz110_2 := blk_frozen BK221.out 2
                                        have hfz110_3 := blk_frozen BK221.out 3
                                        go_wp2
                                        repeat (go_quiet (fail); try go_wp2)
                                        go_ret
                                        exact ⟨by first | rfl | (simp [errW_none, errW_some] <;> rfl) | (simp [*, errW_none, errW_some] <;> rfl), by repeat (first | (with_reducible first | exact HB.out | apply below_alloc | apply pw_below_drewN | apply below_drew1 | refine below_set ?_ GE221.out | refine below_set ?_ GE225.out | refine below_set ?_ GE232.out) | exact HB.out)⟩
                                      · rw [if_neg c105] at H
                                        have c105b0 : decide ((wrap64 (t229 + (wrap64 (Int.tdiv (wrap64 ((wrap64 (x5_2 + (wrap64 ((rd_T38 l1 x32_2).f0)))) - x6_20)) t228)))) < x7_2) = false := decide_eq_false c105
                                        clear c105
                                        have H' := Aside0.mk H
                                        clear H
                                        have hnb111 := NB232_221.out
                                        have hnc111 := NB221_232.out
                                        have hnb112 := NB232_225.out
                                        have hnc112 := NB225_232.out
                                        have hcz113_0 : wc.cell? ⟨gb232, 0, none⟩ = some (.int .i64 t226) := (blk_cell BK232.out 0).trans rfl
                                        have hcz113_1 : wc.cell? ⟨gb232, 1, none⟩ = some (.int .i64 t227) := (blk_cell BK232.out 1).trans rfl
                                        have hcz113_2 : wc.cell? ⟨gb232, 2, none⟩ = some (.int .i64 t228) := (blk_cell BK232.out 2).trans rfl
                                        have hcz113_3 : wc.cell? ⟨gb232, 3, none⟩ = some (.int .i64 t229) := (blk_cell BK232.out 3).trans rfl
                                        have hfz113_0 := blk_frozen BK232.out 0
                                        have hfz113_1 := blk_frozen BK232.out 1
                                        have hfz113_2 := blk_frozen BK232.out 2
                                        have hfz113_3 := blk_frozen BK232.out 3
                                        have hnb114 := NB221_225.out
                                        have hnc114 := NB225_221.out
                                        have hcz115_0 : wc.cell? ⟨gb221, 0, none⟩ = some (.int .i64 x222000_2) := (blk_cell BK221.out 0).trans rfl
                                        have hcz115_1 : wc.cell? ⟨gb221, 1, none⟩ = some (.int .i64 x222001_2) := (blk_cell BK221.out 1).trans rfl
                                        have hcz115_2 : wc.cell? ⟨gb221, 2, none⟩ = some (.int .i64 x222002_2) := (blk_cell BK221.out 2).trans rfl
                                        have hcz115_3 : wc.cell? ⟨gb221, 3, none⟩ = some (.int .i64 x222003_2) := (blk_cell BK221.out 3).trans rfl
                                        have hfz115_0 := blk_frozen BK221.out 0
                                        have hfz115_1 := blk_frozen BK221.out 1
                                        have hfz115_2 := blk_frozen BK221.out 2
                                        have hfz115_3 := blk_frozen BK221.out 3
                                        go_wp2
                                        repeat (go_quiet (fail); try go_wp2)
                                        go_roundg kj85
                                        case measure => have := HJ4.out; have := HK2.out; have := HJ20.out; have := HJ26.out; have := HJ85.out; omega
                                        case rel => exact ⟨((wrap64 (x5_2 + (wrap64 ((rd_T38 l1 x32_2).f0))))), (x6_20), (x7_2), (wrap64 (x32_2 + 1)), (t226), (t227), (t228), (t229), (by first | rfl | (simp; done) | (simp [*]; done)), (by first | rfl | (simp; done) | (simp [*]; done)), (by first | rfl | (simp; done) | (simp [*]; done)), (by first | rfl | (simp; done) | (simp [*]; done)), H', ⟨by have := HJ4.out; have := HK2.out; have := HJ20.out; have := HJ26.out; have := HJ85.out; omega⟩, ⟨by (with_reducible repeat (first | refine blk_drewN ?_ _ | refine blk_drew ?_ | refine blk_alloc ?_ _)); refine blk_put (cs := #[.int .i64 t226, .int .i64 t227, .int .i64 t228, .int .i64 x222003_2]) ?_ 3 _ rfl; (with_reducible repeat (first | refine blk_drewN ?_ _ | refine blk_drew ?_ | refine blk_alloc ?_ _)); refine blk_put (cs := #[.int .i64 t226, .int .i64 t227, .int .i64 x222002_2, .int .i64 x222003_2]) ?_ 2 _ rfl; (with_reducible repeat (first | refine blk_drewN ?_ _ | refine blk_drew ?_ | refine blk_alloc ?_ _)); refine blk_put (cs := #[.int .i64 t226, .int .i64 x222001_2, .int .i64 x222002_2, .int .i64 x222003_2]) ?_ 1 _ rfl; (with_reducible repeat (first | refine blk_drewN ?_ _ | refine blk_drew ?_ | refine blk_alloc ?_ _)); refine blk_put (cs := #[.int .i64 x222000_2, .int .i64 x222001_2, .int .i64 x222002_2, .int .i64 x222003_2]) ?_ 0 _ rfl; (with_reducible repeat (first | refine blk_drewN ?_ _ | refine blk_drew ?_ | refine blk_alloc ?_ _)); exact BK221.out⟩, ⟨by repeat (first | (with_reducible first | exact HB.out | apply below_alloc | apply pw_below_drewN | apply below_drew1 | refine below_set ?_ GE221.out | refine below_set ?_ GE225.out | refine below_set ?_ GE232.out) | exact HB.out)⟩⟩
                  · rw [if_neg c20] at H
                    exact absurd H (by simp)
                · rw [if_neg c19] at H
                  exact absurd H (by simp)
              · rw [if_neg c18] at H
                have c18b0 : decide (x32_2 < (l1.length : Int)) = false := decide_eq_false c18
                clear c18
                obtain rfl := Option.some.inj H
                go_wp2
                repeat (go_quiet (fail); try go_wp2)
                go_ret
                exact ⟨by first | rfl | (simp [errW_none, errW_some] <;> rfl) | (simp [*, errW_none, errW_some] <;> rfl), by repeat (first | (with_reducible first | exact HB.out | apply below_alloc | apply pw_below_drewN | apply below_drew1 | refine below_set ?_ GE221.out) | exact HB.out)⟩
  · replace c4 := Bool.eq_false_iff.mpr c4
    subst c4
    have H1 : (some false) = some r := by rw [if_neg (show ¬ (false = true) by decide)] at H; exact H
    clear H
    have H := H1
    clear H1
    obtain rfl := Option.some.inj H
    go_enter Try.func5, Try.ntmps5
    go_wp2_with (first | ((with_reducible refine gate_dst (N := 2) rfl ?_); refine box_event ?hg (N := 2) ?hd (cs := #[.int .i64 a0_0, .int .i64 a0_1, .int .i64 a0_2, .int .i64 a0_3]) (t := 23) ?hr ?_; (case hd => rfl); (case hg => rfl); (case hr => first | (go_simp; done) | (go_simp; rfl)); intro gb221 hg w116 hbox hb; have n0_ := Aside0.mk (below_step (by repeat (first | (with_reducible first | exact HB.out | apply below_alloc | apply pw_below_drewN | apply below_drew1) | exact HB.out)) hb); have n1_ := Aside0.mk (hbox); have n2_ := Aside0.mk ((by rw [hg]; exact (below_size (by repeat (first | (with_reducible first | exact HB.out | apply below_alloc | apply pw_below_drewN | apply below_drew1) | exact HB.out))) : w.heap.size ≤ gb221)); have n3_ := Aside0.mk ((by rw [hg]; exact (below_size (by repeat (first | (with_reducible first | exact HB.out | apply below_alloc | apply pw_below_drewN | apply below_drew1) | exact HB.out))) : w.heap.size ≤ gb221)); clear HB; have HB := n0_; have BK221 := n1_; have GW221 := n2_; have GE221 := n3_; clear n0_ n1_ n2_ n3_; clear hb hbox hg) | (go_at_call 10; (with_reducible refine (crossbarlaw32_sane.calls k  false _ A3.out).mono ?_); rintro e w117 ⟨rfl, hb⟩; have n0_ := Aside0.mk (blk_below (g := gb221) (o := .cells #[.int .i64 a0_0, .int .i64 a0_1, .int .i64 a0_2, .int .i64 a0_3] 23 (0, 0)) (by (with_reducible repeat (first | refine blk_drewN ?_ _ | refine blk_drew ?_ | refine blk_alloc ?_ _)); exact BK221.out) hb); have n1_ := Aside0.mk (below_step (by repeat (first | (with_reducible first | exact HB.out | apply below_alloc | apply pw_below_drewN | apply below_drew1 | refine below_set ?_ GE221.out) | exact HB.out)) hb); clear BK221; clear HB; have BK221 := n0_; have HB := n1_; clear n0_ n1_; (try clear hb); (try clear hb2); (try clear hk); (try clear hi)))
    repeat (go_quiet (first | ((with_reducible refine gate_dst (N := 2) rfl ?_); refine box_event ?hg (N := 2) ?hd (cs := #[.int .i64 a0_0, .int .i64 a0_1, .int .i64 a0_2, .int .i64 a0_3]) (t := 23) ?hr ?_; (case hd => rfl); (case hg => rfl); (case hr => first | (go_simp; done) | (go_simp; rfl)); intro gb221 hg w116 hbox hb; have n0_ := Aside0.mk (below_step (by repeat (first | (with_reducible first | exact HB.out | apply below_alloc | apply pw_below_drewN | apply below_drew1) | exact HB.out)) hb); have n1_ := Aside0.mk (hbox); have n2_ := Aside0.mk ((by rw [hg]; exact (below_size (by repeat (first | (with_reducible first | exact HB.out | apply below_alloc | apply pw_below_drewN | apply below_drew1) | exact HB.out))) : w.heap.size ≤ gb221)); have n3_ := Aside0.mk ((by rw [hg]; exact (below_size (by repeat (first | (with_reducible first | exact HB.out | apply below_alloc | apply pw_below_drewN | apply below_drew1) | exact HB.out))) : w.heap.size ≤ gb221)); clear HB; have HB := n0_; have BK221 := n1_; have GW221 := n2_; have GE221 := n3_; clear n0_ n1_ n2_ n3_; clear hb hbox hg) | (go_at_call 10; (with_reducible refine (crossbarlaw32_sane.calls k  false _ A3.out).mono ?_); rintro e w117 ⟨rfl, hb⟩; have n0_ := Aside0.mk (blk_below (g := gb221) (o := .cells #[.int .i64 a0_0, .int .i64 a0_1, .int .i64 a0_2, .int .i64 a0_3] 23 (0, 0)) (by (with_reducible repeat (first | refine blk_drewN ?_ _ | refine blk_drew ?_ | refine blk_alloc ?_ _)); exact BK221.out) hb); have n1_ := Aside0.mk (below_step (by repeat (first | (with_reducible first | exact HB.out | apply below_alloc | apply pw_below_drewN | apply below_drew1 | refine below_set ?_ GE221.out) | exact HB.out)) hb); clear BK221; clear HB; have BK221 := n0_; have HB := n1_; clear n0_ n1_; (try clear hb); (try clear hb2); (try clear hk); (try clear hi))); try go_wp2_with (first | ((with_reducible refine gate_dst (N := 2) rfl ?_); refine box_event ?hg (N := 2) ?hd (cs := #[.int .i64 a0_0, .int .i64 a0_1, .int .i64 a0_2, .int .i64 a0_3]) (t := 23) ?hr ?_; (case hd => rfl); (case hg => rfl); (case hr => first | (go_simp; done) | (go_simp; rfl)); intro gb221 hg w116 hbox hb; have n0_ := Aside0.mk (below_step (by repeat (first | (with_reducible first | exact HB.out | apply below_alloc | apply pw_below_drewN | apply below_drew1) | exact HB.out)) hb); have n1_ := Aside0.mk (hbox); have n2_ := Aside0.mk ((by rw [hg]; exact (below_size (by repeat (first | (with_reducible first | exact HB.out | apply below_alloc | apply pw_below_drewN | apply below_drew1) | exact HB.out))) : w.heap.size ≤ gb221)); have n3_ := Aside0.mk ((by rw [hg]; exact (below_size (by repeat (first | (with_reducible first | exact HB.out | apply below_alloc | apply pw_below_drewN | apply below_drew1) | exact HB.out))) : w.heap.size ≤ gb221)); clear HB; have HB := n0_; have BK221 := n1_; have GW221 := n2_; have GE221 := n3_; clear n0_ n1_ n2_ n3_; clear hb hbox hg) | (go_at_call 10; (with_reducible refine (crossbarlaw32_sane.calls k  false _ A3.out).mono ?_); rintro e w117 ⟨rfl, hb⟩; have n0_ := Aside0.mk (blk_below (g := gb221) (o := .cells #[.int .i64 a0_0, .int .i64 a0_1, .int .i64 a0_2, .int .i64 a0_3] 23 (0, 0)) (by (with_reducible repeat (first | refine blk_drewN ?_ _ | refine blk_drew ?_ | refine blk_alloc ?_ _)); exact BK221.out) hb); have n1_ := Aside0.mk (below_step (by repeat (first | (with_reducible first | exact HB.out | apply below_alloc | apply pw_below_drewN | apply below_drew1 | refine below_set ?_ GE221.out) | exact HB.out)) hb); clear BK221; clear HB; have BK221 := n0_; have HB := n1_; clear n0_ n1_; (try clear hb); (try clear hb2); (try clear hk); (try clear hi))))
    go_ret
    exact ⟨by first | rfl | (simp [errW_none, errW_some] <;> rfl) | (simp [*, errW_none, errW_some] <;> rfl), by repeat (first | (with_reducible first | exact HB.out | apply below_alloc | apply pw_below_drewN | apply below_drew1 | refine below_set ?_ GE221.out) | exact HB.out)⟩

end Go.Proofs.Ytpmkbpphlokbjaa.GA
