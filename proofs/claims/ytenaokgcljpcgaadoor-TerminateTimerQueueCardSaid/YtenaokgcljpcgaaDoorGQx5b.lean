-- written by wip/tools/doctor.py (the kit's print.py run with hand-given contracts); Lean checks it
import Derived.Test.YtenaokgcljpcgaaDoorGQx0
import Derived.Test.YtenaokgcljpcgaaDoorGQx3
import Derived.Test.YtenaokgcljpcgaaDoorGQx3b
import Derived.Test.YtenaokgcljpcgaaDoorGQx4
import Derived.Test.YtenaokgcljpcgaaDoorGQx4b
import Derived.Test.YtenaokgcljpcgaaDoorGQx5
import Derived.Test.YtenaokgcljpcgaaDoorHQ
namespace Go.Proofs.YtenaokgcljpcgaaDoor.GQ
open Go.RowKit Go.Proofs.YtenaokgcljpcgaaDoorW.PrintWords Go.Proofs.YtenaokgcljpcgaaDoorW.PrintLast Go.Proofs.YtenaokgcljpcgaaDoorW.PrintMore
attribute [local go_sem] max2_int min2_int max_two min_two max_three min_three max_four min_four   -- for this text's walks alone
set_option linter.unusedVariables false
set_option linter.unusedSimpArgs false

/-! ### crossbarlaw17_TerminateTimerQueue: function 10 -/
mutual
def crossbarlaw17_TerminateTimerQueue.l0 : Nat → Int → List (S25) → Int → Int → Int → List (S98) → Option (Bool)
  | 0, _, _, _, _, _, _ => none
  | k + 1, x1, x28, x29, x30, x264000, x265000 => if x30 < x29 then (if 0 ≤ x30 then (if x30 < (x28.length : Int) then ((terminate_Step.f k x264000 ((rd_T25 x28 x30).f0) ((rd_T25 x28 x30).f1) ((rd_T25 x28 x30).f2)).bind fun bt267 => (if bt267.2.2 = 0 then (if ((rd_T25 x28 x30).f0) = 4 then (crossbarlaw17_TerminateTimerQueue.j1 k x1 bt267.2.1 x28 x29 x30 true bt267.1 x265000 bt267.1) else (crossbarlaw17_TerminateTimerQueue.j1 k x1 bt267.2.1 x28 x29 x30 (((rd_T25 x28 x30).f0) == 12) bt267.1 x265000 bt267.1)) else (crossbarlaw17_TerminateTimerQueue.l0 k x1 x28 x29 (wrap64 (x30 + 1)) x264000 x265000))) else (none)) else (none)) else (some true)
def crossbarlaw17_TerminateTimerQueue.j1 : Nat → Int → List (S46) → List (S25) → Int → Int → Bool → Int → List (S98) → Int → Option (Bool)
  | 0, _, _, _, _, _, _, _, _, _ => none
  | k + 1, x1, x10, x28, x29, x30, x51, x264000, x265000, x273000 => if x51 = true then ((timers_Next.f x265000).bind fun bt273 => ((timers_Expire.f x265000 bt273.1).bind fun bt275 => (if bt273.2 = true then (if bt275.2.2 = 0 then (if (bt275.2.1.length : Int) = 1 then (crossbarlaw17_TerminateTimerQueue.j2 k x1 x10 x28 x29 x30 x264000 bt275.1 x273000) else (none)) else (none)) else (none)))) else (crossbarlaw17_TerminateTimerQueue.j2 k x1 x10 x28 x29 x30 x264000 x265000 x273000)
def crossbarlaw17_TerminateTimerQueue.j2 : Nat → Int → List (S46) → List (S25) → Int → Int → Int → List (S98) → Int → Option (Bool)
  | 0, _, _, _, _, _, _, _, _ => none
  | k + 1, x1, x10, x28, x29, x30, x264000, x265000, x273000 => crossbarlaw17_TerminateTimerQueue.l1 k x1 x28 x29 x30 x10 (x10.length : Int) 0 x264000 x265000 x273000
def crossbarlaw17_TerminateTimerQueue.l1 : Nat → Int → List (S25) → Int → Int → List (S46) → Int → Int → Int → List (S98) → Int → Option (Bool)
  | 0, _, _, _, _, _, _, _, _, _, _ => none
  | k + 1, x1, x28, x29, x30, x76, x77, x78, x264000, x265000, x273000 => if x78 < x77 then (if 0 ≤ x78 then (if x78 < (x76.length : Int) then (if ((rd_T46 x76 x78).f0) = 9 then ((timers_Set.f x265000 3 (wrap64 ((wrap64 (x1)) + ((rd_T46 x76 x78).f3)))).bind fun bt285 => (crossbarlaw17_TerminateTimerQueue.j4 k x1 bt285.2 x28 x29 x30 x76 x77 x78 x264000 bt285.1 x273000 ((rd_T46 x76 x78).f0) ((rd_T46 x76 x78).f1) ((rd_T46 x76 x78).f2) ((rd_T46 x76 x78).f3))) else (crossbarlaw17_TerminateTimerQueue.j4 k x1 0 x28 x29 x30 x76 x77 x78 x264000 x265000 x273000 ((rd_T46 x76 x78).f0) ((rd_T46 x76 x78).f1) ((rd_T46 x76 x78).f2) ((rd_T46 x76 x78).f3))) else (none)) else (none)) else (if x273000 = 1 then (if (x265000.length : Int) > 1 then (none) else (if (((x265000.length : Int) == 1) != true) = true then (none) else (crossbarlaw17_TerminateTimerQueue.l0 k x1 x28 x29 (wrap64 (x30 + 1)) x264000 x265000))) else (if (x265000.length : Int) > 1 then (none) else (if (((x265000.length : Int) == 1) != (x273000 == 3)) = true then (none) else (crossbarlaw17_TerminateTimerQueue.l0 k x1 x28 x29 (wrap64 (x30 + 1)) x264000 x265000))))
def crossbarlaw17_TerminateTimerQueue.j4 : Nat → Int → Int → List (S25) → Int → Int → List (S46) → Int → Int → Int → List (S98) → Int → Int → Int → ByteArray → Int → Option (Bool)
  | 0, _, _, _, _, _, _, _, _, _, _, _, _, _, _, _ => none
  | k + 1, x1, x19, x28, x29, x30, x76, x77, x78, x264000, x265000, x273000, x285000, x285001, x285002, x285003 => if x285000 = 10 then ((timers_Cancel.f x265000 3).bind fun bt289 => (if bt289.2 = 0 then (crossbarlaw17_TerminateTimerQueue.l1 k x1 x28 x29 x30 x76 x77 (wrap64 (x78 + 1)) x264000 bt289.1 x273000) else (none))) else (if x19 = 0 then (crossbarlaw17_TerminateTimerQueue.l1 k x1 x28 x29 x30 x76 x77 (wrap64 (x78 + 1)) x264000 x265000 x273000) else (none))
end
def crossbarlaw17_TerminateTimerQueue.f (k : Nat) (l0 : List (S25)) (a1 : Int) : Option (Bool) := (crossbarlaw17_sane.f k).bind fun t262 => (if t262 = true then (if (l0.length : Int) > 60 then (some true) else (crossbarlaw17_TerminateTimerQueue.l0 k a1 l0 (l0.length : Int) 0 0 ([] : List (S98)))) else (none))
theorem crossbarlaw17_TerminateTimerQueue.mono_l : ∀ k, (∀ y0 y1 y2 y3 y4 y5, LeO (crossbarlaw17_TerminateTimerQueue.l0 k y0 y1 y2 y3 y4 y5) (crossbarlaw17_TerminateTimerQueue.l0 (k + 1) y0 y1 y2 y3 y4 y5)) ∧ (∀ y0 y1 y2 y3 y4 y5 y6 y7 y8, LeO (crossbarlaw17_TerminateTimerQueue.j1 k y0 y1 y2 y3 y4 y5 y6 y7 y8) (crossbarlaw17_TerminateTimerQueue.j1 (k + 1) y0 y1 y2 y3 y4 y5 y6 y7 y8)) ∧ (∀ y0 y1 y2 y3 y4 y5 y6 y7, LeO (crossbarlaw17_TerminateTimerQueue.j2 k y0 y1 y2 y3 y4 y5 y6 y7) (crossbarlaw17_TerminateTimerQueue.j2 (k + 1) y0 y1 y2 y3 y4 y5 y6 y7)) ∧ (∀ y0 y1 y2 y3 y4 y5 y6 y7 y8 y9, LeO (crossbarlaw17_TerminateTimerQueue.l1 k y0 y1 y2 y3 y4 y5 y6 y7 y8 y9) (crossbarlaw17_TerminateTimerQueue.l1 (k + 1) y0 y1 y2 y3 y4 y5 y6 y7 y8 y9)) ∧ (∀ y0 y1 y2 y3 y4 y5 y6 y7 y8 y9 y10 y11 y12 y13 y14, LeO (crossbarlaw17_TerminateTimerQueue.j4 k y0 y1 y2 y3 y4 y5 y6 y7 y8 y9 y10 y11 y12 y13 y14) (crossbarlaw17_TerminateTimerQueue.j4 (k + 1) y0 y1 y2 y3 y4 y5 y6 y7 y8 y9 y10 y11 y12 y13 y14))
  | 0 => ⟨fun _ _ _ _ _ _ r h => by simp [crossbarlaw17_TerminateTimerQueue.l0] at h, fun _ _ _ _ _ _ _ _ _ r h => by simp [crossbarlaw17_TerminateTimerQueue.j1] at h, fun _ _ _ _ _ _ _ _ r h => by simp [crossbarlaw17_TerminateTimerQueue.j2] at h, fun _ _ _ _ _ _ _ _ _ _ r h => by simp [crossbarlaw17_TerminateTimerQueue.l1] at h, fun _ _ _ _ _ _ _ _ _ _ _ _ _ _ _ r h => by simp [crossbarlaw17_TerminateTimerQueue.j4] at h⟩
  | k + 1 => by
    obtain ⟨ih0, ih1, ih2, ih3, ih4⟩ := crossbarlaw17_TerminateTimerQueue.mono_l k
    refine ⟨?_, ?_, ?_, ?_, ?_⟩
    · intro y0 y1 y2 y3 y4 y5
      unfold crossbarlaw17_TerminateTimerQueue.l0
      repeat' first
      | (with_reducible exact ih0 _ _ _ _ _ _)
      | (with_reducible exact ih1 _ _ _ _ _ _ _ _ _)
      | (with_reducible exact ih2 _ _ _ _ _ _ _ _)
      | (with_reducible exact ih3 _ _ _ _ _ _ _ _ _ _)
      | (with_reducible exact ih4 _ _ _ _ _ _ _ _ _ _ _ _ _ _ _)
      | (with_reducible exact crossbarlaw17_sane.mono _)
      | (with_reducible exact terminate_Step.mono _ _ _ _ _)
      | (with_reducible exact LeO.refl _)
      | (with_reducible exact LeO.none _)
      | (with_reducible refine LeO.ite ?_ ?_)
      | (with_reducible refine LeO.bind ?_ (fun _ => ?_))
      | exact ih0 _ _ _ _ _ _
      | exact ih1 _ _ _ _ _ _ _ _ _
      | exact ih2 _ _ _ _ _ _ _ _
      | exact ih3 _ _ _ _ _ _ _ _ _ _
      | exact ih4 _ _ _ _ _ _ _ _ _ _ _ _ _ _ _
      | exact crossbarlaw17_sane.mono _
      | exact terminate_Step.mono _ _ _ _ _
      | exact LeO.none _
      | refine LeO.ite ?_ ?_
      | refine LeO.bind ?_ (fun _ => ?_)
    · intro y0 y1 y2 y3 y4 y5 y6 y7 y8
      unfold crossbarlaw17_TerminateTimerQueue.j1
      repeat' first
      | (with_reducible exact ih0 _ _ _ _ _ _)
      | (with_reducible exact ih1 _ _ _ _ _ _ _ _ _)
      | (with_reducible exact ih2 _ _ _ _ _ _ _ _)
      | (with_reducible exact ih3 _ _ _ _ _ _ _ _ _ _)
      | (with_reducible exact ih4 _ _ _ _ _ _ _ _ _ _ _ _ _ _ _)
      | (with_reducible exact crossbarlaw17_sane.mono _)
      | (with_reducible exact terminate_Step.mono _ _ _ _ _)
      | (with_reducible exact LeO.refl _)
      | (with_reducible exact LeO.none _)
      | (with_reducible refine LeO.ite ?_ ?_)
      | (with_reducible refine LeO.bind ?_ (fun _ => ?_))
      | exact ih0 _ _ _ _ _ _
      | exact ih1 _ _ _ _ _ _ _ _ _
      | exact ih2 _ _ _ _ _ _ _ _
      | exact ih3 _ _ _ _ _ _ _ _ _ _
      | exact ih4 _ _ _ _ _ _ _ _ _ _ _ _ _ _ _
      | exact crossbarlaw17_sane.mono _
      | exact terminate_Step.mono _ _ _ _ _
      | exact LeO.none _
      | refine LeO.ite ?_ ?_
      | refine LeO.bind ?_ (fun _ => ?_)
    · intro y0 y1 y2 y3 y4 y5 y6 y7
      unfold crossbarlaw17_TerminateTimerQueue.j2
      repeat' first
      | (with_reducible exact ih0 _ _ _ _ _ _)
      | (with_reducible exact ih1 _ _ _ _ _ _ _ _ _)
      | (with_reducible exact ih2 _ _ _ _ _ _ _ _)
      | (with_reducible exact ih3 _ _ _ _ _ _ _ _ _ _)
      | (with_reducible exact ih4 _ _ _ _ _ _ _ _ _ _ _ _ _ _ _)
      | (with_reducible exact crossbarlaw17_sane.mono _)
      | (with_reducible exact terminate_Step.mono _ _ _ _ _)
      | (with_reducible exact LeO.refl _)
      | (with_reducible exact LeO.none _)
      | (with_reducible refine LeO.ite ?_ ?_)
      | (with_reducible refine LeO.bind ?_ (fun _ => ?_))
      | exact ih0 _ _ _ _ _ _
      | exact ih1 _ _ _ _ _ _ _ _ _
      | exact ih2 _ _ _ _ _ _ _ _
      | exact ih3 _ _ _ _ _ _ _ _ _ _
      | exact ih4 _ _ _ _ _ _ _ _ _ _ _ _ _ _ _
      | exact crossbarlaw17_sane.mono _
      | exact terminate_Step.mono _ _ _ _ _
      | exact LeO.none _
      | refine LeO.ite ?_ ?_
      | refine LeO.bind ?_ (fun _ => ?_)
    · intro y0 y1 y2 y3 y4 y5 y6 y7 y8 y9
      unfold crossbarlaw17_TerminateTimerQueue.l1
      repeat' first
      | (with_reducible exact ih0 _ _ _ _ _ _)
      | (with_reducible exact ih1 _ _ _ _ _ _ _ _ _)
      | (with_reducible exact ih2 _ _ _ _ _ _ _ _)
      | (with_reducible exact ih3 _ _ _ _ _ _ _ _ _ _)
      | (with_reducible exact ih4 _ _ _ _ _ _ _ _ _ _ _ _ _ _ _)
      | (with_reducible exact crossbarlaw17_sane.mono _)
      | (with_reducible exact terminate_Step.mono _ _ _ _ _)
      | (with_reducible exact LeO.refl _)
      | (with_reducible exact LeO.none _)
      | (with_reducible refine LeO.ite ?_ ?_)
      | (with_reducible refine LeO.bind ?_ (fun _ => ?_))
      | exact ih0 _ _ _ _ _ _
      | exact ih1 _ _ _ _ _ _ _ _ _
      | exact ih2 _ _ _ _ _ _ _ _
      | exact ih3 _ _ _ _ _ _ _ _ _ _
      | exact ih4 _ _ _ _ _ _ _ _ _ _ _ _ _ _ _
      | exact crossbarlaw17_sane.mono _
      | exact terminate_Step.mono _ _ _ _ _
      | exact LeO.none _
      | refine LeO.ite ?_ ?_
      | refine LeO.bind ?_ (fun _ => ?_)
    · intro y0 y1 y2 y3 y4 y5 y6 y7 y8 y9 y10 y11 y12 y13 y14
      unfold crossbarlaw17_TerminateTimerQueue.j4
      repeat' first
      | (with_reducible exact ih0 _ _ _ _ _ _)
      | (with_reducible exact ih1 _ _ _ _ _ _ _ _ _)
      | (with_reducible exact ih2 _ _ _ _ _ _ _ _)
      | (with_reducible exact ih3 _ _ _ _ _ _ _ _ _ _)
      | (with_reducible exact ih4 _ _ _ _ _ _ _ _ _ _ _ _ _ _ _)
      | (with_reducible exact crossbarlaw17_sane.mono _)
      | (with_reducible exact terminate_Step.mono _ _ _ _ _)
      | (with_reducible exact LeO.refl _)
      | (with_reducible exact LeO.none _)
      | (with_reducible refine LeO.ite ?_ ?_)
      | (with_reducible refine LeO.bind ?_ (fun _ => ?_))
      | exact ih0 _ _ _ _ _ _
      | exact ih1 _ _ _ _ _ _ _ _ _
      | exact ih2 _ _ _ _ _ _ _ _
      | exact ih3 _ _ _ _ _ _ _ _ _ _
      | exact ih4 _ _ _ _ _ _ _ _ _ _ _ _ _ _ _
      | exact crossbarlaw17_sane.mono _
      | exact terminate_Step.mono _ _ _ _ _
      | exact LeO.none _
      | refine LeO.ite ?_ ?_
      | refine LeO.bind ?_ (fun _ => ?_)
theorem crossbarlaw17_TerminateTimerQueue.mono : ∀ a0 a1 k, LeO (crossbarlaw17_TerminateTimerQueue.f k a0 a1) (crossbarlaw17_TerminateTimerQueue.f (k + 1) a0 a1) := by
  intro a0 a1 k
  obtain ⟨ih0, ih1, ih2, ih3, ih4⟩ := crossbarlaw17_TerminateTimerQueue.mono_l k
  unfold crossbarlaw17_TerminateTimerQueue.f
  repeat' first
      | (with_reducible exact ih0 _ _ _ _ _ _)
      | (with_reducible exact ih1 _ _ _ _ _ _ _ _ _)
      | (with_reducible exact ih2 _ _ _ _ _ _ _ _)
      | (with_reducible exact ih3 _ _ _ _ _ _ _ _ _ _)
      | (with_reducible exact ih4 _ _ _ _ _ _ _ _ _ _ _ _ _ _ _)
      | (with_reducible exact crossbarlaw17_sane.mono _)
      | (with_reducible exact terminate_Step.mono _ _ _ _ _)
      | (with_reducible exact LeO.refl _)
      | (with_reducible exact LeO.none _)
      | (with_reducible refine LeO.ite ?_ ?_)
      | (with_reducible refine LeO.bind ?_ (fun _ => ?_))
      | exact ih0 _ _ _ _ _ _
      | exact ih1 _ _ _ _ _ _ _ _ _
      | exact ih2 _ _ _ _ _ _ _ _
      | exact ih3 _ _ _ _ _ _ _ _ _ _
      | exact ih4 _ _ _ _ _ _ _ _ _ _ _ _ _ _ _
      | exact crossbarlaw17_sane.mono _
      | exact terminate_Step.mono _ _ _ _ _
      | exact LeO.none _
      | refine LeO.ite ?_ ?_
      | refine LeO.bind ?_ (fun _ => ?_)
set_option maxHeartbeats 8000000 in
set_option maxRecDepth 100000 in
theorem crossbarlaw17_TerminateTimerQueue.calls (k : Nat) (A0 : Option Addr) (c0 : Nat) (l0 : List (S25)) (a1 : Int) (r : Bool) (w : World) (hr0 : Kd.C k25 w A0 l0.length l0) (hc0 : l0.length ≤ c0) (h : crossbarlaw17_TerminateTimerQueue.f k l0 a1 = some r) (hT : Tab w) :
    Calls Tryd.prog 10 #[.slice A0 l0.length c0, .int .u32 a1] w fun e w' => e = .returned (.bool r) ∧ Below w.heap.size w w' := by
  have HT := Aside0.mk hT
  clear hT
  have hu23 := Tryd.underlying23
  have hu57 := Tryd.underlying57
  have hu25 := Tryd.underlying25
  have hu46 := Tryd.underlying46
  have HR0 := Aside0.mk hr0
  have HC0 := Aside0.mk hc0
  clear hr0 hc0
  have HB := Aside0.mk (Below.refl w.heap.size w)
  have H : ((crossbarlaw17_sane.f k).bind fun t262 => (if t262 = true then (if (l0.length : Int) > 60 then (some true) else (crossbarlaw17_TerminateTimerQueue.l0 k a1 l0 (l0.length : Int) 0 0 ([] : List (S98)))) else (none))) = some r := h
  clear h
  replace H := Option.bind_eq_some_iff.mp H
  obtain ⟨t262, A30, H⟩ := H
  replace H : (if t262 = true then (if (l0.length : Int) > 60 then (some true) else (crossbarlaw17_TerminateTimerQueue.l0 k a1 l0 (l0.length : Int) 0 0 ([] : List (S98)))) else (none)) = some r := H
  have A3 := Aside0.mk A30
  clear A30
  by_cases c4 : t262 = true
  · subst c4
    have H1 : (if (l0.length : Int) > 60 then (some true) else (crossbarlaw17_TerminateTimerQueue.l0 k a1 l0 (l0.length : Int) 0 0 ([] : List (S98)))) = some r := by rw [if_pos rfl] at H; exact H
    clear H
    have H := H1
    clear H1
    by_cases c5 : (l0.length : Int) > 60
    · rw [if_pos c5] at H
      have c5b0 : decide (60 < (l0.length : Int)) = true := decide_eq_true c5
      have c5b1 : decide (60 < l0.length) = true := decide_eq_true (by omega)
      clear c5
      obtain rfl := Option.some.inj H
      go_enter Tryd.func10, Tryd.ntmps10
      go_wp2_with (first | ((with_reducible refine gate_callee (f := 12) rfl ?_); refine goesL_ (some 21) rfl rfl Tryd.func12 (by kernel_rfl) rfl #[] rfl (by (try simp only [List.map_toArray, List.map_cons, List.map_nil]); first | done | rfl | (simp only [List.length_drop, List.length_take]; rfl)) ?_; (refine tabbed (w := w) HT.out (by repeat (first | (with_reducible first | exact HB.out | apply below_alloc | apply pw_below_drewN | apply below_drew1) | exact HB.out)) ?_); intro hT_; (with_reducible refine (crossbarlaw17_sane.calls k  true _ A3.out hT_).mono ?_); clear hT_; rintro e w6 ⟨rfl, hb⟩; refine ⟨_, rfl, ?_⟩; have n0_ := Aside0.mk (below_step (by repeat (first | (with_reducible first | exact HB.out | apply below_alloc | apply pw_below_drewN | apply below_drew1) | exact HB.out)) hb); clear HB; have HB := n0_; clear n0_; (try clear hb); (try clear hb2); (try clear hk); (try clear hi)))
      go_ret
      exact ⟨by first | rfl | (simp [errW_none, errW_some] <;> rfl) | (simp [*, errW_none, errW_some] <;> rfl), by repeat (first | (with_reducible first | exact HB.out | apply below_alloc | apply pw_below_drewN | apply below_drew1) | exact HB.out)⟩
    · rw [if_neg c5] at H
      have c5b0 : decide (60 < (l0.length : Int)) = false := decide_eq_false c5
      have c5b1 : decide (60 < l0.length) = false := decide_eq_false (by omega)
      clear c5
      have H' := Aside0.mk H
      clear H
      go_enter Tryd.func10, Tryd.ntmps10
      go_wp2_with (first | ((with_reducible refine gate_callee (f := 12) rfl ?_); refine goesL_ (some 21) rfl rfl Tryd.func12 (by kernel_rfl) rfl #[] rfl (by (try simp only [List.map_toArray, List.map_cons, List.map_nil]); first | done | rfl | (simp only [List.length_drop, List.length_take]; rfl)) ?_; (refine tabbed (w := w) HT.out (by repeat (first | (with_reducible first | exact HB.out | apply below_alloc | apply pw_below_drewN | apply below_drew1) | exact HB.out)) ?_); intro hT_; (with_reducible refine (crossbarlaw17_sane.calls k  true _ A3.out hT_).mono ?_); clear hT_; rintro e w7 ⟨rfl, hb⟩; refine ⟨_, rfl, ?_⟩; have n0_ := Aside0.mk (below_step (by repeat (first | (with_reducible first | exact HB.out | apply below_alloc | apply pw_below_drewN | apply below_drew1) | exact HB.out)) hb); clear HB; have HB := n0_; clear n0_; (try clear hb); (try clear hb2); (try clear hk); (try clear hi)) | ((with_reducible refine gate_dst (N := 5) rfl ?_); (try (refine gate_guard (by rfl) ?_; dsimp only)); refine box_event ?hg (N := 5) ?hd (cs := #[.int .i64 0]) (t := 23) ?hr ?_; (case hd => rfl); (case hg => rfl); (case hr => first | (go_simp; done) | (go_simp; rfl)); intro gb263 hg w8 hbox hb; have n0_ := Aside0.mk (below_step (by repeat (first | (with_reducible first | exact HB.out | apply below_alloc | apply pw_below_drewN | apply below_drew1) | exact HB.out)) hb); have n1_ := Aside0.mk (hbox); have n2_ := Aside0.mk ((by rw [hg]; exact (below_size (by repeat (first | (with_reducible first | exact HB.out | apply below_alloc | apply pw_below_drewN | apply below_drew1) | exact HB.out))) : w.heap.size ≤ gb263)); have n3_ := Aside0.mk ((by rw [hg]; exact (below_size (by repeat (first | (with_reducible first | exact HB.out | apply below_alloc | apply pw_below_drewN | apply below_drew1) | exact HB.out))) : w.heap.size ≤ gb263)); clear HB; have HB := n0_; have BK263 := n1_; have GW263 := n2_; have GE263 := n3_; clear n0_ n1_ n2_ n3_; clear hb hbox hg; have hcz9_0 : w8.cell? ⟨gb263, 0, none⟩ = some (.int .i64 0) := (blk_cell BK263.out 0).trans rfl; have hfz9_0 := blk_frozen BK263.out 0) | ((with_reducible refine gate_dst (N := 6) rfl ?_); (try (refine gate_guard (by rfl) ?_; dsimp only)); refine box_event ?hg (N := 6) ?hd (cs := #[.slice none 0 0]) (t := 57) ?hr ?_; (case hd => rfl); (case hg => rfl); (case hr => first | (go_simp; done) | (go_simp; rfl)); intro gb264 hg w10 hbox hb; have n0_ := Aside0.mk (blk_below (g := gb263) (o := .cells #[.int .i64 0] 23 (0, 0)) (by (with_reducible repeat (first | refine blk_drewN ?_ _ | refine blk_drew ?_ | refine blk_alloc ?_ _)); refine blk_put (cs := #[.int .i64 0]) ?_ 0 _ rfl; (with_reducible repeat (first | refine blk_drewN ?_ _ | refine blk_drew ?_ | refine blk_alloc ?_ _)); exact BK263.out) hb); have n1_ := Aside0.mk (below_step (by repeat (first | (with_reducible first | exact HB.out | apply below_alloc | apply pw_below_drewN | apply below_drew1 | refine below_set ?_ GE263.out) | exact HB.out)) hb); have n2_ := Aside0.mk (hbox); have n3_ := Aside0.mk ((by rw [hg]; exact (below_size (by repeat (first | (with_reducible first | exact HB.out | apply below_alloc | apply pw_below_drewN | apply below_drew1 | refine below_set ?_ GE263.out) | exact HB.out))) : w.heap.size ≤ gb264)); have n4_ := Aside0.mk ((by rw [hg]; exact (below_size (by repeat (first | (with_reducible first | exact HB.out | apply below_alloc | apply pw_below_drewN | apply below_drew1 | refine below_set ?_ GE263.out) | exact HB.out))) : w.heap.size ≤ gb264)); have n5_ := Aside0.mk ((by rw [hg]; exact Nat.ne_of_lt (blk_lt (g := gb263) (o := .cells #[.int .i64 0] 23 (0, 0)) (by (with_reducible repeat (first | refine blk_drewN ?_ _ | refine blk_drew ?_ | refine blk_alloc ?_ _)); refine blk_put (cs := #[.int .i64 0]) ?_ 0 _ rfl; (with_reducible repeat (first | refine blk_drewN ?_ _ | refine blk_drew ?_ | refine blk_alloc ?_ _)); exact BK263.out)) : gb263 ≠ gb264)); have n6_ := Aside0.mk ((by rw [hg]; exact Nat.ne_of_gt (blk_lt (g := gb263) (o := .cells #[.int .i64 0] 23 (0, 0)) (by (with_reducible repeat (first | refine blk_drewN ?_ _ | refine blk_drew ?_ | refine blk_alloc ?_ _)); refine blk_put (cs := #[.int .i64 0]) ?_ 0 _ rfl; (with_reducible repeat (first | refine blk_drewN ?_ _ | refine blk_drew ?_ | refine blk_alloc ?_ _)); exact BK263.out)) : gb264 ≠ gb263)); clear BK263; clear HB; have BK263 := n0_; have HB := n1_; have BK264 := n2_; have GW264 := n3_; have GE264 := n4_; have NB263_264 := n5_; have NB264_263 := n6_; clear n0_ n1_ n2_ n3_ n4_ n5_ n6_; clear hb hbox hg; have hnb11 := NB264_263.out; have hnc11 := NB263_264.out; have hcz12_0 : w10.cell? ⟨gb264, 0, none⟩ = some (.slice none 0 0) := (blk_cell BK264.out 0).trans rfl; have hfz12_0 := blk_frozen BK264.out 0))
      go_loopg [30] k (fun kq v30 w' => ∃ (x30_1 : Int) (x264000_1 : Int) (x265000_1 : List (S98)) (u265000 : Value), v30 = .int .i64 x30_1 ∧ Aside0 (crossbarlaw17_TerminateTimerQueue.l0 kq a1 l0 (l0.length : Int) x30_1 x264000_1 x265000_1 = some r) ∧ Aside0 (kq ≤ k) ∧ Aside0 (Kd.R k98 98 w' w.heap.size (fun _ => True) u265000 x265000_1) ∧ Aside0 (w'.heap[gb263]? = some (.cells #[.int .i64 x264000_1] 23 (0, 0))) ∧ Aside0 (w'.heap[gb264]? = some (.cells #[u265000] 57 (0, 0))) ∧ Aside0 (Below w.heap.size w w'))
      case atStart => exact ⟨(0), (0), (([] : List (S98))), (.slice none 0 0), (by first | rfl | (simp; done) | (simp [*]; done)), H', ⟨Nat.le_refl _⟩, ⟨by first | exact Kd.R_nil _ _ _ _ _ | exact Kd.N_nil _ _ _ _ _ | exact Kd.V_nil _ _ _ _ _ | exact Kd.Q_nil _ _ _ _ _ | exact Kd.S_nil _ _ _ _ _⟩, ⟨by (with_reducible repeat (first | refine blk_drewN ?_ _ | refine blk_drew ?_ | refine blk_alloc ?_ _)); refine blk_far ?_ NB263_264.out _; (with_reducible repeat (first | refine blk_drewN ?_ _ | refine blk_drew ?_ | refine blk_alloc ?_ _)); exact BK263.out⟩, ⟨by (with_reducible repeat (first | refine blk_drewN ?_ _ | refine blk_drew ?_ | refine blk_alloc ?_ _)); refine blk_put (cs := #[.slice none 0 0]) ?_ 0 _ rfl; (with_reducible repeat (first | refine blk_drewN ?_ _ | refine blk_drew ?_ | refine blk_alloc ?_ _)); exact BK264.out⟩, ⟨by repeat (first | (with_reducible first | exact HB.out | apply below_alloc | apply pw_below_drewN | apply below_drew1 | refine below_set ?_ GE263.out | refine below_set ?_ GE264.out) | exact HB.out)⟩⟩
      case round =>
        clear H'
        try clear c1
        try clear p2
        try clear c4
        try clear c5
        try clear c5b0
        try clear c5b1
        try clear c10
        try clear c11
        try clear c12
        try clear hcz12_0
        try clear hcz9_0
        try clear hfz12_0
        try clear hfz9_0
        obtain ⟨x30_1, x264000_1, x265000_1, u265000, rfl, HA, HK1, HO_265000, BK263, BK264, HB⟩ := hrel
        cases gk with
        | zero => exact absurd HA.out (by simp [crossbarlaw17_TerminateTimerQueue.l0])
        | succ k1 =>
          have H := HA.out
          clear HA
          simp only [crossbarlaw17_TerminateTimerQueue.l0] at H
          by_cases c13 : x30_1 < (l0.length : Int)
          · rw [if_pos c13] at H
            have c13b0 : decide (x30_1 < (l0.length : Int)) = true := decide_eq_true c13
            clear c13
            by_cases c14 : 0 ≤ x30_1
            · rw [if_pos c14] at H
              have c14b0 : decide (0 ≤ x30_1) = true := decide_eq_true c14
              clear c14
              by_cases c15 : x30_1 < (l0.length : Int)
              · rw [if_pos c15] at H
                have c15b0 : decide (x30_1 < (l0.length : Int)) = true := decide_eq_true c15
                clear c15
                replace H := Option.bind_eq_some_iff.mp H
                obtain ⟨⟨t267, t268, t271⟩, A160, H⟩ := H
                replace H : (if t271 = 0 then (if ((rd_T25 l0 x30_1).f0) = 4 then (crossbarlaw17_TerminateTimerQueue.j1 k1 a1 t268 l0 (l0.length : Int) x30_1 true t267 x265000_1 t267) else (crossbarlaw17_TerminateTimerQueue.j1 k1 a1 t268 l0 (l0.length : Int) x30_1 (((rd_T25 l0 x30_1).f0) == 12) t267 x265000_1 t267)) else (crossbarlaw17_TerminateTimerQueue.l0 k1 a1 l0 (l0.length : Int) (wrap64 (x30_1 + 1)) x264000_1 x265000_1)) = some r := H
                have A16 := Aside0.mk A160
                clear A160
                by_cases c17 : t271 = 0
                · rw [if_pos c17] at H
                  have c17b0 : (t271 == 0) = true := beq_iff_eq.mpr c17
                  have c17b1 : (t271 != 0) = false := bne_eq_false_iff_eq.mpr c17
                  clear c17
                  have HC18 := Aside0.mk H
                  clear H
                  have p265 : 0 ≤ (x30_1 : Int) := of_decide_eq_true (by first | (with_reducible assumption) | assumption)
                  have q265 : x30_1 < (l0.length : Int) := of_decide_eq_true (by first | (with_reducible assumption) | assumption)
                  obtain ⟨ad265, e265, hx265_0, hx265_1, hx265_2⟩ := at_T25 HR0.out x30_1 p265 q265
                  cases e265
                  replace hx265_0 := (HB.out.cell (World.block_lt_of_cell? w _ hx265_0)).trans hx265_0
                  replace hx265_1 := (HB.out.cell (World.block_lt_of_cell? w _ hx265_1)).trans hx265_1
                  replace hx265_2 := (HB.out.cell (World.block_lt_of_cell? w _ hx265_2)).trans hx265_2
                  replace p265 := eq_true p265
                  replace q265 := eq_true q265
                  go_upto_region 13 with (first | ((with_reducible refine gate_dst (N := 8) rfl ?_); (try (refine gate_guard (by rfl) ?_; dsimp only)); refine box_event ?hg (N := 8) ?hd (cs := #[.int .i64 0, .int .i64 0, .int .u8 0]) (t := 25) ?hr ?_; (case hd => rfl); (case hg => rfl); (case hr => first | (go_simp; done) | (go_simp; rfl)); intro gb266 hg w19 hbox hb; have n0_ := Aside0.mk (Kd.R_below (by (with_reducible repeat (first | apply Kd.R_alloc | apply Kd.R_drewN | apply Kd.R_drew)); exact HO_265000.out) hb); have n1_ := Aside0.mk (blk_below (g := gb263) (o := .cells #[.int .i64 x264000_1] 23 (0, 0)) (by (with_reducible repeat (first | refine blk_drewN ?_ _ | refine blk_drew ?_ | refine blk_alloc ?_ _)); exact BK263.out) hb); have n2_ := Aside0.mk (blk_below (g := gb264) (o := .cells #[u265000] 57 (0, 0)) (by (with_reducible repeat (first | refine blk_drewN ?_ _ | refine blk_drew ?_ | refine blk_alloc ?_ _)); exact BK264.out) hb); have n3_ := Aside0.mk (below_step (by repeat (first | (with_reducible first | exact HB.out | apply below_alloc | apply pw_below_drewN | apply below_drew1 | refine below_set ?_ GE263.out | refine below_set ?_ GE264.out) | exact HB.out)) hb); have n4_ := Aside0.mk (hbox); have n5_ := Aside0.mk ((by rw [hg]; exact (below_size (by repeat (first | (with_reducible first | exact HB.out | apply below_alloc | apply pw_below_drewN | apply below_drew1 | refine below_set ?_ GE263.out | refine below_set ?_ GE264.out) | exact HB.out))) : w.heap.size ≤ gb266)); have n6_ := Aside0.mk ((by rw [hg]; exact (below_size (by repeat (first | (with_reducible first | exact HB.out | apply below_alloc | apply pw_below_drewN | apply below_drew1 | refine below_set ?_ GE263.out | refine below_set ?_ GE264.out) | exact HB.out))) : w.heap.size ≤ gb266)); have n7_ := Aside0.mk ((by rw [hg]; exact Nat.ne_of_lt (blk_lt (g := gb263) (o := .cells #[.int .i64 x264000_1] 23 (0, 0)) (by (with_reducible repeat (first | refine blk_drewN ?_ _ | refine blk_drew ?_ | refine blk_alloc ?_ _)); exact BK263.out)) : gb263 ≠ gb266)); have n8_ := Aside0.mk ((by rw [hg]; exact Nat.ne_of_gt (blk_lt (g := gb263) (o := .cells #[.int .i64 x264000_1] 23 (0, 0)) (by (with_reducible repeat (first | refine blk_drewN ?_ _ | refine blk_drew ?_ | refine blk_alloc ?_ _)); exact BK263.out)) : gb266 ≠ gb263)); have n9_ := Aside0.mk ((by rw [hg]; exact Nat.ne_of_lt (blk_lt (g := gb264) (o := .cells #[u265000] 57 (0, 0)) (by (with_reducible repeat (first | refine blk_drewN ?_ _ | refine blk_drew ?_ | refine blk_alloc ?_ _)); exact BK264.out)) : gb264 ≠ gb266)); have n10_ := Aside0.mk ((by rw [hg]; exact Nat.ne_of_gt (blk_lt (g := gb264) (o := .cells #[u265000] 57 (0, 0)) (by (with_reducible repeat (first | refine blk_drewN ?_ _ | refine blk_drew ?_ | refine blk_alloc ?_ _)); exact BK264.out)) : gb266 ≠ gb264)); clear HO_265000; clear BK263; clear BK264; clear HB; have HO_265000 := n0_; have BK263 := n1_; have BK264 := n2_; have HB := n3_; have BK266 := n4_; have GW266 := n5_; have GE266 := n6_; have NB263_266 := n7_; have NB266_263 := n8_; have NB264_266 := n9_; have NB266_264 := n10_; clear n0_ n1_ n2_ n3_ n4_ n5_ n6_ n7_ n8_ n9_ n10_; clear hb hbox hg; have hnb20 := NB266_263.out; have hnc20 := NB263_266.out; have hnb21 := NB266_264.out; have hnc21 := NB264_266.out; have hcz22_0 : w19.cell? ⟨gb266, 0, none⟩ = some (.int .i64 0) := (blk_cell BK266.out 0).trans rfl; have hcz22_1 : w19.cell? ⟨gb266, 1, none⟩ = some (.int .i64 0) := (blk_cell BK266.out 1).trans rfl; have hcz22_2 : w19.cell? ⟨gb266, 2, none⟩ = some (.int .u8 0) := (blk_cell BK266.out 2).trans rfl; have hfz22_0 := blk_frozen BK266.out 0; have hfz22_1 := blk_frozen BK266.out 1; have hfz22_2 := blk_frozen BK266.out 2; have hnb23 := NB263_264.out; have hnc23 := NB264_263.out; have hcz24_0 : w19.cell? ⟨gb263, 0, none⟩ = some (.int .i64 x264000_1) := (blk_cell BK263.out 0).trans rfl; have hfz24_0 := blk_frozen BK263.out 0) | ((with_reducible refine gate_callee (f := 13) rfl ?_); refine goesL_ (some 37) rfl rfl Tryd.func13 (by kernel_rfl) rfl #[.agg #[.int .i64 x264000_1], .agg #[.int .i64 ((rd_T25 l0 x30_1).f0), .int .i64 ((rd_T25 l0 x30_1).f1), .int .u8 ((rd_T25 l0 x30_1).f2)]] rfl (by (try simp only [List.map_toArray, List.map_cons, List.map_nil]); first | done | rfl | (simp only [List.length_drop, List.length_take]; rfl)) ?_; (refine tabbed (w := w) HT.out (by repeat (first | (with_reducible first | exact HB.out | apply below_alloc | apply pw_below_drewN | apply below_drew1 | refine below_set ?_ GE263.out | refine below_set ?_ GE264.out | refine below_set ?_ GE266.out) | exact HB.out)) ?_); intro hT_; (with_reducible refine (terminate_Step.calls k1 x264000_1 ((rd_T25 l0 x30_1).f0) ((rd_T25 l0 x30_1).f1) ((rd_T25 l0 x30_1).f2) t267 t268 t271 _ A16.out hT_).mono ?_); clear hT_; rintro e w25 ⟨v269, rfl, ho0, hb⟩; refine ⟨_, rfl, ?_⟩; have n0_ := Aside0.mk (Kd.R_below (by (with_reducible repeat (first | apply Kd.R_alloc | apply Kd.R_drewN | apply Kd.R_drew)); exact (Kd.R_mono (Kd.R_far (p := ⟨gb266, 2, none⟩) (Kd.R_far (p := ⟨gb266, 1, none⟩) (Kd.R_far (p := ⟨gb266, 0, none⟩) (Kd.R_types HO_265000.out BK266.out (by decide)) (fun _ hk => hk.2) (.int .i64 ((rd_T25 l0 x30_1).f0))) (fun _ hk => hk.2) (.int .i64 ((rd_T25 l0 x30_1).f1))) (fun _ hk => hk.2) (.int .u8 ((rd_T25 l0 x30_1).f2))) (fun _ h_ => h_.1))) hb); have n1_ := Aside0.mk (Kd.R_lower ho0 (below_size (by repeat (first | (with_reducible first | exact HB.out | apply below_alloc | apply pw_below_drewN | apply below_drew1 | refine below_set ?_ GE263.out | refine below_set ?_ GE264.out | refine below_set ?_ GE266.out) | exact HB.out)))); have n2_ := Aside0.mk (blk_below (g := gb263) (o := .cells #[.int .i64 x264000_1] 23 (0, 0)) (by (with_reducible repeat (first | refine blk_drewN ?_ _ | refine blk_drew ?_ | refine blk_alloc ?_ _)); refine blk_far ?_ NB263_266.out _; (with_reducible repeat (first | refine blk_drewN ?_ _ | refine blk_drew ?_ | refine blk_alloc ?_ _)); refine blk_far ?_ NB263_266.out _; (with_reducible repeat (first | refine blk_drewN ?_ _ | refine blk_drew ?_ | refine blk_alloc ?_ _)); refine blk_far ?_ NB263_266.out _; (with_reducible repeat (first | refine blk_drewN ?_ _ | refine blk_drew ?_ | refine blk_alloc ?_ _)); exact BK263.out) hb); have n3_ := Aside0.mk (blk_below (g := gb264) (o := .cells #[u265000] 57 (0, 0)) (by (with_reducible repeat (first | refine blk_drewN ?_ _ | refine blk_drew ?_ | refine blk_alloc ?_ _)); refine blk_far ?_ NB264_266.out _; (with_reducible repeat (first | refine blk_drewN ?_ _ | refine blk_drew ?_ | refine blk_alloc ?_ _)); refine blk_far ?_ NB264_266.out _; (with_reducible repeat (first | refine blk_drewN ?_ _ | refine blk_drew ?_ | refine blk_alloc ?_ _)); refine blk_far ?_ NB264_266.out _; (with_reducible repeat (first | refine blk_drewN ?_ _ | refine blk_drew ?_ | refine blk_alloc ?_ _)); exact BK264.out) hb); have n4_ := Aside0.mk (blk_below (g := gb266) (o := .cells #[.int .i64 ((rd_T25 l0 x30_1).f0), .int .i64 ((rd_T25 l0 x30_1).f1), .int .u8 ((rd_T25 l0 x30_1).f2)] 25 (0, 0)) (by (with_reducible repeat (first | refine blk_drewN ?_ _ | refine blk_drew ?_ | refine blk_alloc ?_ _)); refine blk_put (cs := #[.int .i64 ((rd_T25 l0 x30_1).f0), .int .i64 ((rd_T25 l0 x30_1).f1), .int .u8 0]) ?_ 2 _ rfl; (with_reducible repeat (first | refine blk_drewN ?_ _ | refine blk_drew ?_ | refine blk_alloc ?_ _)); refine blk_put (cs := #[.int .i64 ((rd_T25 l0 x30_1).f0), .int .i64 0, .int .u8 0]) ?_ 1 _ rfl; (with_reducible repeat (first | refine blk_drewN ?_ _ | refine blk_drew ?_ | refine blk_alloc ?_ _)); refine blk_put (cs := #[.int .i64 0, .int .i64 0, .int .u8 0]) ?_ 0 _ rfl; (with_reducible repeat (first | refine blk_drewN ?_ _ | refine blk_drew ?_ | refine blk_alloc ?_ _)); exact BK266.out) hb); have n5_ := Aside0.mk (below_step (by repeat (first | (with_reducible first | exact HB.out | apply below_alloc | apply pw_below_drewN | apply below_drew1 | refine below_set ?_ GE263.out | refine below_set ?_ GE264.out | refine below_set ?_ GE266.out) | exact HB.out)) hb); clear HO_265000; clear BK263; clear BK264; clear BK266; clear HB; have HO_265000 := n0_; have HO270 := n1_; have BK263 := n2_; have BK264 := n3_; have BK266 := n4_; have HB := n5_; clear n0_ n1_ n2_ n3_ n4_ n5_; (try clear hb); (try clear hb2); (try clear hk); (try clear hi); (try clear ho0)) | ((with_reducible refine gate_dst (N := 9) rfl ?_); (try (refine gate_guard (by rfl) ?_; dsimp only)); refine box_event ?hg (N := 9) ?hd (cs := #[.int .i64 0]) (t := 23) ?hr ?_; (case hd => rfl); (case hg => rfl); (case hr => first | (go_simp; done) | (go_simp; rfl)); intro gb272 hg w26 hbox hb; have n0_ := Aside0.mk (Kd.R_below (by (with_reducible repeat (first | apply Kd.R_alloc | apply Kd.R_drewN | apply Kd.R_drew)); exact HO_265000.out) hb); have n1_ := Aside0.mk (Kd.R_below (by (with_reducible repeat (first | apply Kd.R_alloc | apply Kd.R_drewN | apply Kd.R_drew)); exact HO270.out) hb); have n2_ := Aside0.mk (blk_below (g := gb263) (o := .cells #[.int .i64 x264000_1] 23 (0, 0)) (by (with_reducible repeat (first | refine blk_drewN ?_ _ | refine blk_drew ?_ | refine blk_alloc ?_ _)); exact BK263.out) hb); have n3_ := Aside0.mk (blk_below (g := gb264) (o := .cells #[u265000] 57 (0, 0)) (by (with_reducible repeat (first | refine blk_drewN ?_ _ | refine blk_drew ?_ | refine blk_alloc ?_ _)); exact BK264.out) hb); have n4_ := Aside0.mk (blk_below (g := gb266) (o := .cells #[.int .i64 ((rd_T25 l0 x30_1).f0), .int .i64 ((rd_T25 l0 x30_1).f1), .int .u8 ((rd_T25 l0 x30_1).f2)] 25 (0, 0)) (by (with_reducible repeat (first | refine blk_drewN ?_ _ | refine blk_drew ?_ | refine blk_alloc ?_ _)); exact BK266.out) hb); have n5_ := Aside0.mk (below_step (by repeat (first | (with_reducible first | exact HB.out | apply below_alloc | apply pw_below_drewN | apply below_drew1 | refine below_set ?_ GE263.out | refine below_set ?_ GE264.out | refine below_set ?_ GE266.out) | exact HB.out)) hb); have n6_ := Aside0.mk (hbox); have n7_ := Aside0.mk ((by rw [hg]; exact (below_size (by repeat (first | (with_reducible first | exact HB.out | apply below_alloc | apply pw_below_drewN | apply below_drew1 | refine below_set ?_ GE263.out | refine below_set ?_ GE264.out | refine below_set ?_ GE266.out) | exact HB.out))) : w.heap.size ≤ gb272)); have n8_ := Aside0.mk ((by rw [hg]; exact (below_size (by repeat (first | (with_reducible first | exact HB.out | apply below_alloc | apply pw_below_drewN | apply below_drew1 | refine below_set ?_ GE263.out | refine below_set ?_ GE264.out | refine below_set ?_ GE266.out) | exact HB.out))) : w.heap.size ≤ gb272)); have n9_ := Aside0.mk ((by rw [hg]; exact Nat.ne_of_lt (blk_lt (g := gb263) (o := .cells #[.int .i64 x264000_1] 23 (0, 0)) (by (with_reducible repeat (first | refine blk_drewN ?_ _ | refine blk_drew ?_ | refine blk_alloc ?_ _)); exact BK263.out)) : gb263 ≠ gb272)); have n10_ := Aside0.mk ((by rw [hg]; exact Nat.ne_of_gt (blk_lt (g := gb263) (o := .cells #[.int .i64 x264000_1] 23 (0, 0)) (by (with_reducible repeat (first | refine blk_drewN ?_ _ | refine blk_drew ?_ | refine blk_alloc ?_ _)); exact BK263.out)) : gb272 ≠ gb263)); have n11_ := Aside0.mk ((by rw [hg]; exact Nat.ne_of_lt (blk_lt (g := gb264) (o := .cells #[u265000] 57 (0, 0)) (by (with_reducible repeat (first | refine blk_drewN ?_ _ | refine blk_drew ?_ | refine blk_alloc ?_ _)); exact BK264.out)) : gb264 ≠ gb272)); have n12_ := Aside0.mk ((by rw [hg]; exact Nat.ne_of_gt (blk_lt (g := gb264) (o := .cells #[u265000] 57 (0, 0)) (by (with_reducible repeat (first | refine blk_drewN ?_ _ | refine blk_drew ?_ | refine blk_alloc ?_ _)); exact BK264.out)) : gb272 ≠ gb264)); have n13_ := Aside0.mk ((by rw [hg]; exact Nat.ne_of_lt (blk_lt (g := gb266) (o := .cells #[.int .i64 ((rd_T25 l0 x30_1).f0), .int .i64 ((rd_T25 l0 x30_1).f1), .int .u8 ((rd_T25 l0 x30_1).f2)] 25 (0, 0)) (by (with_reducible repeat (first | refine blk_drewN ?_ _ | refine blk_drew ?_ | refine blk_alloc ?_ _)); exact BK266.out)) : gb266 ≠ gb272)); have n14_ := Aside0.mk ((by rw [hg]; exact Nat.ne_of_gt (blk_lt (g := gb266) (o := .cells #[.int .i64 ((rd_T25 l0 x30_1).f0), .int .i64 ((rd_T25 l0 x30_1).f1), .int .u8 ((rd_T25 l0 x30_1).f2)] 25 (0, 0)) (by (with_reducible repeat (first | refine blk_drewN ?_ _ | refine blk_drew ?_ | refine blk_alloc ?_ _)); exact BK266.out)) : gb272 ≠ gb266)); clear HO_265000; clear HO270; clear BK263; clear BK264; clear BK266; clear HB; have HO_265000 := n0_; have HO270 := n1_; have BK263 := n2_; have BK264 := n3_; have BK266 := n4_; have HB := n5_; have BK272 := n6_; have GW272 := n7_; have GE272 := n8_; have NB263_272 := n9_; have NB272_263 := n10_; have NB264_272 := n11_; have NB272_264 := n12_; have NB266_272 := n13_; have NB272_266 := n14_; clear n0_ n1_ n2_ n3_ n4_ n5_ n6_ n7_ n8_ n9_ n10_ n11_ n12_ n13_ n14_; clear hb hbox hg; have hnb27 := NB272_263.out; have hnc27 := NB263_272.out; have hnb28 := NB272_264.out; have hnc28 := NB264_272.out; have hnb29 := NB272_266.out; have hnc29 := NB266_272.out; have hcz30_0 : w26.cell? ⟨gb272, 0, none⟩ = some (.int .i64 0) := (blk_cell BK272.out 0).trans rfl; have hfz30_0 := blk_frozen BK272.out 0; have hcz31_0 : w26.cell? ⟨gb263, 0, none⟩ = some (.int .i64 x264000_1) := (blk_cell BK263.out 0).trans rfl; have hfz31_0 := blk_frozen BK263.out 0))
                  (try simp only [Act.put, List.setIfInBounds_toArray, List.set_cons_zero, List.set_cons_succ])
                  go_cut [51] (fun v51 wc => ∃ (kq : Nat) (x51_17 : Bool), v51 = .bool x51_17 ∧ Aside0 (crossbarlaw17_TerminateTimerQueue.j1 kq a1 t268 l0 (l0.length : Int) x30_1 x51_17 t267 x265000_1 t267 = some r) ∧ Aside0 (kq ≤ k1) ∧ Aside0 (Kd.R k46 46 wc w.heap.size (fun _ => True) v269 t268) ∧ Aside0 (Kd.R k98 98 wc w.heap.size (fun _ => True) u265000 x265000_1) ∧ Aside0 (wc.heap[gb263]? = some (.cells #[.int .i64 t267] 23 (0, 0))) ∧ Aside0 (wc.heap[gb264]? = some (.cells #[u265000] 57 (0, 0))) ∧ Aside0 (wc.heap[gb266]? = some (.cells #[.int .i64 ((rd_T25 l0 x30_1).f0), .int .i64 ((rd_T25 l0 x30_1).f1), .int .u8 ((rd_T25 l0 x30_1).f2)] 25 (0, 0))) ∧ Aside0 (wc.heap[gb272]? = some (.cells #[.int .i64 t267] 23 (0, 0))) ∧ Aside0 (Below w.heap.size w wc))
                  case first =>
                    have H := HC18.out
                    clear HC18
                    by_cases c32 : ((rd_T25 l0 x30_1).f0) = 4
                    · rw [if_pos c32] at H
                      have c32b0 : (((rd_T25 l0 x30_1).f0) == 4) = true := beq_iff_eq.mpr c32
                      have c32b1 : (((rd_T25 l0 x30_1).f0) != 4) = false := bne_eq_false_iff_eq.mpr c32
                      clear c32
                      (first | rw [c32b0] | (simp only [i64_w, i32_w]; rw [c32b0]) | skip)
                      have H' := Aside0.mk H
                      clear H
                      have hnb33 := NB266_263.out
                      have hnc33 := NB263_266.out
                      have hnb34 := NB266_264.out
                      have hnc34 := NB264_266.out
                      have hnb35 := NB266_272.out
                      have hnc35 := NB272_266.out
                      have hcz36_0 : w26.cell? ⟨gb266, 0, none⟩ = some (.int .i64 ((rd_T25 l0 x30_1).f0)) := (blk_cell BK266.out 0).trans rfl
                      have hcz36_1 : w26.cell? ⟨gb266, 1, none⟩ = some (.int .i64 ((rd_T25 l0 x30_1).f1)) := (blk_cell BK266.out 1).trans rfl
                      have hcz36_2 : w26.cell? ⟨gb266, 2, none⟩ = some (.int .u8 ((rd_T25 l0 x30_1).f2)) := (blk_cell BK266.out 2).trans rfl
                      have hfz36_0 := blk_frozen BK266.out 0
                      have hfz36_1 := blk_frozen BK266.out 1
                      have hfz36_2 := blk_frozen BK266.out 2
                      go_wp2
                      go_meet
                      case rel => exact ⟨_, (true), (by first | rfl | (simp; done) | (simp [*]; done)), H', ⟨by have := HK1.out; first | omega | exact Nat.le_refl _⟩, ⟨by (with_reducible repeat (first | apply Kd.R_alloc | apply Kd.R_drewN | apply Kd.R_drew)); exact Kd.R_mono (Kd.R_far (p := ⟨gb263, 0, none⟩) (Kd.R_far (p := ⟨gb272, 0, none⟩) (Kd.R_types (Kd.R_types HO270.out BK272.out (by decide)) BK263.out (by decide)) (fun _ hk => hk.1.2) (.int .i64 t267)) (fun _ hk => hk.2) (.int .i64 t267)) (fun _ hk => trivial)⟩, ⟨by (with_reducible repeat (first | apply Kd.R_alloc | apply Kd.R_drewN | apply Kd.R_drew)); exact Kd.R_mono (Kd.R_far (p := ⟨gb263, 0, none⟩) (Kd.R_far (p := ⟨gb272, 0, none⟩) (Kd.R_types (Kd.R_types HO_265000.out BK272.out (by decide)) BK263.out (by decide)) (fun _ hk => hk.1.2) (.int .i64 t267)) (fun _ hk => hk.2) (.int .i64 t267)) (fun _ hk => trivial)⟩, ⟨by (with_reducible repeat (first | refine blk_drewN ?_ _ | refine blk_drew ?_ | refine blk_alloc ?_ _)); refine blk_put (cs := #[.int .i64 x264000_1]) ?_ 0 _ rfl; (with_reducible repeat (first | refine blk_drewN ?_ _ | refine blk_drew ?_ | refine blk_alloc ?_ _)); refine blk_far ?_ NB263_272.out _; (with_reducible repeat (first | refine blk_drewN ?_ _ | refine blk_drew ?_ | refine blk_alloc ?_ _)); exact BK263.out⟩, ⟨by (with_reducible repeat (first | refine blk_drewN ?_ _ | refine blk_drew ?_ | refine blk_alloc ?_ _)); refine blk_far ?_ NB264_263.out _; (with_reducible repeat (first | refine blk_drewN ?_ _ | refine blk_drew ?_ | refine blk_alloc ?_ _)); refine blk_far ?_ NB264_272.out _; (with_reducible repeat (first | refine blk_drewN ?_ _ | refine blk_drew ?_ | refine blk_alloc ?_ _)); exact BK264.out⟩, ⟨by (with_reducible repeat (first | refine blk_drewN ?_ _ | refine blk_drew ?_ | refine blk_alloc ?_ _)); refine blk_far ?_ NB266_263.out _; (with_reducible repeat (first | refine blk_drewN ?_ _ | refine blk_drew ?_ | refine blk_alloc ?_ _)); refine blk_far ?_ NB266_272.out _; (with_reducible repeat (first | refine blk_drewN ?_ _ | refine blk_drew ?_ | refine blk_alloc ?_ _)); exact BK266.out⟩, ⟨by (with_reducible repeat (first | refine blk_drewN ?_ _ | refine blk_drew ?_ | refine blk_alloc ?_ _)); refine blk_far ?_ NB272_263.out _; (with_reducible repeat (first | refine blk_drewN ?_ _ | refine blk_drew ?_ | refine blk_alloc ?_ _)); refine blk_put (cs := #[.int .i64 0]) ?_ 0 _ rfl; (with_reducible repeat (first | refine blk_drewN ?_ _ | refine blk_drew ?_ | refine blk_alloc ?_ _)); exact BK272.out⟩, ⟨by repeat (first | (with_reducible first | exact HB.out | apply below_alloc | apply pw_below_drewN | apply below_drew1 | refine below_set ?_ GE263.out | refine below_set ?_ GE264.out | refine below_set ?_ GE266.out | refine below_set ?_ GE272.out) | exact HB.out)⟩⟩
                    · rw [if_neg c32] at H
                      have c32b0 : (((rd_T25 l0 x30_1).f0) == 4) = false := beq_eq_false_iff_ne.mpr c32
                      have c32b1 : (((rd_T25 l0 x30_1).f0) != 4) = true := bne_iff_ne.mpr c32
                      (first | rw [c32b0] | (simp only [i64_w, i32_w]; rw [c32b0]) | skip)
                      have H' := Aside0.mk H
                      clear H
                      have hnb37 := NB266_263.out
                      have hnc37 := NB263_266.out
                      have hnb38 := NB266_264.out
                      have hnc38 := NB264_266.out
                      have hnb39 := NB266_272.out
                      have hnc39 := NB272_266.out
                      have hcz40_0 : w26.cell? ⟨gb266, 0, none⟩ = some (.int .i64 ((rd_T25 l0 x30_1).f0)) := (blk_cell BK266.out 0).trans rfl
                      have hcz40_1 : w26.cell? ⟨gb266, 1, none⟩ = some (.int .i64 ((rd_T25 l0 x30_1).f1)) := (blk_cell BK266.out 1).trans rfl
                      have hcz40_2 : w26.cell? ⟨gb266, 2, none⟩ = some (.int .u8 ((rd_T25 l0 x30_1).f2)) := (blk_cell BK266.out 2).trans rfl
                      have hfz40_0 := blk_frozen BK266.out 0
                      have hfz40_1 := blk_frozen BK266.out 1
                      have hfz40_2 := blk_frozen BK266.out 2
                      go_wp2
                      go_meet
                      case rel => exact ⟨_, ((((rd_T25 l0 x30_1).f0) == 12)), (by first | rfl | (simp; done) | (simp [*]; done)), H', ⟨by have := HK1.out; first | omega | exact Nat.le_refl _⟩, ⟨by (with_reducible repeat (first | apply Kd.R_alloc | apply Kd.R_drewN | apply Kd.R_drew)); exact Kd.R_mono (Kd.R_far (p := ⟨gb263, 0, none⟩) (Kd.R_far (p := ⟨gb272, 0, none⟩) (Kd.R_types (Kd.R_types HO270.out BK272.out (by decide)) BK263.out (by decide)) (fun _ hk => hk.1.2) (.int .i64 t267)) (fun _ hk => hk.2) (.int .i64 t267)) (fun _ hk => trivial)⟩, ⟨by (with_reducible repeat (first | apply Kd.R_alloc | apply Kd.R_drewN | apply Kd.R_drew)); exact Kd.R_mono (Kd.R_far (p := ⟨gb263, 0, none⟩) (Kd.R_far (p := ⟨gb272, 0, none⟩) (Kd.R_types (Kd.R_types HO_265000.out BK272.out (by decide)) BK263.out (by decide)) (fun _ hk => hk.1.2) (.int .i64 t267)) (fun _ hk => hk.2) (.int .i64 t267)) (fun _ hk => trivial)⟩, ⟨by (with_reducible repeat (first | refine blk_drewN ?_ _ | refine blk_drew ?_ | refine blk_alloc ?_ _)); refine blk_put (cs := #[.int .i64 x264000_1]) ?_ 0 _ rfl; (with_reducible repeat (first | refine blk_drewN ?_ _ | refine blk_drew ?_ | refine blk_alloc ?_ _)); refine blk_far ?_ NB263_272.out _; (with_reducible repeat (first | refine blk_drewN ?_ _ | refine blk_drew ?_ | refine blk_alloc ?_ _)); exact BK263.out⟩, ⟨by (with_reducible repeat (first | refine blk_drewN ?_ _ | refine blk_drew ?_ | refine blk_alloc ?_ _)); refine blk_far ?_ NB264_263.out _; (with_reducible repeat (first | refine blk_drewN ?_ _ | refine blk_drew ?_ | refine blk_alloc ?_ _)); refine blk_far ?_ NB264_272.out _; (with_reducible repeat (first | refine blk_drewN ?_ _ | refine blk_drew ?_ | refine blk_alloc ?_ _)); exact BK264.out⟩, ⟨by (with_reducible repeat (first | refine blk_drewN ?_ _ | refine blk_drew ?_ | refine blk_alloc ?_ _)); refine blk_far ?_ NB266_263.out _; (with_reducible repeat (first | refine blk_drewN ?_ _ | refine blk_drew ?_ | refine blk_alloc ?_ _)); refine blk_far ?_ NB266_272.out _; (with_reducible repeat (first | refine blk_drewN ?_ _ | refine blk_drew ?_ | refine blk_alloc ?_ _)); exact BK266.out⟩, ⟨by (with_reducible repeat (first | refine blk_drewN ?_ _ | refine blk_drew ?_ | refine blk_alloc ?_ _)); refine blk_far ?_ NB272_263.out _; (with_reducible repeat (first | refine blk_drewN ?_ _ | refine blk_drew ?_ | refine blk_alloc ?_ _)); refine blk_put (cs := #[.int .i64 0]) ?_ 0 _ rfl; (with_reducible repeat (first | refine blk_drewN ?_ _ | refine blk_drew ?_ | refine blk_alloc ?_ _)); exact BK272.out⟩, ⟨by repeat (first | (with_reducible first | exact HB.out | apply below_alloc | apply pw_below_drewN | apply below_drew1 | refine below_set ?_ GE263.out | refine below_set ?_ GE264.out | refine below_set ?_ GE266.out | refine below_set ?_ GE272.out) | exact HB.out)⟩⟩
                  case rest =>
                    clear HC18
                    try clear c1
                    try clear c2
                    try clear p2
                    try clear q2
                    try clear hx2
                    try clear c3
                    try clear c4
                    try clear c5
                    try clear c5b0
                    try clear c5b1
                    try clear p6
                    try clear c10
                    try clear c11
                    try clear c12
                    try clear c13
                    try clear c13b0
                    try clear c14
                    try clear c14b0
                    try clear c15
                    try clear c15b0
                    try clear c17
                    try clear c17b0
                    try clear c17b1
                    try clear c20
                    try clear c21
                    try clear c23
                    try clear p26
                    try clear q26
                    try clear hx26
                    try clear c27
                    try clear c28
                    try clear c29
                    try clear c32
                    try clear c32b0
                    try clear c32b1
                    try clear c33
                    try clear c34
                    try clear c35
                    try clear c37
                    try clear c38
                    try clear c39
                    try clear hcz12_0
                    try clear hcz22_0
                    try clear hcz22_1
                    try clear hcz22_2
                    try clear hcz24_0
                    try clear hcz30_0
                    try clear hcz31_0
                    try clear hcz36_0
                    try clear hcz36_1
                    try clear hcz36_2
                    try clear hcz40_0
                    try clear hcz40_1
                    try clear hcz40_2
                    try clear hcz9_0
                    try clear hfz12_0
                    try clear hfz22_0
                    try clear hfz22_1
                    try clear hfz22_2
                    try clear hfz24_0
                    try clear hfz30_0
                    try clear hfz31_0
                    try clear hfz36_0
                    try clear hfz36_1
                    try clear hfz36_2
                    try clear hfz40_0
                    try clear hfz40_1
                    try clear hfz40_2
                    try clear hfz9_0
                    try clear hx265_0
                    try clear hx265_1
                    try clear hx265_2
                    try clear p2
                    try clear p265
                    try clear q265
                    obtain ⟨kq, x51_17, rfl, HA, HJ17, HO_10, HO_265000, BK263, BK264, BK266, BK272, HB⟩ := hcut
                    cases kq with
                    | zero => exact absurd HA.out (by simp [crossbarlaw17_TerminateTimerQueue.j1])
                    | succ kj17 =>
                      have H := HA.out
                      clear HA
                      simp only [crossbarlaw17_TerminateTimerQueue.j1] at H
                      have HC41 := Aside0.mk H
                      clear H
                      go_upto_if 51 with (fail)
                      go_cut [] (fun wc => ∃ (kq : Nat) (x265000_40 : List (S98)) (u265000 : Value), Aside0 (crossbarlaw17_TerminateTimerQueue.j2 kq a1 t268 l0 (l0.length : Int) x30_1 t267 x265000_40 t267 = some r) ∧ Aside0 (kq ≤ kj17) ∧ Aside0 (Kd.R k46 46 wc w.heap.size (fun _ => True) v269 t268) ∧ Aside0 (Kd.R k98 98 wc w.heap.size (fun _ => True) u265000 x265000_40) ∧ Aside0 (wc.heap[gb263]? = some (.cells #[.int .i64 t267] 23 (0, 0))) ∧ Aside0 (wc.heap[gb264]? = some (.cells #[u265000] 57 (0, 0))) ∧ Aside0 (wc.heap[gb266]? = some (.cells #[.int .i64 ((rd_T25 l0 x30_1).f0), .int .i64 ((rd_T25 l0 x30_1).f1), .int .u8 ((rd_T25 l0 x30_1).f2)] 25 (0, 0))) ∧ Aside0 (wc.heap[gb272]? = some (.cells #[.int .i64 t267] 23 (0, 0))) ∧ Aside0 (Below w.heap.size w wc))
                      case first =>
                        have H := HC41.out
                        clear HC41
                        by_cases c42 : x51_17 = true
                        · subst c42
                          have H1 : ((timers_Next.f x265000_1).bind fun bt273 => ((timers_Expire.f x265000_1 bt273.1).bind fun bt275 => (if bt273.2 = true then (if bt275.2.2 = 0 then (if (bt275.2.1.length : Int) = 1 then (crossbarlaw17_TerminateTimerQueue.j2 kj17 a1 t268 l0 (l0.length : Int) x30_1 t267 bt275.1 t267) else (none)) else (none)) else (none)))) = some r := by rw [if_pos rfl] at H; exact H
                          clear H
                          have H := H1
                          clear H1
                          replace H := Option.bind_eq_some_iff.mp H
                          obtain ⟨⟨t273, t274⟩, A430, H⟩ := H
                          replace H : ((timers_Expire.f x265000_1 t273).bind fun bt275 => (if t274 = true then (if bt275.2.2 = 0 then (if (bt275.2.1.length : Int) = 1 then (crossbarlaw17_TerminateTimerQueue.j2 kj17 a1 t268 l0 (l0.length : Int) x30_1 t267 bt275.1 t267) else (none)) else (none)) else (none))) = some r := H
                          have A43 := Aside0.mk A430
                          clear A430
                          replace H := Option.bind_eq_some_iff.mp H
                          obtain ⟨⟨t275, t278, t281⟩, A440, H⟩ := H
                          replace H : (if t274 = true then (if t281 = 0 then (if (t278.length : Int) = 1 then (crossbarlaw17_TerminateTimerQueue.j2 kj17 a1 t268 l0 (l0.length : Int) x30_1 t267 t275 t267) else (none)) else (none)) else (none)) = some r := H
                          have A44 := Aside0.mk A440
                          clear A440
                          by_cases c45 : t274 = true
                          · subst c45
                            have H1 : (if t281 = 0 then (if (t278.length : Int) = 1 then (crossbarlaw17_TerminateTimerQueue.j2 kj17 a1 t268 l0 (l0.length : Int) x30_1 t267 t275 t267) else (none)) else (none)) = some r := by rw [if_pos rfl] at H; exact H
                            clear H
                            have H := H1
                            clear H1
                            by_cases c46 : t281 = 0
                            · rw [if_pos c46] at H
                              have c46b0 : (t281 == 0) = true := beq_iff_eq.mpr c46
                              have c46b1 : (t281 != 0) = false := bne_eq_false_iff_eq.mpr c46
                              clear c46
                              (first | rw [c46b0] | (simp only [i64_w, i32_w]; rw [c46b0]) | skip)
                              by_cases c47 : (t278.length : Int) = 1
                              · rw [if_pos c47] at H
                                have c47b0 : ((t278.length : Int) == 1) = true := beq_iff_eq.mpr c47
                                have c47b1 : ((t278.length : Int) != 1) = false := bne_eq_false_iff_eq.mpr c47
                                clear c47
                                have H' := Aside0.mk H
                                clear H
                                have hnb48 := NB264_263.out
                                have hnc48 := NB263_264.out
                                have hnb49 := NB264_266.out
                                have hnc49 := NB266_264.out
                                have hnb50 := NB264_272.out
                                have hnc50 := NB272_264.out
                                have hcz51_0 : wc.cell? ⟨gb264, 0, none⟩ = some (u265000) := (blk_cell BK264.out 0).trans rfl
                                have hfz51_0 := blk_frozen BK264.out 0
                                obtain ⟨Ao52, co52, eo52⟩ := Kd.R_slice HO_265000.out
                                subst eo52
                                go_wp2_with (first | ((with_reducible refine gate_callee (f := 24) rfl ?_); refine goesL_ (some 54) rfl rfl Tryd.func24 (by kernel_rfl) rfl #[.agg #[.slice Ao52 x265000_1.length co52]] rfl (by (try simp only [List.map_toArray, List.map_cons, List.map_nil]); first | done | rfl | (simp only [List.length_drop, List.length_take]; rfl)) ?_; (refine tabbed (w := w) HT.out (by repeat (first | (with_reducible first | exact HB.out | apply below_alloc | apply pw_below_drewN | apply below_drew1 | refine below_set ?_ GE263.out | refine below_set ?_ GE264.out | refine below_set ?_ GE266.out | refine below_set ?_ GE272.out) | exact HB.out)) ?_); intro hT_; (with_reducible refine (timers_Next.calls _ _ x265000_1 t273 true _ ?side1 ?side2 A43.out hT_).mono ?_); clear hT_; (case side1 => repeat (first | exact (Kd.R_reads' HO_265000.out).2.2 | (with_reducible refine Kd.C_alloc ?_ _) | (with_reducible refine Kd.C_drewN ?_ _) | (with_reducible refine Kd.C_drew ?_))); (case side2 => exact (Kd.R_reads' HO_265000.out).2.1); rintro e w53 ⟨rfl, hb⟩; refine ⟨_, rfl, ?_⟩; have n0_ := Aside0.mk (Kd.R_below (by (with_reducible repeat (first | apply Kd.R_alloc | apply Kd.R_drewN | apply Kd.R_drew)); exact HO_10.out) hb); have n1_ := Aside0.mk (Kd.R_below (by (with_reducible repeat (first | apply Kd.R_alloc | apply Kd.R_drewN | apply Kd.R_drew)); exact HO_265000.out) hb); have n2_ := Aside0.mk (blk_below (g := gb263) (o := .cells #[.int .i64 t267] 23 (0, 0)) (by (with_reducible repeat (first | refine blk_drewN ?_ _ | refine blk_drew ?_ | refine blk_alloc ?_ _)); exact BK263.out) hb); have n3_ := Aside0.mk (blk_below (g := gb264) (o := .cells #[.slice Ao52 x265000_1.length co52] 57 (0, 0)) (by (with_reducible repeat (first | refine blk_drewN ?_ _ | refine blk_drew ?_ | refine blk_alloc ?_ _)); exact BK264.out) hb); have n4_ := Aside0.mk (blk_below (g := gb266) (o := .cells #[.int .i64 ((rd_T25 l0 x30_1).f0), .int .i64 ((rd_T25 l0 x30_1).f1), .int .u8 ((rd_T25 l0 x30_1).f2)] 25 (0, 0)) (by (with_reducible repeat (first | refine blk_drewN ?_ _ | refine blk_drew ?_ | refine blk_alloc ?_ _)); exact BK266.out) hb); have n5_ := Aside0.mk (blk_below (g := gb272) (o := .cells #[.int .i64 t267] 23 (0, 0)) (by (with_reducible repeat (first | refine blk_drewN ?_ _ | refine blk_drew ?_ | refine blk_alloc ?_ _)); exact BK272.out) hb); have n6_ := Aside0.mk (below_step (by repeat (first | (with_reducible first | exact HB.out | apply below_alloc | apply pw_below_drewN | apply below_drew1 | refine below_set ?_ GE263.out | refine below_set ?_ GE264.out | refine below_set ?_ GE266.out | refine below_set ?_ GE272.out) | exact HB.out)) hb); clear HO_10; clear HO_265000; clear BK263; clear BK264; clear BK266; clear BK272; clear HB; have HO_10 := n0_; have HO_265000 := n1_; have BK263 := n2_; have BK264 := n3_; have BK266 := n4_; have BK272 := n5_; have HB := n6_; clear n0_ n1_ n2_ n3_ n4_ n5_ n6_; (try clear hb); (try clear hb2); (try clear hk); (try clear hi); have hcz54_0 : w53.cell? ⟨gb264, 0, none⟩ = some (.slice Ao52 x265000_1.length co52) := (blk_cell BK264.out 0).trans rfl; have hfz54_0 := blk_frozen BK264.out 0) | ((with_reducible refine gate_callee (f := 25) rfl ?_); refine goesL_ (some 60) rfl rfl Tryd.func25 (by kernel_rfl) rfl #[.agg #[.slice Ao52 x265000_1.length co52], .int .i64 t273] rfl (by (try simp only [List.map_toArray, List.map_cons, List.map_nil]); first | done | rfl | (simp only [List.length_drop, List.length_take]; rfl)) ?_; (refine tabbed (w := w) HT.out (by repeat (first | (with_reducible first | exact HB.out | apply below_alloc | apply pw_below_drewN | apply below_drew1 | refine below_set ?_ GE263.out | refine below_set ?_ GE264.out | refine below_set ?_ GE266.out | refine below_set ?_ GE272.out) | exact HB.out)) ?_); intro hT_; (with_reducible refine (timers_Expire.calls _ _ x265000_1 t273 t275 t278 t281 _ ?side1 ?side2 A44.out hT_).mono ?_); clear hT_; (case side1 => repeat (first | exact (Kd.R_reads' HO_265000.out).2.2 | (with_reducible refine Kd.C_alloc ?_ _) | (with_reducible refine Kd.C_drewN ?_ _) | (with_reducible refine Kd.C_drew ?_))); (case side2 => exact (Kd.R_reads' HO_265000.out).2.1); rintro e w55 ⟨v276, v279, rfl, ho0, ho1, hb⟩; refine ⟨_, rfl, ?_⟩; have n0_ := Aside0.mk (Kd.R_below (by (with_reducible repeat (first | apply Kd.R_alloc | apply Kd.R_drewN | apply Kd.R_drew)); exact HO_10.out) hb); have n1_ := Aside0.mk (Kd.R_elder' (by (with_reducible repeat (first | apply Kd.R_alloc | apply Kd.R_drewN | apply Kd.R_drew)); exact HO_265000.out) (Kd.R_base ho0) hb); have n2_ := Aside0.mk (Kd.R_lower (Kd.R_new' ho0 (Kd.R_lt (by (with_reducible repeat (first | apply Kd.R_alloc | apply Kd.R_drewN | apply Kd.R_drew)); exact HO_265000.out))) (below_size (by repeat (first | (with_reducible first | exact HB.out | apply below_alloc | apply pw_below_drewN | apply below_drew1 | refine below_set ?_ GE263.out | refine below_set ?_ GE264.out | refine below_set ?_ GE266.out | refine below_set ?_ GE272.out) | exact HB.out)))); have n3_ := Aside0.mk (Kd.R_lower ho1 (below_size (by repeat (first | (with_reducible first | exact HB.out | apply below_alloc | apply pw_below_drewN | apply below_drew1 | refine below_set ?_ GE263.out | refine below_set ?_ GE264.out | refine below_set ?_ GE266.out | refine below_set ?_ GE272.out) | exact HB.out)))); have n4_ := Aside0.mk (blk_below (g := gb263) (o := .cells #[.int .i64 t267] 23 (0, 0)) (by (with_reducible repeat (first | refine blk_drewN ?_ _ | refine blk_drew ?_ | refine blk_alloc ?_ _)); exact BK263.out) hb); have n5_ := Aside0.mk (blk_below (g := gb264) (o := .cells #[.slice Ao52 x265000_1.length co52] 57 (0, 0)) (by (with_reducible repeat (first | refine blk_drewN ?_ _ | refine blk_drew ?_ | refine blk_alloc ?_ _)); exact BK264.out) hb); have n6_ := Aside0.mk (blk_below (g := gb266) (o := .cells #[.int .i64 ((rd_T25 l0 x30_1).f0), .int .i64 ((rd_T25 l0 x30_1).f1), .int .u8 ((rd_T25 l0 x30_1).f2)] 25 (0, 0)) (by (with_reducible repeat (first | refine blk_drewN ?_ _ | refine blk_drew ?_ | refine blk_alloc ?_ _)); exact BK266.out) hb); have n7_ := Aside0.mk (blk_below (g := gb272) (o := .cells #[.int .i64 t267] 23 (0, 0)) (by (with_reducible repeat (first | refine blk_drewN ?_ _ | refine blk_drew ?_ | refine blk_alloc ?_ _)); exact BK272.out) hb); have n8_ := Aside0.mk (below_step (by repeat (first | (with_reducible first | exact HB.out | apply below_alloc | apply pw_below_drewN | apply below_drew1 | refine below_set ?_ GE263.out | refine below_set ?_ GE264.out | refine below_set ?_ GE266.out | refine below_set ?_ GE272.out) | exact HB.out)) hb); clear HO_10; clear HO_265000; clear BK263; clear BK264; clear BK266; clear BK272; clear HB; have HO_10 := n0_; have HO_265000 := n1_; have HO277 := n2_; have HO280 := n3_; have BK263 := n4_; have BK264 := n5_; have BK266 := n6_; have BK272 := n7_; have HB := n8_; clear n0_ n1_ n2_ n3_ n4_ n5_ n6_ n7_ n8_; (try clear hb); (try clear hb2); (try clear hk); (try clear hi); (try clear ho0); (try clear ho1)) | ((with_reducible refine gate_dst (N := 14) rfl ?_); (try (refine gate_guard (by rfl) ?_; dsimp only)); refine box_event ?hg (N := 14) ?hd (cs := #[.slice none 0 0]) (t := 57) ?hr ?_; (case hd => rfl); (case hg => rfl); (case hr => first | (go_simp; done) | (go_simp; rfl)); intro gb282 hg w56 hbox hb; have n0_ := Aside0.mk (Kd.R_below (by (with_reducible repeat (first | apply Kd.R_alloc | apply Kd.R_drewN | apply Kd.R_drew)); exact HO_10.out) hb); have n1_ := Aside0.mk (Kd.R_below (by (with_reducible repeat (first | apply Kd.R_alloc | apply Kd.R_drewN | apply Kd.R_drew)); exact HO_265000.out) hb); have n2_ := Aside0.mk (Kd.R_below (by (with_reducible repeat (first | apply Kd.R_alloc | apply Kd.R_drewN | apply Kd.R_drew)); exact HO277.out) hb); have n3_ := Aside0.mk (Kd.R_below (by (with_reducible repeat (first | apply Kd.R_alloc | apply Kd.R_drewN | apply Kd.R_drew)); exact HO280.out) hb); have n4_ := Aside0.mk (blk_below (g := gb263) (o := .cells #[.int .i64 t267] 23 (0, 0)) (by (with_reducible repeat (first | refine blk_drewN ?_ _ | refine blk_drew ?_ | refine blk_alloc ?_ _)); exact BK263.out) hb); have n5_ := Aside0.mk (blk_below (g := gb264) (o := .cells #[.slice Ao52 x265000_1.length co52] 57 (0, 0)) (by (with_reducible repeat (first | refine blk_drewN ?_ _ | refine blk_drew ?_ | refine blk_alloc ?_ _)); exact BK264.out) hb); have n6_ := Aside0.mk (blk_below (g := gb266) (o := .cells #[.int .i64 ((rd_T25 l0 x30_1).f0), .int .i64 ((rd_T25 l0 x30_1).f1), .int .u8 ((rd_T25 l0 x30_1).f2)] 25 (0, 0)) (by (with_reducible repeat (first | refine blk_drewN ?_ _ | refine blk_drew ?_ | refine blk_alloc ?_ _)); exact BK266.out) hb); have n7_ := Aside0.mk (blk_below (g := gb272) (o := .cells #[.int .i64 t267] 23 (0, 0)) (by (with_reducible repeat (first | refine blk_drewN ?_ _ | refine blk_drew ?_ | refine blk_alloc ?_ _)); exact BK272.out) hb); have n8_ := Aside0.mk (below_step (by repeat (first | (with_reducible first | exact HB.out | apply below_alloc | apply pw_below_drewN | apply below_drew1 | refine below_set ?_ GE263.out | refine below_set ?_ GE264.out | refine below_set ?_ GE266.out | refine below_set ?_ GE272.out) | exact HB.out)) hb); have n9_ := Aside0.mk (hbox); have n10_ := Aside0.mk ((by rw [hg]; exact (below_size (by repeat (first | (with_reducible first | exact HB.out | apply below_alloc | apply pw_below_drewN | apply below_drew1 | refine below_set ?_ GE263.out | refine below_set ?_ GE264.out | refine below_set ?_ GE266.out | refine below_set ?_ GE272.out) | exact HB.out))) : w.heap.size ≤ gb282)); have n11_ := Aside0.mk ((by rw [hg]; exact (below_size (by repeat (first | (with_reducible first | exact HB.out | apply below_alloc | apply pw_below_drewN | apply below_drew1 | refine below_set ?_ GE263.out | refine below_set ?_ GE264.out | refine below_set ?_ GE266.out | refine below_set ?_ GE272.out) | exact HB.out))) : w.heap.size ≤ gb282)); have n12_ := Aside0.mk ((by rw [hg]; exact Nat.ne_of_lt (blk_lt (g := gb263) (o := .cells #[.int .i64 t267] 23 (0, 0)) (by (with_reducible repeat (first | refine blk_drewN ?_ _ | refine blk_drew ?_ | refine blk_alloc ?_ _)); exact BK263.out)) : gb263 ≠ gb282)); have n13_ := Aside0.mk ((by rw [hg]; exact Nat.ne_of_gt (blk_lt (g := gb263) (o := .cells #[.int .i64 t267] 23 (0, 0)) (by (with_reducible repeat (first | refine blk_drewN ?_ _ | refine blk_drew ?_ | refine blk_alloc ?_ _)); exact BK263.out)) : gb282 ≠ gb263)); have n14_ := Aside0.mk ((by rw [hg]; exact Nat.ne_of_lt (blk_lt (g := gb264) (o := .cells #[.slice Ao52 x265000_1.length co52] 57 (0, 0)) (by (with_reducible repeat (first | refine blk_drewN ?_ _ | refine blk_drew ?_ | refine blk_alloc ?_ _)); exact BK264.out)) : gb264 ≠ gb282)); have n15_ := Aside0.mk ((by rw [hg]; exact Nat.ne_of_gt (blk_lt (g := gb264) (o := .cells #[.slice Ao52 x265000_1.length co52] 57 (0, 0)) (by (with_reducible repeat (first | refine blk_drewN ?_ _ | refine blk_drew ?_ | refine blk_alloc ?_ _)); exact BK264.out)) : gb282 ≠ gb264)); have n16_ := Aside0.mk ((by rw [hg]; exact Nat.ne_of_lt (blk_lt (g := gb266) (o := .cells #[.int .i64 ((rd_T25 l0 x30_1).f0), .int .i64 ((rd_T25 l0 x30_1).f1), .int .u8 ((rd_T25 l0 x30_1).f2)] 25 (0, 0)) (by (with_reducible repeat (first | refine blk_drewN ?_ _ | refine blk_drew ?_ | refine blk_alloc ?_ _)); exact BK266.out)) : gb266 ≠ gb282)); have n17_ := Aside0.mk ((by rw [hg]; exact Nat.ne_of_gt (blk_lt (g := gb266) (o := .cells #[.int .i64 ((rd_T25 l0 x30_1).f0), .int .i64 ((rd_T25 l0 x30_1).f1), .int .u8 ((rd_T25 l0 x30_1).f2)] 25 (0, 0)) (by (with_reducible repeat (first | refine blk_drewN ?_ _ | refine blk_drew ?_ | refine blk_alloc ?_ _)); exact BK266.out)) : gb282 ≠ gb266)); have n18_ := Aside0.mk ((by rw [hg]; exact Nat.ne_of_lt (blk_lt (g := gb272) (o := .cells #[.int .i64 t267] 23 (0, 0)) (by (with_reducible repeat (first | refine blk_drewN ?_ _ | refine blk_drew ?_ | refine blk_alloc ?_ _)); exact BK272.out)) : gb272 ≠ gb282)); have n19_ := Aside0.mk ((by rw [hg]; exact Nat.ne_of_gt (blk_lt (g := gb272) (o := .cells #[.int .i64 t267] 23 (0, 0)) (by (with_reducible repeat (first | refine blk_drewN ?_ _ | refine blk_drew ?_ | refine blk_alloc ?_ _)); exact BK272.out)) : gb282 ≠ gb272)); clear HO_10; clear HO_265000; clear HO277; clear HO280; clear BK263; clear BK264; clear BK266; clear BK272; clear HB; have HO_10 := n0_; have HO_265000 := n1_; have HO277 := n2_; have HO280 := n3_; have BK263 := n4_; have BK264 := n5_; have BK266 := n6_; have BK272 := n7_; have HB := n8_; have BK282 := n9_; have GW282 := n10_; have GE282 := n11_; have NB263_282 := n12_; have NB282_263 := n13_; have NB264_282 := n14_; have NB282_264 := n15_; have NB266_282 := n16_; have NB282_266 := n17_; have NB272_282 := n18_; have NB282_272 := n19_; clear n0_ n1_ n2_ n3_ n4_ n5_ n6_ n7_ n8_ n9_ n10_ n11_ n12_ n13_ n14_ n15_ n16_ n17_ n18_ n19_; clear hb hbox hg; obtain ⟨Ao57, co57, eo57⟩ := Kd.R_slice HO277.out; subst eo57; have hnb58 := NB282_263.out; have hnc58 := NB263_282.out; have hnb59 := NB282_264.out; have hnc59 := NB264_282.out; have hnb60 := NB282_266.out; have hnc60 := NB266_282.out; have hnb61 := NB282_272.out; have hnc61 := NB272_282.out; have hcz62_0 : w56.cell? ⟨gb282, 0, none⟩ = some (.slice none 0 0) := (blk_cell BK282.out 0).trans rfl; have hfz62_0 := blk_frozen BK282.out 0; obtain ⟨Ao63, co63, eo63⟩ := Kd.R_slice HO280.out; subst eo63; have hcz64_0 : w56.cell? ⟨gb264, 0, none⟩ = some (.slice Ao52 x265000_1.length co52) := (blk_cell BK264.out 0).trans rfl; have hfz64_0 := blk_frozen BK264.out 0))
                                go_meet
                                case rel => exact ⟨_, (t275), (.slice Ao57 t275.length co57), H', ⟨by have := HK1.out; have := HJ17.out; first | omega | exact Nat.le_refl _⟩, ⟨by (with_reducible repeat (first | apply Kd.R_alloc | apply Kd.R_drewN | apply Kd.R_drew)); exact Kd.R_mono (Kd.R_far (p := ⟨gb264, 0, none⟩) (Kd.R_far (p := ⟨gb282, 0, none⟩) (Kd.R_types (Kd.R_types HO_10.out BK282.out (by decide)) BK264.out (by decide)) (fun _ hk => hk.1.2) (.slice Ao57 t275.length co57)) (fun _ hk => hk.2) (.slice Ao57 t275.length co57)) (fun _ hk => trivial)⟩, ⟨by (with_reducible repeat (first | apply Kd.R_alloc | apply Kd.R_drewN | apply Kd.R_drew)); exact Kd.R_mono (Kd.R_far (p := ⟨gb264, 0, none⟩) (Kd.R_far (p := ⟨gb282, 0, none⟩) (Kd.R_types (Kd.R_types HO277.out BK282.out (by decide)) BK264.out (by decide)) (fun _ hk => hk.1.2) (.slice Ao57 t275.length co57)) (fun _ hk => hk.2) (.slice Ao57 t275.length co57)) (fun _ hk => trivial)⟩, ⟨by (with_reducible repeat (first | refine blk_drewN ?_ _ | refine blk_drew ?_ | refine blk_alloc ?_ _)); refine blk_far ?_ NB263_264.out _; (with_reducible repeat (first | refine blk_drewN ?_ _ | refine blk_drew ?_ | refine blk_alloc ?_ _)); refine blk_far ?_ NB263_282.out _; (with_reducible repeat (first | refine blk_drewN ?_ _ | refine blk_drew ?_ | refine blk_alloc ?_ _)); exact BK263.out⟩, ⟨by (with_reducible repeat (first | refine blk_drewN ?_ _ | refine blk_drew ?_ | refine blk_alloc ?_ _)); refine blk_put (cs := #[.slice Ao52 x265000_1.length co52]) ?_ 0 _ rfl; (with_reducible repeat (first | refine blk_drewN ?_ _ | refine blk_drew ?_ | refine blk_alloc ?_ _)); refine blk_far ?_ NB264_282.out _; (with_reducible repeat (first | refine blk_drewN ?_ _ | refine blk_drew ?_ | refine blk_alloc ?_ _)); exact BK264.out⟩, ⟨by (with_reducible repeat (first | refine blk_drewN ?_ _ | refine blk_drew ?_ | refine blk_alloc ?_ _)); refine blk_far ?_ NB266_264.out _; (with_reducible repeat (first | refine blk_drewN ?_ _ | refine blk_drew ?_ | refine blk_alloc ?_ _)); refine blk_far ?_ NB266_282.out _; (with_reducible repeat (first | refine blk_drewN ?_ _ | refine blk_drew ?_ | refine blk_alloc ?_ _)); exact BK266.out⟩, ⟨by (with_reducible repeat (first | refine blk_drewN ?_ _ | refine blk_drew ?_ | refine blk_alloc ?_ _)); refine blk_far ?_ NB272_264.out _; (with_reducible repeat (first | refine blk_drewN ?_ _ | refine blk_drew ?_ | refine blk_alloc ?_ _)); refine blk_far ?_ NB272_282.out _; (with_reducible repeat (first | refine blk_drewN ?_ _ | refine blk_drew ?_ | refine blk_alloc ?_ _)); exact BK272.out⟩, ⟨by repeat (first | (with_reducible first | exact HB.out | apply below_alloc | apply pw_below_drewN | apply below_drew1 | refine below_set ?_ GE263.out | refine below_set ?_ GE264.out | refine below_set ?_ GE266.out | refine below_set ?_ GE272.out | refine below_set ?_ GE282.out) | exact HB.out)⟩⟩
                              · rw [if_neg c47] at H
                                exact absurd H (by simp)
                            · rw [if_neg c46] at H
                              exact absurd H (by simp)
                          · replace c45 := Bool.eq_false_iff.mpr c45
                            subst c45
                            have H1 : (none) = some r := by rw [if_neg (show ¬ (false = true) by decide)] at H; exact H
                            clear H
                            have H := H1
                            clear H1
                            exact absurd H (by simp)
                        · replace c42 := Bool.eq_false_iff.mpr c42
                          subst c42
                          have H1 : (crossbarlaw17_TerminateTimerQueue.j2 kj17 a1 t268 l0 (l0.length : Int) x30_1 t267 x265000_1 t267) = some r := by rw [if_neg (show ¬ (false = true) by decide)] at H; exact H
                          clear H
                          have H := H1
                          clear H1
                          have H' := Aside0.mk H
                          clear H
                          go_wp2
                          go_meet
                          case rel => exact ⟨_, (x265000_1), (u265000), H', ⟨by have := HK1.out; have := HJ17.out; first | omega | exact Nat.le_refl _⟩, ⟨by (with_reducible repeat (first | apply Kd.R_alloc | apply Kd.R_drewN | apply Kd.R_drew)); exact HO_10.out⟩, ⟨by (with_reducible repeat (first | apply Kd.R_alloc | apply Kd.R_drewN | apply Kd.R_drew)); exact HO_265000.out⟩, ⟨by (with_reducible repeat (first | refine blk_drewN ?_ _ | refine blk_drew ?_ | refine blk_alloc ?_ _)); exact BK263.out⟩, ⟨by (with_reducible repeat (first | refine blk_drewN ?_ _ | refine blk_drew ?_ | refine blk_alloc ?_ _)); exact BK264.out⟩, ⟨by (with_reducible repeat (first | refine blk_drewN ?_ _ | refine blk_drew ?_ | refine blk_alloc ?_ _)); exact BK266.out⟩, ⟨by (with_reducible repeat (first | refine blk_drewN ?_ _ | refine blk_drew ?_ | refine blk_alloc ?_ _)); exact BK272.out⟩, ⟨by repeat (first | (with_reducible first | exact HB.out | apply below_alloc | apply pw_below_drewN | apply below_drew1 | refine below_set ?_ GE263.out | refine below_set ?_ GE264.out | refine below_set ?_ GE266.out | refine below_set ?_ GE272.out) | exact HB.out)⟩⟩
                      case rest =>
                        clear HC41
                        try clear c1
                        try clear c2
                        try clear p2
                        try clear q2
                        try clear hx2
                        try clear c3
                        try clear c4
                        try clear c5
                        try clear c5b0
                        try clear c5b1
                        try clear c6
                        try clear p6
                        try clear c10
                        try clear c11
                        try clear c12
                        try clear c13
                        try clear c13b0
                        try clear c14
                        try clear c14b0
                        try clear c15
                        try clear c15b0
                        try clear c17
                        try clear c17b0
                        try clear c17b1
                        try clear c20
                        try clear c21
                        try clear c23
                        try clear c24
                        try clear c25
                        try clear p26
                        try clear q26
                        try clear hx26
                        try clear c27
                        try clear c28
                        try clear c29
                        try clear c32
                        try clear c32b0
                        try clear c32b1
                        try clear c33
                        try clear c34
                        try clear c35
                        try clear c37
                        try clear c38
                        try clear c39
                        try clear c42
                        try clear c45
                        try clear c46
                        try clear c46b0
                        try clear c46b1
                        try clear c47
                        try clear c47b0
                        try clear c47b1
                        try clear c48
                        try clear c49
                        try clear c50
                        try clear c58
                        try clear c59
                        try clear c60
                        try clear c61
                        try clear p64
                        try clear hcz12_0
                        try clear hcz22_0
                        try clear hcz22_1
                        try clear hcz22_2
                        try clear hcz24_0
                        try clear hcz30_0
                        try clear hcz31_0
                        try clear hcz36_0
                        try clear hcz36_1
                        try clear hcz36_2
                        try clear hcz40_0
                        try clear hcz40_1
                        try clear hcz40_2
                        try clear hcz51_0
                        try clear hcz54_0
                        try clear hcz62_0
                        try clear hcz64_0
                        try clear hcz9_0
                        try clear hfz12_0
                        try clear hfz22_0
                        try clear hfz22_1
                        try clear hfz22_2
                        try clear hfz24_0
                        try clear hfz30_0
                        try clear hfz31_0
                        try clear hfz36_0
                        try clear hfz36_1
                        try clear hfz36_2
                        try clear hfz40_0
                        try clear hfz40_1
                        try clear hfz40_2
                        try clear hfz51_0
                        try clear hfz54_0
                        try clear hfz62_0
                        try clear hfz64_0
                        try clear hfz9_0
                        try clear hx265_0
                        try clear hx265_1
                        try clear hx265_2
                        try clear p2
                        try clear p26
                        try clear p265
                        try clear p6
                        try clear q2
                        try clear q26
                        try clear q265
                        obtain ⟨kq, x265000_40, u265000, HA, HJ40, HO_10, HO_265000, BK263, BK264, BK266, BK272, HB⟩ := hcut
                        cases kq with
                        | zero => exact absurd HA.out (by simp [crossbarlaw17_TerminateTimerQueue.j2])
                        | succ kj40 =>
                          have H := HA.out
                          clear HA
                          simp only [crossbarlaw17_TerminateTimerQueue.j2] at H
                          have H' := Aside0.mk H
                          clear H
                          obtain ⟨Ao65, co65, eo65⟩ := Kd.R_slice HO_10.out
                          subst eo65
                          go_wp2
                          go_loopg [78] kj40 (fun kq v78 w' => ∃ (x78_4 : Int) (x265000_4 : List (S98)) (u265000 : Value), v78 = .int .i64 x78_4 ∧ Aside0 (crossbarlaw17_TerminateTimerQueue.l1 kq a1 l0 (l0.length : Int) x30_1 t268 (t268.length : Int) x78_4 t267 x265000_4 t267 = some r) ∧ Aside0 (kq ≤ kj40) ∧ Aside0 (Kd.R k46 46 w' w.heap.size (fun _ => True) (.slice Ao65 t268.length co65) t268) ∧ Aside0 (Kd.R k98 98 w' w.heap.size (fun _ => True) u265000 x265000_4) ∧ Aside0 (w'.heap[gb263]? = some (.cells #[.int .i64 t267] 23 (0, 0))) ∧ Aside0 (w'.heap[gb264]? = some (.cells #[u265000] 57 (0, 0))) ∧ Aside0 (w'.heap[gb266]? = some (.cells #[.int .i64 ((rd_T25 l0 x30_1).f0), .int .i64 ((rd_T25 l0 x30_1).f1), .int .u8 ((rd_T25 l0 x30_1).f2)] 25 (0, 0))) ∧ Aside0 (w'.heap[gb272]? = some (.cells #[.int .i64 t267] 23 (0, 0))) ∧ Aside0 (Below w.heap.size w w'))
                          case atStart => exact ⟨(0), (x265000_40), (u265000), (by first | rfl | (simp; done) | (simp [*]; done)), H', ⟨Nat.le_refl _⟩, ⟨by (with_reducible repeat (first | apply Kd.R_alloc | apply Kd.R_drewN | apply Kd.R_drew)); exact HO_10.out⟩, ⟨by (with_reducible repeat (first | apply Kd.R_alloc | apply Kd.R_drewN | apply Kd.R_drew)); exact HO_265000.out⟩, ⟨by (with_reducible repeat (first | refine blk_drewN ?_ _ | refine blk_drew ?_ | refine blk_alloc ?_ _)); exact BK263.out⟩, ⟨by (with_reducible repeat (first | refine blk_drewN ?_ _ | refine blk_drew ?_ | refine blk_alloc ?_ _)); exact BK264.out⟩, ⟨by (with_reducible repeat (first | refine blk_drewN ?_ _ | refine blk_drew ?_ | refine blk_alloc ?_ _)); exact BK266.out⟩, ⟨by (with_reducible repeat (first | refine blk_drewN ?_ _ | refine blk_drew ?_ | refine blk_alloc ?_ _)); exact BK272.out⟩, ⟨by repeat (first | (with_reducible first | exact HB.out | apply below_alloc | apply pw_below_drewN | apply below_drew1 | refine below_set ?_ GE263.out | refine below_set ?_ GE264.out | refine below_set ?_ GE266.out | refine below_set ?_ GE272.out) | exact HB.out)⟩⟩
                          case round =>
                            clear H'
                            try clear c1
                            try clear c2
                            try clear p2
                            try clear q2
                            try clear hx2
                            try clear c3
                            try clear c4
                            try clear c5
                            try clear c5b0
                            try clear c5b1
                            try clear c6
                            try clear p6
                            try clear c10
                            try clear c11
                            try clear c12
                            try clear c13
                            try clear c13b0
                            try clear c14
                            try clear c14b0
                            try clear c15
                            try clear c15b0
                            try clear c17
                            try clear c17b0
                            try clear c17b1
                            try clear c20
                            try clear c21
                            try clear c23
                            try clear c24
                            try clear c25
                            try clear p26
                            try clear q26
                            try clear hx26
                            try clear c27
                            try clear c28
                            try clear c29
                            try clear c32
                            try clear c32b0
                            try clear c32b1
                            try clear c33
                            try clear c34
                            try clear c35
                            try clear c37
                            try clear c38
                            try clear c39
                            try clear c42
                            try clear c45
                            try clear c46
                            try clear c46b0
                            try clear c46b1
                            try clear c47
                            try clear c47b0
                            try clear c47b1
                            try clear c48
                            try clear c49
                            try clear c50
                            try clear c58
                            try clear c59
                            try clear c60
                            try clear c61
                            try clear p64
                            try clear hcz12_0
                            try clear hcz22_0
                            try clear hcz22_1
                            try clear hcz22_2
                            try clear hcz24_0
                            try clear hcz30_0
                            try clear hcz31_0
                            try clear hcz36_0
                            try clear hcz36_1
                            try clear hcz36_2
                            try clear hcz40_0
                            try clear hcz40_1
                            try clear hcz40_2
                            try clear hcz51_0
                            try clear hcz54_0
                            try clear hcz62_0
                            try clear hcz64_0
                            try clear hcz9_0
                            try clear hfz12_0
                            try clear hfz22_0
                            try clear hfz22_1
                            try clear hfz22_2
                            try clear hfz24_0
                            try clear hfz30_0
                            try clear hfz31_0
                            try clear hfz36_0
                            try clear hfz36_1
                            try clear hfz36_2
                            try clear hfz40_0
                            try clear hfz40_1
                            try clear hfz40_2
                            try clear hfz51_0
                            try clear hfz54_0
                            try clear hfz62_0
                            try clear hfz64_0
                            try clear hfz9_0
                            try clear hx265_0
                            try clear hx265_1
                            try clear hx265_2
                            try clear p2
                            try clear p26
                            try clear p265
                            try clear p6
                            try clear p64
                            try clear q2
                            try clear q26
                            try clear q265
                            obtain ⟨x78_4, x265000_4, u265000, rfl, HA, HK4, HO_76, HO_265000, BK263, BK264, BK266, BK272, HB⟩ := hrel
                            cases gk with
                            | zero => exact absurd HA.out (by simp [crossbarlaw17_TerminateTimerQueue.l1])
                            | succ k4 =>
                              have H := HA.out
                              clear HA
                              simp only [crossbarlaw17_TerminateTimerQueue.l1] at H
                              by_cases c66 : x78_4 < (t268.length : Int)
                              · rw [if_pos c66] at H
                                have c66b0 : decide (x78_4 < (t268.length : Int)) = true := decide_eq_true c66
                                clear c66
                                by_cases c67 : 0 ≤ x78_4
                                · rw [if_pos c67] at H
                                  have c67b0 : decide (0 ≤ x78_4) = true := decide_eq_true c67
                                  clear c67
                                  by_cases c68 : x78_4 < (t268.length : Int)
                                  · rw [if_pos c68] at H
                                    have c68b0 : decide (x78_4 < (t268.length : Int)) = true := decide_eq_true c68
                                    clear c68
                                    have HC69 := Aside0.mk H
                                    clear H
                                    have p283 : 0 ≤ (x78_4 : Int) := of_decide_eq_true (by first | (with_reducible assumption) | assumption)
                                    have q283 : x78_4 < (t268.length : Int) := of_decide_eq_true (by first | (with_reducible assumption) | assumption)
                                    obtain ⟨ad283, e283, hx283_0, hx283_1, hx283_2, hx283_3⟩ := at_T46 (Kd.R_reads' HO_76.out).2.2 x78_4 p283 q283
                                    cases e283
                                    replace p283 := eq_true p283
                                    replace q283 := eq_true q283
                                    go_upto_if 84 with (first | ((with_reducible refine gate_dst (N := 18) rfl ?_); (try (refine gate_guard (by rfl) ?_; dsimp only)); refine box_event ?hg (N := 18) ?hd (cs := #[.int .i64 0, .int .i64 0, .string (⟨#[]⟩ : ByteArray), .int .i64 0]) (t := 46) ?hr ?_; (case hd => rfl); (case hg => rfl); (case hr => first | (go_simp; done) | (go_simp; rfl)); intro gb284 hg w70 hbox hb; have n0_ := Aside0.mk (Kd.R_below (Kd.R_elderB (by (with_reducible repeat (first | apply Kd.R_alloc | apply Kd.R_drewN | apply Kd.R_drew)); exact HO_76.out) gb284 (Nat.le_of_eq hg.symm)) hb); have n1_ := Aside0.mk (Kd.R_below (by (with_reducible repeat (first | apply Kd.R_alloc | apply Kd.R_drewN | apply Kd.R_drew)); exact HO_265000.out) hb); have n2_ := Aside0.mk (blk_below (g := gb263) (o := .cells #[.int .i64 t267] 23 (0, 0)) (by (with_reducible repeat (first | refine blk_drewN ?_ _ | refine blk_drew ?_ | refine blk_alloc ?_ _)); exact BK263.out) hb); have n3_ := Aside0.mk (blk_below (g := gb264) (o := .cells #[u265000] 57 (0, 0)) (by (with_reducible repeat (first | refine blk_drewN ?_ _ | refine blk_drew ?_ | refine blk_alloc ?_ _)); exact BK264.out) hb); have n4_ := Aside0.mk (blk_below (g := gb266) (o := .cells #[.int .i64 ((rd_T25 l0 x30_1).f0), .int .i64 ((rd_T25 l0 x30_1).f1), .int .u8 ((rd_T25 l0 x30_1).f2)] 25 (0, 0)) (by (with_reducible repeat (first | refine blk_drewN ?_ _ | refine blk_drew ?_ | refine blk_alloc ?_ _)); exact BK266.out) hb); have n5_ := Aside0.mk (blk_below (g := gb272) (o := .cells #[.int .i64 t267] 23 (0, 0)) (by (with_reducible repeat (first | refine blk_drewN ?_ _ | refine blk_drew ?_ | refine blk_alloc ?_ _)); exact BK272.out) hb); have n6_ := Aside0.mk (below_step (by repeat (first | (with_reducible first | exact HB.out | apply below_alloc | apply pw_below_drewN | apply below_drew1 | refine below_set ?_ GE263.out | refine below_set ?_ GE264.out | refine below_set ?_ GE266.out | refine below_set ?_ GE272.out) | exact HB.out)) hb); have n7_ := Aside0.mk (hbox); have n8_ := Aside0.mk ((by rw [hg]; exact (below_size (by repeat (first | (with_reducible first | exact HB.out | apply below_alloc | apply pw_below_drewN | apply below_drew1 | refine below_set ?_ GE263.out | refine below_set ?_ GE264.out | refine below_set ?_ GE266.out | refine below_set ?_ GE272.out) | exact HB.out))) : w.heap.size ≤ gb284)); have n9_ := Aside0.mk ((by rw [hg]; exact (below_size (by repeat (first | (with_reducible first | exact HB.out | apply below_alloc | apply pw_below_drewN | apply below_drew1 | refine below_set ?_ GE263.out | refine below_set ?_ GE264.out | refine below_set ?_ GE266.out | refine below_set ?_ GE272.out) | exact HB.out))) : w.heap.size ≤ gb284)); have n10_ := Aside0.mk ((by rw [hg]; exact Nat.ne_of_lt (blk_lt (g := gb263) (o := .cells #[.int .i64 t267] 23 (0, 0)) (by (with_reducible repeat (first | refine blk_drewN ?_ _ | refine blk_drew ?_ | refine blk_alloc ?_ _)); exact BK263.out)) : gb263 ≠ gb284)); have n11_ := Aside0.mk ((by rw [hg]; exact Nat.ne_of_gt (blk_lt (g := gb263) (o := .cells #[.int .i64 t267] 23 (0, 0)) (by (with_reducible repeat (first | refine blk_drewN ?_ _ | refine blk_drew ?_ | refine blk_alloc ?_ _)); exact BK263.out)) : gb284 ≠ gb263)); have n12_ := Aside0.mk ((by rw [hg]; exact Nat.ne_of_lt (blk_lt (g := gb264) (o := .cells #[u265000] 57 (0, 0)) (by (with_reducible repeat (first | refine blk_drewN ?_ _ | refine blk_drew ?_ | refine blk_alloc ?_ _)); exact BK264.out)) : gb264 ≠ gb284)); have n13_ := Aside0.mk ((by rw [hg]; exact Nat.ne_of_gt (blk_lt (g := gb264) (o := .cells #[u265000] 57 (0, 0)) (by (with_reducible repeat (first | refine blk_drewN ?_ _ | refine blk_drew ?_ | refine blk_alloc ?_ _)); exact BK264.out)) : gb284 ≠ gb264)); have n14_ := Aside0.mk ((by rw [hg]; exact Nat.ne_of_lt (blk_lt (g := gb266) (o := .cells #[.int .i64 ((rd_T25 l0 x30_1).f0), .int .i64 ((rd_T25 l0 x30_1).f1), .int .u8 ((rd_T25 l0 x30_1).f2)] 25 (0, 0)) (by (with_reducible repeat (first | refine blk_drewN ?_ _ | refine blk_drew ?_ | refine blk_alloc ?_ _)); exact BK266.out)) : gb266 ≠ gb284)); have n15_ := Aside0.mk ((by rw [hg]; exact Nat.ne_of_gt (blk_lt (g := gb266) (o := .cells #[.int .i64 ((rd_T25 l0 x30_1).f0), .int .i64 ((rd_T25 l0 x30_1).f1), .int .u8 ((rd_T25 l0 x30_1).f2)] 25 (0, 0)) (by (with_reducible repeat (first | refine blk_drewN ?_ _ | refine blk_drew ?_ | refine blk_alloc ?_ _)); exact BK266.out)) : gb284 ≠ gb266)); have n16_ := Aside0.mk ((by rw [hg]; exact Nat.ne_of_lt (blk_lt (g := gb272) (o := .cells #[.int .i64 t267] 23 (0, 0)) (by (with_reducible repeat (first | refine blk_drewN ?_ _ | refine blk_drew ?_ | refine blk_alloc ?_ _)); exact BK272.out)) : gb272 ≠ gb284)); have n17_ := Aside0.mk ((by rw [hg]; exact Nat.ne_of_gt (blk_lt (g := gb272) (o := .cells #[.int .i64 t267] 23 (0, 0)) (by (with_reducible repeat (first | refine blk_drewN ?_ _ | refine blk_drew ?_ | refine blk_alloc ?_ _)); exact BK272.out)) : gb284 ≠ gb272)); clear HO_76; clear HO_265000; clear BK263; clear BK264; clear BK266; clear BK272; clear HB; have HO_76 := n0_; have HO_265000 := n1_; have BK263 := n2_; have BK264 := n3_; have BK266 := n4_; have BK272 := n5_; have HB := n6_; have BK284 := n7_; have GW284 := n8_; have GE284 := n9_; have NB263_284 := n10_; have NB284_263 := n11_; have NB264_284 := n12_; have NB284_264 := n13_; have NB266_284 := n14_; have NB284_266 := n15_; have NB272_284 := n16_; have NB284_272 := n17_; clear n0_ n1_ n2_ n3_ n4_ n5_ n6_ n7_ n8_ n9_ n10_ n11_ n12_ n13_ n14_ n15_ n16_ n17_; clear hb hbox hg; have hnb71 := NB284_263.out; have hnc71 := NB263_284.out; have hnb72 := NB284_264.out; have hnc72 := NB264_284.out; have hnb73 := NB284_266.out; have hnc73 := NB266_284.out; have hnb74 := NB284_272.out; have hnc74 := NB272_284.out; have hcz75_0 : w70.cell? ⟨gb284, 0, none⟩ = some (.int .i64 0) := (blk_cell BK284.out 0).trans rfl; have hcz75_1 : w70.cell? ⟨gb284, 1, none⟩ = some (.int .i64 0) := (blk_cell BK284.out 1).trans rfl; have hcz75_2 : w70.cell? ⟨gb284, 2, none⟩ = some (.string (⟨#[]⟩ : ByteArray)) := (blk_cell BK284.out 2).trans rfl; have hcz75_3 : w70.cell? ⟨gb284, 3, none⟩ = some (.int .i64 0) := (blk_cell BK284.out 3).trans rfl; have hfz75_0 := blk_frozen BK284.out 0; have hfz75_1 := blk_frozen BK284.out 1; have hfz75_2 := blk_frozen BK284.out 2; have hfz75_3 := blk_frozen BK284.out 3))
                                    (try simp only [Act.put, List.setIfInBounds_toArray, List.set_cons_zero, List.set_cons_succ])
                                    go_cut [19] (fun v19 wc => ∃ (kq : Nat) (x19_68 : Int) (x265000_68 : List (S98)) (u265000 : Value), v19 = .int .i64 x19_68 ∧ Aside0 (crossbarlaw17_TerminateTimerQueue.j4 kq a1 x19_68 l0 (l0.length : Int) x30_1 t268 (t268.length : Int) x78_4 t267 x265000_68 t267 ((rd_T46 t268 x78_4).f0) ((rd_T46 t268 x78_4).f1) ((rd_T46 t268 x78_4).f2) ((rd_T46 t268 x78_4).f3) = some r) ∧ Aside0 (kq ≤ k4) ∧ Aside0 (Kd.R k46 46 wc w.heap.size (fun k_ => k_ ≠ gb284) (.slice (some ad283) t268.length co65) t268) ∧ Aside0 (Kd.R k98 98 wc w.heap.size (fun _ => True) u265000 x265000_68) ∧ Aside0 (wc.heap[gb263]? = some (.cells #[.int .i64 t267] 23 (0, 0))) ∧ Aside0 (wc.heap[gb264]? = some (.cells #[u265000] 57 (0, 0))) ∧ Aside0 (wc.heap[gb266]? = some (.cells #[.int .i64 ((rd_T25 l0 x30_1).f0), .int .i64 ((rd_T25 l0 x30_1).f1), .int .u8 ((rd_T25 l0 x30_1).f2)] 25 (0, 0))) ∧ Aside0 (wc.heap[gb272]? = some (.cells #[.int .i64 t267] 23 (0, 0))) ∧ Aside0 (wc.heap[gb284]? = some (.cells #[.int .i64 ((rd_T46 t268 x78_4).f0), .int .i64 ((rd_T46 t268 x78_4).f1), .string ((rd_T46 t268 x78_4).f2), .int .i64 ((rd_T46 t268 x78_4).f3)] 46 (0, 0))) ∧ Aside0 (Below w.heap.size w wc))
                                    case first =>
                                      have H := HC69.out
                                      clear HC69
                                      by_cases c76 : ((rd_T46 t268 x78_4).f0) = 9
                                      · rw [if_pos c76] at H
                                        have c76b0 : (((rd_T46 t268 x78_4).f0) == 9) = true := beq_iff_eq.mpr c76
                                        have c76b1 : (((rd_T46 t268 x78_4).f0) != 9) = false := bne_eq_false_iff_eq.mpr c76
                                        clear c76
                                        (first | rw [c76b0] | (simp only [i64_w, i32_w]; rw [c76b0]) | skip)
                                        replace H := Option.bind_eq_some_iff.mp H
                                        obtain ⟨⟨t285, t288⟩, A770, H⟩ := H
                                        replace H : (crossbarlaw17_TerminateTimerQueue.j4 k4 a1 t288 l0 (l0.length : Int) x30_1 t268 (t268.length : Int) x78_4 t267 t285 t267 ((rd_T46 t268 x78_4).f0) ((rd_T46 t268 x78_4).f1) ((rd_T46 t268 x78_4).f2) ((rd_T46 t268 x78_4).f3)) = some r := H
                                        have A77 := Aside0.mk A770
                                        clear A770
                                        have H' := Aside0.mk H
                                        clear H
                                        have hnb78 := NB264_263.out
                                        have hnc78 := NB263_264.out
                                        have hnb79 := NB264_266.out
                                        have hnc79 := NB266_264.out
                                        have hnb80 := NB264_272.out
                                        have hnc80 := NB272_264.out
                                        have hnb81 := NB264_284.out
                                        have hnc81 := NB284_264.out
                                        have hcz82_0 : w70.cell? ⟨gb264, 0, none⟩ = some (u265000) := (blk_cell BK264.out 0).trans rfl
                                        have hfz82_0 := blk_frozen BK264.out 0
                                        have hnb83 := NB284_263.out
                                        have hnc83 := NB263_284.out
                                        have hnb84 := NB284_266.out
                                        have hnc84 := NB266_284.out
                                        have hnb85 := NB284_272.out
                                        have hnc85 := NB272_284.out
                                        have hcz86_0 : w70.cell? ⟨gb284, 0, none⟩ = some (.int .i64 0) := (blk_cell BK284.out 0).trans rfl
                                        have hcz86_1 : w70.cell? ⟨gb284, 1, none⟩ = some (.int .i64 0) := (blk_cell BK284.out 1).trans rfl
                                        have hcz86_2 : w70.cell? ⟨gb284, 2, none⟩ = some (.string (⟨#[]⟩ : ByteArray)) := (blk_cell BK284.out 2).trans rfl
                                        have hcz86_3 : w70.cell? ⟨gb284, 3, none⟩ = some (.int .i64 0) := (blk_cell BK284.out 3).trans rfl
                                        have hfz86_0 := blk_frozen BK284.out 0
                                        have hfz86_1 := blk_frozen BK284.out 1
                                        have hfz86_2 := blk_frozen BK284.out 2
                                        have hfz86_3 := blk_frozen BK284.out 3
                                        obtain ⟨Ao87, co87, eo87⟩ := Kd.R_slice HO_265000.out
                                        subst eo87
                                        go_wp2_with (first | ((with_reducible refine gate_callee (f := 26) rfl ?_); refine goesL_ (some 92) rfl rfl Tryd.func26 (by kernel_rfl) rfl #[.agg #[.slice Ao87 x265000_4.length co87], .int .i64 3, .int .i64 (wrap64 ((wrap64 (a1)) + ((rd_T46 t268 x78_4).f3)))] rfl (by (try simp only [List.map_toArray, List.map_cons, List.map_nil]); first | done | rfl | (simp only [List.length_drop, List.length_take]; rfl)) ?_; (refine tabbed (w := w) HT.out (by repeat (first | (with_reducible first | exact HB.out | apply below_alloc | apply pw_below_drewN | apply below_drew1 | refine below_set ?_ GE263.out | refine below_set ?_ GE264.out | refine below_set ?_ GE266.out | refine below_set ?_ GE272.out | refine below_set ?_ GE284.out) | exact HB.out)) ?_); intro hT_; (with_reducible refine (timers_Set.calls _ _ x265000_4 3 (wrap64 ((wrap64 (a1)) + ((rd_T46 t268 x78_4).f3))) t285 t288 _ ?side1 ?side2 A77.out hT_).mono ?_); clear hT_; (case side1 => refine (Kd.R_reads' (e := 98) (base := w.heap.size) (ok := fun k_ => True) (n := x265000_4.length) (c := co87) ?_).2.2; exact (by (with_reducible repeat (first | apply Kd.R_alloc | apply Kd.R_drewN | apply Kd.R_drew)); exact (Kd.R_mono (Kd.R_far (p := ⟨gb284, 3, none⟩) (Kd.R_far (p := ⟨gb284, 2, none⟩) (Kd.R_far (p := ⟨gb284, 1, none⟩) (Kd.R_far (p := ⟨gb284, 0, none⟩) (Kd.R_types HO_265000.out BK284.out (by decide)) (fun _ hk => hk.2) (.int .i64 ((rd_T46 t268 x78_4).f0))) (fun _ hk => hk.2) (.int .i64 ((rd_T46 t268 x78_4).f1))) (fun _ hk => hk.2) (.string ((rd_T46 t268 x78_4).f2))) (fun _ hk => hk.2) (.int .i64 ((rd_T46 t268 x78_4).f3))) (fun _ h_ => h_.1)))); (case side2 => exact (Kd.R_reads' HO_265000.out).2.1); rintro e w88 ⟨v286, rfl, ho0, hb⟩; refine ⟨_, rfl, ?_⟩; have n0_ := Aside0.mk (Kd.R_below (by (with_reducible repeat (first | apply Kd.R_alloc | apply Kd.R_drewN | apply Kd.R_drew)); exact (Kd.R_mono (Kd.R_far (p := ⟨gb284, 3, none⟩) (Kd.R_far (p := ⟨gb284, 2, none⟩) (Kd.R_far (p := ⟨gb284, 1, none⟩) (Kd.R_far (p := ⟨gb284, 0, none⟩) (Kd.R_mono HO_76.out (fun k_ hk => (⟨hk, hk.2⟩ : _ ∧ k_ ≠ gb284))) (fun _ hk => hk.2) (.int .i64 ((rd_T46 t268 x78_4).f0))) (fun _ hk => hk.2) (.int .i64 ((rd_T46 t268 x78_4).f1))) (fun _ hk => hk.2) (.string ((rd_T46 t268 x78_4).f2))) (fun _ hk => hk.2) (.int .i64 ((rd_T46 t268 x78_4).f3))) (fun _ h_ => h_.1))) hb); have n1_ := Aside0.mk (Kd.R_elder' (by (with_reducible repeat (first | apply Kd.R_alloc | apply Kd.R_drewN | apply Kd.R_drew)); exact (Kd.R_mono (Kd.R_far (p := ⟨gb284, 3, none⟩) (Kd.R_far (p := ⟨gb284, 2, none⟩) (Kd.R_far (p := ⟨gb284, 1, none⟩) (Kd.R_far (p := ⟨gb284, 0, none⟩) (Kd.R_types HO_265000.out BK284.out (by decide)) (fun _ hk => hk.2) (.int .i64 ((rd_T46 t268 x78_4).f0))) (fun _ hk => hk.2) (.int .i64 ((rd_T46 t268 x78_4).f1))) (fun _ hk => hk.2) (.string ((rd_T46 t268 x78_4).f2))) (fun _ hk => hk.2) (.int .i64 ((rd_T46 t268 x78_4).f3))) (fun _ h_ => h_.1))) (Kd.R_base ho0) hb); have n2_ := Aside0.mk (Kd.R_lower (Kd.R_new' ho0 (Kd.R_lt (by (with_reducible repeat (first | apply Kd.R_alloc | apply Kd.R_drewN | apply Kd.R_drew)); exact (Kd.R_mono (Kd.R_far (p := ⟨gb284, 3, none⟩) (Kd.R_far (p := ⟨gb284, 2, none⟩) (Kd.R_far (p := ⟨gb284, 1, none⟩) (Kd.R_far (p := ⟨gb284, 0, none⟩) (Kd.R_types HO_265000.out BK284.out (by decide)) (fun _ hk => hk.2) (.int .i64 ((rd_T46 t268 x78_4).f0))) (fun _ hk => hk.2) (.int .i64 ((rd_T46 t268 x78_4).f1))) (fun _ hk => hk.2) (.string ((rd_T46 t268 x78_4).f2))) (fun _ hk => hk.2) (.int .i64 ((rd_T46 t268 x78_4).f3))) (fun _ h_ => h_.1))))) (below_size (by repeat (first | (with_reducible first | exact HB.out | apply below_alloc | apply pw_below_drewN | apply below_drew1 | refine below_set ?_ GE263.out | refine below_set ?_ GE264.out | refine below_set ?_ GE266.out | refine below_set ?_ GE272.out | refine below_set ?_ GE284.out) | exact HB.out)))); have n3_ := Aside0.mk (blk_below (g := gb263) (o := .cells #[.int .i64 t267] 23 (0, 0)) (by (with_reducible repeat (first | refine blk_drewN ?_ _ | refine blk_drew ?_ | refine blk_alloc ?_ _)); refine blk_far ?_ NB263_284.out _; (with_reducible repeat (first | refine blk_drewN ?_ _ | refine blk_drew ?_ | refine blk_alloc ?_ _)); refine blk_far ?_ NB263_284.out _; (with_reducible repeat (first | refine blk_drewN ?_ _ | refine blk_drew ?_ | refine blk_alloc ?_ _)); refine blk_far ?_ NB263_284.out _; (with_reducible repeat (first | refine blk_drewN ?_ _ | refine blk_drew ?_ | refine blk_alloc ?_ _)); refine blk_far ?_ NB263_284.out _; (with_reducible repeat (first | refine blk_drewN ?_ _ | refine blk_drew ?_ | refine blk_alloc ?_ _)); exact BK263.out) hb); have n4_ := Aside0.mk (blk_below (g := gb264) (o := .cells #[.slice Ao87 x265000_4.length co87] 57 (0, 0)) (by (with_reducible repeat (first | refine blk_drewN ?_ _ | refine blk_drew ?_ | refine blk_alloc ?_ _)); refine blk_far ?_ NB264_284.out _; (with_reducible repeat (first | refine blk_drewN ?_ _ | refine blk_drew ?_ | refine blk_alloc ?_ _)); refine blk_far ?_ NB264_284.out _; (with_reducible repeat (first | refine blk_drewN ?_ _ | refine blk_drew ?_ | refine blk_alloc ?_ _)); refine blk_far ?_ NB264_284.out _; (with_reducible repeat (first | refine blk_drewN ?_ _ | refine blk_drew ?_ | refine blk_alloc ?_ _)); refine blk_far ?_ NB264_284.out _; (with_reducible repeat (first | refine blk_drewN ?_ _ | refine blk_drew ?_ | refine blk_alloc ?_ _)); exact BK264.out) hb); have n5_ := Aside0.mk (blk_below (g := gb266) (o := .cells #[.int .i64 ((rd_T25 l0 x30_1).f0), .int .i64 ((rd_T25 l0 x30_1).f1), .int .u8 ((rd_T25 l0 x30_1).f2)] 25 (0, 0)) (by (with_reducible repeat (first | refine blk_drewN ?_ _ | refine blk_drew ?_ | refine blk_alloc ?_ _)); refine blk_far ?_ NB266_284.out _; (with_reducible repeat (first | refine blk_drewN ?_ _ | refine blk_drew ?_ | refine blk_alloc ?_ _)); refine blk_far ?_ NB266_284.out _; (with_reducible repeat (first | refine blk_drewN ?_ _ | refine blk_drew ?_ | refine blk_alloc ?_ _)); refine blk_far ?_ NB266_284.out _; (with_reducible repeat (first | refine blk_drewN ?_ _ | refine blk_drew ?_ | refine blk_alloc ?_ _)); refine blk_far ?_ NB266_284.out _; (with_reducible repeat (first | refine blk_drewN ?_ _ | refine blk_drew ?_ | refine blk_alloc ?_ _)); exact BK266.out) hb); have n6_ := Aside0.mk (blk_below (g := gb272) (o := .cells #[.int .i64 t267] 23 (0, 0)) (by (with_reducible repeat (first | refine blk_drewN ?_ _ | refine blk_drew ?_ | refine blk_alloc ?_ _)); refine blk_far ?_ NB272_284.out _; (with_reducible repeat (first | refine blk_drewN ?_ _ | refine blk_drew ?_ | refine blk_alloc ?_ _)); refine blk_far ?_ NB272_284.out _; (with_reducible repeat (first | refine blk_drewN ?_ _ | refine blk_drew ?_ | refine blk_alloc ?_ _)); refine blk_far ?_ NB272_284.out _; (with_reducible repeat (first | refine blk_drewN ?_ _ | refine blk_drew ?_ | refine blk_alloc ?_ _)); refine blk_far ?_ NB272_284.out _; (with_reducible repeat (first | refine blk_drewN ?_ _ | refine blk_drew ?_ | refine blk_alloc ?_ _)); exact BK272.out) hb); have n7_ := Aside0.mk (blk_below (g := gb284) (o := .cells #[.int .i64 ((rd_T46 t268 x78_4).f0), .int .i64 ((rd_T46 t268 x78_4).f1), .string ((rd_T46 t268 x78_4).f2), .int .i64 ((rd_T46 t268 x78_4).f3)] 46 (0, 0)) (by (with_reducible repeat (first | refine blk_drewN ?_ _ | refine blk_drew ?_ | refine blk_alloc ?_ _)); refine blk_put (cs := #[.int .i64 ((rd_T46 t268 x78_4).f0), .int .i64 ((rd_T46 t268 x78_4).f1), .string ((rd_T46 t268 x78_4).f2), .int .i64 0]) ?_ 3 _ rfl; (with_reducible repeat (first | refine blk_drewN ?_ _ | refine blk_drew ?_ | refine blk_alloc ?_ _)); refine blk_put (cs := #[.int .i64 ((rd_T46 t268 x78_4).f0), .int .i64 ((rd_T46 t268 x78_4).f1), .string (⟨#[]⟩ : ByteArray), .int .i64 0]) ?_ 2 _ rfl; (with_reducible repeat (first | refine blk_drewN ?_ _ | refine blk_drew ?_ | refine blk_alloc ?_ _)); refine blk_put (cs := #[.int .i64 ((rd_T46 t268 x78_4).f0), .int .i64 0, .string (⟨#[]⟩ : ByteArray), .int .i64 0]) ?_ 1 _ rfl; (with_reducible repeat (first | refine blk_drewN ?_ _ | refine blk_drew ?_ | refine blk_alloc ?_ _)); refine blk_put (cs := #[.int .i64 0, .int .i64 0, .string (⟨#[]⟩ : ByteArray), .int .i64 0]) ?_ 0 _ rfl; (with_reducible repeat (first | refine blk_drewN ?_ _ | refine blk_drew ?_ | refine blk_alloc ?_ _)); exact BK284.out) hb); have n8_ := Aside0.mk (below_step (by repeat (first | (with_reducible first | exact HB.out | apply below_alloc | apply pw_below_drewN | apply below_drew1 | refine below_set ?_ GE263.out | refine below_set ?_ GE264.out | refine below_set ?_ GE266.out | refine below_set ?_ GE272.out | refine below_set ?_ GE284.out) | exact HB.out)) hb); clear HO_76; clear HO_265000; clear BK263; clear BK264; clear BK266; clear BK272; clear BK284; clear HB; have HO_76 := n0_; have HO_265000 := n1_; have HO287 := n2_; have BK263 := n3_; have BK264 := n4_; have BK266 := n5_; have BK272 := n6_; have BK284 := n7_; have HB := n8_; clear n0_ n1_ n2_ n3_ n4_ n5_ n6_ n7_ n8_; (try clear hb); (try clear hb2); (try clear hk); (try clear hi); (try clear ho0); obtain ⟨Ao89, co89, eo89⟩ := Kd.R_slice HO287.out; subst eo89; have hcz90_0 : w88.cell? ⟨gb264, 0, none⟩ = some (.slice Ao87 x265000_4.length co87) := (blk_cell BK264.out 0).trans rfl; have hfz90_0 := blk_frozen BK264.out 0))
                                        go_meet
                                        case rel => exact ⟨_, (t288), (t285), (.slice Ao89 t285.length co89), (by first | rfl | (simp; done) | (simp [*]; done)), H', ⟨by have := HK1.out; have := HJ17.out; have := HJ40.out; have := HK4.out; first | omega | exact Nat.le_refl _⟩, ⟨by (with_reducible repeat (first | apply Kd.R_alloc | apply Kd.R_drewN | apply Kd.R_drew)); exact Kd.R_mono (Kd.R_far (p := ⟨gb264, 0, none⟩) (Kd.R_types HO_76.out BK264.out (by decide)) (fun _ hk => hk.2) (.slice Ao89 t285.length co89)) (fun _ hk => hk.1.2)⟩, ⟨by (with_reducible repeat (first | apply Kd.R_alloc | apply Kd.R_drewN | apply Kd.R_drew)); exact Kd.R_mono (Kd.R_far (p := ⟨gb264, 0, none⟩) (Kd.R_types HO287.out BK264.out (by decide)) (fun _ hk => hk.2) (.slice Ao89 t285.length co89)) (fun _ hk => trivial)⟩, ⟨by (with_reducible repeat (first | refine blk_drewN ?_ _ | refine blk_drew ?_ | refine blk_alloc ?_ _)); refine blk_far ?_ NB263_264.out _; (with_reducible repeat (first | refine blk_drewN ?_ _ | refine blk_drew ?_ | refine blk_alloc ?_ _)); exact BK263.out⟩, ⟨by (with_reducible repeat (first | refine blk_drewN ?_ _ | refine blk_drew ?_ | refine blk_alloc ?_ _)); refine blk_put (cs := #[.slice Ao87 x265000_4.length co87]) ?_ 0 _ rfl; (with_reducible repeat (first | refine blk_drewN ?_ _ | refine blk_drew ?_ | refine blk_alloc ?_ _)); exact BK264.out⟩, ⟨by (with_reducible repeat (first | refine blk_drewN ?_ _ | refine blk_drew ?_ | refine blk_alloc ?_ _)); refine blk_far ?_ NB266_264.out _; (with_reducible repeat (first | refine blk_drewN ?_ _ | refine blk_drew ?_ | refine blk_alloc ?_ _)); exact BK266.out⟩, ⟨by (with_reducible repeat (first | refine blk_drewN ?_ _ | refine blk_drew ?_ | refine blk_alloc ?_ _)); refine blk_far ?_ NB272_264.out _; (with_reducible repeat (first | refine blk_drewN ?_ _ | refine blk_drew ?_ | refine blk_alloc ?_ _)); exact BK272.out⟩, ⟨by (with_reducible repeat (first | refine blk_drewN ?_ _ | refine blk_drew ?_ | refine blk_alloc ?_ _)); refine blk_far ?_ NB284_264.out _; (with_reducible repeat (first | refine blk_drewN ?_ _ | refine blk_drew ?_ | refine blk_alloc ?_ _)); exact BK284.out⟩, ⟨by repeat (first | (with_reducible first | exact HB.out | apply below_alloc | apply pw_below_drewN | apply below_drew1 | refine below_set ?_ GE263.out | refine below_set ?_ GE264.out | refine below_set ?_ GE266.out | refine below_set ?_ GE272.out | refine below_set ?_ GE284.out) | exact HB.out)⟩⟩
                                      · rw [if_neg c76] at H
                                        have c76b0 : (((rd_T46 t268 x78_4).f0) == 9) = false := beq_eq_false_iff_ne.mpr c76
                                        have c76b1 : (((rd_T46 t268 x78_4).f0) != 9) = true := bne_iff_ne.mpr c76
                                        (first | rw [c76b0] | (simp only [i64_w, i32_w]; rw [c76b0]) | skip)
                                        have H' := Aside0.mk H
                                        clear H
                                        go_wp2
                                        go_meet
                                        case rel => exact ⟨_, (0), (x265000_4), (u265000), (by first | rfl | (simp; done) | (simp [*]; done)), H', ⟨by have := HK1.out; have := HJ17.out; have := HJ40.out; have := HK4.out; first | omega | exact Nat.le_refl _⟩, ⟨by (with_reducible repeat (first | apply Kd.R_alloc | apply Kd.R_drewN | apply Kd.R_drew)); exact Kd.R_mono (Kd.R_far (p := ⟨gb284, 3, none⟩) (Kd.R_far (p := ⟨gb284, 2, none⟩) (Kd.R_far (p := ⟨gb284, 1, none⟩) (Kd.R_far (p := ⟨gb284, 0, none⟩) (Kd.R_mono HO_76.out (fun k_ hk => (⟨hk, hk.2⟩ : _ ∧ k_ ≠ gb284))) (fun _ hk => hk.2) (.int .i64 ((rd_T46 t268 x78_4).f0))) (fun _ hk => hk.2) (.int .i64 ((rd_T46 t268 x78_4).f1))) (fun _ hk => hk.2) (.string ((rd_T46 t268 x78_4).f2))) (fun _ hk => hk.2) (.int .i64 ((rd_T46 t268 x78_4).f3))) (fun _ hk => hk.1.2)⟩, ⟨by (with_reducible repeat (first | apply Kd.R_alloc | apply Kd.R_drewN | apply Kd.R_drew)); exact Kd.R_mono (Kd.R_far (p := ⟨gb284, 3, none⟩) (Kd.R_far (p := ⟨gb284, 2, none⟩) (Kd.R_far (p := ⟨gb284, 1, none⟩) (Kd.R_far (p := ⟨gb284, 0, none⟩) (Kd.R_types HO_265000.out BK284.out (by decide)) (fun _ hk => hk.2) (.int .i64 ((rd_T46 t268 x78_4).f0))) (fun _ hk => hk.2) (.int .i64 ((rd_T46 t268 x78_4).f1))) (fun _ hk => hk.2) (.string ((rd_T46 t268 x78_4).f2))) (fun _ hk => hk.2) (.int .i64 ((rd_T46 t268 x78_4).f3))) (fun _ hk => trivial)⟩, ⟨by (with_reducible repeat (first | refine blk_drewN ?_ _ | refine blk_drew ?_ | refine blk_alloc ?_ _)); refine blk_far ?_ NB263_284.out _; (with_reducible repeat (first | refine blk_drewN ?_ _ | refine blk_drew ?_ | refine blk_alloc ?_ _)); refine blk_far ?_ NB263_284.out _; (with_reducible repeat (first | refine blk_drewN ?_ _ | refine blk_drew ?_ | refine blk_alloc ?_ _)); refine blk_far ?_ NB263_284.out _; (with_reducible repeat (first | refine blk_drewN ?_ _ | refine blk_drew ?_ | refine blk_alloc ?_ _)); refine blk_far ?_ NB263_284.out _; (with_reducible repeat (first | refine blk_drewN ?_ _ | refine blk_drew ?_ | refine blk_alloc ?_ _)); exact BK263.out⟩, ⟨by (with_reducible repeat (first | refine blk_drewN ?_ _ | refine blk_drew ?_ | refine blk_alloc ?_ _)); refine blk_far ?_ NB264_284.out _; (with_reducible repeat (first | refine blk_drewN ?_ _ | refine blk_drew ?_ | refine blk_alloc ?_ _)); refine blk_far ?_ NB264_284.out _; (with_reducible repeat (first | refine blk_drewN ?_ _ | refine blk_drew ?_ | refine blk_alloc ?_ _)); refine blk_far ?_ NB264_284.out _; (with_reducible repeat (first | refine blk_drewN ?_ _ | refine blk_drew ?_ | refine blk_alloc ?_ _)); refine blk_far ?_ NB264_284.out _; (with_reducible repeat (first | refine blk_drewN ?_ _ | refine blk_drew ?_ | refine blk_alloc ?_ _)); exact BK264.out⟩, ⟨by (with_reducible repeat (first | refine blk_drewN ?_ _ | refine blk_drew ?_ | refine blk_alloc ?_ _)); refine blk_far ?_ NB266_284.out _; (with_reducible repeat (first | refine blk_drewN ?_ _ | refine blk_drew ?_ | refine blk_alloc ?_ _)); refine blk_far ?_ NB266_284.out _; (with_reducible repeat (first | refine blk_drewN ?_ _ | refine blk_drew ?_ | refine blk_alloc ?_ _)); refine blk_far ?_ NB266_284.out _; (with_reducible repeat (first | refine blk_drewN ?_ _ | refine blk_drew ?_ | refine blk_alloc ?_ _)); refine blk_far ?_ NB266_284.out _; (with_reducible repeat (first | refine blk_drewN ?_ _ | refine blk_drew ?_ | refine blk_alloc ?_ _)); exact BK266.out⟩, ⟨by (with_reducible repeat (first | refine blk_drewN ?_ _ | refine blk_drew ?_ | refine blk_alloc ?_ _)); refine blk_far ?_ NB272_284.out _; (with_reducible repeat (first | refine blk_drewN ?_ _ | refine blk_drew ?_ | refine blk_alloc ?_ _)); refine blk_far ?_ NB272_284.out _; (with_reducible repeat (first | refine blk_drewN ?_ _ | refine blk_drew ?_ | refine blk_alloc ?_ _)); refine blk_far ?_ NB272_284.out _; (with_reducible repeat (first | refine blk_drewN ?_ _ | refine blk_drew ?_ | refine blk_alloc ?_ _)); refine blk_far ?_ NB272_284.out _; (with_reducible repeat (first | refine blk_drewN ?_ _ | refine blk_drew ?_ | refine blk_alloc ?_ _)); exact BK272.out⟩, ⟨by (with_reducible repeat (first | refine blk_drewN ?_ _ | refine blk_drew ?_ | refine blk_alloc ?_ _)); refine blk_put (cs := #[.int .i64 ((rd_T46 t268 x78_4).f0), .int .i64 ((rd_T46 t268 x78_4).f1), .string ((rd_T46 t268 x78_4).f2), .int .i64 0]) ?_ 3 _ rfl; (with_reducible repeat (first | refine blk_drewN ?_ _ | refine blk_drew ?_ | refine blk_alloc ?_ _)); refine blk_put (cs := #[.int .i64 ((rd_T46 t268 x78_4).f0), .int .i64 ((rd_T46 t268 x78_4).f1), .string (⟨#[]⟩ : ByteArray), .int .i64 0]) ?_ 2 _ rfl; (with_reducible repeat (first | refine blk_drewN ?_ _ | refine blk_drew ?_ | refine blk_alloc ?_ _)); refine blk_put (cs := #[.int .i64 ((rd_T46 t268 x78_4).f0), .int .i64 0, .string (⟨#[]⟩ : ByteArray), .int .i64 0]) ?_ 1 _ rfl; (with_reducible repeat (first | refine blk_drewN ?_ _ | refine blk_drew ?_ | refine blk_alloc ?_ _)); refine blk_put (cs := #[.int .i64 0, .int .i64 0, .string (⟨#[]⟩ : ByteArray), .int .i64 0]) ?_ 0 _ rfl; (with_reducible repeat (first | refine blk_drewN ?_ _ | refine blk_drew ?_ | refine blk_alloc ?_ _)); exact BK284.out⟩, ⟨by repeat (first | (with_reducible first | exact HB.out | apply below_alloc | apply pw_below_drewN | apply below_drew1 | refine below_set ?_ GE263.out | refine below_set ?_ GE264.out | refine below_set ?_ GE266.out | refine below_set ?_ GE272.out | refine below_set ?_ GE284.out) | exact HB.out)⟩⟩
                                    case rest =>
                                      clear HC69
                                      try clear c1
                                      try clear c2
                                      try clear p2
                                      try clear q2
                                      try clear hx2
                                      try clear c3
                                      try clear c4
                                      try clear c5
                                      try clear c5b0
                                      try clear c5b1
                                      try clear c6
                                      try clear p6
                                      try clear c7
                                      try clear c8
                                      try clear c10
                                      try clear c11
                                      try clear c12
                                      try clear c13
                                      try clear c13b0
                                      try clear c14
                                      try clear c14b0
                                      try clear c15
                                      try clear c15b0
                                      try clear c17
                                      try clear c17b0
                                      try clear c17b1
                                      try clear c20
                                      try clear c21
                                      try clear c23
                                      try clear c24
                                      try clear c25
                                      try clear c26
                                      try clear p26
                                      try clear q26
                                      try clear hx26
                                      try clear c27
                                      try clear c28
                                      try clear p28
                                      try clear q28
                                      try clear hx28
                                      try clear c29
                                      try clear c32
                                      try clear c32b0
                                      try clear c32b1
                                      try clear c33
                                      try clear c34
                                      try clear c35
                                      try clear c37
                                      try clear c38
                                      try clear c39
                                      try clear c42
                                      try clear c45
                                      try clear c46
                                      try clear c46b0
                                      try clear c46b1
                                      try clear c47
                                      try clear c47b0
                                      try clear c47b1
                                      try clear c48
                                      try clear c49
                                      try clear c50
                                      try clear c58
                                      try clear c59
                                      try clear c60
                                      try clear c61
                                      try clear p64
                                      try clear c66
                                      try clear c66b0
                                      try clear c67
                                      try clear c67b0
                                      try clear c68
                                      try clear c68b0
                                      try clear c71
                                      try clear c72
                                      try clear c73
                                      try clear c74
                                      try clear c76
                                      try clear c76b0
                                      try clear c76b1
                                      try clear c78
                                      try clear c79
                                      try clear c80
                                      try clear c81
                                      try clear c83
                                      try clear c84
                                      try clear c85
                                      try clear hcz12_0
                                      try clear hcz22_0
                                      try clear hcz22_1
                                      try clear hcz22_2
                                      try clear hcz24_0
                                      try clear hcz30_0
                                      try clear hcz31_0
                                      try clear hcz36_0
                                      try clear hcz36_1
                                      try clear hcz36_2
                                      try clear hcz40_0
                                      try clear hcz40_1
                                      try clear hcz40_2
                                      try clear hcz51_0
                                      try clear hcz54_0
                                      try clear hcz62_0
                                      try clear hcz64_0
                                      try clear hcz75_0
                                      try clear hcz75_1
                                      try clear hcz75_2
                                      try clear hcz75_3
                                      try clear hcz82_0
                                      try clear hcz86_0
                                      try clear hcz86_1
                                      try clear hcz86_2
                                      try clear hcz86_3
                                      try clear hcz90_0
                                      try clear hcz9_0
                                      try clear hfz12_0
                                      try clear hfz22_0
                                      try clear hfz22_1
                                      try clear hfz22_2
                                      try clear hfz24_0
                                      try clear hfz30_0
                                      try clear hfz31_0
                                      try clear hfz36_0
                                      try clear hfz36_1
                                      try clear hfz36_2
                                      try clear hfz40_0
                                      try clear hfz40_1
                                      try clear hfz40_2
                                      try clear hfz51_0
                                      try clear hfz54_0
                                      try clear hfz62_0
                                      try clear hfz64_0
                                      try clear hfz75_0
                                      try clear hfz75_1
                                      try clear hfz75_2
                                      try clear hfz75_3
                                      try clear hfz82_0
                                      try clear hfz86_0
                                      try clear hfz86_1
                                      try clear hfz86_2
                                      try clear hfz86_3
                                      try clear hfz90_0
                                      try clear hfz9_0
                                      try clear hx265_0
                                      try clear hx265_1
                                      try clear hx265_2
                                      try clear hx283_0
                                      try clear hx283_1
                                      try clear hx283_2
                                      try clear hx283_3
                                      try clear p2
                                      try clear p26
                                      try clear p265
                                      try clear p283
                                      try clear p6
                                      try clear p64
                                      try clear q2
                                      try clear q26
                                      try clear q265
                                      try clear q283
                                      obtain ⟨kq, x19_68, x265000_68, u265000, rfl, HA, HJ68, HO_76, HO_265000, BK263, BK264, BK266, BK272, BK284, HB⟩ := hcut
                                      cases kq with
                                      | zero => exact absurd HA.out (by simp [crossbarlaw17_TerminateTimerQueue.j4])
                                      | succ kj68 =>
                                        have H := HA.out
                                        clear HA
                                        simp only [crossbarlaw17_TerminateTimerQueue.j4] at H
                                        by_cases c91 : ((rd_T46 t268 x78_4).f0) = 10
                                        · rw [if_pos c91] at H
                                          have c91b0 : (((rd_T46 t268 x78_4).f0) == 10) = true := beq_iff_eq.mpr c91
                                          have c91b1 : (((rd_T46 t268 x78_4).f0) != 10) = false := bne_eq_false_iff_eq.mpr c91
                                          clear c91
                                          replace H := Option.bind_eq_some_iff.mp H
                                          obtain ⟨⟨t289, t292⟩, A920, H⟩ := H
                                          replace H : (if t292 = 0 then (crossbarlaw17_TerminateTimerQueue.l1 kj68 a1 l0 (l0.length : Int) x30_1 t268 (t268.length : Int) (wrap64 (x78_4 + 1)) t267 t289 t267) else (none)) = some r := H
                                          have A92 := Aside0.mk A920
                                          clear A920
                                          by_cases c93 : t292 = 0
                                          · rw [if_pos c93] at H
                                            have c93b0 : (t292 == 0) = true := beq_iff_eq.mpr c93
                                            have c93b1 : (t292 != 0) = false := bne_eq_false_iff_eq.mpr c93
                                            clear c93
                                            have H' := Aside0.mk H
                                            clear H
                                            have hnb94 := NB284_263.out
                                            have hnc94 := NB263_284.out
                                            have hnb95 := NB284_264.out
                                            have hnc95 := NB264_284.out
                                            have hnb96 := NB284_266.out
                                            have hnc96 := NB266_284.out
                                            have hnb97 := NB284_272.out
                                            have hnc97 := NB272_284.out
                                            have hcz98_0 : wc.cell? ⟨gb284, 0, none⟩ = some (.int .i64 ((rd_T46 t268 x78_4).f0)) := (blk_cell BK284.out 0).trans rfl
                                            have hcz98_1 : wc.cell? ⟨gb284, 1, none⟩ = some (.int .i64 ((rd_T46 t268 x78_4).f1)) := (blk_cell BK284.out 1).trans rfl
                                            have hcz98_2 : wc.cell? ⟨gb284, 2, none⟩ = some (.string ((rd_T46 t268 x78_4).f2)) := (blk_cell BK284.out 2).trans rfl
                                            have hcz98_3 : wc.cell? ⟨gb284, 3, none⟩ = some (.int .i64 ((rd_T46 t268 x78_4).f3)) := (blk_cell BK284.out 3).trans rfl
                                            have hfz98_0 := blk_frozen BK284.out 0
                                            have hfz98_1 := blk_frozen BK284.out 1
                                            have hfz98_2 := blk_frozen BK284.out 2
                                            have hfz98_3 := blk_frozen BK284.out 3
                                            have hnb99 := NB264_263.out
                                            have hnc99 := NB263_264.out
                                            have hnb100 := NB264_266.out
                                            have hnc100 := NB266_264.out
                                            have hnb101 := NB264_272.out
                                            have hnc101 := NB272_264.out
                                            have hcz102_0 : wc.cell? ⟨gb264, 0, none⟩ = some (u265000) := (blk_cell BK264.out 0).trans rfl
                                            have hfz102_0 := blk_frozen BK264.out 0
                                            obtain ⟨Ao103, co103, eo103⟩ := Kd.R_slice HO_265000.out
                                            subst eo103
                                            go_wp2_with (first | ((with_reducible refine gate_callee (f := 27) rfl ?_); refine goesL_ (some 100) rfl rfl Tryd.func27 (by kernel_rfl) rfl #[.agg #[.slice Ao103 x265000_68.length co103], .int .i64 3] rfl (by (try simp only [List.map_toArray, List.map_cons, List.map_nil]); first | done | rfl | (simp only [List.length_drop, List.length_take]; rfl)) ?_; (refine tabbed (w := w) HT.out (by repeat (first | (with_reducible first | exact HB.out | apply below_alloc | apply pw_below_drewN | apply below_drew1 | refine below_set ?_ GE263.out | refine below_set ?_ GE264.out | refine below_set ?_ GE266.out | refine below_set ?_ GE272.out | refine below_set ?_ GE284.out) | exact HB.out)) ?_); intro hT_; (with_reducible refine (timers_Cancel.calls _ _ x265000_68 3 t289 t292 _ ?side1 ?side2 A92.out hT_).mono ?_); clear hT_; (case side1 => repeat (first | exact (Kd.R_reads' HO_265000.out).2.2 | (with_reducible refine Kd.C_alloc ?_ _) | (with_reducible refine Kd.C_drewN ?_ _) | (with_reducible refine Kd.C_drew ?_))); (case side2 => exact (Kd.R_reads' HO_265000.out).2.1); rintro e w104 ⟨v290, rfl, ho0, hb⟩; refine ⟨_, rfl, ?_⟩; have n0_ := Aside0.mk (Kd.R_below (by (with_reducible repeat (first | apply Kd.R_alloc | apply Kd.R_drewN | apply Kd.R_drew)); exact HO_76.out) hb); have n1_ := Aside0.mk (Kd.R_elder' (by (with_reducible repeat (first | apply Kd.R_alloc | apply Kd.R_drewN | apply Kd.R_drew)); exact HO_265000.out) (Kd.R_base ho0) hb); have n2_ := Aside0.mk (Kd.R_lower (Kd.R_new' ho0 (Kd.R_lt (by (with_reducible repeat (first | apply Kd.R_alloc | apply Kd.R_drewN | apply Kd.R_drew)); exact HO_265000.out))) (below_size (by repeat (first | (with_reducible first | exact HB.out | apply below_alloc | apply pw_below_drewN | apply below_drew1 | refine below_set ?_ GE263.out | refine below_set ?_ GE264.out | refine below_set ?_ GE266.out | refine below_set ?_ GE272.out | refine below_set ?_ GE284.out) | exact HB.out)))); have n3_ := Aside0.mk (blk_below (g := gb263) (o := .cells #[.int .i64 t267] 23 (0, 0)) (by (with_reducible repeat (first | refine blk_drewN ?_ _ | refine blk_drew ?_ | refine blk_alloc ?_ _)); exact BK263.out) hb); have n4_ := Aside0.mk (blk_below (g := gb264) (o := .cells #[.slice Ao103 x265000_68.length co103] 57 (0, 0)) (by (with_reducible repeat (first | refine blk_drewN ?_ _ | refine blk_drew ?_ | refine blk_alloc ?_ _)); exact BK264.out) hb); have n5_ := Aside0.mk (blk_below (g := gb266) (o := .cells #[.int .i64 ((rd_T25 l0 x30_1).f0), .int .i64 ((rd_T25 l0 x30_1).f1), .int .u8 ((rd_T25 l0 x30_1).f2)] 25 (0, 0)) (by (with_reducible repeat (first | refine blk_drewN ?_ _ | refine blk_drew ?_ | refine blk_alloc ?_ _)); exact BK266.out) hb); have n6_ := Aside0.mk (blk_below (g := gb272) (o := .cells #[.int .i64 t267] 23 (0, 0)) (by (with_reducible repeat (first | refine blk_drewN ?_ _ | refine blk_drew ?_ | refine blk_alloc ?_ _)); exact BK272.out) hb); have n7_ := Aside0.mk (blk_below (g := gb284) (o := .cells #[.int .i64 ((rd_T46 t268 x78_4).f0), .int .i64 ((rd_T46 t268 x78_4).f1), .string ((rd_T46 t268 x78_4).f2), .int .i64 ((rd_T46 t268 x78_4).f3)] 46 (0, 0)) (by (with_reducible repeat (first | refine blk_drewN ?_ _ | refine blk_drew ?_ | refine blk_alloc ?_ _)); exact BK284.out) hb); have n8_ := Aside0.mk (below_step (by repeat (first | (with_reducible first | exact HB.out | apply below_alloc | apply pw_below_drewN | apply below_drew1 | refine below_set ?_ GE263.out | refine below_set ?_ GE264.out | refine below_set ?_ GE266.out | refine below_set ?_ GE272.out | refine below_set ?_ GE284.out) | exact HB.out)) hb); clear HO_76; clear HO_265000; clear BK263; clear BK264; clear BK266; clear BK272; clear BK284; clear HB; have HO_76 := n0_; have HO_265000 := n1_; have HO291 := n2_; have BK263 := n3_; have BK264 := n4_; have BK266 := n5_; have BK272 := n6_; have BK284 := n7_; have HB := n8_; clear n0_ n1_ n2_ n3_ n4_ n5_ n6_ n7_ n8_; (try clear hb); (try clear hb2); (try clear hk); (try clear hi); (try clear ho0); obtain ⟨Ao105, co105, eo105⟩ := Kd.R_slice HO291.out; subst eo105; have hcz106_0 : w104.cell? ⟨gb264, 0, none⟩ = some (.slice Ao103 x265000_68.length co103) := (blk_cell BK264.out 0).trans rfl; have hfz106_0 := blk_frozen BK264.out 0))
                                            go_roundg kj68
                                            case measure => have := HK1.out; have := HJ17.out; have := HJ40.out; have := HK4.out; have := HJ68.out; omega
                                            case rel => exact ⟨(wrap64 (x78_4 + 1)), (t289), (.slice Ao105 t289.length co105), (by first | rfl | (simp; done) | (simp [*]; done)), H', ⟨by have := HK1.out; have := HJ17.out; have := HJ40.out; have := HK4.out; have := HJ68.out; omega⟩, ⟨by (with_reducible repeat (first | apply Kd.R_alloc | apply Kd.R_drewN | apply Kd.R_drew)); exact Kd.R_mono (Kd.R_far (p := ⟨gb264, 0, none⟩) (Kd.R_types HO_76.out BK264.out (by decide)) (fun _ hk => hk.2) (.slice Ao105 t289.length co105)) (fun _ hk => trivial)⟩, ⟨by (with_reducible repeat (first | apply Kd.R_alloc | apply Kd.R_drewN | apply Kd.R_drew)); exact Kd.R_mono (Kd.R_far (p := ⟨gb264, 0, none⟩) (Kd.R_types HO291.out BK264.out (by decide)) (fun _ hk => hk.2) (.slice Ao105 t289.length co105)) (fun _ hk => trivial)⟩, ⟨by (with_reducible repeat (first | refine blk_drewN ?_ _ | refine blk_drew ?_ | refine blk_alloc ?_ _)); refine blk_far ?_ NB263_264.out _; (with_reducible repeat (first | refine blk_drewN ?_ _ | refine blk_drew ?_ | refine blk_alloc ?_ _)); exact BK263.out⟩, ⟨by (with_reducible repeat (first | refine blk_drewN ?_ _ | refine blk_drew ?_ | refine blk_alloc ?_ _)); refine blk_put (cs := #[.slice Ao103 x265000_68.length co103]) ?_ 0 _ rfl; (with_reducible repeat (first | refine blk_drewN ?_ _ | refine blk_drew ?_ | refine blk_alloc ?_ _)); exact BK264.out⟩, ⟨by (with_reducible repeat (first | refine blk_drewN ?_ _ | refine blk_drew ?_ | refine blk_alloc ?_ _)); refine blk_far ?_ NB266_264.out _; (with_reducible repeat (first | refine blk_drewN ?_ _ | refine blk_drew ?_ | refine blk_alloc ?_ _)); exact BK266.out⟩, ⟨by (with_reducible repeat (first | refine blk_drewN ?_ _ | refine blk_drew ?_ | refine blk_alloc ?_ _)); refine blk_far ?_ NB272_264.out _; (with_reducible repeat (first | refine blk_drewN ?_ _ | refine blk_drew ?_ | refine blk_alloc ?_ _)); exact BK272.out⟩, ⟨by repeat (first | (with_reducible first | exact HB.out | apply below_alloc | apply pw_below_drewN | apply below_drew1 | refine below_set ?_ GE263.out | refine below_set ?_ GE264.out | refine below_set ?_ GE266.out | refine below_set ?_ GE272.out | refine below_set ?_ GE284.out) | exact HB.out)⟩⟩
                                          · rw [if_neg c93] at H
                                            exact absurd H (by simp)
                                        · rw [if_neg c91] at H
                                          have c91b0 : (((rd_T46 t268 x78_4).f0) == 10) = false := beq_eq_false_iff_ne.mpr c91
                                          have c91b1 : (((rd_T46 t268 x78_4).f0) != 10) = true := bne_iff_ne.mpr c91
                                          by_cases c107 : x19_68 = 0
                                          · rw [if_pos c107] at H
                                            have c107b0 : (x19_68 == 0) = true := beq_iff_eq.mpr c107
                                            have c107b1 : (x19_68 != 0) = false := bne_eq_false_iff_eq.mpr c107
                                            clear c107
                                            have H' := Aside0.mk H
                                            clear H
                                            have hnb108 := NB284_263.out
                                            have hnc108 := NB263_284.out
                                            have hnb109 := NB284_264.out
                                            have hnc109 := NB264_284.out
                                            have hnb110 := NB284_266.out
                                            have hnc110 := NB266_284.out
                                            have hnb111 := NB284_272.out
                                            have hnc111 := NB272_284.out
                                            have hcz112_0 : wc.cell? ⟨gb284, 0, none⟩ = some (.int .i64 ((rd_T46 t268 x78_4).f0)) := (blk_cell BK284.out 0).trans rfl
                                            have hcz112_1 : wc.cell? ⟨gb284, 1, none⟩ = some (.int .i64 ((rd_T46 t268 x78_4).f1)) := (blk_cell BK284.out 1).trans rfl
                                            have hcz112_2 : wc.cell? ⟨gb284, 2, none⟩ = some (.string ((rd_T46 t268 x78_4).f2)) := (blk_cell BK284.out 2).trans rfl
                                            have hcz112_3 : wc.cell? ⟨gb284, 3, none⟩ = some (.int .i64 ((rd_T46 t268 x78_4).f3)) := (blk_cell BK284.out 3).trans rfl
                                            have hfz112_0 := blk_frozen BK284.out 0
                                            have hfz112_1 := blk_frozen BK284.out 1
                                            have hfz112_2 := blk_frozen BK284.out 2
                                            have hfz112_3 := blk_frozen BK284.out 3
                                            go_wp2
                                            go_roundg kj68
                                            case measure => have := HK1.out; have := HJ17.out; have := HJ40.out; have := HK4.out; have := HJ68.out; omega
                                            case rel => exact ⟨(wrap64 (x78_4 + 1)), (x265000_68), (u265000), (by first | rfl | (simp; done) | (simp [*]; done)), H', ⟨by have := HK1.out; have := HJ17.out; have := HJ40.out; have := HK4.out; have := HJ68.out; omega⟩, ⟨by (with_reducible repeat (first | apply Kd.R_alloc | apply Kd.R_drewN | apply Kd.R_drew)); exact Kd.R_mono HO_76.out (fun _ hk => trivial)⟩, ⟨by (with_reducible repeat (first | apply Kd.R_alloc | apply Kd.R_drewN | apply Kd.R_drew)); exact HO_265000.out⟩, ⟨by (with_reducible repeat (first | refine blk_drewN ?_ _ | refine blk_drew ?_ | refine blk_alloc ?_ _)); exact BK263.out⟩, ⟨by (with_reducible repeat (first | refine blk_drewN ?_ _ | refine blk_drew ?_ | refine blk_alloc ?_ _)); exact BK264.out⟩, ⟨by (with_reducible repeat (first | refine blk_drewN ?_ _ | refine blk_drew ?_ | refine blk_alloc ?_ _)); exact BK266.out⟩, ⟨by (with_reducible repeat (first | refine blk_drewN ?_ _ | refine blk_drew ?_ | refine blk_alloc ?_ _)); exact BK272.out⟩, ⟨by repeat (first | (with_reducible first | exact HB.out | apply below_alloc | apply pw_below_drewN | apply below_drew1 | refine below_set ?_ GE263.out | refine below_set ?_ GE264.out | refine below_set ?_ GE266.out | refine below_set ?_ GE272.out | refine below_set ?_ GE284.out) | exact HB.out)⟩⟩
                                          · rw [if_neg c107] at H
                                            exact absurd H (by simp)
                                  · rw [if_neg c68] at H
                                    exact absurd H (by simp)
                                · rw [if_neg c67] at H
                                  exact absurd H (by simp)
                              · rw [if_neg c66] at H
                                have c66b0 : decide (x78_4 < (t268.length : Int)) = false := decide_eq_false c66
                                clear c66
                                by_cases c113 : t267 = 1
                                · rw [if_pos c113] at H
                                  have c113b0 : (t267 == 1) = true := beq_iff_eq.mpr c113
                                  have c113b1 : (t267 != 1) = false := bne_eq_false_iff_eq.mpr c113
                                  clear c113
                                  by_cases c114 : (x265000_4.length : Int) > 1
                                  · rw [if_pos c114] at H
                                    exact absurd H (by simp)
                                  · rw [if_neg c114] at H
                                    have c114b0 : decide (1 < (x265000_4.length : Int)) = false := decide_eq_false c114
                                    have c114b1 : decide (1 < x265000_4.length) = false := decide_eq_false (by omega)
                                    clear c114
                                    by_cases c115 : (((x265000_4.length : Int) == 1) != true) = true
                                    · rw [if_pos c115] at H
                                      exact absurd H (by simp)
                                    · rw [if_neg c115] at H
                                      have c115b0 : (((x265000_4.length : Int) == 1) != true) = false := by simpa using c115
                                      (try (have c115b1 : decide (((x265000_4.length : Int) == 1) = true) = true := by simpa using c115))
                                      (try (have c115b2 : (((x265000_4.length : Int) == 1) == true) = true := by simpa using c115))
                                      clear c115
                                      have H' := Aside0.mk H
                                      clear H
                                      have hnb116 := NB272_263.out
                                      have hnc116 := NB263_272.out
                                      have hnb117 := NB272_264.out
                                      have hnc117 := NB264_272.out
                                      have hnb118 := NB272_266.out
                                      have hnc118 := NB266_272.out
                                      have hcz119_0 : wr.cell? ⟨gb272, 0, none⟩ = some (.int .i64 t267) := (blk_cell BK272.out 0).trans rfl
                                      have hfz119_0 := blk_frozen BK272.out 0
                                      have hnb120 := NB264_263.out
                                      have hnc120 := NB263_264.out
                                      have hnb121 := NB264_266.out
                                      have hnc121 := NB266_264.out
                                      have hcz122_0 : wr.cell? ⟨gb264, 0, none⟩ = some (u265000) := (blk_cell BK264.out 0).trans rfl
                                      have hfz122_0 := blk_frozen BK264.out 0
                                      obtain ⟨Ao123, co123, eo123⟩ := Kd.R_slice HO_265000.out
                                      subst eo123
                                      go_wp2
                                      go_roundg k4
                                      case measure => have := HK1.out; have := HJ17.out; have := HJ40.out; have := HK4.out; omega
                                      case rel => exact ⟨(wrap64 (x30_1 + 1)), (t267), (x265000_4), (.slice Ao123 x265000_4.length co123), (by first | rfl | (simp; done) | (simp [*]; done)), H', ⟨by have := HK1.out; have := HJ17.out; have := HJ40.out; have := HK4.out; omega⟩, ⟨by (with_reducible repeat (first | apply Kd.R_alloc | apply Kd.R_drewN | apply Kd.R_drew)); exact HO_265000.out⟩, ⟨by (with_reducible repeat (first | refine blk_drewN ?_ _ | refine blk_drew ?_ | refine blk_alloc ?_ _)); exact BK263.out⟩, ⟨by (with_reducible repeat (first | refine blk_drewN ?_ _ | refine blk_drew ?_ | refine blk_alloc ?_ _)); exact BK264.out⟩, ⟨by repeat (first | (with_reducible first | exact HB.out | apply below_alloc | apply pw_below_drewN | apply below_drew1 | refine below_set ?_ GE263.out | refine below_set ?_ GE264.out | refine below_set ?_ GE266.out | refine below_set ?_ GE272.out) | exact HB.out)⟩⟩
                                · rw [if_neg c113] at H
                                  have c113b0 : (t267 == 1) = false := beq_eq_false_iff_ne.mpr c113
                                  have c113b1 : (t267 != 1) = true := bne_iff_ne.mpr c113
                                  by_cases c124 : (x265000_4.length : Int) > 1
                                  · rw [if_pos c124] at H
                                    exact absurd H (by simp)
                                  · rw [if_neg c124] at H
                                    have c124b0 : decide (1 < (x265000_4.length : Int)) = false := decide_eq_false c124
                                    have c124b1 : decide (1 < x265000_4.length) = false := decide_eq_false (by omega)
                                    clear c124
                                    by_cases c125 : (((x265000_4.length : Int) == 1) != (t267 == 3)) = true
                                    · rw [if_pos c125] at H
                                      exact absurd H (by simp)
                                    · rw [if_neg c125] at H
                                      have c125b0 : (((x265000_4.length : Int) == 1) != (t267 == 3)) = false := by simpa using c125
                                      (try (have c125b1 : decide (((x265000_4.length : Int) == 1) = (t267 == 3)) = true := by simpa using c125))
                                      (try (have c125b2 : (((x265000_4.length : Int) == 1) == (t267 == 3)) = true := by simpa using c125))
                                      clear c125
                                      have H' := Aside0.mk H
                                      clear H
                                      have hnb126 := NB272_263.out
                                      have hnc126 := NB263_272.out
                                      have hnb127 := NB272_264.out
                                      have hnc127 := NB264_272.out
                                      have hnb128 := NB272_266.out
                                      have hnc128 := NB266_272.out
                                      have hcz129_0 : wr.cell? ⟨gb272, 0, none⟩ = some (.int .i64 t267) := (blk_cell BK272.out 0).trans rfl
                                      have hfz129_0 := blk_frozen BK272.out 0
                                      have hnb130 := NB264_263.out
                                      have hnc130 := NB263_264.out
                                      have hnb131 := NB264_266.out
                                      have hnc131 := NB266_264.out
                                      have hcz132_0 : wr.cell? ⟨gb264, 0, none⟩ = some (u265000) := (blk_cell BK264.out 0).trans rfl
                                      have hfz132_0 := blk_frozen BK264.out 0
                                      obtain ⟨Ao133, co133, eo133⟩ := Kd.R_slice HO_265000.out
                                      subst eo133
                                      go_wp2
                                      go_roundg k4
                                      case measure => have := HK1.out; have := HJ17.out; have := HJ40.out; have := HK4.out; omega
                                      case rel => exact ⟨(wrap64 (x30_1 + 1)), (t267), (x265000_4), (.slice Ao133 x265000_4.length co133), (by first | rfl | (simp; done) | (simp [*]; done)), H', ⟨by have := HK1.out; have := HJ17.out; have := HJ40.out; have := HK4.out; omega⟩, ⟨by (with_reducible repeat (first | apply Kd.R_alloc | apply Kd.R_drewN | apply Kd.R_drew)); exact HO_265000.out⟩, ⟨by (with_reducible repeat (first | refine blk_drewN ?_ _ | refine blk_drew ?_ | refine blk_alloc ?_ _)); exact BK263.out⟩, ⟨by (with_reducible repeat (first | refine blk_drewN ?_ _ | refine blk_drew ?_ | refine blk_alloc ?_ _)); exact BK264.out⟩, ⟨by repeat (first | (with_reducible first | exact HB.out | apply below_alloc | apply pw_below_drewN | apply below_drew1 | refine below_set ?_ GE263.out | refine below_set ?_ GE264.out | refine below_set ?_ GE266.out | refine below_set ?_ GE272.out) | exact HB.out)⟩⟩
                · rw [if_neg c17] at H
                  have c17b0 : (t271 == 0) = false := beq_eq_false_iff_ne.mpr c17
                  have c17b1 : (t271 != 0) = true := bne_iff_ne.mpr c17
                  have H' := Aside0.mk H
                  clear H
                  have p265 : 0 ≤ (x30_1 : Int) := of_decide_eq_true (by first | (with_reducible assumption) | assumption)
                  have q265 : x30_1 < (l0.length : Int) := of_decide_eq_true (by first | (with_reducible assumption) | assumption)
                  obtain ⟨ad265, e265, hx265_0, hx265_1, hx265_2⟩ := at_T25 HR0.out x30_1 p265 q265
                  cases e265
                  replace hx265_0 := (HB.out.cell (World.block_lt_of_cell? w _ hx265_0)).trans hx265_0
                  replace hx265_1 := (HB.out.cell (World.block_lt_of_cell? w _ hx265_1)).trans hx265_1
                  replace hx265_2 := (HB.out.cell (World.block_lt_of_cell? w _ hx265_2)).trans hx265_2
                  replace p265 := eq_true p265
                  replace q265 := eq_true q265
                  go_wp2_with (first | ((with_reducible refine gate_dst (N := 8) rfl ?_); (try (refine gate_guard (by rfl) ?_; dsimp only)); refine box_event ?hg (N := 8) ?hd (cs := #[.int .i64 0, .int .i64 0, .int .u8 0]) (t := 25) ?hr ?_; (case hd => rfl); (case hg => rfl); (case hr => first | (go_simp; done) | (go_simp; rfl)); intro gb266 hg w134 hbox hb; have n0_ := Aside0.mk (Kd.R_below (by (with_reducible repeat (first | apply Kd.R_alloc | apply Kd.R_drewN | apply Kd.R_drew)); exact HO_265000.out) hb); have n1_ := Aside0.mk (blk_below (g := gb263) (o := .cells #[.int .i64 x264000_1] 23 (0, 0)) (by (with_reducible repeat (first | refine blk_drewN ?_ _ | refine blk_drew ?_ | refine blk_alloc ?_ _)); exact BK263.out) hb); have n2_ := Aside0.mk (blk_below (g := gb264) (o := .cells #[u265000] 57 (0, 0)) (by (with_reducible repeat (first | refine blk_drewN ?_ _ | refine blk_drew ?_ | refine blk_alloc ?_ _)); exact BK264.out) hb); have n3_ := Aside0.mk (below_step (by repeat (first | (with_reducible first | exact HB.out | apply below_alloc | apply pw_below_drewN | apply below_drew1 | refine below_set ?_ GE263.out | refine below_set ?_ GE264.out) | exact HB.out)) hb); have n4_ := Aside0.mk (hbox); have n5_ := Aside0.mk ((by rw [hg]; exact (below_size (by repeat (first | (with_reducible first | exact HB.out | apply below_alloc | apply pw_below_drewN | apply below_drew1 | refine below_set ?_ GE263.out | refine below_set ?_ GE264.out) | exact HB.out))) : w.heap.size ≤ gb266)); have n6_ := Aside0.mk ((by rw [hg]; exact (below_size (by repeat (first | (with_reducible first | exact HB.out | apply below_alloc | apply pw_below_drewN | apply below_drew1 | refine below_set ?_ GE263.out | refine below_set ?_ GE264.out) | exact HB.out))) : w.heap.size ≤ gb266)); have n7_ := Aside0.mk ((by rw [hg]; exact Nat.ne_of_lt (blk_lt (g := gb263) (o := .cells #[.int .i64 x264000_1] 23 (0, 0)) (by (with_reducible repeat (first | refine blk_drewN ?_ _ | refine blk_drew ?_ | refine blk_alloc ?_ _)); exact BK263.out)) : gb263 ≠ gb266)); have n8_ := Aside0.mk ((by rw [hg]; exact Nat.ne_of_gt (blk_lt (g := gb263) (o := .cells #[.int .i64 x264000_1] 23 (0, 0)) (by (with_reducible repeat (first | refine blk_drewN ?_ _ | refine blk_drew ?_ | refine blk_alloc ?_ _)); exact BK263.out)) : gb266 ≠ gb263)); have n9_ := Aside0.mk ((by rw [hg]; exact Nat.ne_of_lt (blk_lt (g := gb264) (o := .cells #[u265000] 57 (0, 0)) (by (with_reducible repeat (first | refine blk_drewN ?_ _ | refine blk_drew ?_ | refine blk_alloc ?_ _)); exact BK264.out)) : gb264 ≠ gb266)); have n10_ := Aside0.mk ((by rw [hg]; exact Nat.ne_of_gt (blk_lt (g := gb264) (o := .cells #[u265000] 57 (0, 0)) (by (with_reducible repeat (first | refine blk_drewN ?_ _ | refine blk_drew ?_ | refine blk_alloc ?_ _)); exact BK264.out)) : gb266 ≠ gb264)); clear HO_265000; clear BK263; clear BK264; clear HB; have HO_265000 := n0_; have BK263 := n1_; have BK264 := n2_; have HB := n3_; have BK266 := n4_; have GW266 := n5_; have GE266 := n6_; have NB263_266 := n7_; have NB266_263 := n8_; have NB264_266 := n9_; have NB266_264 := n10_; clear n0_ n1_ n2_ n3_ n4_ n5_ n6_ n7_ n8_ n9_ n10_; clear hb hbox hg; have hnb135 := NB266_263.out; have hnc135 := NB263_266.out; have hnb136 := NB266_264.out; have hnc136 := NB264_266.out; have hcz137_0 : w134.cell? ⟨gb266, 0, none⟩ = some (.int .i64 0) := (blk_cell BK266.out 0).trans rfl; have hcz137_1 : w134.cell? ⟨gb266, 1, none⟩ = some (.int .i64 0) := (blk_cell BK266.out 1).trans rfl; have hcz137_2 : w134.cell? ⟨gb266, 2, none⟩ = some (.int .u8 0) := (blk_cell BK266.out 2).trans rfl; have hfz137_0 := blk_frozen BK266.out 0; have hfz137_1 := blk_frozen BK266.out 1; have hfz137_2 := blk_frozen BK266.out 2; have hnb138 := NB263_264.out; have hnc138 := NB264_263.out; have hcz139_0 : w134.cell? ⟨gb263, 0, none⟩ = some (.int .i64 x264000_1) := (blk_cell BK263.out 0).trans rfl; have hfz139_0 := blk_frozen BK263.out 0) | ((with_reducible refine gate_callee (f := 13) rfl ?_); refine goesL_ (some 37) rfl rfl Tryd.func13 (by kernel_rfl) rfl #[.agg #[.int .i64 x264000_1], .agg #[.int .i64 ((rd_T25 l0 x30_1).f0), .int .i64 ((rd_T25 l0 x30_1).f1), .int .u8 ((rd_T25 l0 x30_1).f2)]] rfl (by (try simp only [List.map_toArray, List.map_cons, List.map_nil]); first | done | rfl | (simp only [List.length_drop, List.length_take]; rfl)) ?_; (refine tabbed (w := w) HT.out (by repeat (first | (with_reducible first | exact HB.out | apply below_alloc | apply pw_below_drewN | apply below_drew1 | refine below_set ?_ GE263.out | refine below_set ?_ GE264.out | refine below_set ?_ GE266.out) | exact HB.out)) ?_); intro hT_; (with_reducible refine (terminate_Step.calls k1 x264000_1 ((rd_T25 l0 x30_1).f0) ((rd_T25 l0 x30_1).f1) ((rd_T25 l0 x30_1).f2) t267 t268 t271 _ A16.out hT_).mono ?_); clear hT_; rintro e w140 ⟨v269, rfl, ho0, hb⟩; refine ⟨_, rfl, ?_⟩; have n0_ := Aside0.mk (Kd.R_below (by (with_reducible repeat (first | apply Kd.R_alloc | apply Kd.R_drewN | apply Kd.R_drew)); exact (Kd.R_mono (Kd.R_far (p := ⟨gb266, 2, none⟩) (Kd.R_far (p := ⟨gb266, 1, none⟩) (Kd.R_far (p := ⟨gb266, 0, none⟩) (Kd.R_types HO_265000.out BK266.out (by decide)) (fun _ hk => hk.2) (.int .i64 ((rd_T25 l0 x30_1).f0))) (fun _ hk => hk.2) (.int .i64 ((rd_T25 l0 x30_1).f1))) (fun _ hk => hk.2) (.int .u8 ((rd_T25 l0 x30_1).f2))) (fun _ h_ => h_.1))) hb); have n1_ := Aside0.mk (Kd.R_lower ho0 (below_size (by repeat (first | (with_reducible first | exact HB.out | apply below_alloc | apply pw_below_drewN | apply below_drew1 | refine below_set ?_ GE263.out | refine below_set ?_ GE264.out | refine below_set ?_ GE266.out) | exact HB.out)))); have n2_ := Aside0.mk (blk_below (g := gb263) (o := .cells #[.int .i64 x264000_1] 23 (0, 0)) (by (with_reducible repeat (first | refine blk_drewN ?_ _ | refine blk_drew ?_ | refine blk_alloc ?_ _)); refine blk_far ?_ NB263_266.out _; (with_reducible repeat (first | refine blk_drewN ?_ _ | refine blk_drew ?_ | refine blk_alloc ?_ _)); refine blk_far ?_ NB263_266.out _; (with_reducible repeat (first | refine blk_drewN ?_ _ | refine blk_drew ?_ | refine blk_alloc ?_ _)); refine blk_far ?_ NB263_266.out _; (with_reducible repeat (first | refine blk_drewN ?_ _ | refine blk_drew ?_ | refine blk_alloc ?_ _)); exact BK263.out) hb); have n3_ := Aside0.mk (blk_below (g := gb264) (o := .cells #[u265000] 57 (0, 0)) (by (with_reducible repeat (first | refine blk_drewN ?_ _ | refine blk_drew ?_ | refine blk_alloc ?_ _)); refine blk_far ?_ NB264_266.out _; (with_reducible repeat (first | refine blk_drewN ?_ _ | refine blk_drew ?_ | refine blk_alloc ?_ _)); refine blk_far ?_ NB264_266.out _; (with_reducible repeat (first | refine blk_drewN ?_ _ | refine blk_drew ?_ | refine blk_alloc ?_ _)); refine blk_far ?_ NB264_266.out _; (with_reducible repeat (first | refine blk_drewN ?_ _ | refine blk_drew ?_ | refine blk_alloc ?_ _)); exact BK264.out) hb); have n4_ := Aside0.mk (blk_below (g := gb266) (o := .cells #[.int .i64 ((rd_T25 l0 x30_1).f0), .int .i64 ((rd_T25 l0 x30_1).f1), .int .u8 ((rd_T25 l0 x30_1).f2)] 25 (0, 0)) (by (with_reducible repeat (first | refine blk_drewN ?_ _ | refine blk_drew ?_ | refine blk_alloc ?_ _)); refine blk_put (cs := #[.int .i64 ((rd_T25 l0 x30_1).f0), .int .i64 ((rd_T25 l0 x30_1).f1), .int .u8 0]) ?_ 2 _ rfl; (with_reducible repeat (first | refine blk_drewN ?_ _ | refine blk_drew ?_ | refine blk_alloc ?_ _)); refine blk_put (cs := #[.int .i64 ((rd_T25 l0 x30_1).f0), .int .i64 0, .int .u8 0]) ?_ 1 _ rfl; (with_reducible repeat (first | refine blk_drewN ?_ _ | refine blk_drew ?_ | refine blk_alloc ?_ _)); refine blk_put (cs := #[.int .i64 0, .int .i64 0, .int .u8 0]) ?_ 0 _ rfl; (with_reducible repeat (first | refine blk_drewN ?_ _ | refine blk_drew ?_ | refine blk_alloc ?_ _)); exact BK266.out) hb); have n5_ := Aside0.mk (below_step (by repeat (first | (with_reducible first | exact HB.out | apply below_alloc | apply pw_below_drewN | apply below_drew1 | refine below_set ?_ GE263.out | refine below_set ?_ GE264.out | refine below_set ?_ GE266.out) | exact HB.out)) hb); clear HO_265000; clear BK263; clear BK264; clear BK266; clear HB; have HO_265000 := n0_; have HO270 := n1_; have BK263 := n2_; have BK264 := n3_; have BK266 := n4_; have HB := n5_; clear n0_ n1_ n2_ n3_ n4_ n5_; (try clear hb); (try clear hb2); (try clear hk); (try clear hi); (try clear ho0)) | ((with_reducible refine gate_dst (N := 9) rfl ?_); (try (refine gate_guard (by rfl) ?_; dsimp only)); refine box_event ?hg (N := 9) ?hd (cs := #[.int .i64 0]) (t := 23) ?hr ?_; (case hd => rfl); (case hg => rfl); (case hr => first | (go_simp; done) | (go_simp; rfl)); intro gb272 hg w141 hbox hb; have n0_ := Aside0.mk (Kd.R_below (by (with_reducible repeat (first | apply Kd.R_alloc | apply Kd.R_drewN | apply Kd.R_drew)); exact HO_265000.out) hb); have n1_ := Aside0.mk (Kd.R_below (by (with_reducible repeat (first | apply Kd.R_alloc | apply Kd.R_drewN | apply Kd.R_drew)); exact HO270.out) hb); have n2_ := Aside0.mk (blk_below (g := gb263) (o := .cells #[.int .i64 x264000_1] 23 (0, 0)) (by (with_reducible repeat (first | refine blk_drewN ?_ _ | refine blk_drew ?_ | refine blk_alloc ?_ _)); exact BK263.out) hb); have n3_ := Aside0.mk (blk_below (g := gb264) (o := .cells #[u265000] 57 (0, 0)) (by (with_reducible repeat (first | refine blk_drewN ?_ _ | refine blk_drew ?_ | refine blk_alloc ?_ _)); exact BK264.out) hb); have n4_ := Aside0.mk (blk_below (g := gb266) (o := .cells #[.int .i64 ((rd_T25 l0 x30_1).f0), .int .i64 ((rd_T25 l0 x30_1).f1), .int .u8 ((rd_T25 l0 x30_1).f2)] 25 (0, 0)) (by (with_reducible repeat (first | refine blk_drewN ?_ _ | refine blk_drew ?_ | refine blk_alloc ?_ _)); exact BK266.out) hb); have n5_ := Aside0.mk (below_step (by repeat (first | (with_reducible first | exact HB.out | apply below_alloc | apply pw_below_drewN | apply below_drew1 | refine below_set ?_ GE263.out | refine below_set ?_ GE264.out | refine below_set ?_ GE266.out) | exact HB.out)) hb); have n6_ := Aside0.mk (hbox); have n7_ := Aside0.mk ((by rw [hg]; exact (below_size (by repeat (first | (with_reducible first | exact HB.out | apply below_alloc | apply pw_below_drewN | apply below_drew1 | refine below_set ?_ GE263.out | refine below_set ?_ GE264.out | refine below_set ?_ GE266.out) | exact HB.out))) : w.heap.size ≤ gb272)); have n8_ := Aside0.mk ((by rw [hg]; exact (below_size (by repeat (first | (with_reducible first | exact HB.out | apply below_alloc | apply pw_below_drewN | apply below_drew1 | refine below_set ?_ GE263.out | refine below_set ?_ GE264.out | refine below_set ?_ GE266.out) | exact HB.out))) : w.heap.size ≤ gb272)); have n9_ := Aside0.mk ((by rw [hg]; exact Nat.ne_of_lt (blk_lt (g := gb263) (o := .cells #[.int .i64 x264000_1] 23 (0, 0)) (by (with_reducible repeat (first | refine blk_drewN ?_ _ | refine blk_drew ?_ | refine blk_alloc ?_ _)); exact BK263.out)) : gb263 ≠ gb272)); have n10_ := Aside0.mk ((by rw [hg]; exact Nat.ne_of_gt (blk_lt (g := gb263) (o := .cells #[.int .i64 x264000_1] 23 (0, 0)) (by (with_reducible repeat (first | refine blk_drewN ?_ _ | refine blk_drew ?_ | refine blk_alloc ?_ _)); exact BK263.out)) : gb272 ≠ gb263)); have n11_ := Aside0.mk ((by rw [hg]; exact Nat.ne_of_lt (blk_lt (g := gb264) (o := .cells #[u265000] 57 (0, 0)) (by (with_reducible repeat (first | refine blk_drewN ?_ _ | refine blk_drew ?_ | refine blk_alloc ?_ _)); exact BK264.out)) : gb264 ≠ gb272)); have n12_ := Aside0.mk ((by rw [hg]; exact Nat.ne_of_gt (blk_lt (g := gb264) (o := .cells #[u265000] 57 (0, 0)) (by (with_reducible repeat (first | refine blk_drewN ?_ _ | refine blk_drew ?_ | refine blk_alloc ?_ _)); exact BK264.out)) : gb272 ≠ gb264)); have n13_ := Aside0.mk ((by rw [hg]; exact Nat.ne_of_lt (blk_lt (g := gb266) (o := .cells #[.int .i64 ((rd_T25 l0 x30_1).f0), .int .i64 ((rd_T25 l0 x30_1).f1), .int .u8 ((rd_T25 l0 x30_1).f2)] 25 (0, 0)) (by (with_reducible repeat (first | refine blk_drewN ?_ _ | refine blk_drew ?_ | refine blk_alloc ?_ _)); exact BK266.out)) : gb266 ≠ gb272)); have n14_ := Aside0.mk ((by rw [hg]; exact Nat.ne_of_gt (blk_lt (g := gb266) (o := .cells #[.int .i64 ((rd_T25 l0 x30_1).f0), .int .i64 ((rd_T25 l0 x30_1).f1), .int .u8 ((rd_T25 l0 x30_1).f2)] 25 (0, 0)) (by (with_reducible repeat (first | refine blk_drewN ?_ _ | refine blk_drew ?_ | refine blk_alloc ?_ _)); exact BK266.out)) : gb272 ≠ gb266)); clear HO_265000; clear HO270; clear BK263; clear BK264; clear BK266; clear HB; have HO_265000 := n0_; have HO270 := n1_; have BK263 := n2_; have BK264 := n3_; have BK266 := n4_; have HB := n5_; have BK272 := n6_; have GW272 := n7_; have GE272 := n8_; have NB263_272 := n9_; have NB272_263 := n10_; have NB264_272 := n11_; have NB272_264 := n12_; have NB266_272 := n13_; have NB272_266 := n14_; clear n0_ n1_ n2_ n3_ n4_ n5_ n6_ n7_ n8_ n9_ n10_ n11_ n12_ n13_ n14_; clear hb hbox hg; have hnb142 := NB272_263.out; have hnc142 := NB263_272.out; have hnb143 := NB272_264.out; have hnc143 := NB264_272.out; have hnb144 := NB272_266.out; have hnc144 := NB266_272.out; have hcz145_0 : w141.cell? ⟨gb272, 0, none⟩ = some (.int .i64 0) := (blk_cell BK272.out 0).trans rfl; have hfz145_0 := blk_frozen BK272.out 0))
                  go_roundg k1
                  case measure => have := HK1.out; omega
                  case rel => exact ⟨(wrap64 (x30_1 + 1)), (x264000_1), (x265000_1), (u265000), (by first | rfl | (simp; done) | (simp [*]; done)), H', ⟨by have := HK1.out; omega⟩, ⟨by (with_reducible repeat (first | apply Kd.R_alloc | apply Kd.R_drewN | apply Kd.R_drew)); exact Kd.R_mono (Kd.R_far (p := ⟨gb272, 0, none⟩) (Kd.R_types HO_265000.out BK272.out (by decide)) (fun _ hk => hk.2) (.int .i64 t267)) (fun _ hk => trivial)⟩, ⟨by (with_reducible repeat (first | refine blk_drewN ?_ _ | refine blk_drew ?_ | refine blk_alloc ?_ _)); refine blk_far ?_ NB263_272.out _; (with_reducible repeat (first | refine blk_drewN ?_ _ | refine blk_drew ?_ | refine blk_alloc ?_ _)); exact BK263.out⟩, ⟨by (with_reducible repeat (first | refine blk_drewN ?_ _ | refine blk_drew ?_ | refine blk_alloc ?_ _)); refine blk_far ?_ NB264_272.out _; (with_reducible repeat (first | refine blk_drewN ?_ _ | refine blk_drew ?_ | refine blk_alloc ?_ _)); exact BK264.out⟩, ⟨by repeat (first | (with_reducible first | exact HB.out | apply below_alloc | apply pw_below_drewN | apply below_drew1 | refine below_set ?_ GE263.out | refine below_set ?_ GE264.out | refine below_set ?_ GE266.out | refine below_set ?_ GE272.out) | exact HB.out)⟩⟩
              · rw [if_neg c15] at H
                exact absurd H (by simp)
            · rw [if_neg c14] at H
              exact absurd H (by simp)
          · rw [if_neg c13] at H
            have c13b0 : decide (x30_1 < (l0.length : Int)) = false := decide_eq_false c13
            clear c13
            obtain rfl := Option.some.inj H
            go_wp2
            go_ret
            exact ⟨by first | rfl | (simp [errW_none, errW_some] <;> rfl) | (simp [*, errW_none, errW_some] <;> rfl), by repeat (first | (with_reducible first | exact HB.out | apply below_alloc | apply pw_below_drewN | apply below_drew1 | refine below_set ?_ GE263.out | refine below_set ?_ GE264.out) | exact HB.out)⟩
  · replace c4 := Bool.eq_false_iff.mpr c4
    subst c4
    have H1 : (none) = some r := by rw [if_neg (show ¬ (false = true) by decide)] at H; exact H
    clear H
    have H := H1
    clear H1
    exact absurd H (by simp)

end Go.Proofs.YtenaokgcljpcgaaDoor.GQ
