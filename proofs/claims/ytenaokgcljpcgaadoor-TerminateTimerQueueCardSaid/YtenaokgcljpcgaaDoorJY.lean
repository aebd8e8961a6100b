import Derived.Test.YtenaokgcljpcgaaDoorJX
set_option linter.unusedVariables false
set_option linter.unusedSimpArgs false
namespace Go.Proofs.YtenaokgcljpcgaaDoor.GQ
open Go.RowKit Go.Proofs.YtenaokgcljpcgaaDoorW.PrintWords Go.Proofs.YtenaokgcljpcgaaDoorW.PrintLast Go.Proofs.YtenaokgcljpcgaaDoorW.PrintMore
set_option maxRecDepth 100000 in
set_option maxHeartbeats 4000000 in
theorem step_b (s kd c dg : Int) (w : World) (hT : Tab w) (hs : terminate_Check.f s = some 0) (hk : (kd == 10) = true) (hk2 : (s != 0) = false) :
    Calls Tryd.prog 13 #[.agg #[.int .i64 s], .agg #[.int .i64 kd, .int .i64 c, .int .u8 dg]] w (StepDone w s kd c) := by
  have HT := Lib.hid hT
  have HS := Lib.hid hs
  clear hT hs
  go_enter Tryd.func13, Tryd.ntmps13
  go_wp2_with fail
  go_step3
  go_wp2_with fail
  refine (terminate_Check.calls s 0 _ HS.out).mono ?_
  rintro e w1 ⟨rfl, hb⟩
  obtain ⟨hcl, hfr⟩ := bcell hb
  have hz : w.heap.size + 1 + 1 < w1.heap.size := by have := hb.size; simp at this; omega
  have hB : Below w.heap.size w w1 := ((((Below.refl _ _).alloc (Nat.le_refl _) _).alloc (by simp) _).alloc (by simp; omega) _).trans (hb.mono (by simp; omega))
  have HO : OutW w s kd c w1 := ⟨hB, hz, by simp [go_sem, hcl, hz], by simp [go_sem, hcl, hz], by simp [go_sem, hcl, hz], by simp [go_sem, hcl, hz], by simp [go_sem, hfr, hz]⟩
  clear hcl hfr hb
  obtain ⟨tt, fr, htab⟩ := (tab_below HT.out hB).row
  obtain ⟨hB', hz', s0, e0, e1, x0, xf⟩ := HO
  go_wp2_with fail
  go_step3
  go_wp2_with (refine wpList_load_row rfl 83 _ rfl 0 rfl tt tabCells fr _ htab Tryd.underlying83 rfl (by kernel_rfl) ?_)
  have HO : OutW w s kd c w1 := ⟨hB', hz', s0, e0, e1, x0, xf⟩
  clear hB' hz' s0 e0 e1 x0 xf htab hz hB
  go_loopw [5, 29] (fun v i W => ∃ j : Nat, j ≤ 11 ∧ v = .slice none 0 0 ∧ i = .int .i64 (j : Int) ∧ OutW w s kd c W ∧ NoRow s kd j) (fun _ i _ => 11 - (intOf i).toNat)
  case atStart => exact ⟨0, by omega, rfl, rfl, HO, fun i hi => by omega⟩
  case round =>
    obtain ⟨j, hj, rfl, rfl, hO, hN⟩ := hrel
    by_cases hlt : j < 11
    · obtain ⟨r, hr⟩ : ∃ r, trow j = r := ⟨_, rfl⟩
      have hix : ∀ W, (Instr.index 83 (.agg tabCells) (.int .i64 (j : Int))).run Tryd.prog W = .ok (.agg #[.int .i64 r.st, .int .i64 r.ev, .int .i64 r.k0, .int .i64 r.c0, .string E, .int .i64 r.n0, .int .i64 r.k1, .int .i64 r.c1, .string E, .int .i64 r.n1, .int .i64 r.k2, .int .i64 r.c2, .string E, .int .i64 r.n2, .int .i64 r.nx]) W := fun W => by rw [← hr]; exact ixr j hlt W
      by_cases hm : r.st = s ∧ r.ev = kd
      · obtain ⟨h1, h2⟩ := hm
        have b1 : (r.st != s) = false := by rw [h1]; simp
        have b2 : (r.ev != kd) = false := by rw [h2]; simp
        have HF := Lib.hid h1
        have HE := Lib.hid h2
        have HR := Lib.hid hr
        have z0 := fun W => iy0 r.k0 r.c0 r.n0 r.k1 r.c1 r.n1 r.k2 r.c2 r.n2 W
        have z1 := fun W => iy1 r.k0 r.c0 r.n0 r.k1 r.c1 r.n1 r.k2 r.c2 r.n2 W
        have z2 := fun W => iy2 r.k0 r.c0 r.n0 r.k1 r.c1 r.n1 r.k2 r.c2 r.n2 W
        clear h1 h2 hr hN
        go_wp2_with ((with_reducible refine gate_store (t := 82) rfl ?_); (refine store_new rfl 82 _ _ rfl _ _ rfl rfl (by kernel_rfl) (by rfl) (by simp [Value.oneCell']) ?_); intro w2 hr2 hb2; have hO2 := hO.below hb2; obtain ⟨hB', hz', s0, e0, e1, x0, xf⟩ := hO2; have cs0 : w2.cell? ⟨wr.heap.size, 0, none⟩ = some (.int .i64 r.st) := blk_cell hr2 0; have cs1 : w2.cell? ⟨wr.heap.size, 1, none⟩ = some (.int .i64 r.ev) := blk_cell hr2 1; have q2 := blk_cell hr2 2; have q3 := blk_cell hr2 3; have q4 := blk_cell hr2 4; have q5 := blk_cell hr2 5; have q6 := blk_cell hr2 6; have q7 := blk_cell hr2 7; have q8 := blk_cell hr2 8; have q9 := blk_cell hr2 9; have q10 := blk_cell hr2 10; have q11 := blk_cell hr2 11; have q12 := blk_cell hr2 12; have q13 := blk_cell hr2 13; simp at q2 q3 q4 q5 q6 q7 q8 q9 q10 q11 q12 q13)
        have hnx : w2.heap[wr.heap.size]? = some (.cells #[.int .i64 r.st, .int .i64 r.ev, .int .i64 r.k0, .int .i64 r.c0, .string E, .int .i64 r.n0, .int .i64 r.k1, .int .i64 r.c1, .string E, .int .i64 r.n1, .int .i64 r.k2, .int .i64 r.c2, .string E, .int .i64 r.n2, .int .i64 r.nx] 82 (0, 0)) := hr2
        have hO2 : OutW w s kd c w2 := ⟨hB', hz', s0, e0, e1, x0, xf⟩
        have hlt2 : wr.heap.size < w2.heap.size := blk_lt hr2
        clear hr2 q2 q3 q4 q5 q6 q7 q8 q9 q10 q11 q12 q13 cs0 cs1 hz' s0 e0 e1 x0 xf hO hb2 hix b1 b2 HO
        obtain ⟨wo, rfl⟩ : ∃ wo : World, wo = wr := ⟨_, rfl⟩
        go_loopw [5, 46] (fun v i W => ∃ q : Nat, q ≤ 3 ∧ i = .int .i64 (q : Int) ∧ Below w2.heap.size w2 W ∧ W.ownsRow w2.heap.size 46 4 v q (cells46 (emit r c q)) ∧ KNZ r q) (fun _ i _ => 3 - (intOf i).toNat)
        case atStart => exact ⟨0, by omega, rfl, Below.refl _ _, World.ownsRow_nil _ _ _ _, fun i hi => by omega⟩
        case round =>
          obtain ⟨q, hq, rfl, hbW, hown, hK⟩ := hrel
          obtain ⟨v, rfl⟩ : ∃ v, v = u5 := ⟨_, rfl⟩
          have hO3 := hO2.below hbW
          have hn3 := blk_below hnx hbW
          have hsz := hbW.size
          obtain ⟨hB3, hz3, s0, e0, e1, x0, xf⟩ := hO3
          have nx0 : wr.cell? ⟨wo.heap.size, 14, none⟩ = some (.int .i64 r.nx) := blk_cell hn3 14
          clear hn3
          have hqc : q = 0 ∨ q = 1 ∨ q = 2 ∨ q = 3 := by omega
          rcases hqc with rfl | rfl | rfl | rfl
          · obtain ⟨i0, hi, hz0, hz1, hz2⟩ := info_parts info46'
            by_cases g0 : r.k0 = 0
            · have g1 : (r.k0 == 0) = true := by rw [g0]; rfl
              have HG := Lib.hid g0
              clear g0
              go_wp2_with ((with_reducible refine gate_store (t := 46) rfl ?_); (refine store_new rfl 46 _ _ rfl _ _ rfl rfl (by kernel_rfl) (by rfl) (by simp [Value.oneCell']) ?_); intro w4 hr4 hb4; have d0 : w4.cell? ⟨wr.heap.size, 0, none⟩ = some (.int .i64 r.k0) := blk_cell hr4 0; have d1 : w4.cell? ⟨wr.heap.size, 1, none⟩ = some (.int .i64 r.c0) := blk_cell hr4 1; have d2 : w4.cell? ⟨wr.heap.size, 2, none⟩ = some (.string E) := blk_cell hr4 2; have d3 : w4.cell? ⟨wr.heap.size, 3, none⟩ = some (.int .i64 r.n0) := blk_cell hr4 3; have f1 := blk_frozen hr4 1; have hO4 := (OutW.mk hB3 hz3 s0 e0 e1 x0 xf).below hb4; obtain ⟨hB5, hz5, s5, e50, e51, x5, xf5⟩ := hO4; have nx5 : w4.cell? ⟨wo.heap.size, 14, none⟩ = some (.int .i64 r.nx) := (hb4.cell (p := ⟨_, _, none⟩) (by show wo.heap.size < _; omega)).trans nx0; have hlt4 : wr.heap.size < w4.heap.size := blk_lt hr4)
              try rw [Exit.noGoto_ret]
              refine bodyPost_ret (v := .tuple #[.agg #[.int .i64 r.nx], v, .int .i64 0]) (by simp [results, Tryd.results13, go_sem, x5]) rfl ?_
              exact step_end (u2 := undef) hlt HR.out HF.out HE.out hq hK (.inr HG.out) hB' (hbW.trans (hb4.mono hsz)) (own_step hown hb4) (by have := hO2.sz; show w.heap.size + 1 + 1 < w2.heap.size; omega) (by show w.heap.size ≤ w.heap.size + 1 + 1; omega)
            · have g1 : (r.k0 == 0) = false := beq_eq_false_iff_ne.mpr g0
              have HK1 := Lib.hid (hK.succ g0)
              clear g0
              by_cases g3 : r.k0 = 3
              · have g4 : (r.k0 == 3) = true := by rw [g3]; rfl
                have HA : Hid (act r c 0 = ⟨r.k0, c, E, r.n0⟩) := by show _ = _; simp [act, g3]
                clear g3
                go_wp2_with (first | ((with_reducible refine gate_store (t := 46) rfl ?_); (refine store_new rfl 46 _ _ rfl _ _ rfl rfl (by kernel_rfl) (by rfl) (by simp [Value.oneCell']) ?_); intro w4 hr4 hb4; have d0 : w4.cell? ⟨wr.heap.size, 0, none⟩ = some (.int .i64 r.k0) := blk_cell hr4 0; have d1 : w4.cell? ⟨wr.heap.size, 1, none⟩ = some (.int .i64 r.c0) := blk_cell hr4 1; have d2 : w4.cell? ⟨wr.heap.size, 2, none⟩ = some (.string E) := blk_cell hr4 2; have d3 : w4.cell? ⟨wr.heap.size, 3, none⟩ = some (.int .i64 r.n0) := blk_cell hr4 3; have f1 := blk_frozen hr4 1; have hO4 := (OutW.mk hB3 hz3 s0 e0 e1 x0 xf).below hb4; obtain ⟨hB5, hz5, s5, e50, e51, x5, xf5⟩ := hO4; have nx5 : w4.cell? ⟨wo.heap.size, 14, none⟩ = some (.int .i64 r.nx) := (hb4.cell (p := ⟨_, _, none⟩) (by show wo.heap.size < _; omega)).trans nx0; have hlt4 : wr.heap.size < w4.heap.size := blk_lt hr4; have HBX : Below wr.heap.size wr (w4.setCell ⟨wr.heap.size, 1, none⟩ (.int .i64 c)) := hb4.setCell (Nat.le_refl _) _; have HX := own_step hown HBX) | (at_builtin; refine wpList_append_own _ rfl _ _ 27 rfl w2.heap.size 46 i0 (.agg #[.int .i64 0, .int .i64 0, .string E, .int .i64 0]) 4 40 Tryd.underlying27 hi hz0 hz1 hz2 rfl (by decide) v 0 (cells46 (emit r c 0)) rfl (HX.alloc _) ⟨w4.heap.size, 0, none⟩ 1 1 [.int .i64 r.k0, .int .i64 c, .string E, .int .i64 r.n0] rfl rfl (new4 _ _ (by simp) _ _ _) (by simp [Value.oneCell']) (by simp [maxLen]) (by omega) (by have := hb4.size; simp; omega) ?_; intro v7 w7 hown7 hg7 _; obtain ⟨hb7, ho7⟩ := app_next hbW HBX hown HA.out hown7 hg7; clear hown7 hg7))
                go_roundw
                case rel => exact ⟨0 + 1, by omega, by go_num, hb7, ho7, HK1.out⟩
                case measure => simp [intOf]
              · have g4 : (r.k0 == 3) = false := beq_eq_false_iff_ne.mpr g3
                have HA : Hid (act r c 0 = ⟨r.k0, r.c0, E, r.n0⟩) := by show _ = _; simp [act, g3]
                clear g3
                go_wp2_with (first | ((with_reducible refine gate_store (t := 46) rfl ?_); (refine store_new rfl 46 _ _ rfl _ _ rfl rfl (by kernel_rfl) (by rfl) (by simp [Value.oneCell']) ?_); intro w4 hr4 hb4; have d0 : w4.cell? ⟨wr.heap.size, 0, none⟩ = some (.int .i64 r.k0) := blk_cell hr4 0; have d1 : w4.cell? ⟨wr.heap.size, 1, none⟩ = some (.int .i64 r.c0) := blk_cell hr4 1; have d2 : w4.cell? ⟨wr.heap.size, 2, none⟩ = some (.string E) := blk_cell hr4 2; have d3 : w4.cell? ⟨wr.heap.size, 3, none⟩ = some (.int .i64 r.n0) := blk_cell hr4 3; have f1 := blk_frozen hr4 1; have hO4 := (OutW.mk hB3 hz3 s0 e0 e1 x0 xf).below hb4; obtain ⟨hB5, hz5, s5, e50, e51, x5, xf5⟩ := hO4; have nx5 : w4.cell? ⟨wo.heap.size, 14, none⟩ = some (.int .i64 r.nx) := (hb4.cell (p := ⟨_, _, none⟩) (by show wo.heap.size < _; omega)).trans nx0; have hlt4 : wr.heap.size < w4.heap.size := blk_lt hr4; have HBX : Below wr.heap.size wr w4 := hb4; have HX := own_step hown HBX) | (at_builtin; refine wpList_append_own _ rfl _ _ 27 rfl w2.heap.size 46 i0 (.agg #[.int .i64 0, .int .i64 0, .string E, .int .i64 0]) 4 40 Tryd.underlying27 hi hz0 hz1 hz2 rfl (by decide) v 0 (cells46 (emit r c 0)) rfl (HX.alloc _) ⟨w4.heap.size, 0, none⟩ 1 1 [.int .i64 r.k0, .int .i64 r.c0, .string E, .int .i64 r.n0] rfl rfl (new4 _ _ (by simp) _ _ _) (by simp [Value.oneCell']) (by simp [maxLen]) (by omega) (by have := hb4.size; simp; omega) ?_; intro v7 w7 hown7 hg7 _; obtain ⟨hb7, ho7⟩ := app_next hbW HBX hown HA.out hown7 hg7; clear hown7 hg7))
                go_roundw
                case rel => exact ⟨0 + 1, by omega, by go_num, hb7, ho7, HK1.out⟩
                case measure => simp [intOf]
          · obtain ⟨i0, hi, hz0, hz1, hz2⟩ := info_parts info46'
            by_cases g0 : r.k1 = 0
            · have g1 : (r.k1 == 0) = true := by rw [g0]; rfl
              have HG := Lib.hid g0
              clear g0
              go_wp2_with ((with_reducible refine gate_store (t := 46) rfl ?_); (refine store_new rfl 46 _ _ rfl _ _ rfl rfl (by kernel_rfl) (by rfl) (by simp [Value.oneCell']) ?_); intro w4 hr4 hb4; have d0 : w4.cell? ⟨wr.heap.size, 0, none⟩ = some (.int .i64 r.k1) := blk_cell hr4 0; have d1 : w4.cell? ⟨wr.heap.size, 1, none⟩ = some (.int .i64 r.c1) := blk_cell hr4 1; have d2 : w4.cell? ⟨wr.heap.size, 2, none⟩ = some (.string E) := blk_cell hr4 2; have d3 : w4.cell? ⟨wr.heap.size, 3, none⟩ = some (.int .i64 r.n1) := blk_cell hr4 3; have f1 := blk_frozen hr4 1; have hO4 := (OutW.mk hB3 hz3 s0 e0 e1 x0 xf).below hb4; obtain ⟨hB5, hz5, s5, e50, e51, x5, xf5⟩ := hO4; have nx5 : w4.cell? ⟨wo.heap.size, 14, none⟩ = some (.int .i64 r.nx) := (hb4.cell (p := ⟨_, _, none⟩) (by show wo.heap.size < _; omega)).trans nx0; have hlt4 : wr.heap.size < w4.heap.size := blk_lt hr4)
              try rw [Exit.noGoto_ret]
              refine bodyPost_ret (v := .tuple #[.agg #[.int .i64 r.nx], v, .int .i64 0]) (by simp [results, Tryd.results13, go_sem, x5]) rfl ?_
              exact step_end (u2 := undef) hlt HR.out HF.out HE.out hq hK (.inr HG.out) hB' (hbW.trans (hb4.mono hsz)) (own_step hown hb4) (by have := hO2.sz; show w.heap.size + 1 + 1 < w2.heap.size; omega) (by show w.heap.size ≤ w.heap.size + 1 + 1; omega)
            · have g1 : (r.k1 == 0) = false := beq_eq_false_iff_ne.mpr g0
              have HK1 := Lib.hid (hK.succ g0)
              clear g0
              by_cases g3 : r.k1 = 3
              · have g4 : (r.k1 == 3) = true := by rw [g3]; rfl
                have HA : Hid (act r c 1 = ⟨r.k1, c, E, r.n1⟩) := by show _ = _; simp [act, g3]
                clear g3
                go_wp2_with (first | ((with_reducible refine gate_store (t := 46) rfl ?_); (refine store_new rfl 46 _ _ rfl _ _ rfl rfl (by kernel_rfl) (by rfl) (by simp [Value.oneCell']) ?_); intro w4 hr4 hb4; have d0 : w4.cell? ⟨wr.heap.size, 0, none⟩ = some (.int .i64 r.k1) := blk_cell hr4 0; have d1 : w4.cell? ⟨wr.heap.size, 1, none⟩ = some (.int .i64 r.c1) := blk_cell hr4 1; have d2 : w4.cell? ⟨wr.heap.size, 2, none⟩ = some (.string E) := blk_cell hr4 2; have d3 : w4.cell? ⟨wr.heap.size, 3, none⟩ = some (.int .i64 r.n1) := blk_cell hr4 3; have f1 := blk_frozen hr4 1; have hO4 := (OutW.mk hB3 hz3 s0 e0 e1 x0 xf).below hb4; obtain ⟨hB5, hz5, s5, e50, e51, x5, xf5⟩ := hO4; have nx5 : w4.cell? ⟨wo.heap.size, 14, none⟩ = some (.int .i64 r.nx) := (hb4.cell (p := ⟨_, _, none⟩) (by show wo.heap.size < _; omega)).trans nx0; have hlt4 : wr.heap.size < w4.heap.size := blk_lt hr4; have HBX : Below wr.heap.size wr (w4.setCell ⟨wr.heap.size, 1, none⟩ (.int .i64 c)) := hb4.setCell (Nat.le_refl _) _; have HX := own_step hown HBX) | (at_builtin; refine wpList_append_own _ rfl _ _ 27 rfl w2.heap.size 46 i0 (.agg #[.int .i64 0, .int .i64 0, .string E, .int .i64 0]) 4 40 Tryd.underlying27 hi hz0 hz1 hz2 rfl (by decide) v 1 (cells46 (emit r c 1)) rfl (HX.alloc _) ⟨w4.heap.size, 0, none⟩ 1 1 [.int .i64 r.k1, .int .i64 c, .string E, .int .i64 r.n1] rfl rfl (new4 _ _ (by simp) _ _ _) (by simp [Value.oneCell']) (by simp [maxLen]) (by omega) (by have := hb4.size; simp; omega) ?_; intro v7 w7 hown7 hg7 _; obtain ⟨hb7, ho7⟩ := app_next hbW HBX hown HA.out hown7 hg7; clear hown7 hg7))
                go_roundw
                case rel => exact ⟨1 + 1, by omega, by go_num, hb7, ho7, HK1.out⟩
                case measure => simp [intOf]
              · have g4 : (r.k1 == 3) = false := beq_eq_false_iff_ne.mpr g3
                have HA : Hid (act r c 1 = ⟨r.k1, r.c1, E, r.n1⟩) := by show _ = _; simp [act, g3]
                clear g3
                go_wp2_with (first | ((with_reducible refine gate_store (t := 46) rfl ?_); (refine store_new rfl 46 _ _ rfl _ _ rfl rfl (by kernel_rfl) (by rfl) (by simp [Value.oneCell']) ?_); intro w4 hr4 hb4; have d0 : w4.cell? ⟨wr.heap.size, 0, none⟩ = some (.int .i64 r.k1) := blk_cell hr4 0; have d1 : w4.cell? ⟨wr.heap.size, 1, none⟩ = some (.int .i64 r.c1) := blk_cell hr4 1; have d2 : w4.cell? ⟨wr.heap.size, 2, none⟩ = some (.string E) := blk_cell hr4 2; have d3 : w4.cell? ⟨wr.heap.size, 3, none⟩ = some (.int .i64 r.n1) := blk_cell hr4 3; have f1 := blk_frozen hr4 1; have hO4 := (OutW.mk hB3 hz3 s0 e0 e1 x0 xf).below hb4; obtain ⟨hB5, hz5, s5, e50, e51, x5, xf5⟩ := hO4; have nx5 : w4.cell? ⟨wo.heap.size, 14, none⟩ = some (.int .i64 r.nx) := (hb4.cell (p := ⟨_, _, none⟩) (by show wo.heap.size < _; omega)).trans nx0; have hlt4 : wr.heap.size < w4.heap.size := blk_lt hr4; have HBX : Below wr.heap.size wr w4 := hb4; have HX := own_step hown HBX) | (at_builtin; refine wpList_append_own _ rfl _ _ 27 rfl w2.heap.size 46 i0 (.agg #[.int .i64 0, .int .i64 0, .string E, .int .i64 0]) 4 40 Tryd.underlying27 hi hz0 hz1 hz2 rfl (by decide) v 1 (cells46 (emit r c 1)) rfl (HX.alloc _) ⟨w4.heap.size, 0, none⟩ 1 1 [.int .i64 r.k1, .int .i64 r.c1, .string E, .int .i64 r.n1] rfl rfl (new4 _ _ (by simp) _ _ _) (by simp [Value.oneCell']) (by simp [maxLen]) (by omega) (by have := hb4.size; simp; omega) ?_; intro v7 w7 hown7 hg7 _; obtain ⟨hb7, ho7⟩ := app_next hbW HBX hown HA.out hown7 hg7; clear hown7 hg7))
                go_roundw
                case rel => exact ⟨1 + 1, by omega, by go_num, hb7, ho7, HK1.out⟩
                case measure => simp [intOf]
          · obtain ⟨i0, hi, hz0, hz1, hz2⟩ := info_parts info46'
            by_cases g0 : r.k2 = 0
            · have g1 : (r.k2 == 0) = true := by rw [g0]; rfl
              have HG := Lib.hid g0
              clear g0
              go_wp2_with ((with_reducible refine gate_store (t := 46) rfl ?_); (refine store_new rfl 46 _ _ rfl _ _ rfl rfl (by kernel_rfl) (by rfl) (by simp [Value.oneCell']) ?_); intro w4 hr4 hb4; have d0 : w4.cell? ⟨wr.heap.size, 0, none⟩ = some (.int .i64 r.k2) := blk_cell hr4 0; have d1 : w4.cell? ⟨wr.heap.size, 1, none⟩ = some (.int .i64 r.c2) := blk_cell hr4 1; have d2 : w4.cell? ⟨wr.heap.size, 2, none⟩ = some (.string E) := blk_cell hr4 2; have d3 : w4.cell? ⟨wr.heap.size, 3, none⟩ = some (.int .i64 r.n2) := blk_cell hr4 3; have f1 := blk_frozen hr4 1; have hO4 := (OutW.mk hB3 hz3 s0 e0 e1 x0 xf).below hb4; obtain ⟨hB5, hz5, s5, e50, e51, x5, xf5⟩ := hO4; have nx5 : w4.cell? ⟨wo.heap.size, 14, none⟩ = some (.int .i64 r.nx) := (hb4.cell (p := ⟨_, _, none⟩) (by show wo.heap.size < _; omega)).trans nx0; have hlt4 : wr.heap.size < w4.heap.size := blk_lt hr4)
              try rw [Exit.noGoto_ret]
              refine bodyPost_ret (v := .tuple #[.agg #[.int .i64 r.nx], v, .int .i64 0]) (by simp [results, Tryd.results13, go_sem, x5]) rfl ?_
              exact step_end (u2 := undef) hlt HR.out HF.out HE.out hq hK (.inr HG.out) hB' (hbW.trans (hb4.mono hsz)) (own_step hown hb4) (by have := hO2.sz; show w.heap.size + 1 + 1 < w2.heap.size; omega) (by show w.heap.size ≤ w.heap.size + 1 + 1; omega)
            · have g1 : (r.k2 == 0) = false := beq_eq_false_iff_ne.mpr g0
              have HK1 := Lib.hid (hK.succ g0)
              clear g0
              by_cases g3 : r.k2 = 3
              · have g4 : (r.k2 == 3) = true := by rw [g3]; rfl
                have HA : Hid (act r c 2 = ⟨r.k2, c, E, r.n2⟩) := by show _ = _; simp [act, g3]
                clear g3
                go_wp2_with (first | ((with_reducible refine gate_store (t := 46) rfl ?_); (refine store_new rfl 46 _ _ rfl _ _ rfl rfl (by kernel_rfl) (by rfl) (by simp [Value.oneCell']) ?_); intro w4 hr4 hb4; have d0 : w4.cell? ⟨wr.heap.size, 0, none⟩ = some (.int .i64 r.k2) := blk_cell hr4 0; have d1 : w4.cell? ⟨wr.heap.size, 1, none⟩ = some (.int .i64 r.c2) := blk_cell hr4 1; have d2 : w4.cell? ⟨wr.heap.size, 2, none⟩ = some (.string E) := blk_cell hr4 2; have d3 : w4.cell? ⟨wr.heap.size, 3, none⟩ = some (.int .i64 r.n2) := blk_cell hr4 3; have f1 := blk_frozen hr4 1; have hO4 := (OutW.mk hB3 hz3 s0 e0 e1 x0 xf).below hb4; obtain ⟨hB5, hz5, s5, e50, e51, x5, xf5⟩ := hO4; have nx5 : w4.cell? ⟨wo.heap.size, 14, none⟩ = some (.int .i64 r.nx) := (hb4.cell (p := ⟨_, _, none⟩) (by show wo.heap.size < _; omega)).trans nx0; have hlt4 : wr.heap.size < w4.heap.size := blk_lt hr4; have HBX : Below wr.heap.size wr (w4.setCell ⟨wr.heap.size, 1, none⟩ (.int .i64 c)) := hb4.setCell (Nat.le_refl _) _; have HX := own_step hown HBX) | (at_builtin; refine wpList_append_own _ rfl _ _ 27 rfl w2.heap.size 46 i0 (.agg #[.int .i64 0, .int .i64 0, .string E, .int .i64 0]) 4 40 Tryd.underlying27 hi hz0 hz1 hz2 rfl (by decide) v 2 (cells46 (emit r c 2)) rfl (HX.alloc _) ⟨w4.heap.size, 0, none⟩ 1 1 [.int .i64 r.k2, .int .i64 c, .string E, .int .i64 r.n2] rfl rfl (new4 _ _ (by simp) _ _ _) (by simp [Value.oneCell']) (by simp [maxLen]) (by omega) (by have := hb4.size; simp; omega) ?_; intro v7 w7 hown7 hg7 _; obtain ⟨hb7, ho7⟩ := app_next hbW HBX hown HA.out hown7 hg7; clear hown7 hg7))
                go_roundw
                case rel => exact ⟨2 + 1, by omega, by go_num, hb7, ho7, HK1.out⟩
                case measure => simp [intOf]
              · have g4 : (r.k2 == 3) = false := beq_eq_false_iff_ne.mpr g3
                have HA : Hid (act r c 2 = ⟨r.k2, r.c2, E, r.n2⟩) := by show _ = _; simp [act, g3]
                clear g3
                go_wp2_with (first | ((with_reducible refine gate_store (t := 46) rfl ?_); (refine store_new rfl 46 _ _ rfl _ _ rfl rfl (by kernel_rfl) (by rfl) (by simp [Value.oneCell']) ?_); intro w4 hr4 hb4; have d0 : w4.cell? ⟨wr.heap.size, 0, none⟩ = some (.int .i64 r.k2) := blk_cell hr4 0; have d1 : w4.cell? ⟨wr.heap.size, 1, none⟩ = some (.int .i64 r.c2) := blk_cell hr4 1; have d2 : w4.cell? ⟨wr.heap.size, 2, none⟩ = some (.string E) := blk_cell hr4 2; have d3 : w4.cell? ⟨wr.heap.size, 3, none⟩ = some (.int .i64 r.n2) := blk_cell hr4 3; have f1 := blk_frozen hr4 1; have hO4 := (OutW.mk hB3 hz3 s0 e0 e1 x0 xf).below hb4; obtain ⟨hB5, hz5, s5, e50, e51, x5, xf5⟩ := hO4; have nx5 : w4.cell? ⟨wo.heap.size, 14, none⟩ = some (.int .i64 r.nx) := (hb4.cell (p := ⟨_, _, none⟩) (by show wo.heap.size < _; omega)).trans nx0; have hlt4 : wr.heap.size < w4.heap.size := blk_lt hr4; have HBX : Below wr.heap.size wr w4 := hb4; have HX := own_step hown HBX) | (at_builtin; refine wpList_append_own _ rfl _ _ 27 rfl w2.heap.size 46 i0 (.agg #[.int .i64 0, .int .i64 0, .string E, .int .i64 0]) 4 40 Tryd.underlying27 hi hz0 hz1 hz2 rfl (by decide) v 2 (cells46 (emit r c 2)) rfl (HX.alloc _) ⟨w4.heap.size, 0, none⟩ 1 1 [.int .i64 r.k2, .int .i64 r.c2, .string E, .int .i64 r.n2] rfl rfl (new4 _ _ (by simp) _ _ _) (by simp [Value.oneCell']) (by simp [maxLen]) (by omega) (by have := hb4.size; simp; omega) ?_; intro v7 w7 hown7 hg7 _; obtain ⟨hb7, ho7⟩ := app_next hbW HBX hown HA.out hown7 hg7; clear hown7 hg7))
                go_roundw
                case rel => exact ⟨2 + 1, by omega, by go_num, hb7, ho7, HK1.out⟩
                case measure => simp [intOf]
          · go_wp2_with fail
            try rw [Exit.noGoto_ret]
            refine bodyPost_ret (v := .tuple #[.agg #[.int .i64 r.nx], v, .int .i64 0]) (by simp [results, Tryd.results13, go_sem, x0]) rfl ?_
            exact step_end (u2 := undef) hlt HR.out HF.out HE.out hq hK (.inl rfl) hB' hbW hown (by have := hO2.sz; show w.heap.size + 1 + 1 < w2.heap.size; omega) (by show w.heap.size ≤ w.heap.size + 1 + 1; omega)
      · have HNext : NoRow s kd (j + 1) := hN.succ (by rw [hr]; exact hm)
        by_cases h1 : r.st = s
        · have b1 : (r.st != s) = false := by rw [h1]; simp
          have b2 : (r.ev != kd) = true := by rw [bne_iff_ne]; exact fun e => hm ⟨h1, e⟩
          have HR := Lib.hid hr
          clear hm h1 hr hN
          go_wp2_with ((with_reducible refine gate_store (t := 82) rfl ?_); (refine store_new rfl 82 _ _ rfl _ _ rfl rfl (by kernel_rfl) (by rfl) (by simp [Value.oneCell']) ?_); intro w2 hr2 hb2; have hO2 := hO.below hb2; obtain ⟨hB', hz', s0, e0, e1, x0, xf⟩ := hO2; have cs0 : w2.cell? ⟨wr.heap.size, 0, none⟩ = some (.int .i64 r.st) := blk_cell hr2 0; have cs1 : w2.cell? ⟨wr.heap.size, 1, none⟩ = some (.int .i64 r.ev) := blk_cell hr2 1; clear hr2)
          go_roundw
          case rel => exact ⟨j + 1, by omega, rfl, by go_num, hO.below hb2, HNext⟩
          case measure => simp [intOf]; omega
        · have b1 : (r.st != s) = true := by rw [bne_iff_ne]; exact h1
          have HR := Lib.hid hr
          clear hm h1 hr hN
          go_wp2_with ((with_reducible refine gate_store (t := 82) rfl ?_); (refine store_new rfl 82 _ _ rfl _ _ rfl rfl (by kernel_rfl) (by rfl) (by simp [Value.oneCell']) ?_); intro w2 hr2 hb2; have hO2 := hO.below hb2; obtain ⟨hB', hz', s0, e0, e1, x0, xf⟩ := hO2; have cs0 : w2.cell? ⟨wr.heap.size, 0, none⟩ = some (.int .i64 r.st) := blk_cell hr2 0; have cs1 : w2.cell? ⟨wr.heap.size, 1, none⟩ = some (.int .i64 r.ev) := blk_cell hr2 1; clear hr2)
          go_roundw
          case rel => exact ⟨j + 1, by omega, rfl, by go_num, hO.below hb2, HNext⟩
          case measure => simp [intOf]; omega
    · obtain rfl : j = 11 := by omega
      obtain ⟨hB', hz', s0, e0, e1, x0, xf⟩ := hO
      go_wp2_with fail
      try rw [Exit.noGoto_ret]
      refine bodyPost_ret (v := .tuple #[.agg #[.int .i64 0], .slice none 0 0, .int .i64 160]) (by simp [results, Tryd.results13, go_sem, x0]) rfl ?_
      exact ⟨0, [], 160, .inl ⟨hN, rfl, rfl, rfl⟩, _, rfl, World.ownsRow_nil _ _ _ _, by repeat (first | exact hB' | refine Below.setCell ?_ (by simp; omega) _)⟩

set_option maxRecDepth 100000 in
set_option maxHeartbeats 4000000 in
theorem step_c (s kd c dg : Int) (w : World) (hs : terminate_Check.f s = some 0) (hk : (kd == 10) = true) (hk2 : (s != 0) = true) :
    Calls Tryd.prog 13 #[.agg #[.int .i64 s], .agg #[.int .i64 kd, .int .i64 c, .int .u8 dg]] w (StepPost w s [⟨17, 17, E, 0⟩] 0) := by
  have HS := Lib.hid hs
  clear hs
  go_enter Tryd.func13, Tryd.ntmps13
  go_wp2_with fail
  go_step3
  go_wp2_with fail
  refine (terminate_Check.calls s 0 _ HS.out).mono ?_
  rintro e w1 ⟨rfl, hb⟩
  obtain ⟨hcl, hfr⟩ := bcell hb
  have hz : w.heap.size + 1 + 1 < w1.heap.size := by have := hb.size; simp at this; omega
  have hB : Below w.heap.size w w1 := ((((Below.refl _ _).alloc (Nat.le_refl _) _).alloc (by simp) _).alloc (by simp; omega) _).trans (hb.mono (by simp; omega))
  go_wp2_with fail
  try rw [Exit.noGoto_ret]
  refine bodyPost_ret (v := .tuple #[.agg #[.int .i64 s], .slice (some ⟨w1.heap.size, 0, none⟩) 1 1, .int .i64 0]) (by simp [results, Tryd.results13, go_sem, hcl, hz]) rfl ?_
  refine ⟨_, rfl, ⟨rfl, .inr ⟨w1.heap.size, 1, #[.int .i64 17, .int .i64 17, .string E, .int .i64 0], rfl, hB.size, ?_, Nat.le_refl _, by simp [maxLen], rfl, rfl⟩⟩, ?_⟩
  · have h := heap_alloc_new (w1.setCell ⟨w.heap.size + 1 + 1, 0, none⟩ (.int .i64 s)) (.cells #[.int .i64 17, .int .i64 17, .string E, .int .i64 0] 46)
    rw [show (w1.setCell ⟨w.heap.size + 1 + 1, 0, none⟩ (.int .i64 s)).heap.size = w1.heap.size by simp] at h
    exact h
  · repeat (first | exact hB | refine Below.setCell ?_ (by simp; omega) _ | refine Below.alloc ?_ (by have := hB.size; simp; omega) _)
set_option maxRecDepth 100000 in
set_option maxHeartbeats 4000000 in
theorem step_d (s kd c dg : Int) (w : World) (hs : terminate_Check.f s = some 1) :
    Calls Tryd.prog 13 #[.agg #[.int .i64 s], .agg #[.int .i64 kd, .int .i64 c, .int .u8 dg]] w (StepPost w 0 [] 1) := by
  have HS := Lib.hid hs
  clear hs
  go_enter Tryd.func13, Tryd.ntmps13
  go_wp2_with fail
  go_step3
  go_wp2_with fail
  refine (terminate_Check.calls s 1 _ HS.out).mono ?_
  rintro e w1 ⟨rfl, hb⟩
  obtain ⟨hcl, hfr⟩ := bcell hb
  have hz : w.heap.size + 1 + 1 < w1.heap.size := by have := hb.size; simp at this; omega
  have hB : Below w.heap.size w w1 := ((((Below.refl _ _).alloc (Nat.le_refl _) _).alloc (by simp) _).alloc (by simp; omega) _).trans (hb.mono (by simp; omega))
  go_wp2_with fail
  try rw [Exit.noGoto_ret]
  refine bodyPost_ret (v := .tuple #[.agg #[.int .i64 0], .slice none 0 0, .int .i64 1]) (by simp [results, Tryd.results13, go_sem, hcl, hz]) rfl ?_
  exact ⟨_, rfl, World.ownsRow_nil _ _ _ _, by repeat (first | exact hB | refine Below.setCell ?_ (by simp; omega) _)⟩
end Go.Proofs.YtenaokgcljpcgaaDoor.GQ
