/- timers.Cancel and timers.Expire of the given program at a valid queue: what is left, and what fell due, in rows of their own. -/
import Derived.Test.YtpmkbpphlokbjaaJS
import Derived.Test.YtpmkbpphlokbjaaJV
set_option linter.unusedVariables false
set_option linter.unusedSimpArgs false
namespace Go.Proofs.Ytpmkbpphlokbjaa.GT
open Go.RowKit Go.Proofs.YtpmkbpphlokbjaaW.PrintWords Go.Proofs.YtpmkbpphlokbjaaW.PrintLast Go.Proofs.YtpmkbpphlokbjaaW.PrintMore
theorem reps_ints (W : World) (base : Nat) (ok : Nat → Prop) : ∀ l : List Int, Reps ((Kd.int .i64).M W base ok) 1 l (l.map (Value.int .i64)) := by
  intro l
  rw [← List.reverse_reverse l]
  induction l.reverse with
  | nil => exact ⟨rfl, fun j p hj => by cases hj⟩
  | cons x l ih =>
    rw [List.reverse_cons, List.map_append]
    exact reps_snoc ih rfl rfl
theorem R_ints {W : World} {base : Nat} {v : Value} {l : List Int} (h : W.ownsRow base 3 1 v l.length (l.map (Value.int .i64))) : Kd.R (Kd.int .i64) 3 W base (fun _ => True) v l := ⟨fun _ _ => trivial, _, h, reps_ints _ _ _ l⟩
theorem mf_ (fn : Fn) (first cap : Array Value) (w : World) : (Instr.makeFunc fn first cap).run Try.prog w = .ok (.func fn first cap) w := rfl
theorem en_is (args : Array Value) (w : World) : (callFunc 38 args).run Try.prog w = .ok (.enter 38 args) w := enters_ Try.func38 (by kernel_rfl) rfl args w
theorem en_due (args : Array Value) (w : World) : (callFunc 36 args).run Try.prog w = .ok (.enter 36 args) w := enters_ Try.func36 (by kernel_rfl) rfl args w
theorem check_calls {A0 : Option Addr} {cap : Nat} {l : List S64} {w : World} (hr : Kd.C k64 w A0 l.length l) (hlc : l.length ≤ cap) (hq : QV l) :
    Calls Try.prog 34 #[.agg #[.slice A0 l.length cap]] w fun e w' => e = .returned (.int .i64 0) ∧ Below w.heap.size w w' := tcheck.calls 2000 A0 cap l 0 w hr hlc hq.ids (tcheck_ok hq)
set_option maxRecDepth 100000 in
set_option maxHeartbeats 4000000 in
theorem is_calls {c : Nat} {id : Int} (x : S64) (W : World) (h : W.cell? ⟨c, 0, none⟩ = some (.int .i64 id)) : Calls Try.prog 38 #[.agg #[.int .i64 x.f0, .int .i64 x.f1], .pointer (some ⟨c, 0, none⟩)] W fun e w' => e = .returned (.bool (x.f0 == id)) ∧ Below W.heap.size W w' := by
  have hce := (((Below.refl _ _).alloc (Nat.le_refl _) (Obj.cells #[.int .i64 x.f0, .int .i64 x.f1] 64) : Below W.heap.size W _).cell (World.block_lt_of_cell? W _ h)).trans h
  go_enter Try.func38, Try.ntmps38
  go_wp2_with fail
  refine ⟨rfl, _, ?res, rfl, (Below.refl _ _).alloc (Nat.le_refl _) _⟩
  case res => simp [go_sem, results, Try.f38]
set_option maxRecDepth 100000 in
set_option maxHeartbeats 4000000 in
theorem due_calls {c : Nat} {now : Int} (x : S64) (W : World) (h : W.cell? ⟨c, 0, none⟩ = some (.int .i64 now)) : Calls Try.prog 36 #[.agg #[.int .i64 x.f0, .int .i64 x.f1], .pointer (some ⟨c, 0, none⟩)] W fun e w' => e = .returned (.bool (decide (x.f1 ≤ now))) ∧ Below W.heap.size W w' := by
  have hce := (((Below.refl _ _).alloc (Nat.le_refl _) (Obj.cells #[.int .i64 x.f0, .int .i64 x.f1] 64) : Below W.heap.size W _).cell (World.block_lt_of_cell? W _ h)).trans h
  go_enter Try.func36, Try.ntmps36
  go_wp2_with fail
  refine ⟨rfl, _, ?res, rfl, (Below.refl _ _).alloc (Nat.le_refl _) _⟩
  case res => simp [go_sem, results, Try.f36]
set_option maxRecDepth 100000 in
set_option maxHeartbeats 8000000 in
theorem cancel_calls {A0 : Option Addr} {cap : Nat} {l : List S64} {id : Int} {w : World} (hr : Kd.C k64 w A0 l.length l) (hlc : l.length ≤ cap) (hq : QV l) :
    Calls Try.prog 29 #[.agg #[.slice A0 l.length cap], .int .i64 id] w fun e w' => ∃ v0, e = .returned (.tuple #[.agg #[v0], .int .i64 0]) ∧ Kd.R k64 64 w' w.heap.size (fun _ => True) v0 (l.filter (fun x => !(x.f0 == id))) ∧ Below w.heap.size w w' := by
  have hmf := mf_
  go_enter Try.func29, Try.ntmps29
  go_wp2_with fail
  have HB0 : Below w.heap.size w (((w.alloc (Obj.cells #[Value.slice A0 l.length cap] 44)).alloc (Obj.cells #[Value.int IntKind.i64 id] 3)).alloc (Obj.cells #[Value.slice none 0 0] 44)) := (((Below.refl _ _).alloc (Nat.le_refl _) _).alloc (by simp [go_sem]) _).alloc (by simp [go_sem]; omega) _
  refine (check_calls (Kd.C_below hr HB0) hlc hq).mono ?_
  rintro e w1 ⟨rfl, hb1⟩
  have b0 : w1.heap[w.heap.size]? = some (.cells #[Value.slice A0 l.length cap] 44) := blk_below (blk_alloc (blk_alloc (blk_new w _) _) _) hb1
  have b1 : w1.heap[w.heap.size + 1]? = some (.cells #[Value.int IntKind.i64 id] 3) := blk_below (blk_alloc (heap_new (w.alloc _) _ (by simp [go_sem])) _) hb1
  have b2 : w1.heap[w.heap.size + 1 + 1]? = some (.cells #[Value.slice none 0 0] 44) := blk_below (heap_new ((w.alloc _).alloc _) _ (by simp [go_sem])) hb1
  have HB1 : Below w.heap.size w w1 := HB0.trans (hb1.mono HB0.size)
  have c0 := blk_cell b0 0
  have c1 := blk_cell b1 0
  have c2 := blk_cell b2 0
  have hl2 := blk_lt b2
  go_wp2_with fail
  refine (split_calls (c := w.heap.size + 1) (p := fun x => x.f0 == id) (Kd.C_below hr HB1) hlc hq.few c1 en_is (fun x W h => is_calls x W h)).mono ?_
  rintro e w2 ⟨v1, v2, rfl, hy, hn, hb2⟩
  have b2' := blk_below b2 hb2
  have c2' := blk_cell b2' 0
  have f2' := blk_frozen b2' 0
  have HB2 : Below w.heap.size w w2 := HB1.trans (hb2.mono HB1.size)
  obtain ⟨An, cn, en⟩ := Kd.R_slice hn
  subst en
  go_wp2_with fail
  refine ⟨rfl, .tuple #[.agg #[.slice An (l.filter (fun x => !(x.f0 == id))).length cn], .int .i64 0], ?res, _, rfl, ?_, HB2.setCell (by show w.heap.size ≤ w.heap.size + 1 + 1; omega) _⟩
  case res =>
    have hcs := blk_cell (blk_put b2' 0 (.slice An (l.filter (fun x => !(x.f0 == id))).length cn) rfl) 0
    simp [go_sem, results, Try.f29, hcs]
  exact Kd.R_lower (Kd.R_mono (Kd.R_step (Kd.R_bound hn) (fun k hk _ => Below.heap_setCell _ _ _ k (by have := hk.2.1; show k ≠ w.heap.size + 1 + 1; omega))) (fun _ _ => trivial)) HB1.size
set_option maxRecDepth 100000 in
set_option maxHeartbeats 8000000 in
theorem expire_calls {A0 : Option Addr} {cap : Nat} {l : List S64} {now : Int} {w : World} (hr : Kd.C k64 w A0 l.length l) (hlc : l.length ≤ cap) (hq : QV l) (hn0 : 0 ≤ now) (hn1 : now ≤ 1099511627776) :
    Calls Try.prog 21 #[.agg #[.slice A0 l.length cap], .int .i64 now] w fun e w' => ∃ v0 v1, e = .returned (.tuple #[.agg #[v0], v1, .int .i64 0]) ∧ Kd.R k64 64 w' w.heap.size (fun _ => True) v0 (l.filter (fun x => !(decide (x.f1 ≤ now)))) ∧ Kd.R (Kd.int .i64) 3 w' w.heap.size (fun _ => True) v1 ((l.filter (fun x => decide (x.f1 ≤ now))).map S64.f0) ∧ Below w.heap.size w w' := by
  have hmf := mf_
  go_enter Try.func21, Try.ntmps21
  go_wp2_with fail
  have HB0 : Below w.heap.size w (((w.alloc (Obj.cells #[Value.slice A0 l.length cap] 44)).alloc (Obj.cells #[Value.int IntKind.i64 now] 3)).alloc (Obj.cells #[Value.slice none 0 0] 44)) := (((Below.refl _ _).alloc (Nat.le_refl _) _).alloc (by simp [go_sem]) _).alloc (by simp [go_sem]; omega) _
  refine (check_calls (Kd.C_below hr HB0) hlc hq).mono ?_
  rintro e w1 ⟨rfl, hb1⟩
  have b0 : w1.heap[w.heap.size]? = some (.cells #[Value.slice A0 l.length cap] 44) := blk_below (blk_alloc (blk_alloc (blk_new w _) _) _) hb1
  have b1 : w1.heap[w.heap.size + 1]? = some (.cells #[Value.int IntKind.i64 now] 3) := blk_below (blk_alloc (heap_new (w.alloc _) _ (by simp [go_sem])) _) hb1
  have b2 : w1.heap[w.heap.size + 1 + 1]? = some (.cells #[Value.slice none 0 0] 44) := blk_below (heap_new ((w.alloc _).alloc _) _ (by simp [go_sem])) hb1
  have HB1 : Below w.heap.size w w1 := HB0.trans (hb1.mono HB0.size)
  have c0 := blk_cell b0 0
  have c1 := blk_cell b1 0
  have c2 := blk_cell b2 0
  have hl2 := blk_lt b2
  go_wp2_with fail
  refine (timers_valid.calls now true _ (by simp [timers_valid.f, hn0, hn1])).mono ?_
  rintro e wv ⟨rfl, ⟨nd, rfl⟩⟩
  have b0' : (w1.drewN nd).heap[w.heap.size]? = _ := b0
  have b1' : (w1.drewN nd).heap[w.heap.size + 1]? = _ := b1
  have b2' : (w1.drewN nd).heap[w.heap.size + 1 + 1]? = _ := b2
  have HB1' : Below w.heap.size w (w1.drewN nd) := pw_below_drewN HB1 _
  have hs1 : (w1.drewN nd).heap.size = w1.heap.size := rfl
  obtain ⟨w3, hw3⟩ : ∃ W, w1.drewN nd = W := ⟨_, rfl⟩
  rw [hw3] at b0' b1' b2' HB1' hs1 ⊢
  clear hw3 b0 b1 b2 c0 c1 c2
  have c0 := blk_cell b0' 0
  have c1 := blk_cell b1' 0
  have c2 := blk_cell b2' 0
  have hl3 := blk_lt b2'
  go_wp2_with fail
  refine (split_calls (c := w.heap.size + 1) (p := fun x => decide (x.f1 ≤ now)) (Kd.C_below hr HB1') hlc hq.few c1 en_due (fun x W h => due_calls x W h)).mono ?_
  rintro e w2 ⟨v1, v2, rfl, hy, hn, hb2⟩
  have b2'' := blk_below b2' hb2
  have HB2 : Below w.heap.size w w2 := HB1'.trans (hb2.mono HB1'.size)
  obtain ⟨An, cn, en⟩ := Kd.R_slice hn
  subst en
  obtain ⟨Ay, cy, ey, hcy, hCy⟩ := Kd.R_reads hy
  subst ey
  obtain ⟨due, hdue⟩ : ∃ d, l.filter (fun x => decide (x.f1 ≤ now)) = d := ⟨_, rfl⟩
  have hdl : due.length ≤ 1024 := by rw [← hdue]; exact Nat.le_trans (List.length_filter_le _ _) hq.few
  rw [hdue] at hcy hCy ⊢
  clear hy
  obtain ⟨i3, hi3, hz3⟩ := Option.map_eq_some_iff.1 info3
  simp only [Prod.mk.injEq] at hz3
  obtain ⟨hz0, hz1, hz2⟩ := hz3
  go_wp2_with fail
  go_loopw [10, 32] (fun v10 i W => ∃ j : Nat, j ≤ due.length ∧ i = .int .i64 (j : Int) ∧ Below w2.heap.size w2 W ∧ W.ownsRow w2.heap.size 3 1 v10 j ((due.take j).map (fun x => Value.int .i64 x.f0))) (fun _ i _ => due.length - (intOf i).toNat)
  case atStart => exact ⟨0, by omega, rfl, Below.refl _ _, World.ownsRow_nil _ _ _ _⟩
  case round =>
    obtain ⟨j, hj, rfl, hbW, hown⟩ := hrel
    by_cases hlt : j < due.length
    · have hlt' : decide ((j : Int) < (due.length : Int)) = true := decide_eq_true (by omega)
      obtain ⟨ad, ead, q0, q1⟩ := at_T64 hCy (j : Int) (by omega) (by omega)
      subst ead
      rw [Int.toNat_natCast] at q0 q1
      obtain ⟨x, hx⟩ : ∃ x, rd_T64 due (j : Int) = x := ⟨_, rfl⟩
      rw [hx] at q0 q1
      have x0 := (hbW.cell (World.block_lt_of_cell? w2 _ q0)).trans q0
      have x1 := (hbW.cell (World.block_lt_of_cell? w2 _ q1)).trans q1
      have hwr : w2.heap.size ≤ wr.heap.size := hbW.size
      clear q0 q1 hCy
      have ho1 := (hown.alloc (Obj.cells #[.int .i64 x.f0, .int .i64 x.f1] 64)).alloc (Obj.cells #[.int .i64 x.f0] 3)
      have hbl1 := (hbW.alloc hbW.size (Obj.cells #[.int .i64 x.f0, .int .i64 x.f1] 64)).alloc (Nat.le_trans hbW.size (by simp [go_sem])) (Obj.cells #[.int .i64 x.f0] 3)
      have hnw : ((wr.alloc (Obj.cells #[.int .i64 x.f0, .int .i64 x.f1] 64)).alloc (Obj.cells #[.int .i64 x.f0] 3)).heap[wr.heap.size + 1]? = some (.cells [Value.int .i64 x.f0].toArray 3 (0, 0)) := heap_new _ _ (by simp [go_sem])
      go_wp2_with (first | (at_builtin; go_loud (refine wpList_append_own_at _ rfl (.tmp 36) (.tmp 39) 49 rfl w2.heap.size 3 i3 _ 1 8 Try.underlying49 hi3 hz0 hz1 hz2 rfl (by decide) _ _ _ rfl ho1 ⟨wr.heap.size + 1, 0, none⟩ 1 1 [.int .i64 x.f0] rfl rfl (cell_ats hnw) (by simp [Value.oneCell']) (by simp only [maxLen]; omega) (by omega) hbl1.size ?_); intro v' w4 ho hg _ hat))
      go_roundw
      case rel => exact ⟨j + 1, by omega, rfl, hbl1.grown hg hbl1.size (fun k hk => own_base ho1 k hk), by rw [take_rd hlt, hx, List.map_append]; exact ho⟩
      case measure => simp [intOf]; omega
    · have hlt' : decide ((j : Int) < (due.length : Int)) = false := decide_eq_false (by omega)
      have hjl : j = due.length := by omega
      subst hjl
      rw [List.take_length] at hown
      have b2w := blk_below b2'' hbW
      have c2w := blk_cell b2w 0
      have f2w := blk_frozen b2w 0
      go_wp2_with fail
      refine ⟨rfl, .tuple #[.agg #[.slice An (l.filter (fun x => !(decide (x.f1 ≤ now)))).length cn], u10, .int .i64 0], ?res, _, _, rfl, ?_, ?_, (HB2.trans (hbW.mono HB2.size)).setCell (by show w.heap.size ≤ w.heap.size + 1 + 1; omega) _⟩
      case res =>
        have hcs := blk_cell (blk_put b2w 0 (.slice An (l.filter (fun x => !(decide (x.f1 ≤ now)))).length cn) rfl) 0
        simp [go_sem, results, Try.f21, hcs]
      · exact Kd.R_lower (Kd.R_mono (Kd.R_step (Kd.R_bound (Kd.R_below hn hbW)) (fun k hk _ => Below.heap_setCell _ _ _ k (by have := hk.2.1; show k ≠ w.heap.size + 1 + 1; omega))) (fun _ _ => trivial)) HB1'.size
      · rw [hdue]
        exact Kd.R_lower (Kd.R_mono (Kd.R_step (Kd.R_bound (R_ints (by rw [List.length_map, List.map_map]; exact hown))) (fun k hk _ => Below.heap_setCell _ _ _ k (by have := hk.2.1; have := hb2.size; show k ≠ w.heap.size + 1 + 1; omega))) (fun _ _ => trivial)) HB2.size
end Go.Proofs.Ytpmkbpphlokbjaa.GT
