/- timers.Set of the given program at a valid queue that holds no other timer: one timer, in a row of its own. -/
import Derived.Test.YtpmkbpphlokbjaaJN
import Derived.Test.YtpmkbpphlokbjaaJB
set_option linter.unusedVariables false
set_option linter.unusedSimpArgs false
namespace Go.Proofs.Ytpmkbpphlokbjaa.GT
open Go.RowKit Go.Proofs.YtpmkbpphlokbjaaW.PrintWords Go.Proofs.YtpmkbpphlokbjaaW.PrintLast Go.Proofs.YtpmkbpphlokbjaaW.PrintMore
set_option maxRecDepth 100000 in
set_option maxHeartbeats 4000000 in
theorem ins_end {base : Nat} {v : Value} {xs : List S64} {x : S64} {ad : Addr} {c1 : Nat} {w : World} (hown : w.ownsRow base 64 2 v xs.length (tcells xs)) (hbase : base ≤ w.heap.size) (hlen : xs.length ≤ 1024)
    (hx : ∀ j u, [Value.int .i64 x.f0, Value.int .i64 x.f1][j]? = some u → w.cell? (ad.add j) = some u) :
    Calls Try.prog 33 #[v, .int .i64 (xs.length : Int), .slice (some ad) 1 c1] w fun e w' => ∃ v', e = .returned v' ∧ w'.ownsRow base 64 2 v' (xs.length + 1) (tcells (xs ++ [x])) ∧ w.grownBy w' v.ownBlock := by
  obtain ⟨i94, hi94, hz94⟩ := Option.map_eq_some_iff.1 info64
  simp only [Prod.mk.injEq] at hz94
  obtain ⟨hz0, hz1, hz2⟩ := hz94
  have hsl : ∃ A c, v = .slice A xs.length c ∧ xs.length ≤ c := by
    rcases hown.2 with ⟨rfl, h0⟩ | ⟨g, cap, cur, rfl, _, _, hnc, _⟩
    · exact ⟨none, 0, by rw [h0], by omega⟩
    · exact ⟨_, _, rfl, hnc⟩
  obtain ⟨A, c, rfl, hc⟩ := hsl
  rw [tcells_snoc]
  obtain ⟨ob, hob⟩ : ∃ ob, (Value.slice A xs.length c).ownBlock = ob := ⟨_, rfl⟩
  rw [hob]
  have d1 : decide (xs.length < xs.length) = false := decide_eq_false (by omega)
  go_enter Try.func33, Try.ntmps33
  go_wp2_with (first | (at_builtin; go_loud (refine wpList_append_own_at _ rfl (.tmp 23) (.tmp 24) 42 rfl base 64 i94 _ 2 16 Try.underlying42 hi94 hz0 hz1 hz2 rfl (by decide) _ _ _ rfl hown ad 1 c1 [.int .i64 x.f0, .int .i64 x.f1] rfl rfl hx (by simp [Value.oneCell']) (by simp only [maxLen]; omega) (by omega) hbase ?_); intro v' w3 ho hg _ hat; replace hg : w.grownBy w3 ob := by rw [← hob]; exact hg))
  all_goals exact bodyPost_ret (v := v') (by simp [results, Try.f33, go_sem]) rfl ⟨v', rfl, ho, hg⟩
theorem reps_tail {α : Type} {R : α → List Value → Prop} {x : α} {l : List α} {cs : List Value} (h : Reps R 2 (x :: l) cs) : R x (cs.take 2) ∧ Reps R 2 l (cs.drop 2) := by
  obtain ⟨h1, h2⟩ := h
  refine ⟨by simpa using h2 0 x rfl, ⟨by rw [List.length_drop, h1, List.length_cons]; omega, fun j p hj => ?_⟩⟩
  have := h2 (j + 1) p (by simpa using hj)
  rw [List.drop_drop]
  rwa [show 2 + j * 2 = (j + 1) * 2 by omega]
theorem reps_eq {W : World} {base : Nat} {ok : Nat → Prop} : ∀ (l : List S64) (cs : List Value), Reps (k64.M W base ok) 2 l cs → cs = tcells l
  | [], cs, h => by
    have := h.1
    simp at this
    subst this
    rfl
  | x :: l, cs, h => by
    obtain ⟨h1, h2⟩ := reps_tail h
    have e1 := k64_openM h1
    have e2 := reps_eq l _ h2
    rw [← List.take_append_drop 2 cs, e1, e2]
    rfl
theorem own_of_R {W : World} {base : Nat} {v : Value} {l : List S64} (h : Kd.R k64 64 W base (fun _ => True) v l) : W.ownsRow base 64 2 v l.length (tcells l) := by
  obtain ⟨_, inner, ho, hr⟩ := h
  rw [← reps_eq l inner hr]
  exact ho
theorem wrap0 : wrap64 0 = 0 := by rw [IntWalk.wrap64_in _ (by omega)]
set_option maxRecDepth 100000 in
set_option maxHeartbeats 8000000 in
theorem set_calls {A0 : Option Addr} {cap : Nat} {l rest res : List S64} {id at_ : Int} {w : World} (hr : Kd.C k64 w A0 l.length l) (hlc : l.length ≤ cap) (hq : QV l) (ha0 : 0 ≤ at_) (ha1 : at_ ≤ 1099511627776)
    (hrest : l.filter (fun x => !(x.f0 == id)) = rest) (hfew : rest.length < 1024) {kf : Nat} {kx : Int} {b : Bool} (hbs : bsearch.f kf rest id at_ 0 = some (kx, b))
    (hins : ∀ (A1 : Option Addr) (q1 q2 q : Nat) (W : World), w.heap.size ≤ W.heap.size → W.ownsRow (w.heap.size + 2) 64 2 (.slice A1 rest.length q1) rest.length (tcells rest) → W.heap[q]? = some (.cells #[Value.int .i64 id, Value.int .i64 at_] 64 (0, 0)) → w.heap.size + 2 ≤ W.heap.size → some q ≠ (Value.slice A1 rest.length q1).ownBlock →
      Calls Try.prog 33 #[.slice A1 rest.length q1, .int .i64 kx, .slice (some ⟨q, 0, none⟩) 1 q2] W fun e w' => ∃ v', e = .returned v' ∧ w'.ownsRow (w.heap.size + 2) 64 2 v' res.length (tcells res) ∧ Below (w.heap.size + 2) W w') :
    Calls Try.prog 19 #[.agg #[.slice A0 l.length cap], .int .i64 id, .int .i64 at_] w fun e w' => ∃ v0, e = .returned (.tuple #[.agg #[v0], .int .i64 0]) ∧ Kd.R k64 64 w' w.heap.size (fun _ => True) v0 res ∧ Below w.heap.size w w' := by
  go_enter Try.func19, Try.ntmps19
  go_wp2_with fail
  have HB0 : Below w.heap.size w ((w.alloc (Obj.cells #[Value.slice A0 l.length cap] 44)).alloc (Obj.cells #[Value.slice none 0 0] 44)) := ((Below.refl _ _).alloc (Nat.le_refl _) _).alloc (by simp [go_sem]) _
  refine (cancel_calls (Kd.C_below hr HB0) hlc hq).mono ?_
  rintro e w1 ⟨v0, rfl, hR, hb1⟩
  rw [hrest] at hR
  have b1 : w1.heap[w.heap.size + 1]? = some (.cells #[Value.slice none 0 0] 44) := blk_below (heap_new (w.alloc _) _ (by simp [go_sem])) hb1
  have HB1 : Below w.heap.size w w1 := HB0.trans (hb1.mono HB0.size)
  have hl1 := blk_lt b1
  have hs2 : w.heap.size + 2 ≤ w1.heap.size := by have := hb1.size; simp [go_sem] at this; omega
  have ho1 : w1.ownsRow (w.heap.size + 2) 64 2 v0 rest.length (tcells rest) := own_weaken (own_of_R hR) (by simp [go_sem])
  obtain ⟨A1, q1, e1, hq1, hC1⟩ := Kd.R_reads hR
  subst e1
  have n1024 : ((rest.length : Int) == 1024) = false := beq_eq_false_iff_ne.mpr (by omega)
  have n1024' : (rest.length == 1024) = false := beq_eq_false_iff_ne.mpr (by omega)
  clear hR
  go_wp2_with fail
  refine (timers_valid.calls at_ true _ (by simp [timers_valid.f, ha0, ha1])).mono ?_
  rintro e wv ⟨rfl, ⟨nd, rfl⟩⟩
  have b8 : ((w1.alloc (Obj.cells #[Value.slice A1 rest.length q1] 44)).drewN nd).heap[w1.heap.size]? = some (.cells #[Value.slice A1 rest.length q1] 44) := blk_new w1 _
  have b1' : ((w1.alloc (Obj.cells #[Value.slice A1 rest.length q1] 44)).drewN nd).heap[w.heap.size + 1]? = _ := blk_alloc b1 _
  have HB2 : Below w.heap.size w ((w1.alloc (Obj.cells #[Value.slice A1 rest.length q1] 44)).drewN nd) := pw_below_drewN (HB1.alloc HB1.size _) _
  have hb12 : Below w1.heap.size w1 ((w1.alloc (Obj.cells #[Value.slice A1 rest.length q1] 44)).drewN nd) := pw_below_drewN ((Below.refl _ _).alloc (Nat.le_refl _) _) _
  have hsz : ((w1.alloc (Obj.cells #[Value.slice A1 rest.length q1] 44)).drewN nd).heap.size = w1.heap.size + 1 := by show (w1.alloc _).heap.size = _; simp [go_sem]
  obtain ⟨w3, hw3⟩ : ∃ W, (w1.alloc (Obj.cells #[Value.slice A1 rest.length q1] 44)).drewN nd = W := ⟨_, rfl⟩
  rw [hw3] at b8 b1' HB2 hb12 hsz ⊢
  clear hw3 b1
  have c8 := blk_cell b8 0
  go_wp2_with fail
  refine (bsearch.calls kf A1 q1 rest id at_ 0 kx b _ (Kd.C_below (Kd.C_below hC1 hb12) ((Below.refl _ _).alloc (Nat.le_refl _) _)) hq1 hbs).mono ?_
  rintro e w4 ⟨rfl, hb4⟩
  have b10 : w4.heap[w1.heap.size + 1]? = some (.cells #[Value.int .i64 id, Value.int .i64 at_] 64) := blk_below (heap_new w3 _ (by omega)) hb4
  have b8' := blk_below (blk_alloc b8 (Obj.cells #[Value.int .i64 id, Value.int .i64 at_] 64)) hb4
  have b1'' := blk_below (blk_alloc b1' (Obj.cells #[Value.int .i64 id, Value.int .i64 at_] 64)) hb4
  have HB4 : Below w.heap.size w w4 := (HB2.alloc HB2.size _).trans (hb4.mono (Nat.le_trans HB2.size (by simp [go_sem])))
  have ho4 : w4.ownsRow (w.heap.size + 2) 64 2 (.slice A1 rest.length q1) rest.length (tcells rest) := own_bel (own_bel (own_bel ho1 hb12) ((Below.refl _ _).alloc (Nat.le_refl _) (Obj.cells #[Value.int .i64 id, Value.int .i64 at_] 64))) hb4
  have hs4 : w1.heap.size + 2 ≤ w4.heap.size := by have := hb4.size; simp [go_sem] at this; omega
  have c8' := blk_cell b8' 0
  have c10 := blk_cell b10 0
  have c11 := blk_cell b10 1
  clear c8 b8
  go_wp2_with fail
  refine (hins A1 q1 1 w4.heap.size (w4.alloc (Obj.cells #[Value.int .i64 id, Value.int .i64 at_] 64)) (Nat.le_trans HB4.size (by simp [go_sem])) (ho4.alloc _) (blk_new w4 _) (by simp [go_sem]; omega) (fun h => by have := own_lt ho4 _ h.symm; simp at this)).mono ?_
  rintro e w5 ⟨v', rfl, ho5, hb5⟩
  have hsl : ∃ A c, v' = .slice A res.length c := by
    rcases ho5.2 with ⟨rfl, h0⟩ | ⟨g, cap, cur, rfl, _, _, hnc, _⟩
    · exact ⟨none, 0, by rw [h0]⟩
    · exact ⟨_, _, rfl⟩
  obtain ⟨A5, q5, rfl⟩ := hsl
  have b5 : w5.heap[w.heap.size + 1]? = some (.cells #[Value.slice none 0 0] 44) := (hb5.block _ (by omega)).trans (blk_alloc b1'' _)
  have HB5 : Below w.heap.size w w5 := (HB4.alloc HB4.size _).trans (hb5.mono (by omega))
  have c5 := blk_cell b5 0
  have f5 := blk_frozen b5 0
  go_wp2_with fail
  refine ⟨rfl, .tuple #[.agg #[.slice A5 res.length q5], .int .i64 0], ?res, _, rfl, ?_, HB5.setCell (by show w.heap.size ≤ w.heap.size + 1; omega) _⟩
  case res =>
    have hcs := blk_cell (blk_put b5 0 (.slice A5 res.length q5) rfl) 0
    simp [go_sem, results, Try.f19, hcs]
  exact Kd.R_lower (Kd.R_mono (Kd.R_step (Kd.R_bound (R_tcells ho5)) (fun k hk _ => Below.heap_setCell _ _ _ k (by have := hk.2.1; show k ≠ w.heap.size + 1; omega))) (fun _ _ => trivial)) (by omega)
theorem set_calls0 {A0 : Option Addr} {cap : Nat} {l : List S64} {id at_ : Int} {w : World} (hr : Kd.C k64 w A0 l.length l) (hlc : l.length ≤ cap) (hq : QV l) (ha0 : 0 ≤ at_) (ha1 : at_ ≤ 1099511627776) (hrest : l.filter (fun x => !(x.f0 == id)) = []) :
    Calls Try.prog 19 #[.agg #[.slice A0 l.length cap], .int .i64 id, .int .i64 at_] w fun e w' => ∃ v0, e = .returned (.tuple #[.agg #[v0], .int .i64 0]) ∧ Kd.R k64 64 w' w.heap.size (fun _ => True) v0 [⟨id, at_⟩] ∧ Below w.heap.size w w' := by
  refine set_calls (kf := 2) (kx := 0) (b := false) (res := [⟨id, at_⟩]) hr hlc hq ha0 ha1 hrest (by simp) (by simp [bsearch.f, bsearch.l0]) ?_
  intro A1 q1 q2 q W h1 ho hx h2 hne
  refine (ins_end (x := ⟨id, at_⟩) ho h2 (by simp) (cell_ats (cs := [.int .i64 id, .int .i64 at_]) hx)).mono ?_
  rintro e w' ⟨v', rfl, ho', hg⟩
  exact ⟨v', rfl, ho', (Below.refl _ _).grown hg h2 (fun k hk => own_base ho k hk)⟩
end Go.Proofs.Ytpmkbpphlokbjaa.GT
