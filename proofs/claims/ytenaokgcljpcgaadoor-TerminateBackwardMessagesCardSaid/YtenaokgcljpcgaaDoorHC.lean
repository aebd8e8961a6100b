/- Contracts of the small closures that isup.Check calls. -/
import Derived.Test.YtenaokgcljpcgaaDoorGAx11
import Derived.Test.YtenaokgcljpcgaaDoorHA
import Derived.Laws.EntriesVeiled
set_option linter.unusedVariables false
set_option linter.unusedSimpArgs false
namespace Go.Proofs.YtenaokgcljpcgaaDoor.GA
open Go.RowKit Go.Proofs.YtenaokgcljpcgaaDoorW.PrintWords Go.Proofs.YtenaokgcljpcgaaDoorW.PrintLast Go.Proofs.YtenaokgcljpcgaaDoorW.PrintMore
set_option maxRecDepth 100000 in
set_option maxHeartbeats 4000000 in
theorem of51 (b : Nat) (w : World) : Calls Tryd.prog 51 #[.pointer (some ⟨b, 0, none⟩)] w fun e w' => e = .returned (.pointer (some ⟨b, 1, none⟩)) ∧ w' = w := by
  go_enter Tryd.func51, Tryd.ntmps51
  go_wp2_with fail
  refine ⟨rfl, _, ?res, rfl, rfl⟩
  case res => simp [go_sem, results, Tryd.f51]
set_option maxRecDepth 100000 in
set_option maxHeartbeats 4000000 in
theorem of52 (b : Nat) (w : World) : Calls Tryd.prog 52 #[.pointer (some ⟨b, 0, none⟩)] w fun e w' => e = .returned (.pointer (some ⟨b, 2, none⟩)) ∧ w' = w := by
  go_enter Tryd.func52, Tryd.ntmps52
  go_wp2_with fail
  refine ⟨rfl, _, ?res, rfl, rfl⟩
  case res => simp [go_sem, results, Tryd.f52]
set_option maxRecDepth 100000 in
set_option maxHeartbeats 4000000 in
theorem of64 (b : Nat) (w : World) : Calls Tryd.prog 64 #[.pointer (some ⟨b, 0, none⟩)] w fun e w' => e = .returned (.pointer (some ⟨b, 4, none⟩)) ∧ w' = w := by
  go_enter Tryd.func64, Tryd.ntmps64
  go_wp2_with fail
  refine ⟨rfl, _, ?res, rfl, rfl⟩
  case res => simp [go_sem, results, Tryd.f64]
set_option maxRecDepth 100000 in
set_option maxHeartbeats 4000000 in
theorem of63 (b : Nat) (w : World) : Calls Tryd.prog 63 #[.pointer (some ⟨b, 0, none⟩)] w fun e w' => e = .returned (.pointer (some ⟨b, 9, none⟩)) ∧ w' = w := by
  go_enter Tryd.func63, Tryd.ntmps63
  go_wp2_with fail
  refine ⟨rfl, _, ?res, rfl, rfl⟩
  case res => simp [go_sem, results, Tryd.f63]
theorem mf (fn : Fn) (first cap : Array Value) (w : World) : (Instr.makeFunc fn first cap).run Tryd.prog w = .ok (.func fn first cap) w := rfl
/-- a field of integers, as isup.integer makes it: its closures, and what they hold -/
structure FI (W : World) (base : Nat) (o f t : Nat) (v : Value) (g : Nat) (x y : Int) : Prop where
  v : v = .agg #[.func (.func 81) #[] #[.pointer (some ⟨f, 0, none⟩), .pointer (some ⟨o, 0, none⟩), .pointer (some ⟨t, 0, none⟩)], .func (.func 82) #[] #[.pointer (some ⟨o, 0, none⟩)], .func (.func 84) #[] #[.pointer (some ⟨o, 0, none⟩)], .func (.func 86) #[] #[.pointer (some ⟨o, 0, none⟩)]]
  ho : W.cell? ⟨o, 0, none⟩ = some (.func (.func g) #[] #[])
  hf : W.cell? ⟨f, 0, none⟩ = some (.int .i64 x)
  ht : W.cell? ⟨t, 0, none⟩ = some (.int .i64 y)
  lo : base ≤ o ∧ o < W.heap.size
  lf : base ≤ f ∧ f < W.heap.size
  lt : base ≤ t ∧ t < W.heap.size
theorem FI.below {W W' : World} {base o f t g : Nat} {v : Value} {x y : Int} (h : FI W base o f t v g x y) (hb : Below W.heap.size W W') : FI W' base o f t v g x y := by
  obtain ⟨hv, ho, hf, ht, lo, lf, lt⟩ := h
  have hs := hb.size
  exact ⟨hv, (hb.cell (p := ⟨o, 0, none⟩) lo.2).trans ho, (hb.cell (p := ⟨f, 0, none⟩) lf.2).trans hf, (hb.cell (p := ⟨t, 0, none⟩) lt.2).trans ht, ⟨lo.1, by omega⟩, ⟨lf.1, by omega⟩, ⟨lt.1, by omega⟩⟩
set_option maxRecDepth 100000 in
set_option maxHeartbeats 4000000 in
theorem int50 (g : Nat) (x y : Int) (w : World) : Calls Tryd.prog 50 #[.func (.func g) #[] #[], .int .i64 x, .int .i64 y] w fun e w' => ∃ v o f t, e = .returned v ∧ FI w' w.heap.size o f t v g x y ∧ Below w.heap.size w w' := by
  have hmf := mf
  go_enter Tryd.func50, Tryd.ntmps50
  go_wp2_with fail
  refine ⟨rfl, _, ?res, _, w.heap.size, w.heap.size + 1, w.heap.size + 1 + 1, rfl, ⟨rfl, ?_, ?_, ?_, ?_, ?_, ?_⟩, ?_⟩
  case res => simp [go_sem, results, Tryd.f50]
  all_goals try (simp [go_sem]; done)
  all_goals try (simp [go_sem]; omega)
  exact (((((Below.refl _ _).alloc (Nat.le_refl _) _).alloc (by simp) _).alloc (by simp; omega) _).alloc (by simp; omega) _)
/-- a field of truth values -/
structure FB (W : World) (base : Nat) (o : Nat) (v : Value) (g : Nat) : Prop where
  v : v = .agg #[.func (.func 94) #[] #[], .func (.func 95) #[] #[.pointer (some ⟨o, 0, none⟩)], .func (.func 96) #[] #[.pointer (some ⟨o, 0, none⟩)], .func (.func 98) #[] #[.pointer (some ⟨o, 0, none⟩)]]
  ho : W.cell? ⟨o, 0, none⟩ = some (.func (.func g) #[] #[])
  lo : base ≤ o ∧ o < W.heap.size
theorem FB.below {W W' : World} {base o g : Nat} {v : Value} (h : FB W base o v g) (hb : Below W.heap.size W W') : FB W' base o v g := by
  obtain ⟨hv, ho, lo⟩ := h
  have hs := hb.size
  exact ⟨hv, (hb.cell (p := ⟨o, 0, none⟩) lo.2).trans ho, ⟨lo.1, by omega⟩⟩
set_option maxRecDepth 100000 in
set_option maxHeartbeats 4000000 in
theorem bool60 (g : Nat) (w : World) : Calls Tryd.prog 60 #[.func (.func g) #[] #[]] w fun e w' => ∃ v o, e = .returned v ∧ FB w' w.heap.size o v g ∧ Below w.heap.size w w' := by
  have hmf := mf
  go_enter Tryd.func60, Tryd.ntmps60
  go_wp2_with fail
  refine ⟨rfl, _, ?res, _, w.heap.size, rfl, ⟨rfl, ?_, ?_⟩, ?_⟩
  case res => simp [go_sem, results, Tryd.f60]
  all_goals try (simp [go_sem]; done)
  all_goals try (simp [go_sem]; omega)
  exact (((Below.refl _ _).alloc (Nat.le_refl _) _).alloc (by simp) _)
/-- a field of numbers: four closures -/
def FA (v : Value) : Prop := ∃ o m : Nat, v = .agg #[.func (.func 87) #[] #[.pointer (some ⟨o, 0, none⟩), .pointer (some ⟨m, 0, none⟩)], .func (.func 89) #[] #[.pointer (some ⟨o, 0, none⟩)], .func (.func 91) #[] #[.pointer (some ⟨o, 0, none⟩)], .func (.func 93) #[] #[.pointer (some ⟨o, 0, none⟩)]]
set_option maxRecDepth 100000 in
set_option maxHeartbeats 4000000 in
theorem addr57 (g h : Nat) (w : World) : Calls Tryd.prog 57 #[.func (.func g) #[] #[], .func (.func h) #[] #[]] w fun e w' => ∃ v, e = .returned v ∧ FA v ∧ Below w.heap.size w w' := by
  have hmf := mf
  go_enter Tryd.func57, Tryd.ntmps57
  go_wp2_with fail
  refine ⟨rfl, _, ?res, _, rfl, ⟨w.heap.size, w.heap.size + 1, rfl⟩, ?_⟩
  case res => simp [go_sem, results, Tryd.f57]
  exact ((((Below.refl _ _).alloc (Nat.le_refl _) _).alloc (by simp) _).alloc (by simp; omega) _)
def T81 : Bool × List (List Nat × List Nat) := (true, [([], []), ([], []), ([], []), ([1, 2], [1, 2]), ([3], [3]), ([4], [4]), ([0, 5], [0, 5]), ([6, 3], [6]), ([7], [7]), ([7], [7]), ([8, 9, 7, 7], [7, 8, 9]), ([10, 7], [7, 10]), ([11, 7], [7, 11]), ([7], [7]), ([12, 13, 7], [7, 12, 13]), ([7, 14], [7, 14]), ([15, 10, 0, 1, 2, 3, 4, 5, 6, 7, 8, 9, 10, 11, 12, 13, 14, 15], [15])])
def B81 : List Nat := [0, 0, 0, 6, 14, 30, 63, 127, 255, 255, 1023, 2047, 4095, 255, 16383, 32767, 65535]
theorem tab81 : rtab .any (opsOf Tryd.f81 1) = T81 := by kernel_rfl
theorem bits81 : waitsOk T81.2 B81 = true := by kernel_rfl
set_option maxRecDepth 100000 in
set_option maxHeartbeats 4000000 in
/-- a check of an integer's field: the closure that isup.integer makes -/
theorem valid81 {W : World} {base o f t b n : Nat} {v : Value} {g : Nat} {x y z : Int} (h : FI W base o f t v g x y) (hen : ∀ (args : Array Value) (w : World), (callFunc g args).run Tryd.prog w = .ok (.enter g args) w)
    (hof : ∀ w : World, Calls Tryd.prog g #[.pointer (some ⟨b, 0, none⟩)] w fun e w' => e = .returned (.pointer (some ⟨b, n, none⟩)) ∧ w' = w)
    (hz : W.cell? ⟨b, n, none⟩ = some (.int .i64 z)) (h1 : x ≤ z) (h2 : z ≤ y) :
    Calls Tryd.prog 81 #[.pointer (some ⟨b, 0, none⟩), .pointer (some ⟨f, 0, none⟩), .pointer (some ⟨o, 0, none⟩), .pointer (some ⟨t, 0, none⟩)] W fun e w' => e = .returned (.bool true) ∧ Below W.heap.size W w' := by
  obtain ⟨hv, ho, hf, ht, lo, lf, lt⟩ := h
  have d1 : decide (x ≤ z) = true := decide_eq_true h1
  have d2 : decide (z ≤ y) = true := decide_eq_true h2
  go_enter Tryd.func81, Tryd.ntmps81
  go_wp2_with fail
  refine start_ (n := 17) (S := fun w' => w'.cell? ⟨f, 0, none⟩ = some (.int .i64 x) ∧ w'.cell? ⟨o, 0, none⟩ = some (.func (.func g) #[] #[]) ∧ w'.cell? ⟨t, 0, none⟩ = some (.int .i64 y) ∧ w'.cell? ⟨b, n, none⟩ = some (.int .i64 z)) (ds := []) #[false, false, false, false, false, false, false, false, false, false, false, false, false, false, false, false, false] (by kernel_rfl) rfl rfl ⟨hf, ho, ht, hz⟩ (fun hHeld => ?_); refine with_tabW tab81 bits81 (fun HT_ HW_ => ?_)
  refine pure_ (i := 2) (N := some 8) (v := ?_) (a' := ?_) #[false, false, true, false, false, false, false, false, false, false, false, false, false, false, false, false, false] rfl rfl (any_of HT_.out (by kernel_rfl)) (fun _ _ _ h => h) (Or.inl ⟨by rfl, ?_⟩) ?_ ?_
  rotate_left
  · intro w'
    go_simp
    with_reducible rfl
  rotate_left
  · simp only [Act.put, List.setIfInBounds_toArray, List.set_cons_zero, List.set_cons_succ, i64_w, i32_w]
    rfl
  refine take_ (i := 0) (N := some 6) (v := ?_) (a' := ?_) #[true, false, true, false, false, false, false, false, false, false, false, false, false, false, false, false, false] rfl rfl (take_ofW HT_.out HW_.out (by kernel_rfl)) (fun _ _ _ h => h) (Or.inl ⟨by rfl, ?_⟩) hHeld ?_ ?_
  rotate_left
  · rintro w' ⟨s0, s1, s2, s3⟩
    go_simp
    with_reducible rfl
  rotate_left
  · simp only [Act.put, List.setIfInBounds_toArray, List.set_cons_zero, List.set_cons_succ, i64_w, i32_w]
    rfl
  refine take_ (i := 1) (N := some 7) (v := ?_) (a' := ?_) #[true, true, true, false, false, false, false, false, false, false, false, false, false, false, false, false, false] rfl rfl (take_ofW HT_.out HW_.out (by kernel_rfl)) (fun _ _ _ h => h) (Or.inl ⟨by rfl, ?_⟩) hHeld ?_ ?_
  rotate_left
  · rintro w' ⟨s0, s1, s2, s3⟩
    go_simp
    with_reducible rfl
  rotate_left
  · simp only [Act.put, List.setIfInBounds_toArray, List.set_cons_zero, List.set_cons_succ, i64_w, i32_w]
    rfl
  refine one_ (i := 3) (N := some 9) #[true, true, true, true, false, false, false, false, false, false, false, false, false, false, false, false, false] rfl rfl (one_of HT_.out (by kernel_rfl)) (by decide) (fun K hK => ?_)
  refine call_ g #[.pointer (some ⟨b, 0, none⟩)] (by rfl) rfl ?run ?_
  case run =>
    unfold execOp
    simp [resolve, Deferred.ofValue, invoke, Act.eval, hen]
  refine (hof _).mono ?_
  rintro e w' ⟨rfl, rfl⟩
  refine ⟨_, rfl, ?_⟩
  refine hK.out _ _ hHeld (fun hHeld => ?_)
  clear hK K
  refine norm_ (a' := ?_) ?_ ?_
  rotate_left
  · simp only [Act.put, List.setIfInBounds_toArray, List.set_cons_zero, List.set_cons_succ, i64_w, i32_w]
    rfl
  refine pure_ (i := 4) (N := some 10) (v := ?_) (a' := ?_) #[true, true, true, true, true, false, false, false, false, false, false, false, false, false, false, false, false] rfl rfl (any_of HT_.out (by kernel_rfl)) (fun _ _ _ h => h) (Or.inl ⟨by rfl, ?_⟩) ?_ ?_
  rotate_left
  · intro w'
    go_simp
    with_reducible rfl
  rotate_left
  · simp only [Act.put, List.setIfInBounds_toArray, List.set_cons_zero, List.set_cons_succ, i64_w, i32_w]
    rfl
  refine take_ (i := 5) (N := some 11) (v := ?_) (a' := ?_) #[true, true, true, true, true, true, false, false, false, false, false, false, false, false, false, false, false] rfl rfl (take_ofW HT_.out HW_.out (by kernel_rfl)) (fun _ _ _ h => h) (Or.inl ⟨by rfl, ?_⟩) hHeld ?_ ?_
  rotate_left
  · rintro w' ⟨s0, s1, s2, s3⟩
    go_simp
    with_reducible rfl
  rotate_left
  · simp only [Act.put, List.setIfInBounds_toArray, List.set_cons_zero, List.set_cons_succ, i64_w, i32_w]
    rfl
  refine pure_ (i := 6) (N := some 12) (v := ?_) (a' := ?_) #[true, true, true, true, true, true, true, false, false, false, false, false, false, false, false, false, false] rfl rfl (any_of HT_.out (by kernel_rfl)) (fun _ _ _ h => h) (Or.inl ⟨by rfl, ?_⟩) ?_ ?_
  rotate_left
  · intro w'
    go_simp
    with_reducible rfl
  rotate_left
  · simp only [Act.put, List.setIfInBounds_toArray, List.set_cons_zero, List.set_cons_succ, i64_w, i32_w]
    rfl
  refine pure_ (i := 7) (N := some 13) (v := ?_) (a' := ?_) #[true, true, true, true, true, true, true, true, false, false, false, false, false, false, false, false, false] rfl rfl (any_of HT_.out (by kernel_rfl)) (fun _ _ _ h => h) (Or.inl ⟨by rfl, ?_⟩) ?_ ?_
  rotate_left
  · intro w'
    go_simp
    with_reducible rfl
  rotate_left
  · simp only [Act.put, List.setIfInBounds_toArray, List.set_cons_zero, List.set_cons_succ, i64_w, i32_w]
    rfl
  refine take_ (i := 8) (N := some 14) (v := ?_) (a' := ?_) #[true, true, true, true, true, true, true, true, true, false, false, false, false, false, false, false, false] rfl rfl (take_ofW HT_.out HW_.out (by kernel_rfl)) (fun _ _ _ h => h) (Or.inl ⟨by rfl, ?_⟩) hHeld ?_ ?_
  rotate_left
  · rintro w' ⟨s0, s1, s2, s3⟩
    go_simp
    with_reducible rfl
  rotate_left
  · simp only [Act.put, List.setIfInBounds_toArray, List.set_cons_zero, List.set_cons_succ, i64_w, i32_w]
    rfl
  refine pure_ (i := 9) (N := some 15) (v := ?_) (a' := ?_) #[true, true, true, true, true, true, true, true, true, true, false, false, false, false, false, false, false] rfl rfl (any_of HT_.out (by kernel_rfl)) (fun _ _ _ h => h) (Or.inl ⟨by rfl, ?_⟩) ?_ ?_
  rotate_left
  · intro w'
    go_simp
    with_reducible rfl
  rotate_left
  · simp only [Act.put, List.setIfInBounds_toArray, List.set_cons_zero, List.set_cons_succ, i64_w, i32_w]
    rfl
  refine take_ (i := 13) (N := some 19) (v := ?_) (a' := ?_) #[true, true, true, true, true, true, true, true, true, true, false, false, false, true, false, false, false] rfl rfl (take_ofW HT_.out HW_.out (by kernel_rfl)) (fun _ _ _ h => h) (Or.inl ⟨by rfl, ?_⟩) hHeld ?_ ?_
  rotate_left
  · rintro w' ⟨s0, s1, s2, s3⟩
    go_simp
    with_reducible rfl
  rotate_left
  · simp only [Act.put, List.setIfInBounds_toArray, List.set_cons_zero, List.set_cons_succ, i64_w, i32_w]
    rfl
  refine one_ (i := 10) (N := some 16) #[true, true, true, true, true, true, true, true, true, true, true, false, false, true, false, false, false] rfl rfl (one_of HT_.out (by kernel_rfl)) (by decide) (fun K hK => ?_)
  refine call_ g #[.pointer (some ⟨b, 0, none⟩)] (by rfl) rfl ?run ?_
  case run =>
    unfold execOp
    simp [resolve, Deferred.ofValue, invoke, Act.eval, hen]
  refine (hof _).mono ?_
  rintro e w' ⟨rfl, rfl⟩
  refine ⟨_, rfl, ?_⟩
  refine hK.out _ _ hHeld (fun hHeld => ?_)
  clear hK K
  refine norm_ (a' := ?_) ?_ ?_
  rotate_left
  · simp only [Act.put, List.setIfInBounds_toArray, List.set_cons_zero, List.set_cons_succ, i64_w, i32_w]
    rfl
  refine pure_ (i := 11) (N := some 17) (v := ?_) (a' := ?_) #[true, true, true, true, true, true, true, true, true, true, true, true, false, true, false, false, false] rfl rfl (any_of HT_.out (by kernel_rfl)) (fun _ _ _ h => h) (Or.inl ⟨by rfl, ?_⟩) ?_ ?_
  rotate_left
  · intro w'
    go_simp
    with_reducible rfl
  rotate_left
  · simp only [Act.put, List.setIfInBounds_toArray, List.set_cons_zero, List.set_cons_succ, i64_w, i32_w]
    rfl
  refine take_ (i := 12) (N := some 18) (v := ?_) (a' := ?_) #[true, true, true, true, true, true, true, true, true, true, true, true, true, true, false, false, false] rfl rfl (take_ofW HT_.out HW_.out (by kernel_rfl)) (fun _ _ _ h => h) (Or.inl ⟨by rfl, ?_⟩) hHeld ?_ ?_
  rotate_left
  · rintro w' ⟨s0, s1, s2, s3⟩
    go_simp
    with_reducible rfl
  rotate_left
  · simp only [Act.put, List.setIfInBounds_toArray, List.set_cons_zero, List.set_cons_succ, i64_w, i32_w]
    rfl
  refine pure_ (i := 14) (N := some 20) (v := ?_) (a' := ?_) #[true, true, true, true, true, true, true, true, true, true, true, true, true, true, true, false, false] rfl rfl (any_of HT_.out (by kernel_rfl)) (fun _ _ _ h => h) (Or.inl ⟨by rfl, ?_⟩) ?_ ?_
  rotate_left
  · intro w'
    go_simp
    with_reducible rfl
  rotate_left
  · simp only [Act.put, List.setIfInBounds_toArray, List.set_cons_zero, List.set_cons_succ, i64_w, i32_w]
    rfl
  refine pure_ (i := 15) (N := some 21) (v := ?_) (a' := ?_) #[true, true, true, true, true, true, true, true, true, true, true, true, true, true, true, true, false] rfl rfl (any_of HT_.out (by kernel_rfl)) (fun _ _ _ h => h) (Or.inl ⟨by rfl, ?_⟩) ?_ ?_
  rotate_left
  · intro w'
    go_simp
    with_reducible rfl
  rotate_left
  · simp only [Act.put, List.setIfInBounds_toArray, List.set_cons_zero, List.set_cons_succ, i64_w, i32_w]
    rfl
  refine pure_ (i := 16) (N := some 5) (v := ?_) (a' := ?_) #[true, true, true, true, true, true, true, true, true, true, true, true, true, true, true, true, true] rfl rfl (any_of HT_.out (by kernel_rfl)) (fun _ _ _ h => h) (Or.inl ⟨by rfl, ?_⟩) ?_ ?_
  rotate_left
  · intro w'
    go_simp
    with_reducible rfl
  rotate_left
  · simp only [Act.put, List.setIfInBounds_toArray, List.set_cons_zero, List.set_cons_succ, i64_w, i32_w]
    rfl
  refine done_ (done_of HT_.out (by kernel_rfl)) ?_
  go_wp2_with fail
  refine ⟨rfl, _, ?res, rfl, below_drew1 (Below.refl _ _)⟩
  case res => simp [go_sem, results, Tryd.f81]
set_option maxRecDepth 100000 in
set_option maxHeartbeats 4000000 in
theorem valid94 (b : Nat) (W : World) : Calls Tryd.prog 94 #[.pointer (some ⟨b, 0, none⟩)] W fun e w' => e = .returned (.bool true) ∧ Below W.heap.size W w' := by
  go_enter Tryd.func94, Tryd.ntmps94
  go_wp2_with fail
  refine ⟨rfl, _, ?res, rfl, Below.refl _ _⟩
  case res => simp [go_sem, results, Tryd.f94]
set_option maxRecDepth 100000 in
set_option maxHeartbeats 4000000 in
theorem clear86 {W : World} {b o n : Nat} {g : Nat} {z : Value} (hen : ∀ (args : Array Value) (w : World), (callFunc g args).run Tryd.prog w = .ok (.enter g args) w) (ho : W.cell? ⟨o, 0, none⟩ = some (.func (.func g) #[] #[])) (hof : ∀ w : World, Calls Tryd.prog g #[.pointer (some ⟨b, 0, none⟩)] w fun e w' => e = .returned (.pointer (some ⟨b, n, none⟩)) ∧ w' = w)
    (hz : W.cell? ⟨b, n, none⟩ = some z) (hfr : W.frozen? ⟨b, n, none⟩ = false) :
    Calls Tryd.prog 86 #[.pointer (some ⟨b, 0, none⟩), .pointer (some ⟨o, 0, none⟩)] W fun e w' => (∃ v, e = .returned v) ∧ w' = W.setCell ⟨b, n, none⟩ (.int .i64 0) := by
  go_enter Tryd.func86, Tryd.ntmps86
  go_wp2_with fail
  refine (hof _).mono ?_
  rintro e w' ⟨rfl, rfl⟩
  go_wp2_with fail
  refine ⟨rfl, .tuple #[], ?res, ⟨_, rfl⟩, rfl⟩
  case res => simp [go_sem, results, Tryd.f86]
set_option maxRecDepth 100000 in
set_option maxHeartbeats 4000000 in
theorem clear98 {W : World} {b o n : Nat} {g : Nat} {z : Value} (hen : ∀ (args : Array Value) (w : World), (callFunc g args).run Tryd.prog w = .ok (.enter g args) w) (ho : W.cell? ⟨o, 0, none⟩ = some (.func (.func g) #[] #[])) (hof : ∀ w : World, Calls Tryd.prog g #[.pointer (some ⟨b, 0, none⟩)] w fun e w' => e = .returned (.pointer (some ⟨b, n, none⟩)) ∧ w' = w)
    (hz : W.cell? ⟨b, n, none⟩ = some z) (hfr : W.frozen? ⟨b, n, none⟩ = false) :
    Calls Tryd.prog 98 #[.pointer (some ⟨b, 0, none⟩), .pointer (some ⟨o, 0, none⟩)] W fun e w' => (∃ v, e = .returned v) ∧ w' = W.setCell ⟨b, n, none⟩ (.bool false) := by
  go_enter Tryd.func98, Tryd.ntmps98
  go_wp2_with fail
  refine (hof _).mono ?_
  rintro e w' ⟨rfl, rfl⟩
  go_wp2_with fail
  refine ⟨rfl, .tuple #[], ?res, ⟨_, rfl⟩, rfl⟩
  case res => simp [go_sem, results, Tryd.f98]
end Go.Proofs.YtenaokgcljpcgaaDoor.GA
