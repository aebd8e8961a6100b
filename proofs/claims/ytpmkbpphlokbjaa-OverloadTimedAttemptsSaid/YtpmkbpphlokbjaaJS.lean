/- timers.split of the given program: it parts a list by a predicate, each part in a row of its own. -/
import Derived.Test.YtpmkbpphlokbjaaJC
import Derived.Laws.EntriesVeiled
import Derived.Lib.Hide
set_option linter.unusedVariables false
set_option linter.unusedSimpArgs false
namespace Go.Proofs.Ytpmkbpphlokbjaa.GT
open Go.RowKit Go.Proofs.YtpmkbpphlokbjaaW.PrintWords Go.Proofs.YtpmkbpphlokbjaaW.PrintLast Go.Proofs.YtpmkbpphlokbjaaW.PrintMore
/-- a list of timers as cells -/
def tcells (l : List S64) : List Value := l.flatMap fun x => [.int .i64 x.f0, .int .i64 x.f1]
theorem tcells_snoc (l : List S64) (x : S64) : tcells (l ++ [x]) = tcells l ++ [.int .i64 x.f0, .int .i64 x.f1] := by simp [tcells]
theorem reps_snoc {α : Type} {R : α → List Value → Prop} {size : Nat} {ps : List α} {cs c : List Value} {x : α} (h : Reps R size ps cs) (hc : c.length = size) (hx : R x c) : Reps R size (ps ++ [x]) (cs ++ c) := by
  obtain ⟨h1, h2⟩ := h
  refine ⟨by rw [List.length_append, List.length_append, h1, hc, List.length_singleton, Nat.add_mul, Nat.one_mul], fun j p hj => ?_⟩
  rcases Nat.lt_or_ge j ps.length with hl | hl
  · rw [List.getElem?_append_left hl] at hj
    have hle : (j + 1) * size ≤ ps.length * size := Nat.mul_le_mul_right _ hl
    rw [Nat.add_mul, Nat.one_mul] at hle
    have := h2 j p hj
    rw [List.drop_append_of_le_length (by omega), List.take_append_of_le_length (by rw [List.length_drop]; omega)]
    exact this
  · rw [List.getElem?_append_right hl] at hj
    have hj0 : j - ps.length = 0 := by
      rcases Nat.eq_zero_or_pos (j - ps.length) with h0 | h0
      · exact h0
      · rw [List.getElem?_eq_none (by simp; omega)] at hj; cases hj
    have : j = ps.length := by omega
    subst this
    simp at hj
    subst hj
    rw [← h1, List.drop_left, ← hc, List.take_length]
    exact hx
theorem reps_tcells (W : World) (base : Nat) (ok : Nat → Prop) : ∀ l : List S64, Reps (k64.M W base ok) 2 l (tcells l) := by
  intro l
  rw [← List.reverse_reverse l]
  induction l.reverse with
  | nil => exact ⟨rfl, fun j p hj => by cases hj⟩
  | cons x l ih =>
    rw [List.reverse_cons, tcells_snoc]
    exact reps_snoc ih rfl (k64_mkM W base ok x)
theorem R_tcells {W : World} {base : Nat} {v : Value} {l : List S64} (h : W.ownsRow base 64 2 v l.length (tcells l)) : Kd.R k64 64 W base (fun _ => True) v l := ⟨fun _ _ => trivial, _, h, reps_tcells _ _ _ l⟩
theorem own_bel {W W' : World} {base e sz n : Nat} {v : Value} {xs : List Value} (h : W.ownsRow base e sz v n xs) (hb : Below W.heap.size W W') : W'.ownsRow base e sz v n xs := own_move h (fun k hk => hb.block k (own_lt h k hk))
theorem cell_ats {W : World} {b e : Nat} {cs : List Value} {fz : Nat × Nat} (h : W.heap[b]? = some (.cells cs.toArray e fz)) (j : Nat) (u : Value) (hj : cs[j]? = some u) : W.cell? ((⟨b, 0, none⟩ : Addr).add j) = some u := by
  have ha : ((⟨b, 0, none⟩ : Addr).add j) = ⟨b, j, none⟩ := by
    unfold Addr.add
    split <;> simp_all
  rw [ha]
  simp [World.cell?, h]
  simpa using hj
/-- the two parts of the list's first j timers, in rows of their own -/
structure Parts (w W : World) (l : List S64) (p : S64 → Bool) (j : Nat) (v4 v5 : Value) : Prop where
  below : Below w.heap.size w W
  yes : W.ownsRow w.heap.size 64 2 v4 ((l.take j).filter p).length (tcells ((l.take j).filter p))
  no : W.ownsRow w.heap.size 64 2 v5 ((l.take j).filter (fun x => !p x)).length (tcells ((l.take j).filter (fun x => !p x)))
  apart : ∀ k, v4.ownBlock = some k → v5.ownBlock ≠ some k
theorem Parts.step {w W W' : World} {l : List S64} {p : S64 → Bool} {j : Nat} {v4 v5 : Value} (h : Parts w W l p j v4 v5) (hb : Below W.heap.size W W') : Parts w W' l p j v4 v5 :=
  ⟨h.below.trans (hb.mono h.below.size), own_bel h.yes hb, own_bel h.no hb, h.apart⟩
theorem take_rd {l : List S64} {j : Nat} (hj : j < l.length) : l.take (j + 1) = l.take j ++ [rd_T64 l (j : Int)] := by
  rw [List.take_add_one, List.getElem?_eq_getElem hj]
  simp [rd_T64, List.getD_eq_getElem?_getD, hj]
theorem Parts.addyes {w W W' : World} {l : List S64} {p : S64 → Bool} {j : Nat} {v4 v5 v' : Value} (h : Parts w W l p j v4 v5) (hj : j < l.length) (hp : p (rd_T64 l (j : Int)) = true)
    (ho : W'.ownsRow w.heap.size 64 2 v' (((l.take j).filter p).length + 1) (tcells ((l.take j).filter p) ++ [.int .i64 (rd_T64 l (j : Int)).f0, .int .i64 (rd_T64 l (j : Int)).f1]))
    (hg : W.grownBy W' v4.ownBlock) (hat : v'.ownBlock = v4.ownBlock ∨ v'.ownBlock = some W.heap.size) : Parts w W' l p (j + 1) v' v5 := by
  have hf : (l.take (j + 1)).filter p = (l.take j).filter p ++ [rd_T64 l (j : Int)] := by rw [take_rd hj, List.filter_append]; simp [hp]
  have hf' : (l.take (j + 1)).filter (fun x => !p x) = (l.take j).filter (fun x => !p x) := by rw [take_rd hj, List.filter_append]; simp [hp]
  have hap : ∀ k, v5.ownBlock = some k → v4.ownBlock ≠ some k := fun k h5 h4 => h.apart k h4 h5
  refine ⟨h.below.grown hg h.below.size (fun k hk => own_base h.yes k hk), ?_, ?_, ?_⟩
  · rw [hf, tcells_snoc, List.length_append]
    exact ho
  · rw [hf']
    exact h.no.kept hg (by
      rcases h5 : v5.ownBlock with _ | k
      · exact .inl rfl
      · exact .inr (fun he => hap k h5 he.symm))
  · intro k hk h5
    rcases hat with hat | hat
    · exact h.apart k (hat ▸ hk) h5
    · rw [hk] at hat
      cases hat
      have := own_lt h.no _ h5
      omega
theorem Parts.addno {w W W' : World} {l : List S64} {p : S64 → Bool} {j : Nat} {v4 v5 v' : Value} (h : Parts w W l p j v4 v5) (hj : j < l.length) (hp : p (rd_T64 l (j : Int)) = false)
    (ho : W'.ownsRow w.heap.size 64 2 v' (((l.take j).filter (fun x => !p x)).length + 1) (tcells ((l.take j).filter (fun x => !p x)) ++ [.int .i64 (rd_T64 l (j : Int)).f0, .int .i64 (rd_T64 l (j : Int)).f1]))
    (hg : W.grownBy W' v5.ownBlock) (hat : v'.ownBlock = v5.ownBlock ∨ v'.ownBlock = some W.heap.size) : Parts w W' l p (j + 1) v4 v' := by
  have hf : (l.take (j + 1)).filter (fun x => !p x) = (l.take j).filter (fun x => !p x) ++ [rd_T64 l (j : Int)] := by rw [take_rd hj, List.filter_append]; simp [hp]
  have hf' : (l.take (j + 1)).filter p = (l.take j).filter p := by rw [take_rd hj, List.filter_append]; simp [hp]
  refine ⟨h.below.grown hg h.below.size (fun k hk => own_base h.no k hk), ?_, ?_, ?_⟩
  · rw [hf']
    exact h.yes.kept hg (by
      rcases h4 : v4.ownBlock with _ | k
      · exact .inl rfl
      · exact .inr (fun he => h.apart k h4 he.symm))
  · rw [hf, tcells_snoc, List.length_append]
    exact ho
  · intro k hk h5
    rcases hat with hat | hat
    · exact h.apart k hk (hat ▸ h5)
    · rw [h5] at hat
      cases hat
      have := own_lt h.yes _ hk
      omega
theorem wr_j {n j : Nat} (hj : j < n) (hn : n ≤ 1024) : wrap64 ((j : Int) + 1) = ((j + 1 : Nat) : Int) := by rw [IntWalk.wrap64_in _ (by omega)]; omega
set_option maxRecDepth 100000 in
set_option maxHeartbeats 8000000 in
theorem split_calls {F c : Nat} {p : S64 → Bool} {v0 : Value} {A0 : Option Addr} {cap : Nat} {l : List S64} {w : World} (hr : Kd.C k64 w A0 l.length l) (hlc : l.length ≤ cap) (hlen : l.length ≤ 1024) (hcell : w.cell? ⟨c, 0, none⟩ = some v0)
    (hen : ∀ (args : Array Value) (w : World), (callFunc F args).run Try.prog w = .ok (.enter F args) w)
    (hcl : ∀ (x : S64) (W : World), W.cell? ⟨c, 0, none⟩ = some v0 → Calls Try.prog F #[.agg #[.int .i64 x.f0, .int .i64 x.f1], .pointer (some ⟨c, 0, none⟩)] W fun e w' => e = .returned (.bool (p x)) ∧ Below W.heap.size W w') :
    Calls Try.prog 35 #[.slice A0 l.length cap, .func (.func F) #[] #[.pointer (some ⟨c, 0, none⟩)]] w fun e w' => ∃ v1 v2, e = .returned (.tuple #[v1, v2]) ∧ Kd.R k64 64 w' w.heap.size (fun _ => True) v1 (l.filter p) ∧ Kd.R k64 64 w' w.heap.size (fun _ => True) v2 (l.filter (fun x => !p x)) ∧ Below w.heap.size w w' := by
  obtain ⟨i94, hi94, hz94⟩ := Option.map_eq_some_iff.1 info64
  simp only [Prod.mk.injEq] at hz94
  obtain ⟨hz0, hz1, hz2⟩ := hz94
  go_enter Try.func35, Try.ntmps35
  go_wp2_with fail
  go_loopw [4, 5, 10] (fun v4 v5 i W => ∃ j : Nat, j ≤ l.length ∧ i = .int .i64 (j : Int) ∧ Parts w W l p j v4 v5) (fun _ _ i _ => l.length - (intOf i).toNat)
  case atStart => exact ⟨0, by omega, rfl, Below.refl _ _, World.ownsRow_nil _ _ _ _, World.ownsRow_nil _ _ _ _, fun k hk => by simp [Value.ownBlock] at hk⟩
  case round =>
    obtain ⟨j, hj, rfl, hP⟩ := hrel
    by_cases hlt : j < l.length
    · have hlt' : decide ((j : Int) < (l.length : Int)) = true := decide_eq_true (by omega)
      obtain ⟨ad, ead, q0, q1⟩ := at_T64 hr (j : Int) (by omega) (by omega)
      subst ead
      rw [Int.toNat_natCast] at q0 q1
      obtain ⟨x, hx⟩ : ∃ x, rd_T64 l (j : Int) = x := ⟨_, rfl⟩
      rw [hx] at q0 q1
      have x0 := (hP.below.cell (World.block_lt_of_cell? w _ q0)).trans q0
      have x1 := (hP.below.cell (World.block_lt_of_cell? w _ q1)).trans q1
      have hce := (hP.below.cell (World.block_lt_of_cell? w _ hcell)).trans hcell
      have hwr : w.heap.size ≤ wr.heap.size := hP.below.size
      clear q0 q1
      go_wp2_with fail
      have hce2 := ((Below.refl _ _).alloc (Nat.le_refl _) (Obj.cells #[.int .i64 x.f0, .int .i64 x.f1] 64) : Below wr.heap.size wr _).cell (World.block_lt_of_cell? wr _ hce) |>.trans hce
      refine (hcl x _ hce2).mono ?_
      rintro e w2 ⟨rfl, hb2⟩
      have bx := blk_below (blk_new wr (.cells #[.int .i64 x.f0, .int .i64 x.f1] 64)) hb2
      have hP2 : Parts w w2 l p j u4 u5 := (hP.step ((Below.refl _ _).alloc (Nat.le_refl _) _)).step hb2
      have d0 := blk_cell bx 0
      have d1 := blk_cell bx 1
      have hP3 := hP2.step ((Below.refl _ _).alloc (Nat.le_refl _) (Obj.cells #[.int .i64 x.f0, .int .i64 x.f1] 64))
      have hnw := blk_new w2 (.cells #[.int .i64 x.f0, .int .i64 x.f1] 64)
      have hlj : (l.take j).length ≤ 1024 := by rw [List.length_take]; omega
      clear hP hce hce2 x0 x1 hb2 hr
      rcases hp : p x with _ | _
      · have hl5 : ((l.take j).filter (fun x => !p x)).length ≤ 1024 := Nat.le_trans (List.length_filter_le _ _) hlj
        go_wp2_with (first | (at_builtin; go_loud (refine wpList_append_own_at _ rfl (.tmp 21) (.tmp 23) 42 rfl w.heap.size 64 i94 _ 2 16 Try.underlying42 hi94 hz0 hz1 hz2 rfl (by decide) _ _ _ rfl hP3.no ⟨w2.heap.size, 0, none⟩ 1 1 [.int .i64 x.f0, .int .i64 x.f1] rfl rfl (cell_ats hnw) (by simp [Value.oneCell']) (by simp only [maxLen]; omega) (by omega) hP3.below.size ?_); intro v' w3 ho hg _ hat))
        go_roundw
        case rel => exact ⟨j + 1, by omega, rfl, hP3.addno hlt (by rw [hx]; exact hp) (by rw [hx]; exact ho) hg hat⟩
        case measure => simp [intOf]; omega
      · have hl4 : ((l.take j).filter p).length ≤ 1024 := Nat.le_trans (List.length_filter_le _ _) hlj
        go_wp2_with (first | (at_builtin; go_loud (refine wpList_append_own_at _ rfl (.tmp 17) (.tmp 19) 42 rfl w.heap.size 64 i94 _ 2 16 Try.underlying42 hi94 hz0 hz1 hz2 rfl (by decide) _ _ _ rfl hP3.yes ⟨w2.heap.size, 0, none⟩ 1 1 [.int .i64 x.f0, .int .i64 x.f1] rfl rfl (cell_ats hnw) (by simp [Value.oneCell']) (by simp only [maxLen]; omega) (by omega) hP3.below.size ?_); intro v' w3 ho hg _ hat))
        go_roundw
        case rel => exact ⟨j + 1, by omega, rfl, hP3.addyes hlt (by rw [hx]; exact hp) (by rw [hx]; exact ho) hg hat⟩
        case measure => simp [intOf]; omega
    · have hlt' : decide ((j : Int) < (l.length : Int)) = false := decide_eq_false (by omega)
      have hjl : j = l.length := by omega
      subst hjl
      obtain ⟨hbl, hy, hn, _⟩ := hP
      rw [List.take_length] at hy hn
      go_wp2_with fail
      try rw [Exit.noGoto_ret]
      refine bodyPost_ret (v := .tuple #[u4, u5]) (by simp [results, Try.results35, go_sem]) rfl ?_
      exact ⟨u4, u5, rfl, R_tcells hy, R_tcells hn, hbl⟩
end Go.Proofs.Ytpmkbpphlokbjaa.GT
