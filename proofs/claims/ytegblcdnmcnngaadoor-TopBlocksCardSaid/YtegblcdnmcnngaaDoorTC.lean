/- slices.Clone of the given program at grants and at digests. -/
import Derived.Test.YtegblcdnmcnngaaDoorTG
set_option linter.unusedVariables false
set_option linter.unusedSimpArgs false
namespace Go.Proofs.YtegblcdnmcnngaaDoor.TB
open Go.RowKit
theorem info41 : (Tryd.prog.info? 41).map (fun i => (i.zero, i.size, i.bytes)) = some (some (.agg #[.string ⟨#[]⟩, .int .i64 0]), 2, 24) := by kernel_rfl
def zd : Value := .agg (Array.replicate 32 (.int .u8 0))
theorem info50 : (Tryd.prog.info? 50).map (fun i => (i.zero, i.size, i.bytes)) = some (some zd, 32, 32) := by kernel_rfl
/-- the cells of grants -/
def gv (l : List Gr) : List Value := l.flatMap fun r => [.string r.p, .int .i64 r.c]
theorem gv_cons (r : Gr) (l : List Gr) : gv (r :: l) = .string r.p :: .int .i64 r.c :: gv l := rfl
theorem gv_len (l : List Gr) : (gv l).length = l.length * 2 := by
  induction l with
  | nil => rfl
  | cons r l ih => rw [gv_cons]; simp [ih]; omega
theorem gv_one (l : List Gr) : ∀ u ∈ gv l, u.oneCell' = true := by
  intro u hu
  simp only [gv, List.mem_flatMap] at hu
  obtain ⟨r, _, hr⟩ := hu
  simp at hr
  rcases hr with rfl | rfl <;> rfl
theorem gv_at (l : List Gr) : ∀ j u, (gv l)[j]? = some u → ∃ r, l[j / 2]? = some r ∧ ((j % 2 = 0 ∧ u = .string r.p) ∨ (j % 2 = 1 ∧ u = .int .i64 r.c)) := by
  induction l with
  | nil => intro j u h; simp [gv] at h
  | cons r l ih =>
    intro j u h
    rw [gv_cons] at h
    match j, h with
    | 0, h => simp at h; exact ⟨r, rfl, .inl ⟨rfl, h.symm⟩⟩
    | 1, h => simp at h; exact ⟨r, rfl, .inr ⟨rfl, h.symm⟩⟩
    | j + 2, h =>
      simp only [List.getElem?_cons_succ] at h
      obtain ⟨r', h1, h2⟩ := ih j u h
      refine ⟨r', by rw [show (j + 2) / 2 = j / 2 + 1 by omega, List.getElem?_cons_succ]; exact h1, ?_⟩
      rcases h2 with ⟨h2, h3⟩ | ⟨h2, h3⟩
      · exact .inl ⟨by omega, h3⟩
      · exact .inr ⟨by omega, h3⟩
theorem gv_get (l : List Gr) : ∀ i r, l[i]? = some r → (gv l)[i * 2]? = some (.string r.p) ∧ (gv l)[i * 2 + 1]? = some (.int .i64 r.c) := by
  induction l with
  | nil => intro i r h; simp at h
  | cons q l ih =>
    intro i r h
    rw [gv_cons]
    match i, h with
    | 0, h => simp at h; subst h; exact ⟨rfl, rfl⟩
    | i + 1, h =>
      simp only [List.getElem?_cons_succ] at h
      obtain ⟨h1, h2⟩ := ih i r h
      refine ⟨?_, ?_⟩
      · rw [show (i + 1) * 2 = i * 2 + 2 by omega]; exact h1
      · rw [show (i + 1) * 2 + 1 = i * 2 + 1 + 2 by omega]; exact h2
theorem Grants.cells {W : World} {x : Addr} {l : List Gr} (h : Grants W (some x) l) : ∀ j u, (gv l)[j]? = some u → W.cell? (x.add j) = some u := by
  intro j u hu
  obtain ⟨r, hr, hc⟩ := gv_at l j u hu
  obtain ⟨x', hx', h0, h1, _⟩ := h (j / 2) r hr
  cases hx'
  rcases hc with ⟨hj, rfl⟩ | ⟨hj, rfl⟩
  · rw [show j = j / 2 * 2 by omega]; exact h0
  · have := add_form x (j / 2 * 2) 0
    rw [show j = j / 2 * 2 + (0 + 1) by omega, this]
    exact h1
/-- grants in a row of the call's own -/
theorem own_grants {W : World} {base n : Nat} {v : Value} {l : List Gr} (h : W.ownsRow base 41 2 v n (gv l)) (hn : n = l.length) (hz : ∀ (i : Nat) (r : Gr), l[i]? = some r → r.p.size ≤ 140737488355328) : ∃ a c, v = .slice a l.length c ∧ l.length ≤ c ∧ Grants W a l ∧ ∀ x, a = some x → base ≤ x.block := by
  subst hn
  have h0 := h
  rcases h.2 with ⟨hv, h0⟩ | ⟨g, c, cur, rfl, hb, hh, hnc, hcm, hcs, htk⟩
  · have hl : l = [] := List.length_eq_zero_iff.1 h0
    subst hl
    exact ⟨none, 0, hv, Nat.le_refl _, fun i r hr => by simp at hr, fun x h => by cases h⟩
  · refine ⟨some ⟨g, 0, none⟩, c, rfl, hnc, fun i r hr => ⟨_, rfl, ?_, ?_, hz i r hr⟩, fun x h => by cases h; exact hb⟩
    · have hi := (List.getElem?_eq_some_iff.1 hr).1
      rw [addz, h0.cellAt _ (by omega)]
      exact (gv_get l i r hr).1
    · have hi := (List.getElem?_eq_some_iff.1 hr).1
      rw [addz]
      show W.cell? ⟨g, i * 2 + 1, none⟩ = _
      rw [h0.cellAt _ (by omega)]
      exact (gv_get l i r hr).2
theorem add_block (x : Addr) (n : Nat) : (x.add n).block = x.block := by
  unfold Addr.add
  split <;> rfl
theorem Grants.set {W : World} {a : Option Addr} {l : List Gr} {q : Addr} {u : Value} (h : Grants W a l) (hq : ∀ x, a = some x → x.block ≠ q.block) : Grants (W.setCell q u) a l := by
  intro i r hr
  obtain ⟨x, hx, h0, h1, hz⟩ := h i r hr
  have hne := hq x hx
  refine ⟨x, hx, ?_, ?_, hz⟩
  · rw [World.cell?_setCell_other _ _ _ _ (by intro e; exact hne (by rw [← add_block x (i * 2), ← e]))]; exact h0
  · rw [World.cell?_setCell_other _ _ _ _ (by intro e; exact hne (by rw [← add_block x (i * 2)]; exact (congrArg Addr.block e).symm))]; exact h1
theorem eq_nil22 (a : Addr) (n c : Nat) (w : World) : (binOp BinOp.eql 22 (.slice (some a) n c) (.slice none 0 0)).run Tryd.prog w = .ok (.bool false) w := by kernel_rfl
theorem eq_nil22' (n c : Nat) (w : World) : (binOp BinOp.eql 22 (.slice none n c) (.slice none 0 0)).run Tryd.prog w = .ok (.bool true) w := by kernel_rfl
theorem eq_nil23 (a : Addr) (n c : Nat) (w : World) : (binOp BinOp.eql 23 (.slice (some a) n c) (.slice none 0 0)).run Tryd.prog w = .ok (.bool false) w := by kernel_rfl
set_option maxRecDepth 100000 in
set_option maxHeartbeats 4000000 in
theorem clone11 {a : Option Addr} {c : Nat} {l : List Gr} {w : World} (hR : Grants w a l) (hl : l.length ≤ 100) (hnc : l.length ≤ c) :
    Calls Tryd.prog 11 #[.slice a l.length c] w fun e w' => ∃ a' c', e = .returned (.slice a' l.length c') ∧ l.length ≤ c' ∧ Grants w' a' l ∧ (∀ x, a' = some x → w.heap.size ≤ x.block) ∧ Below w.heap.size w w' := by
  have hzz : ∀ (i : Nat) (r : Gr), l[i]? = some r → r.p.size ≤ 140737488355328 := fun i r hr => by
    obtain ⟨_, _, h⟩ := hR i r hr
    exact h.sz
  obtain ⟨i72, hi72, hz72⟩ := Option.map_eq_some_iff.1 info41
  simp only [Prod.mk.injEq] at hz72
  obtain ⟨hz0, hz1, hz2⟩ := hz72
  cases a with
  | none =>
    have hl0 : l = [] := by
      cases l with
      | nil => rfl
      | cons r l => obtain ⟨x, hx, _⟩ := hR 0 r rfl; cases hx
    subst hl0
    go_enter Tryd.func11, Tryd.ntmps11
    go_wp2_with fail
    try rw [eq_nil22']
    go_wp2_with fail
    go_ret
    exact ⟨none, 0, rfl, Nat.le_refl _, hR, fun x h => (by cases h), Below.refl _ _⟩
  | some x =>
    go_enter Tryd.func11, Tryd.ntmps11
    go_wp2_with fail
    rw [eq_nil22]
    have hb0 : Below w.heap.size w (w.alloc (Obj.cells #[] 41)) := (Below.refl _ _).alloc (Nat.le_refl _) _
    have hown0 : (w.alloc (Obj.cells #[] 41)).ownsRow w.heap.size 41 2 (.slice (some ⟨w.heap.size, 0, none⟩) 0 0) 0 [] := ⟨rfl, .inr ⟨w.heap.size, 0, #[], rfl, Nat.le_refl _, heap_alloc_new w _, Nat.le_refl _, by decide, rfl, rfl⟩⟩
    have hcl : ∀ j u, (gv l)[j]? = some u → (w.alloc (Obj.cells #[] 41)).cell? (x.add j) = some u := (hR.below hb0).cells
    go_wp2_with (first | (at_builtin; go_loud (refine wpList_append_own_at _ rfl (.tmp 5) (.tmp 6) 22 rfl w.heap.size 41 i72 _ 2 24 Tryd.underlying22 hi72 hz0 hz1 hz2 rfl (by decide) _ 0 [] rfl hown0 x l.length c (gv l) rfl (gv_len l) hcl (gv_one l) (by simp only [maxLen]; omega) (by omega) hb0.size ?_); intro v' w3 ho hg _ hat))
    rw [List.nil_append, Nat.zero_add] at ho
    obtain ⟨a', c', rfl, h1, h2, h3⟩ := own_grants ho rfl hzz
    refine ⟨rfl, .slice a' l.length c', ?res, a', c', rfl, h1, h2, h3, hb0.grown hg hb0.size (fun k hk => by
      have : w.heap.size = k := by simpa [Value.ownBlock, Act.eval] using hk
      omega)⟩
    case res => simp [go_sem, results, Tryd.f11]
set_option maxRecDepth 100000 in
set_option maxHeartbeats 4000000 in
theorem clone12 {g n c : Nat} {w : World} (hR : ∀ j, j < n * 32 → w.cell? ⟨g, j, none⟩ = some (.int .u8 0)) (hn : n ≤ 100) (hnc : n ≤ c) :
    Calls Tryd.prog 12 #[.slice (some ⟨g, 0, none⟩) n c] w fun e w' => ∃ a' c', e = .returned (.slice a' n c') ∧ Below w.heap.size w w' := by
  obtain ⟨i72, hi72, hz72⟩ := Option.map_eq_some_iff.1 info50
  simp only [Prod.mk.injEq] at hz72
  obtain ⟨hz0, hz1, hz2⟩ := hz72
  have hzs : zd.cells.size = 32 := by kernel_rfl
  go_enter Tryd.func12, Tryd.ntmps12
  go_wp2_with fail
  rw [eq_nil23]
  have hb0 : Below w.heap.size w (w.alloc (Obj.cells #[] 50)) := (Below.refl _ _).alloc (Nat.le_refl _) _
  have hown0 : (w.alloc (Obj.cells #[] 50)).ownsRow w.heap.size 50 32 (.slice (some ⟨w.heap.size, 0, none⟩) 0 0) 0 [] := ⟨rfl, .inr ⟨w.heap.size, 0, #[], rfl, Nat.le_refl _, heap_alloc_new w _, Nat.le_refl _, by decide, rfl, rfl⟩⟩
  have hcl : ∀ j u, (List.replicate (n * 32) (Value.int .u8 0))[j]? = some u → (w.alloc (Obj.cells #[] 50)).cell? ((⟨g, 0, none⟩ : Addr).add j) = some u := fun j u hu => by
    rw [List.getElem?_replicate] at hu
    split at hu
    · rename_i hj
      cases hu
      rw [addz]
      have := hR j hj
      exact (hb0.cell (World.block_lt_of_cell? _ _ this)).trans this
    · cases hu
  have hone : ∀ u ∈ List.replicate (n * 32) (Value.int .u8 0), u.oneCell' = true := fun u hu => by rw [(List.mem_replicate.1 hu).2]; rfl
  go_wp2_with (first | (at_builtin; go_loud (refine wpList_append_own_at _ rfl (.tmp 5) (.tmp 6) 23 rfl w.heap.size 50 i72 _ 32 32 Tryd.underlying23 hi72 hz0 hz1 hz2 hzs (by decide) _ 0 [] rfl hown0 ⟨g, 0, none⟩ n c (List.replicate (n * 32) (Value.int .u8 0)) rfl (by simp) hcl hone (by simp only [maxLen]; omega) (by omega) hb0.size ?_); intro v' w3 ho hg _ hat))
  rw [List.nil_append, Nat.zero_add] at ho
  obtain ⟨a', c', rfl⟩ : ∃ a' c', v' = .slice a' n c' := by
    rcases ho.2 with ⟨hv, h0⟩ | ⟨g, c, cur, rfl, _⟩
    · subst h0; exact ⟨none, 0, hv⟩
    · exact ⟨_, _, rfl⟩
  refine ⟨rfl, .slice a' n c', ?res, a', c', rfl, hb0.grown hg hb0.size (fun k hk => by
    have : w.heap.size = k := by simpa [Value.ownBlock, Act.eval] using hk
    omega)⟩
  case res => simp [go_sem, results, Tryd.f12]
theorem made50 (W : World) (n : Nat) (hn : n ≤ 100) : (Instr.makeSlice 23 (.int .i64 (n : Int)) (.int .i64 (n : Int))).run Tryd.prog W = .ok (.slice (some ⟨W.heap.size, 0, none⟩) n n) (W.alloc (.cells (madeCells zd.cells (n * 32)) 50)) := by
  obtain ⟨i72, hi72, hz72⟩ := Option.map_eq_some_iff.1 info50
  simp only [Prod.mk.injEq] at hz72
  obtain ⟨hz0, hz1, hz2⟩ := hz72
  have := run_make (P := Tryd.prog) W 23 50 i72 _ Tryd.underlying23 hi72 hz0 .i64 .i64 n n (by omega) (by omega) (by rw [hz2]; omega) (by omega)
  rw [hz1] at this
  simpa using this
theorem made50_cell (W : World) (n : Nat) : ∀ j, j < n * 32 → (W.alloc (.cells (madeCells zd.cells (n * 32)) 50)).cell? ⟨W.heap.size, j, none⟩ = some (.int .u8 0) := by
  intro j hj
  rw [World.cell?_alloc_at (w := W) _ _ W.heap.size j rfl]
  have hzc : zd.cells = Array.replicate 32 (.int .u8 0) := by kernel_rfl
  have hz : ∀ q, q < 32 → zd.cells[q]! = .int .u8 0 := fun q hq => by rw [hzc]; simp [hq]
  have hs : zd.cells.size = 32 := by kernel_rfl
  unfold madeCells
  rw [Array.getElem?_map, Array.getElem?_range, if_pos hj]
  simp only [Option.map_some]
  rw [hs, hz _ (Nat.mod_lt _ (by decide))]
end Go.Proofs.YtegblcdnmcnngaaDoor.TB
