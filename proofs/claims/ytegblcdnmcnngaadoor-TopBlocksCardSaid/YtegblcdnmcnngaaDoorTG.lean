/- Grants in a row, and registry.Holder of the given program. -/
import Derived.Test.YtegblcdnmcnngaaDoorTD
import Derived.Deep.QuietTactic
import Derived.BigQuiet
set_option linter.unusedVariables false
set_option linter.unusedSimpArgs false
namespace Go.Proofs.YtegblcdnmcnngaaDoor.TB
open Go.RowKit
/-- a grant -/
structure Gr where
  p : ByteArray
  c : Int
instance : Inhabited Gr := ⟨⟨⟨#[]⟩, 0⟩⟩
theorem add_form (x : Addr) (n j : Nat) : x.add (n + (j + 1)) = ⟨(x.add n).block, (x.add n).off + (j + 1), none⟩ := by
  unfold Addr.add
  by_cases h : n = 0
  · subst h; simp
  · simp [h]; omega
structure GrAt (W : World) (y : Addr) (r : Gr) : Prop where
  c0 : W.cell? y = some (.string r.p)
  c1 : W.cell? ⟨y.block, y.off + 1, none⟩ = some (.int .i64 r.c)
  sz : r.p.size ≤ 140737488355328
theorem GrAt.below {W W' : World} {y : Addr} {r : Gr} (h : GrAt W y r) (hB : Below W.heap.size W W') : GrAt W' y r :=
  ⟨(hB.cell (World.block_lt_of_cell? _ _ h.c0)).trans h.c0, (hB.cell (World.block_lt_of_cell? _ _ h.c1)).trans h.c1, h.sz⟩
/-- the grants lie in a row -/
def Grants (W : World) (a : Option Addr) (l : List Gr) : Prop := ∀ (i : Nat) (r : Gr), l[i]? = some r → ∃ x, a = some x ∧ GrAt W (x.add (i * 2)) r
theorem Grants.below {W W' : World} {a : Option Addr} {l : List Gr} (h : Grants W a l) (hB : Below W.heap.size W W') : Grants W' a l := by
  intro i r hr
  obtain ⟨x, hx, hx'⟩ := h i r hr
  exact ⟨x, hx, hx'.below hB⟩
/-- one grant's step of Holder -/
def bstep (l : List Gr) (s : ByteArray) (b : Int) (i : Nat) : Int :=
  if Lib.hasPrefix s.data.toList (l[i]?.getD default).p.data.toList = true ∧ (b < 0 ∨ (l[b.toNat]?.getD default).p.size < (l[i]?.getD default).p.size) then (i : Int) else b
def bfold (l : List Gr) (s : ByteArray) (k : Nat) : Int := (List.range k).foldl (bstep l s) (-1)
theorem bfold_succ (l : List Gr) (s : ByteArray) (k : Nat) : bfold l s (k + 1) = bstep l s (bfold l s k) k := by simp [bfold, List.range_succ]
theorem bfold_lt (l : List Gr) (s : ByteArray) : ∀ k, bfold l s k = -1 ∨ (0 ≤ bfold l s k ∧ bfold l s k < k)
  | 0 => .inl rfl
  | k + 1 => by
    rw [bfold_succ]
    unfold bstep
    split
    · exact .inr ⟨by omega, by omega⟩
    · rcases bfold_lt l s k with h | ⟨h1, h2⟩
      · exact .inl h
      · exact .inr ⟨h1, by omega⟩
/-- what Holder answers -/
def holdV (l : List Gr) (s : ByteArray) : Int × Int := if validS s = true then (if bfold l s l.length < 0 then (0, 90) else ((l[(bfold l s l.length).toNat]?.getD default).c, 0)) else (0, 60)
set_option maxRecDepth 100000 in
set_option maxHeartbeats 8000000 in
theorem holder5 {a ak : Option Addr} {c nk ck : Nat} {l : List Gr} {s : ByteArray} {w : World} (hR : Grants w a l) (hn : l.length ≤ c) (hl : l.length ≤ 100000) (hs : s.size ≤ 9223372036854775807) :
    Calls Tryd.prog 5 #[.agg #[.slice a l.length c, .slice ak nk ck, .slice none 0 0], .string s] w fun e w' => e = .returned (.tuple #[.int .i64 (holdV l s).1, .int .i64 (holdV l s).2]) ∧ Below w.heap.size w w' := by
  have aB0 : Below w.heap.size w (w.alloc (.cells #[.slice a l.length c, .slice ak nk ck, .slice none 0 0] 26)) := (Below.refl _ _).alloc (Nat.le_refl _) _
  have aS0 : (w.alloc (.cells #[.slice a l.length c, .slice ak nk ck, .slice none 0 0] 26)).heap.size = w.heap.size + 1 := by simp
  have r0 : (w.alloc (.cells #[.slice a l.length c, .slice ak nk ck, .slice none 0 0] 26)).cell? ⟨w.heap.size, 0, none⟩ = some (.slice a l.length c) := by simp [go_sem]
  obtain ⟨wa, hwa⟩ : ∃ W, w.alloc (.cells #[.slice a l.length c, .slice ak nk ck, .slice none 0 0] 26) = W := ⟨_, rfl⟩
  rw [hwa] at aB0 aS0 r0
  have hV := valid6 s
  obtain ⟨V, hV0⟩ : ∃ V, holdV l s = V := ⟨_, rfl⟩
  rw [hV0]
  obtain ⟨b, hb⟩ : ∃ b, validS s = b := ⟨_, rfl⟩
  rw [hb] at hV
  rw [holdV, hb] at hV0
  have HV0 := Lib.hid hV0
  clear hb hV0
  go_enter Tryd.func5, Tryd.ntmps5
  go_wp2_with fail
  refine (hV _).mono ?_
  rintro e w1 ⟨rfl, hb1⟩
  have B1 : Below w.heap.size w w1 := aB0.trans (hb1.mono (by omega))
  have hS1 : w.heap.size + 1 ≤ w1.heap.size := by have := hb1.size; omega
  have s0 := (hb1.cell (p := ⟨w.heap.size, 0, none⟩) (by show w.heap.size < _; omega)).trans r0
  clear r0 hV
  rcases b with _ | _
  · go_wp2_with fail
    go_ret2
    refine ⟨?_, B1⟩
    have hv := HV0.out
    rw [if_neg (by decide)] at hv
    rw [← hv]
    rfl
  go_wp2_with fail
  go_loopw [15, 6] (fun i b W => ∃ k : Nat, k ≤ l.length ∧ i = .int .i64 (k : Int) ∧ b = .int .i64 (bfold l s k) ∧ Below w.heap.size w W ∧ w.heap.size + 1 ≤ W.heap.size ∧ W.cell? ⟨w.heap.size, 0, none⟩ = some (.slice a l.length c)) (fun i _ _ => l.length - (intOf i).toNat)
  case atStart => exact ⟨0, by omega, rfl, rfl, B1, hS1, s0⟩
  case round =>
    obtain ⟨k, hk, rfl, rfl, hB, hS, hc0⟩ := hrel
    obtain ⟨b, hbf⟩ : ∃ b, bfold l s k = b := ⟨_, rfl⟩
    have hbl := bfold_lt l s k
    rw [hbf] at hbl ⊢
    by_cases hlt : k < l.length
    · have hlt' : decide ((k : Int) < (l.length : Int)) = true := decide_eq_true (by omega)
      have hkb : (k : Int) < (l.length : Int) := by omega
      obtain ⟨r, hr⟩ : ∃ r, l[k]? = some r := ⟨_, List.getElem?_eq_getElem hlt⟩
      obtain ⟨x, rfl, hra⟩ := (hR.below hB) k r hr
      have hra' := hra
      obtain ⟨a0, a1, hsz⟩ := hra
      have hAl : Below wr.heap.size wr (wr.alloc (.cells #[.string r.p, .int .i64 r.c] 41)) := (Below.refl _ _).alloc (Nat.le_refl _) _
      have e0 : (wr.alloc (.cells #[.string r.p, .int .i64 r.c] 41)).cell? ⟨wr.heap.size, 0, none⟩ = some (.string r.p) := by simp [go_sem]
      have eB : Below w.heap.size w (wr.alloc (.cells #[.string r.p, .int .i64 r.c] 41)) := hB.trans (hAl.mono hB.size)
      have eS : (wr.alloc (.cells #[.string r.p, .int .i64 r.c] 41)).heap.size = wr.heap.size + 1 := by simp
      have hc1 := (hAl.cell (World.block_lt_of_cell? _ _ hc0)).trans hc0
      obtain ⟨wb, hwb⟩ : ∃ W, wr.alloc (.cells #[.string r.p, .int .i64 r.c] 41) = W := ⟨_, rfl⟩
      rw [hwb] at hAl e0 eB eS hc1
      obtain ⟨hp, hhp⟩ : ∃ q, Lib.hasPrefix s.data.toList r.p.data.toList = q := ⟨_, rfl⟩
      have hH := fun W => has13 s r.p W
      rw [hhp] at hH
      have hgr : l[k]?.getD default = r := by rw [hr]; rfl
      have hst : bfold l s (k + 1) = if hp = true ∧ (b < 0 ∨ (l[b.toNat]?.getD default).p.size < r.p.size) then (k : Int) else b := by
        rw [bfold_succ, hbf, bstep, hgr, hhp]
      have HST := Lib.hid hst
      clear hst hgr hhp hbf
      have hE : ∀ n, Below w.heap.size w (wb.drewN n) := fun n => ⟨eB.os, eB.tape, eB.output, eB.size, eB.block⟩
      have hEc : ∀ n, (wb.drewN n).cell? ⟨w.heap.size, 0, none⟩ = some (.slice (some x) l.length c) := fun n => hc1
      have hES : ∀ n, w.heap.size + 1 ≤ (wb.drewN n).heap.size := fun n => by show _ ≤ wb.heap.size; omega
      rcases hp with _ | _
      · have hne : bfold l s (k + 1) = b := by rw [HST.out, if_neg (fun h => by cases h.1)]
        have HN := Lib.hid hne
        clear hne HST hbl
        go_wp2_with fail
        go_quiet (first | (go_at_call 13; refine Calls.quiet_of_same (hH _)))
        go_wp2_with fail
        exact ⟨⟨k + 1, by omega, rfl, by rw [HN.out], hE _, hES _, hEc _⟩, by simp [intOf]; omega⟩
      · by_cases hb0 : b < 0
        · have hne : bfold l s (k + 1) = (k : Int) := by rw [HST.out, if_pos ⟨rfl, .inl hb0⟩]
          have c0 : decide (b < 0) = true := decide_eq_true hb0
          have HN := Lib.hid hne
          clear hne HST hbl hb0
          go_wp2_with fail
          go_quiet (first | (go_at_call 13; refine Calls.quiet_of_same (hH _)))
          go_wp2_with fail
          exact ⟨⟨k + 1, by omega, rfl, by rw [HN.out], hE _, hES _, hEc _⟩, by simp [intOf]; omega⟩
        · have c0 : decide (b < 0) = false := decide_eq_false hb0
          obtain ⟨m, rfl⟩ : ∃ m : Nat, b = (m : Int) := ⟨b.toNat, by omega⟩
          have hm : m < l.length := by omega
          have hmi : (m : Int) < (l.length : Int) := by omega
          obtain ⟨rb, hrb⟩ : ∃ rb, l[m]? = some rb := ⟨_, List.getElem?_eq_getElem hm⟩
          obtain ⟨x', hx', hrba⟩ := (hR.below eB) m rb hrb
          cases hx'
          obtain ⟨m0, m1, _⟩ := hrba
          have hgm : (l[(m : Int).toNat]?.getD default) = rb := by rw [Int.toNat_natCast, hrb]; rfl
          have hst := HST.out
          rw [hgm] at hst
          by_cases hlen : rb.p.size < r.p.size
          · have hne : bfold l s (k + 1) = (k : Int) := by rw [hst, if_pos ⟨rfl, .inr hlen⟩]
            have c1 : decide ((rb.p.size : Int) < (r.p.size : Int)) = true := decide_eq_true (by omega)
            have c1' : decide (rb.p.size < r.p.size) = true := decide_eq_true hlen
            have HN := Lib.hid hne
            clear hne HST hbl hb0 hst hgm hrb
            go_wp2_with fail
            go_quiet (first | (go_at_call 13; refine Calls.quiet_of_same (hH _)))
            go_wp2_with fail
            exact ⟨⟨k + 1, by omega, rfl, by rw [HN.out], hE _, hES _, hEc _⟩, by simp [intOf]; omega⟩
          · have hne : bfold l s (k + 1) = (m : Int) := by rw [hst, if_neg (fun h => by rcases h.2 with h | h <;> omega)]
            have c1 : decide ((rb.p.size : Int) < (r.p.size : Int)) = false := decide_eq_false (by omega)
            have c1' : decide (rb.p.size < r.p.size) = false := decide_eq_false hlen
            have HN := Lib.hid hne
            clear hne HST hbl hb0 hst hgm hrb
            go_wp2_with fail
            go_quiet (first | (go_at_call 13; refine Calls.quiet_of_same (hH _)))
            go_wp2_with fail
            exact ⟨⟨k + 1, by omega, rfl, by rw [HN.out], hE _, hES _, hEc _⟩, by simp [intOf]; omega⟩
    · have hlt' : decide ((k : Int) < (l.length : Int)) = false := decide_eq_false (by omega)
      have hke : k = l.length := by omega
      subst hke
      have hVV := HV0.out
      simp only [if_true, hbf] at hVV
      clear HV0
      by_cases hb0 : b < 0
      · have c0 : decide (b < 0) = true := decide_eq_true hb0
        rw [if_pos hb0] at hVV
        have HV := Lib.hid hVV
        clear hbf hbl hb0 hVV
        go_wp2_with fail
        go_ret2
        refine ⟨?_, hB⟩
        rw [← HV.out]
        rfl
      · have c0 : decide (b < 0) = false := decide_eq_false hb0
        obtain ⟨m, rfl⟩ : ∃ m : Nat, b = (m : Int) := ⟨b.toNat, by omega⟩
        have hm : m < l.length := by omega
        have hmi : (m : Int) < (l.length : Int) := by omega
        obtain ⟨rb, hrb⟩ : ∃ rb, l[m]? = some rb := ⟨_, List.getElem?_eq_getElem hm⟩
        obtain ⟨x', rfl, hrba⟩ := (hR.below hB) m rb hrb
        obtain ⟨m0, m1, _⟩ := hrba
        have hgm : (l[(m : Int).toNat]?.getD default) = rb := by rw [Int.toNat_natCast, hrb]; rfl
        rw [if_neg hb0, hgm] at hVV
        have HV := Lib.hid hVV
        clear hbf hbl hgm hrb hb0 hVV
        go_wp2_with fail
        go_ret2
        refine ⟨?_, hB⟩
        rw [← HV.out]
        rfl
end Go.Proofs.YtegblcdnmcnngaaDoor.TB
