/- overload of the given program: Check, at, Level, Admit, New. -/
import Derived.Test.YtpmkbpphlokbjaaDoorEB
import Derived.WalkKit
import Derived.BigRegion
import Derived.Deep.QuietTactic
import Derived.BigQuiet
import Derived.Below
import Derived.Lib.Hide
import Derived.Deep.Draws
set_option linter.unusedVariables false
set_option linter.unusedSimpArgs false
namespace Go.Proofs.YtpmkbpphlokbjaaDoor.EM
open Go.RowKit

/-- the cells of the gauge -/
structure Gauge (w : World) (g : Nat) (t l p d : Int) : Prop where
  c0 : w.cell? ⟨g, 0, none⟩ = some (.int .i64 t)
  c1 : w.cell? ⟨g, 1, none⟩ = some (.int .i64 l)
  c2 : w.cell? ⟨g, 2, none⟩ = some (.int .i64 p)
  c3 : w.cell? ⟨g, 3, none⟩ = some (.int .i64 d)
  f0 : w.frozen? ⟨g, 0, none⟩ = false
  f1 : w.frozen? ⟨g, 1, none⟩ = false

set_option maxHeartbeats 1000000 in
theorem adv_part (t l p d now : Int) (g : Nat) (w : World) (hg : Gauge w g t l p d)
    (h1 : 0 ≤ t) (h2 : t ≤ 1024) (h3 : 0 ≤ l) (h4 : l ≤ now) (h5 : now ≤ 1099511627776) (h6 : 1 ≤ p) (h7 : p ≤ 86400) (h8 : d ≤ 1024) (hlt : t + (now - l) / p < d) (hn0 : 0 ≤ (now - l) / p) (hn1 : (now - l) / p ≤ 1099511627776)
    (hm0 : 0 ≤ (now - l) / p * p) (hm1 : (now - l) / p * p ≤ 1099511627776) :
    Calls Tryd.prog 23 #[.pointer (some ⟨g, 0, none⟩), .int .i64 now] w fun e w' => e = .returned (.tuple #[]) ∧
      ∃ n, w' = ((w.drewN n).setCell ⟨g, 0, none⟩ (.int .i64 (t + (now - l) / p))).setCell ⟨g, 1, none⟩ (.int .i64 (l + (now - l) / p * p)) := by
  obtain ⟨hc0, hc1, hc2, hc3, hf0, hf1⟩ := hg
  go_enter Tryd.func23, Tryd.ntmps23
  go_wp2_with fail
  go_quiet (fail)
  go_wp2_with fail
  go_quiet (fail)
  go_wp2_with fail
  go_region
  go_wp2
  exact bodyPost_ret (results_none rfl _ _ _) rfl ⟨rfl, _, rfl⟩

set_option maxHeartbeats 1000000 in
theorem adv_full (t l p d now : Int) (g : Nat) (w : World) (hg : Gauge w g t l p d)
    (h1 : 0 ≤ t) (h2 : t ≤ 1024) (h3 : 0 ≤ l) (h4 : l ≤ now) (h5 : now ≤ 1099511627776) (h6 : 1 ≤ p) (h7 : p ≤ 86400) (_h8 : d ≤ 1024) (hlt : d ≤ t + (now - l) / p) (hn0 : 0 ≤ (now - l) / p) (hn1 : (now - l) / p ≤ 1099511627776) :
    Calls Tryd.prog 23 #[.pointer (some ⟨g, 0, none⟩), .int .i64 now] w fun e w' => e = .returned (.tuple #[]) ∧
      ∃ n, w' = ((w.drewN n).setCell ⟨g, 0, none⟩ (.int .i64 d)).setCell ⟨g, 1, none⟩ (.int .i64 now) := by
  obtain ⟨hc0, hc1, hc2, hc3, hf0, hf1⟩ := hg
  go_enter Tryd.func23, Tryd.ntmps23
  go_wp2_with fail
  go_quiet (fail)
  go_wp2_with fail
  go_quiet (fail)
  go_wp2
  go_end0
  exact ⟨rfl, _, rfl⟩

/-- the tokens and the time of an advanced bucket -/
def advT (t l p d now : Int) : Int := if t + (now - l) / p < d then t + (now - l) / p else d
def advL (t l p d now : Int) : Int := if t + (now - l) / p < d then l + (now - l) / p * p else now
/-- a valid bucket and a time that is not before Last -/
structure Valid (t l p d now : Int) : Prop where
  t0 : 0 ≤ t
  td : t ≤ d
  d1 : 1 ≤ d
  d2 : d ≤ 1024
  p1 : 1 ≤ p
  p2 : p ≤ 86400
  l0 : 0 ≤ l
  ln : l ≤ now
  nm : now ≤ 1099511627776
theorem Valid.n0 {t l p d now : Int} (v : Valid t l p d now) : 0 ≤ (now - l) / p := by
  have := v.ln; have := v.p1
  exact Int.ediv_nonneg (by omega) (by omega)
theorem Valid.m1 {t l p d now : Int} (v : Valid t l p d now) : (now - l) / p * p ≤ now - l := by
  have := v.ln; have := v.p1
  exact Int.ediv_mul_le _ (by omega)
theorem Valid.m0 {t l p d now : Int} (v : Valid t l p d now) : 0 ≤ (now - l) / p * p := by
  have := v.p1
  exact Int.mul_nonneg v.n0 (by omega)
theorem Valid.n1 {t l p d now : Int} (v : Valid t l p d now) : (now - l) / p ≤ now - l := by
  have := v.ln; have := v.p1
  exact Int.ediv_le_self _ (by omega)
theorem Valid.m2 {t l p d now : Int} (v : Valid t l p d now) : now - l - (now - l) / p * p < p := by
  have := v.p1
  have h := Int.emod_lt_of_pos (now - l) (show 0 < p by omega)
  have e := Int.emod_def (now - l) p
  rw [Int.mul_comm] at e
  omega

theorem adv_any (t l p d now : Int) (g : Nat) (w : World) (hg : Gauge w g t l p d) (v : Valid t l p d now) :
    Calls Tryd.prog 23 #[.pointer (some ⟨g, 0, none⟩), .int .i64 now] w fun e w' => e = .returned (.tuple #[]) ∧
      ∃ n, w' = ((w.drewN n).setCell ⟨g, 0, none⟩ (.int .i64 (advT t l p d now))).setCell ⟨g, 1, none⟩ (.int .i64 (advL t l p d now)) := by
  have n0 := v.n0; have m1 := v.m1; have m0 := v.m0; have n1 := v.n1
  obtain ⟨a1, a2, a3, a4, a5, a6, a7, a8, a9⟩ := v
  unfold advT advL
  by_cases hlt : t + (now - l) / p < d
  · rw [if_pos hlt, if_pos hlt]
    exact adv_part t l p d now g w hg a1 (by omega) a7 a8 a9 a5 a6 a4 hlt n0 (by omega) m0 (by omega)
  · rw [if_neg hlt, if_neg hlt]
    exact adv_full t l p d now g w hg a1 (by omega) a7 a8 a9 a5 a6 a4 (by omega) n0 (by omega)

theorem within16 (n a b : Int) (w : World) : Calls Tryd.prog 16 #[.int .i64 n, .int .i64 a, .int .i64 b] w fun e w' => e = .returned (.bool (decide (a ≤ n) && decide (n ≤ b))) ∧ Below w.heap.size w w' := by
  by_cases h1 : a ≤ n
  · have g1 : decide (a ≤ n) = true := decide_eq_true h1
    by_cases h2 : n ≤ b
    · have g2 : decide (n ≤ b) = true := decide_eq_true h2
      go_enter Tryd.func16, Tryd.ntmps16
      go_wp2_with fail
      go_ret
      exact ⟨by rw [g1, g2]; rfl, Below.refl _ _⟩
    · have g2 : decide (n ≤ b) = false := decide_eq_false h2
      go_enter Tryd.func16, Tryd.ntmps16
      go_wp2_with fail
      go_ret
      exact ⟨rfl, Below.refl _ _⟩
  · have g1 : decide (a ≤ n) = false := decide_eq_false h1
    go_enter Tryd.func16, Tryd.ntmps16
    go_wp2_with fail
    go_ret
    exact ⟨rfl, Below.refl _ _⟩

theorem within16' (n a b : Int) (r : Bool) (w : World) (h : (decide (a ≤ n) && decide (n ≤ b)) = r) : Calls Tryd.prog 16 #[.int .i64 n, .int .i64 a, .int .i64 b] w fun e w' => e = .returned (.bool r) ∧ Below w.heap.size w w' := by
  subst h; exact within16 n a b w
/-- a valid bucket -/
def Vb (t l p d : Int) : Prop := 1 ≤ p ∧ p ≤ 86400 ∧ 1 ≤ d ∧ d ≤ 1024 ∧ 0 ≤ t ∧ t ≤ d ∧ 0 ≤ l ∧ l ≤ 1099511627776
instance (t l p d : Int) : Decidable (Vb t l p d) := by unfold Vb; exact inferInstance

theorem Vb.valid {t l p d now : Int} (h : Vb t l p d) (h1 : l ≤ now) (h2 : now ≤ 1099511627776) : Valid t l p d now := by
  obtain ⟨a1, a2, a3, a4, a5, a6, a7, a8⟩ := h
  exact ⟨a5, a6, a3, a4, a1, a2, a7, h1, h2⟩

def ckF (t l p d : Int) : Int := if Vb t l p d then 0 else 1

theorem check10_aux (r1 r2 r3 r4 : Bool) (t l p d : Int) (w : World) (h1 : (decide (1 ≤ p) && decide (p ≤ 86400)) = r1) (h2 : (decide (1 ≤ d) && decide (d ≤ 1024)) = r2) (h3 : (decide (0 ≤ t) && decide (t ≤ d)) = r3) (h4 : (decide (0 ≤ l) && decide (l ≤ 1099511627776)) = r4) :
    Calls Tryd.prog 10 #[.agg #[.int .i64 t, .int .i64 l, .int .i64 p, .int .i64 d]] w fun e w' => e = .returned (.int .i64 (if r1 && r2 && r3 && r4 then 0 else 1)) ∧ Below w.heap.size w w' := by
  have H1 := Lib.hid h1
  have H2 := Lib.hid h2
  have H3 := Lib.hid h3
  have H4 := Lib.hid h4
  clear h1 h2 h3 h4
  have aB := (Below.refl w.heap.size w).alloc (Nat.le_refl _) (.cells #[.int .i64 t, .int .i64 l, .int .i64 p, .int .i64 d] 24)
  have q0 : (w.alloc (.cells #[.int .i64 t, .int .i64 l, .int .i64 p, .int .i64 d] 24)).cell? ⟨w.heap.size, 0, none⟩ = some (.int .i64 t) := by simp [go_sem]
  have q1 : (w.alloc (.cells #[.int .i64 t, .int .i64 l, .int .i64 p, .int .i64 d] 24)).cell? ⟨w.heap.size, 1, none⟩ = some (.int .i64 l) := by simp [go_sem]
  have q2 : (w.alloc (.cells #[.int .i64 t, .int .i64 l, .int .i64 p, .int .i64 d] 24)).cell? ⟨w.heap.size, 2, none⟩ = some (.int .i64 p) := by simp [go_sem]
  have q3 : (w.alloc (.cells #[.int .i64 t, .int .i64 l, .int .i64 p, .int .i64 d] 24)).cell? ⟨w.heap.size, 3, none⟩ = some (.int .i64 d) := by simp [go_sem]
  obtain ⟨wa, hwa⟩ : ∃ W, w.alloc (.cells #[.int .i64 t, .int .i64 l, .int .i64 p, .int .i64 d] 24) = W := ⟨_, rfl⟩
  rw [hwa] at aB q0 q1 q2 q3
  go_enter Tryd.func10, Tryd.ntmps10
  go_wp2_with fail
  refine (within16' p 1 86400 r1 _ H1.out).mono ?_
  rintro e w1 ⟨rfl, hb1⟩
  have B1 := aB.trans (hb1.mono aB.size)
  have a0 := (hb1.cell (World.block_lt_of_cell? _ _ q0)).trans q0
  have a1 := (hb1.cell (World.block_lt_of_cell? _ _ q1)).trans q1
  have a3 := (hb1.cell (World.block_lt_of_cell? _ _ q3)).trans q3
  rcases r1 with _ | _
  · go_wp2_with fail
    go_ret
    exact ⟨rfl, B1⟩
  go_wp2_with fail
  refine (within16' d 1 1024 r2 _ H2.out).mono ?_
  rintro e w2 ⟨rfl, hb2⟩
  have B2 := B1.trans (hb2.mono B1.size)
  have b0 := (hb2.cell (World.block_lt_of_cell? _ _ a0)).trans a0
  have b1 := (hb2.cell (World.block_lt_of_cell? _ _ a1)).trans a1
  have b3 := (hb2.cell (World.block_lt_of_cell? _ _ a3)).trans a3
  rcases r2 with _ | _
  · go_wp2_with fail
    go_ret
    exact ⟨rfl, B2⟩
  go_wp2_with fail
  refine (within16' t 0 d r3 _ H3.out).mono ?_
  rintro e w3 ⟨rfl, hb3⟩
  have B3 := B2.trans (hb3.mono B2.size)
  have c1 := (hb3.cell (World.block_lt_of_cell? _ _ b1)).trans b1
  rcases r3 with _ | _
  · go_wp2_with fail
    go_ret
    exact ⟨rfl, B3⟩
  go_wp2_with fail
  refine (within16' l 0 1099511627776 r4 _ H4.out).mono ?_
  rintro e w4 ⟨rfl, hb4⟩
  have B4 := B3.trans (hb4.mono B3.size)
  rcases r4 with _ | _
  · go_wp2_with fail
    go_ret
    exact ⟨rfl, B4⟩
  go_wp2_with fail
  go_ret
  exact ⟨rfl, B4⟩
theorem ckF_eq (t l p d : Int) : ckF t l p d = if (decide (1 ≤ p) && decide (p ≤ 86400)) && (decide (1 ≤ d) && decide (d ≤ 1024)) && (decide (0 ≤ t) && decide (t ≤ d)) && (decide (0 ≤ l) && decide (l ≤ 1099511627776)) then 0 else 1 := by
  unfold ckF Vb
  by_cases h1 : 1 ≤ p <;> by_cases h2 : p ≤ 86400 <;> by_cases h3 : 1 ≤ d <;> by_cases h4 : d ≤ 1024 <;> by_cases h5 : 0 ≤ t <;> by_cases h6 : t ≤ d <;> by_cases h7 : 0 ≤ l <;> by_cases h8 : l ≤ 1099511627776 <;> simp [h1, h2, h3, h4, h5, h6, h7, h8]
theorem check10 (t l p d : Int) (w : World) : Calls Tryd.prog 10 #[.agg #[.int .i64 t, .int .i64 l, .int .i64 p, .int .i64 d]] w fun e w' => e = .returned (.int .i64 (ckF t l p d)) ∧ Below w.heap.size w w' := by
  rw [ckF_eq]
  exact check10_aux _ _ _ _ t l p d w rfl rfl rfl rfl
theorem check10' (t l p d c : Int) (w : World) (h : ckF t l p d = c) : Calls Tryd.prog 10 #[.agg #[.int .i64 t, .int .i64 l, .int .i64 p, .int .i64 d]] w fun e w' => e = .returned (.int .i64 c) ∧ Below w.heap.size w w' := by
  subst h; exact check10 t l p d w
theorem bcell {W w1 : World} (hb : Below W.heap.size W w1) : (∀ b o, b < W.heap.size → w1.cell? ⟨b, o, none⟩ = W.cell? ⟨b, o, none⟩) ∧ (∀ b o, b < W.heap.size → w1.frozen? ⟨b, o, none⟩ = W.frozen? ⟨b, o, none⟩) :=
  ⟨fun b o h => hb.cell (p := ⟨b, o, none⟩) h, fun b o h => hb.frozen (p := ⟨b, o, none⟩) h⟩

set_option maxHeartbeats 1000000 in
theorem at_bad1 (t l p d now : Int) (c : Int) (w : World) (hc : (c == 0) = false) (hchk : ckF t l p d = c) :
    Calls Tryd.prog 15 #[.agg #[.int .i64 t, .int .i64 l, .int .i64 p, .int .i64 d], .int .i64 now] w fun e w' => e = .returned (.tuple #[.pointer none, .int .i64 c]) ∧ Below w.heap.size w w' := by
  have hcn : (c != 0) = true := by simp only [bne, hc]; rfl
  have H := Lib.hid hchk
  clear hchk
  go_enter Tryd.func15, Tryd.ntmps15
  go_wp2_with fail
  refine (check10' t l p d c _ H.out).mono ?_
  rintro e w1 ⟨rfl, hb⟩
  obtain ⟨hcl, hfr⟩ := bcell hb
  go_wp2_with fail
  go_ret2
  exact ⟨rfl, ((Below.refl _ _).alloc (Nat.le_refl _) _).trans (hb.mono (by simp))⟩

set_option maxHeartbeats 1000000 in
theorem at_bad2 (t l p d now : Int) (w : World) (hchk : ckF t l p d = 0) (hin : (decide (l ≤ now) && decide (now ≤ 1099511627776)) = false) :
    Calls Tryd.prog 15 #[.agg #[.int .i64 t, .int .i64 l, .int .i64 p, .int .i64 d], .int .i64 now] w fun e w' => e = .returned (.tuple #[.pointer none, .int .i64 1]) ∧ Below w.heap.size w w' := by
  have H := Lib.hid hchk
  have H2 := Lib.hid hin
  clear hchk hin
  go_enter Tryd.func15, Tryd.ntmps15
  go_wp2_with fail
  refine (check10' t l p d 0 _ H.out).mono ?_
  rintro e w1 ⟨rfl, hb⟩
  obtain ⟨hcl, hfr⟩ := bcell hb
  go_wp2_with fail
  refine (within16' now l 1099511627776 false _ H2.out).mono ?_
  rintro e w2 ⟨rfl, hb2⟩
  go_wp2_with fail
  go_ret2
  exact ⟨rfl, (((Below.refl _ _).alloc (Nat.le_refl _) _).trans (hb.mono (by simp))).trans (hb2.mono (by have := hb.size; simp at this; omega))⟩

def AtPost (w : World) (t l p d : Int) (e : Ending) (w' : World) : Prop :=
  ∃ g, e = .returned (.tuple #[.pointer (some ⟨g, 0, none⟩), .int .i64 0]) ∧ w.heap.size ≤ g ∧ Gauge w' g t l p d ∧ g < w'.heap.size ∧ Below w.heap.size w w'

theorem AtPost.mk_ {w w2 : World} {t l p d t' l' : Int} (hb : Below w.heap.size w w2) (n : Nat) :
    AtPost w t' l' p d (.returned (.tuple #[.pointer (some ⟨w2.heap.size, 0, none⟩), .int .i64 0]))
      ((((w2.alloc (.cells #[.int .i64 t, .int .i64 l, .int .i64 p, .int .i64 d] 51)).drewN n).setCell ⟨w2.heap.size, 0, none⟩ (.int .i64 t')).setCell ⟨w2.heap.size, 1, none⟩ (.int .i64 l')) := by
  refine ⟨w2.heap.size, rfl, hb.size, ?_, by simp, ?_⟩
  · constructor <;> simp [go_sem]
  · have hs := hb.size
    have h1 : Below w.heap.size w (w2.alloc (.cells #[.int .i64 t, .int .i64 l, .int .i64 p, .int .i64 d] 51)) := hb.alloc hs _
    have h2 : Below w.heap.size w ((w2.alloc (.cells #[.int .i64 t, .int .i64 l, .int .i64 p, .int .i64 d] 51)).drewN n) := ⟨h1.os, h1.tape, h1.output, h1.size, h1.block⟩
    exact (h2.setCell (by simpa using hs) _).setCell (by simpa using hs) _

set_option maxHeartbeats 1000000 in
theorem at_ok (t l p d now : Int) (w : World) (hchk : ckF t l p d = 0) (hin : (decide (l ≤ now) && decide (now ≤ 1099511627776)) = true) (v : Valid t l p d now) :
    Calls Tryd.prog 15 #[.agg #[.int .i64 t, .int .i64 l, .int .i64 p, .int .i64 d], .int .i64 now] w (AtPost w (advT t l p d now) (advL t l p d now) p d) := by
  have H := Lib.hid hchk
  have H2 := Lib.hid hin
  have V := Lib.hid v
  clear hchk hin v
  have hmf : ∀ (fn : Fn) (first cap : Array Value) (w : World), (Instr.makeFunc fn first cap).run Tryd.prog w = .ok (.func fn first cap) w := fun _ _ _ _ => rfl
  go_enter Tryd.func15, Tryd.ntmps15
  go_wp2_with fail
  refine (check10' t l p d 0 _ H.out).mono ?_
  rintro e w1 ⟨rfl, hb⟩
  obtain ⟨hcl, hfr⟩ := bcell hb
  have hz : w.heap.size < w1.heap.size := by have := hb.size; simp at this; omega
  go_wp2_with fail
  refine (within16' now l 1099511627776 true _ H2.out).mono ?_
  rintro e w2 ⟨rfl, hb2⟩
  obtain ⟨hcl2, hfr2⟩ := bcell hb2
  go_wp2_with fail
  refine (adv_any t l p d now _ _ ?_ V.out).mono ?_
  · constructor <;> simp [go_sem]
  rintro e w3 ⟨rfl, n, rfl⟩
  go_wp2_with fail
  go_ret2
  exact AtPost.mk_ ((((Below.refl _ _).alloc (Nat.le_refl _) _).trans (hb.mono (by simp))).trans (hb2.mono (by have := hb.size; simp at this; omega))) n


theorem advT_bd {t l p d now : Int} (v : Valid t l p d now) : 0 ≤ advT t l p d now ∧ advT t l p d now ≤ d := by
  have n0 := v.n0
  have ⟨a1, a2, a3, a4, a5, a6, a7, a8, a9⟩ := v
  unfold advT
  split <;> omega
theorem advL_bd {t l p d now : Int} (v : Valid t l p d now) : l ≤ advL t l p d now ∧ advL t l p d now ≤ now := by
  have n0 := v.n0; have m1 := v.m1; have m0 := v.m0
  have ⟨a1, a2, a3, a4, a5, a6, a7, a8, a9⟩ := v
  unfold advL
  split <;> omega
def okNow (t l p d now : Int) : Prop := Vb t l p d ∧ l ≤ now ∧ now ≤ 1099511627776
instance (t l p d now : Int) : Decidable (okNow t l p d now) := by unfold okNow; exact inferInstance
theorem okNow.valid {t l p d now : Int} (h : okNow t l p d now) : Valid t l p d now := h.1.valid h.2.1 h.2.2

/-- what Admit answers -/
def admitF (t l p d now : Int) (em : Bool) : Int × Int × Int × Int × Bool × Int :=
  if okNow t l p d now then (if advT t l p d now = 0 then (0, advL t l p d now, p, d, em, 0) else (advT t l p d now - 1, advL t l p d now, p, d, true, 0)) else (0, 0, 0, 0, false, 1)
theorem one_ne : ((1 : Int) == 0) = false := rfl
theorem at_no (t l p d now : Int) (w : World) (h : ¬ okNow t l p d now) :
    Calls Tryd.prog 15 #[.agg #[.int .i64 t, .int .i64 l, .int .i64 p, .int .i64 d], .int .i64 now] w fun e w' => e = .returned (.tuple #[.pointer none, .int .i64 1]) ∧ Below w.heap.size w w' := by
  by_cases hv : Vb t l p d
  · refine at_bad2 t l p d now w (by rw [ckF, if_pos hv]) (by unfold okNow at h; simp; intro h1; have : ¬ now ≤ 1099511627776 := fun h2 => h ⟨hv, h1, h2⟩; omega)
  · exact at_bad1 t l p d now 1 w one_ne (by rw [ckF, if_neg hv])
theorem at_yes (t l p d now : Int) (w : World) (h : okNow t l p d now) :
    Calls Tryd.prog 15 #[.agg #[.int .i64 t, .int .i64 l, .int .i64 p, .int .i64 d], .int .i64 now] w (AtPost w (advT t l p d now) (advL t l p d now) p d) :=
  at_ok t l p d now w (by rw [ckF, if_pos h.1]) (by simp [h.2.1, h.2.2]) h.valid

set_option maxHeartbeats 1000000 in
theorem level_no (t l p d now : Int) (w : World) (h : ¬ okNow t l p d now) :
    Calls Tryd.prog 6 #[.agg #[.int .i64 t, .int .i64 l, .int .i64 p, .int .i64 d], .int .i64 now] w fun e w' => e = .returned (.tuple #[.int .i64 0, .int .i64 1]) ∧ Below w.heap.size w w' := by
  have H := Lib.hid h
  clear h
  go_enter Tryd.func6, Tryd.ntmps6
  go_wp2_with fail
  refine (at_no t l p d now _ H.out).mono ?_
  rintro e w1 ⟨rfl, hb⟩
  go_wp2_with fail
  go_ret2
  exact ⟨rfl, ((Below.refl _ _).alloc (Nat.le_refl _) _).trans (hb.mono (by simp))⟩
set_option maxHeartbeats 1000000 in
theorem level_yes (t l p d now : Int) (w : World) (h : okNow t l p d now) :
    Calls Tryd.prog 6 #[.agg #[.int .i64 t, .int .i64 l, .int .i64 p, .int .i64 d], .int .i64 now] w fun e w' => e = .returned (.tuple #[.int .i64 (advT t l p d now), .int .i64 0]) ∧ Below w.heap.size w w' := by
  have H := Lib.hid h
  clear h
  go_enter Tryd.func6, Tryd.ntmps6
  go_wp2_with fail
  refine (at_yes t l p d now _ H.out).mono ?_
  rintro e w1 ⟨g, rfl, hg, ⟨c0, c1, c2, c3, f0, f1⟩, hlt, hb⟩
  go_wp2_with fail
  go_ret2
  exact ⟨rfl, ((Below.refl _ _).alloc (Nat.le_refl _) _).trans (hb.mono (by simp))⟩
set_option maxHeartbeats 1000000 in
theorem admit_no (t l p d now : Int) (em : Bool) (w : World) (h : ¬ okNow t l p d now) :
    Calls Tryd.prog 7 #[.agg #[.int .i64 t, .int .i64 l, .int .i64 p, .int .i64 d], .int .i64 now, .bool em] w fun e w' => e = .returned (.tuple #[.agg #[.int .i64 0, .int .i64 0, .int .i64 0, .int .i64 0], .bool false, .int .i64 1]) ∧ Below w.heap.size w w' := by
  have H := Lib.hid h
  clear h
  go_enter Tryd.func7, Tryd.ntmps7
  go_wp2_with fail
  refine (at_no t l p d now _ H.out).mono ?_
  rintro e w1 ⟨rfl, hb⟩
  obtain ⟨hcl, hfr⟩ := bcell hb
  have hz : w.heap.size + 1 < w1.heap.size := by have := hb.size; simp at this; omega
  have hB : Below w.heap.size w w1 := (((Below.refl _ _).alloc (Nat.le_refl _) _).alloc (by simp) _).trans (hb.mono (by simp; omega))
  go_wp2_with fail
  refine bodyPost_ret (v := .tuple #[.agg #[.int .i64 0, .int .i64 0, .int .i64 0, .int .i64 0], .bool false, .int .i64 1]) (by simp [results, Tryd.results7, go_sem, hcl]) rfl ?_
  exact ⟨rfl, by repeat (first | exact hB | refine Below.setCell ?_ (by simp) _)⟩

set_option maxHeartbeats 1000000 in
theorem admit_zero (t l p d now : Int) (em : Bool) (w : World) (h : okNow t l p d now) (t' l' : Int) (ht : advT t l p d now = t') (hl : advL t l p d now = l') (h0 : (t' == 0) = true) (h1 : t' ≤ 0) :
    Calls Tryd.prog 7 #[.agg #[.int .i64 t, .int .i64 l, .int .i64 p, .int .i64 d], .int .i64 now, .bool em] w fun e w' => e = .returned (.tuple #[.agg #[.int .i64 t', .int .i64 l', .int .i64 p, .int .i64 d], .bool em, .int .i64 0]) ∧ Below w.heap.size w w' := by
  have C := fun W => at_yes t l p d now W h
  rw [ht, hl] at C
  have H := Lib.hid C
  clear C h ht hl
  have hd : decide ((0 : Int) < t') = false := by simp; omega
  go_enter Tryd.func7, Tryd.ntmps7
  go_wp2_with fail
  refine (H.out _).mono ?_
  rintro e w1 ⟨g, rfl, hg, ⟨c0, c1, c2, c3, f0, f1⟩, hlt, hb⟩
  obtain ⟨hcl, hfr⟩ := bcell hb
  have hz : w.heap.size + 1 < w1.heap.size := by have := hb.size; simp at this; omega
  have hB : Below w.heap.size w w1 := (((Below.refl _ _).alloc (Nat.le_refl _) _).alloc (by simp) _).trans (hb.mono (by simp; omega))
  go_wp2_with fail
  refine bodyPost_ret (v := .tuple #[.agg #[.int .i64 t', .int .i64 l', .int .i64 p, .int .i64 d], .bool em, .int .i64 0]) (by simp [results, Tryd.results7, go_sem, hcl]) rfl ?_
  exact ⟨rfl, by repeat (first | exact hB | refine Below.setCell ?_ (by simp) _)⟩

set_option maxHeartbeats 1000000 in
theorem admit_pos (t l p d now : Int) (em : Bool) (w : World) (h : okNow t l p d now) (t' l' : Int) (ht : advT t l p d now = t') (hl : advL t l p d now = l') (h0 : 0 < t') (h1 : t' ≤ 1024) :
    Calls Tryd.prog 7 #[.agg #[.int .i64 t, .int .i64 l, .int .i64 p, .int .i64 d], .int .i64 now, .bool em] w fun e w' => e = .returned (.tuple #[.agg #[.int .i64 (t' - 1), .int .i64 l', .int .i64 p, .int .i64 d], .bool true, .int .i64 0]) ∧ Below w.heap.size w w' := by
  have C := fun W => at_yes t l p d now W h
  rw [ht, hl] at C
  have H := Lib.hid C
  clear C h ht hl
  have hd : decide ((0 : Int) < t') = true := by simp; omega
  go_enter Tryd.func7, Tryd.ntmps7
  go_wp2_with fail
  refine (H.out _).mono ?_
  rintro e w1 ⟨g, rfl, hg, ⟨c0, c1, c2, c3, f0, f1⟩, hlt, hb⟩
  obtain ⟨hcl, hfr⟩ := bcell hb
  have hz : w.heap.size + 1 < w1.heap.size := by have := hb.size; simp at this; omega
  have hB : Below w.heap.size w w1 := (((Below.refl _ _).alloc (Nat.le_refl _) _).alloc (by simp) _).trans (hb.mono (by simp; omega))
  have hne : g ≠ w.heap.size + 1 := by simp at hg; omega
  have hgs : w.heap.size ≤ g := by simp at hg; omega
  go_wp2_with fail
  refine bodyPost_ret (v := .tuple #[.agg #[.int .i64 (t' - 1), .int .i64 l', .int .i64 p, .int .i64 d], .bool true, .int .i64 0]) (by simp [results, Tryd.results7, go_sem, hcl]) rfl ?_
  exact ⟨rfl, by repeat (first | exact hB | refine Below.setCell ?_ hgs _ | refine Below.setCell ?_ (by simp) _)⟩


theorem level6 (t l p d now : Int) (w : World) : Calls Tryd.prog 6 #[.agg #[.int .i64 t, .int .i64 l, .int .i64 p, .int .i64 d], .int .i64 now] w fun e w' =>
    e = .returned (.tuple #[.int .i64 (if okNow t l p d now then advT t l p d now else 0), .int .i64 (if okNow t l p d now then 0 else 1)]) ∧ Below w.heap.size w w' := by
  by_cases h : okNow t l p d now
  · rw [if_pos h, if_pos h]; exact level_yes t l p d now w h
  · rw [if_neg h, if_neg h]; exact level_no t l p d now w h
theorem admit7 (t l p d now : Int) (em : Bool) (w : World) : Calls Tryd.prog 7 #[.agg #[.int .i64 t, .int .i64 l, .int .i64 p, .int .i64 d], .int .i64 now, .bool em] w fun e w' =>
    (∃ r1 r2 r3 r4 r5 r6, admitF t l p d now em = (r1, r2, r3, r4, r5, r6) ∧ e = .returned (.tuple #[.agg #[.int .i64 r1, .int .i64 r2, .int .i64 r3, .int .i64 r4], .bool r5, .int .i64 r6])) ∧ Below w.heap.size w w' := by
  unfold admitF
  by_cases hv : okNow t l p d now
  · rw [if_pos hv]
    have b := advT_bd hv.valid
    have ⟨a1, a2, a3, a4, a5, a6, a7, a8, a9⟩ := hv.valid
    by_cases h0 : advT t l p d now = 0
    · rw [if_pos h0]
      exact (admit_zero t l p d now em w hv 0 _ h0 rfl rfl (by omega)).mono fun e w' h => ⟨⟨_, _, _, _, _, _, rfl, h.1⟩, h.2⟩
    · rw [if_neg h0]
      exact (admit_pos t l p d now em w hv _ _ rfl rfl (by omega) (by omega)).mono fun e w' h => ⟨⟨_, _, _, _, _, _, rfl, h.1⟩, h.2⟩
  · rw [if_neg hv]
    exact (admit_no t l p d now em w hv).mono fun e w' h => ⟨⟨_, _, _, _, _, _, rfl, h.1⟩, h.2⟩
end Go.Proofs.YtpmkbpphlokbjaaDoor.EM
