/- The law OverloadAdmitsEmergencyNumbers of the given program answers true. -/
import Derived.Test.YtpmkbpphlokbjaaDoorED
set_option linter.unusedVariables false
set_option linter.unusedSimpArgs false
namespace Go.Proofs.YtpmkbpphlokbjaaDoor.EM
open Go.RowKit
set_option maxRecDepth 100000 in
set_option maxHeartbeats 8000000 in
theorem law3 {a : Option Addr} {c : Nat} {l : List Rl} {s : ByteArray} {w : World} (t ls p d now : Int) (hR : Rules w a l) (hn : l.length ≤ c) (hlm : l.length ≤ 9223372036854775807) (hs : s.size ≤ 9223372036854775807) :
    Calls Tryd.prog 3 #[.slice a l.length c, .string s, .agg #[.int .i64 t, .int .i64 ls, .int .i64 p, .int .i64 d], .int .i64 now] w fun e w' => e = .returned (.bool true) ∧ Below w.heap.size w w' := by
  have A := Bk.new w t ls p d
  have aB := (Below.refl w.heap.size w).alloc (Nat.le_refl _) (.cells #[.int .i64 t, .int .i64 ls, .int .i64 p, .int .i64 d] 24)
  obtain ⟨wa, hwa⟩ : ∃ W, w.alloc (.cells #[.int .i64 t, .int .i64 ls, .int .i64 p, .int .i64 d] 24) = W := ⟨_, rfl⟩
  rw [hwa] at A aB
  go_enter Tryd.func3, Tryd.ntmps3
  go_wp2_with fail
  refine (sane4 _).mono ?_
  rintro e w1 ⟨rfl, hb1⟩
  have B1 := aB.trans (hb1.mono aB.size)
  have A1 := A.below hb1
  clear A hwa
  by_cases h70 : 70 < l.length
  · have g1 : decide (70 < (l.length : Int)) = true := decide_eq_true (by omega)
    have g1' : decide (70 < l.length) = true := decide_eq_true h70
    go_wp2_with fail
    all_goals go_ret
    all_goals exact ⟨rfl, B1⟩
  have g1 : decide (70 < (l.length : Int)) = false := decide_eq_false (by omega)
  have g1' : decide (70 < l.length) = false := decide_eq_false h70
  by_cases h60 : 60 < s.size
  · have g2 : decide (60 < (s.size : Int)) = true := decide_eq_true (by omega)
    have g2' : decide (60 < s.size) = true := decide_eq_true h60
    go_wp2_with fail
    all_goals go_ret
    all_goals exact ⟨rfl, B1⟩
  have g2 : decide (60 < (s.size : Int)) = false := decide_eq_false (by omega)
  have g2' : decide (60 < s.size) = false := decide_eq_false h60
  go_wp2_with fail
  refine (analyze5 (hR.below B1) hn (by omega) hs).mono ?_
  rintro e w2 ⟨hb2, han⟩
  have B2 := B1.trans (hb2.mono B1.size)
  have A2 := A1.below hb2
  have hne : ∀ r : Int, r ≠ 0 → (r != 0) = true ∧ (r == 0) = false := fun r h => ⟨bne_iff_ne.mpr h, beq_eq_false_iff_ne.mpr h⟩
  rcases han with ⟨r, rfl, hr⟩ | ⟨v, ln, ok, st, rfl, _, h0, h1⟩
  · obtain ⟨e0, e0'⟩ := hne r hr
    have HR := Lib.hid hr
    clear hr hne
    go_wp2_with fail
    all_goals go_ret
    all_goals exact ⟨rfl, by first | exact B2 | exact B2.alloc B2.size _⟩
  have done : ∀ v : Int, st ≠ 2 → False ∨ True := fun _ _ => .inr trivial
  by_cases hst : st = 2
  case neg =>
    have e0 : (st != 2) = true := bne_iff_ne.mpr hst
    have e0' : (st == 2) = false := beq_eq_false_iff_ne.mpr hst
    obtain ⟨rl, hrl⟩ : ∃ z, v - 1 = z := ⟨_, rfl⟩
    rw [hrl]
    clear hst hrl h0 h1 hne done
    go_wp2_with fail
    all_goals go_ret
    all_goals exact ⟨rfl, by first | exact B2 | exact B2.alloc B2.size _⟩
  subst hst
  rcases ok with _ | _
  · have := h0 rfl; omega
  obtain ⟨k, r, rfl, hr, hbl⟩ := h1 rfl
  have hk : k < l.length := (List.getElem?_eq_some_iff.1 hr).1
  have hkv : (k : Int) + 1 - 1 = (k : Int) := by omega
  rw [hkv]
  clear h0 h1 hbl hne done hkv
  have hAl : Below w2.heap.size w2 (w2.alloc (.cells #[.int .i64 2, .int .i64 (k : Int)] 27)) := (Below.refl _ _).alloc (Nat.le_refl _) _
  have B3 := B2.trans (hAl.mono B2.size)
  have A3 := A2.below hAl
  have d0 : (w2.alloc (.cells #[.int .i64 2, .int .i64 (k : Int)] 27)).cell? ⟨w2.heap.size, 0, none⟩ = some (.int .i64 2) := by simp [go_sem]
  have d1 : (w2.alloc (.cells #[.int .i64 2, .int .i64 (k : Int)] 27)).cell? ⟨w2.heap.size, 1, none⟩ = some (.int .i64 (k : Int)) := by simp [go_sem]
  obtain ⟨w3, hw3⟩ : ∃ W, w2.alloc (.cells #[.int .i64 2, .int .i64 (k : Int)] 27) = W := ⟨_, rfl⟩
  rw [hw3] at B3 A3 d0 d1
  obtain ⟨x, rfl, hra⟩ := (hR.below B3) k r hr
  obtain ⟨q0, q1, q2, q3, hsz⟩ := hra
  have A3' := Lib.hid A3
  obtain ⟨a0, a1, a2, a3, _, _, _, _⟩ := A3
  have hkl : (k : Int) < (l.length : Int) := by omega
  have f1 : decide ((k : Int) < 0) = false := decide_eq_false (by omega)
  have f2 : decide ((l.length : Int) ≤ (k : Int)) = false := decide_eq_false (by omega)
  obtain ⟨em, hem⟩ : ∃ b, (r.kd == 2) = b := ⟨_, rfl⟩
  go_wp2_with fail
  clear a0 a1 a2 a3 d0 d1 q0 q1 q2 q3 hw3 hem
  refine (level6 t ls p d now _).mono ?_
  rintro e w4 ⟨rfl, hb4⟩
  have B4 := B3.trans (hb4.mono B3.size)
  obtain ⟨a0, a1, a2, a3, _, _, _, _⟩ := A3'.out.below hb4
  obtain ⟨n6, hn6⟩ : ∃ z, (if okNow t ls p d now then advT t ls p d now else 0) = z := ⟨_, rfl⟩
  obtain ⟨m6, hm6⟩ : ∃ z : Int, (if okNow t ls p d now then 0 else 1) = z := ⟨_, rfl⟩
  rw [hn6, hm6]
  go_wp2_with fail
  refine (admit7 t ls p d now em _).mono ?_
  rintro e w5 ⟨⟨r1, r2, r3, r4, r5, r6, hF, rfl⟩, hb5⟩
  have B5 := B4.trans (hb5.mono B4.size)
  clear a0 a1 a2 a3
  unfold admitF at hF
  by_cases hv : okNow t ls p d now
  case neg =>
    rw [if_neg hv] at hn6 hm6 hF
    simp only [Prod.mk.injEq] at hF
    obtain ⟨rfl, rfl, rfl, rfl, rfl, rfl⟩ := hF
    subst hn6; subst hm6
    clear hv
    go_wp2_with fail
    go_ret
    exact ⟨rfl, by first | exact B5 | exact B5.alloc B5.size _⟩
  have b := advT_bd hv.valid
  rw [if_pos hv] at hn6 hm6 hF
  subst hm6
  by_cases h0 : advT t ls p d now = 0
  · rw [if_pos h0] at hF
    simp only [Prod.mk.injEq] at hF
    obtain ⟨rfl, rfl, rfl, rfl, rfl, rfl⟩ := hF
    have hz : n6 = 0 := by omega
    subst hz
    clear hn6 h0 b hv
    generalize advL t ls p d now = z2
    rcases em with _ | _
    all_goals
      go_wp2_with fail
      go_ret
      exact ⟨rfl, by first | exact B5 | exact B5.alloc B5.size _⟩
  · rw [if_neg h0] at hF
    simp only [Prod.mk.injEq] at hF
    obtain ⟨rfl, rfl, rfl, rfl, rfl, rfl⟩ := hF
    have hz : decide (0 < n6) = true := decide_eq_true (by omega)
    clear hn6 h0 b hv
    generalize advL t ls p d now = z2
    generalize advT t ls p d now - 1 = z1
    rcases em with _ | _
    all_goals
      go_wp2_with fail
      go_ret
      exact ⟨rfl, by first | exact B5 | exact B5.alloc B5.size _⟩
end Go.Proofs.YtpmkbpphlokbjaaDoor.EM
