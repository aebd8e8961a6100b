/- digits.Valid and digits.Matches of the given program. -/
import Derived.Test.YtegblcdnmcnngaaDoorTX
import Derived.Shelf.GgClosure.StringsIndexFuncTop
import Derived.Shelf.SlicesE.IndexFunc
import Derived.Shelf.Strings.Prefix
import Derived.Ground.GgwProg
import Derived.Ground.SlgfProg
import Derived.Shelf.SlGeneric
import Derived.Laws.RangeAny
set_option linter.unusedVariables false
set_option linter.unusedSimpArgs false
namespace Go.Proofs
open Go.Shelf
shelf_lay LaysGw.n17 Ggw 17 at Tryd as Tryd.l17
shelf_lay Lays.n99 Nm 99 at Tryd as Tryd.l99
shelf_lay_g SlLaysH.n8 Slgf 8 at Tryd 20 as Tryd.lH8
end Go.Proofs
namespace Go.Proofs.YtegblcdnmcnngaaDoor.TB
open Go.RowKit Go.Shelf Go.Lib
/-- no decimal digit -/
def other (r : Nat) : Bool := decide (r < 48) || decide (57 < r)
set_option maxHeartbeats 1000000 in
theorem other_at (w : World) : PredAt Tryd.prog 23 #[] encR other w := fun W r _ => by
  unfold FnGives
  by_cases h1 : r < 48 <;> by_cases h2 : 57 < r
  all_goals
    have z1 : (r : Int) < 48 ↔ r < 48 := by omega
    have z2 : (57 : Int) < (r : Int) ↔ 57 < r := by omega
    go_enter Tryd.func23, Tryd.ntmps23
    go_wp2
    all_goals first | (exfalso; omega) | (go_ret; exact ⟨by simp [other, h1, h2], 0, rfl⟩)
/-- what Valid answers -/
def validS (s : ByteArray) : Bool := decide (1 ≤ s.size) && decide (s.size ≤ 15) && !decide (0 ≤ Lib.idxFunc other true s)
theorem idx_digs (s : ByteArray) : ∀ f pos, s.size ≤ pos + f → Lib.idxFuncFrom other true s f pos = -1 → ∀ k, pos ≤ k → ∀ h : k < s.size, 48 ≤ (s[k]'h).toNat ∧ (s[k]'h).toNat ≤ 57 := by
  intro f
  induction f with
  | zero => intro pos hf _ k hk h; omega
  | succ f ih =>
    intro pos hf he k hk h
    have hp : pos < s.size := by omega
    unfold Lib.idxFuncFrom at he
    rw [if_pos hp] at he
    by_cases ho : other (Utf8.decode s pos).1 = true
    · rw [if_pos ho] at he; omega
    · rw [if_neg ho] at he
      have ho' : ¬ (Utf8.decode s pos).1 < 48 ∧ ¬ 57 < (Utf8.decode s pos).1 := by
        simp only [other, Bool.or_eq_true, decide_eq_true_eq, not_or] at ho
        exact ho
      have ha : (s[pos]'hp).toNat < 128 := by
        rcases Nat.lt_or_ge (s[pos]'hp).toNat 128 with h1 | h1
        · exact h1
        · have := (decode_high s pos hp h1).1; omega
      rw [decode_ascii s pos hp ha] at he ho'
      by_cases hkp : k = pos
      · subst hkp; exact ⟨by simpa using ho'.1, by simpa using ho'.2⟩
      · exact ih (pos + 1) (by omega) he k (by omega) h
theorem valid_digs {s : ByteArray} (h : validS s = true) : Digs s ∧ 1 ≤ s.size ∧ s.size ≤ 15 := by
  simp only [validS, Bool.and_eq_true, decide_eq_true_eq, Bool.not_eq_true', decide_eq_false_iff_not] at h
  obtain ⟨⟨h1, h2⟩, h3⟩ := h
  refine ⟨fun c hc => ?_, h1, h2⟩
  have hi : Lib.idxFunc other true s = -1 := by
    rcases Lib.idxFunc_range other true s with h | h
    · exact h
    · omega
  obtain ⟨k, hk, rfl⟩ := List.getElem_of_mem hc
  have hks : k < s.size := by simpa using hk
  exact idx_digs s s.size 0 (by omega) hi k (Nat.zero_le _) hks
set_option maxHeartbeats 2000000 in
theorem only14 (s : ByteArray) (w : World) : Calls Tryd.prog 14 #[.string s, .int .i64 1, .int .i64 15] w fun e w' => e = .returned (.bool (validS s)) ∧ Below w.heap.size w w' := by
  have hC := Any.strings_ContainsFunc Tryd.l17 23 #[] (enters_of Tryd.func23 (by kernel_rfl) rfl) other s w (other_at w)
  change Calls Tryd.prog 24 _ _ _ at hC
  unfold validS
  obtain ⟨b, hb⟩ : ∃ b, decide (0 ≤ Lib.idxFunc other true s) = b := ⟨_, rfl⟩
  rw [hb] at hC ⊢
  clear hb
  by_cases h1 : 1 ≤ s.size
  · have g1 : decide (1 ≤ s.size) = true := decide_eq_true h1
    have g1' : decide (1 ≤ (s.size : Int)) = true := decide_eq_true (by omega)
    by_cases h2 : s.size ≤ 15
    · have g2 : decide (s.size ≤ 15) = true := decide_eq_true h2
      have g2' : decide ((s.size : Int) ≤ 15) = true := decide_eq_true (by omega)
      rw [g1, g2]
      go_enter Tryd.func14, Tryd.ntmps14
      go_wp2_with (go_at_call 24; refine hC.mono ?_; rintro e w' ⟨rfl, hB⟩)
      all_goals go_ret
      all_goals exact ⟨by cases b <;> rfl, hB⟩
    · have g2 : decide (s.size ≤ 15) = false := decide_eq_false h2
      have g2' : decide ((s.size : Int) ≤ 15) = false := decide_eq_false (by omega)
      rw [g1, g2]
      clear hC
      go_enter Tryd.func14, Tryd.ntmps14
      go_wp2_with fail
      all_goals go_ret
      all_goals exact ⟨rfl, Below.refl _ _⟩
  · have g1 : decide (1 ≤ s.size) = false := decide_eq_false h1
    have g1' : decide (1 ≤ (s.size : Int)) = false := decide_eq_false (by omega)
    rw [g1]
    clear hC
    go_enter Tryd.func14, Tryd.ntmps14
    go_wp2_with fail
    all_goals go_ret
    all_goals exact ⟨rfl, Below.refl _ _⟩
set_option maxHeartbeats 1000000 in
theorem valid6 (s : ByteArray) (w : World) : Calls Tryd.prog 6 #[.string s] w fun e w' => e = .returned (.bool (validS s)) ∧ Below w.heap.size w w' := by
  have hC := only14 s w
  generalize validS s = b at hC ⊢
  go_enter Tryd.func6, Tryd.ntmps6
  go_wp2_with (go_at_call 14; refine hC.mono ?_; rintro e w' ⟨rfl, hB⟩)
  go_ret
  exact ⟨rfl, hB⟩
theorem has13 (s p : ByteArray) (w : World) : Calls Tryd.prog 13 #[.string s, .string p] w fun e w' => e = .returned (.bool (Lib.hasPrefix s.data.toList p.data.toList)) ∧ w' = w :=
  Any.strings_HasPrefix Tryd.l99 s p w
set_option maxHeartbeats 1000000 in
theorem match_at (w : World) (B : Nat) (s : ByteArray) (hB : B < w.heap.size) (hc : w.cell? ⟨B, 0, none⟩ = some (.string s)) :
    PredAt Tryd.prog 21 #[.pointer (some ⟨B, 0, none⟩)] Value.string (fun p => Lib.hasPrefix s.data.toList p.data.toList) w := fun W p hb => by
  have hc' : W.cell? ⟨B, 0, none⟩ = some (.string s) := (hb.cell (p := ⟨B, 0, none⟩) hB).trans hc
  show FnGives Tryd.prog 21 #[.pointer (some ⟨B, 0, none⟩)] #[Value.string p] (.bool (Lib.hasPrefix s.data.toList p.data.toList)) W
  unfold FnGives
  have hH := has13 s p W
  generalize Lib.hasPrefix s.data.toList p.data.toList = b at hH ⊢
  go_enter Tryd.func21, Tryd.ntmps21
  go_wp2_with (go_at_call 13; refine hH.mono ?_; rintro e w' ⟨rfl, rfl⟩)
  go_ret
  exact ⟨rfl, 0, rfl⟩
set_option maxHeartbeats 1000000 in
theorem matches10 (b n c : Nat) (zs : List ByteArray) (s : ByteArray) (w : World) (hn : n = zs.length) (hbig : n ≤ 9223372036854775807) (hz : ∀ j, j < zs.length → w.cell? ⟨b, j, none⟩ = some (.string zs[j]!)) :
    Calls Tryd.prog 10 #[.slice (some ⟨b, 0, none⟩) n c, .string s] w fun e w' => e = .returned (.bool (zs.any fun p => Lib.hasPrefix s.data.toList p.data.toList)) ∧ Below w.heap.size w w' := by
  have hB0 : Below w.heap.size w (w.alloc (.cells #[.string s] 9)) := (Below.refl _ _).alloc (Nat.le_refl _) _
  have hC := AnyE.slices_ContainsFunc Tryd.lH8 Value.string (fun p => Lib.hasPrefix s.data.toList p.data.toList) 21 #[.pointer (some ⟨w.heap.size, 0, none⟩)] (enters_of Tryd.func21 (by kernel_rfl) rfl) b 0 n c zs (w.alloc (.cells #[.string s] 9))
    (match_at _ w.heap.size s (by simp) (by simp [go_sem])) (by omega) hbig (fun j hj => by
      have := hz j hj
      rw [Nat.zero_add]
      exact (hB0.cell (World.block_lt_of_cell? _ _ this)).trans this)
  change Calls Tryd.prog 20 _ _ _ at hC
  rw [List.take_of_length_le (by omega)] at hC
  clear hn hz hbig
  generalize (zs.any fun p => Lib.hasPrefix s.data.toList p.data.toList) = r at hC ⊢
  have hmf : ∀ (fn : Fn) (first cap : Array Value) (w : World), (Instr.makeFunc fn first cap).run Tryd.prog w = .ok (.func fn first cap) w := fun _ _ _ _ => rfl
  go_enter Tryd.func10, Tryd.ntmps10
  go_wp2_with (go_at_call 20; refine hC.mono ?_; rintro e w' ⟨rfl, q, rfl⟩)
  go_ret
  exact ⟨rfl, below_drewN' hB0 q⟩
end Go.Proofs.YtegblcdnmcnngaaDoor.TB
