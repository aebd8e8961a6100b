/- The plain law TerminateBackwardMessages: the backward messages of a call form the sequence that the law names. -/
import Derived.Test.YtenaokgcljpcgaaDoorQT
import Derived.Test.YtenaokgcljpcgaaDoorGAx12b
set_option linter.unusedVariables false
set_option linter.unusedSimpArgs false
namespace Go.Proofs.YtenaokgcljpcgaaDoor.GA
open Go.RowKit Go.Proofs.YtenaokgcljpcgaaDoorW.PrintWords Go.Proofs.YtenaokgcljpcgaaDoorW.PrintLast Go.Proofs.YtenaokgcljpcgaaDoorW.PrintMore
theorem bk1 : wrap64 (0 + 1) = 1 := by rw [wr (by omega)]; rfl
theorem bk2 : wrap64 (1 + 1) = 2 := by rw [wr (by omega)]; rfl
theorem bk3 : wrap64 (2 + 1) = 3 := by rw [wr (by omega)]; rfl
theorem bk1' : wrap64 1 = 1 := wr (by omega)
theorem bk2' : wrap64 2 = 2 := wr (by omega)
theorem bk3' : wrap64 3 = 3 := wr (by omega)
theorem isup_seven {r c : Int} (h1 : 1 ≤ r) (h2 : r ≤ 65536) (c1 : 1 ≤ c) (c2 : c ≤ 127) : isup_Check.f 7 1 r 0 c (⟨#[]⟩ : ByteArray) (⟨#[]⟩ : ByteArray) (⟨#[]⟩ : ByteArray) false false = some 0 := by
  unfold isup_Check.f
  simp [show ¬ r < 1 by omega, show ¬ r > 65536 by omega, show ¬ c < 1 by omega, show ¬ c > 127 by omega, show ¬ 65536 < r by omega, show ¬ 127 < c by omega, ByteArray.toList, ByteArray.toList.loop, ByteArray.size]
theorem isup_plain {r k : Int} (h1 : 1 ≤ r) (h2 : r ≤ 65536) (k1 : 3 ≤ k) (k2 : k ≤ 6) : isup_Check.f k 1 r 0 0 (⟨#[]⟩ : ByteArray) (⟨#[]⟩ : ByteArray) (⟨#[]⟩ : ByteArray) false false = some 0 := by
  unfold isup_Check.f
  simp [show ¬ r < 1 by omega, show ¬ r > 65536 by omega, show ¬ k < 3 by omega, show ¬ k > 6 by omega, show ¬ 65536 < r by omega, show ¬ 6 < k by omega, show k ≠ 7 by omega, ByteArray.toList, ByteArray.toList.loop, ByteArray.size]
/-- what the last message says of the state -/
def BInv (s m : Int) : Prop := s = 0 ∨ (s = 1 ∧ m = 3) ∨ (s = 2 ∧ (m = 4 ∨ m = 6)) ∨ (s = 3 ∧ m = 5) ∨ s = 4
theorem acts_of {s kd c m : Int} (hi : BInv s m) (hk : ¬ (kd = 10 ∧ s ≠ 0)) (he : (stepF s kd c).2.2 = 0) {x1 : Int} (h1 : 1 ≤ wrap64 (1 + wrap64 x1)) (h2 : wrap64 (1 + wrap64 x1) ≤ 65536)
    {l : List S25} {n i : Int} {k : Nat} (hnext : ∀ m', BInv (stepF s kd c).1 m' → ∀ j, k ≤ j → j ≤ k + 4 → crossbarlaw17_TerminateBackwardMessages.l0 j x1 m' l n (wrap64 (i + 1)) (stepF s kd c).1 = some true) :
    crossbarlaw17_TerminateBackwardMessages.l1 (k + 5) x1 (if s = 0 then 7 else m) l n i (stepF s kd c).2.1 ((stepF s kd c).2.1.length : Int) 0 (stepF s kd c).1 = some true := by
  have p := fun k k1 k2 => isup_plain (k := k) h1 h2 k1 k2
  have q := fun c c1 c2 => isup_seven (c := c) h1 h2 c1 c2
  have p3 := p 3 (by omega) (by omega)
  have p4 := p 4 (by omega) (by omega)
  have p5 := p 5 (by omega) (by omega)
  have p6 := p 6 (by omega) (by omega)
  have q16 := q 16 (by omega) (by omega)
  have q19 := q 19 (by omega) (by omega)
  clear p q
  by_cases k10 : kd = 10
  · subst k10
    have hs : s = 0 := by by_cases h : s = 0; exact h; exact absurd ⟨rfl, h⟩ hk
    subst hs
    have hn := hnext 3 (Or.inr (Or.inl ⟨rfl, rfl⟩))
    simp [stepF, A0, E] at hn ⊢
    simp [crossbarlaw17_TerminateBackwardMessages.l1, rd_T46, crossbarlaw17_message.f, crossbarlaw17_follows.f, bk1, bk2, bk3, bk1', bk2', bk3', p3, hn]
  · rcases hi with rfl | ⟨rfl, rfl⟩ | ⟨rfl, hm⟩ | ⟨rfl, rfl⟩ | rfl
    · exfalso; simp [stepF, k10] at he
    · by_cases k1 : kd = 1
      · subst k1
        have hn := hnext 4 (Or.inr (Or.inr (Or.inl ⟨rfl, Or.inl rfl⟩)))
        simp [stepF, A0, E] at hn ⊢
        simp [crossbarlaw17_TerminateBackwardMessages.l1, rd_T46, crossbarlaw17_message.f, crossbarlaw17_follows.f, bk1, bk2, bk3, bk1', bk2', bk3', p4, hn]
      · by_cases k11 : kd = 11
        · subst k11
          have hn := hnext 3 (Or.inl rfl)
          simp [stepF, A0, E] at hn ⊢
          simp [crossbarlaw17_TerminateBackwardMessages.l1, rd_T46, crossbarlaw17_message.f, bk1, bk2, bk3, bk1', bk2', bk3', hn]
        · by_cases k9 : kd = 9
          · subst k9
            have hn := hnext 3 (Or.inl rfl)
            simp [stepF, A0, E] at hn ⊢
            simp [crossbarlaw17_TerminateBackwardMessages.l1, rd_T46, crossbarlaw17_message.f, bk1, bk2, bk3, bk1', bk2', bk3', hn]
          · by_cases k4 : kd = 4
            · subst k4
              have hn := hnext 7 (Or.inl rfl)
              simp [stepF, A0, E] at hn ⊢
              simp [crossbarlaw17_TerminateBackwardMessages.l1, rd_T46, crossbarlaw17_message.f, crossbarlaw17_follows.f, bk1, bk2, bk3, bk1', bk2', bk3', q19, hn]
            · exfalso; simp [stepF, k10, k1, k11, k9, k4] at he
    · by_cases k2 : kd = 2
      · subst k2
        have hn := hnext 5 (Or.inr (Or.inr (Or.inr (Or.inl ⟨rfl, rfl⟩))))
        simp [stepF, A0, E] at hn ⊢
        rcases hm with rfl | rfl <;> simp [crossbarlaw17_TerminateBackwardMessages.l1, rd_T46, crossbarlaw17_message.f, crossbarlaw17_follows.f, bk1, bk2, bk3, bk1', bk2', bk3', p5, hn]
      · by_cases k9 : kd = 9
        · subst k9
          have hn := hnext m (Or.inr (Or.inr (Or.inr (Or.inr rfl))))
          simp [stepF, A0, E] at hn ⊢
          simp [crossbarlaw17_TerminateBackwardMessages.l1, rd_T46, crossbarlaw17_message.f, bk1, bk2, bk3, bk1', bk2', bk3', hn]
        · exfalso; simp [stepF, k10, k2, k9] at he
    · by_cases k1 : kd = 1
      · subst k1
        have hn := hnext 6 (Or.inr (Or.inr (Or.inl ⟨rfl, Or.inr rfl⟩)))
        simp [stepF, A0, E] at hn ⊢
        simp [crossbarlaw17_TerminateBackwardMessages.l1, rd_T46, crossbarlaw17_message.f, crossbarlaw17_follows.f, bk1, bk2, bk3, bk1', bk2', bk3', p6, hn]
      · by_cases k12 : kd = 12
        · subst k12
          have hn := hnext 7 (Or.inl rfl)
          simp [stepF, A0, E] at hn ⊢
          simp [crossbarlaw17_TerminateBackwardMessages.l1, rd_T46, crossbarlaw17_message.f, crossbarlaw17_follows.f, bk1, bk2, bk3, bk1', bk2', bk3', q16, hn]
        · by_cases k9 : kd = 9
          · subst k9
            have hn := hnext 5 (Or.inl rfl)
            simp [stepF, A0, E] at hn ⊢
            simp [crossbarlaw17_TerminateBackwardMessages.l1, rd_T46, crossbarlaw17_message.f, bk1, bk2, bk3, bk1', bk2', bk3', hn]
          · exfalso; simp [stepF, k10, k1, k12, k9] at he
    · by_cases k2 : kd = 2
      · subst k2
        have hn := hnext m (Or.inl rfl)
        simp [stepF, A0, E] at hn ⊢
        simp [crossbarlaw17_TerminateBackwardMessages.l1, rd_T46, crossbarlaw17_message.f, bk1, bk2, bk3, bk1', bk2', bk3', hn]
      · exfalso; simp [stepF, k10, k2] at he
theorem back_loop (l : List S25) (hl : l.length ≤ 1000) {x1 : Int} (h1 : 1 ≤ wrap64 (1 + wrap64 x1)) (h2 : wrap64 (1 + wrap64 x1) ≤ 65536) : ∀ (d k i : Nat) (s m : Int), l.length - i = d → i ≤ l.length → 8 * d + 20 < k → BInv s m →
    crossbarlaw17_TerminateBackwardMessages.l0 k x1 m l (l.length : Int) (i : Int) s = some true := by
  intro d
  induction d with
  | zero =>
    intro k i s m hd hi hk hb
    obtain ⟨k, rfl⟩ : ∃ j, k = j + 1 := ⟨k - 1, by omega⟩
    simp only [crossbarlaw17_TerminateBackwardMessages.l0]
    rw [if_neg (by omega)]
  | succ d ih =>
    intro k i s m hd hi hk hb
    obtain ⟨k, rfl⟩ : ∃ j, k = j + 8 := ⟨k - 8, by omega⟩
    have hw : wrap64 ((i : Int) + 1) = ((i + 1 : Nat) : Int) := by rw [wr (by omega)]; omega
    simp only [crossbarlaw17_TerminateBackwardMessages.l0]
    rw [if_pos (by omega), if_pos (by omega), if_pos (by omega)]
    have main : ¬ ((rd_T25 l i).f0 = 10 ∧ s ≠ 0) → crossbarlaw17_TerminateBackwardMessages.j1 (k + 7) x1 m l (l.length : Int) (i : Int) false s (rd_T25 l i).f0 (rd_T25 l i).f1 (rd_T25 l i).f2 = some true := by
      intro hk10
      simp only [crossbarlaw17_TerminateBackwardMessages.j1, Bool.false_eq_true, if_false]
      rw [step_ge (by omega)]
      simp only [Option.bind_some]
      by_cases he : (stepF s (rd_T25 l i).f0 (rd_T25 l i).f1).2.2 = 0
      · rw [if_pos he]
        have ha := acts_of (k := k) (l := l) (n := (l.length : Int)) (i := (i : Int)) hb hk10 he h1 h2 (fun m' hb' j hj1 hj2 => by rw [hw]; exact ih j (i + 1) _ m' (by omega) (by omega) (by omega) hb')
        by_cases hs : s = 0
        · rw [if_pos hs] at ha ⊢
          simp only [crossbarlaw17_TerminateBackwardMessages.j2]
          exact ha
        · rw [if_neg hs] at ha ⊢
          simp only [crossbarlaw17_TerminateBackwardMessages.j2]
          exact ha
      · rw [if_neg he, hw]
        exact ih _ _ s m (by omega) (by omega) (by omega) hb
    by_cases hs : s = 0
    · rw [if_pos hs]
      exact main (fun h => h.2 hs)
    · rw [if_neg hs]
      by_cases h10 : (rd_T25 l i).f0 = 10
      · rw [show ((rd_T25 l i).f0 == 10) = true by rw [h10]; rfl]
        simp only [crossbarlaw17_TerminateBackwardMessages.j1, if_true, hw]
        exact ih _ _ s m (by omega) (by omega) (by omega) hb
      · rw [show ((rd_T25 l i).f0 == 10) = false from beq_eq_false_iff_ne.mpr h10]
        exact main (fun h => h10 h.1)
theorem pure_TerminateBackwardMessages (l : List S25) (c : Int) (hc : 0 ≤ c ∧ c ≤ 65535) : ∃ k, crossbarlaw17_TerminateBackwardMessages.f k l c = some true := by
  refine ⟨600, ?_⟩
  unfold crossbarlaw17_TerminateBackwardMessages.f
  rw [sane_ge (by omega)]
  simp only [Option.bind_some, if_pos]
  by_cases h : (l.length : Int) > 60
  · rw [if_pos h]
  · rw [if_neg h]
    have e : wrap64 (1 + wrap64 c) = 1 + c := by rw [wr (n := c) (by omega), wr (by omega)]
    exact back_loop l (by omega) (by rw [e]; omega) (by rw [e]; omega) l.length 600 0 0 7 (by omega) (by omega) (by omega) (Or.inl rfl)
end Go.Proofs.YtenaokgcljpcgaaDoor.GA
