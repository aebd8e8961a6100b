/- isup.Check answers 0 at the backward messages, whatever the premise's partial telling says. -/
import Derived.Test.YtenaokgcljpcgaaDoorHE
set_option linter.unusedVariables false
namespace Go.Proofs.YtenaokgcljpcgaaDoor.GA
open Go.RowKit Go.Proofs.YtenaokgcljpcgaaDoorW.PrintWords Go.Proofs.YtenaokgcljpcgaaDoorW.PrintLast Go.Proofs.YtenaokgcljpcgaaDoorW.PrintMore
theorem ba_nil {s : ByteArray} (h : s.toList = ([] : List UInt8)) : s = ⟨#[]⟩ := by
  have hs : s.data = #[] := by
    rw [ByteArray.toList_eq] at h
    exact Array.toList_eq_nil_iff.mp h
  cases s
  simp_all
theorem isup_Check.calls (a0_0 : Int) (a0_1 : Int) (a0_2 : Int) (a0_3 : Int) (a0_4 : Int) (a0_5 : ByteArray) (a0_6 : ByteArray) (a0_7 : ByteArray) (a0_8 : Bool) (a0_9 : Bool) (r : Int) (w : World) (h : isup_Check.f a0_0 a0_1 a0_2 a0_3 a0_4 a0_5 a0_6 a0_7 a0_8 a0_9 = some r) (hT : Tab w) :
    Calls Tryd.prog 22 #[.agg #[.int .i64 a0_0, .int .i64 a0_1, .int .i64 a0_2, .int .i64 a0_3, .int .i64 a0_4, .string a0_5, .string a0_6, .string a0_7, .bool a0_8, .bool a0_9]] w fun e w' => e = .returned (.int .i64 r) ∧ Below w.heap.size w w' := by
  unfold isup_Check.f at h
  by_cases d1 : a0_1 = 1
  case neg => rw [if_neg d1] at h; cases h
  rw [if_pos d1] at h
  by_cases d2 : a0_2 < 1
  case pos => rw [if_pos d2] at h; cases h
  rw [if_neg d2] at h
  by_cases d3 : a0_2 > 65536
  case pos => rw [if_pos d3] at h; cases h
  rw [if_neg d3] at h
  by_cases d4 : a0_3 = 0
  case neg => rw [if_neg d4] at h; cases h
  rw [if_pos d4] at h
  by_cases d5 : a0_5.toList = ([] : List UInt8)
  case neg => rw [if_neg d5] at h; cases h
  rw [if_pos d5] at h
  by_cases d6 : a0_6.toList = ([] : List UInt8)
  case neg => rw [if_neg d6] at h; cases h
  rw [if_pos d6] at h
  by_cases d7 : a0_7.toList = ([] : List UInt8)
  case neg => rw [if_neg d7] at h; cases h
  rw [if_pos d7] at h
  by_cases d8 : a0_8 = true
  case pos => rw [if_pos d8] at h; cases h
  rw [if_neg d8] at h
  by_cases d9 : a0_9 = true
  case pos => rw [if_pos d9] at h; cases h
  rw [if_neg d9] at h
  have e5 := ba_nil d5
  have e6 := ba_nil d6
  have e7 := ba_nil d7
  have e8 : a0_8 = false := by simpa using d8
  have e9 : a0_9 = false := by simpa using d9
  subst e5; subst e6; subst e7; subst e8; subst e9; subst d1; subst d4
  by_cases k7 : a0_0 = 7
  · rw [if_pos k7] at h
    by_cases c1 : a0_4 < 1
    · rw [if_pos c1] at h; cases h
    rw [if_neg c1] at h
    by_cases c2 : a0_4 > 127
    · rw [if_pos c2] at h; cases h
    rw [if_neg c2] at h
    injection h with h
    subst h
    exact check22 _ _ _ _ (by omega) (by omega) (by omega) (by omega) (by intro; omega) (by intro; omega)
  · rw [if_neg k7] at h
    by_cases c0 : a0_4 = 0
    case neg => rw [if_neg c0] at h; cases h
    rw [if_pos c0] at h
    by_cases c1 : a0_0 < 3
    · rw [if_pos c1] at h; cases h
    rw [if_neg c1] at h
    by_cases c2 : a0_0 > 6
    · rw [if_pos c2] at h; cases h
    rw [if_neg c2] at h
    injection h with h
    subst h
    exact check22 _ _ _ _ (by omega) (by omega) (by omega) (by omega) (by intro; omega) (by intro; omega)
end Go.Proofs.YtenaokgcljpcgaaDoor.GA
