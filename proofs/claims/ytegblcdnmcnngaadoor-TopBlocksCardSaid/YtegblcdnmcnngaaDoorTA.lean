/- trie.digits of the given program: true exactly at strings of decimal digits. -/
import Derived.Test.YtegblcdnmcnngaaDoorProg
import Derived.WalkKit
import Derived.Ground.NamesProg
import Derived.Shelf.Lay
import Derived.Shelf.Strings.SlTrimAscii
set_option linter.unusedVariables false
set_option linter.unusedSimpArgs false
namespace Go.Proofs
open Go.Shelf
shelf_lay Lays.n160 Nm 160 at Tryd as Tryd.lays160
end Go.Proofs
namespace Go.Proofs.YtegblcdnmcnngaaDoor.TB
open Go.RowKit Go.Shelf Go.Lib
/-- the bytes of the ten digits -/
def dset : List UInt8 := [48, 49, 50, 51, 52, 53, 54, 55, 56, 57]
theorem dset_range {b : UInt8} (h : dset.contains b = true) : 48 ≤ b.toNat ∧ b.toNat ≤ 57 := by
  simp [dset] at h
  rcases h with rfl | rfl | rfl | rfl | rfl | rfl | rfl | rfl | rfl | rfl <;> decide
theorem range_nat : ∀ n : Nat, n < 58 → 48 ≤ n → dset.contains (UInt8.ofNat n) = true := by decide
theorem range_dset {b : UInt8} (h : 48 ≤ b.toNat ∧ b.toNat ≤ 57) : dset.contains b = true := by
  have := range_nat b.toNat (by omega) h.1
  rwa [UInt8.ofNat_toNat] at this
theorem all_of_drop {p : UInt8 → Bool} : ∀ l : List UInt8, l.dropWhile p = [] → ∀ b ∈ l, p b = true
  | [], _, b, hb => by cases hb
  | x :: l, h, b, hb => by
    by_cases hx : p x = true
    · rw [List.dropWhile_cons_of_pos hx] at h
      rcases List.mem_cons.1 hb with rfl | hb
      · exact hx
      · exact all_of_drop l h b hb
    · rw [List.dropWhile_cons_of_neg hx] at h
      cases h
theorem drop_of_all {p : UInt8 → Bool} : ∀ l : List UInt8, (∀ b ∈ l, p b = true) → l.dropWhile p = []
  | [], _ => rfl
  | x :: l, h => by
    rw [List.dropWhile_cons_of_pos (h x (by simp))]
    exact drop_of_all l (fun b hb => h b (by simp [hb]))
theorem all_of_take {p : UInt8 → Bool} : ∀ l : List UInt8, ∀ b ∈ l.takeWhile p, p b = true
  | [], b, hb => by cases hb
  | x :: l, b, hb => by
    by_cases hx : p x = true
    · rw [List.takeWhile_cons_of_pos hx] at hb
      rcases List.mem_cons.1 hb with rfl | hb
      · exact hx
      · exact all_of_take l b hb
    · rw [List.takeWhile_cons_of_neg hx] at hb
      cases hb
theorem all_of_trim {l cs : List UInt8} (h : Lib.trimS l cs = []) : ∀ b ∈ l, cs.contains b = true := by
  intro b hb
  unfold Lib.trimS Lib.trimLeftS Lib.trimRightS at h
  have h1 := all_of_drop _ h
  have hm : b ∈ l.reverse := by simpa using hb
  rw [← List.takeWhile_append_dropWhile (p := fun x => cs.contains x) (l := l.reverse)] at hm
  rcases List.mem_append.1 hm with hm | hm
  · exact all_of_take _ b hm
  · exact h1 b (by simpa using hm)
theorem trim_of_all {l cs : List UInt8} (h : ∀ b ∈ l, cs.contains b = true) : Lib.trimS l cs = [] := by
  unfold Lib.trimS Lib.trimLeftS Lib.trimRightS
  rw [drop_of_all (p := fun x => cs.contains x) l.reverse (fun b hb => h b (by simpa using hb))]
  rfl
/-- a string of decimal digits -/
def Digs (s : ByteArray) : Prop := ∀ c ∈ s.data.toList, 48 ≤ c.toNat ∧ c.toNat ≤ 57
set_option maxHeartbeats 1000000 in
theorem digits18 (s : ByteArray) (w : World) (hs : s.size ≤ 9223372036854775807) (hd : Digs s) :
    Calls Tryd.prog 18 #[.string s] w fun e w' => e = .returned (.bool true) ∧ Below w.heap.size w w' := by
  have hcon := Any.strings_Trim_laid Tryd.lays160 (by kernel_rfl) s ⟨#[48, 49, 50, 51, 52, 53, 54, 55, 56, 57]⟩ w hs (by decide) (ascii_of_all (by decide))
  change Calls Tryd.prog 25 _ _ (fun e w' => e = .returned (.string ⟨(Lib.trimS s.data.toList dset).toArray⟩) ∧ Below w.heap.size w w') at hcon
  rw [trim_of_all (fun b hb => range_dset (hd b hb))] at hcon
  go_enter Tryd.func18, Tryd.ntmps18
  go_wp2_with (go_at_call 25; refine hcon.mono ?_; rintro e w' ⟨rfl, hB⟩)
  refine ⟨rfl, .bool true, ?res, rfl, hB⟩
  case res => simp [go_sem, results, Tryd.f18]
end Go.Proofs.YtegblcdnmcnngaaDoor.TB
