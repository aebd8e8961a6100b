/- dialplan.numeric and trie.digits of the given program: true exactly at strings of decimal digits. -/
import Derived.Test.YtpmkbpphlokbjaaDoorProg
import Derived.WalkKit
import Derived.Ground.NamesProg
import Derived.Shelf.Lay
import Derived.Shelf.Strings.SlTrimAscii
set_option linter.unusedVariables false
set_option linter.unusedSimpArgs false
namespace Go.Proofs
open Go.Shelf
shelf_lay Lays.n160 Nm 160 at Tryd as Tryd.lays160
end Go.Proofs
namespace Go.Proofs.YtpmkbpphlokbjaaDoor.EM
open Go.RowKit Go.Shelf Go.Lib
def tenS : ByteArray := ⟨#[48, 49, 50, 51, 52, 53, 54, 55, 56, 57]⟩
/-- the bytes of the ten digits -/
def dset : List UInt8 := [48, 49, 50, 51, 52, 53, 54, 55, 56, 57]
theorem dset_range {b : UInt8} (h : dset.contains b = true) : 48 ≤ b.toNat ∧ b.toNat ≤ 57 := by
  simp [dset] at h
  rcases h with rfl | rfl | rfl | rfl | rfl | rfl | rfl | rfl | rfl | rfl <;> decide
theorem all_of_drop {p : UInt8 → Bool} : ∀ l : List UInt8, l.dropWhile p = [] → ∀ b ∈ l, p b = true
  | [], _, b, hb => by cases hb
  | x :: l, h, b, hb => by
    by_cases hx : p x = true
    · rw [List.dropWhile_cons_of_pos hx] at h
      rcases List.mem_cons.1 hb with rfl | hb
      · exact hx
      · exact all_of_drop l h b hb
    · rw [List.dropWhile_cons_of_neg hx] at h
      cases h
theorem all_of_take {p : UInt8 → Bool} : ∀ l : List UInt8, ∀ b ∈ l.takeWhile p, p b = true
  | [], b, hb => by cases hb
  | x :: l, b, hb => by
    by_cases hx : p x = true
    · rw [List.takeWhile_cons_of_pos hx] at hb
      rcases List.mem_cons.1 hb with rfl | hb
      · exact hx
      · exact all_of_take l b hb
    · rw [List.takeWhile_cons_of_neg hx] at hb
      cases hb
theorem all_of_trim {l cs : List UInt8} (h : Lib.trimS l cs = []) : ∀ b ∈ l, cs.contains b = true := by
  intro b hb
  unfold Lib.trimS Lib.trimLeftS Lib.trimRightS at h
  have h1 := all_of_drop _ h
  have hm : b ∈ l.reverse := by simpa using hb
  rw [← List.takeWhile_append_dropWhile (p := fun x => cs.contains x) (l := l.reverse)] at hm
  rcases List.mem_append.1 hm with hm | hm
  · exact all_of_take _ b hm
  · exact h1 b (by simpa using hm)
set_option maxHeartbeats 1000000 in
theorem numeric_calls (s : ByteArray) (w : World) (hs : s.size ≤ 9223372036854775807) :
    Calls Tryd.prog 12 #[.string s] w fun e w' => (∃ b, e = .returned (.bool b) ∧ (b = true → ∀ c ∈ s.data.toList, 48 ≤ c.toNat ∧ c.toNat ≤ 57)) ∧ Below w.heap.size w w' := by
  have hcon := Any.strings_Trim_laid Tryd.lays160 (by kernel_rfl) s ⟨#[48, 49, 50, 51, 52, 53, 54, 55, 56, 57]⟩ w hs (by decide) (ascii_of_all (by decide))
  change Calls Tryd.prog 20 _ _ (fun e w' => e = .returned (.string ⟨(Lib.trimS s.data.toList dset).toArray⟩) ∧ Below w.heap.size w w') at hcon
  have hall : Lib.trimS s.data.toList dset = [] → ∀ c ∈ s.data.toList, 48 ≤ c.toNat ∧ c.toNat ≤ 57 := fun h c hc => dset_range (all_of_trim h c hc)
  generalize Lib.trimS s.data.toList dset = r at hcon hall
  go_enter Tryd.func12, Tryd.ntmps12
  go_wp2_with (go_at_call 20; refine hcon.mono ?_; rintro e w' ⟨rfl, hB⟩)
  refine ⟨rfl, .bool r.isEmpty, ?res, ⟨_, rfl, fun h => hall (by simpa using h)⟩, hB⟩
  case res => simp [go_sem, results, Tryd.f12]
set_option maxHeartbeats 1000000 in
theorem digits_calls (s : ByteArray) (w : World) (hs : s.size ≤ 9223372036854775807) :
    Calls Tryd.prog 34 #[.string s] w fun e w' => (∃ b, e = .returned (.bool b) ∧ (b = true → ∀ c ∈ s.data.toList, 48 ≤ c.toNat ∧ c.toNat ≤ 57)) ∧ Below w.heap.size w w' := by
  have hcon := Any.strings_Trim_laid Tryd.lays160 (by kernel_rfl) s ⟨#[48, 49, 50, 51, 52, 53, 54, 55, 56, 57]⟩ w hs (by decide) (ascii_of_all (by decide))
  change Calls Tryd.prog 20 _ _ (fun e w' => e = .returned (.string ⟨(Lib.trimS s.data.toList dset).toArray⟩) ∧ Below w.heap.size w w') at hcon
  have hall : Lib.trimS s.data.toList dset = [] → ∀ c ∈ s.data.toList, 48 ≤ c.toNat ∧ c.toNat ≤ 57 := fun h c hc => dset_range (all_of_trim h c hc)
  generalize Lib.trimS s.data.toList dset = r at hcon hall
  go_enter Tryd.func34, Tryd.ntmps34
  go_wp2_with (go_at_call 20; refine hcon.mono ?_; rintro e w' ⟨rfl, hB⟩)
  refine ⟨rfl, .bool r.isEmpty, ?res, ⟨_, rfl, fun h => hall (by simpa using h)⟩, hB⟩
  case res => simp [go_sem, results, Tryd.f34]
end Go.Proofs.YtpmkbpphlokbjaaDoor.EM
