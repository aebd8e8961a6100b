/- trie.path of the given program: its iterator yields the nodes on the way of a string of digits. -/
import Derived.RangeFuncNested
import Derived.RangeFuncBound
import Derived.RangeFuncCalls
import Derived.RangeFuncLeaves
import Derived.RangeFuncFrom
import Derived.RangeFuncBox
import Derived.Shelf.Abstract
import Derived.Shelf.RegionOpen
import Derived.WalkKit
import Derived.OwnWalkIn
import Derived.TacticsInMore
import Derived.LoopNIn
import Derived.LoopIn
import Derived.Sort.QuietIn
import Derived.Test.YtegblcdnmcnngaaDoorTV
set_option linter.unusedVariables false
set_option linter.unusedSimpArgs false
namespace Go.Proofs.YtegblcdnmcnngaaDoor.TB
open Go.RowKit Go.Shelf
attribute [local go_sem] Oper.semAt_some
/-- the nodes on the way, with the number of digits used -/
def pathL (xs : List Int) : Nat → Nat → List Nat → List (Nat × Nat)
  | i, a, [] => [(i, a)]
  | i, a, d :: ds => (i, a) :: (if kd xs a d = 0 then [] else pathL xs (i + 1) (kd xs a d) ds)
/-- all but three blocks lie as they lay -/
def KpI (n₀ n₁ B : Nat) (W W' : World) : Prop := ∀ k, k < B → (k < n₀ ∨ n₁ ≤ k) → W'.heap[k]? = W.heap[k]?
theorem KpI.t {n₀ n₁ B : Nat} {X Y Z : World} (h : KpI n₀ n₁ B X Y) (k : KpI n₀ n₁ B Y Z) : KpI n₀ n₁ B X Z := fun i hi hd => (k i hi hd).trans (h i hi hd)
theorem KpI.r {n₀ n₁ B : Nat} {X : World} : KpI n₀ n₁ B X X := fun _ _ _ => rfl
theorem KpI.b {n₀ n₁ B : Nat} {w : World} (hB : B ≤ w.heap.size) (W : World) (l : Nat) (o o' : Obj) (hl : w.heap.size ≤ l) (h : W.heap[l]? = some o) (_ : o.isCells = false) (_ : o.isWalk = false) : KpI n₀ n₁ B W (W.putObj l o') := by
  intro k hk _
  have hlt := (Array.getElem?_eq_some_iff.1 h).1
  exact (grownBy_putObj' W l o').block k (by omega) (fun e => by cases e; omega)
theorem KpI.cell {n₀ n₁ B : Nat} {W W' : World} (h : KpI n₀ n₁ B W W') {p : Addr} (hp : p.block < B) (hd : p.block < n₀ ∨ n₁ ≤ p.block) : W'.cell? p = W.cell? p := World.cell?_of_block (w := W) (h p.block hp hd)
theorem grown_drewN (W : World) (n : Nat) : W.grownBy (W.drewN n) none := ⟨rfl, rfl, rfl, Nat.le_refl _, fun _ _ _ => rfl⟩
theorem pathL_cons (xs : List Int) (i a d : Nat) (ds : List Nat) : pathL xs i a (d :: ds) = (i, a) :: (if kd xs a d = 0 then [] else pathL xs (i + 1) (kd xs a d) ds) := rfl
theorem drop_cons {l : List Nat} {k d : Nat} (h : l[k]? = some d) : l.drop k = d :: l.drop (k + 1) := by
  obtain ⟨hk, he⟩ := List.getElem?_eq_some_iff.1 h
  rw [List.drop_eq_getElem_cons hk, he]
abbrev At (m : Nat) := { p : Nat × Nat // p.2 < m }
set_option maxRecDepth 100000 in
set_option maxHeartbeats 4000000 in
theorem path42_in (n : Nat) (hn : 1 ≤ n) (l Bs Bt n₀ n₁ B g m c : Nat) (xs : List Int) (s : ByteArray) (hO : OkT xs m) (hs : s.size ≤ 9223372036854775807) (hm : m ≤ 100000)
    (hBs : Bs < B) (hBs' : n₁ ≤ Bs) (hBt : Bt < B) (hBt' : Bt < n₀ ∨ n₁ ≤ Bt) (hg : g < B) (hg' : g < n₀) (hdig : ∀ b ∈ s.data.toList, 48 ≤ b.toNat ∧ b.toNat ≤ 57)
    (J Jx : List (At m) → World → Prop) (Bw : Nat) (hJ : AbidesFrom Bw J)
    (hY : ∀ pre x W, J pre W → pre.length < s.size + 1 → YieldAt Fence.wide (n - 1) Tryd.prog l #[.int .i64 (x.1.1 : Int), .int .i64 (x.1.2 : Int)] W fun e W' =>
      (e = .returned (.bool true) ∧ J (pre ++ [x]) W' ∧ KpI n₀ n₁ B W W') ∨ (e = .returned (.bool false) ∧ Jx (pre ++ [x]) W'))
    (W : World) (hcs : W.cell? ⟨Bs, 0, none⟩ = some (.string s)) (hct : W.cell? ⟨Bt, 0, none⟩ = some (.slice (some ⟨g, 0, none⟩) m c)) (hR : Row W g xs) (h0 : J [] W) :
    CallsIn Fence.wide n Tryd.prog 26 #[.func (.yield l) #[] #[], .pointer (some ⟨Bs, 0, none⟩), .pointer (some ⟨Bt, 0, none⟩)] W fun e W' => (∃ v, e = .returned v) ∧
      ((∃ ys : List (At m), ys.map Subtype.val = pathL xs 0 0 (dgs s) ∧ J ys W') ∨ (∃ pre, True ∧ Jx pre W')) := by
  obtain ⟨bt, hbt⟩ : ∃ bt : Nat → Nat, ∀ j, j < s.size → bt j < 10 ∧ (s.data.toList.getD j 0).toNat = 48 + bt j ∧ (dgs s)[j]? = some (bt j) := by
    refine ⟨fun j => dg (s.data.toList.getD j 0), fun j hj => ?_⟩
    have hjl : j < s.data.toList.length := by simpa using hj
    have hget : s.data.toList.getD j 0 = s.data.toList[j] := by rw [List.getD, List.getElem?_eq_getElem hjl]; rfl
    have hmem : s.data.toList.getD j 0 ∈ s.data.toList := by rw [hget]; exact List.getElem_mem _
    have := hdig _ hmem
    refine ⟨by show (s.data.toList.getD j 0).toNat - 48 < 10; omega, by show _ = 48 + ((s.data.toList.getD j 0).toNat - 48); omega, ?_⟩
    simp only [dgs, List.getElem?_map, List.getElem?_eq_getElem hjl, Option.map_some, hget]
  refine callsIn_of_wp Tryd.func26 rfl trivial ?_ rfl
  simp only [Tryd.ntmps26, List.size_toArray, List.length_cons, List.length_nil, Nat.reduceAdd, Nat.reduceSub, Array.replicate_succ, Array.replicate_zero, List.push_toArray, List.append_toArray, List.nil_append, List.cons_append]
  gi_wp2
  gi_loopw [5, 4] (fun i a wr => ∃ (k at' : Nat) (pre : List (At m)), k ≤ s.size ∧ i = .int .i64 (k : Int) ∧ a = .int .i64 (at' : Int) ∧ at' < m ∧ pre.length = k ∧ pathL xs 0 0 (dgs s) = pre.map Subtype.val ++ pathL xs k at' ((dgs s).drop k) ∧ J pre wr ∧ KpI n₀ n₁ B W wr)
    (fun i _ _ => s.size - (intOf i).toNat)
  case atStart => exact ⟨0, 0, [], by omega, rfl, rfl, hO.pos, rfl, rfl, h0, KpI.r⟩
  case round =>
    obtain ⟨k, at', pre, hk, rfl, rfl, hat, hpl, hpa, hJs, hKp⟩ := hrel
    obtain ⟨fn, tmps, assign, body, hy, hR2⟩ := hY pre ⟨(k, at'), hat⟩ wr hJs (by omega)
    dsimp only at hy
    gi_wp2
    refine hR2.mono ?_
    clear hR2
    rintro e W3 (⟨rfl, hJ3, hk3⟩ | ⟨rfl, hJx3⟩)
    · have hKp3 := hKp.t hk3
      have hcs3 : W3.cell? ⟨Bs, 0, none⟩ = some (.string s) := (hKp3.cell (p := ⟨Bs, 0, none⟩) hBs (.inr hBs')).trans hcs
      have hct3 : W3.cell? ⟨Bt, 0, none⟩ = some (.slice (some ⟨g, 0, none⟩) m c) := (hKp3.cell (p := ⟨Bt, 0, none⟩) hBt hBt').trans hct
      by_cases hlt : k < s.size
      · have hlt' : decide ((k : Int) < (s.size : Int)) = true := decide_eq_true (by omega)
        have hlt'' : decide (k < s.size) = true := decide_eq_true hlt
        obtain ⟨hd10, hdk, hdg⟩ := hbt k hlt
        obtain ⟨d, hd⟩ : ∃ d, bt k = d := ⟨_, rfl⟩
        rw [hd] at hd10 hdk hdg
        have hsk : (s[k]'hlt).toNat = 48 + d := by
          rw [← hdk]
          have hjl : k < s.data.toList.length := by simpa using hlt
          rw [List.getD, List.getElem?_eq_getElem hjl]
          rfl
        have hb1 : (k : Int) < (s.size : Int) := by omega
        have hb2 : (at' : Int) < (m : Int) := by omega
        have hb3 : (d : Int) < 10 := by omega
        have hb4 : (0 : Int) ≤ (d : Int) := by omega
        obtain ⟨hkd1, hkd2⟩ := hO.kd hat hd10
        have hcell : W3.cell? ⟨g, at' * 11 + d, none⟩ = some (.int .i64 (kd xs at' d : Nat)) := (hKp3.cell (p := ⟨g, at' * 11 + d, none⟩) hg (.inl hg')).trans (hR _ _ hkd2)
        have hm1 : (d : Int) % 256 = d := by omega
        have hm2 : (48 + (d : Int) - 48) % 256 = d := by omega
        by_cases hk0 : kd xs at' d = 0
        · have e0 : ((kd xs at' d : Int) == 0) = true := by rw [hk0]; rfl
          have e0' : (kd xs at' d == 0) = true := by rw [hk0]; rfl
          have HK := Lib.hid hk0
          clear hk0
          gi_wp2
          gi_quiet (fail)
          gi_wp2
          refine bodyPost_ret (results_none rfl _ _ _) rfl ?_
          refine ⟨⟨_, rfl⟩, .inl ⟨pre ++ [⟨(k, at'), hat⟩], ?_, hJ _ _ _ none hJ3 (grown_drewN W3 nq) (by simp)⟩⟩
          rw [hpa, drop_cons hdg, pathL_cons, if_pos HK.out]
          simp
        · have e0 : ((kd xs at' d : Int) == 0) = false := beq_eq_false_iff_ne.mpr (by omega)
          have e0' : (kd xs at' d == 0) = false := beq_eq_false_iff_ne.mpr hk0
          have HK := Lib.hid hk0
          clear hk0
          gi_wp2
          gi_quiet (fail)
          gi_wp2
          go_roundw
          case rel =>
            refine ⟨k + 1, kd xs at' d, pre ++ [⟨(k, at'), hat⟩], by omega, rfl, rfl, hkd1, by simp [hpl], ?_, hJ _ _ _ none hJ3 (grown_drewN W3 nq) (by simp), hKp3⟩
            rw [hpa, drop_cons hdg, pathL_cons, if_neg HK.out]
            simp
          case measure => simp [intOf]; omega
      · have hlt' : decide ((k : Int) < (s.size : Int)) = false := decide_eq_false (by omega)
        have hlt'' : decide (k < s.size) = false := decide_eq_false hlt
        gi_wp2
        go_end0
        refine ⟨⟨_, rfl⟩, .inl ⟨pre ++ [⟨(k, at'), hat⟩], ?_, hJ3⟩⟩
        have hks : k = s.size := by omega
        have hdr : (dgs s).drop k = [] := List.drop_of_length_le (by simp [dgs, hks])
        rw [hpa, hdr]
        simp [pathL]
    · gi_wp2
      go_end0
      exact ⟨⟨_, rfl⟩, .inr ⟨pre ++ [⟨(k, at'), hat⟩], trivial, hJx3⟩⟩
end Go.Proofs.YtegblcdnmcnngaaDoor.TB
