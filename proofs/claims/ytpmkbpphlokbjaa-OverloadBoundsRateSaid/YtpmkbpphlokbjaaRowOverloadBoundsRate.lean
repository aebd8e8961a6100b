/- The law 'OverloadBoundsRate' of the given Go program: for every input it returns true and leaves its arguments as they were. No condition beyond the row's own. -/
import Derived.Test.YtpmkbpphlokbjaaRows
import Derived.Test.YtpmkbpphlokbjaaOpen
import Derived.Test.YtpmkbpphlokbjaaQBounds
import Derived.WalkKit
import Derived.ProofKit
import Derived.OpenShut
import Derived.ShutString
import Derived.ChangeOld
import Derived.Below
import Derived.SizedLaws
import Derived.Lib.SmallJoins
import Derived.Deep.Slices
import Derived.Deep.Fields
import Derived.ChangeSame
namespace Go.Proofs.Ytpmkbpphlokbjaa.overloadBoundsRate
open Go.ChangeShapes Go.WideShapes Go.ChangeAt Go.RowKit
open Go.ChangeMaps (open_string shut_string)
set_option linter.unusedVariables false
set_option linter.unusedSimpArgs false
theorem own : ownKnob Try.prog.godebug = none := by kernel_rfl
theorem laidOut : laidOutB Try.prog = true := by kernel_rfl
def Good1 (x : GA.S38) : Prop := (Lit.int .u16 x.f0).wf = true
def cells1 (x : GA.S38) : List Value := [.int .u16 x.f0, .bool x.f1]
theorem opened1 {H : Type} {enc : TypeId × Value → H} {W : World} {sp : Nat → Bool} {held : Bool} {a : Option Addr} {len cap : Nat} {d : DataW H} {ps : List MemPlace} (h : DataW.Trod enc Try.prog W 0 sp held 35 (.slice a len cap) d ps) :
    ∃ l : List GA.S38, l.length = len ∧ len ≤ cap ∧ Go.Proofs.YtpmkbpphlokbjaaW.PrintWords.Kd.C GA.k38 W a l.length l ∧ ∀ x ∈ l, Good1 x := by
  obtain ⟨fuel, hf⟩ := h
  rcases YtpmkbpphlokbjaaOpen.open_slice_fields Try.underlying35 Try.underlying38 (by kernel_rfl) (by kernel_rfl) hf with ⟨hcs, _⟩ | ⟨x, l, c, m, D, Pl, hcs, _, hl, hm, hmm, hx, hi⟩
  · simp [Value.cells] at hcs
    obtain ⟨rfl, rfl, rfl⟩ := hcs
    exact ⟨[], rfl, Nat.le_refl _, Go.Proofs.YtpmkbpphlokbjaaW.PrintWords.Kd.C_nil _ _, fun x hx => by cases hx⟩
  · simp [Value.cells] at hcs
    obtain ⟨rfl, rfl, rfl⟩ := hcs
    have hlm : len ≤ m := by rw [hmm]; split <;> omega
    have hq : ∀ i, i < len → ∃ x0 : GA.S38, Good1 x0 ∧ ∀ j u, (cells1 x0)[j]? = some u → W.cell? (x.add (i * 2 + j)) = some u := by
      intro i hil
      obtain ⟨ys, n', _, _, _, hf'⟩ := hi i (by omega)
      obtain ⟨v0, y0, hc0, _, ht0⟩ := hf' 0 _ rfl
      obtain ⟨b0, e0, _, w0⟩ := DataW.trod_int Try.underlying36 ht0
      simp at e0; subst e0
      obtain ⟨v1, y1, hc1, _, ht1⟩ := hf' 1 _ rfl
      obtain ⟨b1, e1, _⟩ := DataW.trod_bool Try.underlying4 ht1
      simp at e1; subst e1
      refine ⟨⟨b0, b1⟩, w0, fun j u hu => ?_⟩
      match j, hu with
      | 0, hu => simp [cells1] at hu; subst hu; exact hc0
      | 1, hu => simp [cells1] at hu; subst hu; exact hc1
      | j + 2, hu => simp [cells1] at hu
    obtain ⟨l, hll, hlq⟩ := YtpmkbpphlokbjaaOpen.list_from len _ hq
    refine ⟨l, hll, hl, ⟨rfl, by simp only [maxLen] at hm; omega, fun _ => ⟨x, rfl, fun j p hj => ⟨cells1 p, rfl, GA.k38_mk W p, (hlq j p hj).2⟩⟩⟩, fun p hp => ?_⟩
    obtain ⟨j, hj⟩ := List.getElem?_of_mem hp
    exact (hlq j p hj).1
set_option maxRecDepth 100000 in
theorem lifted (os : Os) (started : os.Started) (H : Type) (enc : TypeId × Value → H) :
    ReturnsInHanded {} Try.checked os 5 .any (Rows.overloadBoundsRateSpec.pre6 enc Try.prog Try.f5 Rows.overloadBoundsRateRow.domain false) (Rows.overloadBoundsRateSpec.post enc Try.prog Try.f5 false true false false) := by
  refine returnsInHanded_of_change_sized (C := Try.checked) own started (by kernel_rfl) Try.func5
    (ChangeSpec.witness6 (enc := enc) (C := Try.checked) false ⟨#[], #[.agg #[.int .i64 0, .int .i64 0, .int .i64 0, .int .i64 0], .slice none 0 0], []⟩ 8 (by kernel_rfl) (by kernel_rfl) (by kernel_rfl) (by kernel_rfl)) ?_
  intro W base args ds gs before hval0 hW hcnd hsz0 _
  have hval : ∀ (j : Nat) t v, Try.f5.params[j]? = some t → args[j]? = some v → Value.okWide Try.prog W .any base t v := hval0
  have hW' := hW
  obtain ⟨p, q, hA0, hV, rfl, hfz, hnd⟩ := hW
  have hA : DataW.TrodAll enc Try.prog W 0 (fun _ => true) true Try.f5.params.toList args.toList ds p := hA0
  rw [Try.params5] at hA hval
  obtain ⟨v0, vs0, d0, ds0, p0, q0, hargs, rfl, rfl, h0, r0⟩ := trodAll_cons hA
  obtain ⟨v1, vs1, d1, ds1, p1, q1, rfl, rfl, rfl, h1, r1⟩ := trodAll_cons r0
  obtain ⟨rfl, rfl, rfl⟩ := trodAll_nil r1
  obtain rfl : args = #[v0, v1] := by cases args; simp_all
  obtain ⟨rfl, rfl⟩ := trodVars_none hV
  have k0 := h0
  have lt0 : ∀ x ∈ p0, x.block < W.heap.size := by obtain ⟨m, hm⟩ := k0; exact DataW.trod_lt m _ _ _ hm
  obtain ⟨c0_0, c0_1, c0_2, c0_3, y0_0, y0_1, y0_2, y0_3, n0, rfl, hd0, hp0, hy0_0, hy0_1, hy0_2, hy0_3⟩ := Go.Joins.open_agg4 Try.underlying23 (by kernel_rfl) (by kernel_rfl) (hval 0 23 v0 rfl rfl) h0
  obtain ⟨a0_0, e0_0, _, w0_0⟩ := DataW.trod_int Try.underlying3 hy0_0
  simp at e0_0; subst e0_0
  obtain ⟨a0_1, e0_1, _, w0_1⟩ := DataW.trod_int Try.underlying3 hy0_1
  simp at e0_1; subst e0_1
  obtain ⟨a0_2, e0_2, _, w0_2⟩ := DataW.trod_int Try.underlying3 hy0_2
  simp at e0_2; subst e0_2
  obtain ⟨a0_3, e0_3, _, w0_3⟩ := DataW.trod_int Try.underlying3 hy0_3
  simp at e0_3; subst e0_3
  have k1 := h1
  have lt1 : ∀ x ∈ p1, x.block < W.heap.size := by obtain ⟨m, hm⟩ := k1; exact DataW.trod_lt m _ _ _ hm
  obtain ⟨a1, len1, cap1, rfl⟩ := okWide_slice Try.underlying35 (hval 1 35 v1 rfl rfl)
  obtain ⟨l1, hl1, hc1, hr1, hg1⟩ := opened1 h1
  subst hl1
  obtain ⟨k, hk⟩ := GA.pure_OverloadBoundsRate a0_0 a0_1 a0_2 a0_3 l1 hg1
  refine (GA.crossbarlaw32_OverloadBoundsRate.calls k a0_0 a0_1 a0_2 a0_3 a1 cap1 l1 true W hr1 hc1 hk).mono fun e W' ⟨he, bel⟩ => ?_
  subst he
  exact ⟨_, rfl, _, _, _, [], _, [], hW', trodAll_mk1 (shut_bool Try.underlying4 _), (trodAll_cons_mk (Below.trod laidOut (by kernel_rfl) (of_decide_eq_true (by kernel_rfl)) k0 bel lt0) (trodAll_cons_mk (Below.trod laidOut (by kernel_rfl) (of_decide_eq_true (by kernel_rfl)) k1 bel lt1) trodAll_mk0)), rfl, bel.frame _, fun h => by cases h⟩
theorem over : Rows.overloadBoundsRateRow.holds Try.pinned (OpenSpec.ofChange Rows.overloadBoundsRateSpec) :=
  OpenClaim.holds_of_wide 5 Try.f5 rfl rfl rfl rfl rfl rfl rfl ⟨rfl, rfl, rfl, rfl, rfl⟩ rfl rfl rfl rfl rfl (by kernel_rfl) Try.func5 (by kernel_rfl)
    (of_decide_eq_true (by kernel_rfl)) (by unfold Func.isWrapper; first | (rw [if_pos (by decide +kernel)]; kernel_rfl) | (rw [if_neg (by decide +kernel)]; exact ⟨rfl, rfl⟩))
    (fun os started H enc _ => lifted os started H enc)
theorem proved : Rows.OverloadBoundsRateSaid := over
#print axioms proved
end Go.Proofs.Ytpmkbpphlokbjaa.overloadBoundsRate
namespace Go.Proofs.Ytpmkbpphlokbjaa
theorem overloadBoundsRate_holds : Rows.OverloadBoundsRateSaid := overloadBoundsRate.proved
end Go.Proofs.Ytpmkbpphlokbjaa
