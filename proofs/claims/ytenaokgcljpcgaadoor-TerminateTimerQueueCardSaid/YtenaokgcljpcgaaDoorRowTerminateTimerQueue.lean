/- The law 'TerminateTimerQueue' of the given Go program: for every input it returns true and leaves its arguments as they were. No condition beyond the row's own. -/
import Derived.Test.YtenaokgcljpcgaaDoorRows
import Derived.Test.YtenaokgcljpcgaaDoorOpen
import Derived.Test.YtenaokgcljpcgaaDoorJLaid
import Derived.Test.YtenaokgcljpcgaaDoorTie
import Derived.Test.YtenaokgcljpcgaaDoorCards
import Derived.Test.YtenaokgcljpcgaaDoorJQ
import Derived.WalkKit
import Derived.ProofKit
import Derived.OpenShut
import Derived.ShutString
import Derived.ChangeOld
import Derived.Below
import Derived.SizedLaws
import Derived.Lib.SmallJoins
import Derived.Deep.Slices
import Derived.Deep.Fields
import Derived.ChangeSame
import Derived.LaidMore
import Derived.SevenTiedAt
import Derived.Stop.Joined
namespace Go.Proofs.YtenaokgcljpcgaaDoor.terminateTimerQueue
open Go.ChangeShapes Go.WideShapes Go.ChangeAt Go.RowKit
open Go.ChangeMaps (open_string shut_string)
set_option linter.unusedVariables false
set_option linter.unusedSimpArgs false
theorem own : ownKnob Tryd.prog.godebug = none := by kernel_rfl
theorem laidOut : laidOutB Tryd.prog = true := by kernel_rfl
def Good0 (x : GQ.S25) : Prop := (Lit.int .i64 x.f0).wf = true ∧ (Lit.int .i64 x.f1).wf = true ∧ (Lit.int .u8 x.f2).wf = true
def cells0 (x : GQ.S25) : List Value := [.int .i64 x.f0, .int .i64 x.f1, .int .u8 x.f2]
theorem opened0 {H : Type} {enc : TypeId × Value → H} {W : World} {sp : Nat → Bool} {held : Bool} {a : Option Addr} {len cap : Nat} {d : DataW H} {ps : List MemPlace} (h : DataW.Trod enc Tryd.prog W 0 sp held 34 (.slice a len cap) d ps) :
    ∃ l : List GQ.S25, l.length = len ∧ len ≤ cap ∧ Go.Proofs.YtenaokgcljpcgaaDoorW.PrintWords.Kd.C GQ.k25 W a l.length l ∧ ∀ x ∈ l, Good0 x := by
  obtain ⟨fuel, hf⟩ := h
  rcases YtenaokgcljpcgaaDoorOpen.open_slice_fields Tryd.underlying34 Tryd.underlying25 (by kernel_rfl) (by kernel_rfl) hf with ⟨hcs, _⟩ | ⟨x, l, c, m, D, Pl, hcs, _, hl, hm, hmm, hx, hi⟩
  · simp [Value.cells] at hcs
    obtain ⟨rfl, rfl, rfl⟩ := hcs
    exact ⟨[], rfl, Nat.le_refl _, Go.Proofs.YtenaokgcljpcgaaDoorW.PrintWords.Kd.C_nil _ _, fun x hx => by cases hx⟩
  · simp [Value.cells] at hcs
    obtain ⟨rfl, rfl, rfl⟩ := hcs
    have hlm : len ≤ m := by rw [hmm]; split <;> omega
    have hq : ∀ i, i < len → ∃ x0 : GQ.S25, Good0 x0 ∧ ∀ j u, (cells0 x0)[j]? = some u → W.cell? (x.add (i * 3 + j)) = some u := by
      intro i hil
      obtain ⟨ys, n', _, _, _, hf'⟩ := hi i (by omega)
      obtain ⟨v0, y0, hc0, _, ht0⟩ := hf' 0 _ rfl
      obtain ⟨b0, e0, _, w0⟩ := DataW.trod_int Tryd.underlying3 ht0
      simp at e0; subst e0
      obtain ⟨v1, y1, hc1, _, ht1⟩ := hf' 1 _ rfl
      obtain ⟨b1, e1, _, w1⟩ := DataW.trod_int Tryd.underlying3 ht1
      simp at e1; subst e1
      obtain ⟨v2, y2, hc2, _, ht2⟩ := hf' 2 _ rfl
      obtain ⟨b2, e2, _, w2⟩ := DataW.trod_int Tryd.underlying5 ht2
      simp at e2; subst e2
      refine ⟨⟨b0, b1, b2⟩, ⟨w0, w1, w2⟩, fun j u hu => ?_⟩
      match j, hu with
      | 0, hu => simp [cells0] at hu; subst hu; exact hc0
      | 1, hu => simp [cells0] at hu; subst hu; exact hc1
      | 2, hu => simp [cells0] at hu; subst hu; exact hc2
      | j + 3, hu => simp [cells0] at hu
    obtain ⟨l, hll, hlq⟩ := YtenaokgcljpcgaaDoorOpen.list_from len _ hq
    refine ⟨l, hll, hl, ⟨rfl, by simp only [maxLen] at hm; omega, fun _ => ⟨x, rfl, fun j p hj => ⟨cells0 p, rfl, GQ.k25_mk W p, (hlq j p hj).2⟩⟩⟩, fun p hp => ?_⟩
    obtain ⟨j, hj⟩ := List.getElem?_of_mem hp
    exact (hlq j p hj).1
set_option maxRecDepth 100000 in
theorem lifted (os : Os) (started : os.Started) (H : Type) (enc : TypeId × Value → H) :
    ReturnsInHanded {} Tryd.checked os 10 .any (fun w args => (Rows.terminateTimerQueueSpec.pre enc Tryd.prog Tryd.f10 [] false w args ∧ laidMetH Tryd.prog Rows.terminateTimerQueueRow.laid w) ∧ sizedMet enc Tryd.prog Tryd.f10 (OpenSpec.ofChange Rows.terminateTimerQueueSpec) false w args) (Rows.terminateTimerQueueSpec.post enc Tryd.prog Tryd.f10 false true false false) := by
  refine returnsInHanded_of_change_and (C := Tryd.checked) (X := fun w _ => laidMetH Tryd.prog Rows.terminateTimerQueueRow.laid w) (fun _ _ _ hh h => h.of_heap hh) own started (by kernel_rfl) Tryd.func10
    (ChangeSpec.witness_shaped (enc := enc) (C := Tryd.checked) (os := os) (X := fun w _ => laidMetH Tryd.prog Rows.terminateTimerQueueRow.laid w) false (World.doorLaid Tryd.prog 66 os) #[.slice none 0 0, .int .u32 0] 8 rfl (World.shaped_of_RefB (by kernel_rfl) (by kernel_rfl)) (by kernel_rfl) (by kernel_rfl) (by kernel_rfl) (GQ.door_met os _)) ?_
  intro W base args ds gs before hval0 hW hcnd hsz0 hL _
  have hval : ∀ (j : Nat) t v, Tryd.f10.params[j]? = some t → args[j]? = some v → Value.okWide Tryd.prog W .any base t v := hval0
  have hW' := hW
  obtain ⟨p, q, hA0, hV, rfl, hfz, hnd⟩ := hW
  have hA : DataW.TrodAll enc Tryd.prog W 0 (fun _ => true) true Tryd.f10.params.toList args.toList ds p := hA0
  rw [Tryd.params10] at hA hval
  obtain ⟨v0, vs0, d0, ds0, p0, q0, hargs, rfl, rfl, h0, r0⟩ := trodAll_cons hA
  obtain ⟨v1, vs1, d1, ds1, p1, q1, rfl, rfl, rfl, h1, r1⟩ := trodAll_cons r0
  obtain ⟨rfl, rfl, rfl⟩ := trodAll_nil r1
  obtain rfl : args = #[v0, v1] := by cases args; simp_all
  obtain ⟨rfl, rfl⟩ := trodVars_none hV
  have k0 := h0
  have lt0 : ∀ x ∈ p0, x.block < W.heap.size := by obtain ⟨m, hm⟩ := k0; exact DataW.trod_lt m _ _ _ hm
  obtain ⟨a0, len0, cap0, rfl⟩ := okWide_slice Tryd.underlying34 (hval 0 34 v0 rfl rfl)
  obtain ⟨l0, hl0, hc0, hr0, hg0⟩ := opened0 h0
  subst hl0
  have k1 := h1
  have lt1 : ∀ x ∈ p1, x.block < W.heap.size := by obtain ⟨m, hm⟩ := k1; exact DataW.trod_lt m _ _ _ hm
  obtain ⟨a1, rfl, hd1, hp1, w1⟩ := open_int Tryd.underlying54 (hval 1 54 v1 rfl rfl) h1
  obtain ⟨k, hk⟩ := GQ.pure_TerminateTimerQueue l0 a1 (by have h := w1; simp only [Lit.wf, Bool.and_eq_true, decide_eq_true_eq] at h; exact h)
  refine (GQ.crossbarlaw17_TerminateTimerQueue.calls k a0 cap0 l0 a1 true W hr0 hc0 hk (GQ.tab_of_laid hL)).mono fun e W' ⟨he, bel⟩ => ?_
  subst he
  exact ⟨_, rfl, _, _, _, [], _, [], hW', trodAll_mk1 (shut_bool Tryd.underlying4 _), (trodAll_cons_mk (Below.trod laidOut (by kernel_rfl) (of_decide_eq_true (by kernel_rfl)) k0 bel lt0) (trodAll_cons_mk (Below.trod laidOut (by kernel_rfl) (of_decide_eq_true (by kernel_rfl)) k1 bel lt1) trodAll_mk0)), rfl, bel.frame _, fun h => by cases h⟩
theorem over : Rows.terminateTimerQueueRow.holds Tryd.pinned (OpenSpec.ofChange Rows.terminateTimerQueueSpec) :=
  OpenClaim.holds_of_wide 10 Tryd.f10 rfl rfl rfl rfl rfl rfl rfl ⟨rfl, rfl, rfl, rfl, rfl⟩ rfl rfl rfl rfl rfl (by kernel_rfl) Tryd.func10 (by kernel_rfl)
    (of_decide_eq_true (by kernel_rfl)) (by unfold Func.isWrapper; first | (rw [if_pos (by decide +kernel)]; kernel_rfl) | (rw [if_neg (by decide +kernel)]; exact ⟨rfl, rfl⟩))
    (fun os started H enc _ => lifted os started H enc)
theorem proved : Rows.TerminateTimerQueueSaid := over
#print axioms proved
end Go.Proofs.YtenaokgcljpcgaaDoor.terminateTimerQueue
namespace Go.Proofs.YtenaokgcljpcgaaDoor
theorem terminateTimerQueue_card : Rows.TerminateTimerQueueCardSaid :=
  Claim7.holds_tied_plain_at .later [] [.data] true (true, "20c7cc90487e64e3c99f1e9b53732d9a15acd11beecb07d7fd35ee5243f391ed") false
    terminateTimerQueue.proved (fun _ h => by cases h) (by kernel_rfl) (fun _ h => by cases h) terminateTimerQueue_row_tie rfl ⟨rfl, rfl⟩ (by kernel_rfl) rfl
    (fun f fn hf hfn => by
      obtain rfl : f = 10 := Option.some.inj ((show Tryd.prog.funcNamed "crossbar/crossbarlaw17.TerminateTimerQueue" = some 10 by kernel_rfl).symm.trans hf) |>.symm
      obtain rfl : fn = Tryd.f10 := (Option.some.inj (Tryd.func10.symm.trans hfn)).symm
      exact ⟨by kernel_rfl, fun j t ht => by
        rw [Tryd.params10] at ht
        have hm : t ∈ [34, 54] := by simpa using Array.mem_of_getElem? ht
        have hall : ([34, 54].all fun u => !Tryd.prog.wantsStandIn u) = true := by kernel_rfl
        exact (show Tryd.prog.wantsStandIn t = false by simpa using List.all_eq_true.1 hall t hm)⟩)
    (by kernel_rfl)
end Go.Proofs.YtenaokgcljpcgaaDoor
