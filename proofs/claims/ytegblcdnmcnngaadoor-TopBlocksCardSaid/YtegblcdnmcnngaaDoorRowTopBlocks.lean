/- The law 'TopBlocks' of the given Go program: for every input it returns true and leaves its arguments as they were. No condition beyond the row's own. -/
import Derived.Test.YtegblcdnmcnngaaDoorRows
import Derived.Test.YtegblcdnmcnngaaDoorOpen
import Derived.Test.YtegblcdnmcnngaaDoorTie
import Derived.Test.YtegblcdnmcnngaaDoorCards
import Derived.Test.YtegblcdnmcnngaaDoorTL
import Derived.WalkKit
import Derived.ProofKit
import Derived.OpenShut
import Derived.ShutString
import Derived.ChangeOld
import Derived.ChangeMaps5
import Derived.Below
import Derived.SizedLaws
import Derived.Lib.SmallJoins
import Derived.Deep.Slices
import Derived.Deep.Fields
import Derived.ChangeSame
import Derived.LaidMore
import Derived.Lay
import Derived.SevenTiedAt
import Derived.Stop.Joined
namespace Go.Proofs.YtegblcdnmcnngaaDoor.topBlocks
open Go.ChangeShapes Go.WideShapes Go.ChangeAt Go.RowKit
open Go.ChangeMaps (open_string shut_string)
set_option linter.unusedVariables false
set_option linter.unusedSimpArgs false
theorem own : ownKnob Tryd.prog.godebug = none := by kernel_rfl
theorem laidOut : laidOutB Tryd.prog = true := by kernel_rfl
theorem mem_weightsAll {H : Type} {P : Program} {e : TypeId} {n : Nat} {d : DataW H} : ∀ l : List (DataW H), d ∈ l → n ∈ d.weights P e → n ∈ DataW.weightsAll P e l
  | [], h, _ => by cases h
  | x :: l, h, hn => by
    rw [DataW.weightsAll, List.mem_append]
    rcases List.mem_cons.1 h with rfl | h
    · exact .inl hn
    · exact .inr (mem_weightsAll l h hn)
theorem openedGrants {H : Type} {enc : TypeId × Value → H} {W : World} {sp : Nat → Bool} {held : Bool} {a : Option Addr} {len cap : Nat} {d : DataW H} {ps : List MemPlace} (h : DataW.Trod enc Tryd.prog W 0 sp held 22 (.slice a len cap) d ps) (hw : ∀ n ∈ d.weights Tryd.prog 22, n ≤ reachBytes) :
    ∃ l : List TB.Gr, l.length = len ∧ len ≤ cap ∧ len ≤ 9223372036854775807 ∧ TB.Grants W a l := by
  obtain ⟨fuel, hf⟩ := h
  rcases YtegblcdnmcnngaaDoorOpen.open_slice_fields Tryd.underlying22 Tryd.underlying41 (by kernel_rfl) (by kernel_rfl) hf with ⟨hcs, _⟩ | ⟨x, l, c, m, D, Pl, hcs, _, hl, hm, hmm, hx, hi⟩
  · simp [Value.cells] at hcs
    obtain ⟨rfl, rfl, rfl⟩ := hcs
    exact ⟨[], rfl, Nat.le_refl _, by omega, fun i r hr => by simp at hr⟩
  · simp [Value.cells] at hcs
    obtain ⟨rfl, rfl, rfl⟩ := hcs
    have hlm : len ≤ m := by rw [hmm]; split <;> omega
    simp only [Prod.mk.injEq] at hx
    have hq : ∀ i, i < len → ∃ x0 : TB.Gr, TB.GrAt W (x.add (i * 2)) x0 := by
      intro i hil
      obtain ⟨ys, n', hD, _, _, hf'⟩ := hi i (by omega)
      obtain ⟨v0, y0, hc0, hy0, ht0⟩ := hf' 0 _ rfl
      obtain ⟨b0, e0, hz0, w0⟩ := DataW.trod_string Tryd.underlying9 ht0
      simp at e0; subst e0
      obtain ⟨v1, y1, hc1, _, ht1⟩ := hf' 1 _ rfl
      obtain ⟨b1, e1, _, w1⟩ := DataW.trod_int Tryd.underlying3 ht1
      simp at e1; subst e1
      have hsz : b0.size ≤ reachBytes := by
        refine hw _ ?_
        rw [hx.1]
        simp only [DataW.weights, Tryd.underlying22, List.mem_cons, List.mem_append]
        refine .inr (.inl (mem_weightsAll (d := D i) _ (List.mem_map.2 ⟨i, List.mem_range.2 hil, rfl⟩) ?_))
        rw [hD]
        simp only [DataW.weights, Tryd.underlying41]
        refine DataW.weights_mem_each (j := 0) (t := 9) (d := .lit (.string b0.data.toList)) rfl ?_ _ ?_
        · rw [List.getElem?_map, hy0, hz0]; rfl
        · simp [DataW.weights]
      exact ⟨⟨b0, b1⟩, hc0, by rw [← TB.add_form x (i * 2) 0]; exact hc1, by have : reachBytes < 2 ^ 47 := reachBytes_lt; show b0.size ≤ 140737488355328; omega⟩
    obtain ⟨l, hll, hlq⟩ := YtegblcdnmcnngaaDoorOpen.list_from len _ hq
    exact ⟨l, hll, hl, by simp only [maxLen] at hm; omega, fun i r hr => ⟨x, rfl, hlq i r hr⟩⟩
set_option maxRecDepth 100000 in
theorem lifted (os : Os) (started : os.Started) (H : Type) (enc : TypeId × Value → H) :
    ReturnsInHanded {} Tryd.checked os 3 .any (fun w args => (Rows.topBlocksSpec.pre enc Tryd.prog Tryd.f3 [] false w args ∧ laidMetH Tryd.prog Rows.topBlocksRow.laid w) ∧ sizedMet enc Tryd.prog Tryd.f3 (OpenSpec.ofChange Rows.topBlocksSpec) false w args) (Rows.topBlocksSpec.post enc Tryd.prog Tryd.f3 false true false false) := by
  refine returnsInHanded_of_change_and (C := Tryd.checked) (X := fun w _ => laidMetH Tryd.prog Rows.topBlocksRow.laid w) (fun _ _ _ hh h => h.of_heap hh) own started (by kernel_rfl) Tryd.func3
    (ChangeSpec.witness_shaped (enc := enc) (C := Tryd.checked) (os := os) (X := fun w _ => laidMetH Tryd.prog Rows.topBlocksRow.laid w) false (World.laidAll Tryd.prog os Rows.topBlocksRow.laid) #[.slice none 0 0, .int .u8 0, .string ⟨#[]⟩] 8 (World.laidAll_os _ _ _) (World.shaped_of_ZipB (by kernel_rfl) (by kernel_rfl)) (by kernel_rfl) (by kernel_rfl) (by kernel_rfl)
      (by rw [MakeChecks.laidMetH_plain _ _ _ (by kernel_rfl)]; exact laidMet_laidAll _ (by kernel_rfl) (by kernel_rfl))) ?_
  intro W base args ds gs before hval0 hW hcnd hsz0 hL _
  have hval : ∀ (j : Nat) t v, Tryd.f3.params[j]? = some t → args[j]? = some v → Value.okWide Tryd.prog W .any base t v := hval0
  have hW' := hW
  obtain ⟨p, q, hA0, hV, rfl, hfz, hnd⟩ := hW
  have hA : DataW.TrodAll enc Tryd.prog W 0 (fun _ => true) true Tryd.f3.params.toList args.toList ds p := hA0
  rw [Tryd.params3] at hA hval
  obtain ⟨v0, vs0, d0, ds0, p0, q0, hargs, rfl, rfl, h0, r0⟩ := trodAll_cons hA
  obtain ⟨v1, vs1, d1, ds1, p1, q1, rfl, rfl, rfl, h1, r1⟩ := trodAll_cons r0
  obtain ⟨v2, vs2, d2, ds2, p2, q2, rfl, rfl, rfl, h2, r2⟩ := trodAll_cons r1
  obtain ⟨rfl, rfl, rfl⟩ := trodAll_nil r2
  obtain rfl : args = #[v0, v1, v2] := by cases args; simp_all
  obtain ⟨rfl, rfl⟩ := trodVars_none hV
  have k0 := h0
  have lt0 : ∀ x ∈ p0, x.block < W.heap.size := by obtain ⟨m, hm⟩ := k0; exact DataW.trod_lt m _ _ _ hm
  obtain ⟨a0, len0, cap0, rfl⟩ := okWide_slice Tryd.underlying22 (hval 0 22 v0 rfl rfl)
  have hwt : ∀ n ∈ d0.weights Tryd.prog 22, n ≤ reachBytes := fun n hn => by
    have := List.all_eq_true.1 hsz0 n (DataW.weights_mem_each (j := 0) (t := 22) (d := d0) rfl rfl n hn)
    simpa using this
  obtain ⟨l0, hl0, hc0, hm0, hr0⟩ := openedGrants h0 hwt
  subst hl0
  have k1 := h1
  have lt1 : ∀ x ∈ p1, x.block < W.heap.size := by obtain ⟨m, hm⟩ := k1; exact DataW.trod_lt m _ _ _ hm
  obtain ⟨a1, rfl, hd1, hp1, w1⟩ := open_int Tryd.underlying5 (hval 1 5 v1 rfl rfl) h1
  have hu : 0 ≤ a1 ∧ a1 ≤ 255 := by
    have h := w1
    simp only [Lit.wf, Bool.and_eq_true, decide_eq_true_eq] at h
    exact ⟨by have := h; first | exact this.1 | omega, by have := h; first | exact this.2 | omega⟩
  have k2 := h2
  have lt2 : ∀ x ∈ p2, x.block < W.heap.size := by obtain ⟨m, hm⟩ := k2; exact DataW.trod_lt m _ _ _ hm
  obtain ⟨s2, rfl, hd2, hp2, hs2⟩ := open_string Tryd.underlying9 (hval 2 9 v2 rfl rfl) h2
  have hss : s2.size ≤ 140737488355328 := by
    have h := sized_string hsz0 (j := 2) (t := 9) (bytes := s2.data.toList) rfl (by rw [hd2]; rfl)
    have : reachBytes < 2 ^ 47 := reachBytes_lt
    have e : s2.data.toList.length = s2.size := by simp
    omega
  refine (TB.law3 a1 hu.1 hu.2 hr0 hc0 hm0 hss).mono fun e W' ⟨he, bel⟩ => ?_
  subst he
  exact ⟨_, rfl, _, _, _, [], _, [], hW', trodAll_mk1 (shut_bool Tryd.underlying4 _), (trodAll_cons_mk (Below.trod laidOut (by kernel_rfl) (of_decide_eq_true (by kernel_rfl)) k0 bel lt0) (trodAll_cons_mk (Below.trod laidOut (by kernel_rfl) (of_decide_eq_true (by kernel_rfl)) k1 bel lt1) (trodAll_cons_mk (Below.trod laidOut (by kernel_rfl) (of_decide_eq_true (by kernel_rfl)) k2 bel lt2) trodAll_mk0))), rfl, bel.frame _, fun h => by cases h⟩
theorem over : Rows.topBlocksRow.holds Tryd.pinned (OpenSpec.ofChange Rows.topBlocksSpec) :=
  OpenClaim.holds_of_wide 3 Tryd.f3 rfl rfl rfl rfl rfl rfl rfl ⟨rfl, rfl, rfl, rfl, rfl⟩ rfl rfl rfl rfl rfl (by kernel_rfl) Tryd.func3 (by kernel_rfl)
    (of_decide_eq_true (by kernel_rfl)) (by unfold Func.isWrapper; first | (rw [if_pos (by decide +kernel)]; kernel_rfl) | (rw [if_neg (by decide +kernel)]; exact ⟨rfl, rfl⟩))
    (fun os started H enc _ => lifted os started H enc)
theorem proved : Rows.TopBlocksSaid := over
#print axioms proved
end Go.Proofs.YtegblcdnmcnngaaDoor.topBlocks
namespace Go.Proofs.YtegblcdnmcnngaaDoor
theorem topBlocks_card : Rows.TopBlocksCardSaid :=
  Claim7.holds_tied_plain_at .later [] [.data, .pinned] true (true, "1eb1b91d6a3ae49203975455610af0f0117099781c22da46dce829279cdbd562") false
    topBlocks.proved (fun _ h => by cases h) (by kernel_rfl) (fun _ h => by cases h) topBlocks_row_tie rfl ⟨rfl, rfl⟩ (by kernel_rfl) rfl
    (fun f fn hf hfn => by
      obtain rfl : f = 3 := Option.some.inj ((show Tryd.prog.funcNamed "crossbar/crossbartop.TopBlocks" = some 3 by kernel_rfl).symm.trans hf) |>.symm
      obtain rfl : fn = Tryd.f3 := (Option.some.inj (Tryd.func3.symm.trans hfn)).symm
      exact ⟨by kernel_rfl, fun j t ht => by
        rw [Tryd.params3] at ht
        have hm : t ∈ [22, 5, 9] := by simpa using Array.mem_of_getElem? ht
        have hall : ([22, 5, 9].all fun u => !Tryd.prog.wantsStandIn u) = true := by kernel_rfl
        exact (show Tryd.prog.wantsStandIn t = false by simpa using List.all_eq_true.1 hall t hm)⟩)
    (by kernel_rfl)
end Go.Proofs.YtegblcdnmcnngaaDoor
