/- The law 'OverloadAdmitsEmergencyNumbers' of the given Go program: for every input it returns true and leaves its arguments as they were. No condition beyond the row's own. -/
import Derived.Test.YtpmkbpphlokbjaaDoorRows
import Derived.Test.YtpmkbpphlokbjaaDoorOpen
import Derived.Test.YtpmkbpphlokbjaaDoorTie
import Derived.Test.YtpmkbpphlokbjaaDoorCards
import Derived.Test.YtpmkbpphlokbjaaDoorEE
import Derived.WalkKit
import Derived.ProofKit
import Derived.OpenShut
import Derived.ShutString
import Derived.ChangeOld
import Derived.ChangeMaps5
import Derived.Below
import Derived.SizedLaws
import Derived.Lib.SmallJoins
import Derived.Deep.Slices
import Derived.Deep.Fields
import Derived.ChangeSame
import Derived.LaidMore
import Derived.Lay
import Derived.SevenTiedAt
import Derived.Stop.Joined
namespace Go.Proofs.YtpmkbpphlokbjaaDoor.overloadAdmitsEmergencyNumbers
open Go.ChangeShapes Go.WideShapes Go.ChangeAt Go.RowKit
open Go.ChangeMaps (open_string shut_string)
set_option linter.unusedVariables false
set_option linter.unusedSimpArgs false
theorem own : ownKnob Tryd.prog.godebug = none := by kernel_rfl
theorem laidOut : laidOutB Tryd.prog = true := by kernel_rfl
theorem openedRules {H : Type} {enc : TypeId × Value → H} {W : World} {sp : Nat → Bool} {held : Bool} {a : Option Addr} {len cap : Nat} {d : DataW H} {ps : List MemPlace} (h : DataW.Trod enc Tryd.prog W 0 sp held 22 (.slice a len cap) d ps) :
    ∃ l : List EM.Rl, l.length = len ∧ len ≤ cap ∧ len ≤ 9223372036854775807 ∧ EM.Rules W a l := by
  obtain ⟨fuel, hf⟩ := h
  rcases YtpmkbpphlokbjaaDoorOpen.open_slice_fields Tryd.underlying22 Tryd.underlying32 (by kernel_rfl) (by kernel_rfl) hf with ⟨hcs, _⟩ | ⟨x, l, c, m, D, Pl, hcs, _, hl, hm, hmm, hx, hi⟩
  · simp [Value.cells] at hcs
    obtain ⟨rfl, rfl, rfl⟩ := hcs
    exact ⟨[], rfl, Nat.le_refl _, by omega, fun i r hr => by simp at hr⟩
  · simp [Value.cells] at hcs
    obtain ⟨rfl, rfl, rfl⟩ := hcs
    have hlm : len ≤ m := by rw [hmm]; split <;> omega
    have hq : ∀ i, i < len → ∃ x0 : EM.Rl, EM.RuleAt W (x.add (i * 4)) x0 := by
      intro i hil
      obtain ⟨ys, n', _, _, _, hf'⟩ := hi i (by omega)
      obtain ⟨v0, y0, hc0, _, ht0⟩ := hf' 0 _ rfl
      obtain ⟨b0, e0, _, w0⟩ := DataW.trod_string Tryd.underlying9 ht0
      simp at e0; subst e0
      obtain ⟨v1, y1, hc1, _, ht1⟩ := hf' 1 _ rfl
      obtain ⟨b1, e1, _, w1⟩ := DataW.trod_int Tryd.underlying3 ht1
      simp at e1; subst e1
      obtain ⟨v2, y2, hc2, _, ht2⟩ := hf' 2 _ rfl
      obtain ⟨b2, e2, _, w2⟩ := DataW.trod_int Tryd.underlying3 ht2
      simp at e2; subst e2
      obtain ⟨v3, y3, hc3, _, ht3⟩ := hf' 3 _ rfl
      obtain ⟨b3, e3, _, w3⟩ := DataW.trod_int Tryd.underlying3 ht3
      simp at e3; subst e3
      exact ⟨⟨b0, b1, b2, b3⟩, hc0, by rw [← EM.add_form x (i * 4) 0]; exact hc1, by rw [← EM.add_form x (i * 4) 1]; exact hc2, by rw [← EM.add_form x (i * 4) 2]; exact hc3, w0⟩
    obtain ⟨l, hll, hlq⟩ := YtpmkbpphlokbjaaDoorOpen.list_from len _ hq
    exact ⟨l, hll, hl, by simp only [maxLen] at hm; omega, fun i r hr => ⟨x, rfl, hlq i r hr⟩⟩
set_option maxRecDepth 100000 in
theorem lifted (os : Os) (started : os.Started) (H : Type) (enc : TypeId × Value → H) :
    ReturnsInHanded {} Tryd.checked os 3 .any (fun w args => (Rows.overloadAdmitsEmergencyNumbersSpec.pre enc Tryd.prog Tryd.f3 [] false w args ∧ laidMetH Tryd.prog Rows.overloadAdmitsEmergencyNumbersRow.laid w) ∧ sizedMet enc Tryd.prog Tryd.f3 (OpenSpec.ofChange Rows.overloadAdmitsEmergencyNumbersSpec) false w args) (Rows.overloadAdmitsEmergencyNumbersSpec.post enc Tryd.prog Tryd.f3 false true false false) := by
  refine returnsInHanded_of_change_and (C := Tryd.checked) (X := fun w _ => laidMetH Tryd.prog Rows.overloadAdmitsEmergencyNumbersRow.laid w) (fun _ _ _ hh h => h.of_heap hh) own started (by kernel_rfl) Tryd.func3
    (ChangeSpec.witness_shaped (enc := enc) (C := Tryd.checked) (os := os) (X := fun w _ => laidMetH Tryd.prog Rows.overloadAdmitsEmergencyNumbersRow.laid w) false (World.laidAll Tryd.prog os Rows.overloadAdmitsEmergencyNumbersRow.laid) #[.slice none 0 0, .string ⟨#[]⟩, .agg #[.int .i64 0, .int .i64 0, .int .i64 0, .int .i64 0], .int .i64 0] 8 (World.laidAll_os _ _ _) (World.shaped_of_ZipB (by kernel_rfl) (by kernel_rfl)) (by kernel_rfl) (by kernel_rfl) (by kernel_rfl)
      (by rw [MakeChecks.laidMetH_plain _ _ _ (by kernel_rfl)]; exact laidMet_laidAll _ (by kernel_rfl) (by kernel_rfl))) ?_
  intro W base args ds gs before hval0 hW hcnd hsz0 hL _
  have hval : ∀ (j : Nat) t v, Tryd.f3.params[j]? = some t → args[j]? = some v → Value.okWide Tryd.prog W .any base t v := hval0
  have hW' := hW
  obtain ⟨p, q, hA0, hV, rfl, hfz, hnd⟩ := hW
  have hA : DataW.TrodAll enc Tryd.prog W 0 (fun _ => true) true Tryd.f3.params.toList args.toList ds p := hA0
  rw [Tryd.params3] at hA hval
  obtain ⟨v0, vs0, d0, ds0, p0, q0, hargs, rfl, rfl, h0, r0⟩ := trodAll_cons hA
  obtain ⟨v1, vs1, d1, ds1, p1, q1, rfl, rfl, rfl, h1, r1⟩ := trodAll_cons r0
  obtain ⟨v2, vs2, d2, ds2, p2, q2, rfl, rfl, rfl, h2, r2⟩ := trodAll_cons r1
  obtain ⟨v3, vs3, d3, ds3, p3, q3, rfl, rfl, rfl, h3, r3⟩ := trodAll_cons r2
  obtain ⟨rfl, rfl, rfl⟩ := trodAll_nil r3
  obtain rfl : args = #[v0, v1, v2, v3] := by cases args; simp_all
  obtain ⟨rfl, rfl⟩ := trodVars_none hV
  have k0 := h0
  have lt0 : ∀ x ∈ p0, x.block < W.heap.size := by obtain ⟨m, hm⟩ := k0; exact DataW.trod_lt m _ _ _ hm
  obtain ⟨a0, len0, cap0, rfl⟩ := okWide_slice Tryd.underlying22 (hval 0 22 v0 rfl rfl)
  obtain ⟨l0, hl0, hc0, hm0, hr0⟩ := openedRules h0
  subst hl0
  have k1 := h1
  have lt1 : ∀ x ∈ p1, x.block < W.heap.size := by obtain ⟨m, hm⟩ := k1; exact DataW.trod_lt m _ _ _ hm
  obtain ⟨s1, rfl, hd1, hp1, hs1⟩ := open_string Tryd.underlying9 (hval 1 9 v1 rfl rfl) h1
  have k2 := h2
  have lt2 : ∀ x ∈ p2, x.block < W.heap.size := by obtain ⟨m, hm⟩ := k2; exact DataW.trod_lt m _ _ _ hm
  obtain ⟨c2_0, c2_1, c2_2, c2_3, y2_0, y2_1, y2_2, y2_3, n2, rfl, hd2, hp2, hy2_0, hy2_1, hy2_2, hy2_3⟩ := Go.Joins.open_agg4 Tryd.underlying24 (by kernel_rfl) (by kernel_rfl) (hval 2 24 v2 rfl rfl) h2
  obtain ⟨a2_0, e2_0, _, w2_0⟩ := DataW.trod_int Tryd.underlying3 hy2_0
  simp at e2_0; subst e2_0
  obtain ⟨a2_1, e2_1, _, w2_1⟩ := DataW.trod_int Tryd.underlying3 hy2_1
  simp at e2_1; subst e2_1
  obtain ⟨a2_2, e2_2, _, w2_2⟩ := DataW.trod_int Tryd.underlying3 hy2_2
  simp at e2_2; subst e2_2
  obtain ⟨a2_3, e2_3, _, w2_3⟩ := DataW.trod_int Tryd.underlying3 hy2_3
  simp at e2_3; subst e2_3
  have k3 := h3
  have lt3 : ∀ x ∈ p3, x.block < W.heap.size := by obtain ⟨m, hm⟩ := k3; exact DataW.trod_lt m _ _ _ hm
  obtain ⟨a3, rfl, hd3, hp3, w3⟩ := open_int Tryd.underlying3 (hval 3 3 v3 rfl rfl) h3
  refine (EM.law3 a2_0 a2_1 a2_2 a2_3 a3 hr0 hc0 hm0 (by simpa [maxLen] using hs1)).mono fun e W' ⟨he, bel⟩ => ?_
  subst he
  exact ⟨_, rfl, _, _, _, [], _, [], hW', trodAll_mk1 (shut_bool Tryd.underlying4 _), (trodAll_cons_mk (Below.trod laidOut (by kernel_rfl) (of_decide_eq_true (by kernel_rfl)) k0 bel lt0) (trodAll_cons_mk (Below.trod laidOut (by kernel_rfl) (of_decide_eq_true (by kernel_rfl)) k1 bel lt1) (trodAll_cons_mk (Below.trod laidOut (by kernel_rfl) (of_decide_eq_true (by kernel_rfl)) k2 bel lt2) (trodAll_cons_mk (Below.trod laidOut (by kernel_rfl) (of_decide_eq_true (by kernel_rfl)) k3 bel lt3) trodAll_mk0)))), rfl, bel.frame _, fun h => by cases h⟩
theorem over : Rows.overloadAdmitsEmergencyNumbersRow.holds Tryd.pinned (OpenSpec.ofChange Rows.overloadAdmitsEmergencyNumbersSpec) :=
  OpenClaim.holds_of_wide 3 Tryd.f3 rfl rfl rfl rfl rfl rfl rfl ⟨rfl, rfl, rfl, rfl, rfl⟩ rfl rfl rfl rfl rfl (by kernel_rfl) Tryd.func3 (by kernel_rfl)
    (of_decide_eq_true (by kernel_rfl)) (by unfold Func.isWrapper; first | (rw [if_pos (by decide +kernel)]; kernel_rfl) | (rw [if_neg (by decide +kernel)]; exact ⟨rfl, rfl⟩))
    (fun os started H enc _ => lifted os started H enc)
theorem proved : Rows.OverloadAdmitsEmergencyNumbersSaid := over
#print axioms proved
end Go.Proofs.YtpmkbpphlokbjaaDoor.overloadAdmitsEmergencyNumbers
namespace Go.Proofs.YtpmkbpphlokbjaaDoor
theorem overloadAdmitsEmergencyNumbers_card : Rows.OverloadAdmitsEmergencyNumbersCardSaid :=
  Claim7.holds_tied_plain_at .later [] [.data, .pinned] true (true, "61abdc06f9f23414bca169814905d56513b7042de4ef26fbaea901bf32a679a5") false
    overloadAdmitsEmergencyNumbers.proved (fun _ h => by cases h) (by kernel_rfl) (fun _ h => by cases h) overloadAdmitsEmergencyNumbers_row_tie rfl ⟨rfl, rfl⟩ (by kernel_rfl) rfl
    (fun f fn hf hfn => by
      obtain rfl : f = 3 := Option.some.inj ((show Tryd.prog.funcNamed "crossbar/crossbarlaw32.OverloadAdmitsEmergencyNumbers" = some 3 by kernel_rfl).symm.trans hf) |>.symm
      obtain rfl : fn = Tryd.f3 := (Option.some.inj (Tryd.func3.symm.trans hfn)).symm
      exact ⟨by kernel_rfl, fun j t ht => by
        rw [Tryd.params3] at ht
        have hm : t ∈ [22, 9, 24, 3] := by simpa using Array.mem_of_getElem? ht
        have hall : ([22, 9, 24, 3].all fun u => !Tryd.prog.wantsStandIn u) = true := by kernel_rfl
        exact (show Tryd.prog.wantsStandIn t = false by simpa using List.all_eq_true.1 hall t hm)⟩)
    (by kernel_rfl)
end Go.Proofs.YtpmkbpphlokbjaaDoor
