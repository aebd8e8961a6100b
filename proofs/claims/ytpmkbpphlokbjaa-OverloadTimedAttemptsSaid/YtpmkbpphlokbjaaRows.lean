/-
  No cell of these rows narrows 'for every input' (looked for: loops, veiled, ifaces, maps, wideKeys, modest, calm, conditions, laid).
  DERIVED. THE GIVEN ROWS OF THIS SEAT. 7 by the template 'for every input the law returns true; each argument reads behind the call as it read before'; 0 by the template 'total and deterministic' (their statements: YtpmkbpphlokbjaaTotals.lean).
  GIVEN WITH THE SEED: the statements are not yours to turn. If you find one false, say at which input.
  Laid BY PROGRAM, IN A SANDBOX (cutbox-rows.mjs): the forced cells as the released guide's own fill.sh prints them over the translation 4d037a81e83d6011… (all of the seat's roots in one cut). By AI agents, Wed Nov 11 2026. No macro, syntax, notation, axiom, sorry.
-/
import Derived.Test.YtpmkbpphlokbjaaChecked
import GoSem.Claim
import GoSem.ClaimJoined
import GoSem.ClaimMapViews
import Derived.JoinedTies
import Derived.KernelRfl
namespace Go.Proofs.Ytpmkbpphlokbjaa
/- THE CELL 'sum', in the pinned program and in every row, IS THE sha256 OF THE DUMP (.gsa) THAT YtpmkbpphlokbjaaProg.lean LOADS. Nothing in Lean hashes anything: it is a label: what it is worth is what the hold of that sum in a sandbox is worth. -/
noncomputable def Try.pinned : Pinned := { name := "ytpmkbpphlokbjaa", sum := "4d037a81e83d6011a1c3757f672ca38dc1c1b13e495dcd66b4d64b6e7b2cf36d", checked := Try.checked }
namespace Rows
def none {H : Type} : Left H := { results := [], args := [] }

/-- 'crossbarlaw32.OverloadBucketSpec': WHATEVER THE INPUT: true; the input reads as it did. -/
def overloadBucketSpecSpec : ChangeSpec := { name := "overloadBucketSpec", fn := fun _ => fun
  | [d1, d2, d3, d4] => { results := [.lit (.bool true)], args := [d1, d2, d3, d4] }
  | _ => none }
def overloadBucketSpecRow : OpenClaim := { program := "ytpmkbpphlokbjaa", sum := "4d037a81e83d6011a1c3757f672ca38dc1c1b13e495dcd66b4d64b6e7b2cf36d", func := "crossbar/crossbarlaw32.OverloadBucketSpec", spec := "overloadBucketSpec", unfollowed := true, recurses := true, apart := false }
def OverloadBucketSpecSaid : Prop := overloadBucketSpecRow.holds Try.pinned (OpenSpec.ofChange overloadBucketSpecSpec)

/-- ITS FALSE NEIGHBOUR: 'it returns false'. Refute it at one input. -/
def overloadBucketSpecWrong : ChangeSpec := { name := "overloadBucketSpec", fn := fun _ => fun
  | [d1, d2, d3, d4] => { results := [.lit (.bool false)], args := [d1, d2, d3, d4] }
  | _ => none }
def OverloadBucketSpecWrongFalsely : Prop := overloadBucketSpecRow.holds Try.pinned (OpenSpec.ofChange overloadBucketSpecWrong)

/-- 'crossbarlaw32.OverloadAdmitSpec': WHATEVER THE INPUT: true; the input reads as it did. -/
def overloadAdmitSpecSpec : ChangeSpec := { name := "overloadAdmitSpec", fn := fun _ => fun
  | [d1, d2, d3] => { results := [.lit (.bool true)], args := [d1, d2, d3] }
  | _ => none }
def overloadAdmitSpecRow : OpenClaim := { program := "ytpmkbpphlokbjaa", sum := "4d037a81e83d6011a1c3757f672ca38dc1c1b13e495dcd66b4d64b6e7b2cf36d", func := "crossbar/crossbarlaw32.OverloadAdmitSpec", spec := "overloadAdmitSpec", unfollowed := true, recurses := true, apart := false }
def OverloadAdmitSpecSaid : Prop := overloadAdmitSpecRow.holds Try.pinned (OpenSpec.ofChange overloadAdmitSpecSpec)

/-- ITS FALSE NEIGHBOUR: 'it returns false'. Refute it at one input. -/
def overloadAdmitSpecWrong : ChangeSpec := { name := "overloadAdmitSpec", fn := fun _ => fun
  | [d1, d2, d3] => { results := [.lit (.bool false)], args := [d1, d2, d3] }
  | _ => none }
def OverloadAdmitSpecWrongFalsely : Prop := overloadAdmitSpecRow.holds Try.pinned (OpenSpec.ofChange overloadAdmitSpecWrong)

/-- 'crossbarlaw32.OverloadBoundsRate': WHATEVER THE INPUT: true; the input reads as it did. -/
def overloadBoundsRateSpec : ChangeSpec := { name := "overloadBoundsRate", fn := fun _ => fun
  | [d1, d2] => { results := [.lit (.bool true)], args := [d1, d2] }
  | _ => none }
def overloadBoundsRateRow : OpenClaim := { program := "ytpmkbpphlokbjaa", sum := "4d037a81e83d6011a1c3757f672ca38dc1c1b13e495dcd66b4d64b6e7b2cf36d", func := "crossbar/crossbarlaw32.OverloadBoundsRate", spec := "overloadBoundsRate", unfollowed := true, recurses := true, apart := false }
def OverloadBoundsRateSaid : Prop := overloadBoundsRateRow.holds Try.pinned (OpenSpec.ofChange overloadBoundsRateSpec)

/-- ITS FALSE NEIGHBOUR: 'it returns false'. Refute it at one input. -/
def overloadBoundsRateWrong : ChangeSpec := { name := "overloadBoundsRate", fn := fun _ => fun
  | [d1, d2] => { results := [.lit (.bool false)], args := [d1, d2] }
  | _ => none }
def OverloadBoundsRateWrongFalsely : Prop := overloadBoundsRateRow.holds Try.pinned (OpenSpec.ofChange overloadBoundsRateWrong)

/-- 'crossbarlaw32.OverloadWorkConserving': WHATEVER THE INPUT: true; the input reads as it did. -/
def overloadWorkConservingSpec : ChangeSpec := { name := "overloadWorkConserving", fn := fun _ => fun
  | [d1, d2, d3] => { results := [.lit (.bool true)], args := [d1, d2, d3] }
  | _ => none }
def overloadWorkConservingRow : OpenClaim := { program := "ytpmkbpphlokbjaa", sum := "4d037a81e83d6011a1c3757f672ca38dc1c1b13e495dcd66b4d64b6e7b2cf36d", func := "crossbar/crossbarlaw32.OverloadWorkConserving", spec := "overloadWorkConserving", unfollowed := true, recurses := true, apart := false }
def OverloadWorkConservingSaid : Prop := overloadWorkConservingRow.holds Try.pinned (OpenSpec.ofChange overloadWorkConservingSpec)

/-- ITS FALSE NEIGHBOUR: 'it returns false'. Refute it at one input. -/
def overloadWorkConservingWrong : ChangeSpec := { name := "overloadWorkConserving", fn := fun _ => fun
  | [d1, d2, d3] => { results := [.lit (.bool false)], args := [d1, d2, d3] }
  | _ => none }
def OverloadWorkConservingWrongFalsely : Prop := overloadWorkConservingRow.holds Try.pinned (OpenSpec.ofChange overloadWorkConservingWrong)

/-- 'crossbarlaw32.OverloadRefills': WHATEVER THE INPUT: true; the input reads as it did. -/
def overloadRefillsSpec : ChangeSpec := { name := "overloadRefills", fn := fun _ => fun
  | [d1, d2, d3] => { results := [.lit (.bool true)], args := [d1, d2, d3] }
  | _ => none }
def overloadRefillsRow : OpenClaim := { program := "ytpmkbpphlokbjaa", sum := "4d037a81e83d6011a1c3757f672ca38dc1c1b13e495dcd66b4d64b6e7b2cf36d", func := "crossbar/crossbarlaw32.OverloadRefills", spec := "overloadRefills", unfollowed := true, recurses := true, apart := false }
def OverloadRefillsSaid : Prop := overloadRefillsRow.holds Try.pinned (OpenSpec.ofChange overloadRefillsSpec)

/-- ITS FALSE NEIGHBOUR: 'it returns false'. Refute it at one input. -/
def overloadRefillsWrong : ChangeSpec := { name := "overloadRefills", fn := fun _ => fun
  | [d1, d2, d3] => { results := [.lit (.bool false)], args := [d1, d2, d3] }
  | _ => none }
def OverloadRefillsWrongFalsely : Prop := overloadRefillsRow.holds Try.pinned (OpenSpec.ofChange overloadRefillsWrong)

/-- 'crossbarlaw32.OverloadRefusalHarmless': WHATEVER THE INPUT: true; the input reads as it did. -/
def overloadRefusalHarmlessSpec : ChangeSpec := { name := "overloadRefusalHarmless", fn := fun _ => fun
  | [d1, d2, d3] => { results := [.lit (.bool true)], args := [d1, d2, d3] }
  | _ => none }
def overloadRefusalHarmlessRow : OpenClaim := { program := "ytpmkbpphlokbjaa", sum := "4d037a81e83d6011a1c3757f672ca38dc1c1b13e495dcd66b4d64b6e7b2cf36d", func := "crossbar/crossbarlaw32.OverloadRefusalHarmless", spec := "overloadRefusalHarmless", unfollowed := true, recurses := true, apart := false }
def OverloadRefusalHarmlessSaid : Prop := overloadRefusalHarmlessRow.holds Try.pinned (OpenSpec.ofChange overloadRefusalHarmlessSpec)

/-- ITS FALSE NEIGHBOUR: 'it returns false'. Refute it at one input. -/
def overloadRefusalHarmlessWrong : ChangeSpec := { name := "overloadRefusalHarmless", fn := fun _ => fun
  | [d1, d2, d3] => { results := [.lit (.bool false)], args := [d1, d2, d3] }
  | _ => none }
def OverloadRefusalHarmlessWrongFalsely : Prop := overloadRefusalHarmlessRow.holds Try.pinned (OpenSpec.ofChange overloadRefusalHarmlessWrong)

/-- 'crossbarlaw32.OverloadTimedAttempts': WHATEVER THE INPUT: true; the input reads as it did. -/
def overloadTimedAttemptsSpec : ChangeSpec := { name := "overloadTimedAttempts", fn := fun _ => fun
  | [d1, d2, d3] => { results := [.lit (.bool true)], args := [d1, d2, d3] }
  | _ => none }
def overloadTimedAttemptsRow : OpenClaim := { program := "ytpmkbpphlokbjaa", sum := "4d037a81e83d6011a1c3757f672ca38dc1c1b13e495dcd66b4d64b6e7b2cf36d", func := "crossbar/crossbarlaw32.OverloadTimedAttempts", spec := "overloadTimedAttempts", inPlace := ["slices.overlaps[crossbar/api.Timer]"], unfollowed := true, recurses := true, apart := false }
def OverloadTimedAttemptsSaid : Prop := overloadTimedAttemptsRow.holds Try.pinned (OpenSpec.ofChange overloadTimedAttemptsSpec)

/-- ITS FALSE NEIGHBOUR: 'it returns false'. Refute it at one input. -/
def overloadTimedAttemptsWrong : ChangeSpec := { name := "overloadTimedAttempts", fn := fun _ => fun
  | [d1, d2, d3] => { results := [.lit (.bool false)], args := [d1, d2, d3] }
  | _ => none }
def OverloadTimedAttemptsWrongFalsely : Prop := overloadTimedAttemptsRow.holds Try.pinned (OpenSpec.ofChange overloadTimedAttemptsWrong)

/- THE SECOND FORM. 'bulk': how many values and letters a reading holds, each counted each time it is reached (what is shared counts as often as it is met; a slice's spare places count too). A statement '..UptoSaid' is the law's where the arguments, and the package variables that the reading takes, are together of bulk at most 1048576: NARROWER than '..Said'. Prove '..Said' where nothing that the law and all that it calls make is longer than what came in: it says more and counts as full. Else prove '..UptoSaid'. A law counts once. -/
mutual
def uptoBulk {H : Type} : DataW H → Nat
  | .lit (.string bytes) => bytes.length + 1
  | .lit _ => 1
  | .nil => 1
  | .ptr d => uptoBulk d + 1
  | .slice elems spare => uptoBulkAll elems + uptoBulkAll spare + 1
  | .agg parts => uptoBulkAll parts + 1
  | .iface _ d => uptoBulk d + 1
  | .map entries => uptoBulkEntries entries + 1
  | .held _ => 1
def uptoBulkAll {H : Type} : List (DataW H) → Nat
  | [] => 0
  | d :: r => uptoBulk d + uptoBulkAll r
def uptoBulkEntries {H : Type} : List (Lit × DataW H) → Nat
  | [] => 0
  | x :: r => uptoBulkEntry x + uptoBulkEntries r
def uptoBulkEntry {H : Type} : Lit × DataW H → Nat
  | (.string bytes, d) => bytes.length + uptoBulk d + 1
  | (_, d) => uptoBulk d + 1
 end
def uptoSmall : (H : Type) → List (DataW H) → Bool := fun _ ds => decide (uptoBulkAll ds ≤ 1048576)
def OpenSpec.upto (s : _root_.Go.ChangeSpec) : _root_.Go.OpenSpec := { _root_.Go.OpenSpec.ofChange s with cond := some uptoSmall }

/-- 'crossbarlaw32.OverloadBucketSpec', WHERE WHAT IT READS IS OF BULK AT MOST 1048576: true; the input reads as it did. -/
def overloadBucketSpecUptoRow : OpenClaim := { program := "ytpmkbpphlokbjaa", sum := "4d037a81e83d6011a1c3757f672ca38dc1c1b13e495dcd66b4d64b6e7b2cf36d", func := "crossbar/crossbarlaw32.OverloadBucketSpec", spec := "overloadBucketSpec", unfollowed := true, recurses := true, apart := false, narrowed := true }
def OverloadBucketSpecUptoSaid : Prop := overloadBucketSpecUptoRow.holds Try.pinned (OpenSpec.upto overloadBucketSpecSpec)

/-- 'crossbarlaw32.OverloadAdmitSpec', WHERE WHAT IT READS IS OF BULK AT MOST 1048576: true; the input reads as it did. -/
def overloadAdmitSpecUptoRow : OpenClaim := { program := "ytpmkbpphlokbjaa", sum := "4d037a81e83d6011a1c3757f672ca38dc1c1b13e495dcd66b4d64b6e7b2cf36d", func := "crossbar/crossbarlaw32.OverloadAdmitSpec", spec := "overloadAdmitSpec", unfollowed := true, recurses := true, apart := false, narrowed := true }
def OverloadAdmitSpecUptoSaid : Prop := overloadAdmitSpecUptoRow.holds Try.pinned (OpenSpec.upto overloadAdmitSpecSpec)

/-- 'crossbarlaw32.OverloadBoundsRate', WHERE WHAT IT READS IS OF BULK AT MOST 1048576: true; the input reads as it did. -/
def overloadBoundsRateUptoRow : OpenClaim := { program := "ytpmkbpphlokbjaa", sum := "4d037a81e83d6011a1c3757f672ca38dc1c1b13e495dcd66b4d64b6e7b2cf36d", func := "crossbar/crossbarlaw32.OverloadBoundsRate", spec := "overloadBoundsRate", unfollowed := true, recurses := true, apart := false, narrowed := true }
def OverloadBoundsRateUptoSaid : Prop := overloadBoundsRateUptoRow.holds Try.pinned (OpenSpec.upto overloadBoundsRateSpec)

/-- 'crossbarlaw32.OverloadWorkConserving', WHERE WHAT IT READS IS OF BULK AT MOST 1048576: true; the input reads as it did. -/
def overloadWorkConservingUptoRow : OpenClaim := { program := "ytpmkbpphlokbjaa", sum := "4d037a81e83d6011a1c3757f672ca38dc1c1b13e495dcd66b4d64b6e7b2cf36d", func := "crossbar/crossbarlaw32.OverloadWorkConserving", spec := "overloadWorkConserving", unfollowed := true, recurses := true, apart := false, narrowed := true }
def OverloadWorkConservingUptoSaid : Prop := overloadWorkConservingUptoRow.holds Try.pinned (OpenSpec.upto overloadWorkConservingSpec)

/-- 'crossbarlaw32.OverloadRefills', WHERE WHAT IT READS IS OF BULK AT MOST 1048576: true; the input reads as it did. -/
def overloadRefillsUptoRow : OpenClaim := { program := "ytpmkbpphlokbjaa", sum := "4d037a81e83d6011a1c3757f672ca38dc1c1b13e495dcd66b4d64b6e7b2cf36d", func := "crossbar/crossbarlaw32.OverloadRefills", spec := "overloadRefills", unfollowed := true, recurses := true, apart := false, narrowed := true }
def OverloadRefillsUptoSaid : Prop := overloadRefillsUptoRow.holds Try.pinned (OpenSpec.upto overloadRefillsSpec)

/-- 'crossbarlaw32.OverloadRefusalHarmless', WHERE WHAT IT READS IS OF BULK AT MOST 1048576: true; the input reads as it did. -/
def overloadRefusalHarmlessUptoRow : OpenClaim := { program := "ytpmkbpphlokbjaa", sum := "4d037a81e83d6011a1c3757f672ca38dc1c1b13e495dcd66b4d64b6e7b2cf36d", func := "crossbar/crossbarlaw32.OverloadRefusalHarmless", spec := "overloadRefusalHarmless", unfollowed := true, recurses := true, apart := false, narrowed := true }
def OverloadRefusalHarmlessUptoSaid : Prop := overloadRefusalHarmlessUptoRow.holds Try.pinned (OpenSpec.upto overloadRefusalHarmlessSpec)

/-- 'crossbarlaw32.OverloadTimedAttempts', WHERE WHAT IT READS IS OF BULK AT MOST 1048576: true; the input reads as it did. -/
def overloadTimedAttemptsUptoRow : OpenClaim := { program := "ytpmkbpphlokbjaa", sum := "4d037a81e83d6011a1c3757f672ca38dc1c1b13e495dcd66b4d64b6e7b2cf36d", func := "crossbar/crossbarlaw32.OverloadTimedAttempts", spec := "overloadTimedAttempts", inPlace := ["slices.overlaps[crossbar/api.Timer]"], unfollowed := true, recurses := true, apart := false, narrowed := true }
def OverloadTimedAttemptsUptoSaid : Prop := overloadTimedAttemptsUptoRow.holds Try.pinned (OpenSpec.upto overloadTimedAttemptsSpec)

end Rows
end Go.Proofs.Ytpmkbpphlokbjaa
