/-
  NARROWER THAN 'FOR EVERY INPUT', by the rows' own cells (each row's printed sentence says how): TerminateStepSpec: laid · TerminateRunSpec: laid · TerminateRunSplits: laid · TerminateResourcesFollowState: laid · TerminateReturnsToIdle: laid · TerminateRefusesSecondCall: laid · TerminateBackwardMessages: laid · TerminateTimerQueue: laid · TerminateCoupledCall: laid.
  DERIVED. THE GIVEN ROWS OF THIS SEAT. 9 by the template 'for every input the law returns true; each argument reads behind the call as it read before'; 0 by the template 'total and deterministic' (their statements: YtenaokgcljpcgaaDoorTotals.lean).
  GIVEN WITH THE SEED: the statements are not yours to turn. If you find one false, say at which input.
  Laid BY PROGRAM, IN A SANDBOX (cutbox-rows.mjs): the forced cells as the released guide's own fill.sh prints them over the translation 2523a495050cab4b… (all of the seat's roots in one cut). By AI agents, Wed Nov 11 2026. No macro, syntax, notation, axiom, sorry.
-/
import Derived.Test.YtenaokgcljpcgaaDoorChecked
import GoSem.PinnedTables
import GoSem.Claim
import GoSem.ClaimJoined
import GoSem.ClaimMapViews
import Derived.JoinedTies
import Derived.KernelRfl
namespace Go.Proofs.YtenaokgcljpcgaaDoor
/- THE CELL 'sum', in the pinned program and in every row, IS THE sha256 OF THE DUMP (.gsa) THAT YtenaokgcljpcgaaDoorProg.lean LOADS. Nothing in Lean hashes anything: it is a label: what it is worth is what the hold of that sum in a sandbox is worth. -/
noncomputable def Tryd.pinned : Pinned := { name := "ytenaokgcljpcgaadoor", sum := "2523a495050cab4b125646e6b309557f2096ea2f174dc0929db7f480100df256", checked := Tryd.checked }
namespace Rows
def none {H : Type} : Left H := { results := [], args := [] }

/- WHAT THE LISTED PACKAGE-LEVEL VARIABLES READ AS WHEN THE CALL BEGINS. Each datum BY PROGRAM (the guide's laid-datum.mjs) off the statement by which the dump's own 'gosem.cut.vars' lays the variable. In a bare row this is a premise. The card (YtenaokgcljpcgaaDoorCards.lean) ties it to the program's text. -/
def laid_crossbar_terminate_table {H : Type} : DataW H := .agg [.agg [.lit (.int .i64 0), .lit (.int .i64 10), .agg [.agg [.lit (.int .i64 11), .lit (.int .i64 0), .lit (.string []), .lit (.int .i64 0)], .agg [.lit (.int .i64 13), .lit (.int .i64 0), .lit (.string []), .lit (.int .i64 0)], .agg [.lit (.int .i64 9), .lit (.int .i64 0), .lit (.string []), .lit (.int .i64 30)]], .lit (.int .i64 1)], .agg [.lit (.int .i64 1), .lit (.int .i64 1), .agg [.agg [.lit (.int .i64 12), .lit (.int .i64 0), .lit (.string []), .lit (.int .i64 0)], .agg [.lit (.int .i64 10), .lit (.int .i64 0), .lit (.string []), .lit (.int .i64 0)], .agg [.lit (.int .i64 14), .lit (.int .i64 0), .lit (.string []), .lit (.int .i64 0)]], .lit (.int .i64 2)], .agg [.lit (.int .i64 1), .lit (.int .i64 11), .agg [.agg [.lit (.int .i64 12), .lit (.int .i64 0), .lit (.string []), .lit (.int .i64 0)], .agg [.lit (.int .i64 10), .lit (.int .i64 0), .lit (.string []), .lit (.int .i64 0)], .agg [.lit (.int .i64 0), .lit (.int .i64 0), .lit (.string []), .lit (.int .i64 0)]], .lit (.int .i64 0)], .agg [.lit (.int .i64 1), .lit (.int .i64 9), .agg [.agg [.lit (.int .i64 12), .lit (.int .i64 0), .lit (.string []), .lit (.int .i64 0)], .agg [.lit (.int .i64 10), .lit (.int .i64 0), .lit (.string []), .lit (.int .i64 0)], .agg [.lit (.int .i64 0), .lit (.int .i64 0), .lit (.string []), .lit (.int .i64 0)]], .lit (.int .i64 0)], .agg [.lit (.int .i64 1), .lit (.int .i64 4), .agg [.agg [.lit (.int .i64 12), .lit (.int .i64 0), .lit (.string []), .lit (.int .i64 0)], .agg [.lit (.int .i64 17), .lit (.int .i64 19), .lit (.string []), .lit (.int .i64 0)], .agg [.lit (.int .i64 0), .lit (.int .i64 0), .lit (.string []), .lit (.int .i64 0)]], .lit (.int .i64 0)], .agg [.lit (.int .i64 2), .lit (.int .i64 2), .agg [.agg [.lit (.int .i64 15), .lit (.int .i64 0), .lit (.string []), .lit (.int .i64 0)], .agg [.lit (.int .i64 9), .lit (.int .i64 0), .lit (.string []), .lit (.int .i64 15)], .agg [.lit (.int .i64 0), .lit (.int .i64 0), .lit (.string []), .lit (.int .i64 0)]], .lit (.int .i64 3)], .agg [.lit (.int .i64 2), .lit (.int .i64 9), .agg [.agg [.lit (.int .i64 3), .lit (.int .i64 0), .lit (.string []), .lit (.int .i64 0)], .agg [.lit (.int .i64 0), .lit (.int .i64 0), .lit (.string []), .lit (.int .i64 0)], .agg [.lit (.int .i64 0), .lit (.int .i64 0), .lit (.string []), .lit (.int .i64 0)]], .lit (.int .i64 4)], .agg [.lit (.int .i64 3), .lit (.int .i64 1), .agg [.agg [.lit (.int .i64 10), .lit (.int .i64 0), .lit (.string []), .lit (.int .i64 0)], .agg [.lit (.int .i64 16), .lit (.int .i64 0), .lit (.string []), .lit (.int .i64 0)], .agg [.lit (.int .i64 0), .lit (.int .i64 0), .lit (.string []), .lit (.int .i64 0)]], .lit (.int .i64 2)], .agg [.lit (.int .i64 3), .lit (.int .i64 12), .agg [.agg [.lit (.int .i64 7), .lit (.int .i64 16), .lit (.string []), .lit (.int .i64 0)], .agg [.lit (.int .i64 0), .lit (.int .i64 0), .lit (.string []), .lit (.int .i64 0)], .agg [.lit (.int .i64 0), .lit (.int .i64 0), .lit (.string []), .lit (.int .i64 0)]], .lit (.int .i64 0)], .agg [.lit (.int .i64 3), .lit (.int .i64 9), .agg [.agg [.lit (.int .i64 10), .lit (.int .i64 0), .lit (.string []), .lit (.int .i64 0)], .agg [.lit (.int .i64 0), .lit (.int .i64 0), .lit (.string []), .lit (.int .i64 0)], .agg [.lit (.int .i64 0), .lit (.int .i64 0), .lit (.string []), .lit (.int .i64 0)]], .lit (.int .i64 0)], .agg [.lit (.int .i64 4), .lit (.int .i64 2), .agg [.agg [.lit (.int .i64 2), .lit (.int .i64 0), .lit (.string []), .lit (.int .i64 0)], .agg [.lit (.int .i64 0), .lit (.int .i64 0), .lit (.string []), .lit (.int .i64 0)], .agg [.lit (.int .i64 0), .lit (.int .i64 0), .lit (.string []), .lit (.int .i64 0)]], .lit (.int .i64 0)]]
def laid_unicode_utf8_acceptRanges {H : Type} : DataW H := .agg [.agg [.lit (.int .u8 128), .lit (.int .u8 191)], .agg [.lit (.int .u8 160), .lit (.int .u8 191)], .agg [.lit (.int .u8 128), .lit (.int .u8 159)], .agg [.lit (.int .u8 144), .lit (.int .u8 191)], .agg [.lit (.int .u8 128), .lit (.int .u8 143)], .agg [.lit (.int .u8 0), .lit (.int .u8 0)], .agg [.lit (.int .u8 0), .lit (.int .u8 0)], .agg [.lit (.int .u8 0), .lit (.int .u8 0)], .agg [.lit (.int .u8 0), .lit (.int .u8 0)], .agg [.lit (.int .u8 0), .lit (.int .u8 0)], .agg [.lit (.int .u8 0), .lit (.int .u8 0)], .agg [.lit (.int .u8 0), .lit (.int .u8 0)], .agg [.lit (.int .u8 0), .lit (.int .u8 0)], .agg [.lit (.int .u8 0), .lit (.int .u8 0)], .agg [.lit (.int .u8 0), .lit (.int .u8 0)], .agg [.lit (.int .u8 0), .lit (.int .u8 0)]]
/-- One of Go's own tables, pinned by name: the form's constant. -/
def laid_unicode_utf8_first : DataW Unit := Go.Pinned.utf8First

/-- 'crossbarlaw17.TerminateStepSpec': WHATEVER THE INPUT: true; the input reads as it did. -/
def terminateStepSpecSpec : ChangeSpec := { name := "terminateStepSpec", fn := fun _ => fun
  | [d1, d2] => { results := [.lit (.bool true)], args := [d1, d2] }
  | _ => none }
def terminateStepSpecRow : OpenClaim := { program := "ytenaokgcljpcgaadoor", sum := "2523a495050cab4b125646e6b309557f2096ea2f174dc0929db7f480100df256", func := "crossbar/crossbarlaw17.TerminateStepSpec", spec := "terminateStepSpec", named := ["crossbar/terminate.table"], plainKeys := false, apart := false, laid := [("crossbar/terminate.table", laid_crossbar_terminate_table)] }
def TerminateStepSpecSaid : Prop := terminateStepSpecRow.holds Tryd.pinned (OpenSpec.ofChange terminateStepSpecSpec)

/-- ITS FALSE NEIGHBOUR: 'it returns false'. Refute it at one input. -/
def terminateStepSpecWrong : ChangeSpec := { name := "terminateStepSpec", fn := fun _ => fun
  | [d1, d2] => { results := [.lit (.bool false)], args := [d1, d2] }
  | _ => none }
def TerminateStepSpecWrongFalsely : Prop := terminateStepSpecRow.holds Tryd.pinned (OpenSpec.ofChange terminateStepSpecWrong)

/-- 'crossbarlaw17.TerminateRunSpec': WHATEVER THE INPUT: true; the input reads as it did. -/
def terminateRunSpecSpec : ChangeSpec := { name := "terminateRunSpec", fn := fun _ => fun
  | [d1, d2] => { results := [.lit (.bool true)], args := [d1, d2] }
  | _ => none }
def terminateRunSpecRow : OpenClaim := { program := "ytenaokgcljpcgaadoor", sum := "2523a495050cab4b125646e6b309557f2096ea2f174dc0929db7f480100df256", func := "crossbar/crossbarlaw17.TerminateRunSpec", spec := "terminateRunSpec", named := ["crossbar/terminate.table"], plainKeys := false, apart := false, laid := [("crossbar/terminate.table", laid_crossbar_terminate_table)] }
def TerminateRunSpecSaid : Prop := terminateRunSpecRow.holds Tryd.pinned (OpenSpec.ofChange terminateRunSpecSpec)

/-- ITS FALSE NEIGHBOUR: 'it returns false'. Refute it at one input. -/
def terminateRunSpecWrong : ChangeSpec := { name := "terminateRunSpec", fn := fun _ => fun
  | [d1, d2] => { results := [.lit (.bool false)], args := [d1, d2] }
  | _ => none }
def TerminateRunSpecWrongFalsely : Prop := terminateRunSpecRow.holds Tryd.pinned (OpenSpec.ofChange terminateRunSpecWrong)

/-- 'crossbarlaw17.TerminateRunSplits': WHATEVER THE INPUT: true; the input reads as it did. -/
def terminateRunSplitsSpec : ChangeSpec := { name := "terminateRunSplits", fn := fun _ => fun
  | [d1, d2, d3] => { results := [.lit (.bool true)], args := [d1, d2, d3] }
  | _ => none }
def terminateRunSplitsRow : OpenClaim := { program := "ytenaokgcljpcgaadoor", sum := "2523a495050cab4b125646e6b309557f2096ea2f174dc0929db7f480100df256", func := "crossbar/crossbarlaw17.TerminateRunSplits", spec := "terminateRunSplits", named := ["crossbar/terminate.table"], plainKeys := false, apart := false, laid := [("crossbar/terminate.table", laid_crossbar_terminate_table)] }
def TerminateRunSplitsSaid : Prop := terminateRunSplitsRow.holds Tryd.pinned (OpenSpec.ofChange terminateRunSplitsSpec)

/-- ITS FALSE NEIGHBOUR: 'it returns false'. Refute it at one input. -/
def terminateRunSplitsWrong : ChangeSpec := { name := "terminateRunSplits", fn := fun _ => fun
  | [d1, d2, d3] => { results := [.lit (.bool false)], args := [d1, d2, d3] }
  | _ => none }
def TerminateRunSplitsWrongFalsely : Prop := terminateRunSplitsRow.holds Tryd.pinned (OpenSpec.ofChange terminateRunSplitsWrong)

/-- 'crossbarlaw17.TerminateResourcesFollowState': WHATEVER THE INPUT: true; the input reads as it did. -/
def terminateResourcesFollowStateSpec : ChangeSpec := { name := "terminateResourcesFollowState", fn := fun _ => fun
  | [d] => { results := [.lit (.bool true)], args := [d] }
  | _ => none }
def terminateResourcesFollowStateRow : OpenClaim := { program := "ytenaokgcljpcgaadoor", sum := "2523a495050cab4b125646e6b309557f2096ea2f174dc0929db7f480100df256", func := "crossbar/crossbarlaw17.TerminateResourcesFollowState", spec := "terminateResourcesFollowState", named := ["crossbar/terminate.table"], plainKeys := false, apart := false, laid := [("crossbar/terminate.table", laid_crossbar_terminate_table)] }
def TerminateResourcesFollowStateSaid : Prop := terminateResourcesFollowStateRow.holds Tryd.pinned (OpenSpec.ofChange terminateResourcesFollowStateSpec)

/-- ITS FALSE NEIGHBOUR: 'it returns false'. Refute it at one input. -/
def terminateResourcesFollowStateWrong : ChangeSpec := { name := "terminateResourcesFollowState", fn := fun _ => fun
  | [d] => { results := [.lit (.bool false)], args := [d] }
  | _ => none }
def TerminateResourcesFollowStateWrongFalsely : Prop := terminateResourcesFollowStateRow.holds Tryd.pinned (OpenSpec.ofChange terminateResourcesFollowStateWrong)

/-- 'crossbarlaw17.TerminateReturnsToIdle': WHATEVER THE INPUT: true; the input reads as it did. -/
def terminateReturnsToIdleSpec : ChangeSpec := { name := "terminateReturnsToIdle", fn := fun _ => fun
  | [d1, d2] => { results := [.lit (.bool true)], args := [d1, d2] }
  | _ => none }
def terminateReturnsToIdleRow : OpenClaim := { program := "ytenaokgcljpcgaadoor", sum := "2523a495050cab4b125646e6b309557f2096ea2f174dc0929db7f480100df256", func := "crossbar/crossbarlaw17.TerminateReturnsToIdle", spec := "terminateReturnsToIdle", named := ["crossbar/terminate.table"], plainKeys := false, apart := false, laid := [("crossbar/terminate.table", laid_crossbar_terminate_table)] }
def TerminateReturnsToIdleSaid : Prop := terminateReturnsToIdleRow.holds Tryd.pinned (OpenSpec.ofChange terminateReturnsToIdleSpec)

/-- ITS FALSE NEIGHBOUR: 'it returns false'. Refute it at one input. -/
def terminateReturnsToIdleWrong : ChangeSpec := { name := "terminateReturnsToIdle", fn := fun _ => fun
  | [d1, d2] => { results := [.lit (.bool false)], args := [d1, d2] }
  | _ => none }
def TerminateReturnsToIdleWrongFalsely : Prop := terminateReturnsToIdleRow.holds Tryd.pinned (OpenSpec.ofChange terminateReturnsToIdleWrong)

/-- 'crossbarlaw17.TerminateRefusesSecondCall': WHATEVER THE INPUT: true; the input reads as it did. -/
def terminateRefusesSecondCallSpec : ChangeSpec := { name := "terminateRefusesSecondCall", fn := fun _ => fun
  | [d1, d2] => { results := [.lit (.bool true)], args := [d1, d2] }
  | _ => none }
def terminateRefusesSecondCallRow : OpenClaim := { program := "ytenaokgcljpcgaadoor", sum := "2523a495050cab4b125646e6b309557f2096ea2f174dc0929db7f480100df256", func := "crossbar/crossbarlaw17.TerminateRefusesSecondCall", spec := "terminateRefusesSecondCall", named := ["crossbar/terminate.table"], plainKeys := false, apart := false, laid := [("crossbar/terminate.table", laid_crossbar_terminate_table)] }
def TerminateRefusesSecondCallSaid : Prop := terminateRefusesSecondCallRow.holds Tryd.pinned (OpenSpec.ofChange terminateRefusesSecondCallSpec)

/-- ITS FALSE NEIGHBOUR: 'it returns false'. Refute it at one input. -/
def terminateRefusesSecondCallWrong : ChangeSpec := { name := "terminateRefusesSecondCall", fn := fun _ => fun
  | [d1, d2] => { results := [.lit (.bool false)], args := [d1, d2] }
  | _ => none }
def TerminateRefusesSecondCallWrongFalsely : Prop := terminateRefusesSecondCallRow.holds Tryd.pinned (OpenSpec.ofChange terminateRefusesSecondCallWrong)

/-- 'crossbarlaw17.TerminateBackwardMessages': WHATEVER THE INPUT: true; the input reads as it did. -/
def terminateBackwardMessagesSpec : ChangeSpec := { name := "terminateBackwardMessages", fn := fun _ => fun
  | [d1, d2] => { results := [.lit (.bool true)], args := [d1, d2] }
  | _ => none }
def terminateBackwardMessagesRow : OpenClaim := { program := "ytenaokgcljpcgaadoor", sum := "2523a495050cab4b125646e6b309557f2096ea2f174dc0929db7f480100df256", func := "crossbar/crossbarlaw17.TerminateBackwardMessages", spec := "terminateBackwardMessages", unfollowed := true, recurses := true, named := ["crossbar/terminate.table"], plainKeys := false, apart := false, laid := [("crossbar/terminate.table", laid_crossbar_terminate_table)] }
def TerminateBackwardMessagesSaid : Prop := terminateBackwardMessagesRow.holds Tryd.pinned (OpenSpec.ofChange terminateBackwardMessagesSpec)

/-- ITS FALSE NEIGHBOUR: 'it returns false'. Refute it at one input. -/
def terminateBackwardMessagesWrong : ChangeSpec := { name := "terminateBackwardMessages", fn := fun _ => fun
  | [d1, d2] => { results := [.lit (.bool false)], args := [d1, d2] }
  | _ => none }
def TerminateBackwardMessagesWrongFalsely : Prop := terminateBackwardMessagesRow.holds Tryd.pinned (OpenSpec.ofChange terminateBackwardMessagesWrong)

/-- 'crossbarlaw17.TerminateTimerQueue': WHATEVER THE INPUT: true; the input reads as it did. -/
def terminateTimerQueueSpec : ChangeSpec := { name := "terminateTimerQueue", fn := fun _ => fun
  | [d1, d2] => { results := [.lit (.bool true)], args := [d1, d2] }
  | _ => none }
def terminateTimerQueueRow : OpenClaim := { program := "ytenaokgcljpcgaadoor", sum := "2523a495050cab4b125646e6b309557f2096ea2f174dc0929db7f480100df256", func := "crossbar/crossbarlaw17.TerminateTimerQueue", spec := "terminateTimerQueue", inPlace := ["slices.overlaps[crossbar/api.Timer]"], unfollowed := true, recurses := true, named := ["crossbar/terminate.table"], plainKeys := false, apart := false, laid := [("crossbar/terminate.table", laid_crossbar_terminate_table)] }
def TerminateTimerQueueSaid : Prop := terminateTimerQueueRow.holds Tryd.pinned (OpenSpec.ofChange terminateTimerQueueSpec)

/-- ITS FALSE NEIGHBOUR: 'it returns false'. Refute it at one input. -/
def terminateTimerQueueWrong : ChangeSpec := { name := "terminateTimerQueue", fn := fun _ => fun
  | [d1, d2] => { results := [.lit (.bool false)], args := [d1, d2] }
  | _ => none }
def TerminateTimerQueueWrongFalsely : Prop := terminateTimerQueueRow.holds Tryd.pinned (OpenSpec.ofChange terminateTimerQueueWrong)

/-- 'crossbarlaw17.TerminateCoupledCall': WHATEVER THE INPUT: true; the input reads as it did. -/
def terminateCoupledCallSpec : ChangeSpec := { name := "terminateCoupledCall", fn := fun _ => fun
  | [d] => { results := [.lit (.bool true)], args := [d] }
  | _ => none }
def terminateCoupledCallRow : OpenClaim := { program := "ytenaokgcljpcgaadoor", sum := "2523a495050cab4b125646e6b309557f2096ea2f174dc0929db7f480100df256", func := "crossbar/crossbarlaw17.TerminateCoupledCall", spec := "terminateCoupledCall", inPlace := ["internal/bytealg.IndexByteString", "internal/bytealg.IndexString"], unfollowed := true, recurses := true, named := ["crossbar/terminate.table", "unicode/utf8.first", "unicode/utf8.acceptRanges", "internal/bytealg.MaxLen"], plainKeys := false, apart := false, laid := [("crossbar/terminate.table", laid_crossbar_terminate_table), ("unicode/utf8.acceptRanges", laid_unicode_utf8_acceptRanges), ("unicode/utf8.first", laid_unicode_utf8_first)] }
def TerminateCoupledCallSaid : Prop := terminateCoupledCallRow.holds Tryd.pinned (OpenSpec.ofChange terminateCoupledCallSpec)

/-- ITS FALSE NEIGHBOUR: 'it returns false'. Refute it at one input. -/
def terminateCoupledCallWrong : ChangeSpec := { name := "terminateCoupledCall", fn := fun _ => fun
  | [d] => { results := [.lit (.bool false)], args := [d] }
  | _ => none }
def TerminateCoupledCallWrongFalsely : Prop := terminateCoupledCallRow.holds Tryd.pinned (OpenSpec.ofChange terminateCoupledCallWrong)

/- THE SECOND FORM. 'bulk': how many values and letters a reading holds, each counted each time it is reached (what is shared counts as often as it is met; a slice's spare places count too). A statement '..UptoSaid' is the law's where the arguments, and the package variables that the reading takes, are together of bulk at most 1048576: NARROWER than '..Said'. Prove '..Said' where nothing that the law and all that it calls make is longer than what came in: it says more and counts as full. Else prove '..UptoSaid'. A law counts once. -/
mutual
def uptoBulk {H : Type} : DataW H → Nat
  | .lit (.string bytes) => bytes.length + 1
  | .lit _ => 1
  | .nil => 1
  | .ptr d => uptoBulk d + 1
  | .slice elems spare => uptoBulkAll elems + uptoBulkAll spare + 1
  | .agg parts => uptoBulkAll parts + 1
  | .iface _ d => uptoBulk d + 1
  | .map entries => uptoBulkEntries entries + 1
  | .held _ => 1
def uptoBulkAll {H : Type} : List (DataW H) → Nat
  | [] => 0
  | d :: r => uptoBulk d + uptoBulkAll r
def uptoBulkEntries {H : Type} : List (Lit × DataW H) → Nat
  | [] => 0
  | x :: r => uptoBulkEntry x + uptoBulkEntries r
def uptoBulkEntry {H : Type} : Lit × DataW H → Nat
  | (.string bytes, d) => bytes.length + uptoBulk d + 1
  | (_, d) => uptoBulk d + 1
 end
def uptoSmall : (H : Type) → List (DataW H) → Bool := fun _ ds => decide (uptoBulkAll ds ≤ 1048576)
def OpenSpec.upto (s : _root_.Go.ChangeSpec) : _root_.Go.OpenSpec := { _root_.Go.OpenSpec.ofChange s with cond := some uptoSmall }

/-- 'crossbarlaw17.TerminateStepSpec', WHERE WHAT IT READS IS OF BULK AT MOST 1048576: true; the input reads as it did. -/
def terminateStepSpecUptoRow : OpenClaim := { program := "ytenaokgcljpcgaadoor", sum := "2523a495050cab4b125646e6b309557f2096ea2f174dc0929db7f480100df256", func := "crossbar/crossbarlaw17.TerminateStepSpec", spec := "terminateStepSpec", named := ["crossbar/terminate.table"], plainKeys := false, apart := false, laid := [("crossbar/terminate.table", laid_crossbar_terminate_table)], narrowed := true }
def TerminateStepSpecUptoSaid : Prop := terminateStepSpecUptoRow.holds Tryd.pinned (OpenSpec.upto terminateStepSpecSpec)

/-- 'crossbarlaw17.TerminateRunSpec', WHERE WHAT IT READS IS OF BULK AT MOST 1048576: true; the input reads as it did. -/
def terminateRunSpecUptoRow : OpenClaim := { program := "ytenaokgcljpcgaadoor", sum := "2523a495050cab4b125646e6b309557f2096ea2f174dc0929db7f480100df256", func := "crossbar/crossbarlaw17.TerminateRunSpec", spec := "terminateRunSpec", named := ["crossbar/terminate.table"], plainKeys := false, apart := false, laid := [("crossbar/terminate.table", laid_crossbar_terminate_table)], narrowed := true }
def TerminateRunSpecUptoSaid : Prop := terminateRunSpecUptoRow.holds Tryd.pinned (OpenSpec.upto terminateRunSpecSpec)

/-- 'crossbarlaw17.TerminateRunSplits', WHERE WHAT IT READS IS OF BULK AT MOST 1048576: true; the input reads as it did. -/
def terminateRunSplitsUptoRow : OpenClaim := { program := "ytenaokgcljpcgaadoor", sum := "2523a495050cab4b125646e6b309557f2096ea2f174dc0929db7f480100df256", func := "crossbar/crossbarlaw17.TerminateRunSplits", spec := "terminateRunSplits", named := ["crossbar/terminate.table"], plainKeys := false, apart := false, laid := [("crossbar/terminate.table", laid_crossbar_terminate_table)], narrowed := true }
def TerminateRunSplitsUptoSaid : Prop := terminateRunSplitsUptoRow.holds Tryd.pinned (OpenSpec.upto terminateRunSplitsSpec)

/-- 'crossbarlaw17.TerminateResourcesFollowState', WHERE WHAT IT READS IS OF BULK AT MOST 1048576: true; the input reads as it did. -/
def terminateResourcesFollowStateUptoRow : OpenClaim := { program := "ytenaokgcljpcgaadoor", sum := "2523a495050cab4b125646e6b309557f2096ea2f174dc0929db7f480100df256", func := "crossbar/crossbarlaw17.TerminateResourcesFollowState", spec := "terminateResourcesFollowState", named := ["crossbar/terminate.table"], plainKeys := false, apart := false, laid := [("crossbar/terminate.table", laid_crossbar_terminate_table)], narrowed := true }
def TerminateResourcesFollowStateUptoSaid : Prop := terminateResourcesFollowStateUptoRow.holds Tryd.pinned (OpenSpec.upto terminateResourcesFollowStateSpec)

/-- 'crossbarlaw17.TerminateReturnsToIdle', WHERE WHAT IT READS IS OF BULK AT MOST 1048576: true; the input reads as it did. -/
def terminateReturnsToIdleUptoRow : OpenClaim := { program := "ytenaokgcljpcgaadoor", sum := "2523a495050cab4b125646e6b309557f2096ea2f174dc0929db7f480100df256", func := "crossbar/crossbarlaw17.TerminateReturnsToIdle", spec := "terminateReturnsToIdle", named := ["crossbar/terminate.table"], plainKeys := false, apart := false, laid := [("crossbar/terminate.table", laid_crossbar_terminate_table)], narrowed := true }
def TerminateReturnsToIdleUptoSaid : Prop := terminateReturnsToIdleUptoRow.holds Tryd.pinned (OpenSpec.upto terminateReturnsToIdleSpec)

/-- 'crossbarlaw17.TerminateRefusesSecondCall', WHERE WHAT IT READS IS OF BULK AT MOST 1048576: true; the input reads as it did. -/
def terminateRefusesSecondCallUptoRow : OpenClaim := { program := "ytenaokgcljpcgaadoor", sum := "2523a495050cab4b125646e6b309557f2096ea2f174dc0929db7f480100df256", func := "crossbar/crossbarlaw17.TerminateRefusesSecondCall", spec := "terminateRefusesSecondCall", named := ["crossbar/terminate.table"], plainKeys := false, apart := false, laid := [("crossbar/terminate.table", laid_crossbar_terminate_table)], narrowed := true }
def TerminateRefusesSecondCallUptoSaid : Prop := terminateRefusesSecondCallUptoRow.holds Tryd.pinned (OpenSpec.upto terminateRefusesSecondCallSpec)

/-- 'crossbarlaw17.TerminateBackwardMessages', WHERE WHAT IT READS IS OF BULK AT MOST 1048576: true; the input reads as it did. -/
def terminateBackwardMessagesUptoRow : OpenClaim := { program := "ytenaokgcljpcgaadoor", sum := "2523a495050cab4b125646e6b309557f2096ea2f174dc0929db7f480100df256", func := "crossbar/crossbarlaw17.TerminateBackwardMessages", spec := "terminateBackwardMessages", unfollowed := true, recurses := true, named := ["crossbar/terminate.table"], plainKeys := false, apart := false, laid := [("crossbar/terminate.table", laid_crossbar_terminate_table)], narrowed := true }
def TerminateBackwardMessagesUptoSaid : Prop := terminateBackwardMessagesUptoRow.holds Tryd.pinned (OpenSpec.upto terminateBackwardMessagesSpec)

/-- 'crossbarlaw17.TerminateTimerQueue', WHERE WHAT IT READS IS OF BULK AT MOST 1048576: true; the input reads as it did. -/
def terminateTimerQueueUptoRow : OpenClaim := { program := "ytenaokgcljpcgaadoor", sum := "2523a495050cab4b125646e6b309557f2096ea2f174dc0929db7f480100df256", func := "crossbar/crossbarlaw17.TerminateTimerQueue", spec := "terminateTimerQueue", inPlace := ["slices.overlaps[crossbar/api.Timer]"], unfollowed := true, recurses := true, named := ["crossbar/terminate.table"], plainKeys := false, apart := false, laid := [("crossbar/terminate.table", laid_crossbar_terminate_table)], narrowed := true }
def TerminateTimerQueueUptoSaid : Prop := terminateTimerQueueUptoRow.holds Tryd.pinned (OpenSpec.upto terminateTimerQueueSpec)

/-- 'crossbarlaw17.TerminateCoupledCall', WHERE WHAT IT READS IS OF BULK AT MOST 1048576: true; the input reads as it did. -/
def terminateCoupledCallUptoRow : OpenClaim := { program := "ytenaokgcljpcgaadoor", sum := "2523a495050cab4b125646e6b309557f2096ea2f174dc0929db7f480100df256", func := "crossbar/crossbarlaw17.TerminateCoupledCall", spec := "terminateCoupledCall", inPlace := ["internal/bytealg.IndexByteString", "internal/bytealg.IndexString"], unfollowed := true, recurses := true, named := ["crossbar/terminate.table", "unicode/utf8.first", "unicode/utf8.acceptRanges", "internal/bytealg.MaxLen"], plainKeys := false, apart := false, laid := [("crossbar/terminate.table", laid_crossbar_terminate_table), ("unicode/utf8.acceptRanges", laid_unicode_utf8_acceptRanges), ("unicode/utf8.first", laid_unicode_utf8_first)], narrowed := true }
def TerminateCoupledCallUptoSaid : Prop := terminateCoupledCallUptoRow.holds Tryd.pinned (OpenSpec.upto terminateCoupledCallSpec)

end Rows
end Go.Proofs.YtenaokgcljpcgaaDoor
