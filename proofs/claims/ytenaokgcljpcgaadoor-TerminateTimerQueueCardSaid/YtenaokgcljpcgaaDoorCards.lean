/-
  DERIVED. GIVEN WITH THE SEED: THE CARDS: each row of YtenaokgcljpcgaaDoorRows.lean that lists a variable, with what it lists TIED to the program's text (the seventh form; the later family's looks); each row that meets fmt, with fmt's text TOLD by the authors' own Lean function (tested against real Go, not proved from fmt's source: count such statements apart). THE CARD IS WHAT COUNTS. Prove the row's statement (the work); the ties are given (YtenaokgcljpcgaaDoorTie.lean); close each card by the builder's one call (the guide's Derived/Test/ToyasCard.lean, 'card_holds'). Laid BY PROGRAM, IN A SANDBOX (cutbox-door.mjs). By AI agents, Wed Nov 11 2026. No macro, syntax, notation, axiom, sorry.
-/
import Derived.Test.YtenaokgcljpcgaaDoorRows
import GoSem.ClaimSeven
namespace Go.Proofs.YtenaokgcljpcgaaDoor
namespace Rows

/-- THE TIED CARD OF 'crossbarlaw17.TerminateStepSpec'. -/
def terminateStepSpecCard : Claim7 := { stood := { row := terminateStepSpecRow, standIns := [], harness := (true, "20c7cc90487e64e3c99f1e9b53732d9a15acd11beecb07d7fd35ee5243f391ed"), looks := false }, kinds := [], alts := [], laidByText := true, laidKinds := [.data], laidTests := true, laidLooks := .later }
def TerminateStepSpecCardSaid : Prop := Claim7.holds Tryd.pinned (.plain (OpenSpec.ofChange terminateStepSpecSpec)) terminateStepSpecCard

/-- THE TIED CARD OF 'crossbarlaw17.TerminateRunSpec'. -/
def terminateRunSpecCard : Claim7 := { stood := { row := terminateRunSpecRow, standIns := [], harness := (true, "20c7cc90487e64e3c99f1e9b53732d9a15acd11beecb07d7fd35ee5243f391ed"), looks := false }, kinds := [], alts := [], laidByText := true, laidKinds := [.data], laidTests := true, laidLooks := .later }
def TerminateRunSpecCardSaid : Prop := Claim7.holds Tryd.pinned (.plain (OpenSpec.ofChange terminateRunSpecSpec)) terminateRunSpecCard

/-- THE TIED CARD OF 'crossbarlaw17.TerminateRunSplits'. -/
def terminateRunSplitsCard : Claim7 := { stood := { row := terminateRunSplitsRow, standIns := [], harness := (true, "20c7cc90487e64e3c99f1e9b53732d9a15acd11beecb07d7fd35ee5243f391ed"), looks := false }, kinds := [], alts := [], laidByText := true, laidKinds := [.data], laidTests := true, laidLooks := .later }
def TerminateRunSplitsCardSaid : Prop := Claim7.holds Tryd.pinned (.plain (OpenSpec.ofChange terminateRunSplitsSpec)) terminateRunSplitsCard

/-- THE TIED CARD OF 'crossbarlaw17.TerminateResourcesFollowState'. -/
def terminateResourcesFollowStateCard : Claim7 := { stood := { row := terminateResourcesFollowStateRow, standIns := [], harness := (true, "20c7cc90487e64e3c99f1e9b53732d9a15acd11beecb07d7fd35ee5243f391ed"), looks := false }, kinds := [], alts := [], laidByText := true, laidKinds := [.data], laidTests := true, laidLooks := .later }
def TerminateResourcesFollowStateCardSaid : Prop := Claim7.holds Tryd.pinned (.plain (OpenSpec.ofChange terminateResourcesFollowStateSpec)) terminateResourcesFollowStateCard

/-- THE TIED CARD OF 'crossbarlaw17.TerminateReturnsToIdle'. -/
def terminateReturnsToIdleCard : Claim7 := { stood := { row := terminateReturnsToIdleRow, standIns := [], harness := (true, "20c7cc90487e64e3c99f1e9b53732d9a15acd11beecb07d7fd35ee5243f391ed"), looks := false }, kinds := [], alts := [], laidByText := true, laidKinds := [.data], laidTests := true, laidLooks := .later }
def TerminateReturnsToIdleCardSaid : Prop := Claim7.holds Tryd.pinned (.plain (OpenSpec.ofChange terminateReturnsToIdleSpec)) terminateReturnsToIdleCard

/-- THE TIED CARD OF 'crossbarlaw17.TerminateRefusesSecondCall'. -/
def terminateRefusesSecondCallCard : Claim7 := { stood := { row := terminateRefusesSecondCallRow, standIns := [], harness := (true, "20c7cc90487e64e3c99f1e9b53732d9a15acd11beecb07d7fd35ee5243f391ed"), looks := false }, kinds := [], alts := [], laidByText := true, laidKinds := [.data], laidTests := true, laidLooks := .later }
def TerminateRefusesSecondCallCardSaid : Prop := Claim7.holds Tryd.pinned (.plain (OpenSpec.ofChange terminateRefusesSecondCallSpec)) terminateRefusesSecondCallCard

/-- THE TIED CARD OF 'crossbarlaw17.TerminateBackwardMessages'. -/
def terminateBackwardMessagesCard : Claim7 := { stood := { row := terminateBackwardMessagesRow, standIns := [], harness := (true, "20c7cc90487e64e3c99f1e9b53732d9a15acd11beecb07d7fd35ee5243f391ed"), looks := false }, kinds := [], alts := [], laidByText := true, laidKinds := [.data], laidTests := true, laidLooks := .later }
def TerminateBackwardMessagesCardSaid : Prop := Claim7.holds Tryd.pinned (.plain (OpenSpec.ofChange terminateBackwardMessagesSpec)) terminateBackwardMessagesCard

/-- THE TIED CARD OF 'crossbarlaw17.TerminateTimerQueue'. -/
def terminateTimerQueueCard : Claim7 := { stood := { row := terminateTimerQueueRow, standIns := [], harness := (true, "20c7cc90487e64e3c99f1e9b53732d9a15acd11beecb07d7fd35ee5243f391ed"), looks := false }, kinds := [], alts := [], laidByText := true, laidKinds := [.data], laidTests := true, laidLooks := .later }
def TerminateTimerQueueCardSaid : Prop := Claim7.holds Tryd.pinned (.plain (OpenSpec.ofChange terminateTimerQueueSpec)) terminateTimerQueueCard

/-- THE TIED CARD OF 'crossbarlaw17.TerminateCoupledCall'. -/
def terminateCoupledCallCard : Claim7 := { stood := { row := terminateCoupledCallRow, standIns := [], harness := (true, "20c7cc90487e64e3c99f1e9b53732d9a15acd11beecb07d7fd35ee5243f391ed"), looks := false }, kinds := [], alts := [], laidByText := true, laidKinds := [.data, .data, .pinned], laidTests := true, laidLooks := .later }
def TerminateCoupledCallCardSaid : Prop := Claim7.holds Tryd.pinned (.plain (OpenSpec.ofChange terminateCoupledCallSpec)) terminateCoupledCallCard

/-- THE SECOND FORM's CARD OF 'crossbarlaw17.TerminateStepSpec'. -/
def terminateStepSpecUptoCard : Claim7 := { stood := { row := terminateStepSpecUptoRow, standIns := [], harness := (true, "20c7cc90487e64e3c99f1e9b53732d9a15acd11beecb07d7fd35ee5243f391ed"), looks := false }, kinds := [], alts := [], laidByText := true, laidKinds := [.data], laidTests := true, laidLooks := .later }
def TerminateStepSpecUptoCardSaid : Prop := Claim7.holds Tryd.pinned (.plain (OpenSpec.upto terminateStepSpecSpec)) terminateStepSpecUptoCard

/-- THE SECOND FORM's CARD OF 'crossbarlaw17.TerminateRunSpec'. -/
def terminateRunSpecUptoCard : Claim7 := { stood := { row := terminateRunSpecUptoRow, standIns := [], harness := (true, "20c7cc90487e64e3c99f1e9b53732d9a15acd11beecb07d7fd35ee5243f391ed"), looks := false }, kinds := [], alts := [], laidByText := true, laidKinds := [.data], laidTests := true, laidLooks := .later }
def TerminateRunSpecUptoCardSaid : Prop := Claim7.holds Tryd.pinned (.plain (OpenSpec.upto terminateRunSpecSpec)) terminateRunSpecUptoCard

/-- THE SECOND FORM's CARD OF 'crossbarlaw17.TerminateRunSplits'. -/
def terminateRunSplitsUptoCard : Claim7 := { stood := { row := terminateRunSplitsUptoRow, standIns := [], harness := (true, "20c7cc90487e64e3c99f1e9b53732d9a15acd11beecb07d7fd35ee5243f391ed"), looks := false }, kinds := [], alts := [], laidByText := true, laidKinds := [.data], laidTests := true, laidLooks := .later }
def TerminateRunSplitsUptoCardSaid : Prop := Claim7.holds Tryd.pinned (.plain (OpenSpec.upto terminateRunSplitsSpec)) terminateRunSplitsUptoCard

/-- THE SECOND FORM's CARD OF 'crossbarlaw17.TerminateResourcesFollowState'. -/
def terminateResourcesFollowStateUptoCard : Claim7 := { stood := { row := terminateResourcesFollowStateUptoRow, standIns := [], harness := (true, "20c7cc90487e64e3c99f1e9b53732d9a15acd11beecb07d7fd35ee5243f391ed"), looks := false }, kinds := [], alts := [], laidByText := true, laidKinds := [.data], laidTests := true, laidLooks := .later }
def TerminateResourcesFollowStateUptoCardSaid : Prop := Claim7.holds Tryd.pinned (.plain (OpenSpec.upto terminateResourcesFollowStateSpec)) terminateResourcesFollowStateUptoCard

/-- THE SECOND FORM's CARD OF 'crossbarlaw17.TerminateReturnsToIdle'. -/
def terminateReturnsToIdleUptoCard : Claim7 := { stood := { row := terminateReturnsToIdleUptoRow, standIns := [], harness := (true, "20c7cc90487e64e3c99f1e9b53732d9a15acd11beecb07d7fd35ee5243f391ed"), looks := false }, kinds := [], alts := [], laidByText := true, laidKinds := [.data], laidTests := true, laidLooks := .later }
def TerminateReturnsToIdleUptoCardSaid : Prop := Claim7.holds Tryd.pinned (.plain (OpenSpec.upto terminateReturnsToIdleSpec)) terminateReturnsToIdleUptoCard

/-- THE SECOND FORM's CARD OF 'crossbarlaw17.TerminateRefusesSecondCall'. -/
def terminateRefusesSecondCallUptoCard : Claim7 := { stood := { row := terminateRefusesSecondCallUptoRow, standIns := [], harness := (true, "20c7cc90487e64e3c99f1e9b53732d9a15acd11beecb07d7fd35ee5243f391ed"), looks := false }, kinds := [], alts := [], laidByText := true, laidKinds := [.data], laidTests := true, laidLooks := .later }
def TerminateRefusesSecondCallUptoCardSaid : Prop := Claim7.holds Tryd.pinned (.plain (OpenSpec.upto terminateRefusesSecondCallSpec)) terminateRefusesSecondCallUptoCard

/-- THE SECOND FORM's CARD OF 'crossbarlaw17.TerminateBackwardMessages'. -/
def terminateBackwardMessagesUptoCard : Claim7 := { stood := { row := terminateBackwardMessagesUptoRow, standIns := [], harness := (true, "20c7cc90487e64e3c99f1e9b53732d9a15acd11beecb07d7fd35ee5243f391ed"), looks := false }, kinds := [], alts := [], laidByText := true, laidKinds := [.data], laidTests := true, laidLooks := .later }
def TerminateBackwardMessagesUptoCardSaid : Prop := Claim7.holds Tryd.pinned (.plain (OpenSpec.upto terminateBackwardMessagesSpec)) terminateBackwardMessagesUptoCard

/-- THE SECOND FORM's CARD OF 'crossbarlaw17.TerminateTimerQueue'. -/
def terminateTimerQueueUptoCard : Claim7 := { stood := { row := terminateTimerQueueUptoRow, standIns := [], harness := (true, "20c7cc90487e64e3c99f1e9b53732d9a15acd11beecb07d7fd35ee5243f391ed"), looks := false }, kinds := [], alts := [], laidByText := true, laidKinds := [.data], laidTests := true, laidLooks := .later }
def TerminateTimerQueueUptoCardSaid : Prop := Claim7.holds Tryd.pinned (.plain (OpenSpec.upto terminateTimerQueueSpec)) terminateTimerQueueUptoCard

/-- THE SECOND FORM's CARD OF 'crossbarlaw17.TerminateCoupledCall'. -/
def terminateCoupledCallUptoCard : Claim7 := { stood := { row := terminateCoupledCallUptoRow, standIns := [], harness := (true, "20c7cc90487e64e3c99f1e9b53732d9a15acd11beecb07d7fd35ee5243f391ed"), looks := false }, kinds := [], alts := [], laidByText := true, laidKinds := [.data, .data, .pinned], laidTests := true, laidLooks := .later }
def TerminateCoupledCallUptoCardSaid : Prop := Claim7.holds Tryd.pinned (.plain (OpenSpec.upto terminateCoupledCallSpec)) terminateCoupledCallUptoCard
end Rows
end Go.Proofs.YtenaokgcljpcgaaDoor
