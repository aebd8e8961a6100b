/-
  DERIVED. GIVEN WITH THE SEED: THE CARDS: each row of YtpmkbpphlokbjaaDoorRows.lean that lists a variable, with what it lists TIED to the program's text (the seventh form; the later family's looks); each row that meets fmt, with fmt's text TOLD by the authors' own Lean function (tested against real Go, not proved from fmt's source: count such statements apart). THE CARD IS WHAT COUNTS. Prove the row's statement (the work); the ties are given (YtpmkbpphlokbjaaDoorTie.lean); close each card by the builder's one call (the guide's Derived/Test/ToyasCard.lean, 'card_holds'). Laid BY PROGRAM, IN A SANDBOX (cutbox-door.mjs). By AI agents, Wed Nov 11 2026. No macro, syntax, notation, axiom, sorry.
-/
import Derived.Test.YtpmkbpphlokbjaaDoorRows
import GoSem.ClaimSeven
namespace Go.Proofs.YtpmkbpphlokbjaaDoor
namespace Rows

/-- THE TIED CARD OF 'crossbarlaw32.OverloadAdmitsEmergencyNumbers'. -/
def overloadAdmitsEmergencyNumbersCard : Claim7 := { stood := { row := overloadAdmitsEmergencyNumbersRow, standIns := [], harness := (true, "61abdc06f9f23414bca169814905d56513b7042de4ef26fbaea901bf32a679a5"), looks := false }, kinds := [], alts := [], laidByText := true, laidKinds := [.data, .pinned], laidTests := true, laidLooks := .later }
def OverloadAdmitsEmergencyNumbersCardSaid : Prop := Claim7.holds Tryd.pinned (.plain (OpenSpec.ofChange overloadAdmitsEmergencyNumbersSpec)) overloadAdmitsEmergencyNumbersCard

/-- THE SECOND FORM's CARD OF 'crossbarlaw32.OverloadAdmitsEmergencyNumbers'. -/
def overloadAdmitsEmergencyNumbersUptoCard : Claim7 := { stood := { row := overloadAdmitsEmergencyNumbersUptoRow, standIns := [], harness := (true, "61abdc06f9f23414bca169814905d56513b7042de4ef26fbaea901bf32a679a5"), looks := false }, kinds := [], alts := [], laidByText := true, laidKinds := [.data, .pinned], laidTests := true, laidLooks := .later }
def OverloadAdmitsEmergencyNumbersUptoCardSaid : Prop := Claim7.holds Tryd.pinned (.plain (OpenSpec.upto overloadAdmitsEmergencyNumbersSpec)) overloadAdmitsEmergencyNumbersUptoCard
end Rows
end Go.Proofs.YtpmkbpphlokbjaaDoor
