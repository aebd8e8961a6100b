/-
  DERIVED. GIVEN WITH THE SEED: THE CARDS: each row of YtegblcdnmcnngaaDoorRows.lean that lists a variable, with what it lists TIED to the program's text (the seventh form; the later family's looks); each row that meets fmt, with fmt's text TOLD by the authors' own Lean function (tested against real Go, not proved from fmt's source: count such statements apart). THE CARD IS WHAT COUNTS. Prove the row's statement (the work); the ties are given (YtegblcdnmcnngaaDoorTie.lean); close each card by the builder's one call (the guide's Derived/Test/ToyasCard.lean, 'card_holds'). Laid BY PROGRAM, IN A SANDBOX (cutbox-door.mjs). By AI agents, Wed Nov 11 2026. No macro, syntax, notation, axiom, sorry.
-/
import Derived.Test.YtegblcdnmcnngaaDoorRows
import GoSem.ClaimSeven
namespace Go.Proofs.YtegblcdnmcnngaaDoor
namespace Rows

/-- THE TIED CARD OF 'crossbartop.TopBlocks'. -/
def topBlocksCard : Claim7 := { stood := { row := topBlocksRow, standIns := [], harness := (true, "1eb1b91d6a3ae49203975455610af0f0117099781c22da46dce829279cdbd562"), looks := false }, kinds := [], alts := [], laidByText := true, laidKinds := [.data, .pinned], laidTests := true, laidLooks := .later }
def TopBlocksCardSaid : Prop := Claim7.holds Tryd.pinned (.plain (OpenSpec.ofChange topBlocksSpec)) topBlocksCard

/-- THE SECOND FORM's CARD OF 'crossbartop.TopBlocks'. -/
def topBlocksUptoCard : Claim7 := { stood := { row := topBlocksUptoRow, standIns := [], harness := (true, "1eb1b91d6a3ae49203975455610af0f0117099781c22da46dce829279cdbd562"), looks := false }, kinds := [], alts := [], laidByText := true, laidKinds := [.data, .pinned], laidTests := true, laidLooks := .later }
def TopBlocksUptoCardSaid : Prop := Claim7.holds Tryd.pinned (.plain (OpenSpec.upto topBlocksSpec)) topBlocksUptoCard
end Rows
end Go.Proofs.YtegblcdnmcnngaaDoor
