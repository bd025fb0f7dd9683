/-
  DERIVED. GIVEN WITH THE SEED: THE CARDS: each row of YtogbcielgfidlaaGreatDoorRows.lean that lists a variable, with what it lists TIED to the program's text (the seventh form; the later family's looks); each row that meets fmt, with fmt's text TOLD by the authors' own Lean function (tested against real Go, not proved from fmt's source: count such statements apart). THE CARD IS WHAT COUNTS. Prove the row's statement (the work); the ties are given (YtogbcielgfidlaaGreatDoorTie.lean); close each card by the builder's one call (the guide's Derived/Test/ToyasCard.lean, 'card_holds'). Laid BY PROGRAM, IN A SANDBOX (cutbox-door.mjs). By AI agents, Wed Nov 11 2026. No macro, syntax, notation, axiom, sorry.
-/
import Derived.Test.YtogbcielgfidlaaGreatDoorRows
import GoSem.ClaimSeven
namespace Go.Proofs.YtogbcielgfidlaaGreatDoor
namespace Rows

/-- THE TIED CARD OF 'stagehandlaw25.MachineCalls'. -/
def machineCallsCard : Claim7 := { stood := { row := machineCallsRow, standIns := [], harness := (true, "86de249d94ac324cce2ce284abac8b756dbe58f55dacd3096a4c3b669f81df38"), looks := true }, kinds := [], alts := [], laidByText := true, laidKinds := [.listed, .data, .data], laidTests := true, laidLooks := .later }
def MachineCallsCardSaid : Prop := Claim7.holds Tryz.pinned (.plain (OpenSpec.ofChange machineCallsSpec)) machineCallsCard

/-- THE SECOND FORM's CARD OF 'stagehandlaw25.MachineCalls'. -/
def machineCallsUptoCard : Claim7 := { stood := { row := machineCallsUptoRow, standIns := [], harness := (true, "86de249d94ac324cce2ce284abac8b756dbe58f55dacd3096a4c3b669f81df38"), looks := true }, kinds := [], alts := [], laidByText := true, laidKinds := [.listed, .data, .data], laidTests := true, laidLooks := .later }
def MachineCallsUptoCardSaid : Prop := Claim7.holds Tryz.pinned (.plain (OpenSpec.upto machineCallsSpec)) machineCallsUptoCard
end Rows
end Go.Proofs.YtogbcielgfidlaaGreatDoor
