/-
  DERIVED. GIVEN WITH THE SEED: THE CARDS: each row of YtgeccgjpiaiifaaGreatDoorRows.lean that lists a variable, with what it lists TIED to the program's text (the seventh form; the later family's looks); each row that meets fmt, with fmt's text TOLD by the authors' own Lean function (tested against real Go, not proved from fmt's source: count such statements apart). THE CARD IS WHAT COUNTS. Prove the row's statement (the work); the ties are given (YtgeccgjpiaiifaaGreatDoorTie.lean); close each card by the builder's one call (the guide's Derived/Test/ToyasCard.lean, 'card_holds'). Laid BY PROGRAM, IN A SANDBOX (cutbox-door.mjs). By AI agents, Wed Nov 11 2026. No macro, syntax, notation, axiom, sorry.
-/
import Derived.Test.YtgeccgjpiaiifaaGreatDoorRows
import GoSem.ClaimSeven
namespace Go.Proofs.YtgeccgjpiaiifaaGreatDoor
namespace Rows

/-- THE TIED CARD OF 'stagehandlaw25.MachineKnown'. -/
def machineKnownCard : Claim7 := { stood := { row := machineKnownRow, standIns := [], harness := (true, "1045d4b4eb71e9fd16d9912c3515a7ede1f51b81f6696b111ee317411fe46353"), looks := true }, kinds := [], alts := [], laidByText := true, laidKinds := [.listed, .data, .data], laidTests := true, laidLooks := .later }
def MachineKnownCardSaid : Prop := Claim7.holds Tryz.pinned (.plain (OpenSpec.ofChange machineKnownSpec)) machineKnownCard

/-- THE SECOND FORM's CARD OF 'stagehandlaw25.MachineKnown'. -/
def machineKnownUptoCard : Claim7 := { stood := { row := machineKnownUptoRow, standIns := [], harness := (true, "1045d4b4eb71e9fd16d9912c3515a7ede1f51b81f6696b111ee317411fe46353"), looks := true }, kinds := [], alts := [], laidByText := true, laidKinds := [.listed, .data, .data], laidTests := true, laidLooks := .later }
def MachineKnownUptoCardSaid : Prop := Claim7.holds Tryz.pinned (.plain (OpenSpec.upto machineKnownSpec)) machineKnownUptoCard
end Rows
end Go.Proofs.YtgeccgjpiaiifaaGreatDoor
