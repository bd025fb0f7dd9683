/-
  DERIVED. GIVEN WITH THE SEED: THE CARDS: each row of YtdfphfdnoobikaaGreatDoorRows.lean that lists a variable, with what it lists TIED to the program's text (the seventh form; the later family's looks); each row that meets fmt, with fmt's text TOLD by the authors' own Lean function (tested against real Go, not proved from fmt's source: count such statements apart). THE CARD IS WHAT COUNTS. Prove the row's statement (the work); the ties are given (YtdfphfdnoobikaaGreatDoorTie.lean); close each card by the builder's one call (the guide's Derived/Test/ToyasCard.lean, 'card_holds'). Laid BY PROGRAM, IN A SANDBOX (cutbox-door.mjs). By AI agents, Wed Nov 11 2026. No macro, syntax, notation, axiom, sorry.
-/
import Derived.Test.YtdfphfdnoobikaaGreatDoorRows
import GoSem.ClaimSeven
namespace Go.Proofs.YtdfphfdnoobikaaGreatDoor
namespace Rows

/-- THE TIED CARD OF 'stagehandlaw12.LintRenamed'. -/
def lintRenamedCard : Claim7 := { stood := { row := lintRenamedRow, standIns := [], harness := (true, "b1cf207951439620926405d13f6e517dcbd3ec987dd0c709935863b3979a4bec"), looks := true }, kinds := [], alts := [], laidByText := true, laidKinds := [.listed, .data], laidTests := true, laidLooks := .later }
def LintRenamedCardSaid : Prop := Claim7.holds Tryz.pinned (.plain (OpenSpec.ofChange lintRenamedSpec)) lintRenamedCard

/-- THE TIED CARD OF 'stagehandlaw12.LintAdded'. -/
def lintAddedCard : Claim7 := { stood := { row := lintAddedRow, standIns := [], harness := (true, "b1cf207951439620926405d13f6e517dcbd3ec987dd0c709935863b3979a4bec"), looks := true }, kinds := [], alts := [], laidByText := true, laidKinds := [.listed, .data], laidTests := true, laidLooks := .later }
def LintAddedCardSaid : Prop := Claim7.holds Tryz.pinned (.plain (OpenSpec.ofChange lintAddedSpec)) lintAddedCard

/-- THE TIED CARD OF 'stagehandlaw12.LintBlock'. -/
def lintBlockCard : Claim7 := { stood := { row := lintBlockRow, standIns := [], harness := (true, "b1cf207951439620926405d13f6e517dcbd3ec987dd0c709935863b3979a4bec"), looks := true }, kinds := [], alts := [], laidByText := true, laidKinds := [.listed, .data], laidTests := true, laidLooks := .later }
def LintBlockCardSaid : Prop := Claim7.holds Tryz.pinned (.plain (OpenSpec.ofChange lintBlockSpec)) lintBlockCard

/-- THE TIED CARD OF 'stagehandlaw12.LintTurned'. -/
def lintTurnedCard : Claim7 := { stood := { row := lintTurnedRow, standIns := [], harness := (true, "b1cf207951439620926405d13f6e517dcbd3ec987dd0c709935863b3979a4bec"), looks := true }, kinds := [], alts := [], laidByText := true, laidKinds := [.listed, .data], laidTests := true, laidLooks := .later }
def LintTurnedCardSaid : Prop := Claim7.holds Tryz.pinned (.plain (OpenSpec.ofChange lintTurnedSpec)) lintTurnedCard

/-- THE SECOND FORM's CARD OF 'stagehandlaw12.LintRenamed'. -/
def lintRenamedUptoCard : Claim7 := { stood := { row := lintRenamedUptoRow, standIns := [], harness := (true, "b1cf207951439620926405d13f6e517dcbd3ec987dd0c709935863b3979a4bec"), looks := true }, kinds := [], alts := [], laidByText := true, laidKinds := [.listed, .data], laidTests := true, laidLooks := .later }
def LintRenamedUptoCardSaid : Prop := Claim7.holds Tryz.pinned (.plain (OpenSpec.upto lintRenamedSpec)) lintRenamedUptoCard

/-- THE SECOND FORM's CARD OF 'stagehandlaw12.LintAdded'. -/
def lintAddedUptoCard : Claim7 := { stood := { row := lintAddedUptoRow, standIns := [], harness := (true, "b1cf207951439620926405d13f6e517dcbd3ec987dd0c709935863b3979a4bec"), looks := true }, kinds := [], alts := [], laidByText := true, laidKinds := [.listed, .data], laidTests := true, laidLooks := .later }
def LintAddedUptoCardSaid : Prop := Claim7.holds Tryz.pinned (.plain (OpenSpec.upto lintAddedSpec)) lintAddedUptoCard

/-- THE SECOND FORM's CARD OF 'stagehandlaw12.LintBlock'. -/
def lintBlockUptoCard : Claim7 := { stood := { row := lintBlockUptoRow, standIns := [], harness := (true, "b1cf207951439620926405d13f6e517dcbd3ec987dd0c709935863b3979a4bec"), looks := true }, kinds := [], alts := [], laidByText := true, laidKinds := [.listed, .data], laidTests := true, laidLooks := .later }
def LintBlockUptoCardSaid : Prop := Claim7.holds Tryz.pinned (.plain (OpenSpec.upto lintBlockSpec)) lintBlockUptoCard

/-- THE SECOND FORM's CARD OF 'stagehandlaw12.LintTurned'. -/
def lintTurnedUptoCard : Claim7 := { stood := { row := lintTurnedUptoRow, standIns := [], harness := (true, "b1cf207951439620926405d13f6e517dcbd3ec987dd0c709935863b3979a4bec"), looks := true }, kinds := [], alts := [], laidByText := true, laidKinds := [.listed, .data], laidTests := true, laidLooks := .later }
def LintTurnedUptoCardSaid : Prop := Claim7.holds Tryz.pinned (.plain (OpenSpec.upto lintTurnedSpec)) lintTurnedUptoCard
end Rows
end Go.Proofs.YtdfphfdnoobikaaGreatDoor
