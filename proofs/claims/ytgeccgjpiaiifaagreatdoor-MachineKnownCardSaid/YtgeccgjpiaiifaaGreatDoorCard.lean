/-
  The card of MachineKnown: the law's row, its listed variables tied to the program's text.
  Conditions: none beyond the card's own; it ties the listed variables to the pruned copy of the project that the seat's roots load.
-/
import Derived.Test.YtgeccgjpiaiifaaGreatDoorProofC
import Derived.Test.YtgeccgjpiaiifaaGreatDoorMyTie
import Derived.Test.YtgeccgjpiaiifaaGreatDoorGoes
import Derived.Test.YtgeccgjpiaiifaaGreatDoorCards
namespace Go.Proofs.YtgeccgjpiaiifaaGreatDoor
open Go.RowKit
theorem machineKnown_card_holds : Rows.MachineKnownCardSaid :=
  Claim7.holds_tied_plain_at .later [] [.listed, .data, .data] true (true, "1045d4b4eb71e9fd16d9912c3515a7ede1f51b81f6696b111ee317411fe46353") true
    machineKnown_row_holds (fun _ h => by cases h) (by as_aux_lemma => kernel_rfl) (fun _ h => by cases h) row_tie rfl ⟨rfl, rfl⟩ (by as_aux_lemma => kernel_rfl) rfl
    (fun f fn hf hfn => by
      obtain rfl : f = 3 := Option.some.inj ((show Tryz.prog.funcNamed Rows.machineKnownRow.func = some 3 by kernel_rfl).symm.trans hf) |>.symm
      obtain rfl : fn = Tryz.f3 := (Option.some.inj (Tryz.func3.symm.trans hfn)).symm
      exact ⟨by as_aux_lemma => kernel_rfl, fun j t ht => by
        rw [Tryz.params3] at ht
        simp at ht⟩)
    goesBy_none
#print axioms machineKnown_card_holds
end Go.Proofs.YtgeccgjpiaiifaaGreatDoor
