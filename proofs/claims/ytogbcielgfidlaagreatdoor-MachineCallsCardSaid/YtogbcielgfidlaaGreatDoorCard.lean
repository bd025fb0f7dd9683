/-
  The card of MachineCalls: the law's row, its listed variables tied to the program's text.
  Conditions: none beyond the card's own; it ties the listed variables to the pruned copy of the project that the seat's roots load.
-/
import Derived.Test.YtogbcielgfidlaaGreatDoorProofC
import Derived.Test.YtogbcielgfidlaaGreatDoorGoes
import Derived.Test.YtogbcielgfidlaaGreatDoorCards
namespace Go.Proofs.YtogbcielgfidlaaGreatDoor
open Go.RowKit
theorem machineCalls_card_holds : Rows.MachineCallsCardSaid :=
  Claim7.holds_tied_plain_at .later [] [.listed, .data, .data] true (true, "86de249d94ac324cce2ce284abac8b756dbe58f55dacd3096a4c3b669f81df38") true
    machineCalls_row_holds (fun _ h => by cases h) (by as_aux_lemma => kernel_rfl) (fun _ h => by cases h) row_tie rfl ⟨rfl, rfl⟩ (by as_aux_lemma => kernel_rfl) rfl
    (fun f fn hf hfn => by
      obtain rfl : f = 3 := Option.some.inj ((show Tryz.prog.funcNamed Rows.machineCallsRow.func = some 3 by kernel_rfl).symm.trans hf) |>.symm
      obtain rfl : fn = Tryz.f3 := (Option.some.inj (Tryz.func3.symm.trans hfn)).symm
      exact ⟨by as_aux_lemma => kernel_rfl, fun j t ht => by
        rw [Tryz.params3] at ht
        have h9 : t = 3 ∨ t = 23 := by
          rcases j with _ | _ | _ | j
          · exact .inl (by simpa using ht.symm)
          · exact .inl (by simpa using ht.symm)
          · exact .inr (by simpa using ht.symm)
          · simp at ht
        rcases h9 with rfl | rfl
        · exact (show Tryz.prog.wantsStandIn 3 = false by kernel_rfl)
        · exact (show Tryz.prog.wantsStandIn 23 = false by kernel_rfl)⟩)
    goesBy_none
#print axioms machineCalls_card_holds
end Go.Proofs.YtogbcielgfidlaaGreatDoor
