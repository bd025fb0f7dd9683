/-
  The card of MachineNil: the law's row, its listed variables tied to the program's text.
  Conditions: none beyond the card's own; it ties the listed variables to the pruned copy of the project that the seat's roots load.
-/
import Derived.Test.YtbfkbabolhhbaaaGreatDoorProofC
import Derived.Test.YtbfkbabolhhbaaaGreatDoorMyTie
import Derived.Test.YtbfkbabolhhbaaaGreatDoorGoes
import Derived.Test.YtbfkbabolhhbaaaGreatDoorCards
namespace Go.Proofs.YtbfkbabolhhbaaaGreatDoor
open Go.RowKit
theorem machineNil_card_holds : Rows.MachineNilCardSaid :=
  Claim7.holds_tied_plain_at .later [] [.listed, .data, .data] true (true, "00edf87a11bba1901bbfecba0ebfda0287d436c6052853c88a26b9dbb3eeee95") true
    machineNil_row_holds (fun _ h => by cases h) (by as_aux_lemma => kernel_rfl) (fun _ h => by cases h) row_tie rfl ⟨rfl, rfl⟩ (by as_aux_lemma => kernel_rfl) rfl
    (fun f fn hf hfn => by
      obtain rfl : f = 3 := Option.some.inj ((show Tryz.prog.funcNamed Rows.machineNilRow.func = some 3 by kernel_rfl).symm.trans hf) |>.symm
      obtain rfl : fn = Tryz.f3 := (Option.some.inj (Tryz.func3.symm.trans hfn)).symm
      exact ⟨by as_aux_lemma => kernel_rfl, fun j t ht => by
        rw [Tryz.params3] at ht
        have h9 : t = 24 ∨ t = 3 := by
          rcases j with _ | _ | j
          · exact .inl (by simpa using ht.symm)
          · exact .inr (by simpa using ht.symm)
          · simp at ht
        rcases h9 with rfl | rfl
        · exact (show Tryz.prog.wantsStandIn 24 = false by kernel_rfl)
        · exact (show Tryz.prog.wantsStandIn 3 = false by kernel_rfl)⟩)
    goesBy_none
#print axioms machineNil_card_holds
end Go.Proofs.YtbfkbabolhhbaaaGreatDoor
