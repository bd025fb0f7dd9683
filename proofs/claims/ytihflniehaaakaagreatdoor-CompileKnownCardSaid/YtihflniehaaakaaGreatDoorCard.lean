/-
  The card of CompileKnown: the law's row, its listed variables tied to the program's text.
  Conditions: none beyond the card's own; it ties the listed variables to the pruned copy of the project that the seat's roots load.
-/
import Derived.Test.YtihflniehaaakaaGreatDoorProofC
import Derived.Test.YtihflniehaaakaaGreatDoorMyTie
import Derived.Test.YtihflniehaaakaaGreatDoorGoes
import Derived.Test.YtihflniehaaakaaGreatDoorCards
namespace Go.Proofs.YtihflniehaaakaaGreatDoor
open Go.RowKit
theorem compileKnown_card_holds : Rows.CompileKnownCardSaid :=
  Claim7.holds_tied_plain_at .later [] [.data, .data, .data, .listed, .data] true (true, "09710d5116f4a604c9d15b87bac05df2c39141ceb1d2c47000a366bb584d7e64") true
    compileKnown_row_holds (fun _ h => by cases h) (by as_aux_lemma => kernel_rfl) (fun _ h => by cases h) row_tie rfl ⟨rfl, rfl⟩ (by as_aux_lemma => kernel_rfl) rfl
    (fun f fn hf hfn => by
      obtain rfl : f = 3 := Option.some.inj ((show Tryz.prog.funcNamed Rows.compileKnownRow.func = some 3 by kernel_rfl).symm.trans hf) |>.symm
      obtain rfl : fn = Tryz.f3 := (Option.some.inj (Tryz.func3.symm.trans hfn)).symm
      exact ⟨by as_aux_lemma => kernel_rfl, fun j t ht => by
        rw [Tryz.params3] at ht
        simp at ht⟩)
    goesBy_none
#print axioms compileKnown_card_holds
end Go.Proofs.YtihflniehaaakaaGreatDoor
