/-
  The card of LibTexts: the law's row, its listed variables tied to the program's text.
  Conditions: none beyond the card's own; it ties the listed variables to the pruned copy of the project that the seat's roots load.
-/
import Derived.Test.YtchmfcjfdhokoaaGreatDoorProof
namespace Go.Proofs.YtchmfcjfdhokoaaGreatDoor
theorem libTexts_card_holds : Rows.LibTextsCardSaid :=
  Claim7.holds_tied_plain_at .later [] [.data, .data, .data, .sentinel, .sentinel, .listed, .data] true (true, "0571556b16e4743a8a150a6945a8bee10d43ce046f5765ffec8854b508fd4177") true
    libTexts_row_holds (fun _ h => by cases h) (by kernel_rfl) (fun _ h => by cases h) libTexts_row_tie rfl ⟨rfl, rfl⟩ (by kernel_rfl) rfl
    (fun f fn hf hfn => by
      obtain rfl : f = 3 := Option.some.inj ((show Tryz.prog.funcNamed Rows.libTextsRow.func = some 3 by kernel_rfl).symm.trans hf) |>.symm
      obtain rfl : fn = Tryz.f3 := (Option.some.inj (Tryz.func3.symm.trans hfn)).symm
      exact ⟨by kernel_rfl, fun j t ht => by
        rw [Tryz.params3] at ht
        have h9 : t = 9 := by
          rcases j with _ | j
          · simpa using ht.symm
          · simp at ht
        subst h9
        exact (show Tryz.prog.wantsStandIn 9 = false by kernel_rfl)⟩)
    (by kernel_rfl)
#print axioms libTexts_card_holds
end Go.Proofs.YtchmfcjfdhokoaaGreatDoor
