/-
  The card of LintAdded:the law's row,its listed variables tied to the program's text. Conditions:none beyond the card's own;it ties the listed variables to the pruned copy of the project that the seat's roots load.
-/
import Derived.Test.YtdfphfdnoobikaaGreatDoorLtAddedH
namespace Go.Proofs.YtdfphfdnoobikaaGreatDoor
open Go.Proofs.YtdfphfdnoobikaaGreatDoor
theorem lintAdded_card_holds:Rows.LintAddedCardSaid:=
 Claim7.holds_tied_plain_at .later [] [.listed,.data] true (true, "b1cf207951439620926405d13f6e517dcbd3ec987dd0c709935863b3979a4bec") true
  lintAdded_row_holds (λ_ h=>by cases h) (by kernel_rfl) (λ_ h=>by cases h) lintAdded_row_tie rfl ⟨rfl,rfl⟩ (by kernel_rfl) rfl
  (λf fn hf hfn=>by
   obtain rfl:f=4:=Option.some.inj ((show Tryz.prog.funcNamed Rows.lintAddedRow.func=some 4 by kernel_rfl).symm.trans hf) |>.symm;obtain rfl:fn=Tryz.f4:=(Option.some.inj (Tryz.func4.symm.trans hfn)).symm;exact⟨by kernel_rfl,λj t ht=>by
    rw [Tryz.params4]at ht;have h9:t=25\/t=9\/t=3:=by
     rcases j with _ | _ | _|j
     ·exact .inl (by simpa using ht.symm)
     ·exact .inr (.inl (by simpa using ht.symm))
     ·exact .inr (.inr (by simpa using ht.symm))
     ·simp at ht
    rcases h9 with rfl|rfl|rfl
    ·exact(show Tryz.prog.wantsStandIn 25=false by kernel_rfl)
    ·exact(show Tryz.prog.wantsStandIn 9=false by kernel_rfl)
    ·exact(show Tryz.prog.wantsStandIn 3=false by kernel_rfl)⟩)
  (by kernel_rfl)
#print axioms lintAdded_card_holds
end Go.Proofs.YtdfphfdnoobikaaGreatDoor
