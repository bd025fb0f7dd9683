/-
  The card of LintBlock:the law's row,its listed variables tied to the program's text. Conditions:none beyond the card's own;it ties the listed variables to the pruned copy of the project that the seat's roots load.
-/
import Derived.Test.YtdfphfdnoobikaaGreatDoorLtBlockH
namespace Go.Proofs.YtdfphfdnoobikaaGreatDoor
open Go.Proofs.YtdfphfdnoobikaaGreatDoor
theorem lintBlock_card_holds:Rows.LintBlockCardSaid:=
 Claim7.holds_tied_plain_at .later [] [.listed,.data] true (true, "b1cf207951439620926405d13f6e517dcbd3ec987dd0c709935863b3979a4bec") true
  lintBlock_row_holds (fun _ h=>by cases h) (by kernel_rfl) (fun _ h=>by cases h) lintBlock_row_tie rfl ⟨rfl,rfl⟩ (by kernel_rfl) rfl
  (fun f fn hf hfn=>by
   obtain rfl:f=5:=Option.some.inj ((show Tryz.prog.funcNamed Rows.lintBlockRow.func=some 5 by kernel_rfl).symm.trans hf) |>.symm
   obtain rfl:fn=Tryz.f5:=(Option.some.inj (Tryz.func5.symm.trans hfn)).symm
   exact⟨by kernel_rfl,fun j t ht=>by
    rw [Tryz.params5]at ht
    have h9:t=25:=by
     rcases j with _|j
     ·simpa using ht.symm
     ·simp at ht
    subst h9
    exact(show Tryz.prog.wantsStandIn 25=false by kernel_rfl)⟩)
  (by kernel_rfl)
#print axioms lintBlock_card_holds
end Go.Proofs.YtdfphfdnoobikaaGreatDoor
