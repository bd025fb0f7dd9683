/-
  The card of LintRenamed:the law's row,its listed variables tied to the program's text. Conditions:none beyond the card's own;it ties the listed variables to the pruned copy of the project that the seat's roots load.
-/
import Derived.Test.YtdfphfdnoobikaaGreatDoorLtRenamedH
namespace Go.Proofs.YtdfphfdnoobikaaGreatDoor
open Go.Proofs.YtdfphfdnoobikaaGreatDoor
theorem lintRenamed_card_holds:Rows.LintRenamedCardSaid:=
 Claim7.holds_tied_plain_at .later [] [.listed,.data] true (true, "b1cf207951439620926405d13f6e517dcbd3ec987dd0c709935863b3979a4bec") true
  lintRenamed_row_holds (λ_ h=>by cases h) (by kernel_rfl) (λ_ h=>by cases h) lintRenamed_row_tie rfl ⟨rfl,rfl⟩ (by kernel_rfl) rfl
  (λf fn hf hfn=>by
   obtain rfl:f=3:=Option.some.inj ((show Tryz.prog.funcNamed Rows.lintRenamedRow.func=some 3 by kernel_rfl).symm.trans hf) |>.symm;obtain rfl:fn=Tryz.f3:=(Option.some.inj (Tryz.func3.symm.trans hfn)).symm;exact⟨by kernel_rfl,λj t ht=>by
    rw [Tryz.params3]at ht;have h9:t=25:=by
     rcases j with _|j
     ·simpa using ht.symm
     ·simp at ht
    subst h9;exact(show Tryz.prog.wantsStandIn 25=false by kernel_rfl)⟩)
  (by kernel_rfl)
#print axioms lintRenamed_card_holds
end Go.Proofs.YtdfphfdnoobikaaGreatDoor
