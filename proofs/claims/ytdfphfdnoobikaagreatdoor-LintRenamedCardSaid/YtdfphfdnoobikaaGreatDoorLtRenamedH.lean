/-
  The row of LintRenamed.
-/
import Derived.Test.YtdfphfdnoobikaaGreatDoorProof
namespace Go.Proofs.YtdfphfdnoobikaaGreatDoor
open Go.ChangeShapes Go.WideShapes Go.ChangeAt Go.WideMaps Go.WideElems Go.RowKit
open Ev Go.Proofs.YtdfphfdnoobikaaGreatDoor
theorem lintRenamed_row_holds:Rows.LintRenamedSaid:=
 OpenClaim.holds_of_wide 3 Tryz.f3 rfl rfl rfl rfl rfl rfl rfl ⟨rfl,rfl,rfl,rfl,rfl⟩ rfl rfl rfl rfl rfl (by kernel_rfl) Tryz.func3 (by kernel_rfl)
  (of_decide_eq_true (by kernel_rfl)) (by unfold Func.isWrapper;first|(rw [if_pos (by decide+kernel)];kernel_rfl)|(rw [if_neg (by decide+kernel)];exact⟨rfl,rfl⟩))
  (λos started H enc _=>lifted os started H enc)
end Go.Proofs.YtdfphfdnoobikaaGreatDoor
