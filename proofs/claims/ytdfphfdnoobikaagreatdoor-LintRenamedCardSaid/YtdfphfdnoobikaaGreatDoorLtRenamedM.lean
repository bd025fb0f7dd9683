/-
  The door's own heap meets the rows' condition.
-/
import Derived.Test.YtdfphfdnoobikaaGreatDoorLtRenamedR
namespace Go.Proofs.YtdfphfdnoobikaaGreatDoor
open Go.ChangeShapes Go.WideShapes Go.ChangeAt Go.WideMaps Go.WideElems Go.RowKit
open Ev Go.Proofs.YtdfphfdnoobikaaGreatDoor
set_option maxHeartbeats 1000000000 in
theorem Fc(os:Os)(args:Array Value):laidMetH Tryz.prog Rows.lintRenamedRow.laid ((World.doorLaid Tryz.prog 33 os).forCall (λ_ _=>0) ⟨#[],args,[]⟩).memory:=
 laidMetH_of_parts3 (fuel:=8) (laidMet_of_run' 8 (by as_aux_lemma=>kernel_rfl) (by as_aux_lemma=>kernel_rfl)) (by as_aux_lemma=>kernel_rfl) (by as_aux_lemma=>kernel_rfl)
end Go.Proofs.YtdfphfdnoobikaaGreatDoor
