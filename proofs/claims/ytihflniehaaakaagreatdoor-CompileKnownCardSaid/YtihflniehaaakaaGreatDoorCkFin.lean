/-
  The end of the loop of Run, and of the call; the last statements: what is computed.
-/
import Derived.Test.YtihflniehaaakaaGreatDoorCkDrop
namespace Go.Proofs.YtihflniehaaakaaGreatDoor
set_option linter.unusedVariables false
set_option linter.unusedSimpArgs false
namespace Ev
noncomputable section
/-- The loop's end. -/
def endZ : Option (X × F × H) := loopN (exec (callS prC 300) false 1000000 loopC) 100 ⟨flS, []⟩ (litH lbZ nxS)
def rest12 : CCode := rgt (rest 3 cf12.code)
def call16 : List COper := [⟨.no, .e (.store 16), [.l 4, .t 85], none, 0, 0⟩]
def fl17 : AL := [(4, .ptr 1857 0)]
def ps17 : List (Nat × Nat) := [(0, 0), (1, 1), (1857, 1857)]
def lb17 : List (Nat × LB) := [(1857, .c [.int .i64 1, .str 0 0, .int .i64 2, .int .i64 0, .int .i64 0, .str 4 1701736292, .str 0 0, .int .i64 0, .nils, .str 0 0, .int .i64 0, .str 0 0, .str 0 0, .str 0 0, .nils, .int .i64 0] false)]
/-- What is behind the loop: the rest of the call, and the store of what it answers. -/
def after12 (o : Option (X × F × H)) : Bool :=
  Option.rec (motive := fun _ => Bool) false (fun r2 => X.rec (motive := fun _ => Bool) false (fun _ => false)
    (Option.rec (motive := fun _ => Bool) false (fun l => leftR [] 0 0 ps17 lb17 5905 fl17 (ob (runOps (callS prC 300) call16 (Dst.put ⟨fl17, []⟩ (oneOrTup l) (.t 85)) r2.2.2) fun q => some (clr q.1, q.2))) (resOf r2.2.1 r2.2.2 cf12.results)) r2.1) o
def finB : Bool :=
  Option.rec (motive := fun _ => Bool) false (fun r => X.rec (motive := fun _ => Bool) false (fun j => Bool.rec (motive := fun _ => Bool) false (after12 (exec (callS prC 300) false 1000000 rest12 r.2.1 r.2.2)) (Nat.beq j 0)) false r.1) endZ
end
end Ev
end Go.Proofs.YtihflniehaaakaaGreatDoor
namespace Go.Proofs.YtihflniehaaakaaGreatDoor
set_option linter.unusedVariables false
set_option linter.unusedSimpArgs false
namespace Ev
noncomputable section
def fl18 : AL := [(4, (.ptr 1857 0)), (7, (.ptr 8639 0)), (8, (.int .i64 0))]
def lb18 : List (Nat × LB) := [(1857, .c [(.int .i64 1), (.str 0 0), (.int .i64 2), (.int .i64 0), (.int .i64 0), (.str 4 1701736292), (.str 0 0), (.int .i64 0), .nils, (.str 0 0), (.int .i64 0), (.str 0 0), (.str 0 0), (.str 0 0), .nils, (.int .i64 0)] false),
 (8639, .c [(.str 1 109), (.int .i64 1), .nils, (.sl 7575 0 1 0 false 4), (.sl 8098 0 1 1 true 3), (.sl 8637 0 9 0 false 10)] false),
 (7575, .c [(.str 1 102), (.int .i64 1), (.bool true), (.int .i64 0)] false),
 (8098, .c [(.int .i64 1), (.int .i64 1), (.int .i64 4)] false),
 (8637, .c [(.int .i64 1), (.int .i64 1), (.int .i64 19), (.sl 7585 0 1 1 true 2), (.int .i64 0), (.int .i64 0), (.int .i64 0), (.str 0 0), .nils, .nils, (.int .i64 4), (.int .i64 1), (.int .i64 19), (.sl 7826 0 1 0 false 2), (.int .i64 0), (.int .i64 0), (.int .i64 20), (.str 0 0), .nils, .nils, (.int .i64 1), (.int .i64 1), (.int .i64 0), (.sl 7838 0 1 1 true 2), (.int .i64 0), (.int .i64 0), (.int .i64 0), (.str 0 0), .nils, .nils, (.int .i64 26), (.int .i64 0), (.int .i64 0), .nils, (.int .i64 0), (.int .i64 0), (.int .i64 0), (.str 0 0), .nils, .nils, (.int .i64 1), (.int .i64 1), (.int .i64 19), (.sl 8108 0 1 1 true 2), (.int .i64 0), (.int .i64 0), (.int .i64 0), (.str 0 0), .nils, .nils, (.int .i64 1), (.int .i64 1), (.int .i64 20), (.sl 8118 0 1 1 true 2), (.int .i64 0), (.int .i64 0), (.int .i64 0), (.str 0 0), .nils, .nils, (.int .i64 2), (.int .i64 1), (.int .i64 19), (.sl 8255 0 2 0 false 2), (.int .i64 0), (.int .i64 0), (.int .i64 20), (.str 0 0), .nils, .nils, (.int .i64 1), (.int .i64 1), (.int .i64 0), (.sl 8267 0 1 1 true 2), (.int .i64 0), (.int .i64 0), (.int .i64 0), (.str 0 0), .nils, .nils, (.int .i64 26), (.int .i64 0), (.int .i64 0), .nils, (.int .i64 0), (.int .i64 0), (.int .i64 0), (.str 0 0), .nils, .nils] false),
 (7585, .c [(.int .i64 1), (.int .i64 0)] false),
 (7826, .c [(.int .i64 1), (.int .i64 19)] false),
 (7838, .c [(.int .i64 1), (.int .i64 19)] false),
 (8108, .c [(.int .i64 1), (.int .i64 0)] false),
 (8118, .c [(.int .i64 1), (.int .i64 1)] false),
 (8255, .c [(.int .i64 1), (.int .i64 20), (.int .i64 1), (.int .i64 19)] false),
 (8267, .c [(.int .i64 1), (.int .i64 19)] false)]
def ps18 : List (Nat × Nat) := [(0, 0), (1, 1), (1857, 1857), (8639, 8639), (7575, 7575), (8098, 8098), (8637, 8637), (7585, 7585), (7826, 7826), (7838, 7838), (8108, 8108), (8118, 8118), (8255, 8255), (8267, 8267)]
def fl19 : AL := [(4, (.ptr 1857 0)), (7, (.ptr 8639 0)), (8, (.int .i64 0)), (10, (.int .i64 120))]
def lb19 : List (Nat × LB) := [(1857, .c [(.int .i64 1), (.str 0 0), (.int .i64 2), (.int .i64 0), (.int .i64 0), (.str 4 1701736292), (.str 0 0), (.int .i64 0), .nils, (.str 0 0), (.int .i64 0), (.str 0 0), (.str 0 0), (.str 0 0), .nils, (.int .i64 0)] false),
 (8639, .c [(.str 1 109), (.int .i64 1), .nils, (.sl 7575 0 1 0 false 4), (.sl 8098 0 1 1 true 3), (.sl 8637 0 9 0 false 10)] false),
 (7575, .c [(.str 1 102), (.int .i64 1), (.bool true), (.int .i64 0)] false),
 (8098, .c [(.int .i64 1), (.int .i64 1), (.int .i64 4)] false),
 (8637, .c [(.int .i64 1), (.int .i64 1), (.int .i64 19), (.sl 7585 0 1 1 true 2), (.int .i64 0), (.int .i64 0), (.int .i64 0), (.str 0 0), .nils, .nils, (.int .i64 4), (.int .i64 1), (.int .i64 19), (.sl 7826 0 1 0 false 2), (.int .i64 0), (.int .i64 0), (.int .i64 20), (.str 0 0), .nils, .nils, (.int .i64 1), (.int .i64 1), (.int .i64 0), (.sl 7838 0 1 1 true 2), (.int .i64 0), (.int .i64 0), (.int .i64 0), (.str 0 0), .nils, .nils, (.int .i64 26), (.int .i64 0), (.int .i64 0), .nils, (.int .i64 0), (.int .i64 0), (.int .i64 0), (.str 0 0), .nils, .nils, (.int .i64 1), (.int .i64 1), (.int .i64 19), (.sl 8108 0 1 1 true 2), (.int .i64 0), (.int .i64 0), (.int .i64 0), (.str 0 0), .nils, .nils, (.int .i64 1), (.int .i64 1), (.int .i64 20), (.sl 8118 0 1 1 true 2), (.int .i64 0), (.int .i64 0), (.int .i64 0), (.str 0 0), .nils, .nils, (.int .i64 2), (.int .i64 1), (.int .i64 19), (.sl 8255 0 2 0 false 2), (.int .i64 0), (.int .i64 0), (.int .i64 20), (.str 0 0), .nils, .nils, (.int .i64 1), (.int .i64 1), (.int .i64 0), (.sl 8267 0 1 1 true 2), (.int .i64 0), (.int .i64 0), (.int .i64 0), (.str 0 0), .nils, .nils, (.int .i64 26), (.int .i64 0), (.int .i64 0), .nils, (.int .i64 0), (.int .i64 0), (.int .i64 0), (.str 0 0), .nils, .nils] false),
 (7585, .c [(.int .i64 1), (.int .i64 0)] false),
 (7826, .c [(.int .i64 1), (.int .i64 19)] false),
 (7838, .c [(.int .i64 1), (.int .i64 19)] false),
 (8108, .c [(.int .i64 1), (.int .i64 0)] false),
 (8118, .c [(.int .i64 1), (.int .i64 1)] false),
 (8255, .c [(.int .i64 1), (.int .i64 20), (.int .i64 1), (.int .i64 19)] false),
 (8267, .c [(.int .i64 1), (.int .i64 19)] false)]
def ps19 : List (Nat × Nat) := [(0, 0), (1, 1), (1857, 1857), (8639, 8639), (7575, 7575), (8098, 8098), (8637, 8637), (7585, 7585), (7826, 7826), (7838, 7838), (8108, 8108), (8118, 8118), (8255, 8255), (8267, 8267)]
end
end Ev
end Go.Proofs.YtihflniehaaakaaGreatDoor
namespace Go.Proofs.YtihflniehaaakaaGreatDoor
set_option linter.unusedVariables false
set_option linter.unusedSimpArgs false
namespace Ev
set_option maxRecDepth 100000 in
theorem fin_true : finB = true := by kernel_rfl
end Ev
end Go.Proofs.YtihflniehaaakaaGreatDoor
