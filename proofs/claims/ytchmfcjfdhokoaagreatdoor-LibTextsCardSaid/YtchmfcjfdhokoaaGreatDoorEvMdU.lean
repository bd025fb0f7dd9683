/-
  The module of the text supervisor, and that it is valid.
-/
import Derived.Test.YtchmfcjfdhokoaaGreatDoorEvClaU
import Derived.Test.YtchmfcjfdhokoaaGreatDoorEvArg
namespace Go.Proofs.YtchmfcjfdhokoaaGreatDoor
namespace Ev
noncomputable section
def mdU : D := .agg [.v (.str 10 540405683947741931140467), .v (.int .i64 (.ofNat 1)), (.sl 4 2 none ([.v (.str 5 500135195763), .v (.int .i64 (.ofNat 4))] ++ [.v (.str 10 507329952066785295561843), .v (.int .i64 (.ofNat 4))] ++ [.v (.str 5 448344451191), .v (.int .i64 (.ofNat 1))] ++ [.v (.str 4 1886352499), .v (.int .i64 (.ofNat 1))])), .sl 19 3 none (.v (.str 5 500135195763) :: .v (.int .i64 (.ofNat 4)) :: s4t 1 (cU0) :: .v (.str 10 507329952066785295561843) :: .v (.int .i64 (.ofNat 4)) :: s4t 1 (cU1) :: .v (.str 5 448344451191) :: .v (.int .i64 (.ofNat 1)) :: s4t 1 (cU2) :: .v (.str 4 1886352499) :: .v (.int .i64 (.ofNat 1)) :: s4t 1 (cU3) :: .v (.str 4 1953066601) :: .v (.int .i64 (.ofNat 5)) :: s4t 1 (cU4) :: .v (.str 3 7239026) :: .v (.int .i64 (.ofNat 2)) :: s4 2 (cU5 ++ cU6) :: .v (.str 3 6647407) :: .v (.int .i64 (.ofNat 2)) :: s4t 1 (cU7) :: .v (.str 6 110386773320038) :: .v (.int .i64 (.ofNat 2)) :: s4t 1 (cU8) :: .v (.str 6 114844899371366) :: .v (.int .i64 (.ofNat 1)) :: s4 2 (cU9 ++ cU10) :: .v (.str 4 1886351212) :: .v (.int .i64 (.ofNat 3)) :: s4t 1 (cU11) :: .v (.str 4 1935960427) :: .v (.int .i64 (.ofNat 1)) :: s4 2 (cU12 ++ cU13) :: .v (.str 6 110386907543653) :: .v (.int .i64 (.ofNat 5)) :: s4 2 (cU14 ++ cU15) :: .v (.str 5 499984920691) :: .v (.int .i64 (.ofNat 3)) :: s4 3 (cU16 ++ cU17 ++ cU18) :: .v (.str 4 1953722220) :: .v (.int .i64 (.ofNat 5)) :: s4 2 (cU19 ++ cU20) :: .v (.str 5 474214393697) :: .v (.int .i64 (.ofNat 2)) :: s4 3 (cU21 ++ cU22 ++ cU23) :: .v (.str 7 32776860189549938) :: .v (.int .i64 (.ofNat 5)) :: s4t 1 (cU24) :: .v (.str 6 128017496237426) :: .v (.int .i64 (.ofNat 2)) :: s4 2 (cU25 ++ cU26) :: .v (.str 4 2003136097) :: .v (.int .i64 (.ofNat 4)) :: s4 3 (cU27 ++ cU28 ++ cU29) :: .v (.str 5 495588831347) :: .v (.int .i64 (.ofNat 1)) :: s4 3 (cU30 ++ cU31 ++ cU32) :: [])]
end
theorem chkU : runE (callS prims2 200) H0 12 [mdU] (.v (.int .i64 (.ofNat 0))) = true := by kernel_rfl
end Ev
end Go.Proofs.YtchmfcjfdhokoaaGreatDoor
