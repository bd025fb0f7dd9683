/-
  The module of the text statem, and that it is valid.
-/
import Derived.Test.YtchmfcjfdhokoaaGreatDoorEvClaS
import Derived.Test.YtchmfcjfdhokoaaGreatDoorEvArg
namespace Go.Proofs.YtchmfcjfdhokoaaGreatDoor
namespace Ev
noncomputable section
def mdS : D := .agg [.v (.str 6 120282511668339), .v (.int .i64 (.ofNat 1)), (.sl 4 2 none ([.v (.str 5 500135195763), .v (.int .i64 (.ofNat 2))] ++ [.v (.str 10 507329952066785295561843), .v (.int .i64 (.ofNat 2))] ++ [.v (.str 4 1684956531), .v (.int .i64 (.ofNat 2))] ++ [.v (.str 4 1886352499), .v (.int .i64 (.ofNat 1))])), .sl 8 3 none (.v (.str 5 500135195763) :: .v (.int .i64 (.ofNat 2)) :: s4t 1 (cS0) :: .v (.str 10 507329952066785295561843) :: .v (.int .i64 (.ofNat 2)) :: s4t 1 (cS1) :: .v (.str 4 1684956531) :: .v (.int .i64 (.ofNat 2)) :: s4t 1 (cS2) :: .v (.str 4 1886352499) :: .v (.int .i64 (.ofNat 1)) :: s4t 1 (cS3) :: .v (.str 5 500153084262) :: .v (.int .i64 (.ofNat 2)) :: s4 2 (cS4 ++ cS5) :: .v (.str 4 1886351212) :: .v (.int .i64 (.ofNat 3)) :: s4 2 (cS6 ++ cS7) :: .v (.str 4 1885697139) :: .v (.int .i64 (.ofNat 4)) :: s4t 1 (cS8) :: .v (.str 2 28519) :: .v (.int .i64 (.ofNat 6)) :: s4 8 (cS9 ++ cS10 ++ cS11 ++ cS12 ++ cS13 ++ cS14 ++ cS15 ++ cS16) :: [])]
end
theorem chkS : runE (callS prims2 200) H0 12 [mdS] (.v (.int .i64 (.ofNat 0))) = true := by kernel_rfl
end Ev
end Go.Proofs.YtchmfcjfdhokoaaGreatDoor
