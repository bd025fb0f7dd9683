/-
  The clauses of the text server, each parsed by itself.
-/
import Derived.Test.YtchmfcjfdhokoaaGreatDoorEvTkV
import Derived.KernelRfl
namespace Go.Proofs.YtchmfcjfdhokoaaGreatDoor
namespace Ev
noncomputable section
def cV0 : List D := cl 5 500135195763 (s11 2 (xa 3 1 77 ++ xa 3 1 65)) nl (s23t 1 (sv (xi 10 5 474449277043 (s11 1 (xg 13 (.ofNat 0) 0 0 0 0 nl nl (s4t 1 (cl 0 0 nl nl (s23t 1 (sv (xi 10 4 1886351212 (s11 2 (xa 3 1 77 ++ xi 11 0 0 (s11 3 (xa 3 1 77 ++ xa 2 4 1953066601 ++ xa 3 1 65))))))))) nl nl nl false)))))
def cV1 : List D := cl 10 507329952066785295561843 (s11 2 (xa 3 1 77 ++ xa 3 1 65)) nl (s23t 1 (sv (xi 10 10 507329952066759609643123 (s11 1 (xg 13 (.ofNat 0) 0 0 0 0 nl nl (s4t 1 (cl 0 0 nl nl (s23t 1 (sv (xi 10 4 1886351212 (s11 2 (xa 3 1 77 ++ xi 11 0 0 (s11 3 (xa 3 1 77 ++ xa 2 4 1953066601 ++ xa 3 1 65))))))))) nl nl nl false)))))
def cV2 : List D := cl 4 1819042147 (s11 2 (xa 3 1 80 ++ xa 3 1 81)) nl (s23t 1 (sv (xi 10 4 1819042147 (s11 3 (xa 3 1 80 ++ xa 3 1 81 ++ xa 2 8 8751735898823356009)))))
def cV3 : List D := cl 4 1819042147 (s11 3 (xa 3 1 80 ++ xa 3 1 81 ++ xa 3 1 84)) nl (s23 3 (sg true (xa 3 1 82) (xi 10 7 32210693120749421 (s11 1 (xa 3 1 80))) ++ sv (xi 9 1 33 (s11t 2 (xa 3 1 80 ++ xi 5 0 0 (s11 3 (xa 2 11 131075800593272735024702835 ++ xi 5 0 0 (s11 2 (xa 10 4 1718379891 ++ xa 3 1 82)) ++ xa 3 1 81))))) ++ sv (xg 17 (.ofNat 0) 0 0 0 0 (s11t 1 (xa 3 1 84)) nl (s4 2 (cl 0 0 (s11t 1 (xi 5 0 0 (s11 3 (xa 2 12 37578780953309797734711190899 ++ xa 3 1 82 ++ xa 3 1 88)))) nl (s23 2 (sv (xi 10 4 1886351972 (s11 1 (xa 3 1 82))) ++ sv (xa 3 1 88))) ++ cl 0 0 (s11t 1 (xi 5 0 0 (s11 4 (xa 2 4 1853321060 ++ xa 3 1 82 ++ xa 4 0 0 ++ xa 3 3 7956567)))) nl (s23t 1 (sv (xi 10 4 1953069157 (s11 1 (xi 5 0 0 (s11 2 (xa 2 11 133545856590288185443116403 ++ xa 3 3 7956567))))))))) nl nl (s23 2 (sv (xi 10 4 1886351972 (s11 1 (xa 3 1 82))) ++ sv (xi 10 4 1953069157 (s11 1 (xa 2 7 32780218601924980))))) true)))
def cV4 : List D := cl 4 1886351972 (s11 1 (xa 3 1 82)) nl (s23 2 (sv (xi 10 9 2110959984361434080612 (s11 1 (xa 3 1 82))) ++ sv (xg 17 (.ofNat 0) 0 0 0 0 (s11t 1 (xa 1 0 0)) nl (s4t 1 (cl 0 0 (s11t 1 (xi 5 0 0 (s11 4 (xa 2 4 1853321060 ++ xa 3 1 82 ++ xa 4 0 0 ++ xa 4 0 0)))) nl (s23t 1 (sv (xa 2 4 1702195828))))) nl nl (s23t 1 (sv (xa 2 4 1702195828))) true)))
def cV5 : List D := cl 5 521510348146 (s11 2 (xi 5 0 0 (s11 2 (xa 3 1 80 ++ xa 3 1 82)) ++ xa 3 1 88)) nl (s23 2 (sv (xi 9 1 33 (s11t 2 (xa 3 1 80 ++ xi 5 0 0 (s11 3 (xa 2 12 37578780953309797734711190899 ++ xa 3 1 82 ++ xa 3 1 88))))) ++ sv (xa 2 4 1702195828)))
def cV6 : List D := cl 4 1953718627 (s11 2 (xa 3 1 80 ++ xa 3 1 81)) nl (s23 2 (sv (xi 9 1 33 (s11t 2 (xa 3 1 80 ++ xi 5 0 0 (s11 2 (xa 2 11 140780263715569855938848115 ++ xa 3 1 81))))) ++ sv (xa 2 2 27503)))
def cV7 : List D := cl 4 1886352499 (s11 1 (xa 3 1 80)) nl (s23 3 (sg true (xa 3 1 82) (xi 10 7 32210693120749421 (s11 1 (xa 3 1 80))) ++ sv (xi 9 1 33 (s11t 2 (xa 3 1 80 ++ xa 2 11 135926022612238765747496307))) ++ sv (xg 17 (.ofNat 0) 0 0 0 0 nl nl (s4 2 (cl 0 0 (s11t 1 (xi 5 0 0 (s11 4 (xa 2 4 1853321060 ++ xa 3 1 82 ++ xa 4 0 0 ++ xa 2 6 119165703843694)))) nl (s23t 1 (sv (xa 2 2 27503))) ++ cl 0 0 (s11t 1 (xi 5 0 0 (s11 4 (xa 2 4 1853321060 ++ xa 3 1 82 ++ xa 4 0 0 ++ xa 3 3 7956567)))) nl (s23t 1 (sv (xi 10 4 1953069157 (s11 1 (xi 5 0 0 (s11 2 (xa 2 11 133545856590288185443116403 ++ xa 3 3 7956567))))))))) nl nl nl false)))
def cV8 : List D := cl 4 1886351212 (s11 2 (xa 3 1 77 ++ xa 3 1 83)) nl (s23t 1 (sv (xg 17 (.ofNat 0) 0 0 0 0 nl nl (s4 4 (cl 0 0 (s11t 1 (xi 5 0 0 (s11 3 (xa 2 11 131075800593272735024702835 ++ xa 3 4 1836020294 ++ xa 3 1 81)))) nl (s23t 1 (sv (xi 10 4 1954047342 (s11 3 (xa 3 1 77 ++ xa 3 4 1836020294 ++ xi 11 0 0 (s11 5 (xa 3 1 77 ++ xa 2 11 131075800593258471136059752 ++ xa 3 1 81 ++ xa 3 4 1836020294 ++ xa 3 1 83))))))) ++ cl 0 0 (s11t 1 (xi 5 0 0 (s11 2 (xa 2 11 140780263715569855938848115 ++ xa 3 1 81)))) nl (s23t 1 (sv (xi 10 4 1954047342 (s11 3 (xa 3 1 77 ++ xa 2 4 1701736302 ++ xi 11 0 0 (s11 4 (xa 3 1 77 ++ xa 2 11 140780263715555592050205032 ++ xa 3 1 81 ++ xa 3 1 83))))))) ++ cl 0 0 (s11t 1 (xa 2 11 135926022612238765747496307)) nl (s23t 1 (sv (xi 10 4 1953069157 (s11 1 (xa 2 6 119165703843694))))) ++ cl 0 0 (s11t 1 (xa 3 1 88)) nl (s23t 1 (sv (xi 10 4 1954047342 (s11 3 (xa 3 1 77 ++ xa 2 4 1701736302 ++ xi 11 0 0 (s11 4 (xa 3 1 77 ++ xa 2 11 134674484093223663240634728 ++ xa 3 1 88 ++ xa 3 1 83))))))))) nl nl nl false)))
def cV9 : List D := cl 4 1954047342 (s11 3 (xa 3 1 77 ++ xa 3 4 1836020294 ++ xi 5 0 0 (s11 3 (xa 2 5 521510348146 ++ xa 3 1 82 ++ xa 3 1 83)))) (.sl 1 1 (some 1) ([(s11t 1 (xi 9 3 4009789 (s11t 2 (xa 3 4 1836020294 ++ xa 2 4 1701736302))))])) (s23 2 (sv (xi 10 5 521510348146 (s11 2 (xa 3 4 1836020294 ++ xa 3 1 82))) ++ sv (xi 10 4 1886351212 (s11 2 (xa 3 1 77 ++ xa 3 1 83)))))
def cV10 : List D := cl 4 1954047342 (s11 3 (xa 3 1 77 ++ xa 4 0 0 ++ xi 5 0 0 (s11 2 (xa 2 7 34177702176124782 ++ xa 3 1 83)))) nl (s23t 1 (sv (xi 10 4 1886351212 (s11 2 (xa 3 1 77 ++ xa 3 1 83)))))
def cV11 : List D := cl 4 1954047342 (s11 3 (xa 4 0 0 ++ xa 4 0 0 ++ xi 5 0 0 (s11 3 (xa 2 4 1886352499 ++ xa 3 3 7956567 ++ xa 4 0 0)))) nl (s23t 1 (sv (xi 10 4 1953069157 (s11 1 (xa 3 3 7956567)))))
def cV12 : List D := cl 4 1954047342 (s11 3 (xa 4 0 0 ++ xa 4 0 0 ++ xa 3 1 86)) nl (s23t 1 (sv (xi 10 4 1953069157 (s11 1 (xi 5 0 0 (s11 2 (xa 2 10 521571705441205499486562 ++ xa 3 1 86)))))))
def rV0 : LR := claR 486 46 72 ((tkV.drop 46).take 29) cV0
def rV1 : LR := claR 486 73 99 ((tkV.drop 73).take 29) cV1
def rV2 : LR := claR 486 100 115 ((tkV.drop 100).take 18) cV2
def rV3 : LR := claR 486 116 195 ((tkV.drop 116).take 82) cV3
def rV4 : LR := claR 486 196 223 ((tkV.drop 196).take 30) cV4
def rV5 : LR := claR 486 224 246 ((tkV.drop 224).take 25) cV5
def rV6 : LR := claR 486 247 263 ((tkV.drop 247).take 19) cV6
def rV7 : LR := claR 486 264 312 ((tkV.drop 264).take 51) cV7
def rV8 : LR := claR 486 313 394 ((tkV.drop 313).take 84) cV8
def rV9 : LR := claR 486 395 427 ((tkV.drop 395).take 35) cV9
def rV10 : LR := claR 486 428 447 ((tkV.drop 428).take 22) cV10
def rV11 : LR := claR 486 448 467 ((tkV.drop 448).take 22) cV11
def rV12 : LR := claR 486 468 485 ((tkV.drop 468).take 20) cV12
end
theorem pV0 : runR (callS prims2 100) 31 [rV0] = true := by kernel_rfl
theorem pV1 : runR (callS prims2 100) 31 [rV1] = true := by kernel_rfl
theorem pV2 : runR (callS prims2 100) 31 [rV2] = true := by kernel_rfl
theorem pV3 : runR (callS prims2 100) 31 [rV3] = true := by kernel_rfl
theorem pV4 : runR (callS prims2 100) 31 [rV4] = true := by kernel_rfl
theorem pV5 : runR (callS prims2 100) 31 [rV5] = true := by kernel_rfl
theorem pV6 : runR (callS prims2 100) 31 [rV6] = true := by kernel_rfl
theorem pV7 : runR (callS prims2 100) 31 [rV7] = true := by kernel_rfl
theorem pV8 : runR (callS prims2 100) 31 [rV8] = true := by kernel_rfl
theorem pV9 : runR (callS prims2 100) 31 [rV9] = true := by kernel_rfl
theorem pV10 : runR (callS prims2 100) 31 [rV10] = true := by kernel_rfl
theorem pV11 : runR (callS prims2 100) 31 [rV11] = true := by kernel_rfl
theorem pV12 : runR (callS prims2 100) 31 [rV12] = true := by kernel_rfl
noncomputable def rowsV : List (Nat × LR) := [(46, rV0), (73, rV1), (100, rV2), (116, rV3), (196, rV4), (224, rV5), (247, rV6), (264, rV7), (313, rV8), (395, rV9), (428, rV10), (448, rV11), (468, rV12)]
theorem rowsV_ok : ∀ q, q ∈ rowsV → q.2.Ok 31 := by
  intro q hq
  simp only [rowsV, List.mem_cons, List.not_mem_nil, or_false] at hq
  rcases hq with rfl | rfl | rfl | rfl | rfl | rfl | rfl | rfl | rfl | rfl | rfl | rfl | rfl
  · exact runR_ok (callS_ok prims2_ok 100) pV0 _ (List.mem_singleton.2 rfl)
  · exact runR_ok (callS_ok prims2_ok 100) pV1 _ (List.mem_singleton.2 rfl)
  · exact runR_ok (callS_ok prims2_ok 100) pV2 _ (List.mem_singleton.2 rfl)
  · exact runR_ok (callS_ok prims2_ok 100) pV3 _ (List.mem_singleton.2 rfl)
  · exact runR_ok (callS_ok prims2_ok 100) pV4 _ (List.mem_singleton.2 rfl)
  · exact runR_ok (callS_ok prims2_ok 100) pV5 _ (List.mem_singleton.2 rfl)
  · exact runR_ok (callS_ok prims2_ok 100) pV6 _ (List.mem_singleton.2 rfl)
  · exact runR_ok (callS_ok prims2_ok 100) pV7 _ (List.mem_singleton.2 rfl)
  · exact runR_ok (callS_ok prims2_ok 100) pV8 _ (List.mem_singleton.2 rfl)
  · exact runR_ok (callS_ok prims2_ok 100) pV9 _ (List.mem_singleton.2 rfl)
  · exact runR_ok (callS_ok prims2_ok 100) pV10 _ (List.mem_singleton.2 rfl)
  · exact runR_ok (callS_ok prims2_ok 100) pV11 _ (List.mem_singleton.2 rfl)
  · exact runR_ok (callS_ok prims2_ok 100) pV12 _ (List.mem_singleton.2 rfl)
theorem claPV : PrimOf 31 (locP (lookC rowsV)) := claP_ok rowsV_ok
end Ev
end Go.Proofs.YtchmfcjfdhokoaaGreatDoor
