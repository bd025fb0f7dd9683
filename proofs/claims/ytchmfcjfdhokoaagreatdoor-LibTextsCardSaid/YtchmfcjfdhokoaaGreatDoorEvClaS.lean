/-
  The clauses of the text statem, each parsed by itself.
-/
import Derived.Test.YtchmfcjfdhokoaaGreatDoorEvTkS
import Derived.KernelRfl
namespace Go.Proofs.YtchmfcjfdhokoaaGreatDoor
namespace Ev
noncomputable section
def cS0 : List D := cl 5 500135195763 (s11 2 (xa 3 1 77 ++ xa 3 1 65)) nl (s23t 1 (sv (xi 10 5 474449277043 (s11 1 (xg 13 (.ofNat 0) 0 0 0 0 nl nl (s4t 1 (cl 0 0 nl nl (s23t 1 (sv (xi 10 5 500153084262 (s11 2 (xa 3 1 77 ++ xi 11 0 0 (s11 3 (xa 3 1 77 ++ xa 2 4 1953066601 ++ xa 3 1 65))))))))) nl nl nl false)))))
def cS1 : List D := cl 10 507329952066785295561843 (s11 2 (xa 3 1 77 ++ xa 3 1 65)) nl (s23t 1 (sv (xi 10 10 507329952066759609643123 (s11 1 (xg 13 (.ofNat 0) 0 0 0 0 nl nl (s4t 1 (cl 0 0 nl nl (s23t 1 (sv (xi 10 5 500153084262 (s11 2 (xa 3 1 77 ++ xi 11 0 0 (s11 3 (xa 3 1 77 ++ xa 2 4 1953066601 ++ xa 3 1 65))))))))) nl nl nl false)))))
def cS2 : List D := cl 4 1684956531 (s11 2 (xa 3 1 80 ++ xa 3 1 69)) nl (s23 2 (sv (xi 9 1 33 (s11t 2 (xa 3 1 80 ++ xi 5 0 0 (s11 2 (xa 2 12 36033722122468885116315858035 ++ xa 3 1 69))))) ++ sv (xa 2 2 27503)))
def cS3 : List D := cl 4 1886352499 (s11 1 (xa 3 1 80)) nl (s23 3 (sg true (xa 3 1 82) (xi 10 7 32210693120749421 (s11 1 (xa 3 1 80))) ++ sv (xi 9 1 33 (s11t 2 (xa 3 1 80 ++ xa 2 11 135926022612233268154692723))) ++ sv (xg 17 (.ofNat 0) 0 0 0 0 nl nl (s4 2 (cl 0 0 (s11t 1 (xi 5 0 0 (s11 4 (xa 2 4 1853321060 ++ xa 3 1 82 ++ xa 4 0 0 ++ xa 2 6 119165703843694)))) nl (s23t 1 (sv (xa 2 2 27503))) ++ cl 0 0 (s11t 1 (xi 5 0 0 (s11 4 (xa 2 4 1853321060 ++ xa 3 1 82 ++ xa 4 0 0 ++ xa 3 3 7956567)))) nl (s23t 1 (sv (xi 10 4 1953069157 (s11 1 (xi 5 0 0 (s11 2 (xa 2 11 133545856590282687850312819 ++ xa 3 3 7956567))))))))) nl nl nl false)))
def cS4 : List D := cl 5 500153084262 (s11 2 (xa 3 1 77 ++ xi 5 0 0 (s11 2 (xa 3 1 83 ++ xa 3 1 68)))) nl (s23t 1 (sv (xi 10 4 1886351212 (s11 3 (xi 5 0 0 (s11 4 (xa 3 1 77 ++ xa 3 1 83 ++ xa 3 1 68 ++ xa 2 8 8751735898823356009)) ++ xa 6 0 0 ++ xa 6 0 0)))))
def cS5 : List D := cl 5 500153084262 (s11 2 (xa 4 0 0 ++ xa 3 1 86)) nl (s23t 1 (sv (xi 10 4 1953069157 (s11 1 (xi 5 0 0 (s11 2 (xa 2 10 521571705441205499486562 ++ xa 3 1 86)))))))
def cS6 : List D := cl 4 1886351212 (s11 3 (xa 3 1 75 ++ xi 7 0 0 (s11 2 (xa 3 1 69 ++ xa 3 1 81)) ++ xa 3 1 72)) nl (s23t 1 (sv (xi 10 4 1885697139 (s11 4 (xa 3 1 75 ++ xa 3 1 69 ++ xa 3 1 81 ++ xa 3 1 72)))))
def cS7 : List D := cl 4 1886351212 (s11 3 (xa 3 1 75 ++ xa 6 0 0 ++ xa 3 1 72)) nl (s23 2 (sg true (xi 5 0 0 (s11 4 (xa 4 0 0 ++ xa 4 0 0 ++ xa 4 0 0 ++ xa 3 1 84))) (xa 3 1 75) ++ sv (xg 17 (.ofNat 0) 0 0 0 0 (s11t 1 (xa 3 1 84)) nl (s4 2 (cl 0 0 (s11t 1 (xi 5 0 0 (s11 2 (xa 2 12 36033722122468885116315858035 ++ xa 3 1 69)))) nl (s23t 1 (sv (xi 10 4 1885697139 (s11 4 (xa 3 1 75 ++ xa 3 1 69 ++ xa 6 0 0 ++ xa 3 1 72))))) ++ cl 0 0 (s11t 1 (xa 2 11 135926022612233268154692723)) nl (s23t 1 (sv (xi 10 4 1953069157 (s11 1 (xa 2 6 119165703843694))))))) nl nl (s23t 1 (sv (xi 10 4 1885697139 (s11 4 (xa 3 1 75 ++ xa 2 7 32780218601924980 ++ xa 6 0 0 ++ xa 3 1 72))))) true)))
def cS8 : List D := cl 4 1885697139 (s11 4 (xi 5 0 0 (s11 4 (xa 3 1 77 ++ xa 3 1 83 ++ xa 3 1 68 ++ xa 4 0 0)) ++ xa 3 1 69 ++ xa 3 1 81 ++ xa 3 1 72)) nl (s23t 1 (sv (xi 10 2 28519 (s11 6 (xa 3 1 77 ++ xa 3 1 83 ++ xi 11 0 0 (s11 5 (xa 3 1 77 ++ xa 2 6 111516215828840 ++ xa 3 1 69 ++ xa 3 1 83 ++ xa 3 1 68)) ++ xa 3 1 69 ++ xa 3 1 81 ++ xa 3 1 72)))))
def cS9 : List D := cl 2 28519 (s11 6 (xa 3 1 77 ++ xa 3 1 83 ++ xi 5 0 0 (s11 3 (xa 2 4 1954047342 ++ xa 3 1 78 ++ xa 3 1 68)) ++ xa 3 1 69 ++ xa 3 1 81 ++ xa 3 1 72)) nl (s23t 1 (sv (xi 10 2 28519 (s11 6 (xa 3 1 77 ++ xa 3 1 83 ++ xi 5 0 0 (s11 4 (xa 2 4 1954047342 ++ xa 3 1 78 ++ xa 3 1 68 ++ xa 2 8 8751735898823356009)) ++ xa 3 1 69 ++ xa 3 1 81 ++ xa 3 1 72)))))
def cS10 : List D := cl 2 28519 (s11 6 (xa 3 1 77 ++ xa 3 1 83 ++ xi 5 0 0 (s11 4 (xa 2 4 1954047342 ++ xa 3 1 83 ++ xa 3 1 68 ++ xa 3 1 84)) ++ xa 4 0 0 ++ xa 3 1 81 ++ xa 3 1 72)) nl (s23t 1 (sv (xi 10 4 1886351212 (s11 3 (xi 5 0 0 (s11 4 (xa 3 1 77 ++ xa 3 1 83 ++ xa 3 1 68 ++ xa 3 1 84)) ++ xa 3 1 81 ++ xa 3 1 72)))))
def cS11 : List D := cl 2 28519 (s11 6 (xa 3 1 77 ++ xa 4 0 0 ++ xi 5 0 0 (s11 4 (xa 2 4 1954047342 ++ xa 3 1 83 ++ xa 3 1 68 ++ xa 3 1 84)) ++ xa 4 0 0 ++ xa 3 1 81 ++ xa 3 1 72)) nl (s23t 1 (sv (xi 10 4 1886351212 (s11 3 (xi 5 0 0 (s11 4 (xa 3 1 77 ++ xa 3 1 83 ++ xa 3 1 68 ++ xa 3 1 84)) ++ xi 9 2 11051 (s11t 2 (xi 10 7 28555907813500274 (s11 1 (xa 3 1 72)) ++ xa 3 1 81)) ++ xa 6 0 0)))))
def cS12 : List D := cl 2 28519 (s11 6 (xa 3 1 77 ++ xa 3 1 83 ++ xi 5 0 0 (s11 2 (xa 2 4 1885693291 ++ xa 3 1 68)) ++ xa 4 0 0 ++ xa 3 1 81 ++ xa 3 1 72)) nl (s23t 1 (sv (xi 10 4 1886351212 (s11 3 (xi 5 0 0 (s11 4 (xa 3 1 77 ++ xa 3 1 83 ++ xa 3 1 68 ++ xa 2 8 8751735898823356009)) ++ xa 3 1 81 ++ xa 3 1 72)))))
def cS13 : List D := cl 2 28519 (s11 6 (xa 3 1 77 ++ xa 3 1 83 ++ xi 5 0 0 (s11 2 (xa 2 8 7308901774049636208 ++ xa 3 1 68)) ++ xa 2 7 32780218601924980 ++ xa 3 1 81 ++ xa 3 1 72)) nl (s23t 1 (sv (xi 10 4 1886351212 (s11 3 (xi 5 0 0 (s11 4 (xa 3 1 77 ++ xa 3 1 83 ++ xa 3 1 68 ++ xa 2 8 8751735898823356009)) ++ xa 3 1 81 ++ xa 3 1 72)))))
def cS14 : List D := cl 2 28519 (s11 6 (xa 3 1 77 ++ xa 3 1 83 ++ xi 5 0 0 (s11 2 (xa 2 8 7308901774049636208 ++ xa 3 1 68)) ++ xa 3 1 69 ++ xa 3 1 81 ++ xa 3 1 72)) nl (s23t 1 (sv (xi 10 4 1886351212 (s11 3 (xi 5 0 0 (s11 4 (xa 3 1 77 ++ xa 3 1 83 ++ xa 3 1 68 ++ xa 2 8 8751735898823356009)) ++ xa 3 1 81 ++ xi 7 0 0 (s11 2 (xa 3 1 69 ++ xa 3 1 72)))))))
def cS15 : List D := cl 2 28519 (s11 6 (xa 4 0 0 ++ xa 4 0 0 ++ xi 5 0 0 (s11 2 (xa 2 4 1886352499 ++ xa 3 3 7956567)) ++ xa 4 0 0 ++ xa 4 0 0 ++ xa 4 0 0)) nl (s23t 1 (sv (xi 10 4 1953069157 (s11 1 (xa 3 3 7956567)))))
def cS16 : List D := cl 2 28519 (s11 6 (xa 4 0 0 ++ xa 4 0 0 ++ xa 3 1 86 ++ xa 4 0 0 ++ xa 4 0 0 ++ xa 4 0 0)) nl (s23t 1 (sv (xi 10 4 1953069157 (s11 1 (xi 5 0 0 (s11 2 (xa 2 10 521571705441205499486562 ++ xa 3 1 86)))))))
def rS0 : LR := claR 620 34 60 ((tkS.drop 34).take 29) cS0
def rS1 : LR := claR 620 61 87 ((tkS.drop 61).take 29) cS1
def rS2 : LR := claR 620 88 104 ((tkS.drop 88).take 19) cS2
def rS3 : LR := claR 620 105 153 ((tkS.drop 105).take 51) cS3
def rS4 : LR := claR 620 154 183 ((tkS.drop 154).take 32) cS4
def rS5 : LR := claR 620 184 199 ((tkS.drop 184).take 18) cS5
def rS6 : LR := claR 620 200 223 ((tkS.drop 200).take 26) cS6
def rS7 : LR := claR 620 224 286 ((tkS.drop 224).take 65) cS7
def rS8 : LR := claR 620 287 329 ((tkS.drop 287).take 45) cS8
def rS9 : LR := claR 620 330 373 ((tkS.drop 330).take 46) cS9
def rS10 : LR := claR 620 374 413 ((tkS.drop 374).take 42) cS10
def rS11 : LR := claR 620 414 459 ((tkS.drop 414).take 48) cS11
def rS12 : LR := claR 620 460 495 ((tkS.drop 460).take 38) cS12
def rS13 : LR := claR 620 496 531 ((tkS.drop 496).take 38) cS13
def rS14 : LR := claR 620 532 571 ((tkS.drop 532).take 42) cS14
def rS15 : LR := claR 620 572 595 ((tkS.drop 572).take 26) cS15
def rS16 : LR := claR 620 596 619 ((tkS.drop 596).take 26) cS16
end
theorem pS0 : runR (callS prims2 100) 31 [rS0] = true := by kernel_rfl
theorem pS1 : runR (callS prims2 100) 31 [rS1] = true := by kernel_rfl
theorem pS2 : runR (callS prims2 100) 31 [rS2] = true := by kernel_rfl
theorem pS3 : runR (callS prims2 100) 31 [rS3] = true := by kernel_rfl
theorem pS4 : runR (callS prims2 100) 31 [rS4] = true := by kernel_rfl
theorem pS5 : runR (callS prims2 100) 31 [rS5] = true := by kernel_rfl
theorem pS6 : runR (callS prims2 100) 31 [rS6] = true := by kernel_rfl
theorem pS7 : runR (callS prims2 100) 31 [rS7] = true := by kernel_rfl
theorem pS8 : runR (callS prims2 100) 31 [rS8] = true := by kernel_rfl
theorem pS9 : runR (callS prims2 100) 31 [rS9] = true := by kernel_rfl
theorem pS10 : runR (callS prims2 100) 31 [rS10] = true := by kernel_rfl
theorem pS11 : runR (callS prims2 100) 31 [rS11] = true := by kernel_rfl
theorem pS12 : runR (callS prims2 100) 31 [rS12] = true := by kernel_rfl
theorem pS13 : runR (callS prims2 100) 31 [rS13] = true := by kernel_rfl
theorem pS14 : runR (callS prims2 100) 31 [rS14] = true := by kernel_rfl
theorem pS15 : runR (callS prims2 100) 31 [rS15] = true := by kernel_rfl
theorem pS16 : runR (callS prims2 100) 31 [rS16] = true := by kernel_rfl
noncomputable def rowsS : List (Nat × LR) := [(34, rS0), (61, rS1), (88, rS2), (105, rS3), (154, rS4), (184, rS5), (200, rS6), (224, rS7), (287, rS8), (330, rS9), (374, rS10), (414, rS11), (460, rS12), (496, rS13), (532, rS14), (572, rS15), (596, rS16)]
theorem rowsS_ok : ∀ q, q ∈ rowsS → q.2.Ok 31 := by
  intro q hq
  simp only [rowsS, List.mem_cons, List.not_mem_nil, or_false] at hq
  rcases hq with rfl | rfl | rfl | rfl | rfl | rfl | rfl | rfl | rfl | rfl | rfl | rfl | rfl | rfl | rfl | rfl | rfl
  · exact runR_ok (callS_ok prims2_ok 100) pS0 _ (List.mem_singleton.2 rfl)
  · exact runR_ok (callS_ok prims2_ok 100) pS1 _ (List.mem_singleton.2 rfl)
  · exact runR_ok (callS_ok prims2_ok 100) pS2 _ (List.mem_singleton.2 rfl)
  · exact runR_ok (callS_ok prims2_ok 100) pS3 _ (List.mem_singleton.2 rfl)
  · exact runR_ok (callS_ok prims2_ok 100) pS4 _ (List.mem_singleton.2 rfl)
  · exact runR_ok (callS_ok prims2_ok 100) pS5 _ (List.mem_singleton.2 rfl)
  · exact runR_ok (callS_ok prims2_ok 100) pS6 _ (List.mem_singleton.2 rfl)
  · exact runR_ok (callS_ok prims2_ok 100) pS7 _ (List.mem_singleton.2 rfl)
  · exact runR_ok (callS_ok prims2_ok 100) pS8 _ (List.mem_singleton.2 rfl)
  · exact runR_ok (callS_ok prims2_ok 100) pS9 _ (List.mem_singleton.2 rfl)
  · exact runR_ok (callS_ok prims2_ok 100) pS10 _ (List.mem_singleton.2 rfl)
  · exact runR_ok (callS_ok prims2_ok 100) pS11 _ (List.mem_singleton.2 rfl)
  · exact runR_ok (callS_ok prims2_ok 100) pS12 _ (List.mem_singleton.2 rfl)
  · exact runR_ok (callS_ok prims2_ok 100) pS13 _ (List.mem_singleton.2 rfl)
  · exact runR_ok (callS_ok prims2_ok 100) pS14 _ (List.mem_singleton.2 rfl)
  · exact runR_ok (callS_ok prims2_ok 100) pS15 _ (List.mem_singleton.2 rfl)
  · exact runR_ok (callS_ok prims2_ok 100) pS16 _ (List.mem_singleton.2 rfl)
theorem claPS : PrimOf 31 (locP (lookC rowsS)) := claP_ok rowsS_ok
end Ev
end Go.Proofs.YtchmfcjfdhokoaaGreatDoor
