/-
  The functions of the program, compiled (printed by a program of ours; each is held against the program's own text below).
-/
import Derived.Test.YtihflniehaaakaaGreatDoorCkQ
namespace Go.Proofs.YtihflniehaaakaaGreatDoor
set_option linter.unusedVariables false
set_option linter.unusedSimpArgs false
namespace Ev
noncomputable section
namespace Q
set_option maxRecDepth 100000 in
def T49 : Was (a51 1 (t7 1 b6 w4 (a33 d0 c1 (z0 d0 a2)) (e4 15 (i9 5 1 (w1 (.mks (m4 .nils) 24) 1 p7)) (n8 6 0 (b4 19 6 (a18 3 1 4) (f7 23 0) (e1 1 26 (a8 3 1 (m6 6 4 3 1 r4)) (.d 32 (e7 (a3 5 (e7 (g7 7 (g7 5 (g7 7 (q2 1 2 (a74 (a8 3 1 (m6 6 4 1 1 (a5 (a4 111 (a9 (n6 (u3 .nils .nils (q5 a7 [])) 1 7 7 (d6 (l8 7 104 9 (j6 (p8 1 15 14 (f8 2 (t0 1))))))))))))))))))))) (a39 24 6 6))) (n8 8 2 (b4 48 8 (a18 4 1 4) (f7 52 2) (e1 3 55 (a8 4 1 (m6 8 3 2 1 (c5 9))) (.d 61 (e7 (a3 5 (e7 (g7 9 (g7 5 (g7 9 (q2 1 2 (a74 (a8 4 1 (m6 8 3 0 1 (a8 4 1 (m6 8 3 1 1 (f0 .add 7 (a5 (a4 111 (a9 (n6 (u3 .nils .nils (q5 a7 [])) 1 7 7 (d6 (l8 7 104 16 (j6 (p8 1 22 21 (f8 2 (t0 1)))))))))))))))))))))))) (a39 53 8 8))) (e4 84 (i9 5 1 (w1 (.mks (m4 .nilp) 8) 1 (c5 10))) (n8 11 4 (b4 88 11 (a18 5 1 4) (f7 92 4) (l5 5 (b0 96 5 (k8 11 1 (a4 112 (o5 95 100 5 (v9 0 6 (o6 1 7 2 8 (r0 12 (u3 .nils .nils (q5 a7 [])) (w9 7 12 s1 (r7 13 f1 14)))))))) (b4 104 14 (r2 (e8 (a3 13 (s3 2 c9)))) (c8 108 (b0 109 10 (h7 11 1 (y1 1 (d8 12))) (c4 112 (b2 6 1 (b2 7 12 (a8 5 1 (y3 11 10 10 (a5 (e3 113 7 (i1 6) (a9 (c5 14)))))))) (.q (c4 120 (n5 14 .eql 1 a2 (e8 (b2 7 12 (a8 5 1 (m6 11 10 0 1 (g7 11 (e3 114 8 b9 (.n :: a9 (t5 .pick 10 c9))))))))) (c8 132 (.r 14 (n2 d0 (c7 182))))) (b0 133 14 (k7 .eql a2) (c8 134 (.r 136 (b2 6 1 (a3 11 (b2 7 12 (f6 5 10 (e3 115 5 (f2 4 l7) (o5 135 141 6 (o6 0 7 1 8 (r7 5 f1 14))))))))))))))) (b0 144 14 (k7 .neq a2) (l6 145 146 11 (a3 14 (u4 2 c1 (u4 3 f1 d2))))))) 93 11 11)) (d7 148 10 (u4 2 b3 (a09 3 a2 4 a2))))))))) 2 (x9 3 (x9 4 []))) := ⟨_, by conv => rhs; reduce⟩
end Q
def cf49 : CF := Q.T49.1
set_option maxRecDepth 100000 in
theorem cf49_ok : compF TP Tryz.f49 = some cf49 := by kernel_rfl
namespace Q
set_option maxRecDepth 100000 in
def T50 : Was (r1 0 (s0 0 p3 (g0 1 (r9 p3 (a40 0 1) (c7 8) (a46 9 (a57 2 b3))))) 0 9) := ⟨_, by conv => rhs; reduce⟩
end Q
def cf50 : CF := Q.T50.1
set_option maxRecDepth 100000 in
theorem cf50_ok : compF TP Tryz.f50 = some cf50 := by kernel_rfl
namespace Q
set_option maxRecDepth 100000 in
def T51 : Was (s7 1 1 (a31 b6 1 e5) (g0 3 (a71 9 e6 (a4 116 (r2 d4)))) 2) := ⟨_, by conv => rhs; reduce⟩
end Q
def cf51 : CF := Q.T51.1
set_option maxRecDepth 100000 in
theorem cf51_ok : compF TP Tryz.f51 = some cf51 := by kernel_rfl
namespace Q
set_option maxRecDepth 100000 in
def T52 : Was (g3 3 (a10 4 b6 (d8 1) (c4 6 (g7 0 (b1 (e7 (g7 0 (b2 16 4 (e7 (a3 2 (y2 5 2342 (a5 (x7 1 (c7 3) (a9 (v6 .nilc 6 (a17 2343 (d6 (x7 16 (o8 6) (j6 (v6 .nilc 7 (j6 (g9 2359 (f8 2 (m5 1 7))))))))))))))))))))) (a27 17 2 (c8 17 (d1 18 (l0 2324 (a46 1 c9)))))))) := ⟨_, by conv => rhs; reduce⟩
end Q
def cf52 : CF := Q.T52.1
set_option maxRecDepth 100000 in
theorem cf52_ok : compF TP Tryz.f52 = some cf52 := by kernel_rfl
namespace Q
set_option maxRecDepth 100000 in
def T54 : Was (a45 2 (t7 3 b6 e6 (p1 (o1 p3) [] e5) (a49 0 (b5 7 (e2 3 (i0 1 (i4 1 3 (j8 .geq (l9 4 1 1 3 (h6 .lss 256 (f4 4 m0))))))) 6 (c4 20 (b1 (a8 1 3 (y2 3 11 (l1 (.ixarrp 256 9) 1 s1 (g8 9 (a5 (w9 9 4 b3 (a9 (a38 5 d5))))))))) .ret) (c4 28 (e2 3 (i0 2 (v2 (y4 2315 8 1 (l9 6 1 1 3 (j8 .geq (l9 4 1 1 3 (b1 (y4 2315 7 1 (a11 .lss 7 (f4 10 (c5 27)))))))))))) (g5 27 (c4 54 (b1 (y4 2315 7 1 (a8 1 3 (q2 9 3 (g8 9 (a5 (w9 9 4 b3 (a9 (a38 5 d5))))))))) .ret) (c4 64 (e2 3 (i0 3 (i4 1 3 (j8 .geq (l9 4 1 1 3 (b1 (l0 2315 (g9 0 (o0 2 1 (a11 .lss 8 (f4 11 (c5 63)))))))))))) (c8 63 (c4 84 (b1 (l0 2315 (g9 0 (o0 2 1 (a8 1 3 (q2 9 3 (g8 9 (a5 (w9 9 4 b3 (a9 (a38 5 d5))))))))))) .ret)))))) (g0 94 (r9 p3 [] [] (a05 9 4 b3 5 e5))))) 4 9 (x9 5 [])) := ⟨_, by conv => rhs; reduce⟩
end Q
def cf54 : CF := Q.T54.1
set_option maxRecDepth 100000 in
theorem cf54_ok : compF TP Tryz.f54 = some cf54 := by kernel_rfl
namespace Q
set_option maxRecDepth 100000 in
def T55 : Was (z1 3 (a19 4 b6 1 (g1 1 (n2 d0 a2)) (b7 11 (y4 2315 7 1 (c6 (h6 .quo 4 (a89 .add (a73 30) 7)))) (.q (i6 19 0 4 k4 (.b 0 (g4 22 (a21 2 2 21) 21 (c0 23 (a0 20 3 21) 21 (c0 24 (a0 20 4 21) 21 (c0 25 (a0 20 11 21) 21 (m9 26 20 30 21)))) (g5 21 (d3 27 7 (h6 .add 60 (a3 2 (a4 117 (a28 .mul 4 (f0 .add 4 r4)))))) (g4 34 (a0 20 13 33) 33 (m9 35 20 14 33) (g5 33 (b0 36 7 (h6 .add 300 (a3 2 (a4 117 (a28 .mul 4 (f0 .add 4 r4))))) (k5 42 (a8 7 4 (k7 .eql (h0 4 1953656691))) 44 (d3 45 7 (a3 2 (a4 118 (f0 .add 3 r4)))))) (b5 50 (a0 20 12 49) 49 (.d 51 (e7 (a3 7 (e7 (j4 8 4 (e7 (i2 (e7 (c6 (e7 (a28 .mul 2 (a3 2 (g1 4 (j7 0 (a07 (a48 2315 (a48 0 (a55 2 (n4 57 (a4 117 (d6 (a28 .add 20 (d6 (f0 .mul 4 (d6 (f0 .add 9 (r3 6 (a4 117 (j6 (a28 .mul 2 (j6 (f0 .add 9 (j6 r4))))))))))))))))))))))))))))))))) (b5 71 (a0 20 35 70) 70 (a66 8 a2 1 (b4 72 8 (a18 9 4 4) (f7 76 1) (l5 2 (b7 80 (a8 9 4 (h7 8 6 (g9 1 (g8 2 (f9 54 7 (o5 79 87 8 (o6 0 9 1 10 (r0 9 p3 (y9 9 9 (z6 10 (a56 89 [] []))))))))))) (d3 90 7 (h6 .add 100 (b2 9 9 (a4 119 (a28 .mul 12 (f0 .add 4 r4))))))) 77 8 8))) (g4 97 (a0 20 31 96) 96 (c0 98 (a0 20 32 96) 96 (m9 99 20 33 96)) (g5 96 (d3 100 7 (h6 .add 60 (b1 (y4 2329 1 1 (a28 .mul 6 (f0 .add 7 r4)))))) (g4 110 (a0 20 16 109) 109 (c0 111 (a0 20 17 109) 109 (c0 112 (a0 20 18 109) 109 (c0 113 (a0 20 19 109) 109 (c0 114 (a0 20 20 109) 109 (c0 115 (a0 20 21 109) 109 (c0 116 (a0 20 22 109) 109 (c0 117 (a0 20 23 109) 109 (c0 118 (a0 20 15 109) 109 (c0 119 (a0 20 26 109) 109 (m9 120 20 28 109)))))))))) (g5 109 (d3 121 7 (h6 .add 60 (d9 2325 (a11 .add 6 r4)))) (k5 130 (a0 20 37 129) 129 (a93 131 7 60 7)))))))))))))) (d7 133 7 m0)))) 6) := ⟨_, by conv => rhs; reduce⟩
end Q
def cf55 : CF := Q.T55.1
set_option maxRecDepth 100000 in
theorem cf55_ok : compF TP Tryz.f55 = some cf55 := by kernel_rfl
namespace Q
set_option maxRecDepth 100000 in
def T57 : Was (v3 1 2 (.q (a27 3 0 (.b 0 (g4 5 (a21 2 2 4) 4 (c0 6 (a0 3 3 4) 4 (c0 7 (a0 3 4 4) 4 (c0 8 (a0 3 13 4) 4 (c0 9 (a0 3 14 4) 4 (c0 10 (a0 3 31 4) 4 (c0 11 (a0 3 32 4) 4 (m9 12 3 33 4))))))) (j1 4 2 d5)))) (q0 2)) 2) := ⟨_, by conv => rhs; reduce⟩
end Q
def cf57 : CF := Q.T57.1
set_option maxRecDepth 100000 in
theorem cf57_ok : compF TP Tryz.f57 = some cf57 := by kernel_rfl
namespace Q
set_option maxRecDepth 100000 in
def T58 : Was (g3 3 (a10 4 b6 (d8 1) (i6 14 0 4 k4 (.b 0 (b5 43 (a0 15 1 42) 42 (.d 44 (b1 (x1 1 4 2 (t3 2 9 1 a2 (g8 9 (a5 (f3 122 6 (i1 4)))))))) (b5 52 (a0 15 2 51) 51 (a14 54 2 123 (o5 53 55 2 (o6 0 3 1 4 (r0 6 p3 (y9 9 6 r4)))) (d1 58 (x1 1 4 2 (b2 9 6 (j9 7 124 5 l7))))) (b5 65 (a0 15 3 64) 64 (c4 67 (t3 2 9 1 a2 (g8 9 (t3 2 9 1 g6 (g8 9 (a5 (r0 8 p3 (a5 (f9 125 4 (z6 66 (a9 (a60 73 [] 7 (a9 (v9 0 8 (d6 (v9 1 9 (d6 (y9 9 8 (j6 (c5 9))))))))))))))))))) (d1 76 (x1 1 4 2 (b2 9 8 (j9 9 124 5 l7))))) (b5 83 (a0 15 4 82) 82 (b7 84 (l0 2315 (g9 0 (i3 6 10 (q6 (p9 [])) 6 10))) (c4 89 (a5 (v5 0 10 (a5 (v5 1 10 (a5 (v5 5 4 (a5 (v5 4 10 (a5 (v5 5 4 (a5 (q2 3 3 (a55 0 (m2 (.bslice p3 0 9 []) [] (g7 2 (r0 11 p3 (a5 (l8 9 112 2 (a9 (a06 p3 (a47 0 (u6 3 2 (o2 1 5 1 6 1))) 4 (f2 15 (f2 13 (f2 11 (i1 4)))) (d6 (f5 9 11)))))))))))))))))))))) (.d 106 (j7 0 (j4 1 4 (a5 (g8 2 (a5 (b2 9 11 (b2 9 11 (a5 (a4 116 (d6 (f3 124 6 (f2 4 r5))))))))))))))) (b5 114 (a0 15 5 113) 113 (.q (c4 115 (t3 2 9 1 a2 (o0 0 1 (h6 .neq 7 (k1 5 4 (t3 2 9 1 a2 (o0 6 1 (a11 .geq 6 (n1 9)))))))) (l6 129 130 0 (a4 53 []))) (.d 132 (b1 (x1 1 4 2 (t3 2 9 1 a2 (o0 6 1 (a8 5 4 (q2 9 3 (g8 9 (a5 (f3 122 11 (i1 9)))))))))))) (b0 17 2 (v7 9 1 a2 (g8 9 (a4 126 (o5 16 20 4 (o6 0 5 1 6 (r0 12 p3 (y9 9 12 (c5 13)))))))) (h9 23 (e2 4 (q7 .eql 7)) 25 (d3 27 2 (v7 9 1 a2 (g8 9 (a4 127 (o5 26 30 4 (o6 0 5 1 6 (y9 9 12 (c5 13)))))))) (b4 33 13 k0 (l6 34 35 0 (a4 53 [])) (d1 37 (x1 1 4 2 (b2 9 12 (f3 122 4 b9)))))))))))))))) := ⟨_, by conv => rhs; reduce⟩
end Q
def cf58 : CF := Q.T58.1
set_option maxRecDepth 100000 in
theorem cf58_ok : compF TP Tryz.f58 = some cf58 := by kernel_rfl
namespace Q
set_option maxRecDepth 100000 in
def T59 : Was (g3 3 (a10 4 b6 (d8 1) (a12 8 (a8 4 4 m0) (i6 10 0 4 k4 (.b 0 (b5 13 (a21 2 9 12) 12 (c4 14 (t3 2 9 1 a2 (o0 0 1 (i0 7 (e8 (t3 2 9 1 a2 (o0 6 1 (c6 (a8 5 4 (f0 .eql 3 (s3 9 c9)))))))))) (c8 28 .ret)) (b5 30 (a0 11 10 29) 29 (b0 31 2 (v7 9 1 a2 (o0 0 1 (q7 .eql 9))) (c8 35 .ret)) (b5 37 (a0 11 11 36) 36 (c4 38 (t3 2 9 1 a2 (g8 9 (t3 2 9 1 g6 (g8 9 (a5 (f9 128 4 (a9 (k7 .eql a2)))))))) (c8 45 .ret)) (k5 47 (a0 11 12 46) 46 (a66 7 a2 1 (b4 48 7 (a18 8 4 4) (f7 52 1) (l5 2 (c4 55 (b1 (l0 2315 (g9 0 (o0 2 1 (a8 8 4 (m6 7 2 0 1 (q2 9 7 (g8 9 (t3 2 9 1 a2 (g8 9 (a5 (f9 128 4 (a9 (k7 .eql a2)))))))))))))) (c8 73 (.r 74 (a8 8 4 (m6 7 2 1 1 m0))))) 53 7 7))))))))) (d1 80 (a3 6 (y2 2 2315 (g9 6 (m5 1 4)))))))) := ⟨_, by conv => rhs; reduce⟩
end Q
def cf59 : CF := Q.T59.1
set_option maxRecDepth 100000 in
theorem cf59_ok : compF TP Tryz.f59 = some cf59 := by kernel_rfl
namespace Q
set_option maxRecDepth 100000 in
def T60 : Was (g3 3 (a10 4 b6 (d8 1) (s0 6 p3 (a70 7 (o1 (q6 a77)) [] (i6 12 7 4 k4 (.b 0 (b5 26 (j3 13 2 32123 25) 25 (a14 28 2 123 (o5 27 29 2 (o6 0 3 1 4 (r0 8 p3 (y9 9 8 (c5 9))))) (e4 32 (b2 9 8 (f5 9 6)) (b0 33 9 (k7 .neq a2) (c8 34 (.r 35 (v8 129 (h0 12 36027715032999405127646542195) (f5 10 7))))))) (b5 37 (j3 13 1 124 36) 36 (c4 39 (t3 2 9 1 a2 (g8 9 (t3 2 9 1 g6 (g8 9 (a5 (r0 10 p3 (a5 (f9 125 4 (z6 38 (a9 (a60 45 [] 7 (a9 (v9 0 8 (d6 (v9 1 9 (d6 (y9 9 10 (j6 (c5 11))))))))))))))))))) (e4 48 (b2 9 10 (f5 9 6)) (b0 49 11 (k7 .neq a2) (c8 50 (.r 51 (v8 129 (h0 12 36027715032999405127646542195) (f5 10 7))))))) (.d 15 (b1 (l0 0 (g8 9 (a8 7 4 (g7 2 (e3 130 4 b9 (z6 14 (a9 (a60 22 [] 8 (a9 (v9 0 9 (d6 (v9 1 10 (d6 (y9 9 6 (f8 2 (f5 10 7)))))))))))))))))))))) (.b 1 (b5 56 (e2 7 (q9 .eql 1 n9 (c5 55))) 55 (d1 59 (x1 1 4 2 (b2 9 6 (f3 122 4 b9)))) (b5 65 (e2 4 (p6 .eql 13 64)) 64 (d1 68 (a8 4 4 (y2 3 2315 (g9 6 (m5 1 4))))) (d1 52 (b2 10 7 (n0 121 2)))))))))) := ⟨_, by conv => rhs; reduce⟩
end Q
def cf60 : CF := Q.T60.1
set_option maxRecDepth 100000 in
theorem cf60_ok : compF TP Tryz.f60 = some cf60 := by kernel_rfl
namespace Q
set_option maxRecDepth 100000 in
def T61 : Was (g3 3 (a10 4 b6 (d8 1) (e4 10 (e2 4 (i0 17 (k1 0 4 (i0 19 (k6 4 (k1 0 4 (i0 21 (k6 4 (k1 0 4 (i0 23 (k6 4 m0))))))))))) (b4 28 6 (v2 (a4 131 (z9 .pick 4 c9 (h2 (d9 2332 (j8 .neq (n1 6))))))) (l6 40 41 0 (a4 53 [])) (i6 43 0 4 k4 (.b 0 (b5 87 (a0 44 15 86) 86 (.d 88 (j7 0 (v5 7 4 (b1 (a8 5 4 (a5 (f9 132 3 (a9 (a06 (a36 a1 (a53 a1 (a04 .nils a1 a1 (q1 a1 a1 a6 [])))) (o2 0 11 1 14 1) 4 (i1 5) (d6 (f3 52 8 c9))))))))))) (g4 98 (a0 44 16 97) 97 (m9 99 44 17 97) (g5 97 (c4 100 (b1 (l0 2315 (g9 0 (o0 3 1 (a8 5 4 (q2 4 3 (g8 4 (r0 7 (p5 a1 a6 a7 a6 []) (a5 (f5 4 7)))))))))) (.d 110 (j7 0 (g7 0 (a07 (a48 2315 (a48 0 (a5 (g8 6 (a5 (v5 3 7 (b1 (a8 1 7 (u9 1 (a3 6 (n4 121 (f9 132 3 (r3 1 (f3 31 13 (f2 8 (a62 6))))))))))))))))))))) (g4 125 (a0 44 18 124) 124 (m9 126 44 19 124) (g5 124 (.d 127 (j7 0 (g7 2 (v7 9 1 a2 (a5 (g8 9 (j7 2 (v7 9 1 g6 (a5 (g8 9 (b1 (a8 5 4 (u9 1 (a3 6 (n4 137 (f9 132 3 (r3 1 (f3 133 12 (f2 9 (a62 6)))))))))))))))))))) (g4 141 (a0 44 20 140) 140 (m9 142 44 21 140) (g5 140 (.d 143 (j7 0 (g7 2 (v7 9 1 a2 (a5 (g8 9 (b1 (a8 5 4 (u9 1 (a3 6 (n4 150 (f9 132 3 (r3 1 (f3 134 9 (a62 6))))))))))))))) (b0 46 2 (a3 2 (c6 (s9 (q2 9 4 (g8 9 (a4 135 (o5 45 52 7 (o6 0 8 1 9 (r7 8 f1 9))))))))) (.b 1 (b0 63 9 (s2 (h2 (a3 8 (c6 (h6 .gtr 16 (k6 4 (c5 62))))))) (g5 62 (d1 70 (v1 66 1 6 113740957901154)) (b0 73 2 (c6 (p6 .eql 3 72)) (g5 72 (.d 76 (b1 (t3 2 9 1 a2 (g8 9 (t3 2 9 1 g6 (g8 9 (a3 8 (g7 6 (f3 133 9 (f2 6 l7)))))))))) (d1 55 (t3 2 9 1 a2 (g8 9 (a3 8 (j9 6 134 6 l7)))))))))))))))))))))))) := ⟨_, by conv => rhs; reduce⟩
end Q
def cf61 : CF := Q.T61.1
set_option maxRecDepth 100000 in
theorem cf61_ok : compF TP Tryz.f61 = some cf61 := by kernel_rfl
namespace Q
set_option maxRecDepth 100000 in
def T62 : Was (g3 3 (a10 4 b6 (d8 1) (s4 8 2326 (c6 m0) (i6 13 0 4 k4 (.b 0 (b5 47 (a0 14 24 46) 46 (h4 48 (l0 2315 (g9 8 k4)) (l6 52 53 0 (a4 53 [])) (c4 55 (g7 0 (g7 0 (v5 5 4 (a5 (w1 (.mks p3 112) 1 (y2 5 2315 (g9 8 (a5 (x7 1 d5 (a9 (v6 .nilc 7 (a17 2315 (a17 7 (d6 (m5 1 7))))))))))))))) (a66 7 a2 1 (b4 66 7 (a8 5 4 (a67 3)) (f7 69 1) (l5 2 (.d 72 (j7 0 (a07 (a48 2315 (a55 7 (j7 7 (v8 50 [] (a9 (v7 9 3 f1 (d6 (t0 9))))))))))) 70 7 7))))) (b5 81 (a0 14 25 80) 80 (h4 82 (y4 2315 8 1 k0) (l6 87 88 0 (a4 53 [])) (d1 90 (b1 (y2 2 2315 (g9 8 (a69 1 c9 (y2 4 2315 (g9 7 (y1 1 c1))))))))) (b5 99 (a0 14 26 98) 98 (d1 100 (a4 136 [])) (b5 103 (a0 14 27 102) 102 (b4 104 2 (v7 9 1 a2 (o0 0 1 (h6 .neq 2 (h2 (t3 2 9 1 a2 (o0 3 1 (q9 .neq 1 (h0 5 491496043109) (e8 (t3 2 9 1 a2 (o0 3 1 (q9 .neq 1 (h0 4 1953069157) (a25 12 6 c9 (e8 (t3 2 9 1 a2 (o0 3 1 (q9 .neq 1 (h0 5 512970877044) (a25 19 6 c9 (n1 20)))))))))))))))))) (l6 129 130 0 (v1 66 1 6 113740957901154)) (.d 132 (b1 (t3 2 9 1 a2 (o0 3 1 (t3 2 9 1 g6 (g8 9 (a5 (f3 137 8 (i1 4)))))))))) (b5 142 (a0 14 28 141) 141 (.d 143 (e7 (b1 (m2 (.bslice l2 0 2 []) [] (d9 2326 (g1 1 (j7 0 (w2 2325 (a5 (c6 (a5 (v5 4 4 (a5 (z8 l2 (j2 1 1 1) 3 b3 (a5 (n6 l2 1 2 2 (n4 149 (l8 2 16 5 (r3 9 (l8 2 16 10 (j6 (v6 .nilc 17 (j6 (g9 2326 (f8 2 (m5 1 3)))))))))))))))))))))))))) (.q (c4 15 (n5 6 .eql 1 a2 (h2 (d9 2326 (n7 6 .sub 1 (q2 2 3 (o0 0 1 (d9 2325 (a11 .lss 6 (n1 16))))))))) (l6 33 34 0 (a4 53 []))) (d1 36 (d9 2326 (n7 6 .sub 1 (l1 (w7 (.sl 2) false true) 3 b3 (w0 8 2326 1 3)))))))))))))))) := ⟨_, by conv => rhs; reduce⟩
end Q
def cf62 : CF := Q.T62.1
set_option maxRecDepth 100000 in
theorem cf62_ok : compF TP Tryz.f62 = some cf62 := by kernel_rfl
namespace Q
set_option maxRecDepth 100000 in
def T65 : Was (a51 3 (a19 3 b6 0 (g1 2 (p1 d0 a2 e5)) (n8 8 0 (g4 9 (u5 w4 (a18 3 3 4)) 13 (.x 0) (l5 1 (k5 16 (a8 3 3 (m6 8 4 0 1 (m3 1 .eql 2 (i4 3 3 (m6 8 4 1 1 (m3 2 .eql 2 (s3 9 c9))))))) 33 (d7 34 8 (a09 6 b3 7 d5))) 14 8 8)) (g0 6 (p1 d0 a2 e5)))) 6 (x9 7 [])) := ⟨_, by conv => rhs; reduce⟩
end Q
def cf65 : CF := Q.T65.1
set_option maxRecDepth 100000 in
theorem cf65_ok : compF TP Tryz.f65 = some cf65 := by kernel_rfl
namespace Q
set_option maxRecDepth 100000 in
def T67 : Was (x5 1 2 3 (a4 146 (v2 (a4 147 (z9 .pick 4 c9 d4)))) 2) := ⟨_, by conv => rhs; reduce⟩
end Q
def cf67 : CF := Q.T67.1
set_option maxRecDepth 100000 in
theorem cf67_ok : compF TP Tryz.f67 = some cf67 := by kernel_rfl
namespace Q
set_option maxRecDepth 100000 in
def T68 : Was (v3 4 8 (b7 11 (d9 2 (h2 (e0 (c6 (h6 .gtr 60 (k6 4 (w0 10 2 1 3))))))) (.q (s5 23 d0 1 (j5 26 26 0 (e1 1 27 (o4 4 23 (i3 4 10 (a42 a1 []) 4 10)) (b7 29 (d9 2 (h2 (i9 1 10 (h6 .gtr 16 (k6 5 (w0 11 2 1 3)))))) (b4 42 2 (j8 .geq (i4 1 10 (c6 (m3 2 .neq 2 (f4 6 (h2 (i9 3 10 (r2 (u8 5 (a3 3 (i4 0 10 (a4 67 (a82 a75 7 false (l1 .pick 5 c9 (u8 8 (a3 3 (s2 (i4 0 10 (q9 .neq 1 n9 (a25 7 4 c9 (n1 8))))))))))))))))))))) (j1 74 8 e5) (k5 75 (a8 2 10 (k9 148 (u2 149 [] []) (k1 3 10 (a4 150 (x8 (t5 .pick 5 n3)))))) 83 (q0 8)))) (c3 84 25 25)))) (l4 8 d5))) 8) := ⟨_, by conv => rhs; reduce⟩
end Q
def cf68 : CF := Q.T68.1
set_option maxRecDepth 100000 in
theorem cf68_ok : compF TP Tryz.f68 = some cf68 := by kernel_rfl
namespace Q
set_option maxRecDepth 100000 in
def T69 : Was (v3 2 4 (.q (s5 15 d0 0 (j5 18 18 0 (e1 1 19 (o4 4 15 (i3 4 6 (a42 a1 []) 4 6)) (.q (i6 21 1 6 t2 (i5 2 25 25 2 (e1 3 26 (o4 11 22 (i3 11 8 h5 11 8)) (b0 28 1 (i7 8 (r6 .callv 2 k0)) (j1 31 4 e5)) (c3 32 24 24)))) (.q (i6 33 2 6 t2 (i5 4 37 37 4 (e1 5 38 (a20 1 34 (c5 10)) (s5 40 d0 10 (i5 6 43 43 6 (e1 7 44 (o4 11 40 (i3 11 12 h5 11 12)) (b0 46 1 (i7 12 (r6 .callv 2 k0)) (j1 49 4 e5)) (c3 50 42 42)))) (c3 51 36 36)))) (i6 52 3 6 t2 (i5 8 56 56 8 (e1 9 57 (o4 23 53 (i3 23 14 (y5 a7 a6 a6 (q1 a1 a1 .nils (p9 (a04 a7 a6 a1 (a58 .nils a7 []))))) 23 14)) (k5 59 (e2 14 (e8 (e0 (x1 1 14 11 (r6 .callv 3 (z9 .pick 6 c9 (h2 (e0 (x1 12 14 11 (r6 .callv 3 (x8 (t5 .pick 6 n3)))))))))))) 74 (q0 4)) (c3 75 55 55)))))) (c3 76 17 17)))) (l4 4 d5)) 4) := ⟨_, by conv => rhs; reduce⟩
end Q
def cf69 : CF := Q.T69.1
set_option maxRecDepth 100000 in
theorem cf69_ok : compF TP Tryz.f69 = some cf69 := by kernel_rfl
namespace Q
set_option maxRecDepth 100000 in
def T70 : Was (s7 2 2 (p1 b6 e6 e5) (g0 4 (b8 1 (i7 2 (e3 71 2 (e9 g6) v4)))) 3) := ⟨_, by conv => rhs; reduce⟩
end Q
def cf70 : CF := Q.T70.1
set_option maxRecDepth 100000 in
theorem cf70_ok : compF TP Tryz.f70 = some cf70 := by kernel_rfl
namespace Q
set_option maxRecDepth 100000 in
def T71 : Was (z1 3 (a19 3 b6 0 (a33 b6 (d8 1) (p1 b6 (d8 2) e5)) (t1 9 3 (c2 0 (p4 .add (w0 5 0 1 3))) (c4 16 (b8 3 (b8 3 (c2 2 (h2 (b8 5 (h6 .gtr 60 (k6 3 (y2 9 2 (a5 (m5 1 3)))))))))) (t1 28 3 (i7 4 (j0 151 (o5 27 30 3 (o6 0 4 1 5 (r0 7 h5 (y9 11 7 w3)))))) (i6 33 0 7 (y1 1 a2) (d7 34 8 (e8 (i7 7 (r9 h5 [] [] (j0 152 (f4 4 (e8 (i7 4 (a13 (z3 154 0) 3 (d8 5) (j0 153 (f4 4 m0)))))))))))))))) 6) := ⟨_, by conv => rhs; reduce⟩
end Q
def cf71 : CF := Q.T71.1
set_option maxRecDepth 100000 in
theorem cf71_ok : compF TP Tryz.f71 = some cf71 := by kernel_rfl
namespace Q
set_option maxRecDepth 100000 in
def T72 : Was (g3 2 (e4 7 (m2 a37 [] d2) (s5 8 d0 1 (j5 11 11 0 (e1 1 12 (o4 2 8 (i3 2 6 (q6 []) 2 6)) (b4 14 4 (b2 2 6 (a35 (.agg [.s, .i]) a6 2 (k7 .gtr a2))) (c8 17 (d1 18 (e2 6 (a8 1 6 (f3 155 5 (h8 1 r5)))))) (c4 24 (a3 4 (b2 2 6 (a5 (a35 (.agg [.s, .i]) a6 2 (a5 (p4 .add (a5 (k2 (.e (.mapent (.agg [.s, .i]) a6)) (f2 4 s1) (a9 (a76 1 (d6 (z4 (a81 .entst (f2 6 (e9 s1))))))))))))))) (a00 30 3 (e2 6 (a8 1 6 (z8 (q6 []) (j2 1 1 1) 3 b3 (a35 (.agg [.s, .i]) a6 6 (k7 .eql a2))))) (c8 40 (d1 41 (e2 6 (a8 1 6 (f3 155 5 (h8 2 r5))))))))) (c3 47 10 10)))))) := ⟨_, by conv => rhs; reduce⟩
end Q
def cf72 : CF := Q.T72.1
set_option maxRecDepth 100000 in
theorem cf72_ok : compF TP Tryz.f72 = some cf72 := by kernel_rfl
namespace Q
set_option maxRecDepth 100000 in
def T73 : Was (g3 3 (a10 4 b6 (d8 1) (b7 8 (e2 4 (a8 1 4 (z8 (y5 a1 a6 a6 []) (o2 0 1 1 2 1) 3 (e9 g6) (w0 6 0 3 3)))) (.q (a27 16 2 (c8 16 (d1 17 (e2 4 (a8 1 4 (f3 155 5 (h8 3 r5))))))) (h9 23 (e2 4 (a8 1 4 (f9 156 3 (k7 .neq a2)))) 28 (d1 29 (e2 4 (a8 1 4 (f3 155 5 (h8 5 r5))))) (i6 35 2 4 t2 (j5 39 39 0 (e1 1 40 (u5 e6 (a44 4 36 (d8 38) (g8 4 (r0 7 (a42 a1 []) (u4 6 s1 (f5 4 7)))))) (b7 43 (n7 6 .add 1 (y2 3 0 (g9 2 (m5 1 4)))) (h9 49 (e2 7 (e2 4 (f0 .neq 3 (h2 (i9 1 7 (a8 1 4 (f0 .neq 3 (n1 7)))))))) 61 (d1 62 (e2 7 (i9 1 7 (f3 155 6 (h8 4 (i1 4)))))) (d1 69 (b2 4 7 (m2 a37 [] (f3 157 3 b9)))))) (c3 73 38 38))))))))) := ⟨_, by conv => rhs; reduce⟩
end Q
def cf73 : CF := Q.T73.1
set_option maxRecDepth 100000 in
theorem cf73_ok : compF TP Tryz.f73 = some cf73 := by kernel_rfl
namespace Q
set_option maxRecDepth 100000 in
def T74 : Was (h1 2 4 c1 (a16 5 c1 (s5 8 d0 0 (j5 11 11 0 (e1 1 12 (o4 27 8 (i3 27 7 (u3 a1 a6 (a41 a1 a1 .nils (p9 (q5 a7 (q1 a1 a1 .nils (p9 (p5 a7 a7 a7 a7 []))))))) 27 7)) (d3 14 5 (e0 (b2 27 7 (r6 .callv 2 (s6 (m7 (u3 a1 a6 (a41 a1 a1 .nils (p9 (q5 a7 (q1 a1 a1 .nils (p9 (p5 a7 a7 a7 a7 []))))))) 1 27 27) 27 432 5 5))))) (c3 20 10 10)))) (d7 21 5 d2)) 4) := ⟨_, by conv => rhs; reduce⟩
end Q
def cf74 : CF := Q.T74.1
set_option maxRecDepth 100000 in
theorem cf74_ok : compF TP Tryz.f74 = some cf74 := by kernel_rfl
namespace Q
set_option maxRecDepth 100000 in
def T76 : Was (g3 2 (b0 5 1 q3 (j5 8 8 0 (o9 1 9 4 (d1 10 (e0 (h7 4 23 (g9 12 (n0 158 5))))) (c3 16 7 7))))) := ⟨_, by conv => rhs; reduce⟩
end Q
def cf76 : CF := Q.T76.1
set_option maxRecDepth 100000 in
theorem cf76_ok : compF TP Tryz.f76 = some cf76 := by kernel_rfl
namespace Q
set_option maxRecDepth 100000 in
def T77 : Was (h1 1 2 a2 (s4 3 4 (p4 .add (w0 5 4 1 3)) (k3 10 (c2 4 (p6 .sub 1 2)))) 2) := ⟨_, by conv => rhs; reduce⟩
end Q
def cf77 : CF := Q.T77.1
set_option maxRecDepth 100000 in
theorem cf77_ok : compF TP Tryz.f77 = some cf77 := by kernel_rfl
namespace Q
set_option maxRecDepth 100000 in
def T78 : Was (g3 3 (e4 4 (a32 b6 (d8 1) b6 (d8 2)) (d1 6 (b2 2 4 (b2 2 5 (n6 l2 1 2 2 (a06 (v0 .nils a1 .nils .nils []) (o2 0 1 2 3 1) 1 r5 (n0 159 5)))))))) := ⟨_, by conv => rhs; reduce⟩
end Q
def cf78 : CF := Q.T78.1
set_option maxRecDepth 100000 in
theorem cf78_ok : compF TP Tryz.f78 = some cf78 := by kernel_rfl
namespace Q
set_option maxRecDepth 100000 in
def T79 : Was (r1 1 (s0 2 l2 (k3 3 (x3 l2 (j2 1 1 1) 4 (f5 2 2)))) 2 2) := ⟨_, by conv => rhs; reduce⟩
end Q
def cf79 : CF := Q.T79.1
set_option maxRecDepth 100000 in
theorem cf79_ok : compF TP Tryz.f79 = some cf79 := by kernel_rfl
namespace Q
set_option maxRecDepth 100000 in
def T80 : Was (r1 1 (s0 2 l2 (k3 3 (x3 l2 (j2 1 1 1) 1 (f5 2 2)))) 2 2) := ⟨_, by conv => rhs; reduce⟩
end Q
def cf80 : CF := Q.T80.1
set_option maxRecDepth 100000 in
theorem cf80_ok : compF TP Tryz.f80 = some cf80 := by kernel_rfl
namespace Q
set_option maxRecDepth 100000 in
def T81 : Was (g3 7 (a19 7 b6 0 (g1 4 (n2 b6 (d8 5))) (b0 20 1 (c6 (c5 14)) (h9 22 (b8 7 (c2 0 (l0 10 k4))) 28 (.r 14 (n2 d0 g6)) (.q (t7 15 (o1 o3) [] (a46 1 (a57 1 a2)) (p0 0 (g4 29 (b8 15 (e0 (x0 3))) 32 (.x 0) (e1 1 36 (b8 7 (a4 160 (t6 16 o3 1 16))) (c4 39 (j7 1 (b8 15 (a5 (b8 15 (j7 14 (f0 .add 2 (a5 (l1 (w7 (.sl 4) true true) 5 (i1 4) (a3 3 (u9 1 (a3 4 (n4 46 (a4 162 (r3 1 (e3 161 4 b9 (z6 38 (j6 (a60 48 [] 10 (j6 (v9 0 11 (j6 (v9 1 12 (j6 (u4 17 f1 (z6 18 (j6 (a56 50 [] []))))))))))))))))))))))))))) (c4 51 (b8 7 (e0 (b8 15 (b8 15 (m3 14 .add 2 (l1 (w7 (.sl 4) true true) 5 (i1 4) (a3 2 (f6 3 17 (m2 a37 [] (m2 a37 [] (z8 (.nilp :: p9 (p5 .nils .nilm .nilm .nils (p9 []))) (u6 0 1 (u6 2 3 (o2 4 6 1 7 1))) 12 (f2 6 (f2 5 (f2 4 l7))) (k2 b6 b3 (c5 19))))))))))))) (a14 65 19 163 [] (b0 67 19 (a13 (z3 165 0) 12 (d8 15) (a13 (z3 166 0) 7 (d8 16) (f3 164 3 b9))) (a02 71 7 (b8 16 (n0 168 2))))))) (.q (a10 74 a63 (d8 15) (.r 15 (a33 (o1 o3) [] (a46 1 (a57 1 (d8 74)))))) (a02 33 15 (m3 14 .add 2 (f5 1 15)))))))) (k5 75 (b8 7 (c2 6 k0)) 79 (d3 80 6 (k2 .callv b3 [])))))))) := ⟨_, by conv => rhs; reduce⟩
end Q
def cf81 : CF := Q.T81.1
set_option maxRecDepth 100000 in
theorem cf81_ok : compF TP Tryz.f81 = some cf81 := by kernel_rfl
namespace Q
set_option maxRecDepth 100000 in
def T82 : Was (g3 4 (.d 6 (b8 2 (b8 3 (m6 0 4 3 1 (e0 (r9 l2 (a40 0 1) (c7 2) (a5 (f3 83 8 l7))))))))) := ⟨_, by conv => rhs; reduce⟩
end Q
def cf82 : CF := Q.T82.1
set_option maxRecDepth 100000 in
theorem cf82_ok : compF TP Tryz.f82 = some cf82 := by kernel_rfl
namespace Q
set_option maxRecDepth 100000 in
def T83 : Was (g3 4 (a10 7 b6 (d8 3) (b0 12 1 q3 (j5 15 15 0 (o9 1 16 8 (b0 17 1 (h7 8 23 (f6 8 1 (c6 (s9 (f0 .eql 4 (r7 9 (o8 6) 10)))))) (.b 2 (b0 33 9 (c2 0 (c5 32)) (g5 32 (b7 37 (b1 (a3 9 (l0 12 (a3 2 (e3 170 5 b9 (f9 169 7 (c5 11))))))) (b7 45 (a3 9 (l0 1 (f6 11 2 (e3 171 6 l7 d4)))) (a27 52 10 (c8 52 (.d 53 (a5 (b1 (a3 11 (u9 1 (b2 2 7 (n4 55 (a4 79 (r3 1 (f3 172 4 b9)))))))))))))) (b0 59 10 (c5 58) (g5 58 (.d 60 (b1 (a3 9 (l0 12 (a3 2 (b2 2 7 (a5 (f3 173 6 l7)))))))) (d1 25 (a3 9 (l0 12 (a3 2 (r9 l2 (a40 0 1) a2 (f3 173 6 l7)))))))))))) (c3 67 14 14)))))) := ⟨_, by conv => rhs; reduce⟩
end Q
def cf83 : CF := Q.T83.1
set_option maxRecDepth 100000 in
theorem cf83_ok : compF TP Tryz.f83 = some cf83 := by kernel_rfl
namespace Q
set_option maxRecDepth 100000 in
def T86 : Was (h1 2 4 c1 (h4 10 (c2 1 q3) (j5 16 16 0 (o9 1 17 5 (s4 18 1 (h7 5 10 m0) (b0 24 6 (b1 (g2 6 4 (f9 174 5 (w0 7 4 1 3)))) (b0 33 6 (c2 8 q3) (i5 2 39 39 2 (o9 3 40 7 (.d 41 (j7 6 (w2 8 (a5 (a3 7 (b1 (g2 6 8 (m6 7 2 1 1 (a5 (f9 174 9 (a9 (p8 2 12 11 (a17 1 (d6 (m5 1 3))))))))))))))) (c3 58 38 38)))))) (c3 59 15 15))) (b7 60 (d9 1 (c6 (w1 (.mks (m4 a7) 1) 1 (m2 a37 [] (m2 a37 [] (z8 (a08 .nilp .nils (p5 .nils .nilm .nilm a6 [])) (a47 0 (o2 2 3 1 4 1)) 9 l7 (k2 b6 b3 w3))))))) (b0 72 8 (d9 1 (m2 (m7 o3 1 1 1) a2 (e3 175 2 (e9 (c7 4)) (o5 71 78 7 (o6 0 8 1 9 (w0 9 1 1 4)))))) (h4 83 (c2 1 q3) (i5 4 89 89 4 (o9 5 90 9 (.d 91 (j7 8 (w2 2 (a5 (f6 9 8 (g7 9 (j0 176 (a9 (s2 (a9 (p8 1 6 5 (d6 (t0 1))))))))))))) (c3 101 88 88))) (a14 102 8 177 [] (a14 104 8 178 [] (d7 106 8 (e0 (j0 179 d2))))))))) 4) := ⟨_, by conv => rhs; reduce⟩
end Q
def cf86 : CF := Q.T86.1
set_option maxRecDepth 100000 in
theorem cf86_ok : compF TP Tryz.f86 = some cf86 := by kernel_rfl
namespace Q
set_option maxRecDepth 100000 in
def T87 : Was (r1 2 (e4 3 (a32 b6 e6 (o1 l2) []) (c4 8 (e2 3 (u9 2 (v5 1 3 (g1 3 (e7 (j4 8 3 (e7 (i2 (g1 3 (f8 0 (j4 5 3 (f8 0 (i2 (g1 3 (o7 0 4 (j4 3 3 (o7 0 4 (i2 (g1 2 (o7 0 4 (j4 4 3 (o7 0 4 (i2 (g1 2 (o7 0 4 (j4 7 3 (o7 0 4 (i2 (n4 10 (a4 180 (o7 1 4 (q9 .add 1 (h0 1 32) (r3 2 (k9 181 (c7 10) (o7 2 4 (f0 .add 4 (o7 2 4 (q9 .add 1 (h0 1 32) (g1 2 (f8 2 (a4 180 (o7 3 4 (f0 .add 4 (o7 3 4 (q9 .add 1 (h0 1 32) (g1 2 (o7 3 4 (a4 180 (o7 4 4 (f0 .add 4 (o7 4 4 (q9 .add 1 (h0 1 32) (g1 2 (o7 4 4 (f0 .add 3 (o7 4 4 (q9 .add 1 (h0 1 32) (g1 2 (o7 4 4 (f0 .add 3 (o7 4 4 (q9 .add 1 (h0 1 32) (g1 2 (o7 4 4 (f0 .add 3 (o7 4 4 p7)))))))))))))))))))))))))))))))))))))))))))))))))))))))))))))))))) (s4 39 7 (a3 5 (a83 a29 true a6 2 (o5 38 44 6 (o6 0 7 1 8 (r7 6 f1 7))))) (b4 47 7 k0 (c8 48 (b7 49 (y4 1 2 1 (c6 m0)) (s4 55 7 (f6 5 6 (z4 (z5 a29 l7))) (.d 61 (b1 (y4 1 2 1 (b2 9 3 (v6 a94 2 (m2 (m7 p3 1 9 9) (a23 (.agg p3)) (a5 (l8 9 112 4 (a9 (p8 9 1 3 (d6 (v6 .nilc 10 (d6 (g9 1 (d6 (g9 2 (d6 (a69 9 (f2 4 (o8 8)) (f8 2 (x7 1 (o8 5) (z4 (.e (.p (.eqd .ap false)) (e9 (o8 4))))))))))))))))))))))))))) (d7 74 6 (x3 l2 (j2 1 1 1) 3 (f5 2 4))))))) 4 2) := ⟨_, by conv => rhs; reduce⟩
end Q
def cf87 : CF := Q.T87.1
set_option maxRecDepth 100000 in
theorem cf87_ok : compF TP Tryz.f87 = some cf87 := by kernel_rfl
namespace Q
set_option maxRecDepth 100000 in
def T88 : Was (a45 1 (t7 2 (o1 (w6 a1 (.int .u64 0) [])) [] (z0 d0 a2) (b7 16 (l1 .ixstr 1 a2 p7) (a49 0 (a14 19 5 182 (h2 (a3 5 (a4 183 (u8 3 (n5 5 .eql 1 (m8 .u8 95) (k6 3 (c5 18))))))) (g5 18 (l3 29 184 m0 (b4 31 6 (h3 y6 (q7 .gtr 32)) (c8 33 (g0 34 (r9 (w6 a1 (.int .u64 0) []) [] [] (w9 4 2 b3 (a09 3 a2 4 (c7 91)))))) (q8 7 (c7 2) (b4 35 5 (a61 (.call 182)) (c8 36 (.r 7 (n2 d0 g6))) (b4 37 6 (a61 (.call 185)) (c8 38 (.r 7 (n2 d0 (c7 5)))) (d7 39 7 (s8 6 (.build (w6 a1 (.int .u64 0) []) (j2 1 1 1)) 2 b3 (a3 6 (a84 y6 (b07 4 (a59 2 s1)) (a09 3 b3 4 a2)))))))))) (a14 45 5 186 (c5 44) (g5 44 (l3 48 187 (o5 47 49 2 (v9 0 3 (o6 1 4 2 5 (u4 8 s1 (r7 9 f1 10))))) (b4 53 10 k0 (c8 54 (g0 55 (r9 (w6 a1 (.int .u64 0) []) [] [] (w9 4 2 b3 (a09 3 a2 4 (c7 92)))))) (d7 56 8 (x3 (w6 a1 (.int .u64 0) []) (j2 1 2 1) 3 (a3 9 (y9 4 2 (a09 3 b3 4 a2))))))) (b0 60 5 (u0 .eql 1 .u8 34 (c5 59)) (c8 59 (l3 63 188 (o5 62 64 2 (v9 0 3 (o6 1 4 2 5 (u4 11 s1 (r7 12 f1 13))))) (b4 68 13 k0 (c8 69 (g0 70 (r9 (w6 a1 (.int .u64 0) []) [] [] (w9 4 2 b3 (a09 3 a2 4 (c7 93)))))) (d7 71 11 (x3 (w6 a1 (.int .u64 0) []) (j2 1 1 1) 4 (a3 12 (y9 4 2 (a09 3 b3 4 a2))))))))))))) (e4 74 (v8 189 [] (c5 14)) (n8 15 1 (b4 75 15 (a3 14 (x0 3)) (f7 78 1) (l5 2 (c4 81 (b1 (h3 y6 (a3 14 (k8 15 1 (h3 y6 (f0 .geq 6 (v2 (a3 14 (k8 15 1 (h3 y6 (l1 (w7 .str false true) 6 b3 (a3 14 (k8 15 1 (f0 .eql 5 (s3 13 c9))))))))))))))) (c8 102 (c4 103 (a3 14 (k8 15 1 (x3 (w6 a1 (.int .u64 0) []) (j2 1 1 1) 6 (j7 14 (g7 15 (q2 1 2 (a74 (a5 (h3 y6 (a5 (w9 4 2 (o8 6) (a9 (u4 3 b3 (a9 (a38 4 a2))))))))))))))) .ret))) 79 15 15)) (g0 113 (r9 (w6 a1 (.int .u64 0) []) [] [] (w9 4 2 b3 (a09 3 a2 4 (c7 90)))))))))) 2 4 (x9 3 (x9 4 []))) := ⟨_, by conv => rhs; reduce⟩
end Q
def cf88 : CF := Q.T88.1
set_option maxRecDepth 100000 in
theorem cf88_ok : compF TP Tryz.f88 = some cf88 := by kernel_rfl
namespace Q
set_option maxRecDepth 100000 in
def T89 : Was (g3 2 (t8 4 (e0 (j0 91 k0)) 7 (d1 8 (d9 1 (f3 190 5 (e9 (c7 101))))) (d1 14 (a4 191 [])))) := ⟨_, by conv => rhs; reduce⟩
end Q
def cf89 : CF := Q.T89.1
set_option maxRecDepth 100000 in
theorem cf89_ok : compF TP Tryz.f89 = some cf89 := by kernel_rfl
namespace Q
set_option maxRecDepth 100000 in
def T90 : Was (h1 2 4 n9 (l3 6 192 (t6 5 (w6 a1 (.int .u64 0) []) 4 5) (h9 8 (e2 5 (p4 .neq (h2 (n5 1 .neq 1 n9 (i4 1 5 (m3 1 .neq 2 (a25 8 5 c9 (n1 9)))))))) 20 (d1 21 (d9 1 (f3 190 5 (e9 (c7 101))))) (l3 27 191 [] (p2 29 1 5 d2)))) 4) := ⟨_, by conv => rhs; reduce⟩
end Q
def cf90 : CF := Q.T90.1
set_option maxRecDepth 100000 in
theorem cf90_ok : compF TP Tryz.f90 = some cf90 := by kernel_rfl
namespace Q
set_option maxRecDepth 100000 in
def T91 : Was (x5 2 4 5 (a4 192 (e0 (j0 193 d2))) 4) := ⟨_, by conv => rhs; reduce⟩
end Q
def cf91 : CF := Q.T91.1
set_option maxRecDepth 100000 in
theorem cf91_ok : compF TP Tryz.f91 = some cf91 := by kernel_rfl
namespace Q
set_option maxRecDepth 100000 in
def T92 : Was (g3 1 (h9 2 (u5 e6 (c2 2 (q7 .geq 200))) 6 (d1 7 (d9 1 (f3 190 5 (e9 (c7 3))))) (s4 13 2 (p4 .add (w0 5 2 1 3)) (d1 20 (a4 191 []))))) := ⟨_, by conv => rhs; reduce⟩
end Q
def cf92 : CF := Q.T92.1
set_option maxRecDepth 100000 in
theorem cf92_ok : compF TP Tryz.f92 = some cf92 := by kernel_rfl
namespace Q
set_option maxRecDepth 100000 in
def T93 : Was (g3 2 (b7 4 (j9 1 89 2 b3) (d1 7 (c2 2 (s9 (w0 5 2 1 3)))))) := ⟨_, by conv => rhs; reduce⟩
end Q
def cf93 : CF := Q.T93.1
set_option maxRecDepth 100000 in
theorem cf93_ok : compF TP Tryz.f93 = some cf93 := by kernel_rfl
namespace Q
set_option maxRecDepth 100000 in
def T94 : Was (h1 3 6 a2 (l3 8 192 (t6 7 (w6 a1 (.int .u64 0) []) 4 7) (h9 10 (e2 7 (h6 .neq 3 (k1 2 7 (u0 .gtr 1 .u64 9223372036854775807 (k6 4 (k1 2 7 (h3 (.toInt .i64) (m3 1 .lss 2 (k6 6 (k1 2 7 (h3 (.toInt .i64) (m3 2 .gtr 2 (n1 6))))))))))))) 31 (b7 32 (d9 1 (f3 190 5 (e9 (c7 101)))) (l4 6 a2)) (l3 38 191 [] (p2 40 2 7 (h3 (.toInt .i64) m0))))) 6) := ⟨_, by conv => rhs; reduce⟩
end Q
def cf94 : CF := Q.T94.1
set_option maxRecDepth 100000 in
theorem cf94_ok : compF TP Tryz.f94 = some cf94 := by kernel_rfl
namespace Q
set_option maxRecDepth 100000 in
def T95 : Was (g3 2 (h4 5 (z2 91 (e9 (h0 1 40))) (g5 6 (d1 7 (a4 92 [])) (d1 9 (v1 89 1 1 40))) (h4 11 (z2 91 (e9 (h0 1 91))) (g5 12 (d1 13 (a4 92 [])) (d1 15 (v1 89 1 1 91))) (.q (p0 0 (h4 17 (c2 3 (s2 (v2 (z7 91 1 93 (x8 (t5 .pick 4 c9)))))) (f7 26 0) (.b 1 (b4 27 1 (c2 2 (c6 (k7 .gtr a2))) (c8 32 (d1 33 (v1 89 1 1 44))) (b7 35 (k9 90 n9 d2) (b7 37 (v1 89 1 1 47) (.d 39 (e7 (g7 1 (g7 1 (w2 2 (a5 (a3 4 (g7 0 (k9 94 (t9 a6 (c7 16)) (a9 (z8 (q6 []) (j2 1 1 1) 3 b3 (a9 (n6 (q6 []) 1 2 2 (d6 (l8 2 24 6 (j6 (v6 .nilc 11 (j6 (g9 2 (f8 2 (m5 1 3))))))))))))))))))))))))))) (b7 52 (v1 93 1 1 93) (d1 54 (v1 93 1 1 41))))))) := ⟨_, by conv => rhs; reduce⟩
end Q
def cf95 : CF := Q.T95.1
set_option maxRecDepth 100000 in
theorem cf95_ok : compF TP Tryz.f95 = some cf95 := by kernel_rfl
end
end Ev
end Go.Proofs.YtihflniehaaakaaGreatDoor
