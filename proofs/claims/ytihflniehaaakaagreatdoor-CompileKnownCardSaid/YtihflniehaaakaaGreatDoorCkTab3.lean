/-
  The functions of the program, compiled (printed by a program of ours; each is held against the program's own text below).
-/
import Derived.Test.YtihflniehaaakaaGreatDoorCkQ
namespace Go.Proofs.YtihflniehaaakaaGreatDoor
set_option linter.unusedVariables false
set_option linter.unusedSimpArgs false
namespace Ev
noncomputable section
namespace Q
set_option maxRecDepth 100000 in
def T96 : Was (r1 1 (s0 2 (y5 a1 a6 .nils []) (a70 3 (o1 (y5 a1 a6 .nils [])) [] (p0 0 (h4 6 (c2 3 k0) (f7 10 0) (.b 1 (b7 11 (k9 90 n9 d2) (l3 13 194 (t6 5 (a42 a1 []) 4 5) (b0 15 4 (m1 0 5 1 f1) (a22 17 2 3 (b2 4 5 (n6 (a42 a1 []) 1 4 4 (l8 4 88 3 (m1 2 3 1 f1)))) (t8 23 (z7 91 1 59 k0) 25 (.x 0) (d1 26 (a4 191 [])))))))))) (b7 28 (v1 89 1 1 46) (h9 30 (i9 2 3 (k7 .gtr a2)) 33 (.d 34 (a8 2 3 (v7 4 1 a2 (o0 0 1 (a8 2 3 (a5 (v7 4 1 a2 (a55 1 (a5 (c6 (j4 0 3 (a5 (x7 1 (o8 8) (a9 (j4 1 3 (d6 (m5 1 3))))))))))))))))) (a15 47 3 3 (f5 3 2)))))) 2 3) := ⟨_, by conv => rhs; reduce⟩
end Q
def cf96 : CF := Q.T96.1
set_option maxRecDepth 100000 in
theorem cf96_ok : compF TP Tryz.f96 = some cf96 := by kernel_rfl
namespace Q
set_option maxRecDepth 100000 in
def T97 : Was (s7 1 1 (a31 b6 1 e5) (h9 6 (e2 1 (a4 195 (s2 (k1 1 1 (p4 .lss (k6 4 (k1 1 1 (h6 .gtr 2147483647 (n1 4))))))))) 19 (q0 2) (n8 3 0 (b4 20 3 (a18 2 1 4) (f7 24 0) (l5 1 (k5 27 (a8 2 1 (m6 3 2 0 1 (a4 195 (s2 (k1 2 1 (m6 3 2 1 1 (j8 .lss (k6 8 (k1 2 1 (m6 3 2 1 1 (h6 .gtr 16 (n1 8)))))))))))) 52 (q0 2)) 25 3 3)) (n8 4 2 (b4 53 4 (a18 3 1 4) (f7 57 2) (e1 3 60 (a8 3 1 (h7 4 3 (i3 3 5 (y5 a1 a6 .nils []) 3 5))) (c4 65 (i9 2 5 (r2 (k1 2 5 (a5 (k9 196 (h8 (-1) d5) (a9 (x8 (a9 (l1 .pick 5 n3 (a9 (h2 (a9 (j4 0 5 (a9 (i2 (a9 (j4 2 5 (a9 (i2 (a9 (v7 4 1 a2 (a17 0 (a9 (i2 (a9 (f0 .neq 6 (.n :: a9 (l1 .pick 9 n3 (a9 (h2 (a9 (j4 1 5 (a9 (i2 (a9 (j4 2 5 (a9 (i2 (a9 (v7 4 1 a2 (a17 1 (a9 (i2 (a9 (c6 (a9 (f0 .neq 7 (.n :: a9 (t5 .pick 10 n3))))))))))))))))))))))))))))))))))))))))))))))))) (j1 95 2 e5)) (a39 58 4 4))) (l4 2 d5)))) 2) := ⟨_, by conv => rhs; reduce⟩
end Q
def cf97 : CF := Q.T97.1
set_option maxRecDepth 100000 in
theorem cf97_ok : compF TP Tryz.f97 = some cf97 := by kernel_rfl
namespace Q
set_option maxRecDepth 100000 in
def T98 : Was (h1 1 2 c1 (q8 3 c1 (n8 4 0 (g4 6 (u5 e6 (b1 (x0 3))) 9 (.x 0) (l5 1 (b0 12 3 (b1 (m6 4 4 1 1 (a34 11 200 6 3))) (n8 5 2 (b4 19 5 (b1 (m6 4 4 2 1 (x0 7))) (f7 26 2) (l5 3 (d3 29 3 (b1 (m6 4 4 2 1 (k8 5 1 (a34 11 200 9 3))))) 27 5 5)) (d3 39 3 (b1 (m6 4 4 3 1 (a4 197 (a34 11 200 7 3))))))) 10 4 4)) (d7 47 3 d4))) 2) := ⟨_, by conv => rhs; reduce⟩
end Q
def cf98 : CF := Q.T98.1
set_option maxRecDepth 100000 in
theorem cf98_ok : compF TP Tryz.f98 = some cf98 := by kernel_rfl
namespace Q
set_option maxRecDepth 100000 in
def T99 : Was (v3 1 2 (n8 3 0 (g4 4 (u5 w4 (b1 (x0 3))) 7 (.x 0) (l5 1 (b7 10 (m6 3 4 1 1 (c6 (q7 .gtr 16))) (j1 16 2 e5)) 8 3 3)) (k3 17 (c6 (p6 .leq 60 2)))) 2) := ⟨_, by conv => rhs; reduce⟩
end Q
def cf99 : CF := Q.T99.1
set_option maxRecDepth 100000 in
theorem cf99_ok : compF TP Tryz.f99 = some cf99 := by kernel_rfl
namespace Q
set_option maxRecDepth 100000 in
def T100 : Was (h1 1 2 a2 (q8 3 a2 (n8 4 0 (g4 5 (u5 w4 (b1 (x0 3))) 8 (.x 0) (l5 1 (d3 11 3 (b1 (y3 4 11 11 (a4 198 (f0 .add 6 v4))))) 9 4 4)) (d7 18 3 d4))) 2) := ⟨_, by conv => rhs; reduce⟩
end Q
def cf100 : CF := Q.T100.1
set_option maxRecDepth 100000 in
theorem cf100_ok : compF TP Tryz.f100 = some cf100 := by kernel_rfl
namespace Q
set_option maxRecDepth 100000 in
def T101 : Was (s7 1 1 (a31 b6 1 c1) (q8 3 c1 (h9 6 (e2 1 (q7 .eql 13)) 8 (d3 9 3 (i7 1 (s6 (m7 h5 1 11 11) 11 200 3 3))) (e4 13 (i7 1 (a4 199 d2)) (n8 5 0 (b4 15 5 (a3 4 (x0 3)) (f7 18 0) (l5 1 (d3 21 3 (a3 4 (y3 5 11 11 (a4 101 (a34 11 200 6 3))))) 19 5 5)) (d7 28 3 d4))))) 2) := ⟨_, by conv => rhs; reduce⟩
end Q
def cf101 : CF := Q.T101.1
set_option maxRecDepth 100000 in
theorem cf101_ok : compF TP Tryz.f101 = some cf101 := by kernel_rfl
namespace Q
set_option maxRecDepth 100000 in
def T102 : Was (s7 1 1 (a68 b6 1) (q8 3 a2 (e4 6 (i7 1 (a4 199 d2)) (n8 5 0 (b4 8 5 (a3 4 (x0 3)) (f7 11 0) (l5 1 (d3 14 3 (a3 4 (y3 5 11 11 (a4 102 (l1 .maxs 6 b3 v4))))) 12 5 5)) (d7 21 3 (p6 .add 1 2))))) 2) := ⟨_, by conv => rhs; reduce⟩
end Q
def cf102 : CF := Q.T102.1
set_option maxRecDepth 100000 in
theorem cf102_ok : compF TP Tryz.f102 = some cf102 := by kernel_rfl
namespace Q
set_option maxRecDepth 100000 in
def T103 : Was (s7 1 1 (a31 b6 1 e5) (a12 6 (i9 4 1 v4) (i6 9 0 1 k4 (.b 0 (b5 12 (a21 2 11 11) 11 (a64 13 3 .sub 2 3) (b5 16 (a0 10 12 15) 15 (a64 17 3 .sub 1 3) (c0 20 (a0 10 10 19) 19 (b5 22 (a0 10 5 21) 21 (h9 23 (i9 4 1 (q7 .gtr 255)) 26 (q0 2) (.r 3 (n2 d0 a2))) (.r 3 (n2 d0 a2)))))))) (b4 27 3 (h6 .gtr 16 (h2 (i9 5 1 (h6 .gtr 60 (k6 5 (k1 6 1 (a4 99 (z9 .pick 5 n3 (k1 7 1 (a4 99 (x8 (t5 .pick 5 n3)))))))))))) (j1 46 2 e5) (e4 47 (i7 1 (a4 199 d2)) (n8 5 1 (b4 49 5 (a3 4 (x0 3)) (f7 52 1) (l5 2 (b0 55 4 (y3 5 11 11 (a4 103 k0)) (j1 60 2 e5)) 53 5 5)) (l4 2 d5))))) 2) := ⟨_, by conv => rhs; reduce⟩
end Q
def cf103 : CF := Q.T103.1
set_option maxRecDepth 100000 in
theorem cf103_ok : compF TP Tryz.f103 = some cf103 := by kernel_rfl
namespace Q
set_option maxRecDepth 100000 in
def T104 : Was (s7 1 1 (a31 b6 1 e5) (h9 10 (e2 1 (a4 24 (s2 (k1 1 1 (p4 .lss (k6 4 (k1 1 1 (h6 .gtr 2147483647 (u8 4 (i9 2 1 (h6 .gtr 65535 (u8 5 (i9 3 1 (h6 .gtr 200 (u8 5 (i9 4 1 (h6 .gtr 1000 (u8 5 (i9 5 1 (k9 200 (h8 1 (c7 524288)) (x8 (t5 .pick 6 n3)))))))))))))))))))))) 48 (q0 2) (n8 3 0 (b4 49 3 (a18 2 1 4) (f7 53 0) (l5 1 (k5 56 (a8 2 1 (y3 3 9 9 (a4 51 k0))) 62 (q0 2)) 54 3 3)) (n8 4 2 (b4 63 4 (a18 3 1 4) (f7 67 2) (e1 3 70 (a8 3 1 (h7 4 4 (i3 4 5 (p5 a1 a6 a7 a6 []) 4 5))) (h9 75 (e2 5 (a4 24 (s2 (k1 1 5 (k9 200 (t9 a6 (c7 16)) (z9 .pick 5 n3 (k1 3 5 (i9 5 1 (s9 (e3 200 5 (x2 a6) (x8 (t5 .pick 9 n3)))))))))))) 94 (q0 2) (e4 96 (b2 6 1 (e2 5 (a8 1 5 (e3 65 5 r5 (o5 95 101 6 (o6 0 7 1 8 (u4 6 f1 (z6 7 (a56 103 [] []))))))))) (b0 104 6 (a3 4 (x4 a01 b9)) (j1 106 2 e5)))) (a39 68 4 4))) (n8 8 4 (b4 107 8 (a18 4 1 4) (f7 111 4) (e1 5 114 (a8 4 1 (h7 8 3 (i3 3 9 (u3 a6 a6 []) 3 9))) (k5 119 (e2 9 (k9 200 (t9 a6 (c7 16)) (s2 (k1 1 9 (k9 200 (t9 a6 (c7 200)) (z9 .pick 5 n3 (k1 2 9 (i9 5 1 (s9 (e3 200 5 (x2 a6) (x8 (t5 .pick 9 n3)))))))))))) 138 (q0 2)) (a39 112 8 8))) (l4 2 d5))))) 2) := ⟨_, by conv => rhs; reduce⟩
end Q
def cf104 : CF := Q.T104.1
set_option maxRecDepth 100000 in
theorem cf104_ok : compF TP Tryz.f104 = some cf104 := by kernel_rfl
namespace Q
set_option maxRecDepth 100000 in
def T105 : Was (a45 1 (a12 2 (p1 (o1 (a08 a7 a7 (p5 a7 a7 a7 a7 (a50 a7 a7 [])))) [] e5) (a27 4 0 (.b 0 (g4 6 (a30 2 g6 5) 5 (c0 7 (a0 4 6 5) 5 (m9 8 4 7 5)) (g5 5 (y7 9 201 (u1 2 29540 (h8 1 g6)) (a05 10 2 b3 3 d5)) (b5 11 (a0 4 2 10) 10 (y7 12 201 (u1 3 7107428 (t9 a6 (c7 255))) (a05 10 2 b3 3 d5)) (b5 14 (a0 4 3 13) 13 (y7 15 201 (u1 3 7107428 (h8 2 (c7 2))) (a05 10 2 b3 3 d5)) (b5 17 (a0 4 4 16) 16 (y7 18 201 (u1 4 1819177828 (t9 a6 (c7 200))) (a05 10 2 b3 3 d5)) (b5 20 (a0 4 5 19) 19 (y7 21 201 (u1 3 7238500 (h8 1 g6)) (a05 10 2 b3 3 d5)) (g4 23 (a0 4 8 22) 22 (c0 24 (a0 4 28 22) 22 (c0 25 (a0 4 34 22) 22 (c0 26 (a0 4 37 22) 22 (c0 27 (a0 4 39 22) 22 (m9 28 4 40 22))))) (g5 22 (y7 29 201 (u1 1 116 (t9 a6 a2)) (a05 10 2 b3 3 d5)) (b5 31 (a0 4 9 30) 30 (y7 32 201 (u1 3 7630451 (h8 1 g6)) (a05 10 2 b3 3 d5)) (g4 34 (a0 4 10 33) 33 (m9 35 4 30 33) (g5 33 (y7 36 201 (u1 2 29811 (h8 1 g6)) (a05 10 2 b3 3 d5)) (b5 38 (a0 4 11 37) 37 (y7 39 201 (u1 2 29811 (h8 2 (c7 2))) (a05 10 2 b3 3 d5)) (b5 41 (a0 4 12 40) 40 (y7 42 201 (u1 3 7627635 (h8 1 g6)) (a05 10 2 b3 3 d5)) (b5 44 (a0 4 13 43) 43 (y7 45 201 (u1 5 465810453348 (t9 a6 (c7 255))) (a05 10 2 b3 3 d5)) (b5 47 (a0 4 14 46) 46 (y7 48 201 (u1 4 1819767652 (t9 a6 (c7 3))) (a05 10 2 b3 3 d5)) (k5 50 (a0 4 15 49) 49 (y7 51 201 (u1 2 30574 (t9 a6 a2)) (a05 10 2 b3 3 d5)))))))))))))))))))) (k3 52 (a4 202 (r8 0 1 2 (y9 10 2 v4))))) 2 10 (x9 3 [])) := ⟨_, by conv => rhs; reduce⟩
end Q
def cf105 : CF := Q.T105.1
set_option maxRecDepth 100000 in
theorem cf105_ok : compF TP Tryz.f105 = some cf105 := by kernel_rfl
namespace Q
set_option maxRecDepth 100000 in
def T106 : Was (z1 3 (a19 3 b6 0 (a33 b6 (d8 1) (p1 b6 (d8 2) e5)) (h9 8 (e2 5 (e8 (b2 6 3 (x1 1 4 2 (f9 203 3 (s2 (h2 (j4 1 4 (o0 0 1 (i0 3 (a43 11 true 5 n3 (f4 12 (k1 0 5 (s2 (e8 (x1 1 4 2 (a4 204 (a82 a75 9 false (l1 .pick 5 c9 (n1 10)))))))))))))))))))) 33 (q0 6) (h9 34 (i9 3 4 (a8 8 5 (a8 9 5 (e3 200 5 r5 (s2 (k1 7 5 (s2 (i4 6 4 (j8 .neq (a25 8 4 c9 (k6 9 (k1 6 4 (k9 200 (t9 a6 (c7 256)) (x8 (t5 .pick 5 n3))))))))))))))) 58 (q0 6) (n8 7 0 (b4 59 7 (a18 3 4 4) (f7 63 0) (l5 1 (c4 66 (b2 6 3 (a8 3 4 (y3 7 2 2 (a5 (f9 203 6 (a9 k0)))))) (j1 73 6 e5)) 64 7 7)) (p2 74 2 5 (k1 5 4 (r2 (k6 4 (i4 3 5 (k1 7 4 (q9 .eql 1 n9 (a43 7 true 4 n3 (l9 8 1 4 5 (h2 (i9 8 4 (r2 (a43 8 true 5 n3 (l9 9 1 5 5 (h2 (i9 9 4 (r2 (a43 8 true 5 n3 (l9 9 1 6 5 (k1 4 4 (r2 (a43 7 true 4 n3 (f4 8 m0))))))))))))))))))))))))))) 6) := ⟨_, by conv => rhs; reduce⟩
end Q
def cf106 : CF := Q.T106.1
set_option maxRecDepth 100000 in
theorem cf106_ok : compF TP Tryz.f106 = some cf106 := by kernel_rfl
namespace Q
set_option maxRecDepth 100000 in
def T107 : Was (z1 2 (t7 2 b6 e6 (p1 b6 e6 e5) (.q (e4 5 (w5 (.fa 0) e6 k4) (.b 0 (b5 8 (a21 2 4 7) 7 (c4 9 (a8 5 3 (i9 4 2 (s9 (a5 (e3 200 5 (x2 a6) (a9 (e8 (a9 (j4 3 3 (a9 (i2 (a9 (c6 (a9 (j4 4 2 (a9 (i2 (a9 (j4 5 3 (a9 (i2 (a9 (q2 3 3 (a17 1 (a9 (i2 (a9 (f0 .eql 8 (.n :: a9 (l1 .pick 12 c9 (a9 d2))))))))))))))))))))))))))))))) .ret) (b5 30 (a0 6 5 29) 29 (p2 31 5 3 (k9 200 (t9 a6 (c7 254)) d2)) (b5 35 (a0 6 9 34) 34 (p2 36 5 3 (k9 200 (t9 a6 (c7 255)) d2)) (g4 40 (a0 6 16 39) 39 (m9 41 6 17 39) (g5 39 (p2 42 5 3 (i9 3 2 (s9 (e3 200 5 (x2 a6) d2)))) (g4 50 (a0 6 15 49) 49 (c0 51 (a0 6 18 49) 49 (c0 52 (a0 6 19 49) 49 (c0 53 (a0 6 20 49) 49 (m9 54 6 21 49)))) (g5 49 (p2 55 5 3 (k9 200 (t9 a6 (c7 16)) d2)) (b5 59 (a0 6 24 58) 58 (p2 60 5 3 (k9 200 (h8 1 (c7 8192)) d2)) (b5 64 (a0 6 31 63) 63 (p2 65 5 3 (k9 200 (t9 a6 (c7 3)) d2)) (g4 69 (a0 6 32 68) 68 (m9 70 6 33 68) (c8 68 (p2 71 5 3 (i0 1 (k1 5 3 (i0 8 (k6 4 d2)))))))))))))))))) (l4 4 d5))) 4) := ⟨_, by conv => rhs; reduce⟩
end Q
def cf107 : CF := Q.T107.1
set_option maxRecDepth 100000 in
theorem cf107_ok : compF TP Tryz.f107 = some cf107 := by kernel_rfl
namespace Q
set_option maxRecDepth 100000 in
def T108 : Was (s7 1 1 (a31 b6 1 e5) (e4 6 (i9 3 1 v4) (a22 9 7 1 (a3 3 (j0 205 d2)) (a12 13 (a8 7 1 (a3 3 (j0 206 p7))) (i6 17 0 1 k4 (.b 0 (b5 20 (a21 2 13 19) 19 (d7 21 4 (i0 1 (h2 (a3 5 (i4 7 1 (q9 .neq 1 (h0 2 11051) (a25 6 4 c9 (k6 7 (k1 7 1 (q9 .eql 1 (h0 2 32123) (k6 4 (k1 7 1 (q9 .eql 1 (h0 1 124) (e8 (n7 3 .eql 2 (a25 7 3 c9 (k6 8 d4))))))))))))))))) (b5 46 (a0 18 14 45) 45 (d7 47 4 (i0 1 (h2 (n7 4 .eql 2 (u8 3 (a3 5 (k6 2 d4))))))) (k5 57 (a0 18 15 56) 56 (p2 58 7 1 (a8 5 1 (f9 205 3 (i0 3 (k1 7 1 (q9 .eql 1 (h0 1 33) (i4 5 1 (i0 2 (a25 8 4 c9 (k6 9 d4))))))))))))))) (l4 2 d5)))) 2) := ⟨_, by conv => rhs; reduce⟩
end Q
def cf108 : CF := Q.T108.1
set_option maxRecDepth 100000 in
theorem cf108_ok : compF TP Tryz.f108 = some cf108 := by kernel_rfl
namespace Q
set_option maxRecDepth 100000 in
def T109 : Was (z1 2 (t7 2 b6 e6 (p1 b6 e6 e5) (h9 10 (e2 3 (i0 12 (i4 8 3 (c6 (k9 200 (h8 1 (c7 1000)) (x8 (t5 .pick 6 c9))))))) 19 (q0 4) (n8 5 0 (b4 20 5 (a18 8 3 4) (f7 24 0) (e1 1 27 (a8 8 3 (m6 5 2 0 1 m0)) (b4 33 6 (i9 2 2 (s9 (e3 200 5 (x2 a6) k0))) (j1 39 4 e5) (a22 40 2 2 (m6 6 9 0 1 r4) (b4 46 7 (p4 .neq (e8 (n7 7 .neq 2 (f4 3 (e8 (n7 7 .neq 8 (s3 3 c9))))))) (j1 55 4 e5) (c4 56 (n5 5 .gtr 1 a2 (i4 2 2 (a8 8 3 (n7 5 .sub 1 (q2 2 3 (o0 0 1 (q2 9 8 (g8 9 (a8 2 2 (y3 6 9 9 (a5 (f9 128 6 (a9 (j8 .geq (.n :: a9 (t5 .pick 19 c9)))))))))))))))) (j1 77 4 e5))))) (a39 25 5 5))) (h9 78 (i9 9 3 (q7 .gtr 60)) 81 (q0 4) (n8 8 2 (b4 82 8 (a18 9 3 4) (f7 86 2) (e1 3 89 (a8 9 3 (h7 8 6 (i3 6 9 (a95 (a85 a6 a7 [])) 6 9))) (k5 94 (e2 9 (k9 200 (h8 1 (c7 3)) (s2 (h2 (b2 6 2 (x1 1 9 2 (f9 203 3 (z9 .pick 6 n3 (h2 (b2 6 2 (x1 3 9 2 (f9 203 3 (s2 (e8 (x1 3 9 2 (a4 204 (a82 a75 11 false (l1 .pick 5 c9 (k6 12 (k1 5 9 (i4 0 9 (p4 .neq (a25 7 4 c9 (n1 8)))))))))))))))))))))))) 126 (q0 4)) (a39 87 8 8))) (l4 4 d5)))))) 4) := ⟨_, by conv => rhs; reduce⟩
end Q
def cf109 : CF := Q.T109.1
set_option maxRecDepth 100000 in
theorem cf109_ok : compF TP Tryz.f109 = some cf109 := by kernel_rfl
namespace Q
set_option maxRecDepth 100000 in
def T110 : Was (z1 3 (a19 3 b6 0 (g1 1 (p1 b6 (d8 2) e5)) (a22 9 5 3 (h7 1 10 (i3 10 7 (v0 .nils a1 .nils .nils []) 10 7)) (h9 14 (e2 7 (i0 39 (k1 0 7 (i0 40 (n1 4))))) 21 (p2 22 4 7 (i9 5 3 (s9 (e3 200 5 (x2 a6) (i4 5 3 (a8 4 7 (q2 10 3 (o0 0 1 (i0 37 (f4 9 m0)))))))))) (n8 8 0 (b4 39 8 (a18 8 7 4) (f7 43 0) (l5 1 (c4 46 (a8 8 7 (m6 8 2 1 1 (n7 1 .add 1 (i9 5 3 (s9 (a5 (e3 200 7 (i1 5) (a9 k0)))))))) (j1 59 6 e5)) 44 8 8)) (p2 60 6 5 (s2 (k1 4 7 (n7 1 .add 1 (i9 5 3 (s9 (e3 200 7 (i1 5) (k6 10 m0)))))))))))) 6) := ⟨_, by conv => rhs; reduce⟩
end Q
def cf110 : CF := Q.T110.1
set_option maxRecDepth 100000 in
theorem cf110_ok : compF TP Tryz.f110 = some cf110 := by kernel_rfl
namespace Q
set_option maxRecDepth 100000 in
def T111 : Was (r1 1 (s0 2 (u3 .nils .nils (q5 a7 [])) (e4 5 (r9 (u3 .nils .nils (q5 a7 [])) (a40 0 1) (c7 (-1)) (t6 3 (u3 .nils .nils (q5 a7 [])) 7 3)) (n8 4 0 (g4 6 (u5 e6 (b1 (x4 a01 b9))) 8 (.x 0) (l5 1 (.r 11 (a8 1 3 (m2 (m7 o3 1 1 1) g6 (l8 1 8 2 (m1 1 3 1 f1))))) 9 4 4)) (a15 16 7 3 (f5 7 2))))) 2 7) := ⟨_, by conv => rhs; reduce⟩
end Q
def cf111 : CF := Q.T111.1
set_option maxRecDepth 100000 in
theorem cf111_ok : compF TP Tryz.f111 = some cf111 := by kernel_rfl
namespace Q
set_option maxRecDepth 100000 in
def T112 : Was (a45 1 (t7 2 (o1 (u3 .nils .nils (q5 a7 []))) [] (z0 d0 e5) (t8 8 (c6 (k7 .eql a2)) 10 (g0 11 (r9 (u3 .nils .nils (q5 a7 [])) [] [] (w9 7 2 b3 (a09 3 e5 4 a2)))) (l3 12 207 p7 (b4 14 5 (k7 .neq a2) (c8 15 (g0 16 (r9 (u3 .nils .nils (q5 a7 [])) [] [] (a3 5 (y9 7 2 (u4 3 d5 d2)))))) (b7 18 (v7 7 1 a2 (i3 7 6 (u3 .nils .nils (q5 a7 [])) 7 6)) (a72 7 g6 0 (b4 21 7 (b1 (x0 3)) (f7 24 0) (l5 1 (.d 28 (b2 7 6 (b1 (y3 7 7 7 (a5 (f9 208 5 (z6 27 (a9 (a60 33 [] 6 (a9 (v9 0 7 (d6 (v9 1 8 (d6 (a65 7 6 f1))))))))))))))) 25 7 7)) (a15 36 7 6 (w9 7 2 b3 (a09 3 d5 4 a2))))))))) 2 7 (x9 3 (x9 4 []))) := ⟨_, by conv => rhs; reduce⟩
end Q
def cf112 : CF := Q.T112.1
set_option maxRecDepth 100000 in
theorem cf112_ok : compF TP Tryz.f112 = some cf112 := by kernel_rfl
namespace Q
set_option maxRecDepth 100000 in
def T113 : Was (z1 3 (a19 3 b6 0 (a33 b6 (d8 1) (z0 b6 (d8 2))) (e4 13 (b2 6 3 (b2 10 5 (j0 209 r4))) (n8 8 0 (b4 16 8 (a3 7 (x0 3)) (f7 19 0) (l5 1 (c4 23 (b2 6 3 (b2 7 4 (a3 7 (y3 8 2 2 (a5 (e3 210 6 (i1 5) (z6 22 (a9 (a60 29 [] 7 (a9 (v9 0 8 (a9 (v9 1 9 (z6 9 (a9 (a56 30 [] (a9 (n2 d0 (a80 31 []))))))))))))))))))) (b0 32 10 (k7 .neq a2) (l6 33 34 10 m0))) 20 8 8)) (h9 35 (j4 1 5 (o0 0 1 (i0 2 (e8 (j4 1 5 (o0 1 1 (e2 4 (f0 .geq 3 (s3 7 c9))))))))) 46 (a24 6 181) (h9 47 (e2 5 (i0 5 (k1 0 5 (i0 6 (k6 4 (k1 0 5 (i0 7 (n1 4)))))))) 59 (c4 61 (b2 6 3 (b2 7 4 (a8 3 5 (v7 2 1 a2 (g8 2 (a5 (e3 210 6 (i1 5) (z6 60 (a9 (a60 67 [] 7 (a9 (v9 0 8 (a9 (v9 1 9 (a9 (u4 11 f1 (z6 12 (a9 (a56 69 [] []))))))))))))))))))) (k5 70 (e2 5 (i0 5 (e8 (a3 11 (a8 5 5 (a28 .add 3 (p4 .add (f0 .lss 5 (f4 7 (k1 0 5 (h6 .neq 5 (e8 (n7 11 .neq 2 (a25 7 3 c9 (n1 8))))))))))))))) 89 (a24 6 180))) (h9 90 (a8 5 4 (j8 .neq (i4 0 5 (a4 211 (z9 .pick 5 c9 (k1 0 5 (i0 37 (k1 0 5 (i0 40 (a25 8 4 n3 (i4 5 4 (p4 .neq (a25 13 4 c9 (k6 14 (k1 0 5 (i0 38 (k1 0 5 (i0 39 (a25 8 4 n3 (i4 5 4 (h6 .neq 2 (a25 13 4 c9 (n1 14))))))))))))))))))))))) 128 (a24 6 184) (h9 129 (a8 4 4 (s2 (i4 0 5 (i0 31 (k1 0 5 (i0 32 (a43 8 true 4 n3 (k1 0 5 (i0 33 (a43 13 true 4 n3 (k1 0 5 (i0 34 (a43 18 true 4 n3 (s3 19 c9)))))))))))))) 151 (a24 6 183) (h9 152 (e2 5 (i0 24 (i4 0 4 (j8 .geq (f4 4 (k1 0 5 (i0 25 (i4 0 4 (j8 .lss (a25 8 4 c9 (k6 9 (k1 0 5 (a4 212 (i4 0 4 (j8 .geq (a25 8 4 c9 (n1 9))))))))))))))))) 179 (a24 6 181) (h9 180 (e2 5 (i0 29 (i4 3 4 (c6 (r2 (f4 5 (k1 0 5 (a4 212 (i4 3 4 (c6 (j8 .gtr (a25 9 5 c9 (n1 10))))))))))))) 199 (a24 6 182) (l4 6 a2)))))))))) 6) := ⟨_, by conv => rhs; reduce⟩
end Q
def cf113 : CF := Q.T113.1
set_option maxRecDepth 100000 in
theorem cf113_ok : compF TP Tryz.f113 = some cf113 := by kernel_rfl
namespace Q
set_option maxRecDepth 100000 in
def T114 : Was (z1 3 (a19 3 b6 0 (g1 2 (n2 d0 e5)) (d7 7 1 (a4 213 (i4 3 3 (c6 (j8 .gtr (l9 5 1 3 3 (i9 3 3 (s9 (u7 1 5 (m3 2 .leq 2 (f4 11 m0)))))))))))) 6) := ⟨_, by conv => rhs; reduce⟩
end Q
def cf114 : CF := Q.T114.1
set_option maxRecDepth 100000 in
theorem cf114_ok : compF TP Tryz.f114 = some cf114 := by kernel_rfl
namespace Q
set_option maxRecDepth 100000 in
def T115 : Was (a51 5 (a19 5 b6 0 (g1 1 (a33 b6 (d8 2) (g1 2 (z0 d0 c1)))) (a22 20 5 5 (h7 1 10 (i3 10 12 (v0 .nils a1 .nils .nils []) 10 12)) (e4 26 (b2 6 5 (e0 (b2 7 7 (b2 10 12 (e3 214 4 l7 (o5 25 30 5 (v9 0 6 (o6 1 7 2 8 (r0 13 (u3 .nils .nils (q5 a7 [])) (r0 14 (u3 .nils .nils (q5 a7 [])) (r0 15 (u3 .nils .nils (q5 a7 [])) (w9 7 13 s1 (w8 7 14 7 15))))))))))))) (e4 35 (e2 12 (a4 105 (o5 34 37 3 (o6 0 4 1 5 (r0 16 (a08 a7 a7 (p5 a7 a7 a7 a7 (a50 a7 a7 []))) (y9 10 16 (z6 17 (a56 39 [] [])))))))) (h9 40 (a8 6 16 (i4 0 12 (h6 .neq 28 (s3 4 c9)))) 46 (b5 47 (a8 4 12 (e0 (y8 .gtr b9))) 50 (.d 51 (j7 3 (v5 4 12 (a3 3 (a8 4 12 (u7 1 3 (b2 7 14 (n6 (u3 .nils .nils (q5 a7 [])) 1 7 7 (a5 (l8 7 104 3 (a9 (p8 1 11 9 (d6 (t0 1)))))))))))))) (c4 63 (a3 4 (a8 4 12 (u7 1 3 (k2 (.r (.eq (.one .p) false)) (e9 (a23 .nilp)) (h2 (a3 4 (a8 4 12 (u7 1 3 (c2 0 (e2 7 (f0 .neq 3 (u8 12 (a3 4 (a8 4 12 (u7 1 3 (c2 6 (a8 6 7 (f0 .neq 3 (u8 12 (a3 4 (a8 4 12 (u7 1 3 (c2 3 (a8 3 7 (a5 (f9 215 3 (a9 (x8 (a9 (t5 .pick 13 n3)))))))))))))))))))))))))))))) (l6 108 109 3 (a09 10 b3 11 (c7 184))))) (n8 18 0 (b4 110 18 (a18 8 12 4) (f7 114 0) (l5 1 (.d 117 (j7 3 (v5 8 12 (j7 18 (q2 2 2 (a55 1 (a3 3 (a8 8 12 (m6 18 2 1 1 (u7 1 7 (b2 7 14 (n6 (u3 .nils .nils (q5 a7 [])) 1 7 7 (a5 (l8 7 104 3 (a9 (p8 1 19 13 (d6 (t0 1)))))))))))))))))) 115 18 18)) (h9 137 (e2 12 (a4 213 (i4 3 7 (c6 (j8 .gtr (s3 5 c9)))))) 145 (a22 146 3 7 (i9 3 7 (s9 (u7 1 5 (c5 19)))) (.d 154 (j7 3 (f6 19 3 (k8 19 1 (b2 7 15 (n6 (u3 .nils .nils (q5 a7 [])) 1 7 7 (a5 (l8 7 104 3 (a9 (p8 1 9 8 (d6 (t0 1))))))))))))) (h9 164 (b2 10 12 (a61 (.call 216))) 165 (b4 166 1 (p4 .add (i9 5 5 (y8 .eql (i1 4)))) (l6 171 172 3 (a09 10 b3 11 (c7 185))) (.d 173 (j7 3 (g7 1 (p4 .add (f6 3 1 (p4 .add (u7 1 3 (b2 7 13 (n6 (u3 .nils .nils (q5 a7 [])) 1 7 7 (a5 (l8 7 104 3 (a9 (p8 1 11 9 (d6 (t0 1)))))))))))))))) (d7 185 3 (a09 10 b3 11 a2)))))))))) 10 (x9 11 [])) := ⟨_, by conv => rhs; reduce⟩
end Q
def cf115 : CF := Q.T115.1
set_option maxRecDepth 100000 in
theorem cf115_ok : compF TP Tryz.f115 = some cf115 := by kernel_rfl
namespace Q
set_option maxRecDepth 100000 in
def T116 : Was (s7 1 1 (a68 b6 1) (h9 3 (a71 9 e6 (a4 217 k0)) 5 (a24 2 2) (h9 6 (b2 9 1 (a4 218 (q7 .gtr 2000))) 8 (a24 2 3) (l4 2 a2))) 2) := ⟨_, by conv => rhs; reduce⟩
end Q
def cf116 : CF := Q.T116.1
set_option maxRecDepth 100000 in
theorem cf116_ok : compF TP Tryz.f116 = some cf116 := by kernel_rfl
namespace Q
set_option maxRecDepth 100000 in
def T117 : Was (h1 1 2 a2 (q8 3 a2 (n8 4 0 (g4 5 (u5 w4 (b1 (x0 3))) 8 (.x 0) (l5 1 (d3 11 3 (b1 (y3 4 9 9 (a4 119 (f0 .add 6 v4))))) 9 4 4)) (d7 18 3 d4))) 2) := ⟨_, by conv => rhs; reduce⟩
end Q
def cf117 : CF := Q.T117.1
set_option maxRecDepth 100000 in
theorem cf117_ok : compF TP Tryz.f117 = some cf117 := by kernel_rfl
namespace Q
set_option maxRecDepth 100000 in
def T119 : Was (s7 1 1 (a68 b6 1) (a22 5 8 1 (a89 .add (a73 1) 3) (n8 4 0 (b4 8 4 (a18 6 1 4) (f7 12 0) (l5 1 (d3 15 3 (a8 6 1 (y3 4 9 9 (a4 119 (f0 .add 7 v4))))) 13 4 4)) (d7 23 3 d4))) 2) := ⟨_, by conv => rhs; reduce⟩
end Q
def cf119 : CF := Q.T119.1
set_option maxRecDepth 100000 in
theorem cf119_ok : compF TP Tryz.f119 = some cf119 := by kernel_rfl
namespace Q
set_option maxRecDepth 100000 in
def T122 : Was (g3 3 (e4 4 (a32 b6 (d8 1) b6 (d8 2)) (.b 0 (b5 10 (e2 4 (i0 1 (i4 1 4 (j8 .geq (l9 4 1 1 4 (h6 .lss 256 (f4 4 (c5 9)))))))) 9 (.d 23 (b1 (a8 1 4 (b2 9 5 (y2 4 11 (l1 (.ixarrp 256 9) 1 (o8 4) (a5 (m5 9 4)))))))) (c4 31 (e2 4 (i0 2 (v2 (y4 2315 8 1 (l9 6 1 1 4 (j8 .geq (l9 4 1 1 4 (b1 (y4 2315 7 1 (a11 .lss 7 (f4 10 (c5 30)))))))))))) (g5 30 (e4 57 (m2 (.bslice p3 0 9 []) [] (b1 (y4 2315 7 1 (a34 9 112 6 6)))) (b0 64 6 (a8 1 4 (b2 9 5 (v7 9 4 f1 (t0 9)))) (d1 69 (a3 6 (y2 2 2315 (g9 7 (m5 1 4))))))) (d1 7 (a4 53 [])))))))) := ⟨_, by conv => rhs; reduce⟩
end Q
def cf122 : CF := Q.T122.1
set_option maxRecDepth 100000 in
theorem cf122_ok : compF TP Tryz.f122 = some cf122 := by kernel_rfl
namespace Q
set_option maxRecDepth 100000 in
def T128 : Was (z1 2 (t7 2 b6 e6 (z0 b6 e6) (c4 7 (b2 9 2 (u9 1 (b2 9 3 (n4 8 (a4 51 (r3 1 (a4 51 (j6 (u4 5 s1 (j6 m0)))))))))) (b4 11 5 (e8 (a3 6 (s3 2 c9))) (c8 14 (a15 15 9 2 (b2 9 3 (j0 226 d2)))) (.q (a27 18 5 (j1 18 4 g6)) (.q (a27 19 6 (j1 19 4 (c7 (-1)))) (l4 4 a2)))))) 4) := ⟨_, by conv => rhs; reduce⟩
end Q
def cf128 : CF := Q.T128.1
set_option maxRecDepth 100000 in
theorem cf128_ok : compF TP Tryz.f128 = some cf128 := by kernel_rfl
namespace Q
set_option maxRecDepth 100000 in
def T130 : Was (a45 3 (a19 3 b6 0 (g1 2 (a32 (o1 p3) [] (o1 (q6 a77)) [])) (b0 11 1 (a3 2 (c6 (f9 205 3 w3))) (b0 15 1 (a3 2 (c6 (f9 206 3 (c5 9)))) (b4 19 9 (s2 (e8 (n7 8 .neq 1 (f4 3 (e8 (n7 8 .neq 2 (s3 3 c9))))))) (c8 28 (y7 29 220 (h0 5 439787744885) (r8 0 1 2 (w8 9 6 10 7)))) (n8 10 0 (b4 32 10 (a3 2 (x0 3)) (f7 35 0) (l5 1 (b0 38 2 (y3 10 9 9 (a4 51 k0)) (c8 43 (y7 44 220 (h0 6 113740957901154) (r8 0 1 2 (w8 9 6 10 7))))) 36 10 10)) (a49 2 (b0 48 9 (e8 (a3 2 (c6 (i0 1 (f4 4 (c5 47)))))) (g5 47 (d7 54 1 (t3 2 9 1 a2 (g8 9 (f9 228 4 (r8 0 1 2 (w8 9 6 10 7)))))) (b0 62 9 (c5 61) (g5 61 (c4 63 (e0 (t3 2 9 1 a2 (g8 9 (t3 2 9 1 g6 (g8 9 (a5 (e3 229 7 (i1 4) (a9 (a76 0 (a9 (v9 1 2 (d6 (y9 9 6 (f8 2 (f5 10 7))))))))))))))) .ret) (b0 74 2 (c6 (r2 (c5 73))) (g5 73 (h9 77 (e2 3 (h6 .neq 6 (h2 (b2 9 3 (a4 51 (x8 (t5 .pick 4 n3))))))) 84 (y7 85 220 (h0 6 113740957901154) (r8 0 1 2 (w8 9 6 10 7))) (b4 88 1 (k7 .eql (h0 4 1718379891)) (c8 89 (a15 90 9 3 (a4 221 (r8 0 1 2 (w8 9 6 10 7))))) (p2 94 3 3 (a4 227 (a4 221 (r8 0 1 2 (w8 9 6 10 7))))))) (b0 101 8 (p6 .eql 1 100) (l6 100 103 1 (a3 2 (j0 230 (r8 0 1 2 (w8 9 6 10 7)))))))))))) (d7 108 1 (a3 2 (j0 231 (r8 0 1 2 (w8 9 6 10 7))))))))))) 6 9 [a78 7 10]) := ⟨_, by conv => rhs; reduce⟩
end Q
def cf130 : CF := Q.T130.1
set_option maxRecDepth 100000 in
theorem cf130_ok : compF TP Tryz.f130 = some cf130 := by kernel_rfl
namespace Q
set_option maxRecDepth 100000 in
def T131 : Was (v3 1 2 (s4 4 2326 (c6 v4) (c4 9 (b1 (y4 2315 8 1 (s2 (e8 (n5 3 .eql 1 a2 (h2 (d9 2326 (n7 3 .sub 1 (q2 2 3 (o0 0 1 (d9 2325 (a11 .lss 6 (a43 19 true 16 n3 (f4 20 d4)))))))))))))) .ret)) 2) := ⟨_, by conv => rhs; reduce⟩
end Q
def cf131 : CF := Q.T131.1
set_option maxRecDepth 100000 in
theorem cf131_ok : compF TP Tryz.f131 = some cf131 := by kernel_rfl
namespace Q
set_option maxRecDepth 100000 in
def T132 : Was (h1 2 4 c1 (q8 5 c1 (n8 6 0 (g4 7 (u5 w4 (m3 1 .lss 2 (e8 (n7 6 .lss 256 (s3 3 c9))))) 13 (.x 0) (l5 1 (d3 16 5 (b1 (a3 6 (y2 2 11 (l1 (.ixarrp 256 9) 1 s1 (g8 9 (s6 (m7 p3 1 9 9) 9 112 8 5))))))) 14 6 6)) (d7 25 5 d2))) 4) := ⟨_, by conv => rhs; reduce⟩
end Q
def cf132 : CF := Q.T132.1
set_option maxRecDepth 100000 in
theorem cf132_ok : compF TP Tryz.f132 = some cf132 := by kernel_rfl
namespace Q
set_option maxRecDepth 100000 in
def T136 : Was (g3 1 (h4 4 (a4 131 (s2 (h2 (d9 2332 (j8 .neq (n1 6)))))) (l6 13 14 0 (a4 53 [])) (b7 16 (l0 11 (l1 (.ixarrp 256 9) 1 a2 (i3 9 2 p3 9 2))) (s4 21 2325 (c6 v4) (b4 26 3 (k7 .eql a2) (l6 27 28 0 (b2 9 2 (x3 (a36 a1 (a53 a1 (a04 .nils a1 a1 (q1 a1 a1 a6 [])))) (j2 1 2 9) 1 (n0 27 3)))) (b7 32 (d9 2325 (n7 3 .sub 1 (q2 9 3 (g8 9 (w0 9 2315 9 3))))) (b7 43 (d9 2325 (n7 3 .sub 1 (l1 (w7 (.sl 9) false true) 3 b3 (w0 8 2325 1 3)))) (l3 53 23 [] (.d 55 (g7 0 (b1 (b2 9 2 (y2 3 11 (l1 (.ixarrp 256 9) 1 a2 (a5 (x7 9 (o8 4) (a9 (v6 .nilc 5 (a17 2328 (d6 (a46 1 c9))))))))))))))))))))) := ⟨_, by conv => rhs; reduce⟩
end Q
def cf136 : CF := Q.T136.1
set_option maxRecDepth 100000 in
theorem cf136_ok : compF TP Tryz.f136 = some cf136 := by kernel_rfl
namespace Q
set_option maxRecDepth 100000 in
def T146 : Was (v3 1 2 (h4 5 (q9 .eql 1 n9 (a26 (h3 y6 (h6 .gtr 32 (n1 4))))) (j1 11 2 e5) (h4 12 (a61 (.a .rangeS)) (p0 0 (t7 14 (.e .nextS) w4 (x4 (.ext 0) w4) (.q (f7 15 0) (.b 1 (e4 16 (w5 (.ext 1) e6 (a52 (.ext 2) 14 (u4 3 f1 d2))) (.b 2 (b0 19 4 (u0 .geq 1 .i32 97 (e8 (n5 4 .leq 1 (m8 .i32 122) (f4 3 (c5 18))))) (g5 18 .skip (b0 26 3 (j8 .gtr (e8 (n5 4 .geq 1 (m8 .i32 65) (e8 (n5 4 .leq 1 (m8 .i32 90) (a43 6 true 3 c9 (h2 (n5 4 .geq 1 (m8 .i32 48) (e8 (n5 4 .leq 1 (m8 .i32 57) (a25 6 3 c9 (a43 14 true 7 n3 (h2 (n5 4 .eql 1 (m8 .i32 95) (a43 18 true 3 n3 (h2 (n5 4 .eql 1 (m8 .i32 64) (a43 22 true 3 n3 (f4 23 (c5 25)))))))))))))))))))) (g5 25 .skip (q0 2))))))))))) (l4 2 d5))) 2) := ⟨_, by conv => rhs; reduce⟩
end Q
def cf146 : CF := Q.T146.1
set_option maxRecDepth 100000 in
theorem cf146_ok : compF TP Tryz.f146 = some cf146 := by kernel_rfl
namespace Q
set_option maxRecDepth 100000 in
def T147 : Was (v3 1 2 (y7 3 237 [] (b1 (a35 a29 a6 2 (j8 .gtr d4)))) 2) := ⟨_, by conv => rhs; reduce⟩
end Q
def cf147 : CF := Q.T147.1
set_option maxRecDepth 100000 in
theorem cf147_ok : compF TP Tryz.f147 = some cf147 := by kernel_rfl
namespace Q
set_option maxRecDepth 100000 in
def T148 : Was (x5 2 4 5 (e0 (j0 238 (j8 .geq d2))) 4) := ⟨_, by conv => rhs; reduce⟩
end Q
def cf148 : CF := Q.T148.1
set_option maxRecDepth 100000 in
theorem cf148_ok : compF TP Tryz.f148 = some cf148 := by kernel_rfl
namespace Q
set_option maxRecDepth 100000 in
def T150 : Was (x5 1 2 3 (k9 239 (u2 240 [] []) (s2 d4)) 2) := ⟨_, by conv => rhs; reduce⟩
end Q
def cf150 : CF := Q.T150.1
set_option maxRecDepth 100000 in
theorem cf150_ok : compF TP Tryz.f150 = some cf150 := by kernel_rfl
namespace Q
set_option maxRecDepth 100000 in
def T151 : Was (a45 2 (t7 3 b6 e6 (p1 (o1 h5) [] e5) (e4 7 (i9 4 3 m0) (a12 10 (i7 3 (q4 4)) (i6 11 0 3 k4 (.b 0 (b5 19 (a0 12 1 18) 18 (.r 20 (t4 1 4 1 a2 (a38 5 d5))) (b5 22 (a0 12 2 21) 21 (.r 23 (a8 2 3 (a4 67 (t4 2 4 1 n9 (a38 5 f1))))) (b5 28 (a0 12 3 27) 27 (.r 29 (a8 2 3 (a4 241 (t4 2 4 1 n9 (a38 5 f1))))) (g4 34 (a0 12 4 33) 33 (m9 35 12 6 33) (g5 33 (.r 5 (n2 d0 d5)) (b5 37 (a0 12 5 36) 36 (b7 38 (d9 2 (h2 (n7 6 .gtr 255 (k6 3 (w0 9 2 1 3))))) (.r 49 (t4 4 4 1 c1 (a38 5 d5)))) (b5 51 (a0 12 7 50) 50 (d3 52 6 (h6 .geq 2 (t4 4 4 1 c1 (a38 5 f1)))) (b5 56 (a0 12 8 55) 55 (b7 57 (d9 2 (h2 (i9 5 3 (h6 .gtr 60 (k6 5 (w0 11 2 1 3)))))) (.r 70 (a8 5 3 (a4 242 (t4 5 4 1 c1 (a38 5 f1)))))) (b5 75 (a0 12 9 74) 74 (.r 76 (a8 2 3 (a3 6 (j0 243 (t4 2 4 1 n9 (t4 4 4 1 c1 (a38 5 s1))))))) (b5 83 (a0 12 10 82) 82 (b7 84 (d9 2 (h2 (n7 6 .gtr 16 (k6 3 (w0 9 2 1 3))))) (.r 95 (a8 2 3 (a4 67 (t4 2 4 1 n9 (t4 4 4 1 c1 (a38 5 s1))))))) (b5 101 (a0 12 11 100) 100 (b7 102 (d9 2 (h2 (n7 6 .gtr 18 (k6 3 (w0 9 2 1 3))))) (d3 113 6 (h6 .geq 2 (t4 4 4 1 c1 (a38 5 f1))))) (b5 117 (a0 12 12 116) 116 (b7 118 (d9 2 (h2 (n7 6 .gtr 17 (k6 3 (w0 9 2 1 3))))) (d3 129 6 (p4 .geq (t4 4 4 1 c1 (a38 5 f1))))) (b5 133 (a0 12 14 132) 132 (i6 134 2 4 (x7 1 n9 (t4 3 4 1 n9 (m1 1 4 1 a2))) (.r 137 (a8 2 3 (a4 67 (i4 3 3 (a4 67 (l9 4 1 1 3 (j8 .geq (l9 4 1 1 3 (h6 .leq 16 (f4 4 p7))))))))))) (k3 13 (i7 3 (j0 244 (r8 0 1 2 (y9 11 4 p7)))))))))))))))))))) (g0 155 (i7 4 (a3 5 (y9 11 4 p7))))))) 4 11 (x9 5 [])) := ⟨_, by conv => rhs; reduce⟩
end Q
def cf151 : CF := Q.T151.1
set_option maxRecDepth 100000 in
theorem cf151_ok : compF TP Tryz.f151 = some cf151 := by kernel_rfl
namespace Q
set_option maxRecDepth 100000 in
def T152 : Was (z1 2 (t7 2 b6 e6 (p1 b6 e6 e5) (p2 5 0 2 (e2 3 (f0 .eql 3 (i4 1 2 (a8 1 3 (f0 .eql 3 (l9 6 1 2 2 (a8 2 3 (f0 .eql 3 (l9 6 1 3 2 (a8 3 3 (f0 .eql 3 (l9 6 1 10 2 (a8 10 3 (l1 (.eqd .b false) 3 b3 (l9 6 1 4 2 (a8 4 3 (e3 245 3 (e9 (u2 152 [] [])) (l9 6 1 5 2 (a8 5 3 (e3 246 3 (e9 (u2 247 [] [])) (l9 6 1 6 2 (a8 6 3 (e3 248 3 (e9 (u2 249 [] [])) (l9 6 1 7 2 (a8 7 3 (e3 248 3 (e9 (u2 249 [] [])) (l9 6 1 8 2 (a8 8 3 (e3 250 3 (e9 (u2 251 [] [])) (l9 6 1 9 2 (a8 9 3 (e3 250 3 (e9 (u2 251 [] [])) (f4 6 d2))))))))))))))))))))))))))))))))))) 4) := ⟨_, by conv => rhs; reduce⟩
end Q
def cf152 : CF := Q.T152.1
set_option maxRecDepth 100000 in
theorem cf152_ok : compF TP Tryz.f152 = some cf152 := by kernel_rfl
namespace Q
set_option maxRecDepth 100000 in
def T153 : Was (z1 2 (t7 2 b6 e6 (p1 b6 e6 e5) (e4 10 (a52 (z3 252 0) 3 p7) (e4 11 (a52 (z3 255 0) 3 m0) (e4 12 (a52 (z3 257 0) 3 r4) (h9 13 (e2 2 (q7 .eql 17)) 15 (d7 16 7 (a8 6 2 (r6 .callv 3 (e8 (a3 5 (a8 4 2 (r6 .callv 3 (f4 5 (e8 (a3 6 (a8 9 2 (r6 .callv 3 (f4 5 d2))))))))))))) (.q (i6 32 5 2 t2 (j5 36 36 0 (e1 1 37 (o4 27 33 (i3 27 9 (u3 a1 a6 (a41 a1 a1 .nils (p9 (q5 a7 (q1 a1 a1 .nils (p9 (p5 a7 a7 a7 a7 []))))))) 27 9)) (k5 39 (e2 9 (h6 .neq 4 (e8 (b8 3 (x1 2 9 11 (r6 .callv 3 (z9 .pick 6 c9 (k1 24 9 (e8 (b8 3 (x1 13 9 11 (r6 .callv 3 (a82 a75 9 false (l1 .pick 6 c9 (n1 10))))))))))))))) 59 (q0 4)) (c3 60 35 35)))) (d7 61 5 (a8 4 2 (r6 .callv 3 (e8 (a3 6 (a8 8 2 (r6 .callv 3 (f4 5 (e8 (a3 7 (a8 6 2 (r6 .callv 3 (f4 5 (e8 (a3 7 (a8 7 2 (r6 .callv 3 (f4 5 (e8 (a3 6 (a8 9 2 (r6 .callv 3 (f4 5 d2))))))))))))))))))))))))))))) 4) := ⟨_, by conv => rhs; reduce⟩
end Q
def cf153 : CF := Q.T153.1
set_option maxRecDepth 100000 in
theorem cf153_ok : compF TP Tryz.f153 = some cf153 := by kernel_rfl
namespace Q
set_option maxRecDepth 100000 in
def T154 : Was (s7 3 3 (p1 b6 (d8 0) e5) (g0 5 (b8 1 (i7 3 (b8 2 (p4 .add (e3 71 4 r5 d2)))))) 4) := ⟨_, by conv => rhs; reduce⟩
end Q
def cf154 : CF := Q.T154.1
set_option maxRecDepth 100000 in
theorem cf154_ok : compF TP Tryz.f154 = some cf154 := by kernel_rfl
namespace Q
set_option maxRecDepth 100000 in
def T155 : Was (g3 4 (.d 8 (a5 (b1 (d9 4 (b1 (y4 0 0 1 (b1 (y4 0 1 1 (b1 (y4 0 2 1 (e0 (f6 2 3 (z8 (q6 (a53 a6 [])) (a47 0 (u6 1 2 (o2 3 4 1 5 1))) 14 (f2 9 (f2 4 l7)) (n6 (q6 (a53 a6 [])) 1 6 6 (a5 (l8 6 64 21 (a9 (v6 .nilc 26 (a17 4 (d6 (m5 1 3)))))))))))))))))))))) := ⟨_, by conv => rhs; reduce⟩
end Q
def cf155 : CF := Q.T155.1
set_option maxRecDepth 100000 in
theorem cf155_ok : compF TP Tryz.f155 = some cf155 := by kernel_rfl
namespace Q
set_option maxRecDepth 100000 in
def T156 : Was (h1 2 4 a2 (b4 5 1 (j8 .lss (a26 (z7 258 1 47 (n1 3)))) (j1 10 4 a2) (y7 11 259 [] (n5 0 .add 1 (h0 1 47) (e0 (a4 260 (f0 .add 3 (a35 a29 a6 6 d2))))))) 4) := ⟨_, by conv => rhs; reduce⟩
end Q
def cf156 : CF := Q.T156.1
set_option maxRecDepth 100000 in
theorem cf156_ok : compF TP Tryz.f156 = some cf156 := by kernel_rfl
namespace Q
set_option maxRecDepth 100000 in
def T157 : Was (g3 3 (a70 4 b6 (d8 1) (i6 12 1 4 t2 (j5 16 16 0 (e1 1 17 (o4 11 13 (i3 11 7 h5 11 7)) (d1 19 (i7 7 (j9 2 261 3 b9))) (c3 23 15 15)))) (.q (i6 24 2 4 t2 (i5 2 28 28 2 (e1 3 29 (a20 1 25 (c5 9)) (s5 31 d0 9 (i5 4 34 34 4 (e1 5 35 (o4 11 31 (i3 11 11 h5 11 11)) (d1 37 (i7 11 (j9 2 262 3 b9))) (c3 41 33 33)))) (c3 42 27 27)))) (d1 43 (a8 3 4 (j9 2 263 4 b9)))))) := ⟨_, by conv => rhs; reduce⟩
end Q
def cf157 : CF := Q.T157.1
set_option maxRecDepth 100000 in
theorem cf157_ok : compF TP Tryz.f157 = some cf157 := by kernel_rfl
end
end Ev
end Go.Proofs.YtihflniehaaakaaGreatDoor
