/-
  The functions of the program, compiled (printed by a program of ours; each is held against the program's own text below).
-/
import Derived.Test.YtihflniehaaakaaGreatDoorCkQ
namespace Go.Proofs.YtihflniehaaakaaGreatDoor
set_option linter.unusedVariables false
set_option linter.unusedSimpArgs false
namespace Ev
noncomputable section
namespace Q
set_option maxRecDepth 100000 in
def T201 : Was (r1 3 (s0 6 (a08 a7 a7 (p5 a7 a7 a7 a7 (a50 a7 a7 []))) (b0 9 1 (s8 2 (.build (a08 a7 a7 (p5 a7 a7 a7 a7 (a50 a7 a7 []))) (a99 8 1 9 1)) 2 b3 (t6 7 (a08 a7 a7 (p5 a7 a7 a7 a7 (a50 a7 a7 []))) 10 7)) (n8 8 0 (b4 12 8 (b1 (h3 y6 (a67 3))) (f7 15 0) (e1 1 18 (e2 7 (a26 (s8 8 .ixstr 2 b3 (u0 .eql 1 .u8 100 (k6 5 (m1 0 7 1 f1)))))) (a22 27 1 7 (a26 (s8 8 .ixstr 2 b3 (u0 .eql 1 .u8 115 (k6 5 (m1 1 7 1 f1))))) (a22 36 2 7 (a26 (s8 8 .ixstr 2 b3 (u0 .eql 1 .u8 110 (k6 5 (m1 2 7 1 f1))))) (a22 45 3 7 (a26 (s8 8 .ixstr 2 b3 (u0 .eql 1 .u8 119 (k6 5 (m1 3 7 1 f1))))) (a22 54 4 7 (a26 (s8 8 .ixstr 2 b3 (u0 .eql 1 .u8 99 (k6 5 (m1 4 7 1 f1))))) (a22 63 5 7 (a26 (s8 8 .ixstr 2 b3 (u0 .eql 1 .u8 103 (k6 5 (m1 5 7 1 f1))))) (a22 72 6 7 (a26 (s8 8 .ixstr 2 b3 (u0 .eql 1 .u8 116 (k6 5 (m1 6 7 1 f1))))) (.r 81 (a8 7 7 (a26 (s8 8 .ixstr 2 b3 (u0 .eql 1 .u8 108 (k6 5 (m1 7 7 1 f1))))))))))))) (a39 16 8 8))) (a15 90 10 7 (f5 10 6))))) 6 10) := ⟨_, by conv => rhs; reduce⟩
end Q
def cf201 : CF := Q.T201.1
set_option maxRecDepth 100000 in
theorem cf201_ok : compF TP Tryz.f201 = some cf201 := by kernel_rfl
namespace Q
set_option maxRecDepth 100000 in
def T202 : Was (a45 1 (a12 2 (p1 (o1 (a08 a7 a7 (p5 a7 a7 a7 a7 (a50 a7 a7 [])))) [] e5) (a27 4 0 (.b 0 (g4 6 (a21 2 16 5) 5 (c0 7 (a0 4 17 5) 5 (m9 8 4 24 5)) (g5 5 (y7 9 201 (u1 1 110 (t9 a6 a2)) (a05 10 2 b3 3 d5)) (g4 11 (a0 4 18 10) 10 (m9 12 4 19 10) (g5 10 (y7 13 201 (u1 2 28275 (h8 2 (c7 2))) (a05 10 2 b3 3 d5)) (g4 15 (a0 4 20 14) 14 (m9 16 4 21 14) (g5 14 (y7 17 201 (u1 2 28275 (h8 1 g6)) (a05 10 2 b3 3 d5)) (g4 19 (a0 4 22 18) 18 (m9 20 4 23 18) (g5 18 (y7 21 201 (u1 1 115 (h8 2 (c7 3))) (a05 10 2 b3 3 d5)) (g4 23 (a0 4 25 22) 22 (c0 24 (a0 4 26 22) 22 (c0 25 (a0 4 29 22) 22 (m9 26 4 38 22))) (g5 22 (g0 27 (r9 (a08 a7 a7 (p5 a7 a7 a7 a7 (a50 a7 a7 []))) [] [] (a05 10 2 b3 3 d5))) (b5 29 (a0 4 27 28) 28 (y7 30 201 (u1 1 115 (h8 2 (c7 2))) (a05 10 2 b3 3 d5)) (g4 32 (a0 4 31 31) 31 (m9 33 4 32 31) (g5 31 (y7 34 201 (u1 5 465809863524 (h8 1 g6)) (a05 10 2 b3 3 d5)) (b5 36 (a0 4 33 35) 35 (y7 37 201 (u1 4 1819569764 (t9 a6 a2)) (a05 10 2 b3 3 d5)) (b5 39 (a0 4 35 38) 38 (y7 40 201 (u1 3 7104356 (t9 a6 a2)) (a05 10 2 b3 3 d5)) (k5 42 (a0 4 36 41) 41 (y7 43 201 (u1 1 115 (t9 a6 g6)) (a05 10 2 b3 3 d5)))))))))))))))))))) (g0 44 (r9 (a08 a7 a7 (p5 a7 a7 a7 a7 (a50 a7 a7 []))) [] [] (a05 10 2 b3 3 e5)))) 2 10 (x9 3 [])) := ⟨_, by conv => rhs; reduce⟩
end Q
def cf202 : CF := Q.T202.1
set_option maxRecDepth 100000 in
theorem cf202_ok : compF TP Tryz.f202 = some cf202 := by kernel_rfl
namespace Q
set_option maxRecDepth 100000 in
def T203 : Was (z1 2 (t7 2 b6 e6 (p1 b6 e6 e5) (.q (e4 5 (w5 (.fa 0) e6 k4) (.b 0 (b5 8 (a30 2 g6 7) 7 (p2 9 1 3 (j8 .geq (i4 1 3 (h6 .lss 256 (f4 4 d2))))) (b5 18 (a0 6 2 17) 17 (p2 19 1 3 (j8 .geq (i4 1 3 (h6 .lss 8192 (f4 4 d2))))) (k5 28 (a0 6 3 27) 27 (p2 29 1 3 (j8 .geq (i4 1 3 (i9 2 2 (f0 .lss 4 (f4 7 d2))))))))))) (q0 4))) 4) := ⟨_, by conv => rhs; reduce⟩
end Q
def cf203 : CF := Q.T203.1
set_option maxRecDepth 100000 in
theorem cf203_ok : compF TP Tryz.f203 = some cf203 := by kernel_rfl
namespace Q
set_option maxRecDepth 100000 in
def T204 : Was (s7 1 1 (a31 b6 1 e5) (g0 3 (w5 (.fa 0) e6 (i2 (r2 (i4 1 1 (r2 (f4 4 d4))))))) 2) := ⟨_, by conv => rhs; reduce⟩
end Q
def cf204 : CF := Q.T204.1
set_option maxRecDepth 100000 in
theorem cf204_ok : compF TP Tryz.f204 = some cf204 := by kernel_rfl
namespace Q
set_option maxRecDepth 100000 in
def T205 : Was (h1 2 4 a2 (h4 7 (a4 24 (s2 (h2 (n5 1 .lss 1 a2 (u8 3 (n7 1 .gtr 9 (n1 3))))))) (j1 17 4 a2) (b7 18 (a79 .add (x2 (.str 1 32)) (q9 .add 1 (h0 1 47) (e0 (a28 .add 48 (h3 (.toInt .u8) (n6 (m4 i8) 1 1 1 (k2 (.r .b2s) b3 (f0 .add 6 (q9 .add 1 (h0 1 32) p7))))))))) (a72 6 g6 0 (b4 28 6 (q7 .leq 4) (f7 29 0) (l5 1 (a14 32 6 326 (a3 5 (z2 325 b9)) (l6 35 36 6 d2)) 30 6 6)) (l4 4 a2)))) 4) := ⟨_, by conv => rhs; reduce⟩
end Q
def cf205 : CF := Q.T205.1
set_option maxRecDepth 100000 in
theorem cf205_ok : compF TP Tryz.f205 = some cf205 := by kernel_rfl
namespace Q
set_option maxRecDepth 100000 in
def T206 : Was (v3 2 4 (b4 5 1 (k7 .eql g6) (l6 6 7 0 (q9 .eql 1 (h0 1 45) (h2 (n5 0 .eql 1 (h0 4 1953459810) (u8 3 (n5 0 .eql 1 (h0 3 7630702) (k6 3 d2))))))) (b4 17 1 (q7 .neq 2) (j1 18 4 e5) (.q (a27 19 0 (.b 0 (g4 21 (a30 2 (h0 1 43) 20) 20 (c0 22 (j3 19 1 45 20) 20 (c0 23 (j3 19 1 42 20) 20 (c0 24 (j3 19 3 7760228 20) 20 (c0 25 (j3 19 3 7169394 20) 20 (c0 26 (j3 19 4 1684955490 20) 20 (c0 27 (j3 19 3 7499618 20) 20 (c0 28 (j3 19 4 1919907938 20) 20 (c0 29 (j3 19 3 7107426 20) 20 (c0 30 (j3 19 3 7500642 20) 20 (c0 31 (j3 19 3 6581857 20) 20 (c0 32 (j3 19 2 29295 20) 20 (c0 33 (j3 19 3 7499640 20) 20 (c0 34 (j3 19 2 11051 20) 20 (c0 35 (j3 19 3 4012605 20) 20 (c0 36 (j3 19 3 4009789 20) 20 (c0 37 (j3 19 1 60 20) 20 (c0 38 (j3 19 2 15421 20) 20 (c0 39 (j3 19 1 62 20) 20 (.r 40 (j3 19 2 15678 20)))))))))))))))))))) (j1 20 4 d5)))) (q0 4)))) 4) := ⟨_, by conv => rhs; reduce⟩
end Q
def cf206 : CF := Q.T206.1
set_option maxRecDepth 100000 in
theorem cf206_ok : compF TP Tryz.f206 = some cf206 := by kernel_rfl
namespace Q
set_option maxRecDepth 100000 in
def T207 : Was (h1 1 2 a2 (a72 3 g6 0 (b4 6 3 (b1 (x0 3)) (f7 9 0) (l5 1 (c4 12 (b1 (m6 3 7 0 1 (t3 0 7 1 a2 (o0 0 1 (y8 .neq (i1 5)))))) (j1 21 2 (c7 181))) 10 3 3)) (a72 4 g6 2 (b4 22 4 (b1 (x0 3)) (f7 25 2) (l5 3 (c4 28 (b1 (m6 4 7 3 1 (t3 0 7 1 a2 (o0 3 1 (a5 (f9 215 5 (a9 k0))))))) (j1 38 2 (c7 182))) 26 4 4)) (a72 5 g6 4 (b4 39 5 (b1 (x0 3)) (f7 42 4) (l5 5 (c4 45 (b1 (m6 5 7 5 1 (t3 0 7 1 a2 (o0 5 1 (f0 .neq 5 (a26 (m6 5 7 6 1 (t3 0 7 1 a2 (o0 6 1 (f0 .neq 5 (n1 11))))))))))) (j1 66 2 (c7 184))) 43 5 5)) (l4 2 a2)))) 2) := ⟨_, by conv => rhs; reduce⟩
end Q
def cf207 : CF := Q.T207.1
set_option maxRecDepth 100000 in
theorem cf207_ok : compF TP Tryz.f207 = some cf207 := by kernel_rfl
namespace Q
set_option maxRecDepth 100000 in
def T209 : Was (z1 2 (t7 2 b6 e6 (p1 b6 e6 c1) (q8 5 c1 (b0 9 5 (a8 3 3 (a34 2 16 3 5)) (n8 6 0 (b4 13 6 (a18 9 3 4) (f7 17 0) (l5 1 (b0 20 5 (a8 9 3 (h7 6 6 (g9 1 (g8 2 (s6 (m7 l2 1 2 2) 2 16 8 5))))) (k5 29 (a8 9 3 (h7 6 6 (g9 3 (g8 2 (r9 l2 [] [] (n2 (.r (.eq (.agg [.i, .i]) true)) b9)))))) 36 (d3 37 5 (a8 9 3 (h7 6 6 (g9 3 (g8 2 (s6 (m7 l2 1 2 2) 2 16 8 5)))))))) 18 6 6)) (a16 7 a2 (i6 46 0 3 k4 (.b 2 (g4 49 (a21 2 15 48) 48 (c0 50 (a0 47 18 48) 48 (c0 51 (a0 47 19 48) 48 (c0 52 (a0 47 20 48) 48 (m9 53 47 21 48)))) (g5 48 (.r 54 (a8 5 3 r4)) (g4 57 (a0 47 16 56) 56 (m9 58 47 17 56) (g5 56 (.r 59 (a8 3 2 (a8 5 3 (q2 4 3 (o0 1 1 r4))))) (k5 67 (a0 47 26 66) 66 (.r 7 (n2 d0 g6))))))))) (n8 8 3 (b4 68 8 (a3 7 (x4 a01 b9)) (f7 70 3) (l5 4 (d3 73 5 (a3 8 (x3 l2 (j2 1 1 1) 1 (s6 (m7 l2 1 2 2) 2 16 4 5)))) 71 8 8)) (d7 78 5 d2))))))) 4) := ⟨_, by conv => rhs; reduce⟩
end Q
def cf209 : CF := Q.T209.1
set_option maxRecDepth 100000 in
theorem cf209_ok : compF TP Tryz.f209 = some cf209 := by kernel_rfl
namespace Q
set_option maxRecDepth 100000 in
def T210 : Was (a51 3 (a19 3 b6 0 (a33 b6 (d8 1) (a33 b6 (d8 2) (z0 d0 a2))) (.q (i6 10 0 5 k4 (.b 0 (b5 13 (a30 2 g6 12) 12 (a22 14 1 4 (a8 1 5 (f9 328 3 w3)) (b4 19 8 (k7 .eql a2) (c8 20 (g0 6 (p1 d0 a2 (c7 186)))) (d7 21 8 (a09 6 b3 7 a2)))) (k5 23 (a0 11 2 22) 22 (h9 24 (a8 1 5 (e2 4 (y8 .geq r5))) 28 (g0 6 (p1 d0 a2 (c7 181))) (p2 29 2 4 (a8 1 5 (u7 1 3 (a09 6 b3 7 a2))))))))) (a22 35 2 3 (a8 1 5 (q2 9 3 (i3 9 9 p3 9 9))) (h9 41 (e2 9 (q7 .eql 9)) 43 (g0 6 (z0 d0 (c7 2))) (h9 44 (e2 9 (q7 .eql 7)) 46 (g0 47 (i9 6 9 (a28 .add 3 (a09 6 b3 7 a2)))) (g0 6 (z0 d0 g6))))))) 6 (x9 7 [])) := ⟨_, by conv => rhs; reduce⟩
end Q
def cf210 : CF := Q.T210.1
set_option maxRecDepth 100000 in
theorem cf210_ok : compF TP Tryz.f210 = some cf210 := by kernel_rfl
namespace Q
set_option maxRecDepth 100000 in
def T212 : Was (x5 1 2 3 (i0 26 (a26 (i0 17 (u8 3 (b1 (i0 19 (u8 3 (b1 (i0 21 (u8 3 (b1 (i0 23 (k6 3 d4))))))))))))) 2) := ⟨_, by conv => rhs; reduce⟩
end Q
def cf212 : CF := Q.T212.1
set_option maxRecDepth 100000 in
theorem cf212_ok : compF TP Tryz.f212 = some cf212 := by kernel_rfl
namespace Q
set_option maxRecDepth 100000 in
def T213 : Was (v3 1 2 (e4 5 (m2 (.bslice o3 16 1 (a47 0 (u6 1 2 (u6 3 4 (u6 5 6 (u6 7 8 (u6 9 10 (u6 11 12 (o2 13 14 1 15 1))))))))) (h8 2 (h8 3 (h8 4 (h8 14 (h8 15 (h8 16 (h8 17 (h8 18 (h8 19 (h8 20 (h8 21 (h8 22 (h8 23 (h8 27 (h8 35 (c7 36)))))))))))))))) v4) (n8 4 0 (g4 6 (u5 e6 (a3 3 (x0 3))) 9 (.x 0) (l5 1 (b0 12 3 (k8 4 1 (b1 (y8 .eql b9))) (j1 17 2 d5)) 10 4 4)) (q0 2))) 2) := ⟨_, by conv => rhs; reduce⟩
end Q
def cf213 : CF := Q.T213.1
set_option maxRecDepth 100000 in
theorem cf213_ok : compF TP Tryz.f213 = some cf213 := by kernel_rfl
namespace Q
set_option maxRecDepth 100000 in
def T214 : Was (a45 4 (a19 4 b6 0 (g1 1 (a33 b6 (d8 2) (a33 b6 (d8 3) (a33 (o1 (u3 .nils .nils (q5 a7 []))) [] (a32 (o1 (u3 .nils .nils (q5 a7 []))) [] (o1 (u3 .nils .nils (q5 a7 []))) []))))) (e4 14 (b2 6 4 (b2 7 6 (b2 10 7 (e3 330 3 b9 (c5 11))))) (e4 19 (e2 7 (a4 105 (o5 18 21 3 (o6 0 4 1 5 (r0 12 (a08 a7 a7 (p5 a7 a7 a7 a7 (a50 a7 a7 []))) (y9 10 12 (z6 13 (a56 23 [] [])))))))) (e4 24 (e2 6 (m2 (.bslice o3 2 1 (j2 1 1 1)) (h8 1 g6) (a8 2 6 (z8 (u3 .nils .nils (q5 a7 [])) (o2 0 1 1 2 1) 4 r5 (f5 7 10))))) (h9 30 (i9 3 6 (k7 .gtr a2)) 33 (.r 34 (a8 3 6 (i9 3 6 (s9 (l1 (w7 (.sl 1) false true) 5 b3 (m1 3 10 1 f1)))))) (h9 42 (a8 7 12 (i4 1 6 (c6 (a8 6 7 (f0 .gtr 3 (s3 7 c9)))))) 51 (.r 52 (a8 1 6 (a8 6 7 (l1 (w7 (.sl 1) false true) 3 b3 (a4 329 (m1 1 6 1 f1)))))) (c4 59 (b2 7 6 (a5 (b2 7 6 (a5 (y9 7 8 (d6 (f5 7 9))))))) (h9 61 (j4 0 12 k4) 62 (.r 63 (b2 7 6 (x1 1 7 2 (a3 11 (e3 331 4 b9 (f5 7 8)))))) (.q (i6 68 0 7 k4 (.b 0 (b5 71 (a21 2 9 70) 70 (.d 72 (b2 7 6 (a8 3 7 (v7 2 1 a2 (g8 2 (a8 5 7 (a28 .add 3 (a5 (e3 331 8 (i1 4) (d6 (f5 7 8))))))))))) (b5 82 (a0 69 10 81) 81 (.d 83 (b2 7 6 (a8 3 7 (v7 2 1 a2 (g8 2 (a5 (e3 331 5 (e9 (c7 2)) (d6 (f5 7 8))))))))) (g4 90 (a0 69 15 89) 89 (c0 91 (a0 69 16 89) 89 (c0 92 (a0 69 18 89) 89 (c0 93 (a0 69 20 89) 89 (m9 94 69 22 89)))) (g5 89 (.r 95 (b2 7 6 (a4 332 (f5 7 8)))) (b5 98 (a0 69 24 97) 97 (a22 99 5 7 (m1 0 8 1 f1) (.r 102 (a8 5 7 (a4 333 (m1 2 8 1 f1))))) (b5 107 (a0 69 25 106) 106 (i6 108 0 8 (y1 1 (c7 (-1))) (.r 109 (m1 2 8 1 c1))) (b5 111 (a0 69 28 110) 110 (.d 112 (m2 (.bslice o3 0 1 []) [] (a8 3 6 (u9 1 (v5 4 7 (a5 (n6 o3 1 1 1 (n4 115 (l8 1 8 3 (r3 3 (l8 1 8 4 (j6 (j4 3 8 (f8 2 (t0 1))))))))))))))) (b5 122 (a0 69 29 121) 121 (.r 123 (a8 3 6 (i9 3 6 (s9 (l1 (w7 (.sl 1) false true) 5 b3 (m1 3 8 1 f1)))))) (b5 132 (a0 69 30 131) 131 (.r 133 (m1 4 8 1 d5)) (b5 135 (a0 69 36 134) 134 (i6 136 5 8 (y1 1 g6) (d3 137 1 (m1 6 8 1 f1))) (b5 140 (a0 69 37 139) 139 (e4 141 (b2 7 6 (a4 332 (f5 7 8))) (i6 143 5 8 (y1 1 (c7 2)) (e4 144 (i9 2 6 (a4 333 (m1 2 8 1 f1))) (e4 149 (b2 7 8 (f5 7 9)) (i6 150 1 9 (y1 1 c1) (.r 151 (m1 5 9 1 g6))))))) (g4 153 (a0 69 38 152) 152 (m9 154 69 40 152) (g5 152 (i6 155 5 8 (y1 1 a2) (.r 156 (m1 6 8 1 a2))) (k5 158 (a0 69 39 157) 157 (.r 159 (m1 5 9 1 g6)))))))))))))))))) (c4 160 (b2 7 8 (a5 (b2 7 9 (e7 (b2 7 10 (a5 (w9 7 8 s1 (d6 (y9 7 9 (f8 2 (f5 7 10))))))))))) .ret)))))))))) 8 7 [a78 9 7, a78 10 7]) := ⟨_, by conv => rhs; reduce⟩
end Q
def cf214 : CF := Q.T214.1
set_option maxRecDepth 100000 in
theorem cf214_ok : compF TP Tryz.f214 = some cf214 := by kernel_rfl
namespace Q
set_option maxRecDepth 100000 in
def T216 : Was (s7 1 1 (a31 b6 1 e5) (e4 5 (b2 10 1 (r9 (v0 .nils a1 .nils .nils []) (a40 0 1) (c7 26) (w1 (.bslice (v0 .nils a1 .nils .nils []) 2 10 (j2 10 10 10)) 2 v4))) (b0 8 3 (v7 10 1 a2 (g9 4 (y1 1 (c7 (-1))))) (b0 11 3 (v7 10 1 a2 (g9 8 (y1 1 c1))) (b0 14 3 (k9 334 a2 d2) (d7 16 4 (c6 (p6 .eql 1 2))))))) 2) := ⟨_, by conv => rhs; reduce⟩
end Q
def cf216 : CF := Q.T216.1
set_option maxRecDepth 100000 in
theorem cf216_ok : compF TP Tryz.f216 = some cf216 := by kernel_rfl
namespace Q
set_option maxRecDepth 100000 in
def T217 : Was (s7 1 1 (a31 b6 1 e5) (h9 4 (b2 9 1 (a4 336 (a4 335 k0))) 7 (q0 2) (n8 3 0 (b4 8 3 (a18 6 1 4) (f7 12 0) (l5 1 (k5 15 (a8 6 1 (y3 3 9 9 (a4 217 k0))) 21 (q0 2)) 13 3 3)) (.q (i6 22 0 1 k4 (.b 2 (g4 25 (a30 2 g6 24) 24 (m9 26 23 8 24) (g5 24 (l4 2 d5) (b5 28 (a0 23 2 27) 27 (p2 29 3 1 (a4 24 d4)) (g4 33 (a0 23 3 32) 32 (m9 34 23 6 32) (g5 32 (p2 35 1 1 (k9 337 (h8 1 (c7 2147483647)) (i4 2 1 (k9 337 (h8 1 (c7 2147483647)) (l9 4 1 3 1 (a4 24 (f4 4 d4))))))) (b5 49 (a0 23 4 48) 48 (p2 50 1 1 (k9 337 (t9 a6 (c7 999)) (i4 2 1 (k9 337 (h8 1 (c7 2147483647)) (l9 4 1 3 1 (a4 24 (l9 4 1 5 1 (k9 337 (t9 a6 (c7 16)) (l9 4 1 6 1 (c6 (h6 .leq 200 (f4 5 d4)))))))))))) (b5 75 (a0 23 5 74) 74 (p2 76 3 1 (a4 24 (i4 4 1 (a4 24 (l9 4 1 5 1 (k9 337 (t9 a6 (c7 16)) (f4 4 d4))))))) (b5 90 (a0 23 7 89) 89 (g0 91 (i9 6 1 (p6 .leq 255 2))) (b5 96 (a0 23 9 95) 95 (g0 97 (i9 6 1 (h6 .geq 2 (i4 6 1 (i9 6 1 (s9 (q2 9 5 (o0 0 1 (h6 .neq 9 (f4 11 d4)))))))))) (k5 114 (a0 23 10 113) 113 (a15 115 9 1 (a4 338 d4)))))))))))))) (q0 2)))) 2) := ⟨_, by conv => rhs; reduce⟩
end Q
def cf217 : CF := Q.T217.1
set_option maxRecDepth 100000 in
theorem cf217_ok : compF TP Tryz.f217 = some cf217 := by kernel_rfl
namespace Q
set_option maxRecDepth 100000 in
def T218 : Was (s7 1 1 (a68 b6 1) (a16 3 g6 (i6 5 0 1 k4 (.b 0 (b5 8 (a21 2 9 7) 7 (.r 9 (i9 6 1 (p6 .sub 1 3))) (k5 14 (a0 6 10 13) 13 (.r 15 (a8 8 1 (h6 .add 63 (h6 .quo 64 (a89 .add (a73 1) 3))))))))) (n8 4 1 (b4 20 4 (a18 6 1 4) (f7 24 1) (l5 2 (d3 27 3 (a8 6 1 (y3 4 9 9 (a4 218 (f0 .add 7 v4))))) 25 4 4)) (d7 35 3 d4))) 2) := ⟨_, by conv => rhs; reduce⟩
end Q
def cf218 : CF := Q.T218.1
set_option maxRecDepth 100000 in
theorem cf218_ok : compF TP Tryz.f218 = some cf218 := by kernel_rfl
namespace Q
set_option maxRecDepth 100000 in
def T221 : Was (a45 1 (t7 1 b6 w4 (a32 (o1 p3) [] (o1 (q6 a77)) []) (a15 4 9 1 (r9 (q6 a77) [] [] (w8 9 2 10 3)))) 2 9 [a78 3 10]) := ⟨_, by conv => rhs; reduce⟩
end Q
def cf221 : CF := Q.T221.1
set_option maxRecDepth 100000 in
theorem cf221_ok : compF TP Tryz.f221 = some cf221 := by kernel_rfl
namespace Q
set_option maxRecDepth 100000 in
def T226 : Was (z1 2 (t7 2 b6 e6 (z0 b6 e6) (h9 5 (e2 2 (e2 3 (y8 .neq r5))) 9 (p2 10 0 2 (e2 3 (f9 343 3 d2))) (.q (i6 15 0 2 k4 (.b 0 (b5 18 (a30 2 g6 17) 17 (p2 19 1 2 (a8 1 3 (f9 343 3 d2))) (b5 25 (a0 16 2 24) 24 (p2 26 3 2 (a8 3 3 (f9 344 3 d2))) (g4 32 (a0 16 3 31) 31 (m9 33 16 6 31) (g5 31 (c4 34 (a8 3 2 (a8 3 3 (u9 1 (v5 2 2 (a5 (v5 2 3 (g1 1 (e7 (j4 1 2 (e7 (i2 (e7 (j4 1 3 (e7 (i2 (n4 38 (f9 344 3 (r3 4 (f9 343 3 (g1 4 (f8 2 (f9 343 3 (f8 3 (m2 (.bslice o3 3 1 (o2 0 1 1 2 1)) (f2 11 (i1 6)) (o7 3 4 (a4 345 (o7 4 4 d2))))))))))))))))))))))))))) .ret) (b5 52 (a0 16 4 51) 51 (c4 53 (a8 3 2 (a8 3 3 (u9 1 (v5 2 2 (a5 (v5 2 3 (g1 1 (e7 (j4 1 2 (e7 (i2 (e7 (j4 1 3 (e7 (i2 (g1 1 (f8 0 (j4 5 2 (f8 0 (i2 (f8 0 (j4 5 3 (f8 0 (i2 (g1 1 (o7 0 4 (j4 6 2 (o7 0 4 (i2 (o7 0 4 (j4 6 3 (o7 0 4 (i2 (n4 57 (f9 344 3 (r3 4 (f9 343 3 (g1 4 (f8 2 (f9 343 3 (g1 4 (o7 3 4 (f9 343 3 (g1 4 (o7 4 5 (f9 346 3 (o7 5 5 (m2 (.bslice o3 5 1 (u6 0 1 (o2 2 3 1 4 1))) (f2 21 (f2 16 (f2 11 (i1 6)))) (o7 5 6 (a4 345 (o7 6 6 d2))))))))))))))))))))))))))))))))))))))))))))))))))) .ret) (b5 81 (a0 16 5 80) 80 (c4 82 (a8 3 2 (a8 3 3 (u9 1 (v5 4 2 (a5 (v5 4 3 (g1 1 (e7 (j4 5 2 (e7 (i2 (e7 (j4 5 3 (e7 (i2 (n4 86 (f9 344 3 (r3 4 (f9 344 3 (g1 4 (f8 2 (f9 343 3 (f8 3 (m2 (.bslice o3 3 1 (o2 0 1 1 2 1)) (f2 11 (i1 6)) (o7 3 4 (a4 345 (o7 4 4 d2))))))))))))))))))))))))))) .ret) (b5 100 (a0 16 7 99) 99 (p2 101 6 2 (a8 6 3 (f9 346 3 d2))) (b5 107 (a0 16 9 106) 106 (p2 108 6 2 (a8 6 3 (f9 347 3 d2))) (k5 114 (a0 16 10 113) 113 (a15 115 9 2 (b2 9 3 (j0 348 d2)))))))))))))) (l4 4 a2)))) 4) := ⟨_, by conv => rhs; reduce⟩
end Q
def cf226 : CF := Q.T226.1
set_option maxRecDepth 100000 in
theorem cf226_ok : compF TP Tryz.f226 = some cf226 := by kernel_rfl
namespace Q
set_option maxRecDepth 100000 in
def T229 : Was (a45 3 (a19 4 b6 1 (a33 b6 (d8 2) (a32 (o1 p3) [] (o1 (q6 a77)) [])) (.q (a27 10 0 (.b 0 (b5 12 (a30 2 (h0 3 4012605) 11) 11 (a15 13 9 4 (b2 9 5 (j0 128 (r2 (a4 350 (r8 0 1 2 (w8 9 6 10 7))))))) (b5 21 (j3 10 3 4009789 20) 20 (a15 22 9 4 (b2 9 5 (j0 128 (j8 .neq (a4 350 (r8 0 1 2 (w8 9 6 10 7))))))) (b5 30 (j3 10 1 60 29) 29 (a15 31 9 4 (b2 9 5 (j0 128 (j8 .lss (a4 350 (r8 0 1 2 (w8 9 6 10 7))))))) (b5 39 (j3 10 2 15421 38) 38 (a15 40 9 4 (b2 9 5 (j0 128 (j8 .leq (a4 350 (r8 0 1 2 (w8 9 6 10 7))))))) (b5 48 (j3 10 1 62 47) 47 (a15 49 9 4 (b2 9 5 (j0 128 (j8 .gtr (a4 350 (r8 0 1 2 (w8 9 6 10 7))))))) (b5 57 (j3 10 2 15678 56) 56 (a15 58 9 4 (b2 9 5 (j0 128 (j8 .geq (a4 350 (r8 0 1 2 (w8 9 6 10 7))))))) (g4 66 (j3 10 3 6581857 65) 65 (c0 67 (j3 10 2 29295 65) 65 (.r 68 (j3 10 3 7499640 65))) (g5 65 (k3 69 (b2 9 4 (b2 9 5 (e3 353 3 b9 (r8 0 1 2 (w8 9 6 10 7)))))) (k5 76 (j3 10 2 11051 75) 75 (e4 78 (b2 9 4 (a4 135 (o5 77 79 2 (o6 0 3 1 4 (r7 8 f1 9))))) (b4 82 9 k0 (c8 83 (y7 84 220 (h0 6 113740957901154) (r8 0 1 2 (w8 9 6 10 7)))) (d7 87 8 (b2 9 5 (j0 225 (r8 0 1 2 (j0 354 (r8 0 1 2 (w8 9 6 10 7)))))))))))))))))))) (h9 95 (e2 4 (p4 .neq (k1 0 5 (p4 .neq (n1 4))))) 102 (y7 103 220 (h0 8 7526756817224098146) (r8 0 1 2 (w8 9 6 10 7))) (k3 106 (a8 1 4 (a8 1 5 (e3 355 5 r5 (r8 0 1 2 (w8 9 6 10 7))))))))) 6 9 [a78 7 10]) := ⟨_, by conv => rhs; reduce⟩
end Q
def cf229 : CF := Q.T229.1
set_option maxRecDepth 100000 in
theorem cf229_ok : compF TP Tryz.f229 = some cf229 := by kernel_rfl
namespace Q
set_option maxRecDepth 100000 in
def T237 : Was (h1 0 0 (a23 .nilm) (a12 4 (m2 a37 [] (c5 1)) (t7 5 (.call 363) (b40 115) b00 (j5 8 8 0 (e1 1 9 (a20 1 5 v4) (d3 11 1 (a3 3 (a35 a29 a6 2 (p4 .add (z4 (z5 a29 (f2 4 r5))))))) (c3 15 7 7)))) (d7 16 1 (c5 0))) 0) := ⟨_, by conv => rhs; reduce⟩
end Q
def cf237 : CF := Q.T237.1
set_option maxRecDepth 100000 in
theorem cf237_ok : compF TP Tryz.f237 = some cf237 := by kernel_rfl
namespace Q
set_option maxRecDepth 100000 in
def T238 : Was (h1 2 4 a2 (h4 6 q3 (j5 9 9 0 (o9 1 10 5 (b0 11 1 (b1 (k8 5 1 (n2 .callv (i1 5)))) (l6 16 17 5 d2)) (c3 18 8 8))) (a24 4 (-1))) 4) := ⟨_, by conv => rhs; reduce⟩
end Q
def cf238 : CF := Q.T238.1
set_option maxRecDepth 100000 in
theorem cf238_ok : compF TP Tryz.f238 = some cf238 := by kernel_rfl
namespace Q
set_option maxRecDepth 100000 in
def T239 : Was (x5 2 4 5 (e0 (j0 364 (j8 .geq d2))) 4) := ⟨_, by conv => rhs; reduce⟩
end Q
def cf239 : CF := Q.T239.1
set_option maxRecDepth 100000 in
theorem cf239_ok : compF TP Tryz.f239 = some cf239 := by kernel_rfl
namespace Q
set_option maxRecDepth 100000 in
def T240 : Was (s7 1 1 (a31 b6 1 e5) (g0 3 (w5 (.fa 0) e6 (i2 (s2 (e8 (x1 1 1 11 (r9 h5 [] [] (j0 152 (z9 .pick 6 c9 d4))))))))) 2) := ⟨_, by conv => rhs; reduce⟩
end Q
def cf240 : CF := Q.T240.1
set_option maxRecDepth 100000 in
theorem cf240_ok : compF TP Tryz.f240 = some cf240 := by kernel_rfl
namespace Q
set_option maxRecDepth 100000 in
def T241 : Was (x5 1 2 3 (q9 .neq 1 (h0 1 95) (v2 (x3 (w6 a1 (.int .u64 0) []) (j2 1 1 1) 2 (a4 365 (f4 4 d4))))) 2) := ⟨_, by conv => rhs; reduce⟩
end Q
def cf241 : CF := Q.T241.1
set_option maxRecDepth 100000 in
theorem cf241_ok : compF TP Tryz.f241 = some cf241 := by kernel_rfl
namespace Q
set_option maxRecDepth 100000 in
def T243 : Was (v3 2 4 (.q (a27 7 0 (.b 0 (b5 9 (a30 2 (h0 1 45) 8) 8 (d7 10 1 (i0 1 (h2 (n7 1 .eql 2 (k6 3 d2))))) (g4 17 (j3 7 4 1953459810 16) 16 (.r 18 (j3 7 3 7630702 16)) (g5 16 (d7 19 1 (p6 .eql 1 4)) (g4 22 (j3 7 1 42 21) 21 (c0 23 (j3 7 3 7760228 21) 21 (c0 24 (j3 7 3 7169394 21) 21 (c0 25 (j3 7 4 1684955490 21) 21 (.r 26 (j3 7 3 6581857 21))))) (l6 21 27 1 (p6 .eql 2 4)))))))) (.q (e4 29 (z0 (.call 366) []) (b17 1 31 (a57 1 (c7 6)) (f7 31 1) (e1 2 32 (a13 (.ixarr true 6 3) 29 e6 (t6 6 (y5 .nils a7 a7 []) 3 6)) (k5 33 (e2 6 (b1 (z2 367 b9))) 36 (d7 37 1 (p6 .eql 2 4))) (c3 39 30 30)))) (q0 4))) 4) := ⟨_, by conv => rhs; reduce⟩
end Q
def cf243 : CF := Q.T243.1
set_option maxRecDepth 100000 in
theorem cf243_ok : compF TP Tryz.f243 = some cf243 := by kernel_rfl
namespace Q
set_option maxRecDepth 100000 in
def T244 : Was (a45 2 (t7 3 b6 e6 (p1 (o1 h5) [] e5) (a12 6 (i7 3 (q4 4)) (i6 7 0 3 k4 (.b 0 (b5 10 (a21 2 13 9) 9 (s4 11 1 (p4 .add (w0 5 1 1 3)) (.r 18 (i9 6 3 (j8 .gtr (v2 (a8 6 3 (e3 68 3 (e9 (h8 (-1) e5)) (f4 5 (t4 6 4 1 c1 (a38 5 f1)))))))))) (b5 30 (a0 8 15 29) 29 (.r 31 (i9 8 3 (j8 .gtr (i4 8 3 (a4 150 (f4 4 (t4 8 4 1 c1 (a38 5 f1)))))))) (b5 42 (a0 8 16 41) 41 (i6 43 4 4 (x7 1 c1 (m1 6 4 1 c1)) (.r 45 (i9 4 3 (i0 1 (i4 6 3 (c6 (j8 .gtr (f4 5 (v2 (a8 6 3 (e3 68 3 (e9 (h8 1 e5)) (f4 5 p7)))))))))))) (b5 62 (a0 8 17 61) 61 (i6 63 4 4 (x7 1 c1 (t4 6 4 1 c1 (t4 9 4 1 c1 (j4 10 4 (a46 1 c9))))) (b7 67 (a8 6 3 (e3 68 3 (e9 (h8 1 e5)) (i4 9 3 (a4 150 (f4 4 p7))))) (b5 76 (j4 10 3 k4) 77 (d3 78 5 (i4 4 3 (c6 (i0 1 (l9 5 1 9 3 (c6 (j8 .gtr (f4 5 p7)))))))) (d3 91 5 (i4 4 3 (c6 (r2 (l9 5 1 9 3 (c6 (r2 (l9 5 1 6 3 (c6 (j8 .gtr (f4 5 p7)))))))))))))) (k5 111 (a0 8 18 110) 110 (i6 112 8 4 (x7 1 c1 (t4 6 4 1 c1 (t4 7 4 1 c1 (t4 9 4 1 c1 (j4 10 4 (a46 1 c9)))))) (e4 117 (i9 8 3 (j8 .gtr (i4 8 3 (a4 150 (f4 4 (v2 (a8 6 3 (e3 68 3 (e9 (h8 1 e5)) (f4 5 (v2 (a8 7 3 (e3 68 3 (e9 (h8 2 e5)) (l9 5 1 9 3 (a4 150 (f4 4 p7))))))))))))))) (b0 143 5 (i4 10 3 (i9 9 3 (j8 .gtr (l1 (.eqd .b false) 5 b3 (l9 8 1 10 3 (h2 (i9 7 3 (j8 .gtr (a43 8 true 5 n3 (f4 9 p7)))))))))) (d3 163 5 (i4 7 3 (k9 368 (u2 369 [] []) (z9 .pick 5 c9 p7)))))))))))))) (g0 170 (i7 4 (a3 5 (y9 11 4 p7)))))) 4 11 (x9 5 [])) := ⟨_, by conv => rhs; reduce⟩
end Q
def cf244 : CF := Q.T244.1
set_option maxRecDepth 100000 in
theorem cf244_ok : compF TP Tryz.f244 = some cf244 := by kernel_rfl
namespace Q
set_option maxRecDepth 100000 in
def T245 : Was (x5 3 6 7 (f6 1 2 (e3 371 3 b9 m0)) 6) := ⟨_, by conv => rhs; reduce⟩
end Q
def cf245 : CF := Q.T245.1
set_option maxRecDepth 100000 in
theorem cf245_ok : compF TP Tryz.f245 = some cf245 := by kernel_rfl
namespace Q
set_option maxRecDepth 100000 in
def T246 : Was (x5 3 6 7 (f6 1 2 (e3 372 3 b9 m0)) 6) := ⟨_, by conv => rhs; reduce⟩
end Q
def cf246 : CF := Q.T246.1
set_option maxRecDepth 100000 in
theorem cf246_ok : compF TP Tryz.f246 = some cf246 := by kernel_rfl
namespace Q
set_option maxRecDepth 100000 in
def T248 : Was (x5 3 6 7 (f6 1 2 (e3 373 3 b9 m0)) 6) := ⟨_, by conv => rhs; reduce⟩
end Q
def cf248 : CF := Q.T248.1
set_option maxRecDepth 100000 in
theorem cf248_ok : compF TP Tryz.f248 = some cf248 := by kernel_rfl
namespace Q
set_option maxRecDepth 100000 in
def T250 : Was (x5 3 6 7 (f6 1 2 (e3 376 3 b9 m0)) 6) := ⟨_, by conv => rhs; reduce⟩
end Q
def cf250 : CF := Q.T250.1
set_option maxRecDepth 100000 in
theorem cf250_ok : compF TP Tryz.f250 = some cf250 := by kernel_rfl
namespace Q
set_option maxRecDepth 100000 in
def T252 : Was (x5 2 3 4 (a52 (z3 254 0) 1 (j0 253 (s2 v4))) 3) := ⟨_, by conv => rhs; reduce⟩
end Q
def cf252 : CF := Q.T252.1
set_option maxRecDepth 100000 in
theorem cf252_ok : compF TP Tryz.f252 = some cf252 := by kernel_rfl
namespace Q
set_option maxRecDepth 100000 in
def T253 : Was (x5 2 4 5 (e0 (j0 377 (j8 .geq d2))) 4) := ⟨_, by conv => rhs; reduce⟩
end Q
def cf253 : CF := Q.T253.1
set_option maxRecDepth 100000 in
theorem cf253_ok : compF TP Tryz.f253 = some cf253 := by kernel_rfl
namespace Q
set_option maxRecDepth 100000 in
def T254 : Was (s7 2 2 (p1 b6 e6 e5) (g0 4 (b8 1 (i7 2 (r6 .callv 2 (s2 v4))))) 3) := ⟨_, by conv => rhs; reduce⟩
end Q
def cf254 : CF := Q.T254.1
set_option maxRecDepth 100000 in
theorem cf254_ok : compF TP Tryz.f254 = some cf254 := by kernel_rfl
namespace Q
set_option maxRecDepth 100000 in
def T255 : Was (x5 2 3 4 (a52 (z3 256 0) 1 (j0 239 (s2 v4))) 3) := ⟨_, by conv => rhs; reduce⟩
end Q
def cf255 : CF := Q.T255.1
set_option maxRecDepth 100000 in
theorem cf255_ok : compF TP Tryz.f255 = some cf255 := by kernel_rfl
namespace Q
set_option maxRecDepth 100000 in
def T257 : Was (x5 2 3 4 (b8 1 (j0 69 v4)) 3) := ⟨_, by conv => rhs; reduce⟩
end Q
def cf257 : CF := Q.T257.1
set_option maxRecDepth 100000 in
theorem cf257_ok : compF TP Tryz.f257 = some cf257 := by kernel_rfl
namespace Q
set_option maxRecDepth 100000 in
def T259 : Was (h1 0 0 (a23 .nilm) (e4 3 (m2 a37 [] (t6 1 (m4 .nilm) 1 1)) (e4 4 (a52 (z3 379 0) 1 d4) (b0 5 2 (k2 .callv (e9 (h8 1 (b43 211))) []) (b0 7 2 (k2 .callv (e9 (h8 2 (b42 130))) []) (b0 9 2 (k2 .callv (e9 (h8 3 (b41 326))) []) (b0 11 2 (k2 .callv (e9 (h8 4 (h0 15 265770033204623512752161048958627937))) []) (g0 13 (b8 1 (c5 0))))))))) 0) := ⟨_, by conv => rhs; reduce⟩
end Q
def cf259 : CF := Q.T259.1
set_option maxRecDepth 100000 in
theorem cf259_ok : compF TP Tryz.f259 = some cf259 := by kernel_rfl
namespace Q
set_option maxRecDepth 100000 in
def T260 : Was (h1 1 2 n9 (s0 3 (p5 i8 i8 i8 i8 (p5 i8 i8 i8 i8 (p5 i8 i8 i8 i8 (p5 i8 i8 i8 i8 (p5 i8 i8 i8 i8 []))))) (q8 4 (c7 20) (h4 6 (a4 380 p7) (p0 0 (a49 1 (b0 10 4 (p6 .sub 1 4) (b0 12 4 (n5 5 .rem 1 (m8 .u64 10) (a79 .add (x2 (.int .u64 48)) (h3 (.toInt .u8) (a13 (.ixarrp 20 1) 3 (o8 5) (t0 1))))) (b0 18 5 (x4 a01 (e9 (m8 .u64 10))) (c8 19 (.x 0))))) (d3 8 5 (u0 .quo 1 .u64 10 p7)))) (t8 20 (x4 a01 (e9 a2)) 21 (b0 22 4 (p6 .sub 1 4) (d3 24 4 (a13 (.ixarrp 20 1) 3 b3 (y1 1 (m8 .u8 45))))) (d7 26 4 (a13 (w7 (.arr 20 1) true false) 3 b3 (k2 (.r .b2s) b3 d4))))))) 2) := ⟨_, by conv => rhs; reduce⟩
end Q
def cf260 : CF := Q.T260.1
set_option maxRecDepth 100000 in
theorem cf260_ok : compF TP Tryz.f260 = some cf260 := by kernel_rfl
namespace Q
set_option maxRecDepth 100000 in
def T261 : Was (g3 3 (a10 4 b6 (d8 1) (i6 10 0 4 k4 (.b 0 (g4 21 (a0 11 5 20) 20 (m9 22 11 7 20) (g5 20 (i6 23 4 4 t2 (i5 1 27 27 1 (e1 2 28 (o4 11 24 (i3 11 7 h5 11 7)) (d1 30 (i7 7 (j9 2 261 3 b9))) (c3 34 26 26)))) (b5 36 (a0 11 8 35) 35 (i6 37 5 4 t2 (i5 3 41 41 3 (e1 4 42 (u5 e6 (a44 27 38 (d8 40) (g8 27 (r0 9 (u3 a1 a6 (a41 a1 a1 .nils (p9 (q5 a7 (q1 a1 a1 .nils (p9 (p5 a7 a7 a7 a7 []))))))) (u4 8 s1 (f5 27 9)))))) (d1 45 (b2 27 9 (f6 2 8 (i9 5 4 (s9 (f0 .eql 5 (f3 381 9 (f2 8 (i1 7))))))))) (c3 55 40 40)))) (h9 12 (i7 4 (a4 382 k0)) 14 (d1 15 (f3 155 1 (h8 9 (t9 a1 a2)))) (.r 17 (i7 4 (j9 2 383 2 b3))))))))))) := ⟨_, by conv => rhs; reduce⟩
end Q
def cf261 : CF := Q.T261.1
set_option maxRecDepth 100000 in
theorem cf261_ok : compF TP Tryz.f261 = some cf261 := by kernel_rfl
namespace Q
set_option maxRecDepth 100000 in
def T263 : Was (g3 3 (a14 9 2 386 d4 (s5 11 d0 1 (j5 14 14 0 (e1 1 15 (o4 23 11 (i3 23 7 (y5 a7 a6 a6 (q1 a1 a1 .nils (p9 (a04 a7 a6 a1 (a58 .nils a7 []))))) 23 7)) (h9 17 (e2 7 k0) 19 (b7 20 (x1 12 7 11 (j9 2 387 4 b9)) (.x 1)) (a14 25 2 386 w3 (b7 27 (x1 1 7 11 (j9 8 261 4 b9)) (b7 32 (x1 12 7 11 (j9 2 387 4 b9)) (d3 37 8 d4))))) (c3 38 13 13)))))) := ⟨_, by conv => rhs; reduce⟩
end Q
def cf263 : CF := Q.T263.1
set_option maxRecDepth 100000 in
theorem cf263_ok : compF TP Tryz.f263 = some cf263 := by kernel_rfl
namespace Q
set_option maxRecDepth 100000 in
def T264 : Was (g3 2 (b0 4 1 (x4 a01 (e9 a2)) (c8 5 (d1 6 (c2 3 (e0 (h3 (.un .neg) (s9 (q2 1 4 (y1 1 d5)))))))))) := ⟨_, by conv => rhs; reduce⟩
end Q
def cf264 : CF := Q.T264.1
set_option maxRecDepth 100000 in
theorem cf264_ok : compF TP Tryz.f264 = some cf264 := by kernel_rfl
namespace Q
set_option maxRecDepth 100000 in
def T265 : Was (a51 2 (e4 4 (p1 d0 a2 e5) (b7 10 (m2 a37 [] (m2 a37 [] (z8 (y5 .nilp .nils .nils (a41 a7 .nilm .nilm [])) (o2 0 5 1 6 1) 3 b9 (k2 b6 b3 m0)))) (b4 15 1 (c2 1 q3) (j5 21 21 0 (o9 1 22 7 (.d 23 (g2 1 1 (h7 7 11 (g2 6 5 (a5 (n0 388 5)))))) (c3 34 20 20))) (q8 8 a2 (b4 35 1 (c2 1 q3) (i5 2 41 41 2 (o9 3 42 9 (b4 43 1 (c2 1 (y3 9 11 11 (a4 389 (j8 .neq (h2 (a3 6 (g2 1 1 (h7 9 11 (a3 9 (e3 390 8 b9 (x8 (t5 .pick 11 n3)))))))))))) (c8 63 (g0 4 (p1 d0 a2 e5))) (d3 64 8 (g2 1 1 (y3 9 11 11 (a4 391 (f0 .add 9 w3)))))) (c3 74 40 40))) (c4 75 (a5 (a3 6 (e7 (f6 6 1 (g1 1 (j7 1 (w2 2 (e7 (c6 (e7 (r2 (n4 78 (a4 392 (g1 6 (a9 (v6 .nilc 10 (a17 1 (a17 2 (d6 (x7 1 (o8 10) (j6 (v6 .nilc 12 (j6 (g9 1 (j6 (g9 3 (f8 2 (m5 1 7)))))))))))))))))))))))))))) (c4 91 (a5 (b1 (d9 4 (a3 6 (l0 1 (g8 4 (n6 (a04 .nils .nils a7 []) 1 4 4 (a5 (l8 4 64 6 (a9 (v6 .nilc 11 (a17 4 (d6 (m5 1 3)))))))))))))) (d7 104 8 (a09 4 b3 5 d5))))))))) 4 (x9 5 [])) := ⟨_, by conv => rhs; reduce⟩
end Q
def cf265 : CF := Q.T265.1
set_option maxRecDepth 100000 in
theorem cf265_ok : compF TP Tryz.f265 = some cf265 := by kernel_rfl
namespace Q
set_option maxRecDepth 100000 in
def T266 : Was (h1 1 2 c1 (b7 5 (w1 (.mks o3 8) 1 v4) (b4 7 3 q3 (j5 10 10 0 (o9 1 11 4 (d3 12 3 (a3 4 (t3 4 1 3 f1 (t0 1)))) (c3 16 9 9))) (d7 17 3 d4))) 2) := ⟨_, by conv => rhs; reduce⟩
end Q
def cf266 : CF := Q.T266.1
set_option maxRecDepth 100000 in
theorem cf266_ok : compF TP Tryz.f266 = some cf266 := by kernel_rfl
namespace Q
set_option maxRecDepth 100000 in
def T267 : Was (s7 2 3 (z0 b6 e6) (c4 5 (j7 0 (w2 9 (a5 (v8 393 (d8 3) (a9 (a28 .add 1 (a9 (f0 .add 3 (a9 (v6 .nilc 7 (a17 9 (d6 (m5 1 3))))))))))))) (c4 14 (a5 (b1 (d9 6 (b2 21 3 (n6 (a6 :: a36 a6 (a54 a6 a1 a6 a1 (w6 a1 .nils (q5 a6 [])))) 1 21 21 (a5 (l8 21 248 3 (a9 (v6 .nilc 8 (a17 6 (d6 (m5 1 3)))))))))))) (k3 24 (c2 6 (c6 (p6 .sub 1 4)))))) 4) := ⟨_, by conv => rhs; reduce⟩
end Q
def cf267 : CF := Q.T267.1
set_option maxRecDepth 100000 in
theorem cf267_ok : compF TP Tryz.f267 = some cf267 := by kernel_rfl
namespace Q
set_option maxRecDepth 100000 in
def T268 : Was (h1 2 4 a2 (b4 10 1 (c6 (k7 .eql a2)) (j1 12 4 a2) (a14 14 1 394 (o5 13 15 2 (o6 0 3 1 4 (u4 5 f1 m0))) (h4 19 (c2 7 (a3 5 (a83 a29 true a6 2 (o5 18 24 6 (o6 0 7 1 8 (r7 7 f1 8)))))) (b0 27 8 (e8 (a3 6 (s3 2 c9))) (l6 30 31 7 d2)) (.q (a00 32 9 (d9 10 (y8 .geq (i1 5))) (l6 40 41 0 (t3 1 2 1 a2 (o0 0 1 (f9 395 5 d2))))) (b7 47 (e0 (j0 396 (c5 9))) (.q (a27 50 6 (c8 50 (d1 51 (c2 7 (f6 5 9 (z4 (z5 a29 l7))))))) (d7 57 9 d2))))))) 4) := ⟨_, by conv => rhs; reduce⟩
end Q
def cf268 : CF := Q.T268.1
set_option maxRecDepth 100000 in
theorem cf268_ok : compF TP Tryz.f268 = some cf268 := by kernel_rfl
namespace Q
set_option maxRecDepth 100000 in
def T269 : Was (z1 2 (t7 2 b6 e6 (g1 1 (n2 d0 c1)) (s0 5 (m4 .nils) (t1 16 2 (c6 (w1 (.mks (m4 a7) 1) 1 (t6 6 (m4 .nils) 1 6))) (s0 7 (m4 .nilf) (e4 19 (a13 (z3 397 0) 6 (a59 2 (a59 7 (d8 5))) (f5 1 7)) (t1 20 7 (e0 (r6 .callv 2 [])) (t1 23 5 (a4 399 []) (t1 25 2 (c6 (w1 (.mks o3 8) 1 w3)) (.q (s5 28 a63 5 (j5 31 31 0 (e1 1 32 (u5 e6 (a44 1 28 (d8 30) (i2 (r7 9 s1 10)))) (d3 35 8 (a3 10 (t3 9 1 3 f1 (t0 1)))) (c3 39 30 30)))) (t1 40 5 (c6 (w1 (.mks (a6 :: a36 a6 (a54 a6 a1 a6 a1 (w6 a1 .nils (q5 a6 [])))) 248) 1 (c5 11))) (.q (s5 43 a63 5 (i5 2 46 46 2 (e1 3 47 (u5 e6 (a44 1 43 (d8 45) (i2 (r7 12 s1 13)))) (b0 50 11 (a3 12 (b8 2 (y3 13 21 21 (p8 21 6 5 (t0 21))))) (b0 57 11 (h7 12 21 (a87 (.call 398))) (i5 4 63 63 4 (e1 5 64 (a20 1 60 (c5 15)) (d3 66 15 (f6 8 15 (a07 (i2 (u7 1 4 (v6 .nilc 7 (t0 1))))))) (c3 74 62 62))))) (c3 75 45 45)))) (d7 76 11 d2)))))))))))) 4) := ⟨_, by conv => rhs; reduce⟩
end Q
def cf269 : CF := Q.T269.1
set_option maxRecDepth 100000 in
theorem cf269_ok : compF TP Tryz.f269 = some cf269 := by kernel_rfl
namespace Q
set_option maxRecDepth 100000 in
def T270 : Was (h1 1 2 c1 (h4 3 (l0 0 k4) (.b 0 (b5 8 (a30 2 g6 7) 7 (l4 2 c1) (k5 10 (a0 6 2 9) 9 (k3 11 (c2 20 (n6 o3 1 1 1 d4)))))) (a00 16 18 (d9 19 (w1 (.bslice o3 2 1 (j2 1 1 1)) 5 d4)) .ret)) 2) := ⟨_, by conv => rhs; reduce⟩
end Q
def cf270 : CF := Q.T270.1
set_option maxRecDepth 100000 in
theorem cf270_ok : compF TP Tryz.f270 = some cf270 := by kernel_rfl
end
end Ev
end Go.Proofs.YtihflniehaaakaaGreatDoor
