/-
  The functions of the program, compiled (printed by a program of ours; each is held against the program's own text below).
-/
import Derived.Test.YtogbcielgfidlaaGreatDoorMcC
namespace Go.Proofs.YtogbcielgfidlaaGreatDoor
set_option linter.unusedVariables false
set_option linter.unusedSimpArgs false
namespace Ev
noncomputable section
namespace Q
set_option maxRecDepth 100000 in
def T3 : Was (m6 3 (y3 5 n2 (l1 2) a9 (e2 14 (i8 3 5 (a7 4 (s9 (i9 (g2 5 (x5 .gtr 5000 4)))))) 21 (b2 22 (d9 5 [] 6)) (c4 23 (l8 e6 (a39 0 1) e8 (z7 7 e6 []) (g6 2 7)) (c4 25 (x6 c8 0 1 e8 (o4 c8 (h1 0 1) 1 e8 (g4 (.bslice c8 2 9 (a20 0 9 9 9)) a0 (p5 (a21 0 0 h6 j4) (p7 0 1 (h1 1 2)) (v7 (.str 1 102) (p6 1 h2)) (f7 (k4 (a21 0 0 h6 j4) 1 4 0 4) (i8 2 7 (f7 (k4 e6 1 2 0 2) (x6 e6 1 1 (d4 5) (f7 (k4 e6 1 2 0 2) (o4 (z8 .nils 0 s8) (u2 0 1 3 8 4) 12 (b1 3 f1) (o4 (z8 .nils 0 s8) (h1 0 5) 24 e8 (i8 2 7 (i8 2 7 (o4 e6 (h1 0 1) 3 e8 (g4 (.bslice e6 2 2 (a20 0 2 2 2)) a0 (o4 (z8 .nils 0 s8) (p7 0 1 (u2 1 2 3 7 6)) 14 (b1 4 (a47 1 (.str 1 45) e8)) (x6 (z8 .nils 0 s8) 0 1 (d4 16) (x6 (z8 .nils 0 s8) 0 1 (d4 25) (x6 (z8 .nils 0 s8) 0 1 (d4 26) (g4 (.bslice (z8 .nils 0 s8) 6 10 (a48 0 10 10 10 (a48 20 10 30 10 (a20 40 10 50 10)))) (b1 10 (b1 9 (b1 4 o3))) (p5 (u0 0 0 (r0 s8)) (p7 0 1 (u2 1 1 2 3 5)) (v7 (.str 1 109) (p6 1 (b1 18 (g0 16)))) (q9 6 24 (e4 46 22 23 (n1 1 24 8 2 (b4 9))))))))))))))))))))))))) (e3 49 (d3 7 (b9 800) (b5 (k2 7 (b9 1000) (v8 10 3) (b4 11)))) (d8 57 (c3 0 4 (i8 3 5 (s7 53 (b8 (o2 9 (e5 1 (o2 10 (c3 2 3 (o2 11 (c3 3 4 (v0 12 [] 1 (c3 4 5 (h4 8 5 (b1 4 o3) (c3 5 5 (b4 12))))))))))))))) (c5 59 9 (y4 .neq b0 (a1 12 (a19 p4 s6 (.n :: u1 3 1 12 (a1 10 (a7 14 (f7 (k4 c8 1 9 0 9) (d3 13 (a47 4 (.str 1 109) (v7 (.str 1 102) a2)) (l0 .neq 0 (u1 7 1 12 (a7 15 (e7 (.field false 0 1) (l0 .neq 5 (u1 5 1 12 (a1 8 (g3 16 (l0 .neq 0 (u1 5 1 12 (a1 11 (g3 17 (x5 .neq 0 5))))))))))))))))))))) (d0 90 6 a9) (c0 91 12 (k2 15 a2 (z7 13 (o1 (u9 0 0 0 0 (x4 0 0 (u0 0 0 (i0 0 0 (i0 0 0 (i0 0 0 (.nils :: j4)))))))) []) (g6 16 13)) (c5 93 11 (a1 10 (x3 .mins 400 (.b (x2 .leq) a6) [])) (d6 96 (b2 97 (g2 13 (x1 b3 (b9 3) 1 (a1 12 (a7 18 (a1 11 (j3 b3 a0 (u8 .pick 5 1 (k2 5 [] .n (k9 2 6))))))))))) (e2 109 (f6 10 (x2 .gtr) (b9 400)) 110 (b2 111 (g2 13 (x1 b3 (b9 2) 1 (g5 13 (j3 b3 (v6 5 491496043109) (u8 .pick 4 1 (z6 2 13 (a18 3 (j3 b3 (k3 (a70 12)) (u8 .pick 5 1 (a1 12 (a7 18 (s5 0 (u8 .pick 4 1 (k2 5 [] .n (k9 2 6)))))))))))))))) (b2 133 (g2 13 (x1 b3 f1 1 (z6 2 13 (a18 0 (s5 1 (u8 .pick 5 1 (z6 2 13 (a18 1 (s5 0 (u8 .pick 5 1 (a1 12 (a7 18 (s5 0 (u8 .pick 4 1 (k2 5 [] .n (k9 2 6))))))))))))))))))))))))))) 6) := ⟨_, by conv => rhs; reduce⟩
end Q
def cf3 : CF := Q.T3.1
set_option maxRecDepth 100000 in
theorem cf3_ok : compF TP Tryz.f3 = some cf3 := by kernel_rfl
namespace Q
set_option maxRecDepth 100000 in
def T4 : Was (m6 1 (y3 1 n2 p8 a9 (b2 3 (c6 (.fa 0) c2 (e9 (i4 .geq (i1 (g2 1 (l0 .leq 1048576 (u8 .pick 4 1 (g5 1 (l0 .geq 0 (k9 4 2)))))))))))) 2) := ⟨_, by conv => rhs; reduce⟩
end Q
def cf4 : CF := Q.T4.1
set_option maxRecDepth 100000 in
theorem cf4_ok : compF TP Tryz.f4 = some cf4 := by kernel_rfl
namespace Q
set_option maxRecDepth 100000 in
def T5 : Was (i5 0 0 (c4 5 (o2 9 (o2 10 (o2 11 (o2 12 (o4 (a08 [h6]) (h1 0 1) 50 u4 (d9 8 (b1 5 (b1 4 o3)) 1)))))) (c4 12 (o2 19 (q9 6 11 (e4 13 2 3 (n1 1 4 2 2 (b4 3))))) (c5 16 1 (a19 p4 s6 (i9 (a1 3 (l0 .neq 0 (u3 3 1 (b5 (x6 c8 0 1 e8 (f7 (k4 c8 1 9 0 9) (d3 13 (a47 3 (.str 1 109) (v7 (.str 1 102) a2)) (l0 .neq 0 (u3 6 1 (b5 (a7 15 (e7 (.field false 0 1) (x5 .neq 5 5))))))))))))))) (d0 34 0 a9) (c5 35 1 (a1 2 (g3 16 (y4 .neq b0 (b5 (a7 15 (e7 (.field false 0 1) (l0 .neq 3 (u3 5 1 (b5 (d3 17 f1 (x5 .neq 0 4))))))))))) (d0 49 0 a9) (c0 50 1 (k2 15 a2 (z7 4 (o1 (u9 0 0 0 0 (x4 0 0 (u0 0 0 (i0 0 0 (i0 0 0 (i0 0 0 (.nils :: j4)))))))) []) (g6 16 4)) (b2 52 (g2 4 (x1 b3 f1 1 (z6 2 4 (a18 0 (s5 2 (u8 .pick 5 1 (z6 2 4 (a18 3 (j3 b3 (v6 4 1701736292) (k9 5 0)))))))))))))))) 0) := ⟨_, by conv => rhs; reduce⟩
end Q
def cf5 : CF := Q.T5.1
set_option maxRecDepth 100000 in
theorem cf5_ok : compF TP Tryz.f5 = some cf5 := by kernel_rfl
namespace Q
set_option maxRecDepth 100000 in
def T6 : Was (r1 1 (j0 1 p8 (a30 h8 n4) (l2 10 (i8 6 1 (q9 20 9 (e4 11 2 3 (h7 4 (.j 4) (z9 .mv 12 [] (a10 h8 13) []))))) (f3 14 (f6 5 o5 b0) 15 (b2 16 (d5 5 (a49 2 n4) (b4 3)))) (c4 17 (i8 6 1 (a7 21 (g4 (.mkm false) [] (p5 (x4 0 0 (r0 (a09 .nilm []))) (a20 0 6 6 1) a0 (e7 (.build (x4 0 0 (r0 (a09 .nilm []))) (a39 0 7)) (f7 .box t1)))))) (c5 23 6 (r2 0 (t0 0 (j9 3 (y5 1 a2) i6))) (e0 0 31 31 0 (j1 (c4 32 (c6 .mv c2 (a61 4 28 (l1 30) (a54 4 8 (a21 0 0 h6 j4) (u5 7 3 (g6 4 8))))) (f3 35 (n3 2 8 (y5 1 a2)) 36 (.d 37 (a1 6 (l3 0 6 (g2 8 (g5 8 (p5 (a43 0 0) (h1 0 1) a6 (k6 7 [a41 (.agg [.s, .i]) (a42 7)]))))))))) 48 30 30)) (b2 49 (a40 .mv 6 [] 2 (k5 3 b6))))))) 2 3 []) := ⟨_, by conv => rhs; reduce⟩
end Q
def cf6 : CF := Q.T6.1
set_option maxRecDepth 100000 in
theorem cf6_ok : compF TP Tryz.f6 = some cf6 := by kernel_rfl
namespace Q
set_option maxRecDepth 100000 in
def T8 : Was (m6 5 (j0 5 (l1 0) (n5 3 (v1 n2 (l1 4) n4)) (e2 16 (g2 5 (y4 .neq (b9 6) (f4 5 (a7 22 (q0 (u3 4 1 (b5 (p5 c8 [] [] (g3 23 (s5 1 (u1 5 1 3 (d3 24 b0 (s5 1 (r3 4)))))))))))))) 34 (f8 10 n4) (c5 36 2 (l4 25 (v6 0 0) 35 (e4 37 2 3 (h7 4 (.j 11) (z9 .mv 38 [] (a10 h8 39) [])))) (f3 40 (m0 12 b3 f1) 41 (f8 10 n4)) (k0 42 2 3 (g2 9 (d9 26 (b1 4 a6) 13)) (c0 47 13 (i8 3 9 (d9 27 a0 14)) (c5 50 13 (a19 p4 s6 (i9 (a1 14 (a19 p4 s6 (.n :: r3 3))))) (d0 55 10 n4) (c4 56 (f4 5 (a7 28 (b5 (a1 13 (a1 14 (g4 (.mkm false) [] (o2 29 (o2 30 (o2 30 (p5 (a71 0 (x4 0 0 (a21 0 0 .nilp (a11 .nilp .nilp (a88 .nilm (p9 (p9 (p9 (p9 (p9 (j5 0 0 0 0 (j5 0 0 0 0 (j5 0 0 0 0 (j5 0 0 0 0 (j5 0 0 0 0 (j5 0 0 0 0 (j5 0 0 0 0 (j5 0 0 0 0 (j5 0 0 0 0 (j5 0 0 0 0 (j5 0 0 0 0 (j5 0 0 0 0 (j5 0 0 0 0 (j5 0 0 0 0 (j5 0 0 0 0 (j5 0 0 0 0 (j5 0 0 0 0 (j5 0 0 0 0 (j5 0 0 0 0 (j5 0 0 0 0 (j5 0 0 0 0 (j5 0 0 0 0 (j5 0 0 0 0 (j5 0 0 0 0 (j5 0 0 0 0 (j5 0 0 0 0 (j5 0 0 0 0 (j5 0 0 0 0 (j5 0 0 0 0 (j5 0 0 0 0 (j5 0 0 0 0 (j5 0 0 0 0 (a09 .nilp (a72 h6 (a11 h6 .nils (r0 (a79 0 0 (a08 (a11 h6 h6 (o1 (a11 h6 h6 (a08 (u9 0 0 0 0 (x4 0 0 (u0 0 0 (i0 0 0 (i0 0 0 (i0 0 0 (.nils :: o1 [h6]))))))))))))))))))))))))))))))))))))))))))))))))))))))))))) (l9 0 9 9 (l9 10 1 11 (a48 12 1 13 41 (h1 320 321)))) (b1 8 (b1 7 (b1 6 (b1 5 (b1 4 o3))))) (f7 .box (b4 15)))))))))))) (c0 67 15 (a7 31 []) (h5 69 15 10))))))))) 10) := ⟨_, by conv => rhs; reduce⟩
end Q
def cf8 : CF := Q.T8.1
set_option maxRecDepth 100000 in
theorem cf8_ok : compF TP Tryz.f8 = some cf8 := by kernel_rfl
namespace Q
set_option maxRecDepth 100000 in
def T9 : Was (n6 0 (w4 0 v2 [] (b2 1 (l8 c8 (u2 0 1 3 2 1) (p6 6 (v7 (.str 1 97) (p6 1 e8))) (q1 9 (a62 2 a2)) []))) 0 9 []) := ⟨_, by conv => rhs; reduce⟩
end Q
def cf9 : CF := Q.T9.1
set_option maxRecDepth 100000 in
theorem cf9_ok : compF TP Tryz.f9 = some cf9 := by kernel_rfl
namespace Q
set_option maxRecDepth 100000 in
def T10 : Was (h3 0 0 n4 (b2 1 (x6 (a11 h6 .nilp (a11 .nilp .nilp e6)) 0 1 h2 (f7 .box (b4 0)))) 0) := ⟨_, by conv => rhs; reduce⟩
end Q
def cf10 : CF := Q.T10.1
set_option maxRecDepth 100000 in
theorem cf10_ok : compF TP Tryz.f10 = some cf10 := by kernel_rfl
namespace Q
set_option maxRecDepth 100000 in
def T11 : Was (h3 0 0 n4 (b2 1 (g4 (.mkm false) [] (e7 (.build (a11 .nilm .nils []) (a39 0 1)) (f7 .box (b4 0))))) 0) := ⟨_, by conv => rhs; reduce⟩
end Q
def cf11 : CF := Q.T11.1
set_option maxRecDepth 100000 in
theorem cf11_ok : compF TP Tryz.f11 = some cf11 := by kernel_rfl
namespace Q
set_option maxRecDepth 100000 in
def T12 : Was (h3 0 0 n4 (b2 1 (g4 (.mkm false) [] (g4 (.mkm false) [] (p5 (a11 .nilm .nilm e6) (h1 0 1) a0 (f7 .box (b4 0)))))) 0) := ⟨_, by conv => rhs; reduce⟩
end Q
def cf12 : CF := Q.T12.1
set_option maxRecDepth 100000 in
theorem cf12_ok : compF TP Tryz.f12 = some cf12 := by kernel_rfl
namespace Q
set_option maxRecDepth 100000 in
def T13 : Was (h9 4 8 (g1 9 (v3 32 d7 a2) (d0 11 8 e8) (c5 12 1 (a7 33 (s9 (i9 (a1 2 (a7 33 (q0 (u1 4 1 3 (a7 34 (q0 (u3 4 1 (b7 327 (.n :: u3 5 1 (b7 328 (.n :: r3 5)))))))))))))) (d0 36 8 u4) (e3 37 (a50 .nilc 327 (q2 1 h2) []) (f5 40 3 (g3 35 []) (y6 43 1 2 (h4 36 3 (a63 2 h2) []) (f8 8 b6)))))) 8) := ⟨_, by conv => rhs; reduce⟩
end Q
def cf13 : CF := Q.T13.1
set_option maxRecDepth 100000 in
theorem cf13_ok : compF TP Tryz.f13 = some cf13 := by kernel_rfl
namespace Q
set_option maxRecDepth 100000 in
def T14 : Was (n6 1 (w4 2 v2 [] (g7 3 (l8 c8 (h1 0 1) (m1 1) (q3 9 2) []))) 2 9 []) := ⟨_, by conv => rhs; reduce⟩
end Q
def cf14 : CF := Q.T14.1
set_option maxRecDepth 100000 in
theorem cf14_ok : compF TP Tryz.f14 = some cf14 := by kernel_rfl
namespace Q
set_option maxRecDepth 100000 in
def T15 : Was (n6 1 (w4 2 (w5 (o1 (u9 0 0 0 0 (x4 0 0 (u0 0 0 (i0 0 0 (i0 0 0 (i0 0 0 (.nils :: j4))))))))) [] (u6 3 (v3 32 d7 a2) 5 (b2 6 (l8 (o1 (u9 0 0 0 0 (x4 0 0 (u0 0 0 (i0 0 0 (i0 0 0 (i0 0 0 (.nils :: j4)))))))) [] [] (q3 16 2) [])) (u6 7 (j2 329 (r4 b3 (b9 4))) 11 (p1 12 (a50 .nilc 329 (q1 1 f1) [])) (v4 0 (.w (g1 15 (j2 329 (u7 b3 f1 1 (b7 329 (s5 2 (r3 6))))) (y7 26 0) (.b 1 (u6 27 (j2 329 (r4 b3 (b9 2))) 31 (u6 32 (j2 326 (r4 b3 b0)) 36 (b2 37 (l8 (o1 (u9 0 0 0 0 (x4 0 0 (u0 0 0 (i0 0 0 (i0 0 0 (i0 0 0 (.nils :: j4)))))))) (a39 0 1) (d4 3) (q3 16 2) [])) (l5 38 0 326 (i4 .sub (t2 5 326 1 3)) (p1 45 (a7 37 [])))) (p1 47 (a7 38 [])))))) (g7 49 (r2 330 (g8 16 (k2 39 a2 (q3 16 2) [])))))))) 2 16 []) := ⟨_, by conv => rhs; reduce⟩
end Q
def cf15 : CF := Q.T15.1
set_option maxRecDepth 100000 in
theorem cf15_ok : compF TP Tryz.f15 = some cf15 := by kernel_rfl
namespace Q
set_option maxRecDepth 100000 in
def T16 : Was (h9 2 4 (g1 14 (v3 32 d7 a2) (d0 16 4 e8) (c5 17 1 (a19 p4 s6 (i9 (b5 (a7 40 (j3 b3 (v6 0 0) (r3 4)))))) (d0 23 4 u4) (v4 0 (e3 25 (d9 41 (b9 5) 24) (f2 24 (d8 28 (b5 (a4 (l3 330 13 (a4 (l3 330 14 (x8 o7 a5 (l4 42 (b1 12 (g0 7)) 27 (a8 (a44 40 13 (a8 (a22 0 14 c9 (h7 15 c9 (u5 5 2 (a8 t1)))))))))))))) (.q (d8 43 (d5 1 (.s 1) (b8 (l6 0 a5 a5 (j9 330 a5 (l7 12 a5 (x7 44 40 a2 5 (a8 (f9 (.bin .neq) q5 c9 (i9 (a8 (a80 6 c9 d7 .n (a8 (r3 3))))))))))))) (d0 54 4 u4)) (f5 55 1 (d9 43 a0 7) (x9 58 (a1 7 (a1 7 (l3 1 3 (a15 5 4 a0 (a18 3 (b7 346 (b8 (h4 44 15 (b1 14 e1) [])))))))) a00)))) (e3 75 (d9 41 (b9 6) 74) (d6 74 (e3 77 (r2 330 (t0 2 (j7 9 8 c8 9 8))) (c0 83 1 (g5 8 (l4 45 a6 82 (e4 86 4 5 (h7 6 (z7 9 (a02 []) []) (a23 3 9 m3 (b4 10)))))) (.q (d8 89 (d5 1 (.s 1) (b8 (j6 3 8 a5 (x7 90 40 a2 2 (a8 (f9 (.bin .neq) a6 c9 (i9 (a8 (d5 1 (.s 1) (e5 1 (j6 2 8 t3 (s7 96 (e5 1 (v0 46 a2 2 (i2 (r5 .neq a6 (i2 (f9 .pick (z1 6) q4 (i9 (i2 (a80 10 q4 d7 .n (i2 (f9 .pick (z1 3) q4 (i9 (i2 (j6 0 9 q4 (i2 (j6 5 8 q4 (i2 (r5 .neq a6 (i2 (f9 .pick (z1 6) q4 (i9 (i2 (j6 1 9 q4 (i2 (j6 6 8 q4 (i2 (x8 o7 q4 (r5 .neq m2 (i2 (r3 7)))))))))))))))))))))))))))))))))))))))))) (d0 119 4 u4)) (l2 120 (d1 6 8 (a51 a2)) (e0 1 124 124 1 (v9 2 (y8 125 .mv c2 11 (w0 127 10 (b7 320 (k6 11 (l4 47 (a42 6) 126 (a8 (a44 136 10 (a8 (a22 0 11 c9 (h7 12 c9 (u5 12 2 (s7 13 (a8 (c6 .mv (a01 138) [])))))))))))) (p1 139 (b7 319 (a1 12 (f7 (k4 (z0 0 []) 1 1 0 1) (y9 1 8 a6 (t2 8 319 1 3)))))))) 149 123 123)) (e3 150 (o2 30 (t2 2 320 1 3)) (d8 154 (b8 (a4 (a4 (d5 1 (.s 1) (b8 (j6 2 9 a5 (b8 (l6 0 a5 a5 (l7 346 a5 (x7 157 43 a0 6 (e5 1 (h4 44 10 (b1 7 e1) [])))))))))))) a00)))))))))) (o6 u4)))) 4) := ⟨_, by conv => rhs; reduce⟩
end Q
def cf16 : CF := Q.T16.1
set_option maxRecDepth 100000 in
theorem cf16_ok : compF TP Tryz.f16 = some cf16 := by kernel_rfl
namespace Q
set_option maxRecDepth 100000 in
def T17 : Was (h9 2 4 (g1 5 (v3 32 d7 a2) (d0 7 4 e8) (c5 8 1 (y4 .lss b0 (b5 (x5 .gtr 2147483647 3))) (d0 13 4 u4) (f5 14 1 (t2 2 326 1 3) a00))) 4) := ⟨_, by conv => rhs; reduce⟩
end Q
def cf17 : CF := Q.T17.1
set_option maxRecDepth 100000 in
theorem cf17_ok : compF TP Tryz.f17 = some cf17 := by kernel_rfl
namespace Q
set_option maxRecDepth 100000 in
def T18 : Was (h9 1 2 (g1 3 (v3 32 d7 a2) (d0 5 2 b6) (t4 6 0 317 (o8 o7 2))) 2) := ⟨_, by conv => rhs; reduce⟩
end Q
def cf18 : CF := Q.T18.1
set_option maxRecDepth 100000 in
theorem cf18_ok : compF TP Tryz.f18 = some cf18 := by kernel_rfl
namespace Q
set_option maxRecDepth 100000 in
def T19 : Was (n6 0 (w4 0 (w5 (u0 0 0 (r0 s8))) [] (c4 3 (x6 e6 0 1 e8 (l8 e6 (h1 0 1) (p6 3 e8) (z7 1 e6 []) (a52 2 e6 [] (a23 2 1 m3 (g6 2 2))))) (b2 5 (x6 c8 0 1 e8 (o4 c8 (h1 0 1) 1 e8 (o4 c8 (h1 0 3) 2 (r6 1 109) (o4 c8 (h1 0 3) 2 (r6 1 102) (o4 c8 (h1 0 3) 2 (r6 4 1701736292) (g4 (.bslice c8 5 9 (p7 0 9 (a48 9 9 18 9 (a20 27 9 36 9)))) (b1 5 (b1 4 o3)) (p5 (a21 0 0 h6 j4) (p7 0 1 (h1 1 2)) (v7 (.str 1 102) (p6 1 h2)) (f7 (k4 (a21 0 0 h6 j4) 1 4 0 4) (i8 2 1 (f7 (k4 e6 1 2 0 2) (o4 e6 (h1 0 1) 0 (d4 3) (f7 (k4 e6 1 2 0 2) (o4 (z8 .nils 0 s8) (u2 0 1 3 8 4) 12 (b1 3 f1) (i8 2 1 (i8 2 1 (i8 2 2 (g4 (.bslice e6 2 2 (a20 0 2 2 2)) a0 (o4 (z8 .nils 0 s8) (p7 0 1 (u2 1 2 3 7 6)) 14 (b1 4 (a47 1 (.str 1 45) e8)) (o4 e6 (h1 0 1) 3 u4 (o4 e6 (h1 0 1) 3 (d4 3) (g4 (.bslice e6 2 2 (a20 0 2 2 2)) a0 (o4 (z8 .nils 0 s8) (p7 0 1 (h1 3 5)) 19 f1 (i8 2 1 (o4 e6 (h1 0 1) 3 (d4 4) (f7 (k4 e6 1 2 0 2) (o4 (z8 .nils 0 s8) (p7 0 1 (a20 1 2 3 1)) 1 a6 (x6 (z8 .nils 0 s8) 0 1 (d4 26) (g4 (.bslice (z8 .nils 0 s8) 5 10 (p7 0 10 (a48 10 10 20 10 (a20 30 10 40 10)))) (b1 15 (b1 10 (a42 6))) (l8 (u0 0 0 (r0 s8)) (p7 0 1 (u2 1 1 2 3 5)) (v7 (.str 1 109) (p6 1 (b1 23 (g0 21)))) (q3 6 0) [])))))))))))))))))))))))))))))))) 0 6 []) := ⟨_, by conv => rhs; reduce⟩
end Q
def cf19 : CF := Q.T19.1
set_option maxRecDepth 100000 in
theorem cf19_ok : compF TP Tryz.f19 = some cf19 := by kernel_rfl
namespace Q
set_option maxRecDepth 100000 in
def T20 : Was (r1 1 (j0 1 p8 (a30 h8 b6) (l2 10 (i8 6 1 (q9 48 9 (e4 11 2 3 (n1 1 4 4 2 w1)))) (f3 14 (f6 5 o5 b0) 15 (m4 16 4 (d5 5 (v8 2 2) (b4 3)))) (c4 19 (l4 49 (l1 1) 18 (e4 19 1 2 (a24 1 3 (a22 2 4 (.j 6) (z9 .mv 20 [] (a10 h8 21) (z2 (a01 22))))))) (m4 23 7 (d5 8 (v8 2 2) (b4 3)))))) 2 3 []) := ⟨_, by conv => rhs; reduce⟩
end Q
def cf20 : CF := Q.T20.1
set_option maxRecDepth 100000 in
theorem cf20_ok : compF TP Tryz.f20 = some cf20 := by kernel_rfl
namespace Q
set_option maxRecDepth 100000 in
def T21 : Was (n6 1 (j0 1 p8 (m8 (w5 (u0 0 0 (r0 s8))) []) (c4 6 (d1 2 1 (a7 50 (n3 2 1 (t6 1 2)))) (l2 10 (d1 2 1 (a51 a2)) (e0 0 14 14 0 (j1 (y8 15 .mv c2 3 (a03 16 (j6 2 1 a5 (b8 (a1 3 (d1 2 1 (a15 3 9 a0 (g8 9 (b8 (a7 28 (a8 (v5 9 (b1 8 (m7 7)) t3 (m5 9 2))))))))))))) 26 13 13)) (d8 27 (d1 3 1 (y0 1 (j6 4 1 a5 (n5 1 (e5 0 (j6 5 1 r7 (x7 29 51 a2 6 (c3 1 3 (t5 3 1 (.j 32) (e5 1 (v0 52 a2 2 (c3 2 3 (a7 53 (c3 3 4 (q1 1 (b1 0 (m7 7)) :: n5 1 (c3 4 4 (t5 4 1 (.h 4 5) (a25 1 6 (c3 5 5 (t5 5 1 (.h 5 6) (m5 1 4))))))))))))))))))))) (l2 39 (d1 5 1 (a51 a2)) (e0 2 43 43 2 (v9 3 (y8 44 .mv c2 4 (c4 45 (d1 5 1 (a1 4 (g9 (.ixsl 10) a0 5))) (.d 49 (c3 0 3 (d5 5 (.h 0 4) (d5 5 (.h 0 5) (a1 5 (i3 5 3 (y0 1 (l6 5 a5 a5 (l7 8 a5 (n5 1 (e5 0 (l6 5 r7 r7 (l7 9 r7 (x7 56 54 a2 4 (e5 1 (v0 55 a2 4 (c3 2 3 (a7 56 (c3 3 3 (w6 .nilc 18 (.h 3 3) (j9 3 (.h 3 4) (a25 1 13 (c3 4 4 (w6 .nilc 19 (.h 4 4) (j9 8 (.h 4 5) (a25 1 10 (c3 5 5 (w6 .nilc 20 (.h 5 5) (j9 9 (.h 5 6) (m5 1 7)))))))))))))))))))))))))))))))) 73 42 42)) (b2 74 (i8 6 1 (g6 6 2)))))))) 2 6 []) := ⟨_, by conv => rhs; reduce⟩
end Q
def cf21 : CF := Q.T21.1
set_option maxRecDepth 100000 in
theorem cf21_ok : compF TP Tryz.f21 = some cf21 := by kernel_rfl
namespace Q
set_option maxRecDepth 100000 in
def T22 : Was (m6 1 (y3 1 n2 p8 a9 (b2 3 (a73 9 c2 (a7 57 (g9 b3 b0 2))))) 2) := ⟨_, by conv => rhs; reduce⟩
end Q
def cf22 : CF := Q.T22.1
set_option maxRecDepth 100000 in
theorem cf22_ok : compF TP Tryz.f22 = some cf22 := by kernel_rfl
namespace Q
set_option maxRecDepth 100000 in
def T23 : Was (m6 2 (j0 3 c2 t7 (v4 0 (e3 6 (a7 58 w1) (f2 5 (o6 e8) (f3 9 (f4 3 (a7 22 (o8 d7 8))) 8 (o6 u4)))) (d8 12 (b8 (l6 0 a5 a5 (t0 1 (f4 3 (b8 (a7 28 (e5 1 (d3 59 a6 [])))))))) a00))) 4) := ⟨_, by conv => rhs; reduce⟩
end Q
def cf23 : CF := Q.T23.1
set_option maxRecDepth 100000 in
theorem cf23_ok : compF TP Tryz.f23 = some cf23 := by kernel_rfl
namespace Q
set_option maxRecDepth 100000 in
def T24 : Was (h9 2 4 (f5 5 1 (d9 60 (b1 2 f1) 4) .ret) 4) := ⟨_, by conv => rhs; reduce⟩
end Q
def cf24 : CF := Q.T24.1
set_option maxRecDepth 100000 in
theorem cf24_ok : compF TP Tryz.f24 = some cf24 := by kernel_rfl
namespace Q
set_option maxRecDepth 100000 in
def T25 : Was (r1 2 (y1 4 b6 t7 (u6 8 (v3 61 d7 a2) 10 (m9 4 b6 e8 .ret) (c5 11 1 (v3 33 d7 a2) (d6 13 (m9 4 b6 u4 .ret)) (l5 15 0 0 (b5 (a16 (.lookup a26 true (.int .i64 0)) a0 (s7 14 (e4 20 6 7 (n1 1 8 6 2 (b4 7)))))) (e2 23 (m0 7 d7 a2) 24 (l5 25 0 1 (o8 o7 6) (l5 30 0 0 (b5 (d5 6 (a41 a26 o3) [])) (p1 36 (b7 1 (b5 (f7 (k4 (i0 0 0 []) 1 1 0 1) (y9 1 16 a6 (t2 8 1 1 3)))))))) (b2 46 (a40 .mv 6 [] 4 (k5 5 b6)))))))) 4 5 []) := ⟨_, by conv => rhs; reduce⟩
end Q
def cf25 : CF := Q.T25.1
set_option maxRecDepth 100000 in
theorem cf25_ok : compF TP Tryz.f25 = some cf25 := by kernel_rfl
namespace Q
set_option maxRecDepth 100000 in
def T26 : Was (h3 3 6 n4 (g1 7 (a19 p4 s6 (i9 (b5 (a19 p4 s6 (.n :: u1 3 1 2 (l0 .lss 1 (u1 3 1 2 (x5 .gtr 1048576 3)))))))) (d0 20 6 n4) (k0 21 2 0 (b5 (p5 (r0 (r0 (a08 (a11 .nilp .nilp [])))) (p7 5 1 (h1 6 7)) o3 (f7 .box t1))) .ret)) 6) := ⟨_, by conv => rhs; reduce⟩
end Q
def cf26 : CF := Q.T26.1
set_option maxRecDepth 100000 in
theorem cf26_ok : compF TP Tryz.f26 = some cf26 := by kernel_rfl
namespace Q
set_option maxRecDepth 100000 in
def T27 : Was (m6 2 (y3 3 n2 c2 n4 (g1 5 (a19 p4 s6 (i9 (g2 3 (l0 .lss 1 (u3 4 1 (g2 3 (l0 .gtr 1048576 (u3 4 1 (g5 3 (x5 .lss 0 4)))))))))) (d0 21 4 n4) (g7 22 (i8 3 3 (p5 (.nilp :: a08 (h6 :: a02 [])) (a55 0 1 3) a0 (f7 .box n7)))))) 4) := ⟨_, by conv => rhs; reduce⟩
end Q
def cf27 : CF := Q.T27.1
set_option maxRecDepth 100000 in
theorem cf27_ok : compF TP Tryz.f27 = some cf27 := by kernel_rfl
namespace Q
set_option maxRecDepth 100000 in
def T28 : Was (n6 1 (j0 1 p8 (m8 v2 []) (c4 3 (c6 (.fa 6) c2 (e9 (a7 62 (n3 6 1 (t6 1 2))))) (b2 7 (f4 1 (g6 9 2))))) 2 9 []) := ⟨_, by conv => rhs; reduce⟩
end Q
def cf28 : CF := Q.T28.1
set_option maxRecDepth 100000 in
theorem cf28_ok : compF TP Tryz.f28 = some cf28 := by kernel_rfl
namespace Q
set_option maxRecDepth 100000 in
def T29 : Was (n6 0 (w4 0 (w5 (.nilf :: p9 (p9 (p9 (p9 (p9 [])))))) [] (b2 1 (p5 (.nilf :: p9 (p9 (p9 (p9 (p9 []))))) (l9 1 1 2 (l9 3 1 4 (l9 5 1 6 (l9 7 1 8 (l9 9 1 10 (l9 11 1 12 (l9 13 1 14 (l9 15 1 16 (l9 17 1 18 (l9 19 1 20 (l9 21 1 22 (l9 23 1 24 (l9 25 1 26 (l9 27 1 28 (l9 29 1 30 (l9 31 1 32 (l9 33 1 34 (l9 35 1 36 (u2 37 1 38 39 40))))))))))))))))))) (a74 63 (r8 64 65 (r8 66 67 (r8 67 67 (r8 68 69 (r8 69 69 (r8 70 71 (r8 71 72 (r8 73 73 (r8 74 74 (r8 75 75 (r8 76 76 (r8 77 78 (r8 79 80 (r8 81 82 (r8 83 84 (r8 84 84 (r8 85 86 (r8 87 88 (r8 89 90 (a04 91))))))))))))))))))))) (x8 (.build (.nilf :: p9 (p9 (p9 (p9 (p9 []))))) (a39 0 41)) (q3 41 0) [])))) 0 41 []) := ⟨_, by conv => rhs; reduce⟩
end Q
def cf29 : CF := Q.T29.1
set_option maxRecDepth 100000 in
theorem cf29_ok : compF TP Tryz.f29 = some cf29 := by kernel_rfl
namespace Q
set_option maxRecDepth 100000 in
def T30 : Was (h3 0 0 (t8 .u64 0 []) (f8 0 (t8 .u64 11 [])) 0) := ⟨_, by conv => rhs; reduce⟩
end Q
def cf30 : CF := Q.T30.1
set_option maxRecDepth 100000 in
theorem cf30_ok : compF TP Tryz.f30 = some cf30 := by kernel_rfl
namespace Q
set_option maxRecDepth 100000 in
def T31 : Was (n0 1 (n8 3 b6 (a89 0 4 (a62 1 (d4 256)) (y7 4 0) (j1 (y8 5 .mv c2 2 (a03 6 (k6 0 (d5 2 (.s 1) (b8 (w6 .nilc 3 a5 (j9 54 (.j 8) (a31 30 [] 2 (a8 (f9 (.ixarrp 256 1) (k3 (m7 4)) t3 (m5 1 4))))))))))) 12 3 3)))) := ⟨_, by conv => rhs; reduce⟩
end Q
def cf31 : CF := Q.T31.1
set_option maxRecDepth 100000 in
theorem cf31_ok : compF TP Tryz.f31 = some cf31 := by kernel_rfl
namespace Q
set_option maxRecDepth 100000 in
def T32 : Was (i5 1 2 (g7 3 (a36 p4 true s6 (i1 (b7 10 (a36 p4 true s6 (.n :: k9 6 2)))))) 2) := ⟨_, by conv => rhs; reduce⟩
end Q
def cf32 : CF := Q.T32.1
set_option maxRecDepth 100000 in
theorem cf32_ok : compF TP Tryz.f32 = some cf32 := by kernel_rfl
namespace Q
set_option maxRecDepth 100000 in
def T33 : Was (i5 1 2 (g1 5 (u7 b3 (v6 0 0) 1 (a4 (e7 (.leng .str) (x5 .gtr 32 4)))) (d0 11 2 a9) (l2 12 (f6 0 (.a .rangeS) a2) (a27 0 (a45 14 (.e .nextS) p8 (r4 (.ext 0) p8) (.q (y7 15 0) (.b 1 (c4 16 (c6 (.ext 1) c2 (a75 (.ext 2) 14 (v8 3 2) n7)) (.b 2 (c0 19 4 (w2 .geq .i32 97 (i1 (a1 4 (r5 .leq (p2 .i32 122) (k9 3 18))))) (f2 18 .skip (c0 26 3 (z3 .gtr b0 (a1 4 (w2 .geq .i32 65 (i1 (a1 4 (f9 (.bin .leq) (p2 .i32 90) (w7 6 true) (u7 .pick (o9 3) 1 (a1 4 (w2 .geq .i32 48 (i1 (a1 4 (f9 (.bin .leq) (p2 .i32 57) (w7 6 false) (f9 .pick (o9 3) (w7 14 true) (u1 7 1 4 (f9 b3 (p2 .i32 95) (w7 18 true) (u1 3 1 4 (f9 b3 (p2 .i32 64) (w7 22 true) (j3 .pick (z1 3) (k9 23 25))))))))))))))))))) (f2 25 .skip (f8 2 a9))))))))))) (f8 2 h2))) 2) := ⟨_, by conv => rhs; reduce⟩
end Q
def cf33 : CF := Q.T33.1
set_option maxRecDepth 100000 in
theorem cf33_ok : compF TP Tryz.f33 = some cf33 := by kernel_rfl
namespace Q
set_option maxRecDepth 100000 in
def T34 : Was (i5 1 2 (a12 5 0 i6 (e0 0 8 8 0 (j1 (k8 9 9 5 (j7 9 4 c8 9 4) (f3 11 (f4 4 (v3 22 d7 a2)) 13 (f8 2 a9))) 14 7 7)) (g7 15 (f0 (k7 .leq (b9 16) 2)))) 2) := ⟨_, by conv => rhs; reduce⟩
end Q
def cf34 : CF := Q.T34.1
set_option maxRecDepth 100000 in
theorem cf34_ok : compF TP Tryz.f34 = some cf34 := by kernel_rfl
namespace Q
set_option maxRecDepth 100000 in
def T35 : Was (n0 2 (e3 7 (a50 .nilc 319 (q2 1 c7) []) (a90 10 1 i6 (e0 0 13 13 0 (j1 (k8 14 9 10 (j7 9 5 c8 9 5) (e3 16 (f4 5 (d9 92 a0 6)) (p1 19 (b7 319 (a1 6 (f7 (k4 (z0 0 []) 1 1 0 1) (y9 1 8 a6 (t2 8 319 1 3)))))))) 29 12 12))))) := ⟨_, by conv => rhs; reduce⟩
end Q
def cf35 : CF := Q.T35.1
set_option maxRecDepth 100000 in
theorem cf35_ok : compF TP Tryz.f35 = some cf35 := by kernel_rfl
namespace Q
set_option maxRecDepth 100000 in
def T36 : Was (n0 4 (p1 8 (b5 (a1 2 (a4 (b7 319 (d3 94 e1 (o4 (o1 (u9 0 0 0 0 (x4 0 0 (u0 0 0 (i0 0 0 (i0 0 0 (i0 0 0 (.nils :: j4)))))))) (u2 0 1 12 13 14) 5 (b1 8 (g0 7)) (a1 3 (h4 93 11 a0 [])))))))))) := ⟨_, by conv => rhs; reduce⟩
end Q
def cf36 : CF := Q.T36.1
set_option maxRecDepth 100000 in
theorem cf36_ok : compF TP Tryz.f36 = some cf36 := by kernel_rfl
namespace Q
set_option maxRecDepth 100000 in
def T37 : Was (n0 1 (c4 2 (c6 .mv c2 (a7 31 [])) (x9 4 (r2 54 (e7 (a05 (.arr 256 1) false) (b7 319 (b8 (a64 (.copy 1) e1 []))))) (p1 13 (a4 (q6 2 319 (q2 1 c7) (q6 3 329 (q1 1 f1) []))))))) := ⟨_, by conv => rhs; reduce⟩
end Q
def cf37 : CF := Q.T37.1
set_option maxRecDepth 100000 in
theorem cf37_ok : compF TP Tryz.f37 = some cf37 := by kernel_rfl
namespace Q
set_option maxRecDepth 100000 in
def T38 : Was (n0 1 (x9 3 (l3 311 0 (l3 1 5 (a4 (l3 311 1 (g9 (.ixsl 10) q5 2))))) (e3 18 (l3 311 1 (i4 .add (a06 .nilc 6 (t0 311 (j9 1 (t6 1 4) []))))) (.d 27 (a4 (i3 2 0 (a06 .nilc 5 (t0 13 (t0 0 (c6 (.ixarrp 41 1) (k3 (m7 4)) (e9 (a4 (k6 2 (r9 o3 [])))))))))))))) := ⟨_, by conv => rhs; reduce⟩
end Q
def cf38 : CF := Q.T38.1
set_option maxRecDepth 100000 in
theorem cf38_ok : compF TP Tryz.f38 = some cf38 := by kernel_rfl
namespace Q
set_option maxRecDepth 100000 in
def T39 : Was (n6 1 (j0 1 p8 (m8 (w5 (o1 (u9 0 0 0 0 (x4 0 0 (u0 0 0 (i0 0 0 (i0 0 0 (i0 0 0 (.nils :: j4))))))))) []) (c4 6 (z6 2 1 (g8 9 (a7 28 (n3 2 1 (t6 9 2))))) (c4 10 (d1 14 1 (b4 3)) (c4 12 (n3 14 1 (q2 1 c7)) (a12 13 3 i6 (e0 0 16 16 0 (j1 (k8 17 9 13 (j7 9 5 c8 9 5) (a03 19 (j6 14 1 a5 (f4 5 (b8 (a7 28 (a8 (f7 (k4 c8 1 9 0 9) (e5 1 (y9 9 112 m2 (i2 (t5 14 1 (.h 2 3) (m5 1 2))))))))))))) 26 15 15)) (b2 27 (i8 16 1 (g6 16 2)))))))) 2 16 []) := ⟨_, by conv => rhs; reduce⟩
end Q
def cf39 : CF := Q.T39.1
set_option maxRecDepth 100000 in
theorem cf39_ok : compF TP Tryz.f39 = some cf39 := by kernel_rfl
namespace Q
set_option maxRecDepth 100000 in
def T40 : Was (h3 1 2 (r6 0 0) (g1 3 (v3 95 d7 a2) (d0 5 2 (r6 0 0)) (g7 6 (r2 0 (t0 0 (a18 0 (b4 2)))))) 2) := ⟨_, by conv => rhs; reduce⟩
end Q
def cf40 : CF := Q.T40.1
set_option maxRecDepth 100000 in
theorem cf40_ok : compF TP Tryz.f40 = some cf40 := by kernel_rfl
namespace Q
set_option maxRecDepth 100000 in
def T41 : Was (i5 2 4 (g7 5 (l3 330 0 (b5 (x1 b3 a0 1 (b7 329 (u7 b3 (b9 3) 1 (b7 329 (a56 4 (w7 12 true) (j3 .pick (z1 6) (k9 13 4)))))))))) 4) := ⟨_, by conv => rhs; reduce⟩
end Q
def cf41 : CF := Q.T41.1
set_option maxRecDepth 100000 in
theorem cf41_ok : compF TP Tryz.f41 = some cf41 := by kernel_rfl
namespace Q
set_option maxRecDepth 100000 in
def T42 : Was (r1 3 (m9 6 b6 a9 (u6 10 (v3 95 d7 a2) 12 (m9 6 b6 a9 .ret) (e3 14 (l3 0 6 (b5 (a1 2 (p5 (a43 0 0) (h1 0 1) a0 (a16 (.lookup (.agg [.s, .i]) true (.int .i64 0)) m2 (s7 13 (e4 22 9 10 (n1 1 11 8 2 (b4 9))))))))) (m4 25 8 (d5 9 (v8 6 2) (b4 7)))))) 6 7 []) := ⟨_, by conv => rhs; reduce⟩
end Q
def cf42 : CF := Q.T42.1
set_option maxRecDepth 100000 in
theorem cf42_ok : compF TP Tryz.f42 = some cf42 := by kernel_rfl
namespace Q
set_option maxRecDepth 100000 in
def T43 : Was (h3 2 4 n4 (l5 6 0 12 (b5 (a16 (.lookup p4 false .nilp) a0 w1)) (e2 12 (f6 5 (.r (.eq p4 false)) s6) 13 (k0 14 1 1 (a7 96 (p5 (.nilp :: u0 0 0 (r0 s8)) (a55 0 1 6) a6 (f7 .box w1))) (.r 19 (b7 12 (b5 (d5 5 (a41 p4 o3) []))))) (h5 25 5 4))) 4) := ⟨_, by conv => rhs; reduce⟩
end Q
def cf43 : CF := Q.T43.1
set_option maxRecDepth 100000 in
theorem cf43_ok : compF TP Tryz.f43 = some cf43 := by kernel_rfl
namespace Q
set_option maxRecDepth 100000 in
def T44 : Was (n0 4 (e2 8 (m0 3 d7 a2) 9 (u6 10 (j2 317 (a13 o7 (x2 .geq) (b9 400) [])) 15 (g7 16 (d3 97 (k3 (a70 12)) [])) (a03 18 (a4 (b7 317 (a4 (r2 311 (g8 5 (f7 (k4 (.nilp :: a72 h6 []) 1 5 0 5) (b8 (y9 5 40 q5 (a8 (w6 .nilc 11 c9 (j9 317 t3 (m5 1 3)))))))))))))) (y6 31 1 2 (b7 310 (f0 (p5 (.nilp :: a72 h6 []) (p7 0 1 (h1 1 2)) (b1 7 q5) (t2 9 311 5 3)))) (p1 42 (a4 (a4 (o2 30 (a57 4 321 1 3 (q6 5 316 (q2 1 h2) (q6 6 329 (q1 1 (b9 2)) [])))))))))) := ⟨_, by conv => rhs; reduce⟩
end Q
def cf44 : CF := Q.T44.1
set_option maxRecDepth 100000 in
theorem cf44_ok : compF TP Tryz.f44 = some cf44 := by kernel_rfl
namespace Q
set_option maxRecDepth 100000 in
def T48 : Was (r1 1 (j0 1 p8 (a30 h8 b6) (e2 8 (d3 101 (l1 1) (r4 d7 a2)) 9 (m9 2 (d4 (-1)) (d4 6) .ret) (l2 10 (d1 5 1 (a51 a2)) (e0 0 14 14 0 (j1 (y8 15 .mv c2 4 (c4 16 (d1 5 1 (a1 4 (g9 (.ixsl 10) a0 5))) (l5 21 5 0 (q9 102 20 (e4 25 5 6 (h7 7 (z7 6 (a02 []) []) (a23 3 6 m3 (b4 7))))) (c0 28 7 (s9 (i9 (a1 5 (i8 3 6 (d3 103 (a37 1 a0) (q0 (u1 5 1 5 (d3 104 (a37 1 a2) (q0 (u1 4 1 5 (a7 105 (q0 (u1 4 1 5 (d3 106 (a37 1 a2) (q0 (u1 4 1 4 (i8 3 6 (d3 107 (a37 1 a0) (q0 (r3 5)))))))))))))))))))) (d6 56 (b2 57 (a40 .mv 4 [] 2 (k5 3 (d4 6))))))))) 58 13 13)) (y1 2 b6 t7 .ret)))) 2 3 []) := ⟨_, by conv => rhs; reduce⟩
end Q
def cf48 : CF := Q.T48.1
set_option maxRecDepth 100000 in
theorem cf48_ok : compF TP Tryz.f48 = some cf48 := by kernel_rfl
namespace Q
set_option maxRecDepth 100000 in
def T49 : Was (r1 1 (y1 2 n4 (a30 h8 b6) (e3 17 (b7 5 (f0 (g4 (.mks (a11 .nilp .nils j4) 40) (g0 1) (p5 (a11 .nilp .nils j4) (h1 0 1) (g0 7) (f7 .box w1))))) (g1 26 (p3 3 1 i6) (e0 0 32 32 0 (j1 (k8 33 4 29 (j7 4 7 (a21 0 0 h6 j4) 4 7) (a03 35 (l6 5 a5 a5 (l7 1 a5 (b8 (j6 3 7 a5 (b8 (j8 3 a6 (g5 7 (b8 (a7 109 (e5 1 (d3 108 m2 []))))))))))))) 46 31 31)) (g1 47 (p3 4 1 i6) (e0 2 53 53 2 (v9 3 (k8 54 3 50 (j7 3 9 (a02 []) 3 9) (a03 56 (l6 5 a5 a5 (l7 1 a5 (b8 (j6 2 9 a5 (b8 (j8 3 a6 (g2 9 (g5 9 (f9 a58 a6 a5 (a7 109 (e5 1 (d3 108 (g0 7) [])))))))))))))) 70 52 52)) (c4 71 (d9 110 [] 10) (g1 72 (j2 5 (a51 a2)) (e0 4 78 78 4 (v9 5 (y8 79 .mv c2 11 (k0 80 5 11 (t2 2 2 1 3) (l5 84 5 1 (a1 11 (g9 (.ixsl 3) a0 12)) (c5 90 12 (j2 2 (m8 o5 b0)) (d6 94 (d8 95 (a1 11 (i3 12 2 (a81 2 n4 (u5 3 5 n7)))) .ret)) (c5 100 12 (j2 0 (m8 (.r (.eq p4 false)) s6)) (d6 104 (.x 5)) (a12 105 10 i6 (e0 6 108 108 6 (v9 7 (k8 109 1 105 (j7 1 14 [.nilf] 1 14) (d8 111 (g2 14 (a1 5 (i3 12 0 (b7 5 (a1 11 (v5 10 a0 a5 (r9 (b1 12 (b1 11 (g0 7))) (a8 (b4 15))))))))) (f3 125 (f6 15 o5 b0) 126 (m4 127 11 (d5 15 (a49 2 n4) (u5 3 2 n7)))))) 129 107 107)) (k0 130 5 11 (i3 12 0 (d9 111 (b1 6 e1) 16)) (f3 137 (f6 16 o5 b0) 138 (m4 139 11 (d5 16 (a49 2 n4) (u5 3 2 n7))))))))))) 141 77 77)) (b2 142 (a40 .mv 5 [] 2 (a81 3 b6 (k5 4 b6)))))))))) 2 3 (a07 4 [])) := ⟨_, by conv => rhs; reduce⟩
end Q
def cf49 : CF := Q.T49.1
set_option maxRecDepth 100000 in
theorem cf49_ok : compF TP Tryz.f49 = some cf49 := by kernel_rfl
namespace Q
set_option maxRecDepth 100000 in
def T50 : Was (h3 1 2 c7 (e2 3 (m0 0 (.eqd .s false) (k3 c7)) 4 (f8 2 c7) (b2 5 (g4 (.bslice c8 0 9 []) [] (a4 (w8 9 112 a0 2))))) 2) := ⟨_, by conv => rhs; reduce⟩
end Q
def cf50 : CF := Q.T50.1
set_option maxRecDepth 100000 in
theorem cf50_ok : compF TP Tryz.f50 = some cf50 := by kernel_rfl
namespace Q
set_option maxRecDepth 100000 in
def T51 : Was (h3 1 2 c7 (e2 3 (m0 0 (.eqd .s false) (k3 c7)) 4 (f8 2 c7) (b2 5 (g4 (.bslice (a21 0 0 h6 j4) 0 4 []) [] (a4 (w8 4 40 a0 2))))) 2) := ⟨_, by conv => rhs; reduce⟩
end Q
def cf51 : CF := Q.T51.1
set_option maxRecDepth 100000 in
theorem cf51_ok : compF TP Tryz.f51 = some cf51 := by kernel_rfl
namespace Q
set_option maxRecDepth 100000 in
def T52 : Was (h3 1 2 c7 (e2 3 (m0 0 (.eqd .s false) (k3 c7)) 4 (f8 2 c7) (b2 5 (g4 (.bslice (a02 []) 0 3 []) [] (a4 (w8 3 24 a0 2))))) 2) := ⟨_, by conv => rhs; reduce⟩
end Q
def cf52 : CF := Q.T52.1
set_option maxRecDepth 100000 in
theorem cf52_ok : compF TP Tryz.f52 = some cf52 := by kernel_rfl
namespace Q
set_option maxRecDepth 100000 in
def T53 : Was (h3 1 2 c7 (e2 3 (m0 0 (.eqd .s false) (k3 c7)) 4 (f8 2 c7) (b2 5 (g4 (.bslice (z8 .nils 0 s8) 0 10 []) [] (a4 (w8 10 136 a0 2))))) 2) := ⟨_, by conv => rhs; reduce⟩
end Q
def cf53 : CF := Q.T53.1
set_option maxRecDepth 100000 in
theorem cf53_ok : compF TP Tryz.f53 = some cf53 := by kernel_rfl
namespace Q
set_option maxRecDepth 100000 in
def T54 : Was (h3 1 2 c7 (e2 3 (m0 0 (.eqd .s false) (k3 c7)) 4 (f8 2 c7) (b2 5 (g4 (.bslice e6 0 2 []) [] (a4 (w8 2 16 a0 2))))) 2) := ⟨_, by conv => rhs; reduce⟩
end Q
def cf54 : CF := Q.T54.1
set_option maxRecDepth 100000 in
theorem cf54_ok : compF TP Tryz.f54 = some cf54 := by kernel_rfl
namespace Q
set_option maxRecDepth 100000 in
def T55 : Was (h3 1 2 c7 (e2 3 (m0 0 (.eqd .s false) (k3 c7)) 4 (f8 2 c7) (b2 5 (g4 (.bslice e6 0 2 []) [] (a4 (w8 2 16 a0 2))))) 2) := ⟨_, by conv => rhs; reduce⟩
end Q
def cf55 : CF := Q.T55.1
set_option maxRecDepth 100000 in
theorem cf55_ok : compF TP Tryz.f55 = some cf55 := by kernel_rfl
namespace Q
set_option maxRecDepth 100000 in
def T56 : Was (h3 1 2 c7 (e2 3 (m0 0 (.eqd .s false) (k3 c7)) 4 (f8 2 c7) (b2 5 (g4 (.bslice (a02 (a08 [h6])) 0 6 []) [] (a4 (w8 6 48 a0 2))))) 2) := ⟨_, by conv => rhs; reduce⟩
end Q
def cf56 : CF := Q.T56.1
set_option maxRecDepth 100000 in
theorem cf56_ok : compF TP Tryz.f56 = some cf56 := by kernel_rfl
end
end Ev
end Go.Proofs.YtogbcielgfidlaaGreatDoor
namespace Go.Proofs.YtogbcielgfidlaaGreatDoor
set_option linter.unusedVariables false
set_option linter.unusedSimpArgs false
namespace Ev
noncomputable section
namespace Q
set_option maxRecDepth 100000 in
def T57 : Was (m6 1 (j0 1 p8 t7 (l2 6 (f4 1 (f7 (k4 c8 1 9 0 9) (q9 112 5 (e4 8 3 4 (n1 1 5 3 2 n7))))) (.b 0 (c0 12 4 (o8 d7 11) (f2 11 (f8 2 u4) (c0 15 3 (k7 .gtr (b9 2000) 14) (d0 14 2 (d4 3)))))) (f8 2 b6))) 2) := ⟨_, by conv => rhs; reduce⟩
end Q
def cf57 : CF := Q.T57.1
set_option maxRecDepth 100000 in
theorem cf57_ok : compF TP Tryz.f57 = some cf57 := by kernel_rfl
namespace Q
set_option maxRecDepth 100000 in
def T58 : Was (i5 1 2 (g7 3 (a19 p4 s6 (i9 (b7 0 (q0 (w9 .pick 6 2)))))) 2) := ⟨_, by conv => rhs; reduce⟩
end Q
def cf58 : CF := Q.T58.1
set_option maxRecDepth 100000 in
theorem cf58_ok : compF TP Tryz.f58 = some cf58 := by kernel_rfl
namespace Q
set_option maxRecDepth 100000 in
def T60 : Was (h9 3 6 (g1 9 (v3 113 d7 a2) (d0 11 6 e8) (l5 13 0 1 (b5 (a16 (.lookup (.one .i) true (.agg (a43 0 0))) a0 (s7 12 (e4 18 6 7 (h7 8 (z7 7 (a43 0 0) []) (a23 2 7 m3 (b4 8))))))) (e2 21 (m0 8 d7 a2) 22 (f8 6 (d4 4)) (c4 23 (g5 7 (a1 2 (k1 .add a0 (n3 1 7 (t6 1 2))))) (e2 28 (g5 7 (m8 (x2 .gtr) b0)) 30 (w0 31 1 (b5 (i8 2 7 (b8 [a41 (.one .i) o3]))) (f8 6 b6)) (l5 37 0 1 (d5 1 (a65 (.delete (.one .i)) a0) []) (w0 42 0 (g2 7 (b8 [a65 (.delete a26) a6])) (w0 48 3 (g2 7 (e7 (.leng .str) (k1 .sub m2 (q6 8 3 a5 (m5 1 3))))) (f8 6 b6))))))))) 6) := ⟨_, by conv => rhs; reduce⟩
end Q
def cf60 : CF := Q.T60.1
set_option maxRecDepth 100000 in
theorem cf60_ok : compF TP Tryz.f60 = some cf60 := by kernel_rfl
namespace Q
set_option maxRecDepth 100000 in
def T61 : Was (i5 1 2 (g7 3 (a36 p4 true s6 (i1 (b7 0 (j3 (.eqd .m true) (k3 (t9 .nilm)) (k9 6 2)))))) 2) := ⟨_, by conv => rhs; reduce⟩
end Q
def cf61 : CF := Q.T61.1
set_option maxRecDepth 100000 in
theorem cf61_ok : compF TP Tryz.f61 = some cf61 := by kernel_rfl
namespace Q
set_option maxRecDepth 100000 in
def T62 : Was (h3 1 2 c7 (e3 6 (f0 (g4 (.mks c8 112) (m1 0) (b4 3))) (a12 9 0 i6 (e0 0 12 12 0 (j1 (k8 13 9 9 (j7 9 5 c8 9 5) (q7 15 3 (f4 5 (a7 28 (f7 (k4 c8 1 9 0 9) (w8 9 112 m2 3)))))) 20 11 11)) (h5 21 3 2))) 2) := ⟨_, by conv => rhs; reduce⟩
end Q
def cf62 : CF := Q.T62.1
set_option maxRecDepth 100000 in
theorem cf62_ok : compF TP Tryz.f62 = some cf62 := by kernel_rfl
namespace Q
set_option maxRecDepth 100000 in
def T63 : Was (n0 2 (a03 4 (k6 0 (l6 1 a5 a5 (j9 1 a5 (g8 2 (a4 (h0 3 (b8 (h4 115 5 b0 (a8 (x3 (.ixsl 1) 0 c9 (e9 (e5 1 (h4 114 13 (g0 9) []))))))))))))))) := ⟨_, by conv => rhs; reduce⟩
end Q
def cf63 : CF := Q.T63.1
set_option maxRecDepth 100000 in
theorem cf63_ok : compF TP Tryz.f63 = some cf63 := by kernel_rfl
namespace Q
set_option maxRecDepth 100000 in
def T70 : Was (n0 2 (e3 9 (h0 3 (h4 115 5 b0 (j8 1 b0 (e9 n7)))) (l5 17 1 4 w1 (g1 21 (j2 10 (f6 4 (.call 98) a0)) (.b 0 (n9 28 (o0 2 e8 27) 27 (c1 29 (a3 26 2 27) 27 (s0 30 26 8 27)) (d6 27 (f5 31 4 (k2 125 a0 (z7 6 c8 []) (g6 9 6)) (c0 34 1 (p3 8 1 i6) (e0 1 40 40 1 (v9 2 (k8 41 2 37 (j7 2 8 e6 2 8) (x9 43 (l3 311 0 (l3 1 2 (g2 8 (j8 9 a6 (g8 9 (f4 6 (b8 (g3 126 (a8 (r4 b3 b0)))))))))) (d6 58 (.r 59 (g5 8 w1))))) 61 39 39))))))) (p1 62 (a1 5 (a06 .nilc 2 (t0 311 (j9 1 (t6 1 4) []))))))))) := ⟨_, by conv => rhs; reduce⟩
end Q
def cf70 : CF := Q.T70.1
set_option maxRecDepth 100000 in
theorem cf70_ok : compF TP Tryz.f70 = some cf70 := by kernel_rfl
namespace Q
set_option maxRecDepth 100000 in
def T71 : Was (n0 2 (d8 8 (b8 (k6 0 (l6 1 a5 a5 (l7 7 a5 (a4 (h0 3 (e5 0 (a52 4 c8 [] (e5 0 (a52 5 (u9 0 0 0 0 (a32 0 0 0 0)) [] (b8 (d3 128 e1 (e5 1 (l4 127 (b1 11 (g0 7)) 7 (i2 (a44 19 12 (i2 (a22 0 13 (.h 2 3) (h7 14 (.h 2 3) (a23 9 4 m3 (c3 3 4 (g6 10 5)))))))))))))))))))))) (e3 22 (h0 6 (d3 117 e1 [])) (.b 0 (d2 35 (g2 5 (g9 b3 (v6 0 0) 34)) 34 (e3 38 (f4 4 (d9 92 a0 6)) (p1 41 (b5 (r2 1 (g8 2 (a1 6 (h4 114 6 a0 []))))))) (l5 49 1 0 (g9 b3 (b9 13) 48) (f2 48 (p1 54 (h0 4 (a06 .nilc 5 (t0 311 (j9 1 (t6 1 4) []))))) (p1 28 (g2 5 (z6 1 5 (g8 9 (h4 129 5 a6 [])))))))))))) := ⟨_, by conv => rhs; reduce⟩
end Q
def cf71 : CF := Q.T71.1
set_option maxRecDepth 100000 in
theorem cf71_ok : compF TP Tryz.f71 = some cf71 := by kernel_rfl
namespace Q
set_option maxRecDepth 100000 in
def T73 : Was (n0 2 (x9 5 (l3 311 0 (l3 1 3 (h0 5 (j8 4 e1 (a54 4 4 (a21 0 0 h6 j4) (b8 (g6 4 4))))))) (e3 20 (g5 4 (d3 130 a6 [])) (.d 24 (a4 (a4 (l3 311 0 (d1 3 4 (h0 0 (a56 17 a5 (h4 44 13 (b1 8 q5) []))))))))))) := ⟨_, by conv => rhs; reduce⟩
end Q
def cf73 : CF := Q.T73.1
set_option maxRecDepth 100000 in
theorem cf73_ok : compF TP Tryz.f73 = some cf73 := by kernel_rfl
namespace Q
set_option maxRecDepth 100000 in
def T77 : Was (n0 2 (f5 4 0 (h0 5 (a06 .nilc 6 (t0 311 (j9 4 (q2 1 h2) (a06 .nilc 8 (t0 311 (j9 3 (t6 1 7) []))))))) (c0 16 1 (p3 5 1 t7) (e0 0 21 21 0 (j1 (.d 22 (e5 0 (k6 0 (l6 0 a5 a5 (l7 310 a5 (b8 (o2 30 (a8 (f7 (k4 (z0 0 []) 1 1 0 1) (e5 1 (y9 1 8 a6 (i2 (w6 .nilc 8 q4 (j9 310 (.h 2 3) (m5 1 3))))))))))))))) 32 20 20))))) := ⟨_, by conv => rhs; reduce⟩
end Q
def cf77 : CF := Q.T77.1
set_option maxRecDepth 100000 in
theorem cf77_ok : compF TP Tryz.f77 = some cf77 := by kernel_rfl
namespace Q
set_option maxRecDepth 100000 in
def T78 : Was (n0 2 (f5 4 0 (a06 .nilc 2 (t0 311 (j9 4 (q2 1 a9) (a06 .nilc 4 (t0 311 (j9 3 (q1 1 b0) [])))))) (.d 12 (a4 (b7 310 (a4 (l3 311 2 (c6 (a05 (.sl 1) true) q5 (q6 11 310 a5 (m5 1 3)))))))))) := ⟨_, by conv => rhs; reduce⟩
end Q
def cf78 : CF := Q.T78.1
set_option maxRecDepth 100000 in
theorem cf78_ok : compF TP Tryz.f78 = some cf78 := by kernel_rfl
namespace Q
set_option maxRecDepth 100000 in
def T79 : Was (n0 2 (e3 6 (r2 54 (c6 (.ixarrp 256 1) b0 (e9 n7))) (l5 11 0 317 (o8 o7 5) (e2 16 (m0 5 b3 b0) 17 (y6 18 0 4 (g3 125 (o4 (o1 (u9 0 0 0 0 (x4 0 0 (u0 0 0 (i0 0 0 (i0 0 0 (i0 0 0 (.nils :: j4)))))))) (a55 0 2 9) 1 a2 (d3 133 e1 []))) .ret) (e3 24 (b7 317 (a1 5 (i4 .sub (j8 5 a6 (g8 5 (t2 9 311 5 3)))))) (e3 35 (b7 317 (a1 5 (i4 .sub (c6 (a05 (.sl 5) true) a6 (t2 8 317 1 3))))) (e3 45 (a7 31 []) (a03 47 (d5 0 r7 (k6 0 (d5 4 (.s 1) (b8 (w6 .nilc 4 a5 (j9 54 (.j 50) (a31 30 [] 2 (a8 (x3 (.ixarrp 256 1) 0 t3 (a25 1 5 (i2 (w6 .nilc 6 q4 (j9 321 (.h 2 3) (m5 1 6)))))))))))))))))))))) := ⟨_, by conv => rhs; reduce⟩
end Q
def cf79 : CF := Q.T79.1
set_option maxRecDepth 100000 in
theorem cf79_ok : compF TP Tryz.f79 = some cf79 := by kernel_rfl
namespace Q
set_option maxRecDepth 100000 in
def T92 : Was (m6 2 (y3 3 n2 c2 (t8 .u64 0 []) (d8 7 (b8 (a4 (b7 10 (f4 3 (b8 (g3 147 (e5 1 (d3 139 (g0 7) [])))))))) (w0 16 10 (f4 3 (b8 (l4 148 a0 15 (a8 (a44 21 6 (a8 (a22 0 7 c9 (h7 8 c9 (u5 5 2 (s7 6 (a8 (c6 .mv (a01 23) [])))))))))))) (h5 24 5 4)))) 4) := ⟨_, by conv => rhs; reduce⟩
end Q
def cf92 : CF := Q.T92.1
set_option maxRecDepth 100000 in
theorem cf92_ok : compF TP Tryz.f92 = some cf92 := by kernel_rfl
namespace Q
set_option maxRecDepth 100000 in
def T93 : Was (n0 3 (w4 4 n2 (l1 1) (d8 6 (k6 0 (d5 0 r7 (k6 0 (i8 16 4 (e5 0 (a1 2 (q6 5 329 a5 (q1 1 (b9 3) :: a8 (w6 .nilc 6 c9 (j9 330 t3 (a25 16 6 (i2 (w6 .nilc 7 q4 (j9 346 (.h 2 3) (m5 1 7))))))))))))))) (a38 17 2 (d6 17 (p1 18 (a50 .nilc 316 (q2 1 a9) []))))))) := ⟨_, by conv => rhs; reduce⟩
end Q
def cf93 : CF := Q.T93.1
set_option maxRecDepth 100000 in
theorem cf93_ok : compF TP Tryz.f93 = some cf93 := by kernel_rfl
namespace Q
set_option maxRecDepth 100000 in
def T94 : Was (h3 2 4 c7 (n8 5 c7 (a12 8 1 i6 (e0 0 11 11 0 (j1 (k8 12 1 8 (e9 (b4 7)) (q7 14 5 (a4 (a1 7 (g3 125 (f7 (k4 c8 1 9 0 9) (w8 9 112 e1 5))))))) 20 10 10)) (h5 21 5 4))) 4) := ⟨_, by conv => rhs; reduce⟩
end Q
def cf94 : CF := Q.T94.1
set_option maxRecDepth 100000 in
theorem cf94_ok : compF TP Tryz.f94 = some cf94 := by kernel_rfl
namespace Q
set_option maxRecDepth 100000 in
def T95 : Was (i5 1 2 (g7 3 (a36 p4 true s6 (i1 (a4 (l3 0 6 (j3 (.eqd .m true) (k3 (t9 .nilm)) (k9 7 2))))))) 2) := ⟨_, by conv => rhs; reduce⟩
end Q
def cf95 : CF := Q.T95.1
set_option maxRecDepth 100000 in
theorem cf95_ok : compF TP Tryz.f95 = some cf95 := by kernel_rfl
namespace Q
set_option maxRecDepth 100000 in
def T96 : Was (n6 1 (w4 2 (w5 (u0 0 0 (r0 s8))) [] (u6 3 (v3 95 d7 a2) 5 (b2 6 (l8 (u0 0 0 (r0 s8)) [] [] (q3 6 2) [])) (g7 7 (r2 0 (t0 0 (g8 6 (k2 21 a2 (q3 6 2) []))))))) 2 6 []) := ⟨_, by conv => rhs; reduce⟩
end Q
def cf96 : CF := Q.T96.1
set_option maxRecDepth 100000 in
theorem cf96_ok : compF TP Tryz.f96 = some cf96 := by kernel_rfl
namespace Q
set_option maxRecDepth 100000 in
def T97 : Was (n0 2 (p1 4 (b5 (o4 c8 (h1 0 3) 2 a2 (d3 129 (a91 3 5 491496043109) []))))) := ⟨_, by conv => rhs; reduce⟩
end Q
def cf97 : CF := Q.T97.1
set_option maxRecDepth 100000 in
theorem cf97_ok : compF TP Tryz.f97 = some cf97 := by kernel_rfl
namespace Q
set_option maxRecDepth 100000 in
def T98 : Was (h9 2 4 (g1 12 (b5 (g3 149 (r4 d7 a2))) (d0 15 4 b6) (c5 17 1 (q9 150 16 (e4 18 2 3 (h7 4 (.j 5) (z9 .mv 19 [] (a10 h8 20) [])))) (a38 21 6 (d0 21 4 e8)) (c5 23 1 (q9 151 22 (e4 24 2 3 (h7 4 (.j 7) (z9 .mv 25 [] (a10 h8 26) [])))) (a38 27 8 (d0 27 4 u4)) (e3 29 (r2 0 (b5 (l4 99 a0 28 (e4 33 5 6 (a24 1 7 (n1 2 8 9 3 (s7 10 (z9 .mv 35 [] (a10 h8 36) [])))))))) (e2 37 (m0 11 d7 a2) 38 (o6 (d4 8)) (b2 39 (o4 (a02 (a08 (a08 e6))) (p7 0 1 (l9 1 1 2 (l9 3 1 4 (u2 5 1 6 7 8)))) 9 (p6 7 (p6 4 (p6 5 (p6 6 (p6 3 (p6 1 (p6 10 (d4 10)))))))) (a1 9 (g9 (.ixarr false 9 1) a0 4))))))))) 4) := ⟨_, by conv => rhs; reduce⟩
end Q
def cf98 : CF := Q.T98.1
set_option maxRecDepth 100000 in
theorem cf98_ok : compF TP Tryz.f98 = some cf98 := by kernel_rfl
namespace Q
set_option maxRecDepth 100000 in
def T99 : Was (r1 2 (y1 4 b6 (v1 h8 c7 a9) (c0 11 1 (q9 152 10 (e4 12 2 3 (a24 1 4 (n1 2 5 7 3 (u5 8 2 t1))))) (f5 16 7 (d9 153 a0 9) (c5 19 6 (s9 (i9 (a1 8 (i3 9 0 (f0 (r5 .geq q5 (u3 8 1 (i3 9 1 (p0 8 1 a0 (q0 (r3 9))))))))))) (d6 39 (y1 4 b6 (v1 h8 c7 a9) .ret)) (k0 41 9 8 (l4 154 a0 40 (e4 43 3 4 (n1 1 5 4 2 w1))) (c5 46 4 (c6 b3 b0 (b5 (a7 155 (a56 1 (.b (.p (.eqd .b true)) m2) [])))) (d6 51 (y1 4 b6 (v1 h8 c7 a9) .ret)) (m4 52 4 (d5 5 (v8 4 2) (a17 5 (k5 6 h2)))))))))) 4 5 (a07 6 [])) := ⟨_, by conv => rhs; reduce⟩
end Q
def cf99 : CF := Q.T99.1
set_option maxRecDepth 100000 in
theorem cf99_ok : compF TP Tryz.f99 = some cf99 := by kernel_rfl
namespace Q
set_option maxRecDepth 100000 in
def T101 : Was (i5 1 2 (l5 12 0 5 (f0 (k7 .sub f1 3)) (g1 18 (j2 0 (a7 33 (s9 (i9 (b7 1 (l0 .lss 1 (u3 6 1 (b7 1 (l0 .gtr 2147483647 (u1 6 1 3 (l0 .lss 0 (u1 3 1 3 (x5 .geq 524288 3))))))))))))) (d0 45 2 a9) (g1 46 (j2 2 (f0 (y4 .gtr (b9 65535) (b7 3 (f0 (l0 .gtr 200 (u3 7 1 (b7 4 (f0 (x5 .gtr 1000 7)))))))))) (d0 67 2 a9) (g1 68 (p3 2 1 i6) (e0 0 74 74 0 (j1 (k8 75 9 71 (j7 9 5 c8 9 5) (f3 77 (f4 5 (v3 22 d7 a2)) 79 (f8 2 a9))) 80 73 73)) (c4 81 (g4 (.mkm false) [] t1) (g1 82 (p3 3 1 i6) (e0 2 88 88 2 (v9 3 (k8 89 4 85 (j7 4 8 (a21 0 0 h6 j4) 4 8) (c4 91 (g2 8 (g5 8 (l8 (a43 0 0) (h1 0 1) a6 (z7 9 (a43 0 0) []) (g6 2 9)))) (e2 96 (g2 8 (a7 33 (s9 (i9 (g5 8 (d3 156 (z4 0 16) (q0 (u3 5 1 (d1 3 8 (a1 3 (h4 156 2 (m1 0) (q0 (u1 6 1 6 (i8 2 9 (a16 (.lookup (.agg [.s, .i]) false h6) a0 (.n :: r3 4)))))))))))))))) 117 (f8 2 a9) (q7 118 6 (i8 2 9 [a41 (.agg [.s, .i]) (a63 2 h2)]))))) 120 87 87)) (g1 121 (p3 4 1 i6) (e0 4 127 127 4 (v9 5 (k8 128 3 124 (j7 3 11 (a02 []) 3 11) (f3 130 (g2 11 (d3 156 (z4 0 16) (s9 (i9 (g5 11 (d3 156 (z4 0 200) (q0 (u3 5 1 (d1 2 11 (a1 3 (h4 156 2 (m1 0) (q0 (r3 6))))))))))))) 146 (f8 2 a9))) 147 126 126)) (f8 2 h2)))))))) 2) := ⟨_, by conv => rhs; reduce⟩
end Q
def cf101 : CF := Q.T101.1
set_option maxRecDepth 100000 in
theorem cf101_ok : compF TP Tryz.f101 = some cf101 := by kernel_rfl
namespace Q
set_option maxRecDepth 100000 in
def T102 : Was (n6 1 (y3 2 (w5 (a02 [])) [] a9 (u6 4 (i4 .lss (i9 (a4 (x5 .gtr 40 3)))) 9 (b2 10 (l8 (a02 []) [] [] (q3 3 2) (k5 3 a9))) (g7 11 (c6 (.ixarrp 41 3) (v7 (.ptr 0 0) a2) (g8 3 (a66 3 2 (k5 3 h2))))))) 2 3 (a07 3 [])) := ⟨_, by conv => rhs; reduce⟩
end Q
def cf102 : CF := Q.T102.1
set_option maxRecDepth 100000 in
theorem cf102_ok : compF TP Tryz.f102 = some cf102 := by kernel_rfl
namespace Q
set_option maxRecDepth 100000 in
def T103 : Was (m6 3 (y3 5 n2 (l1 2) a9 (c4 10 (y2 (.mkf (.func 157) 0) 5 [] 7) (.q (d2 11 (f6 7 .callv f1) 12 (c0 13 1 (l3 1 0 (u7 b3 (b9 3) 1 (a4 (b5 (r2 1 (g8 2 (d3 158 e1 (q0 (r3 8))))))))) (d0 27 6 a9)) (c0 28 1 (r2 1 (g8 2 (l8 e6 [] [] (.b (.r (.eq (.agg [.i, .i]) true)) a0) []))) (d0 33 6 a9))) (c5 34 1 (p3 3 1 i6) (e0 0 40 40 0 (j1 (k8 41 2 37 (j7 2 9 e6 2 9) (e3 43 (i8 2 9 (g3 158 (r4 d7 a2))) (d0 46 6 a9))) 47 39 39)) (v4 2 (.q (d8 49 (h0 3 (f0 (g5 5 (d1 2 5 (b8 (h4 156 5 a6 (a8 (a82 c9 (b4 48))))))))) (f2 48 .skip (.r 60 (h0 6 (d3 156 (z4 0 256) (o8 d7 48)))))) (f2 48 (f8 6 a9) (c5 67 7 (r9 (b9 4) (s9 (i1 (h0 5 (l0 .neq 0 (k9 6 66)))))) (f2 66 .skip (c0 77 7 (r9 (b9 8) (s9 (i1 (h0 7 (r5 .neq (v6 0 0) (k9 6 66)))))) (f2 66 .skip (c0 87 7 (r9 (b9 64) (s9 (i1 (h0 4 (l0 .neq 0 (k9 6 66)))))) (f2 66 .skip (q7 97 7 (r9 (b9 128) (s9 (i1 (h0 6 (l0 .neq 0 (k9 6 66)))))))))))) (f2 66 (f8 6 a9) (c5 108 7 (r9 (b9 16) (s9 (i1 (h0 8 (f0 (l0 .gtr 0 (k9 7 107))))))) (f2 107 .skip (q7 119 7 (r9 (b9 32) (s9 (i1 (h0 9 (f0 (l0 .gtr 0 (k9 7 107))))))))) (d0 107 6 a9)))))) (f8 6 h2)))))) 6) := ⟨_, by conv => rhs; reduce⟩
end Q
def cf103 : CF := Q.T103.1
set_option maxRecDepth 100000 in
theorem cf103_ok : compF TP Tryz.f103 = some cf103 := by kernel_rfl
namespace Q
set_option maxRecDepth 100000 in
def T104 : Was (i5 2 4 (c5 5 1 (p3 0 1 []) (.b 0 (d2 10 (o0 2 (d4 4) 9) 9 (d8 11 (h0 5 (b7 4 (f0 (a28 .sub 1 a5 (h4 156 7 (m1 0) (a8 (i1 (a8 (l6 1 c9 c9 (l7 3 c9 (a8 (x8 o7 c9 (l6 0 c9 c9 (l7 4 c9 (a8 (l6 1 c9 c9 (l7 5 c9 (a8 (v5 3 e1 c9 (l7 1 c9 (a8 (j3 b3 (g0 12) (a8 (f9 .pick (o9 18) c9 n7)))))))))))))))))))))))) .ret) (d2 42 (a3 8 5 41) 41 (t4 43 1 5 (d9 156 (z4 0 254) 4)) (d2 49 (a3 8 9 48) 48 (t4 50 1 5 (d9 156 (z4 0 255) 4)) (n9 56 (a3 8 16 55) 55 (s0 57 8 17 55) (f2 55 (d8 58 (h0 5 (b7 3 (f0 (a28 .sub 1 a5 (h4 156 7 (m1 0) (a8 n7)))))) .ret) (n9 70 (a3 8 15 69) 69 (c1 71 (a3 8 18 69) 69 (c1 72 (a3 8 19 69) 69 (c1 73 (a3 8 20 69) 69 (s0 74 8 21 69)))) (f2 69 (t4 75 1 5 (d9 156 (z4 0 16) 4)) (d2 81 (a3 8 24 80) 80 (t4 82 1 5 (d9 156 (z4 1 8192) 4)) (d2 88 (a3 8 31 87) 87 (t4 89 1 5 (d9 156 (z4 0 3) 4)) (n9 95 (a3 8 32 94) 94 (s0 96 8 33 94) (d6 94 (t4 97 1 5 (u7 b3 f1 1 (h0 5 (s5 8 (w9 .pick 6 4))))))))))))))))) (o6 h2)) 4) := ⟨_, by conv => rhs; reduce⟩
end Q
def cf104 : CF := Q.T104.1
set_option maxRecDepth 100000 in
theorem cf104_ok : compF TP Tryz.f104 = some cf104 := by kernel_rfl
namespace Q
set_option maxRecDepth 100000 in
def T105 : Was (i5 1 2 (l5 5 0 3 (o8 o7 3) (g1 10 (p3 0 1 []) (.b 0 (d2 15 (o0 2 (d4 13) 14) 14 (t4 16 0 7 (u7 b3 (v6 2 32123) 1 (b7 7 (x1 b3 (v6 1 124) 1 (a1 3 (a56 2 (w7 9 false) (j3 .pick (o9 3) (u3 10 1 (b7 7 (z3 .neq (v6 2 11051) (b7 7 (a1 3 (k2 159 a0 (w7 13 false) (j3 .pick (o9 7) (u3 14 1 (b7 7 (a1 3 (g3 160 (s5 1 (w9 .pick 8 2)))))))))))))))))))) (d2 57 (a3 13 14 56) 56 (l5 58 0 7 (a1 3 (d9 160 a0 4)) (t4 64 0 7 (a1 3 (g3 159 (i9 (a1 4 (s5 1 (u1 3 1 4 (s5 2 (w9 .pick 3 2)))))))))) (f3 79 (a3 13 15 78) 78 (w0 80 7 (x1 b3 (v6 1 33) 1 (b7 5 (s5 2 (u7 .pick (o9 6) 1 (b7 7 (b7 5 (b8 (d3 160 e1 (a8 (s5 3 (a8 (f9 .pick (z1 11) c9 (b4 2))))))))))))) .ret))))) (f8 2 h2))) 2) := ⟨_, by conv => rhs; reduce⟩
end Q
def cf105 : CF := Q.T105.1
set_option maxRecDepth 100000 in
theorem cf105_ok : compF TP Tryz.f105 = some cf105 := by kernel_rfl
namespace Q
set_option maxRecDepth 100000 in
def T106 : Was (i5 2 4 (c5 10 1 (j2 0 (x1 b3 (b9 12) 1 (h0 8 (f0 (d3 156 (z4 1 1000) (q0 (u7 .pick (o9 8) 1 (h0 9 (f0 (x5 .gtr 60 7)))))))))) (d0 31 4 a9) (c5 32 1 (p3 8 1 i6) (e0 0 38 38 0 (j1 (c4 39 (c6 .mv c2 (a61 2 35 (l1 37) (a54 2 6 e6 (u5 5 3 (g6 2 6))))) (.q (d8 42 (g2 6 (b7 2 (f0 (a28 .sub 1 a5 (h4 156 7 (m1 0) (a8 (r4 d7 a2))))))) (d0 51 4 a9)) (.q (w0 52 2 (g2 6 (j8 9 a6 (j9 0 (y5 1 a2) []))) (.b 2 (n9 62 (o0 2 e8 61) 61 (c1 63 (a3 60 2 61) 61 (s0 64 60 8 61)) (f2 61 .skip (o6 a9))))) (d8 65 (a1 5 (z3 .gtr b0 (b7 2 (h0 8 (a1 5 (i4 .sub (j8 2 a6 (a18 0 (j8 9 (g0 10) (g8 9 (b7 2 (g2 6 (j8 9 a6 (g8 9 (b8 (d3 161 (g0 9) (a8 (q0 (a8 (a14 .pick 26)))))))))))))))))))) (d0 93 4 a9))))) 94 37 37)) (c5 95 1 (p3 9 1 i6) (e0 3 101 101 3 (v9 4 (k8 102 6 98 (j7 6 8 (a02 (a08 [h6])) 6 8) (c4 104 (z6 3 8 (g8 2 (p5 e6 [] [] (a36 (.agg [.i, .i]) true a0 (b4 9))))) (f3 108 (g2 8 (d3 156 (z4 1 3) (s9 (i9 (a4 (z6 1 8 (g8 2 (d3 158 a6 (q0 (u1 6 1 9 (i1 (a4 (z6 3 8 (g8 2 (d3 158 a6 (a83 d7 8 (j3 .pick (o9 6) (u3 9 1 (d1 5 8 (i1 (g2 8 (a28 .neq 1 (w7 7 false) (j3 .pick (o9 4) (r3 8)))))))))))))))))))))))) 137 (o6 a9)))) 138 100 100)) (o6 h2)))) 4) := ⟨_, by conv => rhs; reduce⟩
end Q
def cf106 : CF := Q.T106.1
set_option maxRecDepth 100000 in
theorem cf106_ok : compF TP Tryz.f106 = some cf106 := by kernel_rfl
namespace Q
set_option maxRecDepth 100000 in
def T107 : Was (m6 3 (y3 5 n2 (l1 2) a9 (w0 11 5 (a15 1 10 a0 (b7 5 (f0 (a28 .sub 1 (v8 7 7) (b4 8))))) (c5 23 7 (p3 0 1 []) (.b 0 (n9 28 (o0 2 (d4 39) 27) 27 (s0 29 26 40 27) (d6 27 (d8 30 (i3 7 4 (k6 8 (h4 156 2 (m1 0) (a8 (i1 (a8 (l6 0 c9 c9 (l7 5 c9 (a8 (l6 7 c9 c9 (l7 4 c9 (a8 (v5 10 e1 c9 (l7 0 c9 (a8 (s5 37 (a8 (f9 .pick (o9 13) c9 t1)))))))))))))))))) .ret)))) (c5 50 7 (p3 8 1 i6) (e0 1 56 56 1 (v9 2 (k8 57 2 53 (j7 2 10 e6 2 10) (f3 59 (g5 10 (b5 (i4 .add (a1 8 (h4 156 4 a0 (r4 d7 a2)))))) 65 (f8 6 a9))) 66 55 55)) (b2 67 (g2 5 (k1 .and (b9 64) (u7 b3 b0 1 (i3 7 4 (b5 (i4 .add (a1 8 (k2 156 (a42 4) .n (w9 .pick 9 6)))))))))))))) 6) := ⟨_, by conv => rhs; reduce⟩
end Q
def cf107 : CF := Q.T107.1
set_option maxRecDepth 100000 in
theorem cf107_ok : compF TP Tryz.f107 = some cf107 := by kernel_rfl
namespace Q
set_option maxRecDepth 100000 in
def T108 : Was (n0 2 (u6 8 (j2 0 (m8 (.r (.eq p4 false)) s6)) 12 (f5 13 0 (b5 (b5 (f7 (k4 [.nilp] 1 1 0 1) (a57 5 0 1 5 (t2 6 1 1 5))))) .ret) (n8 4 a9 (g1 22 (p3 1 1 i6) (e0 0 28 28 0 (j1 (k8 29 1 25 (e9 t1) (k0 31 1 6 (d9 162 a0 7) (c0 34 4 (i9 (a1 7 (s5 0 (w9 .pick 3 4)))) (c0 39 7 (z3 .neq b0 (b7 2 (u7 b3 b0 1 (a1 7 (b7 2 (f9 (.bin .lss) e1 (w7 13 true) (j3 .pick (z1 7) (a14 .pick 14)))))))) (d6 55 (p1 56 (a1 7 (t2 2 2 1 3)))))))) 60 27 27)) (e2 61 (m0 4 d7 a2) 62 (p1 63 (b7 1 (b5 (f7 (k4 [.nilp] 1 1 0 1) (y9 1 8 a6 (t2 8 1 1 3)))))) (l5 73 0 2 (r4 b3 b0) (d6 77 (p1 78 (b7 0 (b5 (g3 163 (t2 7 0 1 3)))))))))))) := ⟨_, by conv => rhs; reduce⟩
end Q
def cf108 : CF := Q.T108.1
set_option maxRecDepth 100000 in
theorem cf108_ok : compF TP Tryz.f108 = some cf108 := by kernel_rfl
namespace Q
set_option maxRecDepth 100000 in
def T109 : Was (h3 1 2 n4 (g7 3 (a7 164 (o4 (o1 (r0 (a09 h6 e6))) (h1 0 1) (-1) a2 (f7 .box (b4 2))))) 2) := ⟨_, by conv => rhs; reduce⟩
end Q
def cf109 : CF := Q.T109.1
set_option maxRecDepth 100000 in
theorem cf109_ok : compF TP Tryz.f109 = some cf109 := by kernel_rfl
namespace Q
set_option maxRecDepth 100000 in
def T110 : Was (h3 0 0 c7 (b2 1 (x6 [.nilf] 0 1 (a04 165) (x6 [.nilf] 0 1 (a04 166) (x6 [.nilf] 0 1 (a04 167) (x6 [.nilf] 0 1 (a04 168) (x6 [.nilf] 0 1 (a04 170) (x6 [.nilf] 0 1 (a04 172) (g4 (.bslice [.nilf] 6 1 (l9 0 1 1 (u2 2 1 3 4 5))) (b1 6 (b1 5 (b1 4 o3))) (b4 0))))))))) 0) := ⟨_, by conv => rhs; reduce⟩
end Q
def cf110 : CF := Q.T110.1
set_option maxRecDepth 100000 in
theorem cf110_ok : compF TP Tryz.f110 = some cf110 := by kernel_rfl
namespace Q
set_option maxRecDepth 100000 in
def T111 : Was (h9 3 6 (l5 14 0 0 (j2 5 (b5 (g9 (.ixsl 10) a0 7))) (y6 24 2 7 (l4 174 o3 23 (e4 27 4 5 (n1 1 6 8 2 (b4 9)))) (g1 30 (j2 0 (j2 5 (a33 1 (.call 175) a0 i6))) (e0 0 41 41 0 (j1 (k8 42 1 38 (e9 (a52 11 j4 [] (g6 1 11))) (.b 2 (d8 45 (i7 11 (b5 (i4 .add (y4 .gtr a6 (i7 11 (b5 (i4 .add (x1 b3 a6 1 (i3 7 4 (i7 11 (x1 b3 a0 1 (i3 7 0 (a28 .neq 28 (w7 13 true) (u7 .pick (o9 6) 1 (i3 7 8 (a75 (.mkf (.func 177) 0) 11 a5 (k2 176 a0 (w7 21 true) (a8 (f9 .pick (z1 7) (w7 27 false) (a8 (j3 .pick (o9 22) (a8 (f9 .pick (z1 28) c9 (b4 44)))))))))))))))))))))))) (f2 44 (.d 78 (b7 1 (i7 11 (j8 3 a0 (k6 9 (g3 108 [])))))) (f3 87 (i7 11 (b5 (k7 .leq a0 86))) 86 (f5 90 2 (i7 11 (d9 178 o3 12)) (f3 94 (f6 12 o5 b0) 95 (h5 96 12 6)))))))) 97 40 40)) (c5 98 2 (j2 3 (o8 o7 13)) (c0 103 13 (z3 .gtr b0 (i3 7 0 (k2 173 a2 .n (a14 .pick 6)))) (d6 111 (a03 112 (l6 0 a5 a5 (l7 1 a5 (b8 (l6 2 a5 a5 (l7 3 a5 (b8 (k6 13 (a28 .sub 1 a5 (v5 1 a6 a5 (e9 (b8 (v5 3 (g0 9) a5 (l6 2 a5 a5 (l7 0 a5 (y0 1 (l6 2 a5 a5 (l7 2 a5 (b8 (l6 2 a5 a5 (l7 3 a5 (b8 (k6 13 (a28 .sub 1 a5 (f9 (a05 (.sl 1) true) a6 (.j 129) (a31 164 u4 11 (a8 (l8 (o1 (r0 (a09 h6 e6))) (u2 0 1 1 2 3) (b1 13 (b1 12 (g0 8))) c9 (f7 .box (e5 1 (d3 108 (g0 19) []))))))))))))))))))))))))))))))))) (c5 144 7 (j2 0 (v3 179 d7 a2)) (d0 149 6 b6) (c5 150 1 (i4 .add (b7 0 (j2 5 (a13 o7 (.p b3) (g0 9) [])))) (d0 160 6 (d4 185)) (l5 161 0 1 (b5 (i4 .add (j8 3 a6 (a1 8 (g3 108 []))))) (f8 6 b6)))))))) 6) := ⟨_, by conv => rhs; reduce⟩
end Q
def cf111 : CF := Q.T111.1
set_option maxRecDepth 100000 in
theorem cf111_ok : compF TP Tryz.f111 = some cf111 := by kernel_rfl
namespace Q
set_option maxRecDepth 100000 in
def T112 : Was (r1 1 (m9 2 b6 a9 (c4 8 (o2 180 (e7 (.build (.nilf :: a67 (p9 j4)) (a39 0 11)) (f7 .box n7))) (c0 11 4 (o8 (.mkf (.func 181) 1) 5) (a12 13 0 i6 (e0 0 16 16 0 (j1 (k8 17 9 13 (j7 9 7 c8 9 7) (c0 19 5 (f4 7 (r9 a0 (r4 d7 a2))) (d6 22 (m9 2 b6 a9 .ret)))) 23 15 15)) (t4 24 4 11 (a17 2 (k5 3 h2))))))) 2 3 []) := ⟨_, by conv => rhs; reduce⟩
end Q
def cf112 : CF := Q.T112.1
set_option maxRecDepth 100000 in
theorem cf112_ok : compF TP Tryz.f112 = some cf112 := by kernel_rfl
namespace Q
set_option maxRecDepth 100000 in
def T113 : Was (i5 1 2 (g7 3 (a36 p4 true s6 (i1 (b7 0 (j3 (.eqd .m true) (k3 (t9 .nilm)) (k9 6 2)))))) 2) := ⟨_, by conv => rhs; reduce⟩
end Q
def cf113 : CF := Q.T113.1
set_option maxRecDepth 100000 in
theorem cf113_ok : compF TP Tryz.f113 = some cf113 := by kernel_rfl
namespace Q
set_option maxRecDepth 100000 in
def T114 : Was (n0 3 (a84 4 n2 (l1 1) (f3 6 (c6 (.fa 0) c2 (e9 (r4 b3 (b9 2)))) 8 (d8 9 (d5 0 (.s 1) (b8 (j6 1 4 a5 (b8 (d5 2 (.j 10) (a31 182 a2 3 (a8 (v5 1 (b1 4 m3) t3 (m5 1 2))))))))) .ret)) (.d 15 (a4 (g5 4 (a1 2 (a06 .nilc 4 (t0 54 (f9 (.ixarrp 256 1) (k3 (m7 4)) a5 (m5 1 4)))))))))) := ⟨_, by conv => rhs; reduce⟩
end Q
def cf114 : CF := Q.T114.1
set_option maxRecDepth 100000 in
theorem cf114_ok : compF TP Tryz.f114 = some cf114 := by kernel_rfl
namespace Q
set_option maxRecDepth 100000 in
def T115 : Was (h3 3 6 c7 (a12 14 1 i6 (e0 0 17 17 0 (j1 (k8 18 2 14 (j7 2 8 e6 2 8) (e3 21 (i8 2 8 (l4 183 a0 20 (e4 23 3 4 (h7 5 (z7 9 c8 []) (a23 9 9 m3 (b4 10)))))) (a38 26 10 (d6 26 (a03 27 (a1 2 (b7 10 (f4 9 (b8 (g3 147 (a8 (f9 a58 (g0 7) c9 (b4 2))))))))))))) 35 16 16)) (f5 36 2 (g3 139 []) (n8 11 c7 (a12 39 1 i6 (e0 2 42 42 2 (v9 3 (k8 43 2 39 (j7 2 13 e6 2 13) (q7 45 11 (a4 (i8 2 13 (g3 184 (f7 (k4 (z0 0 []) 1 1 0 1) (w8 1 8 e1 11))))))) 51 41 41)) (h5 52 11 6))))) 6) := ⟨_, by conv => rhs; reduce⟩
end Q
def cf115 : CF := Q.T115.1
set_option maxRecDepth 100000 in
theorem cf115_ok : compF TP Tryz.f115 = some cf115 := by kernel_rfl
namespace Q
set_option maxRecDepth 100000 in
def T117 : Was (n0 2 (c4 5 (y2 .mv 1 [] 4) (a27 0 (n9 6 (f9 .mv c2 (.b x0 (b9 256)) []) 7 (.x 0) (a29 1 (a03 10 (k6 0 (d5 4 (.s 1) (b8 (w6 .nilc 3 a5 (j9 54 (.j 12) (a31 30 [] 2 (a8 (f9 (.ixarrp 256 1) (k3 (m7 4)) t3 (m5 1 4)))))))))) 8 (a1 4 (s1 f1 4))))))) := ⟨_, by conv => rhs; reduce⟩
end Q
def cf117 : CF := Q.T117.1
set_option maxRecDepth 100000 in
theorem cf117_ok : compF TP Tryz.f117 = some cf117 := by kernel_rfl
namespace Q
set_option maxRecDepth 100000 in
def T125 : Was (n6 2 (w4 4 v2 [] (l5 8 0 10 (b5 (l4 196 a0 7 (e4 13 6 7 (h7 8 (z7 5 c8 []) (a23 9 5 m3 (s7 6 (c6 .mv (a01 15) []))))))) (b2 16 (f4 5 (g6 9 4))))) 4 9 []) := ⟨_, by conv => rhs; reduce⟩
end Q
def cf125 : CF := Q.T125.1
set_option maxRecDepth 100000 in
theorem cf125_ok : compF TP Tryz.f125 = some cf125 := by kernel_rfl
namespace Q
set_option maxRecDepth 100000 in
def T126 : Was (m6 2 (j0 2 c2 (a30 n2 c2) (d8 7 (f4 2 (y0 1 (f4 3 (x7 8 22 a2 1 (e5 1 (a7 22 (i2 (u5 5 3 (i2 t1))))))))) (v4 0 (c0 12 5 (i1 (d5 6 .n (k9 2 11))) (f2 11 (b2 16 (f4 2 (f4 3 (d9 197 a0 4)))) (d2 20 (y2 .mv 5 [] 19) 19 (o6 e8) (f3 22 (y2 .mv 6 [] 21) 21 (o6 (d4 (-1))))))) a00))) 4) := ⟨_, by conv => rhs; reduce⟩
end Q
def cf126 : CF := Q.T126.1
set_option maxRecDepth 100000 in
theorem cf126_ok : compF TP Tryz.f126 = some cf126 := by kernel_rfl
namespace Q
set_option maxRecDepth 100000 in
def T127 : Was (n6 3 (a45 6 v2 [] (m8 (w5 (u9 0 0 0 0 (a32 0 0 0 0))) []) (w4 8 v2 [] (n8 9 b6 (z5 10 1 (.b 0 (d2 21 (q8 10 2 32123 20) 20 (q7 23 2 (q9 198 22 (e4 24 2 3 (h7 4 (w3 9 8 m3) (b4 9))))) (d2 28 (q8 10 1 124 27) 27 (.d 30 (a15 2 9 b0 (g8 9 (a15 2 9 f1 (g8 9 (b8 (l4 199 m2 29 (a8 (a44 36 7 (a8 (a22 0 8 t3 (h7 9 t3 (a23 9 8 m3 (i2 (b4 9))))))))))))))) (g7 11 (r2 0 (g8 9 (b5 (a1 2 (h4 200 3 a0 (e7 (.ext 0) (h7 2 (w3 9 6 m3) (g6 10 7)))))))))))) (e2 39 (f6 9 o5 b0) 40 (b2 41 (p5 c8 [] [] (o4 c8 (h1 0 3) 2 (a70 12) (l8 (u9 0 0 0 0 (a32 0 0 0 0)) (a55 0 1 9) (v7 (.str 5 491496043109) a2) (w3 9 6 (m7 3)) (g6 10 7))))) (b2 44 (f4 8 (l8 (u9 0 0 0 0 (a32 0 0 0 0)) [] [] (w3 9 6 m3) (g6 10 7))))))))) 6 9 (a59 7 10 [])) := ⟨_, by conv => rhs; reduce⟩
end Q
def cf127 : CF := Q.T127.1
set_option maxRecDepth 100000 in
theorem cf127_ok : compF TP Tryz.f127 = some cf127 := by kernel_rfl
namespace Q
set_option maxRecDepth 100000 in
def T128 : Was (h3 2 4 c7 (n8 5 c7 (a12 8 1 i6 (e0 0 11 11 0 (j1 (k8 12 2 8 (j7 2 7 e6 2 7) (q7 14 5 (a4 (i8 2 7 (g3 141 (f7 (k4 c8 1 9 0 9) (w8 9 112 e1 5))))))) 20 10 10)) (h5 21 5 4))) 4) := ⟨_, by conv => rhs; reduce⟩
end Q
def cf128 : CF := Q.T128.1
set_option maxRecDepth 100000 in
theorem cf128_ok : compF TP Tryz.f128 = some cf128 := by kernel_rfl
namespace Q
set_option maxRecDepth 100000 in
def T129 : Was (n0 3 (w4 5 n2 (l1 2) (l5 8 0 318 (o8 o7 6) (e2 13 (m0 6 b3 b0) 14 (f5 15 1 (f4 5 (o4 (o1 (u9 0 0 0 0 (x4 0 0 (u0 0 0 (i0 0 0 (i0 0 0 (i0 0 0 (.nils :: j4)))))))) (p7 0 1 (a55 1 2 9)) 2 a0 (d3 133 m2 []))) .ret) (l5 20 0 318 (a1 6 (i4 .sub (j8 2 a6 (j7 2 7 e6 2 7)))) (e3 28 (b7 318 (a1 6 (i4 .sub (c6 (a05 (.sl 2) true) a6 (t2 8 318 1 3))))) (.q (d8 38 (g2 7 (b7 317 (a13 o7 x0 q5 []))) (d6 45 (x9 46 (b7 317 (g2 7 (j8 5 a6 (g8 5 (q6 9 311 a5 (m5 5 3)))))) (.d 57 (a4 (b7 317 (g2 7 (c6 (a05 (.sl 5) true) a6 (q6 8 317 a5 (m5 1 3)))))))))) (x9 67 (b7 310 (a4 (l3 311 2 (a4 (l3 311 3 (k1 .add q5 (c6 (a05 (.sl 1) true) (g0 12) (q6 17 310 a5 (m5 1 3))))))))) (e3 86 (a7 31 []) (f5 88 0 (a4 (o2 30 (o2 30 (q6 5 319 (q2 1 c7) (a57 6 320 1 6 (t2 7 321 1 7)))))) (d8 99 (b8 (a4 (a4 (d5 1 (.s 1) (b8 (w6 .nilc 4 a5 (j9 54 (.j 102) (a31 201 a0 2 (a8 (x3 (.ixarrp 256 1) 0 t3 (m5 1 4))))))))))) (d8 106 (b8 (a4 (a4 (f4 5 (y0 1 (w6 .nilc 4 a5 (j9 54 (.j 109) (a31 92 a0 2 (a8 (x3 (.ixarrp 256 1) 1 t3 (m5 1 4))))))))))) (p1 113 (a4 (a4 (g5 7 (a06 .nilc 5 (t0 311 (j9 1 (t6 1 4) (q6 7 316 (q2 1 h2) (q6 8 329 (q1 1 f1) []))))))))))))))))))))) := ⟨_, by conv => rhs; reduce⟩
end Q
def cf129 : CF := Q.T129.1
set_option maxRecDepth 100000 in
theorem cf129_ok : compF TP Tryz.f129 = some cf129 := by kernel_rfl
namespace Q
set_option maxRecDepth 100000 in
def T130 : Was (n0 2 (p1 4 (a4 (r2 54 (b5 (c6 (a05 (.arr 256 1) true) a0 (a7 202 (t2 7 319 1 3)))))))) := ⟨_, by conv => rhs; reduce⟩
end Q
def cf130 : CF := Q.T130.1
set_option maxRecDepth 100000 in
theorem cf130_ok : compF TP Tryz.f130 = some cf130 := by kernel_rfl
namespace Q
set_option maxRecDepth 100000 in
def T133 : Was (n0 2 (w4 3 n2 c2 (d8 4 (k6 0 (d5 0 r7 (k6 0 (i8 16 3 (q6 4 329 a5 (q1 1 b0 :: a8 (w6 .nilc 5 c9 (j9 330 t3 (a25 16 5 (i2 (w6 .nilc 6 q4 (j9 316 (.h 2 3) [q2 1 a9])))))))))))) (f5 14 0 (a4 (a4 (q6 4 317 (q2 1 c7) (q6 5 318 (q2 1 c7) (q6 6 310 (q2 1 c7) (q6 7 319 (q2 1 c7) [])))))) (p1 26 (a4 (o2 30 (o2 30 (a57 4 320 1 4 (t2 5 321 1 5)))))))))) := ⟨_, by conv => rhs; reduce⟩
end Q
def cf133 : CF := Q.T133.1
set_option maxRecDepth 100000 in
theorem cf133_ok : compF TP Tryz.f133 = some cf133 := by kernel_rfl
namespace Q
set_option maxRecDepth 100000 in
def T138 : Was (n6 1 (w4 2 v2 [] (g7 3 (l8 c8 (h1 0 1) (m1 1) (q3 9 2) []))) 2 9 []) := ⟨_, by conv => rhs; reduce⟩
end Q
def cf138 : CF := Q.T138.1
set_option maxRecDepth 100000 in
theorem cf138_ok : compF TP Tryz.f138 = some cf138 := by kernel_rfl
namespace Q
set_option maxRecDepth 100000 in
def T139 : Was (n0 2 (j0 2 c2 (m8 n2 c2) (.r 4 (a85 1 c2 (a76 (.mkf (.func 210) 0) 2 c2 (g3 209 [])))))) := ⟨_, by conv => rhs; reduce⟩
end Q
def cf139 : CF := Q.T139.1
set_option maxRecDepth 100000 in
theorem cf139_ok : compF TP Tryz.f139 = some cf139 := by kernel_rfl
namespace Q
set_option maxRecDepth 100000 in
def T141 : Was (n6 2 (j0 3 c2 (m8 v2 []) (g1 8 (i8 2 3 (l4 183 a0 7 (e4 10 3 4 (h7 5 (z7 5 c8 []) (a23 9 5 m3 t1))))) (a38 13 6 (d6 13 (b2 14 (f4 5 (g6 9 4))))) (f5 15 0 (i8 2 3 (g3 184 (k2 125 m2 (q3 9 4) []))) .ret))) 4 9 []) := ⟨_, by conv => rhs; reduce⟩
end Q
def cf141 : CF := Q.T141.1
set_option maxRecDepth 100000 in
theorem cf141_ok : compF TP Tryz.f141 = some cf141 := by kernel_rfl
namespace Q
set_option maxRecDepth 100000 in
def T147 : Was (m6 2 (j0 3 c2 t7 (e2 5 (a73 9 c2 (v3 22 d7 a2)) 7 a00 (b2 8 (f4 3 (a7 223 n7))))) 4) := ⟨_, by conv => rhs; reduce⟩
end Q
def cf147 : CF := Q.T147.1
set_option maxRecDepth 100000 in
theorem cf147_ok : compF TP Tryz.f147 = some cf147 := by kernel_rfl
namespace Q
set_option maxRecDepth 100000 in
def T148 : Was (r1 2 (j0 3 c2 (a30 h8 (t8 .u64 0 [])) (v4 0 (e3 7 (a7 185 (o8 d7 6)) (f2 6 (m9 4 (t8 .u64 0 []) e8 .ret) (d2 11 (f4 3 (a7 22 (o8 d7 10))) 10 (m9 4 (t8 .u64 0 []) u4 .ret) (d8 15 (d5 0 (.s 1) (b8 (f4 3 (x7 16 188 a2 1 (e5 1 (a7 223 (i2 (f9 (.bin .lss) a6 q4 (b4 14))))))))) (d6 14 (m9 4 (t8 .u64 0 []) (d4 5) .ret)))))) (g7 20 (f4 3 (g3 224 (a17 4 (k5 5 b6))))))) 4 5 []) := ⟨_, by conv => rhs; reduce⟩
end Q
def cf148 : CF := Q.T148.1
set_option maxRecDepth 100000 in
theorem cf148_ok : compF TP Tryz.f148 = some cf148 := by kernel_rfl
namespace Q
set_option maxRecDepth 100000 in
def T149 : Was (i5 2 4 (g1 7 (a7 185 (s9 (i9 (a4 (r2 0 (b5 (g3 225 (q0 (r3 7))))))))) (d0 17 4 a9) (c0 19 1 (q9 151 18 (e4 20 2 3 (n1 1 4 5 2 t1))) (m4 23 6 (s9 (i9 (a1 5 (b7 6 (a7 226 (r5 .lss q5 (w9 .pick 8 4)))))))))) 4) := ⟨_, by conv => rhs; reduce⟩
end Q
def cf149 : CF := Q.T149.1
set_option maxRecDepth 100000 in
theorem cf149_ok : compF TP Tryz.f149 = some cf149 := by kernel_rfl
namespace Q
set_option maxRecDepth 100000 in
def T150 : Was (r1 1 (m9 2 b6 a9 (u6 4 (a7 227 (m8 o5 (b9 3))) 6 (m9 2 b6 a9 .ret) (g7 7 (e7 (.toInt .i64) (a68 (.bin .shr) (p2 .u64 4) 2 (k5 3 h2)))))) 2 3 []) := ⟨_, by conv => rhs; reduce⟩
end Q
def cf150 : CF := Q.T150.1
set_option maxRecDepth 100000 in
theorem cf150_ok : compF TP Tryz.f150 = some cf150 := by kernel_rfl
namespace Q
set_option maxRecDepth 100000 in
def T151 : Was (r1 1 (m9 2 b6 a9 (u6 4 (a7 227 (y4 .neq (b9 7) (a4 (w2 .shr .u64 4 (r5 .gtr (p2 .u64 2147483647) (r3 4)))))) 11 (m9 2 b6 a9 .ret) (g7 12 (w2 .shr .u64 4 (a92 (.toInt .i64) 2 (k5 3 h2)))))) 2 3 []) := ⟨_, by conv => rhs; reduce⟩
end Q
def cf151 : CF := Q.T151.1
set_option maxRecDepth 100000 in
theorem cf151_ok : compF TP Tryz.f151 = some cf151 := by kernel_rfl
end
end Ev
end Go.Proofs.YtogbcielgfidlaaGreatDoor
