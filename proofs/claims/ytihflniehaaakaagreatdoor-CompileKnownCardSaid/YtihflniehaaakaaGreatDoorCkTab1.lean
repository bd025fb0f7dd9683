/-
  The functions of the program, compiled (printed by a program of ours; each is held against the program's own text below).
-/
import Derived.Test.YtihflniehaaakaaGreatDoorCkQ
namespace Go.Proofs.YtihflniehaaakaaGreatDoor
set_option linter.unusedVariables false
set_option linter.unusedSimpArgs false
namespace Ev
noncomputable section
namespace Q
set_option maxRecDepth 100000 in
def T3 : Was (v3 0 0 (e4 12 (v8 5 (b13 42) (a4 4 (o5 11 13 2 (o6 0 3 1 4 (r0 1 (q6 (p9 [])) (y9 6 1 d4)))))) (b4 16 2 (j8 .neq (h2 (b2 6 1 (a4 6 (x8 (t5 .pick 4 n3)))))) (j1 22 0 e5) (e4 23 (v8 8 [] (r9 (a92 .nils []) [] [] (k2 b6 b3 (f9 7 3 v4)))) (b0 27 3 (f3 9 1 (c7 9)) (b0 29 3 (v8 11 (c7 5) (n6 p3 1 9 9 (f3 10 3 (u1 1 109 (x2 (.str 1 102)))))) (a14 33 3 12 [] (b0 35 3 (b2 6 1 (n0 13 2)) (a14 38 3 12 (t6 4 (a36 a1 (a53 a1 (a04 .nils a1 a1 (q1 a1 a1 a6 [])))) 16 4) (e4 41 (v8 5 (b39 58) (a4 4 (o5 40 42 2 (o6 0 3 1 4 (r0 5 (q6 (p9 [])) (y9 6 5 m0)))))) (h9 45 (e2 4 (p4 .neq (h2 (j4 2 4 (o0 1 1 (h6 .neq 5 (u8 5 (n5 6 .neq 1 a2 (u8 3 (i9 2 5 (p4 .lss (u8 5 (b2 6 5 (a4 6 (x8 (t5 .pick 4 n3)))))))))))))))) 68 (q0 0) (e4 69 (v8 8 [] (r9 (a92 .nils []) [] [] (k2 b6 b3 (f9 7 3 v4)))) (b0 73 3 (f3 9 1 (c7 1001)) (b0 75 3 (v8 11 (c7 1000) (n6 p3 1 9 9 (f3 10 3 (u1 1 109 (x2 (.str 1 102)))))) (a14 79 3 12 [] (b0 81 3 (b2 6 5 (n0 13 2)) (a14 84 3 12 (f5 16 4) (e4 87 (v8 5 (b38 57) (a4 4 (o5 86 88 2 (o6 0 3 1 4 (r0 7 (q6 (p9 [])) (y9 6 7 w3)))))) (e4 92 (v8 5 (h0 45 423485358582156469441560447573816553947842220484722443081123183176413111437834865235756904197463645394791725) (a4 4 (o5 91 93 2 (o6 0 3 1 4 (z6 9 (k2 (o1 (q6 (p9 []))) [] (x7 6 (a80 94 []) (n2 d0 (a80 95 []))))))))) (p2 96 0 4 (i0 1 (e8 (j4 2 4 (o0 3 1 (q9 .eql 1 (h0 4 1701736292) (f4 5 (e8 (n5 8 .eql 1 a2 (l9 3 1 4 7 (c6 (i0 1 (l9 5 1 4 7 (v7 3 1 a2 (o0 0 1 (i0 1 (l9 7 1 4 7 (v7 3 1 a2 (o0 1 1 (i0 1 (f4 7 (e8 (n7 10 .eql 120 (f4 3 (e8 (v8 14 [] (f4 2 (c5 0)))))))))))))))))))))))))))))))))))))))))))))) 0) := ⟨_, by conv => rhs; reduce⟩
end Q
def cf3 : CF := Q.T3.1
set_option maxRecDepth 100000 in
theorem cf3_ok : compF TP Tryz.f3 = some cf3 := by kernel_rfl
namespace Q
set_option maxRecDepth 100000 in
def T4 : Was (a45 1 (t7 1 b6 w4 (z0 (o1 (q6 (p9 []))) []) (h9 6 (b2 4 1 (a4 15 k0)) 8 (g0 9 (r9 (q6 (p9 [])) [] [] (a05 6 2 b3 3 (c7 120)))) (a22 10 3 1 (k9 16 (u2 17 [] []) (m1 3 1 1 f1)) (e4 15 (v8 20 (a59 1 e5) (o5 14 15 1 (o6 0 2 1 3 (r0 4 (q6 (p9 [])) (y9 6 4 p7))))) (b4 18 5 k0 (c8 19 (.r 21 (v8 20 (a59 1 d5) (o5 20 21 1 (o6 0 2 1 3 (a65 6 4 f1)))))) (a15 24 6 4 (a05 6 2 b3 3 a2))))))) 2 6 (x9 3 [])) := ⟨_, by conv => rhs; reduce⟩
end Q
def cf4 : CF := Q.T4.1
set_option maxRecDepth 100000 in
theorem cf4_ok : compF TP Tryz.f4 = some cf4 := by kernel_rfl
namespace Q
set_option maxRecDepth 100000 in
def T5 : Was (r1 1 (s0 2 (q1 a1 a6 .nils []) (l3 7 21 (o5 6 8 2 (v9 0 3 (o6 1 4 2 5 (r0 3 (q1 a1 a6 .nils []) (w9 4 3 s1 (z6 4 (a56 10 [] (a56 11 [] [])))))))) (a15 12 4 3 (f5 4 2)))) 2 4) := ⟨_, by conv => rhs; reduce⟩
end Q
def cf5 : CF := Q.T5.1
set_option maxRecDepth 100000 in
theorem cf5_ok : compF TP Tryz.f5 = some cf5 := by kernel_rfl
namespace Q
set_option maxRecDepth 100000 in
def T6 : Was (s7 1 1 (a31 b6 1 e5) (e4 6 (b2 6 1 (a4 22 (o5 5 7 2 (o6 0 3 1 4 (z6 3 (a56 8 [] (n2 d0 (a80 9 [])))))))) (d7 10 4 (r2 d4))) 2) := ⟨_, by conv => rhs; reduce⟩
end Q
def cf6 : CF := Q.T6.1
set_option maxRecDepth 100000 in
theorem cf6_ok : compF TP Tryz.f6 = some cf6 := by kernel_rfl
namespace Q
set_option maxRecDepth 100000 in
def T7 : Was (z1 2 (t7 2 b6 e6 (g1 1 (n2 d0 (a23 .nilp))) (e4 6 (b2 9 2 (s8 1 (.build (a54 a6 a1 a6 a1 (a36 .nilp (b06 (y0 (y0 (y0 (y0 (y0 (y0 (y0 (y0 (y0 (y0 (y0 (y0 (y0 (y0 (y0 (y0 (y0 (y0 (y0 (y0 (y0 (y0 (y0 (y0 (y0 (y0 (y0 (y0 (y0 (y0 (y0 (b14 a1 .nils (b15 a1 a6 a1 (a04 .nils a1 a1 (a41 .nils .nils .nils (q1 .nils a6 a7 (a42 a7 (a50 a7 a1 (a85 a7 a7 (a04 a7 a6 a7 (a50 a7 a7 (a50 a1 a6 (a04 a1 a1 .nils (p5 a1 a6 a1 a1 (a04 a1 .nils a7 [])))))))))))))))))))))))))))))))))))))))))))))))) (j2 9 9 1)) 2 b3 (k2 b6 b3 p7))) (a14 10 5 23 [] (d7 12 5 d2)))) 4) := ⟨_, by conv => rhs; reduce⟩
end Q
def cf7 : CF := Q.T7.1
set_option maxRecDepth 100000 in
theorem cf7_ok : compF TP Tryz.f7 = some cf7 := by kernel_rfl
namespace Q
set_option maxRecDepth 100000 in
def T8 : Was (r1 0 (s0 0 p3 (g0 1 (a06 p3 (a47 0 (o2 3 2 1 1 1)) 6 (u1 1 97 (h8 1 g6)) (a46 9 (a57 2 b3))))) 0 9) := ⟨_, by conv => rhs; reduce⟩
end Q
def cf8 : CF := Q.T8.1
set_option maxRecDepth 100000 in
theorem cf8_ok : compF TP Tryz.f8 = some cf8 := by kernel_rfl
namespace Q
set_option maxRecDepth 100000 in
def T9 : Was (h1 2 4 a2 (b4 5 1 (j8 .lss (h2 (n7 1 .gtr 2147483647 (n1 3)))) (j1 10 4 (c7 2)) (b7 11 (e0 (w0 2 10 1 3)) (l4 4 a2))) 4) := ⟨_, by conv => rhs; reduce⟩
end Q
def cf9 : CF := Q.T9.1
set_option maxRecDepth 100000 in
theorem cf9_ok : compF TP Tryz.f9 = some cf9 := by kernel_rfl
namespace Q
set_option maxRecDepth 100000 in
def T10 : Was (h1 4 8 a2 (b4 9 1 (a4 24 (s2 (h2 (a3 2 (a4 24 (z9 .pick 4 n3 (h2 (a3 3 (a4 25 (z9 .pick 4 n3 (h2 (d9 2340 (u8 5 (d9 2341 (n1 5))))))))))))))) (j1 33 8 (c7 2)) (b7 34 (l0 2340 (y1 1 d5)) (b7 37 (f6 1 2 (j9 3 26 4 (f2 3 (f2 2 (e9 d5))))) (l4 8 a2)))) 8) := ⟨_, by conv => rhs; reduce⟩
end Q
def cf10 : CF := Q.T10.1
set_option maxRecDepth 100000 in
theorem cf10_ok : compF TP Tryz.f10 = some cf10 := by kernel_rfl
namespace Q
set_option maxRecDepth 100000 in
def T11 : Was (r1 1 (s0 2 p3 (k3 3 (x3 p3 (j2 1 1 1) 1 (f5 9 2)))) 2 9) := ⟨_, by conv => rhs; reduce⟩
end Q
def cf11 : CF := Q.T11.1
set_option maxRecDepth 100000 in
theorem cf11_ok : compF TP Tryz.f11 = some cf11 := by kernel_rfl
namespace Q
set_option maxRecDepth 100000 in
def T12 : Was (r1 1 (s0 2 (a36 a1 (a53 a1 (a04 .nils a1 a1 (q1 a1 a1 a6 [])))) (h4 4 (c2 2342 (r2 (h2 (d9 2342 (i0 3 (n1 6)))))) (l6 15 16 0 (l0 2343 (g8 16 (f5 16 2)))) (t8 20 (c2 2342 (q7 .eql 4)) 24 (d1 25 (l0 2342 (y1 1 g6))) (.q (p0 0 (h4 28 (c2 2342 (i0 1 (h2 (d9 2342 (i0 2 (n1 6)))))) (f7 39 0) (.b 1 (t8 40 (c2 2342 (q7 .eql 2)) 44 (t8 45 (c2 10 (k7 .eql a2)) 49 (b7 50 (r9 (a36 a1 (a53 a1 (a04 .nils a1 a1 (q1 a1 a1 a6 [])))) (a40 0 1) (c7 3) (w0 2 2343 16 3)) (k3 54 (l0 2343 (g8 16 (f5 16 2))))) (s4 58 10 (s9 (w0 5 10 1 3)) (l3 65 23 [] (n8 3 2 (b4 67 3 (d9 2327 (x0 6)) (f7 73 2) (l5 3 (.d 76 (b1 (a3 3 (d9 2327 (y3 3 9 9 (y2 9 11 (l1 (.ixarrp 256 9) 1 (o8 10) (a5 (m5 9 4))))))))) 74 3 3)) (d1 88 (b1 (y2 2 2328 (a69 1 c9 (y2 3 2342 (y1 1 g6)))))))))) (.q (a00 94 2338 (j8 .gtr (e8 (d9 2337 (d9 2338 (f0 .gtr 5 (s3 10 c9)))))) (c8 109 (b7 110 (l0 2339 (y1 1 d5)) (b7 113 (r9 (a36 a1 (a53 a1 (a04 .nils a1 a1 (q1 a1 a1 a6 [])))) [] [] (n0 27 2)) (k3 116 (l0 2343 (g8 16 (f5 16 2)))))))) (d1 120 (a4 28 []))))))) (k3 122 (l0 2343 (g8 16 (f5 16 2)))))))) 2 16) := ⟨_, by conv => rhs; reduce⟩
end Q
def cf12 : CF := Q.T12.1
set_option maxRecDepth 100000 in
theorem cf12_ok : compF TP Tryz.f12 = some cf12 := by kernel_rfl
namespace Q
set_option maxRecDepth 100000 in
def T13 : Was (s7 2 3 (z0 b6 e6) (b7 10 (y4 2343 14 1 p7) (t8 15 (z2 29 (e9 (c7 5))) 16 (c4 18 (b2 6 3 (b1 (y4 2343 13 1 (a3 5 (c6 (a5 (e3 30 8 r5 (z6 17 (a9 (a60 26 [] 9 (a9 (v9 0 10 (a9 (v9 1 11 (a9 (u4 6 f1 (a9 r4))))))))))))))))) (.q (c4 29 (e2 3 (b1 (y4 2343 12 1 (f0 .neq 6 (h2 (a3 7 (x8 (t5 .pick 3 n3)))))))) (j1 40 4 (c7 2))) (c4 41 (b1 (b2 6 3 (a8 3 3 (m6 6 4 3 1 (a3 5 (d9 2359 (a5 (f3 31 13 (f2 12 (f2 6 (i1 5))))))))))) (l4 4 a2)))) (b7 55 (l0 2343 (g9 2 (i3 9 8 p3 9 8))) (h4 60 (k9 29 (c7 6) (s2 (k1 0 3 (a8 3 8 (f0 .neq 3 (k6 6 (k1 1 3 (a8 2 8 (f0 .neq 3 (k6 6 (k1 1 8 (i9 4 3 (f0 .geq 4 (n1 7)))))))))))))) (j1 84 4 (c7 2)) (a22 85 4 3 (a8 1 8 (q2 3 3 (i3 3 9 (u3 a6 a6 []) 3 9))) (h9 91 (e2 9 (a8 5 8 (f0 .neq 3 (k1 1 9 (i9 6 8 (f0 .neq 4 (n1 7))))))) 103 (a24 4 2) (c4 104 (e7 (b1 (e7 (b2 6 3 (e7 (j4 2 9 (e7 (i2 (m2 (.bslice p3 0 9 []) [] (a3 5 (u9 1 (v5 6 8 (g1 1 (e7 (b1 (e7 (a07 (e7 (g9 2359 (e7 (i2 (n4 110 (l8 9 112 2 (r3 2 (l8 9 112 3 (g1 4 (f8 2 (f3 31 14 (f2 13 (f2 11 (i1 5))))))))))))))))))))))))))))))) (l4 4 a2)))))))) 4) := ⟨_, by conv => rhs; reduce⟩
end Q
def cf13 : CF := Q.T13.1
set_option maxRecDepth 100000 in
theorem cf13_ok : compF TP Tryz.f13 = some cf13 := by kernel_rfl
namespace Q
set_option maxRecDepth 100000 in
def T14 : Was (v3 0 0 (e4 4 (v8 5 (b13 42) (a4 4 (o5 3 5 2 (o6 0 3 1 4 (r0 1 (q6 (p9 [])) (y9 6 1 d4)))))) (d7 8 2 (r2 (i4 0 1 (q9 .eql 1 (h0 1 109) (l9 4 1 1 1 (i0 3 (l9 4 1 3 1 (c6 (i0 1 (l9 5 1 3 1 (v7 4 1 a2 (o0 2 1 (l9 6 1 3 1 (v7 4 1 a2 (o0 1 1 (i0 1 (f4 7 (c5 0))))))))))))))))))) 0) := ⟨_, by conv => rhs; reduce⟩
end Q
def cf14 : CF := Q.T14.1
set_option maxRecDepth 100000 in
theorem cf14_ok : compF TP Tryz.f14 = some cf14 := by kernel_rfl
namespace Q
set_option maxRecDepth 100000 in
def T15 : Was (s7 1 1 (a31 b6 1 e5) (g0 3 (a71 4 e6 (a4 32 (r2 (e8 (b2 4 1 (a4 33 (c6 (r2 (f4 5 d4)))))))))) 2) := ⟨_, by conv => rhs; reduce⟩
end Q
def cf15 : CF := Q.T15.1
set_option maxRecDepth 100000 in
theorem cf15_ok : compF TP Tryz.f15 = some cf15 := by kernel_rfl
namespace Q
set_option maxRecDepth 100000 in
def T16 : Was (h1 2 4 c1 (a16 5 c1 (s5 8 d0 0 (j5 11 11 0 (e1 1 12 (o4 3 8 (i3 3 7 (y5 a1 a6 .nils []) 3 7)) (d3 14 5 (e0 (b2 3 7 (r6 .callv 2 (s6 (m7 (y5 a1 a6 .nils []) 1 3 3) 3 48 5 5))))) (c3 20 10 10)))) (d7 21 5 d2)) 4) := ⟨_, by conv => rhs; reduce⟩
end Q
def cf16 : CF := Q.T16.1
set_option maxRecDepth 100000 in
theorem cf16_ok : compF TP Tryz.f16 = some cf16 := by kernel_rfl
namespace Q
set_option maxRecDepth 100000 in
def T17 : Was (r1 1 (e4 1 (a32 b6 w4 (o1 (y5 a1 a6 .nils [])) []) (e4 3 (w5 (.fa 2) e6 (i2 (k9 18 (u2 19 [] []) (m1 2 1 1 f1)))) (a15 7 3 1 (f5 3 2)))) 2 3) := ⟨_, by conv => rhs; reduce⟩
end Q
def cf17 : CF := Q.T17.1
set_option maxRecDepth 100000 in
theorem cf17_ok : compF TP Tryz.f17 = some cf17 := by kernel_rfl
namespace Q
set_option maxRecDepth 100000 in
def T18 : Was (h1 2 4 c1 (a16 5 c1 (s5 8 d0 0 (j5 11 11 0 (e1 1 12 (o4 4 8 (i3 4 7 (a42 a1 []) 4 7)) (d3 14 5 (e0 (b2 4 7 (r6 .callv 2 (s6 (m7 (a42 a1 []) 1 4 4) 4 88 5 5))))) (c3 20 10 10)))) (d7 21 5 d2)) 4) := ⟨_, by conv => rhs; reduce⟩
end Q
def cf18 : CF := Q.T18.1
set_option maxRecDepth 100000 in
theorem cf18_ok : compF TP Tryz.f18 = some cf18 := by kernel_rfl
namespace Q
set_option maxRecDepth 100000 in
def T19 : Was (r1 1 (e4 1 (a32 b6 w4 (o1 (a42 a1 [])) []) (c4 3 (w5 (.fa 1) e6 (i2 (u9 1 (v5 3 1 (n4 5 (k9 34 (u2 35 [] []) (r3 3 (j4 1 1 (z6 8 (d6 (k9 36 (u2 37 [] []) (f8 2 (a69 1 (f2 0 (o8 4)) (g1 1 (f8 3 (j4 3 1 (o7 3 4 (m5 1 3)))))))))))))))))) (a22 11 2 1 (k9 38 (u2 39 [] []) (m1 2 1 1 f1)) (a15 15 4 1 (f5 4 2))))) 2 4) := ⟨_, by conv => rhs; reduce⟩
end Q
def cf19 : CF := Q.T19.1
set_option maxRecDepth 100000 in
theorem cf19_ok : compF TP Tryz.f19 = some cf19 := by kernel_rfl
namespace Q
set_option maxRecDepth 100000 in
def T20 : Was (a45 2 (e4 4 (p1 (o1 (q6 (p9 []))) [] e5) (c4 14 (b1 (d9 0 (d9 1 (z8 (q6 (p9 [])) (j2 1 1 1) 5 b3 (m2 a37 [] (m2 a37 [] (s8 1 (.build (y5 .nilp a1 a6 (p9 (q1 .nilm .nilm a7 []))) (a47 0 (a88 1 6 (o2 7 8 1 10 1)))) 13 (f2 4 l7) (k2 b6 b3 m0)))))))) (h4 29 (c2 3 q3) (j5 35 35 0 (o9 1 36 7 (s4 37 3 (h7 7 3 w3) (c4 43 (e7 (g7 6 (g7 6 (a07 (a48 1 (a55 3 (j7 8 (w2 0 (j7 8 (w2 1 (b1 (g7 8 (j0 40 (a9 (z8 (p5 a1 a6 a7 a6 []) (o2 0 1 1 2 1) 8 (i1 4) (a9 (n6 (p5 a1 a6 a7 a6 []) 1 4 4 (d6 (l8 4 40 14 (j6 (v6 .nilc 20 (j6 (g9 1 (j6 (g9 3 (f8 2 (m5 1 4))))))))))))))))))))))))))) (b0 66 8 (c2 2 q3) (i5 2 72 72 2 (o9 3 73 9 (d3 74 6 (g2 8 2 (h7 9 4 (n0 41 7)))) (c3 82 71 71)))))) (c3 83 34 34))) (b0 84 6 (g2 6 8 (k2 (.r .lenMap) b3 (w1 (.mks (a08 .nilp .nils []) 32) 1 (w0 7 9 1 3)))) (h4 93 (c2 3 q3) (i5 4 99 99 4 (o9 5 100 10 (.d 101 (j7 6 (a07 (a48 1 (a55 3 (a5 (f6 10 6 (d9 3 (m6 10 3 2 1 (d9 3 (m6 10 3 1 1 (a5 (e3 42 17 (f2 9 (e9 (t9 .nils e5))) (a9 (p8 4 20 19 (a17 3 (d6 (m5 1 3)))))))))))))))))) (c3 127 98 98))) (b0 128 6 (g2 6 9 (c6 (w1 (.mks (u3 a6 a6 []) 24) 1 (y2 7 1 (g9 4 (m5 1 4)))))) (n8 11 6 (b4 138 11 (g2 6 9 (x0 6)) (f7 144 6) (l5 7 (b0 147 6 (c2 9 (h7 11 2 (i3 2 12 (a08 .nilp .nils []) 2 12))) (e4 154 (e2 12 (c2 6 (v7 4 1 a2 (o0 1 1 (c6 (c5 13)))))) (c4 163 (a3 6 (y4 1 4 1 (f6 11 13 (i9 1 12 (z8 (u3 a6 a6 []) (j2 1 1 1) 4 b3 (p8 3 7 6 (a5 (t0 3)))))))) (.d 175 (j7 6 (a07 (a48 1 (a55 4 (a5 (f6 11 6 (e2 12 (c2 6 (a3 13 (a8 1 12 (a5 (e3 42 9 (f2 4 (f2 3 (e9 d5))) (a9 (p8 3 12 11 (a17 2 (d6 (m5 1 3))))))))))))))))))))) 145 11 11)) (b4 193 6 (y4 1 5 1 (c6 (k7 .eql a2))) (c8 199 (d3 200 6 (a3 6 (z7 43 5 491496043109 (a3 6 (z7 43 5 439787744885 (w1 (.bslice l2 2 2 (j2 2 2 2)) 3 (x3 (v0 .nils a1 .nils .nils []) (j2 1 3 1) 27 (n6 (v0 .nils a1 .nils .nils []) 1 10 10 (y2 8 1 (g9 5 (m5 1 4)))))))))))) (c4 211 (a3 6 (l0 1 (g8 6 (j7 6 (a07 (a48 1 (a55 5 (a5 (c6 (a5 (h6 .leq 524288 (a5 (w9 6 4 (o8 8) (a9 p7)))))))))))))) .ret))))))))) 4 6 (x9 5 [])) := ⟨_, by conv => rhs; reduce⟩
end Q
def cf20 : CF := Q.T20.1
set_option maxRecDepth 100000 in
theorem cf20_ok : compF TP Tryz.f20 = some cf20 := by kernel_rfl
namespace Q
set_option maxRecDepth 100000 in
def T21 : Was (a45 1 (t7 2 (o1 (q1 a1 a6 .nils [])) [] (z0 d0 a2) (l3 11 44 (o5 10 12 2 (v9 0 3 (o6 1 4 2 5 (u4 5 s1 (r7 6 f1 7))))) (b4 16 7 (k7 .neq a2) (c8 17 (g0 18 (r9 (q1 a1 a6 .nils []) [] [] (f6 6 7 (w9 4 2 s1 (u4 3 f1 d2)))))) (b0 21 5 (h3 (.build (.nils :: w6 a6 a7 []) (a40 0 1)) (k2 b6 b3 w3)) (a14 24 8 45 (t6 9 (q1 a1 a6 .nils []) 4 9) (b4 26 8 (l0 3 k4) (c8 29 (c4 30 (a5 (r9 (q1 a1 a6 .nils []) [] [] (a3 8 (b1 (g1 1 (e7 (a3 8 (e7 (a07 (e7 (g9 4 (e7 (i2 (n4 33 (j0 46 (d6 (w9 4 2 (o8 4) (j6 (u4 3 b3 (j6 (a38 4 (a80 37 [])))))))))))))))))))))) .ret)) (h9 38 (b2 4 9 (a4 47 (k7 .neq a2))) 40 (g0 41 (r9 (q1 a1 a6 .nils []) [] [] (w9 4 2 b3 (a09 3 a2 4 (c7 3))))) (a15 42 4 9 (w9 4 2 b3 (a09 3 a2 4 a2)))))))))) 2 4 (x9 3 (x9 4 []))) := ⟨_, by conv => rhs; reduce⟩
end Q
def cf21 : CF := Q.T21.1
set_option maxRecDepth 100000 in
theorem cf21_ok : compF TP Tryz.f21 = some cf21 := by kernel_rfl
namespace Q
set_option maxRecDepth 100000 in
def T22 : Was (a51 1 (t7 1 b6 w4 (z0 d0 a2) (e4 7 (b2 6 1 (a4 48 (o5 6 8 2 (o6 0 3 1 4 (r7 4 f1 5))))) (b4 11 5 (k7 .neq a2) (l6 12 13 4 (a3 5 (r7 2 f1 3))) (e4 16 (b2 6 1 (a4 49 (o5 15 17 2 (v9 0 3 (o6 1 4 2 5 (r7 4 f1 5)))))) (d7 21 4 (a3 5 (r7 2 f1 3))))))) 2 (x9 3 [])) := ⟨_, by conv => rhs; reduce⟩
end Q
def cf22 : CF := Q.T22.1
set_option maxRecDepth 100000 in
theorem cf22_ok : compF TP Tryz.f22 = some cf22 := by kernel_rfl
namespace Q
set_option maxRecDepth 100000 in
def T23 : Was (g3 1 (a66 2 a2 0 (g4 3 (u5 w4 (x4 a01 (e9 (c7 256)))) 4 (.x 0) (l5 1 (.d 7 (j7 0 (a3 2 (u9 1 (v6 .nilc 3 (a48 11 (n4 9 (v8 50 [] (g1 2 (a9 (l1 (.ixarrp 256 9) 1 (o8 4) (d6 (m5 9 4))))))))))))) 5 2 2)))) := ⟨_, by conv => rhs; reduce⟩
end Q
def cf23 : CF := Q.T23.1
set_option maxRecDepth 100000 in
theorem cf23_ok : compF TP Tryz.f23 = some cf23 := by kernel_rfl
namespace Q
set_option maxRecDepth 100000 in
def T24 : Was (v3 1 2 (h4 6 (h3 y6 (p4 .lss (a26 (h3 y6 (h6 .gtr 32 (u8 4 (b1 (l1 .ixstr 1 a2 (u0 .lss 1 .u8 97 (u8 4 (b1 (l1 .ixstr 1 a2 (u0 .gtr 1 .u8 122 (n1 4)))))))))))))) (j1 23 2 e5) (a72 3 g6 0 (b4 24 3 (b1 (h3 y6 (a67 3))) (f7 27 0) (l5 1 (b7 30 (s8 3 .ixstr 2 b3 d2) (b0 33 4 (u0 .geq 1 .u8 97 (e8 (n5 4 .leq 1 (m8 .u8 122) (f4 3 (h2 (n5 4 .geq 1 (m8 .u8 65) (e8 (n5 4 .leq 1 (m8 .u8 90) (a25 6 3 c9 (k6 7 p7)))))))))) (b0 47 5 (s2 (e8 (n5 4 .geq 1 (m8 .u8 48) (e8 (n5 4 .leq 1 (m8 .u8 57) (a43 6 true 3 c9 (z9 .pick 8 c9 (e8 (n5 4 .neq 1 (m8 .u8 95) (f4 3 (e8 (n5 4 .neq 1 (m8 .u8 64) (s3 3 c9))))))))))))) (j1 65 2 e5)))) 28 3 3)) (l4 2 d5))) 2) := ⟨_, by conv => rhs; reduce⟩
end Q
def cf24 : CF := Q.T24.1
set_option maxRecDepth 100000 in
theorem cf24_ok : compF TP Tryz.f24 = some cf24 := by kernel_rfl
namespace Q
set_option maxRecDepth 100000 in
def T25 : Was (v3 1 2 (n8 3 0 (g4 4 (u5 w4 (b1 (x0 3))) 7 (.x 0) (l5 1 (b7 10 (y3 3 9 9 (a4 51 k0)) (j1 15 2 e5)) 8 3 3)) (k3 16 (c6 (p6 .leq 16 2)))) 2) := ⟨_, by conv => rhs; reduce⟩
end Q
def cf25 : CF := Q.T25.1
set_option maxRecDepth 100000 in
theorem cf25_ok : compF TP Tryz.f25 = some cf25 := by kernel_rfl
namespace Q
set_option maxRecDepth 100000 in
def T26 : Was (g3 5 (d1 10 (e0 (f6 2 3 (a06 (a36 a1 (a53 a1 (a04 .nils a1 a1 (q1 a1 a1 a6 [])))) (a47 0 (o2 12 13 1 14 1)) 5 l7 (j9 4 52 6 b9)))))) := ⟨_, by conv => rhs; reduce⟩
end Q
def cf26 : CF := Q.T26.1
set_option maxRecDepth 100000 in
theorem cf26_ok : compF TP Tryz.f26 = some cf26 := by kernel_rfl
namespace Q
set_option maxRecDepth 100000 in
def T27 : Was (g3 2 (a10 3 b6 e6 (.d 4 (g7 0 (b1 (e7 (b1 (f8 0 (b1 (o7 0 4 (g7 0 (b2 16 3 (y2 6 2342 (a5 (x7 1 a2 (a9 (v6 .nilc 7 (a17 2343 (d6 (x7 16 (o8 5) (j6 (v6 .nilc 8 (j6 (g9 2324 (f8 2 (a69 1 c9 (f8 3 (v6 .nilc 9 (f8 3 (g9 2325 (o7 3 4 (x7 1 c1 (o7 4 4 (v6 .nilc 10 (o7 4 4 (g9 2326 (o7 4 5 (y1 1 c1)))))))))))))))))))))))))))))))))))))) := ⟨_, by conv => rhs; reduce⟩
end Q
def cf27 : CF := Q.T27.1
set_option maxRecDepth 100000 in
theorem cf27_ok : compF TP Tryz.f27 = some cf27 := by kernel_rfl
namespace Q
set_option maxRecDepth 100000 in
def T28 : Was (g3 1 (.q (c4 8 (b1 (y4 2315 6 1 (j8 .lss (a26 (y4 2315 6 1 (b1 (l0 2315 (g9 0 (o0 5 1 (a11 .geq 8 (n1 14))))))))))) (l6 28 29 0 (a4 53 []))) (c4 31 (b1 (l0 2315 (g9 0 (o0 5 1 (b1 (y4 2315 6 1 (q2 10 6 (g8 10 (r0 2 (v0 .nils a1 .nils .nils []) (a5 (f5 10 2))))))))))) (b7 44 (y4 2315 6 1 (p4 .add (y2 6 2315 (g9 6 (m5 1 4))))) (q8 3 c1 (n8 4 0 (b4 53 4 (a18 3 2 4) (f7 57 0) (l5 1 (b7 61 (a8 3 2 (y3 4 2 2 (f9 54 6 (o5 60 67 7 (o6 0 8 1 9 (r0 5 p3 (y9 9 5 m0))))))) (b4 70 6 k0 (l6 71 72 0 (a4 53 [])) (d3 74 3 (b2 9 5 (s6 (m7 p3 1 9 9) 9 112 3 3))))) 58 4 4)) (c4 78 (j7 0 (g7 0 (w2 2337 (b1 (b2 10 2 (g7 3 (e3 55 3 b9 (a9 (f0 .add 5 (a9 (v6 .nilc 10 (a17 2337 (d6 (m5 1 3)))))))))))))) (h9 90 (e2 2 (q7 .eql 35)) 92 (k3 93 (b2 10 2 (n0 56 2))) (h9 96 (e2 2 (a61 (.call 57))) 98 (a22 99 6 2 (a86 .maxs (x2 a6) 7) (p0 2 (b4 102 7 (x4 a01 (e9 (c7 256))) (f7 103 2) (l5 3 (.d 106 (j7 0 (a3 7 (u9 1 (v6 .nilc 3 (a48 11 (n4 108 (v8 50 [] (g1 2 (a9 (l1 (.ixarrp 256 9) 1 (o8 4) (d6 (m5 9 4))))))))))))) 104 7 7)))) (.b 4 (b5 117 (e2 2 (p6 .leq 7 116)) 116 (d1 120 (b2 10 2 (j9 3 58 3 b9))) (b5 125 (e2 2 (p6 .leq 12 124)) 124 (d1 128 (b2 10 2 (j9 3 59 3 b9))) (b5 133 (e2 2 (p6 .leq 14 132)) 132 (d1 136 (b2 10 2 (j9 3 60 3 b9))) (b5 141 (e2 2 (p6 .leq 23 140)) 140 (d1 144 (b2 10 2 (j9 3 61 3 b9))) (b5 149 (e2 2 (p6 .leq 29 148)) 148 (d1 152 (b2 10 2 (j9 3 62 3 b9))) (b5 157 (e2 2 (p6 .leq 34 156)) 156 (d1 160 (b2 10 2 (j9 3 63 3 b9))) (d1 112 (b2 10 2 (j9 3 64 3 b9))))))))))))))))))) := ⟨_, by conv => rhs; reduce⟩
end Q
def cf28 : CF := Q.T28.1
set_option maxRecDepth 100000 in
theorem cf28_ok : compF TP Tryz.f28 = some cf28 := by kernel_rfl
namespace Q
set_option maxRecDepth 100000 in
def T29 : Was (x5 2 4 5 (y4 2343 0 1 (m3 1 .eql 2 (e8 (d9 2342 (i0 3 (h2 (d9 2342 (i0 4 (a43 12 true 6 n3 (f4 13 d2)))))))))) 4) := ⟨_, by conv => rhs; reduce⟩
end Q
def cf29 : CF := Q.T29.1
set_option maxRecDepth 100000 in
theorem cf29_ok : compF TP Tryz.f29 = some cf29 := by kernel_rfl
namespace Q
set_option maxRecDepth 100000 in
def T30 : Was (a51 3 (a19 3 b6 0 (g1 2 (p1 d0 a2 e5)) (e4 11 (b2 6 3 (f6 1 2 (e3 65 3 b9 (o5 10 14 4 (o6 0 5 1 6 (r7 8 f1 9)))))) (b4 17 9 (s2 (k1 3 3 (m6 8 4 2 1 (x8 (t5 .pick 8 n3))))) (c8 27 (g0 6 (p1 d0 a2 e5))) (d7 28 8 (a09 6 b3 7 d5))))) 6 (x9 7 [])) := ⟨_, by conv => rhs; reduce⟩
end Q
def cf30 : CF := Q.T30.1
set_option maxRecDepth 100000 in
theorem cf30_ok : compF TP Tryz.f30 = some cf30 := by kernel_rfl
namespace Q
set_option maxRecDepth 100000 in
def T31 : Was (g3 5 (a10 6 b6 (d8 1) (b4 10 4 k0 (c8 11 (h4 12 (c2 2325 (c6 (q7 .geq 400))) (l6 17 18 0 (v1 66 1 12 36027715032999405127646542195)) (.d 20 (e7 (b1 (m2 (.bslice (a1 :: a41 .nils .nils .nils (q1 .nils a6 a7 [])) 0 9 []) [] (d9 2325 (g1 1 (j7 0 (a07 (a48 2315 (a5 (g8 9 (a5 (n6 (a1 :: a41 .nils .nils .nils (q1 .nils a6 a7 [])) 1 9 9 (n4 26 (l8 9 160 5 (r3 5 (l8 9 160 6 (j6 (v6 .nilc 13 (j6 (g9 2325 (f8 2 (m5 1 3))))))))))))))))))))))))) (b7 35 (b2 6 6 (s8 2 (.build (a1 :: a41 .nils .nils .nils (q1 .nils a6 a7 [])) (j2 6 6 1)) 2 b3 (w0 4 2315 9 3))) (d1 41 (b1 (b1 (a3 3 (y2 4 2324 (x7 1 d5 (y2 5 2327 (x7 1 (o8 5) (y2 6 2342 (y1 1 (c7 2))))))))))))))) := ⟨_, by conv => rhs; reduce⟩
end Q
def cf31 : CF := Q.T31.1
set_option maxRecDepth 100000 in
theorem cf31_ok : compF TP Tryz.f31 = some cf31 := by kernel_rfl
namespace Q
set_option maxRecDepth 100000 in
def T32 : Was (s7 1 1 (a68 b6 1) (h9 9 (e2 1 (a4 67 (s2 (k1 1 1 (p4 .lss (k6 4 (k1 1 1 (h6 .gtr 2147483647 (n1 4))))))))) 22 (a24 2 100) (.q (i6 23 2 1 t2 (j5 27 27 0 (e1 1 28 (o4 2 24 (i3 2 4 (q6 []) 2 4)) (k5 30 (e2 4 (a4 67 (s2 (k1 1 4 (j8 .lss (k6 4 (k1 1 4 (h6 .gtr 16 (n1 4))))))))) 43 (a24 2 100)) (c3 44 26 26)))) (a12 45 (i9 3 1 (h6 .gtr 200 (h2 (i9 2 1 (h6 .gtr 200 (k6 5 (h3 (.build (u3 a6 a7 []) (a40 2 1)) (k2 b6 b3 (t6 5 (m4 .nilp) 1 5))))))))) (i6 57 3 1 t2 (i5 2 61 61 2 (e1 3 62 (o4 3 58 (i3 3 7 (y5 a1 a6 .nils []) 3 7)) (.q (c4 64 (i9 2 7 (r2 (k1 0 7 (a8 2 7 (v7 4 1 a2 (o0 0 1 (f0 .neq 6 (k6 9 (k1 1 7 (a8 2 7 (v7 4 1 a2 (o0 1 1 (a11 .neq 7 (u8 10 (b8 5 (a8 2 7 (a5 (e3 68 3 (e9 (h8 (-1) d5)) (a9 (x8 (a9 (t5 .pick 6 n3)))))))))))))))))))))) (j1 95 2 (c7 100))) (t1 96 5 (c2 0 w3) (h9 100 (a8 2 7 (a52 (z3 70 0) 5 (j0 69 k0))) 104 (a24 2 100) (.d 105 (b8 5 (b8 5 (c2 2 (h2 (b8 5 (c2 0 (m3 8 .sub 2 (h6 .gtr 4000 (k6 8 (y2 14 2 (a5 (m5 1 3)))))))))))))))) (c3 121 60 60)))) (h9 122 (b8 5 (c2 2 (h2 (b8 5 (c2 0 (h6 .gtr 20000 (u8 6 (b8 5 (c2 1 (h6 .gtr 1000 (n1 6))))))))))) 139 (a24 2 3) (l4 2 a2))))) 2) := ⟨_, by conv => rhs; reduce⟩
end Q
def cf32 : CF := Q.T32.1
set_option maxRecDepth 100000 in
theorem cf32_ok : compF TP Tryz.f32 = some cf32 := by kernel_rfl
namespace Q
set_option maxRecDepth 100000 in
def T33 : Was (s7 1 1 (a31 b6 1 c1) (h9 10 (b2 4 1 (a4 32 (k7 .neq a2))) 12 (l4 2 c1) (a12 13 (m2 a37 [] (h3 (.build (a1 :: a85 .nilm .nils []) (a40 3 1)) (k2 b6 b3 v4))) (i6 16 3 1 t2 (j5 20 20 0 (e1 1 21 (o4 3 17 (i3 3 5 (y5 a1 a6 .nils []) 3 5)) (.d 23 (g2 3 3 (e2 5 (a8 1 5 (z8 (q6 []) (j2 1 1 1) 3 b3 (a5 (a35 (.agg [.s, .i]) a6 6 (a5 (p4 .add (a5 (k2 (.e (.mapent (.agg [.s, .i]) a6)) (f2 8 s1) (a9 (a76 1 (d6 (z4 (a81 .entst (f2 10 (e9 s1)))))))))))))))))) (c3 36 19 19)))) (b0 37 3 (a8 2 1 (n0 72 3)) (a12 41 (m2 a37 [] m0) (i6 42 3 1 t2 (i5 2 46 46 2 (e1 3 47 (o4 3 43 (i3 3 8 (y5 a1 a6 .nils []) 3 8)) (e4 49 (e2 8 (a8 1 8 (z8 (q6 []) (j2 1 1 1) 3 b3 (t6 9 (q6 []) 2 9)))) (c4 54 (a3 3 (b2 3 8 (a3 6 (b2 2 9 (a35 (.agg [.s, .i]) a6 2 (j8 .gtr (a5 (f3 73 6 (i1 5))))))))) (.d 61 (a3 6 (b2 2 9 (a5 (a35 (.agg [.s, .i]) a6 2 (a5 (p4 .add (a5 (k2 (.e (.mapent (.agg [.s, .i]) a6)) (f2 4 s1) (a9 (a76 1 (d6 (z4 (a81 .entst (f2 6 (e9 s1)))))))))))))))))) (c3 67 45 45)))) (d7 68 3 (c2 4 d4)))))) 2) := ⟨_, by conv => rhs; reduce⟩
end Q
def cf33 : CF := Q.T33.1
set_option maxRecDepth 100000 in
theorem cf33_ok : compF TP Tryz.f33 = some cf33 := by kernel_rfl
namespace Q
set_option maxRecDepth 100000 in
def T34 : Was (h1 2 4 c1 (a16 5 c1 (s5 8 d0 0 (j5 11 11 0 (e1 1 12 (o4 11 8 (i3 11 7 h5 11 7)) (d3 14 5 (e0 (i7 7 (r6 .callv 2 (s6 (m7 h5 1 11 11) 11 200 5 5))))) (c3 20 10 10)))) (d7 21 5 d2)) 4) := ⟨_, by conv => rhs; reduce⟩
end Q
def cf34 : CF := Q.T34.1
set_option maxRecDepth 100000 in
theorem cf34_ok : compF TP Tryz.f34 = some cf34 := by kernel_rfl
namespace Q
set_option maxRecDepth 100000 in
def T35 : Was (r1 1 (e4 1 (a32 b6 w4 (o1 h5) []) (e4 3 (w5 (.fa 4) e6 (i2 (k9 34 (u2 35 [] []) (m1 4 1 1 f1)))) (a22 7 5 1 (k9 74 (u2 75 [] []) (m1 5 1 1 f1)) (c4 11 (a8 6 1 (u9 1 (v5 7 1 (n4 13 (k9 18 (u2 19 [] []) (r3 3 (j4 6 1 (z6 16 (d6 (k9 18 (u2 19 [] []) (f8 2 (a69 1 (f2 0 (o8 4)) (g1 1 (f8 3 (j4 7 1 (o7 3 4 (m5 1 3))))))))))))))))) (c4 19 (a8 8 1 (u9 1 (v5 9 1 (n4 21 (k9 36 (u2 37 [] []) (r3 3 (j4 8 1 (z6 24 (d6 (k9 36 (u2 37 [] []) (f8 2 (a69 1 (f2 0 (o8 4)) (g1 1 (f8 3 (j4 9 1 (o7 3 4 (m5 1 3))))))))))))))))) (g0 27 (i7 1 (q4 2)))))))) 2 11) := ⟨_, by conv => rhs; reduce⟩
end Q
def cf35 : CF := Q.T35.1
set_option maxRecDepth 100000 in
theorem cf35_ok : compF TP Tryz.f35 = some cf35 := by kernel_rfl
namespace Q
set_option maxRecDepth 100000 in
def T36 : Was (h1 2 4 c1 (a16 5 c1 (s5 8 d0 0 (j5 11 11 0 (e1 1 12 (o4 23 8 (i3 23 7 (y5 a7 a6 a6 (q1 a1 a1 .nils (p9 (a04 a7 a6 a1 (a58 .nils a7 []))))) 23 7)) (d3 14 5 (e0 (b2 23 7 (r6 .callv 2 (s6 (m7 (y5 a7 a6 a6 (q1 a1 a1 .nils (p9 (a04 a7 a6 a1 (a58 .nils a7 []))))) 1 23 23) 23 408 5 5))))) (c3 20 10 10)))) (d7 21 5 d2)) 4) := ⟨_, by conv => rhs; reduce⟩
end Q
def cf36 : CF := Q.T36.1
set_option maxRecDepth 100000 in
theorem cf36_ok : compF TP Tryz.f36 = some cf36 := by kernel_rfl
namespace Q
set_option maxRecDepth 100000 in
def T37 : Was (r1 1 (e4 1 (a32 b6 w4 (o1 (y5 a7 a6 a6 (q1 a1 a1 .nils (p9 (a04 a7 a6 a1 (a58 .nils a7 [])))))) []) (c4 3 (w5 (.fa 1) e6 (g8 11 (u9 1 (j4 12 1 (a5 (g8 11 (n4 5 (a4 35 (r3 3 (j4 1 1 (z6 8 (d6 (a4 35 (f8 2 (a69 11 (f2 0 (o8 4)) (g1 1 (f8 3 (j4 12 1 (o7 3 4 (m5 11 3)))))))))))))))))))) (a15 11 23 1 (f5 23 2)))) 2 23) := ⟨_, by conv => rhs; reduce⟩
end Q
def cf37 : CF := Q.T37.1
set_option maxRecDepth 100000 in
theorem cf37_ok : compF TP Tryz.f37 = some cf37 := by kernel_rfl
namespace Q
set_option maxRecDepth 100000 in
def T38 : Was (h1 2 4 c1 (a16 5 c1 (s5 8 d0 0 (j5 11 11 0 (e1 1 12 (a20 1 8 r4) (d3 14 5 (f6 1 7 (r6 .callv 2 (s6 (m7 (m4 .nils) 1 1 1) 1 24 5 5)))) (c3 20 10 10)))) (d7 21 5 d2)) 4) := ⟨_, by conv => rhs; reduce⟩
end Q
def cf38 : CF := Q.T38.1
set_option maxRecDepth 100000 in
theorem cf38_ok : compF TP Tryz.f38 = some cf38 := by kernel_rfl
namespace Q
set_option maxRecDepth 100000 in
def T40 : Was (v3 2 4 (h4 7 (l0 2 t2) (j5 13 13 0 (e1 1 14 (o4 2 10 (i3 2 6 (q6 []) 2 6)) (c4 16 (e2 6 (g2 1 0 (f0 .eql 5 (i4 1 6 (g2 1 1 (f0 .eql 5 (s3 8 c9))))))) (j1 31 4 d5)) (c3 32 12 12))) (q0 4)) 4) := ⟨_, by conv => rhs; reduce⟩
end Q
def cf40 : CF := Q.T40.1
set_option maxRecDepth 100000 in
theorem cf40_ok : compF TP Tryz.f40 = some cf40 := by kernel_rfl
namespace Q
set_option maxRecDepth 100000 in
def T41 : Was (g3 2 (d1 4 (g2 1 3 (n0 76 5)))) := ⟨_, by conv => rhs; reduce⟩
end Q
def cf41 : CF := Q.T41.1
set_option maxRecDepth 100000 in
theorem cf41_ok : compF TP Tryz.f41 = some cf41 := by kernel_rfl
namespace Q
set_option maxRecDepth 100000 in
def T42 : Was (z1 5 (a19 5 b6 0 (a33 b6 (d8 1) (g1 3 (n2 d0 a2))) (t1 20 5 (f6 2 3 (a11 .add 3 (w5 .maxs (a73 19) (z8 (y5 .nilp .nils .nils (a04 .nils a6 a7 [])) (j2 1 5 1) 6 b3 (k2 b6 b3 (t6 11 (m4 .nilp) 1 11)))))) (a16 12 c1 (e4 28 (z0 d0 (d8 2)) (j5 30 30 0 (o9 1 31 13 (t1 32 11 (a4 77 (c5 14)) (c4 34 (e7 (b8 11 (a3 14 (u9 1 (a3 13 (n4 36 (a4 79 (r3 1 (a4 80 (f8 2 (f3 78 5 r5))))))))))) (d3 40 12 (a3 14 (s6 (m7 o3 1 1 1) 1 8 3 12))))) (c3 44 29 29)))) (a16 15 c1 (s5 45 d0 3 (i5 2 48 48 2 (e1 3 49 (u5 e6 (a44 1 45 (d8 47) (i2 (r7 16 s1 17)))) (t1 52 11 (a4 77 (c5 18)) (c4 54 (e7 (b8 11 (a3 18 (g1 1 (j7 2 (g7 16 (f0 .add 2 (n4 56 (a4 79 (r3 3 (a4 80 (f8 2 (f3 78 7 (i1 5)))))))))))))) (d3 62 15 (f6 17 18 (z8 (q6 []) (j2 1 1 1) 2 b3 (s6 (m7 (q6 []) 1 2 2) 2 24 5 15)))))) (c3 68 47 47)))) (t1 69 11 (b8 6 (a3 12 (f6 15 4 (a13 (z3 82 0) 11 (d8 6) (a13 (z3 84 0) 11 (d8 5) (f3 81 7 (f2 6 (f2 5 (f2 4 l7))))))))) (t1 77 5 (y4 1 5 1 (c6 (c5 19))) (c4 83 (e7 (b8 5 (a5 (b8 5 (a5 (a07 (a48 1 (a55 5 (b8 11 (g7 19 (j0 86 (d6 (l8 10 136 4 (j6 (v6 .nilc 10 (j6 (g9 1 (j6 (g9 5 (f8 2 (m5 1 4))))))))))))))))))))) (d7 96 19 (c5 10))))))))) 10) := ⟨_, by conv => rhs; reduce⟩
end Q
def cf42 : CF := Q.T42.1
set_option maxRecDepth 100000 in
theorem cf42_ok : compF TP Tryz.f42 = some cf42 := by kernel_rfl
namespace Q
set_option maxRecDepth 100000 in
def T43 : Was (r1 2 (s0 4 l2 (k3 5 (e0 (x3 p3 (j2 1 3 1) 2 (f9 87 3 (f5 2 4)))))) 4 2) := ⟨_, by conv => rhs; reduce⟩
end Q
def cf43 : CF := Q.T43.1
set_option maxRecDepth 100000 in
theorem cf43_ok : compF TP Tryz.f43 = some cf43 := by kernel_rfl
namespace Q
set_option maxRecDepth 100000 in
def T44 : Was (a51 1 (t7 2 d0 c1 (z0 d0 a2) (t8 11 (h3 y6 (q7 .gtr 65536)) 13 (g0 2 (a33 d0 c1 (p1 d0 a2 (c7 3)))) (q8 5 c1 (n8 6 0 (b4 14 6 (b1 (h3 y6 (a67 3))) (f7 17 0) (.b 1 (b7 18 (s8 6 .ixstr 2 b3 r4) (b4 21 7 (u0 .eql 1 .u8 32 (h2 (n5 7 .eql 1 (m8 .u8 9) (u8 3 (n5 7 .eql 1 (m8 .u8 10) (u8 3 (n5 7 .eql 1 (m8 .u8 13) (n1 3)))))))) (c8 34 (b0 35 6 (p6 .add 1 6) (.x 1))) (b4 37 7 (k7 .eql (m8 .u8 37)) (c8 38 (.q (p0 2 (b4 39 6 (b1 (h3 y6 (f0 .lss 3 (v2 (s8 6 .ixstr 2 b3 (u0 .neq 1 .u8 10 (s3 5 c9))))))) (f7 48 2) (.b 3 (a39 49 6 6)))) (.x 1))) (b7 52 (s8 6 (w7 .str true false) 2 b3 (a4 88 (o5 51 55 4 (v9 0 5 (o6 1 6 2 7 (r0 8 (w6 a1 (.int .u64 0) []) (w9 4 8 s1 (r7 9 f1 10)))))))) (b4 59 10 (k7 .neq a2) (l6 60 61 6 (a3 10 (u4 2 c1 (u4 3 f1 d2)))) (b0 63 6 (m1 3 8 1 f1) (b0 65 5 (b2 4 8 (s6 (m7 (w6 a1 (.int .u64 0) []) 1 4 4) 4 40 3 5)) (d3 69 6 (m3 9 .add 2 m0))))))))))) (d7 72 5 (u4 2 b3 (a09 3 a2 4 a2))))))) 2 (x9 3 (x9 4 []))) := ⟨_, by conv => rhs; reduce⟩
end Q
def cf44 : CF := Q.T44.1
set_option maxRecDepth 100000 in
theorem cf44_ok : compF TP Tryz.f44 = some cf44 := by kernel_rfl
namespace Q
set_option maxRecDepth 100000 in
def T45 : Was (r1 1 (s0 2 (q1 a1 a6 .nils []) (s0 3 (q1 a1 a6 .nils []) (b7 4 (v1 89 1 1 45) (b7 6 (v1 90 1 6 111516500389741) (h4 8 (z2 91 (e9 (h0 1 40))) (g5 9 (d1 10 (a4 92 [])) (d1 12 (v1 89 1 1 40))) (b7 14 (k9 90 n9 (m1 0 3 1 f1)) (b7 17 (v1 93 1 1 41) (b7 19 (v1 89 1 1 46) (b7 21 (v1 89 1 1 45) (b7 23 (v1 90 1 3 7238518) (h4 25 (z2 91 (e9 (h0 1 40))) (g5 26 (d1 27 (a4 92 [])) (d1 29 (v1 89 1 1 40))) (b7 31 (k9 94 (h8 1 (c7 2147483647)) (m1 1 3 1 f1)) (b7 34 (v1 93 1 1 41) (b7 36 (v1 89 1 1 46) (b7 38 (v1 89 1 1 45) (b7 40 (v1 90 1 6 128034844735589) (b7 42 (f3 95 1 (d8 3)) (b7 44 (v1 89 1 1 46) (.q (p0 0 (.q (a00 46 3 (s2 (e8 (d9 1 (d9 0 (a11 .lss 6 (s3 11 c9)))))) (f7 62 0)) (.b 1 (.d 63 (a5 (v5 3 3 (g7 0 (a4 96 (a9 (n6 (y5 a1 a6 .nils []) 1 3 3 (d6 (l8 3 48 4 (j6 (j4 3 3 (f8 2 (t0 1)))))))))))))))) (a15 70 4 3 (f5 4 2))))))))))))))))))))) 2 4) := ⟨_, by conv => rhs; reduce⟩
end Q
def cf45 : CF := Q.T45.1
set_option maxRecDepth 100000 in
theorem cf45_ok : compF TP Tryz.f45 = some cf45 := by kernel_rfl
namespace Q
set_option maxRecDepth 100000 in
def T47 : Was (s7 1 1 (a68 b6 1) (h9 8 (b2 4 1 (a4 97 k0)) 10 (a24 2 100) (h9 11 (i9 3 1 (h6 .gtr 200 (h2 (i9 2 1 (h6 .gtr 200 (n1 5)))))) 20 (a24 2 3) (e4 3 (z0 d0 a2) (n8 5 0 (b4 21 5 (a18 3 1 4) (f7 25 0) (e1 1 28 (a8 3 1 (m6 5 3 2 1 (a4 98 m0))) (h9 35 (a8 3 1 (m6 5 3 2 1 (a4 99 (s2 (h2 (a3 6 (a4 100 (h6 .gtr 4000 (n1 4))))))))) 47 (a24 2 3) (b0 48 3 (a3 6 (a4 100 (f0 .add 3 v4))) (a66 7 a2 2 (b4 52 7 (a3 6 (x0 3)) (f7 55 2) (l5 3 (b0 58 4 (a3 6 (y3 7 11 11 (a4 101 (a11 .add 7 d2)))) (b0 66 6 (y3 7 11 11 (a4 102 (h6 .gtr 60 (h2 (a3 6 (y3 7 11 11 (a4 103 (x8 (t5 .pick 7 n3))))))))) (j1 79 2 (c7 3)))) 56 7 7))))) (a39 26 5 5))) (b4 80 3 (h6 .gtr 20000 (h2 (n7 4 .gtr 1000 (n1 3)))) (j1 85 2 (c7 3)) (l4 2 a2)))))) 2) := ⟨_, by conv => rhs; reduce⟩
end Q
def cf47 : CF := Q.T47.1
set_option maxRecDepth 100000 in
theorem cf47_ok : compF TP Tryz.f47 = some cf47 := by kernel_rfl
namespace Q
set_option maxRecDepth 100000 in
def T48 : Was (a51 1 (t7 1 b6 w4 (z0 d0 a2) (h9 8 (b2 6 1 (a4 104 k0)) 10 (g0 2 (p1 d0 (c7 (-1)) (c7 6))) (n8 4 0 (b4 11 4 (a18 5 1 4) (f7 15 0) (e1 1 18 (a8 5 1 (h7 4 10 (i3 10 5 (v0 .nils a1 .nils .nils []) 10 5))) (e4 24 (e2 5 (a4 105 (o5 23 26 3 (o6 0 4 1 5 (r0 6 (a08 a7 a7 (p5 a7 a7 a7 a7 (a50 a7 a7 []))) (y9 10 6 r4)))))) (b0 29 7 (s2 (h2 (b2 6 1 (b2 10 5 (b2 10 6 (e3 106 3 b9 (z9 .pick 6 n3 (h2 (b2 6 1 (b2 10 5 (j0 107 (z9 .pick 5 n3 (h2 (b2 10 5 (a4 108 (z9 .pick 4 n3 (h2 (b2 6 1 (b2 10 5 (j0 109 (z9 .pick 5 n3 (h2 (b2 6 1 (a3 4 (b2 10 6 (e3 110 3 b9 (x8 (t5 .pick 6 n3)))))))))))))))))))))))))))) (l6 61 62 4 (a09 2 b3 3 (c7 6))))) (a39 16 4 4))) (g0 2 (z0 d0 a2))))) 2 (x9 3 [])) := ⟨_, by conv => rhs; reduce⟩
end Q
def cf48 : CF := Q.T48.1
set_option maxRecDepth 100000 in
theorem cf48_ok : compF TP Tryz.f48 = some cf48 := by kernel_rfl
end
end Ev
end Go.Proofs.YtihflniehaaakaaGreatDoor
