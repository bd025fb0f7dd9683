/-
  The functions of the program, compiled (printed by a program of ours; each is held against the program's own text below).
-/
import Derived.Test.YtihflniehaaakaaGreatDoorCkQ
namespace Go.Proofs.YtihflniehaaakaaGreatDoor
set_option linter.unusedVariables false
set_option linter.unusedSimpArgs false
namespace Ev
noncomputable section
namespace Q
set_option maxRecDepth 100000 in
def T271 : Was (g3 3 (b0 14 1 (c2 16 m0) (t8 18 (c2 10 (k8 6 1 (p4 .gtr (e8 (d9 11 (k8 6 1 (l1 (.eqd .s false) 1 c1 (s3 9 c9)))))))) 35 (c4 36 (j7 0 (w2 12 (a5 (a3 6 (d9 0 (a5 (a4 160 (a9 (p8 1 7 6 (d6 (t0 1))))))))))) (s4 47 11 (a3 6 (m2 (.bslice (q6 []) 0 2 []) [] (v7 1 3 f1 (t0 1)))) (b0 54 1 (l0 17 t2) (j5 60 60 0 (e1 1 61 (o4 2 57 (i3 2 8 (q6 []) 2 8)) (.d 63 (e7 (b1 (e7 (a07 (e7 (g9 11 (e7 (i2 (e7 (g7 6 (g7 0 (w2 11 (j7 6 (q2 1 2 (a74 (a5 (v5 0 8 (d9 0 (a5 (a4 77 (a9 (z8 (q6 []) (j2 1 1 1) 6 b3 (a9 (n6 (q6 []) 1 2 2 (d6 (l8 2 24 10 (j6 (p8 1 19 18 (f8 2 (t0 1))))))))))))))))))))))))))))))) (c3 86 59 59)))))) (q8 9 c1 (b4 87 1 (l0 17 t2) (i5 2 93 93 2 (e1 3 94 (u5 e6 (a44 2 90 (d8 92) (g8 2 (r0 11 (q6 []) (u4 10 s1 (f5 2 11)))))) (b7 97 (a8 1 11 (f9 400 3 (t6 12 l2 2 12))) (t8 101 (c2 10 (k8 6 1 (k7 .gtr g6))) 108 (c4 109 (j7 0 (w2 0 (d9 11 (k8 6 1 (m6 10 2 1 1 (u9 1 (b2 2 12 (n4 124 (a4 79 (r3 1 (f3 78 14 b9))))))))))) (d1 127 (c2 11 (k8 6 1 (m6 10 2 1 1 (a4 79 (f5 2 12))))))) (d3 139 9 (e2 11 (a8 1 12 (z8 (q6 []) (j2 1 1 1) 3 b3 (s6 (m7 (q6 []) 1 2 2) 2 24 7 9))))))) (c3 147 92 92))) (s4 148 3 (a3 9 (j0 273 (c5 13))) (a00 154 0 (d9 1 (m6 6 4 2 1 (a3 13 (d9 5 (g2 1 20 (u7 1 5 (a5 (f3 401 20 (f2 12 (i1 11)))))))))) (t8 178 (c2 10 (k8 6 1 (k7 .gtr g6))) 185 (a00 186 0 (d9 12 (k8 6 1 (a5 (n0 167 8)))) .ret) (d3 198 2 (f6 6 13 (k2 .callv l7 []))))))))))) := ⟨_, by conv => rhs; reduce⟩
end Q
def cf271 : CF := Q.T271.1
set_option maxRecDepth 100000 in
theorem cf271_ok : compF TP Tryz.f271 = some cf271 := by kernel_rfl
namespace Q
set_option maxRecDepth 100000 in
def T272 : Was (g3 2 (s4 9 4 (h7 1 21 d2) (a00 15 5 (g2 4 19 (u7 1 5 p7)) (b0 25 4 (l0 0 k4) (.b 0 (b5 30 (a21 2 3 29) 29 (d1 31 (j9 1 402 2 b3)) (b5 35 (a0 28 6 34) 34 (.d 36 (e7 (b1 (e7 (a07 (e7 (g9 0 (e7 (i2 (b1 (g2 4 1 (g1 1 (j7 0 (g7 4 (w2 2 (g1 2 (e7 (a3 5 (n4 45 (f9 400 5 (r3 5 (f9 400 5 (j6 (w1 (.bslice l2 2 2 (j2 2 2 2)) 7 (g1 1 (j6 (a06 (v0 .nils a1 .nils .nils []) (o2 0 3 1 4 1) 11 b9 (f8 2 (n0 159 16))))))))))))))))))))))))))))) (b5 57 (a0 28 7 56) 56 (.d 58 (f8 0 (b1 (f8 0 (a07 (f8 0 (g9 0 (f8 0 (i2 (b1 (g2 4 1 (g1 1 (j7 0 (w2 3 (j7 4 (w2 14 (g1 3 (f8 0 (a3 5 (n4 67 (f9 400 5 (r3 8 (f9 276 5 (f8 2 (a4 79 (f8 3 (w1 (.bslice l2 2 2 (j2 2 2 2)) 11 (g1 1 (f8 3 (a06 (v0 .nils a1 .nils .nils []) (o2 0 3 1 4 1) 11 b9 (o7 3 4 (n0 159 20)))))))))))))))))))))))))))))))) (b5 83 (a0 28 4 82) 82 (c4 84 (j7 0 (w2 0 (b1 (g2 4 1 (g1 2 (j7 4 (w2 3 (a5 (a3 5 (n4 93 (f9 400 5 (a9 (n6 l2 1 2 2 (g1 5 (a9 (a06 (v0 .nils a1 .nils .nils []) (a47 0 (o2 3 5 1 4 1)) 9 (a62 6) (d6 (n0 159 14)))))))))))))))))) (b0 102 4 (l0 3 (b08 a63)) (i5 1 107 107 1 (o9 2 108 6 (a00 109 7 (g2 4 4 (m3 6 .add 2 (n2 (.r (.lookup a03 false a7)) (i1 7)))) (c8 119 (.d 120 (e7 (b1 (e7 (a07 (e7 (g9 0 (e7 (i2 (b1 (g2 4 4 (m3 6 .add 2 (g1 1 (j7 0 (g7 4 (w2 1 (g1 2 (e7 (a3 6 (n4 131 (f9 400 7 (r3 5 (f9 400 5 (j6 (n6 l2 1 2 2 (g1 1 (j6 (a06 (v0 .nils a1 .nils .nils []) (a47 0 (a88 1 2 (a99 3 1 5 1))) 5 (a62 9) (f8 2 (n0 159 18)))))))))))))))))))))))))))))))) (c3 142 106 106))))) (b5 144 (a0 28 5 143) 143 (c4 145 (j7 0 (w2 0 (b1 (g2 4 1 (u9 2 (a3 5 (n4 154 (f9 400 5 (a9 (n6 l2 1 2 2 (g1 1 (a9 (a06 (v0 .nils a1 .nils .nils []) (o2 0 3 1 4 1) 10 b9 (d6 (n0 159 10))))))))))))))) (t7 159 (.a (.bslice o3 2 1 (j2 1 1 1))) (h8 6 (c7 7)) b00 (i5 3 162 162 3 (e1 4 163 (u5 e6 (a44 1 159 (d8 161) (i2 (r7 7 s1 8)))) (a00 166 7 (g2 4 4 (m3 7 .add 2 (n2 (.r (.lookup a03 false a7)) (i1 7)))) (c8 176 (.d 177 (e7 (b1 (e7 (a07 (e7 (g9 0 (e7 (i2 (e7 (a3 8 (b1 (g2 4 4 (m3 7 .add 2 (g1 1 (j7 0 (g7 4 (w2 1 (n4 189 (f9 400 7 (r3 5 (f9 400 5 (j6 (n6 l2 1 2 2 (j6 (z8 (v0 .nils a1 .nils .nils []) (o2 0 1 2 3 1) 16 (i1 8) (f8 2 (n0 159 18)))))))))))))))))))))))))))))) (c3 199 161 161))))) (k5 201 (a0 28 8 200) 200 (d1 202 (a3 4 (j9 5 403 3 b9)))))))))))))) := ⟨_, by conv => rhs; reduce⟩
end Q
def cf272 : CF := Q.T272.1
set_option maxRecDepth 100000 in
theorem cf272_ok : compF TP Tryz.f272 = some cf272 := by kernel_rfl
namespace Q
set_option maxRecDepth 100000 in
def T273 : Was (h1 2 4 c1 (k3 5 (b1 (c6 (b1 (c6 (l1 (.slc (.sl 2) false true true) 5 r5 (e0 (l8 2 24 2 d2)))))))) 4) := ⟨_, by conv => rhs; reduce⟩
end Q
def cf273 : CF := Q.T273.1
set_option maxRecDepth 100000 in
theorem cf273_ok : compF TP Tryz.f273 = some cf273 := by kernel_rfl
namespace Q
set_option maxRecDepth 100000 in
def T275 : Was (r1 2 (s0 4 l2 (k3 5 (e0 (x3 p3 (j2 1 1 1) 1 (f9 87 3 (f5 2 4)))))) 4 2) := ⟨_, by conv => rhs; reduce⟩
end Q
def cf275 : CF := Q.T275.1
set_option maxRecDepth 100000 in
theorem cf275_ok : compF TP Tryz.f275 = some cf275 := by kernel_rfl
namespace Q
set_option maxRecDepth 100000 in
def T276 : Was (h1 2 4 a2 (h4 6 (c6 (p6 .sub 1 5)) (p0 0 (b4 9 5 (k7 .geq a2) (f7 10 0) (a49 1 (b7 13 (m6 5 2 0 1 (e0 (y8 .eql b9))) (l6 19 20 0 (m6 5 2 1 1 d2))) (a64 11 5 .sub 1 5)))) (l4 4 a2)) 4) := ⟨_, by conv => rhs; reduce⟩
end Q
def cf276 : CF := Q.T276.1
set_option maxRecDepth 100000 in
theorem cf276_ok : compF TP Tryz.f276 = some cf276 := by kernel_rfl
namespace Q
set_option maxRecDepth 100000 in
def T280 : Was (g3 3 (e4 4 (a32 b6 (d8 1) b6 (d8 2)) (h9 7 (w5 (.fa 0) e6 (i2 (k7 .eql g6))) 9 (a22 10 1 5 (a4 79 (m1 1 4 2 f1)) (k3 14 (b2 10 4 (n0 159 2)))) (l3 17 77 m0 (a14 19 6 79 (m1 1 4 2 f1) (b7 22 (b2 10 4 (n0 159 2)) (d1 25 (x1 1 4 2 (b2 2 5 (f3 172 4 b9)))))))))) := ⟨_, by conv => rhs; reduce⟩
end Q
def cf280 : CF := Q.T280.1
set_option maxRecDepth 100000 in
theorem cf280_ok : compF TP Tryz.f280 = some cf280 := by kernel_rfl
namespace Q
set_option maxRecDepth 100000 in
def T281 : Was (h1 3 6 c1 (q8 7 c1 (b4 9 1 q3 (j5 12 12 0 (o9 1 13 8 (d3 14 7 (b1 (e0 (h7 8 11 (a3 2 (e3 170 5 b9 (s6 (m7 l2 1 2 2) 2 16 8 7))))))) (c3 23 11 11))) (d7 24 7 m0))) 6) := ⟨_, by conv => rhs; reduce⟩
end Q
def cf281 : CF := Q.T281.1
set_option maxRecDepth 100000 in
theorem cf281_ok : compF TP Tryz.f281 = some cf281 := by kernel_rfl
namespace Q
set_option maxRecDepth 100000 in
def T283 : Was (g3 4 (a19 4 b6 0 (g1 1 (a32 b6 (d8 2) b6 (d8 3))) (b0 8 1 (l0 2 k4) (.b 0 (g4 28 (j3 11 7 31370631742516833 27) 27 (.r 29 (j3 11 6 111546414232175 27)) (g5 27 (a02 30 4 (e0 (b2 2 7 (a13 (z3 408 0) 4 (d8 6) (a52 (z3 409 0) 4 (f3 407 5 (f2 4 l7))))))) (b5 37 (j3 11 1 33 36) 36 (.d 38 (a5 (b8 4 (b8 4 (g2 1 4 (b8 6 (u9 1 (b2 2 7 (n4 45 (e3 281 6 b9 (r3 1 (f3 410 9 (u1 1 33 b9))))))))))))) (.d 12 (a5 (b8 4 (j7 1 (w2 2 (b8 4 (g2 1 4 (b8 6 (u9 2 (b2 2 7 (n4 23 (e3 281 6 b9 (a9 (a06 (v0 .nils a1 .nils .nils []) (o2 0 7 1 3 1) 14 (i1 8) (r3 1 (f3 280 14 b9))))))))))))))))))))))) := ⟨_, by conv => rhs; reduce⟩
end Q
def cf283 : CF := Q.T283.1
set_option maxRecDepth 100000 in
theorem cf283_ok : compF TP Tryz.f283 = some cf283 := by kernel_rfl
namespace Q
set_option maxRecDepth 100000 in
def T284 : Was (g3 4 (a10 7 b6 (d8 3) (b7 10 (g2 1 4 (a3 2 (e3 281 6 b9 w3))) (b4 17 1 (c2 2 (a3 8 (c6 (z2 156 r5)))) (.b 0 (g4 25 (a30 2 g6 24) 24 (m9 26 23 2 24) (g5 24 (c4 27 (b1 (g2 1 2 (a3 8 (a06 (v0 .nils a1 .nils .nils []) (o2 0 7 1 3 1) 14 b9 (b2 2 7 (a5 (f3 280 8 b9))))))) .ret) (b5 37 (a0 23 3 36) 36 (c4 38 (b1 (g2 1 2 (a3 8 (b2 2 7 (a5 (f3 410 7 l7)))))) .ret) (k5 47 (a0 23 4 46) 46 (k3 48 (a3 8 (b2 2 7 (f3 286 3 (h8 22 (h8 23 (t9 a6 b9)))))))))))) (b7 52 (j9 8 285 2 b3) (s4 55 0 (c2 0 (c2 3 q3)) (i5 1 67 67 1 (o9 2 68 9 (a00 69 0 (c2 0 (c2 3 (m6 9 3 0 1 (g2 1 2 (f0 .eql 5 (e8 (d9 0 (c2 0 (c2 3 (m6 9 3 1 1 (a3 8 (a11 .eql 3 (s3 18 c9))))))))))))) (l6 106 107 0 (a3 9 (b2 2 7 (f3 286 3 (h8 16 (h8 17 (f2 2 (x2 .nils))))))))) (c3 111 66 66))))))))) := ⟨_, by conv => rhs; reduce⟩
end Q
def cf284 : CF := Q.T284.1
set_option maxRecDepth 100000 in
theorem cf284_ok : compF TP Tryz.f284 = some cf284 := by kernel_rfl
namespace Q
set_option maxRecDepth 100000 in
def T285 : Was (g3 2 (s5 6 d0 1 (j5 9 9 0 (e1 1 10 (u5 e6 (a44 2 6 (d8 8) (g8 2 (r0 5 l2 (u4 4 s1 (f5 2 5)))))) (.d 13 (a5 (b1 (a3 4 (u9 1 (b2 2 5 (n4 15 (a4 80 (r3 1 (f3 78 4 b9)))))))))) (c3 18 8 8))))) := ⟨_, by conv => rhs; reduce⟩
end Q
def cf285 : CF := Q.T285.1
set_option maxRecDepth 100000 in
theorem cf285_ok : compF TP Tryz.f285 = some cf285 := by kernel_rfl
namespace Q
set_option maxRecDepth 100000 in
def T286 : Was (g3 6 (a70 11 b6 (d8 5) (k5 15 (e2 11 (q7 .neq 2)) 17 (b7 18 (e0 (f6 3 4 (z8 (v0 .nils a1 .nils .nils []) (o2 0 5 1 3 1) 3 b9 (n0 159 5)))) (k3 24 (b2 2 11 (n0 411 2))))) (a16 12 c1 (s5 27 d0 4 (j5 30 30 0 (e1 1 31 (u5 e6 (a44 2 27 (d8 29) (g8 2 (r0 14 l2 (u4 13 s1 (f5 2 14)))))) (h9 34 (e2 14 (q7 .neq 3)) 36 (c4 37 (a5 (b1 (a3 13 (a28 .add 16 (u9 1 (b2 2 14 (n4 40 (a4 80 (r3 1 (f3 78 5 b9)))))))))) (d3 43 13 (a28 .add 16 (a4 80 (f5 2 14))))) (d3 46 12 (b2 2 14 (s6 (m7 l2 1 2 2) 2 16 3 12)))) (c3 50 29 29)))) (d1 51 (a3 2 (f6 3 12 (z8 (v0 .nils a1 .nils .nils []) (o2 0 5 1 3 1) 3 b9 (n0 159 5)))))))) := ⟨_, by conv => rhs; reduce⟩
end Q
def cf286 : CF := Q.T286.1
set_option maxRecDepth 100000 in
theorem cf286_ok : compF TP Tryz.f286 = some cf286 := by kernel_rfl
namespace Q
set_option maxRecDepth 100000 in
def T287 : Was (a51 3 (e4 6 (p1 d0 a2 c1) (s4 9 8 (e0 (a35 (.one .p) a6 2 w3)) (c4 15 (j7 0 (w2 9 (j7 8 (f6 1 1 (a07 (g8 11 (g7 2 (j0 412 (a9 (z8 (a08 .nilp .nils []) (j2 1 1 1) 6 b3 (a9 (p8 2 9 8 (d6 (t0 2)))))))))))))) (c4 28 (a3 8 (d9 9 (m6 8 2 1 1 (r7 6 (o8 9) 7)))) .ret)))) 6 (x9 7 [])) := ⟨_, by conv => rhs; reduce⟩
end Q
def cf287 : CF := Q.T287.1
set_option maxRecDepth 100000 in
theorem cf287_ok : compF TP Tryz.f287 = some cf287 := by kernel_rfl
namespace Q
set_option maxRecDepth 100000 in
def T293 : Was (b09 2 (t7 2 b6 e6 (g1 1 (a33 (o1 (m4 .nils)) [] (a32 (o1 (m4 .nils)) [] (o1 o3) []))) (.q (s5 18 d0 1 (j5 21 21 0 (e1 1 22 (a20 1 18 w3) (b0 24 8 (j8 .lss (h2 (a3 8 (b8 2 (a11 .geq 3 (n1 5)))))) (c8 31 (g0 0 (w9 1 4 c1 (w9 1 5 c1 (a65 1 6 (c7 2))))))) (c3 32 20 20)))) (c4 33 (b8 2 (c6 (w1 (.mks (m4 .nilp) 8) 1 (a5 (b8 2 (a5 (c6 (a5 (w1 (.mks (m4 a7) 1) 1 (r0 9 (m4 .nils) (r0 10 (m4 .nils) (a5 (w9 1 9 (o8 4) (d6 (f5 1 10))))))))))))))) (s0 11 (m4 .nils) (a12 39 (a13 (z3 417 0) 2 (a59 10 (a59 9 (d8 11))) (t6 12 (m4 .nilf) 1 12)) (s5 40 d0 1 (i5 2 43 43 2 (e1 3 44 (a20 1 40 (c5 14)) (a02 46 12 (a3 14 (k2 .callv (f2 2 (e9 (a23 .nilp))) []))) (c3 49 42 42)))) (.q (p0 4 (g4 50 (b8 11 (c6 (k7 .gtr a2))) 52 (.x 4) (.b 5 (t1 53 11 (b8 11 (c6 (s9 (u7 1 4 (c5 15))))) (t1 59 11 (b8 11 (c6 (s9 (l1 (w7 (.sl 1) false true) 4 b3 (f5 1 11))))) (t1 64 9 (k8 15 1 (t6 16 (m4 .nilp) 1 16)) (.q (t1 68 2 (h7 15 10 (g9 0 k4)) (.b 6 (b5 74 (a21 2 28 73) 73 (.q (c4 75 (b8 12 (b8 2 (m6 15 10 4 1 (b8 16 (a5 (k2 .callv (a62 7) (a9 k0))))))) (c8 83 (g0 0 (w9 1 4 c1 (w9 1 5 c1 (a65 1 6 (c7 182))))))) (.d 84 (b8 16 (b8 2 (m6 15 10 4 1 (a5 (f9 419 6 (d6 (f5 1 16))))))))) (k5 92 (a0 72 29 91) 91 (h9 93 (b8 16 (n2 (.r (.eq (.one .p) false)) (e9 (a23 .nilp)))) 94 (g0 0 (w9 1 4 c1 (w9 1 5 c1 (a65 1 6 (c7 182))))) (a02 95 16 (c2 1 (f5 1 16)))))))) (t1 99 2 (h7 15 10 (a3 15 (z2 299 b9))) (.b 7 (.f (.l 103) [.l 104] (.r 17 (n2 d0 (d8 104))) (.b 8 (k5 105 (b8 12 (a3 17 (b8 16 (k2 .callv l7 k0)))) 109 (g0 0 (w9 1 4 c1 (w9 1 5 c1 (a65 1 6 (c7 182))))))))))))))))) (c4 110 (b8 9 (a5 (b8 10 (a5 (y9 1 4 (d6 (w9 1 5 b3 (f8 2 (a65 1 6 a2))))))))) .ret))))))) (b01 4 false 1) [b01 5 false 1, b01 6 false 1]) := ⟨_, by conv => rhs; reduce⟩
end Q
def cf293 : CF := Q.T293.1
set_option maxRecDepth 100000 in
theorem cf293_ok : compF TP Tryz.f293 = some cf293 := by kernel_rfl
namespace Q
set_option maxRecDepth 100000 in
def T294 : Was (s7 1 1 (a31 b6 1 c1) (s0 3 (m4 .nils) (a12 10 (a52 (z3 420 0) 3 d2) (i6 11 3 1 t2 (j5 15 15 0 (e1 1 16 (o4 2 12 (i3 2 6 l2 2 6)) (d3 18 4 (b2 2 6 (r6 .callv 2 []))) (c3 21 14 14)))) (.q (i6 22 9 1 t2 (i5 2 26 26 2 (e1 3 27 (o4 6 23 (i3 6 8 (a95 (a85 a6 a7 [])) 6 8)) (b0 29 4 (x1 1 8 2 (r6 .callv 3 [])) (d3 33 4 (x1 3 8 2 (r6 .callv 3 [])))) (c3 37 25 25)))) (.q (i6 38 0 1 k4 (.b 4 (g4 41 (a21 2 15 40) 40 (c0 42 (a0 39 18 40) 40 (c0 43 (a0 39 19 40) 40 (c0 44 (a0 39 20 40) 40 (m9 45 39 21 40)))) (g5 40 (k5 46 (a8 5 1 (q7 .leq 16)) 48 (i6 49 5 1 (b08 a63) (i5 5 52 52 5 (o9 6 53 9 (.d 54 (a5 (b8 3 (g7 9 (a4 422 (a9 (n6 l2 1 2 2 (d6 (l8 2 16 4 (f8 2 (f5 1 3))))))))))) (c3 59 51 51))))) (k5 61 (a0 39 26 60) 60 (.d 62 (a5 (b8 3 (a5 (v8 422 a2 (a9 (n6 l2 1 2 2 (d6 (l8 2 16 3 (f8 2 (f5 1 3)))))))))))))))) (g0 66 (b8 3 d4)))))) 2) := ⟨_, by conv => rhs; reduce⟩
end Q
def cf294 : CF := Q.T294.1
set_option maxRecDepth 100000 in
theorem cf294_ok : compF TP Tryz.f294 = some cf294 := by kernel_rfl
namespace Q
set_option maxRecDepth 100000 in
def T295 : Was (s7 1 1 (a31 b6 1 c1) (q8 3 c1 (h9 4 (x1 1 1 2 (a61 (.call 421))) 6 (d3 7 3 (x1 1 1 2 (s6 (m7 l2 1 2 2) 2 16 4 3))) (.q (i6 12 0 1 k4 (.b 0 (g4 15 (a21 2 15 14) 14 (c0 16 (a0 13 16 14) 14 (c0 17 (a0 13 18 14) 14 (c0 18 (a0 13 20 14) 14 (c0 19 (a0 13 22 14) 14 (m9 20 13 37 14))))) (c8 14 (c4 21 (a5 (j4 1 1 (a5 (g8 2 (a5 (v8 422 a2 (a9 (n2 (.r (.eq (.agg [.i, .i]) true)) b9)))))))) (c8 24 (d3 25 3 (v8 422 a2 (s6 (m7 l2 1 2 2) 2 16 3 3))))))))) (d7 29 3 d4)))) 2) := ⟨_, by conv => rhs; reduce⟩
end Q
def cf295 : CF := Q.T295.1
set_option maxRecDepth 100000 in
theorem cf295_ok : compF TP Tryz.f295 = some cf295 := by kernel_rfl
namespace Q
set_option maxRecDepth 100000 in
def T296 : Was (g3 1 (b7 3 (c6 d4) (d1 5 (f6 2 2 (h3 (.toInt .u64) (a4 424 (f3 423 5 (t9 a6 (i1 4))))))))) := ⟨_, by conv => rhs; reduce⟩
end Q
def cf296 : CF := Q.T296.1
set_option maxRecDepth 100000 in
theorem cf296_ok : compF TP Tryz.f296 = some cf296 := by kernel_rfl
namespace Q
set_option maxRecDepth 100000 in
def T297 : Was (h1 1 2 c1 (h4 6 (c6 (x4 a01 (e9 (c7 2)))) (l6 8 9 0 d4) (a72 3 g6 0 (b4 10 3 (b1 (x0 3)) (f7 13 0) (l5 1 (c4 16 (b1 (k8 3 1 (b1 (n7 3 .sub 1 (u7 1 3 (y8 .eql (i1 6))))))) (c8 25 (b7 26 (s8 3 (w7 (.sl 1) true false) 2 b3 d2) (a72 5 g6 2 (b4 29 5 (a3 4 (x0 3)) (f7 32 2) (l5 3 (c4 35 (a3 4 (k8 5 1 (f6 4 5 (s9 (u7 1 3 (y8 .neq (i1 6))))))) (c8 44 (b7 45 (f6 3 4 (k8 5 1 (p8 1 6 5 (t0 1)))) (a39 52 3 3)))) 33 5 5)) (b7 54 (s8 3 (w7 (.sl 1) true false) 2 b3 (z4 (a81 (.clear o3) b3))) (k3 57 (s8 3 (w7 (.sl 1) false true) 2 b3 d4))))))) 14 3 3)) (k3 60 d4))) 2) := ⟨_, by conv => rhs; reduce⟩
end Q
def cf297 : CF := Q.T297.1
set_option maxRecDepth 100000 in
theorem cf297_ok : compF TP Tryz.f297 = some cf297 := by kernel_rfl
namespace Q
set_option maxRecDepth 100000 in
def T298 : Was (h1 3 6 (a23 .nilp) (a12 10 (r9 (m4 .nils) [] [] (k2 b6 b3 r4)) (s5 12 d0 0 (j5 15 15 0 (e1 1 16 (o4 2 12 (i3 2 9 l2 2 9)) (k5 18 (e2 9 (e0 (y8 .eql b9))) 21 (d3 22 7 (a3 2 (a8 1 9 (a35 a03 a6 3 (n0 425 5)))))) (c3 28 14 14)))) (d7 29 7 m0)) 6) := ⟨_, by conv => rhs; reduce⟩
end Q
def cf298 : CF := Q.T298.1
set_option maxRecDepth 100000 in
theorem cf298_ok : compF TP Tryz.f298 = some cf298 := by kernel_rfl
namespace Q
set_option maxRecDepth 100000 in
def T299 : Was (z1 2 (t7 2 b6 e6 (p1 b6 e6 (a23 .nilf)) (g0 5 (a13 (z3 426 0) 2 e6 d2))) 4) := ⟨_, by conv => rhs; reduce⟩
end Q
def cf299 : CF := Q.T299.1
set_option maxRecDepth 100000 in
theorem cf299_ok : compF TP Tryz.f299 = some cf299 := by kernel_rfl
namespace Q
set_option maxRecDepth 100000 in
def T300 : Was (v3 3 6 (q8 7 e5 (b4 10 1 (l0 0 t2) (j5 16 16 0 (e1 1 17 (u5 e6 (a44 1 13 (d8 15) (i2 (r7 8 s1 9)))) (b4 20 2 (k2 (.r (.eq (.one .p) true)) (e9 (a23 .nilp)) (e8 (a3 8 (g2 2 0 (a11 .lss 6 (s3 8 c9)))))) (c8 30 (d3 31 9 (g2 2 0 (k8 8 1 (f0 .andNot 8 (c5 9)))))) (b4 40 8 (d9 0 (c6 (y8 .geq (i1 6)))) (c8 46 (d1 47 (d9 0 (m2 (m7 (m4 (.int .u64 0)) 1 1 1) (m8 .u64 0) (l8 1 8 2 (w0 7 0 1 3)))))) (b0 56 9 (d9 0 (k8 8 1 (f0 .andNot 8 (k7 .neq (m8 .u64 0))))) (c8 65 (s4 66 0 (k8 8 1 (m3 9 .or 2 (p8 1 6 5 (t0 1)))) (.r 7 (n2 d0 d5))))))) (c3 76 15 15))) (d7 77 7 m0))) 6) := ⟨_, by conv => rhs; reduce⟩
end Q
def cf300 : CF := Q.T300.1
set_option maxRecDepth 100000 in
theorem cf300_ok : compF TP Tryz.f300 = some cf300 := by kernel_rfl
namespace Q
set_option maxRecDepth 100000 in
def T301 : Was (h1 1 2 c1 (q8 3 c1 (h4 6 (l0 0 t2) (j5 12 12 0 (e1 1 13 (u5 e6 (a44 1 9 (d8 11) (i2 (r7 4 s1 5)))) (p0 2 (b4 16 5 (k7 .neq (m8 .u64 0)) (f7 17 2) (a49 3 (d3 22 3 (a3 4 (a28 .mul 64 (a3 5 (a4 427 (f0 .add 3 (s6 (m7 o3 1 1 1) 1 8 7 3))))))) (d3 18 5 (n5 5 .sub 1 (m8 .u64 1) (f0 .and 3 p7)))))) (c3 30 11 11))) (d7 31 3 d4))) 2) := ⟨_, by conv => rhs; reduce⟩
end Q
def cf301 : CF := Q.T301.1
set_option maxRecDepth 100000 in
theorem cf301_ok : compF TP Tryz.f301 = some cf301 := by kernel_rfl
namespace Q
set_option maxRecDepth 100000 in
def T302 : Was (x5 2 4 5 (e0 (j0 428 (j8 .geq d2))) 4) := ⟨_, by conv => rhs; reduce⟩
end Q
def cf302 : CF := Q.T302.1
set_option maxRecDepth 100000 in
theorem cf302_ok : compF TP Tryz.f302 = some cf302 := by kernel_rfl
namespace Q
set_option maxRecDepth 100000 in
def T303 : Was (h1 2 4 c1 (q8 5 c1 (h4 8 (c2 0 (c2 1 (e0 (a97 (.call 429) b9)))) (j5 19 19 0 (e1 1 20 (a20 1 16 r4) (d3 22 5 (d9 1 (k8 7 1 (a34 1 8 8 5)))) (c3 31 18 18))) (d7 32 5 d2))) 4) := ⟨_, by conv => rhs; reduce⟩
end Q
def cf303 : CF := Q.T303.1
set_option maxRecDepth 100000 in
theorem cf303_ok : compF TP Tryz.f303 = some cf303 := by kernel_rfl
namespace Q
set_option maxRecDepth 100000 in
def T304 : Was (h1 3 6 (a23 .nilp) (s4 10 3 (e0 (a83 a03 true .nilp 2 (o5 9 15 6 (o6 0 7 1 8 (r7 7 f1 8))))) (b4 18 8 k0 (c8 19 (b0 20 1 (f6 2 2 (z8 (a85 a6 a7 []) (o2 0 1 1 2 1) 3 b9 (k2 b6 b3 r4))) (d1 25 (c2 3 (f6 1 7 (z4 (z5 a03 l7))))))) (c4 31 (g7 7 (a3 7 (g2 7 1 (s8 2 .mins 2 b3 (g2 7 2 (j7 2 (l1 .maxs 2 b3 (y2 14 1 (a5 (x7 1 (o8 9) (a9 (v6 .nilc 15 (a17 2 (d6 (m5 1 5))))))))))))))) (d7 49 7 m0)))) 6) := ⟨_, by conv => rhs; reduce⟩
end Q
def cf304 : CF := Q.T304.1
set_option maxRecDepth 100000 in
theorem cf304_ok : compF TP Tryz.f304 = some cf304 := by kernel_rfl
namespace Q
set_option maxRecDepth 100000 in
def T305 : Was (v3 1 2 (.q (a27 3 0 (.b 0 (g4 5 (a21 2 15 4) 4 (c0 6 (a0 3 16 4) 4 (c0 7 (a0 3 18 4) 4 (c0 8 (a0 3 20 4) 4 (c0 9 (a0 3 22 4) 4 (m9 10 3 37 4))))) (j1 4 2 d5)))) (q0 2)) 2) := ⟨_, by conv => rhs; reduce⟩
end Q
def cf305 : CF := Q.T305.1
set_option maxRecDepth 100000 in
theorem cf305_ok : compF TP Tryz.f305 = some cf305 := by kernel_rfl
namespace Q
set_option maxRecDepth 100000 in
def T306 : Was (g3 2 (a10 3 b6 e6 (d1 4 (w5 (z3 431 0) e6 (n0 430 2))))) := ⟨_, by conv => rhs; reduce⟩
end Q
def cf306 : CF := Q.T306.1
set_option maxRecDepth 100000 in
theorem cf306_ok : compF TP Tryz.f306 = some cf306 := by kernel_rfl
namespace Q
set_option maxRecDepth 100000 in
def T307 : Was (h1 1 2 a2 (k3 3 (c2 1 d4)) 2) := ⟨_, by conv => rhs; reduce⟩
end Q
def cf307 : CF := Q.T307.1
set_option maxRecDepth 100000 in
theorem cf307_ok : compF TP Tryz.f307 = some cf307 := by kernel_rfl
namespace Q
set_option maxRecDepth 100000 in
def T309 : Was (s7 2 3 (z0 b6 e6) (b7 6 (a52 (z3 311 0) 3 (j0 310 p7)) (b4 9 5 (x4 a01 (e9 a2)) (l6 10 11 0 (c6 d2)) (d7 13 5 d2))) 4) := ⟨_, by conv => rhs; reduce⟩
end Q
def cf309 : CF := Q.T309.1
set_option maxRecDepth 100000 in
theorem cf309_ok : compF TP Tryz.f309 = some cf309 := by kernel_rfl
namespace Q
set_option maxRecDepth 100000 in
def T310 : Was (h1 2 4 a2 (h4 6 q3 (j5 9 9 0 (o9 1 10 5 (b0 11 1 (b1 (k8 5 1 (n2 .callv (i1 5)))) (l6 16 17 5 d2)) (c3 18 8 8))) (a24 4 (-1))) 4) := ⟨_, by conv => rhs; reduce⟩
end Q
def cf310 : CF := Q.T310.1
set_option maxRecDepth 100000 in
theorem cf310_ok : compF TP Tryz.f310 = some cf310 := by kernel_rfl
namespace Q
set_option maxRecDepth 100000 in
def T311 : Was (x5 2 3 4 (b8 1 (f0 .lss 2 v4)) 3) := ⟨_, by conv => rhs; reduce⟩
end Q
def cf311 : CF := Q.T311.1
set_option maxRecDepth 100000 in
theorem cf311_ok : compF TP Tryz.f311 = some cf311 := by kernel_rfl
namespace Q
set_option maxRecDepth 100000 in
def T312 : Was (v3 1 2 (.q (a27 3 0 (.b 0 (g4 5 (a21 2 26 4) 4 (c0 6 (a0 3 17 4) 4 (c0 7 (a0 3 19 4) 4 (c0 8 (a0 3 21 4) 4 (m9 9 3 23 4)))) (j1 4 2 d5)))) (q0 2)) 2) := ⟨_, by conv => rhs; reduce⟩
end Q
def cf312 : CF := Q.T312.1
set_option maxRecDepth 100000 in
theorem cf312_ok : compF TP Tryz.f312 = some cf312 := by kernel_rfl
namespace Q
set_option maxRecDepth 100000 in
def T313 : Was (r1 2 (e4 3 (a32 b6 e6 (o1 l2) []) (h9 5 (w5 (.fa 0) e6 (i2 (q7 .eql 4))) 7 (a00 8 4 (a8 1 3 (a35 a03 (.agg l2) 3 (a5 (f5 2 4)))) .ret) (a15 15 2 3 (f5 2 4)))) 4 2) := ⟨_, by conv => rhs; reduce⟩
end Q
def cf313 : CF := Q.T313.1
set_option maxRecDepth 100000 in
theorem cf313_ok : compF TP Tryz.f313 = some cf313 := by kernel_rfl
namespace Q
set_option maxRecDepth 100000 in
def T314 : Was (h1 2 4 a2 (q8 5 a2 (h4 9 (e0 (a97 (.call 303) b9)) (j5 14 14 0 (e1 1 15 (a20 1 11 r4) (s4 17 4 (a3 7 (a35 a03 (.agg l2) 2 (t6 8 l2 2 8))) (k5 23 (e2 8 (k7 .eql g6)) 25 (d3 26 5 (a8 1 8 (p4 .add (l1 .maxs 4 b3 p7)))))) (c3 31 13 13))) (d7 32 5 d2))) 4) := ⟨_, by conv => rhs; reduce⟩
end Q
def cf314 : CF := Q.T314.1
set_option maxRecDepth 100000 in
theorem cf314_ok : compF TP Tryz.f314 = some cf314 := by kernel_rfl
namespace Q
set_option maxRecDepth 100000 in
def T315 : Was (h1 1 2 n9 (k3 3 (k9 316 (c7 10) d4)) 2) := ⟨_, by conv => rhs; reduce⟩
end Q
def cf315 : CF := Q.T315.1
set_option maxRecDepth 100000 in
theorem cf315_ok : compF TP Tryz.f315 = some cf315 := by kernel_rfl
namespace Q
set_option maxRecDepth 100000 in
def T316 : Was (h1 2 4 n9 (b4 10 1 (q7 .eql 10) (c8 11 (h4 12 (a79 .leq (x2 a6) (v2 (h6 .lss 100 (s3 3 c9)))) (l6 17 18 0 (a4 433 d2)) (s0 5 (p5 i8 i8 i8 i8 (p5 i8 i8 i8 i8 (p5 i8 i8 i8 i8 (p5 i8 i8 i8 i8 (p5 i8 i8 i8 i8 (p5 i8 i8 i8 i8 [])))))) (b7 20 (h3 (.toInt .u64) m0) (t8 22 (x4 a01 (e9 a2)) 23 (d3 24 6 (h3 (.un .neg) m0)) (a14 26 6 434 r4 (b0 28 7 (a28 .add 1 (a13 (w7 (.arr 24 1) true true) 5 (a73 1) (j9 6 435 2 b3))) (t8 33 (x4 a01 (e9 a2)) 34 (e4 35 (a13 (.ixarrp 24 1) 5 a2 (y1 1 (m8 .u8 45))) (d7 36 7 (a28 .add 1 (a13 (w7 (.arr 24 1) false true) 5 b3 (k2 (.r .b2s) b3 d2))))) (d7 40 7 (a28 .add 1 (a13 (w7 (.arr 24 1) true true) 5 (a73 1) (k2 (.r .b2s) b3 d2)))))))))))) (b7 45 (h3 (.toInt .u64) (e0 (n5 0 .lss 1 a2 (v8 436 (t9 .nils (f2 4 (f2 3 c9))) (o5 44 50 6 (o6 0 7 1 8 (z6 8 (a56 51 [] (n2 d0 (a80 52 [])))))))))) (d7 53 9 d2))) 4) := ⟨_, by conv => rhs; reduce⟩
end Q
def cf316 : CF := Q.T316.1
set_option maxRecDepth 100000 in
theorem cf316_ok : compF TP Tryz.f316 = some cf316 := by kernel_rfl
namespace Q
set_option maxRecDepth 100000 in
def T317 : Was (x5 1 2 3 (a4 182 (a26 (a4 183 (u8 3 (b1 (a4 186 (u8 3 (n5 0 .eql 1 (m8 .u8 95) (u8 3 (n5 0 .eql 1 (m8 .u8 64) (k6 3 d4))))))))))) 2) := ⟨_, by conv => rhs; reduce⟩
end Q
def cf317 : CF := Q.T317.1
set_option maxRecDepth 100000 in
theorem cf317_ok : compF TP Tryz.f317 = some cf317 := by kernel_rfl
namespace Q
set_option maxRecDepth 100000 in
def T318 : Was (v3 2 4 (n8 5 0 (g4 6 (u5 w4 (e0 (x0 3))) 9 (.x 0) (l5 1 (b0 12 1 (k8 5 1 (b1 (y8 .eql b9))) (j1 17 4 d5)) 10 5 5)) (q0 4)) 4) := ⟨_, by conv => rhs; reduce⟩
end Q
def cf318 : CF := Q.T318.1
set_option maxRecDepth 100000 in
theorem cf318_ok : compF TP Tryz.f318 = some cf318 := by kernel_rfl
namespace Q
set_option maxRecDepth 100000 in
def T319 : Was (h1 0 0 c1 (g0 1 (m2 (.bslice (m4 a1) 24 1 (a47 0 (u6 1 2 (u6 3 4 (u6 5 6 (u6 7 8 (u6 9 10 (u6 11 12 (u6 13 14 (u6 15 16 (u6 17 18 (u6 19 20 (o2 21 22 1 23 1))))))))))))) (u1 5 491328398945 (x6 3 6581857 7 31370631742516833 (x6 4 1684955490 5 474214786402 (x6 4 1953459810 3 7499618 (x6 3 7107426 3 7500642 (x6 4 1919907938 4 1702060387 (x6 5 448345170275 3 7760228 (x6 3 6581861 3 7239014 (x6 3 7630702 2 26223 (x6 2 29295 6 111546414232175 (x6 7 28559167692432754 3 7169394 (x6 3 7959156 4 1852139639 (h0 3 7499640))))))))))))) (c5 0))) 0) := ⟨_, by conv => rhs; reduce⟩
end Q
def cf319 : CF := Q.T319.1
set_option maxRecDepth 100000 in
theorem cf319_ok : compF TP Tryz.f319 = some cf319 := by kernel_rfl
namespace Q
set_option maxRecDepth 100000 in
def T320 : Was (r1 2 (a70 4 (o1 (w6 a1 (.int .u64 0) [])) [] (a00 5 3 (h2 (d9 1 (m3 1 .add 2 (d9 0 (a11 .geq 6 (n1 13)))))) (c8 22 (g0 23 (r9 (w6 a1 (.int .u64 0) []) [] [] (f5 4 4))))) (a00 24 0 (d9 1 (m3 1 .add 2 (q2 4 7 (g8 4 (a5 (f5 4 4)))))) .ret)) 4 4) := ⟨_, by conv => rhs; reduce⟩
end Q
def cf320 : CF := Q.T320.1
set_option maxRecDepth 100000 in
theorem cf320_ok : compF TP Tryz.f320 = some cf320 := by kernel_rfl
namespace Q
set_option maxRecDepth 100000 in
def T321 : Was (h1 2 4 c1 (h4 5 (e0 (z2 91 b9)) (j1 7 4 c1) (k3 8 (a4 437 d2))) 4) := ⟨_, by conv => rhs; reduce⟩
end Q
def cf321 : CF := Q.T321.1
set_option maxRecDepth 100000 in
theorem cf321_ok : compF TP Tryz.f321 = some cf321 := by kernel_rfl
namespace Q
set_option maxRecDepth 100000 in
def T322 : Was (g3 2 (t8 4 (z2 91 (e9 (h0 4 1852139639))) 5 (l3 6 191 [] (p0 0 (h4 8 (c2 3 k0) (f7 12 0) (.b 1 (c4 13 (e7 (g7 1 (g7 1 (w2 2 (g7 0 (a4 437 (a9 (n6 (m4 .nils) 1 1 1 (d6 (l8 1 24 4 (j6 (v6 .nilc 9 (j6 (g9 2 (f8 2 (m5 1 3)))))))))))))))) (t8 24 (z7 91 1 59 k0) 26 (.x 0) (d1 27 (a4 191 [])))))))) (b7 29 (v1 89 1 2 15917) (d3 31 1 (b1 (a4 438 (w0 3 3 1 3))))))) := ⟨_, by conv => rhs; reduce⟩
end Q
def cf322 : CF := Q.T322.1
set_option maxRecDepth 100000 in
theorem cf322_ok : compF TP Tryz.f322 = some cf322 := by kernel_rfl
namespace Q
set_option maxRecDepth 100000 in
def T323 : Was (v3 1 2 (n8 3 0 (g4 4 (u5 w4 (b1 (x0 3))) 7 (.x 0) (l5 1 (b7 10 (y3 3 11 11 (a4 439 k0)) (j1 15 2 e5)) 8 3 3)) (l4 2 d5)) 2) := ⟨_, by conv => rhs; reduce⟩
end Q
def cf323 : CF := Q.T323.1
set_option maxRecDepth 100000 in
theorem cf323_ok : compF TP Tryz.f323 = some cf323 := by kernel_rfl
namespace Q
set_option maxRecDepth 100000 in
def T324 : Was (v3 1 2 (n8 3 0 (g4 4 (u5 w4 (b1 (x0 3))) 7 (.x 0) (l5 1 (b7 10 (m6 3 23 0 1 (v2 (h7 3 23 (g9 1 (g8 11 (a4 439 (z9 .pick 8 c9 (a26 (m6 3 23 0 1 (s2 (v2 (h7 3 23 (g9 1 (g8 11 (a4 440 (a82 a75 15 false (l1 .pick 8 c9 (u8 16 (b1 (h7 3 23 (g9 12 (g8 11 (a4 439 (x8 (t5 .pick 8 n3))))))))))))))))))))))))) (j1 49 2 e5)) 8 3 3)) (k3 50 (c6 (j8 .gtr d4)))) 2) := ⟨_, by conv => rhs; reduce⟩
end Q
def cf324 : CF := Q.T324.1
set_option maxRecDepth 100000 in
theorem cf324_ok : compF TP Tryz.f324 = some cf324 := by kernel_rfl
namespace Q
set_option maxRecDepth 100000 in
def T325 : Was (v3 2 4 (n8 5 0 (g4 6 (u5 w4 (e0 (h3 y6 (f0 .add 3 (b1 (h3 y6 (y8 .leq r5))))))) 12 (.x 0) (l5 1 (b7 15 (a3 5 (f6 5 1 (h3 y6 (f0 .add 3 (l1 (w7 .str true true) 6 (i1 5) (e0 (y8 .eql b9))))))) (j1 23 4 d5)) 13 5 5)) (q0 4)) 4) := ⟨_, by conv => rhs; reduce⟩
end Q
def cf325 : CF := Q.T325.1
set_option maxRecDepth 100000 in
theorem cf325_ok : compF TP Tryz.f325 = some cf325 := by kernel_rfl
namespace Q
set_option maxRecDepth 100000 in
def T326 : Was (h1 1 2 n9 (.q (a27 3 0 (.b 0 (b5 5 (a30 2 g6 4) 4 (l4 2 (b46 213)) (b5 7 (a0 3 2 6) 6 (l4 2 (b45 132)) (b5 9 (a0 3 3 8) 8 (l4 2 (b44 328)) (k5 11 (a0 3 4 10) 10 (l4 2 (h0 17 10957072869970414450092540666349991518496)))))))) (l4 2 (h0 1 32))) 2) := ⟨_, by conv => rhs; reduce⟩
end Q
def cf326 : CF := Q.T326.1
set_option maxRecDepth 100000 in
theorem cf326_ok : compF TP Tryz.f326 = some cf326 := by kernel_rfl
namespace Q
set_option maxRecDepth 100000 in
def T328 : Was (h1 2 4 a2 (b4 5 1 (b1 (x0 3)) (l6 8 9 0 (k8 1 1 d2)) (l4 4 a2)) 4) := ⟨_, by conv => rhs; reduce⟩
end Q
def cf328 : CF := Q.T328.1
set_option maxRecDepth 100000 in
theorem cf328_ok : compF TP Tryz.f328 = some cf328 := by kernel_rfl
namespace Q
set_option maxRecDepth 100000 in
def T329 : Was (h1 1 2 c1 (b7 5 (c6 v4) (.q (p0 0 (b4 7 3 (j8 .gtr (v2 (n7 3 .sub 1 (u7 1 3 (r2 (s3 7 c9)))))) (f7 16 0) (.b 1 (a64 17 3 .sub 1 3)))) (q8 4 c1 (d7 19 4 (b1 (s8 3 (w7 (.sl 1) false true) 2 b3 (l8 1 8 4 d4))))))) 2) := ⟨_, by conv => rhs; reduce⟩
end Q
def cf329 : CF := Q.T329.1
set_option maxRecDepth 100000 in
theorem cf329_ok : compF TP Tryz.f329 = some cf329 := by kernel_rfl
namespace Q
set_option maxRecDepth 100000 in
def T330 : Was (z1 3 (a19 3 b6 0 (a33 b6 (d8 1) (z0 b6 (d8 2))) (a49 0 (b5 10 (e2 5 (p6 .eql 1 9)) 9 (c4 14 (b2 6 3 (b2 7 4 (a8 3 5 (v7 2 1 a2 (g8 2 (a5 (e3 210 6 (i1 5) (z6 13 (a9 (a60 20 [] 7 (a9 (v9 0 8 (a9 (v9 1 9 (a9 (u4 7 f1 (z6 8 (a9 (a56 22 [] []))))))))))))))))))) (d7 23 7 m0)) (g4 25 (e2 5 (p6 .eql 2 24)) 24 (.r 28 (e2 5 (i0 13 (i4 7 5 (q9 .eql 1 (h0 2 32123) (f4 4 (c5 24))))))) (g5 24 (g0 36 (i9 3 5 (a89 .add (a73 3) 6))) (g4 41 (e2 5 (p6 .eql 3 40)) 40 (.r 44 (e2 5 (i0 13 (i4 7 5 (q9 .eql 1 (h0 1 124) (f4 4 (c5 40))))))) (j1 40 6 (c7 2)))))) (l4 6 g6))) 6) := ⟨_, by conv => rhs; reduce⟩
end Q
def cf330 : CF := Q.T330.1
set_option maxRecDepth 100000 in
theorem cf330_ok : compF TP Tryz.f330 = some cf330 := by kernel_rfl
namespace Q
set_option maxRecDepth 100000 in
def T331 : Was (r1 3 (a19 3 b6 0 (a33 b6 (d8 1) (g1 1 (n2 (o1 (u3 .nils .nils (q5 a7 []))) []))) (q8 7 c1 (h9 8 (e2 4 (q7 .eql 2)) 10 (b0 11 7 (a8 2 3 (a34 1 8 3 7)) (b0 15 7 (a8 1 4 (t3 2 1 4 f1 (t0 1))) (d3 20 7 (m1 2 3 1 f1)))) (h9 22 (e2 4 (k7 .eql g6)) 24 (b0 25 7 (a8 1 3 (a34 1 8 3 7)) (.q (p0 0 (b4 29 7 (c6 (a8 1 4 (y8 .leq r5))) (f7 33 0) (.b 1 (d3 34 7 (m2 (m7 o3 1 1 1) a2 (a34 1 8 2 7)))))) (b0 37 7 (a8 1 4 (t3 2 1 4 f1 (t0 1))) (d3 42 7 (a4 329 (m1 1 3 1 f1)))))) (a15 45 7 3 (f5 7 6)))))) 6 7) := ⟨_, by conv => rhs; reduce⟩
end Q
def cf331 : CF := Q.T331.1
set_option maxRecDepth 100000 in
theorem cf331_ok : compF TP Tryz.f331 = some cf331 := by kernel_rfl
namespace Q
set_option maxRecDepth 100000 in
def T334 : Was (h1 2 4 c1 (q8 5 c1 (b4 10 1 (j8 .lss (h2 (e0 (b1 (a11 .geq 3 (n1 5)))))) (l6 17 18 5 d2) (b7 19 (h7 1 10 (i3 10 6 (v0 .nils a1 .nils .nils []) 10 6)) (a16 7 c1 (i6 23 0 6 k4 (.b 0 (g4 31 (a0 24 17 30) 30 (c0 32 (a0 24 19 30) 30 (c0 33 (a0 24 21 30) 30 (c0 34 (a0 24 23 30) 30 (c0 35 (a0 24 26 30) 30 (m9 36 24 27 30))))) (g5 30 .skip (g4 38 (a0 24 8 37) 37 (m9 39 24 39 37) (g5 37 (d3 40 7 (a8 4 6 (s6 (m7 o3 1 1 1) 1 8 4 7))) (b5 46 (a0 24 12 45) 45 (b0 47 7 (a8 4 6 (s6 (m7 o3 1 1 1) 1 8 4 7)) (a66 8 a2 1 (b4 52 8 (a18 8 6 4) (f7 56 1) (l5 2 (d3 59 7 (a8 8 6 (m6 8 2 1 1 (s6 (m7 o3 1 1 1) 1 8 8 7)))) 57 8 8)))) (g4 69 (a0 24 9 68) 68 (c0 70 (a0 24 10 68) 68 (c0 71 (a0 24 11 68) 68 (c0 72 (a0 24 13 68) 68 (c0 73 (a0 24 30 68) 68 (c0 74 (a0 24 31 68) 68 (c0 75 (a0 24 32 68) 68 (c0 76 (a0 24 33 68) 68 (c0 77 (a0 24 34 68) 68 (c0 78 (a0 24 37 68) 68 (m9 79 24 40 68)))))))))) (g5 68 (d3 80 7 (n7 1 .add 1 (a8 4 6 (w1 (.bslice o3 2 1 (j2 1 1 1)) 3 (a34 1 8 6 7))))) (d3 25 7 (n7 1 .add 1 (s6 (m7 o3 1 1 1) 1 8 4 7)))))))))))) (n8 9 3 (b4 87 9 (a3 7 (x0 3)) (f7 90 3) (l5 4 (b0 93 7 (k8 9 1 (j8 .geq (e8 (a3 7 (k8 9 1 (b1 (a11 .lss 3 (s3 8 c9)))))))) (c8 106 (d3 107 5 (a3 7 (k8 9 1 (f9 441 5 p7)))))) 91 9 9)) (d7 113 5 d2)))))) 4) := ⟨_, by conv => rhs; reduce⟩
end Q
def cf334 : CF := Q.T334.1
set_option maxRecDepth 100000 in
theorem cf334_ok : compF TP Tryz.f334 = some cf334 := by kernel_rfl
namespace Q
set_option maxRecDepth 100000 in
def T335 : Was (s7 1 1 (a31 b6 1 e5) (g0 3 (w5 (.fa 0) e6 (i2 (r2 (i4 1 1 (r2 (l9 4 1 2 1 (r2 (l9 4 1 3 1 (q9 .eql 1 n9 (l9 4 1 4 1 (q9 .eql 1 n9 (l9 4 1 5 1 (r2 (l9 4 1 6 1 (c6 (r2 (l9 5 1 7 1 (q9 .eql 1 n9 (l9 4 1 8 1 (r2 (f4 4 d4)))))))))))))))))))))) 2) := ⟨_, by conv => rhs; reduce⟩
end Q
def cf335 : CF := Q.T335.1
set_option maxRecDepth 100000 in
theorem cf335_ok : compF TP Tryz.f335 = some cf335 := by kernel_rfl
namespace Q
set_option maxRecDepth 100000 in
def T336 : Was (r1 1 (a12 1 (a32 b6 w4 (o1 p3) []) (e4 3 (w5 (.fa 0) e6 k4) (.b 0 (b5 6 (a30 2 g6 5) 5 (.r 7 (m1 1 1 1 a2)) (b5 9 (a0 4 2 8) 8 (.r 10 (m1 3 1 1 n9)) (g4 12 (a0 4 3 11) 11 (m9 13 4 6 11) (g5 11 (.r 14 (t4 1 1 1 a2 (t4 2 1 1 a2 (m1 3 1 1 n9)))) (b5 18 (a0 4 4 17) 17 (.r 19 (t4 1 1 1 a2 (t4 2 1 1 a2 (t4 3 1 1 n9 (t4 5 1 1 a2 (m1 6 1 1 c1)))))) (b5 25 (a0 4 5 24) 24 (.r 26 (t4 3 1 1 n9 (t4 4 1 1 n9 (m1 5 1 1 a2)))) (g4 30 (a0 4 7 29) 29 (m9 31 4 9 29) (g5 29 (.r 32 (m1 6 1 1 c1)) (k5 34 (a0 4 10 33) 33 (.r 35 (t4 7 1 1 n9 (m1 8 1 1 a2)))))))))))))) (i6 37 0 1 (y1 1 a2) (a15 38 9 1 (f5 9 2)))) 2 9) := ⟨_, by conv => rhs; reduce⟩
end Q
def cf336 : CF := Q.T336.1
set_option maxRecDepth 100000 in
theorem cf336_ok : compF TP Tryz.f336 = some cf336 := by kernel_rfl
namespace Q
set_option maxRecDepth 100000 in
def T343 : Was (h1 2 4 a2 (h4 5 (e0 (x4 a01 b9)) (j1 7 4 (c7 (-1))) (h4 8 (e0 (y8 .gtr b9)) (j1 10 4 g6) (l4 4 a2))) 4) := ⟨_, by conv => rhs; reduce⟩
end Q
def cf343 : CF := Q.T343.1
set_option maxRecDepth 100000 in
theorem cf343_ok : compF TP Tryz.f343 = some cf343 := by kernel_rfl
namespace Q
set_option maxRecDepth 100000 in
def T351 : Was (a45 2 (e4 4 (a32 (o1 p3) [] (o1 (q6 a77)) []) (b4 6 1 (q7 .eql 7) (c8 7 (y7 8 220 (h0 12 36027715032999405127646542195) (r8 0 1 2 (w8 9 4 10 5)))) (b4 11 1 (k7 .neq a2) (c8 12 (y7 13 220 (h0 8 7526756817224098146) (r8 0 1 2 (w8 9 4 10 5)))) (k3 16 (a4 11 (a4 221 (r8 0 1 2 (w8 9 4 10 5)))))))) 4 9 [a78 5 10]) := ⟨_, by conv => rhs; reduce⟩
end Q
def cf351 : CF := Q.T351.1
set_option maxRecDepth 100000 in
theorem cf351_ok : compF TP Tryz.f351 = some cf351 := by kernel_rfl
namespace Q
set_option maxRecDepth 100000 in
def T355 : Was (a45 3 (a12 6 (a32 (o1 p3) [] (o1 (q6 a77)) []) (a27 8 0 (.b 0 (b5 10 (a30 2 (h0 1 43) 9) 9 (d7 11 1 (a3 2 (j0 448 (r8 0 1 2 (j0 351 (r8 0 1 2 (w8 9 6 10 7))))))) (b5 20 (j3 8 1 45 19) 19 (d7 21 1 (a3 2 (j0 447 (r8 0 1 2 (j0 351 (r8 0 1 2 (w8 9 6 10 7))))))) (b5 30 (j3 8 1 42 29) 29 (d7 31 1 (a3 2 (j0 449 (r8 0 1 2 (j0 351 (r8 0 1 2 (w8 9 6 10 7))))))) (b5 40 (j3 8 3 7760228 39) 39 (d7 41 1 (a3 2 (j0 450 (r8 0 1 2 (j0 351 (r8 0 1 2 (w8 9 6 10 7))))))) (b5 50 (j3 8 3 7169394 49) 49 (d7 51 1 (a3 2 (j0 451 (r8 0 1 2 (j0 351 (r8 0 1 2 (w8 9 6 10 7))))))) (b5 60 (j3 8 4 1684955490 59) 59 (d7 61 1 (m3 2 .and 2 (k9 351 a2 (r8 0 1 2 (w8 9 6 10 7))))) (b5 68 (j3 8 3 7499618 67) 67 (d7 69 1 (m3 2 .or 2 (k9 351 a2 (r8 0 1 2 (w8 9 6 10 7))))) (b5 76 (j3 8 4 1919907938 75) 75 (d7 77 1 (m3 2 .xor 2 (k9 351 a2 (r8 0 1 2 (w8 9 6 10 7))))) (k5 84 (j3 8 3 7107426 83) 83 (d7 85 1 (a3 2 (j0 452 (r8 0 1 2 (j0 351 (r8 0 1 2 (w8 9 6 10 7)))))))))))))))))) (d7 93 1 (a3 2 (j0 341 (r8 0 1 2 (j0 351 (r8 0 1 2 (w8 9 6 10 7)))))))) 6 9 [a78 7 10]) := ⟨_, by conv => rhs; reduce⟩
end Q
def cf355 : CF := Q.T355.1
set_option maxRecDepth 100000 in
theorem cf355_ok : compF TP Tryz.f355 = some cf355 := by kernel_rfl
end
end Ev
end Go.Proofs.YtihflniehaaakaaGreatDoor
