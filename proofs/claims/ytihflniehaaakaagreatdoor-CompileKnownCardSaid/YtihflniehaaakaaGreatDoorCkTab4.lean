/-
  The functions of the program, compiled (printed by a program of ours; each is held against the program's own text below).
-/
import Derived.Test.YtihflniehaaakaaGreatDoorCkQ
namespace Go.Proofs.YtihflniehaaakaaGreatDoor
set_option linter.unusedVariables false
set_option linter.unusedSimpArgs false
namespace Ev
noncomputable section
namespace Q
set_option maxRecDepth 100000 in
def T158 : Was (g3 2 (b4 10 1 (c2 0 (q7 .eql 13)) (c8 14 (.d 15 (d9 8 (e0 (d9 8 (k2 (.r .lenMap) b3 (a5 (z4 (z5 (.one .p) (f2 7 (i1 6))))))))))) (b0 25 1 (c2 0 (p6 .neq 17 4)) (b4 30 1 (c2 4 q3) (j5 36 36 0 (o9 1 37 5 (a27 38 4 (c8 38 (d1 39 (g2 1 4 (h7 5 11 (n0 158 7)))))) (c3 47 35 35))) (b4 48 1 (c2 5 q3) (i5 2 54 54 2 (o9 3 55 6 (b7 56 (g2 1 5 (h7 6 27 (g9 2 (n0 158 8)))) (d1 65 (g2 1 5 (h7 6 27 (g9 13 (n0 158 8)))))) (c3 74 53 53))) (b7 75 (g2 1 8 (n0 76 5)) (b4 81 1 (c2 6 q3) (i5 4 87 87 4 (o9 5 88 7 (d1 89 (g2 1 6 (h7 7 4 (n0 41 7)))) (c3 97 86 86))) (b4 98 1 (c2 7 q3) (i5 6 104 104 6 (o9 7 105 8 (d1 106 (g2 1 7 (h7 8 4 (n0 41 7)))) (c3 114 103 103))) (b4 115 1 (c2 4 q3) (i5 8 121 121 8 (o9 9 122 9 (b0 123 4 k0 (c8 124 (d1 125 (g2 1 4 (h7 9 11 (n0 158 7)))))) (c3 133 120 120))) (d1 134 (g2 1 9 (n0 76 5)))))))))))) := ⟨_, by conv => rhs; reduce⟩
end Q
def cf158 : CF := Q.T158.1
set_option maxRecDepth 100000 in
theorem cf158_ok : compF TP Tryz.f158 = some cf158 := by kernel_rfl
namespace Q
set_option maxRecDepth 100000 in
def T159 : Was (g3 2 (a10 3 b6 e6 (t8 6 (l0 6 k4) 9 .ret (b7 10 (a8 4 3 (n0 264 3)) (.q (i6 14 8 3 t2 (j5 18 18 0 (e1 1 19 (o4 2 15 (i3 2 5 l2 2 5)) (d1 21 (a8 1 5 (n0 264 3))) (c3 25 17 17)))) (c4 26 (a5 (b1 (d9 1 (b2 10 3 (n6 (v0 .nils a1 .nils .nils []) 1 10 10 (a5 (l8 10 136 3 (a9 (v6 .nilc 8 (a17 1 (d6 (m5 1 3)))))))))))) (i6 36 0 3 k4 (.b 2 (g4 39 (a21 2 8 38) 38 (c0 40 (a0 37 39 38) 38 (c0 41 (a0 37 12 38) 38 (c0 42 (a0 37 27 38) 38 (c0 43 (a0 37 26 38) 38 (c0 44 (a0 37 17 38) 38 (c0 45 (a0 37 19 38) 38 (c0 46 (a0 37 21 38) 38 (m9 47 37 23 38)))))))) (c8 38 (d1 48 (l0 6 (y1 1 d5))))))))))))) := ⟨_, by conv => rhs; reduce⟩
end Q
def cf159 : CF := Q.T159.1
set_option maxRecDepth 100000 in
theorem cf159_ok : compF TP Tryz.f159 = some cf159 := by kernel_rfl
namespace Q
set_option maxRecDepth 100000 in
def T160 : Was (h1 1 2 a2 (c4 3 (e7 (b1 (f8 0 (b1 (d9 2 (m2 (m7 o3 1 1 1) (c7 (-1)) (g1 1 (j7 0 (w2 3 (a5 (m2 (m7 (m4 a7) 1 1 1) e5 (n4 10 (l8 1 8 2 (r3 5 (l8 1 1 2 (j6 (v6 .nilc 14 (j6 (g9 2 (f8 2 (x7 1 (o8 9) (f8 3 (v6 .nilc 15 (f8 3 (g9 3 (o7 3 4 (m5 1 5))))))))))))))))))))))))))) (k3 21 (c2 2 (c6 (h3 (.un .neg) d4))))) 2) := ⟨_, by conv => rhs; reduce⟩
end Q
def cf160 : CF := Q.T160.1
set_option maxRecDepth 100000 in
theorem cf160_ok : compF TP Tryz.f160 = some cf160 := by kernel_rfl
namespace Q
set_option maxRecDepth 100000 in
def T161 : Was (a51 3 (e4 6 (z0 d0 c1) (t8 18 (c6 (r2 (a26 (c6 (h6 .gtr 60 (n1 4)))))) 25 (g0 6 (p1 d0 c1 (c7 2))) (a12 26 (m2 a37 [] (a3 2 (m2 a37 [] (t3 0 4 1 a2 (o0 1 1 (c6 (m2 a37 [] (z8 (y5 .nilm a7 .nilm (a41 .nils a6 .nils (a50 .nilm .nils []))) (u6 0 1 (o2 2 3 1 7 1)) 9 (f2 8 (a62 7)) (k2 b6 b3 w3))))))))) (s5 37 d0 1 (j5 40 40 0 (e1 1 41 (a20 1 37 (c5 10)) (b4 43 10 (q9 .eql 1 n9 (h2 (g2 8 0 (a3 10 (a35 a29 a7 2 (n1 7)))))) (c8 52 (g0 6 (p1 d0 c1 (c7 2)))) (d3 53 8 (c2 0 (a3 10 (z4 (z5 a29 (f2 2 (e9 d5)))))))) (c3 58 39 39)))) (h4 59 q3 (i5 2 62 62 2 (o9 3 63 11 (c4 64 (b1 (m6 11 4 1 1 (c6 (t3 0 4 1 a2 (o0 1 1 (a11 .neq 6 (a26 (m6 11 4 1 1 (c6 (h6 .gtr 16 (n1 8))))))))))) (c8 84 (g0 6 (p1 d0 c1 (c7 2))))) (c3 85 61 61))) (h4 86 q3 (i5 4 89 89 4 (o9 5 90 12 (b0 92 8 (b1 (h7 12 4 (f9 265 4 (o5 91 96 5 (o6 0 6 1 7 (r7 13 f1 14)))))) (b4 99 14 k0 (c8 100 (g0 6 (p1 d0 c1 (c7 2)))) (.d 101 (g2 8 10 (a3 13 (a28 .add 1 (g2 8 4 (m6 12 4 2 1 (f0 .add 9 (a28 .mul 4 (f0 .add 13 (y2 17 10 (a5 (m5 1 3)))))))))))))) (c3 120 88 88))) (t8 121 (c6 (k7 .eql g6)) 123 (d3 124 8 (l0 10 (y1 1 (c7 9223372036854775807)))) (q8 15 c1 (b4 127 8 (c2 4 q3) (i5 6 133 133 6 (o9 7 134 16 (b0 135 8 (g2 8 8 (m2 (m7 o3 1 1 1) (c7 (-1)) (l8 1 8 2 (w0 7 8 1 3)))) (d3 144 15 (a3 16 (g2 8 4 (m6 16 4 0 1 (c6 (a4 266 (z8 (a08 a6 .nils []) (j2 1 1 1) 11 b3 (s6 (m7 (a08 a6 .nils []) 1 2 2) 2 32 14 15))))))))) (c3 159 132 132))) (b0 160 8 (r9 (a6 :: a36 a6 (a54 a6 a1 a6 a1 (w6 a1 .nils (q5 a6 [])))) (a40 0 1) g6 (n0 267 2)) (b0 163 8 (a3 15 (j0 268 (c5 17))) (d7 166 8 (c2 6 (a3 17 (j0 269 (a09 6 b3 7 a2))))))))))))))) 6 (x9 7 [])) := ⟨_, by conv => rhs; reduce⟩
end Q
def cf161 : CF := Q.T161.1
set_option maxRecDepth 100000 in
theorem cf161_ok : compF TP Tryz.f161 = some cf161 := by kernel_rfl
namespace Q
set_option maxRecDepth 100000 in
def T162 : Was (h1 1 2 c1 (e4 7 (m2 a37 [] v4) (a16 4 c1 (s5 8 d0 0 (j5 11 11 0 (e1 1 12 (o4 2 8 (i3 2 6 (q6 []) 2 6)) (b0 14 3 (e2 6 (a35 a29 a7 3 k0)) (c8 18 (b0 19 3 (e2 6 (z4 (z5 a29 (f2 3 (e9 d5))))) (d3 22 4 (e2 6 (n6 (m4 a1) 1 1 1 (l8 1 16 4 d2))))))) (c3 27 10 10)))) (d7 28 4 d4))) 2) := ⟨_, by conv => rhs; reduce⟩
end Q
def cf162 : CF := Q.T162.1
set_option maxRecDepth 100000 in
theorem cf162_ok : compF TP Tryz.f162 = some cf162 := by kernel_rfl
namespace Q
set_option maxRecDepth 100000 in
def T163 : Was (g3 1 (c4 10 (g7 0 (b1 (d9 4 (c6 (w1 (.mks o3 8) 1 (d9 4 (a5 (c6 (a5 (w1 (.mks (m4 a7) 1) 1 (y2 14 8 (a5 (x7 1 (o8 9) (a9 (v6 .nilc 15 (a17 9 (d6 (m5 1 5)))))))))))))))))) (b7 28 (d9 1 (c6 (w1 (.mks o3 8) 1 (w0 7 10 1 3)))) (c4 37 (g7 0 (b1 (d9 1 (c6 (w1 (.mks (m4 .nils) 24) 1 (d9 1 (a5 (c6 (a5 (w1 (.mks o3 8) 1 (y2 14 11 (a5 (x7 1 (o8 9) (a9 (v6 .nilc 15 (a17 12 (d6 (m5 1 5)))))))))))))))))) (s4 55 4 q3 (j5 61 61 0 (o9 1 62 2 (s4 63 4 (h7 2 21 v4) (c4 69 (e7 (g7 0 (g7 0 (w2 5 (d9 0 (a5 (a4 160 (a9 (n6 o3 1 1 1 (d6 (l8 1 8 7 (j6 (v6 .nilc 12 (j6 (g9 5 (f8 2 (m5 1 3))))))))))))))))) (b4 83 3 (a87 (.call 270)) (i5 2 87 87 2 (e1 3 88 (a20 1 84 p7) (d1 90 (c2 8 (k8 5 1 (p4 .add (p8 1 5 4 (t0 1)))))) (c3 99 86 86))) (a00 100 7 (g2 3 1 (a5 (z4 (z5 a03 (f2 5 (e9 d5)))))) (a00 108 7 (g2 3 2 (a5 (z4 (z5 a03 (f2 5 (e9 d5)))))) (b4 116 3 (l0 17 t2) (i5 4 122 122 4 (e1 5 123 (o4 2 119 (i3 2 7 (q6 []) 2 7)) (.d 125 (d9 7 (a8 1 7 (a5 (z4 (z5 a03 (f2 3 (e9 d5)))))))) (c3 131 121 121))) (b4 132 3 (l0 15 t2) (i5 6 138 138 6 (e1 7 139 (o4 8 135 (i3 8 9 (w6 a1 a7 (a41 a1 a7 a7 [])) 8 9)) (.d 141 (d9 7 (a8 4 9 (a5 (z4 (z5 a03 (f2 3 (e9 d5)))))))) (c3 147 137 137))) (b0 148 3 (c2 0 (q7 .eql 2)) (c8 152 (.d 153 (d9 10 (g2 3 16 (u7 1 5 (p4 .add (p8 1 8 4 (a5 (t0 1))))))))))))))))) (c3 165 60 60)))))))) := ⟨_, by conv => rhs; reduce⟩
end Q
def cf163 : CF := Q.T163.1
set_option maxRecDepth 100000 in
theorem cf163_ok : compF TP Tryz.f163 = some cf163 := by kernel_rfl
namespace Q
set_option maxRecDepth 100000 in
def T164 : Was (g3 3 (h4 9 (c2 4 q3) (j5 15 15 0 (o9 1 16 6 (t8 17 (c2 9 (h7 6 1 k4)) 23 (.x 1) (a00 24 0 (d9 5 (k8 6 1 (a5 (n0 168 8)))) (s4 36 4 (h7 6 21 r4) (b0 42 7 (l0 0 k4) (.b 2 (b5 65 (a0 45 1 64) 64 (d3 66 2 (k2 .callv b3 [])) (b5 69 (a0 45 2 68) 68 (d1 70 (a3 7 (j9 1 271 3 b9))) (b7 46 (j9 6 272 2 b3) (.d 49 (d9 0 (d9 5 (g2 7 18 (u7 1 5 (a5 (n0 167 11))))))))))))))) (c3 74 14 14))) (s4 75 1 q3 (i5 3 81 81 3 (o9 4 82 8 (.b 5 (s4 84 10 (k8 8 1 (p6 .gtr 1 83)) (g5 83 (a00 92 0 (d9 12 (k8 8 1 (a5 (n0 168 8)))) (.d 104 (j7 1 (a3 8 (d9 3 (d9 11 (k8 8 1 (a5 (f9 273 8 (d6 (k2 .callv (f2 14 (i1 13)) []))))))))))) (s4 120 10 (k8 8 1 (r2 (c5 119))) (c8 119 (s4 128 0 (l0 6 (y1 1 d5)) (.d 134 (e7 (e0 (e7 (g7 8 (g7 0 (w2 3 (b1 (d9 1 (h7 8 4 (a5 (f9 274 7 (d6 (f9 273 9 (f8 2 (k2 .callv (f2 15 (i1 14)) [])))))))))))))))))))))) (c3 150 80 80)))))) := ⟨_, by conv => rhs; reduce⟩
end Q
def cf164 : CF := Q.T164.1
set_option maxRecDepth 100000 in
theorem cf164_ok : compF TP Tryz.f164 = some cf164 := by kernel_rfl
namespace Q
set_option maxRecDepth 100000 in
def T165 : Was (g3 4 (a02 6 2 (b8 3 (m3 0 .add 2 (e0 (k2 .callv (a62 5) [])))))) := ⟨_, by conv => rhs; reduce⟩
end Q
def cf165 : CF := Q.T165.1
set_option maxRecDepth 100000 in
theorem cf165_ok : compF TP Tryz.f165 = some cf165 := by kernel_rfl
namespace Q
set_option maxRecDepth 100000 in
def T166 : Was (g3 2 (.r 2 (a90 1 e6 (a90 1 e6 (n0 167 2))))) := ⟨_, by conv => rhs; reduce⟩
end Q
def cf166 : CF := Q.T166.1
set_option maxRecDepth 100000 in
theorem cf166_ok : compF TP Tryz.f166 = some cf166 := by kernel_rfl
namespace Q
set_option maxRecDepth 100000 in
def T167 : Was (g3 2 (d1 4 (e0 (x3 (v0 .nils a1 .nils .nils []) (j2 1 4 1) 8 (n0 159 3))))) := ⟨_, by conv => rhs; reduce⟩
end Q
def cf167 : CF := Q.T167.1
set_option maxRecDepth 100000 in
theorem cf167_ok : compF TP Tryz.f167 = some cf167 := by kernel_rfl
namespace Q
set_option maxRecDepth 100000 in
def T168 : Was (g3 2 (a00 4 2 (e0 (h3 (.un .neg) (s9 (d9 1 (c6 (p8 1 9 6 (a5 (t0 1)))))))) (s4 17 3 (e0 (h3 (.un .neg) (s9 (q2 1 4 k4)))) (c8 25 (d1 26 (l0 6 (a46 1 c9))))))) := ⟨_, by conv => rhs; reduce⟩
end Q
def cf168 : CF := Q.T168.1
set_option maxRecDepth 100000 in
theorem cf168_ok : compF TP Tryz.f168 = some cf168 := by kernel_rfl
namespace Q
set_option maxRecDepth 100000 in
def T170 : Was (r1 3 (s0 6 l2 (b4 8 1 (l0 0 k4) (.b 0 (b5 13 (a30 2 g6 12) 12 (a00 14 0 (g2 1 1 (a5 (f9 275 5 (d6 (f5 2 6))))) .ret) (b5 24 (a0 11 2 23) 23 (a00 25 0 (g2 1 2 (a5 (f9 43 5 (d6 (f5 2 6))))) .ret) (b5 35 (a0 11 6 34) 34 (k3 36 (c2 0 (r9 p3 (a40 0 1) (c7 8) (j0 87 (f5 2 6))))) (b5 43 (a0 11 14 42) 42 (a00 44 0 (g2 1 2 (g2 1 3 (g2 1 1 (a06 p3 (a47 0 (o2 3 4 1 5 1)) 5 (f2 9 (i1 5)) (a5 (f9 87 14 (d6 (f5 2 6)))))))) .ret) (k5 63 (a0 11 3 62) 62 (d7 64 2 (g2 1 2 (f9 276 5 (a4 79 (f5 2 6))))))))))) (l3 71 77 r4 (b7 73 (e0 (f6 2 7 (x3 l2 (j2 1 1 1) 1 (f3 173 5 (f2 4 r5))))) (d7 79 7 (a4 79 (f5 2 6))))))) 6 2) := ⟨_, by conv => rhs; reduce⟩
end Q
def cf170 : CF := Q.T170.1
set_option maxRecDepth 100000 in
theorem cf170_ok : compF TP Tryz.f170 = some cf170 := by kernel_rfl
namespace Q
set_option maxRecDepth 100000 in
def T172 : Was (g3 3 (e4 4 (a32 b6 (d8 1) b6 (d8 2)) (e4 6 (w5 (.fa 0) w4 k4) (.b 0 (b5 9 (a30 2 g6 8) 8 (.d 10 (a5 (b1 (a8 1 5 (u9 1 (b2 2 4 (n4 13 (a4 79 (r3 1 (f3 78 5 b9)))))))))) (k5 17 (a0 7 2 16) 16 (c4 18 (a5 (b1 (u9 1 (b2 2 4 (n4 19 (v8 80 a2 (r3 1 (f3 78 3 b9)))))))) (d1 22 (r9 (v0 .nils a1 .nils .nils []) (a40 0 1) (c7 26) (n0 159 2)))))))))) := ⟨_, by conv => rhs; reduce⟩
end Q
def cf172 : CF := Q.T172.1
set_option maxRecDepth 100000 in
theorem cf172_ok : compF TP Tryz.f172 = some cf172 := by kernel_rfl
namespace Q
set_option maxRecDepth 100000 in
def T173 : Was (g3 4 (a19 4 b6 0 (g1 2 (n2 b6 (d8 3))) (b0 20 1 (l0 0 k4) (.b 0 (b5 32 (a0 23 5 31) 31 (.d 33 (a5 (b8 4 (b8 4 (g2 1 4 (a3 2 (u9 2 (b2 2 7 (n4 40 (e3 281 6 b9 (a9 (x3 (v0 .nils a1 .nils .nils []) (j2 1 3 1) 2 (r3 1 (f3 280 10 b9)))))))))))))) (b5 45 (a0 23 7 44) 44 (c4 46 (b8 4 (g2 1 4 (g7 2 (e3 281 6 b9 (a9 w3))))) (b0 53 8 (a3 8 (c6 (s9 (q2 2 4 (i3 2 9 l2 2 9))))) (b4 59 8 (c6 (p6 .sub 2 10)) (p0 1 (b4 62 10 (k7 .gtr a2) (f7 63 1) (e1 2 66 (b8 4 (a4 77 (c5 11))) (c4 68 (a5 (b8 4 (a3 11 (g1 1 (j7 8 (g7 10 (q2 2 2 (a5 (g8 2 (a5 (b2 2 9 (a5 (w1 (.bslice l2 2 2 (j2 2 2 2)) 2 (n4 70 (a4 79 (g1 6 (a9 (a06 (v0 .nils a1 .nils .nils []) (o2 0 1 2 3 1) 3 (i1 7) (d6 (n0 159 10)))))))))))))))))))) (d3 79 11 (a4 79 (f5 2 9)))) (a64 64 10 .sub 1 10)))) (.d 81 (b8 4 (t3 8 2 1 a2 (g8 2 (b2 2 9 (w1 (.bslice l2 2 2 (j2 2 2 2)) 2 (x3 (v0 .nils a1 .nils .nils []) (j2 1 3 1) 3 (b2 2 7 (a5 (f3 280 8 b9))))))))))))) (b5 91 (a0 23 8 90) 90 (a02 92 4 (f6 1 2 (b2 2 7 (f3 282 4 l7)))) (b5 98 (a0 23 9 97) 97 (a02 99 4 (f6 1 2 (b2 2 7 (f3 283 4 l7)))) (b5 105 (a0 23 10 104) 104 (a02 106 4 (f6 1 2 (b2 2 7 (f3 284 4 l7)))) (b5 112 (a0 23 11 111) 111 (c4 113 (b8 4 (g2 1 4 (g7 2 (e3 281 6 b9 (a9 (c5 12)))))) (c4 120 (b8 4 (s8 12 (w7 (.sl 2) true false) 1 (c7 2) (a5 (n0 285 3)))) (.d 124 (b8 4 (a3 12 (c6 (h6 .sub 2 (s8 12 (w7 (.sl 2) false true) 1 (c7 2) (b2 2 7 (a5 (f3 286 7 (h8 18 (h8 19 (a62 4)))))))))))))) (b5 133 (a0 23 12 132) 132 (c4 134 (b8 4 (g2 1 4 (g7 2 (e3 281 6 b9 (a9 (c5 13)))))) (c4 141 (b8 4 (s8 13 (w7 (.sl 2) true false) 1 g6 (a5 (n0 285 3)))) (.d 145 (b8 4 (a3 13 (c6 (s9 (s8 13 (w7 (.sl 2) false true) 1 g6 (b2 2 7 (a5 (f3 286 7 (h8 20 (h8 21 (a62 4)))))))))))))) (b5 154 (a0 23 13 153) 153 (c4 156 (a5 (b8 4 (a5 (w2 0 (a5 (e0 (g7 2 (a4 162 (d6 (e3 287 4 r5 (z6 155 (j6 (a60 163 [] 8 (j6 (v9 0 9 (j6 (v9 1 10 (j6 (u4 14 f1 (j6 (c5 15))))))))))))))))))))) (a16 16 c1 (s5 166 d0 15 (i5 3 169 169 3 (e1 4 170 (a20 1 166 (c5 18)) (d3 172 16 (f6 2 18 (j0 276 (a4 79 (s6 (m7 l2 1 2 2) 2 16 6 16))))) (c3 179 168 168)))) (a02 180 4 (f6 14 16 (a06 (v0 .nils a1 .nils .nils []) (o2 0 5 1 3 1) 4 b9 (b2 2 7 (f3 280 5 b9))))))) (b5 187 (a0 23 15 186) 186 (.d 188 (b8 4 (g2 1 8 (a3 2 (b2 2 7 (a5 (f3 83 7 l7))))))) (b5 197 (a0 23 16 196) 196 (c4 198 (a5 (b8 4 (b8 4 (g2 1 4 (v7 11 1 a2 (a3 2 (e7 (r0 19 o3 (a5 (e3 170 7 b9 (d6 (f9 169 9 (f8 2 (f5 1 19)))))))))))))) (.d 208 (b8 4 (g2 1 6 (b8 19 (n6 o3 1 1 1 (a3 2 (b2 2 7 (a13 (z3 290 0) 4 (d8 19) (a5 (f3 288 10 (f2 6 (f2 4 (f2 3 (f2 2 (x2 (a96 289 [] []))))))))))))))))) (b5 220 (a0 23 17 219) 219 (a02 221 4 (f6 1 2 (b2 2 7 (f3 291 4 l7)))) (b5 227 (a0 23 18 226) 226 (a02 228 4 (f6 1 2 (b2 2 7 (f3 292 4 l7)))) (.d 24 (a5 (b8 4 (b8 4 (f6 1 2 (u9 1 (b2 2 7 (n4 28 (e3 170 3 b9 (r3 1 (f3 172 6 b9))))))))))))))))))))))))))) := ⟨_, by conv => rhs; reduce⟩
end Q
def cf173 : CF := Q.T173.1
set_option maxRecDepth 100000 in
theorem cf173_ok : compF TP Tryz.f173 = some cf173 := by kernel_rfl
namespace Q
set_option maxRecDepth 100000 in
def T174 : Was (h1 2 4 a2 (b4 5 1 (x4 a01 (e9 a2)) (l6 6 7 0 (c2 2 (e0 (h3 (.un .neg) (s9 (u7 1 4 d2)))))) (d7 16 1 d2)) 4) := ⟨_, by conv => rhs; reduce⟩
end Q
def cf174 : CF := Q.T174.1
set_option maxRecDepth 100000 in
theorem cf174_ok : compF TP Tryz.f174 = some cf174 := by kernel_rfl
namespace Q
set_option maxRecDepth 100000 in
def T175 : Was (a51 3 (a19 3 b6 0 (g1 2 (z0 d0 c1)) (b4 30 2 (p4 .neq (e8 (n7 2 .neq 2 (f4 3 (e8 (n7 2 .neq 4 (s3 3 c9))))))) (c8 39 (g0 6 (p1 d0 c1 (c7 2)))) (t1 41 3 (e0 (j0 293 (o5 40 43 3 (v9 0 4 (o6 1 5 2 6 (u4 8 s1 (r7 9 f1 10))))))) (b4 47 10 (k7 .neq a2) (l6 48 49 10 (r7 6 c1 7)) (a16 11 c1 (t1 50 3 q3 (j5 53 53 0 (o9 1 54 12 (c4 55 (b8 3 (y3 12 10 10 (u9 1 (b8 3 (j7 12 (q2 10 2 (a5 (g8 10 (g1 3 (f8 0 (a33 d0 a2 (n4 59 (a4 294 (r3 4 (a4 295 (f8 2 (a33 (b16 2 16 none) (i1 6) (f8 3 (x4 a94 w4))))))))))))))))))) (i5 2 68 68 2 (e1 3 69 (o4 2 65 (i3 2 14 l2 2 14)) (k5 71 (e2 14 (a3 2 (y8 .eql b9))) 74 (d3 75 11 (a8 1 14 (s6 (m7 o3 1 1 1) 1 8 4 11)))) (c3 80 67 67)))) (c3 81 52 52)))) (a14 82 11 296 [] (a14 84 11 297 (c5 11) (a12 86 (m2 a37 [] (c5 15)) (s5 87 d0 11 (i5 4 90 90 4 (e1 5 91 (u5 e6 (a44 1 87 (d8 89) (i2 (r7 16 s1 17)))) (d3 94 15 (f6 17 16 (z4 (z5 a03 l7)))) (c3 97 89 89)))) (c4 98 (b8 3 (c6 (w1 (.mks (m4 .nilp) 8) 1 (a5 (b8 3 (a5 (c6 (a5 (w1 (.mks (m4 .nilp) 8) 1 (r0 18 (m4 .nils) (r0 19 (m4 .nils) (a5 (w9 1 18 (o8 4) (d6 (f5 1 19))))))))))))))) (.q (t1 104 3 q3 (i5 6 107 107 6 (o9 7 108 20 (c4 109 (e7 (b8 18 (e7 (a3 20 (f8 0 (b8 19 (f8 0 (a3 20 (e7 (r9 (m4 .nils) [] [] (e7 (k2 b6 b3 (b8 3 (y3 20 10 10 (g1 1 (j7 2 (a3 15 (n4 119 (a4 295 (r3 2 (e3 298 3 b9 (j6 (p8 1 14 13 (f8 2 (x7 1 (o8 10) (f8 3 (p8 1 13 12 (o7 3 4 (m5 1 3))))))))))))))))))))))))))))) (b0 125 9 (h7 20 1 k4) (c8 128 (.d 129 (e7 (b8 18 (e7 (a3 20 (b8 3 (y3 20 10 10 (g1 1 (j7 2 (a3 15 (n4 135 (a4 294 (r3 2 (e3 298 3 b9 (j6 (p8 1 10 9 (f8 2 (t0 1))))))))))))))))))))) (c3 140 106 106)))) (.q (t7 21 (o1 (m4 a7)) [] (a46 1 (a57 1 d5)) (p0 8 (.q (a10 141 a63 (d8 21) (f7 141 8)) (e1 9 0 (a65 1 21 e5) (t1 142 3 (c6 (s9 (t6 22 o3 1 22))) (p0 10 (g4 145 (b8 22 (k7 .geq a2)) 146 (.x 10) (a49 11 (b4 149 9 (b8 22 (u7 1 2 k0)) (c8 153 (.x 11)) (.q (c4 154 (b8 3 (b8 22 (q2 10 2 (b8 22 (a5 (z2 299 b9)))))) (.b 12 (.f (.l 158) [.l 159] (.r 23 (n2 d0 (d8 159))) (.b 13 (c4 160 (n5 23 .geq 1 a2 (e8 (a3 23 (b8 3 (a11 .lss 3 (f4 5 (e8 (b8 18 (b8 22 (u7 1 2 (b8 18 (k8 23 1 (b8 19 (b8 22 (u7 1 2 (a5 (e3 300 9 (i1 5) (.n :: a9 (t5 .pick 14 c9))))))))))))))))))) (c8 182 (.r 0 (a65 1 21 d5)))))))) (b0 183 8 (b8 22 (u7 1 2 (c5 24))) (c4 187 (a3 24 (k2 (.r (.eq (.one .p) true)) (e9 (a23 .nilp)) (e8 (g2 24 0 (j8 .geq (f4 6 (e8 (g2 24 0 (b8 3 (a11 .lss 3 (f4 8 (e8 (b8 18 (b8 22 (u7 1 2 (b8 18 (g2 24 0 (u7 1 5 (a5 (e3 300 8 (e9 (a23 .nilp)) (.n :: a9 (t5 .pick 13 c9)))))))))))))))))))))) (c8 218 (.r 0 (a65 1 21 d5))))))) (.q (a10 219 a63 (d8 22) (.r 22 (a33 (o1 o3) [] (a46 1 (a57 1 (d8 219)))))) (a02 147 22 (s9 (f5 1 22)))))))) (a10 220 a63 (d8 21) (.r 21 (a33 (o1 (m4 a7)) [] (a46 1 (a57 1 (d8 220)))))))))) (t1 221 3 (c6 (w1 (.mks (m4 .nils) 24) 1 (c5 25))) (.q (s5 224 a63 18 (i5 14 227 227 14 (e1 15 228 (u5 e6 (a44 1 224 (d8 226) (i2 (r7 26 s1 27)))) (b0 231 27 (a87 (.call 301)) (i5 16 235 235 16 (e1 17 236 (a20 1 232 (c5 29)) (.d 238 (j7 25 (f6 26 25 (k8 26 1 (a3 11 (k8 29 1 (n6 o3 1 1 1 (a5 (l8 1 8 6 (a9 (p8 1 12 11 (d6 (t0 1))))))))))))) (c3 251 234 234)))) (c3 252 226 226)))) (d7 253 25 (a09 6 b3 7 a2))))))))))))))) 6 (x9 7 [])) := ⟨_, by conv => rhs; reduce⟩
end Q
def cf175 : CF := Q.T175.1
set_option maxRecDepth 100000 in
theorem cf175_ok : compF TP Tryz.f175 = some cf175 := by kernel_rfl
namespace Q
set_option maxRecDepth 100000 in
def T176 : Was (v3 2 4 (s4 6 0 (c2 1 (h7 1 10 p7)) (b4 15 5 (l0 0 k4) (.b 0 (b5 20 (a21 2 8 19) 19 (d7 21 5 (c2 4 (n7 1 .add 1 (f0 .eql 3 d2)))) (g4 29 (a0 18 1 28) 28 (c0 30 (a0 18 5 28) 28 (c0 31 (a0 18 6 28) 28 (m9 32 18 7 28))) (c8 28 (c4 33 (a3 5 (y4 1 0 1 (i0 4 (v2 (e0 (g1 1 (j7 5 (a07 (a48 1 (a55 1 (n4 42 (j0 303 (r3 5 (f9 302 6 (j6 (x8 (j6 (l1 .pick 11 c9 (j6 d2))))))))))))))))))) .ret))))) (q0 4))) 4) := ⟨_, by conv => rhs; reduce⟩
end Q
def cf176 : CF := Q.T176.1
set_option maxRecDepth 100000 in
theorem cf176_ok : compF TP Tryz.f176 = some cf176 := by kernel_rfl
namespace Q
set_option maxRecDepth 100000 in
def T177 : Was (g3 1 (h4 12 (c2 0 (c2 1 q3)) (j5 21 21 0 (o9 1 22 2 (s4 23 0 (c2 1 (h7 2 10 v4)) (h4 32 (c2 1 (h7 2 1 t2)) (i5 2 41 41 2 (e1 3 42 (a20 1 38 p7) (d1 44 (f6 5 2 (a28 .mul 2 (f3 304 4 r5)))) (c3 49 40 40))) (b0 50 3 (y4 1 0 1 (i0 4 (e8 (d9 2 (k8 2 1 (s3 8 c9)))))) (c8 64 (d1 65 (a3 3 (y4 1 1 1 (a3 2 (a28 .mul 2 (p4 .add (f3 304 9 (i1 4)))))))))))) (c3 75 20 20))) (s4 76 0 (c2 1 q3) (i5 4 85 85 4 (o9 5 86 6 (s4 87 0 (c2 1 (h7 6 10 r4)) (b4 96 7 (c2 0 (a61 (.call 305))) (c8 100 (b7 101 (a3 6 (a97 (.call 303) b9)) (i5 6 106 106 6 (e1 7 107 (a20 1 103 (c5 9)) (d1 109 (c2 3 (a3 9 (a35 a03 .nilp 2 (l0 3 (y1 1 d5)))))) (c3 117 105 105))))) (b0 118 7 (c2 0 (q7 .eql 28)) (c8 122 (a00 123 1 (g2 7 4 (q2 1 5 t2)) (i5 8 135 135 8 (e1 9 136 (a20 1 132 (c5 11)) (d1 138 (c2 3 (a3 11 (a35 a03 .nilp 2 (l0 3 (y1 1 d5)))))) (c3 146 134 134)))))))) (c3 147 84 84)))))) := ⟨_, by conv => rhs; reduce⟩
end Q
def cf177 : CF := Q.T177.1
set_option maxRecDepth 100000 in
theorem cf177_ok : compF TP Tryz.f177 = some cf177 := by kernel_rfl
namespace Q
set_option maxRecDepth 100000 in
def T178 : Was (g3 1 (q8 2 c1 (h4 11 (c2 3 (a61 (.e .rangeM))) (p0 0 (a12 16 (k2 (.e .nextM) w4 (a98 (.ext 0))) (f7 17 0) (.b 1 (e4 18 (k2 (.e .entryM) (d8 15) (a76 1 d2)) (d3 20 2 (a3 4 (n6 (m4 .nilp) 1 1 1 (l8 1 8 3 d4)))))))) (b0 24 2 (m2 (.bslice (m4 .nilf) 2 1 (j2 1 1 1)) (t9 (a96 307 [] []) (u2 308 [] [])) (n0 306 2)) (e4 5 (p1 d0 c1 c1) (a16 7 (u2 309 [] []) (s5 27 d0 2 (i5 2 30 30 2 (e1 3 31 (a20 1 27 (c5 9)) (b0 33 7 (a3 5 (g2 9 1 (k2 .callv (f2 6 (i1 5)) (c5 10)))) (b4 40 9 (c2 3 (s2 (e8 (d9 0 (c2 5 (m3 10 .add 2 (h6 .lss 256 (s3 11 c9)))))))) (c8 56 (b4 57 10 (a3 5 (c6 (y8 .eql r5))) (c8 60 (d3 61 5 (m2 (m7 o3 1 1 1) a2 (a34 1 8 2 5)))) (b0 64 5 (a3 10 (g2 9 2 (p8 1 6 5 (t0 1)))) (c4 71 (j7 0 (w2 4 (j7 9 (w2 0 (d9 0 (c2 5 (m3 10 .add 2 (a5 (a4 80 (d6 (z4 (z5 a03 (f2 15 (i1 11)))))))))))))) (.x 3))))) (b0 89 7 (a3 6 (g2 9 1 (k2 .callv (f2 6 (i1 5)) (c5 10)))) (b4 96 10 (a3 6 (c6 (y8 .eql r5))) (c8 99 (d3 100 6 (m2 (m7 o3 1 1 1) a2 (a34 1 8 2 6)))) (b0 103 6 (a3 10 (g2 9 2 (p8 1 6 5 (t0 1)))) (.d 110 (d9 4 (g2 9 0 (a3 10 (x3 l2 (j2 1 1 1) 2 (a5 (z4 (z5 a03 (f2 7 r5)))))))))))))) (c3 120 29 29)))) (d1 121 (a3 6 (c6 (w0 3 5 1 3)))))))))) := ⟨_, by conv => rhs; reduce⟩
end Q
def cf178 : CF := Q.T178.1
set_option maxRecDepth 100000 in
theorem cf178_ok : compF TP Tryz.f178 = some cf178 := by kernel_rfl
namespace Q
set_option maxRecDepth 100000 in
def T179 : Was (h1 2 4 c1 (q8 5 c1 (t8 14 (c2 5 (k7 .gtr a2)) 18 (d3 19 5 (d9 5 (x3 (v0 .nils a1 .nils .nils []) (j2 1 5 1) 24 (s6 (m7 (v0 .nils a1 .nils .nils []) 1 10 10) 10 136 7 5)))) (s4 27 0 (c2 1 (c6 (w1 (.mks o3 8) 1 m0))) (h4 36 (c2 0 (c2 1 q3)) (j5 45 45 0 (o9 1 46 7 (b0 47 6 (a3 7 (f6 1 5 (a11 .add 3 (p8 1 6 5 (t0 1))))) (t8 54 (c2 2 (k8 7 1 k0)) 61 (.x 1) (s4 62 0 (c2 1 (h7 7 10 (i3 10 8 (v0 .nils a1 .nils .nils []) 10 8))) (h9 72 (e2 8 (a4 312 (e8 (d9 5 (j8 .gtr (s3 6 c9)))))) 81 (d3 82 5 (r9 (v0 .nils a1 .nils .nils []) (a40 0 1) (c7 25) (s6 (m7 (v0 .nils a1 .nils .nils []) 1 10 10) 10 136 3 5))) (b7 86 (x1 1 8 2 (f9 313 3 (m1 1 8 2 f1))) (.q (a22 91 3 8 q3 (i5 2 95 95 2 (o9 3 96 9 (.d 97 (a5 (v5 3 8 (a5 (a3 9 (b1 (a8 3 8 (y3 9 2 2 (a5 (f9 313 6 (a9 (p8 2 9 8 (d6 (t0 2)))))))))))))) (c3 108 94 94)))) (.q (a22 109 9 8 q3 (i5 4 113 113 4 (o9 5 114 10 (.d 115 (e7 (j4 9 8 (e7 (i2 (e7 (a3 10 (f8 0 (j4 9 8 (f8 0 (i2 (f8 0 (a3 10 (b1 (a8 9 8 (h7 10 6 (g9 1 (g8 2 (g1 1 (j7 0 (v5 9 8 (j7 10 (q2 6 2 (a48 3 (a5 (g8 2 (n4 128 (f9 313 7 (r3 7 (f9 313 7 (j6 (p8 6 21 20 (j6 (g9 1 (f8 2 (x7 2 (o8 11) (f8 3 (p8 6 20 19 (f8 3 (g9 3 (o7 3 4 (m5 2 5)))))))))))))))))))))))))))))))))))))))))) (c3 141 112 112)))) (.q (i6 142 0 8 k4 (.b 6 (g4 145 (a21 2 2 144) 144 (c0 146 (a0 143 3 144) 144 (c0 147 (a0 143 4 144) 144 (c0 148 (a0 143 13 144) 144 (c0 149 (a0 143 14 144) 144 (c0 150 (a0 143 31 144) 144 (c0 151 (a0 143 32 144) 144 (c0 152 (a0 143 33 144) 144 (m9 153 143 35 144)))))))) (c8 144 (d1 154 (a3 7 (j0 314 (m1 6 8 1 f1)))))))) (d3 158 5 (b2 10 8 (s6 (m7 (v0 .nils a1 .nils .nils []) 1 10 10) 10 136 3 5))))))))))) (c3 162 44 44))) (b4 163 5 q3 (i5 7 166 166 7 (o9 8 167 11 (b0 168 5 (h7 11 10 (c5 12)) (b4 171 12 (l0 0 k4) (.b 9 (g4 176 (a21 2 8 175) 175 (c0 177 (a0 174 9 175) 175 (c0 178 (a0 174 10 175) 175 (c0 179 (a0 174 11 175) 175 (c0 180 (a0 174 12 175) 175 (c0 181 (a0 174 13 175) 175 (c0 182 (a0 174 28 175) 175 (c0 183 (a0 174 30 175) 175 (c0 184 (a0 174 31 175) 175 (c0 185 (a0 174 32 175) 175 (c0 186 (a0 174 33 175) 175 (c0 187 (a0 174 34 175) 175 (c0 188 (a0 174 37 175) 175 (c0 189 (a0 174 39 175) 175 (m9 190 174 40 175)))))))))))))) (c8 175 (d3 191 12 (a3 6 (g2 12 4 (u7 1 5 (w0 8 4 1 3)))))))) (b0 201 12 (c2 8 q3) (i5 10 207 207 10 (o9 11 208 13 (.d 209 (g2 12 8 (f6 13 6 (g2 12 8 (m6 13 2 1 1 (u7 1 9 (p8 2 13 12 (g9 1 (a5 (m5 1 3)))))))))) (c3 227 206 206)))))) (c3 228 165 165))) (d7 229 5 d2)))))) 4) := ⟨_, by conv => rhs; reduce⟩
end Q
def cf179 : CF := Q.T179.1
set_option maxRecDepth 100000 in
theorem cf179_ok : compF TP Tryz.f179 = some cf179 := by kernel_rfl
namespace Q
set_option maxRecDepth 100000 in
def T180 : Was (h1 1 2 n9 (k3 3 (a4 315 d4)) 2) := ⟨_, by conv => rhs; reduce⟩
end Q
def cf180 : CF := Q.T180.1
set_option maxRecDepth 100000 in
theorem cf180_ok : compF TP Tryz.f180 = some cf180 := by kernel_rfl
namespace Q
set_option maxRecDepth 100000 in
def T181 : Was (h1 2 4 n9 (k3 5 (e0 (j0 316 d2))) 4) := ⟨_, by conv => rhs; reduce⟩
end Q
def cf181 : CF := Q.T181.1
set_option maxRecDepth 100000 in
theorem cf181_ok : compF TP Tryz.f181 = some cf181 := by kernel_rfl
namespace Q
set_option maxRecDepth 100000 in
def T182 : Was (x5 1 2 3 (u0 .geq 1 .u8 97 (e8 (n5 0 .leq 1 (m8 .u8 122) (f4 3 d4)))) 2) := ⟨_, by conv => rhs; reduce⟩
end Q
def cf182 : CF := Q.T182.1
set_option maxRecDepth 100000 in
theorem cf182_ok : compF TP Tryz.f182 = some cf182 := by kernel_rfl
namespace Q
set_option maxRecDepth 100000 in
def T183 : Was (x5 1 2 3 (u0 .geq 1 .u8 65 (e8 (n5 0 .leq 1 (m8 .u8 90) (f4 3 d4)))) 2) := ⟨_, by conv => rhs; reduce⟩
end Q
def cf183 : CF := Q.T183.1
set_option maxRecDepth 100000 in
theorem cf183_ok : compF TP Tryz.f183 = some cf183 := by kernel_rfl
namespace Q
set_option maxRecDepth 100000 in
def T184 : Was (h1 1 2 n9 (a16 3 a2 (p0 0 (g4 4 (u5 w4 (b1 (h3 y6 (f0 .lss 3 (v2 (s8 3 .ixstr 2 b3 (a4 317 (s3 5 c9)))))))) 13 (.x 0) (.b 1 (a39 14 3 3)))) (k3 16 (s8 3 (w7 .str false true) 2 b3 d4))) 2) := ⟨_, by conv => rhs; reduce⟩
end Q
def cf184 : CF := Q.T184.1
set_option maxRecDepth 100000 in
theorem cf184_ok : compF TP Tryz.f184 = some cf184 := by kernel_rfl
namespace Q
set_option maxRecDepth 100000 in
def T185 : Was (x5 1 2 3 (v8 319 [] (j0 318 d4)) 2) := ⟨_, by conv => rhs; reduce⟩
end Q
def cf185 : CF := Q.T185.1
set_option maxRecDepth 100000 in
theorem cf185_ok : compF TP Tryz.f185 = some cf185 := by kernel_rfl
namespace Q
set_option maxRecDepth 100000 in
def T186 : Was (x5 1 2 3 (u0 .geq 1 .u8 48 (e8 (n5 0 .leq 1 (m8 .u8 57) (f4 3 d4)))) 2) := ⟨_, by conv => rhs; reduce⟩
end Q
def cf186 : CF := Q.T186.1
set_option maxRecDepth 100000 in
theorem cf186_ok : compF TP Tryz.f186 = some cf186 := by kernel_rfl
namespace Q
set_option maxRecDepth 100000 in
def T187 : Was (a51 1 (t7 2 d0 (m8 .u64 0) (p1 d0 a2 e5) (e4 5 (z0 d0 (m8 .u64 0)) (a16 7 d5 (p0 0 (b4 9 6 (b1 (h3 y6 (f0 .lss 3 (v2 (s8 6 .ixstr 2 b3 (a4 186 (s3 5 c9))))))) (f7 18 0) (.b 1 (b7 19 (s8 6 .ixstr 2 b3 (u0 .sub 1 .u8 48 (h3 (.toInt .u64) w3))) (b0 24 7 (e8 (f6 5 8 (a79 .sub (x2 (.int .u64 9223372036854775808)) (u0 .quo 1 .u64 10 (f0 .leq 4 (f4 6 r4)))))) (b0 32 5 (a79 .mul (x2 (.int .u64 10)) (m3 8 .add 2 p7)) (a39 36 6 6))))))) (b4 38 6 (p4 .gtr (v2 (l1 .ixstr 1 a2 (u0 .eql 1 .u8 48 (f4 4 (h2 (a3 6 (b1 (h3 y6 (f0 .lss 3 (v2 (s8 6 .ixstr 2 b3 (a4 317 (a25 10 5 c9 (n1 11))))))))))))))) (c8 56 (.r 7 (n2 d0 e5))) (d7 57 5 (f6 6 7 (u4 2 s1 (u4 3 f1 d2)))))))) 2 (x9 3 (x9 4 []))) := ⟨_, by conv => rhs; reduce⟩
end Q
def cf187 : CF := Q.T187.1
set_option maxRecDepth 100000 in
theorem cf187_ok : compF TP Tryz.f187 = some cf187 := by kernel_rfl
namespace Q
set_option maxRecDepth 100000 in
def T189 : Was (h1 0 0 c1 (g0 1 (m2 (.bslice (m4 a1) 27 1 (u6 0 1 (u6 2 3 (u6 4 5 (u6 6 7 (u6 8 9 (u6 10 11 (u6 12 13 (u6 14 15 (u6 16 17 (u6 18 19 (u6 20 21 (u6 22 23 (o2 24 25 1 26 1)))))))))))))) (x6 3 4012605 3 4009789 (x6 2 15917 2 11051 (x6 2 15420 2 15934 (x6 2 15421 2 15678 (x6 1 40 1 41 (x6 1 91 1 93 (x6 1 123 1 125 (x6 1 44 1 59 (x6 1 46 1 58 (x6 1 47 1 124 (x6 1 33 1 61 (x6 1 43 1 45 (x6 1 42 1 60 (h0 1 62)))))))))))))) (c5 0))) 0) := ⟨_, by conv => rhs; reduce⟩
end Q
def cf189 : CF := Q.T189.1
set_option maxRecDepth 100000 in
theorem cf189_ok : compF TP Tryz.f189 = some cf189 := by kernel_rfl
namespace Q
set_option maxRecDepth 100000 in
def T191 : Was (g3 1 (k5 2 (u5 e6 (c2 3 k0)) 6 (d1 7 (c2 1 (p4 .add (w0 5 1 1 3)))))) := ⟨_, by conv => rhs; reduce⟩
end Q
def cf191 : CF := Q.T191.1
set_option maxRecDepth 100000 in
theorem cf191_ok : compF TP Tryz.f191 = some cf191 := by kernel_rfl
namespace Q
set_option maxRecDepth 100000 in
def T192 : Was (r1 1 (s0 2 (w6 a1 (.int .u64 0) []) (k3 3 (k9 320 a2 (f5 4 2)))) 2 4) := ⟨_, by conv => rhs; reduce⟩
end Q
def cf192 : CF := Q.T192.1
set_option maxRecDepth 100000 in
theorem cf192_ok : compF TP Tryz.f192 = some cf192 := by kernel_rfl
namespace Q
set_option maxRecDepth 100000 in
def T193 : Was (z1 2 (t7 2 b6 e6 (g1 1 (n2 d0 e5)) (p2 5 0 2 (i0 6 (k1 0 2 (i0 5 (k6 4 (i4 1 2 (m3 1 .eql 2 (f4 5 d2))))))))) 4) := ⟨_, by conv => rhs; reduce⟩
end Q
def cf193 : CF := Q.T193.1
set_option maxRecDepth 100000 in
theorem cf193_ok : compF TP Tryz.f193 = some cf193 := by kernel_rfl
namespace Q
set_option maxRecDepth 100000 in
def T194 : Was (r1 1 (s0 2 (a42 a1 []) (s0 3 (a42 a1 []) (h4 4 (z2 91 (e9 (h0 1 40))) (g5 5 (d1 6 (a4 92 [])) (d1 8 (v1 89 1 1 40))) (b7 10 (z7 321 1 41 (m1 1 3 1 f1)) (b7 13 (v1 93 1 1 41) (b7 15 (f3 322 1 (d8 3)) (a15 17 4 3 (f5 4 2)))))))) 2 4) := ⟨_, by conv => rhs; reduce⟩
end Q
def cf194 : CF := Q.T194.1
set_option maxRecDepth 100000 in
theorem cf194_ok : compF TP Tryz.f194 = some cf194 := by kernel_rfl
namespace Q
set_option maxRecDepth 100000 in
def T195 : Was (x5 1 2 3 (a4 24 (v2 (a4 185 (z9 .pick 4 c9 d4)))) 2) := ⟨_, by conv => rhs; reduce⟩
end Q
def cf195 : CF := Q.T195.1
set_option maxRecDepth 100000 in
theorem cf195_ok : compF TP Tryz.f195 = some cf195 := by kernel_rfl
namespace Q
set_option maxRecDepth 100000 in
def T196 : Was (v3 3 6 (n8 7 0 (b4 10 7 (b1 (x0 3)) (f7 13 0) (l5 1 (b7 16 (h7 7 4 (i3 4 8 (a42 a1 []) 4 8)) (b4 20 2 (i4 0 8 (a4 195 (z9 .pick 5 c9 (h2 (a3 2 (s2 (i4 0 8 (q9 .neq 1 n9 (a25 7 4 c9 (u8 8 (n5 1 .geq 1 a2 (i4 1 8 (c6 (m3 1 .neq 2 (a25 9 6 c9 (k6 10 (k1 1 8 (a4 323 (z9 .pick 5 n3 (k1 3 8 (a4 324 (x8 (t5 .pick 5 n3))))))))))))))))))))))) (j1 58 6 e5) (a66 9 a2 2 (b4 59 9 (a18 2 8 4) (f7 63 2) (l5 3 (k5 66 (a8 2 8 (k8 9 1 (c6 (r2 (k1 2 8 (k8 9 1 (a4 323 (x8 (t5 .pick 8 n3))))))))) 81 (q0 6)) 64 9 9))))) 14 7 7)) (l4 6 d5)) 6) := ⟨_, by conv => rhs; reduce⟩
end Q
def cf196 : CF := Q.T196.1
set_option maxRecDepth 100000 in
theorem cf196_ok : compF TP Tryz.f196 = some cf196 := by kernel_rfl
namespace Q
set_option maxRecDepth 100000 in
def T197 : Was (h1 1 2 c1 (q8 3 c1 (n8 4 0 (g4 5 (u5 w4 (b1 (x0 3))) 8 (.x 0) (l5 1 (t8 11 (h7 4 23 (g9 0 k4)) 15 (d3 16 3 (b1 (h7 4 23 (g9 1 (g8 11 (s6 (m7 h5 1 11 11) 11 200 7 3)))))) (d3 24 3 (b1 (h7 4 23 (g9 12 (g8 11 (s6 (m7 h5 1 11 11) 11 200 7 3))))))) 9 4 4)) (d7 32 3 d4))) 2) := ⟨_, by conv => rhs; reduce⟩
end Q
def cf197 : CF := Q.T197.1
set_option maxRecDepth 100000 in
theorem cf197_ok : compF TP Tryz.f197 = some cf197 := by kernel_rfl
namespace Q
set_option maxRecDepth 100000 in
def T198 : Was (s7 1 1 (a68 b6 1) (g0 3 (a71 11 e6 (a4 199 (a4 100 (p6 .add 1 2))))) 2) := ⟨_, by conv => rhs; reduce⟩
end Q
def cf198 : CF := Q.T198.1
set_option maxRecDepth 100000 in
theorem cf198_ok : compF TP Tryz.f198 = some cf198 := by kernel_rfl
namespace Q
set_option maxRecDepth 100000 in
def T199 : Was (s7 1 1 (a31 b6 1 c1) (a16 3 c1 (i6 5 0 1 k4 (.b 0 (b5 8 (a21 2 17 7) 7 (b0 9 3 (a8 6 1 (a4 98 (a34 11 200 4 3))) (b0 14 3 (a8 4 1 (a34 11 200 3 3)) (d7 18 3 (a8 9 1 (a4 197 (l8 11 200 4 d4)))))) (k5 24 (a0 6 8 23) 23 (n8 4 1 (b4 25 4 (a18 5 1 4) (f7 29 1) (l5 2 (h9 32 (a8 5 1 (m6 4 27 0 1 (q7 .neq 4))) 38 (d3 39 3 (a8 5 1 (h7 4 27 (g9 2 (g8 11 (s6 (m7 h5 1 11 11) 11 200 8 3)))))) (k5 48 (a8 5 1 (h7 4 27 (g9 24 k4))) 53 (d3 54 3 (a8 5 1 (h7 4 27 (g9 13 (g8 11 (s6 (m7 h5 1 11 11) 11 200 8 3)))))))) 30 4 4)) (d7 63 3 d4)))))) (b0 64 3 (a8 4 1 (a34 11 200 3 3)) (b0 68 3 (a8 8 1 (a4 197 (a34 11 200 4 3))) (b0 73 3 (a8 6 1 (a4 98 (a34 11 200 4 3))) (b0 78 3 (a8 7 1 (a4 98 (a34 11 200 4 3))) (d7 83 3 (a8 9 1 (a4 197 (l8 11 200 4 d4))))))))) 2) := ⟨_, by conv => rhs; reduce⟩
end Q
def cf199 : CF := Q.T199.1
set_option maxRecDepth 100000 in
theorem cf199_ok : compF TP Tryz.f199 = some cf199 := by kernel_rfl
namespace Q
set_option maxRecDepth 100000 in
def T200 : Was (x5 3 6 7 (m3 1 .geq 2 (v2 (m3 2 .leq 2 (f4 4 m0)))) 6) := ⟨_, by conv => rhs; reduce⟩
end Q
def cf200 : CF := Q.T200.1
set_option maxRecDepth 100000 in
theorem cf200_ok : compF TP Tryz.f200 = some cf200 := by kernel_rfl
end
end Ev
end Go.Proofs.YtihflniehaaakaaGreatDoor
