/-
  The functions of the program, compiled (printed by a program of ours; each is held against the program's own text below).
-/
import Derived.Test.YtogbcielgfidlaaGreatDoorMcC
namespace Go.Proofs.YtogbcielgfidlaaGreatDoor
set_option linter.unusedVariables false
set_option linter.unusedSimpArgs false
namespace Ev
noncomputable section
namespace Q
set_option maxRecDepth 100000 in
def T152 : Was (r1 1 (y1 2 a9 (v1 h8 b6 a9) (g1 6 (a7 155 w1) (c0 8 5 (i4 .neq (i1 (a1 5 (l0 .neq 2 (u7 .pick (o9 3) 1 (a4 (w2 .shr .u64 3 (r5 .gtr (p2 .u64 2147483647) (r3 4))))))))) (d6 18 (y1 2 a9 (v1 h8 b6 a9) .ret))) (g7 19 (w2 .and .u64 4 (w2 .neq .u64 0 (a4 (w2 .shr .u64 3 (x8 (.toInt .i64) (v8 2 4) (a17 3 (k5 4 h2)))))))))) 2 3 (a07 4 [])) := ⟨_, by conv => rhs; reduce⟩
end Q
def cf152 : CF := Q.T152.1
set_option maxRecDepth 100000 in
theorem cf152_ok : compF TP Tryz.f152 = some cf152 := by kernel_rfl
namespace Q
set_option maxRecDepth 100000 in
def T153 : Was (h3 2 4 n4 (z5 5 1 (d6 5 (g7 6 (a50 .nilc 2 (a60 4) []))) (g7 9 (a50 .nilc 0 (a60 4) []))) 4) := ⟨_, by conv => rhs; reduce⟩
end Q
def cf153 : CF := Q.T153.1
set_option maxRecDepth 100000 in
theorem cf153_ok : compF TP Tryz.f153 = some cf153 := by kernel_rfl
namespace Q
set_option maxRecDepth 100000 in
def T155 : Was (h9 1 2 (g7 3 (w2 .and .u64 3 (o8 (.toInt .i64) 2))) 2) := ⟨_, by conv => rhs; reduce⟩
end Q
def cf155 : CF := Q.T155.1
set_option maxRecDepth 100000 in
theorem cf155_ok : compF TP Tryz.f155 = some cf155 := by kernel_rfl
namespace Q
set_option maxRecDepth 100000 in
def T156 : Was (i5 3 6 (f5 7 1 (z3 .geq a0 (a4 (a1 2 (r5 .leq a0 (k9 4 6))))) .ret) 6) := ⟨_, by conv => rhs; reduce⟩
end Q
def cf156 : CF := Q.T156.1
set_option maxRecDepth 100000 in
theorem cf156_ok : compF TP Tryz.f156 = some cf156 := by kernel_rfl
namespace Q
set_option maxRecDepth 100000 in
def T157 : Was (i5 2 3 (b2 4 (g2 1 (a4 (k1 .and a0 (k7 .neq b0 3))))) 3) := ⟨_, by conv => rhs; reduce⟩
end Q
def cf157 : CF := Q.T157.1
set_option maxRecDepth 100000 in
theorem cf157_ok : compF TP Tryz.f157 = some cf157 := by kernel_rfl
namespace Q
set_option maxRecDepth 100000 in
def T158 : Was (m6 2 (y3 3 n2 c2 a9 (l2 5 (f9 (.fa 0) c2 (y5 1 a2) []) (.b 0 (d2 8 (o0 2 e8 7) 7 (b2 9 (g5 3 (d9 156 (z4 0 255) 4))) (d2 13 (a3 6 2 12) 12 (b2 14 (g5 3 (d9 156 (z4 0 8191) 4))) (f3 18 (a3 6 3 17) 17 (d8 19 (g5 3 (b7 2 (f0 (a28 .sub 1 a5 (h4 156 7 (m1 0) (a8 n7)))))) .ret))))) (o6 a9))) 4) := ⟨_, by conv => rhs; reduce⟩
end Q
def cf158 : CF := Q.T158.1
set_option maxRecDepth 100000 in
theorem cf158_ok : compF TP Tryz.f158 = some cf158 := by kernel_rfl
namespace Q
set_option maxRecDepth 100000 in
def T159 : Was (i5 2 4 (z5 5 0 (.b 0 (d2 7 (o0 2 (r6 1 45) 6) 6 (m4 8 1 (u7 b3 f1 1 (b5 (s5 2 (w9 .pick 3 4))))) (n9 15 (q8 5 4 1953459810 14) 14 (.r 16 (q8 5 3 7630702 14)) (f2 14 (m4 17 1 (g9 b3 f1 4)) (n9 20 (q8 5 1 43 19) 19 (c1 21 (q8 5 1 42 19) 19 (c1 22 (q8 5 3 7760228 19) 19 (c1 23 (q8 5 3 7169394 19) 19 (c1 24 (q8 5 4 1684955490 19) 19 (c1 25 (q8 5 3 7499618 19) 19 (c1 26 (q8 5 4 1919907938 19) 19 (c1 27 (q8 5 3 7107426 19) 19 (c1 28 (q8 5 3 7500642 19) 19 (c1 29 (q8 5 3 6581857 19) 19 (c1 30 (q8 5 2 29295 19) 19 (c1 31 (q8 5 3 7499640 19) 19 (c1 32 (q8 5 3 4012605 19) 19 (c1 33 (q8 5 3 4009789 19) 19 (c1 34 (q8 5 1 60 19) 19 (c1 35 (q8 5 2 15421 19) 19 (c1 36 (q8 5 1 62 19) 19 (c1 37 (q8 5 2 15678 19) 19 (.r 38 (q8 5 2 11051 19))))))))))))))))))) (d6 19 (m4 39 1 (g9 b3 (b9 2) 4)))))))) (o6 a9)) 4) := ⟨_, by conv => rhs; reduce⟩
end Q
def cf159 : CF := Q.T159.1
set_option maxRecDepth 100000 in
theorem cf159_ok : compF TP Tryz.f159 = some cf159 := by kernel_rfl
namespace Q
set_option maxRecDepth 100000 in
def T160 : Was (h9 2 4 (c5 5 1 (y4 .lss b0 (a4 (k2 229 (v6 1 47) .n (r3 3)))) (d0 10 4 b6) (b2 11 (o2 230 (a4 (k1 .add (v6 1 47) (b5 (a7 231 (k1 .add a6 (a16 (.lookup a26 false (.int .i64 0)) q5 n7))))))))) 4) := ⟨_, by conv => rhs; reduce⟩
end Q
def cf160 : CF := Q.T160.1
set_option maxRecDepth 100000 in
theorem cf160_ok : compF TP Tryz.f160 = some cf160 := by kernel_rfl
namespace Q
set_option maxRecDepth 100000 in
def T162 : Was (h9 2 4 (v4 0 (w0 6 0 (h0 0 (k7 .neq e1 5)) (f2 5 (o6 (d4 181)) (w0 16 3 (h0 3 (b8 (d3 232 e1 (a8 (a82 c9 (b4 15)))))) (f2 15 (o6 (d4 182)) (w0 27 5 (h0 5 (y4 .neq e1 (b7 6 (h0 6 (r5 .neq e1 (w9 .pick 10 26)))))) (d0 26 4 (d4 184))))))) a00) 4) := ⟨_, by conv => rhs; reduce⟩
end Q
def cf162 : CF := Q.T162.1
set_option maxRecDepth 100000 in
theorem cf162_ok : compF TP Tryz.f162 = some cf162 := by kernel_rfl
namespace Q
set_option maxRecDepth 100000 in
def T163 : Was (h3 2 4 n4 (w0 10 0 (b7 3 (b7 4 (i1 (h0 4 (.n :: c6 .pick (o9 5) (b7 5 (b7 6 (p5 (o1 (r0 (a09 h6 e6))) (p7 0 1 (u2 3 1 4 5 6)) (b1 23 (b1 19 (b1 9 e1))) (f7 .box w1))))))))) (w0 38 1 (f0 (h0 1 (f0 (g9 .mins q5 6)))) (c0 49 6 (g4 (.mks j4 8) (g0 1) (b4 7)) (a12 51 6 t7 (e0 0 53 53 0 (j1 (y8 54 .mv c2 8 (a03 55 (k6 7 (a1 8 (b7 1 (p0 8 1 a0 (h0 1 (p0 8 1 a0 (b8 (d3 233 (g0 8) (a8 (v5 1 (b1 17 (m7 16)) t3 (m5 1 2))))))))))))) 73 52 52)) (k0 74 5 7 (a7 234 (t2 3 1 1 3)) (c0 79 5 (b7 2 (f0 (g4 (.mks j4 8) (g0 1) (t2 7 2 1 3)))) (g1 88 (j2 2 (a51 a2)) (e0 2 94 94 2 (v9 3 (y8 95 .mv c2 9 (a03 96 (l6 5 a5 a5 (l7 2 a5 (b8 (a1 9 (b7 2 (p0 9 1 a0 (h0 2 (p0 9 1 a0 (b8 (d3 233 (g0 8) (a8 (v5 1 (b1 17 (m7 16)) t3 (m5 1 2))))))))))))))) 117 93 93)) (h5 118 5 4)))))))) 4) := ⟨_, by conv => rhs; reduce⟩
end Q
def cf163 : CF := Q.T163.1
set_option maxRecDepth 100000 in
theorem cf163_ok : compF TP Tryz.f163 = some cf163 := by kernel_rfl
namespace Q
set_option maxRecDepth 100000 in
def T164 : Was (h3 1 2 c7 (e3 5 (g4 (.mks j4 8) (g0 1) (b4 3)) (l2 7 (a33 3 a46 a2 t7) (e0 0 10 10 0 (j1 (y8 11 .mv c2 4 (q7 12 3 (a1 4 (v5 1 a0 (q1 1 f1) [])))) 15 9 9)) (h5 16 3 2))) 2) := ⟨_, by conv => rhs; reduce⟩
end Q
def cf164 : CF := Q.T164.1
set_option maxRecDepth 100000 in
theorem cf164_ok : compF TP Tryz.f164 = some cf164 := by kernel_rfl
namespace Q
set_option maxRecDepth 100000 in
def T165 : Was (h9 3 6 (c5 18 2 (p3 3 1 i6) (e0 0 24 24 0 (j1 (k8 25 2 21 (j7 2 8 e6 2 8) (f5 28 1 (i8 2 8 (l4 235 o3 27 (e4 31 4 5 (h7 6 (.j 9) (z9 .mv 32 [] (a10 h8 33) []))))) (f3 34 (f6 10 o5 b0) 35 (h5 36 10 6)))) 37 23 23)) (c5 38 2 (p3 9 1 i6) (e0 2 44 44 2 (v9 3 (k8 45 6 41 (j7 6 12 (a02 (a08 [h6])) 6 12) (g1 48 (b5 (z6 1 12 (g8 2 (l4 235 (b1 4 a6) 47 (e4 52 5 6 (h7 7 (.j 13) (z9 .mv 53 [] (a10 h8 54) []))))))) (f3 55 (f6 14 o5 b0) 56 (h5 57 14 6)) (e2 58 (z6 3 12 (g8 2 (l8 e6 [] [] (.b (.r (.eq (.agg [.i, .i]) false)) a0) []))) 61 (.x 3) (f5 63 1 (z6 3 12 (g8 2 (l4 235 (b1 4 a6) 62 (e4 67 5 6 (h7 7 (.j 15) (z9 .mv 68 [] (a10 h8 69) [])))))) (f3 70 (f6 16 o5 b0) 71 (h5 72 16 6)))))) 73 43 43)) (g1 74 (a33 2 (.call 236) a0 t7) (e0 4 78 78 4 (v9 5 (y8 79 .mv c2 17 (k0 80 1 17 (g3 237 (r4 b3 b0)) (d0 83 6 (d4 186)))) 84 77 77)) (d8 85 (a1 2 (l3 1 0 (x1 b3 (b9 2) 1 (a1 2 (l3 1 1 (h0 0 (r5 .geq e1 (f9 .pick (o9 11) a5 (d3 169 (b9 181) (a8 t1)))))))))) .ret)))) 6) := ⟨_, by conv => rhs; reduce⟩
end Q
def cf165 : CF := Q.T165.1
set_option maxRecDepth 100000 in
theorem cf165_ok : compF TP Tryz.f165 = some cf165 := by kernel_rfl
namespace Q
set_option maxRecDepth 100000 in
def T166 : Was (h9 3 6 (c5 11 2 (p3 0 1 []) (.b 0 (d2 16 (o0 2 (d4 5) 15) 15 (f5 18 1 (i3 2 3 (j8 2 b0 (g8 2 (l4 235 (b1 8 (g0 7)) 17 (e4 26 9 10 (n1 1 11 7 2 (s7 8 (c6 .mv (a01 28) [])))))))) (m4 29 7 (i3 2 5 (k1 .add (m1 3) (i4 .add (k1 .lss (g0 7) (d9 169 (b9 180) 6))))))) (n9 39 (a3 14 6 38) 38 (s0 40 14 7 38) (d6 38 (f5 42 1 (i3 2 3 (j8 2 b0 (g8 2 (l4 235 (b1 8 (g0 7)) 41 (e4 50 9 10 (n1 1 11 9 2 (s7 10 (c6 .mv (a01 52) [])))))))) (m4 53 9 (k1 .neq (b9 2) (d9 169 (b9 180) 6)))))))) (f8 6 b6)) 6) := ⟨_, by conv => rhs; reduce⟩
end Q
def cf166 : CF := Q.T166.1
set_option maxRecDepth 100000 in
theorem cf166_ok : compF TP Tryz.f166 = some cf166 := by kernel_rfl
namespace Q
set_option maxRecDepth 100000 in
def T167 : Was (h9 3 6 (c5 7 2 (p3 0 1 []) (.b 0 (n9 12 (o0 2 (d4 37) 11) 11 (s0 13 10 40 11) (f2 11 (t4 14 1 5 (i4 .neq (d9 169 (b9 184) 6))) (n9 21 (a3 10 38 20) 20 (s0 22 10 39 20) (f2 20 (t4 23 1 5 (k1 .neq (b9 2) (d9 169 (b9 184) 6))) (n9 30 (a3 10 1 29) 29 (c1 31 (a3 10 5 29) 29 (c1 32 (a3 10 6 29) 29 (c1 33 (a3 10 7 29) 29 (c1 34 (a3 10 8 29) 29 (c1 35 (a3 10 9 29) 29 (c1 36 (a3 10 10 29) 29 (c1 37 (a3 10 11 29) 29 (c1 38 (a3 10 12 29) 29 (s0 39 10 13 29))))))))) (f2 29 (f8 6 b6) (n9 41 (a3 10 30 40) 40 (c1 42 (a3 10 31 40) 40 (c1 43 (a3 10 32 40) 40 (c1 44 (a3 10 33 40) 40 (s0 45 10 34 40)))) (d0 40 6 b6))))))))) (t4 46 1 5 (k1 .neq b0 (d9 169 (b9 184) 6)))) 6) := ⟨_, by conv => rhs; reduce⟩
end Q
def cf167 : CF := Q.T167.1
set_option maxRecDepth 100000 in
theorem cf167_ok : compF TP Tryz.f167 = some cf167 := by kernel_rfl
namespace Q
set_option maxRecDepth 100000 in
def T168 : Was (h9 3 6 (t4 7 1 4 (s9 (i1 (i3 2 0 (l0 .geq 31 (u8 .pick 6 1 (i3 2 0 (l0 .leq 34 (c6 .pick (o9 6) (d9 169 (b9 183) 6)))))))))) 6) := ⟨_, by conv => rhs; reduce⟩
end Q
def cf168 : CF := Q.T168.1
set_option maxRecDepth 100000 in
theorem cf168_ok : compF TP Tryz.f168 = some cf168 := by kernel_rfl
namespace Q
set_option maxRecDepth 100000 in
def T169 : Was (h9 2 4 (z5 5 0 (d6 5 (h5 6 1 4)) a00) 4) := ⟨_, by conv => rhs; reduce⟩
end Q
def cf169 : CF := Q.T169.1
set_option maxRecDepth 100000 in
theorem cf169_ok : compF TP Tryz.f169 = some cf169 := by kernel_rfl
namespace Q
set_option maxRecDepth 100000 in
def T170 : Was (h9 3 6 (l5 8 1 0 (k7 .geq b0 7) (m4 13 7 (i1 (i3 2 0 (u7 b3 (b9 24) 1 (i3 2 0 (k2 171 a2 (w7 12 true) (j3 .pick (z1 6) (u7 .pick (o9 13) 1 (a1 7 (s9 (i1 (i3 2 0 (a56 25 (w7 9 false) (j3 .pick (o9 6) (c6 .pick (z1 10) (d9 169 (b9 181) 6))))))))))))))))) 6) := ⟨_, by conv => rhs; reduce⟩
end Q
def cf170 : CF := Q.T170.1
set_option maxRecDepth 100000 in
theorem cf170_ok : compF TP Tryz.f170 = some cf170 := by kernel_rfl
namespace Q
set_option maxRecDepth 100000 in
def T171 : Was (i5 1 2 (z5 3 0 (.b 0 (n9 5 (o0 2 (d4 26) 4) 4 (c1 6 (a3 3 17 4) 4 (c1 7 (a3 3 19 4) 4 (c1 8 (a3 3 21 4) 4 (s0 9 3 23 4)))) (d0 4 2 h2))) (f8 2 a9)) 2) := ⟨_, by conv => rhs; reduce⟩
end Q
def cf171 : CF := Q.T171.1
set_option maxRecDepth 100000 in
theorem cf171_ok : compF TP Tryz.f171 = some cf171 := by kernel_rfl
namespace Q
set_option maxRecDepth 100000 in
def T172 : Was (h9 3 6 (l5 8 1 3 (o8 o7 7) (e2 13 (m0 7 b3 b0) 14 (t4 15 2 0 (c6 b3 (b9 29) (d9 169 (b9 182) 6))) (d8 21 (i3 2 0 (b8 (a7 171 (a8 (i9 (a8 (l6 2 c9 c9 (l7 0 c9 (e5 1 (a7 173 (i2 (i1 (i2 (l6 1 q4 q4 (l7 3 q4 (i2 (d5 7 q4 (a28 .sub 1 q4 (v5 1 a6 q4 (e9 (i2 (l6 0 q4 q4 (l7 2 q4 (i2 (f9 (.bin .leq) e1 (w7 20 false) (i2 (j3 .pick (o9 14) (i2 (f9 .pick (z1 21) (.h 2 3) (d3 169 (b9 182) (c3 3 3 t1))))))))))))))))))))))))))))))) .ret))) 6) := ⟨_, by conv => rhs; reduce⟩
end Q
def cf172 : CF := Q.T172.1
set_option maxRecDepth 100000 in
theorem cf172_ok : compF TP Tryz.f172 = some cf172 := by kernel_rfl
namespace Q
set_option maxRecDepth 100000 in
def T174 : Was (r1 3 (m9 6 n4 n4 (y6 13 1 2 (d9 238 o3 8) (.q (d8 17 (i3 2 0 (b8 (a7 239 (a8 (i1 (a8 (l6 1 c9 c9 (l7 1 c9 (a8 (x8 o7 c9 (l6 2 c9 c9 (l7 6 c9 (a8 (r5 .gtr e1 (a8 (a14 .pick 11)))))))))))))))) (d6 33 (c0 34 1 (e7 .nilc (j7 7 9 (o1 (r0 (a09 h6 e6))) 7 9)) (d8 37 (h0 1 (i3 2 6 (f9 (a05 (.sl 1) true) e1 a5 (a7 234 (a8 (t5 1 9 t3 (m5 1 2))))))) (.r 1 (z2 (l1 9))))))) (c0 48 1 (d5 1 (v8 6 2) (b4 7)) (c5 50 2 (l3 1 0 (m8 o5 b0)) (d6 55 (.r 56 (b5 (a1 2 (r2 1 (g8 2 (a1 8 (d9 240 (a42 6) 6)))))))) (c0 63 6 (e7 .nilc (j7 7 10 (o1 (r0 (a09 h6 e6))) 7 10)) (c5 66 2 (p3 0 1 []) (.b 0 (d2 73 (a3 69 9 72) 72 (d8 74 (b5 (i3 2 3 (j8 2 b0 (g8 2 (i3 2 5 (f9 a58 (m1 3) (.s 1) (b8 (d5 7 (.j 86) (b8 (h4 240 12 q5 (a8 (a17 6 (a8 (u5 7 0 [])))))))))))))) .ret) (d2 89 (a3 69 10 88) 88 (m4 90 1 (i3 2 3 (j8 2 b0 (g8 2 (h4 240 7 (b9 2) (d5 7 (v8 6 2) (b4 7))))))) (n9 100 (a3 69 15 99) 99 (c1 101 (a3 69 16 99) 99 (c1 102 (a3 69 18 99) 99 (c1 103 (a3 69 20 99) 99 (s0 104 69 22 99)))) (f2 99 (m4 105 1 (a7 241 (d5 7 (v8 6 2) (b4 7)))) (d2 109 (a3 69 37 108) 108 (c0 110 1 (a7 241 t1) (k0 112 6 6 (h0 2 (f0 (a7 164 (a57 8 2 1 3 (q6 9 5 (q1 1 (b9 2)) []))))) (c0 124 6 (e7 .nilc (j7 7 11 (o1 (r0 (a09 h6 e6))) 7 11)) (c4 127 (t5 1 11 (q2 1 c7) (n3 5 11 (q1 1 f1))) (b2 129 (a40 .mv 6 [] 6 (k5 7 (l1 11)))))))) (d2 131 (a3 69 24 130) 130 (a03 132 (l6 2 a5 a5 (l7 5 a5 (i3 2 5 (b8 (a7 164 (a8 (t5 0 10 t3 (a25 1 7 (i2 (t5 2 10 (.h 2 3) (m5 1 3)))))))))))) (d2 144 (a3 69 25 143) 143 (.r 145 (t5 0 10 (q1 1 (b9 (-1))) (n3 2 10 (q2 1 c7)))) (d2 148 (a3 69 28 147) 147 (.d 149 (h0 3 (y0 1 (l6 2 a5 a5 (l7 4 a5 (b8 (f7 (k4 j4 1 1 0 1) (x7 153 242 a2 5 (e5 1 (y9 1 8 q5 (i2 (t5 3 10 (.h 2 3) (m5 1 2))))))))))))) (d2 162 (a3 69 29 161) 161 (.d 163 (h0 3 (h0 3 (f0 (i4 .sub (c6 (a05 (.sl 1) true) (g0 7) (t5 3 10 a5 (m5 1 2)))))))) (d2 176 (a3 69 30 175) 175 (.r 177 (n3 4 10 (q2 1 h2))) (d2 179 (a3 69 36 178) 178 (.r 180 (b7 2 (t5 5 10 (q1 1 f1) (n3 6 10 (t6 1 3))))) (n9 187 (a3 69 38 186) 186 (s0 188 69 40 186) (f2 186 (.r 189 (t5 5 10 (q1 1 b0) (n3 6 10 (q1 1 b0)))) (d2 192 (a3 69 39 191) 191 (c0 193 1 (e7 .nilc (j7 7 12 (o1 (r0 (a09 h6 e6))) 7 12)) (c4 196 (n3 5 12 (q1 1 f1)) (b2 197 (a40 .mv 6 [] 6 (k5 7 (l1 12)))))) (m4 70 6 (d5 7 (v8 6 2) (b4 7)))))))))))))))))) (b2 198 (d5 7 (a49 6 (l1 10)) (b4 7)))))))))) 6 7 []) := ⟨_, by conv => rhs; reduce⟩
end Q
def cf174 : CF := Q.T174.1
set_option maxRecDepth 100000 in
theorem cf174_ok : compF TP Tryz.f174 = some cf174 := by kernel_rfl
namespace Q
set_option maxRecDepth 100000 in
def T175 : Was (m6 2 (j0 2 c2 (n5 1 (z2 c7)) (c5 7 1 (y4 .lss b0 (b5 (i7 2 (f0 (r5 .geq a6 (r3 5)))))) (d0 14 4 c7) (a84 5 (w5 [.nils]) [] (c4 15 (i7 2 (a15 1 10 a0 (f6 1 (.call 243) a0))) (.b 0 (.f (.l 19) [.l 20] (.r 6 (z2 (l1 20))) (.b 1 (c0 21 6 (z3 .geq b0 (a1 6 (i7 2 (f0 (r5 .lss a6 (a14 .pick 5)))))) (d6 28 (.r 29 (i7 5 (a1 6 (f7 (k4 j4 1 1 0 1) (y9 1 8 a6 (g6 1 5)))))))))))) (c4 33 (i7 5 (a7 244 [])) (b2 35 (i7 5 (a7 245 n7))))))) 4) := ⟨_, by conv => rhs; reduce⟩
end Q
def cf175 : CF := Q.T175.1
set_option maxRecDepth 100000 in
theorem cf175_ok : compF TP Tryz.f175 = some cf175 := by kernel_rfl
namespace Q
set_option maxRecDepth 100000 in
def T176 : Was (i5 2 4 (f5 5 1 (g3 246 (k7 .geq b0 4)) .ret) 4) := ⟨_, by conv => rhs; reduce⟩
end Q
def cf176 : CF := Q.T176.1
set_option maxRecDepth 100000 in
theorem cf176_ok : compF TP Tryz.f176 = some cf176 := by kernel_rfl
namespace Q
set_option maxRecDepth 100000 in
def T179 : Was (i5 1 2 (z5 3 0 (.b 0 (n9 5 (o0 2 (d4 8) 4) 4 (c1 6 (a3 3 39 4) 4 (c1 7 (a3 3 12 4) 4 (s0 8 3 27 4))) (d0 4 2 a9))) (g7 9 (a7 171 (o8 d7 2)))) 2) := ⟨_, by conv => rhs; reduce⟩
end Q
def cf179 : CF := Q.T179.1
set_option maxRecDepth 100000 in
theorem cf179_ok : compF TP Tryz.f179 = some cf179 := by kernel_rfl
namespace Q
set_option maxRecDepth 100000 in
def T180 : Was (n6 0 (w4 0 (w5 (.nilf :: a67 (p9 []))) [] (n8 1 (a04 247) (b2 2 (c6 .mv p8 (c6 .mv c2 (l8 (.nilf :: a67 (p9 [])) (p7 0 1 (l9 1 1 2 (l9 3 1 6 (l9 4 1 5 (u2 7 1 8 9 10))))) (a74 249 (r8 250 251 (b1 2 (a47 1 (a86 252) (r8 253 254 (r8 255 256 (a04 257))))))) (q3 11 0) [])))))) 0 11 []) := ⟨_, by conv => rhs; reduce⟩
end Q
def cf180 : CF := Q.T180.1
set_option maxRecDepth 100000 in
theorem cf180_ok : compF TP Tryz.f180 = some cf180 := by kernel_rfl
namespace Q
set_option maxRecDepth 100000 in
def T181 : Was (m6 2 (j0 2 c2 (v1 n2 c2 a9) (e2 7 (g2 3 (y4 .lss b0 (g2 3 (x5 .geq 11 4)))) 14 (o6 a9) (d8 16 (i7 2 (g2 3 (a06 .nilc 3 (t0 0 (c6 (.ixarrp 11 1) (k3 (m7 3)) (e9 (f4 3 (b8 (a52 5 c8 [] (b8 (r9 a0 (s7 15 (a8 (a44 24 9 (a8 (a22 0 10 t3 (h7 11 t3 (a23 9 5 m3 (i2 t1))))))))))))))))))) (c4 27 (n3 0 5 (q1 1 b0)) (c5 28 6 (s9 (i9 (f4 5 (p5 c8 [] [] (g3 258 (q0 (r3 5))))))) (d0 35 4 a9) (l2 36 (n3 0 3 (y5 1 a2)) (.b 0 (d2 46 (a3 37 9 45) 45 (.d 47 (i7 2 (j2 11 (d1 6 3 (f0 (i4 .sub (k1 .add e1 (q6 9 11 a5 (m5 1 3))))))))) (d2 59 (a3 37 10 58) 58 (.d 60 (i7 2 (j2 11 (d1 8 3 (k1 .add (b9 63) (k1 .quo (b9 64) (k1 .add (m1 1) (k1 .add q5 (q6 10 11 a5 (m5 1 3)))))))))) (.r 38 (i7 2 (j2 11 (i4 .add (t2 5 11 1 3)))))))) (b2 72 (d1 6 3 (a77 (.mkf (.func 260) 0) 2 (g3 259 (o8 d7 4))))))))))) 4) := ⟨_, by conv => rhs; reduce⟩
end Q
def cf181 : CF := Q.T181.1
set_option maxRecDepth 100000 in
theorem cf181_ok : compF TP Tryz.f181 = some cf181 := by kernel_rfl
namespace Q
set_option maxRecDepth 100000 in
def T183 : Was (n6 2 (j0 3 c2 (v1 v2 [] a9) (e2 6 (g2 3 (m8 o5 (b9 3))) 8 (b2 9 (l8 c8 [] [] (q3 9 4) (k5 5 a9))) (x9 10 (l3 311 0 (l3 1 2 (g5 3 (j8 9 a6 (g8 9 (b8 (a66 9 4 (a8 (k5 5 h2))))))))) .ret))) 4 9 (a07 5 [])) := ⟨_, by conv => rhs; reduce⟩
end Q
def cf183 : CF := Q.T183.1
set_option maxRecDepth 100000 in
theorem cf183_ok : compF TP Tryz.f183 = some cf183 := by kernel_rfl
namespace Q
set_option maxRecDepth 100000 in
def T184 : Was (m6 2 (y3 3 n2 c2 (t8 .u64 0 []) (l2 7 (n3 0 3 (y5 1 a2)) (.b 0 (d2 10 (o0 2 e8 9) 9 (x9 11 (g5 3 (a06 .nilc 3 (t0 54 (c6 (.ixarrp 256 1) (k3 (m7 3)) (e9 n7))))) .ret) (f3 19 (a3 8 2 18) 18 (d8 20 (d5 0 (.s 1) (b8 (j6 1 3 a5 (x7 21 182 a2 2 (a8 (v5 1 a6 c9 (e9 (a8 n7)))))))) .ret)))) (w0 27 10 (a4 (l3 311 0 (l3 1 2 (g5 3 (j8 9 a6 (g8 9 (b8 (l4 148 (g0 14) 26 (a8 (a44 44 18 (a8 (a22 0 19 c9 (h7 20 c9 (u5 5 2 (s7 6 (a8 (c6 .mv (a01 46) []))))))))))))))))) (h5 47 5 4)))) 4) := ⟨_, by conv => rhs; reduce⟩
end Q
def cf184 : CF := Q.T184.1
set_option maxRecDepth 100000 in
theorem cf184_ok : compF TP Tryz.f184 = some cf184 := by kernel_rfl
namespace Q
set_option maxRecDepth 100000 in
def T185 : Was (i5 1 2 (g7 3 (a36 p4 true s6 (i1 (b7 6 (a36 p4 true s6 (.n :: k9 6 2)))))) 2) := ⟨_, by conv => rhs; reduce⟩
end Q
def cf185 : CF := Q.T185.1
set_option maxRecDepth 100000 in
theorem cf185_ok : compF TP Tryz.f185 = some cf185 := by kernel_rfl
namespace Q
set_option maxRecDepth 100000 in
def T188 : Was (h9 1 2 (g1 3 (v3 185 d7 a2) (d0 5 2 b6) (w0 6 5 (a4 (r2 0 (t0 0 (a18 0 (f0 (k7 .sub (g0 8) 2)))))) .ret)) 2) := ⟨_, by conv => rhs; reduce⟩
end Q
def cf188 : CF := Q.T188.1
set_option maxRecDepth 100000 in
theorem cf188_ok : compF TP Tryz.f188 = some cf188 := by kernel_rfl
namespace Q
set_option maxRecDepth 100000 in
def T191 : Was (h3 2 4 (t8 .u64 0 []) (l5 10 0 6 (b5 (l4 25 a0 9 (e4 15 6 7 (n1 1 8 5 2 (s7 6 (c6 .mv (a01 17) [])))))) (c0 19 5 (q9 268 18 (e4 20 2 3 (n1 1 4 7 2 (s7 8 (c6 .mv (a01 22) []))))) (h5 23 7 4))) 4) := ⟨_, by conv => rhs; reduce⟩
end Q
def cf191 : CF := Q.T191.1
set_option maxRecDepth 100000 in
theorem cf191_ok : compF TP Tryz.f191 = some cf191 := by kernel_rfl
namespace Q
set_option maxRecDepth 100000 in
def T195 : Was (n6 2 (w4 4 v2 [] (c5 16 1 (q9 150 15 (e4 17 2 3 (n1 1 4 5 2 t1))) (a38 20 6 (d6 20 (m4 21 5 (k2 138 a2 (q3 9 4) [])))) (c5 24 1 (q9 151 23 (e4 25 2 3 (h7 4 (.j 7) (z9 .mv 26 [] (a10 h8 27) [])))) (a38 28 8 (d6 28 (f5 29 1 (g3 270 (l8 c8 (h1 0 3) (m1 2) (q3 9 4) [])) .ret))) (e3 34 (r2 0 (b5 (l4 99 a0 33 (e4 38 5 6 (a24 1 7 (n1 2 8 9 3 (u5 10 2 (b4 11)))))))) (e2 42 (m0 11 d7 a2) 43 (b2 44 (k2 271 [] (q3 9 4) [])) (n8 12 c7 (e2 45 (f6 9 o5 b0) 46 (k0 47 10 9 (a1 10 (g3 100 (a34 (.p (a35 (.sl 1) true false)) m2 i6))) (e0 0 54 54 0 (j1 (k8 55 1 51 (e9 (b4 14)) (q7 57 12 (a4 (a1 14 (g3 195 (f7 (k4 c8 1 9 0 9) (w8 9 112 e1 12))))))) 63 53 53))) (z5 64 9 (.b 2 (d2 66 (o0 2 b6 65) 65 (v4 3 (.w (c5 67 11 (i1 (a1 9 (s5 0 (a14 .pick 3)))) (y7 71 3) (a29 4 (k0 81 12 0 (p0 10 1 b0 (d3 195 m2 (f7 (k4 c8 1 9 0 9) (w8 9 112 (g0 7) 12)))) (.r 89 (p0 10 1 f1 (b4 1)))) 73 (a4 (r2 0 (b5 (l4 99 a0 72 (e4 77 5 6 (a24 1 7 (n1 2 8 9 3 (u5 10 2 (b4 11)))))))))))) (k0 92 12 0 (b5 (g3 195 (f7 (k4 c8 1 9 0 9) (y9 9 112 e1 (l8 c8 (h1 0 6) (m1 9) (q3 9 4) []))))) .ret)) (d2 100 (a3 64 1 99) 99 (m4 101 12 (l8 c8 (h1 0 6) (m1 7) (q3 9 4) [])) (d2 104 (a3 64 2 103) 103 (x9 105 (p0 10 1 b0 (y0 1 (k6 10 (x3 (.ixsl 1) 1 a5 (e9 (n5 1 (e5 0 (d5 10 r7 (x3 (.ixsl 1) 2 r7 (e9 (n5 1 (c3 0 3 (d5 10 (.h 0 3) (x3 (.ixsl 1) 3 (.h 0 3) (e9 (n5 1 (c3 0 4 (d5 12 (.j 109) (a31 270 m2 3 (e5 1 (v0 194 a2 3 (c3 2 3 (v0 194 a2 3 (c3 3 4 (v0 194 a2 1 (c3 4 4 (l8 c8 (l9 0 1 3 (u2 2 1 1 5 6)) (p6 4 (b1 14 (b1 10 (a42 6)))) (.h 4 5) (g6 9 4)))))))))))))))))))))))))))) .ret) (d2 125 (a3 64 3 124) 124 (x9 126 (p0 10 1 b0 (y0 1 (k6 0 (k6 10 (x3 (.ixsl 1) 1 a5 (e9 (n5 1 (e5 0 (d5 10 r7 (x3 (.ixsl 1) 2 r7 (e9 (x7 130 270 m2 4 (e5 1 (v0 270 m2 3 (c3 2 3 (a7 194 (c3 3 3 (l8 c8 (u2 0 1 3 4 5) (p6 5 (b1 10 e1)) (.h 3 4) (g6 9 4))))))))))))))))))) .ret) (d2 142 (a3 64 4 141) 141 (x9 143 (p0 10 1 b0 (y0 1 (k6 10 (x3 (.ixsl 1) 1 a5 (e9 (n5 1 (e5 0 (d5 10 r7 (x3 (.ixsl 1) 2 r7 (e9 (x7 147 270 m2 3 (e5 1 (v0 194 a2 3 (c3 2 3 (a7 194 (c3 3 3 (l8 c8 (u2 0 1 3 2 1) (p6 6 (b1 9 e1)) (.h 3 4) (g6 9 4)))))))))))))))))) .ret) (d2 158 (a3 64 5 157) 157 (x9 159 (p0 10 1 b0 (y0 1 (k6 10 (x3 (.ixsl 1) 1 a5 (e9 (n5 1 (e5 0 (d5 10 r7 (x3 (.ixsl 1) 2 r7 (e9 (x7 163 270 m2 3 (e5 1 (v0 194 a2 3 (c3 2 3 (a7 194 (c3 3 3 (l8 c8 (u2 0 1 3 2 1) (p6 3 (b1 9 e1)) (.h 3 4) (g6 9 4)))))))))))))))))) .ret) (f3 174 (a3 64 6 173) 173 (m4 175 10 (j8 1 b0 (e9 (e7 (.toInt .i64) (k2 138 a2 (q3 9 4) []))))))))))))) (y6 180 9 10 (h4 204 3 a0 (k2 218 a2 (q3 9 4) [])) .ret))))))))) 4 9 []) := ⟨_, by conv => rhs; reduce⟩
end Q
def cf195 : CF := Q.T195.1
set_option maxRecDepth 100000 in
theorem cf195_ok : compF TP Tryz.f195 = some cf195 := by kernel_rfl
namespace Q
set_option maxRecDepth 100000 in
def T196 : Was (n6 2 (a45 4 v2 [] t7 (u6 6 (v3 185 d7 a2) 8 (b2 9 (l8 c8 [] [] (q3 9 4) (k5 5 e8))) (u6 10 (b5 (g3 149 (r4 d7 a2))) 13 (b2 14 (l8 c8 [] [] (q3 9 4) (k5 5 (d4 6)))) (f5 15 1 (k2 195 a0 (q3 9 4) (k5 5 b6)) .ret)))) 4 9 (a07 5 [])) := ⟨_, by conv => rhs; reduce⟩
end Q
def cf196 : CF := Q.T196.1
set_option maxRecDepth 100000 in
theorem cf196_ok : compF TP Tryz.f196 = some cf196 := by kernel_rfl
namespace Q
set_option maxRecDepth 100000 in
def T197 : Was (m6 2 (j0 2 c2 (a30 n2 c2) (l2 7 (g2 2 (g2 3 (d9 272 a6 5))) (f3 12 (f6 5 o5 b0) 13 (h5 14 5 4)) (l2 15 (n3 0 2 (y5 1 a2)) (.b 0 (d2 18 (o0 2 (d4 7) 17) 17 (b2 19 (d1 6 2 (d1 6 3 (d9 273 a6 4)))) (d2 25 (a3 16 9 24) 24 (b2 26 (d1 6 2 (d1 6 3 (d9 274 a6 4)))) (f3 32 (a3 16 10 31) 31 (b2 33 (f4 2 (f4 3 (d9 275 a0 4)))))))) (.q (d8 36 (d1 3 2 (d1 3 3 (y0 1 (j6 4 2 a5 (b8 (j6 4 3 a5 (n5 1 (e5 0 (j6 2 2 r7 (e5 0 (j6 2 3 r7 (n5 1 (c3 0 3 (j6 1 2 (.h 0 3) (c3 0 3 (j6 1 3 (.h 0 3) (n5 1 (c3 0 4 (j6 5 2 (.h 0 4) (c3 0 4 (j6 5 3 (.h 0 4) (x7 40 277 a6 4 (e5 1 (v0 277 a6 4 (c3 2 3 (v0 278 a6 4 (c3 3 4 (v0 278 a6 4 (c3 4 5 (d3 272 a6 (c3 5 5 (g4 (.bslice j4 5 1 (p7 0 1 (u2 1 1 2 3 4))) (b1 21 (b1 16 (b1 11 q5))) (c3 5 6 (a7 276 (c3 6 6 t1))))))))))))))))))))))))))))))))))) (f3 63 (f6 6 o5 b0) 64 (h5 65 6 4))) (b2 66 (d1 6 2 (d1 6 3 (d9 273 a6 4)))))))) 4) := ⟨_, by conv => rhs; reduce⟩
end Q
def cf197 : CF := Q.T197.1
set_option maxRecDepth 100000 in
theorem cf197_ok : compF TP Tryz.f197 = some cf197 := by kernel_rfl
namespace Q
set_option maxRecDepth 100000 in
def T200 : Was (n6 3 (j0 3 (l1 0) (n5 2 (a34 v2 [] (m8 (w5 (u9 0 0 0 0 (a32 0 0 0 0))) []))) (c5 13 1 (z3 .neq (v6 3 4009789) (b5 (k2 229 (v6 1 47) .n (a14 .pick 3)))) (d6 18 (b2 19 (d3 215 (r6 5 439787744885) (e7 (.ext 0) (h7 2 (w3 9 6 m3) (g6 10 7)))))) (c0 22 1 (k1 .add (v6 1 47) (a1 2 (f0 (a7 231 (s1 m2 8))))) (n8 9 (t9 .nilf) (l2 28 (f6 2 a46 a2) (.b 0 (v4 3 (v4 2 (v4 1 (.q (e2 31 (o0 2 u4 30) 30 (.x 1) (f3 33 (a3 29 1 32) 32 (.x 2))) (.x 3)) (c4 34 (o2 280 (b5 (a16 (.lookup a26 false .nilf) a0 (b4 9)))) (f3 37 (m0 9 (.eqd .f true) (k3 (t9 .nilf))) 38 (.x 0)))) (c4 39 (o2 280 (a1 8 (a16 (.lookup a26 false .nilf) a0 (b4 10)))) (f3 42 (m0 10 (.eqd .f true) (k3 (t9 .nilf))) 43 (c4 44 (y2 .mv 10 [] 9) (.x 0))))) (c5 45 1 (a1 2 (a13 o7 (.call 160) a6 [])) (.b 4 (d2 50 (o0 2 e8 49) 49 (.r 51 (o2 281 (a1 8 (a16 (.lookup a26 false .nilf) a0 (b4 9))))) (f3 55 (a3 48 2 54) 54 (.r 56 (o2 282 (a1 8 (a16 (.lookup a26 false .nilf) a0 (b4 9)))))))) (.x 0)))) (e2 59 (m0 9 (.eqd .f false) (k3 (t9 .nilf))) 60 (b2 61 (d3 215 (r6 5 439787744885) (e7 (.ext 0) (h7 2 (w3 9 6 m3) (g6 10 7))))) (a12 64 2 i6 (e0 5 67 67 5 (v9 6 (k8 68 9 64 (j7 9 12 c8 9 12) (f3 70 (f4 12 (v3 22 d7 a2)) 72 (b2 73 (d3 215 (r6 6 113740957901154) (e7 (.ext 0) (h7 2 (w3 9 6 m3) (g6 10 7))))))) 76 66 66)) (m4 77 9 (f4 3 (a1 2 (p5 (a71 0 (x4 0 0 (x4 0 0 []))) (a20 0 9 9 1) a0 (r9 m2 (e7 (.ext 0) (h7 2 (w3 9 6 m3) (g6 10 7))))))))))))))) 6 9 (a59 7 10 [])) := ⟨_, by conv => rhs; reduce⟩
end Q
def cf200 : CF := Q.T200.1
set_option maxRecDepth 100000 in
theorem cf200_ok : compF TP Tryz.f200 = some cf200 := by kernel_rfl
namespace Q
set_option maxRecDepth 100000 in
def T202 : Was (h3 1 2 c7 (e2 3 (m0 0 (.eqd .s false) (k3 c7)) 4 (f8 2 c7) (b2 5 (g4 (.bslice (z0 0 []) 0 1 []) [] (a4 (w8 1 8 a0 2))))) 2) := ⟨_, by conv => rhs; reduce⟩
end Q
def cf202 : CF := Q.T202.1
set_option maxRecDepth 100000 in
theorem cf202_ok : compF TP Tryz.f202 = some cf202 := by kernel_rfl
namespace Q
set_option maxRecDepth 100000 in
def T209 : Was (h9 2 4 (w0 7 320 (b7 321 (g4 (.bslice (z0 0 []) 2 1 (h1 0 1)) e1 (a4 (r2 54 (x8 (a05 (.arr 256 1) false) a5 (y9 1 8 e1 (a8 w1))))))) (d8 21 (a1 5 (b7 310 (y0 1 (l6 0 a5 a5 (l7 319 a5 (s7 26 (b8 (y9 1 8 e1 (n5 4 (e5 1 (y9 1 8 e1 (i2 w1)))))))))))) (k0 33 1 5 (r9 a0 (s7 32 (e4 35 3 4 (n1 1 5 5 2 t1)))) (e2 38 (f6 6 o5 b0) 39 (h5 40 6 4) (d8 41 (k6 0 (a4 (p0 5 1 b0 (p0 5 1 f1 (e5 0 (d5 5 r7 (c6 (a35 (.sl 1) true false) (b9 2) (q6 10 320 a5 (a25 1 8 (a8 (w6 .nilc 11 c9 (j9 321 t3 (a25 1 7 (i2 (u5 5 5 []))))))))))))))) (k0 55 5 0 (r2 54 (e7 (a05 (.arr 256 1) false) (a1 5 (a64 (.copy 1) a0 (g9 (a35 (.sl 1) true false) (g0 7) 5))))) (c0 63 5 (b7 310 (a1 5 (a64 (.copy 1) a0 (g9 (a35 (.sl 1) true false) (g0 7) 5)))) (l5 71 0 319 (a1 5 (a64 (.copy 1) a0 [])) a00)))))))) 4) := ⟨_, by conv => rhs; reduce⟩
end Q
def cf209 : CF := Q.T209.1
set_option maxRecDepth 100000 in
theorem cf209_ok : compF TP Tryz.f209 = some cf209 := by kernel_rfl
namespace Q
set_option maxRecDepth 100000 in
def T210 : Was (r1 3 (y1 4 c7 t7 (d8 6 (i7 1 (j2 11 (i7 2 (k6 0 (h4 211 3 a0 (a8 (x8 (.ext 0) c9 (h7 2 c9 (u5 4 2 (a8 w1)))))))))) .ret)) 4 5 []) := ⟨_, by conv => rhs; reduce⟩
end Q
def cf210 : CF := Q.T210.1
set_option maxRecDepth 100000 in
theorem cf210_ok : compF TP Tryz.f210 = some cf210 := by kernel_rfl
namespace Q
set_option maxRecDepth 100000 in
def T211 : Was (r1 3 (y1 6 c7 t7 (v4 0 (e3 9 (a19 p4 s6 (i9 (b7 0 (a19 p4 s6 (.n :: w9 .pick 6 8))))) (f2 8 (m9 6 c7 e8 .ret) (c0 19 1 (y4 .lss b0 (b5 (l0 .gtr 1048576 (w9 .pick 3 18)))) (f2 18 (m9 6 c7 u4 .ret) (f5 26 2 (g3 287 (o8 d7 25)) (f2 25 (m9 6 c7 (d4 6) .ret) (e3 31 (l3 1 2 (s9 (i1 (b7 0 (a7 188 (b5 (r5 .geq a0 (k9 8 30)))))))) (d6 30 (m4 46 2 (a7 202 (a17 6 (k5 7 b6)))))))))))) (x9 48 (b7 6 (a4 (l3 1 1 (k1 .geq q5 (b5 (k6 2 (h4 288 13 o3 (a8 (x8 (.ext 0) c9 (h7 2 c9 (u5 6 2 (a8 (b4 7))))))))))))) .ret))) 6 7 []) := ⟨_, by conv => rhs; reduce⟩
end Q
def cf211 : CF := Q.T211.1
set_option maxRecDepth 100000 in
theorem cf211_ok : compF TP Tryz.f211 = some cf211 := by kernel_rfl
namespace Q
set_option maxRecDepth 100000 in
def T217 : Was (n6 1 (j0 1 p8 (a34 v2 [] (m8 (w5 (u9 0 0 0 0 (a32 0 0 0 0))) [])) (b2 4 (f4 1 (l8 (u9 0 0 0 0 (a32 0 0 0 0)) [] [] (w3 9 2 m3) (g6 10 3))))) 2 9 (a59 3 10 [])) := ⟨_, by conv => rhs; reduce⟩
end Q
def cf217 : CF := Q.T217.1
set_option maxRecDepth 100000 in
theorem cf217_ok : compF TP Tryz.f217 = some cf217 := by kernel_rfl
namespace Q
set_option maxRecDepth 100000 in
def T223 : Was (m6 1 (j0 1 p8 t7 (n8 3 b6 (l2 8 (n3 0 1 (y5 1 a2)) (.b 0 (d2 11 (o0 2 e8 10) 10 (c4 13 (g5 1 (q9 269 12 (e4 15 3 4 (h7 5 (.j 4) (z9 .mv 16 [] (a10 h8 17) []))))) (f3 18 (m0 5 d7 a2) 19 (.r 3 (z2 u4)))) (d2 21 (a3 9 9 20) 20 (.r 22 (d1 6 1 (f0 (i4 .sub (k7 .mul (m1 2) 3))))) (d2 28 (a3 9 7 27) 27 (.r 29 (d1 6 1 (f0 (s1 (m1 1) 3)))) (d2 34 (a3 9 4 33) 33 (.r 35 (d1 6 1 (f0 (s1 (m1 5) 3)))) (n9 40 (a3 9 5 39) 39 (c1 41 (a3 9 6 39) 39 (s0 42 9 3 39)) (f2 39 (.r 3 (z2 (d4 4))) (f3 44 (a3 9 10 43) 43 (.r 45 (d1 8 1 (a7 212 (b4 3)))))))))))) (l2 48 (t5 6 1 (y5 1 a2) i6) (e0 1 52 52 1 (v9 2 (k8 53 9 49 (j7 9 7 c8 9 7) (q7 55 3 (f4 7 (a7 223 (s1 a6 3))))) 59 51 51)) (h5 60 3 2))))) 2) := ⟨_, by conv => rhs; reduce⟩
end Q
def cf223 : CF := Q.T223.1
set_option maxRecDepth 100000 in
theorem cf223_ok : compF TP Tryz.f223 = some cf223 := by kernel_rfl
end
end Ev
end Go.Proofs.YtogbcielgfidlaaGreatDoor
namespace Go.Proofs.YtogbcielgfidlaaGreatDoor
set_option linter.unusedVariables false
set_option linter.unusedSimpArgs false
namespace Ev
noncomputable section
namespace Q
set_option maxRecDepth 100000 in
def T224 : Was (m6 2 (y3 3 n2 c2 (t8 .u64 0 []) (c4 10 (d1 6 3 (f0 (g4 (.mks (z0 0 []) 8) (m1 0) w1))) (l2 14 (t5 6 3 (y5 1 a2) i6) (e0 0 18 18 0 (j1 (k8 19 9 15 (j7 9 7 c8 9 7) (q7 21 5 (a4 (f4 7 (g3 224 (f7 (k4 (z0 0 []) 1 1 0 1) (w8 1 8 e1 5))))))) 27 17 17)) (l2 28 (n3 0 3 (y5 1 a2)) (.b 2 (d2 31 (o0 2 e8 30) 30 (g7 32 (g5 3 (d9 293 a6 4))) (d2 37 (a3 29 2 36) 36 (g7 38 (d1 3 3 (d9 191 a6 4))) (d2 43 (a3 29 8 42) 42 (b2 44 (d9 30 [] 4)) (d2 46 (a3 29 9 45) 45 (k0 47 5 5 (f0 (i4 .sub (j8 1 m2 (e9 (b4 8))))) (c5 53 5 (f0 (k7 .sub (b9 2) 9)) (a27 3 (n9 56 (f6 9 (x2 .geq) b0) 57 (.x 3) (a29 4 (p1 60 (a1 5 (p0 9 1 a0 (a1 8 (d9 190 (a42 6) 8))))) 58 (a1 9 (k7 .sub f1 9))))) (h5 67 8 4))) (d2 69 (a3 29 7 68) 68 (f5 70 5 (d9 189 (b1 2 (m1 1)) 4) .ret) (d2 74 (a3 29 4 73) 73 (d8 75 (c3 0 5 (a4 (a4 (d1 3 3 (y0 1 (j6 2 3 a5 (n5 1 (e5 0 (j6 1 3 r7 (n5 1 (c3 0 3 (j6 5 3 (.h 0 3) (n5 2 (c3 0 4 (d5 5 (.j 79) (a31 191 a6 2 (e5 1 (v0 192 a2 2 (c3 2 3 (v0 192 a2 2 (c3 3 4 (a7 192 (c3 4 4 (g4 (.bslice (z0 0 []) 4 1 (u2 0 1 1 2 3)) (b1 10 (b1 7 m2)) (n5 1 (c3 4 5 (y9 1 8 a0 (c3 5 6 (h4 189 17 (m1 2) (c3 6 6 n7)))))))))))))))))))))))))))))) .ret) (d2 94 (a3 29 5 93) 93 (d8 95 (c3 0 3 (a4 (a4 (d1 3 3 (y0 1 (k6 0 (j6 4 3 a5 (n5 1 (e5 0 (j6 5 3 r7 (x7 99 191 a6 3 (e5 1 (v0 191 a6 2 (c3 2 3 (a7 192 (c3 3 3 (g4 (.bslice (z0 0 []) 3 1 (p7 0 1 (h1 1 2))) (b1 8 m2) (c3 3 4 (h4 189 13 (m1 3) (c3 4 4 n7)))))))))))))))))))) .ret) (d2 110 (a3 29 6 109) 109 (d8 111 (c3 0 3 (a4 (a4 (d1 3 3 (y0 1 (j6 2 3 a5 (n5 1 (e5 0 (j6 1 3 r7 (x7 115 191 a6 2 (e5 1 (v0 192 a2 2 (c3 2 3 (a7 192 (c3 3 3 (g4 (.bslice (z0 0 []) 3 1 (p7 0 1 (h1 1 2))) (b1 7 m2) (c3 3 4 (h4 189 12 (m1 4) (c3 4 4 n7))))))))))))))))))) .ret) (f3 125 (a3 29 3 124) 124 (d8 126 (c3 0 3 (a4 (a4 (d1 3 3 (y0 1 (j6 2 3 a5 (n5 1 (e5 0 (j6 1 3 r7 (x7 130 191 a6 2 (e5 1 (v0 192 a2 2 (c3 2 3 (a7 192 (c3 3 3 (g4 (.bslice (z0 0 []) 3 1 (p7 0 1 (h1 1 2))) (b1 7 m2) (c3 3 4 (h4 189 12 (m1 5) (c3 4 4 n7))))))))))))))))))) .ret))))))))))) (g7 139 (d1 7 3 (d1 8 3 (p5 (a43 0 0) (h1 0 1) a6 (d9 213 q5 4))))))))) 4) := ⟨_, by conv => rhs; reduce⟩
end Q
def cf224 : CF := Q.T224.1
set_option maxRecDepth 100000 in
theorem cf224_ok : compF TP Tryz.f224 = some cf224 := by kernel_rfl
namespace Q
set_option maxRecDepth 100000 in
def T225 : Was (i5 2 4 (l2 8 (f6 1 (.call 155) a2) (.b 0 (d2 11 (o0 2 b6 10) 10 (o6 a9) (f3 13 (a3 9 3 12) 12 (m4 14 1 (a7 294 n7))))) (f5 17 1 (l4 99 a0 16 (e4 19 3 4 (a24 1 5 (a22 2 6 (.j 5) (c6 .mv (a01 20) (z9 .mv 21 [] (a10 h8 22) [])))))) (h5 23 7 4))) 4) := ⟨_, by conv => rhs; reduce⟩
end Q
def cf225 : CF := Q.T225.1
set_option maxRecDepth 100000 in
theorem cf225_ok : compF TP Tryz.f225 = some cf225 := by kernel_rfl
namespace Q
set_option maxRecDepth 100000 in
def T226 : Was (h9 1 2 (g1 3 (v3 61 d7 a2) (d0 5 2 b6) (t4 6 0 1 (o8 o7 2))) 2) := ⟨_, by conv => rhs; reduce⟩
end Q
def cf226 : CF := Q.T226.1
set_option maxRecDepth 100000 in
theorem cf226_ok : compF TP Tryz.f226 = some cf226 := by kernel_rfl
namespace Q
set_option maxRecDepth 100000 in
def T227 : Was (h9 1 2 (g7 3 (w2 .and .u64 15 (o8 (.toInt .i64) 2))) 2) := ⟨_, by conv => rhs; reduce⟩
end Q
def cf227 : CF := Q.T227.1
set_option maxRecDepth 100000 in
theorem cf227_ok : compF TP Tryz.f227 = some cf227 := by kernel_rfl
namespace Q
set_option maxRecDepth 100000 in
def T228 : Was (r1 1 (y1 2 b6 (v1 h8 b6 a9) (e3 5 (w2 .shr .u64 2 (w2 .and .u64 15 (o8 (.toInt .i64) 2))) (u6 9 (a7 155 (y4 .neq b0 (a1 2 (l0 .lss 1 (u1 3 1 2 (l0 .gtr 8 (u3 3 1 (a4 (w2 .shr .u64 6 (r5 .gtr (p2 .u64 65535) (r3 4))))))))))) 24 (y1 2 b6 (v1 h8 b6 a9) .ret) (k0 25 2 0 (w2 .shr .u64 6 (x8 (.toInt .i64) (v8 2 4) (a17 3 (k5 4 h2)))) .ret)))) 2 3 (a07 4 [])) := ⟨_, by conv => rhs; reduce⟩
end Q
def cf228 : CF := Q.T228.1
set_option maxRecDepth 100000 in
theorem cf228_ok : compF TP Tryz.f228 = some cf228 := by kernel_rfl
namespace Q
set_option maxRecDepth 100000 in
def T230 : Was (h3 0 0 (t9 .nilm) (c4 3 (g4 (.mkm false) [] (a52 1 [.nilm] [] (g6 1 1))) (c4 4 (y2 (.mkf (.func 296) 0) 1 [] 2) (c0 5 2 (r9 (a69 1 (t9 (b13 211))) []) (c0 7 2 (r9 (a69 2 (b12 130)) []) (c0 9 2 (r9 (a69 3 (t9 (b11 326))) []) (c0 11 2 (r9 (a69 4 (r6 15 265770033204623512752161048958627937)) []) (b2 13 (i7 1 (b4 0))))))))) 0) := ⟨_, by conv => rhs; reduce⟩
end Q
def cf230 : CF := Q.T230.1
set_option maxRecDepth 100000 in
theorem cf230_ok : compF TP Tryz.f230 = some cf230 := by kernel_rfl
namespace Q
set_option maxRecDepth 100000 in
def T231 : Was (h3 1 2 (r6 0 0) (w4 3 (w5 (s2 .u8 0 (s2 .u8 0 (s2 .u8 0 (s2 .u8 0 (s2 .u8 0 (s2 .u8 0 (s2 .u8 0 (s2 .u8 0 (s2 .u8 0 (s2 .u8 0 (s2 .u8 0 (s2 .u8 0 (s2 .u8 0 (s2 .u8 0 (s2 .u8 0 (s2 .u8 0 (s2 .u8 0 (s2 .u8 0 (s2 .u8 0 (s2 .u8 0 []))))))))))))))))))))) [] (n8 4 (d4 20) (g1 6 (a7 298 w1) (a27 0 (a29 1 (c0 10 4 (k7 .sub f1 4) (k0 12 4 5 (w2 .rem .u64 10 (k1 .add (t8 .u64 48 a2) (e7 (.toInt .u8) (a78 (.ixarrp 20 1) 3 (m7 5) (t6 1 2) [])))) (f3 18 (f6 5 x0 (p2 .u64 10)) 19 (.x 0)))) 8 (a1 5 (k7 .quo (p2 .u64 10) 5)))) (e2 20 (f6 0 x0 b0) 21 (c0 22 4 (k7 .sub f1 4) (q7 24 4 (a78 (.ixarrp 20 1) 3 a2 (q2 1 (t8 .u8 45 [])) []))) (m4 26 4 (a76 (a35 (.arr 20 1) true false) 3 a2 (a16 .b2s a2 (b4 2)))))))) 2) := ⟨_, by conv => rhs; reduce⟩
end Q
def cf231 : CF := Q.T231.1
set_option maxRecDepth 100000 in
theorem cf231_ok : compF TP Tryz.f231 = some cf231 := by kernel_rfl
namespace Q
set_option maxRecDepth 100000 in
def T232 : Was (i5 2 4 (g1 6 (f0 (b5 (a13 o7 o5 a6 []))) (d0 10 4 a9) (l2 11 (a33 0 a46 a2 t7) (e0 0 14 14 0 (j1 (y8 15 .mv c2 5 (x9 16 (p0 5 1 a0 (b5 (p0 5 1 a0 (m8 o5 e1)))) (d0 24 4 a9))) 25 13 13)) (o6 h2))) 4) := ⟨_, by conv => rhs; reduce⟩
end Q
def cf232 : CF := Q.T232.1
set_option maxRecDepth 100000 in
theorem cf232_ok : compF TP Tryz.f232 = some cf232 := by kernel_rfl
namespace Q
set_option maxRecDepth 100000 in
def T233 : Was (h9 2 4 (v4 0 (f5 6 1 (g9 b3 a0 5) (f2 5 (h5 9 0 4) (e3 11 (u7 b3 b0 1 (b5 (s5 0 (w9 .pick 3 10)))) (f2 10 a00 (e3 18 (z3 .geq (b9 3) (b5 (l0 .geq 3 (k9 3 17)))) (d6 17 (f5 24 1 (g9 .mins a0 4) .ret))))))) (o6 e8)) 4) := ⟨_, by conv => rhs; reduce⟩
end Q
def cf233 : CF := Q.T233.1
set_option maxRecDepth 100000 in
theorem cf233_ok : compF TP Tryz.f233 = some cf233 := by kernel_rfl
namespace Q
set_option maxRecDepth 100000 in
def T234 : Was (h3 1 2 c7 (v4 0 (.w (g1 3 (f0 (z3 .gtr b0 (a4 (a4 (f0 (i4 .sub (j8 1 m2 (e9 (s5 0 (a14 .pick 8)))))))))) (y7 14 0) (.b 1 (p1 15 (a4 (f0 (i4 .sub (g9 (a05 (.sl 1) true) m2 0)))))))) (h5 20 0 2)) 2) := ⟨_, by conv => rhs; reduce⟩
end Q
def cf234 : CF := Q.T234.1
set_option maxRecDepth 100000 in
theorem cf234_ok : compF TP Tryz.f234 = some cf234 := by kernel_rfl
namespace Q
set_option maxRecDepth 100000 in
def T235 : Was (r1 3 (j0 5 (l1 2) (a30 h8 b6) (l2 10 (n3 0 5 (y5 1 a2)) (.b 0 (d2 13 (o0 2 e8 12) 12 (c0 14 1 (g5 5 (d9 237 a6 8)) (k0 18 8 8 (c6 b3 b0 (k2 169 (b9 186) (v8 6 4) (b4 7))) .ret)) (f3 23 (a3 11 2 22) 22 (.q (d8 24 (g5 5 (h0 0 (m8 (x2 .geq) e1))) (d6 30 (m9 6 b6 (d4 181) .ret))) (d8 31 (h0 2 (g5 5 (j8 1 a6 (e9 (a17 6 (k5 7 b6)))))) .ret))))) (.q (w0 39 0 (j2 2 (g5 5 (g9 (.ixsl 9) a6 9))) (c0 49 9 (p3 0 1 []) (.b 1 (d2 54 (o0 2 (d4 9) 53) 53 (y1 6 u4 t7 .ret) (f3 56 (a3 52 7 55) 55 (t4 57 9 6 (f0 (a68 a58 (m1 3) 6 (k5 7 b6))))))))) (y1 6 e8 t7 .ret)))) 6 7 []) := ⟨_, by conv => rhs; reduce⟩
end Q
def cf235 : CF := Q.T235.1
set_option maxRecDepth 100000 in
theorem cf235_ok : compF TP Tryz.f235 = some cf235 := by kernel_rfl
namespace Q
set_option maxRecDepth 100000 in
def T236 : Was (h9 2 4 (c5 5 1 (p3 0 1 []) (.b 0 (n9 10 (o0 2 (d4 15) 9) 9 (c1 11 (a3 8 18 9) 9 (c1 12 (a3 8 19 9) 9 (c1 13 (a3 8 20 9) 9 (s0 14 8 21 9)))) (f2 9 (t4 15 1 5 n7) (n9 20 (a3 8 16 19) 19 (s0 21 8 17 19) (f2 19 (w0 22 0 (j2 3 (h0 5 (j8 4 e1 (a18 1 n7)))) .ret) (f3 37 (a3 8 26 36) 36 (o6 e8))))))) a00) 4) := ⟨_, by conv => rhs; reduce⟩
end Q
def cf236 : CF := Q.T236.1
set_option maxRecDepth 100000 in
theorem cf236_ok : compF TP Tryz.f236 = some cf236 := by kernel_rfl
namespace Q
set_option maxRecDepth 100000 in
def T237 : Was (h9 2 4 (c5 5 1 (b7 1 (a13 o7 x0 q5 [])) (d6 11 (t4 12 0 1 (p0 1 1 a0 n7))) a00) 4) := ⟨_, by conv => rhs; reduce⟩
end Q
def cf237 : CF := Q.T237.1
set_option maxRecDepth 100000 in
theorem cf237_ok : compF TP Tryz.f237 = some cf237 := by kernel_rfl
namespace Q
set_option maxRecDepth 100000 in
def T238 : Was (h9 3 6 (v4 0 (l5 10 2 0 (g9 b3 f1 9) (f2 9 (f5 16 1 (i3 2 3 (j8 2 b0 (g8 2 (l4 235 (b1 8 (g0 7)) 15 (e4 24 9 10 (n1 1 11 7 2 (s7 8 (c6 .mv (a01 26) [])))))))) (h5 27 7 6)) (c5 29 2 (j2 0 (g9 b3 (b9 2) 28)) (f2 28 .skip (.r 34 (i3 2 0 (x1 b3 (b9 13) 1 (i3 2 7 (j3 b3 (v6 2 32123) (k9 6 28))))))) (f2 28 (t4 46 2 3 (f0 (s1 (m1 3) 6))) (c5 53 2 (j2 0 (g9 b3 (b9 3) 52)) (f2 52 .skip (.r 58 (i3 2 0 (x1 b3 (b9 13) 1 (i3 2 7 (j3 b3 (v6 1 124) (k9 6 52))))))) (d0 52 6 u4)))))) (f8 6 e8)) 6) := ⟨_, by conv => rhs; reduce⟩
end Q
def cf238 : CF := Q.T238.1
set_option maxRecDepth 100000 in
theorem cf238_ok : compF TP Tryz.f238 = some cf238 := by kernel_rfl
namespace Q
set_option maxRecDepth 100000 in
def T239 : Was (i5 1 2 (z5 3 0 (.b 0 (n9 5 (o0 2 u4 4) 4 (c1 6 (a3 3 3 4) 4 (c1 7 (a3 3 4 4) 4 (c1 8 (a3 3 13 4) 4 (c1 9 (a3 3 14 4) 4 (c1 10 (a3 3 31 4) 4 (c1 11 (a3 3 32 4) 4 (c1 12 (a3 3 33 4) 4 (s0 13 3 35 4)))))))) (d0 4 2 h2))) (f8 2 a9)) 2) := ⟨_, by conv => rhs; reduce⟩
end Q
def cf239 : CF := Q.T239.1
set_option maxRecDepth 100000 in
theorem cf239_ok : compF TP Tryz.f239 = some cf239 := by kernel_rfl
namespace Q
set_option maxRecDepth 100000 in
def T240 : Was (m6 3 (j0 4 (l1 1) (n5 1 (z2 n4)) (e3 9 (e7 .nilc (j7 7 7 (o1 (r0 (a09 h6 e6))) 7 7)) (l2 12 (n3 0 4 (y5 1 a2)) (.b 0 (d2 15 (o0 2 e8 14) 14 (l5 16 0 1 (a7 242 (b4 8)) (v4 1 (.w (c5 21 8 (f0 (g5 4 (m8 (x2 .leq) a6))) (y7 25 1) (.b 2 (q7 26 8 (g4 (k4 j4 1 1 0 1) b6 (w8 1 8 a0 8)))))) (c0 29 8 (g5 4 (a1 2 (v5 1 (b1 4 m3) (t6 1 2) []))) (q7 34 8 (a7 234 (n3 1 7 (t6 1 2))))))) (f3 38 (a3 13 2 37) 37 (l5 39 0 2 (a7 242 (n3 2 7 (t6 1 2))) (.r 45 (d1 2 7 (g5 4 (a1 2 (v5 1 (b1 4 m3) (t6 1 2) []))))))))) (f8 6 (l1 7))))) 6) := ⟨_, by conv => rhs; reduce⟩
end Q
def cf240 : CF := Q.T240.1
set_option maxRecDepth 100000 in
theorem cf240_ok : compF TP Tryz.f240 = some cf240 := by kernel_rfl
namespace Q
set_option maxRecDepth 100000 in
def T241 : Was (h3 1 2 n4 (e3 4 (e7 .nilc (j7 7 3 (o1 (r0 (a09 h6 e6))) 7 3)) (c4 7 (d3 164 e8 (t5 1 3 (t6 1 2) (n3 4 3 (q2 1 a9)))) (f8 2 (l1 3)))) 2) := ⟨_, by conv => rhs; reduce⟩
end Q
def cf241 : CF := Q.T241.1
set_option maxRecDepth 100000 in
theorem cf241_ok : compF TP Tryz.f241 = some cf241 := by kernel_rfl
namespace Q
set_option maxRecDepth 100000 in
def T242 : Was (h3 1 2 c7 (e2 3 (m0 0 (.eqd .s false) (k3 c7)) 4 (f8 2 c7) (b2 5 (g4 (.bslice j4 0 1 []) [] (a4 (w8 1 8 a0 2))))) 2) := ⟨_, by conv => rhs; reduce⟩
end Q
def cf242 : CF := Q.T242.1
set_option maxRecDepth 100000 in
theorem cf242_ok : compF TP Tryz.f242 = some cf242 := by kernel_rfl
namespace Q
set_option maxRecDepth 100000 in
def T243 : Was (m6 2 (j0 2 c2 (v1 n2 c2 (t9 .nilf)) (a93 5 (.mkf (.func 299) 0) 2 c2 4)) 4) := ⟨_, by conv => rhs; reduce⟩
end Q
def cf243 : CF := Q.T243.1
set_option maxRecDepth 100000 in
theorem cf243_ok : compF TP Tryz.f243 = some cf243 := by kernel_rfl
namespace Q
set_option maxRecDepth 100000 in
def T244 : Was (n0 1 (e3 3 (o8 o7 2) (p1 5 (a1 2 (a1 2 (e7 (.toInt .u64) (a7 301 (h4 300 5 (p6 0 m2) [])))))))) := ⟨_, by conv => rhs; reduce⟩
end Q
def cf244 : CF := Q.T244.1
set_option maxRecDepth 100000 in
theorem cf244_ok : compF TP Tryz.f244 = some cf244 := by kernel_rfl
namespace Q
set_option maxRecDepth 100000 in
def T245 : Was (h3 1 2 c7 (u6 6 (a13 o7 x0 (b9 2) []) 8 (h5 9 0 2) (.q (n8 3 e8 (a27 0 (c5 10 3 (a4 (a13 o7 x0 a6 [])) (y7 13 0) (a29 1 (x9 16 (p0 3 1 a0 (a4 (a1 3 (i4 .sub (j8 1 a6 (e9 (r4 b3 q5))))))) (d6 25 (f5 26 3 (g9 (a35 (.sl 1) true false) a0 4) (.q (n8 5 e8 (a27 2 (c5 29 5 (a1 4 (a13 o7 x0 a6 [])) (y7 32 2) (a29 3 (d8 35 (a1 4 (p0 5 1 a0 (a1 4 (a1 5 (i4 .sub (j8 1 a6 (e9 (m8 o5 q5)))))))) (d6 44 (y6 45 3 4 (p0 5 1 a0 (v5 1 (b1 6 (m7 5)) (t6 1 2) [])) (q7 52 3 (s1 f1 3))))) 33 (a1 5 (s1 f1 5)))))) (f5 54 3 (f9 (a35 (.sl 1) true false) a0 (a65 (.clear j4) a2) []) (f5 57 3 (g9 (a05 (.sl 1) true) a0 2) .ret)))))) 14 (a1 3 (s1 f1 3)))))) (h5 60 0 2))) 2) := ⟨_, by conv => rhs; reduce⟩
end Q
def cf245 : CF := Q.T245.1
set_option maxRecDepth 100000 in
theorem cf245_ok : compF TP Tryz.f245 = some cf245 := by kernel_rfl
namespace Q
set_option maxRecDepth 100000 in
def T246 : Was (h9 2 4 (l2 6 (a33 0 a46 a2 t7) (e0 0 9 9 0 (j1 (y8 10 .mv c2 5 (k0 11 1 0 (a15 5 2 a0 (g8 2 (m8 .callv e1))) (d6 16 (h5 17 5 4)))) 18 8 8)) (o6 (d4 (-1)))) 4) := ⟨_, by conv => rhs; reduce⟩
end Q
def cf246 : CF := Q.T246.1
set_option maxRecDepth 100000 in
theorem cf246_ok : compF TP Tryz.f246 = some cf246 := by kernel_rfl
namespace Q
set_option maxRecDepth 100000 in
def T247 : Was (n6 1 (j0 1 p8 (v1 v2 [] a9) (c4 5 (g5 1 (d3 248 (z4 1 2147483647) (i1 (d1 2 1 (k2 248 (z4 1 2147483647) .n (u8 .pick 4 1 (d1 3 1 (k2 33 a2 .n (k9 4 4))))))))) (c4 18 (t5 1 1 (q1 1 b0) (t5 2 1 (q1 1 b0) (n3 3 1 (q2 1 (r6 0 0))))) (b2 21 (f4 1 (d5 4 (w3 9 2 m3) (b4 3))))))) 2 9 (a07 3 [])) := ⟨_, by conv => rhs; reduce⟩
end Q
def cf247 : CF := Q.T247.1
set_option maxRecDepth 100000 in
theorem cf247_ok : compF TP Tryz.f247 = some cf247 := by kernel_rfl
namespace Q
set_option maxRecDepth 100000 in
def T248 : Was (i5 3 6 (f5 7 1 (z3 .geq a0 (a4 (a1 2 (r5 .leq a0 (k9 4 6))))) .ret) 6) := ⟨_, by conv => rhs; reduce⟩
end Q
def cf248 : CF := Q.T248.1
set_option maxRecDepth 100000 in
theorem cf248_ok : compF TP Tryz.f248 = some cf248 := by kernel_rfl
namespace Q
set_option maxRecDepth 100000 in
def T249 : Was (n6 1 (j0 1 p8 (v1 v2 [] a9) (b2 4 (f4 1 (a66 9 2 (k5 3 a9))))) 2 9 (a07 3 [])) := ⟨_, by conv => rhs; reduce⟩
end Q
def cf249 : CF := Q.T249.1
set_option maxRecDepth 100000 in
theorem cf249_ok : compF TP Tryz.f249 = some cf249 := by kernel_rfl
namespace Q
set_option maxRecDepth 100000 in
def T250 : Was (n6 1 (j0 1 p8 (v1 v2 [] a9) (c4 4 (n3 1 1 (q1 1 b0)) (b2 5 (f4 1 (a66 9 2 (k5 3 h2)))))) 2 9 (a07 3 [])) := ⟨_, by conv => rhs; reduce⟩
end Q
def cf250 : CF := Q.T250.1
set_option maxRecDepth 100000 in
theorem cf250_ok : compF TP Tryz.f250 = some cf250 := by kernel_rfl
namespace Q
set_option maxRecDepth 100000 in
def T251 : Was (n6 1 (j0 1 p8 (v1 v2 [] a9) (c4 5 (d1 3 1 (a7 33 n7)) (c4 8 (n3 3 1 (q2 1 (r6 0 0))) (b2 9 (f4 1 (d5 4 (w3 9 2 m3) (b4 3))))))) 2 9 (a07 3 [])) := ⟨_, by conv => rhs; reduce⟩
end Q
def cf251 : CF := Q.T251.1
set_option maxRecDepth 100000 in
theorem cf251_ok : compF TP Tryz.f251 = some cf251 := by kernel_rfl
namespace Q
set_option maxRecDepth 100000 in
def T258 : Was (m6 2 (j0 2 c2 (v1 n2 c2 a9) (b2 5 (g2 2 (g2 3 (x1 b3 a6 1 (g5 2 (g5 3 (j3 b3 a6 (u8 .pick 6 1 (d1 2 2 (d1 2 3 (j3 b3 a6 (u8 .pick 6 1 (d1 3 2 (d1 3 3 (j3 b3 a6 (u8 .pick 6 1 (d1 4 2 (d1 4 3 (j3 b3 a6 (u8 .pick 6 1 (d1 5 2 (d1 5 3 (j3 b3 a6 (u8 .pick 6 1 (d1 7 2 (d1 7 3 (j3 b3 a6 (u8 .pick 6 1 (d1 8 2 (d1 8 3 (j3 b3 a6 (u8 .pick 6 1 (d1 6 2 (d1 6 3 (k2 302 (a63 3 (a04 258)) .n (k9 6 4))))))))))))))))))))))))))))))))))))) 4) := ⟨_, by conv => rhs; reduce⟩
end Q
def cf258 : CF := Q.T258.1
set_option maxRecDepth 100000 in
theorem cf258_ok : compF TP Tryz.f258 = some cf258 := by kernel_rfl
namespace Q
set_option maxRecDepth 100000 in
def T259 : Was (i5 2 4 (f5 5 1 (g3 303 (k7 .geq b0 4)) .ret) 4) := ⟨_, by conv => rhs; reduce⟩
end Q
def cf259 : CF := Q.T259.1
set_option maxRecDepth 100000 in
theorem cf259_ok : compF TP Tryz.f259 = some cf259 := by kernel_rfl
namespace Q
set_option maxRecDepth 100000 in
def T261 : Was (i5 2 4 (f5 5 1 (g3 304 (k7 .geq b0 4)) .ret) 4) := ⟨_, by conv => rhs; reduce⟩
end Q
def cf261 : CF := Q.T261.1
set_option maxRecDepth 100000 in
theorem cf261_ok : compF TP Tryz.f261 = some cf261 := by kernel_rfl
namespace Q
set_option maxRecDepth 100000 in
def T268 : Was (r1 1 (m9 2 (t8 .u64 0 []) a9 (u6 4 (y4 .lss b0 (a4 (x5 .gtr 2147483647 3))) 9 (m9 2 (t8 .u64 0 []) a9 .ret) (g7 10 (e7 (.toInt .u64) (w2 .shl .u64 4 (a68 (.bin .or) (p2 .u64 7) 2 (k5 3 h2))))))) 2 3 []) := ⟨_, by conv => rhs; reduce⟩
end Q
def cf268 : CF := Q.T268.1
set_option maxRecDepth 100000 in
theorem cf268_ok : compF TP Tryz.f268 = some cf268 := by kernel_rfl
namespace Q
set_option maxRecDepth 100000 in
def T269 : Was (r1 1 (m9 2 (t8 .u64 0 []) a9 (u6 4 (y4 .gtr (b9 576460752303423487) (a4 (x5 .lss (-576460752303423488) 3))) 9 (m9 2 (t8 .u64 0 []) a9 .ret) (g7 10 (e7 (.toInt .u64) (w2 .shl .u64 4 (a68 (.bin .or) (p2 .u64 3) 2 (k5 3 h2))))))) 2 3 []) := ⟨_, by conv => rhs; reduce⟩
end Q
def cf269 : CF := Q.T269.1
set_option maxRecDepth 100000 in
theorem cf269_ok : compF TP Tryz.f269 = some cf269 := by kernel_rfl
namespace Q
set_option maxRecDepth 100000 in
def T270 : Was (h3 2 4 (r6 0 0) (c0 10 1 (q9 151 9 (e4 11 2 3 (n1 1 4 5 2 (s7 6 (c6 .mv (a01 13) []))))) (l5 15 0 6 (a1 5 (l4 306 a0 14 (e4 20 6 7 (n1 1 8 7 2 (s7 8 (c6 .mv (a01 22) [])))))) (h5 23 7 4))) 4) := ⟨_, by conv => rhs; reduce⟩
end Q
def cf270 : CF := Q.T270.1
set_option maxRecDepth 100000 in
theorem cf270_ok : compF TP Tryz.f270 = some cf270 := by kernel_rfl
namespace Q
set_option maxRecDepth 100000 in
def T272 : Was (h9 2 4 (e3 7 (a7 307 w1) (c0 9 1 (a7 307 t1) (z5 11 5 (d6 11 (z5 12 6 (d0 12 4 b6) (o6 (d4 (-1))))) (z5 13 6 (d0 13 4 e8) (g1 14 (f6 1 x0 a0) (d0 16 4 (d4 (-1))) (g1 17 (f6 1 (x2 .gtr) a0) (d0 19 4 e8) a00)))))) 4) := ⟨_, by conv => rhs; reduce⟩
end Q
def cf272 : CF := Q.T272.1
set_option maxRecDepth 100000 in
theorem cf272_ok : compF TP Tryz.f272 = some cf272 := by kernel_rfl
namespace Q
set_option maxRecDepth 100000 in
def T273 : Was (h9 2 4 (g1 6 (f0 (b5 (f0 (d9 272 a6 5)))) (f3 11 (f6 5 o5 b0) 12 (h5 13 5 4)) (f5 14 1 (d9 308 (a63 2 (a04 197)) 4) .ret)) 4) := ⟨_, by conv => rhs; reduce⟩
end Q
def cf273 : CF := Q.T273.1
set_option maxRecDepth 100000 in
theorem cf273_ok : compF TP Tryz.f273 = some cf273 := by kernel_rfl
namespace Q
set_option maxRecDepth 100000 in
def T276 : Was (h9 1 2 (n8 3 b6 (a12 6 0 i6 (e0 0 9 9 0 (j1 (k8 10 1 6 (e9 w1) (c0 12 5 (f6 3 o5 a0) (d6 14 (h5 15 5 2)))) 16 8 8)) (h5 17 3 2))) 2) := ⟨_, by conv => rhs; reduce⟩
end Q
def cf276 : CF := Q.T276.1
set_option maxRecDepth 100000 in
theorem cf276_ok : compF TP Tryz.f276 = some cf276 := by kernel_rfl
namespace Q
set_option maxRecDepth 100000 in
def T278 : Was (h9 2 4 (e3 7 (a7 311 w1) (c0 9 1 (a7 311 t1) (z5 11 5 (d6 11 (z5 12 6 (d0 12 4 b6) (o6 (d4 (-1))))) (z5 13 6 (d0 13 4 e8) (g1 14 (f6 1 x0 a0) (d0 16 4 (d4 (-1))) (g1 17 (f6 1 (x2 .gtr) a0) (d0 19 4 e8) a00)))))) 4) := ⟨_, by conv => rhs; reduce⟩
end Q
def cf278 : CF := Q.T278.1
set_option maxRecDepth 100000 in
theorem cf278_ok : compF TP Tryz.f278 = some cf278 := by kernel_rfl
namespace Q
set_option maxRecDepth 100000 in
def T280 : Was (h3 0 0 (t9 .nilm) (b2 1 (g4 (.mkm false) [] (s3 312 313 (s4 2 1 43) (s3 312 314 (s4 3 1 45) (s3 312 315 (s4 4 1 42) (s3 312 316 (s4 5 3 7760228) (s3 312 317 (s4 6 3 7169394) (s3 312 318 (s4 7 3 7107426) (s3 312 319 (s4 8 3 7500642) (s3 312 320 (s4 9 4 1684955490) (s3 312 321 (s4 10 3 7499618) (s3 312 322 (s4 11 4 1919907938) (s3 312 323 (s4 12 6 54079886683746) (s3 312 324 (s4 13 3 3223341) (s3 326 327 (s4 14 3 6581857) (s3 326 328 (s4 15 2 29295) (s3 326 329 (s4 16 3 7499640) (s3 326 330 (s4 17 5 211249557358) (s3 331 332 (s4 18 3 4012605) (s3 331 333 (s4 19 3 4009789) (s3 331 334 (s4 20 1 60) (s3 331 335 (s4 21 2 15421) (s3 331 336 (s4 22 1 62) (s3 331 337 (s4 23 2 15678) (a41 a26 (a47 23 (.str 2 11051) (a04 338)) :: g9 .mv (m7 23) 0))))))))))))))))))))))))) 0) := ⟨_, by conv => rhs; reduce⟩
end Q
def cf280 : CF := Q.T280.1
set_option maxRecDepth 100000 in
theorem cf280_ok : compF TP Tryz.f280 = some cf280 := by kernel_rfl
namespace Q
set_option maxRecDepth 100000 in
def T287 : Was (m6 2 (j0 2 c2 (n5 1 (z2 a9)) (m4 5 1 (a77 (.mkf (.func 369) 0) 2 (g3 261 (o8 d7 4))))) 4) := ⟨_, by conv => rhs; reduce⟩
end Q
def cf287 : CF := Q.T287.1
set_option maxRecDepth 100000 in
theorem cf287_ok : compF TP Tryz.f287 = some cf287 := by kernel_rfl
namespace Q
set_option maxRecDepth 100000 in
def T293 : Was (h3 2 4 (t8 .u64 0 []) (c5 8 1 (q9 269 7 (e4 9 2 3 (n1 1 4 5 2 t1))) (a38 12 6 (d6 12 (h5 13 5 4))) (f5 14 1 (e7 (.toInt .u64) (f7 (k4 (z0 0 []) 1 1 0 1) (d9 189 (b1 4 (m1 6)) 4))) .ret)) 4) := ⟨_, by conv => rhs; reduce⟩
end Q
def cf293 : CF := Q.T293.1
set_option maxRecDepth 100000 in
theorem cf293_ok : compF TP Tryz.f293 = some cf293 := by kernel_rfl
namespace Q
set_option maxRecDepth 100000 in
def T294 : Was (i5 1 2 (e3 6 (o2 30 (g9 b3 a0 3)) (e3 10 (q9 150 9 (e4 11 2 3 (h7 4 (.j 4) (z9 .mv 12 [] (a10 h8 13) [])))) (c0 14 3 (i9 (d5 5 .n (w9 .pick 2 3))) (e3 19 (q9 151 18 (e4 20 2 3 (g9 (.ext 1) (m7 4) 5))) (c0 23 3 (i9 (d5 5 .n (w9 .pick 2 3))) (e3 28 (q9 152 27 (e4 29 2 3 (a24 1 4 (g9 (.ext 2) (m7 5) 5)))) (c0 33 3 (i9 (d5 5 .n (w9 .pick 2 3))) (e3 38 (q9 228 37 (e4 39 2 3 (a24 1 4 (g9 (.ext 2) (m7 5) 5)))) (m4 43 3 (i9 (d5 5 .n (w9 .pick 2 2)))))))))))) 2) := ⟨_, by conv => rhs; reduce⟩
end Q
def cf294 : CF := Q.T294.1
set_option maxRecDepth 100000 in
theorem cf294_ok : compF TP Tryz.f294 = some cf294 := by kernel_rfl
namespace Q
set_option maxRecDepth 100000 in
def T296 : Was (n0 3 (c4 7 (a33 1 (.call 297) a2 i6) (e0 0 11 11 0 (j1 (k8 12 1 8 (e9 t1) (.r 14 (i7 2 (a1 6 (d5 0 (a41 a26 o3) []))))) 17 10 10)))) := ⟨_, by conv => rhs; reduce⟩
end Q
def cf296 : CF := Q.T296.1
set_option maxRecDepth 100000 in
theorem cf296_ok : compF TP Tryz.f296 = some cf296 := by kernel_rfl
namespace Q
set_option maxRecDepth 100000 in
def T297 : Was (h3 1 2 c7 (n8 3 b6 (n8 4 e8 (n8 5 (t8 .u8 0 []) (.q (n8 6 b6 (a27 0 (c5 13 6 (a4 (a13 (.leng .str) x0 a6 [])) (y7 16 0) (a29 1 (f5 19 6 (g9 .ixstr a0 7) (k0 22 5 7 (k7 .or a0 5) (c0 25 7 (c6 (.ixarrp 256 1) (v7 (.ptr 1 0) a2) (e9 (o8 (.toInt .i64) 8))) (k0 29 3 4 (a1 8 (e7 (.un .xor) (k1 .and a6 (s1 e1 3)))) (.r 35 (y2 .mv 8 [] 4)))))) 17 (a1 6 (s1 f1 6)))))) (e2 36 (f6 5 (x2 .geq) (p2 .u8 128)) 37 (g7 38 (d9 375 (k3 (a04 376)) 2)) (c0 40 3 (g4 (.mks (i0 0 0 []) 16) (g0 1) (b4 9)) (n8 10 b6 (n8 11 b6 (n8 12 b6 (v4 2 (.w (c5 42 12 (a4 (e7 (.leng .str) (z3 .lss a6 (a4 (a1 12 (c6 .ixstr a0 (c6 (.ixarrp 256 1) (v7 (.ptr 1 0) a2) (e9 (r5 .neq (p2 .u8 0) (a14 .pick 7)))))))))) (y7 53 2) (.b 3 (q7 54 12 (s1 f1 12))))) (c4 56 (y2 .mv 12 [] 11) (v4 4 (.w (c5 57 12 (a4 (a13 (.leng .str) x0 a6 [])) (y7 60 4) (.b 5 (u6 61 (a1 12 (c6 .ixstr a0 (c6 (.ixarrp 256 1) (v7 (.ptr 1 0) a2) (e9 (r4 b3 (p2 .u8 0)))))) 66 (c0 67 12 (s1 f1 12) (.x 5)) (k0 69 9 10 (a4 (a1 11 (a1 12 (c6 (a35 .str true true) o3 (v5 1 (b1 6 (m7 5)) (t6 1 2) []))))) (c0 76 10 (s1 f1 10) (c0 78 12 (s1 f1 12) (a29 6 (.w (c5 80 12 (a4 (e7 (.leng .str) (z3 .lss a6 (a4 (a1 12 (c6 .ixstr a0 (c6 (.ixarrp 256 1) (v7 (.ptr 1 0) a2) (e9 (r5 .neq (p2 .u8 0) (a14 .pick 7)))))))))) (y7 91 6) (.b 7 (q7 92 12 (s1 f1 12))))) 94 (y2 .mv 12 [] 11))))))))) (c5 95 11 (a4 (a13 (.leng .str) x0 a6 [])) (d6 98 (q7 99 9 (a1 10 (a4 (a1 11 (c6 (a35 .str true false) a0 (v5 1 (b1 5 (m7 4)) (t6 1 2) []))))))) (h5 105 9 2)))))))))))))) 2) := ⟨_, by conv => rhs; reduce⟩
end Q
def cf297 : CF := Q.T297.1
set_option maxRecDepth 100000 in
theorem cf297_ok : compF TP Tryz.f297 = some cf297 := by kernel_rfl
namespace Q
set_option maxRecDepth 100000 in
def T298 : Was (h3 1 2 (t8 .u64 0 []) (e2 3 (f6 0 x0 b0) 4 (g7 5 (e7 (.toInt .u64) (o8 (.un .neg) 2))) (g7 8 (o8 (.toInt .u64) 2))) 2) := ⟨_, by conv => rhs; reduce⟩
end Q
def cf298 : CF := Q.T298.1
set_option maxRecDepth 100000 in
theorem cf298_ok : compF TP Tryz.f298 = some cf298 := by kernel_rfl
namespace Q
set_option maxRecDepth 100000 in
def T299 : Was (n0 3 (m9 4 h2 a9 (l2 8 (i7 1 (p3 0 1 [])) (.b 0 (n9 13 (o0 2 (d4 17) 12) 12 (c1 14 (a3 11 19 12) 12 (c1 15 (a3 11 21 12) 12 (c1 16 (a3 11 23 12) 12 (c1 17 (a3 11 26 12) 12 (s0 18 11 27 12))))) (f2 12 (.r 4 (z2 a9)) (n9 20 (a3 11 8 19) 19 (c1 21 (a3 11 39 19) 19 (s0 22 11 12 19)) (f2 19 (.r 4 (v1 h8 a9 h2)) (n9 24 (a3 11 9 23) 23 (c1 25 (a3 11 10 23) 23 (c1 26 (a3 11 11 23) 23 (c1 27 (a3 11 13 23) 23 (c1 28 (a3 11 30 23) 23 (c1 29 (a3 11 31 23) 23 (c1 30 (a3 11 32 23) 23 (c1 31 (a3 11 33 23) 23 (c1 32 (a3 11 34 23) 23 (c1 33 (a3 11 37 23) 23 (s0 34 11 40 23)))))))))) (d6 23 (.r 5 (z2 h2))))))))) (c5 35 4 (i1 (a4 (i7 2 (i4 .add (r9 a6 (q0 (u7 .pick (o9 6) 1 (a1 5 (i1 (a4 (i7 1 (j2 4 (r9 e1 (a83 d7 10 (j3 .pick (o9 8) (u3 11 1 (i7 1 (j2 0 (x5 .neq 12 6))))))))))))))))))) (d6 61 .ret) (c4 62 (i7 1 (p3 8 1 i6)) (e0 1 68 68 1 (v9 2 (k8 69 2 65 (j7 2 7 e6 2 7) (e3 71 (g5 7 (r9 a6 (r4 d7 a2))) (d6 75 .ret))) 76 67 67))))))) := ⟨_, by conv => rhs; reduce⟩
end Q
def cf299 : CF := Q.T299.1
set_option maxRecDepth 100000 in
theorem cf299_ok : compF TP Tryz.f299 = some cf299 := by kernel_rfl
namespace Q
set_option maxRecDepth 100000 in
def T300 : Was (n0 4 (n8 8 h2 (n8 9 h2 (a27 0 (.b 1 (k0 19 2 1 (k7 .sub a0 10) (e2 22 (f6 10 (x2 .leq) (b9 12)) 23 (y6 24 1 2 (h4 377 3 a0 []) .ret) (e2 28 (m0 3 b3 b0) 29 (y6 30 1 2 (h4 378 3 a0 []) .ret) (e2 34 (m0 8 d7 a2) 35 (y6 36 1 2 (h4 379 3 a0 []) (q7 40 3 (k7 .sub f1 3))) (y6 43 1 2 (l4 380 o3 42 (e4 46 4 5 (n1 1 6 11 2 (b4 12)))) (e2 49 (m0 12 b3 (b9 2)) 50 (y6 51 1 2 (h4 381 3 a0 []) (c0 55 2 (i4 .sub (a1 11 (b5 (k1 .sub a0 (k7 .sub m2 11))))) (.r 12 (z2 e8)))) (c5 61 8 (i1 (d5 9 .n (u8 .pick 2 1 (a1 12 (s5 1 (a14 .pick 3)))))) (d6 68 (f5 69 1 (f6 2 (.call 382) o3) (d6 72 .ret))) (.q (d8 73 (b5 (z3 .gtr b0 (a4 (b5 (i4 .sub (j8 1 a6 (e9 (a4 (p0 11 1 a0 (b8 (d3 383 e1 (a8 (q0 (a8 (a14 .pick 12))))))))))))))) (d6 87 (y6 88 1 2 (a1 11 (d9 384 (b1 4 o3) 13)) (c4 93 (y2 .mv 13 [] 1) (.x 1))))) (y6 95 1 2 (a1 11 (l4 385 (b1 4 o3) 94 (e4 99 5 6 (n1 1 7 14 2 (b4 15))))) (c4 102 (y2 .mv 15 [] 9) (k0 103 14 1 (k1 .sub a0 (a1 2 (a1 14 (f9 (.bin .sub) a0 (v8 16 4) (b4 17))))) (c0 109 10 (k7 .quo (b9 8) 18) (c0 111 16 (f6 17 x0 a0) (f2 113 (k0 114 16 18 (k7 .geq a0 8) (y6 117 1 14 (a1 3 (h4 300 4 o3 [])) (q7 122 14 (s1 f1 1)))) (k0 124 17 18 (k7 .geq a0 8) (f5 127 14 (i4 .add (a1 2 (a1 3 (h4 300 5 o3 [])))) (.r 133 (y2 .mv 14 [] 2))))))))))))))))))))))) := ⟨_, by conv => rhs; reduce⟩
end Q
def cf300 : CF := Q.T300.1
set_option maxRecDepth 100000 in
theorem cf300_ok : compF TP Tryz.f300 = some cf300 := by kernel_rfl
namespace Q
set_option maxRecDepth 100000 in
def T301 : Was (h9 1 2 (.q (.c (.c h6) (g7 3 (e7 (.toInt .u32) (a7 386 (b4 2)))) .skip) (g7 6 (a7 387 (b4 2)))) 2) := ⟨_, by conv => rhs; reduce⟩
end Q
def cf301 : CF := Q.T301.1
set_option maxRecDepth 100000 in
theorem cf301_ok : compF TP Tryz.f301 = some cf301 := by kernel_rfl
namespace Q
set_option maxRecDepth 100000 in
def T302 : Was (i5 3 6 (g1 9 (f0 (b5 (a13 o7 o5 a6 []))) (d0 13 6 a9) (a12 14 0 i6 (e0 0 17 17 0 (j1 (c4 18 (c6 .mv c2 (a61 9 14 (l1 16) (a54 9 8 c8 (u5 7 3 (g6 9 8))))) (d8 21 (a1 2 (f4 8 (b5 (a15 7 9 a0 (g8 9 (b8 (r9 (b1 6 e1) (a8 (r4 d7 a2))))))))) (d0 28 6 a9))) 29 16 16)) (f8 6 h2))) 6) := ⟨_, by conv => rhs; reduce⟩
end Q
def cf302 : CF := Q.T302.1
set_option maxRecDepth 100000 in
theorem cf302_ok : compF TP Tryz.f302 = some cf302 := by kernel_rfl
namespace Q
set_option maxRecDepth 100000 in
def T303 : Was (h9 2 4 (l2 6 (a33 0 a46 a2 t7) (e0 0 9 9 0 (j1 (y8 10 .mv c2 5 (k0 11 1 0 (a15 5 9 a0 (g8 9 (m8 .callv e1))) (d6 16 (h5 17 5 4)))) 18 8 8)) (o6 (d4 (-1)))) 4) := ⟨_, by conv => rhs; reduce⟩
end Q
def cf303 : CF := Q.T303.1
set_option maxRecDepth 100000 in
theorem cf303_ok : compF TP Tryz.f303 = some cf303 := by kernel_rfl
namespace Q
set_option maxRecDepth 100000 in
def T304 : Was (h9 2 4 (l2 6 (a33 0 a46 a2 t7) (e0 0 9 9 0 (j1 (y8 10 .mv c2 5 (k0 11 1 0 (p0 5 1 a0 (m8 .callv e1)) (d6 16 (h5 17 5 4)))) 18 8 8)) (o6 (d4 (-1)))) 4) := ⟨_, by conv => rhs; reduce⟩
end Q
def cf304 : CF := Q.T304.1
set_option maxRecDepth 100000 in
theorem cf304_ok : compF TP Tryz.f304 = some cf304 := by kernel_rfl
namespace Q
set_option maxRecDepth 100000 in
def T306 : Was (r1 2 (m9 4 (r6 0 0) a9 (u6 6 (a7 61 (s9 (i9 (b5 (l0 .lss 0 (u3 3 1 (b5 (b7 1 (f0 (r5 .geq q5 (r3 8))))))))))) 21 (m9 4 (r6 0 0) a9 .ret) (t4 22 0 1 (p0 1 1 a0 (a17 4 (k5 5 h2)))))) 4 5 []) := ⟨_, by conv => rhs; reduce⟩
end Q
def cf306 : CF := Q.T306.1
set_option maxRecDepth 100000 in
theorem cf306_ok : compF TP Tryz.f306 = some cf306 := by kernel_rfl
namespace Q
set_option maxRecDepth 100000 in
def T307 : Was (i5 1 2 (f5 3 0 (k7 .neq a0 2) .ret) 2) := ⟨_, by conv => rhs; reduce⟩
end Q
def cf307 : CF := Q.T307.1
set_option maxRecDepth 100000 in
theorem cf307_ok : compF TP Tryz.f307 = some cf307 := by kernel_rfl
namespace Q
set_option maxRecDepth 100000 in
def T308 : Was (h9 3 6 (l2 9 (a33 0 a46 a2 t7) (e0 0 12 12 0 (j1 (y8 13 .mv c2 7 (d8 14 (a1 2 (a4 (a15 7 9 a0 (g8 9 (b5 (a15 7 9 a0 (g8 9 (b8 (r9 (b1 9 e1) (a8 (b4 8))))))))))) (f3 24 (f6 8 o5 b0) 25 (h5 26 8 6)))) 27 11 11)) (f8 6 b6)) 6) := ⟨_, by conv => rhs; reduce⟩
end Q
def cf308 : CF := Q.T308.1
set_option maxRecDepth 100000 in
theorem cf308_ok : compF TP Tryz.f308 = some cf308 := by kernel_rfl
namespace Q
set_option maxRecDepth 100000 in
def T311 : Was (i5 1 2 (f5 3 0 (k7 .neq a0 2) .ret) 2) := ⟨_, by conv => rhs; reduce⟩
end Q
def cf311 : CF := Q.T311.1
set_option maxRecDepth 100000 in
theorem cf311_ok : compF TP Tryz.f311 = some cf311 := by kernel_rfl
namespace Q
set_option maxRecDepth 100000 in
def T312 : Was (m6 1 (y3 1 n2 p8 (t9 .nilf) (b2 3 (g9 (.mkf (.func 390) 0) c2 2))) 2) := ⟨_, by conv => rhs; reduce⟩
end Q
def cf312 : CF := Q.T312.1
set_option maxRecDepth 100000 in
theorem cf312_ok : compF TP Tryz.f312 = some cf312 := by kernel_rfl
namespace Q
set_option maxRecDepth 100000 in
def T314 : Was (r1 2 (j0 2 c2 (a34 n2 c2 (a30 h8 b6)) (c4 8 (i7 2 (i7 3 (f9 (.bin .sub) a0 (z7 6 j4 []) (g6 1 6)))) (c4 11 (y2 (.mkf (.func 394) 0) 2 (a37 3 (l1 6)) 7) (e2 12 (f6 7 .callv a2) 13 (m9 4 b6 (d4 7) .ret) (b2 14 (i7 6 (a17 4 (k5 5 b6)))))))) 4 5 []) := ⟨_, by conv => rhs; reduce⟩
end Q
def cf314 : CF := Q.T314.1
set_option maxRecDepth 100000 in
theorem cf314_ok : compF TP Tryz.f314 = some cf314 := by kernel_rfl
namespace Q
set_option maxRecDepth 100000 in
def T326 : Was (m6 1 (y3 1 n2 p8 (t9 .nilf) (b2 3 (g9 (.mkf (.func 397) 0) c2 2))) 2) := ⟨_, by conv => rhs; reduce⟩
end Q
def cf326 : CF := Q.T326.1
set_option maxRecDepth 100000 in
theorem cf326_ok : compF TP Tryz.f326 = some cf326 := by kernel_rfl
namespace Q
set_option maxRecDepth 100000 in
def T331 : Was (m6 1 (y3 1 n2 p8 (t9 .nilf) (b2 3 (g9 (.mkf (.func 398) 0) c2 2))) 2) := ⟨_, by conv => rhs; reduce⟩
end Q
def cf331 : CF := Q.T331.1
set_option maxRecDepth 100000 in
theorem cf331_ok : compF TP Tryz.f331 = some cf331 := by kernel_rfl
namespace Q
set_option maxRecDepth 100000 in
def T369 : Was (i5 2 3 (b2 4 (i7 1 (j2 0 (a4 (g3 98 (g9 b3 b0 3)))))) 3) := ⟨_, by conv => rhs; reduce⟩
end Q
def cf369 : CF := Q.T369.1
set_option maxRecDepth 100000 in
theorem cf369_ok : compF TP Tryz.f369 = some cf369 := by kernel_rfl
namespace Q
set_option maxRecDepth 100000 in
def T377 : Was (n0 3 (c0 8 1 (s1 f1 6) (a27 0 (c5 10 6 (f6 2 x0 a0) (y7 12 0) (a29 1 (c4 15 (y2 .mv 6 [] 7) (a27 2 (.q (d8 16 (a1 7 (b5 (z3 .gtr a0 (a4 (p0 7 1 a0 (a4 (a1 7 (i4 .sub (j8 1 a6 (e9 (b8 (k2 383 q5 .n (a8 (a14 .pick 11)))))))))))))) (y7 30 2)) (a29 3 (.d 33 (a4 (k6 7 (k6 0 (k6 7 (i4 .sub (a4 (a1 7 (i4 .sub (j8 1 a6 (e9 (a4 (p0 7 1 a0 (v5 1 (b1 14 (m7 13)) a5 (a25 1 6 (a8 (v5 1 (b1 13 (m7 11)) t3 (m5 1 3)))))))))))))))))) 31 (a1 7 (k7 .sub f1 7)))))) 13 (a1 6 (s1 f1 6))))))) := ⟨_, by conv => rhs; reduce⟩
end Q
def cf377 : CF := Q.T377.1
set_option maxRecDepth 100000 in
theorem cf377_ok : compF TP Tryz.f377 = some cf377 := by kernel_rfl
namespace Q
set_option maxRecDepth 100000 in
def T383 : Was (i5 2 4 (g7 5 (a7 307 (i1 (b5 (a7 307 (q0 (u7 .pick (o9 4) 1 (a4 (b5 (r5 .lss a0 (w9 .pick 4 4))))))))))) 4) := ⟨_, by conv => rhs; reduce⟩
end Q
def cf383 : CF := Q.T383.1
set_option maxRecDepth 100000 in
theorem cf383_ok : compF TP Tryz.f383 = some cf383 := by kernel_rfl
namespace Q
set_option maxRecDepth 100000 in
def T387 : Was (h9 1 2 (e2 3 (f6 0 (x2 .geq) (p2 .u64 4294967296)) 4 (e3 5 (k7 .shr (p2 .u64 32) 0) (.r 2 (z2 (d4 32)))) (e2 7 (f6 0 (x2 .geq) (p2 .u64 65536)) 8 (e3 9 (k7 .shr (p2 .u64 16) 0) (q7 11 2 (s1 (b9 16) 2))) (e2 13 (f6 0 (x2 .geq) (p2 .u64 256)) 14 (e3 15 (k7 .shr (p2 .u64 8) 0) (q7 17 2 (s1 (b9 8) 2))) (k0 19 2 0 (e7 (.toInt .u8) (c6 .ixstr (v7 (b14 256) a2) (e7 (.toInt .i64) (s1 e1 2)))) .ret)))) 2) := ⟨_, by conv => rhs; reduce⟩
end Q
def cf387 : CF := Q.T387.1
set_option maxRecDepth 100000 in
theorem cf387_ok : compF TP Tryz.f387 = some cf387 := by kernel_rfl
namespace Q
set_option maxRecDepth 100000 in
def T390 : Was (n6 2 (j0 2 c2 (a34 v2 [] (m8 (w5 (u9 0 0 0 0 (a32 0 0 0 0))) [])) (c4 9 (i8 10 2 (q9 391 8 (e4 10 2 3 (a24 1 4 (n1 2 5 5 3 (u5 6 2 (b4 7))))))) (e2 14 (m0 7 d7 a2) 15 (b2 16 (d3 215 (r6 8 7526756817224098146) (e7 (.ext 0) (h7 2 (w3 9 3 m3) (g6 10 4))))) (b2 19 (i7 1 (a1 5 (a1 6 (r9 o3 (e7 (.ext 0) (a24 1 2 (g3 392 (e7 (.ext 0) (h7 2 (w3 9 3 m3) (g6 10 4)))))))))))))) 3 9 (a59 4 10 [])) := ⟨_, by conv => rhs; reduce⟩
end Q
def cf390 : CF := Q.T390.1
set_option maxRecDepth 100000 in
theorem cf390_ok : compF TP Tryz.f390 = some cf390 := by kernel_rfl
namespace Q
set_option maxRecDepth 100000 in
def T391 : Was (r1 1 (j0 1 p8 (a34 h8 b6 (v1 h8 b6 a9)) (l2 7 (t5 9 1 (y5 1 a2) i6) (e0 0 11 11 0 (j1 (c4 12 (c6 .mv c2 (a61 9 8 (l1 10) (a54 9 6 c8 (u5 5 3 (g6 9 6))))) (e2 15 (g2 6 (m8 o5 f1)) 17 (y1 2 b6 (v1 h8 b6 a9) .ret) (e2 18 (m0 5 b3 b0) 19 (.r 20 (g5 6 (b4 2))) (.r 22 (g5 6 (b4 3)))))) 24 10 10)) (m4 25 2 (d5 3 (v8 2 2) (a17 3 (k5 4 h2)))))) 2 3 (a07 4 [])) := ⟨_, by conv => rhs; reduce⟩
end Q
def cf391 : CF := Q.T391.1
set_option maxRecDepth 100000 in
theorem cf391_ok : compF TP Tryz.f391 = some cf391 := by kernel_rfl
namespace Q
set_option maxRecDepth 100000 in
def T392 : Was (n6 2 (a45 4 v2 [] (m8 (w5 (u9 0 0 0 0 (a32 0 0 0 0))) []) (z5 6 1 (.b 0 (d2 8 (o0 2 b6 7) 7 (g7 9 (a7 138 (a7 217 (e7 (.ext 0) (h7 2 (w3 9 4 m3) (g6 10 5)))))) (f3 15 (a3 6 7 14) 14 (b2 16 (d3 215 (a70 12) (e7 (.ext 0) (h7 2 (w3 9 4 m3) (g6 10 5)))))))) (b2 19 (d3 215 (r6 8 7526756817224098146) (e7 (.ext 0) (h7 2 (w3 9 4 m3) (g6 10 5))))))) 4 9 (a59 5 10 [])) := ⟨_, by conv => rhs; reduce⟩
end Q
def cf392 : CF := Q.T392.1
set_option maxRecDepth 100000 in
theorem cf392_ok : compF TP Tryz.f392 = some cf392 := by kernel_rfl
namespace Q
set_option maxRecDepth 100000 in
def T394 : Was (i5 3 3 (b2 4 (i7 0 (k1 .lss b0 (i7 1 (k1 .lss b0 (x1 (.eqd .b true) a6 1 (i7 2 (k1 .lss b0 (i7 0 (k1 .lss b0 (j3 (.eqd .b true) a6 (k9 6 3)))))))))))) 3) := ⟨_, by conv => rhs; reduce⟩
end Q
def cf394 : CF := Q.T394.1
set_option maxRecDepth 100000 in
theorem cf394_ok : compF TP Tryz.f394 = some cf394 := by kernel_rfl
end
end Ev
end Go.Proofs.YtogbcielgfidlaaGreatDoor
