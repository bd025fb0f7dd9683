/-
  The functions of the program, compiled (printed by a program of ours; each is held against the program's own text below).
-/
import Derived.Test.YtihflniehaaakaaGreatDoorCkQ
namespace Go.Proofs.YtihflniehaaakaaGreatDoor
set_option linter.unusedVariables false
set_option linter.unusedSimpArgs false
namespace Ev
noncomputable section
namespace Q
set_option maxRecDepth 100000 in
def T363 : Was (h1 1 2 c1 (q8 3 a2 (q8 4 g6 (q8 5 (m8 .u8 0) (n8 6 0 (b4 13 6 (b1 (h3 y6 (a67 3))) (f7 16 0) (l5 1 (b7 19 (s8 6 .ixstr 2 b3 r4) (b0 22 5 (m3 7 .or 2 p7) (b0 25 7 (w5 (.ixarrp 256 1) (x2 (.ptr 0 0)) (i2 (h3 (.toInt .i64) w3))) (b0 29 3 (f6 4 8 (h3 (.un .xor) (f0 .and 3 (f0 .add 5 v4)))) (d3 35 8 d2))))) 17 6 6)) (b4 36 5 (k7 .geq (m8 .u8 128)) (l6 37 38 0 (k9 458 (u2 459 [] []) d4)) (b0 40 3 (w1 (.mks (m4 a1) 16) 1 (c5 9)) (q8 10 a2 (q8 11 a2 (a16 12 a2 (p0 2 (b4 42 12 (b1 (h3 y6 (f0 .lss 3 (v2 (s8 12 .ixstr 2 b3 (w5 (.ixarrp 256 1) (x2 (.ptr 0 0)) (i2 (u0 .neq 1 .u8 0 (s3 7 c9))))))))) (f7 53 2) (.b 3 (a39 54 12 12)))) (b0 56 12 (c5 11) (.q (p0 4 (b4 57 12 (b1 (h3 y6 (a67 3))) (f7 60 4) (.b 5 (t8 61 (s8 12 .ixstr 2 b3 (w5 (.ixarrp 256 1) (x2 (.ptr 0 0)) (i2 (k7 .eql (m8 .u8 0))))) 66 (b0 67 12 (p6 .add 1 12) (.x 5)) (b0 69 9 (a3 10 (b1 (f6 11 12 (l1 (w7 .str true true) 3 b9 (p8 1 6 5 (t0 1)))))) (b0 76 10 (p6 .add 1 10) (b0 78 12 (p6 .add 1 12) (.q (p0 6 (b4 80 12 (b1 (h3 y6 (f0 .lss 3 (v2 (s8 12 .ixstr 2 b3 (w5 (.ixarrp 256 1) (x2 (.ptr 0 0)) (i2 (u0 .neq 1 .u8 0 (s3 7 c9))))))))) (f7 91 6) (.b 7 (a39 92 12 12)))) (d3 94 12 (c5 11)))))))))) (b4 95 11 (b1 (h3 y6 (a67 3))) (c8 98 (d3 99 9 (a3 10 (b1 (s8 11 (w7 .str true false) 2 b3 (p8 1 5 4 (t0 1))))))) (d7 105 9 d4))))))))))))) 2) := ⟨_, by conv => rhs; reduce⟩
end Q
def cf363 : CF := Q.T363.1
set_option maxRecDepth 100000 in
theorem cf363_ok : compF TP Tryz.f363 = some cf363 := by kernel_rfl
namespace Q
set_option maxRecDepth 100000 in
def T364 : Was (h1 2 4 a2 (h4 6 q3 (j5 9 9 0 (o9 1 10 5 (b0 11 1 (b1 (y3 5 23 23 (n2 .callv (i1 5)))) (l6 16 17 5 d2)) (c3 18 8 8))) (a24 4 (-1))) 4) := ⟨_, by conv => rhs; reduce⟩
end Q
def cf364 : CF := Q.T364.1
set_option maxRecDepth 100000 in
theorem cf364_ok : compF TP Tryz.f364 = some cf364 := by kernel_rfl
namespace Q
set_option maxRecDepth 100000 in
def T365 : Was (s7 1 1 (a31 b6 1 e5) (h9 4 (e2 1 (q7 .eql 3)) 6 (p2 7 1 1 (q9 .eql 1 n9 (i4 2 1 (u0 .leq 1 .u64 9223372036854775808 (f4 4 d4))))) (h9 15 (a8 2 1 (k7 .neq (m8 .u64 0))) 17 (q0 2) (.q (i6 18 0 1 k4 (.b 0 (b5 21 (a30 2 g6 20) 20 (p2 22 1 1 (a4 146 (i4 1 1 (a4 147 (z9 .pick 5 c9 d4))))) (b5 32 (a0 19 2 31) 31 (a22 33 1 1 (a84 (.build (y5 a1 a6 .nilm []) (a40 0 1)) (.d 3 (o1 (y5 a1 a6 .nilm [])) []) (f5 3 3)) (c4 36 (a8 1 1 (q9 .neq 1 n9 (i4 1 1 (h3 y6 (h6 .leq 32 (f4 5 (e8 (u9 1 (v5 1 1 (n4 46 (v8 460 (a59 3 (u2 461 [] [])) (g1 2 (a9 (f0 .eql 3 (.n :: a9 (l1 .pick 5 c9 (a9 (e8 (a9 (j4 1 1 (a9 (i2 (a9 (l1 .ixstr 1 a2 (a9 (u0 .eql 1 .u8 95 (a9 (h2 (a9 (j4 1 1 (a9 (i2 (a9 (l1 .ixstr 1 a2 (a9 (u0 .geq 1 .u8 65 (a9 (e8 (a9 (j4 1 1 (a9 (i2 (a9 (l1 .ixstr 1 a2 (a9 (u0 .leq 1 .u8 90 (b02 10 false :: a9 (l1 .pick 5 c9 (b02 16 true :: a9 (l1 .pick 11 n3 (.n :: a9 (l1 .pick 17 c9 (a9 d4))))))))))))))))))))))))))))))))))))))))))))))))))))) .ret)) (b5 70 (a0 19 4 69) 69 (p2 71 1 1 (k9 462 (u2 463 [] []) (s2 d4))) (b5 76 (a0 19 5 75) 75 (p2 77 1 1 (a4 147 d4)) (k5 81 (a0 19 6 80) 80 (c4 82 (a8 1 1 (q9 .neq 1 n9 (i4 1 1 (u9 1 (v5 1 1 (a5 (a84 y6 (.j 88) (a5 (a4 464 (g1 3 (a9 (f0 .eql 4 (.n :: a9 (l1 .pick 8 c9 (a9 d4))))))))))))))) .ret)))))))) (q0 2)))) 2) := ⟨_, by conv => rhs; reduce⟩
end Q
def cf365 : CF := Q.T365.1
set_option maxRecDepth 100000 in
theorem cf365_ok : compF TP Tryz.f365 = some cf365 := by kernel_rfl
namespace Q
set_option maxRecDepth 100000 in
def T367 : Was (x5 2 4 5 (e0 (j0 465 (j8 .geq d2))) 4) := ⟨_, by conv => rhs; reduce⟩
end Q
def cf367 : CF := Q.T367.1
set_option maxRecDepth 100000 in
theorem cf367_ok : compF TP Tryz.f367 = some cf367 := by kernel_rfl
namespace Q
set_option maxRecDepth 100000 in
def T371 : Was (v3 3 6 (h4 10 (c6 (e0 (c6 (y8 .neq r5)))) (j1 14 6 e5) (.q (s5 15 d0 0 (j5 18 18 0 (e1 1 19 (u5 e6 (a44 11 15 (d8 17) (g8 11 (r0 8 h5 (u4 7 s1 (q4 8)))))) (b0 22 1 (h7 7 11 (i3 11 9 h5 11 9)) (b0 26 2 (i7 8 (i7 9 (k2 .callv l7 k0))) (j1 30 6 e5))) (c3 31 17 17)))) (l4 6 d5))) 6) := ⟨_, by conv => rhs; reduce⟩
end Q
def cf371 : CF := Q.T371.1
set_option maxRecDepth 100000 in
theorem cf371_ok : compF TP Tryz.f371 = some cf371 := by kernel_rfl
namespace Q
set_option maxRecDepth 100000 in
def T372 : Was (v3 3 6 (h4 10 (c6 (e0 (c6 (y8 .neq r5)))) (j1 14 6 e5) (.q (s5 15 d0 0 (j5 18 18 0 (e1 1 19 (u5 e6 (a44 27 15 (d8 17) (g8 27 (r0 8 (u3 a1 a6 (a41 a1 a1 .nils (p9 (q5 a7 (q1 a1 a1 .nils (p9 (p5 a7 a7 a7 a7 []))))))) (u4 7 s1 (f5 27 8)))))) (b0 22 1 (h7 7 27 (i3 27 9 (u3 a1 a6 (a41 a1 a1 .nils (p9 (q5 a7 (q1 a1 a1 .nils (p9 (p5 a7 a7 a7 a7 []))))))) 27 9)) (b0 26 2 (b2 27 8 (b2 27 9 (k2 .callv l7 k0))) (j1 30 6 e5))) (c3 31 17 17)))) (l4 6 d5))) 6) := ⟨_, by conv => rhs; reduce⟩
end Q
def cf372 : CF := Q.T372.1
set_option maxRecDepth 100000 in
theorem cf372_ok : compF TP Tryz.f372 = some cf372 := by kernel_rfl
namespace Q
set_option maxRecDepth 100000 in
def T373 : Was (v3 3 6 (h4 10 (c6 (e0 (c6 (y8 .neq r5)))) (j1 14 6 e5) (.q (s5 15 d0 0 (j5 18 18 0 (e1 1 19 (u5 e6 (a44 4 15 (d8 17) (g8 4 (r0 8 (a42 a1 []) (u4 7 s1 (f5 4 8)))))) (b0 22 1 (h7 7 4 (i3 4 9 (a42 a1 []) 4 9)) (b0 26 2 (b2 4 8 (b2 4 9 (k2 .callv l7 k0))) (j1 30 6 e5))) (c3 31 17 17)))) (l4 6 d5))) 6) := ⟨_, by conv => rhs; reduce⟩
end Q
def cf373 : CF := Q.T373.1
set_option maxRecDepth 100000 in
theorem cf373_ok : compF TP Tryz.f373 = some cf373 := by kernel_rfl
namespace Q
set_option maxRecDepth 100000 in
def T376 : Was (v3 3 6 (h4 10 (c6 (e0 (c6 (y8 .neq r5)))) (j1 14 6 e5) (.q (s5 15 d0 0 (j5 18 18 0 (e1 1 19 (u5 e6 (a44 23 15 (d8 17) (g8 23 (r0 8 (y5 a7 a6 a6 (q1 a1 a1 .nils (p9 (a04 a7 a6 a1 (a58 .nils a7 []))))) (u4 7 s1 (f5 23 8)))))) (b0 22 1 (h7 7 23 (i3 23 9 (y5 a7 a6 a6 (q1 a1 a1 .nils (p9 (a04 a7 a6 a1 (a58 .nils a7 []))))) 23 9)) (b0 26 2 (b2 23 8 (b2 23 9 (k2 .callv l7 k0))) (j1 30 6 e5))) (c3 31 17 17)))) (l4 6 d5))) 6) := ⟨_, by conv => rhs; reduce⟩
end Q
def cf376 : CF := Q.T376.1
set_option maxRecDepth 100000 in
theorem cf376_ok : compF TP Tryz.f376 = some cf376 := by kernel_rfl
namespace Q
set_option maxRecDepth 100000 in
def T377 : Was (h1 2 4 a2 (h4 6 q3 (j5 9 9 0 (o9 1 10 5 (b0 11 1 (b1 (y3 5 11 11 (n2 .callv (i1 5)))) (l6 16 17 5 d2)) (c3 18 8 8))) (a24 4 (-1))) 4) := ⟨_, by conv => rhs; reduce⟩
end Q
def cf377 : CF := Q.T377.1
set_option maxRecDepth 100000 in
theorem cf377_ok : compF TP Tryz.f377 = some cf377 := by kernel_rfl
namespace Q
set_option maxRecDepth 100000 in
def T379 : Was (g3 3 (b0 7 1 (a87 (.call 363)) (j5 11 11 0 (e1 1 12 (a20 1 8 m0) (a02 14 2 (a3 6 (b1 (z4 (z5 a29 l7))))) (c3 17 10 10))))) := ⟨_, by conv => rhs; reduce⟩
end Q
def cf379 : CF := Q.T379.1
set_option maxRecDepth 100000 in
theorem cf379_ok : compF TP Tryz.f379 = some cf379 := by kernel_rfl
namespace Q
set_option maxRecDepth 100000 in
def T380 : Was (h1 1 2 (m8 .u64 0) (h4 3 (x4 a01 (e9 a2)) (l6 4 5 0 (h3 (.toInt .u64) (h3 (.un .neg) d4))) (k3 8 (h3 (.toInt .u64) d4))) 2) := ⟨_, by conv => rhs; reduce⟩
end Q
def cf380 : CF := Q.T380.1
set_option maxRecDepth 100000 in
theorem cf380_ok : compF TP Tryz.f380 = some cf380 := by kernel_rfl
namespace Q
set_option maxRecDepth 100000 in
def T382 : Was (s7 1 1 (a31 b6 1 e5) (.q (i6 5 0 1 k4 (.b 0 (g4 8 (a30 2 g6 7) 7 (c0 9 (a0 6 2 7) 7 (c0 10 (a0 6 3 7) 7 (c0 11 (a0 6 4 7) 7 (m9 12 6 6 7)))) (g5 7 (l4 2 d5) (g4 14 (a0 6 5 13) 13 (m9 15 6 7 13) (g5 13 (p2 16 4 1 (k9 470 (u2 382 [] []) d4)) (k5 20 (a0 6 8 19) 19 (.q (i6 21 5 1 t2 (i5 1 25 25 1 (e1 2 26 (o4 27 22 (i3 27 4 (u3 a1 a6 (a41 a1 a1 .nils (p9 (q5 a7 (q1 a1 a1 .nils (p9 (p5 a7 a7 a7 a7 []))))))) 27 4)) (k5 28 (b2 27 4 (a4 469 k0)) 30 (q0 2)) (c3 31 24 24)))) (l4 2 d5))))))))) (q0 2)) 2) := ⟨_, by conv => rhs; reduce⟩
end Q
def cf382 : CF := Q.T382.1
set_option maxRecDepth 100000 in
theorem cf382_ok : compF TP Tryz.f382 = some cf382 := by kernel_rfl
namespace Q
set_option maxRecDepth 100000 in
def T383 : Was (g3 2 (a10 2 b6 e6 (i6 8 0 2 k4 (.b 0 (b5 11 (a21 2 3 10) 10 (d3 12 1 (a8 2 2 (a35 a29 a6 3 (p4 .add (z4 (z5 a29 (f2 5 r5))))))) (g4 18 (a0 9 5 17) 17 (m9 19 9 7 17) (g5 17 (i6 20 4 2 t2 (i5 1 24 24 1 (e1 2 25 (o4 11 21 (i3 11 5 h5 11 5)) (.r 27 (i7 5 (j9 1 383 2 b3))) (c3 30 23 23)))) (k5 32 (a0 9 8 31) 31 (i6 33 5 2 t2 (i5 3 37 37 3 (e1 4 38 (o4 27 34 (i3 27 7 (u3 a1 a6 (a41 a1 a1 .nils (p9 (q5 a7 (q1 a1 a1 .nils (p9 (p5 a7 a7 a7 a7 []))))))) 27 7)) (k5 40 (b2 27 7 (a4 469 (i4 0 7 (h6 .neq 4 (f4 4 (e8 (j4 2 7 (o0 0 1 (i0 3 (s3 5 c9)))))))))) 52 (d3 53 1 (j4 2 7 (o0 2 1 (a35 a29 a6 4 (p4 .add (z4 (z5 a29 (f2 6 r5))))))))) (c3 59 36 36)))))))))))) := ⟨_, by conv => rhs; reduce⟩
end Q
def cf383 : CF := Q.T383.1
set_option maxRecDepth 100000 in
theorem cf383_ok : compF TP Tryz.f383 = some cf383 := by kernel_rfl
namespace Q
set_option maxRecDepth 100000 in
def T384 : Was (g3 3 (a10 4 b6 (d8 1) (b0 6 2 (a8 2 4 (a35 a29 a6 3 (k7 .eql a2))) (c8 10 (d1 11 (a8 2 4 (f3 155 3 (h8 7 (e9 a2))))))))) := ⟨_, by conv => rhs; reduce⟩
end Q
def cf384 : CF := Q.T384.1
set_option maxRecDepth 100000 in
theorem cf384_ok : compF TP Tryz.f384 = some cf384 := by kernel_rfl
namespace Q
set_option maxRecDepth 100000 in
def T387 : Was (g3 3 (a70 4 b6 (d8 1) (c4 10 (a5 (v5 0 4 (n4 9 (v8 472 [] (g1 2 (a9 (a83 a03 true .nilf 3 (z6 8 (a9 (a60 12 [] 4 (a9 (v9 0 5 (a9 (v9 1 6 (a9 (u4 6 f1 (a9 r4))))))))))))))))) (a27 15 7 (l6 15 16 6 (b1 (i7 4 (a3 2 (k2 .callv (f2 4 l7) []))))))) (d1 21 (a8 4 4 (j9 2 473 4 b9))))) := ⟨_, by conv => rhs; reduce⟩
end Q
def cf387 : CF := Q.T387.1
set_option maxRecDepth 100000 in
theorem cf387_ok : compF TP Tryz.f387 = some cf387 := by kernel_rfl
namespace Q
set_option maxRecDepth 100000 in
def T388 : Was (g3 2 (t8 6 (c2 0 (q7 .eql 3)) 10 (d3 11 1 (d9 2 (z4 (z5 a29 (f2 5 (e9 d5)))))) (h4 16 (c2 4 q3) (j5 22 22 0 (o9 1 23 4 (d1 24 (c2 4 (h7 4 11 (j9 1 388 2 b3)))) (c3 32 21 21))) (s4 33 5 q3 (i5 2 39 39 2 (o9 3 40 5 (d1 41 (c2 5 (h7 5 27 (g9 2 (j9 1 388 2 b3))))) (c3 50 38 38))))))) := ⟨_, by conv => rhs; reduce⟩
end Q
def cf388 : CF := Q.T388.1
set_option maxRecDepth 100000 in
theorem cf388_ok : compF TP Tryz.f388 = some cf388 := by kernel_rfl
namespace Q
set_option maxRecDepth 100000 in
def T389 : Was (s7 1 1 (a68 b6 1) (e4 4 (r9 (u3 a6 a7 []) [] [] (k2 b6 b3 v4)) (a49 0 (b0 7 3 (i7 1 (e3 71 2 (e9 g6) (s2 m0))) (g5 6 (a24 2 100) (b0 12 3 (c2 2 (h2 (g2 3 0 (h6 .gtr 4000 (u8 6 (g2 3 1 (h6 .gtr 1000 (k6 6 (c5 11))))))))) (j1 11 2 (c7 3))))) (l4 2 a2))) 2) := ⟨_, by conv => rhs; reduce⟩
end Q
def cf389 : CF := Q.T389.1
set_option maxRecDepth 100000 in
theorem cf389_ok : compF TP Tryz.f389 = some cf389 := by kernel_rfl
namespace Q
set_option maxRecDepth 100000 in
def T390 : Was (v3 3 6 (b4 14 1 (l0 0 k4) (.b 0 (g4 19 (a30 2 g6 18) 18 (c0 20 (a0 17 2 18) 18 (m9 21 17 6 18)) (g5 18 (a14 22 1 474 (t6 7 p3 9 7) (c4 24 (j7 0 (g7 2 (b2 9 7 (a5 (a06 (a6 :: a36 a6 (a54 a6 a1 a6 a1 (w6 a1 .nils (q5 a6 [])))) (o2 0 1 1 5 9) 3 b9 (a5 (v5 0 7 (a5 (v5 3 7 (a5 (q9 .add 1 (h0 1 32) (a8 1 7 (a5 (k9 181 (c7 10) (a9 (f0 .add 4 (d6 (f3 475 13 (f2 10 (i1 8)))))))))))))))))))) (l4 6 d5))) (b5 39 (a0 17 3 38) 38 (b7 40 (g2 1 2 (j9 2 476 6 b9)) (l4 6 d5)) (b5 48 (a0 17 4 47) 47 (l4 6 d5) (b5 50 (a0 17 5 49) 49 (b0 51 1 (c2 4 (c6 w3)) (b7 56 (f6 2 8 (a06 (a6 :: a36 a6 (a54 a6 a1 a6 a1 (w6 a1 .nils (q5 a6 [])))) (o2 0 1 1 3 1) 4 b9 (a3 8 (e3 475 5 (f2 2 (e9 n9)) (c5 9))))) (b4 62 1 (c2 4 q3) (i5 1 68 68 1 (o9 2 69 10 (b7 70 (g2 1 4 (h7 10 11 (a3 9 (m3 10 .add 2 (e3 390 10 (i1 4) k0))))) (j1 81 6 e5)) (c3 82 67 67))) (l4 6 d5)))) (b5 84 (a0 17 7 83) 83 (b0 85 1 (c2 4 (c6 (p6 .sub 1 11))) (.q (e4 91 (z0 d0 (d8 11)) (i5 3 93 93 3 (o9 4 94 12 (b7 95 (a3 2 (x3 (a6 :: a36 a6 (a54 a6 a1 a6 a1 (w6 a1 .nils (q5 a6 [])))) (j2 1 1 1) 5 (e3 475 3 (e9 (t9 a6 n9)) (c5 13)))) (h4 99 (g2 1 4 (h7 12 11 (a3 13 (e3 390 8 b9 k0)))) (j1 108 6 e5) (a39 109 13 2))) (c3 111 92 92)))) (k3 112 (g2 1 4 (h7 11 11 (a3 2 (e3 390 8 b9 m0))))))) (k5 122 (a0 17 8 121) 121 (k3 123 (f6 1 2 (e3 477 3 b9 m0))))))))))) (q0 6)) 6) := ⟨_, by conv => rhs; reduce⟩
end Q
def cf390 : CF := Q.T390.1
set_option maxRecDepth 100000 in
theorem cf390_ok : compF TP Tryz.f390 = some cf390 := by kernel_rfl
namespace Q
set_option maxRecDepth 100000 in
def T391 : Was (s7 1 1 (a68 b6 1) (h9 3 (a71 11 e6 (a4 389 (q7 .eql 100))) 5 (l4 2 a2) (g0 6 (i7 1 (a4 478 d4)))) 2) := ⟨_, by conv => rhs; reduce⟩
end Q
def cf391 : CF := Q.T391.1
set_option maxRecDepth 100000 in
theorem cf391_ok : compF TP Tryz.f391 = some cf391 := by kernel_rfl
namespace Q
set_option maxRecDepth 100000 in
def T392 : Was (h1 1 2 a2 (q8 3 a2 (h4 8 (l0 2 t2) (j5 14 14 0 (e1 1 15 (a20 1 11 p7) (s5 17 d0 5 (i5 2 20 20 2 (e1 3 21 (o4 11 17 (i3 11 7 h5 11 7)) (d3 23 3 (i7 7 (a4 391 (f0 .add 3 v4)))) (c3 27 19 19)))) (c3 28 13 13))) (d7 29 3 d4))) 2) := ⟨_, by conv => rhs; reduce⟩
end Q
def cf392 : CF := Q.T392.1
set_option maxRecDepth 100000 in
theorem cf392_ok : compF TP Tryz.f392 = some cf392 := by kernel_rfl
namespace Q
set_option maxRecDepth 100000 in
def T393 : Was (h1 1 2 a2 (h4 3 (l0 0 k4) (.b 0 (b5 8 (a21 2 4 7) 7 (k3 9 (c2 3 d4)) (b5 14 (a0 6 5 13) 13 (a24 2 2) (k5 16 (a0 6 8 15) 15 (k3 17 (c2 15 (c6 d4))))))) (l4 2 a2)) 2) := ⟨_, by conv => rhs; reduce⟩
end Q
def cf393 : CF := Q.T393.1
set_option maxRecDepth 100000 in
theorem cf393_ok : compF TP Tryz.f393 = some cf393 := by kernel_rfl
namespace Q
set_option maxRecDepth 100000 in
def T394 : Was (a51 1 (e4 2 (p1 d0 n9 e5) (a16 4 a2 (s5 12 d0 0 (j5 15 15 0 (e1 1 16 (o4 2 12 (i3 2 6 (a08 a6 .nils []) 2 6)) (d3 18 4 (i9 1 6 (a28 .add 1 (f0 .add 5 d2)))) (c3 24 14 14)))) (b4 25 4 (q7 .gtr 600) (c8 26 (g0 2 (p1 d0 n9 e5))) (a16 7 c1 (s5 27 d0 0 (i5 2 30 30 2 (e1 3 31 (o4 2 27 (i3 2 9 (a08 a6 .nils []) 2 9)) (c4 33 (a3 7 (m2 (m7 (m4 i8) 1 1 1) (m8 .u8 59) (u9 1 (v5 0 9 (n4 35 (l8 1 1 2 (r3 2 (e3 479 3 (e9 (c7 10)) (j6 r4))))))))) (i6 39 1 9 t2 (i5 4 43 43 4 (e1 5 44 (a20 1 40 (c5 11)) (d3 46 7 (m2 (m7 (m4 i8) 1 1 1) (m8 .u8 44) (l8 1 1 2 (a3 11 (e3 479 2 (e9 (c7 10)) r4))))) (c3 51 42 42))))) (c3 52 29 29)))) (d7 53 7 (k2 (.r .b2s) b3 (a09 2 b3 3 d5))))))) 2 (x9 3 [])) := ⟨_, by conv => rhs; reduce⟩
end Q
def cf394 : CF := Q.T394.1
set_option maxRecDepth 100000 in
theorem cf394_ok : compF TP Tryz.f394 = some cf394 := by kernel_rfl
namespace Q
set_option maxRecDepth 100000 in
def T396 : Was (z1 2 (t7 2 b6 e6 (z0 b6 e6) (t1 10 3 (v7 2 1 a2 (i3 2 5 (a08 a6 .nils []) 2 5)) (h9 13 (i9 1 5 (k7 .eql a2)) 16 (g0 17 (b8 2 (e2 5 (a13 (z3 482 0) 2 (d8 3) (e3 480 4 b9 d2))))) (c4 22 (b8 2 (c2 4 (e2 5 (q2 4 3 (o0 0 1 (a8 1 5 (v7 1 1 a2 (i2 (q2 25 5 (g8 25 (r0 6 (a6 :: a53 a6 (a36 a6 (a54 a6 a1 a6 a1 (w6 a1 .nils (q5 a6 []))))) (a5 (f5 25 6))))))))))))) (t1 37 2 (x1 4 6 21 (f9 267 3 r4)) (c4 41 (a5 (b8 2 (b8 2 (b8 3 (x1 0 6 4 (a5 (e3 483 4 (f2 3 (e9 d5)) (d6 (f9 268 6 (j6 w3)))))))))) (c4 48 (a5 (b8 2 (b8 2 (b8 3 (x1 0 6 4 (a5 (e3 483 4 (f2 3 c9) (d6 (f9 268 6 (j6 (c5 9))))))))))) (c4 55 (b8 2 (c2 6 (a3 7 (b8 2 (c2 6 (a5 (a3 7 (g7 8 (t3 9 21 9 (o8 8) (g9 18 (a5 (x7 1 (o8 4) (a9 (p8 21 6 5 (a17 19 (d6 (m5 1 5))))))))))))))))) (d7 71 7 d2))))))))) 4) := ⟨_, by conv => rhs; reduce⟩
end Q
def cf396 : CF := Q.T396.1
set_option maxRecDepth 100000 in
theorem cf396_ok : compF TP Tryz.f396 = some cf396 := by kernel_rfl
namespace Q
set_option maxRecDepth 100000 in
def T397 : Was (g3 5 (h9 8 (b8 1 (h7 0 1 k4)) 11 .ret (t1 12 1 (h7 0 1 (y1 1 d5)) (.q (t1 15 2 (h7 0 21 (a87 (.call 398))) (j5 21 21 0 (e1 1 22 (a20 1 18 r4) (.d 24 (b8 3 (a3 7 (a07 (i2 (a5 (r6 .callv 4 []))))))) (c3 29 20 20)))) (a02 30 4 (b1 (n6 o3 1 1 1 (l8 1 8 3 (f5 1 4))))))))) := ⟨_, by conv => rhs; reduce⟩
end Q
def cf397 : CF := Q.T397.1
set_option maxRecDepth 100000 in
theorem cf397_ok : compF TP Tryz.f397 = some cf397 := by kernel_rfl
namespace Q
set_option maxRecDepth 100000 in
def T398 : Was (h1 1 2 c1 (h4 3 (l0 0 k4) (.b 0 (b5 8 (a30 2 g6 7) 7 (l4 2 c1) (k5 10 (a0 6 2 9) 9 (k3 11 (l0 20 (n6 (m4 .nilp) 1 1 1 d4)))))) (c4 15 (b1 (l0 19 (b1 (l0 18 (w1 (.bslice (m4 .nilp) 2 1 (j2 1 1 1)) 4 d4))))) .ret)) 2) := ⟨_, by conv => rhs; reduce⟩
end Q
def cf398 : CF := Q.T398.1
set_option maxRecDepth 100000 in
theorem cf398_ok : compF TP Tryz.f398 = some cf398 := by kernel_rfl
namespace Q
set_option maxRecDepth 100000 in
def T399 : Was (g3 1 (b7 4 (c6 (s9 (r7 2 a2 3))) (p0 0 (b4 7 2 (a3 3 (x4 a01 b9)) (f7 9 0) (a49 1 (.d 14 (b1 (g7 2 (g7 0 (a3 3 (b1 (k8 3 1 (b1 (k8 2 1 (p8 1 12 11 (a5 (x7 1 (o8 6) (a9 (p8 1 11 10 (d6 (m5 1 3)))))))))))))))) (d3 10 2 (p4 .add (n7 3 .sub 1 (r7 2 s1 3))))))))) := ⟨_, by conv => rhs; reduce⟩
end Q
def cf399 : CF := Q.T399.1
set_option maxRecDepth 100000 in
theorem cf399_ok : compF TP Tryz.f399 = some cf399 := by kernel_rfl
namespace Q
set_option maxRecDepth 100000 in
def T400 : Was (r1 2 (s0 4 l2 (b4 7 1 (d9 2 (x0 6)) (l6 13 14 0 (c2 2 (k8 1 1 (a4 79 (f5 2 4))))) (s4 23 6 (e0 (a83 a03 true a6 2 (o5 22 28 6 (o6 0 7 1 8 (u4 5 f1 m0))))) (b4 31 6 k0 (c8 32 (s4 33 0 (a4 77 p7) (d1 38 (c2 6 (f6 1 5 (z4 (z5 a03 l7))))))) (d7 44 5 (a4 79 (f5 2 4))))))) 4 2) := ⟨_, by conv => rhs; reduce⟩
end Q
def cf400 : CF := Q.T400.1
set_option maxRecDepth 100000 in
theorem cf400_ok : compF TP Tryz.f400 = some cf400 := by kernel_rfl
namespace Q
set_option maxRecDepth 100000 in
def T401 : Was (g3 4 (l3 13 160 w3 (b4 15 1 q3 (j5 18 18 0 (o9 1 19 9 (b0 20 3 (c5 10) (b4 21 9 (e0 (c6 (s9 (a67 4)))) (c8 25 (d1 26 (a4 160 (c5 10)))) (b4 28 1 (k8 9 1 q3) (i5 2 34 34 2 (o9 3 35 11 (b7 36 (e0 (k8 9 1 (h7 11 11 (f6 2 10 (e3 484 9 l7 (t6 12 l2 2 12)))))) (c4 46 (a5 (b2 2 12 (d9 0 (a5 (z7 43 4 1702195828 (a9 (n2 (.r (.eq (.agg [.i, .i]) true)) (i1 6)))))))) (c8 52 (.d 53 (j7 0 (b2 2 12 (d9 0 (u9 2 (a3 10 (n4 59 (z7 43 4 1702195828 (a9 (w1 (.bslice l2 2 2 (j2 2 2 2)) 6 (g1 1 (a9 (a06 (v0 .nils a1 .nils .nils []) (o2 0 3 1 4 1) 11 b9 (d6 (n0 159 10)))))))))))))))))) (c3 64 33 33))) (b0 65 9 (e0 (c6 (s9 (a67 4)))) (c8 69 (b7 70 (j9 8 167 2 b3) (d1 73 (j9 10 168 2 b3)))))))) (c3 76 17 17))) (d1 77 (j9 8 168 2 b3))))) := ⟨_, by conv => rhs; reduce⟩
end Q
def cf401 : CF := Q.T401.1
set_option maxRecDepth 100000 in
theorem cf401_ok : compF TP Tryz.f401 = some cf401 := by kernel_rfl
namespace Q
set_option maxRecDepth 100000 in
def T402 : Was (g3 2 (a10 2 b6 e6 (t1 10 2 (c2 4 (h7 1 21 d2)) (b0 16 1 (n6 o3 1 1 1 p7) (b4 18 4 (c2 19 m0) (p0 0 (.q (c4 22 (b8 2 (c2 4 (m6 6 21 0 1 (i0 3 (e8 (b8 2 (c2 4 (m6 6 21 1 1 (g2 4 1 (f0 .eql 5 (f4 14 (e8 (b8 2 (a3 5 (b8 2 (c2 4 (h7 6 21 (g9 5 (g8 9 (a5 (e3 485 10 (i1 9) (a9 (x8 (a9 (l1 .pick 13 c9 (a9 (e8 (a9 (b8 2 (a9 (a07 (a17 8 (a9 (i2 (a9 (a3 6 (a9 (q2 1 2 (a9 (i2 (a9 (i0 1 (.n :: a9 (t5 .pick 9 c9)))))))))))))))))))))))))))))))))))))))))))) (f7 69 0)) (a49 1 (d3 78 5 (a3 6 (s6 (m7 o3 1 1 1) 1 8 3 5))) (a02 70 2 (c2 4 (m6 6 21 19 1 m0)))))) (b4 82 5 (c6 (k7 .eql g6)) (c8 84 (c4 85 (e7 (b8 2 (e7 (a07 (e7 (g9 0 (e7 (i2 (b8 2 (g2 4 1 (u9 1 (b8 2 (a5 (w2 0 (a5 (w2 0 (j7 4 (a07 (a48 5 (a5 (g8 9 (g1 2 (e7 (b8 2 (e7 (a07 (e7 (g9 5 (e7 (i2 (e7 (a3 4 (e7 (a07 (e7 (g9 19 (e7 (i2 (e7 (q2 1 5 (e7 (i2 (n4 94 (f9 400 5 (r3 11 (f9 87 5 (j6 (w1 (.bslice l2 2 2 (j2 2 2 2)) 13 (g1 10 (j6 (a06 (v0 .nils a1 .nils .nils []) (o2 0 3 1 4 1) 11 (i1 11) (f8 2 (n0 159 31))))))))))))))))))))))))))))))))))))))))))))))))))))) .ret)) (c4 120 (b8 2 (g2 4 1 (u9 2 (b8 2 (a5 (w2 5 (a5 (b8 2 (a5 (w2 4 (j7 5 (g7 5 (c6 (a5 (s9 (a5 (q2 1 4 (a74 (a5 (q2 21 7 (a55 19 (a5 (q2 1 14 (a74 (a5 (r0 7 (v0 .nils a1 .nils .nils []) (n4 125 (f9 400 5 (a9 (n6 l2 1 2 2 (g1 19 (a9 (a06 (v0 .nils a1 .nils .nils []) (o2 0 3 1 4 1) 12 (i1 20) (d6 (f5 10 7))))))))))))))))))))))))))))))))))) (b0 147 5 (a52 (z3 487 0) 2 (n0 486 2)) (.q (s5 150 d0 5 (i5 2 153 153 2 (e1 3 154 (a20 1 150 (c5 9)) (t1 156 2 (c2 9 (h7 9 1 (y1 1 d5))) (.d 162 (a5 (v5 8 7 (b8 2 (c2 0 (c2 0 (b8 2 (c2 4 (h7 9 21 (g9 5 (g8 9 (u9 2 (b8 2 (a5 (w2 5 (a5 (b8 2 (a5 (w2 4 (j7 9 (q2 21 2 (a55 18 (a5 (q2 1 9 (a74 (n4 179 (f9 87 9 (a9 (a84 (.field false 1 1) (.s 14) (a9 (z8 l2 (j2 1 1 1) 15 b3 (a9 (n6 l2 1 2 2 (d6 (l8 2 16 34 (j6 (j4 8 7 (f8 2 (t0 1)))))))))))))))))))))))))))))))))))))))) (c3 199 152 152)))) (.d 200 (b8 2 (c2 0 (b2 10 7 (a5 (n0 159 2))))))))))))))) := ⟨_, by conv => rhs; reduce⟩
end Q
def cf402 : CF := Q.T402.1
set_option maxRecDepth 100000 in
theorem cf402_ok : compF TP Tryz.f402 = some cf402 := by kernel_rfl
namespace Q
set_option maxRecDepth 100000 in
def T412 : Was (z1 2 (t7 2 b6 e6 (g1 1 (n2 d0 c1)) (h9 8 (e2 2 (h6 .neq 13 (h2 (i7 2 (a4 389 (j8 .neq (n1 4))))))) 15 (l4 4 c1) (a12 16 (m2 a37 [] (h3 (.build (a08 .nilm .nils []) (a40 0 1)) (k2 b6 b3 p7))) (s5 19 d0 1 (j5 22 22 0 (e1 1 23 (a20 1 19 r4) (d3 25 5 (c2 0 (a3 7 (z4 (z5 a29 (f2 2 (e9 d5))))))) (c3 30 21 21)))) (b0 31 5 (a8 6 2 (f3 490 3 (e9 (u2 491 [] [])))) (d7 35 5 (c2 1 d2)))))) 4) := ⟨_, by conv => rhs; reduce⟩
end Q
def cf412 : CF := Q.T412.1
set_option maxRecDepth 100000 in
theorem cf412_ok : compF TP Tryz.f412 = some cf412 := by kernel_rfl
namespace Q
set_option maxRecDepth 100000 in
def T417 : Was (v3 6 8 (h4 9 (j8 .lss (a26 (b8 2 (a11 .geq 3 (n1 5))))) (j1 16 8 d5) (h9 17 (b8 3 (h7 0 1 k4)) 20 (g0 21 (b8 4 (k8 0 1 (e0 (j0 418 w3))))) (c4 27 (b8 3 (g7 0 (b8 4 (j7 0 (t3 1 1 5 (o8 4) (a5 (x7 1 d5 (a9 (p8 1 4 3 (d6 (m5 1 3))))))))))) (t1 34 5 (b1 (n6 o3 1 1 1 (l8 1 8 3 (f5 1 5)))) (l4 8 d5))))) 8) := ⟨_, by conv => rhs; reduce⟩
end Q
def cf417 : CF := Q.T417.1
set_option maxRecDepth 100000 in
theorem cf417_ok : compF TP Tryz.f417 = some cf417 := by kernel_rfl
namespace Q
set_option maxRecDepth 100000 in
def T420 : Was (g3 2 (a10 2 b6 e6 (k5 3 (a71 2 w4 (a61 (.call 421))) 4 (a02 5 1 (b2 2 2 (n6 l2 1 2 2 (l8 2 16 3 (f5 1 1)))))))) := ⟨_, by conv => rhs; reduce⟩
end Q
def cf420 : CF := Q.T420.1
set_option maxRecDepth 100000 in
theorem cf420_ok : compF TP Tryz.f420 = some cf420 := by kernel_rfl
namespace Q
set_option maxRecDepth 100000 in
def T421 : Was (s7 1 1 (a31 b6 1 e5) (.q (e4 3 (w5 (.fa 0) e6 k4) (.b 0 (g4 6 (a30 2 g6 5) 5 (c0 7 (a0 4 2 5) 5 (m9 8 4 4 5)) (c8 5 (p2 9 1 1 (j8 .geq (i4 1 1 (h6 .lss 524288 (f4 4 d4))))))))) (q0 2)) 2) := ⟨_, by conv => rhs; reduce⟩
end Q
def cf421 : CF := Q.T421.1
set_option maxRecDepth 100000 in
theorem cf421_ok : compF TP Tryz.f421 = some cf421 := by kernel_rfl
namespace Q
set_option maxRecDepth 100000 in
def T422 : Was (r1 1 (s0 2 l2 (k3 3 (x3 l2 (j2 1 1 1) 1 (f5 2 2)))) 2 2) := ⟨_, by conv => rhs; reduce⟩
end Q
def cf422 : CF := Q.T422.1
set_option maxRecDepth 100000 in
theorem cf422_ok : compF TP Tryz.f422 = some cf422 := by kernel_rfl
namespace Q
set_option maxRecDepth 100000 in
def T423 : Was (g3 4 (q8 8 d5 (a66 9 d5 0 (.b 1 (b0 19 2 (m3 1 .sub 2 (c5 10)) (b4 22 10 (q7 .leq 12) (l6 23 24 0 (e0 (j9 2 494 3 b9))) (b4 28 3 (k7 .eql a2) (l6 29 30 0 (e0 (j9 2 495 3 b9))) (b4 34 8 k0 (c8 35 (b7 36 (e0 (j9 2 496 3 b9)) (a64 40 3 .sub 1 3))) (b7 43 (f6 1 2 (e3 497 3 b9 (o5 42 46 4 (o6 0 5 1 6 (r7 11 f1 12))))) (b4 49 12 (q7 .eql 2) (c8 50 (b7 51 (e0 (j9 2 498 3 b9)) (b0 55 2 (s9 (a3 11 (m3 1 .sub 2 (f0 .sub 4 (c5 11))))) (.r 12 (n2 d0 g6))))) (b4 61 8 (e8 (a3 9 (f4 2 (e8 (n7 12 .eql 1 (s3 3 c9)))))) (c8 68 (b7 69 (f6 1 2 (z2 499 l7)) (c8 72 .ret))) (.q (c4 73 (n5 1 .gtr 1 a2 (v2 (n7 1 .sub 1 (u7 1 3 (b1 (k8 11 1 (a5 (f9 500 5 (a9 (x8 (a9 (t5 .pick 12 c9)))))))))))) (c8 87 (b7 88 (e0 (f6 2 11 (e3 501 4 l7 (c5 13)))) (b0 93 13 (c5 1) (.x 1))))) (b7 95 (e0 (f6 2 11 (e3 502 4 l7 (o5 94 99 5 (o6 0 6 1 7 (r7 14 f1 15)))))) (b0 102 15 (c5 9) (b0 103 14 (m3 1 .sub 2 (a3 2 (m3 14 .sub 2 (r7 16 (o8 4) 17)))) (b0 109 10 (p6 .quo 8 18) (b0 111 16 (a3 17 (x4 a01 b9)) (g5 113 (b0 114 16 (m3 18 .geq 2 w3) (b7 117 (f6 1 14 (j9 3 423 4 l7)) (a39 122 14 1))) (b0 124 17 (m3 18 .geq 2 w3) (b7 127 (n7 14 .add 1 (a3 2 (j9 3 423 5 l7))) (d3 133 14 d4))))))))))))))))))))) := ⟨_, by conv => rhs; reduce⟩
end Q
def cf423 : CF := Q.T423.1
set_option maxRecDepth 100000 in
theorem cf423_ok : compF TP Tryz.f423 = some cf423 := by kernel_rfl
namespace Q
set_option maxRecDepth 100000 in
def T424 : Was (h1 1 2 a2 (.q (.c (.c a7) (k3 3 (h3 (.toInt .u32) (a4 503 d4))) .skip) (k3 6 (a4 504 d4))) 2) := ⟨_, by conv => rhs; reduce⟩
end Q
def cf424 : CF := Q.T424.1
set_option maxRecDepth 100000 in
theorem cf424_ok : compF TP Tryz.f424 = some cf424 := by kernel_rfl
namespace Q
set_option maxRecDepth 100000 in
def T425 : Was (g3 2 (.q (p0 0 (h4 4 (c2 0 (c6 (n7 1 .quo 64 (y8 .leq r5)))) (f7 11 0) (.b 1 (d1 12 (d9 0 (m2 (m7 (m4 (.int .u64 0)) 1 1 1) (m8 .u64 0) (l8 1 8 2 (w0 7 0 1 3)))))))) (.d 21 (d9 0 (n7 1 .quo 64 (u7 1 3 (n7 1 .rem 64 (a79 .shl (x2 (.int .u64 1)) (f0 .or 4 (p8 1 9 7 (a5 (t0 1)))))))))))) := ⟨_, by conv => rhs; reduce⟩
end Q
def cf425 : CF := Q.T425.1
set_option maxRecDepth 100000 in
theorem cf425_ok : compF TP Tryz.f425 = some cf425 := by kernel_rfl
namespace Q
set_option maxRecDepth 100000 in
def T426 : Was (g3 3 (a12 4 (p1 d0 d5 e5) (t1 8 1 (l0 0 k4) (.b 0 (g4 13 (a21 2 17 12) 12 (c0 14 (a0 11 19 12) 12 (c0 15 (a0 11 21 12) 12 (c0 16 (a0 11 23 12) 12 (c0 17 (a0 11 26 12) 12 (m9 18 11 27 12))))) (g5 12 (.r 4 (n2 d0 e5)) (g4 20 (a0 11 8 19) 19 (c0 21 (a0 11 39 19) 19 (m9 22 11 12 19)) (g5 19 (.r 4 (p1 d0 e5 d5)) (g4 24 (a0 11 9 23) 23 (c0 25 (a0 11 10 23) 23 (c0 26 (a0 11 11 23) 23 (c0 27 (a0 11 13 23) 23 (c0 28 (a0 11 30 23) 23 (c0 29 (a0 11 31 23) 23 (c0 30 (a0 11 32 23) 23 (c0 31 (a0 11 33 23) 23 (c0 32 (a0 11 34 23) 23 (c0 33 (a0 11 37 23) 23 (m9 34 11 40 23)))))))))) (c8 23 (.r 5 (n2 d0 d5)))))))))) (b4 35 4 (v2 (b8 2 (p4 .add (r6 .callv 3 (z9 .pick 6 c9 (h2 (a3 5 (v2 (b8 1 (c2 4 (r6 .callv 5 (a82 a75 10 false (l1 .pick 8 c9 (u8 11 (b8 1 (c2 0 (h6 .neq 12 (n1 6)))))))))))))))))) (c8 61 .ret) (t1 62 1 (l0 8 t2) (i5 1 68 68 1 (e1 2 69 (o4 2 65 (i3 2 7 l2 2 7)) (b7 71 (a8 1 7 (r6 .callv 3 k0)) (c8 75 .ret)) (c3 76 67 67))))))) := ⟨_, by conv => rhs; reduce⟩
end Q
def cf426 : CF := Q.T426.1
set_option maxRecDepth 100000 in
theorem cf426_ok : compF TP Tryz.f426 = some cf426 := by kernel_rfl
namespace Q
set_option maxRecDepth 100000 in
def T427 : Was (h1 1 2 a2 (h4 3 (k7 .eql (m8 .u64 0)) (j1 4 2 (c7 64)) (k3 5 (b1 (h3 (.un .neg) (f0 .and 3 (u0 .mul 1 .u64 285870213051353865 (u0 .shr 1 .u64 58 (w5 (.ixarrp 64 1) (x2 (.ptr 1 0)) (i2 (h3 (.toInt .i64) d4)))))))))) 2) := ⟨_, by conv => rhs; reduce⟩
end Q
def cf427 : CF := Q.T427.1
set_option maxRecDepth 100000 in
theorem cf427_ok : compF TP Tryz.f427 = some cf427 := by kernel_rfl
namespace Q
set_option maxRecDepth 100000 in
def T428 : Was (h1 2 4 a2 (h4 6 q3 (j5 9 9 0 (o9 1 10 5 (b0 11 1 (b1 (k8 5 1 (y8 .eql (i1 5)))) (l6 16 17 5 d2)) (c3 18 8 8))) (a24 4 (-1))) 4) := ⟨_, by conv => rhs; reduce⟩
end Q
def cf428 : CF := Q.T428.1
set_option maxRecDepth 100000 in
theorem cf428_ok : compF TP Tryz.f428 = some cf428 := by kernel_rfl
namespace Q
set_option maxRecDepth 100000 in
def T429 : Was (z1 2 (t7 2 b6 e6 (g1 1 (n2 d0 c1)) (b4 7 1 (j8 .lss (h2 (e0 (b8 2 (a11 .geq 3 (n1 5)))))) (j1 14 4 c1) (a70 5 (o1 (m4 .nils)) [] (t1 15 2 (h7 1 10 (e0 (z2 299 b9))) (.b 0 (.f (.l 19) [.l 20] (.r 6 (n2 d0 (d8 20))) (.b 1 (b0 21 6 (j8 .geq (e8 (a3 6 (b8 2 (a11 .lss 3 (s3 5 c9)))))) (c8 28 (a02 29 5 (a3 6 (n6 o3 1 1 1 (l8 1 8 3 (f5 1 5))))))))))) (t1 33 5 (a4 296 []) (g0 35 (b8 5 (a4 297 d2))))))) 4) := ⟨_, by conv => rhs; reduce⟩
end Q
def cf429 : CF := Q.T429.1
set_option maxRecDepth 100000 in
theorem cf429_ok : compF TP Tryz.f429 = some cf429 := by kernel_rfl
namespace Q
set_option maxRecDepth 100000 in
def T430 : Was (g3 2 (b7 5 (c6 d2) (d1 7 (f6 4 4 (h3 (.toInt .u64) (a4 424 (j9 1 505 6 (t9 a6 (a62 5))))))))) := ⟨_, by conv => rhs; reduce⟩
end Q
def cf430 : CF := Q.T430.1
set_option maxRecDepth 100000 in
theorem cf430_ok : compF TP Tryz.f430 = some cf430 := by kernel_rfl
namespace Q
set_option maxRecDepth 100000 in
def T431 : Was (h1 3 5 a2 (.q (s5 9 a63 2 (j5 12 12 0 (e1 1 13 (a20 1 9 r4) (b0 15 7 (b1 (r6 .callv 2 (f6 7 1 (r6 .callv 2 (f9 432 4 w3))))) (b0 22 8 (k7 .neq a2) (l6 23 24 8 p7))) (c3 25 11 11)))) (l4 5 a2)) 5) := ⟨_, by conv => rhs; reduce⟩
end Q
def cf431 : CF := Q.T431.1
set_option maxRecDepth 100000 in
theorem cf431_ok : compF TP Tryz.f431 = some cf431 := by kernel_rfl
namespace Q
set_option maxRecDepth 100000 in
def T432 : Was (h1 2 4 a2 (l3 7 506 p7 (a14 9 1 506 m0 (.q (a27 11 5 (c8 11 (.q (a27 12 6 (j1 12 4 a2)) (a24 4 (-1))))) (.q (a27 13 6 (j1 13 4 g6)) (h4 14 (e0 (x4 a01 b9)) (j1 16 4 (c7 (-1))) (h4 17 (e0 (y8 .gtr b9)) (j1 19 4 g6) (l4 4 a2))))))) 4) := ⟨_, by conv => rhs; reduce⟩
end Q
def cf432 : CF := Q.T432.1
set_option maxRecDepth 100000 in
theorem cf432_ok : compF TP Tryz.f432 = some cf432 := by kernel_rfl
namespace Q
set_option maxRecDepth 100000 in
def T433 : Was (h1 1 2 n9 (h4 3 (x4 a01 (e9 (c7 10))) (l6 4 5 0 (b1 (p4 .add (a86 (w7 .str true true) (u1 36 237927390410950444456928663707796224754864904193074819559483181009558347043374296609072 r5) 2)))) (k3 9 (h6 .mul 2 (b1 (h6 .mul 2 (h6 .add 2 (a86 (w7 .str true true) (b47 200 (i1 4)) 2))))))) 2) := ⟨_, by conv => rhs; reduce⟩
end Q
def cf433 : CF := Q.T433.1
set_option maxRecDepth 100000 in
theorem cf433_ok : compF TP Tryz.f433 = some cf433 := by kernel_rfl
namespace Q
set_option maxRecDepth 100000 in
def T437 : Was (h1 1 2 c1 (l3 4 511 (n6 h5 1 11 11 v4) (.q (p0 0 (h4 7 (z2 91 (e9 (h0 1 44))) (f7 8 0) (.b 1 (l3 9 191 [] (d3 11 3 (b1 (a4 511 (s6 (m7 h5 1 11 11) 11 200 4 3)))))))) (d7 16 3 d4))) 2) := ⟨_, by conv => rhs; reduce⟩
end Q
def cf437 : CF := Q.T437.1
set_option maxRecDepth 100000 in
theorem cf437_ok : compF TP Tryz.f437 = some cf437 := by kernel_rfl
namespace Q
set_option maxRecDepth 100000 in
def T438 : Was (h1 1 2 c1 (a16 3 c1 (p0 0 (h4 6 (c2 3 k0) (f7 10 0) (.b 1 (l3 11 511 (t6 4 h5 11 4) (e4 13 (i7 4 (a84 (.build (y5 a7 a6 a6 (q1 a1 a1 .nils (p9 (a04 a7 a6 a1 (a58 .nils a7 []))))) (a40 12 11)) (.d 5 (o1 (y5 a7 a6 a6 (q1 a1 a1 .nils (p9 (a04 a7 a6 a1 (a58 .nils a7 [])))))) []) (f5 23 5))) (t8 15 (z2 91 (e9 (h0 1 61))) 16 (l3 17 191 [] (.d 19 (a5 (i7 4 (g7 0 (a4 511 (a9 (r9 (y5 a7 a6 a6 (q1 a1 a1 .nils (p9 (a04 a7 a6 a1 (a58 .nils a7 []))))) (o2 0 1 11 12 11) (t9 b03 r5) (d6 (f5 23 5)))))))))) (b0 23 3 (b2 23 5 (s6 (m7 (y5 a7 a6 a6 (q1 a1 a1 .nils (p9 (a04 a7 a6 a1 (a58 .nils a7 []))))) 1 23 23) 23 408 3 3)) (t8 27 (z7 91 1 44 k0) 29 (.x 0) (d1 30 (a4 191 [])))))))))) (d7 32 3 d4)) 2) := ⟨_, by conv => rhs; reduce⟩
end Q
def cf438 : CF := Q.T438.1
set_option maxRecDepth 100000 in
theorem cf438_ok : compF TP Tryz.f438 = some cf438 := by kernel_rfl
namespace Q
set_option maxRecDepth 100000 in
def T439 : Was (s7 1 1 (a31 b6 1 e5) (h9 3 (a71 11 e6 (a4 512 (a4 440 k0))) 6 (q0 2) (.q (i6 7 0 1 k4 (.b 0 (g4 10 (a30 2 g6 9) 9 (c0 11 (a0 8 4 9) 9 (m9 12 8 6 9)) (g5 9 (l4 2 d5) (b5 14 (a0 8 2 13) 13 (p2 15 2 1 (a4 195 d4)) (b5 19 (a0 8 3 18) 18 (p2 20 2 1 (a4 513 d4)) (b5 24 (a0 8 5 23) 23 (p2 25 4 1 (a4 323 d4)) (b5 29 (a0 8 7 28) 28 (g0 30 (i9 4 1 (h6 .geq 2 (i4 4 1 (a4 323 (f4 4 d4)))))) (b5 40 (a0 8 8 39) 39 (p2 41 5 1 (a4 514 d4)) (b5 45 (a0 8 9 44) 44 (p2 46 2 1 (i9 4 1 (f9 515 4 (i4 4 1 (a4 323 (f4 4 d4)))))) (b5 58 (a0 8 10 57) 57 (p2 59 2 1 (a4 195 (i4 4 1 (a4 323 (f4 4 d4))))) (b5 68 (a0 8 11 67) 67 (g0 69 (i9 4 1 (h6 .geq 2 (i4 4 1 (a4 323 (f4 4 d4)))))) (b5 79 (a0 8 12 78) 78 (g0 80 (i9 4 1 (p4 .geq (i4 4 1 (a4 323 (f4 4 d4)))))) (b5 90 (a0 8 13 89) 89 (g0 91 (i9 6 1 (p4 .geq (i4 6 1 (k9 196 (h8 (-1) e5) (f4 4 d4)))))) (b5 101 (a0 8 14 100) 100 (p2 102 2 1 (a4 195 (i4 3 1 (a4 195 (l9 4 1 1 1 (j8 .geq (l9 4 1 1 1 (h6 .leq 16 (f4 4 d4))))))))) (k5 121 (a0 8 15 120) 120 (p2 122 8 1 (a4 324 d4)))))))))))))))))) (g0 125 (i7 1 (a4 516 d4))))) 2) := ⟨_, by conv => rhs; reduce⟩
end Q
def cf439 : CF := Q.T439.1
set_option maxRecDepth 100000 in
theorem cf439_ok : compF TP Tryz.f439 = some cf439 := by kernel_rfl
namespace Q
set_option maxRecDepth 100000 in
def T440 : Was (s7 1 1 (a31 b6 1 e5) (g0 3 (w5 (.fa 0) e6 (i2 (r2 (i4 1 1 (r2 (l9 4 1 2 1 (q9 .eql 1 n9 (l9 4 1 3 1 (q9 .eql 1 n9 (l9 4 1 4 1 (c6 (r2 (l9 5 1 5 1 (c6 (r2 (l9 5 1 6 1 (c6 (r2 (l9 5 1 7 1 (c6 (r2 (l9 5 1 8 1 (c6 (r2 (l9 5 1 9 1 (c6 (r2 (l9 5 1 10 1 (z9 .pick 4 c9 d4)))))))))))))))))))))))))))))) 2) := ⟨_, by conv => rhs; reduce⟩
end Q
def cf440 : CF := Q.T440.1
set_option maxRecDepth 100000 in
theorem cf440_ok : compF TP Tryz.f440 = some cf440 := by kernel_rfl
namespace Q
set_option maxRecDepth 100000 in
def T441 : Was (h1 2 4 c1 (h4 7 (e0 (z2 517 b9)) (l6 9 10 0 d2) (a16 5 a2 (p0 0 (b4 11 5 (b1 (a11 .lss 3 (v2 (k8 5 1 (m3 1 .lss 2 (s3 7 c9)))))) (f7 22 0) (.b 1 (a39 23 5 5)))) (q8 6 c1 (b0 25 6 (b1 (s8 5 (w7 (.sl 1) false true) 2 b3 (a34 1 8 4 6))) (b0 30 6 (e0 (s6 (m7 o3 1 1 1) 1 8 3 6)) (d7 34 6 (b1 (s8 5 (w7 (.sl 1) true false) 2 b3 (l8 1 8 4 d2))))))))) 4) := ⟨_, by conv => rhs; reduce⟩
end Q
def cf441 : CF := Q.T441.1
set_option maxRecDepth 100000 in
theorem cf441_ok : compF TP Tryz.f441 = some cf441 := by kernel_rfl
namespace Q
set_option maxRecDepth 100000 in
def T447 : Was (a51 2 (e4 4 (z0 d0 a2) (b4 6 1 (j8 .lss (v2 (e0 (a28 .add 9223372036854775807 (f0 .gtr 3 (f4 5 (h2 (n5 1 .gtr 1 a2 (v2 (e0 (a28 .add (-9223372036854775808) (f0 .lss 3 (a25 8 5 c9 (n1 9)))))))))))))) (c8 23 (g0 4 (p1 d0 a2 (c7 7)))) (k3 24 (m3 1 .sub 2 (a09 4 b3 5 a2))))) 4 (x9 5 [])) := ⟨_, by conv => rhs; reduce⟩
end Q
def cf447 : CF := Q.T447.1
set_option maxRecDepth 100000 in
theorem cf447_ok : compF TP Tryz.f447 = some cf447 := by kernel_rfl
namespace Q
set_option maxRecDepth 100000 in
def T460 : Was (h1 2 4 n9 (s4 6 1 p7 (.q (p0 0 (.q (a00 10 1 (d9 0 (h3 y6 (f0 .lss 6 (e8 (e0 (d9 0 (d9 1 (l1 .ixstr 5 b3 (a5 (r6 .callv 10 (.n :: a9 (t5 .pick 12 c9)))))))))))) (f7 32 0)) (.b 1 (d1 33 (c2 1 (p4 .add (w0 5 1 1 3))))))) (a00 40 0 (a3 5 (d9 1 (l1 (w7 .str true true) 6 (i1 5) d2))) .ret))) 4) := ⟨_, by conv => rhs; reduce⟩
end Q
def cf460 : CF := Q.T460.1
set_option maxRecDepth 100000 in
theorem cf460_ok : compF TP Tryz.f460 = some cf460 := by kernel_rfl
end
end Ev
end Go.Proofs.YtihflniehaaakaaGreatDoor
