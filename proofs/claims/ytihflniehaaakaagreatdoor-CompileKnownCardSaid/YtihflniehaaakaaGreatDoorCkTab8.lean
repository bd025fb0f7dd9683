/-
  The functions of the program, compiled (printed by a program of ours; each is held against the program's own text below).
-/
import Derived.Test.YtihflniehaaakaaGreatDoorCkQ
namespace Go.Proofs.YtihflniehaaakaaGreatDoor
set_option linter.unusedVariables false
set_option linter.unusedSimpArgs false
namespace Ev
noncomputable section
namespace Q
set_option maxRecDepth 100000 in
def T461 : Was (x5 1 2 3 (a4 525 (a26 (a4 526 (u8 3 (n5 0 .eql 1 (m8 .u8 95) (u8 3 (n5 0 .eql 1 (m8 .u8 64) (k6 3 d4)))))))) 2) := ⟨_, by conv => rhs; reduce⟩
end Q
def cf461 : CF := Q.T461.1
set_option maxRecDepth 100000 in
theorem cf461_ok : compF TP Tryz.f461 = some cf461 := by kernel_rfl
namespace Q
set_option maxRecDepth 100000 in
def T465 : Was (h1 2 4 a2 (h4 6 q3 (j5 9 9 0 (o9 1 10 5 (b0 11 1 (b1 (k8 5 1 (y8 .eql (i1 5)))) (l6 16 17 5 d2)) (c3 18 8 8))) (a24 4 (-1))) 4) := ⟨_, by conv => rhs; reduce⟩
end Q
def cf465 : CF := Q.T465.1
set_option maxRecDepth 100000 in
theorem cf465_ok : compF TP Tryz.f465 = some cf465 := by kernel_rfl
namespace Q
set_option maxRecDepth 100000 in
def T472 : Was (h1 0 0 (a23 .nilm) (g0 1 (m2 a37 [] (z5 a03 (e9 (h8 3 (u2 384 [] []))) :: z5 a03 (e9 (h8 4 (u2 532 [] []))) :: z5 a03 (e9 (h8 8 (u2 533 [] []))) :: z5 a03 (e9 (h8 10 (u2 534 [] []))) :: z5 a03 (e9 (h8 13 (u2 535 [] []))) :: z5 a03 (e9 (h8 15 (u2 536 [] []))) :: z5 a03 (e9 (h8 16 (u2 537 [] []))) :: z5 a03 (e9 (h8 17 (u2 538 [] []))) :: z5 a03 (e9 (h8 18 (u2 539 [] []))) :: h3 .mv (c5 0)))) 0) := ⟨_, by conv => rhs; reduce⟩
end Q
def cf472 : CF := Q.T472.1
set_option maxRecDepth 100000 in
theorem cf472_ok : compF TP Tryz.f472 = some cf472 := by kernel_rfl
namespace Q
set_option maxRecDepth 100000 in
def T473 : Was (g3 3 (s5 8 d0 1 (j5 11 11 0 (e1 1 12 (o4 11 8 (i3 11 7 h5 11 7)) (d1 14 (i7 7 (j9 2 387 3 b9))) (c3 18 10 10))))) := ⟨_, by conv => rhs; reduce⟩
end Q
def cf473 : CF := Q.T473.1
set_option maxRecDepth 100000 in
theorem cf473_ok : compF TP Tryz.f473 = some cf473 := by kernel_rfl
namespace Q
set_option maxRecDepth 100000 in
def T474 : Was (r1 1 (s0 2 p3 (h4 3 (l0 0 k4) (.b 0 (b5 8 (a30 2 g6 7) 7 (k3 9 (c2 1 (x3 p3 (j2 1 1 1) 1 (f5 9 2)))) (k5 15 (a0 6 2 14) 14 (k3 16 (c2 2 (x3 p3 (j2 1 3 1) 2 (f5 9 2))))))) (g0 21 (r9 p3 (a40 0 1) (c7 8) (f5 9 2))))) 2 9) := ⟨_, by conv => rhs; reduce⟩
end Q
def cf474 : CF := Q.T474.1
set_option maxRecDepth 100000 in
theorem cf474_ok : compF TP Tryz.f474 = some cf474 := by kernel_rfl
namespace Q
set_option maxRecDepth 100000 in
def T475 : Was (z1 4 (a19 5 b6 1 (g1 2 (n2 d0 a2)) (e4 11 (e2 5 (a8 1 5 (f6 2 3 (z8 (a91 a6 []) (a47 0 (o2 1 2 1 3 1)) 5 l7 (t6 9 (a91 a6 []) 4 9))))) (a16 10 a2 (i6 18 0 5 k4 (.b 0 (b5 21 (a21 2 4 20) 20 (d3 22 2 (c5 10)) (b5 24 (a0 19 5 23) 23 (.r 10 (n2 d0 (c7 2))) (k5 26 (a0 19 8 25) 25 (s4 27 0 (c2 5 (p4 .add (w0 5 5 1 3))) (.d 37 (d9 0 (c2 5 (a5 (v5 15 5 (a5 (c6 (j4 2 9 (a5 (x7 1 (o8 5) (a9 (a38 10 f1)))))))))))))))))) (h9 48 (e2 5 (i0 4 (k1 0 5 (i0 5 (k6 4 (k1 0 5 (i0 8 (n1 4)))))))) 60 (.d 61 (d9 0 (b2 4 9 (g7 10 (e3 540 3 b9 (a9 (j4 4 5 (d6 (t0 1))))))))) (c4 69 (a5 (b1 (b1 (y4 1 0 1 (b2 4 9 (b2 21 5 (z8 (a6 :: a53 a6 (a36 a6 (a54 a6 a1 a6 a1 (w6 a1 .nils (q5 a6 []))))) (j2 4 4 21) 2 b3 (n6 (a6 :: a53 a6 (a36 a6 (a54 a6 a1 a6 a1 (w6 a1 .nils (q5 a6 []))))) 1 25 25 (a5 (l8 25 288 5 (a9 (v6 .nilc 11 (a17 1 (a17 0 (d6 (m5 1 4)))))))))))))))) (p2 83 4 5 w3)))))) 8) := ⟨_, by conv => rhs; reduce⟩
end Q
def cf475 : CF := Q.T475.1
set_option maxRecDepth 100000 in
theorem cf475_ok : compF TP Tryz.f475 = some cf475 := by kernel_rfl
namespace Q
set_option maxRecDepth 100000 in
def T476 : Was (g3 3 (h4 8 (c2 0 (c2 0 (e0 (a35 a29 a7 2 (e8 (d9 0 (c2 1 (x8 (t5 .pick 9 c9))))))))) (l6 26 27 0 (f6 2 1 (a06 (a6 :: a36 a6 (a54 a6 a1 a6 a1 (w6 a1 .nils (q5 a6 [])))) (o2 0 1 1 14 1) 7 b9 (j9 1 475 5 (f2 2 (x2 a6)))))) (h4 34 (c2 6 (e0 (a83 a29 true a6 2 (o5 33 39 6 (o6 0 7 1 8 (r7 6 f1 7)))))) (a27 42 7 (l6 42 43 0 (f6 2 6 (a06 (a6 :: a36 a6 (a54 a6 a1 a6 a1 (w6 a1 .nils (q5 a6 [])))) (o2 0 1 1 2 1) 6 b9 (j9 6 475 5 (f2 2 (e9 n9))))))) (s4 49 6 (f6 1 2 (z4 (z5 a29 l7))) (d1 55 (b1 (y4 1 1 1 (f6 1 2 (z8 (q6 []) (j2 1 1 1) 2 b3 (n6 (q6 []) 1 2 2 (l8 2 24 5 (y2 11 1 (g9 1 (m5 1 4)))))))))))))) := ⟨_, by conv => rhs; reduce⟩
end Q
def cf476 : CF := Q.T476.1
set_option maxRecDepth 100000 in
theorem cf476_ok : compF TP Tryz.f476 = some cf476 := by kernel_rfl
namespace Q
set_option maxRecDepth 100000 in
def T478 : Was (s7 1 1 (a68 b6 1) (t7 3 (o1 o3) [] (a46 1 (a57 1 g6)) (e4 4 (i7 1 (w5 (z3 543 0) e6 (n0 153 2))) (g0 7 (b8 3 d4)))) 2) := ⟨_, by conv => rhs; reduce⟩
end Q
def cf478 : CF := Q.T478.1
set_option maxRecDepth 100000 in
theorem cf478_ok : compF TP Tryz.f478 = some cf478 := by kernel_rfl
namespace Q
set_option maxRecDepth 100000 in
def T479 : Was (h1 3 6 c1 (k3 7 (f6 1 2 (e3 544 3 b9 m0))) 6) := ⟨_, by conv => rhs; reduce⟩
end Q
def cf479 : CF := Q.T479.1
set_option maxRecDepth 100000 in
theorem cf479_ok : compF TP Tryz.f479 = some cf479 := by kernel_rfl
namespace Q
set_option maxRecDepth 100000 in
def T480 : Was (h1 3 6 a2 (s4 10 4 (h7 1 4 r4) (b7 16 (e0 (g2 7 1 (a06 (a6 :: a36 a6 (a54 a6 a1 a6 a1 (w6 a1 .nils (q5 a6 [])))) (o2 0 16 1 17 1) 2 (i1 5) (f9 267 7 w3)))) (a00 24 9 (g2 7 2 (g2 7 1 (a11 .add 6 (f0 .add 11 (y2 15 9 (a5 (m5 1 3))))))) (b4 41 7 (c2 3 k0) (c8 45 (b0 46 2 (k2 .callv b3 (c5 9)) (d1 48 (c2 6 (a3 8 (t3 9 21 3 f1 (g9 20 (m5 1 3)))))))) (d7 56 8 m0))))) 6) := ⟨_, by conv => rhs; reduce⟩
end Q
def cf480 : CF := Q.T480.1
set_option maxRecDepth 100000 in
theorem cf480_ok : compF TP Tryz.f480 = some cf480 := by kernel_rfl
namespace Q
set_option maxRecDepth 100000 in
def T483 : Was (z1 4 (a19 6 b6 2 (g1 1 (n2 d0 c1)) (.c (.c b03) (a16 9 c1 .skip (.q (s5 16 d0 1 (j5 19 19 0 (e1 1 20 (o4 2 16 (i3 2 11 (a08 a6 .nils []) 2 11)) (a12 22 (i9 1 11 (m2 (.mks o3 8) (x2 a6) (c5 12))) (i6 26 1 11 t2 (i5 2 30 30 2 (e1 3 31 (a20 1 27 (c5 14)) (a00 33 4 (e2 11 (q2 4 3 (o0 0 1 (h7 14 25 (g9 0 (g8 4 (r0 15 (a91 a6 []) (a5 (f5 4 15))))))))) (.b 4 (g4 47 (b2 4 15 (b2 4 6 (b04 (.eq (.agg [.i, .i, .i, .s]) false) 2 (e8 (a3 3 (z9 .pick 3 c9 (c5 46))))))) 46 (d3 54 3 (e8 (b2 4 6 (b2 4 15 (j0 545 (f4 4 (c5 46))))))) (g5 46 (.x 1) (k5 61 (b2 4 15 (b2 4 6 (b04 (.eq (.agg [.i, .i, .i, .s]) true) 2 (c5 60)))) 60 (d3 64 12 (a3 14 (s6 (m7 o3 1 1 1) 1 8 3 12)))))))) (c3 68 29 29)))) (d3 69 9 (e2 11 (s8 12 (.build (a08 a6 .nils []) (j2 1 1 1)) 2 b3 (s6 (m7 (a08 a6 .nils []) 1 2 2) 2 32 6 9))))) (c3 76 18 18)))) (d7 77 9 w3))) .skip)) 8) := ⟨_, by conv => rhs; reduce⟩
end Q
def cf483 : CF := Q.T483.1
set_option maxRecDepth 100000 in
theorem cf483_ok : compF TP Tryz.f483 = some cf483 := by kernel_rfl
namespace Q
set_option maxRecDepth 100000 in
def T490 : Was (g3 3 (a10 3 b6 (d8 0) (s5 13 d0 1 (j5 16 16 0 (e1 1 17 (o4 4 13 (i3 4 7 (a42 a1 []) 4 7)) (b0 19 2 (t6 8 (m4 .nilf) 1 8) (.q (i6 20 1 7 t2 (i5 2 24 24 2 (e1 3 25 (o4 11 21 (i3 11 10 h5 11 10)) (.r 27 (i7 10 (a52 (z3 555 0) 8 (f3 554 2 (e9 (u2 557 [] [])))))) (c3 30 23 23)))) (.q (i6 31 1 7 t2 (i5 4 35 35 4 (e1 5 36 (o4 11 32 (i3 11 12 h5 11 12)) (.r 38 (i7 12 (a13 (z3 559 0) 3 (d8 8) (f3 554 2 (x2 (a96 558 [] [])))))) (c3 41 34 34)))) (a02 42 3 (b2 4 7 (b8 8 (f3 561 3 b9))))))) (c3 46 15 15)))))) := ⟨_, by conv => rhs; reduce⟩
end Q
def cf490 : CF := Q.T490.1
set_option maxRecDepth 100000 in
theorem cf490_ok : compF TP Tryz.f490 = some cf490 := by kernel_rfl
namespace Q
set_option maxRecDepth 100000 in
def T491 : Was (v3 1 2 (q0 2) 2) := ⟨_, by conv => rhs; reduce⟩
end Q
def cf491 : CF := Q.T491.1
set_option maxRecDepth 100000 in
theorem cf491_ok : compF TP Tryz.f491 = some cf491 := by kernel_rfl
namespace Q
set_option maxRecDepth 100000 in
def T494 : Was (g3 3 (b0 8 1 (p6 .add 1 6) (p0 0 (b4 10 6 (a3 2 (x4 a01 b9)) (f7 12 0) (l5 1 (b0 15 6 r4 (p0 2 (.q (c4 16 (a3 7 (m3 1 .gtr 2 (v2 (k8 7 1 (b1 (n7 7 .sub 1 (u7 1 3 (a5 (f9 500 6 (.n :: a9 (t5 .pick 11 c9))))))))))) (f7 30 2)) (a49 3 (.d 33 (b1 (g7 7 (g7 0 (g7 7 (s9 (b1 (n7 7 .sub 1 (u7 1 3 (b1 (k8 7 1 (p8 1 14 13 (a5 (x7 1 (o8 6) (a9 (p8 1 13 11 (d6 (m5 1 3)))))))))))))))))) (a64 31 7 .sub 1 7))))) 13 6 6))))) := ⟨_, by conv => rhs; reduce⟩
end Q
def cf494 : CF := Q.T494.1
set_option maxRecDepth 100000 in
theorem cf494_ok : compF TP Tryz.f494 = some cf494 := by kernel_rfl
namespace Q
set_option maxRecDepth 100000 in
def T500 : Was (x5 2 4 5 (a4 506 (e8 (e0 (a4 506 (z9 .pick 4 c9 (a26 (m3 1 .lss 2 (k6 4 d2)))))))) 4) := ⟨_, by conv => rhs; reduce⟩
end Q
def cf500 : CF := Q.T500.1
set_option maxRecDepth 100000 in
theorem cf500_ok : compF TP Tryz.f500 = some cf500 := by kernel_rfl
namespace Q
set_option maxRecDepth 100000 in
def T504 : Was (h1 1 2 a2 (t8 3 (k7 .geq (m8 .u64 4294967296)) 4 (b7 5 (u0 .shr 1 .u64 32 (c5 0)) (.r 2 (n2 d0 (c7 32)))) (t8 7 (k7 .geq (m8 .u64 65536)) 8 (b7 9 (u0 .shr 1 .u64 16 (c5 0)) (a93 11 2 16 2)) (t8 13 (k7 .geq (m8 .u64 256)) 14 (b7 15 (u0 .shr 1 .u64 8 (c5 0)) (a93 17 2 8 2)) (d7 19 2 (b1 (h3 (.toInt .u8) (w5 .ixstr (x2 (b48 256)) (h3 (.toInt .i64) (f0 .add 5 d4))))))))) 2) := ⟨_, by conv => rhs; reduce⟩
end Q
def cf504 : CF := Q.T504.1
set_option maxRecDepth 100000 in
theorem cf504_ok : compF TP Tryz.f504 = some cf504 := by kernel_rfl
namespace Q
set_option maxRecDepth 100000 in
def T505 : Was (g3 5 (q8 10 d5 (a66 11 d5 0 (.b 1 (b0 21 2 (m3 1 .sub 2 (c5 12)) (b4 24 12 (q7 .leq 12) (l6 25 26 0 (f6 1 2 (j9 4 568 4 l7))) (b4 31 3 (k7 .eql a2) (l6 32 33 0 (f6 1 2 (j9 4 569 4 l7))) (b4 38 10 k0 (c8 39 (b7 40 (f6 1 2 (j9 4 570 4 l7)) (a64 45 3 .sub 1 3))) (b7 48 (e0 (f6 2 4 (e3 571 4 l7 (o5 47 52 5 (o6 0 6 1 7 (r7 13 f1 14)))))) (b4 55 14 (q7 .eql 2) (c8 56 (b7 57 (f6 1 2 (j9 4 572 4 l7)) (b0 62 2 (s9 (a3 13 (m3 1 .sub 2 (f0 .sub 4 (c5 13))))) (.r 14 (n2 d0 g6))))) (b4 68 10 (e8 (a3 11 (f4 2 (e8 (n7 14 .eql 1 (s3 3 c9)))))) (c8 75 (b7 76 (e0 (f6 2 4 (z2 573 (f2 4 l7)))) (c8 80 .ret))) (.q (c4 81 (n5 1 .gtr 1 a2 (e8 (a3 4 (b1 (n7 1 .sub 1 (u7 1 3 (b1 (k8 13 1 (a5 (k2 .callv (f2 10 (i1 5)) (a9 (j8 .lss (a9 (x8 (a9 (t5 .pick 14 c9)))))))))))))))) (c8 97 (b7 98 (f6 1 2 (f6 13 4 (e3 574 5 (f2 4 l7) (c5 15)))) (b0 104 15 (c5 1) (.x 1))))) (b7 106 (f6 1 2 (f6 13 4 (e3 575 5 (f2 4 l7) (o5 105 111 6 (o6 0 7 1 8 (r7 16 f1 17)))))) (b0 114 17 (c5 11) (b0 115 16 (m3 1 .sub 2 (a3 2 (m3 16 .sub 2 (r7 18 (o8 4) 19)))) (b0 121 12 (p6 .quo 8 20) (b0 123 18 (a3 19 (x4 a01 b9)) (g5 125 (b0 126 18 (m3 20 .geq 2 (c5 10)) (b7 129 (e0 (f6 16 3 (j9 4 505 5 (f2 4 l7)))) (a39 135 16 1))) (b0 137 19 (m3 20 .geq 2 (c5 10)) (b7 140 (n7 16 .add 1 (f6 2 3 (j9 4 505 6 (f2 4 l7)))) (d3 147 16 d4))))))))))))))))))))) := ⟨_, by conv => rhs; reduce⟩
end Q
def cf505 : CF := Q.T505.1
set_option maxRecDepth 100000 in
theorem cf505_ok : compF TP Tryz.f505 = some cf505 := by kernel_rfl
namespace Q
set_option maxRecDepth 100000 in
def T506 : Was (x5 1 2 3 (m3 0 .neq 2 d4) 2) := ⟨_, by conv => rhs; reduce⟩
end Q
def cf506 : CF := Q.T506.1
set_option maxRecDepth 100000 in
theorem cf506_ok : compF TP Tryz.f506 = some cf506 := by kernel_rfl
namespace Q
set_option maxRecDepth 100000 in
def T511 : Was (r1 1 (s0 2 h5 (l3 4 577 (t6 3 h5 11 3) (t8 6 (z7 91 1 33 k0) 8 (g0 9 (i7 3 (q4 2))) (l3 10 191 [] (c4 12 (a5 (i7 3 (g7 0 (a4 511 (d6 (v8 578 (u1 1 33 r5) (f8 2 (q4 2)))))))) .ret))))) 2 11) := ⟨_, by conv => rhs; reduce⟩
end Q
def cf511 : CF := Q.T511.1
set_option maxRecDepth 100000 in
theorem cf511_ok : compF TP Tryz.f511 = some cf511 := by kernel_rfl
namespace Q
set_option maxRecDepth 100000 in
def T512 : Was (r1 1 (a12 1 (a32 b6 w4 (o1 h5) []) (e4 3 (w5 (.fa 0) e6 k4) (.b 0 (b5 6 (a30 2 g6 5) 5 (.r 7 (m1 1 1 1 a2)) (g4 9 (a0 4 2 8) 8 (m9 10 4 3 8) (g5 8 (.r 11 (m1 2 1 1 n9)) (g4 13 (a0 4 5 12) 12 (c0 14 (a0 4 7 12) 12 (c0 15 (a0 4 11 12) 12 (m9 16 4 12 12))) (g5 12 (.r 17 (m1 4 1 1 c1)) (b5 19 (a0 4 8 18) 18 (.r 20 (m1 5 1 1 c1)) (g4 22 (a0 4 9 21) 21 (m9 23 4 10 21) (g5 21 (.r 24 (t4 2 1 1 n9 (m1 4 1 1 c1))) (b5 27 (a0 4 13 26) 26 (.r 28 (m1 6 1 1 c1)) (b5 30 (a0 4 14 29) 29 (.r 31 (t4 2 1 1 n9 (t4 3 1 1 n9 (m1 1 1 1 a2)))) (b5 35 (a0 4 15 34) 34 (.r 36 (m1 8 1 1 c1)) (b5 38 (a0 4 16 37) 37 (.r 39 (t4 4 1 1 c1 (m1 6 1 1 c1))) (b5 42 (a0 4 17 41) 41 (.r 43 (t4 6 1 1 c1 (t4 4 1 1 c1 (t4 9 1 1 c1 (j4 10 1 (a46 1 c9)))))) (k5 48 (a0 4 18 47) 47 (.r 49 (t4 8 1 1 c1 (t4 6 1 1 c1 (t4 7 1 1 c1 (t4 9 1 1 c1 (j4 10 1 (a46 1 c9))))))))))))))))))))))) (i6 54 0 1 (y1 1 a2) (g0 55 (i7 1 (q4 2))))) 2 11) := ⟨_, by conv => rhs; reduce⟩
end Q
def cf512 : CF := Q.T512.1
set_option maxRecDepth 100000 in
theorem cf512_ok : compF TP Tryz.f512 = some cf512 := by kernel_rfl
namespace Q
set_option maxRecDepth 100000 in
def T513 : Was (v3 1 2 (h4 3 (h3 y6 (p4 .lss (a26 (h3 y6 (h6 .gtr 32 (u8 4 (n5 0 .eql 1 (h0 1 95) (u8 3 (b1 (l1 .ixstr 1 a2 (u0 .neq 1 .u8 95 (v2 (l1 .ixstr 1 a2 (u0 .lss 1 .u8 65 (a26 (l1 .ixstr 1 a2 (u0 .gtr 1 .u8 90 (a43 8 true 4 n3 (a25 13 9 c9 (n1 14)))))))))))))))))))) (j1 29 2 e5) (k3 30 (h3 y6 (i0 1 (a26 (l1 (w7 .str true false) 1 g6 (a79 .add (x2 (.str 1 97)) (a4 24 (k6 5 d4))))))))) 2) := ⟨_, by conv => rhs; reduce⟩
end Q
def cf513 : CF := Q.T513.1
set_option maxRecDepth 100000 in
theorem cf513_ok : compF TP Tryz.f513 = some cf513 := by kernel_rfl
namespace Q
set_option maxRecDepth 100000 in
def T515 : Was (v3 2 4 (b4 5 1 (k7 .eql g6) (l6 6 7 0 (q9 .eql 1 (h0 1 45) (h2 (n5 0 .eql 1 (h0 4 1953459810) (u8 3 (n5 0 .eql 1 (h0 3 7630702) (k6 3 d2))))))) (.q (a27 17 0 (.b 0 (g4 19 (a30 2 (h0 1 33) 18) 18 (c0 20 (j3 17 6 111546414232175 18) 18 (c0 21 (j3 17 7 31370631742516833 18) 18 (c0 22 (j3 17 3 4012605 18) 18 (c0 23 (j3 17 3 4009789 18) 18 (c0 24 (j3 17 1 60 18) 18 (c0 25 (j3 17 2 15421 18) 18 (c0 26 (j3 17 1 62 18) 18 (c0 27 (j3 17 2 15678 18) 18 (c0 28 (j3 17 2 11051 18) 18 (c0 29 (j3 17 1 43 18) 18 (c0 30 (j3 17 1 45 18) 18 (c0 31 (j3 17 3 7499618 18) 18 (c0 32 (j3 17 4 1919907938 18) 18 (c0 33 (j3 17 3 7107426 18) 18 (c0 34 (j3 17 3 7500642 18) 18 (c0 35 (j3 17 2 29295 18) 18 (c0 36 (j3 17 3 7499640 18) 18 (c0 37 (j3 17 1 42 18) 18 (c0 38 (j3 17 3 7760228 18) 18 (c0 39 (j3 17 3 7169394 18) 18 (c0 40 (j3 17 4 1684955490 18) 18 (.r 41 (j3 17 3 6581857 18))))))))))))))))))))))) (l6 18 42 1 (p6 .eql 2 4))))) (q0 4))) 4) := ⟨_, by conv => rhs; reduce⟩
end Q
def cf515 : CF := Q.T515.1
set_option maxRecDepth 100000 in
theorem cf515_ok : compF TP Tryz.f515 = some cf515 := by kernel_rfl
namespace Q
set_option maxRecDepth 100000 in
def T517 : Was (v3 2 4 (n8 5 0 (g4 6 (u5 w4 (b1 (x0 3))) 9 (.x 0) (l5 1 (b7 12 (k8 5 1 (e0 (y8 .eql b9))) (j1 17 4 d5)) 10 5 5)) (q0 4)) 4) := ⟨_, by conv => rhs; reduce⟩
end Q
def cf517 : CF := Q.T517.1
set_option maxRecDepth 100000 in
theorem cf517_ok : compF TP Tryz.f517 = some cf517 := by kernel_rfl
namespace Q
set_option maxRecDepth 100000 in
def T525 : Was (x5 1 2 3 (u0 .geq 1 .u8 48 (e8 (n5 0 .leq 1 (m8 .u8 57) (f4 3 d4)))) 2) := ⟨_, by conv => rhs; reduce⟩
end Q
def cf525 : CF := Q.T525.1
set_option maxRecDepth 100000 in
theorem cf525_ok : compF TP Tryz.f525 = some cf525 := by kernel_rfl
namespace Q
set_option maxRecDepth 100000 in
def T526 : Was (x5 1 2 3 (u0 .geq 1 .u8 97 (e8 (n5 0 .leq 1 (m8 .u8 122) (f4 3 (h2 (n5 0 .geq 1 (m8 .u8 65) (e8 (n5 0 .leq 1 (m8 .u8 90) (a25 6 3 c9 (k6 7 d4)))))))))) 2) := ⟨_, by conv => rhs; reduce⟩
end Q
def cf526 : CF := Q.T526.1
set_option maxRecDepth 100000 in
theorem cf526_ok : compF TP Tryz.f526 = some cf526 := by kernel_rfl
namespace Q
set_option maxRecDepth 100000 in
def T534 : Was (g3 3 (a10 4 b6 (d8 1) (a12 7 (i9 4 4 m0) (a00 10 3 (a8 2 4 (s8 6 (.build (q6 []) (j2 1 1 1)) 2 b3 (a35 (.agg [.s, .i]) a6 5 (r2 (i4 2 4 (g7 6 (j0 156 (a9 (r2 (.n :: a9 (t5 .pick 6 c9))))))))))) (c8 26 (d1 27 (a8 2 4 (j9 6 155 4 (h8 6 b9)))))) (d1 32 (a8 4 4 (j9 2 473 4 b9)))))) := ⟨_, by conv => rhs; reduce⟩
end Q
def cf534 : CF := Q.T534.1
set_option maxRecDepth 100000 in
theorem cf534_ok : compF TP Tryz.f534 = some cf534 := by kernel_rfl
namespace Q
set_option maxRecDepth 100000 in
def T535 : Was (g3 3 (a70 4 b6 (d8 1) (c4 15 (e7 (i7 4 (g7 2 (a4 592 (d6 (a4 591 (f8 2 (f9 412 4 (f8 3 (c6 (f8 3 m0))))))))))) (b0 21 6 (q7 .gtr 200) (c8 22 (d1 23 (j9 6 155 2 (h8 13 (x2 a1))))))) (i6 26 6 4 t2 (j5 30 30 0 (e1 1 31 (o4 4 27 (i3 4 8 (a42 a1 []) 4 8)) (.q (e4 33 (i9 1 8 (c5 9)) (b0 36 9 (a8 6 4 (v7 4 1 a2 (o0 1 1 (c6 (y8 .neq (i1 7)))))) (c8 43 (d1 44 (j9 9 155 2 (h8 12 (x2 a1))))))) (a14 47 2 386 (m2 a37 [] (r7 10 f1 11)) (.q (i6 50 1 8 t2 (i5 2 54 54 2 (e1 3 55 (o4 11 51 (i3 11 13 h5 11 13)) (.r 57 (i7 13 (j9 11 383 2 b3))) (c3 60 53 53)))) (b4 61 11 (a61 (.e .rangeM)) (p0 4 (a12 63 (k2 (.e .nextM) w4 (a98 (.ext 0))) (f7 64 4) (.b 5 (e4 65 (k2 (.e .entryM) (d8 62) (a76 0 (c5 14))) (d3 67 10 (a3 14 (z4 (a81 (.delete a29) b9)))))))) (d1 69 (b2 4 8 (j9 10 157 3 b9))))))) (c3 73 29 29)))))) := ⟨_, by conv => rhs; reduce⟩
end Q
def cf535 : CF := Q.T535.1
set_option maxRecDepth 100000 in
theorem cf535_ok : compF TP Tryz.f535 = some cf535 := by kernel_rfl
namespace Q
set_option maxRecDepth 100000 in
def T544 : Was (h1 3 6 c1 (b0 8 1 (h3 (.toInt .u64) r4) (b4 10 1 (x4 a01 (e9 a2)) (c8 11 (b7 12 (m2 (m7 (m4 i8) 1 1 1) (m8 .u8 45) (a34 1 1 2 0)) (d3 15 7 (h3 (.un .neg) r4)))) (k3 17 (f6 7 2 (e3 594 3 b9 m0))))) 6) := ⟨_, by conv => rhs; reduce⟩
end Q
def cf544 : CF := Q.T544.1
set_option maxRecDepth 100000 in
theorem cf544_ok : compF TP Tryz.f544 = some cf544 := by kernel_rfl
namespace Q
set_option maxRecDepth 100000 in
def T545 : Was (z1 2 (t7 2 b6 e6 (p1 b6 e6 e5) (h9 6 (a8 1 2 (a8 1 3 (f0 .neq 3 (h2 (b2 4 2 (b2 4 3 (b04 (.eq (.agg [.i, .i, .i, .s]) false) 2 (n1 4)))))))) 15 (q0 4) (q8 5 (u2 595 [] []) (d7 16 5 (b2 4 2 (r6 .callv 2 (e8 (a3 5 (b2 4 3 (r6 .callv 2 (l9 4 1 0 2 (i0 8 (i4 0 3 (i0 8 (a43 8 true 4 c9 (z9 .pick 10 c9 d2)))))))))))))))) 4) := ⟨_, by conv => rhs; reduce⟩
end Q
def cf545 : CF := Q.T545.1
set_option maxRecDepth 100000 in
theorem cf545_ok : compF TP Tryz.f545 = some cf545 := by kernel_rfl
namespace Q
set_option maxRecDepth 100000 in
def T554 : Was (g3 3 (a19 3 b6 0 (a32 b6 (d8 1) b6 (d8 2)) (i6 8 0 3 k4 (.b 0 (b5 14 (a0 9 3 13) 13 (a02 15 4 (a8 2 3 (r6 .callv 3 []))) (b5 20 (a0 9 8 19) 19 (i6 21 5 3 t2 (i5 1 25 25 1 (e1 2 26 (o4 27 22 (i3 27 7 (u3 a1 a6 (a41 a1 a1 .nils (p9 (q5 a7 (q1 a1 a1 .nils (p9 (p5 a7 a7 a7 a7 []))))))) 27 7)) (h9 28 (e2 7 (q7 .neq 4)) 30 (.r 31 (x1 2 7 11 (b8 4 (b8 5 (f3 554 3 b9))))) (k5 36 (j4 24 7 k4) 37 (a02 38 5 (x1 13 7 11 (r6 .callv 3 []))))) (c3 42 24 24)))) (.r 10 (i7 3 (a13 (z3 611 0) 4 (d8 5) (n0 153 2)))))))))) := ⟨_, by conv => rhs; reduce⟩
end Q
def cf554 : CF := Q.T554.1
set_option maxRecDepth 100000 in
theorem cf554_ok : compF TP Tryz.f554 = some cf554 := by kernel_rfl
namespace Q
set_option maxRecDepth 100000 in
def T555 : Was (g3 2 (.r 3 (a90 1 e6 (b1 (j0 556 (f5 1 1)))))) := ⟨_, by conv => rhs; reduce⟩
end Q
def cf555 : CF := Q.T555.1
set_option maxRecDepth 100000 in
theorem cf555_ok : compF TP Tryz.f555 = some cf555 := by kernel_rfl
namespace Q
set_option maxRecDepth 100000 in
def T556 : Was (z1 2 (t7 2 b6 e6 (p1 b6 e6 (a23 .nilf)) (g0 5 (a86 (z3 612 0) (a57 2 (d8 2)) 4))) 4) := ⟨_, by conv => rhs; reduce⟩
end Q
def cf556 : CF := Q.T556.1
set_option maxRecDepth 100000 in
theorem cf556_ok : compF TP Tryz.f556 = some cf556 := by kernel_rfl
namespace Q
set_option maxRecDepth 100000 in
def T558 : Was (g3 1 .skip) := ⟨_, by conv => rhs; reduce⟩
end Q
def cf558 : CF := Q.T558.1
set_option maxRecDepth 100000 in
theorem cf558_ok : compF TP Tryz.f558 = some cf558 := by kernel_rfl
namespace Q
set_option maxRecDepth 100000 in
def T561 : Was (g3 3 (a70 4 b6 (d8 1) (i6 10 2 4 t2 (j5 14 14 0 (e1 1 15 (a20 1 11 r4) (s5 17 d0 7 (i5 2 20 20 2 (e1 3 21 (o4 11 17 (i3 11 9 h5 11 9)) (d1 23 (i7 9 (j9 2 615 3 b9))) (c3 27 19 19)))) (c3 28 13 13)))) (d1 29 (a8 3 4 (j9 2 616 4 b9))))) := ⟨_, by conv => rhs; reduce⟩
end Q
def cf561 : CF := Q.T561.1
set_option maxRecDepth 100000 in
theorem cf561_ok : compF TP Tryz.f561 = some cf561 := by kernel_rfl
namespace Q
set_option maxRecDepth 100000 in
def T568 : Was (g3 4 (b0 10 1 (p6 .add 1 8) (p0 0 (b4 12 8 (a3 2 (x4 a01 b9)) (f7 14 0) (l5 1 (b0 17 8 (c5 9) (p0 2 (.q (c4 18 (a3 9 (m3 1 .gtr 2 (e8 (a3 3 (b1 (k8 9 1 (b1 (n7 9 .sub 1 (u7 1 3 (a5 (k2 .callv (f2 10 (i1 6)) (a9 (j8 .lss (.n :: a9 (t5 .pick 13 c9))))))))))))))) (f7 34 2)) (a49 3 (.d 37 (b1 (g7 9 (g7 0 (g7 9 (s9 (b1 (n7 9 .sub 1 (u7 1 3 (b1 (k8 9 1 (p8 1 14 13 (a5 (x7 1 (o8 6) (a9 (p8 1 13 11 (d6 (m5 1 3)))))))))))))))))) (a64 35 9 .sub 1 9))))) 15 8 8))))) := ⟨_, by conv => rhs; reduce⟩
end Q
def cf568 : CF := Q.T568.1
set_option maxRecDepth 100000 in
theorem cf568_ok : compF TP Tryz.f568 = some cf568 := by kernel_rfl
namespace Q
set_option maxRecDepth 100000 in
def T577 : Was (r1 1 (s0 2 h5 (l3 4 621 (t6 3 h5 11 3) (.q (p0 0 (h4 6 (z2 91 (e9 (h0 6 111546414232175))) (f7 7 0) (.b 1 (l3 8 191 [] (.d 10 (a5 (i7 3 (g7 0 (a4 621 (d6 (v8 578 (u1 6 111546414232175 r5) (f8 2 (q4 3))))))))))))) (g0 14 (i7 3 (q4 2)))))) 2 11) := ⟨_, by conv => rhs; reduce⟩
end Q
def cf577 : CF := Q.T577.1
set_option maxRecDepth 100000 in
theorem cf577_ok : compF TP Tryz.f577 = some cf577 := by kernel_rfl
namespace Q
set_option maxRecDepth 100000 in
def T578 : Was (r1 3 (a19 4 b6 1 (a32 b6 (d8 2) (o1 h5) []) (k3 7 (i7 4 (i7 5 (w1 (.bslice h5 2 11 (j2 11 11 11)) 2 (a06 h5 (o2 0 2 1 4 1) 9 (i1 4) (q4 6))))))) 6 11) := ⟨_, by conv => rhs; reduce⟩
end Q
def cf578 : CF := Q.T578.1
set_option maxRecDepth 100000 in
theorem cf578_ok : compF TP Tryz.f578 = some cf578 := by kernel_rfl
namespace Q
set_option maxRecDepth 100000 in
def T591 : Was (h1 1 2 c1 (l3 4 622 v4 (a14 6 3 623 [] (d7 8 3 d4))) 2) := ⟨_, by conv => rhs; reduce⟩
end Q
def cf591 : CF := Q.T591.1
set_option maxRecDepth 100000 in
theorem cf591_ok : compF TP Tryz.f591 = some cf591 := by kernel_rfl
namespace Q
set_option maxRecDepth 100000 in
def T592 : Was (s7 1 1 (a31 b6 1 (a23 .nilf)) (g0 3 (b18 (z3 624 0) 2)) 2) := ⟨_, by conv => rhs; reduce⟩
end Q
def cf592 : CF := Q.T592.1
set_option maxRecDepth 100000 in
theorem cf592_ok : compF TP Tryz.f592 = some cf592 := by kernel_rfl
namespace Q
set_option maxRecDepth 100000 in
def T594 : Was (h1 3 6 c1 (b4 9 2 (q7 .eql 10) (c8 10 (b4 11 1 (x4 a01 (e9 (m8 .u64 100))) (l6 12 13 0 (e0 (h3 (.toInt .i64) (a4 433 (a34 1 1 4 6))))) (s0 7 (p5 i8 i8 i8 i8 (p5 i8 i8 i8 i8 (p5 i8 i8 i8 i8 (p5 i8 i8 i8 i8 (p5 i8 i8 i8 i8 (p5 i8 i8 i8 i8 [])))))) (a14 18 1 434 w3 (b0 20 8 (a13 (w7 (.arr 24 1) false true) 7 b3 (j9 1 435 2 b3)) (k3 24 (a3 8 (a13 (w7 (.arr 24 1) false true) 7 b3 (a34 1 1 3 6))))))))) (b7 29 (f6 1 2 (e3 436 3 (f2 2 (e9 (t9 a7 d5))) (o5 28 32 4 (o6 0 5 1 6 (a38 0 f1))))) (k3 35 m0))) 6) := ⟨_, by conv => rhs; reduce⟩
end Q
def cf594 : CF := Q.T594.1
set_option maxRecDepth 100000 in
theorem cf594_ok : compF TP Tryz.f594 = some cf594 := by kernel_rfl
namespace Q
set_option maxRecDepth 100000 in
def T612 : Was (x5 3 4 5 (b8 1 (f0 .eql 2 (h2 (b8 2 (b1 (r6 .callv 2 (k6 4 d2))))))) 4) := ⟨_, by conv => rhs; reduce⟩
end Q
def cf612 : CF := Q.T612.1
set_option maxRecDepth 100000 in
theorem cf612_ok : compF TP Tryz.f612 = some cf612 := by kernel_rfl
namespace Q
set_option maxRecDepth 100000 in
def T613 : Was (g3 3 (b0 6 2 (e0 (r6 .callv 2 (s2 (e8 (d9 0 (e0 (a35 a29 a7 2 (f4 7 (e8 (d9 1 (e0 (j0 367 (x8 (t5 .pick 8 c9)))))))))))))) (c8 26 (d1 27 (d9 1 (e0 (n6 (m4 a1) 1 1 1 (l8 1 16 3 (w0 8 1 1 3))))))))) := ⟨_, by conv => rhs; reduce⟩
end Q
def cf613 : CF := Q.T613.1
set_option maxRecDepth 100000 in
theorem cf613_ok : compF TP Tryz.f613 = some cf613 := by kernel_rfl
namespace Q
set_option maxRecDepth 100000 in
def T615 : Was (g3 3 (a19 3 b6 0 (a32 b6 (d8 1) b6 (d8 2)) (i6 10 0 4 k4 (.b 0 (b5 16 (a0 11 3 15) 15 (a02 17 3 (a8 2 4 (b8 5 (f3 613 4 b9)))) (b5 23 (a0 11 13 22) 22 (a02 24 3 (a8 6 4 (b8 5 (f3 490 4 b9)))) (g4 30 (a0 11 15 29) 29 (c0 31 (a0 11 16 29) 29 (m9 32 11 18 29)) (g5 29 (.q (i6 33 4 4 t2 (i5 1 37 37 1 (e1 2 38 (o4 11 34 (i3 11 7 h5 11 7)) (a02 40 3 (i7 7 (b8 5 (f3 615 3 b9)))) (c3 44 36 36)))) (t1 45 3 (a8 8 4 (b8 5 (f3 616 4 b9))) (t1 50 3 (a8 6 4 (b8 5 (f3 633 4 b9))) (t1 55 3 (a8 7 4 (b8 5 (f3 633 4 b9))) (a02 60 3 (a8 9 4 (b8 5 (f3 616 4 b9)))))))) (b5 66 (a0 11 17 65) 65 (t1 67 3 (a8 6 4 (b8 5 (f3 633 4 b9))) (.q (i6 72 4 4 t2 (i5 3 76 76 3 (e1 4 77 (o4 11 73 (i3 11 9 h5 11 9)) (a02 79 3 (i7 9 (b8 5 (f3 615 3 b9)))) (c3 83 75 75)))) (a02 84 3 (a8 9 4 (b8 5 (f3 616 4 b9)))))) (.r 12 (i7 4 (a13 (z3 634 0) 3 (d8 5) (n0 153 2))))))))))))) := ⟨_, by conv => rhs; reduce⟩
end Q
def cf615 : CF := Q.T615.1
set_option maxRecDepth 100000 in
theorem cf615_ok : compF TP Tryz.f615 = some cf615 := by kernel_rfl
namespace Q
set_option maxRecDepth 100000 in
def T616 : Was (g3 3 (s5 9 d0 1 (j5 12 12 0 (e1 1 13 (o4 23 9 (i3 23 7 (y5 a7 a6 a6 (q1 a1 a1 .nils (p9 (a04 a7 a6 a1 (a58 .nils a7 []))))) 23 7)) (b0 15 2 w3 (h9 16 (j4 0 7 k4) 17 (d1 18 (x1 1 7 11 (a3 2 (e3 635 4 b9 w3)))) (b7 23 (x1 12 7 11 (j9 2 615 4 b9)) (d3 28 8 d4)))) (c3 29 11 11))))) := ⟨_, by conv => rhs; reduce⟩
end Q
def cf616 : CF := Q.T616.1
set_option maxRecDepth 100000 in
theorem cf616_ok : compF TP Tryz.f616 = some cf616 := by kernel_rfl
namespace Q
set_option maxRecDepth 100000 in
def T621 : Was (r1 1 (s0 2 h5 (l3 4 637 (t6 3 h5 11 3) (.q (p0 0 (h4 6 (z2 91 (e9 (h0 7 31370631742516833))) (f7 7 0) (.b 1 (l3 8 191 [] (.d 10 (a5 (i7 3 (g7 0 (a4 637 (d6 (v8 578 (u1 7 31370631742516833 r5) (f8 2 (q4 3))))))))))))) (g0 14 (i7 3 (q4 2)))))) 2 11) := ⟨_, by conv => rhs; reduce⟩
end Q
def cf621 : CF := Q.T621.1
set_option maxRecDepth 100000 in
theorem cf621_ok : compF TP Tryz.f621 = some cf621 := by kernel_rfl
namespace Q
set_option maxRecDepth 100000 in
def T622 : Was (h1 1 2 c1 (k3 3 (v8 638 (x2 .nils) d4)) 2) := ⟨_, by conv => rhs; reduce⟩
end Q
def cf622 : CF := Q.T622.1
set_option maxRecDepth 100000 in
theorem cf622_ok : compF TP Tryz.f622 = some cf622 := by kernel_rfl
namespace Q
set_option maxRecDepth 100000 in
def T623 : Was (g3 1 (b7 3 (c6 d4) (d1 5 (f6 2 2 (h3 (.toInt .u64) (a4 424 (f3 639 5 (t9 a6 (i1 4))))))))) := ⟨_, by conv => rhs; reduce⟩
end Q
def cf623 : CF := Q.T623.1
set_option maxRecDepth 100000 in
theorem cf623_ok : compF TP Tryz.f623 = some cf623 := by kernel_rfl
namespace Q
set_option maxRecDepth 100000 in
def T624 : Was (g3 2 (t1 4 1 (a61 (.e .rangeM)) (p0 0 (a12 6 (k2 (.e .nextM) w4 (a98 (.ext 0))) (f7 7 0) (.b 1 (e4 8 (k2 (.e .entryM) (d8 5) (a76 0 v4)) (b7 10 (a3 3 (r6 .callv 2 k0)) (c8 13 .ret)))))))) := ⟨_, by conv => rhs; reduce⟩
end Q
def cf624 : CF := Q.T624.1
set_option maxRecDepth 100000 in
theorem cf624_ok : compF TP Tryz.f624 = some cf624 := by kernel_rfl
namespace Q
set_option maxRecDepth 100000 in
def T634 : Was (s7 3 3 (p1 b6 (d8 0) e5) (t1 5 1 (i7 3 (b8 2 (f3 615 3 b9))) (l4 4 d5)) 4) := ⟨_, by conv => rhs; reduce⟩
end Q
def cf634 : CF := Q.T634.1
set_option maxRecDepth 100000 in
theorem cf634_ok : compF TP Tryz.f634 = some cf634 := by kernel_rfl
namespace Q
set_option maxRecDepth 100000 in
def T637 : Was (r1 1 (s0 2 h5 (l3 5 647 (t6 3 h5 11 3) (t8 7 (m2 (.bslice (m4 a1) 6 1 (a47 0 (u6 1 2 (o2 3 4 1 5 1)))) (u1 3 4012605 (x6 3 4009789 1 60 (x6 2 15421 1 62 (h0 2 15678)))) (z2 648 b9)) 9 (l3 10 192 (h3 (.field false 1 1) d2) (l3 13 191 [] (c4 15 (j7 4 (i7 3 (g7 0 (a4 647 (d6 (e3 578 4 r5 (f8 2 (q4 2)))))))) .ret))) (g0 20 (i7 3 (q4 2)))))) 2 11) := ⟨_, by conv => rhs; reduce⟩
end Q
def cf637 : CF := Q.T637.1
set_option maxRecDepth 100000 in
theorem cf637_ok : compF TP Tryz.f637 = some cf637 := by kernel_rfl
namespace Q
set_option maxRecDepth 100000 in
def T638 : Was (z1 2 (t7 2 b6 e6 (g1 1 (n2 d0 c1)) (.q (a27 6 1 (.b 0 (.f (.l 6) [.l 7] (.r 5 (n2 d0 (d8 7))) (.b 1 (a02 8 2 (a3 5 (n6 (m4 a1) 1 1 1 (l8 1 16 3 (f5 1 2))))))))) (g0 12 (b8 2 d2)))) 4) := ⟨_, by conv => rhs; reduce⟩
end Q
def cf638 : CF := Q.T638.1
set_option maxRecDepth 100000 in
theorem cf638_ok : compF TP Tryz.f638 = some cf638 := by kernel_rfl
namespace Q
set_option maxRecDepth 100000 in
def T639 : Was (g3 4 (q8 8 d5 (a66 9 d5 0 (.b 1 (b0 19 2 (m3 1 .sub 2 (c5 10)) (b4 22 10 (q7 .leq 12) (l6 23 24 0 (e0 (j9 2 649 3 b9))) (b4 28 3 (k7 .eql a2) (l6 29 30 0 (e0 (j9 2 650 3 b9))) (b4 34 8 k0 (c8 35 (b7 36 (e0 (j9 2 651 3 b9)) (a64 40 3 .sub 1 3))) (b7 43 (f6 1 2 (e3 652 3 b9 (o5 42 46 4 (o6 0 5 1 6 (r7 11 f1 12))))) (b4 49 12 (q7 .eql 2) (c8 50 (b7 51 (e0 (j9 2 653 3 b9)) (b0 55 2 (s9 (a3 11 (m3 1 .sub 2 (f0 .sub 4 (c5 11))))) (.r 12 (n2 d0 g6))))) (b4 61 8 (e8 (a3 9 (f4 2 (e8 (n7 12 .eql 1 (s3 3 c9)))))) (c8 68 (b7 69 (f6 1 2 (z2 654 l7)) (c8 72 .ret))) (.q (c4 73 (n5 1 .gtr 1 a2 (v2 (n7 1 .sub 1 (u7 1 3 (b1 (k8 11 1 (a5 (f9 655 5 (a9 (x8 (a9 (t5 .pick 12 c9)))))))))))) (c8 87 (b7 88 (e0 (f6 2 11 (e3 656 4 l7 (c5 13)))) (b0 93 13 (c5 1) (.x 1))))) (b7 95 (e0 (f6 2 11 (e3 657 4 l7 (o5 94 99 5 (o6 0 6 1 7 (r7 14 f1 15)))))) (b0 102 15 (c5 9) (b0 103 14 (m3 1 .sub 2 (a3 2 (m3 14 .sub 2 (r7 16 (o8 4) 17)))) (b0 109 10 (p6 .quo 8 18) (b0 111 16 (a3 17 (x4 a01 b9)) (g5 113 (b0 114 16 (m3 18 .geq 2 w3) (b7 117 (f6 1 14 (j9 3 639 4 l7)) (a39 122 14 1))) (b0 124 17 (m3 18 .geq 2 w3) (b7 127 (n7 14 .add 1 (a3 2 (j9 3 639 5 l7))) (d3 133 14 d4))))))))))))))))))))) := ⟨_, by conv => rhs; reduce⟩
end Q
def cf639 : CF := Q.T639.1
set_option maxRecDepth 100000 in
theorem cf639_ok : compF TP Tryz.f639 = some cf639 := by kernel_rfl
namespace Q
set_option maxRecDepth 100000 in
def T647 : Was (r1 1 (s0 2 h5 (l3 4 672 (t6 3 h5 11 3) (t8 6 (z7 91 2 11051 k0) 8 (g0 9 (i7 3 (q4 2))) (l3 10 191 [] (c4 12 (a5 (i7 3 (g7 0 (a4 647 (d6 (v8 578 (u1 2 11051 r5) (f8 2 (q4 2)))))))) .ret))))) 2 11) := ⟨_, by conv => rhs; reduce⟩
end Q
def cf647 : CF := Q.T647.1
set_option maxRecDepth 100000 in
theorem cf647_ok : compF TP Tryz.f647 = some cf647 := by kernel_rfl
namespace Q
set_option maxRecDepth 100000 in
def T648 : Was (v3 2 4 (n8 5 0 (g4 6 (u5 w4 (e0 (x0 3))) 9 (.x 0) (l5 1 (b7 12 (e0 (k8 5 1 (z2 91 (i1 5)))) (j1 17 4 d5)) 10 5 5)) (q0 4)) 4) := ⟨_, by conv => rhs; reduce⟩
end Q
def cf648 : CF := Q.T648.1
set_option maxRecDepth 100000 in
theorem cf648_ok : compF TP Tryz.f648 = some cf648 := by kernel_rfl
namespace Q
set_option maxRecDepth 100000 in
def T649 : Was (g3 3 (b0 8 1 (p6 .add 1 6) (p0 0 (b4 10 6 (a3 2 (x4 a01 b9)) (f7 12 0) (l5 1 (b0 15 6 r4 (p0 2 (.q (c4 16 (a3 7 (m3 1 .gtr 2 (v2 (k8 7 1 (b1 (n7 7 .sub 1 (u7 1 3 (a5 (f9 655 6 (.n :: a9 (t5 .pick 11 c9))))))))))) (f7 30 2)) (a49 3 (.d 33 (b1 (g7 7 (g7 0 (g7 7 (s9 (b1 (n7 7 .sub 1 (u7 1 3 (b1 (k8 7 1 (p8 1 14 13 (a5 (x7 1 (o8 6) (a9 (p8 1 13 11 (d6 (m5 1 3)))))))))))))))))) (a64 31 7 .sub 1 7))))) 13 6 6))))) := ⟨_, by conv => rhs; reduce⟩
end Q
def cf649 : CF := Q.T649.1
set_option maxRecDepth 100000 in
theorem cf649_ok : compF TP Tryz.f649 = some cf649 := by kernel_rfl
namespace Q
set_option maxRecDepth 100000 in
def T672 : Was (r1 1 (s0 2 h5 (l3 5 679 (t6 3 h5 11 3) (.q (p0 0 (h4 7 (m2 (.bslice (m4 a1) 8 1 (a47 0 (u6 1 2 (u6 3 4 (o2 5 6 1 7 1))))) (u1 1 43 (x6 1 45 3 7499618 (x6 4 1919907938 3 7107426 (x6 3 7500642 2 29295 (h0 3 7499640))))) (z2 648 b9)) (f7 9 0) (.b 1 (l3 10 192 (h3 (.field false 1 1) d2) (l3 13 191 [] (.d 15 (j7 4 (i7 3 (g7 0 (a4 679 (d6 (e3 578 4 r5 (f8 2 (q4 3)))))))))))))) (g0 20 (i7 3 (q4 2)))))) 2 11) := ⟨_, by conv => rhs; reduce⟩
end Q
def cf672 : CF := Q.T672.1
set_option maxRecDepth 100000 in
theorem cf672_ok : compF TP Tryz.f672 = some cf672 := by kernel_rfl
namespace Q
set_option maxRecDepth 100000 in
def T679 : Was (r1 1 (s0 2 h5 (l3 5 681 (t6 3 h5 11 3) (.q (p0 0 (h4 7 (m2 (.bslice (m4 a1) 5 1 (u6 0 1 (o2 2 3 1 4 1))) (x6 1 42 3 7760228 (x6 3 7169394 4 1684955490 (h0 3 6581857))) (z2 648 b9)) (f7 9 0) (.b 1 (l3 10 192 (h3 (.field false 1 1) d2) (l3 13 191 [] (.d 15 (j7 4 (i7 3 (g7 0 (a4 681 (d6 (e3 578 4 r5 (f8 2 (q4 3)))))))))))))) (g0 20 (i7 3 (q4 2)))))) 2 11) := ⟨_, by conv => rhs; reduce⟩
end Q
def cf679 : CF := Q.T679.1
set_option maxRecDepth 100000 in
theorem cf679_ok : compF TP Tryz.f679 = some cf679 := by kernel_rfl
namespace Q
set_option maxRecDepth 100000 in
def T681 : Was (r1 1 (s0 2 h5 (t8 6 (z7 91 1 45 (v2 (k9 320 g6 (h3 (.field false 0 1) (i0 3 (s3 5 c9)))))) 13 (b7 14 (k9 320 g6 (h3 (.field false 2 1) v4)) (b7 17 (k9 320 (c7 2) (z7 193 1 40 (a26 (k9 320 (c7 2) (z7 193 1 58 (k6 4 d2)))))) (b4 25 4 k0 (c8 26 (l3 27 191 [] (l3 29 191 [] (d7 31 3 (h3 (.toInt .i64) (h3 (.un .neg) (x3 h5 (j2 1 1 1) 1 (q4 2)))))))) (b0 35 3 (k7 .gtr (m8 .u64 9223372036854775807)) (c8 36 (d1 37 (d9 1 (h6 .add 2 (f3 190 6 (e9 (c7 101))))))))))) (t8 44 (m2 (.bslice (m4 a1) 3 1 (o2 0 1 1 2 1)) (x6 1 45 4 1953459810 (h0 3 7630702)) (z2 648 b9)) 46 (l3 47 192 (h3 (.field false 1 1) p7) (l3 50 191 [] (d7 52 5 (b1 (a4 681 (n6 h5 1 11 11 (a06 h5 (o2 0 2 1 4 1) 9 (i1 4) (q4 2)))))))) (k3 57 (a4 682 (q4 2)))))) 2 11) := ⟨_, by conv => rhs; reduce⟩
end Q
def cf681 : CF := Q.T681.1
set_option maxRecDepth 100000 in
theorem cf681_ok : compF TP Tryz.f681 = some cf681 := by kernel_rfl
namespace Q
set_option maxRecDepth 100000 in
def T682 : Was (r1 1 (s0 2 h5 (l3 8 192 (h3 (.field false 0 1) (i0 1 (v2 (k9 320 g6 (z7 193 1 40 (f4 4 v4)))))) (l3 17 683 (t6 4 h5 11 4) (.q (p0 0 (h4 19 (m2 (.bslice (m4 a1) 2 1 (j2 1 1 1)) (u1 1 40 (h0 1 58)) (z2 648 b9)) (f7 21 0) (.b 1 (t8 22 (z2 91 (e9 (h0 1 40))) 23 (l3 24 92 [] (b7 26 (z7 321 1 41 p7) (b7 28 (v1 93 1 1 41) (.q (a27 30 3 (g5 30 (.r 31 (a8 2 4 (a3 5 (a06 h5 (o2 0 2 1 4 1) 10 b9 (q4 4))))) (.r 35 (i7 4 (n6 h5 1 11 11 (a3 5 (l8 11 200 2 (x3 h5 (j2 1 4 1) 12 (q4 4))))))))) (q8 3 e5 (.x 1)))))) (l3 40 191 [] (l3 42 683 (t6 6 h5 11 6) (h4 44 (z2 91 (e9 (h0 1 40))) (g5 45 (d1 46 (a4 92 [])) (d1 48 (v1 89 1 1 40))) (b7 50 (z7 321 1 41 r4) (b7 52 (v1 93 1 1 41) (.r 54 (i7 4 (i7 6 (w1 (.bslice h5 2 11 (j2 11 11 11)) 2 (a3 7 (l8 11 200 2 (x3 h5 (j2 1 4 1) 11 (q4 4))))))))))))))))) (g0 60 (i7 4 (q4 2))))))) 2 11) := ⟨_, by conv => rhs; reduce⟩
end Q
def cf682 : CF := Q.T682.1
set_option maxRecDepth 100000 in
theorem cf682_ok : compF TP Tryz.f682 = some cf682 := by kernel_rfl
namespace Q
set_option maxRecDepth 100000 in
def T683 : Was (r1 1 (s0 2 h5 (l3 9 192 (t6 3 (w6 a1 (.int .u64 0) []) 4 3) (a49 0 (b5 12 (e2 3 (p6 .eql 3 11)) 11 (k3 15 (k9 94 (t9 a6 (c7 9223372036854775807)) (x3 h5 (j2 1 1 1) 1 (q4 2)))) (b5 19 (e2 3 (p6 .eql 1 18)) 18 (k3 22 (k9 90 n9 (x3 h5 (j2 1 2 1) 2 (q4 2)))) (b5 26 (e2 3 (p6 .eql 2 25)) 25 (l3 29 191 [] (p2 31 1 3 (a4 684 (q4 2)))) (b7 35 (z7 91 1 40 (c5 34)) (g5 34 (l3 37 92 [] (l3 39 511 (t6 4 h5 11 4) (b7 41 (v1 93 1 1 41) (g0 43 (i7 4 (q4 2)))))) (b7 45 (z7 91 1 123 (c5 44)) (g5 44 (l3 47 92 [] (b7 49 (z7 321 1 125 p7) (b7 51 (v1 93 1 1 125) (d7 53 5 (x3 h5 (j2 1 4 1) 5 (q4 2)))))) (b7 56 (z7 91 1 91 (c5 55)) (g5 55 (k3 58 (a4 685 (q4 2))) (b7 61 (z7 91 2 15420 (c5 60)) (g5 60 (k3 63 (a4 686 (q4 2))) (b7 66 (z7 91 5 474214786402 (c5 65)) (g5 65 (l3 68 92 [] (l3 70 438 m0 (b7 72 (v1 93 1 3 6581861) (d7 74 6 (x3 h5 (j2 1 8 1) 15 (q4 2)))))) (b7 77 (z7 91 4 1702060387 (c5 76)) (g5 76 (l3 79 92 [] (l3 81 511 (t6 7 h5 11 7) (b7 83 (v1 89 1 2 26223) (l3 85 687 w3 (b7 87 (v1 93 1 3 6581861) (g0 89 (i7 7 (n6 h5 1 11 11 (a3 8 (a06 h5 (o2 0 4 1 6 1) 16 b9 (q4 2))))))))))) (b7 94 (z7 91 3 7239014 (c5 93)) (g5 93 (k3 96 (a4 688 (q4 2))) (b7 99 (z7 91 7 28559167692432754 (c5 98)) (g5 98 (k3 101 (a4 689 (q4 2))) (b7 104 (z7 91 3 7959156 (c5 103)) (l6 103 106 0 (a4 690 (q4 2))))))))))))))))))))))) (b7 108 (d9 1 (f3 190 5 (e9 (c7 101)))) (g0 114 (r9 h5 [] [] (q4 2))))))) 2 11) := ⟨_, by conv => rhs; reduce⟩
end Q
def cf683 : CF := Q.T683.1
set_option maxRecDepth 100000 in
theorem cf683_ok : compF TP Tryz.f683 = some cf683 := by kernel_rfl
namespace Q
set_option maxRecDepth 100000 in
def T684 : Was (r1 1 (s0 2 h5 (t8 3 (k7 .eql (h0 1 95)) 4 (g0 5 (r9 h5 (a40 0 1) (c7 4) (q4 2))) (k3 6 (x3 h5 (j2 1 2 1) 3 (q4 2))))) 2 11) := ⟨_, by conv => rhs; reduce⟩
end Q
def cf684 : CF := Q.T684.1
set_option maxRecDepth 100000 in
theorem cf684_ok : compF TP Tryz.f684 = some cf684 := by kernel_rfl
namespace Q
set_option maxRecDepth 100000 in
def T688 : Was (r1 1 (s0 2 h5 (l3 5 92 [] (t8 7 (a4 192 (h3 (.field false 0 1) (k7 .eql g6))) 10 (b7 11 (k9 90 n9 (x3 h5 (j2 1 2 1) 14 (t6 3 h5 11 3))) (b7 14 (v1 89 1 1 58) (b7 16 (k9 90 n9 (m1 3 3 1 f1)) (b7 19 (v1 89 1 1 47) (b7 21 (k9 94 (t9 a6 (c7 16)) (m1 1 3 1 f1)) (s4 24 2 (s9 (w0 5 2 1 3)) (g0 31 (i7 3 (q4 2))))))))) (a12 32 (r9 h5 (a40 0 1) (c7 13) (t6 4 h5 11 4)) (p0 0 (h4 33 (c2 3 k0) (f7 37 0) (.b 1 (c4 38 (a5 (v5 6 4 (g7 0 (a4 194 (a9 (n6 (a42 a1 []) 1 4 4 (d6 (l8 4 88 4 (j6 (j4 6 4 (f8 2 (t0 1)))))))))))) (t8 45 (z7 91 1 59 k0) 47 (.x 0) (d1 48 (a4 191 []))))))) (b7 50 (v1 93 1 3 6581861) (g0 52 (i7 4 (q4 2)))))))) 2 11) := ⟨_, by conv => rhs; reduce⟩
end Q
def cf688 : CF := Q.T688.1
set_option maxRecDepth 100000 in
theorem cf688_ok : compF TP Tryz.f688 = some cf688 := by kernel_rfl
end
end Ev
end Go.Proofs.YtihflniehaaakaaGreatDoor
