/-
  The states of the machine between two rounds: a function that calls itself, so many calls pending.
-/
import Derived.Test.YtogbcielgfidlaaGreatDoorMcDrop
import Derived.Test.YtogbcielgfidlaaGreatDoorMcP3
namespace Go.Proofs.YtogbcielgfidlaaGreatDoor
set_option linter.unusedVariables false
set_option linter.unusedSimpArgs false
set_option linter.unusedSectionVars false
namespace Ev
noncomputable section
def prL : List (Nat × Prim) := [(7, pickP), (211, roomP), (31, clearP), (117, limP), (30, nilP), (155, orRun 155 tagP), (227, orRun 227 tagP), (294, orRun 294 validP), (150, orRun 150 smallOfP), (151, orRun 151 atomP), (152, orRun 152 pointP), (228, orRun 228 headP), (269, orRun 269 smallP), (311, orRun 311 nanP), (307, orRun 307 nanP), (277, compareP), (229, containsP), (5, treeP [([], .v (.bool true))])]
def call0 : CallT := callS prL 300
def in0 (n : Nat) : V := .int .i64 (Int.ofNat n)
def selfL : List V := [.int .i64 6, .int .i64 1, .int .i64 1, .str 1 97, .str 0 0, .int .i64 0, .sl 19 0 0 0 true 9, .str 0 0, .int .i64 0]
def opsL : List V := .nilf :: ([63, 64, 65, 66, 67, 67, 67, 68, 69, 69, 69, 70, 71, 71, 72, 73, 73, 74, 74, 75, 75, 76, 76, 77, 78, 79, 80, 81, 82, 83, 84, 84, 84, 85, 86, 87, 88, 89, 90, 91].map fun k => V.func (.func k) [] [])
def stopF : List V := [.int .i64 5, .str 0 0, .int .i64 0, .int .i64 0, .int .i64 0, .str 0 0, .str 0 0, .int .i64 0, .nils, .str 0 0, .int .i64 0, .str 0 0, .str 1 109, .str 1 102, .sl 18 0 1 0 false 9, .int .i64 0]
def stop0 (k : Nat) : List V := [in0 k, .str 0 0, .int .i64 0, .int .i64 0, .int .i64 0, .str 0 0, .str 0 0, .int .i64 0, .nils, .str 0 0, .int .i64 0, .str 0 0, .str 0 0, .str 0 0, .nils, .int .i64 0]
def stopD : List V := [.int .i64 1, .str 0 0, .int .i64 1, .int .i64 0, .int .i64 0, .str 0 0, .str 0 0, .int .i64 0, .nils, .str 0 0, .int .i64 0, .str 0 0, .str 0 0, .str 0 0, .nils, .int .i64 0]
/-- The machine: x0, the stack, the function now, what is pending, the arguments, the budget, what it does next, its stop. -/
def mach (x0 stk : V) (pc base slots : Nat) (fr has : Bool) (pnd args bud : V) (dov : Nat) (stop : List V) : List V :=
  selfL ++ (.ptr 20 0 :: .ptr 4 0 :: .ptr 5 0 :: .map 21 :: (opsL ++ (x0 :: (repL [w11] 255 ++ (stk :: .ptr 8 0 :: in0 pc :: in0 base :: in0 slots :: .bool fr :: .bool has :: pnd :: .nils :: args :: w11 :: w11 :: .int .i64 0 :: .int .i64 0 :: .bool false :: .bool false :: bud :: .bool true :: .bool false :: in0 dov :: (stop ++ [.bool true]))))))
def codeL : List V := [.ptr 22 0, .str 1 109, .int .i64 1, .sl 9 0 2 0 false 9, .sl 10 0 1 0 false 4, .nils, .sl 11 0 6 0 false 10]
def litsL : List V := [.int .i64 1, .int .i64 0, .int .i64 0, .str 0 0, .str 0 0, .int .i64 0, .sl 23 0 0 0 true 9, .str 0 0, .int .i64 0, .int .i64 1, .int .i64 1, .int .i64 0, .str 0 0, .str 0 0, .int .i64 0, .sl 24 0 0 0 true 9, .str 0 0, .int .i64 0]
def funcsL : List V := [.str 1 102, .int .i64 1, .bool true, .int .i64 0]
def instrL : List V := [.int .i64 12, .int .i64 0, .int .i64 0, .sl 12 0 1 0 false 2, .int .i64 1, .int .i64 0, .int .i64 0, .str 0 0, .sl 13 0 1 0 false 2, .nils, .int .i64 24, .int .i64 0, .int .i64 0, .nils, .int .i64 0, .int .i64 1, .int .i64 0, .str 0 0, .nils, .nils, .int .i64 14, .int .i64 1, .int .i64 0, .sl 14 0 2 0 false 2, .int .i64 0, .int .i64 0, .int .i64 1, .str 1 45, .nils, .nils, .int .i64 16, .int .i64 0, .int .i64 0, .nils, .int .i64 0, .int .i64 0, .int .i64 0, .str 0 0, .nils, .nils, .int .i64 25, .int .i64 0, .int .i64 0, .nils, .int .i64 0, .int .i64 0, .int .i64 0, .str 0 0, .nils, .nils, .int .i64 26, .int .i64 0, .int .i64 0, .nils, .int .i64 0, .int .i64 0, .int .i64 0, .str 0 0, .nils, .nils]
def a1L : List V := [.int .i64 1, .int .i64 0]
def a2L : List V := [.int .i64 0, .int .i64 5]
def a3L : List V := [.int .i64 1, .int .i64 0, .int .i64 3, .int .i64 1]
def tabL0 : List V := [.map 25, .nils]
def storeL : List V := [.map 26, .map 27, .int .i64 0, .int .i64 0]
def kpL : List V := [.ptr 4 0, fs, ul, ub, uk, uk, uk]
def hpL : List V := [ue, ue, ue, ue, .int .i64 0, fs, .ptr 6 0, .ptr 7 0]
def pendL (d : Nat) : List V := Nat.rec (motive := fun _ => Nat → List V) (fun _ => []) (fun _ ih i => .ptr 8 0 :: .int .i64 4 :: in0 i :: .int .i64 1 :: .bool true :: ih (Nat.succ i)) d 0
/-- What is the same in all states. -/
def fixL : List (Nat × LB) := [(4, .c hpL false), (5, .c kpL false), (6, .c tabL0 false), (7, .c storeL false), (8, .c codeL false), (9, .c litsL false), (10, .c funcsL false), (11, .c instrL false), (12, .c a1L false), (13, .c a2L false), (14, .c a3L false)]
def ng (d : Nat) : Int := Int.neg (Int.ofNat d)
def stkV (d : Nat) : V := Bool.rec (motive := fun _ => V) (.sl 15 0 d 0 false 1) .nils (Nat.beq d 0)
def pndV (d : Nat) : V := Bool.rec (motive := fun _ => V) (.sl 16 0 d 0 false 5) .nils (Nat.beq d 0)
def x0V (d : Nat) (x : V) : V := Bool.rec (motive := fun _ => V) x w11 (Nat.beq d 0)
def stackL (d : Nat) (l : List (Nat × LB)) : List (Nat × LB) := Bool.rec (motive := fun _ => List (Nat × LB)) ((15, .c (repL [w11] d) false) :: (16, .c (pendL d) false) :: l) l (Nat.beq d 0)
/-- A function is to be entered, d calls pending; its argument, the budget. -/
def entL (d : Nat) (arg bud : V) (tl : List (Nat × LB)) : List (Nat × LB) := (2, .c (mach (x0V d arg) (stkV d) 0 d 0 false true (pndV d) (.sl 17 0 1 0 false 1) bud 2 stopF) false) :: (17, .c [arg] false) :: stackL d (fixL ++ tl)
def stopB : List (Nat × LB) := [(3, .c (stop0 0) false)]
/-- Still going down: the number is at least n, the budget at least k. -/
def LD (d n k : Nat) : List (Nat × LB) := entL d (wd 0 (Int.ofNat n) (ng d)) (sy 1 (Int.ofNat k) (ng d)) stopB
/-- The budget is spent. -/
def LS (d : Nat) : List (Nat × LB) := entL d (wd 0 (Int.ofNat d) (ng d)) (.int .i64 0) stopB
/-- The number is reached. -/
def LT (d : Nat) : List (Nat × LB) := entL d (.int .u64 3) (sy 1 (Int.ofNat (Nat.succ d)) (ng d)) stopB
/-- On the way up. -/
def LU (d : Nat) : List (Nat × LB) := (2, .c (mach (.int .u64 3) (.sl 15 0 (Nat.succ d) 0 false 1) 4 d 1 true true (.sl 16 0 d 0 false 5) .nils uk 1 stopF) false) :: (15, .c (repL [w11] (Nat.succ d)) false) :: (16, .c (pendL d) false) :: (fixL ++ stopB)
def LA : List (Nat × LB) := entL 0 (wd 0 0 0) (sy 1 0 0) []
def flA : AL := [(10, sy 0 0 0), (11, sy 1 0 0), (12, .ptr 2 0)]
def flR : AL := [(0, .ptr 2 0), (2, .ptr 3 0)]
def q0 : Kn := ⟨[], []⟩
def idP (l : List Nat) (tl : List (Nat × Nat)) : List (Nat × Nat) := List.rec (motive := fun _ => List (Nat × Nat)) tl (fun k _ ih => (k, k) :: ih) l
def lowI : List Nat := [0, 1, 2, 4, 5, 6, 7, 8, 9, 10, 11, 12, 13, 14, 18, 19, 20, 21, 22, 23, 24, 25, 26, 27]
def psA : List (Nat × Nat) := [(0, 0), (1, 1), (2, 273), (4, 265), (5, 267), (6, 232), (7, 235), (8, 374), (9, 357), (10, 365), (11, 367), (12, 369), (13, 371), (14, 373), (17, 332), (18, 339), (19, 270), (20, 230), (21, 271), (22, 227), (23, 360), (24, 363), (25, 231), (26, 233), (27, 234)]
def ps0 : List (Nat × Nat) := (3, 28) :: (17, 17) :: idP lowI []
def psI : List (Nat × Nat) := (3, 3) :: (15, 15) :: (16, 16) :: (17, 17) :: idP lowI []
def psU : List (Nat × Nat) := (3, 3) :: (15, 15) :: (16, 16) :: idP lowI []
def psD (d : Nat) : List (Nat × Nat) := Bool.rec (motive := fun _ => List (Nat × Nat)) ((3, 3) :: (15, 81) :: (16, 223) :: (17, 221) :: idP lowI []) ((3, 3) :: (15, 80) :: (16, 222) :: (17, 220) :: idP lowI []) (Nat.beq d 0)
def keepS : List Nat := [2]
/-- The body of the loop of Run, and what is behind it. -/
def loopC : CCode := match lft (rest 3 cf15.code) with
  | .block _ (.loop c) => c
  | c => c
def rest15 : CCode := rgt (rest 3 cf15.code)
def args0 : List V := [.func (.yield 10) [] [], .func (.yield 11) [] [], .agg [fs, ul, ub]]
def headB : Bool := leftR [] q0 psA LA 28 flA (pre call0 1000000 7 cf3.code ⟨numbered args0 0, []⟩ H0)
def startO : Option (F × H) := pre call0 1000000 3 cf15.code ⟨numbered [.ptr 2 0] 0, []⟩ (litH LA 28)
/-- A function has just been asked for, d calls pending. -/
def LD0 (d : Nat) : List (Nat × LB) := LD d d d
def startB : Bool := leftR keepS q0 ps0 (LD0 0) 28 flR startO
def rounds (J : Nat) (L : List (Nat × LB)) : Option (F × H) := iterX call0 1000000 loopC J ⟨flR, []⟩ (litH L 28)
def downB (d : Nat) : Bool := leftR keepS q0 (psD d) (LD0 (Nat.succ d)) 28 flR (rounds 4 (LD d (Nat.succ d) (Nat.succ d)))
def turnB (d : Nat) : Bool := leftR keepS q0 psU (LU (Nat.pred d)) 28 flR (rounds 2 (LT d))
def upB (d : Nat) : Bool := leftR keepS q0 psU (LU (Nat.pred d)) 28 flR (rounds 2 (LU d))
/-- From some number on, so many. -/
def allN (p : Nat → Bool) (k : Nat) : Nat → Bool := Nat.rec (motive := fun _ => Nat → Bool) (fun _ => true) (fun _ ih i => tt2 (p i) (ih (Nat.succ i))) k
end
end Ev
end Go.Proofs.YtogbcielgfidlaaGreatDoor
namespace Go.Proofs.YtogbcielgfidlaaGreatDoor
set_option linter.unusedVariables false
set_option linter.unusedSimpArgs false
set_option linter.unusedSectionVars false
namespace Ev
noncomputable section
def keepP : List (Nat × Nat) := [(2, 2)]
/-- The region that calls Run. -/
def opR : List COper := match lft (rest 7 cf3.code) with
  | .reg l => l
  | _ => []
def opR0 : List COper := [⟨.t 91, .p .mv, [.l 12], none, 0, 0⟩]
def opR2 : List COper := List.drop 2 opR
def fr1 : F := ⟨flA, [(91, .ptr 2 0)]⟩
def rest8 : CCode := rest 8 cf3.code
def retO (rs : List CRes) (r : X × F × H) : Option (V × H) := X.rec (motive := fun _ => Option (V × H)) none (fun _ => none) (ob (resOf r.2.1 r.2.2 rs) fun l => some (oneOrTup l, r.2.2)) r.1
/-- The loop's end: Run's result and the memory behind it. -/
def loopE (L : List (Nat × LB)) : Option (X × F × H) := loopN (exec call0 false 1000000 loopC) 12 ⟨flR, []⟩ (litH L 28)
def endK (r : X × F × H) : Option (V × H) := X.rec (motive := fun _ => Option (V × H)) none (fun i => oif (Nat.beq i 0) (ob (exec call0 false 1000000 rest15 r.2.1 r.2.2) (retO cf15.results))) (retO cf15.results r) r.1
def endO (L : List (Nat × LB)) : Option (V × H) := ob (loopE L) endK
def tailO (v : V) (hE : H) (fl : AL) : Option (V × H) := ob (runOps call0 opR2 (Dst.put ⟨fl, []⟩ v (.t 92)) hE) fun r => ob (exec call0 false 1000000 rest8 (clr r.1) r.2) (retO cf3.results)
def isT (v : V) : Bool := match v with
  | .bool b => b
  | _ => false
def endB (L : List (Nat × LB)) (q : Kn) (fl : AL) : Bool := tt2 (frOkR q keepP fl fr1) (Option.rec (motive := fun _ => Bool) false (fun r => Option.rec (motive := fun _ => Bool) false (fun s => isT s.1) (tailO r.1 r.2 fl)) (endO L))
def qS (d : Nat) : Kn := ⟨[(0, Int.ofNat d)], [(1, Int.ofNat d)]⟩
def qT (d : Nat) : Kn := ⟨[(1, Int.ofNat (Nat.succ d))], [(0, Int.ofNat d)]⟩
def qL : Kn := ⟨[(0, 401), (1, 401)], []⟩
def flS (d : Nat) : AL := [(10, sy 0 (Int.ofNat d) 0), (11, in0 d), (12, .ptr 2 0)]
def flT (d : Nat) : AL := [(10, in0 d), (11, sy 1 (Int.ofNat (Nat.succ d)) 0), (12, .ptr 2 0)]
def flL : AL := [(10, sy 0 401 0), (11, sy 1 401 0), (12, .ptr 2 0)]
def spentB (d : Nat) : Bool := endB (LS d) (qS d) (flS d)
def doneB0 : Bool := endB (LT 0) (qT 0) (flT 0)
def doneB (d : Nat) : Bool := endB (LU 0) (qT d) (flT d)
def limE : Bool := endB (LD 400 401 401) qL flL
end
end Ev
end Go.Proofs.YtogbcielgfidlaaGreatDoor
