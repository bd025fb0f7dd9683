/-
  Compiled functions in few words: what they stand for.
-/
import Derived.Test.YtihflniehaaakaaGreatDoorEvTree
import Derived.Test.YtihflniehaaakaaGreatDoorProg
import Derived.KernelRfl
namespace Go.Proofs.YtihflniehaaakaaGreatDoor
set_option linter.unusedVariables false
set_option linter.unusedSimpArgs false
namespace Ev
/-- Operands: by the distance from the operation's own number, or by their number. -/
inductive QA where
  | t (d : Nat)
  | u (k : Nat)
  | m (d : Nat)
  | l (k : Nat)
  | c (v : V)
/-- Operations: a (into the next temporary), b (into the next local), d (into a local), e (into nothing); n, g: guards; s, j: numbers; h: places of late operations. -/
inductive QI where
  | n
  | g (a : QA) (b : Bool)
  | s (k : Nat)
  | j (k : Nat)
  | h (lo hi : Nat)
  | a (o : COp) (l : List QA)
  | b (o : COp) (l : List QA)
  | d (k : Nat) (o : COp) (l : List QA)
  | e (o : COp) (l : List QA)
inductive QC where
  | skip
  | ret
  | x (k : Nat)
  | r (k : Nat) (l : List QI)
  | d (k : Nat) (l : List QI)
  | q (a b : QC)
  | c (o : Opd) (a b : QC)
  | b (k : Nat) (c : QC)
  | w (c : QC)
  | f (o : Opd) (l : List Dst) (a b : QC)
noncomputable section
def QA.on (n : Nat) (a : QA) : Opd := QA.rec (motive := fun _ => Opd) (fun d => .t (Nat.sub n d)) (fun k => .t k) (fun d => .l (Nat.sub n d)) (fun k => .l k) (fun v => .c v) a
def onL (n : Nat) (l : List QA) : List Opd := List.rec (motive := fun _ => List Opd) [] (fun a _ ih => a.on n :: ih) l
def opsQ (l : List QI) : Nat → Option (Opd × Bool) → Nat → Nat → List COper :=
  List.rec (motive := fun _ => Nat → Option (Opd × Bool) → Nat → Nat → List COper) (fun _ _ _ _ => [])
    (fun i _ ih n g lo hi => QI.rec (motive := fun _ => List COper) (ih n none lo hi) (fun a b => ih n (some (a.on n, b)) lo hi) (fun k => ih (Nat.add n k) g lo hi) (fun k => ih k g lo hi) (fun x y => ih n g x y)
      (fun o l => ⟨.t n, o, onL n l, g, lo, hi⟩ :: ih (Nat.add n 1) g 0 0) (fun o l => ⟨.l n, o, onL n l, g, lo, hi⟩ :: ih (Nat.add n 1) g 0 0) (fun k o l => ⟨.l k, o, onL n l, g, lo, hi⟩ :: ih n g 0 0) (fun o l => ⟨.no, o, onL n l, g, lo, hi⟩ :: ih n g 0 0) i) l
def QC.out (c : QC) : CCode := QC.rec (motive := fun _ => CCode) .skip .ret (fun k => .exit k) (fun k l => .reg (opsQ l k none 0 0)) (fun k l => .regD (opsQ l k none 0 0)) (fun _ _ a b => .seq a b) (fun o _ _ a b => .cond o a b) (fun k _ c => .block k c) (fun _ c => .loop c) (fun o l _ _ a b => .rangeF o l a b) c
end
/-- A compiled function, written out. -/
abbrev Was (c : CF) : Type := {x : CF // x = c}
end Ev
end Go.Proofs.YtihflniehaaakaaGreatDoor
namespace Go.Proofs.YtihflniehaaakaaGreatDoor
set_option linter.unusedVariables false
set_option linter.unusedSimpArgs false
namespace Ev
noncomputable section
def tbl : List V := [.int .u8 0, .int .u8 0, .int .u8 0, .int .u8 0, .int .u8 0, .int .u8 0, .int .u8 0, .int .u8 0, .int .u8 0, .int .u8 1, .int .u8 1, .int .u8 1, .int .u8 1, .int .u8 1, .int .u8 0, .int .u8 0, .int .u8 0, .int .u8 0, .int .u8 0, .int .u8 0, .int .u8 0, .int .u8 0, .int .u8 0, .int .u8 0, .int .u8 0, .int .u8 0, .int .u8 0, .int .u8 0, .int .u8 0, .int .u8 0, .int .u8 0, .int .u8 0, .int .u8 1, .int .u8 0, .int .u8 0, .int .u8 0, .int .u8 0, .int .u8 0, .int .u8 0, .int .u8 0, .int .u8 0, .int .u8 0, .int .u8 0, .int .u8 0, .int .u8 0, .int .u8 0, .int .u8 0, .int .u8 0, .int .u8 0, .int .u8 0, .int .u8 0, .int .u8 0, .int .u8 0, .int .u8 0, .int .u8 0, .int .u8 0, .int .u8 0, .int .u8 0, .int .u8 0, .int .u8 0, .int .u8 0, .int .u8 0, .int .u8 0, .int .u8 0, .int .u8 0, .int .u8 0, .int .u8 0, .int .u8 0, .int .u8 0, .int .u8 0, .int .u8 0, .int .u8 0, .int .u8 0, .int .u8 0, .int .u8 0, .int .u8 0, .int .u8 0, .int .u8 0, .int .u8 0, .int .u8 0, .int .u8 0, .int .u8 0, .int .u8 0, .int .u8 0, .int .u8 0, .int .u8 0, .int .u8 0, .int .u8 0, .int .u8 0, .int .u8 0, .int .u8 0, .int .u8 0, .int .u8 0, .int .u8 0, .int .u8 0, .int .u8 0, .int .u8 0, .int .u8 0, .int .u8 0, .int .u8 0, .int .u8 0, .int .u8 0, .int .u8 0, .int .u8 0, .int .u8 0, .int .u8 0, .int .u8 0, .int .u8 0, .int .u8 0, .int .u8 0, .int .u8 0, .int .u8 0, .int .u8 0, .int .u8 0, .int .u8 0, .int .u8 0, .int .u8 0, .int .u8 0, .int .u8 0, .int .u8 0, .int .u8 0, .int .u8 0, .int .u8 0, .int .u8 0, .int .u8 0, .int .u8 0, .int .u8 0, .int .u8 0, .int .u8 0, .int .u8 0, .int .u8 0, .int .u8 0, .int .u8 0, .int .u8 0, .int .u8 0, .int .u8 0, .int .u8 0, .int .u8 0, .int .u8 0, .int .u8 0, .int .u8 0, .int .u8 0, .int .u8 0, .int .u8 0, .int .u8 0, .int .u8 0, .int .u8 0, .int .u8 0, .int .u8 0, .int .u8 0, .int .u8 0, .int .u8 0, .int .u8 0, .int .u8 0, .int .u8 0, .int .u8 0, .int .u8 0, .int .u8 0, .int .u8 0, .int .u8 0, .int .u8 0, .int .u8 0, .int .u8 0, .int .u8 0, .int .u8 0, .int .u8 0, .int .u8 0, .int .u8 0, .int .u8 0, .int .u8 0, .int .u8 0, .int .u8 0, .int .u8 0, .int .u8 0, .int .u8 0, .int .u8 0, .int .u8 0, .int .u8 0, .int .u8 0, .int .u8 0, .int .u8 0, .int .u8 0, .int .u8 0, .int .u8 0, .int .u8 0, .int .u8 0, .int .u8 0, .int .u8 0, .int .u8 0, .int .u8 0, .int .u8 0, .int .u8 0, .int .u8 0, .int .u8 0, .int .u8 0, .int .u8 0, .int .u8 0, .int .u8 0, .int .u8 0, .int .u8 0, .int .u8 0, .int .u8 0, .int .u8 0, .int .u8 0, .int .u8 0, .int .u8 0, .int .u8 0, .int .u8 0, .int .u8 0, .int .u8 0, .int .u8 0, .int .u8 0, .int .u8 0, .int .u8 0, .int .u8 0, .int .u8 0, .int .u8 0, .int .u8 0, .int .u8 0, .int .u8 0, .int .u8 0, .int .u8 0, .int .u8 0, .int .u8 0, .int .u8 0, .int .u8 0, .int .u8 0, .int .u8 0, .int .u8 0, .int .u8 0, .int .u8 0, .int .u8 0, .int .u8 0, .int .u8 0, .int .u8 0, .int .u8 0, .int .u8 0, .int .u8 0, .int .u8 0, .int .u8 0, .int .u8 0, .int .u8 0, .int .u8 0, .int .u8 0, .int .u8 0, .int .u8 0, .int .u8 0, .int .u8 0, .int .u8 0, .int .u8 0, .int .u8 0, .int .u8 0, .int .u8 0, .int .u8 0, .int .u8 0, .int .u8 0]
def tbS : List V := [.int .u8 0, .int .u8 1, .int .u8 56, .int .u8 2, .int .u8 57, .int .u8 49, .int .u8 28, .int .u8 3, .int .u8 61, .int .u8 58, .int .u8 42, .int .u8 50, .int .u8 38, .int .u8 29, .int .u8 17, .int .u8 4, .int .u8 62, .int .u8 47, .int .u8 59, .int .u8 36, .int .u8 45, .int .u8 43, .int .u8 51, .int .u8 22, .int .u8 53, .int .u8 39, .int .u8 33, .int .u8 30, .int .u8 24, .int .u8 18, .int .u8 12, .int .u8 5, .int .u8 63, .int .u8 55, .int .u8 48, .int .u8 27, .int .u8 60, .int .u8 41, .int .u8 37, .int .u8 16, .int .u8 46, .int .u8 35, .int .u8 44, .int .u8 21, .int .u8 52, .int .u8 32, .int .u8 23, .int .u8 11, .int .u8 54, .int .u8 26, .int .u8 40, .int .u8 15, .int .u8 34, .int .u8 20, .int .u8 31, .int .u8 10, .int .u8 25, .int .u8 14, .int .u8 19, .int .u8 9, .int .u8 13, .int .u8 8, .int .u8 7, .int .u8 6]
/-- The program's types; strings.asciiSpace and bits.deBruijn64tab are pinned. -/
def TP : Ty := ⟨Tryz.prog.info?, Tryz.prog.underlying, fun t => !Tryz.prog.stoodInHeld t && !Tryz.prog.eqGuardType Tryz.prog.depth t, [(0, 0, 256, trOf tbl 0 .e), (1, 1, 64, trOf tbS 0 .e)]⟩
namespace Q
def k2 (a : COp) (b : List QA) (c : List QI) : List QI := .a a b :: c
def f2 (a : Nat) (b : List QA) : List QA := .t a :: b
def w5 (a : POp) (b : List QA) (c : List QI) : List QI := k2 (.p a) b c
def a59 (a : Nat) (b : List QA) : List QA := .l a :: b
def o8 (a : Nat) : List QA := f2 a []
def a13 (a : POp) (b : Nat) (c : List QA) (d : List QI) : List QI := w5 a (a59 b c) d
def t9 (a : V) (b : List QA) : List QA := .c a :: b
def b3 : List QA := o8 1
def e4 (a : Nat) (b : List QI) (c : QC) : QC := .q (.r a b) c
def b05 (a : Int) : V := .int .i64 a
def a08 (a b : V) (c : List V) : List V := a :: b :: c
def a52 (a : POp) (b : Nat) (c : List QI) : List QI := a13 a b [] c
def d0 : COp := .p .mv
def b19 (a : Bool) (b : Nat) : COp := .r (.load a b)
def z4 (a : QI) : List QI := [a]
def a6 : V := b05 0
def b20 (a : Bool) (b : Nat) (c : List QA) (d : List QI) : List QI := k2 (b19 a b) c d
def a3 (a : Nat) (b : List QI) : List QI := a52 .mv a b
def a23 (a : V) : List QA := t9 a []
def l1 (a : POp) (b : Nat) (c : List QA) (d : List QI) : List QI := w5 a (f2 b c) d
def b49 (a : Nat) (b : COp) (c : List QA) : List QI := z4 (.d a b c)
def a90 (a : Nat) (b : List QA) (c : List QI) : List QI := b20 false a b c
def n2 (a : COp) (b : List QA) : List QI := z4 (.b a b)
def h3 (a : POp) (b : List QI) : List QI := w5 a b3 b
def o7 (a b : Nat) (c : List QI) : List QI := .h a b :: c
def c7 (a : Int) : List QA := a23 (b05 a)
def a7 : V := .bool false
def p5 (a b c d : V) (f : List V) : List V := a08 a b (a08 c d f)
def g5 (a : Nat) (b c : QC) : QC := .c (.l a) b c
def b0 (a b : Nat) (c : List QI) (d : QC) : QC := e4 a (a3 b c) d
def v8 (a : Nat) (b : List QA) (c : List QI) : List QI := k2 (.call a) b c
def j4 (a b : Nat) (c : List QI) : List QI := a52 (.fa a) b c
def a38 (a : Nat) (b : List QA) : List QI := b49 a d0 b
def b10 (a : Nat) (b : List QI) : List QI := a90 a b3 b
def q9 (a : BinOp) (b : Nat) (c : List QA) (d : List QI) : List QI := l1 (.bin a) b c d
def a81 (a : EOp) (b : List QA) : QI := .e (.e a) b
def c5 (a : Nat) : List QI := a38 a b3
def g9 (a : Nat) (b : List QI) : List QI := h3 (.fa a) b
def b07 (a : Nat) (b : List QA) : QI := a81 (.store a) b
def a57 (a : Nat) (b : List QA) : List QA := .m a :: b
def a10 (a : Nat) (b : COp) (c : List QA) (d : QC) : QC := e4 a (n2 b c) d
def b53 (a b c : Nat) (d : List QI) : List QI := j4 a b (b10 c d)
def a2 : List QA := a23 a6
def e3 (a b : Nat) (c : List QA) (d : List QI) : List QI := v8 a (f2 b c) d
def b50 (a : Nat) : V := .str 0 a
def b51 (a : BinOp) (b : Nat) (c : List QA) (d : List QI) : List QI := a13 (.bin a) b c d
def a1 : V := b50 0
def b21 (a : BinOp) (b : Nat) (c : List QA) (d : Nat) : List QI := b51 a b c (c5 d)
def b5 (a : Nat) (b : List QI) (c : Nat) (d f : QC) : QC := e4 a b (g5 c d f)
def o0 (a b : Nat) (c : List QI) : List QI := g9 a (b10 b c)
def a84 (a : POp) (b : QI) (c : List QI) : List QI := h3 a (b :: c)
def b02 (a : Nat) (b : Bool) : QI := .g (.t a) b
def a46 (a : Nat) (b : List QA) : List QI := z4 (b07 a b)
def a88 (a b : Nat) (c : List (Nat × Nat)) : List (Nat × Nat) := (a, b) :: c
def a71 (a : Nat) (b : List QA) (c : List QI) : List QI := b20 true a b c
def e5 : List QA := a23 a7
def d8 (a : Nat) : List QA := a59 a []
def x4 (a : POp) (b : List QA) : List QI := n2 (.p a) b
def b55 (a : BinOp) (b : Nat) (c : Int) (d : List QI) : List QI := q9 a b (c7 c) d
def a94 : POp := .leng .sl
def v7 (a b : Nat) (c : List QA) (d : List QI) : List QI := l1 (.ixsl a) b c d
def i1 (a : Nat) : List QA := f2 a b3
def b22 (a : Nat) (b : List QI) : List QI := o7 a 1 b
def a41 (a b c : V) (d : List V) : List V := p5 a6 a b c d
def b23 (a : BinOp) (b : Nat) (c : Int) (d : Nat) : List QI := b21 a b (c7 c) d
def a82 (a : POp) (b : Nat) (c : Bool) (d : List QI) : List QI := a84 a (b02 b c) d
def a33 (a : COp) (b : List QA) (c : List QI) : List QI := .b a b :: c
def b03 : V := .bool true
def b52 (a : POp) (b c : Nat) (d : List QI) : List QI := h3 a (o0 b c d)
def d3 (a b : Nat) (c : List QI) : QC := .r a (a3 b c)
def b11 (a : Nat) : List QA := a57 a []
def q8 (a : Nat) (b : List QA) (c : QC) : QC := a10 a d0 b c
def b4 (a b : Nat) (c : List QI) (d f : QC) : QC := .q (b0 a b c d) f
def b2 (a b : Nat) (c : List QI) : List QI := a71 a (d8 b) c
def b54 (a : QI) (b : POp) (c : Nat) (d : List QA) (f : List QI) : List QI := a :: l1 b c d f
def e9 (a : List QA) : List QA := f2 1 a
def b09 (a : Nat) (b : QC) (c : CRes) (d : List CRes) : CF := ⟨a, QC.out b, c :: d⟩
def b24 (a : Nat) (b : Bool) (c : List QI) : List QI := a82 .mv a b c
def a65 (a b : Nat) (c : List QA) : List QI := a46 a (a59 b c)
def a5 (a : List QI) : List QI := b22 0 a
def e6 : List QA := b11 2
def v6 (a : POp) (b : Nat) (c : List QI) : List QI := w5 a (o8 b) c
def a32 (a : COp) (b : List QA) (c : COp) (d : List QA) : List QI := a33 a b (n2 c d)
def t3 (a b c : Nat) (d : List QA) (f : List QI) : List QI := a3 a (v7 b c d f)
def b25 (a : Nat) : CRes := .tmp (.l a)
def p0 (a : Nat) (b : QC) : QC := .b a (.w b)
def b26 (a b : Nat) (c : List QI) : List QI := b52 .nilc a b c
def o1 (a : List V) : COp := .a (.alloc a)
def a4 (a : Nat) (b : List QI) : List QI := v8 a b3 b
def a01 : POp := .bin .lss
def b56 (a : Nat) (b : QC) (c : Nat) : QC := g5 a b (.x c)
def r6 (a : COp) (b : Nat) (c : List QI) : List QI := k2 a (i1 b) c
def a0 (a : Nat) (b : Int) (c : Nat) : List QI := b23 .eql a b c
def q1 (a b c : V) (d : List V) : List V := p5 a b .nils c d
def c9 : List QA := e9 e5
def a8 (a b : Nat) (c : List QI) : List QI := b53 a b 1 c
def b28 (a : Nat) (b : COp) (c : List QA) (d : List QI) : List QI := .d a b c :: d
def b29 (a : Nat) (b : List QI) : List QI := b24 a true b
def b62 (a b : Nat) (c : List QI) : List QI := a90 a (d8 b) c
def a51 (a : Nat) (b : QC) (c : Nat) (d : List CRes) : CF := b09 a b (b25 c) d
def a49 (a : Nat) (b c : QC) : QC := .q (.b a b) c
def b69 (a b c : Nat) (d : List QI) : List QI := a3 a (b26 b c d)
def h0 (a b : Nat) : List QA := a23 (.str a b)
def w6 (a b : V) (c : List V) : List V := a41 a b a6 c
def b6 : COp := .a .box
def x2 (a : V) : List QA := t9 a b3
def c8 (a : Nat) (b : QC) : QC := g5 a b .skip
def b27 (a : QI) (b : Nat) (c : List QA) (d : List QI) : List QI := b54 a .pick b c d
def b9 : List QA := i1 2
def c6 (a : List QI) : List QI := h3 a94 a
def v9 (a b : Nat) (c : List QI) : List QI := v6 (.ext a) b c
def a75 : POp := .un .not
def b33 (a : Nat) (b : List QI) : List QI := b24 a false b
def g1 (a : Nat) (b : List QI) : List QI := .s a :: b
def y1 (a : Nat) (b : List QA) : List QI := a46 a (e9 b)
def n3 : List QA := x2 b03
def f5 (a b : Nat) : List QI := a65 a b b3
def a04 (a b c : V) (d : List V) : List V := p5 a b a6 c d
def c4 (a : Nat) (b : List QI) (c : QC) : QC := .q (.d a b) c
def h6 (a : BinOp) (b : Int) (c : List QI) : List QI := b55 a 1 b c
def d7 (a b : Nat) (c : List QI) : QC := b0 a b c .ret
def f3 (a b : Nat) (c : List QA) : List QI := e3 a b c []
def b32 (a : Nat) (b : List QA) (c : List QI) : List QI := b27 .n a b c
def e1 (a b : Nat) (c : List QI) (d f : QC) : QC := a49 a (e4 b c d) f
def a40 (a b : Nat) : List (Nat × Nat) := a88 a b []
def c1 : List QA := a23 .nils
def f1 : List QA := o8 2
def b44 (a : Nat) : List QA := h0 a 1005121056834894543422997781993098398926057731796322835955660311566788937476491719323450083467278686561480116351918469730048134798657933291705258475491400379508536976953713963191809959642329377624655489394069788099527738605251886650857491454704985706056656872495456720592866571205699034003974117329312595482756326180551085729642316886881362191084781618996367170758690190457835353956124286582748669950126718822187443457119475819211568291122106133779907693275175677822699599574395037665513438221035494517337289823233297200834280830833729672029002093334382054135588176213392044003766499729382241934117791070216700468546643036740353970117124238047036843407984644400499077628858335883255226530865115146499406969526836848025085252347421169655840720027571199483022658782744364793673286289825231648
def b30 (a : Nat) (b : List V) (c : List QA) (d : List QI) : List QI := b28 a (o1 b) c d
def g7 (a : Nat) (b : List QI) : List QI := a3 a (a5 b)
def m2 (a : AOp) (b : List QA) (c : List QI) : List QI := k2 (.a a) b c
def c0 (a : Nat) (b : List QI) (c : Nat) (d : QC) : QC := b5 a b c .skip d
def p1 (a : COp) (b c : List QA) : List QI := a32 a b d0 c
def a69 (a : Nat) (b : List QA) (c : List QI) : List QI := b07 a b :: c
def b41 (a : Nat) : List QA := h0 a 23432797193871199407333496422669012367299329756827031624297655228348896489652091995020903033051514005582240654107251283804193553897754980763464707855962905347494948165397241680072134641162834970075957098854109284145689297344697482720779276625903820634785204952066235328051174553452503356106246011490484894671724025188345757335091502307861111567946691652232448241457647053841496573471555992490563340102516511656375177173333262957809226356687276663106690246514868571292902185291786131212997716888408723455673227194122100111222777000526364432920838613382261280238070156172435011051979694305378415251427278940642021762430988511956155483968407454369334577920402672521885831115680086389877854951673720855015018618345684868760042338146632436122985681635754182370565935330268791689787050389619
def b31 (a b : V) (c : List V) : List V := q1 a .nils b c
def a70 (a : Nat) (b : COp) (c : List QA) (d f : QC) : QC := a10 a b c (.q d f)
def y5 (a b c : V) (d : List V) : List V := a :: a08 b c d
def f7 (a b : Nat) : QC := b56 a .skip b
def b59 (a : Nat) (b : BinOp) (c : Nat) (d : Int) (f : Nat) : QC := .r a (b23 b c d f)
def b58 : COp := .p a01
def p6 (a : BinOp) (b : Int) (c : Nat) : List QI := h6 a b (c5 c)
def b57 (a b c : Nat) (d : List QI) : List QI := t3 a b c b3 d
def y8 (a : BinOp) (b : List QA) : List QI := x4 (.bin a) b
def z1 (a : Nat) (b : QC) (c : Nat) : CF := a51 a b c []
def b68 (a : Nat) : COp := b19 false a
def b35 (a b c : Nat) (d : List QI) : List QI := b29 a (a8 b c d)
def a85 (a b : V) (c : List V) : List V := a41 a6 a b c
def a31 (a : COp) (b : Nat) (c : List QA) : List QI := p1 a (b11 b) c
def h1 (a b : Nat) (c : List QA) (d : QC) (f : Nat) : CF := z1 a (q8 b c d) f
def b36 : COp := .p a94
def t5 (a : POp) (b : Nat) (c : List QA) : List QI := x4 a (f2 b c)
def g8 (a : Nat) (b : List QI) : List QI := a71 a b3 b
def z6 (a : Nat) (b : List QI) : List QI := .j a :: b
def b12 (a : Nat) (b : List QI) : List QI := o7 a 2 b
def b16 (a b : Nat) (c : Option (List V)) : COp := .e (.append a b c)
def a99 (a b c d : Nat) : List (Nat × Nat) := a88 a b (a40 c d)
def a91 (a : V) (b : List V) : List V := a85 a a1 b
def w9 (a b : Nat) (c : List QA) (d : List QI) : List QI := a69 a (a59 b c) d
def b48 (a : Nat) : V := .str a 1013866857139168856493015739252390649739422828853819106890363778118420553376247557433637691341895324351018602695588957474325319502760499485336098898398377509666851054660423406800006203933793007272033180812049178612605246075062580585469430410618860250057463399279570354286669047577758927328864388992123306212451509403152394148136105363817402562688186708175358218852349079190158732807302672745370040257219644697201681238697346923541678507645485296520536209706771857694240900605172937619415410180424934769249448772944216470541052485265558808433676546390051204254346932932316488017972311616136051587427851453983453479168
def g0 (a : Nat) (b : List QI) : QC := e4 a b .ret
def d5 : List QA := a23 b03
def a50 (a b : V) (c : List V) : List V := a04 a b a6 c
def i2 (a : List QI) : List QI := b10 1 a
def b66 (a : Nat) (b : List V) (c : List QA) (d f : Nat) : List QI := b30 a b c (f5 d f)
def n5 (a : Nat) (b : BinOp) (c : Nat) (d : List QA) (f : List QI) : List QI := a3 a (q9 b c d f)
def a86 (a : POp) (b : List QA) (c : Nat) : List QI := w5 a b (c5 c)
def k7 (a : BinOp) (b : List QA) : List QI := y8 a (e9 b)
def b7 (a : Nat) (b : List QI) (c : QC) : QC := b0 a 0 b c
def h8 (a : Int) (b : List QA) : List QA := t9 (b05 a) b
def b46 (a : Nat) : List QA := h0 a 113402427610176461432293832947784893512510666039736985089845986308516977993830974357469547347216937417142484162772369790326056357419290927491939736322017104315635344925085980535582705064634880178229519211240581850548020015560001000999081050645100672996740309739726876966658428405855550252172097395636901513725235814832971941035749231194695083117865015057263602077804465893373968591162379344121311967905983243671486803619614167559166975307370012461037754909587979447430597343130601532372660324430991825653281810720
def b64 (a b : Nat) (c : Option (List V)) (d : Nat) (f : List QI) : List QI := r6 (b16 a b c) d f
def l4 (a : Nat) (b : List QA) : QC := q8 a b .ret
def a53 (a : V) (b : List V) : List V := w6 a a1 b
def b83 (a : List V) (b c d f : Nat) : AOp := .bslice a b c (a40 d f)
def t7 (a : Nat) (b : COp) (c : List QA) (d : List QI) (f : QC) : QC := e4 a (a33 b c d) f
def b1 (a : List QI) : List QI := a3 0 a
def u1 (a b : Nat) (c : List QA) : List QA := t9 (.str a b) c
def f9 (a b : Nat) (c : List QI) : List QI := e3 a b b3 c
def r9 (a : List V) (b : List (Nat × Nat)) (c : List QA) (d : List QI) : List QI := w5 (.build a b) c d
def b43 (a : Nat) : List QA := h0 a 2643788049237875746027353956421256579877879755938887535316951059759369592555717365339016263365027618501812524394041916456107630935882219539062654111784106688242807265108499006909579367619711043370541396788490473410751723451644814999429197375349848118121197291676110575868848611747558760119856467310971821053183838999261785706908127509286587510957382674167142064579141726276195335717799002842036464030059972223758517794073400569462703278420382076657222687305171158147755303688062608438613618907131909108626281
def a9 (a : List QI) : List QI := b22 1 a
def i9 (a b : Nat) (c : List QI) : List QI := a8 a b (c6 c)
def b71 (a : QI) (b : POp) (c : Nat) (d : List QA) : List QI := a :: t5 b c d
def a64 (a b : Nat) (c : BinOp) (d : Int) (f : Nat) : QC := d3 a b (p6 c d f)
def a42 (a : V) (b : List V) : List V := b31 a .nils b
def m8 (a : IntKind) (b : Int) : List QA := a23 (.int a b)
def f4 (a : Nat) (b : List QI) : List QI := b32 a c9 b
def a07 (a : List QI) : List QI := h3 .nilc a
def d2 : List QI := c5 4
def a44 (a b : Nat) (c : List QA) (d : List QI) : List QI := a13 (.ixsl a) b c d
def a74 (a : List QI) : List QI := a5 (i2 a)
def m5 (a b : Nat) : List QI := y1 a (o8 b)
def a92 (a : V) (b : List V) : List V := a08 a a6 b
def h7 (a b : Nat) (c : List QI) : List QI := b57 a b 2 c
def b60 (a : Nat) (b : List QA) (c d : QC) : QC := a70 a b58 b c d
def b73 (a b : Nat) (c : Int) (d : Nat) : QC := b59 a .add b c d
def k5 (a : Nat) (b : List QI) (c : Nat) (d : QC) : QC := b5 a b c d .skip
def b61 (a : Nat) : List QA := a57 a e6
def b17 (a b : Nat) (c : List QA) (d f : QC) : QC := p0 a (b60 b c d f)
def b65 (a b : V) (c : List V) : List V := a91 a (a53 b c)
def b63 : List QA := b61 1
def b47 (a : Nat) (b : List QA) : List QA := u1 a 9938655150514779720929161263213647789093395803754561035662628441001274968862597953692946393464194303251501229616933063375291039650253924995779037586872666250072396106842829501851083234932712366962979930255066872747696324303968523733872590022915936937156789320557469720923390131174387415513794469201054844961267015441141542819553679203788501627738430154234325528792480477051962324423099068299719245009424585859096469223093538032153047611602695245052081125123941502624659711709950000 b
def b72 (a b c : V) (d : List V) : List V := a42 a (b31 b c d)
def l0 (a : Nat) (b : List QI) : List QI := a07 (g9 a b)
def b8 (a : Nat) (b : List QI) : List QI := b62 1 a b
def d4 : List QI := c5 2
def b67 (a b : Nat) (c d : QC) : QC := b17 a b b63 c d
def g4 (a : Nat) (b : List QI) (c : Nat) (d f : QC) : QC := .q (c0 a b c d) f
def a80 (a : Nat) (b : List QA) : List QA := .u a :: b
def a54 (a b c d : V) (f : List V) : List V := a91 a (q1 b c d f)
def f0 (a : BinOp) (b : Nat) (c : List QI) : List QI := q9 a b b3 c
def l8 (a b c : Nat) (d : List QI) : List QI := b64 a b none c d
def a36 (a : V) (b : List V) : List V := w6 a a6 b
def i6 (a b c : Nat) (d : List QI) (f : QC) : QC := e4 a (j4 b c d) f
def b70 (a : V) (b : List V) : List V := b65 a1 a b
def x7 (a : Nat) (b : List QA) (c : List QI) : List QI := a69 a (e9 b) c
def a66 (a : Nat) (b : List QA) (c : Nat) (d : QC) : QC := q8 a b (p0 c d)
def j1 (a b : Nat) (c : List QA) : QC := c8 a (l4 b c)
def b82 (a : BinOp) (b c d f : Nat) : List QI := b21 a b (h0 c d) f
def b01 (a : Nat) (b : Bool) (c : Nat) : CRes := .cell (.l a) b c
def j7 (a : Nat) (b : List QI) : List QI := a5 (g7 a b)
def b78 (a : POp) (b : Nat) : List QI := x4 a (i1 b)
def t6 (a : Nat) (b : List V) (c d : Nat) : List QI := b66 a b [] c d
def u5 (a : List QA) (b : List QI) : List QI := w5 .mv a b
def j9 (a b c : Nat) (d : List QA) : List QI := a3 a (f3 b c d)
def m4 (a : V) : List V := [a]
def i5 (a b c d : Nat) (f : QC) : QC := b67 a b (f7 c d) f
def a63 : COp := b68 1
def g2 (a b : Nat) (c : List QI) : List QI := b69 a b 1 c
def h9 (a : Nat) (b : List QI) (c : Nat) (d f : QC) : QC := .q (k5 a b c d) f
def u3 (a b : V) (c : List V) : List V := y5 a6 a b c
def a56 (a : Nat) (b : List QA) (c : List QI) : List QI := u5 (a80 a b) c
def i3 (a b : Nat) (c : List V) (d f : Nat) : List QI := g8 a (t6 b c d f)
def b34 (a : List V) : List V := b70 .nils a
def b92 (a : BinOp) (b : Nat) (c : List QI) : List QI := q9 a b a2 c
def a19 (a : Nat) (b : COp) (c : Nat) (d : List QI) (f : QC) : QC := t7 a b (d8 c) d f
def c08 (a b c : Nat) (d : List QI) : List QI := b33 a (a8 b c d)
def g6 : List QA := c7 1
def b84 (a : POp) (b c : Nat) (d : List QI) : List QI := v6 a b (g9 c d)
def u4 (a : Nat) (b : List QA) (c : List QI) : List QI := b28 a d0 b c
def a73 (a : Int) : List QA := x2 (b05 a)
def a34 (a b c d : Nat) : List QI := l8 a b c (c5 d)
def b86 (a b c d : V) (f : List V) : List V := a36 a (a04 b c d f)
def b15 (a b c : V) (d : List V) : List V := a50 a b (a53 c d)
def k8 (a b : Nat) (c : List QI) : List QI := h7 a b (i2 c)
def a78 (a b : Nat) : CRes := b01 a true b
def k6 (a : Nat) (b : List QI) : List QI := b32 a n3 b
def b45 (a : Nat) : List QA := h0 a 97104164589524077652438471327109077367184534134559372612682870737934645994400098881638266412526480462108307957926987668841255814339737800130990722651986041782549518350694545861114155161125956959307963892852535389207831928687539712319427256637913967006252079117116382999450303301117394892845044307034404380528766972704
def l3 (a b : Nat) (c : List QI) (d : QC) : QC := b7 a (a4 b c) d
def l6 (a b c : Nat) (d : List QI) : QC := c8 a (d7 b c d)
def c2 (a : Nat) (b : List QI) : List QI := b26 a 1 b
def q5 (a : V) (b : List V) : List V := a50 .nils a b
def a48 (a : Nat) (b : List QI) : List QI := a5 (g9 a b)
def b85 (a b c d : V) (f : List V) : List V := b34 (a54 a b c d f)
def a68 (a : COp) (b : Nat) : List QI := a31 a b a2
def a95 (a : List V) : List V := a92 a6 a
def b42 (a : Nat) : List QA := h0 a 2309567611550875277204994674161353649923820728840937906004022259955814384767430420713629540289955323346488897252243258610309243515909333067562535498886036825999362825657067591809416156955820597497462137324242345962628091659841284438982893644934511546577333868034346565100900555615209792057877126969041213629687155
def a72 (a : Nat) (b : List QA) (c : Nat) (d f : QC) : QC := .q (a66 a b c d) f
def a60 (a : Nat) (b : List QA) (c : Nat) (d : List QI) : List QI := a56 a b (g1 c d)
def b74 (a : POp) (b : Nat) (c : List QA) : List QI := b71 .n a b c
def a45 (a : Nat) (b : QC) (c d : Nat) (f : List CRes) : CF := b09 a b (a78 c d) f
def m1 (a b c : Nat) (d : List QA) : List QI := j4 a b (y1 c d)
def l9 (a b c d : Nat) (f : List QI) : List QI := f4 a (b35 b c d f)
def b37 (a : AOp) (b : List QI) : List QI := m2 a b3 b
def a58 (a b : V) (c : List V) : List V := b72 a1 a b c
def m9 (a b : Nat) (c : Int) (d : Nat) : QC := .r a (a0 b c d)
def m6 (a b c d : Nat) (f : List QI) : List QI := h7 a b (o0 c d f)
def f6 (a b : Nat) (c : List QI) : List QI := a3 a (a3 b c)
def c3 (a b c : Nat) : QC := b73 a b 1 c
def a89 (a : BinOp) (b : List QA) (c : Nat) : List QI := a86 (.bin a) b c
def g3 (a : Nat) (b : QC) : CF := ⟨a, QC.out b, []⟩
def d9 (a : Nat) (b : List QI) : List QI := g2 0 a b
def b76 (a b c d : V) (f : List V) : List V := u3 a b (a58 c d f)
def b94 (a b c d : V) (f : List V) : List V := b15 a b c (q5 d f)
def l2 : List V := a95 []
def d6 (a : List QI) : List QI := b12 1 a
def s3 (a : Nat) (b : List QA) : List QI := b74 .pick a b
def b75 (a : Nat) : List QI := a68 b36 a
def n4 (a : Nat) (b : List QI) : List QI := z6 a (a5 b)
def b40 (a : Nat) : List QA := h0 a 3962018864413014948754648656006502432093592997329216410804218722331684167459064326731363241603392931701660348028516868103884579128723922804055349770158965106607581632881660418770906343041889274360206442574388062685891706774567976215249495650238158067786189234758106247192667745
def b00 : List QI := b75 1
def a77 : List V := b34 []
def n9 : List QA := a23 a1
def n7 (a : Nat) (b : BinOp) (c : Int) (d : List QI) : List QI := a3 a (h6 b c d)
def a93 (a b : Nat) (c : Int) (d : Nat) : QC := a64 a b .add c d
def o3 : List V := m4 a6
def b97 (a : BinOp) (b : Nat) (c : List QA) (d : Nat) : List QI := a89 a (a57 b c) d
def q2 (a b : Nat) (c : List QI) : List QI := v7 a b b3 c
def b77 (a b c : V) (d : List V) : List V := b76 a b .nils c d
def b98 (a b : Nat) (c : List QA) (d : Nat) (f : List QI) : List QI := z6 a (a60 b c d f)
def a76 (a : Nat) (b : List QI) : List QI := h3 (.ext a) b
def a55 (a : Nat) (b : List QI) : List QI := a48 a (a74 b)
def d1 (a : Nat) (b : List QI) : QC := d3 a 0 b
def a47 (a : Nat) (b : List (Nat × Nat)) : List (Nat × Nat) := a88 a 1 b
def b80 (a b : V) (c : List V) : List V := b77 a6 a b c
def a61 (a : COp) : List QI := n2 a b3
def i0 (a : Int) (b : List QI) : List QI := h6 .eql a b
def o4 (a b : Nat) (c : List QI) : List QI := a44 a b e6 c
def z0 (a : COp) (b : List QA) : List QI := p1 a b a2
def p2 (a b c : Nat) (d : List QI) : QC := g0 a (a8 b c d)
def h4 (a : Nat) (b : List QI) (c d : QC) : QC := b4 a 0 b c d
def p8 (a b c : Nat) (d : List QI) : List QI := v7 a b (o8 c) d
def m0 : List QI := c5 6
def b79 (a : Int) : V := .int .u8 a
def a62 (a : Nat) : List QA := f2 a b9
def q7 (a : BinOp) (b : Int) : List QI := k7 a (c7 b)
def a43 (a : Nat) (b : Bool) (c : Nat) (d : List QA) (f : List QI) : List QI := b27 (b02 a b) c d f
def r3 (a : Nat) (b : List QI) : List QI := g1 a (d6 b)
def r8 (a b c : Nat) (d : List QI) : List QI := a76 a (v9 b c d)
def a67 (a : Nat) : List QI := b78 a01 a
def i7 (a : Nat) (b : List QI) : List QI := b2 11 a b
def v3 (a b : Nat) (c : QC) (d : Nat) : CF := h1 a b e5 c d
def c09 (a : Nat) (b : List V) (c : List QA) (d : QC) : QC := a10 a (o1 b) c d
def s4 (a b : Nat) (c : List QI) (d : QC) : QC := b7 a (c2 b c) d
def a96 (a : Nat) (b c : List V) : V := .func (.func a) b c
def s6 (a : AOp) (b c d f : Nat) : List QI := b37 a (a34 b c d f)
def k4 : List QI := a61 a63
def i8 : V := b79 0
def h2 (a : List QI) : List QI := b33 1 a
def o2 (a b c d f : Nat) : List (Nat × Nat) := a47 a (a99 b c d f)
def b81 (a : V) (b : List V) : List V := b80 a1 a b
def l7 : List QA := a62 3
def e8 (a : List QI) : List QI := b29 1 a
def b87 (a : List V) : List V := b81 a7 a
def j3 (a b c d : Nat) : List QI := b82 .eql a b c d
def a98 (a : POp) : List QI := x4 a b3
def r7 (a : Nat) (b : List QA) (c : Nat) : List QI := u4 a b (c5 c)
def m7 (a : List V) (b c d : Nat) : AOp := b83 a b c 0 d
def y2 (a b : Nat) (c : List QI) : List QI := b84 .nilc a b c
def s7 (a b : Nat) (c : List QI) (d : QC) (f : Nat) : CF := z1 a (e4 b c d) f
def s8 (a : Nat) (b : POp) (c : Nat) (d : List QA) (f : List QI) : List QI := a3 a (l1 b c d f)
def t4 (a b c : Nat) (d : List QA) (f : List QI) : List QI := j4 a b (x7 c d f)
def b88 (a b c : V) (d : List V) : List V := b85 a6 a b c d
def b89 (a b c : V) (d : List V) : List V := b86 a a1 b c d
def w7 (a : Sk) (b c : Bool) : POp := .slc a b c false
def b13 (a : Nat) : List QA := h0 a 25341868975455589890092464546035185560292051574150539357028382719977098028874785243297541548728610093
def t8 (a : Nat) (b : List QI) (c : Nat) (d f : QC) : QC := h4 a b (c8 c d) f
def u0 (a : BinOp) (b : Nat) (c : IntKind) (d : Int) (f : List QI) : List QI := q9 a b (m8 c d) f
def y9 (a b : Nat) (c : List QI) : List QI := w9 a b f1 c
def u7 (a b : Nat) (c : List QI) : List QI := q2 a b (i2 c)
def u2 (a : Nat) (b c : List V) : List QA := a23 (a96 a b c)
def h5 : List V := b87 []
def k0 : List QI := a98 a75
def n6 (a : List V) (b c d : Nat) (f : List QI) : List QI := b37 (m7 a b c d) f
def e0 (a : List QI) : List QI := a3 1 a
def e2 (a : Nat) (b : List QI) : List QI := a8 0 a b
def t1 (a b : Nat) (c : List QI) (d : QC) : QC := e4 a (b8 b c) d
def b90 (a b : V) (c : List V) : List V := b88 a1 a b c
def b91 (a b : V) (c : List V) : List V := b89 a6 a b c
def v1 (a b c d : Nat) : List QI := f3 a b (h0 c d)
def v2 (a : List QI) : List QI := e8 (b1 a)
def u8 (a : Nat) (b : List QI) : List QI := k6 a (h2 b)
def u9 (a : Nat) (b : List QI) : List QI := g1 a (a5 b)
def b95 (a : V) (b : List V) : List V := a95 (a36 a b)
def v5 (a b : Nat) (c : List QI) : List QI := j4 a b (a74 c)
def m3 (a : Nat) (b : BinOp) (c : Nat) (d : List QI) : List QI := n5 a b c b3 d
def b96 (a : QI) (b : List QI) : List QI := a84 a75 a b
def u6 (a b : Nat) (c : List (Nat × Nat)) : List (Nat × Nat) := a47 a (a47 b c)
def f8 (a : Nat) (b : List QI) : List QI := o7 a 3 b
def w0 (a b c d : Nat) : List QI := y2 a b (m5 c d)
def w1 (a : AOp) (b : Nat) (c : List QI) : List QI := r6 (.a a) b c
def w2 (a : Nat) (b : List QI) : List QI := a07 (a55 a b)
def p7 : List QI := c5 5
def w8 (a b c d : Nat) : List QI := y9 a b (f5 c d)
def n1 (a : Nat) : List QI := s3 a n3
def a37 : AOp := .mkm false
def b93 (a b c d : V) (f : List V) : List V := b90 a b (b91 c d f)
def j8 (a : BinOp) (b : List QI) : List QI := b92 a 1 b
def b99 (a b c : V) (d : List V) : List V := b93 a6 a b c d
def c00 (a b c : V) (d : List V) : List V := b94 a1 a b c d
def e7 (a : List QI) : List QI := b12 0 a
def v0 (a b c d : V) (f : List V) : List V := b95 a (a41 b c d f)
def x8 (a : List QI) : List QI := b96 .n a
def n0 (a b : Nat) : List QI := f3 a b b3
def x0 (a : Nat) : List QI := c6 (a67 a)
def x1 (a b c : Nat) (d : List QI) : List QI := j4 a b (g8 c d)
def p4 (a : BinOp) (b : List QI) : List QI := h6 a 1 b
def r4 : List QI := c5 7
def r5 : List QA := i1 3
def x3 (a : List V) (b : List (Nat × Nat)) (c : Int) (d : List QI) : List QI := r9 a b (a73 c) d
def n8 (a b : Nat) (c d : QC) : QC := a72 a a2 b c d
def b04 (a : ROp) (b : Nat) (c : List QI) : List QI := r6 (.r a) b c
def a79 (a : BinOp) (b : List QA) (c : List QI) : List QI := w5 (.bin a) b c
def y6 : POp := .leng .str
def y4 (a b c : Nat) (d : List QI) : List QI := l0 a (o0 b c d)
def x9 (a : Nat) (b : List CRes) : List CRes := b25 a :: b
def y7 (a b : Nat) (c : List QA) (d : List QI) : QC := g0 a (v8 b c d)
def a30 (a : Nat) (b : List QA) (c : Nat) : List QI := b97 .eql a b c
def x6 (a b c d : Nat) (f : List QA) : List QA := u1 a b (u1 c d f)
def o5 (a b c : Nat) (d : List QI) : List QI := b98 a b [] c d
def b18 (a : POp) (b : Nat) : List QI := a86 a e6 b
def z2 (a : Nat) (b : List QA) : List QI := n2 (.call a) b
def b14 (a b : V) (c : List V) : List V := b99 a1 a b c
def c01 (a b : V) (c : List V) : List V := c00 a6 a b c
def k3 (a : Nat) (b : List QI) : QC := d7 a 0 b
def k9 (a : Nat) (b : List QA) (c : List QI) : List QI := e3 a 1 b c
def s1 : List QA := o8 3
def a39 (a b c : Nat) : QC := a93 a b 1 c
def y3 (a b c : Nat) (d : List QI) : List QI := h7 a b (g8 c d)
def z3 (a b : Nat) : POp := .mkf (.func a) b
def z5 (a : Kk) (b : List QA) : QI := a81 (.mapup a) b
def a97 (a : COp) (b : List QA) : List QI := a33 a b b00
def c02 (a : Nat) : List QI := b18 .mv a
def o6 (a b c d : Nat) (f : List QI) : List QI := v9 a b (v9 c d f)
def a83 (a : Kk) (b : Bool) (c : V) (d : Nat) (f : List QI) : List QI := b04 (.lookup a b c) d f
def z8 (a : List V) (b : List (Nat × Nat)) (c : Nat) (d : List QA) (f : List QI) : List QI := l1 (.build a b) c d f
def a25 (a b : Nat) (c : List QA) (d : List QI) : List QI := a43 a false b c d
def c03 (a : V) : List V := a :: a77
def b08 (a : COp) : List QI := z0 a b3
def a02 (a b : Nat) (c : List QI) : QC := .r a (b8 b c)
def a00 (a b : Nat) (c : List QI) (d : QC) : QC := c4 a (d9 b c) d
def a03 : Kk := .one .i
def c04 (a b c d : V) (f : List V) : List V := b14 a b (c01 c d f)
def l5 (a : Nat) (b : QC) (c d f : Nat) : QC := a49 a b (a39 c d f)
def o9 (a b c : Nat) (d f : QC) : QC := e1 a b (c02 c) d f
def p3 : List V := c03 a6
def q3 : List QI := b08 b36
def c05 (a b c : V) (d : List V) : List V := c04 a1 a b c d
def x5 (a b c : Nat) (d : List QI) (f : Nat) : CF := v3 a b (k3 c d) f
def z7 (a b c : Nat) (d : List QI) : List QI := k9 a (h0 b c) d
def z9 (a : POp) (b : Nat) (c : List QA) (d : List QI) : List QI := x8 (l1 a b c d)
def v4 : List QI := c5 3
def a87 (a : COp) : List QI := a97 a b3
def i4 (a b : Nat) (c : List QI) : List QI := b35 1 a b c
def t2 : List QI := a87 a63
def c06 (a b : V) (c : List V) : List V := c05 .nils a b c
def c07 (a : V) (b : List V) : List V := c06 a1 a b
def b06 (a : List V) : List V := c07 a1 a
def y0 (a : List V) : List V := b06 (b06 a)
def j0 (a : Nat) (b : List QI) : List QI := f9 a 2 b
def q0 (a : Nat) : QC := l4 a e5
def p9 (a : List V) : List V := a42 .nils a
def a12 (a : Nat) (b : List QI) (c d : QC) : QC := e4 a b (.q c d)
def a06 (a : List V) (b : List (Nat × Nat)) (c : Int) (d : List QA) (f : List QI) : List QI := r9 a b (h8 c d) f
def a11 (a : BinOp) (b : Nat) (c : List QI) : List QI := c6 (f0 a b c)
def a09 (a : Nat) (b : List QA) (c : Nat) (d : List QA) : List QI := u4 a b (a38 c d)
def j2 (a b c : Nat) : List (Nat × Nat) := a99 0 a b c
def b39 (a : Nat) : List QA := h0 a 8589192828942331764468431294171543675010055710790342615749373153779836637486663266001528320225184223642784131882270676790935198381458287917
def a35 (a : Kk) (b : V) (c : Nat) (d : List QI) : List QI := a83 a false b c d
def q6 (a : List V) : List V := a92 a1 a
def w3 : List QI := c5 8
def w4 : List QA := b11 1
def a14 (a b c : Nat) (d : List QI) (f : QC) : QC := b0 a b (a4 c d) f
def a20 (a b : Nat) (c : List QI) : List QI := o4 a b (i2 c)
def a17 (a : Nat) (b : List QI) : List QI := a9 (g9 a b)
def a21 (a : Nat) (b : Int) (c : Nat) : List QI := a30 a (c7 b) c
def a15 (a b c : Nat) (d : List QI) : QC := g0 a (b2 b c d)
def a18 (a b c : Nat) : List QI := i9 a b (a67 c)
def r1 (a : Nat) (b : QC) (c d : Nat) : CF := a45 a b c d []
def r2 (a : List QI) : List QI := j8 .eql a
def r0 (a : Nat) (b : List V) (c : List QI) : List QI := b30 a b [] c
def q4 (a : Nat) : List QI := f5 11 a
def s5 (a : Nat) (b : COp) (c : Nat) (d : QC) : QC := a19 a b c b00 d
def s2 (a : List QI) : List QI := h3 a75 a
def a27 (a b : Nat) (c : QC) : QC := q8 a (d8 b) c
def a26 (a : List QI) : List QI := h2 (b1 a)
def a29 : Kk := .one .s
def a05 (a b : Nat) (c : List QA) (d : Nat) (f : List QA) : List QI := w9 a b c (a38 d f)
def j6 (a : List QI) : List QI := b12 2 a
def j5 (a b c : Nat) (d : QC) : QC := i5 0 a b c d
def b38 (a : Nat) : List QA := h0 a 33719727065773402093848224845702094618960776948403217890610979004261234662170273069964648968343434413577874465571086537375372593113034029
def a16 (a : Nat) (b : List QA) (c d : QC) : QC := q8 a b (.q c d)
def k1 (a b : Nat) (c : List QI) : List QI := c08 1 a b c
def s0 (a : Nat) (b : List V) (c : QC) : QC := c09 a b [] c
def a24 (a : Nat) (b : Int) : QC := l4 a (c7 b)
def a28 (a : BinOp) (b : Int) (c : List QI) : List QI := a79 a (a73 b) c
def a22 (a b c : Nat) (d : List QI) (f : QC) : QC := e4 a (a8 b c d) f
def t0 (a : Nat) : List QI := y1 a f1
def s9 (a : List QI) : List QI := p4 .sub a
end Q
end
end Ev
end Go.Proofs.YtihflniehaaakaaGreatDoor
