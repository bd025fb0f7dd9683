/-
  Compiled functions in few words: what they stand for.
-/
import Derived.Test.YtogbcielgfidlaaGreatDoorEvTree
import Derived.Test.YtogbcielgfidlaaGreatDoorProg
import Derived.KernelRfl
namespace Go.Proofs.YtogbcielgfidlaaGreatDoor
set_option linter.unusedVariables false
set_option linter.unusedSimpArgs false
namespace Ev
/-- Operands: by the distance from the operation's own number, or by their number. -/
inductive QA where
  | t (d : Nat)
  | u (k : Nat)
  | m (d : Nat)
  | l (k : Nat)
  | c (v : V)
/-- Operations: a (into the next temporary), b (into the next local), d (into a local), e (into nothing); n, g: guards; s, j: numbers; h: places of late operations. -/
inductive QI where
  | n
  | g (a : QA) (b : Bool)
  | s (k : Nat)
  | j (k : Nat)
  | h (lo hi : Nat)
  | a (o : COp) (l : List QA)
  | b (o : COp) (l : List QA)
  | d (k : Nat) (o : COp) (l : List QA)
  | e (o : COp) (l : List QA)
inductive QC where
  | skip
  | ret
  | x (k : Nat)
  | r (k : Nat) (l : List QI)
  | d (k : Nat) (l : List QI)
  | q (a b : QC)
  | c (o : Opd) (a b : QC)
  | b (k : Nat) (c : QC)
  | w (c : QC)
  | f (o : Opd) (l : List Dst) (a b : QC)
noncomputable section
def QA.on (n : Nat) (a : QA) : Opd := QA.rec (motive := fun _ => Opd) (fun d => .t (Nat.sub n d)) (fun k => .t k) (fun d => .l (Nat.sub n d)) (fun k => .l k) (fun v => .c v) a
def onL (n : Nat) (l : List QA) : List Opd := List.rec (motive := fun _ => List Opd) [] (fun a _ ih => a.on n :: ih) l
def opsQ (l : List QI) : Nat → Option (Opd × Bool) → Nat → Nat → List COper :=
  List.rec (motive := fun _ => Nat → Option (Opd × Bool) → Nat → Nat → List COper) (fun _ _ _ _ => [])
    (fun i _ ih n g lo hi => QI.rec (motive := fun _ => List COper) (ih n none lo hi) (fun a b => ih n (some (a.on n, b)) lo hi) (fun k => ih (Nat.add n k) g lo hi) (fun k => ih k g lo hi) (fun x y => ih n g x y)
      (fun o l => ⟨.t n, o, onL n l, g, lo, hi⟩ :: ih (Nat.add n 1) g 0 0) (fun o l => ⟨.l n, o, onL n l, g, lo, hi⟩ :: ih (Nat.add n 1) g 0 0) (fun k o l => ⟨.l k, o, onL n l, g, lo, hi⟩ :: ih n g 0 0) (fun o l => ⟨.no, o, onL n l, g, lo, hi⟩ :: ih n g 0 0) i) l
def QC.out (c : QC) : CCode := QC.rec (motive := fun _ => CCode) .skip .ret (fun k => .exit k) (fun k l => .reg (opsQ l k none 0 0)) (fun k l => .regD (opsQ l k none 0 0)) (fun _ _ a b => .seq a b) (fun o _ _ a b => .cond o a b) (fun k _ c => .block k c) (fun _ c => .loop c) (fun o l _ _ a b => .rangeF o l a b) c
end
/-- A compiled function, written out. -/
abbrev Was (c : CF) : Type := {x : CF // x = c}
end Ev
end Go.Proofs.YtogbcielgfidlaaGreatDoor
namespace Go.Proofs.YtogbcielgfidlaaGreatDoor
set_option linter.unusedVariables false
set_option linter.unusedSimpArgs false
namespace Ev
noncomputable section
def tbl : List V := [.int .i64 0, .int .i64 0, .int .i64 0, .int .i64 3, .int .i64 1, .int .i64 1, .int .i64 131, .int .i64 0, .int .i64 255, .int .i64 131, .int .i64 2, .int .i64 2, .int .i64 135, .int .i64 0, .int .i64 200, .int .i64 7, .int .i64 1, .int .i64 1, .int .i64 3, .int .i64 1, .int .i64 1, .int .i64 3, .int .i64 1, .int .i64 1, .int .i64 64, .int .i64 0, .int .i64 0, .int .i64 70, .int .i64 1, .int .i64 1, .int .i64 66, .int .i64 1, .int .i64 1, .int .i64 66, .int .i64 2, .int .i64 2, .int .i64 82, .int .i64 1, .int .i64 1, .int .i64 203, .int .i64 0, .int .i64 255, .int .i64 139, .int .i64 0, .int .i64 3, .int .i64 12, .int .i64 0, .int .i64 0, .int .i64 4, .int .i64 0, .int .i64 0, .int .i64 4, .int .i64 0, .int .i64 0, .int .i64 6, .int .i64 2, .int .i64 2, .int .i64 6, .int .i64 2, .int .i64 2, .int .i64 6, .int .i64 1, .int .i64 1, .int .i64 6, .int .i64 1, .int .i64 1, .int .i64 2, .int .i64 2, .int .i64 3, .int .i64 2, .int .i64 2, .int .i64 3, .int .i64 4, .int .i64 0, .int .i64 0, .int .i64 0, .int .i64 0, .int .i64 0, .int .i64 0, .int .i64 0, .int .i64 0, .int .i64 2, .int .i64 2, .int .i64 2, .int .i64 64, .int .i64 0, .int .i64 0, .int .i64 0, .int .i64 0, .int .i64 0, .int .i64 66, .int .i64 1, .int .i64 1, .int .i64 199, .int .i64 1, .int .i64 1, .int .i64 199, .int .i64 1, .int .i64 1, .int .i64 197, .int .i64 0, .int .i64 0, .int .i64 64, .int .i64 0, .int .i64 0, .int .i64 161, .int .i64 0, .int .i64 0, .int .i64 2, .int .i64 0, .int .i64 1, .int .i64 64, .int .i64 0, .int .i64 0, .int .i64 0, .int .i64 0, .int .i64 0, .int .i64 64, .int .i64 0, .int .i64 0, .int .i64 64, .int .i64 0, .int .i64 0]
def tbS : List V := [.int .u8 0, .int .u8 0, .int .u8 0, .int .u8 0, .int .u8 0, .int .u8 0, .int .u8 0, .int .u8 0, .int .u8 0, .int .u8 1, .int .u8 1, .int .u8 1, .int .u8 1, .int .u8 1, .int .u8 0, .int .u8 0, .int .u8 0, .int .u8 0, .int .u8 0, .int .u8 0, .int .u8 0, .int .u8 0, .int .u8 0, .int .u8 0, .int .u8 0, .int .u8 0, .int .u8 0, .int .u8 0, .int .u8 0, .int .u8 0, .int .u8 0, .int .u8 0, .int .u8 1, .int .u8 0, .int .u8 0, .int .u8 0, .int .u8 0, .int .u8 0, .int .u8 0, .int .u8 0, .int .u8 0, .int .u8 0, .int .u8 0, .int .u8 0, .int .u8 0, .int .u8 0, .int .u8 0, .int .u8 0, .int .u8 0, .int .u8 0, .int .u8 0, .int .u8 0, .int .u8 0, .int .u8 0, .int .u8 0, .int .u8 0, .int .u8 0, .int .u8 0, .int .u8 0, .int .u8 0, .int .u8 0, .int .u8 0, .int .u8 0, .int .u8 0, .int .u8 0, .int .u8 0, .int .u8 0, .int .u8 0, .int .u8 0, .int .u8 0, .int .u8 0, .int .u8 0, .int .u8 0, .int .u8 0, .int .u8 0, .int .u8 0, .int .u8 0, .int .u8 0, .int .u8 0, .int .u8 0, .int .u8 0, .int .u8 0, .int .u8 0, .int .u8 0, .int .u8 0, .int .u8 0, .int .u8 0, .int .u8 0, .int .u8 0, .int .u8 0, .int .u8 0, .int .u8 0, .int .u8 0, .int .u8 0, .int .u8 0, .int .u8 0, .int .u8 0, .int .u8 0, .int .u8 0, .int .u8 0, .int .u8 0, .int .u8 0, .int .u8 0, .int .u8 0, .int .u8 0, .int .u8 0, .int .u8 0, .int .u8 0, .int .u8 0, .int .u8 0, .int .u8 0, .int .u8 0, .int .u8 0, .int .u8 0, .int .u8 0, .int .u8 0, .int .u8 0, .int .u8 0, .int .u8 0, .int .u8 0, .int .u8 0, .int .u8 0, .int .u8 0, .int .u8 0, .int .u8 0, .int .u8 0, .int .u8 0, .int .u8 0, .int .u8 0, .int .u8 0, .int .u8 0, .int .u8 0, .int .u8 0, .int .u8 0, .int .u8 0, .int .u8 0, .int .u8 0, .int .u8 0, .int .u8 0, .int .u8 0, .int .u8 0, .int .u8 0, .int .u8 0, .int .u8 0, .int .u8 0, .int .u8 0, .int .u8 0, .int .u8 0, .int .u8 0, .int .u8 0, .int .u8 0, .int .u8 0, .int .u8 0, .int .u8 0, .int .u8 0, .int .u8 0, .int .u8 0, .int .u8 0, .int .u8 0, .int .u8 0, .int .u8 0, .int .u8 0, .int .u8 0, .int .u8 0, .int .u8 0, .int .u8 0, .int .u8 0, .int .u8 0, .int .u8 0, .int .u8 0, .int .u8 0, .int .u8 0, .int .u8 0, .int .u8 0, .int .u8 0, .int .u8 0, .int .u8 0, .int .u8 0, .int .u8 0, .int .u8 0, .int .u8 0, .int .u8 0, .int .u8 0, .int .u8 0, .int .u8 0, .int .u8 0, .int .u8 0, .int .u8 0, .int .u8 0, .int .u8 0, .int .u8 0, .int .u8 0, .int .u8 0, .int .u8 0, .int .u8 0, .int .u8 0, .int .u8 0, .int .u8 0, .int .u8 0, .int .u8 0, .int .u8 0, .int .u8 0, .int .u8 0, .int .u8 0, .int .u8 0, .int .u8 0, .int .u8 0, .int .u8 0, .int .u8 0, .int .u8 0, .int .u8 0, .int .u8 0, .int .u8 0, .int .u8 0, .int .u8 0, .int .u8 0, .int .u8 0, .int .u8 0, .int .u8 0, .int .u8 0, .int .u8 0, .int .u8 0, .int .u8 0, .int .u8 0, .int .u8 0, .int .u8 0, .int .u8 0, .int .u8 0, .int .u8 0, .int .u8 0, .int .u8 0, .int .u8 0, .int .u8 0, .int .u8 0, .int .u8 0, .int .u8 0, .int .u8 0, .int .u8 0, .int .u8 0, .int .u8 0, .int .u8 0, .int .u8 0, .int .u8 0, .int .u8 0, .int .u8 0, .int .u8 0, .int .u8 0, .int .u8 0, .int .u8 0, .int .u8 0, .int .u8 0, .int .u8 0, .int .u8 0, .int .u8 0, .int .u8 0, .int .u8 0]
/-- The program's types; code.rows and strings.asciiSpace are pinned. -/
def TP : Ty := ⟨Tryz.prog.info?, Tryz.prog.underlying, fun t => !Tryz.prog.stoodInHeld t && !Tryz.prog.eqGuardType Tryz.prog.depth t, [(0, 0, 123, trOf tbl 0 .e), (1, 1, 256, trOf tbS 0 .e)]⟩
namespace Q
def a53 (a : COp) (b : List QA) (c : List QI) : List QI := .a a b :: c
def b1 (a : Nat) (b : List QA) : List QA := .t a :: b
def c6 (a : POp) (b : List QA) (c : List QI) : List QI := a53 (.p a) b c
def m7 (a : Nat) : List QA := b1 a []
def a37 (a : Nat) (b : List QA) : List QA := .l a :: b
def f9 (a : POp) (b : List QA) (c : QI) (d : List QI) : List QI := c6 a b (c :: d)
def a2 : List QA := m7 1
def v7 (a : V) (b : List QA) : List QA := .c a :: b
def c4 (a : Nat) (b : List QI) (c : QC) : QC := .q (.r a b) c
def a76 (a : POp) (b : Nat) (c : List QA) (d : List QI) : List QI := c6 a (a37 b c) d
def h8 : COp := .p .mv
def s2 (a : IntKind) (b : Int) (c : List V) : List V := .int a b :: c
def t8 (a : IntKind) (b : Int) (c : List QA) : List QA := v7 (.int a b) c
def a77 (a : POp) (b : Nat) (c : List QI) : List QI := a76 a b [] c
def a34 (a : COp) (b : List QA) (c : List QI) : List QI := .b a b :: c
def a94 (a : Bool) (b : Nat) : COp := .r (.load a b)
def a95 (a : Bool) (b : Nat) (c : List QA) (d : List QI) : List QI := a53 (a94 a b) c d
def a1 (a : Nat) (b : List QI) : List QI := a77 .mv a b
def p6 (a : Int) (b : List QA) : List QA := t8 .i64 a b
def a78 (a : POp) (b : Nat) (c : List QA) (d : QI) (f : List QI) : List QI := f9 a (a37 b c) d f
def e7 (a : POp) (b : List QI) : List QI := c6 a a2 b
def a49 (a : Nat) (b : List QA) : QI := .d a h8 b
def f2 (a : Nat) (b c : QC) : QC := .c (.l a) b c
def a45 (a : Nat) (b : COp) (c : List QA) (d : List QI) (f : QC) : QC := c4 a (a34 b c d) f
def a85 (a : Nat) (b : List QA) (c : List QI) : List QI := a95 false a b c
def d4 (a : Int) : List QA := p6 a []
def b15 (a : Int) (b : List V) : List V := s2 .i64 a b
def d3 (a : Nat) (b : List QA) (c : List QI) : List QI := a53 (.call a) b c
def c0 (a b : Nat) (c : List QI) (d : QC) : QC := c4 a (a1 b c) d
def a60 (a : Nat) : QI := a49 a a2
def i0 (a b : Nat) (c : List V) : List V := .str a b :: c
def h6 : V := .bool false
def c3 (a b : Nat) (c : List QI) : List QI := .h a b :: c
def t0 (a : Nat) (b : List QI) : List QI := e7 (.fa a) b
def b16 (a : Nat) (b : List QI) : List QI := a85 a a2 b
def b18 (a : Nat) (b : Int) : List QA := b1 a (d4 b)
def p7 (a b : Nat) (c : List (Nat × Nat)) : List (Nat × Nat) := (a, b) :: c
def o1 (a : List V) : List V := b15 0 a
def t9 (a : V) : List QA := v7 a []
def a65 (a : EOp) (b : List QA) : QI := .e (.e a) b
def b3 : POp := .bin .eql
def a62 (a : Nat) (b : List QA) : List QA := .m a :: b
def a40 (a : POp) (b : Nat) (c : List QA) (d : Nat) (f : List QI) : List QI := a78 a b c (a60 d) f
def d2 (a : Nat) (b : List QI) (c : Nat) (d f : QC) : QC := c4 a b (f2 c d f)
def a96 (a : POp) (b : Nat) (c : List QI) : List QI := e7 a (t0 b c)
def g0 (a : Nat) : List QA := b1 a a2
def q1 (a : Nat) (b : List QA) : QI := a65 (.store a) b
def u0 (a b : Nat) (c : List V) : List V := i0 a b (o1 c)
def w4 (a : Nat) (b : COp) (c : List QA) (d : QC) : QC := a45 a b c [] d
def a17 (a : Nat) (b : List QI) : List QI := a60 a :: b
def e9 (a : List QI) : List QI := b16 1 a
def w7 (a : Nat) (b : Bool) : QI := .g (.t a) b
def a9 : List QA := t9 h6
def b05 : V := .bool true
def b17 (a : Opd) (b : List CRes) : List CRes := .tmp a :: b
def b20 (a : POp) (b : Nat) (c : Int) (d : Nat) (f : List QI) : List QI := a40 a b (d4 c) d f
def x8 (a : POp) (b : QI) (c : List QI) : List QI := f9 a a2 b c
def a97 (a : POp) (b : Nat) (c : List QI) : List QI := a96 a b (e9 c)
def a07 (a : Nat) (b : List CRes) : List CRes := b17 (.l a) b
def n8 (a : Nat) (b : List QA) (c : QC) : QC := w4 a h8 b c
def a0 : List QA := g0 2
def z0 (a : Int) (b : List V) : List V := s2 .u64 a b
def a75 (a : POp) (b : Nat) (c : QI) (d : List QI) : List QI := a78 a b [] c d
def a08 (a : List V) : List V := o1 (o1 a)
def a98 (a : POp) (b : Nat) (c : Bool) (d : List QI) : List QI := x8 a (w7 b c) d
def a68 (a : POp) (b : List QA) (c : Nat) (d : List QI) : List QI := f9 a b (a60 c) d
def b19 (a : Nat) (b : POp) (c : Nat) (d : List QI) : List QI := a1 a (a97 b c d)
def m8 (a : COp) (b : List QA) : List QI := a34 a b []
def b00 (a : Nat) (b : QC) (c : Nat) (d : List CRes) : CF := ⟨a, QC.out b, a07 c d⟩
def b11 (a : Nat) : V := .str a 23432797193871199407333496422669012367299329756827031624297655228348896489652091995020903033051514005582240654107251283804193553897754980763464707855962905347494948165397241680072134641162834970075957098854109284145689297344697482720779276625903820634785204952066235328051174553452503356106246011490484894671724025188345757335091502307861111567946691652232448241457647053841496573471555992490563340102516511656375177173333262957809226356687276663106690246514868571292902185291786131212997716888408723455673227194122100111222777000526364432920838613382261280238070156172435011051979694305378415251427278940642021762430988511956155483968407454369334577920402672521885831115680086389877854951673720855015018618345684868760042338146632436122985681635754182370565935330268791689787050389619
def z6 (a b : Nat) (c : List QI) : List QI := a77 (.fa a) b c
def a73 (a : Nat) (b : List QA) (c : List QI) : List QI := a95 true a b c
def b6 : List QA := d4 0
def k2 (a : Nat) (b : List QA) (c : QI) (d : List QI) : List QI := d3 a b (c :: d)
def a11 (a b : V) (c : List V) : List V := a :: b :: c
def a47 (a : Nat) (b : V) (c : List QA) : List QA := b1 a (v7 b c)
def a79 (a b : Int) (c : List V) : List V := z0 a (z0 b c)
def b9 (a : Int) : List QA := b18 1 a
def w3 (a b : Nat) (c : List QA) : QI := q1 a (a37 b c)
def a02 (a : List V) : List V := o1 (a08 a)
def a99 (a : Nat) : List QA := a62 a []
def c5 (a b : Nat) (c : List QI) (d f : QC) : QC := .q (c0 a b c d) f
def d1 (a b : Nat) (c : List QI) : List QI := z6 a b (e9 c)
def j9 (a : Nat) (b : QI) (c : List QI) : List QI := x8 (.fa a) b c
def b4 (a : Nat) : List QI := a17 a []
def a83 (a : POp) (b : Nat) (c : List QI) : List QI := a98 a b false c
def k3 (a : List QA) : List QA := b1 1 a
def b14 (a : Nat) : V := .str a 1013866857139168856493015739252390649739422828853819106890363778118420553376247557433637691341895324351018602695588957474325319502760499485336098898398377509666851054660423406800006203933793007272033180812049178612605246075062580585469430410618860250057463399279570354286669047577758927328864388992123306212451509403152394148136105363817402562688186708175358218852349079190158732807302672745370040257219644697201681238697346923541678507645485296520536209706771857694240900605172937619415410180424934769249448772944216470541052485265558808433676546390051204254346932932316488017972311616136051587427851453983453479168
def a06 (a : POp) (b : Nat) (c : List QI) : List QI := c6 a (m7 b) c
def d5 (a : Nat) (b : QI) (c : List QI) : List QI := a75 .mv a b c
def o7 : POp := .leng .sl
def a21 (a b : Nat) (c : V) (d : List V) : List V := u0 a b (c :: d)
def c2 : List QA := a99 2
def l1 (a : Nat) : List QA := a37 a []
def x2 (a : BinOp) : COp := .p (.bin a)
def i3 (a b : Nat) (c : List QI) : List QI := b19 a .nilc b c
def a48 (a b c d : Nat) (f : List (Nat × Nat)) : List (Nat × Nat) := p7 a b (p7 c d f)
def d7 : POp := .un .not
def b02 (a : Nat) (b : List QA) : List QA := .u a :: b
def x3 (a : POp) (b : Int) (c : QI) (d : List QI) : List QI := f9 a (b9 b) c d
def b26 (a b : Nat) (c : List V) : List V := a02 (i0 a b c)
def w5 (a : List V) : COp := .a (.alloc a)
def b01 (a : POp) (b : Nat) (c : Int) (d : Nat) : List QI := b20 a b c d []
def k1 (a : BinOp) (b : List QA) (c : List QI) : List QI := c6 (.bin a) b c
def q2 (a : Nat) (b : List QA) : QI := q1 a (k3 b)
def b13 (a : Nat) : V := .str a 2643788049237875746027353956421256579877879755938887535316951059759369592555717365339016263365027618501812524394041916456107630935882219539062654111784106688242807265108499006909579367619711043370541396788490473410751723451644814999429197375349848118121197291676110575868848611747558760119856467310971821053183838999261785706908127509286587510957382674167142064579141726276195335717799002842036464030059972223758517794073400569462703278420382076657222687305171158147755303688062608438613618907131909108626281
def r4 (a : POp) (b : List QA) : List QI := m8 (.p a) b
def w6 (a : POp) (b : Nat) (c : QI) (d : List QI) : List QI := f9 a (m7 b) c d
def k0 (a b c : Nat) (d : List QI) (f : QC) : QC := c0 a b (a1 c d) f
def a23 (a b : Nat) (c : List QA) (d : List QI) : List QI := w3 a b c :: d
def f8 (a : Nat) (b : List QA) : QC := n8 a b .ret
def b07 (a : Nat) (b : List QI) : List QI := c3 a 1 b
def d8 (a : Nat) (b : List QI) (c : QC) : QC := .q (.d a b) c
def b22 (a : Nat) (b c : List V) : V := .func (.func a) b c
def m6 (a : Nat) (b : QC) (c : Nat) : CF := b00 a b c []
def g4 (a : AOp) (b : List QA) (c : List QI) : List QI := a53 (.a a) b c
def d6 (a : Nat) (b : QC) : QC := f2 a b .skip
def b21 (a : POp) (b : Nat) (c : List QI) : List QI := a98 a b true c
def b04 (a : Nat) (b : V) : List QA := a47 a b a2
def a6 : List QA := g0 3
def a33 (a : Nat) (b : COp) (c : List QA) (d : List QI) : List QI := d5 a (.b b c) d
def t5 (a b : Nat) (c : QI) (d : List QI) : List QI := a75 (.fa a) b c d
def i8 (a b : Nat) (c : List QI) : List QI := a73 a (l1 b) c
def h3 (a b : Nat) (c : List QA) (d : QC) (f : Nat) : CF := m6 a (n8 b c d) f
def g9 (a : POp) (b : List QA) (c : Nat) : List QI := a68 a b c []
def a63 (a : Nat) (b : List QA) : List QA := b1 a (k3 b)
def z2 (a : List QA) : List QI := m8 h8 a
def t6 (a b : Nat) : QI := q2 a (m7 b)
def a3 (a : Nat) (b : Int) (c : Nat) : List QI := b01 b3 a b c
def v4 (a : Nat) (b c : QC) : QC := .q (.b a b) c
def a58 : POp := .bin .add
def b03 (a : Nat) : QI := .h a 1
def b2 (a : Nat) (b : List QI) : QC := c4 a b .ret
def a7 (a : Nat) (b : List QI) : List QI := d3 a a2 b
def a22 (a b : Nat) (c : QI) (d : List QI) : List QI := w6 (.ext a) b c d
def b0 : List QA := b9 0
def z9 (a : POp) (b : Nat) (c : List QA) (d : QI) (f : List QI) : List QI := f9 a (b02 b c) d f
def a5 : QI := b03 0
def t7 : List QI := z2 b6
def j8 (a : Nat) (b : List QA) (c : List QI) : List QI := c6 (.ixsl a) b c
def x0 : COp := x2 .lss
def b06 (a : Nat) (b : List QI) : List QI := a83 .mv a b
def z1 (a : Nat) : List QA := b04 a b05
def r6 (a b : Nat) : List QA := t9 (.str a b)
def b37 (a b c d : Int) (f : List V) : List V := a79 a b (a79 c d f)
def b24 (a : Nat) (b : QC) (c : Nat) : QC := f2 a b (.x c)
def x4 (a b : Nat) (c : List V) : List V := a21 a b .nils c
def v8 (a b : Nat) : QI := a49 a (m7 b)
def a27 (a : Nat) (b : QC) : QC := .b a (.w b)
def a29 (a : Nat) (b : QC) (c : Nat) (d : List QI) : QC := v4 a b (.r c d)
def f1 : List QA := b9 1
def a88 (a : V) (b : List V) : List V := a11 a .nilf b
def n2 : COp := .a .box
def a24 (a b : Nat) (c : List QI) : List QI := a06 (.ext a) b c
def d0 (a b : Nat) (c : List QA) : QC := d6 a (f8 b c)
def a43 (a b : Nat) : List V := u0 a b []
def c1 (a : Nat) (b : List QI) (c : Nat) (d : QC) : QC := d2 a b c .skip d
def a4 (a : List QI) : List QI := a1 0 a
def z7 (a : Nat) (b : List V) (c : List QA) : QI := .d a (w5 b) c
def b27 (a : POp) (b : Nat) (c : List QA) (d : Nat) (f : List QI) : List QI := z9 a b c (.s d) f
def a28 (a : BinOp) (b : Int) (c : QI) (d : List QI) : List QI := x3 (.bin a) b c d
def m4 (a b : Nat) (c : List QI) : QC := c0 a b c .ret
def a84 (a : Nat) (b : COp) (c : List QA) (d f : QC) : QC := w4 a b c (.q d f)
def o9 (a : Nat) : List QA := a63 a a9
def a32 (a b c d : Nat) : List V := x4 a b (a43 c d)
def p5 (a : List V) (b : List (Nat × Nat)) (c : List QA) (d : List QI) : List QI := c6 (.build a b) c d
def b12 (a : Nat) : List QA := r6 a 2309567611550875277204994674161353649923820728840937906004022259955814384767430420713629540289955323346488897252243258610309243515909333067562535498886036825999362825657067591809416156955820597497462137324242345962628091659841284438982893644934511546577333868034346565100900555615209792057877126969041213629687155
def c7 : List QA := t9 .nils
def a67 (a : List V) : List V := a88 .nilf a
def f3 (a : Nat) (b : List QI) (c : Nat) (d : QC) : QC := d2 a b c d .skip
def u7 (a : POp) (b : List QA) (c : Nat) (d : List QI) : List QI := c6 a b (b06 c d)
def b08 (a : Nat) (b : List QI) : List QI := b21 .mv a b
def d9 (a : Nat) (b : List QA) (c : Nat) : List QI := d3 a b (b4 c)
def b23 (a : Nat) (b : List V) : V := b22 a [] b
def l4 (a : Nat) (b : List QA) (c : Nat) (d : List QI) : List QI := k2 a b (.j c) d
def j2 (a : Nat) (b : List QI) : List QI := a97 .nilc a b
def b8 (a : List QI) : List QI := b07 0 a
def e2 (a : Nat) (b : List QI) (c : Nat) (d f : QC) : QC := .q (f3 a b c d) f
def b35 (a : POp) (b c : Nat) (d : QI) (f : List QI) : List QI := a06 a b (j9 c d f)
def a46 : COp := .p o7
def g8 (a : Nat) (b : List QI) : List QI := a73 a a2 b
def y2 (a : POp) (b : Nat) (c : List QA) (d : Nat) : List QI := a40 a b c d []
def n4 : List QA := t9 .nilp
def c9 : QI := b03 1
def a20 (a b c d : Nat) : List (Nat × Nat) := a48 a b c d []
def b10 (a : List V) : List V := a67 (a67 a)
def b25 (a : Nat) : COp := a94 false a
def a52 (a : Nat) (b : List V) (c : List QA) (d : List QI) : List QI := z7 a b c :: d
def b36 (a : IntKind) (b : Int) (c : List QA) : List QA := k3 (t8 a b c)
def y3 (a : Nat) (b : COp) (c d : List QA) (f : QC) : QC := a45 a b c (z2 d) f
def a86 (a : Nat) : V := b23 a []
def a66 (a b : Nat) (c : List QI) : List QI := a23 a b a2 c
def p8 : List QA := a99 1
def v0 (a : Nat) (b : List QA) (c : Nat) (d : List QI) : List QI := k2 a b (.s c) d
def f6 (a : Nat) (b : COp) (c : List QA) : List QI := a33 a b c []
def b38 (a : POp) (b c : Nat) (d : List QI) : List QI := u7 a (z1 b) c d
def a18 (a : Nat) (b : List QI) : List QI := t0 a (e9 b)
def y7 (a b : Nat) : QC := b24 a .skip b
def h2 : List QA := t9 b05
def y5 (a : Nat) (b : List QA) : QI := .b (b25 a) b
def a25 (a b : Nat) (c : List QI) : List QI := t6 a b :: c
def a93 (a : Nat) (b : POp) (c : Nat) (d : List QA) (f : Nat) : QC := b2 a (y2 b c d f)
def e1 : List QA := g0 5
def b43 (a b : Nat) (c : List V) (d : List QA) (f : List QI) : List QI := g8 a (a52 b c d f)
def h4 (a b : Nat) (c : List QA) (d : List QI) : List QI := d3 a (b1 b c) d
def a15 (a b : Nat) (c : List QA) (d : List QI) : List QI := a1 a (j8 b c d)
def a71 (a : Nat) (b : List V) : List V := b26 0 a b
def e8 : List QA := d4 1
def a64 (a : EOp) (b : List QA) (c : List QI) : List QI := a53 (.e a) b c
def b29 (a b c d f : Nat) : List V := a71 a (a32 b c d f)
def e6 : List V := a08 []
def a74 (a : Nat) (b : List QA) : List QA := v7 (a86 a) b
def g6 (a b : Nat) : List QI := a66 a b []
def n5 (a : Nat) (b : List QI) : List QI := .s a :: b
def b44 (a : POp) (b : Nat) : List QI := r4 a (z1 b)
def a8 (a : List QI) : List QI := b07 1 a
def b7 (a : Nat) (b : List QI) : List QI := i3 0 a b
def b60 (a b : Nat) (c : List QI) : List QI := a85 a (l1 b) c
def x1 (a : POp) (b : List QA) (c : Nat) (d : List QI) : List QI := c6 a b (b08 c d)
def a61 (a b : Nat) (c : List QA) (d : List QI) : List QI := a76 (.ixsl a) b c d
def b28 (a : Nat) (b : List QA) (c : Nat) (d : List QI) : List QI := b27 .mv a b c d
def a09 (a : V) (b : List V) : List V := a11 .nils a b
def j3 (a : POp) (b : List QA) (c : List QI) : List QI := f9 a b .n c
def s7 (a : Nat) (b : List QI) : List QI := .j a :: b
def a04 (a : Nat) : List QA := t9 (a86 a)
def a44 (a b : Nat) (c : List QI) : List QI := b28 a [] b c
def j4 : List V := o1 []
def a26 : Kk := .one .s
def a39 (a b : Nat) : List (Nat × Nat) := p7 a b []
def j6 (a b : Nat) (c : QI) (d : List QI) : List QI := t5 a b c (e9 d)
def e5 (a : Nat) (b : List QI) : List QI := c3 a 2 b
def b32 (a : Opd) (b : Bool) (c : Nat) (d : List CRes) : List CRes := .cell a b c :: d
def b49 (a b : Nat) (c : Option (List V)) (d : List QA) (f : List QI) : List QI := a64 (.append a b c) d f
def a80 (a : Nat) (b : QI) (c : POp) (d : QI) (f : List QI) : List QI := d5 a b (x8 c d f)
def b30 (a : Nat) (b : List QA) (c d : QC) : QC := a84 a x0 b c d
def b48 (a : Nat) (b : Int) (c : Nat) : List QI := b01 a58 a b c
def r2 (a : Nat) (b : List QI) : List QI := a96 .nilc a b
def b31 (a : Nat) : List QA := a62 a c2
def a30 (a : COp) (b : List QA) : List QI := a34 a b t7
def k7 (a : BinOp) (b : List QA) (c : Nat) : List QI := g9 (.bin a) b c
def a50 (a : POp) (b : Nat) (c : QI) (d : List QI) : List QI := e7 a (j9 b c d)
def a16 (a : ROp) (b : List QA) (c : List QI) : List QI := a53 (.r a) b c
def b34 (a b c d : Nat) : List V := b29 0 a b c d
def l2 (a : Nat) (b : List QI) (c d : QC) : QC := .q (c4 a b c) d
def a41 (a : Kk) (b : List QA) : QI := a65 (.mapup a) b
def l5 (a b c : Nat) (d : List QI) (f : QC) : QC := c0 a b (j2 c d) f
def b5 (a : List QI) : List QI := a1 1 a
def m0 (a : Nat) (b : POp) (c : List QA) : List QI := f6 a (.p b) c
def a89 (a b : Nat) (c : List QA) (d f : QC) : QC := a27 a (b30 b c d f)
def b54 (a b c d : Nat) (f : List QI) : List QI := a44 a b (a24 c d f)
def b33 : List QA := b31 1
def a81 (a : Nat) (b : List QA) (c : List QI) : List QI := a49 a b :: c
def b40 (a : Nat) (b : Bool) (c : Nat) (d : List CRes) : List CRes := b32 (.l a) b c d
def b39 (a b : Nat) (c d : QC) : QC := a89 a b b33 c d
def k4 (a : List V) (b c d f : Nat) : AOp := .bslice a b c (a39 d f)
def b41 (a b c : Nat) : List V := b34 0 a b c
def q6 (a b : Nat) (c : QI) (d : List QI) : List QI := b35 .nilc a b c d
def b52 (a : POp) (b c : Nat) : List QI := g9 a (o9 b) c
def l3 (a b : Nat) (c : List QI) : List QI := r2 a (a18 b c)
def l7 (a : Nat) (b : QI) (c : List QI) : List QI := j9 a b (e9 c)
def f0 (a : List QI) : List QI := e7 o7 a
def l8 (a : List V) (b : List (Nat × Nat)) (c : List QA) (d : QI) (f : List QI) : List QI := f9 (.build a b) c d f
def l0 (a : BinOp) (b : Int) (c : List QI) : List QI := a28 a b .n c
def a35 (a : Sk) (b c : Bool) : POp := .slc a b c false
def n1 (a b c d : Nat) (f : List QI) : List QI := a22 a b (v8 c d) f
def n9 (a : Nat) (b : List QI) (c : Nat) (d f : QC) : QC := .q (c1 a b c d) f
def a92 (a : POp) (b : Nat) (c : List QI) : List QI := x8 a (a60 b) c
def f7 (a : AOp) (b : List QI) : List QI := g4 a a2 b
def r0 (a : List V) : List V := a09 .nils a
def a87 (a : Nat) : QI := .h a 2
def p2 (a : IntKind) (b : Int) : List QA := b36 a b []
def o5 : COp := x2 .neq
def a31 (a : Nat) (b : List QA) (c : Nat) (d : List QI) : List QI := b8 (v0 a b c d)
def o4 (a : List V) (b : List (Nat × Nat)) (c : Int) (d : List QA) (f : List QI) : List QI := p5 a b (p6 c d) f
def a51 (a : List QA) : List QI := a30 a46 a
def g3 (a : Nat) (b : List QI) : List QI := d3 a a0 b
def b42 (a b c : Int) (d : List V) : List V := b37 0 a b c d
def u3 (a b : Nat) (c : List QI) : List QI := b38 .pick a b c
def b56 (a : POp) (b c : Nat) (d : List QA) (f : List QI) : List QI := a50 a b (y5 c d) f
def e0 (a b c d : Nat) (f : QC) : QC := b39 a b (y7 c d) f
def i6 : List QI := a51 p8
def a59 (a b : Nat) (c : List CRes) : List CRes := b40 a true b c
def b45 (a b : Nat) : List V := b41 0 a b
def b55 (a : POp) (b : Nat) (c : List QA) (d : Nat) : List QI := g9 a (a62 b c) d
def a57 (a b c d : Nat) (f : List QI) : List QI := q6 a b (t6 c d) f
def p0 (a b : Nat) (c : List QA) (d : List QI) : List QI := a15 a b c (e9 d)
def b09 (a b : Int) (c : List V) : List V := b42 0 a b c
def p1 (a : Nat) (b : List QI) : QC := .r a (a4 b)
def a55 (a b c : Nat) : List (Nat × Nat) := a20 a 1 b c
def a70 (a : Nat) : List QA := r6 a 36027715032999405127646542195
def a38 (a b : Nat) (c : QC) : QC := n8 a (l1 b) c
def a91 (a b c : Nat) : List QA := b04 a (.str b c)
def p4 : Kk := .one .p
def a54 (a b : Nat) (c : List V) (d : List QI) : List QI := b43 a b c [] d
def b47 (a b : Nat) (c : List QA) (d : Nat) : QC := a93 a .mv b c d
def r3 (a : Nat) : List QI := b44 .pick a
def h9 (a b : Nat) (c : QC) (d : Nat) : CF := h3 a b b6 c d
def j7 (a b : Nat) (c : List V) (d f : Nat) : List QI := a54 a b c (g6 d f)
def j5 (a b c d : Int) (f : List V) : List V := b09 a b (b09 c d f)
def b46 (a : Nat) : List V := b45 0 a
def n6 (a : Nat) (b : QC) (c d : Nat) (f : List CRes) : CF := ⟨a, QC.out b, a59 c d f⟩
def c8 : List V := b46 0
def g1 (a : Nat) (b : List QI) (c d : QC) : QC := c5 a 0 b c d
def q7 (a b : Nat) (c : List QI) : QC := .r a (a1 b c)
def b57 (a : POp) (b c d f : Nat) : List QI := y2 a b (r6 c d) f
def h5 (a b c : Nat) : QC := b47 a b [] c
def r1 (a : Nat) (b : QC) (c d : Nat) (f : List CRes) : CF := b00 a b c (a07 d f)
def r5 (a : BinOp) (b : List QA) (c : List QI) : List QI := j3 (.bin a) b c
def s3 (a b : Nat) (c : QI) (d : List QI) : List QI := k2 a (a04 b) c d
def b59 (a : Kk) (b c d : Nat) : QI := a41 a (a91 b c d)
def h1 (a b : Nat) : List (Nat × Nat) := a55 a b 1
def m3 : List QA := m7 2
def m2 : List QA := g0 4
def r8 (a b : Nat) (c : List QA) : List QA := a74 a (a74 b c)
def t4 (a b c : Nat) (d : List QI) : QC := m4 a b (j2 c d)
def s6 : List QA := k3 n4
def s8 : List V := r0 []
def i5 (a b : Nat) (c : QC) (d : Nat) : CF := h3 a b a9 c d
def i4 (a : BinOp) (b : List QI) : List QI := k1 a f1 b
def j0 (a : Nat) (b : List QA) (c : List QI) (d : QC) : QC := a45 a n2 b c d
def u5 (a b : Nat) (c : List QI) : List QI := v8 a b :: c
def a42 (a : Nat) : List QA := b1 a a0
def p9 (a : List V) : List V := b10 (b10 a)
def b50 (a b : Nat) : List QI := b48 a 1 b
def y9 (a b : Nat) (c : List QA) (d : List QI) : List QI := b49 a b none c d
def b51 (a b : Nat) (c : List V) : List V := u0 a b (a08 c)
def v2 : COp := w5 c8
def v1 (a : COp) (b c : List QA) : List QI := a34 a b (z2 c)
def v5 (a : Nat) (b : List QA) (c : QI) (d : List QI) : List QI := f9 (.ixsl a) b c d
def u8 (a : POp) (b c : Nat) (d : List QI) : List QI := x1 a (o9 b) c d
def v3 (a : Nat) (b : POp) (c : List QA) : List QI := a7 a (r4 b c)
def a36 (a : Kk) (b : Bool) (c : List QA) (d : List QI) : List QI := a16 (.eq a b) c d
def v9 (a : Nat) (b : QC) (c d f : Nat) : QC := a29 a b c (b50 d f)
def s0 (a b : Nat) (c : Int) (d : Nat) : QC := .r a (a3 b c d)
def f5 (a b : Nat) (c : List QI) (d : QC) : QC := k0 a 0 b c d
def u6 (a : Nat) (b : List QI) (c : Nat) (d f : QC) : QC := g1 a b (d6 c d) f
def n7 : List QI := b4 4
def u1 (a b c : Nat) (d : List QI) : List QI := u3 a b (a1 c d)
def o3 : List QA := a42 3
def u9 (a b c d : Nat) (f : List V) : List V := b51 a b (i0 c d f)
def a69 (a : Int) (b : List QA) : List QA := k3 (p6 a b)
def i1 (a : List QI) : List QI := b08 1 a
def k5 (a : Nat) (b : List QA) : List QI := a81 a b []
def k6 (a : Nat) (b : List QI) : List QI := d5 a a5 b
def b53 (a b : Nat) (c : List QI) : List QI := a61 a b c2 c
def w2 (a : BinOp) (b : IntKind) (c : Int) (d : List QI) : List QI := k1 a (p2 b c) d
def w0 (a b : Nat) (c : List QI) (d : QC) : QC := d8 a (b7 b c) d
def k9 (a b : Nat) : List QI := b52 .pick a b
def y1 (a : Nat) (b : List QA) (c : List QI) (d : QC) : QC := a45 a h8 b c d
def l6 (a : Nat) (b c : QI) (d : List QI) : List QI := a80 a b .nilc c d
def q5 : List QA := g0 6
def q4 : QI := a87 2
def k8 (a b c : Nat) (d : List QI) (f : QC) : QC := c4 a (b53 b c d) f
def e4 (a b c : Nat) (d : List QI) : List QI := b54 a b 0 c d
def i9 (a : List QI) : List QI := b06 1 a
def v6 (a b : Nat) : List QA := k3 (r6 a b)
def m5 (a b : Nat) : List QI := a25 a b []
def m1 (a : Int) : List QA := p6 a a2
def w9 (a : POp) (b c : Nat) : List QI := g9 a (z1 b) c
def w8 (a b : Nat) (c : List QA) (d : Nat) : List QI := y9 a b c (b4 d)
def a72 (a : V) (b : List V) : List V := a02 (a :: b)
def f4 (a : Nat) (b : List QI) : List QI := i8 9 a b
def n0 (a : Nat) (b : QC) : CF := ⟨a, QC.out b, []⟩
def m9 (a : Nat) (b c : List QA) (d : QC) : QC := y3 a h8 b c d
def a05 (a : Sk) (b : Bool) : POp := a35 a false b
def o0 (a : Nat) (b : List QA) (c : Nat) : List QI := b55 b3 a b c
def x5 (a : BinOp) (b : Int) (c : Nat) : List QI := l0 a b (r3 c)
def a01 (a : Nat) : List QA := b02 a []
def x9 (a : Nat) (b : List QI) (c : QC) : QC := d8 a (a4 b) c
def y0 (a : Nat) (b : List QI) : List QI := n5 a (b8 b)
def x7 (a b : Nat) (c : List QA) (d : Nat) (f : List QI) : List QI := s7 a (a31 b c d f)
def x6 (a : List V) (b c : Nat) (d : List QA) (f : List QI) : List QI := p5 a (a39 b c) d f
def a82 (a : QI) (b : List QI) : List QI := x8 d7 a b
def u4 : List QA := d4 2
def e3 (a : Nat) (b : List QI) (c : QC) : QC := c0 a 0 b c
def l9 (a b c : Nat) (d : List (Nat × Nat)) : List (Nat × Nat) := a48 a b c 1 d
def t1 : List QI := b4 6
def a56 (a : Int) (b : QI) (c : List QI) : List QI := x3 b3 a b c
def n3 (a b : Nat) (c : QI) : List QI := t5 a b c []
def o2 (a : Nat) (b : List QI) : List QI := d3 a [] b
def u2 (a b c d f : Nat) : List (Nat × Nat) := l9 a b c (h1 d f)
def r7 : QI := a87 0
def t3 : QI := a87 1
def g2 (a : Nat) (b : List QI) : List QI := d1 0 a b
def o8 (a : POp) (b : Nat) : List QI := a92 a b []
def z5 (a b : Nat) (c d : QC) : QC := .q (a38 a b c) d
def z3 (a : BinOp) (b : List QA) (c : List QI) : List QI := k1 a b (i1 c)
def y8 (a : Nat) (b : POp) (c : List QA) (d : Nat) (f : QC) : QC := c4 a (g9 b c d) f
def y6 (a b c : Nat) (d : List QI) (f : QC) : QC := f5 a b (a1 c d) f
def z4 (a b : Int) : List QA := a69 a (d4 b)
def b58 (a b : Nat) (c : List QA) (d : List QI) : List QI := b56 .nilc a b c d
def o6 (a : List QA) : QC := f8 4 a
def q0 (a : List QI) : List QI := a82 .n a
def q3 (a b : Nat) : QI := w3 a b a2
def q8 (a b c d : Nat) : List QI := b57 b3 a b c d
def a90 (a b : Nat) (c : List QI) (d : QC) : QC := y1 a (l1 b) c d
def a03 (a : Nat) (b : List QI) : QC := .d a (b8 b)
def z8 (a : V) (b : Nat) (c : List V) : List V := a72 a (a71 b c)
def g7 (a : Nat) (b : List QI) : QC := m4 a 0 b
def g5 (a : Nat) (b : List QI) : List QI := d1 1 a b
def y4 (a : BinOp) (b : List QA) (c : List QI) : List QI := k1 a b (i9 c)
def p3 (a b : Nat) (c : List QI) : List QI := b58 a b a2 c
def a00 : QC := o6 b6
def w1 : List QI := b4 5
def r9 (a : List QA) (b : List QI) : List QI := a53 .callv a b
def s1 (a : List QA) (b : Nat) : List QI := g9 a58 a b
def s4 (a b c : Nat) : QI := b59 a26 a b c
def i2 (a : List QI) : List QI := e5 2 a
def h0 (a : Nat) (b : List QI) : List QI := i3 1 a b
def q9 (a b : Nat) (c : List QI) : List QI := l4 a a2 b c
def h7 (a : Nat) (b : QI) (c : List QI) : List QI := a22 1 a b c
def a14 (a : POp) (b : Nat) : List QI := r4 a (o9 b)
def a12 (a b : Nat) (c : List QI) (d f : QC) : QC := .q (a90 a b c d) f
def a13 (a : POp) (b : COp) (c : List QA) (d : List QI) : List QI := x8 a (.b b c) d
def s9 (a : List QI) : List QI := e7 d7 a
def s5 (a : Int) (b : List QI) : List QI := a56 a .n b
def t2 (a b c d : Nat) : List QI := a57 a b c d []
def a19 (a : Kk) (b : List QA) (c : List QI) : List QI := a36 a false b c
def i7 (a : Nat) (b : List QI) : List QI := b60 1 a b
def a10 (a : COp) (b : Nat) : QI := .b a (a01 b)
def j1 (a : QC) (b c d : Nat) : QC := v9 1 a b c d
end Q
end
end Ev
end Go.Proofs.YtogbcielgfidlaaGreatDoor
