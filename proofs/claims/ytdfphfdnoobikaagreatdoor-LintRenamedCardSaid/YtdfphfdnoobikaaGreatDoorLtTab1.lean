/-
  The functions of the program,compiled (those that are printed:by a program of ours;each is held against the program's own text).
-/
import Derived.Test.YtdfphfdnoobikaaGreatDoorEvLc
import Derived.Test.YtdfphfdnoobikaaGreatDoorProg
import Derived.KernelRfl
namespace Go.Proofs.YtdfphfdnoobikaaGreatDoor
namespace Ev
noncomputable section
def tbl:List V:=[.int .u8 0,.int .u8 0,.int .u8 0,.int .u8 0,.int .u8 0,.int .u8 0,.int .u8 0,.int .u8 0,.int .u8 0,.int .u8 1,.int .u8 1,.int .u8 1,.int .u8 1,.int .u8 1,.int .u8 0,.int .u8 0,.int .u8 0,.int .u8 0,.int .u8 0,.int .u8 0,.int .u8 0,.int .u8 0,.int .u8 0,.int .u8 0,.int .u8 0,.int .u8 0,.int .u8 0,.int .u8 0,.int .u8 0,.int .u8 0,.int .u8 0,.int .u8 0,.int .u8 1,.int .u8 0,.int .u8 0,.int .u8 0,.int .u8 0,.int .u8 0,.int .u8 0,.int .u8 0,.int .u8 0,.int .u8 0,.int .u8 0,.int .u8 0,.int .u8 0,.int .u8 0,.int .u8 0,.int .u8 0,.int .u8 0,.int .u8 0,.int .u8 0,.int .u8 0,.int .u8 0,.int .u8 0,.int .u8 0,.int .u8 0,.int .u8 0,.int .u8 0,.int .u8 0,.int .u8 0,.int .u8 0,.int .u8 0,.int .u8 0,.int .u8 0,.int .u8 0,.int .u8 0,.int .u8 0,.int .u8 0,.int .u8 0,.int .u8 0,.int .u8 0,.int .u8 0,.int .u8 0,.int .u8 0,.int .u8 0,.int .u8 0,.int .u8 0,.int .u8 0,.int .u8 0,.int .u8 0,.int .u8 0,.int .u8 0,.int .u8 0,.int .u8 0,.int .u8 0,.int .u8 0,.int .u8 0,.int .u8 0,.int .u8 0,.int .u8 0,.int .u8 0,.int .u8 0,.int .u8 0,.int .u8 0,.int .u8 0,.int .u8 0,.int .u8 0,.int .u8 0,.int .u8 0,.int .u8 0,.int .u8 0,.int .u8 0,.int .u8 0,.int .u8 0,.int .u8 0,.int .u8 0,.int .u8 0,.int .u8 0,.int .u8 0,.int .u8 0,.int .u8 0,.int .u8 0,.int .u8 0,.int .u8 0,.int .u8 0,.int .u8 0,.int .u8 0,.int .u8 0,.int .u8 0,.int .u8 0,.int .u8 0,.int .u8 0,.int .u8 0,.int .u8 0,.int .u8 0,.int .u8 0,.int .u8 0,.int .u8 0,.int .u8 0,.int .u8 0,.int .u8 0,.int .u8 0,.int .u8 0,.int .u8 0,.int .u8 0,.int .u8 0,.int .u8 0,.int .u8 0,.int .u8 0,.int .u8 0,.int .u8 0,.int .u8 0,.int .u8 0,.int .u8 0,.int .u8 0,.int .u8 0,.int .u8 0,.int .u8 0,.int .u8 0,.int .u8 0,.int .u8 0,.int .u8 0,.int .u8 0,.int .u8 0,.int .u8 0,.int .u8 0,.int .u8 0,.int .u8 0,.int .u8 0,.int .u8 0,.int .u8 0,.int .u8 0,.int .u8 0,.int .u8 0,.int .u8 0,.int .u8 0,.int .u8 0,.int .u8 0,.int .u8 0,.int .u8 0,.int .u8 0,.int .u8 0,.int .u8 0,.int .u8 0,.int .u8 0,.int .u8 0,.int .u8 0,.int .u8 0,.int .u8 0,.int .u8 0,.int .u8 0,.int .u8 0,.int .u8 0,.int .u8 0,.int .u8 0,.int .u8 0,.int .u8 0,.int .u8 0,.int .u8 0,.int .u8 0,.int .u8 0,.int .u8 0,.int .u8 0,.int .u8 0,.int .u8 0,.int .u8 0,.int .u8 0,.int .u8 0,.int .u8 0,.int .u8 0,.int .u8 0,.int .u8 0,.int .u8 0,.int .u8 0,.int .u8 0,.int .u8 0,.int .u8 0,.int .u8 0,.int .u8 0,.int .u8 0,.int .u8 0,.int .u8 0,.int .u8 0,.int .u8 0,.int .u8 0,.int .u8 0,.int .u8 0,.int .u8 0,.int .u8 0,.int .u8 0,.int .u8 0,.int .u8 0,.int .u8 0,.int .u8 0,.int .u8 0,.int .u8 0,.int .u8 0,.int .u8 0,.int .u8 0,.int .u8 0,.int .u8 0,.int .u8 0,.int .u8 0,.int .u8 0,.int .u8 0,.int .u8 0,.int .u8 0,.int .u8 0,.int .u8 0,.int .u8 0,.int .u8 0,.int .u8 0,.int .u8 0,.int .u8 0,.int .u8 0,.int .u8 0,.int .u8 0,.int .u8 0,.int .u8 0,.int .u8 0,.int .u8 0,.int .u8 0,.int .u8 0,.int .u8 0,.int .u8 0,.int .u8 0]
def d3:Tr V:=cM tbl 0 .e
def TP:Ty:=⟨Tryz.prog.info?,Tryz.prog.underlying,λt=>!Tryz.prog.stoodInHeld t && !Tryz.prog.eqGuardType Tryz.prog.depth t,[(0,0,256,d3)]⟩
end
set_option maxHeartbeats 0
set_option maxRecDepth 100000
theorem zI(n:Nat):Int.ofNat (no_index (@OfNat.ofNat Nat n (instOfNatNat n)))=@OfNat.ofNat Int n instOfNat:=rfl
theorem zN:Int.negSucc 0= -1:=rfl
noncomputable section
def mkQ{f:Func}{c:CF}(h:ci TP f=some c:=by conv=>lhs;reduce;(try dsimp only [zI,zN])):{c // ci TP f=some c}:=⟨c,h⟩
end
noncomputable section
def q3:{c // ci TP Tryz.f3=some c}:=mkQ
def q8:{c // ci TP Tryz.f8=some c}:=mkQ
def q9:{c // ci TP Tryz.f9=some c}:=mkQ
def q10:{c // ci TP Tryz.f10=some c}:=mkQ
def cf10:CF:=q10.1
def q11:{c // ci TP Tryz.f11=some c}:=mkQ
def cf12:CF:=⟨1,(.seq (.reg [⟨.l 1,.a (.box),[.l 0],none,0,0⟩,⟨.l 2,.p (.mv),[.c .nils],none,0,0⟩])
 (.seq (.seq (.reg [⟨.t 10,.r (.load true 4),[.l 1],none,0,0⟩,⟨.t 11,.call 29,[.t 10],none,0,0⟩,⟨.l 12,.p (.bin .neq),[.t 11,.c (.int .i64 0)],none,0,0⟩])
 (.cond (.l 12) (.seq (.reg [⟨.l 2,.p (.mv),[.c .nils],none,0,0⟩])
 .ret)
 .skip))
 (.seq (.reg [⟨.t 13,.a (.mkm false),[],none,0,0⟩,⟨.t 14,.p (.build [(.str 0 0),(.int .i64 0),(.int .i64 0),.nilm,.nils] [(3,1)]),[.t 13],none,0,0⟩,⟨.t 15,.a (.box),[.t 14],none,0,0⟩,⟨.l 3,.p (.mv),[.t 15],none,0,0⟩])
 (.seq (.seq (.reg [⟨.t 16,.p (.fa 3),[.l 1],none,0,0⟩,⟨.l 17,.r (.load false 1),[.t 16],none,0,0⟩,⟨.l 18,.p (.leng .sl),[.l 17],none,0,0⟩,⟨.l 19,.p (.mv),[.c (.int .i64 0)],none,0,0⟩])
 (.block 0 (.loop (.seq (.reg [⟨.l 20,.p (.bin .lss),[.l 19,.l 18],none,0,0⟩])
 (.seq (.cond (.l 20) .skip
 (.exit 0))
 (.seq (.block 1 (.seq (.reg [⟨.t 21,.p (.ixsl 3),[.l 17,.l 19],none,0,0⟩,⟨.t 22,.r (.load true 3),[.t 21],none,0,0⟩,⟨.l 5,.a (.alloc [(.str 0 0),(.int .i64 0),.nils]),[],none,0,0⟩,⟨.no,.e (.store 3),[.l 5,.t 22],none,0,0⟩])
 (.regD [⟨.t 23,.p (.mv),[.l 3],none,0,0⟩,⟨.t 24,.p (.nilc),[.t 23],none,0,0⟩,⟨.t 25,.p (.fa 3),[.t 24],none,0,0⟩,⟨.t 26,.r (.load false 1),[.t 25],none,0,0⟩,⟨.t 27,.p (.fa 0),[.l 5],none,0,0⟩,⟨.t 28,.r (.load false 1),[.t 27],none,0,0⟩,⟨.t 29,.p (.fa 1),[.l 5],none,0,0⟩,⟨.t 30,.r (.load false 1),[.t 29],none,0,0⟩,⟨.t 31,.p (.build [(.str 0 0),(.int .i64 0)] [(0,1),(1,1)]),[.t 28,.t 30],none,0,0⟩,⟨.t 32,.r (.lookup (.agg [.s,.i]) false (.int .i64 0)),[.t 26,.t 31],none,0,1⟩,⟨.t 33,.p (.bin .add),[.t 32,.c (.int .i64 1)],none,0,1⟩,⟨.t 34,.e (.mapent (.agg [.s,.i]) (.int .i64 0)),[.t 26,.t 31],none,0,1⟩,⟨.t 35,.p (.ext 1),[.t 34],none,1,1⟩,⟨.no,.e (.entst),[.t 26,.t 35,.t 33],none,1,2⟩])))
 (.reg [⟨.t 36,.p (.bin .add),[.l 19,.c (.int .i64 1)],none,0,0⟩,⟨.l 19,.p (.mv),[.t 36],none,0,0⟩])))))))
 (.seq (.reg [⟨.t 37,.p (.mv),[.l 3],none,0,0⟩,⟨.t 38,.p (.fa 2),[.l 1],none,0,0⟩,⟨.t 39,.r (.load false 1),[.t 38],none,0,0⟩,⟨.t 40,.call 30,[.t 37,.t 39],none,0,0⟩])
 (.seq (.reg [⟨.t 41,.a (.mkm false),[],none,0,0⟩,⟨.l 6,.p (.mv),[.t 41],none,0,0⟩])
 (.seq (.seq (.reg [⟨.t 42,.p (.fa 3),[.l 1],none,0,0⟩,⟨.l 43,.r (.load false 1),[.t 42],none,0,0⟩,⟨.l 44,.p (.leng .sl),[.l 43],none,0,0⟩,⟨.l 45,.p (.mv),[.c (.int .i64 0)],none,0,0⟩])
 (.block 2 (.loop (.seq (.reg [⟨.l 46,.p (.bin .lss),[.l 45,.l 44],none,0,0⟩])
 (.seq (.cond (.l 46) .skip
 (.exit 2))
 (.seq (.block 3 (.seq (.reg [⟨.t 47,.p (.ixsl 3),[.l 43,.l 45],none,0,0⟩,⟨.t 48,.r (.load true 3),[.t 47],none,0,0⟩,⟨.l 8,.a (.alloc [(.str 0 0),(.int .i64 0),.nils]),[],none,0,0⟩,⟨.no,.e (.store 3),[.l 8,.t 48],none,0,0⟩])
 (.seq (.reg [⟨.t 49,.p (.fa 0),[.l 8],none,0,0⟩,⟨.t 50,.r (.load false 1),[.t 49],none,0,0⟩,⟨.t 51,.p (.fa 1),[.l 8],none,0,0⟩,⟨.t 52,.r (.load false 1),[.t 51],none,0,0⟩,⟨.t 53,.p (.build [(.str 0 0),(.int .i64 0)] [(0,1),(1,1)]),[.t 50,.t 52],none,0,0⟩,⟨.l 9,.a (.alloc [(.str 0 0),(.int .i64 0)]),[],none,0,0⟩,⟨.no,.e (.store 2),[.l 9,.t 53],none,0,0⟩])
 (.seq (.regD [⟨.t 54,.p (.mv),[.l 3],none,0,0⟩,⟨.t 55,.r (.load true 3),[.l 8],none,0,0⟩,⟨.t 56,.p (.mv),[.l 6],none,0,0⟩,⟨.t 57,.r (.load true 2),[.l 9],none,0,0⟩,⟨.t 58,.r (.lookup (.agg [.s,.i]) false (.int .i64 0)),[.t 56,.t 57],none,0,0⟩,⟨.t 59,.p (.bin .gtr),[.t 58,.c (.int .i64 0)],none,0,0⟩,⟨.t 60,.call 31,[.t 54,.t 55,.t 59],none,0,1⟩])
 (.regD [⟨.t 61,.p (.mv),[.l 6],none,0,0⟩,⟨.t 62,.r (.load true 2),[.l 9],none,0,0⟩,⟨.t 63,.r (.lookup (.agg [.s,.i]) false (.int .i64 0)),[.t 61,.t 62],none,0,1⟩,⟨.t 64,.p (.bin .add),[.t 63,.c (.int .i64 1)],none,0,1⟩,⟨.t 65,.e (.mapent (.agg [.s,.i]) (.int .i64 0)),[.t 61,.t 62],none,0,1⟩,⟨.t 66,.p (.ext 1),[.t 65],none,1,1⟩,⟨.no,.e (.entst),[.t 61,.t 66,.t 64],none,1,2⟩])))))
 (.reg [⟨.t 67,.p (.bin .add),[.l 45,.c (.int .i64 1)],none,0,0⟩,⟨.l 45,.p (.mv),[.t 67],none,0,0⟩])))))))
 (.seq (.reg [⟨.t 68,.p (.mv),[.l 3],none,0,0⟩,⟨.t 69,.p (.nilc),[.t 68],none,0,0⟩,⟨.t 70,.p (.fa 4),[.t 69],none,0,0⟩,⟨.t 71,.r (.load false 1),[.t 70],none,0,0⟩,⟨.l 2,.p (.mv),[.t 71],none,0,0⟩])
 .ret)))))))),
 [.tmp (.l 2)]⟩
theorem cf12_ok:ci TP Tryz.f12=some cf12:=by kernel_rfl
def cf13:CF:=⟨2,(.seq (.reg [⟨.l 4,.p (.mv),[.c (.bool false)],none,0,0⟩])
 (.seq (.seq (.reg [⟨.t 6,.p (.mv),[.l 0],none,0,0⟩,⟨.t 7,.p (.leng .sl),[.t 6],none,0,0⟩,⟨.t 8,.p (.mv),[.l 1],none,0,0⟩,⟨.t 9,.p (.leng .sl),[.t 8],none,0,0⟩,⟨.l 10,.p (.bin .neq),[.t 7,.t 9],none,0,0⟩])
 (.cond (.l 10) (.seq (.reg [⟨.l 4,.p (.mv),[.c (.bool false)],none,0,0⟩])
 .ret)
 .skip))
 (.seq (.seq (.reg [⟨.l 5,.p (.mv),[.c (.int .i64 0)],none,0,0⟩])
 (.block 0 (.loop (.seq (.seq (.reg [⟨.t 11,.p (.mv),[.l 5],none,0,0⟩,⟨.t 12,.p (.mv),[.l 0],none,0,0⟩,⟨.t 13,.p (.leng .sl),[.t 12],none,0,0⟩,⟨.l 14,.p (.bin .lss),[.t 11,.t 13],none,0,0⟩])
 (.cond (.l 14) .skip
 (.exit 0)))
 (.seq (.block 1 (.seq (.regD [⟨.t 17,.p (.mv),[.l 0],none,0,0⟩,⟨.t 18,.p (.mv),[.l 5],none,0,0⟩,⟨.t 19,.p (.ixsl 6),[.t 17,.t 18],none,0,0⟩,⟨.t 20,.r (.load true 6),[.t 19],none,0,0⟩,⟨.t 21,.p (.mv),[.l 1],none,0,0⟩,⟨.t 22,.p (.mv),[.l 5],none,0,0⟩,⟨.t 23,.p (.ixsl 6),[.t 21,.t 22],none,0,0⟩,⟨.t 24,.r (.load true 6),[.t 23],none,0,0⟩,⟨.l 25,.r (.eq (.agg [.s,.i,.i,.i,.s,.i]) true),[.t 20,.t 24],none,0,0⟩])
 (.cond (.l 25) (.seq (.reg [⟨.l 4,.p (.mv),[.c (.bool false)],none,0,0⟩])
 .ret)
 .skip)))
 (.reg [⟨.t 15,.p (.mv),[.l 5],none,0,0⟩,⟨.t 16,.p (.bin .add),[.t 15,.c (.int .i64 1)],none,0,0⟩,⟨.l 5,.p (.mv),[.t 16],none,0,0⟩]))))))
 (.seq (.reg [⟨.l 4,.p (.mv),[.c (.bool true)],none,0,0⟩])
 .ret)))),
 [.tmp (.l 4)]⟩
theorem cf13_ok:ci TP Tryz.f13=some cf13:=by kernel_rfl
def q17:{c // ci TP Tryz.f17=some c}:=mkQ
def q19:{c // ci TP Tryz.f19=some c}:=mkQ
def q20:{c // ci TP Tryz.f20=some c}:=mkQ
def q21:{c // ci TP Tryz.f21=some c}:=mkQ
def q22:{c // ci TP Tryz.f22=some c}:=mkQ
def q23:{c // ci TP Tryz.f23=some c}:=mkQ
def q24:{c // ci TP Tryz.f24=some c}:=mkQ
def q25:{c // ci TP Tryz.f25=some c}:=mkQ
def q26:{c // ci TP Tryz.f26=some c}:=mkQ
def q27:{c // ci TP Tryz.f27=some c}:=mkQ
def q28:{c // ci TP Tryz.f28=some c}:=mkQ
def q29:{c // ci TP Tryz.f29=some c}:=mkQ
def cf30:CF:=⟨2,(.seq (.reg [⟨.t 7,.a (.mkm false),[],none,0,0⟩,⟨.l 4,.p (.mv),[.t 7],none,0,0⟩])
 (.seq (.reg [⟨.l 8,.p (.mv),[.l 1],none,0,0⟩,⟨.l 9,.p (.leng .sl),[.l 8],none,0,0⟩,⟨.l 10,.p (.mv),[.c (.int .i64 0)],none,0,0⟩])
 (.block 0 (.loop (.seq (.reg [⟨.l 11,.p (.bin .lss),[.l 10,.l 9],none,0,0⟩])
 (.seq (.cond (.l 11) .skip
 (.exit 0))
 (.seq (.block 1 (.seq (.reg [⟨.t 12,.p (.ixsl 2),[.l 8,.l 10],none,0,0⟩,⟨.t 13,.r (.load true 2),[.t 12],none,0,0⟩,⟨.l 6,.a (.alloc [(.str 0 0),(.int .i64 0)]),[],none,0,0⟩,⟨.no,.e (.store 2),[.l 6,.t 13],none,0,0⟩])
 (.seq (.seq (.reg [⟨.t 14,.p (.mv),[.l 4],none,0,0⟩,⟨.t 15,.r (.load true 2),[.l 6],none,0,0⟩,⟨.t 16,.r (.lookup (.agg [.s,.i]) false (.int .i64 0)),[.t 14,.t 15],none,0,0⟩,⟨.l 17,.p (.bin .gtr),[.t 16,.c (.int .i64 0)],none,0,0⟩])
 (.cond (.l 17) (.reg [⟨.t 18,.p (.mv),[.l 0],none,0,0⟩,⟨.t 19,.p (.fa 0),[.l 6],none,0,0⟩,⟨.t 20,.r (.load false 1),[.t 19],none,0,0⟩,⟨.t 21,.p (.fa 1),[.l 6],none,0,0⟩,⟨.t 22,.r (.load false 1),[.t 21],none,0,0⟩,⟨.t 23,.call 50,[.t 18,.c (.int .i64 1),.t 20,.t 22],none,0,0⟩])
 .skip))
 (.seq (.regD [⟨.t 24,.p (.mv),[.l 4],none,0,0⟩,⟨.t 25,.r (.load true 2),[.l 6],none,0,0⟩,⟨.t 26,.r (.lookup (.agg [.s,.i]) false (.int .i64 0)),[.t 24,.t 25],none,0,1⟩,⟨.t 27,.p (.bin .add),[.t 26,.c (.int .i64 1)],none,0,1⟩,⟨.t 28,.e (.mapent (.agg [.s,.i]) (.int .i64 0)),[.t 24,.t 25],none,0,1⟩,⟨.t 29,.p (.ext 1),[.t 28],none,1,1⟩,⟨.no,.e (.entst),[.t 24,.t 29,.t 27],none,1,2⟩])
 (.seq (.regD [⟨.t 30,.p (.mv),[.l 0],none,0,0⟩,⟨.t 31,.p (.nilc),[.t 30],none,0,0⟩,⟨.t 32,.p (.fa 3),[.t 31],none,0,0⟩,⟨.t 33,.r (.load false 1),[.t 32],none,0,0⟩,⟨.t 34,.p (.fa 0),[.l 6],none,0,0⟩,⟨.t 35,.r (.load false 1),[.t 34],none,0,0⟩,⟨.t 36,.p (.fa 1),[.l 6],none,0,0⟩,⟨.t 37,.r (.load false 1),[.t 36],none,0,0⟩,⟨.t 38,.p (.build [(.str 0 0),(.int .i64 0)] [(0,1),(1,1)]),[.t 35,.t 37],none,0,0⟩,⟨.t 39,.r (.lookup (.agg [.s,.i]) false (.int .i64 0)),[.t 33,.t 38],none,0,0⟩,⟨.l 40,.p (.bin .eql),[.t 39,.c (.int .i64 0)],none,0,0⟩])
 (.cond (.l 40) (.reg [⟨.t 41,.p (.mv),[.l 0],none,0,0⟩,⟨.t 42,.p (.fa 0),[.l 6],none,0,0⟩,⟨.t 43,.r (.load false 1),[.t 42],none,0,0⟩,⟨.t 44,.p (.fa 1),[.l 6],none,0,0⟩,⟨.t 45,.r (.load false 1),[.t 44],none,0,0⟩,⟨.t 46,.call 50,[.t 41,.c (.int .i64 2),.t 43,.t 45],none,0,0⟩])
 .skip))))))
 (.reg [⟨.t 47,.p (.bin .add),[.l 10,.c (.int .i64 1)],none,0,0⟩,⟨.l 10,.p (.mv),[.t 47],none,0,0⟩])))))))),
 []⟩
theorem cf30_ok:ci TP Tryz.f30=some cf30:=by kernel_rfl
def q31:{c // ci TP Tryz.f31=some c}:=mkQ
def q32:{c // ci TP Tryz.f32=some c}:=mkQ
def q36:{c // ci TP Tryz.f36=some c}:=mkQ
def q37:{c // ci TP Tryz.f37=some c}:=mkQ
def q38:{c // ci TP Tryz.f38=some c}:=mkQ
def q39:{c // ci TP Tryz.f39=some c}:=mkQ
def q40:{c // ci TP Tryz.f40=some c}:=mkQ
def q41:{c // ci TP Tryz.f41=some c}:=mkQ
def q42:{c // ci TP Tryz.f42=some c}:=mkQ
def q43:{c // ci TP Tryz.f43=some c}:=mkQ
def q44:{c // ci TP Tryz.f44=some c}:=mkQ
def q45:{c // ci TP Tryz.f45=some c}:=mkQ
end
end Ev
end Go.Proofs.YtdfphfdnoobikaaGreatDoor
