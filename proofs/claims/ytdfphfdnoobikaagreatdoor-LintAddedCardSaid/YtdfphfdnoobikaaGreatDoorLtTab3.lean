/-
  The functions of the program,compiled (those that are printed:by a program of ours;each is held against the program's own text).
-/
import Derived.Test.YtdfphfdnoobikaaGreatDoorLtTab1
namespace Go.Proofs.YtdfphfdnoobikaaGreatDoor
namespace Ev
set_option maxHeartbeats 0
set_option maxRecDepth 100000
noncomputable section
def If:{c // bQ TP Tryz.f107=some c}:=mkQ
def Ie:{c // bQ TP Tryz.f108=some c}:=mkQ
def Id:{c // bQ TP Tryz.f109=some c}:=mkQ
def FF:{c // bQ TP Tryz.f110=some c}:=mkQ
def GN:{c // bQ TP Tryz.f111=some c}:=mkQ
def Ic:{c // bQ TP Tryz.f112=some c}:=mkQ
def GM:{c // bQ TP Tryz.f113=some c}:=mkQ
def Ib:{c // bQ TP Tryz.f114=some c}:=mkQ
def Ia:{c // bQ TP Tryz.f115=some c}:=mkQ
def H9:{c // bQ TP Tryz.f116=some c}:=mkQ
def H8:{c // bQ TP Tryz.f117=some c}:=mkQ
def H7:{c // bQ TP Tryz.f118=some c}:=mkQ
def H6:{c // bQ TP Tryz.f119=some c}:=mkQ
def H5:{c // bQ TP Tryz.f122=some c}:=mkQ
def H4:{c // bQ TP Tryz.f123=some c}:=mkQ
def H3:{c // bQ TP Tryz.f128=some c}:=mkQ
def H2:{c // bQ TP Tryz.f129=some c}:=mkQ
def H1:{c // bQ TP Tryz.f130=some c}:=mkQ
def HZ:{c // bQ TP Tryz.f131=some c}:=mkQ
def HY:{c // bQ TP Tryz.f132=some c}:=mkQ
def HX:{c // bQ TP Tryz.f133=some c}:=mkQ
def HW:{c // bQ TP Tryz.f134=some c}:=mkQ
def HV:{c // bQ TP Tryz.f135=some c}:=mkQ
def GK:{c // bQ TP Tryz.f137=some c}:=mkQ
def HU:{c // bQ TP Tryz.f138=some c}:=mkQ
def HT:{c // bQ TP Tryz.f145=some c}:=mkQ
def HR:{c // bQ TP Tryz.f146=some c}:=mkQ
def cf147:CF:=⟨3,(.seq (.reg [⟨.l 4,.a (.box),[.l 1],none,0,0⟩])
 (.seq (.reg [⟨.t 7,.p (.fa 4),[.l 4],none,0,0⟩,⟨.t 8,.r (.load false 1),[.t 7],none,0,0⟩,⟨.t 9,.p (.leng .sl),[.t 8],none,0,0⟩,⟨.l 6,.p (.mv),[.t 9],none,0,0⟩])
 (.seq (.seq (.regD [⟨.t 10,.p (.mv),[.l 0],none,0,0⟩,⟨.t 11,.p (.nilc),[.t 10],none,0,0⟩,⟨.t 12,.p (.fa 3),[.t 11],none,0,0⟩,⟨.t 13,.r (.load false 1),[.t 12],none,0,0⟩,⟨.t 14,.p (.fa 2),[.l 4],none,0,0⟩,⟨.t 15,.r (.load false 1),[.t 14],none,0,0⟩,⟨.t 16,.p (.mv),[.l 6],none,0,0⟩,⟨.t 17,.p (.build [(.str 0 0),(.int .i64 0)] [(0,1),(1,1)]),[.t 15,.t 16],none,0,0⟩,⟨.t 18,.r (.lookup (.agg [.s,.i]) false (.int .i64 0)),[.t 13,.t 17],none,0,0⟩,⟨.t 19,.p (.bin .eql),[.t 18,.c (.int .i64 0)],none,0,0⟩,⟨.t 20,.p (.mv),[.t 19],none,0,0⟩,⟨.t 21,.p (.fa 2),[.l 4],(some (.t 20,true)),0,0⟩,⟨.t 22,.r (.load false 1),[.t 21],(some (.t 20,true)),0,0⟩,⟨.t 23,.p (.mv),[.l 6],(some (.t 20,true)),0,0⟩,⟨.t 24,.call 51,[.t 22,.t 23],(some (.t 20,true)),0,1⟩,⟨.t 25,.p (.bin .eql),[.t 24,.c (.int .i64 0)],(some (.t 20,true)),1,1⟩,⟨.l 26,.p (.pick),[.t 20,.t 25,.c (.bool false)],none,1,1⟩])
 (.cond (.l 26) (.reg [⟨.t 27,.p (.mv),[.l 0],none,0,0⟩,⟨.t 28,.p (.fa 2),[.l 4],none,0,0⟩,⟨.t 29,.r (.load false 1),[.t 28],none,0,0⟩,⟨.t 30,.p (.mv),[.l 6],none,0,0⟩,⟨.t 31,.call 50,[.t 27,.c (.int .i64 6),.t 29,.t 30],none,0,0⟩])
 .skip))
 (.reg [⟨.t 32,.p (.mv),[.l 0],none,0,0⟩,⟨.t 33,.p (.fa 4),[.l 4],none,0,0⟩,⟨.t 34,.r (.load false 1),[.t 33],none,0,0⟩,⟨.t 35,.p (.mv),[.l 2],none,0,0⟩,⟨.t 36,.call 129,[.t 32,.t 34,.t 35],none,0,0⟩])))),
 []⟩
theorem cf147_ok:bQ TP Tryz.f147=some cf147:=by kernel_rfl
def HQ:{c // bQ TP Tryz.f148=some c}:=mkQ
def HP:{c // bQ TP Tryz.f149=some c}:=mkQ
def HO:{c // bQ TP Tryz.f150=some c}:=mkQ
def HN:{c // bQ TP Tryz.f151=some c}:=mkQ
def HM:{c // bQ TP Tryz.f152=some c}:=mkQ
def HL:{c // bQ TP Tryz.f153=some c}:=mkQ
def HK:{c // bQ TP Tryz.f154=some c}:=mkQ
def HJ:{c // bQ TP Tryz.f155=some c}:=mkQ
def HI:{c // bQ TP Tryz.f160=some c}:=mkQ
def HH:{c // bQ TP Tryz.f162=some c}:=mkQ
def HF:{c // bQ TP Tryz.f163=some c}:=mkQ
def HE:{c // bQ TP Tryz.f164=some c}:=mkQ
def HD:{c // bQ TP Tryz.f165=some c}:=mkQ
def HC:{c // bQ TP Tryz.f166=some c}:=mkQ
def Hz:{c // bQ TP Tryz.f167=some c}:=mkQ
def Hx:{c // bQ TP Tryz.f171=some c}:=mkQ
def Hw:{c // bQ TP Tryz.f172=some c}:=mkQ
def Hv:{c // bQ TP Tryz.f173=some c}:=mkQ
def Hu:{c // bQ TP Tryz.f174=some c}:=mkQ
def Ht:{c // bQ TP Tryz.f175=some c}:=mkQ
def Hs:{c // bQ TP Tryz.f176=some c}:=mkQ
def Hr:{c // bQ TP Tryz.f177=some c}:=mkQ
def Hq:{c // bQ TP Tryz.f178=some c}:=mkQ
def Hp:{c // bQ TP Tryz.f182=some c}:=mkQ
def Ho:{c // bQ TP Tryz.f183=some c}:=mkQ
def Hn:{c // bQ TP Tryz.f184=some c}:=mkQ
def Hm:{c // bQ TP Tryz.f185=some c}:=mkQ
def Hl:{c // bQ TP Tryz.f186=some c}:=mkQ
def Hk:{c // bQ TP Tryz.f187=some c}:=mkQ
def Hj:{c // bQ TP Tryz.f199=some c}:=mkQ
def Hi:{c // bQ TP Tryz.f200=some c}:=mkQ
def Hh:{c // bQ TP Tryz.f201=some c}:=mkQ
def Hg:{c // bQ TP Tryz.f208=some c}:=mkQ
def Hf:{c // bQ TP Tryz.f209=some c}:=mkQ
end
end Ev
end Go.Proofs.YtdfphfdnoobikaaGreatDoor
