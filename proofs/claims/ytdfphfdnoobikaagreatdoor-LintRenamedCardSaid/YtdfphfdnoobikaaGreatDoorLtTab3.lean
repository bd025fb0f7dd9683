/-
  The functions of the program,compiled (those that are printed:by a program of ours;each is held against the program's own text).
-/
import Derived.Test.YtdfphfdnoobikaaGreatDoorLtTab1
namespace Go.Proofs.YtdfphfdnoobikaaGreatDoor
namespace Ev
set_option maxHeartbeats 0
set_option maxRecDepth 100000
noncomputable section
def LK:{c // ci TP Tryz.f107=some c}:=mkQ
def LJ:{c // ci TP Tryz.f108=some c}:=mkQ
def LI:{c // ci TP Tryz.f109=some c}:=mkQ
def JZ:{c // ci TP Tryz.f110=some c}:=mkQ
def IH:{c // ci TP Tryz.f111=some c}:=mkQ
def LH:{c // ci TP Tryz.f112=some c}:=mkQ
def JY:{c // ci TP Tryz.f113=some c}:=mkQ
def LG:{c // ci TP Tryz.f114=some c}:=mkQ
def LF:{c // ci TP Tryz.f115=some c}:=mkQ
def LE:{c // ci TP Tryz.f116=some c}:=mkQ
def LD:{c // ci TP Tryz.f117=some c}:=mkQ
def LC:{c // ci TP Tryz.f118=some c}:=mkQ
def LB:{c // ci TP Tryz.f119=some c}:=mkQ
def LA:{c // ci TP Tryz.f122=some c}:=mkQ
def Lz:{c // ci TP Tryz.f123=some c}:=mkQ
def Ly:{c // ci TP Tryz.f128=some c}:=mkQ
def Lx:{c // ci TP Tryz.f129=some c}:=mkQ
def Lw:{c // ci TP Tryz.f130=some c}:=mkQ
def Lu:{c // ci TP Tryz.f131=some c}:=mkQ
def JX:{c // ci TP Tryz.f132=some c}:=mkQ
def JW:{c // ci TP Tryz.f133=some c}:=mkQ
def Lt:{c // ci TP Tryz.f134=some c}:=mkQ
def Ls:{c // ci TP Tryz.f135=some c}:=mkQ
def JV:{c // ci TP Tryz.f137=some c}:=mkQ
def Lr:{c // ci TP Tryz.f138=some c}:=mkQ
def Lq:{c // ci TP Tryz.f145=some c}:=mkQ
def Lp:{c // ci TP Tryz.f146=some c}:=mkQ
def cf147:CF:=⟨3,(.seq (.reg [⟨.l 4,.a (.box),[.l 1],none,0,0⟩])
 (.seq (.reg [⟨.t 7,.p (.fa 4),[.l 4],none,0,0⟩,⟨.t 8,.r (.load false 1),[.t 7],none,0,0⟩,⟨.t 9,.p (.leng .sl),[.t 8],none,0,0⟩,⟨.l 6,.p (.mv),[.t 9],none,0,0⟩])
 (.seq (.seq (.regD [⟨.t 10,.p (.mv),[.l 0],none,0,0⟩,⟨.t 11,.p (.nilc),[.t 10],none,0,0⟩,⟨.t 12,.p (.fa 3),[.t 11],none,0,0⟩,⟨.t 13,.r (.load false 1),[.t 12],none,0,0⟩,⟨.t 14,.p (.fa 2),[.l 4],none,0,0⟩,⟨.t 15,.r (.load false 1),[.t 14],none,0,0⟩,⟨.t 16,.p (.mv),[.l 6],none,0,0⟩,⟨.t 17,.p (.build [(.str 0 0),(.int .i64 0)] [(0,1),(1,1)]),[.t 15,.t 16],none,0,0⟩,⟨.t 18,.r (.lookup (.agg [.s,.i]) false (.int .i64 0)),[.t 13,.t 17],none,0,0⟩,⟨.t 19,.p (.bin .eql),[.t 18,.c (.int .i64 0)],none,0,0⟩,⟨.t 20,.p (.mv),[.t 19],none,0,0⟩,⟨.t 21,.p (.fa 2),[.l 4],(some (.t 20,true)),0,0⟩,⟨.t 22,.r (.load false 1),[.t 21],(some (.t 20,true)),0,0⟩,⟨.t 23,.p (.mv),[.l 6],(some (.t 20,true)),0,0⟩,⟨.t 24,.call 51,[.t 22,.t 23],(some (.t 20,true)),0,1⟩,⟨.t 25,.p (.bin .eql),[.t 24,.c (.int .i64 0)],(some (.t 20,true)),1,1⟩,⟨.l 26,.p (.pick),[.t 20,.t 25,.c (.bool false)],none,1,1⟩])
 (.cond (.l 26) (.reg [⟨.t 27,.p (.mv),[.l 0],none,0,0⟩,⟨.t 28,.p (.fa 2),[.l 4],none,0,0⟩,⟨.t 29,.r (.load false 1),[.t 28],none,0,0⟩,⟨.t 30,.p (.mv),[.l 6],none,0,0⟩,⟨.t 31,.call 50,[.t 27,.c (.int .i64 6),.t 29,.t 30],none,0,0⟩])
 .skip))
 (.reg [⟨.t 32,.p (.mv),[.l 0],none,0,0⟩,⟨.t 33,.p (.fa 4),[.l 4],none,0,0⟩,⟨.t 34,.r (.load false 1),[.t 33],none,0,0⟩,⟨.t 35,.p (.mv),[.l 2],none,0,0⟩,⟨.t 36,.call 129,[.t 32,.t 34,.t 35],none,0,0⟩])))),
 []⟩
theorem cf147_ok:ci TP Tryz.f147=some cf147:=by kernel_rfl
def Lo:{c // ci TP Tryz.f148=some c}:=mkQ
def Ln:{c // ci TP Tryz.f149=some c}:=mkQ
def Lm:{c // ci TP Tryz.f150=some c}:=mkQ
def Ll:{c // ci TP Tryz.f151=some c}:=mkQ
def Lj:{c // ci TP Tryz.f152=some c}:=mkQ
def JU:{c // ci TP Tryz.f153=some c}:=mkQ
def JT:{c // ci TP Tryz.f154=some c}:=mkQ
def Li:{c // ci TP Tryz.f155=some c}:=mkQ
def Lh:{c // ci TP Tryz.f160=some c}:=mkQ
def Lg:{c // ci TP Tryz.f162=some c}:=mkQ
def Lf:{c // ci TP Tryz.f163=some c}:=mkQ
def Le:{c // ci TP Tryz.f164=some c}:=mkQ
def Ld:{c // ci TP Tryz.f165=some c}:=mkQ
def Lb:{c // ci TP Tryz.f166=some c}:=mkQ
def La:{c // ci TP Tryz.f167=some c}:=mkQ
def K9:{c // ci TP Tryz.f171=some c}:=mkQ
def K8:{c // ci TP Tryz.f172=some c}:=mkQ
def K7:{c // ci TP Tryz.f173=some c}:=mkQ
def K6:{c // ci TP Tryz.f174=some c}:=mkQ
def K5:{c // ci TP Tryz.f175=some c}:=mkQ
def K4:{c // ci TP Tryz.f176=some c}:=mkQ
def K3:{c // ci TP Tryz.f177=some c}:=mkQ
def K2:{c // ci TP Tryz.f178=some c}:=mkQ
def K1:{c // ci TP Tryz.f182=some c}:=mkQ
def K0:{c // ci TP Tryz.f183=some c}:=mkQ
def KZ:{c // ci TP Tryz.f184=some c}:=mkQ
def KY:{c // ci TP Tryz.f185=some c}:=mkQ
def KX:{c // ci TP Tryz.f186=some c}:=mkQ
def KW:{c // ci TP Tryz.f187=some c}:=mkQ
def KV:{c // ci TP Tryz.f199=some c}:=mkQ
def KU:{c // ci TP Tryz.f200=some c}:=mkQ
def KR:{c // ci TP Tryz.f201=some c}:=mkQ
def KQ:{c // ci TP Tryz.f208=some c}:=mkQ
def KO:{c // ci TP Tryz.f209=some c}:=mkQ
end
end Ev
end Go.Proofs.YtdfphfdnoobikaaGreatDoor
