/-
  The functions of the program,compiled (those that are printed:by a program of ours;each is held against the program's own text).
-/
import Derived.Test.YtdfphfdnoobikaaGreatDoorLtTab1
namespace Go.Proofs.YtdfphfdnoobikaaGreatDoor
namespace Ev
set_option maxHeartbeats 0
set_option maxRecDepth 100000
noncomputable section
def GF:{c:CF // bG TP Tryz.f107=some c}:=by
 apply Subtype.mk
 conv=>lhs;reduce;(try dsimp only [zI,zN])
def cf107:CF:=GF.1
theorem cf107_ok:bG TP Tryz.f107=some cf107:=GF.2
def GE:{c:CF // bG TP Tryz.f108=some c}:=by
 apply Subtype.mk
 conv=>lhs;reduce;(try dsimp only [zI,zN])
def cf108:CF:=GE.1
theorem cf108_ok:bG TP Tryz.f108=some cf108:=GE.2
def GD:{c:CF // bG TP Tryz.f109=some c}:=by
 apply Subtype.mk
 conv=>lhs;reduce;(try dsimp only [zI,zN])
def cf109:CF:=GD.1
theorem cf109_ok:bG TP Tryz.f109=some cf109:=GD.2
def GC:{c:CF // bG TP Tryz.f110=some c}:=by
 apply Subtype.mk
 conv=>lhs;reduce;(try dsimp only [zI,zN])
def cf110:CF:=GC.1
theorem cf110_ok:bG TP Tryz.f110=some cf110:=GC.2
def GB:{c:CF // bG TP Tryz.f111=some c}:=by
 apply Subtype.mk
 conv=>lhs;reduce;(try dsimp only [zI,zN])
def cf111:CF:=GB.1
theorem cf111_ok:bG TP Tryz.f111=some cf111:=GB.2
def GA:{c:CF // bG TP Tryz.f112=some c}:=by
 apply Subtype.mk
 conv=>lhs;reduce;(try dsimp only [zI,zN])
def cf112:CF:=GA.1
theorem cf112_ok:bG TP Tryz.f112=some cf112:=GA.2
def Gz:{c:CF // bG TP Tryz.f113=some c}:=by
 apply Subtype.mk
 conv=>lhs;reduce;(try dsimp only [zI,zN])
def cf113:CF:=Gz.1
theorem cf113_ok:bG TP Tryz.f113=some cf113:=Gz.2
def Gy:{c:CF // bG TP Tryz.f114=some c}:=by
 apply Subtype.mk
 conv=>lhs;reduce;(try dsimp only [zI,zN])
def cf114:CF:=Gy.1
theorem cf114_ok:bG TP Tryz.f114=some cf114:=Gy.2
def Gx:{c:CF // bG TP Tryz.f115=some c}:=by
 apply Subtype.mk
 conv=>lhs;reduce;(try dsimp only [zI,zN])
def cf115:CF:=Gx.1
theorem cf115_ok:bG TP Tryz.f115=some cf115:=Gx.2
def Gv:{c:CF // bG TP Tryz.f116=some c}:=by
 apply Subtype.mk
 conv=>lhs;reduce;(try dsimp only [zI,zN])
def cf116:CF:=Gv.1
theorem cf116_ok:bG TP Tryz.f116=some cf116:=Gv.2
def Gu:{c:CF // bG TP Tryz.f117=some c}:=by
 apply Subtype.mk
 conv=>lhs;reduce;(try dsimp only [zI,zN])
def cf117:CF:=Gu.1
theorem cf117_ok:bG TP Tryz.f117=some cf117:=Gu.2
def Gt:{c:CF // bG TP Tryz.f118=some c}:=by
 apply Subtype.mk
 conv=>lhs;reduce;(try dsimp only [zI,zN])
def cf118:CF:=Gt.1
theorem cf118_ok:bG TP Tryz.f118=some cf118:=Gt.2
def Gq:{c:CF // bG TP Tryz.f119=some c}:=by
 apply Subtype.mk
 conv=>lhs;reduce;(try dsimp only [zI,zN])
def cf119:CF:=Gq.1
theorem cf119_ok:bG TP Tryz.f119=some cf119:=Gq.2
def Gp:{c:CF // bG TP Tryz.f122=some c}:=by
 apply Subtype.mk
 conv=>lhs;reduce;(try dsimp only [zI,zN])
def cf122:CF:=Gp.1
theorem cf122_ok:bG TP Tryz.f122=some cf122:=Gp.2
def Gn:{c:CF // bG TP Tryz.f123=some c}:=by
 apply Subtype.mk
 conv=>lhs;reduce;(try dsimp only [zI,zN])
def cf123:CF:=Gn.1
theorem cf123_ok:bG TP Tryz.f123=some cf123:=Gn.2
def Gl:{c:CF // bG TP Tryz.f128=some c}:=by
 apply Subtype.mk
 conv=>lhs;reduce;(try dsimp only [zI,zN])
def cf128:CF:=Gl.1
theorem cf128_ok:bG TP Tryz.f128=some cf128:=Gl.2
def Gk:{c:CF // bG TP Tryz.f129=some c}:=by
 apply Subtype.mk
 conv=>lhs;reduce;(try dsimp only [zI,zN])
def cf129:CF:=Gk.1
theorem cf129_ok:bG TP Tryz.f129=some cf129:=Gk.2
def Gj:{c:CF // bG TP Tryz.f130=some c}:=by
 apply Subtype.mk
 conv=>lhs;reduce;(try dsimp only [zI,zN])
def cf130:CF:=Gj.1
theorem cf130_ok:bG TP Tryz.f130=some cf130:=Gj.2
def Gi:{c:CF // bG TP Tryz.f131=some c}:=by
 apply Subtype.mk
 conv=>lhs;reduce;(try dsimp only [zI,zN])
def cf131:CF:=Gi.1
theorem cf131_ok:bG TP Tryz.f131=some cf131:=Gi.2
def Gh:{c:CF // bG TP Tryz.f132=some c}:=by
 apply Subtype.mk
 conv=>lhs;reduce;(try dsimp only [zI,zN])
def cf132:CF:=Gh.1
theorem cf132_ok:bG TP Tryz.f132=some cf132:=Gh.2
def Gg:{c:CF // bG TP Tryz.f133=some c}:=by
 apply Subtype.mk
 conv=>lhs;reduce;(try dsimp only [zI,zN])
def cf133:CF:=Gg.1
theorem cf133_ok:bG TP Tryz.f133=some cf133:=Gg.2
def Ge:{c:CF // bG TP Tryz.f134=some c}:=by
 apply Subtype.mk
 conv=>lhs;reduce;(try dsimp only [zI,zN])
def cf134:CF:=Ge.1
theorem cf134_ok:bG TP Tryz.f134=some cf134:=Ge.2
def Gd:{c:CF // bG TP Tryz.f135=some c}:=by
 apply Subtype.mk
 conv=>lhs;reduce;(try dsimp only [zI,zN])
def cf135:CF:=Gd.1
theorem cf135_ok:bG TP Tryz.f135=some cf135:=Gd.2
def Gc:{c:CF // bG TP Tryz.f137=some c}:=by
 apply Subtype.mk
 conv=>lhs;reduce;(try dsimp only [zI,zN])
def cf137:CF:=Gc.1
theorem cf137_ok:bG TP Tryz.f137=some cf137:=Gc.2
def Gb:{c:CF // bG TP Tryz.f138=some c}:=by
 apply Subtype.mk
 conv=>lhs;reduce;(try dsimp only [zI,zN])
def cf138:CF:=Gb.1
theorem cf138_ok:bG TP Tryz.f138=some cf138:=Gb.2
def Ga:{c:CF // bG TP Tryz.f145=some c}:=by
 apply Subtype.mk
 conv=>lhs;reduce;(try dsimp only [zI,zN])
def cf145:CF:=Ga.1
theorem cf145_ok:bG TP Tryz.f145=some cf145:=Ga.2
def F9:{c:CF // bG TP Tryz.f146=some c}:=by
 apply Subtype.mk
 conv=>lhs;reduce;(try dsimp only [zI,zN])
def cf146:CF:=F9.1
theorem cf146_ok:bG TP Tryz.f146=some cf146:=F9.2
def cf147:CF:=⟨3,(.seq (.reg [⟨.l 4,.a (.box),[.l 1],none,0,0⟩])
 (.seq (.reg [⟨.t 7,.p (.fa 4),[.l 4],none,0,0⟩,⟨.t 8,.r (.load false 1),[.t 7],none,0,0⟩,⟨.t 9,.p (.leng .sl),[.t 8],none,0,0⟩,⟨.l 6,.p (.mv),[.t 9],none,0,0⟩])
 (.seq (.seq (.regD [⟨.t 10,.p (.mv),[.l 0],none,0,0⟩,⟨.t 11,.p (.nilc),[.t 10],none,0,0⟩,⟨.t 12,.p (.fa 3),[.t 11],none,0,0⟩,⟨.t 13,.r (.load false 1),[.t 12],none,0,0⟩,⟨.t 14,.p (.fa 2),[.l 4],none,0,0⟩,⟨.t 15,.r (.load false 1),[.t 14],none,0,0⟩,⟨.t 16,.p (.mv),[.l 6],none,0,0⟩,⟨.t 17,.p (.build [(.str 0 0),(.int .i64 0)] [(0,1),(1,1)]),[.t 15,.t 16],none,0,0⟩,⟨.t 18,.r (.lookup (.agg [.s,.i]) false (.int .i64 0)),[.t 13,.t 17],none,0,0⟩,⟨.t 19,.p (.bin .eql),[.t 18,.c (.int .i64 0)],none,0,0⟩,⟨.t 20,.p (.mv),[.t 19],none,0,0⟩,⟨.t 21,.p (.fa 2),[.l 4],(some (.t 20,true)),0,0⟩,⟨.t 22,.r (.load false 1),[.t 21],(some (.t 20,true)),0,0⟩,⟨.t 23,.p (.mv),[.l 6],(some (.t 20,true)),0,0⟩,⟨.t 24,.call 51,[.t 22,.t 23],(some (.t 20,true)),0,1⟩,⟨.t 25,.p (.bin .eql),[.t 24,.c (.int .i64 0)],(some (.t 20,true)),1,1⟩,⟨.l 26,.p (.pick),[.t 20,.t 25,.c (.bool false)],none,1,1⟩])
 (.cond (.l 26) (.reg [⟨.t 27,.p (.mv),[.l 0],none,0,0⟩,⟨.t 28,.p (.fa 2),[.l 4],none,0,0⟩,⟨.t 29,.r (.load false 1),[.t 28],none,0,0⟩,⟨.t 30,.p (.mv),[.l 6],none,0,0⟩,⟨.t 31,.call 50,[.t 27,.c (.int .i64 6),.t 29,.t 30],none,0,0⟩])
 .skip))
 (.reg [⟨.t 32,.p (.mv),[.l 0],none,0,0⟩,⟨.t 33,.p (.fa 4),[.l 4],none,0,0⟩,⟨.t 34,.r (.load false 1),[.t 33],none,0,0⟩,⟨.t 35,.p (.mv),[.l 2],none,0,0⟩,⟨.t 36,.call 129,[.t 32,.t 34,.t 35],none,0,0⟩])))),
 []⟩
theorem cf147_ok:bG TP Tryz.f147=some cf147:=by kernel_rfl
def F8:{c:CF // bG TP Tryz.f148=some c}:=by
 apply Subtype.mk
 conv=>lhs;reduce;(try dsimp only [zI,zN])
def cf148:CF:=F8.1
theorem cf148_ok:bG TP Tryz.f148=some cf148:=F8.2
def F7:{c:CF // bG TP Tryz.f149=some c}:=by
 apply Subtype.mk
 conv=>lhs;reduce;(try dsimp only [zI,zN])
def cf149:CF:=F7.1
theorem cf149_ok:bG TP Tryz.f149=some cf149:=F7.2
def F6:{c:CF // bG TP Tryz.f150=some c}:=by
 apply Subtype.mk
 conv=>lhs;reduce;(try dsimp only [zI,zN])
def cf150:CF:=F6.1
theorem cf150_ok:bG TP Tryz.f150=some cf150:=F6.2
def F5:{c:CF // bG TP Tryz.f151=some c}:=by
 apply Subtype.mk
 conv=>lhs;reduce;(try dsimp only [zI,zN])
def cf151:CF:=F5.1
theorem cf151_ok:bG TP Tryz.f151=some cf151:=F5.2
def F4:{c:CF // bG TP Tryz.f152=some c}:=by
 apply Subtype.mk
 conv=>lhs;reduce;(try dsimp only [zI,zN])
def cf152:CF:=F4.1
theorem cf152_ok:bG TP Tryz.f152=some cf152:=F4.2
def F3:{c:CF // bG TP Tryz.f153=some c}:=by
 apply Subtype.mk
 conv=>lhs;reduce;(try dsimp only [zI,zN])
def cf153:CF:=F3.1
theorem cf153_ok:bG TP Tryz.f153=some cf153:=F3.2
def F2:{c:CF // bG TP Tryz.f154=some c}:=by
 apply Subtype.mk
 conv=>lhs;reduce;(try dsimp only [zI,zN])
def cf154:CF:=F2.1
theorem cf154_ok:bG TP Tryz.f154=some cf154:=F2.2
def F1:{c:CF // bG TP Tryz.f155=some c}:=by
 apply Subtype.mk
 conv=>lhs;reduce;(try dsimp only [zI,zN])
def cf155:CF:=F1.1
theorem cf155_ok:bG TP Tryz.f155=some cf155:=F1.2
def FZ:{c:CF // bG TP Tryz.f160=some c}:=by
 apply Subtype.mk
 conv=>lhs;reduce;(try dsimp only [zI,zN])
def cf160:CF:=FZ.1
theorem cf160_ok:bG TP Tryz.f160=some cf160:=FZ.2
def FY:{c:CF // bG TP Tryz.f162=some c}:=by
 apply Subtype.mk
 conv=>lhs;reduce;(try dsimp only [zI,zN])
def cf162:CF:=FY.1
theorem cf162_ok:bG TP Tryz.f162=some cf162:=FY.2
def FX:{c:CF // bG TP Tryz.f163=some c}:=by
 apply Subtype.mk
 conv=>lhs;reduce;(try dsimp only [zI,zN])
def cf163:CF:=FX.1
theorem cf163_ok:bG TP Tryz.f163=some cf163:=FX.2
def FW:{c:CF // bG TP Tryz.f164=some c}:=by
 apply Subtype.mk
 conv=>lhs;reduce;(try dsimp only [zI,zN])
def cf164:CF:=FW.1
theorem cf164_ok:bG TP Tryz.f164=some cf164:=FW.2
def FV:{c:CF // bG TP Tryz.f165=some c}:=by
 apply Subtype.mk
 conv=>lhs;reduce;(try dsimp only [zI,zN])
def cf165:CF:=FV.1
theorem cf165_ok:bG TP Tryz.f165=some cf165:=FV.2
def FU:{c:CF // bG TP Tryz.f166=some c}:=by
 apply Subtype.mk
 conv=>lhs;reduce;(try dsimp only [zI,zN])
def cf166:CF:=FU.1
theorem cf166_ok:bG TP Tryz.f166=some cf166:=FU.2
def FT:{c:CF // bG TP Tryz.f167=some c}:=by
 apply Subtype.mk
 conv=>lhs;reduce;(try dsimp only [zI,zN])
def cf167:CF:=FT.1
theorem cf167_ok:bG TP Tryz.f167=some cf167:=FT.2
def FQ:{c:CF // bG TP Tryz.f171=some c}:=by
 apply Subtype.mk
 conv=>lhs;reduce;(try dsimp only [zI,zN])
def cf171:CF:=FQ.1
theorem cf171_ok:bG TP Tryz.f171=some cf171:=FQ.2
def FP:{c:CF // bG TP Tryz.f172=some c}:=by
 apply Subtype.mk
 conv=>lhs;reduce;(try dsimp only [zI,zN])
def cf172:CF:=FP.1
theorem cf172_ok:bG TP Tryz.f172=some cf172:=FP.2
def FO:{c:CF // bG TP Tryz.f173=some c}:=by
 apply Subtype.mk
 conv=>lhs;reduce;(try dsimp only [zI,zN])
def cf173:CF:=FO.1
theorem cf173_ok:bG TP Tryz.f173=some cf173:=FO.2
def FM:{c:CF // bG TP Tryz.f174=some c}:=by
 apply Subtype.mk
 conv=>lhs;reduce;(try dsimp only [zI,zN])
def cf174:CF:=FM.1
theorem cf174_ok:bG TP Tryz.f174=some cf174:=FM.2
def FL:{c:CF // bG TP Tryz.f175=some c}:=by
 apply Subtype.mk
 conv=>lhs;reduce;(try dsimp only [zI,zN])
def cf175:CF:=FL.1
theorem cf175_ok:bG TP Tryz.f175=some cf175:=FL.2
def FK:{c:CF // bG TP Tryz.f176=some c}:=by
 apply Subtype.mk
 conv=>lhs;reduce;(try dsimp only [zI,zN])
def cf176:CF:=FK.1
theorem cf176_ok:bG TP Tryz.f176=some cf176:=FK.2
def FJ:{c:CF // bG TP Tryz.f177=some c}:=by
 apply Subtype.mk
 conv=>lhs;reduce;(try dsimp only [zI,zN])
def cf177:CF:=FJ.1
theorem cf177_ok:bG TP Tryz.f177=some cf177:=FJ.2
def FI:{c:CF // bG TP Tryz.f178=some c}:=by
 apply Subtype.mk
 conv=>lhs;reduce;(try dsimp only [zI,zN])
def cf178:CF:=FI.1
theorem cf178_ok:bG TP Tryz.f178=some cf178:=FI.2
def FH:{c:CF // bG TP Tryz.f182=some c}:=by
 apply Subtype.mk
 conv=>lhs;reduce;(try dsimp only [zI,zN])
def cf182:CF:=FH.1
theorem cf182_ok:bG TP Tryz.f182=some cf182:=FH.2
def FF:{c:CF // bG TP Tryz.f183=some c}:=by
 apply Subtype.mk
 conv=>lhs;reduce;(try dsimp only [zI,zN])
def cf183:CF:=FF.1
theorem cf183_ok:bG TP Tryz.f183=some cf183:=FF.2
def FE:{c:CF // bG TP Tryz.f184=some c}:=by
 apply Subtype.mk
 conv=>lhs;reduce;(try dsimp only [zI,zN])
def cf184:CF:=FE.1
theorem cf184_ok:bG TP Tryz.f184=some cf184:=FE.2
def FD:{c:CF // bG TP Tryz.f185=some c}:=by
 apply Subtype.mk
 conv=>lhs;reduce;(try dsimp only [zI,zN])
def cf185:CF:=FD.1
theorem cf185_ok:bG TP Tryz.f185=some cf185:=FD.2
def FC:{c:CF // bG TP Tryz.f186=some c}:=by
 apply Subtype.mk
 conv=>lhs;reduce;(try dsimp only [zI,zN])
def cf186:CF:=FC.1
theorem cf186_ok:bG TP Tryz.f186=some cf186:=FC.2
def FB:{c:CF // bG TP Tryz.f187=some c}:=by
 apply Subtype.mk
 conv=>lhs;reduce;(try dsimp only [zI,zN])
def cf187:CF:=FB.1
theorem cf187_ok:bG TP Tryz.f187=some cf187:=FB.2
def FA:{c:CF // bG TP Tryz.f199=some c}:=by
 apply Subtype.mk
 conv=>lhs;reduce;(try dsimp only [zI,zN])
def cf199:CF:=FA.1
theorem cf199_ok:bG TP Tryz.f199=some cf199:=FA.2
def Fz:{c:CF // bG TP Tryz.f200=some c}:=by
 apply Subtype.mk
 conv=>lhs;reduce;(try dsimp only [zI,zN])
def cf200:CF:=Fz.1
theorem cf200_ok:bG TP Tryz.f200=some cf200:=Fz.2
def Fy:{c:CF // bG TP Tryz.f201=some c}:=by
 apply Subtype.mk
 conv=>lhs;reduce;(try dsimp only [zI,zN])
def cf201:CF:=Fy.1
theorem cf201_ok:bG TP Tryz.f201=some cf201:=Fy.2
def Fx:{c:CF // bG TP Tryz.f208=some c}:=by
 apply Subtype.mk
 conv=>lhs;reduce;(try dsimp only [zI,zN])
def cf208:CF:=Fx.1
theorem cf208_ok:bG TP Tryz.f208=some cf208:=Fx.2
def Fw:{c:CF // bG TP Tryz.f209=some c}:=by
 apply Subtype.mk
 conv=>lhs;reduce;(try dsimp only [zI,zN])
def cf209:CF:=Fw.1
theorem cf209_ok:bG TP Tryz.f209=some cf209:=Fw.2
end
end Ev
end Go.Proofs.YtdfphfdnoobikaaGreatDoor
