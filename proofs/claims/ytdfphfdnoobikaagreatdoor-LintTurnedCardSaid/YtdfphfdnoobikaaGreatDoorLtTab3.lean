/-
  The functions of the program,compiled (those that are printed:by a program of ours;each is held against the program's own text).
-/
import Derived.Test.YtdfphfdnoobikaaGreatDoorLtTab1
namespace Go.Proofs.YtdfphfdnoobikaaGreatDoor
namespace Ev
set_option maxHeartbeats 0
set_option maxRecDepth 100000
noncomputable section
def Fw:{c:CF // bG TP Tryz.f107=some c}:=by
 apply Subtype.mk
 conv=>lhs;reduce;(try dsimp only [zI,zN])
def cf107:CF:=Fw.1
theorem cf107_ok:bG TP Tryz.f107=some cf107:=Fw.2
def Fv:{c:CF // bG TP Tryz.f108=some c}:=by
 apply Subtype.mk
 conv=>lhs;reduce;(try dsimp only [zI,zN])
def cf108:CF:=Fv.1
theorem cf108_ok:bG TP Tryz.f108=some cf108:=Fv.2
def Fs:{c:CF // bG TP Tryz.f109=some c}:=by
 apply Subtype.mk
 conv=>lhs;reduce;(try dsimp only [zI,zN])
def cf109:CF:=Fs.1
theorem cf109_ok:bG TP Tryz.f109=some cf109:=Fs.2
def Fr:{c:CF // bG TP Tryz.f110=some c}:=by
 apply Subtype.mk
 conv=>lhs;reduce;(try dsimp only [zI,zN])
def cf110:CF:=Fr.1
theorem cf110_ok:bG TP Tryz.f110=some cf110:=Fr.2
def Fq:{c:CF // bG TP Tryz.f111=some c}:=by
 apply Subtype.mk
 conv=>lhs;reduce;(try dsimp only [zI,zN])
def cf111:CF:=Fq.1
theorem cf111_ok:bG TP Tryz.f111=some cf111:=Fq.2
def Fp:{c:CF // bG TP Tryz.f112=some c}:=by
 apply Subtype.mk
 conv=>lhs;reduce;(try dsimp only [zI,zN])
def cf112:CF:=Fp.1
theorem cf112_ok:bG TP Tryz.f112=some cf112:=Fp.2
def Fo:{c:CF // bG TP Tryz.f113=some c}:=by
 apply Subtype.mk
 conv=>lhs;reduce;(try dsimp only [zI,zN])
def cf113:CF:=Fo.1
theorem cf113_ok:bG TP Tryz.f113=some cf113:=Fo.2
def Fm:{c:CF // bG TP Tryz.f114=some c}:=by
 apply Subtype.mk
 conv=>lhs;reduce;(try dsimp only [zI,zN])
def cf114:CF:=Fm.1
theorem cf114_ok:bG TP Tryz.f114=some cf114:=Fm.2
def Fk:{c:CF // bG TP Tryz.f115=some c}:=by
 apply Subtype.mk
 conv=>lhs;reduce;(try dsimp only [zI,zN])
def cf115:CF:=Fk.1
theorem cf115_ok:bG TP Tryz.f115=some cf115:=Fk.2
def Fj:{c:CF // bG TP Tryz.f116=some c}:=by
 apply Subtype.mk
 conv=>lhs;reduce;(try dsimp only [zI,zN])
def cf116:CF:=Fj.1
theorem cf116_ok:bG TP Tryz.f116=some cf116:=Fj.2
def Fi:{c:CF // bG TP Tryz.f117=some c}:=by
 apply Subtype.mk
 conv=>lhs;reduce;(try dsimp only [zI,zN])
def cf117:CF:=Fi.1
theorem cf117_ok:bG TP Tryz.f117=some cf117:=Fi.2
def Fh:{c:CF // bG TP Tryz.f118=some c}:=by
 apply Subtype.mk
 conv=>lhs;reduce;(try dsimp only [zI,zN])
def cf118:CF:=Fh.1
theorem cf118_ok:bG TP Tryz.f118=some cf118:=Fh.2
def Fg:{c:CF // bG TP Tryz.f119=some c}:=by
 apply Subtype.mk
 conv=>lhs;reduce;(try dsimp only [zI,zN])
def cf119:CF:=Fg.1
theorem cf119_ok:bG TP Tryz.f119=some cf119:=Fg.2
def Ff:{c:CF // bG TP Tryz.f122=some c}:=by
 apply Subtype.mk
 conv=>lhs;reduce;(try dsimp only [zI,zN])
def cf122:CF:=Ff.1
theorem cf122_ok:bG TP Tryz.f122=some cf122:=Ff.2
def Fe:{c:CF // bG TP Tryz.f123=some c}:=by
 apply Subtype.mk
 conv=>lhs;reduce;(try dsimp only [zI,zN])
def cf123:CF:=Fe.1
theorem cf123_ok:bG TP Tryz.f123=some cf123:=Fe.2
def Fc:{c:CF // bG TP Tryz.f128=some c}:=by
 apply Subtype.mk
 conv=>lhs;reduce;(try dsimp only [zI,zN])
def cf128:CF:=Fc.1
theorem cf128_ok:bG TP Tryz.f128=some cf128:=Fc.2
def Fb:{c:CF // bG TP Tryz.f129=some c}:=by
 apply Subtype.mk
 conv=>lhs;reduce;(try dsimp only [zI,zN])
def cf129:CF:=Fb.1
theorem cf129_ok:bG TP Tryz.f129=some cf129:=Fb.2
def Fa:{c:CF // bG TP Tryz.f130=some c}:=by
 apply Subtype.mk
 conv=>lhs;reduce;(try dsimp only [zI,zN])
def cf130:CF:=Fa.1
theorem cf130_ok:bG TP Tryz.f130=some cf130:=Fa.2
def E9:{c:CF // bG TP Tryz.f131=some c}:=by
 apply Subtype.mk
 conv=>lhs;reduce;(try dsimp only [zI,zN])
def cf131:CF:=E9.1
theorem cf131_ok:bG TP Tryz.f131=some cf131:=E9.2
def E8:{c:CF // bG TP Tryz.f132=some c}:=by
 apply Subtype.mk
 conv=>lhs;reduce;(try dsimp only [zI,zN])
def cf132:CF:=E8.1
theorem cf132_ok:bG TP Tryz.f132=some cf132:=E8.2
def E7:{c:CF // bG TP Tryz.f133=some c}:=by
 apply Subtype.mk
 conv=>lhs;reduce;(try dsimp only [zI,zN])
def cf133:CF:=E7.1
theorem cf133_ok:bG TP Tryz.f133=some cf133:=E7.2
def E6:{c:CF // bG TP Tryz.f134=some c}:=by
 apply Subtype.mk
 conv=>lhs;reduce;(try dsimp only [zI,zN])
def cf134:CF:=E6.1
theorem cf134_ok:bG TP Tryz.f134=some cf134:=E6.2
def E5:{c:CF // bG TP Tryz.f135=some c}:=by
 apply Subtype.mk
 conv=>lhs;reduce;(try dsimp only [zI,zN])
def cf135:CF:=E5.1
theorem cf135_ok:bG TP Tryz.f135=some cf135:=E5.2
def E4:{c:CF // bG TP Tryz.f137=some c}:=by
 apply Subtype.mk
 conv=>lhs;reduce;(try dsimp only [zI,zN])
def cf137:CF:=E4.1
theorem cf137_ok:bG TP Tryz.f137=some cf137:=E4.2
def E3:{c:CF // bG TP Tryz.f138=some c}:=by
 apply Subtype.mk
 conv=>lhs;reduce;(try dsimp only [zI,zN])
def cf138:CF:=E3.1
theorem cf138_ok:bG TP Tryz.f138=some cf138:=E3.2
def EZ:{c:CF // bG TP Tryz.f145=some c}:=by
 apply Subtype.mk
 conv=>lhs;reduce;(try dsimp only [zI,zN])
def cf145:CF:=EZ.1
theorem cf145_ok:bG TP Tryz.f145=some cf145:=EZ.2
def EY:{c:CF // bG TP Tryz.f146=some c}:=by
 apply Subtype.mk
 conv=>lhs;reduce;(try dsimp only [zI,zN])
def cf146:CF:=EY.1
theorem cf146_ok:bG TP Tryz.f146=some cf146:=EY.2
def cf147:CF:=⟨3,(.seq (.reg [⟨.l 4,.a (.box),[.l 1],none,0,0⟩])
 (.seq (.reg [⟨.t 7,.p (.fa 4),[.l 4],none,0,0⟩,⟨.t 8,.r (.load false 1),[.t 7],none,0,0⟩,⟨.t 9,.p (.leng .sl),[.t 8],none,0,0⟩,⟨.l 6,.p (.mv),[.t 9],none,0,0⟩])
 (.seq (.seq (.regD [⟨.t 10,.p (.mv),[.l 0],none,0,0⟩,⟨.t 11,.p (.nilc),[.t 10],none,0,0⟩,⟨.t 12,.p (.fa 3),[.t 11],none,0,0⟩,⟨.t 13,.r (.load false 1),[.t 12],none,0,0⟩,⟨.t 14,.p (.fa 2),[.l 4],none,0,0⟩,⟨.t 15,.r (.load false 1),[.t 14],none,0,0⟩,⟨.t 16,.p (.mv),[.l 6],none,0,0⟩,⟨.t 17,.p (.build [(.str 0 0),(.int .i64 0)] [(0,1),(1,1)]),[.t 15,.t 16],none,0,0⟩,⟨.t 18,.r (.lookup (.agg [.s,.i]) false (.int .i64 0)),[.t 13,.t 17],none,0,0⟩,⟨.t 19,.p (.bin .eql),[.t 18,.c (.int .i64 0)],none,0,0⟩,⟨.t 20,.p (.mv),[.t 19],none,0,0⟩,⟨.t 21,.p (.fa 2),[.l 4],(some (.t 20,true)),0,0⟩,⟨.t 22,.r (.load false 1),[.t 21],(some (.t 20,true)),0,0⟩,⟨.t 23,.p (.mv),[.l 6],(some (.t 20,true)),0,0⟩,⟨.t 24,.call 51,[.t 22,.t 23],(some (.t 20,true)),0,1⟩,⟨.t 25,.p (.bin .eql),[.t 24,.c (.int .i64 0)],(some (.t 20,true)),1,1⟩,⟨.l 26,.p (.pick),[.t 20,.t 25,.c (.bool false)],none,1,1⟩])
 (.cond (.l 26) (.reg [⟨.t 27,.p (.mv),[.l 0],none,0,0⟩,⟨.t 28,.p (.fa 2),[.l 4],none,0,0⟩,⟨.t 29,.r (.load false 1),[.t 28],none,0,0⟩,⟨.t 30,.p (.mv),[.l 6],none,0,0⟩,⟨.t 31,.call 50,[.t 27,.c (.int .i64 6),.t 29,.t 30],none,0,0⟩])
 .skip))
 (.reg [⟨.t 32,.p (.mv),[.l 0],none,0,0⟩,⟨.t 33,.p (.fa 4),[.l 4],none,0,0⟩,⟨.t 34,.r (.load false 1),[.t 33],none,0,0⟩,⟨.t 35,.p (.mv),[.l 2],none,0,0⟩,⟨.t 36,.call 129,[.t 32,.t 34,.t 35],none,0,0⟩])))),
 []⟩
theorem cf147_ok:bG TP Tryz.f147=some cf147:=by kernel_rfl
def EW:{c:CF // bG TP Tryz.f148=some c}:=by
 apply Subtype.mk
 conv=>lhs;reduce;(try dsimp only [zI,zN])
def cf148:CF:=EW.1
theorem cf148_ok:bG TP Tryz.f148=some cf148:=EW.2
def EV:{c:CF // bG TP Tryz.f149=some c}:=by
 apply Subtype.mk
 conv=>lhs;reduce;(try dsimp only [zI,zN])
def cf149:CF:=EV.1
theorem cf149_ok:bG TP Tryz.f149=some cf149:=EV.2
def EU:{c:CF // bG TP Tryz.f150=some c}:=by
 apply Subtype.mk
 conv=>lhs;reduce;(try dsimp only [zI,zN])
def cf150:CF:=EU.1
theorem cf150_ok:bG TP Tryz.f150=some cf150:=EU.2
def ET:{c:CF // bG TP Tryz.f151=some c}:=by
 apply Subtype.mk
 conv=>lhs;reduce;(try dsimp only [zI,zN])
def cf151:CF:=ET.1
theorem cf151_ok:bG TP Tryz.f151=some cf151:=ET.2
def ES:{c:CF // bG TP Tryz.f152=some c}:=by
 apply Subtype.mk
 conv=>lhs;reduce;(try dsimp only [zI,zN])
def cf152:CF:=ES.1
theorem cf152_ok:bG TP Tryz.f152=some cf152:=ES.2
def ER:{c:CF // bG TP Tryz.f153=some c}:=by
 apply Subtype.mk
 conv=>lhs;reduce;(try dsimp only [zI,zN])
def cf153:CF:=ER.1
theorem cf153_ok:bG TP Tryz.f153=some cf153:=ER.2
def EQ:{c:CF // bG TP Tryz.f154=some c}:=by
 apply Subtype.mk
 conv=>lhs;reduce;(try dsimp only [zI,zN])
def cf154:CF:=EQ.1
theorem cf154_ok:bG TP Tryz.f154=some cf154:=EQ.2
def EP:{c:CF // bG TP Tryz.f155=some c}:=by
 apply Subtype.mk
 conv=>lhs;reduce;(try dsimp only [zI,zN])
def cf155:CF:=EP.1
theorem cf155_ok:bG TP Tryz.f155=some cf155:=EP.2
def EO:{c:CF // bG TP Tryz.f160=some c}:=by
 apply Subtype.mk
 conv=>lhs;reduce;(try dsimp only [zI,zN])
def cf160:CF:=EO.1
theorem cf160_ok:bG TP Tryz.f160=some cf160:=EO.2
def EN:{c:CF // bG TP Tryz.f162=some c}:=by
 apply Subtype.mk
 conv=>lhs;reduce;(try dsimp only [zI,zN])
def cf162:CF:=EN.1
theorem cf162_ok:bG TP Tryz.f162=some cf162:=EN.2
def EM:{c:CF // bG TP Tryz.f163=some c}:=by
 apply Subtype.mk
 conv=>lhs;reduce;(try dsimp only [zI,zN])
def cf163:CF:=EM.1
theorem cf163_ok:bG TP Tryz.f163=some cf163:=EM.2
def EL:{c:CF // bG TP Tryz.f164=some c}:=by
 apply Subtype.mk
 conv=>lhs;reduce;(try dsimp only [zI,zN])
def cf164:CF:=EL.1
theorem cf164_ok:bG TP Tryz.f164=some cf164:=EL.2
def EK:{c:CF // bG TP Tryz.f165=some c}:=by
 apply Subtype.mk
 conv=>lhs;reduce;(try dsimp only [zI,zN])
def cf165:CF:=EK.1
theorem cf165_ok:bG TP Tryz.f165=some cf165:=EK.2
def EJ:{c:CF // bG TP Tryz.f166=some c}:=by
 apply Subtype.mk
 conv=>lhs;reduce;(try dsimp only [zI,zN])
def cf166:CF:=EJ.1
theorem cf166_ok:bG TP Tryz.f166=some cf166:=EJ.2
def EI:{c:CF // bG TP Tryz.f167=some c}:=by
 apply Subtype.mk
 conv=>lhs;reduce;(try dsimp only [zI,zN])
def cf167:CF:=EI.1
theorem cf167_ok:bG TP Tryz.f167=some cf167:=EI.2
def EH:{c:CF // bG TP Tryz.f171=some c}:=by
 apply Subtype.mk
 conv=>lhs;reduce;(try dsimp only [zI,zN])
def cf171:CF:=EH.1
theorem cf171_ok:bG TP Tryz.f171=some cf171:=EH.2
def EG:{c:CF // bG TP Tryz.f172=some c}:=by
 apply Subtype.mk
 conv=>lhs;reduce;(try dsimp only [zI,zN])
def cf172:CF:=EG.1
theorem cf172_ok:bG TP Tryz.f172=some cf172:=EG.2
def EF:{c:CF // bG TP Tryz.f173=some c}:=by
 apply Subtype.mk
 conv=>lhs;reduce;(try dsimp only [zI,zN])
def cf173:CF:=EF.1
theorem cf173_ok:bG TP Tryz.f173=some cf173:=EF.2
def EE:{c:CF // bG TP Tryz.f174=some c}:=by
 apply Subtype.mk
 conv=>lhs;reduce;(try dsimp only [zI,zN])
def cf174:CF:=EE.1
theorem cf174_ok:bG TP Tryz.f174=some cf174:=EE.2
def ED:{c:CF // bG TP Tryz.f175=some c}:=by
 apply Subtype.mk
 conv=>lhs;reduce;(try dsimp only [zI,zN])
def cf175:CF:=ED.1
theorem cf175_ok:bG TP Tryz.f175=some cf175:=ED.2
def EC:{c:CF // bG TP Tryz.f176=some c}:=by
 apply Subtype.mk
 conv=>lhs;reduce;(try dsimp only [zI,zN])
def cf176:CF:=EC.1
theorem cf176_ok:bG TP Tryz.f176=some cf176:=EC.2
def EB:{c:CF // bG TP Tryz.f177=some c}:=by
 apply Subtype.mk
 conv=>lhs;reduce;(try dsimp only [zI,zN])
def cf177:CF:=EB.1
theorem cf177_ok:bG TP Tryz.f177=some cf177:=EB.2
def EA:{c:CF // bG TP Tryz.f178=some c}:=by
 apply Subtype.mk
 conv=>lhs;reduce;(try dsimp only [zI,zN])
def cf178:CF:=EA.1
theorem cf178_ok:bG TP Tryz.f178=some cf178:=EA.2
def Ez:{c:CF // bG TP Tryz.f182=some c}:=by
 apply Subtype.mk
 conv=>lhs;reduce;(try dsimp only [zI,zN])
def cf182:CF:=Ez.1
theorem cf182_ok:bG TP Tryz.f182=some cf182:=Ez.2
def Ey:{c:CF // bG TP Tryz.f183=some c}:=by
 apply Subtype.mk
 conv=>lhs;reduce;(try dsimp only [zI,zN])
def cf183:CF:=Ey.1
theorem cf183_ok:bG TP Tryz.f183=some cf183:=Ey.2
def Ew:{c:CF // bG TP Tryz.f184=some c}:=by
 apply Subtype.mk
 conv=>lhs;reduce;(try dsimp only [zI,zN])
def cf184:CF:=Ew.1
theorem cf184_ok:bG TP Tryz.f184=some cf184:=Ew.2
def Eu:{c:CF // bG TP Tryz.f185=some c}:=by
 apply Subtype.mk
 conv=>lhs;reduce;(try dsimp only [zI,zN])
def cf185:CF:=Eu.1
theorem cf185_ok:bG TP Tryz.f185=some cf185:=Eu.2
def Et:{c:CF // bG TP Tryz.f186=some c}:=by
 apply Subtype.mk
 conv=>lhs;reduce;(try dsimp only [zI,zN])
def cf186:CF:=Et.1
theorem cf186_ok:bG TP Tryz.f186=some cf186:=Et.2
def Es:{c:CF // bG TP Tryz.f187=some c}:=by
 apply Subtype.mk
 conv=>lhs;reduce;(try dsimp only [zI,zN])
def cf187:CF:=Es.1
theorem cf187_ok:bG TP Tryz.f187=some cf187:=Es.2
def Er:{c:CF // bG TP Tryz.f199=some c}:=by
 apply Subtype.mk
 conv=>lhs;reduce;(try dsimp only [zI,zN])
def cf199:CF:=Er.1
theorem cf199_ok:bG TP Tryz.f199=some cf199:=Er.2
def Ep:{c:CF // bG TP Tryz.f200=some c}:=by
 apply Subtype.mk
 conv=>lhs;reduce;(try dsimp only [zI,zN])
def cf200:CF:=Ep.1
theorem cf200_ok:bG TP Tryz.f200=some cf200:=Ep.2
def Eo:{c:CF // bG TP Tryz.f201=some c}:=by
 apply Subtype.mk
 conv=>lhs;reduce;(try dsimp only [zI,zN])
def cf201:CF:=Eo.1
theorem cf201_ok:bG TP Tryz.f201=some cf201:=Eo.2
def Em:{c:CF // bG TP Tryz.f208=some c}:=by
 apply Subtype.mk
 conv=>lhs;reduce;(try dsimp only [zI,zN])
def cf208:CF:=Em.1
theorem cf208_ok:bG TP Tryz.f208=some cf208:=Em.2
def El:{c:CF // bG TP Tryz.f209=some c}:=by
 apply Subtype.mk
 conv=>lhs;reduce;(try dsimp only [zI,zN])
def cf209:CF:=El.1
theorem cf209_ok:bG TP Tryz.f209=some cf209:=El.2
end
end Ev
end Go.Proofs.YtdfphfdnoobikaaGreatDoor
