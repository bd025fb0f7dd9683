/-
  The functions of the program,compiled (those that are printed:by a program of ours;each is held against the program's own text).
-/
import Derived.Test.YtdfphfdnoobikaaGreatDoorLtTab1
namespace Go.Proofs.YtdfphfdnoobikaaGreatDoor
namespace Ev
set_option maxHeartbeats 0
set_option maxRecDepth 100000
noncomputable section
def q46:{c:CF // bG TP Tryz.f46=some c}:=by
 apply Subtype.mk
 conv=>lhs;reduce;(try dsimp only [zI,zN])
def cf46:CF:=q46.1
theorem cf46_ok:bG TP Tryz.f46=some cf46:=q46.2
def q47:{c:CF // bG TP Tryz.f47=some c}:=by
 apply Subtype.mk
 conv=>lhs;reduce;(try dsimp only [zI,zN])
def cf47:CF:=q47.1
theorem cf47_ok:bG TP Tryz.f47=some cf47:=q47.2
def q48:{c:CF // bG TP Tryz.f48=some c}:=by
 apply Subtype.mk
 conv=>lhs;reduce;(try dsimp only [zI,zN])
def cf48:CF:=q48.1
theorem cf48_ok:bG TP Tryz.f48=some cf48:=q48.2
def q49:{c:CF // bG TP Tryz.f49=some c}:=by
 apply Subtype.mk
 conv=>lhs;reduce;(try dsimp only [zI,zN])
def cf49:CF:=q49.1
theorem cf49_ok:bG TP Tryz.f49=some cf49:=q49.2
def q50:{c:CF // bG TP Tryz.f50=some c}:=by
 apply Subtype.mk
 conv=>lhs;reduce;(try dsimp only [zI,zN])
def cf50:CF:=q50.1
theorem cf50_ok:bG TP Tryz.f50=some cf50:=q50.2
def q51:{c:CF // bG TP Tryz.f51=some c}:=by
 apply Subtype.mk
 conv=>lhs;reduce;(try dsimp only [zI,zN])
def cf51:CF:=q51.1
theorem cf51_ok:bG TP Tryz.f51=some cf51:=q51.2
def q52:{c:CF // bG TP Tryz.f52=some c}:=by
 apply Subtype.mk
 conv=>lhs;reduce;(try dsimp only [zI,zN])
def cf52:CF:=q52.1
theorem cf52_ok:bG TP Tryz.f52=some cf52:=q52.2
def q53:{c:CF // bG TP Tryz.f53=some c}:=by
 apply Subtype.mk
 conv=>lhs;reduce;(try dsimp only [zI,zN])
def cf53:CF:=q53.1
theorem cf53_ok:bG TP Tryz.f53=some cf53:=q53.2
def q54:{c:CF // bG TP Tryz.f54=some c}:=by
 apply Subtype.mk
 conv=>lhs;reduce;(try dsimp only [zI,zN])
def cf54:CF:=q54.1
theorem cf54_ok:bG TP Tryz.f54=some cf54:=q54.2
def q55:{c:CF // bG TP Tryz.f55=some c}:=by
 apply Subtype.mk
 conv=>lhs;reduce;(try dsimp only [zI,zN])
def cf55:CF:=q55.1
theorem cf55_ok:bG TP Tryz.f55=some cf55:=q55.2
def q56:{c:CF // bG TP Tryz.f56=some c}:=by
 apply Subtype.mk
 conv=>lhs;reduce;(try dsimp only [zI,zN])
def cf56:CF:=q56.1
theorem cf56_ok:bG TP Tryz.f56=some cf56:=q56.2
def q57:{c:CF // bG TP Tryz.f57=some c}:=by
 apply Subtype.mk
 conv=>lhs;reduce;(try dsimp only [zI,zN])
def cf57:CF:=q57.1
theorem cf57_ok:bG TP Tryz.f57=some cf57:=q57.2
def q58:{c:CF // bG TP Tryz.f58=some c}:=by
 apply Subtype.mk
 conv=>lhs;reduce;(try dsimp only [zI,zN])
def cf58:CF:=q58.1
theorem cf58_ok:bG TP Tryz.f58=some cf58:=q58.2
def q59:{c:CF // bG TP Tryz.f59=some c}:=by
 apply Subtype.mk
 conv=>lhs;reduce;(try dsimp only [zI,zN])
def cf59:CF:=q59.1
theorem cf59_ok:bG TP Tryz.f59=some cf59:=q59.2
def q60:{c:CF // bG TP Tryz.f60=some c}:=by
 apply Subtype.mk
 conv=>lhs;reduce;(try dsimp only [zI,zN])
def cf60:CF:=q60.1
theorem cf60_ok:bG TP Tryz.f60=some cf60:=q60.2
def q61:{c:CF // bG TP Tryz.f61=some c}:=by
 apply Subtype.mk
 conv=>lhs;reduce;(try dsimp only [zI,zN])
def cf61:CF:=q61.1
theorem cf61_ok:bG TP Tryz.f61=some cf61:=q61.2
def q62:{c:CF // bG TP Tryz.f62=some c}:=by
 apply Subtype.mk
 conv=>lhs;reduce;(try dsimp only [zI,zN])
def cf62:CF:=q62.1
theorem cf62_ok:bG TP Tryz.f62=some cf62:=q62.2
def q63:{c:CF // bG TP Tryz.f63=some c}:=by
 apply Subtype.mk
 conv=>lhs;reduce;(try dsimp only [zI,zN])
def cf63:CF:=q63.1
theorem cf63_ok:bG TP Tryz.f63=some cf63:=q63.2
def q64:{c:CF // bG TP Tryz.f64=some c}:=by
 apply Subtype.mk
 conv=>lhs;reduce;(try dsimp only [zI,zN])
def cf64:CF:=q64.1
theorem cf64_ok:bG TP Tryz.f64=some cf64:=q64.2
def q66:{c:CF // bG TP Tryz.f66=some c}:=by
 apply Subtype.mk
 conv=>lhs;reduce;(try dsimp only [zI,zN])
def cf66:CF:=q66.1
theorem cf66_ok:bG TP Tryz.f66=some cf66:=q66.2
def q67:{c:CF // bG TP Tryz.f67=some c}:=by
 apply Subtype.mk
 conv=>lhs;reduce;(try dsimp only [zI,zN])
def cf67:CF:=q67.1
theorem cf67_ok:bG TP Tryz.f67=some cf67:=q67.2
def q68:{c:CF // bG TP Tryz.f68=some c}:=by
 apply Subtype.mk
 conv=>lhs;reduce;(try dsimp only [zI,zN])
def cf68:CF:=q68.1
theorem cf68_ok:bG TP Tryz.f68=some cf68:=q68.2
def q69:{c:CF // bG TP Tryz.f69=some c}:=by
 apply Subtype.mk
 conv=>lhs;reduce;(try dsimp only [zI,zN])
def cf69:CF:=q69.1
theorem cf69_ok:bG TP Tryz.f69=some cf69:=q69.2
def q70:{c:CF // bG TP Tryz.f70=some c}:=by
 apply Subtype.mk
 conv=>lhs;reduce;(try dsimp only [zI,zN])
def cf70:CF:=q70.1
theorem cf70_ok:bG TP Tryz.f70=some cf70:=q70.2
def q71:{c:CF // bG TP Tryz.f71=some c}:=by
 apply Subtype.mk
 conv=>lhs;reduce;(try dsimp only [zI,zN])
def cf71:CF:=q71.1
theorem cf71_ok:bG TP Tryz.f71=some cf71:=q71.2
def q72:{c:CF // bG TP Tryz.f72=some c}:=by
 apply Subtype.mk
 conv=>lhs;reduce;(try dsimp only [zI,zN])
def cf72:CF:=q72.1
theorem cf72_ok:bG TP Tryz.f72=some cf72:=q72.2
def q73:{c:CF // bG TP Tryz.f73=some c}:=by
 apply Subtype.mk
 conv=>lhs;reduce;(try dsimp only [zI,zN])
def cf73:CF:=q73.1
theorem cf73_ok:bG TP Tryz.f73=some cf73:=q73.2
def q74:{c:CF // bG TP Tryz.f74=some c}:=by
 apply Subtype.mk
 conv=>lhs;reduce;(try dsimp only [zI,zN])
def cf74:CF:=q74.1
theorem cf74_ok:bG TP Tryz.f74=some cf74:=q74.2
def q75:{c:CF // bG TP Tryz.f75=some c}:=by
 apply Subtype.mk
 conv=>lhs;reduce;(try dsimp only [zI,zN])
def cf75:CF:=q75.1
theorem cf75_ok:bG TP Tryz.f75=some cf75:=q75.2
def q76:{c:CF // bG TP Tryz.f76=some c}:=by
 apply Subtype.mk
 conv=>lhs;reduce;(try dsimp only [zI,zN])
def cf76:CF:=q76.1
theorem cf76_ok:bG TP Tryz.f76=some cf76:=q76.2
def q77:{c:CF // bG TP Tryz.f77=some c}:=by
 apply Subtype.mk
 conv=>lhs;reduce;(try dsimp only [zI,zN])
def cf77:CF:=q77.1
theorem cf77_ok:bG TP Tryz.f77=some cf77:=q77.2
def q78:{c:CF // bG TP Tryz.f78=some c}:=by
 apply Subtype.mk
 conv=>lhs;reduce;(try dsimp only [zI,zN])
def cf78:CF:=q78.1
theorem cf78_ok:bG TP Tryz.f78=some cf78:=q78.2
def q79:{c:CF // bG TP Tryz.f79=some c}:=by
 apply Subtype.mk
 conv=>lhs;reduce;(try dsimp only [zI,zN])
def cf79:CF:=q79.1
theorem cf79_ok:bG TP Tryz.f79=some cf79:=q79.2
def q80:{c:CF // bG TP Tryz.f80=some c}:=by
 apply Subtype.mk
 conv=>lhs;reduce;(try dsimp only [zI,zN])
def cf80:CF:=q80.1
theorem cf80_ok:bG TP Tryz.f80=some cf80:=q80.2
def q81:{c:CF // bG TP Tryz.f81=some c}:=by
 apply Subtype.mk
 conv=>lhs;reduce;(try dsimp only [zI,zN])
def cf81:CF:=q81.1
theorem cf81_ok:bG TP Tryz.f81=some cf81:=q81.2
def q82:{c:CF // bG TP Tryz.f82=some c}:=by
 apply Subtype.mk
 conv=>lhs;reduce;(try dsimp only [zI,zN])
def cf82:CF:=q82.1
theorem cf82_ok:bG TP Tryz.f82=some cf82:=q82.2
def q83:{c:CF // bG TP Tryz.f83=some c}:=by
 apply Subtype.mk
 conv=>lhs;reduce;(try dsimp only [zI,zN])
def cf83:CF:=q83.1
theorem cf83_ok:bG TP Tryz.f83=some cf83:=q83.2
def q84:{c:CF // bG TP Tryz.f84=some c}:=by
 apply Subtype.mk
 conv=>lhs;reduce;(try dsimp only [zI,zN])
def cf84:CF:=q84.1
theorem cf84_ok:bG TP Tryz.f84=some cf84:=q84.2
def q86:{c:CF // bG TP Tryz.f86=some c}:=by
 apply Subtype.mk
 conv=>lhs;reduce;(try dsimp only [zI,zN])
def cf86:CF:=q86.1
theorem cf86_ok:bG TP Tryz.f86=some cf86:=q86.2
def q88:{c:CF // bG TP Tryz.f88=some c}:=by
 apply Subtype.mk
 conv=>lhs;reduce;(try dsimp only [zI,zN])
def cf88:CF:=q88.1
theorem cf88_ok:bG TP Tryz.f88=some cf88:=q88.2
def q90:{c:CF // bG TP Tryz.f90=some c}:=by
 apply Subtype.mk
 conv=>lhs;reduce;(try dsimp only [zI,zN])
def cf90:CF:=q90.1
theorem cf90_ok:bG TP Tryz.f90=some cf90:=q90.2
def q91:{c:CF // bG TP Tryz.f91=some c}:=by
 apply Subtype.mk
 conv=>lhs;reduce;(try dsimp only [zI,zN])
def cf91:CF:=q91.1
theorem cf91_ok:bG TP Tryz.f91=some cf91:=q91.2
def q92:{c:CF // bG TP Tryz.f92=some c}:=by
 apply Subtype.mk
 conv=>lhs;reduce;(try dsimp only [zI,zN])
def cf92:CF:=q92.1
theorem cf92_ok:bG TP Tryz.f92=some cf92:=q92.2
def q93:{c:CF // bG TP Tryz.f93=some c}:=by
 apply Subtype.mk
 conv=>lhs;reduce;(try dsimp only [zI,zN])
def cf93:CF:=q93.1
theorem cf93_ok:bG TP Tryz.f93=some cf93:=q93.2
def q94:{c:CF // bG TP Tryz.f94=some c}:=by
 apply Subtype.mk
 conv=>lhs;reduce;(try dsimp only [zI,zN])
def cf94:CF:=q94.1
theorem cf94_ok:bG TP Tryz.f94=some cf94:=q94.2
def q95:{c:CF // bG TP Tryz.f95=some c}:=by
 apply Subtype.mk
 conv=>lhs;reduce;(try dsimp only [zI,zN])
def cf95:CF:=q95.1
theorem cf95_ok:bG TP Tryz.f95=some cf95:=q95.2
def q97:{c:CF // bG TP Tryz.f97=some c}:=by
 apply Subtype.mk
 conv=>lhs;reduce;(try dsimp only [zI,zN])
def cf97:CF:=q97.1
theorem cf97_ok:bG TP Tryz.f97=some cf97:=q97.2
def q99:{c:CF // bG TP Tryz.f99=some c}:=by
 apply Subtype.mk
 conv=>lhs;reduce;(try dsimp only [zI,zN])
def cf99:CF:=q99.1
theorem cf99_ok:bG TP Tryz.f99=some cf99:=q99.2
def GM:{c:CF // bG TP Tryz.f100=some c}:=by
 apply Subtype.mk
 conv=>lhs;reduce;(try dsimp only [zI,zN])
def cf100:CF:=GM.1
theorem cf100_ok:bG TP Tryz.f100=some cf100:=GM.2
def GK:{c:CF // bG TP Tryz.f101=some c}:=by
 apply Subtype.mk
 conv=>lhs;reduce;(try dsimp only [zI,zN])
def cf101:CF:=GK.1
theorem cf101_ok:bG TP Tryz.f101=some cf101:=GK.2
def GJ:{c:CF // bG TP Tryz.f102=some c}:=by
 apply Subtype.mk
 conv=>lhs;reduce;(try dsimp only [zI,zN])
def cf102:CF:=GJ.1
theorem cf102_ok:bG TP Tryz.f102=some cf102:=GJ.2
def GI:{c:CF // bG TP Tryz.f104=some c}:=by
 apply Subtype.mk
 conv=>lhs;reduce;(try dsimp only [zI,zN])
def cf104:CF:=GI.1
theorem cf104_ok:bG TP Tryz.f104=some cf104:=GI.2
def GH:{c:CF // bG TP Tryz.f105=some c}:=by
 apply Subtype.mk
 conv=>lhs;reduce;(try dsimp only [zI,zN])
def cf105:CF:=GH.1
theorem cf105_ok:bG TP Tryz.f105=some cf105:=GH.2
def GG:{c:CF // bG TP Tryz.f106=some c}:=by
 apply Subtype.mk
 conv=>lhs;reduce;(try dsimp only [zI,zN])
def cf106:CF:=GG.1
theorem cf106_ok:bG TP Tryz.f106=some cf106:=GG.2
end
end Ev
end Go.Proofs.YtdfphfdnoobikaaGreatDoor
