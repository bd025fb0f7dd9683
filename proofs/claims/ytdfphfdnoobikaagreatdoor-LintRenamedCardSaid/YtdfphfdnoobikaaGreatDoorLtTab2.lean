/-
  The functions of the program,compiled (those that are printed:by a program of ours;each is held against the program's own text).
-/
import Derived.Test.YtdfphfdnoobikaaGreatDoorLtTab1
namespace Go.Proofs.YtdfphfdnoobikaaGreatDoor
namespace Ev
set_option maxHeartbeats 0
set_option maxRecDepth 100000
noncomputable section
def q46:{c // ci TP Tryz.f46=some c}:=mkQ
def q47:{c // ci TP Tryz.f47=some c}:=mkQ
def q48:{c // ci TP Tryz.f48=some c}:=mkQ
def q49:{c // ci TP Tryz.f49=some c}:=mkQ
def cf49:CF:=q49.1
def q50:{c // ci TP Tryz.f50=some c}:=mkQ
def q51:{c // ci TP Tryz.f51=some c}:=mkQ
def q52:{c // ci TP Tryz.f52=some c}:=mkQ
def q53:{c // ci TP Tryz.f53=some c}:=mkQ
def q54:{c // ci TP Tryz.f54=some c}:=mkQ
def q55:{c // ci TP Tryz.f55=some c}:=mkQ
def q56:{c // ci TP Tryz.f56=some c}:=mkQ
def q57:{c // ci TP Tryz.f57=some c}:=mkQ
def q58:{c // ci TP Tryz.f58=some c}:=mkQ
def q59:{c // ci TP Tryz.f59=some c}:=mkQ
def q60:{c // ci TP Tryz.f60=some c}:=mkQ
def q61:{c // ci TP Tryz.f61=some c}:=mkQ
def q62:{c // ci TP Tryz.f62=some c}:=mkQ
def q63:{c // ci TP Tryz.f63=some c}:=mkQ
def q64:{c // ci TP Tryz.f64=some c}:=mkQ
def q66:{c // ci TP Tryz.f66=some c}:=mkQ
def cf66:CF:=q66.1
def q67:{c // ci TP Tryz.f67=some c}:=mkQ
def q68:{c // ci TP Tryz.f68=some c}:=mkQ
def q69:{c // ci TP Tryz.f69=some c}:=mkQ
def q70:{c // ci TP Tryz.f70=some c}:=mkQ
def q71:{c // ci TP Tryz.f71=some c}:=mkQ
def q72:{c // ci TP Tryz.f72=some c}:=mkQ
def q73:{c // ci TP Tryz.f73=some c}:=mkQ
def q74:{c // ci TP Tryz.f74=some c}:=mkQ
def q75:{c // ci TP Tryz.f75=some c}:=mkQ
def cf75:CF:=q75.1
def q76:{c // ci TP Tryz.f76=some c}:=mkQ
def q77:{c // ci TP Tryz.f77=some c}:=mkQ
def q78:{c // ci TP Tryz.f78=some c}:=mkQ
def q79:{c // ci TP Tryz.f79=some c}:=mkQ
def q80:{c // ci TP Tryz.f80=some c}:=mkQ
def q81:{c // ci TP Tryz.f81=some c}:=mkQ
def q82:{c // ci TP Tryz.f82=some c}:=mkQ
def q83:{c // ci TP Tryz.f83=some c}:=mkQ
def q84:{c // ci TP Tryz.f84=some c}:=mkQ
def q86:{c // ci TP Tryz.f86=some c}:=mkQ
def q88:{c // ci TP Tryz.f88=some c}:=mkQ
def q90:{c // ci TP Tryz.f90=some c}:=mkQ
def q91:{c // ci TP Tryz.f91=some c}:=mkQ
def q92:{c // ci TP Tryz.f92=some c}:=mkQ
def q93:{c // ci TP Tryz.f93=some c}:=mkQ
def q94:{c // ci TP Tryz.f94=some c}:=mkQ
def q95:{c // ci TP Tryz.f95=some c}:=mkQ
def q97:{c // ci TP Tryz.f97=some c}:=mkQ
def cf97:CF:=q97.1
def q99:{c // ci TP Tryz.f99=some c}:=mkQ
def LO:{c // ci TP Tryz.f100=some c}:=mkQ
def J1:{c // ci TP Tryz.f101=some c}:=mkQ
def LN:{c // ci TP Tryz.f102=some c}:=mkQ
def J0:{c // ci TP Tryz.f104=some c}:=mkQ
def LM:{c // ci TP Tryz.f105=some c}:=mkQ
def LL:{c // ci TP Tryz.f106=some c}:=mkQ
end
end Ev
end Go.Proofs.YtdfphfdnoobikaaGreatDoor
