/-
  The functions of the program,compiled (those that are printed:by a program of ours;each is held against the program's own text).
-/
import Derived.Test.YtdfphfdnoobikaaGreatDoorLtTab1
namespace Go.Proofs.YtdfphfdnoobikaaGreatDoor
namespace Ev
set_option maxHeartbeats 0
set_option maxRecDepth 100000
noncomputable section
def q46:{c // bQ TP Tryz.f46=some c}:=mkQ
def q47:{c // bQ TP Tryz.f47=some c}:=mkQ
def q48:{c // bQ TP Tryz.f48=some c}:=mkQ
def q49:{c // bQ TP Tryz.f49=some c}:=mkQ
def cf49:CF:=q49.1
def q50:{c // bQ TP Tryz.f50=some c}:=mkQ
def q51:{c // bQ TP Tryz.f51=some c}:=mkQ
def q52:{c // bQ TP Tryz.f52=some c}:=mkQ
def q53:{c // bQ TP Tryz.f53=some c}:=mkQ
def q54:{c // bQ TP Tryz.f54=some c}:=mkQ
def q55:{c // bQ TP Tryz.f55=some c}:=mkQ
def q56:{c // bQ TP Tryz.f56=some c}:=mkQ
def q57:{c // bQ TP Tryz.f57=some c}:=mkQ
def q58:{c // bQ TP Tryz.f58=some c}:=mkQ
def q59:{c // bQ TP Tryz.f59=some c}:=mkQ
def q60:{c // bQ TP Tryz.f60=some c}:=mkQ
def q61:{c // bQ TP Tryz.f61=some c}:=mkQ
def q62:{c // bQ TP Tryz.f62=some c}:=mkQ
def q63:{c // bQ TP Tryz.f63=some c}:=mkQ
def q64:{c // bQ TP Tryz.f64=some c}:=mkQ
def q66:{c // bQ TP Tryz.f66=some c}:=mkQ
def cf66:CF:=q66.1
def q67:{c // bQ TP Tryz.f67=some c}:=mkQ
def q68:{c // bQ TP Tryz.f68=some c}:=mkQ
def q69:{c // bQ TP Tryz.f69=some c}:=mkQ
def q70:{c // bQ TP Tryz.f70=some c}:=mkQ
def q71:{c // bQ TP Tryz.f71=some c}:=mkQ
def q72:{c // bQ TP Tryz.f72=some c}:=mkQ
def q73:{c // bQ TP Tryz.f73=some c}:=mkQ
def q74:{c // bQ TP Tryz.f74=some c}:=mkQ
def q75:{c // bQ TP Tryz.f75=some c}:=mkQ
def cf75:CF:=q75.1
def q76:{c // bQ TP Tryz.f76=some c}:=mkQ
def q77:{c // bQ TP Tryz.f77=some c}:=mkQ
def q78:{c // bQ TP Tryz.f78=some c}:=mkQ
def q79:{c // bQ TP Tryz.f79=some c}:=mkQ
def q80:{c // bQ TP Tryz.f80=some c}:=mkQ
def q81:{c // bQ TP Tryz.f81=some c}:=mkQ
def q82:{c // bQ TP Tryz.f82=some c}:=mkQ
def q83:{c // bQ TP Tryz.f83=some c}:=mkQ
def q84:{c // bQ TP Tryz.f84=some c}:=mkQ
def q86:{c // bQ TP Tryz.f86=some c}:=mkQ
def q88:{c // bQ TP Tryz.f88=some c}:=mkQ
def q90:{c // bQ TP Tryz.f90=some c}:=mkQ
def q91:{c // bQ TP Tryz.f91=some c}:=mkQ
def q92:{c // bQ TP Tryz.f92=some c}:=mkQ
def q93:{c // bQ TP Tryz.f93=some c}:=mkQ
def q94:{c // bQ TP Tryz.f94=some c}:=mkQ
def q95:{c // bQ TP Tryz.f95=some c}:=mkQ
def q97:{c // bQ TP Tryz.f97=some c}:=mkQ
def cf97:CF:=q97.1
def q99:{c // bQ TP Tryz.f99=some c}:=mkQ
def Ij:{c // bQ TP Tryz.f100=some c}:=mkQ
def GP:{c // bQ TP Tryz.f101=some c}:=mkQ
def Ii:{c // bQ TP Tryz.f102=some c}:=mkQ
def GO:{c // bQ TP Tryz.f104=some c}:=mkQ
def Ih:{c // bQ TP Tryz.f105=some c}:=mkQ
def Ig:{c // bQ TP Tryz.f106=some c}:=mkQ
end
end Ev
end Go.Proofs.YtdfphfdnoobikaaGreatDoor
