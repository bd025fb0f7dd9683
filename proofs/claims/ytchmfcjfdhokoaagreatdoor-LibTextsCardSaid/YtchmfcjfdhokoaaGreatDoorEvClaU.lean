/-
  The clauses of the text supervisor, each parsed by itself.
-/
import Derived.Test.YtchmfcjfdhokoaaGreatDoorEvTkU
import Derived.KernelRfl
namespace Go.Proofs.YtchmfcjfdhokoaaGreatDoor
namespace Ev
noncomputable section
def cU0 : List D := cl 5 500135195763 (s11 4 (xa 3 1 83 ++ xa 3 3 7889229 ++ xa 3 6 110429673252176 ++ xa 3 1 76)) nl (s23t 1 (sv (xi 10 5 474449277043 (s11 1 (xg 13 (.ofNat 0) 0 0 0 0 nl nl (s4t 1 (cl 0 0 nl nl (s23t 1 (sv (xi 10 4 1953066601 (s11 5 (xa 2 4 1701736302 ++ xa 3 1 83 ++ xa 3 3 7889229 ++ xa 3 6 110429673252176 ++ xa 3 1 76))))))) nl nl nl false)))))
def cU1 : List D := cl 10 507329952066785295561843 (s11 4 (xa 3 1 83 ++ xa 3 3 7889229 ++ xa 3 6 110429673252176 ++ xa 3 1 76)) nl (s23 2 (sg true (xa 3 2 25933) (xa 10 4 1718379891) ++ sv (xi 10 10 507329952066759609643123 (s11 1 (xg 13 (.ofNat 0) 0 0 0 0 nl nl (s4t 1 (cl 0 0 nl nl (s23t 1 (sv (xi 10 4 1953066601 (s11 5 (xa 3 2 25933 ++ xa 3 1 83 ++ xa 3 3 7889229 ++ xa 3 6 110429673252176 ++ xa 3 1 76))))))) nl nl nl false)))))
def cU2 : List D := cl 5 448344451191 (s11 1 (xa 3 1 80)) nl (s23 3 (sg true (xa 3 1 82) (xi 10 7 32210693120749421 (s11 1 (xa 3 1 80))) ++ sv (xi 9 1 33 (s11t 2 (xa 3 1 80 ++ xi 5 0 0 (s11 3 (xa 2 16 138755886880307588153393478287481664883 ++ xa 10 4 1718379891 ++ xa 3 1 82))))) ++ sv (xg 17 (.ofNat 0) 0 0 0 0 nl nl (s4 2 (cl 0 0 (s11t 1 (xi 5 0 0 (s11 3 (xa 2 16 161399635218013284411208202285713749363 ++ xa 3 1 82 ++ xa 3 1 76)))) nl (s23 2 (sv (xi 10 9 2110959984361434080612 (s11 1 (xa 3 1 82))) ++ sv (xg 17 (.ofNat 0) 0 0 0 0 (s11t 1 (xa 1 0 0)) nl (s4t 1 (cl 0 0 (s11t 1 (xi 5 0 0 (s11 4 (xa 2 4 1853321060 ++ xa 3 1 82 ++ xa 4 0 0 ++ xa 4 0 0)))) nl (s23t 1 (sv (xa 3 1 76))))) nl nl (s23t 1 (sv (xa 3 1 76))) true))) ++ cl 0 0 (s11t 1 (xi 5 0 0 (s11 4 (xa 2 4 1853321060 ++ xa 3 1 82 ++ xa 4 0 0 ++ xa 3 3 7956567)))) nl (s23t 1 (sv (xi 10 4 1953069157 (s11 1 (xi 5 0 0 (s11 2 (xa 2 15 573575086571594011942121588502066547 ++ xa 3 3 7956567))))))))) nl nl nl false)))
def cU3 : List D := cl 4 1886352499 (s11 1 (xa 3 1 80)) nl (s23 3 (sg true (xa 3 1 82) (xi 10 7 32210693120749421 (s11 1 (xa 3 1 80))) ++ sv (xi 9 1 33 (s11t 2 (xa 3 1 80 ++ xa 2 15 583797821794922172477655001741686131))) ++ sv (xg 17 (.ofNat 0) 0 0 0 0 nl nl (s4 2 (cl 0 0 (s11t 1 (xi 5 0 0 (s11 4 (xa 2 4 1853321060 ++ xa 3 1 82 ++ xa 4 0 0 ++ xa 2 6 119165703843694)))) nl (s23t 1 (sv (xa 2 2 27503))) ++ cl 0 0 (s11t 1 (xi 5 0 0 (s11 4 (xa 2 4 1853321060 ++ xa 3 1 82 ++ xa 4 0 0 ++ xa 3 3 7956567)))) nl (s23t 1 (sv (xi 10 4 1953069157 (s11 1 (xi 5 0 0 (s11 2 (xa 2 15 573575086571594011942121588502066547 ++ xa 3 3 7956567))))))))) nl nl nl false)))
def cU4 : List D := cl 4 1953066601 (s11 5 (xa 3 6 128017497219408 ++ xa 3 1 83 ++ xa 3 3 7889229 ++ xa 3 6 110429673252176 ++ xa 3 1 76)) nl (s23 2 (sv (xi 10 4 1885434484 (s11 1 (xa 2 4 1702195828))) ++ sv (xi 10 4 1886351212 (s11 3 (xi 5 0 0 (s11 4 (xa 3 6 128017497219408 ++ xa 3 1 83 ++ xa 3 3 7889229 ++ xa 3 6 110429673252176)) ++ xi 10 3 7239026 (s11 2 (xa 3 1 76 ++ xa 6 0 0)) ++ xa 6 0 0)))))
def cU5 : List D := cl 3 7239026 (s11 2 (xa 6 0 0 ++ xa 3 4 1701736260)) nl (s23t 1 (sv (xi 10 7 28555907813500274 (s11 1 (xa 3 4 1701736260)))))
def cU6 : List D := cl 3 7239026 (s11 2 (xi 7 0 0 (s11 2 (xa 3 1 67 ++ xa 3 1 76)) ++ xa 3 4 1701736260)) nl (s23t 1 (sv (xi 10 3 7239026 (s11 2 (xa 3 1 76 ++ xi 7 0 0 (s11 2 (xi 10 3 6647407 (s11 2 (xa 3 1 67 ++ xa 3 4 1701736260)) ++ xa 3 4 1701736260)))))))
def cU7 : List D := cl 3 6647407 (s11 2 (xi 5 0 0 (s11 5 (xa 3 2 25673 ++ xa 3 1 77 ++ xa 3 1 70 ++ xa 3 1 65 ++ xa 3 4 1701869908)) ++ xa 3 4 1701736260)) nl (s23t 1 (sv (xg 18 (.ofNat 0) 0 0 0 0 nl nl (s4 2 (cl 0 0 (s11t 1 (xa 3 1 80)) (.sl 1 1 (some 1) [(s11t 1 (xi 10 6 110404019647337 (s11 1 (xa 3 1 80))))]) (s23 2 (sv (xi 10 4 1802398060 (s11 1 (xa 3 1 80))) ++ sv (xi 5 0 0 (s11 2 (xa 3 1 80 ++ xi 5 0 0 (s11 5 (xa 3 2 25673 ++ xa 3 1 77 ++ xa 3 1 70 ++ xa 3 1 65 ++ xa 3 4 1701869908))))))) ++ cl 0 0 (s11t 1 (xa 4 0 0)) nl (s23t 1 (sv (xi 10 6 110386773320038 (s11 2 (xa 3 2 25673 ++ xa 3 4 1701736260))))))) (s4t 1 (cl 0 0 (s11t 2 (xa 4 0 0 ++ xa 4 0 0)) nl (s23t 1 (sv (xi 10 6 110386773320038 (s11 2 (xa 3 2 25673 ++ xa 3 4 1701736260))))))) (s23t 1 (sv (xi 10 5 521510350945 (s11 3 (xa 3 1 77 ++ xa 3 1 70 ++ xa 3 1 65))))) nl false)))
def cU8 : List D := cl 6 110386773320038 (s11 2 (xa 3 2 25673 ++ xa 3 4 1701736260)) nl (s23 2 (sv (xi 10 6 114844899371366 (s11 1 (xa 3 4 1701736260))) ++ sv (xi 10 4 1953069157 (s11 1 (xi 5 0 0 (s11 2 (xa 2 12 31071114449422264103352759411 ++ xa 3 2 25673)))))))
def cU9 : List D := cl 6 114844899371366 (s11 1 (xa 6 0 0)) nl (s23t 1 (sv (xa 2 4 1702195828)))
def cU10 : List D := cl 6 114844899371366 (s11 1 (xi 7 0 0 (s11 2 (xi 5 0 0 (s11 2 (xa 3 1 80 ++ xa 4 0 0)) ++ xa 3 1 76)))) nl (s23 3 (sv (xi 10 4 1953069157 (s11 2 (xa 3 1 80 ++ xa 2 4 1819044203))) ++ sv (xg 17 (.ofNat 0) 0 0 0 0 nl nl (s4t 1 (cl 0 0 (s11t 1 (xi 5 0 0 (s11 3 (xa 2 4 1953069157 ++ xa 3 1 80 ++ xa 4 0 0)))) nl (s23t 1 (sv (xa 2 4 1702195828))))) nl nl nl false) ++ sv (xi 10 6 114844899371366 (s11 1 (xa 3 1 76)))))
def cU11 : List D := cl 4 1886351212 (s11 3 (xa 3 1 75 ++ xa 3 4 1935960395 ++ xa 3 5 495622908244)) nl (s23t 1 (sv (xg 17 (.ofNat 0) 0 0 0 0 nl nl (s4 3 (cl 0 0 (s11t 1 (xi 5 0 0 (s11 3 (xa 2 4 1953069157 ++ xa 3 1 80 ++ xa 3 3 7956567)))) nl (s23t 1 (sv (xi 10 6 110386907543653 (s11 5 (xa 3 1 75 ++ xa 3 4 1935960395 ++ xa 3 5 495622908244 ++ xa 3 1 80 ++ xa 3 3 7956567))))) ++ cl 0 0 (s11t 1 (xi 5 0 0 (s11 3 (xa 2 16 138755886880307588153393478287481664883 ++ xa 3 4 1836020294 ++ xa 3 1 82)))) nl (s23 2 (sv (xi 9 1 33 (s11t 2 (xa 3 4 1836020294 ++ xi 5 0 0 (s11 3 (xa 2 16 161399635218013284411208202285713749363 ++ xa 3 1 82 ++ xi 10 4 1935960427 (s11 1 (xa 3 4 1935960395))))))) ++ sv (xi 10 4 1886351212 (s11 3 (xa 3 1 75 ++ xa 3 4 1935960395 ++ xa 3 5 495622908244))))) ++ cl 0 0 (s11t 1 (xa 2 15 583797821794922172477655001741686131)) nl (s23 2 (sv (xi 10 6 114844899371366 (s11 1 (xi 10 7 28555907813500274 (s11 1 (xa 3 4 1935960395))))) ++ sv (xi 10 4 1953069157 (s11 1 (xa 2 6 119165703843694))))))) nl nl nl false)))
def cU12 : List D := cl 4 1935960427 (s11 1 (xa 6 0 0)) nl (s23t 1 (sv (xa 6 0 0)))
def cU13 : List D := cl 4 1935960427 (s11 1 (xi 7 0 0 (s11 2 (xi 5 0 0 (s11 2 (xa 3 1 80 ++ xi 5 0 0 (s11 5 (xa 3 2 25673 ++ xa 4 0 0 ++ xa 4 0 0 ++ xa 4 0 0 ++ xa 4 0 0)))) ++ xa 3 1 76)))) nl (s23t 1 (sv (xi 7 0 0 (s11 2 (xi 5 0 0 (s11 2 (xa 3 2 25673 ++ xa 3 1 80)) ++ xi 10 4 1935960427 (s11 1 (xa 3 1 76)))))))
def cU14 : List D := cl 6 110386907543653 (s11 5 (xi 5 0 0 (s11 4 (xa 3 1 80 ++ xa 4 0 0 ++ xa 4 0 0 ++ xa 4 0 0)) ++ xa 3 4 1935960395 ++ xa 4 0 0 ++ xa 3 1 80 ++ xa 3 3 7956567)) nl (s23 2 (sv (xi 10 6 114844899371366 (s11 1 (xi 10 7 28555907813500274 (s11 1 (xa 3 4 1935960395))))) ++ sv (xi 10 4 1953069157 (s11 1 (xa 3 3 7956567)))))
def cU15 : List D := cl 6 110386907543653 (s11 5 (xa 3 1 75 ++ xa 3 4 1935960395 ++ xa 3 5 495622908244 ++ xa 3 1 80 ++ xa 3 3 7956567)) nl (s23t 1 (sv (xi 10 4 1953722220 (s11 5 (xa 3 1 75 ++ xa 3 4 1935960395 ++ xa 3 5 495622908244 ++ xa 3 3 7956567 ++ xi 10 5 499984920691 (s11 3 (xa 3 1 80 ++ xa 3 4 1935960395 ++ xa 6 0 0)))))))
def cU16 : List D := cl 5 499984920691 (s11 3 (xa 4 0 0 ++ xa 6 0 0 ++ xa 4 0 0)) nl (s23t 1 (sv (xa 2 4 1701736302)))
def cU17 : List D := cl 5 499984920691 (s11 3 (xa 3 1 80 ++ xi 7 0 0 (s11 2 (xi 5 0 0 (s11 2 (xa 3 1 80 ++ xa 3 1 67)) ++ xa 3 1 76)) ++ xa 3 1 66)) nl (s23t 1 (sv (xi 5 0 0 (s11 3 (xa 3 1 66 ++ xa 3 1 67 ++ xa 3 1 76)))))
def cU18 : List D := cl 5 499984920691 (s11 3 (xa 3 1 80 ++ xi 7 0 0 (s11 2 (xa 3 3 6580555 ++ xa 3 1 76)) ++ xa 3 1 66)) nl (s23t 1 (sv (xi 10 5 499984920691 (s11 3 (xa 3 1 80 ++ xa 3 1 76 ++ xi 7 0 0 (s11 2 (xa 3 3 6580555 ++ xa 3 1 66)))))))
def cU19 : List D := cl 4 1953722220 (s11 5 (xa 3 1 75 ++ xa 3 4 1935960395 ++ xa 3 5 495622908244 ++ xa 4 0 0 ++ xa 2 4 1701736302)) nl (s23t 1 (sv (xi 10 4 1886351212 (s11 3 (xa 3 1 75 ++ xa 3 4 1935960395 ++ xa 3 5 495622908244)))))
def cU20 : List D := cl 4 1953722220 (s11 5 (xa 3 1 75 ++ xa 4 0 0 ++ xa 3 5 495622908244 ++ xa 3 3 7956567 ++ xi 5 0 0 (s11 3 (xa 3 1 66 ++ xa 3 1 67 ++ xa 3 1 76)))) nl (s23t 1 (sv (xg 16 (.ofNat 0) 0 0 0 0 (s11t 1 (xi 10 5 474214393697 (s11 2 (xa 3 1 67 ++ xa 3 3 7956567)))) nl (s4 2 (cl 0 0 (s11t 1 (xa 2 4 1702195828)) nl (s23t 1 (sv (xi 10 7 32776860189549938 (s11 5 (xa 3 1 75 ++ xa 3 5 495622908244 ++ xa 3 1 66 ++ xa 3 1 67 ++ xa 3 1 76))))) ++ cl 0 0 (s11t 1 (xa 2 5 435728179558)) nl (s23t 1 (sv (xi 10 4 1886351212 (s11 3 (xa 3 1 75 ++ xi 9 2 11051 (s11t 2 (xi 10 7 28555907813500274 (s11 1 (xa 3 1 66)) ++ xa 3 1 76)) ++ xa 3 5 495622908244))))))) nl nl nl false)))
def cU21 : List D := cl 5 474214393697 (s11 2 (xi 5 0 0 (s11 5 (xa 4 0 0 ++ xa 4 0 0 ++ xa 4 0 0 ++ xa 4 0 0 ++ xa 2 9 2147777198231854933360)) ++ xa 4 0 0)) nl (s23t 1 (sv (xa 2 4 1702195828)))
def cU22 : List D := cl 5 474214393697 (s11 2 (xi 5 0 0 (s11 5 (xa 4 0 0 ++ xa 4 0 0 ++ xa 4 0 0 ++ xa 4 0 0 ++ xa 2 9 2147777192811621872244)) ++ xa 3 3 7956567)) nl (s23t 1 (sv (xi 9 3 4009789 (s11t 2 (xa 3 3 7956567 ++ xa 2 6 119165703843694)))))
def cU23 : List D := cl 5 474214393697 (s11 2 (xa 4 0 0 ++ xa 4 0 0)) nl (s23t 1 (sv (xa 2 5 435728179558)))
def cU24 : List D := cl 7 32776860189549938 (s11 5 (xa 3 1 75 ++ xa 3 5 495622908244 ++ xa 3 1 66 ++ xa 3 1 67 ++ xa 3 1 76)) nl (s23 4 (sg true (xi 5 0 0 (s11 4 (xa 4 0 0 ++ xa 3 1 83 ++ xa 3 3 7889229 ++ xa 3 6 110429673252176))) (xa 3 1 75) ++ sg true (xa 3 3 7827278) (xa 10 5 461229747299) ++ sg true (xa 3 3 7824718) (xi 7 0 0 (s11 2 (xa 3 3 7827278 ++ xi 10 6 128017496237426 (s11 2 (xa 3 5 495622908244 ++ xi 9 1 45 (s11t 2 (xa 3 3 7827278 ++ xa 3 6 110429673252176))))))) ++ sv (xg 16 (.ofNat 0) 0 0 0 0 (s11t 1 (xi 9 1 62 (s11t 2 (xi 10 6 114849160783212 (s11 1 (xa 3 3 7824718)) ++ xa 3 3 7889229)))) nl (s4 2 (cl 0 0 (s11t 1 (xa 2 4 1702195828)) nl (s23 2 (sv (xi 10 6 114844899371366 (s11 1 (xi 9 2 11051 (s11t 2 (xi 10 7 28555907813500274 (s11 1 (xa 3 1 76)) ++ xa 3 1 66))))) ++ sv (xi 10 4 1953069157 (s11 1 (xa 2 8 7959953343641905267))))) ++ cl 0 0 (s11t 1 (xa 2 5 435728179558)) nl (s23t 1 (sv (xi 10 4 1886351212 (s11 3 (xa 3 1 75 ++ xi 10 4 2003136097 (s11 4 (xa 3 1 83 ++ xa 3 1 66 ++ xa 3 1 67 ++ xa 3 1 76)) ++ xa 3 3 7824718))))))) nl nl nl false)))
def cU25 : List D := cl 6 128017496237426 (s11 2 (xa 6 0 0 ++ xa 4 0 0)) nl (s23t 1 (sv (xa 6 0 0)))
def cU26 : List D := cl 6 128017496237426 (s11 2 (xi 7 0 0 (s11 2 (xa 3 1 84 ++ xa 3 1 76)) ++ xa 3 4 1836020294)) nl (s23t 1 (sv (xg 16 (.ofNat 0) 0 0 0 0 (s11t 1 (xi 9 2 15678 (s11t 2 (xa 3 1 84 ++ xa 3 4 1836020294)))) nl (s4 2 (cl 0 0 (s11t 1 (xa 2 4 1702195828)) nl (s23t 1 (sv (xi 7 0 0 (s11 2 (xa 3 1 84 ++ xi 10 6 128017496237426 (s11 2 (xa 3 1 76 ++ xa 3 4 1836020294))))))) ++ cl 0 0 (s11t 1 (xa 2 5 435728179558)) nl (s23t 1 (sv (xa 6 0 0))))) nl nl nl false)))
def cU27 : List D := cl 4 2003136097 (s11 4 (xa 2 11 122623022560467455805058671 ++ xa 3 1 66 ++ xa 3 1 67 ++ xa 3 1 76)) nl (s23t 1 (sv (xi 9 2 11051 (s11t 2 (xi 10 7 28555907813500274 (s11 1 (xa 3 1 66)) ++ xi 7 0 0 (s11 2 (xi 10 3 6647407 (s11 2 (xa 3 1 67 ++ xi 9 2 11051 (s11t 2 (xi 10 7 28555907813500274 (s11 1 (xa 3 1 76)) ++ xa 3 1 66)))) ++ xa 3 1 76)))))))
def cU28 : List D := cl 4 2003136097 (s11 4 (xa 2 11 131075800310387088803851887 ++ xa 3 1 66 ++ xa 3 1 67 ++ xa 3 1 76)) nl (s23 2 (sv (xi 10 6 114844899371366 (s11 1 (xi 9 2 11051 (s11t 2 (xi 10 7 28555907813500274 (s11 1 (xa 3 1 76)) ++ xa 3 1 66))))) ++ sv (xi 10 3 7239026 (s11 2 (xi 9 2 11051 (s11t 2 (xi 10 5 495588831347 (s11 1 (xi 10 7 28555907813500274 (s11 1 (xa 3 1 66)))) ++ xi 7 0 0 (s11 2 (xa 3 1 67 ++ xi 10 5 495588831347 (s11 1 (xa 3 1 76)))))) ++ xa 6 0 0)))))
def cU29 : List D := cl 4 2003136097 (s11 4 (xa 2 12 31391493775479668686347003250 ++ xa 3 1 66 ++ xa 3 1 67 ++ xa 3 1 76)) nl (s23 2 (sv (xi 10 6 114844899371366 (s11 1 (xi 10 7 28555907813500274 (s11 1 (xa 3 1 76))))) ++ sv (xi 10 3 7239026 (s11 2 (xi 7 0 0 (s11 2 (xa 3 1 67 ++ xi 10 5 495588831347 (s11 1 (xa 3 1 76)))) ++ xa 3 1 66)))))
def cU30 : List D := cl 5 495588831347 (s11 1 (xa 6 0 0)) nl (s23t 1 (sv (xa 6 0 0)))
def cU31 : List D := cl 5 495588831347 (s11 1 (xi 7 0 0 (s11 2 (xi 5 0 0 (s11 2 (xa 4 0 0 ++ xi 5 0 0 (s11 5 (xa 4 0 0 ++ xa 4 0 0 ++ xa 4 0 0 ++ xa 4 0 0 ++ xa 2 9 2240298027534873617780)))) ++ xa 3 1 76)))) nl (s23t 1 (sv (xi 10 5 495588831347 (s11 1 (xa 3 1 76)))))
def cU32 : List D := cl 5 495588831347 (s11 1 (xi 7 0 0 (s11 2 (xi 5 0 0 (s11 2 (xa 4 0 0 ++ xa 3 1 67)) ++ xa 3 1 76)))) nl (s23t 1 (sv (xi 7 0 0 (s11 2 (xa 3 1 67 ++ xi 10 5 495588831347 (s11 1 (xa 3 1 76)))))))
def rU0 : LR := claR 1142 34 65 ((tkU.drop 34).take 34) cU0
def rU1 : LR := claR 1142 66 103 ((tkU.drop 66).take 40) cU1
def rU2 : LR := claR 1142 104 179 ((tkU.drop 104).take 78) cU2
def rU3 : LR := claR 1142 180 228 ((tkU.drop 180).take 51) cU3
def rU4 : LR := claR 1142 229 270 ((tkU.drop 229).take 44) cU4
def rU5 : LR := claR 1142 271 283 ((tkU.drop 271).take 15) cU5
def rU6 : LR := claR 1142 284 310 ((tkU.drop 284).take 29) cU6
def rU7 : LR := claR 1142 311 386 ((tkU.drop 311).take 78) cU7
def rU8 : LR := claR 1142 387 407 ((tkU.drop 387).take 23) cU8
def rU9 : LR := claR 1142 408 415 ((tkU.drop 408).take 10) cU9
def rU10 : LR := claR 1142 416 452 ((tkU.drop 416).take 39) cU10
def rU11 : LR := claR 1142 453 529 ((tkU.drop 453).take 79) cU11
def rU12 : LR := claR 1142 530 538 ((tkU.drop 530).take 11) cU12
def rU13 : LR := claR 1142 539 574 ((tkU.drop 539).take 38) cU13
def rU14 : LR := claR 1142 575 608 ((tkU.drop 575).take 36) cU14
def rU15 : LR := claR 1142 609 642 ((tkU.drop 609).take 36) cU15
def rU16 : LR := claR 1142 643 654 ((tkU.drop 643).take 14) cU16
def rU17 : LR := claR 1142 655 679 ((tkU.drop 655).take 27) cU17
def rU18 : LR := claR 1142 680 705 ((tkU.drop 680).take 28) cU18
def rU19 : LR := claR 1142 706 727 ((tkU.drop 706).take 24) cU19
def rU20 : LR := claR 1142 728 786 ((tkU.drop 728).take 61) cU20
def rU21 : LR := claR 1142 787 805 ((tkU.drop 787).take 21) cU21
def rU22 : LR := claR 1142 806 826 ((tkU.drop 806).take 23) cU22
def rU23 : LR := claR 1142 827 835 ((tkU.drop 827).take 11) cU23
def rU24 : LR := claR 1142 836 927 ((tkU.drop 836).take 94) cU24
def rU25 : LR := claR 1142 928 938 ((tkU.drop 928).take 13) cU25
def rU26 : LR := claR 1142 939 973 ((tkU.drop 939).take 37) cU26
def rU27 : LR := claR 1142 974 1005 ((tkU.drop 974).take 34) cU27
def rU28 : LR := claR 1142 1006 1049 ((tkU.drop 1006).take 46) cU28
def rU29 : LR := claR 1142 1050 1082 ((tkU.drop 1050).take 35) cU29
def rU30 : LR := claR 1142 1083 1091 ((tkU.drop 1083).take 11) cU30
def rU31 : LR := claR 1142 1092 1119 ((tkU.drop 1092).take 30) cU31
def rU32 : LR := claR 1142 1120 1141 ((tkU.drop 1120).take 24) cU32
end
theorem pU0 : runR (callS prims2 100) 31 [rU0] = true := by kernel_rfl
theorem pU1 : runR (callS prims2 100) 31 [rU1] = true := by kernel_rfl
theorem pU2 : runR (callS prims2 100) 31 [rU2] = true := by kernel_rfl
theorem pU3 : runR (callS prims2 100) 31 [rU3] = true := by kernel_rfl
theorem pU4 : runR (callS prims2 100) 31 [rU4] = true := by kernel_rfl
theorem pU5 : runR (callS prims2 100) 31 [rU5] = true := by kernel_rfl
theorem pU6 : runR (callS prims2 100) 31 [rU6] = true := by kernel_rfl
theorem pU7 : runR (callS prims2 100) 31 [rU7] = true := by kernel_rfl
theorem pU8 : runR (callS prims2 100) 31 [rU8] = true := by kernel_rfl
theorem pU9 : runR (callS prims2 100) 31 [rU9] = true := by kernel_rfl
theorem pU10 : runR (callS prims2 100) 31 [rU10] = true := by kernel_rfl
theorem pU11 : runR (callS prims2 100) 31 [rU11] = true := by kernel_rfl
theorem pU12 : runR (callS prims2 100) 31 [rU12] = true := by kernel_rfl
theorem pU13 : runR (callS prims2 100) 31 [rU13] = true := by kernel_rfl
theorem pU14 : runR (callS prims2 100) 31 [rU14] = true := by kernel_rfl
theorem pU15 : runR (callS prims2 100) 31 [rU15] = true := by kernel_rfl
theorem pU16 : runR (callS prims2 100) 31 [rU16] = true := by kernel_rfl
theorem pU17 : runR (callS prims2 100) 31 [rU17] = true := by kernel_rfl
theorem pU18 : runR (callS prims2 100) 31 [rU18] = true := by kernel_rfl
theorem pU19 : runR (callS prims2 100) 31 [rU19] = true := by kernel_rfl
theorem pU20 : runR (callS prims2 100) 31 [rU20] = true := by kernel_rfl
theorem pU21 : runR (callS prims2 100) 31 [rU21] = true := by kernel_rfl
theorem pU22 : runR (callS prims2 100) 31 [rU22] = true := by kernel_rfl
theorem pU23 : runR (callS prims2 100) 31 [rU23] = true := by kernel_rfl
theorem pU24 : runR (callS prims2 100) 31 [rU24] = true := by kernel_rfl
theorem pU25 : runR (callS prims2 100) 31 [rU25] = true := by kernel_rfl
theorem pU26 : runR (callS prims2 100) 31 [rU26] = true := by kernel_rfl
theorem pU27 : runR (callS prims2 100) 31 [rU27] = true := by kernel_rfl
theorem pU28 : runR (callS prims2 100) 31 [rU28] = true := by kernel_rfl
theorem pU29 : runR (callS prims2 100) 31 [rU29] = true := by kernel_rfl
theorem pU30 : runR (callS prims2 100) 31 [rU30] = true := by kernel_rfl
theorem pU31 : runR (callS prims2 100) 31 [rU31] = true := by kernel_rfl
theorem pU32 : runR (callS prims2 100) 31 [rU32] = true := by kernel_rfl
noncomputable def rowsU : List (Nat × LR) := [(34, rU0), (66, rU1), (104, rU2), (180, rU3), (229, rU4), (271, rU5), (284, rU6), (311, rU7), (387, rU8), (408, rU9), (416, rU10), (453, rU11), (530, rU12), (539, rU13), (575, rU14), (609, rU15), (643, rU16), (655, rU17), (680, rU18), (706, rU19), (728, rU20), (787, rU21), (806, rU22), (827, rU23), (836, rU24), (928, rU25), (939, rU26), (974, rU27), (1006, rU28), (1050, rU29), (1083, rU30), (1092, rU31), (1120, rU32)]
theorem rowsU_ok : ∀ q, q ∈ rowsU → q.2.Ok 31 := by
  intro q hq
  simp only [rowsU, List.mem_cons, List.not_mem_nil, or_false] at hq
  rcases hq with rfl | rfl | rfl | rfl | rfl | rfl | rfl | rfl | rfl | rfl | rfl | rfl | rfl | rfl | rfl | rfl | rfl | rfl | rfl | rfl | rfl | rfl | rfl | rfl | rfl | rfl | rfl | rfl | rfl | rfl | rfl | rfl | rfl
  · exact runR_ok (callS_ok prims2_ok 100) pU0 _ (List.mem_singleton.2 rfl)
  · exact runR_ok (callS_ok prims2_ok 100) pU1 _ (List.mem_singleton.2 rfl)
  · exact runR_ok (callS_ok prims2_ok 100) pU2 _ (List.mem_singleton.2 rfl)
  · exact runR_ok (callS_ok prims2_ok 100) pU3 _ (List.mem_singleton.2 rfl)
  · exact runR_ok (callS_ok prims2_ok 100) pU4 _ (List.mem_singleton.2 rfl)
  · exact runR_ok (callS_ok prims2_ok 100) pU5 _ (List.mem_singleton.2 rfl)
  · exact runR_ok (callS_ok prims2_ok 100) pU6 _ (List.mem_singleton.2 rfl)
  · exact runR_ok (callS_ok prims2_ok 100) pU7 _ (List.mem_singleton.2 rfl)
  · exact runR_ok (callS_ok prims2_ok 100) pU8 _ (List.mem_singleton.2 rfl)
  · exact runR_ok (callS_ok prims2_ok 100) pU9 _ (List.mem_singleton.2 rfl)
  · exact runR_ok (callS_ok prims2_ok 100) pU10 _ (List.mem_singleton.2 rfl)
  · exact runR_ok (callS_ok prims2_ok 100) pU11 _ (List.mem_singleton.2 rfl)
  · exact runR_ok (callS_ok prims2_ok 100) pU12 _ (List.mem_singleton.2 rfl)
  · exact runR_ok (callS_ok prims2_ok 100) pU13 _ (List.mem_singleton.2 rfl)
  · exact runR_ok (callS_ok prims2_ok 100) pU14 _ (List.mem_singleton.2 rfl)
  · exact runR_ok (callS_ok prims2_ok 100) pU15 _ (List.mem_singleton.2 rfl)
  · exact runR_ok (callS_ok prims2_ok 100) pU16 _ (List.mem_singleton.2 rfl)
  · exact runR_ok (callS_ok prims2_ok 100) pU17 _ (List.mem_singleton.2 rfl)
  · exact runR_ok (callS_ok prims2_ok 100) pU18 _ (List.mem_singleton.2 rfl)
  · exact runR_ok (callS_ok prims2_ok 100) pU19 _ (List.mem_singleton.2 rfl)
  · exact runR_ok (callS_ok prims2_ok 100) pU20 _ (List.mem_singleton.2 rfl)
  · exact runR_ok (callS_ok prims2_ok 100) pU21 _ (List.mem_singleton.2 rfl)
  · exact runR_ok (callS_ok prims2_ok 100) pU22 _ (List.mem_singleton.2 rfl)
  · exact runR_ok (callS_ok prims2_ok 100) pU23 _ (List.mem_singleton.2 rfl)
  · exact runR_ok (callS_ok prims2_ok 100) pU24 _ (List.mem_singleton.2 rfl)
  · exact runR_ok (callS_ok prims2_ok 100) pU25 _ (List.mem_singleton.2 rfl)
  · exact runR_ok (callS_ok prims2_ok 100) pU26 _ (List.mem_singleton.2 rfl)
  · exact runR_ok (callS_ok prims2_ok 100) pU27 _ (List.mem_singleton.2 rfl)
  · exact runR_ok (callS_ok prims2_ok 100) pU28 _ (List.mem_singleton.2 rfl)
  · exact runR_ok (callS_ok prims2_ok 100) pU29 _ (List.mem_singleton.2 rfl)
  · exact runR_ok (callS_ok prims2_ok 100) pU30 _ (List.mem_singleton.2 rfl)
  · exact runR_ok (callS_ok prims2_ok 100) pU31 _ (List.mem_singleton.2 rfl)
  · exact runR_ok (callS_ok prims2_ok 100) pU32 _ (List.mem_singleton.2 rfl)
theorem claPU : PrimOf 31 (locP (lookC rowsU)) := claP_ok rowsU_ok
end Ev
end Go.Proofs.YtchmfcjfdhokoaaGreatDoor
