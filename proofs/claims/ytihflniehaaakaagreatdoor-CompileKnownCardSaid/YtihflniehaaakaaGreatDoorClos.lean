/-
  Which functions are reached from the law's: the calls of each function, in parts.
-/
import Derived.Test.YtihflniehaaakaaGreatDoorRows
import Derived.ProofKit
import Derived.Stop.Joined
namespace Go.Proofs.YtihflniehaaakaaGreatDoor
set_option linter.unusedVariables false
set_option linter.unusedSimpArgs false
open Go.RowKit
noncomputable section
theorem map_cut {α β : Type} {f : α → β} {l : List α} {a b : List β} (n : Nat) (h : (l.take n).map f = a) (k : (l.drop n).map f = b) : l.map f = a ++ b := by
  rw [← List.take_append_drop n l, List.map_append, h, k]
def ldsT0 : List (List Nat) := [[], [], [1], [5, 4, 6, 8, 7, 9, 11, 10, 12, 13, 12, 5, 4, 6, 8, 7, 9, 11, 10, 12, 13, 12, 5, 4, 5, 4, 14], [15, 16, 17, 20, 20], [21], [22], [23], [], [], [24, 24, 25, 26], [], [23, 27, 28], [29, 30, 31, 29, 31], [5, 4], [32, 33], [], [18, 19], [], [34, 35, 36, 37, 38, 39], [40, 41, 42, 42, 43, 43], [44, 45, 46, 47], [48, 49], [50], [], [51], [52], [], [53, 54, 53, 55, 56, 57, 50, 58, 59, 60, 61, 62, 63, 64], [], [65], [66], [67, 67, 68, 70, 69], [32, 72, 73], [], [34, 35, 74, 75, 18, 19, 18, 19, 36, 37, 36, 37], [], [35, 35], [], [34, 35], [], [76], [77, 79, 80, 78, 77, 79, 80, 78, 82, 84, 81, 86], [87], [88], [89, 90, 91, 92, 89, 90, 93, 89, 89, 90, 91, 92, 89, 94, 93, 89, 89, 90, 95, 89, 96], [], [97, 98, 99, 100, 100, 101, 102, 103], [104, 105, 106, 107, 108, 109, 110], [111, 111, 112, 113, 114, 115], [], [116], [], [27], [], [117, 117, 118, 117, 117, 54, 119], [54, 54, 53, 50, 120, 121, 122], [], [122, 123, 124, 125, 124, 116, 124, 53, 122, 126, 127, 53, 122], [128, 128], [123, 129, 125, 129, 130, 122, 121], [131, 53, 132, 52, 132, 31, 132, 133, 132, 134, 135, 66, 133, 134], [53, 50, 53, 136, 66, 137, 53], [138, 53, 139, 140, 141, 11, 122], [142, 66, 53, 143, 23, 144, 145, 53], [], [129, 121], [146, 147], [67, 148, 149, 150], [], [71], [151, 152, 154, 153], [155, 155], [155, 156, 155, 155, 157], [], [35, 35], [158], [], [159], [], [], [160, 162, 161, 163, 165, 166, 164, 168], [83], [170, 169, 171, 79, 172, 173, 173], [43, 43, 85], [159], [174, 174, 175, 176, 177, 178, 179], [180, 181, 180, 180], [182, 183, 184, 182, 185, 186, 187, 188, 189], [91, 190, 191], [192, 190, 191], [192, 193], [190, 191], [89], [192, 190, 191], [91, 92, 89, 91, 92, 89, 91, 89, 90, 89, 94, 93, 93], [90, 194, 91, 191, 89], [195, 195, 196], [197], [], [198], [199, 101], [199, 102], [99, 99, 199, 103], [24, 200, 51, 24, 200, 200, 65, 200, 200, 200], [201, 201, 201, 201, 201, 201, 201, 201, 201, 201, 201, 201, 201, 202], [203, 204, 200, 200, 203], [200, 200, 200, 200, 200, 200, 200], [205, 206, 205], [200, 200, 128, 200, 203, 203, 204], [200, 200, 200], [], [207, 208], [209, 210, 210, 211, 212, 212], [213], [214, 105, 215, 213, 216], [217, 218], [119], [119, 119], [119], [219, 220, 220, 222, 221], [137], [53], [223, 224], [66, 122], [225], [51], [51], [51, 51, 226], [227]]
set_option maxRecDepth 100000 in
theorem lds0 : (Tryz.prog.funcs.toList.take 130).map Tryz.prog.leadsTo = ldsT0 := by kernel_rfl
def ldsT1 : List (List Nat) := [[205, 206, 220, 51, 220, 228, 229, 51, 220, 221, 227, 221, 230, 231], [], [], [66, 26], [232, 232, 26, 52], [51], [131, 53, 27, 23], [27, 23, 227], [233], [233, 235, 234], [233], [233, 235, 236], [], [], [143], [], [], [237], [238], [], [239, 240], [67, 241, 242, 243, 67, 67, 67, 244], [245, 152, 246, 247, 248, 249, 248, 249, 250, 251, 250, 251], [252, 255, 257], [71], [], [258, 259, 260], [261, 262, 263], [158, 158, 158, 76, 41, 41, 158, 76], [264, 264], [], [265, 266, 267, 268, 269], [], [160, 270], [168, 271, 272, 167, 168, 273, 274, 273], [], [167], [159], [], [77, 79, 78], [275, 43, 87, 87, 276, 79, 77, 173, 79], [160, 277, 278, 81, 168], [79, 78, 80, 78, 159], [281, 280, 281, 77, 79, 159, 79, 280, 282, 283, 284, 281, 285, 286, 281, 285, 286, 162, 287, 276, 79, 280, 83, 170, 169, 290, 288, 289, 291, 292, 170, 172], [], [293, 294, 295, 296, 297, 295, 298, 294, 298, 299, 300, 300, 301], [303, 302], [304, 304, 305, 303], [307, 308, 306, 309, 80], [312, 313, 313, 313, 313, 314], [315], [316], [], [], [317], [319, 318], [], [186, 317], [], [], [], [], [320], [], [91, 92, 89, 321, 93, 322], [24, 185], [195, 323, 324, 323], [], [199, 100], [98, 197, 197, 98, 98, 197], [], [], [201, 201, 201, 201, 201, 201, 201, 201, 201], [], [], [24, 326, 325], [], [215], [215, 328, 327, 329, 327], [], [328], [], [], [], [330, 105, 329, 331, 331, 331, 332, 333, 332, 333], [], [334], [336, 335, 217, 24, 337, 337, 24, 337, 337, 24, 337, 24, 24, 337, 338], [218], [339, 51, 340, 341, 342, 340, 339, 340, 339], [129], [], [], [217], [218], [223, 217, 224, 224], [343, 343, 344, 344, 343, 343, 345, 344, 343, 343, 343, 346, 345, 344, 344, 343, 345, 346, 347, 348], [], [349, 220, 350, 220, 11, 221, 352, 351], [128, 350, 128, 350, 128, 350, 128, 350, 128, 350, 128, 350, 353, 135, 220, 225, 354, 220, 355], [349, 350, 350, 350, 350, 350, 350, 350, 350, 350, 356, 350, 220, 356, 350, 128, 221, 221, 357], [220, 220, 123, 354, 220, 50, 225, 354, 358, 359, 220, 360, 361, 220, 221, 362], [227, 123, 66, 137], [], [], [], [], [363], [], [364], [152], [365], [152, 152, 365], [366, 367], [68, 150, 68, 68, 150, 150, 68, 68, 150, 368, 369], [371], [372], [152, 152], [373], [374, 375, 250, 251], [376], [152, 152], [254, 253], [377], [], [256, 239], [], [69], [378], [379]]
set_option maxRecDepth 100000 in
theorem lds1 : ((Tryz.prog.funcs.toList.drop 130).take 130).map Tryz.prog.leadsTo = ldsT1 := by kernel_rfl
def ldsT2 : List (List Nat) := [[380], [261, 381, 382, 155, 383], [384, 155, 385, 155, 262], [386, 387, 386, 261, 387], [], [388, 389, 390, 391, 392], [], [393], [394, 395, 396], [397, 399, 398], [], [160, 77, 400, 79, 78, 79, 273, 401, 167], [402, 400, 400, 159, 400, 276, 79, 159, 400, 159, 400, 400, 159, 400, 159, 400, 400, 159, 403], [], [404], [87], [], [167], [79, 279], [77, 79, 43, 159, 43, 79, 85], [79, 159, 77, 79, 159, 172], [170], [405, 170, 170, 280, 43, 43, 85, 280], [408, 409, 407, 281, 410, 281, 280], [281, 156, 280, 410, 286, 285, 286], [80, 78], [159, 411, 80, 78, 80, 159], [412], [160, 413, 81, 168], [], [79, 279], [170, 159, 160, 160, 160, 168, 159, 414, 77, 79, 80, 78, 415, 288, 167, 168, 159, 83, 43, 43, 85, 168], [77, 416, 79, 172, 77, 77, 77, 160, 160, 160, 159, 416, 159, 79, 43, 78, 167, 168, 79, 80, 78, 79, 80, 78, 79, 43, 78, 79, 43, 78, 168, 83, 79, 43, 159, 79, 79, 85, 168, 79, 172], [417, 419, 299], [420, 422, 422], [421, 422, 422], [424, 423], [], [425], [426], [], [427], [428], [429], [], [], [431, 430], [], [], [311, 310], [], [], [], [], [303], [316], [433, 434, 435, 436], [182, 183, 186], [], [], [], [91, 437], [91, 191, 437, 91, 191, 89, 438], [439], [439, 440, 439], [], [], [], [], [], [210], [329], [], [], [441], [], [], [], [], [], [51], [442, 442, 443], [], [], [], [], [343, 226], [226, 444, 444, 226], [445, 445, 343, 343], [], [446, 221], [220, 220, 11, 221], [447], [349, 349, 220, 350, 350, 350], [220, 221], [448, 351, 447, 351, 449, 351, 450, 351, 451, 351, 351, 351, 351, 452, 351, 341, 351], [], [220, 221, 11, 221, 126, 221, 127, 221, 135, 220, 11, 221, 11, 221, 11, 221, 453, 351, 227, 221, 220], [51, 454], [220, 221], [11, 50, 225, 354], [455], [135, 220, 123, 354, 456, 350, 350, 457, 50, 225, 354, 50, 225, 354, 220, 359], [458, 459], [], [146, 147, 460, 461, 462, 463, 147, 464], [], [465], [466], [370], [], [], [], [], [245, 152], [467], [], [], [468], [363], [], [469, 155, 155, 383], [470, 382, 469], [383, 469], [155], [156], [471], [472, 473], [388, 388], [71]]
set_option maxRecDepth 100000 in
theorem lds2 : (((Tryz.prog.funcs.toList.drop 130).drop 130).take 130).map Tryz.prog.leadsTo = ldsT2 := by kernel_rfl
def ldsT3 : List (List Nat) := [[474, 181, 475, 476, 475, 390, 475, 390, 390, 477], [389, 478], [391], [], [479, 479], [395, 481, 480, 267], [482, 480, 267, 483, 268, 483, 268], [398], [], [], [79, 77, 79], [160, 160, 484, 43, 43, 159, 167, 168, 168], [485, 400, 87, 159, 400, 487, 486, 87, 159], [400, 159, 400, 275, 400, 276, 79, 275, 167, 275, 159, 406, 159, 159], [], [406], [87], [77, 160, 160, 43, 159, 489, 79, 43, 78, 167, 168, 79, 43, 78, 168, 79, 172], [170], [160, 160, 43, 159, 167, 168, 43, 43, 85, 168], [285, 159, 411], [79, 80, 78, 159], [389, 490, 491], [83, 167], [159], [159], [83, 492, 160, 160, 159, 83, 159, 492, 167, 168, 77, 77, 79, 80, 78, 79, 80, 78, 493, 288, 289, 168], [418], [], [], [421], [], [], [494, 495, 496, 497, 498, 499, 500, 501, 502, 423, 423], [503, 504], [], [], [], [], [299, 296, 297], [424, 505], [432], [506, 506], [], [504, 507, 508], [], [509, 510], [511, 91, 191, 511], [511, 91, 191, 511, 91, 191], [512, 440, 195, 513, 323, 323, 514, 515, 323, 195, 323, 323, 323, 196, 195, 195, 324, 516], [], [517], [], [], [], [], [227, 227], [], [], [518, 448, 352], [], [], [443, 442], [352], [519, 520, 521, 521, 521, 520, 521, 521, 520, 521, 521, 520, 520, 519, 521, 520, 521, 454], [522, 51, 454], [523], [457, 457, 128], [], [524], [], [525, 526], [527], [], [258], [], [], [], [528, 529, 528, 530, 529, 531], [], [], [], [384, 532, 533, 534, 535, 536, 537, 538, 539], [387], [], [540], [475, 475], [541, 475, 542, 390], [543, 153], [544], [267], [], [268], [545], [77, 546, 547, 407, 79, 484, 548, 548, 548, 170], [550, 549], [424, 551], [488], [552, 552, 553], [79, 78], [555, 554, 557, 559, 554, 558, 561], [], [77, 79, 79, 78, 562, 288, 289], [79, 79, 85], [500], [563, 563], [564, 565], [566, 566, 566, 567], [], [500, 500, 500], [506, 506], [500, 500], [500, 500, 500, 500], [], [], [568, 569, 570, 571, 572, 573, 574, 575, 505, 505], [], [], [], [], [576, 427], [577, 91, 191, 511, 578], [], [24], [579, 440, 440, 439, 439, 440], [], [323, 196, 323, 324, 196, 324, 580, 324, 196, 196], [], [], [521]]
set_option maxRecDepth 100000 in
theorem lds3 : ((((Tryz.prog.funcs.toList.drop 130).drop 130).drop 130).take 130).map Tryz.prog.leadsTo = ldsT3 := by kernel_rfl
def ldsT4 : List (List Nat) := [[], [], [581, 581, 581, 582, 583, 581, 584, 581, 584, 581, 585, 581, 581, 585, 583, 581, 581, 581, 581, 583, 581, 581, 583, 583, 581, 581, 581, 581, 581, 583, 581, 584], [456], [586, 587], [], [], [588], [589], [], [], [590], [155], [387, 387], [156, 155, 473], [592, 591, 412, 155, 155, 386, 383, 157], [263], [473, 593], [593, 473, 263], [263, 593, 593, 263], [], [], [], [478], [594], [595], [484], [43, 159], [77, 79, 159], [310], [488], [596, 597, 598, 599, 600, 601, 602, 603, 551, 551], [604], [432, 605, 606, 607, 609, 609, 610, 610, 432, 608, 605], [554, 611, 153], [556], [612], [], [], [560], [613, 614, 153], [615, 616], [79, 279], [500, 500], [424], [], [567], [617, 617, 617], [], [618, 618], [564, 565], [619, 619, 619, 620], [], [], [], [], [], [621, 91, 191, 621, 578], [], [], [], [585], [581, 581, 585], [581, 581, 585], [522], [], [], [], [], [], [], [622, 623], [624], [386, 157], [433, 434, 435, 436], [], [], [625, 625], [564, 565], [626, 626, 626, 627], [], [], [], [], [628], [432, 629, 553], [553, 553, 432, 432], [609, 630, 432], [], [631], [632, 632], [554], [], [367], [560], [613, 490, 615, 616, 633, 633, 616, 633, 615, 616, 634, 153], [635, 615], [500], [], [620], [636, 636, 636], [637, 91, 191, 637, 578], [638], [424, 639], [], [], [627], [640, 640, 640], [641, 642], [], [643, 643], [644], [], [635, 561], [615], [645, 646, 554], [], [647, 648, 192, 191, 647, 578], [], [649, 650, 651, 652, 653, 654, 655, 656, 657, 639, 639], [], [658, 660, 661, 662, 663, 664, 665, 666, 667, 668], [669, 671, 670], [], [], [613, 556], [560], [672, 91, 191, 647, 578], [91], [655]]
set_option maxRecDepth 100000 in
theorem lds4 : (((((Tryz.prog.funcs.toList.drop 130).drop 130).drop 130).drop 130).take 130).map Tryz.prog.leadsTo = ldsT4 := by kernel_rfl
def ldsT5 : List (List Nat) := [[673, 673], [564, 565], [674, 674, 674, 675], [], [655, 655, 655], [676, 676], [655, 655], [655, 655, 655, 655], [659, 659, 146], [], [], [], [146], [659, 659, 146, 659], [146, 146, 659], [], [], [], [659], [677, 669], [678], [642], [679, 648, 192, 191, 679, 578], [655, 655], [675], [680, 680, 680], [], [], [], [681, 648, 192, 191, 681, 578], [655], [91, 320, 320, 320, 193, 320, 193, 191, 191, 190, 648, 192, 191, 681, 682], [192, 320, 193, 683, 648, 91, 92, 321, 93, 191, 683, 91, 92, 89, 321, 93], [192, 94, 90, 191, 684, 91, 92, 511, 93, 91, 92, 321, 93, 91, 685, 91, 686, 91, 92, 438, 93, 91, 92, 511, 89, 687, 93, 91, 688, 91, 689, 91, 690, 190], [], [92, 91, 93, 437, 91, 191, 511, 93], [92, 91, 89, 691, 93], [511, 322, 91, 191], [92, 192, 90, 89, 90, 89, 94, 194, 91, 191, 93], [92, 91, 687, 91, 191, 511, 89, 438, 93], [92, 438, 91, 191, 687, 648, 190, 91, 191, 692, 91, 191, 91, 191, 438, 93], [192, 191, 683, 91, 191, 192, 94, 191, 684, 91, 92, 511, 93, 190, 91, 693], [192, 684, 190, 191, 89, 511, 322], [91, 91, 191, 192, 190, 190, 191], [], [], [], [], [], [], [], [], [], [], [], [], [], [], [], [], [], [], [], [], [], [], [], [], [], [], [], [], [], []]
set_option maxRecDepth 100000 in
theorem lds5 : (((((Tryz.prog.funcs.toList.drop 130).drop 130).drop 130).drop 130).drop 130).map Tryz.prog.leadsTo = ldsT5 := by kernel_rfl
def ldsT : List (List Nat) := ldsT0 ++ (ldsT1 ++ (ldsT2 ++ (ldsT3 ++ (ldsT4 ++ (ldsT5)))))
theorem lds : Tryz.prog.funcs.toList.map Tryz.prog.leadsTo = ldsT := map_cut 130 lds0 (map_cut 130 lds1 (map_cut 130 lds2 (map_cut 130 lds3 (map_cut 130 lds4 (lds5)))))
def memB (f : Nat) (l : List Nat) : Bool := List.rec (motive := fun _ => Bool) false (fun x _ ih => Bool.rec (motive := fun _ => Bool) ih true (Nat.beq x f)) l
def nthN (tab : List (List Nat)) : Nat → List Nat := List.rec (motive := fun _ => Nat → List Nat) (fun _ => []) (fun x _ ih i => Nat.rec (motive := fun _ => List Nat) x (fun j _ => ih j) i) tab
/-- The closure, by the table of calls. -/
def closK (tab : List (List Nat)) (n : Nat) : List Nat → List Nat → List Nat :=
  Nat.rec (motive := fun _ => List Nat → List Nat → List Nat) (fun _ seen => seen.reverse) (fun _ ih todo seen => List.rec (motive := fun _ => List Nat) seen.reverse (fun f t _ => Bool.rec (motive := fun _ => List Nat) (ih (nthN tab f ++ t) (f :: seen)) (ih t seen) (memB f seen)) todo) n
theorem memB_eq (f : Nat) : ∀ l : List Nat, memB f l = l.contains f
  | [] => rfl
  | x :: l => by
    show (Bool.rec (motive := fun _ => Bool) (memB f l) true (Nat.beq x f) : Bool) = _
    rw [memB_eq f l, List.contains_cons]
    by_cases h : x = f
    · subst h; simp
    · have e1 : Nat.beq x f = false := by
        cases q : Nat.beq x f with
        | false => rfl
        | true => exact absurd (Nat.eq_of_beq_eq_true q) h
      have e2 : (f == x) = false := by simpa using fun k => h k.symm
      rw [e1, e2]
      simp
theorem nthN_eq : ∀ (tab : List (List Nat)) (i : Nat), nthN tab i = (tab[i]?).getD []
  | [], _ => rfl
  | x :: tab, 0 => rfl
  | x :: tab, i + 1 => by
    show nthN tab i = _
    rw [nthN_eq tab i]
    rfl
theorem closK_eq {P : Program} {tab : List (List Nat)} (h : P.funcs.toList.map P.leadsTo = tab) : ∀ (n : Nat) (todo seen : List Nat), P.closureVia n todo seen = closK tab n todo seen
  | 0, _, _ => by unfold Program.closureVia; rfl
  | n + 1, [], seen => by unfold Program.closureVia; rfl
  | n + 1, f :: todo, seen => by
    show P.closureVia (n + 1) (f :: todo) seen = (Bool.rec (motive := fun _ => List Nat) (closK tab n (nthN tab f ++ todo) (f :: seen)) (closK tab n todo seen) (memB f seen) : List Nat)
    unfold Program.closureVia
    rw [memB_eq]
    have e : ((P.funcs[f]?).elim [] P.leadsTo) = nthN tab f := by
      rw [nthN_eq, ← h, List.getElem?_map, Array.getElem?_toList]
      cases P.funcs[f]? <;> rfl
    rw [e, closK_eq h n, closK_eq h n]
    cases seen.contains f <;> rfl
def closL : List Nat := [3, 5, 21, 44, 88, 182, 183, 184, 317, 186, 185, 319, 318, 187, 188, 189, 45, 89, 91, 192, 320, 193, 190, 191, 90, 92, 93, 94, 95, 96, 194, 321, 437, 511, 577, 621, 637, 647, 672, 679, 681, 648, 682, 683, 684, 685, 686, 691, 693, 438, 687, 322, 688, 689, 690, 692, 578, 46, 47, 97, 195, 24, 196, 323, 439, 512, 440, 513, 514, 579, 515, 324, 516, 580, 98, 197, 99, 100, 198, 199, 101, 102, 103, 4, 15, 32, 67, 146, 147, 237, 363, 458, 459, 524, 586, 587, 68, 148, 238, 149, 150, 239, 364, 240, 152, 245, 371, 246, 372, 247, 248, 373, 249, 374, 375, 467, 250, 376, 251, 70, 71, 151, 241, 365, 460, 461, 525, 526, 462, 527, 588, 463, 464, 258, 378, 468, 528, 589, 529, 530, 531, 590, 242, 243, 366, 367, 465, 244, 368, 466, 369, 370, 154, 153, 252, 254, 253, 377, 255, 256, 257, 69, 33, 72, 155, 73, 156, 259, 379, 260, 380, 157, 261, 381, 469, 383, 382, 470, 262, 384, 385, 263, 386, 471, 387, 472, 532, 533, 534, 473, 535, 592, 624, 591, 622, 638, 623, 424, 503, 504, 639, 649, 655, 676, 650, 673, 651, 564, 565, 652, 674, 675, 680, 653, 654, 656, 657, 412, 389, 490, 555, 556, 612, 554, 611, 557, 559, 560, 613, 614, 558, 561, 615, 616, 635, 645, 646, 633, 634, 491, 536, 537, 593, 538, 539, 16, 17, 18, 19, 34, 35, 74, 75, 36, 37, 38, 39, 20, 40, 41, 76, 158, 42, 77, 79, 80, 78, 159, 264, 82, 83, 170, 275, 87, 180, 315, 316, 433, 434, 507, 508, 435, 436, 509, 510, 576, 427, 181, 43, 276, 173, 281, 280, 172, 282, 405, 406, 85, 283, 408, 409, 160, 167, 168, 407, 489, 410, 285, 411, 284, 286, 162, 287, 169, 290, 279, 288, 413, 81, 161, 265, 388, 390, 474, 475, 540, 476, 477, 541, 542, 391, 478, 543, 392, 266, 267, 393, 268, 394, 479, 544, 594, 395, 481, 480, 396, 482, 483, 545, 595, 269, 397, 398, 399, 163, 270, 165, 166, 164, 271, 400, 273, 401, 484, 546, 547, 548, 272, 402, 485, 550, 488, 552, 604, 628, 641, 658, 659, 660, 661, 662, 663, 664, 665, 666, 667, 668, 642, 669, 677, 671, 670, 678, 553, 432, 506, 605, 629, 606, 607, 609, 631, 644, 630, 643, 610, 632, 608, 549, 310, 487, 486, 551, 596, 597, 625, 598, 599, 626, 627, 640, 600, 601, 602, 603, 403, 274, 404, 289, 291, 414, 415, 292, 416, 492, 562, 493, 171, 277, 278, 84, 86, 174, 175, 293, 417, 418, 419, 299, 426, 294, 420, 421, 422, 295, 296, 423, 494, 500, 495, 563, 496, 497, 566, 567, 617, 498, 499, 501, 502, 297, 298, 425, 300, 301, 176, 303, 429, 302, 428, 177, 304, 305, 178, 307, 308, 306, 431, 430, 505, 568, 569, 618, 570, 571, 619, 620, 636, 572, 573, 574, 575, 309, 311, 179, 312, 313, 314, 6, 22, 48, 104, 200, 51, 116, 217, 336, 335, 337, 338, 218, 65, 105, 201, 202, 106, 203, 204, 107, 108, 205, 326, 325, 206, 109, 128, 226, 343, 344, 345, 346, 347, 444, 348, 445, 110, 49, 111, 112, 207, 215, 208, 328, 327, 329, 113, 209, 210, 211, 212, 114, 213, 115, 214, 330, 331, 332, 333, 216, 334, 441, 517, 8, 7, 23, 50, 9, 11, 10, 25, 26, 52, 12, 27, 28, 53, 54, 55, 117, 119, 118, 56, 120, 219, 339, 340, 341, 442, 443, 342, 220, 129, 227, 222, 221, 121, 137, 122, 57, 58, 123, 223, 224, 124, 66, 125, 225, 126, 127, 59, 60, 130, 228, 349, 350, 446, 352, 447, 351, 229, 353, 135, 354, 355, 448, 449, 518, 450, 451, 452, 230, 356, 357, 453, 231, 358, 454, 519, 521, 520, 359, 360, 361, 455, 522, 581, 585, 582, 583, 584, 362, 456, 523, 457, 61, 131, 132, 31, 133, 134, 232, 62, 136, 63, 138, 233, 139, 235, 234, 140, 141, 236, 64, 142, 143, 144, 145, 13, 29, 30, 14]
def fuelN : Nat := 2710
theorem fuel_eq : 1 + (Tryz.prog.funcs.toList.map fun g => (Tryz.prog.leadsTo g).length + 1).sum = fuelN := by
  have : (Tryz.prog.funcs.toList.map fun g => (Tryz.prog.leadsTo g).length + 1) = ldsT.map fun l => l.length + 1 := by
    rw [← lds, List.map_map]
    rfl
  refine (congrArg (fun l : List Nat => 1 + l.sum) this).trans ?_
  show 1 + (ldsT.map fun l => l.length + 1).sum = fuelN
  kernel_rfl
set_option maxRecDepth 100000 in
theorem clos_lit : closK ldsT fuelN [3] [] = closL := by kernel_rfl
theorem clos_eq : Tryz.prog.closure 3 = closL := by
  unfold Program.closure
  rw [fuel_eq, closK_eq lds, clos_lit]
def isIn (fn : Func) : Bool := fn.ours || fn.body.isNone || fn.name == "runtime.NumGoroutine"
def inpT0 : List Bool := [true, true, false, false, false, false, false, false, false, false, false, false, false, false, false, false, false, false, false, false, false, false, false, false, false, false, false, false, false, false, false, false, false, false, false, false, false, false, false, false, false, false, false, false, false, false, false, false, false, false, false, false, false, false, false, false, false, false, false, false, false, false, false, false, false, false, false, false, false, false, false, false, false, false, false, false, false, false, false, false, false, false, false, false, false, false, false, false, false, false, false, false, false, false, false, false, false, false, false, false, false, false, false, false, false, false, false, false, false, false, false, false, false, false, false, false, false, false, false, false, false, false, false, false, false, false, false, false, false, false]
set_option maxRecDepth 100000 in
theorem inp0 : (Tryz.prog.funcs.toList.take 130).map isIn = inpT0 := by kernel_rfl
def inpT1 : List Bool := [false, false, false, false, false, false, false, false, false, false, false, false, false, false, false, false, false, false, false, false, false, false, false, false, false, false, false, false, false, false, false, false, false, false, false, false, false, false, false, false, false, false, false, false, false, false, false, false, false, false, false, false, false, false, false, false, false, false, false, false, false, false, false, false, false, false, false, false, false, false, false, false, false, false, false, false, false, false, false, false, false, false, false, false, false, false, false, false, false, false, false, false, false, false, false, false, false, false, false, false, false, false, false, false, false, false, false, false, false, false, false, false, false, false, false, false, false, false, false, false, false, false, false, false, false, false, false, false, false, false]
set_option maxRecDepth 100000 in
theorem inp1 : ((Tryz.prog.funcs.toList.drop 130).take 130).map isIn = inpT1 := by kernel_rfl
def inpT2 : List Bool := [false, false, false, false, false, false, false, false, false, false, false, false, false, false, false, false, false, false, false, false, false, false, false, false, false, false, false, false, false, false, false, false, false, false, false, false, false, false, false, false, false, false, false, false, false, false, false, false, false, false, false, false, false, false, false, false, false, false, false, false, false, false, false, false, false, false, false, false, false, false, false, false, false, false, false, false, false, false, false, false, false, false, false, false, false, false, false, false, false, false, false, false, false, false, false, false, false, false, false, false, false, false, false, false, false, false, false, false, false, false, false, false, false, false, false, false, false, false, false, false, false, false, false, false, false, false, false, false, false, false]
set_option maxRecDepth 100000 in
theorem inp2 : (((Tryz.prog.funcs.toList.drop 130).drop 130).take 130).map isIn = inpT2 := by kernel_rfl
def inpT3 : List Bool := [false, false, false, false, false, false, false, false, false, false, false, false, false, false, false, false, false, false, false, false, false, false, false, false, false, false, false, false, false, false, false, false, false, false, false, false, false, false, false, false, false, false, false, false, false, false, false, false, false, false, false, false, false, false, false, false, false, false, false, false, false, false, false, false, false, false, false, false, false, false, false, false, false, false, false, false, false, false, false, false, false, true, false, false, false, false, false, false, false, false, false, false, false, false, false, false, false, false, false, false, false, false, false, false, false, false, false, false, false, false, false, false, false, false, false, false, false, false, false, false, false, false, false, false, false, false, false, false, false, false]
set_option maxRecDepth 100000 in
theorem inp3 : ((((Tryz.prog.funcs.toList.drop 130).drop 130).drop 130).take 130).map isIn = inpT3 := by kernel_rfl
def inpT4 : List Bool := [false, false, false, false, false, false, false, false, false, true, false, false, false, false, false, false, false, false, false, false, false, false, false, false, false, false, false, false, false, false, false, false, false, false, false, false, false, false, false, false, false, false, false, false, false, false, false, false, false, false, false, false, false, false, false, false, false, false, false, false, false, false, false, false, false, false, false, false, false, true, false, false, false, false, false, false, false, false, false, false, false, false, false, false, false, false, false, false, false, false, false, false, false, false, false, false, false, false, false, false, false, false, false, false, false, false, false, false, false, false, false, false, false, false, false, false, false, false, false, false, false, false, false, false, true, false, false, false, false, false]
set_option maxRecDepth 100000 in
theorem inp4 : (((((Tryz.prog.funcs.toList.drop 130).drop 130).drop 130).drop 130).take 130).map isIn = inpT4 := by kernel_rfl
def inpT5 : List Bool := [false, false, false, false, false, false, false, false, false, false, false, false, false, false, false, false, false, false, false, false, false, false, false, false, false, false, false, false, false, false, false, false, false, false, false, false, false, false, false, false, false, false, false, false, true, true, true, true, true, true, true, true, true, true, true, true, true, true, true, true, true, true, true, true, true, true, true, true, true, true, true, true, true, false]
set_option maxRecDepth 100000 in
theorem inp5 : (((((Tryz.prog.funcs.toList.drop 130).drop 130).drop 130).drop 130).drop 130).map isIn = inpT5 := by kernel_rfl
def inpT : List Bool := inpT0 ++ (inpT1 ++ (inpT2 ++ (inpT3 ++ (inpT4 ++ (inpT5)))))
theorem inp : Tryz.prog.funcs.toList.map isIn = inpT := map_cut 130 inp0 (map_cut 130 inp1 (map_cut 130 inp2 (map_cut 130 inp3 (map_cut 130 inp4 (inp5)))))
def nthB (tab : List Bool) : Nat → Bool := List.rec (motive := fun _ => Nat → Bool) (fun _ => false) (fun x _ ih i => Nat.rec (motive := fun _ => Bool) x (fun j _ => ih j) i) tab
theorem nthB_eq : ∀ (tab : List Bool) (i : Nat), nthB tab i = (tab[i]?).getD false
  | [], _ => rfl
  | x :: tab, 0 => rfl
  | x :: tab, i + 1 => by
    show nthB tab i = _
    rw [nthB_eq tab i]
    rfl
theorem in_tab (g : Nat) : nthB inpT g = ((Tryz.prog.funcs[g]?).map isIn).getD false := by
  rw [nthB_eq, ← inp, List.getElem?_map, Array.getElem?_toList]
def inL : List Nat := [589, 529, 471, 644]
set_option maxRecDepth 100000 in
theorem in_lit : closL.filter (nthB inpT) = inL := by kernel_rfl
theorem filterMap_if {α β : Type} {p : α → Bool} {f : α → Option β} {l : List α} (h : ∀ x, p x = false → f x = none) : l.filterMap f = (l.filter p).filterMap f := by
  induction l with
  | nil => rfl
  | cons x l ih =>
    cases hp : p x with
    | true => rw [List.filter_cons_of_pos hp, List.filterMap_cons, List.filterMap_cons, ih]
    | false => rw [List.filter_cons_of_neg (by simp [hp]), List.filterMap_cons, h x hp, ih]
theorem inPlace_eq : Tryz.prog.inPlace 3 = inL.filterMap fun g => (Tryz.prog.funcs[g]?).bind fun fn => if fn.ours || fn.body.isNone || fn.name == "runtime.NumGoroutine" then some fn.name else none := by
  unfold Program.inPlace
  rw [clos_eq, filterMap_if (p := nthB inpT), in_lit]
  intro g hg
  rw [in_tab] at hg
  cases hf : Tryz.prog.funcs[g]? with
  | none => rfl
  | some fn =>
    rw [hf] at hg
    have hg : isIn fn = false := hg
    show (if isIn fn then some fn.name else none) = none
    rw [hg]
    rfl
theorem unf_eq : Tryz.prog.unfollowed 3 = true := by
  unfold Program.unfollowed
  rw [clos_eq]
  exact List.any_eq_true.2 ⟨458, List.contains_iff_mem.1 (by kernel_rfl), by kernel_rfl⟩
theorem rec_eq : Tryz.prog.recurses 3 = true := by
  unfold Program.recurses
  rw [unf_eq]
  rfl
def glOf (fn : Func) : List Nat := fn.body.elim [] Code.globalsNamed
def glsT0 : List (List Nat) := [[], [], [], [], [], [], [], [], [], [], [], [], [], [], [], [], [], [], [], [], [], [], [], [], [], [], [], [], [], [], [], [], [], [], [], [], [], [], [], [], [], [], [], [], [], [], [], [], [], [], [], [], [], [], [], [], [], [], [], [], [], [], [], [], [], [], [], [], [], [], [], [], [], [], [], [], [], [], [], [], [], [], [], [], [], [], [], [], [], [], [], [], [], [], [], [], [], [], [], [], [], [], [], [], [], [], [], [], [], [], [], [], [], [], [], [], [], [], [], [], [], [], [], [], [], [], [], [], [], []]
set_option maxRecDepth 100000 in
theorem gls0 : (Tryz.prog.funcs.toList.take 130).map glOf = glsT0 := by kernel_rfl
def glsT1 : List (List Nat) := [[], [], [], [], [], [], [], [], [], [], [], [], [], [], [], [], [], [], [], [], [], [], [], [], [], [], [], [], [], [], [], [], [], [], [], [], [], [], [], [], [], [], [], [], [], [], [], [], [], [], [], [], [], [], [], [], [], [], [], [], [], [], [], [], [], [], [], [], [], [], [], [], [], [], [], [], [], [], [], [], [], [], [], [], [], [], [], [], [], [], [], [], [], [], [], [], [], [], [], [], [], [], [], [], [], [], [], [], [], [], [], [], [], [], [], [], [], [], [], [], [], [], [], [], [], [], [], [], [], []]
set_option maxRecDepth 100000 in
theorem gls1 : ((Tryz.prog.funcs.toList.drop 130).take 130).map glOf = glsT1 := by kernel_rfl
def glsT2 : List (List Nat) := [[], [], [], [], [], [], [], [], [], [], [], [], [], [], [], [], [], [], [], [], [], [], [], [], [], [], [], [], [], [], [], [], [], [], [], [], [], [], [], [], [], [], [], [], [], [], [], [], [], [], [], [], [], [], [], [], [], [], [], [], [], [], [], [], [], [], [], [], [], [], [], [], [], [], [], [], [], [], [], [], [], [], [], [], [], [], [], [], [], [], [], [], [], [], [], [], [], [], [], [], [], [], [], [0, 0, 0, 0], [], [], [], [], [], [], [], [], [], [], [], [], [], [], [], [], [], [], [], [], [], [], [], [], [], []]
set_option maxRecDepth 100000 in
theorem gls2 : (((Tryz.prog.funcs.toList.drop 130).drop 130).take 130).map glOf = glsT2 := by kernel_rfl
def glsT3 : List (List Nat) := [[], [], [], [], [], [], [], [], [], [], [], [], [], [], [], [], [], [], [], [], [], [], [], [], [], [], [], [], [], [], [], [], [], [], [], [], [], [1], [], [], [], [], [], [], [2], [], [], [], [], [], [], [], [], [], [], [], [], [], [], [], [], [], [], [], [], [], [], [], [], [3], [], [], [], [], [], [], [], [], [4, 4, 4], [], [], [], [], [], [], [], [], [], [], [], [], [], [], [], [], [], [], [], [], [], [], [], [], [], [], [], [], [], [], [], [], [], [], [], [], [], [], [], [], [], [], [], [], [], [], [], [], [], [], []]
set_option maxRecDepth 100000 in
theorem gls3 : ((((Tryz.prog.funcs.toList.drop 130).drop 130).drop 130).take 130).map glOf = glsT3 := by kernel_rfl
def glsT4 : List (List Nat) := [[], [], [], [], [], [], [], [], [], [], [], [], [], [], [], [], [], [], [], [], [], [], [], [], [], [], [], [], [], [], [], [], [], [], [], [], [], [], [], [], [], [], [], [], [], [], [], [], [], [], [], [], [], [], [], [], [5], [], [], [], [], [], [], [], [], [], [], [], [], [], [], [], [], [], [], [], [], [], [], [], [], [], [], [], [], [], [], [], [], [], [], [], [], [], [], [], [], [], [], [], [], [], [], [], [], [], [], [], [], [], [], [], [], [], [], [], [], [], [], [], [], [], [], [], [], [], [], [], [], []]
set_option maxRecDepth 100000 in
theorem gls4 : (((((Tryz.prog.funcs.toList.drop 130).drop 130).drop 130).drop 130).take 130).map glOf = glsT4 := by kernel_rfl
def glsT5 : List (List Nat) := [[], [], [], [], [], [], [], [], [], [], [], [], [], [], [], [], [], [], [], [], [], [], [], [], [], [], [], [], [], [], [], [], [], [], [], [], [], [], [], [], [], [], [], [], [], [], [], [], [], [], [], [], [], [], [], [], [], [], [], [], [], [], [], [], [], [], [], [], [], [], [], [], [], [5, 1, 2, 6, 6, 3, 0]]
set_option maxRecDepth 100000 in
theorem gls5 : (((((Tryz.prog.funcs.toList.drop 130).drop 130).drop 130).drop 130).drop 130).map glOf = glsT5 := by kernel_rfl
def glsT : List (List Nat) := glsT0 ++ (glsT1 ++ (glsT2 ++ (glsT3 ++ (glsT4 ++ (glsT5)))))
theorem gls : Tryz.prog.funcs.toList.map glOf = glsT := map_cut 130 gls0 (map_cut 130 gls1 (map_cut 130 gls2 (map_cut 130 gls3 (map_cut 130 gls4 (gls5)))))
def enOf (fn : Func) : Bool := fn.body.isSome || (entryReads.lookup fn.name).isNone
def ensT0 : List Bool := [true, true, true, true, true, true, true, true, true, true, true, true, true, true, true, true, true, true, true, true, true, true, true, true, true, true, true, true, true, true, true, true, true, true, true, true, true, true, true, true, true, true, true, true, true, true, true, true, true, true, true, true, true, true, true, true, true, true, true, true, true, true, true, true, true, true, true, true, true, true, true, true, true, true, true, true, true, true, true, true, true, true, true, true, true, true, true, true, true, true, true, true, true, true, true, true, true, true, true, true, true, true, true, true, true, true, true, true, true, true, true, true, true, true, true, true, true, true, true, true, true, true, true, true, true, true, true, true, true, true]
set_option maxRecDepth 100000 in
theorem ens0 : (Tryz.prog.funcs.toList.take 130).map enOf = ensT0 := by kernel_rfl
def ensT1 : List Bool := [true, true, true, true, true, true, true, true, true, true, true, true, true, true, true, true, true, true, true, true, true, true, true, true, true, true, true, true, true, true, true, true, true, true, true, true, true, true, true, true, true, true, true, true, true, true, true, true, true, true, true, true, true, true, true, true, true, true, true, true, true, true, true, true, true, true, true, true, true, true, true, true, true, true, true, true, true, true, true, true, true, true, true, true, true, true, true, true, true, true, true, true, true, true, true, true, true, true, true, true, true, true, true, true, true, true, true, true, true, true, true, true, true, true, true, true, true, true, true, true, true, true, true, true, true, true, true, true, true, true]
set_option maxRecDepth 100000 in
theorem ens1 : ((Tryz.prog.funcs.toList.drop 130).take 130).map enOf = ensT1 := by kernel_rfl
def ensT2 : List Bool := [true, true, true, true, true, true, true, true, true, true, true, true, true, true, true, true, true, true, true, true, true, true, true, true, true, true, true, true, true, true, true, true, true, true, true, true, true, true, true, true, true, true, true, true, true, true, true, true, true, true, true, true, true, true, true, true, true, true, true, true, true, true, true, true, true, true, true, true, true, true, true, true, true, true, true, true, true, true, true, true, true, true, true, true, true, true, true, true, true, true, true, true, true, true, true, true, true, true, true, true, true, true, true, true, true, true, true, true, true, true, true, true, true, true, true, true, true, true, true, true, true, true, true, true, true, true, true, true, true, true]
set_option maxRecDepth 100000 in
theorem ens2 : (((Tryz.prog.funcs.toList.drop 130).drop 130).take 130).map enOf = ensT2 := by kernel_rfl
def ensT3 : List Bool := [true, true, true, true, true, true, true, true, true, true, true, true, true, true, true, true, true, true, true, true, true, true, true, true, true, true, true, true, true, true, true, true, true, true, true, true, true, true, true, true, true, true, true, true, true, true, true, true, true, true, true, true, true, true, true, true, true, true, true, true, true, true, true, true, true, true, true, true, true, true, true, true, true, true, true, true, true, true, true, true, true, true, true, true, true, true, true, true, true, true, true, true, true, true, true, true, true, true, true, true, true, true, true, true, true, true, true, true, true, true, true, true, true, true, true, true, true, true, true, true, true, true, true, true, true, true, true, true, true, true]
set_option maxRecDepth 100000 in
theorem ens3 : ((((Tryz.prog.funcs.toList.drop 130).drop 130).drop 130).take 130).map enOf = ensT3 := by kernel_rfl
def ensT4 : List Bool := [true, true, true, true, true, true, true, true, true, false, true, true, true, true, true, true, true, true, true, true, true, true, true, true, true, true, true, true, true, true, true, true, true, true, true, true, true, true, true, true, true, true, true, true, true, true, true, true, true, true, true, true, true, true, true, true, true, true, true, true, true, true, true, true, true, true, true, true, true, true, true, true, true, true, true, true, true, true, true, true, true, true, true, true, true, true, true, true, true, true, true, true, true, true, true, true, true, true, true, true, true, true, true, true, true, true, true, true, true, true, true, true, true, true, true, true, true, true, true, true, true, true, true, true, true, true, true, true, true, true]
set_option maxRecDepth 100000 in
theorem ens4 : (((((Tryz.prog.funcs.toList.drop 130).drop 130).drop 130).drop 130).take 130).map enOf = ensT4 := by kernel_rfl
def ensT5 : List Bool := [true, true, true, true, true, true, true, true, true, true, true, true, true, true, true, true, true, true, true, true, true, true, true, true, true, true, true, true, true, true, true, true, true, true, true, true, true, true, true, true, true, true, true, true, true, true, true, true, true, true, true, true, true, true, true, true, true, true, true, true, true, true, true, true, true, true, true, true, true, true, true, true, true, true]
set_option maxRecDepth 100000 in
theorem ens5 : (((((Tryz.prog.funcs.toList.drop 130).drop 130).drop 130).drop 130).drop 130).map enOf = ensT5 := by kernel_rfl
def ensT : List Bool := ensT0 ++ (ensT1 ++ (ensT2 ++ (ensT3 ++ (ensT4 ++ (ensT5)))))
theorem ens : Tryz.prog.funcs.toList.map enOf = ensT := map_cut 130 ens0 (map_cut 130 ens1 (map_cut 130 ens2 (map_cut 130 ens3 (map_cut 130 ens4 (ens5)))))
theorem flat_of {f g : Nat → List Nat} (h : ∀ i, f i = g i) (l : List Nat) : l.flatMap f = l.flatMap g := by
  rw [show f = g from funext h]
set_option maxRecDepth 100000 in
theorem gl_lit : closL.flatMap (nthN glsT) = [0, 0, 0, 0, 3, 4, 4, 4, 2, 5, 1] := by kernel_rfl
set_option maxRecDepth 100000 in
theorem en_lit : closL.filter (fun g => !nthB ensT g) = [529] := by kernel_rfl
theorem vars_eq : Tryz.prog.varsNamed 3 = (((([0, 0, 0, 0, 3, 4, 4, 4, 2, 5, 1] : List Nat).eraseDups).filterMap (fun g => (Tryz.prog.globals[g]?).map (fun x : Global => x.name))) ++ ([529] : List Nat).filterMap fun g => (Tryz.prog.funcs[g]?).bind fun fn => if fn.body.isNone then entryReads.lookup fn.name else none).eraseDups := by
  unfold Program.varsNamed
  rw [clos_eq]
  have e1 : (closL.flatMap fun g => ((Tryz.prog.funcs[g]?).bind (·.body)).elim [] Code.globalsNamed) = [0, 0, 0, 0, 3, 4, 4, 4, 2, 5, 1] := by
    rw [← gl_lit]
    refine flat_of (fun g => ?_) _
    rw [nthN_eq, ← gls, List.getElem?_map, Array.getElem?_toList]
    cases Tryz.prog.funcs[g]? with
    | none => rfl
    | some fn => rfl
  rw [e1]
  refine congrArg (fun l : List String => (_ ++ l).eraseDups) ?_
  rw [filterMap_if (l := closL) (p := fun g => !nthB ensT g), en_lit]
  intro g hg
  have h : nthB ensT g = true := by simpa using hg
  rw [nthB_eq, ← ens, List.getElem?_map, Array.getElem?_toList] at h
  cases hf : Tryz.prog.funcs[g]? with
  | none => rfl
  | some fn =>
    rw [hf] at h
    have h : enOf fn = true := h
    show (if fn.body.isNone then entryReads.lookup fn.name else none) = none
    unfold enOf at h
    cases hb : fn.body with
    | some c => rfl
    | none =>
      rw [hb] at h
      have h : (entryReads.lookup fn.name).isNone = true := h
      show entryReads.lookup fn.name = none
      simpa using h
end
end Go.Proofs.YtihflniehaaakaaGreatDoor
