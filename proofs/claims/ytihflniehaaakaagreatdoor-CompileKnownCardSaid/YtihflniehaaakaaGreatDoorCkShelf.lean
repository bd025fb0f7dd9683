/-
  DERIVED: THE SHELF's CONTRACTS AT THIS DUMP, IN PLAIN WORDS (tools/lay-plain.mjs out of 'TryzMini.lean', which tools/lay-shelf.mjs wrote): THE SAME DECLARATIONS UNDER THE SAME NAMES: 'import', 'namespace', 'open', 'def', 'theorem' AND NOTHING ELSE: no command of the shelf's: FOR A HAND-IN. Each laying: the table of numbers ('.._ren') and one theorem, a field a fact of the dump's own or the kernel's comparison; each contract: ONE APPLICATION.
-/
import Derived.Shelf.SlGeneric
import Derived.Ground.SlmcProg
import Derived.Ground.SlsfProg
import Derived.Ground.NamesProg
import Derived.Shelf.Small.Strs
import Derived.Shelf.Strings.Search1
import Derived.Shelf.Strings.Search2
import Derived.Shelf.Strings.Search3
import Derived.Shelf.SlMaps.Clone
import Derived.Shelf.SlSortCmp.Whole1
import Derived.Test.YtihflniehaaakaaGreatDoorProg
namespace Go.Proofs
open Go.Shelf
def Tryz.lays144_ren : Go.Shelf.Ren := ⟨fun | 144 => 258 | 143 => 378 | 219 => 468 | 217 => 528 | 225 => 529 | 224 => 530 | 267 => 531 | 266 => 589 | 314 => 590 | n => n, fun | 9 => 9 | 4 => 4 | 3 => 3 | 5 => 5 | 46 => 349 | 146 => 639 | 51 => 574 | n => n, fun | 1 => 4 | n => n⟩
theorem Tryz.lays144 : Go.Proofs.Lays.n144 Tryz.prog Tryz.lays144_ren := {
  mixed := by kernel_rfl
  f143 := Tryz.func378.trans (congrArg some (by kernel_rfl))
  f144 := Tryz.func258.trans (congrArg some (by kernel_rfl))
  f217 := Tryz.func528.trans (congrArg some (by kernel_rfl))
  f219 := Tryz.func468.trans (congrArg some (by kernel_rfl))
  f224 := Tryz.func530.trans (congrArg some (by kernel_rfl))
  f225 := Tryz.func529.trans (congrArg some (by kernel_rfl))
  f266 := Tryz.func589.trans (congrArg some (by kernel_rfl))
  f267 := Tryz.func531.trans (congrArg some (by kernel_rfl))
  f314 := Tryz.func590.trans (congrArg some (by kernel_rfl))
  t3 := Tryz.underlying3
  a3 := Tryz.isAgg3
  z3 := Tryz.sizeOf3
  v3 := Tryz.zeroValue3
  t4 := Tryz.underlying4
  a4 := Tryz.isAgg4
  z4 := Tryz.sizeOf4
  v4 := Tryz.zeroValue4
  t5 := Tryz.underlying5
  a5 := Tryz.isAgg5
  z5 := Tryz.sizeOf5
  v5 := Tryz.zeroValue5
  t9 := Tryz.underlying9
  a9 := Tryz.isAgg9
  z9 := Tryz.sizeOf9
  v9 := Tryz.zeroValue9
  t46 := Tryz.underlying349
  a46 := Tryz.isAgg349
  z46 := Tryz.sizeOf349
  v46 := Tryz.zeroValue349
  t51 := Tryz.underlying574
  a51 := Tryz.isAgg574
  z51 := Tryz.sizeOf574
  v51 := Tryz.zeroValue574
  t146 := Tryz.underlying639
  a146 := Tryz.isAgg639
  z146 := Tryz.sizeOf639
  v146 := Tryz.zeroValue639
  g1 := by kernel_rfl }
open Go.RowKit Go.Lib in
/-- strings.Contains of one byte. -/
theorem Tryz.strings_Contains_one (s : ByteArray) (c : UInt8) (w : World) :
    Calls Tryz.prog 258 #[.string s, .string ⟨#[c]⟩] w fun e w' => e = .returned (.bool (decide (0 ≤ Lib.indexByte s.data.toList c))) ∧ w' = w := Any.strings_Contains_one Tryz.lays144 s c w
def Tryz.cloneM_ren : Go.Shelf.Ren := ⟨fun | 5 => 386 | 7 => 471 | n => n, fun | 23 => 280 | 25 => 9 | 3 => 3 | 4 => 4 | 20 => 20 | n => n, fun | n => n⟩
theorem Tryz.cloneM : Go.Proofs.SlLaysW.n5 Tryz.prog Tryz.cloneM_ren := {
  mixed := by kernel_rfl
  f5 := ⟨Tryz.f386.name, by decide, Tryz.func386.trans (congrArg some (by kernel_rfl))⟩
  f7 := Tryz.func471.trans (congrArg some (by kernel_rfl))
  t4 := Tryz.underlying4
  a4 := Tryz.isAgg4
  z4 := Tryz.sizeOf4
  v4 := Tryz.zeroValue4
  t20 := Tryz.underlying20
  a20 := Tryz.isAgg20
  z20 := Tryz.sizeOf20
  v20 := Tryz.zeroValue20
  t23 := Tryz.underlying280
  a23 := Tryz.isAgg280
  z23 := Tryz.sizeOf280
  v23 := Tryz.zeroValue280 }
def Tryz.sort430_ren : Go.Shelf.Ren := ⟨fun | 6 => 430 | 15 => 424 | 14 => 505 | 28 => 503 | 29 => 504 | 20 => 568 | 21 => 569 | 22 => 570 | 23 => 571 | 24 => 572 | 25 => 573 | 26 => 574 | 27 => 575 | 46 => 618 | 47 => 564 | 48 => 565 | 49 => 619 | 50 => 620 | 57 => 636 | n => n, fun | 22 => 432 | 24 => 428 | 25 => 515 | 3 => 3 | 39 => 349 | 0 => 0 | 53 => 574 | 55 => 193 | 4 => 4 | 46 => 567 | 45 => 566 | 50 => 89 | 5 => 5 | 9 => 9 | 66 => 612 | 70 => 494 | 76 => 656 | 77 => 657 | n => n, fun | n => n⟩
theorem Tryz.sort430 : Go.Proofs.SlLaysF.n6 Tryz.prog Tryz.sort430_ren := {
  mixed := by kernel_rfl
  f6 := ⟨Tryz.f430.name, by decide, Tryz.func430.trans (congrArg some (by kernel_rfl))⟩
  f14 := ⟨Tryz.f505.name, by decide, Tryz.func505.trans (congrArg some (by kernel_rfl))⟩
  f15 := Tryz.func424.trans (congrArg some (by kernel_rfl))
  f20 := ⟨Tryz.f568.name, by decide, Tryz.func568.trans (congrArg some (by kernel_rfl))⟩
  f21 := ⟨Tryz.f569.name, by decide, Tryz.func569.trans (congrArg some (by kernel_rfl))⟩
  f22 := ⟨Tryz.f570.name, by decide, Tryz.func570.trans (congrArg some (by kernel_rfl))⟩
  f23 := ⟨Tryz.f571.name, by decide, Tryz.func571.trans (congrArg some (by kernel_rfl))⟩
  f24 := ⟨Tryz.f572.name, by decide, Tryz.func572.trans (congrArg some (by kernel_rfl))⟩
  f25 := ⟨Tryz.f573.name, by decide, Tryz.func573.trans (congrArg some (by kernel_rfl))⟩
  f26 := ⟨Tryz.f574.name, by decide, Tryz.func574.trans (congrArg some (by kernel_rfl))⟩
  f27 := ⟨Tryz.f575.name, by decide, Tryz.func575.trans (congrArg some (by kernel_rfl))⟩
  f28 := Tryz.func503.trans (congrArg some (by kernel_rfl))
  f29 := Tryz.func504.trans (congrArg some (by kernel_rfl))
  f46 := ⟨Tryz.f618.name, by decide, Tryz.func618.trans (congrArg some (by kernel_rfl))⟩
  f47 := Tryz.func564.trans (congrArg some (by kernel_rfl))
  f48 := Tryz.func565.trans (congrArg some (by kernel_rfl))
  f49 := ⟨Tryz.f619.name, by decide, Tryz.func619.trans (congrArg some (by kernel_rfl))⟩
  f50 := ⟨Tryz.f620.name, by decide, Tryz.func620.trans (congrArg some (by kernel_rfl))⟩
  f57 := ⟨Tryz.f636.name, by decide, Tryz.func636.trans (congrArg some (by kernel_rfl))⟩
  t0 := Tryz.underlying0
  a0 := Tryz.isAgg0
  z0 := Tryz.sizeOf0
  v0 := Tryz.zeroValue0
  t3 := Tryz.underlying3
  a3 := Tryz.isAgg3
  z3 := Tryz.sizeOf3
  v3 := Tryz.zeroValue3
  t4 := Tryz.underlying4
  a4 := Tryz.isAgg4
  z4 := Tryz.sizeOf4
  v4 := Tryz.zeroValue4
  t5 := Tryz.underlying5
  a5 := Tryz.isAgg5
  z5 := Tryz.sizeOf5
  v5 := Tryz.zeroValue5
  t9 := Tryz.underlying9
  a9 := Tryz.isAgg9
  z9 := Tryz.sizeOf9
  v9 := Tryz.zeroValue9
  t22 := Tryz.underlying432
  a22 := Tryz.isAgg432
  z22 := Tryz.sizeOf432
  v22 := Tryz.zeroValue432
  a24 := Tryz.isAgg428
  z24 := Tryz.sizeOf428
  t25 := Tryz.underlying515
  a25 := Tryz.isAgg515
  z25 := Tryz.sizeOf515
  v25 := Tryz.zeroValue515
  t39 := Tryz.underlying349
  a39 := Tryz.isAgg349
  z39 := Tryz.sizeOf349
  v39 := Tryz.zeroValue349
  t45 := Tryz.underlying566
  a45 := Tryz.isAgg566
  z45 := Tryz.sizeOf566
  v45 := Tryz.zeroValue566
  t46 := Tryz.underlying567
  a46 := Tryz.isAgg567
  z46 := Tryz.sizeOf567
  v46 := Tryz.zeroValue567
  t50 := Tryz.underlying89
  a50 := Tryz.isAgg89
  z50 := Tryz.sizeOf89
  v50 := Tryz.zeroValue89
  t53 := Tryz.underlying574
  a53 := Tryz.isAgg574
  z53 := Tryz.sizeOf574
  v53 := Tryz.zeroValue574
  t55 := Tryz.underlying193
  a55 := Tryz.isAgg193
  z55 := Tryz.sizeOf193
  v55 := Tryz.zeroValue193
  t66 := Tryz.underlying612
  a66 := Tryz.isAgg612
  z66 := Tryz.sizeOf612
  v66 := Tryz.zeroValue612
  t70 := Tryz.underlying494
  a70 := Tryz.isAgg494
  z70 := Tryz.sizeOf494
  v70 := Tryz.zeroValue494
  t76 := Tryz.underlying656
  a76 := Tryz.isAgg656
  z76 := Tryz.sizeOf656
  v76 := Tryz.zeroValue656
  t77 := Tryz.underlying657
  a77 := Tryz.isAgg657
  z77 := Tryz.sizeOf657
  v77 := Tryz.zeroValue657 }
end Go.Proofs
