/-
  stagehandlaw20.CompileKnown answers true: the examples of the document are compiled and run as it says.
  Conditions: strings.asciiSpace and bits.deBruijn64tab hold what the program's text lays (the card ties them, and the other listed variables, to the pruned copy of the project that the seat's roots load).
-/
import Derived.Test.YtihflniehaaakaaGreatDoorCkKnown
import Derived.Test.YtihflniehaaakaaGreatDoorRows
import Derived.ProofKit
import Derived.LaidMore
import Derived.OpenShut
import Derived.Stop.Joined
import Derived.Lib.LaidTab
namespace Go.Proofs.YtihflniehaaakaaGreatDoor
set_option linter.unusedVariables false
set_option linter.unusedSimpArgs false
open Go.ChangeShapes Go.WideShapes Go.ChangeAt Go.WideMaps Go.WideElems Go.RowKit
open Ev

theorem own : ownKnob Tryz.prog.godebug = none := by kernel_rfl
theorem gSpace : Tryz.prog.globalNamed "strings.asciiSpace" = some 0 := by kernel_rfl
def nmBits : String := (Rows.compileKnownRow.named[5]?).getD ""
theorem gBits : Tryz.prog.globalNamed nmBits = some 1 := by kernel_rfl
theorem tSpace : (Tryz.prog.globals[0]?).map (·.type) = some 531 := by kernel_rfl
theorem tBits : (Tryz.prog.globals[1]?).map (·.type) = some 575 := by kernel_rfl
def intsOf (l : List V) : List Int := l.map fun v => match v with
  | .int _ n => n
  | _ => 0
def zs : List Int := intsOf tbl
def ys : List Int := intsOf tbS
theorem tbl_zs : tbl = zs.map fun z => V.int .u8 z := by kernel_rfl
theorem tbS_ys : tbS = ys.map fun z => V.int .u8 z := by kernel_rfl
theorem laid_zs : (Rows.laid_strings_asciiSpace : DataW Unit) = Lib.tabData .u8 zs := by kernel_rfl
theorem laid_ys : (Rows.laid_math_bits_deBruijn64tab : DataW Unit) = Lib.tabData .u8 ys := by kernel_rfl
theorem elem531 : Tryz.prog.underlying 531 = some (.array 256 5) ∧ Tryz.prog.underlying 5 = some (.int .u8) ∧ Tryz.prog.cellsOf 5 = 1 ∧ Tryz.prog.cellsOf 531 = 256 := ⟨by kernel_rfl, by kernel_rfl, by kernel_rfl, by kernel_rfl⟩
theorem elem575 : Tryz.prog.underlying 575 = some (.array 64 5) ∧ Tryz.prog.underlying 5 = some (.int .u8) ∧ Tryz.prog.cellsOf 5 = 1 ∧ Tryz.prog.cellsOf 575 = 64 := ⟨by kernel_rfl, by kernel_rfl, by kernel_rfl, by kernel_rfl⟩
/-- The variable's block. -/
theorem block_of {W : World} {name : String} {g : Nat} {cs : Array Value} (hg : Tryz.prog.globalNamed name = some g) (hv : W.var? Tryz.prog name = some cs) (hc : ∃ c t, W.heap[g]? = some (.cells c t (0, 0))) : ∃ t, W.heap[g]? = some (.cells cs t (0, 0)) := by
  obtain ⟨c, t, hh⟩ := hc
  have : c = cs := by
    unfold World.var? at hv
    rw [hg] at hv
    simpa [hh] using hv
  exact ⟨t, by rw [hh, this]⟩
section
variable [Opq]
theorem vrs_ints {g : G} : ∀ l : List Int, VRs g (l.map fun z => V.int .u8 z) (l.map fun z => Value.int .u8 z)
  | [] => .nil
  | _ :: l => .cons (.int _ _) (vrs_ints l)
theorem pin_list {w : World} {b : Nat} {c : Array Value} {t : TypeId} {l : List V} (h : w.heap[b]? = some (.cells c t (0, 0))) (hv : VRs nog l c.toList) : PinAt w b l :=
  ⟨c, t, c.toList, h, hv, fun j u e => by simpa using e, by simp⟩
set_option maxRecDepth 100000 in
theorem of_laid {W : World} (h : laidMetH Tryz.prog Rows.compileKnownRow.laid W) : PinAt W 0 tbl ∧ PinAt W 1 tbS := by
  rw [MakeChecks.laidMetH_plain _ _ _ (by kernel_rfl)] at h
  obtain ⟨ps, L, _, hc⟩ := h
  obtain ⟨_, _, _, _, p1, q1, _, _, _, _, L, e1⟩ := L
  obtain ⟨g2, t2, c2, fuel2, p2, q2, hg2, ht2, hv2, hd2, L, e2⟩ := L
  obtain ⟨_, _, _, _, p3, q3, _, _, _, _, L, e3⟩ := L
  obtain ⟨_, _, _, _, p4, q4, _, _, _, _, L, e4⟩ := L
  obtain ⟨g5, t5, c5, fuel5, p5, q5, hg5, ht5, hv5, hd5, _, e5⟩ := L
  obtain rfl := Option.some.inj (gBits.symm.trans (show Tryz.prog.globalNamed nmBits = _ from hg2))
  obtain rfl := Option.some.inj (tBits.symm.trans ht2)
  obtain rfl := Option.some.inj (gSpace.symm.trans hg5)
  obtain rfl := Option.some.inj (tSpace.symm.trans ht5)
  obtain ⟨u1, u2, u3, u4⟩ := elem531
  obtain ⟨v1, v2, v3, v4⟩ := elem575
  have hs : c5.toList = zs.map fun z => Value.int .u8 z := Lib.cells_of_tab (p := p5) u1 u2 u3 u4 (by rw [← laid_zs]; exact hd5)
  have hr : c2.toList = ys.map fun z => Value.int .u8 z := Lib.cells_of_tab (p := p2) v1 v2 v3 v4 (by rw [← laid_ys]; exact hd2)
  have n5 : c5.size = 256 := by
    have : c5.toList.length = 256 := by rw [hs, List.length_map]; exact (by kernel_rfl : zs.length = 256)
    simpa using this
  have n2 : c2.size = 64 := by
    have : c2.toList.length = 64 := by rw [hr, List.length_map]; exact (by kernel_rfl : ys.length = 64)
    simpa using this
  have m5 : MemPlace.cell 0 0 ∈ q4 := by
    rw [e5, n5]
    refine List.mem_append_left _ (List.mem_append_left _ ?_)
    exact List.mem_map.2 ⟨0, by simp, rfl⟩
  have m2 : MemPlace.cell 1 0 ∈ q1 := by
    rw [e2, n2]
    refine List.mem_append_left _ (List.mem_append_left _ ?_)
    exact List.mem_map.2 ⟨0, by simp, rfl⟩
  have m51 : MemPlace.cell 0 0 ∈ q1 := by rw [e2, e3, e4]; exact List.mem_append_right _ (List.mem_append_right _ (List.mem_append_right _ m5))
  obtain ⟨⟨ca, ta, ha⟩, _⟩ := hc 0 0 (by rw [e1]; exact List.mem_append_right _ m51)
  obtain ⟨⟨cb, tb, hb⟩, _⟩ := hc 1 0 (by rw [e1]; exact List.mem_append_right _ m2)
  obtain ⟨x, hx⟩ := block_of gSpace hv5 ⟨ca, ta, ha⟩
  obtain ⟨y, hy⟩ := block_of gBits (show W.var? Tryz.prog nmBits = _ from hv2) ⟨cb, tb, hb⟩
  exact ⟨pin_list hx (by rw [hs, tbl_zs]; exact vrs_ints zs), pin_list hy (by rw [hr, tbS_ys]; exact vrs_ints ys)⟩
end
theorem kept_of {W W' : World} (k : Still W W') : W.keptBut W' (fun _ => False) := by
  refine ⟨k.os, k.output, fun i hi => ?_⟩
  rw [k.keep i hi]
  cases h : W.heap[i]? with
  | none => rfl
  | some o => cases o <;> simp
end Go.Proofs.YtihflniehaaakaaGreatDoor
