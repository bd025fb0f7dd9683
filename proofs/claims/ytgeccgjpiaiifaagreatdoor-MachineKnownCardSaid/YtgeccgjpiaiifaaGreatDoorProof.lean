/-
  stagehandlaw25.MachineKnown answers true: the examples of the chapter are as the machine runs them.
  Conditions: code.rows and strings.asciiSpace hold what the program's text lays (the card ties them, and unicode.White_Space, to the pruned copy of the project that the seat's roots load).
-/
import Derived.Test.YtgeccgjpiaiifaaGreatDoorMkLaw
import Derived.Test.YtgeccgjpiaiifaaGreatDoorMkRows
import Derived.Test.YtgeccgjpiaiifaaGreatDoorRows
import Derived.ProofKit
import Derived.LaidMore
import Derived.OpenShut
import Derived.Stop.Joined
import Derived.Lib.LaidTab
namespace Go.Proofs.YtgeccgjpiaiifaaGreatDoor
open Go.ChangeShapes Go.WideShapes Go.ChangeAt Go.WideMaps Go.WideElems Go.RowKit
open Ev

theorem own : ownKnob Tryz.prog.godebug = none := by kernel_rfl
def nmRows : String := (Rows.machineKnownRow.named[0]?).getD ""
theorem gRows : Tryz.prog.globalNamed nmRows = some 0 := by kernel_rfl
theorem gSpace : Tryz.prog.globalNamed "strings.asciiSpace" = some 1 := by kernel_rfl
theorem tRows : (Tryz.prog.globals[0]?).map (·.type) = some 268 := by kernel_rfl
theorem tSpace : (Tryz.prog.globals[1]?).map (·.type) = some 407 := by kernel_rfl
def tri : List Int → List (Int × Int × Int)
  | a :: b :: c :: l => (a, b, c) :: tri l
  | _ => []
def rs : List (Int × Int × Int) := tri (tbl.map fun v => match v with
  | .int _ n => n
  | _ => 0)
def zs : List Int := tbS.map fun v => match v with
  | .int _ n => n
  | _ => 0
def vOf (r : Int × Int × Int) : List V := [.int .i64 r.1, .int .i64 r.2.1, .int .i64 r.2.2]
theorem tbl_rs : tbl = rs.flatMap vOf := by kernel_rfl
theorem tbS_zs : tbS = zs.map fun z => V.int .u8 z := by kernel_rfl
theorem laid_rs : (Rows.laid_stagehand_code_rows : DataW Unit) = .agg (rs.map rowD) := by kernel_rfl
theorem laid_zs : (Rows.laid_strings_asciiSpace : DataW Unit) = Lib.tabData .u8 zs := by kernel_rfl
theorem elem407 : Tryz.prog.underlying 407 = some (.array 256 5) ∧ Tryz.prog.underlying 5 = some (.int .u8) ∧ Tryz.prog.cellsOf 5 = 1 ∧ Tryz.prog.cellsOf 407 = 256 := ⟨by kernel_rfl, by kernel_rfl, by kernel_rfl, by kernel_rfl⟩
def chk3 (d : Option TypeDesc) : Bool := match d with
  | some (.struct fs) => match fs.toList with
    | [f0, f1, f2] => Nat.beq f0.offset 0 && Nat.beq f0.type 3 && Nat.beq f1.offset 1 && Nat.beq f1.type 3 && Nat.beq f2.offset 2 && Nat.beq f2.type 3
    | _ => false
  | _ => false
theorem chk3_ok {d : Option TypeDesc} (h : chk3 d = true) : ∃ f0 f1 f2 : Field, d = some (.struct #[f0, f1, f2]) ∧ (f0.offset = 0 ∧ f0.type = 3) ∧ (f1.offset = 1 ∧ f1.type = 3) ∧ (f2.offset = 2 ∧ f2.type = 3) := by
  unfold chk3 at h
  split at h
  · rename_i fs
    split at h
    · rename_i f0 f1 f2 he
      have : fs = #[f0, f1, f2] := Array.toList_inj.1 he
      subst this
      simp only [Bool.and_eq_true] at h
      obtain ⟨⟨⟨⟨⟨a, b⟩, c⟩, d⟩, e⟩, f⟩ := h
      exact ⟨f0, f1, f2, rfl, ⟨Nat.eq_of_beq_eq_true a, Nat.eq_of_beq_eq_true b⟩, ⟨Nat.eq_of_beq_eq_true c, Nat.eq_of_beq_eq_true d⟩, ⟨Nat.eq_of_beq_eq_true e, Nat.eq_of_beq_eq_true f⟩⟩
    · cases h
  · cases h
theorem elem268 : ∃ f0 f1 f2 : Field, Tryz.prog.underlying 268 = some (.array 41 185) ∧ Tryz.prog.underlying 185 = some (.struct #[f0, f1, f2]) ∧ Tryz.prog.underlying 3 = some (.int .i64) ∧ Tryz.prog.cellsOf 3 = 1 ∧ Tryz.prog.cellsOf 185 = 3 ∧ Tryz.prog.cellsOf 268 = 41 * 3 ∧
    (f0.offset = 0 ∧ f0.type = 3) ∧ (f1.offset = 1 ∧ f1.type = 3) ∧ (f2.offset = 2 ∧ f2.type = 3) := by
  obtain ⟨f0, f1, f2, h, a, b, c⟩ := chk3_ok (show chk3 (Tryz.prog.underlying 185) = true by kernel_rfl)
  exact ⟨f0, f1, f2, by kernel_rfl, h, by kernel_rfl, by kernel_rfl, by kernel_rfl, by kernel_rfl, a, b, c⟩
theorem vrs_rows {g : G} : ∀ l : List (Int × Int × Int), VRs g (l.flatMap vOf) (l.flatMap rowV)
  | [] => .nil
  | _ :: l => .cons (.int _ _) (.cons (.int _ _) (.cons (.int _ _) (vrs_rows l)))
theorem vrs_ints {g : G} : ∀ l : List Int, VRs g (l.map fun z => V.int .u8 z) (l.map fun z => Value.int .u8 z)
  | [] => .nil
  | _ :: l => .cons (.int _ _) (vrs_ints l)
theorem pin_list {w : World} {b : Nat} {c : Array Value} {t : TypeId} {l : List V} (h : w.heap[b]? = some (.cells c t (0, 0))) (hv : VRs nog l c.toList) : PinAt w b l :=
  ⟨c, t, c.toList, h, hv, fun j u e => by simpa using e, by simp⟩
/-- The variable's block. -/
theorem block_of {W : World} {name : String} {g : Nat} {cs : Array Value} (hg : Tryz.prog.globalNamed name = some g) (hv : W.var? Tryz.prog name = some cs) (hc : ∃ c t, W.heap[g]? = some (.cells c t (0, 0))) : ∃ t, W.heap[g]? = some (.cells cs t (0, 0)) := by
  obtain ⟨c, t, hh⟩ := hc
  have : c = cs := by
    unfold World.var? at hv
    rw [hg] at hv
    simpa [hh] using hv
  exact ⟨t, by rw [hh, this]⟩

set_option maxRecDepth 100000 in
theorem of_laid {W : World} (h : laidMetH Tryz.prog Rows.machineKnownRow.laid W) : PinAt W 0 tbl ∧ PinAt W 1 tbS := by
  rw [MakeChecks.laidMetH_plain _ _ _ (by kernel_rfl)] at h
  obtain ⟨ps, L, _, hc⟩ := h
  obtain ⟨_, _, _, _, p1, q1, _, _, _, _, L, e1⟩ := L
  obtain ⟨g2, t2, c2, fuel2, p2, q2, hg2, ht2, hv2, hd2, L, e2⟩ := L
  obtain ⟨g3, t3, c3, fuel3, p3, q3, hg3, ht3, hv3, hd3, _, e3⟩ := L
  obtain rfl := Option.some.inj (gSpace.symm.trans hg2)
  obtain rfl := Option.some.inj (tSpace.symm.trans ht2)
  obtain rfl := Option.some.inj (gRows.symm.trans (show Tryz.prog.globalNamed nmRows = _ from hg3))
  obtain rfl := Option.some.inj (tRows.symm.trans ht3)
  obtain ⟨u1, u2, u3, u4⟩ := elem407
  have hs : c2.toList = zs.map fun z => Value.int .u8 z := Lib.cells_of_tab (p := p2) u1 u2 u3 u4 (by rw [← laid_zs]; exact hd2)
  obtain ⟨f0, f1, f2, v1, v2, v3, v4, v5, v6, v7, v8, v9⟩ := elem268
  obtain ⟨k1, k2, k3⟩ := trod_rows (p := p3) (rs := rs) v1 v2 v3 v4 v5 v6 v7 v8 v9 (by rw [← laid_rs]; exact hd3)
  have hr : c3.toList = rs.flatMap rowV := flat_rows (by rw [k1, k2]) k3
  have n2 : c2.size = 256 := by
    have : c2.toList.length = 256 := by rw [hs, List.length_map]; exact (by kernel_rfl : zs.length = 256)
    simpa using this
  have n3 : c3.size = 123 := by simpa using k1
  have m3 : MemPlace.cell 0 0 ∈ q2 := by
    rw [e3, n3]
    refine List.mem_append_left _ (List.mem_append_left _ ?_)
    exact List.mem_map.2 ⟨0, by simp, rfl⟩
  have m2 : MemPlace.cell 1 0 ∈ q1 := by
    rw [e2, n2]
    refine List.mem_append_left _ (List.mem_append_left _ ?_)
    exact List.mem_map.2 ⟨0, by simp, rfl⟩
  have m31 : MemPlace.cell 0 0 ∈ q1 := by rw [e2]; exact List.mem_append_right _ m3
  obtain ⟨⟨ca, ta, ha⟩, _⟩ := hc 0 0 (by rw [e1]; exact List.mem_append_right _ m31)
  obtain ⟨⟨cb, tb, hb⟩, _⟩ := hc 1 0 (by rw [e1]; exact List.mem_append_right _ m2)
  obtain ⟨x, hx⟩ := block_of gRows (show W.var? Tryz.prog nmRows = _ from hv3) ⟨ca, ta, ha⟩
  obtain ⟨y, hy⟩ := block_of gSpace hv2 ⟨cb, tb, hb⟩
  exact ⟨pin_list hx (by rw [hr, tbl_rs]; exact vrs_rows rs), pin_list hy (by rw [hs, tbS_zs]; exact vrs_ints zs)⟩
theorem kept_of {W W' : World} (k : Still W W') : W.keptBut W' (fun _ => False) := by
  refine ⟨k.os, k.output, fun i hi => ?_⟩
  rw [k.keep i hi]
  cases h : W.heap[i]? with
  | none => rfl
  | some o => cases o <;> simp
end Go.Proofs.YtgeccgjpiaiifaaGreatDoor
