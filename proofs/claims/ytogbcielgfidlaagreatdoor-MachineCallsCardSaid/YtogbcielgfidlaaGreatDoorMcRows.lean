/-
  A table of rows of three integers, and what its cells are.
-/
import Derived.Test.YtogbcielgfidlaaGreatDoorMcStage
import Derived.Lib.LaidTab
import Derived.Test.YtogbcielgfidlaaGreatDoorMcLaw
import Derived.Test.YtogbcielgfidlaaGreatDoorRows
import Derived.ProofKit
import Derived.LaidMore
import Derived.OpenShut
import Derived.Stop.Joined
import Derived.Deep.Slices
import Derived.Deep.Fields
import Derived.ChangeSame
import Derived.ChangeArms
namespace Go.Proofs.YtogbcielgfidlaaGreatDoor
set_option linter.unusedVariables false
set_option linter.unusedSimpArgs false
set_option linter.unusedSectionVars false
namespace Ev
variable [Opq]
set_option linter.unusedSectionVars false
def rowD {H : Type} (r : Int × Int × Int) : DataW H := .agg [.lit (.int .i64 r.1), .lit (.int .i64 r.2.1), .lit (.int .i64 r.2.2)]
def rowV (r : Int × Int × Int) : List Value := [.int .i64 r.1, .int .i64 r.2.1, .int .i64 r.2.2]
section
variable {H : Type} {enc : TypeId × Value → H} {P : Program} {w : World} {base : Nat} {sp : Nat → Bool} {held : Bool}
theorem int_eq {ti : TypeId} {cs : List Value} {fuel : Nat} {x : DataW H × List MemPlace} {z : Int} (hi : P.underlying ti = some (.int .i64)) (h : DataW.trod enc P w base sp held fuel ti cs = some x) (hx : x.1 = .lit (.int .i64 z)) : cs = [.int .i64 z] := by
  obtain ⟨n, h1, h2, _⟩ := DataW.trod_int hi h
  rw [h2] at hx
  cases hx
  exact h1
theorem trod_row {e ti : TypeId} {f0 f1 f2 : Field} {cs : List Value} {fuel : Nat} {x : DataW H × List MemPlace} {r : Int × Int × Int} (he : P.underlying e = some (.struct #[f0, f1, f2])) (hi : P.underlying ti = some (.int .i64)) (hci : P.cellsOf ti = 1) (hce : P.cellsOf e = 3)
    (h0 : f0.offset = 0 ∧ f0.type = ti) (h1 : f1.offset = 1 ∧ f1.type = ti) (h2 : f2.offset = 2 ∧ f2.type = ti)
    (h : DataW.trod enc P w base sp held fuel e cs = some x) (hx : x.1 = rowD r) : cs = rowV r := by
  cases fuel with
  | zero => simp [DataW.trod] at h
  | succ fuel =>
    simp only [DataW.trod, he, hce] at h
    split at h
    · rename_i hl
      obtain ⟨xs, hm, rfl⟩ := Option.map_eq_some_iff.1 h
      have hx : xs.map (·.1) = [.lit (.int .i64 r.1), .lit (.int .i64 r.2.1), .lit (.int .i64 r.2.2)] := by
        have : DataW.agg (xs.map (·.1)) = rowD r := hx
        unfold rowD at this
        injection this
      have at' : ∀ (i : Nat) (f : Field) (z : Int), ([f0, f1, f2] : List Field)[i]? = some f → f.offset = i → f.type = ti → (xs.map (·.1))[i]? = some (.lit (.int .i64 z)) → cs[i]? = some (.int .i64 z) := by
        intro i f z hf ho hty hz
        obtain ⟨b, hb, hd⟩ := Lib.mapM_at hm i f hf
        rw [ho, hty, hci] at hd
        have hb1 : b.1 = .lit (.int .i64 z) := by simpa [hb] using hz
        have hc := int_eq hi hd hb1
        have := congrArg (·[0]?) hc
        simpa [List.getElem?_take, List.getElem?_drop] using this
      have a0 := at' 0 f0 r.1 rfl h0.1 h0.2 (by rw [hx]; rfl)
      have a1 := at' 1 f1 r.2.1 rfl h1.1 h1.2 (by rw [hx]; rfl)
      have a2 := at' 2 f2 r.2.2 rfl h2.1 h2.2 (by rw [hx]; rfl)
      obtain _ | ⟨c0, _ | ⟨c1, _ | ⟨c2, _ | _⟩⟩⟩ := cs
      case cons.cons.cons.nil =>
        cases a0
        cases a1
        cases a2
        rfl
      all_goals simp at hl
    · cases h
theorem trod_rows {t e ti : TypeId} {f0 f1 f2 : Field} {n : Nat} {cs : List Value} {fuel : Nat} {p : List MemPlace} {rs : List (Int × Int × Int)} (ht : P.underlying t = some (.array n e)) (he : P.underlying e = some (.struct #[f0, f1, f2])) (hi : P.underlying ti = some (.int .i64)) (hci : P.cellsOf ti = 1) (hce : P.cellsOf e = 3) (hct : P.cellsOf t = n * 3)
    (h0 : f0.offset = 0 ∧ f0.type = ti) (h1 : f1.offset = 1 ∧ f1.type = ti) (h2 : f2.offset = 2 ∧ f2.type = ti)
    (h : DataW.trod enc P w base sp held fuel t cs = some (.agg (rs.map rowD), p)) : cs.length = n * 3 ∧ rs.length = n ∧ ∀ i r, rs[i]? = some r → (cs.drop (i * 3)).take 3 = rowV r := by
  cases fuel with
  | zero => simp [DataW.trod] at h
  | succ fuel =>
    simp only [DataW.trod, ht, hce, hct] at h
    split at h
    · rename_i hl
      obtain ⟨xs, hm, hx⟩ := Option.map_eq_some_iff.1 h
      have hxs : xs.map (·.1) = rs.map rowD := by
        have := congrArg Prod.fst hx
        injection this
      have hxl : xs.length = n := by simpa using Lib.mapM_length hm
      have hrl : rs.length = n := by
        have := congrArg List.length hxs
        simp at this
        omega
      refine ⟨hl, hrl, fun i r hr => ?_⟩
      have hi' : i < n := by rw [← hrl]; exact (List.getElem?_eq_some_iff.1 hr).1
      obtain ⟨b, hb, hd⟩ := Lib.mapM_at hm i i (by simp [hi'])
      refine trod_row he hi hci hce h0 h1 h2 hd ?_
      have : (xs.map (·.1))[i]? = (rs.map (rowD (H := H)))[i]? := by rw [hxs]
      simpa [hb, hr] using this
    · cases h
end
theorem flat_rows : ∀ {rs : List (Int × Int × Int)} {cs : List Value}, cs.length = rs.length * 3 → (∀ i r, rs[i]? = some r → (cs.drop (i * 3)).take 3 = rowV r) → cs = rs.flatMap rowV
  | [], cs, hl, _ => List.eq_nil_of_length_eq_zero (by simpa using hl)
  | r :: rs, cs, hl, h => by
    have a := h 0 r rfl
    have b := flat_rows (rs := rs) (cs := cs.drop 3) (by simp at hl ⊢; omega) fun i r hr => by
      have := h (i + 1) r (by simpa using hr)
      rw [List.drop_drop, show 3 + i * 3 = (i + 1) * 3 by omega]
      exact this
    rw [List.flatMap_cons, ← b, ← a]
    simp
end Ev
end Go.Proofs.YtogbcielgfidlaaGreatDoor
namespace Go.Proofs.YtogbcielgfidlaaGreatDoor
set_option linter.unusedVariables false
set_option linter.unusedSimpArgs false
set_option linter.unusedSectionVars false
open Go.ChangeShapes Go.WideShapes Go.ChangeAt Go.WideMaps Go.WideElems Go.RowKit
open Ev

theorem own : ownKnob Tryz.prog.godebug = none := by kernel_rfl
def nmRows : String := (Rows.machineCallsRow.named[3]?).getD ""
theorem gRows : Tryz.prog.globalNamed nmRows = some 0 := by kernel_rfl
theorem gSpace : Tryz.prog.globalNamed "strings.asciiSpace" = some 1 := by kernel_rfl
theorem tRows : (Tryz.prog.globals[0]?).map (·.type) = some 259 := by kernel_rfl
theorem tSpace : (Tryz.prog.globals[1]?).map (·.type) = some 399 := by kernel_rfl
def tri : List Int → List (Int × Int × Int)
  | a :: b :: c :: l => (a, b, c) :: tri l
  | _ => []
def rs : List (Int × Int × Int) := tri (tbl.map fun v => match v with
  | .int _ n => n
  | _ => 0)
def zs : List Int := tbS.map fun v => match v with
  | .int _ n => n
  | _ => 0
def vOf (r : Int × Int × Int) : List V := [.int .i64 r.1, .int .i64 r.2.1, .int .i64 r.2.2]
theorem tbl_rs : tbl = rs.flatMap vOf := by kernel_rfl
theorem tbS_zs : tbS = zs.map fun z => V.int .u8 z := by kernel_rfl
theorem laid_rs : (Rows.laid_stagehand_code_rows : DataW Unit) = .agg (rs.map rowD) := by kernel_rfl
theorem laid_zs : (Rows.laid_strings_asciiSpace : DataW Unit) = Lib.tabData .u8 zs := by kernel_rfl
theorem elem399 : Tryz.prog.underlying 399 = some (.array 256 5) ∧ Tryz.prog.underlying 5 = some (.int .u8) ∧ Tryz.prog.cellsOf 5 = 1 ∧ Tryz.prog.cellsOf 399 = 256 := ⟨by kernel_rfl, by kernel_rfl, by kernel_rfl, by kernel_rfl⟩
def chk3 (d : Option TypeDesc) : Bool := match d with
  | some (.struct fs) => match fs.toList with
    | [f0, f1, f2] => Nat.beq f0.offset 0 && Nat.beq f0.type 3 && Nat.beq f1.offset 1 && Nat.beq f1.type 3 && Nat.beq f2.offset 2 && Nat.beq f2.type 3
    | _ => false
  | _ => false
theorem chk3_ok {d : Option TypeDesc} (h : chk3 d = true) : ∃ f0 f1 f2 : Field, d = some (.struct #[f0, f1, f2]) ∧ (f0.offset = 0 ∧ f0.type = 3) ∧ (f1.offset = 1 ∧ f1.type = 3) ∧ (f2.offset = 2 ∧ f2.type = 3) := by
  unfold chk3 at h
  split at h
  · rename_i fs
    split at h
    · rename_i f0 f1 f2 he
      have : fs = #[f0, f1, f2] := Array.toList_inj.1 he
      subst this
      simp only [Bool.and_eq_true] at h
      obtain ⟨⟨⟨⟨⟨a, b⟩, c⟩, d⟩, e⟩, f⟩ := h
      exact ⟨f0, f1, f2, rfl, ⟨Nat.eq_of_beq_eq_true a, Nat.eq_of_beq_eq_true b⟩, ⟨Nat.eq_of_beq_eq_true c, Nat.eq_of_beq_eq_true d⟩, ⟨Nat.eq_of_beq_eq_true e, Nat.eq_of_beq_eq_true f⟩⟩
    · cases h
  · cases h
theorem elem259 : ∃ f0 f1 f2 : Field, Tryz.prog.underlying 259 = some (.array 41 173) ∧ Tryz.prog.underlying 173 = some (.struct #[f0, f1, f2]) ∧ Tryz.prog.underlying 3 = some (.int .i64) ∧ Tryz.prog.cellsOf 3 = 1 ∧ Tryz.prog.cellsOf 173 = 3 ∧ Tryz.prog.cellsOf 259 = 41 * 3 ∧
    (f0.offset = 0 ∧ f0.type = 3) ∧ (f1.offset = 1 ∧ f1.type = 3) ∧ (f2.offset = 2 ∧ f2.type = 3) := by
  obtain ⟨f0, f1, f2, h, a, b, c⟩ := chk3_ok (show chk3 (Tryz.prog.underlying 173) = true by kernel_rfl)
  exact ⟨f0, f1, f2, by kernel_rfl, h, by kernel_rfl, by kernel_rfl, by kernel_rfl, by kernel_rfl, a, b, c⟩
/-- The variable's block. -/
theorem block_of {W : World} {name : String} {g : Nat} {cs : Array Value} (hg : Tryz.prog.globalNamed name = some g) (hv : W.var? Tryz.prog name = some cs) (hc : ∃ c t, W.heap[g]? = some (.cells c t (0, 0))) : ∃ t, W.heap[g]? = some (.cells cs t (0, 0)) := by
  obtain ⟨c, t, hh⟩ := hc
  have : c = cs := by
    unfold World.var? at hv
    rw [hg] at hv
    simpa [hh] using hv
  exact ⟨t, by rw [hh, this]⟩

section
variable [Opq]
theorem vrs_rows {g : G} : ∀ l : List (Int × Int × Int), VRs g (l.flatMap vOf) (l.flatMap rowV)
  | [] => .nil
  | _ :: l => .cons (.int _ _) (.cons (.int _ _) (.cons (.int _ _) (vrs_rows l)))
theorem vrs_ints {g : G} : ∀ l : List Int, VRs g (l.map fun z => V.int .u8 z) (l.map fun z => Value.int .u8 z)
  | [] => .nil
  | _ :: l => .cons (.int _ _) (vrs_ints l)
theorem pin_list {w : World} {b : Nat} {c : Array Value} {t : TypeId} {l : List V} (h : w.heap[b]? = some (.cells c t (0, 0))) (hv : VRs nog l c.toList) : PinAt w b l :=
  ⟨c, t, c.toList, h, hv, fun j u e => by simpa using e, by simp⟩
set_option maxRecDepth 100000 in
theorem of_laid {W : World} (h : laidMetH Tryz.prog Rows.machineCallsRow.laid W) : PinAt W 0 tbl ∧ PinAt W 1 tbS := by
  rw [MakeChecks.laidMetH_plain _ _ _ (by kernel_rfl)] at h
  obtain ⟨ps, L, _, hc⟩ := h
  obtain ⟨_, _, _, _, p1, q1, _, _, _, _, L, e1⟩ := L
  obtain ⟨g2, t2, c2, fuel2, p2, q2, hg2, ht2, hv2, hd2, L, e2⟩ := L
  obtain ⟨g3, t3, c3, fuel3, p3, q3, hg3, ht3, hv3, hd3, _, e3⟩ := L
  obtain rfl := Option.some.inj (gSpace.symm.trans hg2)
  obtain rfl := Option.some.inj (tSpace.symm.trans ht2)
  obtain rfl := Option.some.inj (gRows.symm.trans (show Tryz.prog.globalNamed nmRows = _ from hg3))
  obtain rfl := Option.some.inj (tRows.symm.trans ht3)
  obtain ⟨u1, u2, u3, u4⟩ := elem399
  have hs : c2.toList = zs.map fun z => Value.int .u8 z := Lib.cells_of_tab (p := p2) u1 u2 u3 u4 (by rw [← laid_zs]; exact hd2)
  obtain ⟨f0, f1, f2, v1, v2, v3, v4, v5, v6, v7, v8, v9⟩ := elem259
  obtain ⟨k1, k2, k3⟩ := trod_rows (p := p3) (rs := rs) v1 v2 v3 v4 v5 v6 v7 v8 v9 (by rw [← laid_rs]; exact hd3)
  have hr : c3.toList = rs.flatMap rowV := flat_rows (by rw [k1, k2]) k3
  have n2 : c2.size = 256 := by
    have : c2.toList.length = 256 := by rw [hs, List.length_map]; exact (by kernel_rfl : zs.length = 256)
    simpa using this
  have n3 : c3.size = 123 := by simpa using k1
  have m3 : MemPlace.cell 0 0 ∈ q2 := by
    rw [e3, n3]
    refine List.mem_append_left _ (List.mem_append_left _ ?_)
    exact List.mem_map.2 ⟨0, by simp, rfl⟩
  have m2 : MemPlace.cell 1 0 ∈ q1 := by
    rw [e2, n2]
    refine List.mem_append_left _ (List.mem_append_left _ ?_)
    exact List.mem_map.2 ⟨0, by simp, rfl⟩
  have m31 : MemPlace.cell 0 0 ∈ q1 := by rw [e2]; exact List.mem_append_right _ m3
  obtain ⟨⟨ca, ta, ha⟩, _⟩ := hc 0 0 (by rw [e1]; exact List.mem_append_right _ m31)
  obtain ⟨⟨cb, tb, hb⟩, _⟩ := hc 1 0 (by rw [e1]; exact List.mem_append_right _ m2)
  obtain ⟨x, hx⟩ := block_of gRows (show W.var? Tryz.prog nmRows = _ from hv3) ⟨ca, ta, ha⟩
  obtain ⟨y, hy⟩ := block_of gSpace hv2 ⟨cb, tb, hb⟩
  exact ⟨pin_list hx (by rw [hr, tbl_rs]; exact vrs_rows rs), pin_list hy (by rw [hs, tbS_zs]; exact vrs_ints zs)⟩
end
theorem still_below {W W' : World} (k : Still W W') : Below W.heap.size W W' := ⟨k.os, k.tape, k.output, k.size, k.keep⟩
theorem laidOut : laidOutB Tryz.prog = true := by kernel_rfl
theorem k3 : Tryz.prog.cellsOf 3 = 1 := by kernel_rfl
theorem k4 : Tryz.prog.cellsOf 4 = 1 := by kernel_rfl
theorem k23 : Tryz.prog.cellsOf 23 = 3 := by kernel_rfl
section
variable {H : Type} {enc : TypeId × Value → H} {W : World} {spare : Nat → Bool} {held : Bool}
abbrev Tr0 (enc : TypeId × Value → H) (W : World) (spare : Nat → Bool) (held : Bool) (n t : Nat) (cs : List Value) : Prop := ∃ x, DataW.trod enc Tryz.prog W 0 spare held n t cs = some x
theorem fields_of {n t : Nat} {fs : Array Field} (ht : Tryz.prog.underlying t = some (.struct fs)) {cs : List Value} (h : Tr0 enc W spare held n t cs) : ∃ m, m < n ∧ cs.length = Tryz.prog.cellsOf t ∧ ∀ (i a off c : Nat), Tryz.prog.cellsOf a = c → (∃ f : Field, fs[i]? = some f ∧ f.type = a ∧ f.offset = off) → Tr0 enc W spare held m a ((cs.drop off).take c) := by
  obtain ⟨x, h⟩ := h
  obtain ⟨xs, m, hm, _, hl, hxl, hf⟩ := DataW.trod_struct ht h
  refine ⟨m, by omega, hl, fun i a off c hc ⟨f, hi, ha, ho⟩ => ?_⟩
  subst ha ho hc
  have := hf i f hi
  have hlt := (Array.getElem?_eq_some_iff.1 hi).1
  rw [List.getElem?_eq_getElem (by omega)] at this
  exact ⟨_, this⟩
theorem int_of {n t : Nat} (ht : Tryz.prog.underlying t = some (.int .i64)) {v : Value} (h : Tr0 enc W spare held n t [v]) : ∃ z, v = .int .i64 z := by
  obtain ⟨x, h⟩ := h
  obtain ⟨z, e, _⟩ := DataW.trod_int ht h
  cases e
  exact ⟨z, rfl⟩
theorem bool_of {n t : Nat} (ht : Tryz.prog.underlying t = some .bool) {v : Value} (h : Tr0 enc W spare held n t [v]) : ∃ z, v = .bool z := by
  obtain ⟨x, h⟩ := h
  obtain ⟨z, e, _⟩ := DataW.trod_bool ht h
  cases e
  exact ⟨z, rfl⟩
set_option maxRecDepth 100000 in
/-- An argument that is a policy. -/
theorem pol_of {r : Reach} {b0 : Nat} {v : Value} {d : DataW H} {p : List MemPlace} (hv : Value.okWide Tryz.prog W r b0 23 v) (h : DataW.Trod enc Tryz.prog W 0 spare held 23 v d p) : ∃ (F M : Int) (E : Bool), v = .agg #[.int .i64 F, .int .i64 M, .bool E] := by
  obtain ⟨cs, rfl, hsz⟩ := okWide_struct Tryz.underlying23 hv
  obtain ⟨l⟩ := cs
  obtain ⟨n, hn⟩ := h
  have h' : Tr0 enc W spare held n 23 l := ⟨_, hn⟩
  obtain ⟨m, hm, hl, hf⟩ := fields_of Tryz.underlying23 h'
  match l, hl.trans k23 with
  | [a0, a1, a2], _ =>
  have f0 : Tr0 enc W spare held m 3 [a0] := hf 0 3 0 1 k3 ⟨_, rfl, rfl, rfl⟩
  have f1 : Tr0 enc W spare held m 3 [a1] := hf 1 3 1 1 k3 ⟨_, rfl, rfl, rfl⟩
  have f2 : Tr0 enc W spare held m 4 [a2] := hf 2 4 2 1 k4 ⟨_, rfl, rfl, rfl⟩
  obtain ⟨x0, rfl⟩ := int_of Tryz.underlying3 f0
  obtain ⟨x1, rfl⟩ := int_of Tryz.underlying3 f1
  obtain ⟨x2, rfl⟩ := bool_of Tryz.underlying4 f2
  exact ⟨x0, x1, x2, rfl⟩
end
end Go.Proofs.YtogbcielgfidlaaGreatDoor
