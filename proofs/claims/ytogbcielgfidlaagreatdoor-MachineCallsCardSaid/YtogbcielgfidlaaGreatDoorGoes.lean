/-
  No function of the program starts a goroutine.
-/
import Derived.Test.YtogbcielgfidlaaGreatDoorRows
import Derived.SevenTiedAt
import Derived.ProofKit
import Derived.LaidByTextLater
import Derived.LaidSub
import Derived.LaidOnce
namespace Go.Proofs.YtogbcielgfidlaaGreatDoor
set_option linter.unusedVariables false
set_option linter.unusedSimpArgs false
open Go.RowKit
def noGo (l : List Func) : Bool := l.all fun fn => !fn.goes
theorem noGo_app {a b : List Func} (h : noGo a = true) (k : noGo b = true) : noGo (a ++ b) = true := by
  unfold noGo at h k ⊢
  rw [List.all_append, h, k]
  rfl
theorem noGo_cut {l : List Func} (n : Nat) (h : noGo (l.take n) = true) (k : noGo (l.drop n) = true) : noGo l = true := by
  rw [← List.take_append_drop n l]
  exact noGo_app h k
set_option maxRecDepth 100000 in
theorem go0 : noGo (Tryz.prog.funcs.toList.take 130) = true := by kernel_rfl
set_option maxRecDepth 100000 in
theorem go1 : noGo ((Tryz.prog.funcs.toList.drop 130).take 130) = true := by kernel_rfl
set_option maxRecDepth 100000 in
theorem go2 : noGo (((Tryz.prog.funcs.toList.drop 130).drop 130).take 130) = true := by kernel_rfl
set_option maxRecDepth 100000 in
theorem go3 : noGo (((Tryz.prog.funcs.toList.drop 130).drop 130).drop 130) = true := by kernel_rfl
theorem noGoes : noGo Tryz.prog.funcs.toList = true := noGo_cut 130 go0 (noGo_cut 130 go1 (noGo_cut 130 go2 go3))
theorem goes_none {P : Program} (h : noGo P.funcs.toList = true) (f : FuncId) : P.goes f = false := by
  have one : ∀ g : Nat, (P.funcs[g]?).any Func.goes = false := by
    intro g
    cases e : P.funcs[g]? with
    | none => rfl
    | some fn =>
      have hm : fn ∈ P.funcs.toList := by
        rw [← Array.getElem?_toList] at e
        exact List.mem_of_getElem? e
      have := List.all_eq_true.1 h fn hm
      show fn.goes = false
      simpa using this
  have all : P.funcs.any Func.goes = false := by
    rw [← Array.any_toList]
    apply Bool.eq_false_iff.2
    intro k
    obtain ⟨fn, hm, hg⟩ := List.any_eq_true.1 k
    have := List.all_eq_true.1 h fn hm
    rw [hg] at this
    cases this
  unfold Program.goes
  rw [all, Bool.and_false, Bool.or_false]
  apply Bool.eq_false_iff.2
  intro k
  obtain ⟨g, _, hg⟩ := List.any_eq_true.1 k
  rw [one g] at hg
  cases hg
theorem goesBy_of {P : Program} {c : OpenClaim} (hs : c.start = .entering) (h : ∀ f, P.goes f = false) : false = c.goesBy P := by
  unfold OpenClaim.goesBy Program.goesAt Program.goesFrom
  rw [hs]
  cases P.funcNamed c.func with
  | none => rfl
  | some f =>
    show false = (P.goes f || false)
    rw [h f]
    rfl
theorem goesBy_none : false = Rows.machineCallsRow.goesBy Tryz.pinned.checked.prog := goesBy_of rfl (goes_none noGoes)
end Go.Proofs.YtogbcielgfidlaaGreatDoor
namespace Go.Proofs.YtogbcielgfidlaaGreatDoor
set_option linter.unusedVariables false
set_option linter.unusedSimpArgs false
open Go.RowKit
set_option maxRecDepth 100000
/-- What the row lists. -/
def rowL : List (String × DataW Unit) := Rows.machineCallsRow.laid
theorem tie1 : Tryz.prog.worded (varsWordLater true) = true := by kernel_rfl
theorem tie2 : Tryz.prog.worded (varsWordLater !true) = false := by kernel_rfl
theorem tie3 : Tryz.prog.worded rootWordLater = true := by kernel_rfl
theorem tie4 : rowL.map (fun x => Tryz.prog.kindOfLater x.1) = ([LaidKind.listed, .data, .data] : List LaidKind).map some := by kernel_rfl
theorem tie5 : (Tryz.prog.funcNamed "gosem.cut.vars").isSome = true := by kernel_rfl
theorem tie6 : varsNamedLaterB Tryz.prog (varsId Tryz.prog) rowL = true := by kernel_rfl
theorem tie7 : ∀ os tape, doorLeaves Tryz.prog 74 8 257 rowL os tape = some (rowL.filter fun x => x.2.handleName?.isNone, (funcsListed rowL).map (·.2.funcsOut)) := fun _ _ => by kernel_rfl
theorem myTie : Tryz.prog.laidByTextLater rowL ([LaidKind.listed, .data, .data] : List LaidKind) true := Program.laidByTextLater_by_one 74 8 257 tie1 tie2 tie3 tie4 tie5 tie6 tie7
theorem noUnsafe : Tryz.pinned.checked.prog.headLifts.contains "ownunsafe" = false := by kernel_rfl
theorem row_tie : Rows.machineCallsRow.laidByTextAt .later Tryz.pinned [.listed, .data, .data] true := OpenClaim.laidByTextAt_later rfl rfl myTie noUnsafe
end Go.Proofs.YtogbcielgfidlaaGreatDoor
