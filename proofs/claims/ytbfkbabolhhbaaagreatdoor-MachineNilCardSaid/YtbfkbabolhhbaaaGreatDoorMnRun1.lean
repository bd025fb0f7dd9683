/-
  The closed run.
-/
import Derived.Test.YtbfkbabolhhbaaaGreatDoorMnPrim2
namespace Go.Proofs.YtbfkbabolhhbaaaGreatDoor
namespace Ev
variable [Opq]
set_option linter.unusedSectionVars false
theorem kind0_en {call : CallT} {h : H} {c co k ko q qo : Nat} (e1 : h.rd c co 1 = some [.ptr k ko]) (e2 : h.rd k (Nat.add ko 0) 1 = some [.ptr q qo]) (k1 : call (.fn 126) [.ptr q qo, w11] h = some (.int .i64 8, h)) :
    enter call 1000000 cf194 [w11, .ptr c co] h = some (.bool false, h) := by
  refine en_ret (cf := cf194) rfl (f1 := ?f) (h1 := h) (w := [.bool false]) ?_ ?_
  rotate_left
  · apply ex_seq
    · apply ex_reg
      exact op_cons (op_run rfl rfl rfl) <| rfl
    · apply ex_seq
      · apply ex_reg
        exact op_cons (op_run rfl rfl (ld_ok e1)) <| op_cons (op_run rfl rfl rfl) <| op_cons (op_run rfl rfl rfl) <| op_cons (op_run rfl rfl (ld_ok e2)) <| op_cons (op_run rfl rfl rfl) <| op_cons (op_run rfl rfl k1) <| op_cons (op_run rfl rfl rfl) <| op_cons (op_run rfl rfl rfl) <| rfl
      · exact rfl
  · rfl
noncomputable section
def one {α : Type} (c : Nat → Nat → Option α) (l : List V) : Option α := caseL l none fun z t => caseL t (asPtr c z) fun _ _ => none
/-- Is the word [] no term of the keeper's heap? -/
def kind0P (vs : List V) (h : H) : Option (V × H) :=
  caseL vs none fun x t => caseL t none fun y t => caseL t (is11 x (asPtr (fun c co => ob (h.rd c co 1) (one fun k ko => ob (h.rd k (Nat.add ko 0) 1) (one fun q qo => ob (h.rd q (Nat.add qo 6) 1) (one fun _ _ => some (.bool false, h))))) y)) fun _ _ => none
def prK : List (Nat × Prim) := [(126, kindP)]
end
theorem one_ok {α : Type} {c : Nat → Nat → Option α} {l : List V} {x : α} (e : one c l = some x) : ∃ i j, l = [.ptr i j] ∧ c i j = some x := by
  obtain _ | ⟨z, _ | _⟩ := l
  case cons.nil =>
    obtain ⟨i, j, rfl, e⟩ := ptr1 (show asPtr c z = some x from e)
    exact ⟨i, j, rfl, e⟩
  all_goals cases e
theorem prK_ok : PrimsOk prK := .cons rfl kind_ok .nil
theorem kind0_ok : PrimOf 194 kind0P := primOf_run (n := 3) prK_ok fun vs h r e => by
  obtain _ | ⟨x, _ | ⟨y, _ | _⟩⟩ := vs
  case cons.cons.nil =>
    obtain ⟨rfl, e⟩ := is11_ok (show is11 x _ = some r from e)
    obtain ⟨c, co, rfl, e⟩ := ptr1 (show asPtr _ y = some r from e)
    obtain ⟨l, e1, e⟩ := ob_some.1 (show ob (h.rd c co 1) _ = some r from e)
    obtain ⟨k, ko, rfl, e⟩ := one_ok e
    obtain ⟨l, e2, e⟩ := ob_some.1 (show ob (h.rd k (Nat.add ko 0) 1) _ = some r from e)
    obtain ⟨q, qo, rfl, e⟩ := one_ok e
    obtain ⟨l, e3, e⟩ := ob_some.1 (show ob (h.rd q (Nat.add qo 6) 1) _ = some r from e)
    obtain ⟨i, j, rfl, e⟩ := one_ok e
    cases e
    refine callS_tab (by kernel_rfl) (cf := cf194) (by kernel_rfl) (kind0_en e1 e2 ?_)
    refine callS_prim (p := kindP) (by kernel_rfl) ?_
    show ob (h.rd q (Nat.add qo 6) 1) _ = _
    rw [e3]
    rfl
  all_goals cases e
noncomputable section
def pr1 : List (Nat × Prim) := [(126, kindP), (194, kind0P), (412, fitsP), (414, keepP), (37, nilP), (297, compareP), (300, containsP)]
end
theorem pr1_ok : PrimsOk pr1 := .cons rfl kind_ok <| .cons rfl kind0_ok <| .cons rfl fits_ok <| .cons rfl keep_ok <| .cons rfl nil_ok <| .cons rfl compare_ok <| .cons rfl contains_ok <| .nil
theorem awake : runE (callS pr1 300) H0 5 [] (.v (.bool true)) = true := by kernel_rfl
theorem awake_ok : PrimOf 5 (treeP [([], .v (.bool true))]) := Rows.primOf fun vs d hm g h w us r hG hv => by
  cases hm with
  | head => exact runE_ok (callS_ok pr1_ok 300) awake (base0 g h w r hG) (n := fun _ => True) (by cases hv; exact .nil)
  | tail _ hm => cases hm
noncomputable section
def pr2 : List (Nat × Prim) := (5, treeP [([], .v (.bool true))]) :: pr1
end
theorem pr2_ok : PrimsOk pr2 := .cons rfl awake_ok pr1_ok
end Ev
end Go.Proofs.YtbfkbabolhhbaaaGreatDoor
