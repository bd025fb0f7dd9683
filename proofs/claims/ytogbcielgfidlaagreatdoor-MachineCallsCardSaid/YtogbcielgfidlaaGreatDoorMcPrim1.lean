/-
  Small functions on words: what they answer at the word of the empty list.
-/
import Derived.Test.YtogbcielgfidlaaGreatDoorMcStage
import Derived.Test.YtogbcielgfidlaaGreatDoorMcShelf
namespace Go.Proofs.YtogbcielgfidlaaGreatDoor
set_option linter.unusedVariables false
set_option linter.unusedSimpArgs false
namespace Ev
variable [Opq]
set_option linter.unusedSectionVars false
noncomputable section
/-- The word of the empty list. -/
def w11 : V := .int .u64 11
def is11 {α : Type} (v : V) (r : Option α) : Option α := asInt (fun k n => oif (eqK k .u64) (Int.rec (motive := fun _ => Option α) (fun m => oif (Nat.beq m 11) r) (fun _ => none) n)) v
def nilP (vs : List V) (h : H) : Option (V × H) := caseL vs (some (w11, h)) fun _ _ => none
end
theorem is11_ok {α : Type} {v : V} {r : Option α} {x : α} (e : is11 v r = some x) : v = w11 ∧ r = some x := by
  cases v with
  | int k n =>
    have e : oif (eqK k .u64) (Int.rec (motive := fun _ => Option α) (fun m => oif (Nat.beq m 11) r) (fun _ => none) n) = some x := e
    cases n with
    | ofNat m =>
      have e : oif (eqK k .u64) (oif (Nat.beq m 11) r) = some x := e
      cases hk : eqK k .u64 with
      | false => rw [hk] at e; cases e
      | true =>
        rw [hk] at e
        have e : oif (Nat.beq m 11) r = some x := e
        cases hm : Nat.beq m 11 with
        | false => rw [hm] at e; cases e
        | true =>
          rw [hm] at e
          obtain rfl := Nat.eq_of_beq_eq_true hm
          cases k <;> first | exact ⟨rfl, e⟩ | cases hk
    | negSucc m =>
      cases hk : eqK k .u64 with
      | false => rw [hk] at e; cases e
      | true => rw [hk] at e; cases e
  | _ => cases e
theorem nil_ok : PrimOf 30 nilP := primOf_run (n := 3) .nil fun vs h r e => by
  cases vs with
  | nil => cases e; kernel_rfl
  | cons _ _ => cases e
end Ev
end Go.Proofs.YtogbcielgfidlaaGreatDoor
namespace Go.Proofs.YtogbcielgfidlaaGreatDoor
set_option linter.unusedVariables false
set_option linter.unusedSimpArgs false
namespace Ev
variable [Opq]
set_option linter.unusedSectionVars false
theorem made_en {call : CallT} {h : H} {id off i j : Nat} (e : h.rd id (Nat.add off 6) 1 = some [.ptr i j]) : enter call 1000000 cf185 [.ptr id off] h = some (.bool true, h) := by
  refine en_ret (cf := cf185) rfl (f1 := ?f) (h1 := h) (w := [.bool true]) ?_ ?_
  rotate_left
  · apply ex_seq
    · apply ex_reg
      exact op_cons (op_run rfl rfl rfl) <| rfl
    · apply ex_seq
      · apply ex_reg
        exact op_cons (op_run rfl rfl rfl) <| op_cons (op_run rfl rfl rfl) <| op_cons (op_run rfl rfl rfl) <| op_cons (op_run rfl rfl rfl) <| op_cons (op_run rfl rfl rfl) <| op_cons (op_run rfl rfl rfl) <| op_cons (op_run rfl rfl (ld_ok e)) <| op_cons (op_run rfl rfl rfl) <| op_cons (op_run rfl rfl rfl) <| op_cons (op_run rfl rfl rfl) <| rfl
      · exact rfl
  · rfl
theorem is_en {call : CallT} {h : H} {id off : Nat} (k1 : call (.fn 185) [.ptr id off] h = some (.bool true, h)) (k2 : call (.fn 225) [.ptr id off, w11] h = some (.bool true, h)) (k3 : call (.fn 151) [w11] h = some (.tup [.int .i64 0, .bool false], h)) :
    enter call 1000000 cf149 [.ptr id off, w11] h = some (.bool true, h) := by
  refine en_ret (cf := cf149) rfl (f1 := ?f) (h1 := h) (w := [.bool true]) ?_ ?_
  rotate_left
  · apply ex_seq
    · apply ex_reg
      exact op_cons (op_run rfl rfl rfl) <| rfl
    · apply ex_seq
      · apply ex_seq
        · apply ex_reg
          exact op_cons (op_run rfl rfl rfl) <| op_cons (op_run rfl rfl k1) <| op_cons (op_run rfl rfl rfl) <| op_cons (op_run rfl rfl rfl) <| op_cons (op_run rfl rfl rfl) <| op_cons (op_run rfl rfl rfl) <| op_cons (op_run rfl rfl rfl) <| op_cons (op_run rfl rfl rfl) <| op_cons (op_run rfl rfl k2) <| op_cons (op_run rfl rfl rfl) <| op_cons (op_run rfl rfl rfl) <| rfl
        · apply ex_condF
          · rfl
          · exact rfl
      · apply ex_seq
        · apply ex_reg
          exact op_cons (op_run rfl rfl rfl) <| op_cons (op_run rfl rfl k3) <| op_cons (op_run rfl rfl rfl) <| op_cons (op_run rfl rfl rfl) <| op_cons (op_run rfl rfl rfl) <| op_cons (op_run rfl rfl rfl) <| op_cons (op_run rfl rfl rfl) <| rfl
        · apply ex_seq
          · apply ex_reg
            exact op_cons (op_run rfl rfl rfl) <| op_cons (op_run rfl rfl rfl) <| op_cons (op_run rfl rfl rfl) <| op_cons (op_skip rfl) <| op_cons (op_skip rfl) <| op_cons (op_skip rfl) <| op_cons (op_skip rfl) <| op_cons (op_skip rfl) <| op_cons (op_skip rfl) <| op_cons (op_skip rfl) <| op_cons (op_run rfl rfl rfl) <| op_cons (op_run rfl rfl rfl) <| rfl
          · exact rfl
  · rfl
theorem kind_en {call : CallT} {h : H} {id off : Nat} (k1 : call (.fn 149) [.ptr id off, w11] h = some (.bool true, h)) (k2 : call (.fn 150) [w11] h = some (.tup [.int .i64 0, .bool false], h)) (k3 : call (.fn 151) [w11] h = some (.tup [.int .i64 0, .bool false], h))
    (k4 : call (.fn 99) [.ptr id off, w11] h = some (.tup [.int .i64 0, .nils, .bool false], h)) : enter call 1000000 cf98 [.ptr id off, w11] h = some (.int .i64 8, h) := by
  refine en_ret (cf := cf98) rfl (f1 := ?f) (h1 := h) (w := [.int .i64 8]) ?_ ?_
  rotate_left
  · apply ex_seq
    · apply ex_reg
      exact op_cons (op_run rfl rfl rfl) <| rfl
    · apply ex_seq
      · apply ex_seq
        · apply ex_reg
          exact op_cons (op_run rfl rfl rfl) <| op_cons (op_run rfl rfl rfl) <| op_cons (op_run rfl rfl k1) <| op_cons (op_run rfl rfl rfl) <| rfl
        · apply ex_condF
          · rfl
          · exact rfl
      · apply ex_seq
        · apply ex_seq
          · apply ex_reg
            exact op_cons (op_run rfl rfl rfl) <| op_cons (op_run rfl rfl k2) <| op_cons (op_run rfl rfl rfl) <| op_cons (op_run rfl rfl rfl) <| op_cons (op_run rfl rfl rfl) <| op_cons (op_run rfl rfl rfl) <| op_cons (op_run rfl rfl rfl) <| rfl
          · apply ex_seq
            · apply ex_reg
              exact op_cons (op_run rfl rfl rfl) <| rfl
            · apply ex_condF
              · rfl
              · exact rfl
        · apply ex_seq
          · apply ex_seq
            · apply ex_reg
              exact op_cons (op_run rfl rfl rfl) <| op_cons (op_run rfl rfl k3) <| op_cons (op_run rfl rfl rfl) <| op_cons (op_run rfl rfl rfl) <| op_cons (op_run rfl rfl rfl) <| op_cons (op_run rfl rfl rfl) <| op_cons (op_run rfl rfl rfl) <| rfl
            · apply ex_seq
              · apply ex_reg
                exact op_cons (op_run rfl rfl rfl) <| rfl
              · apply ex_condF
                · rfl
                · exact rfl
          · apply ex_seq
            · apply ex_reg
              exact op_cons (op_run rfl rfl rfl) <| op_cons (op_run rfl rfl rfl) <| op_cons (op_run rfl rfl rfl) <| op_cons (op_run rfl rfl rfl) <| op_cons (op_run rfl rfl k4) <| op_cons (op_run rfl rfl rfl) <| op_cons (op_run rfl rfl rfl) <| op_cons (op_run rfl rfl rfl) <| op_cons (op_run rfl rfl rfl) <| op_cons (op_run rfl rfl rfl) <| op_cons (op_run rfl rfl rfl) <| op_cons (op_run rfl rfl rfl) <| rfl
            · apply ex_seqR
              apply ex_seq
              · apply ex_reg
                exact op_cons (op_run rfl rfl rfl) <| op_cons (op_run rfl rfl rfl) <| rfl
              · apply ex_condT
                · rfl
                · apply ex_seq
                  · apply ex_reg
                    exact op_cons (op_run rfl rfl rfl) <| rfl
                  · exact rfl
  · rfl
theorem ptr1 {α : Type} {x : V} {c : Nat → Nat → Option α} {y : α} (e : asPtr c x = some y) : ∃ id off, x = .ptr id off ∧ c id off = some y := by
  cases x <;> first | exact ⟨_, _, rfl, e⟩ | cases e
noncomputable section
/-- Kind of the word []. -/
def kindP (vs : List V) (h : H) : Option (V × H) :=
  caseL vs none fun x t => caseL t none fun y t => caseL t (asPtr (fun id off => is11 y (ob (h.rd id (Nat.add off 6) 1) fun l => caseL l none fun z t => caseL t (asPtr (fun _ _ => some (.int .i64 8, h)) z) fun _ _ => none)) x) fun _ _ => none
end
theorem term13 {h : H} {id off : Nat} : callS [] 13 (.fn 225) [.ptr id off, w11] h = some (.bool true, h) := by kernel_rfl
theorem obj14 {h : H} {id off : Nat} : callS [] 14 (.fn 99) [.ptr id off, w11] h = some (.tup [.int .i64 0, .nils, .bool false], h) := by kernel_rfl
theorem atom11 {n : Nat} {h : H} : callS [] (n + 5) (.fn 151) [w11] h = some (.tup [.int .i64 0, .bool false], h) := by kernel_rfl
theorem small11 {n : Nat} {h : H} : callS [] (n + 5) (.fn 150) [w11] h = some (.tup [.int .i64 0, .bool false], h) := by kernel_rfl
theorem kind_ok : PrimOf 98 kindP := primOf_run (n := 15) .nil fun vs h r e => by
  obtain _ | ⟨x, _ | ⟨y, _ | _⟩⟩ := vs
  case cons.cons.nil =>
    obtain ⟨id, off, rfl, e⟩ := ptr1 (show asPtr _ x = some r from e)
    obtain ⟨rfl, e⟩ := is11_ok (show is11 y _ = some r from e)
    obtain ⟨l, e1, e⟩ := ob_some.1 (show ob (h.rd id (Nat.add off 6) 1) _ = some r from e)
    obtain _ | ⟨z, _ | _⟩ := l
    case cons.nil =>
      obtain ⟨i, j, rfl, e⟩ := ptr1 (show asPtr _ z = some r from e)
      cases e
      refine callS_tab (by kernel_rfl) (cf := cf98) (by kernel_rfl) (kind_en ?_ small11 atom11 obj14)
      refine callS_tab (by kernel_rfl) (cf := cf149) (by kernel_rfl) (is_en ?_ term13 atom11)
      exact callS_tab (by kernel_rfl) (cf := cf185) (by kernel_rfl) (made_en e1)
    all_goals cases e
  all_goals cases e
end Ev
end Go.Proofs.YtogbcielgfidlaaGreatDoor
namespace Go.Proofs.YtogbcielgfidlaaGreatDoor
set_option linter.unusedVariables false
set_option linter.unusedSimpArgs false
namespace Ev
variable [Opq]
set_option linter.unusedSectionVars false
theorem kind0_en {call : CallT} {h : H} {c co k ko q qo : Nat} (e1 : h.rd c co 1 = some [.ptr k ko]) (e2 : h.rd k (Nat.add ko 0) 1 = some [.ptr q qo]) (k1 : call (.fn 98) [.ptr q qo, w11] h = some (.int .i64 8, h)) :
    enter call 1000000 cf369 [w11, .ptr c co] h = some (.bool false, h) := by
  refine en_ret (cf := cf369) rfl (f1 := ?f) (h1 := h) (w := [.bool false]) ?_ ?_
  rotate_left
  · apply ex_seq
    · apply ex_reg
      exact op_cons (op_run rfl rfl rfl) <| rfl
    · apply ex_seq
      · apply ex_reg
        exact op_cons (op_run rfl rfl (ld_ok e1)) <| op_cons (op_run rfl rfl rfl) <| op_cons (op_run rfl rfl rfl) <| op_cons (op_run rfl rfl (ld_ok e2)) <| op_cons (op_run rfl rfl rfl) <| op_cons (op_run rfl rfl k1) <| op_cons (op_run rfl rfl rfl) <| op_cons (op_run rfl rfl rfl) <| rfl
      · exact rfl
  · rfl
noncomputable section
def one {α : Type} (c : Nat → Nat → Option α) (l : List V) : Option α := caseL l none fun z t => caseL t (asPtr c z) fun _ _ => none
/-- Is the word [] no term of the keeper's heap? -/
def kind0P (vs : List V) (h : H) : Option (V × H) :=
  caseL vs none fun x t => caseL t none fun y t => caseL t (is11 x (asPtr (fun c co => ob (h.rd c co 1) (one fun k ko => ob (h.rd k (Nat.add ko 0) 1) (one fun q qo => ob (h.rd q (Nat.add qo 6) 1) (one fun _ _ => some (.bool false, h))))) y)) fun _ _ => none
def prK : List (Nat × Prim) := [(98, kindP)]
end
theorem one_ok {α : Type} {c : Nat → Nat → Option α} {l : List V} {x : α} (e : one c l = some x) : ∃ i j, l = [.ptr i j] ∧ c i j = some x := by
  obtain _ | ⟨z, _ | _⟩ := l
  case cons.nil =>
    obtain ⟨i, j, rfl, e⟩ := ptr1 (show asPtr c z = some x from e)
    exact ⟨i, j, rfl, e⟩
  all_goals cases e
theorem prK_ok : PrimsOk prK := .cons rfl kind_ok .nil
theorem kind0_ok : PrimOf 369 kind0P := primOf_run (n := 3) prK_ok fun vs h r e => by
  obtain _ | ⟨x, _ | ⟨y, _ | _⟩⟩ := vs
  case cons.cons.nil =>
    obtain ⟨rfl, e⟩ := is11_ok (show is11 x _ = some r from e)
    obtain ⟨c, co, rfl, e⟩ := ptr1 (show asPtr _ y = some r from e)
    obtain ⟨l, e1, e⟩ := ob_some.1 (show ob (h.rd c co 1) _ = some r from e)
    obtain ⟨k, ko, rfl, e⟩ := one_ok e
    obtain ⟨l, e2, e⟩ := ob_some.1 (show ob (h.rd k (Nat.add ko 0) 1) _ = some r from e)
    obtain ⟨q, qo, rfl, e⟩ := one_ok e
    obtain ⟨l, e3, e⟩ := ob_some.1 (show ob (h.rd q (Nat.add qo 6) 1) _ = some r from e)
    obtain ⟨i, j, rfl, e⟩ := one_ok e
    cases e
    refine callS_tab (by kernel_rfl) (cf := cf369) (by kernel_rfl) (kind0_en e1 e2 ?_)
    refine callS_prim (p := kindP) (by kernel_rfl) ?_
    show ob (h.rd q (Nat.add qo 6) 1) _ = _
    rw [e3]
    rfl
  all_goals cases e
noncomputable section
def pr1 : List (Nat × Prim) := [(98, kindP), (369, kind0P), (30, nilP), (277, compareP), (229, containsP)]
end
theorem pr1_ok : PrimsOk pr1 := .cons rfl kind_ok <| .cons rfl kind0_ok <| .cons rfl nil_ok <| .cons rfl compare_ok <| .cons rfl contains_ok <| .nil
theorem awake : runE (callS pr1 300) H0 5 [] (.v (.bool true)) = true := by kernel_rfl
theorem awake_ok : PrimOf 5 (treeP [([], .v (.bool true))]) := Rows.primOf fun vs d hm g h w us r hG hv => by
  cases hm with
  | head => exact runE_ok (callS_ok pr1_ok 300) awake (base0 g h w r hG) (n := fun _ => True) (by cases hv; exact .nil)
  | tail _ hm => cases hm
noncomputable section
def pr2 : List (Nat × Prim) := (5, treeP [([], .v (.bool true))]) :: pr1
end
theorem pr2_ok : PrimsOk pr2 := .cons rfl awake_ok pr1_ok
end Ev
end Go.Proofs.YtogbcielgfidlaaGreatDoor
