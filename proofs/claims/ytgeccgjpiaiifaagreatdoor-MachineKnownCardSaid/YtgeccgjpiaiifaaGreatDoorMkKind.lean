/-
  (*Heap).Kind at the word of the empty list.
-/
import Derived.Test.YtgeccgjpiaiifaaGreatDoorMkPrim1
namespace Go.Proofs.YtgeccgjpiaiifaaGreatDoor
namespace Ev
section
variable {call : CallT} {rd : Bool} {n : Nat} {a b : CCode} {f f1 : F} {h h1 : H} {r : Res} {ops l : List COper} {o : COper} {d : Dst} {op : COp} {args : List Opd} {gd : Option (Opd × Bool)} {lo hi : Nat} {vs : List V} {v : V}
theorem ex_seq (e1 : exec call rd n a f h = some (.norm, f1, h1)) (e2 : exec call rd n b f1 h1 = r) : exec call rd n (.seq a b) f h = r := by
  show thenN (exec call rd n a f h) (exec call rd n b) = r
  rw [e1]
  exact e2
theorem ex_seqR (e1 : exec call rd n a f h = some (.ret, f1, h1)) : exec call rd n (.seq a b) f h = some (.ret, f1, h1) := by
  show thenN (exec call rd n a f h) (exec call rd n b) = _
  rw [e1]
  rfl
theorem ex_reg (e : runOps call ops f h = some (f1, h1)) : exec call rd n (.reg ops) f h = some (.norm, clr f1, h1) := by
  show ob (runOps call ops f h) _ = _
  rw [e]
  rfl
theorem ex_condT {x : Opd} (e : x.ev f = some (.bool true)) (k : exec call rd n a f h = r) : exec call rd n (.cond x a b) f h = r := by
  show ob (x.ev f) _ = r
  rw [e]
  exact k
theorem ex_condF {x : Opd} (e : x.ev f = some (.bool false)) (k : exec call rd n b f h = r) : exec call rd n (.cond x a b) f h = r := by
  show ob (x.ev f) _ = r
  rw [e]
  exact k
theorem op_cons {r : Option (F × H)} (e : o.run call f h = some (f1, h1)) (k : runOps call l f1 h1 = r) : runOps call (o :: l) f h = r := by
  show ob (o.run call f h) _ = r
  rw [e]
  exact k
theorem op_run (g : guardOk f gd = some true) (a : evs f args = some vs) (e : op.run call vs h = some (v, h1)) : COper.run call ⟨d, op, args, gd, lo, hi⟩ f h = some (d.put f v, h1) := by
  show ob (guardOk f gd) _ = _
  rw [g]
  show ob (evs f args) _ = _
  rw [a]
  show ob (op.run call vs h) _ = _
  rw [e]
  rfl
theorem op_skip (g : guardOk f gd = some false) : COper.run call ⟨d, op, args, gd, lo, hi⟩ f h = some (d.put f undefV, h) := by
  show ob (guardOk f gd) _ = _
  rw [g]
  rfl
theorem ld_ok {id off : Nat} {x : V} (e : h.rd id off 1 = some [x]) : (COp.r (.load false 1)).run call [.ptr id off] h = some (x, h) := by
  show ob (ob (h.rd id off 1) fun l => nthL l 0) _ = _
  rw [e]
  rfl
theorem en_ret {cf : CF} (e0 : Nat.beq (lenL vs) cf.params = true) (e : exec call false n cf.code ⟨numbered vs 0, []⟩ h = some (.ret, f1, h1)) {w : List V} (k : resOf f1 h1 cf.results = some w) : enter call n cf vs h = some (oneOrTup w, h1) := by
  unfold enter
  rw [e0]
  show ob (exec call false n cf.code ⟨numbered vs 0, []⟩ h) _ = _
  rw [e]
  show ob (resOf f1 h1 cf.results) _ = _
  rw [k]
  rfl
end
theorem callS_tab {l : List (Nat × Prim)} {f : FuncId} {cf : CF} {n : Nat} {vs : List V} {h : H} {r : Option (V × H)} (e : (trP l).get f = none) (t : tabC.get f = some cf) (k : enter (callS l n) 1000000 cf vs h = r) : callS l (n + 1) (.fn f) vs h = r := by
  have q : ∀ n, callS l n = callN (fun f => (trP l).get f) (fun f => tabC.get f) n := fun n => callK_eq _ _ n
  rw [q] at k ⊢
  show (Option.rec (motive := fun _ => Option (V × H)) (ob (tabC.get f) fun cf => enter (callN (fun f => (trP l).get f) (fun f => tabC.get f) n) 1000000 cf vs h) _ ((trP l).get f) : Option (V × H)) = _
  rw [e]
  show ob (tabC.get f) _ = _
  rw [t]
  exact k
theorem callS_prim {l : List (Nat × Prim)} {f : FuncId} {p : Prim} {n : Nat} {vs : List V} {h : H} {r : V × H} (e : (trP l).get f = some p) (k : p vs h = some r) : callS l (n + 1) (.fn f) vs h = some r := by
  have q : ∀ n, callS l n = callN (fun f => (trP l).get f) (fun f => tabC.get f) n := fun n => callK_eq _ _ n
  rw [q]
  show (Option.rec (motive := fun _ => Option (V × H)) _ (fun g => Option.rec (motive := fun _ => Option (V × H)) (ob (tabC.get f) fun cf => enter (callN (fun f => (trP l).get f) (fun f => tabC.get f) n) 1000000 cf vs h) some (g vs h)) ((trP l).get f) : Option (V × H)) = _
  rw [e]
  show (Option.rec (motive := fun _ => Option (V × H)) _ some (p vs h) : Option (V × H)) = _
  rw [k]
theorem made_en {call : CallT} {h : H} {id off i j : Nat} (e : h.rd id (Nat.add off 6) 1 = some [.ptr i j]) : enter call 1000000 cf166 [.ptr id off] h = some (.bool true, h) := by
  refine en_ret (cf := cf166) rfl (f1 := ?f) (h1 := h) (w := [.bool true]) ?_ ?_
  rotate_left
  · apply ex_seq
    · apply ex_reg
      exact op_cons (op_run rfl rfl rfl) <| rfl
    · apply ex_seq
      · apply ex_reg
        exact op_cons (op_run rfl rfl rfl) <| op_cons (op_run rfl rfl rfl) <| op_cons (op_run rfl rfl rfl) <| op_cons (op_run rfl rfl rfl) <| op_cons (op_run rfl rfl rfl) <| op_cons (op_run rfl rfl rfl) <| op_cons (op_run rfl rfl (ld_ok e)) <| op_cons (op_run rfl rfl rfl) <| op_cons (op_run rfl rfl rfl) <| op_cons (op_run rfl rfl rfl) <| rfl
      · exact rfl
  · rfl
theorem is_en {call : CallT} {h : H} {id off : Nat} (k1 : call (.fn 166) [.ptr id off] h = some (.bool true, h)) (k2 : call (.fn 230) [.ptr id off, w11] h = some (.bool true, h)) (k3 : call (.fn 157) [w11] h = some (.tup [.int .i64 0, .bool false], h)) :
    enter call 1000000 cf155 [.ptr id off, w11] h = some (.bool true, h) := by
  refine en_ret (cf := cf155) rfl (f1 := ?f) (h1 := h) (w := [.bool true]) ?_ ?_
  rotate_left
  · apply ex_seq
    · apply ex_reg
      exact op_cons (op_run rfl rfl rfl) <| rfl
    · apply ex_seq
      · apply ex_seq
        · apply ex_reg
          exact op_cons (op_run rfl rfl rfl) <| op_cons (op_run rfl rfl k1) <| op_cons (op_run rfl rfl rfl) <| op_cons (op_run rfl rfl rfl) <| op_cons (op_run rfl rfl rfl) <| op_cons (op_run rfl rfl rfl) <| op_cons (op_run rfl rfl rfl) <| op_cons (op_run rfl rfl rfl) <| op_cons (op_run rfl rfl k2) <| op_cons (op_run rfl rfl rfl) <| op_cons (op_run rfl rfl rfl) <| rfl
        · apply ex_condF
          · rfl
          · exact rfl
      · apply ex_seq
        · apply ex_reg
          exact op_cons (op_run rfl rfl rfl) <| op_cons (op_run rfl rfl k3) <| op_cons (op_run rfl rfl rfl) <| op_cons (op_run rfl rfl rfl) <| op_cons (op_run rfl rfl rfl) <| op_cons (op_run rfl rfl rfl) <| op_cons (op_run rfl rfl rfl) <| rfl
        · apply ex_seq
          · apply ex_reg
            exact op_cons (op_run rfl rfl rfl) <| op_cons (op_run rfl rfl rfl) <| op_cons (op_run rfl rfl rfl) <| op_cons (op_skip rfl) <| op_cons (op_skip rfl) <| op_cons (op_skip rfl) <| op_cons (op_skip rfl) <| op_cons (op_skip rfl) <| op_cons (op_skip rfl) <| op_cons (op_skip rfl) <| op_cons (op_run rfl rfl rfl) <| op_cons (op_run rfl rfl rfl) <| rfl
          · exact rfl
  · rfl
theorem kind_en {call : CallT} {h : H} {id off : Nat} (k1 : call (.fn 155) [.ptr id off, w11] h = some (.bool true, h)) (k2 : call (.fn 156) [w11] h = some (.tup [.int .i64 0, .bool false], h)) (k3 : call (.fn 157) [w11] h = some (.tup [.int .i64 0, .bool false], h))
    (k4 : call (.fn 105) [.ptr id off, w11] h = some (.tup [.int .i64 0, .nils, .bool false], h)) : enter call 1000000 cf104 [.ptr id off, w11] h = some (.int .i64 8, h) := by
  refine en_ret (cf := cf104) rfl (f1 := ?f) (h1 := h) (w := [.int .i64 8]) ?_ ?_
  rotate_left
  · apply ex_seq
    · apply ex_reg
      exact op_cons (op_run rfl rfl rfl) <| rfl
    · apply ex_seq
      · apply ex_seq
        · apply ex_reg
          exact op_cons (op_run rfl rfl rfl) <| op_cons (op_run rfl rfl rfl) <| op_cons (op_run rfl rfl k1) <| op_cons (op_run rfl rfl rfl) <| rfl
        · apply ex_condF
          · rfl
          · exact rfl
      · apply ex_seq
        · apply ex_seq
          · apply ex_reg
            exact op_cons (op_run rfl rfl rfl) <| op_cons (op_run rfl rfl k2) <| op_cons (op_run rfl rfl rfl) <| op_cons (op_run rfl rfl rfl) <| op_cons (op_run rfl rfl rfl) <| op_cons (op_run rfl rfl rfl) <| op_cons (op_run rfl rfl rfl) <| rfl
          · apply ex_seq
            · apply ex_reg
              exact op_cons (op_run rfl rfl rfl) <| rfl
            · apply ex_condF
              · rfl
              · exact rfl
        · apply ex_seq
          · apply ex_seq
            · apply ex_reg
              exact op_cons (op_run rfl rfl rfl) <| op_cons (op_run rfl rfl k3) <| op_cons (op_run rfl rfl rfl) <| op_cons (op_run rfl rfl rfl) <| op_cons (op_run rfl rfl rfl) <| op_cons (op_run rfl rfl rfl) <| op_cons (op_run rfl rfl rfl) <| rfl
            · apply ex_seq
              · apply ex_reg
                exact op_cons (op_run rfl rfl rfl) <| rfl
              · apply ex_condF
                · rfl
                · exact rfl
          · apply ex_seq
            · apply ex_reg
              exact op_cons (op_run rfl rfl rfl) <| op_cons (op_run rfl rfl rfl) <| op_cons (op_run rfl rfl rfl) <| op_cons (op_run rfl rfl rfl) <| op_cons (op_run rfl rfl k4) <| op_cons (op_run rfl rfl rfl) <| op_cons (op_run rfl rfl rfl) <| op_cons (op_run rfl rfl rfl) <| op_cons (op_run rfl rfl rfl) <| op_cons (op_run rfl rfl rfl) <| op_cons (op_run rfl rfl rfl) <| op_cons (op_run rfl rfl rfl) <| rfl
            · apply ex_seqR
              apply ex_seq
              · apply ex_reg
                exact op_cons (op_run rfl rfl rfl) <| op_cons (op_run rfl rfl rfl) <| rfl
              · apply ex_condT
                · rfl
                · apply ex_seq
                  · apply ex_reg
                    exact op_cons (op_run rfl rfl rfl) <| rfl
                  · exact rfl
  · rfl
theorem ptr1 {α : Type} {x : V} {c : Nat → Nat → Option α} {y : α} (e : asPtr c x = some y) : ∃ id off, x = .ptr id off ∧ c id off = some y := by
  cases x <;> first | exact ⟨_, _, rfl, e⟩ | cases e
noncomputable section
/-- Kind of the word []. -/
def kindP (vs : List V) (h : H) : Option (V × H) :=
  caseL vs none fun x t => caseL t none fun y t => caseL t (asPtr (fun id off => is11 y (ob (h.rd id (Nat.add off 6) 1) fun l => caseL l none fun z t => caseL t (asPtr (fun _ _ => some (.int .i64 8, h)) z) fun _ _ => none)) x) fun _ _ => none
end
theorem term13 {h : H} {id off : Nat} : callS [] 13 (.fn 230) [.ptr id off, w11] h = some (.bool true, h) := by kernel_rfl
theorem obj14 {h : H} {id off : Nat} : callS [] 14 (.fn 105) [.ptr id off, w11] h = some (.tup [.int .i64 0, .nils, .bool false], h) := by kernel_rfl
theorem atom11 {n : Nat} {h : H} : callS [] (n + 5) (.fn 157) [w11] h = some (.tup [.int .i64 0, .bool false], h) := by kernel_rfl
theorem small11 {n : Nat} {h : H} : callS [] (n + 5) (.fn 156) [w11] h = some (.tup [.int .i64 0, .bool false], h) := by kernel_rfl
theorem kind_ok : PrimOf 104 kindP := primOf_run (n := 15) .nil fun vs h r e => by
  obtain _ | ⟨x, _ | ⟨y, _ | _⟩⟩ := vs
  case cons.cons.nil =>
    obtain ⟨id, off, rfl, e⟩ := ptr1 (show asPtr _ x = some r from e)
    obtain ⟨rfl, e⟩ := is11_ok (show is11 y _ = some r from e)
    obtain ⟨l, e1, e⟩ := ob_some.1 (show ob (h.rd id (Nat.add off 6) 1) _ = some r from e)
    obtain _ | ⟨z, _ | _⟩ := l
    case cons.nil =>
      obtain ⟨i, j, rfl, e⟩ := ptr1 (show asPtr _ z = some r from e)
      cases e
      refine callS_tab (by kernel_rfl) (cf := cf104) (by kernel_rfl) (kind_en ?_ small11 atom11 obj14)
      refine callS_tab (by kernel_rfl) (cf := cf155) (by kernel_rfl) (is_en ?_ term13 atom11)
      exact callS_tab (by kernel_rfl) (cf := cf166) (by kernel_rfl) (made_en e1)
    all_goals cases e
  all_goals cases e
end Ev
end Go.Proofs.YtgeccgjpiaiifaaGreatDoor
