/-
  Small functions on words: what they answer at the word of the empty list.
-/
import Derived.Test.YtbfkbabolhhbaaaGreatDoorMnStage
namespace Go.Proofs.YtbfkbabolhhbaaaGreatDoor
namespace Ev
variable [Opq]
set_option linter.unusedSectionVars false
theorem primOf_run {f : FuncId} {p : Prim} {l : List (Nat × Prim)} {n : Nat} (hp : PrimsOk l) (e : ∀ vs h r, p vs h = some r → callS l n (.fn f) vs h = some r) : PrimOf f p := fun vs h v h' k => (callS_ok hp n).fn f vs h v h' (e vs h (v, h') k)
noncomputable section
/-- The word of the empty list. -/
def w11 : V := .int .u64 11
def is11 {α : Type} (v : V) (r : Option α) : Option α := asInt (fun k n => oif (eqK k .u64) (Int.rec (motive := fun _ => Option α) (fun m => oif (Nat.beq m 11) r) (fun _ => none) n)) v
def nilP (vs : List V) (h : H) : Option (V × H) := caseL vs (some (w11, h)) fun _ _ => none
def fitsP (vs : List V) (h : H) : Option (V × H) := caseL vs none fun x t => caseL t none fun _ t => caseL t none fun _ t => caseL t none fun _ t => caseL t (is11 x (some (.bool false, h))) fun _ _ => none
def keepP (vs : List V) (h : H) : Option (V × H) := caseL vs none fun _ t => caseL t none fun y t => caseL t (is11 y (some (w11, h))) fun _ _ => none
end
theorem is11_ok {α : Type} {v : V} {r : Option α} {x : α} (e : is11 v r = some x) : v = w11 ∧ r = some x := by
  cases v with
  | int k n =>
    have e : oif (eqK k .u64) (Int.rec (motive := fun _ => Option α) (fun m => oif (Nat.beq m 11) r) (fun _ => none) n) = some x := e
    cases n with
    | ofNat m =>
      have e : oif (eqK k .u64) (oif (Nat.beq m 11) r) = some x := e
      cases hk : eqK k .u64 with
      | false => rw [hk] at e; cases e
      | true =>
        rw [hk] at e
        have e : oif (Nat.beq m 11) r = some x := e
        cases hm : Nat.beq m 11 with
        | false => rw [hm] at e; cases e
        | true =>
          rw [hm] at e
          obtain rfl := Nat.eq_of_beq_eq_true hm
          cases k <;> first | exact ⟨rfl, e⟩ | cases hk
    | negSucc m =>
      cases hk : eqK k .u64 with
      | false => rw [hk] at e; cases e
      | true => rw [hk] at e; cases e
  | _ => cases e
theorem nil_ok : PrimOf 37 nilP := primOf_run (n := 3) .nil fun vs h r e => by
  cases vs with
  | nil => cases e; kernel_rfl
  | cons _ _ => cases e
theorem fits_ok : PrimOf 412 fitsP := primOf_run (n := 9) .nil fun vs h r e => by
  obtain _ | ⟨x, _ | ⟨a, _ | ⟨b, _ | ⟨c, _ | _⟩⟩⟩⟩ := vs
  case cons.cons.cons.cons.nil =>
    obtain ⟨rfl, e⟩ := is11_ok (show is11 x (some (V.bool false, h)) = some r from e)
    cases e
    kernel_rfl
  all_goals cases e
theorem keep_ok : PrimOf 414 keepP := primOf_run (n := 9) .nil fun vs h r e => by
  obtain _ | ⟨x, _ | ⟨a, _ | _⟩⟩ := vs
  case cons.cons.nil =>
    obtain ⟨rfl, e⟩ := is11_ok (show is11 a (some (w11, h)) = some r from e)
    cases e
    kernel_rfl
  all_goals cases e
end Ev
end Go.Proofs.YtbfkbabolhhbaaaGreatDoor
namespace Go.Proofs.YtbfkbabolhhbaaaGreatDoor
namespace Ev
variable [Opq]
set_option linter.unusedSectionVars false
section
variable {call : CallT} {rd : Bool} {n : Nat} {a b : CCode} {f f1 : F} {h h1 : H} {r : Res} {ops l : List COper} {o : COper} {d : Dst} {op : COp} {args : List Opd} {gd : Option (Opd × Bool)} {lo hi : Nat} {vs : List V} {v : V}
theorem ex_seq (e1 : exec call rd n a f h = some (.norm, f1, h1)) (e2 : exec call rd n b f1 h1 = r) : exec call rd n (.seq a b) f h = r := by
  show thenN (exec call rd n a f h) (exec call rd n b) = r
  rw [e1]
  exact e2
theorem ex_seqR (e1 : exec call rd n a f h = some (.ret, f1, h1)) : exec call rd n (.seq a b) f h = some (.ret, f1, h1) := by
  show thenN (exec call rd n a f h) (exec call rd n b) = _
  rw [e1]
  rfl
theorem ex_reg (e : runOps call ops f h = some (f1, h1)) : exec call rd n (.reg ops) f h = some (.norm, clr f1, h1) := by
  show ob (runOps call ops f h) _ = _
  rw [e]
  rfl
theorem ex_condT {x : Opd} (e : x.ev f = some (.bool true)) (k : exec call rd n a f h = r) : exec call rd n (.cond x a b) f h = r := by
  show ob (x.ev f) _ = r
  rw [e]
  exact k
theorem ex_condF {x : Opd} (e : x.ev f = some (.bool false)) (k : exec call rd n b f h = r) : exec call rd n (.cond x a b) f h = r := by
  show ob (x.ev f) _ = r
  rw [e]
  exact k
theorem op_cons {r : Option (F × H)} (e : o.run call f h = some (f1, h1)) (k : runOps call l f1 h1 = r) : runOps call (o :: l) f h = r := by
  show ob (o.run call f h) _ = r
  rw [e]
  exact k
theorem op_run (g : guardOk f gd = some true) (a : evs f args = some vs) (e : op.run call vs h = some (v, h1)) : COper.run call ⟨d, op, args, gd, lo, hi⟩ f h = some (d.put f v, h1) := by
  show ob (guardOk f gd) _ = _
  rw [g]
  show ob (evs f args) _ = _
  rw [a]
  show ob (op.run call vs h) _ = _
  rw [e]
  rfl
theorem op_skip (g : guardOk f gd = some false) : COper.run call ⟨d, op, args, gd, lo, hi⟩ f h = some (d.put f undefV, h) := by
  show ob (guardOk f gd) _ = _
  rw [g]
  rfl
theorem ld_ok {id off : Nat} {x : V} (e : h.rd id off 1 = some [x]) : (COp.r (.load false 1)).run call [.ptr id off] h = some (x, h) := by
  show ob (ob (h.rd id off 1) fun l => nthL l 0) _ = _
  rw [e]
  rfl
theorem en_ret {cf : CF} (e0 : Nat.beq (lenL vs) cf.params = true) (e : exec call false n cf.code ⟨numbered vs 0, []⟩ h = some (.ret, f1, h1)) {w : List V} (k : resOf f1 h1 cf.results = some w) : enter call n cf vs h = some (oneOrTup w, h1) := by
  unfold enter
  rw [e0]
  show ob (exec call false n cf.code ⟨numbered vs 0, []⟩ h) _ = _
  rw [e]
  show ob (resOf f1 h1 cf.results) _ = _
  rw [k]
  rfl
end
theorem callS_tab {l : List (Nat × Prim)} {f : FuncId} {cf : CF} {n : Nat} {vs : List V} {h : H} {r : Option (V × H)} (e : (trP l).get f = none) (t : tabC.get f = some cf) (k : enter (callS l n) 1000000 cf vs h = r) : callS l (n + 1) (.fn f) vs h = r := by
  have q : ∀ n, callS l n = callN (fun f => (trP l).get f) (fun f => tabC.get f) n := fun n => callK_eq _ _ n
  rw [q] at k ⊢
  show (Option.rec (motive := fun _ => Option (V × H)) (ob (tabC.get f) fun cf => enter (callN (fun f => (trP l).get f) (fun f => tabC.get f) n) 1000000 cf vs h) _ ((trP l).get f) : Option (V × H)) = _
  rw [e]
  show ob (tabC.get f) _ = _
  rw [t]
  exact k
theorem callS_prim {l : List (Nat × Prim)} {f : FuncId} {p : Prim} {n : Nat} {vs : List V} {h : H} {r : V × H} (e : (trP l).get f = some p) (k : p vs h = some r) : callS l (n + 1) (.fn f) vs h = some r := by
  have q : ∀ n, callS l n = callN (fun f => (trP l).get f) (fun f => tabC.get f) n := fun n => callK_eq _ _ n
  rw [q]
  show (Option.rec (motive := fun _ => Option (V × H)) _ (fun g => Option.rec (motive := fun _ => Option (V × H)) (ob (tabC.get f) fun cf => enter (callN (fun f => (trP l).get f) (fun f => tabC.get f) n) 1000000 cf vs h) some (g vs h)) ((trP l).get f) : Option (V × H)) = _
  rw [e]
  show (Option.rec (motive := fun _ => Option (V × H)) _ some (p vs h) : Option (V × H)) = _
  rw [k]
theorem made_en {call : CallT} {h : H} {id off i j : Nat} (e : h.rd id (Nat.add off 6) 1 = some [.ptr i j]) : enter call 1000000 cf104 [.ptr id off] h = some (.bool true, h) := by
  refine en_ret (cf := cf104) rfl (f1 := ?f) (h1 := h) (w := [.bool true]) ?_ ?_
  rotate_left
  · apply ex_seq
    · apply ex_reg
      exact op_cons (op_run rfl rfl rfl) <| rfl
    · apply ex_seq
      · apply ex_reg
        exact op_cons (op_run rfl rfl rfl) <| op_cons (op_run rfl rfl rfl) <| op_cons (op_run rfl rfl rfl) <| op_cons (op_run rfl rfl rfl) <| op_cons (op_run rfl rfl rfl) <| op_cons (op_run rfl rfl rfl) <| op_cons (op_run rfl rfl (ld_ok e)) <| op_cons (op_run rfl rfl rfl) <| op_cons (op_run rfl rfl rfl) <| op_cons (op_run rfl rfl rfl) <| rfl
      · exact rfl
  · rfl
theorem is_en {call : CallT} {h : H} {id off : Nat} (k1 : call (.fn 104) [.ptr id off] h = some (.bool true, h)) (k2 : call (.fn 260) [.ptr id off, w11] h = some (.bool true, h)) (k3 : call (.fn 188) [w11] h = some (.tup [.int .i64 0, .bool false], h)) :
    enter call 1000000 cf186 [.ptr id off, w11] h = some (.bool true, h) := by
  refine en_ret (cf := cf186) rfl (f1 := ?f) (h1 := h) (w := [.bool true]) ?_ ?_
  rotate_left
  · apply ex_seq
    · apply ex_reg
      exact op_cons (op_run rfl rfl rfl) <| rfl
    · apply ex_seq
      · apply ex_seq
        · apply ex_reg
          exact op_cons (op_run rfl rfl rfl) <| op_cons (op_run rfl rfl k1) <| op_cons (op_run rfl rfl rfl) <| op_cons (op_run rfl rfl rfl) <| op_cons (op_run rfl rfl rfl) <| op_cons (op_run rfl rfl rfl) <| op_cons (op_run rfl rfl rfl) <| op_cons (op_run rfl rfl rfl) <| op_cons (op_run rfl rfl k2) <| op_cons (op_run rfl rfl rfl) <| op_cons (op_run rfl rfl rfl) <| rfl
        · apply ex_condF
          · rfl
          · exact rfl
      · apply ex_seq
        · apply ex_reg
          exact op_cons (op_run rfl rfl rfl) <| op_cons (op_run rfl rfl k3) <| op_cons (op_run rfl rfl rfl) <| op_cons (op_run rfl rfl rfl) <| op_cons (op_run rfl rfl rfl) <| op_cons (op_run rfl rfl rfl) <| op_cons (op_run rfl rfl rfl) <| rfl
        · apply ex_seq
          · apply ex_reg
            exact op_cons (op_run rfl rfl rfl) <| op_cons (op_run rfl rfl rfl) <| op_cons (op_run rfl rfl rfl) <| op_cons (op_skip rfl) <| op_cons (op_skip rfl) <| op_cons (op_skip rfl) <| op_cons (op_skip rfl) <| op_cons (op_skip rfl) <| op_cons (op_skip rfl) <| op_cons (op_skip rfl) <| op_cons (op_run rfl rfl rfl) <| op_cons (op_run rfl rfl rfl) <| rfl
          · exact rfl
  · rfl
theorem kind_en {call : CallT} {h : H} {id off : Nat} (k1 : call (.fn 186) [.ptr id off, w11] h = some (.bool true, h)) (k2 : call (.fn 187) [w11] h = some (.tup [.int .i64 0, .bool false], h)) (k3 : call (.fn 188) [w11] h = some (.tup [.int .i64 0, .bool false], h))
    (k4 : call (.fn 127) [.ptr id off, w11] h = some (.tup [.int .i64 0, .nils, .bool false], h)) : enter call 1000000 cf126 [.ptr id off, w11] h = some (.int .i64 8, h) := by
  refine en_ret (cf := cf126) rfl (f1 := ?f) (h1 := h) (w := [.int .i64 8]) ?_ ?_
  rotate_left
  · apply ex_seq
    · apply ex_reg
      exact op_cons (op_run rfl rfl rfl) <| rfl
    · apply ex_seq
      · apply ex_seq
        · apply ex_reg
          exact op_cons (op_run rfl rfl rfl) <| op_cons (op_run rfl rfl rfl) <| op_cons (op_run rfl rfl k1) <| op_cons (op_run rfl rfl rfl) <| rfl
        · apply ex_condF
          · rfl
          · exact rfl
      · apply ex_seq
        · apply ex_seq
          · apply ex_reg
            exact op_cons (op_run rfl rfl rfl) <| op_cons (op_run rfl rfl k2) <| op_cons (op_run rfl rfl rfl) <| op_cons (op_run rfl rfl rfl) <| op_cons (op_run rfl rfl rfl) <| op_cons (op_run rfl rfl rfl) <| op_cons (op_run rfl rfl rfl) <| rfl
          · apply ex_seq
            · apply ex_reg
              exact op_cons (op_run rfl rfl rfl) <| rfl
            · apply ex_condF
              · rfl
              · exact rfl
        · apply ex_seq
          · apply ex_seq
            · apply ex_reg
              exact op_cons (op_run rfl rfl rfl) <| op_cons (op_run rfl rfl k3) <| op_cons (op_run rfl rfl rfl) <| op_cons (op_run rfl rfl rfl) <| op_cons (op_run rfl rfl rfl) <| op_cons (op_run rfl rfl rfl) <| op_cons (op_run rfl rfl rfl) <| rfl
            · apply ex_seq
              · apply ex_reg
                exact op_cons (op_run rfl rfl rfl) <| rfl
              · apply ex_condF
                · rfl
                · exact rfl
          · apply ex_seq
            · apply ex_reg
              exact op_cons (op_run rfl rfl rfl) <| op_cons (op_run rfl rfl rfl) <| op_cons (op_run rfl rfl rfl) <| op_cons (op_run rfl rfl rfl) <| op_cons (op_run rfl rfl k4) <| op_cons (op_run rfl rfl rfl) <| op_cons (op_run rfl rfl rfl) <| op_cons (op_run rfl rfl rfl) <| op_cons (op_run rfl rfl rfl) <| op_cons (op_run rfl rfl rfl) <| op_cons (op_run rfl rfl rfl) <| op_cons (op_run rfl rfl rfl) <| rfl
            · apply ex_seqR
              apply ex_seq
              · apply ex_reg
                exact op_cons (op_run rfl rfl rfl) <| op_cons (op_run rfl rfl rfl) <| rfl
              · apply ex_condT
                · rfl
                · apply ex_seq
                  · apply ex_reg
                    exact op_cons (op_run rfl rfl rfl) <| rfl
                  · exact rfl
  · rfl
theorem ptr1 {α : Type} {x : V} {c : Nat → Nat → Option α} {y : α} (e : asPtr c x = some y) : ∃ id off, x = .ptr id off ∧ c id off = some y := by
  cases x <;> first | exact ⟨_, _, rfl, e⟩ | cases e
noncomputable section
/-- Kind of the word []. -/
def kindP (vs : List V) (h : H) : Option (V × H) :=
  caseL vs none fun x t => caseL t none fun y t => caseL t (asPtr (fun id off => is11 y (ob (h.rd id (Nat.add off 6) 1) fun l => caseL l none fun z t => caseL t (asPtr (fun _ _ => some (.int .i64 8, h)) z) fun _ _ => none)) x) fun _ _ => none
end
theorem term13 {h : H} {id off : Nat} : callS [] 13 (.fn 260) [.ptr id off, w11] h = some (.bool true, h) := by kernel_rfl
theorem obj14 {h : H} {id off : Nat} : callS [] 14 (.fn 127) [.ptr id off, w11] h = some (.tup [.int .i64 0, .nils, .bool false], h) := by kernel_rfl
theorem atom11 {n : Nat} {h : H} : callS [] (n + 5) (.fn 188) [w11] h = some (.tup [.int .i64 0, .bool false], h) := by kernel_rfl
theorem small11 {n : Nat} {h : H} : callS [] (n + 5) (.fn 187) [w11] h = some (.tup [.int .i64 0, .bool false], h) := by kernel_rfl
theorem kind_ok : PrimOf 126 kindP := primOf_run (n := 15) .nil fun vs h r e => by
  obtain _ | ⟨x, _ | ⟨y, _ | _⟩⟩ := vs
  case cons.cons.nil =>
    obtain ⟨id, off, rfl, e⟩ := ptr1 (show asPtr _ x = some r from e)
    obtain ⟨rfl, e⟩ := is11_ok (show is11 y _ = some r from e)
    obtain ⟨l, e1, e⟩ := ob_some.1 (show ob (h.rd id (Nat.add off 6) 1) _ = some r from e)
    obtain _ | ⟨z, _ | _⟩ := l
    case cons.nil =>
      obtain ⟨i, j, rfl, e⟩ := ptr1 (show asPtr _ z = some r from e)
      cases e
      refine callS_tab (by kernel_rfl) (cf := cf126) (by kernel_rfl) (kind_en ?_ small11 atom11 obj14)
      refine callS_tab (by kernel_rfl) (cf := cf186) (by kernel_rfl) (is_en ?_ term13 atom11)
      exact callS_tab (by kernel_rfl) (cf := cf104) (by kernel_rfl) (made_en e1)
    all_goals cases e
  all_goals cases e
end Ev
end Go.Proofs.YtbfkbabolhhbaaaGreatDoor
namespace Go.Proofs.YtbfkbabolhhbaaaGreatDoor
namespace Ev
variable [Opq]
set_option linter.unusedSectionVars false
/-- A block of the world that holds these values. -/
def PinAt (w : World) (b : Nat) (l : List V) : Prop := ∃ (c : Array Value) (t : TypeId) (xs : List Value), w.heap[b]? = some (.cells c t (0, 0)) ∧ VRs nog l xs ∧ (∀ (j : Nat) (u : Value), xs[j]? = some u → c[j]? = some u) ∧ xs.length ≤ c.size
theorem vrs_of {g : G} {c : Array Value} : ∀ {l : List V} {o : Nat}, l.all flat = true → (∀ j v, l[j]? = some v → ∃ u, c[o + j]? = some u ∧ VR g v u) → ∃ xs, VRs nog l xs ∧ xs.length = l.length ∧ ∀ j u, xs[j]? = some u → c[o + j]? = some u
  | [], o, _, _ => ⟨[], .nil, rfl, fun j u e => by simp at e⟩
  | v :: l, o, hf, h => by
    rw [List.all_cons, Bool.and_eq_true] at hf
    obtain ⟨u, h1, h2⟩ := h 0 v rfl
    obtain ⟨xs, k1, k2, k3⟩ := vrs_of (o := o + 1) (l := l) hf.2 fun j v e => by
      obtain ⟨u, q1, q2⟩ := h (j + 1) v (by simpa using e)
      exact ⟨u, by rw [show o + 1 + j = o + (j + 1) by omega]; exact q1, q2⟩
    refine ⟨u :: xs, .cons (flat_vr hf.1 h2) k1, by simp [k2], fun j x e => ?_⟩
    cases j with
    | zero => cases e; exact h1
    | succ j =>
      rw [show o + (j + 1) = o + 1 + j by omega]
      exact k3 j x (by simpa using e)
theorem pinAt_of {g : G} {h : H} {w : World} {id b n : Nat} {l : List V} (r : WR TP g h w) (hG : Glob TP g h) (hp : (id, b, n, trOf l 0 .e) ∈ TP.pin) (hn : l.length = n) (_hs : n ≤ 1000) (hf : l.all flat = true) : PinAt w b l := by
  obtain ⟨⟨z, hz⟩, hb⟩ := hG _ hp
  have hz : g id = some (b, 0, z) := hz
  have hb : h.blk id = some (.ro n (trOf l 0 .e)) := hb
  obtain ⟨b', o', z', c, t, k1, k2, k3, k4, k5, k6⟩ := r.blk id _ _ hz hb
  rw [hz] at k1
  cases k1
  have big : (1000 : Nat) ≤ keys := by decide
  obtain ⟨xs, q1, q2, q3⟩ := vrs_of (g := g) (c := c) (o := 0) hf fun j v e => by
    have hj : j < l.length := (List.getElem?_eq_some_iff.1 e).1
    obtain ⟨u, m1, m2, _⟩ := k6 j v (by omega) (by rw [trOf_get l 0 .e j (by omega), if_pos (by omega)]; simpa using e)
    exact ⟨u, m1, m2⟩
  exact ⟨c, t, xs, k2, q1, fun j u e => by have := q3 j u e; rwa [Nat.zero_add] at this, by omega⟩
theorem H0_eq : H0 = ⟨Tr.put (⟨Tr.put Tr.e 0 (some (.ro (lenL tbl) (trOf tbl 0 .e))), Nat.succ 0⟩ : H).t 1 (some (.ro (lenL tbS) (trOf tbS 0 .e))), Nat.succ 1⟩ := rfl
theorem two0 (x y : Option Blk) : (Tr.put (Tr.put Tr.e 0 x) 1 y).get 0 = x := by rw [Tr.get_put _ _ _ _ (by decide), if_neg (by decide), Tr.get_put _ _ _ _ (by decide), if_pos rfl]
theorem two1 (x y : Option Blk) : (Tr.put (Tr.put Tr.e 0 x) 1 y).get 1 = y := by rw [Tr.get_put _ _ _ _ (by decide), if_pos rfl]
theorem H0_0 : H0.blk 0 = some (.ro 123 (trOf tbl 0 .e)) := by
  have e := two0 (some (.ro (lenL tbl) (trOf tbl 0 .e))) (some (.ro (lenL tbS) (trOf tbS 0 .e)))
  rw [tbl_len] at e
  exact e
theorem H0_1 : H0.blk 1 = some (.ro 256 (trOf tbS 0 .e)) := by
  have e := two1 (some (.ro (lenL tbl) (trOf tbl 0 .e))) (some (.ro (lenL tbS) (trOf tbS 0 .e)))
  rw [tbS_len] at e
  exact e
theorem base_w {w : World} (a : PinAt w 0 tbl) (b : PinAt w 2 tbS) : Base TP H0 w := by
  obtain ⟨c, t, xs, a1, a2, a3, a4⟩ := a
  obtain ⟨c', t', ys, b1, b2, b3, b4⟩ := b
  have lx : xs.length = 123 := by rw [← a2.length, ← lenL_eq, tbl_len]
  have ly : ys.length = 256 := by rw [← b2.length, ← lenL_eq, tbS_len]
  have big : (1000 : Nat) ≤ keys := by decide
  obtain ⟨r, al, _⟩ := (WR.empty TP w).overRo AllRo.empty (by decide) (o := 0) (z := c.size) a1 (by omega) a2 (fun j u hu => by rw [Nat.zero_add]; exact a3 j u hu) a4 (by omega) (fun v hx => flat_one (List.all_eq_true.1 tbl_flat v hx))
  obtain ⟨r', al', le⟩ := r.overRo al (by decide) (o := 0) (z := c'.size) b1 (by omega) (b2.mono (fun _ _ e => by cases e)) (fun j u hu => by rw [Nat.zero_add]; exact b3 j u hu) b4 (by omega) (fun v hx => flat_one (List.all_eq_true.1 tbS_flat v hx))
  obtain ⟨tr, ts, e1, e2, hpin⟩ : ∃ tr ts, tr = trOf tbl 0 .e ∧ ts = trOf tbS 0 .e ∧ TP.pin = [(0, 0, 123, tr), (1, 2, 256, ts)] := ⟨_, _, rfl, rfl, rfl⟩
  have h0 := H0_0
  have h1 := H0_1
  rw [← e1] at h0
  rw [← e2] at h1
  refine ⟨_, H0_eq ▸ r', H0_eq ▸ al', fun p hp => ?_⟩
  rw [hpin] at hp
  cases hp with
  | head => exact ⟨⟨_, le _ _ (gput_same _ _ _)⟩, h0⟩
  | tail _ hp =>
    obtain rfl := List.mem_singleton.1 hp
    exact ⟨⟨_, gput_same _ _ _⟩, h1⟩
theorem base0 : ∀ g h w, WR TP g h w → Glob TP g h → Base TP H0 w := fun _ _ _ r hG =>
  base_w (pinAt_of r hG (id := 0) (n := 123) List.mem_cons_self (by rw [← lenL_eq, tbl_len]) (by decide) tbl_flat) (pinAt_of r hG (id := 1) (n := 256) (List.mem_cons_of_mem _ List.mem_cons_self) (by rw [← lenL_eq, tbS_len]) (by decide) tbS_flat)
theorem Rows.primOf {f : FuncId} {t : List (List V × D)} (k : Rows Tryz.prog TP f t) : PrimOf f (treeP t) := fun _ _ _ _ e _ _ _ r hG hv => k.prim e r hG hv
end Ev
end Go.Proofs.YtbfkbabolhhbaaaGreatDoor
