/-
  One operation of the model, by the compiled one.
-/
import Derived.Test.YtbfkbabolhhbaaaGreatDoorEvOps
import Derived.OrdersIn
import Derived.RangeFuncRecord
namespace Go.Proofs.YtbfkbabolhhbaaaGreatDoor
namespace Ev
variable [Opq]
set_option linter.unusedSectionVars false
section
variable {P : Program} {T : Ty}

/-- Every machine is let by; in a round, or in none. -/
def fen (r : Option Nat) : Fence := { Fence.wide with round := r }
/-- The program's variables stand where the program has them. -/
def Glob (T : Ty) (g : G) (h : H) : Prop := ∀ p, p ∈ T.pin → (∃ z, g p.1 = some (p.2.1, 0, z)) ∧ h.blk p.1 = some (.ro p.2.2.1 p.2.2.2)
theorem Glob.ext {T : Ty} {g g' : G} {h h' : H} {w w' : World} (k : Glob T g h) (x : Ext T g h w g' h' w') : Glob T g' h' := fun p hp => by
  obtain ⟨⟨z, hz⟩, hb⟩ := k p hp
  exact ⟨⟨z, x.le _ _ hz⟩, (x.ro _ _ _ _ _ _ hz hb).1⟩
/-- What a call hands back, on both sides. -/
def Post (T : Ty) (g : G) (h : H) (w : World) (v : V) (h' : H) (e : Ending) (w' : World) : Prop := ∃ g' u, e = .returned u ∧ VR g' v u ∧ Ext T g h w g' h' w'
def CallFn (P : Program) (T : Ty) (f : FuncId) (us : List Value) (g : G) (h : H) (w : World) (v : V) (h' : H) : Prop :=
  ∃ fn, P.funcs[f]? = some fn ∧ fn.name ≠ "runtime.NumGoroutine" ∧ fn.body.isNone = false ∧ CallsIn Fence.wide 0 P f us.toArray w (Post T g h w v h')
def CallYld (P : Program) (T : Ty) (id : Nat) (us : List Value) (g : G) (h : H) (w : World) (v : V) (h' : H) : Prop :=
  ∀ b o z, g id = some (b, o, z) → ∃ (l : Loop) (tmps : Array Value), (Instr.yield b us.toArray).run P w = .ok (.round b l.fn tmps l.assign l.body) w ∧ RoundIn Fence.wide 0 P b l.fn tmps l.assign l.body w (Post T g h w v h')
structure CallOk (P : Program) (T : Ty) (call : CallT) : Prop where
  fn : ∀ f vs h v h', call (.fn f) vs h = some (v, h') → ∀ g w us, WR T g h w → Glob T g h → VRs g vs us → CallFn P T f us g h w v h'
  yld : ∀ id vs h v h', call (.yld id) vs h = some (v, h') → ∀ g w us, WR T g h w → Glob T g h → VRs g vs us → CallYld P T id us g h w v h'

theorem roundIn_fen {r : Option Nat} {l : Nat} {f : FuncId} {tmps : Array Value} {a b : Code} {w : World} {R : Ending → World → Prop} (h : RoundIn Fence.wide 0 P l f tmps a b w R) : RoundIn (fen r) 0 P l f tmps a b w R := h
theorem callsIn_fen {r : Option Nat} {f : FuncId} {us : Array Value} {w : World} {R : Ending → World → Prop} (h : CallsIn Fence.wide 0 P f us w R) : CallsIn (fen r) 0 P f us w R := h
theorem fen_depth (r : Option Nat) : (fen r).depth.isSome = true → 1 ≤ 0 := fun h => by cases h

theorem compOp_defer {o : Op} {c : COp} {os : List Operand} (h : compOp T o = some (c, os)) : ∀ k, o ≠ .defer k := by
  intro k e
  subst e
  cases h
theorem compOp_call {op : Op} {f : FuncId} {os : List Operand} (hc : compOp T op = some (.call f, os)) : ∃ args at', op = .call ⟨.value (.func f), args, at'⟩ ∧ os = args.toList := by
  cases op
  case call c =>
    obtain ⟨callee, args, argTypes⟩ := c
    simp only [compOp] at hc
    cases callee with
    | value x =>
      cases x with
      | func f' => cases hc; exact ⟨args, argTypes, rfl, rfl⟩
      | _ => cases hc
    | invoke r m => cases hc
    | builtin b =>
      obtain ⟨t, h1, h2⟩ := ob_some.1 hc
      obtain ⟨d, h3, h4⟩ := ob_some.1 h2
      cases b
      case len => cases d <;> cases h4
      case append =>
        cases d with
        | slice e =>
          obtain ⟨n, _, a1⟩ := ob_some.1 h4
          obtain ⟨_, _, a2⟩ := ob_some.1 a1
          obtain ⟨_, _, a3⟩ := ob_some.1 a2
          obtain ⟨_, a4⟩ := oif_some.1 a3
          obtain ⟨_, _, a5⟩ := ob_some.1 a4
          obtain ⟨_, _, a6⟩ := ob_some.1 a5
          split at a6 <;> cases a6
        | _ => cases h4
      case copy =>
        cases d with
        | slice e => obtain ⟨n, k1, a1⟩ := ob_some.1 h4; cases a1
        | _ => cases h4
      case clear =>
        cases d with
        | slice e =>
          obtain ⟨n, k1, a1⟩ := ob_some.1 h4
          obtain ⟨z, k2, a2⟩ := ob_some.1 a1
          cases a2
        | _ => cases h4
      case delete =>
        cases d with
        | map k e => obtain ⟨kk, k1, a1⟩ := ob_some.1 h4; cases a1
        | _ => cases h4
      all_goals (cases d <;> cases h4)
  case alloc t =>
    simp only [compOp] at hc
    obtain ⟨z, h1, h⟩ := ob_some.1 hc
    cases h
  case buildSlice t n ps =>
    simp only [compOp] at hc
    obtain ⟨d, _, h⟩ := ob_some.1 hc
    cases d with
    | slice e =>
      obtain ⟨_, _, a1⟩ := ob_some.1 h
      obtain ⟨_, _, a2⟩ := ob_some.1 a1
      obtain ⟨_, a3⟩ := oif_some.1 a2
      cases a3
    | _ => cases h
  case makeMap t r =>
    simp only [compOp] at hc
    obtain ⟨d, _, h⟩ := ob_some.1 hc
    cases d <;> cases h
  case makeSlice t l c =>
    simp only [compOp] at hc
    obtain ⟨d, _, h⟩ := ob_some.1 hc
    cases d with
    | slice e =>
      obtain ⟨_, _, a1⟩ := ob_some.1 h
      obtain ⟨_, _, a2⟩ := ob_some.1 a1
      obtain ⟨_, _, a3⟩ := ob_some.1 a2
      obtain ⟨_, a4⟩ := oif_some.1 a3
      cases a4
    | _ => cases h
  case range t x =>
    simp only [compOp] at hc
    obtain ⟨d, _, h⟩ := ob_some.1 hc
    cases d <;> cases h
  case load t x =>
    simp only [compOp] at hc
    obtain ⟨b, h1, h2⟩ := ob_some.1 hc
    obtain ⟨n, h3, h4⟩ := ob_some.1 h2
    cases h4
  case lookup t x k ok =>
    simp only [compOp] at hc
    obtain ⟨d, h1, h2⟩ := ob_some.1 hc
    cases d with
    | map kt e =>
      obtain ⟨kk, h3, h4⟩ := ob_some.1 h2
      obtain ⟨z, h5, h6⟩ := ob_some.1 h4
      cases h6
    | _ => cases h2
  case binOp op t x y t' =>
    have eq2 : ∀ {neg cst : Bool} {d : TypeDesc}, eqOp T t neg cst d = some (.call f) → False := by
      intro neg cst d h2
      cases d with
      | interface e => obtain ⟨h4, h5⟩ := oif_some.1 h2; cases h5
      | pointer e => obtain ⟨k, h4, h5⟩ := ob_some.1 h2; cases h5
      | struct fs => obtain ⟨k, h4, h5⟩ := ob_some.1 h2; cases h5
      | _ => cases h2
    cases op
    case eql =>
      simp only [compOp] at hc
      obtain ⟨d, h1, h2⟩ := ob_some.1 hc
      obtain ⟨c, h3, h4⟩ := ob_some.1 h2
      cases h4
      exact (eq2 (neg := false) h3).elim
    case neq =>
      simp only [compOp] at hc
      obtain ⟨d, h1, h2⟩ := ob_some.1 hc
      obtain ⟨c, h3, h4⟩ := ob_some.1 h2
      cases h4
      exact (eq2 (neg := true) h3).elim
    all_goals cases hc
  case build t ps =>
    simp only [compOp] at hc
    obtain ⟨z, h1, h2⟩ := ob_some.1 hc
    obtain ⟨d, h3, h4⟩ := ob_some.1 h2
    cases d with
    | struct fs =>
      obtain ⟨pl, h5, h6⟩ := ob_some.1 h4
      obtain ⟨l, h7, h8⟩ := ob_some.1 h6
      cases h8
    | array k e =>
      obtain ⟨n, h5, h6⟩ := ob_some.1 h4
      cases h6
    | _ => cases h4
  case convert s d x =>
    simp only [compOp] at hc
    obtain ⟨a, h1, h2⟩ := ob_some.1 hc
    obtain ⟨b, h3, h4⟩ := ob_some.1 h2
    cases a <;> cases b <;> first | (cases h4; done) | (cases (b2sOp_some h4).1)
  case makeInterface t x =>
    simp only [compOp] at hc
    obtain ⟨d, h1, h2⟩ := ob_some.1 hc
    cases d <;> cases h2
  case makeFunc fn a b => cases fn <;> cases hc
  case slice t x lo hi mx =>
    simp only [compOp] at hc
    obtain ⟨d, _, h⟩ := ob_some.1 hc
    cases d with
    | string => cases h
    | slice e => obtain ⟨_, _, a1⟩ := ob_some.1 h; cases a1
    | array k e => obtain ⟨_, _, a1⟩ := ob_some.1 h; cases a1
    | _ => cases h
  case fieldAddr t x i =>
    simp only [compOp] at hc
    obtain ⟨d, _, h⟩ := ob_some.1 hc
    cases d with
    | struct fs =>
      obtain ⟨_, _, a1⟩ := ob_some.1 h
      obtain ⟨_, _, a2⟩ := ob_some.1 a1
      cases a2
    | _ => cases h
  case field t x i =>
    simp only [compOp] at hc
    obtain ⟨d, _, h⟩ := ob_some.1 hc
    cases d with
    | struct fs =>
      obtain ⟨_, _, a1⟩ := ob_some.1 h
      obtain ⟨_, _, a2⟩ := ob_some.1 a1
      obtain ⟨_, _, a3⟩ := ob_some.1 a2
      cases a3
    | _ => cases h
  case indexAddr t x i =>
    simp only [compOp] at hc
    obtain ⟨d, _, h⟩ := ob_some.1 hc
    cases d with
    | slice e => obtain ⟨_, _, a1⟩ := ob_some.1 h; cases a1
    | array k e => obtain ⟨_, _, a1⟩ := ob_some.1 h; cases a1
    | _ => cases h
  case index t x i =>
    simp only [compOp] at hc
    obtain ⟨d, _, h⟩ := ob_some.1 hc
    cases d with
    | string => cases h
    | array k e =>
      obtain ⟨_, _, a1⟩ := ob_some.1 h
      obtain ⟨_, _, a2⟩ := ob_some.1 a1
      cases a2
    | _ => cases h
  case insert t m k x =>
    simp only [compOp] at hc
    obtain ⟨d, _, h⟩ := ob_some.1 hc
    cases d with
    | map k e =>
      obtain ⟨_, _, a1⟩ := ob_some.1 h
      cases a1
    | _ => cases h
  case mapEntry t m k =>
    simp only [compOp] at hc
    obtain ⟨d, _, h⟩ := ob_some.1 hc
    cases d with
    | map k e =>
      obtain ⟨_, _, a1⟩ := ob_some.1 h
      obtain ⟨_, _, a2⟩ := ob_some.1 a1
      cases a2
    | _ => cases h
  case mapUpdate t m k x =>
    simp only [compOp] at hc
    obtain ⟨d, _, h⟩ := ob_some.1 hc
    cases d with
    | map k e =>
      obtain ⟨_, _, a1⟩ := ob_some.1 h
      cases a1
    | _ => cases h
  case store t a x =>
    simp only [compOp] at hc
    obtain ⟨_, _, a1⟩ := ob_some.1 hc
    cases a1
  case next x b => cases b <;> cases hc
  all_goals cases hc
theorem compOp_callv {op : Op} {os : List Operand} (hc : compOp T op = some (.callv, os)) : ∃ x args at', op = .call ⟨.value x, args, at'⟩ ∧ os = x :: args.toList := by
  cases op
  case call c =>
    obtain ⟨callee, args, argTypes⟩ := c
    simp only [compOp] at hc
    cases callee with
    | value x =>
      cases x with
      | func f' => cases hc
      | _ => cases hc; exact ⟨_, args, argTypes, rfl, rfl⟩
    | invoke r m => cases hc
    | builtin b =>
      obtain ⟨t, h1, h2⟩ := ob_some.1 hc
      obtain ⟨d, h3, h4⟩ := ob_some.1 h2
      cases b
      case len => cases d <;> cases h4
      case append =>
        cases d with
        | slice e =>
          obtain ⟨n, _, a1⟩ := ob_some.1 h4
          obtain ⟨_, _, a2⟩ := ob_some.1 a1
          obtain ⟨_, _, a3⟩ := ob_some.1 a2
          obtain ⟨_, a4⟩ := oif_some.1 a3
          obtain ⟨_, _, a5⟩ := ob_some.1 a4
          obtain ⟨_, _, a6⟩ := ob_some.1 a5
          split at a6 <;> cases a6
        | _ => cases h4
      case copy =>
        cases d with
        | slice e => obtain ⟨n, k1, a1⟩ := ob_some.1 h4; cases a1
        | _ => cases h4
      case clear =>
        cases d with
        | slice e =>
          obtain ⟨n, k1, a1⟩ := ob_some.1 h4
          obtain ⟨z, k2, a2⟩ := ob_some.1 a1
          cases a2
        | _ => cases h4
      case delete =>
        cases d with
        | map k e => obtain ⟨kk, k1, a1⟩ := ob_some.1 h4; cases a1
        | _ => cases h4
      all_goals (cases d <;> cases h4)
  case alloc t =>
    simp only [compOp] at hc
    obtain ⟨z, h1, h⟩ := ob_some.1 hc
    cases h
  case buildSlice t n ps =>
    simp only [compOp] at hc
    obtain ⟨d, _, h⟩ := ob_some.1 hc
    cases d with
    | slice e =>
      obtain ⟨_, _, a1⟩ := ob_some.1 h
      obtain ⟨_, _, a2⟩ := ob_some.1 a1
      obtain ⟨_, a3⟩ := oif_some.1 a2
      cases a3
    | _ => cases h
  case makeMap t r =>
    simp only [compOp] at hc
    obtain ⟨d, _, h⟩ := ob_some.1 hc
    cases d <;> cases h
  case makeSlice t l c =>
    simp only [compOp] at hc
    obtain ⟨d, _, h⟩ := ob_some.1 hc
    cases d with
    | slice e =>
      obtain ⟨_, _, a1⟩ := ob_some.1 h
      obtain ⟨_, _, a2⟩ := ob_some.1 a1
      obtain ⟨_, _, a3⟩ := ob_some.1 a2
      obtain ⟨_, a4⟩ := oif_some.1 a3
      cases a4
    | _ => cases h
  case range t x =>
    simp only [compOp] at hc
    obtain ⟨d, _, h⟩ := ob_some.1 hc
    cases d <;> cases h
  case load t x =>
    simp only [compOp] at hc
    obtain ⟨b, h1, h2⟩ := ob_some.1 hc
    obtain ⟨n, h3, h4⟩ := ob_some.1 h2
    cases h4
  case lookup t x k ok =>
    simp only [compOp] at hc
    obtain ⟨d, h1, h2⟩ := ob_some.1 hc
    cases d with
    | map kt e =>
      obtain ⟨kk, h3, h4⟩ := ob_some.1 h2
      obtain ⟨z, h5, h6⟩ := ob_some.1 h4
      cases h6
    | _ => cases h2
  case binOp op t x y t' =>
    have eq2 : ∀ {neg cst : Bool} {d : TypeDesc}, eqOp T t neg cst d = some (.callv) → False := by
      intro neg cst d h2
      cases d with
      | interface e => obtain ⟨h4, h5⟩ := oif_some.1 h2; cases h5
      | pointer e => obtain ⟨k, h4, h5⟩ := ob_some.1 h2; cases h5
      | struct fs => obtain ⟨k, h4, h5⟩ := ob_some.1 h2; cases h5
      | _ => cases h2
    cases op
    case eql =>
      simp only [compOp] at hc
      obtain ⟨d, h1, h2⟩ := ob_some.1 hc
      obtain ⟨c, h3, h4⟩ := ob_some.1 h2
      cases h4
      exact (eq2 (neg := false) h3).elim
    case neq =>
      simp only [compOp] at hc
      obtain ⟨d, h1, h2⟩ := ob_some.1 hc
      obtain ⟨c, h3, h4⟩ := ob_some.1 h2
      cases h4
      exact (eq2 (neg := true) h3).elim
    all_goals cases hc
  case build t ps =>
    simp only [compOp] at hc
    obtain ⟨z, h1, h2⟩ := ob_some.1 hc
    obtain ⟨d, h3, h4⟩ := ob_some.1 h2
    cases d with
    | struct fs =>
      obtain ⟨pl, h5, h6⟩ := ob_some.1 h4
      obtain ⟨l, h7, h8⟩ := ob_some.1 h6
      cases h8
    | array k e =>
      obtain ⟨n, h5, h6⟩ := ob_some.1 h4
      cases h6
    | _ => cases h4
  case convert s d x =>
    simp only [compOp] at hc
    obtain ⟨a, h1, h2⟩ := ob_some.1 hc
    obtain ⟨b, h3, h4⟩ := ob_some.1 h2
    cases a <;> cases b <;> first | (cases h4; done) | (cases (b2sOp_some h4).1)
  case makeInterface t x =>
    simp only [compOp] at hc
    obtain ⟨d, h1, h2⟩ := ob_some.1 hc
    cases d <;> cases h2
  case makeFunc fn a b => cases fn <;> cases hc
  case slice t x lo hi mx =>
    simp only [compOp] at hc
    obtain ⟨d, _, h⟩ := ob_some.1 hc
    cases d with
    | string => cases h
    | slice e => obtain ⟨_, _, a1⟩ := ob_some.1 h; cases a1
    | array k e => obtain ⟨_, _, a1⟩ := ob_some.1 h; cases a1
    | _ => cases h
  case fieldAddr t x i =>
    simp only [compOp] at hc
    obtain ⟨d, _, h⟩ := ob_some.1 hc
    cases d with
    | struct fs =>
      obtain ⟨_, _, a1⟩ := ob_some.1 h
      obtain ⟨_, _, a2⟩ := ob_some.1 a1
      cases a2
    | _ => cases h
  case field t x i =>
    simp only [compOp] at hc
    obtain ⟨d, _, h⟩ := ob_some.1 hc
    cases d with
    | struct fs =>
      obtain ⟨_, _, a1⟩ := ob_some.1 h
      obtain ⟨_, _, a2⟩ := ob_some.1 a1
      obtain ⟨_, _, a3⟩ := ob_some.1 a2
      cases a3
    | _ => cases h
  case indexAddr t x i =>
    simp only [compOp] at hc
    obtain ⟨d, _, h⟩ := ob_some.1 hc
    cases d with
    | slice e => obtain ⟨_, _, a1⟩ := ob_some.1 h; cases a1
    | array k e => obtain ⟨_, _, a1⟩ := ob_some.1 h; cases a1
    | _ => cases h
  case index t x i =>
    simp only [compOp] at hc
    obtain ⟨d, _, h⟩ := ob_some.1 hc
    cases d with
    | string => cases h
    | array k e =>
      obtain ⟨_, _, a1⟩ := ob_some.1 h
      obtain ⟨_, _, a2⟩ := ob_some.1 a1
      cases a2
    | _ => cases h
  case insert t m k x =>
    simp only [compOp] at hc
    obtain ⟨d, _, h⟩ := ob_some.1 hc
    cases d with
    | map k e =>
      obtain ⟨_, _, a1⟩ := ob_some.1 h
      cases a1
    | _ => cases h
  case mapEntry t m k =>
    simp only [compOp] at hc
    obtain ⟨d, _, h⟩ := ob_some.1 hc
    cases d with
    | map k e =>
      obtain ⟨_, _, a1⟩ := ob_some.1 h
      obtain ⟨_, _, a2⟩ := ob_some.1 a1
      cases a2
    | _ => cases h
  case mapUpdate t m k x =>
    simp only [compOp] at hc
    obtain ⟨d, _, h⟩ := ob_some.1 hc
    cases d with
    | map k e =>
      obtain ⟨_, _, a1⟩ := ob_some.1 h
      cases a1
    | _ => cases h
  case store t a x =>
    simp only [compOp] at hc
    obtain ⟨_, _, a1⟩ := ob_some.1 hc
    cases a1
  case next x b => cases b <;> cases hc
  all_goals cases hc
/-- A call of a value. -/
theorem callVal_ok {call : CallT} (hk : CallOk P T call) {g : G} {h h' : H} {w : World} (r : WR T g h w) (hG : Glob T g h) {fv : V} {vs : List V} {fu : Value} {us : List Value} {v : V} (hf : VR g fv fu) (hv : VRs g vs us) (hr : callVal call (fv :: vs) h = some (v, h')) :
    ∃ d, (∀ w, (Deferred.ofValue fu us.toArray).run P w = .ok d w) ∧ ((∃ (f : FuncId) (us' : Array Value), (∀ w, (invoke d.target d.args).run P w = .ok (.enter f us') w) ∧ CallsIn Fence.wide 0 P f us' w (Post T g h w v h')) ∨
      ∃ (b : Nat) (l : Loop) (tmps : Array Value), (invoke d.target d.args).run P w = .ok (.round b l.fn tmps l.assign l.body) w ∧ RoundIn Fence.wide 0 P b l.fn tmps l.assign l.body w (Post T g h w v h')) := by
  cases fv with
  | func fn first captured =>
    cases fn <;> first | (cases hr; done) | skip
    rename_i f
    have hr' : call (.fn f) (first ++ (vs ++ captured)) h = some (v, h') := hr
    cases hf with
    | func ha hb =>
      rename_i x y
      obtain ⟨fn, k1, k2, k3, k4⟩ := hk.fn _ _ _ _ _ hr' g w _ r hG (ha.append (hv.append hb))
      refine ⟨⟨.fn (.func f) y.toArray, x.toArray ++ us.toArray⟩, fun w => by simp [Deferred.ofValue], .inl ⟨f, (x ++ (us ++ y)).toArray, fun w => ?_, k4⟩⟩
      have he : x.toArray ++ us.toArray ++ y.toArray = (x ++ (us ++ y)).toArray := by simp
      simp only [invoke, he]
      have hb : ¬ fn.body = none := fun e => by rw [e] at k3; cases k3
      simp [callFunc, k1, k2, hb]
  | yld id =>
    have hr' : call (.yld id) vs h = some (v, h') := hr
    cases hf with
    | yld hg =>
      rename_i b o z
      obtain ⟨l, tmps, k1, k2⟩ := hk.yld _ _ _ _ _ hr' g w _ r hG hv b o z hg
      refine ⟨⟨.fn (.yield b) #[], #[] ++ us.toArray⟩, fun w => by simp [Deferred.ofValue], .inr ⟨b, l, tmps, ?_, k2⟩⟩
      simp only [invoke]
      simpa using k1
  | _ => cases hr
/-- A call of a function value that is no round. -/
theorem callVal_fn {call : CallT} (hk : CallOk P T call) {g : G} {h h' : H} {w : World} (r : WR T g h w) (hG : Glob T g h) {fv : V} {vs : List V} {fu : Value} {us : List Value} {v : V} (hfn : fnOnly fv = true) (hf : VR g fv fu) (hv : VRs g vs us) (hr : callVal call (fv :: vs) h = some (v, h')) :
    ∃ d, (∀ w, (Deferred.ofValue fu us.toArray).run P w = .ok d w) ∧ ∃ (f : FuncId) (us' : Array Value), (∀ w, (invoke d.target d.args).run P w = .ok (.enter f us') w) ∧ CallsIn Fence.wide 0 P f us' w (Post T g h w v h') := by
  cases fv with
  | func fn first captured =>
    cases fn <;> first | (cases hr; done) | skip
    rename_i f
    have hr' : call (.fn f) (first ++ (vs ++ captured)) h = some (v, h') := hr
    cases hf with
    | func ha hb =>
      rename_i x y
      obtain ⟨fn, k1, k2, k3, k4⟩ := hk.fn _ _ _ _ _ hr' g w _ r hG (ha.append (hv.append hb))
      refine ⟨⟨.fn (.func f) y.toArray, x.toArray ++ us.toArray⟩, fun w => by simp [Deferred.ofValue], f, (x ++ (us ++ y)).toArray, fun w => ?_, k4⟩
      have he : x.toArray ++ us.toArray ++ y.toArray = (x ++ (us ++ y)).toArray := by simp
      simp only [invoke, he]
      have hb : ¬ fn.body = none := fun e => by rw [e] at k3; cases k3
      simp [callFunc, k1, k2, hb]
  | _ => cases hfn
/-- An operation, as the compiled one has it. -/
theorem step_op (hT : TyOk P T) {call : CallT} (hk : CallOk P T call) {g : G} {h h' : H} {w : World} (r : WR T g h w) (hG : Glob T g h) {o : Oper} {c : COp} {os : List Operand} {a : Act} (hc : compOp T o.op = some (c, os)) {vs : List V} {v : V} (hv : VRs g vs (os.map a.eval))
    (hr : c.run call vs h = some (v, h')) {rd : Option Nat} {K : Act → World → Prop} {Q : Exit → Act → World → Prop} (hK : ∀ g' w' u, Ext T g h w g' h' w' → VR g' v u → K (a.put o.dst u) w') : o.wpIn (fen rd) 0 P a w K Q := by
  refine ⟨fun _ _ => trivial, ?_⟩
  rw [Oper.semAt_eq _ _ _ (compOp_defer hc)]
  cases c with
  | p po =>
    obtain ⟨u, e1, e2⟩ := ob_some.1 (show ob (po.run vs) (fun v => some (v, h)) = some (v, h') from hr)
    cases e2
    obtain ⟨x, k1, k2⟩ := P_ok hT hc hv e1
    rw [k2 w o rfl, Oper.uponIn_value]
    exact hK g w x (.refl r) k1
  | r ro =>
    obtain ⟨u, e1, e2⟩ := ob_some.1 (show ob (ro.run vs h) (fun v => some (v, h)) = some (v, h') from hr)
    cases e2
    obtain ⟨x, k1, k2⟩ := R_ok hT r hc hv e1
    rw [k2 o rfl, Oper.uponIn_value]
    exact hK g w x (.refl r) k1
  | a ao =>
    obtain ⟨p, e1, e2⟩ := ob_some.1 (show ob (ao.run vs) (fun r => ob (h.new r.1) fun h' => some (r.2 h.next, h')) = some (v, h') from hr)
    obtain ⟨h1, e3, e4⟩ := ob_some.1 e2
    cases e4
    obtain ⟨blk, mk⟩ := p
    have hm := A_ok (P := P) hT hc hv e1
    obtain ⟨obj, z, val, m1, m2, m3⟩ := hm.make
    have hnone : g h.next = none := by
      cases e : g h.next with
      | none => rfl
      | some x => exact absurd (r.dom _ _ e) (by omega)
    have hle := gput_le (g := g) (w.heap.size, 0, z) hnone
    rw [m1 w o rfl, Oper.uponIn_value]
    exact hK _ _ _ (Ext.new r e3 hm.kin (m3 _ _ _ _ hle (gput_same _ _ _) (heap_alloc_new w obj))) (m2 _ _ _ hle (gput_same _ _ _))
  | e eo =>
    obtain ⟨g', w', u, x1, x2, x3⟩ := E_ok hT r hc hv hr
    rcases x3 o rfl with x4 | ⟨x4, hu⟩
    · rw [x4, Oper.uponIn_value]
      exact hK g' w' u x1 x2
    · subst hu
      rw [x4, Oper.uponIn_skip]
      exact hK g' w' undef x1 x2
  | call f =>
    have hr' : call (.fn f) vs h = some (v, h') := hr
    obtain ⟨args, at', he, ho⟩ : ∃ args at', o.op = .call ⟨.value (.func f), args, at'⟩ ∧ os = args.toList := by
      exact compOp_call hc
    subst ho
    obtain ⟨fn, k1, k2, k3, k4⟩ := hk.fn _ _ _ _ _ hr' g w _ r hG hv
    have hrun : (execOp a.eval o).run P w = .ok (.enter f (args.map a.eval)) w := by
      have hb : ¬ fn.body = none := fun e => by rw [e] at k3; cases k3
      simp [execOp, he, resolve, Act.eval, Deferred.ofValue, invoke, callFunc, k1, k2, hb]
    have ha : (args.toList.map a.eval).toArray = args.map a.eval := by apply Array.ext'; simp
    rw [ha] at k4
    rw [hrun, Oper.uponIn_enter]
    refine ⟨fen_depth rd, callsIn_fen (k4.mono ?_)⟩
    rintro e w' ⟨g', u, rfl, hu, hx⟩
    exact hK g' w' u hx hu
  | callv =>
    obtain ⟨x, args, at', he, ho⟩ : ∃ x args at', o.op = .call ⟨.value x, args, at'⟩ ∧ os = x :: args.toList := by
      exact compOp_callv hc
    subst ho
    cases hv with
    | cons hf hv =>
      rename_i fv vs
      have hr' : callVal call (fv :: vs) h = some (v, h') := hr
      obtain ⟨d, k1, k2⟩ := callVal_ok hk r hG hf hv hr'
      have ha : (args.toList.map a.eval).toArray = args.map a.eval := by apply Array.ext'; simp
      rw [ha] at k1
      rcases k2 with ⟨f, us', m1, m2⟩ | ⟨b, l, tmps, m1, m2⟩
      · have hrun : (execOp a.eval o).run P w = .ok (.enter f us') w := by
          simp [execOp, he, resolve, k1, m1]
        rw [hrun, Oper.uponIn_enter]
        refine ⟨fen_depth rd, callsIn_fen (m2.mono ?_)⟩
        rintro e w' ⟨g', u, rfl, hu, hx⟩
        exact hK g' w' u hx hu
      · have hrun : (execOp a.eval o).run P w = .ok (.round b l.fn tmps l.assign l.body) w := by
          simp [execOp, he, resolve, k1, m1]
        rw [hrun, Oper.uponIn_round]
        refine ⟨fen_depth rd, roundIn_fen (m2.mono ?_)⟩
        rintro e w' ⟨g', u, rfl, hu, hx⟩
        exact hK g' w' u hx hu
end
end Ev
end Go.Proofs.YtbfkbabolhhbaaaGreatDoor
