/-
  One operation of the model, by the compiled one.
-/
import Derived.Test.YtogbcielgfidlaaGreatDoorEvAppend
import Derived.OrdersIn
import Derived.RangeFuncRecord
namespace Go.Proofs.YtogbcielgfidlaaGreatDoor
set_option linter.unusedVariables false
set_option linter.unusedSimpArgs false
namespace Ev
variable [Opq]
set_option linter.unusedSectionVars false
section
variable {P : Program} {T : Ty}

/-- Every machine is let by; in a round, or in none. -/
def fen (r : Option Nat) : Fence := { Fence.wide with round := r }
/-- Where a pinned block begins: those of the program's variables at 0. -/
def OffOk (p : Nat × Nat × Nat × Tr V) (o : Nat) : Prop := (p.1 < 8 → o = 0) ∧ (8 ≤ p.1 → p.2.2.2.get 200001 = some (.int .i64 o))
/-- The program's variables stand where the program has them. -/
def Glob (T : Ty) (g : G) (h : H) : Prop := ∀ p, p ∈ T.pin → (∃ o z, g p.1 = some (p.2.1, o, z) ∧ OffOk p o) ∧ h.blk p.1 = some (.ro p.2.2.1 p.2.2.2)
theorem Glob.at0 {T : Ty} {g : G} {h : H} (k : Glob T g h) {p : Nat × Nat × Nat × Tr V} (hp : p ∈ T.pin) (h8 : p.1 < 8) : (∃ z, g p.1 = some (p.2.1, 0, z)) ∧ h.blk p.1 = some (.ro p.2.2.1 p.2.2.2) := by
  obtain ⟨⟨o, z, hz, ho⟩, hb⟩ := k p hp
  rw [ho.1 h8] at hz
  exact ⟨⟨z, hz⟩, hb⟩
theorem Glob.ext {T : Ty} {g g' : G} {h h' : H} {w w' : World} (k : Glob T g h) (x : Ext T g h w g' h' w') : Glob T g' h' := fun p hp => by
  obtain ⟨⟨o, z, hz, ho⟩, hb⟩ := k p hp
  exact ⟨⟨o, z, x.le _ _ hz, ho⟩, (x.ro _ _ _ _ _ _ hz hb).1⟩
/-- What a call hands back, on both sides. -/
def Post (T : Ty) (g : G) (h : H) (w : World) (v : V) (h' : H) (e : Ending) (w' : World) : Prop := ∃ g' u, e = .returned u ∧ VR g' v u ∧ Ext T g h w g' h' w'
def CallFn (P : Program) (T : Ty) (f : FuncId) (us : List Value) (g : G) (h : H) (w : World) (v : V) (h' : H) : Prop :=
  ∃ fn, P.funcs[f]? = some fn ∧ fn.name ≠ "runtime.NumGoroutine" ∧ fn.body.isNone = false ∧ CallsIn Fence.wide 0 P f us.toArray w (Post T g h w v h')
def CallYld (P : Program) (T : Ty) (id : Nat) (us : List Value) (g : G) (h : H) (w : World) (v : V) (h' : H) : Prop :=
  ∀ b o z, g id = some (b, o, z) → ∃ (l : Loop) (tmps : Array Value), (Instr.yield b us.toArray).run P w = .ok (.round b l.fn tmps l.assign l.body) w ∧ RoundIn Fence.wide 0 P b l.fn tmps l.assign l.body w (Post T g h w v h')
structure CallOk (P : Program) (T : Ty) (call : CallT) : Prop where
  fn : ∀ f vs h v h', call (.fn f) vs h = some (v, h') → ∀ g w us, WR T g h w → Glob T g h → VRs g vs us → CallFn P T f us g h w v h'
  yld : ∀ id vs h v h', call (.yld id) vs h = some (v, h') → ∀ g w us, WR T g h w → Glob T g h → VRs g vs us → CallYld P T id us g h w v h'

theorem roundIn_fen {r : Option Nat} {l : Nat} {f : FuncId} {tmps : Array Value} {a b : Code} {w : World} {R : Ending → World → Prop} (h : RoundIn Fence.wide 0 P l f tmps a b w R) : RoundIn (fen r) 0 P l f tmps a b w R := h
theorem callsIn_fen {r : Option Nat} {f : FuncId} {us : Array Value} {w : World} {R : Ending → World → Prop} (h : CallsIn Fence.wide 0 P f us w R) : CallsIn (fen r) 0 P f us w R := h
theorem fen_depth (r : Option Nat) : (fen r).depth.isSome = true → 1 ≤ 0 := fun h => by cases h

theorem compOp_defer {o : Op} {c : COp} {os : List Operand} (h : compOp T o = some (c, os)) : ∀ k, o ≠ .defer k := by
  intro k e
  subst e
  cases h
theorem compOp_call {op : Op} {f : FuncId} {os : List Operand} (hc : compOp T op = some (.call f, os)) : ∃ args at', op = .call ⟨.value (.func f), args, at'⟩ ∧ os = args.toList := by
  cases op
  case call c =>
    obtain ⟨callee, args, argTypes⟩ := c
    simp only [compOp] at hc
    cases callee with
    | value x =>
      cases x with
      | func f' => cases hc; exact ⟨args, argTypes, rfl, rfl⟩
      | _ => cases hc
    | invoke r m => cases hc
    | builtin b =>
      obtain ⟨t, h1, h2⟩ := ob_some.1 hc
      obtain ⟨d, h3, h4⟩ := ob_some.1 h2
      cases b
      case len => cases d <;> cases h4
      case append =>
        cases d with
        | slice e =>
          obtain ⟨n, _, a1⟩ := ob_some.1 h4
          obtain ⟨_, _, a2⟩ := ob_some.1 a1
          obtain ⟨_, _, a3⟩ := ob_some.1 a2
          obtain ⟨_, a4⟩ := oif_some.1 a3
          obtain ⟨_, _, a5⟩ := ob_some.1 a4
          obtain ⟨_, _, a6⟩ := ob_some.1 a5
          split at a6 <;> cases a6
        | _ => cases h4
      case copy =>
        cases d with
        | slice e => obtain ⟨n, k1, a1⟩ := ob_some.1 h4; cases a1
        | _ => cases h4
      case clear =>
        cases d with
        | slice e =>
          obtain ⟨n, k1, a1⟩ := ob_some.1 h4
          obtain ⟨z, k2, a2⟩ := ob_some.1 a1
          cases a2
        | _ => cases h4
      case delete =>
        cases d with
        | map k e => obtain ⟨kk, k1, a1⟩ := ob_some.1 h4; cases a1
        | _ => cases h4
      all_goals (cases d <;> cases h4)
  case alloc t =>
    simp only [compOp] at hc
    obtain ⟨z, h1, h⟩ := ob_some.1 hc
    cases h
  case buildSlice t n ps =>
    simp only [compOp] at hc
    obtain ⟨d, _, h⟩ := ob_some.1 hc
    cases d with
    | slice e =>
      obtain ⟨_, _, a1⟩ := ob_some.1 h
      obtain ⟨_, _, a2⟩ := ob_some.1 a1
      obtain ⟨_, a3⟩ := oif_some.1 a2
      cases a3
    | _ => cases h
  case makeMap t r =>
    simp only [compOp] at hc
    obtain ⟨d, _, h⟩ := ob_some.1 hc
    cases d <;> cases h
  case makeSlice t l c =>
    simp only [compOp] at hc
    obtain ⟨d, _, h⟩ := ob_some.1 hc
    cases d with
    | slice e =>
      obtain ⟨_, _, a1⟩ := ob_some.1 h
      obtain ⟨_, _, a2⟩ := ob_some.1 a1
      obtain ⟨_, _, a3⟩ := ob_some.1 a2
      obtain ⟨_, a4⟩ := oif_some.1 a3
      cases a4
    | _ => cases h
  case range t x =>
    simp only [compOp] at hc
    obtain ⟨d, _, h⟩ := ob_some.1 hc
    cases d <;> cases h
  case load t x =>
    simp only [compOp] at hc
    obtain ⟨b, h1, h2⟩ := ob_some.1 hc
    obtain ⟨n, h3, h4⟩ := ob_some.1 h2
    cases h4
  case lookup t x k ok =>
    simp only [compOp] at hc
    obtain ⟨d, h1, h2⟩ := ob_some.1 hc
    cases d with
    | map kt e =>
      obtain ⟨kk, h3, h4⟩ := ob_some.1 h2
      obtain ⟨z, h5, h6⟩ := ob_some.1 h4
      cases h6
    | _ => cases h2
  case binOp op t x y t' =>
    have eq2 : ∀ {neg cst : Bool} {d : TypeDesc}, eqOp T t neg cst d = some (.call f) → False := by
      intro neg cst d h2
      cases d with
      | interface e => obtain ⟨h4, h5⟩ := oif_some.1 h2; cases h5
      | pointer e => obtain ⟨k, h4, h5⟩ := ob_some.1 h2; cases h5
      | struct fs => obtain ⟨k, h4, h5⟩ := ob_some.1 h2; cases h5
      | _ => cases h2
    cases op
    case eql =>
      simp only [compOp] at hc
      obtain ⟨d, h1, h2⟩ := ob_some.1 hc
      obtain ⟨c, h3, h4⟩ := ob_some.1 h2
      cases h4
      exact (eq2 (neg := false) h3).elim
    case neq =>
      simp only [compOp] at hc
      obtain ⟨d, h1, h2⟩ := ob_some.1 hc
      obtain ⟨c, h3, h4⟩ := ob_some.1 h2
      cases h4
      exact (eq2 (neg := true) h3).elim
    all_goals cases hc
  case build t ps =>
    simp only [compOp] at hc
    obtain ⟨z, h1, h2⟩ := ob_some.1 hc
    obtain ⟨d, h3, h4⟩ := ob_some.1 h2
    cases d with
    | struct fs =>
      obtain ⟨pl, h5, h6⟩ := ob_some.1 h4
      obtain ⟨l, h7, h8⟩ := ob_some.1 h6
      cases h8
    | array k e =>
      obtain ⟨n, h5, h6⟩ := ob_some.1 h4
      cases h6
    | _ => cases h4
  case convert s d x =>
    simp only [compOp] at hc
    obtain ⟨a, h1, h2⟩ := ob_some.1 hc
    obtain ⟨b, h3, h4⟩ := ob_some.1 h2
    cases a <;> cases b <;> first | (cases h4; done) | (cases (b2sOp_some h4).1)
  case makeInterface t x =>
    simp only [compOp] at hc
    obtain ⟨d, h1, h2⟩ := ob_some.1 hc
    cases d <;> cases h2
  case makeFunc fn a b => cases fn <;> cases hc
  case slice t x lo hi mx =>
    simp only [compOp] at hc
    obtain ⟨d, _, h⟩ := ob_some.1 hc
    cases d with
    | string => cases h
    | slice e => obtain ⟨_, _, a1⟩ := ob_some.1 h; cases a1
    | array k e => obtain ⟨_, _, a1⟩ := ob_some.1 h; cases a1
    | _ => cases h
  case fieldAddr t x i =>
    simp only [compOp] at hc
    obtain ⟨d, _, h⟩ := ob_some.1 hc
    cases d with
    | struct fs =>
      obtain ⟨_, _, a1⟩ := ob_some.1 h
      obtain ⟨_, _, a2⟩ := ob_some.1 a1
      cases a2
    | _ => cases h
  case field t x i =>
    simp only [compOp] at hc
    obtain ⟨d, _, h⟩ := ob_some.1 hc
    cases d with
    | struct fs =>
      obtain ⟨_, _, a1⟩ := ob_some.1 h
      obtain ⟨_, _, a2⟩ := ob_some.1 a1
      obtain ⟨_, _, a3⟩ := ob_some.1 a2
      cases a3
    | _ => cases h
  case indexAddr t x i =>
    simp only [compOp] at hc
    obtain ⟨d, _, h⟩ := ob_some.1 hc
    cases d with
    | slice e => obtain ⟨_, _, a1⟩ := ob_some.1 h; cases a1
    | array k e => obtain ⟨_, _, a1⟩ := ob_some.1 h; cases a1
    | _ => cases h
  case index t x i =>
    simp only [compOp] at hc
    obtain ⟨d, _, h⟩ := ob_some.1 hc
    cases d with
    | string => cases h
    | array k e =>
      obtain ⟨_, _, a1⟩ := ob_some.1 h
      obtain ⟨_, _, a2⟩ := ob_some.1 a1
      cases a2
    | _ => cases h
  case insert t m k x =>
    simp only [compOp] at hc
    obtain ⟨d, _, h⟩ := ob_some.1 hc
    cases d with
    | map k e =>
      obtain ⟨_, _, a1⟩ := ob_some.1 h
      cases a1
    | _ => cases h
  case mapEntry t m k =>
    simp only [compOp] at hc
    obtain ⟨d, _, h⟩ := ob_some.1 hc
    cases d with
    | map k e =>
      obtain ⟨_, _, a1⟩ := ob_some.1 h
      obtain ⟨_, _, a2⟩ := ob_some.1 a1
      cases a2
    | _ => cases h
  case mapUpdate t m k x =>
    simp only [compOp] at hc
    obtain ⟨d, _, h⟩ := ob_some.1 hc
    cases d with
    | map k e =>
      obtain ⟨_, _, a1⟩ := ob_some.1 h
      cases a1
    | _ => cases h
  case store t a x =>
    simp only [compOp] at hc
    obtain ⟨_, _, a1⟩ := ob_some.1 hc
    cases a1
  case next x b => cases b <;> cases hc
  all_goals cases hc
theorem compOp_callv {op : Op} {os : List Operand} (hc : compOp T op = some (.callv, os)) : ∃ x args at', op = .call ⟨.value x, args, at'⟩ ∧ os = x :: args.toList := by
  cases op
  case call c =>
    obtain ⟨callee, args, argTypes⟩ := c
    simp only [compOp] at hc
    cases callee with
    | value x =>
      cases x with
      | func f' => cases hc
      | _ => cases hc; exact ⟨_, args, argTypes, rfl, rfl⟩
    | invoke r m => cases hc
    | builtin b =>
      obtain ⟨t, h1, h2⟩ := ob_some.1 hc
      obtain ⟨d, h3, h4⟩ := ob_some.1 h2
      cases b
      case len => cases d <;> cases h4
      case append =>
        cases d with
        | slice e =>
          obtain ⟨n, _, a1⟩ := ob_some.1 h4
          obtain ⟨_, _, a2⟩ := ob_some.1 a1
          obtain ⟨_, _, a3⟩ := ob_some.1 a2
          obtain ⟨_, a4⟩ := oif_some.1 a3
          obtain ⟨_, _, a5⟩ := ob_some.1 a4
          obtain ⟨_, _, a6⟩ := ob_some.1 a5
          split at a6 <;> cases a6
        | _ => cases h4
      case copy =>
        cases d with
        | slice e => obtain ⟨n, k1, a1⟩ := ob_some.1 h4; cases a1
        | _ => cases h4
      case clear =>
        cases d with
        | slice e =>
          obtain ⟨n, k1, a1⟩ := ob_some.1 h4
          obtain ⟨z, k2, a2⟩ := ob_some.1 a1
          cases a2
        | _ => cases h4
      case delete =>
        cases d with
        | map k e => obtain ⟨kk, k1, a1⟩ := ob_some.1 h4; cases a1
        | _ => cases h4
      all_goals (cases d <;> cases h4)
  case alloc t =>
    simp only [compOp] at hc
    obtain ⟨z, h1, h⟩ := ob_some.1 hc
    cases h
  case buildSlice t n ps =>
    simp only [compOp] at hc
    obtain ⟨d, _, h⟩ := ob_some.1 hc
    cases d with
    | slice e =>
      obtain ⟨_, _, a1⟩ := ob_some.1 h
      obtain ⟨_, _, a2⟩ := ob_some.1 a1
      obtain ⟨_, a3⟩ := oif_some.1 a2
      cases a3
    | _ => cases h
  case makeMap t r =>
    simp only [compOp] at hc
    obtain ⟨d, _, h⟩ := ob_some.1 hc
    cases d <;> cases h
  case makeSlice t l c =>
    simp only [compOp] at hc
    obtain ⟨d, _, h⟩ := ob_some.1 hc
    cases d with
    | slice e =>
      obtain ⟨_, _, a1⟩ := ob_some.1 h
      obtain ⟨_, _, a2⟩ := ob_some.1 a1
      obtain ⟨_, _, a3⟩ := ob_some.1 a2
      obtain ⟨_, a4⟩ := oif_some.1 a3
      cases a4
    | _ => cases h
  case range t x =>
    simp only [compOp] at hc
    obtain ⟨d, _, h⟩ := ob_some.1 hc
    cases d <;> cases h
  case load t x =>
    simp only [compOp] at hc
    obtain ⟨b, h1, h2⟩ := ob_some.1 hc
    obtain ⟨n, h3, h4⟩ := ob_some.1 h2
    cases h4
  case lookup t x k ok =>
    simp only [compOp] at hc
    obtain ⟨d, h1, h2⟩ := ob_some.1 hc
    cases d with
    | map kt e =>
      obtain ⟨kk, h3, h4⟩ := ob_some.1 h2
      obtain ⟨z, h5, h6⟩ := ob_some.1 h4
      cases h6
    | _ => cases h2
  case binOp op t x y t' =>
    have eq2 : ∀ {neg cst : Bool} {d : TypeDesc}, eqOp T t neg cst d = some (.callv) → False := by
      intro neg cst d h2
      cases d with
      | interface e => obtain ⟨h4, h5⟩ := oif_some.1 h2; cases h5
      | pointer e => obtain ⟨k, h4, h5⟩ := ob_some.1 h2; cases h5
      | struct fs => obtain ⟨k, h4, h5⟩ := ob_some.1 h2; cases h5
      | _ => cases h2
    cases op
    case eql =>
      simp only [compOp] at hc
      obtain ⟨d, h1, h2⟩ := ob_some.1 hc
      obtain ⟨c, h3, h4⟩ := ob_some.1 h2
      cases h4
      exact (eq2 (neg := false) h3).elim
    case neq =>
      simp only [compOp] at hc
      obtain ⟨d, h1, h2⟩ := ob_some.1 hc
      obtain ⟨c, h3, h4⟩ := ob_some.1 h2
      cases h4
      exact (eq2 (neg := true) h3).elim
    all_goals cases hc
  case build t ps =>
    simp only [compOp] at hc
    obtain ⟨z, h1, h2⟩ := ob_some.1 hc
    obtain ⟨d, h3, h4⟩ := ob_some.1 h2
    cases d with
    | struct fs =>
      obtain ⟨pl, h5, h6⟩ := ob_some.1 h4
      obtain ⟨l, h7, h8⟩ := ob_some.1 h6
      cases h8
    | array k e =>
      obtain ⟨n, h5, h6⟩ := ob_some.1 h4
      cases h6
    | _ => cases h4
  case convert s d x =>
    simp only [compOp] at hc
    obtain ⟨a, h1, h2⟩ := ob_some.1 hc
    obtain ⟨b, h3, h4⟩ := ob_some.1 h2
    cases a <;> cases b <;> first | (cases h4; done) | (cases (b2sOp_some h4).1)
  case makeInterface t x =>
    simp only [compOp] at hc
    obtain ⟨d, h1, h2⟩ := ob_some.1 hc
    cases d <;> cases h2
  case makeFunc fn a b => cases fn <;> cases hc
  case slice t x lo hi mx =>
    simp only [compOp] at hc
    obtain ⟨d, _, h⟩ := ob_some.1 hc
    cases d with
    | string => cases h
    | slice e => obtain ⟨_, _, a1⟩ := ob_some.1 h; cases a1
    | array k e => obtain ⟨_, _, a1⟩ := ob_some.1 h; cases a1
    | _ => cases h
  case fieldAddr t x i =>
    simp only [compOp] at hc
    obtain ⟨d, _, h⟩ := ob_some.1 hc
    cases d with
    | struct fs =>
      obtain ⟨_, _, a1⟩ := ob_some.1 h
      obtain ⟨_, _, a2⟩ := ob_some.1 a1
      cases a2
    | _ => cases h
  case field t x i =>
    simp only [compOp] at hc
    obtain ⟨d, _, h⟩ := ob_some.1 hc
    cases d with
    | struct fs =>
      obtain ⟨_, _, a1⟩ := ob_some.1 h
      obtain ⟨_, _, a2⟩ := ob_some.1 a1
      obtain ⟨_, _, a3⟩ := ob_some.1 a2
      cases a3
    | _ => cases h
  case indexAddr t x i =>
    simp only [compOp] at hc
    obtain ⟨d, _, h⟩ := ob_some.1 hc
    cases d with
    | slice e => obtain ⟨_, _, a1⟩ := ob_some.1 h; cases a1
    | array k e => obtain ⟨_, _, a1⟩ := ob_some.1 h; cases a1
    | _ => cases h
  case index t x i =>
    simp only [compOp] at hc
    obtain ⟨d, _, h⟩ := ob_some.1 hc
    cases d with
    | string => cases h
    | array k e =>
      obtain ⟨_, _, a1⟩ := ob_some.1 h
      obtain ⟨_, _, a2⟩ := ob_some.1 a1
      cases a2
    | _ => cases h
  case insert t m k x =>
    simp only [compOp] at hc
    obtain ⟨d, _, h⟩ := ob_some.1 hc
    cases d with
    | map k e =>
      obtain ⟨_, _, a1⟩ := ob_some.1 h
      cases a1
    | _ => cases h
  case mapEntry t m k =>
    simp only [compOp] at hc
    obtain ⟨d, _, h⟩ := ob_some.1 hc
    cases d with
    | map k e =>
      obtain ⟨_, _, a1⟩ := ob_some.1 h
      obtain ⟨_, _, a2⟩ := ob_some.1 a1
      cases a2
    | _ => cases h
  case mapUpdate t m k x =>
    simp only [compOp] at hc
    obtain ⟨d, _, h⟩ := ob_some.1 hc
    cases d with
    | map k e =>
      obtain ⟨_, _, a1⟩ := ob_some.1 h
      cases a1
    | _ => cases h
  case store t a x =>
    simp only [compOp] at hc
    obtain ⟨_, _, a1⟩ := ob_some.1 hc
    cases a1
  case next x b => cases b <;> cases hc
  all_goals cases hc
/-- A call of a value. -/
theorem callVal_ok {call : CallT} (hk : CallOk P T call) {g : G} {h h' : H} {w : World} (r : WR T g h w) (hG : Glob T g h) {fv : V} {vs : List V} {fu : Value} {us : List Value} {v : V} (hf : VR g fv fu) (hv : VRs g vs us) (hr : callVal call (fv :: vs) h = some (v, h')) :
    ∃ d, (∀ w, (Deferred.ofValue fu us.toArray).run P w = .ok d w) ∧ ((∃ (f : FuncId) (us' : Array Value), (∀ w, (invoke d.target d.args).run P w = .ok (.enter f us') w) ∧ CallsIn Fence.wide 0 P f us' w (Post T g h w v h')) ∨
      ∃ (b : Nat) (l : Loop) (tmps : Array Value), (invoke d.target d.args).run P w = .ok (.round b l.fn tmps l.assign l.body) w ∧ RoundIn Fence.wide 0 P b l.fn tmps l.assign l.body w (Post T g h w v h')) := by
  cases fv with
  | func fn first captured =>
    cases fn <;> first | (cases hr; done) | skip
    rename_i f
    have hr' : call (.fn f) (first ++ (vs ++ captured)) h = some (v, h') := hr
    cases hf with
    | func ha hb =>
      rename_i x y
      obtain ⟨fn, k1, k2, k3, k4⟩ := hk.fn _ _ _ _ _ hr' g w _ r hG (ha.append (hv.append hb))
      refine ⟨⟨.fn (.func f) y.toArray, x.toArray ++ us.toArray⟩, fun w => by simp [Deferred.ofValue], .inl ⟨f, (x ++ (us ++ y)).toArray, fun w => ?_, k4⟩⟩
      have he : x.toArray ++ us.toArray ++ y.toArray = (x ++ (us ++ y)).toArray := by simp
      simp only [invoke, he]
      have hb : ¬ fn.body = none := fun e => by rw [e] at k3; cases k3
      simp [callFunc, k1, k2, hb]
  | yld id =>
    have hr' : call (.yld id) vs h = some (v, h') := hr
    cases hf with
    | yld hg =>
      rename_i b o z
      obtain ⟨l, tmps, k1, k2⟩ := hk.yld _ _ _ _ _ hr' g w _ r hG hv b o z hg
      refine ⟨⟨.fn (.yield b) #[], #[] ++ us.toArray⟩, fun w => by simp [Deferred.ofValue], .inr ⟨b, l, tmps, ?_, k2⟩⟩
      simp only [invoke]
      simpa using k1
  | _ => cases hr
/-- A call of a function value that is no round. -/
theorem callVal_fn {call : CallT} (hk : CallOk P T call) {g : G} {h h' : H} {w : World} (r : WR T g h w) (hG : Glob T g h) {fv : V} {vs : List V} {fu : Value} {us : List Value} {v : V} (hfn : fnOnly fv = true) (hf : VR g fv fu) (hv : VRs g vs us) (hr : callVal call (fv :: vs) h = some (v, h')) :
    ∃ d, (∀ w, (Deferred.ofValue fu us.toArray).run P w = .ok d w) ∧ ∃ (f : FuncId) (us' : Array Value), (∀ w, (invoke d.target d.args).run P w = .ok (.enter f us') w) ∧ CallsIn Fence.wide 0 P f us' w (Post T g h w v h') := by
  cases fv with
  | func fn first captured =>
    cases fn <;> first | (cases hr; done) | skip
    rename_i f
    have hr' : call (.fn f) (first ++ (vs ++ captured)) h = some (v, h') := hr
    cases hf with
    | func ha hb =>
      rename_i x y
      obtain ⟨fn, k1, k2, k3, k4⟩ := hk.fn _ _ _ _ _ hr' g w _ r hG (ha.append (hv.append hb))
      refine ⟨⟨.fn (.func f) y.toArray, x.toArray ++ us.toArray⟩, fun w => by simp [Deferred.ofValue], f, (x ++ (us ++ y)).toArray, fun w => ?_, k4⟩
      have he : x.toArray ++ us.toArray ++ y.toArray = (x ++ (us ++ y)).toArray := by simp
      simp only [invoke, he]
      have hb : ¬ fn.body = none := fun e => by rw [e] at k3; cases k3
      simp [callFunc, k1, k2, hb]
  | _ => cases hfn
/-- An operation, as the compiled one has it. -/
theorem step_op (hT : TyOk P T) {call : CallT} (hk : CallOk P T call) {g : G} {h h' : H} {w : World} (r : WR T g h w) (hG : Glob T g h) {o : Oper} {c : COp} {os : List Operand} {a : Act} (hc : compOp T o.op = some (c, os)) {vs : List V} {v : V} (hv : VRs g vs (os.map a.eval))
    (hr : c.run call vs h = some (v, h')) {rd : Option Nat} {K : Act → World → Prop} {Q : Exit → Act → World → Prop} (hK : ∀ g' w' u, Ext T g h w g' h' w' → VR g' v u → K (a.put o.dst u) w') : o.wpIn (fen rd) 0 P a w K Q := by
  refine ⟨fun _ _ => trivial, ?_⟩
  rw [Oper.semAt_eq _ _ _ (compOp_defer hc)]
  cases c with
  | p po =>
    obtain ⟨u, e1, e2⟩ := ob_some.1 (show ob (po.run vs) (fun v => some (v, h)) = some (v, h') from hr)
    cases e2
    obtain ⟨x, k1, k2⟩ := P_ok hT hc hv e1
    rw [k2 w o rfl, Oper.uponIn_value]
    exact hK g w x (.refl r) k1
  | r ro =>
    obtain ⟨u, e1, e2⟩ := ob_some.1 (show ob (ro.run vs h) (fun v => some (v, h)) = some (v, h') from hr)
    cases e2
    obtain ⟨x, k1, k2⟩ := R_ok hT r hc hv e1
    rw [k2 o rfl, Oper.uponIn_value]
    exact hK g w x (.refl r) k1
  | a ao =>
    obtain ⟨p, e1, e2⟩ := ob_some.1 (show ob (ao.run vs) (fun r => ob (h.new r.1) fun h' => some (r.2 h.next, h')) = some (v, h') from hr)
    obtain ⟨h1, e3, e4⟩ := ob_some.1 e2
    cases e4
    obtain ⟨blk, mk⟩ := p
    have hm := A_ok (P := P) hT hc hv e1
    obtain ⟨obj, z, val, m1, m2, m3⟩ := hm.make
    have hnone : g h.next = none := by
      cases e : g h.next with
      | none => rfl
      | some x => exact absurd (r.dom _ _ e) (by omega)
    have hle := gput_le (g := g) (w.heap.size, 0, z) hnone
    rw [m1 w o rfl, Oper.uponIn_value]
    exact hK _ _ _ (Ext.new r e3 hm.kin (m3 _ _ _ _ hle (gput_same _ _ _) (heap_alloc_new w obj))) (m2 _ _ _ hle (gput_same _ _ _))
  | e eo =>
    obtain ⟨g', w', u, x1, x2, x3⟩ := E_ok hT r hc hv hr
    rcases x3 o rfl with x4 | ⟨x4, hu⟩
    · rw [x4, Oper.uponIn_value]
      exact hK g' w' u x1 x2
    · subst hu
      rw [x4, Oper.uponIn_skip]
      exact hK g' w' undef x1 x2
  | call f =>
    have hr' : call (.fn f) vs h = some (v, h') := hr
    obtain ⟨args, at', he, ho⟩ : ∃ args at', o.op = .call ⟨.value (.func f), args, at'⟩ ∧ os = args.toList := by
      exact compOp_call hc
    subst ho
    obtain ⟨fn, k1, k2, k3, k4⟩ := hk.fn _ _ _ _ _ hr' g w _ r hG hv
    have hrun : (execOp a.eval o).run P w = .ok (.enter f (args.map a.eval)) w := by
      have hb : ¬ fn.body = none := fun e => by rw [e] at k3; cases k3
      simp [execOp, he, resolve, Act.eval, Deferred.ofValue, invoke, callFunc, k1, k2, hb]
    have ha : (args.toList.map a.eval).toArray = args.map a.eval := by apply Array.ext'; simp
    rw [ha] at k4
    rw [hrun, Oper.uponIn_enter]
    refine ⟨fen_depth rd, callsIn_fen (k4.mono ?_)⟩
    rintro e w' ⟨g', u, rfl, hu, hx⟩
    exact hK g' w' u hx hu
  | callv =>
    obtain ⟨x, args, at', he, ho⟩ : ∃ x args at', o.op = .call ⟨.value x, args, at'⟩ ∧ os = x :: args.toList := by
      exact compOp_callv hc
    subst ho
    cases hv with
    | cons hf hv =>
      rename_i fv vs
      have hr' : callVal call (fv :: vs) h = some (v, h') := hr
      obtain ⟨d, k1, k2⟩ := callVal_ok hk r hG hf hv hr'
      have ha : (args.toList.map a.eval).toArray = args.map a.eval := by apply Array.ext'; simp
      rw [ha] at k1
      rcases k2 with ⟨f, us', m1, m2⟩ | ⟨b, l, tmps, m1, m2⟩
      · have hrun : (execOp a.eval o).run P w = .ok (.enter f us') w := by
          simp [execOp, he, resolve, k1, m1]
        rw [hrun, Oper.uponIn_enter]
        refine ⟨fen_depth rd, callsIn_fen (m2.mono ?_)⟩
        rintro e w' ⟨g', u, rfl, hu, hx⟩
        exact hK g' w' u hx hu
      · have hrun : (execOp a.eval o).run P w = .ok (.round b l.fn tmps l.assign l.body) w := by
          simp [execOp, he, resolve, k1, m1]
        rw [hrun, Oper.uponIn_round]
        refine ⟨fen_depth rd, roundIn_fen (m2.mono ?_)⟩
        rintro e w' ⟨g', u, rfl, hu, hx⟩
        exact hK g' w' u hx hu
end
end Ev
end Go.Proofs.YtogbcielgfidlaaGreatDoor
namespace Go.Proofs.YtogbcielgfidlaaGreatDoor
set_option linter.unusedVariables false
set_option linter.unusedSimpArgs false
namespace Ev
variable [Opq]
set_option linter.unusedSectionVars false
section
variable {P : Program} {T : Ty} {m N : Nat}

theorem lk_cons (p : Nat × V) (l : AL) (t : Nat) : lk (p :: l) t = if p.1 = t then some p.2 else lk l t := by
  show Bool.rec (motive := fun _ => Option V) (lk l t) (some p.2) (Nat.beq p.1 t) = _
  simp only [brec_eq, Nat.beq_eq]
theorem upd_cons (p : Nat × V) (l : AL) (t : Nat) (v : V) : upd (p :: l) t v = if p.1 = t then (t, v) :: l else p :: upd l t v := by
  show Bool.rec (motive := fun _ => AL) (p :: upd l t v) ((t, v) :: l) (Nat.beq p.1 t) = _
  simp only [brec_eq, Nat.beq_eq]
theorem lk_upd (l : AL) (t : Nat) (v : V) (s : Nat) : lk (upd l t v) s = if s = t then some v else lk l s := by
  induction l with
  | nil =>
    show lk [(t, v)] s = _
    rw [lk_cons]
    by_cases h : t = s
    · simp [h]
    · rw [if_neg h, if_neg (fun e => h e.symm)]
  | cons p l ih =>
    rw [upd_cons]
    by_cases h : p.1 = t
    · rw [if_pos h, lk_cons, lk_cons]
      by_cases h2 : t = s
      · simp [h2]
      · rw [if_neg h2, if_neg (fun e => h2 e.symm), if_neg (by omega)]
    · rw [if_neg h, lk_cons, lk_cons, ih]
      by_cases h2 : p.1 = s
      · rw [if_pos h2, if_neg (by omega), if_pos h2]
      · rw [if_neg h2, if_neg h2]
theorem rdn_put {o : Option Tmp} {d : Dst} (hd : dst m N o = some d) (f : F) (v : V) (s : Nat) : rdn m (d.put f v) s = if o = some s then some v else rdn m f s := by
  cases o with
  | none => cases hd; simp [Dst.put]
  | some t =>
    obtain ⟨h1, h2⟩ := oif_some.1 (show oif (Nat.blt t N) (some (Bool.rec (motive := fun _ => Dst) (.t t) (.l t) (bit m t))) = some d from hd)
    cases h2
    cases hb : bit m t with
    | true =>
      show rdn m ⟨upd f.loc t v, f.tmp⟩ s = _
      unfold rdn
      by_cases hs : bit m s = true
      · rw [if_pos hs, if_pos hs, lk_upd]
        by_cases e : s = t
        · simp [e]
        · rw [if_neg e, if_neg (fun h => e (Option.some.inj h).symm)]
      · rw [if_neg hs, if_neg hs, if_neg]
        intro e
        cases e
        exact hs hb
    | false =>
      show rdn m ⟨f.loc, (t, v) :: f.tmp⟩ s = _
      unfold rdn
      by_cases hs : bit m s = true
      · rw [if_pos hs, if_pos hs, if_neg]
        intro e
        cases e
        rw [hb] at hs
        cases hs
      · rw [if_neg hs, if_neg hs, lk_cons]
        by_cases e : t = s
        · simp [e]
        · rw [if_neg e, if_neg (fun h => e (Option.some.inj h))]
theorem dst_lt {t : Tmp} {d : Dst} (hd : dst m N (some t) = some d) : t < N := by
  obtain ⟨h1, _⟩ := oif_some.1 (show oif (Nat.blt t N) (some (Bool.rec (motive := fun _ => Dst) (.t t) (.l t) (bit m t))) = some d from hd)
  simpa using h1
theorem put_tmps (a : Act) (o : Option Tmp) (u : Value) (s : Nat) : (a.put o u).tmps[s]? = if o = some s ∧ s < a.tmps.size then some u else a.tmps[s]? := by
  cases o with
  | none => simp [Act.put]
  | some t =>
    show (a.tmps.setIfInBounds t u)[s]? = _
    rw [Array.getElem?_setIfInBounds]
    by_cases e : t = s
    · subst e
      by_cases h : t < a.tmps.size
      · simp [h]
      · simp [h]
    · simp [e]
theorem put_size (a : Act) (o : Option Tmp) (u : Value) : (a.put o u).tmps.size = a.tmps.size := by
  cases o <;> simp [Act.put]
theorem put_defers (a : Act) (o : Option Tmp) (u : Value) : (a.put o u).defers = a.defers := by
  cases o <;> rfl
theorem FR.put {g : G} {f : F} {a : Act} {o : Option Tmp} {d : Dst} {v : V} {u : Value} (h : FR g m N f a.tmps) (hd : dst m N o = some d) (hv : VR g v u) : FR g m N (d.put f v) (a.put o u).tmps := by
  refine ⟨by rw [put_size]; exact h.1, fun s x e => ?_⟩
  rw [rdn_put hd] at e
  rw [put_tmps]
  by_cases ho : o = some s
  · rw [if_pos ho] at e
    cases e
    subst ho
    refine ⟨u, ?_, hv⟩
    rw [if_pos ⟨rfl, by rw [h.1]; exact dst_lt hd⟩]
  · rw [if_neg ho] at e
    rw [if_neg (fun h => ho h.1)]
    exact h.2 s x e
theorem opd_ev {t : Nat} {od : Opd} (h : opd T m (.tmp t) = some od) (f : F) : od.ev f = rdn m f t := by
  cases h
  show Opd.ev f (Bool.rec (motive := fun _ => Opd) (.t t) (.l t) (bit m t)) = _
  unfold rdn
  cases hb : bit m t <;> rfl
theorem pinOf_mem {b k : Nat} : ∀ {l : List (Nat × Nat × Nat × Tr V)}, pinOf b l = some k → ∃ p, p ∈ l ∧ p.1 = k ∧ p.2.1 = b ∧ p.1 < 8
  | p :: l, e => by
    unfold pinOf at e
    by_cases hp : p.2.1 = b
    · rw [if_pos hp] at e
      by_cases h8 : p.1 < 8
      · rw [if_pos h8] at e
        exact ⟨p, List.mem_cons_self, Option.some.inj e, hp, h8⟩
      · rw [if_neg h8] at e
        cases e
    · rw [if_neg hp] at e
      obtain ⟨q, h1, h2⟩ := pinOf_mem e
      exact ⟨q, List.mem_cons_of_mem _ h1, h2⟩
theorem opd_ok {g : G} {h0 : H} (hG : Glob T g h0) {o : Operand} {od : Opd} {f : F} {a : Act} {v : V} (h : opd T m o = some od) (hv : od.ev f = some v) (hn : ∀ t, o = .tmp t → ∀ v, rdn m f t = some v → ∃ u, a.tmps[t]? = some u ∧ VR g v u) : VR g v (a.eval o) := by
  cases o with
  | tmp t =>
    rw [opd_ev h] at hv
    obtain ⟨u, h1, h2⟩ := hn t rfl v hv
    simpa [Act.eval, Array.getD_eq_getD_getElem?, h1] using h2
  | const c =>
    obtain ⟨x, h1, h2⟩ := ob_some.1 (show ob (ofValue c) (fun v => some (Opd.c v)) = some od from h)
    cases h2
    cases hv
    exact ofValue_ok h1
  | global i =>
    obtain ⟨k, h1, h2⟩ := ob_some.1 (show ob (pinOf i T.pin) (fun k => some (Opd.c (.ptr k 0))) = some od from h)
    cases h2
    cases hv
    obtain ⟨p, hp, rfl, rfl, h8⟩ := pinOf_mem h1
    obtain ⟨⟨z, hz⟩, _⟩ := hG.at0 hp h8
    have := VR.ptr (off := 0) hz
    exact this
  | func i =>
    cases h
    cases hv
    exact VR.func .nil .nil
theorem evs_cons (f : F) (o : Opd) (l : List Opd) : evs f (o :: l) = ob (o.ev f) fun v => ob (evs f l) fun vs => some (v :: vs) := rfl
theorem mapO_cons {α β : Type} (f : α → Option β) (a : α) (l : List α) : mapO f (a :: l) = ob (f a) fun b => ob (mapO f l) fun r => some (b :: r) := rfl
theorem evs_ok {g : G} {h0 : H} (hG : Glob T g h0) {f : F} {a : Act} : ∀ {os : List Operand} {args : List Opd} {vs : List V}, mapO (opd T m) os = some args → evs f args = some vs → (∀ t, .tmp t ∈ os → ∀ v, rdn m f t = some v → ∃ u, a.tmps[t]? = some u ∧ VR g v u) →
    VRs g vs (os.map a.eval)
  | [], args, vs, h, hv, _ => by
    cases h
    cases hv
    exact .nil
  | o :: os, args, vs, h, hv, hn => by
    rw [mapO_cons] at h
    obtain ⟨od, h1, h2⟩ := ob_some.1 h
    obtain ⟨r, h3, h4⟩ := ob_some.1 h2
    cases h4
    rw [evs_cons] at hv
    obtain ⟨v, h5, h6⟩ := ob_some.1 hv
    obtain ⟨ws, h7, h8⟩ := ob_some.1 h6
    cases h8
    exact .cons (opd_ok hG h1 h5 fun t e => hn t (by subst e; exact List.mem_cons_self)) (evs_ok hG h3 h7 fun t ht => hn t (List.mem_cons_of_mem _ ht))
/-- The parts of a compiled operation. -/
structure Parts (T : Ty) (m N : Nat) (ops : Array Oper) (o : Oper) (co : COper) : Prop where
  op : ∃ os, compOp T o.op = some (co.op, os) ∧ mapO (opd T m) os = some co.args
  dst : dst m N o.dst = some co.dst
  guard : (o.guard = none ∧ co.guard = none) ∨ ∃ i w t x, o.guard = some (i, w) ∧ gdOf ops i = some t ∧ opd T m (.tmp t) = some x ∧ co.guard = some (x, w)
theorem compOper_parts {ops : Array Oper} {o : Oper} {co : COper} (h : compOper T m N ops o = some co) : Parts T m N ops o co := by
  obtain ⟨c, h1, h2⟩ := ob_some.1 (show ob (compOp T o.op) _ = some co from h)
  obtain ⟨args, h3, h4⟩ := ob_some.1 h2
  obtain ⟨d, h5, h6⟩ := ob_some.1 h4
  obtain ⟨gd, h7, h8⟩ := ob_some.1 h6
  cases h8
  refine ⟨⟨c.2, h1, h3⟩, h5, ?_⟩
  cases hg : o.guard with
  | none => rw [hg] at h7; cases h7; exact .inl ⟨rfl, rfl⟩
  | some p =>
    obtain ⟨i, w⟩ := p
    rw [hg] at h7
    obtain ⟨t, k1, k2⟩ := ob_some.1 h7
    obtain ⟨x, k3, k4⟩ := ob_some.1 k2
    cases k4
    exact .inr ⟨i, w, t, x, rfl, k1, k3, rfl⟩
theorem guard_ok {g : G} {ops : Array Oper} {o : Oper} {co : COper} (hp : Parts T m N ops o co) {f : F} {a : Act} {b : Bool} (hg : guardOk f co.guard = some b)
    (hn : ∀ t, (∃ i w, o.guard = some (i, w) ∧ gdOf ops i = some t) → ∀ v, rdn m f t = some v → ∃ u, a.tmps[t]? = some u ∧ VR g v u) : Region.wanted o (yielded ops a.tmps) = b := by
  rcases hp.guard with ⟨h1, h2⟩ | ⟨i, w, t, x, h1, h2, h3, h4⟩
  · rw [h2] at hg
    cases hg
    simp [Region.wanted, h1]
  · rw [h4] at hg
    have hg : wants (x.ev f) w = some b := hg
    rw [opd_ev h3] at hg
    have h2' : (ops[i]?).bind (·.dst) = some t := h2
    have hy : ∀ u, a.tmps[t]? = some u → yielded ops a.tmps i = (match u with | .bool b => some b | _ => none) := by
      intro u hu
      unfold yielded
      rw [h2']
      simp only [Option.bind_some, hu]
      cases u <;> rfl
    cases hv : rdn m f t with
    | none => rw [hv] at hg; cases hg
    | some v =>
      rw [hv] at hg
      obtain ⟨u, k1, k2⟩ := hn t ⟨i, w, h1, h2⟩ v hv
      unfold Region.wanted
      rw [h1]
      simp only
      rw [hy u k1]
      cases v with
      | bool c =>
        have hg : some (beqB c w) = some b := hg
        cases hg
        rw [k2.bool_inv, beqB_eq]
        simp
      | tup l =>
        cases l with
        | nil =>
          cases hg
          cases k2 with
          | tup k2 => cases k2; rfl
        | cons => cases hg
      | _ => cases hg
theorem runOps_cons (call : CallT) (o : COper) (l : List COper) (f : F) (h : H) : runOps call (o :: l) f h = ob (o.run call f h) fun r => runOps call l r.1 r.2 := rfl
theorem coper_run {call : CallT} {co : COper} {f : F} {h : H} {r : F × H} (e : co.run call f h = some r) :
    (guardOk f co.guard = some false ∧ r = (co.dst.put f undefV, h)) ∨ ∃ vs v h', guardOk f co.guard = some true ∧ evs f co.args = some vs ∧ co.op.run call vs h = some (v, h') ∧ r = (co.dst.put f v, h') := by
  obtain ⟨b, h1, h2⟩ := ob_some.1 (show ob (guardOk f co.guard) _ = some r from e)
  cases b with
  | false => cases h2; exact .inl ⟨h1, rfl⟩
  | true =>
    obtain ⟨vs, h3, h4⟩ := ob_some.1 h2
    obtain ⟨p, h5, h6⟩ := ob_some.1 h4
    cases h6
    exact .inr ⟨vs, p.1, p.2, h1, h3, h5, rfl⟩
theorem reg_ok (hT : TyOk P T) {call : CallT} (hk : CallOk P T call) {ops : Array Oper} {rd : Option Nat} {Q : Exit → Act → World → Prop} : ∀ (suf : List Oper) (k : Nat) (cl : List COper) (f f' : F) (h h' : H) (g : G) (a : Act) (w : World),
    (∀ i, i < suf.length → ops[k + i]? = suf[i]?) → mapO (compOper T m N ops) suf = some cl → runOps call cl f h = some (f', h') → WR T g h w → Glob T g h → FR g m N f a.tmps →
    (∀ g' a' w', Ext T g h w g' h' w' → FR g' m N f' a'.tmps → a'.defers = a.defers → Q .normal a' w') → wpOpsIn (fen rd) 0 P ops Q (List.range' k suf.length) a w := by
  intro suf
  induction suf with
  | nil =>
    intro k cl f f' h h' g a w _ hc hr r hG hf hQ
    cases hc
    cases hr
    exact hQ g a w (.refl r) hf rfl
  | cons o suf ih =>
    intro k cl f f' h h' g a w hidx hc hr r hG hf hQ
    rw [mapO_cons] at hc
    obtain ⟨co, h1, h2⟩ := ob_some.1 hc
    obtain ⟨cl', h3, h4⟩ := ob_some.1 h2
    cases h4
    rw [runOps_cons] at hr
    obtain ⟨q, h5, h6⟩ := ob_some.1 hr
    have hp := compOper_parts h1
    have ho : ops[k]? = some o := by have := hidx 0 (by simp); simpa using this
    have hidx' : ∀ i, i < suf.length → ops[k + 1 + i]? = suf[i]? := fun i hi => by
      have := hidx (i + 1) (by simp; omega)
      rw [show k + 1 + i = k + (i + 1) by omega]
      simpa using this
    rw [List.length_cons, List.range'_succ, wpOpsIn_cons]
    unfold wpOpIn
    simp only [ho]
    rcases coper_run h5 with ⟨e1, rfl⟩ | ⟨vs, v, h'', e1, e2, e3, rfl⟩
    · rw [guard_ok hp e1 (fun t _ v hv => hf.2 t v hv)]
      refine ⟨fun _ _ => trivial, ?_⟩
      refine ih (k + 1) cl' _ f' h h' g _ w hidx' h3 h6 r hG (hf.put hp.dst undef_vr) fun g' a' w' x1 x2 x3 => hQ g' a' w' x1 x2 (x3.trans (put_defers _ _ _))
    · rw [guard_ok hp e1 (fun t _ v hv => hf.2 t v hv)]
      obtain ⟨os, k1, k2⟩ := hp.op
      refine step_op hT hk r hG k1 (evs_ok hG k2 e2 fun t _ v hv => hf.2 t v hv) e3 fun g1 w1 u x1 x2 => ?_
      refine ih (k + 1) cl' _ f' h'' h' g1 _ w1 hidx' h3 h6 x1.wr (hG.ext x1) ((hf.mono x1.le).put hp.dst x2) fun g' a' w' y1 y2 y3 => hQ g' a' w' (x1.trans y1) y2 (y3.trans (put_defers _ _ _))
end
end Ev
end Go.Proofs.YtogbcielgfidlaaGreatDoor
