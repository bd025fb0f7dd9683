/-
  All operations that make or write memory, together.
-/
import Derived.Test.YtbfkbabolhhbaaaGreatDoorEvAppend
namespace Go.Proofs.YtbfkbabolhhbaaaGreatDoor
namespace Ev
variable [Opq]
set_option linter.unusedSectionVars false
section
variable {P : Program} {T : Ty} {g : G} {ρ : Operand → Value} {h : H} {w : World}

theorem E_ok (hT : TyOk P T) (r : WR T g h w) {op : Op} {eo : EOp} {os : List Operand} (hc : compOp T op = some (.e eo, os)) {vs : List V} {v : V} {h' : H} (hv : VRs g vs (os.map ρ)) (hr : eo.run vs h = some (v, h')) : Eff P T g h w ρ op v h' := by
  cases op
  case store t a x =>
    simp only [compOp] at hc
    obtain ⟨n, h1, h2⟩ := ob_some.1 hc
    cases h2
    obtain ⟨p, q, rfl, ha, hb⟩ := hv.two
    exact eff_store hT r h1 ha hb hr
  case insert t m k x =>
    simp only [compOp] at hc
    obtain ⟨d, h1, h2⟩ := ob_some.1 hc
    cases d with
    | map kt e =>
      obtain ⟨kk, h3, h4⟩ := ob_some.1 h2
      cases h4
      obtain ⟨a, b, c, rfl, ha, hb, hcc⟩ := hv.three
      obtain ⟨g', w', x1, x2, x3⟩ := eff_mapup hT r h1 h3 ha hb hcc hr
      exact ⟨g', w', undef, x1, x2, fun o e => .inr ⟨by simp [execOp, e, x3], rfl⟩⟩
    | _ => cases h2
  case mapUpdate t m k x =>
    simp only [compOp] at hc
    obtain ⟨d, h1, h2⟩ := ob_some.1 hc
    cases d with
    | map kt e =>
      obtain ⟨kk, h3, h4⟩ := ob_some.1 h2
      cases h4
      obtain ⟨a, b, c, rfl, ha, hb, hcc⟩ := hv.three
      obtain ⟨g', w', x1, x2, x3⟩ := eff_mapup hT r h1 h3 ha hb hcc hr
      exact ⟨g', w', undef, x1, x2, fun o e => .inr ⟨by simp [execOp, e, x3], rfl⟩⟩
    | _ => cases h2
  case mapEntry t m k =>
    simp only [compOp] at hc
    obtain ⟨d, h1, h2⟩ := ob_some.1 hc
    cases d with
    | map kt e =>
      obtain ⟨kk, h3, h4⟩ := ob_some.1 h2
      obtain ⟨z, h5, h6⟩ := ob_some.1 h4
      cases h6
      obtain ⟨a, b, rfl, ha, hb⟩ := hv.two
      obtain ⟨g', w', u, x1, x2, x3⟩ := eff_mapent hT r h1 h3 h5 ha hb hr
      exact ⟨g', w', u, x1, x2, fun o e => .inl (by simp [execOp, e, x3])⟩
    | _ => cases h2
  case entryStore t m s x =>
    cases hc
    obtain ⟨a, b, c, rfl, ha, hb, hcc⟩ := hv.three
    obtain ⟨g', w', x1, x2, x3⟩ := eff_entst (P := P) (t := t) r ha hb hcc hr
    exact ⟨g', w', undef, x1, x2, fun o e => .inr ⟨by simp [execOp, e, x3], rfl⟩⟩
  case next x b =>
    cases b with
    | false =>
      cases hc
      obtain ⟨a, rfl, ha⟩ := hv.one
      exact eff_nextM r ha hr
    | true =>
      cases hc
      obtain ⟨a, rfl, ha⟩ := hv.one
      exact eff_nextS r ha hr
  case call c =>
    obtain ⟨callee, args, argTypes⟩ := c
    simp only [compOp] at hc
    cases callee with
    | value x => cases x <;> first | (cases hc; done) | (rename_i v; cases v <;> first | (cases hc; done) | (rename_i f _ _; cases f <;> cases hc))
    | invoke r m => cases hc
    | builtin b =>
      obtain ⟨t, h1, h2⟩ := ob_some.1 hc
      obtain ⟨d, h3, h4⟩ := ob_some.1 h2
      have h1' : argTypes[0]? = some t := by rw [nthL_eq] at h1; simpa using h1
      cases b
      case len =>
        cases d <;> cases h4
      case append =>
        cases d with
        | slice e =>
          obtain ⟨n, k1, a1⟩ := ob_some.1 h4
          obtain ⟨i, k2, a2⟩ := ob_some.1 a1
          obtain ⟨z, k3, a3⟩ := ob_some.1 a2
          obtain ⟨k4, a4⟩ := oif_some.1 a3
          obtain ⟨u, k5, a5⟩ := ob_some.1 a4
          obtain ⟨du, k6, a6⟩ := ob_some.1 a5
          have h5 : argTypes[1]? = some u := by rw [nthL_eq] at k5; simpa using k5
          simp only [Bool.and_eq_true, Nat.blt_eq, Nat.beq_eq, lenL_eq] at k4
          split at a6
          · cases a6
            exact eff_append hT r h1' h3 k1 k2 k3 k4.1 k4.2.1 k4.2.2 h5 k6 (.inl ⟨_, rfl, rfl⟩) hv hr
          · cases a6
            exact eff_append hT r h1' h3 k1 k2 k3 k4.1 k4.2.1 k4.2.2 h5 k6 (.inr ⟨rfl, rfl⟩) hv hr
          · cases a6
        | _ => cases h4
      case copy =>
        cases d with
        | slice e =>
          obtain ⟨n, k1, a1⟩ := ob_some.1 h4
          cases a1
          exact eff_copy hT r h1' h3 k1 hv hr
        | _ => cases h4
      case clear =>
        cases d with
        | slice e =>
          obtain ⟨n, k1, a1⟩ := ob_some.1 h4
          obtain ⟨z, k2, a2⟩ := ob_some.1 a1
          cases a2
          exact eff_clear hT r h1' h3 k2 hv hr
        | _ => cases h4
      case delete =>
        cases d with
        | map k e =>
          obtain ⟨kk, k1, a1⟩ := ob_some.1 h4
          cases a1
          exact eff_delete hT r h1' h3 k1 hv hr
        | _ => cases h4
      all_goals (cases d <;> cases h4)
  case alloc t =>
    simp only [compOp] at hc
    obtain ⟨z, h1, h⟩ := ob_some.1 hc
    cases h
  case buildSlice t n ps =>
    simp only [compOp] at hc
    obtain ⟨d, _, h⟩ := ob_some.1 hc
    cases d with
    | slice e =>
      obtain ⟨_, _, a1⟩ := ob_some.1 h
      obtain ⟨_, _, a2⟩ := ob_some.1 a1
      obtain ⟨_, a3⟩ := oif_some.1 a2
      cases a3
    | _ => cases h
  case makeMap t r =>
    simp only [compOp] at hc
    obtain ⟨d, _, h⟩ := ob_some.1 hc
    cases d <;> cases h
  case makeSlice t l c =>
    simp only [compOp] at hc
    obtain ⟨d, _, h⟩ := ob_some.1 hc
    cases d with
    | slice e =>
      obtain ⟨_, _, a1⟩ := ob_some.1 h
      obtain ⟨_, _, a2⟩ := ob_some.1 a1
      obtain ⟨_, _, a3⟩ := ob_some.1 a2
      obtain ⟨_, a4⟩ := oif_some.1 a3
      cases a4
    | _ => cases h
  case range t x =>
    simp only [compOp] at hc
    obtain ⟨d, h1, h⟩ := ob_some.1 hc
    cases d <;> cases h
    obtain ⟨a, rfl, ha⟩ := hv.one
    exact eff_rangeM hT r h1 ha hr
  case load t x =>
    simp only [compOp] at hc
    obtain ⟨b, h1, h2⟩ := ob_some.1 hc
    obtain ⟨n, h3, h4⟩ := ob_some.1 h2
    cases h4
  case lookup t x k ok =>
    simp only [compOp] at hc
    obtain ⟨d, h1, h2⟩ := ob_some.1 hc
    cases d with
    | map kt e =>
      obtain ⟨kk, h3, h4⟩ := ob_some.1 h2
      obtain ⟨z, h5, h6⟩ := ob_some.1 h4
      cases h6
    | _ => cases h2
  case binOp op t x y t' =>
    have eq2 : ∀ {neg cst : Bool} {d : TypeDesc}, eqOp T t neg cst d = some (.e eo) → False := by
      intro neg cst d h2
      cases d with
      | interface e => obtain ⟨h4, h5⟩ := oif_some.1 h2; cases h5
      | pointer e => obtain ⟨k, h4, h5⟩ := ob_some.1 h2; cases h5
      | struct fs => obtain ⟨k, h4, h5⟩ := ob_some.1 h2; cases h5
      | _ => cases h2
    cases op
    case eql =>
      simp only [compOp] at hc
      obtain ⟨d, h1, h2⟩ := ob_some.1 hc
      obtain ⟨c, h3, h4⟩ := ob_some.1 h2
      cases h4
      exact (eq2 (neg := false) h3).elim
    case neq =>
      simp only [compOp] at hc
      obtain ⟨d, h1, h2⟩ := ob_some.1 hc
      obtain ⟨c, h3, h4⟩ := ob_some.1 h2
      cases h4
      exact (eq2 (neg := true) h3).elim
    all_goals cases hc
  case build t ps =>
    simp only [compOp] at hc
    obtain ⟨z, h1, h2⟩ := ob_some.1 hc
    obtain ⟨d, h3, h4⟩ := ob_some.1 h2
    cases d with
    | struct fs =>
      obtain ⟨pl, h5, h6⟩ := ob_some.1 h4
      obtain ⟨l, h7, h8⟩ := ob_some.1 h6
      cases h8
    | array k e =>
      obtain ⟨n, h5, h6⟩ := ob_some.1 h4
      cases h6
    | _ => cases h4
  case convert s d x =>
    simp only [compOp] at hc
    obtain ⟨a, h1, h2⟩ := ob_some.1 hc
    obtain ⟨b, h3, h4⟩ := ob_some.1 h2
    cases a <;> cases b <;> first | (cases h4; done) | (cases (b2sOp_some h4).1)
  case makeInterface t x =>
    simp only [compOp] at hc
    obtain ⟨d, h1, h2⟩ := ob_some.1 hc
    cases d <;> cases h2
  case makeFunc fn a b => cases fn <;> cases hc
  case slice t x lo hi mx =>
    simp only [compOp] at hc
    obtain ⟨d, _, h⟩ := ob_some.1 hc
    cases d with
    | string => cases h
    | slice e => obtain ⟨_, _, a1⟩ := ob_some.1 h; cases a1
    | array k e => obtain ⟨_, _, a1⟩ := ob_some.1 h; cases a1
    | _ => cases h
  case fieldAddr t x i =>
    simp only [compOp] at hc
    obtain ⟨d, _, h⟩ := ob_some.1 hc
    cases d with
    | struct fs =>
      obtain ⟨_, _, a1⟩ := ob_some.1 h
      obtain ⟨_, _, a2⟩ := ob_some.1 a1
      cases a2
    | _ => cases h
  case field t x i =>
    simp only [compOp] at hc
    obtain ⟨d, _, h⟩ := ob_some.1 hc
    cases d with
    | struct fs =>
      obtain ⟨_, _, a1⟩ := ob_some.1 h
      obtain ⟨_, _, a2⟩ := ob_some.1 a1
      obtain ⟨_, _, a3⟩ := ob_some.1 a2
      cases a3
    | _ => cases h
  case indexAddr t x i =>
    simp only [compOp] at hc
    obtain ⟨d, _, h⟩ := ob_some.1 hc
    cases d with
    | slice e => obtain ⟨_, _, a1⟩ := ob_some.1 h; cases a1
    | array k e => obtain ⟨_, _, a1⟩ := ob_some.1 h; cases a1
    | _ => cases h
  case index t x i =>
    simp only [compOp] at hc
    obtain ⟨d, _, h⟩ := ob_some.1 hc
    cases d with
    | string => cases h
    | array k e =>
      obtain ⟨_, _, a1⟩ := ob_some.1 h
      obtain ⟨_, _, a2⟩ := ob_some.1 a1
      cases a2
    | _ => cases h
  all_goals cases hc
end
end Ev
end Go.Proofs.YtbfkbabolhhbaaaGreatDoor
