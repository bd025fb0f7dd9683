/-
  All operations that read memory.
-/
import Derived.Test.YtbfkbabolhhbaaaGreatDoorEvRead
namespace Go.Proofs.YtbfkbabolhhbaaaGreatDoor
namespace Ev
variable [Opq]
set_option linter.unusedSectionVars false
section
variable {P : Program} {T : Ty} {g : G} {ρ : Operand → Value} {h : H} {w : World}

theorem R_ok (hT : TyOk P T) (r : WR T g h w) {op : Op} {ro : ROp} {os : List Operand} (hc : compOp T op = some (.r ro, os)) {vs : List V} {v : V} (hv : VRs g vs (os.map ρ)) (hr : ro.run vs h = some v) : ∃ u, VR g v u ∧ GivesAt P ρ w op u := by
  cases op
  case load t x =>
    simp only [compOp] at hc
    obtain ⟨b, h1, h2⟩ := ob_some.1 hc
    obtain ⟨n, h3, h4⟩ := ob_some.1 h2
    cases h4
    obtain ⟨u, k1, _, k3⟩ := gives_load hT r h1 h3 hv hr
    exact ⟨u, k1, k3⟩
  case binOp op t x y t' =>
    have eq2 : ∀ {neg cst : Bool} {d : TypeDesc}, T.under t = some d → eqOp T t neg cst d = some (.r ro) → os = [x, y] → ∃ u, VR g v u ∧ GivesAt P ρ w (.binOp (Bool.rec (motive := fun _ => BinOp) .eql .neq neg) t x y t') u := by
      intro neg cst d h1 h2 h3
      subst h3
      obtain ⟨a, b, rfl, ha, hb⟩ := hv.two
      cases d with
      | interface e => obtain ⟨h4, h5⟩ := oif_some.1 h2; cases h5
      | pointer e => obtain ⟨k, h4, h5⟩ := ob_some.1 h2; cases h5; exact gives_eq hT r h1 (.inl ⟨_, rfl⟩) h4 ha hb hr
      | struct fs => obtain ⟨k, h4, h5⟩ := ob_some.1 h2; cases h5; exact gives_eq hT r h1 (.inr ⟨_, rfl⟩) h4 ha hb hr
      | _ => cases h2
    cases op
    case eql =>
      simp only [compOp] at hc
      obtain ⟨d, h1, h2⟩ := ob_some.1 hc
      obtain ⟨c, h3, h4⟩ := ob_some.1 h2
      cases h4
      exact eq2 (neg := false) h1 h3 rfl
    case neq =>
      simp only [compOp] at hc
      obtain ⟨d, h1, h2⟩ := ob_some.1 hc
      obtain ⟨c, h3, h4⟩ := ob_some.1 h2
      cases h4
      exact eq2 (neg := true) h1 h3 rfl
    all_goals cases hc
  case lookup t x k ok =>
    simp only [compOp] at hc
    obtain ⟨d, h1, h2⟩ := ob_some.1 hc
    cases d with
    | map kt e =>
      obtain ⟨kk, h3, h4⟩ := ob_some.1 h2
      obtain ⟨z, h5, h6⟩ := ob_some.1 h4
      cases h6
      obtain ⟨a, b, rfl, ha, hb⟩ := hv.two
      exact gives_lookup hT r h1 h3 h5 ha hb hr
    | _ => cases h2
  case call c =>
    obtain ⟨callee, args, argTypes⟩ := c
    simp only [compOp] at hc
    cases callee with
    | value x => cases x <;> cases hc
    | invoke r m => cases hc
    | builtin b =>
      obtain ⟨t, h1, h2⟩ := ob_some.1 hc
      obtain ⟨d, h3, h4⟩ := ob_some.1 h2
      have h1' : argTypes[0]? = some t := by rw [nthL_eq] at h1; simpa using h1
      cases b
      case len =>
        cases d with
        | map k e =>
          cases h4
          have hone : ∃ a, vs = [a] := by
            cases vs with
            | nil => cases hr
            | cons a vs => cases vs with
              | nil => exact ⟨a, rfl⟩
              | cons b vs => cases a <;> cases hr
          obtain ⟨a, rfl⟩ := hone
          obtain ⟨x, hx⟩ : ∃ x, args.toList = [x] := by
            have := hv.length
            simp at this
            cases ha : args.toList with
            | nil => rw [← Array.length_toList, ha] at this; cases this
            | cons x l => cases l with
              | nil => exact ⟨x, rfl⟩
              | cons y l => rw [← Array.length_toList, ha] at this; simp at this
          rw [hx] at hv
          obtain ⟨a', e', h⟩ := hv.one
          cases e'
          obtain ⟨u, k1, k2⟩ := gives_lenMap hT r h1' h3 h hr
          have ha : args.map ρ = #[ρ x] := by apply Array.ext'; simp [hx]
          exact ⟨u, k1, fun o e => by simp [execOp, e, resolve, invoke, builtin, ha, k2]⟩
        | _ => cases h4
      case append =>
        cases d with
        | slice e =>
          obtain ⟨n, _, a1⟩ := ob_some.1 h4
          obtain ⟨_, _, a2⟩ := ob_some.1 a1
          obtain ⟨_, _, a3⟩ := ob_some.1 a2
          obtain ⟨_, a4⟩ := oif_some.1 a3
          obtain ⟨_, _, a5⟩ := ob_some.1 a4
          obtain ⟨_, _, a6⟩ := ob_some.1 a5
          split at a6 <;> cases a6
        | _ => cases h4
      case copy =>
        cases d with
        | slice e =>
          obtain ⟨n, _, a1⟩ := ob_some.1 h4
          cases a1
        | _ => cases h4
      case clear =>
        cases d with
        | slice e =>
          obtain ⟨n, _, a1⟩ := ob_some.1 h4
          obtain ⟨_, _, a2⟩ := ob_some.1 a1
          cases a2
        | _ => cases h4
      case delete =>
        cases d with
        | map k e =>
          obtain ⟨_, _, a1⟩ := ob_some.1 h4
          cases a1
        | _ => cases h4
      all_goals (cases d <;> cases h4)
  case alloc t =>
    simp only [compOp] at hc
    obtain ⟨_, _, h⟩ := ob_some.1 hc
    cases h
  case build t ps =>
    simp only [compOp] at hc
    obtain ⟨z, h1, h2⟩ := ob_some.1 hc
    obtain ⟨d, h3, h4⟩ := ob_some.1 h2
    cases d with
    | struct fs =>
      obtain ⟨pl, h5, h6⟩ := ob_some.1 h4
      obtain ⟨l, h7, h8⟩ := ob_some.1 h6
      cases h8
    | array k e =>
      obtain ⟨n, h5, h6⟩ := ob_some.1 h4
      cases h6
    | _ => cases h4
  case buildSlice t n ps =>
    simp only [compOp] at hc
    obtain ⟨d, _, h⟩ := ob_some.1 hc
    cases d with
    | slice e =>
      obtain ⟨_, _, a1⟩ := ob_some.1 h
      obtain ⟨_, _, a2⟩ := ob_some.1 a1
      obtain ⟨_, a3⟩ := oif_some.1 a2
      cases a3
    | _ => cases h
  case insert t m k x =>
    simp only [compOp] at hc
    obtain ⟨d, _, h⟩ := ob_some.1 hc
    cases d with
    | map k e =>
      obtain ⟨_, _, a1⟩ := ob_some.1 h
      cases a1
    | _ => cases h
  case mapEntry t m k =>
    simp only [compOp] at hc
    obtain ⟨d, _, h⟩ := ob_some.1 hc
    cases d with
    | map k e =>
      obtain ⟨_, _, a1⟩ := ob_some.1 h
      obtain ⟨_, _, a2⟩ := ob_some.1 a1
      cases a2
    | _ => cases h
  case mapUpdate t m k x =>
    simp only [compOp] at hc
    obtain ⟨d, _, h⟩ := ob_some.1 hc
    cases d with
    | map k e =>
      obtain ⟨_, _, a1⟩ := ob_some.1 h
      cases a1
    | _ => cases h
  case store t a x =>
    simp only [compOp] at hc
    obtain ⟨_, _, a1⟩ := ob_some.1 hc
    cases a1
  case convert s d x =>
    simp only [compOp] at hc
    obtain ⟨a, h1, h2⟩ := ob_some.1 hc
    obtain ⟨b, h3, h4⟩ := ob_some.1 h2
    cases a with
    | slice e =>
      cases b with
      | string =>
        obtain ⟨e1, rfl, e2, e3⟩ := b2sOp_some h4
        cases e1
        exact gives_b2s hT r h1 e2 h3 hv hr
      | _ => cases h4
    | _ => cases b <;> cases h4
  case makeInterface t x =>
    simp only [compOp] at hc
    obtain ⟨d, h1, h2⟩ := ob_some.1 hc
    cases d <;> cases h2
  case makeFunc fn a b => cases fn <;> cases hc
  case makeMap t r =>
    simp only [compOp] at hc
    obtain ⟨d, _, h⟩ := ob_some.1 hc
    cases d <;> cases h
  case makeSlice t l c =>
    simp only [compOp] at hc
    obtain ⟨d, _, h⟩ := ob_some.1 hc
    cases d with
    | slice e =>
      obtain ⟨_, _, a1⟩ := ob_some.1 h
      obtain ⟨_, _, a2⟩ := ob_some.1 a1
      obtain ⟨_, _, a3⟩ := ob_some.1 a2
      obtain ⟨_, a4⟩ := oif_some.1 a3
      cases a4
    | _ => cases h
  case slice t x lo hi mx =>
    simp only [compOp] at hc
    obtain ⟨d, _, h⟩ := ob_some.1 hc
    cases d with
    | string => cases h
    | slice e => obtain ⟨_, _, a1⟩ := ob_some.1 h; cases a1
    | array k e => obtain ⟨_, _, a1⟩ := ob_some.1 h; cases a1
    | _ => cases h
  case fieldAddr t x i =>
    simp only [compOp] at hc
    obtain ⟨d, _, h⟩ := ob_some.1 hc
    cases d with
    | struct fs =>
      obtain ⟨_, _, a1⟩ := ob_some.1 h
      obtain ⟨_, _, a2⟩ := ob_some.1 a1
      cases a2
    | _ => cases h
  case field t x i =>
    simp only [compOp] at hc
    obtain ⟨d, _, h⟩ := ob_some.1 hc
    cases d with
    | struct fs =>
      obtain ⟨_, _, a1⟩ := ob_some.1 h
      obtain ⟨_, _, a2⟩ := ob_some.1 a1
      obtain ⟨_, _, a3⟩ := ob_some.1 a2
      cases a3
    | _ => cases h
  case indexAddr t x i =>
    simp only [compOp] at hc
    obtain ⟨d, _, h⟩ := ob_some.1 hc
    cases d with
    | slice e => obtain ⟨_, _, a1⟩ := ob_some.1 h; cases a1
    | array k e => obtain ⟨_, _, a1⟩ := ob_some.1 h; cases a1
    | _ => cases h
  case index t x i =>
    simp only [compOp] at hc
    obtain ⟨d, _, h⟩ := ob_some.1 hc
    cases d with
    | string => cases h
    | array k e =>
      obtain ⟨_, _, a1⟩ := ob_some.1 h
      obtain ⟨_, _, a2⟩ := ob_some.1 a1
      cases a2
    | _ => cases h
  case range t x =>
    simp only [compOp] at hc
    obtain ⟨d, _, h⟩ := ob_some.1 hc
    cases d <;> cases h
  case next x b => cases b <;> cases hc
  all_goals cases hc
end
end Ev
end Go.Proofs.YtbfkbabolhhbaaaGreatDoor
