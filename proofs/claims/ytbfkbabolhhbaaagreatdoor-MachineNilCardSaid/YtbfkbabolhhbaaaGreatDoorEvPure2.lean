/-
  All operations that only compute.
-/
import Derived.Test.YtbfkbabolhhbaaaGreatDoorEvPure
namespace Go.Proofs.YtbfkbabolhhbaaaGreatDoor
namespace Ev
variable [Opq]
set_option linter.unusedSectionVars false
section
variable {P : Program} {T : Ty} {g : G} {ρ : Operand → Value}

theorem run_one {o : POp} {v r : V} (h : POp.run o [v] = some r) (h1 : ∀ z p, o ≠ .build z p) (h2 : ∀ f n, o ≠ .mkf f n) (h3 : ∀ k a b c, o ≠ .slc k a b c) (h4 : o ≠ .mins) (h5 : o ≠ .maxs) : POp.run1 o v = some r := by
  cases o <;> first | exact absurd rfl (h1 _ _) | exact absurd rfl (h2 _ _) | exact absurd rfl (h3 _ _ _ _) | exact absurd rfl h4 | exact absurd rfl h5 | exact h | (cases v <;> cases h)
theorem run_two {o : POp} {a b r : V} (h : POp.run o [a, b] = some r) (h1 : ∀ z p, o ≠ .build z p) (h2 : ∀ f n, o ≠ .mkf f n) (h3 : ∀ k a b c, o ≠ .slc k a b c) (h4 : o ≠ .mins) (h5 : o ≠ .maxs) : POp.run2 o a b = some r := by
  cases o <;> first | exact absurd rfl (h1 _ _) | exact absurd rfl (h2 _ _) | exact absurd rfl (h3 _ _ _ _) | exact absurd rfl h4 | exact absurd rfl h5 | exact h | (cases a <;> cases h)

theorem eqD_shape {k : Ek} (hk : k ≠ .i) {a b : V} {u : Value} {r : Bool} (h : VR g a u) (hr : eqD k a b = some r) :
    (∀ cs, u ≠ .agg cs) ∧ u ≠ .nilIface ∧ (∀ k a, u ≠ .int k a) ∧ (∀ s, u ≠ .string s) ∧ (∀ k a, u ≠ .float k a) ∧ (∀ k a b, u ≠ .complex k a b) := by
  cases h <;> first
    | (refine ⟨?_, ?_, ?_, ?_, ?_, ?_⟩ <;> intros <;> intro e <;> cases e; done)
    | (cases k <;> first | exact absurd rfl hk | (cases b <;> cases hr))
theorem gives_eqd (hT : TyOk P T) {k : Ek} {neg : Bool} {t t' : TypeId} {d : TypeDesc} {x y : Operand} {a b v : V} (h1 : T.under t = some d)
    (hd : (d = .bool ∧ k = .b) ∨ (∃ e, d = .slice e ∧ k = .s) ∨ (∃ p e, d = .map p e ∧ k = .m) ∨ (∃ p q z, d = .func p q z ∧ k = .f))
    (ha : VR g a (ρ x)) (hb : VR g b (ρ y)) (hr : POp.run2 (.eqd k neg) a b = some v) : ∃ u, VR g v u ∧ Gives P ρ (.binOp (Bool.rec (motive := fun _ => BinOp) .eql .neq neg) t x y t') u := by
  obtain ⟨r, h2, h3⟩ := ob_some.1 (show ob (eqD k a b) (fun r => some (.bool (Bool.rec (motive := fun _ => Bool) r (!r) neg))) = some v from hr)
  cases h3
  refine ⟨_, .bool _, ?_⟩
  have hu := hT.under _ _ h1
  have he : ∀ w, (Op.equal t (ρ x) (ρ y)).run P w = .ok r w := by
    intro w
    rcases hd with ⟨rfl, rfl⟩ | ⟨e, rfl, rfl⟩ | ⟨p, e, rfl, rfl⟩ | ⟨p, q, z, rfl, rfl⟩
    · cases a <;> cases b <;> cases h2
      rw [ha.bool_inv, hb.bool_inv, beqB_eq]
      exact equal_bool hu _ _ w
    · exact equal_slice hu ha hb h2 w
    · exact equal_map hu ha hb h2 w
    · exact equal_func hu ha hb h2 w
  obtain ⟨s1, s2, s3, s4, s5, s6⟩ := eqD_shape (by rcases hd with ⟨_, rfl⟩ | ⟨_, _, rfl⟩ | ⟨_, _, _, rfl⟩ | ⟨_, _, _, _, rfl⟩ <;> intro e <;> cases e) ha h2
  exact gives_cmp (eqGuard_run s1 s2) s3 s4 s5 s6 he
theorem gives_eqi (hT : TyOk P T) {neg : Bool} {t t' : TypeId} {ms : Array (String × TypeId)} {x y : Operand} {a b v : V} (h1 : T.under t = some (.interface ms)) (hxy : (isC x || isC y) = true)
    (ha : VR g a (ρ x)) (hb : VR g b (ρ y)) (hr : POp.run2 (.eqd .i neg) a b = some v) : ∃ u, VR g v u ∧ Gives P ρ (.binOp (Bool.rec (motive := fun _ => BinOp) .eql .neq neg) t x y t') u := by
  obtain ⟨r, h2, h3⟩ := ob_some.1 (show ob (eqD .i a b) (fun r => some (.bool (Bool.rec (motive := fun _ => Bool) r (!r) neg))) = some v from hr)
  cases h3
  refine ⟨_, .bool _, ?_⟩
  have hu := hT.under _ _ h1
  have hgd : ∀ (op : BinOp) (p q : Value), (∀ cs, p ≠ .agg cs) → eqGuard op t x y p q = pure () := by
    intro op p q hp
    cases p <;> first | exact absurd rfl (hp _) | (cases op <;> rfl) | skip
    cases q <;> first | (cases op <;> rfl) | skip
    cases x <;> cases y <;> first | (cases hxy; done) | (cases op <;> rfl)
  have main : ∀ {p q : Value}, ρ x = p → ρ y = q → VR g a p → VR g b q → Gives P ρ (.binOp (Bool.rec (motive := fun _ => BinOp) .eql .neq neg) t x y t') (.bool (Bool.rec (motive := fun _ => Bool) r (!r) neg)) := by
    intro p q hp hq ha hb
    have he : ∀ w, (Op.equal t (ρ x) (ρ y)).run P w = .ok r w := by
      intro w
      obtain ⟨d, e⟩ := equal_succ t (ρ x) (ρ y)
      rw [e, hp, hq]
      clear e hp hq
      cases ha <;> cases hb <;> simp [eqD] at h2 <;> subst h2 <;> simp [Op.equalIn, run_underlying hu]
    refine gives_cmp ?_ ?_ ?_ ?_ ?_ he
    · rw [hp, hq]
      refine hgd _ _ _ ?_
      cases ha <;> cases hb <;> simp [eqD] at h2 <;> intros <;> intro hh <;> cases hh
    all_goals (rw [hp]; cases ha <;> cases hb <;> simp [eqD] at h2 <;> intros <;> intro hh <;> cases hh)
  exact main rfl rfl ha hb
theorem P_ok (hT : TyOk P T) {op : Op} {po : POp} {os : List Operand} (hc : compOp T op = some (.p po, os)) {vs : List V} {v : V} (hv : VRs g vs (os.map ρ)) (hr : po.run vs = some v) : ∃ u, VR g v u ∧ Gives P ρ op u := by
  cases op
  case move x =>
    cases hc
    obtain ⟨a, rfl, h⟩ := hv.one
    cases hr
    exact gives_move h
  case assign x =>
    cases hc
    obtain ⟨a, rfl, h⟩ := hv.one
    cases hr
    exact gives_assign h
  case pick c a b =>
    cases hc
    obtain ⟨x, y, z, rfl, h1, h2, h3⟩ := hv.three
    cases x <;> cases hr
    exact gives_pick h1 h2 h3
  case build t ps =>
    simp only [compOp] at hc
    obtain ⟨z, h1, h2⟩ := ob_some.1 hc
    obtain ⟨d, h3, h4⟩ := ob_some.1 h2
    cases d with
    | struct fs =>
      obtain ⟨pl, h5, h6⟩ := ob_some.1 h4
      obtain ⟨l, h7, h8⟩ := ob_some.1 h6
      cases h8
      obtain ⟨cs, h9, h10⟩ := ob_some.1 (show ob (fills l vs (cellsOf z)) (fun cs => some (.agg cs)) = some v from hr)
      cases h10
      exact gives_buildStruct hT h1 h3 h5 h7 hv h9
    | array k e =>
      obtain ⟨n, h5, h6⟩ := ob_some.1 h4
      cases h6
      obtain ⟨cs, h9, h10⟩ := ob_some.1 (show ob (fills (ps.toList.map fun p => (Nat.mul p.1 n, n)) vs (cellsOf z)) (fun cs => some (.agg cs)) = some v from hr)
      cases h10
      exact gives_buildArray hT h1 h3 h5 hv h9
    | _ => cases h4
  case nilCheck x =>
    cases hc
    obtain ⟨a, rfl, h⟩ := hv.one
    exact gives_nilCheck h hr
  case unOp op t x =>
    cases hc
    obtain ⟨a, rfl, h⟩ := hv.one
    exact gives_unOp h hr
  case binOp op t x y t' =>
    have eq2 : ∀ {neg : Bool} {d : TypeDesc}, T.under t = some d → eqOp T t neg (isC x || isC y) d = some (.p po) → os = [x, y] → ∃ u, VR g v u ∧ Gives P ρ (.binOp (Bool.rec (motive := fun _ => BinOp) .eql .neq neg) t x y t') u := by
      intro neg d h1 h2 h3
      subst h3
      obtain ⟨a, b, rfl, ha, hb⟩ := hv.two
      cases d with
      | int k => cases h2; exact gives_bin ha hb hr
      | string => cases h2; exact gives_bin ha hb hr
      | interface e => obtain ⟨h4, h5⟩ := oif_some.1 h2; cases h5; exact gives_eqi hT h1 h4 ha hb hr
      | bool => cases h2; exact gives_eqd hT h1 (.inl ⟨rfl, rfl⟩) ha hb hr
      | slice e => cases h2; exact gives_eqd hT h1 (.inr (.inl ⟨e, rfl, rfl⟩)) ha hb hr
      | map p e => cases h2; exact gives_eqd hT h1 (.inr (.inr (.inl ⟨p, e, rfl, rfl⟩))) ha hb hr
      | func p q z => cases h2; exact gives_eqd hT h1 (.inr (.inr (.inr ⟨p, q, z, rfl, rfl⟩))) ha hb hr
      | pointer e => obtain ⟨n, _, h5⟩ := ob_some.1 h2; cases h5
      | struct fs => obtain ⟨n, _, h5⟩ := ob_some.1 h2; cases h5
      | _ => cases h2
    cases op
    case eql =>
      simp only [compOp] at hc
      obtain ⟨d, h1, h2⟩ := ob_some.1 hc
      obtain ⟨c, h3, h4⟩ := ob_some.1 h2
      cases h4
      exact eq2 (neg := false) h1 h3 rfl
    case neq =>
      simp only [compOp] at hc
      obtain ⟨d, h1, h2⟩ := ob_some.1 hc
      obtain ⟨c, h3, h4⟩ := ob_some.1 h2
      cases h4
      exact eq2 (neg := true) h1 h3 rfl
    all_goals
      cases hc
      obtain ⟨a, b, rfl, ha, hb⟩ := hv.two
      exact gives_bin ha hb hr
  case convert s d x =>
    simp only [compOp] at hc
    obtain ⟨a, h1, h2⟩ := ob_some.1 hc
    obtain ⟨b, h3, h4⟩ := ob_some.1 h2
    have hI : ∀ k, a = .int k → ∃ k', b = .int k' := by
      intro k e
      subst e
      cases b <;> first | exact ⟨_, rfl⟩ | cases h4
    cases a with
    | int k =>
      obtain ⟨k', rfl⟩ := hI k rfl
      cases h4
      obtain ⟨x', rfl, h⟩ := hv.one
      exact gives_toInt hT h1 h3 h (by cases x' <;> first | exact hr | cases hr)
    | string =>
      cases b with
      | string =>
        cases h4
        obtain ⟨x', rfl, h⟩ := hv.one
        cases x' with
        | str n c =>
          cases hr
          exact gives_strId hT h1 h3 h (by cases hx : ρ x <;> rw [hx] at h <;> cases h; exact ⟨_, rfl⟩)
        | _ => cases hr
      | _ => cases h4
    | _ => cases b <;> first | (cases h4; done) | (cases (b2sOp_some h4).1)
  case makeInterface t x =>
    simp only [compOp] at hc
    obtain ⟨d, h1, h2⟩ := ob_some.1 hc
    have hd : ∀ m, d ≠ .interface m := by intro m e; subst e; cases h2
    have : (COp.p (.mki t), [x]) = (COp.p po, os) := by cases d <;> first | exact absurd rfl (hd _) | exact Option.some.inj h2
    cases this
    obtain ⟨a, rfl, h⟩ := hv.one
    have e : v = .iface t a := by
      have : POp.run1 (.mki t) a = some v := run_one hr (by intros; intro e; cases e) (by intros; intro e; cases e) (by intros; intro e; cases e) (by intro e; cases e) (by intro e; cases e)
      cases a <;> cases this <;> rfl
    subst e
    exact gives_makeInterface hT h1 hd h
  case makeFunc fn first captured =>
    cases fn with
    | func f =>
      cases hc
      obtain ⟨a, h1, h2⟩ := ob_some.1 (show ob (takeL first.size vs) _ = some v from hr)
      cases h2
      exact gives_makeFunc hv h1
    | _ => cases hc
  case extract x i =>
    cases hc
    obtain ⟨a, rfl, h⟩ := hv.one
    cases a <;> first | exact gives_extract h hr | cases hr
  case slice t x lo hi mx =>
    simp only [compOp] at hc
    obtain ⟨d, h1, h2⟩ := ob_some.1 hc
    have main : ∀ k, po = .slc k lo.isSome hi.isSome mx.isSome → os = x :: (optO lo ++ optO hi ++ optO mx) →
        (∀ a lv hv' mv, VR g a (ρ x) → OV g lv (lo.map ρ) → OV g hv' (hi.map ρ) → OV g mv (mx.map ρ) → (mv ≠ none → hv' ≠ none) → slcOp k a lv hv' mv = some v → ∃ u, VR g v u ∧ Gives P ρ (.slice t x lo hi mx) u) → ∃ u, VR g v u ∧ Gives P ρ (.slice t x lo hi mx) u := by
      intro k e1 e2 K
      subst e1 e2
      cases hv with
      | cons ha ht =>
        rename_i a tl
        obtain ⟨q1, q2⟩ := oif_some.1 (show oif (!mx.isSome || hi.isSome) _ = some v from hr)
        obtain ⟨p, k1, k2⟩ := ob_some.1 q2
        obtain ⟨q, k3, k4⟩ := ob_some.1 k2
        obtain ⟨r, k5, k6⟩ := ob_some.1 k4
        obtain ⟨lv, t1⟩ := p
        obtain ⟨hv', t2⟩ := q
        obtain ⟨mv, t3⟩ := r
        rw [List.append_assoc] at ht
        obtain ⟨o1, ht1⟩ := nextV_ok ht k1
        obtain ⟨o2, ht2⟩ := nextV_ok ht1 k3
        obtain ⟨o3, ht3⟩ := nextV_ok (rest := []) (by simpa using ht2) k5
        refine K a lv hv' mv ha o1 o2 o3 ?_ k6
        intro hm hh
        subst hh
        cases mx with
        | none => cases o3; exact hm rfl
        | some _ => cases hi with
          | none => cases q1
          | some _ => cases o2
    cases d with
    | string =>
      cases h2
      refine main .str rfl rfl fun a lv hv' mv ha o1 o2 o3 o4 hk => ?_
      cases a with
      | str n c =>
        cases mv with
        | none =>
          have : mx = none := by
            cases mx with
            | none => rfl
            | some _ => cases o3
          subst this
          exact gives_slcStr hT h1 ha o1 o2 hk
        | some _ => cases hk
      | _ => cases hk
    | slice e =>
      obtain ⟨n, h3, h4⟩ := ob_some.1 h2
      cases h4
      exact main (.sl n) rfl rfl fun a lv hv' mv ha o1 o2 o3 o4 hk => gives_slcSl hT h1 h3 ha o1 o2 o3 o4 hk
    | array k e =>
      obtain ⟨n, h3, h4⟩ := ob_some.1 h2
      cases h4
      refine main (.arr k n) rfl rfl fun a lv hv' mv ha o1 o2 o3 o4 hk => ?_
      cases a with
      | ptr id off => exact gives_slcArr hT h1 h3 ha o1 o2 o3 o4 hk
      | _ => cases hk
    | _ => cases h2
  case fieldAddr t x i =>
    simp only [compOp] at hc
    obtain ⟨d, h1, h2⟩ := ob_some.1 hc
    cases d with
    | struct fs =>
      obtain ⟨f, h3, h4⟩ := ob_some.1 h2
      obtain ⟨n, h5, h6⟩ := ob_some.1 h4
      cases h6
      obtain ⟨a, rfl, h⟩ := hv.one
      cases a <;> cases hr
      exact gives_fieldAddr hT h1 h3 h5 h
    | _ => cases h2
  case field t x i =>
    simp only [compOp] at hc
    obtain ⟨d, h1, h2⟩ := ob_some.1 hc
    cases d with
    | struct fs =>
      obtain ⟨f, h3, h4⟩ := ob_some.1 h2
      obtain ⟨b, h5, h6⟩ := ob_some.1 h4
      obtain ⟨n, h7, h8⟩ := ob_some.1 h6
      cases h8
      obtain ⟨a, rfl, h⟩ := hv.one
      cases a <;> first | exact gives_field hT h1 h3 h5 h7 h hr | cases hr
    | _ => cases h2
  case indexAddr t x i =>
    simp only [compOp] at hc
    obtain ⟨d, h1, h2⟩ := ob_some.1 hc
    cases d with
    | slice e =>
      obtain ⟨n, h3, h4⟩ := ob_some.1 h2
      cases h4
      obtain ⟨a, b, rfl, ha, hb⟩ := hv.two
      cases a with
      | sl id off ln cap ex es =>
        cases b with
        | int k m =>
          obtain ⟨q1, q2⟩ := oif_some.1 (show oif (Nat.beq n es) _ = some v from hr)
          obtain rfl : n = es := by simpa using q1
          obtain ⟨j, q3, q4⟩ := ob_some.1 q2
          cases q4
          exact gives_ixsl hT h1 h3 ha hb q3
        | _ => cases hr
      | _ => cases hr
    | array k e =>
      obtain ⟨n, h3, h4⟩ := ob_some.1 h2
      cases h4
      obtain ⟨a, b, rfl, ha, hb⟩ := hv.two
      cases a with
      | ptr id off =>
        cases b with
        | int k' m =>
          obtain ⟨j, q3, q4⟩ := ob_some.1 (show ob (idx m k) _ = some v from hr)
          cases q4
          exact gives_ixarrp hT h1 h3 ha hb q3
        | _ => cases hr
      | _ => cases hr
    | _ => cases h2
  case index t x i =>
    simp only [compOp] at hc
    obtain ⟨d, h1, h2⟩ := ob_some.1 hc
    cases d with
    | string =>
      cases h2
      obtain ⟨a, b, rfl, ha, hb⟩ := hv.two
      cases a with
      | str ln c =>
        cases b with
        | int k' m =>
          obtain ⟨j, q3, q4⟩ := ob_some.1 (show ob (idx m ln) _ = some v from hr)
          cases q4
          exact gives_ixstr hT h1 ha hb q3
        | _ => cases hr
      | _ => cases hr
    | array k e =>
      obtain ⟨n, h3, h4⟩ := ob_some.1 h2
      obtain ⟨ag, h5, h6⟩ := ob_some.1 h4
      cases h6
      obtain ⟨a, b, rfl, ha, hb⟩ := hv.two
      cases a with
      | agg cs =>
        cases b with
        | int k' m =>
          obtain ⟨j, q3, q4⟩ := ob_some.1 (show ob (idx m k) _ = some v from hr)
          exact gives_ixarr hT h1 (posT_size h3).1 h5 ha hb q3 q4
        | _ => cases hr
      | _ => cases hr
    | _ => cases h2
  case call c =>
    obtain ⟨callee, args, argTypes⟩ := c
    simp only [compOp] at hc
    cases callee with
    | value x => cases x <;> cases hc
    | invoke r m => cases hc
    | builtin b =>
      obtain ⟨t, h1, h2⟩ := ob_some.1 hc
      obtain ⟨d, h3, h4⟩ := ob_some.1 h2
      have h1' : argTypes[0]? = some t := by rw [nthL_eq] at h1; simpa using h1
      have fin : ∀ {u : Value}, (∀ (ty : TypeId) (cs : Array Bool) (w : World), (builtin b argTypes ty cs (args.map ρ)).run P w = .ok (.value u) w) → Gives P ρ (.call ⟨.builtin b, args, argTypes⟩) u := by
        intro u h w o e
        simp [execOp, e, resolve, invoke, h]
      have lens : ∀ {k : Lk}, b = .len → po = .leng k → os = args.toList → ((d = .string ∧ k = .str) ∨ (∃ e, d = .slice e ∧ k = .sl) ∨ (∃ n e, d = .array n e ∧ k = .const n)) → ∃ u, VR g v u ∧ Gives P ρ (.call ⟨.builtin b, args, argTypes⟩) u := by
        intro k e1 e2 e3 hk
        subst e1 e2 e3
        have hone : ∃ a, vs = [a] := by
          cases vs with
          | nil => cases hr
          | cons a vs => cases vs with
            | nil => exact ⟨a, rfl⟩
            | cons b vs => cases vs with
              | nil => cases hr
              | cons c vs => cases a <;> cases hr
        obtain ⟨a, rfl⟩ := hone
        obtain ⟨x, hx⟩ : ∃ x, args.toList = [x] := by
          have := hv.length
          simp at this
          cases ha : args.toList with
          | nil => rw [← Array.length_toList, ha] at this; cases this
          | cons x l => cases l with
            | nil => exact ⟨x, rfl⟩
            | cons y l => rw [← Array.length_toList, ha] at this; simp at this
        rw [hx] at hv
        obtain ⟨a', e, h⟩ := hv.one
        cases e
        obtain ⟨u, k1, k2⟩ := gives_len hT h1' h3 hk h (run_one hr (by intros; intro e; cases e) (by intros; intro e; cases e) (by intros; intro e; cases e) (by intro e; cases e) (by intro e; cases e))
        have ha : args.map ρ = #[ρ x] := by apply Array.ext'; simp [hx]
        exact ⟨u, k1, fin fun ty cs w => by simp [builtin, ha, k2]⟩
      have folds : ∀ {a : V} {l : List V}, vs = a :: l → os = args.toList → ∃ x xs, args.map ρ = (x :: xs).toArray ∧ VR g a x ∧ VRs g l xs := by
        intro a l e1 e2
        subst e1 e2
        cases ha : args.toList.map ρ with
        | nil => rw [ha] at hv; cases hv
        | cons x xs =>
          rw [ha] at hv
          cases hv with
          | cons h t => exact ⟨x, xs, by apply Array.ext'; simp [ha], h, t⟩
      cases b
      case len =>
        cases d <;> first
          | (cases h4; exact lens rfl rfl rfl (.inl ⟨rfl, rfl⟩))
          | (cases h4; exact lens rfl rfl rfl (.inr (.inl ⟨_, rfl, rfl⟩)))
          | (cases h4; exact lens rfl rfl rfl (.inr (.inr ⟨_, _, rfl, rfl⟩)))
          | cases h4
      case min =>
        cases d <;> cases h4
        cases vs with
        | nil => cases hr
        | cons a l =>
          obtain ⟨x, xs, e1, e2, e3⟩ := folds rfl rfl
          obtain ⟨u, k1, k2⟩ := fold2_min (P := P) e3 e2 (show fold2 min2 l a = some v by cases a <;> first | exact hr | (cases l <;> first | exact hr | skip))
          exact ⟨u, k1, fin fun ty cs w => by simp [builtin, e1, Builtin.min_, k2]⟩
      case max =>
        cases d <;> cases h4
        cases vs with
        | nil => cases hr
        | cons a l =>
          obtain ⟨x, xs, e1, e2, e3⟩ := folds rfl rfl
          obtain ⟨u, k1, k2⟩ := fold2_max (P := P) e3 e2 (show fold2 max2 l a = some v by cases a <;> first | exact hr | (cases l <;> first | exact hr | skip))
          exact ⟨u, k1, fin fun ty cs w => by simp [builtin, e1, Builtin.max_, k2]⟩
      case append =>
        cases d with
        | slice e =>
          obtain ⟨n, _, a1⟩ := ob_some.1 h4
          obtain ⟨_, _, a2⟩ := ob_some.1 a1
          obtain ⟨_, _, a3⟩ := ob_some.1 a2
          obtain ⟨_, a4⟩ := oif_some.1 a3
          obtain ⟨_, _, a5⟩ := ob_some.1 a4
          obtain ⟨_, _, a6⟩ := ob_some.1 a5
          split at a6 <;> cases a6
        | _ => cases h4
      case copy =>
        cases d with
        | slice e =>
          obtain ⟨n, _, a1⟩ := ob_some.1 h4
          cases a1
        | _ => cases h4
      case clear =>
        cases d with
        | slice e =>
          obtain ⟨n, _, a1⟩ := ob_some.1 h4
          obtain ⟨_, _, a2⟩ := ob_some.1 a1
          cases a2
        | _ => cases h4
      case delete =>
        cases d with
        | map k e =>
          obtain ⟨_, _, a1⟩ := ob_some.1 h4
          cases a1
        | _ => cases h4
      all_goals (cases d <;> cases h4)
  case alloc t =>
    simp only [compOp] at hc
    obtain ⟨_, _, h⟩ := ob_some.1 hc
    cases h
  case buildSlice t n ps =>
    simp only [compOp] at hc
    obtain ⟨d, _, h⟩ := ob_some.1 hc
    cases d with
    | slice e =>
      obtain ⟨_, _, a1⟩ := ob_some.1 h
      obtain ⟨_, _, a2⟩ := ob_some.1 a1
      obtain ⟨_, a3⟩ := oif_some.1 a2
      cases a3
    | _ => cases h
  case load t a =>
    simp only [compOp] at hc
    obtain ⟨_, _, a1⟩ := ob_some.1 hc
    obtain ⟨_, _, a2⟩ := ob_some.1 a1
    cases a2
  case store t a x =>
    simp only [compOp] at hc
    obtain ⟨_, _, a1⟩ := ob_some.1 hc
    cases a1
  case makeMap t r =>
    simp only [compOp] at hc
    obtain ⟨d, _, h⟩ := ob_some.1 hc
    cases d <;> cases h
  case makeSlice t l c =>
    simp only [compOp] at hc
    obtain ⟨d, _, h⟩ := ob_some.1 hc
    cases d with
    | slice e =>
      obtain ⟨_, _, a1⟩ := ob_some.1 h
      obtain ⟨_, _, a2⟩ := ob_some.1 a1
      obtain ⟨_, _, a3⟩ := ob_some.1 a2
      obtain ⟨_, a4⟩ := oif_some.1 a3
      cases a4
    | _ => cases h
  case lookup t x k ok =>
    simp only [compOp] at hc
    obtain ⟨d, _, h⟩ := ob_some.1 hc
    cases d with
    | map k e =>
      obtain ⟨_, _, a1⟩ := ob_some.1 h
      obtain ⟨_, _, a2⟩ := ob_some.1 a1
      cases a2
    | _ => cases h
  case insert t m k x =>
    simp only [compOp] at hc
    obtain ⟨d, _, h⟩ := ob_some.1 hc
    cases d with
    | map k e =>
      obtain ⟨_, _, a1⟩ := ob_some.1 h
      cases a1
    | _ => cases h
  case mapEntry t m k =>
    simp only [compOp] at hc
    obtain ⟨d, _, h⟩ := ob_some.1 hc
    cases d with
    | map k e =>
      obtain ⟨_, _, a1⟩ := ob_some.1 h
      obtain ⟨_, _, a2⟩ := ob_some.1 a1
      cases a2
    | _ => cases h
  case mapUpdate t m k x =>
    simp only [compOp] at hc
    obtain ⟨d, _, h⟩ := ob_some.1 hc
    cases d with
    | map k e =>
      obtain ⟨_, _, a1⟩ := ob_some.1 h
      cases a1
    | _ => cases h
  case range t x =>
    simp only [compOp] at hc
    obtain ⟨d, _, h⟩ := ob_some.1 hc
    cases d <;> cases h
  case next x b => cases b <;> cases hc
  all_goals cases hc
end
end Ev
end Go.Proofs.YtbfkbabolhhbaaaGreatDoor
