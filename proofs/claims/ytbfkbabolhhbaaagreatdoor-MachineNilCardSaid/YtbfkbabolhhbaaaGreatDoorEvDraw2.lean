/-
  The run of a region in the order that was chosen, step by step.
-/
import Derived.Test.YtbfkbabolhhbaaaGreatDoorEvDraw
namespace Go.Proofs.YtbfkbabolhhbaaaGreatDoor
namespace Ev
variable [Opq]
set_option linter.unusedSectionVars false
section
variable {P : Program} {T : Ty} {m N : Nat}

/-- One step: the operation's value, the state behind it. -/
structure Step (call : CallT) (co : COper) (s : St) (v : V) (s' : St) : Prop where
  f : s'.f = co.dst.put s.f v
  hs : s'.hs = if isE co.op = true then s.h :: s.hs else s.hs
  main : (guardOk s.f co.guard = some false ∧ v = undefV ∧ s'.h = s.h ∧ s'.cs = s.cs) ∨
    ∃ vs, guardOk s.f co.guard = some true ∧ evs s.f co.args = some vs ∧ co.op.run call vs s.h = some (v, s'.h) ∧ (∀ q, co.op = .r q → s'.cs = ⟨q, vs, v, co.lo, co.hi⟩ :: s.cs) ∧ ((∀ q, co.op ≠ .r q) → s'.cs = s.cs)
theorem step_of {call : CallT} {co : COper} {s s' : St} (h : co.runD call s = some s') : ∃ v, Step call co s v s' := by
  obtain ⟨b, h1, h2⟩ := ob_some.1 (show ob (guardOk s.f co.guard) _ = some s' from h)
  have hhs : ∀ (a b : List H), (Bool.rec (motive := fun _ => List H) a b (isE co.op)) = if isE co.op = true then b else a := fun a b => brec_eq _ _ _
  cases b with
  | false =>
    cases h2
    exact ⟨undefV, rfl, hhs _ _, .inl ⟨h1, rfl, rfl, rfl⟩⟩
  | true =>
    obtain ⟨vs, h3, h4⟩ := ob_some.1 h2
    obtain ⟨r, h5, h6⟩ := ob_some.1 h4
    cases h6
    refine ⟨r.1, rfl, hhs _ _, .inr ⟨vs, h1, h3, h5, fun q hq => ?_, fun hq => ?_⟩⟩
    · rw [hq]
    · cases hc : co.op with
      | r q => exact absurd hc (hq q)
      | _ => rfl
structure Ent where
  i : Nat
  k : Nat
  v : V
  s : St
inductive Trace (call : CallT) (cl : List COper) (hi : Nat → Nat) : Nat → St → List Ent → St → Prop
  | nil {k : Nat} {s : St} : Trace call cl hi k s [] s
  | cons {i k : Nat} {s s' sn : St} {c : COper} {v : V} {tr : List Ent} (hc : cl[i]? = some c) (st : Step call { c with lo := k, hi := hi i } s v s')
      (t : Trace call cl hi (if isE c.op = true then k + 1 else k) s' tr sn) : Trace call cl hi k s (⟨i, k, v, s⟩ :: tr) sn
theorem setLH_cons (cl : List COper) (hi : Nat → Nat) (i : Nat) (l : List Nat) (k : Nat) : setLH cl hi (i :: l) k = ob (nthL cl i) fun c => ob (setLH cl hi l (if isE c.op = true then k + 1 else k)) fun r => some ({ c with lo := k, hi := hi i } :: r) := by
  show ob (nthL cl i) (fun c => ob (setLH cl hi l (Bool.rec (motive := fun _ => Nat) k (Nat.succ k) (isE c.op))) fun r => some ({ c with lo := k, hi := hi i } :: r)) = _
  simp only [brec_eq, Nat.succ_eq_add_one]
theorem trace_of {call : CallT} {cl : List COper} {hi : Nat → Nat} : ∀ {ord : List Nat} {k : Nat} {l : List COper} {s sn : St}, setLH cl hi ord k = some l → runOpsD call l s = some sn → ∃ tr, Trace call cl hi k s tr sn ∧ tr.map (·.i) = ord
  | [], k, l, s, sn, h, hr => by
    cases h
    cases hr
    exact ⟨[], .nil, rfl⟩
  | i :: ord, k, l, s, sn, h, hr => by
    rw [setLH_cons] at h
    obtain ⟨c, h1, h2⟩ := ob_some.1 h
    obtain ⟨r, h3, h4⟩ := ob_some.1 h2
    cases h4
    rw [nthL_eq] at h1
    obtain ⟨s', h5, h6⟩ := ob_some.1 (show ob (COper.runD call { c with lo := k, hi := hi i } s) (runOpsD call r) = some sn from hr)
    obtain ⟨v, hst⟩ := step_of h5
    obtain ⟨tr, k1, k2⟩ := trace_of h3 h6
    exact ⟨_, .cons h1 hst k1, by simp [k2]⟩
/-- How many operations write memory. -/
noncomputable def nE (cl : List COper) (l : List Ent) : Nat := (l.filter fun e => isEAt cl e.i).length
theorem isEAt_eq {cl : List COper} {i : Nat} {c : COper} (h : cl[i]? = some c) : isEAt cl i = isE c.op := by
  unfold isEAt
  rw [nthL_eq, h]
theorem Trace.split {call : CallT} {cl : List COper} {hi : Nat → Nat} : ∀ {A B : List Ent} {k : Nat} {s sn : St}, Trace call cl hi k s (A ++ B) sn → ∃ s', Trace call cl hi k s A s' ∧ Trace call cl hi (k + nE cl A) s' B sn
  | [], B, k, s, sn, h => ⟨s, .nil, h⟩
  | e :: A, B, k, s, sn, h => by
    cases h with
    | cons hc st t =>
      rename_i i s1 c v
      obtain ⟨s', k1, k2⟩ := Trace.split (A := A) t
      refine ⟨s', .cons hc st k1, ?_⟩
      have : (if isE c.op = true then k + 1 else k) + nE cl A = k + nE cl (⟨i, k, v, s⟩ :: A) := by
        unfold nE
        rw [List.filter_cons, isEAt_eq hc]
        split <;> simp <;> omega
      rw [← this]
      exact k2
theorem Trace.append {call : CallT} {cl : List COper} {hi : Nat → Nat} : ∀ {A B : List Ent} {k : Nat} {s s' sn : St}, Trace call cl hi k s A s' → Trace call cl hi (k + nE cl A) s' B sn → Trace call cl hi k s (A ++ B) sn
  | [], B, k, s, s', sn, h, h' => by cases h; exact h'
  | e :: A, B, k, s, s', sn, h, h' => by
    cases h with
    | cons hc st t =>
      rename_i i s1 c v
      have : (if isE c.op = true then k + 1 else k) + nE cl A = k + nE cl (⟨i, k, v, s⟩ :: A) := by
        unfold nE
        rw [List.filter_cons, isEAt_eq hc]
        split <;> simp <;> omega
      rw [← this] at h'
      exact .cons hc st (Trace.append t h')
theorem Trace.head {call : CallT} {cl : List COper} {hi : Nat → Nat} {k : Nat} {s sn : St} {e : Ent} {B : List Ent} (h : Trace call cl hi k s (e :: B) sn) : e.s = s ∧ e.k = k ∧ ∃ c s', cl[e.i]? = some c ∧ Step call { c with lo := k, hi := hi e.i } s e.v s' ∧ Trace call cl hi (if isE c.op = true then k + 1 else k) s' B sn := by
  cases h with
  | cons hc st t => exact ⟨rfl, rfl, _, _, hc, st, t⟩
/-- What the names hold behind a run. -/
theorem Trace.names {call : CallT} {ops : Array Oper} {cl : List COper} {hi : Nat → Nat} (hcl : ∀ (i : Nat) c, cl[i]? = some c → ∃ o, ops[i]? = some o ∧ Parts T m N ops o c) : ∀ {tr : List Ent} {k : Nat} {s sn : St}, Trace call cl hi k s tr sn →
    (∀ t, (∀ e ∈ tr, (ops[e.i]?).bind (·.dst) ≠ some t) → rdn m sn.f t = rdn m s.f t) ∧
    ∀ A e B, tr = A ++ e :: B → ∀ t, (ops[e.i]?).bind (·.dst) = some t → (∀ e' ∈ B, (ops[e'.i]?).bind (·.dst) ≠ some t) → rdn m sn.f t = some e.v
  | [], k, s, sn, h => by
    cases h
    exact ⟨fun _ _ => rfl, fun A e B h => by simp at h⟩
  | x :: tr, k, s, sn, h => by
    cases h with
    | cons hc st t =>
      rename_i i s' c v
      obtain ⟨o, ho, hp⟩ := hcl i c hc
      obtain ⟨k1, k2⟩ := Trace.names hcl t
      have hput : ∀ t, rdn m s'.f t = if o.dst = some t then some v else rdn m s.f t := fun t => by
        rw [st.f]
        exact rdn_put hp.dst s.f v t
      refine ⟨fun t ht => ?_, fun A e B he t hd hB => ?_⟩
      · rw [k1 t fun e he => ht e (List.mem_cons_of_mem _ he), hput, if_neg]
        have := ht _ List.mem_cons_self
        simp only [ho, Option.bind_some] at this
        exact this
      · cases A with
        | nil =>
          simp only [List.nil_append, List.cons.injEq] at he
          obtain ⟨rfl, rfl⟩ := he
          rw [k1 t hB, hput, if_pos]
          simp only [ho, Option.bind_some] at hd
          exact hd
        | cons y A =>
          simp only [List.cons_append, List.cons.injEq] at he
          exact k2 A e B he.2 t hd hB
/-- The memories before what writes. -/
theorem Trace.hs {call : CallT} {cl : List COper} {hi : Nat → Nat} : ∀ {tr : List Ent} {k : Nat} {s sn : St}, Trace call cl hi k s tr sn → sn.hs = ((tr.filter fun e => isEAt cl e.i).map (·.s.h)).reverse ++ s.hs
  | [], k, s, sn, h => by cases h; rfl
  | x :: tr, k, s, sn, h => by
    cases h with
    | cons hc st t =>
      rename_i i s' c v
      rw [Trace.hs t, st.hs, List.filter_cons, isEAt_eq hc]
      show _ ++ (if isE c.op = true then s.h :: s.hs else s.hs) = _
      by_cases hE : isE c.op = true
      · simp [hE]
      · simp [hE]
theorem Trace.cs {call : CallT} {cl : List COper} {hi : Nat → Nat} : ∀ {tr : List Ent} {k : Nat} {s sn : St}, Trace call cl hi k s tr sn → ∀ c ∈ s.cs, c ∈ sn.cs
  | [], k, s, sn, h => by cases h; exact fun _ h => h
  | x :: tr, k, s, sn, h => by
    cases h with
    | cons hc st t =>
      rename_i i s' c v
      intro q hq
      refine Trace.cs t q ?_
      rcases st.main with ⟨_, _, _, h4⟩ | ⟨vs, _, _, _, h4, h5⟩
      · rw [h4]; exact hq
      · cases hop : c.op with
        | r ro => rw [h4 ro hop]; exact List.mem_cons_of_mem _ hq
        | _ => rw [h5 (fun q e => by have e : c.op = .r q := e; rw [hop] at e; cases e)]; exact hq
theorem sameAllV {r : V → V → Bool} (hr : ∀ x y, r x y = true → x = y) : ∀ {a b : List V}, (List.rec (motive := fun _ => List V → Bool) (fun l => caseL l true fun _ _ => false)
        (fun u _ q l => caseL l false fun v tl => Bool.rec (motive := fun _ => Bool) false (q tl) (r u v)) a : List V → Bool) b = true → a = b
  | [], [], _ => rfl
  | [], _ :: _, h => by cases h
  | _ :: _, [], h => by cases h
  | u :: a, v :: b, h => by
    have h : Bool.rec (motive := fun _ => Bool) false ((List.rec (motive := fun _ => List V → Bool) (fun l => caseL l true fun _ _ => false)
        (fun u _ q l => caseL l false fun v tl => Bool.rec (motive := fun _ => Bool) false (q tl) (r u v)) a : List V → Bool) b) (r u v) = true := h
    rw [brec_eq] at h
    split at h
    · rename_i h1
      rw [hr _ _ h1, sameAllV hr h]
    · cases h
theorem sameV_eq : ∀ (n : Nat) (x y : V), sameV n x y = true → x = y
  | 0, x, y, h => by cases h
  | n + 1, x, y, h => by
    have ih := sameV_eq n
    cases x with
    | bool b => cases y with
      | bool c =>
        have h : beqB b c = true := h
        rw [beqB_eq] at h
        simp at h
        rw [h]
      | _ => cases h
    | int k a => cases y with
      | int k' a' =>
        have h : (eqK k k' && eqI a a') = true := h
        rw [eqI_eq, Bool.and_eq_true, eqK_eq] at h
        obtain ⟨h1, h2⟩ := h
        rw [h1, eq_of_beq h2]
      | _ => cases h
    | str a b => cases y with
      | str a' b' =>
        have h : Bool.rec (motive := fun _ => Bool) false (Nat.beq b b') (Nat.beq a a') = true := h
        rw [brec_eq] at h
        split at h
        · rename_i h1
          rw [Nat.eq_of_beq_eq_true h1, Nat.eq_of_beq_eq_true h]
        · cases h
      | _ => cases h
    | nilp => cases y with
      | nilp => rfl
      | _ => cases h
    | ptr a b => cases y with
      | ptr a' b' =>
        have h : (Nat.beq a a' && Nat.beq b b') = true := h
        simp only [Bool.and_eq_true, Nat.beq_eq] at h
        rw [h.1, h.2]
      | _ => cases h
    | nils => cases y with
      | nils => rfl
      | _ => cases h
    | sl a b c d e f => cases y with
      | sl a' b' c' d' e' f' =>
        have h : (Nat.beq a a' && Nat.beq b b' && Nat.beq c c' && Nat.beq d d' && beqB e e' && Nat.beq f f') = true := h
        rw [beqB_eq] at h
        simp only [Bool.and_eq_true, Nat.beq_eq, beq_iff_eq] at h
        obtain ⟨⟨⟨⟨⟨h1, h2⟩, h3⟩, h4⟩, h5⟩, h6⟩ := h
        rw [h1, h2, h3, h4, h5, h6]
      | _ => cases h
    | nilm => cases y with
      | nilm => rfl
      | _ => cases h
    | map a => cases y with
      | map a' =>
        have h : Nat.beq a a' = true := h
        rw [Nat.beq_eq] at h
        rw [h]
      | _ => cases h
    | func fn a b => cases fn with
      | func f => cases y with
        | func fn' a' b' => cases fn' with
          | func f' =>
            have h : (Nat.beq f f' && _ && _) = true := h
            simp only [Bool.and_eq_true, Nat.beq_eq] at h
            obtain ⟨⟨h1, h2⟩, h3⟩ := h
            rw [h1, sameAllV ih h2, sameAllV ih h3]
          | _ => cases h
        | _ => cases h
      | yield f => cases y with
        | func fn' a' b' => cases fn' with
          | yield f' =>
            have h : (Nat.beq f f' && _ && _) = true := h
            simp only [Bool.and_eq_true, Nat.beq_eq] at h
            obtain ⟨⟨h1, h2⟩, h3⟩ := h
            rw [h1, sameAllV ih h2, sameAllV ih h3]
          | _ => cases h
        | _ => cases h
      | _ => cases y <;> cases h
    | yld a => cases y with
      | yld a' =>
        have h : Nat.beq a a' = true := h
        rw [Nat.beq_eq] at h
        rw [h]
      | _ => cases h
    | nilf => cases y with
      | nilf => rfl
      | _ => cases h
    | iface t a => cases y with
      | iface t' a' =>
        have h : (Nat.beq t t' && sameV n a a') = true := h
        simp only [Bool.and_eq_true, Nat.beq_eq] at h
        rw [h.1, ih _ _ h.2]
      | _ => cases h
    | nili => cases y with
      | nili => rfl
      | _ => cases h
    | agg a => cases y with
      | agg b => rw [sameAllV ih h]
      | _ => cases h
    | tup a => cases y with
      | tup b => rw [sameAllV ih h]
      | _ => cases h
theorem readsAt_ok {c : Tc} {h : H} (k : readsAt c h = true) : c.op.run c.vs h = some c.v := by
  unfold readsAt at k
  cases e : c.op.run c.vs h with
  | none => rw [e] at k; cases k
  | some v =>
    rw [e] at k
    rw [sameV_eq 20 v c.v k]
theorem readsAll_ok {c : Tc} : ∀ {hs : List H} {i : Nat}, readsAll c i hs = true → ∀ j h, hs[j]? = some h → c.lo ≤ i + j → i + j ≤ c.hi → readsAt c h = true
  | [], i, _, j, h, e, _, _ => by simp at e
  | x :: hs, i, k, j, h, e, h1, h2 => by
    have k : Bool.rec (motive := fun _ => Bool) (Bool.rec (motive := fun _ => Bool) false (readsAll c (i + 1) hs) (readsAt c x)) (readsAll c (i + 1) hs) (Nat.blt i c.lo || Nat.blt c.hi i) = true := k
    rw [brec_eq, brec_eq] at k
    cases j with
    | zero =>
      simp at e
      subst e
      rw [if_neg] at k
      · split at k
        · assumption
        · cases k
      · simp
        omega
    | succ j =>
      have hr : readsAll c (i + 1) hs = true := by
        split at k
        · exact k
        · split at k
          · exact k
          · cases k
      exact readsAll_ok hr j h (by simpa using e) (by omega) (by omega)
theorem checkAll_ok {hs : List H} : ∀ {cs : List Tc}, checkAll cs hs = true → ∀ c ∈ cs, readsAll c 0 hs = true
  | [], _, c, h => by cases h
  | x :: cs, k, c, h => by
    have k : Bool.rec (motive := fun _ => Bool) false (checkAll cs hs) (readsAll x 0 hs) = true := k
    rw [brec_eq] at k
    split at k
    · rename_i hx
      cases h with
      | head => exact hx
      | tail _ h => exact checkAll_ok k c h
    · cases k
/-- What was read, is read wherever it may stand. -/
def Checked (cs : List Tc) (hs : List H) : Prop := ∀ c ∈ cs, ∀ j h, hs[j]? = some h → c.lo ≤ j → j ≤ c.hi → c.op.run c.vs h = some c.v
theorem checked_of {cs : List Tc} {hs : List H} (k : checkAll cs hs = true) : Checked cs hs := fun c hc j h e h1 h2 =>
  readsAt_ok (readsAll_ok (checkAll_ok k c hc) j h e (by omega) (by omega))
theorem quiet_cons (o : COper) (l : List COper) : quiet (o :: l) = COp.rec (motive := fun _ => Bool) (fun _ => quiet l) (fun _ => quiet l) (fun _ => false) (fun _ => false) (fun _ => false) false o.op := rfl
theorem checked_quiet {call : CallT} {h : H} : ∀ {l : List COper} {s s' : St}, quiet l = true → runOpsD call l s = some s' → s.h = h → s.hs = [] → (∀ c ∈ s.cs, c.op.run c.vs h = some c.v) → s'.h = h ∧ s'.hs = [] ∧ ∀ c ∈ s'.cs, c.op.run c.vs h = some c.v
  | [], s, s', _, e, h1, h2, h3 => by cases e; exact ⟨h1, h2, h3⟩
  | o :: l, s, s', q, e, h1, h2, h3 => by
    have e : ob (o.runD call s) (runOpsD call l) = some s' := e
    obtain ⟨s1, e1, e2⟩ := ob_some.1 e
    rw [quiet_cons] at q
    unfold COper.runD at e1
    obtain ⟨b, _, e3⟩ := ob_some.1 e1
    have main : quiet l = true ∧ s1.h = h ∧ s1.hs = [] ∧ ∀ c ∈ s1.cs, c.op.run c.vs h = some c.v := by
      obtain ⟨d, op, args, gd, lo, hi⟩ := o
      cases op with
      | p po =>
        refine ⟨q, ?_⟩
        cases b with
        | false => cases e3; exact ⟨h1, h2, h3⟩
        | true =>
          obtain ⟨vs, _, e4⟩ := ob_some.1 e3
          obtain ⟨r, e5, e6⟩ := ob_some.1 e4
          obtain ⟨v, _, e7⟩ := ob_some.1 (show ob (po.run vs) (fun v => some (v, s.h)) = some r from e5)
          cases e7
          cases e6
          exact ⟨h1, h2, h3⟩
      | r ro =>
        refine ⟨q, ?_⟩
        cases b with
        | false => cases e3; exact ⟨h1, h2, h3⟩
        | true =>
          obtain ⟨vs, _, e4⟩ := ob_some.1 e3
          obtain ⟨r, e5, e6⟩ := ob_some.1 e4
          obtain ⟨v, e8, e7⟩ := ob_some.1 (show ob (ro.run vs s.h) (fun v => some (v, s.h)) = some r from e5)
          cases e7
          cases e6
          refine ⟨h1, h2, fun c hc => ?_⟩
          cases hc with
          | head => rw [← h1]; exact e8
          | tail _ hc => exact h3 c hc
      | _ => cases q
    exact checked_quiet main.1 e2 main.2.1 main.2.2.1 main.2.2.2
theorem checked_ok {call : CallT} {l : List COper} {f : F} {h : H} {s : St} (e : runOpsD call l ⟨f, h, [], []⟩ = some s) (k : (Bool.rec (motive := fun _ => Bool) (checkAll s.cs (revL s.hs [s.h])) true (quiet l) : Bool) = true) : Checked s.cs (revL s.hs [s.h]) := by
  cases q : quiet l with
  | false => rw [q] at k; exact checked_of k
  | true =>
    obtain ⟨h1, h2, h3⟩ := checked_quiet q e rfl rfl (fun c hc => by cases hc)
    intro c hc j x e _ _
    rw [h2, h1] at e
    have e : ([h] : List H)[j]? = some x := e
    have : x = h := by simpa using List.mem_of_getElem? e
    rw [this]
    exact h3 c hc
theorem revL_eq {α : Type} : ∀ (l r : List α), revL l r = l.reverse ++ r
  | [], r => rfl
  | x :: l, r => by
    show revL l (x :: r) = _
    rw [revL_eq l]
    simp
theorem sub_len : ∀ {l l' : List Nat}, l.Nodup → (∀ x ∈ l, x ∈ l') → l.length ≤ l'.length
  | [], _, _, _ => Nat.zero_le _
  | x :: l, l', hn, hs => by
    have hx := hs x List.mem_cons_self
    rw [List.nodup_cons] at hn
    have := sub_len (l := l) (l' := l'.erase x) hn.2 fun y hy => by
      have hne : y ≠ x := fun e => hn.1 (e ▸ hy)
      exact (List.mem_erase_of_ne hne).2 (hs y (List.mem_cons_of_mem _ hy))
    rw [List.length_erase_of_mem hx] at this
    have : 0 < l'.length := List.length_pos_of_mem hx
    simp only [List.length_cons]
    omega
end
end Ev
end Go.Proofs.YtbfkbabolhhbaaaGreatDoor
