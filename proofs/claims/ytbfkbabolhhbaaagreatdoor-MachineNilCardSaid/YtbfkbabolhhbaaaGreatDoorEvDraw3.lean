/-
  A region that draws its order: whatever the order, what the chosen order has computed.
-/
import Derived.Test.YtbfkbabolhhbaaaGreatDoorEvDraw2
namespace Go.Proofs.YtbfkbabolhhbaaaGreatDoor
namespace Ev
variable [Opq]
set_option linter.unusedSectionVars false
section
variable {P : Program} {T : Ty} {m N : Nat}

/-- The entry has made a block. -/
def Made (cl : List COper) (e : Ent) (blk : Blk) : Prop :=
  ∃ c ao vs mk, cl[e.i]? = some c ∧ c.op = .a ao ∧ guardOk e.s.f c.guard = some true ∧ evs e.s.f c.args = some vs ∧ ao.run vs = some (blk, mk) ∧ e.v = mk e.s.h.next
theorem cellsBlk_kin {l : List V} {blk : Blk} (h : cellsBlk l = some blk) : blk.kin = some (none, false) := by
  obtain ⟨_, h2⟩ := oif_some.1 h
  obtain ⟨_, h4⟩ := oif_some.1 h2
  cases h4
  rfl
theorem aop_kin {ao : AOp} {vs : List V} {blk : Blk} {mk : Nat → V} (h : ao.run vs = some (blk, mk)) : blk.kin = none ∨ blk.kin = some (none, false) := by
  cases ao with
  | alloc cs =>
    cases vs with
    | nil =>
      obtain ⟨b, k1, k2⟩ := ob_some.1 (show ob (cellsBlk cs) (fun b => some (b, fun i => V.ptr i 0)) = some (blk, mk) from h)
      cases k2
      exact .inr (cellsBlk_kin k1)
    | cons => cases h
  | box =>
    cases vs with
    | nil => cases h
    | cons x vs => cases vs with
      | nil =>
        obtain ⟨b, k1, k2⟩ := ob_some.1 (show ob (cellsBlk (cellsOf x)) (fun b => some (b, fun i => V.ptr i 0)) = some (blk, mk) from h)
        cases k2
        exact .inr (cellsBlk_kin k1)
      | cons => cases h
  | bslice z ln es ps =>
    obtain ⟨cs, k1, k2⟩ := ob_some.1 (show ob (fills ps vs (repL z ln)) (fun cs => ob (cellsBlk cs) fun b => some (b, fun i => V.sl i 0 ln ln true es)) = some (blk, mk) from h)
    obtain ⟨b, k3, k4⟩ := ob_some.1 k2
    cases k4
    exact .inr (cellsBlk_kin k3)
  | mkm r =>
    cases r with
    | false => cases vs with
      | nil => cases h; exact .inl rfl
      | cons => cases h
    | true => cases vs with
      | nil => cases h
      | cons x vs => cases vs with
        | nil => cases x <;> cases h; exact .inl rfl
        | cons => cases x <;> cases h
  | mks z bytes =>
    cases vs with
    | nil => cases h
    | cons x vs => cases vs with
      | nil => cases x <;> first | (cases h; done) | (rename_i k _; cases k <;> cases h)
      | cons y vs => cases vs with
        | cons => cases x <;> first | (cases h; done) | (rename_i k _; cases k <;> first | (cases h; done) | (cases y <;> first | (cases h; done) | (rename_i k _; cases k <;> cases h)))
        | nil =>
          cases x <;> try (cases h; done)
          rename_i k1 n1
          cases k1 <;> try (cases h; done)
          cases y <;> try (cases h; done)
          rename_i k2 n2
          cases k2 <;> try (cases h; done)
          cases n1 <;> try (cases h; done)
          cases n2 <;> try (cases h; done)
          rename_i l' c'
          obtain ⟨q1, q2⟩ := oif_some.1 (show oif (Nat.ble l' c') (oif (Nat.blt (Nat.mul c' bytes) 1099511627776) (oif (Nat.blt c' 1099511627776) (ob (cellsBlk (repL z c')) fun b => some (b, fun i => V.sl i 0 l' c' true (lenL z))))) = some (blk, mk) from h)
          obtain ⟨q3, q4⟩ := oif_some.1 q2
          obtain ⟨q5, q6⟩ := oif_some.1 q4
          obtain ⟨b, q7, q8⟩ := ob_some.1 q6
          cases q8
          exact .inr (cellsBlk_kin q7)
  | rangeS =>
    cases vs with
    | nil => cases h
    | cons x vs => cases vs with
      | nil => cases x <;> cases h; exact .inl rfl
      | cons => cases x <;> cases h
theorem Ext.mem {g0 g : G} {h0 h h' : H} {w0 w : World} (x : Ext T g0 h0 w0 g h w) (r : WR T g h' w) (hn : h.next ≤ h'.next) (hb : ∀ id, id < h.next → h'.blk id = h.blk id) : Ext T g0 h0 w0 g h' w := by
  refine ⟨x.le, Nat.le_trans x.next hn, r, fun id hi e => ?_, x.size, x.keep, x.fresh, fun id b o z n cs e1 e2 => ?_, x.os, x.tape, x.output⟩
  · obtain ⟨k1, k2⟩ := x.un id hi e
    exact ⟨k1, (hb id (Nat.lt_of_lt_of_le hi x.next)).trans k2⟩
  · obtain ⟨k1, k2⟩ := x.ro id b o z n cs e1 e2
    exact ⟨(hb id (x.wr.top _ _ k1)).trans k1, k2⟩
/-- The operations up to the next one that writes: new blocks, that nothing stands for yet. -/
theorem seg_ok {call : CallT} {cl : List COper} {hi : Nat → Nat} : ∀ {B : List Ent} {k : Nat} {s sn : St}, Trace call cl hi k s B sn → ∀ {g : G} {w : World}, WR T g s.h w → ∃ S B' s', B = S ++ B' ∧ Trace call cl hi k s S s' ∧ Trace call cl hi k s' B' sn ∧
    (∀ e B'', B' = e :: B'' → isEAt cl e.i = true) ∧ (∀ e ∈ S, isEAt cl e.i = false) ∧ WR T g s'.h w ∧ s.h.next ≤ s'.h.next ∧ (∀ id, id < s.h.next → s'.h.blk id = s.h.blk id) ∧
    (∀ e ∈ S, ∀ blk, Made cl e blk → s.h.next ≤ e.s.h.next ∧ e.s.h.next < s'.h.next ∧ s'.h.blk e.s.h.next = some blk) ∧
    (∀ e ∈ S, ∀ e' ∈ S, ∀ b b', Made cl e b → Made cl e' b' → e.s.h.next = e'.s.h.next → e = e')
  | [], k, s, sn, h, g, w, r => by
    cases h
    exact ⟨[], [], s, rfl, .nil, .nil, by simp, by simp, r, Nat.le_refl _, fun _ _ => rfl, by simp, by simp⟩
  | e :: B, k, s, sn, h, g, w, r => by
    obtain ⟨rfl, rfl, c, s1, hc, st, t⟩ := h.head
    have hEc := isEAt_eq hc
    by_cases hE : isE c.op = true
    · refine ⟨[], e :: B, e.s, rfl, .nil, h, fun e' B'' he => ?_, by simp, r, Nat.le_refl _, fun _ _ => rfl, by simp, by simp⟩
      cases he
      rw [hEc]
      exact hE
    · rw [if_neg hE] at t
      -- the memory behind this one
      have hmem : (s1.h = e.s.h ∧ ∀ blk, ¬ Made cl e blk) ∨ ∃ blk, e.s.h.new blk = some s1.h ∧ (blk.kin = none ∨ blk.kin = some (none, false)) ∧ ∀ blk', Made cl e blk' → blk' = blk := by
        rcases st.main with ⟨h1, h2, h3, h4⟩ | ⟨vs, h1, h2, h3, h4, h5⟩
        · refine .inl ⟨h3, fun blk hm => ?_⟩
          obtain ⟨c', ao, vs', mk, m1, m2, m3, _⟩ := hm
          rw [hc] at m1
          cases m1
          have h1 : guardOk e.s.f c.guard = some false := h1
          rw [h1] at m3
          cases m3
        · have hrun : c.op.run call vs e.s.h = some (e.v, s1.h) := h3
          have hev : evs e.s.f c.args = some vs := h2
          have other : (∀ ao, c.op ≠ .a ao) → ∀ blk, ¬ Made cl e blk := by
            intro hn blk hm
            obtain ⟨c', ao, vs', mk, m1, m2, _⟩ := hm
            rw [hc] at m1
            cases m1
            exact hn ao m2
          cases hop : c.op with
          | p o =>
            rw [hop] at hrun
            obtain ⟨u, k1, k2⟩ := ob_some.1 (show ob (o.run vs) (fun v => some (v, e.s.h)) = some (e.v, s1.h) from hrun)
            exact .inl ⟨(Prod.mk.inj (Option.some.inj k2)).2.symm, other fun ao he => by rw [hop] at he; cases he⟩
          | r o =>
            rw [hop] at hrun
            obtain ⟨u, k1, k2⟩ := ob_some.1 (show ob (o.run vs e.s.h) (fun v => some (v, e.s.h)) = some (e.v, s1.h) from hrun)
            exact .inl ⟨(Prod.mk.inj (Option.some.inj k2)).2.symm, other fun ao he => by rw [hop] at he; cases he⟩
          | a ao =>
            rw [hop] at hrun
            obtain ⟨p, k1, k2⟩ := ob_some.1 (show ob (ao.run vs) (fun r => ob (e.s.h.new r.1) fun h' => some (r.2 e.s.h.next, h')) = some (e.v, s1.h) from hrun)
            obtain ⟨h', k3, k4⟩ := ob_some.1 k2
            have k5 : h' = s1.h := (Prod.mk.inj (Option.some.inj k4)).2
            refine .inr ⟨p.1, k5 ▸ k3, aop_kin (blk := p.1) (mk := p.2) k1, fun blk' hm => ?_⟩
            obtain ⟨c', ao', vs', mk, m1, m2, m3, m4, m5, _⟩ := hm
            rw [hc] at m1
            cases m1
            rw [hop] at m2
            cases m2
            rw [hev] at m4
            cases m4
            rw [k1] at m5
            have := Option.some.inj m5
            rw [this]
          | e o => rw [hop] at hE; exact absurd rfl hE
          | call f => rw [hop] at hE; exact absurd rfl hE
          | callv => rw [hop] at hE; exact absurd rfl hE
      rcases hmem with ⟨hs, hnm⟩ | ⟨blk, hnew, hkin, hone⟩
      · obtain ⟨S, B', s', q1, q2, q3, q4, q5, q6, q7, q8, q9, q10⟩ := seg_ok t (g := g) (w := w) (by rw [hs]; exact r)
        rw [hs] at q7 q8 q9
        refine ⟨e :: S, B', s', by rw [q1]; rfl, Trace.cons hc st (by rw [if_neg hE]; exact q2), q3, q4, fun x hx => ?_, q6, q7, q8, fun x hx blk hm => ?_, fun x hx y hy b b' hm hm' he => ?_⟩
        · cases hx with
          | head => rw [hEc]; simpa using hE
          | tail _ hx => exact q5 x hx
        · cases hx with
          | head => exact absurd hm (hnm blk)
          | tail _ hx => exact q9 x hx blk hm
        · cases hx with
          | head => exact absurd hm (hnm b)
          | tail _ hx =>
            cases hy with
            | head => exact absurd hm' (hnm b')
            | tail _ hy => exact q10 x hx y hy b b' hm hm' he
      · obtain ⟨r1, n1, n2, n3⟩ := r.add hnew hkin
        obtain ⟨S, B', s', q1, q2, q3, q4, q5, q6, q7, q8, q9, q10⟩ := seg_ok t (g := g) (w := w) r1
        have hown : s'.h.blk e.s.h.next = some blk := by rw [q8 _ (by omega), n2, if_pos rfl]
        refine ⟨e :: S, B', s', by rw [q1]; rfl, Trace.cons hc st (by rw [if_neg hE]; exact q2), q3, q4, fun x hx => ?_, q6, by omega, fun id hid => ?_, fun x hx blk' hm => ?_, fun x hx y hy b b' hm hm' he => ?_⟩
        · cases hx with
          | head => rw [hEc]; simpa using hE
          | tail _ hx => exact q5 x hx
        · rw [q8 id (by omega), n2, if_neg (by omega)]
        · cases hx with
          | head =>
            rw [hone blk' hm]
            exact ⟨Nat.le_refl _, by omega, hown⟩
          | tail _ hx =>
            obtain ⟨z1, z2, z3⟩ := q9 x hx blk' hm
            exact ⟨by omega, z2, z3⟩
        · cases hx with
          | head =>
            cases hy with
            | head => rfl
            | tail _ hy =>
              obtain ⟨z1, _, _⟩ := q9 y hy b' hm'
              omega
          | tail _ hx =>
            cases hy with
            | head =>
              obtain ⟨z1, _, _⟩ := q9 x hx b hm
              omega
            | tail _ hy => exact q10 x hx y hy b b' hm hm' he
end
end Ev
end Go.Proofs.YtbfkbabolhhbaaaGreatDoor
