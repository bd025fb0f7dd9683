/-
  Where memory is left out: the check is right.
-/
import Derived.Test.YtgeccgjpiaiifaaGreatDoorMkEnd
namespace Go.Proofs.YtgeccgjpiaiifaaGreatDoor
namespace Ev
theorem eqCs_ok {cs : Tr V} : ∀ {l : List V} {i : Nat}, eqCs cs l i = true → ∀ j v, l[j]? = some v → cs.get (i + j) = some v
  | [], _, _, j, v, e => by simp at e
  | x :: l, i, h, j, v, e => by
    obtain ⟨h1, h2⟩ := tt2_and.1 (show tt2 (Option.rec (motive := fun _ => Bool) false (fun y => eqV y x) (cs.get i)) (eqCs cs l (Nat.succ i)) = true from h)
    cases j with
    | zero =>
      cases e
      cases hg : cs.get i with
      | none => rw [hg] at h1; cases h1
      | some y =>
        rw [hg] at h1
        have hx : y = x := eqV_eq h1
        rw [hx]
    | succ j =>
      have := eqCs_ok h2 j v (by simpa using e)
      rwa [show Nat.succ i + j = i + (j + 1) by omega] at this
theorem eqEs_ok : ∀ {es l : List (V × V)}, eqEs es l = true → es = l
  | [], [], _ => rfl
  | [], _ :: _, h => by cases h
  | _ :: _, [], h => by cases h
  | (a, b) :: es, (c, d) :: l, h => by
    obtain ⟨h1, h2⟩ := tt2_and.1 (show tt2 (tt2 (eqV a c) (eqV b d)) (eqEs es l) = true from h)
    obtain ⟨h3, h4⟩ := tt2_and.1 h1
    rw [eqV_eq h3, eqV_eq h4, eqEs_ok h2]
theorem LB.ok_le {b : LB} {o : Option Blk} (h : b.ok o = true) : ∃ k, o = some k ∧ BlkLe b.blk k := by
  cases b with
  | c l ch =>
    unfold LB.ok at h
    split at h
    · rename_i l' ch' n cs ch2 heq
      cases heq
      obtain ⟨h1, h2⟩ := tt2_and.1 h
      obtain ⟨h0, h3⟩ := tt2_and.1 h2
      obtain ⟨h3, h4⟩ := tt2_and.1 h3
      have hn := Nat.eq_of_beq_eq_true h1
      have hc := bB_eq h3
      subst hn hc
      refine ⟨_, rfl, .inl ⟨_, _, cs, _, rfl, rfl, fun j v hj hv => ?_⟩⟩
      have hlen : lenL l = l.length := lenL_eq l
      have big : (1000000 : Nat) ≤ keys := by decide
      have hb : lenL l ≤ 1000000 := by simpa using h0
      rw [trOf_get l 0 .e j (by omega), if_pos (by omega)] at hv
      have := eqCs_ok h4 j v (by simpa using hv)
      rwa [Nat.zero_add] at this
    · rename_i heq; cases heq
    · cases h
  | m es od =>
    unfold LB.ok at h
    split at h
    · rename_i heq; cases heq
    · rename_i es1 o1 es2 o2 heq
      cases heq
      obtain ⟨h1, h2⟩ := tt2_and.1 h
      rw [← bB_eq h1, eqEs_ok h2]
      exact ⟨_, rfl, .inr ⟨rfl, rfl⟩⟩
    · cases h
theorem litH_get : ∀ {L : List (Nat × LB)} {n id : Nat} {b : Blk}, (∀ p ∈ L, p.1 < keys) → (litH L n).blk id = some b → (∃ p, p ∈ L ∧ p.1 = id ∧ p.2.blk = b) ∨ ((∀ p ∈ L, p.1 ≠ id) ∧ H0.blk id = some b)
  | [], n, id, b, _, e => .inr ⟨fun p hp => (by cases hp), e⟩
  | p :: L, n, id, b, hk, e => by
    have e : ((litH L n).t.put p.1 (some p.2.blk)).get id = some b := e
    rw [Tr.get_put _ _ _ _ (hk p List.mem_cons_self)] at e
    by_cases h : id = p.1
    · rw [if_pos h] at e
      exact .inl ⟨p, List.mem_cons_self, h.symm, Option.some.inj e⟩
    · rw [if_neg h] at e
      rcases litH_get (L := L) (n := n) (id := id) (fun q hq => hk q (List.mem_cons_of_mem _ hq)) e with ⟨q, h1, h2, h3⟩ | ⟨h1, h2⟩
      · exact .inl ⟨q, List.mem_cons_of_mem _ h1, h2, h3⟩
      · refine .inr ⟨fun q hq => ?_, h2⟩
        cases hq with
        | head => exact fun k => h k.symm
        | tail _ hq => exact h1 q hq
theorem litH_H0 : ∀ {L : List (Nat × LB)} {n id : Nat}, (∀ p ∈ L, p.1 < keys) → (∀ p ∈ L, p.1 ≠ id) → (litH L n).blk id = H0.blk id
  | [], n, id, _, _ => rfl
  | p :: L, n, id, hk, hn => by
    show ((litH L n).t.put p.1 (some p.2.blk)).get id = _
    rw [Tr.get_put _ _ _ _ (hk p List.mem_cons_self), if_neg (fun k => hn p List.mem_cons_self k.symm)]
    exact litH_H0 (L := L) (n := n) (fun q hq => hk q (List.mem_cons_of_mem _ hq)) fun q hq => hn q (List.mem_cons_of_mem _ hq)
theorem H0_two {id : Nat} {b : Blk} (e : H0.blk id = some b) : (id = 0 ∨ id = 1) ∧ b.kin = none := by
  have e : (Tr.put (Tr.put Tr.e 0 (some (.ro (lenL tbl) (trOf tbl 0 .e)))) 1 (some (.ro (lenL tbS) (trOf tbS 0 .e)))).get id = some b := e
  rw [Tr.get_put _ _ _ _ (by decide)] at e
  split at e
  · rename_i h
    cases e
    exact ⟨.inr h, rfl⟩
  · rw [Tr.get_put _ _ _ _ (by decide)] at e
    split at e
    · rename_i h
      cases e
      exact ⟨.inl h, rfl⟩
    · cases e
theorem subOk_all : ∀ {L : List (Nat × LB)} {n : Nat} {h : H}, subOk L n h = true → n = h.next ∧ ∀ p ∈ L, 1 < p.1 ∧ p.1 < keys ∧ p.2.ok (h.blk p.1) = true
  | L, n, h, e => by
    obtain ⟨e1, e2⟩ := tt2_and.1 e
    refine ⟨Nat.eq_of_beq_eq_true e1, ?_⟩
    clear e e1
    induction L with
    | nil => exact fun p hp => by cases hp
    | cons q L ih =>
      obtain ⟨k1, k2⟩ := tt2_and.1 (show tt2 (tt2 (Nat.blt 1 q.1) (Nat.blt q.1 keys)) (tt2 (q.2.ok (h.blk q.1)) _) = true from e2)
      obtain ⟨k3, k4⟩ := tt2_and.1 k1
      obtain ⟨k5, k6⟩ := tt2_and.1 k2
      intro p hp
      cases hp with
      | head => exact ⟨by simpa using k3, by simpa using k4, k5⟩
      | tail _ hp => exact ih k6 p hp
theorem pin01 {g : G} {h : H} (hG : Glob TP g h) : h.blk 0 = H0.blk 0 ∧ h.blk 1 = H0.blk 1 := by
  obtain ⟨tr, ts, e1, e2, hpin⟩ : ∃ tr ts, tr = trOf tbl 0 .e ∧ ts = trOf tbS 0 .e ∧ TP.pin = [(0, 0, 123, tr), (1, 1, 256, ts)] := ⟨_, _, rfl, rfl, rfl⟩
  have h0 := H0_0
  have h1 := H0_1
  rw [← e1] at h0
  rw [← e2] at h1
  have a := (hG _ (by rw [hpin]; exact List.mem_cons_self)).2
  have b := (hG _ (by rw [hpin]; exact List.mem_cons_of_mem _ List.mem_cons_self)).2
  exact ⟨a.trans h0.symm, b.trans h1.symm⟩
theorem At.drop {m N : Nat} {w0 : World} {f : F} {h : H} {g : G} {act : Act} {w : World} (a : At m N w0 f h g act w) {L : List (Nat × LB)} {n : Nat} {fl : AL} (e1 : subOk L n h = true) (e2 : frOk fl f = true) : At m N w0 ⟨fl, []⟩ (litH L n) g act w := by
  obtain ⟨k1, k2⟩ := subOk_all e1
  have hk : ∀ p ∈ L, p.1 < keys := fun p hp => (k2 p hp).2.1
  obtain ⟨p0, p1⟩ := pin01 a.seg.glob
  refine ⟨a.seg.drop ⟨k1, fun id b' e => ?_⟩ (litH_H0 hk fun p hp => by have := (k2 p hp).1; omega) (litH_H0 hk fun p hp => by have := (k2 p hp).1; omega), ⟨a.fr.1, fun t v e => a.fr.2 t v ?_⟩, a.marks⟩
  · rcases litH_get hk e with ⟨p, q1, rfl, rfl⟩ | ⟨_, q⟩
    · exact LB.ok_le (k2 p q1).2.2
    · obtain ⟨q1, q2⟩ := H0_two q
      refine ⟨b', ?_, .inr ⟨rfl, q2⟩⟩
      rcases q1 with rfl | rfl
      · rw [p0]; exact q
      · rw [p1]; exact q
  · have key : ∀ {l : AL}, frOk l f = true → lk l t = some v → lk f.loc t = some v := by
      intro l
      induction l with
      | nil => intro _ e; cases e
      | cons p l ih =>
        intro hl e
        obtain ⟨m1, m2⟩ := tt2_and.1 (show tt2 (Option.rec (motive := fun _ => Bool) false (fun y => eqV y p.2) (lk f.loc p.1)) (frOk l f) = true from hl)
        have e : (Bool.rec (motive := fun _ => Option V) (lk l t) (some p.2) (Nat.beq p.1 t) : Option V) = some v := e
        cases hb : Nat.beq p.1 t with
        | false => rw [hb] at e; exact ih m2 e
        | true =>
          rw [hb] at e
          cases e
          obtain rfl := Nat.eq_of_beq_eq_true hb
          cases hg : lk f.loc p.1 with
          | none => rw [hg] at m1; cases m1
          | some y => rw [hg] at m1; rw [eqV_eq m1]
    unfold rdn at e ⊢
    by_cases hb : bit m t = true
    · rw [if_pos hb] at e ⊢
      exact key e2 e
    · rw [if_neg hb] at e
      cases e
end Ev
end Go.Proofs.YtgeccgjpiaiifaaGreatDoor
