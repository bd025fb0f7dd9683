/-
  A cell is written.
-/
import Derived.Test.YtbfkbabolhhbaaaGreatDoorEvMem
namespace Go.Proofs.YtbfkbabolhhbaaaGreatDoor
namespace Ev
variable [Opq]
set_option linter.unusedSectionVars false

/-- The same memory with less known of it. -/
def Less (h h' : H) : Prop := h'.next = h.next ∧ ∀ j, h'.blk j = h.blk j ∨
  ∃ n cs cs' up ch, h.blk j = some (.cells n cs up ch) ∧ h'.blk j = some (.cells n cs' up ch) ∧ ∀ q v, cs'.get q = some v → cs.get q = some v
theorem Less.refl (h : H) : Less h h := ⟨rfl, fun _ => .inl rfl⟩
theorem Less.trans {a b c : H} (h : Less a b) (k : Less b c) : Less a c := by
  refine ⟨k.1.trans h.1, fun j => ?_⟩
  rcases h.2 j with e1 | ⟨n, cs, cs', up, ch, e1, e2, e3⟩
  · rcases k.2 j with e4 | ⟨n, cs, cs', up, ch, e4, e5, e6⟩
    · exact .inl (e4.trans e1)
    · exact .inr ⟨n, cs, cs', up, ch, e1 ▸ e4, e5, e6⟩
  · rcases k.2 j with e4 | ⟨n', cs1, cs2, up', ch', e4, e5, e6⟩
    · exact .inr ⟨n, cs, cs', up, ch, e1, e4.trans e2, e3⟩
    · rw [e2] at e4
      cases e4
      exact .inr ⟨n, cs, cs2, up, ch, e1, e5, fun q v hq => e3 q v (e6 q v hq)⟩
theorem Less.kin {h h' : H} (l : Less h h') : Kin h h' := by
  intro i b k e1 e2
  rcases l.2 i with e | ⟨n, cs, cs', up, ch, e3, e4, _⟩
  · exact ⟨b, e.trans e1, e2⟩
  · rw [e3] at e1
    cases e1
    exact ⟨_, e4, e2⟩
theorem Less.back {h h' : H} (l : Less h h') {i : Nat} {b : Blk} (e : h'.blk i = some b) : ∃ b', h.blk i = some b' ∧ b'.kin = b.kin ∧ b'.live = b.live ∧ b'.len = b.len := by
  rcases l.2 i with k | ⟨n, cs, cs', up, ch, e3, e4, _⟩
  · exact ⟨b, k ▸ e, rfl, rfl, rfl⟩
  · rw [e4] at e
    cases e
    exact ⟨_, e3, rfl, rfl, rfl⟩
theorem Less.isRo {h h' : H} (l : Less h h') {i : Nat} {b b' : Blk} (e1 : h.blk i = some b) (e2 : b.isRo = true) (e3 : h'.blk i = some b') : b'.isRo = true := by
  rcases l.2 i with k | ⟨n, cs, cs', up, ch, k1, k2, _⟩
  · rw [k, e1] at e3
    cases e3
    exact e2
  · rw [e1] at k1
    cases k1
    cases e2
theorem Less.wr {T : Ty} {g : G} {h h' : H} {w : World} (l : Less h h') (r : WR T g h w) : WR T g h' w := by
  refine ⟨l.1 ▸ r.bound, fun id b e => ?_, fun id x e => l.1 ▸ r.dom id x e, r.lt, fun id x b e1 e2 => ?_, fun i j b o z o' z' bi bj hij e1 e2 e3 e4 l1 l2 => ?_, fun i b j d ch e1 e2 => ?_, fun i b j d ch b' e1 e2 e3 => ?_⟩
  · obtain ⟨b', e', _⟩ := l.back e
    exact l.1 ▸ r.top _ _ e'
  · rcases l.2 id with k | ⟨n, cs, cs', up, ch, e3, e4, e5⟩
    · exact r.blk id x b e1 (k ▸ e2)
    · rw [e4] at e2
      cases e2
      obtain ⟨b, o, z, c, t, k1, k2, k3, k4, k5, k6⟩ := r.blk id x _ e1 e3
      exact ⟨b, o, z, c, t, k1, k2, k3, k4, k5, fun j v hj hv => k6 j v hj (e5 j v hv)⟩
  · obtain ⟨b1, m1, m2, m3, _⟩ := l.back e3
    obtain ⟨b2, m4, m5, m6, _⟩ := l.back e4
    rcases r.mates i j b o z o' z' b1 b2 hij e1 e2 m1 m4 (m3.trans l1) (m6.trans l2) with ⟨d, u, e⟩ | ⟨d, u, e⟩ | ⟨x1, x2⟩
    · exact .inl ⟨d, u.kin l.kin, e⟩
    · exact .inr (.inl ⟨d, u.kin l.kin, e⟩)
    · exact .inr (.inr ⟨l.isRo m1 x1 e3, l.isRo m4 x2 e4⟩)
  · obtain ⟨b1, m1, m2, m3⟩ := l.back e1
    obtain ⟨b2, up, m4, m5, m8⟩ := r.kids i b1 j d ch m1 (m2.trans e2)
    obtain ⟨b3, m6, m7⟩ := l.kin _ _ _ m4 m5
    exact ⟨b3, up, m6, m7, m8⟩
  · obtain ⟨b1, m1, m2, _, m3⟩ := l.back e1
    obtain ⟨b2, m4, _, _, m5⟩ := l.back e3
    have := r.ext i b1 j d ch b2 m1 (m2.trans e2) m4
    omega

/-- A cell of which nothing is known. -/
def Gone (h : H) (j q : Nat) : Prop := ∀ n cs up ch, h.blk j = some (.cells n cs up ch) → cs.get q = none
theorem Gone.less {h h' : H} (l : Less h h') {j q : Nat} (k : Gone h j q) : Gone h' j q := by
  intro n cs up ch e
  rcases l.2 j with e1 | ⟨n', cs1, cs2, up', ch', e1, e2, e3⟩
  · exact k n cs up ch (e1 ▸ e)
  · rw [e2] at e
    cases e
    have := k _ _ _ _ e1
    cases hq : cs.get q with
    | none => rfl
    | some v => rw [e3 q v hq] at this; cases this
theorem forget_zero (up : Option (Nat × Nat)) (i : Nat) (h : H) : forget 0 up i h = Option.rec (motive := fun _ => Option H) (some h) (fun _ => none) up := rfl
theorem forget_succ (f : Nat) (up : Option (Nat × Nat)) (i : Nat) (h : H) : forget (f + 1) up i h = Option.rec (motive := fun _ => Option H) (some h)
      (fun p => ob (h.blk p.1) fun b => match b with
        | .cells n cs up' child => oif (Nat.blt (Nat.add p.2 i) keys) <| forget f up' (Nat.add p.2 i) ⟨h.t.put p.1 (some (.cells n (cs.put (Nat.add p.2 i) none) up' child)), h.next⟩
        | .dead => some h
        | _ => none) up := rfl
theorem forget_ok (f : Nat) : ∀ (up : Option (Nat × Nat)) (i : Nat) (h h' : H), (∀ j b, h.blk j = some b → j < keys) → forget f up i h = some h' →
    Less h h' ∧ (∀ p d, up = some (p, d) → Gone h' p (d + i) ∧ ∀ j e, Up h p j e → Gone h' j (e + d + i)) ∧
    ∀ j, (∀ p d, up = some (p, d) → j ≠ p ∧ ∀ e, ¬ Up h p j e) → h'.blk j = h.blk j := by
  induction f with
  | zero =>
    intro up i h h' _ e
    cases up with
    | none => rw [forget_zero] at e; cases e; exact ⟨.refl _, (fun _ _ k => by cases k), fun _ _ => rfl⟩
    | some p => rw [forget_zero] at e; cases e
  | succ f ih =>
    intro up i h h' hb e
    cases up with
    | none => rw [forget_succ] at e; cases e; exact ⟨.refl _, (fun _ _ k => by cases k), fun _ _ => rfl⟩
    | some pd =>
      obtain ⟨p, dp⟩ := pd
      rw [forget_succ] at e
      obtain ⟨b, e1, e2⟩ := ob_some.1 e
      clear e
      simp only [] at e1 e2
      cases b with
      | cells n cs up' ch =>
        obtain ⟨e3, e4⟩ := oif_some.1 e2
        clear e2
        have hk : dp + i < keys := by simpa using e3
        have hp := hb _ _ e1
        generalize hc : (⟨h.t.put p (some (.cells n (cs.put (Nat.add dp i) none) up' ch)), h.next⟩ : H) = hx at e4
        have hblk : ∀ j, hx.blk j = if j = p then some (.cells n (cs.put (dp + i) none) up' ch) else h.blk j := fun j => by rw [← hc]; exact blk_put h p j _ _ hp
        have hnext : hx.next = h.next := by rw [← hc]
        clear hc
        have l1 : Less h hx := by
          refine ⟨hnext, fun j => ?_⟩
          by_cases hj : j = p
          · subst hj
            refine .inr ⟨n, cs, _, up', ch, e1, by rw [hblk, if_pos rfl], fun q v hq => ?_⟩
            rw [Tr.get_put cs _ _ _ hk] at hq
            split at hq
            · cases hq
            · exact hq
          · exact .inl (by rw [hblk, if_neg hj])
        have g1 : Gone hx p (dp + i) := by
          intro n' cs' up'' ch' e5
          rw [hblk, if_pos rfl] at e5
          cases e5
          rw [Tr.get_put cs _ _ _ hk, if_pos rfl]
        obtain ⟨l2, k2, k3⟩ := ih _ _ _ _ (fun j b e5 => by
          obtain ⟨b', e6, _⟩ := l1.back e5
          exact hb _ _ e6) e4
        have step : ∀ {q d' : Nat}, up' = some (q, d') → Gone h' q (d' + (dp + i)) ∧ ∀ j e, Up h q j e → Gone h' j (e + d' + (dp + i)) := fun e5 => by
          obtain ⟨m1, m2⟩ := k2 _ _ e5
          exact ⟨m1, fun j e u => m2 j e (u.kin l1.kin)⟩
        have kinback : Kin hx h := by
          intro j b k f1 f2
          obtain ⟨b', f3, f4, _⟩ := l1.back f1
          exact ⟨b', f3, f4.trans f2⟩
        refine ⟨l1.trans l2, fun p' d ep => ?_, fun j hj => ?_⟩
        · cases ep
          refine ⟨g1.less l2, fun j x u => ?_⟩
          cases u with
          | one e5 k5 =>
            rw [e1] at e5
            cases e5
            simp only [Blk.kin, Option.some.injEq, Prod.mk.injEq] at k5
            have := (step k5.1).1
            rwa [← Nat.add_assoc] at this
          | step e5 k5 u5 =>
            rw [e1] at e5
            cases e5
            simp only [Blk.kin, Option.some.injEq, Prod.mk.injEq] at k5
            have := (step k5.1).2 _ _ u5
            rw [← Nat.add_assoc] at this
            rwa [show ∀ a b : Nat, a + b + dp + i = a + b + dp + i from fun _ _ => rfl] at this
        · obtain ⟨j1, j2⟩ := hj p dp rfl
          rw [k3 j fun q d' e5 => ?_, hblk, if_neg j1]
          subst e5
          refine ⟨fun h1 => ?_, fun e u => ?_⟩
          · subst h1
            exact j2 _ (.one e1 rfl)
          · exact j2 _ (.step e1 rfl (u.kin kinback))
      | dead =>
        cases e2
        refine ⟨.refl _, fun p' d ep => ?_, fun _ _ => rfl⟩
        cases ep
        refine ⟨fun n cs up ch e5 => (by rw [e1] at e5; cases e5), fun j x u => ?_⟩
        obtain ⟨b, y, ch, e5, e6⟩ := u.first
        rw [e1] at e5
        cases e5
        cases e6
      | ro => cases e2
      | map => cases e2
      | siter => cases e2
      | loop => cases e2
      | miter => cases e2

theorem oneCell_of {g : G} {v : V} {u : Value} (h : VR g v u) (k : oneCell v = true) : u.oneCell' = true := by
  cases h <;> first | rfl | (cases k; done) | skip
  rename_i k' h'
  rcases Opq.one k' with ⟨n, e⟩ | ⟨n, e⟩ | ⟨a, l, c, e⟩ <;> (rw [e] at h'; subst h'; rfl)

theorem heap_setCell {w : World} {b o : Nat} {c : Array Value} {t : TypeId} {fz : Nat × Nat} (u : Value) (h : w.heap[b]? = some (.cells c t fz)) :
    (w.setCell ⟨b, o, none⟩ u).heap[b]? = some (.cells (c.setIfInBounds o u) t fz) := by
  show (w.heap.modify b _)[b]? = _
  rw [Array.getElem?_modify, if_pos rfl, h]
  rfl
theorem heap_setCell_ne {w : World} {b o j : Nat} (u : Value) (h : j ≠ b) : (w.setCell ⟨b, o, none⟩ u).heap[j]? = w.heap[j]? := by
  simp only [World.setCell]
  rw [Array.getElem?_modify, if_neg (fun e => h e.symm)]

theorem Ext.wr1 {T : Ty} {g : G} {h h' : H} {w : World} (r : WR T g h w) {id i b o z : Nat} {v : V} {u : Value} (e : h.wr1 id i v = some h') (eg : g id = some (b, o, z)) (hv : VR g v u) :
    Ext T g h w g h' (w.setCell ⟨b, o + i, none⟩ u) ∧ (∃ x, w.cell? ⟨b, o + i, none⟩ = some x) ∧ w.frozen? ⟨b, o + i, none⟩ = false := by
  unfold H.wr1 at e
  obtain ⟨k, e1, e2⟩ := ob_some.1 e
  cases k with
  | cells n cs up ch =>
    simp only [] at e2
    obtain ⟨hc, e3⟩ := oif_some.1 e2
    obtain ⟨hin, e4⟩ := oif_some.1 e3
    obtain ⟨hone, e5⟩ := oif_some.1 e4
    obtain ⟨h1, e6, e7⟩ := ob_some.1 e5
    cases e7
    have hch : ch = false := by simpa using hc
    subst hch
    have hlt : i < n := by simpa using hin
    have hid : id < keys := Nat.lt_of_lt_of_le (r.dom _ _ eg) r.bound
    obtain ⟨less, gone, same⟩ := forget_ok 64 up i h h1 (fun j b e => Nat.lt_of_lt_of_le (r.top _ _ e) r.bound) e6
    obtain ⟨b', o', z', c, t, k1, k2, k3, k4, k5, k6⟩ := r.blk id _ _ eg e1
    rw [eg] at k1
    cases k1
    have hcell : ∃ x, c[o + i]? = some x := ⟨_, Array.getElem?_eq_getElem (by omega)⟩
    have hw := heap_setCell (o := o + i) u k2
    have r1 := less.wr r
    have hblk : ∀ j, (⟨h1.t.put id (some (.cells n (cs.put i (some v)) up false)), h1.next⟩ : H).blk j = if j = id then some (.cells n (cs.put i (some v)) up false) else h1.blk j := fun j => blk_put h1 id j _ _ hid
    have kin : Kin h1 ⟨h1.t.put id (some (.cells n (cs.put i (some v)) up false)), h1.next⟩ := by
      intro j q k f1 f2
      by_cases hj : j = id
      · subst hj
        obtain ⟨q', m1, m2, _⟩ := less.back f1
        rw [e1] at m1
        cases m1
        exact ⟨.cells n (cs.put i (some v)) up false, by rw [hblk, if_pos rfl], m2.trans f2⟩
      · exact ⟨q, by rw [hblk, if_neg hj]; exact f1, f2⟩
    have old : ∀ {j : Nat} {q : Blk}, (⟨h1.t.put id (some (.cells n (cs.put i (some v)) up false)), h1.next⟩ : H).blk j = some q → ∃ q', h.blk j = some q' ∧ q'.kin = q.kin ∧ q'.live = q.live ∧ q'.len = q.len := by
      intro j q f
      rw [hblk] at f
      by_cases hj : j = id
      · subst hj
        rw [if_pos rfl] at f
        cases f
        exact ⟨_, e1, rfl, rfl, rfl⟩
      · rw [if_neg hj] at f
        exact less.back f
    have wr : WR T g ⟨h1.t.put id (some (.cells n (cs.put i (some v)) up false)), h1.next⟩ (w.setCell ⟨b, o + i, none⟩ u) := by
      refine ⟨r1.bound, fun j q f => ?_, r1.dom, fun j b' o' z' f => ?_, fun j x q f1 f2 => ?_, fun j l b' o1 z1 o2 z2 bj bl hjl f1 f2 f3 f4 l1 l2 => ?_, fun j q l d ch f1 f2 => ?_, fun j q l d ch q' f1 f2 f3 => ?_⟩
      · obtain ⟨q', m1, _⟩ := old f
        exact less.1 ▸ r.top _ _ m1
      · rw [World.size_setCell]; exact r.lt _ _ _ _ f
      · obtain ⟨b', o', z'⟩ := x
        by_cases hj : j = id
        · subst hj
          rw [hblk, if_pos rfl] at f2
          cases f2
          rw [eg] at f1
          cases f1
          refine ⟨b, o, z, _, t, eg, hw, by rw [Array.size_setIfInBounds]; exact k3, k4, k5, fun q x hq hx => ?_⟩
          rw [Tr.get_put cs i q _ (by omega)] at hx
          by_cases hqi : q = i
          · subst hqi
            rw [if_pos rfl] at hx
            cases hx
            exact ⟨u, by rw [Array.getElem?_setIfInBounds_self_of_lt (by omega)], hv, hone⟩
          · rw [if_neg hqi] at hx
            obtain ⟨x', m1, m2, m3⟩ := k6 q x hq hx
            exact ⟨x', by rw [Array.getElem?_setIfInBounds_ne (by omega)]; exact m1, m2, m3⟩
        · rw [hblk, if_neg hj] at f2
          by_cases hb : b' = b
          · subst hb
            cases lq : q.live with
            | false => cases q <;> first | trivial | cases lq
            | true =>
              obtain ⟨q', m1, m2, m3, _⟩ := less.back f2
              rcases r.mates id j b' o z o' z' _ q' (fun h => hj h.symm) eg f1 e1 m1 rfl (m3.trans lq) with ⟨d, up', ed⟩ | ⟨d, up', ed⟩ | ⟨x1, _⟩
              · have hgone : Gone h1 j (d + i) := by
                  cases up' with
                  | one f5 f6 =>
                    rw [e1] at f5
                    cases f5
                    simp only [Blk.kin, Option.some.injEq, Prod.mk.injEq] at f6
                    exact (gone _ _ f6.1).1
                  | step f5 f6 f7 =>
                    rw [e1] at f5
                    cases f5
                    simp only [Blk.kin, Option.some.injEq, Prod.mk.injEq] at f6
                    exact (gone _ _ f6.1).2 _ _ f7
                obtain ⟨bq, upq, m4, m5⟩ := r.last up'
                rw [m1] at m4
                cases m4
                cases q with
                | cells n' cs' up'' ch' =>
                  obtain ⟨b2, o2, z2, c2, t2, p1, p2, p3, p4, p5, p6⟩ := r1.blk j _ _ f1 f2
                  rw [f1] at p1
                  cases p1
                  rw [k2] at p2
                  cases p2
                  refine ⟨b', o', z', _, t, f1, hw, by rw [Array.size_setIfInBounds]; exact p3, p4, p5, fun q x hq hx => ?_⟩
                  obtain ⟨x', m6, m7, m8⟩ := p6 q x hq hx
                  have hne : q ≠ d + i := by
                    intro hq2
                    subst hq2
                    rw [hgone _ _ _ _ f2] at hx
                    cases hx
                  exact ⟨x', by rw [Array.getElem?_setIfInBounds_ne (by omega)]; exact m6, m7, m8⟩
                | _ => rw [m2] at m5; cases m5
              · obtain ⟨bq, upq, m4, m5⟩ := r.last up'
                rw [e1] at m4
                cases m4
                cases m5
              · cases x1
          · exact BR.move f1 (heap_setCell_ne u hb) (r1.blk _ _ _ f1 f2)
      · obtain ⟨q1, m1, m2, m3, _⟩ := old f3
        obtain ⟨q2, m4, m5, m6, _⟩ := old f4
        rcases r.mates j l b' o1 z1 o2 z2 q1 q2 hjl f1 f2 m1 m4 (m3.trans l1) (m6.trans l2) with ⟨d, u, e⟩ | ⟨d, u, e⟩ | ⟨x1, x2⟩
        · exact .inl ⟨d, (u.kin less.kin).kin kin, e⟩
        · exact .inr (.inl ⟨d, (u.kin less.kin).kin kin, e⟩)
        · have ne : ∀ {x : Nat} {q q' : Blk}, h.blk x = some q → q.isRo = true → (⟨h1.t.put id (some (.cells n (cs.put i (some v)) up false)), h1.next⟩ : H).blk x = some q' → q'.isRo = true := by
            intro x q q' g1 g2 g3
            rw [hblk] at g3
            by_cases hx : x = id
            · subst hx
              rw [e1] at g1
              cases g1
              cases g2
            · rw [if_neg hx] at g3
              exact less.isRo g1 g2 g3
          exact .inr (.inr ⟨ne m1 x1 f3, ne m4 x2 f4⟩)
      · obtain ⟨q1, m1, m2, m3, _⟩ := old f1
        obtain ⟨q2, up', m4, m5, m10⟩ := r.kids j q1 l d ch m1 (m2.trans f2)
        obtain ⟨q3, m6, m7⟩ := less.kin _ _ _ m4 m5
        obtain ⟨q4, m8, m9⟩ := kin _ _ _ m6 m7
        exact ⟨q4, up', m8, m9, m10⟩
      · obtain ⟨q1, m1, m2, _, m3⟩ := old f1
        obtain ⟨q2, m4, _, _, m5⟩ := old f3
        have := r.ext j q1 l d ch q2 m1 (m2.trans f2) m4
        omega
    refine ⟨⟨g.le_refl, Nat.le_of_eq less.1.symm, wr, fun j hj f => ⟨f, ?_⟩, by rw [World.size_setCell]; exact Nat.le_refl _, fun j _ hn => heap_setCell_ne u fun hj => hn id o z (hj ▸ eg), (fun j b' o' z' f1 f2 => by rw [f2] at f1; cases f1), fun j b' o' z' n' cs' f1 f2 => ?_, rfl, rfl, rfl⟩, ?_, ?_⟩
    · have hne : j ≠ id := by
        intro h2
        subst h2
        rw [eg] at f
        cases f
      rw [hblk, if_neg hne]
      refine same j fun p d ep => ?_
      subst ep
      refine ⟨fun h2 => ?_, fun e u => ?_⟩
      · subst h2
        exact r.placed (.one e1 rfl) (by rw [eg]; exact fun h => by cases h) f
      · exact r.placed (.step e1 rfl u) (by rw [eg]; exact fun h => by cases h) f
    · have hj : j ≠ id := by
        intro hj
        subst hj
        rw [e1] at f2
        cases f2
      have f3 : h1.blk j = some (.ro n' cs') := by
        rcases less.2 j with m | ⟨_, _, _, _, _, m, _⟩
        · exact m.trans f2
        · rw [f2] at m; cases m
      refine ⟨by rw [hblk, if_neg hj]; exact f3, heap_setCell_ne u fun hb => ?_⟩
      subst hb
      exact r.lone hj f1 eg f2 e1 rfl rfl (.inl rfl) (.inr rfl)
    · obtain ⟨x, hx⟩ := hcell
      exact ⟨x, by simp [World.cell?, k2, hx]⟩
    · simp [World.frozen?, k2]
  | _ => cases e2
end Ev
end Go.Proofs.YtbfkbabolhhbaaaGreatDoor
