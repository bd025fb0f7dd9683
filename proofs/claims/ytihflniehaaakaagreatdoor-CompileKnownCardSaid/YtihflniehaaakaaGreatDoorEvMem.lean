/-
  New blocks, blocks that are replaced, cells that are written.
-/
import Derived.Test.YtihflniehaaakaaGreatDoorEvNum
namespace Go.Proofs.YtihflniehaaakaaGreatDoor
set_option linter.unusedVariables false
set_option linter.unusedSimpArgs false
namespace Ev

theorem blk_put (h : H) (id j n : Nat) (b : Blk) (hk : id < keys) : (⟨h.t.put id (some b), n⟩ : H).blk j = if j = id then some b else h.blk j := Tr.get_put h.t id j (some b) hk
/- A store over a store. -/
theorem Tr.setF_setF {α : Type} (x y : Option α) : ∀ (f : Nat) (t : Tr α) (p : Nat), Tr.setF y f (Tr.setF x f t p) p = Tr.setF y f t p
  | 0, _, _ => rfl
  | f + 1, t, p => by
    rw [Tr.setF_succ x, Tr.setF_succ y f t]
    by_cases h1 : p = 1
    · rw [if_pos h1, if_pos h1, Tr.setF_succ, if_pos h1]; rfl
    · rw [if_neg h1, if_neg h1]
      by_cases h2 : p % 2 = 1
      · rw [if_pos h2, if_pos h2, Tr.setF_succ, if_neg h1, if_pos h2]
        show Tr.n t.left t.val (Tr.setF y f (Tr.setF x f t.right (p / 2)) (p / 2)) = _
        rw [Tr.setF_setF]
      · rw [if_neg h2, if_neg h2, Tr.setF_succ, if_neg h1, if_neg h2]
        show Tr.n (Tr.setF y f (Tr.setF x f t.left (p / 2)) (p / 2)) t.val t.right = _
        rw [Tr.setF_setF]
theorem Tr.put_put {α : Type} (t : Tr α) (k : Nat) (x y : Option α) : (t.put k x).put k y = t.put k y := Tr.setF_setF x y 30 t _
def gput (g : G) (id : Nat) (x : Nat × Nat × Nat) : G := fun j => if j = id then some x else g j
theorem gput_same (g : G) (id : Nat) (x : Nat × Nat × Nat) : gput g id x id = some x := by simp [gput]
theorem gput_ne {g : G} {id j : Nat} (x : Nat × Nat × Nat) (h : j ≠ id) : gput g id x j = g j := by simp [gput, h]
theorem gput_le {g : G} {id : Nat} (x : Nat × Nat × Nat) (h : g id = none) : g.le (gput g id x) := by
  intro j y e
  by_cases hj : j = id
  · subst hj; rw [h] at e; cases e
  · rw [gput_ne x hj]; exact e

theorem Up.first {h : H} {i j d : Nat} (u : Up h i j d) : ∃ b x ch, h.blk i = some b ∧ b.kin = some (some x, ch) := by
  cases u with
  | one e k => exact ⟨_, _, _, e, k⟩
  | step e k _ => exact ⟨_, _, _, e, k⟩
variable [Opq]
set_option linter.unusedSectionVars false
theorem WR.last {T : Ty} {g : G} {h : H} {w : World} (r : WR T g h w) {i j d : Nat} (u : Up h i j d) : ∃ b up, h.blk j = some b ∧ b.kin = some (up, true) := by
  induction u with
  | one e k => obtain ⟨b, up, h1, h2, _⟩ := r.kids _ _ _ _ _ e k; exact ⟨b, up, h1, h2⟩
  | step _ _ _ ih => exact ih
theorem WR.placed {T : Ty} {g : G} {h : H} {w : World} (r : WR T g h w) {i j d : Nat} (u : Up h i j d) (hi : g i ≠ none) : g j ≠ none := by
  induction u with
  | one e k => obtain ⟨b, up, _, _, h3⟩ := r.kids _ _ _ _ _ e k; exact h3 hi
  | step e k _ ih => obtain ⟨b, up, _, _, h3⟩ := r.kids _ _ _ _ _ e k; exact ih (h3 hi)

/-- A block that nothing stands for yet. -/
theorem WR.add {T : Ty} {g : G} {h h' : H} {w : World} (r : WR T g h w) {b : Blk} (hn : h.new b = some h') (hb : b.kin = none ∨ b.kin = some (none, false)) :
    WR T g h' w ∧ h'.next = h.next + 1 ∧ (∀ j, h'.blk j = if j = h.next then some b else h.blk j) ∧ g h.next = none := by
  unfold H.new at hn
  obtain ⟨h1, h2⟩ := oif_some.1 hn
  obtain rfl := (Option.some.inj h2).symm
  have hk : h.next < keys := by simpa using h1
  have hblk : ∀ j, (⟨h.t.put h.next (some b), Nat.succ h.next⟩ : H).blk j = if j = h.next then some b else h.blk j := fun j => blk_put h h.next j _ b hk
  have hnone : g h.next = none := by
    cases e : g h.next with
    | none => rfl
    | some x => exact absurd (r.dom _ _ e) (by omega)
  have old : ∀ {i : Nat} {x : Nat × Nat × Nat} {k : Blk}, g i = some x → (⟨h.t.put h.next (some b), Nat.succ h.next⟩ : H).blk i = some k → h.blk i = some k := by
    intro i x k e1 e2
    rw [hblk, if_neg (by have := r.dom _ _ e1; omega)] at e2
    exact e2
  have kin : Kin h ⟨h.t.put h.next (some b), Nat.succ h.next⟩ := fun i' b'' k e k' => ⟨b'', by rw [hblk, if_neg (by have := r.top _ _ e; omega)]; exact e, k'⟩
  refine ⟨⟨hk, fun id k e => ?_, fun id x e => Nat.lt_succ_of_lt (r.dom id x e), r.lt, fun id x k e1 e2 => r.blk id x k e1 (old e1 e2), fun i j b' o z o' z' bi bj hij e1 e2 e3 e4 l1 l2 => ?_, fun i k j d ch e1 e2 => ?_, fun i k j d ch k' e1 e2 e3 => ?_⟩, rfl, hblk, hnone⟩
  · rw [hblk] at e
    by_cases hi : id = h.next
    · subst hi; exact Nat.lt_succ_self _
    · rw [if_neg hi] at e; exact Nat.lt_succ_of_lt (r.top _ _ e)
  · rcases r.mates i j b' o z o' z' bi bj hij e1 e2 (old e1 e3) (old e2 e4) l1 l2 with ⟨d, u, e⟩ | ⟨d, u, e⟩ | x1
    · exact .inl ⟨d, u.kin kin, e⟩
    · exact .inr (.inl ⟨d, u.kin kin, e⟩)
    · exact .inr (.inr x1)
  · rw [hblk] at e1
    by_cases hi : i = h.next
    · rw [if_pos hi] at e1
      obtain rfl := Option.some.inj e1
      rcases hb with hb | hb <;> rw [hb] at e2 <;> cases e2
    · rw [if_neg hi] at e1
      obtain ⟨b', up, k1, k2, k3⟩ := r.kids i k j d ch e1 e2
      exact ⟨b', up, by rw [hblk, if_neg (by have := r.top _ _ k1; omega)]; exact k1, k2, k3⟩
  · rw [hblk] at e1
    by_cases hi : i = h.next
    · rw [if_pos hi] at e1
      obtain rfl := Option.some.inj e1
      rcases hb with hb | hb <;> rw [hb] at e2 <;> cases e2
    · rw [if_neg hi] at e1
      obtain ⟨b', up, k1, k2, k3⟩ := r.kids i k j d ch e1 e2
      rw [hblk, if_neg (by have := r.top _ _ k1; omega)] at e3
      exact r.ext i k j d ch k' e1 e2 e3

theorem heap_alloc {w : World} {o : Obj} {b : Nat} (h : b < w.heap.size) : (w.alloc o).heap[b]? = w.heap[b]? := by
  show (w.heap.push o)[b]? = _
  rw [Array.getElem?_push, if_neg (by omega)]
theorem heap_alloc_new (w : World) (o : Obj) : (w.alloc o).heap[w.heap.size]? = some o := by
  show (w.heap.push o)[w.heap.size]? = _
  simp

/-- The block that stands for it. -/
theorem WR.place {T : Ty} {g : G} {h : H} {w : World} (r : WR T g h w) {id z : Nat} {b : Blk} {o : Obj} (hi : id < h.next) (hg : g id = none) (hb : h.blk id = some b) (hkin : b.kin = none ∨ b.kin = some (none, false))
    (hr : BR T (gput g id (w.heap.size, 0, z)) (w.alloc o) id b) : WR T (gput g id (w.heap.size, 0, z)) h (w.alloc o) := by
  have le := gput_le (w.heap.size, 0, z) hg
  have cases' : ∀ {i : Nat} {x : Nat × Nat × Nat}, gput g id (w.heap.size, 0, z) i = some x → (i = id ∧ x = (w.heap.size, 0, z)) ∨ (i ≠ id ∧ g i = some x) := by
    intro i x e
    by_cases h1 : i = id
    · subst h1; rw [gput_same] at e; exact .inl ⟨rfl, (Option.some.inj e).symm⟩
    · rw [gput_ne _ h1] at e; exact .inr ⟨h1, e⟩
  refine ⟨r.bound, r.top, fun i x e => ?_, fun i b' o' z' e => ?_, fun i x k e1 e2 => ?_, fun i j b' o1 z1 o2 z2 bi bj hij e1 e2 e3 e4 l1 l2 => ?_, fun i q j d ch e1 e2 => ?_, r.ext⟩
  · rcases cases' e with ⟨rfl, _⟩ | ⟨_, e⟩
    · exact hi
    · exact r.dom _ _ e
  · rw [World.size_alloc]
    rcases cases' e with ⟨_, e⟩ | ⟨_, e⟩
    · cases e; omega
    · have := r.lt _ _ _ _ e; omega
  · rcases cases' e1 with ⟨rfl, _⟩ | ⟨_, e⟩
    · rw [hb] at e2; obtain rfl := Option.some.inj e2; exact hr
    · obtain ⟨b', o', z'⟩ := x
      exact BR.move e1 (heap_alloc (r.lt _ _ _ _ e)) ((r.blk _ _ _ e e2).mono le)
  · rcases cases' e1 with ⟨rfl, x1⟩ | ⟨_, k1⟩ <;> rcases cases' e2 with ⟨rfl, x2⟩ | ⟨_, k2⟩
    · exact absurd rfl hij
    · cases x1; have := r.lt _ _ _ _ k2; omega
    · cases x2; have := r.lt _ _ _ _ k1; omega
    · exact r.mates i j b' o1 z1 o2 z2 bi bj hij k1 k2 e3 e4 l1 l2
  · obtain ⟨b', up, k1, k2, k3⟩ := r.kids i q j d ch e1 e2
    refine ⟨b', up, k1, k2, fun h1 => ?_⟩
    have : i ≠ id := by
      intro h2
      subst h2
      rw [hb] at e1
      cases e1
      rcases hkin with h | h <;> rw [h] at e2 <;> cases e2
    rw [gput_ne _ this] at h1
    intro h3
    by_cases h4 : j = id
    · subst h4; exact k3 h1 hg
    · rw [gput_ne _ h4] at h3; exact k3 h1 h3

/-- A new block on both sides. -/
theorem Ext.new {T : Ty} {g : G} {h h' : H} {w : World} (r : WR T g h w) {b : Blk} {o : Obj} {z : Nat} (hn : h.new b = some h') (hb : b.kin = none ∨ b.kin = some (none, false))
    (hr : BR T (gput g h.next (w.heap.size, 0, z)) (w.alloc o) h.next b) : Ext T g h w (gput g h.next (w.heap.size, 0, z)) h' (w.alloc o) := by
  obtain ⟨r1, e1, e2, e3⟩ := r.add hn hb
  have b1 : h'.blk h.next = some b := by rw [e2, if_pos rfl]
  have r2 := r1.place (by omega) e3 b1 hb hr
  refine ⟨gput_le _ e3, by omega, r2, fun id hi e => ⟨by rw [gput_ne _ (by omega)]; exact e, by rw [e2, if_neg (by omega)]⟩, by rw [World.size_alloc]; omega, fun k hk _ => heap_alloc hk, fun id k o' z' e e0 => ?_, fun id k o' z' n cs e hb' => ⟨by rw [e2, if_neg (by have := r.dom _ _ e; omega)]; exact hb', heap_alloc (r.lt _ _ _ _ e)⟩, rfl, rfl, rfl⟩
  by_cases h1 : id = h.next
  · subst h1; rw [gput_same] at e; cases e; exact .inl (Nat.le_refl _)
  · rw [gput_ne _ h1, e0] at e; cases e

/-- No other block that lives lies where a block without kin lies. -/
theorem WR.lone {T : Ty} {g : G} {h : H} {w : World} (r : WR T g h w) {i j b o z o' z' : Nat} {bi bj : Blk} (hij : i ≠ j) (e1 : g i = some (b, o, z)) (e2 : g j = some (b, o', z'))
    (e3 : h.blk i = some bi) (e4 : h.blk j = some bj) (l1 : bi.live = true) (l2 : bj.live = true) (hk : bi.kin = none ∨ bi.kin = some (none, false)) (hr : bi.isRo = false ∨ bj.isRo = false) : False := by
  rcases r.mates i j b o z o' z' bi bj hij e1 e2 e3 e4 l1 l2 with ⟨d, u, _⟩ | ⟨d, u, _⟩ | ⟨x1, x2⟩
  · obtain ⟨b', x, ch, k1, k2⟩ := u.first
    rw [e3] at k1
    obtain rfl := Option.some.inj k1
    rcases hk with hk | hk <;> rw [hk] at k2 <;> cases k2
  · obtain ⟨b', up, k1, k2⟩ := r.last u
    rw [e3] at k1
    obtain rfl := Option.some.inj k1
    rcases hk with hk | hk <;> rw [hk] at k2 <;> cases k2
  · rcases hr with h | h
    · rw [x1] at h; cases h
    · rw [x2] at h; cases h

/-- A block without kin is replaced. -/
theorem Ext.upd {T : Ty} {g : G} {h : H} {w w' : World} (r : WR T g h w) {id b o z : Nat} {k k' : Blk} (e1 : g id = some (b, o, z)) (e2 : h.blk id = some k) (l : k.live = true)
    (hk : k.kin = none) (hk' : k'.kin = none) (hro : ∀ n cs, k ≠ .ro n cs) (hw : ∀ j, j ≠ b → w'.heap[j]? = w.heap[j]?) (hs : w'.heap.size = w.heap.size) (ho : w'.os = w.os) (ht : w'.tape = w.tape) (hp : w'.output = w.output)
    (hr : BR T g w' id k') : Ext T g h w g ⟨h.t.put id (some k'), h.next⟩ w' := by
  have notRo : k.isRo = false := by
    cases k with
    | ro n cs => exact absurd rfl (hro n cs)
    | _ => rfl
  have hi : id < keys := Nat.lt_of_lt_of_le (r.dom _ _ e1) r.bound
  have hblk : ∀ j, (⟨h.t.put id (some k'), h.next⟩ : H).blk j = if j = id then some k' else h.blk j := fun j => blk_put h id j _ k' hi
  have kin : Kin h ⟨h.t.put id (some k'), h.next⟩ := fun i b' q e q' => by
    refine ⟨b', ?_, q'⟩
    rw [hblk, if_neg]
    · exact e
    · intro h1
      subst h1
      rw [e2] at e
      obtain rfl := Option.some.inj e
      rw [hk] at q'
      cases q'
  have old : ∀ {i : Nat} {q : Blk}, (⟨h.t.put id (some k'), h.next⟩ : H).blk i = some q → q.live = true → ∃ q', h.blk i = some q' ∧ q'.live = true := by
    intro i q e lq
    rw [hblk] at e
    by_cases h1 : i = id
    · subst h1; exact ⟨k, e2, l⟩
    · rw [if_neg h1] at e; exact ⟨q, e, lq⟩
  have wr : WR T g ⟨h.t.put id (some k'), h.next⟩ w' := by
    refine ⟨r.bound, fun i q e => ?_, r.dom, fun i b' o' z' e => by rw [hs]; exact r.lt _ _ _ _ e, fun i x q e3 e4 => ?_, fun i j b' o1 z1 o2 z2 bi bj hij e3 e4 e5 e6 l1 l2 => ?_, fun i q j d ch e3 e4 => ?_, fun i q j d ch q' e3 e4 e5 => ?_⟩
    · rw [hblk] at e
      by_cases h1 : i = id
      · subst h1; exact r.dom _ _ e1
      · rw [if_neg h1] at e; exact r.top _ _ e
    · rw [hblk] at e4
      by_cases h1 : i = id
      · subst h1; rw [if_pos rfl] at e4; obtain rfl := Option.some.inj e4; exact hr
      · rw [if_neg h1] at e4
        obtain ⟨b', o', z'⟩ := x
        by_cases hb : b' = b
        · subst hb
          cases lq : q.live with
          | true => exact (r.lone (fun h2 => h1 h2.symm) e1 e3 e2 e4 l lq (.inl hk) (.inl notRo)).elim
          | false => cases q <;> first | trivial | cases lq
        · exact BR.move e3 (hw _ hb) (r.blk _ _ _ e3 e4)
    · obtain ⟨q1, m1, m2⟩ := old e5 l1
      obtain ⟨q2, m3, m4⟩ := old e6 l2
      rcases r.mates i j b' o1 z1 o2 z2 q1 q2 hij e3 e4 m1 m3 m2 m4 with ⟨d, u, e⟩ | ⟨d, u, e⟩ | ⟨x1, x2⟩
      · exact .inl ⟨d, u.kin kin, e⟩
      · exact .inr (.inl ⟨d, u.kin kin, e⟩)
      · have ne : ∀ {l : Nat} {q q' : Blk}, h.blk l = some q → q.isRo = true → (⟨h.t.put id (some k'), h.next⟩ : H).blk l = some q' → q'.isRo = true := by
          intro l q q' f1 f2 f3
          rw [hblk] at f3
          by_cases h1 : l = id
          · subst h1
            rw [e2] at f1
            cases f1
            rw [notRo] at f2
            cases f2
          · rw [if_neg h1, f1] at f3
            cases f3
            exact f2
        exact .inr (.inr ⟨ne m1 x1 e5, ne m3 x2 e6⟩)
    · rw [hblk] at e3
      by_cases h1 : i = id
      · subst h1; rw [if_pos rfl] at e3; obtain rfl := Option.some.inj e3; rw [hk'] at e4; cases e4
      · rw [if_neg h1] at e3
        obtain ⟨b', up, m1, m2, m0⟩ := r.kids i q j d ch e3 e4
        obtain ⟨b'', m3, m4⟩ := kin _ _ _ m1 m2
        exact ⟨b'', up, m3, m4, m0⟩
    · rw [hblk] at e3
      by_cases h1 : i = id
      · subst h1; rw [if_pos rfl] at e3; obtain rfl := Option.some.inj e3; rw [hk'] at e4; cases e4
      · rw [if_neg h1] at e3
        rw [hblk] at e5
        by_cases h2 : j = id
        · subst h2
          obtain ⟨b', up, m1, m2, _⟩ := r.kids i q j d ch e3 e4
          rw [e2] at m1; obtain rfl := Option.some.inj m1; rw [hk] at m2; cases m2
        · rw [if_neg h2] at e5
          exact r.ext i q j d ch q' e3 e4 e5
  refine ⟨g.le_refl, Nat.le_refl _, wr, fun i h1 e => ⟨e, ?_⟩, Nat.le_of_eq hs.symm, fun j _ hn => hw j fun h1 => hn id o z (h1 ▸ e1), (fun i b' o' z' h1 h2 => by rw [h2] at h1; cases h1), fun i b' o' z' n cs e e' => ⟨?_, hw b' fun h1 => ?_⟩, ho, ht, hp⟩
  · rw [hblk, if_neg]
    intro h2; subst h2; rw [e1] at e; cases e
  · rw [hblk, if_neg]
    · exact e'
    · intro h2; subst h2; rw [e2] at e'; exact hro n cs (Option.some.inj e')
  · subst h1
    by_cases h2 : i = id
    · subst h2; rw [e2] at e'; exact hro n cs (Option.some.inj e')
    · exact r.lone (fun h3 => h2 h3.symm) e1 e e2 e' l rfl (.inl hk) (.inl notRo)
end Ev
end Go.Proofs.YtihflniehaaakaaGreatDoor
namespace Go.Proofs.YtihflniehaaakaaGreatDoor
set_option linter.unusedVariables false
set_option linter.unusedSimpArgs false
namespace Ev
variable [Opq]
set_option linter.unusedSectionVars false

/-- The same memory with less known of it. -/
def Less (h h' : H) : Prop := h'.next = h.next ∧ ∀ j, h'.blk j = h.blk j ∨
  ∃ n cs cs' up ch, h.blk j = some (.cells n cs up ch) ∧ h'.blk j = some (.cells n cs' up ch) ∧ ∀ q v, cs'.get q = some v → cs.get q = some v
theorem Less.refl (h : H) : Less h h := ⟨rfl, fun _ => .inl rfl⟩
theorem Less.trans {a b c : H} (h : Less a b) (k : Less b c) : Less a c := by
  refine ⟨k.1.trans h.1, fun j => ?_⟩
  rcases h.2 j with e1 | ⟨n, cs, cs', up, ch, e1, e2, e3⟩
  · rcases k.2 j with e4 | ⟨n, cs, cs', up, ch, e4, e5, e6⟩
    · exact .inl (e4.trans e1)
    · exact .inr ⟨n, cs, cs', up, ch, e1 ▸ e4, e5, e6⟩
  · rcases k.2 j with e4 | ⟨n', cs1, cs2, up', ch', e4, e5, e6⟩
    · exact .inr ⟨n, cs, cs', up, ch, e1, e4.trans e2, e3⟩
    · rw [e2] at e4
      cases e4
      exact .inr ⟨n, cs, cs2, up, ch, e1, e5, fun q v hq => e3 q v (e6 q v hq)⟩
theorem Less.kin {h h' : H} (l : Less h h') : Kin h h' := by
  intro i b k e1 e2
  rcases l.2 i with e | ⟨n, cs, cs', up, ch, e3, e4, _⟩
  · exact ⟨b, e.trans e1, e2⟩
  · rw [e3] at e1
    cases e1
    exact ⟨_, e4, e2⟩
theorem Less.back {h h' : H} (l : Less h h') {i : Nat} {b : Blk} (e : h'.blk i = some b) : ∃ b', h.blk i = some b' ∧ b'.kin = b.kin ∧ b'.live = b.live ∧ b'.len = b.len := by
  rcases l.2 i with k | ⟨n, cs, cs', up, ch, e3, e4, _⟩
  · exact ⟨b, k ▸ e, rfl, rfl, rfl⟩
  · rw [e4] at e
    cases e
    exact ⟨_, e3, rfl, rfl, rfl⟩
theorem Less.isRo {h h' : H} (l : Less h h') {i : Nat} {b b' : Blk} (e1 : h.blk i = some b) (e2 : b.isRo = true) (e3 : h'.blk i = some b') : b'.isRo = true := by
  rcases l.2 i with k | ⟨n, cs, cs', up, ch, k1, k2, _⟩
  · rw [k, e1] at e3
    cases e3
    exact e2
  · rw [e1] at k1
    cases k1
    cases e2
theorem Less.wr {T : Ty} {g : G} {h h' : H} {w : World} (l : Less h h') (r : WR T g h w) : WR T g h' w := by
  refine ⟨l.1 ▸ r.bound, fun id b e => ?_, fun id x e => l.1 ▸ r.dom id x e, r.lt, fun id x b e1 e2 => ?_, fun i j b o z o' z' bi bj hij e1 e2 e3 e4 l1 l2 => ?_, fun i b j d ch e1 e2 => ?_, fun i b j d ch b' e1 e2 e3 => ?_⟩
  · obtain ⟨b', e', _⟩ := l.back e
    exact l.1 ▸ r.top _ _ e'
  · rcases l.2 id with k | ⟨n, cs, cs', up, ch, e3, e4, e5⟩
    · exact r.blk id x b e1 (k ▸ e2)
    · rw [e4] at e2
      cases e2
      obtain ⟨b, o, z, c, t, k1, k2, k3, k4, k5, k6⟩ := r.blk id x _ e1 e3
      exact ⟨b, o, z, c, t, k1, k2, k3, k4, k5, fun j v hj hv => k6 j v hj (e5 j v hv)⟩
  · obtain ⟨b1, m1, m2, m3, _⟩ := l.back e3
    obtain ⟨b2, m4, m5, m6, _⟩ := l.back e4
    rcases r.mates i j b o z o' z' b1 b2 hij e1 e2 m1 m4 (m3.trans l1) (m6.trans l2) with ⟨d, u, e⟩ | ⟨d, u, e⟩ | ⟨x1, x2⟩
    · exact .inl ⟨d, u.kin l.kin, e⟩
    · exact .inr (.inl ⟨d, u.kin l.kin, e⟩)
    · exact .inr (.inr ⟨l.isRo m1 x1 e3, l.isRo m4 x2 e4⟩)
  · obtain ⟨b1, m1, m2, m3⟩ := l.back e1
    obtain ⟨b2, up, m4, m5, m8⟩ := r.kids i b1 j d ch m1 (m2.trans e2)
    obtain ⟨b3, m6, m7⟩ := l.kin _ _ _ m4 m5
    exact ⟨b3, up, m6, m7, m8⟩
  · obtain ⟨b1, m1, m2, _, m3⟩ := l.back e1
    obtain ⟨b2, m4, _, _, m5⟩ := l.back e3
    have := r.ext i b1 j d ch b2 m1 (m2.trans e2) m4
    omega

/-- A cell of which nothing is known. -/
def Gone (h : H) (j q : Nat) : Prop := ∀ n cs up ch, h.blk j = some (.cells n cs up ch) → cs.get q = none
theorem Gone.less {h h' : H} (l : Less h h') {j q : Nat} (k : Gone h j q) : Gone h' j q := by
  intro n cs up ch e
  rcases l.2 j with e1 | ⟨n', cs1, cs2, up', ch', e1, e2, e3⟩
  · exact k n cs up ch (e1 ▸ e)
  · rw [e2] at e
    cases e
    have := k _ _ _ _ e1
    cases hq : cs.get q with
    | none => rfl
    | some v => rw [e3 q v hq] at this; cases this
theorem forget_zero (up : Option (Nat × Nat)) (i : Nat) (h : H) : forget 0 up i h = Option.rec (motive := fun _ => Option H) (some h) (fun _ => none) up := rfl
theorem forget_succ (f : Nat) (up : Option (Nat × Nat)) (i : Nat) (h : H) : forget (f + 1) up i h = Option.rec (motive := fun _ => Option H) (some h)
      (fun p => ob (h.blk p.1) fun b => match b with
        | .cells n cs up' child => oif (Nat.blt (Nat.add p.2 i) keys) <| forget f up' (Nat.add p.2 i) ⟨h.t.put p.1 (some (.cells n (cs.put (Nat.add p.2 i) none) up' child)), h.next⟩
        | .dead => some h
        | _ => none) up := rfl
theorem forget_ok (f : Nat) : ∀ (up : Option (Nat × Nat)) (i : Nat) (h h' : H), (∀ j b, h.blk j = some b → j < keys) → forget f up i h = some h' →
    Less h h' ∧ (∀ p d, up = some (p, d) → Gone h' p (d + i) ∧ ∀ j e, Up h p j e → Gone h' j (e + d + i)) ∧
    ∀ j, (∀ p d, up = some (p, d) → j ≠ p ∧ ∀ e, ¬ Up h p j e) → h'.blk j = h.blk j := by
  induction f with
  | zero =>
    intro up i h h' _ e
    cases up with
    | none => rw [forget_zero] at e; cases e; exact ⟨.refl _, (fun _ _ k => by cases k), fun _ _ => rfl⟩
    | some p => rw [forget_zero] at e; cases e
  | succ f ih =>
    intro up i h h' hb e
    cases up with
    | none => rw [forget_succ] at e; cases e; exact ⟨.refl _, (fun _ _ k => by cases k), fun _ _ => rfl⟩
    | some pd =>
      obtain ⟨p, dp⟩ := pd
      rw [forget_succ] at e
      obtain ⟨b, e1, e2⟩ := ob_some.1 e
      clear e
      simp only [] at e1 e2
      cases b with
      | cells n cs up' ch =>
        obtain ⟨e3, e4⟩ := oif_some.1 e2
        clear e2
        have hk : dp + i < keys := by simpa using e3
        have hp := hb _ _ e1
        generalize hc : (⟨h.t.put p (some (.cells n (cs.put (Nat.add dp i) none) up' ch)), h.next⟩ : H) = hx at e4
        have hblk : ∀ j, hx.blk j = if j = p then some (.cells n (cs.put (dp + i) none) up' ch) else h.blk j := fun j => by rw [← hc]; exact blk_put h p j _ _ hp
        have hnext : hx.next = h.next := by rw [← hc]
        clear hc
        have l1 : Less h hx := by
          refine ⟨hnext, fun j => ?_⟩
          by_cases hj : j = p
          · subst hj
            refine .inr ⟨n, cs, _, up', ch, e1, by rw [hblk, if_pos rfl], fun q v hq => ?_⟩
            rw [Tr.get_put cs _ _ _ hk] at hq
            split at hq
            · cases hq
            · exact hq
          · exact .inl (by rw [hblk, if_neg hj])
        have g1 : Gone hx p (dp + i) := by
          intro n' cs' up'' ch' e5
          rw [hblk, if_pos rfl] at e5
          cases e5
          rw [Tr.get_put cs _ _ _ hk, if_pos rfl]
        obtain ⟨l2, k2, k3⟩ := ih _ _ _ _ (fun j b e5 => by
          obtain ⟨b', e6, _⟩ := l1.back e5
          exact hb _ _ e6) e4
        have step : ∀ {q d' : Nat}, up' = some (q, d') → Gone h' q (d' + (dp + i)) ∧ ∀ j e, Up h q j e → Gone h' j (e + d' + (dp + i)) := fun e5 => by
          obtain ⟨m1, m2⟩ := k2 _ _ e5
          exact ⟨m1, fun j e u => m2 j e (u.kin l1.kin)⟩
        have kinback : Kin hx h := by
          intro j b k f1 f2
          obtain ⟨b', f3, f4, _⟩ := l1.back f1
          exact ⟨b', f3, f4.trans f2⟩
        refine ⟨l1.trans l2, fun p' d ep => ?_, fun j hj => ?_⟩
        · cases ep
          refine ⟨g1.less l2, fun j x u => ?_⟩
          cases u with
          | one e5 k5 =>
            rw [e1] at e5
            cases e5
            simp only [Blk.kin, Option.some.injEq, Prod.mk.injEq] at k5
            have := (step k5.1).1
            rwa [← Nat.add_assoc] at this
          | step e5 k5 u5 =>
            rw [e1] at e5
            cases e5
            simp only [Blk.kin, Option.some.injEq, Prod.mk.injEq] at k5
            have := (step k5.1).2 _ _ u5
            rw [← Nat.add_assoc] at this
            rwa [show ∀ a b : Nat, a + b + dp + i = a + b + dp + i from fun _ _ => rfl] at this
        · obtain ⟨j1, j2⟩ := hj p dp rfl
          rw [k3 j fun q d' e5 => ?_, hblk, if_neg j1]
          subst e5
          refine ⟨fun h1 => ?_, fun e u => ?_⟩
          · subst h1
            exact j2 _ (.one e1 rfl)
          · exact j2 _ (.step e1 rfl (u.kin kinback))
      | dead =>
        cases e2
        refine ⟨.refl _, fun p' d ep => ?_, fun _ _ => rfl⟩
        cases ep
        refine ⟨fun n cs up ch e5 => (by rw [e1] at e5; cases e5), fun j x u => ?_⟩
        obtain ⟨b, y, ch, e5, e6⟩ := u.first
        rw [e1] at e5
        cases e5
        cases e6
      | ro => cases e2
      | map => cases e2
      | siter => cases e2
      | loop => cases e2
      | miter => cases e2

theorem oneCell_of {g : G} {v : V} {u : Value} (h : VR g v u) (k : oneCell v = true) : u.oneCell' = true := by
  cases h <;> first | rfl | (cases k; done) | skip
  rename_i k' h'
  rcases Opq.one k' with ⟨n, e⟩ | ⟨n, e⟩ | ⟨a, l, c, e⟩ <;> (rw [e] at h'; subst h'; rfl)

theorem heap_setCell {w : World} {b o : Nat} {c : Array Value} {t : TypeId} {fz : Nat × Nat} (u : Value) (h : w.heap[b]? = some (.cells c t fz)) :
    (w.setCell ⟨b, o, none⟩ u).heap[b]? = some (.cells (c.setIfInBounds o u) t fz) := by
  show (w.heap.modify b _)[b]? = _
  rw [Array.getElem?_modify, if_pos rfl, h]
  rfl
theorem heap_setCell_ne {w : World} {b o j : Nat} (u : Value) (h : j ≠ b) : (w.setCell ⟨b, o, none⟩ u).heap[j]? = w.heap[j]? := by
  simp only [World.setCell]
  rw [Array.getElem?_modify, if_neg (fun e => h e.symm)]

theorem Ext.wr1 {T : Ty} {g : G} {h h' : H} {w : World} (r : WR T g h w) {id i b o z : Nat} {v : V} {u : Value} (e : h.wr1 id i v = some h') (eg : g id = some (b, o, z)) (hv : VR g v u) :
    Ext T g h w g h' (w.setCell ⟨b, o + i, none⟩ u) ∧ (∃ x, w.cell? ⟨b, o + i, none⟩ = some x) ∧ w.frozen? ⟨b, o + i, none⟩ = false := by
  unfold H.wr1 at e
  obtain ⟨k, e1, e2⟩ := ob_some.1 e
  cases k with
  | cells n cs up ch =>
    simp only [] at e2
    obtain ⟨hc, e3⟩ := oif_some.1 e2
    obtain ⟨hin, e4⟩ := oif_some.1 e3
    obtain ⟨hone, e5⟩ := oif_some.1 e4
    obtain ⟨h1, e6, e7⟩ := ob_some.1 e5
    cases e7
    have hch : ch = false := by simpa using hc
    subst hch
    have hlt : i < n := by simpa using hin
    have hid : id < keys := Nat.lt_of_lt_of_le (r.dom _ _ eg) r.bound
    obtain ⟨less, gone, same⟩ := forget_ok 64 up i h h1 (fun j b e => Nat.lt_of_lt_of_le (r.top _ _ e) r.bound) e6
    obtain ⟨b', o', z', c, t, k1, k2, k3, k4, k5, k6⟩ := r.blk id _ _ eg e1
    rw [eg] at k1
    cases k1
    have hcell : ∃ x, c[o + i]? = some x := ⟨_, Array.getElem?_eq_getElem (by omega)⟩
    have hw := heap_setCell (o := o + i) u k2
    have r1 := less.wr r
    have hblk : ∀ j, (⟨h1.t.put id (some (.cells n (cs.put i (some v)) up false)), h1.next⟩ : H).blk j = if j = id then some (.cells n (cs.put i (some v)) up false) else h1.blk j := fun j => blk_put h1 id j _ _ hid
    have kin : Kin h1 ⟨h1.t.put id (some (.cells n (cs.put i (some v)) up false)), h1.next⟩ := by
      intro j q k f1 f2
      by_cases hj : j = id
      · subst hj
        obtain ⟨q', m1, m2, _⟩ := less.back f1
        rw [e1] at m1
        cases m1
        exact ⟨.cells n (cs.put i (some v)) up false, by rw [hblk, if_pos rfl], m2.trans f2⟩
      · exact ⟨q, by rw [hblk, if_neg hj]; exact f1, f2⟩
    have old : ∀ {j : Nat} {q : Blk}, (⟨h1.t.put id (some (.cells n (cs.put i (some v)) up false)), h1.next⟩ : H).blk j = some q → ∃ q', h.blk j = some q' ∧ q'.kin = q.kin ∧ q'.live = q.live ∧ q'.len = q.len := by
      intro j q f
      rw [hblk] at f
      by_cases hj : j = id
      · subst hj
        rw [if_pos rfl] at f
        cases f
        exact ⟨_, e1, rfl, rfl, rfl⟩
      · rw [if_neg hj] at f
        exact less.back f
    have wr : WR T g ⟨h1.t.put id (some (.cells n (cs.put i (some v)) up false)), h1.next⟩ (w.setCell ⟨b, o + i, none⟩ u) := by
      refine ⟨r1.bound, fun j q f => ?_, r1.dom, fun j b' o' z' f => ?_, fun j x q f1 f2 => ?_, fun j l b' o1 z1 o2 z2 bj bl hjl f1 f2 f3 f4 l1 l2 => ?_, fun j q l d ch f1 f2 => ?_, fun j q l d ch q' f1 f2 f3 => ?_⟩
      · obtain ⟨q', m1, _⟩ := old f
        exact less.1 ▸ r.top _ _ m1
      · rw [World.size_setCell]; exact r.lt _ _ _ _ f
      · obtain ⟨b', o', z'⟩ := x
        by_cases hj : j = id
        · subst hj
          rw [hblk, if_pos rfl] at f2
          cases f2
          rw [eg] at f1
          cases f1
          refine ⟨b, o, z, _, t, eg, hw, by rw [Array.size_setIfInBounds]; exact k3, k4, k5, fun q x hq hx => ?_⟩
          rw [Tr.get_put cs i q _ (by omega)] at hx
          by_cases hqi : q = i
          · subst hqi
            rw [if_pos rfl] at hx
            cases hx
            exact ⟨u, by rw [Array.getElem?_setIfInBounds_self_of_lt (by omega)], hv, hone⟩
          · rw [if_neg hqi] at hx
            obtain ⟨x', m1, m2, m3⟩ := k6 q x hq hx
            exact ⟨x', by rw [Array.getElem?_setIfInBounds_ne (by omega)]; exact m1, m2, m3⟩
        · rw [hblk, if_neg hj] at f2
          by_cases hb : b' = b
          · subst hb
            cases lq : q.live with
            | false => cases q <;> first | trivial | cases lq
            | true =>
              obtain ⟨q', m1, m2, m3, _⟩ := less.back f2
              rcases r.mates id j b' o z o' z' _ q' (fun h => hj h.symm) eg f1 e1 m1 rfl (m3.trans lq) with ⟨d, up', ed⟩ | ⟨d, up', ed⟩ | ⟨x1, _⟩
              · have hgone : Gone h1 j (d + i) := by
                  cases up' with
                  | one f5 f6 =>
                    rw [e1] at f5
                    cases f5
                    simp only [Blk.kin, Option.some.injEq, Prod.mk.injEq] at f6
                    exact (gone _ _ f6.1).1
                  | step f5 f6 f7 =>
                    rw [e1] at f5
                    cases f5
                    simp only [Blk.kin, Option.some.injEq, Prod.mk.injEq] at f6
                    exact (gone _ _ f6.1).2 _ _ f7
                obtain ⟨bq, upq, m4, m5⟩ := r.last up'
                rw [m1] at m4
                cases m4
                cases q with
                | cells n' cs' up'' ch' =>
                  obtain ⟨b2, o2, z2, c2, t2, p1, p2, p3, p4, p5, p6⟩ := r1.blk j _ _ f1 f2
                  rw [f1] at p1
                  cases p1
                  rw [k2] at p2
                  cases p2
                  refine ⟨b', o', z', _, t, f1, hw, by rw [Array.size_setIfInBounds]; exact p3, p4, p5, fun q x hq hx => ?_⟩
                  obtain ⟨x', m6, m7, m8⟩ := p6 q x hq hx
                  have hne : q ≠ d + i := by
                    intro hq2
                    subst hq2
                    rw [hgone _ _ _ _ f2] at hx
                    cases hx
                  exact ⟨x', by rw [Array.getElem?_setIfInBounds_ne (by omega)]; exact m6, m7, m8⟩
                | _ => rw [m2] at m5; cases m5
              · obtain ⟨bq, upq, m4, m5⟩ := r.last up'
                rw [e1] at m4
                cases m4
                cases m5
              · cases x1
          · exact BR.move f1 (heap_setCell_ne u hb) (r1.blk _ _ _ f1 f2)
      · obtain ⟨q1, m1, m2, m3, _⟩ := old f3
        obtain ⟨q2, m4, m5, m6, _⟩ := old f4
        rcases r.mates j l b' o1 z1 o2 z2 q1 q2 hjl f1 f2 m1 m4 (m3.trans l1) (m6.trans l2) with ⟨d, u, e⟩ | ⟨d, u, e⟩ | ⟨x1, x2⟩
        · exact .inl ⟨d, (u.kin less.kin).kin kin, e⟩
        · exact .inr (.inl ⟨d, (u.kin less.kin).kin kin, e⟩)
        · have ne : ∀ {x : Nat} {q q' : Blk}, h.blk x = some q → q.isRo = true → (⟨h1.t.put id (some (.cells n (cs.put i (some v)) up false)), h1.next⟩ : H).blk x = some q' → q'.isRo = true := by
            intro x q q' g1 g2 g3
            rw [hblk] at g3
            by_cases hx : x = id
            · subst hx
              rw [e1] at g1
              cases g1
              cases g2
            · rw [if_neg hx] at g3
              exact less.isRo g1 g2 g3
          exact .inr (.inr ⟨ne m1 x1 f3, ne m4 x2 f4⟩)
      · obtain ⟨q1, m1, m2, m3, _⟩ := old f1
        obtain ⟨q2, up', m4, m5, m10⟩ := r.kids j q1 l d ch m1 (m2.trans f2)
        obtain ⟨q3, m6, m7⟩ := less.kin _ _ _ m4 m5
        obtain ⟨q4, m8, m9⟩ := kin _ _ _ m6 m7
        exact ⟨q4, up', m8, m9, m10⟩
      · obtain ⟨q1, m1, m2, _, m3⟩ := old f1
        obtain ⟨q2, m4, _, _, m5⟩ := old f3
        have := r.ext j q1 l d ch q2 m1 (m2.trans f2) m4
        omega
    refine ⟨⟨g.le_refl, Nat.le_of_eq less.1.symm, wr, fun j hj f => ⟨f, ?_⟩, by rw [World.size_setCell]; exact Nat.le_refl _, fun j _ hn => heap_setCell_ne u fun hj => hn id o z (hj ▸ eg), (fun j b' o' z' f1 f2 => by rw [f2] at f1; cases f1), fun j b' o' z' n' cs' f1 f2 => ?_, rfl, rfl, rfl⟩, ?_, ?_⟩
    · have hne : j ≠ id := by
        intro h2
        subst h2
        rw [eg] at f
        cases f
      rw [hblk, if_neg hne]
      refine same j fun p d ep => ?_
      subst ep
      refine ⟨fun h2 => ?_, fun e u => ?_⟩
      · subst h2
        exact r.placed (.one e1 rfl) (by rw [eg]; exact fun h => by cases h) f
      · exact r.placed (.step e1 rfl u) (by rw [eg]; exact fun h => by cases h) f
    · have hj : j ≠ id := by
        intro hj
        subst hj
        rw [e1] at f2
        cases f2
      have f3 : h1.blk j = some (.ro n' cs') := by
        rcases less.2 j with m | ⟨_, _, _, _, _, m, _⟩
        · exact m.trans f2
        · rw [f2] at m; cases m
      refine ⟨by rw [hblk, if_neg hj]; exact f3, heap_setCell_ne u fun hb => ?_⟩
      subst hb
      exact r.lone hj f1 eg f2 e1 rfl rfl (.inl rfl) (.inr rfl)
    · obtain ⟨x, hx⟩ := hcell
      exact ⟨x, by simp [World.cell?, k2, hx]⟩
    · simp [World.frozen?, k2]
  | _ => cases e2
end Ev
end Go.Proofs.YtihflniehaaakaaGreatDoor
