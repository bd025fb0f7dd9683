/-
  New blocks, blocks that are replaced, cells that are written.
-/
import Derived.Test.YtbfkbabolhhbaaaGreatDoorEvRel
namespace Go.Proofs.YtbfkbabolhhbaaaGreatDoor
namespace Ev

theorem blk_put (h : H) (id j n : Nat) (b : Blk) (hk : id < keys) : (⟨h.t.put id (some b), n⟩ : H).blk j = if j = id then some b else h.blk j := Tr.get_put h.t id j (some b) hk
/- A store over a store. -/
theorem Tr.setF_setF {α : Type} (x y : Option α) : ∀ (f : Nat) (t : Tr α) (p : Nat), Tr.setF y f (Tr.setF x f t p) p = Tr.setF y f t p
  | 0, _, _ => rfl
  | f + 1, t, p => by
    rw [Tr.setF_succ x, Tr.setF_succ y f t]
    by_cases h1 : p = 1
    · rw [if_pos h1, if_pos h1, Tr.setF_succ, if_pos h1]; rfl
    · rw [if_neg h1, if_neg h1]
      by_cases h2 : p % 2 = 1
      · rw [if_pos h2, if_pos h2, Tr.setF_succ, if_neg h1, if_pos h2]
        show Tr.n t.left t.val (Tr.setF y f (Tr.setF x f t.right (p / 2)) (p / 2)) = _
        rw [Tr.setF_setF]
      · rw [if_neg h2, if_neg h2, Tr.setF_succ, if_neg h1, if_neg h2]
        show Tr.n (Tr.setF y f (Tr.setF x f t.left (p / 2)) (p / 2)) t.val t.right = _
        rw [Tr.setF_setF]
theorem Tr.put_put {α : Type} (t : Tr α) (k : Nat) (x y : Option α) : (t.put k x).put k y = t.put k y := Tr.setF_setF x y 30 t _
def gput (g : G) (id : Nat) (x : Nat × Nat × Nat) : G := fun j => if j = id then some x else g j
theorem gput_same (g : G) (id : Nat) (x : Nat × Nat × Nat) : gput g id x id = some x := by simp [gput]
theorem gput_ne {g : G} {id j : Nat} (x : Nat × Nat × Nat) (h : j ≠ id) : gput g id x j = g j := by simp [gput, h]
theorem gput_le {g : G} {id : Nat} (x : Nat × Nat × Nat) (h : g id = none) : g.le (gput g id x) := by
  intro j y e
  by_cases hj : j = id
  · subst hj; rw [h] at e; cases e
  · rw [gput_ne x hj]; exact e

theorem Up.first {h : H} {i j d : Nat} (u : Up h i j d) : ∃ b x ch, h.blk i = some b ∧ b.kin = some (some x, ch) := by
  cases u with
  | one e k => exact ⟨_, _, _, e, k⟩
  | step e k _ => exact ⟨_, _, _, e, k⟩
variable [Opq]
set_option linter.unusedSectionVars false
theorem WR.last {T : Ty} {g : G} {h : H} {w : World} (r : WR T g h w) {i j d : Nat} (u : Up h i j d) : ∃ b up, h.blk j = some b ∧ b.kin = some (up, true) := by
  induction u with
  | one e k => obtain ⟨b, up, h1, h2, _⟩ := r.kids _ _ _ _ _ e k; exact ⟨b, up, h1, h2⟩
  | step _ _ _ ih => exact ih
theorem WR.placed {T : Ty} {g : G} {h : H} {w : World} (r : WR T g h w) {i j d : Nat} (u : Up h i j d) (hi : g i ≠ none) : g j ≠ none := by
  induction u with
  | one e k => obtain ⟨b, up, _, _, h3⟩ := r.kids _ _ _ _ _ e k; exact h3 hi
  | step e k _ ih => obtain ⟨b, up, _, _, h3⟩ := r.kids _ _ _ _ _ e k; exact ih (h3 hi)

/-- A block that nothing stands for yet. -/
theorem WR.add {T : Ty} {g : G} {h h' : H} {w : World} (r : WR T g h w) {b : Blk} (hn : h.new b = some h') (hb : b.kin = none ∨ b.kin = some (none, false)) :
    WR T g h' w ∧ h'.next = h.next + 1 ∧ (∀ j, h'.blk j = if j = h.next then some b else h.blk j) ∧ g h.next = none := by
  unfold H.new at hn
  obtain ⟨h1, h2⟩ := oif_some.1 hn
  obtain rfl := (Option.some.inj h2).symm
  have hk : h.next < keys := by simpa using h1
  have hblk : ∀ j, (⟨h.t.put h.next (some b), Nat.succ h.next⟩ : H).blk j = if j = h.next then some b else h.blk j := fun j => blk_put h h.next j _ b hk
  have hnone : g h.next = none := by
    cases e : g h.next with
    | none => rfl
    | some x => exact absurd (r.dom _ _ e) (by omega)
  have old : ∀ {i : Nat} {x : Nat × Nat × Nat} {k : Blk}, g i = some x → (⟨h.t.put h.next (some b), Nat.succ h.next⟩ : H).blk i = some k → h.blk i = some k := by
    intro i x k e1 e2
    rw [hblk, if_neg (by have := r.dom _ _ e1; omega)] at e2
    exact e2
  have kin : Kin h ⟨h.t.put h.next (some b), Nat.succ h.next⟩ := fun i' b'' k e k' => ⟨b'', by rw [hblk, if_neg (by have := r.top _ _ e; omega)]; exact e, k'⟩
  refine ⟨⟨hk, fun id k e => ?_, fun id x e => Nat.lt_succ_of_lt (r.dom id x e), r.lt, fun id x k e1 e2 => r.blk id x k e1 (old e1 e2), fun i j b' o z o' z' bi bj hij e1 e2 e3 e4 l1 l2 => ?_, fun i k j d ch e1 e2 => ?_, fun i k j d ch k' e1 e2 e3 => ?_⟩, rfl, hblk, hnone⟩
  · rw [hblk] at e
    by_cases hi : id = h.next
    · subst hi; exact Nat.lt_succ_self _
    · rw [if_neg hi] at e; exact Nat.lt_succ_of_lt (r.top _ _ e)
  · rcases r.mates i j b' o z o' z' bi bj hij e1 e2 (old e1 e3) (old e2 e4) l1 l2 with ⟨d, u, e⟩ | ⟨d, u, e⟩ | x1
    · exact .inl ⟨d, u.kin kin, e⟩
    · exact .inr (.inl ⟨d, u.kin kin, e⟩)
    · exact .inr (.inr x1)
  · rw [hblk] at e1
    by_cases hi : i = h.next
    · rw [if_pos hi] at e1
      obtain rfl := Option.some.inj e1
      rcases hb with hb | hb <;> rw [hb] at e2 <;> cases e2
    · rw [if_neg hi] at e1
      obtain ⟨b', up, k1, k2, k3⟩ := r.kids i k j d ch e1 e2
      exact ⟨b', up, by rw [hblk, if_neg (by have := r.top _ _ k1; omega)]; exact k1, k2, k3⟩
  · rw [hblk] at e1
    by_cases hi : i = h.next
    · rw [if_pos hi] at e1
      obtain rfl := Option.some.inj e1
      rcases hb with hb | hb <;> rw [hb] at e2 <;> cases e2
    · rw [if_neg hi] at e1
      obtain ⟨b', up, k1, k2, k3⟩ := r.kids i k j d ch e1 e2
      rw [hblk, if_neg (by have := r.top _ _ k1; omega)] at e3
      exact r.ext i k j d ch k' e1 e2 e3

theorem heap_alloc {w : World} {o : Obj} {b : Nat} (h : b < w.heap.size) : (w.alloc o).heap[b]? = w.heap[b]? := by
  show (w.heap.push o)[b]? = _
  rw [Array.getElem?_push, if_neg (by omega)]
theorem heap_alloc_new (w : World) (o : Obj) : (w.alloc o).heap[w.heap.size]? = some o := by
  show (w.heap.push o)[w.heap.size]? = _
  simp

/-- The block that stands for it. -/
theorem WR.place {T : Ty} {g : G} {h : H} {w : World} (r : WR T g h w) {id z : Nat} {b : Blk} {o : Obj} (hi : id < h.next) (hg : g id = none) (hb : h.blk id = some b) (hkin : b.kin = none ∨ b.kin = some (none, false))
    (hr : BR T (gput g id (w.heap.size, 0, z)) (w.alloc o) id b) : WR T (gput g id (w.heap.size, 0, z)) h (w.alloc o) := by
  have le := gput_le (w.heap.size, 0, z) hg
  have cases' : ∀ {i : Nat} {x : Nat × Nat × Nat}, gput g id (w.heap.size, 0, z) i = some x → (i = id ∧ x = (w.heap.size, 0, z)) ∨ (i ≠ id ∧ g i = some x) := by
    intro i x e
    by_cases h1 : i = id
    · subst h1; rw [gput_same] at e; exact .inl ⟨rfl, (Option.some.inj e).symm⟩
    · rw [gput_ne _ h1] at e; exact .inr ⟨h1, e⟩
  refine ⟨r.bound, r.top, fun i x e => ?_, fun i b' o' z' e => ?_, fun i x k e1 e2 => ?_, fun i j b' o1 z1 o2 z2 bi bj hij e1 e2 e3 e4 l1 l2 => ?_, fun i q j d ch e1 e2 => ?_, r.ext⟩
  · rcases cases' e with ⟨rfl, _⟩ | ⟨_, e⟩
    · exact hi
    · exact r.dom _ _ e
  · rw [World.size_alloc]
    rcases cases' e with ⟨_, e⟩ | ⟨_, e⟩
    · cases e; omega
    · have := r.lt _ _ _ _ e; omega
  · rcases cases' e1 with ⟨rfl, _⟩ | ⟨_, e⟩
    · rw [hb] at e2; obtain rfl := Option.some.inj e2; exact hr
    · obtain ⟨b', o', z'⟩ := x
      exact BR.move e1 (heap_alloc (r.lt _ _ _ _ e)) ((r.blk _ _ _ e e2).mono le)
  · rcases cases' e1 with ⟨rfl, x1⟩ | ⟨_, k1⟩ <;> rcases cases' e2 with ⟨rfl, x2⟩ | ⟨_, k2⟩
    · exact absurd rfl hij
    · cases x1; have := r.lt _ _ _ _ k2; omega
    · cases x2; have := r.lt _ _ _ _ k1; omega
    · exact r.mates i j b' o1 z1 o2 z2 bi bj hij k1 k2 e3 e4 l1 l2
  · obtain ⟨b', up, k1, k2, k3⟩ := r.kids i q j d ch e1 e2
    refine ⟨b', up, k1, k2, fun h1 => ?_⟩
    have : i ≠ id := by
      intro h2
      subst h2
      rw [hb] at e1
      cases e1
      rcases hkin with h | h <;> rw [h] at e2 <;> cases e2
    rw [gput_ne _ this] at h1
    intro h3
    by_cases h4 : j = id
    · subst h4; exact k3 h1 hg
    · rw [gput_ne _ h4] at h3; exact k3 h1 h3

/-- A new block on both sides. -/
theorem Ext.new {T : Ty} {g : G} {h h' : H} {w : World} (r : WR T g h w) {b : Blk} {o : Obj} {z : Nat} (hn : h.new b = some h') (hb : b.kin = none ∨ b.kin = some (none, false))
    (hr : BR T (gput g h.next (w.heap.size, 0, z)) (w.alloc o) h.next b) : Ext T g h w (gput g h.next (w.heap.size, 0, z)) h' (w.alloc o) := by
  obtain ⟨r1, e1, e2, e3⟩ := r.add hn hb
  have b1 : h'.blk h.next = some b := by rw [e2, if_pos rfl]
  have r2 := r1.place (by omega) e3 b1 hb hr
  refine ⟨gput_le _ e3, by omega, r2, fun id hi e => ⟨by rw [gput_ne _ (by omega)]; exact e, by rw [e2, if_neg (by omega)]⟩, by rw [World.size_alloc]; omega, fun k hk _ => heap_alloc hk, fun id k o' z' e e0 => ?_, fun id k o' z' n cs e hb' => ⟨by rw [e2, if_neg (by have := r.dom _ _ e; omega)]; exact hb', heap_alloc (r.lt _ _ _ _ e)⟩, rfl, rfl, rfl⟩
  by_cases h1 : id = h.next
  · subst h1; rw [gput_same] at e; cases e; exact .inl (Nat.le_refl _)
  · rw [gput_ne _ h1, e0] at e; cases e

/-- No other block that lives lies where a block without kin lies. -/
theorem WR.lone {T : Ty} {g : G} {h : H} {w : World} (r : WR T g h w) {i j b o z o' z' : Nat} {bi bj : Blk} (hij : i ≠ j) (e1 : g i = some (b, o, z)) (e2 : g j = some (b, o', z'))
    (e3 : h.blk i = some bi) (e4 : h.blk j = some bj) (l1 : bi.live = true) (l2 : bj.live = true) (hk : bi.kin = none ∨ bi.kin = some (none, false)) (hr : bi.isRo = false ∨ bj.isRo = false) : False := by
  rcases r.mates i j b o z o' z' bi bj hij e1 e2 e3 e4 l1 l2 with ⟨d, u, _⟩ | ⟨d, u, _⟩ | ⟨x1, x2⟩
  · obtain ⟨b', x, ch, k1, k2⟩ := u.first
    rw [e3] at k1
    obtain rfl := Option.some.inj k1
    rcases hk with hk | hk <;> rw [hk] at k2 <;> cases k2
  · obtain ⟨b', up, k1, k2⟩ := r.last u
    rw [e3] at k1
    obtain rfl := Option.some.inj k1
    rcases hk with hk | hk <;> rw [hk] at k2 <;> cases k2
  · rcases hr with h | h
    · rw [x1] at h; cases h
    · rw [x2] at h; cases h

/-- A block without kin is replaced. -/
theorem Ext.upd {T : Ty} {g : G} {h : H} {w w' : World} (r : WR T g h w) {id b o z : Nat} {k k' : Blk} (e1 : g id = some (b, o, z)) (e2 : h.blk id = some k) (l : k.live = true)
    (hk : k.kin = none) (hk' : k'.kin = none) (hro : ∀ n cs, k ≠ .ro n cs) (hw : ∀ j, j ≠ b → w'.heap[j]? = w.heap[j]?) (hs : w'.heap.size = w.heap.size) (ho : w'.os = w.os) (ht : w'.tape = w.tape) (hp : w'.output = w.output)
    (hr : BR T g w' id k') : Ext T g h w g ⟨h.t.put id (some k'), h.next⟩ w' := by
  have notRo : k.isRo = false := by
    cases k with
    | ro n cs => exact absurd rfl (hro n cs)
    | _ => rfl
  have hi : id < keys := Nat.lt_of_lt_of_le (r.dom _ _ e1) r.bound
  have hblk : ∀ j, (⟨h.t.put id (some k'), h.next⟩ : H).blk j = if j = id then some k' else h.blk j := fun j => blk_put h id j _ k' hi
  have kin : Kin h ⟨h.t.put id (some k'), h.next⟩ := fun i b' q e q' => by
    refine ⟨b', ?_, q'⟩
    rw [hblk, if_neg]
    · exact e
    · intro h1
      subst h1
      rw [e2] at e
      obtain rfl := Option.some.inj e
      rw [hk] at q'
      cases q'
  have old : ∀ {i : Nat} {q : Blk}, (⟨h.t.put id (some k'), h.next⟩ : H).blk i = some q → q.live = true → ∃ q', h.blk i = some q' ∧ q'.live = true := by
    intro i q e lq
    rw [hblk] at e
    by_cases h1 : i = id
    · subst h1; exact ⟨k, e2, l⟩
    · rw [if_neg h1] at e; exact ⟨q, e, lq⟩
  have wr : WR T g ⟨h.t.put id (some k'), h.next⟩ w' := by
    refine ⟨r.bound, fun i q e => ?_, r.dom, fun i b' o' z' e => by rw [hs]; exact r.lt _ _ _ _ e, fun i x q e3 e4 => ?_, fun i j b' o1 z1 o2 z2 bi bj hij e3 e4 e5 e6 l1 l2 => ?_, fun i q j d ch e3 e4 => ?_, fun i q j d ch q' e3 e4 e5 => ?_⟩
    · rw [hblk] at e
      by_cases h1 : i = id
      · subst h1; exact r.dom _ _ e1
      · rw [if_neg h1] at e; exact r.top _ _ e
    · rw [hblk] at e4
      by_cases h1 : i = id
      · subst h1; rw [if_pos rfl] at e4; obtain rfl := Option.some.inj e4; exact hr
      · rw [if_neg h1] at e4
        obtain ⟨b', o', z'⟩ := x
        by_cases hb : b' = b
        · subst hb
          cases lq : q.live with
          | true => exact (r.lone (fun h2 => h1 h2.symm) e1 e3 e2 e4 l lq (.inl hk) (.inl notRo)).elim
          | false => cases q <;> first | trivial | cases lq
        · exact BR.move e3 (hw _ hb) (r.blk _ _ _ e3 e4)
    · obtain ⟨q1, m1, m2⟩ := old e5 l1
      obtain ⟨q2, m3, m4⟩ := old e6 l2
      rcases r.mates i j b' o1 z1 o2 z2 q1 q2 hij e3 e4 m1 m3 m2 m4 with ⟨d, u, e⟩ | ⟨d, u, e⟩ | ⟨x1, x2⟩
      · exact .inl ⟨d, u.kin kin, e⟩
      · exact .inr (.inl ⟨d, u.kin kin, e⟩)
      · have ne : ∀ {l : Nat} {q q' : Blk}, h.blk l = some q → q.isRo = true → (⟨h.t.put id (some k'), h.next⟩ : H).blk l = some q' → q'.isRo = true := by
          intro l q q' f1 f2 f3
          rw [hblk] at f3
          by_cases h1 : l = id
          · subst h1
            rw [e2] at f1
            cases f1
            rw [notRo] at f2
            cases f2
          · rw [if_neg h1, f1] at f3
            cases f3
            exact f2
        exact .inr (.inr ⟨ne m1 x1 e5, ne m3 x2 e6⟩)
    · rw [hblk] at e3
      by_cases h1 : i = id
      · subst h1; rw [if_pos rfl] at e3; obtain rfl := Option.some.inj e3; rw [hk'] at e4; cases e4
      · rw [if_neg h1] at e3
        obtain ⟨b', up, m1, m2, m0⟩ := r.kids i q j d ch e3 e4
        obtain ⟨b'', m3, m4⟩ := kin _ _ _ m1 m2
        exact ⟨b'', up, m3, m4, m0⟩
    · rw [hblk] at e3
      by_cases h1 : i = id
      · subst h1; rw [if_pos rfl] at e3; obtain rfl := Option.some.inj e3; rw [hk'] at e4; cases e4
      · rw [if_neg h1] at e3
        rw [hblk] at e5
        by_cases h2 : j = id
        · subst h2
          obtain ⟨b', up, m1, m2, _⟩ := r.kids i q j d ch e3 e4
          rw [e2] at m1; obtain rfl := Option.some.inj m1; rw [hk] at m2; cases m2
        · rw [if_neg h2] at e5
          exact r.ext i q j d ch q' e3 e4 e5
  refine ⟨g.le_refl, Nat.le_refl _, wr, fun i h1 e => ⟨e, ?_⟩, Nat.le_of_eq hs.symm, fun j _ hn => hw j fun h1 => hn id o z (h1 ▸ e1), (fun i b' o' z' h1 h2 => by rw [h2] at h1; cases h1), fun i b' o' z' n cs e e' => ⟨?_, hw b' fun h1 => ?_⟩, ho, ht, hp⟩
  · rw [hblk, if_neg]
    intro h2; subst h2; rw [e1] at e; cases e
  · rw [hblk, if_neg]
    · exact e'
    · intro h2; subst h2; rw [e2] at e'; exact hro n cs (Option.some.inj e')
  · subst h1
    by_cases h2 : i = id
    · subst h2; rw [e2] at e'; exact hro n cs (Option.some.inj e')
    · exact r.lone (fun h3 => h2 h3.symm) e1 e e2 e' l rfl (.inl hk) (.inl notRo)
end Ev
end Go.Proofs.YtbfkbabolhhbaaaGreatDoor
