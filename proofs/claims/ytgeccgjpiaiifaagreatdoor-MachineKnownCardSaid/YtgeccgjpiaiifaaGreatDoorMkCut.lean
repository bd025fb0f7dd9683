/-
  A run in parts: memory that is needed no more is left out in between.
-/
import Derived.Test.YtgeccgjpiaiifaaGreatDoorMkRun1
namespace Go.Proofs.YtgeccgjpiaiifaaGreatDoor
namespace Ev
/-- The same block, or less of it. -/
def BlkLe (b' b : Blk) : Prop :=
  (∃ n cs' cs ch, b' = .cells n cs' none ch ∧ b = .cells n cs none ch ∧ ∀ j v, j < n → cs'.get j = some v → cs.get j = some v) ∨ (b' = b ∧ b.kin = none)
/-- A memory with fewer blocks. -/
structure Sub (hL h : H) : Prop where
  next : hL.next = h.next
  blk : ∀ id b', hL.blk id = some b' → ∃ b, h.blk id = some b ∧ BlkLe b' b
theorem BlkLe.up {b' b : Blk} (k : BlkLe b' b) : (∀ y ch, ¬ b.kin = some (some y, ch)) ∧ (∀ y ch, ¬ b'.kin = some (some y, ch)) ∧ b'.live = b.live ∧ b'.isRo = b.isRo := by
  rcases k with ⟨n, cs', cs, ch, rfl, rfl, _⟩ | ⟨rfl, k⟩
  · exact ⟨fun _ _ e => (by cases e), fun _ _ e => (by cases e), rfl, rfl⟩
  · exact ⟨fun _ _ e => (by rw [k] at e; cases e), fun _ _ e => (by rw [k] at e; cases e), rfl, rfl⟩
theorem Up.first0 {h : H} {i j d : Nat} (u : Up h i j d) : ∃ b y ch, h.blk i = some b ∧ b.kin = some (some y, ch) := by
  cases u with
  | one e k => exact ⟨_, _, _, e, k⟩
  | step e k _ => exact ⟨_, _, _, e, k⟩
theorem WR.drop {g : G} {h hL : H} {w : World} (r : WR TP g h w) (s : Sub hL h) : WR TP g hL w := by
  refine ⟨by rw [s.next]; exact r.bound, fun id b e => ?_, fun id x e => by rw [s.next]; exact r.dom id x e, r.lt, fun id x b' e1 e2 => ?_, fun i j b o z o' z' bi bj hij e1 e2 e3 e4 l1 l2 => ?_, fun i b j d ch e1 e2 => ?_, fun i b j d ch b' e1 e2 => ?_⟩
  · obtain ⟨k, e1, _⟩ := s.blk id b e
    rw [s.next]
    exact r.top id k e1
  · obtain ⟨b, k1, k2⟩ := s.blk id b' e2
    have := r.blk id x b e1 k1
    rcases k2 with ⟨n, cs', cs, ch, rfl, rfl, k⟩ | ⟨rfl, _⟩
    · obtain ⟨b, o, z, c, t, q1, q2, q3, q4, q5, q6⟩ := this
      exact ⟨b, o, z, c, t, q1, q2, q3, q4, q5, fun j v hj hv => q6 j v hj (k j v hj hv)⟩
    · exact this
  · obtain ⟨ki, a1, a2⟩ := s.blk i bi e3
    obtain ⟨kj, b1, b2⟩ := s.blk j bj e4
    obtain ⟨u1, _, u2, u3⟩ := a2.up
    obtain ⟨v1, _, v2, v3⟩ := b2.up
    rcases r.mates i j b o z o' z' ki kj hij e1 e2 a1 b1 (u2 ▸ l1) (v2 ▸ l2) with ⟨d, u, _⟩ | ⟨d, u, _⟩ | k
    · obtain ⟨q, y, ch, m1, m2⟩ := u.first0
      rw [a1] at m1
      cases m1
      exact absurd m2 (u1 _ _)
    · obtain ⟨q, y, ch, m1, m2⟩ := u.first0
      rw [b1] at m1
      cases m1
      exact absurd m2 (v1 _ _)
    · exact .inr (.inr ⟨u3.trans k.1, v3.trans k.2⟩)
  · obtain ⟨k, _, a2⟩ := s.blk i b e1
    exact absurd e2 (a2.up.2.1 _ _)
  · obtain ⟨k, _, a2⟩ := s.blk i b e1
    exact absurd e2 (a2.up.2.1 _ _)
/-- What holds all along: the world of the beginning stays. -/
structure Seg (w0 : World) (g : G) (h : H) (w : World) : Prop where
  wr : WR TP g h w
  glob : Glob TP g h
  still : Still w0 w
  own : ∀ id b o z, g id = some (b, o, z) → b < w0.heap.size → ∃ i o' z' n cs, (i = 0 ∨ i = 1) ∧ g i = some (b, o', z') ∧ h.blk i = some (.ro n cs)
theorem Seg.step {w0 : World} {g g' : G} {h h' : H} {w w' : World} (a : Seg w0 g h w) (x : Ext TP g h w g' h' w') : Seg w0 g' h' w' := by
  refine ⟨x.wr, a.glob.ext x, ⟨Nat.le_trans a.still.size x.size, fun b hb => ?_, x.os.trans a.still.os, x.tape.trans a.still.tape, x.output.trans a.still.output⟩, fun id b o z e hb => ?_⟩
  · refine Eq.trans ?_ (a.still.keep b hb)
    by_cases hc : ∃ id o z, g id = some (b, o, z)
    · obtain ⟨id, o, z, hg⟩ := hc
      obtain ⟨i, o', z', n, cs, _, k1, k2⟩ := a.own id b o z hg hb
      exact (x.ro i b o' z' n cs k1 k2).2
    · exact x.keep b (Nat.lt_of_lt_of_le hb a.still.size) fun id o z hg => hc ⟨id, o, z, hg⟩
  · have lift : (∃ i o z, g i = some (b, o, z)) → ∃ i o' z' n cs, (i = 0 ∨ i = 1) ∧ g' i = some (b, o', z') ∧ h'.blk i = some (.ro n cs) := by
      rintro ⟨i, o, z, hg⟩
      obtain ⟨i, o', z', n, cs, k0, k1, k2⟩ := a.own i b o z hg hb
      exact ⟨i, o', z', n, cs, k0, x.le _ _ k1, (x.ro i b o' z' n cs k1 k2).1⟩
    cases hg : g id with
    | some y =>
      rw [x.le _ _ hg] at e
      cases e
      exact lift ⟨id, o, z, hg⟩
    | none =>
      rcases x.fresh id b o z e hg with k | ⟨i, o', z', k⟩
      · exact absurd (Nat.lt_of_lt_of_le hb (Nat.le_trans a.still.size k)) (Nat.lt_irrefl _)
      · exact lift ⟨i, o', z', k⟩
theorem Seg.drop {w0 : World} {g : G} {h hL : H} {w : World} (a : Seg w0 g h w) (s : Sub hL h) (k0 : hL.blk 0 = H0.blk 0) (k1 : hL.blk 1 = H0.blk 1) : Seg w0 g hL w := by
  obtain ⟨tr, ts, e1, e2, hpin⟩ : ∃ tr ts, tr = trOf tbl 0 .e ∧ ts = trOf tbS 0 .e ∧ TP.pin = [(0, 0, 123, tr), (1, 1, 256, ts)] := ⟨_, _, rfl, rfl, rfl⟩
  have h0 := k0.trans H0_0
  have h1 := k1.trans H0_1
  rw [← e1] at h0
  rw [← e2] at h1
  refine ⟨a.wr.drop s, fun p hp => ?_, a.still, fun id b o z e hb => ?_⟩
  · refine ⟨(a.glob p hp).1, ?_⟩
    rw [hpin] at hp
    cases hp with
    | head => exact h0
    | tail _ hp =>
      obtain rfl := List.mem_singleton.1 hp
      exact h1
  · obtain ⟨i, o', z', n, cs, q0, q1, q2⟩ := a.own id b o z e hb
    rcases q0 with rfl | rfl
    · exact ⟨0, o', z', _, _, .inl rfl, q1, k0.trans H0_0⟩
    · exact ⟨1, o', z', _, _, .inr rfl, q1, k1.trans H0_1⟩
end Ev
end Go.Proofs.YtgeccgjpiaiifaaGreatDoor
