/-
  Plain laws: the first low process is not passed over more than seven times.
-/
import Derived.Test.YtpfmpfmbmipglaaLaws
namespace Go.Proofs.Ytpfmpfmbmipglaa

theorem put_norm_keeps (s : St) (id : Int) : (s.put id 2).h = s.h ∧ (s.put id 2).l = s.l ∧ (s.put id 2).c = s.c := by
  unfold St.put
  split
  · simp
  · split
    · simp
    · simp [St.set]

/-- A pick while no high process waits: the first low process, or a normal one, and then the count rises. -/
theorem starve {s : St} (ok : s.Ok) (hh : s.h = []) {x : Int} {xs : List Int} (hl : s.l = x :: xs) :
    (s.pickId = x ∧ x ∉ s.pick.ids) ∨ (s.pickId ≠ x ∧ s.pick.h = [] ∧ s.pick.l = x :: xs ∧ s.pick.c = s.c + 1 ∧ s.c < 7) := by
  have nd := ok.nd
  rcases s.next_cases with e | e | e
  · exfalso
    unfold St.next at e
    rw [if_neg (by simp [hh])] at e
    split at e
    · omega
    · split at e <;> omega
  · have hc : s.n ≠ [] ∧ s.l ≠ [] ∧ s.c < 7 := by
      unfold St.next at e
      rw [if_neg (by simp [hh])] at e
      split at e
      · assumption
      · rw [if_pos (by simp [hl])] at e; omega
    obtain ⟨y, ys, hn⟩ : ∃ y ys, s.n = y :: ys := by
      cases h : s.n with
      | nil => exact absurd h hc.1
      | cons y ys => exact ⟨y, ys, rfl⟩
    obtain ⟨_, e1, e2⟩ := pick_norm hh e hn
    refine .inr ⟨?_, by rw [e2], by rw [e2]; exact hl, ?_, hc.2.2⟩
    · rw [e1]
      intro c
      exact low_not_norm ok hl (by rw [hn, ← c]; simp)
    · rw [e2]
      unfold St.count
      rw [if_neg (by simp [hh]), if_pos hc]
  · obtain ⟨_, e1, e2⟩ := pick_low hh e hl
    refine .inl ⟨e1, ?_⟩
    rw [e2]
    unfold St.ids at nd ⊢
    simp only [hh, hl, List.nil_append] at nd ⊢
    intro c
    have := (List.perm_middle.nodup_iff).1 nd
    exact (List.nodup_cons.1 this).1 c

theorem St.pick_ne {s : St} {x : Int} {xs : List Int} (hl : s.l = x :: xs) : s.size ≠ 0 := by simp [St.size, hl]
end Go.Proofs.Ytpfmpfmbmipglaa
