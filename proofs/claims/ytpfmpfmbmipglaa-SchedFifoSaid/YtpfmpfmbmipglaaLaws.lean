/-
  Plain laws of the run queue: what a pick takes.
-/
import Derived.Test.YtpfmpfmbmipglaaSpec
namespace Go.Proofs.Ytpfmpfmbmipglaa

theorem pick_high {s : St} {x : Int} {xs : List Int} (h : s.h = x :: xs) : s.size ≠ 0 ∧ s.pickId = x ∧ s.pick = ⟨xs, s.n, s.l, s.c⟩ := by
  have hz : s.size ≠ 0 := by simp [St.size, h]
  have hn : s.next = 1 := by simp [St.next, h]
  have hc : s.count = s.c := by simp [St.count, h]
  refine ⟨hz, ?_, ?_⟩
  · simp [St.pickId, hn, St.line, h]
  · unfold St.pick; rw [if_neg hz, hn, hc]; simp [St.set, St.line, h]

theorem pick_norm {s : St} {x : Int} {xs : List Int} (h0 : s.h = []) (hn : s.next = 2) (h : s.n = x :: xs) : s.size ≠ 0 ∧ s.pickId = x ∧ s.pick = ⟨[], xs, s.l, s.count⟩ := by
  have hz : s.size ≠ 0 := by simp [St.size, h]
  refine ⟨hz, ?_, ?_⟩
  · simp [St.pickId, hn, St.line, h]
  · unfold St.pick; rw [if_neg hz, hn]; simp [St.set, St.line, h, h0]

theorem pick_low {s : St} {x : Int} {xs : List Int} (h0 : s.h = []) (hn : s.next = 3) (h : s.l = x :: xs) : s.size ≠ 0 ∧ s.pickId = x ∧ s.pick = ⟨[], s.n, xs, s.count⟩ := by
  have hz : s.size ≠ 0 := by simp [St.size, h]
  refine ⟨hz, ?_, ?_⟩
  · simp [St.pickId, hn, St.line, h]
  · unfold St.pick; rw [if_neg hz, hn]; simp [St.set, St.line, h, h0]

/-- The three ways of a pick. -/
theorem pick_ways {s : St} (hz : s.size ≠ 0) : (∃ x xs, s.h = x :: xs) ∨ (s.h = [] ∧ s.next = 2 ∧ ∃ x xs, s.n = x :: xs) ∨ (s.h = [] ∧ s.next = 3 ∧ ∃ x xs, s.l = x :: xs) := by
  have hne := St.line_next_ne hz
  cases hh : s.h with
  | cons x xs => exact .inl ⟨x, xs, rfl⟩
  | nil =>
    refine .inr ?_
    rcases s.next_cases with e | e | e
    · rw [e] at hne; simp [St.line, hh] at hne
    · refine .inl ⟨rfl, e, ?_⟩
      rw [e] at hne
      cases hn : s.n with
      | nil => simp [St.line, hn] at hne
      | cons x xs => exact ⟨x, xs, rfl⟩
    · refine .inr ⟨rfl, e, ?_⟩
      rw [e] at hne
      cases hn : s.l with
      | nil => simp [St.line, hn] at hne
      | cons x xs => exact ⟨x, xs, rfl⟩

theorem low_not_norm {s : St} (h : s.Ok) {x : Int} {xs : List Int} (hl : s.l = x :: xs) : x ∉ s.n := by
  intro c
  have := h.nd
  unfold St.ids at this
  exact (List.nodup_append.1 this).2.2 x (by simp [c]) x (by simp [hl]) rfl
end Go.Proofs.Ytpfmpfmbmipglaa
