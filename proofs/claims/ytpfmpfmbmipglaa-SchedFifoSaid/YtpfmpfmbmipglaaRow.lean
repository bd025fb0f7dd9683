/-
  Rows of numbers that List has made: their first element, their tail.
-/
import Derived.Test.YtpfmpfmbmipglaaFilled
namespace Go.Proofs.Ytpfmpfmbmipglaa
open Go.RowKit

/-- The slice value v is a row of its own that holds l. -/
def Row (w : World) (v : Value) (l : List Int) : Prop := w.ownsRow 0 2 1 v l.length (l.map (Value.int .i64))

theorem Row.of_own {w : World} {base : Nat} {v : Value} {l : List Int} (h : w.ownsRow base 2 1 v l.length (l.map (Value.int .i64))) : Row w v l := by
  refine ⟨h.1, ?_⟩
  rcases h.2 with x | ⟨g, cap, cur, hv, hg, r⟩
  · exact .inl x
  · exact .inr ⟨g, cap, cur, hv, Nat.zero_le _, r⟩
theorem Row.kept {B : Nat} {w w' : World} {v : Value} {l : List Int} (h : Row w v l) (k : Kept B w w') : Row w' v l := k.own h
theorem Row.ints {w : World} {v : Value} {l : List Int} (h : Row w v l) : IsInts w v l := IsInts.of_own h
theorem Row.form {w : World} {v : Value} {l : List Int} (h : Row w v l) : ∃ a cap, v = .slice a l.length cap := by
  obtain ⟨a, cap, e, _⟩ := h.ints; exact ⟨a, cap, e⟩

theorem Row.head {w : World} {a : Option Addr} {cap : Nat} {x : Int} {l : List Int} (h : Row w (.slice a (x :: l).length cap) (x :: l)) : ∃ g, a = some ⟨g, 0, none⟩ ∧ ∀ w', Row w' (.slice a (x :: l).length cap) (x :: l) → w'.cell? ⟨g, 0, none⟩ = some (.int .i64 x) := by
  rcases h.2 with ⟨_, h0⟩ | ⟨g, c, cur, hv, _⟩
  · simp at h0
  · simp only [Value.slice.injEq] at hv
    obtain ⟨rfl, _, rfl⟩ := hv
    refine ⟨g, rfl, fun w' h' => ?_⟩
    obtain ⟨a', c', e, hc⟩ := h'.ints
    simp only [Value.slice.injEq] at e
    obtain ⟨rfl, _, rfl⟩ := e
    obtain ⟨b, o, e, hc⟩ := hc (by simp)
    simp only [Option.some.injEq, Addr.mk.injEq] at e
    obtain ⟨rfl, rfl, _⟩ := e
    exact hc 0 (by simp)

theorem Row.tail {w : World} {a : Option Addr} {cap : Nat} {x : Int} {l : List Int} (h : Row w (.slice a (x :: l).length cap) (x :: l)) :
    ∃ a1 c1, (∀ w', (Instr.sliceAt 32 (.slice a (x :: l).length cap) (some (.int .i64 1)) none none).run Try.prog w' = .ok (.slice a1 l.length c1) w') ∧
      ∀ w', Row w' (.slice a (x :: l).length cap) (x :: l) → IsInts w' (.slice a1 l.length c1) l := by
  rcases h.2 with ⟨_, h0⟩ | ⟨g, c, cur, hv, _, _, hn, _⟩
  · simp at h0
  · simp only [Value.slice.injEq] at hv
    obtain ⟨rfl, _, rfl⟩ := hv
    have hcap : 1 ≤ cap := by simp at hn; omega
    refine ⟨if cap = 1 then some ⟨g, 0, none⟩ else some ⟨g, 1, none⟩, cap - 1, fun w' => ?_, fun w' h' => ?_⟩
    · simp only [List.length_cons] at hn ⊢
      simp [Instr.sliceAt, run_underlying Try.underlying32, Instr.slice, Instr.sliceBounds, Instr.sliceBound, asIntOf, Result.andThen, sizeOf, typeInfo]
      obtain ⟨i0, hi, hz0, hz1, hz2⟩ := info_parts Try.info2
      rw [if_pos (by omega), hi]
      simp [hz1, Addr.add]
    · obtain ⟨a', c', e, hc⟩ := h'.ints
      simp only [Value.slice.injEq] at e
      obtain ⟨rfl, _, rfl⟩ := e
      obtain ⟨b, o, e, hc⟩ := hc (by simp)
      simp only [Option.some.injEq, Addr.mk.injEq] at e
      obtain ⟨rfl, rfl, _⟩ := e
      refine ⟨_, _, rfl, fun hne => ⟨g, 1, ?_, fun i hi => ?_⟩⟩
      · rw [if_neg]
        intro e
        rw [e] at hn
        cases l with
        | nil => exact hne rfl
        | cons y l => simp at hn
      · have := hc (i + 1) (by simp; omega)
        rw [Nat.add_comm 1 i, ← Nat.zero_add (i + 1)]
        simpa using this
end Go.Proofs.Ytpfmpfmbmipglaa
