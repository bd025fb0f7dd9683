/-
  List and same at a state that is known; numbers that are collected in a row of their own.
-/
import Derived.Test.YtpfmpfmbmipglaaRow
import Derived.Test.YtpfmpfmbmipglaaLaws
namespace Go.Proofs.Ytpfmpfmbmipglaa
open Go.RowKit

theorem list_at {w : World} {B qb : Nat} {s : St} (q : QS w B qb s) (hs : s.size < 1000000) (p : Int) (l : List Int) (hl : s.line p = l) :
    Calls Try.prog 15 #[.pointer (some ⟨qb, 0, none⟩), .int .i64 p] w fun r w' => ∃ a cap, r = .returned (.slice a l.length cap) ∧ Row w' (.slice a l.length cap) l ∧ QS w' B qb s ∧ Below w.heap.size w w' := by
  subst hl
  refine (list_qs w B qb s q hs p).mono ?_
  rintro e w' ⟨v, rfl, ho, hb⟩
  have r := Row.of_own ho
  obtain ⟨a, cap, rfl⟩ := r.form
  exact ⟨a, cap, rfl, r, q.below hb, hb⟩

theorem same_at {w : World} {va vb : Value} {l : List Int} (ha : IsInts w va l) (hb : IsInts w vb l) (h1 : l.length < 1000000) :
    Calls Try.prog 17 #[va, vb] w fun r w' => r = .returned (.bool true) ∧ To w w' w.heap := by
  refine (same_any va vb l l w ha hb h1 h1).mono ?_
  rintro e w' ⟨rfl, t⟩
  exact ⟨by simp, t⟩

theorem Row.below {w w' : World} {v : Value} {l : List Int} (h : Row w v l) (k : Below w.heap.size w w') : Row w' v l := h.kept (Kept.of_below (B := 0) k)

theorem Row.cells {w : World} {a : Option Addr} {n cap : Nat} {l : List Int} (h : Row w (.slice a n cap) l) (hne : l ≠ []) : n = l.length ∧ ∃ g, a = some ⟨g, 0, none⟩ ∧ g < w.heap.size ∧ ∀ i, i < l.length → w.cell? ⟨g, i, none⟩ = some (.int .i64 (l.getD i 0)) := by
  rcases h.2 with ⟨_, h0⟩ | ⟨g, c, cur, hv, _, hh, _⟩
  · exact absurd (List.length_eq_zero_iff.1 h0) hne
  · simp only [Value.slice.injEq] at hv
    obtain ⟨rfl, rfl, rfl⟩ := hv
    refine ⟨rfl, g, rfl, lt_of hh, fun i hi => ?_⟩
    obtain ⟨a', c', e, hc⟩ := h.ints
    simp only [Value.slice.injEq] at e
    obtain ⟨rfl, _, rfl⟩ := e
    obtain ⟨b, o, e, hc⟩ := hc hne
    simp only [Option.some.injEq, Addr.mk.injEq] at e
    obtain ⟨rfl, rfl, _⟩ := e
    have := hc i hi
    rwa [Nat.zero_add] at this

theorem QS.mono {w : World} {B B' qb : Nat} {s : St} (q : QS w B qb s) (h : B' ≤ B) : QS w B' qb s := by
  obtain ⟨mb, N, R, h1, h2, h3, hB⟩ := q
  exact ⟨mb, N, R, h1, h2, h3, fun k hk => Nat.le_trans h (hB k hk)⟩

theorem IsActs.kept {w w' : World} {v : Value} {l : List Act3} (h : IsActs w v l) (k : Below w.heap.size w w') : IsActs w' v l := by
  obtain ⟨a, cap, rfl, hm, hc⟩ := h
  refine ⟨a, cap, rfl, hm, fun hne => ?_⟩
  obtain ⟨b, o, rfl, hb, hx⟩ := hc hne
  refine ⟨b, o, rfl, Nat.lt_of_lt_of_le hb k.size, fun i x hi => ?_⟩
  obtain ⟨c0, c1, c2, h3⟩ := hx i x hi
  exact ⟨(k.cell (p := ⟨b, _, none⟩) hb).trans c0, (k.cell (p := ⟨b, _, none⟩) hb).trans c1, (k.cell (p := ⟨b, _, none⟩) hb).trans c2, h3⟩
end Go.Proofs.Ytpfmpfmbmipglaa
