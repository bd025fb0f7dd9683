/-
  The reference's Put, Has, List, Len.
-/
import Derived.Test.YtpfmpfmbmipglaaRef
namespace Go.Proofs.Ytpfmpfmbmipglaa
open Go.RowKit

def updV (V : Nat → Value) (p : Nat) (v : Value) : Nat → Value := fun k => if k = p then v else V k

theorem set_at {s : St} {p k : Nat} (hp : p < 3) (hk : k < 3) (l : List Int) : (s.set ((p : Int) + 1) l).at k = if k = p then l else s.at k := by
  have a : p = 0 ∨ p = 1 ∨ p = 2 := by omega
  have b : k = 0 ∨ k = 1 ∨ k = 2 := by omega
  rcases a with rfl | rfl | rfl <;> rcases b with rfl | rfl | rfl <;> simp [St.at, St.set, St.line]
theorem set_cc (s : St) (p : Int) (l : List Int) : (s.set p l).c = s.c := by rw [← set_c]

theorem own_setCell {w : World} {base : Nat} {v : Value} {l : List Int} {pb o : Nat} {u : Value} {c : Array Value} {f : Nat × Nat} (h : w.ownsRow base 2 1 v l.length (l.map (Value.int .i64))) (hp : w.heap[pb]? = some (.cells c 46 f)) : (w.setCell ⟨pb, o, none⟩ u).ownsRow base 2 1 v l.length (l.map (Value.int .i64)) := by
  refine ⟨h.1, ?_⟩
  rcases h.2 with x | ⟨g, cap, cur, hv, hg, hh, r⟩
  · exact .inl x
  · refine .inr ⟨g, cap, cur, hv, hg, ?_, r⟩
    rw [heap_setCell, put_other, hh]
    intro e
    rw [e, hp] at hh
    cases hh

theorem own_grown {w w1 : World} {base : Nat} {v : Value} {l : List Int} {row : Option Nat} (h : w.ownsRow base 2 1 v l.length (l.map (Value.int .i64))) (hg : w.grownBy w1 row) (hne : ∀ g, v.ownBlock = some g → row ≠ some g) : w1.ownsRow base 2 1 v l.length (l.map (Value.int .i64)) := by
  refine ⟨h.1, ?_⟩
  rcases h.2 with x | ⟨g, cap, cur, rfl, hb, hh, r⟩
  · exact .inl x
  · exact .inr ⟨g, cap, cur, rfl, hb, (hg.block g (lt_of hh) (fun e => hne g rfl e.symm)).trans hh, r⟩

/-- A line has another row. -/
theorem rs_set {w1 : World} {B pb : Nat} {V : Nat → Value} {s : St} {p : Nat} {nv : Value} {l : List Int} (hp : p < 3) (q : w1.heap[pb]? = some (.cells #[V 0, V 1, V 2, .int .i64 s.c] 46 (0, 0))) (hb : B ≤ pb)
    (rows : ∀ k, k < 3 → k ≠ p → w1.ownsRow B 2 1 (V k) (s.at k).length ((s.at k).map (Value.int .i64))) (hn : w1.ownsRow B 2 1 nv l.length (l.map (Value.int .i64)))
    (hap : ∀ j k, j < 3 → k < 3 → j ≠ k → j ≠ p → k ≠ p → ∀ g, (V j).ownBlock = some g → (V k).ownBlock ≠ some g) (hne : ∀ k, k < 3 → k ≠ p → ∀ g, (V k).ownBlock = some g → nv.ownBlock ≠ some g) :
    RS (w1.setCell ⟨pb, p, none⟩ nv) B pb (updV V p nv) (s.set ((p : Int) + 1) l) := by
  refine ⟨?_, hb, fun k hk => ?_, fun j k hj hk hjk g e1 e2 => ?_⟩
  · rw [heap_setCell, put_same q, set_cc]
    have a : p = 0 ∨ p = 1 ∨ p = 2 := by omega
    rcases a with rfl | rfl | rfl <;> simp [updV]
  · rw [set_at hp hk]
    by_cases e : k = p
    · rw [if_pos e, show updV V p nv k = nv by simp [updV, e]]; exact own_setCell hn q
    · rw [if_neg e, show updV V p nv k = V k by simp [updV, e]]; exact own_setCell (rows k hk e) q
  · unfold updV at e1 e2
    by_cases ej : j = p
    · rw [if_pos ej] at e1
      by_cases ek : k = p
      · omega
      · rw [if_neg ek] at e2; exact hne k hk ek g e2 e1
    · rw [if_neg ej] at e1
      by_cases ek : k = p
      · rw [if_pos ek] at e2; exact hne j hj ej g e1 e2
      · rw [if_neg ek] at e2; exact hap j k hj hk hjk ej ek g e1 e2

def PutR (w : World) (B pb : Nat) (s : St) (e : Ending) (r : Int) (w' : World) : Prop := e = .returned (.int .i64 r) ∧ (∃ V, RS w' B pb V s) ∧ KeptR B w w'

set_option maxHeartbeats 1000000 in
theorem rput_bad (w : World) (pb : Nat) (id p : Int) (h : bad id p) :
    Calls Try.prog 25 #[.pointer (some ⟨pb, 0, none⟩), .int .i64 id, .int .i64 p] w fun e w' => e = .returned (.int .i64 2) ∧ w = w' := by
  unfold bad at h
  by_cases a : id < 0
  · go_enter Try.func25, Try.ntmps25
    go_wp2
    go_ret
    exact ⟨rfl, rfl⟩
  · have a' : decide (id < 0) = false := by simpa using a
    by_cases b : p < 1
    · clear h
      go_enter Try.func25, Try.ntmps25
      go_wp2
      go_ret
      exact ⟨rfl, rfl⟩
    · have b' : decide (p < 1) = false := by simpa using b
      have d : 3 < p := by omega
      clear h
      go_enter Try.func25, Try.ntmps25
      go_wp2
      go_ret
      exact ⟨rfl, rfl⟩

theorem find_yes {w : World} {B pb : Nat} {V : Nat → Value} {s : St} (r : RS w B pb V s) (hs : s.size < 1000000) {id : Int} (hm : id ∈ s.ids) :
    Calls Try.prog 31 #[.pointer (some ⟨pb, 0, none⟩), .int .i64 id] w fun e w' => (∃ p i : Nat, p < 3 ∧ i < (s.at p).length ∧ (s.at p).getD i 0 = id ∧ s.prio id = (p : Int) + 1 ∧ e = .returned (.tuple #[.int .i64 ((p : Int) + 1), .int .i64 i])) ∧ w = w' := by
  refine (find_any w B pb V s r hs id).mono ?_
  rintro e w' ⟨h, rfl⟩
  rcases h with h | h
  · exact absurd hm h.1
  · exact ⟨h, rfl⟩
theorem find_no {w : World} {B pb : Nat} {V : Nat → Value} {s : St} (r : RS w B pb V s) (hs : s.size < 1000000) {id : Int} (hm : id ∉ s.ids) :
    Calls Try.prog 31 #[.pointer (some ⟨pb, 0, none⟩), .int .i64 id] w fun e w' => e = .returned (.tuple #[.int .i64 0, .int .i64 0]) ∧ w = w' := by
  refine (find_any w B pb V s r hs id).mono ?_
  rintro e w' ⟨h, rfl⟩
  rcases h with h | ⟨p, i, hp, hi, hg, h5, rfl⟩
  · exact ⟨h.2, rfl⟩
  · exfalso
    rw [prio_zero s hm] at h5; omega

set_option maxHeartbeats 1000000 in
theorem rput_twice (w : World) (B pb : Nat) (V : Nat → Value) (s : St) (r : RS w B pb V s) (hs : s.size < 1000000) (id p : Int) (h : ¬ bad id p) (hm : id ∈ s.ids) :
    Calls Try.prog 25 #[.pointer (some ⟨pb, 0, none⟩), .int .i64 id, .int .i64 p] w fun e w' => e = .returned (.int .i64 8) ∧ w = w' := by
  unfold bad at h
  have a : ¬ id < 0 := by omega
  have b : ¬ p < 1 := by omega
  have c : ¬ 3 < p := by omega
  have HR := Lib.hid r
  have HM := Lib.hid hm
  clear r hm h
  go_enter Try.func25, Try.ntmps25
  go_wp2_with fail
  refine (find_yes HR.out hs HM.out).mono ?_
  rintro e w' ⟨⟨q, i, hq, hi, h3, h4, rfl⟩, rfl⟩
  clear h3 h4
  go_wp2
  go_ret
  exact ⟨rfl, rfl⟩

set_option maxHeartbeats 1000000 in
theorem rhas_any (w : World) (B pb : Nat) (V : Nat → Value) (s : St) (r : RS w B pb V s) (hs : s.size < 1000000) (id : Int) :
    Calls Try.prog 28 #[.pointer (some ⟨pb, 0, none⟩), .int .i64 id] w fun e w' => e = .returned (.tuple #[.int .i64 (s.prio id), .bool (decide (id ∈ s.ids))]) ∧ w = w' := by
  have HR := Lib.hid r
  clear r
  by_cases hm : id ∈ s.ids
  · have HM := Lib.hid hm
    clear hm
    go_enter Try.func28, Try.ntmps28
    go_wp2_with fail
    refine (find_yes HR.out hs HM.out).mono ?_
    rintro e w' ⟨⟨q, i, hq, hi, h3, h4, rfl⟩, rfl⟩
    have H4 := Lib.hid h4
    clear h3 h4
    go_wp2
    go_ret2
    refine ⟨?_, rfl⟩
    rw [H4.out, decide_eq_true HM.out]
    simp
  · have HM := Lib.hid hm
    clear hm
    go_enter Try.func28, Try.ntmps28
    go_wp2_with fail
    refine (find_no HR.out hs HM.out).mono ?_
    rintro e w' ⟨rfl, rfl⟩
    go_wp2
    go_ret2
    refine ⟨?_, rfl⟩
    rw [prio_zero _ HM.out, decide_eq_false HM.out]
    rfl
end Go.Proofs.Ytpfmpfmbmipglaa
