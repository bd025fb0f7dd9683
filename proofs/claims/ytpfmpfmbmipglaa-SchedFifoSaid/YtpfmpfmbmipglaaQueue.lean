/-
  The contracts of a queue, said of the document's three lists and count.
-/
import Derived.Test.YtpfmpfmbmipglaaSame
import Derived.Test.YtpfmpfmbmipglaaSpec
namespace Go.Proofs.Ytpfmpfmbmipglaa
open Go.RowKit

/-- A block of a queue, by its kind. -/
def schedObj : Obj → Bool
  | .cells _ t _ => t == 56 || t == 63
  | .map .. => true
  | _ => false

/-- Of what was there only blocks of queues, from B on, may have been written. -/
structure Kept (B : Nat) (w w' : World) : Prop where
  os : w'.os = w.os
  tape : w'.tape = w.tape
  output : w'.output = w.output
  size : w.heap.size ≤ w'.heap.size
  block : ∀ k, k < w.heap.size → (k < B ∨ ∀ o, w.heap[k]? = some o → schedObj o = false) → w'.heap[k]? = w.heap[k]?

theorem Kept.refl (B : Nat) (w : World) : Kept B w w := ⟨rfl, rfl, rfl, Nat.le_refl _, fun _ _ _ => rfl⟩
theorem Kept.trans {B : Nat} {a b c : World} (h : Kept B a b) (k : Kept B b c) : Kept B a c := by
  refine ⟨k.os.trans h.os, k.tape.trans h.tape, k.output.trans h.output, Nat.le_trans h.size k.size, fun i hi hf => ?_⟩
  have e := h.block i hi hf
  rw [k.block i (Nat.lt_of_lt_of_le hi h.size) (by rcases hf with x | x; exact .inl x; exact .inr (by rw [e]; exact x)), e]
theorem Kept.of_below {B : Nat} {w w' : World} (h : Below w.heap.size w w') : Kept B w w' := ⟨h.os, h.tape, h.output, h.size, fun k hk _ => h.block k hk⟩
theorem Kept.of_to {B : Nat} {w w' : World} {o : Obj} (t : To w w' (w.heap.push o)) : Kept B w w' :=
  ⟨t.os, t.tape, t.output, by rw [t.heap]; simp, fun k hk _ => by rw [t.heap, Array.getElem?_push, if_neg (by omega)]⟩
theorem Kept.of_same {B : Nat} {w w' : World} (t : To w w' w.heap) : Kept B w w' :=
  ⟨t.os, t.tape, t.output, by rw [t.heap]; exact Nat.le_refl _, fun k _ _ => by rw [t.heap]⟩
theorem Kept.below {B : Nat} {w w' : World} (h : Kept B w w') : Below (min B w.heap.size) w w' := ⟨h.os, h.tape, h.output, h.size, fun k hk => h.block k (by omega) (.inl (by omega))⟩
theorem Kept.mono {B B' : Nat} {w w' : World} (h : Kept B w w') (hB : B' ≤ B) : Kept B' w w' := ⟨h.os, h.tape, h.output, h.size, fun k hk hf => h.block k hk (by rcases hf with x | x; exact .inl (by omega); exact .inr x)⟩

/-- A row of numbers stays. -/
theorem Kept.own {B base : Nat} {w w' : World} (h : Kept B w w') {v : Value} {n : Nat} {xs : List Value} (ho : w.ownsRow base 2 1 v n xs) : w'.ownsRow base 2 1 v n xs := by
  refine ⟨ho.1, ?_⟩
  rcases ho.2 with x | ⟨g, cap, cur, hv, hg, hh, r⟩
  · exact .inl x
  · exact .inr ⟨g, cap, cur, hv, hg, (h.block g (lt_of hh) (.inr fun o e => by rw [hh] at e; cases e; rfl)).trans hh, r⟩

theorem foot_sched {h : Array Obj} {qb mb : Nat} {N : Lines} {c : Int} (R : Rep h qb mb N c) {k : Nat} (hf : foot qb mb N k) : ∃ o, h[k]? = some o ∧ schedObj o = true := by
  rcases hf with rfl | rfl | ⟨p, h1, h3, x, hx, rfl⟩
  · exact ⟨_, R.q, rfl⟩
  · obtain ⟨E, ck, hm, _⟩ := R.m; exact ⟨_, hm, rfl⟩
  · obtain ⟨a, b, hb⟩ := seg_mem (R.s p h1 h3) x hx; exact ⟨_, hb, rfl⟩

theorem Kept.of_touch {B : Nat} {w w' : World} {qb mb : Nat} {N : Lines} {c : Int} (R : Rep w.heap qb mb N c) (hB : ∀ k, foot qb mb N k → B ≤ k) (t : Touch (foot qb mb N) w w') : Kept B w w' := by
  refine ⟨t.os, t.tape, t.output, t.size, fun k hk hf => t.block k hk (fun f => ?_)⟩
  rcases hf with hf | hf
  · have := hB k f; omega
  · obtain ⟨o, ho, hs⟩ := foot_sched R f
    rw [hf o ho] at hs; cases hs

/-- A queue that holds s lies at qb; its blocks lie from B on. -/
def QS (w : World) (B qb : Nat) (s : St) : Prop :=
  ∃ mb N, Rep w.heap qb mb N s.c ∧ (N 1).map (·.2) = s.h ∧ (N 2).map (·.2) = s.n ∧ (N 3).map (·.2) = s.l ∧ ∀ k, foot qb mb N k → B ≤ k

theorem ids_of {N : Lines} {s : St} (h1 : (N 1).map (·.2) = s.h) (h2 : (N 2).map (·.2) = s.n) (h3 : (N 3).map (·.2) = s.l) : idsOf N = s.ids := by
  simp [idsOf, St.ids, h1, h2, h3]

theorem QS.ok {w : World} {B qb : Nat} {s : St} (q : QS w B qb s) : s.Ok := by
  obtain ⟨mb, N, R, h1, h2, h3, _⟩ := q
  have e := ids_of h1 h2 h3
  exact ⟨e ▸ R.ids, e ▸ R.pos, R.cnt⟩

/-- A queue lies as it lay, where its blocks have not been written. -/
theorem QS.keep {w w' : World} {B qb : Nat} {s : St} (q : QS w B qb s) (hb : ∀ (k : Nat) (o : Obj), w.heap[k]? = some o → schedObj o = true → w'.heap[k]? = w.heap[k]?) : QS w' B qb s := by
  obtain ⟨mb, N, R, h1, h2, h3, hB⟩ := q
  obtain ⟨E, ck, hm, hE⟩ := R.m
  refine ⟨mb, N, ⟨(hb qb _ R.q rfl).trans R.q, ⟨E, ck, (hb mb _ hm rfl).trans hm, hE⟩, fun p p1 p3 => seg_frame (R.s p p1 p3) (fun x hx => ?_), R.ids, R.pos, R.cnt⟩, h1, h2, h3, hB⟩
  obtain ⟨a, b, hl⟩ := seg_mem (R.s p p1 p3) x hx
  exact hb _ _ hl rfl

theorem QS.below {w w' : World} {B qb : Nat} {s : St} (q : QS w B qb s) (h : Below w.heap.size w w') : QS w' B qb s := q.keep fun k _ hk _ => h.block k (lt_of hk)
theorem QS.to {w w' : World} {B qb : Nat} {s : St} (q : QS w B qb s) {o : Obj} (t : To w w' (w.heap.push o)) : QS w' B qb s := q.keep fun k _ hk _ => by rw [t.heap, Array.getElem?_push, if_neg (by have := lt_of hk; omega)]
theorem QS.same {w w' : World} {B qb : Nat} {s : St} (q : QS w B qb s) (t : To w w' w.heap) : QS w' B qb s := q.keep fun k _ _ _ => by rw [t.heap]

theorem foot_upd {qb mb : Nat} {N : Lines} {p : Nat} {l : Chain} {B : Nat} (hB : ∀ k, foot qb mb N k → B ≤ k) (hl : ∀ x ∈ l, x ∈ N p ∨ B ≤ x.1) (h1 : 1 ≤ p) (h3 : p ≤ 3) : ∀ k, foot qb mb (upd N p l) k → B ≤ k := by
  intro k hk
  rcases hk with e | e | ⟨q, q1, q3, x, hx, rfl⟩
  · exact hB k (.inl e)
  · exact hB k (.inr (.inl e))
  · rcases mem_upd.1 hx with ⟨e, hy⟩ | ⟨_, hy⟩
    · rcases hl x hy with h | h
      · exact hB _ (.inr (.inr ⟨p, h1, h3, x, h, rfl⟩))
      · exact h
    · exact hB _ (.inr (.inr ⟨q, q1, q3, x, hy, rfl⟩))

theorem new_qs (w : World) (B : Nat) (hB : B ≤ w.heap.size) :
    Calls Try.prog 10 #[] w fun e w' => e = .returned (.pointer (some ⟨w.heap.size + 1, 0, none⟩)) ∧ QS w' B (w.heap.size + 1) St.empty ∧ Below w.heap.size w w' := by
  refine (new_any w).mono ?_
  rintro e w' ⟨rfl, t⟩
  have hm : w'.heap[w.heap.size]? = some (.map (ents []) 0) := by
    rw [t.heap, Array.getElem?_push, if_neg (by simp), Array.getElem?_push, if_pos rfl]; rfl
  have hq : w'.heap[w.heap.size + 1]? = some (.cells (qcells (fun _ => []) w.heap.size 0) 56 (0, 0)) := by
    rw [t.heap, Array.getElem?_push, if_pos (by simp)]; rfl
  refine ⟨rfl, ⟨w.heap.size, fun _ => [], ⟨hq, ⟨[], 0, hm, ⟨List.nodup_nil, fun _ h => (List.not_mem_nil h).elim, fun _ _ _ _ h => (List.not_mem_nil h).elim, rfl⟩⟩, fun _ _ _ => trivial, List.nodup_nil, fun _ h => (List.not_mem_nil h).elim, by simp [St.empty]⟩, rfl, rfl, rfl, ?_⟩, ?_⟩
  · rintro k (rfl | rfl | ⟨_, _, _, _, hx, _⟩)
    · omega
    · omega
    · cases hx
  · refine ⟨t.os, t.tape, t.output, by rw [t.heap]; simp; omega, fun k hk => ?_⟩
    rw [t.heap, Array.getElem?_push, if_neg (by simp; omega), Array.getElem?_push, if_neg (by omega)]

theorem len_line {N : Lines} {s : St} (h1 : (N 1).map (·.2) = s.h) (h2 : (N 2).map (·.2) = s.n) (h3 : (N 3).map (·.2) = s.l) {p : Nat} (p1 : 1 ≤ p) (p3 : p ≤ 3) : (N p).map (·.2) = s.line p := by
  have hp : p = 1 ∨ p = 2 ∨ p = 3 := by omega
  rcases hp with rfl | rfl | rfl
  · exact h1
  · exact h2
  · exact h3
theorem len_le {N : Lines} {s : St} (h1 : (N 1).map (·.2) = s.h) (h2 : (N 2).map (·.2) = s.n) (h3 : (N 3).map (·.2) = s.l) {p : Nat} (p1 : 1 ≤ p) (p3 : p ≤ 3) : (N p).length ≤ s.size := by
  have e1 := congrArg List.length h1
  have e2 := congrArg List.length h2
  have e3 := congrArg List.length h3
  simp only [List.length_map] at e1 e2 e3
  have hp : p = 1 ∨ p = 2 ∨ p = 3 := by omega
  unfold St.size
  rcases hp with rfl | rfl | rfl <;> omega

theorem QS.set {w' : World} {B qb mb : Nat} {s : St} {N : Lines} {p : Nat} {l : Chain} {c : Int} (p1 : 1 ≤ p) (p3 : p ≤ 3) (R : Rep w'.heap qb mb (upd N p l) c)
    (h1 : (N 1).map (·.2) = s.h) (h2 : (N 2).map (·.2) = s.n) (h3 : (N 3).map (·.2) = s.l) (hB : ∀ k, foot qb mb (upd N p l) k → B ≤ k) : QS w' B qb { s.set p (l.map (·.2)) with c := c } := by
  have hp : p = 1 ∨ p = 2 ∨ p = 3 := by omega
  refine ⟨mb, upd N p l, R, ?_, ?_, ?_, hB⟩ <;> rcases hp with rfl | rfl | rfl <;> simp [upd, St.set, h1, h2, h3]

theorem set_c (s : St) (p : Int) (x : List Int) : { s.set p x with c := s.c } = s.set p x := by
  unfold St.set
  split
  · rfl
  · split
    · rfl
    · split <;> rfl

theorem put_qs (w : World) (B qb : Nat) (s : St) (q : QS w B qb s) (hB : B ≤ w.heap.size) (hs : s.size < 1000000) (id p : Int) (hi : id ≤ 9223372036854775807) :
    Calls Try.prog 11 #[.pointer (some ⟨qb, 0, none⟩), .int .i64 id, .int .i64 p] w fun e w' => e = .returned (.int .i64 (s.putErr id p)) ∧ QS w' B qb (s.put id p) ∧ Kept B w w' := by
  have q0 := q
  obtain ⟨mb, N, R, h1, h2, h3, hF⟩ := q0
  unfold St.putErr St.put
  by_cases hb : bad id p
  · rw [if_pos hb, if_pos hb]
    refine (put_arg qb mb N s.c w R p id hb).mono ?_
    rintro e w' ⟨rfl, rfl⟩
    exact ⟨rfl, q, Kept.refl _ _⟩
  · rw [if_neg hb, if_neg hb]
    unfold bad at hb
    obtain ⟨k, rfl⟩ := Int.eq_ofNat_of_zero_le (show 0 ≤ p by omega)
    by_cases hm : id ∈ s.ids
    · rw [if_pos hm, if_pos hm]
      rw [← ids_of h1 h2 h3] at hm
      have : ∃ j b, 1 ≤ j ∧ j ≤ 3 ∧ (b, id) ∈ N j := by
        obtain ⟨x, hx, rfl⟩ := List.mem_map.1 hm
        rcases List.mem_append.1 hx with hx | hx
        · rcases List.mem_append.1 hx with hx | hx
          · exact ⟨1, x.1, by omega, by omega, hx⟩
          · exact ⟨2, x.1, by omega, by omega, hx⟩
        · exact ⟨3, x.1, by omega, by omega, hx⟩
      obtain ⟨j, b, j1, j3, hx⟩ := this
      refine (put_twice qb mb N s.c w R k id (by omega) (by omega) (by omega) j j1 j3 b hx).mono ?_
      rintro e w' ⟨rfl, t⟩
      exact ⟨rfl, q.to t, Kept.of_to t⟩
    · rw [if_neg hm, if_neg hm]
      rw [← ids_of h1 h2 h3] at hm
      refine (put_ok qb mb N s.c w R k (by omega) (by omega) (by have := len_le h1 h2 h3 (p := k) (by omega) (by omega); omega) id hm (by omega) hi).mono ?_
      rintro e w' ⟨rfl, b, hb', R', t⟩
      refine ⟨rfl, ?_, Kept.of_touch R hF t⟩
      have := QS.set (s := s) (B := B) (by omega) (by omega) R' h1 h2 h3 (foot_upd hF (fun x hx => by
        rcases List.mem_append.1 hx with h | h
        · exact .inl h
        · simp at h; subst h; exact .inr (by simp; omega)) (by omega) (by omega))
      rw [List.map_append, len_line h1 h2 h3 (by omega) (by omega)] at this
      rw [set_c] at this
      exact this

theorem nil_iff {N : Lines} {l : List Int} {p : Nat} (h : (N p).map (·.2) = l) : N p = [] ↔ l = [] := by rw [← h]; simp

theorem next_of {N : Lines} {s : St} (h1 : (N 1).map (·.2) = s.h) (h2 : (N 2).map (·.2) = s.n) (h3 : (N 3).map (·.2) = s.l) : (pickLine N s.c : Int) = s.next ∧ pickCount N s.c = s.count := by
  have e1 := nil_iff h1
  have e2 := nil_iff h2
  have e3 := nil_iff h3
  unfold pickLine pickCount St.next St.count
  simp only [ne_eq, e1, e2, e3]
  constructor
  · split
    · rfl
    · split
      · rfl
      · split <;> rfl
  · trivial

theorem size_total {N : Lines} {s : St} (h1 : (N 1).map (·.2) = s.h) (h2 : (N 2).map (·.2) = s.n) (h3 : (N 3).map (·.2) = s.l) : total N = s.size := by
  unfold total St.size
  rw [← h1, ← h2, ← h3]; simp

theorem pick_qs (w : World) (B qb : Nat) (s : St) (q : QS w B qb s) (hs : s.size < 1000000) :
    Calls Try.prog 12 #[.pointer (some ⟨qb, 0, none⟩)] w fun e w' => e = .returned (.tuple #[.int .i64 (if s.size = 0 then 0 else s.pickId), .bool (decide (s.size ≠ 0))]) ∧ QS w' B qb s.pick ∧ Kept B w w' := by
  have q0 := q
  obtain ⟨mb, N, R, h1, h2, h3, hF⟩ := q0
  unfold St.pick
  by_cases hz : s.size = 0
  · rw [if_pos hz, if_pos hz]
    refine (pick_none qb mb N s.c w R ((size_total h1 h2 h3).trans hz)).mono ?_
    rintro e w' ⟨rfl, rfl⟩
    exact ⟨by simp [hz], q, Kept.refl _ _⟩
  · rw [if_neg hz, if_neg hz]
    obtain ⟨en, ec⟩ := next_of h1 h2 h3
    obtain ⟨b1, b3⟩ := pickLine_bd N s.c
    have hl := len_line h1 h2 h3 b1 b3
    rw [en] at hl
    have hne := St.line_next_ne hz
    rw [← hl] at hne
    cases hc : N (pickLine N s.c) with
    | nil => rw [hc] at hne; exact absurd rfl hne
    | cons x ys =>
      refine (pick_ok qb mb N s.c w R (pickLine N s.c) rfl (by have := len_le h1 h2 h3 b1 b3; omega) ys x.1 x.2 hc).mono ?_
      rintro e w' ⟨rfl, R', t⟩
      rw [hc] at hl
      refine ⟨?_, ?_, Kept.of_touch R hF t⟩
      · unfold St.pickId
        rw [← hl]
        simp [hz]
      · have := QS.set (s := s) (B := B) b1 b3 R' h1 h2 h3 (foot_upd hF (fun y hy => .inl (by rw [hc]; exact List.mem_cons_of_mem _ hy)) b1 b3)
        rw [en, ec] at this
        rw [← hl]
        exact this

theorem split_of {N : Lines} {p : Nat} {id : Int} (h : id ∈ (N p).map (·.2)) : ∃ xs b ys, N p = xs ++ (b, id) :: ys := by
  obtain ⟨x, hx, rfl⟩ := List.mem_map.1 h
  obtain ⟨xs, ys, e⟩ := List.append_of_mem hx
  exact ⟨xs, x.1, ys, e⟩

theorem erase_split {xs ys : List Int} {id : Int} (h : (xs ++ id :: ys).Nodup) : (xs ++ id :: ys).erase id = xs ++ ys := by
  have hx : id ∉ xs := fun c => (List.nodup_append.1 h).2.2 _ c _ (by simp) rfl
  rw [List.erase_append_right _ hx, List.erase_cons_head]

theorem prio_line (s : St) {id : Int} (h : id ∈ s.ids) : (s.prio id = 1 ∧ id ∈ s.h) ∨ (s.prio id = 2 ∧ id ∈ s.n) ∨ (s.prio id = 3 ∧ id ∈ s.l) := by
  unfold St.prio
  by_cases a : id ∈ s.h
  · simp [a]
  · by_cases b : id ∈ s.n
    · simp [a, b]
    · have : id ∈ s.l := by simpa [St.ids, a, b] using h
      simp [a, b, this]
theorem prio_zero (s : St) {id : Int} (h : id ∉ s.ids) : s.prio id = 0 := by
  simp only [St.ids, List.mem_append, not_or] at h
  simp [St.prio, h]

theorem at_prio {N : Lines} {s : St} (h1 : (N 1).map (·.2) = s.h) (h2 : (N 2).map (·.2) = s.n) (h3 : (N 3).map (·.2) = s.l) {id : Int} (hm : id ∈ s.ids) :
    ∃ p : Nat, 1 ≤ p ∧ p ≤ 3 ∧ (p : Int) = s.prio id ∧ ∃ xs b ys, N p = xs ++ (b, id) :: ys := by
  rcases prio_line s hm with ⟨e, h⟩ | ⟨e, h⟩ | ⟨e, h⟩
  · exact ⟨1, by omega, by omega, e.symm, split_of (by rw [h1]; exact h)⟩
  · exact ⟨2, by omega, by omega, e.symm, split_of (by rw [h2]; exact h)⟩
  · exact ⟨3, by omega, by omega, e.symm, split_of (by rw [h3]; exact h)⟩

theorem has_qs (w : World) (B qb : Nat) (s : St) (q : QS w B qb s) (id : Int) :
    Calls Try.prog 19 #[.pointer (some ⟨qb, 0, none⟩), .int .i64 id] w fun e w' => e = .returned (.tuple #[.int .i64 (s.prio id), .bool (decide (id ∈ s.ids))]) ∧ QS w' B qb s ∧ Below w.heap.size w w' := by
  have q0 := q
  obtain ⟨mb, N, R, h1, h2, h3, hF⟩ := q0
  have below : ∀ {w' : World} {o : Obj}, To w w' (w.heap.push o) → Below w.heap.size w w' := fun t => ⟨t.os, t.tape, t.output, by rw [t.heap]; simp, fun k hk => by rw [t.heap, Array.getElem?_push, if_neg (by omega)]⟩
  by_cases hm : id ∈ s.ids
  · obtain ⟨p, p1, p3, e, xs, b, ys, hN⟩ := at_prio h1 h2 h3 hm
    refine (has_yes qb mb N s.c w R id p p1 p3 b (by rw [hN]; simp)).mono ?_
    rintro e' w' ⟨rfl, t⟩
    exact ⟨by rw [← e]; simp [hm], q.to t, below t⟩
  · have hm' := hm
    rw [← ids_of h1 h2 h3] at hm'
    refine (has_no qb mb N s.c w R id hm').mono ?_
    rintro e' w' ⟨rfl, t⟩
    exact ⟨by rw [prio_zero s hm]; simp [hm], q.to t, below t⟩

theorem drop_absent {s : St} {id : Int} (h : id ∉ s.ids) : s.drop id = s := by
  simp only [St.ids, List.mem_append, not_or] at h
  simp [St.drop, List.erase_of_not_mem, h]

theorem drop_qs (w : World) (B qb : Nat) (s : St) (q : QS w B qb s) (hs : s.size < 1000000) (id : Int) :
    Calls Try.prog 18 #[.pointer (some ⟨qb, 0, none⟩), .int .i64 id] w fun e w' => e = .returned (.bool (decide (id ∈ s.ids))) ∧ QS w' B qb (s.drop id) ∧ Kept B w w' := by
  have q0 := q
  obtain ⟨mb, N, R, h1, h2, h3, hF⟩ := q0
  by_cases hm : id ∈ s.ids
  · obtain ⟨p, p1, p3, e, xs, b, ys, hN⟩ := at_prio h1 h2 h3 hm
    refine (drop_ok qb mb N s.c w R p p1 p3 (by have := len_le h1 h2 h3 p1 p3; omega) xs ys b id hN).mono ?_
    rintro e' w' ⟨rfl, R', t⟩
    refine ⟨by simp [hm], ?_, Kept.of_touch R hF t⟩
    have := QS.set (s := s) (B := B) p1 p3 R' h1 h2 h3 (foot_upd hF (fun y hy => .inl (by rw [hN]; rcases List.mem_append.1 hy with h | h <;> simp [h])) p1 p3)
    have hne : ∀ k (_ : 1 ≤ k) (_ : k ≤ 3), k ≠ p → id ∉ (N k).map (·.2) := fun k k1 k3 kp c => by
      obtain ⟨y, hy, ey⟩ := List.mem_map.1 c
      exact lines_ne R.ids k1 k3 p1 p3 kp hy (show (b, id) ∈ N p by rw [hN]; simp) ey
    have her : ((N p).map (·.2)).erase id = (xs ++ ys).map (·.2) := by
      have nd := line_nodup p1 p3 R.ids
      rw [hN, List.map_append, List.map_cons] at nd ⊢
      rw [erase_split nd, List.map_append]
    have ed : s.drop id = { s.set p ((xs ++ ys).map (·.2)) with c := s.c } := by
      have hp : p = 1 ∨ p = 2 ∨ p = 3 := by omega
      have n1 := fun h => hne 1 (by omega) (by omega) h
      have n2 := fun h => hne 2 (by omega) (by omega) h
      have n3 := fun h => hne 3 (by omega) (by omega) h
      unfold St.drop
      rw [← h1, ← h2, ← h3]
      rcases hp with rfl | rfl | rfl
      · rw [her, List.erase_of_not_mem (n2 (by omega)), List.erase_of_not_mem (n3 (by omega))]; simp [St.set, h2, h3]
      · rw [her, List.erase_of_not_mem (n1 (by omega)), List.erase_of_not_mem (n3 (by omega))]; simp [St.set, h1, h3]
      · rw [her, List.erase_of_not_mem (n1 (by omega)), List.erase_of_not_mem (n2 (by omega))]; simp [St.set, h1, h2]
    rw [ed]
    exact this
  · have hm' := hm
    rw [← ids_of h1 h2 h3] at hm'
    refine (drop_no qb mb N s.c w R id hm').mono ?_
    rintro e' w' ⟨rfl, t⟩
    exact ⟨by simp [hm], by rw [drop_absent hm]; exact q.to t, Kept.of_to t⟩

theorem len_qs (w : World) (B qb : Nat) (s : St) (q : QS w B qb s) :
    Calls Try.prog 16 #[.pointer (some ⟨qb, 0, none⟩)] w fun e w' => e = .returned (.int .i64 s.size) ∧ w = w' := by
  obtain ⟨mb, N, R, h1, h2, h3, hF⟩ := q
  rw [← size_total h1 h2 h3]
  exact len_any qb mb N s.c w R

theorem list_qs (w : World) (B qb : Nat) (s : St) (q : QS w B qb s) (hs : s.size < 1000000) (p : Int) :
    Calls Try.prog 15 #[.pointer (some ⟨qb, 0, none⟩), .int .i64 p] w (Listed w (s.line p)) := by
  obtain ⟨mb, N, R, h1, h2, h3, hF⟩ := q
  by_cases hb : p < 1 ∨ 3 < p
  · refine (list_none qb mb N s.c w R p hb).mono ?_
    rintro e w' ⟨rfl, rfl⟩
    have : s.line p = [] := by unfold St.line; rw [if_neg (by omega), if_neg (by omega), if_neg (by omega)]
    rw [this]
    exact ⟨_, rfl, ⟨rfl, .inl ⟨rfl, rfl⟩⟩, Below.refl _ _⟩
  · obtain ⟨k, rfl⟩ := Int.eq_ofNat_of_zero_le (show 0 ≤ p by omega)
    have := list_any qb mb N s.c w R k (by omega) (by omega) (by have := len_le h1 h2 h3 (p := k) (by omega) (by omega); omega)
    rw [len_line h1 h2 h3 (by omega) (by omega)] at this
    exact this
end Go.Proofs.Ytpfmpfmbmipglaa
