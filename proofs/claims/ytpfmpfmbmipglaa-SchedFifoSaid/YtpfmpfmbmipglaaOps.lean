/-
  Put, Pick, Drop, Has and Len of a queue.
-/
import Derived.Test.YtpfmpfmbmipglaaPut
import Derived.Deep.RegionWith
namespace Go.Proofs.Ytpfmpfmbmipglaa
open Go.RowKit

/-- The blocks of a queue. -/
def foot (qb mb : Nat) (N : Lines) (k : Nat) : Prop := k = qb ∨ k = mb ∨ ∃ p, 1 ≤ p ∧ p ≤ 3 ∧ ∃ x ∈ N p, x.1 = k

/-- Of what was there only blocks of F may have been written. -/
structure Touch (F : Nat → Prop) (w w' : World) : Prop where
  os : w'.os = w.os
  tape : w'.tape = w.tape
  output : w'.output = w.output
  size : w.heap.size ≤ w'.heap.size
  block : ∀ k, k < w.heap.size → ¬ F k → w'.heap[k]? = w.heap[k]?

theorem Touch.refl (F : Nat → Prop) (w : World) : Touch F w w := ⟨rfl, rfl, rfl, Nat.le_refl _, fun _ _ _ => rfl⟩

theorem seg_push {h : Array Obj} {p n : Option Nat} {l : Chain} (s : Seg h p l n) (o : Obj) : Seg (h.push o) p l n :=
  seg_frame s (fun x hx => by obtain ⟨a, b, hb⟩ := seg_mem s x hx; rw [Array.getElem?_push, if_neg (by have := lt_of hb; omega)])

theorem push_at {h : Array Obj} {b : Nat} {o x : Obj} (hb : h[b]? = some x) : (h.push o)[b]? = some x := by
  rw [Array.getElem?_push, if_neg (by have := lt_of hb; omega)]; exact hb

theorem Rep.push {h : Array Obj} {qb mb : Nat} {N : Lines} {c : Int} (R : Rep h qb mb N c) (o : Obj) : Rep (h.push o) qb mb N c := by
  obtain ⟨E, ck, hm, hE⟩ := R.m
  exact ⟨push_at R.q, ⟨E, ck, push_at hm, hE⟩, fun p h1 h3 => seg_push (R.s p h1 h3) o, R.ids, R.pos, R.cnt⟩

theorem zero58 (w : World) : (zeroValue 58).run Try.prog w = .ok (.agg #[.int .i64 0, .pointer none]) w := by kernel_rfl

/-- The map's block, behind push or remove. -/
theorem Turned.m {w w' : World} {qb mb : Nat} {N : Lines} {p : Nat} {l : Chain} {c : Int} (T : Turned w w' qb mb N p l c) (R : Rep w.heap qb mb N c) (h1 : 1 ≤ p) (h3 : p ≤ 3) : w'.heap[mb]? = w.heap[mb]? := by
  obtain ⟨E, ck, hm, hE⟩ := R.m
  refine T.block mb (lt_of hm) (Ne.symm (q_ne_m R.q hm)) (fun x hx => ?_)
  obtain ⟨a, b, hb⟩ := seg_mem (R.s p h1 h3) x hx
  exact link_ne_m hb hm

theorem set_same {h : Array Obj} {b : Nat} {o x : Obj} (hb : h[b]? = some x) : (h.setIfInBounds b o)[b]? = some o := by
  have := lt_of hb
  simp [this]
theorem set_other {h : Array Obj} {b k : Nat} {o : Obj} (hk : k ≠ b) : (h.setIfInBounds b o)[k]? = h[k]? := by
  rw [Array.getElem?_setIfInBounds, if_neg (Ne.symm hk)]

/-- A line has another chain, and the map has the entries that fit it: a queue again. -/
theorem rep_turned {w w' : World} {qb mb : Nat} {N : Lines} {p : Nat} {l : Chain} {c : Int} (T : Turned w w' qb mb N p l c) (R : Rep w.heap qb mb N c) (h1 : 1 ≤ p) (h3 : p ≤ 3)
    {E : List Ent} {ck : Nat} (hE : Holds E (upd N p l)) (hi : (idsOf (upd N p l)).Nodup) (hpos : ∀ i ∈ idsOf (upd N p l), 0 ≤ i ∧ i ≤ 9223372036854775807) :
    Rep (w'.heap.setIfInBounds mb (.map (ents E) ck)) qb mb (upd N p l) c := by
  obtain ⟨E0, ck0, hm, hE0⟩ := R.m
  have tm : w'.heap[mb]? = some (.map (ents E0) ck0) := (T.m R h1 h3).trans hm
  refine ⟨by rw [set_other (q_ne_m R.q hm)]; exact T.q, ⟨E, ck, set_same tm, hE⟩, fun k k1 k3 => ?_, hi, hpos, R.cnt⟩
  by_cases hk : k = p
  · subst hk
    rw [upd_same]
    refine seg_frame T.seg (fun x hx => set_other ?_)
    obtain ⟨a, b, hb⟩ := seg_mem T.seg x hx
    exact link_ne_m hb tm
  · rw [upd_other _ _ hk]
    refine seg_frame (R.s k k1 k3) (fun x hx => ?_)
    obtain ⟨a, b, hb⟩ := seg_mem (R.s k k1 k3) x hx
    rw [set_other (link_ne_m hb hm)]
    refine T.block _ (lt_of hb) (link_ne_q hb R.q) (fun y hy => ?_)
    obtain ⟨a', b', hb'⟩ := seg_mem (R.s p h1 h3) y hy
    exact blocks_ne hb' hb (lines_ne R.ids h1 h3 k1 k3 (Ne.symm hk) hy hx)

theorem ids_push {N : Lines} {p : Nat} {b : Nat} {id : Int} (h1 : 1 ≤ p) (h3 : p ≤ 3) : (idsOf (upd N p (N p ++ [(b, id)]))).Perm (id :: idsOf N) := by
  have hp : p = 1 ∨ p = 2 ∨ p = 3 := by omega
  rcases hp with rfl | rfl | rfl <;> simp only [idsOf, upd, List.map_append, List.append_assoc, List.map_cons, List.map_nil, if_true, show (2 : Nat) ≠ 1 from by decide, show (3 : Nat) ≠ 1 from by decide, show (1 : Nat) ≠ 2 from by decide, show (3 : Nat) ≠ 2 from by decide, show (1 : Nat) ≠ 3 from by decide, show (2 : Nat) ≠ 3 from by decide, if_false, List.singleton_append]
  · exact List.perm_middle
  · rw [← List.append_assoc, ← List.append_assoc]
    exact List.perm_middle
  · rw [← List.append_assoc, ← List.append_assoc, ← List.append_assoc]
    exact List.perm_append_singleton _ _

theorem holds_push {N : Lines} {p b : Nat} {id : Int} {E : List Ent} {born : Nat} (h1 : 1 ≤ p) (h3 : p ≤ 3) (hE : Holds E N) (hid : id ∉ idsOf N) : Holds (E ++ [⟨id, p, b, born⟩]) (upd N p (N p ++ [(b, id)])) := by
  have mono : ∀ k x, x ∈ N k → x ∈ upd N p (N p ++ [(b, id)]) k := fun k x hx => by
    by_cases e : k = p
    · subst e; rw [upd_same]; simp [hx]
    · rw [upd_other _ _ e]; exact hx
  refine ⟨?_, ?_, ?_, ?_⟩
  · rw [List.map_append, List.nodup_append]
    refine ⟨hE.nd, by simp, ?_⟩
    intro a ha b' hb' e
    obtain ⟨x, hx, rfl⟩ := List.mem_map.1 ha
    simp at hb'
    obtain ⟨k1, k3, hm⟩ := hE.has x hx
    exact hid (by have := mem_ids k1 k3 hm; simp at this; rw [← hb', ← e]; exact this)
  · intro e he
    rcases List.mem_append.1 he with he | he
    · obtain ⟨k1, k3, hm⟩ := hE.has e he
      exact ⟨k1, k3, mono _ _ hm⟩
    · simp at he; subst he
      exact ⟨h1, h3, by rw [upd_same]; simp⟩
  · intro k x k1 k3 hx
    by_cases e : k = p
    · subst e
      rw [upd_same] at hx
      rcases List.mem_append.1 hx with hx | hx
      · obtain ⟨e, he, r⟩ := hE.all k x k1 k3 hx
        exact ⟨e, by simp [he], r⟩
      · simp at hx; subst hx
        exact ⟨⟨id, k, b, born⟩, by simp, rfl, rfl, rfl⟩
    · rw [upd_other _ _ e] at hx
      obtain ⟨e, he, r⟩ := hE.all k x k1 k3 hx
      exact ⟨e, by simp [he], r⟩
  · have hp : p = 1 ∨ p = 2 ∨ p = 3 := by omega
    have := hE.len
    rcases hp with rfl | rfl | rfl <;> simp [upd, this] <;> omega

theorem find_absent {N : Lines} {E : List Ent} (hE : Holds E N) {id : Int} (hid : id ∉ idsOf N) : findE id E 0 = none :=
  findE_none (fun e he c => by obtain ⟨k1, k3, hm⟩ := hE.has e he; exact hid (by have := mem_ids k1 k3 hm; simp at this; rw [← c]; exact this))

theorem find_present {N : Lines} {E : List Ent} (hE : Holds E N) {p : Nat} {x : Nat × Int} (h1 : 1 ≤ p) (h3 : p ≤ 3) (hx : x ∈ N p) :
    ∃ j e, E[j]? = some e ∧ e.id = x.2 ∧ e.p = p ∧ e.b = x.1 ∧ findE x.2 E 0 = some (j, .agg #[.int .i64 p, .pointer (some ⟨x.1, 0, none⟩)]) := by
  obtain ⟨e, he, h1, h2, h3⟩ := hE.all p x h1 h3 hx
  obtain ⟨j, hj, hf⟩ := findE_some (i := 0) hE.nd he h1
  exact ⟨j, e, hj, h1, h2, h3, by rw [hf]; simp [Ent.val, h2, h3]⟩

/-- Behind an allocation, push or remove, and a store into the map. -/
theorem touch_turned {w w1 w2 w' : World} {qb mb : Nat} {N : Lines} {p : Nat} {l : Chain} {c : Int} {o m : Obj} (T : Turned w1 w2 qb mb N p l c) (h1 : 1 ≤ p) (h3 : p ≤ 3)
    (a1 : w1.heap = w.heap.push o) (a2 : w1.os = w.os) (a3 : w1.tape = w.tape) (a4 : w1.output = w.output)
    (b1 : w'.heap = w2.heap.setIfInBounds mb m) (b2 : w'.os = w2.os) (b3 : w'.tape = w2.tape) (b4 : w'.output = w2.output) : Touch (foot qb mb N) w w' := by
  refine ⟨b2.trans (T.os.trans a2), b3.trans (T.tape.trans a3), b4.trans (T.output.trans a4), ?_, fun k hk hf => ?_⟩
  · have := T.size
    rw [a1] at this
    rw [b1]; simp at this ⊢; omega
  · rw [b1, set_other (fun e => hf (.inr (.inl e))), T.block k (by rw [a1]; simp; omega) (fun e => hf (.inl e)) (fun x hx e => hf (.inr (.inr ⟨p, h1, h3, x, hx, e⟩))), a1, Array.getElem?_push, if_neg (by omega)]

/-- What Put has done. -/
def PutPost (qb mb : Nat) (N : Lines) (c : Int) (p : Nat) (id : Int) (w : World) (e : Ending) (w' : World) : Prop :=
  e = .returned (.int .i64 0) ∧ ∃ b, w.heap.size ≤ b ∧ Rep w'.heap qb mb (upd N p (N p ++ [(b, id)])) c ∧ Touch (foot qb mb N) w w'

set_option maxHeartbeats 400000 in
theorem put_ok (qb mb : Nat) (N : Lines) (c : Int) (w : World) (R : Rep w.heap qb mb N c) (p : Nat) (h1 : 1 ≤ p) (h3 : p ≤ 3) (hl : (N p).length < 4611686018427387904) (id : Int) (hid : id ∉ idsOf N) (hi0 : 0 ≤ id) (hi1 : id ≤ 9223372036854775807) :
    Calls Try.prog 11 #[.pointer (some ⟨qb, 0, none⟩), .int .i64 id, .int .i64 p] w (PutPost qb mb N c p id w) := by
  obtain ⟨E, ck, hm, hE⟩ := R.m
  have hc12 : w.cell? ⟨qb, 12, none⟩ = some (.map (some mb)) := by rw [cell_of R.q]; rfl
  have hlook := run_lookup_ents w Try.underlying54 Try.underlying2 (zero58 w) hm id
  rw [find_absent hE hid] at hlook
  simp only [Option.map_none, Option.getD_none, Option.isSome_none] at hlook
  have hq := lt_of R.q
  go_enter Try.func11, Try.ntmps11
  go_wp2_with (go_at_call 21; refine (is_yes qb mb _ hc12).mono ?_; rintro e w' ⟨rfl, rfl⟩)
  clear hlook
  have hmA : (w.heap.push (.cells #[.int .i64 0, .pointer none] 58))[mb]? = some (.map (ents E) ck) := push_at hm
  have HF := Lib.hid (find_absent hE hid)
  have HE := Lib.hid hE
  have HM := Lib.hid hmA
  have HR := Lib.hid R
  clear hmA hE R hm
  go_region_with (go_at_call 22; refine (push_rep qb mb N c _ (by exact HR.out.push _) p _ (by omega) h1 h3 hl id).mono ?_; rintro e w2 ⟨rfl, T⟩; have c2 : w2.cell? ⟨qb, 12, none⟩ = some (.map (some mb)) := (by rw [cell_of T.q]; rfl); have hup := run_update_ents w2 Try.underlying54 Try.underlying2 ((T.m (HR.out.push _) h1 h3).trans HM.out) ⟨id, p, w.heap.size + 1, ck⟩ HF.out rfl; have HT := Lib.hid T; clear T; unfold Ent.val at hup; simp only at hup)
  all_goals
    go_wp2
    go_ret
    have T := HT.out
    refine ⟨rfl, w.heap.size + 1, by omega, ?_, ?_⟩
    · have hid' : id ∉ idsOf N := hid
      have hs : (World.drew (w.alloc (Obj.cells #[Value.int IntKind.i64 0, Value.pointer none] 58))).heap.size = w.heap.size + 1 := by show (w.heap.push _).size = _; simp
      have R2 := rep_turned (E := E ++ [⟨id, p, w.heap.size + 1, ck⟩]) (ck := ck + 1) T (HR.out.push _) h1 h3 (by rw [hs]; exact holds_push h1 h3 HE.out hid') (by rw [hs]; exact (ids_push h1 h3).nodup_iff.2 (List.nodup_cons.2 ⟨hid', HR.out.ids⟩)) (by
        rw [hs]; intro i hi
        rcases List.mem_cons.1 ((ids_push h1 h3).mem_iff.1 hi) with rfl | hi
        · exact ⟨hi0, hi1⟩
        · exact HR.out.pos i hi)
      rw [hs] at R2
      exact R2
    · exact touch_turned T h1 h3 (w := w) (o := Obj.cells #[Value.int IntKind.i64 0, Value.pointer none] 58) rfl rfl rfl rfl rfl rfl rfl rfl
end Go.Proofs.Ytpfmpfmbmipglaa
