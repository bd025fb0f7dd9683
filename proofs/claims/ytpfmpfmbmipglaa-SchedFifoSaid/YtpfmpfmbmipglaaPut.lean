/-
  push and remove over a queue's blocks.
-/
import Derived.Test.YtpfmpfmbmipglaaRep
namespace Go.Proofs.Ytpfmpfmbmipglaa
open Go.RowKit

theorem cell_of {w : World} {b o : Nat} {c : Array Value} {t : TypeId} (h : w.heap[b]? = some (.cells c t (0, 0))) : w.cell? ⟨b, o, none⟩ = c[o]? := by
  simp [World.cell?, h]
theorem free_of {w : World} {b : Nat} {c : Array Value} {t : TypeId} (h : w.heap[b]? = some (.cells c t (0, 0))) (o : Nat) : w.frozen? ⟨b, o, none⟩ = false := by
  simp [World.frozen?, h]
theorem lt_of {h : Array Obj} {b : Nat} {o : Obj} (hb : h[b]? = some o) : b < h.size := by
  rw [Array.getElem?_eq_some_iff] at hb
  exact hb.1

theorem lst_none {l : Chain} (h : lst l none = none) : l = [] := by
  have : ∀ (l : Chain) (q : Nat), ∃ z, lst l (some q) = some z := by
    intro l
    induction l with
    | nil => exact fun q => ⟨q, rfl⟩
    | cons x l ih => exact fun _ => ih _
  cases l with
  | nil => rfl
  | cons x l => obtain ⟨z, hz⟩ := this l x.1; simp [lst, hz] at h

theorem lst_mem {l : Chain} {z : Nat} (h : lst l none = some z) : ∃ id, (z, id) ∈ l := by
  induction l with
  | nil => cases h
  | cons x l ih =>
    cases l with
    | nil => simp only [lst, Option.some.injEq] at h; exact ⟨x.2, by simp [← h]⟩
    | cons y l => obtain ⟨id, hi⟩ := ih h; exact ⟨id, by simp [hi]⟩

theorem link_ne_q {h : Array Obj} {b qb : Nat} {id : Int} {p n : Option Nat} {N : Lines} {mb : Nat} {c : Int} (hb : h[b]? = some (link id p n)) (hq : h[qb]? = some (.cells (qcells N mb c) 56 (0, 0))) : b ≠ qb := by
  intro e
  rw [e, hq] at hb
  simp [link] at hb
theorem link_ne_m {h : Array Obj} {b mb : Nat} {id : Int} {p n : Option Nat} {es : Array MapEntry} {c : Nat} (hb : h[b]? = some (link id p n)) (hq : h[mb]? = some (.map es c)) : b ≠ mb := by
  intro e
  rw [e, hq] at hb
  simp [link] at hb
theorem q_ne_m {h : Array Obj} {qb mb : Nat} {cs : Array Value} {t : TypeId} {f : Nat × Nat} {es : Array MapEntry} {c : Nat} (hb : h[qb]? = some (.cells cs t f)) (hq : h[mb]? = some (.map es c)) : qb ≠ mb := by
  intro e
  rw [e, hq] at hb
  simp at hb

/-- A line has another chain: the queue's block and the links of that line may have been written, and nothing else. -/
structure Turned (w w' : World) (qb mb : Nat) (N : Lines) (p : Nat) (l : Chain) (c : Int) : Prop where
  os : w'.os = w.os
  tape : w'.tape = w.tape
  output : w'.output = w.output
  q : w'.heap[qb]? = some (.cells (qcells (upd N p l) mb c) 56 (0, 0))
  seg : Seg w'.heap none l none
  size : w.heap.size ≤ w'.heap.size
  block : ∀ k, k < w.heap.size → k ≠ qb → (∀ x ∈ N p, x.1 ≠ k) → w'.heap[k]? = w.heap[k]?

theorem push_rep (qb mb : Nat) (N : Lines) (c : Int) (w : World) (R : Rep w.heap qb mb N c) (p o : Nat) (ho : o = 3 * p) (h1 : 1 ≤ p) (h3 : p ≤ 3) (hl : (N p).length < 4611686018427387904) (id : Int) :
    Calls Try.prog 22 #[.pointer (some ⟨qb, o, none⟩), .int .i64 id] w fun e w' => e = .returned (.pointer (some ⟨w.heap.size, 0, none⟩)) ∧ Turned w w' qb mb N p (N p ++ [(w.heap.size, id)]) c := by
  have hp : p = 1 ∨ p = 2 ∨ p = 3 := by omega
  have c0 : w.cell? ⟨qb, o, none⟩ = some (pt (hd (N p) none)) := by
    rw [cell_of R.q]; rcases hp with rfl | rfl | rfl <;> subst ho <;> rfl
  have c1 : w.cell? ⟨qb, o + 1, none⟩ = some (pt (lst (N p) none)) := by
    rw [cell_of R.q]; rcases hp with rfl | rfl | rfl <;> subst ho <;> rfl
  have c2 : w.cell? ⟨qb, o + 2, none⟩ = some (.int .i64 (N p).length) := by
    rw [cell_of R.q]; rcases hp with rfl | rfl | rfl <;> subst ho <;> rfl
  have hq := lt_of R.q
  cases hz : lst (N p) none with
  | none =>
    have hN := lst_none hz
    rw [hz] at c1
    refine (push_empty qb o id (N p).length w _ c0 c1 c2 (free_of R.q) hq (by omega) (by omega)).mono ?_
    rintro e w' ⟨rfl, t⟩
    have gq : w'.heap[qb]? = some (.cells (qcells (upd N p (N p ++ [(w.heap.size, id)])) mb c) 56 (0, 0)) := by
      rw [t.heap, Array.getElem?_push, if_neg (by simp [put_size]; omega), put_same (put_same (put_same R.q))]
      rw [hN]
      rcases hp with rfl | rfl | rfl <;> subst ho <;> simp [qcells, upd, hN, hd, lst]
    refine ⟨rfl, t.os, t.tape, t.output, gq, ?_, ?_, ?_⟩
    · rw [hN, t.heap]
      refine ⟨?_, trivial⟩
      rw [Array.getElem?_push, if_pos (by simp [put_size])]
      rfl
    · rw [t.heap]; simp [put_size]
    · intro k hk hkq _
      rw [t.heap, Array.getElem?_push, if_neg (by simp [put_size]; omega), put_other hkq, put_other hkq, put_other hkq]
  | some z =>
    obtain ⟨zi, hzm⟩ := lst_mem hz
    rw [hz] at c1
    have sg := R.s p h1 h3
    obtain ⟨za, zb, hzl⟩ := seg_mem sg _ hzm
    have hzq : z ≠ qb := link_ne_q hzl R.q
    refine (push_more qb o z id (N p).length w (pt zb) c1 c2 (free_of R.q) hq (by omega) (by omega) (by rw [cell_of hzl]; rfl) (free_of hzl 2) (lt_of hzl) hzq).mono ?_
    rintro e w' ⟨rfl, t⟩
    have hN : N p ≠ [] := by intro e; rw [e] at hzm; cases hzm
    have hhd : hd (N p ++ [(w.heap.size, id)]) none = hd (N p) none := by cases hc : N p with | nil => exact absurd hc hN | cons => rfl
    have hls : lst (N p ++ [(w.heap.size, id)]) none = some w.heap.size := by rw [lst_append]; rfl
    have q1 : (put w.heap z 2 (pt (some w.heap.size)))[qb]? = some (.cells (qcells N mb c) 56 (0, 0)) := by rw [put_other (Ne.symm hzq)]; exact R.q
    have gq : w'.heap[qb]? = some (.cells (qcells (upd N p (N p ++ [(w.heap.size, id)])) mb c) 56 (0, 0)) := by
      rw [t.heap, Array.getElem?_push, if_neg (by simp [put_size]; omega), put_same (put_same q1)]
      have hlen : ((N p ++ [(w.heap.size, id)]).length : Int) = (N p).length + 1 := by simp
      generalize N p ++ [(w.heap.size, id)] = l' at *
      rcases hp with rfl | rfl | rfl <;> subst ho <;> simp [qcells, upd, hhd, hls, hlen] <;> rfl
    refine ⟨rfl, t.os, t.tape, t.output, gq, ?_, ?_, ?_⟩
    · rw [seg_append]
      have sn := seg_setnext sg (line_nodup h1 h3 R.ids) hz (some w.heap.size)
      refine ⟨seg_frame sn (fun x hx => ?_), ?_, trivial⟩
      · obtain ⟨xa, xb, hxl⟩ := seg_mem sg x hx
        have hxq : x.1 ≠ qb := link_ne_q hxl R.q
        rw [t.heap, Array.getElem?_push, if_neg (by have := lt_of hxl; simp [put_size]; omega), put_other hxq, put_other hxq]
      · rw [hz, t.heap, Array.getElem?_push, if_pos (by simp [put_size])]
        rfl
    · rw [t.heap]; simp [put_size]
    · intro k hk hkq hkx
      have hkz : k ≠ z := fun e => hkx _ hzm e.symm
      rw [t.heap, Array.getElem?_push, if_neg (by simp [put_size]; omega), put_other hkq, put_other hkq, put_other hkz]

theorem remove_rep (qb mb : Nat) (N : Lines) (c : Int) (w : World) (R : Rep w.heap qb mb N c) (p o : Nat) (ho : o = 3 * p) (h1 : 1 ≤ p) (h3 : p ≤ 3) (hl : (N p).length < 4611686018427387904) (xs ys : Chain) (x : Nat × Int) (hN : N p = xs ++ x :: ys) :
    Calls Try.prog 24 #[.pointer (some ⟨qb, o, none⟩), .pointer (some ⟨x.1, 0, none⟩)] w fun e w' => e = .returned (.tuple #[]) ∧ Turned w w' qb mb N p (xs ++ ys) c := by
  have hp : p = 1 ∨ p = 2 ∨ p = 3 := by omega
  have c0 : w.cell? ⟨qb, o, none⟩ = some (pt (hd (N p) none)) := by
    rw [cell_of R.q]; rcases hp with rfl | rfl | rfl <;> subst ho <;> rfl
  have c1 : w.cell? ⟨qb, o + 1, none⟩ = some (pt (lst (N p) none)) := by
    rw [cell_of R.q]; rcases hp with rfl | rfl | rfl <;> subst ho <;> rfl
  have c2 : w.cell? ⟨qb, o + 2, none⟩ = some (.int .i64 (N p).length) := by
    rw [cell_of R.q]; rcases hp with rfl | rfl | rfl <;> subst ho <;> rfl
  have nd := line_nodup h1 h3 R.ids
  have sg := R.s p h1 h3
  have hlen : ((N p).length : Int) - 1 = (xs ++ ys).length := by rw [hN]; simp; omega
  have hlen1 : 1 ≤ ((N p).length : Int) := by rw [hN]; simp; omega
  rw [hN] at nd sg
  obtain ⟨s1, sx, s2⟩ := (seg_append _ _ _ _ _).1 sg
  have hxq : x.1 ≠ qb := link_ne_q sx R.q
  have x1 : w.cell? ⟨x.1, 1, none⟩ = some (pt (lst xs none)) := by rw [cell_of sx]; rfl
  have x2 : w.cell? ⟨x.1, 2, none⟩ = some (pt (hd ys none)) := by rw [cell_of sx]; rfl
  have ndx : (xs.map (·.2)).Nodup ∧ ((x :: ys).map (·.2)).Nodup ∧ ∀ a ∈ xs.map (·.2), ∀ b ∈ (x :: ys).map (·.2), a ≠ b := by
    rw [List.map_append] at nd; exact List.nodup_append.1 nd
  obtain ⟨nx, nxy, nn⟩ := ndx
  have ny : (ys.map (·.2)).Nodup := (List.nodup_cons.1 nxy).2
  have dxs : ∀ v ∈ xs, v.1 ≠ x.1 := fun v hv => by
    obtain ⟨a, b, hb⟩ := seg_mem s1 v hv
    exact blocks_ne hb sx (nn _ (List.mem_map.2 ⟨v, hv, rfl⟩) _ (by simp))
  have dys : ∀ v ∈ ys, v.1 ≠ x.1 := fun v hv => by
    obtain ⟨a, b, hb⟩ := seg_mem s2 v hv
    exact blocks_ne hb sx (fun c => (List.nodup_cons.1 nxy).1 (List.mem_map.2 ⟨v, hv, c⟩))
  have dxy : ∀ u ∈ xs, ∀ v ∈ ys, u.1 ≠ v.1 := fun u hu v hv => by
    obtain ⟨a, b, hb⟩ := seg_mem s1 u hu
    obtain ⟨a', b', hb'⟩ := seg_mem s2 v hv
    exact blocks_ne hb hb' (nn _ (List.mem_map.2 ⟨u, hu, rfl⟩) _ (by simp; exact .inr ⟨_, hv⟩))
  have qxs : ∀ v ∈ xs, v.1 ≠ qb := fun v hv => by obtain ⟨a, b, hb⟩ := seg_mem s1 v hv; exact link_ne_q hb R.q
  have qys : ∀ v ∈ ys, v.1 ≠ qb := fun v hv => by obtain ⟨a, b, hb⟩ := seg_mem s2 v hv; exact link_ne_q hb R.q
  cases hz : lst xs none with
  | none =>
    obtain rfl := lst_none hz
    cases ys with
    | nil =>
      refine (remove_only qb o x.1 (N p).length w _ _ x1 x2 c0 c1 c2 (free_of R.q) hxq hlen1 (by omega)).mono ?_
      rintro e w' ⟨rfl, t⟩
      have gq : w'.heap[qb]? = some (.cells (qcells (upd N p ([] ++ [])) mb c) 56 (0, 0)) := by
        rw [t.heap, put_same (put_same (put_same R.q)), hlen]
        rcases hp with rfl | rfl | rfl <;> subst ho <;> simp [qcells, upd, hd, lst] <;> rfl
      refine ⟨rfl, t.os, t.tape, t.output, gq, trivial, by rw [t.heap]; simp [put_size], ?_⟩
      intro k hk hkq _
      rw [t.heap, put_other hkq, put_other hkq, put_other hkq]
    | cons y ys =>
      obtain ⟨ya, yb, hyl⟩ := seg_mem s2 y (by simp)
      have hyq := qys y (by simp)
      have hyx := dys y (by simp)
      refine (remove_first qb o x.1 y.1 (N p).length w _ _ x1 x2 (by rw [cell_of hyl]; rfl) (free_of hyl 1) c0 c2 (free_of R.q) hxq hyq (Ne.symm hyx) hlen1 (by omega)).mono ?_
      rintro e w' ⟨rfl, t⟩
      have hls : lst (N p) none = lst ([] ++ y :: ys) none := by rw [hN]; rfl
      have q1 : (put (put w.heap qb o (pt (some y.1))) y.1 1 (pt none))[qb]? = some (.cells ((qcells N mb c).setIfInBounds o (pt (some y.1))) 56 (0, 0)) := by rw [put_other (Ne.symm hyq)]; exact put_same R.q
      have gq : w'.heap[qb]? = some (.cells (qcells (upd N p ([] ++ y :: ys)) mb c) 56 (0, 0)) := by
        rw [t.heap, put_same q1, hlen]
        rcases hp with rfl | rfl | rfl <;> subst ho <;> simp only [qcells, upd, hls] <;> rfl
      refine ⟨rfl, t.os, t.tape, t.output, gq, ?_, by rw [t.heap]; simp [put_size], ?_⟩
      · rw [t.heap]
        refine seg_frame (seg_setprev s2 ny none) (fun v hv => ?_)
        have hvq := qys v hv
        rw [put_other hvq]
        by_cases e : v.1 = y.1
        · rw [e, put_link1 (h := put w.heap qb o (pt (some y.1))) (by rw [put_other hyq]; exact hyl) none, put_link1 hyl none]
        · rw [put_other e, put_other e, put_other hvq]
      · intro k hk hkq hkx
        have hky : k ≠ y.1 := fun e => hkx y (by rw [hN]; simp) e.symm
        rw [t.heap, put_other hkq, put_other hky, put_other hkq]
  | some z =>
    obtain ⟨zi, hzm⟩ := lst_mem hz
    obtain ⟨za, zb, hzl⟩ := seg_mem s1 _ hzm
    have hzq := qxs _ hzm
    have hzx := dxs _ hzm
    have hxs : xs ≠ [] := by intro e; rw [e] at hzm; cases hzm
    rw [hz] at x1
    have hhd : hd (N p) none = hd (xs ++ ys) none := by rw [hN]; cases hc : xs with | nil => exact absurd hc hxs | cons => rfl
    cases ys with
    | nil =>
      refine (remove_last qb o x.1 z (N p).length w _ _ x1 x2 (by rw [cell_of hzl]; rfl) (free_of hzl 2) c1 c2 (free_of R.q) hxq hzq (Ne.symm hzx) hlen1 (by omega)).mono ?_
      rintro e w' ⟨rfl, t⟩
      have q1 : (put w.heap z 2 (pt none))[qb]? = some (.cells (qcells N mb c) 56 (0, 0)) := by rw [put_other (Ne.symm hzq)]; exact R.q
      have hls : lst (xs ++ []) none = some z := by simpa using hz
      have gq : w'.heap[qb]? = some (.cells (qcells (upd N p (xs ++ [])) mb c) 56 (0, 0)) := by
        rw [t.heap, put_same (put_same q1), hlen]
        rcases hp with rfl | rfl | rfl <;> subst ho <;> simp only [qcells, upd, hhd, ← hls] <;> rfl
      refine ⟨rfl, t.os, t.tape, t.output, gq, ?_, by rw [t.heap]; simp [put_size], ?_⟩
      · rw [t.heap, List.append_nil]
        refine seg_frame (seg_setnext s1 nx hz none) (fun v hv => ?_)
        rw [put_other (qxs v hv), put_other (qxs v hv)]
      · intro k hk hkq hkx
        have hkz : k ≠ z := fun e => hkx (z, zi) (by rw [hN]; simp [hzm]) e.symm
        rw [t.heap, put_other hkq, put_other hkq, put_other hkz]
    | cons y ys =>
      obtain ⟨ya, yb, hyl⟩ := seg_mem s2 y (by simp)
      have hyq := qys y (by simp)
      have hyx := dys y (by simp)
      have hyz : y.1 ≠ z := Ne.symm (dxy _ hzm y (by simp))
      refine (remove_mid qb o x.1 y.1 z (N p).length w _ _ x1 x2 (by rw [cell_of hzl]; rfl) (free_of hzl 2) (by rw [cell_of hyl]; rfl) (free_of hyl 1) c2 (free_of R.q) hxq hzq hyq (Ne.symm hzx) (Ne.symm hyx) hyz hlen1 (by omega)).mono ?_
      rintro e w' ⟨rfl, t⟩
      have q1 : (put (put w.heap z 2 (pt (some y.1))) y.1 1 (pt (some z)))[qb]? = some (.cells (qcells N mb c) 56 (0, 0)) := by rw [put_other (Ne.symm hyq), put_other (Ne.symm hzq)]; exact R.q
      have hls : lst (N p) none = lst (xs ++ y :: ys) none := by rw [hN, lst_append, lst_append]; rfl
      have gq : w'.heap[qb]? = some (.cells (qcells (upd N p (xs ++ y :: ys)) mb c) 56 (0, 0)) := by
        rw [t.heap, put_same q1, hlen]
        rcases hp with rfl | rfl | rfl <;> subst ho <;> simp only [qcells, upd, hhd, hls] <;> rfl
      refine ⟨rfl, t.os, t.tape, t.output, gq, ?_, by rw [t.heap]; simp [put_size], ?_⟩
      · rw [t.heap, seg_append, hz]
        constructor
        · refine seg_frame (seg_setnext s1 nx hz (some y.1)) (fun v hv => ?_)
          rw [put_other (qxs v hv), put_other (dxy v hv y (by simp))]
        · have s2' : Seg (put w.heap z 2 (pt (some y.1))) (some x.1) (y :: ys) none := seg_frame s2 (fun v hv => put_other (Ne.symm (dxy _ hzm v hv)))
          refine seg_frame (seg_setprev s2' ny (some z)) (fun v hv => ?_)
          rw [put_other (qys v hv)]
      · intro k hk hkq hkx
        have hkz : k ≠ z := fun e => hkx (z, zi) (by rw [hN]; simp [hzm]) e.symm
        have hky : k ≠ y.1 := fun e => hkx y (by rw [hN]; simp) e.symm
        rw [t.heap, put_other hkq, put_other hky, put_other hkz]
end Go.Proofs.Ytpfmpfmbmipglaa
