/-
  A region that draws its order: the invariant, and the law.
-/
import Derived.Test.YtihflniehaaakaaGreatDoorEvDraw
namespace Go.Proofs.YtihflniehaaakaaGreatDoor
set_option linter.unusedVariables false
set_option linter.unusedSimpArgs false
namespace Ev
variable [Opq]
set_option linter.unusedSectionVars false
section
variable {P : Program} {T : Ty} {m N : Nat}

/-- Where the run stands: so much of the chosen order's memory has come about; what has been carried out holds its value. -/
structure Inv (T : Ty) (m N : Nat) (call : CallT) (ops : Array Oper) (cl : List COper) (hi : Nat → Nat) (bs : List Nat) (s0 : St) (tr : List Ent) (sn : St) (g0 : G) (a0 : Act) (w0 : World)
    (listed : Array Bool) (a : Act) (w : World) (g : G) (A B : List Ent) (sA : St) : Prop where
  tr : tr = A ++ B
  tA : Trace call cl hi 0 s0 A sA
  tB : Trace call cl hi (nE cl A) sA B sn
  bnd : ∀ e B', B = e :: B' → isEAt cl e.i = true
  wr : WR T g sA.h w
  ext : Ext T g0 s0.h w0 g sA.h w
  size : listed.size = ops.size
  inA : ∀ i, listed.getD i false = true → ∃ e ∈ A, e.i = i
  es : ∀ e ∈ A, isEAt cl e.i = true → listed.getD e.i false = true
  closed : ∀ i, listed.getD i false = true → ∀ j, bit (bitsAt bs i) j = true → listed.getD j false = true
  tsize : a.tmps.size = N
  old : ∀ t, (∀ i, listed.getD i false = true → (ops[i]?).bind (·.dst) ≠ some t) → a.tmps[t]? = a0.tmps[t]?
  new : ∀ e ∈ A, listed.getD e.i false = true → ∀ t, (ops[e.i]?).bind (·.dst) = some t → ∃ u, a.tmps[t]? = some u ∧ VR g e.v u
  made : ∀ e ∈ A, ∀ blk, Made cl e blk → listed.getD e.i false = false → g e.s.h.next = none ∧ sA.h.blk e.s.h.next = some blk ∧ s0.h.next ≤ e.s.h.next
  ids : ∀ e ∈ A, ∀ blk, Made cl e blk → e.s.h.next < sA.h.next
  dist : ∀ e ∈ A, ∀ e' ∈ A, ∀ b b', Made cl e b → Made cl e' b' → e.s.h.next = e'.s.h.next → e = e'
  defers : a.defers = a0.defers

theorem getD_set (l : Array Bool) (i j : Nat) (h : i < l.size) : (l.setIfInBounds i true).getD j false = if j = i then true else l.getD j false := by
  rw [Array.getD_eq_getD_getElem?, Array.getD_eq_getD_getElem?, Array.getElem?_setIfInBounds]
  by_cases e : i = j
  · subst e
    simp [h]
  · rw [if_neg e, if_neg (fun h => e h.symm)]
/-- What is ready. -/
theorem ready_mem {ops : Array Oper} {listed : Array Bool} {i : Nat} (hs : listed.size = ops.size) (h : i ∈ Region.ready .any ops listed) : i < ops.size ∧ listed.getD i false = false ∧ ∃ o, ops[i]? = some o ∧ ∀ e ∈ o.after.toList, bindsE e = true → listed.getD e.on false = true := by
  unfold Region.ready at h
  rw [List.mem_filter, List.mem_range] at h
  obtain ⟨h1, h2⟩ := h
  rw [Bool.and_eq_true] at h2
  have ho : ops[i]? = some ops[i] := Array.getElem?_eq_getElem h1
  refine ⟨h1, ?_, ops[i], ho, fun e he hb => ?_⟩
  · have := h2.1
    rw [Array.getD_eq_getD_getElem?, Array.getElem?_eq_getElem (by omega)] at this ⊢
    simpa using this
  · have := h2.2
    rw [ho] at this
    simp only [Option.map_some, Option.getD_some, Array.all_eq_true_iff_forall_mem] at this
    have k := this e (by simpa using he)
    rw [binds_eq, hb] at k
    simpa using k
theorem ready_nil {ops : Array Oper} {bs : List Nat} {listed : Array Bool} (hst : Static T ops bs) (hs : listed.size = ops.size) (h : Region.ready .any ops listed = []) : ∀ i, i < ops.size → listed.getD i false = true := by
  intro i
  induction i using Nat.strongRecOn with
  | _ i ih =>
    intro hi
    cases hl : listed.getD i false with
    | true => rfl
    | false =>
      have ho : ops[i]? = some ops[i] := Array.getElem?_eq_getElem hi
      have : i ∈ Region.ready .any ops listed := by
        unfold Region.ready
        rw [List.mem_filter, List.mem_range]
        refine ⟨hi, ?_⟩
        rw [Bool.and_eq_true]
        refine ⟨?_, ?_⟩
        · rw [Array.getD_eq_getD_getElem?, Array.getElem?_eq_getElem (by omega)] at hl ⊢
          simpa using hl
        · rw [ho]
          simp only [Option.map_some, Option.getD_some, Array.all_eq_true_iff_forall_mem]
          intro e he
          rw [binds_eq]
          cases hb : bindsE e with
          | false => rfl
          | true =>
            have hlt := hst.back i _ ho e (by simpa using he) hb
            simpa using ih e.on hlt (by omega)
      rw [h] at this
      cases this
/-- How many are left. -/
def left (ops : Array Oper) (listed : Array Bool) : Nat := ((List.range ops.size).filter fun i => !listed.getD i false).length
theorem left_set {ops : Array Oper} {listed : Array Bool} {i : Nat} (hs : listed.size = ops.size) (hi : i < ops.size) (hl : listed.getD i false = false) : left ops (listed.setIfInBounds i true) + 1 ≤ left ops listed := by
  unfold left
  have h1 : (((List.range ops.size).filter fun j => !(listed.setIfInBounds i true).getD j false).length + 1) = (i :: ((List.range ops.size).filter fun j => !(listed.setIfInBounds i true).getD j false)).length := rfl
  rw [h1]
  refine sub_len ?_ fun x hx => ?_
  · rw [List.nodup_cons]
    refine ⟨fun h => ?_, List.nodup_range.filter _⟩
    rw [List.mem_filter, getD_set _ _ _ (by omega)] at h
    simp at h
  · rw [List.mem_filter, List.mem_range]
    cases hx with
    | head => exact ⟨hi, by simp [hl]⟩
    | tail _ hx =>
      have hx : x ∈ (List.range ops.size).filter fun j => !(listed.setIfInBounds i true).getD j false := hx
      rw [List.mem_filter, List.mem_range, getD_set _ _ _ (by omega)] at hx
      obtain ⟨h2, h3⟩ := hx
      refine ⟨h2, ?_⟩
      split at h3
      · cases h3
      · exact h3
theorem left_zero {ops : Array Oper} {listed : Array Bool} (h : left ops listed = 0) : ∀ i, i < ops.size → listed.getD i false = true := by
  intro i hi
  have h := List.eq_nil_of_length_eq_zero h
  cases hl : listed.getD i false with
  | true => rfl
  | false =>
    have : i ∈ (List.range ops.size).filter fun i => !listed.getD i false := by
      rw [List.mem_filter, List.mem_range]
      exact ⟨hi, by rw [hl]; rfl⟩
    rw [h] at this
    cases this
section
variable {call : CallT} {ops : Array Oper} {cl : List COper} {hi : Nat → Nat} {bs ord : List Nat} {s0 sn : St} {tr : List Ent} {g0 : G} {a0 : Act} {w0 : World} {listed : Array Bool} {a : Act} {w : World} {g : G} {A B : List Ent} {sA : St}

/-- The names behind an operation: each holds what it should. -/
theorem Inv.tmps (hst : Static T ops bs) (I : Inv T m N call ops cl hi bs s0 tr sn g0 a0 w0 listed a w g A B sA) {i : Nat} {o : Oper} (ho : ops[i]? = some o) {d : Dst} (hd : dst m N o.dst = some d) {u : Value} {g' : G} (hg : g.le g') :
    (∀ t, (∀ j, (listed.setIfInBounds i true).getD j false = true → (ops[j]?).bind (·.dst) ≠ some t) → (a.put o.dst u).tmps[t]? = a0.tmps[t]?) ∧
    (∀ e ∈ A, (listed.setIfInBounds i true).getD e.i false = true → e.i ≠ i → ∀ t, (ops[e.i]?).bind (·.dst) = some t → ∃ x, (a.put o.dst u).tmps[t]? = some x ∧ VR g' e.v x) ∧
    (∀ t, o.dst = some t → (a.put o.dst u).tmps[t]? = some u) := by
  have hi : i < listed.size := by
    rw [I.size]
    rcases Nat.lt_or_ge i ops.size with k | k
    · exact k
    · rw [Array.getElem?_eq_none k] at ho; cases ho
  refine ⟨fun t ht => ?_, fun e he hle hne t hdt => ?_, fun t hdt => ?_⟩
  · rw [put_tmps, if_neg]
    · refine I.old t fun j hj => ht j ?_
      rw [getD_set _ _ _ hi]
      split
      · rfl
      · exact hj
    · intro hx
      have := ht i (by rw [getD_set _ _ _ hi, if_pos rfl])
      rw [ho] at this
      exact this hx.1
  · rw [getD_set _ _ _ hi, if_neg hne] at hle
    obtain ⟨x, k1, k2⟩ := I.new e he hle t hdt
    refine ⟨x, ?_, k2.mono hg⟩
    rw [put_tmps, if_neg]
    · exact k1
    · intro hx
      obtain ⟨p, hp, hpd⟩ : ∃ p, ops[e.i]? = some p ∧ p.dst = some t := by
        cases hpp : ops[e.i]? with
        | none => rw [hpp] at hdt; cases hdt
        | some p => rw [hpp] at hdt; exact ⟨p, rfl, hdt⟩
      have hmem : t ∈ namesOf T ops o := by
        unfold namesOf
        rw [hx.1]
        simp
      exact (hst.names i e.i o p t (fun h => hne h.symm) ho hp hpd hmem).2 hx.1
  · rw [put_tmps, if_pos]
    refine ⟨hdt, ?_⟩
    rw [I.tsize]
    rw [hdt] at hd
    exact dst_lt hd
/-- One entry for each operation. -/
theorem ent_unique (hor : Order ops cl bs ord) (hmap : tr.map (·.i) = ord) {x y : Ent} (hx : x ∈ tr) (hy : y ∈ tr) (h : x.i = y.i) : x = y := by
  obtain ⟨s1, s2, e1⟩ := List.append_of_mem hx
  rw [e1] at hy
  have ho : ord = s1.map (·.i) ++ x.i :: s2.map (·.i) := by rw [← hmap, e1]; simp
  rcases List.mem_append.1 hy with k | k
  · have := (hor.pre _ _ _ ho).2.1
    rw [List.mem_map] at this
    exact (this ⟨y, k, h.symm⟩).elim
  · rcases List.mem_cons.1 k with k | k
    · exact k.symm
    · obtain ⟨z1, z2, rfl⟩ := List.append_of_mem k
      have := (hor.pre (s1.map (·.i) ++ x.i :: z1.map (·.i)) y.i (z2.map (·.i)) (by rw [ho]; simp)).2.1
      exact (this (by rw [h]; simp)).elim
/-- What an operation reads is the same in whatever order. -/
theorem Inv.reads (hst : Static T ops bs) (hor : Order ops cl bs ord) (hcl : ∀ (i : Nat) c, cl[i]? = some c → ∃ o, ops[i]? = some o ∧ Parts T m N ops o c) (hmap : tr.map (·.i) = ord) (F0 : FR g0 m N s0.f a0.tmps)
    (I : Inv T m N call ops cl hi bs s0 tr sn g0 a0 w0 listed a w g A B sA) {e : Ent} {A0 A1 : List Ent} (hA : tr = A0 ++ e :: A1) (t0 : Trace call cl hi 0 s0 A0 e.s) {o : Oper} (ho : ops[e.i]? = some o)
    (hl : listed.getD e.i false = false) (hbef : ∀ (j : Nat) (p : Oper) d, ops[j]? = some p → p.dst = some d → bit (bitsAt bs e.i) j = true → listed.getD j false = true) :
    ∀ t ∈ namesOf T ops o, ∀ v, rdn m e.s.f t = some v → ∃ u, a.tmps[t]? = some u ∧ VR g v u := by
  intro t ht v hv
  have hord : ord = (A0.map (·.i)) ++ e.i :: (A1.map (·.i)) := by rw [← hmap, hA]; simp
  obtain ⟨p1, p2, p3⟩ := hor.pre _ _ _ hord
  obtain ⟨n1, n2⟩ := t0.names hcl
  have dstOf : ∀ j : Nat, (ops[j]?).bind (fun x : Oper => x.dst) = some t → ∃ p : Oper, ops[j]? = some p ∧ p.dst = some t := by
    intro j hj
    cases hpp : ops[j]? with
    | none => rw [hpp] at hj; cases hj
    | some p => rw [hpp] at hj; exact ⟨p, rfl, hj⟩
  -- who stands behind the operation cannot stand before it
  have notBehind : ∀ x ∈ A0, bit (bitsAt bs x.i) e.i = true → False := by
    intro x hx hb
    obtain ⟨s, r, rfl⟩ := List.append_of_mem hx
    have := (hor.pre (s.map (·.i)) x.i (r.map (·.i) ++ e.i :: A1.map (·.i)) (by rw [hord]; simp)).1 e.i hb
    exact p2 (by rw [List.map_append, List.mem_append]; exact .inl this)
  by_cases hw : ∃ x ∈ A0, (ops[x.i]?).bind (·.dst) = some t
  · obtain ⟨x, hx, hxd⟩ := hw
    obtain ⟨p, hp, hpd⟩ := dstOf x.i hxd
    obtain ⟨s, r, rfl⟩ := List.append_of_mem hx
    have hne : e.i ≠ x.i := fun h => p2 (by rw [h, List.map_append, List.map_cons]; simp)
    have hrd : rdn m e.s.f t = some x.v := by
      refine n2 s x r rfl t hxd fun y hy hyd => ?_
      obtain ⟨q, hq, hqd⟩ := dstOf y.i hyd
      have hxy : x.i ≠ y.i := by
        intro h
        obtain ⟨r1, r2, rfl⟩ := List.append_of_mem hy
        have := (hor.pre (s.map (·.i) ++ x.i :: r1.map (·.i)) y.i (r2.map (·.i) ++ e.i :: A1.map (·.i)) (by rw [hord]; simp)).2.1
        exact this (by rw [← h]; simp)
      have hmem : t ∈ namesOf T ops p := by
        unfold namesOf
        rw [hpd]
        simp
      exact (hst.names x.i y.i p q t hxy hp hq hqd hmem).2 hpd
    rw [hrd] at hv
    cases hv
    have hb : bit (bitsAt bs e.i) x.i = true := by
      rcases (hst.names e.i x.i o p t hne ho hp hpd ht).1 with q | q
      · exact q
      · exact (notBehind x hx q).elim
    have hlx := hbef _ p t hp hpd hb
    obtain ⟨y, hy, hyx⟩ := I.inA _ hlx
    have hyx' : y = x := ent_unique hor hmap (by rw [I.tr]; exact List.mem_append_left _ hy) (by rw [hA]; exact List.mem_append_left _ (by simp)) hyx
    rw [hyx'] at hy
    exact I.new x hy hlx t hxd
  · have hrd : rdn m e.s.f t = rdn m s0.f t := n1 t fun x hx hd => hw ⟨x, hx, hd⟩
    rw [hrd] at hv
    obtain ⟨u, k1, k2⟩ := F0.2 t v hv
    refine ⟨u, ?_, k2.mono I.ext.le⟩
    rw [I.old t fun j hj hd => ?_]
    · exact k1
    · obtain ⟨p, hp, hpd⟩ := dstOf j hd
      have hne : e.i ≠ j := by
        intro h
        rw [← h, hl] at hj
        cases hj
      rcases (hst.names e.i j o p t hne ho hp hpd ht).1 with q | q
      · have := p1 j q
        rw [List.mem_map] at this
        obtain ⟨x, hx, rfl⟩ := this
        exact hw ⟨x, hx, hd⟩
      · have := I.closed j hj e.i q
        rw [hl] at this
        cases this
end
end
end Ev
end Go.Proofs.YtihflniehaaakaaGreatDoor
namespace Go.Proofs.YtihflniehaaakaaGreatDoor
set_option linter.unusedVariables false
set_option linter.unusedSimpArgs false
namespace Ev
variable [Opq]
set_option linter.unusedSectionVars false
section
variable {P : Program} {T : Ty} {m N : Nat}
variable {call : CallT} {ops : Array Oper} {cl : List COper} {hi : Nat → Nat} {bs ord : List Nat} {s0 sn : St} {tr : List Ent} {g0 : G} {a0 : Act} {w0 : World} {listed : Array Bool} {a : Act} {w : World} {g : G} {A B : List Ent} {sA : St}

theorem idx_lt {o : Oper} {i : Nat} (h : ops[i]? = some o) : i < ops.size := by
  rcases Nat.lt_or_ge i ops.size with k | k
  · exact k
  · rw [Array.getElem?_eq_none k] at h; cases h
/-- Closed under what comes before, with one more. -/
theorem closed_set {o : Oper} {i : Nat} (hs : listed.size = ops.size) (ho : ops[i]? = some o) (hc : ∀ i, listed.getD i false = true → ∀ j, bit (bitsAt bs i) j = true → listed.getD j false = true)
    (hbef : ∀ j, bit (bitsAt bs i) j = true → listed.getD j false = true) : ∀ k, (listed.setIfInBounds i true).getD k false = true → ∀ j, bit (bitsAt bs k) j = true → (listed.setIfInBounds i true).getD j false = true := by
  intro k hk j hj
  have hi := idx_lt ho
  rw [getD_set _ _ _ (by omega)] at hk ⊢
  split
  · rfl
  · split at hk
    · rename_i h
      subst h
      exact hbef j hj
    · exact hc k hk j hj
/-- An operation that writes no memory has been carried out. -/
theorem Inv.same (hst : Static T ops bs) (hor : Order ops cl bs ord) (hmap : tr.map (·.i) = ord) (I : Inv T m N call ops cl hi bs s0 tr sn g0 a0 w0 listed a w g A B sA) {e : Ent} (he : e ∈ A) {o : Oper} (ho : ops[e.i]? = some o) (hl : listed.getD e.i false = false)
    (hbef : ∀ j, bit (bitsAt bs e.i) j = true → listed.getD j false = true) {d : Dst} (hd : dst m N o.dst = some d) {u : Value} {g' : G} {w' : World} (x : Ext T g sA.h w g' sA.h w') (hv : VR g' e.v u) :
    Inv T m N call ops cl hi bs s0 tr sn g0 a0 w0 (listed.setIfInBounds e.i true) (a.put o.dst u) w' g' A B sA := by
  have hlt := idx_lt ho
  obtain ⟨t1, t2, t3⟩ := I.tmps (u := u) hst ho hd x.le
  refine ⟨I.tr, I.tA, I.tB, I.bnd, x.wr, I.ext.trans x, by simp [I.size], fun i hi => ?_, fun y hy hE => ?_, closed_set I.size ho I.closed hbef, by rw [put_size]; exact I.tsize, t1, fun y hy hly t hdt => ?_, fun y hy blk hm hly => ?_, I.ids, I.dist, (put_defers _ _ _).trans I.defers⟩
  · rw [getD_set _ _ _ (by rw [I.size]; exact hlt)] at hi
    split at hi
    · rename_i h; exact ⟨e, he, h.symm⟩
    · exact I.inA i hi
  · rw [getD_set _ _ _ (by rw [I.size]; exact hlt)]
    split
    · rfl
    · exact I.es y hy hE
  · by_cases hye : y.i = e.i
    · have hyx : y = e := ent_unique hor hmap (by rw [I.tr]; exact List.mem_append_left _ hy) (by rw [I.tr]; exact List.mem_append_left _ he) hye
      subst hyx
      rw [ho] at hdt
      exact ⟨u, t3 t hdt, hv⟩
    · exact t2 y hy hly hye t hdt
  · rw [getD_set _ _ _ (by rw [I.size]; exact hlt)] at hly
    split at hly
    · cases hly
    · obtain ⟨k1, k2, k3⟩ := I.made y hy blk hm hly
      obtain ⟨k4, k5⟩ := x.un _ (I.ids y hy blk hm) k1
      exact ⟨k4, k2, k3⟩
theorem Ext.place {h0 h : H} (x : Ext T g0 h0 w0 g h w) {id z : Nat} {o : Obj} (hid : h0.next ≤ id) (hn : g id = none) (r : WR T (gput g id (w.heap.size, 0, z)) h (w.alloc o)) : Ext T g0 h0 w0 (gput g id (w.heap.size, 0, z)) h (w.alloc o) := by
  refine ⟨G.le_trans x.le (gput_le _ hn), x.next, r, fun i hi e => ?_, ?_, fun b hb hu => ?_, fun i b o' z' e1 e2 => ?_, fun i b o' z' n cs e1 e2 => ?_, x.os, x.tape, x.output⟩
  · obtain ⟨k1, k2⟩ := x.un i hi e
    exact ⟨by rw [gput_ne _ (by omega)]; exact k1, k2⟩
  · rw [World.size_alloc]; have := x.size; omega
  · rw [heap_alloc (by have := x.size; omega)]
    exact x.keep b hb hu
  · by_cases hi : i = id
    · subst hi
      rw [gput_same] at e1
      cases e1
      exact .inl x.size
    · rw [gput_ne _ hi] at e1
      exact x.fresh i b o' z' e1 e2
  · obtain ⟨k1, k2⟩ := x.ro i b o' z' n cs e1 e2
    exact ⟨k1, by rw [heap_alloc (x.wr.lt _ _ _ _ (x.le _ _ e1))]; exact k2⟩
/-- A block has been made. -/
theorem Inv.make (hst : Static T ops bs) (hor : Order ops cl bs ord) (hmap : tr.map (·.i) = ord) (I : Inv T m N call ops cl hi bs s0 tr sn g0 a0 w0 listed a w g A B sA) {e : Ent} (he : e ∈ A) {o : Oper} (ho : ops[e.i]? = some o) (hl : listed.getD e.i false = false)
    (hbef : ∀ j, bit (bitsAt bs e.i) j = true → listed.getD j false = true) {d : Dst} (hd : dst m N o.dst = some d) {blk : Blk} (hm : Made cl e blk) {mk : Nat → V} {ρ : Operand → Value} {op : Op} (hmk : Makes P T g ρ op blk mk) (hv : e.v = mk e.s.h.next) :
    ∃ (obj : Obj) (val : Nat → Value) (g' : G), (∀ (w : World) (o : Oper), o.op = op → (execOp ρ o).run P w = .ok (.value (val w.heap.size)) (w.alloc obj)) ∧
      Inv T m N call ops cl hi bs s0 tr sn g0 a0 w0 (listed.setIfInBounds e.i true) (a.put o.dst (val w.heap.size)) (w.alloc obj) g' A B sA := by
  have hlt := idx_lt ho
  obtain ⟨obj, z, val, m1, m2, m3⟩ := hmk.make
  obtain ⟨k1, k2, k3⟩ := I.made e he blk hm hl
  have kid := I.ids e he blk hm
  have hle := gput_le (g := g) (w.heap.size, 0, z) k1
  have r' := I.wr.place (z := z) (o := obj) kid k1 k2 hmk.kin (m3 _ _ _ _ hle (gput_same _ _ _) (heap_alloc_new w obj))
  obtain ⟨t1, t2, t3⟩ := I.tmps (u := val w.heap.size) hst ho hd hle
  refine ⟨obj, val, _, m1, I.tr, I.tA, I.tB, I.bnd, r', I.ext.place k3 k1 r', by simp [I.size], fun i hi => ?_, fun y hy hE => ?_, closed_set I.size ho I.closed hbef, by rw [put_size]; exact I.tsize, t1, fun y hy hly t hdt => ?_, fun y hy blk' hm' hly => ?_, I.ids, I.dist, (put_defers _ _ _).trans I.defers⟩
  · rw [getD_set _ _ _ (by rw [I.size]; exact hlt)] at hi
    split at hi
    · rename_i h; exact ⟨e, he, h.symm⟩
    · exact I.inA i hi
  · rw [getD_set _ _ _ (by rw [I.size]; exact hlt)]
    split
    · rfl
    · exact I.es y hy hE
  · by_cases hye : y.i = e.i
    · have hyx : y = e := ent_unique hor hmap (by rw [I.tr]; exact List.mem_append_left _ hy) (by rw [I.tr]; exact List.mem_append_left _ he) hye
      subst hyx
      rw [ho] at hdt
      exact ⟨_, t3 t hdt, by rw [hv]; exact m2 _ _ _ hle (gput_same _ _ _)⟩
    · exact t2 y hy hly hye t hdt
  · rw [getD_set _ _ _ (by rw [I.size]; exact hlt)] at hly
    split at hly
    · cases hly
    · rename_i hne
      obtain ⟨q1, q2, q3⟩ := I.made y hy blk' hm' hly
      refine ⟨?_, q2, q3⟩
      rw [gput_ne]
      · exact q1
      · intro h
        exact hne (by rw [I.dist y hy e he blk' blk hm' hm h])
/-- An operation that writes memory has been carried out: the memory of the next stretch. -/
theorem Inv.write (hst : Static T ops bs) (hor : Order ops cl bs ord) (hmap : tr.map (·.i) = ord) {e : Ent} {B' : List Ent} (I : Inv T m N call ops cl hi bs s0 tr sn g0 a0 w0 listed a w g A (e :: B') sA) (hE : isEAt cl e.i = true) {o : Oper} (ho : ops[e.i]? = some o) (hl : listed.getD e.i false = false)
    (hbef : ∀ j, bit (bitsAt bs e.i) j = true → listed.getD j false = true) {d : Dst} (hd : dst m N o.dst = some d) {c : COper} {s1 : St} (hc : cl[e.i]? = some c) (hs : e.s = sA) (hst1 : Step call { c with lo := nE cl A, hi := hi e.i } sA e.v s1)
    (ht : Trace call cl hi (if isE c.op = true then nE cl A + 1 else nE cl A) s1 B' sn) (hek : e.k = nE cl A) {u : Value} {g' : G} {w' : World} (x : Ext T g sA.h w g' s1.h w') (hv : VR g' e.v u) (hnm : ∀ blk, ¬ Made cl e blk) :
    ∃ A' B'' sA', Inv T m N call ops cl hi bs s0 tr sn g0 a0 w0 (listed.setIfInBounds e.i true) (a.put o.dst u) w' g' A' B'' sA' := by
  have hlt := idx_lt ho
  obtain ⟨t1, t2, t3⟩ := I.tmps (u := u) hst ho hd x.le
  obtain ⟨S, B'', s', q1, q2, q3, q4, q5, q6, q7, q8, q9, q10⟩ := seg_ok ht x.wr
  have hEc : isE c.op = true := by rw [← isEAt_eq hc]; exact hE
  have hnE : nE cl (A ++ e :: S) = nE cl A + 1 := by
    unfold nE
    rw [List.filter_append, List.filter_cons, if_pos hE]
    have : S.filter (fun e => isEAt cl e.i) = [] := by
      rw [List.filter_eq_nil_iff]
      intro y hy
      rw [q5 y hy]
      decide
    rw [this]
    simp
  have he : e = ⟨e.i, nE cl A, e.v, sA⟩ := by
    obtain ⟨i, k, v, s⟩ := e
    simp only at hs hek
    rw [hs, hek]
  have htr : tr = (A ++ e :: S) ++ B'' := by rw [I.tr, q1]; simp
  have hA1 : Trace call cl hi 0 s0 (A ++ e :: S) s' := by
    refine Trace.append I.tA ?_
    rw [he]
    rw [Nat.zero_add]
    exact .cons hc hst1 q2
  have hnew : ∀ y ∈ A ++ e :: S, y ∈ A ∨ y = e ∨ y ∈ S := by
    intro y hy
    rcases List.mem_append.1 hy with h | h
    · exact .inl h
    · rcases List.mem_cons.1 h with h | h
      · exact .inr (.inl h)
      · exact .inr (.inr h)
  have hord : ord = A.map (·.i) ++ e.i :: (S ++ B'').map (·.i) := by rw [← hmap, I.tr, q1]; simp
  -- what is behind has not been carried out
  have behind : ∀ y ∈ S, (listed.setIfInBounds e.i true).getD y.i false = false := by
    intro y hy
    have hyT : y ∈ tr := by rw [htr]; simp [hy]
    have heT : e ∈ tr := by rw [htr]; simp
    rw [getD_set _ _ _ (by rw [I.size]; exact hlt), if_neg]
    · cases hly : listed.getD y.i false with
      | false => rfl
      | true =>
        obtain ⟨z, hz, hzy⟩ := I.inA _ hly
        have hzy' : z = y := ent_unique hor hmap (by rw [htr]; simp [hz]) hyT hzy
        subst hzy'
        obtain ⟨s1', s2', rfl⟩ := List.append_of_mem hy
        have := (hor.pre (A.map (·.i) ++ e.i :: s1'.map (·.i)) z.i (s2'.map (·.i) ++ B''.map (·.i)) (by rw [hord]; simp)).2.1
        exact (this (List.mem_append_left _ (List.mem_map.2 ⟨z, hz, rfl⟩))).elim
    · intro h
      have := ent_unique hor hmap hyT heT h
      subst this
      rw [q5 y hy] at hE
      cases hE
  have hmono : sA.h.next ≤ s'.h.next := Nat.le_trans x.next q7
  refine ⟨A ++ e :: S, B'', s', htr, hA1, by rw [hnE]; rw [if_pos hEc] at q3; exact q3, q4, q6, (I.ext.trans x).mem q6 q7 q8, by simp [I.size], fun i hi => ?_, fun y hy hEy => ?_, closed_set I.size ho I.closed hbef, by rw [put_size]; exact I.tsize, t1, fun y hy hly t hdt => ?_, fun y hy blk hm hly => ?_, fun y hy blk hm => ?_, fun y hy z hz b b' hm hm' hyz => ?_, (put_defers _ _ _).trans I.defers⟩
  · rw [getD_set _ _ _ (by rw [I.size]; exact hlt)] at hi
    split at hi
    · rename_i h; exact ⟨e, by simp, h.symm⟩
    · obtain ⟨y, hy, hyi⟩ := I.inA i hi
      exact ⟨y, by simp [hy], hyi⟩
  · rw [getD_set _ _ _ (by rw [I.size]; exact hlt)]
    split
    · rfl
    · rename_i hne
      rcases hnew y hy with h | h | h
      · exact I.es y h hEy
      · exact absurd (by rw [h]) hne
      · rw [q5 y h] at hEy; cases hEy
  · rcases hnew y hy with h | h | h
    · by_cases hye : y.i = e.i
      · have hyT : y ∈ tr := by rw [htr]; simp [h]
        have : y = e := ent_unique hor hmap hyT (by rw [htr]; simp) hye
        subst this
        rw [ho] at hdt
        exact ⟨u, t3 t hdt, hv⟩
      · exact t2 y h hly hye t hdt
    · subst h
      rw [ho] at hdt
      exact ⟨u, t3 t hdt, hv⟩
    · rw [behind y h] at hly; cases hly
  · rcases hnew y hy with h | h | h
    · rw [getD_set _ _ _ (by rw [I.size]; exact hlt)] at hly
      split at hly
      · cases hly
      · obtain ⟨k1, k2, k3⟩ := I.made y h blk hm hly
        have kid := I.ids y h blk hm
        obtain ⟨k4, k5⟩ := x.un _ kid k1
        exact ⟨k4, by rw [q8 _ (Nat.lt_of_lt_of_le kid x.next), k5]; exact k2, k3⟩
    · subst h
      exact absurd hm (hnm blk)
    · obtain ⟨z1, z2, z3⟩ := q9 y h blk hm
      refine ⟨?_, z3, Nat.le_trans I.ext.next (Nat.le_trans x.next z1)⟩
      cases hg : g' y.s.h.next with
      | none => rfl
      | some p => exact absurd (x.wr.dom _ _ hg) (by omega)
  · rcases hnew y hy with h | h | h
    · exact Nat.lt_of_lt_of_le (I.ids y h blk hm) hmono
    · subst h; exact absurd hm (hnm blk)
    · exact (q9 y h blk hm).2.1
  · rcases hnew y hy with h | h | h
    · rcases hnew z hz with h' | h' | h'
      · exact I.dist y h z h' b b' hm hm' hyz
      · subst h'; exact absurd hm' (hnm b')
      · have k1 := I.ids y h b hm
        have k2 := (q9 z h' b' hm').1
        have := x.next
        omega
    · subst h; exact absurd hm (hnm b)
    · rcases hnew z hz with h' | h' | h'
      · have k1 := I.ids z h' b' hm'
        have k2 := (q9 y h b hm).1
        have := x.next
        omega
      · subst h'; exact absurd hm' (hnm b')
      · exact q10 y h z h' b b' hm hm' hyz
end
end Ev
end Go.Proofs.YtihflniehaaakaaGreatDoor
namespace Go.Proofs.YtihflniehaaakaaGreatDoor
set_option linter.unusedVariables false
set_option linter.unusedSimpArgs false
namespace Ev
variable [Opq]
set_option linter.unusedSectionVars false
section
variable {P : Program} {T : Ty} {m N : Nat}
variable {call : CallT} {ops : Array Oper} {cl : List COper} {bs ord : List Nat} {s0 sn : St} {tr : List Ent} {g0 : G} {a0 : Act} {w0 : World}

/-- Up to which count a reading may stand. -/
noncomputable abbrev hiOf (ops : Array Oper) (cl : List COper) (bs : List Nat) : Nat → Nat := fun i => lenL (((List.range ops.size).filter (isEAt cl)).filter fun e => !bit (bitsAt bs e) i)
theorem nE_le (hor : Order ops cl bs ord) (hmap : tr.map (·.i) = ord) (hcl : ∀ (i : Nat) c, cl[i]? = some c → ∃ o, ops[i]? = some o ∧ Parts T m N ops o c) {listed : Array Bool} {a : Act} {w : World} {g : G} {A B : List Ent} {sA : St} (I : Inv T m N call ops cl (hiOf ops cl bs) bs s0 tr sn g0 a0 w0 listed a w g A B sA) {i : Nat} (hl : listed.getD i false = false) : nE cl A ≤ hiOf ops cl bs i := by
  unfold nE
  show _ ≤ lenL _
  rw [lenL_eq]
  have h1 : (A.filter fun e => isEAt cl e.i).length = ((A.filter fun e => isEAt cl e.i).map (·.i)).length := by simp
  rw [h1]
  refine sub_len ?_ fun x hx => ?_
  · have hnd : ∀ (pre l post : List Ent), tr = pre ++ l ++ post → (l.map (·.i)).Nodup := by
      intro pre l
      induction l generalizing pre with
      | nil => intro post _; exact List.nodup_nil
      | cons e l ih =>
        intro post he
        rw [List.map_cons, List.nodup_cons]
        refine ⟨fun hm => ?_, ih (pre ++ [e]) post (by rw [he]; simp)⟩
        rw [List.mem_map] at hm
        obtain ⟨y, hy, hye⟩ := hm
        obtain ⟨s1, s2, rfl⟩ := List.append_of_mem hy
        have := (hor.pre (pre.map (·.i) ++ e.i :: s1.map (·.i)) y.i (s2.map (·.i) ++ post.map (·.i)) (by rw [← hmap, he]; simp)).2.1
        exact this (by rw [hye]; simp)
    have := hnd [] A B (by rw [I.tr]; simp)
    exact List.Sublist.nodup (List.Sublist.map _ List.filter_sublist) this
  · rw [List.mem_map] at hx
    obtain ⟨y, hy, rfl⟩ := hx
    rw [List.mem_filter] at hy
    rw [List.mem_filter, List.mem_filter, List.mem_range]
    refine ⟨⟨?_, hy.2⟩, ?_⟩
    · have : ∃ c, cl[y.i]? = some c := by
        cases hc : cl[y.i]? with
        | some c => exact ⟨c, rfl⟩
        | none =>
          have := hy.2
          unfold isEAt at this
          rw [nthL_eq, hc] at this
          cases this
      obtain ⟨c, hc⟩ := this
      obtain ⟨o, ho, _⟩ := hcl _ _ hc
      exact idx_lt ho
    · have := I.es y hy.1 hy.2
      cases hb : bit (bitsAt bs y.i) i with
      | false => rfl
      | true =>
        have := I.closed _ this _ hb
        rw [hl] at this
        cases this
/-- All has been carried out. -/
theorem Inv.done (hor : Order ops cl bs ord) (hmap : tr.map (·.i) = ord) (hcl : ∀ (i : Nat) c, cl[i]? = some c → ∃ o, ops[i]? = some o ∧ Parts T m N ops o c) (hst : Static T ops bs) (F0 : FR g0 m N s0.f a0.tmps) {hi : Nat → Nat} {listed : Array Bool} {a : Act} {w : World} {g : G} {A B : List Ent} {sA : St}
    (I : Inv T m N call ops cl hi bs s0 tr sn g0 a0 w0 listed a w g A B sA) (hall : ∀ i, i < ops.size → listed.getD i false = true) : Ext T g0 s0.h w0 g sn.h w ∧ FR g m N sn.f a.tmps ∧ a.defers = a0.defers := by
  have hB : B = [] := by
    cases hB : B with
    | nil => rfl
    | cons e B' =>
      have htr := I.tr
      rw [hB] at htr
      have hE := I.bnd e B' hB
      have hc : ∃ c, cl[e.i]? = some c := by
        cases hc : cl[e.i]? with
        | some c => exact ⟨c, rfl⟩
        | none =>
          unfold isEAt at hE
          rw [nthL_eq, hc] at hE
          cases hE
      obtain ⟨c, hc⟩ := hc
      obtain ⟨o, ho, _⟩ := hcl _ _ hc
      obtain ⟨x, hx, hxe⟩ := I.inA e.i (hall _ (idx_lt ho))
      have := (hor.pre (A.map (·.i)) e.i (B'.map (·.i)) (by rw [← hmap, htr]; simp)).2.1
      exact (this (by rw [← hxe]; exact List.mem_map.2 ⟨x, hx, rfl⟩)).elim
  have hs : sA = sn := by
    have := I.tB
    rw [hB] at this
    cases this
    rfl
  subst hs
  refine ⟨I.ext, ⟨I.tsize, fun t v hv => ?_⟩, I.defers⟩
  obtain ⟨n1, n2⟩ := I.tA.names hcl
  have listedA : ∀ e ∈ A, listed.getD e.i false = true := by
    intro e he
    obtain ⟨s1, s2, e1⟩ := List.append_of_mem he
    obtain ⟨s', _, k2⟩ := Trace.split (A := s1) (B := e :: s2) (by rw [← e1]; exact I.tA)
    obtain ⟨_, _, c, _, hc, _, _⟩ := k2.head
    obtain ⟨o, ho, _⟩ := hcl _ _ hc
    exact hall _ (idx_lt ho)
  by_cases hw : ∃ x ∈ A, (ops[x.i]?).bind (fun o : Oper => o.dst) = some t
  · obtain ⟨x, hx, hxd⟩ := hw
    obtain ⟨s, r, e1⟩ := List.append_of_mem hx
    have hrd : rdn m sA.f t = some x.v := by
      refine n2 s x r e1 t hxd fun y hy hyd => ?_
      obtain ⟨p, hp, hpd⟩ : ∃ p : Oper, ops[x.i]? = some p ∧ p.dst = some t := by
        cases hpp : ops[x.i]? with
        | none => rw [hpp] at hxd; cases hxd
        | some p => rw [hpp] at hxd; exact ⟨p, rfl, hxd⟩
      obtain ⟨q, hq, hqd⟩ : ∃ p : Oper, ops[y.i]? = some p ∧ p.dst = some t := by
        cases hpp : ops[y.i]? with
        | none => rw [hpp] at hyd; cases hyd
        | some p => rw [hpp] at hyd; exact ⟨p, rfl, hyd⟩
      have hxy : x.i ≠ y.i := by
        intro h
        obtain ⟨r1, r2, rfl⟩ := List.append_of_mem hy
        have := (hor.pre (s.map (·.i) ++ x.i :: r1.map (·.i)) y.i (r2.map (·.i) ++ B.map (·.i)) (by rw [← hmap, I.tr, e1]; simp)).2.1
        exact this (by rw [← h]; simp)
      have hmem : t ∈ namesOf T ops p := by
        unfold namesOf
        rw [hpd]
        simp
      exact (hst.names x.i y.i p q t hxy hp hq hqd hmem).2 hpd
    rw [hrd] at hv
    cases hv
    exact I.new x hx (listedA x hx) t hxd
  · rw [n1 t fun x hx hd => hw ⟨x, hx, hd⟩] at hv
    obtain ⟨u, k1, k2⟩ := F0.2 t v hv
    refine ⟨u, ?_, k2.mono I.ext.le⟩
    rw [I.old t fun j hj hd => ?_]
    · exact k1
    · obtain ⟨x, hx, rfl⟩ := I.inA j hj
      exact hw ⟨x, hx, hd⟩
theorem pre_unique : ∀ {A0 A1 z1 z2 : List Ent} {e : Ent}, A0 ++ e :: A1 = z1 ++ e :: z2 → e ∉ z1 → e ∉ A0 → A0 = z1
  | [], A1, [], z2, e, _, _, _ => rfl
  | [], A1, y :: z1, z2, e, h, h1, _ => by
    simp only [List.nil_append, List.cons_append, List.cons.injEq] at h
    exact absurd (by rw [h.1]; exact List.mem_cons_self) h1
  | x :: A0, A1, [], z2, e, h, _, h2 => by
    simp only [List.nil_append, List.cons_append, List.cons.injEq] at h
    exact absurd (by rw [h.1]; exact List.mem_cons_self) h2
  | x :: A0, A1, y :: z1, z2, e, h, h1, h2 => by
    simp only [List.cons_append, List.cons.injEq] at h
    rw [h.1, pre_unique h.2 (fun k => h1 (List.mem_cons_of_mem _ k)) fun k => h2 (List.mem_cons_of_mem _ k)]
theorem draw_step (hT : TyOk P T) (hk : CallOk P T call) (hcl : ∀ (i : Nat) c, cl[i]? = some c → ∃ o, ops[i]? = some o ∧ Parts T m N ops o c) (hst : Static T ops bs) (hor : Order ops cl bs ord) (hmap : tr.map (·.i) = ord) (htr : Trace call cl (hiOf ops cl bs) 0 s0 tr sn)
    (hs0 : s0.hs = []) (hchk : Checked sn.cs (revL sn.hs [sn.h])) (hG : Glob T g0 s0.h) (F0 : FR g0 m N s0.f a0.tmps) {rd : Option Nat} {Q : Exit → Act → World → Prop}
    {listed : Array Bool} {a : Act} {w : World} {g : G} {A B : List Ent} {sA : St} (I : Inv T m N call ops cl (hiOf ops cl bs) bs s0 tr sn g0 a0 w0 listed a w g A B sA)
    {i : Nat} {o : Oper} (hlt : i < ops.size) (hl : listed.getD i false = false) (ho : ops[i]? = some o) (hbef : ∀ j, bit (bitsAt bs i) j = true → listed.getD j false = true) {K : Act → World → Prop}
    (ih : ∀ (a : Act) (w : World) (g : G) (A B : List Ent) (sA : St), Inv T m N call ops cl (hiOf ops cl bs) bs s0 tr sn g0 a0 w0 (listed.setIfInBounds i true) a w g A B sA → K a w) : wpOpIn (fen rd) 0 P ops Q i K a w := by
  obtain ⟨e, heT, rfl⟩ : ∃ e ∈ tr, e.i = i := by
    have := hor.all i hlt
    rw [← hmap, List.mem_map] at this
    exact this
  -- the entry's own step
  obtain ⟨A0, A1, hA⟩ := List.append_of_mem heT
  obtain ⟨s', t0, t1⟩ := Trace.split (A := A0) (B := e :: A1) (by rw [← hA]; exact htr)
  obtain ⟨hes, hek, c, s1, hc, st, t2⟩ := t1.head
  rw [← hes] at t0
  rw [Nat.zero_add] at hek st t2
  have hreads := I.reads hst hor hcl hmap F0 hA t0 ho hl (fun j _ _ _ _ h => hbef j h)
  obtain ⟨o', ho', hp⟩ := hcl _ _ hc
  rw [ho] at ho'
  cases ho'
  have hGg := hG.ext I.ext
  -- what an earlier writer of memory is, stands there
  have first : ∀ b ∈ A0, isEAt cl b.i = true → listed.getD b.i false = true := fun b hb hbE => hbef _ ((hor.pre (A0.map (·.i)) e.i (A1.map (·.i)) (by rw [← hmap, hA]; simp)).2.2 b.i (List.mem_map.2 ⟨b, hb, rfl⟩) hbE)
  have hguard : ∀ {b : Bool}, guardOk e.s.f c.guard = some b → Region.wanted o (yielded ops a.tmps) = b := fun hg => guard_ok hp hg fun t ht v hv => hreads t (by
    obtain ⟨gi, gw, h1, h2⟩ := ht
    unfold namesOf
    rw [h1]
    simp [h2]) v hv
  have hargs : ∀ {vs : List V} {os : List Operand}, compOp T o.op = some (c.op, os) → mapO (opd T m) os = some c.args → evs e.s.f c.args = some vs → VRs g vs (os.map a.eval) := fun h1 h2 h3 => evs_ok hGg h2 h3 fun t ht v hv => hreads t (by
    unfold namesOf
    rw [h1]
    refine List.mem_append_right _ (List.mem_append_left _ ?_)
    exact List.mem_filterMap.2 ⟨.tmp t, ht, rfl⟩) v hv
  unfold wpOpIn
  simp only [ho]
  by_cases hE : isEAt cl e.i = true
  · -- it writes memory: it is the next one
    have hEc : isE c.op = true := by rw [← isEAt_eq hc]; exact hE
    have hB : ∃ B', B = e :: B' := by
      have hnA : e ∉ A := fun h => by
        have := I.es e h hE
        rw [hl] at this
        cases this
      have heB : e ∈ B := by
        rw [I.tr] at heT
        exact (List.mem_append.1 heT).resolve_left hnA
      cases hBB : B with
      | nil => rw [hBB] at heB; cases heB
      | cons b B' =>
        rw [hBB] at heB
        rcases List.mem_cons.1 heB with h | h
        · exact ⟨B', by rw [h]⟩
        · have hb := I.bnd b B' hBB
          -- b stands before e
          obtain ⟨s1', s2', rfl⟩ := List.append_of_mem h
          have htr' : tr = (A ++ b :: s1') ++ e :: s2' := by rw [I.tr, hBB]; simp
          have hbl := hbef _ ((hor.pre ((A ++ b :: s1').map (·.i)) e.i (s2'.map (·.i)) (by rw [← hmap, htr']; simp)).2.2 b.i (List.mem_map.2 ⟨b, by simp, rfl⟩) hb)
          obtain ⟨y, hy, hyb⟩ := I.inA _ hbl
          have := (hor.pre (A.map (·.i)) b.i ((s1' ++ e :: s2').map (·.i)) (by rw [← hmap, I.tr, hBB]; simp)).2.1
          exact (this (by rw [← hyb]; exact List.mem_map.2 ⟨y, hy, rfl⟩)).elim
    obtain ⟨B', rfl⟩ := hB
    obtain ⟨hes2, hek2, c', s1', hc', st', t2'⟩ := I.tB.head
    rw [hc] at hc'
    cases hc'
    have hnm : ∀ blk, ¬ Made cl e blk := by
      intro blk hm
      obtain ⟨c', ao, vs, mk, m1, m2, _⟩ := hm
      rw [hc] at m1
      cases m1
      rw [m2] at hEc
      cases hEc
    rcases st'.main with ⟨h1, h2, h3, h4⟩ | ⟨vs, h1, h2, h3, h4, h5⟩
    · rw [hguard (by rw [hes2]; exact h1)]
      refine ⟨fun _ _ => trivial, ?_⟩
      obtain ⟨A', B'', sA', I'⟩ := I.write (u := undef) hst hor hmap hE ho hl hbef hp.dst hc hes2 st' t2' hek2 (by rw [h3]; exact .refl I.wr) (by rw [h2]; exact undef_vr) hnm
      exact ih _ _ _ _ _ _ I'
    · rw [hguard (by rw [hes2]; exact h1)]
      obtain ⟨os, k1, k2⟩ := hp.op
      refine step_op hT hk I.wr hGg k1 (hargs k1 k2 (by rw [hes2]; exact h2)) h3 fun g' w' u x1 x2 => ?_
      obtain ⟨A', B'', sA', I'⟩ := I.write hst hor hmap hE ho hl hbef hp.dst hc hes2 st' t2' hek2 x1 x2 hnm
      exact ih _ _ _ _ _ _ I'
  · -- it writes none: it stands in the stretch
    have heA : e ∈ A := by
      rw [I.tr] at heT
      rcases List.mem_append.1 heT with h | h
      · exact h
      · cases hBB : B with
        | nil => rw [hBB] at h; cases h
        | cons b B' =>
          rw [hBB] at h
          have hb := I.bnd b B' hBB
          rcases List.mem_cons.1 h with h | h
          · rw [h] at hE; exact absurd hb hE
          · obtain ⟨s1', s2', rfl⟩ := List.append_of_mem h
            have htr' : tr = (A ++ b :: s1') ++ e :: s2' := by rw [I.tr, hBB]; simp
            have hbl := hbef _ ((hor.pre ((A ++ b :: s1').map (·.i)) e.i (s2'.map (·.i)) (by rw [← hmap, htr']; simp)).2.2 b.i (List.mem_map.2 ⟨b, by simp, rfl⟩) hb)
            obtain ⟨y, hy, hyb⟩ := I.inA _ hbl
            have := (hor.pre (A.map (·.i)) b.i ((s1' ++ e :: s2').map (·.i)) (by rw [← hmap, I.tr, hBB]; simp)).2.1
            exact (this (by rw [← hyb]; exact List.mem_map.2 ⟨y, hy, rfl⟩)).elim
    rcases st.main with ⟨h1, h2, h3, h4⟩ | ⟨vs, h1, h2, h3, h4, h5⟩
    · rw [hguard (by rw [hes]; exact h1)]
      refine ⟨fun _ _ => trivial, ?_⟩
      exact ih _ _ _ _ _ _ (I.same hst hor hmap heA ho hl hbef hp.dst (.refl I.wr) (by rw [h2]; exact undef_vr))
    · rw [hguard (by rw [hes]; exact h1)]
      obtain ⟨os, k1, k2⟩ := hp.op
      have hv := hargs k1 k2 (by rw [hes]; exact h2)
      have quiet : c.op.run call vs sA.h = some (e.v, sA.h) → o.wpIn (fen rd) 0 P a w K Q := fun hrun =>
        step_op hT hk I.wr hGg k1 hv hrun fun g' w' u x1 x2 => ih _ _ _ _ _ _ (I.same hst hor hmap heA ho hl hbef hp.dst x1 x2)
      have h3' : c.op.run call vs s'.h = some (e.v, s1.h) := h3
      cases hop : c.op with
      | p po =>
        rw [hop] at h3'
        obtain ⟨x, k3, k4⟩ := ob_some.1 (show ob (po.run vs) (fun v => some (v, s'.h)) = some (e.v, s1.h) from h3')
        refine quiet ?_
        rw [hop]
        show ob (po.run vs) (fun v => some (v, sA.h)) = _
        rw [k3, (Prod.mk.inj (Option.some.inj k4)).1.symm]
        rfl
      | r ro =>
        rw [hop] at h3'
        obtain ⟨x, k3, k4⟩ := ob_some.1 (show ob (ro.run vs s'.h) (fun v => some (v, s'.h)) = some (e.v, s1.h) from h3')
        refine quiet ?_
        rw [hop]
        show ob (ro.run vs sA.h) (fun v => some (v, sA.h)) = _
        have hmem : (⟨ro, vs, e.v, nE cl A0, hiOf ops cl bs e.i⟩ : Tc) ∈ sn.cs := t2.cs _ (by rw [h4 ro hop]; exact List.mem_cons_self)
        have hrd := hchk _ hmem
        have hhs := htr.hs
        rw [hs0, List.append_nil, I.tr] at hhs
        have hat : (revL sn.hs [sn.h])[nE cl A]? = some sA.h := by
          rw [revL_eq, hhs, List.reverse_reverse, List.filter_append, List.map_append]
          have hlen : ((A.filter fun e => isEAt cl e.i).map fun e => e.s.h).length = nE cl A := by simp [nE]
          rw [List.append_assoc, List.getElem?_append_right (by rw [hlen]; exact Nat.le_refl _), hlen, Nat.sub_self]
          cases hBB : B with
          | nil =>
            have := I.tB
            rw [hBB] at this
            cases this
            rfl
          | cons b B' =>
            have hb := I.bnd b B' hBB
            have := I.tB
            rw [hBB] at this
            obtain ⟨q1, _⟩ := this.head
            rw [List.filter_cons, if_pos hb, List.map_cons, q1]
            rfl
        have hlo : nE cl A0 ≤ nE cl A := by
          obtain ⟨z1, z2, rfl⟩ := List.append_of_mem heA
          have hA0 : A0 = z1 := by
            refine pre_unique (A1 := A1) (z2 := z2 ++ B) (e := e) (by rw [← hA, I.tr]; simp) (fun h => ?_) fun h => ?_
            · have := (hor.pre (z1.map (·.i)) e.i ((z2 ++ B).map (·.i)) (by rw [← hmap, I.tr]; simp)).2.1
              exact this (List.mem_map.2 ⟨e, h, rfl⟩)
            · have := (hor.pre (A0.map (·.i)) e.i (A1.map (·.i)) (by rw [← hmap, hA]; simp)).2.1
              exact this (List.mem_map.2 ⟨e, h, rfl⟩)
          subst hA0
          simp [nE, List.filter_append]
        have := hrd (nE cl A) _ hat hlo (nE_le hor hmap hcl I hl)
        simp only at this
        rw [this]
        rfl
      | a ao =>
        rw [hop] at h3'
        obtain ⟨p, k3, k4⟩ := ob_some.1 (show ob (ao.run vs) (fun r => ob (s'.h.new r.1) fun h' => some (r.2 s'.h.next, h')) = some (e.v, s1.h) from h3')
        obtain ⟨h', k5, k6⟩ := ob_some.1 k4
        have hev : e.v = p.2 e.s.h.next := by rw [hes]; exact (Prod.mk.inj (Option.some.inj k6)).1.symm
        have hmade : Made cl e p.1 := ⟨c, ao, vs, p.2, hc, hop, by rw [hes]; exact h1, by rw [hes]; exact h2, k3, hev⟩
        rw [hop] at k1
        obtain ⟨obj, val, g', n1, I'⟩ := I.make (ρ := a.eval) (op := o.op) hst hor hmap heA ho hl hbef hp.dst hmade (A_ok hT k1 hv k3) hev
        refine ⟨fun _ _ => trivial, ?_⟩
        rw [Oper.semAt_eq _ _ _ (compOp_defer k1), n1 w o rfl, Oper.uponIn_value]
        exact ih _ _ _ _ _ _ I'
      | e eo => exact absurd (by rw [isEAt_eq hc, hop]; rfl) hE
      | call f => exact absurd (by rw [isEAt_eq hc, hop]; rfl) hE
      | callv => exact absurd (by rw [isEAt_eq hc, hop]; rfl) hE
theorem draw_steps (hT : TyOk P T) (hk : CallOk P T call) (hcl0 : mapO (compOper T m N ops) ops.toList = some cl) (hst : Static T ops bs) (hor : Order ops cl bs ord) (hmap : tr.map (·.i) = ord) (htr : Trace call cl (hiOf ops cl bs) 0 s0 tr sn)
    (hs0 : s0.hs = []) (hchk : Checked sn.cs (revL sn.hs [sn.h])) (hG : Glob T g0 s0.h) (F0 : FR g0 m N s0.f a0.tmps) {rd : Option Nat} {Q : Exit → Act → World → Prop}
    (hQ : ∀ g' a' w', Ext T g0 s0.h w0 g' sn.h w' → FR g' m N sn.f a'.tmps → a'.defers = a0.defers → Q .normal a' w') : ∀ (fuel : Nat) (listed : Array Bool) (a : Act) (w : World) (g : G) (A B : List Ent) (sA : St),
    Inv T m N call ops cl (hiOf ops cl bs) bs s0 tr sn g0 a0 w0 listed a w g A B sA → left ops listed ≤ fuel → wpAnyIn (fen rd) 0 P .any ops Q fuel listed a w := by
  have hcl : ∀ (i : Nat) c, cl[i]? = some c → ∃ o, ops[i]? = some o ∧ Parts T m N ops o c := by
    intro i c hc
    obtain ⟨hlen, hall⟩ := mapO_some hcl0
    have hi : i < ops.toList.length := by
      rw [← hlen]
      rcases Nat.lt_or_ge i cl.length with k | k
      · exact k
      · rw [List.getElem?_eq_none k] at hc; cases hc
    obtain ⟨b, h1, h2⟩ := hall i _ (List.getElem?_eq_getElem hi)
    rw [hc] at h1
    cases h1
    exact ⟨_, by rw [← Array.getElem?_toList]; exact List.getElem?_eq_getElem hi, compOper_parts h2⟩
  intro fuel
  induction fuel with
  | zero =>
    intro listed a w g A B sA I hf
    have hall := left_zero (Nat.le_zero.1 hf)
    refine ⟨?_, ?_⟩
    · unfold Region.ready
      rw [List.filter_eq_nil_iff]
      intro i hi
      rw [List.mem_range] at hi
      have := hall i hi
      rw [Array.getD_eq_getD_getElem?, Array.getElem?_eq_getElem (by rw [I.size]; exact hi)] at this
      rw [Array.getD_eq_getD_getElem?, Array.getElem?_eq_getElem (by rw [I.size]; exact hi)]
      simp only [Option.getD_some] at this ⊢
      rw [this]
      simp
    · obtain ⟨x1, x2, x3⟩ := I.done hor hmap hcl hst F0 hall
      exact hQ _ _ _ x1 x2 x3
  | succ fuel ih =>
    intro listed a w g A B sA I hf
    refine ⟨fun hn => ?_, fun i hi => ?_⟩
    · obtain ⟨x1, x2, x3⟩ := I.done hor hmap hcl hst F0 (ready_nil hst I.size hn)
      exact hQ _ _ _ x1 x2 x3
    · obtain ⟨hlt, hl, o, ho, hedge⟩ := ready_mem I.size hi
      have hbef : ∀ j, bit (bitsAt bs i) j = true → listed.getD j false = true := by
        intro j hj
        obtain ⟨e, he, hb, h⟩ := hst.before i o ho j hj
        rcases h with rfl | h
        · exact hedge e he hb
        · exact I.closed _ (hedge e he hb) _ h
      have hleft : left ops (listed.setIfInBounds i true) ≤ fuel := by
        have := left_set I.size hlt hl
        omega
      exact draw_step hT hk hcl hst hor hmap htr hs0 hchk hG F0 I hlt hl ho hbef fun a w g A B sA I' => ih _ _ _ _ _ _ _ I' hleft
/-- A region that draws its order. -/
theorem draw_ok (hT : TyOk P T) (hk : CallOk P T call) (hm : P.follows .mixedOrders = true) {id : Nat} {l : List COper} (hcl : mapO (compOper T m N ops) ops.toList = some cl) (hd : compD T cl ops = some l) {f0 : F} {h0 : H} {s : St} (hr : runOpsD call l ⟨f0, h0, [], []⟩ = some s) (hchk : (Bool.rec (motive := fun _ => Bool) (checkAll s.cs (revL s.hs [s.h])) true (quiet l) : Bool) = true)
    {g : G} {a : Act} {w : World} (r : WR T g h0 w) (hG : Glob T g h0) (F0 : FR g m N f0 a.tmps) {rd : Option Nat} {Q : Exit → Act → World → Prop}
    (hQ : ∀ g' a' w', Ext T g h0 w g' s.h w' → FR g' m N s.f a'.tmps → a'.defers = a.defers → Q .normal a' w') : (Code.region id ops true).wpIn (fen rd) 0 P Q a w := by
  obtain ⟨bs, ord, hst, hor, hlh⟩ := compD_ok hd
  obtain ⟨tr, htr, hmap⟩ := trace_of hlh hr
  refine wpIn_region_any hm ?_
  have r1 : WR T g h0 { w with drawn := w.drawn + 1 } := r.drew1
  obtain ⟨S, B', s', q1, q2, q3, q4, q5, q6, q7, q8, q9, q10⟩ := seg_ok htr (g := g) (w := { w with drawn := w.drawn + 1 }) r1
  have hx0 : Ext T g h0 w g h0 { w with drawn := w.drawn + 1 } := ⟨g.le_refl, Nat.le_refl _, r1, fun _ _ e => ⟨e, rfl⟩, Nat.le_refl _, fun _ _ _ => rfl, (fun id b o z h1 h2 => by rw [h2] at h1; cases h1), fun _ _ _ _ _ _ _ e => ⟨e, rfl⟩, rfl, rfl, rfl⟩
  have getD0 : ∀ i, (Array.replicate ops.size false).getD i false = false := by
    intro i
    rw [Array.getD_eq_getD_getElem?, Array.getElem?_replicate]
    split <;> rfl
  have hnE : nE cl S = 0 := by
    unfold nE
    rw [List.length_eq_zero_iff, List.filter_eq_nil_iff]
    intro y hy
    rw [q5 y hy]
    decide
  have I : Inv T m N call ops cl (hiOf ops cl bs) bs ⟨f0, h0, [], []⟩ tr s g a w (Array.replicate ops.size false) a { w with drawn := w.drawn + 1 } g S B' s' :=
    ⟨q1, q2, by rw [hnE]; exact q3, q4, q6, hx0.mem q6 q7 q8, by simp, (fun i hi => by rw [getD0] at hi; cases hi), (fun e he hE => by rw [q5 e he] at hE; cases hE), (fun i hi => by rw [getD0] at hi; cases hi), F0.1, fun _ _ => rfl, (fun e _ hl => by rw [getD0] at hl; cases hl),
      (fun e he blk hm _ => by
        obtain ⟨z1, z2, z3⟩ := q9 e he blk hm
        refine ⟨?_, z3, z1⟩
        cases hg : g e.s.h.next with
        | none => rfl
        | some p => exact absurd (r.dom _ _ hg) (by have z1 : h0.next ≤ e.s.h.next := z1; omega)), (fun e he blk hm => (q9 e he blk hm).2.1), q10, rfl⟩
  refine draw_steps hT hk hcl hst hor hmap htr rfl (checked_ok hr hchk) hG F0 hQ ops.size _ a _ g S B' s' I ?_
  unfold left
  refine Nat.le_trans (List.length_filter_le _ _) ?_
  simp
end
end Ev
end Go.Proofs.YtihflniehaaakaaGreatDoor
