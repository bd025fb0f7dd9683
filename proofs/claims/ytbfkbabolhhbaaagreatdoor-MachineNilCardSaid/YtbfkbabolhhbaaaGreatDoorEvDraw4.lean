/-
  A region that draws its order: the invariant, and the law.
-/
import Derived.Test.YtbfkbabolhhbaaaGreatDoorEvDraw3
namespace Go.Proofs.YtbfkbabolhhbaaaGreatDoor
namespace Ev
variable [Opq]
set_option linter.unusedSectionVars false
section
variable {P : Program} {T : Ty} {m N : Nat}

/-- Where the run stands: so much of the chosen order's memory has come about; what has been carried out holds its value. -/
structure Inv (T : Ty) (m N : Nat) (call : CallT) (ops : Array Oper) (cl : List COper) (hi : Nat → Nat) (bs : List Nat) (s0 : St) (tr : List Ent) (sn : St) (g0 : G) (a0 : Act) (w0 : World)
    (listed : Array Bool) (a : Act) (w : World) (g : G) (A B : List Ent) (sA : St) : Prop where
  tr : tr = A ++ B
  tA : Trace call cl hi 0 s0 A sA
  tB : Trace call cl hi (nE cl A) sA B sn
  bnd : ∀ e B', B = e :: B' → isEAt cl e.i = true
  wr : WR T g sA.h w
  ext : Ext T g0 s0.h w0 g sA.h w
  size : listed.size = ops.size
  inA : ∀ i, listed.getD i false = true → ∃ e ∈ A, e.i = i
  es : ∀ e ∈ A, isEAt cl e.i = true → listed.getD e.i false = true
  closed : ∀ i, listed.getD i false = true → ∀ j, bit (bitsAt bs i) j = true → listed.getD j false = true
  tsize : a.tmps.size = N
  old : ∀ t, (∀ i, listed.getD i false = true → (ops[i]?).bind (·.dst) ≠ some t) → a.tmps[t]? = a0.tmps[t]?
  new : ∀ e ∈ A, listed.getD e.i false = true → ∀ t, (ops[e.i]?).bind (·.dst) = some t → ∃ u, a.tmps[t]? = some u ∧ VR g e.v u
  made : ∀ e ∈ A, ∀ blk, Made cl e blk → listed.getD e.i false = false → g e.s.h.next = none ∧ sA.h.blk e.s.h.next = some blk ∧ s0.h.next ≤ e.s.h.next
  ids : ∀ e ∈ A, ∀ blk, Made cl e blk → e.s.h.next < sA.h.next
  dist : ∀ e ∈ A, ∀ e' ∈ A, ∀ b b', Made cl e b → Made cl e' b' → e.s.h.next = e'.s.h.next → e = e'
  defers : a.defers = a0.defers

theorem getD_set (l : Array Bool) (i j : Nat) (h : i < l.size) : (l.setIfInBounds i true).getD j false = if j = i then true else l.getD j false := by
  rw [Array.getD_eq_getD_getElem?, Array.getD_eq_getD_getElem?, Array.getElem?_setIfInBounds]
  by_cases e : i = j
  · subst e
    simp [h]
  · rw [if_neg e, if_neg (fun h => e h.symm)]
/-- What is ready. -/
theorem ready_mem {ops : Array Oper} {listed : Array Bool} {i : Nat} (hs : listed.size = ops.size) (h : i ∈ Region.ready .any ops listed) : i < ops.size ∧ listed.getD i false = false ∧ ∃ o, ops[i]? = some o ∧ ∀ e ∈ o.after.toList, bindsE e = true → listed.getD e.on false = true := by
  unfold Region.ready at h
  rw [List.mem_filter, List.mem_range] at h
  obtain ⟨h1, h2⟩ := h
  rw [Bool.and_eq_true] at h2
  have ho : ops[i]? = some ops[i] := Array.getElem?_eq_getElem h1
  refine ⟨h1, ?_, ops[i], ho, fun e he hb => ?_⟩
  · have := h2.1
    rw [Array.getD_eq_getD_getElem?, Array.getElem?_eq_getElem (by omega)] at this ⊢
    simpa using this
  · have := h2.2
    rw [ho] at this
    simp only [Option.map_some, Option.getD_some, Array.all_eq_true_iff_forall_mem] at this
    have k := this e (by simpa using he)
    rw [binds_eq, hb] at k
    simpa using k
theorem ready_nil {ops : Array Oper} {bs : List Nat} {listed : Array Bool} (hst : Static T ops bs) (hs : listed.size = ops.size) (h : Region.ready .any ops listed = []) : ∀ i, i < ops.size → listed.getD i false = true := by
  intro i
  induction i using Nat.strongRecOn with
  | _ i ih =>
    intro hi
    cases hl : listed.getD i false with
    | true => rfl
    | false =>
      have ho : ops[i]? = some ops[i] := Array.getElem?_eq_getElem hi
      have : i ∈ Region.ready .any ops listed := by
        unfold Region.ready
        rw [List.mem_filter, List.mem_range]
        refine ⟨hi, ?_⟩
        rw [Bool.and_eq_true]
        refine ⟨?_, ?_⟩
        · rw [Array.getD_eq_getD_getElem?, Array.getElem?_eq_getElem (by omega)] at hl ⊢
          simpa using hl
        · rw [ho]
          simp only [Option.map_some, Option.getD_some, Array.all_eq_true_iff_forall_mem]
          intro e he
          rw [binds_eq]
          cases hb : bindsE e with
          | false => rfl
          | true =>
            have hlt := hst.back i _ ho e (by simpa using he) hb
            simpa using ih e.on hlt (by omega)
      rw [h] at this
      cases this
/-- How many are left. -/
def left (ops : Array Oper) (listed : Array Bool) : Nat := ((List.range ops.size).filter fun i => !listed.getD i false).length
theorem left_set {ops : Array Oper} {listed : Array Bool} {i : Nat} (hs : listed.size = ops.size) (hi : i < ops.size) (hl : listed.getD i false = false) : left ops (listed.setIfInBounds i true) + 1 ≤ left ops listed := by
  unfold left
  have h1 : (((List.range ops.size).filter fun j => !(listed.setIfInBounds i true).getD j false).length + 1) = (i :: ((List.range ops.size).filter fun j => !(listed.setIfInBounds i true).getD j false)).length := rfl
  rw [h1]
  refine sub_len ?_ fun x hx => ?_
  · rw [List.nodup_cons]
    refine ⟨fun h => ?_, List.nodup_range.filter _⟩
    rw [List.mem_filter, getD_set _ _ _ (by omega)] at h
    simp at h
  · rw [List.mem_filter, List.mem_range]
    cases hx with
    | head => exact ⟨hi, by simp [hl]⟩
    | tail _ hx =>
      have hx : x ∈ (List.range ops.size).filter fun j => !(listed.setIfInBounds i true).getD j false := hx
      rw [List.mem_filter, List.mem_range, getD_set _ _ _ (by omega)] at hx
      obtain ⟨h2, h3⟩ := hx
      refine ⟨h2, ?_⟩
      split at h3
      · cases h3
      · exact h3
theorem left_zero {ops : Array Oper} {listed : Array Bool} (h : left ops listed = 0) : ∀ i, i < ops.size → listed.getD i false = true := by
  intro i hi
  have h := List.eq_nil_of_length_eq_zero h
  cases hl : listed.getD i false with
  | true => rfl
  | false =>
    have : i ∈ (List.range ops.size).filter fun i => !listed.getD i false := by
      rw [List.mem_filter, List.mem_range]
      exact ⟨hi, by rw [hl]; rfl⟩
    rw [h] at this
    cases this
section
variable {call : CallT} {ops : Array Oper} {cl : List COper} {hi : Nat → Nat} {bs ord : List Nat} {s0 sn : St} {tr : List Ent} {g0 : G} {a0 : Act} {w0 : World} {listed : Array Bool} {a : Act} {w : World} {g : G} {A B : List Ent} {sA : St}

/-- The names behind an operation: each holds what it should. -/
theorem Inv.tmps (hst : Static T ops bs) (I : Inv T m N call ops cl hi bs s0 tr sn g0 a0 w0 listed a w g A B sA) {i : Nat} {o : Oper} (ho : ops[i]? = some o) {d : Dst} (hd : dst m N o.dst = some d) {u : Value} {g' : G} (hg : g.le g') :
    (∀ t, (∀ j, (listed.setIfInBounds i true).getD j false = true → (ops[j]?).bind (·.dst) ≠ some t) → (a.put o.dst u).tmps[t]? = a0.tmps[t]?) ∧
    (∀ e ∈ A, (listed.setIfInBounds i true).getD e.i false = true → e.i ≠ i → ∀ t, (ops[e.i]?).bind (·.dst) = some t → ∃ x, (a.put o.dst u).tmps[t]? = some x ∧ VR g' e.v x) ∧
    (∀ t, o.dst = some t → (a.put o.dst u).tmps[t]? = some u) := by
  have hi : i < listed.size := by
    rw [I.size]
    rcases Nat.lt_or_ge i ops.size with k | k
    · exact k
    · rw [Array.getElem?_eq_none k] at ho; cases ho
  refine ⟨fun t ht => ?_, fun e he hle hne t hdt => ?_, fun t hdt => ?_⟩
  · rw [put_tmps, if_neg]
    · refine I.old t fun j hj => ht j ?_
      rw [getD_set _ _ _ hi]
      split
      · rfl
      · exact hj
    · intro hx
      have := ht i (by rw [getD_set _ _ _ hi, if_pos rfl])
      rw [ho] at this
      exact this hx.1
  · rw [getD_set _ _ _ hi, if_neg hne] at hle
    obtain ⟨x, k1, k2⟩ := I.new e he hle t hdt
    refine ⟨x, ?_, k2.mono hg⟩
    rw [put_tmps, if_neg]
    · exact k1
    · intro hx
      obtain ⟨p, hp, hpd⟩ : ∃ p, ops[e.i]? = some p ∧ p.dst = some t := by
        cases hpp : ops[e.i]? with
        | none => rw [hpp] at hdt; cases hdt
        | some p => rw [hpp] at hdt; exact ⟨p, rfl, hdt⟩
      have hmem : t ∈ namesOf T ops o := by
        unfold namesOf
        rw [hx.1]
        simp
      exact (hst.names i e.i o p t (fun h => hne h.symm) ho hp hpd hmem).2 hx.1
  · rw [put_tmps, if_pos]
    refine ⟨hdt, ?_⟩
    rw [I.tsize]
    rw [hdt] at hd
    exact dst_lt hd
/-- One entry for each operation. -/
theorem ent_unique (hor : Order ops cl bs ord) (hmap : tr.map (·.i) = ord) {x y : Ent} (hx : x ∈ tr) (hy : y ∈ tr) (h : x.i = y.i) : x = y := by
  obtain ⟨s1, s2, e1⟩ := List.append_of_mem hx
  rw [e1] at hy
  have ho : ord = s1.map (·.i) ++ x.i :: s2.map (·.i) := by rw [← hmap, e1]; simp
  rcases List.mem_append.1 hy with k | k
  · have := (hor.pre _ _ _ ho).2.1
    rw [List.mem_map] at this
    exact (this ⟨y, k, h.symm⟩).elim
  · rcases List.mem_cons.1 k with k | k
    · exact k.symm
    · obtain ⟨z1, z2, rfl⟩ := List.append_of_mem k
      have := (hor.pre (s1.map (·.i) ++ x.i :: z1.map (·.i)) y.i (z2.map (·.i)) (by rw [ho]; simp)).2.1
      exact (this (by rw [h]; simp)).elim
/-- What an operation reads is the same in whatever order. -/
theorem Inv.reads (hst : Static T ops bs) (hor : Order ops cl bs ord) (hcl : ∀ (i : Nat) c, cl[i]? = some c → ∃ o, ops[i]? = some o ∧ Parts T m N ops o c) (hmap : tr.map (·.i) = ord) (F0 : FR g0 m N s0.f a0.tmps)
    (I : Inv T m N call ops cl hi bs s0 tr sn g0 a0 w0 listed a w g A B sA) {e : Ent} {A0 A1 : List Ent} (hA : tr = A0 ++ e :: A1) (t0 : Trace call cl hi 0 s0 A0 e.s) {o : Oper} (ho : ops[e.i]? = some o)
    (hl : listed.getD e.i false = false) (hbef : ∀ j, bit (bitsAt bs e.i) j = true → listed.getD j false = true) :
    ∀ t ∈ namesOf T ops o, ∀ v, rdn m e.s.f t = some v → ∃ u, a.tmps[t]? = some u ∧ VR g v u := by
  intro t ht v hv
  have hord : ord = (A0.map (·.i)) ++ e.i :: (A1.map (·.i)) := by rw [← hmap, hA]; simp
  obtain ⟨p1, p2, p3⟩ := hor.pre _ _ _ hord
  obtain ⟨n1, n2⟩ := t0.names hcl
  have dstOf : ∀ j : Nat, (ops[j]?).bind (fun x : Oper => x.dst) = some t → ∃ p : Oper, ops[j]? = some p ∧ p.dst = some t := by
    intro j hj
    cases hpp : ops[j]? with
    | none => rw [hpp] at hj; cases hj
    | some p => rw [hpp] at hj; exact ⟨p, rfl, hj⟩
  -- who stands behind the operation cannot stand before it
  have notBehind : ∀ x ∈ A0, bit (bitsAt bs x.i) e.i = true → False := by
    intro x hx hb
    obtain ⟨s, r, rfl⟩ := List.append_of_mem hx
    have := (hor.pre (s.map (·.i)) x.i (r.map (·.i) ++ e.i :: A1.map (·.i)) (by rw [hord]; simp)).1 e.i hb
    exact p2 (by rw [List.map_append, List.mem_append]; exact .inl this)
  by_cases hw : ∃ x ∈ A0, (ops[x.i]?).bind (·.dst) = some t
  · obtain ⟨x, hx, hxd⟩ := hw
    obtain ⟨p, hp, hpd⟩ := dstOf x.i hxd
    obtain ⟨s, r, rfl⟩ := List.append_of_mem hx
    have hne : e.i ≠ x.i := fun h => p2 (by rw [h, List.map_append, List.map_cons]; simp)
    have hrd : rdn m e.s.f t = some x.v := by
      refine n2 s x r rfl t hxd fun y hy hyd => ?_
      obtain ⟨q, hq, hqd⟩ := dstOf y.i hyd
      have hxy : x.i ≠ y.i := by
        intro h
        obtain ⟨r1, r2, rfl⟩ := List.append_of_mem hy
        have := (hor.pre (s.map (·.i) ++ x.i :: r1.map (·.i)) y.i (r2.map (·.i) ++ e.i :: A1.map (·.i)) (by rw [hord]; simp)).2.1
        exact this (by rw [← h]; simp)
      have hmem : t ∈ namesOf T ops p := by
        unfold namesOf
        rw [hpd]
        simp
      exact (hst.names x.i y.i p q t hxy hp hq hqd hmem).2 hpd
    rw [hrd] at hv
    cases hv
    have hb : bit (bitsAt bs e.i) x.i = true := by
      rcases (hst.names e.i x.i o p t hne ho hp hpd ht).1 with q | q
      · exact q
      · exact (notBehind x hx q).elim
    have hlx := hbef _ hb
    obtain ⟨y, hy, hyx⟩ := I.inA _ hlx
    have hyx' : y = x := ent_unique hor hmap (by rw [I.tr]; exact List.mem_append_left _ hy) (by rw [hA]; exact List.mem_append_left _ (by simp)) hyx
    rw [hyx'] at hy
    exact I.new x hy hlx t hxd
  · have hrd : rdn m e.s.f t = rdn m s0.f t := n1 t fun x hx hd => hw ⟨x, hx, hd⟩
    rw [hrd] at hv
    obtain ⟨u, k1, k2⟩ := F0.2 t v hv
    refine ⟨u, ?_, k2.mono I.ext.le⟩
    rw [I.old t fun j hj hd => ?_]
    · exact k1
    · obtain ⟨p, hp, hpd⟩ := dstOf j hd
      have hne : e.i ≠ j := by
        intro h
        rw [← h, hl] at hj
        cases hj
      rcases (hst.names e.i j o p t hne ho hp hpd ht).1 with q | q
      · have := p1 j q
        rw [List.mem_map] at this
        obtain ⟨x, hx, rfl⟩ := this
        exact hw ⟨x, hx, hd⟩
      · have := I.closed j hj e.i q
        rw [hl] at this
        cases this
end
end
end Ev
end Go.Proofs.YtbfkbabolhhbaaaGreatDoor
