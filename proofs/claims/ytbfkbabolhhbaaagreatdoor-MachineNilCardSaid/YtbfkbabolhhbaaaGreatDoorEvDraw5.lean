/-
  A region that draws its order: the law.
-/
import Derived.Test.YtbfkbabolhhbaaaGreatDoorEvDraw4
namespace Go.Proofs.YtbfkbabolhhbaaaGreatDoor
namespace Ev
variable [Opq]
set_option linter.unusedSectionVars false
section
variable {P : Program} {T : Ty} {m N : Nat}
variable {call : CallT} {ops : Array Oper} {cl : List COper} {hi : Nat → Nat} {bs ord : List Nat} {s0 sn : St} {tr : List Ent} {g0 : G} {a0 : Act} {w0 : World} {listed : Array Bool} {a : Act} {w : World} {g : G} {A B : List Ent} {sA : St}

theorem idx_lt {o : Oper} {i : Nat} (h : ops[i]? = some o) : i < ops.size := by
  rcases Nat.lt_or_ge i ops.size with k | k
  · exact k
  · rw [Array.getElem?_eq_none k] at h; cases h
/-- Closed under what comes before, with one more. -/
theorem closed_set {o : Oper} {i : Nat} (hs : listed.size = ops.size) (ho : ops[i]? = some o) (hc : ∀ i, listed.getD i false = true → ∀ j, bit (bitsAt bs i) j = true → listed.getD j false = true)
    (hbef : ∀ j, bit (bitsAt bs i) j = true → listed.getD j false = true) : ∀ k, (listed.setIfInBounds i true).getD k false = true → ∀ j, bit (bitsAt bs k) j = true → (listed.setIfInBounds i true).getD j false = true := by
  intro k hk j hj
  have hi := idx_lt ho
  rw [getD_set _ _ _ (by omega)] at hk ⊢
  split
  · rfl
  · split at hk
    · rename_i h
      subst h
      exact hbef j hj
    · exact hc k hk j hj
/-- An operation that writes no memory has been carried out. -/
theorem Inv.same (hst : Static T ops bs) (hor : Order ops cl bs ord) (hmap : tr.map (·.i) = ord) (I : Inv T m N call ops cl hi bs s0 tr sn g0 a0 w0 listed a w g A B sA) {e : Ent} (he : e ∈ A) {o : Oper} (ho : ops[e.i]? = some o) (hl : listed.getD e.i false = false)
    (hbef : ∀ j, bit (bitsAt bs e.i) j = true → listed.getD j false = true) {d : Dst} (hd : dst m N o.dst = some d) {u : Value} {g' : G} {w' : World} (x : Ext T g sA.h w g' sA.h w') (hv : VR g' e.v u) :
    Inv T m N call ops cl hi bs s0 tr sn g0 a0 w0 (listed.setIfInBounds e.i true) (a.put o.dst u) w' g' A B sA := by
  have hlt := idx_lt ho
  obtain ⟨t1, t2, t3⟩ := I.tmps (u := u) hst ho hd x.le
  refine ⟨I.tr, I.tA, I.tB, I.bnd, x.wr, I.ext.trans x, by simp [I.size], fun i hi => ?_, fun y hy hE => ?_, closed_set I.size ho I.closed hbef, by rw [put_size]; exact I.tsize, t1, fun y hy hly t hdt => ?_, fun y hy blk hm hly => ?_, I.ids, I.dist, (put_defers _ _ _).trans I.defers⟩
  · rw [getD_set _ _ _ (by rw [I.size]; exact hlt)] at hi
    split at hi
    · rename_i h; exact ⟨e, he, h.symm⟩
    · exact I.inA i hi
  · rw [getD_set _ _ _ (by rw [I.size]; exact hlt)]
    split
    · rfl
    · exact I.es y hy hE
  · by_cases hye : y.i = e.i
    · have hyx : y = e := ent_unique hor hmap (by rw [I.tr]; exact List.mem_append_left _ hy) (by rw [I.tr]; exact List.mem_append_left _ he) hye
      subst hyx
      rw [ho] at hdt
      exact ⟨u, t3 t hdt, hv⟩
    · exact t2 y hy hly hye t hdt
  · rw [getD_set _ _ _ (by rw [I.size]; exact hlt)] at hly
    split at hly
    · cases hly
    · obtain ⟨k1, k2, k3⟩ := I.made y hy blk hm hly
      obtain ⟨k4, k5⟩ := x.un _ (I.ids y hy blk hm) k1
      exact ⟨k4, k2, k3⟩
theorem Ext.place {h0 h : H} (x : Ext T g0 h0 w0 g h w) {id z : Nat} {o : Obj} (hid : h0.next ≤ id) (hn : g id = none) (r : WR T (gput g id (w.heap.size, 0, z)) h (w.alloc o)) : Ext T g0 h0 w0 (gput g id (w.heap.size, 0, z)) h (w.alloc o) := by
  refine ⟨G.le_trans x.le (gput_le _ hn), x.next, r, fun i hi e => ?_, ?_, fun b hb hu => ?_, fun i b o' z' e1 e2 => ?_, fun i b o' z' n cs e1 e2 => ?_, x.os, x.tape, x.output⟩
  · obtain ⟨k1, k2⟩ := x.un i hi e
    exact ⟨by rw [gput_ne _ (by omega)]; exact k1, k2⟩
  · rw [World.size_alloc]; have := x.size; omega
  · rw [heap_alloc (by have := x.size; omega)]
    exact x.keep b hb hu
  · by_cases hi : i = id
    · subst hi
      rw [gput_same] at e1
      cases e1
      exact .inl x.size
    · rw [gput_ne _ hi] at e1
      exact x.fresh i b o' z' e1 e2
  · obtain ⟨k1, k2⟩ := x.ro i b o' z' n cs e1 e2
    exact ⟨k1, by rw [heap_alloc (x.wr.lt _ _ _ _ (x.le _ _ e1))]; exact k2⟩
/-- A block has been made. -/
theorem Inv.make (hst : Static T ops bs) (hor : Order ops cl bs ord) (hmap : tr.map (·.i) = ord) (I : Inv T m N call ops cl hi bs s0 tr sn g0 a0 w0 listed a w g A B sA) {e : Ent} (he : e ∈ A) {o : Oper} (ho : ops[e.i]? = some o) (hl : listed.getD e.i false = false)
    (hbef : ∀ j, bit (bitsAt bs e.i) j = true → listed.getD j false = true) {d : Dst} (hd : dst m N o.dst = some d) {blk : Blk} (hm : Made cl e blk) {mk : Nat → V} {ρ : Operand → Value} {op : Op} (hmk : Makes P T g ρ op blk mk) (hv : e.v = mk e.s.h.next) :
    ∃ (obj : Obj) (val : Nat → Value) (g' : G), (∀ (w : World) (o : Oper), o.op = op → (execOp ρ o).run P w = .ok (.value (val w.heap.size)) (w.alloc obj)) ∧
      Inv T m N call ops cl hi bs s0 tr sn g0 a0 w0 (listed.setIfInBounds e.i true) (a.put o.dst (val w.heap.size)) (w.alloc obj) g' A B sA := by
  have hlt := idx_lt ho
  obtain ⟨obj, z, val, m1, m2, m3⟩ := hmk.make
  obtain ⟨k1, k2, k3⟩ := I.made e he blk hm hl
  have kid := I.ids e he blk hm
  have hle := gput_le (g := g) (w.heap.size, 0, z) k1
  have r' := I.wr.place (z := z) (o := obj) kid k1 k2 hmk.kin (m3 _ _ _ _ hle (gput_same _ _ _) (heap_alloc_new w obj))
  obtain ⟨t1, t2, t3⟩ := I.tmps (u := val w.heap.size) hst ho hd hle
  refine ⟨obj, val, _, m1, I.tr, I.tA, I.tB, I.bnd, r', I.ext.place k3 k1 r', by simp [I.size], fun i hi => ?_, fun y hy hE => ?_, closed_set I.size ho I.closed hbef, by rw [put_size]; exact I.tsize, t1, fun y hy hly t hdt => ?_, fun y hy blk' hm' hly => ?_, I.ids, I.dist, (put_defers _ _ _).trans I.defers⟩
  · rw [getD_set _ _ _ (by rw [I.size]; exact hlt)] at hi
    split at hi
    · rename_i h; exact ⟨e, he, h.symm⟩
    · exact I.inA i hi
  · rw [getD_set _ _ _ (by rw [I.size]; exact hlt)]
    split
    · rfl
    · exact I.es y hy hE
  · by_cases hye : y.i = e.i
    · have hyx : y = e := ent_unique hor hmap (by rw [I.tr]; exact List.mem_append_left _ hy) (by rw [I.tr]; exact List.mem_append_left _ he) hye
      subst hyx
      rw [ho] at hdt
      exact ⟨_, t3 t hdt, by rw [hv]; exact m2 _ _ _ hle (gput_same _ _ _)⟩
    · exact t2 y hy hly hye t hdt
  · rw [getD_set _ _ _ (by rw [I.size]; exact hlt)] at hly
    split at hly
    · cases hly
    · rename_i hne
      obtain ⟨q1, q2, q3⟩ := I.made y hy blk' hm' hly
      refine ⟨?_, q2, q3⟩
      rw [gput_ne]
      · exact q1
      · intro h
        exact hne (by rw [I.dist y hy e he blk' blk hm' hm h])
/-- An operation that writes memory has been carried out: the memory of the next stretch. -/
theorem Inv.write (hst : Static T ops bs) (hor : Order ops cl bs ord) (hmap : tr.map (·.i) = ord) {e : Ent} {B' : List Ent} (I : Inv T m N call ops cl hi bs s0 tr sn g0 a0 w0 listed a w g A (e :: B') sA) (hE : isEAt cl e.i = true) {o : Oper} (ho : ops[e.i]? = some o) (hl : listed.getD e.i false = false)
    (hbef : ∀ j, bit (bitsAt bs e.i) j = true → listed.getD j false = true) {d : Dst} (hd : dst m N o.dst = some d) {c : COper} {s1 : St} (hc : cl[e.i]? = some c) (hs : e.s = sA) (hst1 : Step call { c with lo := nE cl A, hi := hi e.i } sA e.v s1)
    (ht : Trace call cl hi (if isE c.op = true then nE cl A + 1 else nE cl A) s1 B' sn) (hek : e.k = nE cl A) {u : Value} {g' : G} {w' : World} (x : Ext T g sA.h w g' s1.h w') (hv : VR g' e.v u) (hnm : ∀ blk, ¬ Made cl e blk) :
    ∃ A' B'' sA', Inv T m N call ops cl hi bs s0 tr sn g0 a0 w0 (listed.setIfInBounds e.i true) (a.put o.dst u) w' g' A' B'' sA' := by
  have hlt := idx_lt ho
  obtain ⟨t1, t2, t3⟩ := I.tmps (u := u) hst ho hd x.le
  obtain ⟨S, B'', s', q1, q2, q3, q4, q5, q6, q7, q8, q9, q10⟩ := seg_ok ht x.wr
  have hEc : isE c.op = true := by rw [← isEAt_eq hc]; exact hE
  have hnE : nE cl (A ++ e :: S) = nE cl A + 1 := by
    unfold nE
    rw [List.filter_append, List.filter_cons, if_pos hE]
    have : S.filter (fun e => isEAt cl e.i) = [] := by
      rw [List.filter_eq_nil_iff]
      intro y hy
      rw [q5 y hy]
      decide
    rw [this]
    simp
  have he : e = ⟨e.i, nE cl A, e.v, sA⟩ := by
    obtain ⟨i, k, v, s⟩ := e
    simp only at hs hek
    rw [hs, hek]
  have htr : tr = (A ++ e :: S) ++ B'' := by rw [I.tr, q1]; simp
  have hA1 : Trace call cl hi 0 s0 (A ++ e :: S) s' := by
    refine Trace.append I.tA ?_
    rw [he]
    rw [Nat.zero_add]
    exact .cons hc hst1 q2
  have hnew : ∀ y ∈ A ++ e :: S, y ∈ A ∨ y = e ∨ y ∈ S := by
    intro y hy
    rcases List.mem_append.1 hy with h | h
    · exact .inl h
    · rcases List.mem_cons.1 h with h | h
      · exact .inr (.inl h)
      · exact .inr (.inr h)
  have hord : ord = A.map (·.i) ++ e.i :: (S ++ B'').map (·.i) := by rw [← hmap, I.tr, q1]; simp
  -- what is behind has not been carried out
  have behind : ∀ y ∈ S, (listed.setIfInBounds e.i true).getD y.i false = false := by
    intro y hy
    have hyT : y ∈ tr := by rw [htr]; simp [hy]
    have heT : e ∈ tr := by rw [htr]; simp
    rw [getD_set _ _ _ (by rw [I.size]; exact hlt), if_neg]
    · cases hly : listed.getD y.i false with
      | false => rfl
      | true =>
        obtain ⟨z, hz, hzy⟩ := I.inA _ hly
        have hzy' : z = y := ent_unique hor hmap (by rw [htr]; simp [hz]) hyT hzy
        subst hzy'
        obtain ⟨s1', s2', rfl⟩ := List.append_of_mem hy
        have := (hor.pre (A.map (·.i) ++ e.i :: s1'.map (·.i)) z.i (s2'.map (·.i) ++ B''.map (·.i)) (by rw [hord]; simp)).2.1
        exact (this (List.mem_append_left _ (List.mem_map.2 ⟨z, hz, rfl⟩))).elim
    · intro h
      have := ent_unique hor hmap hyT heT h
      subst this
      rw [q5 y hy] at hE
      cases hE
  have hmono : sA.h.next ≤ s'.h.next := Nat.le_trans x.next q7
  refine ⟨A ++ e :: S, B'', s', htr, hA1, by rw [hnE]; rw [if_pos hEc] at q3; exact q3, q4, q6, (I.ext.trans x).mem q6 q7 q8, by simp [I.size], fun i hi => ?_, fun y hy hEy => ?_, closed_set I.size ho I.closed hbef, by rw [put_size]; exact I.tsize, t1, fun y hy hly t hdt => ?_, fun y hy blk hm hly => ?_, fun y hy blk hm => ?_, fun y hy z hz b b' hm hm' hyz => ?_, (put_defers _ _ _).trans I.defers⟩
  · rw [getD_set _ _ _ (by rw [I.size]; exact hlt)] at hi
    split at hi
    · rename_i h; exact ⟨e, by simp, h.symm⟩
    · obtain ⟨y, hy, hyi⟩ := I.inA i hi
      exact ⟨y, by simp [hy], hyi⟩
  · rw [getD_set _ _ _ (by rw [I.size]; exact hlt)]
    split
    · rfl
    · rename_i hne
      rcases hnew y hy with h | h | h
      · exact I.es y h hEy
      · exact absurd (by rw [h]) hne
      · rw [q5 y h] at hEy; cases hEy
  · rcases hnew y hy with h | h | h
    · by_cases hye : y.i = e.i
      · have hyT : y ∈ tr := by rw [htr]; simp [h]
        have : y = e := ent_unique hor hmap hyT (by rw [htr]; simp) hye
        subst this
        rw [ho] at hdt
        exact ⟨u, t3 t hdt, hv⟩
      · exact t2 y h hly hye t hdt
    · subst h
      rw [ho] at hdt
      exact ⟨u, t3 t hdt, hv⟩
    · rw [behind y h] at hly; cases hly
  · rcases hnew y hy with h | h | h
    · rw [getD_set _ _ _ (by rw [I.size]; exact hlt)] at hly
      split at hly
      · cases hly
      · obtain ⟨k1, k2, k3⟩ := I.made y h blk hm hly
        have kid := I.ids y h blk hm
        obtain ⟨k4, k5⟩ := x.un _ kid k1
        exact ⟨k4, by rw [q8 _ (Nat.lt_of_lt_of_le kid x.next), k5]; exact k2, k3⟩
    · subst h
      exact absurd hm (hnm blk)
    · obtain ⟨z1, z2, z3⟩ := q9 y h blk hm
      refine ⟨?_, z3, Nat.le_trans I.ext.next (Nat.le_trans x.next z1)⟩
      cases hg : g' y.s.h.next with
      | none => rfl
      | some p => exact absurd (x.wr.dom _ _ hg) (by omega)
  · rcases hnew y hy with h | h | h
    · exact Nat.lt_of_lt_of_le (I.ids y h blk hm) hmono
    · subst h; exact absurd hm (hnm blk)
    · exact (q9 y h blk hm).2.1
  · rcases hnew y hy with h | h | h
    · rcases hnew z hz with h' | h' | h'
      · exact I.dist y h z h' b b' hm hm' hyz
      · subst h'; exact absurd hm' (hnm b')
      · have k1 := I.ids y h b hm
        have k2 := (q9 z h' b' hm').1
        have := x.next
        omega
    · subst h; exact absurd hm (hnm b)
    · rcases hnew z hz with h' | h' | h'
      · have k1 := I.ids z h' b' hm'
        have k2 := (q9 y h b hm).1
        have := x.next
        omega
      · subst h'; exact absurd hm' (hnm b')
      · exact q10 y h z h' b b' hm hm' hyz
end
end Ev
end Go.Proofs.YtbfkbabolhhbaaaGreatDoor
