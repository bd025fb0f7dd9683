/-
  Two stores that may come in either order: worlds.
-/
import Derived.Test.YtogbcielgfidlaaGreatDoorEvDraw
namespace Go.Proofs.YtogbcielgfidlaaGreatDoor
set_option linter.unusedVariables false
set_option linter.unusedSimpArgs false
namespace Ev
variable [Opq]
set_option linter.unusedSectionVars false
section
variable {P : Program} {T : Ty} {g : G}

/-- The cells from a place on, written one after the other. -/
def setL : World → Nat → Nat → List Value → World
  | w, _, _, [] => w
  | w, b, o, u :: us => setL (w.setCell ⟨b, o, none⟩ u) b (o + 1) us
/-- So many cells lie there. -/
def Fit (w : World) (b o n : Nat) : Prop := ∃ c t, w.heap[b]? = some (.cells c t (0, 0)) ∧ o + n ≤ c.size
theorem setL_ne {b j : Nat} (h : j ≠ b) : ∀ (us : List Value) (w : World) (o : Nat), (setL w b o us).heap[j]? = w.heap[j]?
  | [], _, _ => rfl
  | u :: us, w, o => (setL_ne h us (w.setCell ⟨b, o, none⟩ u) (o + 1)).trans (heap_setCell_ne u h)
theorem Fit.of {w w' : World} {b o n : Nat} (k : w'.heap[b]? = w.heap[b]?) (f : Fit w b o n) : Fit w' b o n := by
  obtain ⟨c, t, h1, h2⟩ := f
  exact ⟨c, t, k.trans h1, h2⟩
theorem Fit.step {w : World} {b o n : Nat} (f : Fit w b o (n + 1)) (u : Value) : Fit (w.setCell ⟨b, o, none⟩ u) b (o + 1) n := by
  obtain ⟨c, t, h1, h2⟩ := f
  exact ⟨_, t, heap_setCell u h1, by rw [Array.size_setIfInBounds]; omega⟩
theorem Fit.cell {w : World} {b o n : Nat} (f : Fit w b o (n + 1)) : (∃ x, w.cell? ⟨b, o, none⟩ = some x) ∧ w.frozen? ⟨b, o, none⟩ = false := by
  obtain ⟨c, t, h1, h2⟩ := f
  have ho : o < c.size := by omega
  refine ⟨⟨c[o], ?_⟩, ?_⟩
  · simp [World.cell?, h1, ho]
  · simp [World.frozen?, h1]
theorem run_setL {b o : Nat} : ∀ (us : List Value) {w : World} {k : Nat}, Fit w b (o + k) us.length → (∀ u ∈ us, u.oneCell' = true) → (storeCells ⟨b, o, none⟩ us k).run P w = .ok () (setL w b (o + k) us)
  | [], w, k, _, _ => by simp [storeCells, setL]
  | u :: us, w, k, hf, h1 => by
    obtain ⟨⟨x, k1⟩, k2⟩ := Fit.cell (n := us.length) hf
    have ha : (⟨b, o, none⟩ : Addr).add k = ⟨b, o + k, none⟩ := by simp [Addr.add]
    have ih := run_setL us (w := w.setCell ⟨b, o + k, none⟩ u) (k := k + 1) (Fit.step (n := us.length) hf u) fun v hv => h1 v (List.mem_cons_of_mem _ hv)
    simp only [storeCells, Sem.run_bind, ha, store_run (h1 u List.mem_cons_self) k1 k2, Result.andThen_ok]
    exact ih
theorem setCell_comm {b b' : Nat} (h : b ≠ b') (w : World) (o o' : Nat) (u u' : Value) : (w.setCell ⟨b, o, none⟩ u).setCell ⟨b', o', none⟩ u' = (w.setCell ⟨b', o', none⟩ u').setCell ⟨b, o, none⟩ u := by
  unfold World.setCell
  simp only []
  congr 1
  apply Array.ext_getElem?
  intro j
  simp only [Array.getElem?_modify]
  by_cases e1 : b = j
  · have e2 : ¬ b' = j := fun e => h (e1.trans e.symm)
    simp [e1, e2]
  · by_cases e2 : b' = j
    · simp [e1, e2]
    · simp [e1, e2]
theorem setCell_setL {b b' : Nat} (h : b ≠ b') (o' : Nat) (u' : Value) : ∀ (us : List Value) (w : World) (o : Nat), (setL w b o us).setCell ⟨b', o', none⟩ u' = setL (w.setCell ⟨b', o', none⟩ u') b o us
  | [], _, _ => rfl
  | u :: us, w, o => by
    show (setL (w.setCell ⟨b, o, none⟩ u) b (o + 1) us).setCell _ _ = setL ((w.setCell ⟨b', o', none⟩ u').setCell ⟨b, o, none⟩ u) b (o + 1) us
    rw [setCell_setL h o' u' us, setCell_comm h]
theorem setL_comm {b b' : Nat} (h : b ≠ b') (us : List Value) : ∀ (us' : List Value) (w : World) (o o' : Nat), setL (setL w b o us) b' o' us' = setL (setL w b' o' us') b o us
  | [], _, _, _ => rfl
  | u :: us', w, o, o' => by
    show setL ((setL w b o us).setCell ⟨b', o', none⟩ u) b' (o' + 1) us' = setL (setL (w.setCell ⟨b', o', none⟩ u) b' (o' + 1) us') b o us
    rw [setCell_setL h, setL_comm h us us']

/-- A block of cells from which nothing was appended. -/
def Solo (h : H) (id : Nat) : Prop := ∃ n cs up, h.blk id = some (.cells n cs up false)
theorem solo_ne {h : H} {w : World} (r : WR T g h w) {i j b o z b' o' z' : Nat} (hij : i ≠ j) (gi : g i = some (b, o, z)) (gj : g j = some (b', o', z')) (si : Solo h i) (sj : Solo h j) : b ≠ b' := by
  rintro rfl
  obtain ⟨n, cs, up, hi⟩ := si
  obtain ⟨n', cs', up', hj⟩ := sj
  rcases r.mates i j b o z o' z' _ _ hij gi gj hi hj rfl rfl with ⟨d, u, _⟩ | ⟨d, u, _⟩ | ⟨k, _⟩
  · obtain ⟨q, up2, k1, k2⟩ := r.last u
    rw [hj] at k1
    cases k1
    cases k2
  · obtain ⟨q, up2, k1, k2⟩ := r.last u
    rw [hi] at k1
    cases k1
    cases k2
  · cases k
theorem wr1_solo {h h' : H} {w : World} (r : WR T g h w) {id i b o z : Nat} {v : V} (e : h.wr1 id i v = some h') (eg : g id = some (b, o, z)) :
    oneCell v = true ∧ Fit w b (o + i) 1 ∧ Solo h id ∧ Solo h' id := by
  unfold H.wr1 at e
  obtain ⟨k, e1, e2⟩ := ob_some.1 e
  cases k with
  | cells n cs up ch =>
    obtain ⟨hc, e3⟩ := oif_some.1 e2
    obtain ⟨hin, e4⟩ := oif_some.1 e3
    obtain ⟨hone, e5⟩ := oif_some.1 e4
    obtain ⟨h1, e6, e7⟩ := ob_some.1 e5
    cases e7
    have hch : ch = false := by simpa using hc
    subst hch
    have hlt : i < n := by simpa using hin
    have hid : id < keys := Nat.lt_of_lt_of_le (r.dom _ _ eg) r.bound
    obtain ⟨b', o', z', c, t, k1, k2, k3, k4, k5, k6⟩ := r.blk id _ _ eg e1
    rw [eg] at k1
    cases k1
    exact ⟨hone, ⟨c, t, k2, by omega⟩, ⟨n, cs, up, e1⟩, ⟨n, _, up, by rw [blk_put h1 id id _ _ hid, if_pos rfl]⟩⟩
  | _ => cases e2
theorem wr_set : ∀ {l : List V} {us : List Value} {i : Nat} {h h' : H} {w : World} {id b o z : Nat}, WR T g h w → g id = some (b, o, z) → VRs g l us → H.wr id l i h = some h' →
    Ext T g h w g h' (setL w b (o + i) us) ∧ (∀ u ∈ us, u.oneCell' = true) ∧ (l ≠ [] → Fit w b (o + i) us.length ∧ Solo h id ∧ Solo h' id)
  | [], _, i, h, h', w, id, b, o, z, r, hg, hl, e => by
    cases hl
    cases e
    exact ⟨.refl r, by simp, fun k => absurd rfl k⟩
  | v :: l, _, i, h, h', w, id, b, o, z, r, hg, hl, e => by
    cases hl with
    | cons hv ht =>
      rename_i u us
      rw [wr_cons] at e
      obtain ⟨h1, e1, e2⟩ := ob_some.1 e
      obtain ⟨x1, _⟩ := Ext.wr1 r e1 hg hv
      obtain ⟨hone, hfit, s1, s2⟩ := wr1_solo r e1 hg
      obtain ⟨x2, k1, k2⟩ := wr_set (i := i + 1) x1.wr hg ht e2
      refine ⟨x1.trans x2, fun y hy => ?_, fun _ => ?_⟩
      · rcases List.mem_cons.1 hy with rfl | hy
        · exact oneCell_of hv hone
        · exact k1 y hy
      · cases l with
        | nil =>
          cases ht
          cases e2
          exact ⟨hfit, s1, s2⟩
        | cons v2 l2 =>
          obtain ⟨f, s3, s4⟩ := k2 (by simp)
          refine ⟨?_, s1, s4⟩
          obtain ⟨c, t, q1, q2⟩ := hfit
          obtain ⟨c', t', q3, q4⟩ := f
          rw [heap_setCell u q1] at q3
          cases q3
          rw [Array.size_setIfInBounds] at q4
          refine ⟨c, t, q1, ?_⟩
          simp only [List.length_cons] at q4 ⊢
          omega
end
end Ev
end Go.Proofs.YtogbcielgfidlaaGreatDoor
namespace Go.Proofs.YtogbcielgfidlaaGreatDoor
set_option linter.unusedVariables false
set_option linter.unusedSimpArgs false
namespace Ev
variable [Opq]
set_option linter.unusedSectionVars false
section
variable {P : Program} {T : Ty} {m N : Nat}
variable {call : CallT} {ops : Array Oper} {cl : List COper} {bs ord : List Nat} {s0 sn : St} {tr : List Ent} {g0 : G} {a0 : Act} {w0 : World}

theorem pure_p {op : Op} (h : pureO op = true) {c : COp} {os : List Operand} (hc : compOp T op = some (c, os)) : ∃ po, c = .p po := by
  cases op with
  | move x => cases hc; exact ⟨_, rfl⟩
  | assign x => cases hc; exact ⟨_, rfl⟩
  | nilCheck x => cases hc; exact ⟨_, rfl⟩
  | fieldAddr t x i =>
    obtain ⟨d, _, h2⟩ := ob_some.1 (show ob (T.under t) _ = some (c, os) from hc)
    cases d with
    | struct fs =>
      obtain ⟨f, _, h3⟩ := ob_some.1 h2
      obtain ⟨_, _, h4⟩ := ob_some.1 h3
      cases h4
      exact ⟨_, rfl⟩
    | _ => cases h2
  | indexAddr t x i =>
    obtain ⟨d, _, h2⟩ := ob_some.1 (show ob (T.under t) _ = some (c, os) from hc)
    cases d with
    | slice e =>
      obtain ⟨n, _, h3⟩ := ob_some.1 h2
      cases h3
      exact ⟨_, rfl⟩
    | array k e =>
      obtain ⟨n, _, h3⟩ := ob_some.1 h2
      cases h3
      exact ⟨_, rfl⟩
    | _ => cases h2
  | _ => cases h
theorem least {p : Nat → Prop} (h : ∃ i, p i) : ∃ i, p i ∧ ∀ j, j < i → ¬ p j := by
  obtain ⟨i, hi⟩ := h
  induction i using Nat.strongRecOn with
  | _ i ih =>
    by_cases h : ∃ j, j < i ∧ p j
    · obtain ⟨j, h1, h2⟩ := h
      exact ih j h1 h2
    · exact ⟨i, hi, fun j hj hp => h ⟨j, hj, hp⟩⟩

section
variable {hi : Nat → Nat} {listed : Array Bool} {a : Act} {w : World} {g : G} {A B : List Ent} {sA : St}

theorem Inv.unA (hor : Order ops cl bs ord) (hmap : tr.map (·.i) = ord) (I : Inv T m N call ops cl hi bs s0 tr sn g0 a0 w0 listed a w g A B sA) {e : Ent} (he : e ∈ B) : listed.getD e.i false = false := by
  cases hl : listed.getD e.i false with
  | false => rfl
  | true =>
    obtain ⟨y, hy, hye⟩ := I.inA _ hl
    obtain ⟨s1, s2, e2⟩ := List.append_of_mem he
    have := (hor.pre ((A ++ s1).map (·.i)) e.i (s2.map (·.i)) (by rw [← hmap, I.tr, e2]; simp)).2.1
    exact absurd (by rw [← hye]; exact List.mem_map.2 ⟨y, List.mem_append_left _ hy, rfl⟩) this
theorem Inv.stretch (hor : Order ops cl bs ord) (hmap : tr.map (·.i) = ord) (I : Inv T m N call ops cl hi bs s0 tr sn g0 a0 w0 listed a w g A B sA) {e : Ent} (heT : e ∈ tr) (hE : isEAt cl e.i = false)
    (hbef : ∀ j, bit (bitsAt bs e.i) j = true → listed.getD j false = true) : e ∈ A := by
  rw [I.tr] at heT
  rcases List.mem_append.1 heT with h | h
  · exact h
  · cases hBB : B with
    | nil => rw [hBB] at h; cases h
    | cons b B' =>
      rw [hBB] at h
      have hb := I.bnd b B' hBB
      rcases List.mem_cons.1 h with h | h
      · rw [h, hb] at hE; cases hE
      · obtain ⟨s1', s2', rfl⟩ := List.append_of_mem h
        have htr' : tr = (A ++ b :: s1') ++ e :: s2' := by rw [I.tr, hBB]; simp
        have hbl := hbef _ ((hor.pre ((A ++ b :: s1').map (·.i)) e.i (s2'.map (·.i)) (by rw [← hmap, htr']; simp)).2.2 b.i (List.mem_map.2 ⟨b, by simp, rfl⟩) hb)
        have := I.unA hor hmap (e := b) (by rw [hBB]; exact List.mem_cons_self)
        rw [hbl] at this
        cases this
theorem Inv.headE (hor : Order ops cl bs ord) (hmap : tr.map (·.i) = ord) (I : Inv T m N call ops cl hi bs s0 tr sn g0 a0 w0 listed a w g A B sA) {e : Ent} (heT : e ∈ tr) (hE : isEAt cl e.i = true) (hl : listed.getD e.i false = false)
    (hbef : ∀ j, isEAt cl j = true → bit (bitsAt bs e.i) j = true → listed.getD j false = true) : ∃ B', B = e :: B' := by
  have hnA : e ∉ A := fun h => by
    have := I.es e h hE
    rw [hl] at this
    cases this
  have heB : e ∈ B := by
    rw [I.tr] at heT
    exact (List.mem_append.1 heT).resolve_left hnA
  cases hBB : B with
  | nil => rw [hBB] at heB; cases heB
  | cons b B' =>
    rw [hBB] at heB
    rcases List.mem_cons.1 heB with h | h
    · exact ⟨B', by rw [h]⟩
    · have hb := I.bnd b B' hBB
      obtain ⟨s1', s2', rfl⟩ := List.append_of_mem h
      have htr' : tr = (A ++ b :: s1') ++ e :: s2' := by rw [I.tr, hBB]; simp
      have hbl := hbef _ hb ((hor.pre ((A ++ b :: s1').map (·.i)) e.i (s2'.map (·.i)) (by rw [← hmap, htr']; simp)).2.2 b.i (List.mem_map.2 ⟨b, by simp, rfl⟩) hb)
      have := I.unA hor hmap (e := b) (by rw [hBB]; exact List.mem_cons_self)
      rw [hbl] at this
      cases this
/-- What an operation's operands are. -/
theorem Inv.entry (hcl : ∀ (i : Nat) c, cl[i]? = some c → ∃ o, ops[i]? = some o ∧ Parts T m N ops o c) (hst : Static T ops bs) (hor : Order ops cl bs ord) (hmap : tr.map (·.i) = ord) (htr : Trace call cl hi 0 s0 tr sn)
    (hG : Glob T g0 s0.h) (F0 : FR g0 m N s0.f a0.tmps) (I : Inv T m N call ops cl hi bs s0 tr sn g0 a0 w0 listed a w g A B sA) {e : Ent} (heT : e ∈ tr) {o : Oper} (ho : ops[e.i]? = some o) (hl : listed.getD e.i false = false)
    (hbef : ∀ (j : Nat) (p : Oper) d, ops[j]? = some p → p.dst = some d → bit (bitsAt bs e.i) j = true → listed.getD j false = true) :
    ∃ c, cl[e.i]? = some c ∧ Parts T m N ops o c ∧ (∃ lo hi' s1, Step call { c with lo := lo, hi := hi' } e.s e.v s1) ∧
      ∀ (vs : List V) (os : List Operand), compOp T o.op = some (c.op, os) → mapO (opd T m) os = some c.args → evs e.s.f c.args = some vs → VRs g vs (os.map a.eval) := by
  obtain ⟨A0, A1, hA⟩ := List.append_of_mem heT
  obtain ⟨s', t0, t1⟩ := Trace.split (A := A0) (B := e :: A1) (by rw [← hA]; exact htr)
  obtain ⟨hes, hek, c, s1, hc, st, t2⟩ := t1.head
  rw [← hes] at t0 st
  have hreads := I.reads hst hor hcl hmap F0 hA t0 ho hl hbef
  obtain ⟨o', ho', hp⟩ := hcl _ _ hc
  rw [ho] at ho'
  cases ho'
  have hGg := hG.ext I.ext
  refine ⟨c, hc, hp, ⟨_, _, s1, st⟩, fun vs os h1 h2 h3 => evs_ok hGg h2 h3 fun t ht v hv => hreads t (by
        unfold namesOf
        rw [h1]
        refine List.mem_append_right _ (List.mem_append_left _ ?_)
        exact List.mem_filterMap.2 ⟨.tmp t, ht, rfl⟩) v hv⟩
/-- A pure operation, whatever the world. -/
theorem Inv.plain (hT : TyOk P T) (hcl : ∀ (i : Nat) c, cl[i]? = some c → ∃ o, ops[i]? = some o ∧ Parts T m N ops o c) (hst : Static T ops bs) (hor : Order ops cl bs ord) (hmap : tr.map (·.i) = ord) (htr : Trace call cl hi 0 s0 tr sn)
    (hG : Glob T g0 s0.h) (F0 : FR g0 m N s0.f a0.tmps) (I : Inv T m N call ops cl hi bs s0 tr sn g0 a0 w0 listed a w g A B sA) {i : Nat} (hlt : i < ops.size) {o : Oper} (ho : ops[i]? = some o) (hl : listed.getD i false = false)
    (hbef : ∀ j, bit (bitsAt bs i) j = true → listed.getD j false = true) (h1 : pureO o.op = true) (h2 : o.guard = none) :
    ∃ u, Gives P a.eval o.op u ∧ Inv T m N call ops cl hi bs s0 tr sn g0 a0 w0 (listed.setIfInBounds i true) (a.put o.dst u) w g A B sA := by
  obtain ⟨e, heT, rfl⟩ : ∃ e ∈ tr, e.i = i := by
    have := hor.all i hlt
    rw [← hmap, List.mem_map] at this
    exact this
  obtain ⟨c, hc, hp, ⟨lo, hi', s1, st⟩, hargs⟩ := I.entry hcl hst hor hmap htr hG F0 heT ho hl fun j _ _ _ _ k => hbef j k
  obtain ⟨os, k1, k2⟩ := hp.op
  obtain ⟨po, hpo⟩ := pure_p h1 k1
  have hg : c.guard = none := by
    rcases hp.guard with ⟨_, q⟩ | ⟨_, _, _, _, q, _⟩
    · exact q
    · rw [h2] at q; cases q
  have hE : isEAt cl e.i = false := by rw [isEAt_eq hc, hpo]; rfl
  have heA := I.stretch hor hmap heT hE hbef
  rcases st.main with ⟨q, _⟩ | ⟨vs, _, q2, q3, _⟩
  · have q : guardOk e.s.f c.guard = some false := q
    rw [hg] at q
    cases q
  · have q3 : c.op.run call vs e.s.h = some (e.v, s1.h) := q3
    rw [hpo] at q3
    obtain ⟨x, q4, q5⟩ := ob_some.1 (show ob (po.run vs) (fun v => some (v, e.s.h)) = some (e.v, s1.h) from q3)
    obtain ⟨u, r1, r2⟩ := P_ok (ρ := a.eval) hT (hpo ▸ k1) (hargs vs os k1 k2 q2) q4
    have hx : x = e.v := (Prod.mk.inj (Option.some.inj q5)).1
    rw [hx] at r1
    exact ⟨u, r2, I.same hst hor hmap heA ho hl hbef hp.dst (.refl I.wr) r1⟩
end

/- Stores. -/
def StAt (T : Ty) (o : Oper) (ρ : Operand → Value) (b p : Nat) (us : List Value) : Prop :=
  ∃ t ad v n, o.op = .store t ad v ∧ sizeT T t = some n ∧ ρ ad = .pointer (some ⟨b, p, none⟩) ∧ (ρ v).cells.toList = us ∧ us.length = n ∧ ∀ u ∈ us, u.oneCell' = true
theorem StAt.op (hT : TyOk P T) {rd : Option Nat} {o : Oper} {a : Act} {b p : Nat} {us : List Value} (h : StAt T o a.eval b p us) (hd : o.dst = none) (hg : o.guard = none) {i : Nat} {ops : Array Oper} (ho : ops[i]? = some o) {w : World} (hf : Fit w b p us.length)
    {K : Act → World → Prop} {Q : Exit → Act → World → Prop} (k : K a (setL w b p us)) : wpOpIn (fen rd) 0 P ops Q i K a w := by
  obtain ⟨t, ad, v, n, h1, h2, h3, h4, h5, h6⟩ := h
  unfold wpOpIn
  simp only [ho]
  have hw : Region.wanted o (yielded ops a.tmps) = true := by simp [Region.wanted, hg]
  rw [if_pos hw]
  refine ⟨fun _ _ => trivial, ?_⟩
  rw [Oper.semAt_eq _ _ _ (fun c e => by rw [h1] at e; cases e)]
  have hs : ¬ (a.eval v).cells.size ≠ n := by
    have : (a.eval v).cells.size = (a.eval v).cells.toList.length := by simp
    simp only [ne_eq, Decidable.not_not]
    rw [this, h4, h5]
  have hrun := run_setL (P := P) (b := b) (o := p) us (w := w) (k := 0) hf h6
  rw [Nat.add_zero] at hrun
  have he : (execOp a.eval o).run P w = .ok .skip (setL w b p us) := by
    simp only [execOp, h1, h3, Instr.storeAt, Instr.sureAddr, storeVar, Sem.run_bind, Sem.run_pure, Result.andThen_ok, run_sizeOf' hT h2]
    rw [if_neg hs]
    simp [h4, hrun]
  rw [he, Oper.uponIn_skip, hd]
  exact k
theorem StAt.same {o : Oper} {ρ ρ' : Operand → Value} {b p b' p' : Nat} {us us' : List Value} (h : StAt T o ρ b p us) (h' : StAt T o ρ' b' p' us') (he : ∀ x ∈ o.op.operands.toList, ρ x = ρ' x) : b = b' ∧ p = p' ∧ us = us' := by
  obtain ⟨t, ad, v, n, h1, h2, h3, h4, h5, h6⟩ := h
  obtain ⟨t', ad', v', n', h1', h2', h3', h4', h5', h6'⟩ := h'
  rw [h1] at h1'
  cases h1'
  have e1 := he ad (by rw [h1]; simp [Op.operands])
  have e2 := he v (by rw [h1]; simp [Op.operands])
  rw [h3, h3'] at e1
  cases e1
  rw [← e2, h4] at h4'
  exact ⟨rfl, rfl, h4'⟩
theorem StAt.congr {o : Oper} {ρ ρ' : Operand → Value} {b p : Nat} {us : List Value} (h : StAt T o ρ b p us) (he : ∀ x ∈ o.op.operands.toList, ρ' x = ρ x) : StAt T o ρ' b p us := by
  obtain ⟨t, ad, v, n, h1, h2, h3, h4, h5, h6⟩ := h
  exact ⟨t, ad, v, n, h1, h2, by rw [he ad (by rw [h1]; simp [Op.operands]), h3], by rw [he v (by rw [h1]; simp [Op.operands]), h4], h5, h6⟩
/-- A store in a trace. -/
theorem st_step {g : G} {w : World} {o : Oper} {c : COper} {ρ : Operand → Value} (hop : ∃ os, compOp T o.op = some (c.op, os) ∧ mapO (opd T m) os = some c.args) (hs : storeO T o = true) (hg : c.guard = none) {s s1 : St} {v : V} (st : Step call c s v s1) (r : WR T g s.h w)
    (hargs : ∀ (vs : List V) (os : List Operand), compOp T o.op = some (c.op, os) → mapO (opd T m) os = some c.args → evs s.f c.args = some vs → VRs g vs (os.map ρ)) :
    ∃ a ra id off b p us z, c.args = a :: ra ∧ a.ev s.f = some (.ptr id off) ∧ g id = some (b, z, p) ∧ StAt T o ρ b (z + off) us ∧ Ext T g s.h w g s1.h (setL w b (z + off) us) ∧ Fit w b (z + off) us.length ∧ Solo s.h id ∧ Solo s1.h id := by
  obtain ⟨os, k1, k2⟩ := hop
  unfold storeO at hs
  split at hs
  · rename_i t ad x e1 e2 e3
    cases hn : sizeT T t with
    | none => rw [hn] at hs; cases hs
    | some n =>
      rw [hn] at hs
      have hn0 : 0 < n := by simpa using hs
      have k1' := k1
      rw [e1] at k1'
      obtain ⟨n', h2, h3⟩ := ob_some.1 (show ob (sizeT T t) (fun n => some (COp.e (.store n), [ad, x])) = some (c.op, os) from k1')
      rw [hn] at h2
      cases h2
      obtain ⟨h4, h5⟩ := Prod.mk.inj (Option.some.inj h3)
      subst h5
      rcases st.main with ⟨q, _⟩ | ⟨vs, _, q2, q3, _⟩
      · rw [hg] at q
        cases q
      · have hv := hargs vs _ k1 k2 q2
        rw [← h4] at q3
        have q3 : EOp.run (.store n) vs s.h = some (v, s1.h) := q3
        obtain ⟨v1, v2, rfl⟩ : ∃ v1 v2, vs = [v1, v2] := by
          have hl := hv.length
          match vs, hl with
          | [v1, v2], _ => exact ⟨v1, v2, rfl⟩
        have hva : VR g v1 (ρ ad) := by cases hv with | cons a _ => exact a
        have hvb : VR g v2 (ρ x) := by cases hv with | cons _ b => cases b with | cons a _ => exact a
        cases v1 with
        | ptr id off =>
          obtain ⟨m1, m2⟩ := oif_some.1 (show oif (Nat.beq (lenL (cellsOf v2)) n) (ob (H.wr id (cellsOf v2) off s.h) fun h => some (undefV, h)) = some (v, s1.h) from q3)
          obtain ⟨h1, m3, m4⟩ := ob_some.1 m2
          have m5 : h1 = s1.h := (Prod.mk.inj (Option.some.inj m4)).2
          subst m5
          rw [lenL_eq] at m1
          have m1' : (cellsOf v2).length = n := by simpa using m1
          have hcs := cells_ok hvb
          have hlen := hcs.length
          generalize hra : ρ ad = ua at hva
          cases hva with
          | ptr hgid =>
            rename_i b z p
            obtain ⟨x1, x2, x3⟩ := wr_set r hgid hcs m3
            obtain ⟨x4, x5, x6⟩ := x3 (by intro e; rw [e] at m1'; simp at m1'; omega)
            cases hca : c.args with
            | nil => rw [hca] at q2; cases q2
            | cons a ra =>
              rw [hca] at q2
              obtain ⟨y1, y2, y3⟩ := ob_some.1 (show ob (a.ev s.f) (fun v => ob (evs s.f ra) fun vs => some (v :: vs)) = some _ from q2)
              obtain ⟨y4, y5, y6⟩ := ob_some.1 y3
              have y7 : y1 = .ptr id off := by cases y6; rfl
              subst y7
              exact ⟨a, ra, id, off, b, p, _, z, rfl, y2, hgid, ⟨t, ad, x, n, e1, hn, hra, rfl, by omega, x2⟩, x1, x4, x5, x6⟩
        | _ => cases q3
  · cases hs
end
end Ev
end Go.Proofs.YtogbcielgfidlaaGreatDoor
namespace Go.Proofs.YtogbcielgfidlaaGreatDoor
set_option linter.unusedVariables false
set_option linter.unusedSimpArgs false
namespace Ev
variable [Opq]
set_option linter.unusedSectionVars false
section
variable {P : Program} {T : Ty} {m N : Nat}
variable {call : CallT} {ops0 ops : Array Oper} {cl : List COper} {bs ord : List Nat} {s0 sn : St} {tr : List Ent} {g0 : G} {a0 : Act} {w0 : World} {x y : Nat} {ox oy : Oper}

structure PlainP (bs : List Nat) (y : Nat) (ox o : Oper) (i : Nat) : Prop where
  op : pureO o.op = true
  guard : o.guard = none
  edge : ∀ e ∈ o.after.toList, bindsE e = true → e.on ≠ y
  bit : bit (bitsAt bs y) i = true
  dst : ∀ d, o.dst = some d → d ∉ tmpsOf ox.op.operands.toList
/-- 'ops': 'ops0' with x behind y. -/
structure LateH (T : Ty) (ops0 ops : Array Oper) (bs : List Nat) (x y : Nat) (ox oy : Oper) : Prop where
  gx : ops0[x]? = some ox
  gy : ops0[y]? = some oy
  ne : y ≠ x
  same : ∀ i, i ≠ x → ops[i]? = ops0[i]?
  atx : ∃ z, ops[x]? = some { ox with after := z } ∧ ∀ e ∈ z.toList, bindsE e = true → e ∈ ox.after.toList ∨ e.on = y
  size : ops.size = ops0.size
  sx : storeO T ox = true
  sy : storeO T oy = true
  noy : bit (beforeOf bs ox) y = false
  edge : ∀ (i : Nat) o, ops0[i]? = some o → i ≠ x → ∀ e ∈ o.after.toList, bindsE e = true → e.on ≠ x
  other : ∀ (i : Nat) o, ops0[i]? = some o → i ≠ x → i ≠ y → bit (beforeOf bs ox) i = true ∨ PlainP bs y ox o i
theorem storeO_dst {o : Oper} (h : storeO T o = true) : o.dst = none ∧ o.guard = none := by
  unfold storeO at h
  split at h
  · rename_i h1 h2 h3
    exact ⟨h2, h3⟩
  · cases h
theorem lateOk_ok {ops0 : Array Oper} {x y : Nat} (h : lateOk T ops0 (befores (lateOps ops0 x y).toList) x y = true) : ∃ ox oy, LateH T ops0 (lateOps ops0 x y) (befores (lateOps ops0 x y).toList) x y ox oy := by
  generalize hb : befores (lateOps ops0 x y).toList = bs at h ⊢
  unfold lateOk at h
  split at h
  · rename_i ox oy e1 e2
    simp only [Bool.and_eq_true, List.all_eq_true, Bool.not_eq_true'] at h
    obtain ⟨⟨⟨⟨h1, h2⟩, h3⟩, h4⟩, h5⟩ := h
    have hlt : y < x := by simpa using h3
    have at5 : ∀ (i : Nat) o, ops0[i]? = some o → i ≠ x → (∀ e ∈ o.after.toList, bindsE e = true → e.on ≠ x) ∧ (i ≠ y → bit (beforeOf bs ox) i = true ∨ PlainP bs y ox o i) := by
      intro i o ho hix
      have k := h5 (o, i) (mem_zipIdx ho)
      unfold lateAt at k
      simp only [Bool.or_eq_true, Bool.and_eq_true, List.all_eq_true, Bool.not_eq_true'] at k
      rcases k with k | ⟨k1, k2⟩
      · exact absurd (by simpa using k) hix
      · refine ⟨fun e he hbi hex => ?_, fun hiy => ?_⟩
        · rcases k1 e he with q | q
          · rw [hbi] at q; cases q
          · rw [hex] at q; simp at q
        · rcases k2 with (q | q) | ⟨⟨⟨q1, q2⟩, q3⟩, q4⟩
          · exact absurd (by simpa using q) hiy
          · exact .inl q
          · unfold plainO at q1
            simp only [Bool.and_eq_true, Bool.not_eq_true', Option.isSome_eq_false_iff, Option.isNone_iff_eq_none] at q1
            refine .inr ⟨q1.1, q1.2, fun e he hbi hey => ?_, q3, fun d hd hm => ?_⟩
            · rcases q2 e he with q | q
              · rw [hbi] at q; cases q
              · rw [hey] at q; simp at q
            · rw [hd] at q4
              simp only [Bool.not_eq_true', List.any_eq_false] at q4
              exact q4 d hm (by simp)
    refine ⟨ox, oy, ⟨e1, e2, by omega, fun i hi => ?_, ⟨ox.after.push ⟨y, .data⟩, ?_, fun e he hbi => ?_⟩, by simp [lateOps], h1, h2, h4, fun i o ho hi => (at5 i o ho hi).1, fun i o ho hi => (at5 i o ho hi).2⟩⟩
    · unfold lateOps
      rw [Array.getElem?_modify, if_neg (fun k => hi k.symm)]
    · unfold lateOps
      rw [Array.getElem?_modify, if_pos rfl, e1]
      rfl
    · rw [Array.toList_push, List.mem_append, List.mem_singleton] at he
      rcases he with he | rfl
      · exact .inl he
      · exact .inr rfl
  · cases h

theorem LateH.at' (L : LateH T ops0 ops bs x y ox oy) (i : Nat) {o : Oper} (ho : ops0[i]? = some o) : ∃ z, ops[i]? = some { o with after := z } := by
  by_cases h : i = x
  · subst h
    obtain ⟨z, hz, _⟩ := L.atx
    have := L.gx
    rw [ho] at this
    cases this
    exact ⟨z, hz⟩
  · exact ⟨o.after, by rw [L.same i h, ho]⟩
theorem LateH.yielded (L : LateH T ops0 ops bs x y ox oy) (tmps : Array Value) : yielded ops tmps = yielded ops0 tmps := by
  funext j
  unfold Go.yielded
  have : (ops[j]?).bind (fun o : Oper => o.dst) = (ops0[j]?).bind (fun o : Oper => o.dst) := by
    by_cases h : j = x
    · subst h
      obtain ⟨z, hz, _⟩ := L.atx
      rw [hz, L.gx]
      rfl
    · rw [L.same j h]
  rw [this]
theorem LateH.op (L : LateH T ops0 ops bs x y ox oy) {F : Fence} {n : Nat} {Q : Exit → Act → World → Prop} {i : Nat} {o : Oper} (ho : ops0[i]? = some o) {K : Act → World → Prop} {a : Act} {w : World} (h : wpOpIn F n P ops Q i K a w) : wpOpIn F n P ops0 Q i K a w := by
  obtain ⟨z, hz⟩ := L.at' i ho
  unfold wpOpIn at *
  simp only [hz, ho, L.yielded] at *
  exact h

section
variable {listed : Array Bool} {a : Act} {w : World} {g : G} {A B : List Ent} {sA : St}
/-- What is pure, carried out first. -/
theorem look (hT : TyOk P T) (hcl : ∀ (i : Nat) c, cl[i]? = some c → ∃ o, ops[i]? = some o ∧ Parts T m N ops o c) (hst : Static T ops bs) (hor : Order ops cl bs ord) (hmap : tr.map (·.i) = ord) {hi : Nat → Nat} (htr : Trace call cl hi 0 s0 tr sn)
    (hG : Glob T g0 s0.h) (F0 : FR g0 m N s0.f a0.tmps) : ∀ (fuel : Nat) {listed : Array Bool} {a : Act}, left ops listed ≤ fuel → Inv T m N call ops cl hi bs s0 tr sn g0 a0 w0 listed a w g A B sA →
    listed.getD x false = false → listed.getD y false = false → (∀ (i : Nat) o, ops[i]? = some o → listed.getD i false = false → i ≠ x → i ≠ y → PlainP bs y ox o i ∧ ∀ e ∈ o.after.toList, bindsE e = true → e.on ≠ x) →
    ∃ listed' a', Inv T m N call ops cl hi bs s0 tr sn g0 a0 w0 listed' a' w g A B sA ∧ listed'.getD x false = false ∧ listed'.getD y false = false ∧ (∀ i, i < ops.size → i ≠ x → i ≠ y → listed'.getD i false = true) ∧
      ∀ t, (∀ (i : Nat) o, ops[i]? = some o → listed.getD i false = false → i ≠ x → i ≠ y → o.dst ≠ some t) → a'.tmps[t]? = a.tmps[t]? := by
  intro fuel
  induction fuel with
  | zero =>
    intro listed a hf I hx hy _
    have hall := left_zero (Nat.le_zero.1 hf)
    exact ⟨listed, a, I, hx, hy, fun i hi _ _ => hall i hi, fun _ _ => rfl⟩
  | succ fuel ih =>
    intro listed a hf I hx hy hU
    by_cases hex : ∃ i, i < ops.size ∧ i ≠ x ∧ i ≠ y ∧ listed.getD i false = false
    · obtain ⟨i, ⟨hlt, hix, hiy, hl⟩, hmin⟩ := least hex
      have ho : ops[i]? = some ops[i] := Array.getElem?_eq_getElem hlt
      generalize hoo : ops[i] = o at ho
      obtain ⟨pl, nox⟩ := hU i o ho hl hix hiy
      have hon : ∀ e ∈ o.after.toList, bindsE e = true → listed.getD e.on false = true := by
        intro e he hb
        cases hle : listed.getD e.on false with
        | true => rfl
        | false =>
          have hback := hst.back i o ho e he hb
          exact absurd ⟨by omega, nox e he hb, pl.edge e he hb, hle⟩ (hmin e.on hback)
      have hbef : ∀ j, bit (bitsAt bs i) j = true → listed.getD j false = true := by
        intro j hj
        obtain ⟨e, he, hb, h⟩ := hst.before i o ho j hj
        rcases h with rfl | h
        · exact hon e he hb
        · exact I.closed _ (hon e he hb) _ h
      obtain ⟨u, _, I'⟩ := I.plain hT hcl hst hor hmap htr hG F0 hlt ho hl hbef pl.op pl.guard
      have hset : ∀ j, (listed.setIfInBounds i true).getD j false = if j = i then true else listed.getD j false := fun j => getD_set _ _ _ (by rw [I.size]; exact hlt)
      have hleft : left ops (listed.setIfInBounds i true) ≤ fuel := by
        have := left_set I.size hlt hl
        omega
      obtain ⟨l', a', I2, k1, k2, k3, k4⟩ := ih hleft I' (by rw [hset, if_neg (fun e => hix e.symm)]; exact hx) (by rw [hset, if_neg (fun e => hiy e.symm)]; exact hy) fun j oj hj hlj hjx hjy => by
        rw [hset] at hlj
        split at hlj
        · cases hlj
        · exact hU j oj hj hlj hjx hjy
      refine ⟨l', a', I2, k1, k2, k3, fun t ht => ?_⟩
      rw [k4 t fun j oj hj hlj hjx hjy => by
        rw [hset] at hlj
        split at hlj
        · cases hlj
        · exact ht j oj hj hlj hjx hjy]
      have hd := ht i o ho hl hix hiy
      cases hod : o.dst with
      | none => rfl
      | some d =>
        have hne : d ≠ t := fun e => hd (by rw [hod, e])
        simp only [Act.put]
        rw [Array.getElem?_setIfInBounds_ne hne]
    · refine ⟨listed, a, I, hx, hy, fun i hi hix hiy => ?_, fun _ _ => rfl⟩
      cases hl : listed.getD i false with
      | true => rfl
      | false => exact absurd ⟨i, hi, hix, hiy, hl⟩ hex

/-- Both stores are left: y, then x. -/
theorem look2 (hT : TyOk P T) (L : LateH T ops0 ops bs x y ox oy) (hcl : ∀ (i : Nat) c, cl[i]? = some c → ∃ o, ops[i]? = some o ∧ Parts T m N ops o c) (hst : Static T ops bs) (hor : Order ops cl bs ord) (hmap : tr.map (·.i) = ord) (htr : Trace call cl (hiOf ops cl bs) 0 s0 tr sn)
    (hG : Glob T g0 s0.h) (F0 : FR g0 m N s0.f a0.tmps)
    (hap : ∀ cx cy ax rx ay ry, cl[x]? = some cx → cl[y]? = some cy → cx.args = ax :: rx → cy.args = ay :: ry → ∃ i p j q, ax.ev sn.f = some (.ptr i p) ∧ ay.ev sn.f = some (.ptr j q) ∧ i ≠ j)
    (I : Inv T m N call ops cl (hiOf ops cl bs) bs s0 tr sn g0 a0 w0 listed a w g A B sA) (hx : listed.getD x false = false) (hy : listed.getD y false = false) (hall : ∀ i, i < ops.size → i ≠ x → i ≠ y → listed.getD i false = true) (hyx : bit (bitsAt bs y) x = false) :
    ∃ bx px ux by' py uy, bx ≠ by' ∧ StAt T ox a.eval bx px ux ∧ StAt T oy a.eval by' py uy ∧ Fit w bx px ux.length ∧ Fit w by' py uy.length ∧
      Ext T g0 s0.h w0 g sn.h (setL (setL w by' py uy) bx px ux) ∧ FR g m N sn.f a.tmps ∧ a.defers = a0.defers := by
  obtain ⟨zx, hzx, _⟩ := L.atx
  have hoy : ops[y]? = some oy := by rw [L.same y L.ne]; exact L.gy
  obtain ⟨dx, gx⟩ := storeO_dst L.sx
  obtain ⟨dy, gy⟩ := storeO_dst L.sy
  have mem : ∀ i, i < ops.size → ∃ e ∈ tr, e.i = i := by
    intro i hi
    have := hor.all i hi
    rw [← hmap, List.mem_map] at this
    exact this
  have hGg := hG.ext I.ext
  obtain ⟨ey, hey, eyi⟩ := mem y (idx_lt hoy)
  obtain ⟨ex, hex, exi⟩ := mem x (idx_lt hzx)
  subst eyi
  subst exi
  -- both write
  have opE : ∀ {o : Oper} {c : COper}, storeO T o = true → (∃ os, compOp T o.op = some (c.op, os) ∧ mapO (opd T m) os = some c.args) → isE c.op = true := by
    intro o c hs ⟨os, k1, _⟩
    unfold storeO at hs
    split at hs
    · rename_i t ad v e1 e2 e3
      rw [e1] at k1
      obtain ⟨n', h2, h3⟩ := ob_some.1 (show ob (sizeT T t) (fun n => some (COp.e (.store n), [ad, v])) = some (c.op, os) from k1)
      obtain ⟨h4, h5⟩ := Prod.mk.inj (Option.some.inj h3)
      rw [← h4]
      rfl
    · cases hs
  -- y
  obtain ⟨cy, hcy, hpy, _, hay⟩ := I.entry hcl hst hor hmap htr hG F0 hey hoy hy fun j p d hj hd hb => hall j (idx_lt hj) (fun e => by rw [e, hyx] at hb; cases hb) fun e => by
    rw [e, hoy] at hj
    cases hj
    rw [dy] at hd
    cases hd
  have hEy : isEAt cl ey.i = true := by rw [isEAt_eq hcy]; exact opE L.sy hpy.op
  have hbefy : ∀ j, bit (bitsAt bs ey.i) j = true → listed.getD j false = true := fun j hb => by
    obtain ⟨q, hq, hqb, h⟩ := hst.before _ _ hoy j hb
    have hjlt : j < ops.size := by
      rcases h with rfl | h
      · have := hst.back _ _ hoy q hq hqb
        have := idx_lt hoy
        omega
      · cases hj : ops[j]? with
        | some p => exact idx_lt hj
        | none =>
          have := hor.pre
          obtain ⟨s1, s2, e2⟩ := List.append_of_mem hey
          have hin := (hor.pre (s1.map (·.i)) ey.i (s2.map (·.i)) (by rw [← hmap, e2]; simp)).1 j hb
          rw [List.mem_map] at hin
          obtain ⟨e3, he3, rfl⟩ := hin
          obtain ⟨z1, z2, rfl⟩ := List.append_of_mem he3
          have htr2 := htr
          rw [e2, List.append_assoc] at htr2
          obtain ⟨s', _, t1⟩ := Trace.split htr2
          obtain ⟨_, _, c3, _, hc3, _⟩ := t1.head
          obtain ⟨o3, ho3, _⟩ := hcl _ _ hc3
          exact idx_lt ho3
    exact hall j hjlt (fun e => by rw [e, hyx] at hb; cases hb) fun e => by
      subst e
      obtain ⟨s1, s2, e2⟩ := List.append_of_mem hey
      have hin := hor.pre (s1.map (·.i)) ey.i (s2.map (·.i)) (by rw [← hmap, e2]; simp)
      exact hin.2.1 (hin.1 _ hb)
  obtain ⟨B', hB⟩ := I.headE hor hmap hey hEy hy fun j _ hb => hbefy j hb
  subst hB
  obtain ⟨hes, hek, c', s1, hc', st, t2⟩ := I.tB.head
  rw [hcy] at hc'
  cases hc'
  have hgy : cy.guard = none := by
    rcases hpy.guard with ⟨_, q⟩ | ⟨_, _, _, _, q, _⟩
    · exact q
    · rw [gy] at q; cases q
  obtain ⟨ay, ry, iy, qy, by', zy, uy, py, y1, y2, y3, y4, y5, y6, y7, y8⟩ := st_step (c := { cy with lo := nE cl A, hi := hiOf ops cl bs ey.i }) hpy.op L.sy hgy st I.wr fun vs os k1 k2 k3 => hay vs os k1 k2 (by rw [hes]; exact k3)
  have hnm : ∀ {e : Ent} {c : COper}, cl[e.i]? = some c → isE c.op = true → ∀ blk, ¬ Made cl e blk := by
    intro e c hc hE blk hm
    obtain ⟨c', ao, vs, mk, m1, m2, _⟩ := hm
    rw [hc] at m1
    cases m1
    rw [m2] at hE
    cases hE
  have vy : ey.v = undefV ∨ True := .inr trivial
  have valOf : ∀ {co : COper} {s s1 : St} {v : V}, Step call co s v s1 → (∃ n, co.op = .e (.store n)) → v = undefV := by
    intro co s s1 v st ⟨n, hn⟩
    rcases st.main with ⟨_, q, _⟩ | ⟨vs, _, _, q, _⟩
    · exact q
    · rw [hn] at q
      have q : EOp.run (.store n) vs s.h = some (v, s1.h) := q
      match vs, q with
      | [.ptr id off, v2], q =>
        obtain ⟨m1, m2⟩ := oif_some.1 (show oif (Nat.beq (lenL (cellsOf v2)) n) (ob (H.wr id (cellsOf v2) off s.h) fun h => some (undefV, h)) = some (v, s1.h) from q)
        obtain ⟨h1, m3, m4⟩ := ob_some.1 m2
        exact (Prod.mk.inj (Option.some.inj m4)).1.symm
  have storeOp : ∀ {o : Oper} {c : COper}, storeO T o = true → (∃ os, compOp T o.op = some (c.op, os) ∧ mapO (opd T m) os = some c.args) → ∃ n, c.op = .e (.store n) := by
    intro o c hs ⟨os, k1, _⟩
    unfold storeO at hs
    split at hs
    · rename_i t ad v e1 e2 e3
      rw [e1] at k1
      obtain ⟨n', h2, h3⟩ := ob_some.1 (show ob (sizeT T t) (fun n => some (COp.e (.store n), [ad, v])) = some (c.op, os) from k1)
      obtain ⟨h4, h5⟩ := Prod.mk.inj (Option.some.inj h3)
      exact ⟨n', h4.symm⟩
    · cases hs
  have vyu := valOf st (storeOp L.sy hpy.op)
  obtain ⟨A', B'', sA', I2⟩ := I.write (u := undef) hst hor hmap hEy hoy hy hbefy hpy.dst hcy hes st t2 hek y5 (by rw [vyu]; exact undef_vr) (hnm hcy (opE L.sy hpy.op))
  rw [dy] at I2
  have I2 : Inv T m N call ops cl (hiOf ops cl bs) bs s0 tr sn g0 a0 w0 (listed.setIfInBounds ey.i true) a (setL w by' (py + qy) uy) g A' B'' sA' := I2
  have hset : ∀ j, (listed.setIfInBounds ey.i true).getD j false = if j = ey.i then true else listed.getD j false := fun j => getD_set _ _ _ (by rw [I.size]; exact idx_lt hoy)
  have hxl : (listed.setIfInBounds ey.i true).getD ex.i false = false := by rw [hset, if_neg (fun e => L.ne e.symm)]; exact hx
  have hall2 : ∀ i, i < ops.size → i ≠ ex.i → (listed.setIfInBounds ey.i true).getD i false = true := fun i hi hix => by
    rw [hset]
    split
    · rfl
    · rename_i hne
      exact hall i hi hix hne
  -- x
  have hox := hzx
  obtain ⟨cx, hcx, hpx, _, hax⟩ := I2.entry hcl hst hor hmap htr hG F0 hex hox hxl fun j p d hj hd hb => hall2 j (idx_lt hj) fun e => by
    rw [e, hox] at hj
    cases hj
    have hd : ox.dst = some d := hd
    rw [dx] at hd
    cases hd
  have hpxo : ∃ os, compOp T ox.op = some (cx.op, os) ∧ mapO (opd T m) os = some cx.args := hpx.op
  have hEx : isEAt cl ex.i = true := by rw [isEAt_eq hcx]; exact opE L.sx hpxo
  have inTr : ∀ j, j ∈ ord → j < ops.size := by
    intro j hj
    rw [← hmap, List.mem_map] at hj
    obtain ⟨e3, he3, rfl⟩ := hj
    obtain ⟨z1, z2, e4⟩ := List.append_of_mem he3
    have htr2 := htr
    rw [e4] at htr2
    obtain ⟨s', _, t1⟩ := Trace.split htr2
    obtain ⟨_, _, c3, _, hc3, _⟩ := t1.head
    obtain ⟨o3, ho3, _⟩ := hcl _ _ hc3
    exact idx_lt ho3
  have hbefx : ∀ j, bit (bitsAt bs ex.i) j = true → (listed.setIfInBounds ey.i true).getD j false = true := fun j hb => by
    obtain ⟨s1', s2', e2⟩ := List.append_of_mem hex
    have hin := hor.pre (s1'.map (·.i)) ex.i (s2'.map (·.i)) (by rw [← hmap, e2]; simp)
    refine hall2 j (inTr j ?_) fun e => ?_
    · rw [← hmap, e2, List.map_append]
      exact List.mem_append_left _ (hin.1 j hb)
    · subst e
      exact hin.2.1 (hin.1 _ hb)
  obtain ⟨B3, hB3⟩ := I2.headE hor hmap hex hEx hxl fun j _ hb => hbefx j hb
  subst hB3
  obtain ⟨hesx, hekx, c2, s2, hc2, stx, t3⟩ := I2.tB.head
  rw [hcx] at hc2
  cases hc2
  have hgx : cx.guard = none := by
    rcases hpx.guard with ⟨_, q⟩ | ⟨_, _, _, _, q, _⟩
    · exact q
    · have q : ox.guard = _ := q
      rw [gx] at q; cases q
  obtain ⟨ax, rx, ix, qx, bx, zx', ux, px, x1, x2, x3, x4, x5, x6, x7, x8⟩ := st_step (c := { cx with lo := nE cl A', hi := hiOf ops cl bs ex.i }) (o := ox) hpxo L.sx hgx stx I2.wr fun vs os k1 k2 k3 => hax vs os k1 k2 (by rw [hesx]; exact k3)
  have vxu := valOf stx (storeOp L.sx hpxo)
  obtain ⟨A3, B4, sA3, I3⟩ := I2.write (u := undef) hst hor hmap hEx hox hxl hbefx hpx.dst hcx hesx stx t3 hekx x5 (by rw [vxu]; exact undef_vr) (hnm hcx (opE L.sx hpxo))
  have dx' : ({ ox with after := zx } : Oper).dst = none := dx
  rw [dx'] at I3
  have I3 : Inv T m N call ops cl (hiOf ops cl bs) bs s0 tr sn g0 a0 w0 ((listed.setIfInBounds ey.i true).setIfInBounds ex.i true) a (setL (setL w by' (py + qy) uy) bx (px + qx) ux) g A3 B4 sA3 := I3
  have hall3 : ∀ i, i < ops.size → ((listed.setIfInBounds ey.i true).setIfInBounds ex.i true).getD i false = true := fun i hi => by
    rw [getD_set _ _ _ (by rw [Array.size_setIfInBounds, I.size]; exact idx_lt hox)]
    split
    · rfl
    · rename_i hne
      exact hall2 i hi hne
  obtain ⟨d1, d2, d3⟩ := I3.done hor hmap hcl hst F0 hall3
  -- nothing stands between, and nothing behind
  have only : ∀ e ∈ B', e = ex := by
    intro e he
    have hu : listed.getD e.i false = false := I.unA hor hmap (List.mem_cons_of_mem _ he)
    have hey2 : e.i ≠ ey.i := fun h => by
      obtain ⟨r1, r2, e5⟩ := List.append_of_mem he
      have := (hor.pre ((A ++ ey :: r1).map (·.i)) e.i (r2.map (·.i)) (by rw [← hmap, I.tr, e5]; simp)).2.1
      exact this (by rw [h]; simp)
    have hlt : e.i < ops.size := inTr _ (by rw [← hmap, I.tr]; simp only [List.map_append, List.map_cons, List.mem_append, List.mem_cons]; exact .inr (.inr (List.mem_map.2 ⟨e, he, rfl⟩)))
    have heix : e.i = ex.i := by
      by_cases h : e.i = ex.i
      · exact h
      · rw [hall e.i hlt h hey2] at hu
        cases hu
    exact ent_unique hor hmap (by rw [I.tr]; exact List.mem_append_right _ (List.mem_cons_of_mem _ he)) hex heix
  have hexB : ex ∈ B' := by
    have h := hex
    rw [I.tr, List.mem_append, List.mem_cons] at h
    rcases h with h | h | h
    · have := I.es ex h hEx
      rw [hx] at this
      cases this
    · rw [h] at hEx
      exact absurd (by rw [h]) L.ne
    · exact h
  have hB'1 : B' = [ex] := by
    cases hBB : B' with
    | nil => rw [hBB] at hexB; cases hexB
    | cons b B5 =>
      have hb : b = ex := only b (by rw [hBB]; exact List.mem_cons_self)
      cases hB5 : B5 with
      | nil => rw [hb]
      | cons b2 B6 =>
        have hb2 : b2 = ex := only b2 (by rw [hBB, hB5]; simp)
        have := (hor.pre ((A ++ [ey, b]).map (·.i)) b2.i (B6.map (·.i)) (by rw [← hmap, I.tr, hBB, hB5]; simp)).2.1
        exact absurd (by rw [hb, hb2]; simp) this
  rw [hB'1] at t2
  obtain ⟨hes1, _, c4, s4, hc4, st4, t4⟩ := t2.head
  rw [hcx] at hc4
  cases hc4
  cases t4
  have cdst : ∀ {o : Oper} {c : COper}, o.dst = none → dst m N o.dst = some c.dst → c.dst = .no := by
    intro o c h1 h2
    rw [h1] at h2
    exact (Option.some.inj h2).symm
  have f1 : s1.f = sA.f := by
    rw [st.f]
    show cy.dst.put sA.f ey.v = sA.f
    rw [cdst dy hpy.dst]
    rfl
  have f4 : sn.f = ex.s.f := by
    rw [st4.f, hes1]
    show cx.dst.put s1.f ex.v = s1.f
    rw [cdst dx' hpx.dst]
    rfl
  have hsA' : sA' = s1 := by rw [← hesx, hes1]
  obtain ⟨i1, p1, j1, q1, k1, k2, k3⟩ := hap cx cy ax rx ay ry hcx hcy x1 y1
  have e1 : ix = i1 := by
    rw [f4, hesx] at k1
    rw [x2] at k1
    cases k1
    rfl
  have e2 : iy = j1 := by
    rw [f4, hes1, f1] at k2
    rw [y2] at k2
    cases k2
    rfl
  have hbne : bx ≠ by' := solo_ne I2.wr (by rw [e1, e2]; exact k3) x3 y3 x7 (by rw [hsA']; exact y8)
  exact ⟨bx, _, ux, by', _, uy, hbne, x4, y4, x6.of (setL_ne hbne uy w _).symm, y6, d1, d2, d3⟩
end
end
end Ev
end Go.Proofs.YtogbcielgfidlaaGreatDoor
namespace Go.Proofs.YtogbcielgfidlaaGreatDoor
set_option linter.unusedVariables false
set_option linter.unusedSimpArgs false
namespace Ev
variable [Opq]
set_option linter.unusedSectionVars false
section
variable {P : Program} {T : Ty} {m N : Nat}
variable {call : CallT} {ops0 ops : Array Oper} {cl : List COper} {bs bs0 ord : List Nat} {s0 sn : St} {tr : List Ent} {g0 : G} {a0 : Act} {w0 : World} {x y : Nat} {ox oy : Oper}

theorem eval_same {a a' : Act} {l : List Operand} (h : ∀ t ∈ tmpsOf l, a'.tmps[t]? = a.tmps[t]?) : ∀ z ∈ l, a'.eval z = a.eval z := by
  intro z hz
  cases z with
  | tmp t =>
    have := h t (List.mem_filterMap.2 ⟨.tmp t, hz, rfl⟩)
    simp only [Act.eval, Array.getD_eq_getD_getElem?, this]
  | _ => rfl
theorem gives_wp {op0 : Array Oper} {rd : Option Nat} {i : Nat} {o : Oper} {a : Act} {w : World} {u : Value} (ho : op0[i]? = some o) (hg : o.guard = none) (hd : ∀ c, o.op ≠ .defer c) (h : Gives P a.eval o.op u) {K : Act → World → Prop} {Q : Exit → Act → World → Prop}
    (k : K (a.put o.dst u) w) : wpOpIn (fen rd) 0 P op0 Q i K a w := by
  unfold wpOpIn
  simp only [ho]
  have hw : Region.wanted o (yielded op0 a.tmps) = true := by simp [Region.wanted, hg]
  rw [if_pos hw]
  refine ⟨fun _ _ => trivial, ?_⟩
  rw [Oper.semAt_eq _ _ _ hd, h w o rfl, Oper.uponIn_value]
  exact k
theorem pure_defer {o : Oper} (h : pureO o.op = true) : ∀ c, o.op ≠ .defer c := fun c e => by rw [e] at h; cases h

/-- x has been carried out ahead of y. -/
theorem early (hT : TyOk P T) (L : LateH T ops0 ops bs x y ox oy) (hcl : ∀ (i : Nat) c, cl[i]? = some c → ∃ o, ops[i]? = some o ∧ Parts T m N ops o c) (hst : Static T ops bs) (hst0 : Static T ops0 bs0) (hor : Order ops cl bs ord) (hmap : tr.map (·.i) = ord) (htr : Trace call cl (hiOf ops cl bs) 0 s0 tr sn)
    (hG : Glob T g0 s0.h) (F0 : FR g0 m N s0.f a0.tmps)
    (hap : ∀ cx cy ax rx ay ry, cl[x]? = some cx → cl[y]? = some cy → cx.args = ax :: rx → cy.args = ay :: ry → ∃ i p j q, ax.ev sn.f = some (.ptr i p) ∧ ay.ev sn.f = some (.ptr j q) ∧ i ≠ j) (hyx : bit (bitsAt bs y) x = false)
    {rd : Option Nat} {Q : Exit → Act → World → Prop} (hQ : ∀ g' a' w', Ext T g0 s0.h w0 g' sn.h w' → FR g' m N sn.f a'.tmps → a'.defers = a0.defers → Q .normal a' w') {w : World} {g : G} {A B : List Ent} {sA : St} {bx px : Nat} {ux : List Value} :
    ∀ (fuel : Nat) (listed : Array Bool) (a : Act), Inv T m N call ops cl (hiOf ops cl bs) bs s0 tr sn g0 a0 w0 listed a w g A B sA → listed.getD x false = false → listed.getD y false = false →
      (∀ (i : Nat) o, ops0[i]? = some o → listed.getD i false = false → i ≠ x → i ≠ y → PlainP bs y ox o i) → StAt T ox a.eval bx px ux → left ops0 (listed.setIfInBounds x true) ≤ fuel →
      wpAnyIn (fen rd) 0 P .any ops0 Q fuel (listed.setIfInBounds x true) a (setL w bx px ux) := by
  intro fuel
  have hoy : ops[y]? = some oy := by rw [L.same y L.ne]; exact L.gy
  induction fuel with
  | zero =>
    intro listed a I hx hy hU hs hleft
    have h1 := left_zero (Nat.le_zero.1 hleft) y (idx_lt L.gy)
    rw [getD_set _ _ _ (by rw [I.size, L.size]; exact idx_lt L.gx), if_neg L.ne, hy] at h1
    cases h1
  | succ fuel ih =>
    intro listed a I hx hy hU hs hleft
    have hsz : (listed.setIfInBounds x true).size = ops0.size := by rw [Array.size_setIfInBounds, I.size, L.size]
    have hset : ∀ j, (listed.setIfInBounds x true).getD j false = if j = x then true else listed.getD j false := fun j => getD_set _ _ _ (by rw [I.size, L.size]; exact idx_lt L.gx)
    refine ⟨fun hn => ?_, fun i hi => ?_⟩
    · have h1 := ready_nil hst0 hsz hn y (idx_lt L.gy)
      rw [hset, if_neg L.ne, hy] at h1
      cases h1
    · obtain ⟨hlt, hl, o, ho, hedge⟩ := ready_mem hsz hi
      have hix : i ≠ x := fun e => by
        rw [hset, if_pos e] at hl
        cases hl
      rw [hset, if_neg hix] at hl
      have hoi : ops[i]? = some o := by rw [L.same i hix]; exact ho
      have hon : ∀ e ∈ o.after.toList, bindsE e = true → listed.getD e.on false = true := fun e he hb => by
        have := hedge e he hb
        rw [hset, if_neg (L.edge i o ho hix e he hb)] at this
        exact this
      have hbef : ∀ j, bit (bitsAt bs i) j = true → listed.getD j false = true := fun j hj => by
        obtain ⟨e, he, hb, h⟩ := hst.before i o hoi j hj
        rcases h with rfl | h
        · exact hon e he hb
        · exact I.closed _ (hon e he hb) _ h
      by_cases hiy : i = y
      · subst hiy
        have hall : ∀ j, j < ops.size → j ≠ x → j ≠ i → listed.getD j false = true := fun j hj hjx hji => by
          cases hlj : listed.getD j false with
          | true => rfl
          | false =>
            have hj0 : j < ops0.size := by rw [← L.size]; exact hj
            have hoj : ops0[j]? = some ops0[j] := Array.getElem?_eq_getElem hj0
            have := hbef j (hU j _ hoj hlj hjx hji).bit
            rw [hlj] at this
            cases this
        obtain ⟨bx', px', ux', by', py, uy, k1, k2, k3, k4, k5, k6, k7, k8⟩ := look2 hT L hcl hst hor hmap htr hG F0 hap I hx hy hall hyx
        obtain ⟨rfl, rfl, rfl⟩ := hs.same k2 fun _ _ => rfl
        obtain ⟨dy, gy⟩ := storeO_dst L.sy
        refine StAt.op hT k3 dy gy L.gy (k5.of (setL_ne (fun e => k1 e.symm) _ _ _)) ?_
        rw [setL_comm k1]
        have hall2 : ∀ j, j < ops0.size → ((listed.setIfInBounds x true).setIfInBounds i true).getD j false = true := fun j hj => by
          rw [getD_set _ _ _ (by rw [hsz]; exact idx_lt L.gy)]
          split
          · rfl
          · rename_i hji
            rw [hset]
            split
            · rfl
            · rename_i hjx
              exact hall j (by rw [L.size]; exact hj) hjx hji
        refine wpAnyIn_done ?_ (hQ _ _ _ k6 k7 k8) fuel
        unfold Region.ready
        rw [List.filter_eq_nil_iff]
        intro j hj
        rw [List.mem_range] at hj
        have h1 := hall2 j hj
        have hj' : j < ((listed.setIfInBounds x true).setIfInBounds i true).size := by rw [Array.size_setIfInBounds, hsz]; exact hj
        rw [Array.getD_eq_getD_getElem?, Array.getElem?_eq_getElem hj'] at h1
        rw [Array.getD_eq_getD_getElem?, Array.getElem?_eq_getElem hj']
        simp only [Option.getD_some] at h1 ⊢
        rw [h1]
        simp
      · have pl := hU i o ho hl hix hiy
        obtain ⟨u, hu, I'⟩ := I.plain hT hcl hst hor hmap htr hG F0 (by rw [L.size]; exact hlt) hoi hl hbef pl.op pl.guard
        refine gives_wp ho pl.guard (pure_defer pl.op) hu ?_
        have hset2 : ∀ j, (listed.setIfInBounds i true).getD j false = if j = i then true else listed.getD j false := fun j => getD_set _ _ _ (by rw [I.size, L.size]; exact hlt)
        rw [Array.setIfInBounds_comm _ _ (fun e => hix e.symm)]
        refine ih _ _ I' (by rw [hset2, if_neg (fun e => hix e.symm)]; exact hx) (by rw [hset2, if_neg (fun e => hiy e.symm)]; exact hy) (fun j oj hj hlj hjx hjy => ?_) (hs.congr fun z hz => ?_) ?_
        · rw [hset2] at hlj
          split at hlj
          · cases hlj
          · exact hU j oj hj hlj hjx hjy
        · refine Act.eval_put fun d hd hzd => ?_
          subst hzd
          exact pl.dst d hd (List.mem_filterMap.2 ⟨.tmp d, hz, rfl⟩)
        · rw [← Array.setIfInBounds_comm _ _ (fun e => hix e.symm)]
          have := left_set (ops := ops0) (listed := listed.setIfInBounds x true) hsz hlt (by rw [hset, if_neg hix]; exact hl)
          omega

theorem late_steps (hT : TyOk P T) (hk : CallOk P T call) (L : LateH T ops0 ops bs x y ox oy) (hcl : ∀ (i : Nat) c, cl[i]? = some c → ∃ o, ops[i]? = some o ∧ Parts T m N ops o c) (hst : Static T ops bs) (hst0 : Static T ops0 bs0) (hor : Order ops cl bs ord) (hmap : tr.map (·.i) = ord) (htr : Trace call cl (hiOf ops cl bs) 0 s0 tr sn)
    (hs0 : s0.hs = []) (hchk : Checked sn.cs (revL sn.hs [sn.h])) (hG : Glob T g0 s0.h) (F0 : FR g0 m N s0.f a0.tmps)
    (hap : ∀ cx cy ax rx ay ry, cl[x]? = some cx → cl[y]? = some cy → cx.args = ax :: rx → cy.args = ay :: ry → ∃ i p j q, ax.ev sn.f = some (.ptr i p) ∧ ay.ev sn.f = some (.ptr j q) ∧ i ≠ j) (hyx : bit (bitsAt bs y) x = false)
    {rd : Option Nat} {Q : Exit → Act → World → Prop} (hQ : ∀ g' a' w', Ext T g0 s0.h w0 g' sn.h w' → FR g' m N sn.f a'.tmps → a'.defers = a0.defers → Q .normal a' w') : ∀ (fuel : Nat) (listed : Array Bool) (a : Act) (w : World) (g : G) (A B : List Ent) (sA : St),
    Inv T m N call ops cl (hiOf ops cl bs) bs s0 tr sn g0 a0 w0 listed a w g A B sA → left ops0 listed ≤ fuel → wpAnyIn (fen rd) 0 P .any ops0 Q fuel listed a w := by
  intro fuel
  have hoy : ops[y]? = some oy := by rw [L.same y L.ne]; exact L.gy
  obtain ⟨z, hz, hza⟩ := L.atx
  induction fuel with
  | zero =>
    intro listed a w g A B sA I hf
    have hall := left_zero (Nat.le_zero.1 hf)
    obtain ⟨x1, x2, x3⟩ := I.done hor hmap hcl hst F0 (by rw [L.size]; exact hall)
    refine wpAnyIn_done ?_ (hQ _ _ _ x1 x2 x3) 0
    unfold Region.ready
    rw [List.filter_eq_nil_iff]
    intro i hi
    rw [List.mem_range] at hi
    have := hall i hi
    rw [Array.getD_eq_getD_getElem?, Array.getElem?_eq_getElem (by rw [I.size, L.size]; exact hi)] at this
    rw [Array.getD_eq_getD_getElem?, Array.getElem?_eq_getElem (by rw [I.size, L.size]; exact hi)]
    simp only [Option.getD_some] at this ⊢
    rw [this]
    simp
  | succ fuel ih =>
    intro listed a w g A B sA I hf
    have hsz : listed.size = ops0.size := by rw [I.size, L.size]
    refine ⟨fun hn => ?_, fun i hi => ?_⟩
    · obtain ⟨x1, x2, x3⟩ := I.done hor hmap hcl hst F0 (by rw [L.size]; exact ready_nil hst0 hsz hn)
      exact hQ _ _ _ x1 x2 x3
    · obtain ⟨hlt, hl, o, ho, hedge⟩ := ready_mem hsz hi
      have hleft : left ops0 (listed.setIfInBounds i true) ≤ fuel := by
        have := left_set hsz hlt hl
        omega
      by_cases hix : i = x
      · subst hix
        have := L.gx
        rw [ho] at this
        cases this
        by_cases hy : listed.getD y false = true
        · refine L.op ho (draw_step hT hk hcl hst hor hmap htr hs0 hchk hG F0 I (by rw [L.size]; exact hlt) hl hz (fun j hj => ?_) fun a w g A B sA I' => ih _ _ _ _ _ _ _ I' hleft)
          obtain ⟨e, he, hb, h⟩ := hst.before i _ hz j hj
          have hon : listed.getD e.on false = true := by
            rcases hza e he hb with q | q
            · exact hedge e q hb
            · rw [q]; exact hy
          rcases h with rfl | h
          · exact hon
          · exact I.closed _ hon _ h
        · have hy' : listed.getD y false = false := by simpa using hy
          have hU : ∀ (j : Nat) oj, ops0[j]? = some oj → listed.getD j false = false → j ≠ i → j ≠ y → PlainP bs y ox oj j := fun j oj hj hlj hjx hjy => by
            rcases L.other j oj hj hjx hjy with q | q
            · obtain ⟨e, he, hb, h⟩ := mem_beforeOf q
              have hon := hedge e he hb
              rcases h with rfl | h
              · rw [hlj] at hon; cases hon
              · have := I.closed _ hon _ h
                rw [hlj] at this; cases this
            · exact q
          obtain ⟨l', a', I', hx', hyl, hall, hk'⟩ := look (x := i) (y := y) (ox := ox) hT hcl hst hor hmap htr hG F0 (left ops listed) (Nat.le_refl _) I hl hy' fun j oj hj hlj hjx hjy => by
            rw [L.same j hjx] at hj
            exact ⟨hU j oj hj hlj hjx hjy, L.edge j oj hj hjx⟩
          obtain ⟨bx, px, ux, by', py, uy, k1, k2, k3, k4, k5, k6, k7, k8⟩ := look2 hT L hcl hst hor hmap htr hG F0 hap I' hx' hyl hall hyx
          obtain ⟨dx, gx⟩ := storeO_dst L.sx
          have hs : StAt T ox a.eval bx px ux := k2.congr fun t ht => (eval_same (a := a) (a' := a') (l := ox.op.operands.toList) (fun t ht => hk' t fun j oj hj hlj hjx hjy hd => by
            rw [L.same j hjx] at hj
            exact (hU j oj hj hlj hjx hjy).dst t hd ht) t ht).symm
          exact StAt.op hT hs dx gx ho k4 (early hT L hcl hst hst0 hor hmap htr hG F0 hap hyx hQ fuel listed a I hl hy' hU hs hleft)
      · have hoi : ops[i]? = some o := by rw [L.same i hix]; exact ho
        refine L.op ho (draw_step hT hk hcl hst hor hmap htr hs0 hchk hG F0 I (by rw [L.size]; exact hlt) hl hoi (fun j hj => ?_) fun a w g A B sA I' => ih _ _ _ _ _ _ _ I' hleft)
        obtain ⟨e, he, hb, h⟩ := hst.before i o hoi j hj
        rcases h with rfl | h
        · exact hedge e he hb
        · exact I.closed _ (hedge e he hb) _ h

theorem runOpsD_append {call : CallT} : ∀ {l l' : List COper} {s s' : St}, runOpsD call (l ++ l') s = some s' → ∃ s1, runOpsD call l s = some s1 ∧ runOpsD call l' s1 = some s'
  | [], _, s, _, h => ⟨s, rfl, h⟩
  | o :: l, l', s, s', h => by
    obtain ⟨s1, h1, h2⟩ := ob_some.1 (show ob (o.runD call s) (runOpsD call (l ++ l')) = some s' from h)
    obtain ⟨s2, h3, h4⟩ := runOpsD_append h2
    exact ⟨s2, ob_some.2 ⟨s1, h1, h3⟩, h4⟩
theorem quiet_append (p : POp) (d : Dst) (as : List Opd) : ∀ l : List COper, quiet (l ++ [⟨d, .p p, as, none, 0, 0⟩]) = quiet l
  | [] => rfl
  | o :: l => by
    rw [List.cons_append, quiet_cons, quiet_cons, quiet_append p d as l]
theorem apart_inv {v1 v2 r : V} (h : POp.run (.eqd .ap false) [v1, v2] = some r) : ∃ i p j q, v1 = .ptr i p ∧ v2 = .ptr j q ∧ i ≠ j := by
  obtain ⟨b, h1, _⟩ := ob_some.1 (show ob (eqD .ap v1 v2) (fun r => some (.bool (Bool.rec (motive := fun _ => Bool) r (!r) false))) = some r from h)
  cases v1 with
  | ptr i p =>
    cases v2 with
    | ptr j q =>
      obtain ⟨h2, _⟩ := oif_some.1 (show oif (!Nat.beq i j) (some true) = some b from h1)
      exact ⟨i, p, j, q, rfl, rfl, fun e => by subst e; simp at h2⟩
    | _ => cases h1
  | _ => cases v2 <;> cases h1

theorem late_ok (hT : TyOk P T) (hk : CallOk P T call) (hm : P.follows .mixedOrders = true) {id : Nat} {l : List COper} (hcl0 : mapO (compOper T m N ops0) ops0.toList = some cl) (hd : lateD T cl ops0 = some l) {f0 : F} {h0 : H} {s : St} (hr : runOpsD call l ⟨f0, h0, [], []⟩ = some s) (hchk : (Bool.rec (motive := fun _ => Bool) (checkAll s.cs (revL s.hs [s.h])) true (quiet l) : Bool) = true)
    {g : G} {a : Act} {w : World} (r : WR T g h0 w) (hG : Glob T g h0) (F0 : FR g m N f0 a.tmps) {rd : Option Nat} {Q : Exit → Act → World → Prop}
    (hQ : ∀ g' a' w', Ext T g h0 w g' s.h w' → FR g' m N s.f a'.tmps → a'.defers = a.defers → Q .normal a' w') : (Code.region id ops0 true).wpIn (fen rd) 0 P Q a w := by
  unfold lateD at hd
  cases hl1 : revL ((List.range ops0.size).filter (isEAt cl)) [] with
  | nil => rw [hl1] at hd; cases hd
  | cons x l1 =>
    rw [hl1] at hd
    cases l1 with
    | nil => cases hd
    | cons y l2 =>
      obtain ⟨c1, c2⟩ := oif_some.1 (show oif (regionOk T ops0 (befores ops0.toList) && lateOk T ops0 (befores (lateOps ops0 x y).toList) x y) (ob (compD T cl (lateOps ops0 x y)) fun l => ob (adrOf cl x) fun a => ob (adrOf cl y) fun b => some (l ++ [⟨.no, .p (.eqd .ap false), [a, b], none, 0, 0⟩])) = some l from hd)
      rw [Bool.and_eq_true] at c1
      have hst0 := static_ok c1.1
      obtain ⟨ox, oy, L⟩ := lateOk_ok c1.2
      obtain ⟨l0, c3, c4⟩ := ob_some.1 c2
      obtain ⟨ax, c5, c6⟩ := ob_some.1 c4
      obtain ⟨ay, c7, c8⟩ := ob_some.1 c6
      cases c8
      obtain ⟨ord, hst, hor, hlh⟩ := compD_at c3
      obtain ⟨sn, hr1, hr2⟩ := runOpsD_append hr
      obtain ⟨s9, hr3, hr4⟩ := ob_some.1 (show ob (COper.runD call ⟨.no, .p (.eqd .ap false), [ax, ay], none, 0, 0⟩ sn) (runOpsD call []) = some s from hr2)
      cases hr4
      obtain ⟨v9, st9⟩ := step_of hr3
      have f9 : s.f = sn.f := st9.f
      have hs9 : s.hs = sn.hs := st9.hs
      obtain ⟨v1, v2, ⟨k1, k2, r9, k3⟩, h9, cs9⟩ : ∃ v1 v2, (ax.ev sn.f = some v1 ∧ ay.ev sn.f = some v2 ∧ ∃ r, POp.run (.eqd .ap false) [v1, v2] = some r) ∧ s.h = sn.h ∧ s.cs = sn.cs := by
        rcases st9.main with ⟨q, _⟩ | ⟨vs, _, q2, q3, _, q5⟩
        · cases q
        · have q2 : evs sn.f [ax, ay] = some vs := q2
          obtain ⟨v1, z1, z2⟩ := ob_some.1 (show ob (ax.ev sn.f) (fun v => ob (evs sn.f [ay]) fun vs => some (v :: vs)) = some vs from q2)
          obtain ⟨vs2, z3, z4⟩ := ob_some.1 z2
          obtain ⟨v2, z5, z6⟩ := ob_some.1 (show ob (ay.ev sn.f) (fun v => ob (evs sn.f []) fun vs => some (v :: vs)) = some vs2 from z3)
          cases z6
          cases z4
          obtain ⟨r9, z7, z8⟩ := ob_some.1 (show ob (POp.run (.eqd .ap false) [v1, v2]) (fun v => some (v, sn.h)) = some (v9, s.h) from q3)
          exact ⟨v1, v2, ⟨z1, z5, r9, z7⟩, (Prod.mk.inj (Option.some.inj z8)).2.symm, q5 fun q e => by cases e⟩
      obtain ⟨i, p, j, q, rfl, rfl, hij⟩ := apart_inv k3
      have hap : ∀ cx cy ax' rx ay' ry, cl[x]? = some cx → cl[y]? = some cy → cx.args = ax' :: rx → cy.args = ay' :: ry → ∃ i p j q, ax'.ev sn.f = some (.ptr i p) ∧ ay'.ev sn.f = some (.ptr j q) ∧ i ≠ j := by
        intro cx cy ax' rx ay' ry g1 g2 g3 g4
        have adr : ∀ {z : Nat} {c : COper} {b b' : Opd} {rb : List Opd}, adrOf cl z = some b → cl[z]? = some c → c.args = b' :: rb → b' = b := by
          intro z c b b' rb m1 m2 m3
          obtain ⟨c', m4, m5⟩ := ob_some.1 (show ob (nthL cl z) (fun c => caseL c.args none fun a _ => some a) = some b from m1)
          rw [nthL_eq, m2] at m4
          cases m4
          rw [m3] at m5
          exact (Option.some.inj m5)
        rw [adr c5 g1 g3, adr c7 g2 g4]
        exact ⟨i, p, j, q, k1, k2, hij⟩
      rw [quiet_append, cs9, hs9, h9] at hchk
      rw [h9, f9] at hQ
      have hcl : ∀ (i : Nat) c, cl[i]? = some c → ∃ o, (lateOps ops0 x y)[i]? = some o ∧ Parts T m N (lateOps ops0 x y) o c := by
        intro i c hc
        obtain ⟨hlen, hall⟩ := mapO_some hcl0
        have hi : i < ops0.toList.length := by
          rw [← hlen]
          rcases Nat.lt_or_ge i cl.length with k | k
          · exact k
          · rw [List.getElem?_eq_none k] at hc; cases hc
        obtain ⟨b, h1, h2⟩ := hall i _ (List.getElem?_eq_getElem hi)
        rw [hc] at h1
        cases h1
        have ho0 : ops0[i]? = some ops0.toList[i] := by rw [← Array.getElem?_toList]; exact List.getElem?_eq_getElem hi
        obtain ⟨z, hz⟩ := L.at' i ho0
        have hp := compOper_parts h2
        have hgd : ∀ j, gdOf (lateOps ops0 x y) j = gdOf ops0 j := by
          intro j
          unfold gdOf
          by_cases hj : j = x
          · subst hj
            obtain ⟨z, hz, _⟩ := L.atx
            rw [hz, L.gx]
            rfl
          · rw [L.same j hj]
        refine ⟨_, hz, hp.op, hp.dst, ?_⟩
        rcases hp.guard with q | ⟨i', w', t, x', q1, q2, q3, q4⟩
        · exact .inl q
        · exact .inr ⟨i', w', t, x', q1, by rw [hgd]; exact q2, q3, q4⟩
      obtain ⟨tr, htr, hmap⟩ := trace_of hlh hr1
      have hyx : bit (bitsAt (befores (lateOps ops0 x y).toList) y) x = false := by
        cases hb : bit (bitsAt (befores (lateOps ops0 x y).toList) y) x with
        | false => rfl
        | true =>
          have hoy : (lateOps ops0 x y)[y]? = some oy := by rw [L.same y L.ne]; exact L.gy
          obtain ⟨e, he, hbi, h⟩ := hst.before y oy hoy x hb
          exfalso
          have back : ∀ (n i : Nat) (o : Oper), i ≤ n → (lateOps ops0 x y)[i]? = some o → i ≠ x → bit (bitsAt (befores (lateOps ops0 x y).toList) i) x = true → False := by
            intro n
            induction n with
            | zero =>
              intro i o hi ho hix hb
              obtain ⟨e, he, hbi, h⟩ := hst.before i o ho x hb
              have := hst.back i o ho e he hbi
              omega
            | succ n ih =>
              intro i o hi ho hix hb
              obtain ⟨e, he, hbi, h⟩ := hst.before i o ho x hb
              have h1 := hst.back i o ho e he hbi
              have hex : e.on ≠ x := L.edge i o (by rw [← L.same i hix]; exact ho) hix e he hbi
              rcases h with h | h
              · exact hex h.symm
              · have hlt : e.on < (lateOps ops0 x y).size := Nat.lt_trans h1 (idx_lt ho)
                exact ih e.on _ (by omega) (Array.getElem?_eq_getElem hlt) hex h
          exact back y y oy (Nat.le_refl _) hoy L.ne hb
      refine wpIn_region_any hm ?_
      have r1 : WR T g h0 { w with drawn := w.drawn + 1 } := r.drew1
      obtain ⟨S, B', s', q1, q2, q3, q4, q5, q6, q7, q8, q9, q10⟩ := seg_ok htr (g := g) (w := { w with drawn := w.drawn + 1 }) r1
      have hx0 : Ext T g h0 w g h0 { w with drawn := w.drawn + 1 } := ⟨g.le_refl, Nat.le_refl _, r1, fun _ _ e => ⟨e, rfl⟩, Nat.le_refl _, fun _ _ _ => rfl, (fun id b o z h1 h2 => by rw [h2] at h1; cases h1), fun _ _ _ _ _ _ _ e => ⟨e, rfl⟩, rfl, rfl, rfl⟩
      have getD0 : ∀ i, (Array.replicate ops0.size false).getD i false = false := by
        intro i
        rw [Array.getD_eq_getD_getElem?, Array.getElem?_replicate]
        split <;> rfl
      have hnE : nE cl S = 0 := by
        unfold nE
        rw [List.length_eq_zero_iff, List.filter_eq_nil_iff]
        intro y hy
        rw [q5 y hy]
        decide
      have I : Inv T m N call (lateOps ops0 x y) cl (hiOf (lateOps ops0 x y) cl (befores (lateOps ops0 x y).toList)) (befores (lateOps ops0 x y).toList) ⟨f0, h0, [], []⟩ tr sn g a w (Array.replicate ops0.size false) a { w with drawn := w.drawn + 1 } g S B' s' :=
        ⟨q1, q2, by rw [hnE]; exact q3, q4, q6, hx0.mem q6 q7 q8, by simp [L.size], (fun i hi => by rw [getD0] at hi; cases hi), (fun e he hE => by rw [q5 e he] at hE; cases hE), (fun i hi => by rw [getD0] at hi; cases hi), F0.1, fun _ _ => rfl, (fun e _ hl => by rw [getD0] at hl; cases hl),
          (fun e he blk hm _ => by
            obtain ⟨z1, z2, z3⟩ := q9 e he blk hm
            refine ⟨?_, z3, z1⟩
            cases hg : g e.s.h.next with
            | none => rfl
            | some p => exact absurd (r.dom _ _ hg) (by have z1 : h0.next ≤ e.s.h.next := z1; omega)), (fun e he blk hm => (q9 e he blk hm).2.1), q10, rfl⟩
      refine late_steps hT hk L hcl hst hst0 hor hmap htr rfl (checked_ok hr1 hchk) hG F0 hap hyx hQ ops0.size _ a _ g S B' s' I ?_
      unfold left
      refine Nat.le_trans (List.length_filter_le _ _) ?_
      simp
theorem draw_ok2 (hT : TyOk P T) (hk : CallOk P T call) (hm : P.follows .mixedOrders = true) {id : Nat} {l : List COper} (hcl0 : mapO (compOper T m N ops0) ops0.toList = some cl) (hd : compD2 T cl ops0 = some l) {f0 : F} {h0 : H} {s : St} (hr : runOpsD call l ⟨f0, h0, [], []⟩ = some s) (hchk : (Bool.rec (motive := fun _ => Bool) (checkAll s.cs (revL s.hs [s.h])) true (quiet l) : Bool) = true)
    {g : G} {a : Act} {w : World} (r : WR T g h0 w) (hG : Glob T g h0) (F0 : FR g m N f0 a.tmps) {rd : Option Nat} {Q : Exit → Act → World → Prop}
    (hQ : ∀ g' a' w', Ext T g h0 w g' s.h w' → FR g' m N s.f a'.tmps → a'.defers = a.defers → Q .normal a' w') : (Code.region id ops0 true).wpIn (fen rd) 0 P Q a w := by
  unfold compD2 at hd
  cases hc : compD T cl ops0 with
  | some l1 =>
    rw [hc] at hd
    cases hd
    exact draw_ok hT hk hm hcl0 hc hr hchk r hG F0 hQ
  | none =>
    rw [hc] at hd
    exact late_ok hT hk hm hcl0 hd hr hchk r hG F0 hQ
end
end Ev
end Go.Proofs.YtogbcielgfidlaaGreatDoor
