/-
  Values as trees: what is only read, in whatever world it lies.
-/
import Derived.Test.YtbfkbabolhhbaaaGreatDoorEvCall
namespace Go.Proofs.YtbfkbabolhhbaaaGreatDoor
namespace Ev
/-- The world has grown, and nothing else. -/
structure Still (w w' : World) : Prop where
  size : w.heap.size ≤ w'.heap.size
  keep : ∀ b : Nat, b < w.heap.size → w'.heap[b]? = w.heap[b]?
  os : w'.os = w.os
  tape : w'.tape = w.tape
  output : w'.output = w.output
theorem Still.refl (w : World) : Still w w := ⟨Nat.le_refl _, fun _ _ => rfl, rfl, rfl, rfl⟩
theorem Still.trans {a b c : World} (h : Still a b) (k : Still b c) : Still a c :=
  ⟨Nat.le_trans h.size k.size, fun i hi => (k.keep i (Nat.lt_of_lt_of_le hi h.size)).trans (h.keep i hi), k.os.trans h.os, k.tape.trans h.tape, k.output.trans h.output⟩
variable [Opq]
set_option linter.unusedSectionVars false

inductive D where
  | v (x : V)
  | sl (len es : Nat) (ex : Option Nat) (cs : List D)
  | agg (cs : List D)
  | tup (cs : List D)

def flat (x : V) : Bool :=
  match x with
  | .bool _ => true
  | .int _ _ => true
  | .str _ _ => true
  | .nilp => true
  | .nils => true
  | .nilm => true
  | .nilf => true
  | .nili => true
  | _ => false
theorem flat_vr {g g' : G} {x : V} {u : Value} (hf : flat x = true) (h : VR g x u) : VR g' x u := by
  cases h <;> first | (cases hf; done) | constructor
theorem flat_one {x : V} (hf : flat x = true) : oneCell x = true := by
  cases x <;> first | rfl | cases hf
def D.one (d : D) : Bool :=
  match d with
  | .v _ => true
  | .sl .. => true
  | _ => false
abbrev nog : G := fun _ => none

mutual
inductive RdD (w : World) (n : Nat → Prop) : Value → D → Prop
  | v {x : V} {u : Value} (hf : flat x = true) (h : VR nog x u) : RdD w n u (.v x)
  | sl {b o len es cap : Nat} {ex : Option Nat} {c : Array Value} {t : TypeId} {cs : List D} {xs : List Value} (hn : n b) (hw : w.heap[b]? = some (.cells c t (0, 0)))
      (hx : ∀ j u, xs[j]? = some u → c[o + j]? = some u) (hl : xs.length = len * es) (hs : o + len * es ≤ c.size) (hk : len * es ≤ keys)
      (hc : ex = some cap ∨ (ex = none ∧ o + cap * es = c.size ∧ len ≤ cap)) (h1 : ∀ d, d ∈ cs → d.one = true) (h : RdDs w n xs cs) : RdD w n (.slice (some ⟨b, o, none⟩) len cap) (.sl len es ex cs)
  | emp {b p es : Nat} {ex : Option Nat} {c : Array Value} {t : TypeId} (hn : n b) (hw : w.heap[b]? = some (.cells c t (0, 0))) (hc : ex = some 0 ∨ ex = none) : RdD w n (.slice (some ⟨b, p, none⟩) 0 0) (.sl 0 es ex [])
  | agg {xs : List Value} {cs : List D} (h : RdDs w n xs cs) : RdD w n (.agg xs.toArray) (.agg cs)
  | tup {xs : List Value} {cs : List D} (h : RdDs w n xs cs) : RdD w n (.tuple xs.toArray) (.tup cs)
inductive RdDs (w : World) (n : Nat → Prop) : List Value → List D → Prop
  | nil : RdDs w n [] []
  | cons {u : Value} {d : D} {us : List Value} {ds : List D} (h : RdD w n u d) (t : RdDs w n us ds) : RdDs w n (u :: us) (d :: ds)
end

mutual
theorem RdD.keep {w w' : World} {n m : Nat → Prop} (hm : ∀ b, n b → m b) (k : ∀ b : Nat, n b → b < w.heap.size → w'.heap[b]? = w.heap[b]?) : ∀ {u : Value} {d : D}, RdD w n u d → RdD w' m u d
  | _, _, .v hf h => .v hf h
  | _, _, .sl hn hw hx hl hs hk hc h1 h => .sl (hm _ hn) ((k _ hn (Array.getElem?_eq_some_iff.1 hw).1).trans hw) hx hl hs hk hc h1 (RdDs.keep hm k h)
  | _, _, .emp hn hw hc => .emp (hm _ hn) ((k _ hn (Array.getElem?_eq_some_iff.1 hw).1).trans hw) hc
  | _, _, .agg h => .agg (RdDs.keep hm k h)
  | _, _, .tup h => .tup (RdDs.keep hm k h)
theorem RdDs.keep {w w' : World} {n m : Nat → Prop} (hm : ∀ b, n b → m b) (k : ∀ b : Nat, n b → b < w.heap.size → w'.heap[b]? = w.heap[b]?) : ∀ {u : List Value} {d : List D}, RdDs w n u d → RdDs w' m u d
  | _, _, .nil => .nil
  | _, _, .cons h t => .cons (RdD.keep hm k h) (RdDs.keep hm k t)
end
theorem RdDs.length {w : World} {n : Nat → Prop} : ∀ {us : List Value} {ds : List D}, RdDs w n us ds → us.length = ds.length
  | _, _, .nil => rfl
  | _, _, .cons _ t => by simp [RdDs.length t]

/- From memory to a tree. -/
noncomputable section
def H.isC (h : H) (id : Nat) : Bool := Option.rec (motive := fun _ => Bool) false (fun b => match b with
    | .cells _ _ _ _ => true
    | _ => false) (h.blk id)
def deepS (lo : Nat) (ih : V → Option D) (h : H) (x : V) : Option D :=
  match x with
  | .sl id off len cap ex es => oif (Nat.blt 0 es && (Nat.blt 0 len || (!ex || Nat.beq cap 0))) (oif (Nat.ble lo id && h.isC id) (ob (h.rd id off (Nat.mul len es)) fun vs => ob (mapO ih vs) fun ds =>
      oif (ds.all D.one) (some (.sl len es (Bool.rec (motive := fun _ => Option Nat) none (some cap) ex) ds))))
  | .agg l => ob (mapO ih l) fun ds => some (.agg ds)
  | .tup l => ob (mapO ih l) fun ds => some (.tup ds)
  | x => oif (flat x) (some (.v x))
def deep (lo n : Nat) (h : H) : V → Option D := Nat.rec (motive := fun _ => V → Option D) (fun _ => none) (fun _ ih x => deepS lo ih h x) n
end
theorem deep_succ (lo n : Nat) (h : H) (x : V) : deep lo (n + 1) h x = deepS lo (deep lo n h) h x := rfl

theorem deeps_ok {g : G} {w : World} {N : Nat → Prop} {f : V → Option D} (hf : ∀ x u d, VR g x u → f x = some d → RdD w N u d) : ∀ {l : List V} {us : List Value} {ds : List D}, VRs g l us → mapO f l = some ds → RdDs w N us ds
  | [], _, _, .nil, e => by cases e; exact .nil
  | x :: l, _, _, .cons h t, e => by
    rw [mapO_cons] at e
    obtain ⟨d, e1, e2⟩ := ob_some.1 e
    obtain ⟨r, e3, e4⟩ := ob_some.1 e2
    cases e4
    exact .cons (hf _ _ _ h e1) (deeps_ok hf t e3)
theorem flatCase {g : G} {w : World} {N : Nat → Prop} {x : V} {u : Value} {d : D} (hv : VR g x u) (e : oif (flat x) (some (D.v x)) = some d) : RdD w N u d := by
  obtain ⟨e1, e2⟩ := oif_some.1 e
  cases e2
  exact .v e1 (flat_vr e1 hv)
theorem deep_ok {T : Ty} {g : G} {h : H} {w : World} (r : WR T g h w) {lo : Nat} {N : Nat → Prop} (hlo : ∀ id b o z, lo ≤ id → h.isC id = true → g id = some (b, o, z) → N b) : ∀ (n : Nat) (x : V) (u : Value) (d : D), VR g x u → deep lo n h x = some d → RdD w N u d := by
  intro n
  induction n with
  | zero => intro x u d _ e; cases e
  | succ n ih =>
    intro x u d hv e
    rw [deep_succ] at e
    cases x with
    | sl id off len cap ex es =>
      obtain ⟨e1, e2'⟩ := oif_some.1 (show oif _ _ = some d from e)
      obtain ⟨elo, e2⟩ := oif_some.1 e2'
      simp only [Bool.and_eq_true, Nat.ble_eq] at elo
      have hN : ∀ {b o z : Nat}, g id = some (b, o, z) → N b := fun hg => hlo id _ _ _ elo.1 elo.2 hg
      obtain ⟨vs, e3, e4⟩ := ob_some.1 e2
      obtain ⟨ds, e5, e6⟩ := ob_some.1 e4
      obtain ⟨e7, e8⟩ := oif_some.1 e6
      cases e8
      simp only [Bool.and_eq_true, Bool.or_eq_true, Nat.blt_eq, Bool.not_eq_true', Nat.beq_eq] at e1
      obtain ⟨es0, hlen⟩ := e1
      have hall : ∀ d, d ∈ ds → d.one = true := by simpa using e7
      unfold H.rd at e3
      obtain ⟨p, c1, c2⟩ := ob_some.1 e3
      have main : ∀ {b o z : Nat}, g id = some (b, o, z) → ∃ c t xs, w.heap[b]? = some (.cells c t (0, 0)) ∧ c.size = o + z ∧ (∀ j u, xs[j]? = some u → c[o + off + j]? = some u) ∧ xs.length = len * es ∧ RdDs w N xs ds ∧ (0 < len * es → off + len * es ≤ z ∧ len * es ≤ keys) := by
        intro b o z hg
        obtain ⟨b', o', z', c, t, k1, k2, k3, k4, k5, k6⟩ := cells_ok' r hg c1
        rw [hg] at k1
        cases k1
        obtain ⟨xs, m1, m2, m3, m4, m5⟩ := rdFrom_ok k6 _ off vs c2
        exact ⟨c, t, xs, k2, k3, m3, m2, deeps_ok ih m1 e5, fun h0 => by have := m5 h0; have : off + len * es ≤ p.1 := this; omega⟩
      have nil0 : ∀ {b o z : Nat}, g id = some (b, o, z) → len = 0 → ds = [] := by
        intro b o z hg h0
        obtain ⟨c, t, xs, _, _, _, q1, q2, _⟩ := main hg
        subst h0
        have := q2.length
        rw [Nat.zero_mul] at q1
        exact List.eq_nil_of_length_eq_zero (by omega)
      cases hv with
      | slx hg =>
        obtain ⟨c, t, xs, q1, q2, q3, q4, q5, q6⟩ := main hg
        by_cases h0 : len = 0
        · subst h0
          obtain rfl := nil0 hg rfl
          have hcap : cap = 0 := by simpa using hlen
          subst hcap
          exact .emp (hN hg) q1 (.inl rfl)
        · have hpos : 0 < len * es := Nat.mul_pos (by omega) es0
          obtain ⟨q7, q8⟩ := q6 hpos
          exact .sl (hN hg) q1 q3 q4 (by omega) q8 (.inl rfl) hall q5
      | sli hg hc hl =>
        rename_i b o z cc
        obtain ⟨c, t, xs, q1, q2, q3, q4, q5, q6⟩ := main hg
        refine .sl (hN hg) q1 q3 q4 ?_ ?_ (.inr ⟨rfl, by omega, hl⟩) hall q5
        · have := Nat.mul_le_mul_right es hl
          omega
        · by_cases h0 : len * es = 0
          · omega
          · exact (q6 (by omega)).2
      | sl0 hg hz =>
        obtain ⟨c, t, xs, q1, _⟩ := main hg
        obtain rfl := nil0 hg rfl
        exact .emp (hN hg) q1 (.inr rfl)
      | slx0 hg =>
        obtain ⟨c, t, xs, q1, _⟩ := main hg
        obtain rfl := nil0 hg rfl
        exact .emp (hN hg) q1 (.inl rfl)
    | agg l =>
      obtain ⟨ds, e1, e2⟩ := ob_some.1 (show ob _ _ = some d from e)
      cases e2
      cases hv with
      | agg h => exact .agg (deeps_ok ih h e1)
    | tup l =>
      obtain ⟨ds, e1, e2⟩ := ob_some.1 (show ob _ _ = some d from e)
      cases e2
      cases hv with
      | tup h => exact .tup (deeps_ok ih h e1)
    | _ => exact flatCase hv e

/- From a tree to memory. -/
noncomputable section
def D.bld (d : D) : H → V × H := D.rec (motive_1 := fun _ => H → V × H) (motive_2 := fun _ => H → List V × H)
  (fun x h => (x, h))
  (fun len es ex _ ih h => Prod.rec (motive := fun _ => V × H) (fun vs h => (Option.rec (motive := fun _ => V) (.sl h.next 0 len 0 false es) (fun cap => .sl h.next 0 len cap true es) ex, ⟨h.t.put h.next (some (.ro (lenL vs) (trOf vs 0 .e))), Nat.succ h.next⟩)) (ih h))
  (fun _ ih h => Prod.rec (motive := fun _ => V × H) (fun vs h => (.agg vs, h)) (ih h))
  (fun _ ih h => Prod.rec (motive := fun _ => V × H) (fun vs h => (.tup vs, h)) (ih h))
  (fun h => ([], h))
  (fun _ _ i1 i2 h => Prod.rec (motive := fun _ => List V × H) (fun v h => Prod.rec (motive := fun _ => List V × H) (fun vs h => (v :: vs, h)) (i2 h)) (i1 h)) d
def bldL (ds : List D) : H → List V × H :=
  List.rec (motive := fun _ => H → List V × H) (fun h => ([], h)) (fun d _ i2 h => Prod.rec (motive := fun _ => List V × H) (fun v h => Prod.rec (motive := fun _ => List V × H) (fun vs h => (v :: vs, h)) (i2 h)) (d.bld h)) ds
end
theorem bldL_cons (d : D) (ds : List D) (h : H) : bldL (d :: ds) h = ((d.bld h).1 :: (bldL ds (d.bld h).2).1, (bldL ds (d.bld h).2).2) := rfl
theorem bldL_eq (ds : List D) : bldL ds = D.rec_1 (motive_1 := fun _ => H → V × H) (motive_2 := fun _ => H → List V × H)
  (fun x h => (x, h))
  (fun len es ex _ ih h => Prod.rec (motive := fun _ => V × H) (fun vs h => (Option.rec (motive := fun _ => V) (.sl h.next 0 len 0 false es) (fun cap => .sl h.next 0 len cap true es) ex, ⟨h.t.put h.next (some (.ro (lenL vs) (trOf vs 0 .e))), Nat.succ h.next⟩)) (ih h))
  (fun _ ih h => Prod.rec (motive := fun _ => V × H) (fun vs h => (.agg vs, h)) (ih h))
  (fun _ ih h => Prod.rec (motive := fun _ => V × H) (fun vs h => (.tup vs, h)) (ih h))
  (fun h => ([], h))
  (fun _ _ i1 i2 h => Prod.rec (motive := fun _ => List V × H) (fun v h => Prod.rec (motive := fun _ => List V × H) (fun vs h => (v :: vs, h)) (i2 h)) (i1 h)) ds := by
  induction ds with
  | nil => rfl
  | cons d ds ih => funext h; rw [bldL_cons, ih]; rfl
theorem bld_sl (len es : Nat) (ex : Option Nat) (cs : List D) (h : H) : (D.sl len es ex cs).bld h =
    (Option.rec (motive := fun _ => V) (.sl (bldL cs h).2.next 0 len 0 false es) (fun cap => .sl (bldL cs h).2.next 0 len cap true es) ex,
      ⟨(bldL cs h).2.t.put (bldL cs h).2.next (some (.ro (lenL (bldL cs h).1) (trOf (bldL cs h).1 0 .e))), Nat.succ (bldL cs h).2.next⟩) := by
  rw [bldL_eq]; rfl
theorem bld_agg (cs : List D) (h : H) : (D.agg cs).bld h = (.agg (bldL cs h).1, (bldL cs h).2) := by rw [bldL_eq]; rfl
theorem bld_tup (cs : List D) (h : H) : (D.tup cs).bld h = (.tup (bldL cs h).1, (bldL cs h).2) := by rw [bldL_eq]; rfl

def AllRo (g : G) (h : H) : Prop := (∀ id b, h.blk id = some b → b.isRo = true) ∧ ∀ id x, g id = some x → ∃ b, h.blk id = some b
theorem AllRo.kin {g : G} {h : H} (a : AllRo g h) {id : Nat} {b : Blk} (e : h.blk id = some b) : b.kin = none := Blk.isRo_kin (a.1 id b e)
/-- A block to be read, over a place of the world. -/
theorem WR.over {T : Ty} {b o z : Nat} {g : G} {h : H} {w : World} (r : WR T g h w) (hro : ∀ i o' z' k, g i = some (b, o', z') → h.blk i = some k → k.live = true → k.isRo = true) (hk : h.next < keys) {c : Array Value} {t : TypeId} {vs : List V} {xs : List Value}
    (hw : w.heap[b]? = some (.cells c t (0, 0))) (hs : c.size = o + z) (hv : VRs g vs xs) (hx : ∀ j u, xs[j]? = some u → c[o + j]? = some u) (hz : xs.length ≤ z) (hy : xs.length ≤ keys) (h1 : ∀ v, v ∈ vs → oneCell v = true) :
    WR T (gput g h.next (b, o, z)) ⟨h.t.put h.next (some (.ro (lenL vs) (trOf vs 0 .e))), Nat.succ h.next⟩ w ∧ g.le (gput g h.next (b, o, z)) ∧ (∀ j, (⟨h.t.put h.next (some (.ro (lenL vs) (trOf vs 0 .e))), Nat.succ h.next⟩ : H).blk j = if j = h.next then some (.ro (lenL vs) (trOf vs 0 .e)) else h.blk j) ∧ g h.next = none := by
  have hn : H.new h (.ro (lenL vs) (trOf vs 0 .e)) = some ⟨h.t.put h.next (some (.ro (lenL vs) (trOf vs 0 .e))), Nat.succ h.next⟩ := by
    unfold H.new
    rw [oif_some]
    exact ⟨by simpa using hk, rfl⟩
  obtain ⟨r1, e1, e2, e3⟩ := r.add hn (.inl rfl)
  have le := gput_le (b, o, z) e3
  have hblk := e2
  have kin' : Kin h ⟨h.t.put h.next (some (.ro (lenL vs) (trOf vs 0 .e))), Nat.succ h.next⟩ := fun i b' k p q => by
    have hi : i ≠ h.next := fun e => by have := r.top i _ p; omega
    exact ⟨b', by rw [hblk, if_neg hi]; exact p, q⟩
  have cases' : ∀ {i : Nat} {x : Nat × Nat × Nat}, gput g h.next (b, o, z) i = some x → (i = h.next ∧ x = (b, o, z)) ∨ (i ≠ h.next ∧ g i = some x) := by
    intro i x e
    by_cases h1 : i = h.next
    · subst h1; rw [gput_same] at e; exact .inl ⟨rfl, (Option.some.inj e).symm⟩
    · rw [gput_ne _ h1] at e; exact .inr ⟨h1, e⟩
  refine ⟨⟨r1.bound, r1.top, fun i x e => ?_, fun i b' o' z' e => ?_, fun i x k k1 k2 => ?_, fun i j b' o1 z1 o2 z2 bi bj hij k1 k2 k3 k4 l1 l2 => ?_, fun i q j d ch k1 k2 => ?_, fun i q j d ch q' k1 k2 k3 => ?_⟩, le, hblk, e3⟩
  · rcases cases' e with ⟨rfl, _⟩ | ⟨_, e⟩
    · exact Nat.lt_succ_self _
    · exact Nat.lt_succ_of_lt (r.dom _ _ e)
  · rcases cases' e with ⟨_, e⟩ | ⟨_, e⟩
    · cases e; exact (Array.getElem?_eq_some_iff.1 hw).1
    · exact r.lt _ _ _ _ e
  · rcases cases' k1 with ⟨rfl, e⟩ | ⟨h2, e⟩
    · rw [hblk, if_pos rfl] at k2
      cases k2
      refine ⟨b, o, z, c, t, gput_same _ _ _, hw, hs, ?_, ?_, fun j v hj hg => ?_⟩
      · rw [lenL_eq, hv.length]; exact hz
      · rw [lenL_eq, hv.length]; exact hy
      · rw [lenL_eq] at hj
        rw [trOf_get vs 0 .e j (by rw [hv.length]; omega), if_pos (by omega)] at hg
        obtain ⟨u, m1, m2⟩ := hv.get (i := j) (by simpa using hg)
        exact ⟨u, hx j u m1, m2.mono le, h1 v (List.mem_of_getElem? (by simpa using hg))⟩
    · rw [hblk, if_neg h2] at k2
      exact (r.blk i x k e k2).mono le
  · have roAt : ∀ {k : Nat} {bk : Blk} {ok zk : Nat}, gput g h.next (b, o, z) k = some (b, ok, zk) → (⟨h.t.put h.next (some (.ro (lenL vs) (trOf vs 0 .e))), Nat.succ h.next⟩ : H).blk k = some bk → bk.live = true → bk.isRo = true := by
      intro k bk ok zk q1 q2 ql
      rw [hblk] at q2
      by_cases h2 : k = h.next
      · rw [if_pos h2] at q2; cases q2; rfl
      · rw [if_neg h2] at q2; rw [gput_ne _ h2] at q1; exact hro _ _ _ _ q1 q2 ql
    by_cases hb : b' = b
    · subst hb
      exact .inr (.inr ⟨roAt k1 k3 l1, roAt k2 k4 l2⟩)
    · rcases cases' k1 with ⟨rfl, e⟩ | ⟨hi, e1⟩
      · cases e; exact absurd rfl hb
      · rcases cases' k2 with ⟨rfl, e⟩ | ⟨hj, e2⟩
        · cases e; exact absurd rfl hb
        · have m3 := k3
          have m4 := k4
          rw [hblk, if_neg hi] at m3
          rw [hblk, if_neg hj] at m4
          rcases r.mates i j _ _ _ _ _ _ _ hij e1 e2 m3 m4 l1 l2 with ⟨d, u, q⟩ | ⟨d, u, q⟩ | q
          · exact .inl ⟨d, u.kin kin', q⟩
          · exact .inr (.inl ⟨d, u.kin kin', q⟩)
          · exact .inr (.inr q)
  · rw [hblk] at k1
    by_cases h2 : i = h.next
    · rw [if_pos h2] at k1; cases k1; cases k2
    · rw [if_neg h2] at k1
      obtain ⟨b'', up, p1, p2, p3⟩ := r.kids i q j d ch k1 k2
      have hj : j ≠ h.next := fun e => by have := r.top j _ p1; omega
      refine ⟨b'', up, by rw [hblk, if_neg hj]; exact p1, p2, fun q => ?_⟩
      rw [gput_ne _ h2] at q
      rw [gput_ne _ hj]
      exact p3 q
  · rw [hblk] at k1 k3
    by_cases h2 : i = h.next
    · rw [if_pos h2] at k1; cases k1; cases k2
    · rw [if_neg h2] at k1
      obtain ⟨b'', up, p1, p2, p3⟩ := r.kids i q j d ch k1 k2
      have hj : j ≠ h.next := fun e => by have := r.top j _ p1; omega
      rw [if_neg hj] at k3
      exact r.ext i q j d ch q' k1 k2 k3

theorem WR.overRo {T : Ty} {b o z : Nat} {g : G} {h : H} {w : World} (r : WR T g h w) (a : AllRo g h) (hk : h.next < keys) {c : Array Value} {t : TypeId} {vs : List V} {xs : List Value}
    (hw : w.heap[b]? = some (.cells c t (0, 0))) (hs : c.size = o + z) (hv : VRs g vs xs) (hx : ∀ j u, xs[j]? = some u → c[o + j]? = some u) (hz : xs.length ≤ z) (hy : xs.length ≤ keys) (h1 : ∀ v, v ∈ vs → oneCell v = true) :
    WR T (gput g h.next (b, o, z)) ⟨h.t.put h.next (some (.ro (lenL vs) (trOf vs 0 .e))), Nat.succ h.next⟩ w ∧ AllRo (gput g h.next (b, o, z)) ⟨h.t.put h.next (some (.ro (lenL vs) (trOf vs 0 .e))), Nat.succ h.next⟩ ∧ g.le (gput g h.next (b, o, z)) := by
  obtain ⟨r1, le, hblk, _⟩ := r.over (fun i _ _ k _ q _ => a.1 i k q) hk hw hs hv hx hz hy h1
  refine ⟨r1, ⟨fun id q e => ?_, fun id x e => ?_⟩, le⟩
  · rw [hblk] at e
    by_cases h2 : id = h.next
    · rw [if_pos h2] at e; cases e; rfl
    · rw [if_neg h2] at e; exact a.1 id q e
  · rw [hblk]
    by_cases h2 : id = h.next
    · rw [if_pos h2]; exact ⟨_, rfl⟩
    · rw [if_neg h2]; rw [gput_ne _ h2] at e; exact a.2 id x e

/-- A tree that is there has its memory. -/
def Built (T : Ty) (g : G) (h h' : H) (w : World) (g' : G) : Prop := WR T g' h' w ∧ AllRo g' h' ∧ g.le g' ∧ h.next ≤ h'.next
mutual
theorem bld_next : ∀ (d : D) (h : H), h.next ≤ (d.bld h).2.next
  | .v _, h => Nat.le_refl _
  | .sl len es ex cs, h => by rw [bld_sl]; exact Nat.le_succ_of_le (bldL_next cs h)
  | .agg cs, h => by rw [bld_agg]; exact bldL_next cs h
  | .tup cs, h => by rw [bld_tup]; exact bldL_next cs h
theorem bldL_next : ∀ (ds : List D) (h : H), h.next ≤ (bldL ds h).2.next
  | [], h => Nat.le_refl _
  | d :: ds, h => by rw [bldL_cons]; exact Nat.le_trans (bld_next d h) (bldL_next ds _)
end
mutual
theorem bld_ok {T : Ty} {w : World} {N : Nat → Prop} : ∀ {u : Value} {d : D}, RdD w N u d → ∀ {g : G} {h : H}, WR T g h w → AllRo g h → (d.bld h).2.next ≤ keys →
    ∃ g', Built T g h (d.bld h).2 w g' ∧ VR g' (d.bld h).1 u ∧ (d.one = true → oneCell (d.bld h).1 = true)
  | _, _, .v hf hv, g, h, r, a, _ => ⟨g, ⟨r, a, g.le_refl, Nat.le_refl _⟩, flat_vr hf hv, fun _ => flat_one hf⟩
  | _, _, .sl (b := b) (o := o) (len := len) (es := es) (cap := cap) (ex := ex) (c := c) (cs := cs) _ hw hx hl hs hk hc h1 hd, g, h, r, a, hn => by
    rw [bld_sl] at hn ⊢
    obtain ⟨g1, ⟨r1, a1, l1, n1⟩, v1, o1⟩ := bldL_ok hd r a (by have : Nat.succ (bldL cs h).2.next ≤ keys := hn; omega)
    obtain ⟨r2, a2, l2⟩ := r1.overRo a1 (show (bldL cs h).2.next < keys from hn) (z := c.size - o) hw (by omega) v1 hx (by omega) (by omega) (o1 h1)
    refine ⟨_, ⟨r2, a2, G.le_trans l1 l2, Nat.le_succ_of_le n1⟩, ?_, fun _ => ?_⟩
    · rcases hc with rfl | ⟨rfl, hc, hlc⟩
      · exact VR.slx (off := 0) (gput_same _ _ _)
      · exact VR.sli (off := 0) (gput_same _ _ _) (by omega) hlc
    · cases ex <;> rfl
  | _, _, .emp (b := b) (es := es) (ex := ex) (c := c) _ hw hc, g, h, r, a, hn => by
    rw [bld_sl] at hn ⊢
    obtain ⟨r2, a2, l2⟩ := r.overRo a (show h.next < keys from hn) (o := c.size) (z := 0) (vs := []) (xs := []) hw (by omega) .nil (by simp) (by simp) (by simp) (by simp)
    refine ⟨_, ⟨r2, a2, l2, Nat.le_succ _⟩, ?_, fun _ => ?_⟩
    · rcases hc with rfl | rfl
      · exact VR.slx0 (gput_same _ _ _)
      · exact VR.sl0 (gput_same _ _ _) (Nat.le_refl _)
    · cases ex <;> rfl
  | _, _, .agg hd, g, h, r, a, hn => by
    rw [bld_agg] at hn ⊢
    obtain ⟨g1, b1, v1, _⟩ := bldL_ok hd r a hn
    exact ⟨g1, b1, .agg v1, fun e => by cases e⟩
  | _, _, .tup hd, g, h, r, a, hn => by
    rw [bld_tup] at hn ⊢
    obtain ⟨g1, b1, v1, _⟩ := bldL_ok hd r a hn
    exact ⟨g1, b1, .tup v1, fun e => by cases e⟩
theorem bldL_ok {T : Ty} {w : World} {N : Nat → Prop} : ∀ {us : List Value} {ds : List D}, RdDs w N us ds → ∀ {g : G} {h : H}, WR T g h w → AllRo g h → (bldL ds h).2.next ≤ keys →
    ∃ g', Built T g h (bldL ds h).2 w g' ∧ VRs g' (bldL ds h).1 us ∧ ((∀ d, d ∈ ds → d.one = true) → ∀ v, v ∈ (bldL ds h).1 → oneCell v = true)
  | _, _, .nil, g, h, r, a, _ => ⟨g, ⟨r, a, g.le_refl, Nat.le_refl _⟩, .nil, fun _ v hv => by cases hv⟩
  | _, _, .cons (d := d) (ds := ds) hd ht, g, h, r, a, hn => by
    rw [bldL_cons] at hn ⊢
    have hn : (bldL ds (d.bld h).2).2.next ≤ keys := hn
    obtain ⟨g1, ⟨r1, a1, l1, n1⟩, v1, o1⟩ := bld_ok hd r a (Nat.le_trans (bldL_next ds _) hn)
    obtain ⟨g2, ⟨r2, a2, l2, n2⟩, v2, o2⟩ := bldL_ok ht r1 a1 hn
    refine ⟨g2, ⟨r2, a2, G.le_trans l1 l2, Nat.le_trans n1 n2⟩, .cons (v1.mono l2) v2, fun hone v hv => ?_⟩
    cases hv with
    | head => exact o1 (hone d (by simp))
    | tail _ hv => exact o2 (fun d' hd' => hone d' (by simp [hd'])) v hv
end

/-- The empty memory stands for any world. -/
theorem WR.empty (T : Ty) (w : World) : WR T nog ⟨.e, 0⟩ w := by
  refine ⟨Nat.zero_le _, fun id b e => ?_, fun id x e => ?_, fun id b o z e => ?_, fun id x b e => ?_, fun i j b o z o' z' bi bj _ e => ?_, fun i b j d ch e => ?_, fun i b j d ch b' e => ?_⟩
  · cases e
  · cases e
  · cases e
  · cases e
  · cases e
  · cases e
  · cases e
theorem AllRo.empty : AllRo nog ⟨.e, 0⟩ := ⟨(fun id b e => by cases e), (fun id x e => by cases e)⟩

/-- Where all memory is only read, the old blocks of the world stay. -/
theorem Ext.still {T : Ty} {g g' : G} {h h' : H} {w w' : World} (x : Ext T g h w g' h' w') (a : AllRo g h) : ∀ b : Nat, b < w.heap.size → w'.heap[b]? = w.heap[b]? := by
  intro b hlt
  by_cases hc : ∃ id o z, g id = some (b, o, z)
  · obtain ⟨id, o, z, hg⟩ := hc
    obtain ⟨q, hq⟩ := a.2 _ _ hg
    have := a.1 _ _ hq
    cases q with
    | ro n cs => exact (x.ro id b o z n cs hg hq).2
    | _ => cases this
  · exact x.keep b hlt fun id o z hg => hc ⟨id, o, z, hg⟩

theorem RdD.still {w w' : World} (k : Still w w') {n : Nat → Prop} {u : Value} {d : D} (h : RdD w n u d) : RdD w' n u d := h.keep (fun _ h => h) fun b _ => k.keep b
theorem RdDs.still {w w' : World} (k : Still w w') {n : Nat → Prop} {u : List Value} {d : List D} (h : RdDs w n u d) : RdDs w' n u d := h.keep (fun _ h => h) fun b _ => k.keep b

end Ev
end Go.Proofs.YtbfkbabolhhbaaaGreatDoor
