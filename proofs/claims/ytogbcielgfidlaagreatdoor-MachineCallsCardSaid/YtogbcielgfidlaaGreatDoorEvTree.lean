/-
  Values as trees: what is only read, in whatever world it lies.
-/
import Derived.Test.YtogbcielgfidlaaGreatDoorEvCode
import Derived.Test.YtogbcielgfidlaaGreatDoorEvNum
namespace Go.Proofs.YtogbcielgfidlaaGreatDoor
set_option linter.unusedVariables false
set_option linter.unusedSimpArgs false
namespace Ev
/-- The world has grown, and nothing else. -/
structure Still (w w' : World) : Prop where
  size : w.heap.size ≤ w'.heap.size
  keep : ∀ b : Nat, b < w.heap.size → w'.heap[b]? = w.heap[b]?
  os : w'.os = w.os
  tape : w'.tape = w.tape
  output : w'.output = w.output
theorem Still.refl (w : World) : Still w w := ⟨Nat.le_refl _, fun _ _ => rfl, rfl, rfl, rfl⟩
theorem Still.trans {a b c : World} (h : Still a b) (k : Still b c) : Still a c :=
  ⟨Nat.le_trans h.size k.size, fun i hi => (k.keep i (Nat.lt_of_lt_of_le hi h.size)).trans (h.keep i hi), k.os.trans h.os, k.tape.trans h.tape, k.output.trans h.output⟩
variable [Opq]
set_option linter.unusedSectionVars false

inductive D where
  | v (x : V)
  | sl (len es : Nat) (ex : Option Nat) (cs : List D)
  | agg (cs : List D)
  | tup (cs : List D)

def flat (x : V) : Bool :=
  match x with
  | .bool _ => true
  | .int _ _ => true
  | .str _ _ => true
  | .nilp => true
  | .nils => true
  | .nilm => true
  | .nilf => true
  | .nili => true
  | _ => false
theorem flat_vr {g g' : G} {x : V} {u : Value} (hf : flat x = true) (h : VR g x u) : VR g' x u := by
  cases h <;> first | (cases hf; done) | constructor
theorem flat_one {x : V} (hf : flat x = true) : oneCell x = true := by
  cases x <;> first | rfl | cases hf
def D.one (d : D) : Bool :=
  match d with
  | .v _ => true
  | .sl .. => true
  | _ => false
abbrev nog : G := fun _ => none

mutual
inductive RdD (w : World) (n : Nat → Prop) : Value → D → Prop
  | v {x : V} {u : Value} (hf : flat x = true) (h : VR nog x u) : RdD w n u (.v x)
  | sl {b o len es cap : Nat} {ex : Option Nat} {c : Array Value} {t : TypeId} {cs : List D} {xs : List Value} (hn : n b) (hw : w.heap[b]? = some (.cells c t (0, 0)))
      (hx : ∀ j u, xs[j]? = some u → c[o + j]? = some u) (hl : xs.length = len * es) (hs : o + len * es ≤ c.size) (hk : len * es ≤ keys)
      (hc : ex = some cap ∨ (ex = none ∧ o + cap * es = c.size ∧ len ≤ cap)) (h1 : ∀ d, d ∈ cs → d.one = true) (h : RdDs w n xs cs) : RdD w n (.slice (some ⟨b, o, none⟩) len cap) (.sl len es ex cs)
  | emp {b p es : Nat} {ex : Option Nat} {c : Array Value} {t : TypeId} (hn : n b) (hw : w.heap[b]? = some (.cells c t (0, 0))) (hc : ex = some 0 ∨ ex = none) : RdD w n (.slice (some ⟨b, p, none⟩) 0 0) (.sl 0 es ex [])
  | agg {xs : List Value} {cs : List D} (h : RdDs w n xs cs) : RdD w n (.agg xs.toArray) (.agg cs)
  | tup {xs : List Value} {cs : List D} (h : RdDs w n xs cs) : RdD w n (.tuple xs.toArray) (.tup cs)
inductive RdDs (w : World) (n : Nat → Prop) : List Value → List D → Prop
  | nil : RdDs w n [] []
  | cons {u : Value} {d : D} {us : List Value} {ds : List D} (h : RdD w n u d) (t : RdDs w n us ds) : RdDs w n (u :: us) (d :: ds)
end

mutual
theorem RdD.keep {w w' : World} {n m : Nat → Prop} (hm : ∀ b, n b → m b) (k : ∀ b : Nat, n b → b < w.heap.size → w'.heap[b]? = w.heap[b]?) : ∀ {u : Value} {d : D}, RdD w n u d → RdD w' m u d
  | _, _, .v hf h => .v hf h
  | _, _, .sl hn hw hx hl hs hk hc h1 h => .sl (hm _ hn) ((k _ hn (Array.getElem?_eq_some_iff.1 hw).1).trans hw) hx hl hs hk hc h1 (RdDs.keep hm k h)
  | _, _, .emp hn hw hc => .emp (hm _ hn) ((k _ hn (Array.getElem?_eq_some_iff.1 hw).1).trans hw) hc
  | _, _, .agg h => .agg (RdDs.keep hm k h)
  | _, _, .tup h => .tup (RdDs.keep hm k h)
theorem RdDs.keep {w w' : World} {n m : Nat → Prop} (hm : ∀ b, n b → m b) (k : ∀ b : Nat, n b → b < w.heap.size → w'.heap[b]? = w.heap[b]?) : ∀ {u : List Value} {d : List D}, RdDs w n u d → RdDs w' m u d
  | _, _, .nil => .nil
  | _, _, .cons h t => .cons (RdD.keep hm k h) (RdDs.keep hm k t)
end
theorem RdDs.length {w : World} {n : Nat → Prop} : ∀ {us : List Value} {ds : List D}, RdDs w n us ds → us.length = ds.length
  | _, _, .nil => rfl
  | _, _, .cons _ t => by simp [RdDs.length t]

/- From memory to a tree. -/
noncomputable section
def H.isC (h : H) (id : Nat) : Bool := Option.rec (motive := fun _ => Bool) false (fun b => match b with
    | .cells _ _ _ _ => true
    | _ => false) (h.blk id)
def deepS (lo : Nat) (ih : V → Option D) (h : H) (x : V) : Option D :=
  match x with
  | .sl id off len cap ex es => oif (Nat.blt 0 es && (Nat.blt 0 len || (!ex || Nat.beq cap 0))) (oif (Nat.ble lo id && h.isC id) (ob (h.rd id off (Nat.mul len es)) fun vs => ob (mapO ih vs) fun ds =>
      oif (ds.all D.one) (some (.sl len es (Bool.rec (motive := fun _ => Option Nat) none (some cap) ex) ds))))
  | .agg l => ob (mapO ih l) fun ds => some (.agg ds)
  | .tup l => ob (mapO ih l) fun ds => some (.tup ds)
  | x => oif (flat x) (some (.v x))
def deep (lo n : Nat) (h : H) : V → Option D := Nat.rec (motive := fun _ => V → Option D) (fun _ => none) (fun _ ih x => deepS lo ih h x) n
end
theorem deep_succ (lo n : Nat) (h : H) (x : V) : deep lo (n + 1) h x = deepS lo (deep lo n h) h x := rfl

theorem deeps_ok {g : G} {w : World} {N : Nat → Prop} {f : V → Option D} (hf : ∀ x u d, VR g x u → f x = some d → RdD w N u d) : ∀ {l : List V} {us : List Value} {ds : List D}, VRs g l us → mapO f l = some ds → RdDs w N us ds
  | [], _, _, .nil, e => by cases e; exact .nil
  | x :: l, _, _, .cons h t, e => by
    rw [mapO_cons] at e
    obtain ⟨d, e1, e2⟩ := ob_some.1 e
    obtain ⟨r, e3, e4⟩ := ob_some.1 e2
    cases e4
    exact .cons (hf _ _ _ h e1) (deeps_ok hf t e3)
theorem flatCase {g : G} {w : World} {N : Nat → Prop} {x : V} {u : Value} {d : D} (hv : VR g x u) (e : oif (flat x) (some (D.v x)) = some d) : RdD w N u d := by
  obtain ⟨e1, e2⟩ := oif_some.1 e
  cases e2
  exact .v e1 (flat_vr e1 hv)
theorem deep_ok {T : Ty} {g : G} {h : H} {w : World} (r : WR T g h w) {lo : Nat} {N : Nat → Prop} (hlo : ∀ id b o z, lo ≤ id → h.isC id = true → g id = some (b, o, z) → N b) : ∀ (n : Nat) (x : V) (u : Value) (d : D), VR g x u → deep lo n h x = some d → RdD w N u d := by
  intro n
  induction n with
  | zero => intro x u d _ e; cases e
  | succ n ih =>
    intro x u d hv e
    rw [deep_succ] at e
    cases x with
    | sl id off len cap ex es =>
      obtain ⟨e1, e2'⟩ := oif_some.1 (show oif _ _ = some d from e)
      obtain ⟨elo, e2⟩ := oif_some.1 e2'
      simp only [Bool.and_eq_true, Nat.ble_eq] at elo
      have hN : ∀ {b o z : Nat}, g id = some (b, o, z) → N b := fun hg => hlo id _ _ _ elo.1 elo.2 hg
      obtain ⟨vs, e3, e4⟩ := ob_some.1 e2
      obtain ⟨ds, e5, e6⟩ := ob_some.1 e4
      obtain ⟨e7, e8⟩ := oif_some.1 e6
      cases e8
      simp only [Bool.and_eq_true, Bool.or_eq_true, Nat.blt_eq, Bool.not_eq_true', Nat.beq_eq] at e1
      obtain ⟨es0, hlen⟩ := e1
      have hall : ∀ d, d ∈ ds → d.one = true := by simpa using e7
      unfold H.rd at e3
      obtain ⟨p, c1, c2⟩ := ob_some.1 e3
      have main : ∀ {b o z : Nat}, g id = some (b, o, z) → ∃ c t xs, w.heap[b]? = some (.cells c t (0, 0)) ∧ c.size = o + z ∧ (∀ j u, xs[j]? = some u → c[o + off + j]? = some u) ∧ xs.length = len * es ∧ RdDs w N xs ds ∧ (0 < len * es → off + len * es ≤ z ∧ len * es ≤ keys) := by
        intro b o z hg
        obtain ⟨b', o', z', c, t, k1, k2, k3, k4, k5, k6⟩ := cells_ok' r hg c1
        rw [hg] at k1
        cases k1
        obtain ⟨xs, m1, m2, m3, m4, m5⟩ := rdFrom_ok k6 _ off vs c2
        exact ⟨c, t, xs, k2, k3, m3, m2, deeps_ok ih m1 e5, fun h0 => by have := m5 h0; have : off + len * es ≤ p.1 := this; omega⟩
      have nil0 : ∀ {b o z : Nat}, g id = some (b, o, z) → len = 0 → ds = [] := by
        intro b o z hg h0
        obtain ⟨c, t, xs, _, _, _, q1, q2, _⟩ := main hg
        subst h0
        have := q2.length
        rw [Nat.zero_mul] at q1
        exact List.eq_nil_of_length_eq_zero (by omega)
      cases hv with
      | slx hg =>
        obtain ⟨c, t, xs, q1, q2, q3, q4, q5, q6⟩ := main hg
        by_cases h0 : len = 0
        · subst h0
          obtain rfl := nil0 hg rfl
          have hcap : cap = 0 := by simpa using hlen
          subst hcap
          exact .emp (hN hg) q1 (.inl rfl)
        · have hpos : 0 < len * es := Nat.mul_pos (by omega) es0
          obtain ⟨q7, q8⟩ := q6 hpos
          exact .sl (hN hg) q1 q3 q4 (by omega) q8 (.inl rfl) hall q5
      | sli hg hc hl =>
        rename_i b o z cc
        obtain ⟨c, t, xs, q1, q2, q3, q4, q5, q6⟩ := main hg
        refine .sl (hN hg) q1 q3 q4 ?_ ?_ (.inr ⟨rfl, by omega, hl⟩) hall q5
        · have := Nat.mul_le_mul_right es hl
          omega
        · by_cases h0 : len * es = 0
          · omega
          · exact (q6 (by omega)).2
      | sl0 hg hz =>
        obtain ⟨c, t, xs, q1, _⟩ := main hg
        obtain rfl := nil0 hg rfl
        exact .emp (hN hg) q1 (.inr rfl)
      | slx0 hg =>
        obtain ⟨c, t, xs, q1, _⟩ := main hg
        obtain rfl := nil0 hg rfl
        exact .emp (hN hg) q1 (.inl rfl)
    | agg l =>
      obtain ⟨ds, e1, e2⟩ := ob_some.1 (show ob _ _ = some d from e)
      cases e2
      cases hv with
      | agg h => exact .agg (deeps_ok ih h e1)
    | tup l =>
      obtain ⟨ds, e1, e2⟩ := ob_some.1 (show ob _ _ = some d from e)
      cases e2
      cases hv with
      | tup h => exact .tup (deeps_ok ih h e1)
    | _ => exact flatCase hv e

/- From a tree to memory. -/
noncomputable section
def D.bld (d : D) : H → V × H := D.rec (motive_1 := fun _ => H → V × H) (motive_2 := fun _ => H → List V × H)
  (fun x h => (x, h))
  (fun len es ex _ ih h => Prod.rec (motive := fun _ => V × H) (fun vs h => (Option.rec (motive := fun _ => V) (.sl h.next 0 len 0 false es) (fun cap => .sl h.next 0 len cap true es) ex, ⟨h.t.put h.next (some (.ro (lenL vs) (trOf vs 0 .e))), Nat.succ h.next⟩)) (ih h))
  (fun _ ih h => Prod.rec (motive := fun _ => V × H) (fun vs h => (.agg vs, h)) (ih h))
  (fun _ ih h => Prod.rec (motive := fun _ => V × H) (fun vs h => (.tup vs, h)) (ih h))
  (fun h => ([], h))
  (fun _ _ i1 i2 h => Prod.rec (motive := fun _ => List V × H) (fun v h => Prod.rec (motive := fun _ => List V × H) (fun vs h => (v :: vs, h)) (i2 h)) (i1 h)) d
def bldL (ds : List D) : H → List V × H :=
  List.rec (motive := fun _ => H → List V × H) (fun h => ([], h)) (fun d _ i2 h => Prod.rec (motive := fun _ => List V × H) (fun v h => Prod.rec (motive := fun _ => List V × H) (fun vs h => (v :: vs, h)) (i2 h)) (d.bld h)) ds
end
theorem bldL_cons (d : D) (ds : List D) (h : H) : bldL (d :: ds) h = ((d.bld h).1 :: (bldL ds (d.bld h).2).1, (bldL ds (d.bld h).2).2) := rfl
theorem bldL_eq (ds : List D) : bldL ds = D.rec_1 (motive_1 := fun _ => H → V × H) (motive_2 := fun _ => H → List V × H)
  (fun x h => (x, h))
  (fun len es ex _ ih h => Prod.rec (motive := fun _ => V × H) (fun vs h => (Option.rec (motive := fun _ => V) (.sl h.next 0 len 0 false es) (fun cap => .sl h.next 0 len cap true es) ex, ⟨h.t.put h.next (some (.ro (lenL vs) (trOf vs 0 .e))), Nat.succ h.next⟩)) (ih h))
  (fun _ ih h => Prod.rec (motive := fun _ => V × H) (fun vs h => (.agg vs, h)) (ih h))
  (fun _ ih h => Prod.rec (motive := fun _ => V × H) (fun vs h => (.tup vs, h)) (ih h))
  (fun h => ([], h))
  (fun _ _ i1 i2 h => Prod.rec (motive := fun _ => List V × H) (fun v h => Prod.rec (motive := fun _ => List V × H) (fun vs h => (v :: vs, h)) (i2 h)) (i1 h)) ds := by
  induction ds with
  | nil => rfl
  | cons d ds ih => funext h; rw [bldL_cons, ih]; rfl
theorem bld_sl (len es : Nat) (ex : Option Nat) (cs : List D) (h : H) : (D.sl len es ex cs).bld h =
    (Option.rec (motive := fun _ => V) (.sl (bldL cs h).2.next 0 len 0 false es) (fun cap => .sl (bldL cs h).2.next 0 len cap true es) ex,
      ⟨(bldL cs h).2.t.put (bldL cs h).2.next (some (.ro (lenL (bldL cs h).1) (trOf (bldL cs h).1 0 .e))), Nat.succ (bldL cs h).2.next⟩) := by
  rw [bldL_eq]; rfl
theorem bld_agg (cs : List D) (h : H) : (D.agg cs).bld h = (.agg (bldL cs h).1, (bldL cs h).2) := by rw [bldL_eq]; rfl
theorem bld_tup (cs : List D) (h : H) : (D.tup cs).bld h = (.tup (bldL cs h).1, (bldL cs h).2) := by rw [bldL_eq]; rfl

def AllRo (g : G) (h : H) : Prop := (∀ id b, h.blk id = some b → b.isRo = true) ∧ ∀ id x, g id = some x → ∃ b, h.blk id = some b
theorem AllRo.kin {g : G} {h : H} (a : AllRo g h) {id : Nat} {b : Blk} (e : h.blk id = some b) : b.kin = none := Blk.isRo_kin (a.1 id b e)
/-- A block to be read, over a place of the world. -/
theorem WR.over {T : Ty} {b o z : Nat} {g : G} {h : H} {w : World} (r : WR T g h w) (hro : ∀ i o' z' k, g i = some (b, o', z') → h.blk i = some k → k.live = true → k.isRo = true) (hk : h.next < keys) {c : Array Value} {t : TypeId} {vs : List V} {xs : List Value}
    (hw : w.heap[b]? = some (.cells c t (0, 0))) (hs : c.size = o + z) (hv : VRs g vs xs) (hx : ∀ j u, xs[j]? = some u → c[o + j]? = some u) (hz : xs.length ≤ z) (hy : xs.length ≤ keys) (h1 : ∀ v, v ∈ vs → oneCell v = true) :
    WR T (gput g h.next (b, o, z)) ⟨h.t.put h.next (some (.ro (lenL vs) (trOf vs 0 .e))), Nat.succ h.next⟩ w ∧ g.le (gput g h.next (b, o, z)) ∧ (∀ j, (⟨h.t.put h.next (some (.ro (lenL vs) (trOf vs 0 .e))), Nat.succ h.next⟩ : H).blk j = if j = h.next then some (.ro (lenL vs) (trOf vs 0 .e)) else h.blk j) ∧ g h.next = none := by
  have hn : H.new h (.ro (lenL vs) (trOf vs 0 .e)) = some ⟨h.t.put h.next (some (.ro (lenL vs) (trOf vs 0 .e))), Nat.succ h.next⟩ := by
    unfold H.new
    rw [oif_some]
    exact ⟨by simpa using hk, rfl⟩
  obtain ⟨r1, e1, e2, e3⟩ := r.add hn (.inl rfl)
  have le := gput_le (b, o, z) e3
  have hblk := e2
  have kin' : Kin h ⟨h.t.put h.next (some (.ro (lenL vs) (trOf vs 0 .e))), Nat.succ h.next⟩ := fun i b' k p q => by
    have hi : i ≠ h.next := fun e => by have := r.top i _ p; omega
    exact ⟨b', by rw [hblk, if_neg hi]; exact p, q⟩
  have cases' : ∀ {i : Nat} {x : Nat × Nat × Nat}, gput g h.next (b, o, z) i = some x → (i = h.next ∧ x = (b, o, z)) ∨ (i ≠ h.next ∧ g i = some x) := by
    intro i x e
    by_cases h1 : i = h.next
    · subst h1; rw [gput_same] at e; exact .inl ⟨rfl, (Option.some.inj e).symm⟩
    · rw [gput_ne _ h1] at e; exact .inr ⟨h1, e⟩
  refine ⟨⟨r1.bound, r1.top, fun i x e => ?_, fun i b' o' z' e => ?_, fun i x k k1 k2 => ?_, fun i j b' o1 z1 o2 z2 bi bj hij k1 k2 k3 k4 l1 l2 => ?_, fun i q j d ch k1 k2 => ?_, fun i q j d ch q' k1 k2 k3 => ?_⟩, le, hblk, e3⟩
  · rcases cases' e with ⟨rfl, _⟩ | ⟨_, e⟩
    · exact Nat.lt_succ_self _
    · exact Nat.lt_succ_of_lt (r.dom _ _ e)
  · rcases cases' e with ⟨_, e⟩ | ⟨_, e⟩
    · cases e; exact (Array.getElem?_eq_some_iff.1 hw).1
    · exact r.lt _ _ _ _ e
  · rcases cases' k1 with ⟨rfl, e⟩ | ⟨h2, e⟩
    · rw [hblk, if_pos rfl] at k2
      cases k2
      refine ⟨b, o, z, c, t, gput_same _ _ _, hw, hs, ?_, ?_, fun j v hj hg => ?_⟩
      · rw [lenL_eq, hv.length]; exact hz
      · rw [lenL_eq, hv.length]; exact hy
      · rw [lenL_eq] at hj
        rw [trOf_get vs 0 .e j (by rw [hv.length]; omega), if_pos (by omega)] at hg
        obtain ⟨u, m1, m2⟩ := hv.get (i := j) (by simpa using hg)
        exact ⟨u, hx j u m1, m2.mono le, h1 v (List.mem_of_getElem? (by simpa using hg))⟩
    · rw [hblk, if_neg h2] at k2
      exact (r.blk i x k e k2).mono le
  · have roAt : ∀ {k : Nat} {bk : Blk} {ok zk : Nat}, gput g h.next (b, o, z) k = some (b, ok, zk) → (⟨h.t.put h.next (some (.ro (lenL vs) (trOf vs 0 .e))), Nat.succ h.next⟩ : H).blk k = some bk → bk.live = true → bk.isRo = true := by
      intro k bk ok zk q1 q2 ql
      rw [hblk] at q2
      by_cases h2 : k = h.next
      · rw [if_pos h2] at q2; cases q2; rfl
      · rw [if_neg h2] at q2; rw [gput_ne _ h2] at q1; exact hro _ _ _ _ q1 q2 ql
    by_cases hb : b' = b
    · subst hb
      exact .inr (.inr ⟨roAt k1 k3 l1, roAt k2 k4 l2⟩)
    · rcases cases' k1 with ⟨rfl, e⟩ | ⟨hi, e1⟩
      · cases e; exact absurd rfl hb
      · rcases cases' k2 with ⟨rfl, e⟩ | ⟨hj, e2⟩
        · cases e; exact absurd rfl hb
        · have m3 := k3
          have m4 := k4
          rw [hblk, if_neg hi] at m3
          rw [hblk, if_neg hj] at m4
          rcases r.mates i j _ _ _ _ _ _ _ hij e1 e2 m3 m4 l1 l2 with ⟨d, u, q⟩ | ⟨d, u, q⟩ | q
          · exact .inl ⟨d, u.kin kin', q⟩
          · exact .inr (.inl ⟨d, u.kin kin', q⟩)
          · exact .inr (.inr q)
  · rw [hblk] at k1
    by_cases h2 : i = h.next
    · rw [if_pos h2] at k1; cases k1; cases k2
    · rw [if_neg h2] at k1
      obtain ⟨b'', up, p1, p2, p3⟩ := r.kids i q j d ch k1 k2
      have hj : j ≠ h.next := fun e => by have := r.top j _ p1; omega
      refine ⟨b'', up, by rw [hblk, if_neg hj]; exact p1, p2, fun q => ?_⟩
      rw [gput_ne _ h2] at q
      rw [gput_ne _ hj]
      exact p3 q
  · rw [hblk] at k1 k3
    by_cases h2 : i = h.next
    · rw [if_pos h2] at k1; cases k1; cases k2
    · rw [if_neg h2] at k1
      obtain ⟨b'', up, p1, p2, p3⟩ := r.kids i q j d ch k1 k2
      have hj : j ≠ h.next := fun e => by have := r.top j _ p1; omega
      rw [if_neg hj] at k3
      exact r.ext i q j d ch q' k1 k2 k3

theorem WR.overRo {T : Ty} {b o z : Nat} {g : G} {h : H} {w : World} (r : WR T g h w) (a : AllRo g h) (hk : h.next < keys) {c : Array Value} {t : TypeId} {vs : List V} {xs : List Value}
    (hw : w.heap[b]? = some (.cells c t (0, 0))) (hs : c.size = o + z) (hv : VRs g vs xs) (hx : ∀ j u, xs[j]? = some u → c[o + j]? = some u) (hz : xs.length ≤ z) (hy : xs.length ≤ keys) (h1 : ∀ v, v ∈ vs → oneCell v = true) :
    WR T (gput g h.next (b, o, z)) ⟨h.t.put h.next (some (.ro (lenL vs) (trOf vs 0 .e))), Nat.succ h.next⟩ w ∧ AllRo (gput g h.next (b, o, z)) ⟨h.t.put h.next (some (.ro (lenL vs) (trOf vs 0 .e))), Nat.succ h.next⟩ ∧ g.le (gput g h.next (b, o, z)) := by
  obtain ⟨r1, le, hblk, _⟩ := r.over (fun i _ _ k _ q _ => a.1 i k q) hk hw hs hv hx hz hy h1
  refine ⟨r1, ⟨fun id q e => ?_, fun id x e => ?_⟩, le⟩
  · rw [hblk] at e
    by_cases h2 : id = h.next
    · rw [if_pos h2] at e; cases e; rfl
    · rw [if_neg h2] at e; exact a.1 id q e
  · rw [hblk]
    by_cases h2 : id = h.next
    · rw [if_pos h2]; exact ⟨_, rfl⟩
    · rw [if_neg h2]; rw [gput_ne _ h2] at e; exact a.2 id x e

/-- A tree that is there has its memory. -/
def Built (T : Ty) (g : G) (h h' : H) (w : World) (g' : G) : Prop := WR T g' h' w ∧ AllRo g' h' ∧ g.le g' ∧ h.next ≤ h'.next
mutual
theorem bld_next : ∀ (d : D) (h : H), h.next ≤ (d.bld h).2.next
  | .v _, h => Nat.le_refl _
  | .sl len es ex cs, h => by rw [bld_sl]; exact Nat.le_succ_of_le (bldL_next cs h)
  | .agg cs, h => by rw [bld_agg]; exact bldL_next cs h
  | .tup cs, h => by rw [bld_tup]; exact bldL_next cs h
theorem bldL_next : ∀ (ds : List D) (h : H), h.next ≤ (bldL ds h).2.next
  | [], h => Nat.le_refl _
  | d :: ds, h => by rw [bldL_cons]; exact Nat.le_trans (bld_next d h) (bldL_next ds _)
end
mutual
theorem bld_ok {T : Ty} {w : World} {N : Nat → Prop} : ∀ {u : Value} {d : D}, RdD w N u d → ∀ {g : G} {h : H}, WR T g h w → AllRo g h → (d.bld h).2.next ≤ keys →
    ∃ g', Built T g h (d.bld h).2 w g' ∧ VR g' (d.bld h).1 u ∧ (d.one = true → oneCell (d.bld h).1 = true)
  | _, _, .v hf hv, g, h, r, a, _ => ⟨g, ⟨r, a, g.le_refl, Nat.le_refl _⟩, flat_vr hf hv, fun _ => flat_one hf⟩
  | _, _, .sl (b := b) (o := o) (len := len) (es := es) (cap := cap) (ex := ex) (c := c) (cs := cs) _ hw hx hl hs hk hc h1 hd, g, h, r, a, hn => by
    rw [bld_sl] at hn ⊢
    obtain ⟨g1, ⟨r1, a1, l1, n1⟩, v1, o1⟩ := bldL_ok hd r a (by have : Nat.succ (bldL cs h).2.next ≤ keys := hn; omega)
    obtain ⟨r2, a2, l2⟩ := r1.overRo a1 (show (bldL cs h).2.next < keys from hn) (z := c.size - o) hw (by omega) v1 hx (by omega) (by omega) (o1 h1)
    refine ⟨_, ⟨r2, a2, G.le_trans l1 l2, Nat.le_succ_of_le n1⟩, ?_, fun _ => ?_⟩
    · rcases hc with rfl | ⟨rfl, hc, hlc⟩
      · exact VR.slx (off := 0) (gput_same _ _ _)
      · exact VR.sli (off := 0) (gput_same _ _ _) (by omega) hlc
    · cases ex <;> rfl
  | _, _, .emp (b := b) (es := es) (ex := ex) (c := c) _ hw hc, g, h, r, a, hn => by
    rw [bld_sl] at hn ⊢
    obtain ⟨r2, a2, l2⟩ := r.overRo a (show h.next < keys from hn) (o := c.size) (z := 0) (vs := []) (xs := []) hw (by omega) .nil (by simp) (by simp) (by simp) (by simp)
    refine ⟨_, ⟨r2, a2, l2, Nat.le_succ _⟩, ?_, fun _ => ?_⟩
    · rcases hc with rfl | rfl
      · exact VR.slx0 (gput_same _ _ _)
      · exact VR.sl0 (gput_same _ _ _) (Nat.le_refl _)
    · cases ex <;> rfl
  | _, _, .agg hd, g, h, r, a, hn => by
    rw [bld_agg] at hn ⊢
    obtain ⟨g1, b1, v1, _⟩ := bldL_ok hd r a hn
    exact ⟨g1, b1, .agg v1, fun e => by cases e⟩
  | _, _, .tup hd, g, h, r, a, hn => by
    rw [bld_tup] at hn ⊢
    obtain ⟨g1, b1, v1, _⟩ := bldL_ok hd r a hn
    exact ⟨g1, b1, .tup v1, fun e => by cases e⟩
theorem bldL_ok {T : Ty} {w : World} {N : Nat → Prop} : ∀ {us : List Value} {ds : List D}, RdDs w N us ds → ∀ {g : G} {h : H}, WR T g h w → AllRo g h → (bldL ds h).2.next ≤ keys →
    ∃ g', Built T g h (bldL ds h).2 w g' ∧ VRs g' (bldL ds h).1 us ∧ ((∀ d, d ∈ ds → d.one = true) → ∀ v, v ∈ (bldL ds h).1 → oneCell v = true)
  | _, _, .nil, g, h, r, a, _ => ⟨g, ⟨r, a, g.le_refl, Nat.le_refl _⟩, .nil, fun _ v hv => by cases hv⟩
  | _, _, .cons (d := d) (ds := ds) hd ht, g, h, r, a, hn => by
    rw [bldL_cons] at hn ⊢
    have hn : (bldL ds (d.bld h).2).2.next ≤ keys := hn
    obtain ⟨g1, ⟨r1, a1, l1, n1⟩, v1, o1⟩ := bld_ok hd r a (Nat.le_trans (bldL_next ds _) hn)
    obtain ⟨g2, ⟨r2, a2, l2, n2⟩, v2, o2⟩ := bldL_ok ht r1 a1 hn
    refine ⟨g2, ⟨r2, a2, G.le_trans l1 l2, Nat.le_trans n1 n2⟩, .cons (v1.mono l2) v2, fun hone v hv => ?_⟩
    cases hv with
    | head => exact o1 (hone d (by simp))
    | tail _ hv => exact o2 (fun d' hd' => hone d' (by simp [hd'])) v hv
end

/-- The empty memory stands for any world. -/
theorem WR.empty (T : Ty) (w : World) : WR T nog ⟨.e, 0⟩ w := by
  refine ⟨Nat.zero_le _, fun id b e => ?_, fun id x e => ?_, fun id b o z e => ?_, fun id x b e => ?_, fun i j b o z o' z' bi bj _ e => ?_, fun i b j d ch e => ?_, fun i b j d ch b' e => ?_⟩
  · cases e
  · cases e
  · cases e
  · cases e
  · cases e
  · cases e
  · cases e
theorem AllRo.empty : AllRo nog ⟨.e, 0⟩ := ⟨(fun id b e => by cases e), (fun id x e => by cases e)⟩

/-- Where all memory is only read, the old blocks of the world stay. -/
theorem Ext.still {T : Ty} {g g' : G} {h h' : H} {w w' : World} (x : Ext T g h w g' h' w') (a : AllRo g h) : ∀ b : Nat, b < w.heap.size → w'.heap[b]? = w.heap[b]? := by
  intro b hlt
  by_cases hc : ∃ id o z, g id = some (b, o, z)
  · obtain ⟨id, o, z, hg⟩ := hc
    obtain ⟨q, hq⟩ := a.2 _ _ hg
    have := a.1 _ _ hq
    cases q with
    | ro n cs => exact (x.ro id b o z n cs hg hq).2
    | _ => cases this
  · exact x.keep b hlt fun id o z hg => hc ⟨id, o, z, hg⟩

theorem RdD.still {w w' : World} (k : Still w w') {n : Nat → Prop} {u : Value} {d : D} (h : RdD w n u d) : RdD w' n u d := h.keep (fun _ h => h) fun b _ => k.keep b
theorem RdDs.still {w w' : World} (k : Still w w') {n : Nat → Prop} {u : List Value} {d : List D} (h : RdDs w n u d) : RdDs w' n u d := h.keep (fun _ h => h) fun b _ => k.keep b

end Ev
end Go.Proofs.YtogbcielgfidlaaGreatDoor
namespace Go.Proofs.YtogbcielgfidlaaGreatDoor
set_option linter.unusedVariables false
set_option linter.unusedSimpArgs false
namespace Ev
noncomputable section

/- One kind of value. -/
def asInt {α : Type} (c : IntKind → Int → Option α) (v : V) : Option α :=
  V.rec (motive_1 := fun _ => Option α) (motive_2 := fun _ => Unit) (fun _ => none) c (fun _ _ => none) none (fun _ _ => none) none (fun _ _ _ _ _ _ => none) none (fun _ => none) (fun _ _ _ _ _ => none) (fun _ => none) none (fun _ _ _ => none) none (fun _ _ => none) (fun _ _ => none) () (fun _ _ _ _ => ()) v
def asBool {α : Type} (c : Bool → Option α) (v : V) : Option α :=
  V.rec (motive_1 := fun _ => Option α) (motive_2 := fun _ => Unit) c (fun _ _ => none) (fun _ _ => none) none (fun _ _ => none) none (fun _ _ _ _ _ _ => none) none (fun _ => none) (fun _ _ _ _ _ => none) (fun _ => none) none (fun _ _ _ => none) none (fun _ _ => none) (fun _ _ => none) () (fun _ _ _ _ => ()) v
def asStr {α : Type} (c : Nat → Nat → Option α) (v : V) : Option α :=
  V.rec (motive_1 := fun _ => Option α) (motive_2 := fun _ => Unit) (fun _ => none) (fun _ _ => none) c none (fun _ _ => none) none (fun _ _ _ _ _ _ => none) none (fun _ => none) (fun _ _ _ _ _ => none) (fun _ => none) none (fun _ _ _ => none) none (fun _ _ => none) (fun _ _ => none) () (fun _ _ _ _ => ()) v
def asPtr {α : Type} (c : Nat → Nat → Option α) (v : V) : Option α :=
  V.rec (motive_1 := fun _ => Option α) (motive_2 := fun _ => Unit) (fun _ => none) (fun _ _ => none) (fun _ _ => none) none c none (fun _ _ _ _ _ _ => none) none (fun _ => none) (fun _ _ _ _ _ => none) (fun _ => none) none (fun _ _ _ => none) none (fun _ _ => none) (fun _ _ => none) () (fun _ _ _ _ => ()) v
def asSl {α : Type} (n : Option α) (c : Nat → Nat → Nat → Nat → Bool → Nat → Option α) (v : V) : Option α :=
  V.rec (motive_1 := fun _ => Option α) (motive_2 := fun _ => Unit) (fun _ => none) (fun _ _ => none) (fun _ _ => none) none (fun _ _ => none) n c none (fun _ => none) (fun _ _ _ _ _ => none) (fun _ => none) none (fun _ _ _ => none) none (fun _ _ => none) (fun _ _ => none) () (fun _ _ _ _ => ()) v
def asSlF {α : Type} (n : Option α) (c : Nat → Nat → Nat → Nat → Bool → Nat → Option α) (f : Fn → List V → Option α) (v : V) : Option α :=
  V.rec (motive_1 := fun _ => Option α) (motive_2 := fun _ => Unit) (fun _ => none) (fun _ _ => none) (fun _ _ => none) none (fun _ _ => none) n c none (fun _ => none) (fun g a _ _ _ => f g a) (fun _ => none) none (fun _ _ _ => none) none (fun _ _ => none) (fun _ _ => none) () (fun _ _ _ _ => ()) v
def asMap {α : Type} (n : Option α) (c : Nat → Option α) (v : V) : Option α :=
  V.rec (motive_1 := fun _ => Option α) (motive_2 := fun _ => Unit) (fun _ => none) (fun _ _ => none) (fun _ _ => none) none (fun _ _ => none) none (fun _ _ _ _ _ _ => none) n c (fun _ _ _ _ _ => none) (fun _ => none) none (fun _ _ _ => none) none (fun _ _ => none) (fun _ _ => none) () (fun _ _ _ _ => ()) v
def asAgg {α : Type} (c : List V → Option α) (v : V) : Option α :=
  V.rec (motive_1 := fun _ => Option α) (motive_2 := fun _ => Unit) (fun _ => none) (fun _ _ => none) (fun _ _ => none) none (fun _ _ => none) none (fun _ _ _ _ _ _ => none) none (fun _ => none) (fun _ _ _ _ _ => none) (fun _ => none) none (fun _ _ _ => none) none (fun cs _ => c cs) (fun _ _ => none) () (fun _ _ _ _ => ()) v
def asTup {α : Type} (c : List V → Option α) (v : V) : Option α :=
  V.rec (motive_1 := fun _ => Option α) (motive_2 := fun _ => Unit) (fun _ => none) (fun _ _ => none) (fun _ _ => none) none (fun _ _ => none) none (fun _ _ _ _ _ _ => none) none (fun _ => none) (fun _ _ _ _ _ => none) (fun _ => none) none (fun _ _ _ => none) none (fun _ _ => none) (fun cs _ => c cs) () (fun _ _ _ _ => ()) v
def asIntStr {α : Type} (c : IntKind → Int → Option α) (s : Nat → Nat → Option α) (v : V) : Option α :=
  V.rec (motive_1 := fun _ => Option α) (motive_2 := fun _ => Unit) (fun _ => none) c s none (fun _ _ => none) none (fun _ _ _ _ _ _ => none) none (fun _ => none) (fun _ _ _ _ _ => none) (fun _ => none) none (fun _ _ _ => none) none (fun _ _ => none) (fun _ _ => none) () (fun _ _ _ _ => ()) v
def asIntStrF {α : Type} (c : IntKind → Int → Option α) (s : Nat → Nat → Option α) (f : Fn → List V → Option α) (v : V) : Option α :=
  V.rec (motive_1 := fun _ => Option α) (motive_2 := fun _ => Unit) (fun _ => none) c s none (fun _ _ => none) none (fun _ _ _ _ _ _ => none) none (fun _ => none) (fun g a _ _ _ => f g a) (fun _ => none) none (fun _ _ _ => none) none (fun _ _ => none) (fun _ _ => none) () (fun _ _ _ _ => ()) v
def yieldQ {α : Type} (r : Nat → Option α) (f : Fn) : Option α := match f with
  | .yield k => r k
  | _ => none
def cellsQ (v : V) : List V :=
  V.rec (motive_1 := fun _ => V → List V) (motive_2 := fun _ => Unit) (fun _ v => [v]) (fun _ _ v => [v]) (fun _ _ v => [v]) (fun v => [v]) (fun _ _ v => [v]) (fun v => [v]) (fun _ _ _ _ _ _ v => [v]) (fun v => [v]) (fun _ v => [v]) (fun _ _ _ _ _ v => [v]) (fun _ v => [v]) (fun v => [v]) (fun _ _ _ v => [v]) (fun v => [v]) (fun cs _ _ => cs) (fun _ _ v => [v]) () (fun _ _ _ _ => ()) v v
def oneQ (v : V) : Bool :=
  V.rec (motive_1 := fun _ => Bool) (motive_2 := fun _ => Unit) (fun _ => true) (fun _ _ => true) (fun _ _ => true) true (fun _ _ => true) true (fun _ _ _ _ _ _ => true) true (fun _ => true) (fun _ _ _ _ _ => true) (fun _ => true) true (fun _ _ _ => true) true (fun _ _ => false) (fun _ _ => false) () (fun _ _ _ _ => ()) v
theorem asInt_eq {α : Type} (c : IntKind → Int → Option α) (v : V) : asInt c v = match v with | .int k n => c k n | _ => none := by cases v <;> rfl
theorem asBool_eq {α : Type} (c : Bool → Option α) (v : V) : asBool c v = match v with | .bool b => c b | _ => none := by cases v <;> rfl
theorem asStr_eq {α : Type} (c : Nat → Nat → Option α) (v : V) : asStr c v = match v with | .str a b => c a b | _ => none := by cases v <;> rfl
theorem asPtr_eq {α : Type} (c : Nat → Nat → Option α) (v : V) : asPtr c v = match v with | .ptr a b => c a b | _ => none := by cases v <;> rfl
theorem asSl_eq {α : Type} (n : Option α) (c : Nat → Nat → Nat → Nat → Bool → Nat → Option α) (v : V) : asSl n c v = match v with | .nils => n | .sl a b d e f g => c a b d e f g | _ => none := by cases v <;> rfl
theorem asMap_eq {α : Type} (n : Option α) (c : Nat → Option α) (v : V) : asMap n c v = match v with | .nilm => n | .map a => c a | _ => none := by cases v <;> rfl
theorem asAgg_eq {α : Type} (c : List V → Option α) (v : V) : asAgg c v = match v with | .agg a => c a | _ => none := by cases v <;> rfl
theorem asTup_eq {α : Type} (c : List V → Option α) (v : V) : asTup c v = match v with | .tup a => c a | _ => none := by cases v <;> rfl
theorem asIntStr_eq {α : Type} (c : IntKind → Int → Option α) (s : Nat → Nat → Option α) (v : V) : asIntStr c s v = match v with | .int k n => c k n | .str a b => s a b | _ => none := by cases v <;> rfl
theorem cellsQ_eq (v : V) : cellsQ v = cellsOf v := by cases v <;> rfl
theorem oneQ_eq (v : V) : oneQ v = oneCell v := by cases v <;> rfl

/- Numbers. -/
def is0 : IntKind → Bool := IntKind.rec (motive := fun _ => Bool) true false false false false false false false
def is1 : IntKind → Bool := IntKind.rec (motive := fun _ => Bool) false true false false false false false false
def is2 : IntKind → Bool := IntKind.rec (motive := fun _ => Bool) false false true false false false false false
def is3 : IntKind → Bool := IntKind.rec (motive := fun _ => Bool) false false false true false false false false
def is4 : IntKind → Bool := IntKind.rec (motive := fun _ => Bool) false false false false true false false false
def is5 : IntKind → Bool := IntKind.rec (motive := fun _ => Bool) false false false false false true false false
def is6 : IntKind → Bool := IntKind.rec (motive := fun _ => Bool) false false false false false false true false
def is7 : IntKind → Bool := IntKind.rec (motive := fun _ => Bool) false false false false false false false true
def eqKQ (j : IntKind) : IntKind → Bool := IntKind.rec (motive := fun _ => IntKind → Bool) is0 is1 is2 is3 is4 is5 is6 is7 j
theorem eqKQ_eq (j k : IntKind) : eqKQ j k = eqK j k := by cases j <;> cases k <;> rfl
def wrap8 : Int → Int := wrapF .i8
def wrap16 : Int → Int := wrapF .i16
def wrap32 : Int → Int := wrapF .i32
def wrap64 (n : Int) : Int := Int.rec (motive := fun _ => Int) (fun m => Bool.rec (motive := fun _ => Int) (wrapF .i64 (Int.ofNat m)) (Int.ofNat m) (Nat.blt m 9223372036854775808)) (fun m => Bool.rec (motive := fun _ => Int) (wrapF .i64 (Int.negSucc m)) (Int.negSucc m) (Nat.blt m 9223372036854775808)) n
theorem wrap64_eq (n : Int) : wrap64 n = wrapF .i64 n := by
  cases n with
  | ofNat m =>
    show Bool.rec (motive := fun _ => Int) (wrapF .i64 (Int.ofNat m)) (Int.ofNat m) (Nat.blt m 9223372036854775808) = _
    rw [brec_eq]
    split
    · rename_i h
      have h : m < 9223372036854775808 := by simpa using h
      rw [wrapF_eq, Int.ofNat_eq_natCast]
      unfold IntKind.wrap
      have e1 : (2 : Int) ^ (IntKind.i64).bits = 18446744073709551616 := by decide
      have e2 : (2 : Int) ^ ((IntKind.i64).bits - 1) = 9223372036854775808 := by decide
      have e3 : IntKind.i64.signed = true := rfl
      simp only [e1, e2, e3, Bool.true_and, ge_iff_le, decide_eq_true_eq]
      split <;> omega
    · rfl
  | negSucc m =>
    show Bool.rec (motive := fun _ => Int) (wrapF .i64 (Int.negSucc m)) (Int.negSucc m) (Nat.blt m 9223372036854775808) = _
    rw [brec_eq]
    split
    · rename_i h
      have h : m < 9223372036854775808 := by simpa using h
      rw [wrapF_eq, Int.negSucc_eq]
      unfold IntKind.wrap
      have e1 : (2 : Int) ^ (IntKind.i64).bits = 18446744073709551616 := by decide
      have e2 : (2 : Int) ^ ((IntKind.i64).bits - 1) = 9223372036854775808 := by decide
      have e3 : IntKind.i64.signed = true := rfl
      simp only [e1, e2, e3, Bool.true_and, ge_iff_le, decide_eq_true_eq]
      split <;> omega
    · rfl
def wrapU8 : Int → Int := wrapF .u8
def wrapU16 : Int → Int := wrapF .u16
def wrapU32 : Int → Int := wrapF .u32
def wrapU64 : Int → Int := wrapF .u64
def wrapQ (k : IntKind) : Int → Int := IntKind.rec (motive := fun _ => Int → Int) wrap8 wrap16 wrap32 wrap64 wrapU8 wrapU16 wrapU32 wrapU64 k
theorem wrapQ_eq (k : IntKind) (n : Int) : wrapQ k n = wrapF k n := by
  cases k <;> first | rfl | exact wrap64_eq n
def same {α : Type} (k j : IntKind) (r : Option α) : Option α := Bool.rec (motive := fun _ => Option α) none r (eqKQ k j)
theorem same_eq {α : Type} (k j : IntKind) (r : Option α) : same k j r = oif (eqK k j) r := by
  unfold same oif
  rw [eqKQ_eq]
/-- What two numbers come to. -/
abbrev Bi (α : Type) := IntKind → Int → IntKind → Int → (V → Option α) → Option α
def biAdd {α : Type} : Bi α := fun k a j b c => same k j (c (.int k (wrapQ k (Int.add a b))))
def biSub {α : Type} : Bi α := fun k a j b c => same k j (c (.int k (wrapQ k (Int.sub a b))))
def biMul {α : Type} : Bi α := fun k a j b c => same k j (c (.int k (wrapQ k (Int.mul a b))))
def biEql {α : Type} : Bi α := fun k a j b c => same k j (c (.bool (eqI a b)))
def biNeq {α : Type} : Bi α := fun k a j b c => same k j (c (.bool (!eqI a b)))
def biLss {α : Type} : Bi α := fun k a j b c => same k j (c (.bool (ltI a b)))
def biLeq {α : Type} : Bi α := fun k a j b c => same k j (c (.bool (!ltI b a)))
def biGtr {α : Type} : Bi α := fun k a j b c => same k j (c (.bool (ltI b a)))
def biGeq {α : Type} : Bi α := fun k a j b c => same k j (c (.bool (!ltI a b)))
def biGen {α : Type} (op : BinOp) : Bi α := fun k a j b c => same k j (ob (binI op k a b) c)
def biShl {α : Type} : Bi α := fun k a _ b c => ob (shiftI .shl k a b) c
def biShr {α : Type} : Bi α := fun k a _ b c => ob (shiftI .shr k a b) c
def biQ {α : Type} (op : BinOp) : Bi α :=
  BinOp.rec (motive := fun _ => Bi α) biAdd biSub biMul (biGen .quo) (biGen .rem) (biGen .and) (biGen .or) (biGen .xor) biShl biShr (biGen .andNot) biEql biNeq biLss biLeq biGtr biGeq op
/-- What two strings come to. -/
abbrev Bs (α : Type) := Nat → Nat → Nat → Nat → (V → Option α) → Option α
def bsEql {α : Type} : Bs α := fun n a m b c => c (.bool (strEq n a m b))
def bsNeq {α : Type} : Bs α := fun n a m b c => c (.bool (!strEq n a m b))
def bsGen {α : Type} (op : BinOp) : Bs α := fun n a m b c => ob (binS op n a m b) c
def bsQ {α : Type} (op : BinOp) : Bs α :=
  BinOp.rec (motive := fun _ => Bs α) (bsGen .add) (bsGen .sub) (bsGen .mul) (bsGen .quo) (bsGen .rem) (bsGen .and) (bsGen .or) (bsGen .xor) (bsGen .shl) (bsGen .shr) (bsGen .andNot) bsEql bsNeq (bsGen .lss) (bsGen .leq) (bsGen .gtr) (bsGen .geq) op
/-- Numbers on both sides. -/
def numK {α : Type} (op : BinOp) (bi : Bi α) (k : IntKind) (a : Int) (y : V) (c : V → Option α) : Option α := asIntStrF (fun j b => bi k a j b c) (fun _ _ => none) (fun g l => yieldQ (fun j => ob (oif (isI64 k) (binG op a j l)) c) g) y
def binK {α : Type} (op : BinOp) (x y : V) (c : V → Option α) : Option α :=
  asIntStrF (fun k a => numK op (biQ op) k a y c) (fun n a => asStr (fun m b => bsQ op n a m b c) y) (fun g a => yieldQ (fun k => ob (binF op k a y) c) g) x
theorem ob_oif {α β : Type} (b : Bool) (x : Option α) (k : α → Option β) : ob (oif b x) k = oif b (ob x k) := by cases b <;> rfl
theorem binK_eq {α : Type} (op : BinOp) (x y : V) (c : V → Option α) : binK op x y c = ob (bin op x y) c := by
  unfold binK
  cases x with
  | int k a =>
    cases y with
    | int j b =>
      show biQ op k a j b c = _
      cases op <;> first
        | (show same k j _ = _; rw [same_eq]; show _ = ob (oif (eqK k j) _) c; rw [ob_oif]; simp only [wrapQ_eq]; rfl)
        | (show same k j _ = _; rw [same_eq]; show _ = ob (oif (eqK k j) _) c; rw [ob_oif]; done)
        | (show same k j _ = _; rw [same_eq]; show _ = ob (oif (eqK k j) _) c; rw [ob_oif]; rfl)
        | rfl
    | func f l r => cases f <;> rfl
    | _ => rfl
  | str n a =>
    show asStr _ y = _
    rw [asStr_eq]
    cases y with
    | str m b => cases op <;> rfl
    | _ => rfl
  | func f a b => cases f <;> first | rfl | (cases y <;> rfl)
  | _ => rfl
end
end Ev
end Go.Proofs.YtogbcielgfidlaaGreatDoor
namespace Go.Proofs.YtogbcielgfidlaaGreatDoor
set_option linter.unusedVariables false
set_option linter.unusedSimpArgs false
namespace Ev
variable [Opq]
set_option linter.unusedSectionVars false

mutual
theorem bld_blk : ∀ (d : D) (h : H), (d.bld h).2.next ≤ keys → ∀ j, j < h.next → (d.bld h).2.blk j = h.blk j
  | .v _, _, _, _, _ => rfl
  | .sl len es ex cs, h, hn, j, hj => by
    rw [bld_sl] at hn ⊢
    have hn : Nat.succ (bldL cs h).2.next ≤ keys := hn
    have hl := bldL_next cs h
    have := blk_put (bldL cs h).2 (bldL cs h).2.next j (Nat.succ (bldL cs h).2.next) (.ro (lenL (bldL cs h).1) (trOf (bldL cs h).1 0 .e)) (by omega)
    rw [if_neg (by omega)] at this
    exact this.trans (bldL_blk cs h (by omega) j hj)
  | .agg cs, h, hn, j, hj => by rw [bld_agg] at hn ⊢; exact bldL_blk cs h hn j hj
  | .tup cs, h, hn, j, hj => by rw [bld_tup] at hn ⊢; exact bldL_blk cs h hn j hj
theorem bldL_blk : ∀ (ds : List D) (h : H), (bldL ds h).2.next ≤ keys → ∀ j, j < h.next → (bldL ds h).2.blk j = h.blk j
  | [], _, _, _, _ => rfl
  | d :: ds, h, hn, j, hj => by
    rw [bldL_cons] at hn ⊢
    have hn : (bldL ds (d.bld h).2).2.next ≤ keys := hn
    have h1 := bld_next d h
    have h2 := bldL_next ds (d.bld h).2
    exact (bldL_blk ds (d.bld h).2 hn j (by omega)).trans (bld_blk d h (by omega) j hj)
end

/-- The world may change where nothing is named. -/
theorem WR.world {T : Ty} {g : G} {h : H} {w w' : World} (r : WR T g h w) (hs : w.heap.size ≤ w'.heap.size) (hk : ∀ id b o z, g id = some (b, o, z) → w'.heap[b]? = w.heap[b]?) : WR T g h w' :=
  ⟨r.bound, r.top, r.dom, fun id b o z e => Nat.lt_of_lt_of_le (r.lt id b o z e) hs, fun id x k e1 e2 => by
    obtain ⟨b, o, z⟩ := x
    exact BR.move e1 (hk _ _ _ _ e1) (r.blk _ _ _ e1 e2), r.mates, r.kids, r.ext⟩
theorem Ext.ofStill {T : Ty} {g : G} {h : H} {w w' : World} (r : WR T g h w) (k : Still w w') : Ext T g h w g h w' :=
  ⟨g.le_refl, Nat.le_refl _, r.world k.size fun id b o z e => k.keep b (r.lt _ _ _ _ e), fun _ _ e => ⟨e, rfl⟩, k.size, fun b hb _ => k.keep b hb, (fun id b o z h1 h2 => by rw [h2] at h1; cases h1), fun _ b _ _ _ _ e1 e2 => ⟨e2, k.keep b (r.lt _ _ _ _ e1)⟩, k.os, k.tape, k.output⟩

/-- What is read alone, and the program's variables among it. -/
def Base (T : Ty) (h0 : H) (w : World) : Prop := ∃ g0, WR T g0 h0 w ∧ AllRo g0 h0 ∧ Glob T g0 h0
theorem Base.still {T : Ty} {h0 : H} {w w' : World} (b : Base T h0 w) (k : Still w w') : Base T h0 w' := by
  obtain ⟨g0, h1, h2, h3⟩ := b
  exact ⟨g0, h1.world k.size fun id b o z e => k.keep b (h1.lt _ _ _ _ e), h2, h3⟩
theorem Glob.bld {T : Ty} {g g' : G} {h : H} {w : World} (r : WR T g h w) (hG : Glob T g h) (ds : List D) (hn : (bldL ds h).2.next ≤ keys) (l : g.le g') : Glob T g' (bldL ds h).2 := fun p hp => by
  obtain ⟨⟨o, z, hz, ho⟩, hb⟩ := hG p hp
  exact ⟨⟨o, z, l _ _ hz, ho⟩, (bldL_blk ds h hn _ (r.top _ _ hb)).trans hb⟩

/-- A call whose arguments are trees: what it hands back is a tree, and new. -/
noncomputable def runD (call : CallT) (m : Nat) (h0 : H) (f : FuncId) (ds : List D) : Option D :=
  Prod.rec (motive := fun _ => Option D) (fun vs h => oif (Nat.ble h.next keys) (ob (call (.fn f) vs h) fun r => Prod.rec (motive := fun _ => Option D) (fun v h' => deep h.next m h' v) r)) (bldL ds h0)
def Hands (P : Program) (f : FuncId) (us : List Value) (w : World) (d : D) : Prop :=
  ∃ fn, P.funcs[f]? = some fn ∧ fn.name ≠ "runtime.NumGoroutine" ∧ fn.body.isNone = false ∧ CallsIn Fence.wide 0 P f us.toArray w fun e w' => ∃ u, e = .returned u ∧ RdD w' (w.heap.size ≤ ·) u d ∧ Still w w'
theorem Up.last {h : H} {i j d : Nat} (u : Up h i j d) : ∃ k b d' ch, h.blk k = some b ∧ b.kin = some (some (j, d'), ch) := by
  induction u with
  | one e k => exact ⟨_, _, _, _, e, k⟩
  | step _ _ _ ih => exact ih
/-- What is made anew lies in new blocks. -/
theorem Ext.anew {T : Ty} {g g' : G} {h h' : H} {w w' : World} (x : Ext T g h w g' h' w') (r : WR T g h w) (a : AllRo g h) {id b o z : Nat} (hid : h.next ≤ id) (hc : h'.isC id = true) (hg : g' id = some (b, o, z)) : w.heap.size ≤ b := by
  have h0 : g id = none := by
    cases e : g id with
    | none => rfl
    | some y => exact absurd (r.dom _ _ e) (by omega)
  rcases x.fresh id b o z hg h0 with h1 | ⟨i, o', z', h1⟩
  · exact h1
  · exfalso
    obtain ⟨k, hk⟩ := a.2 _ _ h1
    have kro := a.1 _ _ hk
    cases k with
    | ro n cs =>
      have hk' := (x.ro i b o' z' n cs h1 hk).1
      have hlt := r.dom _ _ h1
      unfold H.isC at hc
      cases hb : h'.blk id with
      | none => rw [hb] at hc; cases hc
      | some bl =>
        rw [hb] at hc
        cases bl with
        | cells m cs' up ch =>
          rcases x.wr.mates id i b o z o' z' _ _ (by omega) hg (x.le _ _ h1) hb hk' rfl rfl with ⟨d, u, _⟩ | ⟨d, u, _⟩ | ⟨q, _⟩
          · obtain ⟨k, bk, d', ch', e1, e2⟩ := u.last
            obtain ⟨b', up', e3, e4, _⟩ := x.wr.kids _ _ _ _ _ e1 e2
            rw [hk'] at e3
            cases e3
            cases e4
          · obtain ⟨bk, y, _, e1, e2⟩ := u.first
            rw [hk'] at e1
            cases e1
            cases e2
          · cases q
        | _ => cases hc
    | _ => cases kro
theorem runD_ok {P : Program} {T : Ty} {call : CallT} (hk : CallOk P T call) {m : Nat} {h0 : H} {f : FuncId} {ds : List D} {d : D} (e : runD call m h0 f ds = some d) {w : World} {n : Nat → Prop} {us : List Value} (hb : Base T h0 w) (h : RdDs w n us ds) : Hands P f us w d := by
  have e : (oif (Nat.ble (bldL ds h0).2.next keys) (ob (call (.fn f) (bldL ds h0).1 (bldL ds h0).2) fun r => deep (bldL ds h0).2.next m r.2 r.1)) = some d := e
  obtain ⟨e1, e2⟩ := oif_some.1 e
  obtain ⟨r, e3, e4⟩ := ob_some.1 e2
  obtain ⟨g0, q1, q2, q3⟩ := hb
  have hn : (bldL ds h0).2.next ≤ keys := by simpa using e1
  obtain ⟨g, ⟨k1, k2, k4, _⟩, k3, _⟩ := bldL_ok h q1 q2 hn
  obtain ⟨fn, m1, m2, m3, m4⟩ := hk.fn f _ _ r.1 r.2 e3 g w us k1 (q3.bld q1 ds hn k4) k3
  refine ⟨fn, m1, m2, m3, m4.mono ?_⟩
  rintro x w' ⟨g', u, rfl, n1, n2⟩
  exact ⟨u, rfl, deep_ok n2.wr (fun id b o z l1 l2 l3 => n2.anew k1 k2 l1 l2 l3) m r.1 u d n1 e4, n2.size, n2.still k2, n2.os, n2.tape, n2.output⟩

/- A tree that is new, built beside what is there. -/
def NewRo (g : G) (h : H) (n : Nat → Prop) : Prop := ∀ i b o z k, g i = some (b, o, z) → n b → h.blk i = some k → k.live = true → k.isRo = true
/-- Blocks that are new, or lie where something lay. -/
def Near (g : G) (w : World) (n : Nat → Prop) : Prop := ∀ b, n b → w.heap.size ≤ b ∨ ∃ i o z, g i = some (b, o, z)
theorem Ext.addRo {T : Ty} {g g1 : G} {h h1 : H} {w0 w : World} {n : Nat → Prop} (nr : Near g w0 n) (x : Ext T g h w0 g1 h1 w) (v : NewRo g1 h1 n) (hk : h1.next < keys) {b o z : Nat} {c : Array Value} {t : TypeId} {vs : List V} {xs : List Value} (hn : n b)
    (hw : w.heap[b]? = some (.cells c t (0, 0))) (hs : c.size = o + z) (hv : VRs g1 vs xs) (hx : ∀ j u, xs[j]? = some u → c[o + j]? = some u) (hz : xs.length ≤ z) (hy : xs.length ≤ keys) (h1' : ∀ v, v ∈ vs → oneCell v = true) :
    Ext T g h w0 (gput g1 h1.next (b, o, z)) ⟨h1.t.put h1.next (some (.ro (lenL vs) (trOf vs 0 .e))), Nat.succ h1.next⟩ w ∧ NewRo (gput g1 h1.next (b, o, z)) ⟨h1.t.put h1.next (some (.ro (lenL vs) (trOf vs 0 .e))), Nat.succ h1.next⟩ n ∧ g1.le (gput g1 h1.next (b, o, z)) := by
  obtain ⟨r1, le, hblk, hnone⟩ := x.wr.over (fun i o' z' k q1 q2 q3 => v i b o' z' k q1 hn q2 q3) hk hw hs hv hx hz hy h1'
  refine ⟨⟨G.le_trans x.le le, Nat.le_succ_of_le x.next, r1, fun id hid e => ?_, x.size, x.keep, fun id b' o' z' e1 e2 => ?_, fun id b' o' z' n cs e1 e2 => ?_, x.os, x.tape, x.output⟩, fun i b' o' z' k e1 e2 e3 e4 => ?_, le⟩
  · have hne : id ≠ h1.next := by have := x.next; omega
    obtain ⟨k1, k2⟩ := x.un id hid e
    refine ⟨by rw [gput_ne _ hne]; exact k1, ?_⟩
    rw [hblk, if_neg hne]
    exact k2
  · by_cases hne : id = h1.next
    · subst hne; rw [gput_same] at e1; cases e1; exact nr _ hn
    · rw [gput_ne _ hne] at e1; exact x.fresh _ _ _ _ e1 e2
  · obtain ⟨k1, k2⟩ := x.ro id b' o' z' n cs e1 e2
    refine ⟨?_, k2⟩
    rw [hblk, if_neg (fun e => by have := x.wr.top _ _ k1; omega)]
    exact k1
  · rw [hblk] at e3
    by_cases hne : i = h1.next
    · rw [if_pos hne] at e3; cases e3; rfl
    · rw [if_neg hne] at e3; rw [gput_ne _ hne] at e1; exact v _ _ _ _ _ e1 e2 e3 e4
mutual
theorem bldF {T : Ty} {g : G} {h : H} {w0 w : World} {n : Nat → Prop} (nr : Near g w0 n) : ∀ {u : Value} {d : D}, RdD w n u d → ∀ {g1 : G} {h1 : H}, Ext T g h w0 g1 h1 w → NewRo g1 h1 n → (d.bld h1).2.next ≤ keys →
    ∃ g2, Ext T g h w0 g2 (d.bld h1).2 w ∧ NewRo g2 (d.bld h1).2 n ∧ g1.le g2 ∧ VR g2 (d.bld h1).1 u ∧ (d.one = true → oneCell (d.bld h1).1 = true)
  | _, _, .v hf hv, g1, h1, x, v, _ => ⟨g1, x, v, g1.le_refl, flat_vr hf hv, fun _ => flat_one hf⟩
  | _, _, .sl (b := b) (o := o) (len := len) (es := es) (cap := cap) (ex := ex) (c := c) (cs := cs) hm hw hx hl hs hk hc h1 hd, g1, h1', x, v, hn => by
    rw [bld_sl] at hn ⊢
    obtain ⟨g2, x2, v2, l2, k2, o2⟩ := bldFs nr hd x v (by have : Nat.succ (bldL cs h1').2.next ≤ keys := hn; omega)
    obtain ⟨x3, v3, l3⟩ := x2.addRo nr v2 (show (bldL cs h1').2.next < keys from hn) (z := c.size - o) hm hw (by omega) k2 hx (by omega) (by omega) (o2 h1)
    refine ⟨_, x3, v3, G.le_trans l2 l3, ?_, fun _ => ?_⟩
    · rcases hc with rfl | ⟨rfl, hc, hlc⟩
      · exact VR.slx (off := 0) (gput_same _ _ _)
      · exact VR.sli (off := 0) (gput_same _ _ _) (by omega) hlc
    · cases ex <;> rfl
  | _, _, .emp (b := b) (es := es) (ex := ex) (c := c) hm hw hc, g1, h1', x, v, hn => by
    rw [bld_sl] at hn ⊢
    obtain ⟨x3, v3, l3⟩ := x.addRo nr v (show h1'.next < keys from hn) (o := c.size) (z := 0) (vs := []) (xs := []) hm hw (by omega) .nil (by simp) (by simp) (by simp) (by simp)
    refine ⟨_, x3, v3, l3, ?_, fun _ => ?_⟩
    · rcases hc with rfl | rfl
      · exact VR.slx0 (gput_same _ _ _)
      · exact VR.sl0 (gput_same _ _ _) (Nat.le_refl _)
    · cases ex <;> rfl
  | _, _, .agg hd, g1, h1', x, v, hn => by
    rw [bld_agg] at hn ⊢
    obtain ⟨g2, x2, v2, l2, k2, _⟩ := bldFs nr hd x v hn
    exact ⟨g2, x2, v2, l2, .agg k2, fun e => by cases e⟩
  | _, _, .tup hd, g1, h1', x, v, hn => by
    rw [bld_tup] at hn ⊢
    obtain ⟨g2, x2, v2, l2, k2, _⟩ := bldFs nr hd x v hn
    exact ⟨g2, x2, v2, l2, .tup k2, fun e => by cases e⟩
theorem bldFs {T : Ty} {g : G} {h : H} {w0 w : World} {n : Nat → Prop} (nr : Near g w0 n) : ∀ {us : List Value} {ds : List D}, RdDs w n us ds → ∀ {g1 : G} {h1 : H}, Ext T g h w0 g1 h1 w → NewRo g1 h1 n → (bldL ds h1).2.next ≤ keys →
    ∃ g2, Ext T g h w0 g2 (bldL ds h1).2 w ∧ NewRo g2 (bldL ds h1).2 n ∧ g1.le g2 ∧ VRs g2 (bldL ds h1).1 us ∧ ((∀ d, d ∈ ds → d.one = true) → ∀ v, v ∈ (bldL ds h1).1 → oneCell v = true)
  | _, _, .nil, g1, h1, x, v, _ => ⟨g1, x, v, g1.le_refl, .nil, fun _ v hv => by cases hv⟩
  | _, _, .cons (d := d) (ds := ds) hd ht, g1, h1, x, v, hn => by
    rw [bldL_cons] at hn ⊢
    have hn : (bldL ds (d.bld h1).2).2.next ≤ keys := hn
    obtain ⟨g2, x2, v2, l2, k2, o2⟩ := bldF nr hd x v (Nat.le_trans (bldL_next ds _) hn)
    obtain ⟨g3, x3, v3, l3, k3, o3⟩ := bldFs nr ht x2 v2 hn
    refine ⟨g3, x3, v3, G.le_trans l2 l3, .cons (k2.mono l3) k3, fun hone q hq => ?_⟩
    cases hq with
    | head => exact o2 (hone d (by simp))
    | tail _ hq => exact o3 (fun d' hd' => hone d' (by simp [hd'])) q hq
end
/-- What a call hands back, built beside the memory. -/
theorem Hands.fn {P : Program} {T : Ty} {f : FuncId} {us : List Value} {w : World} {d : D} (k : Hands P f us w d) {g : G} {h : H} (r : WR T g h w) (hn : (d.bld h).2.next ≤ keys) : CallFn P T f us g h w (d.bld h).1 (d.bld h).2 := by
  obtain ⟨fn, m1, m2, m3, m4⟩ := k
  refine ⟨fn, m1, m2, m3, m4.mono ?_⟩
  rintro x w' ⟨u, rfl, k1, k2⟩
  obtain ⟨g2, x2, _, _, k3, _⟩ := bldF (fun _ h => .inl h) k1 (Ext.ofStill r k2) (fun i b o z k e1 e2 e3 _ => absurd (r.lt _ _ _ _ e1) (by omega)) hn
  exact ⟨g2, u, rfl, k3, x2⟩

/- Tables of calls that are known. -/
noncomputable section
def tBool (p : Bool → Bool) (v : V) : Bool :=
  V.rec (motive_1 := fun _ => Bool) (motive_2 := fun _ => Unit) p (fun _ _ => false) (fun _ _ => false) false (fun _ _ => false) false (fun _ _ _ _ _ _ => false) false (fun _ => false) (fun _ _ _ _ _ => false) (fun _ => false) false (fun _ _ _ => false) false (fun _ _ => false) (fun _ _ => false) () (fun _ _ _ _ => ()) v
def tInt (p : IntKind → Int → Bool) (v : V) : Bool :=
  V.rec (motive_1 := fun _ => Bool) (motive_2 := fun _ => Unit) (fun _ => false) p (fun _ _ => false) false (fun _ _ => false) false (fun _ _ _ _ _ _ => false) false (fun _ => false) (fun _ _ _ _ _ => false) (fun _ => false) false (fun _ _ _ => false) false (fun _ _ => false) (fun _ _ => false) () (fun _ _ _ _ => ()) v
def tStr (p : Nat → Nat → Bool) (v : V) : Bool :=
  V.rec (motive_1 := fun _ => Bool) (motive_2 := fun _ => Unit) (fun _ => false) (fun _ _ => false) p false (fun _ _ => false) false (fun _ _ _ _ _ _ => false) false (fun _ => false) (fun _ _ _ _ _ => false) (fun _ => false) false (fun _ _ _ => false) false (fun _ _ => false) (fun _ _ => false) () (fun _ _ _ _ => ()) v
def tNilp (v : V) : Bool :=
  V.rec (motive_1 := fun _ => Bool) (motive_2 := fun _ => Unit) (fun _ => false) (fun _ _ => false) (fun _ _ => false) true (fun _ _ => false) false (fun _ _ _ _ _ _ => false) false (fun _ => false) (fun _ _ _ _ _ => false) (fun _ => false) false (fun _ _ _ => false) false (fun _ _ => false) (fun _ _ => false) () (fun _ _ _ _ => ()) v
def tNils (v : V) : Bool :=
  V.rec (motive_1 := fun _ => Bool) (motive_2 := fun _ => Unit) (fun _ => false) (fun _ _ => false) (fun _ _ => false) false (fun _ _ => false) true (fun _ _ _ _ _ _ => false) false (fun _ => false) (fun _ _ _ _ _ => false) (fun _ => false) false (fun _ _ _ => false) false (fun _ _ => false) (fun _ _ => false) () (fun _ _ _ _ => ()) v
def tAgg (p : List V → Bool) (v : V) : Bool :=
  V.rec (motive_1 := fun _ => Bool) (motive_2 := fun _ => Unit) (fun _ => false) (fun _ _ => false) (fun _ _ => false) false (fun _ _ => false) false (fun _ _ _ _ _ _ => false) false (fun _ => false) (fun _ _ _ _ _ => false) (fun _ => false) false (fun _ _ _ => false) false (fun cs _ => p cs) (fun _ _ => false) () (fun _ _ _ _ => ()) v
/-- Is it this value? -/
def eqF (v : V) : V → Bool :=
  V.rec (motive_1 := fun _ => V → Bool) (motive_2 := fun _ => List V → Bool) (fun b => tBool (beqB b)) (fun k n => tInt fun j m => Bool.rec (motive := fun _ => Bool) false (eqI n m) (eqKQ k j)) (fun n c => tStr (strEq n c)) tNilp (fun _ _ _ => false) tNils (fun _ _ _ _ _ _ _ => false) (fun _ => false) (fun _ _ => false) (fun _ _ _ _ _ _ => false) (fun _ _ => false) (fun _ => false) (fun _ _ _ _ => false) (fun _ => false)
    (fun _ ih => tAgg ih) (fun _ _ _ => false) (fun l => List.rec (motive := fun _ => Bool) true (fun _ _ _ => false) l) (fun _ _ i1 i2 l => List.rec (motive := fun _ => Bool) false (fun y tl _ => Bool.rec (motive := fun _ => Bool) false (i2 tl) (i1 y)) l) v
def eqFs (l : List V) : List V → Bool :=
  List.rec (motive := fun _ => List V → Bool) (fun l => List.rec (motive := fun _ => Bool) true (fun _ _ _ => false) l) (fun x _ i2 l => List.rec (motive := fun _ => Bool) false (fun y tl _ => Bool.rec (motive := fun _ => Bool) false (i2 tl) (eqF x y)) l) l
def findM {α : Type} (t : List (List V × α)) (vs : List V) : Option α :=
  List.rec (motive := fun _ => Option α) none (fun e _ ih => Bool.rec (motive := fun _ => Option α) ih (some e.2) (eqFs e.1 vs)) t
def treeP (t : List (List V × D)) (vs : List V) (h : H) : Option (V × H) :=
  ob (findM t vs) fun d => Prod.rec (motive := fun _ => Option (V × H)) (fun v h' => oif (Nat.ble h'.next keys) (some (v, h'))) (d.bld h)
def toD (x : V) : D := match x with
  | .agg l => .agg (l.map .v)
  | x => .v x
def okD (x : V) : Bool := match x with
  | .agg l => l.all flat
  | x => flat x
end
theorem beqB_eq2 {a b : Bool} (h : beqB a b = true) : a = b := by cases a <;> cases b <;> first | rfl | cases h
theorem eqI_eq' {a b : Int} (h : eqI a b = true) : a = b := by
  cases a <;> cases b <;> first | cases h | (have h := Nat.eq_of_beq_eq_true h; subst h; rfl)
theorem eqKQ_eq' {k j : IntKind} (h : eqKQ k j = true) : k = j := by cases k <;> cases j <;> first | rfl | cases h
theorem eqF_eq (x : V) : ∀ y, eqF x y = true → x = y := by
  refine V.rec (motive_1 := fun x => ∀ y, eqF x y = true → x = y) (motive_2 := fun l => ∀ l', (V.rec_1 (motive_1 := fun _ => V → Bool) (motive_2 := fun _ => List V → Bool) (fun b => tBool (beqB b)) (fun k n => tInt fun j m => Bool.rec (motive := fun _ => Bool) false (eqI n m) (eqKQ k j)) (fun n c => tStr (strEq n c)) tNilp (fun _ _ _ => false) tNils (fun _ _ _ _ _ _ _ => false) (fun _ => false) (fun _ _ => false) (fun _ _ _ _ _ _ => false) (fun _ _ => false) (fun _ => false) (fun _ _ _ _ => false) (fun _ => false)
    (fun _ ih => tAgg ih) (fun _ _ _ => false) (fun l => List.rec (motive := fun _ => Bool) true (fun _ _ _ => false) l) (fun _ _ i1 i2 l => List.rec (motive := fun _ => Bool) false (fun y tl _ => Bool.rec (motive := fun _ => Bool) false (i2 tl) (i1 y)) l) l) l' = true → l = l') ?_ ?_ ?_ ?_ ?_ ?_ ?_ ?_ ?_ ?_ ?_ ?_ ?_ ?_ ?_ ?_ ?_ ?_ x
  · intro b y h; cases y <;> first | cases h | rw [beqB_eq2 h]
  · intro k n y h
    cases y with
    | int j m =>
      have h : (Bool.rec (motive := fun _ => Bool) false (eqI n m) (eqKQ k j) : Bool) = true := h
      rw [brec_eq] at h
      split at h
      · rename_i e
        rw [eqKQ_eq' e, eqI_eq' h]
      · cases h
    | _ => cases h
  · intro n c y h
    cases y with
    | str m d =>
      have h : strEq n c m d = true := h
      unfold strEq at h
      rw [brec_eq] at h
      split at h
      · rename_i e
        rw [Nat.eq_of_beq_eq_true e, Nat.eq_of_beq_eq_true h]
      · cases h
    | _ => cases h
  · intro y h; cases y <;> first | rfl | cases h
  · intro _ _ y h; cases h
  · intro y h; cases y <;> first | rfl | cases h
  · intro _ _ _ _ _ _ y h; cases h
  · intro y h; cases h
  · intro _ y h; cases h
  · intro _ _ _ _ _ y h; cases h
  · intro _ y h; cases h
  · intro y h; cases h
  · intro _ _ _ y h; cases h
  · intro y h; cases h
  · intro cs ih y h
    cases y with
    | agg l => rw [ih l h]
    | _ => cases h
  · intro _ _ y h; cases h
  · intro l h; cases l <;> first | rfl | cases h
  · intro a l i1 i2 l' h
    cases l' with
    | nil => cases h
    | cons y tl =>
      have h : (Bool.rec (motive := fun _ => Bool) false _ (eqF a y) : Bool) = true := h
      rw [brec_eq] at h
      split at h
      · rename_i e
        rw [i1 y e, i2 tl h]
      · cases h
theorem eqFs_eq : ∀ (l l' : List V), eqFs l l' = true → l = l'
  | [], [], _ => rfl
  | [], _ :: _, h => by cases h
  | _ :: _, [], h => by cases h
  | x :: l, y :: tl, h => by
    have h : (Bool.rec (motive := fun _ => Bool) false (eqFs l tl) (eqF x y) : Bool) = true := h
    rw [brec_eq] at h
    split at h
    · rename_i e
      rw [eqF_eq x y e, eqFs_eq l tl h]
    · cases h
theorem findM_some {α : Type} : ∀ {t : List (List V × α)} {vs : List V} {d : α}, findM t vs = some d → (vs, d) ∈ t
  | [], _, _, h => by cases h
  | e :: t, vs, d, h => by
    have h : (Bool.rec (motive := fun _ => Option α) (findM t vs) (some e.2) (eqFs e.1 vs) : Option α) = some d := h
    rw [brec_eq] at h
    split at h
    · rename_i k
      cases h
      rw [← eqFs_eq _ _ k]
      exact List.mem_cons_self
    · exact List.mem_cons_of_mem _ (findM_some h)
theorem flats_rd {g : G} {w : World} {n : Nat → Prop} : ∀ {l : List V} {us : List Value}, l.all flat = true → VRs g l us → RdDs w n us (l.map .v)
  | [], _, _, .nil => .nil
  | x :: l, _, h, .cons k t => by
    simp only [List.all_cons, Bool.and_eq_true] at h
    exact .cons (.v h.1 (flat_vr h.1 k)) (flats_rd h.2 t)
theorem toD_ok {g : G} {w : World} {n : Nat → Prop} {x : V} {u : Value} (h : okD x = true) (k : VR g x u) : RdD w n u (toD x) := by
  cases x with
  | agg l => cases k with
    | agg k => exact .agg (flats_rd h k)
  | _ => exact .v h (flat_vr h k)
theorem toDs_ok {g : G} {w : World} {n : Nat → Prop} : ∀ {l : List V} {us : List Value}, l.all okD = true → VRs g l us → RdDs w n us (l.map toD)
  | [], _, _, .nil => .nil
  | x :: l, _, h, .cons k t => by
    simp only [List.all_cons, Bool.and_eq_true] at h
    exact .cons (toD_ok h.1 k) (toDs_ok h.2 t)
/-- The rows of a table are what calls hand back. -/
def Rows (P : Program) (T : Ty) (f : FuncId) (t : List (List V × D)) : Prop :=
  ∀ vs d, (vs, d) ∈ t → ∀ g h w us, WR T g h w → Glob T g h → VRs g vs us → Hands P f us w d
theorem Rows.nil {P : Program} {T : Ty} {f : FuncId} : Rows P T f [] := fun _ _ h => by cases h
theorem Rows.append {P : Program} {T : Ty} {f : FuncId} {s t : List (List V × D)} (h : Rows P T f s) (k : Rows P T f t) : Rows P T f (s ++ t) := fun vs d e => by
  rcases List.mem_append.1 e with e | e
  · exact h vs d e
  · exact k vs d e
theorem Rows.prim {P : Program} {T : Ty} {f : FuncId} {t : List (List V × D)} (k : Rows P T f t) {vs : List V} {h : H} {v : V} {h' : H} (e : treeP t vs h = some (v, h')) {g : G} {w : World} {us : List Value} (r : WR T g h w) (hG : Glob T g h) (hv : VRs g vs us) : CallFn P T f us g h w v h' := by
  obtain ⟨d, e1, e2⟩ := ob_some.1 e
  have e2 : oif (Nat.ble (d.bld h).2.next keys) (some ((d.bld h).1, (d.bld h).2)) = some (v, h') := e2
  obtain ⟨e3, e4⟩ := oif_some.1 e2
  cases e4
  exact (k vs d (findM_some e1) g h w us r hG hv).fn r (by simpa using e3)
/-- Rows by runs. -/
noncomputable def rowsRun (call : CallT) (m : Nat) (h0 : H) (f : FuncId) (keys' : List (List V)) : Option (List (List V × D)) :=
  mapO (fun vs => oif (vs.all okD) (ob (runD call m h0 f (vs.map toD)) fun d => some (vs, d))) keys'
theorem rowsRun_ok {P : Program} {T : Ty} {call : CallT} (hk : CallOk P T call) {h0 : H} (hb : ∀ g h w, WR T g h w → Glob T g h → Base T h0 w) {m : Nat} {f : FuncId} : ∀ {l : List (List V)} {t : List (List V × D)}, rowsRun call m h0 f l = some t → Rows P T f t
  | [], _, e => by cases e; exact .nil
  | vs :: l, t, e => by
    unfold rowsRun at e
    rw [mapO_cons] at e
    obtain ⟨p, e1, e2⟩ := ob_some.1 e
    obtain ⟨r, e3, e4⟩ := ob_some.1 e2
    cases e4
    obtain ⟨e5, e6⟩ := oif_some.1 e1
    obtain ⟨d, e7, e8⟩ := ob_some.1 e6
    cases e8
    intro vs' d' hm
    cases hm with
    | head => exact fun g h w us r hG hv => runD_ok hk e7 (hb g h w r hG) (toDs_ok (n := fun _ => True) e5 hv)
    | tail _ hm => exact rowsRun_ok hk hb e3 vs' d' hm
end Ev
end Go.Proofs.YtogbcielgfidlaaGreatDoor
