/-
  Closed runs: from trees to trees, in whatever world; and what is known of a call by such a run.
-/
import Derived.Test.YtbfkbabolhhbaaaGreatDoorEvTree
import Derived.Test.YtbfkbabolhhbaaaGreatDoorEvFast
namespace Go.Proofs.YtbfkbabolhhbaaaGreatDoor
namespace Ev
variable [Opq]
set_option linter.unusedSectionVars false

mutual
theorem bld_blk : ∀ (d : D) (h : H), (d.bld h).2.next ≤ keys → ∀ j, j < h.next → (d.bld h).2.blk j = h.blk j
  | .v _, _, _, _, _ => rfl
  | .sl len es ex cs, h, hn, j, hj => by
    rw [bld_sl] at hn ⊢
    have hn : Nat.succ (bldL cs h).2.next ≤ keys := hn
    have hl := bldL_next cs h
    have := blk_put (bldL cs h).2 (bldL cs h).2.next j (Nat.succ (bldL cs h).2.next) (.ro (lenL (bldL cs h).1) (trOf (bldL cs h).1 0 .e)) (by omega)
    rw [if_neg (by omega)] at this
    exact this.trans (bldL_blk cs h (by omega) j hj)
  | .agg cs, h, hn, j, hj => by rw [bld_agg] at hn ⊢; exact bldL_blk cs h hn j hj
  | .tup cs, h, hn, j, hj => by rw [bld_tup] at hn ⊢; exact bldL_blk cs h hn j hj
theorem bldL_blk : ∀ (ds : List D) (h : H), (bldL ds h).2.next ≤ keys → ∀ j, j < h.next → (bldL ds h).2.blk j = h.blk j
  | [], _, _, _, _ => rfl
  | d :: ds, h, hn, j, hj => by
    rw [bldL_cons] at hn ⊢
    have hn : (bldL ds (d.bld h).2).2.next ≤ keys := hn
    have h1 := bld_next d h
    have h2 := bldL_next ds (d.bld h).2
    exact (bldL_blk ds (d.bld h).2 hn j (by omega)).trans (bld_blk d h (by omega) j hj)
end

/-- The world may change where nothing is named. -/
theorem WR.world {T : Ty} {g : G} {h : H} {w w' : World} (r : WR T g h w) (hs : w.heap.size ≤ w'.heap.size) (hk : ∀ id b o z, g id = some (b, o, z) → w'.heap[b]? = w.heap[b]?) : WR T g h w' :=
  ⟨r.bound, r.top, r.dom, fun id b o z e => Nat.lt_of_lt_of_le (r.lt id b o z e) hs, fun id x k e1 e2 => by
    obtain ⟨b, o, z⟩ := x
    exact BR.move e1 (hk _ _ _ _ e1) (r.blk _ _ _ e1 e2), r.mates, r.kids, r.ext⟩
theorem Ext.ofStill {T : Ty} {g : G} {h : H} {w w' : World} (r : WR T g h w) (k : Still w w') : Ext T g h w g h w' :=
  ⟨g.le_refl, Nat.le_refl _, r.world k.size fun id b o z e => k.keep b (r.lt _ _ _ _ e), fun _ _ e => ⟨e, rfl⟩, k.size, fun b hb _ => k.keep b hb, (fun id b o z h1 h2 => by rw [h2] at h1; cases h1), fun _ b _ _ _ _ e1 e2 => ⟨e2, k.keep b (r.lt _ _ _ _ e1)⟩, k.os, k.tape, k.output⟩

/-- What is read alone, and the program's variables among it. -/
def Base (T : Ty) (h0 : H) (w : World) : Prop := ∃ g0, WR T g0 h0 w ∧ AllRo g0 h0 ∧ Glob T g0 h0
theorem Base.still {T : Ty} {h0 : H} {w w' : World} (b : Base T h0 w) (k : Still w w') : Base T h0 w' := by
  obtain ⟨g0, h1, h2, h3⟩ := b
  exact ⟨g0, h1.world k.size fun id b o z e => k.keep b (h1.lt _ _ _ _ e), h2, h3⟩
theorem Glob.bld {T : Ty} {g g' : G} {h : H} {w : World} (r : WR T g h w) (hG : Glob T g h) (ds : List D) (hn : (bldL ds h).2.next ≤ keys) (l : g.le g') : Glob T g' (bldL ds h).2 := fun p hp => by
  obtain ⟨⟨z, hz⟩, hb⟩ := hG p hp
  exact ⟨⟨z, l _ _ hz⟩, (bldL_blk ds h hn _ (r.top _ _ hb)).trans hb⟩

/-- A call whose arguments are trees: what it hands back is a tree, and new. -/
noncomputable def runD (call : CallT) (m : Nat) (h0 : H) (f : FuncId) (ds : List D) : Option D :=
  Prod.rec (motive := fun _ => Option D) (fun vs h => oif (Nat.ble h.next keys) (ob (call (.fn f) vs h) fun r => Prod.rec (motive := fun _ => Option D) (fun v h' => deep h.next m h' v) r)) (bldL ds h0)
def Hands (P : Program) (f : FuncId) (us : List Value) (w : World) (d : D) : Prop :=
  ∃ fn, P.funcs[f]? = some fn ∧ fn.name ≠ "runtime.NumGoroutine" ∧ fn.body.isNone = false ∧ CallsIn Fence.wide 0 P f us.toArray w fun e w' => ∃ u, e = .returned u ∧ RdD w' (w.heap.size ≤ ·) u d ∧ Still w w'
theorem Up.last {h : H} {i j d : Nat} (u : Up h i j d) : ∃ k b d' ch, h.blk k = some b ∧ b.kin = some (some (j, d'), ch) := by
  induction u with
  | one e k => exact ⟨_, _, _, _, e, k⟩
  | step _ _ _ ih => exact ih
/-- What is made anew lies in new blocks. -/
theorem Ext.anew {T : Ty} {g g' : G} {h h' : H} {w w' : World} (x : Ext T g h w g' h' w') (r : WR T g h w) (a : AllRo g h) {id b o z : Nat} (hid : h.next ≤ id) (hc : h'.isC id = true) (hg : g' id = some (b, o, z)) : w.heap.size ≤ b := by
  have h0 : g id = none := by
    cases e : g id with
    | none => rfl
    | some y => exact absurd (r.dom _ _ e) (by omega)
  rcases x.fresh id b o z hg h0 with h1 | ⟨i, o', z', h1⟩
  · exact h1
  · exfalso
    obtain ⟨k, hk⟩ := a.2 _ _ h1
    have kro := a.1 _ _ hk
    cases k with
    | ro n cs =>
      have hk' := (x.ro i b o' z' n cs h1 hk).1
      have hlt := r.dom _ _ h1
      unfold H.isC at hc
      cases hb : h'.blk id with
      | none => rw [hb] at hc; cases hc
      | some bl =>
        rw [hb] at hc
        cases bl with
        | cells m cs' up ch =>
          rcases x.wr.mates id i b o z o' z' _ _ (by omega) hg (x.le _ _ h1) hb hk' rfl rfl with ⟨d, u, _⟩ | ⟨d, u, _⟩ | ⟨q, _⟩
          · obtain ⟨k, bk, d', ch', e1, e2⟩ := u.last
            obtain ⟨b', up', e3, e4, _⟩ := x.wr.kids _ _ _ _ _ e1 e2
            rw [hk'] at e3
            cases e3
            cases e4
          · obtain ⟨bk, y, _, e1, e2⟩ := u.first
            rw [hk'] at e1
            cases e1
            cases e2
          · cases q
        | _ => cases hc
    | _ => cases kro
theorem runD_ok {P : Program} {T : Ty} {call : CallT} (hk : CallOk P T call) {m : Nat} {h0 : H} {f : FuncId} {ds : List D} {d : D} (e : runD call m h0 f ds = some d) {w : World} {n : Nat → Prop} {us : List Value} (hb : Base T h0 w) (h : RdDs w n us ds) : Hands P f us w d := by
  have e : (oif (Nat.ble (bldL ds h0).2.next keys) (ob (call (.fn f) (bldL ds h0).1 (bldL ds h0).2) fun r => deep (bldL ds h0).2.next m r.2 r.1)) = some d := e
  obtain ⟨e1, e2⟩ := oif_some.1 e
  obtain ⟨r, e3, e4⟩ := ob_some.1 e2
  obtain ⟨g0, q1, q2, q3⟩ := hb
  have hn : (bldL ds h0).2.next ≤ keys := by simpa using e1
  obtain ⟨g, ⟨k1, k2, k4, _⟩, k3, _⟩ := bldL_ok h q1 q2 hn
  obtain ⟨fn, m1, m2, m3, m4⟩ := hk.fn f _ _ r.1 r.2 e3 g w us k1 (q3.bld q1 ds hn k4) k3
  refine ⟨fn, m1, m2, m3, m4.mono ?_⟩
  rintro x w' ⟨g', u, rfl, n1, n2⟩
  exact ⟨u, rfl, deep_ok n2.wr (fun id b o z l1 l2 l3 => n2.anew k1 k2 l1 l2 l3) m r.1 u d n1 e4, n2.size, n2.still k2, n2.os, n2.tape, n2.output⟩

/- A tree that is new, built beside what is there. -/
def NewRo (g : G) (h : H) (n : Nat → Prop) : Prop := ∀ i b o z k, g i = some (b, o, z) → n b → h.blk i = some k → k.live = true → k.isRo = true
/-- Blocks that are new, or lie where something lay. -/
def Near (g : G) (w : World) (n : Nat → Prop) : Prop := ∀ b, n b → w.heap.size ≤ b ∨ ∃ i o z, g i = some (b, o, z)
theorem Ext.addRo {T : Ty} {g g1 : G} {h h1 : H} {w0 w : World} {n : Nat → Prop} (nr : Near g w0 n) (x : Ext T g h w0 g1 h1 w) (v : NewRo g1 h1 n) (hk : h1.next < keys) {b o z : Nat} {c : Array Value} {t : TypeId} {vs : List V} {xs : List Value} (hn : n b)
    (hw : w.heap[b]? = some (.cells c t (0, 0))) (hs : c.size = o + z) (hv : VRs g1 vs xs) (hx : ∀ j u, xs[j]? = some u → c[o + j]? = some u) (hz : xs.length ≤ z) (hy : xs.length ≤ keys) (h1' : ∀ v, v ∈ vs → oneCell v = true) :
    Ext T g h w0 (gput g1 h1.next (b, o, z)) ⟨h1.t.put h1.next (some (.ro (lenL vs) (trOf vs 0 .e))), Nat.succ h1.next⟩ w ∧ NewRo (gput g1 h1.next (b, o, z)) ⟨h1.t.put h1.next (some (.ro (lenL vs) (trOf vs 0 .e))), Nat.succ h1.next⟩ n ∧ g1.le (gput g1 h1.next (b, o, z)) := by
  obtain ⟨r1, le, hblk, hnone⟩ := x.wr.over (fun i o' z' k q1 q2 q3 => v i b o' z' k q1 hn q2 q3) hk hw hs hv hx hz hy h1'
  refine ⟨⟨G.le_trans x.le le, Nat.le_succ_of_le x.next, r1, fun id hid e => ?_, x.size, x.keep, fun id b' o' z' e1 e2 => ?_, fun id b' o' z' n cs e1 e2 => ?_, x.os, x.tape, x.output⟩, fun i b' o' z' k e1 e2 e3 e4 => ?_, le⟩
  · have hne : id ≠ h1.next := by have := x.next; omega
    obtain ⟨k1, k2⟩ := x.un id hid e
    refine ⟨by rw [gput_ne _ hne]; exact k1, ?_⟩
    rw [hblk, if_neg hne]
    exact k2
  · by_cases hne : id = h1.next
    · subst hne; rw [gput_same] at e1; cases e1; exact nr _ hn
    · rw [gput_ne _ hne] at e1; exact x.fresh _ _ _ _ e1 e2
  · obtain ⟨k1, k2⟩ := x.ro id b' o' z' n cs e1 e2
    refine ⟨?_, k2⟩
    rw [hblk, if_neg (fun e => by have := x.wr.top _ _ k1; omega)]
    exact k1
  · rw [hblk] at e3
    by_cases hne : i = h1.next
    · rw [if_pos hne] at e3; cases e3; rfl
    · rw [if_neg hne] at e3; rw [gput_ne _ hne] at e1; exact v _ _ _ _ _ e1 e2 e3 e4
mutual
theorem bldF {T : Ty} {g : G} {h : H} {w0 w : World} {n : Nat → Prop} (nr : Near g w0 n) : ∀ {u : Value} {d : D}, RdD w n u d → ∀ {g1 : G} {h1 : H}, Ext T g h w0 g1 h1 w → NewRo g1 h1 n → (d.bld h1).2.next ≤ keys →
    ∃ g2, Ext T g h w0 g2 (d.bld h1).2 w ∧ NewRo g2 (d.bld h1).2 n ∧ g1.le g2 ∧ VR g2 (d.bld h1).1 u ∧ (d.one = true → oneCell (d.bld h1).1 = true)
  | _, _, .v hf hv, g1, h1, x, v, _ => ⟨g1, x, v, g1.le_refl, flat_vr hf hv, fun _ => flat_one hf⟩
  | _, _, .sl (b := b) (o := o) (len := len) (es := es) (cap := cap) (ex := ex) (c := c) (cs := cs) hm hw hx hl hs hk hc h1 hd, g1, h1', x, v, hn => by
    rw [bld_sl] at hn ⊢
    obtain ⟨g2, x2, v2, l2, k2, o2⟩ := bldFs nr hd x v (by have : Nat.succ (bldL cs h1').2.next ≤ keys := hn; omega)
    obtain ⟨x3, v3, l3⟩ := x2.addRo nr v2 (show (bldL cs h1').2.next < keys from hn) (z := c.size - o) hm hw (by omega) k2 hx (by omega) (by omega) (o2 h1)
    refine ⟨_, x3, v3, G.le_trans l2 l3, ?_, fun _ => ?_⟩
    · rcases hc with rfl | ⟨rfl, hc, hlc⟩
      · exact VR.slx (off := 0) (gput_same _ _ _)
      · exact VR.sli (off := 0) (gput_same _ _ _) (by omega) hlc
    · cases ex <;> rfl
  | _, _, .emp (b := b) (es := es) (ex := ex) (c := c) hm hw hc, g1, h1', x, v, hn => by
    rw [bld_sl] at hn ⊢
    obtain ⟨x3, v3, l3⟩ := x.addRo nr v (show h1'.next < keys from hn) (o := c.size) (z := 0) (vs := []) (xs := []) hm hw (by omega) .nil (by simp) (by simp) (by simp) (by simp)
    refine ⟨_, x3, v3, l3, ?_, fun _ => ?_⟩
    · rcases hc with rfl | rfl
      · exact VR.slx0 (gput_same _ _ _)
      · exact VR.sl0 (gput_same _ _ _) (Nat.le_refl _)
    · cases ex <;> rfl
  | _, _, .agg hd, g1, h1', x, v, hn => by
    rw [bld_agg] at hn ⊢
    obtain ⟨g2, x2, v2, l2, k2, _⟩ := bldFs nr hd x v hn
    exact ⟨g2, x2, v2, l2, .agg k2, fun e => by cases e⟩
  | _, _, .tup hd, g1, h1', x, v, hn => by
    rw [bld_tup] at hn ⊢
    obtain ⟨g2, x2, v2, l2, k2, _⟩ := bldFs nr hd x v hn
    exact ⟨g2, x2, v2, l2, .tup k2, fun e => by cases e⟩
theorem bldFs {T : Ty} {g : G} {h : H} {w0 w : World} {n : Nat → Prop} (nr : Near g w0 n) : ∀ {us : List Value} {ds : List D}, RdDs w n us ds → ∀ {g1 : G} {h1 : H}, Ext T g h w0 g1 h1 w → NewRo g1 h1 n → (bldL ds h1).2.next ≤ keys →
    ∃ g2, Ext T g h w0 g2 (bldL ds h1).2 w ∧ NewRo g2 (bldL ds h1).2 n ∧ g1.le g2 ∧ VRs g2 (bldL ds h1).1 us ∧ ((∀ d, d ∈ ds → d.one = true) → ∀ v, v ∈ (bldL ds h1).1 → oneCell v = true)
  | _, _, .nil, g1, h1, x, v, _ => ⟨g1, x, v, g1.le_refl, .nil, fun _ v hv => by cases hv⟩
  | _, _, .cons (d := d) (ds := ds) hd ht, g1, h1, x, v, hn => by
    rw [bldL_cons] at hn ⊢
    have hn : (bldL ds (d.bld h1).2).2.next ≤ keys := hn
    obtain ⟨g2, x2, v2, l2, k2, o2⟩ := bldF nr hd x v (Nat.le_trans (bldL_next ds _) hn)
    obtain ⟨g3, x3, v3, l3, k3, o3⟩ := bldFs nr ht x2 v2 hn
    refine ⟨g3, x3, v3, G.le_trans l2 l3, .cons (k2.mono l3) k3, fun hone q hq => ?_⟩
    cases hq with
    | head => exact o2 (hone d (by simp))
    | tail _ hq => exact o3 (fun d' hd' => hone d' (by simp [hd'])) q hq
end
/-- What a call hands back, built beside the memory. -/
theorem Hands.fn {P : Program} {T : Ty} {f : FuncId} {us : List Value} {w : World} {d : D} (k : Hands P f us w d) {g : G} {h : H} (r : WR T g h w) (hn : (d.bld h).2.next ≤ keys) : CallFn P T f us g h w (d.bld h).1 (d.bld h).2 := by
  obtain ⟨fn, m1, m2, m3, m4⟩ := k
  refine ⟨fn, m1, m2, m3, m4.mono ?_⟩
  rintro x w' ⟨u, rfl, k1, k2⟩
  obtain ⟨g2, x2, _, _, k3, _⟩ := bldF (fun _ h => .inl h) k1 (Ext.ofStill r k2) (fun i b o z k e1 e2 e3 _ => absurd (r.lt _ _ _ _ e1) (by omega)) hn
  exact ⟨g2, u, rfl, k3, x2⟩

/- Tables of calls that are known. -/
noncomputable section
def tBool (p : Bool → Bool) (v : V) : Bool :=
  V.rec (motive_1 := fun _ => Bool) (motive_2 := fun _ => Unit) p (fun _ _ => false) (fun _ _ => false) false (fun _ _ => false) false (fun _ _ _ _ _ _ => false) false (fun _ => false) (fun _ _ _ _ _ => false) (fun _ => false) false (fun _ _ _ => false) false (fun _ _ => false) (fun _ _ => false) () (fun _ _ _ _ => ()) v
def tInt (p : IntKind → Int → Bool) (v : V) : Bool :=
  V.rec (motive_1 := fun _ => Bool) (motive_2 := fun _ => Unit) (fun _ => false) p (fun _ _ => false) false (fun _ _ => false) false (fun _ _ _ _ _ _ => false) false (fun _ => false) (fun _ _ _ _ _ => false) (fun _ => false) false (fun _ _ _ => false) false (fun _ _ => false) (fun _ _ => false) () (fun _ _ _ _ => ()) v
def tStr (p : Nat → Nat → Bool) (v : V) : Bool :=
  V.rec (motive_1 := fun _ => Bool) (motive_2 := fun _ => Unit) (fun _ => false) (fun _ _ => false) p false (fun _ _ => false) false (fun _ _ _ _ _ _ => false) false (fun _ => false) (fun _ _ _ _ _ => false) (fun _ => false) false (fun _ _ _ => false) false (fun _ _ => false) (fun _ _ => false) () (fun _ _ _ _ => ()) v
def tNilp (v : V) : Bool :=
  V.rec (motive_1 := fun _ => Bool) (motive_2 := fun _ => Unit) (fun _ => false) (fun _ _ => false) (fun _ _ => false) true (fun _ _ => false) false (fun _ _ _ _ _ _ => false) false (fun _ => false) (fun _ _ _ _ _ => false) (fun _ => false) false (fun _ _ _ => false) false (fun _ _ => false) (fun _ _ => false) () (fun _ _ _ _ => ()) v
def tNils (v : V) : Bool :=
  V.rec (motive_1 := fun _ => Bool) (motive_2 := fun _ => Unit) (fun _ => false) (fun _ _ => false) (fun _ _ => false) false (fun _ _ => false) true (fun _ _ _ _ _ _ => false) false (fun _ => false) (fun _ _ _ _ _ => false) (fun _ => false) false (fun _ _ _ => false) false (fun _ _ => false) (fun _ _ => false) () (fun _ _ _ _ => ()) v
def tAgg (p : List V → Bool) (v : V) : Bool :=
  V.rec (motive_1 := fun _ => Bool) (motive_2 := fun _ => Unit) (fun _ => false) (fun _ _ => false) (fun _ _ => false) false (fun _ _ => false) false (fun _ _ _ _ _ _ => false) false (fun _ => false) (fun _ _ _ _ _ => false) (fun _ => false) false (fun _ _ _ => false) false (fun cs _ => p cs) (fun _ _ => false) () (fun _ _ _ _ => ()) v
/-- Is it this value? -/
def eqF (v : V) : V → Bool :=
  V.rec (motive_1 := fun _ => V → Bool) (motive_2 := fun _ => List V → Bool) (fun b => tBool (beqB b)) (fun k n => tInt fun j m => Bool.rec (motive := fun _ => Bool) false (eqI n m) (eqKQ k j)) (fun n c => tStr (strEq n c)) tNilp (fun _ _ _ => false) tNils (fun _ _ _ _ _ _ _ => false) (fun _ => false) (fun _ _ => false) (fun _ _ _ _ _ _ => false) (fun _ _ => false) (fun _ => false) (fun _ _ _ _ => false) (fun _ => false)
    (fun _ ih => tAgg ih) (fun _ _ _ => false) (fun l => List.rec (motive := fun _ => Bool) true (fun _ _ _ => false) l) (fun _ _ i1 i2 l => List.rec (motive := fun _ => Bool) false (fun y tl _ => Bool.rec (motive := fun _ => Bool) false (i2 tl) (i1 y)) l) v
def eqFs (l : List V) : List V → Bool :=
  List.rec (motive := fun _ => List V → Bool) (fun l => List.rec (motive := fun _ => Bool) true (fun _ _ _ => false) l) (fun x _ i2 l => List.rec (motive := fun _ => Bool) false (fun y tl _ => Bool.rec (motive := fun _ => Bool) false (i2 tl) (eqF x y)) l) l
def findM {α : Type} (t : List (List V × α)) (vs : List V) : Option α :=
  List.rec (motive := fun _ => Option α) none (fun e _ ih => Bool.rec (motive := fun _ => Option α) ih (some e.2) (eqFs e.1 vs)) t
def treeP (t : List (List V × D)) (vs : List V) (h : H) : Option (V × H) :=
  ob (findM t vs) fun d => Prod.rec (motive := fun _ => Option (V × H)) (fun v h' => oif (Nat.ble h'.next keys) (some (v, h'))) (d.bld h)
def toD (x : V) : D := match x with
  | .agg l => .agg (l.map .v)
  | x => .v x
def okD (x : V) : Bool := match x with
  | .agg l => l.all flat
  | x => flat x
end
theorem beqB_eq2 {a b : Bool} (h : beqB a b = true) : a = b := by cases a <;> cases b <;> first | rfl | cases h
theorem eqI_eq' {a b : Int} (h : eqI a b = true) : a = b := by
  cases a <;> cases b <;> first | cases h | (have h := Nat.eq_of_beq_eq_true h; subst h; rfl)
theorem eqKQ_eq' {k j : IntKind} (h : eqKQ k j = true) : k = j := by cases k <;> cases j <;> first | rfl | cases h
theorem eqF_eq (x : V) : ∀ y, eqF x y = true → x = y := by
  refine V.rec (motive_1 := fun x => ∀ y, eqF x y = true → x = y) (motive_2 := fun l => ∀ l', (V.rec_1 (motive_1 := fun _ => V → Bool) (motive_2 := fun _ => List V → Bool) (fun b => tBool (beqB b)) (fun k n => tInt fun j m => Bool.rec (motive := fun _ => Bool) false (eqI n m) (eqKQ k j)) (fun n c => tStr (strEq n c)) tNilp (fun _ _ _ => false) tNils (fun _ _ _ _ _ _ _ => false) (fun _ => false) (fun _ _ => false) (fun _ _ _ _ _ _ => false) (fun _ _ => false) (fun _ => false) (fun _ _ _ _ => false) (fun _ => false)
    (fun _ ih => tAgg ih) (fun _ _ _ => false) (fun l => List.rec (motive := fun _ => Bool) true (fun _ _ _ => false) l) (fun _ _ i1 i2 l => List.rec (motive := fun _ => Bool) false (fun y tl _ => Bool.rec (motive := fun _ => Bool) false (i2 tl) (i1 y)) l) l) l' = true → l = l') ?_ ?_ ?_ ?_ ?_ ?_ ?_ ?_ ?_ ?_ ?_ ?_ ?_ ?_ ?_ ?_ ?_ ?_ x
  · intro b y h; cases y <;> first | cases h | rw [beqB_eq2 h]
  · intro k n y h
    cases y with
    | int j m =>
      have h : (Bool.rec (motive := fun _ => Bool) false (eqI n m) (eqKQ k j) : Bool) = true := h
      rw [brec_eq] at h
      split at h
      · rename_i e
        rw [eqKQ_eq' e, eqI_eq' h]
      · cases h
    | _ => cases h
  · intro n c y h
    cases y with
    | str m d =>
      have h : strEq n c m d = true := h
      unfold strEq at h
      rw [brec_eq] at h
      split at h
      · rename_i e
        rw [Nat.eq_of_beq_eq_true e, Nat.eq_of_beq_eq_true h]
      · cases h
    | _ => cases h
  · intro y h; cases y <;> first | rfl | cases h
  · intro _ _ y h; cases h
  · intro y h; cases y <;> first | rfl | cases h
  · intro _ _ _ _ _ _ y h; cases h
  · intro y h; cases h
  · intro _ y h; cases h
  · intro _ _ _ _ _ y h; cases h
  · intro _ y h; cases h
  · intro y h; cases h
  · intro _ _ _ y h; cases h
  · intro y h; cases h
  · intro cs ih y h
    cases y with
    | agg l => rw [ih l h]
    | _ => cases h
  · intro _ _ y h; cases h
  · intro l h; cases l <;> first | rfl | cases h
  · intro a l i1 i2 l' h
    cases l' with
    | nil => cases h
    | cons y tl =>
      have h : (Bool.rec (motive := fun _ => Bool) false _ (eqF a y) : Bool) = true := h
      rw [brec_eq] at h
      split at h
      · rename_i e
        rw [i1 y e, i2 tl h]
      · cases h
theorem eqFs_eq : ∀ (l l' : List V), eqFs l l' = true → l = l'
  | [], [], _ => rfl
  | [], _ :: _, h => by cases h
  | _ :: _, [], h => by cases h
  | x :: l, y :: tl, h => by
    have h : (Bool.rec (motive := fun _ => Bool) false (eqFs l tl) (eqF x y) : Bool) = true := h
    rw [brec_eq] at h
    split at h
    · rename_i e
      rw [eqF_eq x y e, eqFs_eq l tl h]
    · cases h
theorem findM_some {α : Type} : ∀ {t : List (List V × α)} {vs : List V} {d : α}, findM t vs = some d → (vs, d) ∈ t
  | [], _, _, h => by cases h
  | e :: t, vs, d, h => by
    have h : (Bool.rec (motive := fun _ => Option α) (findM t vs) (some e.2) (eqFs e.1 vs) : Option α) = some d := h
    rw [brec_eq] at h
    split at h
    · rename_i k
      cases h
      rw [← eqFs_eq _ _ k]
      exact List.mem_cons_self
    · exact List.mem_cons_of_mem _ (findM_some h)
theorem flats_rd {g : G} {w : World} {n : Nat → Prop} : ∀ {l : List V} {us : List Value}, l.all flat = true → VRs g l us → RdDs w n us (l.map .v)
  | [], _, _, .nil => .nil
  | x :: l, _, h, .cons k t => by
    simp only [List.all_cons, Bool.and_eq_true] at h
    exact .cons (.v h.1 (flat_vr h.1 k)) (flats_rd h.2 t)
theorem toD_ok {g : G} {w : World} {n : Nat → Prop} {x : V} {u : Value} (h : okD x = true) (k : VR g x u) : RdD w n u (toD x) := by
  cases x with
  | agg l => cases k with
    | agg k => exact .agg (flats_rd h k)
  | _ => exact .v h (flat_vr h k)
theorem toDs_ok {g : G} {w : World} {n : Nat → Prop} : ∀ {l : List V} {us : List Value}, l.all okD = true → VRs g l us → RdDs w n us (l.map toD)
  | [], _, _, .nil => .nil
  | x :: l, _, h, .cons k t => by
    simp only [List.all_cons, Bool.and_eq_true] at h
    exact .cons (toD_ok h.1 k) (toDs_ok h.2 t)
/-- The rows of a table are what calls hand back. -/
def Rows (P : Program) (T : Ty) (f : FuncId) (t : List (List V × D)) : Prop :=
  ∀ vs d, (vs, d) ∈ t → ∀ g h w us, WR T g h w → Glob T g h → VRs g vs us → Hands P f us w d
theorem Rows.nil {P : Program} {T : Ty} {f : FuncId} : Rows P T f [] := fun _ _ h => by cases h
theorem Rows.append {P : Program} {T : Ty} {f : FuncId} {s t : List (List V × D)} (h : Rows P T f s) (k : Rows P T f t) : Rows P T f (s ++ t) := fun vs d e => by
  rcases List.mem_append.1 e with e | e
  · exact h vs d e
  · exact k vs d e
theorem Rows.prim {P : Program} {T : Ty} {f : FuncId} {t : List (List V × D)} (k : Rows P T f t) {vs : List V} {h : H} {v : V} {h' : H} (e : treeP t vs h = some (v, h')) {g : G} {w : World} {us : List Value} (r : WR T g h w) (hG : Glob T g h) (hv : VRs g vs us) : CallFn P T f us g h w v h' := by
  obtain ⟨d, e1, e2⟩ := ob_some.1 e
  have e2 : oif (Nat.ble (d.bld h).2.next keys) (some ((d.bld h).1, (d.bld h).2)) = some (v, h') := e2
  obtain ⟨e3, e4⟩ := oif_some.1 e2
  cases e4
  exact (k vs d (findM_some e1) g h w us r hG hv).fn r (by simpa using e3)
/-- Rows by runs. -/
noncomputable def rowsRun (call : CallT) (m : Nat) (h0 : H) (f : FuncId) (keys' : List (List V)) : Option (List (List V × D)) :=
  mapO (fun vs => oif (vs.all okD) (ob (runD call m h0 f (vs.map toD)) fun d => some (vs, d))) keys'
theorem rowsRun_ok {P : Program} {T : Ty} {call : CallT} (hk : CallOk P T call) {h0 : H} (hb : ∀ g h w, WR T g h w → Glob T g h → Base T h0 w) {m : Nat} {f : FuncId} : ∀ {l : List (List V)} {t : List (List V × D)}, rowsRun call m h0 f l = some t → Rows P T f t
  | [], _, e => by cases e; exact .nil
  | vs :: l, t, e => by
    unfold rowsRun at e
    rw [mapO_cons] at e
    obtain ⟨p, e1, e2⟩ := ob_some.1 e
    obtain ⟨r, e3, e4⟩ := ob_some.1 e2
    cases e4
    obtain ⟨e5, e6⟩ := oif_some.1 e1
    obtain ⟨d, e7, e8⟩ := ob_some.1 e6
    cases e8
    intro vs' d' hm
    cases hm with
    | head => exact fun g h w us r hG hv => runD_ok hk e7 (hb g h w r hG) (toDs_ok (n := fun _ => True) e5 hv)
    | tail _ hm => exact rowsRun_ok hk hb e3 vs' d' hm
/-- The one variable that is pinned. -/
theorem base_of {T : Ty} {b n : Nat} {l : List V} (hp : T.pin = [(0, b, n, trOf l 0 .e)]) (hn : n = l.length) (hf : l.all flat = true) {g : G} {h : H} {w : World} (r : WR T g h w) (hG : Glob T g h) : Base T ⟨Tr.put .e 0 (some (.ro n (trOf l 0 .e))), 1⟩ w := by
  subst hn
  obtain ⟨⟨z, hz⟩, hb⟩ := hG _ (by rw [hp]; exact List.mem_singleton.2 rfl)
  have hz : g 0 = some (b, 0, z) := hz
  have hb : h.blk 0 = some (.ro l.length (trOf l 0 .e)) := hb
  obtain ⟨b', o', z', c, t, k1, k2, k3, k4, k5, k6⟩ := r.blk 0 _ _ hz hb
  rw [hz] at k1
  cases k1
  have key0 : ∀ j, (⟨Tr.put .e 0 (some (.ro l.length (trOf l 0 .e))), 1⟩ : H).blk j = if j = 0 then some (.ro l.length (trOf l 0 .e)) else none := fun j => by
    show Tr.get _ _ = _
    rw [Tr.get_put _ _ _ _ (by decide)]
    rfl
  have g0 : ∀ {j : Nat} {x : Nat × Nat × Nat}, gput nog 0 (b, 0, z) j = some x → j = 0 ∧ x = (b, 0, z) := by
    intro j x e
    by_cases hj : j = 0
    · subst hj; rw [gput_same] at e; cases e; exact ⟨rfl, rfl⟩
    · rw [gput_ne _ hj] at e; cases e
  refine ⟨gput nog 0 (b, 0, z), ⟨by show 1 ≤ keys; decide, fun id k e => ?_, fun id x e => ?_, fun id b' o z' e => ?_, fun id x k e1 e2 => ?_, fun i j b' o z' o2 z2 bi bj hij e1 e2 => ?_, fun i k j d ch e1 e2 => ?_, fun i k j d ch k' e1 e2 => ?_⟩, ⟨fun id k e => ?_, fun id x e => ?_⟩, fun p hpp => ?_⟩
  · rw [key0] at e
    split at e
    · rename_i q; rw [q]; exact Nat.zero_lt_one
    · cases e
  · obtain ⟨rfl, _⟩ := g0 e; exact Nat.zero_lt_one
  · obtain ⟨_, q⟩ := g0 e; cases q; exact r.lt _ _ _ _ hz
  · obtain ⟨rfl, rfl⟩ := g0 e1
    rw [key0, if_pos rfl] at e2
    cases e2
    refine ⟨b, 0, z, c, t, gput_same _ _ _, k2, k3, k4, k5, fun j v hj hv => ?_⟩
    obtain ⟨u, m1, m2, m3⟩ := k6 j v hj hv
    refine ⟨u, m1, flat_vr ?_ m2, m3⟩
    rw [trOf_get l 0 .e j (by have : (1000 : Nat) ≤ keys := by decide
                              omega), if_pos (by omega)] at hv
    exact List.all_eq_true.1 hf v (List.mem_of_getElem? (by simpa using hv))
  · exact absurd ((g0 e1).1.trans (g0 e2).1.symm) hij
  · rw [key0] at e1
    split at e1
    · cases e1; cases e2
    · cases e1
  · rw [key0] at e1
    split at e1
    · cases e1; cases e2
    · cases e1
  · rw [key0] at e
    split at e
    · cases e; rfl
    · cases e
  · obtain ⟨rfl, _⟩ := g0 e; exact ⟨_, by rw [key0, if_pos rfl]⟩
  · rw [hp] at hpp
    cases List.mem_singleton.1 hpp
    exact ⟨⟨z, gput_same _ _ _⟩, by rw [key0, if_pos rfl]⟩
end Ev
end Go.Proofs.YtbfkbabolhhbaaaGreatDoor
