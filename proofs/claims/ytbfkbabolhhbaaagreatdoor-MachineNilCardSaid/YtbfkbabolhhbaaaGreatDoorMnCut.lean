/-
  A run in parts: memory that is needed no more is left out in between.
-/
import Derived.Test.YtbfkbabolhhbaaaGreatDoorMnRun1
namespace Go.Proofs.YtbfkbabolhhbaaaGreatDoor
namespace Ev
variable [Opq]
set_option linter.unusedSectionVars false
/-- The same block, or less of it. -/
def BlkLe (b' b : Blk) : Prop :=
  (∃ n cs' cs ch, b' = .cells n cs' none ch ∧ b = .cells n cs none ch ∧ ∀ j v, j < n → cs'.get j = some v → cs.get j = some v) ∨ (b' = b ∧ b.kin = none)
/-- A memory with fewer blocks. -/
structure Sub (hL h : H) : Prop where
  next : hL.next = h.next
  blk : ∀ id b', hL.blk id = some b' → ∃ b, h.blk id = some b ∧ BlkLe b' b
theorem BlkLe.up {b' b : Blk} (k : BlkLe b' b) : (∀ y ch, ¬ b.kin = some (some y, ch)) ∧ (∀ y ch, ¬ b'.kin = some (some y, ch)) ∧ b'.live = b.live ∧ b'.isRo = b.isRo := by
  rcases k with ⟨n, cs', cs, ch, rfl, rfl, _⟩ | ⟨rfl, k⟩
  · exact ⟨fun _ _ e => (by cases e), fun _ _ e => (by cases e), rfl, rfl⟩
  · exact ⟨fun _ _ e => (by rw [k] at e; cases e), fun _ _ e => (by rw [k] at e; cases e), rfl, rfl⟩
theorem Up.first0 {h : H} {i j d : Nat} (u : Up h i j d) : ∃ b y ch, h.blk i = some b ∧ b.kin = some (some y, ch) := by
  cases u with
  | one e k => exact ⟨_, _, _, e, k⟩
  | step e k _ => exact ⟨_, _, _, e, k⟩
theorem WR.drop {g : G} {h hL : H} {w : World} (r : WR TP g h w) (s : Sub hL h) : WR TP g hL w := by
  refine ⟨by rw [s.next]; exact r.bound, fun id b e => ?_, fun id x e => by rw [s.next]; exact r.dom id x e, r.lt, fun id x b' e1 e2 => ?_, fun i j b o z o' z' bi bj hij e1 e2 e3 e4 l1 l2 => ?_, fun i b j d ch e1 e2 => ?_, fun i b j d ch b' e1 e2 => ?_⟩
  · obtain ⟨k, e1, _⟩ := s.blk id b e
    rw [s.next]
    exact r.top id k e1
  · obtain ⟨b, k1, k2⟩ := s.blk id b' e2
    have := r.blk id x b e1 k1
    rcases k2 with ⟨n, cs', cs, ch, rfl, rfl, k⟩ | ⟨rfl, _⟩
    · obtain ⟨b, o, z, c, t, q1, q2, q3, q4, q5, q6⟩ := this
      exact ⟨b, o, z, c, t, q1, q2, q3, q4, q5, fun j v hj hv => q6 j v hj (k j v hj hv)⟩
    · exact this
  · obtain ⟨ki, a1, a2⟩ := s.blk i bi e3
    obtain ⟨kj, b1, b2⟩ := s.blk j bj e4
    obtain ⟨u1, _, u2, u3⟩ := a2.up
    obtain ⟨v1, _, v2, v3⟩ := b2.up
    rcases r.mates i j b o z o' z' ki kj hij e1 e2 a1 b1 (u2 ▸ l1) (v2 ▸ l2) with ⟨d, u, _⟩ | ⟨d, u, _⟩ | k
    · obtain ⟨q, y, ch, m1, m2⟩ := u.first0
      rw [a1] at m1
      cases m1
      exact absurd m2 (u1 _ _)
    · obtain ⟨q, y, ch, m1, m2⟩ := u.first0
      rw [b1] at m1
      cases m1
      exact absurd m2 (v1 _ _)
    · exact .inr (.inr ⟨u3.trans k.1, v3.trans k.2⟩)
  · obtain ⟨k, _, a2⟩ := s.blk i b e1
    exact absurd e2 (a2.up.2.1 _ _)
  · obtain ⟨k, _, a2⟩ := s.blk i b e1
    exact absurd e2 (a2.up.2.1 _ _)
/-- What holds all along: the world of the beginning stays. -/
structure Seg (w0 : World) (g : G) (h : H) (w : World) : Prop where
  wr : WR TP g h w
  glob : Glob TP g h
  still : Still w0 w
  own : ∀ id b o z, g id = some (b, o, z) → b < w0.heap.size → ∃ i o' z' n cs, (i = 0 ∨ i = 1) ∧ g i = some (b, o', z') ∧ h.blk i = some (.ro n cs)
theorem Seg.step {w0 : World} {g g' : G} {h h' : H} {w w' : World} (a : Seg w0 g h w) (x : Ext TP g h w g' h' w') : Seg w0 g' h' w' := by
  refine ⟨x.wr, a.glob.ext x, ⟨Nat.le_trans a.still.size x.size, fun b hb => ?_, x.os.trans a.still.os, x.tape.trans a.still.tape, x.output.trans a.still.output⟩, fun id b o z e hb => ?_⟩
  · refine Eq.trans ?_ (a.still.keep b hb)
    by_cases hc : ∃ id o z, g id = some (b, o, z)
    · obtain ⟨id, o, z, hg⟩ := hc
      obtain ⟨i, o', z', n, cs, _, k1, k2⟩ := a.own id b o z hg hb
      exact (x.ro i b o' z' n cs k1 k2).2
    · exact x.keep b (Nat.lt_of_lt_of_le hb a.still.size) fun id o z hg => hc ⟨id, o, z, hg⟩
  · have lift : (∃ i o z, g i = some (b, o, z)) → ∃ i o' z' n cs, (i = 0 ∨ i = 1) ∧ g' i = some (b, o', z') ∧ h'.blk i = some (.ro n cs) := by
      rintro ⟨i, o, z, hg⟩
      obtain ⟨i, o', z', n, cs, k0, k1, k2⟩ := a.own i b o z hg hb
      exact ⟨i, o', z', n, cs, k0, x.le _ _ k1, (x.ro i b o' z' n cs k1 k2).1⟩
    cases hg : g id with
    | some y =>
      rw [x.le _ _ hg] at e
      cases e
      exact lift ⟨id, o, z, hg⟩
    | none =>
      rcases x.fresh id b o z e hg with k | ⟨i, o', z', k⟩
      · exact absurd (Nat.lt_of_lt_of_le hb (Nat.le_trans a.still.size k)) (Nat.lt_irrefl _)
      · exact lift ⟨i, o', z', k⟩
theorem Seg.drop {w0 : World} {g : G} {h hL : H} {w : World} (a : Seg w0 g h w) (s : Sub hL h) (k0 : hL.blk 0 = H0.blk 0) (k1 : hL.blk 1 = H0.blk 1) : Seg w0 g hL w := by
  obtain ⟨tr, ts, e1, e2, hpin⟩ : ∃ tr ts, tr = trOf tbl 0 .e ∧ ts = trOf tbS 0 .e ∧ TP.pin = [(0, 0, 123, tr), (1, 2, 256, ts)] := ⟨_, _, rfl, rfl, rfl⟩
  have h0 := k0.trans H0_0
  have h1 := k1.trans H0_1
  rw [← e1] at h0
  rw [← e2] at h1
  refine ⟨a.wr.drop s, fun p hp => ?_, a.still, fun id b o z e hb => ?_⟩
  · refine ⟨(a.glob p hp).1, ?_⟩
    rw [hpin] at hp
    cases hp with
    | head => exact h0
    | tail _ hp =>
      obtain rfl := List.mem_singleton.1 hp
      exact h1
  · obtain ⟨i, o', z', n, cs, q0, q1, q2⟩ := a.own id b o z e hb
    rcases q0 with rfl | rfl
    · exact ⟨0, o', z', _, _, .inl rfl, q1, k0.trans H0_0⟩
    · exact ⟨1, o', z', _, _, .inr rfl, q1, k1.trans H0_1⟩
end Ev
end Go.Proofs.YtbfkbabolhhbaaaGreatDoor
namespace Go.Proofs.YtbfkbabolhhbaaaGreatDoor
namespace Ev
variable [Opq]
set_option linter.unusedSectionVars false
noncomputable section
def lft (c : CCode) : CCode := match c with
  | .seq a _ => a
  | c => c
def rgt (c : CCode) : CCode := match c with
  | .seq _ b => b
  | c => c
def isSeq (c : CCode) : Bool := match c with
  | .seq _ _ => true
  | _ => false
def rest (k : Nat) (c : CCode) : CCode := Nat.rec (motive := fun _ => CCode) c (fun _ ih => rgt ih) k
/-- The first statements, so many. -/
def pre (call : CallT) (n k : Nat) : CCode → F → H → Option (F × H) :=
  Nat.rec (motive := fun _ => CCode → F → H → Option (F × H)) (fun _ f h => some (f, h))
    (fun _ ih c f h => oif (isSeq c) (ob (exec call false n (lft c) f h) fun r => X.rec (motive := fun _ => Option (F × H)) (ih (rgt c) r.2.1 r.2.2) (fun _ => none) none r.1)) k
end
theorem isSeq_eq {c : CCode} (h : isSeq c = true) : c = .seq (lft c) (rgt c) := by cases c <;> first | rfl | cases h
theorem rest_rgt (c : CCode) : ∀ k, rest k (rgt c) = rest (k + 1) c
  | 0 => rfl
  | k + 1 => congrArg rgt (rest_rgt c k)
theorem comp_seq_of {m N : Nat} {code : Code} {a b : CCode} (e : comp TP m N code = some (.seq a b)) : ∃ x y, code = .seq x y ∧ comp TP m N x = some a ∧ comp TP m N y = some b := by
  have bad : ∀ {o : Option CCode}, (∀ c, o = some c → isSeq c = false) → orBad o = some (.seq a b) → False := by
    intro o ho e
    cases o with
    | none => cases e
    | some c =>
      have e : some c = some (CCode.seq a b) := e
      cases e
      have := ho _ rfl
      cases this
  cases code with
  | seq x y =>
    rw [comp_seq] at e
    obtain ⟨p, h1, e⟩ := ob_some.1 e
    obtain ⟨q, h2, e⟩ := ob_some.1 e
    cases e
    exact ⟨x, y, rfl, h1, h2⟩
  | region id ops d =>
    cases d with
    | false =>
      rw [comp_reg] at e
      refine (bad (fun c h => ?_) e).elim
      obtain ⟨l, _, h⟩ := ob_some.1 h
      cases h
      rfl
    | true =>
      rw [comp_regD] at e
      refine (bad (fun c h => ?_) e).elim
      obtain ⟨l, _, h⟩ := ob_some.1 h
      obtain ⟨l, _, h⟩ := ob_some.1 h
      cases h
      rfl
  | cond o x y =>
    rw [comp_cond] at e
    obtain ⟨_, _, e⟩ := ob_some.1 e
    obtain ⟨_, _, e⟩ := ob_some.1 e
    obtain ⟨_, _, e⟩ := ob_some.1 e
    cases e
  | block id c =>
    rw [comp_block] at e
    obtain ⟨_, _, e⟩ := ob_some.1 e
    cases e
  | loop c =>
    rw [comp_loop] at e
    obtain ⟨_, _, e⟩ := ob_some.1 e
    cases e
  | rangeFunc f ps x y =>
    rw [comp_range] at e
    obtain ⟨_, _, e⟩ := ob_some.1 e
    obtain ⟨_, _, e⟩ := ob_some.1 e
    obtain ⟨_, _, e⟩ := ob_some.1 e
    obtain ⟨_, _, e⟩ := ob_some.1 e
    cases e
  | _ => rw [comp] at e <;> cases e
section
variable {call : CallT} {m N n : Nat} {w0 : World} {Q : Exit → Act → World → Prop}
/-- Where a part stands. -/
structure At (m N : Nat) (w0 : World) (f : F) (h : H) (g : G) (act : Act) (w : World) : Prop where
  seg : Seg w0 g h w
  fr : FR g m N f act.tmps
  marks : Marks [] g w w0.heap.size act.defers
theorem pre_ok (hk : CallOk Tryz.prog TP call) : ∀ (k : Nat) {code : Code} {c : CCode} {f f' : F} {h h' : H} {g : G} {act : Act} {w : World}, comp TP m N code = some c → pre call n k c f h = some (f', h') → At m N w0 f h g act w →
    (∀ code' g' a' w', comp TP m N code' = some (rest k c) → At m N w0 f' h' g' a' w' → code'.wpIn (fen none) 0 Tryz.prog Q a' w') → code.wpIn (fen none) 0 Tryz.prog Q act w
  | 0, code, c, f, f', h, h', g, act, w, hc, e, a, k => by
    cases e
    exact k code g act w hc a
  | i + 1, code, c, f, f', h, h', g, act, w, hc, e, a, k => by
    obtain ⟨e1, e⟩ := oif_some.1 (show oif (isSeq c) _ = some (f', h') from e)
    obtain ⟨r, e2, e⟩ := ob_some.1 e
    obtain ⟨x, f1, h1⟩ := r
    cases x with
    | exit _ => cases e
    | ret => cases e
    | norm =>
      have e : pre call n i (rgt c) f1 h1 = some (f', h') := e
      have hc' := hc
      rw [isSeq_eq e1] at hc'
      obtain ⟨x, y, rfl, hx, hy⟩ := comp_seq_of hc'
      refine wpIn_seq (wpIn_mono (exec_ok (D := []) tyOk hk mixed n none x _ hx f h .norm f1 h1 e2 g act w w0.heap.size a.seg.wr a.seg.glob a.fr (fun _ => a.marks) a.seg.still.size) ?_)
      rintro ex a' w' ⟨g', y1, y2, y3, y4⟩
      obtain rfl := y4.norm_inv
      refine pre_ok hk i hy e ⟨a.seg.step y1, y2, y3 rfl⟩ fun code' g'' a'' w'' q1 q2 => k code' g'' a'' w'' ?_ q2
      rw [← rest_rgt]
      exact q1
end
end Ev
end Go.Proofs.YtbfkbabolhhbaaaGreatDoor
namespace Go.Proofs.YtbfkbabolhhbaaaGreatDoor
namespace Ev
variable [Opq]
set_option linter.unusedSectionVars false
theorem Seg.put {w0 : World} {g : G} {h : H} {w : World} (a : Seg w0 g h w) {r : Nat} (o : Obj) (h1 : w0.heap.size ≤ r) (h2 : ∀ id o z, g id ≠ some (r, o, z)) : Seg w0 g h (w.putObj r o) := by
  have hne : ∀ {id b o z}, g id = some (b, o, z) → b ≠ r := fun hg e => h2 _ _ _ (e ▸ hg)
  refine ⟨⟨a.wr.bound, a.wr.top, a.wr.dom, fun id b o' z e => by rw [World.putObj_size]; exact a.wr.lt _ _ _ _ e, fun id y b e1 e2 => ?_, a.wr.mates, a.wr.kids, a.wr.ext⟩, a.glob, ⟨by rw [World.putObj_size]; exact a.still.size, fun b hb => ?_, a.still.os, a.still.tape, a.still.output⟩, a.own⟩
  · obtain ⟨b', o', z⟩ := y
    exact BR.move e1 (World.putObj_heap_other (hne e1)) (a.wr.blk _ _ _ e1 e2)
  · rw [World.putObj_heap_other (by omega)]
    exact a.still.keep b hb
section
variable {w0 : World} {g : G} {h : H} {fn : Func} {tmps : Array Value}
theorem leaves_seg (hres : ∀ w, WR TP g h w → ∃ u, VR g (.bool true) u ∧ (results fn tmps).run Tryz.prog w = .ok u w) : ∀ {rs : List Nat} {w : World}, rs.Nodup → (∀ r ∈ rs, w0.heap.size ≤ r ∧ r < w.heap.size ∧ (∀ id o z, g id ≠ some (r, o, z)) ∧ w.heap[r]? = some (.deferred (some []))) →
    Seg w0 g h w → LeavesInM Fence.wide 0 Tryz.prog fn tmps (fun e w' => e = .returned (.bool true) ∧ Still w0 w') (rs.map markOf) .returning w
  | [], w, _, _, x => by
    obtain ⟨u, h1, h2⟩ := hres w x.wr
    cases h1
    exact ⟨_, h2, rfl, x.still⟩
  | r :: rs, w, hn, hm, x => by
    rw [List.nodup_cons] at hn
    obtain ⟨k1, k2, k3, k4⟩ := hm r List.mem_cons_self
    refine ⟨(fun e => by cases e), .inl ⟨r, _, rfl, run_takeDeferred k4, leaves_seg hres hn.2 (fun s hs => ?_) (x.put _ k1 k3)⟩⟩
    obtain ⟨q1, q2, q3, q4⟩ := hm s (List.mem_cons_of_mem _ hs)
    have hne : s ≠ r := fun e => hn.1 (e ▸ hs)
    exact ⟨q1, by rw [World.putObj_size]; exact q2, q3, by rw [World.putObj_heap_other hne]; exact q4⟩
end
section
variable {call : CallT} {m N n : Nat} {w0 : World} {fn : Func} {rs : List CRes}
theorem last_ok (hk : CallOk Tryz.prog TP call) (hrs : mapO (resC TP m) fn.results.toList = some rs) {code : Code} {c : CCode} {f f' : F} {h h' : H} {g : G} {act : Act} {w : World} (hc : comp TP m N code = some c) (e : exec call false n c f h = some (.ret, f', h'))
    (er : resOf f' h' rs = some [.bool true]) (a : At m N w0 f h g act w) : code.wpIn Fence.wide 0 Tryz.prog (bodyPostM Fence.wide 0 Tryz.prog fn fun e w' => e = .returned (.bool true) ∧ Still w0 w') act w := by
  refine wpIn_mono (exec_ok (D := []) tyOk hk mixed n none code _ hc f h .ret f' h' e g act w w0.heap.size a.seg.wr a.seg.glob a.fr (fun _ => a.marks) a.seg.still.size) ?_
  rintro ex a' w' ⟨g', y1, y2, y3, y4⟩
  cases ex <;> first | (cases y4; done) | skip
  obtain ⟨ms, p1, p2, p3⟩ := y3 rfl
  show LeavesInM Fence.wide 0 Tryz.prog fn a'.tmps _ a'.defers .returning w'
  rw [p1, List.append_nil]
  exact leaves_seg (fun w2 hw2 => results_ok tyOk y2 hw2 hrs er) p2 p3 (a.seg.step y1)
end
noncomputable section
/-- Are these the same, of one cell and without memory of their own? -/
def eqV0 (x y : V) : Bool :=
  match x, y with
  | .bool a, .bool b => beqB a b
  | .int k a, .int j b => eqK k j && eqI a b
  | .str n a, .str m b => Nat.beq n m && Nat.beq a b
  | .nilp, .nilp => true
  | .ptr a b, .ptr c d => Nat.beq a c && Nat.beq b d
  | .nils, .nils => true
  | .sl a b c d e f, .sl a' b' c' d' e' f' => Nat.beq a a' && Nat.beq b b' && Nat.beq c c' && Nat.beq d d' && beqB e e' && Nat.beq f f'
  | .nilm, .nilm => true
  | .map a, .map b => Nat.beq a b
  | .nilf, .nilf => true
  | .nili, .nili => true
  | .func (.func a) [] [], .func (.func b) [] [] => Nat.beq a b
  | _, _ => false
def eqA (a : List V) : List V → Bool := List.rec (motive := fun _ => List V → Bool) (fun l => List.rec (motive := fun _ => Bool) true (fun _ _ _ => false) l) (fun x _ ih l => List.rec (motive := fun _ => Bool) false (fun y t _ => tt2 (eqV0 x y) (ih t)) l) a
def eqV (x y : V) : Bool :=
  match x, y with
  | .agg a, .agg b => eqA a b
  | x, y => eqV0 x y
/-- A block that is kept. -/
inductive LB where
  | c (cells : List V) (child : Bool)
  | m (es : List (V × V)) (ord : Bool)
def LB.blk : LB → Blk
  | .c l ch => .cells (lenL l) (trOf l 0 .e) none ch
  | .m es o => .map es o
def litH (L : List (Nat × LB)) (n : Nat) : H := ⟨List.rec (motive := fun _ => Tr Blk) H0.t (fun p _ ih => ih.put p.1 (some p.2.blk)) L, n⟩
def eqCs (cs : Tr V) (l : List V) : Nat → Bool := List.rec (motive := fun _ => Nat → Bool) (fun _ => true) (fun x _ ih j => tt2 (Option.rec (motive := fun _ => Bool) false (fun y => eqV y x) (cs.get j)) (ih (Nat.succ j))) l
def eqEs (es : List (V × V)) : List (V × V) → Bool := List.rec (motive := fun _ => List (V × V) → Bool) (fun l => List.rec (motive := fun _ => Bool) true (fun _ _ _ => false) l) (fun x _ ih l => List.rec (motive := fun _ => Bool) false (fun y t _ => tt2 (tt2 (eqV x.1 y.1) (eqV x.2 y.2)) (ih t)) l) es
def LB.ok (b : LB) (o : Option Blk) : Bool :=
  match b, o with
  | .c l ch, some (.cells n cs none ch') => tt2 (Nat.beq n (lenL l)) (tt2 (Nat.ble n 1000000) (tt2 (beqB ch ch') (eqCs cs l 0)))
  | .m es o, some (.map es' o') => tt2 (beqB o o') (eqEs es' es)
  | _, _ => false
def subOk (L : List (Nat × LB)) (n : Nat) (h : H) : Bool := tt2 (Nat.beq n h.next) (List.rec (motive := fun _ => Bool) true (fun p _ ih => tt2 (tt2 (Nat.blt 1 p.1) (Nat.blt p.1 keys)) (tt2 (p.2.ok (h.blk p.1)) ih)) L)
def frOk (fl : AL) (f : F) : Bool := List.rec (motive := fun _ => Bool) true (fun p _ ih => tt2 (Option.rec (motive := fun _ => Bool) false (fun y => eqV y p.2) (lk f.loc p.1)) ih) fl
end
theorem bB_eq {a b : Bool} (h : beqB a b = true) : a = b := by cases a <;> cases b <;> first | rfl | cases h
theorem eK_eq {a b : IntKind} (h : eqK a b = true) : a = b := by cases a <;> cases b <;> first | rfl | cases h
theorem eI_eq {a b : Int} (h : eqI a b = true) : a = b := by
  cases a with
  | ofNat a => cases b with
    | ofNat b => exact congrArg Int.ofNat (Nat.eq_of_beq_eq_true h)
    | negSucc b => cases h
  | negSucc a => cases b with
    | ofNat b => cases h
    | negSucc b => exact congrArg Int.negSucc (Nat.eq_of_beq_eq_true h)
theorem eqV0_eq {x y : V} (h : eqV0 x y = true) : x = y := by
  unfold eqV0 at h
  split at h <;> try simp only [Bool.and_eq_true] at h
  · rw [bB_eq h]
  · rw [eK_eq h.1, eI_eq h.2]
  · rw [Nat.eq_of_beq_eq_true h.1, Nat.eq_of_beq_eq_true h.2]
  · rfl
  · rw [Nat.eq_of_beq_eq_true h.1, Nat.eq_of_beq_eq_true h.2]
  · rfl
  · obtain ⟨⟨⟨⟨⟨h1, h2⟩, h3⟩, h4⟩, h5⟩, h6⟩ := h
    rw [Nat.eq_of_beq_eq_true h1, Nat.eq_of_beq_eq_true h2, Nat.eq_of_beq_eq_true h3, Nat.eq_of_beq_eq_true h4, bB_eq h5, Nat.eq_of_beq_eq_true h6]
  · rfl
  · rw [Nat.eq_of_beq_eq_true h]
  · rfl
  · rfl
  · rw [Nat.eq_of_beq_eq_true h]
  · cases h
theorem eqA_eq : ∀ {a b : List V}, eqA a b = true → a = b
  | [], [], _ => rfl
  | [], _ :: _, h => by cases h
  | _ :: _, [], h => by cases h
  | x :: a, y :: b, h => by
    obtain ⟨h1, h2⟩ := tt2_and.1 (show tt2 (eqV0 x y) (eqA a b) = true from h)
    rw [eqV0_eq h1, eqA_eq h2]
theorem eqV_eq {x y : V} (h : eqV x y = true) : x = y := by
  unfold eqV at h
  split at h
  · rw [eqA_eq h]
  · exact eqV0_eq h
end Ev
end Go.Proofs.YtbfkbabolhhbaaaGreatDoor
namespace Go.Proofs.YtbfkbabolhhbaaaGreatDoor
namespace Ev
variable [Opq]
set_option linter.unusedSectionVars false
theorem comp_reg_of {m N : Nat} {code : Code} {l : List COper} (e : comp TP m N code = some (.reg l)) (hb : CCode.reg l ≠ badC) : ∃ id ops, code = .region id ops false ∧ mapO (compOper TP m N ops) ops.toList = some l := by
  cases code with
  | seq x y =>
    rw [comp_seq] at e
    obtain ⟨p, h1, e⟩ := ob_some.1 e
    obtain ⟨q, h2, e⟩ := ob_some.1 e
    cases e
  | region id ops d =>
    cases d with
    | false =>
      rw [comp_reg] at e
      rcases orBad_some e with e | e
      · obtain ⟨cl, h1, h2⟩ := ob_some.1 e
        cases h2
        exact ⟨id, ops, rfl, h1⟩
      · exact absurd e hb
    | true =>
      rw [comp_regD] at e
      rcases orBad_some e with e | e
      · obtain ⟨cl, h1, h2⟩ := ob_some.1 e
        obtain ⟨l, h3, h4⟩ := ob_some.1 h2
        cases h4
      · exact absurd e hb
  | cond o x y =>
    rw [comp_cond] at e
    obtain ⟨_, _, e⟩ := ob_some.1 e
    obtain ⟨_, _, e⟩ := ob_some.1 e
    obtain ⟨_, _, e⟩ := ob_some.1 e
    cases e
  | block id c =>
    rw [comp_block] at e
    obtain ⟨_, _, e⟩ := ob_some.1 e
    cases e
  | loop c =>
    rw [comp_loop] at e
    obtain ⟨_, _, e⟩ := ob_some.1 e
    cases e
  | rangeFunc f ps x y =>
    rw [comp_range] at e
    obtain ⟨_, _, e⟩ := ob_some.1 e
    obtain ⟨_, _, e⟩ := ob_some.1 e
    obtain ⟨_, _, e⟩ := ob_some.1 e
    obtain ⟨_, _, e⟩ := ob_some.1 e
    cases e
  | _ => first | (rw [comp] at e <;> first | (cases e; done) | (intros; simp_all; done)) | exact absurd (Option.some.inj e).symm hb
section
variable {P : Program} {T : Ty} {m N : Nat}
theorem step_call {w : World} {o : Oper} {f : FuncId} {os : List Operand} {a : Act} (hc : compOp T o.op = some (.call f, os)) {R : Ending → World → Prop}
    (C : ∃ fn, P.funcs[f]? = some fn ∧ fn.name ≠ "runtime.NumGoroutine" ∧ fn.body.isNone = false ∧ CallsIn Fence.wide 0 P f (os.map a.eval).toArray w R) {rd : Option Nat} {K : Act → World → Prop} {Q : Exit → Act → World → Prop}
    (hK : ∀ e w', R e w' → ∃ u, e = .returned u ∧ K (a.put o.dst u) w') : o.wpIn (fen rd) 0 P a w K Q := by
  refine ⟨fun _ _ => trivial, ?_⟩
  rw [Oper.semAt_eq _ _ _ (compOp_defer hc)]
  obtain ⟨args, at', he, ho⟩ : ∃ args at', o.op = .call ⟨.value (.func f), args, at'⟩ ∧ os = args.toList := by
    exact compOp_call hc
  subst ho
  obtain ⟨fn, k1, k2, k3, k4⟩ := C
  have hrun : (execOp a.eval o).run P w = .ok (.enter f (args.map a.eval)) w := by
    have hb : ¬ fn.body = none := fun e => by rw [e] at k3; cases k3
    simp [execOp, he, resolve, Act.eval, Deferred.ofValue, invoke, callFunc, k1, k2, hb]
  have ha : (args.toList.map a.eval).toArray = args.map a.eval := by apply Array.ext'; simp
  rw [ha] at k4
  rw [hrun, Oper.uponIn_enter]
  refine ⟨fen_depth rd, callsIn_fen (k4.mono ?_)⟩
  intro e w' hr
  obtain ⟨u, rfl, hk⟩ := hK e w' hr
  exact hk
theorem reg_pre (hT : TyOk P T) {call : CallT} (hk : CallOk P T call) {ops : Array Oper} {rd : Option Nat} {Q : Exit → Act → World → Prop} {tl : List Nat} : ∀ (suf : List Oper) (k : Nat) (cl : List COper) (f f' : F) (h h' : H) (g : G) (a : Act) (w : World),
    (∀ i, i < suf.length → ops[k + i]? = suf[i]?) → mapO (compOper T m N ops) suf = some cl → runOps call cl f h = some (f', h') → WR T g h w → Glob T g h → FR g m N f a.tmps →
    (∀ g' a' w', Ext T g h w g' h' w' → FR g' m N f' a'.tmps → a'.defers = a.defers → wpOpsIn (fen rd) 0 P ops Q tl a' w') → wpOpsIn (fen rd) 0 P ops Q (List.range' k suf.length ++ tl) a w := by
  intro suf
  induction suf with
  | nil =>
    intro k cl f f' h h' g a w _ hc hr r hG hf hQ
    cases hc
    cases hr
    exact hQ g a w (.refl r) hf rfl
  | cons o suf ih =>
    intro k cl f f' h h' g a w hidx hc hr r hG hf hQ
    rw [mapO_cons] at hc
    obtain ⟨co, h1, h2⟩ := ob_some.1 hc
    obtain ⟨cl', h3, h4⟩ := ob_some.1 h2
    cases h4
    rw [runOps_cons] at hr
    obtain ⟨q, h5, h6⟩ := ob_some.1 hr
    have hp := compOper_parts h1
    have ho : ops[k]? = some o := by have := hidx 0 (by simp); simpa using this
    have hidx' : ∀ i, i < suf.length → ops[k + 1 + i]? = suf[i]? := fun i hi => by
      have := hidx (i + 1) (by simp; omega)
      rw [show k + 1 + i = k + (i + 1) by omega]
      simpa using this
    rw [List.length_cons, List.range'_succ, List.cons_append, wpOpsIn_cons]
    unfold wpOpIn
    simp only [ho]
    rcases coper_run h5 with ⟨e1, rfl⟩ | ⟨vs, v, h'', e1, e2, e3, rfl⟩
    · rw [guard_ok hp e1 (fun t _ v hv => hf.2 t v hv)]
      refine ⟨fun _ _ => trivial, ?_⟩
      refine ih (k + 1) cl' _ f' h h' g _ w hidx' h3 h6 r hG (hf.put hp.dst undef_vr) fun g' a' w' x1 x2 x3 => hQ g' a' w' x1 x2 (x3.trans (put_defers _ _ _))
    · rw [guard_ok hp e1 (fun t _ v hv => hf.2 t v hv)]
      obtain ⟨os, k1, k2⟩ := hp.op
      refine step_op hT hk r hG k1 (evs_ok hG k2 e2 fun t _ v hv => hf.2 t v hv) e3 fun g1 w1 u x1 x2 => ?_
      refine ih (k + 1) cl' _ f' h'' h' g1 _ w1 hidx' h3 h6 x1.wr (hG.ext x1) ((hf.mono x1.le).put hp.dst x2) fun g' a' w' y1 y2 y3 => hQ g' a' w' (x1.trans y1) y2 (y3.trans (put_defers _ _ _))
end
section
variable {call : CallT} {m N : Nat} {w0 : World} {Q : Exit → Act → World → Prop}
/-- A region that ends in a call of f: whatever it answers, as long as it is one of these. -/
theorem reg_call (hk : CallOk Tryz.prog TP call) {code : Code} {cl : List COper} {d : Dst} {f : FuncId} {args : List Opd} {lo hi : Nat} (hc : comp TP m N code = some (.reg (cl ++ [⟨d, .call f, args, none, lo, hi⟩]))) {fr fr1 : F} {h h1 : H} {vs : List V} (e1 : runOps call cl fr h = some (fr1, h1)) (e2 : evs fr1 args = some vs)
    {g : G} {act : Act} {w : World} (at0 : At m N w0 fr h g act w) {A : V → Prop}
    (C : ∀ g1 w1 us, Seg w0 g1 h1 w1 → VRs g1 vs us → ∃ fn, Tryz.prog.funcs[f]? = some fn ∧ fn.name ≠ "runtime.NumGoroutine" ∧ fn.body.isNone = false ∧ CallsIn Fence.wide 0 Tryz.prog f us.toArray w1 fun e w' => ∃ v u, A v ∧ e = .returned u ∧ VR nog v u ∧ Still w1 w')
    (K : ∀ v g' a' w', A v → At m N w0 (clr (d.put fr1 v)) h1 g' a' w' → Q .normal a' w') : code.wpIn (fen none) 0 Tryz.prog Q act w := by
  obtain ⟨id, ops, rfl, hm⟩ := comp_reg_of hc (fun e => by
    have := congrArg (fun c => match c with | CCode.reg l => l.getLast? | _ => none) e
    simp [badC] at this)
  obtain ⟨l1, o, hl, m1, m2⟩ : ∃ l1 o, ops.toList = l1 ++ [o] ∧ mapO (compOper TP m N ops) l1 = some cl ∧ compOper TP m N ops o = some ⟨d, .call f, args, none, lo, hi⟩ := by
    have gen : ∀ (L : List Oper) (cl : List COper) (co : COper), mapO (compOper TP m N ops) L = some (cl ++ [co]) → ∃ l1 o, L = l1 ++ [o] ∧ mapO (compOper TP m N ops) l1 = some cl ∧ compOper TP m N ops o = some co := by
      intro L
      induction L with
      | nil => intro cl co h; cases cl <;> cases h
      | cons x L ih =>
        intro cl co h
        rw [mapO_cons] at h
        obtain ⟨y, h1, h2⟩ := ob_some.1 h
        obtain ⟨ys, h3, h4⟩ := ob_some.1 h2
        cases cl with
        | nil =>
          have h4 : y :: ys = [co] := Option.some.inj h4
          obtain ⟨rfl, rfl⟩ := List.cons.inj h4
          cases L with
          | nil => exact ⟨[], x, rfl, rfl, h1⟩
          | cons z L =>
            rw [mapO_cons] at h3
            obtain ⟨_, _, h3⟩ := ob_some.1 h3
            obtain ⟨_, _, h3⟩ := ob_some.1 h3
            cases h3
        | cons c cl =>
          have h4 : y :: ys = c :: (cl ++ [co]) := Option.some.inj h4
          obtain ⟨rfl, rfl⟩ := List.cons.inj h4
          obtain ⟨l1, o, rfl, k1, k2⟩ := ih cl co h3
          refine ⟨x :: l1, o, rfl, ?_, k2⟩
          rw [mapO_cons, h1]
          show ob (mapO (compOper TP m N ops) l1) _ = _
          rw [k1]
          rfl
    exact gen _ _ _ hm
  refine wpIn_region ?_
  have hsz : ops.size = l1.length + 1 := by
    have : ops.toList.length = l1.length + 1 := by rw [hl]; simp
    simpa using this
  rw [hsz, List.range_eq_range', show List.range' 0 (l1.length + 1) = List.range' 0 l1.length ++ [l1.length] by rw [List.range'_concat]; simp]
  refine reg_pre (tyOk) hk l1 0 cl fr fr1 h h1 g act w (fun i hi => by rw [Nat.zero_add, ← Array.getElem?_toList, hl, List.getElem?_append_left hi]) m1 e1 at0.seg.wr at0.seg.glob at0.fr fun g1 a1 w1 x1 x2 x3 => ?_
  have s1 := at0.seg.step x1
  have ho : ops[l1.length]? = some o := by rw [← Array.getElem?_toList, hl, List.getElem?_append_right (Nat.le_refl _), Nat.sub_self]; rfl
  rw [wpOpsIn_cons]
  unfold wpOpIn
  simp only [ho]
  have hp := compOper_parts m2
  rw [guard_ok hp (show guardOk fr1 none = some true from rfl) (fun t _ v hv => x2.2 t v hv)]
  obtain ⟨os, k1, k2⟩ := hp.op
  refine step_call k1 (C g1 w1 _ s1 (evs_ok s1.glob k2 e2 fun t _ v hv => x2.2 t v hv)) ?_
  rintro e w' ⟨v, u, hA, rfl, hv, st⟩
  refine ⟨u, rfl, ?_⟩
  have y := Ext.ofStill s1.wr st
  have hv' : VR g1 v u := hv.mono fun _ _ k => by cases k
  exact K v g1 _ w' hA ⟨s1.step y, (x2.put hp.dst hv').clr, by rw [put_defers, x3]; exact (at0.marks.ext x1).ext y⟩
end
end Ev
end Go.Proofs.YtbfkbabolhhbaaaGreatDoor
