/-
  The last part of a run, and what is checked where memory is left out.
-/
import Derived.Test.YtgeccgjpiaiifaaGreatDoorMkSeg
namespace Go.Proofs.YtgeccgjpiaiifaaGreatDoor
namespace Ev
theorem Seg.put {w0 : World} {g : G} {h : H} {w : World} (a : Seg w0 g h w) {r : Nat} (o : Obj) (h1 : w0.heap.size ≤ r) (h2 : ∀ id o z, g id ≠ some (r, o, z)) : Seg w0 g h (w.putObj r o) := by
  have hne : ∀ {id b o z}, g id = some (b, o, z) → b ≠ r := fun hg e => h2 _ _ _ (e ▸ hg)
  refine ⟨⟨a.wr.bound, a.wr.top, a.wr.dom, fun id b o' z e => by rw [World.putObj_size]; exact a.wr.lt _ _ _ _ e, fun id y b e1 e2 => ?_, a.wr.mates, a.wr.kids, a.wr.ext⟩, a.glob, ⟨by rw [World.putObj_size]; exact a.still.size, fun b hb => ?_, a.still.os, a.still.tape, a.still.output⟩, a.own⟩
  · obtain ⟨b', o', z⟩ := y
    exact BR.move e1 (World.putObj_heap_other (hne e1)) (a.wr.blk _ _ _ e1 e2)
  · rw [World.putObj_heap_other (by omega)]
    exact a.still.keep b hb
section
variable {w0 : World} {g : G} {h : H} {fn : Func} {tmps : Array Value}
theorem leaves_seg (hres : ∀ w, WR TP g h w → ∃ u, VR g (.bool true) u ∧ (results fn tmps).run Tryz.prog w = .ok u w) : ∀ {rs : List Nat} {w : World}, rs.Nodup → (∀ r ∈ rs, w0.heap.size ≤ r ∧ r < w.heap.size ∧ (∀ id o z, g id ≠ some (r, o, z)) ∧ w.heap[r]? = some (.deferred (some []))) →
    Seg w0 g h w → LeavesInM Fence.wide 0 Tryz.prog fn tmps (fun e w' => e = .returned (.bool true) ∧ Still w0 w') (rs.map markOf) .returning w
  | [], w, _, _, x => by
    obtain ⟨u, h1, h2⟩ := hres w x.wr
    cases h1
    exact ⟨_, h2, rfl, x.still⟩
  | r :: rs, w, hn, hm, x => by
    rw [List.nodup_cons] at hn
    obtain ⟨k1, k2, k3, k4⟩ := hm r List.mem_cons_self
    refine ⟨(fun e => by cases e), .inl ⟨r, _, rfl, run_takeDeferred k4, leaves_seg hres hn.2 (fun s hs => ?_) (x.put _ k1 k3)⟩⟩
    obtain ⟨q1, q2, q3, q4⟩ := hm s (List.mem_cons_of_mem _ hs)
    have hne : s ≠ r := fun e => hn.1 (e ▸ hs)
    exact ⟨q1, by rw [World.putObj_size]; exact q2, q3, by rw [World.putObj_heap_other hne]; exact q4⟩
end
section
variable {call : CallT} {m N n : Nat} {w0 : World} {fn : Func} {rs : List CRes}
theorem last_ok (hk : CallOk Tryz.prog TP call) (hrs : mapO (resC TP m) fn.results.toList = some rs) {code : Code} {c : CCode} {f f' : F} {h h' : H} {g : G} {act : Act} {w : World} (hc : comp TP m N code = some c) (e : exec call false n c f h = some (.ret, f', h'))
    (er : resOf f' h' rs = some [.bool true]) (a : At m N w0 f h g act w) : code.wpIn Fence.wide 0 Tryz.prog (bodyPostM Fence.wide 0 Tryz.prog fn fun e w' => e = .returned (.bool true) ∧ Still w0 w') act w := by
  refine wpIn_mono (exec_ok (D := []) tyOk hk mixed n none code _ hc f h .ret f' h' e g act w w0.heap.size a.seg.wr a.seg.glob a.fr (fun _ => a.marks) a.seg.still.size) ?_
  rintro ex a' w' ⟨g', y1, y2, y3, y4⟩
  cases ex <;> first | (cases y4; done) | skip
  obtain ⟨ms, p1, p2, p3⟩ := y3 rfl
  show LeavesInM Fence.wide 0 Tryz.prog fn a'.tmps _ a'.defers .returning w'
  rw [p1, List.append_nil]
  exact leaves_seg (fun w2 hw2 => results_ok tyOk y2 hw2 hrs er) p2 p3 (a.seg.step y1)
end
noncomputable section
/-- Are these the same, of one cell and without memory of their own? -/
def eqV0 (x y : V) : Bool :=
  match x, y with
  | .bool a, .bool b => beqB a b
  | .int k a, .int j b => eqK k j && eqI a b
  | .str n a, .str m b => Nat.beq n m && Nat.beq a b
  | .nilp, .nilp => true
  | .ptr a b, .ptr c d => Nat.beq a c && Nat.beq b d
  | .nils, .nils => true
  | .sl a b c d e f, .sl a' b' c' d' e' f' => Nat.beq a a' && Nat.beq b b' && Nat.beq c c' && Nat.beq d d' && beqB e e' && Nat.beq f f'
  | .nilm, .nilm => true
  | .map a, .map b => Nat.beq a b
  | .nilf, .nilf => true
  | .nili, .nili => true
  | .func (.func a) [] [], .func (.func b) [] [] => Nat.beq a b
  | _, _ => false
def eqA (a : List V) : List V → Bool := List.rec (motive := fun _ => List V → Bool) (fun l => List.rec (motive := fun _ => Bool) true (fun _ _ _ => false) l) (fun x _ ih l => List.rec (motive := fun _ => Bool) false (fun y t _ => tt2 (eqV0 x y) (ih t)) l) a
def eqV (x y : V) : Bool :=
  match x, y with
  | .agg a, .agg b => eqA a b
  | x, y => eqV0 x y
/-- A block that is kept. -/
inductive LB where
  | c (cells : List V) (child : Bool)
  | m (es : List (V × V)) (ord : Bool)
def LB.blk : LB → Blk
  | .c l ch => .cells (lenL l) (trOf l 0 .e) none ch
  | .m es o => .map es o
def litH (L : List (Nat × LB)) (n : Nat) : H := ⟨List.rec (motive := fun _ => Tr Blk) H0.t (fun p _ ih => ih.put p.1 (some p.2.blk)) L, n⟩
def eqCs (cs : Tr V) (l : List V) : Nat → Bool := List.rec (motive := fun _ => Nat → Bool) (fun _ => true) (fun x _ ih j => tt2 (Option.rec (motive := fun _ => Bool) false (fun y => eqV y x) (cs.get j)) (ih (Nat.succ j))) l
def eqEs (es : List (V × V)) : List (V × V) → Bool := List.rec (motive := fun _ => List (V × V) → Bool) (fun l => List.rec (motive := fun _ => Bool) true (fun _ _ _ => false) l) (fun x _ ih l => List.rec (motive := fun _ => Bool) false (fun y t _ => tt2 (tt2 (eqV x.1 y.1) (eqV x.2 y.2)) (ih t)) l) es
def LB.ok (b : LB) (o : Option Blk) : Bool :=
  match b, o with
  | .c l ch, some (.cells n cs none ch') => tt2 (Nat.beq n (lenL l)) (tt2 (Nat.ble n 1000000) (tt2 (beqB ch ch') (eqCs cs l 0)))
  | .m es o, some (.map es' o') => tt2 (beqB o o') (eqEs es' es)
  | _, _ => false
def subOk (L : List (Nat × LB)) (n : Nat) (h : H) : Bool := tt2 (Nat.beq n h.next) (List.rec (motive := fun _ => Bool) true (fun p _ ih => tt2 (tt2 (Nat.blt 1 p.1) (Nat.blt p.1 keys)) (tt2 (p.2.ok (h.blk p.1)) ih)) L)
def frOk (fl : AL) (f : F) : Bool := List.rec (motive := fun _ => Bool) true (fun p _ ih => tt2 (Option.rec (motive := fun _ => Bool) false (fun y => eqV y p.2) (lk f.loc p.1)) ih) fl
end
theorem bB_eq {a b : Bool} (h : beqB a b = true) : a = b := by cases a <;> cases b <;> first | rfl | cases h
theorem eK_eq {a b : IntKind} (h : eqK a b = true) : a = b := by cases a <;> cases b <;> first | rfl | cases h
theorem eI_eq {a b : Int} (h : eqI a b = true) : a = b := by
  cases a with
  | ofNat a => cases b with
    | ofNat b => exact congrArg Int.ofNat (Nat.eq_of_beq_eq_true h)
    | negSucc b => cases h
  | negSucc a => cases b with
    | ofNat b => cases h
    | negSucc b => exact congrArg Int.negSucc (Nat.eq_of_beq_eq_true h)
theorem eqV0_eq {x y : V} (h : eqV0 x y = true) : x = y := by
  unfold eqV0 at h
  split at h <;> try simp only [Bool.and_eq_true] at h
  · rw [bB_eq h]
  · rw [eK_eq h.1, eI_eq h.2]
  · rw [Nat.eq_of_beq_eq_true h.1, Nat.eq_of_beq_eq_true h.2]
  · rfl
  · rw [Nat.eq_of_beq_eq_true h.1, Nat.eq_of_beq_eq_true h.2]
  · rfl
  · obtain ⟨⟨⟨⟨⟨h1, h2⟩, h3⟩, h4⟩, h5⟩, h6⟩ := h
    rw [Nat.eq_of_beq_eq_true h1, Nat.eq_of_beq_eq_true h2, Nat.eq_of_beq_eq_true h3, Nat.eq_of_beq_eq_true h4, bB_eq h5, Nat.eq_of_beq_eq_true h6]
  · rfl
  · rw [Nat.eq_of_beq_eq_true h]
  · rfl
  · rfl
  · rw [Nat.eq_of_beq_eq_true h]
  · cases h
theorem eqA_eq : ∀ {a b : List V}, eqA a b = true → a = b
  | [], [], _ => rfl
  | [], _ :: _, h => by cases h
  | _ :: _, [], h => by cases h
  | x :: a, y :: b, h => by
    obtain ⟨h1, h2⟩ := tt2_and.1 (show tt2 (eqV0 x y) (eqA a b) = true from h)
    rw [eqV0_eq h1, eqA_eq h2]
theorem eqV_eq {x y : V} (h : eqV x y = true) : x = y := by
  unfold eqV at h
  split at h
  · rw [eqA_eq h]
  · exact eqV0_eq h
end Ev
end Go.Proofs.YtgeccgjpiaiifaaGreatDoor
