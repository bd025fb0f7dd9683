/-
  A function's run in parts.
-/
import Derived.Test.YtgeccgjpiaiifaaGreatDoorMkCut
namespace Go.Proofs.YtgeccgjpiaiifaaGreatDoor
namespace Ev
noncomputable section
def lft (c : CCode) : CCode := match c with
  | .seq a _ => a
  | c => c
def rgt (c : CCode) : CCode := match c with
  | .seq _ b => b
  | c => c
def isSeq (c : CCode) : Bool := match c with
  | .seq _ _ => true
  | _ => false
def rest (k : Nat) (c : CCode) : CCode := Nat.rec (motive := fun _ => CCode) c (fun _ ih => rgt ih) k
/-- The first statements, so many. -/
def pre (call : CallT) (n k : Nat) : CCode → F → H → Option (F × H) :=
  Nat.rec (motive := fun _ => CCode → F → H → Option (F × H)) (fun _ f h => some (f, h))
    (fun _ ih c f h => oif (isSeq c) (ob (exec call false n (lft c) f h) fun r => X.rec (motive := fun _ => Option (F × H)) (ih (rgt c) r.2.1 r.2.2) (fun _ => none) none r.1)) k
end
theorem isSeq_eq {c : CCode} (h : isSeq c = true) : c = .seq (lft c) (rgt c) := by cases c <;> first | rfl | cases h
theorem rest_rgt (c : CCode) : ∀ k, rest k (rgt c) = rest (k + 1) c
  | 0 => rfl
  | k + 1 => congrArg rgt (rest_rgt c k)
theorem comp_seq_of {m N : Nat} {code : Code} {a b : CCode} (e : comp TP m N code = some (.seq a b)) : ∃ x y, code = .seq x y ∧ comp TP m N x = some a ∧ comp TP m N y = some b := by
  have bad : ∀ {o : Option CCode}, (∀ c, o = some c → isSeq c = false) → orBad o = some (.seq a b) → False := by
    intro o ho e
    cases o with
    | none => cases e
    | some c =>
      have e : some c = some (CCode.seq a b) := e
      cases e
      have := ho _ rfl
      cases this
  cases code with
  | seq x y =>
    rw [comp_seq] at e
    obtain ⟨p, h1, e⟩ := ob_some.1 e
    obtain ⟨q, h2, e⟩ := ob_some.1 e
    cases e
    exact ⟨x, y, rfl, h1, h2⟩
  | region id ops d =>
    cases d with
    | false =>
      rw [comp_reg] at e
      refine (bad (fun c h => ?_) e).elim
      obtain ⟨l, _, h⟩ := ob_some.1 h
      cases h
      rfl
    | true =>
      rw [comp_regD] at e
      refine (bad (fun c h => ?_) e).elim
      obtain ⟨l, _, h⟩ := ob_some.1 h
      obtain ⟨l, _, h⟩ := ob_some.1 h
      cases h
      rfl
  | cond o x y =>
    rw [comp_cond] at e
    obtain ⟨_, _, e⟩ := ob_some.1 e
    obtain ⟨_, _, e⟩ := ob_some.1 e
    obtain ⟨_, _, e⟩ := ob_some.1 e
    cases e
  | block id c =>
    rw [comp_block] at e
    obtain ⟨_, _, e⟩ := ob_some.1 e
    cases e
  | loop c =>
    rw [comp_loop] at e
    obtain ⟨_, _, e⟩ := ob_some.1 e
    cases e
  | rangeFunc f ps x y =>
    rw [comp_range] at e
    obtain ⟨_, _, e⟩ := ob_some.1 e
    obtain ⟨_, _, e⟩ := ob_some.1 e
    obtain ⟨_, _, e⟩ := ob_some.1 e
    obtain ⟨_, _, e⟩ := ob_some.1 e
    cases e
  | _ => rw [comp] at e <;> cases e
section
variable {call : CallT} {m N n : Nat} {w0 : World} {Q : Exit → Act → World → Prop}
/-- Where a part stands. -/
structure At (m N : Nat) (w0 : World) (f : F) (h : H) (g : G) (act : Act) (w : World) : Prop where
  seg : Seg w0 g h w
  fr : FR g m N f act.tmps
  marks : Marks [] g w w0.heap.size act.defers
theorem pre_ok (hk : CallOk Tryz.prog TP call) : ∀ (k : Nat) {code : Code} {c : CCode} {f f' : F} {h h' : H} {g : G} {act : Act} {w : World}, comp TP m N code = some c → pre call n k c f h = some (f', h') → At m N w0 f h g act w →
    (∀ code' g' a' w', comp TP m N code' = some (rest k c) → At m N w0 f' h' g' a' w' → code'.wpIn (fen none) 0 Tryz.prog Q a' w') → code.wpIn (fen none) 0 Tryz.prog Q act w
  | 0, code, c, f, f', h, h', g, act, w, hc, e, a, k => by
    cases e
    exact k code g act w hc a
  | i + 1, code, c, f, f', h, h', g, act, w, hc, e, a, k => by
    obtain ⟨e1, e⟩ := oif_some.1 (show oif (isSeq c) _ = some (f', h') from e)
    obtain ⟨r, e2, e⟩ := ob_some.1 e
    obtain ⟨x, f1, h1⟩ := r
    cases x with
    | exit _ => cases e
    | ret => cases e
    | norm =>
      have e : pre call n i (rgt c) f1 h1 = some (f', h') := e
      have hc' := hc
      rw [isSeq_eq e1] at hc'
      obtain ⟨x, y, rfl, hx, hy⟩ := comp_seq_of hc'
      refine wpIn_seq (wpIn_mono (exec_ok (D := []) tyOk hk mixed n none x _ hx f h .norm f1 h1 e2 g act w w0.heap.size a.seg.wr a.seg.glob a.fr (fun _ => a.marks) a.seg.still.size) ?_)
      rintro ex a' w' ⟨g', y1, y2, y3, y4⟩
      obtain rfl := y4.norm_inv
      refine pre_ok hk i hy e ⟨a.seg.step y1, y2, y3 rfl⟩ fun code' g'' a'' w'' q1 q2 => k code' g'' a'' w'' ?_ q2
      rw [← rest_rgt]
      exact q1
end
end Ev
end Go.Proofs.YtgeccgjpiaiifaaGreatDoor
