/-
  A name that is none of the three: three rounds by closed runs, and one that ends.

  The law's contract, of whatever name.

  The law at a name that is none of the three.

  The law at a name that is none of the three: the contract.

  The law's contract, of whatever name, in whatever world where strings.asciiSpace stands as the program lays it.
-/
import Derived.Test.YtchmfcjfdhokoaaGreatDoorEvLaw
namespace Go.Proofs.YtchmfcjfdhokoaaGreatDoor
namespace Ev
noncomputable section
def lft (c : CCode) : CCode := match c with
  | .seq a _ => a
  | c => c
def rgt (c : CCode) : CCode := match c with
  | .seq _ b => b
  | c => c
def bod (c : CCode) : CCode := match c with
  | .block _ c => c
  | .loop c => c
  | c => c
def thn (c : CCode) : CCode := match c with
  | .cond _ a _ => a
  | c => c
def l0 : CCode := lft cf3.code
def k1 : CCode := rgt cf3.code
def l1 : CCode := lft k1
def k2 : CCode := rgt k1
def l3 : CCode := lft k2
def k3 : CCode := rgt k2
def k4 : CCode := lft k3
def l4 : CCode := lft k4
def lb : CCode := bod (bod (rgt k4))
def l5 : CCode := lft lb
def lb2 : CCode := rgt lb
def bb : CCode := bod (lft lb2)
def l7 : CCode := lft bb
def b2 : CCode := rgt bb
def l8 : CCode := lft b2
def b3 : CCode := rgt b2
def b4 : CCode := lft b3
def l9 : CCode := lft b4
def l10 : CCode := lft (thn (rgt b4))
def lawC : CallT := callS lawP 100
def pre (n c : Nat) : Option (F × H) :=
  norm1 (exec lawC false 1000000 l0 ⟨[(0, .str n c)], []⟩ H0) fun f h => norm1 (exec lawC false 1000000 l1 f h) fun f h => norm1 (exec lawC false 1000000 l3 f h) fun f h => norm1 (exec lawC false 1000000 l4 f h) fun f h => some (f, h)
def nxt (q : F × H) : Option (F × H) := norm1 (exec lawC false 1000000 lb q.1 q.2) fun f h => some (f, h)
def stAt (n c : Nat) (i : Nat) : Option (F × H) := Nat.rec (motive := fun _ => Option (F × H)) (pre n c) (fun _ ih => ob ih nxt) i
def st5 (n c : Nat) : Option (F × H) := ob (stAt n c 3) fun q => norm1 (exec lawC false 1000000 l5 q.1 q.2) fun f h => some (f, h)
/-- What is answered of a name that is none. -/
def ansC : CallT := fun k _ h => match k with
  | .fn 6 => some (.tup [.str 0 0, .int .i64 (.ofNat 4)], h)
  | .fn 7 => some (.nils, h)
  | _ => none
/-- Whatever is asked, it is asked of this string. -/
def ofC (call : CallT) (n c : Nat) : CallT := fun k _ h => call k [.str n c] h
def st7 (n c : Nat) : Option (F × H) := ob (st5 n c) fun q => norm1 (exec ansC false 1000000 l7 q.1 q.2) fun f h => some (f, h)
def st8 (n c : Nat) : Option (F × H) := ob (st7 n c) fun q => norm1 (exec ansC false 1000000 l8 q.1 q.2) fun f h => some (f, h)
def st9 (n c : Nat) : Option (F × H) := ob (st8 n c) fun q => norm1 (exec ansC false 1000000 l9 q.1 q.2) fun f h => some (f, h)
def st10 (n c : Nat) : Option (F × H) := ob (st9 n c) fun q => norm1 (exec ansC false 1000000 l10 q.1 q.2) fun f h => some (f, h)
def isTrue (o : Option V) : Bool := Option.rec (motive := fun _ => Bool) false (tBool fun b => b) o
def fin (n c : Nat) : Bool := Option.rec (motive := fun _ => Bool) false (fun q => tt2 (isTrue (lk q.1.loc 42)) (Option.rec (motive := fun _ => Bool) false (fun q => isTrue (lk q.1.loc 2)) (st10 n c))) (st9 n c)
end
theorem fin_ok (n c : Nat) : fin n c = true := by kernel_rfl
theorem eq7 (call : CallT) (n c : Nat) : (ob (st5 n c) fun q => exec call false 1000000 l7 q.1 q.2) = ob (st5 n c) fun q => exec (ofC call n c) false 1000000 l7 q.1 q.2 := by kernel_rfl
theorem eq8 (call : CallT) (n c : Nat) : (ob (st7 n c) fun q => exec call false 1000000 l8 q.1 q.2) = ob (st7 n c) fun q => exec (ofC call n c) false 1000000 l8 q.1 q.2 := by kernel_rfl
end Ev
end Go.Proofs.YtchmfcjfdhokoaaGreatDoor
namespace Go.Proofs.YtchmfcjfdhokoaaGreatDoor
namespace Ev

theorem known1 : runE (callS lawP 100) H0 3 [.v (.str 6 125780104471923)] (.v (.bool true)) = true := by kernel_rfl
theorem known2 : runE (callS lawP 100) H0 3 [.v (.str 6 120282511668339)] (.v (.bool true)) = true := by kernel_rfl
theorem known3 : runE (callS lawP 100) H0 3 [.v (.str 10 540405683947741931140467)] (.v (.bool true)) = true := by kernel_rfl

/- A call that only asks of this one name. -/
open Classical in
noncomputable def callZ (n c : Nat) : CallT := fun k vs h => if vs = [.str n c] then ansC k vs h else none
structure NoName (s : ByteArray) : Prop where
  h1 : (s.toList == [115, 101, 114, 118, 101, 114]) = false
  h2 : (s.toList == [115, 116, 97, 116, 101, 109]) = false
  h3 : (s.toList == [115, 117, 112, 101, 114, 118, 105, 115, 111, 114]) = false
theorem VR.str_same {g : G} {s : ByteArray} {u : Value} (h : VR g (.str s.size (natOf s.data.toList)) u) : u = .string s := by
  obtain ⟨t, rfl, h1, h2⟩ := VR.str_inv h
  have : t.data.toList = s.data.toList := natOf_inj (by rw [h1, Array.length_toList]; rfl) h2
  have : t = s := by
    cases t; cases s
    simp only at this
    rw [ByteArray.mk.injEq]
    exact Array.toList_inj.1 this
  rw [this]
theorem callZ_ok {s : ByteArray} (hn : NoName s) : CallOk Tryz.prog TP (callZ s.size (natOf s.data.toList)) := by
  refine ⟨fun f vs h v h' e g w us r hG hv => ?_, fun id vs h v h' e g w us r hG hv => ?_⟩
  · unfold callZ at e
    split at e
    · rename_i hvs
      subst hvs
      cases hv with
      | cons a t =>
        cases t
        obtain rfl := a.str_same
        have e : (match Callee.fn f with
          | .fn 6 => some (.tup [.str 0 0, .int .i64 (.ofNat 4)], h)
          | .fn 7 => some (.nils, h)
          | _ => none : Option (V × H)) = some (v, h') := e
        split at e
        · rename_i hf
          cases hf
          cases e
          refine prim_fn Tryz.func6 (by decide) rfl ((src_none s w hn.h1 hn.h2 hn.h3).mono ?_)
          rintro e w' ⟨rfl, st⟩
          exact ⟨g, _, rfl, .tup (.cons (.str ByteArray.empty) (.cons (.int _ _) .nil)), .ofStill r st⟩
        · rename_i hf
          cases hf
          cases e
          refine prim_fn Tryz.func7 (by decide) rfl ((exp_none s w hn.h1 hn.h2 hn.h3).mono ?_)
          rintro e w' ⟨rfl, st⟩
          exact ⟨g, _, rfl, .nils, .ofStill r st⟩
        · cases e
    · cases e
  · unfold callZ at e
    split at e
    · cases e
    · cases e
theorem ofZ (n c : Nat) : ofC (callZ n c) n c = ansC := by
  funext k vs h
  show callZ n c k [.str n c] h = _
  unfold callZ
  rw [if_pos rfl]
  rfl
end Ev
end Go.Proofs.YtchmfcjfdhokoaaGreatDoor
namespace Go.Proofs.YtchmfcjfdhokoaaGreatDoor
namespace Ev
theorem lft_eq {a b : CCode} {k : CCode} (h : CCode.seq a b = k) : a = lft k := by rw [← h]; rfl
theorem rgt_eq {a b : CCode} {k : CCode} (h : CCode.seq a b = k) : b = rgt k := by rw [← h]; rfl
theorem bod_eq {i : Nat} {a : CCode} {k : CCode} (h : CCode.block i a = k) : a = bod k := by rw [← h]; rfl
theorem loop_eq {a : CCode} {k : CCode} (h : CCode.loop a = k) : a = bod k := by rw [← h]; rfl
theorem thn_eq {o : Opd} {a b : CCode} {k : CCode} (h : CCode.cond o a b = k) : a = thn k := by rw [← h]; rfl
theorem cond_eq {o : Opd} {a b : CCode} {k : CCode} (h : CCode.cond o a b = k) (o' : Opd) (a' b' : CCode) (h' : k = .cond o' a' b') : o = o' := by
  rw [h'] at h
  injection h
theorem norm1_isSome {o : Res} {r : F × H} (e : norm1 o (fun f h => some (f, h)) = some r) : o = some (.norm, r.1, r.2) := by
  obtain ⟨f, h, e1, e2⟩ := norm1_some e
  cases e2
  exact e1
theorem isTrue_some {o : Option V} (h : isTrue o = true) : o = some (.bool true) := by
  cases o with
  | none => cases h
  | some v =>
    cases v with
    | bool b => cases b <;> first | rfl | cases h
    | _ => cases h
/-- The states of the rounds. -/
theorem states (n c : Nat) : ∃ q0 q1 q2 q3 q5 q7 q8 q9 q10 : F × H, pre n c = some q0 ∧ nxt q0 = some q1 ∧ nxt q1 = some q2 ∧ nxt q2 = some q3 ∧ st5 n c = some q5 ∧ exec lawC false 1000000 l5 q3.1 q3.2 = some (.norm, q5.1, q5.2) ∧
    st7 n c = some q7 ∧ exec ansC false 1000000 l7 q5.1 q5.2 = some (.norm, q7.1, q7.2) ∧ st8 n c = some q8 ∧ exec ansC false 1000000 l8 q7.1 q7.2 = some (.norm, q8.1, q8.2) ∧
    exec ansC false 1000000 l9 q8.1 q8.2 = some (.norm, q9.1, q9.2) ∧ lk q9.1.loc 42 = some (.bool true) ∧ exec ansC false 1000000 l10 q9.1 q9.2 = some (.norm, q10.1, q10.2) ∧ lk q10.1.loc 2 = some (.bool true) := by
  have h := fin_ok n c
  unfold fin at h
  cases e9 : st9 n c with
  | none => rw [e9] at h; cases h
  | some q9 =>
    rw [e9] at h
    obtain ⟨h1, h2⟩ := tt2_and.1 (show tt2 (isTrue (lk q9.1.loc 42)) (Option.rec (motive := fun _ => Bool) false (fun q => isTrue (lk q.1.loc 2)) (st10 n c)) = true from h)
    cases e10 : st10 n c with
    | none => rw [e10] at h2; cases h2
    | some q10 =>
      rw [e10] at h2
      have h2 : isTrue (lk q10.1.loc 2) = true := h2
      obtain ⟨p9, a1, a2⟩ := ob_some.1 e10
      rw [e9] at a1
      cases a1
      obtain ⟨q8, e8, a3⟩ := ob_some.1 e9
      obtain ⟨q7, e7, a4⟩ := ob_some.1 e8
      obtain ⟨q5, e5, a5⟩ := ob_some.1 e7
      obtain ⟨q3, e3, a6⟩ := ob_some.1 e5
      obtain ⟨q2, e2, a7⟩ := ob_some.1 (show ob (stAt n c 2) nxt = some q3 from e3)
      obtain ⟨q1, e1, a8⟩ := ob_some.1 (show ob (stAt n c 1) nxt = some q2 from e2)
      obtain ⟨q0, e0, a9⟩ := ob_some.1 (show ob (pre n c) nxt = some q1 from e1)
      exact ⟨q0, q1, q2, q3, q5, q7, q8, q9, q10, e0, a9, a8, a7, e5, norm1_isSome a6, e7, norm1_isSome a5, e8, norm1_isSome a4, norm1_isSome a3, isTrue_some h1, norm1_isSome a2, isTrue_some h2⟩
/-- A part, and what comes behind it. -/
theorem seq_ok {call : CallT} (hk : CallOk Tryz.prog TP call) {m N n : Nat} {a b : Code} {ca : CCode} {f f' : F} {h h' : H} {g : G} {act : Act} {w : World} {B : Nat} {Q : Exit → Act → World → Prop} (hc : comp TP m N a = some ca) (hx : exec call false n ca f h = some (.norm, f', h'))
    (r : WR TP g h w) (hG : Glob TP g h) (hf : FR g m N f act.tmps) (hM : Marks [] g w B act.defers) (hB : B ≤ w.heap.size)
    (k : ∀ g' a' w', Ext TP g h w g' h' w' → FR g' m N f' a'.tmps → Marks [] g' w' B a'.defers → b.wpIn (fen none) 0 Tryz.prog Q a' w') : (a.seq b).wpIn (fen none) 0 Tryz.prog Q act w := by
  refine wpIn_seq (wpIn_mono (exec_ok (D := []) tyOk hk mixed n none a ca hc f h .norm f' h' hx g act w B r hG hf (fun _ => hM) hB) ?_)
  rintro e a' w' ⟨g', y1, y2, y3, y4⟩
  obtain rfl := y4.norm_inv
  exact k g' a' w' y1 y2 (y3 rfl)
end Ev
end Go.Proofs.YtchmfcjfdhokoaaGreatDoor
namespace Go.Proofs.YtchmfcjfdhokoaaGreatDoor
namespace Ev
def cnd (c : CCode) : Opd := match c with
  | .cond o _ _ => o
  | _ => .t 0
theorem comp_seq_inv {m N : Nat} {a b : Code} {c : CCode} (e : comp TP m N (.seq a b) = some c) : comp TP m N a = some (lft c) ∧ comp TP m N b = some (rgt c) := by
  rw [comp_seq] at e
  obtain ⟨x, h1, e⟩ := ob_some.1 e
  obtain ⟨y, h2, e⟩ := ob_some.1 e
  cases e
  exact ⟨h1, h2⟩
theorem comp_block_inv {m N i : Nat} {a : Code} {c : CCode} (e : comp TP m N (.block i a) = some c) : comp TP m N a = some (bod c) := by
  rw [comp_block] at e
  obtain ⟨x, h1, e⟩ := ob_some.1 e
  cases e
  exact h1
theorem comp_loop_inv {m N : Nat} {a : Code} {c : CCode} (e : comp TP m N (.loop a) = some c) : comp TP m N a = some (bod c) := by
  rw [comp_loop] at e
  obtain ⟨x, h1, e⟩ := ob_some.1 e
  cases e
  exact h1
theorem comp_cond_inv {m N : Nat} {o : Operand} {a b : Code} {c : CCode} (e : comp TP m N (.cond o a b) = some c) : opd TP m o = some (cnd c) ∧ comp TP m N a = some (thn c) := by
  rw [comp_cond] at e
  obtain ⟨x, h1, e⟩ := ob_some.1 e
  obtain ⟨y, h2, e⟩ := ob_some.1 e
  obtain ⟨z, _, e⟩ := ob_some.1 e
  cases e
  exact ⟨h1, h2⟩
theorem eq9 (call : CallT) (f : F) (h : H) : exec call false 1000000 l9 f h = exec ansC false 1000000 l9 f h := by kernel_rfl
theorem eq10 (call : CallT) (f : F) (h : H) : exec call false 1000000 l10 f h = exec ansC false 1000000 l10 f h := by kernel_rfl
theorem cnd42 : cnd (rgt b4) = .l 42 := by kernel_rfl
theorem res3 : cf3.results = [.tmp (.l 2)] := by kernel_rfl
theorem lawC_ok : CallOk Tryz.prog TP lawC := callS_ok lawP_ok 100
set_option maxHeartbeats 1000000 in
theorem law_none {s : ByteArray} (hn : NoName s) {g : G} {h : H} {w : World} (r : WR TP g h w) (hG : Glob TP g h) : CallsIn Fence.wide 0 Tryz.prog 3 #[.string s] w fun e w' => e = .returned (.bool true) ∧ Still w w' := by
  obtain ⟨g0, r0, a0, G0⟩ := base0 g h w r hG
  obtain ⟨n, hsn⟩ : ∃ n, n = s.size := ⟨_, rfl⟩
  obtain ⟨c, hsc⟩ : ∃ c, c = natOf s.data.toList := ⟨_, rfl⟩
  have hv : VR g0 (.str n c) (.string s) := by rw [hsn, hsc]; exact .str s
  have hz : CallOk Tryz.prog TP (callZ n c) := by rw [hsn, hsc]; exact callZ_ok hn
  obtain ⟨q0, q1, q2, q3, q5, q7, q8, q9, q10, e0, n1, n2, n3, e5, x5, e7, x7, e8, x8, x9, x42, x10, x2⟩ := states n c
  have s0 : stAt n c 0 = some q0 := e0
  have s1 : stAt n c 1 = some q1 := by show ob (stAt n c 0) nxt = _; rw [s0]; exact n1
  have s2 : stAt n c 2 = some q2 := by show ob (stAt n c 1) nxt = _; rw [s1]; exact n2
  have s3 : stAt n c 3 = some q3 := by show ob (stAt n c 2) nxt = _; rw [s2]; exact n3
  have nx : ∀ i q, i < 3 → stAt n c i = some q → ∃ q', exec lawC false 1000000 lb q.1 q.2 = some (.norm, q'.1, q'.2) ∧ stAt n c (i + 1) = some q' := by
    intro i q hi hq
    obtain rfl | rfl | rfl : i = 0 ∨ i = 1 ∨ i = 2 := by omega
    · rw [s0] at hq; cases hq; exact ⟨q1, norm1_isSome n1, s1⟩
    · rw [s1] at hq; cases hq; exact ⟨q2, norm1_isSome n2, s2⟩
    · rw [s2] at hq; cases hq; exact ⟨q3, norm1_isSome n3, s3⟩
  have y7 : exec (callZ n c) false 1000000 l7 q5.1 q5.2 = some (.norm, q7.1, q7.2) := by
    have := eq7 (callZ n c) n c
    rw [e5, ofZ] at this
    exact (show exec (callZ n c) false 1000000 l7 q5.1 q5.2 = exec ansC false 1000000 l7 q5.1 q5.2 from this).trans x7
  have y8 : exec (callZ n c) false 1000000 l8 q7.1 q7.2 = some (.norm, q8.1, q8.2) := by
    have := eq8 (callZ n c) n c
    rw [e7, ofZ] at this
    exact (show exec (callZ n c) false 1000000 l8 q7.1 q7.2 = exec ansC false 1000000 l8 q7.1 q7.2 from this).trans x8
  obtain ⟨cb, b1, b2'⟩ := ob_some.1 (show ob Tryz.f3.body _ = some cf3 from cf3_ok)
  obtain ⟨_, b4'⟩ := oif_some.1 b2'
  obtain ⟨cc, b5, b6⟩ := ob_some.1 b4'
  obtain ⟨rs, b7, b8⟩ := ob_some.1 b6
  have b9 : cc = cf3.code ∧ rs = cf3.results := by
    have b8 : (some (CF.mk _ cc rs) : Option CF) = some cf3 := b8
    injection b8 with b8
    rw [← b8]
    exact ⟨rfl, rfl⟩
  obtain ⟨rfl, rfl⟩ := b9
  have b5' : ∃ m, comp TP m 116 cb = some cf3.code ∧ mapO (resC TP m) Tryz.f3.results.toList = some cf3.results := ⟨_, b5, b7⟩
  clear b5 b4' b2' b6 b8 b7
  obtain ⟨m, b5, b7⟩ := b5'
  have hb := b1
  cases b1
  obtain ⟨c0, b5⟩ := comp_seq_inv b5
  obtain ⟨c1, b5⟩ := comp_seq_inv b5
  obtain ⟨c3, b5⟩ := comp_seq_inv b5
  obtain ⟨c4, _⟩ := comp_seq_inv b5
  obtain ⟨c4, clb⟩ := comp_seq_inv c4
  have clb := comp_loop_inv (comp_block_inv clb)
  obtain ⟨c5, cb2⟩ := comp_seq_inv clb
  obtain ⟨cb1, _⟩ := comp_seq_inv cb2
  have cb1 := comp_block_inv cb1
  obtain ⟨c7, cb1⟩ := comp_seq_inv cb1
  obtain ⟨c8, cb1⟩ := comp_seq_inv cb1
  obtain ⟨cb4, _⟩ := comp_seq_inv cb1
  obtain ⟨c9, cb4⟩ := comp_seq_inv cb4
  obtain ⟨c42, cb4⟩ := comp_cond_inv cb4
  obtain ⟨c10, _⟩ := comp_seq_inv cb4
  have c42 : opd TP m (.tmp 42) = some (.l 42) := by rw [← cnd42]; exact c42
  obtain ⟨f0, h0, p0, e0⟩ := norm1_some e0
  obtain ⟨f1, h1, p1, e0⟩ := norm1_some e0
  obtain ⟨f3, h3, p3, e0⟩ := norm1_some e0
  have p4 := norm1_isSome e0
  have hF : FR g0 m 116 ⟨[(0, .str n c)], []⟩ (#[Value.string s] ++ Array.replicate (116 - (#[Value.string s] : Array Value).size) undef) := by
    refine ⟨by simp, fun t x e => ?_⟩
    unfold rdn at e
    split at e
    · have e : (Bool.rec (motive := fun _ => Option V) none (some (.str n c)) (Nat.beq 0 t) : Option V) = some x := e
      rw [brec_eq] at e
      split at e
      · rename_i ht
        cases e
        rw [← Nat.eq_of_beq_eq_true ht]
        exact ⟨.string s, by simp, hv⟩
      · cases e
    · cases e
  refine (show CallsIn Fence.wide 0 Tryz.prog 3 #[.string s] w (Post TP g0 H0 w (.bool true) q10.2) from ?_).mono ?_
  case refine_2 =>
    rintro e w' ⟨g', u, rfl, u1, u2⟩
    cases u1
    exact ⟨rfl, u2.size, u2.still a0, u2.os, u2.tape, u2.output⟩
  refine callsIn_of_wp_marks Tryz.func3 hb trivial ?_
  refine seq_ok lawC_ok c0 p0 r0 G0 hF .nil (Nat.le_refl _) fun g1 a1 w1 y1 y2 y3 => ?_
  refine seq_ok lawC_ok c1 p1 y1.wr (G0.ext y1) y2 y3 y1.size fun g2 a2 w2 z1 z2 z3 => ?_
  have t2 := y1.trans z1
  refine seq_ok lawC_ok c3 p3 t2.wr (G0.ext t2) z2 z3 t2.size fun g3 a3 w3 z1 z2 z3 => ?_
  have t3 := t2.trans z1
  refine wpIn_seq (seq_ok lawC_ok c4 p4 t3.wr (G0.ext t3) z2 z3 t3.size fun g4 a4 w4 z1 z2 z3 => ?_)
  have t4 := t3.trans z1
  refine wpIn_block (wpIn_fuel (fun k a w' => k ≤ 3 ∧ ∃ q g', stAt n c (3 - k) = some q ∧ Ext TP g0 H0 w g' q.2 w' ∧ FR g' m 116 q.1 a.tmps ∧ Marks [] g' w' w.heap.size a.defers) ?_ (k := 3) ⟨Nat.le_refl _, q0, g4, s0, t4, z2, z3⟩)
  intro k a w' ⟨hk3, q, g', u1, u2, u3, u4⟩
  cases k with
  | succ k =>
    obtain ⟨q', v1, v2⟩ := nx (3 - (k + 1)) q (by omega) u1
    refine wpIn_mono (exec_ok (D := []) tyOk lawC_ok mixed 1000000 none _ lb clb q.1 q.2 .norm q'.1 q'.2 v1 g' a w' w.heap.size u2.wr (G0.ext u2) u3 (fun _ => u4) u2.size) ?_
    rintro e a' w'' ⟨g'', y1, y2, y3, y4⟩
    obtain rfl := y4.norm_inv
    exact ⟨k, Nat.lt_succ_self k, by omega, q', g'', by rw [show 3 - k = 3 - (k + 1) + 1 by omega]; exact v2, u2.trans y1, y2, y3 rfl⟩
  | zero =>
    rw [show 3 - 0 = 3 from rfl, s3] at u1
    cases u1
    refine seq_ok lawC_ok c5 x5 u2.wr (G0.ext u2) u3 u4 u2.size fun g5 a5 w5 z1 z2 z3 => ?_
    have t5 := u2.trans z1
    refine wpIn_seq (wpIn_block (wpIn_seq (reg_step hz c7 y7 t5.wr (G0.ext t5) z2 fun g7 a7 w7 y1 y2 y3 => ?_)))
    have m7 : Marks [] g7 w7 w.heap.size a7.defers := by rw [y3]; exact z3.ext y1
    have t7 := t5.trans y1
    refine wpIn_seq (reg_step hz c8 y8 t7.wr (G0.ext t7) y2 fun g8 a8 w8 y1 y2 y3 => ?_)
    have m8 : Marks [] g8 w8 w.heap.size a8.defers := by rw [y3]; exact m7.ext y1
    have t8 := t7.trans y1
    refine wpIn_seq (wpIn_seq (reg_step hz c9 ((eq9 _ _ _).trans x9) t8.wr (G0.ext t8) y2 fun g9 a9 w9 y1 y2 y3 => ?_))
    have m9 : Marks [] g9 w9 w.heap.size a9.defers := by rw [y3]; exact m8.ext y1
    have t9 := t8.trans y1
    have ev := y2.eval c42 (v := .bool true) x42
    refine wpIn_cond_true (by generalize a9.eval (.tmp 42) = u at ev; cases ev; rfl) (wpIn_seq (reg_step hz c10 ((eq10 _ _ _).trans x10) t9.wr (G0.ext t9) y2 fun g10 a10 w10 y1 y2 y3 => ?_))
    have m10 : Marks [] g10 w10 w.heap.size a10.defers := by rw [y3]; exact m9.ext y1
    have t10 := t9.trans y1
    refine wpIn_ret ?_
    show LeavesInM Fence.wide 0 Tryz.prog Tryz.f3 a10.tmps (Post TP g0 H0 w (.bool true) q10.2) a10.defers .returning w10
    obtain ⟨ms, k1, k2, k3⟩ := m10
    rw [k1, List.append_nil]
    refine leaves_ok k2 k3 t10 fun w2 hw2 => ?_
    exact results_ok tyOk y2 hw2 b7 (vs := [.bool true]) (by rw [res3]; show ob (lk q10.1.loc 2) (fun v => ob (some []) fun vs => some (v :: vs)) = _; rw [x2]; rfl)
end Ev
end Go.Proofs.YtchmfcjfdhokoaaGreatDoor
namespace Go.Proofs.YtchmfcjfdhokoaaGreatDoor
namespace Ev
theorem law_known {s : ByteArray} {n c : Nat} (e : runE (callS lawP 100) H0 3 [.v (.str n c)] (.v (.bool true)) = true) (h1 : s.size = n) (h2 : natOf s.data.toList = c) {w : World} (hb : Base TP H0 w) : CallsIn Fence.wide 0 Tryz.prog 3 #[.string s] w fun e w' => e = .returned (.bool true) ∧ Still w w' := by
  have rd : RdDs w (fun _ => True) [.string s] [.v (.str n c)] := .cons (.v rfl (by rw [← h1, ← h2]; exact .str s)) .nil
  obtain ⟨fn, _, _, _, k⟩ := runE_ok lawC_ok e hb rd
  refine k.mono ?_
  rintro e w' ⟨u, rfl, k1, k2⟩
  cases k1 with
  | v _ hv =>
    cases hv
    exact ⟨rfl, k2⟩
theorem toList_data {s : ByteArray} {l : List UInt8} (h : (s.toList == l) = true) : s.data.toList = l := by
  have : s.toList = l := by simpa using h
  rw [← this, ByteArray.toList_eq]
theorem law_any (s : ByteArray) {g : G} {h : H} {w : World} (r : WR TP g h w) (hG : Glob TP g h) : CallsIn Fence.wide 0 Tryz.prog 3 #[.string s] w fun e w' => e = .returned (.bool true) ∧ Still w w' := by
  have sz : ∀ {l : List UInt8}, s.data.toList = l → s.size = l.length := fun h => by rw [← h, Array.length_toList]; rfl
  cases h1 : (s.toList == [115, 101, 114, 118, 101, 114]) with
  | true => exact law_known known1 (sz (toList_data h1)) (by rw [toList_data h1]; kernel_rfl) (base0 g h w r hG)
  | false =>
    cases h2 : (s.toList == [115, 116, 97, 116, 101, 109]) with
    | true => exact law_known known2 (sz (toList_data h2)) (by rw [toList_data h2]; kernel_rfl) (base0 g h w r hG)
    | false =>
      cases h3 : (s.toList == [115, 117, 112, 101, 114, 118, 105, 115, 111, 114]) with
      | true => exact law_known known3 (sz (toList_data h3)) (by rw [toList_data h3]; kernel_rfl) (base0 g h w r hG)
      | false => exact law_none ⟨h1, h2, h3⟩ r hG
end Ev
end Go.Proofs.YtchmfcjfdhokoaaGreatDoor
