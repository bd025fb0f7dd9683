/-
  The law's walk: what is open is only handed on; the rest is run by the kernel.
-/
import Derived.Test.YtbfkbabolhhbaaaGreatDoorMnQ
import Derived.ProofKit
import Derived.OpenShut
import Derived.Deep.Slices
import Derived.Deep.Fields
import Derived.ChangeSame
namespace Go.Proofs.YtbfkbabolhhbaaaGreatDoor
set_option linter.unusedSimpArgs false
set_option linter.unusedVariables false
namespace Ev
variable [Opq]
set_option linter.unusedSectionVars false
noncomputable section
def kN : V := .func (.yield 0) [.int .i64 6] []
def itB (b : Bool) : V := Bool.rec (motive := fun _ => V) (oq 6) (oqe 6) b
def tK (k : V) (b : Bool) : V := .agg [k, oq 1, oq 2, oq 3, oq 4, oq 5, itB b, oq 7, oq 8]
/-- A function known at the term alone, elsewhere by its code. -/
def pidP (f : FuncId) (b : Bool) (vs : List V) (h : H) : Option (V × H) := match vs with
  | [x] => Bool.rec (motive := fun _ => Option (V × H)) (callS pr1 300 (.fn f) [x] h) (some (.bool b, h)) (sameV 20 x (tK (.int .i64 6) b))
  | _ => none
def prN (b : Bool) : List (Nat × Prim) := (29, pidP 29 b) :: (9, pidP 9 b) :: pr2
def S1 : CCode := lft (rest 1 cf3.code)
def opsOf (c : CCode) : List COper := match c with
  | .reg l => l
  | _ => []
def cl1 : List COper := (opsOf (lft S1)).take 2
def cond1 : CCode := rgt S1
def st1 (b : Bool) (k : V) : Option (F × H) := ob (pre (callS (prN b) 300) 1000000 1 cf3.code ⟨numbered [tK k b, oq 9] 0, []⟩ H0) fun r => runOps (callS (prN b) 300) cl1 r.1 r.2
def stB (b : Bool) (r : F × H) : F := clr ((Dst.l 16).put r.1 (.bool b))
/-- What is left, behind the measure's answer. -/
def finB (b : Bool) (k : V) : Bool :=
  Option.rec (motive := fun _ => Bool) false (fun r =>
    tt2 (Option.rec (motive := fun _ => Bool) false (fun q => X.rec (motive := fun _ => Bool) false (fun _ => false) (Option.rec (motive := fun _ => Bool) false (fun v => eqV0 v (.bool true)) (lk q.2.1.loc 4)) q.1) (exec (callS (prN b) 300) false 1000000 cond1 (stB true r) r.2))
      (Option.rec (motive := fun _ => Bool) false (fun q => X.rec (motive := fun _ => Bool)
        (Option.rec (motive := fun _ => Bool) false (fun z => X.rec (motive := fun _ => Bool) false (fun _ => false) (Option.rec (motive := fun _ => Bool) false (fun v => eqV0 v (.bool true)) (lk z.2.1.loc 4)) z.1) (exec (callS (prN b) 300) false 1000000 (rest 2 cf3.code) q.2.1 q.2.2)) (fun _ => false) false q.1)
        (exec (callS (prN b) 300) false 1000000 cond1 (stB false r) r.2))) (st1 b k)
end
theorem S1_eq : S1 = .seq (.reg (cl1 ++ [⟨.l 16, .call 4, [.t 15, .c (.int .i64 500)], none, 0, 0⟩])) cond1 := by kernel_rfl
theorem rest1_eq : rest 1 cf3.code = .seq S1 (rest 2 cf3.code) := by kernel_rfl
theorem st1_6 (b : Bool) : (ob (st1 b (.int .i64 6)) fun r => evs r.1 [.t 15, .c (.int .i64 500)]) = some [.sl 3 0 1 1 true 9, .int .i64 500] ∧ (ob (st1 b (.int .i64 6)) fun r => r.2.rd 3 0 9) = some [.int .i64 6, oq 1, oq 2, oq 3, oq 4, oq 5, itB b, oq 7, oq 8] := by
  cases b <;> exact ⟨by kernel_rfl, by kernel_rfl⟩
theorem st1_N (b : Bool) : (ob (st1 b kN) fun r => evs r.1 [.t 15, .c (.int .i64 500)]) = some [.sl 3 0 1 1 true 9, .int .i64 500] ∧ (ob (st1 b kN) fun r => r.2.rd 3 0 9) = some [kN, oq 1, oq 2, oq 3, oq 4, oq 5, itB b, oq 7, oq 8] := by
  cases b <;> exact ⟨by kernel_rfl, by kernel_rfl⟩
theorem fin6t : finB true (.int .i64 6) = true := by kernel_rfl
theorem fin6f : finB false (.int .i64 6) = true := by kernel_rfl
theorem finNf : finB false kN = true := by kernel_rfl
theorem finNt : finB true kN = true := by kernel_rfl
theorem callFn_of_runQ {pr : List (Nat × Prim)} (hp : PrimsOk pr) {f : FuncId} {v : V} {b : Bool} (e : runQ (callS pr 300) f v b = true) {g : G} {h : H} {w : World} {us : List Value} (r : WR TP g h w) (hG : Glob TP g h) (hv : VRs nog [v] us) : CallFn Tryz.prog TP f us g h w (.bool b) h := by
  obtain ⟨g0, r0, a0, G0⟩ := base0 g h w r hG
  unfold runQ at e
  cases e1 : callS pr 300 (.fn f) [v] H0 with
  | none => rw [e1] at e; cases e
  | some q =>
    rw [e1] at e
    have e2 : q.1 = .bool b := eqV0_eq e
    obtain ⟨fn, m1, m2, m3, m4⟩ := (callS_ok hp 300).fn f _ _ q.1 q.2 e1 g0 w us r0 G0 (hv.mono (fun _ _ k => by cases k))
    refine ⟨fn, m1, m2, m3, m4.mono ?_⟩
    rintro x w' ⟨g', u, rfl, n1, n2⟩
    rw [e2] at n1
    exact ⟨g, u, rfl, by cases n1; exact .bool _, Ext.ofStill r ⟨n2.size, n2.still a0, n2.os, n2.tape, n2.output⟩⟩
/-- The fields of a term, as values. -/
noncomputable def termV (x : Tm) : Value := .agg #[.int .i64 x.kind, .int .i64 x.int, .int .i64 x.gen, .string x.name, .string x.fn, .int .i64 x.ar, x.it, .string x.bytes, .int .i64 x.bits]
theorem it_inv {x : Tm} (t : TermOf x) {b : Bool} {g : G} {u : Value} (hv : VR g (itB b) u) : u = x.it := by
  cases b with
  | false => exact (VR.oq_inv hv).trans t.v6
  | true =>
    have hv : VR g (.func (.yield 6) [.nils] []) u := hv
    cases hv with
    | oqe h => exact h.symm.trans t.v6
theorem tO_inv {x : Tm} (t : TermOf x) {b : Bool} {g : G} {u : Value} (hv : VR g (tK (.int .i64 6) b) u) : u = .agg #[.int .i64 6, .int .i64 x.int, .int .i64 x.gen, .string x.name, .string x.fn, .int .i64 x.ar, x.it, .string x.bytes, .int .i64 x.bits] := by
  unfold tK at hv
  cases hv with
  | agg hv =>
  obtain _ | ⟨h0, _ | ⟨h1, _ | ⟨h2, _ | ⟨h3, _ | ⟨h4, _ | ⟨h5, _ | ⟨h6, _ | ⟨h7, _ | ⟨h8, _ | _⟩⟩⟩⟩⟩⟩⟩⟩⟩ := hv
  rw [h0.i64_inv, h1.oq_inv, h2.oq_inv, h3.oq_inv, h4.oq_inv, h5.oq_inv, it_inv t h6, h7.oq_inv, h8.oq_inv, t.v1, t.v2, t.v3, t.v4, t.v5, t.v7, t.v8]
theorem vr_empty {g : G} {s : ByteArray} (h : s.size = 0) : VR g (.str 0 0) (.string s) := by
  have e : s = ByteArray.empty := by
    cases s with
    | mk d => have : d = #[] := Array.size_eq_zero_iff.1 h; rw [this]; rfl
  rw [e]
  exact .str ByteArray.empty
noncomputable def pidB (x : Tm) : Bool := (inr x.int && inr x.gen && nmS x.name) && rest0 x
theorem pid_call {x : Tm} (t : TermOf x) {f : FuncId} (hz : ∀ q1 q2 q3, runQ (callS (prQ q1 q2 q3) 300) f (tZ (oqe 6)) (q1 && q2 && q3) = true) (hn : ∀ q1 q2 q3, runQ (callS (prF q1 q2 q3) 300) f tO false = true) {b : Bool} (hb : pidB x = b)
    {g : G} {h : H} {w : World} {us : List Value} (r : WR TP g h w) (hG : Glob TP g h) (hv : VRs g [tK (.int .i64 6) b] us) : CallFn Tryz.prog TP f us g h w (.bool b) h := by
  obtain _ | ⟨k0, _ | _⟩ := hv
  rename_i u
  have hu := tO_inv t k0
  have hq : PrimsOk (prQ (inr x.int) (inr x.gen) (nmS x.name)) := .cons rfl (within_ok t rfl rfl) <| .cons rfl (between_ok t rfl rfl) <| .cons rfl (valid_ok t rfl) <| .cons rfl (name_ok t rfl) <| .nil
  cases hr : rest0 x with
  | false =>
    have : pidB x = false := by unfold pidB; rw [hr, Bool.and_false]
    rw [← hb, this]
    have hv' : VRs nog [tO] [u] := by
      rw [hu]
      exact .cons (.agg (x := [_, _, _, _, _, _, _, _, _]) (.cons (.int _ _) <| .cons (.opq t.v1) <| .cons (.opq t.v2) <| .cons (.opq t.v3) <| .cons (.opq t.v4) <| .cons (.opq t.v5) <| .cons (.opq t.v6) <| .cons (.opq t.v7) <| .cons (.opq t.v8) .nil)) .nil
    exact callFn_of_runQ (.cons rfl (zero_ok t hr) <| .cons rfl (same_ok' t hr) hq) (hn _ _ _) r hG hv'
  | true =>
    have : pidB x = (inr x.int && inr x.gen && nmS x.name) := by unfold pidB; rw [hr, Bool.and_true]
    rw [← hb, this]
    obtain ⟨a, l, c, hit⟩ := t.it
    have hz0 : isZ x.fn x.ar l x.bytes x.bits = true := by unfold rest0 at hr; rwa [hit] at hr
    obtain ⟨z1, z2, z3, z4, z5⟩ := of_decide_eq_true hz0
    subst z3
    have hv' : VRs nog [tZ (oqe 6)] [u] := by
      rw [hu, z2, z5, hit]
      exact .cons (.agg (x := [_, _, _, _, _, _, _, _, _]) (.cons (.int _ _) <| .cons (.opq t.v1) <| .cons (.opq t.v2) <| .cons (.opq t.v3) <| .cons (vr_empty z1) <| .cons (.int _ _) <| .cons (.oqe (t.v6.trans hit)) <| .cons (vr_empty z4) <| .cons (.int _ _) .nil)) .nil
    exact callFn_of_runQ hq (hz _ _ _) r hG hv'
theorem pid_ok {f : FuncId} {b : Bool} (hc : ∀ {g : G} {h : H} {w : World} {us : List Value}, WR TP g h w → Glob TP g h → VRs g [tK (.int .i64 6) b] us → CallFn Tryz.prog TP f us g h w (.bool b) h) : PrimOf f (pidP f b) := by
  intro vs h v h' e g w us r hG hv
  unfold pidP at e
  split at e
  · rename_i x
    rw [brec_eq] at e
    split at e
    · rename_i hs
      cases e
      rw [sameV_eq 20 _ _ hs] at hv
      exact hc r hG hv
    · exact (callS_ok pr1_ok 300).fn f _ _ _ _ e g w us r hG hv
  · cases e
theorem prN_ok {x : Tm} (t : TermOf x) {b : Bool} (hb : pidB x = b) : PrimsOk (prN b) :=
  .cons rfl (pid_ok fun r hG hv => pid_call t (fun q1 q2 q3 => (run29z q1 q2 q3).2) run29n hb r hG hv) <| .cons rfl (pid_ok fun r hG hv => pid_call t (fun q1 q2 q3 => (run9z q1 q2 q3).2) run9n hb r hG hv) pr2_ok
end Ev
end Go.Proofs.YtbfkbabolhhbaaaGreatDoor
namespace Go.Proofs.YtbfkbabolhhbaaaGreatDoor
set_option linter.unusedSimpArgs false
set_option linter.unusedVariables false
namespace Ev
variable [Opq]
set_option linter.unusedSectionVars false
section
variable {call : CallT} {m N n : Nat} {w0 : World} {Q : Exit → Act → World → Prop} {fn : Func} {rs : List CRes}
theorem norm_ok (hk : CallOk Tryz.prog TP call) {code : Code} {c : CCode} (hc : comp TP m N code = some c) {f f' : F} {h h' : H} (e : exec call false n c f h = some (.norm, f', h')) {g : G} {act : Act} {w : World} (a : At m N w0 f h g act w)
    (K : ∀ g' a' w', At m N w0 f' h' g' a' w' → Q .normal a' w') : code.wpIn (fen none) 0 Tryz.prog Q act w := by
  refine wpIn_mono (exec_ok (D := []) tyOk hk mixed n none code _ hc f h .norm f' h' e g act w w0.heap.size a.seg.wr a.seg.glob a.fr (fun _ => a.marks) a.seg.still.size) ?_
  rintro ex a' w' ⟨g', y1, y2, y3, y4⟩
  obtain rfl := y4.norm_inv
  exact K g' a' w' ⟨a.seg.step y1, y2, y3 rfl⟩
theorem ret_ok (hk : CallOk Tryz.prog TP call) (hrs : mapO (resC TP m) fn.results.toList = some rs) {code : Code} {c : CCode} {f f' : F} {h h' : H} {g : G} {act : Act} {w : World} (hc : comp TP m N code = some c) (e : exec call false n c f h = some (.ret, f', h'))
    (er : resOf f' h' rs = some [.bool true]) (a : At m N w0 f h g act w) (hQ : ∀ a' w', LeavesInM Fence.wide 0 Tryz.prog fn a'.tmps (fun e w' => e = .returned (.bool true) ∧ Still w0 w') a'.defers .returning w' → Q .ret a' w') : code.wpIn (fen none) 0 Tryz.prog Q act w := by
  refine wpIn_mono (exec_ok (D := []) tyOk hk mixed n none code _ hc f h .ret f' h' e g act w w0.heap.size a.seg.wr a.seg.glob a.fr (fun _ => a.marks) a.seg.still.size) ?_
  rintro ex a' w' ⟨g', y1, y2, y3, y4⟩
  cases ex <;> first | (cases y4; done) | skip
  obtain ⟨ms, p1, p2, p3⟩ := y3 rfl
  refine hQ a' w' ?_
  rw [p1, List.append_nil]
  exact leaves_seg (fun w2 hw2 => results_ok tyOk y2 hw2 hrs er) p2 p3 (a.seg.step y1)
end
/-- What one part of the check says. -/
theorem ret_of {r : Option (X × F × H)} (e : (Option.rec (motive := fun _ => Bool) false (fun q => X.rec (motive := fun _ => Bool) false (fun _ => false) (Option.rec (motive := fun _ => Bool) false (fun v => eqV0 v (.bool true)) (lk q.2.1.loc 4)) q.1) r : Bool) = true) :
    ∃ f' h', r = some (.ret, f', h') ∧ lk f'.loc 4 = some (.bool true) := by
  cases r with
  | none => cases e
  | some q =>
    obtain ⟨x, f', h'⟩ := q
    cases x with
    | norm => cases e
    | exit _ => cases e
    | ret =>
      have e : (Option.rec (motive := fun _ => Bool) false (fun v => eqV0 v (.bool true)) (lk f'.loc 4) : Bool) = true := e
      cases hl : lk f'.loc 4 with
      | none => rw [hl] at e; cases e
      | some v =>
        rw [hl] at e
        exact ⟨f', h', rfl, by rw [hl, eqV0_eq e]⟩
theorem fin_out {b : Bool} {k : V} (e : finB b k = true) {r : F × H} (hs : st1 b k = some r) :
    (∃ f' h', exec (callS (prN b) 300) false 1000000 cond1 (stB true r) r.2 = some (.ret, f', h') ∧ lk f'.loc 4 = some (.bool true)) ∧
      ∃ f1 h1, exec (callS (prN b) 300) false 1000000 cond1 (stB false r) r.2 = some (.norm, f1, h1) ∧ ∃ f' h', exec (callS (prN b) 300) false 1000000 (rest 2 cf3.code) f1 h1 = some (.ret, f', h') ∧ lk f'.loc 4 = some (.bool true) := by
  unfold finB at e
  rw [hs] at e
  obtain ⟨e1, e2⟩ := tt2_and.1 e
  refine ⟨ret_of e1, ?_⟩
  cases hq : exec (callS (prN b) 300) false 1000000 cond1 (stB false r) r.2 with
  | none => rw [hq] at e2; cases e2
  | some q =>
    rw [hq] at e2
    obtain ⟨x, f1, h1⟩ := q
    cases x with
    | exit _ => cases e2
    | ret => cases e2
    | norm => exact ⟨f1, h1, rfl, ret_of e2⟩
theorem H0_two {id : Nat} {b : Blk} (e : H0.blk id = some b) : (id = 0 ∨ id = 1) ∧ b.kin = none := by
  have e : (Tr.put (Tr.put Tr.e 0 (some (.ro (lenL tbl) (trOf tbl 0 .e)))) 1 (some (.ro (lenL tbS) (trOf tbS 0 .e)))).get id = some b := e
  rw [Tr.get_put _ _ _ _ (by decide)] at e
  split at e
  · rename_i h
    cases e
    exact ⟨.inr h, rfl⟩
  · rw [Tr.get_put _ _ _ _ (by decide)] at e
    split at e
    · rename_i h
      cases e
      exact ⟨.inl h, rfl⟩
    · cases e
theorem law_walk {b : Bool} {k : V} (hp : PrimsOk (prN b)) (s1 : (ob (st1 b k) fun r => evs r.1 [.t 15, .c (.int .i64 500)]) = some [.sl 3 0 1 1 true 9, .int .i64 500] ∧ (ob (st1 b k) fun r => r.2.rd 3 0 9) = some [k, oq 1, oq 2, oq 3, oq 4, oq 5, itB b, oq 7, oq 8])
    (hf : finB b k = true) {x : Tm} (t : TermOf x) (hkv : ∀ (g : G) (u : Value), VR g k u → u = .int .i64 x.kind) {w : World} {us : List Value} (hb : Base TP H0 w) (hv : VRs nog [tK k b, oq 9] us) (hr : RdT w x.it) :
    CallsIn Fence.wide 0 Tryz.prog 3 us.toArray w fun e w' => e = .returned (.bool true) ∧ Still w w' := by
  obtain ⟨g, r, a, hG⟩ := hb
  have hv := hv.mono (g' := g) (fun _ _ k => by cases k)
  obtain ⟨c, e1, e2⟩ := ob_some.1 (show ob Tryz.f3.body _ = some cf3 from cf3_ok)
  obtain ⟨e3, e4⟩ := oif_some.1 e2
  obtain ⟨cc, e5, e6⟩ := ob_some.1 e4
  obtain ⟨rs, e7, e8⟩ := ob_some.1 e6
  have b9 : cc = cf3.code ∧ rs = cf3.results := by
    have e8 : (some (CF.mk _ cc rs) : Option CF) = some cf3 := e8
    injection e8 with e8
    rw [← e8]
    exact ⟨rfl, rfl⟩
  obtain ⟨rfl, rfl⟩ := b9
  have e5' : ∃ m, comp TP m Tryz.f3.ntmps c = some cf3.code ∧ mapO (resC TP m) Tryz.f3.results.toList = some cf3.results := ⟨_, e5, e7⟩
  clear e5 e4 e2 e6 e8 e7
  obtain ⟨m, e5, e7⟩ := e5'
  have hlen := hv.length
  have hus : us.length ≤ Tryz.f3.ntmps := by
    have h2 : (2 : Nat) ≤ Tryz.f3.ntmps := Nat.le_of_ble_eq_true (by kernel_rfl)
    have h3 : us.length = 2 := hlen.symm
    omega
  have hF : FR g m Tryz.f3.ntmps ⟨numbered [tK k b, oq 9] 0, []⟩ (us.toArray ++ Array.replicate (Tryz.f3.ntmps - us.toArray.size) undef) := by
    refine ⟨by rw [Array.size_append, Array.size_replicate]; simp only [List.size_toArray]; omega, fun t x e => ?_⟩
    unfold rdn at e
    split at e
    · have e : lk (numbered [tK k b, oq 9] 0) t = some x := e
      rw [lk_numbered, if_pos (Nat.zero_le _)] at e
      obtain ⟨u, m1, m2⟩ := hv.get e
      refine ⟨u, ?_, m2⟩
      have ht : t < us.length := by
        rcases Nat.lt_or_ge t us.length with k | k
        · exact k
        · rw [List.getElem?_eq_none (by omega)] at m1; cases m1
      rw [Array.getElem?_append_left (by simpa using ht)]
      simpa using m1
    · cases e
  refine callsIn_of_wp_marks Tryz.func3 e1 trivial ?_
  have at0 : At m Tryz.f3.ntmps w ⟨numbered [tK k b, oq 9] 0, []⟩ H0 g ⟨us.toArray ++ Array.replicate (Tryz.f3.ntmps - us.toArray.size) undef, []⟩ w := by
    refine ⟨⟨r, hG, .refl w, fun id b o z e _ => ?_⟩, hF, .nil⟩
    obtain ⟨k, hk⟩ := a.2 _ _ e
    obtain ⟨q, _⟩ := H0_two hk
    rcases q with rfl | rfl
    · exact ⟨0, o, z, _, _, .inl rfl, e, H0_0⟩
    · exact ⟨1, o, z, _, _, .inr rfl, e, H0_1⟩
  obtain ⟨s1, s2⟩ := s1
  cases hs : st1 b k with
  | none => rw [hs] at s1; cases s1
  | some q =>
  rw [hs] at s1 s2
  have s1 : evs q.1 [.t 15, .c (.int .i64 500)] = some [.sl 3 0 1 1 true 9, .int .i64 500] := s1
  have s2 : q.2.rd 3 0 9 = some [k, oq 1, oq 2, oq 3, oq 4, oq 5, itB b, oq 7, oq 8] := s2
  obtain ⟨⟨ft, ht, t1, t2⟩, f1, h1, c1, ff, hh, c2, c3⟩ := fin_out hf hs
  obtain ⟨r0, p1, p2⟩ := ob_some.1 (show ob (pre (callS (prN b) 300) 1000000 1 cf3.code ⟨numbered [tK k b, oq 9] 0, []⟩ H0) _ = some q from hs)
  have hk := callS_ok hp 300
  refine pre_ok hk 1 e5 (show pre (callS (prN b) 300) 1000000 1 cf3.code ⟨numbered [tK k b, oq 9] 0, []⟩ H0 = some (r0.1, r0.2) from p1) at0 fun code1 g1 a1 w1 q1 A1 => ?_
  rw [rest1_eq] at q1
  obtain ⟨x0, y, rfl, hx, hy⟩ := comp_seq_of q1
  rw [S1_eq] at hx
  obtain ⟨x1, x2, rfl, hx1, hx2⟩ := comp_seq_of hx
  refine wpIn_seq (wpIn_seq ?_)
  have res : ∀ {f' : F} {h' : H}, lk f'.loc 4 = some (.bool true) → resOf f' h' cf3.results = some [.bool true] := by
    intro f' h' e
    show ob (lk f'.loc 4) _ = _
    rw [e]
    rfl
  refine reg_call hk hx1 (show runOps (callS (prN b) 300) cl1 r0.1 r0.2 = some (q.1, q.2) from p2) s1 A1 (A := fun v => v = .bool true ∨ v = .bool false) (fun g2 w2 us2 z2 hv2 => ?_) (fun v g2 a2 w2 hA A2 => ?_)
  · obtain _ | ⟨k0, _ | ⟨k1, _ | _⟩⟩ := hv2
    rw [k1.i64_inv]
    cases k0 with
    | slx hg =>
    rename_i bb oo zz
    obtain ⟨vs9, v1, v2, v3, _⟩ := rd_ok z2.wr hg s2
    obtain _ | ⟨h0, _ | ⟨h1, _ | ⟨h2, _ | ⟨h3, _ | ⟨h4, _ | ⟨h5, _ | ⟨h6, _ | ⟨h7, _ | ⟨h8, _ | _⟩⟩⟩⟩⟩⟩⟩⟩⟩ := v1
    have d0 := v3 0 _ rfl
    have d1 := v3 1 _ rfl
    have d2 := v3 2 _ rfl
    have d3 := v3 3 _ rfl
    have d4 := v3 4 _ rfl
    have d5 := v3 5 _ rfl
    have d6 := v3 6 _ rfl
    have d7 := v3 7 _ rfl
    have d8 := v3 8 _ rfl
    rw [hkv _ _ h0] at d0
    rw [h1.oq_inv, t.v1] at d1
    rw [h2.oq_inv, t.v2] at d2
    rw [h3.oq_inv, t.v3] at d3
    rw [h4.oq_inv, t.v4] at d4
    rw [h5.oq_inv, t.v5] at d5
    rw [it_inv t h6] at d6
    rw [h7.oq_inv, t.v7] at d7
    rw [h8.oq_inv, t.v8] at d8
    have hrd : RdT w2 (.slice (some ⟨bb, oo + 0, none⟩) 1 1) := .mk (fun _ => x) (z2.wr.lt _ _ _ _ hg) (by decide) (fun i hi => by
      obtain rfl : i = 0 := by omega
      exact ⟨d0, d1, d2, d3, d4, d5, d6, d7, d8⟩) (fun _ _ => hr.still z2.still)
    exact ⟨Tryz.f4, Tryz.func4, by decide, rfl, callsIn_wide.2 ((great_w _ w2 hrd).mono fun e w' ⟨bv, he, hst⟩ => ⟨.bool bv, _, by cases bv <;> simp, he, .bool bv, hst⟩)⟩
  · rcases hA with rfl | rfl
    · exact ret_ok (fn := Tryz.f3) (rs := cf3.results) (Q := Exit.then (y.wpIn (fen none) 0 Tryz.prog _) _) hk e7 hx2 t1 (res t2) A2 fun a' w' hl => hl
    · refine norm_ok hk hx2 c1 A2 fun g3 a3 w3 A3 => ?_
      exact last_ok hk e7 hy c2 (res c3) A3
end Ev
end Go.Proofs.YtbfkbabolhhbaaaGreatDoor
namespace Go.Proofs.YtbfkbabolhhbaaaGreatDoor
set_option linter.unusedSimpArgs false
set_option linter.unusedVariables false
open Go.ChangeShapes Go.WideShapes Go.Deep
theorem k3 : Tryz.prog.cellsOf 3 = 1 := by kernel_rfl
theorem k2 : Tryz.prog.cellsOf 2 = 1 := by kernel_rfl
theorem k9 : Tryz.prog.cellsOf 9 = 1 := by kernel_rfl
theorem k22 : Tryz.prog.cellsOf 22 = 1 := by kernel_rfl
theorem k24 : Tryz.prog.cellsOf 24 = 9 := by kernel_rfl
section
variable {H : Type} {enc : TypeId × Value → H} {W : World} {spare : Nat → Bool} {held : Bool}
abbrev Tr0 (enc : TypeId × Value → H) (W : World) (spare : Nat → Bool) (held : Bool) (n t : Nat) (cs : List Value) : Prop := ∃ x, DataW.trod enc Tryz.prog W 0 spare held n t cs = some x
theorem fields_of {n t : Nat} {fs : Array Field} (ht : Tryz.prog.underlying t = some (.struct fs)) {cs : List Value} (h : Tr0 enc W spare held n t cs) : ∃ m, m < n ∧ cs.length = Tryz.prog.cellsOf t ∧ ∀ (i a off c : Nat), Tryz.prog.cellsOf a = c → (∃ f : Field, fs[i]? = some f ∧ f.type = a ∧ f.offset = off) → Tr0 enc W spare held m a ((cs.drop off).take c) := by
  obtain ⟨x, h⟩ := h
  obtain ⟨xs, m, hm, _, hl, hxl, hf⟩ := DataW.trod_struct ht h
  refine ⟨m, by omega, hl, fun i a off c hc ⟨f, hi, ha, ho⟩ => ?_⟩
  subst ha ho hc
  have := hf i f hi
  have hlt := (Array.getElem?_eq_some_iff.1 hi).1
  rw [List.getElem?_eq_getElem (by omega)] at this
  exact ⟨_, this⟩
theorem int_of {n t : Nat} (ht : Tryz.prog.underlying t = some (.int .i64)) {v : Value} (h : Tr0 enc W spare held n t [v]) : ∃ z, v = .int .i64 z := by
  obtain ⟨x, h⟩ := h
  obtain ⟨z, e, _⟩ := DataW.trod_int ht h
  cases e
  exact ⟨z, rfl⟩
theorem str_of {n : Nat} {v : Value} (h : Tr0 enc W spare held n 9 [v]) : ∃ s, v = .string s := by
  obtain ⟨x, h⟩ := h
  obtain ⟨s, e, _⟩ := DataW.trod_string Tryz.underlying9 h
  cases e
  exact ⟨s, rfl⟩
def tmL (x : Tm) : List Value := [.int .i64 x.kind, .int .i64 x.int, .int .i64 x.gen, .string x.name, .string x.fn, .int .i64 x.ar, x.it, .string x.bytes, .int .i64 x.bits]
def Good (enc : TypeId × Value → H) (W : World) (spare : Nat → Bool) (held : Bool) (n : Nat) : Prop := ∀ cs, Tr0 enc W spare held n 24 cs → ∃ x : Tm, cs = tmL x ∧ RdT W x.it
theorem slice_of {n : Nat} (k : ∀ m, m < n → Good enc W spare held m) {v : Value} (h : Tr0 enc W spare held n 22 [v]) : RdT W v := by
  obtain ⟨y, h⟩ := h
  rcases DataW.trod_slice Tryz.underlying22 h with ⟨e1, _⟩ | ⟨a, len, cap, elems, rest, n', hn', hcs, _, hb, hl, hcap, hlen, hel, _, _⟩
  · cases e1
    exact .nil
  obtain rfl := (List.cons.inj hcs).1
  rcases Nat.eq_zero_or_pos len with rfl | hp
  · exact .emp a cap
  have one : ∀ i, i < len → ∃ x : Tm, RdT W x.it ∧ ∀ j, j < 9 → W.cell? (a.add (i * 9 + j)) = (tmL x)[j]? := by
    intro i hi
    have h1 := hel i hi
    rw [List.getElem?_eq_getElem (by omega)] at h1
    obtain ⟨cs', h2, h3⟩ := Option.bind_eq_some_iff.1 h1
    rw [k24] at h2
    obtain ⟨_, h4, h5⟩ := World.cells?_some h2
    obtain ⟨x, rfl, hx⟩ := k n' (by omega) cs' ⟨_, h3⟩
    exact ⟨x, hx, fun j hj => by rw [← h5 j hj, ← Go.Deep.add_add]⟩
  obtain ⟨x0, _, hx0⟩ := one 0 hp
  have hc0 := hx0 0 (by decide)
  obtain ⟨b, o, sp⟩ := a
  have hsp : sp = none := by
    have := World.cell?_spot hc0
    simpa [Addr.add] using this
  subst hsp
  have add : ∀ k, (Addr.mk b o none).add k = ⟨b, o + k, none⟩ := fun k => by
    unfold Addr.add; split
    · rename_i e; rw [e]; rfl
    · rfl
  have hblk : b < W.heap.size := by
    rw [add] at hc0
    cases q : W.heap[b]? with
    | none => simp [World.cell?, q, tmL] at hc0
    | some ob => exact (Array.getElem?_eq_some_iff.1 q).1
  have choose : ∀ i, ∃ x : Tm, i < len → RdT W x.it ∧ ∀ j, j < 9 → W.cell? ⟨b, o + (i * 9 + j), none⟩ = (tmL x)[j]? := by
    intro i
    by_cases hi : i < len
    · obtain ⟨x, h1, h2⟩ := one i hi
      exact ⟨x, fun _ => ⟨h1, fun j hj => by rw [← add]; exact h2 j hj⟩⟩
    · exact ⟨x0, fun h => absurd h hi⟩
  refine .mk (fun i => Classical.choose (choose i)) hblk (by unfold maxLen at hcap; omega) (fun i hi => ?_) fun i hi => (Classical.choose_spec (choose i) hi).1
  have q := (Classical.choose_spec (choose i) hi).2
  have at' : ∀ j, j < 9 → W.cell? ⟨b, o + i * 9 + j, none⟩ = (tmL (Classical.choose (choose i)))[j]? := fun j hj => by rw [Nat.add_assoc]; exact q j hj
  exact ⟨at' 0 (by decide), at' 1 (by decide), at' 2 (by decide), at' 3 (by decide), at' 4 (by decide), at' 5 (by decide), at' 6 (by decide), at' 7 (by decide), at' 8 (by decide)⟩
set_option maxRecDepth 100000 in
theorem good (n : Nat) : Good enc W spare held n := by
  induction n using Nat.strongRecOn with
  | ind n ih =>
  intro cs h
  obtain ⟨m, hm, hl, hf⟩ := fields_of Tryz.underlying24 h
  have ih' := fun j (hj : j < m) => ih j (by omega)
  match cs, hl.trans k24 with
  | [a0, a1, a2, a3, a4, a5, a6, a7, a8], _ =>
  have q0 : Tr0 enc W spare held m 3 [a0] := hf 0 3 0 1 k3 ⟨_, rfl, rfl, rfl⟩
  have q1 : Tr0 enc W spare held m 2 [a1] := hf 1 2 1 1 k2 ⟨_, rfl, rfl, rfl⟩
  have q2 : Tr0 enc W spare held m 2 [a2] := hf 2 2 2 1 k2 ⟨_, rfl, rfl, rfl⟩
  have q3 : Tr0 enc W spare held m 9 [a3] := hf 3 9 3 1 k9 ⟨_, rfl, rfl, rfl⟩
  have q4 : Tr0 enc W spare held m 9 [a4] := hf 4 9 4 1 k9 ⟨_, rfl, rfl, rfl⟩
  have q5 : Tr0 enc W spare held m 3 [a5] := hf 5 3 5 1 k3 ⟨_, rfl, rfl, rfl⟩
  have q6 : Tr0 enc W spare held m 22 [a6] := hf 6 22 6 1 k22 ⟨_, rfl, rfl, rfl⟩
  have q7 : Tr0 enc W spare held m 9 [a7] := hf 7 9 7 1 k9 ⟨_, rfl, rfl, rfl⟩
  have q8 : Tr0 enc W spare held m 3 [a8] := hf 8 3 8 1 k3 ⟨_, rfl, rfl, rfl⟩
  obtain ⟨x0, rfl⟩ := int_of Tryz.underlying3 q0
  obtain ⟨x1, rfl⟩ := int_of Tryz.underlying2 q1
  obtain ⟨x2, rfl⟩ := int_of Tryz.underlying2 q2
  obtain ⟨x3, rfl⟩ := str_of q3
  obtain ⟨x4, rfl⟩ := str_of q4
  obtain ⟨x5, rfl⟩ := int_of Tryz.underlying3 q5
  obtain ⟨x7, rfl⟩ := str_of q7
  obtain ⟨x8, rfl⟩ := int_of Tryz.underlying3 q8
  exact ⟨⟨x0, x1, x2, x3, x4, x5, a6, x7, x8⟩, rfl, slice_of ih' q6⟩
end
open Ev
/-- The values that are only handed on: those of this term and this number. -/
abbrev opqOf (x : Tm) (hx : ∃ a l c, x.it = .slice a l c) (n : Int) : Opq where
  val k := match k with
    | 0 => .int .i64 x.kind
    | 1 => .int .i64 x.int
    | 2 => .int .i64 x.gen
    | 3 => .string x.name
    | 4 => .string x.fn
    | 5 => .int .i64 x.ar
    | 6 => x.it
    | 7 => .string x.bytes
    | 8 => .int .i64 x.bits
    | _ => .int .i64 n
  one k := by
    split <;> first | exact .inl ⟨_, rfl⟩ | exact .inr (.inl ⟨_, rfl⟩) | exact .inr (.inr hx)
/-- MachineNil at a term that can be read. -/
theorem known {W : World} (pt : ∀ o : Opq, @PinAt o W 0 tbl ∧ @PinAt o W 2 tbS) {x : Tm} (hr : RdT W x.it) (n : Int) :
    CallsIn Fence.wide 0 Tryz.prog 3 #[.agg (tmL x).toArray, .int .i64 n] W fun e W' => e = .returned (.bool true) ∧ Still W W' := by
  obtain ⟨a, l, c, hit, _⟩ := hr.slice
  have hx : ∃ a l c, x.it = .slice a l c := ⟨a, l, c, hit⟩
  letI o : Opq := opqOf x hx n
  have t : TermOf x := ⟨rfl, rfl, rfl, rfl, rfl, rfl, rfl, rfl, rfl, hx⟩
  obtain ⟨p0, p2⟩ := pt o
  have hb : Base TP H0 W := base_w p0 p2
  have hi : ∀ {b : Bool}, pidB x = b → VR nog (itB b) x.it := by
    intro b hb
    cases b with
    | false => exact .opq rfl
    | true =>
      have h0 : rest0 x = true := by unfold pidB at hb; rw [Bool.and_eq_true] at hb; exact hb.2
      have hz : isZ x.fn x.ar l x.bytes x.bits = true := by unfold rest0 at h0; rwa [hit] at h0
      obtain ⟨_, _, z3, _, _⟩ := of_decide_eq_true hz
      subst z3
      rw [hit]
      exact .oqe hit
  have hv : ∀ {b : Bool} {k : V}, pidB x = b → VR nog k (.int .i64 x.kind) → VRs nog [tK k b, oq 9] [.agg (tmL x).toArray, .int .i64 n] := fun hb hk =>
    .cons (.agg (.cons hk <| .cons (.opq rfl) <| .cons (.opq rfl) <| .cons (.opq rfl) <| .cons (.opq rfl) <| .cons (.opq rfl) <| .cons (hi hb) <| .cons (.opq rfl) <| .cons (.opq rfl) .nil)) (.cons (.opq rfl) .nil)
  by_cases hk : x.kind = 6
  · have six : ∀ (g : G) (u : Value), VR g (.int .i64 6) u → u = .int .i64 x.kind := fun g u h => by rw [hk]; exact h.i64_inv
    have hv6 : VR nog (.int .i64 6) (.int .i64 x.kind) := by rw [hk]; exact .int _ _
    cases hp : pidB x with
    | false => exact law_walk (prN_ok t hp) (st1_6 false) fin6f t six hb (hv hp hv6) hr
    | true => exact law_walk (prN_ok t hp) (st1_6 true) fin6t t six hb (hv hp hv6) hr
  · have notp : ∀ (g : G) (u : Value), VR g kN u → u = .int .i64 x.kind := by
      intro g u h
      unfold kN at h
      cases h with
      | oqn h _ => exact h.symm.trans t.v0
    cases hp : pidB x with
    | false => exact law_walk (prN_ok t hp) (st1_N false) finNf t notp hb (hv hp (.oqn rfl hk)) hr
    | true => exact law_walk (prN_ok t hp) (st1_N true) finNt t notp hb (hv hp (.oqn rfl hk)) hr
end Go.Proofs.YtbfkbabolhhbaaaGreatDoor
