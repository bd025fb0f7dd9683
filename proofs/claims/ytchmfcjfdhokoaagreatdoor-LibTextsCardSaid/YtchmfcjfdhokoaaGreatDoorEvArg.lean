/-
  Calls that are known by their arguments, as trees; Scan's result, built at once.

  The function that defers: its run, with a deferred call that does nothing.
-/
import Derived.Test.YtchmfcjfdhokoaaGreatDoorEvLit
import Derived.Test.YtchmfcjfdhokoaaGreatDoorEvStage
import Derived.RecoverIn
import Derived.KernelRfl
namespace Go.Proofs.YtchmfcjfdhokoaaGreatDoor
namespace Ev
noncomputable section
/-- The call with these trees hands back this tree. -/
def argP (ds : List D) (d : D) (vs : List V) (h : H) : Option (V × H) :=
  oif (sameD true (.tup ds) 0 h (.tup vs)) (Prod.rec (motive := fun _ => Option (V × H)) (fun v h' => oif (Nat.ble h'.next keys) (some (v, h'))) (d.bld h))
/-- A list has so many elements. -/
def cntOk {α : Type} (e : Nat) (l : List α) : Nat → Bool := List.rec (motive := fun _ => Nat → Bool) (fun j => Nat.beq j e) (fun _ _ ih j => tt2 (Nat.blt j e) (ih (Nat.succ j))) l
/-- Scan of one text: its tokens, in a block that is only read. -/
def scanP (n c nt : Nat) (l : List Tk) (vs : List V) (h : H) : Option (V × H) :=
  oif (eqBs [.str n c] vs) (oif (Nat.blt h.next keys) (some (.tup [.sl h.next 0 nt 0 false 4, .int .i64 (.ofNat 0), .int .i64 (.ofNat 0)], ⟨h.t.put h.next (some (.ro (Nat.mul 4 nt) (trS (cellsT l) 0 .e))), Nat.succ h.next⟩)))
end
theorem argP_ok {f : FuncId} {ds : List D} {d : D} {call : CallT} (hk : CallOk Tryz.prog TP call) (e0 : runE call H0 f ds d = true) : PrimOf f (argP ds d) := fun vs h v h' e g w us r hG hv => by
  obtain ⟨e1, e2⟩ := oif_some.1 e
  have e2 : oif (Nat.ble (d.bld h).2.next keys) (some ((d.bld h).1, (d.bld h).2)) = some (v, h') := e2
  obtain ⟨e3, e4⟩ := oif_some.1 e2
  cases e4
  have k := same_ok r (N := fun _ => True) (fun _ _ _ _ _ _ _ _ => trivial) (.tup ds) e1 (VR.tup hv)
  have k2 : RdDs w (fun _ => True) us ds := by
    generalize hq : (Value.tuple us.toArray) = q at k
    cases k with
    | tup k =>
      have this : us = _ := congrArg Array.toList (Value.tuple.inj hq)
      rw [this]
      exact k
  exact (runE_ok hk e0 (base0 g h w r hG) k2).fn r (by simpa using e3)
theorem cntOk_ok {α : Type} {e : Nat} : ∀ (l : List α) (j : Nat), cntOk e l j = true → j + l.length = e
  | [], j, h => Nat.eq_of_beq_eq_true (show Nat.beq j e = true from h)
  | x :: l, j, h => by
    obtain ⟨_, h2⟩ := tt2_and.1 (show tt2 _ _ = true from h)
    have := cntOk_ok l (j + 1) h2
    rw [List.length_cons]
    omega
theorem cellsT_len : ∀ l : List Tk, (cellsT l).length = 4 * l.length
  | [] => rfl
  | t :: l => by
    show (t.v (cellsT l)).length = _
    unfold Tk.v
    simp only [List.length_cons, cellsT_len l]
    omega
theorem bldL_map (l : List V) (h : H) : bldL (l.map .v) h = (l, h) := by
  induction l with
  | nil => rfl
  | cons v l ih => rw [List.map_cons, bldL_cons]; rw [show (D.v v).bld h = (v, h) from rfl, ih]
theorem toksD_bld (nt : Nat) (l : List Tk) (hl : l.length = nt) (h : H) : (toksD nt l).bld h = (.tup [.sl h.next 0 nt 0 false 4, .int .i64 (.ofNat 0), .int .i64 (.ofNat 0)], ⟨h.t.put h.next (some (.ro (Nat.mul 4 nt) (trS (cellsT l) 0 .e))), Nat.succ h.next⟩) := by
  unfold toksD
  rw [bld_tup]
  have : bldL [D.sl nt 4 none ((cellsT l).map .v), .v (.int .i64 (.ofNat 0)), .v (.int .i64 (.ofNat 0))] h = ([.sl h.next 0 nt 0 false 4, .int .i64 (.ofNat 0), .int .i64 (.ofNat 0)], ⟨h.t.put h.next (some (.ro (Nat.mul 4 nt) (trS (cellsT l) 0 .e))), Nat.succ h.next⟩) := by
    rw [bldL_cons, bld_sl, bldL_map]
    show (_ :: (bldL [.v (.int .i64 (.ofNat 0)), .v (.int .i64 (.ofNat 0))] _).1, _) = _
    rw [lenL_eq, cellsT_len, hl, trS_eq]
    rfl
  rw [this]
theorem scanP_ok {n c nt : Nat} {l : List Tk} {call : CallT} (hk : CallOk Tryz.prog TP call) (e0 : runE call H0 14 [.v (.str n c)] (toksD nt l) = true) (hc : cntOk nt l 0 = true) : PrimOf 14 (scanP n c nt l) := fun vs h v h' e g w us r hG hv => by
  obtain ⟨e1, e2⟩ := oif_some.1 e
  obtain ⟨e3, e4⟩ := oif_some.1 e2
  cases e4
  obtain rfl := eqBs_eq _ _ e1
  have hl : l.length = nt := by have := cntOk_ok l 0 hc; omega
  have k2 : RdDs w (fun _ => True) us [.v (.str n c)] := by
    cases hv with
    | cons a b =>
      cases b
      exact .cons (.v rfl (flat_vr rfl a)) .nil
  have := (runE_ok hk e0 (base0 g h w r hG) k2).fn r (by rw [toksD_bld nt l hl]; exact (by simpa using e3 : h.next < keys))
  rw [toksD_bld nt l hl] at this
  exact this
/-- As Hands, but what is handed back may lie in the pinned block, too. -/
def Hands0 (f : FuncId) (us : List Value) (w : World) (d : D) : Prop :=
  ∃ fn, Tryz.prog.funcs[f]? = some fn ∧ fn.name ≠ "runtime.NumGoroutine" ∧ fn.body.isNone = false ∧ CallsIn Fence.wide 0 Tryz.prog f us.toArray w fun e w' => ∃ u, e = .returned u ∧ RdD w' (fun b => w.heap.size ≤ b ∨ b = 0) u d ∧ Still w w'
noncomputable def runB (call : CallT) (f : FuncId) (vs : List V) (d : D) : Bool :=
  tt2 (vs.all flat) (Option.rec (motive := fun _ => Bool) false (fun r => Prod.rec (motive := fun _ => Bool) (fun v h' => sameD true d 1 h' v) r) (call (.fn f) vs H0))
theorem flats_vr {g g' : G} : ∀ {l : List V} {us : List Value}, l.all flat = true → VRs g l us → VRs g' l us
  | [], _, _, .nil => .nil
  | x :: l, _, h, .cons a t => by
    rw [List.all_cons, Bool.and_eq_true] at h
    exact .cons (flat_vr h.1 a) (flats_vr h.2 t)
theorem runB_ok {call : CallT} (hk : CallOk Tryz.prog TP call) {f : FuncId} {vs : List V} {d : D} (e : runB call f vs d = true) {g : G} {h : H} {w : World} {us : List Value} (r : WR TP g h w) (hG : Glob TP g h) (hv : VRs g vs us) : Hands0 f us w d := by
  obtain ⟨e1, e2⟩ := tt2_and.1 e
  cases e3 : call (.fn f) vs H0 with
  | none => rw [e3] at e2; cases e2
  | some q =>
    rw [e3] at e2
    have e4 : sameD true d 1 q.2 q.1 = true := e2
    obtain ⟨g0, q1, q2, q3⟩ := base0 g h w r hG
    have hv0 : VRs g0 vs us := flats_vr e1 hv
    obtain ⟨fn, m1, m2, m3, m4⟩ := hk.fn f _ _ q.1 q.2 e3 g0 w us q1 q3 hv0
    refine ⟨fn, m1, m2, m3, m4.mono ?_⟩
    rintro x w' ⟨g', u, rfl, n1, n2⟩
    refine ⟨u, rfl, same_ok n2.wr (N := fun b => w.heap.size ≤ b ∨ b = 0) (fun id b o z l1 _ _ l3 => ?_) d e4 n1, n2.size, n2.still q2, n2.os, n2.tape, n2.output⟩
    have h0 : g0 id = none := by
      cases k : g0 id with
      | none => rfl
      | some y => exact absurd (q1.dom _ _ k) (by show ¬ id < 1; omega)
    rcases n2.fresh id b o z l3 h0 with k | ⟨i, o1, z1, k⟩
    · exact .inl k
    · have hi : i < 1 := q1.dom _ _ k
      obtain rfl : i = 0 := by omega
      obtain ⟨⟨z2, k2⟩, _⟩ := q3 _ (List.mem_singleton.2 rfl)
      have k2 : g0 0 = some (0, 0, z2) := k2
      rw [k] at k2
      cases k2
      exact .inr rfl
end Ev
end Go.Proofs.YtchmfcjfdhokoaaGreatDoor
namespace Go.Proofs.YtchmfcjfdhokoaaGreatDoor
namespace Ev
noncomputable section
def dr0 : CCode := (.reg [⟨.l 3, .a (.box), [.l 0], none, 0, 0⟩, ⟨.l 6, .a (.alloc [(.str 0 0), (.int .i64 0), .nils, .nils]), [], none, 0, 0⟩, ⟨.l 7, .a (.alloc [(.int .i64 0)]), [], none, 0, 0⟩, ⟨.l 8, .a (.alloc [(.int .i64 0)]), [], none, 0, 0⟩])
def dr1 : CCode := (.reg [⟨.l 9, .a (.alloc [(.str 0 0), (.int .i64 0), .nils, .nils]), [], none, 0, 0⟩])
def dr2 : CCode := (.reg [⟨.t 13, .r (.load false 1), [.l 3], none, 0, 0⟩, ⟨.t 14, .call 14, [.t 13], none, 0, 0⟩, ⟨.t 12, .p (.mv), [.t 14], none, 0, 0⟩, ⟨.t 15, .p (.ext 0), [.t 12], none, 0, 0⟩, ⟨.t 16, .p (.ext 1), [.t 12], none, 0, 0⟩, ⟨.t 17, .p (.ext 2), [.t 12], none, 0, 0⟩, ⟨.l 10, .a (.alloc [.nils]), [], none, 0, 0⟩, ⟨.no, .e (.store 1), [.l 10, .t 15], none, 0, 0⟩, ⟨.no, .e (.store 1), [.l 7, .t 16], none, 0, 0⟩, ⟨.no, .e (.store 1), [.l 8, .t 17], none, 0, 0⟩])
def dcc : CCode := (.seq (.reg [⟨.t 18, .r (.load false 1), [.l 8], none, 0, 0⟩, ⟨.l 19, .p (.bin .neq), [.t 18, .c (.int .i64 0)], none, 0, 0⟩])
 (.cond (.l 19) (.seq (.regD [⟨.t 20, .r (.load true 4), [.l 9], none, 0, 0⟩, ⟨.t 21, .r (.load false 1), [.l 7], none, 0, 1⟩, ⟨.t 22, .r (.load false 1), [.l 8], none, 0, 2⟩, ⟨.no, .e (.store 4), [.l 6, .t 20], none, 0, 1⟩, ⟨.no, .e (.store 1), [.l 7, .t 21], none, 1, 2⟩, ⟨.no, .e (.store 1), [.l 8, .t 22], none, 2, 3⟩])
 .ret)
 .skip))
def dc2 : CCode := (.seq (.reg [⟨.t 24, .r (.load false 1), [.l 10], none, 0, 0⟩, ⟨.t 25, .call 16, [.t 24], none, 0, 0⟩, ⟨.l 11, .p (.mv), [.t 25], none, 0, 0⟩])
 (.seq (.reg [⟨.t 26, .p (.mv), [.l 1], none, 0, 0⟩, ⟨.t 27, .p (.mv), [.l 11], none, 0, 0⟩, ⟨.t 28, .callv, [.t 26, .t 27], none, 0, 0⟩, ⟨.no, .e (.store 4), [.l 6, .t 28], none, 0, 0⟩])
 (.seq (.seq (.regD [⟨.t 29, .p (.mv), [.l 11], none, 0, 0⟩, ⟨.t 30, .p (.nilc), [.t 29], none, 0, 0⟩, ⟨.t 31, .p (.fa 1), [.t 30], none, 0, 0⟩, ⟨.t 32, .r (.load false 1), [.t 31], none, 0, 0⟩, ⟨.t 33, .r (.load false 1), [.l 10], none, 0, 0⟩, ⟨.t 34, .p (.leng .sl), [.t 33], none, 0, 0⟩, ⟨.l 35, .p (.bin .lss), [.t 32, .t 34], none, 0, 0⟩])
 (.cond (.l 35) (.reg [⟨.t 36, .p (.mv), [.l 11], none, 0, 0⟩, ⟨.t 37, .call 17, [.t 36, .c (.int .i64 0), .c (.int .i64 101)], none, 0, 0⟩])
 .skip))
 (.seq (.seq (.reg [⟨.t 38, .p (.mv), [.l 2], none, 0, 0⟩, ⟨.t 39, .r (.load true 4), [.l 6], none, 0, 0⟩, ⟨.t 40, .callv, [.t 38, .t 39], none, 0, 0⟩, ⟨.l 41, .p (.bin .neq), [.t 40, .c (.int .i64 0)], none, 0, 0⟩])
 (.cond (.l 41) (.seq (.reg [⟨.t 42, .r (.load true 4), [.l 9], none, 0, 0⟩, ⟨.no, .e (.store 4), [.l 6, .t 42], none, 0, 0⟩, ⟨.no, .e (.store 1), [.l 7, .c (.int .i64 0)], none, 0, 0⟩, ⟨.no, .e (.store 1), [.l 8, .c (.int .i64 3)], none, 0, 0⟩])
 .ret)
 .skip))
 (.seq (.reg [⟨.t 43, .r (.load true 4), [.l 6], none, 0, 0⟩, ⟨.no, .e (.store 4), [.l 6, .t 43], none, 0, 0⟩, ⟨.no, .e (.store 1), [.l 7, .c (.int .i64 0)], none, 0, 0⟩, ⟨.no, .e (.store 1), [.l 8, .c (.int .i64 0)], none, 0, 0⟩])
 .ret)))))
def cf10 : CF := ⟨3, .seq dr0 (.seq dr1 (.seq dr2 (.seq dcc (.seq badC dc2)))), [.cell (.l 6) true 4, .cell (.l 7) false 1, .cell (.l 8) false 1]⟩
def cf15 : CF := ⟨6, (.seq badC
 (.block 0 (.seq (.reg [⟨.l 11, .p (.eqd .i false), [.l 9, .c .nili], none, 0, 0⟩])
 (.cond (.l 11) (.reg [⟨.t 6, .p (.mv), [.l 9], none, 0, 0⟩])
 (.seq badC
 (.cond (.l 13) (.seq (.reg [⟨.l 7, .a (.alloc [(.int .i64 0), (.int .i64 0)]), [], none, 0, 0⟩, ⟨.no, .e (.store 2), [.l 7, .l 14], none, 0, 0⟩])
 (.seq (.regD [⟨.t 15, .r (.load true 4), [.l 0], none, 0, 0⟩, ⟨.t 16, .r (.load false 1), [.l 1], none, 0, 0⟩, ⟨.t 17, .p (.leng .str), [.t 16], none, 0, 1⟩, ⟨.t 18, .p (.fa 1), [.l 7], none, 0, 2⟩, ⟨.t 19, .r (.load false 1), [.t 18], none, 0, 2⟩, ⟨.no, .e (.store 4), [.l 2, .t 15], none, 0, 1⟩, ⟨.no, .e (.store 1), [.l 3, .t 17], none, 1, 2⟩, ⟨.no, .e (.store 1), [.l 4, .t 19], none, 2, 3⟩])
 (.seq (.reg [⟨.t 20, .p (.fa 0), [.l 7], none, 0, 0⟩, ⟨.t 21, .r (.load false 1), [.t 20], none, 0, 0⟩, ⟨.t 22, .r (.load false 1), [.l 5], none, 0, 0⟩, ⟨.t 23, .p (.leng .sl), [.t 22], none, 0, 0⟩, ⟨.l 24, .p (.bin .lss), [.t 21, .t 23], none, 0, 0⟩])
 (.cond (.l 24) (.reg [⟨.t 25, .r (.load false 1), [.l 5], none, 0, 0⟩, ⟨.t 26, .p (.fa 0), [.l 7], none, 0, 0⟩, ⟨.t 27, .r (.load false 1), [.t 26], none, 0, 0⟩, ⟨.t 28, .p (.ixsl 4), [.t 25, .t 27], none, 0, 0⟩, ⟨.t 29, .p (.fa 3), [.t 28], none, 0, 0⟩, ⟨.t 30, .r (.load false 1), [.t 29], none, 0, 0⟩, ⟨.no, .e (.store 1), [.l 3, .t 30], none, 0, 0⟩])
 .skip))))
 (.seq (.reg [⟨.l 8, .p (.mv), [.l 9], none, 0, 0⟩])
 badC))))))),
 []⟩
end
theorem cf10_ok : compF TP Tryz.f10 = some cf10 := by kernel_rfl
theorem cf15_ok : compF TP Tryz.f15 = some cf15 := by kernel_rfl
theorem noCall : CallOk Tryz.prog TP (fun _ _ _ => none) := ⟨(fun _ _ _ _ _ e => by cases e), (fun _ _ _ _ _ e => by cases e)⟩
/-- A region, and the deferred calls stay. -/
theorem reg_step {call : CallT} (hk : CallOk Tryz.prog TP call) {m N id n : Nat} {ops : Array Oper} {cc : CCode} {rd : Bool} {x : X} {f f' : F} {h h' : H} (hc : comp TP m N (.region id ops false) = some cc) (hx : exec call rd n cc f h = some (x, f', h')) {g : G} {a : Act} {w : World} {Q : Exit → Act → World → Prop}
    (r : WR TP g h w) (hG : Glob TP g h) (hf : FR g m N f a.tmps) (hQ : ∀ g' a' w', Ext TP g h w g' h' w' → FR g' m N f' a'.tmps → a'.defers = a.defers → Q .normal a' w') : (Code.region id ops false).wpIn (fen none) 0 Tryz.prog Q a w := by
  rw [comp_reg] at hc
  rcases orBad_some hc with hc | rfl
  case inr => rw [exec_bad] at hx; cases hx
  obtain ⟨cl, h1, h2⟩ := ob_some.1 hc
  cases h2
  rw [exec_reg] at hx
  obtain ⟨q, h3, h4⟩ := ob_some.1 hx
  cases h4
  refine wpIn_region ?_
  rw [List.range_eq_range']
  have hlen : ops.size = ops.toList.length := by simp
  rw [hlen]
  exact reg_ok tyOk hk ops.toList 0 cl f q.1 h q.2 g a w (fun i _ => by rw [Nat.zero_add, Array.getElem?_toList]) h1 h3 r hG hf fun g' a' w' x1 x2 x3 => hQ g' a' w' x1 x2.clr x3
theorem FR.eval {g : G} {m N : Nat} {f : F} {a : Act} (hf : FR g m N f a.tmps) {t : Nat} {od : Opd} (h : opd TP m (.tmp t) = some od) {v : V} (e : od.ev f = some v) : VR g v (a.eval (.tmp t)) := by
  rw [opd_ev h] at e
  obtain ⟨u, h1, h2⟩ := hf.2 t v e
  have : a.eval (.tmp t) = u := by
    show a.tmps.getD t undef = u
    rw [Array.getD_eq_getD_getElem?, h1]
    rfl
  rw [this]
  exact h2
theorem quiet15 {g : G} {h : H} {w : World} (r : WR TP g h w) (hG : Glob TP g h) (x0 x1 x2 x3 x4 x5 : Value) : CallsDIn Fence.wide 0 Tryz.prog 15 #[x0, x1, x2, x3, x4, x5] .returning w fun e u' w' => (∃ v, e = .returned v) ∧ u' = .returning ∧ ∃ g', Ext TP g h w g' h w' := by
  obtain ⟨c, e1, e2⟩ := ob_some.1 (show ob Tryz.f15.body _ = some cf15 from cf15_ok)
  obtain ⟨_, e4⟩ := oif_some.1 e2
  obtain ⟨cc, e5, e6⟩ := ob_some.1 e4
  obtain ⟨rs, _, e8⟩ := ob_some.1 e6
  have e9 : cc = cf15.code := by injection e8 with e8; rw [← e8]
  subst e9
  have e5' : ∃ m, comp TP m 31 c = some cf15.code := ⟨_, e5⟩
  clear e5 e4 e2 e6 e8
  obtain ⟨m, e5⟩ := e5'
  cases e1
  rw [comp_seq] at e5
  obtain ⟨c0, _, e5⟩ := ob_some.1 e5
  obtain ⟨c1, e5, e7⟩ := ob_some.1 e5
  rw [comp_block] at e5
  obtain ⟨c2, e5, e8⟩ := ob_some.1 e5
  rw [comp_seq] at e5
  obtain ⟨c3, a3, e5⟩ := ob_some.1 e5
  obtain ⟨c4, e5, e9⟩ := ob_some.1 e5
  rw [comp_cond] at e5
  obtain ⟨o, a5, e5⟩ := ob_some.1 e5
  obtain ⟨c6, a6, e5⟩ := ob_some.1 e5
  obtain ⟨c7, _, e10⟩ := ob_some.1 e5
  cases e10
  cases e9
  cases e8
  have e7 : CCode.seq c0 (.block 0 (.seq c3 (.cond o c6 c7))) = cf15.code := by injection e7
  unfold cf15 at e7
  simp only [CCode.seq.injEq, CCode.block.injEq, CCode.cond.injEq] at e7
  obtain ⟨_, _, rfl, rfl, rfl, _⟩ := e7
  refine callsDIn_of_wpSIn Tryz.func15 rfl trivial fun c₀ cs hu => ?_
  apply wpSIn_seq
  apply wpSIn_region
  simp [wpOpsSIn, go_sem, recoverD, hu, Tryz.ntmps15, Exit.thenS]
  refine wpSIn_of_wpIn rfl (wpIn_block (wpIn_seq (reg_step noCall a3 (n := 5) (rd := false) (f := ⟨[(9, .nili)], []⟩) (h := h) (x := .norm) rfl r hG ?_ fun g1 a1 w1 y1 y2 y3 => ?_)))
  · refine ⟨by simp, fun t v e => ?_⟩
    unfold rdn at e
    split at e
    · have e : (Bool.rec (motive := fun _ => Option V) none (some .nili) (Nat.beq 9 t) : Option V) = some v := e
      rw [brec_eq] at e
      split at e
      · rename_i ht
        cases e
        rw [← Nat.eq_of_beq_eq_true ht]
        exact ⟨.nilIface, by simp, .nili⟩
      · cases e
    · cases e
  · have ev := y2.eval a5 (v := .bool true) rfl
    refine wpIn_cond_true (by generalize a1.eval (.tmp 11) = u at ev; cases ev; rfl) (reg_step noCall a6 (n := 5) (rd := false) (x := .norm) rfl y1.wr (hG.ext y1) y2 fun g2 a2 w2 z1 z2 z3 => ?_)
    have z4 : a2.defers = [] := z3.trans y3
    cases c₀
    simp_all [bodyPostS, results, Tryz.results15, Exit.inBlock]
    exact ⟨g2, y1.trans z1⟩
def opsR5 (p1 p2 : String) : Array Oper := #[{ dst := some 23, op := Op.makeFunc (Fn.func 15) #[] #[Operand.tmp 9, Operand.tmp 3, Operand.tmp 6, Operand.tmp 7, Operand.tmp 8, Operand.tmp 10], type := 1, pos := p1, after := #[], guard := none },
  { dst := none, op := Op.defer { callee := Callee.value (Operand.tmp 23), args := #[], argTypes := #[] }, type := 0, pos := p2, after := #[{ on := 0, ground := Ground.data }], guard := none }]
theorem defer_step {p1 p2 : String} {a : Act} {w : World} {Q : Exit → Act → World → Prop} (hs : a.tmps.size = 44)
    (h : ∀ x0 x1 x2 x3 x4 x5 : Value, Q .normal ⟨a.tmps.set! 23 (.func (.func 15) #[] #[x0, x1, x2, x3, x4, x5]), { target := .fn (.func 15) #[x0, x1, x2, x3, x4, x5], args := #[] } :: a.defers⟩ w) : (Code.region 5 (opsR5 p1 p2) false).wpIn (fen none) 0 Tryz.prog Q a w := by
  refine wpIn_region ?_
  obtain ⟨tm, ds⟩ := a
  have fr : (fen none).round = none := rfl
  simp [wpOpsIn, go_sem, opsR5, Act.eval, Act.put, hs, Oper.semAt, fr, Deferred.ofValue]
  exact h _ _ _ _ _ _
noncomputable section
def norm1 {α : Type} (o : Res) (k : F → H → Option α) : Option α := ob o fun q => X.rec (motive := fun _ => Option α) (k q.2.1 q.2.2) (fun _ => none) none q.1
def dcr : CCode := match dcc with
  | .seq a _ => a
  | c => c
/-- The run of parse.parsed, if nothing leaves early. -/
def run10 (call : CallT) (vs : List V) (h : H) : Option (V × H) :=
  oif (Nat.beq (lenL vs) 3) <| norm1 (exec call false 1000000 dr0 ⟨numbered vs 0, []⟩ h) fun f h => norm1 (exec call false 1000000 dr1 f h) fun f h => norm1 (exec call false 1000000 dr2 f h) fun f h =>
  norm1 (exec call false 1000000 dcr f h) fun f h => ob (lk f.loc 19) fun c => asBool (fun c => Bool.rec (motive := fun _ => Option (V × H))
    (oif (Option.isNone (lk f.loc 23)) <| oif (Option.isNone (lk f.tmp 23)) <| ob (exec call false 1000000 dc2 f h) fun q => oif (X.rec (motive := fun _ => Bool) true (fun _ => false) true q.1) (ob (resOf q.2.1 q.2.2 cf10.results) fun l => some (oneOrTup l, q.2.2))) none c) c
end
theorem norm1_some {α : Type} {o : Res} {k : F → H → Option α} {r : α} (e : norm1 o k = some r) : ∃ f h, o = some (.norm, f, h) ∧ k f h = some r := by
  obtain ⟨⟨x, f, h⟩, e1, e2⟩ := ob_some.1 e
  cases x with
  | norm => exact ⟨f, h, e1, e2⟩
  | exit i => cases e2
  | ret => cases e2
theorem leaves_D {fn : Func} {tmps : Array Value} {g' : G} {h' : H} {w0 : World} {g : G} {h : H} {R : Ending → World → Prop} {D : List Deferred} : ∀ {rs : List Nat} {w : World}, rs.Nodup → (∀ r ∈ rs, w0.heap.size ≤ r ∧ r < w.heap.size ∧ (∀ id o z, g' id ≠ some (r, o, z)) ∧ w.heap[r]? = some (.deferred (some []))) →
    Ext TP g h w0 g' h' w → (∀ w, Ext TP g h w0 g' h' w → LeavesInM Fence.wide 0 Tryz.prog fn tmps R D .returning w) → LeavesInM Fence.wide 0 Tryz.prog fn tmps R (rs.map markOf ++ D) .returning w
  | [], w, _, _, x, hres => hres w x
  | r :: rs, w, hn, hm, x, hres => by
    rw [List.nodup_cons] at hn
    obtain ⟨k1, k2, k3, k4⟩ := hm r List.mem_cons_self
    refine ⟨(fun e => by cases e), .inl ⟨r, _, rfl, run_takeDeferred k4, leaves_D hn.2 (fun s hs => ?_) (ext_put x _ k1 k3) hres⟩⟩
    obtain ⟨q1, q2, q3, q4⟩ := hm s (List.mem_cons_of_mem _ hs)
    have hne : s ≠ r := fun e => hn.1 (e ▸ hs)
    exact ⟨q1, by rw [World.putObj_size]; exact q2, q3, by rw [World.putObj_heap_other hne]; exact q4⟩
theorem run10_ok {call : CallT} (hk : CallOk Tryz.prog TP call) : PrimOf 10 (run10 call) := by
  intro vs h v h' hr g w us r hG hv
  refine ⟨Tryz.f10, Tryz.func10, by decide, rfl, ?_⟩
  obtain ⟨c, e1, e2⟩ := ob_some.1 (show ob Tryz.f10.body _ = some cf10 from cf10_ok)
  obtain ⟨_, e4⟩ := oif_some.1 e2
  obtain ⟨cc, e5, e6⟩ := ob_some.1 e4
  obtain ⟨rs, e7, e8⟩ := ob_some.1 e6
  have e9 : cc = cf10.code ∧ rs = cf10.results := by
    have e8 : (some (CF.mk _ cc rs) : Option CF) = some cf10 := e8
    injection e8 with e8
    rw [← e8]
    exact ⟨rfl, rfl⟩
  obtain ⟨rfl, rfl⟩ := e9
  have e5' : ∃ m, comp TP m 44 c = some cf10.code ∧ mapO (resC TP m) Tryz.f10.results.toList = some cf10.results := ⟨_, e5, e7⟩
  clear e5 e4 e2 e6 e8 e7
  obtain ⟨m, e5, e7⟩ := e5'
  have hb := e1
  cases e1
  rw [comp_seq] at e5
  obtain ⟨c0, a0, e5⟩ := ob_some.1 e5
  obtain ⟨q0, e5, z0⟩ := ob_some.1 e5
  rw [comp_seq] at e5
  obtain ⟨c1, a1, e5⟩ := ob_some.1 e5
  obtain ⟨q1, e5, z1⟩ := ob_some.1 e5
  rw [comp_seq] at e5
  obtain ⟨c2, a2, e5⟩ := ob_some.1 e5
  obtain ⟨q2, e5, z2⟩ := ob_some.1 e5
  rw [comp_seq] at e5
  obtain ⟨c3, a3, e5⟩ := ob_some.1 e5
  obtain ⟨q3, e5, z3⟩ := ob_some.1 e5
  rw [comp_seq] at e5
  obtain ⟨c4, _, e5⟩ := ob_some.1 e5
  obtain ⟨q4, a4, z4⟩ := ob_some.1 e5
  rw [comp_seq] at a3
  obtain ⟨c5, a5, e5⟩ := ob_some.1 a3
  obtain ⟨q5, e6, z5⟩ := ob_some.1 e5
  rw [comp_cond] at e6
  obtain ⟨o6, a6, e6⟩ := ob_some.1 e6
  obtain ⟨c7, _, e6⟩ := ob_some.1 e6
  obtain ⟨c8, _, z6⟩ := ob_some.1 e6
  cases z6
  cases z5
  cases z4
  cases z3
  cases z2
  cases z1
  have z0 : CCode.seq c0 (.seq c1 (.seq c2 (.seq (.seq c5 (.cond o6 c7 c8)) (.seq c4 q4)))) = cf10.code := by injection z0
  have z7 : CCode.seq c0 (.seq c1 (.seq c2 (.seq (.seq c5 (.cond o6 c7 c8)) (.seq c4 q4)))) = .seq dr0 (.seq dr1 (.seq dr2 (.seq dcc (.seq badC dc2)))) := z0
  simp only [CCode.seq.injEq] at z7
  obtain ⟨rfl, rfl, rfl, z8, _, rfl⟩ := z7
  have z9 : c5 = dcr := by
    unfold dcr
    rw [← z8]
  have z10 : o6 = .l 19 := by
    unfold dcc at z8
    simp only [CCode.seq.injEq, CCode.cond.injEq] at z8
    exact z8.2.1
  subst z9 z10
  obtain ⟨k1, hr⟩ := oif_some.1 hr
  obtain ⟨f1, h1, x1, hr⟩ := norm1_some hr
  obtain ⟨f2, h2, x2, hr⟩ := norm1_some hr
  obtain ⟨f3, h3, x3, hr⟩ := norm1_some hr
  obtain ⟨f4, h4, x4, hr⟩ := norm1_some hr
  obtain ⟨cv, x5, hr⟩ := ob_some.1 hr
  have hcv : cv = .bool false := by
    cases cv with
    | bool b => cases b with
      | true => cases hr
      | false => rfl
    | _ => cases hr
  subst hcv
  obtain ⟨x6, hr⟩ := oif_some.1 (show oif (Option.isNone (lk f4.loc 23)) _ = some (v, h') from hr)
  obtain ⟨x7, hr⟩ := oif_some.1 hr
  obtain ⟨⟨x, f5, h5⟩, x8, hr⟩ := ob_some.1 hr
  obtain ⟨x9, hr⟩ := oif_some.1 hr
  obtain ⟨l, x10, hr⟩ := ob_some.1 hr
  cases hr
  rw [lenL_eq] at k1
  have hlen := hv.length
  have k1' : vs.length = 3 := by simpa using k1
  have hF : FR g m 44 ⟨numbered vs 0, []⟩ (us.toArray ++ Array.replicate (44 - us.toArray.size) undef) := by
    refine ⟨by simp; omega, fun t x e => ?_⟩
    unfold rdn at e
    split at e
    · have e : lk (numbered vs 0) t = some x := e
      rw [lk_numbered, if_pos (Nat.zero_le _)] at e
      obtain ⟨u, m1, m2⟩ := hv.get e
      refine ⟨u, ?_, m2⟩
      have ht : t < us.length := by
        rcases Nat.lt_or_ge t us.length with k | k
        · exact k
        · rw [List.getElem?_eq_none (by omega)] at m1; cases m1
      rw [Array.getElem?_append_left (by simpa using ht)]
      simpa using m1
    · cases e
  refine callsIn_of_wp_marks Tryz.func10 hb trivial ?_
  refine wpIn_seq (reg_step hk a0 x1 r hG hF fun g1 b1 w1 y1 y2 y3 => ?_)
  refine wpIn_seq (reg_step hk a1 x2 y1.wr (hG.ext y1) y2 fun g2 b2 w2 y4 y5 y6 => ?_)
  have t2 := y1.trans y4
  refine wpIn_seq (reg_step hk a2 x3 t2.wr (hG.ext t2) y5 fun g3 b3 w3 y7 y8 y9 => ?_)
  have t3 := t2.trans y7
  refine wpIn_seq (wpIn_seq (reg_step hk a5 x4 t3.wr (hG.ext t3) y8 fun g4 b4 w4 y10 y11 y12 => ?_))
  have t4 := t3.trans y10
  have ev := y11.eval a6 (v := .bool false) x5
  refine wpIn_cond_false (by generalize b4.eval (.tmp 19) = u at ev; cases ev; rfl) (wpIn_skip ?_)
  refine wpIn_seq (defer_step y11.1 fun c0 c1 c2 c3 c4 c5 => ?_)
  have hd : b4.defers = [] := y12.trans (y9.trans (y6.trans y3))
  have hno : rdn m f4 23 = none := by
    unfold rdn
    split
    · simpa using x6
    · simpa using x7
  have hF4 : FR g4 m 44 f4 (b4.tmps.set! 23 (.func (.func 15) #[] #[c0, c1, c2, c3, c4, c5])) := by
    refine ⟨by simpa using y11.1, fun t v e => ?_⟩
    obtain ⟨u, u1, u2⟩ := y11.2 t v e
    have hne : 23 ≠ t := fun h => by rw [← h, hno] at e; cases e
    exact ⟨u, by rw [Array.set!_eq_setIfInBounds, Array.getElem?_setIfInBounds_ne hne]; exact u1, u2⟩
  refine wpIn_mono (exec_ok (D := [{ target := .fn (.func 15) #[c0, c1, c2, c3, c4, c5], args := #[] }]) tyOk hk mixed 1000000 none _ dc2 a4 f4 h4 x f5 h5 x8 g4 _ w4 w.heap.size t4.wr (hG.ext t4) hF4 (fun _ => ⟨[], by rw [hd]; rfl, List.nodup_nil, by simp⟩) t4.size) ?_
  rintro e a' w' ⟨g', q1, q2, q3, q4⟩
  have t5 := t4.trans q1
  have leave : LeavesInM Fence.wide 0 Tryz.prog Tryz.f10 a'.tmps (Post TP g h w (oneOrTup l) h5) a'.defers .returning w' := by
    obtain ⟨ms, p1, p2, p3⟩ := q3 rfl
    rw [p1]
    refine leaves_D p2 p3 t5 fun w2 t6 => ?_
    refine ⟨(fun e => by cases e), .inr ⟨(fun e => by cases e), .func 15, #[c0, c1, c2, c3, c4, c5], 15, #[c0, c1, c2, c3, c4, c5], rfl, by simp [go_sem], fun _ _ => trivial, (quiet15 t6.wr (hG.ext t6) c0 c1 c2 c3 c4 c5).mono ?_⟩⟩
    rintro en u' w3 ⟨⟨vr, rfl⟩, rfl, g'', ex⟩
    obtain ⟨u, r1, r2⟩ := results_ok tyOk (q2.mono ex.le) ex.wr e7 x10
    exact ⟨u, r2, g'', u, rfl, r1, t6.trans ex⟩
  cases x with
  | exit i => cases x9
  | norm =>
    rw [q4.norm_inv]
    exact leave
  | ret =>
    cases e <;> first | (cases q4; done) | skip
    exact leave
end Ev
end Go.Proofs.YtchmfcjfdhokoaaGreatDoor
