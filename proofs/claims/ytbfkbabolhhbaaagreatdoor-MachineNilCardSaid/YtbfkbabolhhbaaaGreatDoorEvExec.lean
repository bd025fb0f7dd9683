/-
  Code, as the compiled code has it: the law.
-/
import Derived.Test.YtbfkbabolhhbaaaGreatDoorEvCode
namespace Go.Proofs.YtbfkbabolhhbaaaGreatDoor
namespace Ev
variable [Opq]
set_option linter.unusedSectionVars false
section
variable {P : Program} {T : Ty} {m N : Nat} {D : List Deferred}

theorem Same.norm_inv {e : Exit} (h : Same .norm e) : e = .normal := by cases e <;> first | rfl | cases h
theorem exec_ok (hT : TyOk P T) {call : CallT} (hk : CallOk P T call) (hm : P.follows .mixedOrders = true) (n : Nat) (rd : Option Nat) : ∀ (c : Code) (cc : CCode), comp T m N c = some cc → ∀ (f : F) (h : H) (x : X) (f' : F) (h' : H), exec call rd.isSome n cc f h = some (x, f', h') →
    ∀ (g : G) (a : Act) (w : World) (B : Nat), WR T g h w → Glob T g h → FR g m N f a.tmps → (rd = none → Marks D g w B a.defers) → B ≤ w.heap.size → c.wpIn (fen rd) 0 P (Out D T m N rd B g h w x f' h') a w := by
  intro c
  induction c with
  | skip =>
    intro cc hc f h x f' h' hx g a w B r hG hf hM _
    rw [comp] at hc
    cases hc
    cases hx
    exact wpIn_skip ⟨g, .refl r, hf, hM, trivial⟩
  | label l =>
    intro cc hc f h x f' h' hx g a w B r hG hf hM _
    rw [comp] at hc
    cases hc
    cases hx
    exact wpIn_label ⟨g, .refl r, hf, hM, trivial⟩
  | region id ops d =>
    intro cc hc f h x f' h' hx g a w B r hG hf hM _
    cases d with
    | false =>
      rw [comp_reg] at hc
      rcases orBad_some hc with hc | rfl
      case inr => rw [exec_bad] at hx; cases hx
      obtain ⟨cl, h1, h2⟩ := ob_some.1 hc
      cases h2
      rw [exec_reg] at hx
      obtain ⟨q, h3, h4⟩ := ob_some.1 hx
      cases h4
      refine wpIn_region ?_
      rw [List.range_eq_range']
      have hlen : ops.size = ops.toList.length := by simp
      rw [hlen]
      refine reg_ok hT hk ops.toList 0 cl f q.1 h q.2 g a w (fun i _ => by rw [Nat.zero_add, Array.getElem?_toList]) h1 h3 r hG hf fun g' a' w' x1 x2 x3 => ⟨g', x1, x2.clr, fun e => ?_, trivial⟩
      rw [x3]
      exact (hM e).ext x1
    | true =>
      rw [comp_regD] at hc
      rcases orBad_some hc with hc | rfl
      case inr => rw [exec_bad] at hx; cases hx
      obtain ⟨cl, h1, h2⟩ := ob_some.1 hc
      obtain ⟨l, h3, h4⟩ := ob_some.1 h2
      cases h4
      rw [exec_regD] at hx
      obtain ⟨s, h5, h6⟩ := ob_some.1 hx
      obtain ⟨h7, h8⟩ := oif_some.1 h6
      cases h8
      refine draw_ok hT hk hm h1 h3 h5 h7 r hG hf fun g' a' w' x1 x2 x3 => ⟨g', x1, x2.clr, fun e => ?_, trivial⟩
      rw [x3]
      exact (hM e).ext x1
  | seq c1 c2 ih1 ih2 =>
    intro cc hc f h x f' h' hx g a w B r hG hf hM hB
    rw [comp_seq] at hc
    obtain ⟨cc1, h1, h2⟩ := ob_some.1 hc
    obtain ⟨cc2, h3, h4⟩ := ob_some.1 h2
    cases h4
    rw [exec_seq] at hx
    refine wpIn_seq ?_
    rcases thenN_some hx with ⟨f1, h1', k1, k2⟩ | ⟨k1, k2⟩
    · refine wpIn_mono (ih1 cc1 h1 f h .norm f1 h1' k1 g a w B r hG hf hM hB) ?_
      rintro e a1 w1 ⟨g1, x1, x2, x3, x4⟩
      rw [x4.norm_inv]
      refine wpIn_mono (ih2 cc2 h3 f1 h1' x f' h' k2 g1 a1 w1 B x1.wr (hG.ext x1) x2 x3 (Nat.le_trans hB x1.size)) ?_
      rintro e2 a2 w2 ⟨g2, y1, y2, y3, y4⟩
      exact ⟨g2, x1.trans y1, y2, y3, y4⟩
    · refine wpIn_mono (ih1 cc1 h1 f h x f' h' k1 g a w B r hG hf hM hB) ?_
      rintro e a1 w1 ⟨g1, x1, x2, x3, x4⟩
      cases e with
      | normal => cases x <;> first | (cases x4; done) | exact absurd rfl k2
      | _ => exact ⟨g1, x1, x2, x3, x4⟩
  | cond o c1 c2 ih1 ih2 =>
    intro cc hc f h x f' h' hx g a w B r hG hf hM hB
    rw [comp_cond] at hc
    obtain ⟨od, h0, h0'⟩ := ob_some.1 hc
    obtain ⟨cc1, h1, h2⟩ := ob_some.1 h0'
    obtain ⟨cc2, h3, h4⟩ := ob_some.1 h2
    cases h4
    rw [exec_cond] at hx
    obtain ⟨v, h5, h6⟩ := ob_some.1 hx
    cases v with
    | bool b =>
      have hv := (opd_ok hG h0 h5 fun t _ v hv => hf.2 t v hv).bool_inv
      refine wpIn_cond hv ?_
      cases b with
      | true => exact ih1 cc1 h1 f h x f' h' h6 g a w B r hG hf hM hB
      | false => exact ih2 cc2 h3 f h x f' h' h6 g a w B r hG hf hM hB
    | _ => cases h6
  | block id c ih =>
    intro cc hc f h x f' h' hx g a w B r hG hf hM hB
    rw [comp_block] at hc
    obtain ⟨cc1, h1, h2⟩ := ob_some.1 hc
    cases h2
    rw [exec_block] at hx
    obtain ⟨x0, f0, h0, k1, k2⟩ := blockX_some hx
    cases k2
    refine wpIn_block (wpIn_mono (ih cc1 h1 f h x0 f' h' k1 g a w B r hG hf hM hB) ?_)
    rintro e a1 w1 ⟨g1, x1, x2, x3, x4⟩
    cases x0 with
    | norm => rw [x4.norm_inv]; exact ⟨g1, x1, x2, x3, trivial⟩
    | ret =>
      cases e <;> first | (cases x4; done) | skip
      exact ⟨g1, x1, x2, x3, trivial⟩
    | exit j =>
      cases e <;> first | (cases x4; done) | skip
      have x4 : j = _ := x4
      subst x4
      show (if j = id then _ else _)
      by_cases e : j = id
      · rw [if_pos e]
        simp only [e, if_true]
        exact ⟨g1, x1, x2, x3, trivial⟩
      · rw [if_neg e]
        simp only [if_neg e]
        exact ⟨g1, x1, x2, x3, rfl⟩
  | loop c ih =>
    intro cc hc f h x f' h' hx g a w B r hG hf hM hB
    rw [comp_loop] at hc
    obtain ⟨cc1, h1, h2⟩ := ob_some.1 hc
    cases h2
    rw [exec_loop] at hx
    refine wpIn_fuel (fun k a1 w1 => ∃ f1 h1 g1, loopN (exec call rd.isSome n cc1) k f1 h1 = some (x, f', h') ∧ Ext T g h w g1 h1 w1 ∧ FR g1 m N f1 a1.tmps ∧ (rd = none → Marks D g1 w1 B a1.defers)) ?_ (k := n) ⟨f, h, g, hx, .refl r, hf, hM⟩
    rintro k a1 w1 ⟨f1, h1', g1, k1, x1, x2, x3⟩
    cases k with
    | zero => cases k1
    | succ k =>
      rw [loopN_succ] at k1
      rcases thenN_some k1 with ⟨f2, h2', k2, k3⟩ | ⟨k2, k3⟩
      · refine wpIn_mono (ih cc1 h1 f1 h1' .norm f2 h2' k2 g1 a1 w1 B x1.wr (hG.ext x1) x2 x3 (Nat.le_trans hB x1.size)) ?_
        rintro e a2 w2 ⟨g2, y1, y2, y3, y4⟩
        rw [y4.norm_inv]
        exact ⟨k, Nat.lt_succ_self k, f2, h2', g2, k3, x1.trans y1, y2, y3⟩
      · refine wpIn_mono (ih cc1 h1 f1 h1' x f' h' k2 g1 a1 w1 B x1.wr (hG.ext x1) x2 x3 (Nat.le_trans hB x1.size)) ?_
        rintro e a2 w2 ⟨g2, y1, y2, y3, y4⟩
        cases e with
        | normal => cases x <;> first | (cases y4; done) | exact absurd rfl k3
        | _ => exact ⟨g2, x1.trans y1, y2, y3, y4⟩
  | rangeFunc fo ps as bd ih1 ih2 =>
    intro cc hc f h x f' h' hx g a w B r hG hf hM hB
    rw [comp_range] at hc
    obtain ⟨od, h0, h0'⟩ := ob_some.1 hc
    obtain ⟨cps, h0'', h0c⟩ := ob_some.1 h0'
    obtain ⟨cc1, h1, h2⟩ := ob_some.1 h0c
    obtain ⟨cc2, h3, h4⟩ := ob_some.1 h2
    cases h4
    rw [exec_range] at hx
    obtain ⟨k0, k1⟩ := oif_some.1 hx
    have hrd : rd = none := by cases rd with | none => rfl | some l => cases k0
    subst hrd
    obtain ⟨gv, k2, k3⟩ := ob_some.1 k1
    obtain ⟨k4, k5⟩ := oif_some.1 k3
    obtain ⟨hn1, k6, k7⟩ := ob_some.1 k5
    obtain ⟨q, k8, k9⟩ := ob_some.1 k7
    obtain ⟨st, f2, ps2, as2, bd2, j, m1, m2⟩ := loopOf_some k9
    obtain ⟨m3, m4⟩ := oif_some.1 m2
    cases m4
    have hgv := opd_ok (a := a) hG h0 k2 fun t _ v hv => hf.2 t v hv
    -- the two new blocks
    have xd := Ext.alloc r (.deferred (some []))
    have hnone : g h.next = none := by
      cases e : g h.next with
      | none => rfl
      | some y => exact absurd (r.dom _ _ e) (by omega)
    have hle := gput_le (g := g) ((w.alloc (.deferred (some []))).heap.size, 0, 0) hnone
    refine wpIn_rangeFunc fun fn _ => ?_
    have hw1 := heap_alloc_new (w.alloc (.deferred (some []))) (.loop { state := .ready, pending := none, fn, tmps := a.tmps, params := ps, assign := as, body := bd, defers := w.heap.size })
    have xl := Ext.new (z := 0) xd.wr (o := .loop { state := .ready, pending := none, fn, tmps := a.tmps, params := ps, assign := as, body := bd, defers := w.heap.size }) k6 (.inl rfl)
      ⟨_, 0, 0, _, m, N, gput_same _ _ _, hw1, rfl, rfl, hf.mono hle, h0'', h1, h3⟩
    have x1 := xd.trans xl
    have hsz : (w.alloc (.deferred (some []))).heap.size = w.heap.size + 1 := World.size_alloc _ _
    -- the call
    have hg1 : (gput g h.next ((w.alloc (.deferred (some []))).heap.size, 0, 0)) h.next = some (w.heap.size + 1, 0, 0) := by rw [gput_same, hsz]
    obtain ⟨d, c1, fx, us', c3, c4⟩ := callVal_fn hk x1.wr (hG.ext x1) k4 (hgv.mono x1.le) (VRs.cons (VR.yld hg1) .nil) k8
    · refine ⟨w.heap.size + 1, _, _, d, _, fx, us', _, run_enterLoop_outer fn a.tmps ps as bd, ?_, fun _ _ => trivial, c3 _, fen_depth _, callsIn_fen (c4.mono ?_)⟩
      · have := c1 ((w.alloc (.deferred (some []))).alloc (.loop { state := .ready, pending := none, fn, tmps := a.tmps, params := ps, assign := as, body := bd, defers := w.heap.size }))
        simpa [resolve, Act.eval] using this
      · rintro e w' ⟨g', u, rfl, hu, y⟩
        -- the record behind the call
        obtain ⟨b', o', z', lr, m', N', n1, n2, n3, n4, n5, n6, n7, n8⟩ := y.wr.blk h.next _ _ (y.le _ _ hg1) m1
        rw [y.le _ _ hg1] at n1
        cases n1
        have hbusy : lr.state ≠ .busy := by
          intro e
          rw [e] at n3
          subst n3
          cases m3
        have xe := ext_loop (k' := .dead) (l' := { lr with state := .exhausted }) y.wr (y.le _ _ hg1) m1 n2 rfl trivial
        have xt := (x1.trans y).trans xe
        have hmk : Marks D g' w' B (markOf w.heap.size :: a.defers) := by
          refine Marks.ext y (Marks.push x1 (hM rfl) hB (Nat.le_refl _) ?_ (fun id o z e => ?_) ?_)
          · rw [World.size_alloc, World.size_alloc]; omega
          · by_cases hi : id = h.next
            · subst hi
              rw [hg1] at e
              have := (Prod.mk.inj (Option.some.inj e)).1
              omega
            · rw [gput_ne _ hi] at e
              have := r.lt _ _ _ _ e
              omega
          · rw [heap_alloc (by rw [hsz]; omega)]
            exact heap_alloc_new w _
        refine ⟨lr.pending, _, run_endLoop n2 hbusy, ?_⟩
        have fin : ∀ {e : Exit}, Same (Option.rec (motive := fun _ => X) .norm id j) e → Out D T m N none B g h w (Option.rec (motive := fun _ => X) .norm id j) f (q.2.set h.next .dead) e { a with defers := markOf w.heap.size :: a.defers } (w'.putObj (w.heap.size + 1) (.loop { lr with state := .exhausted })) := fun hs =>
          ⟨g', xt, hf.mono xt.le, fun _ => hmk.ext xe, hs⟩
        split
        · rename_i hp
          cases j with
          | none => exact fin (e := .normal) trivial
          | some jx =>
            cases jx with
            | norm => cases n4
            | exit k => rw [hp] at n4; cases n4
            | ret => rw [hp] at n4; cases n4
        · rename_i c hp
          cases j with
          | none => rw [hp] at n4; cases n4
          | some jx =>
            cases jx with
            | norm => cases n4
            | exit k =>
              rw [hp] at n4
              cases n4
              exact wpIn_exit (fin (e := .exit k) rfl)
            | ret =>
              rw [hp] at n4
              cases n4
              exact wpIn_ret (fin (e := .ret) trivial)
  | exit id =>
    intro cc hc f h x f' h' hx g a w B r hG hf hM _
    rw [comp] at hc
    cases hc
    cases hx
    exact wpIn_exit ⟨g, .refl r, hf, hM, rfl⟩
  | ret =>
    intro cc hc f h x f' h' hx g a w B r hG hf hM _
    rw [comp] at hc
    cases hc
    cases hx
    exact wpIn_ret ⟨g, .refl r, hf, hM, trivial⟩
  | _ =>
    intro cc hc f h x f' h' hx
    rw [comp] at hc <;> first | (cases hc; rw [exec_bad] at hx; cases hx; done) | (intros; intro hh; cases hh)
end
end Ev
end Go.Proofs.YtbfkbabolhhbaaaGreatDoor
