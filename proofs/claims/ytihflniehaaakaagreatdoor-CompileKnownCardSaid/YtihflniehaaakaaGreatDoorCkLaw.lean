/-
  The law's contract, from the parts of the run.
-/
import Derived.Test.YtihflniehaaakaaGreatDoorCkLoop
import Derived.Test.YtihflniehaaakaaGreatDoorCkPrims
import Derived.Test.YtihflniehaaakaaGreatDoorCkPart1
import Derived.Test.YtihflniehaaakaaGreatDoorCkPart2
import Derived.Test.YtihflniehaaakaaGreatDoorCkPart3
import Derived.Test.YtihflniehaaakaaGreatDoorCkPart4
import Derived.Test.YtihflniehaaakaaGreatDoorCkLp0
import Derived.Test.YtihflniehaaakaaGreatDoorCkLp1
import Derived.Test.YtihflniehaaakaaGreatDoorCkFin
namespace Go.Proofs.YtihflniehaaakaaGreatDoor
set_option linter.unusedVariables false
set_option linter.unusedSimpArgs false
namespace Ev
section
variable [Opq]
theorem comp_block_of {m N : Nat} {code : Code} {i : Nat} {a : CCode} (e : comp TP m N code = some (.block i a)) : ∃ x, code = .block i x ∧ comp TP m N x = some a := by
  have bad : ∀ {o : Option CCode}, (∀ c, o = some c → ∀ i a, c ≠ .block i a) → orBad o = some (.block i a) → False := by
    intro o ho e
    cases o with
    | none => cases e
    | some c =>
      have e : some c = some (CCode.block i a) := e
      cases e
      exact ho _ rfl _ _ rfl
  cases code with
  | block id c =>
    rw [comp_block] at e
    obtain ⟨p, h1, e⟩ := ob_some.1 e
    cases e
    exact ⟨c, rfl, h1⟩
  | seq x y =>
    rw [comp_seq] at e
    obtain ⟨_, _, e⟩ := ob_some.1 e
    obtain ⟨_, _, e⟩ := ob_some.1 e
    cases e
  | region id ops d =>
    cases d with
    | false =>
      rw [comp_reg] at e
      refine (bad (fun c h => ?_) e).elim
      obtain ⟨l, _, h⟩ := ob_some.1 h
      cases h
      intro i a h; cases h
    | true =>
      rw [comp_regD] at e
      refine (bad (fun c h => ?_) e).elim
      obtain ⟨l, _, h⟩ := ob_some.1 h
      obtain ⟨l, _, h⟩ := ob_some.1 h
      cases h
      intro i a h; cases h
  | cond o x y =>
    rw [comp_cond] at e
    obtain ⟨_, _, e⟩ := ob_some.1 e
    obtain ⟨_, _, e⟩ := ob_some.1 e
    obtain ⟨_, _, e⟩ := ob_some.1 e
    cases e
  | loop c =>
    rw [comp_loop] at e
    obtain ⟨_, _, e⟩ := ob_some.1 e
    cases e
  | scope c =>
    rw [comp_scope] at e
    obtain ⟨_, _, e⟩ := ob_some.1 e
    cases e
  | rangeFunc f ps x y =>
    rw [comp_range] at e
    obtain ⟨_, _, e⟩ := ob_some.1 e
    obtain ⟨_, _, e⟩ := ob_some.1 e
    obtain ⟨_, _, e⟩ := ob_some.1 e
    obtain ⟨_, _, e⟩ := ob_some.1 e
    cases e
  | _ => rw [comp] at e <;> cases e
theorem comp_loop_of {m N : Nat} {code : Code} {a : CCode} (e : comp TP m N code = some (.loop a)) : ∃ x, code = .loop x ∧ comp TP m N x = some a := by
  have bad : ∀ {o : Option CCode}, (∀ c, o = some c → ∀ a, c ≠ .loop a) → orBad o = some (.loop a) → False := by
    intro o ho e
    cases o with
    | none => cases e
    | some c =>
      have e : some c = some (CCode.loop a) := e
      cases e
      exact ho _ rfl _ rfl
  cases code with
  | loop c =>
    rw [comp_loop] at e
    obtain ⟨p, h1, e⟩ := ob_some.1 e
    cases e
    exact ⟨c, rfl, h1⟩
  | block id c =>
    rw [comp_block] at e
    obtain ⟨_, _, e⟩ := ob_some.1 e
    cases e
  | seq x y =>
    rw [comp_seq] at e
    obtain ⟨_, _, e⟩ := ob_some.1 e
    obtain ⟨_, _, e⟩ := ob_some.1 e
    cases e
  | region id ops d =>
    cases d with
    | false =>
      rw [comp_reg] at e
      refine (bad (fun c h => ?_) e).elim
      obtain ⟨l, _, h⟩ := ob_some.1 h
      cases h
      intro a h; cases h
    | true =>
      rw [comp_regD] at e
      refine (bad (fun c h => ?_) e).elim
      obtain ⟨l, _, h⟩ := ob_some.1 h
      obtain ⟨l, _, h⟩ := ob_some.1 h
      cases h
      intro a h; cases h
  | cond o x y =>
    rw [comp_cond] at e
    obtain ⟨_, _, e⟩ := ob_some.1 e
    obtain ⟨_, _, e⟩ := ob_some.1 e
    obtain ⟨_, _, e⟩ := ob_some.1 e
    cases e
  | scope c =>
    rw [comp_scope] at e
    obtain ⟨_, _, e⟩ := ob_some.1 e
    cases e
  | rangeFunc f ps x y =>
    rw [comp_range] at e
    obtain ⟨_, _, e⟩ := ob_some.1 e
    obtain ⟨_, _, e⟩ := ob_some.1 e
    obtain ⟨_, _, e⟩ := ob_some.1 e
    obtain ⟨_, _, e⟩ := ob_some.1 e
    cases e
  | _ => rw [comp] at e <;> cases e
end
theorem piece_ok {O : Opq} {call : CallT} {n m N : Nat} {w0 : World} {gB : G} {wB : World} {Q : Exit → Act → World → Prop} (hk : @CallOk O Tryz.prog TP call) {k : Nat} {c : CCode} {f : F} {h : H} {prs : List (Nat × Nat)} {L : List (Nat × LB)} {nx : Nat} {fl : AL}
    (e : leftR [] 0 0 prs L nx fl (pre call n k c f h) = true) {code : Code} {g : G} {act : Act} {w : World} (hc : comp TP m N code = some c) (a : AtW [] O m N w0 gB wB f h g act w)
    (K : ∀ code' g' a' w', comp TP m N code' = some (rest k c) → AtW [] O m N w0 gB wB ⟨fl, []⟩ (litH L nx) g' a' w' → code'.wpIn (fen none) 0 Tryz.prog Q a' w') : code.wpIn (fen none) 0 Tryz.prog Q act w := by
  obtain ⟨f1, h1, e1, e2, e3, e4⟩ := leftR_some e
  exact pre_okW hk k hc e1 a fun code' g' a' w' q1 q2 => K code' _ a' w' q1 (q2.dropR (.inl ⟨rfl, rfl⟩) e2 e3 e4)
set_option maxRecDepth 100000 in
theorem fin_out : ∃ f' h' f2 h2 l fr2 hh2, endZ = some (.exit 0, f', h') ∧ exec (callS prC 300) false 1000000 rest12 f' h' = some (.ret, f2, h2) ∧ resOf f2 h2 cf12.results = some l ∧
    runOps (callS prC 300) call16 (Dst.put ⟨fl17, []⟩ (oneOrTup l) (.t 85)) h2 = some (fr2, hh2) ∧ leftR [] 0 0 ps17 lb17 5905 fl17 (some (clr fr2, hh2)) = true := by
  have e := fin_true
  unfold finB at e
  cases h1 : endZ with
  | none => rw [h1] at e; cases e
  | some r =>
    rw [h1] at e
    obtain ⟨x, f', h'⟩ := r
    cases x with
    | norm => cases e
    | ret => cases e
    | exit j =>
      have e : (Bool.rec (motive := fun _ => Bool) false (after12 (exec (callS prC 300) false 1000000 rest12 f' h')) (Nat.beq j 0) : Bool) = true := e
      cases hj : Nat.beq j 0 with
      | false => rw [hj] at e; cases e
      | true =>
        rw [hj] at e
        obtain rfl := Nat.eq_of_beq_eq_true hj
        have e : after12 (exec (callS prC 300) false 1000000 rest12 f' h') = true := e
        cases h2 : exec (callS prC 300) false 1000000 rest12 f' h' with
        | none => rw [h2] at e; cases e
        | some r2 =>
          rw [h2] at e
          obtain ⟨x2, f2, hh⟩ := r2
          cases x2 with
          | norm => cases e
          | exit _ => cases e
          | ret =>
            have e : (Option.rec (motive := fun _ => Bool) false (fun l => leftR [] 0 0 ps17 lb17 5905 fl17 (ob (runOps (callS prC 300) call16 (Dst.put ⟨fl17, []⟩ (oneOrTup l) (.t 85)) hh) fun q => some (clr q.1, q.2))) (resOf f2 hh cf12.results) : Bool) = true := e
            cases h3 : resOf f2 hh cf12.results with
            | none => rw [h3] at e; cases e
            | some l =>
              rw [h3] at e
              have e : leftR [] 0 0 ps17 lb17 5905 fl17 (ob (runOps (callS prC 300) call16 (Dst.put ⟨fl17, []⟩ (oneOrTup l) (.t 85)) hh) fun q => some (clr q.1, q.2)) = true := e
              cases h4 : runOps (callS prC 300) call16 (Dst.put ⟨fl17, []⟩ (oneOrTup l) (.t 85)) hh with
              | none => rw [h4] at e; cases e
              | some q =>
                rw [h4] at e
                exact ⟨f', h', f2, hh, l, q.1, q.2, rfl, h2, h3, h4, e⟩
theorem args_fr [Opq] {g : G} {m : Nat} {N : Nat} {vs : List V} {us : List Value} (hv : VRs g vs us) (hN : us.length ≤ N) : FR g m N ⟨numbered vs 0, []⟩ (us.toArray ++ Array.replicate (N - us.toArray.size) undef) := by
  have hlen := hv.length
  refine ⟨by simp; omega, fun t x e => ?_⟩
  unfold rdn at e
  split at e
  · have e : lk (numbered vs 0) t = some x := e
    rw [lk_numbered, if_pos (Nat.zero_le _)] at e
    obtain ⟨u, m1, m2⟩ := hv.get e
    refine ⟨u, ?_, m2⟩
    have ht : t < us.length := by
      rcases Nat.lt_or_ge t us.length with k | k
      · exact k
      · rw [List.getElem?_eq_none (by omega)] at m1; cases m1
    rw [Array.getElem?_append_left (by simpa using ht)]
    simpa using m1
  · cases e
set_option maxRecDepth 100000 in
theorem head_some : ∃ f h, head0 = some (f, h) ∧ leftR keepS 1 999 psI lbS nxS flS (iterX (callS prC 300) 1000000 loopC 5 f h) = true := by
  have e := lp0
  unfold lpB0 at e
  cases h : head0 with
  | none => rw [h] at e; cases e
  | some r => rw [h] at e; exact ⟨r.1, r.2, rfl, e⟩
set_option maxRecDepth 100000 in
theorem shape12 : rest 3 cf12.code = .seq (.block 0 (.loop loopC)) rest12 := by kernel_rfl
theorem callC (O : Opq) : @CallOk O Tryz.prog TP (callS prC 300) := @callS_ok O _ (@prC_ok O) 300
set_option maxRecDepth 100000 in
/-- m.Run(): a thousand rounds. -/
theorem run12 {f' : F} {h' : H} {f2 : F} {h2 : H} {l : List V} (k1 : endZ = some (.exit 0, f', h')) (k2 : exec (callS prC 300) false 1000000 rest12 f' h' = some (.ret, f2, h2)) (k3 : resOf f2 h2 cf12.results = some l)
    {w0 : World} {g1 : G} {w1 : World} {us : List Value} (hs : @Seg (opN 0) w0 g1 (litH lb16 4990) w1) (hv : @VRs (opN 0) g1 [.ptr 4718 0] us) :
    CallsIn Fence.wide 0 Tryz.prog 12 us.toArray w1 (CRet keepS (opN 0) (oneOrTup l) h2 w0 g1 w1) := by
  obtain ⟨c, e1, e2⟩ := ob_some.1 (show ob Tryz.f12.body _ = some cf12 from cf12_ok)
  obtain ⟨_, e4⟩ := oif_some.1 e2
  obtain ⟨cc, e5, e6⟩ := ob_some.1 e4
  obtain ⟨rs, e7, e8⟩ := ob_some.1 e6
  have b9 : cc = cf12.code ∧ rs = cf12.results := by
    have e8 : (some (CF.mk _ cc rs) : Option CF) = some cf12 := e8
    injection e8 with e8
    rw [← e8]
    exact ⟨rfl, rfl⟩
  obtain ⟨rfl, rfl⟩ := b9
  have e5' : ∃ m, comp TP m Tryz.f12.ntmps c = some cf12.code ∧ mapO (resC TP m) Tryz.f12.results.toList = some cf12.results := ⟨_, e5, e7⟩
  clear e5 e4 e2 e6 e8 e7
  obtain ⟨m, e5, e7⟩ := e5'
  refine callsIn_of_wp_marks Tryz.func12 e1 trivial ?_
  have hlen : us.length = 1 := by rw [← @VRs.length (opN 0) _ _ _ hv]; rfl
  have hN : us.length ≤ Tryz.f12.ntmps := by rw [hlen]; decide
  have a0 : AtW keepS (opN 0) m Tryz.f12.ntmps w0 g1 w1 ⟨numbered [.ptr 4718 0] 0, []⟩ (litH lb16 4990) g1 ⟨us.toArray ++ Array.replicate (Tryz.f12.ntmps - us.toArray.size) undef, []⟩ w1 :=
    ⟨hs, @args_fr (opN 0) g1 m _ _ us hv hN, @Marks.nil (opN 0) _ _ _ _, .refl, fun p hp => ⟨by
      have hp : p = 4718 ∨ p = 1857 := by simpa [keepS] using hp
      show p < 4990
      rcases hp with rfl | rfl <;> decide, rfl⟩⟩
  obtain ⟨fh, hh, i1, i2⟩ := head_some
  refine pre_okW (callC _) 3 e5 i1 a0 fun code' g2 a2 w2 q1 q2 => ?_
  rw [shape12] at q1
  obtain ⟨x, y, rfl, hx, hy⟩ := @comp_seq_of (opN 0) _ _ _ _ _ q1
  obtain ⟨x', rfl, hx'⟩ := @comp_block_of (opN 0) _ _ _ _ _ hx
  obtain ⟨c', rfl, hc'⟩ := @comp_loop_of (opN 0) _ _ _ _ hx'
  refine wpIn_seq (wpIn_block (loop_ok (J := 5) (J0 := 5) (K := 100) (k := 999) callC hc' (by decide) (by decide) i2 lp1 lp2 k1 (by decide) (by decide) q2 fun ex g3 a3 w3 s a4 => ?_))
  cases ex <;> first | (cases s; done) | skip
  have s : (0 : Nat) = _ := s
  subst s
  simp only [Exit.inBlock, if_true]
  exact last_okW (callC _) (@Seg.still (opN 0) _ _ _ _ hs).size e7 hy k2 k3 a4
set_option maxRecDepth 100000 in
theorem reg16 : lft (rest 16 cf3.code) = .reg ([⟨.t 84, .p .mv, [.l 3], none, 0, 0⟩] ++ ⟨.t 85, .call 12, [.t 84], none, 0, 0⟩ :: call16) := by kernel_rfl
set_option maxRecDepth 100000 in
theorem seq16 : rest 16 cf3.code = .seq (lft (rest 16 cf3.code)) (rest 17 cf3.code) := by kernel_rfl
end Ev
end Go.Proofs.YtihflniehaaakaaGreatDoor
