/-
  A call that is walked by its pieces; a loop whose rounds are all alike but for a number.
-/
import Derived.Test.YtihflniehaaakaaGreatDoorCkDrop
namespace Go.Proofs.YtihflniehaaakaaGreatDoor
set_option linter.unusedVariables false
set_option linter.unusedSimpArgs false
namespace Ev
set_option linter.unusedSectionVars false
/-- What a piece leaves of the world: nothing else is touched. -/
structure Wk (g : G) (w : World) (g' : G) (w' : World) : Prop where
  size : w.heap.size ≤ w'.heap.size
  keep : ∀ b, b < w.heap.size → (∀ id o z, g id ≠ some (b, o, z)) → w'.heap[b]? = w.heap[b]?
  fresh : ∀ id b o z, g' id = some (b, o, z) → w.heap.size ≤ b ∨ ∃ i o' z', g i = some (b, o', z')
theorem Wk.refl {g : G} {w : World} : Wk g w g w := ⟨Nat.le_refl _, fun _ _ _ => rfl, fun id _ o z h => .inr ⟨id, o, z, h⟩⟩
theorem Wk.trans {g1 g2 g3 : G} {w1 w2 w3 : World} (a : Wk g1 w1 g2 w2) (b : Wk g2 w2 g3 w3) : Wk g1 w1 g3 w3 := by
  refine ⟨Nat.le_trans a.size b.size, fun k hk hn => ?_, fun id k o z h => ?_⟩
  · refine (b.keep k (Nat.lt_of_lt_of_le hk a.size) fun id o z h => ?_).trans (a.keep k hk hn)
    rcases a.fresh id k o z h with q | ⟨i, o', z', q⟩
    · omega
    · exact hn i o' z' q
  · rcases b.fresh id k o z h with q | ⟨i, o', z', q⟩
    · exact .inl (Nat.le_trans a.size q)
    · exact a.fresh i k o' z' q
theorem Wk.prG {prs : List (Nat × Nat)} {g : G} {w : World} : Wk g w (prG prs g) w := ⟨Nat.le_refl _, fun _ _ _ => rfl, fun id b o z h => by
  obtain ⟨q, _, h⟩ := prG_some h
  exact .inr ⟨q, o, z, h⟩⟩
theorem Wk.ofExt [Opq] {T : Ty} {g g' : G} {h h' : H} {w w' : World} (x : Ext T g h w g' h' w') : Wk g w g' w' := ⟨x.size, x.keep, fun id b o z e => by
  cases hg : g id with
  | some y => rw [x.le _ _ hg] at e; cases e; exact .inr ⟨id, o, z, hg⟩
  | none => exact x.fresh id b o z e hg⟩
theorem Ext.stays [Opq] {T : Ty} {g g' : G} {h h' : H} {w w' : World} (x : Ext T g h w g' h' w') {p : Nat} (hp : p < h.next) : g' p = g p := by
  cases hg : g p with
  | some y => exact x.le _ _ hg
  | none => exact (x.un p hp hg).1
theorem Marks.wk {D : List Deferred} {g g' : G} {w w' : World} {B : Nat} {ds : List Deferred} (x : Wk g w g' w') (k : Marks D g w B ds) : Marks D g' w' B ds := by
  obtain ⟨rs, h1, h2, h3⟩ := k
  refine ⟨rs, h1, h2, fun r hr => ?_⟩
  obtain ⟨k1, k2, k3, k4⟩ := h3 r hr
  refine ⟨k1, Nat.lt_of_lt_of_le k2 x.size, fun id o z e => ?_, (x.keep r k2 k3).trans k4⟩
  rcases x.fresh id r o z e with h | ⟨i, o', z', h⟩
  · omega
  · exact k3 i o' z' h
/-- Where a piece stands. -/
structure AtW (S : List Nat) (O : Opq) (m N : Nat) (w0 : World) (gB : G) (wB : World) (f : F) (h : H) (g : G) (act : Act) (w : World) : Prop where
  seg : @Seg O w0 g h w
  fr : @FR O g m N f act.tmps
  marks : Marks [] g w wB.heap.size act.defers
  wk : Wk gB wB g w
  fix : ∀ p ∈ S, p < h.next ∧ g p = gB p
theorem fixOk_ok : ∀ {S : List Nat} {prs : List (Nat × Nat)}, fixOk S prs = true → ∀ p ∈ S, lkN prs p = some p
  | [], _, _, p, hp => by cases hp
  | q :: S, prs, h, p, hp => by
    obtain ⟨h1, h2⟩ := (@tt2_and (opN 0) _ _).1 (show tt2 (isN (lkN prs q) q) (fixOk S prs) = true from h)
    cases hp with
    | head => exact isN_eq h1
    | tail _ hp => exact fixOk_ok h2 p hp
theorem AtW.dropR {A B : Opq} {md : Nat} {b : Int} (hm : MdOk A B md b) {S : List Nat} {m N : Nat} {w0 : World} {gB : G} {wB : World} {f : F} {h : H} {g : G} {act : Act} {w : World} (a : AtW S A m N w0 gB wB f h g act w) {prs : List (Nat × Nat)} {L : List (Nat × LB)} {n : Nat} {fl : AL}
    (e1 : subOkR md b prs L n h = true) (e2 : frOkR md b prs fl f = true) (e3 : fixOk S prs = true) : AtW S B m N w0 gB wB ⟨fl, []⟩ (litH L n) (prG prs g) act w :=
  ⟨Seg.dropR hm a.seg e1, FR.dropR (g := g) hm (fun _ _ h => prG_at h) a.fr e2, a.marks.wk .prG, a.wk.trans .prG, fun p hp => by
    obtain ⟨h1, h2⟩ := a.fix p hp
    have h3 := fixOk_ok e3 p hp
    exact ⟨(subOkR_all e1).2.2.1.1 _ (lkN_mem h3), (prG_at h3).trans h2⟩⟩
section
variable {S : List Nat} {call : CallT} {m N n : Nat} {w0 : World} {gB : G} {wB : World} {Q : Exit → Act → World → Prop}
theorem code_ok {O : Opq} (hk : @CallOk O Tryz.prog TP call) {code : Code} {c : CCode} {f f' : F} {h h' : H} {x : X} {g : G} {act : Act} {w : World} (hc : comp TP m N code = some c) (e : exec call false n c f h = some (x, f', h')) (a : AtW S O m N w0 gB wB f h g act w)
    (K : ∀ ex g' a' w', Same x ex → AtW S O m N w0 gB wB f' h' g' a' w' → Q ex a' w') : code.wpIn (fen none) 0 Tryz.prog Q act w := by
  letI := O
  refine wpIn_mono (exec_ok (D := []) tyOk hk mixed n none code _ hc f h x f' h' e g act w wB.heap.size a.seg.wr a.seg.glob a.fr (fun _ => a.marks) a.wk.size) ?_
  rintro ex a' w' ⟨g', y1, y2, y3, y4⟩
  exact K ex g' a' w' y4 ⟨a.seg.step y1, y2, y3 rfl, a.wk.trans (.ofExt y1), fun p hp => by
    obtain ⟨h1, h2⟩ := a.fix p hp
    refine ⟨Nat.lt_of_lt_of_le h1 y1.next, ?_⟩
    rw [← h2]
    exact y1.stays h1⟩
theorem pre_okW {O : Opq} (hk : @CallOk O Tryz.prog TP call) : ∀ (k : Nat) {code : Code} {c : CCode} {f f' : F} {h h' : H} {g : G} {act : Act} {w : World}, comp TP m N code = some c → pre call n k c f h = some (f', h') → AtW S O m N w0 gB wB f h g act w →
    (∀ code' g' a' w', comp TP m N code' = some (rest k c) → AtW S O m N w0 gB wB f' h' g' a' w' → code'.wpIn (fen none) 0 Tryz.prog Q a' w') → code.wpIn (fen none) 0 Tryz.prog Q act w
  | 0, code, c, f, f', h, h', g, act, w, hc, e, a, k => by
    cases e
    exact k code g act w hc a
  | i + 1, code, c, f, f', h, h', g, act, w, hc, e, a, k => by
    obtain ⟨e1, e⟩ := oif_some.1 (show oif (isSeq c) _ = some (f', h') from e)
    obtain ⟨r, e2, e⟩ := ob_some.1 e
    obtain ⟨x, f1, h1⟩ := r
    cases x with
    | exit _ => cases e
    | ret => cases e
    | norm =>
      have e : pre call n i (rgt c) f1 h1 = some (f', h') := e
      have hc' := hc
      rw [isSeq_eq e1] at hc'
      obtain ⟨x, y, rfl, hx, hy⟩ := comp_seq_of hc'
      refine wpIn_seq (code_ok hk hx e2 a fun ex g' a' w' s a2 => ?_)
      rw [s.norm_inv]
      refine pre_okW hk i hy e a2 fun code' g'' a'' w'' q1 q2 => k code' g'' a'' w'' ?_ q2
      rw [← rest_rgt]
      exact q1
end
theorem iterX_succ (call : CallT) (n : Nat) (cc : CCode) (J : Nat) (f : F) (h : H) : iterX call n cc (J + 1) f h = ob (exec call false n cc f h) fun r => X.rec (motive := fun _ => Option (F × H)) (iterX call n cc J r.2.1 r.2.2) (fun _ => none) none r.1 := rfl
theorem leftR_some {S : List Nat} {md : Nat} {b : Int} {prs : List (Nat × Nat)} {L : List (Nat × LB)} {n : Nat} {fl : AL} {o : Option (F × H)} (e : leftR S md b prs L n fl o = true) : ∃ f h, o = some (f, h) ∧ subOkR md b prs L n h = true ∧ frOkR md b prs fl f = true ∧ fixOk S prs = true := by
  cases o with
  | none => cases e
  | some r =>
    obtain ⟨e0, e⟩ := (@tt2_and (opN 0) _ _).1 (show tt2 (fixOk S prs) (tt2 (subOkR md b prs L n r.2) (frOkR md b prs fl r.1)) = true from e)
    obtain ⟨e1, e2⟩ := (@tt2_and (opN 0) _ _).1 e
    exact ⟨r.1, r.2, rfl, e1, e2, e0⟩
/-- A loop: rounds that are alike but for a number that falls by one, and an end. -/
theorem loop_ok {S : List Nat} {call : CallT} {m N n : Nat} {w0 : World} {gB : G} {wB : World} {Q : Exit → Act → World → Prop} (hk : ∀ O : Opq, @CallOk O Tryz.prog TP call) {c : Code} {cc : CCode} (hc : comp TP m N c = some cc) {J K : Nat} (hJ : 0 < J)
    {A : Opq} {f0 : F} {h0 : H} {J0 : Nat} (hJ0 : 0 < J0) {p0 : List (Nat × Nat)}
    {fl fe : AL} {L Le : List (Nat × LB)} {nx ne k : Nat} {prs pre : List (Nat × Nat)} (e0 : leftR S 1 k p0 L nx fl (iterX call n cc J0 f0 h0) = true) (e1 : leftR S 2 0 prs L nx fl (iterX call n cc J ⟨fl, []⟩ (litH L nx)) = true) (e2 : leftR S 3 1 pre Le ne fe (iterX call n cc J ⟨fl, []⟩ (litH L nx)) = true)
    {x : X} {f' : F} {h' : H} (e3 : loopN (exec call false n cc) K ⟨fe, []⟩ (litH Le ne) = some (x, f', h'))
    (hk1 : 1 ≤ k) (hk2 : k ≤ 1099511627776) {g : G} {act : Act} {w : World} (a : AtW S A m N w0 gB wB f0 h0 g act w)
    (KQ : ∀ ex g' a' w', Same x ex → AtW S (opN 0) m N w0 gB wB f' h' g' a' w' → Q ex a' w') : (Code.loop c).wpIn (fen none) 0 Tryz.prog Q act w := by
  obtain ⟨fJ, hJ', i1, i2, i3, i3'⟩ := leftR_some e1
  obtain ⟨fJ2, hJ2, i4, i5, i6, i6'⟩ := leftR_some e2
  obtain ⟨fA, hA, i7, i8, i9, i9'⟩ := leftR_some e0
  rw [i1] at i4
  cases i4
  obtain ⟨r0, hr0⟩ : ∃ r, J = r + 1 := ⟨J - 1, by omega⟩
  obtain ⟨r1, hr1⟩ : ∃ r, J0 = r + 1 := ⟨J0 - 1, by omega⟩
  refine wpIn_fuel (fun j a1 w1 => (∃ (r : Nat) (f : F) (h : H) (g1 : G), iterX call n cc (r + 1) f h = some (fA, hA) ∧ AtW S A m N w0 gB wB f h g1 a1 w1 ∧ j = (r + 1) + k * J + K) ∨ (∃ (q r : Nat) (f : F) (h : H) (g1 : G), 1 ≤ q ∧ q ≤ 1099511627776 ∧ r < J ∧ iterX call n cc (r + 1) f h = some (fJ, hJ') ∧ AtW S (opN q) m N w0 gB wB f h g1 a1 w1 ∧ j = (q - 1) * J + (r + 1) + K) ∨
      ∃ (kk : Nat) (f : F) (h : H) (g1 : G), loopN (exec call false n cc) kk f h = some (x, f', h') ∧ AtW S (opN 0) m N w0 gB wB f h g1 a1 w1 ∧ j = kk) ?_ (k := (r1 + 1) + k * J + K)
    (.inl ⟨r1, _, _, g, by rw [← hr1]; exact i7, a, rfl⟩)
  rintro j a1 w1 (⟨r, f, h, g1, q4, q5, rfl⟩ | ⟨q, r, f, h, g1, q1, q2, q3, q4, q5, rfl⟩ | ⟨kk0, f, h, g1, q1, q2, hkk⟩)
  · rw [iterX_succ] at q4
    obtain ⟨⟨x1, f1, h1⟩, k1, k2⟩ := ob_some.1 q4
    cases x1 with
    | exit _ => cases k2
    | ret => cases k2
    | norm =>
      have k2 : iterX call n cc r f1 h1 = some (fA, hA) := k2
      refine code_ok (hk _) hc k1 q5 fun ex g' a' w' s a2 => ?_
      rw [s.norm_inv]
      cases r with
      | succ r => exact ⟨_, by omega, .inl ⟨r, f1, h1, g', k2, a2, rfl⟩⟩
      | zero =>
        have k2 : some (f1, h1) = some (fA, hA) := k2
        cases k2
        refine ⟨_, ?_, .inr (.inl ⟨k, r0, _, _, _, hk1, hk2, by omega, by rw [← hr0]; exact i1, a2.dropR (.inr (.inl ⟨rfl, rfl, by omega, by omega⟩)) i8 i9 i9', rfl⟩)⟩
        obtain ⟨s, hs⟩ : ∃ s, k = s + 1 := ⟨k - 1, by omega⟩
        subst hs
        show (s + 1 - 1) * J + (r0 + 1) + K < (0 + 1) + (s + 1) * J + K
        rw [show s + 1 - 1 = s by omega, Nat.add_mul, ← hr0]
        omega
  · rw [iterX_succ] at q4
    obtain ⟨⟨x1, f1, h1⟩, k1, k2⟩ := ob_some.1 q4
    cases x1 with
    | exit _ => cases k2
    | ret => cases k2
    | norm =>
      have k2 : iterX call n cc r f1 h1 = some (fJ, hJ') := k2
      refine code_ok (hk _) hc k1 q5 fun ex g' a' w' s a2 => ?_
      rw [s.norm_inv]
      cases r with
      | succ r => exact ⟨_, by omega, .inr (.inl ⟨q, r, f1, h1, g', q1, q2, by omega, k2, a2, rfl⟩)⟩
      | zero =>
        have k2 : some (f1, h1) = some (fJ, hJ') := k2
        cases k2
        by_cases hq : q = 1
        · subst hq
          exact ⟨K, by omega, .inr (.inr ⟨K, _, _, _, e3, a2.dropR (.inr (.inr (.inr ⟨rfl, rfl⟩))) i5 i6 i6', rfl⟩)⟩
        · have hm : MdOk (opN (q : Int)) (opN ((q - 1 : Nat) : Int)) 2 0 := .inr (.inr (.inl ⟨rfl, q, rfl, by rw [show ((q - 1 : Nat) : Int) = (q : Int) - 1 by omega], by omega, by omega⟩))
          refine ⟨_, ?_, .inr (.inl ⟨q - 1, r0, _, _, _, by omega, by omega, by omega, by rw [← hr0]; exact i1, a2.dropR hm i2 i3 i3', rfl⟩)⟩
          obtain ⟨s, hs⟩ : ∃ s, q = s + 2 := ⟨q - 2, by omega⟩
          subst hs
          show (s + 2 - 1 - 1) * J + (r0 + 1) + K < (s + 2 - 1) * J + (0 + 1) + K
          rw [show s + 2 - 1 - 1 = s by omega, show s + 2 - 1 = s + 1 by omega, Nat.add_mul, ← hr0]
          omega
  · obtain ⟨kk, hkk'⟩ : ∃ kk, kk = kk0 := ⟨_, rfl⟩
    rw [← hkk'] at q1 hkk
    subst hkk
    clear hkk'
    cases j with
    | zero => cases q1
    | succ kk =>
      letI : Opq := opN 0
      rw [loopN_succ] at q1
      rcases thenN_some q1 with ⟨f2, h2, k2, k3⟩ | ⟨k2, k3⟩
      · refine code_ok (hk _) hc k2 q2 fun ex g' a' w' s a2 => ?_
        rw [s.norm_inv]
        exact ⟨kk, Nat.lt_succ_self kk, .inr (.inr ⟨kk, f2, h2, g', k3, a2, rfl⟩)⟩
      · refine code_ok (hk _) hc k2 q2 fun ex g' a' w' s a2 => ?_
        cases ex with
        | normal => cases x <;> first | (cases s; done) | exact absurd rfl k3
        | _ => exact KQ _ g' a' w' s a2
end Ev
end Go.Proofs.YtihflniehaaakaaGreatDoor
namespace Go.Proofs.YtihflniehaaakaaGreatDoor
set_option linter.unusedVariables false
set_option linter.unusedSimpArgs false
namespace Ev
set_option linter.unusedSectionVars false
section
variable [Opq]
theorem comp_reg_of {m N : Nat} {code : Code} {l : List COper} (e : comp TP m N code = some (.reg l)) (hb : CCode.reg l ≠ badC) : ∃ id ops, code = .region id ops false ∧ mapO (compOper TP m N ops) ops.toList = some l := by
  cases code with
  | seq x y =>
    rw [comp_seq] at e
    obtain ⟨p, h1, e⟩ := ob_some.1 e
    obtain ⟨q, h2, e⟩ := ob_some.1 e
    cases e
  | region id ops d =>
    cases d with
    | false =>
      rw [comp_reg] at e
      rcases orBad_some e with e | e
      · obtain ⟨cl, h1, h2⟩ := ob_some.1 e
        cases h2
        exact ⟨id, ops, rfl, h1⟩
      · exact absurd e hb
    | true =>
      rw [comp_regD] at e
      rcases orBad_some e with e | e
      · obtain ⟨cl, h1, h2⟩ := ob_some.1 e
        obtain ⟨l, h3, h4⟩ := ob_some.1 h2
        cases h4
      · exact absurd e hb
  | cond o x y =>
    rw [comp_cond] at e
    obtain ⟨_, _, e⟩ := ob_some.1 e
    obtain ⟨_, _, e⟩ := ob_some.1 e
    obtain ⟨_, _, e⟩ := ob_some.1 e
    cases e
  | block id c =>
    rw [comp_block] at e
    obtain ⟨_, _, e⟩ := ob_some.1 e
    cases e
  | loop c =>
    rw [comp_loop] at e
    obtain ⟨_, _, e⟩ := ob_some.1 e
    cases e
  | rangeFunc f ps x y =>
    rw [comp_range] at e
    obtain ⟨_, _, e⟩ := ob_some.1 e
    obtain ⟨_, _, e⟩ := ob_some.1 e
    obtain ⟨_, _, e⟩ := ob_some.1 e
    obtain ⟨_, _, e⟩ := ob_some.1 e
    cases e
  | scope c =>
    rw [comp_scope] at e
    obtain ⟨_, _, e⟩ := ob_some.1 e
    cases e
  | _ => first | (rw [comp] at e <;> first | (cases e; done) | (intros; simp_all; done)) | exact absurd (Option.some.inj e).symm hb
section
variable {P : Program} {T : Ty} {m N : Nat}
theorem step_call {w : World} {o : Oper} {f : FuncId} {os : List Operand} {a : Act} (hc : compOp T o.op = some (.call f, os)) {R : Ending → World → Prop}
    (C : ∃ fn, P.funcs[f]? = some fn ∧ fn.name ≠ "runtime.NumGoroutine" ∧ fn.body.isNone = false ∧ CallsIn Fence.wide 0 P f (os.map a.eval).toArray w R) {rd : Option Nat} {K : Act → World → Prop} {Q : Exit → Act → World → Prop}
    (hK : ∀ e w', R e w' → ∃ u, e = .returned u ∧ K (a.put o.dst u) w') : o.wpIn (fen rd) 0 P a w K Q := by
  refine ⟨fun _ _ => trivial, ?_⟩
  rw [Oper.semAt_eq _ _ _ (compOp_defer hc)]
  obtain ⟨args, at', he, ho⟩ : ∃ args at', o.op = .call ⟨.value (.func f), args, at'⟩ ∧ os = args.toList := by
    exact compOp_call hc
  subst ho
  obtain ⟨fn, k1, k2, k3, k4⟩ := C
  have hrun : (execOp a.eval o).run P w = .ok (.enter f (args.map a.eval)) w := by
    have hb : ¬ fn.body = none := fun e => by rw [e] at k3; cases k3
    simp [execOp, he, resolve, Act.eval, Deferred.ofValue, invoke, callFunc, k1, k2, hb]
  have ha : (args.toList.map a.eval).toArray = args.map a.eval := by apply Array.ext'; simp
  rw [ha] at k4
  rw [hrun, Oper.uponIn_enter]
  refine ⟨fen_depth rd, callsIn_fen (k4.mono ?_)⟩
  intro e w' hr
  obtain ⟨u, rfl, hk⟩ := hK e w' hr
  exact hk
theorem reg_pre (hT : TyOk P T) {call : CallT} (hk : CallOk P T call) {ops : Array Oper} {rd : Option Nat} {Q : Exit → Act → World → Prop} {tl : List Nat} : ∀ (suf : List Oper) (k : Nat) (cl : List COper) (f f' : F) (h h' : H) (g : G) (a : Act) (w : World),
    (∀ i, i < suf.length → ops[k + i]? = suf[i]?) → mapO (compOper T m N ops) suf = some cl → runOps call cl f h = some (f', h') → WR T g h w → Glob T g h → FR g m N f a.tmps →
    (∀ g' a' w', Ext T g h w g' h' w' → FR g' m N f' a'.tmps → a'.defers = a.defers → wpOpsIn (fen rd) 0 P ops Q tl a' w') → wpOpsIn (fen rd) 0 P ops Q (List.range' k suf.length ++ tl) a w := by
  intro suf
  induction suf with
  | nil =>
    intro k cl f f' h h' g a w _ hc hr r hG hf hQ
    cases hc
    cases hr
    exact hQ g a w (.refl r) hf rfl
  | cons o suf ih =>
    intro k cl f f' h h' g a w hidx hc hr r hG hf hQ
    rw [mapO_cons] at hc
    obtain ⟨co, h1, h2⟩ := ob_some.1 hc
    obtain ⟨cl', h3, h4⟩ := ob_some.1 h2
    cases h4
    rw [runOps_cons] at hr
    obtain ⟨q, h5, h6⟩ := ob_some.1 hr
    have hp := compOper_parts h1
    have ho : ops[k]? = some o := by have := hidx 0 (by simp); simpa using this
    have hidx' : ∀ i, i < suf.length → ops[k + 1 + i]? = suf[i]? := fun i hi => by
      have := hidx (i + 1) (by simp; omega)
      rw [show k + 1 + i = k + (i + 1) by omega]
      simpa using this
    rw [List.length_cons, List.range'_succ, List.cons_append, wpOpsIn_cons]
    unfold wpOpIn
    simp only [ho]
    rcases coper_run h5 with ⟨e1, rfl⟩ | ⟨vs, v, h'', e1, e2, e3, rfl⟩
    · rw [guard_ok hp e1 (fun t _ v hv => hf.2 t v hv)]
      refine ⟨fun _ _ => trivial, ?_⟩
      refine ih (k + 1) cl' _ f' h h' g _ w hidx' h3 h6 r hG (hf.put hp.dst undef_vr) fun g' a' w' x1 x2 x3 => hQ g' a' w' x1 x2 (x3.trans (put_defers _ _ _))
    · rw [guard_ok hp e1 (fun t _ v hv => hf.2 t v hv)]
      obtain ⟨os, k1, k2⟩ := hp.op
      refine step_op hT hk r hG k1 (evs_ok hG k2 e2 fun t _ v hv => hf.2 t v hv) e3 fun g1 w1 u x1 x2 => ?_
      refine ih (k + 1) cl' _ f' h'' h' g1 _ w1 hidx' h3 h6 x1.wr (hG.ext x1) ((hf.mono x1.le).put hp.dst x2) fun g' a' w' y1 y2 y3 => hQ g' a' w' (x1.trans y1) y2 (y3.trans (put_defers _ _ _))
end
end
section
variable {S : List Nat} {O : Opq} {call : CallT} {m N n : Nat} {w0 : World} {gB : G} {wB : World} {fn : Func} {rs : List CRes}
/-- What a call leaves. -/
def CRet (S : List Nat) (O : Opq) (v : V) (hE : H) (w0 : World) (gB : G) (wB : World) (e : Ending) (w' : World) : Prop :=
  ∃ u g', e = .returned u ∧ @VR O g' v u ∧ @Seg O w0 g' hE w' ∧ Wk gB wB g' w' ∧ ∀ p ∈ S, g' p = gB p
theorem leavesW {g : G} {h : H} {tmps : Array Value} {v : V} (hw : w0.heap.size ≤ wB.heap.size) (hres : ∀ w, @WR O TP g h w → ∃ u, @VR O g v u ∧ (results fn tmps).run Tryz.prog w = .ok u w) (fix : ∀ p ∈ S, g p = gB p) :
    ∀ {rs : List Nat} {w : World}, rs.Nodup → (∀ r ∈ rs, wB.heap.size ≤ r ∧ r < w.heap.size ∧ (∀ id o z, g id ≠ some (r, o, z)) ∧ w.heap[r]? = some (.deferred (some []))) → @Seg O w0 g h w → Wk gB wB g w →
    LeavesInM Fence.wide 0 Tryz.prog fn tmps (CRet S O v h w0 gB wB) (rs.map markOf) .returning w
  | [], w, _, _, x, y => by
    obtain ⟨u, h1, h2⟩ := hres w x.wr
    exact ⟨_, h2, _, g, rfl, h1, x, y, fix⟩
  | r :: rs, w, hn, hm, x, y => by
    rw [List.nodup_cons] at hn
    obtain ⟨k1, k2, k3, k4⟩ := hm r List.mem_cons_self
    refine ⟨(fun e => by cases e), .inl ⟨r, _, rfl, run_takeDeferred k4, leavesW hw hres fix hn.2 (fun s hs => ?_) (@Seg.put O _ _ _ _ x _ _ (Nat.le_trans hw k1) k3) ⟨by rw [World.putObj_size]; exact y.size, fun b hb hnb => ?_, y.fresh⟩⟩⟩
    · obtain ⟨q1, q2, q3, q4⟩ := hm s (List.mem_cons_of_mem _ hs)
      have hne : s ≠ r := fun e => hn.1 (e ▸ hs)
      exact ⟨q1, by rw [World.putObj_size]; exact q2, q3, by rw [World.putObj_heap_other hne]; exact q4⟩
    · rw [World.putObj_heap_other (by omega)]
      exact y.keep b hb hnb
theorem last_okW (hk : @CallOk O Tryz.prog TP call) (hw : w0.heap.size ≤ wB.heap.size) (hrs : mapO (resC TP m) fn.results.toList = some rs) {code : Code} {c : CCode} {f f' : F} {h h' : H} {g : G} {act : Act} {w : World} (hc : comp TP m N code = some c) (e : exec call false n c f h = some (.ret, f', h'))
    {l : List V} (er : resOf f' h' rs = some l) (a : AtW S O m N w0 gB wB f h g act w) : code.wpIn (fen none) 0 Tryz.prog (bodyPostM Fence.wide 0 Tryz.prog fn (CRet S O (oneOrTup l) h' w0 gB wB)) act w := by
  letI := O
  refine code_ok hk hc e a fun ex g' a' w' s a2 => ?_
  cases ex <;> first | (cases s; done) | skip
  obtain ⟨ms, p1, p2, p3⟩ := a2.marks
  show LeavesInM Fence.wide 0 Tryz.prog fn a'.tmps _ a'.defers .returning w'
  rw [p1, List.append_nil]
  exact leavesW hw (fun w2 hw2 => results_ok tyOk a2.fr hw2 hrs er) (fun p hp => (a2.fix p hp).2) p2 p3 a2.seg a2.wk
end
section
variable {S : List Nat} {O : Opq} {call : CallT} {m N : Nat} {w0 : World} {gB : G} {wB : World} {Q : Exit → Act → World → Prop}
/-- A region with one call of f that is known of the world at hand. -/
theorem reg_mid (hk : @CallOk O Tryz.prog TP call) {code : Code} {cl cl2 : List COper} {d : Dst} {f : FuncId} {args : List Opd} {lo hi : Nat} (hc : comp TP m N code = some (.reg (cl ++ ⟨d, .call f, args, none, lo, hi⟩ :: cl2))) {fr fr1 f2 : F} {h h1 hE h2 : H} {vs : List V} {v : V}
    (e1 : runOps call cl fr h = some (fr1, h1)) (e2 : evs fr1 args = some vs) {fl : AL} {prs : List (Nat × Nat)} (e3 : frOkR 0 0 prs fl fr1 = true) (hS : ∀ p q, lkN prs p = some q → p = q ∧ p ∈ S) (e4 : runOps call cl2 (d.put ⟨fl, []⟩ v) hE = some (f2, h2))
    {g : G} {act : Act} {w : World} (at0 : AtW [] O m N w0 gB wB fr h g act w)
    (C : ∀ g1 w1 us, @Seg O w0 g1 h1 w1 → @VRs O g1 vs us → ∃ fn, Tryz.prog.funcs[f]? = some fn ∧ fn.name ≠ "runtime.NumGoroutine" ∧ fn.body.isNone = false ∧ CallsIn Fence.wide 0 Tryz.prog f us.toArray w1 (CRet S O v hE w0 g1 w1))
    (K : ∀ g' a' w', AtW [] O m N w0 gB wB (clr f2) h2 g' a' w' → Q .normal a' w') : code.wpIn (fen none) 0 Tryz.prog Q act w := by
  letI := O
  obtain ⟨id, ops, rfl, hm⟩ := comp_reg_of hc (fun e => by
    have := congrArg (fun c => match c with | CCode.reg l => l.any (fun o => match o.op with | .call _ => true | _ => false) | _ => false) e
    simp [badC] at this)
  obtain ⟨l1, o, l2, hl, m1, m2, m3⟩ : ∃ l1 o l2, ops.toList = l1 ++ o :: l2 ∧ mapO (compOper TP m N ops) l1 = some cl ∧ compOper TP m N ops o = some ⟨d, .call f, args, none, lo, hi⟩ ∧ mapO (compOper TP m N ops) l2 = some cl2 := by
    have gen : ∀ (L : List Oper) (cl : List COper) (co : COper), mapO (compOper TP m N ops) L = some (cl ++ co :: cl2) → ∃ l1 o l2, L = l1 ++ o :: l2 ∧ mapO (compOper TP m N ops) l1 = some cl ∧ compOper TP m N ops o = some co ∧ mapO (compOper TP m N ops) l2 = some cl2 := by
      intro L
      induction L with
      | nil => intro cl co h; cases cl <;> cases h
      | cons x L ih =>
        intro cl co h
        rw [mapO_cons] at h
        obtain ⟨y, h1, h2⟩ := ob_some.1 h
        obtain ⟨ys, h3, h4⟩ := ob_some.1 h2
        cases cl with
        | nil =>
          have h4 : y :: ys = co :: cl2 := Option.some.inj h4
          obtain ⟨rfl, rfl⟩ := List.cons.inj h4
          exact ⟨[], x, L, rfl, rfl, h1, h3⟩
        | cons c cl =>
          have h4 : y :: ys = c :: (cl ++ co :: cl2) := Option.some.inj h4
          obtain ⟨rfl, rfl⟩ := List.cons.inj h4
          obtain ⟨l1, o, l2, rfl, k1, k2, k3⟩ := ih cl co h3
          refine ⟨x :: l1, o, l2, rfl, ?_, k2, k3⟩
          rw [mapO_cons, h1]
          show ob (mapO (compOper TP m N ops) l1) _ = _
          rw [k1]
          rfl
    exact gen _ _ _ hm
  refine wpIn_region ?_
  have hsz : ops.size = l1.length + (1 + l2.length) := by
    have : ops.toList.length = l1.length + (1 + l2.length) := by rw [hl]; simp; omega
    simpa using this
  have hlook : ∀ i, ops[i]? = (l1 ++ o :: l2)[i]? := fun i => by rw [← hl, Array.getElem?_toList]
  rw [hsz, List.range_eq_range', show List.range' 0 (l1.length + (1 + l2.length)) = List.range' 0 l1.length ++ (l1.length :: List.range' (l1.length + 1) l2.length) by
    rw [show l1.length :: List.range' (l1.length + 1) l2.length = List.range' l1.length (1 + l2.length) by rw [Nat.add_comm 1, List.range'_succ]]
    rw [show l1.length = 0 + 1 * l1.length by omega, ← List.range'_append]
    simp]
  refine reg_pre tyOk hk l1 0 cl fr fr1 h h1 g act w (fun i hi => by rw [Nat.zero_add, hlook, List.getElem?_append_left hi]) m1 e1 at0.seg.wr at0.seg.glob at0.fr fun g1 a1 w1 x1 x2 x3 => ?_
  have s1 := at0.seg.step x1
  have ho : ops[l1.length]? = some o := by rw [hlook, List.getElem?_append_right (Nat.le_refl _), Nat.sub_self]; rfl
  rw [wpOpsIn_cons]
  unfold wpOpIn
  simp only [ho]
  have hp := compOper_parts m2
  rw [guard_ok hp (show guardOk fr1 none = some true from rfl) (fun t _ v hv => x2.2 t v hv)]
  obtain ⟨os, k1, k2⟩ := hp.op
  refine step_call k1 (C g1 w1 _ s1 (evs_ok s1.glob k2 e2 fun t _ v hv => x2.2 t v hv)) ?_
  rintro e w' ⟨u, g', rfl, hv, hs, hwk, hfix⟩
  refine ⟨u, rfl, ?_⟩
  have hf2 : FR g' m N ⟨fl, []⟩ a1.tmps := FR.dropR (.inl ⟨rfl, rfl⟩) (fun p q hpq => by
    obtain ⟨rfl, hmem⟩ := hS p q hpq
    exact hfix p hmem) x2 e3
  have hf3 := hf2.put hp.dst hv
  rw [← List.append_nil (List.range' (l1.length + 1) l2.length)]
  refine reg_pre tyOk hk l2 (l1.length + 1) cl2 _ f2 hE h2 g' _ w' (fun i hi => by rw [hlook, List.getElem?_append_right (by omega), show l1.length + 1 + i - l1.length = i + 1 by omega]; rfl) m3 e4 hs.wr hs.glob hf3 fun g2 a2 w2 z1 z2 z3 => ?_
  refine K g2 _ w2 ⟨hs.step z1, z2.clr, ?_, ((at0.wk.trans (.ofExt x1)).trans hwk).trans (.ofExt z1), fun p hp => by cases hp⟩
  rw [z3, put_defers, x3]
  exact ((at0.marks.wk (.ofExt x1)).wk hwk).wk (.ofExt z1)
end
end Ev
end Go.Proofs.YtihflniehaaakaaGreatDoor
