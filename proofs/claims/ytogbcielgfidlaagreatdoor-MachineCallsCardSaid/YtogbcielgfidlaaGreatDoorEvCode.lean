/-
  Code, as the compiled code has it.
-/
import Derived.Test.YtogbcielgfidlaaGreatDoorEvLate
namespace Go.Proofs.YtogbcielgfidlaaGreatDoor
set_option linter.unusedVariables false
set_option linter.unusedSimpArgs false
namespace Ev
variable [Opq]
set_option linter.unusedSectionVars false
section
variable {P : Program} {T : Ty} {m N : Nat}

/-- The marks of ranges over functions, among the deferred calls. -/
def markOf (r : Nat) : Deferred := { target := .collected r, args := #[] }
def Marks (D : List Deferred) (g : G) (w : World) (B : Nat) (ds : List Deferred) : Prop :=
  ∃ rs : List Nat, ds = rs.map markOf ++ D ∧ rs.Nodup ∧ ∀ r ∈ rs, B ≤ r ∧ r < w.heap.size ∧ (∀ id o z, g id ≠ some (r, o, z)) ∧ w.heap[r]? = some (.deferred (some []))
theorem Marks.nil {D : List Deferred} {g : G} {w : World} {B : Nat} : Marks D g w B D := ⟨[], rfl, List.nodup_nil, by simp⟩
theorem Marks.ext {D : List Deferred} {g g' : G} {h h' : H} {w w' : World} {B : Nat} {ds : List Deferred} (x : Ext T g h w g' h' w') (k : Marks D g w B ds) : Marks D g' w' B ds := by
  obtain ⟨rs, h1, h2, h3⟩ := k
  refine ⟨rs, h1, h2, fun r hr => ?_⟩
  obtain ⟨k1, k2, k3, k4⟩ := h3 r hr
  refine ⟨k1, Nat.lt_of_lt_of_le k2 x.size, fun id o z e => ?_, (x.keep r k2 k3).trans k4⟩
  cases hg : g id with
  | some y => rw [x.le _ _ hg] at e; cases e; exact k3 id o z hg
  | none =>
    rcases x.fresh id r o z e hg with h | ⟨i, o', z', h⟩
    · omega
    · exact k3 i o' z' h
theorem Marks.push {D : List Deferred} {g g' : G} {h h' : H} {w w' : World} {B r : Nat} {ds : List Deferred} (x : Ext T g h w g' h' w') (k : Marks D g w B ds) (h1 : B ≤ r) (h2 : w.heap.size ≤ r) (h3 : r < w'.heap.size) (h4 : ∀ id o z, g' id ≠ some (r, o, z)) (h5 : w'.heap[r]? = some (.deferred (some []))) : Marks D g' w' B (markOf r :: ds) := by
  obtain ⟨rs, q1, q2, q3⟩ := k
  have k' : ∀ s ∈ rs, B ≤ s ∧ s < w'.heap.size ∧ (∀ id o z, g' id ≠ some (s, o, z)) ∧ w'.heap[s]? = some (.deferred (some [])) := by
    intro s hs
    have one : Marks [] g w B [markOf s] := ⟨[s], rfl, by simp, fun y hy => by rw [List.mem_singleton] at hy; subst hy; exact q3 y hs⟩
    obtain ⟨rs', p1, p2, p3⟩ := one.ext x
    rw [List.append_nil] at p1
    cases rs' with
    | nil => cases p1
    | cons y rs' =>
      have : s = y := by
        have e := (List.cons.inj p1).1
        simpa [markOf] using e
      subst this
      exact p3 s List.mem_cons_self
  refine ⟨r :: rs, by rw [q1]; rfl, ?_, fun s hs => ?_⟩
  · rw [List.nodup_cons]
    exact ⟨fun hm => by have := (q3 _ hm).2.1; omega, q2⟩
  · rcases List.mem_cons.1 hs with h | h
    · subst h
      exact ⟨h1, h3, h4, h5⟩
    · exact k' s h
/-- A way out, on both sides. -/
def Same : X → Exit → Prop
  | .norm, .normal => True
  | .exit i, .exit j => i = j
  | .ret, .ret => True
  | _, _ => False
/-- What code comes to. -/
def Out (D : List Deferred) (T : Ty) (m N : Nat) (rd : Option Nat) (B : Nat) (g : G) (h : H) (w : World) (x : X) (f' : F) (h' : H) (e : Exit) (a' : Act) (w' : World) : Prop :=
  ∃ g', Ext T g h w g' h' w' ∧ FR g' m N f' a'.tmps ∧ (rd = none → Marks D g' w' B a'.defers) ∧ Same x e
theorem FR.clr {g : G} {f : F} {tmps : Array Value} (h : FR g m N f tmps) : FR g m N (clr f) tmps := by
  refine ⟨h.1, fun t v e => h.2 t v ?_⟩
  unfold rdn at e ⊢
  split at e
  · rename_i hb
    rw [if_pos hb]
    exact e
  · cases e
theorem stepR_scope {b : Frame} {a : Act} {k : List Item} {cs : List Frame} {w : World} {c : Code} : step P (lone (b.atR a (.code (.scope c) :: k)) cs w) = .next (lone (b.atR a (.code c :: .inScope c :: k)) cs w) :=
  step_lone_go (by simp [stepG, stepG.exec, Frame.atR])
theorem stepR_inScope {b : Frame} {a : Act} {k : List Item} {cs : List Frame} {w : World} {c : Code} : step P (lone (b.atR a (.inScope c :: k)) cs w) = .next (lone (b.atR a k) cs w) :=
  step_lone_go (by simp [stepG, stepG.exec, Frame.atR])
def noGoto (Q : Exit → Act → World → Prop) (e : Exit) (a : Act) (w : World) : Prop := match e with
  | .goto _ => False
  | e => Q e a w
/-- A scope that nothing jumps in. -/
theorem wpIn_scope {F : Fence} {n : Nat} {Q : Exit → Act → World → Prop} {c : Code} {a : Act} {w : World} (h : c.wpIn F n P (noGoto Q) a w) : (Code.scope c).wpIn F n P Q a w := by
  intro b k cs hro hb hr
  have h0 : (lone (b.atR a (.code (.scope c) :: k)) cs w).fenced P F := fenced_calm hb hr rfl
  obtain ⟨e, a₁, w₁, hq, harr⟩ := h b (.inScope c :: k) cs hro hb hr
  cases e with
  | normal => exact ⟨.normal, a₁, w₁, hq, .head h0 stepR_scope (StepsIn.trans harr (.one (fenced_calm hb hr rfl) stepR_inScope))⟩
  | exit id' =>
    have hx : exitTo id' (.inScope c :: k) = exitTo id' k := by simp [exitTo]
    exact ⟨.exit id', a₁, w₁, hq, fun k' hk => .head h0 stepR_scope (harr.1 k' (by rw [hx]; exact hk)),
      fun hr' hk => let ⟨k₁, h1, h2⟩ := harr.2 hr' (by rw [hx]; exact hk); ⟨k₁, h1, .head h0 stepR_scope h2⟩⟩
  | goto l => exact hq.elim
  | ret => exact ⟨_, a₁, w₁, hq, .of_steps (.one h0 stepR_scope) harr⟩
  | panic ch => exact ⟨_, a₁, w₁, hq, .of_steps (.one h0 stepR_scope) harr⟩
  | outgrown => exact ⟨_, a₁, w₁, hq, .of_steps (.one h0 stepR_scope) harr⟩
theorem comp_seq (a b : Code) : comp T m N (.seq a b) = ob (comp T m N a) fun a => ob (comp T m N b) fun b => some (.seq a b) := by rw [comp]
theorem comp_reg (id : Nat) (ops : Array Oper) : comp T m N (.region id ops false) = orBad (ob (mapO (compOper T m N ops) ops.toList) fun l => some (.reg l)) := by rw [comp]
theorem comp_regD (id : Nat) (ops : Array Oper) : comp T m N (.region id ops true) = orBad (ob (mapO (compOper T m N ops) ops.toList) fun l => ob (compD2 T l ops) fun l => some (.regD l)) := by rw [comp]
theorem orBad_some {o : Option CCode} {c : CCode} (h : orBad o = some c) : o = some c ∨ c = badC := by
  cases o with
  | none => cases h; exact .inr rfl
  | some x => cases h; exact .inl rfl
theorem exec_bad (call : CallT) (rd : Bool) (n : Nat) (f : F) (h : H) : exec call rd n badC f h = none := rfl
theorem comp_cond (o : Operand) (a b : Code) : comp T m N (.cond o a b) = ob (opd T m o) fun o => ob (comp T m N a) fun a => ob (comp T m N b) fun b => some (.cond o a b) := by rw [comp]
theorem comp_block (id : Nat) (c : Code) : comp T m N (.block id c) = ob (comp T m N c) fun c => some (.block id c) := by rw [comp]
theorem comp_scope (c : Code) : comp T m N (.scope c) = ob (comp T m N c) fun c => some (.cond (.c (.bool true)) c .skip) := by rw [comp]
theorem comp_loop (c : Code) : comp T m N (.loop c) = ob (comp T m N c) fun c => some (.loop c) := by rw [comp]
theorem comp_range (f : Operand) (ps : Array Tmp) (a b : Code) : comp T m N (.rangeFunc f ps a b) = ob (opd T m f) fun f => ob (mapO (fun t => dst m N (some t)) ps.toList) fun ps => ob (comp T m N a) fun a => ob (comp T m N b) fun b => some (.rangeF f ps a b) := by rw [comp]

theorem exec_reg (call : CallT) (rd : Bool) (n : Nat) (ops : List COper) (f : F) (h : H) : exec call rd n (.reg ops) f h = ob (runOps call ops f h) fun r => some (.norm, clr r.1, r.2) := rfl
theorem exec_regD (call : CallT) (rd : Bool) (n : Nat) (ops : List COper) (f : F) (h : H) : exec call rd n (.regD ops) f h = ob (runOpsD call ops ⟨f, h, [], []⟩) fun s => oif (Bool.rec (motive := fun _ => Bool) (checkAll s.cs (revL s.hs [s.h])) true (quiet ops)) (some (.norm, clr s.f, s.h)) := rfl
theorem exec_seq (call : CallT) (rd : Bool) (n : Nat) (a b : CCode) (f : F) (h : H) : exec call rd n (.seq a b) f h = thenN (exec call rd n a f h) (exec call rd n b) := rfl
theorem exec_cond (call : CallT) (rd : Bool) (n : Nat) (o : Opd) (a b : CCode) (f : F) (h : H) : exec call rd n (.cond o a b) f h = ob (o.ev f) fun v => match v with
      | .bool c => Bool.rec (motive := fun _ => Res) (exec call rd n b f h) (exec call rd n a f h) c
      | _ => none := rfl
theorem exec_block (call : CallT) (rd : Bool) (n id : Nat) (c : CCode) (f : F) (h : H) : exec call rd n (.block id c) f h = blockX id (exec call rd n c f h) := rfl
theorem exec_loop (call : CallT) (rd : Bool) (n : Nat) (c : CCode) (f : F) (h : H) : exec call rd n (.loop c) f h = loopN (exec call rd n c) n f h := rfl
theorem exec_range (call : CallT) (rd : Bool) (n : Nat) (g : Opd) (ps : List Dst) (as bd : CCode) (f : F) (h : H) : exec call rd n (.rangeF g ps as bd) f h = (oif (!rd) <|
      ob (g.ev f) fun gv => oif (fnOnly gv) <| ob (h.new (.loop 0 f ps as bd none)) fun h1 => ob (callVal call [gv, .yld h.next] h1) fun r =>
      r.2.loopOf h.next fun st _ _ _ _ j => oif (!Nat.beq st 1) (some (Option.rec (motive := fun _ => X) .norm id j, f, r.2.set h.next .dead))) := rfl
theorem loopN_succ (body : F → H → Res) (n : Nat) (f : F) (h : H) : loopN body (n + 1) f h = thenN (body f h) (loopN body n) := rfl
theorem thenN_some {o : Res} {k : F → H → Res} {r : X × F × H} (h : thenN o k = some r) : (∃ f h', o = some (.norm, f, h') ∧ k f h' = some r) ∨ (o = some r ∧ r.1 ≠ .norm) := by
  obtain ⟨q, h1, h2⟩ := ob_some.1 (show ob o _ = some r from h)
  obtain ⟨x, f, h'⟩ := q
  cases x with
  | norm => exact .inl ⟨f, h', h1, h2⟩
  | exit id => have h2 : o = some r := h2; rw [h1] at h2; cases h2; exact .inr ⟨h1, fun e => by cases e⟩
  | ret => have h2 : o = some r := h2; rw [h1] at h2; cases h2; exact .inr ⟨h1, fun e => by cases e⟩
theorem blockX_some {id : Nat} {o : Res} {r : X × F × H} (h : blockX id o = some r) : ∃ x f h', o = some (x, f, h') ∧ r = (match x with | .exit j => if j = id then .norm else .exit j | x => x, f, h') := by
  obtain ⟨q, h1, h2⟩ := ob_some.1 (show ob o _ = some r from h)
  obtain ⟨x, f, h'⟩ := q
  cases x with
  | norm => have h2 : o = some r := h2; rw [h1] at h2; cases h2; exact ⟨_, _, _, h1, rfl⟩
  | ret => have h2 : o = some r := h2; rw [h1] at h2; cases h2; exact ⟨_, _, _, h1, rfl⟩
  | exit j =>
    have h2 : (Bool.rec (motive := fun _ => Res) o (some (.norm, f, h')) (Nat.beq j id) : Res) = some r := h2
    rw [brec_eq] at h2
    refine ⟨_, _, _, h1, ?_⟩
    split at h2
    · rename_i hb
      cases h2
      have : j = id := by simpa using hb
      simp [this]
    · rename_i hb
      rw [h1] at h2
      cases h2
      have : ¬ j = id := by simpa using hb
      simp [this]
/-- A loop, its rounds counted. -/
theorem wpIn_fuel {F : Fence} {n : Nat} {c : Code} {Q : Exit → Act → World → Prop} (I : Nat → Act → World → Prop) (round : ∀ k a w, I k a w → c.wpIn F n P (Exit.then (fun a' w' => ∃ k', k' < k ∧ I k' a' w') Q) a w) {k : Nat} {a : Act} {w : World} (h₀ : I k a w) : (Code.loop c).wpIn F n P Q a w := by
  intro b kk cs hro hb hr
  have key : ∀ j a w, I j a w →
      ∃ e a' w', Q e a' w' ∧ ArrivesIn (Machine.fenced P F) P (lone (b.atR a (.code c :: .inLoop c :: kk)) cs w) b kk cs e a' w' := by
    intro j
    induction j using Nat.strongRecOn with
    | _ j ih =>
      intro a w hI
      obtain ⟨e, a₁, w₁, hq, harr⟩ := round j a w hI b (.inLoop c :: kk) cs hro hb hr
      cases e with
      | normal =>
        obtain ⟨k', hlt, hI₁⟩ := hq
        obtain ⟨e₂, a₂, w₂, hq₂, harr₂⟩ := ih k' hlt a₁ w₁ hI₁
        exact ⟨e₂, a₂, w₂, hq₂, .of_steps (StepsIn.trans harr (.one (fenced_calm hb hr rfl) stepR_inLoop)) harr₂⟩
      | exit id => exact ⟨_, a₁, w₁, hq, .pass (x := .inLoop c) rfl (fun _ _ => .inl (by simp)) harr⟩
      | goto l => exact ⟨_, a₁, w₁, hq, .pass (x := .inLoop c) rfl (fun _ _ => .inl (by simp)) harr⟩
      | ret => exact ⟨_, a₁, w₁, hq, .pass (x := .inLoop c) rfl (fun _ _ => .inl (by simp)) harr⟩
      | panic ch => exact ⟨_, a₁, w₁, hq, .pass (x := .inLoop c) rfl (fun _ _ => .inl (by simp)) harr⟩
      | outgrown => exact ⟨_, a₁, w₁, hq, .pass (x := .inLoop c) rfl (fun _ _ => .inl (by simp)) harr⟩
  obtain ⟨e, a', w', hq, harr⟩ := key _ a w h₀
  exact ⟨e, a', w', hq, .of_steps (.one (fenced_calm hb hr rfl) stepR_loop) harr⟩
theorem Ext.alloc {g : G} {h : H} {w : World} (r : WR T g h w) (o : Obj) : Ext T g h w g h (w.alloc o) := by
  have r' : WR T g h (w.alloc o) := by
    refine ⟨r.bound, r.top, r.dom, fun id b o' z e => by rw [World.size_alloc]; have := r.lt _ _ _ _ e; omega, fun id x b e1 e2 => ?_, r.mates, r.kids, r.ext⟩
    obtain ⟨b', o', z⟩ := x
    exact BR.move e1 (heap_alloc (r.lt _ _ _ _ e1)) (r.blk _ _ _ e1 e2)
  exact ⟨g.le_refl, Nat.le_refl _, r', fun _ _ e => ⟨e, rfl⟩, by rw [World.size_alloc]; omega, fun b hb _ => heap_alloc hb, (fun id b o z h1 h2 => by rw [h2] at h1; cases h1), fun id b o' z n cs e1 e2 => ⟨e2, heap_alloc (r.lt _ _ _ _ e1)⟩, rfl, rfl, rfl⟩
theorem loopOf_some {β : Type} {h : H} {id : Nat} {k : Nat → F → List Dst → CCode → CCode → Option X → Option β} {r : β} (e : h.loopOf id k = some r) : ∃ st f ps as bd j, h.blk id = some (.loop st f ps as bd j) ∧ k st f ps as bd j = some r := by
  obtain ⟨b, h1, h2⟩ := ob_some.1 (show ob (h.blk id) _ = some r from e)
  cases b with
  | loop st f ps as bd j => exact ⟨st, f, ps, as, bd, j, h1, h2⟩
  | _ => cases h2
/-- The record of a loop is turned. -/
theorem ext_loop {g : G} {h : H} {w : World} (r : WR T g h w) {id b o z : Nat} {st : Nat} {f : F} {ps : List Dst} {as bd : CCode} {j : Option X} {k' : Blk} {l l' : Loop} (hg : g id = some (b, o, z)) (hb : h.blk id = some (.loop st f ps as bd j)) (_hw : w.heap[b]? = some (.loop l)) (hk' : k'.kin = none)
    (hr : BR T g (w.putObj b (.loop l')) id k') : Ext T g h w g (h.set id k') (w.putObj b (.loop l')) :=
  Ext.upd r hg hb rfl rfl hk' (fun _ _ h => by cases h) (fun i hi => World.putObj_heap_other hi) World.putObj_size rfl rfl rfl hr
end
end Ev
end Go.Proofs.YtogbcielgfidlaaGreatDoor
namespace Go.Proofs.YtogbcielgfidlaaGreatDoor
set_option linter.unusedVariables false
set_option linter.unusedSimpArgs false
namespace Ev
variable [Opq]
set_option linter.unusedSectionVars false
section
variable {P : Program} {T : Ty} {m N : Nat} {D : List Deferred}

theorem Same.norm_inv {e : Exit} (h : Same .norm e) : e = .normal := by cases e <;> first | rfl | cases h
theorem exec_ok (hT : TyOk P T) {call : CallT} (hk : CallOk P T call) (hm : P.follows .mixedOrders = true) (n : Nat) (rd : Option Nat) : ∀ (c : Code) (cc : CCode), comp T m N c = some cc → ∀ (f : F) (h : H) (x : X) (f' : F) (h' : H), exec call rd.isSome n cc f h = some (x, f', h') →
    ∀ (g : G) (a : Act) (w : World) (B : Nat), WR T g h w → Glob T g h → FR g m N f a.tmps → (rd = none → Marks D g w B a.defers) → B ≤ w.heap.size → c.wpIn (fen rd) 0 P (Out D T m N rd B g h w x f' h') a w := by
  intro c
  induction c with
  | skip =>
    intro cc hc f h x f' h' hx g a w B r hG hf hM _
    rw [comp] at hc
    cases hc
    cases hx
    exact wpIn_skip ⟨g, .refl r, hf, hM, trivial⟩
  | label l =>
    intro cc hc f h x f' h' hx g a w B r hG hf hM _
    rw [comp] at hc
    cases hc
    cases hx
    exact wpIn_label ⟨g, .refl r, hf, hM, trivial⟩
  | region id ops d =>
    intro cc hc f h x f' h' hx g a w B r hG hf hM _
    cases d with
    | false =>
      rw [comp_reg] at hc
      rcases orBad_some hc with hc | rfl
      case inr => rw [exec_bad] at hx; cases hx
      obtain ⟨cl, h1, h2⟩ := ob_some.1 hc
      cases h2
      rw [exec_reg] at hx
      obtain ⟨q, h3, h4⟩ := ob_some.1 hx
      cases h4
      refine wpIn_region ?_
      rw [List.range_eq_range']
      have hlen : ops.size = ops.toList.length := by simp
      rw [hlen]
      refine reg_ok hT hk ops.toList 0 cl f q.1 h q.2 g a w (fun i _ => by rw [Nat.zero_add, Array.getElem?_toList]) h1 h3 r hG hf fun g' a' w' x1 x2 x3 => ⟨g', x1, x2.clr, fun e => ?_, trivial⟩
      rw [x3]
      exact (hM e).ext x1
    | true =>
      rw [comp_regD] at hc
      rcases orBad_some hc with hc | rfl
      case inr => rw [exec_bad] at hx; cases hx
      obtain ⟨cl, h1, h2⟩ := ob_some.1 hc
      obtain ⟨l, h3, h4⟩ := ob_some.1 h2
      cases h4
      rw [exec_regD] at hx
      obtain ⟨s, h5, h6⟩ := ob_some.1 hx
      obtain ⟨h7, h8⟩ := oif_some.1 h6
      cases h8
      refine draw_ok2 hT hk hm h1 h3 h5 h7 r hG hf fun g' a' w' x1 x2 x3 => ⟨g', x1, x2.clr, fun e => ?_, trivial⟩
      rw [x3]
      exact (hM e).ext x1
  | seq c1 c2 ih1 ih2 =>
    intro cc hc f h x f' h' hx g a w B r hG hf hM hB
    rw [comp_seq] at hc
    obtain ⟨cc1, h1, h2⟩ := ob_some.1 hc
    obtain ⟨cc2, h3, h4⟩ := ob_some.1 h2
    cases h4
    rw [exec_seq] at hx
    refine wpIn_seq ?_
    rcases thenN_some hx with ⟨f1, h1', k1, k2⟩ | ⟨k1, k2⟩
    · refine wpIn_mono (ih1 cc1 h1 f h .norm f1 h1' k1 g a w B r hG hf hM hB) ?_
      rintro e a1 w1 ⟨g1, x1, x2, x3, x4⟩
      rw [x4.norm_inv]
      refine wpIn_mono (ih2 cc2 h3 f1 h1' x f' h' k2 g1 a1 w1 B x1.wr (hG.ext x1) x2 x3 (Nat.le_trans hB x1.size)) ?_
      rintro e2 a2 w2 ⟨g2, y1, y2, y3, y4⟩
      exact ⟨g2, x1.trans y1, y2, y3, y4⟩
    · refine wpIn_mono (ih1 cc1 h1 f h x f' h' k1 g a w B r hG hf hM hB) ?_
      rintro e a1 w1 ⟨g1, x1, x2, x3, x4⟩
      cases e with
      | normal => cases x <;> first | (cases x4; done) | exact absurd rfl k2
      | _ => exact ⟨g1, x1, x2, x3, x4⟩
  | cond o c1 c2 ih1 ih2 =>
    intro cc hc f h x f' h' hx g a w B r hG hf hM hB
    rw [comp_cond] at hc
    obtain ⟨od, h0, h0'⟩ := ob_some.1 hc
    obtain ⟨cc1, h1, h2⟩ := ob_some.1 h0'
    obtain ⟨cc2, h3, h4⟩ := ob_some.1 h2
    cases h4
    rw [exec_cond] at hx
    obtain ⟨v, h5, h6⟩ := ob_some.1 hx
    cases v with
    | bool b =>
      have hv := (opd_ok hG h0 h5 fun t _ v hv => hf.2 t v hv).bool_inv
      refine wpIn_cond hv ?_
      cases b with
      | true => exact ih1 cc1 h1 f h x f' h' h6 g a w B r hG hf hM hB
      | false => exact ih2 cc2 h3 f h x f' h' h6 g a w B r hG hf hM hB
    | _ => cases h6
  | block id c ih =>
    intro cc hc f h x f' h' hx g a w B r hG hf hM hB
    rw [comp_block] at hc
    obtain ⟨cc1, h1, h2⟩ := ob_some.1 hc
    cases h2
    rw [exec_block] at hx
    obtain ⟨x0, f0, h0, k1, k2⟩ := blockX_some hx
    cases k2
    refine wpIn_block (wpIn_mono (ih cc1 h1 f h x0 f' h' k1 g a w B r hG hf hM hB) ?_)
    rintro e a1 w1 ⟨g1, x1, x2, x3, x4⟩
    cases x0 with
    | norm => rw [x4.norm_inv]; exact ⟨g1, x1, x2, x3, trivial⟩
    | ret =>
      cases e <;> first | (cases x4; done) | skip
      exact ⟨g1, x1, x2, x3, trivial⟩
    | exit j =>
      cases e <;> first | (cases x4; done) | skip
      have x4 : j = _ := x4
      subst x4
      show (if j = id then _ else _)
      by_cases e : j = id
      · rw [if_pos e]
        simp only [e, if_true]
        exact ⟨g1, x1, x2, x3, trivial⟩
      · rw [if_neg e]
        simp only [if_neg e]
        exact ⟨g1, x1, x2, x3, rfl⟩
  | scope c ih =>
    intro cc hc f h x f' h' hx g a w B r hG hf hM hB
    rw [comp_scope] at hc
    obtain ⟨cc1, h1, h2⟩ := ob_some.1 hc
    cases h2
    rw [exec_cond] at hx
    have hx : exec call rd.isSome n cc1 f h = some (x, f', h') := hx
    refine wpIn_scope (wpIn_mono (ih cc1 h1 f h x f' h' hx g a w B r hG hf hM hB) ?_)
    rintro e a1 w1 ⟨g1, x1, x2, x3, x4⟩
    cases e with
    | goto l => cases x <;> cases x4
    | _ => exact ⟨g1, x1, x2, x3, x4⟩
  | loop c ih =>
    intro cc hc f h x f' h' hx g a w B r hG hf hM hB
    rw [comp_loop] at hc
    obtain ⟨cc1, h1, h2⟩ := ob_some.1 hc
    cases h2
    rw [exec_loop] at hx
    refine wpIn_fuel (fun k a1 w1 => ∃ f1 h1 g1, loopN (exec call rd.isSome n cc1) k f1 h1 = some (x, f', h') ∧ Ext T g h w g1 h1 w1 ∧ FR g1 m N f1 a1.tmps ∧ (rd = none → Marks D g1 w1 B a1.defers)) ?_ (k := n) ⟨f, h, g, hx, .refl r, hf, hM⟩
    rintro k a1 w1 ⟨f1, h1', g1, k1, x1, x2, x3⟩
    cases k with
    | zero => cases k1
    | succ k =>
      rw [loopN_succ] at k1
      rcases thenN_some k1 with ⟨f2, h2', k2, k3⟩ | ⟨k2, k3⟩
      · refine wpIn_mono (ih cc1 h1 f1 h1' .norm f2 h2' k2 g1 a1 w1 B x1.wr (hG.ext x1) x2 x3 (Nat.le_trans hB x1.size)) ?_
        rintro e a2 w2 ⟨g2, y1, y2, y3, y4⟩
        rw [y4.norm_inv]
        exact ⟨k, Nat.lt_succ_self k, f2, h2', g2, k3, x1.trans y1, y2, y3⟩
      · refine wpIn_mono (ih cc1 h1 f1 h1' x f' h' k2 g1 a1 w1 B x1.wr (hG.ext x1) x2 x3 (Nat.le_trans hB x1.size)) ?_
        rintro e a2 w2 ⟨g2, y1, y2, y3, y4⟩
        cases e with
        | normal => cases x <;> first | (cases y4; done) | exact absurd rfl k3
        | _ => exact ⟨g2, x1.trans y1, y2, y3, y4⟩
  | rangeFunc fo ps as bd ih1 ih2 =>
    intro cc hc f h x f' h' hx g a w B r hG hf hM hB
    rw [comp_range] at hc
    obtain ⟨od, h0, h0'⟩ := ob_some.1 hc
    obtain ⟨cps, h0'', h0c⟩ := ob_some.1 h0'
    obtain ⟨cc1, h1, h2⟩ := ob_some.1 h0c
    obtain ⟨cc2, h3, h4⟩ := ob_some.1 h2
    cases h4
    rw [exec_range] at hx
    obtain ⟨k0, k1⟩ := oif_some.1 hx
    have hrd : rd = none := by cases rd with | none => rfl | some l => cases k0
    subst hrd
    obtain ⟨gv, k2, k3⟩ := ob_some.1 k1
    obtain ⟨k4, k5⟩ := oif_some.1 k3
    obtain ⟨hn1, k6, k7⟩ := ob_some.1 k5
    obtain ⟨q, k8, k9⟩ := ob_some.1 k7
    obtain ⟨st, f2, ps2, as2, bd2, j, m1, m2⟩ := loopOf_some k9
    obtain ⟨m3, m4⟩ := oif_some.1 m2
    cases m4
    have hgv := opd_ok (a := a) hG h0 k2 fun t _ v hv => hf.2 t v hv
    -- the two new blocks
    have xd := Ext.alloc r (.deferred (some []))
    have hnone : g h.next = none := by
      cases e : g h.next with
      | none => rfl
      | some y => exact absurd (r.dom _ _ e) (by omega)
    have hle := gput_le (g := g) ((w.alloc (.deferred (some []))).heap.size, 0, 0) hnone
    refine wpIn_rangeFunc fun fn _ => ?_
    have hw1 := heap_alloc_new (w.alloc (.deferred (some []))) (.loop { state := .ready, pending := none, fn, tmps := a.tmps, params := ps, assign := as, body := bd, defers := w.heap.size })
    have xl := Ext.new (z := 0) xd.wr (o := .loop { state := .ready, pending := none, fn, tmps := a.tmps, params := ps, assign := as, body := bd, defers := w.heap.size }) k6 (.inl rfl)
      ⟨_, 0, 0, _, m, N, gput_same _ _ _, hw1, rfl, rfl, hf.mono hle, h0'', h1, h3⟩
    have x1 := xd.trans xl
    have hsz : (w.alloc (.deferred (some []))).heap.size = w.heap.size + 1 := World.size_alloc _ _
    -- the call
    have hg1 : (gput g h.next ((w.alloc (.deferred (some []))).heap.size, 0, 0)) h.next = some (w.heap.size + 1, 0, 0) := by rw [gput_same, hsz]
    obtain ⟨d, c1, fx, us', c3, c4⟩ := callVal_fn hk x1.wr (hG.ext x1) k4 (hgv.mono x1.le) (VRs.cons (VR.yld hg1) .nil) k8
    · refine ⟨w.heap.size + 1, _, _, d, _, fx, us', _, run_enterLoop_outer fn a.tmps ps as bd, ?_, fun _ _ => trivial, c3 _, fen_depth _, callsIn_fen (c4.mono ?_)⟩
      · have := c1 ((w.alloc (.deferred (some []))).alloc (.loop { state := .ready, pending := none, fn, tmps := a.tmps, params := ps, assign := as, body := bd, defers := w.heap.size }))
        simpa [resolve, Act.eval] using this
      · rintro e w' ⟨g', u, rfl, hu, y⟩
        -- the record behind the call
        obtain ⟨b', o', z', lr, m', N', n1, n2, n3, n4, n5, n6, n7, n8⟩ := y.wr.blk h.next _ _ (y.le _ _ hg1) m1
        rw [y.le _ _ hg1] at n1
        cases n1
        have hbusy : lr.state ≠ .busy := by
          intro e
          rw [e] at n3
          subst n3
          cases m3
        have xe := ext_loop (k' := .dead) (l' := { lr with state := .exhausted }) y.wr (y.le _ _ hg1) m1 n2 rfl trivial
        have xt := (x1.trans y).trans xe
        have hmk : Marks D g' w' B (markOf w.heap.size :: a.defers) := by
          refine Marks.ext y (Marks.push x1 (hM rfl) hB (Nat.le_refl _) ?_ (fun id o z e => ?_) ?_)
          · rw [World.size_alloc, World.size_alloc]; omega
          · by_cases hi : id = h.next
            · subst hi
              rw [hg1] at e
              have := (Prod.mk.inj (Option.some.inj e)).1
              omega
            · rw [gput_ne _ hi] at e
              have := r.lt _ _ _ _ e
              omega
          · rw [heap_alloc (by rw [hsz]; omega)]
            exact heap_alloc_new w _
        refine ⟨lr.pending, _, run_endLoop n2 hbusy, ?_⟩
        have fin : ∀ {e : Exit}, Same (Option.rec (motive := fun _ => X) .norm id j) e → Out D T m N none B g h w (Option.rec (motive := fun _ => X) .norm id j) f (q.2.set h.next .dead) e { a with defers := markOf w.heap.size :: a.defers } (w'.putObj (w.heap.size + 1) (.loop { lr with state := .exhausted })) := fun hs =>
          ⟨g', xt, hf.mono xt.le, fun _ => hmk.ext xe, hs⟩
        split
        · rename_i hp
          cases j with
          | none => exact fin (e := .normal) trivial
          | some jx =>
            cases jx with
            | norm => cases n4
            | exit k => rw [hp] at n4; cases n4
            | ret => rw [hp] at n4; cases n4
        · rename_i c hp
          cases j with
          | none => rw [hp] at n4; cases n4
          | some jx =>
            cases jx with
            | norm => cases n4
            | exit k =>
              rw [hp] at n4
              cases n4
              exact wpIn_exit (fin (e := .exit k) rfl)
            | ret =>
              rw [hp] at n4
              cases n4
              exact wpIn_ret (fin (e := .ret) trivial)
  | exit id =>
    intro cc hc f h x f' h' hx g a w B r hG hf hM _
    rw [comp] at hc
    cases hc
    cases hx
    exact wpIn_exit ⟨g, .refl r, hf, hM, rfl⟩
  | ret =>
    intro cc hc f h x f' h' hx g a w B r hG hf hM _
    rw [comp] at hc
    cases hc
    cases hx
    exact wpIn_ret ⟨g, .refl r, hf, hM, trivial⟩
  | _ =>
    intro cc hc f h x f' h' hx
    rw [comp] at hc <;> first | (cases hc; rw [exec_bad] at hx; cases hx; done) | (intros; intro hh; cases hh)
end
end Ev
end Go.Proofs.YtogbcielgfidlaaGreatDoor
namespace Go.Proofs.YtogbcielgfidlaaGreatDoor
set_option linter.unusedVariables false
set_option linter.unusedSimpArgs false
namespace Ev
variable [Opq]
set_option linter.unusedSectionVars false
section
variable {P : Program} {T : Ty} {m N : Nat}

theorem binds_ok {g : G} : ∀ {ts : List Tmp} {ps : List Dst} {vs : List V} {us : List Value} {f f1 : F} {tmps : Array Value}, mapO (fun t => dst m N (some t)) ts = some ps → VRs g vs us → binds ps vs f = some f1 → FR g m N f tmps →
    us.length = ts.length ∧ FR g m N f1 ((ts.zip us).foldl (fun tmps p => tmps.setIfInBounds p.1 p.2) tmps)
  | [], ps, vs, us, f, f1, tmps, h, hv, hb, hf => by
    cases h
    cases hv with
    | nil => cases hb; exact ⟨rfl, hf⟩
    | cons => cases hb
  | t :: ts, ps, vs, us, f, f1, tmps, h, hv, hb, hf => by
    rw [mapO_cons] at h
    obtain ⟨d, h1, h2⟩ := ob_some.1 h
    obtain ⟨r, h3, h4⟩ := ob_some.1 h2
    cases h4
    cases hv with
    | nil => cases hb
    | cons hx hxs =>
      rename_i v u vs us
      have hput := FR.put (a := ⟨tmps, []⟩) (o := some t) hf h1 hx
      obtain ⟨k1, k2⟩ := binds_ok h3 hxs (show binds r vs (d.put f v) = some f1 from hb) hput
      exact ⟨by simp [k1], k2⟩
theorem wide_round (b : Nat) : Fence.wide.inRound b = fen (some b) := rfl
theorem round_ok (hT : TyOk P T) {call : CallT} (hk : CallOk P T call) (hm : P.follows .mixedOrders = true) (n : Nat) {id : Nat} {vs : List V} {h h' : H} {v : V} (hr : round call n id vs h = some (v, h')) {g : G} {w : World} {us : List Value} (r : WR T g h w) (hG : Glob T g h) (hv : VRs g vs us) : CallYld P T id us g h w v h' := by
  intro b o z hg
  obtain ⟨st, f, ps, as, bd, j, e1, e2⟩ := loopOf_some hr
  obtain ⟨e3, e4⟩ := oif_some.1 e2
  obtain ⟨f1, e5, e6⟩ := ob_some.1 e4
  obtain ⟨p, e7, e8⟩ := ob_some.1 e6
  obtain ⟨x1, f2, h1⟩ := p
  cases x1 with
  | exit k => cases e8
  | ret => cases e8
  | norm =>
    obtain ⟨st1, f3, ps3, as3, bd3, j3, e9, e10⟩ := loopOf_some (show h1.loopOf id _ = some (v, h') from e8)
    obtain ⟨e11, e12⟩ := oif_some.1 e10
    obtain ⟨q, e13, e14⟩ := ob_some.1 e12
    obtain ⟨x2, f4, h2⟩ := q
    obtain ⟨st2, f5, ps5, as5, bd5, j5, e15, e16⟩ := loopOf_some (show h2.loopOf id _ = some (v, h') from e14)
    obtain ⟨e17, e18⟩ := oif_some.1 e16
    obtain ⟨b', o', z', l, m, N, n1, n2, n3, n4, n5, n6, n7, n8⟩ := r.blk id _ _ hg e1
    rw [hg] at n1
    cases n1
    obtain ⟨k1, k2⟩ := binds_ok n6 hv e5 n5
    have hsz : us.toArray.size = l.params.size := by simpa using k1
    refine ⟨l, _, run_yield n2 hsz, roundIn_of_wpIn trivial ?_⟩
    rw [wide_round]
    have htm : (l.params.zip us.toArray).foldl (fun tmps x => tmps.setIfInBounds x.1 x.2) l.tmps = (l.params.toList.zip us).foldl (fun tmps p => tmps.setIfInBounds p.1 p.2) l.tmps := by
      rw [← Array.foldl_toList, Array.toList_zip]
    have hf1 : FR g m N f1 ((l.params.zip us.toArray).foldl (fun tmps x => tmps.setIfInBounds x.1 x.2) l.tmps) := by rw [htm]; exact k2
    refine wpIn_mono (exec_ok (D := []) hT hk hm n (some b) l.assign as n7 f1 h .norm f2 h1 e7 g ⟨_, []⟩ w 0 r hG hf1 (fun e => by cases e) (Nat.zero_le _)) ?_
    rintro e a1 w1 ⟨g1, y1, y2, _, y4⟩
    rw [y4.norm_inv]
    -- the record is taken
    obtain ⟨b1, o1, z1, l1, m1, N1, p1, p2, p3, p4, p5, p6, p7, p8⟩ := y1.wr.blk id _ _ (y1.le _ _ hg) e9
    rw [y1.le _ _ hg] at p1
    cases p1
    have hready : l1.state = .ready := by
      have : stOf l1.state = 0 := by rw [p3]; simpa using e11
      cases hs : l1.state <;> rw [hs] at this <;> first | rfl | cases this
    have xb := ext_loop (k' := .loop 1 f3 ps3 as3 bd3 j3) (l' := { l1 with state := .busy }) y1.wr (y1.le _ _ hg) e9 p2 rfl
      ⟨b, o, z, _, m1, N1, y1.le _ _ hg, World.putObj_heap_same (y1.wr.lt _ _ _ _ (y1.le _ _ hg)), rfl, p4, p5, p6, p7, p8⟩
    refine ⟨_, run_beginRound p2 hready, ?_⟩
    refine wpIn_mono (exec_ok (D := []) hT hk hm n (some b) l.body bd n8 f2 _ x2 f4 h2 e13 g1 a1 _ 0 xb.wr ((hG.ext y1).ext xb) (y2.mono xb.le) (fun e => by cases e) (Nat.zero_le _)) ?_
    rintro e2 a2 w2 ⟨g2, q1, q2, _, q4⟩
    -- the record behind the round
    have hg2 := q1.le _ _ (xb.le _ _ (y1.le _ _ hg))
    obtain ⟨b2, o2, z2, l2, m2, N2, s1, s2, s3, s4, s5, s6, s7, s8⟩ := q1.wr.blk id _ _ hg2 e15
    rw [hg2] at s1
    cases s1
    have hall := (y1.trans xb).trans q1
    have hlt := q1.wr.lt _ _ _ _ hg2
    have fin : ∀ (jump : Option Code) (st' : Nat) (jx : Option X), st' = stOf (if jump.isNone then .ready else .done) → jumpOf jx = some jump → v = .bool jump.isNone → h' = h2.set id (.loop st' f5 ps5 as5 bd5 jx) →
        ∃ u w3, (Instr.endRound b jump).run P w2 = .ok u w3 ∧ Post T g h w v h' (.returned u) w3 := by
      intro jump st' jx hst hjx hvv hhh
      have xe := ext_loop (k' := .loop st' f5 ps5 as5 bd5 jx) (l' := { l2 with state := if jump.isNone then .ready else .done, pending := jump }) q1.wr hg2 e15 s2 rfl
        ⟨b, o, z, _, m2, N2, hg2, World.putObj_heap_same hlt, hst.symm, hjx, s5, s6, s7, s8⟩
      refine ⟨_, _, run_endRound jump s2, g2, _, rfl, ?_, ?_⟩
      · rw [hvv]; exact .bool _
      · rw [hhh]; exact hall.trans xe
    cases x2 with
    | norm =>
      rw [q4.norm_inv]
      cases e18
      exact fin none 0 none rfl rfl rfl rfl
    | exit k =>
      cases e2 <;> first | (cases q4; done) | skip
      have q4 : k = _ := q4
      subst q4
      cases e18
      exact fin (some (.exit k)) 2 (some (.exit k)) rfl rfl rfl rfl
    | ret =>
      cases e2 <;> first | (cases q4; done) | skip
      cases e18
      exact fin (some .ret) 2 (some .ret) rfl rfl rfl rfl
/-- Marks are taken off. -/
theorem ext_put {g g' : G} {h h' : H} {w0 w : World} (x : Ext T g h w0 g' h' w) {r : Nat} (o : Obj) (h1 : w0.heap.size ≤ r) (h2 : ∀ id o z, g' id ≠ some (r, o, z)) : Ext T g h w0 g' h' (w.putObj r o) := by
  have hne : ∀ {id b o z}, g' id = some (b, o, z) → b ≠ r := fun hg e => h2 _ _ _ (e ▸ hg)
  have r' : WR T g' h' (w.putObj r o) := by
    refine ⟨x.wr.bound, x.wr.top, x.wr.dom, fun id b o' z e => by rw [World.putObj_size]; exact x.wr.lt _ _ _ _ e, fun id y b e1 e2 => ?_, x.wr.mates, x.wr.kids, x.wr.ext⟩
    obtain ⟨b', o', z⟩ := y
    exact BR.move e1 (World.putObj_heap_other (hne e1)) (x.wr.blk _ _ _ e1 e2)
  refine ⟨x.le, x.next, r', x.un, by rw [World.putObj_size]; exact x.size, fun b hb hn => ?_, x.fresh, fun id b o' z n cs e1 e2 => ?_, x.os, x.tape, x.output⟩
  · rw [World.putObj_heap_other (by omega)]
    exact x.keep b hb hn
  · obtain ⟨k1, k2⟩ := x.ro id b o' z n cs e1 e2
    exact ⟨k1, by rw [World.putObj_heap_other (hne (x.le _ _ e1))]; exact k2⟩
theorem leaves_ok {fn : Func} {tmps : Array Value} {g g' : G} {h h' : H} {w0 : World} {v : V} : ∀ {rs : List Nat} {w : World}, rs.Nodup → (∀ r ∈ rs, w0.heap.size ≤ r ∧ r < w.heap.size ∧ (∀ id o z, g' id ≠ some (r, o, z)) ∧ w.heap[r]? = some (.deferred (some []))) →
    Ext T g h w0 g' h' w → (∀ w, WR T g' h' w → ∃ u, VR g' v u ∧ (results fn tmps).run P w = .ok u w) → LeavesInM Fence.wide 0 P fn tmps (Post T g h w0 v h') (rs.map markOf) .returning w
  | [], w, _, _, x, hres => by
    obtain ⟨u, h1, h2⟩ := hres w x.wr
    exact ⟨u, h2, g', u, rfl, h1, x⟩
  | r :: rs, w, hn, hm, x, hres => by
    rw [List.nodup_cons] at hn
    obtain ⟨k1, k2, k3, k4⟩ := hm r List.mem_cons_self
    refine ⟨(fun e => by cases e), .inl ⟨r, _, rfl, run_takeDeferred k4, leaves_ok hn.2 (fun s hs => ?_) (ext_put x _ k1 k3) hres⟩⟩
    obtain ⟨q1, q2, q3, q4⟩ := hm s (List.mem_cons_of_mem _ hs)
    have hne : s ≠ r := fun e => hn.1 (e ▸ hs)
    exact ⟨q1, by rw [World.putObj_size]; exact q2, q3, by rw [World.putObj_heap_other hne]; exact q4⟩
/-- The results' variables. -/
noncomputable def resC (T : Ty) (m : Nat) (r : ResultVar) : Option CRes := match r with
  | .tmp t => ob (opd T m (.tmp t)) fun o => some (CRes.tmp o)
  | .cell t ty => ob (opd T m (.tmp t)) fun o => ob (aggT T ty) fun a => ob (sizeT T ty) fun n => some (CRes.cell o a n)
noncomputable def resV (f : F) (h : H) (c : CRes) : Option V := match c with
  | .tmp o => o.ev f
  | .cell o a n => ob (o.ev f) fun v => (ROp.load a n).run [v] h
def resRun (tmps : Array Value) (r : ResultVar) : Sem Value := match r with
  | .tmp t => pure (tmps.getD t undef)
  | .cell a t => do loadVar t (← asAddr (tmps.getD a undef))
theorem res_one (hT : TyOk P T) {g : G} {f : F} {h : H} {w : World} {tmps : Array Value} {r : ResultVar} {c : CRes} {v : V} (hc : resC T m r = some c) (hf : FR g m N f tmps) (he : resV f h c = some v) (hw : WR T g h w) :
    ∃ u, VR g v u ∧ (resRun tmps r).run P w = .ok u w := by
  cases r with
  | tmp t =>
    obtain ⟨o, h1, h2⟩ := ob_some.1 (show ob (opd T m (.tmp t)) (fun o => some (CRes.tmp o)) = some c from hc)
    cases h2
    have he : o.ev f = some v := he
    rw [opd_ev h1] at he
    obtain ⟨u, k1, k2⟩ := hf.2 t v he
    exact ⟨u, k2, by simp [resRun, Array.getD_eq_getD_getElem?, k1]⟩
  | cell t ty =>
    obtain ⟨o, h1, h2⟩ := ob_some.1 (show ob (opd T m (.tmp t)) (fun o => ob (aggT T ty) fun a => ob (sizeT T ty) fun n => some (CRes.cell o a n)) = some c from hc)
    obtain ⟨a, h3, h4⟩ := ob_some.1 h2
    obtain ⟨n, h5, h6⟩ := ob_some.1 h4
    cases h6
    obtain ⟨p, k1, k2⟩ := ob_some.1 (show ob (o.ev f) (fun v => (ROp.load a n).run [v] h) = some v from he)
    rw [opd_ev h1] at k1
    obtain ⟨pu, k3, k4⟩ := hf.2 t p k1
    obtain ⟨u, m1, m2, m3⟩ := gives_load (ρ := fun _ => pu) (x := .tmp t) hT hw h3 h5 (VRs.cons k4 .nil) k2
    have hp : ∃ ad, pu = .pointer (some ad) := by
      cases p with
      | ptr i j => cases k4; exact ⟨_, rfl⟩
      | _ => cases a <;> cases k2
    obtain ⟨ad, rfl⟩ := hp
    refine ⟨u, m1, ?_⟩
    simp [resRun, Array.getD_eq_getD_getElem?, k3, asAddr]
    exact m2
theorem resOf_cons (f : F) (h : H) (c : CRes) (l : List CRes) : resOf f h (c :: l) = ob (resV f h c) fun v => ob (resOf f h l) fun vs => some (v :: vs) := by
  cases c <;> rfl
theorem res_list (hT : TyOk P T) {g : G} {f : F} {h : H} {w : World} {tmps : Array Value} (hf : FR g m N f tmps) (hw : WR T g h w) : ∀ {rs : List ResultVar} {cs : List CRes} {vs : List V}, mapO (resC T m) rs = some cs → resOf f h cs = some vs →
    ∃ us, VRs g vs us ∧ (rs.mapM (resRun tmps)).run P w = .ok us w
  | [], cs, vs, hc, he => by
    cases hc
    cases he
    exact ⟨[], .nil, by simp⟩
  | r :: rs, cs, vs, hc, he => by
    rw [mapO_cons] at hc
    obtain ⟨c, h1, h2⟩ := ob_some.1 hc
    obtain ⟨cs', h3, h4⟩ := ob_some.1 h2
    cases h4
    rw [resOf_cons] at he
    obtain ⟨v, h5, h6⟩ := ob_some.1 he
    obtain ⟨vs', h7, h8⟩ := ob_some.1 h6
    cases h8
    obtain ⟨u, k1, k2⟩ := res_one hT h1 hf h5 hw
    obtain ⟨us, k3, k4⟩ := res_list hT hf hw h3 h7
    exact ⟨u :: us, .cons k1 k3, by simp [k2, k4]⟩
theorem oneOrTup_ok {g : G} {vs : List V} {us : List Value} (h : VRs g vs us) : VR g (oneOrTup vs) (if h : us.toArray.size = 1 then us.toArray[0] else .tuple us.toArray) := by
  cases h with
  | nil => exact .tup .nil
  | cons hv ht =>
    cases ht with
    | nil => exact hv
    | cons hv2 ht2 =>
      rw [dif_neg (by simp)]
      exact .tup (.cons hv (.cons hv2 ht2))
theorem results_ok (hT : TyOk P T) {g : G} {f : F} {h : H} {w : World} {tmps : Array Value} {fn : Func} (hf : FR g m N f tmps) (hw : WR T g h w) {cs : List CRes} {vs : List V} (hc : mapO (resC T m) fn.results.toList = some cs) (he : resOf f h cs = some vs) :
    ∃ u, VR g (oneOrTup vs) u ∧ (results fn tmps).run P w = .ok u w := by
  obtain ⟨us, k1, k2⟩ := res_list hT hf hw hc he
  refine ⟨_, oneOrTup_ok k1, ?_⟩
  have hfn : results fn tmps = (do let vs ← fn.results.mapM (resRun tmps); pure (if h : vs.size = 1 then vs[0] else .tuple vs)) := rfl
  rw [hfn, Array.mapM_eq_mapM_toList]
  simp [k2]
theorem numbered_cons (v : V) (l : List V) (i : Nat) : numbered (v :: l) i = (i, v) :: numbered l (i + 1) := rfl
theorem lk_numbered : ∀ (l : List V) (i t : Nat), lk (numbered l i) t = if i ≤ t then l[t - i]? else none
  | [], i, t => by
    show none = _
    simp
  | v :: l, i, t => by
    rw [numbered_cons, lk_cons, lk_numbered l (i + 1) t]
    by_cases h : i = t
    · subst h
      simp
    · by_cases h2 : i + 1 ≤ t
      · rw [if_neg h, if_pos h2, if_pos (by omega), show t - i = (t - (i + 1)) + 1 by omega, List.getElem?_cons_succ]
      · rw [if_neg h, if_neg h2, if_neg (by omega)]
theorem enter_ok (hT : TyOk P T) {call : CallT} (hk : CallOk P T call) (hm : P.follows .mixedOrders = true) (n : Nat) {f : FuncId} {fn : Func} {cf : CF} {vs : List V} {h h' : H} {v : V} (hfn : P.funcs[f]? = some fn) (hcf : compF T fn = some cf) (hr : enter call n cf vs h = some (v, h')) {g : G} {w : World} {us : List Value} (r : WR T g h w) (hG : Glob T g h) (hv : VRs g vs us) :
    CallsIn Fence.wide 0 P f us.toArray w (Post T g h w v h') := by
  obtain ⟨c, e1, e2⟩ := ob_some.1 (show ob fn.body _ = some cf from hcf)
  obtain ⟨e3, e4⟩ := oif_some.1 e2
  obtain ⟨cc, e5, e6⟩ := ob_some.1 e4
  obtain ⟨rs, e7, e8⟩ := ob_some.1 e6
  cases e8
  generalize hmm : maskOf c (fn.results.toList.foldl (fun m r => match r with | .tmp t => addBit m t | .cell t _ => addBit m t) ((List.range (fn.params.size + fn.nfree)).foldl addBit 0)) = m at e5 e7
  have e7' : mapO (resC T m) fn.results.toList = some rs := e7
  obtain ⟨k1, k2⟩ := oif_some.1 (show oif (Nat.beq (lenL vs) (fn.params.size + fn.nfree)) _ = some (v, h') from hr)
  obtain ⟨q, k3, k4⟩ := ob_some.1 k2
  obtain ⟨x, f1, h1⟩ := q
  rw [lenL_eq] at k1
  have hlen := hv.length
  have k1' : vs.length = fn.params.size + fn.nfree := by simpa using k1
  have e3' : fn.params.size + fn.nfree ≤ fn.ntmps := by simpa using e3
  have hus : us.length ≤ fn.ntmps := by omega
  have htoo : ∀ (f1 : F) (h1 : H), (∃ l, resOf f1 h1 rs = some l ∧ v = oneOrTup l ∧ h' = h1) → True := fun _ _ _ => trivial
  clear htoo
  have hF : FR g m fn.ntmps ⟨numbered vs 0, []⟩ (us.toArray ++ Array.replicate (fn.ntmps - us.toArray.size) undef) := by
    refine ⟨by simp; omega, fun t x e => ?_⟩
    unfold rdn at e
    split at e
    · have e : lk (numbered vs 0) t = some x := e
      rw [lk_numbered, if_pos (Nat.zero_le _)] at e
      obtain ⟨u, m1, m2⟩ := hv.get e
      refine ⟨u, ?_, m2⟩
      have ht : t < us.length := by
        rcases Nat.lt_or_ge t us.length with k | k
        · exact k
        · rw [List.getElem?_eq_none (by omega)] at m1; cases m1
      rw [Array.getElem?_append_left (by simpa using ht)]
      simpa using m1
    · cases e
  refine callsIn_of_wp_marks hfn e1 trivial ?_
  have hex := exec_ok (D := []) hT hk hm n none c cc e5 _ h x f1 h1 k3 g ⟨us.toArray ++ Array.replicate (fn.ntmps - us.toArray.size) undef, []⟩ w w.heap.size r hG hF (fun _ => .nil) (Nat.le_refl _)
  refine wpIn_mono hex ?_
  rintro e a' w' ⟨g', y1, y2, y3, y4⟩
  have leave : ∀ {l : List V}, resOf f1 h1 rs = some l → v = oneOrTup l → h' = h1 → LeavesInM Fence.wide 0 P fn a'.tmps (Post T g h w v h') a'.defers .returning w' := by
    intro l hl hvv hhh
    subst hvv hhh
    obtain ⟨ms, p1, p2, p3⟩ := y3 rfl
    rw [p1, List.append_nil]
    exact leaves_ok p2 p3 y1 fun w2 hw2 => results_ok hT y2 hw2 e7' hl
  cases x with
  | exit j => cases k4
  | norm =>
    obtain ⟨l, m1, m2⟩ := ob_some.1 (show ob (resOf f1 h1 rs) (fun l => some (oneOrTup l, h1)) = some (v, h') from k4)
    cases m2
    rw [y4.norm_inv]
    exact leave m1 rfl rfl
  | ret =>
    obtain ⟨l, m1, m2⟩ := ob_some.1 (show ob (resOf f1 h1 rs) (fun l => some (oneOrTup l, h1)) = some (v, h') from k4)
    cases m2
    cases e <;> first | (cases y4; done) | skip
    exact leave m1 rfl rfl
/-- What is known of functions beforehand is so. -/
def PrimOk (P : Program) (T : Ty) (prim : FuncId → Option (List V → H → Option (V × H))) : Prop :=
  ∀ f p, prim f = some p → ∀ vs h v h', p vs h = some (v, h') → ∀ g w us, WR T g h w → Glob T g h → VRs g vs us → CallFn P T f us g h w v h'
/-- The table holds the program's functions. -/
def TabOk (P : Program) (T : Ty) (tab : FuncId → Option CF) : Prop :=
  ∀ f cf, tab f = some cf → ∃ fn, P.funcs[f]? = some fn ∧ fn.name ≠ "runtime.NumGoroutine" ∧ compF T fn = some cf
theorem orec_some {α β : Type} {o : Option α} {n : Option β} {s : α → Option β} {r : β} (h : (Option.rec (motive := fun _ => Option β) n s o : Option β) = some r) : (o = none ∧ n = some r) ∨ ∃ a, o = some a ∧ s a = some r := by
  cases o with
  | none => exact .inl ⟨rfl, h⟩
  | some a => exact .inr ⟨a, rfl, h⟩
theorem callN_ok (hT : TyOk P T) (hm : P.follows .mixedOrders = true) {prim : FuncId → Option (List V → H → Option (V × H))} {tab : FuncId → Option CF} (hp : PrimOk P T prim) (ht : TabOk P T tab) : ∀ n, CallOk P T (callN prim tab n)
  | 0 => ⟨(fun f vs h v h' e => by cases e), (fun id vs h v h' e => by cases e)⟩
  | n + 1 => by
    have ih := callN_ok hT hm hp ht n
    have go : ∀ {f vs h v h'}, (ob (tab f) fun cf => enter (callN prim tab n) 1000000 cf vs h) = some (v, h') → ∀ g w us, WR T g h w → Glob T g h → VRs g vs us → CallFn P T f us g h w v h' := by
      intro f vs h v h' e g w us r hG hv
      obtain ⟨cf, e1, e2⟩ := ob_some.1 e
      obtain ⟨fn, k1, k2, k3⟩ := ht f cf e1
      refine ⟨fn, k1, k2, ?_, enter_ok hT ih hm 1000000 k1 k3 e2 r hG hv⟩
      obtain ⟨c, m1, _⟩ := ob_some.1 (show ob fn.body _ = some cf from k3)
      rw [m1]
      rfl
    refine ⟨fun f vs h v h' e g w us r hG hv => ?_, fun id vs h v h' e g w us r hG hv => ?_⟩
    · have e : (Option.rec (motive := fun _ => Option (V × H)) (ob (tab f) fun cf => enter (callN prim tab n) 1000000 cf vs h)
        (fun g => Option.rec (motive := fun _ => Option (V × H)) (ob (tab f) fun cf => enter (callN prim tab n) 1000000 cf vs h) some (g vs h)) (prim f) : Option (V × H)) = some (v, h') := e
      rcases orec_some e with ⟨_, e1⟩ | ⟨p, e1, e2⟩
      · exact go e1 g w us r hG hv
      · rcases orec_some e2 with ⟨_, e3⟩ | ⟨q, e3, e4⟩
        · exact go e3 g w us r hG hv
        · cases e4
          exact hp f p e1 vs h v h' e3 g w us r hG hv
    · have e : round (callN prim tab n) 1000000 id vs h = some (v, h') := e
      exact round_ok hT ih hm 1000000 e r hG hv
end
end Ev
end Go.Proofs.YtogbcielgfidlaaGreatDoor
