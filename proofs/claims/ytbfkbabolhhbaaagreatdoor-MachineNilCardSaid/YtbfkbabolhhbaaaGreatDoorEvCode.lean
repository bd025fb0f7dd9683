/-
  Code, as the compiled code has it.
-/
import Derived.Test.YtbfkbabolhhbaaaGreatDoorEvDraw6
namespace Go.Proofs.YtbfkbabolhhbaaaGreatDoor
namespace Ev
variable [Opq]
set_option linter.unusedSectionVars false
section
variable {P : Program} {T : Ty} {m N : Nat}

/-- The marks of ranges over functions, among the deferred calls. -/
def markOf (r : Nat) : Deferred := { target := .collected r, args := #[] }
def Marks (D : List Deferred) (g : G) (w : World) (B : Nat) (ds : List Deferred) : Prop :=
  ∃ rs : List Nat, ds = rs.map markOf ++ D ∧ rs.Nodup ∧ ∀ r ∈ rs, B ≤ r ∧ r < w.heap.size ∧ (∀ id o z, g id ≠ some (r, o, z)) ∧ w.heap[r]? = some (.deferred (some []))
theorem Marks.nil {D : List Deferred} {g : G} {w : World} {B : Nat} : Marks D g w B D := ⟨[], rfl, List.nodup_nil, by simp⟩
theorem Marks.ext {D : List Deferred} {g g' : G} {h h' : H} {w w' : World} {B : Nat} {ds : List Deferred} (x : Ext T g h w g' h' w') (k : Marks D g w B ds) : Marks D g' w' B ds := by
  obtain ⟨rs, h1, h2, h3⟩ := k
  refine ⟨rs, h1, h2, fun r hr => ?_⟩
  obtain ⟨k1, k2, k3, k4⟩ := h3 r hr
  refine ⟨k1, Nat.lt_of_lt_of_le k2 x.size, fun id o z e => ?_, (x.keep r k2 k3).trans k4⟩
  cases hg : g id with
  | some y => rw [x.le _ _ hg] at e; cases e; exact k3 id o z hg
  | none =>
    rcases x.fresh id r o z e hg with h | ⟨i, o', z', h⟩
    · omega
    · exact k3 i o' z' h
theorem Marks.push {D : List Deferred} {g g' : G} {h h' : H} {w w' : World} {B r : Nat} {ds : List Deferred} (x : Ext T g h w g' h' w') (k : Marks D g w B ds) (h1 : B ≤ r) (h2 : w.heap.size ≤ r) (h3 : r < w'.heap.size) (h4 : ∀ id o z, g' id ≠ some (r, o, z)) (h5 : w'.heap[r]? = some (.deferred (some []))) : Marks D g' w' B (markOf r :: ds) := by
  obtain ⟨rs, q1, q2, q3⟩ := k
  have k' : ∀ s ∈ rs, B ≤ s ∧ s < w'.heap.size ∧ (∀ id o z, g' id ≠ some (s, o, z)) ∧ w'.heap[s]? = some (.deferred (some [])) := by
    intro s hs
    have one : Marks [] g w B [markOf s] := ⟨[s], rfl, by simp, fun y hy => by rw [List.mem_singleton] at hy; subst hy; exact q3 y hs⟩
    obtain ⟨rs', p1, p2, p3⟩ := one.ext x
    rw [List.append_nil] at p1
    cases rs' with
    | nil => cases p1
    | cons y rs' =>
      have : s = y := by
        have e := (List.cons.inj p1).1
        simpa [markOf] using e
      subst this
      exact p3 s List.mem_cons_self
  refine ⟨r :: rs, by rw [q1]; rfl, ?_, fun s hs => ?_⟩
  · rw [List.nodup_cons]
    exact ⟨fun hm => by have := (q3 _ hm).2.1; omega, q2⟩
  · rcases List.mem_cons.1 hs with h | h
    · subst h
      exact ⟨h1, h3, h4, h5⟩
    · exact k' s h
/-- A way out, on both sides. -/
def Same : X → Exit → Prop
  | .norm, .normal => True
  | .exit i, .exit j => i = j
  | .ret, .ret => True
  | _, _ => False
/-- What code comes to. -/
def Out (D : List Deferred) (T : Ty) (m N : Nat) (rd : Option Nat) (B : Nat) (g : G) (h : H) (w : World) (x : X) (f' : F) (h' : H) (e : Exit) (a' : Act) (w' : World) : Prop :=
  ∃ g', Ext T g h w g' h' w' ∧ FR g' m N f' a'.tmps ∧ (rd = none → Marks D g' w' B a'.defers) ∧ Same x e
theorem FR.clr {g : G} {f : F} {tmps : Array Value} (h : FR g m N f tmps) : FR g m N (clr f) tmps := by
  refine ⟨h.1, fun t v e => h.2 t v ?_⟩
  unfold rdn at e ⊢
  split at e
  · rename_i hb
    rw [if_pos hb]
    exact e
  · cases e
theorem comp_seq (a b : Code) : comp T m N (.seq a b) = ob (comp T m N a) fun a => ob (comp T m N b) fun b => some (.seq a b) := by rw [comp]
theorem comp_reg (id : Nat) (ops : Array Oper) : comp T m N (.region id ops false) = orBad (ob (mapO (compOper T m N ops) ops.toList) fun l => some (.reg l)) := by rw [comp]
theorem comp_regD (id : Nat) (ops : Array Oper) : comp T m N (.region id ops true) = orBad (ob (mapO (compOper T m N ops) ops.toList) fun l => ob (compD T l ops) fun l => some (.regD l)) := by rw [comp]
theorem orBad_some {o : Option CCode} {c : CCode} (h : orBad o = some c) : o = some c ∨ c = badC := by
  cases o with
  | none => cases h; exact .inr rfl
  | some x => cases h; exact .inl rfl
theorem exec_bad (call : CallT) (rd : Bool) (n : Nat) (f : F) (h : H) : exec call rd n badC f h = none := rfl
theorem comp_cond (o : Operand) (a b : Code) : comp T m N (.cond o a b) = ob (opd T m o) fun o => ob (comp T m N a) fun a => ob (comp T m N b) fun b => some (.cond o a b) := by rw [comp]
theorem comp_block (id : Nat) (c : Code) : comp T m N (.block id c) = ob (comp T m N c) fun c => some (.block id c) := by rw [comp]
theorem comp_loop (c : Code) : comp T m N (.loop c) = ob (comp T m N c) fun c => some (.loop c) := by rw [comp]
theorem comp_range (f : Operand) (ps : Array Tmp) (a b : Code) : comp T m N (.rangeFunc f ps a b) = ob (opd T m f) fun f => ob (mapO (fun t => dst m N (some t)) ps.toList) fun ps => ob (comp T m N a) fun a => ob (comp T m N b) fun b => some (.rangeF f ps a b) := by rw [comp]

theorem exec_reg (call : CallT) (rd : Bool) (n : Nat) (ops : List COper) (f : F) (h : H) : exec call rd n (.reg ops) f h = ob (runOps call ops f h) fun r => some (.norm, clr r.1, r.2) := rfl
theorem exec_regD (call : CallT) (rd : Bool) (n : Nat) (ops : List COper) (f : F) (h : H) : exec call rd n (.regD ops) f h = ob (runOpsD call ops ⟨f, h, [], []⟩) fun s => oif (Bool.rec (motive := fun _ => Bool) (checkAll s.cs (revL s.hs [s.h])) true (quiet ops)) (some (.norm, clr s.f, s.h)) := rfl
theorem exec_seq (call : CallT) (rd : Bool) (n : Nat) (a b : CCode) (f : F) (h : H) : exec call rd n (.seq a b) f h = thenN (exec call rd n a f h) (exec call rd n b) := rfl
theorem exec_cond (call : CallT) (rd : Bool) (n : Nat) (o : Opd) (a b : CCode) (f : F) (h : H) : exec call rd n (.cond o a b) f h = ob (o.ev f) fun v => match v with
      | .bool c => Bool.rec (motive := fun _ => Res) (exec call rd n b f h) (exec call rd n a f h) c
      | _ => none := rfl
theorem exec_block (call : CallT) (rd : Bool) (n id : Nat) (c : CCode) (f : F) (h : H) : exec call rd n (.block id c) f h = blockX id (exec call rd n c f h) := rfl
theorem exec_loop (call : CallT) (rd : Bool) (n : Nat) (c : CCode) (f : F) (h : H) : exec call rd n (.loop c) f h = loopN (exec call rd n c) n f h := rfl
theorem exec_range (call : CallT) (rd : Bool) (n : Nat) (g : Opd) (ps : List Dst) (as bd : CCode) (f : F) (h : H) : exec call rd n (.rangeF g ps as bd) f h = (oif (!rd) <|
      ob (g.ev f) fun gv => oif (fnOnly gv) <| ob (h.new (.loop 0 f ps as bd none)) fun h1 => ob (callVal call [gv, .yld h.next] h1) fun r =>
      r.2.loopOf h.next fun st _ _ _ _ j => oif (!Nat.beq st 1) (some (Option.rec (motive := fun _ => X) .norm id j, f, r.2.set h.next .dead))) := rfl
theorem loopN_succ (body : F → H → Res) (n : Nat) (f : F) (h : H) : loopN body (n + 1) f h = thenN (body f h) (loopN body n) := rfl
theorem thenN_some {o : Res} {k : F → H → Res} {r : X × F × H} (h : thenN o k = some r) : (∃ f h', o = some (.norm, f, h') ∧ k f h' = some r) ∨ (o = some r ∧ r.1 ≠ .norm) := by
  obtain ⟨q, h1, h2⟩ := ob_some.1 (show ob o _ = some r from h)
  obtain ⟨x, f, h'⟩ := q
  cases x with
  | norm => exact .inl ⟨f, h', h1, h2⟩
  | exit id => have h2 : o = some r := h2; rw [h1] at h2; cases h2; exact .inr ⟨h1, fun e => by cases e⟩
  | ret => have h2 : o = some r := h2; rw [h1] at h2; cases h2; exact .inr ⟨h1, fun e => by cases e⟩
theorem blockX_some {id : Nat} {o : Res} {r : X × F × H} (h : blockX id o = some r) : ∃ x f h', o = some (x, f, h') ∧ r = (match x with | .exit j => if j = id then .norm else .exit j | x => x, f, h') := by
  obtain ⟨q, h1, h2⟩ := ob_some.1 (show ob o _ = some r from h)
  obtain ⟨x, f, h'⟩ := q
  cases x with
  | norm => have h2 : o = some r := h2; rw [h1] at h2; cases h2; exact ⟨_, _, _, h1, rfl⟩
  | ret => have h2 : o = some r := h2; rw [h1] at h2; cases h2; exact ⟨_, _, _, h1, rfl⟩
  | exit j =>
    have h2 : (Bool.rec (motive := fun _ => Res) o (some (.norm, f, h')) (Nat.beq j id) : Res) = some r := h2
    rw [brec_eq] at h2
    refine ⟨_, _, _, h1, ?_⟩
    split at h2
    · rename_i hb
      cases h2
      have : j = id := by simpa using hb
      simp [this]
    · rename_i hb
      rw [h1] at h2
      cases h2
      have : ¬ j = id := by simpa using hb
      simp [this]
/-- A loop, its rounds counted. -/
theorem wpIn_fuel {F : Fence} {n : Nat} {c : Code} {Q : Exit → Act → World → Prop} (I : Nat → Act → World → Prop) (round : ∀ k a w, I k a w → c.wpIn F n P (Exit.then (fun a' w' => ∃ k', k' < k ∧ I k' a' w') Q) a w) {k : Nat} {a : Act} {w : World} (h₀ : I k a w) : (Code.loop c).wpIn F n P Q a w := by
  intro b kk cs hro hb hr
  have key : ∀ j a w, I j a w →
      ∃ e a' w', Q e a' w' ∧ ArrivesIn (Machine.fenced P F) P (lone (b.atR a (.code c :: .inLoop c :: kk)) cs w) b kk cs e a' w' := by
    intro j
    induction j using Nat.strongRecOn with
    | _ j ih =>
      intro a w hI
      obtain ⟨e, a₁, w₁, hq, harr⟩ := round j a w hI b (.inLoop c :: kk) cs hro hb hr
      cases e with
      | normal =>
        obtain ⟨k', hlt, hI₁⟩ := hq
        obtain ⟨e₂, a₂, w₂, hq₂, harr₂⟩ := ih k' hlt a₁ w₁ hI₁
        exact ⟨e₂, a₂, w₂, hq₂, .of_steps (StepsIn.trans harr (.one (fenced_calm hb hr rfl) stepR_inLoop)) harr₂⟩
      | exit id => exact ⟨_, a₁, w₁, hq, .pass (x := .inLoop c) rfl (fun _ _ => .inl (by simp)) harr⟩
      | goto l => exact ⟨_, a₁, w₁, hq, .pass (x := .inLoop c) rfl (fun _ _ => .inl (by simp)) harr⟩
      | ret => exact ⟨_, a₁, w₁, hq, .pass (x := .inLoop c) rfl (fun _ _ => .inl (by simp)) harr⟩
      | panic ch => exact ⟨_, a₁, w₁, hq, .pass (x := .inLoop c) rfl (fun _ _ => .inl (by simp)) harr⟩
      | outgrown => exact ⟨_, a₁, w₁, hq, .pass (x := .inLoop c) rfl (fun _ _ => .inl (by simp)) harr⟩
  obtain ⟨e, a', w', hq, harr⟩ := key _ a w h₀
  exact ⟨e, a', w', hq, .of_steps (.one (fenced_calm hb hr rfl) stepR_loop) harr⟩
theorem Ext.alloc {g : G} {h : H} {w : World} (r : WR T g h w) (o : Obj) : Ext T g h w g h (w.alloc o) := by
  have r' : WR T g h (w.alloc o) := by
    refine ⟨r.bound, r.top, r.dom, fun id b o' z e => by rw [World.size_alloc]; have := r.lt _ _ _ _ e; omega, fun id x b e1 e2 => ?_, r.mates, r.kids, r.ext⟩
    obtain ⟨b', o', z⟩ := x
    exact BR.move e1 (heap_alloc (r.lt _ _ _ _ e1)) (r.blk _ _ _ e1 e2)
  exact ⟨g.le_refl, Nat.le_refl _, r', fun _ _ e => ⟨e, rfl⟩, by rw [World.size_alloc]; omega, fun b hb _ => heap_alloc hb, (fun id b o z h1 h2 => by rw [h2] at h1; cases h1), fun id b o' z n cs e1 e2 => ⟨e2, heap_alloc (r.lt _ _ _ _ e1)⟩, rfl, rfl, rfl⟩
theorem loopOf_some {β : Type} {h : H} {id : Nat} {k : Nat → F → List Dst → CCode → CCode → Option X → Option β} {r : β} (e : h.loopOf id k = some r) : ∃ st f ps as bd j, h.blk id = some (.loop st f ps as bd j) ∧ k st f ps as bd j = some r := by
  obtain ⟨b, h1, h2⟩ := ob_some.1 (show ob (h.blk id) _ = some r from e)
  cases b with
  | loop st f ps as bd j => exact ⟨st, f, ps, as, bd, j, h1, h2⟩
  | _ => cases h2
/-- The record of a loop is turned. -/
theorem ext_loop {g : G} {h : H} {w : World} (r : WR T g h w) {id b o z : Nat} {st : Nat} {f : F} {ps : List Dst} {as bd : CCode} {j : Option X} {k' : Blk} {l l' : Loop} (hg : g id = some (b, o, z)) (hb : h.blk id = some (.loop st f ps as bd j)) (_hw : w.heap[b]? = some (.loop l)) (hk' : k'.kin = none)
    (hr : BR T g (w.putObj b (.loop l')) id k') : Ext T g h w g (h.set id k') (w.putObj b (.loop l')) :=
  Ext.upd r hg hb rfl rfl hk' (fun _ _ h => by cases h) (fun i hi => World.putObj_heap_other hi) World.putObj_size rfl rfl rfl hr
end
end Ev
end Go.Proofs.YtbfkbabolhhbaaaGreatDoor
