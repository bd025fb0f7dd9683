/-
  Is this value, in this memory, that tree? (No deep recursion along a slice's cells.)
-/
import Derived.Test.YtbfkbabolhhbaaaGreatDoorEvMemo
namespace Go.Proofs.YtbfkbabolhhbaaaGreatDoor
namespace Ev
variable [Opq]
set_option linter.unusedSectionVars false
noncomputable section
def tSl (p : Nat → Nat → Nat → Nat → Bool → Nat → Bool) (v : V) : Bool :=
  V.rec (motive_1 := fun _ => Bool) (motive_2 := fun _ => Unit) (fun _ => false) (fun _ _ => false) (fun _ _ => false) false (fun _ _ => false) false p false (fun _ => false) (fun _ _ _ _ _ => false) (fun _ => false) false (fun _ _ _ => false) false (fun _ _ => false) (fun _ _ => false) () (fun _ _ _ _ => ()) v
def tt2 (a b : Bool) : Bool := Bool.rec (motive := fun _ => Bool) false b a
def tTup (p : List V → Bool) (v : V) : Bool :=
  V.rec (motive_1 := fun _ => Bool) (motive_2 := fun _ => Unit) (fun _ => false) (fun _ _ => false) (fun _ _ => false) false (fun _ _ => false) false (fun _ _ _ _ _ _ => false) false (fun _ => false) (fun _ _ _ _ _ => false) (fun _ => false) false (fun _ _ _ => false) false (fun _ _ => false) (fun cs _ => p cs) () (fun _ _ _ _ => ()) v
def exOk (ex : Option Nat) (len cap : Nat) (e : Bool) : Bool :=
  Option.rec (motive := fun _ => Bool) (Bool.rec (motive := fun _ => Bool) true false e) (fun c => tt2 e (tt2 (Nat.beq c cap) (Nat.blt 0 len || Nat.beq cap 0))) ex
def sameSl (ro : Bool) (len es : Nat) (ex : Option Nat) (k : Nat → H → (Nat → Option V) → Nat → Nat → Bool → Bool) (lo : Nat) (h : H) (v : V) : Bool :=
  tSl (fun id off len' cap ex' es' => tt2 (Nat.beq len len') (tt2 (Nat.beq es es') (tt2 (Nat.blt 0 es) (tt2 (exOk ex len cap ex') (tt2 (Nat.ble lo id) (tt2 (h.isC id || ro)
    (Option.rec (motive := fun _ => Bool) false (fun b => k lo h (fun j => Bool.rec (motive := fun _ => Option V) none (b.2.get j) (Nat.blt j b.1)) off (Nat.add off (Nat.mul len es)) true) (h.cells id))))))) ) v
def sameC (d : D) (s : V → Bool) (k : Nat → Bool) (get : Nat → Option V) (j : Nat) (one : Bool) : Bool :=
  Option.rec (motive := fun _ => Bool) false (fun y => tt2 (Bool.rec (motive := fun _ => Bool) true d.one one) (tt2 (s y) (k (Nat.succ j)))) (get j)
def sameD (ro : Bool) (d : D) : Nat → H → V → Bool := D.rec (motive_1 := fun _ => Nat → H → V → Bool) (motive_2 := fun _ => Nat → H → (Nat → Option V) → Nat → Nat → Bool → Bool)
  (fun x _ _ v => tt2 (flat x) (eqF x v))
  (fun len es ex _ ih => sameSl ro len es ex ih)
  (fun _ ih lo h v => tAgg (fun l => ih lo h (nthL l) 0 (lenL l) false) v)
  (fun _ ih lo h v => tTup (fun l => ih lo h (nthL l) 0 (lenL l) false) v)
  (fun _ _ _ j e _ => Nat.beq j e)
  (fun d _ i1 i2 lo h get j e one => sameC d (i1 lo h) (fun j => i2 lo h get j e one) get j one) d
def sameL (ro : Bool) (cs : List D) : Nat → H → (Nat → Option V) → Nat → Nat → Bool → Bool :=
  List.rec (motive := fun _ => Nat → H → (Nat → Option V) → Nat → Nat → Bool → Bool) (fun _ _ _ j e _ => Nat.beq j e) (fun d _ i2 lo h get j e one => sameC d (sameD ro d lo h) (fun j => i2 lo h get j e one) get j one) cs
end
theorem tt2_and {a b : Bool} : tt2 a b = true ↔ a = true ∧ b = true := by cases a <;> cases b <;> simp [tt2]
theorem sameL_cons (ro : Bool) (d : D) (cs : List D) (lo : Nat) (h : H) (get : Nat → Option V) (j e : Nat) (one : Bool)   : sameL ro (d :: cs) lo h get j e one = sameC d (sameD ro d lo h) (fun j => sameL ro cs lo h get j e one) get j one := rfl
theorem sameL_eq (ro : Bool) (cs : List D) : sameL ro cs = D.rec_1 (motive_1 := fun _ => Nat → H → V → Bool) (motive_2 := fun _ => Nat → H → (Nat → Option V) → Nat → Nat → Bool → Bool)
  (fun x _ _ v => tt2 (flat x) (eqF x v))
  (fun len es ex _ ih => sameSl ro len es ex ih)
  (fun _ ih lo h v => tAgg (fun l => ih lo h (nthL l) 0 (lenL l) false) v)
  (fun _ ih lo h v => tTup (fun l => ih lo h (nthL l) 0 (lenL l) false) v)
  (fun _ _ _ j e _ => Nat.beq j e)
  (fun d _ i1 i2 lo h get j e one => sameC d (i1 lo h) (fun j => i2 lo h get j e one) get j one) cs := by
  induction cs with
  | nil => rfl
  | cons d cs ih => funext lo h get j e one; rw [sameL_cons, ih]; rfl
theorem same_sl (ro : Bool) (len es : Nat) (ex : Option Nat) (cs : List D) : sameD ro (.sl len es ex cs) = sameSl ro len es ex (sameL ro cs) := by rw [sameL_eq]; rfl
theorem same_agg (ro : Bool) (cs : List D) (lo : Nat) (h : H) (v : V) : sameD ro (.agg cs) lo h v = tAgg (fun l => sameL ro cs lo h (nthL l) 0 (lenL l) false) v := by rw [sameL_eq]; rfl
theorem same_tup (ro : Bool) (cs : List D) (lo : Nat) (h : H) (v : V) : sameD ro (.tup cs) lo h v = tTup (fun l => sameL ro cs lo h (nthL l) 0 (lenL l) false) v := by rw [sameL_eq]; rfl
theorem nthL_get {α : Type} : ∀ (l : List α) (i : Nat), nthL l i = l[i]?
  | [], i => by simp [nthL]
  | x :: l, 0 => rfl
  | x :: l, i + 1 => by
    show nthL l (Nat.sub (i + 1) 1) = _
    rw [show Nat.sub (i + 1) 1 = i from rfl, nthL_get l i, List.getElem?_cons_succ]
theorem exOk_ok {ex : Option Nat} {len cap : Nat} {e : Bool} (h : exOk ex len cap e = true) : (ex = none ∧ e = false) ∨ (ex = some cap ∧ e = true ∧ (0 < len ∨ cap = 0)) := by
  cases ex with
  | none => cases e <;> first | exact .inl ⟨rfl, rfl⟩ | cases h
  | some c =>
    obtain ⟨h1, h2⟩ := tt2_and.1 (show tt2 e _ = true from h)
    obtain ⟨h2, h3⟩ := tt2_and.1 h2
    rw [Bool.or_eq_true, Nat.blt_eq, Nat.beq_eq] at h3
    exact .inr ⟨by rw [Nat.eq_of_beq_eq_true h2], h1, h3⟩
mutual
theorem same_ok {T : Ty} {g : G} {h : H} {w : World} (r : WR T g h w) {ro : Bool} {lo : Nat} {N : Nat → Prop} (hlo : ∀ id b o z, lo ≤ id → h.isC id = true ∨ ro = true → (∃ p, h.cells id = some p) → g id = some (b, o, z) → N b) : ∀ (d : D) {v : V} {u : Value}, sameD ro d lo h v = true → VR g v u → RdD w N u d
  | .v x, v, u, e, hv => by
    obtain ⟨h1, h2⟩ := tt2_and.1 (show tt2 (flat x) (eqF x v) = true from e)
    rw [← eqF_eq x v h2] at hv
    exact .v h1 (flat_vr h1 hv)
  | .sl len es ex cs, v, u, e, hv => by
    rw [same_sl] at e
    cases v with
    | sl id off len' cap ex' es' =>
      obtain ⟨e1, z1⟩ := tt2_and.1 (show tt2 _ _ = true from e)
      obtain ⟨e2, z2⟩ := tt2_and.1 z1
      obtain ⟨e3, z3⟩ := tt2_and.1 z2
      obtain ⟨e4, z4⟩ := tt2_and.1 z3
      obtain ⟨e5, z5⟩ := tt2_and.1 z4
      obtain ⟨e6, z6⟩ := tt2_and.1 z5
      clear e z1 z2 z3 z4 z5
      obtain rfl := Nat.eq_of_beq_eq_true e1
      obtain rfl := Nat.eq_of_beq_eq_true e2
      have es0 : 0 < es := by simpa using e3
      have e5 : lo ≤ id := by simpa using e5
      cases hc : h.cells id with
      | none => rw [hc] at z6; cases z6
      | some p =>
        rw [hc] at z6
        have hN : ∀ {b o z : Nat}, g id = some (b, o, z) → N b := fun hg => hlo id _ _ _ e5 (by simpa using e6) ⟨p, hc⟩ hg
        have e : sameL ro cs lo h (fun j => Bool.rec (motive := fun _ => Option V) none (p.2.get j) (Nat.blt j p.1)) off (Nat.add off (Nat.mul len es)) true = true := z6
        have main : ∀ {b o z : Nat}, g id = some (b, o, z) → ∃ c t xs, w.heap[b]? = some (.cells c t (0, 0)) ∧ c.size = o + z ∧ (∀ j u, xs[j]? = some u → c[o + off + j]? = some u) ∧ xs.length = len * es ∧ RdDs w N xs cs ∧ (0 < len * es → off + len * es ≤ z ∧ len * es ≤ keys) ∧ ∀ d, d ∈ cs → d.one = true := by
          intro b o z hg
          obtain ⟨b', o', z', c, t, k1, k2, k3, k4, k5, k6⟩ := cells_ok' r hg hc
          rw [hg] at k1
          cases k1
          obtain ⟨m1, us, m2, m3, m4, m6⟩ := sames_ok r hlo cs (val := fun j u => c[o + j]? = some u ∧ j < p.1) e (fun i y hy => by
            have hy : (Bool.rec (motive := fun _ => Option V) none (p.2.get i) (Nat.blt i p.1) : Option V) = some y := hy
            rw [brec_eq] at hy
            split at hy
            · rename_i q
              have q : i < p.1 := by simpa using q
              obtain ⟨u, t1, t2, _⟩ := k6 i y q hy
              exact ⟨u, ⟨t1, q⟩, t2⟩
            · cases hy)
          have m1 : off + len * es = off + cs.length := m1
          refine ⟨c, t, us, k2, k3, fun j u hj => ?_, by omega, m4, fun h0 => ?_, fun d hd => m6 rfl d hd⟩
          · rw [Nat.add_assoc]; exact (m3 j u hj).1
          · have hl : len * es - 1 < us.length := by omega
            have := (m3 (len * es - 1) us[len * es - 1] (List.getElem?_eq_getElem hl)).2
            exact ⟨by omega, by omega⟩
        have nil0 : ∀ {b o z : Nat}, g id = some (b, o, z) → len = 0 → cs = [] := by
          intro b o z hg h0
          obtain ⟨c, t, xs, _, _, _, q1, q2, _⟩ := main hg
          subst h0
          have := q2.length
          rw [Nat.zero_mul] at q1
          exact List.eq_nil_of_length_eq_zero (by omega)
        rcases exOk_ok e4 with ⟨rfl, rfl⟩ | ⟨rfl, rfl, hlen⟩
        · cases hv with
          | sli hg hc' hl =>
            obtain ⟨c, t, xs, q1, q2, q3, q4, q5, q6, q7⟩ := main hg
            refine .sl (hN hg) q1 q3 q4 ?_ ?_ (.inr ⟨rfl, by omega, hl⟩) q7 q5
            · have := Nat.mul_le_mul_right es hl
              omega
            · by_cases h0 : len * es = 0
              · omega
              · exact (q6 (by omega)).2
          | sl0 hg hz =>
            obtain ⟨c, t, xs, q1, _⟩ := main hg
            obtain rfl := nil0 hg rfl
            exact .emp (hN hg) q1 (.inr rfl)
        · cases hv with
          | slx hg =>
            obtain ⟨c, t, xs, q1, q2, q3, q4, q5, q6, q7⟩ := main hg
            by_cases h0 : len = 0
            · subst h0
              obtain rfl := nil0 hg rfl
              obtain rfl : cap = 0 := by rcases hlen with q | q <;> omega
              exact .emp (hN hg) q1 (.inl rfl)
            · have hpos : 0 < len * es := Nat.mul_pos (by omega) es0
              obtain ⟨k7, k8⟩ := q6 hpos
              exact .sl (hN hg) q1 q3 q4 (by omega) k8 (.inl rfl) q7 q5
          | slx0 hg =>
            obtain ⟨c, t, xs, q1, _⟩ := main hg
            obtain rfl := nil0 hg rfl
            exact .emp (hN hg) q1 (.inl rfl)
    | _ => cases e
  | .agg cs, v, u, e, hv => by
    rw [same_agg] at e
    cases v with
    | agg l =>
      cases hv with
      | agg hl =>
        rename_i x
        obtain ⟨m1, us, m2, m3, m4, _⟩ := sames_ok r hlo cs (val := fun j u => x[j]? = some u) (show sameL ro cs lo h (nthL l) 0 (lenL l) false = true from e) (fun i y hy => by
          rw [nthL_get] at hy
          exact hl.get hy)
        rw [lenL_eq, Nat.zero_add] at m1
        have : us = x := by
          apply List.ext_getElem?
          intro i
          by_cases hi : i < us.length
          · have := m3 i us[i] (List.getElem?_eq_getElem hi)
            rw [Nat.zero_add] at this
            rw [this, List.getElem?_eq_getElem hi]
          · rw [List.getElem?_eq_none (by omega), List.getElem?_eq_none (by rw [← hl.length]; omega)]
        rw [← this]
        exact .agg m4
    | _ => cases e
  | .tup cs, v, u, e, hv => by
    rw [same_tup] at e
    cases v with
    | tup l =>
      cases hv with
      | tup hl =>
        rename_i x
        obtain ⟨m1, us, m2, m3, m4, _⟩ := sames_ok r hlo cs (val := fun j u => x[j]? = some u) (show sameL ro cs lo h (nthL l) 0 (lenL l) false = true from e) (fun i y hy => by
          rw [nthL_get] at hy
          exact hl.get hy)
        rw [lenL_eq, Nat.zero_add] at m1
        have : us = x := by
          apply List.ext_getElem?
          intro i
          by_cases hi : i < us.length
          · have := m3 i us[i] (List.getElem?_eq_getElem hi)
            rw [Nat.zero_add] at this
            rw [this, List.getElem?_eq_getElem hi]
          · rw [List.getElem?_eq_none (by omega), List.getElem?_eq_none (by rw [← hl.length]; omega)]
        rw [← this]
        exact .tup m4
    | _ => cases e
theorem sames_ok {T : Ty} {g : G} {h : H} {w : World} (r : WR T g h w) {ro : Bool} {lo : Nat} {N : Nat → Prop} (hlo : ∀ id b o z, lo ≤ id → h.isC id = true ∨ ro = true → (∃ p, h.cells id = some p) → g id = some (b, o, z) → N b) : ∀ (cs : List D) {get : Nat → Option V} {val : Nat → Value → Prop} {j e : Nat} {one : Bool},
    sameL ro cs lo h get j e one = true → (∀ i y, get i = some y → ∃ u, val i u ∧ VR g y u) → e = j + cs.length ∧ ∃ us, us.length = cs.length ∧ (∀ i u, us[i]? = some u → val (j + i) u) ∧ RdDs w N us cs ∧ (one = true → ∀ d, d ∈ cs → d.one = true)
  | [], get, val, j, e, one, h0, _ => ⟨(Nat.eq_of_beq_eq_true (show Nat.beq j e = true from h0)).symm, [], rfl, (fun i u hu => by simp at hu), .nil, fun _ d hd => by cases hd⟩
  | d :: cs, get, val, j, e, one, h0, hg => by
    rw [sameL_cons] at h0
    unfold sameC at h0
    cases hy : get j with
    | none => rw [hy] at h0; cases h0
    | some y =>
      rw [hy] at h0
      obtain ⟨a1, h0⟩ := tt2_and.1 (show tt2 _ _ = true from h0)
      obtain ⟨a2, a3⟩ := tt2_and.1 h0
      obtain ⟨u, u1, u2⟩ := hg j y hy
      have k1 := same_ok r hlo d a2 u2
      obtain ⟨b1, us, b2, b3, b4, b5⟩ := sames_ok r hlo cs a3 hg
      refine ⟨by rw [List.length_cons]; omega, u :: us, by rw [List.length_cons, List.length_cons, b2], fun i x hx => ?_, .cons k1 b4, fun h1 d' hd' => ?_⟩
      · cases i with
        | zero =>
          rw [List.getElem?_cons_zero] at hx
          cases hx
          exact u1
        | succ i =>
          rw [List.getElem?_cons_succ] at hx
          rw [show j + (i + 1) = j + 1 + i by omega]
          exact b3 i x hx
      · cases hd' with
        | head =>
          rw [h1] at a1
          exact a1
        | tail _ hd' => exact b5 h1 d' hd'
end
/-- A call whose arguments are trees hands back this tree. -/
noncomputable def runE (call : CallT) (h0 : H) (f : FuncId) (ds : List D) (d : D) : Bool :=
  Prod.rec (motive := fun _ => Bool) (fun vs h => tt2 (Nat.ble h.next keys) (Option.rec (motive := fun _ => Bool) false (fun r => Prod.rec (motive := fun _ => Bool) (fun v h' => sameD false d h.next h' v) r) (call (.fn f) vs h))) (bldL ds h0)
theorem runE_ok {P : Program} {T : Ty} {call : CallT} (hk : CallOk P T call) {h0 : H} {f : FuncId} {ds : List D} {d : D} (e : runE call h0 f ds d = true) {w : World} {n : Nat → Prop} {us : List Value} (hb : Base T h0 w) (h : RdDs w n us ds) : Hands P f us w d := by
  have e : tt2 (Nat.ble (bldL ds h0).2.next keys) (Option.rec (motive := fun _ => Bool) false (fun r : V × H => sameD false d (bldL ds h0).2.next r.2 r.1) (call (.fn f) (bldL ds h0).1 (bldL ds h0).2)) = true := e
  obtain ⟨e1, e2⟩ := tt2_and.1 e
  cases e3 : call (.fn f) (bldL ds h0).1 (bldL ds h0).2 with
  | none => rw [e3] at e2; cases e2
  | some r =>
    rw [e3] at e2
    have e4 : sameD false d (bldL ds h0).2.next r.2 r.1 = true := e2
    obtain ⟨g0, q1, q2, q3⟩ := hb
    have hn : (bldL ds h0).2.next ≤ keys := by simpa using e1
    obtain ⟨g, ⟨k1, k2, k4, _⟩, k3, _⟩ := bldL_ok h q1 q2 hn
    obtain ⟨fn, m1, m2, m3, m4⟩ := hk.fn f _ _ r.1 r.2 e3 g w us k1 (q3.bld q1 ds hn k4) k3
    refine ⟨fn, m1, m2, m3, m4.mono ?_⟩
    rintro x w' ⟨g', u, rfl, n1, n2⟩
    exact ⟨u, rfl, same_ok n2.wr (N := fun b => w.heap.size ≤ b) (fun id b o z l1 l2 _ l3 => n2.anew k1 k2 l1 (l2.resolve_right fun h => by cases h) l3) d e4 n1, n2.size, n2.still k2, n2.os, n2.tape, n2.output⟩
/- Tries that are reckoned at once. -/
noncomputable section
def forceT {α β : Type} (t : Tr α) (k : Tr α → β) : β := Tr.rec (motive := fun _ => β) (k .e) (fun l v r _ _ => k (.n l v r)) t
def setS {α : Type} (x : Option α) (fuel : Nat) : Tr α → Nat → Tr α :=
  Nat.rec (motive := fun _ => Tr α → Nat → Tr α) (fun t _ => t)
    (fun _ ih t p => Tr.rec (motive := fun _ => Tr α)
      (Bool.rec (motive := fun _ => Tr α) (Bool.rec (motive := fun _ => Tr α) (forceT (ih .e (Nat.div p 2)) fun s => .n s none .e) (forceT (ih .e (Nat.div p 2)) fun s => .n .e none s) (Nat.beq (Nat.mod p 2) 1)) (.n .e x .e) (Nat.beq p 1))
      (fun l v r _ _ => Bool.rec (motive := fun _ => Tr α) (Bool.rec (motive := fun _ => Tr α) (forceT (ih l (Nat.div p 2)) fun s => .n s v r) (forceT (ih r (Nat.div p 2)) fun s => .n l v s) (Nat.beq (Nat.mod p 2) 1)) (.n l x r) (Nat.beq p 1)) t) fuel
def trS (l : List V) : Nat → Tr V → Tr V :=
  List.rec (motive := fun _ => Nat → Tr V → Tr V) (fun _ t => t) (fun v _ ih i t => forceT (setS (some v) 30 t (Nat.succ i)) (ih (Nat.succ i))) l
end
theorem forceT_eq {α β : Type} (t : Tr α) (k : Tr α → β) : forceT t k = k t := by cases t <;> rfl
theorem setS_eq {α : Type} (x : Option α) : ∀ (f : Nat) (t : Tr α) (p : Nat), setS x f t p = Tr.setF x f t p
  | 0, _, _ => rfl
  | f + 1, t, p => by
    cases t with
    | e =>
      show Bool.rec (motive := fun _ => Tr α) (Bool.rec (motive := fun _ => Tr α) (forceT (setS x f .e (p / 2)) fun s => .n s none .e) (forceT (setS x f .e (p / 2)) fun s => .n .e none s) (Nat.beq (p % 2) 1)) (.n .e x .e) (Nat.beq p 1) = _
      rw [forceT_eq, forceT_eq, setS_eq x f]
      rfl
    | n l v r =>
      show Bool.rec (motive := fun _ => Tr α) (Bool.rec (motive := fun _ => Tr α) (forceT (setS x f l (p / 2)) fun s => .n s v r) (forceT (setS x f r (p / 2)) fun s => .n l v s) (Nat.beq (p % 2) 1)) (.n l x r) (Nat.beq p 1) = _
      rw [forceT_eq, forceT_eq, setS_eq x f, setS_eq x f]
      rfl
theorem trS_eq : ∀ (l : List V) (i : Nat) (t : Tr V), trS l i t = trOf l i t
  | [], _, _ => rfl
  | v :: l, i, t => by
    show forceT (setS (some v) 30 t (i + 1)) (trS l (i + 1)) = trOf l (i + 1) (Tr.setF (some v) 30 t (i + 1))
    rw [forceT_eq, setS_eq, trS_eq l]
end Ev
end Go.Proofs.YtbfkbabolhhbaaaGreatDoor
