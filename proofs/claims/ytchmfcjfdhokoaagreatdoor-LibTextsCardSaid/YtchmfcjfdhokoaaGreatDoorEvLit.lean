/-
  Is this value, in this memory, that tree? (No deep recursion along a slice's cells.)

  A call in a small part of the memory: one block is written, one map and one slice are only read, whatever else lies there.

  Trees and rows in few words.
-/
import Derived.Test.YtchmfcjfdhokoaaGreatDoorEvTree
import Derived.Test.YtchmfcjfdhokoaaGreatDoorEvStage
import Derived.Test.YtchmfcjfdhokoaaGreatDoorEvRead
namespace Go.Proofs.YtchmfcjfdhokoaaGreatDoor
namespace Ev
noncomputable section
def tSl (p : Nat → Nat → Nat → Nat → Bool → Nat → Bool) (v : V) : Bool :=
  V.rec (motive_1 := fun _ => Bool) (motive_2 := fun _ => Unit) (fun _ => false) (fun _ _ => false) (fun _ _ => false) false (fun _ _ => false) false p false (fun _ => false) (fun _ _ _ _ _ => false) (fun _ => false) false (fun _ _ _ => false) false (fun _ _ => false) (fun _ _ => false) () (fun _ _ _ _ => ()) v
def tt2 (a b : Bool) : Bool := Bool.rec (motive := fun _ => Bool) false b a
def tTup (p : List V → Bool) (v : V) : Bool :=
  V.rec (motive_1 := fun _ => Bool) (motive_2 := fun _ => Unit) (fun _ => false) (fun _ _ => false) (fun _ _ => false) false (fun _ _ => false) false (fun _ _ _ _ _ _ => false) false (fun _ => false) (fun _ _ _ _ _ => false) (fun _ => false) false (fun _ _ _ => false) false (fun _ _ => false) (fun cs _ => p cs) () (fun _ _ _ _ => ()) v
def exOk (ex : Option Nat) (len cap : Nat) (e : Bool) : Bool :=
  Option.rec (motive := fun _ => Bool) (Bool.rec (motive := fun _ => Bool) true false e) (fun c => tt2 e (tt2 (Nat.beq c cap) (Nat.blt 0 len || Nat.beq cap 0))) ex
def sameSl (ro : Bool) (len es : Nat) (ex : Option Nat) (k : Nat → H → (Nat → Option V) → Nat → Nat → Bool → Bool) (lo : Nat) (h : H) (v : V) : Bool :=
  tSl (fun id off len' cap ex' es' => tt2 (Nat.beq len len') (tt2 (Nat.beq es es') (tt2 (Nat.blt 0 es) (tt2 (exOk ex len cap ex') (tt2 (Nat.ble lo id) (tt2 (h.isC id || ro)
    (Option.rec (motive := fun _ => Bool) false (fun b => k lo h (fun j => Bool.rec (motive := fun _ => Option V) none (b.2.get j) (Nat.blt j b.1)) off (Nat.add off (Nat.mul len es)) true) (h.cells id))))))) ) v
def sameC (d : D) (s : V → Bool) (k : Nat → Bool) (get : Nat → Option V) (j : Nat) (one : Bool) : Bool :=
  Option.rec (motive := fun _ => Bool) false (fun y => tt2 (Bool.rec (motive := fun _ => Bool) true d.one one) (tt2 (s y) (k (Nat.succ j)))) (get j)
def sameD (ro : Bool) (d : D) : Nat → H → V → Bool := D.rec (motive_1 := fun _ => Nat → H → V → Bool) (motive_2 := fun _ => Nat → H → (Nat → Option V) → Nat → Nat → Bool → Bool)
  (fun x _ _ v => tt2 (flat x) (eqF x v))
  (fun len es ex _ ih => sameSl ro len es ex ih)
  (fun _ ih lo h v => tAgg (fun l => ih lo h (nthL l) 0 (lenL l) false) v)
  (fun _ ih lo h v => tTup (fun l => ih lo h (nthL l) 0 (lenL l) false) v)
  (fun _ _ _ j e _ => Nat.beq j e)
  (fun d _ i1 i2 lo h get j e one => sameC d (i1 lo h) (fun j => i2 lo h get j e one) get j one) d
def sameL (ro : Bool) (cs : List D) : Nat → H → (Nat → Option V) → Nat → Nat → Bool → Bool :=
  List.rec (motive := fun _ => Nat → H → (Nat → Option V) → Nat → Nat → Bool → Bool) (fun _ _ _ j e _ => Nat.beq j e) (fun d _ i2 lo h get j e one => sameC d (sameD ro d lo h) (fun j => i2 lo h get j e one) get j one) cs
end
theorem tt2_and {a b : Bool} : tt2 a b = true ↔ a = true ∧ b = true := by cases a <;> cases b <;> simp [tt2]
theorem sameL_cons (ro : Bool) (d : D) (cs : List D) (lo : Nat) (h : H) (get : Nat → Option V) (j e : Nat) (one : Bool)   : sameL ro (d :: cs) lo h get j e one = sameC d (sameD ro d lo h) (fun j => sameL ro cs lo h get j e one) get j one := rfl
theorem sameL_eq (ro : Bool) (cs : List D) : sameL ro cs = D.rec_1 (motive_1 := fun _ => Nat → H → V → Bool) (motive_2 := fun _ => Nat → H → (Nat → Option V) → Nat → Nat → Bool → Bool)
  (fun x _ _ v => tt2 (flat x) (eqF x v))
  (fun len es ex _ ih => sameSl ro len es ex ih)
  (fun _ ih lo h v => tAgg (fun l => ih lo h (nthL l) 0 (lenL l) false) v)
  (fun _ ih lo h v => tTup (fun l => ih lo h (nthL l) 0 (lenL l) false) v)
  (fun _ _ _ j e _ => Nat.beq j e)
  (fun d _ i1 i2 lo h get j e one => sameC d (i1 lo h) (fun j => i2 lo h get j e one) get j one) cs := by
  induction cs with
  | nil => rfl
  | cons d cs ih => funext lo h get j e one; rw [sameL_cons, ih]; rfl
theorem same_sl (ro : Bool) (len es : Nat) (ex : Option Nat) (cs : List D) : sameD ro (.sl len es ex cs) = sameSl ro len es ex (sameL ro cs) := by rw [sameL_eq]; rfl
theorem same_agg (ro : Bool) (cs : List D) (lo : Nat) (h : H) (v : V) : sameD ro (.agg cs) lo h v = tAgg (fun l => sameL ro cs lo h (nthL l) 0 (lenL l) false) v := by rw [sameL_eq]; rfl
theorem same_tup (ro : Bool) (cs : List D) (lo : Nat) (h : H) (v : V) : sameD ro (.tup cs) lo h v = tTup (fun l => sameL ro cs lo h (nthL l) 0 (lenL l) false) v := by rw [sameL_eq]; rfl
theorem nthL_get {α : Type} : ∀ (l : List α) (i : Nat), nthL l i = l[i]?
  | [], i => by simp [nthL]
  | x :: l, 0 => rfl
  | x :: l, i + 1 => by
    show nthL l (Nat.sub (i + 1) 1) = _
    rw [show Nat.sub (i + 1) 1 = i from rfl, nthL_get l i, List.getElem?_cons_succ]
theorem exOk_ok {ex : Option Nat} {len cap : Nat} {e : Bool} (h : exOk ex len cap e = true) : (ex = none ∧ e = false) ∨ (ex = some cap ∧ e = true ∧ (0 < len ∨ cap = 0)) := by
  cases ex with
  | none => cases e <;> first | exact .inl ⟨rfl, rfl⟩ | cases h
  | some c =>
    obtain ⟨h1, h2⟩ := tt2_and.1 (show tt2 e _ = true from h)
    obtain ⟨h2, h3⟩ := tt2_and.1 h2
    rw [Bool.or_eq_true, Nat.blt_eq, Nat.beq_eq] at h3
    exact .inr ⟨by rw [Nat.eq_of_beq_eq_true h2], h1, h3⟩
mutual
theorem same_ok {T : Ty} {g : G} {h : H} {w : World} (r : WR T g h w) {ro : Bool} {lo : Nat} {N : Nat → Prop} (hlo : ∀ id b o z, lo ≤ id → h.isC id = true ∨ ro = true → (∃ p, h.cells id = some p) → g id = some (b, o, z) → N b) : ∀ (d : D) {v : V} {u : Value}, sameD ro d lo h v = true → VR g v u → RdD w N u d
  | .v x, v, u, e, hv => by
    obtain ⟨h1, h2⟩ := tt2_and.1 (show tt2 (flat x) (eqF x v) = true from e)
    rw [← eqF_eq x v h2] at hv
    exact .v h1 (flat_vr h1 hv)
  | .sl len es ex cs, v, u, e, hv => by
    rw [same_sl] at e
    cases v with
    | sl id off len' cap ex' es' =>
      obtain ⟨e1, z1⟩ := tt2_and.1 (show tt2 _ _ = true from e)
      obtain ⟨e2, z2⟩ := tt2_and.1 z1
      obtain ⟨e3, z3⟩ := tt2_and.1 z2
      obtain ⟨e4, z4⟩ := tt2_and.1 z3
      obtain ⟨e5, z5⟩ := tt2_and.1 z4
      obtain ⟨e6, z6⟩ := tt2_and.1 z5
      clear e z1 z2 z3 z4 z5
      obtain rfl := Nat.eq_of_beq_eq_true e1
      obtain rfl := Nat.eq_of_beq_eq_true e2
      have es0 : 0 < es := by simpa using e3
      have e5 : lo ≤ id := by simpa using e5
      cases hc : h.cells id with
      | none => rw [hc] at z6; cases z6
      | some p =>
        rw [hc] at z6
        have hN : ∀ {b o z : Nat}, g id = some (b, o, z) → N b := fun hg => hlo id _ _ _ e5 (by simpa using e6) ⟨p, hc⟩ hg
        have e : sameL ro cs lo h (fun j => Bool.rec (motive := fun _ => Option V) none (p.2.get j) (Nat.blt j p.1)) off (Nat.add off (Nat.mul len es)) true = true := z6
        have main : ∀ {b o z : Nat}, g id = some (b, o, z) → ∃ c t xs, w.heap[b]? = some (.cells c t (0, 0)) ∧ c.size = o + z ∧ (∀ j u, xs[j]? = some u → c[o + off + j]? = some u) ∧ xs.length = len * es ∧ RdDs w N xs cs ∧ (0 < len * es → off + len * es ≤ z ∧ len * es ≤ keys) ∧ ∀ d, d ∈ cs → d.one = true := by
          intro b o z hg
          obtain ⟨b', o', z', c, t, k1, k2, k3, k4, k5, k6⟩ := cells_ok' r hg hc
          rw [hg] at k1
          cases k1
          obtain ⟨m1, us, m2, m3, m4, m6⟩ := sames_ok r hlo cs (val := fun j u => c[o + j]? = some u ∧ j < p.1) e (fun i y hy => by
            have hy : (Bool.rec (motive := fun _ => Option V) none (p.2.get i) (Nat.blt i p.1) : Option V) = some y := hy
            rw [brec_eq] at hy
            split at hy
            · rename_i q
              have q : i < p.1 := by simpa using q
              obtain ⟨u, t1, t2, _⟩ := k6 i y q hy
              exact ⟨u, ⟨t1, q⟩, t2⟩
            · cases hy)
          have m1 : off + len * es = off + cs.length := m1
          refine ⟨c, t, us, k2, k3, fun j u hj => ?_, by omega, m4, fun h0 => ?_, fun d hd => m6 rfl d hd⟩
          · rw [Nat.add_assoc]; exact (m3 j u hj).1
          · have hl : len * es - 1 < us.length := by omega
            have := (m3 (len * es - 1) us[len * es - 1] (List.getElem?_eq_getElem hl)).2
            exact ⟨by omega, by omega⟩
        have nil0 : ∀ {b o z : Nat}, g id = some (b, o, z) → len = 0 → cs = [] := by
          intro b o z hg h0
          obtain ⟨c, t, xs, _, _, _, q1, q2, _⟩ := main hg
          subst h0
          have := q2.length
          rw [Nat.zero_mul] at q1
          exact List.eq_nil_of_length_eq_zero (by omega)
        rcases exOk_ok e4 with ⟨rfl, rfl⟩ | ⟨rfl, rfl, hlen⟩
        · cases hv with
          | sli hg hc' hl =>
            obtain ⟨c, t, xs, q1, q2, q3, q4, q5, q6, q7⟩ := main hg
            refine .sl (hN hg) q1 q3 q4 ?_ ?_ (.inr ⟨rfl, by omega, hl⟩) q7 q5
            · have := Nat.mul_le_mul_right es hl
              omega
            · by_cases h0 : len * es = 0
              · omega
              · exact (q6 (by omega)).2
          | sl0 hg hz =>
            obtain ⟨c, t, xs, q1, _⟩ := main hg
            obtain rfl := nil0 hg rfl
            exact .emp (hN hg) q1 (.inr rfl)
        · cases hv with
          | slx hg =>
            obtain ⟨c, t, xs, q1, q2, q3, q4, q5, q6, q7⟩ := main hg
            by_cases h0 : len = 0
            · subst h0
              obtain rfl := nil0 hg rfl
              obtain rfl : cap = 0 := by rcases hlen with q | q <;> omega
              exact .emp (hN hg) q1 (.inl rfl)
            · have hpos : 0 < len * es := Nat.mul_pos (by omega) es0
              obtain ⟨k7, k8⟩ := q6 hpos
              exact .sl (hN hg) q1 q3 q4 (by omega) k8 (.inl rfl) q7 q5
          | slx0 hg =>
            obtain ⟨c, t, xs, q1, _⟩ := main hg
            obtain rfl := nil0 hg rfl
            exact .emp (hN hg) q1 (.inl rfl)
    | _ => cases e
  | .agg cs, v, u, e, hv => by
    rw [same_agg] at e
    cases v with
    | agg l =>
      cases hv with
      | agg hl =>
        rename_i x
        obtain ⟨m1, us, m2, m3, m4, _⟩ := sames_ok r hlo cs (val := fun j u => x[j]? = some u) (show sameL ro cs lo h (nthL l) 0 (lenL l) false = true from e) (fun i y hy => by
          rw [nthL_get] at hy
          exact hl.get hy)
        rw [lenL_eq, Nat.zero_add] at m1
        have : us = x := by
          apply List.ext_getElem?
          intro i
          by_cases hi : i < us.length
          · have := m3 i us[i] (List.getElem?_eq_getElem hi)
            rw [Nat.zero_add] at this
            rw [this, List.getElem?_eq_getElem hi]
          · rw [List.getElem?_eq_none (by omega), List.getElem?_eq_none (by rw [← hl.length]; omega)]
        rw [← this]
        exact .agg m4
    | _ => cases e
  | .tup cs, v, u, e, hv => by
    rw [same_tup] at e
    cases v with
    | tup l =>
      cases hv with
      | tup hl =>
        rename_i x
        obtain ⟨m1, us, m2, m3, m4, _⟩ := sames_ok r hlo cs (val := fun j u => x[j]? = some u) (show sameL ro cs lo h (nthL l) 0 (lenL l) false = true from e) (fun i y hy => by
          rw [nthL_get] at hy
          exact hl.get hy)
        rw [lenL_eq, Nat.zero_add] at m1
        have : us = x := by
          apply List.ext_getElem?
          intro i
          by_cases hi : i < us.length
          · have := m3 i us[i] (List.getElem?_eq_getElem hi)
            rw [Nat.zero_add] at this
            rw [this, List.getElem?_eq_getElem hi]
          · rw [List.getElem?_eq_none (by omega), List.getElem?_eq_none (by rw [← hl.length]; omega)]
        rw [← this]
        exact .tup m4
    | _ => cases e
theorem sames_ok {T : Ty} {g : G} {h : H} {w : World} (r : WR T g h w) {ro : Bool} {lo : Nat} {N : Nat → Prop} (hlo : ∀ id b o z, lo ≤ id → h.isC id = true ∨ ro = true → (∃ p, h.cells id = some p) → g id = some (b, o, z) → N b) : ∀ (cs : List D) {get : Nat → Option V} {val : Nat → Value → Prop} {j e : Nat} {one : Bool},
    sameL ro cs lo h get j e one = true → (∀ i y, get i = some y → ∃ u, val i u ∧ VR g y u) → e = j + cs.length ∧ ∃ us, us.length = cs.length ∧ (∀ i u, us[i]? = some u → val (j + i) u) ∧ RdDs w N us cs ∧ (one = true → ∀ d, d ∈ cs → d.one = true)
  | [], get, val, j, e, one, h0, _ => ⟨(Nat.eq_of_beq_eq_true (show Nat.beq j e = true from h0)).symm, [], rfl, (fun i u hu => by simp at hu), .nil, fun _ d hd => by cases hd⟩
  | d :: cs, get, val, j, e, one, h0, hg => by
    rw [sameL_cons] at h0
    unfold sameC at h0
    cases hy : get j with
    | none => rw [hy] at h0; cases h0
    | some y =>
      rw [hy] at h0
      obtain ⟨a1, h0⟩ := tt2_and.1 (show tt2 _ _ = true from h0)
      obtain ⟨a2, a3⟩ := tt2_and.1 h0
      obtain ⟨u, u1, u2⟩ := hg j y hy
      have k1 := same_ok r hlo d a2 u2
      obtain ⟨b1, us, b2, b3, b4, b5⟩ := sames_ok r hlo cs a3 hg
      refine ⟨by rw [List.length_cons]; omega, u :: us, by rw [List.length_cons, List.length_cons, b2], fun i x hx => ?_, .cons k1 b4, fun h1 d' hd' => ?_⟩
      · cases i with
        | zero =>
          rw [List.getElem?_cons_zero] at hx
          cases hx
          exact u1
        | succ i =>
          rw [List.getElem?_cons_succ] at hx
          rw [show j + (i + 1) = j + 1 + i by omega]
          exact b3 i x hx
      · cases hd' with
        | head =>
          rw [h1] at a1
          exact a1
        | tail _ hd' => exact b5 h1 d' hd'
end
/-- A call whose arguments are trees hands back this tree. -/
noncomputable def runE (call : CallT) (h0 : H) (f : FuncId) (ds : List D) (d : D) : Bool :=
  Prod.rec (motive := fun _ => Bool) (fun vs h => tt2 (Nat.ble h.next keys) (Option.rec (motive := fun _ => Bool) false (fun r => Prod.rec (motive := fun _ => Bool) (fun v h' => sameD false d h.next h' v) r) (call (.fn f) vs h))) (bldL ds h0)
theorem runE_ok {P : Program} {T : Ty} {call : CallT} (hk : CallOk P T call) {h0 : H} {f : FuncId} {ds : List D} {d : D} (e : runE call h0 f ds d = true) {w : World} {n : Nat → Prop} {us : List Value} (hb : Base T h0 w) (h : RdDs w n us ds) : Hands P f us w d := by
  have e : tt2 (Nat.ble (bldL ds h0).2.next keys) (Option.rec (motive := fun _ => Bool) false (fun r : V × H => sameD false d (bldL ds h0).2.next r.2 r.1) (call (.fn f) (bldL ds h0).1 (bldL ds h0).2)) = true := e
  obtain ⟨e1, e2⟩ := tt2_and.1 e
  cases e3 : call (.fn f) (bldL ds h0).1 (bldL ds h0).2 with
  | none => rw [e3] at e2; cases e2
  | some r =>
    rw [e3] at e2
    have e4 : sameD false d (bldL ds h0).2.next r.2 r.1 = true := e2
    obtain ⟨g0, q1, q2, q3⟩ := hb
    have hn : (bldL ds h0).2.next ≤ keys := by simpa using e1
    obtain ⟨g, ⟨k1, k2, k4, _⟩, k3, _⟩ := bldL_ok h q1 q2 hn
    obtain ⟨fn, m1, m2, m3, m4⟩ := hk.fn f _ _ r.1 r.2 e3 g w us k1 (q3.bld q1 ds hn k4) k3
    refine ⟨fn, m1, m2, m3, m4.mono ?_⟩
    rintro x w' ⟨g', u, rfl, n1, n2⟩
    exact ⟨u, rfl, same_ok n2.wr (N := fun b => w.heap.size ≤ b) (fun id b o z l1 l2 _ l3 => n2.anew k1 k2 l1 (l2.resolve_right fun h => by cases h) l3) d e4 n1, n2.size, n2.still k2, n2.os, n2.tape, n2.output⟩
/- Tries that are reckoned at once. -/
noncomputable section
def forceT {α β : Type} (t : Tr α) (k : Tr α → β) : β := Tr.rec (motive := fun _ => β) (k .e) (fun l v r _ _ => k (.n l v r)) t
def setS {α : Type} (x : Option α) (fuel : Nat) : Tr α → Nat → Tr α :=
  Nat.rec (motive := fun _ => Tr α → Nat → Tr α) (fun t _ => t)
    (fun _ ih t p => Tr.rec (motive := fun _ => Tr α)
      (Bool.rec (motive := fun _ => Tr α) (Bool.rec (motive := fun _ => Tr α) (forceT (ih .e (Nat.div p 2)) fun s => .n s none .e) (forceT (ih .e (Nat.div p 2)) fun s => .n .e none s) (Nat.beq (Nat.mod p 2) 1)) (.n .e x .e) (Nat.beq p 1))
      (fun l v r _ _ => Bool.rec (motive := fun _ => Tr α) (Bool.rec (motive := fun _ => Tr α) (forceT (ih l (Nat.div p 2)) fun s => .n s v r) (forceT (ih r (Nat.div p 2)) fun s => .n l v s) (Nat.beq (Nat.mod p 2) 1)) (.n l x r) (Nat.beq p 1)) t) fuel
def trS (l : List V) : Nat → Tr V → Tr V :=
  List.rec (motive := fun _ => Nat → Tr V → Tr V) (fun _ t => t) (fun v _ ih i t => forceT (setS (some v) 30 t (Nat.succ i)) (ih (Nat.succ i))) l
end
theorem forceT_eq {α β : Type} (t : Tr α) (k : Tr α → β) : forceT t k = k t := by cases t <;> rfl
theorem setS_eq {α : Type} (x : Option α) : ∀ (f : Nat) (t : Tr α) (p : Nat), setS x f t p = Tr.setF x f t p
  | 0, _, _ => rfl
  | f + 1, t, p => by
    cases t with
    | e =>
      show Bool.rec (motive := fun _ => Tr α) (Bool.rec (motive := fun _ => Tr α) (forceT (setS x f .e (p / 2)) fun s => .n s none .e) (forceT (setS x f .e (p / 2)) fun s => .n .e none s) (Nat.beq (p % 2) 1)) (.n .e x .e) (Nat.beq p 1) = _
      rw [forceT_eq, forceT_eq, setS_eq x f]
      rfl
    | n l v r =>
      show Bool.rec (motive := fun _ => Tr α) (Bool.rec (motive := fun _ => Tr α) (forceT (setS x f l (p / 2)) fun s => .n s v r) (forceT (setS x f r (p / 2)) fun s => .n l v s) (Nat.beq (p % 2) 1)) (.n l x r) (Nat.beq p 1) = _
      rw [forceT_eq, forceT_eq, setS_eq x f, setS_eq x f]
      rfl
theorem trS_eq : ∀ (l : List V) (i : Nat) (t : Tr V), trS l i t = trOf l i t
  | [], _, _ => rfl
  | v :: l, i, t => by
    show forceT (setS (some v) 30 t (i + 1)) (trS l (i + 1)) = trOf l (i + 1) (Tr.setF (some v) 30 t (i + 1))
    rw [forceT_eq, setS_eq, trS_eq l]
end Ev
end Go.Proofs.YtchmfcjfdhokoaaGreatDoor
namespace Go.Proofs.YtchmfcjfdhokoaaGreatDoor
namespace Ev

noncomputable section
def tPtr (p : Nat → Nat → Bool) (v : V) : Bool :=
  V.rec (motive_1 := fun _ => Bool) (motive_2 := fun _ => Unit) (fun _ => false) (fun _ _ => false) (fun _ _ => false) false p false (fun _ _ _ _ _ _ => false) false (fun _ => false) (fun _ _ _ _ _ => false) (fun _ => false) false (fun _ _ _ => false) false (fun _ _ => false) (fun _ _ => false) () (fun _ _ _ _ => ()) v
def tMap (p : Nat → Bool) (v : V) : Bool :=
  V.rec (motive_1 := fun _ => Bool) (motive_2 := fun _ => Unit) (fun _ => false) (fun _ _ => false) (fun _ _ => false) false (fun _ _ => false) false (fun _ _ _ _ _ _ => false) false p (fun _ _ _ _ _ => false) (fun _ => false) false (fun _ _ _ => false) false (fun _ _ => false) (fun _ _ => false) () (fun _ _ _ _ => ()) v
def tFunc (p : Fn → List V → List V → Bool) (v : V) : Bool :=
  V.rec (motive_1 := fun _ => Bool) (motive_2 := fun _ => Unit) (fun _ => false) (fun _ _ => false) (fun _ _ => false) false (fun _ _ => false) false (fun _ _ _ _ _ _ => false) false (fun _ => false) (fun f a b _ _ => p f a b) (fun _ => false) false (fun _ _ _ => false) false (fun _ _ => false) (fun _ _ => false) () (fun _ _ _ _ => ()) v
def fnEq (f g : Fn) : Bool :=
  match f, g with
  | .func a, .func b => Nat.beq a b
  | _, _ => false
/-- The same value, of one cell. -/
def eqB (v : V) : V → Bool :=
  V.rec (motive_1 := fun _ => V → Bool) (motive_2 := fun _ => Unit) (fun b => tBool (beqB b)) (fun k n => tInt fun j m => Bool.rec (motive := fun _ => Bool) false (eqI n m) (eqKQ k j)) (fun n c => tStr (strEq n c)) tNilp
    (fun a b => tPtr fun c d => tt2 (Nat.beq a c) (Nat.beq b d)) tNils (fun a b c d e f => tSl fun a' b' c' d' e' f' => tt2 (Nat.beq a a') (tt2 (Nat.beq b b') (tt2 (Nat.beq c c') (tt2 (Nat.beq d d') (tt2 (beqB e e') (Nat.beq f f')))))) (fun _ => false)
    (fun a => tMap (Nat.beq a)) (fun _ _ _ _ _ _ => false) (fun _ _ => false) (fun _ => false) (fun _ _ _ _ => false) (fun _ => false) (fun _ _ _ => false) (fun _ _ _ => false) () (fun _ _ _ _ => ()) v
def eqBs (l : List V) : List V → Bool :=
  List.rec (motive := fun _ => List V → Bool) (fun l => List.rec (motive := fun _ => Bool) true (fun _ _ _ => false) l) (fun x _ i2 l => List.rec (motive := fun _ => Bool) false (fun y tl _ => tt2 (eqB x y) (i2 tl)) l) l
def eqA (x y : V) : Bool :=
  match x with
  | .func f a b => tFunc (fun g c d => tt2 (fnEq f g) (tt2 (eqBs a c) (eqBs b d))) y
  | x => eqB x y
def eqE (l : List (V × V)) : List (V × V) → Bool :=
  List.rec (motive := fun _ => List (V × V) → Bool) (fun l => List.rec (motive := fun _ => Bool) true (fun _ _ _ => false) l) (fun x _ i2 l => List.rec (motive := fun _ => Bool) false (fun y tl _ => tt2 (eqA x.1 y.1) (tt2 (eqA x.2 y.2) (i2 tl))) l) l
/-- Only these blocks are named. -/
def suppB (p : Nat → Bool) (v : V) : Bool :=
  match v with
  | .ptr id _ => p id
  | .sl id _ _ _ _ _ => p id
  | .map id => p id
  | v => flat v
def suppA (p : Nat → Bool) (v : V) : Bool :=
  match v with
  | .func (.func _) a b => a.all (suppB p) && b.all (suppB p)
  | v => suppB p v
def names (k : Nat) (v : V) : Bool :=
  match v with
  | .ptr id _ => Nat.beq id k
  | .sl id _ _ _ _ _ => Nat.beq id k
  | .map id => Nat.beq id k
  | _ => false
end
theorem eqB_eq : ∀ x y : V, eqB x y = true → x = y := by
  intro x y h
  cases x with
  | bool b => cases y <;> first | cases h | rw [beqB_eq2 h]
  | int k n =>
    cases y with
    | int j m =>
      have h : (Bool.rec (motive := fun _ => Bool) false (eqI n m) (eqKQ k j) : Bool) = true := h
      rw [brec_eq] at h
      split at h
      · rename_i e
        rw [eqKQ_eq' e, eqI_eq' h]
      · cases h
    | _ => cases h
  | str n c =>
    cases y with
    | str m d =>
      have h : strEq n c m d = true := h
      unfold strEq at h
      rw [brec_eq] at h
      split at h
      · rename_i e
        rw [Nat.eq_of_beq_eq_true e, Nat.eq_of_beq_eq_true h]
      · cases h
    | _ => cases h
  | nilp => cases y <;> first | rfl | cases h
  | ptr a b =>
    cases y with
    | ptr c d =>
      obtain ⟨h1, h2⟩ := tt2_and.1 (show tt2 _ _ = true from h)
      rw [Nat.eq_of_beq_eq_true h1, Nat.eq_of_beq_eq_true h2]
    | _ => cases h
  | nils => cases y <;> first | rfl | cases h
  | sl a b c d e f =>
    cases y with
    | sl a' b' c' d' e' f' =>
      obtain ⟨h1, h2⟩ := tt2_and.1 (show tt2 _ _ = true from h)
      obtain ⟨h2, h3⟩ := tt2_and.1 h2
      obtain ⟨h3, h4⟩ := tt2_and.1 h3
      obtain ⟨h4, h5⟩ := tt2_and.1 h4
      obtain ⟨h5, h6⟩ := tt2_and.1 h5
      rw [Nat.eq_of_beq_eq_true h1, Nat.eq_of_beq_eq_true h2, Nat.eq_of_beq_eq_true h3, Nat.eq_of_beq_eq_true h4, beqB_eq2 h5, Nat.eq_of_beq_eq_true h6]
    | _ => cases h
  | map a =>
    cases y with
    | map b => rw [Nat.eq_of_beq_eq_true (show Nat.beq a b = true from h)]
    | _ => cases h
  | _ => cases h
theorem eqBs_eq : ∀ (l l' : List V), eqBs l l' = true → l = l'
  | [], [], _ => rfl
  | [], _ :: _, h => by cases h
  | _ :: _, [], h => by cases h
  | x :: l, y :: tl, h => by
    obtain ⟨h1, h2⟩ := tt2_and.1 (show tt2 (eqB x y) (eqBs l tl) = true from h)
    rw [eqB_eq x y h1, eqBs_eq l tl h2]
theorem fnEq_eq {f g : Fn} (h : fnEq f g = true) : f = g := by
  cases f <;> cases g <;> first | cases h | rw [Nat.eq_of_beq_eq_true (show Nat.beq _ _ = true from h)]
theorem eqA_eq : ∀ x y : V, eqA x y = true → x = y := by
  intro x y h
  cases x with
  | func f a b =>
    cases y with
    | func g c d =>
      obtain ⟨h1, h2⟩ := tt2_and.1 (show tt2 _ _ = true from h)
      obtain ⟨h2, h3⟩ := tt2_and.1 h2
      rw [fnEq_eq h1, eqBs_eq _ _ h2, eqBs_eq _ _ h3]
    | _ => cases h
  | _ => exact eqB_eq _ _ h
theorem eqE_eq : ∀ (l l' : List (V × V)), eqE l l' = true → l = l'
  | [], [], _ => rfl
  | [], _ :: _, h => by cases h
  | _ :: _, [], h => by cases h
  | x :: l, y :: tl, h => by
    obtain ⟨h1, h2⟩ := tt2_and.1 (show tt2 (eqA x.1 y.1) (tt2 (eqA x.2 y.2) (eqE l tl)) = true from h)
    obtain ⟨h2, h3⟩ := tt2_and.1 h2
    rw [eqE_eq l tl h3, Prod.ext (eqA_eq _ _ h1) (eqA_eq _ _ h2)]

/-- Where two namings agree on what is named, they stand for the same. -/
theorem VR.suppB {p : Nat → Bool} {g1 g2 : G} (hg : ∀ id x, p id = true → g1 id = some x → g2 id = some x) {v : V} {u : Value} (hp : Ev.suppB p v = true) (h : VR g1 v u) : VR g2 v u := by
  cases h with
  | ptr h => exact .ptr (hg _ _ hp h)
  | slx h => exact .slx (hg _ _ hp h)
  | sli h a b => exact .sli (hg _ _ hp h) a b
  | sl0 h a => exact .sl0 (hg _ _ hp h) a
  | slx0 h => exact .slx0 (hg _ _ hp h)
  | map h => exact .map (hg _ _ hp h)
  | bool b => exact .bool b
  | int k n => exact .int k n
  | str s => exact .str s
  | nilp => exact .nilp
  | nils => exact .nils
  | nilm => exact .nilm
  | nilf => exact .nilf
  | nili => exact .nili
  | _ => cases hp
theorem VRs.suppB {p : Nat → Bool} {g1 g2 : G} (hg : ∀ id x, p id = true → g1 id = some x → g2 id = some x) : ∀ {l : List V} {us : List Value}, l.all (Ev.suppB p) = true → VRs g1 l us → VRs g2 l us
  | [], _, _, .nil => .nil
  | x :: l, _, hp, .cons h t => by
    simp only [List.all_cons, Bool.and_eq_true] at hp
    exact .cons (h.suppB hg hp.1) (VRs.suppB hg hp.2 t)
theorem VR.suppA {p : Nat → Bool} {g1 g2 : G} (hg : ∀ id x, p id = true → g1 id = some x → g2 id = some x) {v : V} {u : Value} (hp : Ev.suppA p v = true) (h : VR g1 v u) : VR g2 v u := by
  cases h with
  | func ha hb =>
    have hp : ((_ : List V).all (Ev.suppB p) && (_ : List V).all (Ev.suppB p)) = true := hp
    rw [Bool.and_eq_true] at hp
    exact .func (ha.suppB hg hp.1) (hb.suppB hg hp.2)
  | _ => exact VR.suppB hg hp (by constructor <;> assumption)
theorem VRs.suppA {p : Nat → Bool} {g1 g2 : G} (hg : ∀ id x, p id = true → g1 id = some x → g2 id = some x) : ∀ {l : List V} {us : List Value}, (∀ v, v ∈ l → Ev.suppA p v = true) → VRs g1 l us → VRs g2 l us
  | [], _, _, .nil => .nil
  | x :: _, _, hp, .cons h t => .cons (h.suppA hg (hp x List.mem_cons_self)) (VRs.suppA hg (fun v hv => hp v (List.mem_cons_of_mem _ hv)) t)
theorem names_dom {g : G} {k : Nat} {v : V} {u : Value} (hn : names k v = true) (h : VR g v u) : ∃ x, g k = some x := by
  cases h with
  | ptr h => rw [← Nat.eq_of_beq_eq_true hn]; exact ⟨_, h⟩
  | slx h => rw [← Nat.eq_of_beq_eq_true hn]; exact ⟨_, h⟩
  | sli h _ _ => rw [← Nat.eq_of_beq_eq_true hn]; exact ⟨_, h⟩
  | sl0 h _ => rw [← Nat.eq_of_beq_eq_true hn]; exact ⟨_, h⟩
  | slx0 h => rw [← Nat.eq_of_beq_eq_true hn]; exact ⟨_, h⟩
  | map h => rw [← Nat.eq_of_beq_eq_true hn]; exact ⟨_, h⟩
  | _ => cases hn
theorem rdFrom_get {cs : Tr V} {n : Nat} : ∀ (k off : Nat) {l : List V}, rdFrom cs n k off = some l → l.length = k ∧ ∀ j, j < k → cs.get (off + j) = l[j]? ∧ off + j < n
  | 0, off, _, e => by cases e; exact ⟨rfl, fun j hj => absurd hj (Nat.not_lt_zero _)⟩
  | k + 1, off, l, e => by
    rw [rdFrom_succ] at e
    obtain ⟨e0, e1⟩ := oif_some.1 e
    obtain ⟨v, e2, e3⟩ := ob_some.1 e1
    obtain ⟨r, e4, e5⟩ := ob_some.1 e3
    cases e5
    obtain ⟨h1, h2⟩ := rdFrom_get k (off + 1) e4
    refine ⟨by rw [List.length_cons, h1], fun j hj => ?_⟩
    cases j with
    | zero => exact ⟨by simpa using e2, by simpa using e0⟩
    | succ j =>
      have := h2 j (by omega)
      rw [show off + (j + 1) = off + 1 + j by omega]
      simpa using this

/- The small memory. -/
structure LM where
  k : Nat
  n : Nat
  off : Nat
  win : List V
  p : Nat
  cs : List V
  m : Nat
  es : List (V × V)
  ord : Bool
  nx : Nat
noncomputable section
def roAt (h : H) (id : Nat) : Option (Nat × Tr V) := ob (h.blk id) fun b => match b with
  | .ro n cs => some (n, cs)
  | _ => none
def loneAt (h : H) (id : Nat) : Option (Nat × Tr V) := ob (h.blk id) fun b => match b with
  | .cells n cs none false => some (n, cs)
  | _ => none
def mapAt (h : H) (id : Nat) : Option (List (V × V) × Bool) := ob (h.blk id) fun b => match b with
  | .map es o => some (es, o)
  | _ => none
def LM.fits (l : LM) (h : H) : Option Unit :=
  ob (roAt h l.k) fun a => oif (Nat.beq a.1 l.n) (ob (rdFrom a.2 a.1 (lenL l.win) l.off) fun w => oif (eqFs l.win w)
    (ob (loneAt h l.p) fun b => oif (Nat.beq b.1 (lenL l.cs)) (ob (rdFrom b.2 b.1 b.1 0) fun c => oif (eqBs l.cs c)
      (ob (mapAt h l.m) fun q => oif (eqE l.es q.1) (oif (beqB l.ord q.2) (some ()))))))
def LM.inS (l : LM) (id : Nat) : Bool := Nat.beq id 0 || (Nat.beq id l.k || (Nat.beq id l.p || Nat.beq id l.m))
def LM.h (l : LM) : H := ⟨(((Tr.put .e l.k (some (.ro l.n (trS l.win l.off .e)))).put 0 (H0.blk 0)).put l.p (some (.cells (lenL l.cs) (trOf l.cs 0 .e) none false))).put l.m (some (.map l.es l.ord)), l.nx⟩
def LM.gs (l : LM) (g : G) : G := fun id => if l.inS id = true then g id else none
/-- The window lies in the slice. -/
def winOk (n : Nat) (l : List V) : Nat → Bool := List.rec (motive := fun _ => Nat → Bool) (fun j => Nat.ble j n) (fun v _ ih j => tt2 (Nat.blt j n) (tt2 (flat v) (ih (Nat.succ j)))) l
def LM.ok (l : LM) (vs : List V) : Bool :=
  (Nat.blt 0 l.p && (Nat.blt 0 l.m && (!Nat.beq l.k l.p && (!Nat.beq l.k l.m && !Nat.beq l.p l.m)))) &&
  ((Nat.blt l.k l.nx && (Nat.blt l.p l.nx && Nat.blt l.m l.nx)) && Nat.ble l.nx keys) &&
  ((winOk l.n l.win l.off && Nat.ble l.n keys) && Nat.ble (lenL l.cs) keys) &&
  ((l.cs.all (suppB l.inS) && l.es.all fun e => suppA l.inS e.1 && suppA l.inS e.2)) &&
  ((Nat.beq l.k 0 || l.cs.any (names l.k)) && l.cs.any (names l.m)) &&
  (vs.any (names l.p) && vs.all (suppB l.inS))
def LM.res (l : LM) (h : H) : Option (List V) :=
  ob (loneAt h l.p) fun b => oif (Nat.beq b.1 (lenL l.cs)) (ob (rdFrom b.2 b.1 b.1 0) fun c => oif (c.all (suppB l.inS))
    (ob (mapAt h l.m) fun q => oif (eqE l.es q.1) (oif (beqB l.ord q.2) (some c))))
/-- The call in the small memory hands back this tree, and the block has these cells then. -/
def LM.run (call : CallT) (l : LM) (f : FuncId) (vs : List V) (d : D) (c : List V) : Bool :=
  tt2 (l.ok vs) (Option.rec (motive := fun _ => Bool) false (fun r => Prod.rec (motive := fun _ => Bool) (fun v h => tt2 (sameD true d l.nx h v) (Option.rec (motive := fun _ => Bool) false (eqBs c) (l.res h))) r) (call (.fn f) vs l.h))
def LM.put (l : LM) (h : H) (c : List V) : H := ⟨h.t.put l.p (some (.cells (lenL c) (trOf c 0 .e) none false)), h.next⟩
end
theorem roAt_some {h : H} {id n : Nat} {t : Tr V} (e : roAt h id = some (n, t)) : h.blk id = some (.ro n t) := by
  obtain ⟨b, e1, e2⟩ := ob_some.1 e
  cases b <;> first | (cases e2; done) | (cases e2; exact e1)
theorem loneAt_some {h : H} {id n : Nat} {t : Tr V} (e : loneAt h id = some (n, t)) : h.blk id = some (.cells n t none false) := by
  obtain ⟨b, e1, e2⟩ := ob_some.1 e
  cases b with
  | cells n' t' up ch => cases up <;> cases ch <;> first | (cases e2; done) | (cases e2; exact e1)
  | _ => cases e2
theorem mapAt_some {h : H} {id : Nat} {es : List (V × V)} {o : Bool} (e : mapAt h id = some (es, o)) : h.blk id = some (.map es o) := by
  obtain ⟨b, e1, e2⟩ := ob_some.1 e
  cases b <;> first | (cases e2; done) | (cases e2; exact e1)
/-- What fits. -/
structure LM.Fits (l : LM) (h : H) : Prop where
  ro : ∃ t, h.blk l.k = some (.ro l.n t) ∧ ∀ j, j < l.win.length → t.get (l.off + j) = l.win[j]?
  lone : ∃ t, h.blk l.p = some (.cells l.cs.length t none false) ∧ ∀ j, j < l.cs.length → t.get j = l.cs[j]?
  map : h.blk l.m = some (.map l.es l.ord)
theorem LM.fits_ok {l : LM} {h : H} (e : l.fits h = some ()) : l.Fits h := by
  obtain ⟨⟨n, t⟩, e1, e⟩ := ob_some.1 e
  obtain ⟨e2, e⟩ := oif_some.1 e
  obtain ⟨w, e3, e⟩ := ob_some.1 e
  obtain ⟨e4, e⟩ := oif_some.1 e
  obtain ⟨⟨n', t'⟩, e5, e⟩ := ob_some.1 e
  obtain ⟨e6, e⟩ := oif_some.1 e
  obtain ⟨c, e7, e⟩ := ob_some.1 e
  obtain ⟨e8, e⟩ := oif_some.1 e
  obtain ⟨⟨es, o⟩, e9, e⟩ := ob_some.1 e
  obtain ⟨e10, e⟩ := oif_some.1 e
  obtain ⟨e11, _⟩ := oif_some.1 e
  have e2 : n = l.n := Nat.eq_of_beq_eq_true e2
  have e6 : n' = l.cs.length := (Nat.eq_of_beq_eq_true e6).trans (lenL_eq _)
  subst e2
  obtain rfl := eqFs_eq _ _ e4
  obtain rfl := eqBs_eq _ _ e8
  have e10 : l.es = es := eqE_eq _ _ e10
  have e11 : l.ord = o := beqB_eq2 e11
  obtain ⟨_, k3⟩ := rdFrom_get _ _ e3
  obtain ⟨_, k7⟩ := rdFrom_get _ _ e7
  refine ⟨⟨t, roAt_some e1, fun j hj => (k3 j (by rw [lenL_eq]; exact hj)).1⟩, ⟨t', ?_, fun j hj => ?_⟩, ?_⟩
  · rw [← e6]; exact loneAt_some e5
  · have := (k7 j (by show j < n'; omega)).1
    rw [Nat.zero_add] at this
    exact this
  · rw [e10, e11]; exact mapAt_some e9
theorem LM.res_ok {l : LM} {h : H} {c : List V} (e : l.res h = some c) : c.length = l.cs.length ∧ c.all (suppB l.inS) = true ∧ (∃ t, h.blk l.p = some (.cells l.cs.length t none false) ∧ ∀ j, j < l.cs.length → t.get j = c[j]?) ∧ h.blk l.m = some (.map l.es l.ord) := by
  obtain ⟨⟨n', t'⟩, e5, e⟩ := ob_some.1 e
  obtain ⟨e6, e⟩ := oif_some.1 e
  obtain ⟨c', e7, e⟩ := ob_some.1 e
  obtain ⟨e8, e⟩ := oif_some.1 e
  obtain ⟨⟨es, o⟩, e9, e⟩ := ob_some.1 e
  obtain ⟨e10, e⟩ := oif_some.1 e
  obtain ⟨e11, e⟩ := oif_some.1 e
  cases e
  have e6 : n' = l.cs.length := (Nat.eq_of_beq_eq_true e6).trans (lenL_eq _)
  have e10 : l.es = es := eqE_eq _ _ e10
  have e11 : l.ord = o := beqB_eq2 e11
  obtain ⟨k1, k7⟩ := rdFrom_get _ _ e7
  refine ⟨k1.trans e6, e8, ⟨t', ?_, fun j hj => ?_⟩, ?_⟩
  · rw [← e6]; exact loneAt_some e5
  · have := (k7 j (by show j < n'; omega)).1
    rw [Nat.zero_add] at this
    exact this
  · rw [e10, e11]; exact mapAt_some e9
theorem inS_cases {l : LM} {id : Nat} (h : l.inS id = true) : id = 0 ∨ id = l.k ∨ id = l.p ∨ id = l.m := by
  simpa [LM.inS] using h
structure LM.Ok (l : LM) (vs : List V) : Prop where
  p0 : 0 < l.p
  m0 : 0 < l.m
  kp : l.k ≠ l.p
  km : l.k ≠ l.m
  pm : l.p ≠ l.m
  kx : l.k < l.nx
  px : l.p < l.nx
  mx : l.m < l.nx
  nx : l.nx ≤ keys
  wn : l.off + l.win.length ≤ l.n
  nk : l.n ≤ keys
  ck : l.cs.length ≤ keys
  wf : l.win.all flat = true
  cf : l.cs.all (suppB l.inS) = true
  ef : ∀ e, e ∈ l.es → suppA l.inS e.1 = true ∧ suppA l.inS e.2 = true
  kd : l.k = 0 ∨ ∃ v, v ∈ l.cs ∧ names l.k v = true
  md : ∃ v, v ∈ l.cs ∧ names l.m v = true
  pd : ∃ v, v ∈ vs ∧ names l.p v = true
  vf : vs.all (suppB l.inS) = true
theorem winOk_ok {n : Nat} : ∀ (l : List V) (j : Nat), winOk n l j = true → j + l.length ≤ n ∧ l.all flat = true
  | [], j, h => ⟨by simpa using (show Nat.ble j n = true from h), rfl⟩
  | v :: l, j, h => by
    obtain ⟨_, h2⟩ := tt2_and.1 (show tt2 _ _ = true from h)
    obtain ⟨h2, h3⟩ := tt2_and.1 h2
    obtain ⟨k1, k2⟩ := winOk_ok l (j + 1) h3
    exact ⟨by rw [List.length_cons]; omega, by rw [List.all_cons, h2, k2]; rfl⟩
theorem LM.ok_ok {l : LM} {vs : List V} (e : l.ok vs = true) : l.Ok vs := by
  unfold LM.ok at e
  simp only [Bool.and_eq_true, Nat.blt_eq, Bool.not_eq_true', Nat.ble_eq, lenL_eq, Bool.or_eq_true, Nat.beq_eq, List.any_eq_true] at e
  obtain ⟨⟨⟨⟨⟨⟨a1, a2, a3, a4, a5⟩, ⟨b1, b2, b3⟩, b4⟩, ⟨c1, c2⟩, c3⟩, d2, d3⟩, e1, e2⟩, f1, f2⟩ := e
  obtain ⟨c1, d1⟩ := winOk_ok _ _ c1
  have ne : ∀ {a b : Nat}, Nat.beq a b = false → a ≠ b := fun {a b} h k => by
    rw [k, (Nat.beq_refl b : Nat.beq b b = true)] at h
    cases h
  refine ⟨a1, a2, ne a3, ne a4, ne a5, b1, b2, b3, b4, c1, c2, c3, d1, d2, fun x hx => ?_, e1, e2, f1, f2⟩
  have := List.all_eq_true.1 d3 x hx
  simpa using this
theorem suppB_one {p : Nat → Bool} {v : V} (h : suppB p v = true) : oneCell v = true := by
  cases v <;> first | rfl | cases h

section
variable {T : Ty}
/-- Where the pinned block stands in the base memory. -/
def Pin0 (T : Ty) : Prop := ∃ b t, t = trOf tbl 0 .e ∧ T.pin = [(0, b, 256, t)]
theorem Pin0.glob {T : Ty} {g : G} {h : H} (hT : Pin0 T) (hG : Glob T g h) : ∃ b z, g 0 = some (b, 0, z) ∧ h.blk 0 = some (.ro 256 (trOf tbl 0 .e)) := by
  obtain ⟨b, t, ht, hb⟩ := hT
  obtain ⟨⟨z, k1⟩, k2⟩ := hG (0, b, 256, t) (by rw [hb]; exact List.mem_singleton.2 rfl)
  exact ⟨b, z, k1, ht ▸ k2⟩
theorem H0_blk : H0.blk 0 = some (.ro 256 (trOf tbl 0 .e)) := by
  show Tr.get _ _ = _
  unfold H0
  rw [Tr.get_put _ _ _ _ (by decide), if_pos rfl]
theorem LM.blk {l : LM} {vs : List V} (o : l.Ok vs) (j : Nat) : l.h.blk j = if j = l.m then some (.map l.es l.ord) else if j = l.p then some (.cells l.cs.length (trOf l.cs 0 .e) none false) else if j = 0 then some (.ro 256 (trOf tbl 0 .e)) else if j = l.k then some (.ro l.n (trOf l.win l.off .e)) else none := by
  have k1 : l.k < keys := Nat.lt_of_lt_of_le o.kx o.nx
  have k2 : l.p < keys := Nat.lt_of_lt_of_le o.px o.nx
  have k3 : l.m < keys := Nat.lt_of_lt_of_le o.mx o.nx
  show Tr.get _ _ = _
  unfold LM.h
  rw [Tr.get_put _ _ _ _ k3, Tr.get_put _ _ _ _ k2, Tr.get_put _ _ _ _ (by decide), Tr.get_put _ _ _ _ k1, H0_blk, lenL_eq, trS_eq]
  rfl
/-- A block without kin. -/
def Blk.lone (b : Blk) : Prop := b.live = true ∧ (b.kin = none ∨ b.kin = some (none, false))
theorem Up.first' {h : H} {i j d : Nat} (u : Up h i j d) : ∃ b y ch, h.blk i = some b ∧ b.kin = some (some y, ch) := by
  cases u with
  | one e k => exact ⟨_, _, _, e, k⟩
  | step e k _ => exact ⟨_, _, _, e, k⟩
theorem no_up {g : G} {h : H} {w : World} (r : WR T g h w) {i j d : Nat} {b : Blk} (e : h.blk j = some b) (hb : b.lone) : ¬ Up h i j d := fun u => by
  obtain ⟨k, bk, d', ch', e1, e2⟩ := u.last
  obtain ⟨b', up, e3, e4, _⟩ := r.kids _ _ _ _ _ e1 e2
  rw [e] at e3
  cases e3
  rcases hb.2 with q | q <;> rw [q] at e4 <;> cases e4
theorem no_up' {h : H} {i j d : Nat} {b : Blk} (e : h.blk i = some b) (hb : b.lone) : ¬ Up h i j d := fun u => by
  obtain ⟨b', y, ch, e1, e2⟩ := u.first'
  rw [e] at e1
  cases e1
  rcases hb.2 with q | q <;> rw [q] at e2 <;> cases e2
/-- Two blocks, one of them without kin, in one place: both are only read. -/
theorem lone_mates {g : G} {h : H} {w : World} (r : WR T g h w) {i j b o z o' z' : Nat} {bi bj : Blk} (hij : i ≠ j) (h1 : g i = some (b, o, z)) (h2 : g j = some (b, o', z')) (e1 : h.blk i = some bi) (e2 : h.blk j = some bj) (hi : bi.live = true) (hj : bj.lone) : bi.isRo = true ∧ bj.isRo = true := by
  rcases r.mates i j b o z o' z' bi bj hij h1 h2 e1 e2 hi hj.1 with ⟨d, u, _⟩ | ⟨d, u, _⟩ | q
  · exact absurd u (no_up r e2 hj)
  · exact absurd u (no_up' e2 hj)
  · exact q
/-- What stands at the small memory's names in the great one. -/
theorem LM.great {g : G} {h : H} {l : LM} {vs : List V} (hT : Pin0 T) (hG : Glob T g h) (o : l.Ok vs) (f : l.Fits h) {i : Nat} {bi : Blk} (e : l.h.blk i = some bi) : ∃ B, h.blk i = some B ∧ B.lone ∧ bi.lone ∧ B.isRo = bi.isRo := by
  rw [LM.blk o] at e
  by_cases h1 : i = l.m
  · rw [if_pos h1] at e; cases e; subst h1; exact ⟨_, f.map, ⟨rfl, .inl rfl⟩, ⟨rfl, .inl rfl⟩, rfl⟩
  rw [if_neg h1] at e
  by_cases h2 : i = l.p
  · rw [if_pos h2] at e; cases e
    obtain ⟨t, ht, _⟩ := f.lone
    subst h2; exact ⟨_, ht, ⟨rfl, .inr rfl⟩, ⟨rfl, .inr rfl⟩, rfl⟩
  rw [if_neg h2] at e
  by_cases h3 : i = 0
  · rw [if_pos h3] at e; cases e
    obtain ⟨_, _, _, q⟩ := hT.glob hG
    subst h3; exact ⟨_, q, ⟨rfl, .inl rfl⟩, ⟨rfl, .inl rfl⟩, rfl⟩
  rw [if_neg h3] at e
  by_cases h4 : i = l.k
  · rw [if_pos h4] at e; cases e
    obtain ⟨t, ht, _⟩ := f.ro
    subst h4; exact ⟨_, ht, ⟨rfl, .inl rfl⟩, ⟨rfl, .inl rfl⟩, rfl⟩
  rw [if_neg h4] at e
  cases e
theorem LM.gs_some {l : LM} {g : G} {i : Nat} {x : Nat × Nat × Nat} (e : l.gs g i = some x) : l.inS i = true ∧ g i = some x := by
  unfold LM.gs at e
  split at e
  · rename_i q; exact ⟨q, e⟩
  · cases e
theorem LM.gs_of {l : LM} {g : G} {i : Nat} (hi : l.inS i = true) : l.gs g i = g i := by unfold LM.gs; rw [if_pos hi]
theorem LM.toS {l : LM} {g : G} : ∀ id x, l.inS id = true → g id = some x → l.gs g id = some x := fun id x h1 h2 => by rw [LM.gs_of h1, h2]
theorem inS0 (l : LM) : l.inS 0 = true := by simp [LM.inS]
theorem inSk (l : LM) : l.inS l.k = true := by simp [LM.inS]
theorem inSp (l : LM) : l.inS l.p = true := by simp [LM.inS]
theorem inSm (l : LM) : l.inS l.m = true := by simp [LM.inS]
theorem Ents.supp {p : Nat → Bool} {g1 g2 : G} (hg : ∀ id x, p id = true → g1 id = some x → g2 id = some x) {es : List (V × V)} {m : List MapEntry} (hp : ∀ e, e ∈ es → suppA p e.1 = true ∧ suppA p e.2 = true) (h : Ents g1 es m) : Ents g2 es m :=
  ⟨h.1.suppA hg fun v hv => by
    obtain ⟨e, he, rfl⟩ := List.mem_map.1 hv
    exact (hp e he).1, h.2.suppA hg fun v hv => by
    obtain ⟨e, he, rfl⟩ := List.mem_map.1 hv
    exact (hp e he).2⟩
theorem LM.wr {g : G} {h : H} {w : World} {l : LM} {vs : List V} (hT : Pin0 T) (r : WR T g h w) (hG : Glob T g h) (o : l.Ok vs) (f : l.Fits h) : WR T (l.gs g) l.h w := by
  have lt : ∀ {i : Nat}, l.inS i = true → i < l.nx := fun h => by
    rcases inS_cases h with rfl | rfl | rfl | rfl
    · exact Nat.lt_of_le_of_lt (Nat.zero_le _) o.px
    · exact o.kx
    · exact o.px
    · exact o.mx
  refine ⟨o.nx, fun id b e => ?_, fun id x e => lt (LM.gs_some e).1, fun id b o' z e => r.lt _ _ _ _ (LM.gs_some e).2, fun id x b e1 e2 => ?_, fun i j b o1 z1 o2 z2 bi bj hij e1 e2 e3 e4 _ _ => ?_, fun i b j d ch e1 e2 => ?_, fun i b j d ch b' e1 e2 _ => ?_⟩
  · rw [LM.blk o] at e
    apply lt
    by_cases h1 : id = l.m
    · rw [h1]; exact inSm l
    rw [if_neg h1] at e
    by_cases h2 : id = l.p
    · rw [h2]; exact inSp l
    rw [if_neg h2] at e
    by_cases h3 : id = 0
    · rw [h3]; exact inS0 l
    rw [if_neg h3] at e
    by_cases h4 : id = l.k
    · rw [h4]; exact inSk l
    rw [if_neg h4] at e
    cases e
  · obtain ⟨hs, hg⟩ := LM.gs_some e1
    rw [LM.blk o] at e2
    by_cases h1 : id = l.m
    · rw [if_pos h1] at e2
      cases e2
      subst h1
      obtain ⟨b, o', z, m, k, q1, q2, q3, q4⟩ := r.blk _ _ _ hg f.map
      exact ⟨b, o', z, m, k, LM.toS _ _ hs q1, q2, q3.supp LM.toS o.ef, q4⟩
    rw [if_neg h1] at e2
    by_cases h2 : id = l.p
    · rw [if_pos h2] at e2
      cases e2
      subst h2
      obtain ⟨t, ht, hc⟩ := f.lone
      obtain ⟨b, o', z, c, ty, q1, q2, q3, q4, q5, q6⟩ := r.blk _ _ _ hg ht
      refine ⟨b, o', z, c, ty, LM.toS _ _ hs q1, q2, q3, q4, q5, fun j v hj hv => ?_⟩
      rw [trOf_get l.cs 0 .e j (by have := o.ck; omega), if_pos (by omega), Nat.sub_zero] at hv
      obtain ⟨u, m1, m2, m3⟩ := q6 j v hj ((hc j hj).trans hv)
      exact ⟨u, m1, m2.suppB LM.toS (List.all_eq_true.1 o.cf v (List.mem_of_getElem? hv)), m3⟩
    rw [if_neg h2] at e2
    by_cases h3 : id = 0
    · rw [if_pos h3] at e2
      cases e2
      subst h3
      obtain ⟨_, _, _, q⟩ := hT.glob hG
      obtain ⟨b, o', z, c, ty, q1, q2, q3, q4, q5, q6⟩ := r.blk _ _ _ hg q
      refine ⟨b, o', z, c, ty, LM.toS _ _ hs q1, q2, q3, q4, q5, fun j v hj hv => ?_⟩
      obtain ⟨u, m1, m2, m3⟩ := q6 j v hj hv
      refine ⟨u, m1, flat_vr ?_ m2, m3⟩
      rw [trOf_get tbl 0 .e j (by rw [← tbl_len]; decide), if_pos (by rw [← tbl_len]; omega)] at hv
      exact List.all_eq_true.1 tbl_flat v (List.mem_of_getElem? hv)
    rw [if_neg h3] at e2
    by_cases h4 : id = l.k
    · rw [if_pos h4] at e2
      cases e2
      subst h4
      obtain ⟨t, ht, hc⟩ := f.ro
      obtain ⟨b, o', z, c, ty, q1, q2, q3, q4, q5, q6⟩ := r.blk _ _ _ hg ht
      refine ⟨b, o', z, c, ty, LM.toS _ _ hs q1, q2, q3, q4, q5, fun j v hj hv => ?_⟩
      rw [trOf_get l.win l.off .e j (by have := o.wn; have := o.nk; omega)] at hv
      split at hv
      · rename_i hq
        obtain ⟨u, m1, m2, m3⟩ := q6 j v hj (by
          have := hc (j - l.off) (by omega)
          rw [show l.off + (j - l.off) = j by omega] at this
          exact this.trans hv)
        exact ⟨u, m1, flat_vr (List.all_eq_true.1 o.wf v (List.mem_of_getElem? hv)) m2, m3⟩
      · cases hv
    rw [if_neg h4] at e2
    cases e2
  · obtain ⟨_, g1⟩ := LM.gs_some e1
    obtain ⟨_, g2⟩ := LM.gs_some e2
    obtain ⟨B, k1, k2, _, k3⟩ := LM.great hT hG o f e3
    obtain ⟨C, k4, k5, _, k6⟩ := LM.great hT hG o f e4
    have := lone_mates r hij g1 g2 k1 k4 k2.1 k5
    rw [k3, k6] at this
    exact .inr (.inr this)
  · obtain ⟨_, _, _, k, _⟩ := LM.great hT hG o f e1
    rcases k.2 with q | q <;> rw [q] at e2 <;> cases e2
  · obtain ⟨_, _, _, k, _⟩ := LM.great hT hG o f e1
    rcases k.2 with q | q <;> rw [q] at e2 <;> cases e2
/-- The call in the small memory is the call in the great one. -/
theorem local_ok {P : Program} {call : CallT} (hT : Pin0 T) (hk : CallOk P T call) {l : LM} {f : FuncId} {vs : List V} {d : D} {c : List V} (e : l.run call f vs d c = true) {g : G} {h : H} {w : World} {us : List Value} (r : WR T g h w) (hG : Glob T g h) (ft : l.Fits h) (hv : VRs g vs us)
    (hn : (d.bld (l.put h c)).2.next ≤ keys) : CallFn P T f us g h w (d.bld (l.put h c)).1 (d.bld (l.put h c)).2 := by
  obtain ⟨e0, e⟩ := tt2_and.1 e
  obtain ⟨v, h', e1, e2, e3⟩ : ∃ v h', call (.fn f) vs l.h = some (v, h') ∧ sameD true d l.nx h' v = true ∧ l.res h' = some c := by
    cases k : call (.fn f) vs l.h with
    | none => rw [k] at e; cases e
    | some r =>
      rw [k] at e
      obtain ⟨k1, k2⟩ := tt2_and.1 (show tt2 (sameD true d l.nx r.2 r.1) (Option.rec (motive := fun _ => Bool) false (eqBs c) (l.res r.2)) = true from e)
      cases k3 : l.res r.2 with
      | none => rw [k3] at k2; cases k2
      | some c' =>
        rw [k3] at k2
        exact ⟨r.1, r.2, rfl, k1, by rw [eqBs_eq c c' k2]; exact k3⟩
  have o := LM.ok_ok e0
  have hp : ∃ x, g l.p = some x := by
    obtain ⟨y, hy, hy2⟩ := o.pd
    obtain ⟨j, hj⟩ := List.getElem?_of_mem hy
    obtain ⟨u, _, k2⟩ := hv.get hj
    exact names_dom hy2 k2
  have cell : ∀ {y : V}, y ∈ l.cs → ∃ u, VR g y u := by
    intro y hy
    obtain ⟨x, hx⟩ := hp
    obtain ⟨t, ht, hc⟩ := ft.lone
    obtain ⟨b, o', z, cc, ty, q1, q2, q3, q4, q5, q6⟩ := r.blk _ _ _ hx ht
    obtain ⟨j, hj⟩ := List.getElem?_of_mem hy
    have hlt : j < l.cs.length := (List.getElem?_eq_some_iff.1 hj).1
    obtain ⟨u, _, m2, _⟩ := q6 j y hlt ((hc j hlt).trans hj)
    exact ⟨u, m2⟩
  have dom : ∀ {id : Nat}, l.inS id = true → ∃ x, g id = some x := by
    intro id hid
    rcases inS_cases hid with rfl | rfl | rfl | rfl
    · obtain ⟨_, _, q, _⟩ := hT.glob hG
      exact ⟨_, q⟩
    · rcases o.kd with k0 | ⟨y, hy, hy2⟩
      · rw [k0]
        obtain ⟨_, _, q, _⟩ := hT.glob hG
        exact ⟨_, q⟩
      · obtain ⟨u, hu⟩ := cell hy
        exact names_dom hy2 hu
    · exact hp
    · obtain ⟨y, hy, hy2⟩ := o.md
      obtain ⟨u, hu⟩ := cell hy
      exact names_dom hy2 hu
  have rs := LM.wr hT r hG o ft
  have Gs : Glob T (l.gs g) l.h := by
    intro q hq
    obtain ⟨b, t, ht, hb⟩ := hT
    have hq' := hq
    rw [hb] at hq'
    obtain rfl := List.mem_singleton.1 hq'
    obtain ⟨⟨z, k1⟩, _⟩ := hG _ hq
    refine ⟨⟨z, LM.toS _ _ (inS0 l) k1⟩, ?_⟩
    rw [LM.blk o, if_neg (by have := o.m0; omega), if_neg (by have := o.p0; omega), if_pos rfl, ht]
  obtain ⟨fn, m1, m2, m3, m4⟩ := hk.fn f _ _ v h' e1 (l.gs g) w us rs Gs (hv.suppB LM.toS o.vf)
  refine ⟨fn, m1, m2, m3, m4.mono ?_⟩
  rintro en w' ⟨g', u, rfl, n1, x⟩
  obtain ⟨c1, c2, ⟨tr, c3, c4⟩, c5⟩ := LM.res_ok e3
  have back : ∀ id y, l.inS id = true → g' id = some y → g id = some y := by
    intro id y hid hy
    obtain ⟨z, hz⟩ := dom hid
    have := x.le _ _ (LM.toS id z hid hz)
    rw [hy] at this
    rw [hz, this]
  have fwd : ∀ id y, l.inS id = true → g id = some y → g' id = some y := fun id y hid hy => x.le _ _ (LM.toS id y hid hy)
  obtain ⟨tp, tp1, _⟩ := ft.lone
  have loneP : (Blk.cells l.cs.length tp none false).lone := ⟨rfl, .inr rfl⟩
  have loneM : (Blk.map l.es l.ord).lone := ⟨rfl, .inl rfl⟩
  obtain ⟨xp, hxp⟩ := hp
  obtain ⟨xm, hxm⟩ := dom (inSm l)
  /- the other places stay -/
  have place : ∀ {id b o' z : Nat} {bi : Blk}, g id = some (b, o', z) → h.blk id = some bi → bi.live = true → id ≠ l.p → id ≠ l.m → w'.heap[b]? = w.heap[b]? := by
    intro id b o' z bi hg hb hl np nm
    by_cases hx : ∃ i o1 z1, l.gs g i = some (b, o1, z1)
    · obtain ⟨i, o1, z1, hi⟩ := hx
      obtain ⟨hS, hgi⟩ := LM.gs_some hi
      by_cases i1 : i = l.m
      · subst i1
        have := (lone_mates r nm hg hgi hb ft.map hl loneM).2
        cases this
      by_cases i2 : i = l.p
      · subst i2
        have := (lone_mates r np hg hgi hb tp1 hl loneP).2
        cases this
      have hblk : ∃ n cs, l.h.blk i = some (.ro n cs) := by
        rw [LM.blk o, if_neg i1, if_neg i2]
        by_cases i3 : i = 0
        · rw [if_pos i3]; exact ⟨_, _, rfl⟩
        · rw [if_neg i3]
          rcases inS_cases hS with q | q | q | q
          · exact absurd q i3
          · rw [if_pos q]; exact ⟨_, _, rfl⟩
          · exact absurd q i2
          · exact absurd q i1
      obtain ⟨n, cs, hr⟩ := hblk
      exact (x.ro i b o1 z1 n cs hi hr).2
    · exact x.keep b (r.lt _ _ _ _ hg) fun i o1 z1 k => hx ⟨i, o1, z1, k⟩
  have pk : l.p < keys := Nat.lt_of_lt_of_le o.px o.nx
  have nb : ∀ j, (l.put h c).blk j = if j = l.p then some (.cells c.length (trOf c 0 .e) none false) else h.blk j := by
    intro j
    have := blk_put h l.p j h.next (.cells (lenL c) (trOf c 0 .e) none false) pk
    rw [lenL_eq] at this
    unfold LM.put
    rw [lenL_eq]
    exact this
  have old : ∀ {i : Nat} {bi : Blk}, (l.put h c).blk i = some bi → ∃ Bi, h.blk i = some Bi ∧ Bi.kin = bi.kin ∧ Bi.live = bi.live ∧ Bi.isRo = bi.isRo := by
    intro i bi hb
    rw [nb] at hb
    by_cases hi : i = l.p
    · rw [if_pos hi] at hb; cases hb; subst hi; exact ⟨_, tp1, rfl, rfl, rfl⟩
    · rw [if_neg hi] at hb; exact ⟨_, hb, rfl, rfl, rfl⟩
  have kin' : Kin h (l.put h c) := fun i b k q1 q2 => by
    by_cases hi : i = l.p
    · subst hi
      rw [tp1] at q1
      cases q1
      cases q2
      exact ⟨_, by rw [nb, if_pos rfl], rfl⟩
    · exact ⟨b, by rw [nb, if_neg hi]; exact q1, q2⟩
  have wr1 : WR T g (l.put h c) w' := by
    refine ⟨r.bound, fun id b q => ?_, r.dom, fun id b o' z q => Nat.lt_of_lt_of_le (r.lt _ _ _ _ q) x.size, fun id y b q1 q2 => ?_, fun i j b o1 z1 o2 z2 bi bj hij q1 q2 q3 q4 q5 q6 => ?_, fun i b j d ch q1 q2 => ?_, fun i b j d ch b' q1 q2 q3 => ?_⟩
    · rw [nb] at q
      by_cases hi : id = l.p
      · subst hi; exact r.dom _ _ hxp
      · rw [if_neg hi] at q; exact r.top _ _ q
    · rw [nb] at q2
      by_cases hi : id = l.p
      · subst hi
        rw [if_pos rfl] at q2
        cases q2
        obtain ⟨b, o', z, cc, ty, k1, k2, k3, k4, k5, k6⟩ := x.wr.blk _ _ _ (fwd _ _ (inSp l) q1) c3
        refine ⟨b, o', z, cc, ty, back _ _ (inSp l) k1, k2, k3, by rw [c1]; exact k4, by rw [c1]; exact k5, fun j v hj hv => ?_⟩
        rw [trOf_get c 0 .e j (by have := o.ck; omega), if_pos (by omega), Nat.sub_zero] at hv
        obtain ⟨u', t1, t2, t3⟩ := k6 j v (by omega) ((c4 j (by omega)).trans hv)
        exact ⟨u', t1, t2.suppB back (List.all_eq_true.1 c2 v (List.mem_of_getElem? hv)), t3⟩
      · rw [if_neg hi] at q2
        by_cases hm : id = l.m
        · subst hm
          rw [ft.map] at q2
          cases q2
          obtain ⟨b, o', z, m, k, k1, k2, k3, k4⟩ := x.wr.blk _ _ _ (fwd _ _ (inSm l) q1) c5
          exact ⟨b, o', z, m, k, back _ _ (inSm l) k1, k2, k3.supp back o.ef, k4⟩
        · obtain ⟨bb, oo, zz⟩ := y
          cases hl : b.live with
          | true => exact BR.move q1 (place q1 q2 hl hi hm) (r.blk _ _ _ q1 q2)
          | false => cases b <;> first | trivial | cases hl
    · obtain ⟨Bi, k1, k2, k3, k4⟩ := old q3
      obtain ⟨Bj, k5, k6, k7, k8⟩ := old q4
      rcases r.mates i j b o1 z1 o2 z2 Bi Bj hij q1 q2 k1 k5 (k3.trans q5) (k7.trans q6) with ⟨d, u', q⟩ | ⟨d, u', q⟩ | ⟨q, q'⟩
      · exact .inl ⟨d, u'.kin kin', q⟩
      · exact .inr (.inl ⟨d, u'.kin kin', q⟩)
      · exact .inr (.inr ⟨k4 ▸ q, k8 ▸ q'⟩)
    · obtain ⟨Bi, k1, k2, _, _⟩ := old q1
      obtain ⟨b', up, p1, p2, p3⟩ := r.kids i Bi j d ch k1 (k2.trans q2)
      have hj : j ≠ l.p := fun hj => by
        subst hj
        rw [tp1] at p1
        cases p1
        cases p2
      exact ⟨b', up, by rw [nb, if_neg hj]; exact p1, p2, p3⟩
    · obtain ⟨Bi, k1, k2, _, _⟩ := old q1
      have hip : i ≠ l.p := fun hi => by
        subst hi
        rw [nb, if_pos rfl] at q1
        cases q1
        cases q2
      rw [nb, if_neg hip] at q1
      obtain ⟨b'', up, p1, p2, p3⟩ := r.kids i b j d ch q1 q2
      have hj : j ≠ l.p := fun hj => by
        subst hj
        rw [tp1] at p1
        cases p1
        cases p2
      rw [nb, if_neg hj] at q3
      exact r.ext i b j d ch b' q1 q2 q3
  have x1 : Ext T g h w g (l.put h c) w' := by
    refine ⟨g.le_refl, Nat.le_refl _, wr1, fun id hid q => ⟨q, ?_⟩, x.size, fun b hb q => x.keep b hb fun id o' z k => q id o' z (LM.gs_some k).2, (fun id b o' z q1 q2 => by rw [q2] at q1; cases q1), fun id b o' z n cs q1 q2 => ?_, x.os, x.tape, x.output⟩
    · rw [nb, if_neg]
      intro hi
      rw [hi, hxp] at q
      cases q
    · have hip : id ≠ l.p := fun hi => by
        subst hi
        rw [tp1] at q2
        cases q2
      have him : id ≠ l.m := fun hi => by
        subst hi
        rw [ft.map] at q2
        cases q2
      exact ⟨by rw [nb, if_neg hip]; exact q2, place q1 q2 rfl hip him⟩
  have roS : ∀ {i : Nat}, l.inS i = true → i ≠ l.p → i ≠ l.m → ∃ n cs, l.h.blk i = some (.ro n cs) := by
    intro i hS i2 i1
    rw [LM.blk o, if_neg i1, if_neg i2]
    by_cases i3 : i = 0
    · rw [if_pos i3]; exact ⟨_, _, rfl⟩
    · rw [if_neg i3]
      rcases inS_cases hS with q | q | q | q
      · exact absurd q i3
      · rw [if_pos q]; exact ⟨_, _, rfl⟩
      · exact absurd q i2
      · exact absurd q i1
  have rd : RdD w' (fun b => w.heap.size ≤ b ∨ ∃ i o z, l.inS i = true ∧ i ≠ l.p ∧ i ≠ l.m ∧ g i = some (b, o, z)) u d := by
    refine same_ok x.wr (fun id b o' z q1 _ q2 q3 => ?_) d e2 n1
    have h0 : l.gs g id = none := by
      cases k : l.gs g id with
      | none => rfl
      | some y => exact absurd (rs.dom _ _ k) (by show ¬ id < l.nx; omega)
    rcases x.fresh id b o' z q3 h0 with k | ⟨i, o1, z1, k⟩
    · exact .inl k
    · obtain ⟨hS, hgi⟩ := LM.gs_some k
      obtain ⟨bl, hb, hl⟩ : ∃ bl, h'.blk id = some bl ∧ bl.live = true := by
        obtain ⟨q, hq⟩ := q2
        obtain ⟨bl, k1, k2⟩ := ob_some.1 hq
        cases bl <;> first | exact ⟨_, k1, rfl⟩ | cases k2
      have hne : id ≠ i := fun hh => by
        subst hh
        rw [k] at h0
        cases h0
      have i2 : i ≠ l.p := fun hi => by
        subst hi
        have := (lone_mates x.wr hne q3 (x.le _ _ k) hb c3 hl ⟨rfl, .inr rfl⟩).2
        cases this
      have i1 : i ≠ l.m := fun hi => by
        subst hi
        have := (lone_mates x.wr hne q3 (x.le _ _ k) hb c5 hl ⟨rfl, .inl rfl⟩).2
        cases this
      exact .inr ⟨i, o1, z1, hS, i2, i1, hgi⟩
  have near : Near g w (fun b => w.heap.size ≤ b ∨ ∃ i o z, l.inS i = true ∧ i ≠ l.p ∧ i ≠ l.m ∧ g i = some (b, o, z)) := fun b hb => hb.imp id fun ⟨i, o, z, _, _, _, h⟩ => ⟨i, o, z, h⟩
  obtain ⟨g2, x2, _, _, k3, _⟩ := bldF near rd x1 (fun i b o' z k q1 q2 q3 q4 => by
    rcases q2 with q2 | ⟨j, o1, z1, hS, i2, i1, hgj⟩
    · exact absurd (r.lt _ _ _ _ q1) (by omega)
    · obtain ⟨n, cs, hr⟩ := roS hS i2 i1
      obtain ⟨B, B1, B2, _, B3⟩ := LM.great hT hG o ft hr
      have B4 : (l.put h c).blk j = some B := by rw [nb, if_neg i2]; exact B1
      by_cases hij : i = j
      · subst hij
        rw [B4] at q3
        cases q3
        exact B3
      · exact (lone_mates wr1 hij q1 hgj q3 B4 q4 B2).1) hn
  exact ⟨g2, u, rfl, k3, x2⟩
end

/- Rows: such calls, known by one number of the block that is written. -/
structure LR where
  l : LM
  vs : List V
  d : D
  c : List V
noncomputable section
def LR.use (r : LR) (vs : List V) (h : H) : Option (V × H) :=
  oif (eqBs r.vs vs) (ob (r.l.fits h) fun _ => Prod.rec (motive := fun _ => Option (V × H)) (fun v h' => oif (Nat.ble h'.next keys) (some (v, h'))) (r.d.bld (r.l.put h r.c)))
def locP (look : Nat → Option LR) (vs : List V) (h : H) : Option (V × H) :=
  caseL vs none fun x _ => asPtr (fun id _ => ob (loneAt h id) fun b => ob (b.2.get 1) fun y => asInt (fun _ n => Int.rec (motive := fun _ => Option (V × H)) (fun a => ob (look a) fun r => r.use vs h) (fun _ => none) n) y) x
def runR (call : CallT) (f : FuncId) (l : List LR) : Bool := List.rec (motive := fun _ => Bool) true (fun r _ ih => tt2 (r.l.run call f r.vs r.d r.c) ih) l
end
def LR.Ok (f : FuncId) (r : LR) : Prop := ∃ call, CallOk Tryz.prog TP call ∧ r.l.run call f r.vs r.d r.c = true
theorem pin0 : Pin0 TP := ⟨_, _, rfl, rfl⟩
theorem LR.use_ok {f : FuncId} {r : LR} (k : r.Ok f) : PrimOf f r.use := fun vs h v h' e g w us wr hG hv => by
  obtain ⟨call, hk, e0⟩ := k
  obtain ⟨e1, e⟩ := oif_some.1 e
  obtain ⟨_, e2, e⟩ := ob_some.1 e
  have e : oif (Nat.ble (r.d.bld (r.l.put h r.c)).2.next keys) (some ((r.d.bld (r.l.put h r.c)).1, (r.d.bld (r.l.put h r.c)).2)) = some (v, h') := e
  obtain ⟨e3, e⟩ := oif_some.1 e
  cases e
  obtain rfl := eqBs_eq _ _ e1
  exact local_ok pin0 hk e0 wr hG (LM.fits_ok e2) hv (by simpa using e3)
theorem locP_ok {f : FuncId} {look : Nat → Option LR} (k : ∀ a r, look a = some r → r.Ok f) : PrimOf f (locP look) := fun vs h v h' e g w us wr hG hv => by
  cases vs with
  | nil => cases e
  | cons x tl =>
    cases x with
    | ptr id off =>
      have e : (ob (loneAt h id) fun b => ob (b.2.get 1) fun y => asInt (fun _ n => Int.rec (motive := fun _ => Option (V × H)) (fun a => ob (look a) fun r => r.use (.ptr id off :: tl) h) (fun _ => none) n) y) = some (v, h') := e
      obtain ⟨b, e1, e⟩ := ob_some.1 e
      obtain ⟨y, e2, e⟩ := ob_some.1 e
      cases y with
      | int ik n =>
        cases n with
        | ofNat a =>
          have e : (ob (look a) fun r => r.use (.ptr id off :: tl) h) = some (v, h') := e
          obtain ⟨r, e3, e⟩ := ob_some.1 e
          exact LR.use_ok (k a r e3) _ _ _ _ e _ _ _ wr hG hv
        | negSucc a => cases e
      | _ => cases e
    | _ => cases e
theorem runR_ok {call : CallT} {f : FuncId} (hk : CallOk Tryz.prog TP call) : ∀ {l : List LR}, runR call f l = true → ∀ r, r ∈ l → r.Ok f
  | [], _, _, h => by cases h
  | x :: l, e, r, h => by
    obtain ⟨e1, e2⟩ := tt2_and.1 (show tt2 (x.l.run call f x.vs x.d x.c) (runR call f l) = true from e)
    cases h with
    | head => exact ⟨call, hk, e1⟩
    | tail _ h => exact runR_ok hk e2 r h
/-- What stands under a number; and the first part that ends behind it. -/
noncomputable def lookC {α : Type} (l : List (Nat × α)) (a : Nat) : Option α := List.rec (motive := fun _ => Option α) none (fun q _ ih => Bool.rec (motive := fun _ => Option α) ih (some q.2) (Nat.beq q.1 a)) l
noncomputable def lookB {α : Type} (l : List (Nat × α)) (a : Nat) : Option α := List.rec (motive := fun _ => Option α) none (fun q _ ih => Bool.rec (motive := fun _ => Option α) ih (some q.2) (Nat.blt a q.1)) l
theorem lookC_mem {α : Type} : ∀ {l : List (Nat × α)} {a : Nat} {x : α}, lookC l a = some x → ∃ q, q ∈ l ∧ q.2 = x
  | [], _, _, e => by cases e
  | q :: l, a, x, e => by
    have e : (Bool.rec (motive := fun _ => Option α) (lookC l a) (some q.2) (Nat.beq q.1 a) : Option α) = some x := e
    rw [brec_eq] at e
    split at e
    · exact ⟨q, List.mem_cons_self, Option.some.inj e⟩
    · obtain ⟨r, h1, h2⟩ := lookC_mem e
      exact ⟨r, List.mem_cons_of_mem _ h1, h2⟩
theorem lookB_mem {α : Type} : ∀ {l : List (Nat × α)} {a : Nat} {x : α}, lookB l a = some x → ∃ q, q ∈ l ∧ q.2 = x
  | [], _, _, e => by cases e
  | q :: l, a, x, e => by
    have e : (Bool.rec (motive := fun _ => Option α) (lookB l a) (some q.2) (Nat.blt a q.1) : Option α) = some x := e
    rw [brec_eq] at e
    split at e
    · exact ⟨q, List.mem_cons_self, Option.some.inj e⟩
    · obtain ⟨r, h1, h2⟩ := lookB_mem e
      exact ⟨r, List.mem_cons_of_mem _ h1, h2⟩
end Ev
end Go.Proofs.YtchmfcjfdhokoaaGreatDoor
namespace Go.Proofs.YtchmfcjfdhokoaaGreatDoor
namespace Ev
noncomputable section
def nl : D := .v .nils
def s11 (n : Nat) (c : List D) : D := .sl n 11 none c
def s23 (n : Nat) (c : List D) : D := .sl n 23 none c
def s4 (n : Nat) (c : List D) : D := .sl n 4 none c
def s11t (n : Nat) (c : List D) : D := .sl n 11 (some n) c
def s23t (n : Nat) (c : List D) : D := .sl n 23 (some n) c
def s4t (n : Nat) (c : List D) : D := .sl n 4 (some n) c
/-- An expression's cells. -/
def xg (k : Nat) (i : Int) (n c tn tc : Nat) (a1 a2 a3 a4 a5 a6 : D) (w : Bool) : List D := [.v (.int .i64 (.ofNat k)), .v (.int .i64 i), .v (.str n c), .v (.str tn tc), a1, a2, a3, a4, a5, a6, .v (.bool w)]
def z0 : List D := xg 0 (.ofNat 0) 0 0 0 0 nl nl nl nl nl nl false
def xa (k n c : Nat) : List D := xg k (.ofNat 0) n c 0 0 nl nl nl nl nl nl false
def xi (k n c : Nat) (a : D) : List D := xg k (.ofNat 0) n c 0 0 a nl nl nl nl nl false
def xn (k : Nat) (i : Int) : List D := xg k i 0 0 0 0 nl nl nl nl nl nl false
/-- A statement's cells. -/
def sg (b : Bool) (p x : List D) : List D := .v (.bool b) :: (p ++ x)
def sv (x : List D) : List D := sg false z0 x
/-- A clause's cells. -/
def cl (n c : Nat) (p g b : D) : List D := [.v (.str n c), p, g, b]
/-- A token: its kind, text, number, place; where it ends, and where the next one begins. -/
structure Tk where
  k : Nat
  n : Nat
  c : Nat
  i : Nat
  a : Nat
  e : Nat
  s : Nat
def Tk.v (t : Tk) (l : List V) : List V := .int .i64 (.ofNat t.k) :: .str t.n t.c :: .int .u64 (.ofNat t.i) :: .int .i64 (.ofNat t.a) :: l
def cellsT (l : List Tk) : List V := List.rec (motive := fun _ => List V) [] (fun t _ ih => t.v ih) l
def wordsE : List (V × V) := List.map (fun p : Nat × Nat => (.str p.1 p.2, .int .i64 (.ofNat 1))) [(5, 491328398945), (3, 6581857), (7, 31370631742516833), (4, 1684955490), (5, 474214786402), (4, 1953459810), (3, 7499618), (3, 7107426), (3, 7500642), (4, 1919907938), (4, 1702060387), (5, 448345170275), (3, 7760228), (3, 6581861), (3, 7239014), (3, 7630702), (2, 26223), (2, 29295), (6, 111546414232175), (7, 28559167692432754), (3, 7169394), (3, 7959156), (4, 1852139639), (3, 7499640)]
/-- The scanner's memory. -/
def scanM (n c a : Nat) : LM := ⟨0, 256, 0, [], 3, [.str n c, .int .i64 (.ofNat a), .map 1], 1, wordsE, true, 4⟩
def tokR (n c : Nat) (t : Tk) : LR := ⟨scanM n c t.a, [.ptr 3 0], .tup [.agg [.v (.int .i64 (.ofNat t.k)), .v (.str t.n t.c), .v (.int .u64 (.ofNat t.i)), .v (.int .i64 (.ofNat 0))], .v (.int .i64 (.ofNat 0))], [.str n c, .int .i64 (.ofNat t.e), .map 1]⟩
def skipR (n c a b : Nat) : LR := ⟨scanM n c a, [.ptr 3 0], .tup [], [.str n c, .int .i64 (.ofNat b), .map 1]⟩
def tokL (n c : Nat) (l : List Tk) : List LR := List.map (tokR n c) l
def skipL (n c : Nat) (l : List Tk) : List LR := List.map (fun t => skipR n c t.e t.s) l
/-- Rows by the place of a token, and by the place behind it; the tokens lie in parts, each with the place of the next one's first token. -/
def findTk (key : Tk → Nat) (l : List Tk) (a : Nat) : Option Tk := List.rec (motive := fun _ => Option Tk) none (fun t _ ih => Bool.rec (motive := fun _ => Option Tk) ih (some t) (Nat.beq (key t) a)) l
def lookT (n c : Nat) (l : List (Nat × List Tk)) (a : Nat) : Option LR := ob (lookB l a) fun p => ob (findTk Tk.a p a) fun t => some (tokR n c t)
def lookS (n c s : Nat) (l : List (Nat × List Tk)) (a : Nat) : Option LR :=
  Bool.rec (motive := fun _ => Option LR) (ob (lookB l (Nat.sub a 1)) fun p => ob (findTk Tk.e p a) fun t => some (skipR n c t.e t.s)) (some (skipR n c 0 s)) (Nat.beq a 0)
def beginE : List (V × V) := List.map (fun p : Nat × Nat × Nat => (.str p.1 p.2.1, .func (.func p.2.2) [.ptr 9 0] [])) [(1, 40, 42), (1, 123, 43), (1, 91, 44), (2, 15420, 45), (5, 474214786402, 46), (4, 1702060387, 47), (3, 7239014, 48), (7, 28559167692432754, 49), (3, 7959156, 50)]
/-- The parser's memory at a token: so many tokens, of which these are read. -/
def parsM (n a : Nat) (l : List Tk) : LM := ⟨7, Nat.mul 4 n, Nat.mul 4 a, cellsT l, 9, [.sl 7 0 n 0 false 4, .int .i64 (.ofNat a), .int .i64 (.ofNat 0), .map 10], 10, beginE, true, 11⟩
/-- A clause: where it begins, where it ends, its tokens. -/
def claR (n a b : Nat) (l : List Tk) (c : List D) : LR := ⟨parsM n a l, [.ptr 9 0], .agg c, [.sl 7 0 n 0 false 4, .int .i64 (.ofNat b), .int .i64 (.ofNat 0), .map 10]⟩
def toksD (n : Nat) (l : List Tk) : D := .tup [.sl n 4 none ((cellsT l).map .v), .v (.int .i64 (.ofNat 0)), .v (.int .i64 (.ofNat 0))]
end
theorem findTk_mem {key : Tk → Nat} : ∀ {l : List Tk} {a : Nat} {t : Tk}, findTk key l a = some t → t ∈ l ∧ key t = a
  | [], _, _, e => by cases e
  | q :: l, a, t, e => by
    have e : (Bool.rec (motive := fun _ => Option Tk) (findTk key l a) (some q) (Nat.beq (key q) a) : Option Tk) = some t := e
    rw [brec_eq] at e
    split at e
    · rename_i h
      cases e
      exact ⟨List.mem_cons_self, Nat.eq_of_beq_eq_true h⟩
    · exact ⟨List.mem_cons_of_mem _ (findTk_mem e).1, (findTk_mem e).2⟩
theorem tok_of {call : CallT} (hk : CallOk Tryz.prog TP call) {n c : Nat} {l : List Tk} (e : runR call 41 (tokL n c l) = true) : ∀ t ∈ l, (tokR n c t).Ok 41 :=
  fun t ht => runR_ok hk e _ (List.mem_map.2 ⟨t, ht, rfl⟩)
theorem skip_of {call : CallT} (hk : CallOk Tryz.prog TP call) {n c : Nat} {l : List Tk} (e : runR call 40 (skipL n c l) = true) : ∀ t ∈ l, (skipR n c t.e t.s).Ok 40 :=
  fun t ht => runR_ok hk e _ (List.mem_map.2 ⟨t, ht, rfl⟩)
theorem tokP_ok {n c : Nat} {l : List (Nat × List Tk)} (h : ∀ q, q ∈ l → ∀ t ∈ q.2, (tokR n c t).Ok 41) : PrimOf 41 (locP (lookT n c l)) := locP_ok fun a r e => by
  obtain ⟨p, e1, e⟩ := ob_some.1 e
  obtain ⟨t, e2, e⟩ := ob_some.1 e
  cases e
  obtain ⟨q, h1, rfl⟩ := lookB_mem e1
  exact h q h1 t (findTk_mem e2).1
theorem skipP_ok {n c s : Nat} {l : List (Nat × List Tk)} (h1 : (skipR n c 0 s).Ok 40) (h : ∀ q, q ∈ l → ∀ t ∈ q.2, (skipR n c t.e t.s).Ok 40) : PrimOf 40 (locP (lookS n c s l)) := locP_ok fun a r e => by
  unfold lookS at e
  rw [brec_eq] at e
  split at e
  · cases e; exact h1
  · obtain ⟨p, e1, e⟩ := ob_some.1 e
    obtain ⟨t, e2, e⟩ := ob_some.1 e
    cases e
    obtain ⟨q, k1, rfl⟩ := lookB_mem e1
    exact h q k1 t (findTk_mem e2).1
theorem claP_ok {l : List (Nat × LR)} (h : ∀ q, q ∈ l → q.2.Ok 31) : PrimOf 31 (locP (lookC l)) := locP_ok fun a r e => by
  obtain ⟨q, h1, rfl⟩ := lookC_mem e
  exact h q h1
/-- The newest cells are looked at, so that nothing is left to be reckoned at the end. -/
noncomputable def seenB (k : Nat) (h : H) : Bool := Option.rec (motive := fun _ => Bool) true (fun b => match b with
  | .cells n cs _ _ => Option.rec (motive := fun _ => Bool) true (fun _ => true) (rdFrom cs n k (Nat.sub n k))
  | _ => true) (h.blk (Nat.sub h.next 1))
noncomputable def eagerP (k : Nat) (p : Prim) : Prim := fun vs h => oif (seenB k h) (p vs h)
theorem eager_ok {k : Nat} {f : FuncId} {p : Prim} (h : PrimOf f p) : PrimOf f (eagerP k p) := fun vs m v m' e => h vs m v m' (oif_some.1 e).2
end Ev
end Go.Proofs.YtchmfcjfdhokoaaGreatDoor
