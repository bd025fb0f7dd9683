/-
  The calls that look at the fields of a process, as known functions.
-/
import Derived.Test.YtbfkbabolhhbaaaGreatDoorMnCut
import Derived.Test.YtbfkbabolhhbaaaGreatDoorMnW1
import Derived.Test.YtbfkbabolhhbaaaGreatDoorMnW3
namespace Go.Proofs.YtbfkbabolhhbaaaGreatDoor
set_option linter.unusedSimpArgs false
set_option linter.unusedVariables false
namespace Ev
variable [Opq]
set_option linter.unusedSectionVars false
noncomputable section
def oq (k : Nat) : V := .func (.yield k) [] []
def oqe (k : Nat) : V := .func (.yield k) [.nils] []
def okQ (j b : Nat) : Bool := (Nat.ble 97 b && Nat.ble b 122) || (Nat.blt 0 j && ((Nat.ble 65 b && Nat.ble b 90) || (Nat.ble 48 b && Nat.ble b 57) || Nat.beq b 95 || Nat.beq b 64))
def nmGo (n : Nat) : Nat → Nat → Bool := Nat.rec (motive := fun _ => Nat → Nat → Bool) (fun _ _ => true) (fun _ ih c j => okQ j (Nat.mod c 256) && ih (Nat.div c 256) (Nat.succ j)) n
def nmB (n c : Nat) : Bool := Nat.ble 1 n && (Nat.ble n 32 && nmGo n c 0)
end
theorem okQ_eq (j b : Nat) : okQ j b = okAt j b := by
  apply Bool.eq_iff_iff.2
  unfold okQ okAt
  simp only [Bool.or_eq_true, Bool.and_eq_true, decide_eq_true_eq, Nat.ble_eq, Nat.blt_eq, Nat.beq_eq]
theorem nmGo_eq : ∀ (l : List UInt8) (j : Nat), nmGo l.length (natOf l) j = true ↔ ∀ (i : Nat) (b : UInt8), l[i]? = some b → okAt (j + i) b.toNat = true
  | [], j => ⟨fun _ i b h => by simp at h, fun _ => rfl⟩
  | x :: l, j => by
    have e1 : Nat.mod (natOf (x :: l)) 256 = x.toNat := by show natOf (x :: l) % 256 = _; have := x.toNat_lt; rw [natOf_cons]; omega
    have e2 : Nat.div (natOf (x :: l)) 256 = natOf l := by show natOf (x :: l) / 256 = _; have := x.toNat_lt; rw [natOf_cons]; omega
    show (okQ j (Nat.mod (natOf (x :: l)) 256) && nmGo l.length (Nat.div (natOf (x :: l)) 256) (j + 1)) = true ↔ _
    rw [e1, e2, Bool.and_eq_true, nmGo_eq l (j + 1), okQ_eq]
    constructor
    · rintro ⟨h1, h2⟩ i b hb
      cases i with
      | zero => simp at hb; subst hb; exact h1
      | succ i => rw [show j + (i + 1) = j + 1 + i by omega]; exact h2 i b (by simpa using hb)
    · intro h
      exact ⟨h 0 x rfl, fun i b hb => by rw [show j + 1 + i = j + (i + 1) by omega]; exact h (i + 1) b (by simpa using hb)⟩
theorem nmB_eq (s : ByteArray) : nmB s.size (natOf s.data.toList) = nmS s := by
  have hl : s.data.toList.length = s.size := Array.length_toList
  have hs : s.data.size = s.size := rfl
  apply Bool.eq_iff_iff.2
  unfold nmB nmS
  have key := nmGo_eq s.data.toList 0
  rw [hl] at key
  rw [Bool.and_eq_true, Bool.and_eq_true, key, decide_eq_true_eq, Nat.ble_eq, Nat.ble_eq]
  constructor
  · rintro ⟨h1, h2, h3⟩
    refine ⟨h1, h2, fun j hj _ => ?_⟩
    have := h3 j (s[j]'hj) (by rw [Array.getElem?_toList, Array.getElem?_eq_getElem (by omega)]; rfl)
    rwa [Nat.zero_add] at this
  · rintro ⟨h1, h2, h3⟩
    refine ⟨h1, h2, fun i b hb => ?_⟩
    rw [Array.getElem?_toList] at hb
    obtain ⟨hi, rfl⟩ := Array.getElem?_eq_some_iff.1 hb
    rw [Nat.zero_add]
    exact h3 i (by omega) (by omega)
/-- The values that are only handed on: a term's fields. -/
structure TermOf (x : Tm) : Prop where
  v0 : Opq.val 0 = .int .i64 x.kind
  v1 : Opq.val 1 = .int .i64 x.int
  v2 : Opq.val 2 = .int .i64 x.gen
  v3 : Opq.val 3 = .string x.name
  v4 : Opq.val 4 = .string x.fn
  v5 : Opq.val 5 = .int .i64 x.ar
  v6 : Opq.val 6 = x.it
  v7 : Opq.val 7 = .string x.bytes
  v8 : Opq.val 8 = .int .i64 x.bits
  it : ∃ a l c, x.it = .slice a l c
theorem VR.oq_inv {g : G} {k : Nat} {u : Value} (h : VR g (.func (.yield k) [] []) u) : u = Opq.val k := by
  cases h with
  | opq h => exact h.symm
theorem VR.i64_inv {g : G} {n : Int} {u : Value} (h : VR g (.int .i64 n) u) : u = .int .i64 n := by cases h; rfl
def inr (i : Int) : Bool := decide (1 ≤ i ∧ i ≤ 2147483647)
theorem prim_still {f : FuncId} {fn : Func} (h1 : Tryz.prog.funcs[f]? = some fn) (h2 : (fn.name == "runtime.NumGoroutine") = false) (h3 : fn.body.isNone = false) {us : List Value} {g : G} {h : H} {w : World} {b : Bool} (r : WR TP g h w)
    (c : Calls Tryz.prog f us.toArray w fun e w' => e = .returned (.bool b) ∧ Still w w') : CallFn Tryz.prog TP f us g h w (.bool b) h :=
  prim_fn h1 h2 h3 (c.mono fun _ _ k => ⟨g, _, k.1, .bool b, Ext.ofStill r k.2⟩)
noncomputable section
def wQ (q1 q2 : Bool) (x : V) (a b : Int) : Option Bool := match x with
  | .func (.yield k) [] [] => oif (eqI a 1 && eqI b 2147483647) (Bool.rec (motive := fun _ => Option Bool) (Bool.rec (motive := fun _ => Option Bool) none (some q2) (Nat.beq k 2)) (some q1) (Nat.beq k 1))
  | .int .i64 n => some (!ltI n a && !ltI b n)
  | _ => none
def withinP (q1 q2 : Bool) (vs : List V) (h : H) : Option (V × H) := match vs with
  | [x, .int .i64 a, .int .i64 b] => ob (wQ q1 q2 x a b) fun q => some (.bool q, h)
  | _ => none
def nQ (q3 : Bool) (x : V) : Option Bool := match x with
  | .func (.yield k) [] [] => oif (Nat.beq k 3) (some q3)
  | .str n c => some (nmB n c)
  | _ => none
def nameP (q3 : Bool) (vs : List V) (h : H) : Option (V × H) := match vs with
  | [x] => ob (nQ q3 x) fun q => some (.bool q, h)
  | _ => none
def leftQ : V := .agg [.int .i64 0, .int .i64 0, .int .i64 0, .str 0 0, oq 4, oq 5, oq 6, oq 7, oq 8]
def zeroQ : V := .agg [.int .i64 0, .int .i64 0, .int .i64 0, .str 0 0, .str 0 0, .int .i64 0, .nils, .str 0 0, .int .i64 0]
def zeroP (vs : List V) (h : H) : Option (V × H) := match vs with
  | [x] => oif (sameV 20 x leftQ) (some (.bool false, h))
  | _ => none
def sameP (vs : List V) (h : H) : Option (V × H) := match vs with
  | [x, y] => oif (sameV 20 x leftQ && sameV 20 y zeroQ) (some (.bool false, h))
  | _ => none
end
theorem wQ_ok {q1 q2 : Bool} {x : Tm} (t : TermOf x) (h1 : inr x.int = q1) (h2 : inr x.gen = q2) {v : V} {a b : Int} {q : Bool} (e : wQ q1 q2 v a b = some q) {g : G} {u : Value} (hv : VR g v u) : ∃ n, u = .int .i64 n ∧ decide (a ≤ n ∧ n ≤ b) = q := by
  unfold wQ at e
  split at e
  · rename_i k
    obtain ⟨e0, e⟩ := oif_some.1 e
    rw [Bool.and_eq_true] at e0
    obtain ⟨a0, b0⟩ := e0
    obtain rfl := eI_eq a0
    obtain rfl := eI_eq b0
    have hu := hv.oq_inv
    rw [brec_eq, brec_eq] at e
    split at e
    · rename_i hk
      have hk := Nat.eq_of_beq_eq_true hk
      subst hk
      cases e
      exact ⟨_, hu.trans t.v1, h1⟩
    · split at e
      · rename_i hk
        have hk := Nat.eq_of_beq_eq_true hk
        subst hk
        cases e
        exact ⟨_, hu.trans t.v2, h2⟩
      · cases e
  · rename_i n
    cases e
    refine ⟨n, hv.i64_inv, ?_⟩
    apply Bool.eq_iff_iff.2
    rw [ltI_eq, ltI_eq]
    simp only [decide_eq_true_eq, Bool.and_eq_true, Bool.not_eq_true', decide_eq_false_iff_not]
    omega
  · cases e
theorem within_ok {q1 q2 : Bool} {x : Tm} (t : TermOf x) (h1 : inr x.int = q1) (h2 : inr x.gen = q2) : PrimOf 270 (withinP q1 q2) := by
  intro vs h v h' e g w us r hG hv
  unfold withinP at e
  split at e
  · obtain ⟨q, e1, e2⟩ := ob_some.1 e
    cases e2
    obtain _ | ⟨k0, _ | ⟨k1, _ | ⟨k2, _ | _⟩⟩⟩ := hv
    obtain ⟨n, rfl, rfl⟩ := wQ_ok t h1 h2 e1 k0
    rw [k1.i64_inv, k2.i64_inv]
    exact prim_still Tryz.func270 (by decide) rfl r ((within_w n _ _ w).mono fun e w' k => ⟨k.1, by rw [k.2]; exact .refl w⟩)
  · cases e
theorem between_ok {q1 q2 : Bool} {x : Tm} (t : TermOf x) (h1 : inr x.int = q1) (h2 : inr x.gen = q2) : PrimOf 134 (withinP q1 q2) := by
  intro vs h v h' e g w us r hG hv
  unfold withinP at e
  split at e
  · obtain ⟨q, e1, e2⟩ := ob_some.1 e
    cases e2
    obtain _ | ⟨k0, _ | ⟨k1, _ | ⟨k2, _ | _⟩⟩⟩ := hv
    obtain ⟨n, rfl, rfl⟩ := wQ_ok t h1 h2 e1 k0
    rw [k1.i64_inv, k2.i64_inv]
    exact prim_still Tryz.func134 (by decide) rfl r ((between_w n _ _ w).mono fun e w' k => ⟨k.1, by rw [k.2]; exact .refl w⟩)
  · cases e
theorem nQ_ok {q3 : Bool} {x : Tm} (t : TermOf x) (h3 : nmS x.name = q3) {v : V} {q : Bool} (e : nQ q3 v = some q) {g : G} {u : Value} (hv : VR g v u) : ∃ s, u = .string s ∧ nmS s = q := by
  unfold nQ at e
  split at e
  · obtain ⟨e0, e⟩ := oif_some.1 e
    have hk := Nat.eq_of_beq_eq_true e0
    subst hk
    cases e
    exact ⟨_, hv.oq_inv.trans t.v3, h3⟩
  · cases e
    cases hv
    exact ⟨_, rfl, (nmB_eq _).symm⟩
  · cases e
theorem still_iter (w : World) (s : ByteArray) (pos : Nat) : Still w (w.iter s pos) := still_alloc w _
theorem valid_ok {q3 : Bool} {x : Tm} (t : TermOf x) (h3 : nmS x.name = q3) : PrimOf 47 (nameP q3) := by
  intro vs h v h' e g w us r hG hv
  unfold nameP at e
  split at e
  · obtain ⟨q, e1, e2⟩ := ob_some.1 e
    cases e2
    obtain _ | ⟨k0, _ | _⟩ := hv
    obtain ⟨s, rfl, rfl⟩ := nQ_ok t h3 e1 k0
    refine prim_still Tryz.func47 (by decide) rfl r ((valid_w s w).mono fun e w' k => ⟨k.1, ?_⟩)
    rcases k.2 with k | ⟨pos, k⟩
    · rw [k]; exact .refl w
    · rw [k]; exact still_iter w s pos
  · cases e
theorem name_ok {q3 : Bool} {x : Tm} (t : TermOf x) (h3 : nmS x.name = q3) : PrimOf 133 (nameP q3) := by
  intro vs h v h' e g w us r hG hv
  unfold nameP at e
  split at e
  · obtain ⟨q, e1, e2⟩ := ob_some.1 e
    cases e2
    obtain _ | ⟨k0, _ | _⟩ := hv
    obtain ⟨s, rfl, rfl⟩ := nQ_ok t h3 e1 k0
    exact prim_still Tryz.func133 (by decide) rfl r ((name_w s w).mono fun e w' k => ⟨k.1, by rw [k.2]; exact .refl w⟩)
  · cases e
theorem left_inv {x : Tm} (t : TermOf x) {g : G} {u : Value} (hv : VR g leftQ u) : ∃ a l c, x.it = .slice a l c ∧ u = leftV x.fn x.ar a l c x.bytes x.bits := by
  obtain ⟨a, l, c, hit⟩ := t.it
  refine ⟨a, l, c, hit, ?_⟩
  unfold leftQ at hv
  cases hv with
  | agg hv =>
  obtain _ | ⟨h0, _ | ⟨h1, _ | ⟨h2, _ | ⟨h3, _ | ⟨h4, _ | ⟨h5, _ | ⟨h6, _ | ⟨h7, _ | ⟨h8, _ | _⟩⟩⟩⟩⟩⟩⟩⟩⟩ := hv
  obtain ⟨s, rfl, hs, _⟩ := VR.str_inv h3
  have e : s = ByteArray.empty := by
    cases s with
    | mk d =>
      have : d.toList = [] := List.length_eq_zero_iff.1 hs
      have : d = #[] := Array.toList_inj.1 this
      rw [this]
      rfl
  rw [h0.i64_inv, h1.i64_inv, h2.i64_inv, e, h4.oq_inv, h5.oq_inv, h6.oq_inv, h7.oq_inv, h8.oq_inv, t.v4, t.v5, t.v6, t.v7, t.v8, hit]
  rfl
theorem zero_inv {g : G} {u : Value} (hv : VR g zeroQ u) : u = zeroV := by
  unfold zeroQ at hv
  cases hv with
  | agg hv =>
  obtain _ | ⟨h0, _ | ⟨h1, _ | ⟨h2, _ | ⟨h3, _ | ⟨h4, _ | ⟨h5, _ | ⟨h6, _ | ⟨h7, _ | ⟨h8, _ | _⟩⟩⟩⟩⟩⟩⟩⟩⟩ := hv
  have emp : ∀ {u : Value}, VR g (.str 0 0) u → u = .string ByteArray.empty := by
    intro u h
    obtain ⟨s, rfl, hs, _⟩ := VR.str_inv h
    cases s with
    | mk d =>
      have : d.toList = [] := List.length_eq_zero_iff.1 hs
      have : d = #[] := Array.toList_inj.1 this
      rw [this]
      rfl
  have h6' : ∀ {u : Value}, VR g .nils u → u = .slice none 0 0 := fun h => by cases h; rfl
  rw [h0.i64_inv, h1.i64_inv, h2.i64_inv, emp h3, emp h4, h5.i64_inv, h6' h6, emp h7, h8.i64_inv]
  rfl
/-- Are all fields but those of a process zero? -/
def rest0 (x : Tm) : Bool := match x.it with
  | .slice _ l _ => isZ x.fn x.ar l x.bytes x.bits
  | _ => false
theorem zero_ok {x : Tm} (t : TermOf x) (hz : rest0 x = false) : PrimOf 131 zeroP := by
  intro vs h v h' e g w us r hG hv
  unfold zeroP at e
  split at e
  · obtain ⟨e1, e2⟩ := oif_some.1 e
    cases e2
    obtain _ | ⟨k0, _ | _⟩ := hv
    rw [sameV_eq 20 _ _ e1] at k0
    obtain ⟨a, l, c, hit, rfl⟩ := left_inv t k0
    have hz' : isZ x.fn x.ar l x.bytes x.bits = false := by unfold rest0 at hz; rwa [hit] at hz
    exact prim_still Tryz.func131 (by decide) rfl r ((zero_w x.fn x.ar a l c x.bytes x.bits w).mono fun e w' k => ⟨by rw [k.1, hz'], k.2⟩)
  · cases e
theorem same_ok' {x : Tm} (t : TermOf x) (hz : rest0 x = false) : PrimOf 280 sameP := by
  intro vs h v h' e g w us r hG hv
  unfold sameP at e
  split at e
  · obtain ⟨e1, e2⟩ := oif_some.1 e
    cases e2
    rw [Bool.and_eq_true] at e1
    obtain _ | ⟨k0, _ | ⟨k1, _ | _⟩⟩ := hv
    rw [sameV_eq 20 _ _ e1.1] at k0
    rw [sameV_eq 20 _ _ e1.2] at k1
    obtain ⟨a, l, c, hit, rfl⟩ := left_inv t k0
    rw [zero_inv k1]
    have hz' : isZ x.fn x.ar l x.bytes x.bits = false := by unfold rest0 at hz; rwa [hit] at hz
    exact prim_still Tryz.func280 (by decide) rfl r ((same_w x.fn x.ar a l c x.bytes x.bits w).mono fun e w' k => ⟨by rw [k.1, hz'], k.2⟩)
  · cases e
noncomputable section
def tO : V := .agg [.int .i64 6, oq 1, oq 2, oq 3, oq 4, oq 5, oq 6, oq 7, oq 8]
def tZ (i : V) : V := .agg [.int .i64 6, oq 1, oq 2, oq 3, .str 0 0, .int .i64 0, i, .str 0 0, .int .i64 0]
def prQ (q1 q2 q3 : Bool) : List (Nat × Prim) := [(270, withinP q1 q2), (134, withinP q1 q2), (47, nameP q3), (133, nameP q3)]
def prF (q1 q2 q3 : Bool) : List (Nat × Prim) := (131, zeroP) :: (280, sameP) :: prQ q1 q2 q3
def runQ (call : CallT) (f : FuncId) (v : V) (b : Bool) : Bool := Option.rec (motive := fun _ => Bool) false (fun r => eqV0 r.1 (.bool b)) (call (.fn f) [v] H0)
end
theorem run29z (q1 q2 q3 : Bool) : runQ (callS (prQ q1 q2 q3) 300) 29 (tZ .nils) (q1 && q2 && q3) = true ∧ runQ (callS (prQ q1 q2 q3) 300) 29 (tZ (oqe 6)) (q1 && q2 && q3) = true := by
  cases q1 <;> cases q2 <;> cases q3 <;> exact ⟨by kernel_rfl, by kernel_rfl⟩
theorem run9z (q1 q2 q3 : Bool) : runQ (callS (prQ q1 q2 q3) 300) 9 (tZ .nils) (q1 && q2 && q3) = true ∧ runQ (callS (prQ q1 q2 q3) 300) 9 (tZ (oqe 6)) (q1 && q2 && q3) = true := by
  cases q1 <;> cases q2 <;> cases q3 <;> exact ⟨by kernel_rfl, by kernel_rfl⟩
theorem run29n (q1 q2 q3 : Bool) : runQ (callS (prF q1 q2 q3) 300) 29 tO false = true := by
  cases q1 <;> cases q2 <;> cases q3 <;> kernel_rfl
theorem run9n (q1 q2 q3 : Bool) : runQ (callS (prF q1 q2 q3) 300) 9 tO false = true := by
  cases q1 <;> cases q2 <;> cases q3 <;> kernel_rfl
end Ev
end Go.Proofs.YtbfkbabolhhbaaaGreatDoor
