/-
  Operations that make a new block.
-/
import Derived.Test.YtihflniehaaakaaGreatDoorEvRead
import Derived.Laws.RangeString
namespace Go.Proofs.YtihflniehaaakaaGreatDoor
set_option linter.unusedVariables false
set_option linter.unusedSimpArgs false
namespace Ev
variable [Opq]
set_option linter.unusedSectionVars false
section
variable {P : Program} {T : Ty} {g : G} {ρ : Operand → Value}

theorem trOf_get : ∀ (l : List V) (i : Nat) (t : Tr V) (j : Nat), i + l.length ≤ keys → (trOf l i t).get j = if i ≤ j ∧ j < i + l.length then l[j - i]? else t.get j
  | [], i, t, j, _ => by
    rw [if_neg (by simp only [List.length_nil]; omega)]
    rfl
  | v :: l, i, t, j, h => by
    simp only [List.length_cons] at h
    show (trOf l (i + 1) (t.put i (some v))).get j = _
    rw [trOf_get l (i + 1) _ j (by omega), Tr.get_put t i j _ (by omega)]
    simp only [List.length_cons]
    by_cases h1 : j = i
    · subst h1
      rw [if_neg (by omega), if_pos rfl, if_pos (by omega)]
      simp
    · by_cases h2 : i + 1 ≤ j ∧ j < i + 1 + l.length
      · rw [if_pos h2, if_pos (by omega)]
        rw [show j - i = (j - (i + 1)) + 1 by omega, List.getElem?_cons_succ]
      · rw [if_neg h2, if_neg h1, if_neg (by omega)]
theorem allOne_mem : ∀ {l : List V}, allOne l = true → ∀ v, v ∈ l → oneCell v = true
  | [], _, v, h => by cases h
  | x :: l, ha, v, h => by
    have ha : Bool.rec (motive := fun _ => Bool) false (allOne l) (oneCell x) = true := ha
    rw [brec_eq] at ha
    split at ha
    · rename_i hx
      cases h with
      | head => exact hx
      | tail _ h => exact allOne_mem ha v h
    · cases ha
/-- What a new block is, on both sides: the model's object, its cells, and the value that names it. -/
structure Makes (P : Program) (T : Ty) (g : G) (ρ : Operand → Value) (op : Op) (blk : Blk) (mk : Nat → V) : Prop where
  kin : blk.kin = none ∨ blk.kin = some (none, false)
  live : blk.live = true
  ro : ∀ n cs, blk ≠ .ro n cs
  make : ∃ (obj : Obj) (z : Nat) (val : Nat → Value), (∀ (w : World) (o : Oper), o.op = op → (execOp ρ o).run P w = .ok (.value (val w.heap.size)) (w.alloc obj)) ∧
    (∀ (g' : G) (id b : Nat), g.le g' → g' id = some (b, 0, z) → VR g' (mk id) (val b)) ∧
    (∀ (g' : G) (w' : World) (id b : Nat), g.le g' → g' id = some (b, 0, z) → w'.heap[b]? = some obj → BR T g' w' id blk)
theorem cellsBlk_ok {l : List V} {blk : Blk} {us : List Value} (hl : VRs g l us) (hb : cellsBlk l = some blk) :
    (blk.kin = some (none, false) ∧ blk.live = true ∧ ∀ n cs, blk ≠ .ro n cs) ∧ ∀ (t : TypeId) (g' : G) (w' : World) (id b : Nat), g.le g' → g' id = some (b, 0, us.length) → w'.heap[b]? = some (.cells us.toArray t (0, 0)) → BR T g' w' id blk := by
  obtain ⟨h1, h2⟩ := oif_some.1 hb
  obtain ⟨h3, h4⟩ := oif_some.1 h2
  cases h4
  rw [lenL_eq] at h3
  have hk : l.length < keys := by simpa using h3
  refine ⟨⟨rfl, rfl, fun _ _ e => by cases e⟩, fun t g' w' id b hg hid hw => ?_⟩
  have hlen := hl.length
  refine ⟨b, 0, us.length, us.toArray, t, hid, hw, by simp, by rw [lenL_eq]; omega, by rw [lenL_eq]; omega, fun j v hj hv => ?_⟩
  rw [trOf_get l 0 _ j (by omega)] at hv
  rw [lenL_eq] at hj
  rw [if_pos (by omega)] at hv
  simp only [Nat.sub_zero] at hv
  obtain ⟨u, k1, k2⟩ := (hl.mono hg).get hv
  exact ⟨u, by simpa using k1, k2, allOne_mem h1 v (List.mem_of_getElem? hv)⟩
theorem makes_alloc (hT : TyOk P T) {t : TypeId} {z : V} {blk : Blk} (hz : zeroT T t = some z) (hb : cellsBlk (cellsOf z) = some blk) : Makes P T g ρ (.alloc t) blk (fun i => .ptr i 0) := by
  obtain ⟨zu, hzu, hzr⟩ := zeroT_ok (g := g) hT hz
  obtain ⟨⟨k1, k2, k3⟩, k4⟩ := cellsBlk_ok (T := T) (cells_ok hzu) hb
  refine ⟨.inr k1, k2, k3, .cells zu.cells t, zu.cells.toList.length, fun b => .pointer (some ⟨b, 0, none⟩), fun w o e => ?_, fun g' id b hg hid => ?_, fun g' w' id b hg hid hw => k4 t g' w' id b hg hid (by simpa using hw)⟩
  · simp [execOp, e, Instr.alloc, hzr, newVar, newRow]
  · exact .ptr (off := 0) hid
theorem makes_box {t : TypeId} {x : Operand} {v : V} {blk : Blk} (hv : VR g v (ρ x)) (hb : cellsBlk (cellsOf v) = some blk) : Makes P T g ρ (.box t x) blk (fun i => .ptr i 0) := by
  obtain ⟨⟨k1, k2, k3⟩, k4⟩ := cellsBlk_ok (T := T) (cells_ok hv) hb
  refine ⟨.inr k1, k2, k3, .cells (ρ x).cells t, (ρ x).cells.toList.length, fun b => .pointer (some ⟨b, 0, none⟩), fun w o e => ?_, fun g' id b hg hid => ?_, fun g' w' id b hg hid hw => k4 t g' w' id b hg hid (by simpa using hw)⟩
  · simp [execOp, e, Instr.box, newVar, newRow]
  · exact .ptr (off := 0) hid
theorem makes_mkm {t : TypeId} {blk : Blk} (hb : blk = .map [] true) : Makes P T g ρ (.makeMap t none) blk (fun i => .map i) := by
  subst hb
  refine ⟨.inl rfl, rfl, (fun _ _ e => by cases e), .map #[] 0, 0, fun b => .map (some b), fun w o e => ?_, fun g' id b hg hid => .map hid, fun g' w' id b hg hid hw => ⟨b, 0, 0, #[], 0, hid, hw, ⟨.nil, .nil⟩, fun _ => Born.nil⟩⟩
  simp [execOp, e, Instr.makeMap]
theorem makes_rangeS (hT : TyOk P T) {t : TypeId} {x : Operand} {n c : Nat} (h1 : T.under t = some .string) (hv : VR g (.str n c) (ρ x)) : Makes P T g ρ (.range t x) (.siter n c 0) (fun i => .ptr i 0) := by
  cases hx : ρ x <;> rw [hx] at hv <;> cases hv
  rename_i s
  refine ⟨.inl rfl, rfl, (fun _ _ e => by cases e), .stringIter s 0, 0, fun b => .pointer (some ⟨b, 0, none⟩), fun w o e => ?_, fun g' id b hg hid => .ptr (off := 0) hid, fun g' w' id b hg hid hw => ⟨b, 0, 0, s, hid, hw, rfl, rfl, rfl⟩⟩
  simp [execOp, e, hx, Instr.range, run_underlying' hT h1]
theorem repL_succ (z : List V) (n : Nat) : repL z (n + 1) = z ++ repL z n := rfl
theorem rep_ok {z : List V} {zs : Array Value} (hz : VRs g z zs.toList) (hp : 0 < zs.size) : ∀ n : Nat, VRs g (repL z n) ((List.range (n * zs.size)).map fun i => zs[i % zs.size]!)
  | 0 => by
    rw [Nat.zero_mul]
    exact VRs.nil
  | n + 1 => by
    have ih := rep_ok hz hp n
    rw [repL_succ, show (n + 1) * zs.size = zs.size + n * zs.size by rw [Nat.add_mul]; omega, List.range_add, List.map_append]
    refine VRs.append ?_ ?_
    · have : (List.range zs.size).map (fun i => zs[i % zs.size]!) = zs.toList := by
        apply List.ext_getElem
        · simp
        · intro i h1 h2
          simp at h1
          simp [Nat.mod_eq_of_lt h1, h1]
      rw [this]
      exact hz
    · rw [List.map_map]
      have : ((fun i => zs[i % zs.size]!) ∘ fun x => zs.size + x) = fun i => zs[i % zs.size]! := by
        funext x
        simp
      rw [this]
      exact ih
theorem makes_bslice (hT : TyOk P T) {t e : TypeId} {n len : Nat} {z : V} {ps : Array (Nat × Operand)} {vs cs : List V} {blk : Blk} (h1 : T.under t = some (.slice e)) (hn : posT T e = some n) (hz : zeroT T e = some z) (hl : len * n < 1048576)
    (hs : (cellsOf z).length = n) (hv : VRs g vs ((ps.toList.map (·.2)).map ρ)) (hr : fills (ps.toList.map fun p => (Nat.mul p.1 n, n)) vs (repL (cellsOf z) len) = some cs) (hb : cellsBlk cs = some blk) :
    Makes P T g ρ (.buildSlice t len ps) blk (fun i => .sl i 0 len len true n) := by
  obtain ⟨zu, hzu, hzr⟩ := zeroT_ok (g := g) hT hz
  obtain ⟨hsz, hp⟩ := posT_size hn
  have hc := cells_ok hzu
  have hzl := hc.length
  simp at hzl
  have hrep := rep_ok hc (by omega) len
  rw [List.map_map] at hv
  obtain ⟨zs', k1, k2⟩ := fills_ok (place := fun i => some (i * n, n)) (zs := (Array.range (len * n)).map fun i => zu.cells[i % zu.cells.size]!) (fun i p q e1 e2 => by
    rw [List.getElem?_map, e1] at e2
    simpa using e2) (by simp) hv (by rw [show zu.cells.size = n by omega] at hrep; simpa [show zu.cells.size = n by omega] using hrep) hr
  obtain ⟨⟨m1, m2, m3⟩, m4⟩ := cellsBlk_ok (T := T) k2 hb
  refine ⟨.inr m1, m2, m3, .cells zs' e, zs'.toList.length, fun b => .slice (some ⟨b, 0, none⟩) len len, fun w o e' => ?_, fun g' id b hg hid => .slx (off := 0) hid, fun g' w' id b hg hid hw => m4 e g' w' id b hg hid (by simpa using hw)⟩
  have hno : ¬ len * n > 2 ^ 24 := by omega
  simp only [execOp, e', Instr.buildSlice, Sem.run_bind, run_underlying' hT h1, Result.andThen_ok, run_sizeOf' hT hsz]
  by_cases h0 : len * n = 0
  · have hr0 : (Array.range (len * n)).map (fun i => zu.cells[i % zu.cells.size]!) = (Array.range (len * n)).map (fun _ => default) := by rw [h0]; simp
    rw [if_neg hno, if_pos h0]
    rw [hr0] at k1
    simp [k1, newRow]
  · rw [if_neg hno, if_neg h0]
    simp [hzr, k1, newRow]
theorem makes_mks (hT : TyOk P T) {t e : TypeId} {n l c : Nat} {z : V} {i : TypeInfo} {x y : Operand} {blk : Blk} (h1 : T.under t = some (.slice e)) (hn : posT T e = some n) (hz : zeroT T e = some z) (hi : T.info e = some i)
    (hs : (cellsOf z).length = n) (hx : VR g (.int .i64 (Int.ofNat l)) (ρ x)) (hy : VR g (.int .i64 (Int.ofNat c)) (ρ y)) (hlc : l ≤ c) (hcb : c * i.bytes < 1099511627776) (hc : c < 1099511627776) (hb : cellsBlk (repL (cellsOf z) c) = some blk) :
    Makes P T g ρ (.makeSlice t x y) blk (fun k => .sl k 0 l c true n) := by
  obtain ⟨zu, hzu, hzr⟩ := zeroT_ok (g := g) hT hz
  obtain ⟨hsz, hp⟩ := posT_size hn
  have hcz := cells_ok hzu
  have hzl := hcz.length
  simp at hzl
  have hzn : zu.cells.size = n := by omega
  have hrep := rep_ok hcz (by omega) c
  obtain ⟨⟨m1, m2, m3⟩, m4⟩ := cellsBlk_ok (T := T) hrep hb
  refine ⟨.inr m1, m2, m3, .cells ((Array.range (c * n)).map fun i => zu.cells[i % zu.cells.size]!) e, ((List.range (c * zu.cells.size)).map fun i => zu.cells[i % zu.cells.size]!).length, fun b => .slice (some ⟨b, 0, none⟩) l c, fun w o e' => ?_, fun g' id b hg hid => .slx (off := 0) hid, fun g' w' id b hg hid hw => m4 e g' w' id b hg hid ?_⟩
  · have wl : IntKind.i64.wrap (l : Int) = l := by unfold IntKind.wrap; simp [IntKind.bits, IntKind.signed]; omega
    have wc : IntKind.i64.wrap (c : Int) = c := by unfold IntKind.wrap; simp [IntKind.bits, IntKind.signed]; omega
    have hx' := hx.int_inv
    have hy' := hy.int_inv
    have hcb' : ¬ ((i.bytes : Int) * (c : Int) > 281474976710656) := by
      have : ((c * i.bytes : Nat) : Int) < 1099511627776 := Int.ofNat_lt.2 hcb
      rw [Int.natCast_mul, Int.mul_comm] at this
      omega
    have h48 : ((2 : Int) ^ 48) = 281474976710656 := by decide
    have hlc' : ¬ (l : Int) > (c : Int) := by omega
    have hl0 : ¬ (l : Int) < 0 := by omega
    have hc0 : ¬ (c : Int) < 0 := by omega
    simp only [execOp, e', hx', hy', Instr.makeSlice, Sem.run_bind, run_underlying' hT h1, Result.andThen_ok, asInt, asIntOf, Sem.run_pure, run_typeInfo' hT hi, Int.ofNat_eq_natCast, wl, wc, h48]
    rw [if_neg (by simp; omega)]
    by_cases h0 : c * n = 0
    · have hr0 : (Array.range (c * n)).map (fun i => zu.cells[i % zu.cells.size]!) = #[] := by rw [h0]; simp
      rw [hr0]
      simp [run_sizeOf' hT hsz, h0, newRow, Array.range_zero']
    · simp [run_sizeOf' hT hsz, h0, hzr, newRow]
  · rw [hw]
    congr 2
    apply Array.ext'
    simp [hzn]
theorem makes_mkm1 (hT : TyOk P T) {t k e : TypeId} {x : Operand} {kd : IntKind} {n : Int} (h1 : T.under t = some (.map k e)) (hx : VR g (.int kd n) (ρ x)) : Makes P T g ρ (.makeMap t (some x)) (.map [] true) (fun i => .map i) := by
  refine ⟨.inl rfl, rfl, (fun _ _ e => by cases e), .map #[] 0, 0, fun b => .map (some b), fun w o e => ?_, fun g' id b hg hid => .map hid, fun g' w' id b hg hid hw => ⟨b, 0, 0, #[], 0, hid, hw, ⟨.nil, .nil⟩, fun _ => Born.nil⟩⟩
  have hx' := hx.int_inv
  simp [execOp, e, Instr.makeMap, run_underlying' hT h1, hx', asInt, asIntOf]
theorem A_ok (hT : TyOk P T) {op : Op} {ao : AOp} {os : List Operand} (hc : compOp T op = some (.a ao, os)) {vs : List V} {blk : Blk} {mk : Nat → V} (hv : VRs g vs (os.map ρ)) (hr : ao.run vs = some (blk, mk)) : Makes P T g ρ op blk mk := by
  cases op
  case alloc t =>
    simp only [compOp] at hc
    obtain ⟨z, h1, h⟩ := ob_some.1 hc
    cases h
    cases hv
    obtain ⟨b, h2, h3⟩ := ob_some.1 (show ob (cellsBlk (cellsOf z)) (fun b => some (b, fun i => V.ptr i 0)) = some (blk, mk) from hr)
    cases h3
    exact makes_alloc hT h1 h2
  case box t x =>
    cases hc
    obtain ⟨a, rfl, h⟩ := hv.one
    obtain ⟨b, h2, h3⟩ := ob_some.1 (show ob (cellsBlk (cellsOf a)) (fun b => some (b, fun i => V.ptr i 0)) = some (blk, mk) from hr)
    cases h3
    exact makes_box h h2
  case buildSlice t n ps =>
    simp only [compOp] at hc
    obtain ⟨d, h0, h⟩ := ob_some.1 hc
    cases d with
    | slice e =>
      obtain ⟨es, h1, a1⟩ := ob_some.1 h
      obtain ⟨z, h2, a2⟩ := ob_some.1 a1
      obtain ⟨h3, a3⟩ := oif_some.1 a2
      cases a3
      obtain ⟨cs, h4, a4⟩ := ob_some.1 (show ob (fills (ps.toList.map fun p => (Nat.mul p.1 es, es)) vs (repL (cellsOf z) n)) (fun cs => ob (cellsBlk cs) fun b => some (b, fun i => V.sl i 0 n n true es)) = some (blk, mk) from hr)
      obtain ⟨b, h5, a5⟩ := ob_some.1 a4
      cases a5
      simp only [Bool.and_eq_true, Nat.blt_eq, Nat.beq_eq, lenL_eq, nmul] at h3
      exact makes_bslice hT h0 h1 h2 h3.1 h3.2 hv h4 h5
    | _ => cases h
  case makeMap t r =>
    simp only [compOp] at hc
    obtain ⟨d, h0, h⟩ := ob_some.1 hc
    cases d with
    | map k e =>
      cases h
      cases r with
      | none => cases hv; cases hr; exact makes_mkm rfl
      | some x =>
        obtain ⟨a, rfl, h⟩ := hv.one
        cases a <;> cases hr
        exact makes_mkm1 hT h0 h
    | _ => cases h
  case makeSlice t l c =>
    simp only [compOp] at hc
    obtain ⟨d, h0, h⟩ := ob_some.1 hc
    cases d with
    | slice e =>
      obtain ⟨n, h1, a1⟩ := ob_some.1 h
      obtain ⟨z, h2, a2⟩ := ob_some.1 a1
      obtain ⟨i, h3, a3⟩ := ob_some.1 a2
      obtain ⟨h4, a4⟩ := oif_some.1 a3
      cases a4
      obtain ⟨x, y, rfl, hx, hy⟩ := hv.two
      rw [lenL_eq] at h4
      have h4' : (cellsOf z).length = n := by simpa using h4
      cases x <;> try cases hr
      rename_i k1 n1
      cases k1 <;> try cases hr
      cases y <;> try cases hr
      rename_i k2 n2
      cases k2 <;> try cases hr
      cases n1 <;> try cases hr
      cases n2 <;> try cases hr
      rename_i l' c'
      obtain ⟨q1, q2⟩ := oif_some.1 (show oif (Nat.ble l' c') (oif (Nat.blt (Nat.mul c' i.bytes) 1099511627776) (oif (Nat.blt c' 1099511627776) (ob (cellsBlk (repL (cellsOf z) c')) fun b => some (b, fun i => V.sl i 0 l' c' true (lenL (cellsOf z)))))) = some (blk, mk) from hr)
      obtain ⟨q3, q4⟩ := oif_some.1 q2
      obtain ⟨q5, q6⟩ := oif_some.1 q4
      obtain ⟨b, q7, q8⟩ := ob_some.1 q6
      cases q8
      rw [lenL_eq, h4']
      exact makes_mks hT h0 h1 h2 h3 h4' hx hy (by simpa using q1) (by simpa [nmul] using q3) (by simpa using q5) q7
    | _ => cases h
  case range t x =>
    simp only [compOp] at hc
    obtain ⟨d, h0, h⟩ := ob_some.1 hc
    cases d with
    | string =>
      cases h
      obtain ⟨a, rfl, h⟩ := hv.one
      cases a <;> cases hr
      exact makes_rangeS hT h0 h
    | _ => cases h
  case load t x =>
    simp only [compOp] at hc
    obtain ⟨b, h1, h2⟩ := ob_some.1 hc
    obtain ⟨n, h3, h4⟩ := ob_some.1 h2
    cases h4
  case lookup t x k ok =>
    simp only [compOp] at hc
    obtain ⟨d, h1, h2⟩ := ob_some.1 hc
    cases d with
    | map kt e =>
      obtain ⟨kk, h3, h4⟩ := ob_some.1 h2
      obtain ⟨z, h5, h6⟩ := ob_some.1 h4
      cases h6
    | _ => cases h2
  case binOp op t x y t' =>
    have eq2 : ∀ {neg cst : Bool} {d : TypeDesc}, eqOp T t neg cst d = some (.a ao) → False := by
      intro neg cst d h2
      cases d with
      | interface e => obtain ⟨h4, h5⟩ := oif_some.1 h2; cases h5
      | pointer e => obtain ⟨k, h4, h5⟩ := ob_some.1 h2; cases h5
      | struct fs => obtain ⟨k, h4, h5⟩ := ob_some.1 h2; cases h5
      | _ => cases h2
    cases op
    case eql =>
      simp only [compOp] at hc
      obtain ⟨d, h1, h2⟩ := ob_some.1 hc
      obtain ⟨c, h3, h4⟩ := ob_some.1 h2
      cases h4
      exact (eq2 (neg := false) h3).elim
    case neq =>
      simp only [compOp] at hc
      obtain ⟨d, h1, h2⟩ := ob_some.1 hc
      obtain ⟨c, h3, h4⟩ := ob_some.1 h2
      cases h4
      exact (eq2 (neg := true) h3).elim
    all_goals cases hc
  case call c =>
    obtain ⟨callee, args, argTypes⟩ := c
    simp only [compOp] at hc
    cases callee with
    | value x => cases x <;> cases hc
    | invoke r m => cases hc
    | builtin b =>
      obtain ⟨t, h1, h2⟩ := ob_some.1 hc
      obtain ⟨d, h3, h4⟩ := ob_some.1 h2
      cases b
      case len =>
        cases d with
        | map k e => cases h4
        | _ => cases h4
      case append =>
        cases d with
        | slice e =>
          obtain ⟨n, _, a1⟩ := ob_some.1 h4
          obtain ⟨_, _, a2⟩ := ob_some.1 a1
          obtain ⟨_, _, a3⟩ := ob_some.1 a2
          obtain ⟨_, a4⟩ := oif_some.1 a3
          obtain ⟨_, _, a5⟩ := ob_some.1 a4
          obtain ⟨_, _, a6⟩ := ob_some.1 a5
          split at a6 <;> cases a6
        | _ => cases h4
      case copy =>
        cases d with
        | slice e =>
          obtain ⟨n, _, a1⟩ := ob_some.1 h4
          cases a1
        | _ => cases h4
      case clear =>
        cases d with
        | slice e =>
          obtain ⟨n, _, a1⟩ := ob_some.1 h4
          obtain ⟨_, _, a2⟩ := ob_some.1 a1
          cases a2
        | _ => cases h4
      case delete =>
        cases d with
        | map k e =>
          obtain ⟨_, _, a1⟩ := ob_some.1 h4
          cases a1
        | _ => cases h4
      all_goals (cases d <;> cases h4)
  case build t ps =>
    simp only [compOp] at hc
    obtain ⟨z, h1, h2⟩ := ob_some.1 hc
    obtain ⟨d, h3, h4⟩ := ob_some.1 h2
    cases d with
    | struct fs =>
      obtain ⟨pl, h5, h6⟩ := ob_some.1 h4
      obtain ⟨l, h7, h8⟩ := ob_some.1 h6
      cases h8
    | array k e =>
      obtain ⟨n, h5, h6⟩ := ob_some.1 h4
      cases h6
    | _ => cases h4
  case insert t m k x =>
    simp only [compOp] at hc
    obtain ⟨d, _, h⟩ := ob_some.1 hc
    cases d with
    | map k e =>
      obtain ⟨_, _, a1⟩ := ob_some.1 h
      cases a1
    | _ => cases h
  case mapEntry t m k =>
    simp only [compOp] at hc
    obtain ⟨d, _, h⟩ := ob_some.1 hc
    cases d with
    | map k e =>
      obtain ⟨_, _, a1⟩ := ob_some.1 h
      obtain ⟨_, _, a2⟩ := ob_some.1 a1
      cases a2
    | _ => cases h
  case mapUpdate t m k x =>
    simp only [compOp] at hc
    obtain ⟨d, _, h⟩ := ob_some.1 hc
    cases d with
    | map k e =>
      obtain ⟨_, _, a1⟩ := ob_some.1 h
      cases a1
    | _ => cases h
  case store t a x =>
    simp only [compOp] at hc
    obtain ⟨_, _, a1⟩ := ob_some.1 hc
    cases a1
  case convert s d x =>
    simp only [compOp] at hc
    obtain ⟨a, h1, h2⟩ := ob_some.1 hc
    obtain ⟨b, h3, h4⟩ := ob_some.1 h2
    cases a <;> cases b <;> first | (cases h4; done) | (cases (b2sOp_some h4).1)
  case makeInterface t x =>
    simp only [compOp] at hc
    obtain ⟨d, h1, h2⟩ := ob_some.1 hc
    cases d <;> cases h2
  case makeFunc fn a b => cases fn <;> cases hc
  case slice t x lo hi mx =>
    simp only [compOp] at hc
    obtain ⟨d, _, h⟩ := ob_some.1 hc
    cases d with
    | string => cases h
    | slice e => obtain ⟨_, _, a1⟩ := ob_some.1 h; cases a1
    | array k e => obtain ⟨_, _, a1⟩ := ob_some.1 h; cases a1
    | _ => cases h
  case fieldAddr t x i =>
    simp only [compOp] at hc
    obtain ⟨d, _, h⟩ := ob_some.1 hc
    cases d with
    | struct fs =>
      obtain ⟨_, _, a1⟩ := ob_some.1 h
      obtain ⟨_, _, a2⟩ := ob_some.1 a1
      cases a2
    | _ => cases h
  case field t x i =>
    simp only [compOp] at hc
    obtain ⟨d, _, h⟩ := ob_some.1 hc
    cases d with
    | struct fs =>
      obtain ⟨_, _, a1⟩ := ob_some.1 h
      obtain ⟨_, _, a2⟩ := ob_some.1 a1
      obtain ⟨_, _, a3⟩ := ob_some.1 a2
      cases a3
    | _ => cases h
  case indexAddr t x i =>
    simp only [compOp] at hc
    obtain ⟨d, _, h⟩ := ob_some.1 hc
    cases d with
    | slice e => obtain ⟨_, _, a1⟩ := ob_some.1 h; cases a1
    | array k e => obtain ⟨_, _, a1⟩ := ob_some.1 h; cases a1
    | _ => cases h
  case index t x i =>
    simp only [compOp] at hc
    obtain ⟨d, _, h⟩ := ob_some.1 hc
    cases d with
    | string => cases h
    | array k e =>
      obtain ⟨_, _, a1⟩ := ob_some.1 h
      obtain ⟨_, _, a2⟩ := ob_some.1 a1
      cases a2
    | _ => cases h
  case next x b => cases b <;> cases hc
  all_goals cases hc
end
end Ev
end Go.Proofs.YtihflniehaaakaaGreatDoor
namespace Go.Proofs.YtihflniehaaakaaGreatDoor
set_option linter.unusedVariables false
set_option linter.unusedSimpArgs false
namespace Ev
variable [Opq]
set_option linter.unusedSectionVars false
section
variable {P : Program} {T : Ty} {g : G} {ρ : Operand → Value} {h : H} {w : World}

/-- The operation ends in a world, with a value (or with none). -/
def Runs (P : Program) (ρ : Operand → Value) (w : World) (op : Op) (u : Value) (w' : World) : Prop :=
  ∀ o : Oper, o.op = op → (execOp ρ o).run P w = .ok (.value u) w' ∨ ((execOp ρ o).run P w = .ok .skip w' ∧ u = undef)
/-- What an operation does, on both sides. -/
def Eff (P : Program) (T : Ty) (g : G) (h : H) (w : World) (ρ : Operand → Value) (op : Op) (v : V) (h' : H) : Prop :=
  ∃ g' w' u, Ext T g h w g' h' w' ∧ VR g' v u ∧ Runs P ρ w op u w'
theorem undef_vr : VR g undefV undef := VR.tup .nil

theorem wr_cons (id : Nat) (v : V) (l : List V) (i : Nat) (h : H) : H.wr id (v :: l) i h = ob (h.wr1 id i v) fun h => H.wr id l (i + 1) h := rfl
theorem store_run {w : World} {a : Addr} {v x : Value} (h1 : v.oneCell' = true) (h2 : w.cell? a = some x) (h3 : w.frozen? a = false) : (store a v).run P w = .ok () (w.setCell a v) := by
  cases v <;> first | (simp [store, Sem.run, h2, h3]; done) | cases h1
theorem wr_ok : ∀ {l : List V} {us : List Value} {i k : Nat} {h h' : H} {w : World} {id b o z : Nat}, WR T g h w → g id = some (b, o, z) → VRs g l us → H.wr id l (i + k) h = some h' →
    ∃ w', Ext T g h w g h' w' ∧ (storeCells ⟨b, o + i, none⟩ us k).run P w = .ok () w'
  | [], _, i, k, h, h', w, id, b, o, z, r, hg, hl, e => by
    cases hl
    cases e
    exact ⟨w, .refl r, by simp [storeCells]⟩
  | v :: l, _, i, k, h, h', w, id, b, o, z, r, hg, hl, e => by
    cases hl with
    | cons hv ht =>
      rename_i u us
      rw [wr_cons] at e
      obtain ⟨h1, e1, e2⟩ := ob_some.1 e
      obtain ⟨x1, ⟨c, hc⟩, hf⟩ := Ext.wr1 r e1 hg hv
      have hone : oneCell v = true := by
        unfold H.wr1 at e1
        obtain ⟨b', _, e4⟩ := ob_some.1 e1
        cases b' with
        | cells n cs up ch =>
          obtain ⟨_, e5⟩ := oif_some.1 e4
          obtain ⟨_, e6⟩ := oif_some.1 e5
          exact (oif_some.1 e6).1
        | _ => cases e4
      obtain ⟨w', x2, h2⟩ := wr_ok (i := i) (k := k + 1) x1.wr hg ht e2
      refine ⟨w', x1.trans x2, ?_⟩
      have ha : (⟨b, o + (i + k), none⟩ : Addr) = (⟨b, o + i, none⟩ : Addr).add k := by simp [Addr.add, Nat.add_assoc]
      rw [ha] at hc hf h2
      simp only [storeCells, Sem.run_bind, store_run (oneCell_of hv hone) hc hf, Result.andThen_ok]
      rw [← ha] at h2 ⊢
      exact h2

theorem eff_store (hT : TyOk P T) (r : WR T g h w) {t : TypeId} {n : Nat} {x y : Operand} {a b v : V} {h' : H} (hn : sizeT T t = some n) (ha : VR g a (ρ x)) (hb : VR g b (ρ y)) (hr : EOp.run (.store n) [a, b] h = some (v, h')) :
    Eff P T g h w ρ (.store t x y) v h' := by
  cases a with
  | ptr id off =>
    obtain ⟨e1, e2⟩ := oif_some.1 (show oif (Nat.beq (lenL (cellsOf b)) n) (ob (H.wr id (cellsOf b) off h) fun h => some (undefV, h)) = some (v, h') from hr)
    obtain ⟨h1, e3, e4⟩ := ob_some.1 e2
    cases e4
    cases hx : ρ x <;> rw [hx] at ha <;> cases ha
    rename_i b' o z hg
    have hc := cells_ok hb
    obtain ⟨w', x1, k1⟩ := wr_ok (P := P) (i := off) (k := 0) r hg hc e3
    have hlen := hc.length
    rw [lenL_eq] at e1
    have e1' : (cellsOf b).length = n := by simpa using e1
    refine ⟨g, w', undef, x1, undef_vr, fun o' e' => .inr ⟨?_, rfl⟩⟩
    have hs : ¬ (ρ y).cells.size ≠ n := by simp only [ne_eq, Decidable.not_not]; simp at hlen; omega
    simp only [execOp, e', hx, Instr.storeAt, Instr.sureAddr, storeVar, Sem.run_bind, Sem.run_pure, Result.andThen_ok, run_sizeOf' hT hn]
    rw [if_neg hs]
    simp [k1]
  | _ => cases hr
theorem run_firstCells_sl {a : Addr} {len cap n es : Nat} {us : List Value} (hl : us.length = n * es) (hc : ∀ (j : Nat) (u : Value), us[j]? = some u → w.cell? (a.add j) = some u) :
    (Builtin.firstCells es n (.slice (some a) len cap)).run P w = .ok us.toArray w := by
  simp only [Builtin.firstCells]
  rw [← hl]
  exact run_loadCells_list w a us hc
theorem bytesL_ok (g : G) : ∀ l : List UInt8, VRs g (bytesL l.length (natOf l)) (l.map fun b => Value.int .u8 b.toNat)
  | [] => .nil
  | b :: l => by
    have hb := b.toNat_lt
    have e1 : (b.toNat + 256 * natOf l) % 256 = b.toNat := by omega
    have e2 : (b.toNat + 256 * natOf l) / 256 = natOf l := by omega
    show VRs g (.int .u8 (Int.ofNat (Nat.mod (b.toNat + 256 * natOf l) 256)) :: bytesL l.length (Nat.div (b.toNat + 256 * natOf l) 256)) _
    rw [show Nat.mod (b.toNat + 256 * natOf l) 256 = b.toNat from e1, show Nat.div (b.toNat + 256 * natOf l) 256 = natOf l from e2]
    exact .cons (.int _ _) (bytesL_ok g l)
/-- The cells of a slice that is read. -/
theorem src_ok (r : WR T g h w) {es : Nat} {a : V} {u : Value} {p : Nat × List V} (ha : VR g a u) (e : srcCells0 es a h = some p) :
    ∃ us : List Value, VRs g p.2 us ∧ us.length = p.1 * es ∧ (∀ w, (Builtin.lenOf u).run P w = .ok p.1 w) ∧
      ∀ w2 : World, w2.heap = w.heap → ∀ k, k ≤ p.1 → (Builtin.firstCells es k u).run P w2 = .ok (us.take (k * es)).toArray w2 := by
  cases a with
  | nils =>
    cases e
    cases ha
    refine ⟨[], .nil, by simp, fun w => by simp [Builtin.lenOf], fun w2 _ k _ => by simp [Builtin.firstCells]⟩
  | sl id off len cap ex es' =>
    obtain ⟨e1, e2⟩ := oif_some.1 (show oif (Nat.beq es es') (ob (h.rd id off (Nat.mul len es)) fun l => some (len, l)) = some p from e)
    obtain ⟨l, e3, e4⟩ := ob_some.1 e2
    cases e4
    have main : ∀ {b o z : Nat} {u : Value}, g id = some (b, o, z) → (∃ c, u = .slice (some ⟨b, o + off, none⟩) len c) → ∃ us : List Value, VRs g l us ∧ us.length = len * es ∧ (∀ w, (Builtin.lenOf u).run P w = .ok len w) ∧
      ∀ w2 : World, w2.heap = w.heap → ∀ k, k ≤ len → (Builtin.firstCells es k u).run P w2 = .ok (us.take (k * es)).toArray w2 := by
      intro b o z u hg hu
      obtain ⟨c, rfl⟩ := hu
      obtain ⟨us, k1, k2, k3, _⟩ := rd_ok r hg e3
      have hadd : ∀ j, (⟨b, o + off, none⟩ : Addr).add j = ⟨b, o + off + j, none⟩ := fun j => by simp [Addr.add]
      rw [nmul] at k2
      refine ⟨us, k1, k2, fun w => by simp [Builtin.lenOf], fun w2 hw k hk => run_firstCells_sl ?_ fun j u hj => ?_⟩
      · rw [List.length_take, k2, Nat.min_eq_left (Nat.mul_le_mul_right es hk)]
      · rw [hadd]
        have hcw : ∀ q, w2.cell? q = w.cell? q := fun q => by simp [World.cell?, hw]
        rw [hcw]
        refine k3 j u ?_
        rw [List.getElem?_take] at hj
        split at hj
        · exact hj
        · cases hj
    have empty : ∀ {b p : Nat}, len = 0 → ∃ us : List Value, VRs g l us ∧ us.length = 0 * es ∧ (∀ w, (Builtin.lenOf (.slice (some ⟨b, p, none⟩) 0 0)).run P w = .ok 0 w) ∧
      ∀ w2 : World, w2.heap = w.heap → ∀ k, k ≤ 0 → (Builtin.firstCells es k (.slice (some ⟨b, p, none⟩) 0 0)).run P w2 = .ok (us.take (k * es)).toArray w2 := by
      intro b p h0
      subst h0
      have hl : l = [] := by
        rw [nmul, Nat.zero_mul] at e3
        unfold H.rd at e3
        obtain ⟨q, _, m2⟩ := ob_some.1 e3
        cases m2
        rfl
      subst hl
      refine ⟨[], .nil, by simp, fun w => by simp [Builtin.lenOf], fun w2 hw k hk => run_firstCells_sl ?_ fun j u hj => ?_⟩
      · rw [show k = 0 by omega]; simp
      · simp at hj
    cases ha with
    | slx hg => exact main hg ⟨_, rfl⟩
    | sli hg hc hl => exact main hg ⟨_, rfl⟩
    | sl0 hg _ => exact empty rfl
    | slx0 hg => exact empty rfl
  | str n c =>
    obtain ⟨e1, e2⟩ := oif_some.1 (show oif (Nat.beq es 1) (some (n, bytesL n c)) = some p from e)
    have h1 : es = 1 := by simpa using e1
    subst h1
    cases e2
    cases ha
    rename_i s
    have hbs := bytesL_ok g s.data.toList
    refine ⟨s.data.toList.map (fun b : UInt8 => Value.int .u8 b.toNat), hbs, by simp, fun w => by simp [Builtin.lenOf], fun w2 _ k hk => ?_⟩
    have hk' : k ≤ s.data.toList.length := hk
    simp only [Builtin.firstCells, Sem.run_pure, Result.ok.injEq, and_true]
    apply Array.ext'
    simp
  | _ => cases e
theorem args_two {args : Array Operand} {vs : List V} {a b : V} (hv : VRs g vs (args.toList.map ρ)) (h : vs = [a, b]) : ∃ x y, args.map ρ = #[ρ x, ρ y] ∧ VR g a (ρ x) ∧ VR g b (ρ y) := by
  subst h
  have hl := hv.length
  simp at hl
  cases ha : args.toList with
  | nil => rw [← Array.length_toList, ha] at hl; cases hl
  | cons x l => cases l with
    | nil => rw [← Array.length_toList, ha] at hl; simp at hl
    | cons y l => cases l with
      | cons z l => rw [← Array.length_toList, ha] at hl; simp at hl
      | nil =>
        rw [ha] at hv
        obtain ⟨p, q, e, h1, h2⟩ := hv.two
        cases e
        exact ⟨x, y, by apply Array.ext'; simp [ha], h1, h2⟩
theorem args_one {args : Array Operand} {vs : List V} {a : V} (hv : VRs g vs (args.toList.map ρ)) (h : vs = [a]) : ∃ x, args.map ρ = #[ρ x] ∧ VR g a (ρ x) := by
  subst h
  have hl := hv.length
  simp at hl
  cases ha : args.toList with
  | nil => rw [← Array.length_toList, ha] at hl; cases hl
  | cons x l => cases l with
    | cons y l => rw [← Array.length_toList, ha] at hl; simp at hl
    | nil =>
      rw [ha] at hv
      obtain ⟨p, e, h1⟩ := hv.one
      cases e
      exact ⟨x, by apply Array.ext'; simp [ha], h1⟩
/-- A slice by its place. -/
theorem sl_cases {id off len cap es : Nat} {ex : Bool} {u : Value} (h : VR g (.sl id off len cap ex es) u) :
    (∃ b o z c, g id = some (b, o, z) ∧ u = .slice (some ⟨b, o + off, none⟩) len c) ∨ (len = 0 ∧ ∃ b o z p, g id = some (b, o, z) ∧ u = .slice (some ⟨b, p, none⟩) 0 0) := by
  cases h with
  | slx hg => exact .inl ⟨_, _, _, _, hg, rfl⟩
  | sli hg hc hl => exact .inl ⟨_, _, _, _, hg, rfl⟩
  | sl0 hg _ => exact .inr ⟨rfl, _, _, _, _, hg, rfl⟩
  | slx0 hg => exact .inr ⟨rfl, _, _, _, _, hg, rfl⟩
theorem eff_copy (hT : TyOk P T) (r : WR T g h w) {t e : TypeId} {n : Nat} {args : Array Operand} {at' : Array TypeId} {vs : List V} {v : V} {h' : H} (h0 : at'[0]? = some t) (h1 : T.under t = some (.slice e)) (hn : posT T e = some n)
    (hv : VRs g vs (args.toList.map ρ)) (hr : EOp.run (.copy n) vs h = some (v, h')) : Eff P T g h w ρ (.call ⟨.builtin .copy, args, at'⟩) v h' := by
  obtain ⟨d, x, rfl⟩ : ∃ d x, vs = [d, x] := by
    cases vs with
    | nil => cases hr
    | cons d vs => cases vs with
      | nil => cases hr
      | cons x vs => cases vs with
        | nil => exact ⟨d, x, rfl⟩
        | cons y vs => cases hr
  obtain ⟨xo, yo, ha, hd, hx⟩ := args_two hv rfl
  have hsz := (posT_size hn).1
  obtain ⟨p, e1, e2⟩ := ob_some.1 (show ob (srcCells0 n x h) (fun p => match d with
    | .nils => some (.int .i64 (Int.ofNat 0), h)
    | .sl id off len _ _ es' => oif (Nat.beq n es') (ob (takeL (Nat.mul (Nat.min p.1 len) n) p.2) fun l => ob (H.wr id l off h) fun h => some (.int .i64 (Int.ofNat (Nat.min p.1 len)), h))
    | _ => none) = some (v, h') from hr)
  obtain ⟨us, k1, k2, k3, k4⟩ := src_ok (P := P) r hx e1
  have zero : ∀ {u : Value}, u = ρ xo → (∃ q c, u = .slice q 0 c) → Runs P ρ w (.call ⟨.builtin .copy, args, at'⟩) (.int .i64 (Int.ofNat 0)) w := by
    intro u hu hq o e'
    obtain ⟨q, c, hq⟩ := hq
    have hf : (Builtin.firstCells n 0 (ρ yo)).run P w = .ok #[] w := by
      rw [k4 w rfl 0 (Nat.zero_le _)]
      simp
    left
    cases q with
    | none => simp [execOp, e', resolve, invoke, builtin, ha, Builtin.copy_, ← hu, hq, h0, run_underlying' hT h1, k3, run_sizeOf' hT hsz, hf, goInt]
    | some q => simp [execOp, e', resolve, invoke, builtin, ha, Builtin.copy_, ← hu, hq, h0, run_underlying' hT h1, k3, run_sizeOf' hT hsz, hf, goInt, storeCells]
  cases d with
  | nils =>
    cases e2
    have hd' : ρ xo = .slice none 0 0 := by cases hx' : ρ xo <;> rw [hx'] at hd <;> cases hd; rfl
    exact ⟨g, w, _, .refl r, .int .i64 _, zero rfl ⟨none, 0, hd'⟩⟩
  | sl id off len cap ex es' =>
    obtain ⟨_, e3⟩ := oif_some.1 e2
    obtain ⟨l, e4, e5⟩ := ob_some.1 e3
    obtain ⟨h2, e6, e7⟩ := ob_some.1 e5
    cases e7
    obtain ⟨rfl, hle⟩ := takeL_some e4
    rw [nmul, nmin] at *
    rcases sl_cases hd with ⟨b, o, z, c, hg, hu⟩ | ⟨rfl, b, o, z, q, hg, hu⟩
    · have hl := k1.take (min p.1 len * n)
      obtain ⟨w', x1, s1⟩ := wr_ok (P := P) (i := off) (k := 0) r hg hl e6
      refine ⟨g, w', _, x1, .int .i64 _, fun o' e' => .inl ?_⟩
      have hf := k4 w rfl (min p.1 len) (Nat.min_le_left _ _)
      simp [execOp, e', resolve, invoke, builtin, ha, Builtin.copy_, hu, h0, run_underlying' hT h1, k3, run_sizeOf' hT hsz, nmin, hf, s1, goInt]
    · simp only [Nat.min_zero, Nat.zero_mul, List.take_zero] at e6 ⊢
      cases e6
      exact ⟨g, w, _, .refl r, .int .i64 _, zero rfl ⟨_, 0, hu⟩⟩
  | _ => cases e2
theorem repL_nil (n : Nat) : repL [] n = [] := by
  induction n with
  | zero => rfl
  | succ n ih => rw [repL_succ, ih]; rfl
theorem rep_ok' {z : List V} {zs : Array Value} (hz : VRs g z zs.toList) (n : Nat) : VRs g (repL z n) ((List.range (n * zs.size)).map fun i => zs[i % zs.size]!) := by
  rcases Nat.eq_zero_or_pos zs.size with h0 | hp
  · have hl := hz.length
    have hl' : z.length = 0 := by simpa [h0] using hl
    rw [List.eq_nil_of_length_eq_zero hl', repL_nil, h0]
    simp only [Nat.mul_zero, List.range_zero, List.map_nil]
    exact .nil
  · exact rep_ok hz hp n
theorem eff_clear (hT : TyOk P T) (r : WR T g h w) {t e : TypeId} {z : V} {args : Array Operand} {at' : Array TypeId} {vs : List V} {v : V} {h' : H} (h0 : at'[0]? = some t) (h1 : T.under t = some (.slice e)) (hz : zeroT T e = some z)
    (hv : VRs g vs (args.toList.map ρ)) (hr : EOp.run (.clear (cellsOf z)) vs h = some (v, h')) : Eff P T g h w ρ (.call ⟨.builtin .clear, args, at'⟩) v h' := by
  obtain ⟨d, rfl⟩ : ∃ d, vs = [d] := by
    cases vs with
    | nil => cases hr
    | cons d vs => cases vs with
      | nil => exact ⟨d, rfl⟩
      | cons y vs => cases d <;> cases hr
  obtain ⟨xo, ha, hd⟩ := args_one hv rfl
  obtain ⟨zu, hzu, hzr⟩ := zeroT_ok (g := g) hT hz
  have nothing : ∀ {q : Option Addr} {c : Nat}, ρ xo = .slice q 0 c → Runs P ρ w (.call ⟨.builtin .clear, args, at'⟩) (.tuple #[]) w := by
    intro q c hu o e'
    left
    cases q <;> simp [execOp, e', resolve, invoke, builtin, ha, Builtin.clear_, hu, h0, run_underlying' hT h1]
  cases d with
  | nils =>
    cases hr
    have hd' : ρ xo = .slice none 0 0 := by cases hx' : ρ xo <;> rw [hx'] at hd <;> cases hd; rfl
    exact ⟨g, w, _, .refl r, VR.tup .nil, nothing hd'⟩
  | sl id off len cap ex es =>
    obtain ⟨e1, e2⟩ := oif_some.1 (show oif (Nat.beq (lenL (cellsOf z)) es) (ob (H.wr id (repL (cellsOf z) len) off h) fun h => some (.tup [], h)) = some (v, h') from hr)
    obtain ⟨h2, e3, e4⟩ := ob_some.1 e2
    cases e4
    rcases sl_cases hd with ⟨b, o, zz, c, hg, hu⟩ | ⟨rfl, b, o, zz, q, hg, hu⟩
    · cases len with
      | zero =>
        cases e3
        exact ⟨g, w, _, .refl r, VR.tup .nil, nothing hu⟩
      | succ len =>
        have hc := cells_ok hzu
        have hrep := rep_ok' hc (len + 1)
        obtain ⟨w', x1, s1⟩ := wr_ok (P := P) (i := off) (k := 0) r hg hrep e3
        refine ⟨g, w', _, x1, VR.tup .nil, fun o' e' => .inl ?_⟩
        simp [execOp, e', resolve, invoke, builtin, ha, Builtin.clear_, hu, h0, run_underlying' hT h1, hzr, Builtin.zeroCells, s1]
    · cases e3
      exact ⟨g, w, _, .refl r, VR.tup .nil, nothing hu⟩
  | _ => cases hr
theorem heap_setObj {w : World} {b : Nat} {o x : Obj} (h : w.heap[b]? = some x) : (w.heap.setIfInBounds b o)[b]? = some o := by
  have hb : b < w.heap.size := by
    rcases Nat.lt_or_ge b w.heap.size with k | k
    · exact k
    · rw [Array.getElem?_eq_none k] at h; cases h
  rw [Array.getElem?_setIfInBounds_self_of_lt hb]
theorem eff_nextS (r : WR T g h w) {x : Operand} {a v : V} {h' : H} (ha : VR g a (ρ x)) (hr : EOp.run .nextS [a] h = some (v, h')) : Eff P T g h w ρ (.next x true) v h' := by
  cases a with
  | ptr id off =>
    cases off with
    | succ off => cases hr
    | zero =>
      obtain ⟨k, e1, e2⟩ := ob_some.1 (show ob (h.blk id) (fun b => match b with
        | .siter n c pos => Bool.rec (motive := fun _ => Option (V × H)) (some (.tup [.bool false], h))
            (oif (Nat.blt (Nat.mod (Nat.shiftRight c (Nat.mul 8 pos)) 256) 128)
              (some (.tup [.bool true, .int .i64 (Int.ofNat pos), .int .i32 (Int.ofNat (Nat.mod (Nat.shiftRight c (Nat.mul 8 pos)) 256))], ⟨h.t.put id (some (.siter n c (Nat.succ pos))), h.next⟩))) (Nat.blt pos n)
        | _ => none) = some (v, h') from hr)
      cases k with
      | siter n c pos =>
        simp only [brec_eq] at e2
        cases hx : ρ x <;> rw [hx] at ha <;> cases ha
        rename_i b o z hg
        obtain ⟨b', o', z', s, k1, k2, k3, k4, k5⟩ := r.blk id _ _ hg e1
        rw [hg] at k1
        cases k1
        subst k5
        by_cases hp : pos < n
        · rw [if_pos (by simpa using hp)] at e2
          obtain ⟨e3, e4⟩ := oif_some.1 e2
          cases e4
          have hp' : pos < s.size := by omega
          have hb : natOf s.data.toList / 256 ^ pos % 256 = s[pos].toNat := natOf_get (by simp [ByteArray.getElem_eq_getElem_data, ← ByteArray.size_data] )
          rw [nmod, nshr, nmul, pow8, ← k4, hb] at e3 ⊢
          have hd := decode_ascii s pos hp' (by simpa using e3)
          refine ⟨g, { w with heap := w.heap.setIfInBounds b (.stringIter s (pos + 1)) }, _, ?_, .tup (.cons (.bool true) (.cons (.int _ _) (.cons (.int _ _) .nil))), fun o' e' => .inl ?_⟩
          · refine Ext.upd r hg e1 rfl rfl rfl (fun _ _ h => by cases h) (fun j hj => ?_) (by simp) rfl rfl rfl ⟨b, 0, z, s, hg, heap_setObj k2, k3, rfl, rfl⟩
            simp [Array.getElem?_setIfInBounds_ne (Ne.symm hj)]
          · simp [execOp, e', hx, Instr.next, getObj, setObj, Sem.run, k2, hp', hd, goInt]
        · rw [if_neg (by simpa using hp)] at e2
          cases e2
          refine ⟨g, w, _, .refl r, .tup (.cons (.bool false) .nil), fun o' e' => .inl ?_⟩
          have hp' : ¬ pos < s.size := by omega
          simp [execOp, e', hx, Instr.next, getObj, Sem.run, k2, hp']
      | _ => cases e2
  | _ => cases hr
/-- Where a key stands. -/
noncomputable def posE (h : H) (kk : Kk) (k : V) : List (V × V) → Option (Option Nat)
  | [] => some none
  | e :: tl => ob (eqKey h kk k e.1) fun b => if b = true then some (some 0) else ob (posE h kk k tl) fun r => some (r.map (· + 1))
theorem putE_cons (h : H) (kk : Kk) (k v : V) (e : V × V) (tl : List (V × V)) : putE h kk k v (e :: tl) = ob (eqKey h kk k e.1) fun b => if b = true then some ((k, v) :: tl) else ob (putE h kk k v tl) fun r => some (e :: r) := by
  show ob (eqKey h kk k e.1) (fun b => Bool.rec (motive := fun _ => Option (List (V × V))) (ob (putE h kk k v tl) fun r => some (e :: r)) (some ((k, v) :: tl)) b) = _
  simp only [brec_eq]
theorem delE_cons (h : H) (kk : Kk) (k : V) (e : V × V) (tl : List (V × V)) : delE h kk k (e :: tl) = ob (eqKey h kk k e.1) fun b => if b = true then some tl else ob (delE h kk k tl) fun r => some (e :: r) := by
  show ob (eqKey h kk k e.1) (fun b => Bool.rec (motive := fun _ => Option (List (V × V))) (ob (delE h kk k tl) fun r => some (e :: r)) (some tl) b) = _
  simp only [brec_eq]
theorem putE_pos {kk : Kk} {k v : V} : ∀ {es es' : List (V × V)}, putE h kk k v es = some es' → ∃ p, posE h kk k es = some p ∧ es' = (match p with | none => es ++ [(k, v)] | some j => es.set j (k, v))
  | [], es', e => by cases e; exact ⟨none, rfl, rfl⟩
  | x :: tl, es', e => by
    rw [putE_cons] at e
    obtain ⟨b, e1, e2⟩ := ob_some.1 e
    cases b with
    | true => cases e2; exact ⟨some 0, by simp [posE, e1, ob_of], rfl⟩
    | false =>
      obtain ⟨r, e3, e4⟩ := ob_some.1 e2
      cases e4
      obtain ⟨p, k1, k2⟩ := putE_pos e3
      refine ⟨p.map (· + 1), by simp [posE, e1, ob_of, k1], ?_⟩
      cases p <;> simp [k2]
theorem delE_pos {kk : Kk} {k : V} : ∀ {es es' : List (V × V)}, delE h kk k es = some es' → ∃ p, posE h kk k es = some p ∧ es' = (match p with | none => es | some j => es.eraseIdx j)
  | [], es', e => by cases e; exact ⟨none, rfl, rfl⟩
  | x :: tl, es', e => by
    rw [delE_cons] at e
    obtain ⟨b, e1, e2⟩ := ob_some.1 e
    cases b with
    | true => cases e2; exact ⟨some 0, by simp [posE, e1, ob_of], rfl⟩
    | false =>
      obtain ⟨r, e3, e4⟩ := ob_some.1 e2
      cases e4
      obtain ⟨p, k1, k2⟩ := delE_pos e3
      refine ⟨p.map (· + 1), by simp [posE, e1, ob_of, k1], ?_⟩
      cases p <;> simp [k2]
theorem pos_ok (hT : TyOk P T) (r : WR T g h w) {t : TypeId} {d : TypeDesc} {kk : Kk} {x : V} {a : Value} (h1 : T.under t = some d) (hk : keyT T t = some kk) (ha : VR g x a) :
    ∀ (es : List (V × V)) (m : List MapEntry) (i : Nat) (p : Option Nat), Ents g es m → posE h kk x es = some p → ∃ q, (Instr.findAsking t a m i).run P w = .ok q w ∧ (∀ q', Instr.findNow d a m i = some q' → q' = q) ∧
      (match p with | none => q = none | some j => ∃ e ke, m[j]? = some e ∧ q = some (i + j, e.val) ∧ es[j]? = some ke ∧ eqKey h kk x ke.1 = some true ∧ VR g ke.1 e.key) := by
  intro es
  induction es with
  | nil =>
    intro m i res hm hr
    cases hr
    cases m with
    | nil => exact ⟨none, by simp [Instr.findAsking], (fun q' e => by simp [Instr.findNow] at e; exact e.symm), rfl⟩
    | cons => have := hm.1.length; simp at this
  | cons e es ih =>
    intro m i res hm hr
    cases m with
    | nil => have := hm.1.length; simp at this
    | cons f m =>
      simp only [posE] at hr
      obtain ⟨b, h2, h3⟩ := ob_some.1 hr
      obtain ⟨hm1, hm2⟩ := hm
      cases hm1 with
      | cons hk1 ht1 => cases hm2 with
        | cons hv1 hv2 =>
          have heq := eqKey_ok hT r hk ha hk1 h2
          cases b with
          | true =>
            cases h3
            refine ⟨_, by simp [Instr.findAsking, heq], fun q' e' => ?_, f, e, rfl, rfl, rfl, h2, hk1⟩
            simp only [Instr.findNow] at e'
            cases hs : Instr.sameNow d a f.key with
            | none => rw [hs] at e'; cases e'
            | some s =>
              rw [sameNow_eq hT h1 hk ha hk1 h2 hs] at hs
              rw [hs] at e'
              exact (Option.some.inj e').symm
          | false =>
            obtain ⟨p, h4, h5⟩ := ob_some.1 (show ob (posE h kk x es) (fun r => some (r.map (· + 1))) = some res from h3)
            cases h5
            obtain ⟨q, f2, f3, f4⟩ := ih m (i + 1) p ⟨ht1, hv2⟩ h4
            refine ⟨q, by simp [Instr.findAsking, heq, f2], fun q' e' => ?_, ?_⟩
            · simp only [Instr.findNow] at e'
              cases hs : Instr.sameNow d a f.key with
              | none => rw [hs] at e'; cases e'
              | some s =>
                rw [sameNow_eq hT h1 hk ha hk1 h2 hs] at hs
                rw [hs] at e'
                exact f3 q' e'
            · cases p with
              | none => exact f4
              | some j =>
                obtain ⟨e', ke, m1, m2, m3, m4, m5⟩ := f4
                exact ⟨e', ke, by simpa using m1, by rw [m2]; simp; omega, by simpa using m3, m4, m5⟩
theorem posKey_ok (hT : TyOk P T) (r : WR T g h w) {t : TypeId} {d : TypeDesc} {kk : Kk} {x : V} {a : Value} {es : List (V × V)} {m : List MapEntry} {p : Option Nat} (h1 : T.under t = some d) (hk : keyT T t = some kk) (ha : VR g x a) (hm : Ents g es m)
    (hr : posE h kk x es = some p) : ∃ q, (Instr.findKey t a m).run P w = .ok q w ∧
      (match p with | none => q = none | some j => ∃ e ke, m[j]? = some e ∧ q = some (j, e.val) ∧ es[j]? = some ke ∧ eqKey h kk x ke.1 = some true ∧ VR g ke.1 e.key) := by
  obtain ⟨q, f1, f2, f3⟩ := pos_ok hT r h1 hk ha es m 0 p hm hr
  refine ⟨q, ?_, ?_⟩
  · simp only [Instr.findKey, Sem.run_bind, run_underlying' hT h1, Result.andThen_ok]
    cases hn : Instr.findNow d a m 0 with
    | none => exact f1
    | some q' => rw [f2 q' hn]; rfl
  · cases p with
    | none => exact f3
    | some j => simpa using f3
theorem same1 {k : Pk} {x y : V} {a b : Value} (ha : VR g x a) (hb : VR g y b) (he : eq1 h k x y = some true) (n : Nat) : Instr.sameBits n b a = true := by
  cases k <;> cases x <;> cases y <;> first | (cases he; done) | skip
  · obtain ⟨e1, e2⟩ := oif_some.1 he
    rw [ha.int_inv, hb.int_inv]
    rw [eqI_eq] at e2
    simp only [Option.some.injEq, beq_iff_eq] at e2
    rw [eqK_eq] at e1
    subst e1 e2
    cases n <;> simp [Instr.sameBits]
  · cases ha
    cases hb
    have he := Option.some.inj he
    rw [size_eq, size_eq, strEq_eq] at he
    rename_i s s' _
    have : s = s' := by
      obtain ⟨⟨p⟩⟩ := s
      obtain ⟨⟨q⟩⟩ := s'
      simp at he
      simp [he]
    subst this
    have hs : (s == s) = true := by
      obtain ⟨p⟩ := s
      show (p == p) = true
      simp
    cases n <;> simp [Instr.sameBits, hs]
  · rw [ha.bool_inv, hb.bool_inv]
    have he := Option.some.inj he
    rw [beqB_eq] at he
    simp at he
    subst he
    cases n <;> simp [Instr.sameBits]
  · cases ha
    cases hb
    cases n <;> simp [Instr.sameBits]
  · cases ha
    cases hb
    rename_i i1 o1 i2 o2 b1 z1 zz1 hg1 b2 z2 zz2 hg2
    have he' : (Bool.rec (motive := fun _ => Option Bool) (oif (h.alone i1) (oif (h.alone i2) (some false))) (some (Nat.beq o1 o2)) (Nat.beq i1 i2)) = some true := he
    clear he
    rw [brec_eq] at he'
    have he := he'
    clear he'
    split at he
    · rename_i hi
      have hi' : i1 = i2 := by simpa using hi
      subst hi'
      have ho : o1 = o2 := by simpa using he
      subst ho
      rw [hg1] at hg2
      cases hg2
      cases n <;> simp [Instr.sameBits]
    · obtain ⟨_, he⟩ := oif_some.1 he
      obtain ⟨_, he⟩ := oif_some.1 he
      cases he
theorem sameAll {ks : List Pk} : ∀ {xs ys : List V} {as bs : List Value}, VRs g xs as → VRs g ys bs → eqL h ks xs ys = some true → ∀ n, ((bs.zip as).all fun p => Instr.sameBits n p.1 p.2) = true ∧ bs.length = as.length := by
  induction ks with
  | nil =>
    intro xs ys as bs ha hb he n
    cases xs with
    | cons x xs => cases he
    | nil => cases ys with
      | cons y ys => cases he
      | nil => cases ha; cases hb; exact ⟨rfl, rfl⟩
  | cons k ks ih =>
    intro xs ys as bs ha hb he n
    cases xs with
    | nil => cases he
    | cons x xs => cases ys with
      | nil => cases he
      | cons y ys =>
        cases ha with
        | cons hx hxs => cases hb with
          | cons hy hys =>
            obtain ⟨c, e1, e2⟩ := ob_some.1 (show ob (eq1 h k x y) (fun c => Bool.rec (motive := fun _ => Option Bool) (some false) (eqL h ks xs ys) c) = some true from he)
            cases c with
            | false => cases e2
            | true =>
              obtain ⟨m1, m2⟩ := ih hxs hys e2 n
              exact ⟨by simp only [List.zip_cons_cons, List.all_cons, Bool.and_eq_true]; exact ⟨same1 hx hy e1 n, m1⟩, by simp [m2]⟩
theorem sameKey {k : Kk} {x y : V} {a b : Value} (ha : VR g x a) (hb : VR g y b) (he : eqKey h k x y = some true) (n : Nat) : Instr.sameBits (n + 1) b a = true := by
  cases k with
  | one k => exact same1 ha hb he _
  | agg ks =>
    cases x <;> first | (cases he; done) | skip
    cases y <;> first | (cases he; done) | skip
    cases ha with
    | agg ha => cases hb with
      | agg hb =>
        obtain ⟨m1, m2⟩ := sameAll ha hb he n
        simp only [Instr.sameBits, Bool.and_eq_true]
        refine ⟨by simp [m2], ?_⟩
        exact m1
theorem map_inv {id : Nat} {u : Value} (h : VR g (.map id) u) : ∃ b o z, g id = some (b, o, z) ∧ u = .map (some b) := by
  cases h with
  | map hg => exact ⟨_, _, _, hg, rfl⟩
theorem VRs.setL : ∀ {a : List V} {x : List Value} {v : V} {u : Value} (j : Nat), VRs g a x → VR g v u → VRs g (a.set j v) (x.set j u)
  | _, _, _, _, _, .nil, _ => .nil
  | _, _, _, _, 0, .cons _ t, k => .cons k t
  | _, _, _, _, j + 1, .cons h t, k => .cons h (VRs.setL j t k)
theorem VRs.eraseL : ∀ {a : List V} {x : List Value} (j : Nat), VRs g a x → VRs g (a.eraseIdx j) (x.eraseIdx j)
  | _, _, _, .nil => .nil
  | _, _, 0, .cons _ t => t
  | _, _, j + 1, .cons h t => .cons h (VRs.eraseL j t)
theorem map_erase {α β : Type} (f : α → β) : ∀ (l : List α) (j : Nat), (l.eraseIdx j).map f = (l.map f).eraseIdx j
  | [], _ => by simp
  | _ :: _, 0 => by simp
  | a :: l, j + 1 => by simp [map_erase f l j]
theorem run_setObj_map {w : World} {b : Nat} {m : Array MapEntry} {c : Nat} (o : Obj) (hb : w.heap[b]? = some (.map m c)) : (setObj b o).run P w = .ok () { w with heap := w.heap.setIfInBounds b o } := by
  simp [setObj, Sem.run, hb]
theorem ext_map (r : WR T g h w) {id b o z : Nat} {es es' : List (V × V)} {m m' : Array MapEntry} {c c' : Nat} (hg : g id = some (b, o, z)) {od od' : Bool} (he : h.blk id = some (.map es od)) (hb : w.heap[b]? = some (.map m c)) (hm : Ents g es' m'.toList) (hn : od' = true → Born m'.toList c') :
    Ext T g h w g ⟨h.t.put id (some (.map es' od')), h.next⟩ { w with heap := w.heap.setIfInBounds b (.map m' c') } := by
  refine Ext.upd r hg he rfl rfl rfl (fun _ _ h => by cases h) (fun j hj => ?_) (by simp) rfl rfl rfl ⟨b, o, z, m', c', hg, heap_setObj hb, hm, hn⟩
  simp [Array.getElem?_setIfInBounds_ne (Ne.symm hj)]
theorem eff_mapup (hT : TyOk P T) (r : WR T g h w) {t kt e : TypeId} {kk : Kk} {x y z : Operand} {a b c v : V} {h' : H} (h1 : T.under t = some (.map kt e)) (hk : keyT T kt = some kk) (ha : VR g a (ρ x)) (hb : VR g b (ρ y)) (hc : VR g c (ρ z))
    (hr : EOp.run (.mapup kk) [a, b, c] h = some (v, h')) : ∃ g' w', Ext T g h w g' h' w' ∧ VR g' v undef ∧ (Instr.mapUpdate t (ρ x) (ρ y) (ρ z)).run P w = .ok () w' := by
  cases a with
  | map id =>
    obtain ⟨e0, e1⟩ := oif_some.1 (show (oif (keyShape kk b) <| ob (h.entries id) fun es => ob (putE h kk b c es) fun es => some (undefV, (⟨h.t.put id (some (.map es (h.ord id))), h.next⟩ : H))) = some (v, h') from hr)
    obtain ⟨es, e2, e3⟩ := ob_some.1 e1
    obtain ⟨es', e4, e5⟩ := ob_some.1 e3
    cases e5
    obtain ⟨bb, o, zz, hg, hx⟩ := map_inv ha
    obtain ⟨m, cl, hm, hen, od, hblk, hord, hbn⟩ := entries_ok r hg e2
    obtain ⟨p, hp, rfl⟩ := putE_pos e4
    obtain ⟨d, hd, _⟩ : ∃ d, T.under kt = some d ∧ True := by
      unfold keyT at hk
      obtain ⟨d, h2, _⟩ := ob_some.1 hk
      exact ⟨d, h2, trivial⟩
    obtain ⟨q, hq, hq'⟩ := posKey_ok hT r hd hk hb hen hp
    have hck := checkKey_ok (w := w) hT hk hb e0 false
    cases p with
    | none =>
      subst hq'
      refine ⟨g, _, ext_map (m' := m.push { key := ρ y, val := ρ z, born := cl }) (c' := cl + 1) r hg hblk hm ?_ ?_, undef_vr, ?_⟩
      · simp only [Array.toList_push]
        exact ⟨by simpa using hen.1.append (.cons hb .nil), by simpa using hen.2.append (.cons hc .nil)⟩
      · intro ho
        rw [Array.toList_push]
        exact (hbn (hord ▸ ho)).push rfl
      · simp [hx, Instr.mapUpdate, run_underlying' hT h1, run_getObj_map hm, hck, hq, run_setObj_map _ hm]
    | some j =>
      obtain ⟨e', ke, m1, rfl, m3, m4, m5⟩ := hq'
      have hsame := sameKey hb m5 m4 9999
      have m1' : m[j]? = some e' := by simpa using m1
      have hl : (m.modify j fun e => { e with key := ρ y, val := ρ z }).toList = m.toList.set j { e' with key := ρ y, val := ρ z } := by
          apply List.ext_getElem?
          intro i
          rw [Array.getElem?_toList, Array.getElem?_modify, List.getElem?_set]
          by_cases hij : j = i
          · subst hij
            have : j < m.toList.length := by
              rcases Nat.lt_or_ge j m.toList.length with k | k
              · exact k
              · rw [List.getElem?_eq_none k] at m1; cases m1
            have hj : j < m.size := by simpa using this
            have he : m[j] = e' := by
              have := m1'
              rw [Array.getElem?_eq_getElem hj] at this
              exact Option.some.inj this
            simp [hj, he]
          · simp [hij]
      refine ⟨g, _, ext_map (m' := m.modify j fun e => { e with key := ρ y, val := ρ z }) (c' := cl) r hg hblk hm ?_ ?_, undef_vr, ?_⟩
      · rw [hl]
        refine ⟨?_, ?_⟩
        · rw [List.map_set, List.map_set]
          exact VRs.setL j hen.1 hb
        · rw [List.map_set, List.map_set]
          exact VRs.setL j hen.2 hc
      · intro ho
        rw [hl]
        exact (hbn (hord ▸ ho)).set m1 rfl
      · simp [hx, Instr.mapUpdate, run_underlying' hT h1, run_getObj_map hm, hck, hq, run_setObj_map _ hm, Instr.keyThatStays, hsame, m1']
  | _ => cases hr
theorem eff_delete (hT : TyOk P T) (r : WR T g h w) {t kt e : TypeId} {kk : Kk} {args : Array Operand} {at' : Array TypeId} {vs : List V} {v : V} {h' : H} (h0 : at'[0]? = some t) (h1 : T.under t = some (.map kt e)) (hk : keyT T kt = some kk)
    (hv : VRs g vs (args.toList.map ρ)) (hr : EOp.run (.delete kk) vs h = some (v, h')) : Eff P T g h w ρ (.call ⟨.builtin .delete, args, at'⟩) v h' := by
  obtain ⟨a, b, rfl⟩ : ∃ d x, vs = [d, x] := by
    cases vs with
    | nil => cases hr
    | cons d vs => cases vs with
      | nil => cases d <;> cases hr
      | cons x vs => cases vs with
        | nil => exact ⟨d, x, rfl⟩
        | cons y vs => cases d <;> cases hr
  obtain ⟨x, y, hargs, ha, hb⟩ := args_two hv rfl
  cases a with
  | map id =>
    obtain ⟨e0, e1⟩ := oif_some.1 (show (oif (keyShape kk b) <| ob (h.entries id) fun es => ob (delE h kk b es) fun es => some ((V.tup [], ⟨h.t.put id (some (.map es false)), h.next⟩) : V × H)) = some (v, h') from hr)
    obtain ⟨es, e2, e3⟩ := ob_some.1 e1
    obtain ⟨es', e4, e5⟩ := ob_some.1 e3
    cases e5
    obtain ⟨bb, o, zz, hg, hx⟩ := map_inv ha
    obtain ⟨m, cl, hm, hen, od, hblk, hord, hbn⟩ := entries_ok r hg e2
    obtain ⟨p, hp, rfl⟩ := delE_pos e4
    obtain ⟨d, hd, _⟩ : ∃ d, T.under kt = some d ∧ True := by
      unfold keyT at hk
      obtain ⟨d, h2, _⟩ := ob_some.1 hk
      exact ⟨d, h2, trivial⟩
    obtain ⟨q, hq, hq'⟩ := posKey_ok hT r hd hk hb hen hp
    have hck := checkKey_ok (w := w) hT hk hb e0 (m.isEmpty)
    cases p with
    | none =>
      subst hq'
      refine ⟨g, _, _, ext_map (m' := m) (c' := cl) r hg hblk hm hen (fun e => by cases e), .tup .nil, fun o' e' => .inl ?_⟩
      simp [execOp, e', resolve, invoke, builtin, hargs, h0, hx, Builtin.delete_, run_underlying' hT h1, run_getObj_map hm, hck, hq, run_setObj_map _ hm]
    | some j =>
      obtain ⟨e'', ke, m1, rfl, m3, m4, m5⟩ := hq'
      refine ⟨g, _, _, ext_map (m' := m.eraseIdxIfInBounds j) (c' := cl) r hg hblk hm ?_ (fun e => by cases e), .tup .nil, fun o' e' => .inl ?_⟩
      · have hl : (m.eraseIdxIfInBounds j).toList = m.toList.eraseIdx j := by simp
        rw [hl]
        refine ⟨?_, ?_⟩
        · rw [map_erase, map_erase]
          exact VRs.eraseL j hen.1
        · rw [map_erase, map_erase]
          exact VRs.eraseL j hen.2
      · simp [execOp, e', resolve, invoke, builtin, hargs, h0, hx, Builtin.delete_, run_underlying' hT h1, run_getObj_map hm, hck, hq, run_setObj_map _ hm]
  | _ => cases hr
theorem posK_eq (h : H) (kk : Kk) (k : V) : ∀ es, posK h kk k es = posE h kk k es
  | [] => rfl
  | e :: tl => by
    show ob (eqKey h kk k e.1) (fun b => Bool.rec (motive := fun _ => Option (Option Nat)) (ob (posK h kk k tl) fun r => some (r.map (· + 1))) (some (some 0)) b) = _
    rw [posK_eq h kk k tl]
    simp only [brec_eq, posE]
theorem modify_set {m : Array MapEntry} {j : Nat} {e : MapEntry} (f : MapEntry → MapEntry) (h : m.toList[j]? = some e) : (m.modify j f).toList = m.toList.set j (f e) := by
  have m1' : m[j]? = some e := by simpa using h
  apply List.ext_getElem?
  intro i
  rw [Array.getElem?_toList, Array.getElem?_modify, List.getElem?_set]
  by_cases hij : j = i
  · subst hij
    have hj : j < m.size := by
      rcases Nat.lt_or_ge j m.size with k | k
      · exact k
      · rw [Array.getElem?_eq_none k] at m1'; cases m1'
    have he : m[j] = e := by
      rw [Array.getElem?_eq_getElem hj] at m1'
      exact Option.some.inj m1'
    simp [hj, he]
  · simp [hij]
theorem eff_mapent (hT : TyOk P T) (r : WR T g h w) {t kt e : TypeId} {kk : Kk} {x y : Operand} {z a b v : V} {h' : H} (h1 : T.under t = some (.map kt e)) (hk : keyT T kt = some kk) (hz : zeroT T e = some z) (ha : VR g a (ρ x)) (hb : VR g b (ρ y))
    (hr : EOp.run (.mapent kk z) [a, b] h = some (v, h')) : ∃ g' w' u, Ext T g h w g' h' w' ∧ VR g' v u ∧ (Instr.mapEntry t (ρ x) (ρ y)).run P w = .ok u w' := by
  cases a with
  | map id =>
    obtain ⟨e0, e1⟩ := oif_some.1 (show (oif (keyShape kk b && h.ord id) <| ob (h.entries id) fun es => ob (posK h kk b es) fun p => Option.rec (motive := fun _ => Option (V × H))
      (some (.tup [z, .int .i64 (Int.ofNat (lenL es))], ⟨h.t.put id (some (.map (es ++ [(b, z)]) true)), h.next⟩))
      (fun j => ob (nthL es j) fun e => some (.tup [e.2, .int .i64 (Int.ofNat j)], ⟨h.t.put id (some (.map (es.set j (b, e.2)) true)), h.next⟩)) p) = some (v, h') from hr)
    obtain ⟨es, e2, e3⟩ := ob_some.1 e1
    obtain ⟨p, hp, e5⟩ := ob_some.1 e3
    rw [Bool.and_eq_true] at e0
    obtain ⟨e0, eo⟩ := e0
    obtain ⟨bb, o, zz, hg, hx⟩ := map_inv ha
    obtain ⟨m, cl, hm, hen, od, hblk, hord, hbn⟩ := entries_ok r hg e2
    have hbn := hbn (hord ▸ eo)
    rw [posK_eq] at hp
    obtain ⟨d, hd, _⟩ : ∃ d, T.under kt = some d ∧ True := by
      unfold keyT at hk
      obtain ⟨d, h2, _⟩ := ob_some.1 hk
      exact ⟨d, h2, trivial⟩
    obtain ⟨q, hq, hq'⟩ := posKey_ok hT r hd hk hb hen hp
    have hck := checkKey_ok (w := w) hT hk hb e0 false
    have hlen : es.length = m.size := by have := hen.1.length; simpa using this
    cases p with
    | none =>
      subst hq'
      cases e5
      obtain ⟨zu, hzr, hzu⟩ := zeroT_ok (g := g) hT hz
      refine ⟨g, _, .tuple #[zu, .int .i64 (Int.ofNat (lenL es))], ext_map (m' := m.push { key := ρ y, val := zu, born := cl }) (c' := cl + 1) r hg hblk hm ?_ ?_, .tup (.cons hzr (.cons (.int _ _) .nil)), ?_⟩
      · simp only [Array.toList_push]
        exact ⟨by simpa using hen.1.append (.cons hb .nil), by simpa using hen.2.append (.cons hzr .nil)⟩
      · intro _
        rw [Array.toList_push]
        exact hbn.push rfl
      · have hcl : (goInt cl : Value) = .int .i64 (Int.ofNat (lenL es)) := by
          rw [lenL_eq, hlen]
          have := hbn.1
          simp only [Array.length_toList] at this
          rw [this]
          rfl
        simp [hx, Instr.mapEntry, run_underlying' hT h1, run_getObj_map hm, hck, hq, run_setObj_map _ hm, hzu, hcl]
    | some j =>
      obtain ⟨e', ke, m1, rfl, m3, m4, m5⟩ := hq'
      obtain ⟨ke', n1, n2⟩ := ob_some.1 e5
      cases n2
      rw [nthL_eq, m3] at n1
      cases n1
      have hsame := sameKey hb m5 m4 9999
      have m1' : m[j]? = some e' := by simpa using m1
      have hl := modify_set (fun e => { e with key := ρ y }) m1
      obtain ⟨uv, s1, s2⟩ := hen.2.get (i := j) (v := ke.2) (by rw [List.getElem?_map, m3]; rfl)
      rw [List.getElem?_map, m1] at s1
      cases s1
      have hbj := hbn.2 j e' m1
      refine ⟨g, _, .tuple #[e'.val, .int .i64 (Int.ofNat j)], ext_map (m' := m.modify j fun e => { e with key := ρ y }) (c' := cl) r hg hblk hm ?_ ?_, .tup (.cons s2 (.cons (.int _ _) .nil)), ?_⟩
      · rw [hl]
        refine ⟨?_, ?_⟩
        · rw [List.map_set, List.map_set]
          exact VRs.setL j hen.1 hb
        · rw [List.map_set, List.map_set]
          exact VRs.setL j hen.2 s2
      · intro _
        rw [hl]
        exact hbn.set m1 rfl
      · simp [hx, Instr.mapEntry, run_underlying' hT h1, run_getObj_map hm, hck, hq, run_setObj_map _ hm, Instr.keyThatStays, hsame, m1', hbj, goInt]
  | _ => cases hr
theorem eff_entst (r : WR T g h w) {t : TypeId} {x y z : Operand} {a b c v : V} {h' : H} (ha : VR g a (ρ x)) (hb : VR g b (ρ y)) (hc : VR g c (ρ z))
    (hr : EOp.run .entst [a, b, c] h = some (v, h')) : ∃ g' w', Ext T g h w g' h' w' ∧ VR g' v undef ∧ (Instr.entryStore t (ρ x) (ρ y) (ρ z)).run P w = .ok () w' := by
  cases a with
  | map id =>
    cases b with
    | int k s =>
      obtain ⟨eo, e1⟩ := oif_some.1 (show (oif (h.ord id) <| ob (h.entries id) fun es => ob (idx s (lenL es)) fun j => ob (nthL es j) fun e => some (undefV, (⟨h.t.put id (some (.map (es.set j (e.1, c)) true)), h.next⟩ : H))) = some (v, h') from hr)
      obtain ⟨es, e2, e3⟩ := ob_some.1 e1
      obtain ⟨j, hj, e4⟩ := ob_some.1 e3
      obtain ⟨ke, n1, e5⟩ := ob_some.1 e4
      cases e5
      obtain ⟨bb, o, zz, hg, hx⟩ := map_inv ha
      obtain ⟨m, cl, hm, hen, od, hblk, hord, hbn⟩ := entries_ok r hg e2
      have hbn := hbn (hord ▸ eo)
      have hs := idx_some hj
      rw [lenL_eq] at hs
      have hlen : es.length = m.size := by have := hen.1.length; simpa using this
      obtain ⟨rfl, hlt⟩ := hs
      have hjm : j < m.size := by omega
      have m1 : m.toList[j]? = some m[j] := by simp [hjm]
      rw [nthL_eq] at n1
      have hl := modify_set (fun e => { e with val := ρ z }) m1
      obtain ⟨uk, s1, s2⟩ := hen.1.get (i := j) (v := ke.1) (by rw [List.getElem?_map, n1]; rfl)
      rw [List.getElem?_map, m1] at s1
      cases s1
      refine ⟨g, _, ext_map (m' := m.modify j fun e => { e with val := ρ z }) (c' := cl) r hg hblk hm ?_ ?_, undef_vr, ?_⟩
      · rw [hl]
        refine ⟨?_, ?_⟩
        · rw [List.map_set, List.map_set]
          exact VRs.setL j hen.1 s2
        · rw [List.map_set, List.map_set]
          exact VRs.setL j hen.2 hc
      · intro _
        rw [hl]
        exact hbn.set m1 rfl
      · have hb' := hb.int_inv
        have hf : m.findIdx? (fun e => (e.born : Int) == Int.ofNat j) = some j := by
          rw [Array.findIdx?_eq_some_iff_getElem]
          refine ⟨hjm, ?_, fun i hi => ?_⟩
          · have := hbn.2 j m[j] m1
            rw [this]
            exact beq_self_eq_true _
          · have hi' : i < m.size := by omega
            have := hbn.2 i m[i] (by simp [hi'])
            rw [this]
            simp
            omega
        simp [hx, hb', Instr.entryStore, run_getObj_map hm, asInt, asIntOf]
        rw [show m.findIdx? (fun e => (e.born : Int) == (j : Int)) = some j from hf]
        simp [run_setObj_map _ hm]
    | _ => cases hr
  | _ => cases hr
theorem one_map {id b o z c : Nat} {m : Array MapEntry} {e : V × V} (r : WR T g h w) (hg : g id = some (b, o, z)) (hm : w.heap[b]? = some (.map m c)) (hen : Ents g [e] m.toList) (hb : Born m.toList c) : ∃ x, m = #[x] ∧ x.born = 0 ∧ c = 1 ∧ VR g e.1 x.key ∧ VR g e.2 x.val := by
  obtain ⟨h1, h2⟩ := hen
  have hl : m.toList.length = 1 := by
    have := h1.length
    simpa using this.symm
  obtain ⟨x, hx⟩ : ∃ x, m.toList = [x] := by
    match hml : m.toList, hl with
    | [x], _ => exact ⟨x, rfl⟩
  have hmx : m = #[x] := by
    have := congrArg List.toArray hx
    simpa using this
  rw [hx] at h1 h2 hb
  refine ⟨x, hmx, hb.2 0 x rfl, hb.1, ?_, ?_⟩
  · cases h1 with
    | cons k _ => exact k
  · cases h2 with
    | cons k _ => exact k
theorem eff_rangeM (hT : TyOk P T) (r : WR T g h w) {t kt e : TypeId} {x : Operand} {a v : V} {h' : H} (h1 : T.under t = some (.map kt e)) (ha : VR g a (ρ x)) (hr : EOp.run .rangeM [a] h = some (v, h')) : Eff P T g h w ρ (.range t x) v h' := by
  cases a with
  | map id =>
    obtain ⟨es, e1, e2⟩ := ob_some.1 (show (ob (h.entries id) fun es => ob (h.new (.miter id (Bool.rec (motive := fun _ => Option Nat) none (some (lenL es)) (h.ord id)) false)) fun h' => some (V.ptr h.next 0, h')) = some (v, h') from hr)
    obtain ⟨h2, e3, e4⟩ := ob_some.1 e2
    cases e4
    obtain ⟨bb, o, zz, hg, hx⟩ := map_inv ha
    obtain ⟨m, cl, hm, hen, od, hblk, hod, hborn⟩ := entries_ok r hg e1
    have hlt := r.lt _ _ _ _ hg
    have hne : id ≠ h.next := by have := r.dom _ _ hg; omega
    refine ⟨_, w.alloc (.mapIter (some bb) cl #[] cl), .pointer (some ⟨w.heap.size, 0, none⟩), Ext.new (z := 0) r e3 (.inl rfl) ⟨w.heap.size, 0, bb, o, zz, cl, cl, gput_same _ _ _, by rw [gput_ne _ hne]; exact hg, by simpa using heap_alloc_new w _, fun n hn => ?_, fun e => by cases e⟩, VR.ptr (off := 0) (gput_same _ _ _), fun o' e' => .inl ?_⟩
    · rw [hod] at hn
      cases od with
      | false => cases hn
      | true =>
        have hn : some (lenL es) = some n := hn
        cases hn
        rw [(hborn rfl).1, lenL_eq]
        have := hen.1.length
        simpa using this.symm
    · simp [execOp, e', Instr.range, run_underlying' hT h1, hx, run_getObj_map hm]
  | _ => cases hr
theorem eff_nextM (r : WR T g h w) {x : Operand} {a v : V} {h' : H} (ha : VR g a (ρ x)) (hr : EOp.run .nextM [a] h = some (v, h')) : Eff P T g h w ρ (.next x false) v h' := by
  cases a with
  | ptr id off =>
    cases off with
    | succ off => cases hr
    | zero =>
      obtain ⟨k, e1, e2⟩ := ob_some.1 (show ob (h.blk id) (fun b => match b with
        | .miter m s seen => ob (h.entries m) fun es => caseL es (Bool.rec (motive := fun _ => Option (V × H)) (some (.tup [.bool false], h)) none seen) fun e t => caseL t
          (oif (h.ord m) (Bool.rec (motive := fun _ => Option (V × H)) (ob s fun n => oif (Nat.blt 0 n) (some (.tup [.bool true, e.1, e.2], ⟨h.t.put id (some (.miter m s true)), h.next⟩))) (some (.tup [.bool false], h)) seen)) fun _ _ => none
        | _ => none) = some (v, h') from hr)
      cases k with
      | miter m sc seen =>
        obtain ⟨es, e3, e4⟩ := ob_some.1 e2
        cases hx : ρ x <;> rw [hx] at ha <;> cases ha
        rename_i b o z hg
        obtain ⟨b', z', bm, om, zm, s, l, k1, k2, k3, k4, k5⟩ := r.blk id _ _ hg e1
        rw [hg] at k1
        cases k1
        obtain ⟨mm, cl, hm, hen, od, hblk, hod, hborn⟩ := entries_ok r k2 e3
        cases es with
        | nil =>
          cases seen with
          | true => cases e4
          | false =>
            cases e4
            have hnil : mm = #[] := by
              have := hen.1.length
              have h0 : mm.toList.length = 0 := by simpa using this.symm
              exact Array.eq_empty_of_size_eq_zero (by simpa using h0)
            subst hnil
            refine ⟨g, w, .tuple #[.bool false], .refl r, .tup (.cons (.bool _) .nil), fun o' e' => .inl ?_⟩
            have hob : (getObj b).run P w = .ok (.mapIter (some bm) s #[] l) w := by simp [getObj, Sem.run, k3]
            simp [execOp, e', Instr.next, hx, hob, run_getObj_map hm, Question.forced]
        | cons y t => cases t with
          | cons _ _ => cases e4
          | nil =>
            obtain ⟨o1, o2⟩ := oif_some.1 (show oif (h.ord m) _ = some (v, h') from e4)
            rw [hod] at o1
            obtain ⟨x1, rfl, hb0, rfl, y1, y2⟩ := one_map r k2 hm hen (hborn o1)
            cases seen with
            | true =>
              cases o2
              have hl := k5 rfl
              subst hl
              refine ⟨g, w, .tuple #[.bool false], .refl r, .tup (.cons (.bool _) .nil), fun o' e' => .inl ?_⟩
              have hob : (getObj b).run P w = .ok (.mapIter (some bm) s #[0] 1) w := by simp [getObj, Sem.run, k3]
              simp [execOp, e', Instr.next, hx, hob, run_getObj_map hm, Question.forced, hb0]
            | false =>
              obtain ⟨n, n1, n2⟩ := ob_some.1 (show ob sc (fun n => oif (Nat.blt 0 n) (some (V.tup [.bool true, y.1, y.2], (⟨h.t.put id (some (.miter m sc true)), h.next⟩ : H)))) = some (v, h') from o2)
              obtain ⟨n3, n4⟩ := oif_some.1 n2
              cases n4
              have hs : s = n := k4 n n1
              have hn : 0 < n := by simpa using n3
              have hob : (getObj b).run P w = .ok (.mapIter (some bm) s #[] l) w := by simp [getObj, Sem.run, k3]
              have k3' : w.heap[b]? = some (.mapIter (some bm) s #[] l) := by simpa using k3
              refine ⟨g, { w with heap := w.heap.setIfInBounds b (.mapIter (some bm) s #[0] 1) }, .tuple #[.bool true, x1.key, x1.val], ?_, .tup (.cons (.bool true) (.cons y1 (.cons y2 .nil))), fun o' e' => .inl ?_⟩
              · refine Ext.upd r hg e1 rfl rfl rfl (fun _ _ h => by cases h) (fun j hj => ?_) (by simp) rfl rfl rfl ⟨b, _, bm, om, zm, s, 1, hg, k2, by simpa using heap_setObj k3', k4, fun _ => rfl⟩
                simp [Array.getElem?_setIfInBounds_ne (Ne.symm hj)]
              · have h0s : 0 < s := by omega
                simp [execOp, e', Instr.next, hx, hob, run_getObj_map hm, Question.forced, hb0, h0s, Nat.not_le_of_lt h0s, setObj, Sem.run, k3']
      | _ => cases e2
  | _ => cases hr
theorem eff_entryM (r : WR T g h w) {x : Operand} {a v : V} {h' : H} (ha : VR g a (ρ x)) (hr : EOp.run .entryM [a] h = some (v, h')) : Eff P T g h w ρ (.entry x) v h' := by
  cases a with
  | ptr id off =>
    cases off with
    | succ off => cases hr
    | zero =>
      obtain ⟨k, e1, e2⟩ := ob_some.1 (show ob (h.blk id) (fun b => match b with
        | .miter m _ true => ob (h.entries m) fun es => caseL es none fun e t => caseL t (oif (h.ord m) (some (.tup [e.1, e.2], h))) fun _ _ => none
        | _ => none) = some (v, h') from hr)
      cases k with
      | miter m sc seen =>
        cases seen with
        | false => cases e2
        | true =>
          obtain ⟨es, e3, e4⟩ := ob_some.1 (show ob (h.entries m) (fun es => caseL es none fun e t => caseL t (oif (h.ord m) (some (V.tup [e.1, e.2], h))) fun _ _ => none) = some (v, h') from e2)
          cases hx : ρ x <;> rw [hx] at ha <;> cases ha
          rename_i b o z hg
          obtain ⟨b', z', bm, om, zm, s, l, k1, k2, k3, k4, k5⟩ := r.blk id _ _ hg e1
          rw [hg] at k1
          cases k1
          obtain ⟨mm, cl, hm, hen, od, hblk, hod, hborn⟩ := entries_ok r k2 e3
          cases es with
          | nil => cases e4
          | cons y t => cases t with
            | cons _ _ => cases e4
            | nil =>
              obtain ⟨o1, o2⟩ := oif_some.1 (show oif (h.ord m) _ = some (v, h') from e4)
              cases o2
              rw [hod] at o1
              obtain ⟨x1, rfl, hb0, rfl, y1, y2⟩ := one_map r k2 hm hen (hborn o1)
              have hl := k5 rfl
              subst hl
              refine ⟨g, w, .tuple #[x1.key, x1.val], .refl r, .tup (.cons y1 (.cons y2 .nil)), fun o' e' => .inl ?_⟩
              have hob : (getObj b).run P w = .ok (.mapIter (some bm) s #[0] 1) w := by simp [getObj, Sem.run, k3]
              simp [execOp, e', Instr.entry, hx, hob, run_getObj_map hm, hb0]
      | _ => cases e2
  | _ => cases hr
end
end Ev
end Go.Proofs.YtihflniehaaakaaGreatDoor
