/-
  Operations that make a new block.
-/
import Derived.Test.YtbfkbabolhhbaaaGreatDoorEvRead2
namespace Go.Proofs.YtbfkbabolhhbaaaGreatDoor
namespace Ev
variable [Opq]
set_option linter.unusedSectionVars false
section
variable {P : Program} {T : Ty} {g : G} {ρ : Operand → Value}

theorem trOf_get : ∀ (l : List V) (i : Nat) (t : Tr V) (j : Nat), i + l.length ≤ keys → (trOf l i t).get j = if i ≤ j ∧ j < i + l.length then l[j - i]? else t.get j
  | [], i, t, j, _ => by
    rw [if_neg (by simp only [List.length_nil]; omega)]
    rfl
  | v :: l, i, t, j, h => by
    simp only [List.length_cons] at h
    show (trOf l (i + 1) (t.put i (some v))).get j = _
    rw [trOf_get l (i + 1) _ j (by omega), Tr.get_put t i j _ (by omega)]
    simp only [List.length_cons]
    by_cases h1 : j = i
    · subst h1
      rw [if_neg (by omega), if_pos rfl, if_pos (by omega)]
      simp
    · by_cases h2 : i + 1 ≤ j ∧ j < i + 1 + l.length
      · rw [if_pos h2, if_pos (by omega)]
        rw [show j - i = (j - (i + 1)) + 1 by omega, List.getElem?_cons_succ]
      · rw [if_neg h2, if_neg h1, if_neg (by omega)]
theorem allOne_mem : ∀ {l : List V}, allOne l = true → ∀ v, v ∈ l → oneCell v = true
  | [], _, v, h => by cases h
  | x :: l, ha, v, h => by
    have ha : Bool.rec (motive := fun _ => Bool) false (allOne l) (oneCell x) = true := ha
    rw [brec_eq] at ha
    split at ha
    · rename_i hx
      cases h with
      | head => exact hx
      | tail _ h => exact allOne_mem ha v h
    · cases ha
/-- What a new block is, on both sides: the model's object, its cells, and the value that names it. -/
structure Makes (P : Program) (T : Ty) (g : G) (ρ : Operand → Value) (op : Op) (blk : Blk) (mk : Nat → V) : Prop where
  kin : blk.kin = none ∨ blk.kin = some (none, false)
  live : blk.live = true
  ro : ∀ n cs, blk ≠ .ro n cs
  make : ∃ (obj : Obj) (z : Nat) (val : Nat → Value), (∀ (w : World) (o : Oper), o.op = op → (execOp ρ o).run P w = .ok (.value (val w.heap.size)) (w.alloc obj)) ∧
    (∀ (g' : G) (id b : Nat), g.le g' → g' id = some (b, 0, z) → VR g' (mk id) (val b)) ∧
    (∀ (g' : G) (w' : World) (id b : Nat), g.le g' → g' id = some (b, 0, z) → w'.heap[b]? = some obj → BR T g' w' id blk)
theorem cellsBlk_ok {l : List V} {blk : Blk} {us : List Value} (hl : VRs g l us) (hb : cellsBlk l = some blk) :
    (blk.kin = some (none, false) ∧ blk.live = true ∧ ∀ n cs, blk ≠ .ro n cs) ∧ ∀ (t : TypeId) (g' : G) (w' : World) (id b : Nat), g.le g' → g' id = some (b, 0, us.length) → w'.heap[b]? = some (.cells us.toArray t (0, 0)) → BR T g' w' id blk := by
  obtain ⟨h1, h2⟩ := oif_some.1 hb
  obtain ⟨h3, h4⟩ := oif_some.1 h2
  cases h4
  rw [lenL_eq] at h3
  have hk : l.length < keys := by simpa using h3
  refine ⟨⟨rfl, rfl, fun _ _ e => by cases e⟩, fun t g' w' id b hg hid hw => ?_⟩
  have hlen := hl.length
  refine ⟨b, 0, us.length, us.toArray, t, hid, hw, by simp, by rw [lenL_eq]; omega, by rw [lenL_eq]; omega, fun j v hj hv => ?_⟩
  rw [trOf_get l 0 _ j (by omega)] at hv
  rw [lenL_eq] at hj
  rw [if_pos (by omega)] at hv
  simp only [Nat.sub_zero] at hv
  obtain ⟨u, k1, k2⟩ := (hl.mono hg).get hv
  exact ⟨u, by simpa using k1, k2, allOne_mem h1 v (List.mem_of_getElem? hv)⟩
theorem makes_alloc (hT : TyOk P T) {t : TypeId} {z : V} {blk : Blk} (hz : zeroT T t = some z) (hb : cellsBlk (cellsOf z) = some blk) : Makes P T g ρ (.alloc t) blk (fun i => .ptr i 0) := by
  obtain ⟨zu, hzu, hzr⟩ := zeroT_ok (g := g) hT hz
  obtain ⟨⟨k1, k2, k3⟩, k4⟩ := cellsBlk_ok (T := T) (cells_ok hzu) hb
  refine ⟨.inr k1, k2, k3, .cells zu.cells t, zu.cells.toList.length, fun b => .pointer (some ⟨b, 0, none⟩), fun w o e => ?_, fun g' id b hg hid => ?_, fun g' w' id b hg hid hw => k4 t g' w' id b hg hid (by simpa using hw)⟩
  · simp [execOp, e, Instr.alloc, hzr, newVar, newRow]
  · exact .ptr (off := 0) hid
theorem makes_box {t : TypeId} {x : Operand} {v : V} {blk : Blk} (hv : VR g v (ρ x)) (hb : cellsBlk (cellsOf v) = some blk) : Makes P T g ρ (.box t x) blk (fun i => .ptr i 0) := by
  obtain ⟨⟨k1, k2, k3⟩, k4⟩ := cellsBlk_ok (T := T) (cells_ok hv) hb
  refine ⟨.inr k1, k2, k3, .cells (ρ x).cells t, (ρ x).cells.toList.length, fun b => .pointer (some ⟨b, 0, none⟩), fun w o e => ?_, fun g' id b hg hid => ?_, fun g' w' id b hg hid hw => k4 t g' w' id b hg hid (by simpa using hw)⟩
  · simp [execOp, e, Instr.box, newVar, newRow]
  · exact .ptr (off := 0) hid
theorem makes_mkm {t : TypeId} {blk : Blk} (hb : blk = .map [] true) : Makes P T g ρ (.makeMap t none) blk (fun i => .map i) := by
  subst hb
  refine ⟨.inl rfl, rfl, (fun _ _ e => by cases e), .map #[] 0, 0, fun b => .map (some b), fun w o e => ?_, fun g' id b hg hid => .map hid, fun g' w' id b hg hid hw => ⟨b, 0, 0, #[], 0, hid, hw, ⟨.nil, .nil⟩, fun _ => Born.nil⟩⟩
  simp [execOp, e, Instr.makeMap]
theorem makes_rangeS (hT : TyOk P T) {t : TypeId} {x : Operand} {n c : Nat} (h1 : T.under t = some .string) (hv : VR g (.str n c) (ρ x)) : Makes P T g ρ (.range t x) (.siter n c 0) (fun i => .ptr i 0) := by
  cases hx : ρ x <;> rw [hx] at hv <;> cases hv
  rename_i s
  refine ⟨.inl rfl, rfl, (fun _ _ e => by cases e), .stringIter s 0, 0, fun b => .pointer (some ⟨b, 0, none⟩), fun w o e => ?_, fun g' id b hg hid => .ptr (off := 0) hid, fun g' w' id b hg hid hw => ⟨b, 0, 0, s, hid, hw, rfl, rfl, rfl⟩⟩
  simp [execOp, e, hx, Instr.range, run_underlying' hT h1]
theorem repL_succ (z : List V) (n : Nat) : repL z (n + 1) = z ++ repL z n := rfl
theorem rep_ok {z : List V} {zs : Array Value} (hz : VRs g z zs.toList) (hp : 0 < zs.size) : ∀ n : Nat, VRs g (repL z n) ((List.range (n * zs.size)).map fun i => zs[i % zs.size]!)
  | 0 => by
    rw [Nat.zero_mul]
    exact VRs.nil
  | n + 1 => by
    have ih := rep_ok hz hp n
    rw [repL_succ, show (n + 1) * zs.size = zs.size + n * zs.size by rw [Nat.add_mul]; omega, List.range_add, List.map_append]
    refine VRs.append ?_ ?_
    · have : (List.range zs.size).map (fun i => zs[i % zs.size]!) = zs.toList := by
        apply List.ext_getElem
        · simp
        · intro i h1 h2
          simp at h1
          simp [Nat.mod_eq_of_lt h1, h1]
      rw [this]
      exact hz
    · rw [List.map_map]
      have : ((fun i => zs[i % zs.size]!) ∘ fun x => zs.size + x) = fun i => zs[i % zs.size]! := by
        funext x
        simp
      rw [this]
      exact ih
theorem makes_bslice (hT : TyOk P T) {t e : TypeId} {n len : Nat} {z : V} {ps : Array (Nat × Operand)} {vs cs : List V} {blk : Blk} (h1 : T.under t = some (.slice e)) (hn : posT T e = some n) (hz : zeroT T e = some z) (hl : len * n < 1048576)
    (hs : (cellsOf z).length = n) (hv : VRs g vs ((ps.toList.map (·.2)).map ρ)) (hr : fills (ps.toList.map fun p => (Nat.mul p.1 n, n)) vs (repL (cellsOf z) len) = some cs) (hb : cellsBlk cs = some blk) :
    Makes P T g ρ (.buildSlice t len ps) blk (fun i => .sl i 0 len len true n) := by
  obtain ⟨zu, hzu, hzr⟩ := zeroT_ok (g := g) hT hz
  obtain ⟨hsz, hp⟩ := posT_size hn
  have hc := cells_ok hzu
  have hzl := hc.length
  simp at hzl
  have hrep := rep_ok hc (by omega) len
  rw [List.map_map] at hv
  obtain ⟨zs', k1, k2⟩ := fills_ok (place := fun i => some (i * n, n)) (zs := (Array.range (len * n)).map fun i => zu.cells[i % zu.cells.size]!) (fun i p q e1 e2 => by
    rw [List.getElem?_map, e1] at e2
    simpa using e2) (by simp) hv (by rw [show zu.cells.size = n by omega] at hrep; simpa [show zu.cells.size = n by omega] using hrep) hr
  obtain ⟨⟨m1, m2, m3⟩, m4⟩ := cellsBlk_ok (T := T) k2 hb
  refine ⟨.inr m1, m2, m3, .cells zs' e, zs'.toList.length, fun b => .slice (some ⟨b, 0, none⟩) len len, fun w o e' => ?_, fun g' id b hg hid => .slx (off := 0) hid, fun g' w' id b hg hid hw => m4 e g' w' id b hg hid (by simpa using hw)⟩
  have hno : ¬ len * n > 2 ^ 24 := by omega
  simp only [execOp, e', Instr.buildSlice, Sem.run_bind, run_underlying' hT h1, Result.andThen_ok, run_sizeOf' hT hsz]
  by_cases h0 : len * n = 0
  · have hr0 : (Array.range (len * n)).map (fun i => zu.cells[i % zu.cells.size]!) = (Array.range (len * n)).map (fun _ => default) := by rw [h0]; simp
    rw [if_neg hno, if_pos h0]
    rw [hr0] at k1
    simp [k1, newRow]
  · rw [if_neg hno, if_neg h0]
    simp [hzr, k1, newRow]
theorem makes_mks (hT : TyOk P T) {t e : TypeId} {n l c : Nat} {z : V} {i : TypeInfo} {x y : Operand} {blk : Blk} (h1 : T.under t = some (.slice e)) (hn : posT T e = some n) (hz : zeroT T e = some z) (hi : T.info e = some i)
    (hs : (cellsOf z).length = n) (hx : VR g (.int .i64 (Int.ofNat l)) (ρ x)) (hy : VR g (.int .i64 (Int.ofNat c)) (ρ y)) (hlc : l ≤ c) (hcb : c * i.bytes < 1099511627776) (hc : c < 1099511627776) (hb : cellsBlk (repL (cellsOf z) c) = some blk) :
    Makes P T g ρ (.makeSlice t x y) blk (fun k => .sl k 0 l c true n) := by
  obtain ⟨zu, hzu, hzr⟩ := zeroT_ok (g := g) hT hz
  obtain ⟨hsz, hp⟩ := posT_size hn
  have hcz := cells_ok hzu
  have hzl := hcz.length
  simp at hzl
  have hzn : zu.cells.size = n := by omega
  have hrep := rep_ok hcz (by omega) c
  obtain ⟨⟨m1, m2, m3⟩, m4⟩ := cellsBlk_ok (T := T) hrep hb
  refine ⟨.inr m1, m2, m3, .cells ((Array.range (c * n)).map fun i => zu.cells[i % zu.cells.size]!) e, ((List.range (c * zu.cells.size)).map fun i => zu.cells[i % zu.cells.size]!).length, fun b => .slice (some ⟨b, 0, none⟩) l c, fun w o e' => ?_, fun g' id b hg hid => .slx (off := 0) hid, fun g' w' id b hg hid hw => m4 e g' w' id b hg hid ?_⟩
  · have wl : IntKind.i64.wrap (l : Int) = l := by unfold IntKind.wrap; simp [IntKind.bits, IntKind.signed]; omega
    have wc : IntKind.i64.wrap (c : Int) = c := by unfold IntKind.wrap; simp [IntKind.bits, IntKind.signed]; omega
    have hx' := hx.int_inv
    have hy' := hy.int_inv
    have hcb' : ¬ ((i.bytes : Int) * (c : Int) > 281474976710656) := by
      have : ((c * i.bytes : Nat) : Int) < 1099511627776 := Int.ofNat_lt.2 hcb
      rw [Int.natCast_mul, Int.mul_comm] at this
      omega
    have h48 : ((2 : Int) ^ 48) = 281474976710656 := by decide
    have hlc' : ¬ (l : Int) > (c : Int) := by omega
    have hl0 : ¬ (l : Int) < 0 := by omega
    have hc0 : ¬ (c : Int) < 0 := by omega
    simp only [execOp, e', hx', hy', Instr.makeSlice, Sem.run_bind, run_underlying' hT h1, Result.andThen_ok, asInt, asIntOf, Sem.run_pure, run_typeInfo' hT hi, Int.ofNat_eq_natCast, wl, wc, h48]
    rw [if_neg (by simp; omega)]
    by_cases h0 : c * n = 0
    · have hr0 : (Array.range (c * n)).map (fun i => zu.cells[i % zu.cells.size]!) = #[] := by rw [h0]; simp
      rw [hr0]
      simp [run_sizeOf' hT hsz, h0, newRow, Array.range_zero']
    · simp [run_sizeOf' hT hsz, h0, hzr, newRow]
  · rw [hw]
    congr 2
    apply Array.ext'
    simp [hzn]
theorem makes_mkm1 (hT : TyOk P T) {t k e : TypeId} {x : Operand} {kd : IntKind} {n : Int} (h1 : T.under t = some (.map k e)) (hx : VR g (.int kd n) (ρ x)) : Makes P T g ρ (.makeMap t (some x)) (.map [] true) (fun i => .map i) := by
  refine ⟨.inl rfl, rfl, (fun _ _ e => by cases e), .map #[] 0, 0, fun b => .map (some b), fun w o e => ?_, fun g' id b hg hid => .map hid, fun g' w' id b hg hid hw => ⟨b, 0, 0, #[], 0, hid, hw, ⟨.nil, .nil⟩, fun _ => Born.nil⟩⟩
  have hx' := hx.int_inv
  simp [execOp, e, Instr.makeMap, run_underlying' hT h1, hx', asInt, asIntOf]
theorem A_ok (hT : TyOk P T) {op : Op} {ao : AOp} {os : List Operand} (hc : compOp T op = some (.a ao, os)) {vs : List V} {blk : Blk} {mk : Nat → V} (hv : VRs g vs (os.map ρ)) (hr : ao.run vs = some (blk, mk)) : Makes P T g ρ op blk mk := by
  cases op
  case alloc t =>
    simp only [compOp] at hc
    obtain ⟨z, h1, h⟩ := ob_some.1 hc
    cases h
    cases hv
    obtain ⟨b, h2, h3⟩ := ob_some.1 (show ob (cellsBlk (cellsOf z)) (fun b => some (b, fun i => V.ptr i 0)) = some (blk, mk) from hr)
    cases h3
    exact makes_alloc hT h1 h2
  case box t x =>
    cases hc
    obtain ⟨a, rfl, h⟩ := hv.one
    obtain ⟨b, h2, h3⟩ := ob_some.1 (show ob (cellsBlk (cellsOf a)) (fun b => some (b, fun i => V.ptr i 0)) = some (blk, mk) from hr)
    cases h3
    exact makes_box h h2
  case buildSlice t n ps =>
    simp only [compOp] at hc
    obtain ⟨d, h0, h⟩ := ob_some.1 hc
    cases d with
    | slice e =>
      obtain ⟨es, h1, a1⟩ := ob_some.1 h
      obtain ⟨z, h2, a2⟩ := ob_some.1 a1
      obtain ⟨h3, a3⟩ := oif_some.1 a2
      cases a3
      obtain ⟨cs, h4, a4⟩ := ob_some.1 (show ob (fills (ps.toList.map fun p => (Nat.mul p.1 es, es)) vs (repL (cellsOf z) n)) (fun cs => ob (cellsBlk cs) fun b => some (b, fun i => V.sl i 0 n n true es)) = some (blk, mk) from hr)
      obtain ⟨b, h5, a5⟩ := ob_some.1 a4
      cases a5
      simp only [Bool.and_eq_true, Nat.blt_eq, Nat.beq_eq, lenL_eq, nmul] at h3
      exact makes_bslice hT h0 h1 h2 h3.1 h3.2 hv h4 h5
    | _ => cases h
  case makeMap t r =>
    simp only [compOp] at hc
    obtain ⟨d, h0, h⟩ := ob_some.1 hc
    cases d with
    | map k e =>
      cases h
      cases r with
      | none => cases hv; cases hr; exact makes_mkm rfl
      | some x =>
        obtain ⟨a, rfl, h⟩ := hv.one
        cases a <;> cases hr
        exact makes_mkm1 hT h0 h
    | _ => cases h
  case makeSlice t l c =>
    simp only [compOp] at hc
    obtain ⟨d, h0, h⟩ := ob_some.1 hc
    cases d with
    | slice e =>
      obtain ⟨n, h1, a1⟩ := ob_some.1 h
      obtain ⟨z, h2, a2⟩ := ob_some.1 a1
      obtain ⟨i, h3, a3⟩ := ob_some.1 a2
      obtain ⟨h4, a4⟩ := oif_some.1 a3
      cases a4
      obtain ⟨x, y, rfl, hx, hy⟩ := hv.two
      rw [lenL_eq] at h4
      have h4' : (cellsOf z).length = n := by simpa using h4
      cases x <;> try cases hr
      rename_i k1 n1
      cases k1 <;> try cases hr
      cases y <;> try cases hr
      rename_i k2 n2
      cases k2 <;> try cases hr
      cases n1 <;> try cases hr
      cases n2 <;> try cases hr
      rename_i l' c'
      obtain ⟨q1, q2⟩ := oif_some.1 (show oif (Nat.ble l' c') (oif (Nat.blt (Nat.mul c' i.bytes) 1099511627776) (oif (Nat.blt c' 1099511627776) (ob (cellsBlk (repL (cellsOf z) c')) fun b => some (b, fun i => V.sl i 0 l' c' true (lenL (cellsOf z)))))) = some (blk, mk) from hr)
      obtain ⟨q3, q4⟩ := oif_some.1 q2
      obtain ⟨q5, q6⟩ := oif_some.1 q4
      obtain ⟨b, q7, q8⟩ := ob_some.1 q6
      cases q8
      rw [lenL_eq, h4']
      exact makes_mks hT h0 h1 h2 h3 h4' hx hy (by simpa using q1) (by simpa [nmul] using q3) (by simpa using q5) q7
    | _ => cases h
  case range t x =>
    simp only [compOp] at hc
    obtain ⟨d, h0, h⟩ := ob_some.1 hc
    cases d with
    | string =>
      cases h
      obtain ⟨a, rfl, h⟩ := hv.one
      cases a <;> cases hr
      exact makes_rangeS hT h0 h
    | _ => cases h
  case load t x =>
    simp only [compOp] at hc
    obtain ⟨b, h1, h2⟩ := ob_some.1 hc
    obtain ⟨n, h3, h4⟩ := ob_some.1 h2
    cases h4
  case lookup t x k ok =>
    simp only [compOp] at hc
    obtain ⟨d, h1, h2⟩ := ob_some.1 hc
    cases d with
    | map kt e =>
      obtain ⟨kk, h3, h4⟩ := ob_some.1 h2
      obtain ⟨z, h5, h6⟩ := ob_some.1 h4
      cases h6
    | _ => cases h2
  case binOp op t x y t' =>
    have eq2 : ∀ {neg cst : Bool} {d : TypeDesc}, eqOp T t neg cst d = some (.a ao) → False := by
      intro neg cst d h2
      cases d with
      | interface e => obtain ⟨h4, h5⟩ := oif_some.1 h2; cases h5
      | pointer e => obtain ⟨k, h4, h5⟩ := ob_some.1 h2; cases h5
      | struct fs => obtain ⟨k, h4, h5⟩ := ob_some.1 h2; cases h5
      | _ => cases h2
    cases op
    case eql =>
      simp only [compOp] at hc
      obtain ⟨d, h1, h2⟩ := ob_some.1 hc
      obtain ⟨c, h3, h4⟩ := ob_some.1 h2
      cases h4
      exact (eq2 (neg := false) h3).elim
    case neq =>
      simp only [compOp] at hc
      obtain ⟨d, h1, h2⟩ := ob_some.1 hc
      obtain ⟨c, h3, h4⟩ := ob_some.1 h2
      cases h4
      exact (eq2 (neg := true) h3).elim
    all_goals cases hc
  case call c =>
    obtain ⟨callee, args, argTypes⟩ := c
    simp only [compOp] at hc
    cases callee with
    | value x => cases x <;> cases hc
    | invoke r m => cases hc
    | builtin b =>
      obtain ⟨t, h1, h2⟩ := ob_some.1 hc
      obtain ⟨d, h3, h4⟩ := ob_some.1 h2
      cases b
      case len =>
        cases d with
        | map k e => cases h4
        | _ => cases h4
      case append =>
        cases d with
        | slice e =>
          obtain ⟨n, _, a1⟩ := ob_some.1 h4
          obtain ⟨_, _, a2⟩ := ob_some.1 a1
          obtain ⟨_, _, a3⟩ := ob_some.1 a2
          obtain ⟨_, a4⟩ := oif_some.1 a3
          obtain ⟨_, _, a5⟩ := ob_some.1 a4
          obtain ⟨_, _, a6⟩ := ob_some.1 a5
          split at a6 <;> cases a6
        | _ => cases h4
      case copy =>
        cases d with
        | slice e =>
          obtain ⟨n, _, a1⟩ := ob_some.1 h4
          cases a1
        | _ => cases h4
      case clear =>
        cases d with
        | slice e =>
          obtain ⟨n, _, a1⟩ := ob_some.1 h4
          obtain ⟨_, _, a2⟩ := ob_some.1 a1
          cases a2
        | _ => cases h4
      case delete =>
        cases d with
        | map k e =>
          obtain ⟨_, _, a1⟩ := ob_some.1 h4
          cases a1
        | _ => cases h4
      all_goals (cases d <;> cases h4)
  case build t ps =>
    simp only [compOp] at hc
    obtain ⟨z, h1, h2⟩ := ob_some.1 hc
    obtain ⟨d, h3, h4⟩ := ob_some.1 h2
    cases d with
    | struct fs =>
      obtain ⟨pl, h5, h6⟩ := ob_some.1 h4
      obtain ⟨l, h7, h8⟩ := ob_some.1 h6
      cases h8
    | array k e =>
      obtain ⟨n, h5, h6⟩ := ob_some.1 h4
      cases h6
    | _ => cases h4
  case insert t m k x =>
    simp only [compOp] at hc
    obtain ⟨d, _, h⟩ := ob_some.1 hc
    cases d with
    | map k e =>
      obtain ⟨_, _, a1⟩ := ob_some.1 h
      cases a1
    | _ => cases h
  case mapEntry t m k =>
    simp only [compOp] at hc
    obtain ⟨d, _, h⟩ := ob_some.1 hc
    cases d with
    | map k e =>
      obtain ⟨_, _, a1⟩ := ob_some.1 h
      obtain ⟨_, _, a2⟩ := ob_some.1 a1
      cases a2
    | _ => cases h
  case mapUpdate t m k x =>
    simp only [compOp] at hc
    obtain ⟨d, _, h⟩ := ob_some.1 hc
    cases d with
    | map k e =>
      obtain ⟨_, _, a1⟩ := ob_some.1 h
      cases a1
    | _ => cases h
  case store t a x =>
    simp only [compOp] at hc
    obtain ⟨_, _, a1⟩ := ob_some.1 hc
    cases a1
  case convert s d x =>
    simp only [compOp] at hc
    obtain ⟨a, h1, h2⟩ := ob_some.1 hc
    obtain ⟨b, h3, h4⟩ := ob_some.1 h2
    cases a <;> cases b <;> first | (cases h4; done) | (cases (b2sOp_some h4).1)
  case makeInterface t x =>
    simp only [compOp] at hc
    obtain ⟨d, h1, h2⟩ := ob_some.1 hc
    cases d <;> cases h2
  case makeFunc fn a b => cases fn <;> cases hc
  case slice t x lo hi mx =>
    simp only [compOp] at hc
    obtain ⟨d, _, h⟩ := ob_some.1 hc
    cases d with
    | string => cases h
    | slice e => obtain ⟨_, _, a1⟩ := ob_some.1 h; cases a1
    | array k e => obtain ⟨_, _, a1⟩ := ob_some.1 h; cases a1
    | _ => cases h
  case fieldAddr t x i =>
    simp only [compOp] at hc
    obtain ⟨d, _, h⟩ := ob_some.1 hc
    cases d with
    | struct fs =>
      obtain ⟨_, _, a1⟩ := ob_some.1 h
      obtain ⟨_, _, a2⟩ := ob_some.1 a1
      cases a2
    | _ => cases h
  case field t x i =>
    simp only [compOp] at hc
    obtain ⟨d, _, h⟩ := ob_some.1 hc
    cases d with
    | struct fs =>
      obtain ⟨_, _, a1⟩ := ob_some.1 h
      obtain ⟨_, _, a2⟩ := ob_some.1 a1
      obtain ⟨_, _, a3⟩ := ob_some.1 a2
      cases a3
    | _ => cases h
  case indexAddr t x i =>
    simp only [compOp] at hc
    obtain ⟨d, _, h⟩ := ob_some.1 hc
    cases d with
    | slice e => obtain ⟨_, _, a1⟩ := ob_some.1 h; cases a1
    | array k e => obtain ⟨_, _, a1⟩ := ob_some.1 h; cases a1
    | _ => cases h
  case index t x i =>
    simp only [compOp] at hc
    obtain ⟨d, _, h⟩ := ob_some.1 hc
    cases d with
    | string => cases h
    | array k e =>
      obtain ⟨_, _, a1⟩ := ob_some.1 h
      obtain ⟨_, _, a2⟩ := ob_some.1 a1
      cases a2
    | _ => cases h
  case next x b => cases b <;> cases hc
  all_goals cases hc
end
end Ev
end Go.Proofs.YtbfkbabolhhbaaaGreatDoor
