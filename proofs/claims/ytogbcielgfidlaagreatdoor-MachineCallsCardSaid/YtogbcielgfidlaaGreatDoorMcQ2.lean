/-
  What is known of the functions of a collection that look at all words of the machine.
-/
import Derived.Test.YtogbcielgfidlaaGreatDoorMcQ1
import Derived.Test.YtogbcielgfidlaaGreatDoorMcX
import Derived.Test.YtogbcielgfidlaaGreatDoorMcW2
namespace Go.Proofs.YtogbcielgfidlaaGreatDoor
set_option linter.unusedVariables false
set_option linter.unusedSimpArgs false
set_option linter.unusedSectionVars false
namespace Ev
variable [Opq]
set_option linter.unusedSectionVars false
theorem prim_any {T : Ty} {f : FuncId} {fn : Func} (h1 : Tryz.prog.funcs[f]? = some fn) (h2 : (fn.name == "runtime.NumGoroutine") = false) (h3 : fn.body.isNone = false) {us : List Value} {g : G} {h : H} {w : World} {v : V} {h' : H}
    (c : Calls Tryz.prog f us.toArray w (Post T g h w v h')) : CallFn Tryz.prog T f us g h w v h' :=
  ⟨fn, h1, beq_eq_false_iff_ne.1 h2, h3, callsIn_wide.2 c⟩
theorem still_of {w w' : World} (k : RowKit.Below w.heap.size w w') : Still w w' := ⟨k.size, k.block, k.os, k.tape, k.output⟩
noncomputable section
/-- The row of words, as it is pinned. -/
def trZ (ro : Nat) (zs : List Int) : Tr V := (trOf (zs.map (V.int .u64)) 0 .e).put 200001 (some (.int .i64 ro))
abbrev TZ (rb ro : Nat) (zs : List Int) : Ty := TQ rb zs.length (trZ ro zs)
def fitsQ (vs : List V) (h : H) : Option (V × H) := match vs with
  | [.func (.yield 5) [] [], .func (.func 459) [] [_, _, _]] => some (.bool false, h)
  | _ => none
def runQ (zs : List Int) (vs : List V) (h : H) : Option (V × H) := match vs with
  | [.ptr c 0, .func (.yield 5) [] []] => match h.rd c 8 1 with
    | some [.nils] => ob (h.new (.cells zs.length (trOf (zs.map (V.int .u64)) 0 .e) none false)) fun h' => some (.sl h.next 0 zs.length 0 false 1, h')
    | _ => none
  | _ => none
def cloneQ (vs : List V) (h : H) : Option (V × H) := match vs with
  | [.func (.yield _) [.nilm, .nils] []] => some (.func (.yield 0) [.nilm, .nils] [], h)
  | [.nils] => some (.func (.yield 0) [.nilm, .nils] [], h)
  | _ => none
end
/-- The row of words that is the machine's. -/
structure RowQ (rb ro cap : Nat) (zs : List Int) : Prop where
  val : Opq.val 5 = .slice (some ⟨rb, ro, none⟩) zs.length cap
  imm : ∀ j, j < zs.length → ImmW (zs.getD j 0)
  pos : 0 < zs.length
  len : zs.length ≤ 100000
section
variable {rb ro cap : Nat} {zs : List Int}
theorem trZ_get (ro : Nat) {zs : List Int} (hl : zs.length ≤ 100000) : (trZ ro zs).get 200001 = some (.int .i64 ro) ∧ ∀ j, j < zs.length → (trZ ro zs).get j = some (.int .u64 (zs.getD j 0)) := by
  have hlen : (zs.map (V.int .u64)).length = zs.length := by simp
  have big : (200002 : Nat) ≤ keys := by decide
  refine ⟨?_, fun j hj => ?_⟩
  · show ((trOf (zs.map (V.int .u64)) 0 .e).put 200001 _).get 200001 = _
    rw [Tr.get_put _ _ _ _ (by omega), if_pos rfl]
  · show ((trOf (zs.map (V.int .u64)) 0 .e).put 200001 _).get j = _
    rw [Tr.get_put _ _ _ _ (by omega), if_neg (by omega), trOf_get _ _ _ _ (by rw [hlen]; omega), if_pos (by rw [hlen]; omega), Nat.sub_zero]
    simp [List.getD, hj, List.getElem?_eq_getElem hj]
theorem rowQ (q : RowQ rb ro cap zs) {g : G} {h : H} {w : World} (r : WR (TZ rb ro zs) g h w) (hG : Glob (TZ rb ro zs) g h) : RowW rb ro zs.length (fun j => zs.getD j 0) w := by
  obtain ⟨⟨o1, z, hz, ho⟩, hb⟩ := hG (8, rb, zs.length, trZ ro zs) List.mem_cons_self
  obtain ⟨t1, t2⟩ := trZ_get ro q.len
  have ho := ho.2 (Nat.le_refl 8)
  rw [t1] at ho
  have : ro = o1 := by
    injection ho with ho
    injection ho with _ ho
    exact Int.ofNat.inj ho
  subst this
  obtain ⟨b, o, z', c, t, k1, k2, k3, k4, k5, k6⟩ := r.blk 8 _ _ hz hb
  have hz : g 8 = some (rb, ro, z) := hz
  rw [hz] at k1
  cases k1
  intro j hj
  refine ⟨?_, q.imm j hj⟩
  obtain ⟨u, m1, m2, _⟩ := k6 j _ hj (t2 j hj)
  cases m2
  simp [World.cell?, k2, m1]
theorem fitsQ_ok (q : RowQ rb ro cap zs) {vs : List V} {h : H} {v : V} {h' : H} (e : fitsQ vs h = some (v, h')) {g : G} {w : World} {us : List Value} (r : WR (TZ rb ro zs) g h w) (hG : Glob (TZ rb ro zs) g h) (hv : VRs g vs us) : CallFn Tryz.prog (TZ rb ro zs) 261 us g h w v h' := by
  unfold fitsQ at e
  split at e
  · cases e
    obtain _ | ⟨h1, _ | ⟨h2, _ | _⟩⟩ := hv
    cases h1 with
    | opq hu =>
    cases h2 with
    | func ha hb =>
    cases ha
    obtain _ | ⟨f1, _ | ⟨f2, _ | ⟨f3, _ | _⟩⟩⟩ := hb
    rw [← hu, q.val]
    refine prim_any Tryz.func261 (by decide) rfl ?_
    refine (containsF_w rb ro zs.length cap (fun j => zs.getD j 0) _ _ _ w (rowQ q r hG) q.len).mono ?_
    rintro e w' ⟨rfl, rfl⟩
    exact ⟨g, _, rfl, .bool _, .refl r⟩
  · cases e
theorem cloneQ_ok {T : Ty} {vs : List V} {h : H} {v : V} {h' : H} (e : cloneQ vs h = some (v, h')) {g : G} {w : World} {us : List Value} (r : WR T g h w) (hv : VRs g vs us) : CallFn Tryz.prog T 202 us g h w v h' := by
  unfold cloneQ at e
  split at e
  · cases e
    obtain _ | ⟨h1, _ | _⟩ := hv
    cases h1 with
    | une =>
    refine prim_any Tryz.func202 (by decide) rfl ((clone0_w _ _ w).mono ?_)
    rintro e w' ⟨⟨a, c, rfl⟩, k⟩
    exact ⟨g, _, rfl, .une, Ext.ofStill r (still_of k)⟩
  · cases e
    obtain _ | ⟨h1, _ | _⟩ := hv
    cases h1 with
    | nils =>
    refine prim_any Tryz.func202 (by decide) rfl ((clone0_w _ _ w).mono ?_)
    rintro e w' ⟨⟨a, c, rfl⟩, k⟩
    exact ⟨g, _, rfl, .une, Ext.ofStill r (still_of k)⟩
  · cases e
theorem runQ_ok (q : RowQ rb ro cap zs) {vs : List V} {h : H} {v : V} {h' : H} (e : runQ zs vs h = some (v, h')) {g : G} {w : World} {us : List Value} (r : WR (TZ rb ro zs) g h w) (hG : Glob (TZ rb ro zs) g h) (hv : VRs g vs us) : CallFn Tryz.prog (TZ rb ro zs) 436 us g h w v h' := by
  unfold runQ at e
  split at e
  · rename_i c
    split at e
    · rename_i hrd
      obtain ⟨h1, e1, e2⟩ := ob_some.1 e
      cases e2
      obtain _ | ⟨p1, _ | ⟨p2, _ | _⟩⟩ := hv
      cases p2 with
      | opq hu =>
      cases p1 with
      | ptr hg =>
      rename_i cb co cz
      rw [← hu, q.val]
      obtain ⟨vs9, v1, v2, v3, _⟩ := rd_ok r hg hrd
      obtain _ | ⟨n1, _ | _⟩ := v1
      cases n1
      have d0 := v3 0 _ rfl
      refine prim_any Tryz.func436 (by decide) rfl ?_
      refine (run_w cb co rb ro zs.length cap zs w q.len rfl (rowQ q r hG) (by simpa using d0)).mono ?_
      rintro e w' ⟨v', rfl, ⟨q1, q2⟩, q3⟩
      rcases q2 with ⟨_, q2⟩ | ⟨gb, cp, cur, rfl, y1, y2, y3, y4, y5, y6⟩
      · have := q.pos; omega
      have hlt : gb < w'.heap.size := (Array.getElem?_eq_some_iff.1 y2).1
      rw [Nat.mul_one] at y5 y6
      have hnone : g h.next = none := by
        cases hx : g h.next with
        | none => rfl
        | some y => exact absurd (r.dom _ _ hx) (by omega)
      have hlen : (zs.map (V.int .u64)).length = zs.length := by simp
      have big : (200000 : Nat) ≤ keys := by decide
      have hl := q.len
      refine ⟨_, _, rfl, ?_, Ext.newAt r (still_of q3) (gb := gb) (po := 0) (z := cp) y1 hlt e1 (.inr rfl) ?_⟩
      · exact .sli (gput_same _ _ _) (by omega) y3
      · refine ⟨gb, 0, cp, cur, _, gput_same _ _ _, y2, by omega, y3, by omega, fun j v hj hv => ?_⟩
        rw [trOf_get _ _ _ _ (by rw [hlen]; omega), if_pos (by rw [hlen]; omega), Nat.sub_zero] at hv
        rw [List.getElem?_map, List.getElem?_eq_getElem hj] at hv
        cases hv
        refine ⟨.int .u64 zs[j], ?_, .int _ _, rfl⟩
        have : (cur.toList.take zs.length)[j]? = some (.int .u64 zs[j]) := by rw [y6]; simp [hj]
        rw [List.getElem?_take_of_lt hj] at this
        simpa using this
    · cases e
  · cases e
end
noncomputable section
def prQ (zs : List Int) (f : FuncId) : Option (List V → H → Option (V × H)) := lkq [(261, fitsQ), (436, runQ zs), (202, cloneQ)] f
def callQ (zs : List Int) : CallT := callN (prQ zs) (fun f => lkq tqL f) 60
end
theorem callQ_ok {rb ro cap : Nat} {zs : List Int} (q : RowQ rb ro cap zs) : CallOk Tryz.prog (TZ rb ro zs) (callQ zs) :=
  callN_ok (tyOkQ _ _ _) mixedQ (fun f p e vs h v h' e2 g w us r hG hv => by
    have hm := lkq_mem e
    simp only [List.mem_cons, List.not_mem_nil, or_false] at hm
    rcases hm with hm | hm | hm <;> cases hm
    · exact fitsQ_ok q e2 r hG hv
    · exact runQ_ok q e2 r hG hv
    · exact cloneQ_ok e2 r hv) (tabQ_ok _ _ _) 60
end Ev
end Go.Proofs.YtogbcielgfidlaaGreatDoor
namespace Go.Proofs.YtogbcielgfidlaaGreatDoor
set_option linter.unusedVariables false
set_option linter.unusedSimpArgs false
set_option linter.unusedSectionVars false
namespace Ev
variable [Opq]
set_option linter.unusedSectionVars false
noncomputable section
def uk : V := .func (.yield 0) [.nilm] []
def ue : V := .func (.yield 0) [.nilm, .nils] []
def ub : V := .func (.yield 0) [.nilm, .bool true] []
def ul : V := .func (.yield 0) [.nilm, .int .i64 0] []
def fs : V := .func (.yield 2) [.int .i64 1, .int .i64 0] []
def cellsB (l : List V) : Blk := .cells (lenL l) (trOf l 0 .e) none false
def kpS : List V := [.ptr 2 0, fs, ul, ub, uk, uk, uk]
def hpS : List V := [ue, ue, ue, ue, .int .i64 0, fs, .ptr 3 0, .ptr 4 0]
def hS (ro : Nat) (zs : List Int) : H := ⟨((((Tr.put .e 8 (some (.ro zs.length (trZ ro zs)))).put 1 (some (cellsB kpS))).put 2 (some (cellsB hpS))).put 3 (some (.ro 0 .e))).put 4 (some (.ro 0 .e)), 9⟩
def lookS (r : Option (V × H)) : Option (V × Option Blk × Option (List V) × Option (List V)) := ob r fun r => some (r.1, r.2.blk 38, r.2.rd 1 0 7, r.2.rd 2 0 8)
def vS (zs : List Int) : V := .tup [.sl 38 0 zs.length 0 false 1, .int .i64 0]
def bS (zs : List Int) : Blk := .cells zs.length (trOf (zs.map (V.int .u64)) 0 .e) none false
end
set_option maxRecDepth 100000 in
theorem run_t (ro : Nat) (zs : List Int) : lookS (callQ zs (.fn 288) [.ptr 1 0, .bool true, .int .i64 0, .func (.yield 5) [] []] (hS ro zs)) = some (vS zs, some (bS zs), some [.ptr 2 0, fs, ul, ub, uk, uk, .int .i64 0], some [ue, .sl 47 0 0 0 true 1, ue, .sl 51 0 0 0 true 1, .int .i64 0, fs, .ptr 3 0, .ptr 4 0]) := by kernel_rfl
set_option maxRecDepth 100000 in
theorem run_f (ro : Nat) (zs : List Int) : lookS (callQ zs (.fn 288) [.ptr 1 0, .bool false, .int .i64 0, .func (.yield 5) [] []] (hS ro zs)) = some (vS zs, some (bS zs), some [.ptr 2 0, fs, ul, ub, uk, uk, uk], some [ue, .sl 46 0 0 0 true 1, ue, .sl 50 0 0 0 true 1, .int .i64 0, fs, .ptr 3 0, .ptr 4 0]) := by kernel_rfl
end Ev
end Go.Proofs.YtogbcielgfidlaaGreatDoor
namespace Go.Proofs.YtogbcielgfidlaaGreatDoor
set_option linter.unusedVariables false
set_option linter.unusedSimpArgs false
set_option linter.unusedSectionVars false
namespace Ev
/-- These values lie in a block from a place on; z is how many cells there are from there. -/
def CellsAt (w : World) (b o z : Nat) (us : List Value) : Prop := ∃ c t, w.heap[b]? = some (.cells c t (0, 0)) ∧ c.size = o + z ∧ us.length ≤ z ∧ ∀ j u, us[j]? = some u → c[o + j]? = some u
theorem CellsAt.cell {w : World} {b o z : Nat} {us : List Value} (h : CellsAt w b o z us) {j : Nat} {u : Value} (e : us[j]? = some u) : w.cell? ⟨b, o + j, none⟩ = some u := by
  obtain ⟨c, t, h1, _, _, h2⟩ := h
  simp [World.cell?, h1, h2 j u e]
theorem CellsAt.lt {w : World} {b o z : Nat} {us : List Value} (h : CellsAt w b o z us) : b < w.heap.size := by
  obtain ⟨c, t, h1, _⟩ := h
  exact (Array.getElem?_eq_some_iff.1 h1).1
theorem CellsAt.keep {w w' : World} {b o z : Nat} {us : List Value} (h : CellsAt w b o z us) (k : w'.heap[b]? = w.heap[b]?) : CellsAt w' b o z us := by
  obtain ⟨c, t, h1, h2⟩ := h
  exact ⟨c, t, k.trans h1, h2⟩
variable [Opq]
set_option linter.unusedSectionVars false
theorem CellsAt.cells {g : G} {w : World} {id b o z : Nat} {us : List Value} {vs : List V} (hg : g id = some (b, o, z)) (h : CellsAt w b o z us) (hv : VRs g vs us) (ho : ∀ v ∈ vs, oneCell v = true) (hl : us.length ≤ 200000) : Cells g w id (lenL vs) (trOf vs 0 .e) := by
  obtain ⟨c, t, h1, h2, h3, h4⟩ := h
  have hlen := hv.length
  have big : (200000 : Nat) ≤ keys := by decide
  rw [lenL_eq]
  refine ⟨b, o, z, c, t, hg, h1, h2, by omega, by omega, fun j v hj e => ?_⟩
  rw [trOf_get _ _ _ _ (by omega), if_pos (by omega), Nat.sub_zero] at e
  obtain ⟨u, m1, m2⟩ := hv.get e
  exact ⟨u, h4 j u m1, m2, ho v (List.mem_of_getElem? e)⟩
/-- What a read says of the world. -/
theorem CellsAt.of_rd {T : Ty} {g : G} {h : H} {w : World} (r : WR T g h w) {id n b o z : Nat} {l : List V} (hg : g id = some (b, o, z)) (e : h.rd id 0 n = some l) : ∃ us, VRs g l us ∧ us.length = n ∧ CellsAt w b o z us := by
  unfold H.rd at e
  obtain ⟨p, h1, h2⟩ := ob_some.1 e
  obtain ⟨b', o', z', c, t, k1, k2, k3, k4, k5, k6⟩ := cells_ok' r hg h1
  rw [hg] at k1
  cases k1
  obtain ⟨us, m1, m2, m3, m4, m5⟩ := rdFrom_ok k6 n 0 l h2
  refine ⟨us, m1, m2, c, t, k2, k3, ?_, fun j u e => by simpa using m3 j u e⟩
  have := m5
  omega
end Ev
end Go.Proofs.YtogbcielgfidlaaGreatDoor
namespace Go.Proofs.YtogbcielgfidlaaGreatDoor
set_option linter.unusedVariables false
set_option linter.unusedSimpArgs false
set_option linter.unusedSectionVars false
namespace Ev
def kpU (hb ho : Nat) (F M : Int) (E : Bool) (x y s : Int) : List Value := [.pointer (some ⟨hb, ho, none⟩), .int .i64 F, .int .i64 M, .bool E, .int .i64 x, .int .i64 y, .int .i64 s]
def hpU (a0 a1 a2 a3 : Option Addr) (c0 c1 c2 c3 : Nat) (F : Int) (tb to sb so : Nat) : List Value := [.slice a0 0 c0, .slice a1 0 c1, .slice a2 0 c2, .slice a3 0 c3, .int .i64 0, .int .i64 F, .pointer (some ⟨tb, to, none⟩), .pointer (some ⟨sb, so, none⟩)]
/-- The blocks that a collection meets. -/
structure Lay where
  kb : Nat
  ko : Nat
  kz : Nat
  hb : Nat
  ho : Nat
  hz : Nat
  tb : Nat
  to : Nat
  tz : Nat
  sb : Nat
  so : Nat
  sz : Nat
  rb : Nat
  ro : Nat
  rz : Nat
  cap : Nat
  zs : List Int
  F : Int
structure Lay.Ok (l : Lay) : Prop where
  kh : l.kb ≠ l.hb
  kr : l.kb ≠ l.rb
  hr : l.hb ≠ l.rb
  kt : l.kb ≠ l.tb
  ks : l.kb ≠ l.sb
  ht : l.hb ≠ l.tb
  hs : l.hb ≠ l.sb
  imm : ∀ j, j < l.zs.length → ImmW (l.zs.getD j 0)
  pos : 0 < l.zs.length
  len : l.zs.length ≤ 100000
  f1 : 1 ≤ l.F
  f2 : l.F ≤ 5000
/-- The keeper and its heap lie there. -/
structure Lay.KH (l : Lay) (w : World) : Prop where
  k : ∃ M E x y s, 0 ≤ M ∧ CellsAt w l.kb l.ko l.kz (kpU l.hb l.ho l.F M E x y s)
  h : ∃ a0 a1 a2 a3 c0 c1 c2 c3, CellsAt w l.hb l.ho l.hz (hpU a0 a1 a2 a3 c0 c1 c2 c3 l.F l.tb l.to l.sb l.so)
structure Lay.In (l : Lay) (w : World) : Prop where
  kh : l.KH w
  t : CellsAt w l.tb l.to l.tz []
  s : CellsAt w l.sb l.so l.sz []
  r : CellsAt w l.rb l.ro l.rz (l.zs.map (Value.int .u64))
/-- What is left. -/
structure Lay.Out (l : Lay) (w w' : World) : Prop where
  kh : l.KH w'
  size : w.heap.size ≤ w'.heap.size
  keep : ∀ b, b < w.heap.size → b ≠ l.kb → b ≠ l.hb → w'.heap[b]? = w.heap[b]?
  os : w'.os = w.os
  tape : w'.tape = w.tape
  output : w'.output = w.output
def Lay.g (l : Lay) : G := fun p => match p with
  | 1 => some (l.kb, l.ko, l.kz)
  | 2 => some (l.hb, l.ho, l.hz)
  | 3 => some (l.tb, l.to, l.tz)
  | 4 => some (l.sb, l.so, l.sz)
  | 8 => some (l.rb, l.ro, l.rz)
  | _ => none
theorem hS_blk (ro : Nat) (zs : List Int) (j : Nat) : (hS ro zs).blk j = if j = 4 then some (.ro 0 .e) else if j = 3 then some (.ro 0 .e) else if j = 2 then some (cellsB hpS) else if j = 1 then some (cellsB kpS) else if j = 8 then some (.ro zs.length (trZ ro zs)) else none := by
  show (((((Tr.put .e 8 (some (.ro zs.length (trZ ro zs)))).put 1 (some (cellsB kpS))).put 2 (some (cellsB hpS))).put 3 (some (.ro 0 .e))).put 4 (some (.ro 0 .e))).get j = _
  rw [Tr.get_put _ _ _ _ (by decide), Tr.get_put _ _ _ _ (by decide), Tr.get_put _ _ _ _ (by decide), Tr.get_put _ _ _ _ (by decide), Tr.get_put _ _ _ _ (by decide), Tr.get_e]
variable [Opq]
set_option linter.unusedSectionVars false
theorem Lay.wr {l : Lay} (o : l.Ok) (hF : Opq.val 2 = .int .i64 l.F) {w : World} (i : l.In w) : WR (TZ l.rb l.ro l.zs) l.g (hS l.ro l.zs) w := by
  obtain ⟨⟨⟨M, E, x, y, s, hM, hk⟩, a0, a1, a2, a3, c0, c1, c2, c3, hh⟩, ht, hs, hr⟩ := i
  have f1 := o.f1
  have f2 := o.f2
  have vF : ∀ g : G, VR g fs (.int .i64 l.F) := fun g => by
    have := @VR.oqs _ g 2 1 0 l.F hF (by omega) f1 f2
    rwa [Int.add_zero] at this
  have kin : ∀ {id : Nat} {b : Blk}, (hS l.ro l.zs).blk id = some b → ∀ u ch, b.kin ≠ some (some u, ch) := by
    intro id b e u ch q
    rw [hS_blk] at e
    repeat' split at e
    all_goals first | (cases e; cases q; done) | (cases e; done)
  refine ⟨(by decide : (9 : Nat) ≤ keys), fun id b e => ?_, fun id p e => ?_, fun id b o' z e => ?_, fun id p b e1 e2 => ?_, fun p q b o1 z1 o2 z2 bp bq hpq e1 e2 e3 e4 l1 l2 => ?_, fun id b j d ch e1 e2 => (kin e1 _ _ e2).elim, fun id b j d ch b' e1 e2 => (kin e1 _ _ e2).elim⟩
  · rw [hS_blk] at e
    show id < 9
    rcases Nat.lt_or_ge id 9 with k | k
    · exact k
    · rw [if_neg (by omega), if_neg (by omega), if_neg (by omega), if_neg (by omega), if_neg (by omega)] at e
      cases e
  · show id < 9
    match id, e with
    | 8, _ => decide
    | 1, _ => decide
    | 2, _ => decide
    | 3, _ => decide
    | 4, _ => decide
  · match id, e with
    | 8, e => cases e; exact hr.lt
    | 1, e => cases e; exact hk.lt
    | 2, e => cases e; exact hh.lt
    | 3, e => cases e; exact ht.lt
    | 4, e => cases e; exact hs.lt
  · rw [hS_blk] at e2
    match id, e1 with
    | 8, e1 =>
      cases e1
      cases e2
      obtain ⟨c, t, q1, q2, q3, q4⟩ := hr
      rw [List.length_map] at q3
      have hl := o.len
      have big : (200000 : Nat) ≤ keys := by decide
      refine ⟨_, _, _, c, t, rfl, q1, q2, q3, by omega, fun j v hj e => ?_⟩
      rw [(trZ_get l.ro o.len).2 j hj] at e
      cases e
      refine ⟨_, ?_, .int _ _, rfl⟩
      refine q4 j _ ?_
      simp [List.getD, hj, List.getElem?_eq_getElem hj]
    | 1, e1 =>
      cases e1
      cases e2
      exact hk.cells (vs := kpS) rfl (.cons (.ptr (off := 0) rfl) <| .cons (vF _) <| .cons (.unl hM) <| .cons .unb <| .cons .unk <| .cons .unk <| .cons .unk .nil) (by decide) (by decide : (7 : Nat) ≤ 200000)
    | 2, e1 =>
      cases e1
      cases e2
      exact hh.cells (vs := hpS) rfl (.cons .une <| .cons .une <| .cons .une <| .cons .une <| .cons (.int _ _) <| .cons (vF _) <| .cons (.ptr (off := 0) rfl) <| .cons (.ptr (off := 0) rfl) .nil) (by decide) (by decide : (8 : Nat) ≤ 200000)
    | 3, e1 =>
      cases e1
      cases e2
      obtain ⟨c, t, q1, q2, _⟩ := ht
      exact ⟨_, _, _, c, t, rfl, q1, q2, Nat.zero_le _, Nat.zero_le _, fun j v hj _ => absurd hj (Nat.not_lt_zero _)⟩
    | 4, e1 =>
      cases e1
      cases e2
      obtain ⟨c, t, q1, q2, _⟩ := hs
      exact ⟨_, _, _, c, t, rfl, q1, q2, Nat.zero_le _, Nat.zero_le _, fun j v hj _ => absurd hj (Nat.not_lt_zero _)⟩
  · have lt5 : ∀ {p : Nat} {x : Nat × Nat × Nat}, l.g p = some x → p = 8 ∨ p = 1 ∨ p = 2 ∨ p = 3 ∨ p = 4 := by
      intro p x e
      match p, e with
      | 8, _ => omega
      | 1, _ => omega
      | 2, _ => omega
      | 3, _ => omega
      | 4, _ => omega
    rcases lt5 e1 with rfl | rfl | rfl | rfl | rfl <;> rcases lt5 e2 with rfl | rfl | rfl | rfl | rfl <;>
      first
      | exact absurd rfl hpq
      | (rw [hS_blk] at e3 e4; cases e3; cases e4; exact .inr (.inr ⟨rfl, rfl⟩))
      | (exfalso
         have h1 := (Option.some.inj e1)
         have h2 := (Option.some.inj e2)
         have h3 := congrArg Prod.fst h1
         have h4 := congrArg Prod.fst h2
         have h5 := h3.trans h4.symm
         first | exact o.kr h5 | exact o.kr h5.symm | exact o.hr h5 | exact o.hr h5.symm | exact o.kh h5 | exact o.kh h5.symm | exact o.kt h5 | exact o.kt h5.symm | exact o.ks h5 | exact o.ks h5.symm | exact o.ht h5 | exact o.ht h5.symm | exact o.hs h5 | exact o.hs h5.symm)
/-- A collection. -/
theorem collect_c {l : Lay} (o : l.Ok) (hF : Opq.val 2 = .int .i64 l.F) (hR : Opq.val 5 = .slice (some ⟨l.rb, l.ro, none⟩) l.zs.length l.cap) {w : World} (i : l.In w) (full : Bool) :
    Calls Tryz.prog 288 #[.pointer (some ⟨l.kb, l.ko, none⟩), .bool full, .int .i64 0, .slice (some ⟨l.rb, l.ro, none⟩) l.zs.length l.cap] w fun e w' =>
      (∃ B p z, e = .returned (.tuple #[.slice (some ⟨B, p, none⟩) l.zs.length z, .int .i64 0]) ∧ w.heap.size ≤ B ∧ CellsAt w' B p z (l.zs.map (Value.int .u64))) ∧ l.Out w w' := by
  have q : RowQ l.rb l.ro l.cap l.zs := ⟨hR, o.imm, o.pos, o.len⟩
  have r := Lay.wr o hF i
  have hG : Glob (TZ l.rb l.ro l.zs) l.g (hS l.ro l.zs) := fun p hp => by
    obtain rfl := List.mem_singleton.1 hp
    exact ⟨⟨_, _, rfl, fun h => absurd h (by decide : ¬ 8 < 8), fun _ => (trZ_get l.ro o.len).1⟩, by rw [hS_blk]; rfl⟩
  have key : ∀ (l1 l2 : List V) (h' : H), callQ l.zs (.fn 288) [.ptr 1 0, .bool full, .int .i64 0, .func (.yield 5) [] []] (hS l.ro l.zs) = some (vS l.zs, h') → h'.blk 38 = some (bS l.zs) → h'.rd 1 0 7 = some l1 → h'.rd 2 0 8 = some l2 →
      (∀ g w us b p z, g 2 = some (l.hb, l.ho, l.hz) → VRs g l1 us → CellsAt w b p z us → ∃ M E x y s, 0 ≤ M ∧ CellsAt w b p z (kpU l.hb l.ho l.F M E x y s)) →
      (∀ g w us b p z, g 3 = some (l.tb, l.to, l.tz) → g 4 = some (l.sb, l.so, l.sz) → VRs g l2 us → CellsAt w b p z us → ∃ a0 a1 a2 a3 c0 c1 c2 c3, CellsAt w b p z (hpU a0 a1 a2 a3 c0 c1 c2 c3 l.F l.tb l.to l.sb l.so)) →
      Calls Tryz.prog 288 #[.pointer (some ⟨l.kb, l.ko, none⟩), .bool full, .int .i64 0, .slice (some ⟨l.rb, l.ro, none⟩) l.zs.length l.cap] w fun e w' =>
        (∃ B p z, e = .returned (.tuple #[.slice (some ⟨B, p, none⟩) l.zs.length z, .int .i64 0]) ∧ w.heap.size ≤ B ∧ CellsAt w' B p z (l.zs.map (Value.int .u64))) ∧ l.Out w w' := by
    intro l1 l2 h' e eb ek eh ck ch
    obtain ⟨fn, _, _, _, c⟩ := (callQ_ok q).fn 288 _ _ _ _ e l.g w [.pointer (some ⟨l.kb, l.ko, none⟩), .bool full, .int .i64 0, .slice (some ⟨l.rb, l.ro, none⟩) l.zs.length l.cap] r hG
      (.cons (.ptr (off := 0) rfl) <| .cons (.bool _) <| .cons (.int _ _) <| .cons (.opq hR) .nil)
    refine (callsIn_wide.1 c).mono ?_
    rintro e w' ⟨g', u, rfl, hu, x⟩
    cases hu with
    | tup hu =>
    obtain _ | ⟨u1, _ | ⟨u2, _ | _⟩⟩ := hu
    rw [u2.int_inv]
    have g1 := x.le 1 _ (show l.g 1 = some (l.kb, l.ko, l.kz) from rfl)
    have g2 := x.le 2 _ (show l.g 2 = some (l.hb, l.ho, l.hz) from rfl)
    have g3 := x.le 3 _ (show l.g 3 = some (l.tb, l.to, l.tz) from rfl)
    have g4 := x.le 4 _ (show l.g 4 = some (l.sb, l.so, l.sz) from rfl)
    have g0 := x.le 8 _ (show l.g 8 = some (l.rb, l.ro, l.rz) from rfl)
    obtain ⟨us1, v1, n1, m1⟩ := CellsAt.of_rd x.wr g1 ek
    obtain ⟨us2, v2, n2, m2⟩ := CellsAt.of_rd x.wr g2 eh
    have b0 := (x.ro 8 _ _ _ _ _ (show l.g 8 = some (l.rb, l.ro, l.rz) from rfl) (show (hS l.ro l.zs).blk 8 = some (.ro l.zs.length (trZ l.ro l.zs)) by rw [hS_blk]; rfl))
    have b3 := (x.ro 3 _ _ _ _ _ (show l.g 3 = some (l.tb, l.to, l.tz) from rfl) (show (hS l.ro l.zs).blk 3 = some (.ro 0 .e) by rw [hS_blk]; rfl))
    have b4 := (x.ro 4 _ _ _ _ _ (show l.g 4 = some (l.sb, l.so, l.sz) from rfl) (show (hS l.ro l.zs).blk 4 = some (.ro 0 .e) by rw [hS_blk]; rfl))
    have lone : ∀ {i : Nat} {B o' z' : Nat} {y : Nat × Nat} {bi : Blk}, i ≠ 38 → g' 38 = some (B, o', z') → g' i = some (B, y) → h'.blk i = some bi → bi.live = true → False := fun hi h1 h2 h3 h4 =>
      x.wr.lone (fun k => hi k.symm) h1 h2 eb h3 rfl h4 (.inr rfl) (.inl rfl)
    have liv : ∀ {i n : Nat} {l : List V}, h'.rd i 0 n = some l → ∃ b, h'.blk i = some b ∧ b.live = true := by
      intro i n l e
      unfold H.rd H.cells at e
      obtain ⟨p, h1, _⟩ := ob_some.1 e
      obtain ⟨b, h2, h3⟩ := ob_some.1 h1
      exact ⟨b, h2, by cases b <;> first | rfl | cases h3⟩
    obtain ⟨bk, bk1, bk2⟩ := liv ek
    obtain ⟨bh, bh1, bh2⟩ := liv eh
    have keepB : ∀ b, b < w.heap.size → b ≠ l.kb → b ≠ l.hb → w'.heap[b]? = w.heap[b]? := by
      intro b hb h1 h2
      by_cases h3 : b = l.rb
      · rw [h3]; exact b0.2
      by_cases h4 : b = l.tb
      · rw [h4]; exact b3.2
      by_cases h5 : b = l.sb
      · rw [h5]; exact b4.2
      refine x.keep b hb fun id o z e => ?_
      match id, e with
      | 8, e => cases e; exact h3 rfl
      | 1, e => cases e; exact h1 rfl
      | 2, e => cases e; exact h2 rfl
      | 3, e => cases e; exact h4 rfl
      | 4, e => cases e; exact h5 rfl
    refine ⟨?_, ⟨ck g' w' us1 _ _ _ g2 v1 m1, ch g' w' us2 _ _ _ g3 g4 v2 m2⟩, x.size, keepB, x.os, x.tape, x.output⟩
    rcases u1.sli_inv with ⟨B, p, z, c, k1, k2, k3, rfl⟩ | ⟨_, _, _, _, _, k, _⟩
    · have hz : c = z := by omega
      subst hz
      refine ⟨B, p + 0, c, rfl, ?_, ?_⟩
      · rcases x.fresh 38 B p _ k1 rfl with h1 | ⟨i, o', z', h1⟩
        · exact h1
        · exfalso
          match i, h1 with
          | 8, h1 => cases h1; exact lone (by decide) k1 g0 b0.1 rfl
          | 1, h1 => cases h1; exact lone (by decide) k1 g1 bk1 bk2
          | 2, h1 => cases h1; exact lone (by decide) k1 g2 bh1 bh2
          | 3, h1 => cases h1; exact lone (by decide) k1 g3 b3.1 rfl
          | 4, h1 => cases h1; exact lone (by decide) k1 g4 b4.1 rfl
      · obtain ⟨b', o', z', c', t, y1, y2, y3, y4, y5, y6⟩ := x.wr.blk 38 _ _ k1 eb
        rw [k1] at y1
        cases y1
        refine ⟨c', t, y2, y3, by simpa using k3, fun j u e => ?_⟩
        rw [List.getElem?_map] at e
        obtain ⟨n, e1, rfl⟩ := Option.map_eq_some_iff.1 e
        have hj : j < l.zs.length := (List.getElem?_eq_some_iff.1 e1).1
        have hlen : (l.zs.map (V.int .u64)).length = l.zs.length := by simp
        have hl := o.len
        have big : (200000 : Nat) ≤ keys := by decide
        obtain ⟨u, q1, q2, _⟩ := y6 j (.int .u64 n) hj (by
          rw [trOf_get _ _ _ _ (by rw [hlen]; omega), if_pos (by rw [hlen]; omega), Nat.sub_zero, List.getElem?_map, e1]
          rfl)
        rw [q2.int_inv] at q1
        exact q1
    · have := o.pos
      omega
  have look : ∀ {r : Option (V × H)} {v : V} {b : Option Blk} {x y : Option (List V)}, lookS r = some (v, b, x, y) → ∃ h', r = some (v, h') ∧ h'.blk 38 = b ∧ h'.rd 1 0 7 = x ∧ h'.rd 2 0 8 = y := by
    intro r v b x y e
    obtain ⟨r, e1, e2⟩ := ob_some.1 (show ob r _ = _ from e)
    cases e2
    exact ⟨r.2, e1, rfl, rfl, rfl⟩
  have vF : ∀ {g : G} {u : Value}, VR g fs u → u = .int .i64 l.F := by
    intro g u h
    obtain ⟨B, h1, _, _, _, rfl⟩ := VR.oqs_inv (g := g) (k := 2) (l := 1) (o := 0) (c := []) h
    rw [hF] at h1
    cases h1
    rw [Int.add_zero]
  have ck : ∀ (v : V), (v = uk ∨ v = .int .i64 0) → ∀ g w us b p z, g 2 = some (l.hb, l.ho, l.hz) → VRs g [.ptr 2 0, fs, ul, ub, uk, uk, v] us → CellsAt w b p z us → ∃ M E x y s, 0 ≤ M ∧ CellsAt w b p z (kpU l.hb l.ho l.F M E x y s) := by
    intro v hv g w us b p z hg h c
    obtain _ | ⟨h0, _ | ⟨h1, _ | ⟨h2, _ | ⟨h3, _ | ⟨h4, _ | ⟨h5, _ | ⟨h6, _ | _⟩⟩⟩⟩⟩⟩⟩ := h
    rw [vF h1] at c
    cases h0 with
    | ptr h0 =>
    rw [hg] at h0
    cases h0
    cases h2 with
    | unl h2 =>
    cases h3
    cases h4
    cases h5
    rcases hv with rfl | rfl
    · cases h6
      exact ⟨_, _, _, _, _, h2, c⟩
    · cases h6
      exact ⟨_, _, _, _, _, h2, c⟩
  have emp : ∀ {g : G} {i : Nat} {u : Value}, VR g (.sl i 0 0 0 true 1) u → ∃ a c, u = .slice a 0 c := by
    intro g i u h
    cases h with
    | slx => exact ⟨_, _, rfl⟩
    | slx0 => exact ⟨_, _, rfl⟩
  have ch : ∀ (i j : Nat), ∀ g w us b p z, g 3 = some (l.tb, l.to, l.tz) → g 4 = some (l.sb, l.so, l.sz) → VRs g [ue, .sl i 0 0 0 true 1, ue, .sl j 0 0 0 true 1, .int .i64 0, fs, .ptr 3 0, .ptr 4 0] us → CellsAt w b p z us → ∃ a0 a1 a2 a3 c0 c1 c2 c3, CellsAt w b p z (hpU a0 a1 a2 a3 c0 c1 c2 c3 l.F l.tb l.to l.sb l.so) := by
    intro i j g w us b p z g3 g4 h c
    obtain _ | ⟨h0, _ | ⟨h1, _ | ⟨h2, _ | ⟨h3, _ | ⟨h4, _ | ⟨h5, _ | ⟨h6, _ | ⟨h7, _ | _⟩⟩⟩⟩⟩⟩⟩⟩ := h
    rw [vF h5] at c
    cases h0
    cases h2
    cases h4
    obtain ⟨a1, c1, rfl⟩ := emp h1
    obtain ⟨a3, c3, rfl⟩ := emp h3
    cases h6 with
    | ptr h6 =>
    cases h7 with
    | ptr h7 =>
    rw [g3] at h6
    rw [g4] at h7
    cases h6
    cases h7
    exact ⟨_, _, _, _, _, _, _, _, c⟩
  cases full with
  | true =>
    obtain ⟨h', e1, e2, e3, e4⟩ := look (run_t l.ro l.zs)
    exact key _ _ h' e1 e2 e3 e4 (ck _ (.inr rfl)) (ch _ _)
  | false =>
    obtain ⟨h', e1, e2, e3, e4⟩ := look (run_f l.ro l.zs)
    exact key _ _ h' e1 e2 e3 e4 (ck _ (.inl rfl)) (ch _ _)
end Ev
end Go.Proofs.YtogbcielgfidlaaGreatDoor
