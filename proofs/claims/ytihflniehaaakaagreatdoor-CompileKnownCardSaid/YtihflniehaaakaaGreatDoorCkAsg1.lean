/-
  The order of a function's intervals: what compile.ranged does to a row of pointers to them.
-/
import Derived.WalkKit
import Derived.LoopTactic
import Derived.Shelf.SlSortCmp.Whole1
import Derived.Test.YtihflniehaaakaaGreatDoorCkShelf
import Derived.Sort.MapsRangeIn
import Derived.OwnWalkIn
import Derived.TacticsInMore
import Derived.RegionIn
import Derived.LoopNIn
import Derived.LoopIn
import Derived.RangeFuncLeaves
import Derived.Lib.SlKeysI
namespace Go.Proofs.YtihflniehaaakaaGreatDoor
set_option linter.unusedVariables false
set_option linter.unusedSimpArgs false
set_option linter.unusedSimpArgs false
set_option linter.unusedVariables false
open Go.RowKit Go.Shelf Go.Lib Go.Sort
/-- An interval: from, v, and where it lies. -/
abbrev Sp := Int × Int × Nat × Nat
def encS (p : Sp) : Value := .pointer (some ⟨p.2.2.1, p.2.2.2, none⟩)
def SpOk (w : World) (p : Sp) : Prop := w.cell? ⟨p.2.2.1, p.2.2.2 + 1, none⟩ = some (.int .i64 p.1) ∧ w.cell? ⟨p.2.2.1, p.2.2.2, none⟩ = some (.int .i64 p.2.1)
def cfS (p q : Sp) : Int := if Lib.compareInt p.1 q.1 = 0 then Lib.compareInt p.2.1 q.2.1 else Lib.compareInt p.1 q.1
theorem cmp432 (x y : Int) (w : World) : Calls Tryz.prog 432 #[.int .i64 x, .int .i64 y] w fun e w' => e = .returned (.int .i64 (Lib.compareInt x y)) ∧ w' = w := by
  go_enter Tryz.func432, Tryz.ntmps432
  go_wp2
  all_goals
    go_ret
    refine ⟨?_, rfl⟩
    unfold Lib.compareInt
    repeat' split
    all_goals first
      | rfl
      | (exfalso; omega)
theorem key307 (p : Sp) (w : World) (h : SpOk w p) : Calls Tryz.prog 307 #[encS p] w fun e w' => e = .returned (.int .i64 p.1) ∧ w' = w := by
  obtain ⟨h1, h2⟩ := h
  unfold encS
  go_enter Tryz.func307, Tryz.ntmps307
  go_wp2
  go_ret
  exact ⟨rfl, rfl⟩
theorem key308 (p : Sp) (w : World) (h : SpOk w p) : Calls Tryz.prog 308 #[encS p] w fun e w' => e = .returned (.int .i64 p.2.1) ∧ w' = w := by
  obtain ⟨h1, h2⟩ := h
  unfold encS
  go_enter Tryz.func308, Tryz.ntmps308
  go_wp2
  go_ret
  exact ⟨rfl, rfl⟩
set_option maxHeartbeats 1000000 in
set_option maxRecDepth 1000000 in
theorem cmp431 (p q : Sp) (bx bb : Nat) (w : World) (hx : w.cell? ⟨bx, 0, none⟩ = some (.slice (some ⟨bb, 0, none⟩) 2 2)) (h0 : w.cell? ⟨bb, 0, none⟩ = some (.func (.func 307) #[] #[])) (h1 : w.cell? ⟨bb, 1, none⟩ = some (.func (.func 308) #[] #[])) (hp : SpOk w p) (hq : SpOk w q) :
    Calls Tryz.prog 431 #[encS p, encS q, .pointer (some ⟨bx, 0, none⟩)] w fun e w' => e = .returned (.int .i64 (cfS p q)) ∧ w' = w := by
  have a0 := key307 p w hp
  have a1 := key307 q w hq
  have b0 := key308 p w hp
  have b1 := key308 q w hq
  have c0 := cmp432 p.1 q.1 w
  have c1 := cmp432 p.2.1 q.2.1 w
  clear hp hq
  have hcf : cfS p q = if Lib.compareInt p.1 q.1 = 0 then Lib.compareInt p.2.1 q.2.1 else Lib.compareInt p.1 q.1 := rfl
  generalize cfS p q = r at hcf ⊢
  generalize Lib.compareInt p.1 q.1 = r0 at c0 hcf
  generalize Lib.compareInt p.2.1 q.2.1 = r1 at c1 hcf
  generalize encS p = vp at a0 b0 ⊢
  generalize encS q = vq at a1 b1 ⊢
  go_enter Tryz.func431, Tryz.ntmps431
  go_wp2
  go_loopw [11] (fun i wr => wr = w ∧ (i = .int .i64 0 ∨ (i = .int .i64 1 ∧ r0 = 0) ∨ (i = .int .i64 2 ∧ r0 = 0 ∧ r1 = 0))) (fun i _ => 2 - (intOf i).toNat)
  case atStart => exact ⟨rfl, .inl rfl⟩
  case round =>
    obtain ⟨rfl, rfl | ⟨rfl, z0⟩ | ⟨rfl, z0, z1⟩⟩ := hrel
    · go_wp2_with (first
        | (go_at_call 307; first | (refine a0.mono ?_; rintro e w' ⟨rfl, rfl⟩) | (refine a1.mono ?_; rintro e w' ⟨rfl, rfl⟩))
        | (go_at_call 432; refine c0.mono ?_; rintro e w' ⟨rfl, rfl⟩))
      · go_ret
        refine ⟨?_, rfl⟩
        have e0 : ¬ r0 = 0 := by simpa using (show (r0 != 0) = true by assumption)
        rw [hcf, if_neg e0]
        rfl
      · have e0 : r0 = 0 := by simpa using (show (r0 != 0) = false by assumption)
        go_roundw
        case rel => simp [e0]
        case measure => simp [intOf]
    · go_wp2_with (first
        | (go_at_call 308; first | (refine b0.mono ?_; rintro e w' ⟨rfl, rfl⟩) | (refine b1.mono ?_; rintro e w' ⟨rfl, rfl⟩))
        | (go_at_call 432; refine c1.mono ?_; rintro e w' ⟨rfl, rfl⟩))
      · go_ret
        refine ⟨?_, rfl⟩
        rw [hcf, if_pos z0]
        rfl
      · have e1 : r1 = 0 := by simpa using (show (r1 != 0) = false by assumption)
        go_roundw
        case rel => simp [z0, e1]
        case measure => simp [intOf]
    · go_wp2
      go_ret
      refine ⟨?_, rfl⟩
      rw [hcf, if_pos z0, z1]
      rfl
/- The order is strict and weak; it tells intervals of different numbers apart. -/
theorem cmpI_lt (x y : Int) : Lib.compareInt x y < 0 ↔ x < y := by
  unfold Lib.compareInt
  split
  · simp_all
  · split <;> simp_all <;> omega
theorem cmpI_eq (x y : Int) : Lib.compareInt x y = 0 ↔ x = y := by
  unfold Lib.compareInt
  split
  · constructor
    · intro h; cases h
    · intro h; omega
  · split
    · constructor
      · intro h; cases h
      · intro h; omega
    · constructor
      · intro; omega
      · intro; rfl
theorem cfS_lt (p q : Sp) : cfS p q < 0 ↔ p.1 < q.1 ∨ (p.1 = q.1 ∧ p.2.1 < q.2.1) := by
  unfold cfS
  by_cases h : Lib.compareInt p.1 q.1 = 0
  · rw [if_pos h, cmpI_lt]
    have := (cmpI_eq _ _).1 h
    omega
  · rw [if_neg h, cmpI_lt]
    have : ¬ p.1 = q.1 := fun e => h ((cmpI_eq _ _).2 e)
    omega
section
variable {L : List Sp}
/-- The intervals at hand. -/
abbrev Of (L : List Sp) := {p : Sp // p ∈ L}
def encO (p : Of L) : Value := encS p.1
def cfO (p q : Of L) : Int := cfS p.1 q.1
theorem swoO : SWO (ltOf (cfO (L := L))) where
  irrefl x := by simp only [ltOf, cfO, decide_eq_false_iff_not, cfS_lt]; omega
  trans x y z h1 h2 := by simp only [ltOf, cfO, decide_eq_true_eq, cfS_lt] at *; omega
  ntrans x y z h1 h2 := by simp only [ltOf, cfO, decide_eq_false_iff_not, cfS_lt] at *; omega
variable [Inhabited (Of L)]
theorem cell_sw {w : World} {gb m : Nat} {dk : Array (Of L)} {os : Array Obj} {a : Addr} (h1 : a.block < w.heap.size) (h2 : a.block ≠ gb) : (sortWorld encO w gb 0 m dk os).cell? a = w.cell? a := by
  unfold sortWorld
  rw [cell?_grow _ _ _ (by rw [Go.Proofs.size_putRow]; exact h1), cell?_putRow_other _ _ _ _ _ _ (.inl h2)]
  rfl
set_option maxHeartbeats 1000000 in
set_option maxRecDepth 1000000 in
theorem ranged_w (gb cap bb : Nat) (d : Array (Of L)) (w : World) (hgb : gb < w.heap.size) (hH : Holds encO w gb 0 d) (hsz : d.size < 4611686018427387904) (h0 : w.cell? ⟨bb, 0, none⟩ = some (.func (.func 307) #[] #[])) (h1 : w.cell? ⟨bb, 1, none⟩ = some (.func (.func 308) #[] #[]))
    (hbb : bb ≠ gb) (hL : ∀ p ∈ L, SpOk w p ∧ p.2.2.1 ≠ gb) :
    Calls Tryz.prog 306 #[.slice (some ⟨gb, 0, none⟩) d.size cap, .slice (some ⟨bb, 0, none⟩) 2 2] w fun e w' => e = .returned (.tuple #[]) ∧ ∃ (d' : Array (Of L)) (n : Nat) (os : Array Obj) (t : TypeId),
      PermIn 0 d.size d d' ∧ SortedIn (ltOf cfO) 0 d.size d' ∧ w' = sortWorld encO (w.alloc (.cells #[.slice (some ⟨bb, 0, none⟩) 2 2] t)) gb 0 n d' os := by
  have eg : ∀ args w, (callFunc 431 args).run Tryz.prog w = .ok (.enter 431 args) w := enters_of Tryz.func431 (by kernel_rfl) rfl
  have bl : ∀ {a v}, w.cell? a = some v → a.block < w.heap.size := fun h => World.block_lt_of_cell? w _ h
  have hcon : ∀ t, Calls Tryz.prog 430 #[.slice (some ⟨gb, 0, none⟩) d.size cap, .func (.func 431) #[] #[.pointer (some ⟨w.heap.size, 0, none⟩)]] (w.alloc (.cells #[.slice (some ⟨bb, 0, none⟩) 2 2] t)) fun e w' =>
      e = .returned (.tuple #[]) ∧ ∃ d' n os, PermIn 0 d.size d d' ∧ SortedIn (ltOf cfO) 0 d.size d' ∧ w' = sortWorld encO (w.alloc (.cells #[.slice (some ⟨bb, 0, none⟩) 2 2] t)) gb 0 n d' os := by
    intro t
    have old : ∀ {a : Addr} {v : Value}, w.cell? a = some v → (w.alloc (.cells #[.slice (some ⟨bb, 0, none⟩) 2 2] t)).cell? a = some v := fun h => by
      rw [alloc_eq_grow, cell?_grow _ _ _ (bl h)]; exact h
    have lt : ∀ {b : Nat}, b < w.heap.size → b < (w.alloc (.cells #[.slice (some ⟨bb, 0, none⟩) 2 2] t)).heap.size := fun h => by
      rw [alloc_eq_grow, size_grow]; exact Nat.lt_of_lt_of_le h (Nat.le_add_right _ _)
    refine Any.slices_SortFunc Tryz.sort430 encO (fun _ => rfl) cfO swoO 431 _ gb 0 cap d _ eg (fun m os dk hs x y => ?_) ?_ (lt hgb) hsz
    · have sp : ∀ p : Of L, SpOk (sortWorld encO (w.alloc (.cells #[.slice (some ⟨bb, 0, none⟩) 2 2] t)) gb 0 m dk os) p.1 := fun p => by
        obtain ⟨⟨k1, k2⟩, k3⟩ := hL p.1 p.2
        exact ⟨(cell_sw (lt (bl k1)) k3).trans (old k1), (cell_sw (lt (bl k2)) k3).trans (old k2)⟩
      refine (cmp431 x.1 y.1 w.heap.size bb _ ?_ ((cell_sw (lt (bl h0)) hbb).trans (old h0)) ((cell_sw (lt (bl h1)) hbb).trans (old h1)) (sp x) (sp y)).mono fun e w' k => ⟨k.1, 0, #[], ?_⟩
      · rw [cell_sw (by rw [alloc_eq_grow, size_grow]; simp) (Nat.ne_of_gt hgb)]
        simp
      · rw [k.2, grow_empty]; rfl
    · intro j hj
      obtain ⟨k1, k2⟩ := hH j hj
      exact ⟨old k1, by rw [alloc_eq_grow, frozen?_grow _ _ _ hgb]; exact k2⟩
  clear hH hL h0 h1
  go_enter Tryz.func306, Tryz.ntmps306
  go_wp2_with (go_at_call 430; refine (hcon _).mono ?_; rintro e w' ⟨rfl, d', n, os, hp, hs, rfl⟩)
  go_end0
  exact ⟨rfl, d', n, os, _, hp, hs, rfl⟩
end
end Go.Proofs.YtihflniehaaakaaGreatDoor
namespace Go.Proofs.YtihflniehaaakaaGreatDoor
set_option linter.unusedVariables false
set_option linter.unusedSimpArgs false
set_option linter.unusedSimpArgs false
set_option linter.unusedVariables false
open Go.RowKit Go.Maps Go.Shelf Go.Lib Go.Sort
/-- How a map's value is read: as itself. -/
def asIs (v : Value) : Option (DataW Value × List MemPlace) := if v.oneCell' = true then some (.held v, []) else none
/-- The value at a key. -/
def pv (D : DataW Value) (x : Int) : Value := match D.atKey (.int .i64 x) .nil with
  | .held v => v
  | _ => .slice none 0 0
theorem asIs_inv {v : Value} {y : DataW Value × List MemPlace} (h : asIs v = some y) : v.oneCell' = true ∧ y = (.held v, []) := by
  unfold asIs at h
  split at h
  · rename_i k; cases h; exact ⟨k, rfl⟩
  · cases h
theorem pv_of {D : DataW Value} {x : Int} {c : Value} {y : DataW Value × List MemPlace} (h : asIs c = some y) (hat : ∀ zd, D.atKey (.int .i64 x) zd = y.1) : pv D x = c := by
  obtain ⟨_, rfl⟩ := asIs_inv h
  unfold pv
  rw [hat]
theorem grown_alloc (w : World) (o : Obj) : w.grownBy (w.alloc o) none := by
  refine ⟨rfl, rfl, rfl, ?_, fun k hk _ => ?_⟩
  · rw [alloc_eq_grow, size_grow]; exact Nat.le_add_right _ _
  · rw [alloc_eq_grow]; exact heap_grow_old w _ hk
theorem grown_sw {α : Type} [Inhabited α] {enc : α → Value} {w : World} {gb n : Nat} {d : Array α} {os : Array Obj} : w.grownBy (sortWorld enc w gb 0 n d os) (some gb) := by
  unfold sortWorld
  refine ⟨rfl, rfl, rfl, by rw [size_grow, Go.Proofs.size_putRow]; exact Nat.le_add_right _ _, fun k hk hne => ?_⟩
  rw [heap_grow_old _ _ (by rw [Go.Proofs.size_putRow]; exact hk)]
  have : gb ≠ k := fun e => hne (by rw [e])
  simp [putRow, mapBlock, Sort.ahead, Array.getElem?_modify, this]
theorem block_sw {α : Type} [Inhabited α] {enc : α → Value} {w : World} {gb n : Nat} {d : Array α} {os : Array Obj} {cur : Array Value} {e : TypeId} {fr : Nat × Nat} (hb : w.heap[gb]? = some (.cells cur e fr)) :
    (sortWorld enc w gb 0 n d os).heap[gb]? = some (.cells (putCells enc 0 d cur) e fr) := by
  have hg : gb < w.heap.size := (Array.getElem?_eq_some_iff.1 hb).1
  unfold sortWorld
  rw [heap_grow_old _ _ (by rw [Go.Proofs.size_putRow]; exact hg)]
  simp [putRow, mapBlock, Sort.ahead, Array.getElem?_modify, hb, onCells]
theorem take_put {α : Type} [Inhabited α] {enc : α → Value} (cur : Array Value) (d : Array α) (h : d.size ≤ cur.size) : (putCells enc 0 d cur).toList.take d.size = d.toList.map enc := by
  apply List.ext_getElem?
  intro j
  by_cases hj : j < d.size
  · rw [List.getElem?_take_of_lt hj, Array.getElem?_toList]
    simp [putCells, hj, show j < cur.size by omega]
  · rw [List.getElem?_take_eq_none (by omega), List.getElem?_eq_none (by simp; omega)]
theorem holds_blk {α : Type} [Inhabited α] {enc : α → Value} {w : World} {g : Nat} {cur : Array Value} {e : TypeId} {d : Array α} (hb : w.heap[g]? = some (.cells cur e (0, 0))) (ht : cur.toList.take d.size = d.toList.map enc) : Holds enc w g 0 d := by
  intro j hj
  refine ⟨?_, by simp [World.frozen?, hb]⟩
  have h1 : (cur.toList.take d.size)[j]? = (d.toList.map enc)[j]? := by rw [ht]
  rw [List.getElem?_take_of_lt hj] at h1
  simp only [World.cell?, hb, Nat.zero_add]
  simp only [Option.isSome_none, Bool.false_eq_true, if_false]
  rw [← Array.getElem?_toList, h1]
  simp [hj]
theorem ranges_grown {P : Program} {k : TypeId} {R : Value → Option (DataW Value × List MemPlace)} {w w' : World} {b r n : Nat} {D : DataW Value} {left : Lit → Bool} {cnt : Nat} (h : w.ranges P k R b r n D left cnt) (h1 : w'.heap[b]? = w.heap[b]?) (h2 : w'.heap[r]? = w.heap[r]?) : w'.ranges P k R b r n D left cnt := by
  obtain ⟨es, clock, since, seen, c0, hb, F, hs, hD, hr, rest⟩ := h
  exact ⟨es, clock, since, seen, c0, h1.trans hb, F, hs, hD, h2.trans hr, rest⟩
theorem as_of {L : List Sp} {sp : Int → Sp} : ∀ ss : List Int, (∀ x ∈ ss, sp x ∈ L) → ∃ ds : List (Of L), ds.map (·.1) = ss.map sp
  | [], _ => ⟨[], rfl⟩
  | x :: ss, h => by
    obtain ⟨ds, e⟩ := as_of ss fun u hu => h u (List.mem_cons_of_mem _ hu)
    exact ⟨⟨sp x, h x List.mem_cons_self⟩ :: ds, congrArg (sp x :: ·) e⟩
theorem hid {p : Prop} (h : p) : Hid p := h
theorem size_keys {P : Program} {k : TypeId} {w : World} {b n : Nat} {D : DataW Value} (h : w.ownsMap P k asIs b n D) : (intKeys D).length = Maps.size D := by
  obtain ⟨es, clock, _, _, _, rfl⟩ := h
  exact List.length_map _
theorem info428 : (Tryz.prog.info? 428).map (fun i => (i.zero, i.size, i.bytes)) = some (some (.pointer none), 1, 8) := by kernel_rfl
noncomputable def restA : Code := match Tryz.f178.body with
  | some (.seq _ (.seq _ (.seq _ r))) => r
  | _ => .skip
set_option maxHeartbeats 4000000 in
set_option maxRecDepth 1000000 in
theorem asg_start {Q : Ending → World → Prop} (L : List Sp) (sp : Int → Sp) (b o mb nn : Nat) (D0 : DataW Value) (w : World) (hm : w.cell? ⟨b, o + 3, none⟩ = some (.map (some mb))) (hown : w.ownsMap Tryz.prog 3 asIs mb nn D0) (hpos : 0 < Maps.size D0) (hmax : Maps.size D0 ≤ 1000000)
    (hL : ∀ p ∈ L, SpOk w p) (hpv : ∀ x, has D0 (.int .i64 x) = true → sp x ∈ L ∧ pv D0 x = encS (sp x))
    (K : ∀ (act : Act) (w' : World) (gb cap : Nat) (cur : Array Value) (ss : List Int) (d d' : Array (Of L)) (i : Inhabited (Of L)), act.defers = [] → act.tmps.size = Tryz.f178.ntmps → act.tmps[0]? = some (.pointer (some ⟨b, o, none⟩)) → act.tmps[2]? = some (.slice (some ⟨gb, 0, none⟩) d'.size cap) →
      w.grownBy w' none → w.heap.size ≤ gb → w'.heap[gb]? = some (.cells cur 428 (0, 0)) → cur.size = cap → d'.size ≤ cap → cur.toList.take d'.size = d'.toList.map encO → ss.Perm (intKeys D0) → d.toList.map (·.1) = ss.map sp → PermIn 0 d.size d d' → SortedIn (ltOf cfO) 0 d.size d' →
      restA.wpIn Fence.wide 0 Tryz.prog (bodyPostM Fence.wide 0 Tryz.prog Tryz.f178 Q) act w') :
    CallsIn Fence.wide 0 Tryz.prog 178 #[.pointer (some ⟨b, o, none⟩)] w Q := by
  obtain ⟨i0, hi, hz0, hz1, hz2⟩ := info_parts info428
  have hsz : (∀ p ∈ L, p.2.2.1 < w.heap.size) := fun p hp => World.block_lt_of_cell? w _ (hL p hp).1
  refine callsIn_of_wp_marks Tryz.func178 rfl trivial ?_
  change (Code.seq _ (Code.seq _ (Code.seq _ restA))).wpIn _ _ _ _ _ _
  generalize restA = R at K ⊢
  generalize bodyPostM Fence.wide 0 Tryz.prog Tryz.f178 Q = Q1 at K ⊢
  rw [show Tryz.f178.ntmps = _ from Tryz.ntmps178] at K
  simp only [Tryz.ntmps178, List.size_toArray, List.length_cons, List.length_nil, Nat.reduceAdd, Nat.reduceSub, Array.replicate_succ, Array.replicate_zero, List.push_toArray, List.append_toArray, List.nil_append, List.cons_append]
  gi_wp2_with (first
    | (gi_at_range; refine wpListIn_range_own _ rfl _ 303 rfl 3 428 (int_keyed Tryz.underlying3) Tryz.underlying303 asIs mb nn _ rfl hown ?_; intro w0 hrg0 hg0 hs0)
    | gi_in)
  go_frame
  gi_loopw [2] (fun v2 wr => ∃ (left : Lit → Bool) (cnt : Nat) (ss : List Int), wr.ranges Tryz.prog 3 asIs mb w.heap.size nn D0 left cnt ∧ ss.length + cnt ≤ Maps.size D0 ∧ CollectedI D0 left ss ∧ wr.ownsRow (w.heap.size + 1) 428 1 v2 ss.length (ss.map (pv D0)) ∧ w.grownBy wr none ∧ w.heap.size + 1 ≤ wr.heap.size)
    (fun _ wr => wr.rangeLeft mb w.heap.size)
  case atStart =>
    exact ⟨_, _, [], hrg0, by simp, CollectedI.start D0, World.ownsRow_nil _ _ _ _, hg0, by omega⟩
  case round =>
    obtain ⟨left, cnt, ss, hrg, hcs, hC, hrow, hgw, hsz2⟩ := hrel
    gi_wp2_with (first
      | (gi_at_next; refine wpListIn_next_ranges _ rfl _ rfl 3 (int_keyed Tryz.underlying3) asIs (Value.int .i64) id (fun key kl hk => by obtain ⟨x, hx, _⟩ := Maps.keyOf_i64 Tryz.underlying3 hk; exact ⟨x, hx⟩) (fun v _ _ => ⟨v, rfl⟩) mb w.heap.size nn _ _ _ rfl hrg ?_ ?_)
      | gi_in)
    · -- nothing is left
      intro hc0 hl0
      have hp := hC.perm hown (int_keyed Tryz.underlying3) Tryz.underlying3 hl0
      have hln : ss.length = Maps.size D0 := hp.length_eq.trans (size_keys hown)
      obtain ⟨r1, ⟨_, h0⟩ | ⟨gb, cap, cur, rfl, c1, c2, c3, c4, c5, c6⟩⟩ := hrow
      · exact absurd h0 (by omega)
      have hss : ∀ x ∈ ss, has D0 (.int .i64 x) = true := fun x hx => ((hC.2 x).1 hx).1
      obtain ⟨ds, hds⟩ := as_of (L := L) (sp := sp) ss fun x hx => (hpv x (hss x hx)).1
      have hdl : ds.length = ss.length := by have := congrArg List.length hds; simpa using this
      have hxs : ss.map (pv D0) = ds.map encO := by
        have : ds.map encO = (ds.map (·.1)).map encS := by rw [List.map_map]; rfl
        rw [this, hds, List.map_map]
        exact List.map_congr_left fun x hx => (hpv x (hss x hx)).2
      rw [Nat.mul_one, hxs] at c6
      obtain ⟨d0, hd0⟩ : ∃ d, d ∈ ds := by
        cases ds with
        | nil => simp at hdl; omega
        | cons d _ => exact ⟨d, List.mem_cons_self⟩
      letI inh : Inhabited (Of L) := ⟨d0⟩
      have hgl : gb < wr.heap.size := (Array.getElem?_eq_some_iff.1 c2).1
      have bk : ∀ {k v}, w.cell? k = some v → wr.cell? k = some v := fun h => hgw.cell h (by simp)
      have hcon : ∀ t, CallsIn Fence.wide 0 Tryz.prog 306 #[.slice (some ⟨gb, 0, none⟩) ss.length cap, .slice (some ⟨wr.heap.size, 0, none⟩) 2 2] (wr.alloc (.cells #[.func (.func 307) #[] #[], .func (.func 308) #[] #[]] t)) fun e w' => e = .returned (.tuple #[]) ∧
          ∃ (d' : Array (Of L)) (n : Nat) (os : Array Obj) (t' : TypeId), PermIn 0 ds.toArray.size ds.toArray d' ∧ SortedIn (ltOf cfO) 0 ds.toArray.size d' ∧
            w' = sortWorld encO ((wr.alloc (.cells #[.func (.func 307) #[] #[], .func (.func 308) #[] #[]] t)).alloc (.cells #[.slice (some ⟨wr.heap.size, 0, none⟩) 2 2] t')) gb 0 n d' os := by
        intro t
        rw [show ss.length = ds.toArray.size by simp [hdl]]
        have ga := grown_alloc wr (.cells #[.func (.func 307) #[] #[], .func (.func 308) #[] #[]] t)
        have hsa : (wr.alloc (.cells #[.func (.func 307) #[] #[], .func (.func 308) #[] #[]] t)).heap.size = wr.heap.size + 1 := by rw [alloc_eq_grow, size_grow]; rfl
        refine callsIn_wide.2 (ranged_w gb cap wr.heap.size ds.toArray _ (by omega) (holds_blk (cur := cur) (e := 428) ?_ ?_) (by simp; omega) (by simp) (by simp) (by omega) fun p hp => ?_)
        · rw [ga.block gb hgl (by simp)]; exact c2
        · simpa [hdl] using c6
        · obtain ⟨q1, q2⟩ := hL p hp
          refine ⟨⟨ga.cell (bk q1) (by simp), ga.cell (bk q2) (by simp)⟩, ?_⟩
          have := hsz p hp
          omega
      have HD := hid hdl
      have HS := hid hds
      have HP := hid hp
      have HX := hid c6
      have HB := hid c2
      have HG := hid hgw
      have HZ := hid (show cur.size = cap by omega)
      have HC := hid c3
      clear hC hrg hds hdl hp hln c6 c2 hgw c5 c3 c4
      have hf306 : Fence.wide.fn 306 := trivial
      have hdp : Fence.wide.depth = none := rfl
      gi_wp2_with (first
        | (refine (hcon _).mono ?_; rintro e w' ⟨rfl, d', n, os, t', hpm, hst, rfl⟩)
        | gi_in)
      have hd' : d'.size = ss.length := by
        have := hpm.1
        have := HD.out
        simp at *
        omega
      have hgw5 : w.grownBy (sortWorld encO ((wr.alloc (.cells #[.func (.func 307) #[] #[], .func (.func 308) #[] #[]] 434)).alloc (.cells #[.slice (some ⟨wr.heap.size, 0, none⟩) 2 2] t')) gb 0 n d' os) none :=
        ((HG.out.andThen (grown_alloc _ _) fun j e => by cases e).andThen (grown_alloc _ _) fun j e => by cases e).andThen grown_sw fun j e => .inl (by cases e; omega)
      have hblk := block_sw (enc := encO) (n := n) (d := d') (os := os) (((grown_alloc _ (.cells #[.slice (some ⟨wr.heap.size, 0, none⟩) 2 2] t')).block gb (by rw [alloc_eq_grow, size_grow]; omega) (by simp)).trans (((grown_alloc wr (.cells #[.func (.func 307) #[] #[], .func (.func 308) #[] #[]] 434)).block gb hgl (by simp)).trans HB.out))
      refine K _ _ gb cap _ ss ds.toArray d' inh rfl rfl rfl ?_ hgw5 (by omega) hblk ?_ ?_ ?_ HP.out (by simpa using HS.out) hpm hst
      · rw [hd']; rfl
      · rw [← HZ.out]; simp [putCells]
      · rw [hd']; exact HC.out
      · exact take_put cur d' (by rw [hd', HZ.out]; exact HC.out)
    · -- an interval has come
      intro x c kl y1 y2 w2 cnt2 hkey hlk hv hat hrg2 hlt hg2 hs2 hen
      obtain ⟨x', ex, rfl, _⟩ := Maps.keyOf_i64 Tryz.underlying3 hkey
      obtain rfl : x = x' := by cases ex; rfl
      have hc1 := (asIs_inv hv).1
      have hpc := pv_of hv hat
      obtain ⟨_, hpe⟩ := hpv x (has_true_of_atKey hat)
      rw [hpc] at hpe
      unfold encS at hpe
      obtain rfl := hpe
      have hrow2 : w2.ownsRow (w.heap.size + 1) 428 1 u2 ss.length (ss.map (pv D0)) := by
        obtain ⟨r1, r2⟩ := hrow
        refine ⟨r1, r2.imp id ?_⟩
        rintro ⟨g, cap, cur, e1, e2, e3, e4⟩
        exact ⟨g, cap, cur, e1, e2, by rw [hg2.block g (Array.getElem?_eq_some_iff.1 e3).1 (by simp; omega)]; exact e3, e4⟩
      have hmb : mb < w.heap.size := hown.lt
      have hC2 := hC.step hlk hat
      gi_wp2_with (first
        | (gi_at_builtin; refine wpListIn_append_own _ rfl _ _ 432 rfl (w.heap.size + 1) 428 i0 (.pointer none) 1 8 Tryz.underlying432 hi hz0 hz1 hz2 rfl (by decide) _ _ _ rfl (hrow2.alloc _) ⟨wr.heap.size, 0, none⟩ 1 1 [.pointer (some ⟨(sp x).2.2.1, (sp x).2.2.2, none⟩)] rfl rfl ?c1 ?c2 ?c3 ?c4 ?c5 ?_)
        | gi_in)
      case c3 => unfold maxLen; omega
      case c4 => omega
      case c5 => omega
      intro v' w1 hown' hgrow _
      have x1 : w2.grownBy w1 u2.ownBlock := ⟨hgrow.os, hgrow.tape, hgrow.output, Nat.le_trans (by rw [alloc_eq_grow, size_grow]; exact Nat.le_add_right _ _) hgrow.size, fun k hk hne => (hgrow.block k (by rw [alloc_eq_grow, size_grow]; omega) hne).trans ((grown_alloc w2 _).block k hk (by simp))⟩
      have hob := hrow2.lt
      have hw1 : w.grownBy w1 none := (hgw.andThen hg2 fun j e => .inl (by cases e; exact Nat.le_refl _)).andThen x1 fun j e => .inl (by have := (hob j e).1; omega)
      have hsz3 : w.heap.size + 1 ≤ w1.heap.size := Nat.le_trans (by omega) x1.size
      have hrg3 := ranges_grown (w' := w1) hrg2 (x1.block mb (by omega) fun e => by have := (hob mb e.symm).1; omega) (x1.block w.heap.size (by omega) fun e => by have := (hob _ e.symm).1; omega)
      have hown3 : w1.ownsRow (w.heap.size + 1) 428 1 v' (ss ++ [x]).length ((ss ++ [x]).map (pv D0)) := by
        rw [List.length_append, List.map_append]
        show w1.ownsRow _ _ _ _ _ (_ ++ [pv D0 x])
        rw [hpc]
        exact hown'
      clear hrow2 hrow hown' hgrow x1 hob hgw hg2 hC hrg2
      gi_wp2
      go_roundw
      case rel => exact ⟨_, cnt2, ss ++ [x], hrg3, by simp; omega, hC2, hown3, hw1, hsz3⟩
      case measure => rw [hrg3.left_eq, hrg.left_eq]; exact hlt
end Go.Proofs.YtihflniehaaakaaGreatDoor
