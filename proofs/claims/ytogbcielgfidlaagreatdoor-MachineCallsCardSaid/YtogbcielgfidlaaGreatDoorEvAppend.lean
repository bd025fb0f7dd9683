/-
  Append.
-/
import Derived.Test.YtogbcielgfidlaaGreatDoorEvRead
import Derived.Laws.CopyRow
namespace Go.Proofs.YtogbcielgfidlaaGreatDoor
set_option linter.unusedVariables false
set_option linter.unusedSimpArgs false
namespace Ev
variable [Opq]
set_option linter.unusedSectionVars false
section
variable {P : Program} {T : Ty} {g : G} {ρ : Operand → Value} {h : H} {w : World}

theorem WR.drew1 (r : WR T g h w) : WR T g h w.drew := by
  refine ⟨r.bound, r.top, r.dom, r.lt, fun id x b e1 e2 => ?_, r.mates, r.kids, r.ext⟩
  obtain ⟨b', o, z⟩ := x
  exact BR.move e1 rfl (r.blk _ _ _ e1 e2)
/-- What is appended: so many elements, these cells. -/
def Src (P : Program) (T : Ty) (t2 : TypeId) (e : TypeId) (n : Nat) (x : Value) (m : Nat) (us : List Value) (w : World) : Prop :=
  us.length = m * n ∧ ((∃ du, T.under t2 = some du ∧ ((∃ e', du = .slice e') ∨ du = .string) ∧ (∀ w, (Builtin.lenOf x).run P w = .ok m w) ∧ (Builtin.firstCells n m x).run P w = .ok us.toArray w ∧ (Builtin.firstCells n m x).run P w.drew = .ok us.toArray w.drew) ∨
   (T.under t2 = some (.int .i64) ∧ x = .int .i64 m ∧ m < 1048576 ∧ ∃ zu i, (∀ w, (zeroValue e).run P w = .ok zu w) ∧ T.info e = some i ∧ i.bytes < 1048576 ∧ us = (Builtin.zeroCells zu.cells m).toList))
theorem append_room (hT : TyOk P T) {t e t2 : TypeId} {n : Nat} {at' : Array TypeId} {ty : TypeId} {base : Option Addr} {sLen sCap m : Nat} {x : Value} {us : List Value} (h0 : at'[0]? = some t) (h1 : T.under t = some (.slice e)) (hn : sizeT T e = some n) (h2 : at'[1]? = some t2)
    (hs : Src P T t2 e n x m us w) (hroom : sLen + m ≤ sCap) {w' : World} (hb : ∀ a, base = some a → (storeCells (a.add (sLen * n)) us).run P w = .ok () w') (hb' : base = none → w' = w) :
    (Builtin.append_ at' ty #[.slice base sLen sCap, x]).run P w = .ok (.slice base (sLen + m) sCap) w' := by
  obtain ⟨hlen, hs⟩ := hs
  rcases hs with ⟨du, k1, ⟨e', rfl⟩ | rfl, k2, k3, _⟩ | ⟨k1, rfl, k2, zu, i, k3, k4, k5, k6⟩
  · cases base with
    | none =>
      cases hb' rfl
      simp [Builtin.append_, h0, h2, run_underlying' hT h1, run_underlying' hT k1, run_sizeOf' hT hn, k2, k3, hroom]
    | some a =>
      have := hb a rfl
      simp [Builtin.append_, h0, h2, run_underlying' hT h1, run_underlying' hT k1, run_sizeOf' hT hn, k2, k3, hroom, this]
  · cases base with
    | none =>
      cases hb' rfl
      simp [Builtin.append_, h0, h2, run_underlying' hT h1, run_underlying' hT k1, run_sizeOf' hT hn, k2, k3, hroom]
    | some a =>
      have := hb a rfl
      simp [Builtin.append_, h0, h2, run_underlying' hT h1, run_underlying' hT k1, run_sizeOf' hT hn, k2, k3, hroom, this]
  · have wl : IntKind.i64.wrap (m : Int) = m := by unfold IntKind.wrap; simp [IntKind.bits, IntKind.signed]; omega
    have hm0 : ¬ (m : Int) < 0 := by omega
    have hbig : ¬ ((m : Int) * (i.bytes : Int) > 281474976710656) := by
      have h3 : m * i.bytes ≤ 1048576 * 1048576 := Nat.mul_le_mul (by omega) (by omega)
      have : ((m * i.bytes : Nat) : Int) ≤ 1099511627776 := by omega
      rw [Int.natCast_mul] at this
      omega
    have h48 : ((2 : Int) ^ 48) = 281474976710656 := by decide
    have hus : (if m * n = 0 then (pure #[] : Sem (Array Value)) else do pure (Builtin.zeroCells (← zeroValue e).cells m)).run P w = .ok us.toArray w := by
      by_cases hz : m * n = 0
      · rw [if_pos hz, List.eq_nil_of_length_eq_zero (hlen.trans hz)]
        simp
      · rw [if_neg hz]
        simp [k3, k6]
    cases base with
    | none =>
      cases hb' rfl
      simp [Builtin.append_, h0, h2, run_underlying' hT h1, run_underlying' hT k1, run_sizeOf' hT hn, asInt, asIntOf, wl, hm0, run_typeInfo' hT k4, h48, hbig, hroom]
      intro _
      simp [k3]
    | some a =>
      have := hb a rfl
      simp [Builtin.append_, h0, h2, run_underlying' hT h1, run_underlying' hT k1, run_sizeOf' hT hn, asInt, asIntOf, wl, hm0, run_typeInfo' hT k4, h48, hbig, hroom]
      split
      · rename_i hz
        rw [List.eq_nil_of_length_eq_zero (hlen.trans hz)] at this
        simp [this]
      · simp [k3, ← k6, this]
theorem growBy_le (need : Nat) : ∀ k c, c ≤ 2 * need + 768 → Builtin.growBy need k c ≤ 2 * need + 768
  | 0, c, h => h
  | k + 1, c, h => by
    unfold Builtin.growBy
    split
    · exact h
    · exact growBy_le need k _ (by omega)
theorem nextslicecap_le {need cap : Nat} (h : cap < need) : Builtin.nextslicecap need cap ≤ 2 * need + 768 := by
  unfold Builtin.nextslicecap
  split
  · omega
  · split
    · omega
    · exact growBy_le need 4 cap (by omega)
theorem append_grow (hT : TyOk P T) {t e t2 : TypeId} {n : Nat} {at' : Array TypeId} {ty : TypeId} {base : Option Addr} {sLen sCap m : Nat} {x : Value} {us old : List Value} {zu : Value} {i : TypeInfo} (h0 : at'[0]? = some t) (h1 : T.under t = some (.slice e)) (hn : sizeT T e = some n) (h2 : at'[1]? = some t2)
    (hs : Src P T t2 e n x m us w) (hroom : ¬ sLen + m ≤ sCap) (hold : (Builtin.firstCells n sLen (.slice base sLen sCap)).run P w.drew = .ok old.toArray w.drew) (hzu : ∀ w, (zeroValue e).run P w = .ok zu w) (hi : T.info e = some i) (hb1 : 0 < i.bytes) (hb2 : i.bytes < 1048576)
    (hbig : (sLen + m) * i.bytes < 1099511627776) :
    ∃ newCap, sLen + m ≤ newCap ∧ (Builtin.append_ at' ty #[.slice base sLen sCap, x]).run P w =
      .ok (.slice (some ⟨w.heap.size, 0, none⟩) (sLen + m) newCap) (w.drew.alloc (.cells (old.toArray ++ us.toArray ++ Builtin.zeroCells zu.cells (newCap - (sLen + m))) e)) := by
  obtain ⟨hlen, hs⟩ := hs
  have hneed : sLen + m < 1099511627776 := Nat.lt_of_le_of_lt (Nat.le_mul_of_pos_right _ hb1) hbig
  have hmax' : ¬ (9223372036854775807 < (sLen : Int) + (m : Int)) := by omega
  have hcap : ¬ 281474976710656 < Builtin.nextslicecap (sLen + m) sCap * i.bytes := by
    have k := nextslicecap_le (need := sLen + m) (cap := sCap) (by omega)
    have k2 : Builtin.nextslicecap (sLen + m) sCap * i.bytes ≤ (2 * (sLen + m) + 768) * i.bytes := Nat.mul_le_mul_right _ k
    rw [Nat.add_mul, Nat.mul_assoc] at k2
    omega
  have h48 : 2 ^ 48 = 281474976710656 := by decide
  have h48i : ((2 : Int) ^ 48) = 281474976710656 := by decide
  refine ⟨sLen + m + w.tape w.drawn (.appendCap (sLen + m) sCap e) % (2 ^ 63 - (sLen + m)), by omega, ?_⟩
  have hforced : (Question.appendCap (sLen + m) sCap e).forced = false := rfl
  generalize hnc : sLen + m + w.tape w.drawn (.appendCap (sLen + m) sCap e) % (2 ^ 63 - (sLen + m)) = nc
  have hcut : (Question.appendCap (sLen + m) sCap e).cut (w.tape w.drawn (Question.appendCap (sLen + m) sCap e)) = nc := hnc
  rcases hs with ⟨du, k1, ⟨e', rfl⟩ | rfl, k2, _, k3⟩ | ⟨k1, rfl, k2, zu', i', k3, k4, k5, k6⟩
  · simp [Builtin.append_, h0, h2, run_underlying' hT h1, run_underlying' hT k1, run_sizeOf' hT hn, k2, hroom, run_typeInfo' hT hi, h48, hcap, hforced, hcut, k3, hold, hzu, newRow, Nat.ne_of_gt hb1]
    congr 2
    apply Array.ext'
    simp
  · simp [Builtin.append_, h0, h2, run_underlying' hT h1, run_underlying' hT k1, run_sizeOf' hT hn, k2, hroom, run_typeInfo' hT hi, h48, hcap, hforced, hcut, k3, hold, hzu, newRow, Nat.ne_of_gt hb1]
    congr 2
    apply Array.ext'
    simp
  · have wl : IntKind.i64.wrap (m : Int) = m := by unfold IntKind.wrap; simp [IntKind.bits, IntKind.signed]; omega
    have hm0 : ¬ (m : Int) < 0 := by omega
    rw [hi] at k4
    cases k4
    have hbig' : ¬ ((m : Int) * (i.bytes : Int) > 281474976710656) := by
      have h3 : m * i.bytes ≤ 1048576 * 1048576 := Nat.mul_le_mul (by omega) (by omega)
      have : ((m * i.bytes : Nat) : Int) ≤ 1099511627776 := by omega
      rw [Int.natCast_mul] at this
      omega
    simp [Builtin.append_, h0, h2, run_underlying' hT h1, run_underlying' hT k1, run_sizeOf' hT hn, asInt, asIntOf, wl, hm0, run_typeInfo' hT hi, h48, h48i, hbig', hroom, hmax', hcap, hforced, hcut, hold, newRow, hzu]
    have hzz : zu' = zu := by
      have e1 := k3 w
      rw [hzu w] at e1
      cases e1
      rfl
    subst hzz
    split
    · rename_i h0
      rw [List.eq_nil_of_length_eq_zero (hlen.trans h0)]
      simp
    · rw [k6]
      congr 3
      apply Array.ext'
      simp
theorem zeroCells_ok {z : List V} {zs : Array Value} (hz : VRs g z zs.toList) (n : Nat) : VRs g (repL z n) (Builtin.zeroCells zs n).toList := by
  have := rep_ok' hz n
  simpa [Builtin.zeroCells] using this
theorem src_src (hT : TyOk P T) (r : WR T g h w) {e t2 : TypeId} {n : Nat} {z : V} {i : TypeInfo} {du : TypeDesc} {zs : Option (List V)} {a : V} {x : Value} {p : Nat × List V} (hz : zeroT T e = some z) (hzl : (cellsOf z).length = n) (hi : T.info e = some i) (hb2 : i.bytes < 1048576)
    (h3 : T.under t2 = some du) (hdu : (((∃ e', du = .slice e') ∨ du = .string) ∧ zs = none) ∨ (du = .int .i64 ∧ zs = some (cellsOf z))) (ha : VR g a x) (hr : srcCells n zs a h = some p) : ∃ us, VRs g p.2 us ∧ Src P T t2 e n x p.1 us w := by
  rcases hdu with ⟨hdu, rfl⟩ | ⟨rfl, rfl⟩
  · obtain ⟨us, k1, k2, k3, k4⟩ := src_ok (P := P) r ha hr
    have q1 := k4 w rfl p.1 (Nat.le_refl _)
    have q2 := k4 w.drew rfl p.1 (Nat.le_refl _)
    rw [List.take_of_length_le (by omega)] at q1 q2
    exact ⟨us, k1, k2, .inl ⟨du, h3, hdu, k3, q1, q2⟩⟩
  · obtain ⟨zu, hzu, hzr⟩ := zeroT_ok (g := g) hT hz
    cases a with
    | int k m =>
      cases k <;> first | (cases hr; done) | skip
      cases m with
      | negSucc m => cases hr
      | ofNat m =>
        obtain ⟨q1, q2⟩ := oif_some.1 (show oif (Nat.blt m 1048576) (some (m, repL (cellsOf z) m)) = some p from hr)
        cases q2
        have hc := cells_ok hzu
        have hl := hc.length
        refine ⟨_, zeroCells_ok hc m, ?_, .inr ⟨h3, ha.int_inv, by simpa using q1, zu, i, hzr, hi, hb2, rfl⟩⟩
        simp [Builtin.zeroCells] at hl ⊢
        rw [← hl, hzl]
    | _ => cases hr
theorem newCells_br {l : List V} {us : List Value} {g' : G} {w' : World} {id b o z : Nat} {c : Array Value} {t : TypeId} {up : Option (Nat × Nat)} {ch : Bool} (h1 : allOne l = true) (h3 : l.length < keys) (hl : VRs g' l us) (hid : g' id = some (b, o, z)) (hw : w'.heap[b]? = some (.cells c t (0, 0)))
    (hs : c.size = o + z) (hz : l.length ≤ z) (hc : ∀ (j : Nat) (u : Value), us[j]? = some u → c[o + j]? = some u) : BR T g' w' id (.cells (lenL l) (trOf l 0 .e) up ch) := by
  refine ⟨b, o, z, c, t, hid, hw, hs, by rw [lenL_eq]; exact hz, by rw [lenL_eq]; omega, fun j v hj hv => ?_⟩
  rw [trOf_get l 0 _ j (by omega)] at hv
  rw [lenL_eq] at hj
  rw [if_pos (by omega)] at hv
  simp only [Nat.sub_zero] at hv
  obtain ⟨u, k1, k2⟩ := hl.get hv
  exact ⟨u, hc j u k1, k2, allOne_mem h1 v (List.mem_of_getElem? hv)⟩
theorem Ext.drew1 {g' : G} {h' : H} {w' : World} (x : Ext T g h w.drew g' h' w') : Ext T g h w g' h' w' :=
  ⟨x.le, x.next, x.wr, x.un, x.size, x.keep, x.fresh, x.ro, x.os, x.tape, x.output⟩
/-- A new row, with cells to spare. -/
theorem grow_ext (r : WR T g h w) {l : List V} {us rest : List Value} {h' : H} {e n nc need : Nat} (hl : VRs g l us) (hlen : us.length = need * n) (hn : h.newCells l none = some h') (hr : rest.length = (nc - need) * n) (hnc : need ≤ nc) :
    ∃ g', Ext T g h w g' h' (w.drew.alloc (.cells (us ++ rest).toArray e)) ∧ VR g' (.sl h.next 0 need 0 false n) (.slice (some ⟨w.heap.size, 0, none⟩) need nc) := by
  obtain ⟨h1, h2⟩ := oif_some.1 hn
  obtain ⟨h3, h4⟩ := oif_some.1 h2
  rw [lenL_eq] at h3
  have hz : us.length + rest.length = nc * n := by
    rw [hlen, hr, ← Nat.add_mul, Nat.add_sub_cancel' hnc]
  have hll := hl.length
  have hnone : g h.next = none := by
    cases e : g h.next with
    | none => rfl
    | some x => exact absurd (r.dom _ _ e) (by omega)
  have hle : g.le (gput g h.next (w.drew.heap.size, 0, nc * n)) := gput_le _ hnone
  refine ⟨gput g h.next (w.heap.size, 0, nc * n), (Ext.new (z := nc * n) r.drew1 h4 (.inr rfl) ?_).drew1, ?_⟩
  · refine newCells_br (b := w.drew.heap.size) (o := 0) (z := nc * n) (c := (us ++ rest).toArray) (t := e) h1 (by simpa using h3) (hl.mono hle) (gput_same _ _ _) (heap_alloc_new _ _) (by simp; omega) (by omega) fun j u hj => ?_
    simp only [Nat.zero_add, List.getElem?_toArray]
    rw [List.getElem?_append_left]
    · exact hj
    · rcases Nat.lt_or_ge j us.length with k | k
      · exact k
      · rw [List.getElem?_eq_none k] at hj; cases hj
  · refine VR.sli (o := 0) (off := 0) (gput_same _ _ _) (by omega) hnc
theorem Up.kin2 {h h' : H} (k : ∀ i b x ch, h.blk i = some b → b.kin = some (some x, ch) → ∃ b' ch', h'.blk i = some b' ∧ b'.kin = some (some x, ch')) {i j d : Nat} (u : Up h i j d) : Up h' i j d := by
  induction u with
  | one e k1 => obtain ⟨b', ch', e', k'⟩ := k _ _ _ _ e k1; exact .one e' k'
  | step e k1 _ ih => obtain ⟨b', ch', e', k'⟩ := k _ _ _ _ e k1; exact .step e' k' ih
/-- A child of a block. -/
theorem WR.child (r : WR T g h w) {w' : World} {id b o z n n' off b1 o1 z1 : Nat} {cs cs' : Tr V} {up : Option (Nat × Nat)} (hg : g id = some (b, o, z)) (hb : h.blk id = some (.cells n cs up false)) (hk : h.next < keys) (hnn : n ≤ off + n')
    (hw : ∀ j x k, g j = some x → h.blk j = some k → BR T g w' j k) (hsize : w.heap.size ≤ w'.heap.size) (hb1 : b1 < w'.heap.size) (hpl : (b1 = b ∧ o1 = o + off) ∨ w.heap.size ≤ b1)
    (hnew : BR T (gput g h.next (b1, o1, z1)) w' h.next (.cells n' cs' (some (id, off)) false)) :
    WR T (gput g h.next (b1, o1, z1)) ⟨(h.t.put id (some (.cells n cs up true))).put h.next (some (.cells n' cs' (some (id, off)) false)), Nat.succ h.next⟩ w' ∧
    ∀ j, (⟨(h.t.put id (some (.cells n cs up true))).put h.next (some (.cells n' cs' (some (id, off)) false)), Nat.succ h.next⟩ : H).blk j = if j = h.next then some (.cells n' cs' (some (id, off)) false) else if j = id then some (.cells n cs up true) else h.blk j := by
  have hid := r.dom _ _ hg
  generalize hh : (⟨(h.t.put id (some (.cells n cs up true))).put h.next (some (.cells n' cs' (some (id, off)) false)), Nat.succ h.next⟩ : H) = hx
  have hnext : hx.next = h.next + 1 := by rw [← hh]
  have hblk : ∀ j, hx.blk j = if j = h.next then some (.cells n' cs' (some (id, off)) false) else if j = id then some (.cells n cs up true) else h.blk j := by
    intro j
    rw [← hh]
    show ((h.t.put id (some (.cells n cs up true))).put h.next (some (.cells n' cs' (some (id, off)) false))).get j = _
    rw [Tr.get_put _ _ _ _ hk]
    by_cases h1 : j = h.next
    · rw [if_pos h1, if_pos h1]
    · rw [if_neg h1, if_neg h1, Tr.get_put _ _ _ _ (by omega)]
      rfl
  clear hh
  have hnone : g h.next = none := by
    cases e : g h.next with
    | none => rfl
    | some x => exact absurd (r.dom _ _ e) (by omega)
  have hle : g.le (gput g h.next (b1, o1, z1)) := gput_le _ hnone
  have cases' : ∀ {i : Nat} {x : Nat × Nat × Nat}, gput g h.next (b1, o1, z1) i = some x → (i = h.next ∧ x = (b1, o1, z1)) ∨ (i ≠ h.next ∧ g i = some x) := by
    intro i x e
    by_cases h1 : i = h.next
    · subst h1; rw [gput_same] at e; exact .inl ⟨rfl, (Option.some.inj e).symm⟩
    · rw [gput_ne _ h1] at e; exact .inr ⟨h1, e⟩
  /- What was there is there, but for the mark of a child. -/
  have old : ∀ {i : Nat} {k : Blk}, i ≠ h.next → hx.blk i = some k → ∃ k', h.blk i = some k' ∧ k'.live = k.live ∧ k'.len = k.len ∧ (∀ x ch, k.kin = some (x, ch) → ∃ ch', k'.kin = some (x, ch')) ∧ (i ≠ id → k' = k) := by
    intro i k hi e
    rw [hblk, if_neg hi] at e
    by_cases h1 : i = id
    · subst h1
      rw [if_pos rfl] at e
      cases e
      exact ⟨_, hb, rfl, rfl, fun x ch hkk => ⟨false, by cases hkk; rfl⟩, fun h => absurd rfl h⟩
    · rw [if_neg h1] at e
      exact ⟨k, e, rfl, rfl, fun x ch hkk => ⟨ch, hkk⟩, fun _ => rfl⟩
  have kin2 : ∀ i b x ch, h.blk i = some b → b.kin = some (some x, ch) → ∃ b' ch', hx.blk i = some b' ∧ b'.kin = some (some x, ch') := by
    intro i b' x ch e1 e2
    have hi := r.top _ _ e1
    rw [hblk, if_neg (by omega)]
    by_cases h1 : i = id
    · subst h1
      rw [hb] at e1
      cases e1
      rw [if_pos rfl]
      exact ⟨_, true, rfl, by cases e2; rfl⟩
    · rw [if_neg h1]
      exact ⟨b', ch, e1, e2⟩
  have upnew : Up hx h.next id off := .one (by rw [hblk, if_pos rfl]) rfl
  have upstep : ∀ {j d}, Up h id j d → Up hx h.next j (d + off) := fun u => .step (by rw [hblk, if_pos rfl]) rfl (u.kin2 kin2)
  have mate : ∀ {j o2 z2 : Nat} {bj : Blk}, j ≠ h.next → g j = some (b1, o2, z2) → hx.blk j = some bj → bj.live = true → ∃ d, Up hx h.next j d ∧ o1 = o2 + d := by
    intro j o2 z2 bj hj e1 e2 l2
    obtain ⟨k', m1, m2, _, _, _⟩ := old hj e2
    rcases hpl with ⟨rfl, ho⟩ | hf
    · by_cases h1 : j = id
      · subst h1
        rw [hg] at e1
        cases e1
        exact ⟨off, upnew, ho⟩
      · rcases r.mates id j b1 o z o2 z2 _ k' (fun h => h1 h.symm) hg e1 hb m1 rfl (m2.trans l2) with ⟨d, u, e⟩ | ⟨d, u, e⟩ | ⟨x1, _⟩
        · exact ⟨d + off, upstep u, by omega⟩
        · obtain ⟨q, up', k1, k2⟩ := r.last u
          rw [hb] at k1
          cases k1
          cases k2
        · cases x1
    · have := r.lt _ _ _ _ e1
      omega
  refine ⟨⟨by omega, fun i k e => ?_, fun i x e => ?_, fun i b' o' z' e => ?_, fun i x k e1 e2 => ?_, fun i j b' o2 z2 o3 z3 bi bj hij e1 e2 e3 e4 l1 l2 => ?_, fun i q j d ch e1 e2 => ?_, fun i q j d ch q' e1 e2 e3 => ?_⟩, hblk⟩
  · rw [hnext]
    by_cases h1 : i = h.next
    · omega
    · obtain ⟨k', m1, _⟩ := old h1 e
      have := r.top _ _ m1
      omega
  · rw [hnext]
    rcases cases' e with ⟨rfl, _⟩ | ⟨_, e⟩
    · omega
    · have := r.dom _ _ e; omega
  · rcases cases' e with ⟨_, e⟩ | ⟨_, e⟩
    · cases e; exact hb1
    · have := r.lt _ _ _ _ e; omega
  · rcases cases' e1 with ⟨rfl, e⟩ | ⟨h1, e⟩
    · rw [hblk, if_pos rfl] at e2
      cases e2
      exact hnew
    · rw [hblk, if_neg h1] at e2
      by_cases h2 : i = id
      · subst h2
        rw [if_pos rfl] at e2
        cases e2
        have q := hw i x _ e hb
        exact (show BR T g w' i (.cells n cs up true) from q).mono hle
      · rw [if_neg h2] at e2
        exact (hw _ _ _ e e2).mono hle
  · rcases cases' e1 with ⟨rfl, x1⟩ | ⟨n1, k1⟩ <;> rcases cases' e2 with ⟨rfl, x2⟩ | ⟨n2, k2⟩
    · exact absurd rfl hij
    · cases x1
      exact .inl (mate n2 k2 e4 l2)
    · cases x2
      exact .inr (.inl (mate n1 k1 e3 l1))
    · obtain ⟨q1, m1, m2, _⟩ := old n1 e3
      obtain ⟨q2, m3, m4, _⟩ := old n2 e4
      rcases r.mates i j b' o2 z2 o3 z3 q1 q2 hij k1 k2 m1 m3 (m2.trans l1) (m4.trans l2) with ⟨d, u, e⟩ | ⟨d, u, e⟩ | ⟨x1, x2⟩
      · exact .inl ⟨d, u.kin2 kin2, e⟩
      · exact .inr (.inl ⟨d, u.kin2 kin2, e⟩)
      · have ne : ∀ {l : Nat} {q q' : Blk}, l ≠ h.next → h.blk l = some q → q.isRo = true → hx.blk l = some q' → q'.isRo = true := by
          intro l q q' g0 g1 g2 g3
          rw [hblk, if_neg g0] at g3
          by_cases hl : l = id
          · subst hl
            rw [hb] at g1
            cases g1
            cases g2
          · rw [if_neg hl, g1] at g3
            cases g3
            exact g2
        exact .inr (.inr ⟨ne n1 m1 x1 e3, ne n2 m3 x2 e4⟩)
  · by_cases h1 : i = h.next
    · subst h1
      rw [hblk, if_pos rfl] at e1
      cases e1
      cases e2
      refine ⟨_, up, by rw [hblk, if_neg (by omega), if_pos rfl], rfl, fun _ => ?_⟩
      rw [gput_ne _ (by omega), hg]
      exact fun h => by cases h
    · obtain ⟨q1, m1, _, _, m2, _⟩ := old h1 e1
      obtain ⟨ch', m3⟩ := m2 _ _ e2
      obtain ⟨q2, up2, m4, m5, m6⟩ := r.kids i q1 j d ch' m1 m3
      have hj : j ≠ id := by
        intro h2
        subst h2
        rw [hb] at m4
        cases m4
        cases m5
      have hj2 := r.top _ _ m4
      refine ⟨q2, up2, by rw [hblk, if_neg (by omega), if_neg hj]; exact m4, m5, fun h2 => ?_⟩
      rw [gput_ne _ h1] at h2
      rw [gput_ne _ (by omega)]
      exact m6 h2
  · by_cases h1 : i = h.next
    · subst h1
      rw [hblk, if_pos rfl] at e1
      cases e1
      cases e2
      rw [hblk, if_neg (by omega), if_pos rfl] at e3
      cases e3
      exact hnn
    · obtain ⟨q1, m1, _, m7, m2, _⟩ := old h1 e1
      obtain ⟨ch', m3⟩ := m2 _ _ e2
      obtain ⟨q2, up2, m4, m5, m6⟩ := r.kids i q1 j d ch' m1 m3
      have hj2 := r.top _ _ m4
      obtain ⟨q3, m8, _, m9, _⟩ := old (by omega) e3
      have := r.ext i q1 j d ch' q3 m1 m3 m8
      omega
theorem WR.upExt (r : WR T g h w) {i j d : Nat} (u : Up h i j d) : ∀ bi bj, h.blk i = some bi → h.blk j = some bj → bj.len ≤ d + bi.len := by
  induction u with
  | one e k =>
    intro bi bj e1 e2
    rw [e] at e1
    cases e1
    exact r.ext _ _ _ _ _ _ e k e2
  | step e k u ih =>
    intro bi bj e1 e2
    rw [e] at e1
    cases e1
    obtain ⟨q, up, m1, _, _⟩ := r.kids _ _ _ _ _ e k
    have := ih q bj m1 e2
    have := r.ext _ _ _ _ _ _ e k m1
    omega
theorem setRow_heap_ne {w : World} {b j : Nat} (c : Array Value) (h : j ≠ b) : (w.setRow b c).heap[j]? = w.heap[j]? := by
  unfold World.setRow
  rw [Array.getElem?_modify, if_neg (fun e => h e.symm)]
theorem setRow_size {w : World} {b : Nat} (c : Array Value) : (w.setRow b c).heap.size = w.heap.size := by
  simp [World.setRow]
theorem allOne_one {g : G} : ∀ {l : List V} {us : List Value}, VRs g l us → allOne l = true → ∀ u ∈ us, u.oneCell' = true
  | _, _, .nil, _, u, hu => by cases hu
  | _, _, .cons hv ht, ha, u, hu => by
    rename_i v x l us
    have ha : Bool.rec (motive := fun _ => Bool) false (allOne l) (oneCell v) = true := ha
    rw [brec_eq] at ha
    split at ha
    · rename_i hx
      cases hu with
      | head => exact oneCell_of hv hx
      | tail _ hu => exact allOne_one ht ha u hu
    · cases ha
theorem allOne_append {a b : List V} (h : allOne (a ++ b) = true) : allOne b = true := by
  induction a with
  | nil => exact h
  | cons v a ih =>
    have h : Bool.rec (motive := fun _ => Bool) false (allOne (a ++ b)) (oneCell v) = true := h
    rw [brec_eq] at h
    split at h
    · exact ih h
    · cases h
/-- An append that may have found room where its slice lies: it has. -/
theorem shareNew_br {l : List V} {us : List Value} {g' : G} {w' : World} {id b o z nn : Nat} {c : Array Value} {t : TypeId} {cs : Tr V} {up : Option (Nat × Nat)} {ch : Bool} (h1 : allOne l = true) (h3 : nn + l.length < keys) (hl : VRs g' l us) (hid : g' id = some (b, o, z)) (hw : w'.heap[b]? = some (.cells c t (0, 0)))
    (hs : c.size = o + z) (hz : nn + l.length ≤ z) (hold : ∀ j v, j < nn → cs.get j = some v → ∃ u, c[o + j]? = some u ∧ VR g' v u ∧ oneCell v = true) (hc : ∀ (j : Nat) (u : Value), us[j]? = some u → c[o + (nn + j)]? = some u) : BR T g' w' id (.cells (Nat.add nn (lenL l)) (trOf l nn cs) up ch) := by
  refine ⟨b, o, z, c, t, hid, hw, hs, by rw [lenL_eq]; exact hz, by rw [lenL_eq]; exact Nat.le_of_lt h3, fun j v hj hv => ?_⟩
  rw [trOf_get l nn cs j (by omega)] at hv
  by_cases hn : nn ≤ j
  · rw [lenL_eq] at hj
    have hj : j < nn + l.length := hj
    rw [if_pos ⟨hn, hj⟩] at hv
    obtain ⟨u, k1, k2⟩ := hl.get hv
    refine ⟨u, ?_, k2, allOne_mem h1 v (List.mem_of_getElem? hv)⟩
    have := hc _ u k1
    rw [show o + (nn + (j - nn)) = o + j by omega] at this
    exact this
  · rw [if_neg (fun h => hn h.1)] at hv
    exact hold j v (by omega) hv
theorem open_here (r : WR T g h w) {id b o z nn off len m n c : Nat} {cs : Tr V} {up : Option (Nat × Nat)} {l : List V} {us : List Value} {ha h' : H} (hg : g id = some (b, o, z)) (hb : h.blk id = some (.cells nn cs up false)) (hnn : nn = off + len * n) (hc : off + c * n = z) (hroom : len + m ≤ c)
    (hoff : off = 0) (hl : VRs g l us) (hlen : us.length = m * n) (hadopt : h.adopt id = some ha) (hnew : ha.shareNew id off nn cs l = some h') :
    ∃ g' w', Ext T g h w g' h' w' ∧ (storeCells ((⟨b, o + off, none⟩ : Addr).add (len * n)) us).run P w = .ok () w' ∧ VR g' (.sl h.next 0 (len + m) 0 false n) (.slice (some ⟨b, o + off, none⟩) (len + m) c) := by
  have hha : ha = ⟨h.t.put id (some (.cells nn cs up true)), h.next⟩ := by
    unfold H.adopt at hadopt
    rw [hb] at hadopt
    cases hadopt
    rfl
  subst hha
  obtain ⟨q1, q2⟩ := oif_some.1 hnew
  obtain ⟨q3, q4⟩ := oif_some.1 q2
  obtain ⟨q5, q6⟩ := oif_some.1 q4
  cases q6
  have hk : h.next < keys := by simpa using q5
  rw [lenL_eq] at q3
  have q3' : nn + l.length < keys := by simpa using q3
  have hll := hl.length
  obtain ⟨b', o', z', cur, t, k1, k2, k3, k4, k5, k6⟩ := r.blk id _ _ hg hb
  rw [hg] at k1
  cases k1
  have hmn : len * n + m * n ≤ c * n := by rw [← Nat.add_mul]; exact Nat.mul_le_mul_right _ hroom
  have hadd : (⟨b, o + off, none⟩ : Addr).add (len * n) = ⟨b, o + off + len * n, none⟩ := by simp [Addr.add]
  have hst := run_storeCells_at (P := P) b (o + off + len * n) t us 0 cur w k2 (by omega) (allOne_one hl q1)
  simp only [Nat.add_zero] at hst
  generalize hnc : (cur.toList.take (o + off + len * n) ++ us ++ cur.toList.drop (o + off + len * n + us.length)).toArray = nc at hst
  have hncs : nc.size = o + z := by rw [← hnc]; simp; omega
  have hlow : ∀ j, j < o + off + len * n → nc[j]? = cur[j]? := by
    intro j hj
    rw [← hnc]
    simp only [List.getElem?_toArray, List.append_assoc]
    rw [List.getElem?_append_left (by simp; omega), List.getElem?_take, if_pos hj]
    simp
  have hhigh : ∀ (j : Nat) (u : Value), us[j]? = some u → nc[o + off + len * n + j]? = some u := by
    intro j u hj
    have hj' : j < us.length := by
      rcases Nat.lt_or_ge j us.length with k | k
      · exact k
      · rw [List.getElem?_eq_none k] at hj; cases hj
    rw [← hnc]
    simp only [List.getElem?_toArray, List.append_assoc]
    rw [List.getElem?_append_right (by simp; omega)]
    have : (List.take (o + off + len * n) cur.toList).length = o + off + len * n := by simp; omega
    rw [this, List.getElem?_append_left (by omega), show o + off + len * n + j - (o + off + len * n) = j by omega]
    exact hj
  have hheap := setRow_heap w b cur nc t (0, 0) k2
  have hbs := r.lt _ _ _ _ hg
  have hnone : g h.next = none := by
    cases e : g h.next with
    | none => rfl
    | some x => exact absurd (r.dom _ _ e) (by omega)
  have hle : g.le (gput g h.next (b, o + off, z - off)) := gput_le _ hnone
  have hown := r.top _ _ hb
  obtain ⟨wr, hblk⟩ := WR.child (w' := w.setRow b nc) (n' := Nat.add nn (lenL l)) (cs' := trOf l nn cs) (off := off) (b1 := b) (o1 := o + off) (z1 := z - off) r hg hb hk (by
      show nn ≤ off + (nn + lenL l)
      omega) (fun j x k e1 e2 => by
      obtain ⟨b2, o2, z2⟩ := x
      by_cases hb2 : b2 = b
      · subst hb2
        cases lq : k.live with
        | false => cases k <;> first | trivial | cases lq
        | true =>
          have keep : ∀ {n2 : Nat} {cs2 : Tr V}, Cells g w j n2 cs2 → o2 + n2 ≤ o + nn → Cells g (w.setRow b2 nc) j n2 cs2 := by
            intro n2 cs2 hC hn2
            obtain ⟨b3, o3, z3, c3, t3, p1, p2, p3, p4, p5, p6⟩ := hC
            rw [e1] at p1
            cases p1
            rw [k2] at p2
            cases p2
            refine ⟨b2, o2, z2, nc, t, e1, hheap, by omega, p4, p5, fun q v hq hv => ?_⟩
            obtain ⟨u, s1, s2, s3⟩ := p6 q v hq hv
            exact ⟨u, by rw [hlow _ (by omega)]; exact s1, s2, s3⟩
          by_cases hj : j = id
          · subst hj
            rw [hb] at e2
            cases e2
            rw [hg] at e1
            cases e1
            exact keep (r.blk _ _ _ hg hb) (Nat.le_refl _)
          · rcases r.mates id j b2 o z o2 z2 _ k (fun h => hj h.symm) hg e1 hb e2 rfl lq with ⟨d, u, e⟩ | ⟨d, u, e⟩ | ⟨x1, _⟩
            · have hx := r.upExt u _ _ hb e2
              obtain ⟨q, up', s1, s2⟩ := r.last u
              rw [e2] at s1
              cases s1
              cases k with
              | cells n2 cs2 up2 ch2 => exact keep (r.blk _ _ _ e1 e2) (by simp only [Blk.len] at hx; omega)
              | _ => cases s2
            · obtain ⟨q, up', s1, s2⟩ := r.last u
              rw [hb] at s1
              cases s1
              cases s2
            · cases x1
      · exact BR.move e1 (setRow_heap_ne nc hb2) (r.blk _ _ _ e1 e2)) (Nat.le_of_eq (setRow_size nc).symm) (by rw [setRow_size]; exact hbs) (.inl ⟨rfl, rfl⟩) (by
      refine shareNew_br (us := us) (z := z - off) q1 q3' (hl.mono hle) (gput_same _ _ _) hheap (by omega) (by omega) (fun j v hj hv => ?_) fun j u hj => ?_
      · obtain ⟨u, s1, s2, s3⟩ := k6 j v hj hv
        refine ⟨u, ?_, s2.mono hle, s3⟩
        rw [hlow _ (by omega), show o + off + j = o + j by omega]
        exact s1
      · have := hhigh _ u hj
        rw [show o + off + (nn + j) = o + off + len * n + j by omega]
        exact this)
  refine ⟨gput g h.next (b, o + off, z - off), w.setRow b nc, ⟨hle, Nat.le_succ _, wr, fun j hj e => ⟨by rw [gput_ne _ (by omega)]; exact e, ?_⟩, Nat.le_of_eq (setRow_size nc).symm, fun k hk' hn => setRow_heap_ne nc (fun e => hn id o z (e ▸ hg)), fun j k o' z' e1 e2 => ?_, fun j k o' z' n' cs' e1 e2 => ?_, rfl, rfl, rfl⟩, by rw [hadd]; exact hst, ?_⟩
  · have hx := hblk j
    rw [if_neg (by omega), if_neg (fun e' => by rw [e', hg] at e; cases e)] at hx
    exact hx
  · by_cases hj : j = h.next
    · subst hj
      rw [gput_same] at e1
      cases e1
      exact .inr ⟨id, o, z, hg⟩
    · rw [gput_ne _ hj, e2] at e1
      cases e1
  · have hj := r.dom _ _ e1
    have hne : j ≠ id := fun e' => by rw [e', hb] at e2; cases e2
    have hx := hblk j
    rw [if_neg (by omega), if_neg hne] at hx
    refine ⟨hx.trans e2, setRow_heap_ne nc fun hbb => ?_⟩
    subst hbb
    exact r.lone hne e1 hg e2 hb rfl rfl (.inl rfl) (.inr rfl)
  · have := VR.sli (g := gput g h.next (b, o + off, z - off)) (id := h.next) (off := 0) (len := len + m) (cap := 0) (es := n) (c := c) (gput_same _ _ _) (by omega) hroom
    simpa using this
/-- .. it has not. -/
theorem open_away (r : WR T g h w) {id b o z nn off len m n nc : Nat} {e : TypeId} {cs : Tr V} {up : Option (Nat × Nat)} {l : List V} {us rest : List Value} {ous : List Value} {ha h' : H} (hg : g id = some (b, o, z)) (hb : h.blk id = some (.cells nn cs up false)) (hnn : nn = off + len * n)
    (hoff : off = 0) (hol : ∀ j v, j < nn → cs.get j = some v → ∃ u, ous[j]? = some u ∧ VR g v u ∧ oneCell v = true) (hos : ous.length = len * n) (hl : VRs g l us) (hlen : us.length = m * n) (hadopt : h.adopt id = some ha) (hnew : ha.shareNew id off nn cs l = some h') (hr : rest.length = (nc - (len + m)) * n) (hnc : len + m ≤ nc) :
    ∃ g', Ext T g h w g' h' (w.drew.alloc (.cells (ous ++ us ++ rest).toArray e)) ∧ VR g' (.sl h.next 0 (len + m) 0 false n) (.slice (some ⟨w.heap.size, 0, none⟩) (len + m) nc) := by
  have hha : ha = ⟨h.t.put id (some (.cells nn cs up true)), h.next⟩ := by
    unfold H.adopt at hadopt
    rw [hb] at hadopt
    cases hadopt
    rfl
  subst hha
  obtain ⟨q1, q2⟩ := oif_some.1 hnew
  obtain ⟨q3, q4⟩ := oif_some.1 q2
  obtain ⟨q5, q6⟩ := oif_some.1 q4
  cases q6
  have hk : h.next < keys := by simpa using q5
  rw [lenL_eq] at q3
  have q3' : nn + l.length < keys := by simpa using q3
  have hnone : g h.next = none := by
    cases e : g h.next with
    | none => rfl
    | some x => exact absurd (r.dom _ _ e) (by omega)
  have hle : g.le (gput g h.next (w.heap.size, 0, nc * n)) := gput_le _ hnone
  have hown := r.top _ _ hb
  have hz : (ous ++ us).length + rest.length = nc * n := by
    rw [List.length_append, hos, hlen, hr, ← Nat.add_mul, ← Nat.add_mul, Nat.add_sub_cancel' hnc]
  have hll := hl.length
  obtain ⟨wr, hblk⟩ := WR.child (w' := w.drew.alloc (.cells (ous ++ us ++ rest).toArray e)) (n' := Nat.add nn (lenL l)) (cs' := trOf l nn cs) (off := off) (b1 := w.heap.size) (o1 := 0) (z1 := nc * n) r hg hb hk (by
      show nn ≤ off + (nn + lenL l)
      omega) (fun j x k e1 e2 => by
      obtain ⟨b2, o2, z2⟩ := x
      exact BR.move e1 (heap_alloc (w := w.drew) (r.lt _ _ _ _ e1)) (r.drew1.blk _ _ _ e1 e2)) (by rw [World.size_alloc]; exact Nat.le_succ _) (by rw [World.size_alloc]; exact Nat.lt_succ_self _) (.inr (Nat.le_refl _)) (by
      refine shareNew_br (us := us) (b := w.drew.heap.size) (o := 0) (z := nc * n) (c := (ous ++ us ++ rest).toArray) (t := e) q1 q3' (hl.mono hle) (gput_same _ _ _) (heap_alloc_new _ _) (by simp at hz ⊢; omega) (by
          rw [List.length_append] at hz
          omega) (fun j v hj hv => ?_) fun j u hj => ?_
      · obtain ⟨u, s1, s2, s3⟩ := hol j v hj hv
        refine ⟨u, ?_, s2.mono hle, s3⟩
        simp only [Nat.zero_add, List.getElem?_toArray, List.append_assoc]
        rw [List.getElem?_append_left (by omega)]
        exact s1
      · have hj' : j < us.length := by
          rcases Nat.lt_or_ge j us.length with k | k
          · exact k
          · rw [List.getElem?_eq_none k] at hj; cases hj
        simp only [Nat.zero_add, List.getElem?_toArray, List.append_assoc]
        rw [List.getElem?_append_right (by omega), List.getElem?_append_left (by omega), show nn + j - ous.length = j by omega]
        exact hj)
  refine ⟨gput g h.next (w.heap.size, 0, nc * n), ⟨hle, Nat.le_succ _, wr, fun j hj e => ⟨by rw [gput_ne _ (by omega)]; exact e, ?_⟩, by rw [World.size_alloc]; exact Nat.le_succ _, fun k hk' hn => heap_alloc (w := w.drew) hk', fun j k o' z' e1 e2 => ?_, fun j k o' z' n' cs' e1 e2 => ?_, rfl, rfl, rfl⟩, ?_⟩
  · have hx := hblk j
    rw [if_neg (by omega), if_neg (fun e' => by rw [e', hg] at e; cases e)] at hx
    exact hx
  · by_cases hj : j = h.next
    · subst hj
      rw [gput_same] at e1
      cases e1
      exact .inl (Nat.le_refl _)
    · rw [gput_ne _ hj, e2] at e1
      cases e1
  · have hj := r.dom _ _ e1
    have hne : j ≠ id := fun e' => by rw [e', hb] at e2; cases e2
    have hx := hblk j
    rw [if_neg (by omega), if_neg hne] at hx
    exact ⟨hx.trans e2, heap_alloc (w := w.drew) (r.lt _ _ _ _ e1)⟩
  · exact VR.sli (o := 0) (off := 0) (gput_same _ _ _) (by omega) hnc
theorem cells_size {id : Nat} {p : Nat × Tr V} (hc : h.cells id = some p) : (∃ cs up ch, h.blk id = some (.cells p.1 cs up ch)) ∨ ∃ cs, h.blk id = some (.ro p.1 cs) := by
  unfold H.cells at hc
  obtain ⟨b, h1, h2⟩ := ob_some.1 hc
  cases b with
  | cells n cs up ch => cases h2; exact .inl ⟨_, _, _, h1⟩
  | ro n cs => cases h2; exact .inr ⟨_, h1⟩
  | _ => cases h2
theorem run_append_op {args : Array Operand} {at' : Array TypeId} {x y : Operand} {u : Value} {w' : World} (ha : args.map ρ = #[ρ x, ρ y]) (hr : ∀ ty, (Builtin.append_ at' ty #[ρ x, ρ y]).run P w = .ok u w') : Runs P ρ w (.call ⟨.builtin .append, args, at'⟩) u w' := by
  intro o e
  left
  simp [execOp, e, resolve, invoke, builtin, ha, hr]
theorem slx_inv {id off len cap es : Nat} {u : Value} (h : VR g (.sl id off len cap true es) u) :
    (∃ b o z, g id = some (b, o, z) ∧ u = .slice (some ⟨b, o + off, none⟩) len cap) ∨ (len = 0 ∧ cap = 0 ∧ ∃ b o z p, g id = some (b, o, z) ∧ u = .slice (some ⟨b, p, none⟩) 0 0) := by
  cases h with
  | slx hg => exact .inl ⟨_, _, _, hg, rfl⟩
  | slx0 hg => exact .inr ⟨rfl, rfl, _, _, _, _, hg, rfl⟩
theorem div_room {nn off c n need z : Nat} (hp : 0 < n) (hc : off + c * n = z) (hz : nn ≤ z) (h : need ≤ (nn - off) / n) : need ≤ c := by
  refine Nat.le_trans h ?_
  have h1 : nn - off ≤ c * n := by omega
  calc (nn - off) / n ≤ (c * n) / n := Nat.div_le_div_right h1
    _ = c := Nat.mul_div_cancel c hp
theorem div_zero {nn off n need z : Nat} (hz : nn ≤ z) (ho : z ≤ off) (h : need ≤ (nn - off) / n) : need = 0 := by
  have : nn - off = 0 := by omega
  rw [this, Nat.zero_div] at h
  omega
theorem eff_append (hT : TyOk P T) (r : WR T g h w) {t e t2 : TypeId} {n : Nat} {z : V} {i : TypeInfo} {du : TypeDesc} {zs : Option (List V)} {args : Array Operand} {at' : Array TypeId} {vs : List V} {v : V} {h' : H} (h0 : at'[0]? = some t) (h1 : T.under t = some (.slice e)) (hn : posT T e = some n)
    (hi : T.info e = some i) (hz : zeroT T e = some z) (hzl : (cellsOf z).length = n) (hb1 : 0 < i.bytes) (hb2 : i.bytes < 1048576) (h2 : at'[1]? = some t2) (h3 : T.under t2 = some du) (hdu : (((∃ e', du = .slice e') ∨ du = .string) ∧ zs = none) ∨ (du = .int .i64 ∧ zs = some (cellsOf z)))
    (hv : VRs g vs (args.toList.map ρ)) (hr : EOp.run (.append n i.bytes zs) vs h = some (v, h')) : Eff P T g h w ρ (.call ⟨.builtin .append, args, at'⟩) v h' := by
  obtain ⟨s, x, rfl⟩ : ∃ d x, vs = [d, x] := by
    cases vs with
    | nil => cases hr
    | cons d vs => cases vs with
      | nil => cases hr
      | cons x vs => cases vs with
        | nil => exact ⟨d, x, rfl⟩
        | cons y vs => cases hr
  obtain ⟨xo, yo, ha, hs, hx⟩ := args_two hv rfl
  obtain ⟨hsz, hp⟩ := posT_size hn
  obtain ⟨zu, hzu, hzr⟩ := zeroT_ok (g := g) hT hz
  have hzc := (cells_ok hzu).length
  have hzs : zu.cells.size = n := by simpa [hzl] using hzc.symm
  have hrest : ∀ k, (Builtin.zeroCells zu.cells k).toList.length = k * n := fun k => by simp [Builtin.zeroCells, hzs]
  obtain ⟨p, e1, e2⟩ := ob_some.1 (show ob (srcCells n zs x h) _ = some (v, h') from hr)
  obtain ⟨us, hus, hsrc⟩ := src_src (t2 := t2) hT r hz hzl hi hb2 h3 hdu hx e1
  have hul := hsrc.1
  cases s with
  | nils =>
    have hs' : ρ xo = .slice none 0 0 := by cases hx' : ρ xo <;> rw [hx'] at hs <;> cases hs; rfl
    simp only [brec_eq] at e2
    by_cases hp0 : p.1 = 0
    · rw [if_pos (by simp [hp0])] at e2
      cases e2
      refine ⟨g, w, .slice none 0 0, .refl r, .nils, run_append_op ha fun ty => ?_⟩
      rw [hs']
      have := append_room (base := none) (sLen := 0) (sCap := 0) (ty := ty) hT h0 h1 hsz h2 hsrc (by omega) (w' := w) (fun a h => by cases h) (fun _ => rfl)
      rw [hp0] at this
      exact this
    · rw [if_neg (by simpa using hp0)] at e2
      obtain ⟨e3, e4⟩ := oif_some.1 e2
      obtain ⟨h'', e5, e6⟩ := ob_some.1 e4
      cases e6
      have hbig : (0 + p.1) * i.bytes < 1099511627776 := by simpa [nmul] using e3
      obtain ⟨nc, k1, k2⟩ : ∃ newCap, 0 + p.1 ≤ newCap ∧ ∀ ty, (Builtin.append_ at' ty #[.slice none 0 0, ρ yo]).run P w = .ok (.slice (some ⟨w.heap.size, 0, none⟩) (0 + p.1) newCap) (w.drew.alloc (.cells (#[] ++ us.toArray ++ Builtin.zeroCells zu.cells (newCap - (0 + p.1))) e)) := by
        obtain ⟨nc, k1, k2⟩ := append_grow (old := []) (base := none) (sLen := 0) (sCap := 0) (ty := 0) hT h0 h1 hsz h2 hsrc (by omega) (by simp [Builtin.firstCells]) hzr hi hb1 hb2 hbig
        exact ⟨nc, k1, fun ty => k2⟩
      obtain ⟨g', x1, x2⟩ := grow_ext (rest := (Builtin.zeroCells zu.cells (nc - (0 + p.1))).toList) (nc := nc) (need := 0 + p.1) (n := n) (e := e) r hus (by rw [hul, Nat.zero_add]) e5 (hrest _) k1
      refine ⟨g', _, _, x1, by simpa using x2, run_append_op ha fun ty => ?_⟩
      rw [hs', k2 ty]
      congr 3
      · simp
      · apply Array.ext'
        simp
  | sl id off len cap ex es' =>
    obtain ⟨q1, q2⟩ := oif_some.1 e2
    obtain ⟨pc, q3, q4⟩ := ob_some.1 q2
    obtain rfl : n = es' := by simpa using q1
    simp only [brec_eq] at q4
    /- Grown, when the slice is this in the model. -/
    have grown : ∀ {q : Option Addr} {sCap : Nat}, ρ xo = .slice q len sCap → ¬ len + p.1 ≤ sCap → (len + p.1) * i.bytes < 1099511627776 → ∀ {ous : List Value}, ous.length = len * n → (∀ w2 : World, w2.heap = w.heap → (Builtin.firstCells n len (.slice q len sCap)).run P w2 = .ok ous.toArray w2) →
        ∃ nc, len + p.1 ≤ nc ∧ ∀ ty, (Builtin.append_ at' ty #[ρ xo, ρ yo]).run P w = .ok (.slice (some ⟨w.heap.size, 0, none⟩) (len + p.1) nc) (w.drew.alloc (.cells (ous ++ us ++ (Builtin.zeroCells zu.cells (nc - (len + p.1))).toList).toArray e)) := by
      intro q sCap hu hcap hbig ous hos hf
      obtain ⟨nc, k1, k2⟩ := append_grow (old := ous) (base := q) (sLen := len) (sCap := sCap) (ty := 0) hT h0 h1 hsz h2 hsrc hcap (hf w.drew rfl) hzr hi hb1 hb2 hbig
      refine ⟨nc, k1, fun ty => ?_⟩
      rw [hu]
      refine Eq.trans (show _ = _ from k2) ?_
      congr 3
      apply Array.ext'
      simp
    have rdold : ∀ {old : List V}, h.rd id off (len * n) = some old → ∀ {q : Option Addr} {sCap : Nat}, ρ xo = .slice q len sCap → ∃ ous, VRs g old ous ∧ ous.length = len * n ∧ ∀ w2 : World, w2.heap = w.heap → (Builtin.firstCells n len (.slice q len sCap)).run P w2 = .ok ous.toArray w2 := by
      intro old hrd q sCap hu
      have : srcCells0 n (.sl id off len cap ex n) h = some (len, old) := by
        show oif (Nat.beq n n) (ob (h.rd id off (Nat.mul len n)) fun l => some (len, l)) = _
        rw [nmul, hrd]
        simp [oif, ob]
      obtain ⟨ous, k1, k2, k3, k4⟩ := src_ok (P := P) r hs this
      refine ⟨ous, k1, k2, fun w2 hw => ?_⟩
      have := k4 w2 hw len (Nat.le_refl _)
      rw [← k2, List.take_length] at this
      rw [← hu]
      exact this
    have stay : ∀ {q : Option Addr} {sCap : Nat} {w' : World}, ρ xo = .slice q len sCap → len + p.1 ≤ sCap → (∀ a, q = some a → (storeCells (a.add (len * n)) us).run P w = .ok () w') → (q = none → w' = w) →
        Runs P ρ w (.call ⟨.builtin .append, args, at'⟩) (.slice q (len + p.1) sCap) w' := by
      intro q sCap w' hu hcap hst hst'
      refine run_append_op ha fun ty => ?_
      rw [hu]
      exact append_room hT h0 h1 hsz h2 hsrc hcap hst hst'
    have nothing : p.1 = 0 → p.2 = [] ∧ us = [] := by
      intro h0
      have hu0 : us = [] := List.eq_nil_of_length_eq_zero (by rw [hul, h0, Nat.zero_mul])
      subst hu0
      exact ⟨List.eq_nil_of_length_eq_zero hus.length, rfl⟩
    by_cases hroom : Nat.ble (Nat.add len p.1) (if ex = true then cap else Nat.div (Nat.sub pc.1 off) n) = true
    · -- there is room
      rw [if_pos hroom] at q4
      obtain ⟨h'', e3, e4⟩ := ob_some.1 q4
      cases e4
      rw [nadd, nmul] at e3
      have hroom' : len + p.1 ≤ if ex = true then cap else (pc.1 - off) / n := by simpa [ndiv, nsub] using hroom
      have place : ∀ {b o z c : Nat}, g id = some (b, o, z) → ρ xo = .slice (some ⟨b, o + off, none⟩) len c → len + p.1 ≤ c → ∃ w', Ext T g h w g h' w' ∧ Runs P ρ w (.call ⟨.builtin .append, args, at'⟩) (.slice (some ⟨b, o + off, none⟩) (len + p.1) c) w' := by
        intro b o z c hg hu hc
        obtain ⟨w', x1, s1⟩ := wr_ok (P := P) (i := off + len * n) (k := 0) r hg hus e3
        refine ⟨w', x1, stay hu hc (fun a ha => ?_) (fun h => by cases h)⟩
        cases ha
        have hadd : (⟨b, o + off, none⟩ : Addr).add (len * n) = ⟨b, o + (off + len * n), none⟩ := by simp [Addr.add, Nat.add_assoc]
        rw [hadd]
        exact s1
      cases ex with
      | true =>
        rw [if_pos rfl] at hroom'
        rcases slx_inv hs with ⟨b, o, z, hg, hu⟩ | ⟨rfl, rfl, b, o, z, pp, hg, hu⟩
        · obtain ⟨w', x1, x2⟩ := place hg hu hroom'
          exact ⟨g, w', _, x1, .slx hg, x2⟩
        · obtain ⟨hp2, hu0⟩ := nothing (by omega)
          rw [hp2] at e3
          cases e3
          refine ⟨g, w, _, .refl r, ?_, stay hu (by omega) (fun a _ => by rw [hu0]; simp [storeCells]) (fun h => by cases h)⟩
          rw [nadd, show 0 + p.1 = 0 by omega]
          exact .slx0 hg
      | false =>
        rw [if_neg (by decide)] at hroom'
        have hnz : ∀ {b o z : Nat}, g id = some (b, o, z) → pc.1 ≤ z := by
          intro b o z hg
          obtain ⟨_, _, z', _, _, k1, _, _, k4, _⟩ := cells_ok' r hg q3
          rw [hg] at k1
          cases k1
          exact k4
        rcases hs.sli_inv with ⟨b, o, z, c, hg, hc, hl, hu⟩ | ⟨b, o, z, q, hg, rfl, hzo, hu⟩
        · have hcc := div_room hp hc (hnz hg) hroom'
          obtain ⟨w', x1, x2⟩ := place hg hu hcc
          exact ⟨g, w', _, x1, .sli hg hc hcc, x2⟩
        · have hz0 := div_zero (hnz hg) hzo hroom'
          obtain ⟨hp2, hu0⟩ := nothing (by omega)
          rw [hp2] at e3
          cases e3
          refine ⟨g, w, _, .refl r, ?_, stay hu (by omega) (fun a _ => by rw [hu0]; simp [storeCells]) (fun h => by cases h)⟩
          rw [nadd, show 0 + p.1 = 0 by omega]
          exact .sl0 hg hzo
    · rw [if_neg hroom] at q4
      have hroom' : ¬ len + p.1 ≤ if ex = true then cap else (pc.1 - off) / n := by simpa [ndiv, nsub] using hroom
      by_cases hex : ex = true
      · -- it moves
        rw [if_pos hex] at q4
        subst hex
        rw [if_pos rfl] at hroom'
        obtain ⟨e3, e4⟩ := oif_some.1 q4
        obtain ⟨old, e5, e6⟩ := ob_some.1 e4
        obtain ⟨h'', e7, e8⟩ := ob_some.1 e6
        cases e8
        have hbig : (len + p.1) * i.bytes < 1099511627776 := by simpa [nmul, nadd] using e3
        have away : ∀ {q : Option Addr}, ρ xo = .slice q len cap → Eff P T g h w ρ (.call ⟨.builtin .append, args, at'⟩) (.sl h.next 0 (len + p.1) 0 false n) h' := by
          intro q hu
          obtain ⟨ous, k1, k2, k3⟩ := rdold e5 hu
          obtain ⟨nc, m1, m2⟩ := grown hu hroom' hbig k2 k3
          obtain ⟨g', x1, x2⟩ := grow_ext (rest := (Builtin.zeroCells zu.cells (nc - (len + p.1))).toList) (nc := nc) (need := len + p.1) (n := n) (e := e) r (k1.append hus) (by rw [List.length_append, k2, hul, Nat.add_mul]) e7 (hrest _) m1
          exact ⟨g', _, _, x1, x2, run_append_op ha m2⟩
        rcases slx_inv hs with ⟨b, o, z, hg, hu⟩ | ⟨rfl, rfl, b, o, z, pp, hg, hu⟩
        · exact away hu
        · exact away hu
      · -- whether it moves is open
        rw [if_neg hex] at q4
        have hex' : ex = false := by simpa using hex
        subst hex'
        rw [if_neg (by decide)] at hroom'
        obtain ⟨e2', e3⟩ := oif_some.1 q4
        obtain ⟨e4, e7⟩ := oif_some.1 e3
        obtain ⟨ha', e8, e9⟩ := ob_some.1 e7
        obtain ⟨h'', e10, e11⟩ := ob_some.1 e9
        cases e11
        have hbig : (len + p.1) * i.bytes < 1099511627776 := by simpa [nmul, nadd] using e4
        rw [Bool.and_eq_true] at e2'
        have hoff : off = 0 := by simpa using e2'.2
        have hnn : pc.1 = off + len * n := by
          have : pc.1 = len * n := by simpa [nmul] using e2'.1
          omega
        obtain ⟨up, hblk⟩ : ∃ up, h.blk id = some (.cells pc.1 pc.2 up false) := by
          unfold H.cells at q3
          obtain ⟨bb, y1, y2⟩ := ob_some.1 q3
          have := e8
          unfold H.adopt at this
          rw [y1] at this
          cases bb with
          | cells n0 cs0 up0 ch0 =>
            cases y2
            obtain ⟨hch, _⟩ := oif_some.1 (show oif (!ch0) _ = some ha' from this)
            have : ch0 = false := by simpa using hch
            subst this
            exact ⟨up0, y1⟩
          | _ => cases this
        have hnext : ha'.next = h.next := by
          have := e8
          unfold H.adopt at this
          rw [hblk] at this
          cases this
          rfl
        have away : ∀ {q : Option Addr} {c b o z : Nat}, g id = some (b, o, z) → ρ xo = .slice q len c → ¬ len + p.1 ≤ c → ∀ {ous : List Value}, ous.length = len * n → (∀ j v, j < pc.1 → pc.2.get j = some v → ∃ u, ous[j]? = some u ∧ VR g v u ∧ oneCell v = true) →
            (∀ w2 : World, w2.heap = w.heap → (Builtin.firstCells n len (.slice q len c)).run P w2 = .ok ous.toArray w2) → Eff P T g h w ρ (.call ⟨.builtin .append, args, at'⟩) (.sl h.next 0 (len + p.1) 0 false n) h' := by
          intro q c b o z hg hu hc ous k2 k1 k3
          obtain ⟨nc, m1, m2⟩ := grown hu hc hbig k2 k3
          obtain ⟨g', x1, x2⟩ := open_away (e := e) (rest := (Builtin.zeroCells zu.cells (nc - (len + p.1))).toList) (nc := nc) r hg hblk hnn hoff k1 k2 hus hul e8 e10 (hrest _) m1
          exact ⟨g', _, _, x1, x2, run_append_op ha m2⟩
        rw [hnext]
        rcases hs.sli_inv with ⟨b, o, z, c, hg, hc, hl, hu⟩ | ⟨b, o, z, q, hg, rfl, hzo, hu⟩
        · by_cases hcc : len + p.1 ≤ c
          · obtain ⟨g', w', x1, s1, x2⟩ := open_here (P := P) r hg hblk hnn hc hcc hoff hus hul e8 e10
            exact ⟨g', w', _, x1, x2, stay hu hcc (fun a ha => by cases ha; exact s1) (fun h => by cases h)⟩
          · obtain ⟨b', o', z', cur, t', k1, k2, k3, k4, k5, k6⟩ := r.blk id _ _ hg hblk
            rw [hg] at k1
            cases k1
            have hat : ∀ j, ((cur.toList.drop o).take (len * n))[j]? = if j < len * n then cur[o + j]? else none := fun j => by
              rw [List.getElem?_take]
              split
              · rw [List.getElem?_drop, Array.getElem?_toList]
              · rfl
            have hlen : ((cur.toList.drop o).take (len * n)).length = len * n := by
              rw [List.length_take, List.length_drop, Array.length_toList]
              omega
            refine away hg hu hcc (ous := (cur.toList.drop o).take (len * n)) hlen (fun j v hj hv => ?_) (fun w2 hw => run_firstCells_sl hlen fun j u hj => ?_)
            · obtain ⟨u, s1, s2, s3⟩ := k6 j v hj hv
              exact ⟨u, by rw [hat, if_pos (by omega)]; exact s1, s2, s3⟩
            · rw [hat] at hj
              split at hj
              · have hadd : (⟨b, o + off, none⟩ : Addr).add j = ⟨b, o + off + j, none⟩ := by simp [Addr.add]
                rw [hadd, show o + off + j = o + j by omega]
                simp [World.cell?, hw, k2, hj]
              · cases hj
        · refine away hg hu (fun h0 => hroom' (Nat.le_trans h0 (Nat.zero_le _))) (ous := []) (by simp) (fun j v hj _ => ?_) (fun w2 hw => ?_)
          · rw [hnn, hoff] at hj
            omega
          · exact run_firstCells_sl (by simp) fun j u hj => by simp at hj
  | _ => cases e2
end
end Ev
end Go.Proofs.YtogbcielgfidlaaGreatDoor
namespace Go.Proofs.YtogbcielgfidlaaGreatDoor
set_option linter.unusedVariables false
set_option linter.unusedSimpArgs false
namespace Ev
variable [Opq]
set_option linter.unusedSectionVars false
section
variable {P : Program} {T : Ty} {g : G} {ρ : Operand → Value} {h : H} {w : World}

theorem E_ok (hT : TyOk P T) (r : WR T g h w) {op : Op} {eo : EOp} {os : List Operand} (hc : compOp T op = some (.e eo, os)) {vs : List V} {v : V} {h' : H} (hv : VRs g vs (os.map ρ)) (hr : eo.run vs h = some (v, h')) : Eff P T g h w ρ op v h' := by
  cases op
  case store t a x =>
    simp only [compOp] at hc
    obtain ⟨n, h1, h2⟩ := ob_some.1 hc
    cases h2
    obtain ⟨p, q, rfl, ha, hb⟩ := hv.two
    exact eff_store hT r h1 ha hb hr
  case insert t m k x =>
    simp only [compOp] at hc
    obtain ⟨d, h1, h2⟩ := ob_some.1 hc
    cases d with
    | map kt e =>
      obtain ⟨kk, h3, h4⟩ := ob_some.1 h2
      cases h4
      obtain ⟨a, b, c, rfl, ha, hb, hcc⟩ := hv.three
      obtain ⟨g', w', x1, x2, x3⟩ := eff_mapup hT r h1 h3 ha hb hcc hr
      exact ⟨g', w', undef, x1, x2, fun o e => .inr ⟨by simp [execOp, e, x3], rfl⟩⟩
    | _ => cases h2
  case mapUpdate t m k x =>
    simp only [compOp] at hc
    obtain ⟨d, h1, h2⟩ := ob_some.1 hc
    cases d with
    | map kt e =>
      obtain ⟨kk, h3, h4⟩ := ob_some.1 h2
      cases h4
      obtain ⟨a, b, c, rfl, ha, hb, hcc⟩ := hv.three
      obtain ⟨g', w', x1, x2, x3⟩ := eff_mapup hT r h1 h3 ha hb hcc hr
      exact ⟨g', w', undef, x1, x2, fun o e => .inr ⟨by simp [execOp, e, x3], rfl⟩⟩
    | _ => cases h2
  case mapEntry t m k =>
    simp only [compOp] at hc
    obtain ⟨d, h1, h2⟩ := ob_some.1 hc
    cases d with
    | map kt e =>
      obtain ⟨kk, h3, h4⟩ := ob_some.1 h2
      obtain ⟨z, h5, h6⟩ := ob_some.1 h4
      cases h6
      obtain ⟨a, b, rfl, ha, hb⟩ := hv.two
      obtain ⟨g', w', u, x1, x2, x3⟩ := eff_mapent hT r h1 h3 h5 ha hb hr
      exact ⟨g', w', u, x1, x2, fun o e => .inl (by simp [execOp, e, x3])⟩
    | _ => cases h2
  case entryStore t m s x =>
    cases hc
    obtain ⟨a, b, c, rfl, ha, hb, hcc⟩ := hv.three
    obtain ⟨g', w', x1, x2, x3⟩ := eff_entst (P := P) (t := t) r ha hb hcc hr
    exact ⟨g', w', undef, x1, x2, fun o e => .inr ⟨by simp [execOp, e, x3], rfl⟩⟩
  case next x b =>
    cases b with
    | false =>
      cases hc
      obtain ⟨a, rfl, ha⟩ := hv.one
      exact eff_nextM r ha hr
    | true =>
      cases hc
      obtain ⟨a, rfl, ha⟩ := hv.one
      exact eff_nextS r ha hr
  case entry x =>
    cases hc
    obtain ⟨a, rfl, ha⟩ := hv.one
    exact eff_entryM r ha hr
  case call c =>
    obtain ⟨callee, args, argTypes⟩ := c
    simp only [compOp] at hc
    cases callee with
    | value x => cases x <;> first | (cases hc; done) | (rename_i v; cases v <;> first | (cases hc; done) | (rename_i f _ _; cases f <;> cases hc))
    | invoke r m => cases hc
    | builtin b =>
      obtain ⟨t, h1, h2⟩ := ob_some.1 hc
      obtain ⟨d, h3, h4⟩ := ob_some.1 h2
      have h1' : argTypes[0]? = some t := by rw [nthL_eq] at h1; simpa using h1
      cases b
      case len =>
        cases d <;> cases h4
      case append =>
        cases d with
        | slice e =>
          obtain ⟨n, k1, a1⟩ := ob_some.1 h4
          obtain ⟨i, k2, a2⟩ := ob_some.1 a1
          obtain ⟨z, k3, a3⟩ := ob_some.1 a2
          obtain ⟨k4, a4⟩ := oif_some.1 a3
          obtain ⟨u, k5, a5⟩ := ob_some.1 a4
          obtain ⟨du, k6, a6⟩ := ob_some.1 a5
          have h5 : argTypes[1]? = some u := by rw [nthL_eq] at k5; simpa using k5
          simp only [Bool.and_eq_true, Nat.blt_eq, Nat.beq_eq, lenL_eq] at k4
          split at a6
          · cases a6
            exact eff_append hT r h1' h3 k1 k2 k3 k4.1 k4.2.1 k4.2.2 h5 k6 (.inl ⟨.inl ⟨_, rfl⟩, rfl⟩) hv hr
          · cases a6
            exact eff_append hT r h1' h3 k1 k2 k3 k4.1 k4.2.1 k4.2.2 h5 k6 (.inl ⟨.inr rfl, rfl⟩) hv hr
          · cases a6
            exact eff_append hT r h1' h3 k1 k2 k3 k4.1 k4.2.1 k4.2.2 h5 k6 (.inr ⟨rfl, rfl⟩) hv hr
          · cases a6
        | _ => cases h4
      case copy =>
        cases d with
        | slice e =>
          obtain ⟨n, k1, a1⟩ := ob_some.1 h4
          cases a1
          exact eff_copy hT r h1' h3 k1 hv hr
        | _ => cases h4
      case clear =>
        cases d with
        | slice e =>
          obtain ⟨n, k1, a1⟩ := ob_some.1 h4
          obtain ⟨z, k2, a2⟩ := ob_some.1 a1
          cases a2
          exact eff_clear hT r h1' h3 k2 hv hr
        | _ => cases h4
      case delete =>
        cases d with
        | map k e =>
          obtain ⟨kk, k1, a1⟩ := ob_some.1 h4
          cases a1
          exact eff_delete hT r h1' h3 k1 hv hr
        | _ => cases h4
      all_goals (cases d <;> cases h4)
  case alloc t =>
    simp only [compOp] at hc
    obtain ⟨z, h1, h⟩ := ob_some.1 hc
    cases h
  case buildSlice t n ps =>
    simp only [compOp] at hc
    obtain ⟨d, _, h⟩ := ob_some.1 hc
    cases d with
    | slice e =>
      obtain ⟨_, _, a1⟩ := ob_some.1 h
      obtain ⟨_, _, a2⟩ := ob_some.1 a1
      obtain ⟨_, a3⟩ := oif_some.1 a2
      cases a3
    | _ => cases h
  case makeMap t r =>
    simp only [compOp] at hc
    obtain ⟨d, _, h⟩ := ob_some.1 hc
    cases d <;> cases h
  case makeSlice t l c =>
    simp only [compOp] at hc
    obtain ⟨d, _, h⟩ := ob_some.1 hc
    cases d with
    | slice e =>
      obtain ⟨_, _, a1⟩ := ob_some.1 h
      obtain ⟨_, _, a2⟩ := ob_some.1 a1
      obtain ⟨_, _, a3⟩ := ob_some.1 a2
      obtain ⟨_, a4⟩ := oif_some.1 a3
      cases a4
    | _ => cases h
  case range t x =>
    simp only [compOp] at hc
    obtain ⟨d, h1, h⟩ := ob_some.1 hc
    cases d <;> cases h
    obtain ⟨a, rfl, ha⟩ := hv.one
    exact eff_rangeM hT r h1 ha hr
  case load t x =>
    simp only [compOp] at hc
    obtain ⟨b, h1, h2⟩ := ob_some.1 hc
    obtain ⟨n, h3, h4⟩ := ob_some.1 h2
    cases h4
  case lookup t x k ok =>
    simp only [compOp] at hc
    obtain ⟨d, h1, h2⟩ := ob_some.1 hc
    cases d with
    | map kt e =>
      obtain ⟨kk, h3, h4⟩ := ob_some.1 h2
      obtain ⟨z, h5, h6⟩ := ob_some.1 h4
      cases h6
    | _ => cases h2
  case binOp op t x y t' =>
    have eq2 : ∀ {neg cst : Bool} {d : TypeDesc}, eqOp T t neg cst d = some (.e eo) → False := by
      intro neg cst d h2
      cases d with
      | interface e => obtain ⟨h4, h5⟩ := oif_some.1 h2; cases h5
      | pointer e => obtain ⟨k, h4, h5⟩ := ob_some.1 h2; cases h5
      | struct fs => obtain ⟨k, h4, h5⟩ := ob_some.1 h2; cases h5
      | _ => cases h2
    cases op
    case eql =>
      simp only [compOp] at hc
      obtain ⟨d, h1, h2⟩ := ob_some.1 hc
      obtain ⟨c, h3, h4⟩ := ob_some.1 h2
      cases h4
      exact (eq2 (neg := false) h3).elim
    case neq =>
      simp only [compOp] at hc
      obtain ⟨d, h1, h2⟩ := ob_some.1 hc
      obtain ⟨c, h3, h4⟩ := ob_some.1 h2
      cases h4
      exact (eq2 (neg := true) h3).elim
    all_goals cases hc
  case build t ps =>
    simp only [compOp] at hc
    obtain ⟨z, h1, h2⟩ := ob_some.1 hc
    obtain ⟨d, h3, h4⟩ := ob_some.1 h2
    cases d with
    | struct fs =>
      obtain ⟨pl, h5, h6⟩ := ob_some.1 h4
      obtain ⟨l, h7, h8⟩ := ob_some.1 h6
      cases h8
    | array k e =>
      obtain ⟨n, h5, h6⟩ := ob_some.1 h4
      cases h6
    | _ => cases h4
  case convert s d x =>
    simp only [compOp] at hc
    obtain ⟨a, h1, h2⟩ := ob_some.1 hc
    obtain ⟨b, h3, h4⟩ := ob_some.1 h2
    cases a <;> cases b <;> first | (cases h4; done) | (cases (b2sOp_some h4).1)
  case makeInterface t x =>
    simp only [compOp] at hc
    obtain ⟨d, h1, h2⟩ := ob_some.1 hc
    cases d <;> cases h2
  case makeFunc fn a b => cases fn <;> cases hc
  case slice t x lo hi mx =>
    simp only [compOp] at hc
    obtain ⟨d, _, h⟩ := ob_some.1 hc
    cases d with
    | string => cases h
    | slice e => obtain ⟨_, _, a1⟩ := ob_some.1 h; cases a1
    | array k e => obtain ⟨_, _, a1⟩ := ob_some.1 h; cases a1
    | _ => cases h
  case fieldAddr t x i =>
    simp only [compOp] at hc
    obtain ⟨d, _, h⟩ := ob_some.1 hc
    cases d with
    | struct fs =>
      obtain ⟨_, _, a1⟩ := ob_some.1 h
      obtain ⟨_, _, a2⟩ := ob_some.1 a1
      cases a2
    | _ => cases h
  case field t x i =>
    simp only [compOp] at hc
    obtain ⟨d, _, h⟩ := ob_some.1 hc
    cases d with
    | struct fs =>
      obtain ⟨_, _, a1⟩ := ob_some.1 h
      obtain ⟨_, _, a2⟩ := ob_some.1 a1
      obtain ⟨_, _, a3⟩ := ob_some.1 a2
      cases a3
    | _ => cases h
  case indexAddr t x i =>
    simp only [compOp] at hc
    obtain ⟨d, _, h⟩ := ob_some.1 hc
    cases d with
    | slice e => obtain ⟨_, _, a1⟩ := ob_some.1 h; cases a1
    | array k e => obtain ⟨_, _, a1⟩ := ob_some.1 h; cases a1
    | _ => cases h
  case index t x i =>
    simp only [compOp] at hc
    obtain ⟨d, _, h⟩ := ob_some.1 hc
    cases d with
    | string => cases h
    | array k e =>
      obtain ⟨_, _, a1⟩ := ob_some.1 h
      obtain ⟨_, _, a2⟩ := ob_some.1 a1
      cases a2
    | _ => cases h
  all_goals cases hc
end
end Ev
end Go.Proofs.YtogbcielgfidlaaGreatDoor
