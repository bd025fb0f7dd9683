/-
  compile.finisher.assign: intervals on both sides.
-/
import Derived.Test.YtihflniehaaakaaGreatDoorCkLoop
import Derived.Test.YtihflniehaaakaaGreatDoorCkAsg1
namespace Go.Proofs.YtihflniehaaakaaGreatDoor
set_option linter.unusedVariables false
set_option linter.unusedSimpArgs false
namespace Ev
variable [Opq]
set_option linter.unusedSectionVars false
/-- A new block on the one side, which has come to be on the other. -/
theorem Ext.newAt {g : G} {h h' : H} {w w' : World} (r : WR TP g h w) (k : Still w w') {b : Blk} {gb z : Nat} (h1 : w.heap.size ≤ gb) (h2 : gb < w'.heap.size) (hn : h.new b = some h') (hb : b.kin = none ∨ b.kin = some (none, false))
    (hr : BR TP (gput g h.next (gb, 0, z)) w' h.next b) : Ext TP g h w (gput g h.next (gb, 0, z)) h' w' := by
  obtain ⟨r1, e1, e2, e3⟩ := r.add hn hb
  have b1 : h'.blk h.next = some b := by rw [e2, if_pos rfl]
  have le := gput_le (gb, 0, z) e3
  have cases' : ∀ {i : Nat} {x : Nat × Nat × Nat}, gput g h.next (gb, 0, z) i = some x → (i = h.next ∧ x = (gb, 0, z)) ∨ (i ≠ h.next ∧ g i = some x) := by
    intro i x e
    by_cases h1 : i = h.next
    · subst h1; rw [gput_same] at e; exact .inl ⟨rfl, (Option.some.inj e).symm⟩
    · rw [gput_ne _ h1] at e; exact .inr ⟨h1, e⟩
  have r2 : WR TP (gput g h.next (gb, 0, z)) h' w' := by
    refine ⟨r1.bound, r1.top, fun i x e => ?_, fun i b' o' z' e => ?_, fun i x k' e1' e2' => ?_, fun i j b' o1 z1 o2 z2 bi bj hij e1' e2' e3' e4' l1 l2 => ?_, fun i q j d ch e1' e2' => ?_, r1.ext⟩
    · rcases cases' e with ⟨rfl, _⟩ | ⟨_, e⟩
      · omega
      · exact r1.dom _ _ e
    · rcases cases' e with ⟨_, e⟩ | ⟨_, e⟩
      · cases e; exact h2
      · exact Nat.lt_of_lt_of_le (r.lt _ _ _ _ e) k.size
    · rcases cases' e1' with ⟨rfl, rfl⟩ | ⟨_, e⟩
      · rw [b1] at e2'; obtain rfl := Option.some.inj e2'; exact hr
      · obtain ⟨b', o', z'⟩ := x
        exact BR.move e1' (k.keep _ (r.lt _ _ _ _ e)) ((r1.blk _ _ _ e e2').mono le)
    · rcases cases' e1' with ⟨rfl, x1⟩ | ⟨_, k1⟩ <;> rcases cases' e2' with ⟨rfl, x2⟩ | ⟨_, k2⟩
      · exact absurd rfl hij
      · cases x1; have := r.lt _ _ _ _ k2; omega
      · cases x2; have := r.lt _ _ _ _ k1; omega
      · exact r1.mates i j b' o1 z1 o2 z2 bi bj hij k1 k2 e3' e4' l1 l2
    · obtain ⟨b', up, k1, k2, k3⟩ := r1.kids i q j d ch e1' e2'
      refine ⟨b', up, k1, k2, fun h1' => ?_⟩
      have : i ≠ h.next := by
        intro h2'
        subst h2'
        rw [b1] at e1'
        cases e1'
        rcases hb with h | h <;> rw [h] at e2' <;> cases e2'
      rw [gput_ne _ this] at h1'
      intro h3
      by_cases h4 : j = h.next
      · subst h4; exact k3 h1' e3
      · rw [gput_ne _ h4] at h3; exact k3 h1' h3
  refine ⟨le, by omega, r2, fun id hi e => ⟨by rw [gput_ne _ (by omega)]; exact e, by rw [e2, if_neg (by omega)]⟩, k.size, fun b hb _ => k.keep b hb, fun id k' o' z' e e0 => ?_, fun id b' o' z' n cs e hb' => ⟨by rw [e2, if_neg (by have := r.dom _ _ e; omega)]; exact hb', k.keep _ (r.lt _ _ _ _ e)⟩, k.os, k.tape, k.output⟩
  by_cases h5 : id = h.next
  · subst h5; rw [gput_same] at e; cases e; exact .inl h1
  · rw [gput_ne _ h5, e0] at e; cases e
theorem asPtr_inv {α : Type} {k : Nat → Nat → Option α} {v : V} {r : α} (h : asPtr k v = some r) : ∃ a o, v = .ptr a o ∧ k a o = some r := by
  cases v <;> first | exact ⟨_, _, rfl, h⟩ | cases h
theorem asMap_inv {α : Type} {k : Nat → Option α} {v : V} {r : α} (h : asMap none k v = some r) : ∃ i, v = .map i ∧ k i = some r := by
  cases v <;> first | exact ⟨_, rfl, h⟩ | cases h
theorem asInt_inv {α : Type} {k : IntKind → Int → Option α} {v : V} {r : α} (h : asInt k v = some r) : ∃ q n, v = .int q n ∧ k q n = some r := by
  cases v <;> first | exact ⟨_, _, rfl, h⟩ | cases h
theorem one_inv {α β : Type} {l : List α} {k : α → Option β} {r : β} (h : (caseL l none fun v t => caseL t (k v) fun _ _ => none) = some r) : ∃ v, l = [v] ∧ k v = some r := by
  cases l with
  | nil => cases h
  | cons v t => cases t with
    | nil => exact ⟨v, rfl, h⟩
    | cons _ _ => cases h
theorem oneI_inv {α : Type} {l : List V} {k : Int → Option α} {r : α} (h : oneI l k = some r) : ∃ n, l = [.int .i64 n] ∧ k n = some r := by
  obtain ⟨v, rfl, h⟩ := one_inv h
  obtain ⟨q, n, rfl, h⟩ := asInt_inv h
  obtain ⟨h1, h2⟩ := oif_some.1 h
  obtain rfl := eK_eq h1
  exact ⟨n, rfl, h2⟩
theorem H.entries_some {h : H} {id : Nat} {es : List (V × V)} (e : h.entries id = some es) : ∃ o, h.blk id = some (.map es o) ∧ h.ord id = o := by
  unfold H.entries at e
  obtain ⟨b, e1, e2⟩ := ob_some.1 e
  cases b <;> first | (cases e2; done) | skip
  cases e2
  exact ⟨_, e1, by unfold H.ord; rw [e1]⟩
noncomputable section
def prT (t : Sp × V) : Int × Int × V := (t.1.1, t.1.2.1, t.2)
def insT (x : Sp × V) (l : List (Sp × V)) : List (Sp × V) :=
  List.rec (motive := fun _ => List (Sp × V)) [x] (fun y t ih => Bool.rec (motive := fun _ => List (Sp × V)) (y :: ih) (x :: y :: t) (cndK (prT x) (prT y))) l
end
theorem insT_map (x : Sp × V) : ∀ l : List (Sp × V), (insT x l).map prT = insK (prT x) (l.map prT)
  | [] => rfl
  | y :: l => by
    show List.map prT (Bool.rec (motive := fun _ => List (Sp × V)) (y :: insT x l) (x :: y :: l) (cndK (prT x) (prT y))) = Bool.rec (motive := fun _ => List (Int × Int × V)) (prT y :: insK (prT x) (l.map prT)) (prT x :: prT y :: l.map prT) (cndK (prT x) (prT y))
    rw [← insT_map x l]
    cases cndK (prT x) (prT y) <;> rfl
theorem insT_perm (x : Sp × V) : ∀ l : List (Sp × V), (insT x l).Perm (x :: l)
  | [] => .refl _
  | y :: l => by
    show (Bool.rec (motive := fun _ => List (Sp × V)) (y :: insT x l) (x :: y :: l) (cndK (prT x) (prT y)) : List (Sp × V)).Perm _
    cases cndK (prT x) (prT y)
    · exact ((insT_perm x l).cons y).trans (.swap _ _ _)
    · exact .refl _
theorem spans_ok {g : G} {h : H} {w : World} (r : WR TP g h w) : ∀ {es : List (V × V)} {us : List Value} {ks : List (Int × Int × V)}, VRs g (es.map (·.2)) us → spanK h es = some ks →
    ∃ T S : List (Sp × V), us = T.map (fun t => encS t.1) ∧ ks = S.map prT ∧ S.Perm T ∧ ∀ t ∈ T, SpOk w t.1 ∧ VR g t.2 (encS t.1)
  | [], _, _, hv, e => by
    cases hv
    cases e
    exact ⟨[], [], rfl, rfl, .refl _, fun _ h => by cases h⟩
  | x :: es, _, _, hv, e => by
    cases hv with
    | cons h1 t1 =>
    obtain ⟨a, o, ha, e⟩ := asPtr_inv e
    obtain ⟨l1, e1, e⟩ := ob_some.1 e
    obtain ⟨f, rfl, e⟩ := oneI_inv e
    obtain ⟨l2, e2, e⟩ := ob_some.1 e
    obtain ⟨v, rfl, e⟩ := oneI_inv e
    obtain ⟨r', e3, e⟩ := ob_some.1 e
    cases e
    obtain ⟨T, S, rfl, rfl, k3, k4⟩ := spans_ok r t1 e3
    have h1 : VR g x.2 _ := h1
    rw [ha] at h1
    cases h1 with
    | ptr hg =>
    rename_i b oo z
    obtain ⟨u1, m1, _, m3, _⟩ := rd_ok r hg e1
    obtain ⟨u2, n1, _, n3, _⟩ := rd_ok r hg e2
    cases m1 with
    | cons p1 q1 =>
    cases n1 with
    | cons p2 q2 =>
    cases p1
    cases p2
    have c1 := m3 0 _ rfl
    have c2 := n3 0 _ rfl
    refine ⟨((f, v, b, oo + o), .ptr a o) :: T, insT ((f, v, b, oo + o), .ptr a o) S, rfl, (insT_map ((f, v, b, oo + o), .ptr a o) S).symm, (insT_perm _ _).trans (k3.cons _), fun t ht => ?_⟩
    cases ht with
    | head => exact ⟨⟨c1, c2⟩, .ptr hg⟩
    | tail _ ht => exact k4 t ht
theorem cndK_iff (x y : Int × Int × V) : cndK x y = true ↔ x.1 < y.1 ∨ (x.1 = y.1 ∧ x.2.1 < y.2.1) := by
  unfold cndK
  rw [ltI_eq, ltI_eq, eqI_eq]
  by_cases h1 : x.1 < y.1
  · simp [h1]
  · by_cases h2 : x.1 = y.1
    · by_cases h3 : x.2.1 < y.2.1 <;> simp [h2, h3]
    · have : (x.1 == y.1) = false := by simpa using h2
      simp [h1, h2, this]
theorem allK_ok {x : Int × Int × V} : ∀ {l : List (Int × Int × V)}, allK x l = true → ∀ y ∈ l, cndK x y = true
  | [], _, _, h => by cases h
  | y :: l, e, z, h => by
    obtain ⟨e1, e2⟩ := tt2_and.1 (show tt2 (cndK x y) (allK x l) = true from e)
    cases h with
    | head => exact e1
    | tail _ h => exact allK_ok e2 z h
theorem strK_ok : ∀ {l : List (Int × Int × V)}, strK l = true → l.Pairwise fun x y => cndK x y = true
  | [], _ => .nil
  | x :: l, e => by
    obtain ⟨e1, e2⟩ := tt2_and.1 (show tt2 (allK x l) (strK l) = true from e)
    exact .cons (fun y hy => allK_ok e1 y hy) (strK_ok e2)
theorem pw_mem {α : Type} {R : α → α → Prop} : ∀ {l : List α}, l.Pairwise R → ∀ {a b : α}, a ∈ l → b ∈ l → a = b ∨ R a b ∨ R b a
  | [], _, _, _, h, _ => by cases h
  | x :: l, h, a, b, ha, hb => by
    obtain ⟨h1, h2⟩ := List.pairwise_cons.1 h
    cases ha with
    | head => cases hb with
      | head => exact .inl rfl
      | tail _ hb => exact .inr (.inl (h1 b hb))
    | tail _ ha => cases hb with
      | head => exact .inr (.inr (h1 a ha))
      | tail _ hb => exact pw_mem h2 ha hb
/-- A row in order, of the intervals of another that is strictly in order, is that one. -/
theorem sorted_eq {ys ms : List Sp} (hp : ys.Perm ms) (h1 : ys.Pairwise fun p q => ¬ cfS q p < 0) (h2 : ms.Pairwise fun p q => cfS p q < 0) : ys = ms := by
  refine List.Perm.eq_of_pairwise (le := fun p q => ¬ cfS q p < 0) (fun a b ha hb h3 h4 => ?_) h1 (h2.imp fun {a b} h h' => ?_) hp
  · rcases pw_mem h2 (hp.mem_iff.1 ha) hb with e | e | e
    · exact e
    · exact absurd e h4
    · exact absurd e h3
  · rw [cfS_lt] at h h'
    omega
theorem notIn_ok {n : Int} : ∀ {l : List Int}, notIn n l = true → n ∉ l
  | [], _, h => by cases h
  | x :: l, e, h => by
    obtain ⟨e1, e2⟩ := tt2_and.1 (show tt2 (!eqI x n) (notIn n l) = true from e)
    cases h with
    | head => rw [eqI_eq] at e1; simp at e1
    | tail _ h => exact notIn_ok e2 h
theorem nodI_ok : ∀ {l : List Int}, nodI l = true → l.Nodup
  | [], _ => .nil
  | x :: l, e => by
    obtain ⟨e1, e2⟩ := tt2_and.1 (show tt2 (notIn x l) (nodI l) = true from e)
    exact List.nodup_cons.2 ⟨notIn_ok e1, nodI_ok e2⟩
theorem keysN_ok {g : G} : ∀ {es : List (V × V)} {l : List Int} {us : List Value}, mapO (fun e => keyN e.1) es = some l → VRs g (es.map (·.1)) us → us = l.map (Value.int .i64) ∧ ∀ n ∈ l, 0 ≤ n ∧ n < 1000000
  | [], _, _, e, hv => by cases e; cases hv; exact ⟨rfl, fun _ h => by cases h⟩
  | x :: es, _, _, e, hv => by
    rw [mapO_cons] at e
    obtain ⟨n, e1, e⟩ := ob_some.1 e
    obtain ⟨l, e2, e⟩ := ob_some.1 e
    cases e
    cases hv with
    | cons h1 t1 =>
    obtain ⟨q, m, hm, e1⟩ := asInt_inv e1
    obtain ⟨e3, e1⟩ := oif_some.1 e1
    cases e1
    obtain ⟨k1, k2⟩ := tt2_and.1 e3
    obtain ⟨k2, k3⟩ := tt2_and.1 k2
    obtain rfl := eK_eq k1
    have h1 : VR g x.1 _ := h1
    rw [hm] at h1
    cases h1
    obtain ⟨rfl, k4⟩ := keysN_ok e2 t1
    refine ⟨rfl, fun n hn => ?_⟩
    cases hn with
    | head =>
      rw [ltI_eq] at k2 k3
      simp at k2 k3
      exact ⟨by omega, by omega⟩
    | tail _ hn => exact k4 n hn
end Ev
end Go.Proofs.YtihflniehaaakaaGreatDoor
namespace Go.Proofs.YtihflniehaaakaaGreatDoor
set_option linter.unusedVariables false
set_option linter.unusedSimpArgs false
namespace Ev
open Go.RowKit Go.Maps Go.Shelf Go.Lib Go.Sort
variable [Opq]
set_option linter.unusedSectionVars false
theorem nodup_inj {α β : Type} {f : α → β} : ∀ {l : List α}, (l.map f).Nodup → ∀ {a b : α}, a ∈ l → b ∈ l → f a = f b → a = b
  | [], _, _, _, h, _, _ => by cases h
  | x :: l, hn, a, b, ha, hb, e => by
    obtain ⟨h1, h2⟩ := List.nodup_cons.1 (show (f x :: l.map f).Nodup from hn)
    cases ha with
    | head => cases hb with
      | head => rfl
      | tail _ hb => exact absurd (List.mem_map.2 ⟨b, hb, e.symm⟩) h1
    | tail _ ha => cases hb with
      | head => exact absurd (List.mem_map.2 ⟨a, ha, e⟩) h1
      | tail _ hb => exact nodup_inj h2 ha hb e
theorem nodup_enc {ns : List Int} (h : ns.Nodup) : (ns.map (Value.int .i64)).Nodup := List.pairwise_map.2 (h.imp fun hne e => hne (by cases e; rfl))
theorem own_of {w : World} {m : Array MapEntry} {clock mb : Nat} {ns : List Int} (hw : w.heap[mb]? = some (.map m clock)) (hk : m.toList.map (·.key) = ns.map (Value.int .i64)) (hb : Born m.toList clock) (hn : ns.Nodup) (hl : ns.length < 1000000)
    (hr : ∀ n ∈ ns, 0 ≤ n ∧ n < 1000000) (ho : ∀ x ∈ m.toList, x.val.oneCell' = true) :
    ∃ D0 : DataW Value, w.ownsMap Tryz.prog 3 asIs mb m.size D0 ∧ (intKeys D0).Perm ns ∧ Maps.size D0 = ns.length ∧ ∀ x ∈ m.toList, ∀ n, x.key = .int .i64 n → pv D0 n = x.val := by
  have hlen : m.toList.length = ns.length := by have := congrArg List.length hk; simpa using this
  have key : ∀ x ∈ m.toList, ∃ n ∈ ns, x.key = .int .i64 n := fun x hx => by
    have : x.key ∈ m.toList.map (·.key) := List.mem_map.2 ⟨x, hx, rfl⟩
    rw [hk] at this
    obtain ⟨l, h1, h2⟩ := List.mem_map.1 this
    exact ⟨l, h1, h2.symm⟩
  have u3 : Tryz.prog.underlying 3 = some (.int .i64) := Tryz.underlying3
  have rdOf : ∀ x ∈ m.toList, ∀ n, x.key = .int .i64 n → WideElems.rd Tryz.prog 3 asIs x = some (.int .i64 n, .held x.val) := fun x hx n h2 => by
    obtain ⟨n', hn', e'⟩ := key x hx
    obtain rfl : n = n' := by rw [h2] at e'; cases e'; rfl
    obtain ⟨r1, r2⟩ := hr n hn'
    unfold WideElems.rd
    rw [h2]
    have hwf : (Lit.int .i64 n).wf = true := by
      have m1 : IntKind.min .i64 = -9223372036854775808 := rfl
      have m2 : IntKind.max .i64 = 9223372036854775807 := rfl
      simp only [Lit.wf, m1, m2, Bool.and_eq_true, decide_eq_true_eq]
      omega
    have : keyOf Tryz.prog 3 (.int .i64 n) = some (.int .i64 n) := by simp [keyOf, mapKey, u3, hwf]
    rw [this]
    show Option.map (fun y : DataW Value × List MemPlace => ((Lit.int .i64 n : Lit), y.1)) (asIs x.val) = _
    unfold asIs
    rw [if_pos (ho x hx)]
    rfl
  have rgOf : ∀ x ∈ m.toList, ∀ n, x.key = .int .i64 n → WideElems.rg Tryz.prog 3 asIs x = (.int .i64 n, .held x.val) := fun x hx n h2 => by
    unfold WideElems.rg
    rw [rdOf x hx n h2]
    rfl
  have bornAt := hb.2
  have hsz : m.size ≤ Go.maxLen := by
    have : m.size = ns.length := by rw [← Array.length_toList]; exact hlen
    unfold Go.maxLen
    omega
  have hown : w.ownsMap Tryz.prog 3 asIs mb m.size (.map ((m.toList.map (WideElems.rg Tryz.prog 3 asIs)).foldr DataW.insert [])) := by
    refine ⟨m, clock, hw, ⟨hsz, ⟨fun x hx => ?_, ?_, ?_⟩, fun x hx => ?_⟩, Nat.le_refl _, rfl⟩
    · obtain ⟨i, hi⟩ := List.mem_iff_getElem?.1 hx
      rw [bornAt i x hi, hb.1]
      exact (List.getElem?_eq_some_iff.1 hi).1
    · have : m.toList.map (·.born) = List.range m.toList.length := by
        refine List.ext_getElem? fun i => ?_
        rw [List.getElem?_map]
        cases hi : m.toList[i]? with
        | none =>
          have := List.getElem?_eq_none_iff.1 hi
          rw [List.getElem?_eq_none (by simpa using this)]
          rfl
        | some x =>
          have hlt := (List.getElem?_eq_some_iff.1 hi).1
          rw [List.getElem?_range hlt]
          simp [bornAt i x hi]
      rw [this]
      exact List.nodup_range
    · rw [hk]
      exact nodup_enc hn
    · obtain ⟨n, _, h2⟩ := key x hx
      exact ⟨_, rdOf x hx n h2⟩
  have hperm := WideShapes.sorted_perm (m.toList.map (WideElems.rg Tryz.prog 3 asIs))
  refine ⟨_, hown, ?_, ?_, fun x hx n hxn => ?_⟩
  · show (List.map (fun p : Lit × DataW Value => Go.intOf p.1) _).Perm ns
    refine (hperm.map _).trans (List.Perm.of_eq ?_)
    rw [List.map_map]
    have h2 : (m.toList.map ((fun p : Lit × DataW Value => Go.intOf p.1) ∘ WideElems.rg Tryz.prog 3 asIs)).map (Value.int .i64) = ns.map (Value.int .i64) := by
      rw [← hk, List.map_map]
      refine List.map_congr_left fun x hx => ?_
      obtain ⟨n, _, h2⟩ := key x hx
      rw [Function.comp_apply, Function.comp_apply, rgOf x hx n h2, h2]
      rfl
    exact (List.map_inj_right (fun _ _ e => by cases e; rfl)).1 h2
  · show (List.foldr DataW.insert [] _).length = _
    rw [hperm.length_eq, List.length_map, hlen]
  · have hmem : ((.int .i64 n, .held x.val) : Lit × DataW Value) ∈ List.foldr DataW.insert [] (m.toList.map (WideElems.rg Tryz.prog 3 asIs)) := hperm.mem_iff.2 (List.mem_map.2 ⟨x, hx, rgOf x hx n hxn⟩)
    have hat : ∀ zd, (DataW.map (List.foldr DataW.insert [] (m.toList.map (WideElems.rg Tryz.prog 3 asIs)))).atKey (.int .i64 n) zd = .held x.val := fun zd => by
      unfold DataW.atKey
      dsimp only
      split
      · rename_i q hf
        have q1 := List.find?_some hf
        obtain ⟨y, hy, rfl⟩ := List.mem_map.1 (hperm.mem_iff.1 (List.mem_of_find?_eq_some hf))
        obtain ⟨n', _, h2⟩ := key y hy
        rw [rgOf y hy n' h2] at q1 ⊢
        have : n' = n := by simpa [Lit.sameKey] using q1
        subst this
        have : y = x := nodup_inj (by rw [hk]; exact nodup_enc hn) hy hx (h2.trans hxn.symm)
        rw [this]
      · rename_i hf
        exact absurd (List.find?_eq_none.1 hf _ hmem) (by simp [Lit.sameKey])
    unfold pv
    rw [hat]
/-- The interval at a key. -/
def atN (ns : List Int) (ps : List Sp) (n : Int) : Sp := match ns, ps with
  | m :: ns, p :: ps => if m = n then p else atN ns ps n
  | _, _ => (0, 0, 0, 0)
theorem atN_map : ∀ {ns : List Int} {ps : List Sp}, ns.Nodup → ns.length = ps.length → ns.map (atN ns ps) = ps
  | [], [], _, _ => rfl
  | [], _ :: _, _, h => by cases h
  | _ :: _, [], _, h => by cases h
  | n :: ns, p :: ps, hn, hl => by
    obtain ⟨h1, h2⟩ := List.nodup_cons.1 hn
    show atN (n :: ns) (p :: ps) n :: ns.map (atN (n :: ns) (p :: ps)) = _
    have e1 : atN (n :: ns) (p :: ps) n = p := by show (if n = n then p else _) = p; rw [if_pos rfl]
    have e2 : ns.map (atN (n :: ns) (p :: ps)) = ns.map (atN ns ps) := List.map_congr_left fun m hm => by
      show (if n = m then p else atN ns ps m) = _
      rw [if_neg (fun e : n = m => h1 (e ▸ hm))]
    rw [e1, e2, atN_map h2 (by simpa using hl)]
theorem sortedIn_pw {L : List Sp} [Inhabited (Of L)] {d : Array (Of L)} (h : SortedIn (ltOf cfO) 0 d.size d) : (d.toList.map (·.1)).Pairwise fun p q => ¬ cfS q p < 0 := by
  rw [List.pairwise_map, List.pairwise_iff_getElem]
  intro i j hi hj hij
  have hi' : i < d.size := by simpa using hi
  have hj' : j < d.size := by simpa using hj
  have := h i j (Nat.zero_le _) hij hj'
  rw [getElem!_pos d j hj', getElem!_pos d i hi'] at this
  have this : decide (cfS d[j].1 d[i].1 < 0) = false := this
  simpa using of_decide_eq_false this
theorem permIn_all {α : Type} [Inhabited α] {d d' : Array α} (h : PermIn 0 d.size d d') : d'.toList.Perm d.toList := by
  obtain ⟨h1, _, h3⟩ := h
  rw [Array.extract_eq_self_of_le (by omega)] at h3
  rw [Array.extract_eq_self_of_le (Nat.le_refl _)] at h3
  exact h3
theorem has_mem {D : DataW Value} {x : Int} (h : has D (.int .i64 x) = true) : x ∈ intKeys D := by
  cases D <;> first | (cases h; done) | skip
  rename_i es
  rw [has_eq, List.any_eq_true] at h
  obtain ⟨p, hp, hs⟩ := h
  refine List.mem_map.2 ⟨p, hp, ?_⟩
  obtain ⟨k, d⟩ := p
  cases k <;> simp [Lit.sameKey] at hs
  rw [hs.2]
  rfl
theorem mapV_eq : ∀ l : List (Int × Int × V), mapV l = l.map (·.2.2)
  | [] => rfl
  | x :: l => congrArg (x.2.2 :: ·) (mapV_eq l)
theorem vrs_map {g : G} : ∀ {S : List (Sp × V)}, (∀ t ∈ S, VR g t.2 (encS t.1)) → VRs g ((S.map prT).map (·.2.2)) (S.map fun t => encS t.1)
  | [], _ => .nil
  | t :: S, h => .cons (h t List.mem_cons_self) (vrs_map fun u hu => h u (List.mem_cons_of_mem _ hu))
theorem map_vr {g : G} {id : Nat} {u : Value} (h : VR g (.map id) u) : ∃ b o z, u = .map (some b) ∧ g id = some (b, o, z) := by
  cases h with
  | map hg => exact ⟨_, _, _, rfl, hg⟩
set_option maxRecDepth 100000 in
theorem assign_ok : PrimOf 178 assignP := by
  intro vs h v h' e g w us r hG hv
  obtain ⟨x, rfl, e⟩ := one_inv e
  obtain ⟨c, o, rfl, e⟩ := asPtr_inv e
  obtain ⟨l, e1, e⟩ := ob_some.1 e
  obtain ⟨mv, rfl, e⟩ := one_inv e
  obtain ⟨id, rfl, e⟩ := asMap_inv e
  obtain ⟨hord, e⟩ := oif_some.1 e
  obtain ⟨es, e2, e⟩ := ob_some.1 e
  obtain ⟨hkeys, e⟩ := oif_some.1 e
  obtain ⟨ks, e3, e⟩ := ob_some.1 e
  obtain ⟨hstr, e⟩ := oif_some.1 e
  obtain ⟨h1, e4, e⟩ := ob_some.1 e
  obtain ⟨q, e5, e⟩ := ob_some.1 e
  obtain ⟨xx, f2, h2⟩ := q
  obtain _ | ⟨hp, _ | _⟩ := hv
  cases hp with
  | ptr hg =>
  rename_i b oo z
  obtain ⟨um, m1, _, m3, _⟩ := rd_ok r hg e1
  obtain _ | ⟨p1, _ | _⟩ := m1
  obtain ⟨mb, mo, mz, rfl, hgm⟩ := map_vr p1
  have hm : w.cell? ⟨b, oo + o + 3, none⟩ = some (.map (some mb)) := by
    have := m3 0 _ rfl
    rwa [show oo + Nat.add o 3 + 0 = oo + o + 3 by show oo + (o + 3) + 0 = _; omega] at this
  obtain ⟨od, k1, k2⟩ := H.entries_some e2
  rw [k2] at hord
  subst hord
  obtain ⟨b', o3, z3, m, ck, j1, j2, ⟨jk, jv⟩, j4⟩ := r.blk id _ _ hgm k1
  rw [hgm] at j1
  cases j1
  unfold keysOk at hkeys
  cases hns : mapO (fun e : V × V => keyN e.1) es with
  | none => rw [hns] at hkeys; cases hkeys
  | some ns =>
  rw [hns] at hkeys
  obtain ⟨n1, n2⟩ := tt2_and.1 (show tt2 (nodI ns) (tt2 (Nat.blt 0 (lenL ns)) (Nat.blt (lenL ns) 1000000)) = true from hkeys)
  obtain ⟨n2, n3⟩ := tt2_and.1 n2
  rw [lenL_eq] at n2 n3
  have n2 : 0 < ns.length := by simpa using n2
  have n3 : ns.length < 1000000 := by simpa using n3
  have n1 := nodI_ok n1
  obtain ⟨kk1, kk2⟩ := keysN_ok hns jk
  obtain ⟨T, S, t1, t2, t3, t4⟩ := spans_ok r jv e3
  obtain ⟨D0, d1, d2, d3, d4⟩ := own_of j2 kk1 (j4 rfl) n1 n3 kk2 (fun x hx => by
    have : x.val ∈ m.toList.map (·.val) := List.mem_map.2 ⟨x, hx, rfl⟩
    rw [t1] at this
    obtain ⟨t, _, ht⟩ := List.mem_map.1 this
    rw [← ht]
    rfl)
  have lk1 : m.toList.length = ns.length := by have := congrArg List.length kk1; simpa using this
  have lT : T.length = ns.length := by have := congrArg List.length t1; simp at this; rw [← lk1]; simpa using this.symm
  have lS : S.length = ns.length := by rw [t3.length_eq, lT]
  have hsp : ns.map (atN ns (T.map (·.1))) = T.map (·.1) := atN_map n1 (by rw [List.length_map, lT])
  have hat : ∀ n ∈ ns, pv D0 n = encS (atN ns (T.map (·.1)) n) ∧ atN ns (T.map (·.1)) n ∈ T.map (·.1) := fun n hn => by
    refine ⟨?_, (congrArg (fun l : List Sp => atN ns (T.map (·.1)) n ∈ l) hsp).mp (List.mem_map.2 ⟨n, hn, rfl⟩)⟩
    obtain ⟨i, hi⟩ := List.mem_iff_getElem?.1 hn
    have hlt := (List.getElem?_eq_some_iff.1 hi).1
    obtain ⟨y, hy⟩ : ∃ y, m.toList[i]? = some y := ⟨_, List.getElem?_eq_getElem (by omega)⟩
    have q1 : (m.toList.map (·.key))[i]? = some y.key := by rw [List.getElem?_map, hy]; rfl
    rw [kk1, List.getElem?_map, hi] at q1
    have q1 : Value.int .i64 n = y.key := Option.some.inj q1
    have q2 : (m.toList.map (·.val))[i]? = some y.val := by rw [List.getElem?_map, hy]; rfl
    rw [t1, List.getElem?_map] at q2
    have q3 : (T.map (·.1))[i]? = some (atN ns (T.map (·.1)) n) := (congrArg (fun l : List Sp => l[i]?) hsp).symm.trans (by rw [List.getElem?_map, hi]; rfl)
    rw [List.getElem?_map] at q3
    cases hT : T[i]? with
    | none => rw [hT] at q3; cases q3
    | some t =>
      rw [hT] at q2 q3
      have q2 : encS t.1 = y.val := Option.some.inj q2
      have q3 : t.1 = atN ns (T.map (·.1)) n := Option.some.inj q3
      rw [d4 y (List.mem_of_getElem? hy) n q1.symm, ← q2, q3]
  have hstr2 := strK_ok hstr
  rw [t2, List.pairwise_map] at hstr2
  have hms : (S.map (·.1)).Pairwise fun p q => cfS p q < 0 := List.pairwise_map.2 (hstr2.imp fun {a b} hh => by
    rw [cndK_iff] at hh
    rw [cfS_lt]
    exact hh)
  have hV : VRs g (mapV ks) (S.map fun t => encS t.1) := by
    rw [mapV_eq, t2]
    exact vrs_map fun t ht => (t4 t (t3.mem_iff.1 ht)).2
  have lV : (mapV ks).length = ns.length := by rw [hV.length, List.length_map, lS]
  obtain ⟨va, vt, hvl⟩ : ∃ a t, mapV ks = a :: t := by
    cases hq : mapV ks with
    | nil => rw [hq] at lV; simp at lV; omega
    | cons a t => exact ⟨a, t, rfl⟩
  obtain ⟨code, c1, c2⟩ := ob_some.1 (show ob Tryz.f178.body _ = some cf178 from cf178_ok)
  obtain ⟨c3, c4⟩ := oif_some.1 c2
  obtain ⟨cc, c5, c6⟩ := ob_some.1 c4
  obtain ⟨rs, c7, c8⟩ := ob_some.1 c6
  have c9 : cc = cf178.code ∧ rs = cf178.results := by
    have c8 : (some (CF.mk _ cc rs) : Option CF) = some cf178 := c8
    injection c8 with c8
    rw [← c8]
    exact ⟨rfl, rfl⟩
  obtain ⟨rfl, rfl⟩ := c9
  have c5' : ∃ m, comp TP m Tryz.f178.ntmps code = some cf178.code ∧ mapO (resC TP m) Tryz.f178.results.toList = some cf178.results := ⟨_, c5, c7⟩
  clear c5 c4 c2 c6 c8 c7
  obtain ⟨mk, c5, c7⟩ := c5'
  have hrest : comp TP mk Tryz.f178.ntmps restA = some (rest 3 cf178.code) := by
    have s1 : isSeq cf178.code = true := by kernel_rfl
    have s2 : isSeq (rgt cf178.code) = true := by kernel_rfl
    have s3 : isSeq (rgt (rgt cf178.code)) = true := by kernel_rfl
    rw [isSeq_eq s1] at c5
    obtain ⟨y1, y2, rfl, _, c5⟩ := comp_seq_of c5
    rw [isSeq_eq s2] at c5
    obtain ⟨y3, y4, rfl, _, c5⟩ := comp_seq_of c5
    rw [isSeq_eq s3] at c5
    obtain ⟨y5, y6, rfl, _, c5⟩ := comp_seq_of c5
    have : restA = y6 := by unfold restA; rw [c1]
    rw [this]
    exact c5
  refine ⟨_, Tryz.func178, beq_eq_false_iff_ne.1 (by decide), rfl, ?_⟩
  refine asg_start (T.map (·.1)) (atN ns (T.map (·.1))) b (oo + o) mb m.size D0 w hm d1 (by omega) (by omega) (fun p hp => ?_) (fun x hx => ?_) ?_
  · obtain ⟨t, ht, rfl⟩ := List.mem_map.1 hp
    exact (t4 t ht).1
  · obtain ⟨q1, q2⟩ := hat x (d2.mem_iff.1 (has_mem hx))
    exact ⟨q2, q1⟩
  intro act w' gb cap cur ss d d' inh a1 a2 a3 a4 g1 g2 g3 g4 g5 g6 s1 s2 s3 s4
  have hst : Still w w' := ⟨g1.size, fun b hb => g1.block b hb (by simp), g1.os, g1.tape, g1.output⟩
  have hys : d'.toList.map (·.1) = S.map (·.1) := by
    refine sorted_eq ?_ (sortedIn_pw (by rw [s3.1]; exact s4)) hms
    refine ((permIn_all s3).map _).trans ?_
    rw [s2]
    refine ((s1.trans d2).map _).trans ?_
    rw [hsp]
    exact (t3.map _).symm
  have hld : d'.size = (mapV ks).length := by
    have := congrArg List.length hys
    simp at this
    rw [this, lS, lV]
  have hcur : cur.toList.take d'.size = S.map fun t => encS t.1 := by
    rw [g6]
    have : d'.toList.map encO = (d'.toList.map (·.1)).map encS := by rw [List.map_map]; rfl
    rw [this, hys, List.map_map]
    rfl
  obtain ⟨u1, e4⟩ := oif_some.1 (show oif (allOne (mapV ks)) _ = some h1 from e4)
  obtain ⟨u2, e4⟩ := oif_some.1 e4
  have u2 : lenL (mapV ks) < keys := by simpa using u2
  rw [lenL_eq] at u2
  have hnone : g h.next = none := by
    cases q : g h.next with
    | none => rfl
    | some y => exact absurd (r.dom _ _ q) (by omega)
  have hle := gput_le (gb, 0, cap) hnone
  have hgbl : gb < w'.heap.size := (Array.getElem?_eq_some_iff.1 g3).1
  have x1 : Ext TP g h w (gput g h.next (gb, 0, cap)) h1 w' := by
    refine Ext.newAt r hst g2 hgbl e4 (.inr rfl) ⟨gb, 0, cap, cur, 428, gput_same _ _ _, g3, by omega, by rw [lenL_eq]; omega, by rw [lenL_eq]; omega, fun j v hj hv => ?_⟩
    rw [lenL_eq] at hj
    rw [trOf_get (mapV ks) 0 _ j (by omega)] at hv
    rw [if_pos (by omega)] at hv
    simp only [Nat.sub_zero] at hv
    obtain ⟨u, v1, v2⟩ := (hV.mono hle).get hv
    refine ⟨u, ?_, v2, allOne_mem u1 v (List.mem_of_getElem? hv)⟩
    rw [← hcur, List.getElem?_take_of_lt (by omega)] at v1
    rw [Nat.zero_add, ← Array.getElem?_toList]
    exact v1
  have hF : FR (gput g h.next (gb, 0, cap)) mk Tryz.f178.ntmps ⟨[(0, .ptr c o), (2, caseL (mapV ks) .nils fun _ _ => .sl h.next 0 (lenL (mapV ks)) 0 false 1)], []⟩ act.tmps := by
    refine ⟨a2, fun t y ht => ?_⟩
    unfold rdn at ht
    split at ht
    · have ht : (if 0 = t then some (V.ptr c o) else if 2 = t then some (caseL (mapV ks) V.nils fun _ _ => V.sl h.next 0 (lenL (mapV ks)) 0 false 1) else none) = some y := by
        rw [← ht, lk_cons, lk_cons]
        rfl
      split at ht
      · rename_i q
        subst q
        cases ht
        exact ⟨_, a3, .ptr (hle _ _ hg)⟩
      · split at ht
        · rename_i q
          subst q
          cases ht
          refine ⟨_, a4, ?_⟩
          rw [hvl]
          show VR _ (.sl h.next 0 (lenL (va :: vt)) 0 false 1) _
          rw [← hvl, lenL_eq, ← hld]
          exact .sli (off := 0) (gput_same _ _ _) (by omega) g5
        · cases ht
    · cases ht
  have hex := exec_ok (D := []) tyOk (callS_ok .nil 300) mixed 1000000 none restA _ hrest _ _ _ _ _ e5 (gput g h.next (gb, 0, cap)) act w' w.heap.size x1.wr (hG.ext x1) hF (fun _ => by rw [a1]; exact .nil) g1.size
  refine wpIn_mono hex ?_
  rintro ee a' w2 ⟨g', y1, y2, y3, y4⟩
  have leave : v = .tup [] → h' = h2 → LeavesInM Fence.wide 0 Tryz.prog Tryz.f178 a'.tmps (Post TP g h w v h') a'.defers .returning w2 := by
    rintro rfl rfl
    obtain ⟨ms, p1, p2, p3⟩ := y3 rfl
    rw [p1, List.append_nil]
    exact leaves_ok p2 p3 (x1.trans y1) fun w3 hw3 => results_ok tyOk y2 hw3 c7 (vs := []) (by kernel_rfl)
  cases xx with
  | exit j => cases e
  | norm =>
    cases e
    rw [y4.norm_inv]
    exact leave rfl rfl
  | ret =>
    cases e
    cases ee <;> first | (cases y4; done) | skip
    exact leave rfl rfl
end Ev
end Go.Proofs.YtihflniehaaakaaGreatDoor
