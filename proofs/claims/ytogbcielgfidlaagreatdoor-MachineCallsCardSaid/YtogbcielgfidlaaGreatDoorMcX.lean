/-
  Worlds that part from a known one in some blocks, and in new ones.
-/
import Derived.Test.YtogbcielgfidlaaGreatDoorEvTree
import Derived.WalkKit
import Derived.LoopTactic
import Derived.Laws.Bits64b
import Derived.Test.YtogbcielgfidlaaGreatDoorProg
import Derived.Test.YtogbcielgfidlaaGreatDoorMcPrim1
import Derived.Test.YtogbcielgfidlaaGreatDoorMcStage
namespace Go.Proofs.YtogbcielgfidlaaGreatDoor
set_option linter.unusedVariables false
set_option linter.unusedSimpArgs false
namespace Ev
variable [Opq]
set_option linter.unusedSectionVars false
/-- A new block on the one side, which has come to be on the other. -/
theorem Ext.newAt {T : Ty} {g : G} {h h' : H} {w w' : World} (r : WR T g h w) (k : Still w w') {b : Blk} {gb po z : Nat} (h1 : w.heap.size ≤ gb) (h2 : gb < w'.heap.size) (hn : h.new b = some h') (hb : b.kin = none ∨ b.kin = some (none, false))
    (hr : BR T (gput g h.next (gb, po, z)) w' h.next b) : Ext T g h w (gput g h.next (gb, po, z)) h' w' := by
  obtain ⟨r1, e1, e2, e3⟩ := r.add hn hb
  have b1 : h'.blk h.next = some b := by rw [e2, if_pos rfl]
  have le := gput_le (gb, po, z) e3
  have cases' : ∀ {i : Nat} {x : Nat × Nat × Nat}, gput g h.next (gb, po, z) i = some x → (i = h.next ∧ x = (gb, po, z)) ∨ (i ≠ h.next ∧ g i = some x) := by
    intro i x e
    by_cases h1 : i = h.next
    · subst h1; rw [gput_same] at e; exact .inl ⟨rfl, (Option.some.inj e).symm⟩
    · rw [gput_ne _ h1] at e; exact .inr ⟨h1, e⟩
  have r2 : WR T (gput g h.next (gb, po, z)) h' w' := by
    refine ⟨r1.bound, r1.top, fun i x e => ?_, fun i b' o' z' e => ?_, fun i x k' e1' e2' => ?_, fun i j b' o1 z1 o2 z2 bi bj hij e1' e2' e3' e4' l1 l2 => ?_, fun i q j d ch e1' e2' => ?_, r1.ext⟩
    · rcases cases' e with ⟨rfl, _⟩ | ⟨_, e⟩
      · omega
      · exact r1.dom _ _ e
    · rcases cases' e with ⟨_, e⟩ | ⟨_, e⟩
      · cases e; exact h2
      · exact Nat.lt_of_lt_of_le (r.lt _ _ _ _ e) k.size
    · rcases cases' e1' with ⟨rfl, rfl⟩ | ⟨_, e⟩
      · rw [b1] at e2'; obtain rfl := Option.some.inj e2'; exact hr
      · obtain ⟨b', o', z'⟩ := x
        exact BR.move e1' (k.keep _ (r.lt _ _ _ _ e)) ((r1.blk _ _ _ e e2').mono le)
    · rcases cases' e1' with ⟨rfl, x1⟩ | ⟨_, k1⟩ <;> rcases cases' e2' with ⟨rfl, x2⟩ | ⟨_, k2⟩
      · exact absurd rfl hij
      · cases x1; have := r.lt _ _ _ _ k2; omega
      · cases x2; have := r.lt _ _ _ _ k1; omega
      · exact r1.mates i j b' o1 z1 o2 z2 bi bj hij k1 k2 e3' e4' l1 l2
    · obtain ⟨b', up, k1, k2, k3⟩ := r1.kids i q j d ch e1' e2'
      refine ⟨b', up, k1, k2, fun h1' => ?_⟩
      have : i ≠ h.next := by
        intro h2'
        subst h2'
        rw [b1] at e1'
        cases e1'
        rcases hb with h | h <;> rw [h] at e2' <;> cases e2'
      rw [gput_ne _ this] at h1'
      intro h3
      by_cases h4 : j = h.next
      · subst h4; exact k3 h1' e3
      · rw [gput_ne _ h4] at h3; exact k3 h1' h3
  refine ⟨le, by omega, r2, fun id hi e => ⟨by rw [gput_ne _ (by omega)]; exact e, by rw [e2, if_neg (by omega)]⟩, k.size, fun b hb _ => k.keep b hb, fun id k' o' z' e e0 => ?_, fun id b' o' z' n cs e hb' => ⟨by rw [e2, if_neg (by have := r.dom _ _ e; omega)]; exact hb', k.keep _ (r.lt _ _ _ _ e)⟩, k.os, k.tape, k.output⟩
  by_cases h5 : id = h.next
  · subst h5; rw [gput_same] at e; cases e; exact .inl h1
  · rw [gput_ne _ h5, e0] at e; cases e
/-- A block without kin of its own is replaced. -/
theorem Ext.swap {T : Ty} {g : G} {h : H} {w w' : World} (r : WR T g h w) {id b o z : Nat} {k k' : Blk} (e1 : g id = some (b, o, z)) (e2 : h.blk id = some k) (l : k.live = true)
    (hk : k.kin = some (none, false)) (hk' : k'.kin = some (none, false)) (hro : ∀ n cs, k ≠ .ro n cs) (hw : ∀ j, j ≠ b → w'.heap[j]? = w.heap[j]?) (hs : w'.heap.size = w.heap.size) (ho : w'.os = w.os) (ht : w'.tape = w.tape) (hp : w'.output = w.output)
    (hr : BR T g w' id k') : Ext T g h w g ⟨h.t.put id (some k'), h.next⟩ w' := by
  have notRo : k.isRo = false := by
    cases k with
    | ro n cs => exact absurd rfl (hro n cs)
    | _ => rfl
  have hi : id < keys := Nat.lt_of_lt_of_le (r.dom _ _ e1) r.bound
  have hblk : ∀ j, (⟨h.t.put id (some k'), h.next⟩ : H).blk j = if j = id then some k' else h.blk j := fun j => blk_put h id j _ k' hi
  have kin : Kin h ⟨h.t.put id (some k'), h.next⟩ := fun i b' q e q' => by
    by_cases h1 : i = id
    · subst h1
      rw [e2] at e
      obtain rfl := Option.some.inj e
      rw [hk] at q'
      cases q'
      exact ⟨k', by rw [hblk, if_pos rfl], hk'⟩
    · exact ⟨b', by rw [hblk, if_neg h1]; exact e, q'⟩
  have old : ∀ {i : Nat} {q : Blk}, (⟨h.t.put id (some k'), h.next⟩ : H).blk i = some q → q.live = true → ∃ q', h.blk i = some q' ∧ q'.live = true := by
    intro i q e lq
    rw [hblk] at e
    by_cases h1 : i = id
    · subst h1; exact ⟨k, e2, l⟩
    · rw [if_neg h1] at e; exact ⟨q, e, lq⟩
  have wr : WR T g ⟨h.t.put id (some k'), h.next⟩ w' := by
    refine ⟨r.bound, fun i q e => ?_, r.dom, fun i b' o' z' e => by rw [hs]; exact r.lt _ _ _ _ e, fun i x q e3 e4 => ?_, fun i j b' o1 z1 o2 z2 bi bj hij e3 e4 e5 e6 l1 l2 => ?_, fun i q j d ch e3 e4 => ?_, fun i q j d ch q' e3 e4 e5 => ?_⟩
    · rw [hblk] at e
      by_cases h1 : i = id
      · subst h1; exact r.dom _ _ e1
      · rw [if_neg h1] at e; exact r.top _ _ e
    · rw [hblk] at e4
      by_cases h1 : i = id
      · subst h1; rw [if_pos rfl] at e4; obtain rfl := Option.some.inj e4; exact hr
      · rw [if_neg h1] at e4
        obtain ⟨b', o', z'⟩ := x
        by_cases hb : b' = b
        · subst hb
          cases lq : q.live with
          | true => exact (r.lone (fun h2 => h1 h2.symm) e1 e3 e2 e4 l lq (.inr hk) (.inl notRo)).elim
          | false => cases q <;> first | trivial | cases lq
        · exact BR.move e3 (hw _ hb) (r.blk _ _ _ e3 e4)
    · obtain ⟨q1, m1, m2⟩ := old e5 l1
      obtain ⟨q2, m3, m4⟩ := old e6 l2
      rcases r.mates i j b' o1 z1 o2 z2 q1 q2 hij e3 e4 m1 m3 m2 m4 with ⟨d, u, e⟩ | ⟨d, u, e⟩ | ⟨x1, x2⟩
      · exact .inl ⟨d, u.kin kin, e⟩
      · exact .inr (.inl ⟨d, u.kin kin, e⟩)
      · have ne : ∀ {l : Nat} {q q' : Blk}, h.blk l = some q → q.isRo = true → (⟨h.t.put id (some k'), h.next⟩ : H).blk l = some q' → q'.isRo = true := by
          intro l q q' f1 f2 f3
          rw [hblk] at f3
          by_cases h1 : l = id
          · subst h1
            rw [e2] at f1
            cases f1
            rw [notRo] at f2
            cases f2
          · rw [if_neg h1, f1] at f3
            cases f3
            exact f2
        exact .inr (.inr ⟨ne m1 x1 e5, ne m3 x2 e6⟩)
    · rw [hblk] at e3
      by_cases h1 : i = id
      · subst h1; rw [if_pos rfl] at e3; obtain rfl := Option.some.inj e3; rw [hk'] at e4; cases e4
      · rw [if_neg h1] at e3
        obtain ⟨b', up, m1, m2, m0⟩ := r.kids i q j d ch e3 e4
        obtain ⟨b'', m3, m4⟩ := kin _ _ _ m1 m2
        exact ⟨b'', up, m3, m4, m0⟩
    · rw [hblk] at e3
      by_cases h1 : i = id
      · subst h1; rw [if_pos rfl] at e3; obtain rfl := Option.some.inj e3; rw [hk'] at e4; cases e4
      · rw [if_neg h1] at e3
        rw [hblk] at e5
        by_cases h2 : j = id
        · subst h2
          obtain ⟨b', up, m1, m2, _⟩ := r.kids i q j d ch e3 e4
          rw [e2] at m1; obtain rfl := Option.some.inj m1; rw [hk] at m2; cases m2
        · rw [if_neg h2] at e5
          exact r.ext i q j d ch q' e3 e4 e5
  refine ⟨g.le_refl, Nat.le_refl _, wr, fun i h1 e => ⟨e, ?_⟩, Nat.le_of_eq hs.symm, fun j _ hn => hw j fun h1 => hn id o z (h1 ▸ e1), (fun i b' o' z' h1 h2 => by rw [h2] at h1; cases h1), fun i b' o' z' n cs e e' => ⟨?_, hw b' fun h1 => ?_⟩, ho, ht, hp⟩
  · rw [hblk, if_neg]
    intro h2; subst h2; rw [e1] at e; cases e
  · rw [hblk, if_neg]
    · exact e'
    · intro h2; subst h2; rw [e2] at e'; exact hro n cs (Option.some.inj e')
  · subst h1
    by_cases h2 : i = id
    · subst h2; rw [e2] at e'; exact hro n cs (Option.some.inj e')
    · exact r.lone (fun h3 => h2 h3.symm) e1 e e2 e' l rfl (.inr hk) (.inl notRo)
end Ev
end Go.Proofs.YtogbcielgfidlaaGreatDoor
namespace Go.Proofs.YtogbcielgfidlaaGreatDoor
set_option linter.unusedVariables false
set_option linter.unusedSimpArgs false
set_option linter.unusedSimpArgs false
set_option linter.unusedVariables false
open Go.RowKit
theorem and3 (n : Nat) (h : n ≤ 10000) : bits BinOp.and IntKind.u64 ((n : Int) * 16 + 3) 3 = 3 := by
  have := bits_and_u64_nat (n * 16 + 3) 3 (by omega) (by omega)
  rw [show (n * 16 + 3) &&& 3 = 3 by rw [show (3 : Nat) = 2 ^ 2 - 1 from rfl, Nat.and_two_pow_sub_one_eq_mod]; omega] at this
  simpa using this
theorem and15 (n : Nat) (h : n ≤ 10000) : bits BinOp.and IntKind.u64 ((n : Int) * 16 + 3) 15 = 3 := by
  have := bits_and_u64_nat (n * 16 + 3) 15 (by omega) (by omega)
  rw [show (n * 16 + 3) &&& 15 = 3 by rw [show (15 : Nat) = 2 ^ 4 - 1 from rfl, Nat.and_two_pow_sub_one_eq_mod]; omega] at this
  simpa using this
theorem or3 (n : Nat) (h : n ≤ 10000) : bits BinOp.or IntKind.u64 ((n : Int) * 16) 3 = (n : Int) * 16 + 3 := by
  have := bits_or_u64_nat (n * 16) 3 (by omega) (by omega)
  rw [show (n * 16) ||| 3 = n * 16 + 3 by rw [Nat.mul_comm]; exact (Nat.two_pow_add_eq_or_of_lt (i := 4) (b := 3) (by omega) n).symm] at this
  simpa using this
variable (n : Nat) (h : n ≤ 10000) (w : World)
include h
theorem tag_w : Calls Tryz.prog 155 #[.int .u64 ((n : Int) * 16 + 3)] w fun e w' => e = .returned (.int .i64 3) ∧ w' = w := by
  have a3 := and3 n h
  go_enter Tryz.func155, Tryz.ntmps155
  go_wp2
  go_ret
  exact ⟨by simp [a3], rfl⟩
theorem low_w : Calls Tryz.prog 227 #[.int .u64 ((n : Int) * 16 + 3)] w fun e w' => e = .returned (.int .i64 3) ∧ w' = w := by
  have a15 := and15 n h
  go_enter Tryz.func227, Tryz.ntmps227
  go_wp2
  go_ret
  exact ⟨by simp [a15], rfl⟩
theorem small_w : Calls Tryz.prog 269 #[.int .i64 n] w fun e w' => e = .returned (.tuple #[.int .u64 ((n : Int) * 16 + 3), .bool true]) ∧ w' = w := by
  have o3 := or3 n h
  go_enter Tryz.func269, Tryz.ntmps269
  go_wp2
  go_ret2
  exact ⟨by simp [o3], rfl⟩
theorem smallOf_w : Calls Tryz.prog 150 #[.int .u64 ((n : Int) * 16 + 3)] w fun e w' => e = .returned (.tuple #[.int .i64 n, .bool true]) ∧ w' = w := by
  have c := low_w n h w
  go_enter Tryz.func150, Tryz.ntmps150
  go_wp2_with (go_at_call 227; refine c.mono ?_; rintro e w' ⟨rfl, rfl⟩)
  have e : ((n : Int) * 16 + 3) / 16 = n := by omega
  go_ret2
  exact ⟨by simp [e], rfl⟩
theorem atomOf_w : Calls Tryz.prog 151 #[.int .u64 ((n : Int) * 16 + 3)] w fun e w' => e = .returned (.tuple #[.int .i64 0, .bool false]) ∧ w' = w := by
  have c := low_w n h w
  go_enter Tryz.func151, Tryz.ntmps151
  go_wp2_with (go_at_call 227; refine c.mono ?_; rintro e w' ⟨rfl, rfl⟩)
  go_ret2
  exact ⟨rfl, rfl⟩
theorem pointer_w : Calls Tryz.prog 152 #[.int .u64 ((n : Int) * 16 + 3)] w fun e w' => e = .returned (.tuple #[.bool false, .int .i64 0, .bool false]) ∧ w' = w := by
  have c := tag_w n h w
  go_enter Tryz.func152, Tryz.ntmps152
  go_wp2_with (go_at_call 155; refine c.mono ?_; rintro e w' ⟨rfl, rfl⟩)
  go_ret3
  exact ⟨rfl, rfl⟩
theorem headerOf_w : Calls Tryz.prog 228 #[.int .u64 ((n : Int) * 16 + 3)] w fun e w' => e = .returned (.tuple #[.int .i64 0, .int .i64 0, .bool false]) ∧ w' = w := by
  have c := tag_w n h w
  go_enter Tryz.func228, Tryz.ntmps228
  go_wp2_with (go_at_call 155; refine c.mono ?_; rintro e w' ⟨rfl, rfl⟩)
  go_ret3
  exact ⟨rfl, rfl⟩
omit h in
theorem nil_w : Calls Tryz.prog 30 #[] w fun e w' => e = .returned (.int .u64 11) ∧ w' = w := by
  go_enter Tryz.func30, Tryz.ntmps30
  go_wp2
  go_ret
  exact ⟨rfl, rfl⟩
theorem valid_w : Calls Tryz.prog 294 #[.int .u64 ((n : Int) * 16 + 3)] w fun e w' => e = .returned (.bool true) ∧ w' = w := by
  have c0 := nil_w w
  have c1 := smallOf_w n h w
  have c2 := atomOf_w n h w
  have c3 := pointer_w n h w
  have c4 := headerOf_w n h w
  go_enter Tryz.func294, Tryz.ntmps294
  go_wp2_with (first
    | (go_at_call 30; refine c0.mono ?_; rintro e w' ⟨rfl, rfl⟩)
    | (go_at_call 150; refine c1.mono ?_; rintro e w' ⟨rfl, rfl⟩)
    | (go_at_call 151; refine c2.mono ?_; rintro e w' ⟨rfl, rfl⟩)
    | (go_at_call 152; refine c3.mono ?_; rintro e w' ⟨rfl, rfl⟩)
    | (go_at_call 228; refine c4.mono ?_; rintro e w' ⟨rfl, rfl⟩))
  go_ret
  exact ⟨by simp, rfl⟩
end Go.Proofs.YtogbcielgfidlaaGreatDoor
namespace Go.Proofs.YtogbcielgfidlaaGreatDoor
set_option linter.unusedVariables false
set_option linter.unusedSimpArgs false
set_option linter.unusedSimpArgs false
set_option linter.unusedVariables false
open Go.RowKit
theorem nan_w (k : Int) (w : World) : Calls Tryz.prog 311 #[.int .i64 k] w fun e w' => e = .returned (.bool false) ∧ w' = w := by
  go_enter Tryz.func311, Tryz.ntmps311
  go_wp2
  go_ret
  exact ⟨by simp, rfl⟩
theorem nan2_w (k : Int) (w : World) : Calls Tryz.prog 307 #[.int .i64 k] w fun e w' => e = .returned (.bool false) ∧ w' = w := by
  go_enter Tryz.func307, Tryz.ntmps307
  go_wp2
  go_ret
  exact ⟨by simp, rfl⟩
/-- A number taken into so many. -/
def pick (n m : Int) : Int := if n.tmod m < 0 then n.tmod m + m else n.tmod m
theorem pick_le (n m : Int) (h : 0 < m) : 0 ≤ pick n m ∧ pick n m < m := by
  have h1 := Int.lt_tmod_of_pos n h
  have h2 := Int.tmod_lt_of_pos n h
  unfold pick
  split <;> omega
theorem pick_w (n m : Int) (h : 0 < m) (h1 : m ≤ 10000) (w : World) : Calls Tryz.prog 7 #[.int .i64 n, .int .i64 m] w fun e w' => e = .returned (.int .i64 (pick n m)) ∧ w' = w := by
  have k1 := Int.lt_tmod_of_pos n h
  have k2 := Int.tmod_lt_of_pos n h
  go_enter Tryz.func7, Tryz.ntmps7
  go_wp2
  all_goals
    go_ret
    refine ⟨?_, rfl⟩
    unfold pick
    split <;> first | rfl | omega
namespace Ev
variable [Opq]
set_option linter.unusedSectionVars false
/-- The numbers that stay open: how deep, which budget, the keeper's first size. -/
structure NumOk (d b F : Int) : Prop where
  v0 : Opq.val 0 = .int .i64 (pick d 800)
  v1 : Opq.val 1 = .int .i64 (pick b 1000)
  v2 : Opq.val 2 = .int .i64 F
  v10 : Opq.val 10 = .int .i64 d
  v11 : Opq.val 11 = .int .i64 b
noncomputable section
def sy (k : Nat) (l o : Int) : V := .func (.yield k) [.int .i64 l, .int .i64 o] []
def wd (k : Nat) (l o : Int) : V := .func (.yield k) [.int .i64 l, .int .i64 o, .nilp] []
/-- As the first says; else by a run. -/
def orRun (f : FuncId) (p : Prim) (vs : List V) (h : H) : Option (V × H) := Option.rec (motive := fun _ => Option (V × H)) (callS [] 30 (.fn f) vs h) some (p vs h)
def isWd (vs : List V) (r : Option (V × H)) : Option (V × H) := match vs with
  | [.func (.yield _) [.int .i64 _, .int .i64 _, .nilp] []] => r
  | _ => none
def tagP (vs : List V) (h : H) : Option (V × H) := isWd vs (some (.int .i64 3, h))
def validP (vs : List V) (h : H) : Option (V × H) := isWd vs (some (.bool true, h))
def atomP (vs : List V) (h : H) : Option (V × H) := isWd vs (some (.tup [.int .i64 0, .bool false], h))
def pointP (vs : List V) (h : H) : Option (V × H) := isWd vs (some (.tup [.bool false, .int .i64 0, .bool false], h))
def headP (vs : List V) (h : H) : Option (V × H) := isWd vs (some (.tup [.int .i64 0, .int .i64 0, .bool false], h))
def smallOfP (vs : List V) (h : H) : Option (V × H) := match vs with
  | [.func (.yield k) [.int .i64 l, .int .i64 o, .nilp] []] => some (.tup [sy k l o, .bool true], h)
  | _ => none
def smallP (vs : List V) (h : H) : Option (V × H) := match vs with
  | [.func (.yield k) [.int .i64 l, .int .i64 o] []] => oif (!ltI (Int.add l o) 0 && !ltI 5000 o) (some (.tup [wd k l o, .bool true], h))
  | _ => none
def nanP (vs : List V) (h : H) : Option (V × H) := match vs with
  | [.func (.yield _) [.int .i64 _, .int .i64 _] []] => some (.bool false, h)
  | _ => none
def pickP (vs : List V) (h : H) : Option (V × H) := match vs with
  | [.func (.yield k) [] [], .int .i64 m] => Bool.rec (motive := fun _ => Option (V × H)) (oif (Nat.beq k 11 && eqI m 1000) (some (sy 1 0 0, h))) (some (sy 0 0 0, h)) (Nat.beq k 10 && eqI m 800)
  | _ => none
end
theorem orRun_ok {f : FuncId} {p : Prim} (hp : PrimOf f p) : PrimOf f (orRun f p) := fun vs h v h' e g w us r hG hv => by
  unfold orRun at e
  cases hq : p vs h with
  | none => rw [hq] at e; exact (callS_ok .nil 30).fn f vs h v h' e g w us r hG hv
  | some q => rw [hq] at e; cases e; exact hp vs h v h' hq g w us r hG hv
theorem wd_inv {g : G} {k : Nat} {l o : Int} {u : Value} (h : VR g (.func (.yield k) [.int .i64 l, .int .i64 o, .nilp] []) u) : ∃ n : Nat, n ≤ 10000 ∧ u = .int .u64 ((n : Int) * 16 + 3) ∧ VR g (sy k l o) (.int .i64 n) := by
  cases h with
  | oqw hB h0 hl ht ho hs =>
    rename_i B
    refine ⟨(B + o).toNat, by omega, by rw [show ((B + o).toNat : Int) = B + o by omega], ?_⟩
    rw [show ((B + o).toNat : Int) = B + o by omega]
    exact .oqs hB h0 hl ht
theorem isWd_ok {f : FuncId} {fn : Func} (h1 : Tryz.prog.funcs[f]? = some fn) (h2 : (fn.name == "runtime.NumGoroutine") = false) (h3 : fn.body.isNone = false) {x : V} {u : Value} (hx : ∀ g : G, VR g x u)
    (c : ∀ (n : Nat) (_ : n ≤ 10000) (w : World), Calls Tryz.prog f #[.int .u64 ((n : Int) * 16 + 3)] w fun e w' => e = .returned u ∧ w' = w) : PrimOf f (fun vs h => isWd vs (some (x, h))) := fun vs h v h' e g w us r hG hv => by
  have e : isWd vs (some (x, h)) = some (v, h') := e
  unfold isWd at e
  split at e
  · cases e
    obtain _ | ⟨k1, _ | _⟩ := hv
    obtain ⟨n, hn, rfl, _⟩ := wd_inv k1
    exact prim_fn h1 h2 h3 (Calls.post r (hx g) (c n hn w))
  · cases e
theorem tag_ok : PrimOf 155 tagP := isWd_ok Tryz.func155 (by decide) rfl (fun _ => .int _ _) fun n hn w => tag_w n hn w
theorem low_ok : PrimOf 227 tagP := isWd_ok Tryz.func227 (by decide) rfl (fun _ => .int _ _) fun n hn w => low_w n hn w
theorem valid_ok : PrimOf 294 validP := isWd_ok Tryz.func294 (by decide) rfl (fun _ => .bool _) fun n hn w => valid_w n hn w
theorem atom_ok : PrimOf 151 atomP := isWd_ok Tryz.func151 (by decide) rfl (fun _ => .tup (.cons (.int _ _) (.cons (.bool _) .nil))) fun n hn w => atomOf_w n hn w
theorem point_ok : PrimOf 152 pointP := isWd_ok Tryz.func152 (by decide) rfl (fun _ => .tup (.cons (.bool _) (.cons (.int _ _) (.cons (.bool _) .nil)))) fun n hn w => pointer_w n hn w
theorem head_ok : PrimOf 228 headP := isWd_ok Tryz.func228 (by decide) rfl (fun _ => .tup (.cons (.int _ _) (.cons (.int _ _) (.cons (.bool _) .nil)))) fun n hn w => headerOf_w n hn w
theorem smallOf_ok : PrimOf 150 smallOfP := fun vs h v h' e g w us r hG hv => by
  unfold smallOfP at e
  split at e
  · cases e
    obtain _ | ⟨k1, _ | _⟩ := hv
    obtain ⟨n, hn, rfl, hs⟩ := wd_inv k1
    exact prim_fn Tryz.func150 (by decide) rfl (Calls.post r (.tup (.cons hs (.cons (.bool _) .nil))) (smallOf_w n hn w))
  · cases e
theorem small_ok : PrimOf 269 smallP := fun vs h v h' e g w us r hG hv => by
  unfold smallP at e
  split at e
  · rename_i k l o
    obtain ⟨e1, e2⟩ := oif_some.1 e
    cases e2
    rw [Bool.and_eq_true, ltI_eq, ltI_eq] at e1
    have q1 : ¬ l + o < 0 := by simpa using e1.1
    have q2 : ¬ 5000 < o := by simpa using e1.2
    obtain _ | ⟨k1, _ | _⟩ := hv
    obtain ⟨B, hB, h0, hl, ht, rfl⟩ := k1.oqs_inv
    have c := small_w (B + o).toNat (by omega) w
    rw [show ((B + o).toNat : Int) = B + o by omega] at c
    exact prim_fn Tryz.func269 (by decide) rfl (Calls.post r (.tup (.cons (.oqw hB h0 hl ht (by omega) (by omega)) (.cons (.bool _) .nil))) c)
  · cases e
theorem nan_ok : PrimOf 311 nanP := fun vs h v h' e g w us r hG hv => by
  unfold nanP at e
  split at e
  · cases e
    obtain _ | ⟨k1, _ | _⟩ := hv
    obtain ⟨B, hB, h0, hl, ht, rfl⟩ := k1.oqs_inv
    exact prim_fn Tryz.func311 (by decide) rfl (Calls.post r (.bool _) (nan_w _ w))
  · cases e
theorem nan2_ok : PrimOf 307 nanP := fun vs h v h' e g w us r hG hv => by
  unfold nanP at e
  split at e
  · cases e
    obtain _ | ⟨k1, _ | _⟩ := hv
    obtain ⟨B, hB, h0, hl, ht, rfl⟩ := k1.oqs_inv
    exact prim_fn Tryz.func307 (by decide) rfl (Calls.post r (.bool _) (nan2_w _ w))
  · cases e
theorem pick_ok {d b F : Int} (n : NumOk d b F) : PrimOf 7 pickP := fun vs h v h' e g w us r hG hv => by
  unfold pickP at e
  split at e
  · rename_i k m
    obtain _ | ⟨k1, _ | ⟨k2, _ | _⟩⟩ := hv
    rw [k2.int_inv]
    cases k1 with
    | opq hu =>
    cases hq : (Nat.beq k 10 && eqI m 800) with
    | true =>
      rw [hq] at e
      cases e
      rw [Bool.and_eq_true] at hq
      obtain rfl := Nat.eq_of_beq_eq_true hq.1
      obtain rfl := eI_eq hq.2
      rw [← hu, n.v10]
      have hp := pick_le d 800 (by decide)
      refine prim_fn Tryz.func7 (by decide) rfl (Calls.post r ?_ (pick_w d 800 (by decide) (by decide) w))
      have := @VR.oqs _ g 0 0 0 (pick d 800) n.v0 hp.1 hp.1 (by omega)
      rwa [Int.add_zero] at this
    | false =>
      rw [hq] at e
      obtain ⟨e1, e2⟩ := oif_some.1 (show oif (Nat.beq k 11 && eqI m 1000) (some (sy 1 0 0, h)) = some (v, h') from e)
      cases e2
      rw [Bool.and_eq_true] at e1
      obtain rfl := Nat.eq_of_beq_eq_true e1.1
      obtain rfl := eI_eq e1.2
      rw [← hu, n.v11]
      have hp := pick_le b 1000 (by decide)
      refine prim_fn Tryz.func7 (by decide) rfl (Calls.post r ?_ (pick_w b 1000 (by decide) (by decide) w))
      have := @VR.oqs _ g 1 0 0 (pick b 1000) n.v1 hp.1 hp.1 (by omega)
      rwa [Int.add_zero] at this
  · cases e
end Ev
end Go.Proofs.YtogbcielgfidlaaGreatDoor
