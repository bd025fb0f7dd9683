/-
  What is known more: the same memory in other words.
-/
import Derived.Test.YtogbcielgfidlaaGreatDoorMcS1
namespace Go.Proofs.YtogbcielgfidlaaGreatDoor
set_option linter.unusedVariables false
set_option linter.unusedSimpArgs false
set_option linter.unusedSectionVars false
namespace Ev
section
variable [Opq]
set_option linter.unusedSectionVars false
/-- What stands for the one stands for the other. -/
structure VI (x y : V) : Prop where
  vr : ∀ (g : G) (u : Value), VR g x u → VR g y u
  one : oneCell x = true → oneCell y = true
theorem VI.refl (x : V) : VI x x := ⟨fun _ _ h => h, fun h => h⟩
theorem vi_sy {k : Nat} {l l' o : Int} (h : ∀ B, Opq.val k = .int .i64 B → l' ≤ B) : VI (sy k l o) (sy k l' o) := ⟨fun g u hu => by
  obtain ⟨B, hB, h0, hl, ht, rfl⟩ := VR.oqs_inv hu
  exact .oqs hB h0 (h B hB) ht, fun _ => rfl⟩
theorem vi_syl {k : Nat} {l o c : Int} (h : ∀ B, Opq.val k = .int .i64 B → B + o = c) : VI (sy k l o) (.int .i64 c) := ⟨fun g u hu => by
  obtain ⟨B, hB, h0, hl, ht, rfl⟩ := VR.oqs_inv hu
  rw [h B hB]
  exact .int _ _, fun _ => rfl⟩
theorem vi_wd {k : Nat} {l l' o : Int} (h : ∀ B, Opq.val k = .int .i64 B → l' ≤ B) (ho : 0 ≤ l' + o) : VI (wd k l o) (wd k l' o) := ⟨fun g u hu => by
  obtain ⟨B, hB, h0, hl, ht, _, hs, rfl⟩ := oqw_inv hu
  exact .oqw hB h0 (h B hB) ht ho hs, fun _ => rfl⟩
theorem vi_wdl {k : Nat} {l o c : Int} (h : ∀ B, Opq.val k = .int .i64 B → (B + o) * 16 + 3 = c) : VI (wd k l o) (.int .u64 c) := ⟨fun g u hu => by
  obtain ⟨B, hB, h0, hl, ht, _, hs, rfl⟩ := oqw_inv hu
  rw [h B hB]
  exact .int _ _, fun _ => rfl⟩
inductive LI : List V → List V → Prop
  | nil : LI [] []
  | cons {x y : V} {l m : List V} : VI x y → LI l m → LI (x :: l) (y :: m)
theorem LI.refl : ∀ l, LI l l
  | [] => .nil
  | x :: l => .cons (.refl x) (LI.refl l)
theorem LI.same {x : V} {l m : List V} (h : LI l m) : LI (x :: l) (x :: m) := .cons (.refl x) h
theorem LI.app : ∀ (l : List V) {a b : List V}, LI a b → LI (l ++ a) (l ++ b)
  | [], _, _, h => h
  | x :: l, _, _, h => .cons (.refl x) (LI.app l h)
theorem LI.len {l m : List V} (h : LI l m) : l.length = m.length := by
  induction h with
  | nil => rfl
  | cons _ _ ih => simp [ih]
theorem LI.get {l m : List V} (h : LI l m) : ∀ {j : Nat} {y : V}, m[j]? = some y → ∃ x, l[j]? = some x ∧ VI x y := by
  induction h with
  | nil => intro j y e; simp at e
  | cons v _ ih =>
    intro j y e
    cases j with
    | zero => cases e; exact ⟨_, rfl, v⟩
    | succ j => exact ih (by simpa using e)
inductive LLI : List (Nat × LB) → List (Nat × LB) → Prop
  | refl (L : List (Nat × LB)) : LLI L L
  | cons {i : Nat} {l m : List V} {L M : List (Nat × LB)} : LI l m → LLI L M → LLI ((i, .c l false) :: L) ((i, .c m false) :: M)
  | keep {p : Nat × LB} {L M : List (Nat × LB)} : LLI L M → LLI (p :: L) (p :: M)
/-- A block in other words. -/
def BlkW (b' b : Blk) : Prop :=
  b' = b ∨ ∃ n cs' cs, b' = .cells n cs' none false ∧ b = .cells n cs none false ∧ ∀ j y, j < n → cs'.get j = some y → ∃ x, cs.get j = some x ∧ VI x y
theorem lb_w {l m : List V} (h : LI l m) (hl : l.length ≤ 100000) : BlkW (LB.c m false).blk (LB.c l false).blk := by
  rw [LB.blk_c, LB.blk_c]
  have hlen := h.len
  rw [lenL_eq, lenL_eq]
  refine .inr ⟨l.length, trOf m 0 .e, trOf l 0 .e, by rw [hlen], rfl, fun j y hj e => ?_⟩
  have big : (100000 : Nat) ≤ keys := by decide
  rw [trOf_get m 0 .e j (by omega), if_pos (by omega), Nat.sub_zero] at e
  obtain ⟨x, k1, k2⟩ := h.get e
  refine ⟨x, ?_, k2⟩
  rw [trOf_get l 0 .e j (by omega), if_pos (by omega), Nat.sub_zero]
  exact k1
def smallL (L : List (Nat × LB)) : Prop := ∀ p ∈ L, p.1 < keys ∧ ∀ l, p.2 = .c l false → l.length ≤ 100000
theorem litH_cons (p : Nat × LB) (L : List (Nat × LB)) (n id : Nat) (hk : p.1 < keys) : (litH (p :: L) n).blk id = if id = p.1 then some p.2.blk else (litH L n).blk id := by
  show ((litH L n).t.put p.1 (some p.2.blk)).get id = _
  rw [Tr.get_put _ _ _ _ hk]
  rfl
theorem litH_w {L M : List (Nat × LB)} (h : LLI L M) : ∀ {n : Nat}, smallL L → ∀ id b', (litH M n).blk id = some b' → ∃ b, (litH L n).blk id = some b ∧ BlkW b' b := by
  induction h with
  | refl L => exact fun _ id b' e => ⟨b', e, .inl rfl⟩
  | @cons i l m L M hl _ ih =>
    intro n hk id b' e
    obtain ⟨k1, k2⟩ := hk _ List.mem_cons_self
    rw [litH_cons (i, LB.c m false) M n id k1] at e
    rw [litH_cons (i, LB.c l false) L n id k1]
    by_cases hi : id = i
    · rw [if_pos hi] at e ⊢
      refine ⟨_, rfl, ?_⟩
      rw [← Option.some.inj e]
      exact lb_w hl (k2 l rfl)
    · rw [if_neg hi] at e ⊢
      exact ih (fun p hp => hk p (List.mem_cons_of_mem _ hp)) id b' e
  | @keep p L M _ ih =>
    intro n hk id b' e
    obtain ⟨k1, k2⟩ := hk _ List.mem_cons_self
    rw [litH_cons p M n id k1] at e
    rw [litH_cons p L n id k1]
    by_cases hi : id = p.1
    · rw [if_pos hi] at e ⊢
      exact ⟨_, e, .inl rfl⟩
    · rw [if_neg hi] at e ⊢
      exact ih (fun p hp => hk p (List.mem_cons_of_mem _ hp)) id b' e
structure SubW (hL h : H) : Prop where
  next : hL.next = h.next
  blk : ∀ id b', hL.blk id = some b' → ∃ b, h.blk id = some b ∧ BlkW b' b
  flat : ∀ id b, h.blk id = some b → ∀ y ch, b.kin ≠ some (some y, ch)
theorem BlkW.up {b' b : Blk} (k : BlkW b' b) (hb : ∀ y ch, b.kin ≠ some (some y, ch)) : (∀ y ch, ¬ b'.kin = some (some y, ch)) ∧ b'.live = b.live ∧ b'.isRo = b.isRo := by
  rcases k with rfl | ⟨n, cs', cs, rfl, rfl, _⟩
  · exact ⟨fun y ch e => hb y ch e, rfl, rfl⟩
  · exact ⟨fun _ _ e => (by cases e), rfl, rfl⟩
theorem WR.weak {g : G} {h hL : H} {w : World} (r : WR TP g h w) (s : SubW hL h) : WR TP g hL w := by
  refine ⟨by rw [s.next]; exact r.bound, fun id b e => ?_, fun id x e => by rw [s.next]; exact r.dom id x e, r.lt, fun id x b' e1 e2 => ?_, fun i j b o z o' z' bi bj hij e1 e2 e3 e4 l1 l2 => ?_, fun i b j d ch e1 e2 => ?_, fun i b j d ch b' e1 e2 => ?_⟩
  · obtain ⟨k, e1, _⟩ := s.blk id b e
    rw [s.next]
    exact r.top id k e1
  · obtain ⟨b, k1, k2⟩ := s.blk id b' e2
    have := r.blk id x b e1 k1
    rcases k2 with rfl | ⟨n, cs', cs, rfl, rfl, k⟩
    · exact this
    · obtain ⟨b, o, z, c, t, q1, q2, q3, q4, q5, q6⟩ := this
      refine ⟨b, o, z, c, t, q1, q2, q3, q4, q5, fun j v hj hv => ?_⟩
      obtain ⟨x, k3, k4⟩ := k j v hj hv
      obtain ⟨u, k5, k6, k7⟩ := q6 j x hj k3
      exact ⟨u, k5, k4.vr _ _ k6, k4.one k7⟩
  · obtain ⟨ki, a1, a2⟩ := s.blk i bi e3
    obtain ⟨kj, b1, b2⟩ := s.blk j bj e4
    obtain ⟨_, u2, u3⟩ := a2.up (s.flat i ki a1)
    obtain ⟨_, v2, v3⟩ := b2.up (s.flat j kj b1)
    rcases r.mates i j b o z o' z' ki kj hij e1 e2 a1 b1 (u2 ▸ l1) (v2 ▸ l2) with ⟨d, u, _⟩ | ⟨d, u, _⟩ | k
    · obtain ⟨q, y, ch, m1, m2⟩ := u.first0
      exact absurd m2 (s.flat i q m1 _ _)
    · obtain ⟨q, y, ch, m1, m2⟩ := u.first0
      exact absurd m2 (s.flat j q m1 _ _)
    · exact .inr (.inr ⟨u3.trans k.1, v3.trans k.2⟩)
  · obtain ⟨k, a1, a2⟩ := s.blk i b e1
    exact absurd e2 ((a2.up (s.flat i k a1)).1 _ _)
  · obtain ⟨k, a1, a2⟩ := s.blk i b e1
    exact absurd e2 ((a2.up (s.flat i k a1)).1 _ _)
theorem Seg.weak {w0 : World} {g : G} {h hL : H} {w : World} (a : Seg w0 g h w) (s : SubW hL h) (k0 : hL.blk 0 = H0.blk 0) (k1 : hL.blk 1 = H0.blk 1) : Seg w0 g hL w := by
  obtain ⟨tr, ts, e1, e2, hpin⟩ : ∃ tr ts, tr = trOf tbl 0 .e ∧ ts = trOf tbS 0 .e ∧ TP.pin = [(0, 0, 123, tr), (1, 1, 256, ts)] := ⟨_, _, rfl, rfl, rfl⟩
  have h0 := k0.trans H0_0
  have h1 := k1.trans H0_1
  rw [← e1] at h0
  rw [← e2] at h1
  refine ⟨a.wr.weak s, fun p hp => ?_, a.still, fun id b o z e hb => ?_⟩
  · refine ⟨(a.glob p hp).1, ?_⟩
    rw [hpin] at hp
    cases hp with
    | head => exact h0
    | tail _ hp =>
      obtain rfl := List.mem_singleton.1 hp
      exact h1
  · obtain ⟨i, o', z', n, cs, q0, q1, q2⟩ := a.own id b o z e hb
    rcases q0 with rfl | rfl
    · exact ⟨0, o', z', _, _, .inl rfl, q1, k0.trans H0_0⟩
    · exact ⟨1, o', z', _, _, .inr rfl, q1, k1.trans H0_1⟩
def cellsL (L : List (Nat × LB)) : Prop := ∀ p ∈ L, 1 < p.1 ∧ p.1 < keys ∧ ∃ l, p.2 = .c l false ∧ l.length ≤ 100000
theorem LLI.ids {L M : List (Nat × LB)} (h : LLI L M) : L.map (·.1) = M.map (·.1) := by
  induction h with
  | refl L => rfl
  | cons _ _ ih => simp [ih]
  | keep _ ih => simp [ih]
theorem AtW.weak {S : List Nat} {m N : Nat} {w0 : World} {gB : G} {wB : World} {f : F} {L M : List (Nat × LB)} {n : Nat} {g : G} {act : Act} {w : World} (a : AtW S m N w0 gB wB f (litH L n) g act w) (hc : cellsL L) (h : LLI L M) : AtW S m N w0 gB wB f (litH M n) g act w := by
  have hid : ∀ p ∈ M, 1 < p.1 ∧ p.1 < keys := by
    intro p hp
    have : p.1 ∈ L.map (·.1) := by rw [h.ids]; exact List.mem_map_of_mem hp
    obtain ⟨q, h1, h2⟩ := List.mem_map.1 this
    obtain ⟨k1, k2, _⟩ := hc q h1
    rw [← h2]
    exact ⟨k1, k2⟩
  have hk : ∀ p ∈ L, p.1 < keys := fun p hp => (hc p hp).2.1
  refine ⟨a.seg.weak ⟨rfl, litH_w h fun p hp => ⟨hk p hp, fun l e => ?_⟩, fun id b e y ch => ?_⟩ (litH_H0 (fun p hp => (hid p hp).2) fun p hp => by have := (hid p hp).1; omega) (litH_H0 (fun p hp => (hid p hp).2) fun p hp => by have := (hid p hp).1; omega), a.fr, a.marks, a.wk, a.fix⟩
  · obtain ⟨_, _, l', h1, h2⟩ := hc p hp
    rw [h1] at e
    cases e
    exact h2
  · rcases litH_get hk e with ⟨p, q1, rfl, rfl⟩ | ⟨_, q⟩
    · obtain ⟨_, _, l', h1, h2⟩ := hc p q1
      rw [h1, LB.blk_c]
      exact fun e => by cases e
    · rw [(H0_two q).2]
      exact fun e => by cases e
end
end Ev
end Go.Proofs.YtogbcielgfidlaaGreatDoor
namespace Go.Proofs.YtogbcielgfidlaaGreatDoor
set_option linter.unusedVariables false
set_option linter.unusedSimpArgs false
set_option linter.unusedSectionVars false
namespace Ev
section
variable [Opq]
set_option linter.unusedSectionVars false
theorem repL_len (v : V) : ∀ n : Nat, (repL [v] n).length = n
  | 0 => rfl
  | n + 1 => by
    show ([v] ++ repL [v] n).length = n + 1
    simp [repL_len v n]
theorem mach_li {x y b c stk pnd args : V} (hx : VI x y) (hb : VI b c) (pc base slots : Nat) (fr has : Bool) (dov : Nat) (stop : List V) : LI (mach x stk pc base slots fr has pnd args b dov stop) (mach y stk pc base slots fr has pnd args c dov stop) := by
  unfold mach
  exact LI.app _ (.same (.same (.same (.same (LI.app opsL (.cons hx (LI.app _ (.same (.same (.same (.same (.same (.same (.same (.same (.same (.same (.same (.same (.same (.same (.same (.same (.cons hb (.refl _)))))))))))))))))))))))))
theorem x0V_vi (d : Nat) {x y : V} (h : VI x y) : VI (x0V d x) (x0V d y) := by
  unfold x0V
  cases Nat.beq d 0
  · exact h
  · exact .refl _
theorem entL_lli (d : Nat) {x y b c : V} (hx : VI x y) (hb : VI b c) (tl : List (Nat × LB)) : LLI (entL d x b tl) (entL d y c tl) := by
  unfold entL
  exact .cons (mach_li (x0V_vi d hx) hb _ _ _ _ _ _ _) (.cons (.cons hx .nil) (.refl _))
def pendF (d : Nat) : Nat → List V := Nat.rec (motive := fun _ => Nat → List V) (fun _ => []) (fun _ ih i => .ptr 8 0 :: .int .i64 4 :: in0 i :: .int .i64 1 :: .bool true :: ih (Nat.succ i)) d
theorem pendF_len : ∀ d i : Nat, (pendF d i).length = 5 * d
  | 0, _ => rfl
  | d + 1, i => by
    show (V.ptr 8 0 :: .int .i64 4 :: in0 i :: .int .i64 1 :: .bool true :: pendF d (Nat.succ i)).length = _
    simp only [List.length_cons, pendF_len d]
    omega
theorem pendL_len (d : Nat) : (pendL d).length = 5 * d := pendF_len d 0
theorem mach_len {x b stk pnd args : V} {pc base slots : Nat} {fr has : Bool} {dov : Nat} {stop : List V} (hs : stop.length ≤ 100) : (mach x stk pc base slots fr has pnd args b dov stop).length ≤ 1000 := by
  unfold mach
  simp only [List.length_append, List.length_cons, repL_len, selfL, opsL, List.length_map, List.length_nil]
  omega
theorem fix_cells : cellsL (fixL ++ stopB) := by
  intro p hp
  simp only [fixL, stopB, List.cons_append, List.nil_append, List.mem_cons, List.not_mem_nil, or_false] at hp
  rcases hp with rfl | rfl | rfl | rfl | rfl | rfl | rfl | rfl | rfl | rfl | rfl | rfl <;> exact ⟨by decide, by decide, _, rfl, by decide⟩
theorem entL_cells {d : Nat} (hd : d ≤ 500) (x b : V) : cellsL (entL d x b stopB) := by
  intro p hp
  unfold entL at hp
  have big : (100000 : Nat) ≤ keys := by decide
  cases hp with
  | head => exact ⟨show 1 < 2 by decide, show 2 < keys by decide, _, rfl, Nat.le_trans (mach_len (by decide)) (by decide)⟩
  | tail _ hp =>
    cases hp with
    | head => exact ⟨show 1 < 17 by decide, show 17 < keys by decide, _, rfl, by show 1 ≤ _; decide⟩
    | tail _ hp =>
      unfold stackL at hp
      cases hz : Nat.beq d 0 with
      | true =>
        rw [hz] at hp
        exact fix_cells p hp
      | false =>
        rw [hz] at hp
        have hp : p ∈ (15, LB.c (repL [w11] d) false) :: (16, .c (pendL d) false) :: (fixL ++ stopB) := hp
        cases hp with
        | head => exact ⟨show 1 < 15 by decide, show 15 < keys by decide, _, rfl, by rw [repL_len]; omega⟩
        | tail _ hp =>
          cases hp with
          | head => exact ⟨show 1 < 16 by decide, show 16 < keys by decide, _, rfl, by rw [pendL_len]; omega⟩
          | tail _ hp => exact fix_cells p hp
variable {n k d : Nat}
theorem ng_eq (d : Nat) : ng d = -(d : Int) := rfl
theorem vi_arg (hn : Opq.val 0 = .int .i64 (n : Int)) (h : d + 1 ≤ n) : VI (wd 0 (Int.ofNat d) (ng d)) (wd 0 (Int.ofNat (Nat.succ d)) (ng d)) := by
  refine vi_wd (fun B hB => ?_) ?_
  · rw [hn] at hB
    cases hB
    show ((d + 1 : Nat) : Int) ≤ _
    omega
  · rw [ng_eq]
    show 0 ≤ ((d + 1 : Nat) : Int) + _
    omega
theorem vi_bud (hk : Opq.val 1 = .int .i64 (k : Int)) (h : d + 1 ≤ k) : VI (sy 1 (Int.ofNat d) (ng d)) (sy 1 (Int.ofNat (Nat.succ d)) (ng d)) := by
  refine vi_sy fun B hB => ?_
  rw [hk] at hB
  cases hB
  show ((d + 1 : Nat) : Int) ≤ _
  omega
theorem lli_D (hn : Opq.val 0 = .int .i64 (n : Int)) (hk : Opq.val 1 = .int .i64 (k : Int)) (h1 : d + 1 ≤ n) (h2 : d + 1 ≤ k) : LLI (LD0 d) (LD d (Nat.succ d) (Nat.succ d)) :=
  entL_lli d (vi_arg hn h1) (vi_bud hk h2) _
theorem lli_S (hk : Opq.val 1 = .int .i64 (d : Int)) : LLI (LD0 d) (LS d) :=
  entL_lli d (.refl _) (vi_syl fun B hB => by
    rw [hk] at hB
    cases hB
    rw [ng_eq]
    show (d : Int) + -(d : Int) = 0
    omega) _
theorem lli_T (hn : Opq.val 0 = .int .i64 (d : Int)) (hk : Opq.val 1 = .int .i64 (k : Int)) (h2 : d + 1 ≤ k) : LLI (LD0 d) (LT d) :=
  entL_lli d (vi_wdl fun B hB => by
    rw [hn] at hB
    cases hB
    rw [ng_eq]
    show ((d : Int) + -(d : Int)) * 16 + 3 = 3
    omega) (vi_bud hk h2) _
end
end Ev
end Go.Proofs.YtogbcielgfidlaaGreatDoor
