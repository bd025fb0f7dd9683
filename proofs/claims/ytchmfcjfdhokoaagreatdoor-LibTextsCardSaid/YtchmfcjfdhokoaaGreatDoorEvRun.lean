/-
  scanner.run over names and digits: what it does.

  Of a name that is none of the three there is no text, and no list of functions.
-/
import Derived.Test.YtchmfcjfdhokoaaGreatDoorEvIs
import Derived.Test.YtchmfcjfdhokoaaGreatDoorEvTab2
namespace Go.Proofs.YtchmfcjfdhokoaaGreatDoor
namespace Ev
open Go.RowKit

noncomputable section
def digitB (c : Nat) : Bool := Bool.rec (motive := fun _ => Bool) false (Nat.ble c 57) (Nat.ble 48 c)
def letterB (c : Nat) : Bool := Bool.rec (motive := fun _ => Bool) (Bool.rec (motive := fun _ => Bool) false (Nat.ble c 90) (Nat.ble 65 c)) true (Bool.rec (motive := fun _ => Bool) false (Nat.ble c 122) (Nat.ble 97 c))
def namedB (c : Nat) : Bool := Bool.rec (motive := fun _ => Bool) (Bool.rec (motive := fun _ => Bool) (Bool.rec (motive := fun _ => Bool) (Nat.beq c 64) true (Nat.beq c 95)) true (letterB c)) true (digitB c)
end
theorem ble_true {a b : Nat} (h : a ≤ b) : Nat.ble a b = true := by simpa using h
theorem ble_false {a b : Nat} (h : ¬ a ≤ b) : Nat.ble a b = false := by
  cases e : Nat.ble a b with
  | false => rfl
  | true => exact absurd (by simpa using e) h
theorem beq_false' {a b : Nat} (h : ¬ a = b) : Nat.beq a b = false := by
  cases e : Nat.beq a b with
  | false => rfl
  | true => exact absurd (Nat.eq_of_beq_eq_true e) h

set_option maxHeartbeats 1000000 in
theorem digit_walk (c : Nat) (w : World) : Calls Tryz.prog 73 #[.int .u8 c] w fun e w' => e = .returned (.bool (digitB c)) ∧ w' = w := by
  unfold digitB
  by_cases h1 : 48 ≤ c
  · rw [ble_true h1]
    have h1' : (48 : Int) ≤ (c : Int) := by omega
    by_cases h2 : c ≤ 57
    · rw [ble_true h2]
      have h2' : (c : Int) ≤ 57 := by omega
      clear h1 h2
      go_enter Tryz.func73, Tryz.ntmps73
      go_wp2
      go_ret
      exact ⟨rfl, rfl⟩
    · rw [ble_false h2]
      have h2' : decide ((c : Int) ≤ 57) = false := by simp; omega
      clear h1 h2
      go_enter Tryz.func73, Tryz.ntmps73
      go_wp2
      go_ret
      exact ⟨rfl, rfl⟩
  · rw [ble_false h1]
    have h1' : decide ((48 : Int) ≤ (c : Int)) = false := by simp; omega
    clear h1
    go_enter Tryz.func73, Tryz.ntmps73
    go_wp2
    go_ret
    exact ⟨rfl, rfl⟩

set_option maxHeartbeats 1000000 in
theorem letter_walk (c : Nat) (w : World) : Calls Tryz.prog 71 #[.int .u8 c] w fun e w' => e = .returned (.bool (letterB c)) ∧ w' = w := by
  unfold letterB
  by_cases h1 : 97 ≤ c
  · rw [ble_true h1]
    have h1' : (97 : Int) ≤ (c : Int) := by omega
    by_cases h2 : c ≤ 122
    · rw [ble_true h2]
      have h2' : (c : Int) ≤ 122 := by omega
      clear h1 h2
      go_enter Tryz.func71, Tryz.ntmps71
      go_wp2
      go_ret
      exact ⟨rfl, rfl⟩
    · rw [ble_false h2]
      have h2' : decide ((c : Int) ≤ 122) = false := by simp; omega
      by_cases h3 : 65 ≤ c
      · rw [ble_true h3]
        have h3' : (65 : Int) ≤ (c : Int) := by omega
        by_cases h4 : c ≤ 90
        · rw [ble_true h4]
          have h4' : (c : Int) ≤ 90 := by omega
          clear h1 h2 h3 h4
          go_enter Tryz.func71, Tryz.ntmps71
          go_wp2
          go_ret
          exact ⟨rfl, rfl⟩
        · rw [ble_false h4]
          have h4' : decide ((c : Int) ≤ 90) = false := by simp; omega
          clear h1 h2 h3 h4
          go_enter Tryz.func71, Tryz.ntmps71
          go_wp2
          go_ret
          exact ⟨rfl, rfl⟩
      · rw [ble_false h3]
        have h3' : decide ((65 : Int) ≤ (c : Int)) = false := by simp; omega
        clear h1 h2 h3
        go_enter Tryz.func71, Tryz.ntmps71
        go_wp2
        go_ret
        exact ⟨rfl, rfl⟩
  · rw [ble_false h1]
    have h1' : decide ((97 : Int) ≤ (c : Int)) = false := by simp; omega
    by_cases h3 : 65 ≤ c
    · rw [ble_true h3]
      have h3' : (65 : Int) ≤ (c : Int) := by omega
      by_cases h4 : c ≤ 90
      · rw [ble_true h4]
        have h4' : (c : Int) ≤ 90 := by omega
        clear h1 h3 h4
        go_enter Tryz.func71, Tryz.ntmps71
        go_wp2
        go_ret
        exact ⟨rfl, rfl⟩
      · rw [ble_false h4]
        have h4' : decide ((c : Int) ≤ 90) = false := by simp; omega
        clear h1 h3 h4
        go_enter Tryz.func71, Tryz.ntmps71
        go_wp2
        go_ret
        exact ⟨rfl, rfl⟩
    · rw [ble_false h3]
      have h3' : decide ((65 : Int) ≤ (c : Int)) = false := by simp; omega
      clear h1 h3
      go_enter Tryz.func71, Tryz.ntmps71
      go_wp2
      go_ret
      exact ⟨rfl, rfl⟩

set_option maxHeartbeats 2000000 in
theorem named_walk (c : Nat) (w : World) : Calls Tryz.prog 115 #[.int .u8 c] w fun e w' => e = .returned (.bool (namedB c)) ∧ w' = w := by
  unfold namedB
  obtain ⟨d, hd⟩ : ∃ d, digitB c = d := ⟨_, rfl⟩
  obtain ⟨l, hl⟩ : ∃ l, letterB c = l := ⟨_, rfl⟩
  rw [hd, hl]
  cases d with
  | true =>
    go_enter Tryz.func115, Tryz.ntmps115
    go_wp2_with (go_at_call 73; refine (digit_walk c _).mono ?_; rintro e w1 ⟨rfl, rfl⟩; rw [hd])
    go_ret
    exact ⟨rfl, rfl⟩
  | false =>
    cases l with
    | true =>
      go_enter Tryz.func115, Tryz.ntmps115
      go_wp2_with (first
        | (go_at_call 73; refine (digit_walk c _).mono ?_; rintro e w1 ⟨rfl, rfl⟩; rw [hd])
        | (go_at_call 71; refine (letter_walk c _).mono ?_; rintro e w1 ⟨rfl, rfl⟩; rw [hl]))
      go_ret
      exact ⟨rfl, rfl⟩
    | false =>
      by_cases h1 : c = 95
      · subst h1
        go_enter Tryz.func115, Tryz.ntmps115
        go_wp2_with (first
          | (go_at_call 73; refine (digit_walk _ _).mono ?_; rintro e w1 ⟨rfl, rfl⟩; rw [hd])
          | (go_at_call 71; refine (letter_walk _ _).mono ?_; rintro e w1 ⟨rfl, rfl⟩; rw [hl]))
        go_ret
        exact ⟨rfl, rfl⟩
      · rw [beq_false' h1]
        have e1 : ((c : Int) == 95) = false := by simp; omega
        by_cases h2 : c = 64
        · subst h2
          go_enter Tryz.func115, Tryz.ntmps115
          go_wp2_with (first
            | (go_at_call 73; refine (digit_walk _ _).mono ?_; rintro e w1 ⟨rfl, rfl⟩; rw [hd])
            | (go_at_call 71; refine (letter_walk _ _).mono ?_; rintro e w1 ⟨rfl, rfl⟩; rw [hl]))
          go_ret
          exact ⟨rfl, rfl⟩
        · rw [beq_false' h2]
          have e2 : ((c : Int) == 64) = false := by simp; omega
          clear h1 h2
          go_enter Tryz.func115, Tryz.ntmps115
          go_wp2_with (first
            | (go_at_call 73; refine (digit_walk c _).mono ?_; rintro e w1 ⟨rfl, rfl⟩; rw [hd])
            | (go_at_call 71; refine (letter_walk c _).mono ?_; rintro e w1 ⟨rfl, rfl⟩; rw [hl]))
          go_ret
          exact ⟨rfl, rfl⟩
noncomputable section
def byteP (p : Nat → Bool) (vs : List V) (h : H) : Option (V × H) :=
  caseL vs none fun x t => caseL t (asInt (fun k n => same k .u8 (Int.rec (motive := fun _ => Option (V × H)) (fun c => some (.bool (p c), h)) (fun _ => none) n)) x) fun _ _ => none
end
theorem byte_ok {f : FuncId} {fn : Func} {p : Nat → Bool} (h1 : Tryz.prog.funcs[f]? = some fn) (h2 : (fn.name == "runtime.NumGoroutine") = false) (h3 : fn.body.isNone = false)
    (k : ∀ (c : Nat) (w : World), Calls Tryz.prog f #[.int .u8 c] w fun e w' => e = .returned (.bool (p c)) ∧ w' = w) : PrimOf f (byteP p) := by
  intro vs h v h' e g w us r hG hv
  cases hv with
  | nil => cases e
  | cons a1 t1 =>
    cases t1 with
    | cons _ _ => cases e
    | nil =>
      rename_i x u
      cases x <;> first | (cases e; done) | skip
      rename_i q n
      have e : same q .u8 (Int.rec (motive := fun _ => Option (V × H)) (fun c => some (.bool (p c), h)) (fun _ => none) n) = some (v, h') := e
      rw [same_eq] at e
      obtain ⟨e1, e2⟩ := oif_some.1 e
      have hq : q = .u8 := by cases q <;> first | rfl | cases e1
      subst hq
      cases n with
      | negSucc _ => cases e2
      | ofNat c =>
        cases e2
        rw [a1.int_inv]
        exact prim_fn h1 h2 h3 (Calls.post r (.bool _) (k c w))
theorem named_ok : PrimOf 115 (byteP namedB) := byte_ok Tryz.func115 (by decide) rfl named_walk
theorem digit_ok : PrimOf 73 (byteP digitB) := byte_ok Tryz.func73 (by decide) rfl digit_walk
theorem letter_ok : PrimOf 71 (byteP letterB) := byte_ok Tryz.func71 (by decide) rfl letter_walk

noncomputable section
/-- A cell of a block that is alone, written. -/
def setAt (h : H) (id i : Nat) (v : V) : Option H :=
  ob (h.blk id) fun b => match b with
    | .cells n cs none false => oif (Nat.blt i n) (some ⟨h.t.put id (some (.cells n (cs.put i (some v)) none false)), h.next⟩)
    | _ => none
end
theorem setAt_wr1 {h h' : H} {id i : Nat} {v : V} (e : setAt h id i v = some h') (hv : oneCell v = true) : h.wr1 id i v = some h' := by
  unfold setAt at e
  obtain ⟨b, e1, e2⟩ := ob_some.1 e
  split at e2
  · rename_i n cs
    unfold H.wr1
    rw [e1]
    obtain ⟨e3, e4⟩ := oif_some.1 e2
    show oif (!false) (oif (Nat.blt i n) (oif (oneCell v) (ob (forget 64 none i h) fun h => some (H.mk (h.t.put id (some (.cells n (cs.put i (some v)) none false))) h.next)))) = _
    rw [e3, hv]
    exact e4
  · cases e2
theorem setAt_blk {h h' : H} {id i : Nat} {v : V} (e : setAt h id i v = some h') (hk : id < keys) : ∃ n cs, h.blk id = some (.cells n cs none false) ∧ i < n ∧ h' = ⟨h.t.put id (some (.cells n (cs.put i (some v)) none false)), h.next⟩ ∧ h'.blk id = some (.cells n (cs.put i (some v)) none false) := by
  unfold setAt at e
  obtain ⟨b, e1, e2⟩ := ob_some.1 e
  split at e2
  · rename_i n cs
    obtain ⟨e3, e4⟩ := oif_some.1 e2
    cases e4
    refine ⟨n, cs, e1, by simpa using e3, rfl, ?_⟩
    have := blk_put h id id h.next (.cells n (cs.put i (some v)) none false) hk
    rw [if_pos rfl] at this
    exact this
  · cases e2
theorem setAt_setAt {h h1 : H} {id i : Nat} {x y : V} (e : setAt h id i x = some h1) (hk : id < keys) : setAt h1 id i y = setAt h id i y := by
  obtain ⟨n, cs, k1, k2, k3, k4⟩ := setAt_blk e hk
  unfold setAt
  rw [k4, k1]
  show oif (Nat.blt i n) _ = oif (Nat.blt i n) _
  have : Nat.blt i n = true := by simpa using k2
  rw [this, k3]
  show some (H.mk ((h.t.put id _).put id (some (.cells n ((cs.put i (some x)).put i (some y)) none false))) h.next) = some _
  rw [Tr.put_put, Tr.put_put]
theorem setAt_rd {h h1 : H} {id off : Nat} {x y z : V} (e : setAt h id (off + 1) z = some h1) (hk : id < keys) (hi : off + 1 < keys) (r : h.rd id off 2 = some [x, y]) : h1.rd id off 2 = some [x, z] := by
  obtain ⟨n, cs, k1, k2, k3, k4⟩ := setAt_blk e hk
  unfold H.rd H.cells at r ⊢
  rw [k4]
  rw [k1] at r
  have r : rdFrom cs n 2 off = some [x, y] := r
  show rdFrom (cs.put (off + 1) (some z)) n 2 off = _
  have r' : oif (Nat.blt off n) (ob (cs.get off) fun v => ob (oif (Nat.blt (off + 1) n) (ob (cs.get (off + 1)) fun v => some [v])) fun r => some (v :: r)) = some [x, y] := r
  obtain ⟨r1, r2⟩ := oif_some.1 r'
  obtain ⟨v, r3, r4⟩ := ob_some.1 r2
  obtain ⟨q, r5, r6⟩ := ob_some.1 r4
  obtain ⟨r7, r8⟩ := oif_some.1 r5
  obtain ⟨u, r9, r10⟩ := ob_some.1 r8
  cases r10
  cases r6
  show oif (Nat.blt off n) (ob ((cs.put (off + 1) (some z)).get off) fun v => ob (oif (Nat.blt (off + 1) n) (ob ((cs.put (off + 1) (some z)).get (off + 1)) fun v => some [v])) fun r => some (v :: r)) = some [x, z]
  rw [r1, r7, Tr.get_put _ _ _ _ hi, Tr.get_put _ _ _ _ hi, if_neg (by omega), if_pos rfl, r3]
  rfl
theorem setAt_any {h h1 : H} {id i : Nat} {x : V} (e : setAt h id i x = some h1) (y : V) : ∃ h2, setAt h id i y = some h2 := by
  unfold setAt at e ⊢
  obtain ⟨b, e1, e2⟩ := ob_some.1 e
  split at e2
  · obtain ⟨e3, _⟩ := oif_some.1 e2
    rw [e1]
    exact ⟨_, by show oif _ _ = _; rw [e3]; rfl⟩
  · cases e2

section
variable {call : CallT} {d : Dst} {args : List Opd} {g : Option (Opd × Bool)} {lo hi : Nat} {l : List COper} {s : St} {vs : List V} {v : V} {r : Option St}
theorem runOpsD_v {h' : H} (hg : guardOk s.f g = some true) (he : evs s.f args = some vs) (hr : callVal call vs s.h = some (v, h'))
    (k : runOpsD call l ⟨d.put s.f v, h', s.h :: s.hs, s.cs⟩ = r) : runOpsD call (⟨d, .callv, args, g, lo, hi⟩ :: l) s = r := by
  rw [runOpsD_cons2]
  unfold COper.runD
  rw [show guardOk s.f (COper.mk d .callv args g lo hi).guard = some true from hg]
  show ob (ob (evs s.f args) fun vs => ob (callVal call vs s.h) fun r => some (St.mk (d.put s.f r.1) r.2 (s.h :: s.hs) s.cs)) (runOpsD call l) = r
  rw [he]
  show ob (ob (callVal call vs s.h) fun r => some (St.mk (d.put s.f r.1) r.2 (s.h :: s.hs) s.cs)) (runOpsD call l) = r
  rw [hr]
  exact k
theorem runOpsD_ne {o : COp} (hg : guardOk s.f g = some false) (ho : isE o = true) (k : runOpsD call l ⟨d.put s.f undefV, s.h, s.h :: s.hs, s.cs⟩ = r) : runOpsD call (⟨d, o, args, g, lo, hi⟩ :: l) s = r := by
  rw [runOpsD_cons2]
  unfold COper.runD
  rw [show guardOk s.f (COper.mk d o args g lo hi).guard = some false from hg]
  show ob (some (St.mk (d.put s.f undefV) s.h (Bool.rec (motive := fun _ => List H) s.hs (s.h :: s.hs) (isE o)) s.cs)) (runOpsD call l) = r
  rw [ho]
  exact k
end
section
variable {call : CallT} {d : Dst} {args : List Opd} {lo hi : Nat} {l : List COper} {f : F} {h : H} {vs : List V} {v : V} {r : Option (F × H)}
theorem runOps_p {o : POp} (he : evs f args = some vs) (hr : o.run vs = some v) (k : runOps call l (d.put f v) h = r) : runOps call (⟨d, .p o, args, none, lo, hi⟩ :: l) f h = r := by
  rw [runOps_cons]
  show ob (ob (evs f args) fun vs => ob (ob (o.run vs) fun v => some (v, h)) fun r => some (d.put f r.1, r.2)) (fun r => runOps call l r.1 r.2) = r
  rw [he]
  show ob (ob (ob (o.run vs) fun v => some (v, h)) fun r => some (d.put f r.1, r.2)) (fun r => runOps call l r.1 r.2) = r
  rw [hr]
  exact k
theorem runOps_r {o : ROp} (he : evs f args = some vs) (hr : o.run vs h = some v) (k : runOps call l (d.put f v) h = r) : runOps call (⟨d, .r o, args, none, lo, hi⟩ :: l) f h = r := by
  rw [runOps_cons]
  show ob (ob (evs f args) fun vs => ob (ob (o.run vs h) fun v => some (v, h)) fun r => some (d.put f r.1, r.2)) (fun r => runOps call l r.1 r.2) = r
  rw [he]
  show ob (ob (ob (o.run vs h) fun v => some (v, h)) fun r => some (d.put f r.1, r.2)) (fun r => runOps call l r.1 r.2) = r
  rw [hr]
  exact k
theorem runOps_e {o : EOp} {h' : H} (he : evs f args = some vs) (hr : o.run vs h = some (v, h')) (k : runOps call l (d.put f v) h' = r) : runOps call (⟨d, .e o, args, none, lo, hi⟩ :: l) f h = r := by
  rw [runOps_cons]
  show ob (ob (evs f args) fun vs => ob (o.run vs h) fun r => some (d.put f r.1, r.2)) (fun r => runOps call l r.1 r.2) = r
  rw [he]
  show ob (ob (o.run vs h) fun r => some (d.put f r.1, r.2)) (fun r => runOps call l r.1 r.2) = r
  rw [hr]
  exact k
theorem runOps_nil : runOps call [] f h = some (f, h) := rfl
end
theorem checkAll_all {h : H} {hs : List H} (hk : ∀ k ∈ hs, k = h) : ∀ cs : List Tc, (∀ c ∈ cs, c.op.run c.vs h = some c.v ∧ sameV 20 c.v c.v = true) → checkAll cs hs = true
  | [], _ => rfl
  | c :: cs, k => by
    show (Bool.rec (motive := fun _ => Bool) false (checkAll cs hs) (readsAll c 0 hs) : Bool) = true
    rw [readsAll_same (k c List.mem_cons_self).1 (k c List.mem_cons_self).2 hs 0 hk]
    exact checkAll_all hk cs fun c hc => k c (List.mem_cons_of_mem _ hc)
theorem sameV_str {m c : Nat} (n : Nat) : sameV (n + 1) (.str m c) (.str m c) = true := by
  show strEq m c m c = true
  unfold strEq
  rw [brec_eq]
  simp
noncomputable section
def rnA : List COper := [⟨.l 4, .p (.mv), [.c (.str 0 0)], none, 0, 0⟩]
def rnB : List COper := [⟨.t 6, .p (.mv), [.l 0], none, 0, 0⟩, ⟨.t 7, .p (.nilc), [.t 6], none, 0, 0⟩, ⟨.t 8, .p (.fa 1), [.t 7], none, 0, 0⟩, ⟨.t 9, .r (.load false 1), [.t 8], none, 0, 0⟩, ⟨.l 5, .p (.mv), [.t 9], none, 0, 0⟩]
def rnC : List COper := [⟨.t 10, .p (.mv), [.l 0], none, 0, 0⟩, ⟨.t 11, .p (.nilc), [.t 10], none, 0, 0⟩, ⟨.t 12, .p (.fa 1), [.t 11], none, 0, 0⟩, ⟨.t 13, .r (.load false 1), [.t 12], none, 0, 0⟩, ⟨.t 14, .p (.mv), [.l 0], none, 0, 0⟩, ⟨.t 15, .p (.nilc), [.t 14], none, 0, 0⟩, ⟨.t 16, .p (.fa 0), [.t 15], none, 0, 0⟩, ⟨.t 17, .r (.load false 1), [.t 16], none, 0, 0⟩, ⟨.t 18, .p (.leng .str), [.t 17], none, 0, 0⟩, ⟨.t 19, .p (.bin .lss), [.t 13, .t 18], none, 0, 0⟩, ⟨.t 20, .p (.mv), [.t 19], none, 0, 0⟩, ⟨.t 21, .p (.mv), [.l 1], (some (.t 20, true)), 0, 0⟩, ⟨.t 22, .p (.mv), [.l 0], (some (.t 20, true)), 0, 0⟩, ⟨.t 23, .p (.nilc), [.t 22], (some (.t 20, true)), 0, 0⟩, ⟨.t 24, .p (.fa 0), [.t 23], (some (.t 20, true)), 0, 0⟩, ⟨.t 25, .r (.load false 1), [.t 24], (some (.t 20, true)), 0, 0⟩, ⟨.t 26, .p (.mv), [.l 0], (some (.t 20, true)), 0, 0⟩, ⟨.t 27, .p (.nilc), [.t 26], (some (.t 20, true)), 0, 0⟩, ⟨.t 28, .p (.fa 1), [.t 27], (some (.t 20, true)), 0, 0⟩, ⟨.t 29, .r (.load false 1), [.t 28], (some (.t 20, true)), 0, 0⟩, ⟨.t 30, .p (.ixstr), [.t 25, .t 29], (some (.t 20, true)), 0, 0⟩, ⟨.t 31, .callv, [.t 21, .t 30], (some (.t 20, true)), 0, 1⟩, ⟨.l 32, .p (.pick), [.t 20, .t 31, .c (.bool false)], none, 1, 1⟩]
def rnP : List COper := [⟨.t 33, .p (.mv), [.l 0], none, 0, 0⟩, ⟨.t 34, .p (.nilc), [.t 33], none, 0, 0⟩, ⟨.t 35, .p (.fa 1), [.t 34], none, 0, 0⟩, ⟨.t 36, .r (.load false 1), [.t 35], none, 0, 0⟩, ⟨.t 37, .p (.bin .add), [.t 36, .c (.int .i64 1)], none, 0, 0⟩, ⟨.t 38, .p (.nilc), [.t 33], none, 0, 0⟩, ⟨.t 39, .p (.fa 1), [.t 38], none, 0, 0⟩, ⟨.no, .e (.store 1), [.t 39, .t 37], none, 0, 0⟩]
def rnF : List COper := [⟨.t 40, .p (.mv), [.l 0], none, 0, 0⟩, ⟨.t 41, .p (.nilc), [.t 40], none, 0, 0⟩, ⟨.t 42, .p (.fa 0), [.t 41], none, 0, 0⟩, ⟨.t 43, .r (.load false 1), [.t 42], none, 0, 0⟩, ⟨.t 44, .p (.mv), [.l 5], none, 0, 0⟩, ⟨.t 45, .p (.mv), [.l 0], none, 0, 0⟩, ⟨.t 46, .p (.nilc), [.t 45], none, 0, 0⟩, ⟨.t 47, .p (.fa 1), [.t 46], none, 0, 0⟩, ⟨.t 48, .r (.load false 1), [.t 47], none, 0, 0⟩, ⟨.t 49, .p (.slc .str true true false), [.t 43, .t 44, .t 48], none, 0, 0⟩, ⟨.l 4, .p (.mv), [.t 49], none, 0, 0⟩]
def rnBody : CCode := .seq (.seq (.regD rnC) (.cond (.l 32) .skip (.exit 0))) (.block 1 (.reg rnP))
end
theorem cf69_is : cf69 = ⟨2, .seq (.reg rnA) (.seq (.reg rnB) (.seq (.block 0 (.loop rnBody)) (.seq (.regD rnF) .ret))), [.tmp (.l 4)]⟩ := rfl
def L0 (p fn a0 : V) : AL := [(0, p), (1, fn), (4, .str 0 0), (5, a0)]
def L1 (p fn a0 x : V) : AL := [(0, p), (1, fn), (4, .str 0 0), (5, a0), (32, x)]
/-- The scanner: its text and its place. -/
structure Sc (h : H) (id off n c a : Nat) : Prop where
  l0 : ROp.run (.load false 1) [.ptr id (Nat.add off 0)] h = some (.str n c)
  l1 : ROp.run (.load false 1) [.ptr id (Nat.add off 1)] h = some (.int .i64 (Int.ofNat a))
theorem Sc.of {h : H} {id off n c a : Nat} (r : h.rd id off 2 = some [.str n c, .int .i64 (Int.ofNat a)]) : Sc h id off n c a := by
  obtain ⟨r0, r1⟩ := rd_two r
  constructor
  · show ob (h.rd id off 1) (fun l => nthL l 0) = _
    rw [r0]; rfl
  · show ob (h.rd id (off + 1) 1) (fun l => nthL l 0) = _
    rw [r1]; rfl
theorem Sc.checks {h : H} {id off n c a : Nat} (k : Sc h id off n c a) {hs : List H} {cs : List Tc} (hk : ∀ k ∈ hs, k = h)
    (hc : ∀ x ∈ cs, (∃ lo hi, x = ⟨.load false 1, [.ptr id (Nat.add off 0)], .str n c, lo, hi⟩) ∨ ∃ lo hi, x = ⟨.load false 1, [.ptr id (Nat.add off 1)], .int .i64 (Int.ofNat a), lo, hi⟩) : checkAll cs hs = true :=
  checkAll_all hk cs fun x hx => by
    rcases hc x hx with ⟨lo, hi, rfl⟩ | ⟨lo, hi, rfl⟩
    · exact ⟨k.l0, sameV_str 19⟩
    · exact ⟨k.l1, sameV_int 19⟩
section
variable {call : CallT} {h : H} {id off n c a : Nat} {fid : FuncId} {a0 : V} {L : AL} {N : Nat}
/-- The test at a byte. -/
theorem test_in (k : Sc h id off n c a) (ha : Nat.blt a n = true) {b : Bool} (hc : call (.fn fid) [.int .u8 (Int.ofNat (Nat.mod (Nat.shiftRight c (Nat.mul 8 a)) 256))] h = some (.bool b, h))
    (hL : L = L0 (.ptr id off) (.func (.func fid) [] []) a0 ∨ ∃ x, L = L1 (.ptr id off) (.func (.func fid) [] []) a0 x) :
    exec call false N (.regD rnC) ⟨L, []⟩ h = some (.norm, ⟨L1 (.ptr id off) (.func (.func fid) [] []) a0 (.bool b), []⟩, h) := by
  have main : ∃ s, runOpsD call rnC ⟨⟨L, []⟩, h, [], []⟩ = some s ∧ s.h = h ∧ clr s.f = ⟨L1 (.ptr id off) (.func (.func fid) [] []) a0 (.bool b), []⟩ ∧ checkAll s.cs (revL s.hs [s.h]) = true := by
    have e19 : POp.run (.bin .lss) [.int .i64 (Int.ofNat a), .int .i64 (Int.ofNat n)] = some (.bool true) := by
      show some (V.bool (Nat.blt a n)) = _
      rw [ha]
    have e30 : POp.run .ixstr [.str n c, .int .i64 (Int.ofNat a)] = some (.int .u8 (Int.ofNat (Nat.mod (Nat.shiftRight c (Nat.mul 8 a)) 256))) := by
      show ob (oif (Nat.blt a n) (some a)) _ = _
      rw [ha]
      rfl
    have e31 : callVal call [.func (.func fid) [] [], .int .u8 (Int.ofNat (Nat.mod (Nat.shiftRight c (Nat.mul 8 a)) 256))] h = some (.bool b, h) := hc
    rcases hL with rfl | ⟨x, rfl⟩
    all_goals
      refine ⟨_, runOpsD_p rfl rfl rfl <| runOpsD_p rfl rfl rfl <| runOpsD_p rfl rfl rfl <| runOpsD_r rfl rfl k.l1 <| runOpsD_p rfl rfl rfl <| runOpsD_p rfl rfl rfl <| runOpsD_p rfl rfl rfl <| runOpsD_r rfl rfl k.l0 <|
        runOpsD_p rfl rfl rfl <| runOpsD_p rfl rfl e19 <| runOpsD_p rfl rfl rfl <| runOpsD_p rfl rfl rfl <| runOpsD_p rfl rfl rfl <| runOpsD_p rfl rfl rfl <| runOpsD_p rfl rfl rfl <| runOpsD_r rfl rfl k.l0 <|
        runOpsD_p rfl rfl rfl <| runOpsD_p rfl rfl rfl <| runOpsD_p rfl rfl rfl <| runOpsD_r rfl rfl k.l1 <| runOpsD_p rfl rfl e30 <| runOpsD_v rfl rfl e31 <| runOpsD_p rfl rfl rfl <| runOpsD_nil _ _, rfl, rfl, ?_⟩
      refine k.checks (fun q hq => ?_) (fun q hq => ?_)
      · have hq : q ∈ [h, h] := hq
        simpa using hq
      · have hq : q ∈ ([⟨.load false 1, [.ptr id (Nat.add off 1)], .int .i64 (Int.ofNat a), 0, 0⟩, ⟨.load false 1, [.ptr id (Nat.add off 0)], .str n c, 0, 0⟩, ⟨.load false 1, [.ptr id (Nat.add off 0)], .str n c, 0, 0⟩, ⟨.load false 1, [.ptr id (Nat.add off 1)], .int .i64 (Int.ofNat a), 0, 0⟩] : List Tc) := hq
        simp only [List.mem_cons, List.not_mem_nil, or_false] at hq
        rcases hq with rfl | rfl | rfl | rfl
        · exact .inr ⟨_, _, rfl⟩
        · exact .inl ⟨_, _, rfl⟩
        · exact .inl ⟨_, _, rfl⟩
        · exact .inr ⟨_, _, rfl⟩
  obtain ⟨s, e1, e2, e3, e4⟩ := main
  show ob (runOpsD call rnC ⟨⟨L, []⟩, h, [], []⟩) (fun s => oif (Bool.rec (motive := fun _ => Bool) (checkAll s.cs (revL s.hs [s.h])) true (quiet rnC)) (some (X.norm, clr s.f, s.h))) = _
  rw [e1]
  show oif (Bool.rec (motive := fun _ => Bool) (checkAll s.cs (revL s.hs [s.h])) true (quiet rnC)) (some (X.norm, clr s.f, s.h)) = _
  rw [e4, e2, e3]
  cases quiet rnC <;> rfl
theorem test_end (k : Sc h id off n c a) (ha : Nat.blt a n = false)
    (hL : L = L0 (.ptr id off) (.func (.func fid) [] []) a0 ∨ ∃ x, L = L1 (.ptr id off) (.func (.func fid) [] []) a0 x) :
    exec call false N (.regD rnC) ⟨L, []⟩ h = some (.norm, ⟨L1 (.ptr id off) (.func (.func fid) [] []) a0 (.bool false), []⟩, h) := by
  have main : ∃ s, runOpsD call rnC ⟨⟨L, []⟩, h, [], []⟩ = some s ∧ s.h = h ∧ clr s.f = ⟨L1 (.ptr id off) (.func (.func fid) [] []) a0 (.bool false), []⟩ ∧ checkAll s.cs (revL s.hs [s.h]) = true := by
    have e19 : POp.run (.bin .lss) [.int .i64 (Int.ofNat a), .int .i64 (Int.ofNat n)] = some (.bool false) := by
      show some (V.bool (Nat.blt a n)) = _
      rw [ha]
    rcases hL with rfl | ⟨x, rfl⟩
    all_goals
      refine ⟨_, runOpsD_p rfl rfl rfl <| runOpsD_p rfl rfl rfl <| runOpsD_p rfl rfl rfl <| runOpsD_r rfl rfl k.l1 <| runOpsD_p rfl rfl rfl <| runOpsD_p rfl rfl rfl <| runOpsD_p rfl rfl rfl <| runOpsD_r rfl rfl k.l0 <|
        runOpsD_p rfl rfl rfl <| runOpsD_p rfl rfl e19 <| runOpsD_p rfl rfl rfl <| runOpsD_n rfl rfl <| runOpsD_n rfl rfl <| runOpsD_n rfl rfl <| runOpsD_n rfl rfl <| runOpsD_n rfl rfl <|
        runOpsD_n rfl rfl <| runOpsD_n rfl rfl <| runOpsD_n rfl rfl <| runOpsD_n rfl rfl <| runOpsD_n rfl rfl <| runOpsD_ne rfl rfl <| runOpsD_p rfl rfl rfl <| runOpsD_nil _ _, rfl, rfl, ?_⟩
      refine k.checks (fun q hq => ?_) (fun q hq => ?_)
      · have hq : q ∈ [h, h] := hq
        simpa using hq
      · have hq : q ∈ ([⟨.load false 1, [.ptr id (Nat.add off 0)], .str n c, 0, 0⟩, ⟨.load false 1, [.ptr id (Nat.add off 1)], .int .i64 (Int.ofNat a), 0, 0⟩] : List Tc) := hq
        simp only [List.mem_cons, List.not_mem_nil, or_false] at hq
        rcases hq with rfl | rfl
        · exact .inl ⟨_, _, rfl⟩
        · exact .inr ⟨_, _, rfl⟩
  obtain ⟨s, e1, e2, e3, e4⟩ := main
  show ob (runOpsD call rnC ⟨⟨L, []⟩, h, [], []⟩) (fun s => oif (Bool.rec (motive := fun _ => Bool) (checkAll s.cs (revL s.hs [s.h])) true (quiet rnC)) (some (X.norm, clr s.f, s.h))) = _
  rw [e1]
  show oif (Bool.rec (motive := fun _ => Bool) (checkAll s.cs (revL s.hs [s.h])) true (quiet rnC)) (some (X.norm, clr s.f, s.h)) = _
  rw [e4, e2, e3]
  cases quiet rnC <;> rfl
end
theorem wrap_small {m : Nat} (h : Nat.blt m 9223372036854775808 = true) : wrapF .i64 (Int.ofNat m) = Int.ofNat m := by
  show (Bool.rec (motive := fun _ => Int) _ (Int.ofNat m) (Nat.blt m 9223372036854775808) : Int) = _
  rw [h]
/-- The step over a byte. -/
theorem step_in {call : CallT} {h h1 : H} {id off n c a : Nat} {fn a0 x : V} {N : Nat} (k : Sc h id off n c a) (ha : Nat.blt (a + 1) 9223372036854775808 = true) (hs : setAt h id (off + 1) (.int .i64 (Int.ofNat (a + 1))) = some h1) :
    exec call false N (.block 1 (.reg rnP)) ⟨L1 (.ptr id off) fn a0 x, []⟩ h = some (.norm, ⟨L1 (.ptr id off) fn a0 x, []⟩, h1) := by
  have e37 : POp.run (.bin .add) [.int .i64 (Int.ofNat a), .int .i64 1] = some (.int .i64 (Int.ofNat (a + 1))) := by
    show some (V.int .i64 (wrapF .i64 (Int.ofNat (a + 1)))) = _
    rw [wrap_small ha]
  have e39 : EOp.run (.store 1) [.ptr id (Nat.add off 1), .int .i64 (Int.ofNat (a + 1))] h = some (undefV, h1) := by
    show ob (ob (h.wr1 id (off + 1) (.int .i64 (Int.ofNat (a + 1)))) fun h => some h) (fun h => some (undefV, h)) = _
    rw [setAt_wr1 hs rfl]
    rfl
  have main : ∃ f, runOps call rnP ⟨L1 (.ptr id off) fn a0 x, []⟩ h = some (f, h1) ∧ clr f = ⟨L1 (.ptr id off) fn a0 x, []⟩ :=
    ⟨_, runOps_p rfl rfl <| runOps_p rfl rfl <| runOps_p rfl rfl <| runOps_r rfl k.l1 <| runOps_p rfl e37 <| runOps_p rfl rfl <| runOps_p rfl rfl <| runOps_e rfl e39 runOps_nil, rfl⟩
  obtain ⟨f, e1, e2⟩ := main
  show blockX 1 (ob (runOps call rnP ⟨L1 (.ptr id off) fn a0 x, []⟩ h) fun r => some (X.norm, clr r.1, r.2)) = _
  rw [e1]
  show blockX 1 (some (X.norm, clr f, h1)) = _
  rw [e2]
  rfl
noncomputable section
def span (p : Nat → Bool) (k : Nat) : Nat → Nat := Nat.rec (motive := fun _ => Nat → Nat) (fun _ => 0) (fun _ ih c => Bool.rec (motive := fun _ => Nat) 0 (Nat.succ (ih (Nat.div c 256))) (p (Nat.mod c 256))) k
end
theorem span_succ (p : Nat → Bool) (k c : Nat) : span p (k + 1) c = if p (c % 256) = true then span p k (c / 256) + 1 else 0 := by
  show (Bool.rec (motive := fun _ => Nat) 0 (Nat.succ (span p k (c / 256))) (p (c % 256)) : Nat) = _
  rw [brec_eq]
theorem shr_step (c a : Nat) : c >>> (8 * (a + 1)) = c >>> (8 * a) / 256 := by
  rw [Nat.mul_add, Nat.shiftRight_add, Nat.mul_one, Nat.shiftRight_eq_div_pow _ 8]
/-- The loop. -/
theorem loop_in {call : CallT} {id off n c : Nat} {fid : FuncId} {a0 : V} {N : Nat} {p : Nat → Bool} (hcall : ∀ (b : Nat) (h : H), call (.fn fid) [.int .u8 (Int.ofNat b)] h = some (.bool (p b), h)) (hn : n < 1000000) (hid : id < keys) (hoff : off + 1 < keys) :
    ∀ (k : Nat) (a M : Nat) (h : H) (L : AL), a + k = n → k < M → h.rd id off 2 = some [.str n c, .int .i64 (Int.ofNat a)] → (0 < span p k (c >>> (8 * a)) → ∃ h', setAt h id (off + 1) (.int .i64 0) = some h') →
      (L = L0 (.ptr id off) (.func (.func fid) [] []) a0 ∨ ∃ x, L = L1 (.ptr id off) (.func (.func fid) [] []) a0 x) →
      ∃ h2 x, loopN (exec call false N rnBody) M ⟨L, []⟩ h = some (.exit 0, ⟨L1 (.ptr id off) (.func (.func fid) [] []) a0 x, []⟩, h2) ∧ h2.rd id off 2 = some [.str n c, .int .i64 (Int.ofNat (a + span p k (c >>> (8 * a))))] ∧
        (if span p k (c >>> (8 * a)) = 0 then h2 = h else setAt h id (off + 1) (.int .i64 (Int.ofNat (a + span p k (c >>> (8 * a))))) = some h2)
  | 0, a, M + 1, h, L, hk, hM, hr, _, hL => by
    have k := Sc.of hr
    have ha : Nat.blt a n = false := by
      cases q : Nat.blt a n with
      | false => rfl
      | true => have : a < n := by simpa using q
                omega
    refine ⟨h, .bool false, ?_, hr, rfl⟩
    show thenN (thenN (thenN (exec call false N (.regD rnC) ⟨L, []⟩ h) _) _) _ = _
    rw [test_end k ha hL]
    rfl
  | k + 1, a, M + 1, h, L, hk, hM, hr, hs, hL => by
    have sc := Sc.of hr
    have ha : Nat.blt a n = true := by simpa using (by omega : a < n)
    have hc := hcall (Nat.mod (Nat.shiftRight c (Nat.mul 8 a)) 256) h
    have t := test_in (N := N) sc ha hc hL
    have sp := span_succ p k (c >>> (8 * a))
    have hb : p (c >>> (8 * a) % 256) = p (Nat.mod (Nat.shiftRight c (Nat.mul 8 a)) 256) := rfl
    cases hp : p (Nat.mod (Nat.shiftRight c (Nat.mul 8 a)) 256) with
    | false =>
      rw [hb, hp] at sp
      have sp : span p (k + 1) (c >>> (8 * a)) = 0 := by simpa using sp
      rw [hp] at t
      refine ⟨h, .bool false, ?_, by rw [sp]; exact hr, by rw [sp]; rfl⟩
      show thenN (thenN (thenN (exec call false N (.regD rnC) ⟨L, []⟩ h) _) _) _ = _
      rw [t]
      rfl
    | true =>
      rw [hb, hp] at sp
      have sp : span p (k + 1) (c >>> (8 * a)) = span p k (c >>> (8 * a) / 256) + 1 := by simpa using sp
      rw [hp] at t
      obtain ⟨h0, e0⟩ := hs (by omega)
      obtain ⟨h1, e1⟩ := setAt_any e0 (.int .i64 (Int.ofNat (a + 1)))
      have st := step_in (call := call) (N := N) (fn := .func (.func fid) [] []) (a0 := a0) (x := .bool true) sc (by simpa using (by omega : a + 1 < 9223372036854775808)) e1
      have r1 := setAt_rd e1 hid hoff hr
      have idem : ∀ y, setAt h1 id (off + 1) y = setAt h id (off + 1) y := fun y => setAt_setAt e1 hid
      obtain ⟨h2, x, q1, q2, q3⟩ := loop_in (a0 := a0) (N := N) (p := p) hcall hn hid hoff k (a + 1) M h1 (L1 (.ptr id off) (.func (.func fid) [] []) a0 (.bool true)) (by omega) (by omega) r1 (fun _ => by
        obtain ⟨h3, e3⟩ := setAt_any e0 (.int .i64 0)
        exact ⟨h3, by rw [idem]; exact e3⟩) (.inr ⟨_, rfl⟩)
      rw [shr_step] at q2 q3
      refine ⟨h2, x, ?_, ?_, ?_⟩
      · show thenN (thenN (thenN (exec call false N (.regD rnC) ⟨L, []⟩ h) _) _) _ = _
        rw [t]
        show thenN (exec call false N (.block 1 (.reg rnP)) ⟨L1 (.ptr id off) (.func (.func fid) [] []) a0 (.bool true), []⟩ h) _ = _
        rw [st]
        exact q1
      · rw [sp, show a + (span p k (c >>> (8 * a) / 256) + 1) = a + 1 + span p k (c >>> (8 * a) / 256) by omega]
        exact q2
      · rw [sp, if_neg (by omega)]
        rw [idem] at q3
        split at q3
        · rename_i z
          rw [z, q3]
          exact e1
        · rw [show a + (span p k (c >>> (8 * a) / 256) + 1) = a + 1 + span p k (c >>> (8 * a) / 256) by omega]
          exact q3
/-- What comes behind the loop. -/
theorem fin_in {call : CallT} {h : H} {id off n c a a1 : Nat} {fn x : V} {N : Nat} (k : Sc h id off n c a1) (h1 : a ≤ a1) (h2 : a1 ≤ n) :
    ∃ f, exec call false N (.seq (.regD rnF) .ret) ⟨L1 (.ptr id off) fn (.int .i64 (Int.ofNat a)) x, []⟩ h = some (.ret, f, h) ∧ resOf f h [.tmp (.l 4)] = some [.str (Nat.sub a1 a) (Nat.mod (Nat.shiftRight c (Nat.mul 8 a)) (Nat.shiftLeft 1 (Nat.mul 8 (Nat.sub a1 a))))] := by
  have e49 : POp.run (.slc .str true true false) [.str n c, .int .i64 (Int.ofNat a), .int .i64 (Int.ofNat a1)] = some (.str (Nat.sub a1 a) (Nat.mod (Nat.shiftRight c (Nat.mul 8 a)) (Nat.shiftLeft 1 (Nat.mul 8 (Nat.sub a1 a))))) := by
    show ob (oif (Nat.ble a1 n) (some a1)) (fun h => ob (oif (Nat.ble a h) (some a)) fun l => some (V.str (Nat.sub h l) (Nat.mod (Nat.shiftRight c (Nat.mul 8 l)) (Nat.shiftLeft 1 (Nat.mul 8 (Nat.sub h l)))))) = _
    rw [ble_true h2]
    show ob (oif (Nat.ble a a1) (some a)) _ = _
    rw [ble_true h1]
    rfl
  have main : ∃ s, runOpsD call rnF ⟨⟨L1 (.ptr id off) fn (.int .i64 (Int.ofNat a)) x, []⟩, h, [], []⟩ = some s ∧ s.h = h ∧ resOf (clr s.f) h [.tmp (.l 4)] = some [.str (Nat.sub a1 a) (Nat.mod (Nat.shiftRight c (Nat.mul 8 a)) (Nat.shiftLeft 1 (Nat.mul 8 (Nat.sub a1 a))))] ∧ checkAll s.cs (revL s.hs [s.h]) = true := by
    refine ⟨_, runOpsD_p rfl rfl rfl <| runOpsD_p rfl rfl rfl <| runOpsD_p rfl rfl rfl <| runOpsD_r rfl rfl k.l0 <| runOpsD_p rfl rfl rfl <| runOpsD_p rfl rfl rfl <| runOpsD_p rfl rfl rfl <| runOpsD_p rfl rfl rfl <| runOpsD_r rfl rfl k.l1 <|
      runOpsD_p rfl rfl e49 <| runOpsD_p rfl rfl rfl <| runOpsD_nil _ _, rfl, rfl, ?_⟩
    refine k.checks (fun q hq => ?_) (fun q hq => ?_)
    · have hq : q ∈ [h] := hq
      simpa using hq
    · have hq : q ∈ ([⟨.load false 1, [.ptr id (Nat.add off 1)], .int .i64 (Int.ofNat a1), 0, 0⟩, ⟨.load false 1, [.ptr id (Nat.add off 0)], .str n c, 0, 0⟩] : List Tc) := hq
      simp only [List.mem_cons, List.not_mem_nil, or_false] at hq
      rcases hq with rfl | rfl
      · exact .inr ⟨_, _, rfl⟩
      · exact .inl ⟨_, _, rfl⟩
  obtain ⟨s, e1, e2, e3, e4⟩ := main
  refine ⟨clr s.f, ?_, e3⟩
  show thenN (ob (runOpsD call rnF ⟨⟨L1 (.ptr id off) fn (.int .i64 (Int.ofNat a)) x, []⟩, h, [], []⟩) (fun s => oif (Bool.rec (motive := fun _ => Bool) (checkAll s.cs (revL s.hs [s.h])) true (quiet rnF)) (some (X.norm, clr s.f, s.h)))) _ = _
  rw [e1]
  show thenN (oif (Bool.rec (motive := fun _ => Bool) (checkAll s.cs (revL s.hs [s.h])) true (quiet rnF)) (some (X.norm, clr s.f, s.h))) _ = _
  rw [e4, e2]
  cases quiet rnF <;> rfl
theorem span_le (p : Nat → Bool) : ∀ k c, span p k c ≤ k
  | 0, _ => Nat.le_refl _
  | k + 1, c => by
    rw [span_succ]
    have := span_le p k (c / 256)
    split <;> omega
noncomputable section
/-- The scanner goes over a row of bytes. -/
def spanP (p : Nat → Bool) (id off : Nat) (h : H) : Option (V × H) :=
  oif (Nat.blt id keys && Nat.blt (Nat.succ off) keys) <| ob (h.rd id off 2) fun l => caseL l none fun x t => caseL t none fun y t2 => caseL t2 (asStr (fun n c => asInt (fun k m => same k .i64 (Int.rec (motive := fun _ => Option (V × H)) (fun a =>
    oif (Nat.ble a n && Nat.blt n 1000000) <|
    (fun m => Bool.rec (motive := fun _ => Option (V × H)) (ob (setAt h id (Nat.succ off) (.int .i64 (Int.ofNat (Nat.add a m)))) fun h' => some (.str m (Nat.mod (Nat.shiftRight c (Nat.mul 8 a)) (Nat.shiftLeft 1 (Nat.mul 8 m))), h')) (some (.str 0 0, h)) (Nat.beq m 0)) (span p (Nat.sub n a) (Nat.shiftRight c (Nat.mul 8 a)))) (fun _ => none) m)) y) x) fun _ _ => none
def runP (vs : List V) (h : H) : Option (V × H) :=
  match vs with
  | [.ptr id off, .func (.func f) [] []] => Bool.rec (motive := fun _ => Option (V × H)) (Bool.rec (motive := fun _ => Option (V × H)) none (spanP digitB id off h) (Nat.beq f 73)) (spanP namedB id off h) (Nat.beq f 115)
  | _ => none
def primR (f : FuncId) : Option (List V → H → Option (V × H)) := if f = 115 then some (byteP namedB) else if f = 73 then some (byteP digitB) else none
def tabR (f : FuncId) : Option CF := if f = 69 then some cf69 else none
end
theorem run_enter {call : CallT} {fid : FuncId} {p : Nat → Bool} {id off : Nat} {h h' : H} {v : V} (hcall : ∀ (b : Nat) (h : H), call (.fn fid) [.int .u8 (Int.ofNat b)] h = some (.bool (p b), h)) (e : spanP p id off h = some (v, h')) :
    enter call 1000000 cf69 [.ptr id off, .func (.func fid) [] []] h = some (v, h') := by
  obtain ⟨e1, e2⟩ := oif_some.1 e
  simp only [Bool.and_eq_true, Nat.blt_eq] at e1
  obtain ⟨hid, hoff⟩ := e1
  have hoff : off + 1 < keys := hoff
  obtain ⟨l, e3, e4⟩ := ob_some.1 e2
  cases l with
  | nil => cases e4
  | cons x l => cases l with
    | nil => cases e4
    | cons y l => cases l with
      | cons _ _ => cases e4
      | nil =>
        cases x <;> first | (cases e4; done) | skip
        rename_i n c
        cases y <;> first | (cases e4; done) | skip
        rename_i kd m
        have e4 : same kd .i64 (Int.rec (motive := fun _ => Option (V × H)) (fun a => oif (Nat.ble a n && Nat.blt n 1000000) <|
            (fun m => Bool.rec (motive := fun _ => Option (V × H)) (ob (setAt h id (Nat.succ off) (.int .i64 (Int.ofNat (Nat.add a m)))) fun h' => some (V.str m (Nat.mod (Nat.shiftRight c (Nat.mul 8 a)) (Nat.shiftLeft 1 (Nat.mul 8 m))), h')) (some (.str 0 0, h)) (Nat.beq m 0)) (span p (Nat.sub n a) (Nat.shiftRight c (Nat.mul 8 a)))) (fun _ => none) m) = some (v, h') := e4
        rw [same_eq] at e4
        obtain ⟨e5, e6⟩ := oif_some.1 e4
        have hkd : kd = .i64 := by cases kd <;> first | rfl | cases e5
        subst hkd
        cases m with
        | negSucc _ => cases e6
        | ofNat a =>
          obtain ⟨e7, e8⟩ := oif_some.1 e6
          simp only [Bool.and_eq_true, Nat.blt_eq, Nat.ble_eq] at e7
          obtain ⟨han, hn⟩ := e7
          have e8 : (Bool.rec (motive := fun _ => Option (V × H)) (ob (setAt h id (off + 1) (.int .i64 (Int.ofNat (a + span p (n - a) (c >>> (8 * a)))))) fun h' => some (V.str (span p (n - a) (c >>> (8 * a))) (Nat.mod (Nat.shiftRight c (Nat.mul 8 a)) (Nat.shiftLeft 1 (Nat.mul 8 (span p (n - a) (c >>> (8 * a)))))), h')) (some (.str 0 0, h)) (Nat.beq (span p (n - a) (c >>> (8 * a))) 0) : Option (V × H)) = some (v, h') := e8
          have sc := Sc.of e3
          have hsp := span_le p (n - a) (c >>> (8 * a))
          have hex : 0 < span p (n - a) (c >>> (8 * a)) → ∃ h', setAt h id (off + 1) (.int .i64 0) = some h' := fun hpos => by
            have : Nat.beq (span p (n - a) (c >>> (8 * a))) 0 = false := beq_false' (by omega)
            rw [this] at e8
            obtain ⟨h1, k1, _⟩ := ob_some.1 e8
            exact setAt_any k1 _
          obtain ⟨h2, x, q1, q2, q3⟩ := loop_in (a0 := .int .i64 (Int.ofNat a)) (N := 1000000) (p := p) hcall hn hid hoff (n - a) a 1000000 h (L0 (.ptr id off) (.func (.func fid) [] []) (.int .i64 (Int.ofNat a))) (by omega) (by omega) e3 hex (.inl rfl)
          obtain ⟨f, q4, q5⟩ := fin_in (call := call) (N := 1000000) (fn := .func (.func fid) [] []) (x := x) (Sc.of q2) (Nat.le_add_right _ _) (by omega : a + span p (n - a) (c >>> (8 * a)) ≤ n)
          have hr : v = .str (Nat.sub (a + span p (n - a) (c >>> (8 * a))) a) (Nat.mod (Nat.shiftRight c (Nat.mul 8 a)) (Nat.shiftLeft 1 (Nat.mul 8 (Nat.sub (a + span p (n - a) (c >>> (8 * a))) a)))) ∧ h' = h2 := by
            have hsub : Nat.sub (a + span p (n - a) (c >>> (8 * a))) a = span p (n - a) (c >>> (8 * a)) := Nat.add_sub_cancel_left _ _
            rw [hsub]
            by_cases z : span p (n - a) (c >>> (8 * a)) = 0
            · rw [z] at e8 q3 ⊢
              cases e8
              rw [if_pos rfl] at q3
              refine ⟨?_, q3.symm⟩
              show V.str 0 0 = .str 0 ((c >>> (8 * a)) % (1 <<< (8 * 0)))
              congr 1
              rw [Nat.mul_zero]
              exact (Nat.mod_one _).symm
            · rw [if_neg z] at q3
              rw [beq_false' z] at e8
              obtain ⟨h1, k1, k2⟩ := ob_some.1 e8
              rw [q3] at k1
              cases k1
              cases k2
              exact ⟨rfl, rfl⟩
          obtain ⟨rfl, rfl⟩ := hr
          rw [cf69_is]
          unfold enter
          have pre : exec call false 1000000 (.seq (.reg rnA) (.seq (.reg rnB) (.seq (.block 0 (.loop rnBody)) (.seq (.regD rnF) .ret)))) ⟨numbered [.ptr id off, .func (.func fid) [] []] 0, []⟩ h = some (.ret, f, h') := by
            have a1 : runOps call rnA ⟨numbered [.ptr id off, .func (.func fid) [] []] 0, []⟩ h = some (⟨[(0, .ptr id off), (1, .func (.func fid) [] []), (4, .str 0 0)], []⟩, h) := runOps_p rfl rfl runOps_nil
            have b1 : ∃ f1, runOps call rnB ⟨[(0, .ptr id off), (1, .func (.func fid) [] []), (4, .str 0 0)], []⟩ h = some (f1, h) ∧ clr f1 = ⟨L0 (.ptr id off) (.func (.func fid) [] []) (.int .i64 (Int.ofNat a)), []⟩ :=
              ⟨_, runOps_p rfl rfl <| runOps_p rfl rfl <| runOps_p rfl rfl <| runOps_r rfl sc.l1 <| runOps_p rfl rfl runOps_nil, rfl⟩
            obtain ⟨f1, b2, b3⟩ := b1
            show thenN (ob (runOps call rnA ⟨numbered [.ptr id off, .func (.func fid) [] []] 0, []⟩ h) fun r => some (X.norm, clr r.1, r.2)) _ = _
            rw [a1]
            show thenN (ob (runOps call rnB ⟨[(0, .ptr id off), (1, .func (.func fid) [] []), (4, .str 0 0)], []⟩ h) fun r => some (X.norm, clr r.1, r.2)) _ = _
            rw [b2]
            show thenN (blockX 0 (loopN (exec call false 1000000 rnBody) 1000000 (clr f1) h)) _ = _
            rw [b3, q1]
            exact q4
          show oif (Nat.beq (lenL [V.ptr id off, .func (.func fid) [] []]) 2) (ob (exec call false 1000000 (.seq (.reg rnA) (.seq (.reg rnB) (.seq (.block 0 (.loop rnBody)) (.seq (.regD rnF) .ret)))) ⟨numbered [.ptr id off, .func (.func fid) [] []] 0, []⟩ h) _) = _
          rw [pre]
          show ob (resOf f h' [.tmp (.l 4)]) (fun l => some (oneOrTup l, h')) = _
          rw [q5]
          rfl
theorem primR_ok : PrimOk Tryz.prog TP primR := by
  intro f p e vs h v h' k g w us r hG hv
  unfold primR at e
  split at e
  · rename_i q; subst q; cases e; exact named_ok vs h v h' k g w us r hG hv
  · split at e
    · rename_i q; subst q; cases e; exact digit_ok vs h v h' k g w us r hG hv
    · cases e
theorem tabR_ok : TabOk Tryz.prog TP tabR := by
  intro f cf e
  unfold tabR at e
  split at e
  · rename_i q; subst q; cases e; exact ⟨_, Tryz.func69, beq_eq_false_iff_ne.1 (by decide), cf69_ok⟩
  · cases e
theorem run_ok : PrimOf 69 runP := by
  intro vs h v h' e g w us r hG hv
  have main : callN primR tabR 2 (.fn 69) vs h = some (v, h') := by
    unfold runP at e
    split at e
    · rename_i id off f
      rw [brec_eq] at e
      split at e
      · rename_i q
        obtain rfl : f = 115 := Nat.eq_of_beq_eq_true q
        exact callN_tab rfl rfl (run_enter (fun b h => callN_prim (n := 0) (f := 115) rfl rfl) e)
      · rw [brec_eq] at e
        split at e
        · rename_i q
          obtain rfl : f = 73 := Nat.eq_of_beq_eq_true q
          exact callN_tab rfl rfl (run_enter (fun b h => callN_prim (n := 0) (f := 73) rfl rfl) e)
        · cases e
    · cases e
  exact (callN_ok tyOk mixed primR_ok tabR_ok 2).fn 69 vs h v h' main g w us r hG hv
end Ev
end Go.Proofs.YtchmfcjfdhokoaaGreatDoor
namespace Go.Proofs.YtchmfcjfdhokoaaGreatDoor
namespace Ev
open Go.RowKit
set_option maxHeartbeats 1000000 in
theorem src_none (s : ByteArray) (w : World) (h1 : (s.toList == [115, 101, 114, 118, 101, 114]) = false) (h2 : (s.toList == [115, 116, 97, 116, 101, 109]) = false) (h3 : (s.toList == [115, 117, 112, 101, 114, 118, 105, 115, 111, 114]) = false) :
    Calls Tryz.prog 6 #[.string s] w fun e w' => e = .returned (.tuple #[.string ByteArray.empty, .int .i64 4]) ∧ Still w w' := by
  go_enter Tryz.func6, Tryz.ntmps6
  go_wp2
  all_goals first | (exfalso; simp_all; done) | skip
  simp [bodyPost, results, Tryz.results6, go_sem, Still.refl]
  rfl
set_option maxHeartbeats 1000000 in
theorem exp_none (s : ByteArray) (w : World) (h1 : (s.toList == [115, 101, 114, 118, 101, 114]) = false) (h2 : (s.toList == [115, 116, 97, 116, 101, 109]) = false) (h3 : (s.toList == [115, 117, 112, 101, 114, 118, 105, 115, 111, 114]) = false) :
    Calls Tryz.prog 7 #[.string s] w fun e w' => e = .returned (.slice none 0 0) ∧ Still w w' := by
  go_enter Tryz.func7, Tryz.ntmps7
  go_wp2
  all_goals first | (exfalso; simp_all; done) | skip
  go_ret
  exact ⟨rfl, Still.refl w⟩
end Ev
end Go.Proofs.YtchmfcjfdhokoaaGreatDoor
