/-
  SchedKnown: the walk; queues that were not made by New.
-/
import Derived.Test.YtpfmpfmbmipglaaAt
namespace Go.Proofs.Ytpfmpfmbmipglaa.schedKnown
open Go.RowKit Go.Proofs.Ytpfmpfmbmipglaa

set_option maxHeartbeats 400000 in
theorem put_nil (id p : Int) (w : World) : Calls Try.prog 11 #[.pointer none, .int .i64 id, .int .i64 p] w fun e w' => e = .returned (.int .i64 1) ∧ w = w' := by
  go_enter Try.func11, Try.ntmps11
  go_wp2_with (go_at_call 21; refine (is_none _).mono ?_; rintro e w' ⟨rfl, rfl⟩)
  go_ret
  exact ⟨rfl, rfl⟩
set_option maxHeartbeats 400000 in
theorem put_zero (zb : Nat) (id p : Int) (w : World) (hc : w.cell? ⟨zb, 12, none⟩ = some (.map none)) : Calls Try.prog 11 #[.pointer (some ⟨zb, 0, none⟩), .int .i64 id, .int .i64 p] w fun e w' => e = .returned (.int .i64 1) ∧ w = w' := by
  go_enter Try.func11, Try.ntmps11
  go_wp2_with (go_at_call 21; refine (is_zero zb _ hc).mono ?_; rintro e w' ⟨rfl, rfl⟩)
  go_ret
  exact ⟨rfl, rfl⟩
set_option maxHeartbeats 400000 in
theorem pick_nil (w : World) : Calls Try.prog 12 #[.pointer none] w fun e w' => e = .returned (.tuple #[.int .i64 0, .bool false]) ∧ w = w' := by
  go_enter Try.func12, Try.ntmps12
  go_wp2_with (go_at_call 21; refine (is_none _).mono ?_; rintro e w' ⟨rfl, rfl⟩)
  go_ret2
  exact ⟨rfl, rfl⟩
set_option maxHeartbeats 400000 in
theorem list_nil (p : Int) (w : World) : Calls Try.prog 15 #[.pointer none, .int .i64 p] w fun e w' => e = .returned (.slice none 0 0) ∧ w = w' := by
  go_enter Try.func15, Try.ntmps15
  go_wp2_with (go_at_call 21; refine (is_none _).mono ?_; rintro e w' ⟨rfl, rfl⟩)
  go_ret
  exact ⟨rfl, rfl⟩
set_option maxHeartbeats 400000 in
theorem len_zero (zb : Nat) (w : World) (hc : w.cell? ⟨zb, 12, none⟩ = some (.map none)) : Calls Try.prog 16 #[.pointer (some ⟨zb, 0, none⟩)] w fun e w' => e = .returned (.int .i64 0) ∧ w = w' := by
  go_enter Try.func16, Try.ntmps16
  go_wp2_with (go_at_call 21; refine (is_zero zb _ hc).mono ?_; rintro e w' ⟨rfl, rfl⟩)
  go_ret
  exact ⟨rfl, rfl⟩
set_option maxHeartbeats 400000 in
theorem drop_zero (zb : Nat) (id : Int) (w : World) (hc : w.cell? ⟨zb, 12, none⟩ = some (.map none)) : Calls Try.prog 18 #[.pointer (some ⟨zb, 0, none⟩), .int .i64 id] w fun e w' => e = .returned (.bool false) ∧ w = w' := by
  go_enter Try.func18, Try.ntmps18
  go_wp2_with (go_at_call 21; refine (is_zero zb _ hc).mono ?_; rintro e w' ⟨rfl, rfl⟩)
  go_ret
  exact ⟨rfl, rfl⟩

theorem has_at {w : World} {B qb : Nat} {s : St} (q : QS w B qb s) (id p : Int) (b : Bool) (hp : s.prio id = p) (hb : decide (id ∈ s.ids) = b) :
    Calls Try.prog 19 #[.pointer (some ⟨qb, 0, none⟩), .int .i64 id] w fun r w' => r = .returned (.tuple #[.int .i64 p, .bool b]) ∧ QS w' B qb s ∧ Kept B w w' := by
  subst hp; subst hb
  refine (has_qs w B qb s q id).mono ?_
  rintro e w' ⟨rfl, q, k⟩
  exact ⟨rfl, q, Kept.of_below k⟩
theorem drop_at {w : World} {B qb : Nat} {s : St} (q : QS w B qb s) (hs : s.size < 1000000) (id : Int) (t : St) (b : Bool) (ht : s.drop id = t) (hb : decide (id ∈ s.ids) = b) :
    Calls Try.prog 18 #[.pointer (some ⟨qb, 0, none⟩), .int .i64 id] w fun r w' => r = .returned (.bool b) ∧ QS w' B qb t ∧ Kept B w w' := by
  subst ht; subst hb
  exact drop_qs w B qb s q hs id

theorem drop_gone {w : World} {B qb : Nat} {s : St} (q : QS w B qb s) {id : Int} (hid : id ∉ s.ids) :
    Calls Try.prog 18 #[.pointer (some ⟨qb, 0, none⟩), .int .i64 id] w fun r w' => r = .returned (.bool false) ∧ QS w' B qb s ∧ Below w.heap.size w w' := by
  have q0 := q
  obtain ⟨mb, N, R, h1, h2, h3, hF⟩ := q0
  rw [← ids_of h1 h2 h3] at hid
  refine (drop_no qb mb N s.c w R id hid).mono ?_
  rintro e w' ⟨rfl, t⟩
  exact ⟨rfl, q.to t, ⟨t.os, t.tape, t.output, by rw [t.heap]; simp, fun k hk => by rw [t.heap, Array.getElem?_push, if_neg (by omega)]⟩⟩

def Rel (w : World) (qb : Nat) (i : Value) (wr : World) : Prop := ∃ k : Nat, k ≤ 7 ∧ i = .int .i64 k ∧ QS wr w.heap.size qb ⟨[], [5], [6], k⟩ ∧ Kept w.heap.size w wr

theorem turn_pick (k : Nat) (hk : k < 7) : (St.mk [] [5] [6] k).pickId = 5 ∧ (St.mk [] [5] [6] k).pick = ⟨[], [], [6], k + 1⟩ := by
  have h : (St.mk [] [5] [6] k).c < 7 := by show (k : Int) < 7; omega
  have a : (St.mk [] [5] [6] k).next = 2 := by unfold St.next; rw [if_neg (by simp), if_pos ⟨by simp, by simp, h⟩]
  have c : (St.mk [] [5] [6] k).count = k + 1 := by unfold St.count; rw [if_neg (by simp), if_pos ⟨by simp, by simp, h⟩]
  obtain ⟨_, e1, e2⟩ := pick_norm (s := St.mk [] [5] [6] k) rfl a rfl
  exact ⟨e1, by rw [e2, c]⟩
theorem turn_put (k : Nat) : (St.mk [] [] [6] ((k : Int) + 1)).putErr 5 2 = 0 ∧ (St.mk [] [] [6] ((k : Int) + 1)).put 5 2 = ⟨[], [5], [6], ((k + 1 : Nat) : Int)⟩ := by
  constructor
  · simp [St.putErr, bad, St.ids]
  · simp [St.put, bad, St.ids, St.set, St.line]

set_option maxHeartbeats 8000000 in
set_option maxRecDepth 100000 in
theorem walk (w : World) : Calls Try.prog 9 #[] w fun e w' => e = .returned (.bool true) ∧ Below w.heap.size w w' := by
  go_enter Try.func9, Try.ntmps9
  go_wp2_with fail
  refine (new_qs w w.heap.size (Nat.le_refl _)).mono ?_
  rintro e w0 ⟨rfl, q, k⟩
  have Kw0 := Lib.hid (Kept.of_below (B := w.heap.size) k)
  have Qw0 := Lib.hid q
  clear k q
  generalize w.heap.size + 1 = qb at *
  go_wp2_with fail
  refine (put_at Qw0.out Kw0.out.size 5 2 (by omega) (by decide) 0 ⟨[], [5], [], 0⟩ rfl rfl).mono ?_
  rintro e w1 ⟨rfl, q, k⟩
  have Kw1 := Lib.hid (Kw0.out.trans k)
  have Qw1 := Lib.hid q
  clear k q
  go_wp2_with fail
  refine (put_at Qw1.out Kw1.out.size 6 3 (by omega) (by decide) 0 ⟨[], [5], [6], 0⟩ rfl rfl).mono ?_
  rintro e w2 ⟨rfl, q, k⟩
  have Kw2 := Lib.hid (Kw1.out.trans k)
  have Qw2 := Lib.hid q
  clear k q
  go_wp2_with fail
  refine (put_at Qw2.out Kw2.out.size 7 1 (by omega) (by decide) 0 ⟨[7], [5], [6], 0⟩ rfl rfl).mono ?_
  rintro e w3 ⟨rfl, q, k⟩
  have Kw3 := Lib.hid (Kw2.out.trans k)
  have Qw3 := Lib.hid q
  clear k q
  go_wp2_with fail
  refine (put_at Qw3.out Kw3.out.size 5 3 (by omega) (by decide) 8 ⟨[7], [5], [6], 0⟩ rfl rfl).mono ?_
  rintro e w4 ⟨rfl, q, k⟩
  have Kw4 := Lib.hid (Kw3.out.trans k)
  have Qw4 := Lib.hid q
  clear k q
  go_wp2_with fail
  refine (put_at Qw4.out Kw4.out.size 8 4 (by omega) (by decide) 2 ⟨[7], [5], [6], 0⟩ rfl rfl).mono ?_
  rintro e w5 ⟨rfl, q, k⟩
  have Kw5 := Lib.hid (Kw4.out.trans k)
  have Qw5 := Lib.hid q
  clear k q
  go_wp2_with fail
  refine (put_at Qw5.out Kw5.out.size (-1) 3 (by omega) (by decide) 2 ⟨[7], [5], [6], 0⟩ rfl rfl).mono ?_
  rintro e w6 ⟨rfl, q, k⟩
  have Kw6 := Lib.hid (Kw5.out.trans k)
  have Qw6 := Lib.hid q
  clear k q
  go_wp2_with fail
  refine (pick_at Qw6.out (by decide) 7 ⟨[], [5], [6], 0⟩ (by decide) rfl rfl).mono ?_
  rintro e w7 ⟨rfl, q, k⟩
  have Kw7 := Lib.hid (Kw6.out.trans k)
  have Qw7 := Lib.hid q
  clear k q
  go_wp2_with fail
  refine (has_at Qw7.out 6 3 true rfl (by decide)).mono ?_
  rintro e w8 ⟨rfl, q, k⟩
  have Kw8 := Lib.hid (Kw7.out.trans k)
  have Qw8 := Lib.hid q
  clear k q
  go_wp2_with fail
  refine (len_qs _ _ _ _ Qw8.out).mono ?_
  rintro e w9 ⟨rfl, rfl⟩
  rw [show (((St.mk [] [5] [6] 0).size : Nat) : Int) = 2 from rfl]
  clear Qw0 Qw1 Qw2 Qw3 Qw4 Qw5 Qw6 Qw7 Kw0 Kw1 Kw2 Kw3 Kw4 Kw5 Kw6 Kw7
  go_wp2
  go_loopw [6] (fun i wr => Rel w qb i wr) (fun i _ => 7 - (intOf i).toNat)
  case atStart => exact ⟨0, by omega, rfl, Qw8.out, Kw8.out⟩
  case round =>
    obtain ⟨k, hk, rfl, hq, hkept⟩ := hrel
    have HQ := Lib.hid hq
    have HK := Lib.hid hkept
    clear hq hkept Qw8 Kw8
    by_cases hlt : k < 7
    · have klt : (k : Int) < 7 := by omega
      have TP := Lib.hid (turn_pick k hlt)
      have TU := Lib.hid (turn_put k)
      have z1 : (St.mk [] [5] [6] (k : Int)).size < 1000000 := by show 2 < 1000000; omega
      have z2 : (St.mk [] [] [6] ((k : Int) + 1)).size < 1000000 := by show 1 < 1000000; omega
      have Z0 := Lib.hid (show (St.mk [] [5] [6] (k : Int)).size ≠ 0 by show (2 : Nat) ≠ 0; omega)
      as_aux_lemma =>
        go_wp2_with fail
        refine (pick_at HQ.out z1 5 _ Z0.out TP.out.1 TP.out.2).mono ?_
        rintro e w2 ⟨rfl, q, k2⟩
        have HQ2 := Lib.hid q
        have HK2 := Lib.hid (HK.out.trans k2)
        clear q k2
        go_wp2_with fail
        refine (put_at HQ2.out HK2.out.size 5 2 (by omega) z2 0 _ TU.out.1 TU.out.2).mono ?_
        rintro e w3 ⟨rfl, q, k2⟩
        have HQ3 := Lib.hid q
        have HK3 := Lib.hid (HK2.out.trans k2)
        clear q k2
        go_wp2
        exact ⟨⟨k + 1, by omega, by go_num, HQ3.out, HK3.out⟩, by simp [intOf]; omega⟩
    · have klt : ¬ (k : Int) < 7 := by omega
      obtain rfl : k = 7 := by omega
      have Qw0 := Lib.hid (show QS wr w.heap.size qb ⟨[], [5], [6], 7⟩ from HQ.out)
      have Kw0 := HK
      clear HQ HK
      as_aux_lemma =>
        go_wp2_with fail
        refine (pick_at Qw0.out (by decide) 6 ⟨[], [5], [], 0⟩ (by decide) rfl rfl).mono ?_
        rintro e w1 ⟨rfl, q, k⟩
        have Kw1 := Lib.hid (Kw0.out.trans k)
        have Qw1 := Lib.hid q
        clear k q
        go_wp2_with fail
        refine (pick_at Qw1.out (by decide) 5 ⟨[], [], [], 0⟩ (by decide) rfl rfl).mono ?_
        rintro e w2 ⟨rfl, q, k⟩
        have Kw2 := Lib.hid (Kw1.out.trans k)
        have Qw2 := Lib.hid q
        clear k q
        go_wp2_with fail
        refine (pick_at0 Qw2.out (by decide)).mono ?_
        rintro e w3 ⟨rfl, q, k⟩
        have Kw3 := Lib.hid (Kw2.out.trans k)
        have Qw3 := Lib.hid q
        clear k q
        clear Qw0 Qw1 Qw2 Kw0 Kw1 Kw2
        have BA := Lib.hid ((Below.refl w3.heap.size w3).alloc (Nat.le_refl _) (.cells #[.pointer none, .pointer none, .int .i64 0, .pointer none, .pointer none, .int .i64 0, .pointer none, .pointer none, .int .i64 0, .pointer none, .pointer none, .int .i64 0, .map none, .int .i64 0] 56))
        have QA := Lib.hid (Qw3.out.below BA.out)
        have KA := Lib.hid (Kw3.out.trans (Kept.of_below BA.out))
        have zc : (w3.alloc (.cells #[.pointer none, .pointer none, .int .i64 0, .pointer none, .pointer none, .int .i64 0, .pointer none, .pointer none, .int .i64 0, .pointer none, .pointer none, .int .i64 0, .map none, .int .i64 0] 56)).heap[w3.heap.size]? = some (.cells #[.pointer none, .pointer none, .int .i64 0, .pointer none, .pointer none, .int .i64 0, .pointer none, .pointer none, .int .i64 0, .pointer none, .pointer none, .int .i64 0, .map none, .int .i64 0] 56) := by show (w3.heap.push _)[_]? = _; simp
        have ZC := Lib.hid zc
        clear zc Qw3 Kw3
        go_wp2_with fail
        refine (pick_nil _).mono ?_
        rintro e w4 ⟨rfl, rfl⟩
        generalize w3.heap.size = zb at *
        generalize w3.alloc (.cells #[.pointer none, .pointer none, .int .i64 0, .pointer none, .pointer none, .int .i64 0, .pointer none, .pointer none, .int .i64 0, .pointer none, .pointer none, .int .i64 0, .map none, .int .i64 0] 56) = w5 at *
        go_wp2_with fail
        refine (drop_gone QA.out (by decide)).mono ?_
        rintro e w6 ⟨rfl, q6, k6⟩
        have K6 := Lib.hid (KA.out.trans (Kept.of_below k6))
        have z6 : w6.cell? ⟨zb, 12, none⟩ = some (.map none) := by rw [cell_of ((k6.block zb (lt_of ZC.out)).trans ZC.out)]; rfl
        clear q6 k6 KA QA BA ZC
        go_wp2_with fail
        refine (put_nil _ _ _).mono ?_
        rintro e w7 ⟨rfl, rfl⟩
        go_wp2_with fail
        refine (put_zero zb _ _ _ z6).mono ?_
        rintro e w7 ⟨rfl, rfl⟩
        go_wp2_with fail
        refine (len_zero zb _ z6).mono ?_
        rintro e w7 ⟨rfl, rfl⟩
        go_wp2_with fail
        refine (list_nil _ _).mono ?_
        rintro e w7 ⟨rfl, rfl⟩
        go_wp2_with fail
        refine (drop_zero zb _ _ z6).mono ?_
        rintro e w7 ⟨rfl, rfl⟩
        go_wp2_with fail
        refine (awake_any _).mono ?_
        rintro e w8 ⟨rfl, k2⟩
        have K2 := Lib.hid k2
        clear k2
        go_wp2
        go_ret
        exact ⟨rfl, (K6.out.trans (Kept.of_below K2.out)).toBelow⟩
end Go.Proofs.Ytpfmpfmbmipglaa.schedKnown
