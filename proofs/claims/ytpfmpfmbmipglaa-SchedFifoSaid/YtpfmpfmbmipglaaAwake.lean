/-
  awake; and SchedKnown, the examples of the document.
-/
import Derived.Test.YtpfmpfmbmipglaaQueue
namespace Go.Proofs.Ytpfmpfmbmipglaa
open Go.RowKit

theorem Kept.toBelow {w w' : World} (h : Kept w.heap.size w w') : Below w.heap.size w w' := by
  have := h.below
  simpa using this

/-- Put, at a state that is known. -/
theorem put_at {w : World} {B qb : Nat} {s : St} (q : QS w B qb s) (hB : B ≤ w.heap.size) (id p : Int) (hi : id ≤ 9223372036854775807) (hs : s.size < 1000000) (e : Int) (t : St) (he : s.putErr id p = e) (ht : s.put id p = t) :
    Calls Try.prog 11 #[.pointer (some ⟨qb, 0, none⟩), .int .i64 id, .int .i64 p] w fun r w' => r = .returned (.int .i64 e) ∧ QS w' B qb t ∧ Kept B w w' := by
  subst he; subst ht
  exact put_qs w B qb s q hB hs id p hi
theorem pick_at {w : World} {B qb : Nat} {s : St} (q : QS w B qb s) (hs : s.size < 1000000) (id : Int) (t : St) (h0 : s.size ≠ 0) (he : s.pickId = id) (ht : s.pick = t) :
    Calls Try.prog 12 #[.pointer (some ⟨qb, 0, none⟩)] w fun r w' => r = .returned (.tuple #[.int .i64 id, .bool true]) ∧ QS w' B qb t ∧ Kept B w w' := by
  subst he; subst ht
  have := pick_qs w B qb s q hs
  simpa [h0] using this
theorem pick_at0 {w : World} {B qb : Nat} {s : St} (q : QS w B qb s) (h0 : s.size = 0) :
    Calls Try.prog 12 #[.pointer (some ⟨qb, 0, none⟩)] w fun r w' => r = .returned (.tuple #[.int .i64 0, .bool false]) ∧ QS w' B qb s ∧ Kept B w w' := by
  have := pick_qs w B qb s q (by omega)
  simpa [h0, St.pick] using this

set_option maxHeartbeats 1000000 in
theorem awake_any (w : World) : Calls Try.prog 13 #[] w fun e w' => e = .returned (.bool true) ∧ Below w.heap.size w w' := by
  go_enter Try.func13, Try.ntmps13
  go_wp2_with fail
  refine (new_qs w w.heap.size (Nat.le_refl _)).mono ?_
  rintro e w1 ⟨rfl, q, k⟩
  have K := Lib.hid (Kept.of_below (B := w.heap.size) k)
  have Q := Lib.hid q
  clear k q
  go_wp2_with fail
  refine (put_at Q.out K.out.size 5 2 (by omega) (by decide) 0 ⟨[], [5], [], 0⟩ rfl rfl).mono ?_
  clear Q
  rintro e w2 ⟨rfl, q, k⟩
  have K2 := Lib.hid (K.out.trans k)
  have Q := Lib.hid q
  clear k q K
  go_wp2_with fail
  refine (put_at Q.out K2.out.size 6 3 (by omega) (by decide) 0 ⟨[], [5], [6], 0⟩ rfl rfl).mono ?_
  clear Q
  rintro e w3 ⟨rfl, q, k⟩
  have K := Lib.hid (K2.out.trans k)
  have Q := Lib.hid q
  clear k q K2
  go_wp2_with fail
  refine (put_at Q.out K.out.size 7 1 (by omega) (by decide) 0 ⟨[7], [5], [6], 0⟩ rfl rfl).mono ?_
  clear Q
  rintro e w4 ⟨rfl, q, k⟩
  have K2 := Lib.hid (K.out.trans k)
  have Q := Lib.hid q
  clear k q K
  go_wp2_with fail
  refine (pick_at Q.out (by decide) 7 ⟨[], [5], [6], 0⟩ (by decide) rfl rfl).mono ?_
  clear Q
  rintro e w5 ⟨rfl, q, k⟩
  have K := Lib.hid (K2.out.trans k)
  have Q := Lib.hid q
  clear k q K2
  go_wp2_with fail
  refine (pick_at Q.out (by decide) 5 ⟨[], [], [6], 1⟩ (by decide) rfl rfl).mono ?_
  clear Q
  rintro e w6 ⟨rfl, q, k⟩
  have K2 := Lib.hid (K.out.trans k)
  have Q := Lib.hid q
  clear k q K
  go_wp2_with fail
  refine (pick_at Q.out (by decide) 6 ⟨[], [], [], 0⟩ (by decide) rfl rfl).mono ?_
  clear Q
  rintro e w7 ⟨rfl, q, k⟩
  have K := Lib.hid (K2.out.trans k)
  have Q := Lib.hid q
  clear k q K2
  go_wp2_with fail
  refine (pick_at0 Q.out (by decide)).mono ?_
  clear Q
  rintro e w8 ⟨rfl, q, k⟩
  have K2 := Lib.hid (K.out.trans k)
  clear k q K
  go_wp2
  go_ret
  exact ⟨rfl, K2.out.toBelow⟩
end Go.Proofs.Ytpfmpfmbmipglaa
