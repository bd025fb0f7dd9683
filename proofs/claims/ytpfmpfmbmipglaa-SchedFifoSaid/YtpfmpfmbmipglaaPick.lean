/-
  The other ways of Put; line, Pick, Drop, Has and Len.
-/
import Derived.Test.YtpfmpfmbmipglaaOps
namespace Go.Proofs.Ytpfmpfmbmipglaa
open Go.RowKit

theorem where_cell {w : World} {qb mb : Nat} {N : Lines} {c : Int} (R : Rep w.heap qb mb N c) : w.cell? ⟨qb, 12, none⟩ = some (.map (some mb)) := by rw [cell_of R.q]; rfl

set_option maxHeartbeats 400000 in
theorem put_arg (qb mb : Nat) (N : Lines) (c : Int) (w : World) (R : Rep w.heap qb mb N c) (p id : Int) (h : id < 0 ∨ p < 1 ∨ 3 < p) :
    Calls Try.prog 11 #[.pointer (some ⟨qb, 0, none⟩), .int .i64 id, .int .i64 p] w fun e w' => e = .returned (.int .i64 2) ∧ w = w' := by
  have hc12 := where_cell R
  clear R
  by_cases a : id < 0
  · go_enter Try.func11, Try.ntmps11
    go_wp2_with (go_at_call 21; refine (is_yes qb mb _ hc12).mono ?_; rintro e w' ⟨rfl, rfl⟩)
    go_ret
    exact ⟨rfl, rfl⟩
  · have a' : decide (id < 0) = false := by simpa using a
    by_cases b : p < 1
    · clear h
      go_enter Try.func11, Try.ntmps11
      go_wp2_with (go_at_call 21; refine (is_yes qb mb _ hc12).mono ?_; rintro e w' ⟨rfl, rfl⟩)
      go_ret
      exact ⟨rfl, rfl⟩
    · have b' : decide (p < 1) = false := by simpa using b
      have d : 3 < p := by omega
      clear h
      go_enter Try.func11, Try.ntmps11
      go_wp2_with (go_at_call 21; refine (is_yes qb mb _ hc12).mono ?_; rintro e w' ⟨rfl, rfl⟩)
      go_ret
      exact ⟨rfl, rfl⟩

theorem Touch.alloc (F : Nat → Prop) {w w' : World} (o : Obj) (t : To w w' (w.heap.push o)) : Touch F w w' :=
  ⟨t.os, t.tape, t.output, by rw [t.heap]; simp, fun k hk _ => by rw [t.heap, Array.getElem?_push, if_neg (by omega)]⟩

set_option maxHeartbeats 400000 in
theorem put_twice (qb mb : Nat) (N : Lines) (c : Int) (w : World) (R : Rep w.heap qb mb N c) (p id : Int) (hi : 0 ≤ id) (h1 : 1 ≤ p) (h3 : p ≤ 3) (k : Nat) (k1 : 1 ≤ k) (k3 : k ≤ 3) (b : Nat) (hm : (b, id) ∈ N k) :
    Calls Try.prog 11 #[.pointer (some ⟨qb, 0, none⟩), .int .i64 id, .int .i64 p] w fun e w' => e = .returned (.int .i64 8) ∧ To w w' (w.heap.push (.cells #[.int .i64 k, .pointer (some ⟨b, 0, none⟩)] 58)) := by
  obtain ⟨E, ck, hmb, hE⟩ := R.m
  have hc12 := where_cell R
  have hlook := run_lookup_ents w Try.underlying54 Try.underlying2 (zero58 w) hmb id
  obtain ⟨j, e, _, _, _, _, hf⟩ := find_present hE k1 k3 hm
  simp only at hf
  rw [hf] at hlook
  simp only [Option.map_some, Option.getD_some, Option.isSome_some] at hlook
  clear hf hE R hmb
  go_enter Try.func11, Try.ntmps11
  go_wp2_with (go_at_call 21; refine (is_yes qb mb _ hc12).mono ?_; rintro e w' ⟨rfl, rfl⟩)
  go_ret
  exact ⟨rfl, rfl, rfl, rfl, rfl⟩

set_option maxHeartbeats 400000 in
theorem has_yes (qb mb : Nat) (N : Lines) (c : Int) (w : World) (R : Rep w.heap qb mb N c) (id : Int) (k : Nat) (k1 : 1 ≤ k) (k3 : k ≤ 3) (b : Nat) (hm : (b, id) ∈ N k) :
    Calls Try.prog 19 #[.pointer (some ⟨qb, 0, none⟩), .int .i64 id] w fun e w' => e = .returned (.tuple #[.int .i64 k, .bool true]) ∧ To w w' (w.heap.push (.cells #[.int .i64 k, .pointer (some ⟨b, 0, none⟩)] 58)) := by
  obtain ⟨E, ck, hmb, hE⟩ := R.m
  have hc12 := where_cell R
  have hlook := run_lookup_ents w Try.underlying54 Try.underlying2 (zero58 w) hmb id
  obtain ⟨j, e, _, _, _, _, hf⟩ := find_present hE k1 k3 hm
  simp only at hf
  rw [hf] at hlook
  simp only [Option.map_some, Option.getD_some, Option.isSome_some] at hlook
  clear hf hE R hmb
  go_enter Try.func19, Try.ntmps19
  go_wp2_with (go_at_call 21; refine (is_yes qb mb _ hc12).mono ?_; rintro e w' ⟨rfl, rfl⟩)
  go_ret2
  exact ⟨rfl, rfl, rfl, rfl, rfl⟩

set_option maxHeartbeats 400000 in
theorem has_no (qb mb : Nat) (N : Lines) (c : Int) (w : World) (R : Rep w.heap qb mb N c) (id : Int) (hid : id ∉ idsOf N) :
    Calls Try.prog 19 #[.pointer (some ⟨qb, 0, none⟩), .int .i64 id] w fun e w' => e = .returned (.tuple #[.int .i64 0, .bool false]) ∧ To w w' (w.heap.push (.cells #[.int .i64 0, .pointer none] 58)) := by
  obtain ⟨E, ck, hmb, hE⟩ := R.m
  have hc12 := where_cell R
  have hlook := run_lookup_ents w Try.underlying54 Try.underlying2 (zero58 w) hmb id
  rw [find_absent hE hid] at hlook
  simp only [Option.map_none, Option.getD_none, Option.isSome_none] at hlook
  clear hE R hmb
  go_enter Try.func19, Try.ntmps19
  go_wp2_with (go_at_call 21; refine (is_yes qb mb _ hc12).mono ?_; rintro e w' ⟨rfl, rfl⟩)
  go_ret2
  exact ⟨rfl, rfl, rfl, rfl, rfl⟩

set_option maxHeartbeats 400000 in
theorem drop_no (qb mb : Nat) (N : Lines) (c : Int) (w : World) (R : Rep w.heap qb mb N c) (id : Int) (hid : id ∉ idsOf N) :
    Calls Try.prog 18 #[.pointer (some ⟨qb, 0, none⟩), .int .i64 id] w fun e w' => e = .returned (.bool false) ∧ To w w' (w.heap.push (.cells #[.int .i64 0, .pointer none] 58)) := by
  obtain ⟨E, ck, hmb, hE⟩ := R.m
  have hc12 := where_cell R
  have hlook := run_lookup_ents w Try.underlying54 Try.underlying2 (zero58 w) hmb id
  rw [find_absent hE hid] at hlook
  simp only [Option.map_none, Option.getD_none, Option.isSome_none] at hlook
  clear hE R hmb
  go_enter Try.func18, Try.ntmps18
  go_wp2_with (go_at_call 21; refine (is_yes qb mb _ hc12).mono ?_; rintro e w' ⟨rfl, rfl⟩)
  go_ret
  exact ⟨rfl, rfl, rfl, rfl, rfl⟩

theorem run_len_ents {P : Program} (w : World) {m k el ty : TypeId} (hm : P.underlying m = some (.map k el)) {r : Nat} {E : List Ent} {c : Nat} (h : w.heap[r]? = some (.map (ents E) c)) :
    (Builtin.len_ #[m] ty #[.map (some r)]).run P w = .ok (.int .i64 E.length) w := by
  simp [Builtin.len_, run_underlying hm, run_getObj_m w h, Result.andThen, goInt, ents]

def total (N : Lines) : Nat := (N 1).length + (N 2).length + (N 3).length

set_option maxHeartbeats 400000 in
theorem len_any (qb mb : Nat) (N : Lines) (c : Int) (w : World) (R : Rep w.heap qb mb N c) :
    Calls Try.prog 16 #[.pointer (some ⟨qb, 0, none⟩)] w fun e w' => e = .returned (.int .i64 (total N)) ∧ w = w' := by
  obtain ⟨E, ck, hmb, hE⟩ := R.m
  have hc12 := where_cell R
  have hlen := run_len_ents (ty := 3) w Try.underlying54 hmb
  rw [show E.length = total N from hE.len] at hlen
  clear hE R hmb
  go_enter Try.func16, Try.ntmps16
  go_wp2_with (go_at_call 21; refine (is_yes qb mb _ hc12).mono ?_; rintro e w' ⟨rfl, rfl⟩)
  go_ret
  exact ⟨rfl, rfl⟩
end Go.Proofs.Ytpfmpfmbmipglaa
