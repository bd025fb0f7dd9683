/-
  The walks of is, New, push and remove: what each does to the heap, block by block.
-/
import Derived.Test.YtpfmpfmbmipglaaMap
import Derived.Deep.QuietTactic
import Derived.BigQuiet
import Derived.Lib.Hide
namespace Go.Proofs.Ytpfmpfmbmipglaa
open Go.RowKit

/-- w' is w with another heap. -/
structure To (w w' : World) (h : Array Obj) : Prop where
  heap : w'.heap = h
  os : w'.os = w.os
  tape : w'.tape = w.tape
  output : w'.output = w.output

theorem To.trans {a b c : World} {h k : Array Obj} (x : To a b h) (y : To b c k) : To a c k := ⟨y.heap, y.os.trans x.os, y.tape.trans x.tape, y.output.trans x.output⟩
theorem To.refl (w : World) : To w w w.heap := ⟨rfl, rfl, rfl, rfl⟩

/-- A store into a block's cell. -/
def put (h : Array Obj) (b o : Nat) (v : Value) : Array Obj :=
  h.modify b fun
    | .cells c elem frozen => .cells (c.setIfInBounds o v) elem frozen
    | o => o

theorem heap_setCell (w : World) (b o : Nat) (v : Value) : (w.setCell ⟨b, o, none⟩ v).heap = put w.heap b o v := rfl

theorem put_same {h : Array Obj} {b o : Nat} {v : Value} {c : Array Value} {t : TypeId} {f : Nat × Nat} (hb : h[b]? = some (.cells c t f)) : (put h b o v)[b]? = some (.cells (c.setIfInBounds o v) t f) := by
  simp [put, Array.getElem?_modify, hb]
theorem put_other {h : Array Obj} {b o : Nat} {v : Value} {k : Nat} (hk : k ≠ b) : (put h b o v)[k]? = h[k]? := by
  simp [put, Array.getElem?_modify, Ne.symm hk]
theorem put_size (h : Array Obj) (b o : Nat) (v : Value) : (put h b o v).size = h.size := by simp [put]

theorem neqMap (w : World) (r : Option Nat) : (binOp .neq 54 (.map r) (.map none)).run Try.prog w = .ok (.bool (!r.isNone)) w := run_neq_map_nil w _ _ _ r Try.underlying54

set_option maxHeartbeats 400000 in
theorem is_yes (qb mb : Nat) (w : World) (hc : w.cell? ⟨qb, 12, none⟩ = some (.map (some mb))) :
    Calls Try.prog 21 #[.pointer (some ⟨qb, 0, none⟩)] w fun e w' => e = .returned (.bool true) ∧ w = w' := by
  have q := neqMap
  go_enter Try.func21, Try.ntmps21
  go_wp2
  go_ret
  exact ⟨rfl, rfl⟩

set_option maxHeartbeats 400000 in
theorem is_none (w : World) :
    Calls Try.prog 21 #[.pointer none] w fun e w' => e = .returned (.bool false) ∧ w = w' := by
  have q := neqMap
  go_enter Try.func21, Try.ntmps21
  go_wp2
  go_ret
  exact ⟨rfl, rfl⟩

set_option maxHeartbeats 400000 in
theorem is_zero (qb : Nat) (w : World) (hc : w.cell? ⟨qb, 12, none⟩ = some (.map none)) :
    Calls Try.prog 21 #[.pointer (some ⟨qb, 0, none⟩)] w fun e w' => e = .returned (.bool false) ∧ w = w' := by
  have q := neqMap
  go_enter Try.func21, Try.ntmps21
  go_wp2
  go_ret
  exact ⟨rfl, rfl⟩

/-- A pointer to the head of a block, or nil. -/
def pt : Option Nat → Value
  | none => .pointer none
  | some b => .pointer (some ⟨b, 0, none⟩)

/-- A link's block. -/
def link (id : Int) (p n : Option Nat) : Obj := .cells #[.int .i64 id, pt p, pt n] 63 (0, 0)

set_option maxHeartbeats 400000 in
theorem new_any (w : World) :
    Calls Try.prog 10 #[] w fun e w' => e = .returned (pt (some (w.heap.size + 1))) ∧
      To w w' ((w.heap.push (.map #[] 0)).push (.cells #[.pointer none, .pointer none, .int .i64 0, .pointer none, .pointer none, .int .i64 0, .pointer none, .pointer none, .int .i64 0, .pointer none, .pointer none, .int .i64 0, .map (some w.heap.size), .int .i64 0] 56 (0, 0))) := by
  have hmm := @run_makeMap Try.prog
  go_enter Try.func10, Try.ntmps10
  go_wp2
  go_ret
  exact ⟨rfl, rfl, rfl, rfl, rfl⟩

set_option maxHeartbeats 400000 in
theorem push_empty (qb o : Nat) (id n : Int) (w : World) (c0 : Value) (h0 : w.cell? ⟨qb, o, none⟩ = some c0) (h1 : w.cell? ⟨qb, o + 1, none⟩ = some (.pointer none)) (h2 : w.cell? ⟨qb, o + 2, none⟩ = some (.int .i64 n))
    (hf : ∀ k, w.frozen? ⟨qb, k, none⟩ = false) (hq : qb < w.heap.size) (hn0 : 0 ≤ n) (hn : n < 4611686018427387904) :
    Calls Try.prog 22 #[.pointer (some ⟨qb, o, none⟩), .int .i64 id] w fun e w' => e = .returned (pt (some w.heap.size)) ∧
      To w w' ((put (put (put w.heap qb o (pt (some w.heap.size))) qb (o + 1) (pt (some w.heap.size))) qb (o + 2) (.int .i64 (n + 1))).push (link id none none)) := by
  go_enter Try.func22, Try.ntmps22
  go_wp2
  go_ret
  exact ⟨rfl, rfl, rfl, rfl, rfl⟩

set_option maxHeartbeats 400000 in
theorem push_more (qb o lb : Nat) (id n : Int) (w : World) (c0 : Value) (h1 : w.cell? ⟨qb, o + 1, none⟩ = some (.pointer (some ⟨lb, 0, none⟩))) (h2 : w.cell? ⟨qb, o + 2, none⟩ = some (.int .i64 n))
    (hf : ∀ k, w.frozen? ⟨qb, k, none⟩ = false) (hq : qb < w.heap.size) (hn0 : 0 ≤ n) (hn : n < 4611686018427387904) (h3 : w.cell? ⟨lb, 2, none⟩ = some c0) (hfl : w.frozen? ⟨lb, 2, none⟩ = false) (hl : lb < w.heap.size) (hne : lb ≠ qb) :
    Calls Try.prog 22 #[.pointer (some ⟨qb, o, none⟩), .int .i64 id] w fun e w' => e = .returned (pt (some w.heap.size)) ∧
      To w w' ((put (put (put w.heap lb 2 (pt (some w.heap.size))) qb (o + 1) (pt (some w.heap.size))) qb (o + 2) (.int .i64 (n + 1))).push (link id (some lb) none)) := by
  have hne' : qb ≠ lb := Ne.symm hne
  go_enter Try.func22, Try.ntmps22
  go_wp2
  go_ret
  exact ⟨rfl, rfl, rfl, rfl, rfl⟩

set_option maxHeartbeats 400000 in
theorem remove_only (qb o x : Nat) (n : Int) (w : World) (c0 c1 : Value) (hx1 : w.cell? ⟨x, 1, none⟩ = some (.pointer none)) (hx2 : w.cell? ⟨x, 2, none⟩ = some (.pointer none))
    (h0 : w.cell? ⟨qb, o, none⟩ = some c0) (h1 : w.cell? ⟨qb, o + 1, none⟩ = some c1) (h2 : w.cell? ⟨qb, o + 2, none⟩ = some (.int .i64 n)) (hf : ∀ k, w.frozen? ⟨qb, k, none⟩ = false) (hne : x ≠ qb) (hn0 : 1 ≤ n) (hn : n < 4611686018427387904) :
    Calls Try.prog 24 #[.pointer (some ⟨qb, o, none⟩), .pointer (some ⟨x, 0, none⟩)] w fun e w' => e = .returned (.tuple #[]) ∧
      To w w' (put (put (put w.heap qb o (pt none)) qb (o + 1) (pt none)) qb (o + 2) (.int .i64 (n - 1))) := by
  have hne' : qb ≠ x := Ne.symm hne
  go_enter Try.func24, Try.ntmps24
  go_wp2
  go_end0
  exact ⟨rfl, rfl, rfl, rfl, rfl⟩

set_option maxHeartbeats 400000 in
theorem remove_first (qb o x y : Nat) (n : Int) (w : World) (c0 c1 : Value) (hx1 : w.cell? ⟨x, 1, none⟩ = some (.pointer none)) (hx2 : w.cell? ⟨x, 2, none⟩ = some (.pointer (some ⟨y, 0, none⟩)))
    (hy1 : w.cell? ⟨y, 1, none⟩ = some c1) (hyf : w.frozen? ⟨y, 1, none⟩ = false)
    (h0 : w.cell? ⟨qb, o, none⟩ = some c0) (h2 : w.cell? ⟨qb, o + 2, none⟩ = some (.int .i64 n)) (hf : ∀ k, w.frozen? ⟨qb, k, none⟩ = false) (hne : x ≠ qb) (hyq : y ≠ qb) (hxy : x ≠ y) (hn0 : 1 ≤ n) (hn : n < 4611686018427387904) :
    Calls Try.prog 24 #[.pointer (some ⟨qb, o, none⟩), .pointer (some ⟨x, 0, none⟩)] w fun e w' => e = .returned (.tuple #[]) ∧
      To w w' (put (put (put w.heap qb o (pt (some y))) y 1 (pt none)) qb (o + 2) (.int .i64 (n - 1))) := by
  have hne' : qb ≠ x := Ne.symm hne
  have hyq' : qb ≠ y := Ne.symm hyq
  have hxy' : y ≠ x := Ne.symm hxy
  go_enter Try.func24, Try.ntmps24
  go_wp2
  go_region
  go_wp2
  go_end0
  exact ⟨rfl, rfl, rfl, rfl, rfl⟩

set_option maxHeartbeats 400000 in
theorem remove_last (qb o x z : Nat) (n : Int) (w : World) (c0 c1 : Value) (hx1 : w.cell? ⟨x, 1, none⟩ = some (.pointer (some ⟨z, 0, none⟩))) (hx2 : w.cell? ⟨x, 2, none⟩ = some (.pointer none))
    (hz1 : w.cell? ⟨z, 2, none⟩ = some c1) (hzf : w.frozen? ⟨z, 2, none⟩ = false)
    (h0 : w.cell? ⟨qb, o + 1, none⟩ = some c0) (h2 : w.cell? ⟨qb, o + 2, none⟩ = some (.int .i64 n)) (hf : ∀ k, w.frozen? ⟨qb, k, none⟩ = false) (hne : x ≠ qb) (hzq : z ≠ qb) (hxz : x ≠ z) (hn0 : 1 ≤ n) (hn : n < 4611686018427387904) :
    Calls Try.prog 24 #[.pointer (some ⟨qb, o, none⟩), .pointer (some ⟨x, 0, none⟩)] w fun e w' => e = .returned (.tuple #[]) ∧
      To w w' (put (put (put w.heap z 2 (pt none)) qb (o + 1) (pt (some z))) qb (o + 2) (.int .i64 (n - 1))) := by
  have hne' : qb ≠ x := Ne.symm hne
  have hzq' : qb ≠ z := Ne.symm hzq
  have hxz' : z ≠ x := Ne.symm hxz
  go_enter Try.func24, Try.ntmps24
  go_wp2
  go_region
  go_wp2
  go_end0
  exact ⟨rfl, rfl, rfl, rfl, rfl⟩

set_option maxHeartbeats 400000 in
theorem remove_mid (qb o x y z : Nat) (n : Int) (w : World) (c0 c1 : Value) (hx1 : w.cell? ⟨x, 1, none⟩ = some (.pointer (some ⟨z, 0, none⟩))) (hx2 : w.cell? ⟨x, 2, none⟩ = some (.pointer (some ⟨y, 0, none⟩)))
    (hz1 : w.cell? ⟨z, 2, none⟩ = some c0) (hzf : w.frozen? ⟨z, 2, none⟩ = false) (hy1 : w.cell? ⟨y, 1, none⟩ = some c1) (hyf : w.frozen? ⟨y, 1, none⟩ = false)
    (h2 : w.cell? ⟨qb, o + 2, none⟩ = some (.int .i64 n)) (hf : ∀ k, w.frozen? ⟨qb, k, none⟩ = false) (hne : x ≠ qb) (hzq : z ≠ qb) (hyq : y ≠ qb) (hxz : x ≠ z) (hxy : x ≠ y) (hyz : y ≠ z) (hn0 : 1 ≤ n) (hn : n < 4611686018427387904) :
    Calls Try.prog 24 #[.pointer (some ⟨qb, o, none⟩), .pointer (some ⟨x, 0, none⟩)] w fun e w' => e = .returned (.tuple #[]) ∧
      To w w' (put (put (put w.heap z 2 (pt (some y))) y 1 (pt (some z))) qb (o + 2) (.int .i64 (n - 1))) := by
  have hne' : qb ≠ x := Ne.symm hne
  have hzq' : qb ≠ z := Ne.symm hzq
  have hyq' : qb ≠ y := Ne.symm hyq
  have hxz' : z ≠ x := Ne.symm hxz
  have hxy' : y ≠ x := Ne.symm hxy
  have hyz' : z ≠ y := Ne.symm hyz
  go_enter Try.func24, Try.ntmps24
  go_wp2
  go_region
  go_wp2
  go_region
  go_wp2
  go_end0
  exact ⟨rfl, rfl, rfl, rfl, rfl⟩
end Go.Proofs.Ytpfmpfmbmipglaa
