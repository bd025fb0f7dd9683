/-
  The measure of terms (Great): it answers, whatever the terms are.
-/
import Derived.WalkKit
import Derived.LoopTactic
import Derived.Deep.QuietTactic
import Derived.BigQuiet
import Derived.Lib.Hide
import Derived.Test.YtbfkbabolhhbaaaGreatDoorEvTree
import Derived.Test.YtbfkbabolhhbaaaGreatDoorProg
import Derived.Test.YtbfkbabolhhbaaaGreatDoorMnW1
namespace Go.Proofs.YtbfkbabolhhbaaaGreatDoor
set_option linter.unusedSimpArgs false
set_option linter.unusedVariables false
open Go.RowKit
open Ev (Still)
structure Tm where
  kind : Int
  int : Int
  gen : Int
  name : ByteArray
  fn : ByteArray
  ar : Int
  it : Value
  bytes : ByteArray
  bits : Int
structure Tm.At (w : World) (b o : Nat) (x : Tm) : Prop where
  c0 : w.cell? ⟨b, o, none⟩ = some (.int .i64 x.kind)
  c1 : w.cell? ⟨b, o + 1, none⟩ = some (.int .i64 x.int)
  c2 : w.cell? ⟨b, o + 2, none⟩ = some (.int .i64 x.gen)
  c3 : w.cell? ⟨b, o + 3, none⟩ = some (.string x.name)
  c4 : w.cell? ⟨b, o + 4, none⟩ = some (.string x.fn)
  c5 : w.cell? ⟨b, o + 5, none⟩ = some (.int .i64 x.ar)
  c6 : w.cell? ⟨b, o + 6, none⟩ = some x.it
  c7 : w.cell? ⟨b, o + 7, none⟩ = some (.string x.bytes)
  c8 : w.cell? ⟨b, o + 8, none⟩ = some (.int .i64 x.bits)
/-- A slice of terms can be read. -/
inductive RdT (w : World) : Value → Prop
  | nil : RdT w (.slice none 0 0)
  | emp (a : Addr) (cap : Nat) : RdT w (.slice (some a) 0 cap)
  | mk {b o len cap : Nat} (f : Nat → Tm) (hb : b < w.heap.size) (hl : len ≤ 9223372036854775807) (hc : ∀ i, i < len → (f i).At w b (o + i * 9)) (hr : ∀ i, i < len → RdT w (f i).it) : RdT w (.slice (some ⟨b, o, none⟩) len cap)
theorem Still.cell {w w' : World} (k : Still w w') {b o : Nat} (hb : b < w.heap.size) : w'.cell? ⟨b, o, none⟩ = w.cell? ⟨b, o, none⟩ := World.cell?_of_block (k.keep b hb)
theorem Tm.At.still {w w' : World} (k : Still w w') {b o : Nat} (hb : b < w.heap.size) {x : Tm} (h : x.At w b o) : x.At w' b o :=
  ⟨(Still.cell k hb).trans h.c0, (Still.cell k hb).trans h.c1, (Still.cell k hb).trans h.c2, (Still.cell k hb).trans h.c3, (Still.cell k hb).trans h.c4, (Still.cell k hb).trans h.c5, (Still.cell k hb).trans h.c6, (Still.cell k hb).trans h.c7, (Still.cell k hb).trans h.c8⟩
theorem RdT.still {w w' : World} (k : Still w w') {v : Value} (h : RdT w v) : RdT w' v := by
  induction h with
  | nil => exact .nil
  | emp a cap => exact .emp a cap
  | mk f hb hl hc hr ih => exact .mk f (Nat.lt_of_lt_of_le hb k.size) hl (fun i hi => (hc i hi).still k hb) ih
def Left (w : World) (most : Int) (e : Ending) (w' : World) : Prop := ∃ r, e = .returned (.int .i64 r) ∧ -1 ≤ r ∧ r ≤ most ∧ Still w w'
def LeftRel (w : World) (len : Nat) (most : Int) (m i : Value) (wr : World) : Prop := ∃ (k : Nat) (cur : Int), k ≤ len ∧ i = .int .i64 k ∧ m = .int .i64 cur ∧ -1 ≤ cur ∧ cur ≤ most ∧ Still w wr
theorem still_alloc (w : World) (o : Obj) : Still w (w.alloc o) :=
  ⟨by show w.heap.size ≤ (w.heap.push o).size; simp, fun b hb => by show (w.heap.push o)[b]? = w.heap[b]?; rw [Array.getElem?_push, if_neg (by omega)], rfl, rfl, rfl⟩
theorem RdT.slice {w : World} {v : Value} (h : RdT w v) : ∃ a len cap, v = .slice a len cap ∧ len ≤ 9223372036854775807 ∧ ∀ k, k < len → ∃ b o x, a = some ⟨b, o, none⟩ ∧ b < w.heap.size ∧ Tm.At w b (o + k * 9) x ∧ RdT w x.it := by
  cases h with
  | nil => exact ⟨_, _, _, rfl, by decide, fun k hk => absurd hk (by omega)⟩
  | emp a cap => exact ⟨_, _, _, rfl, by decide, fun k hk => absurd hk (by omega)⟩
  | mk f hb hl hc hr => exact ⟨_, _, _, rfl, hl, fun k hk => ⟨_, _, _, rfl, hb, hc k hk, hr k hk⟩⟩
set_option maxHeartbeats 4000000 in
set_option maxRecDepth 1000000 in
theorem left_w (n : Nat) : ∀ (most : Int) (v : Value) (w : World), RdT w v → -1 ≤ most → most < n → most ≤ 500 → Calls Tryz.prog 27 #[v, .int .i64 most] w (Left w most) := by
  induction n with
  | zero =>
    intro most v w hv h1 h2 h3
    obtain ⟨a, len, cap, rfl, hl, hget⟩ := hv.slice
    clear hv hget
    go_enter Tryz.func27, Tryz.ntmps27
    go_wp2
    go_loopw [1, 5] (fun m i wr => i = .int .i64 0 ∧ m = .int .i64 most ∧ wr = w) (fun _ _ _ => 0)
    case atStart => exact ⟨rfl, rfl, rfl⟩
    case round =>
      obtain ⟨rfl, rfl, rfl⟩ := hrel
      have hn : ¬ (0 : Int) ≤ most := by omega
      go_wp2
      all_goals
        go_ret
        exact ⟨most, rfl, h1, by omega, .refl _⟩
  | succ n ih =>
    intro most v w hv h1 h2 h3
    obtain ⟨a, len, cap, rfl, hl, hget⟩ := hv.slice
    have HG := Lib.hid hget
    have HI := Lib.hid ih
    clear hv hget ih
    go_enter Tryz.func27, Tryz.ntmps27
    go_wp2
    go_loopw [1, 5] (fun m i wr => LeftRel w len most m i wr) (fun _ i _ => len - (intOf i).toNat)
    case atStart => exact ⟨0, most, Nat.zero_le _, rfl, rfl, h1, by omega, .refl w⟩
    case round =>
      obtain ⟨k, cur, hk, rfl, rfl, q1, q2, st⟩ := hrel
      have HS := Lib.hid st
      clear st
      by_cases hlt : k < len
      · by_cases hc : (0 : Int) ≤ cur
        · obtain ⟨b, o, x, rfl, hb, hx, hr⟩ := HG.out k hlt
          have hx' := hx.still HS.out hb
          obtain ⟨c0, c1, c2, c3, c4, c5, c6, c7, c8⟩ := hx'
          obtain ⟨ai, li, ci, hit⟩ : ∃ a l c, x.it = .slice a l c := by obtain ⟨a, l, c, e, _⟩ := hr.slice; exact ⟨a, l, c, e⟩
          rw [hit] at c6 hr
          have HR := Lib.hid hr
          clear hx hr hit
          have klt : (k : Int) < len := by omega
          by_cases z1 : cur < x.name.size
          · go_wp2
            go_ret
            exact ⟨-1, rfl, by omega, by omega, HS.out.trans (still_alloc _ _)⟩
          · by_cases z2 : cur < x.fn.size
            · go_wp2
              go_ret
              exact ⟨-1, rfl, by omega, by omega, HS.out.trans (still_alloc _ _)⟩
            · by_cases z3 : cur < x.bytes.size
              · go_wp2
                go_ret
                exact ⟨-1, rfl, by omega, by omega, HS.out.trans (still_alloc _ _)⟩
              · go_wp2_with fail
                refine (HI.out _ _ _ (HR.out.still (HS.out.trans (still_alloc _ _))) (by omega) (by omega) (by omega)).mono ?_
                rintro e w2 ⟨r, rfl, r1, r2, st2⟩
                have ST := Lib.hid (HS.out.trans ((still_alloc _ _).trans st2))
                clear st2
                go_wp2
                exact ⟨⟨k + 1, r, by omega, by go_num, rfl, r1, by omega, ST.out⟩, by simp [intOf]; omega⟩
        · have klt : (k : Int) < len := by omega
          go_wp2
          go_ret
          exact ⟨cur, rfl, q1, q2, HS.out⟩
      · have kge : ¬ (k : Int) < len := by omega
        go_wp2
        go_ret
        exact ⟨cur, rfl, q1, q2, HS.out⟩
set_option maxHeartbeats 4000000 in
theorem great_w (v : Value) (w : World) (hv : RdT w v) : Calls Tryz.prog 4 #[v, .int .i64 500] w fun e w' => ∃ b, e = .returned (.bool b) ∧ Still w w' := by
  obtain ⟨a, len, cap, rfl, _⟩ := hv.slice
  have HV := Lib.hid hv
  clear hv
  go_enter Tryz.func4, Tryz.ntmps4
  go_wp2_with fail
  refine (left_w 501 _ _ _ HV.out (by omega) (by omega) (by omega)).mono ?_
  rintro e w2 ⟨r, rfl, r1, r2, st⟩
  have ST := Lib.hid st
  clear st
  go_wp2
  go_ret
  exact ⟨_, rfl, ST.out⟩
set_option maxHeartbeats 4000000 in
theorem within_w (n a b : Int) (w : World) : Calls Tryz.prog 270 #[.int .i64 n, .int .i64 a, .int .i64 b] w fun e w' => e = .returned (.bool (decide (a ≤ n ∧ n ≤ b))) ∧ w' = w := by
  by_cases h1 : a ≤ n
  · by_cases h2 : n ≤ b
    · have hn : decide (a ≤ n ∧ n ≤ b) = true := decide_eq_true ⟨h1, h2⟩
      rw [hn]
      go_enter Tryz.func270, Tryz.ntmps270
      go_wp2
      go_ret
      exact ⟨rfl, rfl⟩
    · have hn : decide (a ≤ n ∧ n ≤ b) = false := decide_eq_false fun h => h2 h.2
      rw [hn]
      go_enter Tryz.func270, Tryz.ntmps270
      go_wp2
      go_ret
      exact ⟨rfl, rfl⟩
  · have hn : decide (a ≤ n ∧ n ≤ b) = false := decide_eq_false fun h => h1 h.1
    rw [hn]
    go_enter Tryz.func270, Tryz.ntmps270
    go_wp2
    go_ret
    exact ⟨rfl, rfl⟩
set_option maxHeartbeats 4000000 in
theorem between_w (n a b : Int) (w : World) : Calls Tryz.prog 134 #[.int .i64 n, .int .i64 a, .int .i64 b] w fun e w' => e = .returned (.bool (decide (a ≤ n ∧ n ≤ b))) ∧ w' = w := by
  by_cases h1 : a ≤ n
  · by_cases h2 : n ≤ b
    · have hn : decide (a ≤ n ∧ n ≤ b) = true := decide_eq_true ⟨h1, h2⟩
      rw [hn]
      go_enter Tryz.func134, Tryz.ntmps134
      go_wp2
      go_ret
      exact ⟨rfl, rfl⟩
    · have hn : decide (a ≤ n ∧ n ≤ b) = false := decide_eq_false fun h => h2 h.2
      rw [hn]
      go_enter Tryz.func134, Tryz.ntmps134
      go_wp2
      go_ret
      exact ⟨rfl, rfl⟩
  · have hn : decide (a ≤ n ∧ n ≤ b) = false := decide_eq_false fun h => h1 h.1
    rw [hn]
    go_enter Tryz.func134, Tryz.ntmps134
    go_wp2
    go_ret
    exact ⟨rfl, rfl⟩
end Go.Proofs.YtbfkbabolhhbaaaGreatDoor
namespace Go.Proofs.YtbfkbabolhhbaaaGreatDoor
set_option linter.unusedSimpArgs false
set_option linter.unusedVariables false
open Go.RowKit
open Ev (Still)
/-- What is left of a term. -/
def leftV (s4 : ByteArray) (a : Int) (x : Option Addr) (len cap : Nat) (s7 : ByteArray) (b : Int) : Value :=
  .agg #[.int .i64 0, .int .i64 0, .int .i64 0, .string ByteArray.empty, .string s4, .int .i64 a, .slice x len cap, .string s7, .int .i64 b]
def zeroV : Value := .agg #[.int .i64 0, .int .i64 0, .int .i64 0, .string ByteArray.empty, .string ByteArray.empty, .int .i64 0, .slice none 0 0, .string ByteArray.empty, .int .i64 0]
def isZ (s4 : ByteArray) (a : Int) (len : Nat) (s7 : ByteArray) (b : Int) : Bool := decide (s4.size = 0 ∧ a = 0 ∧ len = 0 ∧ s7.size = 0 ∧ b = 0)
theorem isZ_of {s4 s7 : ByteArray} {a b : Int} {len : Nat} (h4 : s4.toList = []) (ha : a = 0) (hl : len = 0) (h7 : s7.toList = []) : isZ s4 a len s7 b = (b == 0) := by
  unfold isZ
  rw [size0] at h4 h7
  by_cases hb : b = 0 <;> simp [h4, ha, hl, h7, hb]
theorem isZ_no {s4 s7 : ByteArray} {a b : Int} {len : Nat} (h : ¬ (s4.toList = [] ∧ a = 0 ∧ len = 0 ∧ s7.toList = [])) : isZ s4 a len s7 b = false :=
  decide_eq_false fun k => h ⟨size0.2 k.1, k.2.1, k.2.2.1, size0.2 k.2.2.2.1⟩
set_option maxHeartbeats 4000000 in
set_option maxRecDepth 1000000 in
theorem zero_w (s4 : ByteArray) (a : Int) (x : Option Addr) (len cap : Nat) (s7 : ByteArray) (b : Int) (w : World) :
    Calls Tryz.prog 131 #[leftV s4 a x len cap s7 b] w fun e w' => e = .returned (.bool (isZ s4 a len s7 b)) ∧ Still w w' := by
  unfold leftV
  go_enter Tryz.func131, Tryz.ntmps131
  go_wp2
  · have hz : isZ s4 a len s7 b = (b == 0) := isZ_of (by assumption) (by assumption) (by assumption) (by assumption)
    go_ret
    exact ⟨by rw [hz]; rfl, still_alloc _ _⟩
  all_goals
    have hz : isZ s4 a len s7 b = false := isZ_no (by
      intro k
      obtain ⟨k1, k2, k3, k4⟩ := k
      contradiction)
    go_ret
    exact ⟨by rw [hz]; rfl, still_alloc _ _⟩
set_option maxHeartbeats 4000000 in
set_option maxRecDepth 1000000 in
theorem alike_w (x : Option Addr) (len cap : Nat) (fv : Value) (w : World) : Calls Tryz.prog 337 #[.slice x len cap, .slice none 0 0, fv] w fun e w' => e = .returned (.bool (decide (len = 0))) ∧ w' = w := by
  by_cases h : len = 0
  · subst h
    go_enter Tryz.func337, Tryz.ntmps337
    go_wp2
    go_loop [16] (fun i => i = .int .i64 0) (fun _ => 0)
    case atStart => rfl
    case round =>
      subst hrel
      go_wp2
      go_ret
      exact ⟨rfl, rfl⟩
  · have hn : decide (len = 0) = false := decide_eq_false h
    go_enter Tryz.func337, Tryz.ntmps337
    go_wp2
    go_ret
    exact ⟨by rw [hn]; rfl, rfl⟩
set_option maxHeartbeats 4000000 in
set_option maxRecDepth 1000000 in
theorem same_w (s4 : ByteArray) (a : Int) (x : Option Addr) (len cap : Nat) (s7 : ByteArray) (b : Int) (w : World) :
    Calls Tryz.prog 280 #[leftV s4 a x len cap s7 b, zeroV] w fun e w' => e = .returned (.bool (isZ s4 a len s7 b)) ∧ Still w w' := by
  unfold leftV zeroV
  go_enter Tryz.func280, Tryz.ntmps280
  go_wp2_with (go_at_call 337; refine (alike_w _ _ _ _ _).mono ?_; rintro e w' ⟨rfl, rfl⟩)
  · have hz : isZ s4 a len s7 b = decide (len = 0) := by
      have h4 : s4.toList = [] := by assumption
      have h7 : s7.toList = [] := by assumption
      have ha : a = 0 := by assumption
      have hb : b = 0 := by assumption
      rw [size0] at h4 h7
      unfold isZ
      by_cases hl : len = 0 <;> simp [h4, ha, hl, h7, hb]
    go_ret
    exact ⟨by rw [hz]; rfl, (still_alloc _ _).trans (still_alloc _ _)⟩
  all_goals
    have hz : isZ s4 a len s7 b = false := by
      refine decide_eq_false fun k => ?_
      obtain ⟨k1, k2, k3, k4, k5⟩ := k
      rw [← size0] at k1 k4
      contradiction
    go_ret
    exact ⟨by rw [hz]; rfl, (still_alloc _ _).trans (still_alloc _ _)⟩
end Go.Proofs.YtbfkbabolhhbaaaGreatDoor
