/-
  step: an act on both queues.
-/
import Derived.Test.YtpfmpfmbmipglaaRef5
import Derived.Deep.RegionHeld3
namespace Go.Proofs.Ytpfmpfmbmipglaa
open Go.RowKit

/-- Both queues hold s; below B nothing has been written. -/
def Both (w : World) (B qb pb : Nat) (s : St) (w' : World) : Prop := QS w' B qb s ∧ RQ w' B pb s ∧ Below B w w' ∧ B ≤ w'.heap.size

theorem kept_below {B : Nat} {w w' : World} (k : Kept B w w') (hB : B ≤ w.heap.size) : Below B w w' := k.below.mono (by omega)
theorem keptR_below {B : Nat} {w w' : World} (k : KeptR B w w') (hB : B ≤ w.heap.size) : Below B w w' := ⟨k.os, k.tape, k.output, k.size, fun j hj => k.block j (by omega) (.inl hj)⟩

theorem QS.alloc {w : World} {B qb : Nat} {s : St} (q : QS w B qb s) (o : Obj) : QS (w.alloc o) B qb s := q.below ((Below.refl _ _).alloc (Nat.le_refl _) o)
theorem RQ.alloc {w : World} {B pb : Nat} {s : St} (q : RQ w B pb s) (o : Obj) : RQ (w.alloc o) B pb s := q.below ((Below.refl _ _).alloc (Nat.le_refl _) o)
theorem RQ.drew {w : World} {B pb : Nat} {s : St} (q : RQ w B pb s) : RQ w.drew B pb s := by obtain ⟨V, r⟩ := q; exact ⟨V, r.q, r.b, r.row, r.apart⟩

/-- The block of the act that came in. -/
def box (k id p : Int) : Obj := .cells #[.int .i64 k, .int .i64 id, .int .i64 p] 49

theorem box_kept {w w' : World} {B ab : Nat} {k id p : Int} (h : w.heap[ab]? = some (box k id p)) (kt : Kept B w w') : w'.heap[ab]? = some (box k id p) := (kt.block ab (lt_of h) (.inr fun o e => by rw [h] at e; cases e; rfl)).trans h

theorem box_keptR {w w' : World} {B ab : Nat} {k id p : Int} (h : w.heap[ab]? = some (box k id p)) (kt : KeptR B w w') : w'.heap[ab]? = some (box k id p) := (kt.block ab (lt_of h) (.inr fun o e => by rw [h] at e; cases e; rfl)).trans h

set_option maxHeartbeats 2000000 in
set_option maxRecDepth 100000 in
theorem step_put (w : World) (B qb pb : Nat) (s : St) (q : QS w B qb s) (r : RQ w B pb s) (hB : B ≤ w.heap.size) (hs : s.size < 1000000) (id p : Int) (hid : id ≤ 9223372036854775807) :
    Calls Try.prog 20 #[.pointer (some ⟨qb, 0, none⟩), .pointer (some ⟨pb, 0, none⟩), .agg #[.int .i64 0, .int .i64 id, .int .i64 p]] w fun e w' => e = .returned (.bool true) ∧ Both w B qb pb (s.put id p) w' := by
  have Q := Lib.hid (q.alloc (box 0 id p))
  have R := Lib.hid (r.alloc (box 0 id p))
  have BX := Lib.hid (show (w.alloc (box 0 id p)).heap[w.heap.size]? = some (box 0 id p) by show (w.heap.push _)[_]? = _; simp)
  have hB1 : B ≤ (w.alloc (box 0 id p)).heap.size := by show B ≤ (w.heap.push _).size; simp; omega
  have BB := Lib.hid ((Below.refl B w).alloc hB (box 0 id p))
  have Z := Lib.hid (show (w.alloc (box 0 id p)).drew.cell? ⟨w.heap.size, 1, none⟩ = some (.int .i64 id) ∧ (w.alloc (box 0 id p)).drew.cell? ⟨w.heap.size, 2, none⟩ = some (.int .i64 p) from ⟨by rw [cell_of (w := (w.alloc (box 0 id p)).drew) BX.out]; rfl, by rw [cell_of (w := (w.alloc (box 0 id p)).drew) BX.out]; rfl⟩)
  clear q r
  have eqq : (s.putErr id p == s.putErr id p) = true := by simp
  go_enter Try.func20, Try.ntmps20
  go_wp2
  go_region_held3 (fun w' => w'.cell? ⟨w.heap.size, 1, none⟩ = some (.int .i64 id) ∧ w'.cell? ⟨w.heap.size, 2, none⟩ = some (.int .i64 p)) (first | exact ⟨x1, x2⟩ | exact ⟨y1, y2⟩ | exact Z.out) (first
    | (go_at_call 11; refine (put_qs _ B qb s (by exact Q.out) (by exact hB1) hs id p hid).mono ?_; rintro e w2 ⟨rfl, q2, k2⟩; (have k3 : Kept B (w.alloc (box 0 id p)) w2 := Kept.undrew k2); have R2 := Lib.hid (R.out.kept k3); have Q2 := Lib.hid q2; have HB2 := Lib.hid (box_kept BX.out k3); have x1 : w2.cell? ⟨w.heap.size, 1, none⟩ = some (.int .i64 id) := (by rw [cell_of HB2.out]; rfl); have x2 : w2.cell? ⟨w.heap.size, 2, none⟩ = some (.int .i64 p) := (by rw [cell_of HB2.out]; rfl); have B2 := Lib.hid (BB.out.trans (kept_below k3 hB1)); have hs2 : B ≤ w2.heap.size := Nat.le_trans hB1 k3.size; clear q2 k2 k3)
    | (go_at_call 25; refine (rput _ B pb s R2.out hs id p).mono ?_; rintro e w4 ⟨rfl, r4, k4⟩; have Q4 := Lib.hid (k4.qs Q2.out); have R4 := Lib.hid r4; have B4 := Lib.hid (B2.out.trans (keptR_below k4 hs2)); have hs4 : B ≤ w4.heap.size := Nat.le_trans hs2 k4.size; have hb4 := box_keptR HB2.out k4; have y1 : w4.cell? ⟨w.heap.size, 1, none⟩ = some (.int .i64 id) := (by rw [cell_of hb4]; rfl); have y2 : w4.cell? ⟨w.heap.size, 2, none⟩ = some (.int .i64 p) := (by rw [cell_of hb4]; rfl); clear r4 k4 hb4))
  all_goals
    go_wp2
    go_ret
    exact ⟨rfl, Q4.out, R4.out, B4.out, hs4⟩

set_option maxHeartbeats 2000000 in
set_option maxRecDepth 100000 in
theorem step_pick (w : World) (B qb pb : Nat) (s : St) (q : QS w B qb s) (r : RQ w B pb s) (hB : B ≤ w.heap.size) (hs : s.size < 1000000) (id p : Int) :
    Calls Try.prog 20 #[.pointer (some ⟨qb, 0, none⟩), .pointer (some ⟨pb, 0, none⟩), .agg #[.int .i64 1, .int .i64 id, .int .i64 p]] w fun e w' => e = .returned (.bool true) ∧ Both w B qb pb s.pick w' := by
  have Q := Lib.hid (q.alloc (box 1 id p))
  have R := Lib.hid (r.alloc (box 1 id p))
  have hB1 : B ≤ (w.alloc (box 1 id p)).heap.size := by show B ≤ (w.heap.push _).size; simp; omega
  have BB := Lib.hid ((Below.refl B w).alloc hB (box 1 id p))
  have CN := Lib.hid q.ok.cnt
  clear q r
  have eqq : ((if s.size = 0 then 0 else s.pickId) == (if s.size = 0 then 0 else s.pickId)) = true := by simp
  have eqb : (decide (s.size ≠ 0) == decide (s.size ≠ 0)) = true := by simp
  go_enter Try.func20, Try.ntmps20
  go_wp2_with fail
  refine (pick_qs _ B qb s (by exact Q.out) hs).mono ?_
  rintro e w2 ⟨rfl, q2, k2⟩
  have R2 := Lib.hid (R.out.kept k2)
  have Q2 := Lib.hid q2
  have B2 := Lib.hid (BB.out.trans (kept_below k2 hB1))
  have hs2 : B ≤ w2.heap.size := Nat.le_trans hB1 k2.size
  clear q2 k2
  generalize hx : (if s.size = 0 then 0 else s.pickId) = x at *
  generalize hy : decide (s.size ≠ 0) = y at *
  have HX := Lib.hid hx
  have HY := Lib.hid hy
  clear hx hy
  go_wp2_with fail
  refine (rpick _ B pb s R2.out CN.out hs).mono ?_
  rintro e w4 ⟨rfl, r4, k4⟩
  rw [HX.out, HY.out]
  have Q4 := Lib.hid (k4.qs Q2.out)
  have R4 := Lib.hid r4
  have B4 := Lib.hid (B2.out.trans (keptR_below k4 hs2))
  have hs4 : B ≤ w4.heap.size := Nat.le_trans hs2 k4.size
  clear r4 k4
  go_wp2
  go_ret
  exact ⟨rfl, Q4.out, R4.out, B4.out, hs4⟩

set_option maxHeartbeats 2000000 in
set_option maxRecDepth 100000 in
theorem step_drop (w : World) (B qb pb : Nat) (s : St) (q : QS w B qb s) (r : RQ w B pb s) (hB : B ≤ w.heap.size) (hs : s.size < 1000000) (id p : Int) :
    Calls Try.prog 20 #[.pointer (some ⟨qb, 0, none⟩), .pointer (some ⟨pb, 0, none⟩), .agg #[.int .i64 2, .int .i64 id, .int .i64 p]] w fun e w' => e = .returned (.bool true) ∧ Both w B qb pb (s.drop id) w' := by
  have Q := Lib.hid (q.alloc (box 2 id p))
  have R := Lib.hid (r.alloc (box 2 id p))
  have BX := Lib.hid (show (w.alloc (box 2 id p)).heap[w.heap.size]? = some (box 2 id p) by show (w.heap.push _)[_]? = _; simp)
  have hB1 : B ≤ (w.alloc (box 2 id p)).heap.size := by show B ≤ (w.heap.push _).size; simp; omega
  have BB := Lib.hid ((Below.refl B w).alloc hB (box 2 id p))
  have Z := Lib.hid (show (w.alloc (box 2 id p)).drew.cell? ⟨w.heap.size, 1, none⟩ = some (.int .i64 id) from (by rw [cell_of (w := (w.alloc (box 2 id p)).drew) BX.out]; rfl))
  have OK := Lib.hid q.ok
  clear q r
  have eqq : (decide (id ∈ s.ids) == decide (id ∈ s.ids)) = true := by simp
  go_enter Try.func20, Try.ntmps20
  go_wp2
  go_region_held3 (fun w' => w'.cell? ⟨w.heap.size, 1, none⟩ = some (.int .i64 id)) (first | exact x1 | exact y1 | exact Z.out) (first
    | (go_at_call 18; refine (drop_qs _ B qb s (by exact Q.out) hs id).mono ?_; rintro e w2 ⟨rfl, q2, k2⟩; (have k3 : Kept B (w.alloc (box 2 id p)) w2 := Kept.undrew k2); have R2 := Lib.hid (R.out.kept k3); have Q2 := Lib.hid q2; have HB2 := Lib.hid (box_kept BX.out k3); have x1 : w2.cell? ⟨w.heap.size, 1, none⟩ = some (.int .i64 id) := (by rw [cell_of HB2.out]; rfl); have B2 := Lib.hid (BB.out.trans (kept_below k3 hB1)); have hs2 : B ≤ w2.heap.size := Nat.le_trans hB1 k3.size; clear q2 k2 k3)
    | (go_at_call 27; refine (rdrop _ B pb s R2.out OK.out hs id).mono ?_; rintro e w4 ⟨rfl, r4, k4⟩; have Q4 := Lib.hid (k4.qs Q2.out); have R4 := Lib.hid r4; have B4 := Lib.hid (B2.out.trans (keptR_below k4 hs2)); have hs4 : B ≤ w4.heap.size := Nat.le_trans hs2 k4.size; have hb4 := box_keptR HB2.out k4; have y1 : w4.cell? ⟨w.heap.size, 1, none⟩ = some (.int .i64 id) := (by rw [cell_of hb4]; rfl); clear r4 k4 hb4))
  all_goals
    go_wp2
    go_ret
    exact ⟨by simp, Q4.out, R4.out, B4.out, hs4⟩

set_option maxHeartbeats 2000000 in
set_option maxRecDepth 100000 in
theorem step_has (w : World) (B qb pb : Nat) (s : St) (q : QS w B qb s) (r : RQ w B pb s) (hB : B ≤ w.heap.size) (hs : s.size < 1000000) (id p : Int) :
    Calls Try.prog 20 #[.pointer (some ⟨qb, 0, none⟩), .pointer (some ⟨pb, 0, none⟩), .agg #[.int .i64 3, .int .i64 id, .int .i64 p]] w fun e w' => e = .returned (.bool true) ∧ Both w B qb pb s w' := by
  have Q := Lib.hid (q.alloc (box 3 id p))
  have R := Lib.hid (r.alloc (box 3 id p))
  have BX := Lib.hid (show (w.alloc (box 3 id p)).heap[w.heap.size]? = some (box 3 id p) by show (w.heap.push _)[_]? = _; simp)
  have hB1 : B ≤ (w.alloc (box 3 id p)).heap.size := by show B ≤ (w.heap.push _).size; simp; omega
  have BB := Lib.hid ((Below.refl B w).alloc hB (box 3 id p))
  clear q r
  go_enter Try.func20, Try.ntmps20
  go_wp2_with fail
  refine (has_qs _ B qb s (by exact Q.out) id).mono ?_
  rintro e w2 ⟨rfl, q2, k2⟩
  have R2 := Lib.hid (R.out.below k2)
  have Q2 := Lib.hid q2
  have HB2 := Lib.hid (box_kept BX.out (Kept.of_below (B := 0) k2))
  have x1 : w2.cell? ⟨w.heap.size, 1, none⟩ = some (.int .i64 id) := by rw [cell_of HB2.out]; rfl
  have B2 := Lib.hid (BB.out.trans (k2.mono hB1))
  have hs2 : B ≤ w2.heap.size := Nat.le_trans hB1 k2.size
  clear q2 k2
  generalize hx : s.prio id = x at *
  generalize hy : decide (id ∈ s.ids) = y at *
  have HX := Lib.hid hx
  have HY := Lib.hid hy
  have eqq : (x == x) = true := by simp
  have eqb : (y == y) = true := by simp
  clear hx hy
  obtain ⟨V, RV⟩ := R2.out
  have RV' := Lib.hid RV
  clear RV
  go_wp2_with fail
  refine (rhas_any _ B pb V s RV'.out hs id).mono ?_
  rintro e w4 ⟨rfl, rfl⟩
  rw [HX.out, HY.out]
  go_wp2
  go_ret
  exact ⟨rfl, Q2.out, R2.out, B2.out, hs2⟩

def LookRel (w : World) (B qb pb : Nat) (s : St) (i : Value) (wr : World) : Prop := ∃ k : Nat, k ≤ 7 ∧ i = .int .i64 ((k : Int) - 1) ∧ Both w B qb pb s wr

set_option maxHeartbeats 2000000 in
set_option maxRecDepth 100000 in
theorem step_look (w : World) (B qb pb : Nat) (s : St) (q : QS w B qb s) (r : RQ w B pb s) (hB : B ≤ w.heap.size) (hs : s.size < 1000000) (kind id p : Int) (k0 : kind ≠ 0) (k1 : kind ≠ 1) (k2 : kind ≠ 2) (k3 : kind ≠ 3) :
    Calls Try.prog 20 #[.pointer (some ⟨qb, 0, none⟩), .pointer (some ⟨pb, 0, none⟩), .agg #[.int .i64 kind, .int .i64 id, .int .i64 p]] w fun e w' => e = .returned (.bool true) ∧ Both w B qb pb s w' := by
  have Q := Lib.hid (q.alloc (box kind id p))
  have R := Lib.hid (r.alloc (box kind id p))
  have hB1 : B ≤ (w.alloc (box kind id p)).heap.size := by show B ≤ (w.heap.push _).size; simp; omega
  have BB := Lib.hid ((Below.refl B w).alloc hB (box kind id p))
  clear q r
  have n0 : (kind == 0) = false := beq_eq_false_iff_ne.2 k0
  have n1 : (kind == 1) = false := beq_eq_false_iff_ne.2 k1
  have n2 : (kind == 2) = false := beq_eq_false_iff_ne.2 k2
  have n3 : (kind == 3) = false := beq_eq_false_iff_ne.2 k3
  clear k0 k1 k2 k3
  go_enter Try.func20, Try.ntmps20
  go_wp2
  go_loopw [15] (fun i wr => LookRel w B qb pb s i wr) (fun i _ => (6 - intOf i).toNat)
  case atStart => exact ⟨0, by omega, rfl, Q.out, R.out, BB.out, hB1⟩
  case round =>
    obtain ⟨k, hk, rfl, hq, hr, hb, hz⟩ := hrel
    have HQ := Lib.hid hq
    have HR := Lib.hid hr
    have HB := Lib.hid hb
    clear hq hr hb Q R BB
    by_cases hlt : k < 7
    · have klt : (k : Int) - 1 < 6 := by omega
      have hll := line_len s ((k : Int) - 1)
      go_wp2_with fail
      refine (list_at HQ.out hs ((k : Int) - 1) _ rfl).mono ?_
      rintro e w2 ⟨a2, c2, rfl, r2, q2, b2⟩
      have RW := Lib.hid r2
      have HQ2 := Lib.hid q2
      have HR2 := Lib.hid (HR.out.below b2)
      have HB2 := Lib.hid (HB.out.trans (b2.mono hz))
      have hz2 : B ≤ w2.heap.size := Nat.le_trans hz b2.size
      clear r2 q2 b2 HQ HR HB
      have LI := Lib.hid (rlist w2 B pb s HR2.out hs ((k : Int) - 1))
      generalize s.line ((k : Int) - 1) = L at *
      go_wp2_with fail
      refine LI.out.mono ?_
      rintro e w3 ⟨v3, rfl, o3, b3⟩
      have R3 := Lib.hid (Row.of_own o3)
      obtain ⟨a3, c3, rfl⟩ := R3.out.form
      have RW3 := Lib.hid (RW.out.below b3)
      have HQ := Lib.hid (HQ2.out.below b3)
      have HR := Lib.hid (HR2.out.below b3)
      have HB := Lib.hid (HB2.out.trans (b3.mono hz2))
      have hz3 : B ≤ w3.heap.size := Nat.le_trans hz2 b3.size
      have hLm : L.length < 1000000 := by omega
      clear o3 b3 HQ2 HR2 HB2 RW
      go_wp2_with fail
      refine (same_at RW3.out.ints R3.out.ints hLm).mono ?_
      rintro e w4 ⟨rfl, t4⟩
      have k4 := Kept.of_same (B := B) t4
      have HQ2 := Lib.hid (HQ.out.same t4)
      have HR2 := Lib.hid (HR.out.kept k4)
      have HB2 := Lib.hid (HB.out.trans (kept_below k4 hz3))
      have hz4 : B ≤ w4.heap.size := Nat.le_trans hz3 k4.size
      clear t4 k4
      go_wp2
      exact ⟨⟨k + 1, by omega, by go_num, HQ2.out, HR2.out, HB2.out, hz4⟩, by simp [intOf]; omega⟩
    · have klt : ¬ (k : Int) - 1 < 6 := by omega
      go_wp2_with fail
      refine (len_qs _ _ _ _ HQ.out).mono ?_
      rintro e w2 ⟨rfl, rfl⟩
      obtain ⟨V, RV⟩ := HR.out
      have RV' := Lib.hid RV
      have eqq : ((s.size : Int) == s.size) = true := by simp
      clear RV
      go_wp2_with fail
      refine (rlen_any _ B pb V s RV'.out hs).mono ?_
      rintro e w4 ⟨rfl, t4⟩
      have k4 := Kept.of_same (B := B) t4
      have HQ2 := Lib.hid (HQ.out.same t4)
      have HR2 := Lib.hid (HR.out.kept k4)
      have HB2 := Lib.hid (HB.out.trans (kept_below k4 hz))
      have hz4 : B ≤ w4.heap.size := Nat.le_trans hz k4.size
      clear t4 k4
      go_wp2
      go_ret
      exact ⟨rfl, HQ2.out, HR2.out, HB2.out, hz4⟩
end Go.Proofs.Ytpfmpfmbmipglaa
