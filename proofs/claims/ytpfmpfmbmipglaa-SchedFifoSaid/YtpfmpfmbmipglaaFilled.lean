/-
  filled: a queue behind the acts of a slice.
-/
import Derived.Test.YtpfmpfmbmipglaaAwake
namespace Go.Proofs.Ytpfmpfmbmipglaa
open Go.RowKit

/-- A slice value reads as these acts. -/
def IsActs (w : World) (v : Value) (l : List Act3) : Prop :=
  ∃ a cap, v = .slice a l.length cap ∧ l.length ≤ maxLen ∧ (l ≠ [] → ∃ b o, a = some ⟨b, o, none⟩ ∧ b < w.heap.size ∧
    ∀ i (x : Act3), l[i]? = some x → w.cell? ⟨b, o + i * 3, none⟩ = some (.int .i64 x.kind) ∧ w.cell? ⟨b, o + i * 3 + 1, none⟩ = some (.int .i64 x.id) ∧ w.cell? ⟨b, o + i * 3 + 2, none⟩ = some (.int .i64 x.pri) ∧ x.id ≤ 9223372036854775807)

theorem Kept.undrew {B : Nat} {w w' : World} (h : Kept B w.drew w') : Kept B w w' := ⟨h.os, h.tape, h.output, h.size, h.block⟩

def FillRel (w : World) (qb : Nat) (l : List Act3) (i : Value) (wr : World) : Prop :=
  ∃ k : Nat, k ≤ l.length ∧ k ≤ 400 ∧ i = .int .i64 k ∧ QS wr w.heap.size qb (run (l.take k)) ∧ Kept w.heap.size w wr

def Filled (w : World) (s : St) (e : Ending) (w' : World) : Prop :=
  ∃ qb, e = .returned (.pointer (some ⟨qb, 0, none⟩)) ∧ QS w' w.heap.size qb s ∧ Below w.heap.size w w'

theorem take_act {l : List Act3} {k : Nat} {x : Act3} (h : l[k]? = some x) : run (l.take (k + 1)) = (run (l.take k)).act x := by
  rw [List.take_add_one, h, ← run_snoc]; rfl

theorem min_take (l : List Act3) (k : Nat) (h : k = l.length ∨ k = 400) (h1 : k ≤ l.length) (h2 : k ≤ 400) : l.take k = l.take 400 := by
  rcases h with rfl | rfl
  · rw [List.take_of_length_le (Nat.le_refl _), List.take_of_length_le h2]
  · rfl

set_option maxHeartbeats 1000000 in
theorem filled_any (v : Value) (l : List Act3) (w : World) (hv : IsActs w v l) : Calls Try.prog 14 #[v] w (Filled w (run (l.take 400))) := by
  obtain ⟨a, cap, rfl, hmax, hcell⟩ := hv
  unfold maxLen at hmax
  have HC := Lib.hid hcell
  clear hcell
  go_enter Try.func14, Try.ntmps14
  go_wp2_with fail
  refine (new_qs w w.heap.size (Nat.le_refl _)).mono ?_
  rintro e w1 ⟨rfl, q, kb⟩
  have K := Lib.hid (Kept.of_below (B := w.heap.size) kb)
  have Q := Lib.hid q
  clear kb q
  generalize w.heap.size + 1 = qb at *
  go_wp2
  go_loopw [4] (fun i wr => FillRel w qb l i wr) (fun i _ => 400 - (intOf i).toNat)
  case atStart => exact ⟨0, Nat.zero_le _, by omega, rfl, Q.out, K.out⟩
  case round =>
    obtain ⟨k, hk, hk4, rfl, hq, hkept⟩ := hrel
    have HQ := Lib.hid hq
    have HK := Lib.hid hkept
    clear hq hkept Q K
    by_cases hlt : k < l.length
    · by_cases hl4 : k < 400
      · obtain ⟨b, o, rfl, hb, hx⟩ := HC.out (by intro e; rw [e] at hlt; cases hlt)
        obtain ⟨x, hxk⟩ : ∃ x, l[k]? = some x := ⟨_, List.getElem?_eq_getElem hlt⟩
        obtain ⟨c0, c1, c2, hid⟩ := hx k x hxk
        have bk := HK.out.block b hb (.inl hb)
        have c0' : wr.cell? ⟨b, o + k * 3, none⟩ = some (.int .i64 x.kind) := (World.cell?_of_block (w := w) bk).trans c0
        have c1' : wr.cell? ⟨b, o + k * 3 + 1, none⟩ = some (.int .i64 x.id) := (World.cell?_of_block (w := w) bk).trans c1
        have c2' : wr.cell? ⟨b, o + k * 3 + 2, none⟩ = some (.int .i64 x.pri) := (World.cell?_of_block (w := w) bk).trans c2
        have HX := Lib.hid hxk
        have hsz := run_sz (l.take k)
        have hsz' : (run (l.take k)).size < 1000000 := by have := List.length_take_le k l; omega
        have hB := HK.out.size
        clear c0 c1 c2 bk hx hxk hsz
        have k0 : (0 : Int) ≤ k := by omega
        have klt : (k : Int) < l.length := by omega
        have k4 : (k : Int) < 400 := by omega
        by_cases e0 : x.kind = 0
        · have ea : (run (l.take k)).act x = (run (l.take k)).put x.id x.pri := if_pos e0
          have EA := Lib.hid ea
          rw [e0] at c0'
          clear ea e0
          go_wp2
          go_region_with (go_at_call 11; refine (put_qs _ w.heap.size qb (run (l.take k)) (by exact HQ.out) (by exact hB) hsz' x.id x.pri hid).mono ?_; rintro e w2 ⟨rfl, q2, k2⟩; have Q2 := Lib.hid q2; have K2 := Lib.hid k2; clear q2 k2)
          all_goals
            go_wp2
            exact ⟨⟨k + 1, by omega, by omega, by go_num, by rw [take_act HX.out, EA.out]; exact Q2.out, HK.out.trans K2.out.undrew⟩, by simp [intOf]; omega⟩
        · have n0 : (x.kind == 0) = false := beq_eq_false_iff_ne.2 e0
          by_cases e1 : x.kind = 1
          · have ea : (run (l.take k)).act x = (run (l.take k)).pick := by unfold St.act; rw [if_neg e0, if_pos e1]
            have EA := Lib.hid ea
            rw [e1] at c0'
            clear ea e0 n0 e1
            go_wp2_with (go_at_call 12; refine (pick_qs _ w.heap.size qb (run (l.take k)) (by exact HQ.out) hsz').mono ?_; rintro e w2 ⟨rfl, q2, k2⟩; have Q2 := Lib.hid q2; have K2 := Lib.hid k2; clear q2 k2)
            exact ⟨⟨k + 1, by omega, by omega, by go_num, by rw [take_act HX.out, EA.out]; exact Q2.out, HK.out.trans K2.out⟩, by simp [intOf]; omega⟩
          · have n1 : (x.kind == 1) = false := beq_eq_false_iff_ne.2 e1
            by_cases e2 : x.kind = 2
            · have ea : (run (l.take k)).act x = (run (l.take k)).drop x.id := by unfold St.act; rw [if_neg e0, if_neg e1, if_pos e2]
              have EA := Lib.hid ea
              rw [e2] at c0'
              clear ea e0 n0 e1 n1 e2
              go_wp2_with (go_at_call 18; refine (drop_qs _ w.heap.size qb (run (l.take k)) (by exact HQ.out) hsz' x.id).mono ?_; rintro e w2 ⟨rfl, q2, k2⟩; have Q2 := Lib.hid q2; have K2 := Lib.hid k2; clear q2 k2)
              exact ⟨⟨k + 1, by omega, by omega, by go_num, by rw [take_act HX.out, EA.out]; exact Q2.out, HK.out.trans K2.out⟩, by simp [intOf]; omega⟩
            · have n2 : (x.kind == 2) = false := beq_eq_false_iff_ne.2 e2
              have ea : (run (l.take k)).act x = run (l.take k) := by unfold St.act; rw [if_neg e0, if_neg e1, if_neg e2]
              have EA := Lib.hid ea
              clear ea e0 e1 e2
              go_wp2
              exact ⟨⟨k + 1, by omega, by omega, by go_num, by rw [take_act HX.out, EA.out]; exact HQ.out, HK.out⟩, by simp [intOf]; omega⟩
      · have k4 : ¬ (k : Int) < 400 := by omega
        have klt : (k : Int) < l.length := by omega
        go_wp2
        go_ret
        exact ⟨qb, rfl, by rw [← min_take l k (by omega) hk hk4]; exact HQ.out, HK.out.toBelow⟩
    · have klt : ¬ (k : Int) < l.length := by omega
      have kd : decide ((k : Int) < l.length) = false := by simp; omega
      go_wp2
      go_ret
      exact ⟨qb, rfl, by rw [← min_take l k (by omega) hk hk4]; exact HQ.out, HK.out.toBelow⟩
end Go.Proofs.Ytpfmpfmbmipglaa
