/-
  List and same.
-/
import Derived.Test.YtpfmpfmbmipglaaTake
import Derived.Deep.LoopGhost
namespace Go.Proofs.Ytpfmpfmbmipglaa
open Go.RowKit

theorem Try.info2 : (Try.prog.info? 2).map (fun i => (i.zero, i.size, i.bytes)) = some (some (.int .i64 0), 1, 8) := by kernel_rfl

theorem pt_ptr (u : Option Nat) : ∃ a, pt u = .pointer a := by cases u <;> exact ⟨_, rfl⟩

theorem own_base {w : World} {base e size : Nat} {v : Value} {n : Nat} {xs : List Value} (h : w.ownsRow base e size v n xs) : ∀ k, v.ownBlock = some k → base ≤ k := by
  intro k hk
  rcases h.2 with ⟨rfl, _⟩ | ⟨g, cap, cur, rfl, hg, _⟩
  · simp [Value.ownBlock] at hk
  · simp [Value.ownBlock] at hk; omega

/-- The chain up to a place has been collected. -/
def Coll (w : World) (N : Lines) (p : Nat) (k : Nat) (out x : Value) (wr : World) : Prop :=
  ∃ xs ys, N p = xs ++ ys ∧ ys.length = k ∧ x = pt (hd ys none) ∧ wr.ownsRow w.heap.size 2 1 out xs.length (xs.map fun y => Value.int .i64 y.2) ∧ Below w.heap.size w wr

def Listed (w : World) (l : List Int) (e : Ending) (w' : World) : Prop :=
  ∃ v, e = .returned v ∧ w'.ownsRow w.heap.size 2 1 v l.length (l.map (Value.int .i64)) ∧ Below w.heap.size w w'

set_option maxHeartbeats 400000 in
theorem list_none (qb mb : Nat) (N : Lines) (c : Int) (w : World) (R : Rep w.heap qb mb N c) (p : Int) (h : p < 1 ∨ 3 < p) :
    Calls Try.prog 15 #[.pointer (some ⟨qb, 0, none⟩), .int .i64 p] w fun e w' => e = .returned (.slice none 0 0) ∧ w = w' := by
  have hc12 := where_cell R
  clear R
  by_cases b : p < 1
  · clear h
    go_enter Try.func15, Try.ntmps15
    go_wp2_with (go_at_call 21; refine (is_yes qb mb _ hc12).mono ?_; rintro e w' ⟨rfl, rfl⟩)
    go_ret
    exact ⟨rfl, rfl⟩
  · have b' : decide (p < 1) = false := by simpa using b
    have d : 3 < p := by omega
    clear h
    go_enter Try.func15, Try.ntmps15
    go_wp2_with (go_at_call 21; refine (is_yes qb mb _ hc12).mono ?_; rintro e w' ⟨rfl, rfl⟩)
    go_ret
    exact ⟨rfl, rfl⟩

theorem qcellF {N : Lines} {mb p : Nat} {c : Int} (h1 : 1 ≤ p) (h3 : p ≤ 3) : (qcells N mb c)[p * 3]? = some (pt (hd (N p) none)) := by
  have hp' : p = 1 ∨ p = 2 ∨ p = 3 := by omega
  rcases hp' with rfl | rfl | rfl <;> simp [qcells]

set_option maxHeartbeats 1000000 in
theorem list_any (qb mb : Nat) (N : Lines) (c : Int) (w : World) (R : Rep w.heap qb mb N c) (p : Nat) (h1 : 1 ≤ p) (h3 : p ≤ 3) (hl : (N p).length < 1000000) :
    Calls Try.prog 15 #[.pointer (some ⟨qb, 0, none⟩), .int .i64 p] w (Listed w ((N p).map (·.2))) := by
  obtain ⟨i0, hi, hz0, hz1, hz2⟩ := info_parts Try.info2
  have hc12 := where_cell R
  obtain ⟨u0, hu0⟩ := pt_ptr (hd (N p) none)
  have d0 : w.cell? ⟨qb, p * 3, none⟩ = some (.pointer u0) := by rw [cell_of R.q, qcellF h1 h3, hu0]
  have HU := Lib.hid hu0
  have HS := Lib.hid (R.s p h1 h3)
  have HI := Lib.hid (And.intro hi (And.intro hz0 (And.intro hz1 hz2)))
  have b1 : ¬ (p : Int) < 1 := by omega
  have b2 : ¬ 3 < (p : Int) := by omega
  have b1' : decide ((p : Int) < 1) = false := by simp; omega
  clear R hu0 hi hz0 hz1 hz2
  go_enter Try.func15, Try.ntmps15
  go_wp2_with (go_at_call 21; refine (is_yes qb mb _ hc12).mono ?_; rintro e w' ⟨rfl, rfl⟩)
  go_loopg [5, 6] (N p).length (fun k out x wr => Coll w N p k out x wr)
  case atStart => exact ⟨[], N p, rfl, rfl, HU.out.symm, ⟨rfl, .inl ⟨rfl, rfl⟩⟩, Below.refl _ _⟩
  case round =>
    obtain ⟨xs, ys, hN, hk, rfl, hown, hbel⟩ := hrel
    cases ys with
    | nil =>
      simp only [hd, pt]
      have HN := Lib.hid hN
      have HO := Lib.hid hown
      have HB := Lib.hid hbel
      clear hN hown hbel hk
      go_wp2
      go_ret
      refine ⟨_, rfl, ?_, HB.out⟩
      have e := HN.out
      rw [List.append_nil] at e
      rw [e]
      have q := HO.out
      simp only [List.length_map, List.map_map]
      exact q
    | cons y ys' =>
      have hseg := (seg_append _ _ _ _ _).1 (hN ▸ HS.out)
      have hy := hseg.2.1
      obtain ⟨u, hu⟩ := pt_ptr (hd ys' none)
      have hyr : wr.heap[y.1]? = some (link y.2 (lst xs none) (hd ys' none)) := (hbel.block _ (lt_of hy)).trans hy
      have y0 : wr.cell? ⟨y.1, 0, none⟩ = some (.int .i64 y.2) := by rw [cell_of hyr]; rfl
      have hlt := lt_of hy
      have hsz := hbel.size
      have hxl : xs.length < 1000000 := by rw [hN] at hl; simp at hl; omega
      simp only [hd, pt]
      have HN := Lib.hid hN
      have HK := Lib.hid hk
      have HY := Lib.hid hy
      have HU' := Lib.hid hu
      have HB := Lib.hid hbel
      have HO := Lib.hid hown
      clear hN hk hbel hseg hy hu hyr hown hl
      go_wp2_with (at_builtin; refine wpList_append_own _ rfl _ _ 32 rfl w.heap.size 2 i0 (.int .i64 0) 1 8 Try.underlying32 HI.out.1 HI.out.2.1 HI.out.2.2.1 HI.out.2.2.2 rfl (by decide) _ _ _ rfl (HO.out.alloc _) ⟨wr.heap.size, 0, none⟩ 1 1 [.int .i64 y.2] rfl rfl ?c1 ?c2 ?c3 ?c4 ?c5 ?_)
      case c1 => intro j v hj; cases j with
        | zero => simp at hj; subst hj; exact (World.cell?_alloc_at _ _ _ _ rfl).trans rfl
        | succ j => simp at hj
      case c2 => simp [Value.oneCell']
      case c3 => unfold maxLen; omega
      case c4 => omega
      case c5 => simp; omega
      intro v' w1 hown' hgrow _
      have HG := Lib.hid (((HB.out.alloc hsz (.cells #[.int .i64 y.2] 2)).grown hgrow (by simp; omega) (own_base HO.out)))
      have HO' := Lib.hid hown'
      have y2 : w1.cell? ⟨y.1, 2, none⟩ = some (.pointer u) := by
        rw [cell_of ((HG.out.block _ hlt).trans HY.out), ← HU'.out]; rfl
      clear hown' hgrow
      go_wp2
      go_roundg ys'.length
      case measure => have := HK.out; simp at this; omega
      case rel =>
        refine ⟨xs ++ [y], ys', by rw [HN.out]; simp, rfl, HU'.out.symm, ?_, HG.out⟩
        have q := HO'.out
        simpa using q
end Go.Proofs.Ytpfmpfmbmipglaa
