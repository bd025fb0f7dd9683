/-
  The reference's Put of a new process; List; Len.
-/
import Derived.Test.YtpfmpfmbmipglaaRef2
namespace Go.Proofs.Ytpfmpfmbmipglaa
open Go.RowKit

theorem grown_kept {w w1 : World} {B : Nat} {row : Option Nat} (hg : w.grownBy w1 row) (hr : ∀ g, row = some g → B ≤ g ∧ (∃ c f, w.heap[g]? = some (.cells c 2 f))) : KeptR B w w1 := by
  refine ⟨hg.os, hg.tape, hg.output, hg.size, fun k hk hf => hg.block k hk (fun e => ?_)⟩
  obtain ⟨h1, c, f, h2⟩ := hr k e.symm
  rcases hf with x | x
  · omega
  · have := x _ h2; cases this

theorem set_keptR {w w1 : World} {B pb o : Nat} {c : Array Value} {f : Nat × Nat} (h : KeptR B w w1) (hb : B ≤ pb) (q : w1.heap[pb]? = some (.cells c 46 f)) (v : Value) : KeptR B w (w1.setCell ⟨pb, o, none⟩ v) := by
  refine ⟨h.os, h.tape, h.output, by rw [heap_setCell, put_size]; exact h.size, fun k hk hf => ?_⟩
  have e := h.block k hk hf
  rw [heap_setCell, put_other, e]
  intro ek
  subst ek
  rcases hf with x | x
  · omega
  · rw [e] at q
    have := x _ q
    cases this

theorem own_row {w : World} {base : Nat} {v : Value} {n : Nat} {xs : List Value} (h : w.ownsRow base 2 1 v n xs) : ∀ g, v.ownBlock = some g → base ≤ g ∧ ∃ c f, w.heap[g]? = some (.cells c 2 f) := by
  intro g hg
  rcases h.2 with ⟨rfl, _⟩ | ⟨g', cap, cur, rfl, hb, hh, _⟩
  · simp [Value.ownBlock] at hg
  · simp only [Value.ownBlock, Option.some.injEq] at hg
    subst hg
    exact ⟨hb, _, _, hh⟩

theorem new_cell (w : World) (id : Int) : ∀ (j : Nat) (u : Value), [Value.int .i64 id][j]? = some u → (w.alloc (.cells #[.int .i64 id] 2)).drew.cell? ((Addr.mk w.heap.size 0 none).add j) = some u := by
  intro j u hj
  cases j with
  | zero => simp at hj; subst hj; exact (World.cell?_alloc_at _ _ _ _ rfl).trans rfl
  | succ j => simp at hj

theorem pb_same {w w1 : World} {B pb : Nat} {V : Nat → Value} {s : St} {o : Obj} {v : Value} {n : Nat} {xs : List Value} (r : RS w B pb V s) (hg : (w.alloc o).drew.grownBy w1 v.ownBlock) (ho : w.ownsRow B 2 1 v n xs) : w1.heap[pb]? = w.heap[pb]? := by
  rw [hg.block pb (by show pb < (w.heap.push o).size; have := lt_of r.q; simp; omega) (fun e => ?_)]
  · show (w.heap.push o)[pb]? = _
    rw [Array.getElem?_push, if_neg (by have := lt_of r.q; omega)]
  · obtain ⟨_, c, f, h⟩ := own_row ho pb e.symm
    rw [r.q] at h
    cases h

theorem alloc_keptR {w w1 : World} {B : Nat} {o : Obj} {v : Value} {n : Nat} {xs : List Value} (hg : (w.alloc o).drew.grownBy w1 v.ownBlock) (ho : w.ownsRow B 2 1 v n xs) : KeptR B w w1 := by
  have a : KeptR B w (w.alloc o) := KeptR.of_below ((Below.refl _ _).alloc (Nat.le_refl _) o)
  refine a.trans (KeptR.undrew (grown_kept hg fun g e => ?_))
  obtain ⟨h1, c, f, h2⟩ := own_row ho g e
  exact ⟨h1, c, f, push_at (o := o) h2⟩

theorem put_rs {w w1 : World} {B pb : Nat} {V : Nat → Value} {s : St} (r : RS w B pb V s) {p : Nat} (hp : p < 3) {v : Value} (hf : V p = v) {o : Obj} (hg : (w.alloc o).drew.grownBy w1 v.ownBlock) (e1 : w1.heap[pb]? = w.heap[pb]?) {g cap : Nat} {id : Int}
    (ho : w1.ownsRow B 2 1 (.slice (some ⟨g, 0, none⟩) ((s.at p).length + 1) cap) ((s.at p).length + 1) ((s.at p).map (Value.int .i64) ++ [.int .i64 id])) (ha : v.ownBlock = some g ∨ g = w.heap.size + 1) :
    RS (w1.setCell ⟨pb, p, none⟩ (.slice (some ⟨g, 0, none⟩) ((s.at p).length + 1) cap)) B pb (updV V p (.slice (some ⟨g, 0, none⟩) ((s.at p).length + 1) cap)) (s.set ((p : Int) + 1) (s.at p ++ [id])) := by
  have key : ∀ k, k < 3 → k ≠ p → ∀ g', (V k).ownBlock = some g' → v.ownBlock ≠ some g' := fun k hk hkp g' e1 e2 => r.apart k p hk hp hkp g' e1 (by rw [hf]; exact e2)
  refine rs_set hp (e1.trans r.q) r.b (fun k hk hkp => ?_) (by simpa using ho) (fun j k hj hk hjk _ _ => r.apart j k hj hk hjk) (fun k hk hkp g' e => ?_)
  · refine own_grown (w := (w.alloc o).drew) ?_ hg (key k hk hkp)
    exact (r.row k hk).alloc _
  · simp only [Value.ownBlock, ne_eq, Option.some.injEq]
    intro eg
    subst eg
    rcases ha with h | h
    · exact key k hk hkp _ e h
    · obtain ⟨_, c, f, h2⟩ := own_row (r.row k hk) _ e
      have := lt_of h2
      omega

theorem row_cells {w : World} {a : Option Addr} {n cap : Nat} {L : List Int} (h : Row w (.slice a n cap) L) (hn : ¬ a = none) : ∃ g, a = some ⟨g, 0, none⟩ ∧ ∀ j u, (L.map (Value.int .i64))[j]? = some u → w.cell? ((Addr.mk g 0 none).add j) = some u := by
  rcases h.2 with ⟨e, _⟩ | ⟨g, c, cur, hv, _, hh, _, _, hsz, ht⟩
  · simp only [Value.slice.injEq] at e; exact absurd e.1 hn
  · simp only [Value.slice.injEq] at hv
    refine ⟨g, hv.1, fun j u hu => ?_⟩
    rw [← ht] at hu
    have hj : j < L.length * 1 := by
      have := (List.getElem?_eq_some_iff.1 hu).1
      simp at this ⊢; omega
    rw [List.getElem?_take_of_lt hj] at hu
    have ea : (Addr.mk g 0 none).add j = ⟨g, j, none⟩ := by
      unfold Addr.add; split
      · rename_i e; rw [e]
      · simp
    rw [ea, cell_of hh]
    simpa using hu

set_option maxHeartbeats 1000000 in
theorem rput_ok (w : World) (B pb : Nat) (V : Nat → Value) (s : St) (r : RS w B pb V s) (hs : s.size < 1000000) (hB : B ≤ w.heap.size) (id : Int) (p : Nat) (hi : 0 ≤ id) (hp : p < 3) (hm : id ∉ s.ids) :
    Calls Try.prog 25 #[.pointer (some ⟨pb, 0, none⟩), .int .i64 id, .int .i64 ((p : Int) + 1)] w fun e w' => e = .returned (.int .i64 0) ∧ (∃ V', RS w' B pb V' (s.set ((p : Int) + 1) (s.at p ++ [id]))) ∧ KeptR B w w' := by
  obtain ⟨i0, hi0, hz0, hz1, hz2⟩ := info_parts Try.info2
  have HI := Lib.hid (And.intro hi0 (And.intro hz0 (And.intro hz1 hz2)))
  clear hi0 hz0 hz1 hz2
  have hlen := at_len s p
  have hcell := r.cell hp
  have hrow := r.row p hp
  have hpb := lt_of r.q
  have HR := Lib.hid r
  have HM := Lib.hid hm
  have HRW := Lib.hid hrow
  obtain ⟨va, vc, hform⟩ := (r.row' hp).form
  have HF := Lib.hid hform
  rw [hform] at hcell
  clear r hm hrow hform
  go_enter Try.func25, Try.ntmps25
  go_wp2_with fail
  refine (find_no HR.out hs HM.out).mono ?_
  rintro e w' ⟨rfl, rfl⟩
  go_wp2
  have hw : IntKind.i64.wrap (p : Int) = p := IntWalk.i64_in _ (by omega)
  have hp0 : (0 : Int) ≤ p := by omega
  have hp3 : (p : Int) < 3 := by omega
  go_region_law (refine step_append_lies _ rfl (.tmp 36) (.tmp 38) 32 rfl B 2 i0 (.int .i64 0) 1 8 Try.underlying32 HI.out.1 HI.out.2.1 HI.out.2.2.1 HI.out.2.2.2 rfl (by decide) (.slice va (s.at p).length vc) (s.at p).length ((s.at p).map (Value.int .i64)) (by simp [Act.eval]) (by rw [← HF.out]; exact HRW.out.alloc _) ⟨w.heap.size, 0, none⟩ 1 1 [.int .i64 id] (by simp [Act.eval]) rfl (new_cell w id) (by simp [Value.oneCell']) (by decide) (by unfold maxLen; omega) (by omega) (by show B ≤ (w.heap.push _).size; simp; omega) (w.heap.size + 1) (by show (w.heap.push _).size = _; simp) ?_; intro g cap w1 hown hgrow hat hlt; have G := Lib.hid hgrow; have O := Lib.hid hown; have A := Lib.hid hat; have e1 : w1.heap[pb]? = w.heap[pb]? := pb_same HR.out (HF.out ▸ hgrow) (HRW.out); have f1 : w1.cell? ⟨pb, p, none⟩ = some (.slice va (s.at p).length vc) := ((World.cell?_of_block (w := w) (a := ⟨pb, p, none⟩) e1).trans hcell); have f2 : w1.frozen? ⟨pb, p, none⟩ = false := free_of (e1.trans HR.out.q) p; have E1 := Lib.hid e1; clear e1 hown hgrow hat hlt)
  all_goals
    go_wp2
    go_ret
    refine ⟨rfl, ⟨_, put_rs HR.out hp HF.out G.out E1.out O.out A.out⟩, ?_⟩
    exact set_keptR (alloc_keptR G.out (HF.out ▸ HRW.out)) HR.out.b (E1.out.trans HR.out.q) _

def AppR (w : World) (l : List Int) (e : Ending) (w' : World) : Prop := ∃ v, e = .returned v ∧ w'.ownsRow w.heap.size 2 1 v l.length (l.map (Value.int .i64)) ∧ Below w.heap.size w w'

set_option maxHeartbeats 1000000 in
theorem rlist_none (w : World) (pb : Nat) (p : Int) (h : p < 1 ∨ 3 < p) :
    Calls Try.prog 29 #[.pointer (some ⟨pb, 0, none⟩), .int .i64 p] w fun e w' => e = .returned (.slice none 0 0) ∧ w = w' := by
  by_cases b : p < 1
  · clear h
    go_enter Try.func29, Try.ntmps29
    go_wp2
    go_ret
    exact ⟨rfl, rfl⟩
  · have b' : decide (p < 1) = false := by simpa using b
    have d : 3 < p := by omega
    clear h
    go_enter Try.func29, Try.ntmps29
    go_wp2
    go_ret
    exact ⟨rfl, rfl⟩

set_option maxHeartbeats 1000000 in
theorem rlist_some (w : World) (B pb : Nat) (V : Nat → Value) (s : St) (r : RS w B pb V s) (hs : s.size < 1000000) (p : Nat) (hp : p < 3) :
    Calls Try.prog 29 #[.pointer (some ⟨pb, 0, none⟩), .int .i64 ((p : Int) + 1)] w (AppR w (s.at p)) := by
  obtain ⟨i0, hi0, hz0, hz1, hz2⟩ := info_parts Try.info2
  have HI := Lib.hid (And.intro hi0 (And.intro hz0 (And.intro hz1 hz2)))
  clear hi0 hz0 hz1 hz2
  have hlen := at_len s p
  have hcell := r.cell hp
  have RW := Lib.hid (r.row' hp)
  obtain ⟨va, vc, hform⟩ := (r.row' hp).form
  rw [hform] at hcell RW
  clear r hform
  have hp0 : (0 : Int) ≤ p := by omega
  have hp3 : (p : Int) < 3 := by omega
  generalize s.at p = L at *
  by_cases hn : va = none
  · subst hn
    have : L = [] ∧ vc = 0 := by
      rcases RW.out.2 with ⟨e, h0⟩ | ⟨g, c, cur, hv, _⟩
      · simp only [Value.slice.injEq] at e; exact ⟨List.length_eq_zero_iff.1 h0, e.2.2⟩
      · simp only [Value.slice.injEq] at hv; cases hv.1
    obtain ⟨rfl, rfl⟩ := this
    go_enter Try.func29, Try.ntmps29
    go_wp2_with (at_builtin; refine wpList_append_own_none rfl _ _ 32 rfl w.heap.size 2 i0 1 Try.underlying32 HI.out.1 (.slice none 0 0) 0 [] rfl ⟨rfl, .inl ⟨rfl, rfl⟩⟩ rfl ?_)
    go_ret
    exact ⟨_, rfl, ⟨rfl, .inl ⟨rfl, rfl⟩⟩, Below.refl _ _⟩
  · obtain ⟨g, rfl, hcells⟩ := row_cells RW.out hn
    have HCE := Lib.hid hcells
    clear hcells hn
    go_enter Try.func29, Try.ntmps29
    go_wp2_with (at_builtin; refine wpList_append_own _ rfl _ _ 32 rfl w.heap.size 2 i0 (.int .i64 0) 1 8 Try.underlying32 HI.out.1 HI.out.2.1 HI.out.2.2.1 HI.out.2.2.2 rfl (by decide) (.slice none 0 0) 0 [] rfl ⟨rfl, .inl ⟨rfl, rfl⟩⟩ ⟨g, 0, none⟩ L.length vc (L.map (Value.int .i64)) rfl (by simp) HCE.out ?c2 ?c3 ?c4 (Nat.le_refl _) ?_)
    case c2 => intro u hu; simp at hu; obtain ⟨x, _, rfl⟩ := hu; rfl
    case c3 => unfold maxLen; omega
    case c4 => omega
    intro v' w8 hown' hgrow _
    have O := Lib.hid hown'
    have G := Lib.hid ((Below.refl w.heap.size w).grown hgrow (Nat.le_refl _) (fun k e => by simp [Value.ownBlock] at e))
    clear hown' hgrow
    go_wp2
    go_ret
    exact ⟨_, rfl, by simpa using O.out, G.out⟩

set_option maxHeartbeats 1000000 in
theorem rlen_any (w : World) (B pb : Nat) (V : Nat → Value) (s : St) (r : RS w B pb V s) (hs : s.size < 1000000) :
    Calls Try.prog 30 #[.pointer (some ⟨pb, 0, none⟩)] w fun e w' => e = .returned (.int .i64 s.size) ∧ To w w' w.heap := by
  obtain ⟨a0, b0, f0⟩ := (r.row' (p := 0) (by omega)).form
  obtain ⟨a1, b1, f1⟩ := (r.row' (p := 1) (by omega)).form
  obtain ⟨a2, b2, f2⟩ := (r.row' (p := 2) (by omega)).form
  have c0 := r.cell (p := 0) (by omega)
  have c1 := r.cell (p := 1) (by omega)
  have c2 := r.cell (p := 2) (by omega)
  rw [f0] at c0
  rw [f1] at c1
  rw [f2] at c2
  have l0 := at_len s 0
  have l1 := at_len s 1
  have l2 := at_len s 2
  have SZ := Lib.hid (show (s.size : Int) = (s.at 0).length + (s.at 1).length + (s.at 2).length by show ((s.h.length + s.n.length + s.l.length : Nat) : Int) = s.h.length + s.n.length + s.l.length; omega)
  clear r f0 f1 f2
  generalize s.at 0 = L0 at *
  generalize s.at 1 = L1 at *
  generalize s.at 2 = L2 at *
  have w01 : IntKind.i64.wrap ((L0.length : Int) + L1.length) = (L0.length : Int) + L1.length := IntWalk.i64_in _ (by omega)
  have w02 : IntKind.i64.wrap ((L0.length : Int) + L1.length + L2.length) = (L0.length : Int) + L1.length + L2.length := IntWalk.i64_in _ (by omega)
  go_enter Try.func30, Try.ntmps30
  go_wp2
  go_quiet (fail)
  go_wp2
  go_ret
  rw [SZ.out]
  exact ⟨rfl, rfl, rfl, rfl, rfl⟩
end Go.Proofs.Ytpfmpfmbmipglaa
