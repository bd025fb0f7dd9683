/-
  Keeper.Room over an empty memory: the words are handed back in a new row.
-/
import Derived.Deep.RegionWith
import Derived.Test.YtogbcielgfidlaaGreatDoorMcQ2
namespace Go.Proofs.YtogbcielgfidlaaGreatDoor
set_option linter.unusedVariables false
set_option linter.unusedSimpArgs false
set_option linter.unusedSectionVars false
set_option linter.unusedSimpArgs false
set_option linter.unusedVariables false
open Go.Shelf Go.RowKit Go.Lib
namespace Ev
theorem Lay.In.keep {l : Lay} {w w' : World} (i : l.In w) (k : ∀ b, b < w.heap.size → w'.heap[b]? = w.heap[b]?) : l.In w' := by
  obtain ⟨⟨⟨M, E, x, y, s, hM, hk⟩, a0, a1, a2, a3, c0, c1, c2, c3, hh⟩, ht, hs, hr⟩ := i
  exact ⟨⟨⟨M, E, x, y, s, hM, hk.keep (k _ hk.lt)⟩, ⟨a0, a1, a2, a3, c0, c1, c2, c3, hh.keep (k _ hh.lt)⟩⟩, ht.keep (k _ ht.lt), hs.keep (k _ hs.lt), hr.keep (k _ hr.lt)⟩
/-- What Room leaves. -/
def RoomR (l : Lay) (w : World) (e : Ending) (w' : World) : Prop :=
  (∃ B p z, e = .returned (.tuple #[.slice (some ⟨B, p, none⟩) l.zs.length z, .int .i64 0]) ∧ w.heap.size ≤ B ∧ CellsAt w' B p z (l.zs.map (Value.int .u64))) ∧ l.Out w w'
theorem RoomR.later {l : Lay} {w w1 w' : World} {e : Ending} (k : Below w.heap.size w w1) (hk : l.kb < w.heap.size) (hh : l.hb < w.heap.size) (r : RoomR l w1 e w') : RoomR l w e w' := by
  obtain ⟨⟨B, p, z, h1, h2, h3⟩, o⟩ := r
  exact ⟨⟨B, p, z, h1, Nat.le_trans k.size h2, h3⟩, o.kh, Nat.le_trans k.size o.size, fun b hb n1 n2 => (o.keep b (Nat.lt_of_lt_of_le hb k.size) n1 n2).trans (k.block b hb), o.os.trans k.os, o.tape.trans k.tape, o.output.trans k.output⟩
theorem Lay.In.row {l : Lay} (o : l.Ok) {w : World} (i : l.In w) : RowW l.rb l.ro l.zs.length (fun j => l.zs.getD j 0) w := fun j hj =>
  ⟨by have := i.r.cell (j := j) (u := .int .u64 l.zs[j]) (by simp [hj]); rw [this]; simp [List.getD, hj, List.getElem?_eq_getElem hj], o.imm j hj⟩
variable [Opq]
set_option linter.unusedSectionVars false
set_option maxHeartbeats 2000000 in
set_option maxRecDepth 100000 in
theorem room_c {l : Lay} (o : l.Ok) (hF : Opq.val 2 = .int .i64 l.F) (hR : Opq.val 5 = .slice (some ⟨l.rb, l.ro, none⟩) l.zs.length l.cap) {w : World} (i : l.In w) :
    Calls Tryz.prog 211 #[.pointer (some ⟨l.kb, l.ko, none⟩), .int .i64 0, .slice (some ⟨l.rb, l.ro, none⟩) l.zs.length l.cap] w (RoomR l w) := by
  have row := i.row o
  obtain ⟨M, E, x, y, s, hM, hk⟩ := i.kh.k
  obtain ⟨a0, a1, a2, a3, c0, c1, c2, c3, hh⟩ := i.kh.h
  have e0 : w.cell? ⟨l.kb, l.ko, none⟩ = some (.pointer (some ⟨l.hb, l.ho, none⟩)) := hk.cell (j := 0) rfl
  have e1 := hk.cell (j := 1) rfl
  have e2 := hk.cell (j := 2) rfl
  have e3 := hk.cell (j := 3) rfl
  have e6 := hk.cell (j := 6) rfl
  have y0 := hh.cell (j := 0) rfl
  have y5 := hh.cell (j := 5) rfl
  have y6 := hh.cell (j := 6) rfl
  have f1 := o.f1
  have f2 := o.f2
  have keepH : KeepH l.kb l.ko l.hb l.ho w := ⟨e0, ⟨_, y6⟩⟩
  cases E with
  | false =>
    refine (room0_w l.kb l.ko l.hb l.ho l.rb l.ro l.zs.length l.cap l.F l.zs w keepH ⟨⟨_, _, y0⟩, y5⟩ (by omega) (by omega) e3 o.len rfl row).mono ?_
    rintro e w' ⟨v', B, rfl, ⟨q1, q2⟩, hB, hb⟩
    rcases q2 with ⟨_, q2⟩ | ⟨gb, cp, cur, rfl, z1, z2, z3, z4, z5, z6⟩
    · have := o.pos; omega
    rw [Nat.mul_one] at z5 z6
    refine ⟨⟨gb, 0, cp, rfl, Nat.le_trans hB z1, cur, _, z2, by omega, by simpa using z3, fun j u e => ?_⟩, ⟨⟨M, false, x, y, s, hM, hk.keep (hb.block _ hk.lt)⟩, ⟨a0, a1, a2, a3, c0, c1, c2, c3, hh.keep (hb.block _ hh.lt)⟩⟩, hb.size, fun b h1 _ _ => hb.block b h1, hb.os, hb.tape, hb.output⟩
    have hj : j < l.zs.length := by have := (List.getElem?_eq_some_iff.1 e).1; simpa using this
    rw [← z6, List.getElem?_take_of_lt hj] at e
    simpa using e
  | true =>
    have c0 : Calls Tryz.prog 287 #[.pointer (some ⟨l.kb, l.ko, none⟩), .slice (some ⟨l.rb, l.ro, none⟩) l.zs.length l.cap] w fun e w1 => e = .returned (.bool true) ∧ w1.cell? ⟨l.kb, l.ko, none⟩ = some (.pointer (some ⟨l.hb, l.ho, none⟩)) ∧ w1.cell? ⟨l.kb, l.ko + 2, none⟩ = some (.int .i64 M) ∧ w1.cell? ⟨l.kb, l.ko + 3, none⟩ = some (.bool true) ∧ w1.cell? ⟨l.kb, l.ko + 6, none⟩ = some (.int .i64 s) ∧
        ∀ (w2 : World) full, (w2.heap = w1.heap) → w2.os = w1.os → w2.tape = w1.tape → w2.output = w1.output → Calls Tryz.prog 288 #[.pointer (some ⟨l.kb, l.ko, none⟩), .bool full, .int .i64 0, .slice (some ⟨l.rb, l.ro, none⟩) l.zs.length l.cap] w2 (RoomR l w) := by
      refine (terms_w l.kb l.ko l.hb l.ho l.rb l.ro l.zs.length l.cap _ w keepH row o.len).mono ?_
      rintro e w1 ⟨rfl, t, rfl⟩
      refine ⟨rfl, cell_alloc e0, cell_alloc e2, cell_alloc e3, cell_alloc e6, fun w2 full h1 h2 h3 h4 => ?_⟩
      have hb : Below w.heap.size w w2 := by
        have := (Below.refl _ w).alloc (Nat.le_refl _) (.cells #[.pointer (some ⟨l.kb, l.ko, none⟩)] t)
        exact ⟨h2.trans this.os, h3.trans this.tape, h4.trans this.output, by rw [h1]; exact this.size, fun b hb => by rw [h1]; exact this.block b hb⟩
      exact (collect_c o hF hR (i.keep fun b h => hb.block b h) full).mono fun e w' h => RoomR.later hb hk.lt hh.lt h
    clear i row hk hh keepH e1 e2 e3 e6 y0 y5 y6
    go_enter Tryz.func211, Tryz.ntmps211
    go_wp2_with (go_at_call 287; refine c0.mono ?_; rintro e w1 ⟨rfl, d0, d2, d3, d6, c9⟩)
    have c10 : ∀ full, Calls Tryz.prog 288 #[.pointer (some ⟨l.kb, l.ko, none⟩), .bool full, .int .i64 0, .slice (some ⟨l.rb, l.ro, none⟩) l.zs.length l.cap] w1.drew (RoomR l w) := fun full => c9 w1.drew full rfl rfl rfl rfl
    clear c9
    go_region_with (go_at_call 288; refine (c10 _).mono ?_; rintro e w3 ⟨⟨B, p, z, rfl, hB, hc⟩, ho⟩)
    all_goals
      go_wp2
      go_ret2
      exact ⟨⟨B, p, z, rfl, hB, hc⟩, ho⟩
end Ev
end Go.Proofs.YtogbcielgfidlaaGreatDoor
