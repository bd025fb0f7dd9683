/-
  Pick of a queue in which processes wait.
-/
import Derived.Test.YtpfmpfmbmipglaaDrop
namespace Go.Proofs.Ytpfmpfmbmipglaa
open Go.RowKit

theorem qcell0 {N : Lines} {mb p b : Nat} {c id : Int} {ys : Chain} (h1 : 1 ≤ p) (h3 : p ≤ 3) (hN : N p = (b, id) :: ys) : (qcells N mb c)[p * 3]? = some (.pointer (some ⟨b, 0, none⟩)) := by
  have hp' : p = 1 ∨ p = 2 ∨ p = 3 := by omega
  rcases hp' with rfl | rfl | rfl <;> simp [qcells, hN, hd, pt]

theorem touch_counted {w w1 w2 w' : World} {qb mb : Nat} {N : Lines} {p : Nat} {l : Chain} {c : Int} {m : Obj} (C : Counted w w1 qb mb N c) (T : Turned w1 w2 qb mb N p l c) (h1 : 1 ≤ p) (h3 : p ≤ 3)
    (b1 : w'.heap = w2.heap.setIfInBounds mb m) (b2 : w'.os = w2.os) (b3 : w'.tape = w2.tape) (b4 : w'.output = w2.output) : Touch (foot qb mb N) w w' := by
  refine ⟨b2.trans (T.os.trans C.os), b3.trans (T.tape.trans C.tape), b4.trans (T.output.trans C.output), ?_, fun k hk hf => ?_⟩
  · have := T.size
    rw [C.size] at this
    rw [b1]; simp at this ⊢; omega
  · rw [b1, set_other (fun e => hf (.inr (.inl e))), T.block k (by rw [C.size]; omega) (fun e => hf (.inl e)) (fun x hx e => hf (.inr (.inr ⟨p, h1, h3, x, hx, e⟩))), C.block k (fun e => hf (.inl e))]

theorem pickLine_bd (N : Lines) (c : Int) : 1 ≤ pickLine N c ∧ pickLine N c ≤ 3 := by
  unfold pickLine; split
  · omega
  · split
    · omega
    · split <;> omega

set_option maxHeartbeats 400000 in
theorem pick_ok (qb mb : Nat) (N : Lines) (c : Int) (w : World) (R : Rep w.heap qb mb N c) (p : Nat) (hp : pickLine N c = p) (hl : (N p).length < 4611686018427387904) (ys : Chain) (b : Nat) (id : Int) (hN : N p = (b, id) :: ys) :
    Calls Try.prog 12 #[.pointer (some ⟨qb, 0, none⟩)] w fun e w' => e = .returned (.tuple #[.int .i64 id, .bool true]) ∧ Left qb mb N (pickCount N c) p ys w w' := by
  have hb := pickLine_bd N c
  rw [hp] at hb
  obtain ⟨h1, h3⟩ := hb
  obtain ⟨E, ck, hmb, hE⟩ := R.m
  have hc12 := where_cell R
  have hlen := run_len_ents (ty := 3) w Try.underlying54 hmb
  have hpos : ((E.length : Int) == 0) = false := by
    have : 0 < E.length := by
      rw [hE.len]
      have hp' : p = 1 ∨ p = 2 ∨ p = 3 := by omega
      rcases hp' with rfl | rfl | rfl <;> simp [hN] <;> omega
    exact beq_eq_false_iff_ne.2 (by omega)
  obtain ⟨j, e, hj, he, _, _, hf⟩ := find_present hE h1 h3 (x := (b, id)) (by rw [hN]; simp)
  simp only at hf he
  have LN := Lib.hid (show Calls Try.prog 23 #[.pointer (some ⟨qb, 0, none⟩)] w.drew fun e w' => e = .returned (.int .i64 p) ∧ Counted w w' qb mb N (pickCount N c) from (line_any qb mb N c w.drew R).mono fun e w' ⟨h, k⟩ => ⟨by rw [h, hp], k.os, k.tape, k.output, k.size, k.rep, k.block⟩)
  have HF := Lib.hid hf
  have HE := Lib.hid hE
  have HM := Lib.hid hmb
  have HR := Lib.hid R
  have HN := Lib.hid hN
  have HJ := Lib.hid hj
  have HI := Lib.hid he
  have hqm := Lib.hid (q_ne_m R.q hmb)
  clear hf hE hmb R hN hj he hp
  go_enter Try.func12, Try.ntmps12
  go_wp2_with (go_at_call 21; refine (is_yes qb mb _ hc12).mono ?_; rintro e w' ⟨rfl, rfl⟩)
  go_region_with (go_at_call 23; refine LN.out.mono ?_; rintro e w1 ⟨rfl, C⟩; have d0 : w1.cell? ⟨qb, p * 3, none⟩ = some (.pointer (some ⟨b, 0, none⟩)) := (by rw [cell_of C.rep.q]; exact qcell0 h1 h3 HN.out); have d1 : w1.cell? ⟨b, 0, none⟩ = some (.int .i64 id) := (by obtain ⟨u, v, hv⟩ := seg_mem (C.rep.s p h1 h3) (b, id) (by rw [HN.out]; simp); rw [cell_of hv]; rfl); have HC := Lib.hid C; clear C)
  all_goals
    go_wp2_with (go_at_call 24; refine (remove_rep qb mb N (pickCount N c) _ HC.out.rep p _ (by omega) h1 h3 hl [] ys (b, id) HN.out).mono ?_; rintro e w2 ⟨rfl, T⟩; have c2 : w2.cell? ⟨qb, 12, none⟩ = some (.map (some mb)) := (by rw [cell_of T.q]; rfl); have hdel := run_delete_ents (ty := 0) w2 Try.underlying54 Try.underlying2 ((T.m HC.out.rep h1 h3).trans ((HC.out.block mb (Ne.symm hqm.out)).trans HM.out)) id HF.out; have HT := Lib.hid T; clear T)
    go_ret2
    exact ⟨rfl, left_of HC.out.rep h1 h3 HN.out HT.out HE.out HJ.out HI.out, touch_counted HC.out HT.out h1 h3 rfl rfl rfl rfl⟩
end Go.Proofs.Ytpfmpfmbmipglaa
