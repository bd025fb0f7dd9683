/-
  line, Pick and Drop.
-/
import Derived.Test.YtpfmpfmbmipglaaPick
namespace Go.Proofs.Ytpfmpfmbmipglaa
open Go.RowKit

/-- The line of the next pick, and the count behind it (P29.2). -/
def pickLine (N : Lines) (c : Int) : Nat := if N 1 ≠ [] then 1 else if N 2 ≠ [] ∧ N 3 ≠ [] ∧ c < 7 then 2 else if N 3 ≠ [] then 3 else 2
def pickCount (N : Lines) (c : Int) : Int := if N 1 ≠ [] then c else if N 2 ≠ [] ∧ N 3 ≠ [] ∧ c < 7 then c + 1 else 0

theorem len_pos {l : Chain} : l ≠ [] ↔ (0 : Int) < l.length := by cases l <;> simp

/-- Only the queue's own block has been written: its count. -/
structure Counted (w w' : World) (qb mb : Nat) (N : Lines) (c : Int) : Prop where
  os : w'.os = w.os
  tape : w'.tape = w.tape
  output : w'.output = w.output
  size : w'.heap.size = w.heap.size
  rep : Rep w'.heap qb mb N c
  block : ∀ k, k ≠ qb → w'.heap[k]? = w.heap[k]?

theorem counted {w w' : World} {qb mb : Nat} {N : Lines} {c : Int} (R : Rep w.heap qb mb N c) (d : Int) (hd : 0 ≤ d ∧ d ≤ 7) (t : To w w' (put w.heap qb 13 (.int .i64 d))) : Counted w w' qb mb N d := by
  obtain ⟨E, ck, hmb, hE⟩ := R.m
  have ob : ∀ k, k ≠ qb → w'.heap[k]? = w.heap[k]? := fun k hk => by rw [t.heap, put_other hk]
  refine ⟨t.os, t.tape, t.output, by rw [t.heap, put_size], ⟨?_, ⟨E, ck, by rw [ob mb (Ne.symm (q_ne_m R.q hmb))]; exact hmb, hE⟩, fun p h1 h3 => ?_, R.ids, R.pos, hd⟩, ob⟩
  · rw [t.heap, put_same R.q]; rfl
  · refine seg_frame (R.s p h1 h3) (fun x hx => ob _ ?_)
    obtain ⟨a, b, hb⟩ := seg_mem (R.s p h1 h3) x hx
    exact link_ne_q hb R.q

theorem counted_same {w : World} {qb mb : Nat} {N : Lines} {c : Int} (R : Rep w.heap qb mb N c) : Counted w w qb mb N c := ⟨rfl, rfl, rfl, rfl, R, fun _ _ => rfl⟩

set_option maxHeartbeats 400000 in
theorem line_any (qb mb : Nat) (N : Lines) (c : Int) (w : World) (R : Rep w.heap qb mb N c) :
    Calls Try.prog 23 #[.pointer (some ⟨qb, 0, none⟩)] w fun e w' => e = .returned (.int .i64 (pickLine N c)) ∧ Counted w w' qb mb N (pickCount N c) := by
  have c1 : w.cell? ⟨qb, 5, none⟩ = some (.int .i64 (N 1).length) := by rw [cell_of R.q]; rfl
  have c2 : w.cell? ⟨qb, 8, none⟩ = some (.int .i64 (N 2).length) := by rw [cell_of R.q]; rfl
  have c3 : w.cell? ⟨qb, 11, none⟩ = some (.int .i64 (N 3).length) := by rw [cell_of R.q]; rfl
  have c4 : w.cell? ⟨qb, 13, none⟩ = some (.int .i64 c) := by rw [cell_of R.q]; rfl
  have hf := free_of R.q
  have hcnt := R.cnt
  obtain ⟨hc0, hc7⟩ := hcnt
  have fin : ∀ (l : Nat) (d : Int) (w' : World), pickLine N c = l → pickCount N c = d → Counted w w' qb mb N d → (Ending.returned (.int .i64 (l : Int)) = .returned (.int .i64 (pickLine N c)) ∧ Counted w w' qb mb N (pickCount N c)) := fun l d w' e1 e2 h => by rw [e1, e2]; exact ⟨rfl, h⟩
  have FIN := Lib.hid fin
  have CO := Lib.hid (fun d h w' => counted (d := d) (hd := h) (w' := w') R)
  have CS := Lib.hid (counted_same R)
  clear fin R
  have len1 := len_pos (l := N 1)
  have len2 := len_pos (l := N 2)
  have len3 := len_pos (l := N 3)
  by_cases a : N 1 ≠ []
  · have e1 := Lib.hid (show pickLine N c = 1 from if_pos a)
    have e2 := Lib.hid (show pickCount N c = c from if_pos a)
    have a' := len1.1 a
    clear a len1 len2 len3
    go_enter Try.func23, Try.ntmps23
    go_wp2
    go_ret
    exact FIN.out 1 c w e1.out e2.out CS.out
  · have a' : ¬ (0 : Int) < (N 1).length := fun x => a (len1.2 x)
    by_cases b : N 2 ≠ [] ∧ N 3 ≠ [] ∧ c < 7
    · have e1 := Lib.hid (show pickLine N c = 2 by simp only [pickLine, if_neg a, if_pos b])
      have e2 := Lib.hid (show pickCount N c = c + 1 by simp only [pickCount, if_neg a, if_pos b])
      obtain ⟨b2, b3, b7⟩ := b
      have b2' := len2.1 b2
      have b3' := len3.1 b3
      clear a b2 b3 len1 len2 len3
      go_enter Try.func23, Try.ntmps23
      go_wp2
      go_ret
      exact FIN.out 2 (c + 1) _ e1.out e2.out (CO.out _ (by omega) _ ⟨rfl, rfl, rfl, rfl⟩)
    · have e2 := Lib.hid (show pickCount N c = 0 by simp only [pickCount, if_neg a, if_neg b])
      by_cases d : N 3 ≠ []
      · have e1 := Lib.hid (show pickLine N c = 3 by simp only [pickLine, if_neg a, if_neg b, if_pos d])
        have d' := len3.1 d
        by_cases b2 : N 2 ≠ []
        · have b7 : ¬ c < 7 := fun x => b ⟨b2, d, x⟩
          have b2' := len2.1 b2
          clear a b b2 d len1 len2 len3
          go_enter Try.func23, Try.ntmps23
          go_wp2
          go_ret
          exact FIN.out 3 0 _ e1.out e2.out (CO.out _ (by omega) _ ⟨rfl, rfl, rfl, rfl⟩)
        · have b2' : ¬ (0 : Int) < (N 2).length := fun x => b2 (len2.2 x)
          have b2'' : decide ((0 : Int) < (N 2).length) = false := by simpa using b2'
          clear a b b2 d len1 len2 len3
          go_enter Try.func23, Try.ntmps23
          go_wp2
          go_ret
          exact FIN.out 3 0 _ e1.out e2.out (CO.out _ (by omega) _ ⟨rfl, rfl, rfl, rfl⟩)
      · have e1 := Lib.hid (show pickLine N c = 2 by simp only [pickLine, if_neg a, if_neg b, if_neg d])
        have d' : ¬ (0 : Int) < (N 3).length := fun x => d (len3.2 x)
        have d'' : decide ((0 : Int) < (N 3).length) = false := by simpa using d'
        by_cases b2 : N 2 ≠ []
        · have b2' := len2.1 b2
          clear a b b2 d len1 len2 len3
          go_enter Try.func23, Try.ntmps23
          go_wp2
          go_ret
          exact FIN.out 2 0 _ e1.out e2.out (CO.out _ (by omega) _ ⟨rfl, rfl, rfl, rfl⟩)
        · have b2' : ¬ (0 : Int) < (N 2).length := fun x => b2 (len2.2 x)
          have b2'' : decide ((0 : Int) < (N 2).length) = false := by simpa using b2'
          clear a b b2 d len1 len2 len3
          go_enter Try.func23, Try.ntmps23
          go_wp2
          go_ret
          exact FIN.out 2 0 _ e1.out e2.out (CO.out _ (by omega) _ ⟨rfl, rfl, rfl, rfl⟩)

theorem ids_erase {N : Lines} {p : Nat} {xs ys : Chain} {x : Nat × Int} (h1 : 1 ≤ p) (h3 : p ≤ 3) (hN : N p = xs ++ x :: ys) : (idsOf N).Perm (x.2 :: idsOf (upd N p (xs ++ ys))) := by
  have hp : p = 1 ∨ p = 2 ∨ p = 3 := by omega
  rcases hp with rfl | rfl | rfl <;> simp only [idsOf, upd, hN, List.map_append, List.append_assoc, List.map_cons, if_true, show (2 : Nat) ≠ 1 from by decide, show (3 : Nat) ≠ 1 from by decide, show (1 : Nat) ≠ 2 from by decide, show (3 : Nat) ≠ 2 from by decide, show (1 : Nat) ≠ 3 from by decide, show (2 : Nat) ≠ 3 from by decide, if_false, List.cons_append]
  · exact List.perm_middle
  · rw [← List.append_assoc]
    refine List.perm_middle.trans (List.Perm.cons _ ?_)
    simp
  · rw [← List.append_assoc, ← List.append_assoc]
    refine List.perm_middle.trans (List.Perm.cons _ ?_)
    simp

theorem mem_upd {N : Lines} {p : Nat} {l : Chain} {k : Nat} {x : Nat × Int} : x ∈ upd N p l k ↔ (k = p ∧ x ∈ l) ∨ (k ≠ p ∧ x ∈ N k) := by
  by_cases e : k = p
  · subst e; simp [upd_same]
  · simp [upd_other _ _ e, e]

theorem holds_erase {N : Lines} {p : Nat} {xs ys : Chain} {x : Nat × Int} {E : List Ent} {j : Nat} {e : Ent} (h1 : 1 ≤ p) (h3 : p ≤ 3) (hE : Holds E N) (hi : (idsOf N).Nodup) (hN : N p = xs ++ x :: ys)
    (hj : E[j]? = some e) (he : e.id = x.2) : Holds (E.eraseIdx j) (upd N p (xs ++ ys)) := by
  have hlt := (List.getElem?_eq_some_iff.1 hj).1
  have hsplit : E = E.take j ++ e :: E.drop (j + 1) := by
    have := List.take_append_drop j E
    rw [List.drop_eq_getElem_cons hlt, (List.getElem?_eq_some_iff.1 hj).2] at this
    exact this.symm
  have hperm := ids_erase (N := N) h1 h3 hN
  have hnd := (hperm.nodup_iff.1 hi)
  rw [List.eraseIdx_eq_take_drop_succ]
  generalize E.take j = A at *
  generalize E.drop (j + 1) = B at *
  subst hsplit
  have nd := hE.nd
  rw [List.map_append, List.map_cons] at nd
  have ndp := (List.perm_middle.nodup_iff).1 nd
  rw [List.nodup_cons] at ndp
  have xin : x ∈ N p := by rw [hN]; simp
  have gone : ∀ y ∈ A ++ B, y.id ≠ x.2 := fun y hy c => ndp.1 (by rw [he, ← c, ← List.map_append]; exact List.mem_map.2 ⟨y, hy, rfl⟩)
  refine ⟨by rw [List.map_append]; exact ndp.2, ?_, ?_, ?_⟩
  · intro y hy
    obtain ⟨k1, k3, hm⟩ := hE.has y (by rcases List.mem_append.1 hy with h | h <;> simp [h])
    refine ⟨k1, k3, mem_upd.2 ?_⟩
    by_cases c : y.p = p
    · rw [c, hN] at hm
      refine .inl ⟨c, ?_⟩
      rcases List.mem_append.1 hm with h | h
      · exact List.mem_append_left _ h
      · rcases List.mem_cons.1 h with h | h
        · exact absurd (congrArg Prod.snd h) (gone y hy)
        · exact List.mem_append_right _ h
    · exact .inr ⟨c, hm⟩
  · intro k z k1 k3 hz
    have hzN : z ∈ N k := by
      rcases mem_upd.1 hz with ⟨rfl, h⟩ | ⟨_, h⟩
      · rw [hN]; rcases List.mem_append.1 h with h | h <;> simp [h]
      · exact h
    obtain ⟨y, hy, y1, y2, y3⟩ := hE.all k z k1 k3 hzN
    refine ⟨y, ?_, y1, y2, y3⟩
    rcases List.mem_append.1 hy with h | h
    · exact List.mem_append_left _ h
    · rcases List.mem_cons.1 h with rfl | h
      · exfalso
        have : x.2 ∈ idsOf (upd N p (xs ++ ys)) := by
          have := mem_ids (N := upd N p (xs ++ ys)) k1 k3 hz
          rw [← y1, he] at this
          exact this
        exact (List.nodup_cons.1 hnd).1 this
      · exact List.mem_append_right _ h
  · have hl := hE.len
    simp only [List.length_append, List.length_cons] at hl ⊢
    have hp : p = 1 ∨ p = 2 ∨ p = 3 := by omega
    rcases hp with rfl | rfl | rfl <;> simp [upd, hN] at hl ⊢ <;> omega

/-- A process has left a line. -/
def Left (qb mb : Nat) (N : Lines) (c : Int) (p : Nat) (l : Chain) (w w' : World) : Prop := Rep w'.heap qb mb (upd N p l) c ∧ Touch (foot qb mb N) w w'

theorem left_of {w1 w2 : World} {qb mb : Nat} {N : Lines} {c : Int} {p : Nat} {xs ys : Chain} {x : Nat × Int} (R : Rep w1.heap qb mb N c) (h1 : 1 ≤ p) (h3 : p ≤ 3) (hN : N p = xs ++ x :: ys) (T : Turned w1 w2 qb mb N p (xs ++ ys) c)
    {E : List Ent} {ck j : Nat} {e : Ent} (hE : Holds E N) (hj : E[j]? = some e) (he : e.id = x.2) : Rep (w2.heap.setIfInBounds mb (.map (ents (E.eraseIdx j)) ck)) qb mb (upd N p (xs ++ ys)) c := by
  have hperm := ids_erase (N := N) h1 h3 hN
  refine rep_turned T R h1 h3 (holds_erase h1 h3 hE R.ids hN hj he) (List.nodup_cons.1 (hperm.nodup_iff.1 R.ids)).2 (fun i hi => R.pos i (hperm.mem_iff.2 (List.mem_cons_of_mem _ hi)))

set_option maxHeartbeats 400000 in
theorem drop_ok (qb mb : Nat) (N : Lines) (c : Int) (w : World) (R : Rep w.heap qb mb N c) (p : Nat) (h1 : 1 ≤ p) (h3 : p ≤ 3) (hl : (N p).length < 4611686018427387904) (xs ys : Chain) (b : Nat) (id : Int) (hN : N p = xs ++ (b, id) :: ys) :
    Calls Try.prog 18 #[.pointer (some ⟨qb, 0, none⟩), .int .i64 id] w fun e w' => e = .returned (.bool true) ∧ Left qb mb N c p (xs ++ ys) w w' := by
  obtain ⟨E, ck, hmb, hE⟩ := R.m
  have hc12 := where_cell R
  have hlook := run_lookup_ents w Try.underlying54 Try.underlying2 (zero58 w) hmb id
  obtain ⟨j, e, hj, he, _, _, hf⟩ := find_present hE h1 h3 (x := (b, id)) (by rw [hN]; simp)
  simp only at hf he
  rw [hf] at hlook
  simp only [Option.map_some, Option.getD_some, Option.isSome_some] at hlook
  have HF := Lib.hid hf
  have HE := Lib.hid hE
  have HM := Lib.hid hmb
  have HR := Lib.hid R
  have HN := Lib.hid hN
  have HJ := Lib.hid hj
  have HI := Lib.hid he
  have hmA := Lib.hid (push_at (o := .cells #[.int .i64 p, .pointer (some ⟨b, 0, none⟩)] 58) hmb)
  clear hf hE hmb R hN hj he
  go_enter Try.func18, Try.ntmps18
  go_wp2_with (go_at_call 21; refine (is_yes qb mb _ hc12).mono ?_; rintro e w' ⟨rfl, rfl⟩)
  clear hlook
  go_region_with (go_at_call 24; refine (remove_rep qb mb N c _ (by exact HR.out.push _) p _ (by omega) h1 h3 hl xs ys (b, id) HN.out).mono ?_; rintro e w2 ⟨rfl, T⟩; have c2 : w2.cell? ⟨qb, 12, none⟩ = some (.map (some mb)) := (by rw [cell_of T.q]; rfl); have hdel := run_delete_ents (ty := 0) w2 Try.underlying54 Try.underlying2 ((T.m (HR.out.push _) h1 h3).trans hmA.out) id HF.out; have HT := Lib.hid T; clear T)
  all_goals
    go_wp2
    go_ret
    exact ⟨rfl, left_of (HR.out.push _) h1 h3 HN.out HT.out HE.out HJ.out HI.out, touch_turned HT.out h1 h3 (w := w) (o := .cells #[.int .i64 p, .pointer (some ⟨b, 0, none⟩)] 58) rfl rfl rfl rfl rfl rfl rfl rfl⟩

set_option maxHeartbeats 400000 in
theorem pick_none (qb mb : Nat) (N : Lines) (c : Int) (w : World) (R : Rep w.heap qb mb N c) (h0 : total N = 0) :
    Calls Try.prog 12 #[.pointer (some ⟨qb, 0, none⟩)] w fun e w' => e = .returned (.tuple #[.int .i64 0, .bool false]) ∧ w = w' := by
  obtain ⟨E, ck, hmb, hE⟩ := R.m
  have hc12 := where_cell R
  have hlen := run_len_ents (ty := 3) w Try.underlying54 hmb
  rw [show E.length = 0 from hE.len.trans h0] at hlen
  clear hE R hmb h0
  go_enter Try.func12, Try.ntmps12
  go_wp2_with (go_at_call 21; refine (is_yes qb mb _ hc12).mono ?_; rintro e w' ⟨rfl, rfl⟩)
  go_ret2
  exact ⟨rfl, rfl⟩

end Go.Proofs.Ytpfmpfmbmipglaa
