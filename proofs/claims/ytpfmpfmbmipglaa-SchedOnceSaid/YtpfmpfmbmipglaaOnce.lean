/-
  SchedOnce: the walk.
-/
import Derived.Test.YtpfmpfmbmipglaaAt
import Derived.Test.YtpfmpfmbmipglaaOnceLaw
import Derived.Laws.AppendOwnNone
namespace Go.Proofs.Ytpfmpfmbmipglaa.schedOnce
open Go.RowKit Go.Proofs.Ytpfmpfmbmipglaa

/-- All lines before a priority have been collected. -/
def R1 (w w1 : World) (qb : Nat) (s : St) (all p : Value) (wr : World) : Prop :=
  ∃ k : Nat, 1 ≤ k ∧ k ≤ 4 ∧ p = .int .i64 k ∧ QS wr w.heap.size qb s ∧ wr.ownsRow w1.heap.size 2 1 all (upto s k).length ((upto s k).map (Value.int .i64)) ∧ Below w1.heap.size w1 wr

/-- The block of 'seen'. -/
def Seen (w : World) (sb : Nat) (zs : List Int) : Prop := w.heap[sb]? = some (.cells (zs.map (Value.int .i64)).toArray 3 (0, 0))

/-- So many picks have been made. -/
def R2 (w : World) (qb sb : Nat) (all : List Int) (va : Value) (i : Value) (wr : World) : Prop :=
  ∃ (k : Nat) (t : St), t.size + k = all.length ∧ i = .int .i64 k ∧ QS wr w.heap.size qb t ∧ Row wr va all ∧ Seen wr sb (seens all t) ∧ Kept w.heap.size w wr

/-- The picked process is being counted. -/
def R3 (w w1 : World) (qb sb : Nat) (all : List Int) (t : St) (va : Value) (j : Value) (wr : World) : Prop :=
  ∃ k : Nat, k ≤ all.length ∧ j = .int .i64 k ∧ QS wr w.heap.size qb t.pick ∧ Row wr va all ∧ Seen wr sb (mids all t k) ∧ Kept w.heap.size w wr ∧ w1.heap.size ≤ wr.heap.size

/-- So many processes have been put again. -/
def R4 (w : World) (qb sb : Nat) (all : List Int) (c : Int) (zs : List Int) (va : Value) (j : Value) (wr : World) : Prop :=
  ∃ k : Nat, k ≤ all.length ∧ j = .int .i64 k ∧ QS wr w.heap.size qb ⟨[], [], all.take k, c⟩ ∧ Row wr va all ∧ Seen wr sb zs ∧ Kept w.heap.size w wr

theorem Try.info3 : (Try.prog.info? 3).map (fun i => (i.zero, i.size, i.bytes)) = some (some (.int .i64 0), 1, 8) := by kernel_rfl

theorem Seen.kept {B : Nat} {w w' : World} {sb : Nat} {zs : List Int} (h : Seen w sb zs) (k : Kept B w w') : Seen w' sb zs :=
  (k.block sb (lt_of h) (.inr fun o e => by unfold Seen at h; rw [h] at e; cases e; rfl)).trans h

theorem Seen.cell {w : World} {sb : Nat} {zs : List Int} (h : Seen w sb zs) {k : Nat} (hk : k < zs.length) : w.cell? ⟨sb, k, none⟩ = some (.int .i64 (zs.getD k 0)) := by
  rw [cell_of h]
  simp [List.getD_eq_getElem?_getD, List.getElem?_eq_getElem hk]

/-- A store into 'seen'. -/
theorem seen_set {w : World} {sb : Nat} {zs : List Int} (h : Seen w sb zs) (k : Nat) (x : Int) : Seen (w.setCell ⟨sb, k, none⟩ (.int .i64 x)) sb (zs.set k x) := by
  unfold Seen
  rw [heap_setCell, put_same h]
  congr 2
  apply Array.ext'
  simp [List.map_set]

theorem set_qs {w : World} {B qb sb : Nat} {s : St} {zs : List Int} (q : QS w B qb s) (h : Seen w sb zs) (k : Nat) (v : Value) : QS (w.setCell ⟨sb, k, none⟩ v) B qb s :=
  q.keep fun j o hj ho => by
    rw [heap_setCell, put_other]
    intro e
    rw [e, h] at hj
    cases hj
    cases ho
theorem set_row {w : World} {sb : Nat} {l zs : List Int} {va : Value} (r : Row w va l) (h : Seen w sb zs) (k : Nat) (v : Value) : Row (w.setCell ⟨sb, k, none⟩ v) va l := by
  refine ⟨r.1, ?_⟩
  rcases r.2 with x | ⟨g, cap, cur, hv, hg, hh, rest⟩
  · exact .inl x
  · refine .inr ⟨g, cap, cur, hv, hg, ?_, rest⟩
    rw [heap_setCell, put_other, hh]
    intro e
    rw [e, h] at hh
    cases hh
theorem set_kept {w w1 : World} {B sb k : Nat} (h : Kept B w w1) (hs : w.heap.size ≤ sb) (v : Value) : Kept B w (w1.setCell ⟨sb, k, none⟩ v) := by
  refine ⟨h.os, h.tape, h.output, by rw [heap_setCell, put_size]; exact h.size, fun j hj hf => ?_⟩
  rw [heap_setCell, put_other (by omega)]
  exact h.block j hj hf

theorem made_seen (w : World) (n : Nat) : Seen (w.alloc (.cells (madeCells #[.int .i64 0] n) 3)) w.heap.size (List.replicate n 0) := by
  unfold Seen
  show (w.heap.push _)[w.heap.size]? = _
  rw [Array.getElem?_push, if_pos rfl]
  congr 2
  apply Array.ext'
  simp [madeCells]
  apply List.ext_getElem
  · simp
  · intro i h1 h2; simp [Nat.mod_one]

theorem set_getD {l : List Int} {k : Nat} {x : Int} (h : l.getD k 0 = x) (hk : k < l.length) : l.set k x = l := by
  rw [List.getD_eq_getElem?_getD, List.getElem?_eq_getElem hk] at h
  simp only [Option.getD_some] at h
  rw [← h, List.set_getElem_self]

theorem seens_start (s : St) : seens s.ids s = List.replicate s.ids.length 0 := by
  unfold seens
  apply List.ext_getElem
  · simp
  · intro i h1 h2
    simp at h1
    simp [seenOf, List.getElem_mem]

theorem Row.own2 {w : World} {base : Nat} {v : Value} {l : List Int} (h : w.ownsRow base 2 1 v l.length (l.map (Value.int .i64))) : Row w v l := Row.of_own h

set_option maxHeartbeats 4000000 in
set_option maxRecDepth 100000 in
theorem walk (w : World) (v : Value) (l : List Act3) (hv : IsActs w v l) :
    Calls Try.prog 5 #[v] w fun e w' => e = .returned (.bool true) ∧ Below w.heap.size w w' := by
  have HV := Lib.hid hv
  obtain ⟨a0, cap0, rfl, hv1, hv2⟩ := hv
  clear hv1 hv2
  have hsz : (run (l.take 400)).size ≤ 400 := by have := run_sz (l.take 400); have := List.length_take_le 400 l; omega
  have F := Lib.hid (filled_any _ l w HV.out)
  generalize run (l.take 400) = s at *
  have hs : s.size < 1000000 := by omega
  obtain ⟨i0, hi, hz0, hz1, hz2⟩ := info_parts Try.info2
  have HI := Lib.hid (And.intro hi (And.intro hz0 (And.intro hz1 hz2)))
  clear hi hz0 hz1 hz2
  go_enter Try.func5, Try.ntmps5
  go_wp2_with fail
  refine F.out.mono ?_
  rintro e w1 ⟨qb, rfl, q, kb⟩
  have K := Lib.hid (Kept.of_below (B := w.heap.size) kb)
  have Q := Lib.hid q
  have OK := Lib.hid q.ok
  clear kb q F
  go_wp2
  go_loopw [4, 5] (fun all p wr => R1 w w1 qb s all p wr) (fun _ p _ => 4 - (intOf p).toNat)
  case atStart => exact ⟨1, by omega, by omega, rfl, Q.out, ⟨rfl, .inl ⟨rfl, rfl⟩⟩, Below.refl _ _⟩
  case round =>
    obtain ⟨p, p1, p4, rfl, hq, hown, hbel⟩ := hrel
    have HQ := Lib.hid hq
    have HO := Lib.hid hown
    have HB := Lib.hid hbel
    clear hq hown hbel Q
    have hB1 := HB.out.size
    by_cases hp : p < 4
    · have hpi : (p : Int) < 4 := by omega
      have hll := line_len s p
      have hul := upto_len s p
      have US := Lib.hid (upto_succ s p1 (show p ≤ 3 by omega))
      as_aux_lemma =>
        go_wp2_with fail
        refine (list_at HQ.out hs p (s.line p) rfl).mono ?_
        rintro e w7 ⟨a7, c7, rfl, r7, q7, k7⟩
        have RW := Lib.hid r7
        have HQ2 := Lib.hid q7
        have HB2 := Lib.hid (HB.out.trans (k7.mono hB1))
        have HO2 := Lib.hid ((Kept.of_below (B := 0) k7).own HO.out)
        have hB2 := HB2.out.size
        clear r7 q7 k7 HQ HB HO
        generalize s.line p = L at *
        by_cases hn : a7 = none
        · subst hn
          have : L = [] ∧ c7 = 0 := by
            rcases RW.out.2 with ⟨e, h0⟩ | ⟨g, c, cur, hv, _⟩
            · simp only [Value.slice.injEq] at e; exact ⟨List.length_eq_zero_iff.1 h0, e.2.2⟩
            · simp only [Value.slice.injEq] at hv; cases hv.1
          obtain ⟨rfl, rfl⟩ := this
          go_wp2_with (at_builtin; refine wpList_append_own_none rfl _ _ 32 rfl w1.heap.size 2 i0 1 Try.underlying32 HI.out.1 _ _ _ rfl HO2.out rfl ?_)
          exact ⟨⟨p + 1, by omega, by omega, by go_num, HQ2.out, by rw [US.out, List.append_nil]; exact HO2.out, HB2.out⟩, by simp [intOf]; omega⟩
        · obtain ⟨g, rfl, hcells⟩ : ∃ g, a7 = some ⟨g, 0, none⟩ ∧ ∀ j u, (L.map (Value.int .i64))[j]? = some u → w7.cell? ((Addr.mk g 0 none).add j) = some u := by
            rcases RW.out.2 with ⟨e, _⟩ | ⟨g, c, cur, hv, _, hh, _, _, hsz, ht⟩
            · simp only [Value.slice.injEq] at e; exact absurd e.1 hn
            · simp only [Value.slice.injEq] at hv
              refine ⟨g, hv.1, fun j u hu => ?_⟩
              rw [← ht] at hu
              have hj : j < L.length * 1 := by
                have := (List.getElem?_eq_some_iff.1 hu).1
                simp at this ⊢; omega
              rw [List.getElem?_take_of_lt hj] at hu
              have ea : (Addr.mk g 0 none).add j = ⟨g, j, none⟩ := by
                unfold Addr.add; split
                · rename_i e; rw [e]
                · simp
              rw [ea, cell_of hh]
              simpa using hu
          have HCE := Lib.hid hcells
          clear hcells hn
          have hol2 : (upto s p).length < 1000000 := by omega
          have hll2 : L.length < 1000000 := by omega
          go_wp2_with (at_builtin; refine wpList_append_own _ rfl _ _ 32 rfl w1.heap.size 2 i0 (.int .i64 0) 1 8 Try.underlying32 HI.out.1 HI.out.2.1 HI.out.2.2.1 HI.out.2.2.2 rfl (by decide) _ _ _ rfl HO2.out ⟨g, 0, none⟩ L.length c7 (L.map (Value.int .i64)) rfl (by simp) ?c1 ?c2 ?c3 ?c4 hB2 ?_)
          case c1 => exact HCE.out
          case c2 => intro u hu; simp at hu; obtain ⟨x, _, rfl⟩ := hu; rfl
          case c3 => unfold maxLen; omega
          case c4 => omega
          intro v' w8 hown' hgrow _
          have HG := Lib.hid (HB2.out.grown hgrow hB2 (own_base HO2.out))
          have HO' := Lib.hid hown'
          have HQ3 := Lib.hid (HQ2.out.keep fun k o hk ho => hgrow.block k (lt_of hk) (fun e => by
            rcases HO2.out.2 with ⟨rfl, _⟩ | ⟨g', cap', cur', rfl, _, hh', _⟩
            · simp [Value.ownBlock] at e
            · simp only [Value.ownBlock, Option.some.injEq] at e
              rw [e, hh'] at hk
              cases hk
              cases ho))
          clear hown' hgrow
          go_wp2
          exact ⟨⟨p + 1, by omega, by omega, by go_num, HQ3.out, by rw [US.out, List.map_append, List.length_append]; exact HO'.out, HG.out⟩, by simp [intOf]; omega⟩
    · have hpi : ¬ (p : Int) < 4 := by omega
      obtain rfl : p = 4 := by omega
      rw [show upto s 4 = s.ids from rfl] at HO
      have RA := Lib.hid (Row.of_own HO.out)
      obtain ⟨aa, ca, rfl⟩ := RA.out.form
      have HK := Lib.hid (K.out.trans (Kept.of_below HB.out))
      have hal : s.ids.length = s.size := St.size_ids s
      have ZS := Lib.hid (seens_start s)
      have ND := Lib.hid OK.out.nd
      have PO := Lib.hid OK.out.pos
      have hall : s.ids.length ≤ 400 := by omega
      have HAL := Lib.hid hal
      clear HO HB K hal p4
      generalize hids : s.ids = all at *
      have HID := Lib.hid hids
      clear hids
      have hmk : ∀ w : World, (Instr.makeSlice 37 (.int .i64 (all.length : Int)) (.int .i64 (all.length : Int))).run Try.prog w = .ok (.slice (some ⟨w.heap.size, 0, none⟩) all.length all.length) (w.alloc (.cells (madeCells #[.int .i64 0] (all.length * 1)) 3)) := by
        intro w
        obtain ⟨i1, hi, hz0, hz1, hz2⟩ := info_parts Try.info3
        have := run_make w 37 3 i1 (.int .i64 0) Try.underlying37 hi hz0 .i64 .i64 all.length all.length (by omega) (by omega) (by rw [hz2]; omega) (by omega)
        rw [hz1] at this
        simpa [Value.cells] using this
      go_wp2
      clear hmk
      have SE := Lib.hid (made_seen wr all.length)
      rw [← ZS.out] at SE
      have BA := Lib.hid ((Below.refl wr.heap.size wr).alloc (Nat.le_refl _) (.cells (madeCells #[.int .i64 0] all.length) 3))
      have Q8 := Lib.hid (HQ.out.below BA.out)
      have R8 := Lib.hid (RA.out.below BA.out)
      have K8 := Lib.hid (HK.out.trans (Kept.of_below BA.out))
      have hsb : w.heap.size ≤ wr.heap.size := HK.out.size
      generalize wr.heap.size = sb at *
      generalize wr.alloc (.cells (madeCells #[.int .i64 0] all.length) 3) = w8 at *
      clear HQ RA HK BA
      go_loopw [7] (fun i wr => R2 w qb sb all (.slice aa all.length ca) i wr) (fun i _ => all.length - (intOf i).toNat)
      case atStart => exact ⟨0, s, by have := HAL.out; omega, rfl, Q8.out, R8.out, SE.out, K8.out⟩
      case round =>
        obtain ⟨i, t, ht, rfl, hq, hr, hse, hkept⟩ := hrel
        have HQ := Lib.hid hq
        have HR := Lib.hid hr
        have HS := Lib.hid hse
        have HK := Lib.hid hkept
        have TOK := Lib.hid hq.ok
        clear hq hr hse hkept Q8 R8 SE K8
        by_cases hi : i < all.length
        · have hii : (i : Int) < all.length := by omega
          have htz : t.size ≠ 0 := by omega
          have hps := pick_size htz
          have htm : t.size < 1000000 := by omega
          have hpm : t.pick.size < 1000000 := by omega
          have GO := Lib.hid (pick_gone TOK.out htz)
          have SP := Lib.hid (seen_pick TOK.out htz)
          have HZ := Lib.hid htz
          clear htz
          as_aux_lemma =>
            go_wp2_with fail
            refine (pick_at HQ.out htm t.pickId t.pick HZ.out rfl rfl).mono ?_
            rintro e w9 ⟨rfl, q9, k9⟩
            have HQ2 := Lib.hid q9
            have HR2 := Lib.hid (HR.out.kept k9)
            have HS2 := Lib.hid (HS.out.kept k9)
            have HK2 := Lib.hid (HK.out.trans k9)
            clear q9 k9 HQ HR HS HK
            go_wp2_with fail
            refine (drop_qs _ w.heap.size qb t.pick HQ2.out hpm t.pickId).mono ?_
            rintro e w10 ⟨rfl, q9, k9⟩
            rw [decide_eq_false GO.out, drop_absent GO.out] at *
            have HQ := Lib.hid q9
            have HR := Lib.hid (HR2.out.kept k9)
            have HS := Lib.hid (HS2.out.kept k9)
            have HK := Lib.hid (HK2.out.trans k9)
            rw [← mids_zero] at HS
            clear q9 k9 HQ2 HR2 HS2 HK2
            generalize hpid : t.pickId = pid at *
            have HP := Lib.hid hpid
            clear hpid
            go_wp2
            go_loopw [10] (fun j wr => R3 w w10 qb sb all t (.slice aa all.length ca) j wr) (fun j _ => all.length - (intOf j).toNat)
            case atStart => exact ⟨0, by omega, rfl, HQ.out, HR.out, HS.out, HK.out, Nat.le_refl _⟩
            case round =>
              obtain ⟨k, hk, rfl, hq, hr, hse, hkept, hsz10⟩ := hrel
              have HQ3 := Lib.hid hq
              have HR3 := Lib.hid hr
              have HS3 := Lib.hid hse
              have HK3 := Lib.hid hkept
              clear hq hr hse hkept HQ HR HS HK
              by_cases hlt : k < all.length
              · have klt : (k : Int) < all.length := by omega
                obtain ⟨_, g, rfl, hg, hcell⟩ := HR3.out.cells (by intro e; rw [e] at hlt; cases hlt)
                have ck := hcell k hlt
                have sk := HS3.out.cell (k := k) (by rw [mids_len _ _ _ hk]; exact hlt)
                rw [mids_at hlt] at sk
                have sf := free_of HS3.out k
                have MS := Lib.hid (mids_succ (t := t) hlt)
                have MA := Lib.hid (set_getD (mids_at (t := t) hlt) (by rw [mids_len _ _ _ hk]; exact hlt))
                have SPk := Lib.hid (SP.out (all.getD k 0))
                have hsv : 0 ≤ seenOf t (all.getD k 0) ∧ seenOf t (all.getD k 0) ≤ 1 := by unfold seenOf; split <;> omega
                obtain ⟨sv0, sv1⟩ := hsv
                clear hcell
                generalize all.getD k 0 = x at *
                by_cases hx : x = pid
                · have hxb : (x == pid) = true := by simp [hx]
                  have HX := Lib.hid hx
                  clear hx
                  go_wp2
                  refine ⟨⟨k + 1, by omega, by go_num, set_qs HQ3.out HS3.out _ _, set_row HR3.out HS3.out _ _, ?_, set_kept HK3.out hsb _, by rw [heap_setCell, put_size]; exact hsz10⟩, by simp [intOf]; omega⟩
                  rw [MS.out, SPk.out, if_pos HX.out]
                  exact seen_set HS3.out k _
                · have hxb : (x == pid) = false := beq_eq_false_iff_ne.2 hx
                  have HX := Lib.hid hx
                  clear hx
                  go_wp2
                  refine ⟨⟨k + 1, by omega, by go_num, HQ3.out, HR3.out, ?_, HK3.out, hsz10⟩, by simp [intOf]; omega⟩
                  rw [MS.out, SPk.out, if_neg HX.out, MA.out]
                  exact HS3.out
              · have klt : ¬ (k : Int) < all.length := by omega
                obtain rfl : k = all.length := by omega
                rw [mids_all] at HS3
                go_wp2
                exact ⟨⟨i + 1, t.pick, by omega, by go_num, HQ3.out, HR3.out, HS3.out, HK3.out⟩, by simp [intOf]; omega⟩
        · have hii : ¬ (i : Int) < all.length := by omega
          have ht0 : t.size = 0 := by omega
          obtain ⟨e1, e2, e3⟩ := ids_nil ht0
          have TE := Lib.hid (show t = ⟨[], [], all.take 0, t.c⟩ by obtain ⟨x1, x2, x3, x4⟩ := t; simp only at e1 e2 e3; subst e1 e2 e3; rfl)
          have ON := Lib.hid (fun k (hk : k < all.length) => seens_nil (all := all) ht0 hk)
          rw [TE.out] at HQ
          generalize hzs : seens all t = zs at *
          have hzl : zs.length = all.length := by rw [← hzs]; simp [seens]
          generalize t.c = tc at *
          clear e1 e2 e3 ht0 ht hzs TE TOK
          as_aux_lemma =>
            go_wp2
            go_loopw [11] (fun j wr => R4 w qb sb all tc zs (.slice aa all.length ca) j wr) (fun j _ => all.length - (intOf j).toNat)
            case atStart => exact ⟨0, by omega, rfl, HQ.out, HR.out, HS.out, HK.out⟩
            case round =>
              obtain ⟨k, hk, rfl, hq, hr, hse, hkept⟩ := hrel
              have HQ3 := Lib.hid hq
              have HR3 := Lib.hid hr
              have HS3 := Lib.hid hse
              have HK3 := Lib.hid hkept
              have hB3 := hkept.size
              clear hq hr hse hkept HQ HR HS HK
              by_cases hlt : k < all.length
              · have klt : (k : Int) < all.length := by omega
                obtain ⟨_, g, rfl, hg, hcell⟩ := HR3.out.cells (by intro e; rw [e] at hlt; cases hlt)
                have ck := hcell k hlt
                have sk := HS3.out.cell (k := k) (by omega)
                rw [ON.out k hlt] at sk
                obtain ⟨p1, p2, p3, p4⟩ := once_put ND.out PO.out (c := tc) hlt
                have P1 := Lib.hid (And.intro p1 p2)
                have P3 := Lib.hid (And.intro p3 p4)
                have hpx : all.getD k 0 ≤ 9223372036854775807 := (PO.out _ (by rw [List.getD_eq_getElem?_getD, List.getElem?_eq_getElem hlt]; exact List.getElem_mem hlt)).2
                have RCL := Lib.hid (fun w' (r : Row w' (.slice (some ⟨g, 0, none⟩) all.length ca) all) => by
                  obtain ⟨_, g', e, _, hc⟩ := r.cells (by intro e; rw [e] at hlt; cases hlt)
                  simp only [Option.some.injEq, Addr.mk.injEq] at e
                  obtain ⟨rfl, _, _⟩ := e
                  exact hc k hlt)
                have hs1 : (St.mk [] [] (all.take k) tc).size < 1000000 := by have := List.length_take_le k all; simp only [St.size, List.length_nil]; omega
                have hs2 : (St.mk [] [] (all.take (k + 1)) tc).size < 1000000 := by have := List.length_take_le (k + 1) all; simp only [St.size, List.length_nil]; omega
                clear hcell p1 p2 p3 p4
                generalize all.getD k 0 = x at *
                go_wp2_with fail
                refine (put_at HQ3.out hB3 x 3 hpx hs1 0 _ P1.out.1 P1.out.2).mono ?_
                rintro e w9 ⟨rfl, q9, k9⟩
                have HQ := Lib.hid q9
                have HR := Lib.hid (HR3.out.kept k9)
                have HS := Lib.hid (HS3.out.kept k9)
                have HK := Lib.hid (HK3.out.trans k9)
                have hB4 := HK.out.size
                have ck9 := RCL.out w9 HR.out
                clear q9 k9 HQ3 HR3 HS3 HK3
                go_wp2_with fail
                refine (put_at HQ.out hB4 x 1 hpx hs2 8 _ P3.out.1 P3.out.2).mono ?_
                rintro e w10 ⟨rfl, q9, k9⟩
                have HQ3 := Lib.hid q9
                have HR3 := Lib.hid (HR.out.kept k9)
                have HS3 := Lib.hid (HS.out.kept k9)
                have HK3 := Lib.hid (HK.out.trans k9)
                clear q9 k9 HQ HR HS HK
                go_wp2
                exact ⟨⟨k + 1, by omega, by go_num, HQ3.out, HR3.out, HS3.out, HK3.out⟩, by simp [intOf]; omega⟩
              · have klt : ¬ (k : Int) < all.length := by omega
                obtain rfl : k = all.length := by omega
                rw [List.take_of_length_le (Nat.le_refl _)] at HQ3
                have hs1 : (St.mk [] [] all tc).size < 1000000 := by simp only [St.size, List.length_nil]; omega
                have hlen : ((St.mk [] [] all tc).size : Int) = all.length := by simp [St.size]
                have HLN := Lib.hid hlen
                have LL := Lib.hid (show (St.mk [] [] all tc).line 3 = all from rfl)
                have halm : all.length < 1000000 := by omega
                clear hlen
                go_wp2_with fail
                refine (list_at HQ3.out hs1 3 all LL.out).mono ?_
                rintro e w9 ⟨a9, c9, rfl, r9, q9, k9⟩
                have R9 := Lib.hid r9
                have HQ := Lib.hid q9
                have HR := Lib.hid (HR3.out.below k9)
                have HK := Lib.hid (HK3.out.trans (Kept.of_below k9))
                clear r9 q9 k9
                go_wp2_with fail
                refine (same_at R9.out.ints HR.out.ints halm).mono ?_
                rintro e w10 ⟨rfl, t10⟩
                have HQ4 := Lib.hid (HQ.out.same t10)
                have HK4 := Lib.hid (HK.out.trans (Kept.of_same t10))
                clear t10
                go_wp2_with fail
                refine (len_qs _ _ _ _ HQ4.out).mono ?_
                rintro e w11 ⟨rfl, rfl⟩
                rw [HLN.out]
                go_wp2_with (go_at_call 13; refine (awake_any _).mono ?_; rintro e w12 ⟨rfl, k2⟩; have K2 := Lib.hid k2; clear k2)
                go_ret
                exact ⟨rfl, (HK4.out.trans (Kept.of_below K2.out)).toBelow⟩
end Go.Proofs.Ytpfmpfmbmipglaa.schedOnce
