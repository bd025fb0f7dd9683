/-
  SchedDrops: the walk.
-/
import Derived.Test.YtpfmpfmbmipglaaAt
import Derived.Test.YtpfmpfmbmipglaaDropsLaw
namespace Go.Proofs.Ytpfmpfmbmipglaa.schedDrops
open Go.RowKit Go.Proofs.Ytpfmpfmbmipglaa

/-- Both queues lie there. -/
def R1 (w : World) (qb tb : Nat) (s t : St) (i : Value) (wr : World) : Prop := ∃ p : Nat, 1 ≤ p ∧ p ≤ 4 ∧ i = .int .i64 p ∧ QS wr w.heap.size qb t ∧ QS wr w.heap.size tb s ∧ Kept w.heap.size w wr
/-- The others of a line have been collected up to a place. -/
def R2 (w : World) (id : Int) (L : List Int) (want j : Value) (wr : World) : Prop :=
  ∃ k : Nat, k ≤ L.length ∧ j = .int .i64 k ∧ wr.ownsRow w.heap.size 2 1 want (others id (L.take k)).length ((others id (L.take k)).map (Value.int .i64)) ∧ Below w.heap.size w wr

set_option maxHeartbeats 4000000 in
set_option maxRecDepth 100000 in
theorem walk (w : World) (v : Value) (l : List Act3) (hv : IsActs w v l) (id : Int) (_ : -9223372036854775808 ≤ id) (_ : id ≤ 9223372036854775807) :
    Calls Try.prog 7 #[v, .int .i64 id] w fun e w' => e = .returned (.bool true) ∧ Below w.heap.size w w' := by
  have HV := Lib.hid hv
  obtain ⟨a0, cap0, rfl, hv1, hv2⟩ := hv
  clear hv1 hv2
  have hsz : (run (l.take 400)).size ≤ 400 := by have := run_sz (l.take 400); have := List.length_take_le 400 l; omega
  have F := Lib.hid (fun w (h : IsActs w (.slice a0 l.length cap0) l) => filled_any _ l w h)
  generalize run (l.take 400) = s at *
  have hs : s.size < 1000000 := by omega
  have hd := drop_sz s id
  have hds : (s.drop id).size < 1000000 := by omega
  go_enter Try.func7, Try.ntmps7
  go_wp2_with fail
  refine (F.out w HV.out).mono ?_
  rintro e w1 ⟨qb, rfl, q, kb⟩
  have K := Lib.hid (Kept.of_below (B := w.heap.size) kb)
  have Q := Lib.hid q
  have OK := Lib.hid q.ok
  clear kb q
  go_wp2_with fail
  refine (has_qs _ w.heap.size qb s Q.out id).mono ?_
  rintro e w2 ⟨rfl, q, kb⟩
  have K2 := Lib.hid (K.out.trans (Kept.of_below kb))
  have Q2 := Lib.hid q
  clear kb q K Q
  go_wp2_with fail
  refine (drop_qs _ w.heap.size qb s Q2.out hs id).mono ?_
  rintro e w3 ⟨rfl, q, kb⟩
  have K := Lib.hid (K2.out.trans kb)
  have Q := Lib.hid q
  clear kb q K2 Q2
  have nn : (decide (id ∈ s.ids) != decide (id ∈ s.ids)) = false := by simp
  generalize hdec : decide (id ∈ s.ids) = dec at *
  have HD := Lib.hid hdec
  clear hdec
  have D0 := Lib.hid (dropped OK.out id)
  go_wp2_with fail
  refine (drop_qs _ w.heap.size qb (s.drop id) Q.out hds id).mono ?_
  rintro e w4 ⟨rfl, q, kb⟩
  rw [decide_eq_false D0.out, drop_twice OK.out] at *
  have K2 := Lib.hid (K.out.trans kb)
  have Q2 := Lib.hid q
  clear kb q K Q
  go_wp2_with fail
  refine (has_qs _ w.heap.size qb (s.drop id) Q2.out id).mono ?_
  rintro e w5 ⟨rfl, q, kb⟩
  rw [decide_eq_false D0.out, prio_zero _ D0.out] at *
  have K := Lib.hid (K2.out.trans (Kept.of_below kb))
  have Q := Lib.hid q
  clear kb q K2 Q2
  go_wp2_with fail
  refine (F.out w5 (HV.out.kept K.out.toBelow)).mono ?_
  rintro e w6 ⟨tb, rfl, q, kb⟩
  have QT := Lib.hid (q.mono K.out.size)
  have Q2 := Lib.hid (Q.out.below kb)
  have K2 := Lib.hid (K.out.trans (Kept.of_below kb))
  clear kb q K Q F
  generalize hst : s.drop id = t at *
  have HST := Lib.hid hst
  clear hst
  generalize hpr : s.prio id = pr at *
  have HPR := Lib.hid hpr
  clear hpr
  go_wp2
  go_loopw [11] (fun i wr => R1 w qb tb s t i wr) (fun i _ => 4 - (intOf i).toNat)
  case atStart => exact ⟨1, by omega, by omega, rfl, Q2.out, QT.out, K2.out⟩
  case round =>
    obtain ⟨p, p1, p4, rfl, hq, hqt, hkept⟩ := hrel
    have HQ := Lib.hid hq
    have HT := Lib.hid hqt
    have HK := Lib.hid hkept
    clear hq hqt hkept Q2 QT K2
    by_cases hp : p < 4
    · have hpi : (p : Int) < 4 := by omega
      have hlen := line_len s p
      as_aux_lemma =>
        go_wp2_with fail
        refine (list_at HT.out hs p (s.line p) rfl).mono ?_
        rintro e w7 ⟨a7, c7, rfl, r7, q7, k7⟩
        have RW := Lib.hid r7
        have HT2 := Lib.hid q7
        have HQ2 := Lib.hid (HQ.out.below k7)
        have HK2 := Lib.hid (HK.out.trans (Kept.of_below k7))
        clear r7 q7 k7 HT HQ HK
        go_wp2
        generalize hL : s.line p = L at *
        have HL := Lib.hid hL
        clear hL
        have hLm : L.length < 1000000 := by omega
        go_loopw [12, 14] (fun want j wr => R2 w7 id L want j wr) (fun _ j _ => L.length - (intOf j).toNat)
        case atStart => exact ⟨0, Nat.zero_le _, rfl, ⟨rfl, .inl ⟨rfl, rfl⟩⟩, Below.refl _ _⟩
        case round =>
          obtain ⟨k, hk, rfl, hown, hbel⟩ := hrel
          have HO := Lib.hid hown
          have HB := Lib.hid hbel
          clear hown hbel
          have hsz7 := HB.out.size
          by_cases hlt : k < L.length
          · have klt : (k : Int) < L.length := by omega
            obtain ⟨_, g, rfl, hg, hcell⟩ := RW.out.cells (by intro e; rw [e] at hlt; cases hlt)
            have ck : wr.cell? ⟨g, k, none⟩ = some (.int .i64 (L.getD k 0)) := (HB.out.cell (p := ⟨g, k, none⟩) hg).trans (hcell k hlt)
            have OS := Lib.hid (others_snoc id L k hlt)
            have MEM := Lib.hid (show L.getD k 0 ∈ L by rw [List.getD_eq_getElem?_getD, List.getElem?_eq_getElem hlt]; exact List.getElem_mem hlt)
            have hol := others_len id (L.take k)
            have hol2 : (others id (L.take k)).length < 1000000 := by have := List.length_take_le k L; omega
            clear hcell
            generalize L.getD k 0 = x at *
            by_cases hx : x = id
            · have hxb : (x != id) = false := by simp [hx]
              have ei : pr = (p : Int) := by rw [← HPR.out]; exact prio_of OK.out (by rw [HL.out, ← hx]; exact MEM.out)
              have eb : ((p : Int) != pr) = false := by simp [ei]
              have HX := Lib.hid hx
              clear ei hx
              go_wp2
              exact ⟨⟨k + 1, by omega, by go_num, by rw [OS.out, if_pos HX.out]; exact HO.out, HB.out⟩, by simp [intOf]; omega⟩
            · have hxb : (x != id) = true := by simp [hx]
              have HX := Lib.hid hx
              clear hx
              obtain ⟨i0, hi, hz0, hz1, hz2⟩ := info_parts Try.info2
              have HI := Lib.hid (And.intro hi (And.intro hz0 (And.intro hz1 hz2)))
              clear hi hz0 hz1 hz2
              go_wp2_with (at_builtin; refine wpList_append_own _ rfl _ _ 32 rfl w7.heap.size 2 i0 (.int .i64 0) 1 8 Try.underlying32 HI.out.1 HI.out.2.1 HI.out.2.2.1 HI.out.2.2.2 rfl (by decide) _ _ _ rfl (HO.out.alloc _) ⟨wr.heap.size, 0, none⟩ 1 1 [.int .i64 x] rfl rfl ?c1 ?c2 ?c3 ?c4 ?c5 ?_)
              case c2 => simp [Value.oneCell']
              case c3 => unfold maxLen; omega
              case c4 => omega
              case c5 => first | omega | (simp; omega)
              intro v' w8 hown' hgrow _
              have HG := Lib.hid (((HB.out.alloc hsz7 (.cells #[.int .i64 x] 2)).grown hgrow (by simp; omega) (own_base HO.out)))
              have HO' := Lib.hid hown'
              clear hown' hgrow
              go_wp2
              exact ⟨⟨k + 1, by omega, by go_num, by rw [OS.out, if_neg HX.out]; simpa using HO'.out, HG.out⟩, by simp [intOf]; omega⟩
          · have klt : ¬ (k : Int) < L.length := by omega
            have e : others id (L.take k) = others id L := by rw [List.take_of_length_le (by omega)]
            rw [e] at HO
            have RO := Lib.hid (Row.of_own HO.out)
            obtain ⟨ao, co, rfl⟩ := RO.out.form
            have HQ3 := Lib.hid (HQ2.out.below HB.out)
            have HT3 := Lib.hid (HT2.out.below HB.out)
            have HK3 := Lib.hid (HK2.out.trans (Kept.of_below HB.out))
            have htm : t.size < 1000000 := hds
            have LT := Lib.hid (show t.line p = others id L by rw [← HST.out, drop_line OK.out, HL.out])
            have hol : (others id L).length < 1000000 := by have := others_len id L; omega
            clear e HO HB HQ2 HT2 HK2
            go_wp2_with fail
            refine (list_at HQ3.out htm p _ LT.out).mono ?_
            rintro e w8 ⟨a8, c8, rfl, r8, q8, k8⟩
            have R8 := Lib.hid r8
            have RO8 := Lib.hid (RO.out.below k8)
            have HQ := Lib.hid q8
            have HT := Lib.hid (HT3.out.below k8)
            have HK := Lib.hid (HK3.out.trans (Kept.of_below k8))
            clear r8 q8 k8 HQ3 HT3 HK3 RO
            go_wp2_with fail
            refine (same_at R8.out.ints RO8.out.ints hol).mono ?_
            rintro e w9 ⟨rfl, t9⟩
            have HQ3 := Lib.hid (HQ.out.same t9)
            have HT3 := Lib.hid (HT.out.same t9)
            have HK3 := Lib.hid (HK.out.trans (Kept.of_same t9))
            clear t9
            go_wp2
            exact ⟨⟨p + 1, by omega, by omega, by go_num, HQ3.out, HT3.out, HK3.out⟩, by simp [intOf]; omega⟩
    · have hpi : ¬ (p : Int) < 4 := by omega
      go_wp2_with (go_at_call 13; refine (awake_any _).mono ?_; rintro e w6 ⟨rfl, k2⟩; have K2 := Lib.hid k2; clear k2)
      go_ret
      exact ⟨rfl, (HK.out.trans (Kept.of_below K2.out)).toBelow⟩
end Go.Proofs.Ytpfmpfmbmipglaa.schedDrops
