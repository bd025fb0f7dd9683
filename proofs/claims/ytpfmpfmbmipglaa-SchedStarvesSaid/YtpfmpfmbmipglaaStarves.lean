/-
  SchedStarves: the walk.
-/
import Derived.Test.YtpfmpfmbmipglaaRow
import Derived.Test.YtpfmpfmbmipglaaStarvesLaw
namespace Go.Proofs.Ytpfmpfmbmipglaa.schedStarves
open Go.RowKit Go.Proofs.Ytpfmpfmbmipglaa

theorem list_at {w : World} {B qb : Nat} {s : St} (q : QS w B qb s) (hs : s.size < 1000000) (p : Int) (l : List Int) (hl : s.line p = l) :
    Calls Try.prog 15 #[.pointer (some ⟨qb, 0, none⟩), .int .i64 p] w fun r w' => ∃ a cap, r = .returned (.slice a l.length cap) ∧ Row w' (.slice a l.length cap) l ∧ QS w' B qb s ∧ Kept B w w' := by
  subst hl
  refine (list_qs w B qb s q hs p).mono ?_
  rintro e w' ⟨v, rfl, ho, hb⟩
  have r := Row.of_own ho
  obtain ⟨a, cap, rfl⟩ := r.form
  exact ⟨a, cap, rfl, r, q.below hb, Kept.of_below hb⟩

/-- What is known of the numbers that came in. -/
def More (w : World) (v : Value) (l : List Int) : Prop := IsInts w v l ∧ l.length ≤ maxLen ∧ ∀ i ∈ l, i ≤ 9223372036854775807

theorem cell_lt {w : World} {b o : Nat} {v : Value} (h : w.cell? ⟨b, o, none⟩ = some v) : b < w.heap.size := by
  by_cases hb : b < w.heap.size
  · exact hb
  · simp [World.cell?, Array.getElem?_eq_none (Nat.le_of_not_lt hb)] at h

def R1 (w : World) (qb : Nat) (k : Nat) (wr : World) : Prop := ∃ s : St, s.size = k ∧ s.size ≤ 400 ∧ QS wr w.heap.size qb s ∧ Kept w.heap.size w wr
def R2 (w : World) (qb : Nat) (x : Int) (xs ll : List Int) (v : Value) (i : Value) (wr : World) : Prop :=
  ∃ (k : Nat) (s : St), s.size ≤ 400 + k ∧ s.h = [] ∧ s.l = x :: xs ∧ (k : Int) ≤ s.c ∧ i = .int .i64 k ∧ QS wr w.heap.size qb s ∧ Row wr v ll ∧ Kept w.heap.size w wr

set_option maxHeartbeats 4000000 in
set_option maxRecDepth 100000 in
theorem walk (w : World) (v : Value) (l : List Act3) (hv : IsActs w v l) (u : Value) (m : List Int) (hu : More w u m) :
    Calls Try.prog 6 #[v, u] w fun e w' => e = .returned (.bool true) ∧ Below w.heap.size w w' := by
  have HV := Lib.hid hv
  obtain ⟨a0, cap0, rfl, hv1, hv2⟩ := hv
  obtain ⟨⟨a1, cap1, rfl, hu1⟩, hu2, hu3⟩ := hu
  unfold maxLen at hu2
  have HU := Lib.hid hu1
  have HU3 := Lib.hid hu3
  clear hv1 hv2 hu1 hu3
  go_enter Try.func6, Try.ntmps6
  go_wp2_with fail
  refine (filled_any _ l w HV.out).mono ?_
  rintro e w1 ⟨qb, rfl, q, kb⟩
  have K := Lib.hid (Kept.of_below (B := w.heap.size) kb)
  have Q := Lib.hid q
  have hsz : (run (l.take 400)).size ≤ 400 := by have := run_sz (l.take 400); have := List.length_take_le 400 l; omega
  clear kb q
  generalize run (l.take 400) = s0 at *
  go_wp2
  go_loopg [6] s0.size (fun k _ wr => R1 w qb k wr)
  case atStart => exact ⟨s0, rfl, hsz, Q.out, K.out⟩
  case round =>
    obtain ⟨s, hk, hs4, hq, hkept⟩ := hrel
    have HQ := Lib.hid hq
    have HK := Lib.hid hkept
    have HSK := Lib.hid hk
    clear hq hkept Q K hsz hk
    have hs : s.size < 1000000 := by omega
    go_wp2_with fail
    refine (list_at HQ.out hs 1 s.h rfl).mono ?_
    rintro e w2 ⟨a2, c2, rfl, r1, q2, k2⟩
    have HQ2 := Lib.hid q2
    have HK2 := Lib.hid (HK.out.trans k2)
    clear r1 q2 k2 HQ HK
    by_cases hh : s.h = []
    · have hh0 : ¬ (0 : Int) < s.h.length := by rw [hh]; simp
      have HH := Lib.hid hh
      clear hh
      go_wp2_with fail
      refine (list_at HQ2.out hs 3 s.l rfl).mono ?_
      rintro e w3 ⟨a3, c3, rfl, r3, q2, k2⟩
      have RC := Lib.hid r3
      have HQ := Lib.hid q2
      have HK := Lib.hid (HK2.out.trans k2)
      clear r3 q2 k2 HQ2 HK2
      by_cases hl : s.l = []
      · have l0 : ((s.l.length : Int) == 0) = true := by rw [hl]; rfl
        clear hl
        go_wp2_with (go_at_call 13; refine (awake_any _).mono ?_; rintro e w6 ⟨rfl, k2⟩; have K2 := Lib.hid k2; clear k2)
        go_ret
        exact ⟨rfl, (HK.out.trans (Kept.of_below K2.out)).toBelow⟩
      · obtain ⟨x, xs, hx⟩ : ∃ x xs, s.l = x :: xs := by
          cases h : s.l with
          | nil => exact absurd h hl
          | cons x xs => exact ⟨x, xs, rfl⟩
        have l0 : ((s.l.length : Int) == 0) = false := by rw [hx]; simp; omega
        have HX := Lib.hid hx
        have HC := Lib.hid HQ.out.ok.cnt
        clear hx hl
        have rx := RC.out
        rw [HX.out] at rx
        obtain ⟨g, rfl, hg⟩ := rx.head
        rw [← HX.out] at hg
        have HG := Lib.hid hg
        clear hg rx
        go_wp2
        go_loopw [9] (fun i wr => R2 w qb x xs s.l (.slice (some ⟨g, 0, none⟩) s.l.length c3) i wr) (fun i _ => 9 - (intOf i).toNat)
        case atStart => exact ⟨0, s, by omega, HH.out, HX.out, by have := HC.out; simp; omega, rfl, HQ.out, RC.out, HK.out⟩
        case round =>
          obtain ⟨k, t, ht, th, tl, tc, rfl, hq, hrow, hkept⟩ := hrel
          have RR := Lib.hid hrow
          have TQ := Lib.hid hq
          have TK := Lib.hid hkept
          have TH := Lib.hid th
          have TL := Lib.hid tl
          have TC := Lib.hid tc
          have tc7 := hq.ok.cnt
          have k8 : (k : Int) < 8 := by omega
          have htm : t.size < 1000000 := by omega
          have hB := hkept.size
          have l1 : (0 : Int) < s.l.length := by rw [HX.out]; simp
          clear hq hkept hrow th tl tc RC HK HQ HX HH HC
          by_cases hm : k < m.length
          · have hmi : (k : Int) < m.length := by omega
            obtain ⟨b, o, rfl, hcm⟩ := HU.out (by intro e; rw [e] at hm; cases hm)
            have cm := hcm k hm
            have cm' : wr.cell? ⟨b, o + k, none⟩ = some (.int .i64 (m.getD k 0)) := (World.cell?_of_block (w := w) (TK.out.block b (cell_lt cm) (.inl (cell_lt cm)))).trans cm
            have hmx : m.getD k 0 ≤ 9223372036854775807 := HU3.out _ (by rw [List.getD_eq_getElem?_getD, List.getElem?_eq_getElem hm]; exact List.getElem_mem hm)
            clear hcm cm
            generalize m.getD k 0 = mk at *
            obtain ⟨p1, p2, p3⟩ := put_norm_keeps t mk
            have hps := put_sz t mk 2
            have PW := Lib.hid (And.intro (p1.trans TH.out) (And.intro (p2.trans TL.out) p3))
            clear p1 p2 p3
            as_aux_lemma =>
              go_wp2_with fail
              refine (put_qs wr w.heap.size qb t TQ.out hB htm mk 2 hmx).mono ?_
              rintro e w5 ⟨rfl, q5, k5⟩
              have HQ := Lib.hid q5
              have HK := Lib.hid (TK.out.trans k5)
              have RB := Lib.hid (RR.out.kept k5)
              clear q5 k5 TQ TK RR
              generalize hs2 : t.put mk 2 = s2 at *
              have OK2 := Lib.hid HQ.out.ok
              have s20 := St.pick_ne PW.out.2.1
              have hs2m : s2.size < 1000000 := by omega
              have hpz := pick_sz s2
              have ST := Lib.hid (starve OK2.out PW.out.1 PW.out.2.1)
              have hs2' := Lib.hid hs2
              clear hs2
              go_wp2_with fail
              refine (pick_at HQ.out hs2m s2.pickId s2.pick s20 rfl rfl).mono ?_
              rintro e w6 ⟨rfl, q6, k6⟩
              have HQ3 := Lib.hid q6
              have HK3 := Lib.hid (HK.out.trans k6)
              have RB3 := Lib.hid (RB.out.kept k6)
              have cx := HG.out w6 RB3.out
              clear q6 k6 HQ HK RB
              generalize s2.pickId = pid at *
              rcases ST.out with ⟨e1, e2⟩ | ⟨e1, e2, e3, e4, e5⟩
              · have ex : (pid == x) = true := by simp [e1]
                have E2 := Lib.hid (show pid ∉ s2.pick.ids by rw [e1]; exact e2)
                clear e1 e2
                have NI := Lib.hid E2.out
                go_wp2_with fail
                refine (has_qs w6 w.heap.size qb s2.pick HQ3.out pid).mono ?_
                rintro e w7 ⟨rfl, q7, k7⟩
                have HK4 := Lib.hid (HK3.out.trans (Kept.of_below k7))
                have e0 : decide (pid ∈ s2.pick.ids) = false := by simp; exact NI.out
                clear q7 k7
                rw [e0]
                clear e0
                generalize s2.pick.prio pid = pp
                go_wp2_with (go_at_call 13; refine (awake_any _).mono ?_; rintro e w8 ⟨rfl, k2⟩; have K2 := Lib.hid k2; clear k2)
                go_ret
                exact ⟨rfl, (HK4.out.trans (Kept.of_below K2.out)).toBelow⟩
              · have ex : (pid == x) = false := beq_eq_false_iff_ne.2 e1
                have E2 := Lib.hid (And.intro e2 (And.intro e3 e4))
                clear e1 e2 e3 e4
                go_wp2
                refine ⟨⟨k + 1, s2.pick, by omega, E2.out.1, E2.out.2.1, ?_, by go_num, HQ3.out, RB3.out, HK3.out⟩, by simp [intOf]; omega⟩
                rw [E2.out.2.2, PW.out.2.2]; have := TC.out; omega
          · have hmi : ¬ (k : Int) < m.length := by omega
            as_aux_lemma =>
              have PW := Lib.hid (And.intro TH.out (And.intro TL.out (rfl : t.c = t.c)))
              have HQ := TQ
              have HK := TK
              have RB := RR
              clear TQ TK RR
              obtain ⟨s2, hs2⟩ : ∃ s2, t = s2 := ⟨t, rfl⟩
              subst hs2
              have OK2 := Lib.hid HQ.out.ok
              have s20 := St.pick_ne PW.out.2.1
              have hpz := pick_sz t
              have ST := Lib.hid (starve OK2.out PW.out.1 PW.out.2.1)
              go_wp2_with fail
              refine (pick_at HQ.out htm t.pickId t.pick s20 rfl rfl).mono ?_
              rintro e w6 ⟨rfl, q6, k6⟩
              have HQ3 := Lib.hid q6
              have HK3 := Lib.hid (HK.out.trans k6)
              have RB3 := Lib.hid (RB.out.kept k6)
              have cx := HG.out w6 RB3.out
              clear q6 k6 HQ HK RB
              generalize t.pickId = pid at *
              rcases ST.out with ⟨e1, e2⟩ | ⟨e1, e2, e3, e4, e5⟩
              · have ex : (pid == x) = true := by simp [e1]
                have E2 := Lib.hid (show pid ∉ t.pick.ids by rw [e1]; exact e2)
                clear e1 e2
                have NI := Lib.hid E2.out
                go_wp2_with fail
                refine (has_qs w6 w.heap.size qb t.pick HQ3.out pid).mono ?_
                rintro e w7 ⟨rfl, q7, k7⟩
                have HK4 := Lib.hid (HK3.out.trans (Kept.of_below k7))
                have e0 : decide (pid ∈ t.pick.ids) = false := by simp; exact NI.out
                clear q7 k7
                rw [e0]
                clear e0
                generalize t.pick.prio pid = pp
                go_wp2_with (go_at_call 13; refine (awake_any _).mono ?_; rintro e w8 ⟨rfl, k2⟩; have K2 := Lib.hid k2; clear k2)
                go_ret
                exact ⟨rfl, (HK4.out.trans (Kept.of_below K2.out)).toBelow⟩
              · have ex : (pid == x) = false := beq_eq_false_iff_ne.2 e1
                have E2 := Lib.hid (And.intro e2 (And.intro e3 e4))
                clear e1 e2 e3 e4
                go_wp2
                refine ⟨⟨k + 1, t.pick, by omega, E2.out.1, E2.out.2.1, ?_, by go_num, HQ3.out, RB3.out, HK3.out⟩, by simp [intOf]; omega⟩
                rw [E2.out.2.2]; have := TC.out; omega
    · have hh0 : (0 : Int) < s.h.length := by
        cases h : s.h with
        | nil => exact absurd h hh
        | cons x xs => simp
      obtain ⟨x, xs, hx⟩ : ∃ x xs, s.h = x :: xs := by
        cases h : s.h with
        | nil => exact absurd h hh
        | cons x xs => exact ⟨x, xs, rfl⟩
      obtain ⟨z, e1, e2⟩ := pick_high hx
      have hdec : s.pick.size < s.size := by rw [e2]; unfold St.size; rw [hx]; simp
      have HZ := Lib.hid z
      clear hh e1 e2 hx z
      go_wp2_with fail
      refine (pick_at HQ2.out hs s.pickId s.pick HZ.out rfl rfl).mono ?_
      rintro e w6 ⟨rfl, q6, k6⟩
      have HQ3 := Lib.hid q6
      have HK3 := Lib.hid (HK2.out.trans k6)
      clear q6 k6
      go_wp2
      go_roundg s.pick.size
      case measure => have := HSK.out; omega
      case rel => exact ⟨s.pick, rfl, by omega, HQ3.out, HK3.out⟩
end Go.Proofs.Ytpfmpfmbmipglaa.schedStarves
