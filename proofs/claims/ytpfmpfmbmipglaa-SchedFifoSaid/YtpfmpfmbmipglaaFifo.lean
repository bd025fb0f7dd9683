/-
  SchedFifo: the walk.
-/
import Derived.Test.YtpfmpfmbmipglaaRow
import Derived.Test.YtpfmpfmbmipglaaLaws
namespace Go.Proofs.Ytpfmpfmbmipglaa.schedFifo
open Go.RowKit Go.Proofs.Ytpfmpfmbmipglaa

def R1 (w : World) (qb : Nat) (i : Value) (wr : World) : Prop := ∃ (k : Nat) (s : St), s.size + k ≤ 400 ∧ i = .int .i64 k ∧ QS wr w.heap.size qb s ∧ Kept w.heap.size w wr

/-- List, at a state that is known. -/
theorem list_at {w : World} {B qb : Nat} {s : St} (q : QS w B qb s) (hs : s.size < 1000000) (p : Int) (l : List Int) (hl : s.line p = l) :
    Calls Try.prog 15 #[.pointer (some ⟨qb, 0, none⟩), .int .i64 p] w fun r w' => ∃ a cap, r = .returned (.slice a l.length cap) ∧ Row w' (.slice a l.length cap) l ∧ QS w' B qb s ∧ Kept B w w' := by
  subst hl
  refine (list_qs w B qb s q hs p).mono ?_
  rintro e w' ⟨v, rfl, ho, hb⟩
  have r := Row.of_own ho
  obtain ⟨a, cap, rfl⟩ := r.form
  exact ⟨a, cap, rfl, r, q.below hb, Kept.of_below hb⟩

theorem same_at {w : World} {va vb : Value} {l : List Int} (ha : IsInts w va l) (hb : IsInts w vb l) (h1 : l.length < 1000000) :
    Calls Try.prog 17 #[va, vb] w fun r w' => r = .returned (.bool true) ∧ To w w' w.heap := by
  refine (same_any va vb l l w ha hb h1 h1).mono ?_
  rintro e w' ⟨rfl, t⟩
  exact ⟨by simp, t⟩

theorem nil_or (l : List Int) : l = [] ∨ ∃ y ys, l = y :: ys := by
  cases l with
  | nil => exact .inl rfl
  | cons y ys => exact .inr ⟨y, ys, rfl⟩

set_option maxHeartbeats 16000000 in
set_option maxRecDepth 100000 in
theorem walk (w : World) (v : Value) (l : List Act3) (hv : IsActs w v l) :
    Calls Try.prog 4 #[v] w fun e w' => e = .returned (.bool true) ∧ Below w.heap.size w w' := by
  have HV := Lib.hid hv
  obtain ⟨a0, cap0, rfl, hv1, hv2⟩ := hv
  clear hv1 hv2
  go_enter Try.func4, Try.ntmps4
  go_wp2_with fail
  refine (filled_any _ l w HV.out).mono ?_
  rintro e w1 ⟨qb, rfl, q, kb⟩
  have K := Lib.hid (Kept.of_below (B := w.heap.size) kb)
  have Q := Lib.hid q
  have hsz : (run (l.take 400)).size ≤ 400 := by have := run_sz (l.take 400); have := List.length_take_le 400 l; omega
  clear kb q
  generalize run (l.take 400) = s0 at *
  go_wp2
  go_loopw [4] (fun i wr => R1 w qb i wr) (fun i _ => 500 - (intOf i).toNat)
  case atStart => exact ⟨0, s0, by omega, rfl, Q.out, K.out⟩
  case round =>
    obtain ⟨k, s, hk, rfl, hq, hkept⟩ := hrel
    have HQ := Lib.hid hq
    have HK := Lib.hid hkept
    have OK := Lib.hid hq.ok
    clear hq hkept Q K hsz
    have klt : (k : Int) < 500 := by omega
    have hs : s.size < 1000000 := by omega
    have hps : s.pick.size < 1000000 := by have := pick_sz s; omega
    go_wp2_with fail
    refine (list_at HQ.out hs 1 s.h rfl).mono ?_
    rintro e w2 ⟨a1, c1, rfl, r1, q2, k2⟩
    have RA := Lib.hid r1
    have HQ2 := Lib.hid q2
    have HK2 := Lib.hid (HK.out.trans k2)
    clear r1 q2 k2 HQ HK
    go_wp2_with fail
    refine (list_at HQ2.out hs 2 s.n rfl).mono ?_
    rintro e w3 ⟨a2, c2, rfl, r2, q2, k2⟩
    have RA3 := Lib.hid (RA.out.kept k2)
    have RB := Lib.hid r2
    have HQ := Lib.hid q2
    have HK := Lib.hid (HK2.out.trans k2)
    clear r2 q2 k2 HQ2 HK2 RA
    go_wp2_with fail
    refine (list_at HQ.out hs 3 s.l rfl).mono ?_
    rintro e w4 ⟨a3, c3, rfl, r3, q2, k2⟩
    have RA := Lib.hid (RA3.out.kept k2)
    have RB4 := Lib.hid (RB.out.kept k2)
    have RC := Lib.hid r3
    have HQ2 := Lib.hid q2
    have HK2 := Lib.hid (HK.out.trans k2)
    clear r3 q2 k2 HQ HK RA3 RB
    go_wp2_with fail
    refine (len_qs _ _ _ _ HQ2.out).mono ?_
    rintro e w4 ⟨rfl, rfl⟩
    have hlen : ((s.size : Int) != s.h.length + s.n.length + s.l.length) = false := by simp [St.size]
    have l1 : s.h.length ≤ 400 := by unfold St.size at hk; omega
    have l2 : s.n.length ≤ 400 := by unfold St.size at hk; omega
    have l3 : s.l.length ≤ 400 := by unfold St.size at hk; omega
    have hB := HK2.out.size
    by_cases h0 : s.size = 0
    · as_aux_lemma =>
        have g0 : decide ((0 : Int) < s.size) = false := by simp; omega
        have e1 : s.h = [] := by unfold St.size at h0; exact List.length_eq_zero_iff.1 (by omega)
        have e2 : s.n = [] := by unfold St.size at h0; exact List.length_eq_zero_iff.1 (by omega)
        have e3 : s.l = [] := by unfold St.size at h0; exact List.length_eq_zero_iff.1 (by omega)
        go_wp2_with fail
        refine (pick_at0 HQ2.out h0).mono ?_
        rintro e w5 ⟨rfl, q2, k2⟩
        have HK := Lib.hid (HK2.out.trans k2)
        clear q2 k2 HK2 HQ2
        go_wp2_with (go_at_call 13; refine (awake_any _).mono ?_; rintro e w6 ⟨rfl, k2⟩; have K2 := Lib.hid k2; clear k2)
        go_ret
        exact ⟨rfl, (HK.out.trans (Kept.of_below K2.out)).toBelow⟩
    · have g0 : decide ((0 : Int) < s.size) = true := by simp; omega
      have H0 := Lib.hid h0
      clear h0
      have hsp := pick_sz s
      go_wp2_with fail
      refine (pick_at HQ2.out hs s.pickId s.pick H0.out rfl rfl).mono ?_
      rintro e w5 ⟨rfl, q2, k2⟩
      have HK := Lib.hid (HK2.out.trans k2)
      have RA5 := Lib.hid (RA.out.kept k2)
      have RB5 := Lib.hid (RB4.out.kept k2)
      have RC5 := Lib.hid (RC.out.kept k2)
      have HQ := Lib.hid q2
      clear q2 k2 HK2 HQ2 RA RB4 RC
      have W := Lib.hid (pick_ways H0.out)
      generalize hpid : s.pickId = pid at *
      have HP := Lib.hid hpid
      clear hpid
      rcases W.out with ⟨x, xs, eh⟩ | ⟨eh, en, x, xs, ex⟩ | ⟨eh, en, x, xs, ex⟩
      · as_aux_lemma =>
          obtain ⟨_, ep, es⟩ := pick_high eh
          have ha : (0 : Int) < s.h.length := by rw [eh]; simp
          have EH := Lib.hid eh
          have EP := Lib.hid ep
          have ES := Lib.hid es
          have L1 := Lib.hid (show s.pick.line 1 = xs by rw [es]; rfl)
          have L2 := Lib.hid (show s.pick.line 2 = s.n by rw [es]; rfl)
          have L3 := Lib.hid (show s.pick.line 3 = s.l by rw [es]; rfl)
          have gn : decide (0 < s.size) = true := by have := H0.out; simp; omega
          have rx := RA5.out
          rw [eh] at rx
          obtain ⟨g, rfl, hg⟩ := rx.head
          obtain ⟨ta, tc, htail, hti⟩ := rx.tail
          have hcell := hg _ rx
          rw [← eh] at htail hti hg
          have HT := Lib.hid hti
          obtain rfl : x = pid := by rw [← ep]; exact HP.out
          clear ep es eh rx hti hg
          have hxl : xs.length < 1000000 := by have := EH.out; rw [this] at l1; simp at l1; omega
          have hnl : s.n.length < 1000000 := by omega
          have hll : s.l.length < 1000000 := by omega
          have neq : (x != x) = false := by simp
          go_wp2_with fail
          go_region_with (first
            | (go_at_call 15; refine (list_at (by exact HQ.out) hps _ _ rfl).mono ?_; rintro e w6 ⟨a6, c6, rfl, r6, q6, k6⟩; (first | replace k6 := Kept.undrew k6 | skip); (first | rw [L1.out] at r6 ⊢ | rw [L2.out] at r6 ⊢ | rw [L3.out] at r6 ⊢); replace RA5 := Lib.hid (RA5.out.kept k6); replace RB5 := Lib.hid (RB5.out.kept k6); replace RC5 := Lib.hid (RC5.out.kept k6); replace HK := Lib.hid (HK.out.trans k6); replace HQ := Lib.hid q6; have RR := Lib.hid r6; clear q6 k6 r6)
            | (go_at_call 17; (first | refine (same_at (by exact RR.out.ints) (by exact HT.out _ RA5.out) hxl).mono ?_ | refine (same_at (by exact RR.out.ints) (by exact RB5.out.ints) hnl).mono ?_ | refine (same_at (by exact RR.out.ints) (by exact RC5.out.ints) hll).mono ?_); rintro e w6 ⟨rfl, t6⟩; have k6 := Kept.of_same (B := w.heap.size) t6; replace RA5 := Lib.hid (RA5.out.kept k6); replace RB5 := Lib.hid (RB5.out.kept k6); replace RC5 := Lib.hid (RC5.out.kept k6); replace HK := Lib.hid (HK.out.trans k6); replace HQ := Lib.hid (HQ.out.same t6); clear k6 t6 RR))
          have hdec : s.pick.size < s.size := by rw [ES.out]; unfold St.size; simp only; have := EH.out; rw [this]; simp
          go_wp2
          exact ⟨⟨k + 1, s.pick, by omega, by go_num, HQ.out, HK.out⟩, by simp [intOf]; omega⟩
      · as_aux_lemma =>
          obtain ⟨_, ep, es⟩ := pick_norm eh en ex
          have ha : ¬ (0 : Int) < s.h.length := by rw [eh]; simp
          have hb : (0 : Int) < s.n.length := by rw [ex]; simp
          have EX := Lib.hid ex
          have EH := Lib.hid eh
          have ES := Lib.hid es
          have L1 := Lib.hid (show s.pick.line 1 = [] by rw [es]; rfl)
          have L2 := Lib.hid (show s.pick.line 2 = xs by rw [es]; rfl)
          have L3 := Lib.hid (show s.pick.line 3 = s.l by rw [es]; rfl)
          have gn : decide (0 < s.size) = true := by have := H0.out; simp; omega
          have rx := RB5.out
          rw [ex] at rx
          obtain ⟨g, rfl, hg⟩ := rx.head
          obtain ⟨ta, tc, htail, hti⟩ := rx.tail
          have hcell := hg _ rx
          rw [← ex] at htail hti hg
          have HT := Lib.hid hti
          obtain rfl : x = pid := by rw [← ep]; exact HP.out
          clear ep es eh ex rx hti hg en
          have hxl : xs.length < 1000000 := by have := EX.out; rw [this] at l2; simp at l2; omega
          have hll : s.l.length < 1000000 := by omega
          have eqx : (x == x) = true := by simp
          go_wp2_with (first
            | (go_at_call 15; refine (list_at (by exact HQ.out) hps _ _ rfl).mono ?_; rintro e w6 ⟨a6, c6, rfl, r6, q6, k6⟩; (first | replace k6 := Kept.undrew k6 | skip); (first | rw [L1.out] at r6 ⊢ | rw [L2.out] at r6 ⊢ | rw [L3.out] at r6 ⊢); replace RA5 := Lib.hid (RA5.out.kept k6); replace RB5 := Lib.hid (RB5.out.kept k6); replace RC5 := Lib.hid (RC5.out.kept k6); replace HK := Lib.hid (HK.out.trans k6); replace HQ := Lib.hid q6; have RR := Lib.hid r6; clear q6 k6 r6)
            | (go_at_call 17; (first | refine (same_at (by exact RR.out.ints) (by exact HT.out _ RB5.out) hxl).mono ?_ | refine (same_at (by exact RR.out.ints) (by exact RC5.out.ints) hll).mono ?_); rintro e w6 ⟨rfl, t6⟩; have k6 := Kept.of_same (B := w.heap.size) t6; replace RA5 := Lib.hid (RA5.out.kept k6); replace RB5 := Lib.hid (RB5.out.kept k6); replace RC5 := Lib.hid (RC5.out.kept k6); replace HK := Lib.hid (HK.out.trans k6); replace HQ := Lib.hid (HQ.out.same t6); clear k6 t6 RR))
          have hdec : s.pick.size < s.size := by rw [ES.out]; unfold St.size; simp only; have := EX.out; rw [this, EH.out]; simp
          exact ⟨⟨k + 1, s.pick, by omega, by go_num, HQ.out, HK.out⟩, by simp [intOf]; omega⟩
      · have hnx := low_not_norm OK.out ex
        rcases nil_or s.n with hn | ⟨y, ys, hn⟩
        · as_aux_lemma =>
            obtain ⟨_, ep, es⟩ := pick_low eh en ex
            have ha : ¬ (0 : Int) < s.h.length := by rw [eh]; simp
            have hc : (0 : Int) < s.l.length := by rw [ex]; simp
            have hb : decide ((0 : Int) < s.n.length) = false := by rw [hn]; simp
            have hb' : ¬ (0 : Int) < s.n.length := by rw [hn]; simp
            have EX := Lib.hid ex
            have EH := Lib.hid eh
            have ES := Lib.hid es
            have L1 := Lib.hid (show s.pick.line 1 = [] by rw [es]; rfl)
            have L2 := Lib.hid (show s.pick.line 2 = s.n by rw [es]; rfl)
            have L3 := Lib.hid (show s.pick.line 3 = xs by rw [es]; rfl)
            have gn : decide (0 < s.size) = true := by have := H0.out; simp; omega
            have rx := RC5.out
            rw [ex] at rx
            obtain ⟨g, rfl, hg⟩ := rx.head
            obtain ⟨ta, tc, htail, hti⟩ := rx.tail
            have hcell := hg _ rx
            rw [← ex] at htail hti hg
            have HT := Lib.hid hti
            obtain rfl : x = pid := by rw [← ep]; exact HP.out
            clear ep es eh ex rx hti hg en hn hnx
            have hxl : xs.length < 1000000 := by have := EX.out; rw [this] at l3; simp at l3; omega
            have hnl : s.n.length < 1000000 := by omega
            have eqx : (x == x) = true := by simp
            go_wp2_with (first
              | (go_at_call 15; refine (list_at (by exact HQ.out) hps _ _ rfl).mono ?_; rintro e w6 ⟨a6, c6, rfl, r6, q6, k6⟩; (first | replace k6 := Kept.undrew k6 | skip); (first | rw [L1.out] at r6 ⊢ | rw [L2.out] at r6 ⊢ | rw [L3.out] at r6 ⊢); replace RA5 := Lib.hid (RA5.out.kept k6); replace RB5 := Lib.hid (RB5.out.kept k6); replace RC5 := Lib.hid (RC5.out.kept k6); replace HK := Lib.hid (HK.out.trans k6); replace HQ := Lib.hid q6; have RR := Lib.hid r6; clear q6 k6 r6)
              | (go_at_call 17; (first | refine (same_at (by exact RR.out.ints) (by exact RB5.out.ints) hnl).mono ?_ | refine (same_at (by exact RR.out.ints) (by exact HT.out _ RC5.out) hxl).mono ?_); rintro e w6 ⟨rfl, t6⟩; have k6 := Kept.of_same (B := w.heap.size) t6; replace RA5 := Lib.hid (RA5.out.kept k6); replace RB5 := Lib.hid (RB5.out.kept k6); replace RC5 := Lib.hid (RC5.out.kept k6); replace HK := Lib.hid (HK.out.trans k6); replace HQ := Lib.hid (HQ.out.same t6); clear k6 t6 RR))
            have hdec : s.pick.size < s.size := by rw [ES.out]; unfold St.size; simp only; have := EX.out; rw [this, EH.out]; simp
            exact ⟨⟨k + 1, s.pick, by omega, by go_num, HQ.out, HK.out⟩, by simp [intOf]; omega⟩
        · as_aux_lemma =>
            obtain ⟨_, ep, es⟩ := pick_low eh en ex
            have ha : ¬ (0 : Int) < s.h.length := by rw [eh]; simp
            have hc : (0 : Int) < s.l.length := by rw [ex]; simp
            have hb : (0 : Int) < s.n.length := by rw [hn]; simp
            have ry := RB5.out
            rw [hn] at ry
            obtain ⟨g2, rfl, hg2⟩ := ry.head
            have hcell2 := hg2 _ ry
            have hxy : (x == y) = false := beq_eq_false_iff_ne.2 (fun e => hnx (by rw [hn, e]; simp))
            clear hg2 ry
            have EX := Lib.hid ex
            have EH := Lib.hid eh
            have ES := Lib.hid es
            have L1 := Lib.hid (show s.pick.line 1 = [] by rw [es]; rfl)
            have L2 := Lib.hid (show s.pick.line 2 = s.n by rw [es]; rfl)
            have L3 := Lib.hid (show s.pick.line 3 = xs by rw [es]; rfl)
            have gn : decide (0 < s.size) = true := by have := H0.out; simp; omega
            have rx := RC5.out
            rw [ex] at rx
            obtain ⟨g, rfl, hg⟩ := rx.head
            obtain ⟨ta, tc, htail, hti⟩ := rx.tail
            have hcell := hg _ rx
            rw [← ex] at htail hti hg
            have HT := Lib.hid hti
            obtain rfl : x = pid := by rw [← ep]; exact HP.out
            clear ep es eh ex rx hti hg en hn hnx
            have hxl : xs.length < 1000000 := by have := EX.out; rw [this] at l3; simp at l3; omega
            have hnl : s.n.length < 1000000 := by omega
            have eqx : (x == x) = true := by simp
            go_wp2_with (first
              | (go_at_call 15; refine (list_at (by exact HQ.out) hps _ _ rfl).mono ?_; rintro e w6 ⟨a6, c6, rfl, r6, q6, k6⟩; (first | replace k6 := Kept.undrew k6 | skip); (first | rw [L1.out] at r6 ⊢ | rw [L2.out] at r6 ⊢ | rw [L3.out] at r6 ⊢); replace RA5 := Lib.hid (RA5.out.kept k6); replace RB5 := Lib.hid (RB5.out.kept k6); replace RC5 := Lib.hid (RC5.out.kept k6); replace HK := Lib.hid (HK.out.trans k6); replace HQ := Lib.hid q6; have RR := Lib.hid r6; clear q6 k6 r6)
              | (go_at_call 17; (first | refine (same_at (by exact RR.out.ints) (by exact RB5.out.ints) hnl).mono ?_ | refine (same_at (by exact RR.out.ints) (by exact HT.out _ RC5.out) hxl).mono ?_); rintro e w6 ⟨rfl, t6⟩; have k6 := Kept.of_same (B := w.heap.size) t6; replace RA5 := Lib.hid (RA5.out.kept k6); replace RB5 := Lib.hid (RB5.out.kept k6); replace RC5 := Lib.hid (RC5.out.kept k6); replace HK := Lib.hid (HK.out.trans k6); replace HQ := Lib.hid (HQ.out.same t6); clear k6 t6 RR))
            have hdec : s.pick.size < s.size := by rw [ES.out]; unfold St.size; simp only; have := EX.out; rw [this, EH.out]; simp
            exact ⟨⟨k + 1, s.pick, by omega, by go_num, HQ.out, HK.out⟩, by simp [intOf]; omega⟩
end Go.Proofs.Ytpfmpfmbmipglaa.schedFifo
