/-
  SchedShares: the walk.
-/
import Derived.Test.YtpfmpfmbmipglaaShares
namespace Go.Proofs.Ytpfmpfmbmipglaa.schedShares
open Go.RowKit Go.Proofs.Ytpfmpfmbmipglaa

def R1 (w : World) (qb n : Nat) (i : Value) (wr : World) : Prop := ∃ k : Nat, k ≤ n ∧ i = .int .i64 k ∧ QS wr w.heap.size qb ⟨[], nums 0 k, [], 0⟩ ∧ Kept w.heap.size w wr
def R2 (w : World) (qb n m : Nat) (i : Value) (wr : World) : Prop := ∃ k : Nat, k ≤ m ∧ i = .int .i64 k ∧ QS wr w.heap.size qb ⟨[], nums 0 n, nums 100 k, 0⟩ ∧ Kept w.heap.size w wr
def R3 (w : World) (qb n m : Nat) (i : Value) (wr : World) : Prop := ∃ k : Nat, k ≤ 40 ∧ i = .int .i64 k ∧ QS wr w.heap.size qb (turned n m k) ∧ Kept w.heap.size w wr

set_option maxHeartbeats 1000000 in
theorem walk (a b : Int) (w : World) (a0 : 0 ≤ a) (a1 : a ≤ 255) (b0 : 0 ≤ b) (b1 : b ≤ 255) :
    Calls Try.prog 3 #[.int .u8 a, .int .u8 b] w fun e w' => e = .returned (.bool true) ∧ Below w.heap.size w w' := by
  obtain ⟨n, hn⟩ := Int.eq_ofNat_of_zero_le (show 0 ≤ a % 9 + 1 by omega)
  obtain ⟨m, hm⟩ := Int.eq_ofNat_of_zero_le (show 0 ≤ b % 9 + 1 by omega)
  have hn9 : 1 ≤ n ∧ n ≤ 9 := by omega
  have hm9 : 1 ≤ m ∧ m ≤ 9 := by omega
  go_enter Try.func3, Try.ntmps3
  go_wp2_with fail
  have HN := Lib.hid hn9
  have HM := Lib.hid hm9
  clear hn hm
  refine (new_qs w w.heap.size (Nat.le_refl _)).mono ?_
  rintro e w1 ⟨rfl, q, kb⟩
  have K := Lib.hid (Kept.of_below (B := w.heap.size) kb)
  have Q := Lib.hid q
  clear kb q
  generalize w.heap.size + 1 = qb at *
  go_wp2
  go_loopw [8] (fun i wr => R1 w qb n i wr) (fun i _ => n - (intOf i).toNat)
  case atStart => exact ⟨0, Nat.zero_le _, rfl, Q.out, K.out⟩
  case round =>
    obtain ⟨k, hk, rfl, hq, hkept⟩ := hrel
    have HQ := Lib.hid hq
    have HK := Lib.hid hkept
    clear hq hkept Q K
    by_cases hlt : k < n
    · have klt : (k : Int) < n := by omega
      have hB := HK.out.size
      have hs : (St.mk [] (nums 0 k) [] 0).size < 1000000 := by simp [St.size, nums_len]; omega
      go_wp2_with (go_at_call 11; refine (put_qs _ w.heap.size qb _ HQ.out hB hs k 2 (by omega)).mono ?_; rintro e w2 ⟨rfl, q2, k2⟩; have Q2 := Lib.hid q2; have K2 := Lib.hid k2; clear q2 k2)
      exact ⟨⟨k + 1, by omega, by go_num, by rw [← put_norm]; exact Q2.out, HK.out.trans K2.out⟩, by simp [intOf]; omega⟩
    · have klt : ¬ (k : Int) < n := by omega
      obtain rfl : k = n := by omega
      go_wp2
      go_loopw [9] (fun i wr => R2 w qb k m i wr) (fun i _ => m - (intOf i).toNat)
      case atStart => exact ⟨0, Nat.zero_le _, rfl, HQ.out, HK.out⟩
      case round =>
        obtain ⟨j, hj, rfl, hq, hkept⟩ := hrel
        have HQ2 := Lib.hid hq
        have HK2 := Lib.hid hkept
        clear hq hkept HQ HK
        by_cases hlt : j < m
        · have jlt : (j : Int) < m := by omega
          have hB := HK2.out.size
          have hs : (St.mk [] (nums 0 k) (nums 100 j) 0).size < 1000000 := by have := HN.out; simp [St.size, nums_len]; omega
          go_wp2_with (go_at_call 11; refine (put_qs _ w.heap.size qb _ HQ2.out hB hs (100 + j) 3 (by omega)).mono ?_; rintro e w2 ⟨rfl, q2, k2⟩; have Q2 := Lib.hid q2; have K2 := Lib.hid k2; clear q2 k2)
          exact ⟨⟨j + 1, by omega, by go_num, by rw [← put_low k j HN.out.2]; exact Q2.out, HK2.out.trans K2.out⟩, by simp [intOf]; omega⟩
        · have jlt : ¬ (j : Int) < m := by omega
          obtain rfl : j = m := by omega
          go_wp2
          go_loopw [10] (fun i wr => R3 w qb k j i wr) (fun i _ => 40 - (intOf i).toNat)
          case atStart => exact ⟨0, Nat.zero_le _, rfl, HQ2.out, HK2.out⟩
          case round =>
            obtain ⟨t, ht, rfl, hq, hkept⟩ := hrel
            have HQ3 := Lib.hid hq
            have HK3 := Lib.hid hkept
            clear hq hkept HQ2 HK2
            by_cases hlt : t < 40
            · have tlt : (t : Int) < 40 := by omega
              obtain ⟨g1, g2, g3⟩ := good_turn k j t HN.out HM.out hlt
              have hB := HK3.out.size
              have hs : (turned k j t).size < 1000000 := by have := HN.out; have := HM.out; omega
              have hs0 : (turned k j t).size ≠ 0 := by have := HN.out; omega
              have hs' : (turned k j t).pick.size < 1000000 := by have := pick_sz (turned k j t); omega
              have j1 : (1 : Int) ≤ j := by have := HM.out; omega
              have k1 : (1 : Int) ≤ k := by have := HN.out; omega
              have j9 : (j : Int) ≤ 9 := by have := HM.out; omega
              have k9 : (k : Int) ≤ 9 := by have := HN.out; omega
              by_cases h7 : t % 8 = 7
              · have b7 : ((t : Int) % 8 == 7) = true := by simp; omega
                have ew : want k j t = 100 + (t : Int) / 8 % j := by unfold want; rw [if_pos h7]; simp
                have r0 : 0 ≤ (t : Int) / 8 % j := Int.emod_nonneg _ (by omega)
                have r1 : (t : Int) / 8 % j < j := Int.emod_lt_of_pos _ (by omega)
                have e100 : (100 : Int) ≤ 100 + (t : Int) / 8 % j := by omega
                rw [ew] at g2 g3
                rw [if_pos e100] at g3
                have ea : turned k j (t + 1) = (turned k j t).pick.put (100 + (t : Int) / 8 % j) 3 := by
                  show again (turned k j t) = _
                  unfold again
                  rw [g2, if_pos e100]
                have EA := Lib.hid ea
                have G2 := Lib.hid g2
                have G3 := Lib.hid g3
                clear g1 g2 g3 ew ea
                generalize hid : 100 + (t : Int) / 8 % j = id at *
                have HI := Lib.hid hid
                clear hid
                go_wp2_with fail
                refine (pick_at HQ3.out hs id _ hs0 G2.out rfl).mono ?_
                rintro e w2 ⟨rfl, q2, k2⟩
                have Q2 := Lib.hid q2
                have K2 := Lib.hid k2
                clear q2 k2
                have hB2 : w.heap.size ≤ w2.heap.size := Nat.le_trans hB K2.out.size
                have hid := HI.out
                go_wp2_with fail
                refine (put_at Q2.out hB2 id 3 (by omega) hs' 0 _ G3.out rfl).mono ?_
                rintro e w3 ⟨rfl, q3, k3⟩
                have Q3 := Lib.hid q3
                have K3 := Lib.hid k3
                clear q3 k3
                go_wp2
                exact ⟨⟨t + 1, by omega, by go_num, by rw [EA.out]; exact Q3.out, HK3.out.trans (K2.out.trans K3.out)⟩, by simp [intOf]; omega⟩
              · have b7 : ((t : Int) % 8 == 7) = false := by simp; omega
                have ew : want k j t = ((t : Int) / 8 * 7 + (t : Int) % 8) % k := by unfold want; rw [if_neg h7]; simp
                have r0 : 0 ≤ ((t : Int) / 8 * 7 + (t : Int) % 8) % k := Int.emod_nonneg _ (by omega)
                have r1 : ((t : Int) / 8 * 7 + (t : Int) % 8) % k < k := Int.emod_lt_of_pos _ (by omega)
                have e100 : ¬ (100 : Int) ≤ ((t : Int) / 8 * 7 + (t : Int) % 8) % k := by omega
                rw [ew] at g2 g3
                rw [if_neg e100] at g3
                have ea : turned k j (t + 1) = (turned k j t).pick.put (((t : Int) / 8 * 7 + (t : Int) % 8) % k) 2 := by
                  show again (turned k j t) = _
                  unfold again
                  rw [g2, if_neg e100]
                have EA := Lib.hid ea
                have G2 := Lib.hid g2
                have G3 := Lib.hid g3
                clear g1 g2 g3 ew ea
                generalize hid : ((t : Int) / 8 * 7 + (t : Int) % 8) % k = id at *
                have HI := Lib.hid hid
                clear hid
                go_wp2_with fail
                refine (pick_at HQ3.out hs id _ hs0 G2.out rfl).mono ?_
                rintro e w2 ⟨rfl, q2, k2⟩
                have Q2 := Lib.hid q2
                have K2 := Lib.hid k2
                clear q2 k2
                have hB2 : w.heap.size ≤ w2.heap.size := Nat.le_trans hB K2.out.size
                have hid := HI.out
                go_wp2_with fail
                refine (put_at Q2.out hB2 id 2 (by omega) hs' 0 _ G3.out rfl).mono ?_
                rintro e w3 ⟨rfl, q3, k3⟩
                have Q3 := Lib.hid q3
                have K3 := Lib.hid k3
                clear q3 k3
                go_wp2
                exact ⟨⟨t + 1, by omega, by go_num, by rw [EA.out]; exact Q3.out, HK3.out.trans (K2.out.trans K3.out)⟩, by simp [intOf]; omega⟩
            · have tlt : ¬ (t : Int) < 40 := by omega
              go_wp2_with (go_at_call 13; refine (awake_any _).mono ?_; rintro e w2 ⟨rfl, k2⟩; have K2 := Lib.hid k2; clear k2)
              go_ret
              exact ⟨rfl, (HK3.out.trans (Kept.of_below K2.out)).toBelow⟩
end Go.Proofs.Ytpfmpfmbmipglaa.schedShares
