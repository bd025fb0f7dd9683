/-
  The reference's Drop and Pick, and its Put, List and Len as the specification has them.
-/
import Derived.Test.YtpfmpfmbmipglaaRef4
import Derived.Test.YtpfmpfmbmipglaaOnceLaw
namespace Go.Proofs.Ytpfmpfmbmipglaa
open Go.RowKit

/-- The reference's queue, its rows whatever they are. -/
def RQ (w : World) (B pb : Nat) (s : St) : Prop := ∃ V, RS w B pb V s

theorem RQ.kept {B B' pb : Nat} {w w' : World} {s : St} (r : RQ w B pb s) (k : Kept B' w w') : RQ w' B pb s := by obtain ⟨V, r⟩ := r; exact ⟨V, r.kept k⟩
theorem RQ.below {B pb : Nat} {w w' : World} {s : St} (r : RQ w B pb s) (k : Below w.heap.size w w') : RQ w' B pb s := by obtain ⟨V, r⟩ := r; exact ⟨V, r.below k⟩

theorem drop_set {s : St} (ok : s.Ok) {id : Int} {p i : Nat} (hp : p < 3) (hi : i < (s.at p).length) (hg : (s.at p).getD i 0 = id) : s.set ((p : Int) + 1) ((s.at p).eraseIdx i) = s.drop id := by
  have hm : id ∈ s.at p := by rw [← hg, List.getD_eq_getElem?_getD, List.getElem?_eq_getElem hi]; exact List.getElem_mem hi
  have nd := line_nd ok ((p : Int) + 1)
  have he : (s.at p).eraseIdx i = (s.at p).erase id := by
    have hgi : (s.at p)[i] = id := by rw [List.getD_eq_getElem?_getD, List.getElem?_eq_getElem hi] at hg; exact hg
    rw [← hgi]
    have hsp : s.at p = (s.at p).take i ++ (s.at p)[i] :: (s.at p).drop (i + 1) := by
      have := List.take_append_drop i (s.at p)
      rw [List.drop_eq_getElem_cons hi] at this
      exact this.symm
    have nd' : ((s.at p).take i ++ (s.at p)[i] :: (s.at p).drop (i + 1)).Nodup := hsp ▸ nd
    have := erase_split nd'
    rw [← hsp] at this
    rw [this, erase_parts]
  rw [he]
  have a := List.nodup_append.1 (show (s.h ++ s.n ++ s.l).Nodup from ok.nd)
  have b := List.nodup_append.1 a.1
  have q : p = 0 ∨ p = 1 ∨ p = 2 := by omega
  unfold St.drop
  rcases q with rfl | rfl | rfl
  · have m : id ∈ s.h := hm
    have n1 : id ∉ s.n := fun c => b.2.2 _ m _ c rfl
    have n2 : id ∉ s.l := fun c => a.2.2 _ (List.mem_append_left _ m) _ c rfl
    rw [List.erase_of_not_mem n1, List.erase_of_not_mem n2]; rfl
  · have m : id ∈ s.n := hm
    have n1 : id ∉ s.h := fun c => b.2.2 _ c _ m rfl
    have n2 : id ∉ s.l := fun c => a.2.2 _ (List.mem_append_right _ m) _ c rfl
    rw [List.erase_of_not_mem n1, List.erase_of_not_mem n2]; rfl
  · have m : id ∈ s.l := hm
    have n1 : id ∉ s.h := fun c => a.2.2 _ (List.mem_append_left _ c) _ m rfl
    have n2 : id ∉ s.n := fun c => a.2.2 _ (List.mem_append_right _ c) _ m rfl
    rw [List.erase_of_not_mem n1, List.erase_of_not_mem n2]; rfl

set_option maxHeartbeats 1000000 in
theorem rdrop (w : World) (B pb : Nat) (s : St) (r : RQ w B pb s) (ok : s.Ok) (hs : s.size < 1000000) (id : Int) :
    Calls Try.prog 27 #[.pointer (some ⟨pb, 0, none⟩), .int .i64 id] w fun e w' => e = .returned (.bool (decide (id ∈ s.ids))) ∧ RQ w' B pb (s.drop id) ∧ KeptR B w w' := by
  obtain ⟨V, r⟩ := r
  have HR := Lib.hid r
  have hB : B ≤ w.heap.size := Nat.le_trans r.b (Nat.le_of_lt (lt_of r.q))
  have OK := Lib.hid ok
  clear r ok
  by_cases hm : id ∈ s.ids
  · have HM := Lib.hid hm
    clear hm
    go_enter Try.func27, Try.ntmps27
    go_wp2_with fail
    refine (find_yes HR.out hs HM.out).mono ?_
    rintro e w' ⟨⟨q, i, hq, hi, h3, h4, rfl⟩, rfl⟩
    have DS := Lib.hid (drop_set OK.out hq hi h3)
    have e0 : ((q : Int) + 1 == 0) = false := beq_eq_false_iff_ne.2 (by omega)
    clear h3 h4
    go_wp2_with (go_at_call 32; refine (rremove _ B pb V s HR.out hs hB q i hq hi).mono ?_; rintro e w2 ⟨rfl, r2, k2⟩; have R2 := Lib.hid r2; have K2 := Lib.hid k2; clear r2 k2)
    go_ret
    exact ⟨by rw [decide_eq_true HM.out]; rfl, by rw [← DS.out]; exact R2.out, K2.out⟩
  · have HM := Lib.hid hm
    clear hm
    go_enter Try.func27, Try.ntmps27
    go_wp2_with fail
    refine (find_no HR.out hs HM.out).mono ?_
    rintro e w' ⟨rfl, rfl⟩
    go_wp2
    go_ret
    exact ⟨by rw [decide_eq_false HM.out]; rfl, by rw [drop_absent HM.out]; exact ⟨V, HR.out⟩, KeptR.refl _ _⟩

theorem at_c {s : St} {c : Int} (p : Nat) : (St.mk s.h s.n s.l c).at p = s.at p := rfl

/-- The count is written. -/
theorem rs_count {w : World} {B pb : Nat} {V : Nat → Value} {s : St} (r : RS w B pb V s) (c : Int) : RS (w.setCell ⟨pb, 3, none⟩ (.int .i64 c)) B pb V ⟨s.h, s.n, s.l, c⟩ := by
  refine ⟨?_, r.b, fun p hp => ?_, r.apart⟩
  · rw [heap_setCell, put_same r.q]; rfl
  · rw [at_c]; exact own_setCell (r.row p hp) r.q
theorem rs_drew {w : World} {B pb n : Nat} {V : Nat → Value} {s : St} (r : RS w B pb V s) : RS (w.drewN n) B pb V s := ⟨r.q, r.b, r.row, r.apart⟩
theorem kept_drew {w w' : World} {B n : Nat} (k : KeptR B (w.drewN n) w') : KeptR B w w' := ⟨k.os, k.tape, k.output, k.size, k.block⟩

/-- What Pick has done. -/
def Picked (w : World) (B pb : Nat) (s : St) (e : Ending) (w' : World) : Prop :=
  e = .returned (.tuple #[.int .i64 (if s.size = 0 then 0 else s.pickId), .bool (decide (s.size ≠ 0))]) ∧ RQ w' B pb s.pick ∧ KeptR B w w'

theorem erase_zero (x : Int) (xs : List Int) : (x :: xs).eraseIdx 0 = xs := rfl

theorem rhead (w : World) (B pb : Nat) (V : Nat → Value) (s : St) (r : RS w B pb V s) (hs : s.size < 1000000) (p : Nat) (hp : p < 3) (x : Int) (xs : List Int) (hx : s.at p = x :: xs) :
    Calls Try.prog 32 #[.pointer (some ⟨pb, 0, none⟩), .int .i64 (p : Int), .int .i64 0] w fun e w' => e = .returned (.int .i64 x) ∧ RQ w' B pb (s.set ((p : Int) + 1) xs) ∧ KeptR B w w' := by
  have hB : B ≤ w.heap.size := Nat.le_trans r.b (Nat.le_of_lt (lt_of r.q))
  have := rremove w B pb V s r hs hB p 0 hp (by rw [hx]; simp)
  rw [hx] at this
  exact this

set_option maxHeartbeats 4000000 in
theorem rpick (w : World) (B pb : Nat) (s : St) (r : RQ w B pb s) (hc : 0 ≤ s.c ∧ s.c ≤ 7) (hs : s.size < 1000000) :
    Calls Try.prog 26 #[.pointer (some ⟨pb, 0, none⟩)] w (Picked w B pb s) := by
  obtain ⟨V, r⟩ := r
  have HR := Lib.hid r
  obtain ⟨a0, b0, f0⟩ := (r.row' (p := 0) (by omega)).form
  obtain ⟨a1, b1, f1⟩ := (r.row' (p := 1) (by omega)).form
  obtain ⟨a2, b2, f2⟩ := (r.row' (p := 2) (by omega)).form
  have c0 := r.cell (p := 0) (by omega)
  have c1 := r.cell (p := 1) (by omega)
  have c2 := r.cell (p := 2) (by omega)
  have c3 := r.count
  have fz := free_of r.q
  rw [f0] at c0
  rw [f1] at c1
  rw [f2] at c2
  rw [show s.at 0 = s.h from rfl] at c0
  rw [show s.at 1 = s.n from rfl] at c1
  rw [show s.at 2 = s.l from rfl] at c2
  obtain ⟨hc0, hc7⟩ := hc
  have cons_of : ∀ l : List Int, l ≠ [] → ∃ x xs, l = x :: xs := fun l h => by
    cases l with
    | nil => exact absurd rfl h
    | cons x xs => exact ⟨x, xs, rfl⟩
  have CO := Lib.hid cons_of
  have QB := Lib.hid (And.intro r.q r.b)
  clear r f0 f1 f2 cons_of
  by_cases hh : s.h = []
  · have hh0 : ¬ (0 : Int) < s.h.length := by rw [hh]; simp
    have HH := Lib.hid hh
    clear hh
    by_cases hn : s.n = []
    · have hn0 : decide ((0 : Int) < s.n.length) = false := by rw [hn]; simp
      have hnN : decide (0 < s.n.length) = false := by rw [hn]; simp
      have hn1 : ¬ (0 : Int) < s.n.length := by rw [hn]; simp
      by_cases hl : s.l = []
      · have hl0 : decide ((0 : Int) < s.l.length) = false := by rw [hl]; simp
        have hlN : decide (0 < s.l.length) = false := by rw [hl]; simp
        have hl1 : ¬ (0 : Int) < s.l.length := by rw [hl]; simp
        have SZ := Lib.hid (show s.size = 0 by unfold St.size; rw [HH.out, hn, hl]; rfl)
        clear hn hl
        go_enter Try.func26, Try.ntmps26
        go_wp2
        go_quiet (fail)
        go_wp2
        go_ret2
        refine ⟨by rw [if_pos SZ.out]; simp [SZ.out], by unfold St.pick; rw [if_pos SZ.out]; exact ⟨V, rs_drew HR.out⟩, kept_drew (KeptR.refl _ _)⟩
      · obtain ⟨x, xs, hx⟩ := CO.out _ hl
        have hl0 : decide ((0 : Int) < s.l.length) = true := by rw [hx]; simp
        have hlN : decide (0 < s.l.length) = true := by rw [hx]; simp
        have hl1 : (0 : Int) < s.l.length := by rw [hx]; simp
        have nx : s.next = 3 := by unfold St.next; rw [if_neg (by simp [HH.out]), if_neg (by simp [hn]), if_pos hl]
        have cn : s.count = 0 := by unfold St.count; rw [if_neg (by simp [HH.out]), if_neg (by simp [hn])]
        obtain ⟨z, e1, e2⟩ := pick_low HH.out nx hx
        have HX := Lib.hid (And.intro hx (And.intro z (And.intro e1 (And.intro e2 cn))))
        clear hn hl hx nx cn z e1 e2
        go_enter Try.func26, Try.ntmps26
        go_wp2
        go_quiet (fail)
        go_wp2_with (go_at_call 32; refine (rhead _ B pb V _ (rs_count (rs_drew HR.out) 0) hs 2 (by omega) x xs HX.out.1).mono ?_; rintro e w2 ⟨rfl, r2, k2⟩; have R2 := Lib.hid r2; have K2 := Lib.hid k2; clear r2 k2)
        go_ret2
        obtain ⟨hx, z, e1, e2, cn⟩ := HX.out
        refine ⟨by rw [if_neg z, e1]; simp [z], ?_, (set_keptR (kept_drew (KeptR.refl _ _)) QB.out.2 QB.out.1 _).trans K2.out⟩
        rw [e2, cn]
        have q := R2.out
        simp only [St.set] at q
        simpa [HH.out] using q
    · obtain ⟨y, ys, hy⟩ := CO.out _ hn
      have hn0 : decide ((0 : Int) < s.n.length) = true := by rw [hy]; simp
      have hnN : decide (0 < s.n.length) = true := by rw [hy]; simp
      have hn1 : (0 : Int) < s.n.length := by rw [hy]; simp
      by_cases hl : s.l = []
      · have hl0 : decide ((0 : Int) < s.l.length) = false := by rw [hl]; simp
        have hlN : decide (0 < s.l.length) = false := by rw [hl]; simp
        have hl1 : ¬ (0 : Int) < s.l.length := by rw [hl]; simp
        have nx : s.next = 2 := by unfold St.next; rw [if_neg (by simp [HH.out]), if_neg (by simp [hl]), if_neg (by simp [hl])]
        have cn : s.count = 0 := by unfold St.count; rw [if_neg (by simp [HH.out]), if_neg (by simp [hl])]
        obtain ⟨z, e1, e2⟩ := pick_norm HH.out nx hy
        have HX := Lib.hid (And.intro hy (And.intro z (And.intro e1 (And.intro e2 cn))))
        clear hn hl hy nx cn z e1 e2
        go_enter Try.func26, Try.ntmps26
        go_wp2
        go_quiet (fail)
        go_wp2_with (go_at_call 32; refine (rhead _ B pb V _ (rs_count (rs_drew HR.out) 0) hs 1 (by omega) y ys HX.out.1).mono ?_; rintro e w2 ⟨rfl, r2, k2⟩; have R2 := Lib.hid r2; have K2 := Lib.hid k2; clear r2 k2)
        go_ret2
        obtain ⟨hx, z, e1, e2, cn⟩ := HX.out
        refine ⟨by rw [if_neg z, e1]; simp [z], ?_, (set_keptR (kept_drew (KeptR.refl _ _)) QB.out.2 QB.out.1 _).trans K2.out⟩
        rw [e2, cn]
        have q := R2.out
        simp only [St.set] at q
        simpa [HH.out] using q
      · obtain ⟨x, xs, hx⟩ := CO.out _ hl
        have hl0 : decide ((0 : Int) < s.l.length) = true := by rw [hx]; simp
        have hlN : decide (0 < s.l.length) = true := by rw [hx]; simp
        have hl1 : (0 : Int) < s.l.length := by rw [hx]; simp
        by_cases h7 : s.c < 7
        · have nx : s.next = 2 := by unfold St.next; rw [if_neg (by simp [HH.out]), if_pos ⟨hn, hl, h7⟩]
          have cn : s.count = s.c + 1 := by unfold St.count; rw [if_neg (by simp [HH.out]), if_pos ⟨hn, hl, h7⟩]
          obtain ⟨z, e1, e2⟩ := pick_norm HH.out nx hy
          have HX := Lib.hid (And.intro hy (And.intro z (And.intro e1 (And.intro e2 cn))))
          clear hn hl hy hx nx cn z e1 e2
          go_enter Try.func26, Try.ntmps26
          go_wp2
          go_quiet (fail)
          go_wp2_with (go_at_call 32; refine (rhead _ B pb V _ (rs_count (rs_drew HR.out) (s.c + 1)) hs 1 (by omega) y ys HX.out.1).mono ?_; rintro e w2 ⟨rfl, r2, k2⟩; have R2 := Lib.hid r2; have K2 := Lib.hid k2; clear r2 k2)
          go_ret2
          obtain ⟨hx, z, e1, e2, cn⟩ := HX.out
          refine ⟨by rw [if_neg z, e1]; simp [z], ?_, (set_keptR (kept_drew (KeptR.refl _ _)) QB.out.2 QB.out.1 _).trans K2.out⟩
          rw [e2, cn]
          have q := R2.out
          simp only [St.set] at q
          simpa [HH.out] using q
        · have nx : s.next = 3 := by unfold St.next; rw [if_neg (by simp [HH.out]), if_neg (fun c => h7 c.2.2), if_pos hl]
          have cn : s.count = 0 := by unfold St.count; rw [if_neg (by simp [HH.out]), if_neg (fun c => h7 c.2.2)]
          obtain ⟨z, e1, e2⟩ := pick_low HH.out nx hx
          have HX := Lib.hid (And.intro hx (And.intro z (And.intro e1 (And.intro e2 cn))))
          clear hn hl hy hx nx cn z e1 e2
          go_enter Try.func26, Try.ntmps26
          go_wp2
          go_quiet (fail)
          go_wp2_with (go_at_call 32; refine (rhead _ B pb V _ (rs_count (rs_drew HR.out) 0) hs 2 (by omega) x xs HX.out.1).mono ?_; rintro e w2 ⟨rfl, r2, k2⟩; have R2 := Lib.hid r2; have K2 := Lib.hid k2; clear r2 k2)
          go_ret2
          obtain ⟨hx, z, e1, e2, cn⟩ := HX.out
          refine ⟨by rw [if_neg z, e1]; simp [z], ?_, (set_keptR (kept_drew (KeptR.refl _ _)) QB.out.2 QB.out.1 _).trans K2.out⟩
          rw [e2, cn]
          have q := R2.out
          simp only [St.set] at q
          simpa [HH.out] using q
  · obtain ⟨x, xs, hx⟩ := CO.out _ hh
    have hh0 : (0 : Int) < s.h.length := by rw [hx]; simp
    obtain ⟨z, e1, e2⟩ := pick_high hx
    have HX := Lib.hid (And.intro hx (And.intro z (And.intro e1 e2)))
    clear hh hx z e1 e2
    go_enter Try.func26, Try.ntmps26
    go_wp2
    go_quiet (fail)
    go_wp2_with (go_at_call 32; refine (rhead _ B pb V s (rs_drew HR.out) hs 0 (by omega) x xs HX.out.1).mono ?_; rintro e w2 ⟨rfl, r2, k2⟩; have R2 := Lib.hid r2; have K2 := Lib.hid k2; clear r2 k2)
    go_ret2
    obtain ⟨hx, z, e1, e2⟩ := HX.out
    refine ⟨by rw [if_neg z, e1]; simp [z], ?_, kept_drew K2.out⟩
    rw [e2]
    exact R2.out

theorem rput (w : World) (B pb : Nat) (s : St) (r : RQ w B pb s) (hs : s.size < 1000000) (id p : Int) :
    Calls Try.prog 25 #[.pointer (some ⟨pb, 0, none⟩), .int .i64 id, .int .i64 p] w fun e w' => e = .returned (.int .i64 (s.putErr id p)) ∧ RQ w' B pb (s.put id p) ∧ KeptR B w w' := by
  obtain ⟨V, r⟩ := r
  have hB : B ≤ w.heap.size := Nat.le_trans r.b (Nat.le_of_lt (lt_of r.q))
  unfold St.putErr St.put
  by_cases hb : bad id p
  · rw [if_pos hb, if_pos hb]
    refine (rput_bad w pb id p hb).mono ?_
    rintro e w' ⟨rfl, rfl⟩
    exact ⟨rfl, ⟨V, r⟩, KeptR.refl _ _⟩
  · rw [if_neg hb, if_neg hb]
    by_cases hm : id ∈ s.ids
    · rw [if_pos hm, if_pos hm]
      refine (rput_twice w B pb V s r hs id p hb hm).mono ?_
      rintro e w' ⟨rfl, rfl⟩
      exact ⟨rfl, ⟨V, r⟩, KeptR.refl _ _⟩
    · rw [if_neg hm, if_neg hm]
      unfold bad at hb
      obtain ⟨k, hk⟩ := Int.eq_ofNat_of_zero_le (show 0 ≤ p - 1 by omega)
      obtain rfl : p = (k : Int) + 1 := by omega
      exact rput_ok w B pb V s r hs hB id k (by omega) (by omega) hm

theorem rlist (w : World) (B pb : Nat) (s : St) (r : RQ w B pb s) (hs : s.size < 1000000) (p : Int) :
    Calls Try.prog 29 #[.pointer (some ⟨pb, 0, none⟩), .int .i64 p] w (AppR w (s.line p)) := by
  obtain ⟨V, r⟩ := r
  by_cases hb : p < 1 ∨ 3 < p
  · refine (rlist_none w pb p hb).mono ?_
    rintro e w' ⟨rfl, rfl⟩
    have : s.line p = [] := by unfold St.line; rw [if_neg (by omega), if_neg (by omega), if_neg (by omega)]
    rw [this]
    exact ⟨_, rfl, ⟨rfl, .inl ⟨rfl, rfl⟩⟩, Below.refl _ _⟩
  · obtain ⟨k, hk⟩ := Int.eq_ofNat_of_zero_le (show 0 ≤ p - 1 by omega)
    obtain rfl : p = (k : Int) + 1 := by omega
    exact rlist_some w B pb V s r hs k (by omega)
end Go.Proofs.Ytpfmpfmbmipglaa
