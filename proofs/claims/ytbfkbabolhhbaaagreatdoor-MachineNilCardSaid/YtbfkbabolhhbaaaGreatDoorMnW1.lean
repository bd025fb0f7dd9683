/-
  Names: what names.Valid and the reference's Name answer.
-/
import Derived.WalkKit
import Derived.LoopTactic
import Derived.Laws.RangeAny
import Derived.Test.YtbfkbabolhhbaaaGreatDoorProg
namespace Go.Proofs.YtbfkbabolhhbaaaGreatDoor
set_option linter.unusedSimpArgs false
set_option linter.unusedVariables false
open Go.RowKit
def okAt (j b : Nat) : Bool := decide (97 ≤ b ∧ b ≤ 122) || (decide (0 < j) && (decide (65 ≤ b ∧ b ≤ 90) || decide (48 ≤ b ∧ b ≤ 57) || decide (b = 95) || decide (b = 64)))
def OkTo (s : ByteArray) (k : Nat) : Prop := ∀ (j : Nat) (h : j < s.size), j < k → okAt j (s[j]'h).toNat = true
noncomputable instance (s : ByteArray) (k : Nat) : Decidable (OkTo s k) := Classical.propDecidable _
noncomputable def nmS (s : ByteArray) : Bool := decide (1 ≤ s.size ∧ s.size ≤ 32 ∧ OkTo s s.size)
theorem OkTo.next {s : ByteArray} {k : Nat} (h : OkTo s k) (hk : k < s.size) (ok : okAt k (s[k]'hk).toNat = true) : OkTo s (k + 1) := fun j hj hlt => by
  by_cases e : j = k
  · subst e; exact ok
  · exact h j hj (by omega)
theorem nm_no {s : ByteArray} {k : Nat} (hk : k < s.size) (ok : okAt k (s[k]'hk).toNat = false) : nmS s = false := decide_eq_false fun h => by
  rw [h.2.2 k hk hk] at ok
  cases ok
theorem nm_bad {s : ByteArray} (h : ¬ (1 ≤ s.size ∧ s.size ≤ 32)) : nmS s = false := decide_eq_false fun k => h ⟨k.1, k.2.1⟩
theorem nm_yes {s : ByteArray} (h1 : 1 ≤ s.size) (h2 : s.size ≤ 32) (h : OkTo s s.size) : nmS s = true := decide_eq_true ⟨h1, h2, h⟩
theorem size0 {s : ByteArray} : s.toList = [] ↔ s.size = 0 := by
  have e : s.toList.length = s.size := by rw [ByteArray.toList_eq]; exact Array.length_toList
  constructor
  · intro h; rw [h] at e; exact e.symm
  · intro h; exact List.length_eq_zero_iff.1 (e.trans h)
theorem size0' {s : ByteArray} : s.toList.isEmpty = false ↔ ¬ s.size = 0 := by
  rw [← size0, List.isEmpty_eq_false_iff]
set_option maxHeartbeats 4000000 in
set_option maxRecDepth 1000000 in
theorem valid_w (s : ByteArray) (w : World) :
    Calls Tryz.prog 47 #[.string s] w fun e w' => e = .returned (.bool (nmS s)) ∧ (w' = w ∨ ∃ pos, w' = w.iter s pos) := by
  go_enter Tryz.func47, Tryz.ntmps47
  go_wp2
  · have h : s.toList = [] := by assumption
    rw [nm_bad (by rw [size0] at h; omega)]
    go_ret
    exact ⟨rfl, .inl rfl⟩
  · have h0 : ¬ s.toList = [] := by assumption
    have h : s.toList.isEmpty = true ∨ 32 < (s.size : Int) := by assumption
    rw [nm_bad (by rw [size0] at h0; rcases h with h | h; · rw [List.isEmpty_iff, size0] at h; omega
                   · omega)]
    go_ret
    exact ⟨rfl, .inl rfl⟩
  · have h0 : ¬ s.toList = [] := by assumption
    have h : s.toList.isEmpty = false ∧ (s.size : Int) ≤ 32 := by assumption
    have hs : 1 ≤ s.size ∧ s.size ≤ 32 := by rw [size0] at h0; omega
    go_loopw [3] (fun _ w' => ∃ pos, w' = w.iter s pos ∧ pos ≤ s.size ∧ OkTo s pos) (fun _ w' => s.size - w'.iterPos w.heap.size)
    case atStart => exact ⟨0, rfl, Nat.zero_le _, fun j _ h => absurd h (by omega)⟩
    case round =>
      obtain ⟨pos, rfl, hp, hok⟩ := hrel
      by_cases hlt : pos < s.size
      · have hnx : ∀ ty, (Instr.next (.pointer (some ⟨w.heap.size, 0, none⟩)) true ty).run Tryz.prog (w.iter s pos) = _ := fun ty => run_next_any w s pos ty hlt
        by_cases ha : (s[pos]'hlt).toNat < 128
        · rw [decode_ascii s pos hlt ha] at hnx
          go_wp2
          all_goals first
            | (refine ⟨⟨pos + 1, rfl, by omega, hok.next hlt ?_⟩, by omega⟩
               clear hnx
               unfold okAt
               simp only [Bool.or_eq_true, Bool.and_eq_true, decide_eq_true_eq, beq_iff_eq] at *
               omega)
            | (rw [nm_no hlt (by
                 clear hnx
                 unfold okAt
                 simp only [Bool.or_eq_false_iff, Bool.and_eq_false_iff, decide_eq_false_iff_not, beq_eq_false_iff_ne, ne_eq] at *
                 omega)]
               go_ret
               exact ⟨rfl, .inr ⟨_, rfl⟩⟩)
        · have hh := (decode_high s pos hlt (by omega)).1
          generalize hd : (Utf8.decode s pos).1 = r at *
          go_wp2
          all_goals first
            | (exfalso; simp only [beq_iff_eq] at *; omega)
            | (rw [nm_no hlt (by
                 clear hnx
                 unfold okAt
                 simp only [Bool.or_eq_false_iff, Bool.and_eq_false_iff, decide_eq_false_iff_not]
                 omega)]
               go_ret
               exact ⟨rfl, .inr ⟨_, rfl⟩⟩)
      · have hnx : ∀ ty, (Instr.next (.pointer (some ⟨w.heap.size, 0, none⟩)) true ty).run Tryz.prog (w.iter s pos) = _ := fun ty => run_next_end w s pos ty hlt
        obtain rfl : pos = s.size := by omega
        have hn := nm_yes hs.1 hs.2 hok
        go_wp2
        go_ret
        exact ⟨by rw [hn]; rfl, .inr ⟨_, rfl⟩⟩
end Go.Proofs.YtbfkbabolhhbaaaGreatDoor
namespace Go.Proofs.YtbfkbabolhhbaaaGreatDoor
set_option linter.unusedSimpArgs false
set_option linter.unusedVariables false
open Go.RowKit
set_option maxHeartbeats 4000000 in
set_option maxRecDepth 1000000 in
theorem name_w (s : ByteArray) (w : World) :
    Calls Tryz.prog 133 #[.string s] w fun e w' => e = .returned (.bool (nmS s)) ∧ w' = w := by
  go_enter Tryz.func133, Tryz.ntmps133
  by_cases h0 : s.size = 0
  · have hn : nmS s = false := nm_bad (by omega)
    go_wp2
    go_ret
    exact ⟨by first | (rw [hn]; rfl) | rfl, rfl⟩
  · have h0' : 0 < s.size := by omega
    by_cases h1 : (32 : Int) < s.size
    · have hn : nmS s = false := nm_bad (by omega)
      go_wp2
      go_ret
      exact ⟨by first | (rw [hn]; rfl) | rfl, rfl⟩
    · by_cases h2 : ((s[0]'h0').toNat : Int) < 97
      · have hn : nmS s = false := nm_no h0' (by unfold okAt; simp only [Bool.or_eq_false_iff, Bool.and_eq_false_iff, decide_eq_false_iff_not]; omega)
        go_wp2
        go_ret
        exact ⟨by first | (rw [hn]; rfl) | rfl, rfl⟩
      · by_cases h3 : (122 : Int) < (s[0]'h0').toNat
        · have hn : nmS s = false := nm_no h0' (by unfold okAt; simp only [Bool.or_eq_false_iff, Bool.and_eq_false_iff, decide_eq_false_iff_not]; omega)
          go_wp2
          go_ret
          exact ⟨by first | (rw [hn]; rfl) | rfl, rfl⟩
        · have ho : okAt 0 (s[0]'h0').toNat = true := by unfold okAt; simp only [Bool.or_eq_true, Bool.and_eq_true, decide_eq_true_eq]; omega
          have hb : s.size ≤ 32 := by omega
          go_wp2
          go_loop [3] (fun i => ∃ k : Nat, i = .int .i64 k ∧ 1 ≤ k ∧ k ≤ s.size ∧ OkTo s k) (fun i => s.size - (intOf i).toNat)
          case atStart => exact ⟨1, rfl, by omega, by omega, OkTo.next (fun j _ h => absurd h (by omega)) h0' ho⟩
          case round =>
            obtain ⟨k, rfl, hk1, hk, hok⟩ := hrel
            by_cases hlt : k < s.size
            · go_wp2
              all_goals first
                | (refine ⟨⟨k + 1, by rw [Int.natCast_add]; rfl, by omega, by omega, hok.next hlt ?_⟩, by simp [intOf]; omega⟩
                   unfold okAt
                   simp only [Bool.or_eq_true, Bool.and_eq_true, Bool.or_eq_false_iff, Bool.and_eq_false_iff, decide_eq_true_eq, decide_eq_false_iff_not, beq_iff_eq, bne_iff_ne, bne_eq_false_iff_eq, Bool.not_eq_eq_eq_not, Bool.not_false, Bool.not_true, ne_eq, Bool.not_eq_true, Bool.not_eq_false] at *
                   omega)
                | (have hn : nmS s = false := nm_no hlt (by
                     unfold okAt
                     simp only [Bool.or_eq_true, Bool.and_eq_true, Bool.or_eq_false_iff, Bool.and_eq_false_iff, decide_eq_true_eq, decide_eq_false_iff_not, beq_iff_eq, bne_iff_ne, bne_eq_false_iff_eq, Bool.not_eq_eq_eq_not, Bool.not_false, Bool.not_true, ne_eq, Bool.not_eq_true, Bool.not_eq_false] at *
                     omega)
                   go_ret
                   exact ⟨by first | (rw [hn]; rfl) | rfl, rfl⟩)
            · obtain rfl : k = s.size := by omega
              have hn := nm_yes (by omega) hb hok
              go_wp2
              go_ret
              exact ⟨by first | (rw [hn]; rfl) | rfl, rfl⟩
end Go.Proofs.YtbfkbabolhhbaaaGreatDoor
