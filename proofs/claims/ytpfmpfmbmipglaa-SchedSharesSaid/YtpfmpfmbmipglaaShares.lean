/-
  SchedShares: as long as normal and low processes wait and are put again when they are picked, seven normal picks come between two low ones.
-/
import Derived.Test.YtpfmpfmbmipglaaFilled
namespace Go.Proofs.Ytpfmpfmbmipglaa.schedShares
open Go.RowKit Go.Proofs.Ytpfmpfmbmipglaa

def nums (b : Int) (n : Nat) : List Int := (List.range n).map fun (i : Nat) => b + (i : Int)
def start (n m : Nat) : St := ⟨[], nums 0 n, nums 100 m, 0⟩
def again (s : St) : St := s.pick.put s.pickId (if 100 ≤ s.pickId then 3 else 2)
def turned (n m : Nat) : Nat → St
  | 0 => start n m
  | k + 1 => again (turned n m k)
def want (n m k : Nat) : Int := if k % 8 = 7 then 100 + ((k / 8 % m : Nat) : Int) else (((k / 8 * 7 + k % 8) % n : Nat) : Int)

/-- One turn is as it should be. -/
def good (s : St) (n m k : Nat) : Bool := decide (s.size = n + m) && decide (s.pickId = want n m k) && decide (s.pick.putErr s.pickId (if 100 ≤ s.pickId then 3 else 2) = 0)
def goods (n m : Nat) : Nat → Nat → St → Bool
  | 0, _, _ => true
  | f + 1, k, s => good s n m k && goods n m f (k + 1) (again s)

theorem all_good : (List.range 9).all (fun n => (List.range 9).all fun m => goods (n + 1) (m + 1) 40 0 (start (n + 1) (m + 1))) = true := by decide +kernel

theorem goods_at {n m : Nat} : ∀ {f k : Nat} {s : St}, goods n m f k s = true → ∀ j, j < f → good (Nat.rec s (fun _ t => again t) j) n m (k + j) = true
  | 0, _, _, _, j, hj => by omega
  | f + 1, k, s, h, j, hj => by
    simp only [goods, Bool.and_eq_true] at h
    cases j with
    | zero => exact h.1
    | succ j =>
      have := goods_at h.2 j (by omega)
      have e : ∀ j, (Nat.rec (again s) (fun _ t => again t) j : St) = Nat.rec s (fun _ t => again t) (j + 1) := by
        intro j
        induction j with
        | zero => rfl
        | succ j ih => exact congrArg again ih
      rw [e j, show k + 1 + j = k + (j + 1) by omega] at this
      exact this

theorem turned_rec (n m k : Nat) : turned n m k = Nat.rec (start n m) (fun _ t => again t) k := by
  induction k with
  | zero => rfl
  | succ k ih => exact congrArg again ih

theorem good_turn (n m k : Nat) (hn : 1 ≤ n ∧ n ≤ 9) (hm : 1 ≤ m ∧ m ≤ 9) (hk : k < 40) : (turned n m k).size = n + m ∧ (turned n m k).pickId = want n m k ∧ (turned n m k).pick.putErr (want n m k) (if 100 ≤ want n m k then 3 else 2) = 0 := by
  have h := all_good
  rw [List.all_eq_true] at h
  have h1 := h (n - 1) (by simp; omega)
  rw [List.all_eq_true] at h1
  have h2 := h1 (m - 1) (by simp; omega)
  rw [show n - 1 + 1 = n by omega, show m - 1 + 1 = m by omega] at h2
  have h3 := goods_at h2 k hk
  rw [← turned_rec, Nat.zero_add] at h3
  simp only [good, Bool.and_eq_true, decide_eq_true_eq] at h3
  obtain ⟨⟨a, b⟩, c⟩ := h3
  rw [b] at c
  exact ⟨a, b, c⟩

theorem nums_succ (b : Int) (k : Nat) : nums b (k + 1) = nums b k ++ [b + k] := by simp [nums, List.range_succ]

theorem put_norm (k : Nat) : (St.mk [] (nums 0 k) [] 0).put k 2 = ⟨[], nums 0 (k + 1), [], 0⟩ := by
  have h : ¬ (k : Int) ∈ (St.mk [] (nums 0 k) [] 0).ids := by simp [St.ids, nums]; intro x hx; omega
  have hb : ¬ bad (k : Int) 2 := by unfold bad; omega
  unfold St.put
  rw [if_neg hb, if_neg h]
  simp [St.set, St.line, nums_succ]
theorem put_low (n k : Nat) (hn : n ≤ 9) : (St.mk [] (nums 0 n) (nums 100 k) 0).put (100 + k) 3 = ⟨[], nums 0 n, nums 100 (k + 1), 0⟩ := by
  have h : ¬ (100 + (k : Int)) ∈ (St.mk [] (nums 0 n) (nums 100 k) 0).ids := by simp [St.ids, nums]; exact ⟨fun x hx => by omega, fun x hx => by omega⟩
  have hb : ¬ bad (100 + (k : Int)) 3 := by unfold bad; omega
  unfold St.put
  rw [if_neg hb, if_neg h]
  simp [St.set, St.line, nums_succ]
theorem nums_len (b : Int) (n : Nat) : (nums b n).length = n := by simp [nums]
end Go.Proofs.Ytpfmpfmbmipglaa.schedShares
