/-
  Small functions on words: what they answer at the word of the empty list.
-/
import Derived.Test.YtgeccgjpiaiifaaGreatDoorMkStage
namespace Go.Proofs.YtgeccgjpiaiifaaGreatDoor
namespace Ev
theorem primOf_run {f : FuncId} {p : Prim} {l : List (Nat × Prim)} {n : Nat} (hp : PrimsOk l) (e : ∀ vs h r, p vs h = some r → callS l n (.fn f) vs h = some r) : PrimOf f p := fun vs h v h' k => (callS_ok hp n).fn f vs h v h' (e vs h (v, h') k)
noncomputable section
/-- The word of the empty list. -/
def w11 : V := .int .u64 11
def is11 {α : Type} (v : V) (r : Option α) : Option α := asInt (fun k n => oif (eqK k .u64) (Int.rec (motive := fun _ => Option α) (fun m => oif (Nat.beq m 11) r) (fun _ => none) n)) v
def nilP (vs : List V) (h : H) : Option (V × H) := caseL vs (some (w11, h)) fun _ _ => none
def fitsP (vs : List V) (h : H) : Option (V × H) := caseL vs none fun x t => caseL t none fun _ t => caseL t none fun _ t => caseL t none fun _ t => caseL t (is11 x (some (.bool false, h))) fun _ _ => none
def keepP (vs : List V) (h : H) : Option (V × H) := caseL vs none fun _ t => caseL t none fun y t => caseL t (is11 y (some (w11, h))) fun _ _ => none
end
theorem is11_ok {α : Type} {v : V} {r : Option α} {x : α} (e : is11 v r = some x) : v = w11 ∧ r = some x := by
  cases v with
  | int k n =>
    have e : oif (eqK k .u64) (Int.rec (motive := fun _ => Option α) (fun m => oif (Nat.beq m 11) r) (fun _ => none) n) = some x := e
    cases n with
    | ofNat m =>
      have e : oif (eqK k .u64) (oif (Nat.beq m 11) r) = some x := e
      cases hk : eqK k .u64 with
      | false => rw [hk] at e; cases e
      | true =>
        rw [hk] at e
        have e : oif (Nat.beq m 11) r = some x := e
        cases hm : Nat.beq m 11 with
        | false => rw [hm] at e; cases e
        | true =>
          rw [hm] at e
          obtain rfl := Nat.eq_of_beq_eq_true hm
          cases k <;> first | exact ⟨rfl, e⟩ | cases hk
    | negSucc m =>
      cases hk : eqK k .u64 with
      | false => rw [hk] at e; cases e
      | true => rw [hk] at e; cases e
  | _ => cases e
theorem nil_ok : PrimOf 33 nilP := primOf_run (n := 3) .nil fun vs h r e => by
  cases vs with
  | nil => cases e; kernel_rfl
  | cons _ _ => cases e
theorem fits_ok : PrimOf 450 fitsP := primOf_run (n := 9) .nil fun vs h r e => by
  obtain _ | ⟨x, _ | ⟨a, _ | ⟨b, _ | ⟨c, _ | _⟩⟩⟩⟩ := vs
  case cons.cons.cons.cons.nil =>
    obtain ⟨rfl, e⟩ := is11_ok (show is11 x (some (V.bool false, h)) = some r from e)
    cases e
    kernel_rfl
  all_goals cases e
theorem keep_ok : PrimOf 452 keepP := primOf_run (n := 9) .nil fun vs h r e => by
  obtain _ | ⟨x, _ | ⟨a, _ | _⟩⟩ := vs
  case cons.cons.nil =>
    obtain ⟨rfl, e⟩ := is11_ok (show is11 a (some (w11, h)) = some r from e)
    cases e
    kernel_rfl
  all_goals cases e
end Ev
end Go.Proofs.YtgeccgjpiaiifaaGreatDoor
