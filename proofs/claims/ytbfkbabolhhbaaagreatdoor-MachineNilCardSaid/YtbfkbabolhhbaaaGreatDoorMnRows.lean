/-
  A table of rows of three integers, and what its cells are.
-/
import Derived.Test.YtbfkbabolhhbaaaGreatDoorMnPrim1
import Derived.Lib.LaidTab
namespace Go.Proofs.YtbfkbabolhhbaaaGreatDoor
namespace Ev
variable [Opq]
set_option linter.unusedSectionVars false
def rowD {H : Type} (r : Int × Int × Int) : DataW H := .agg [.lit (.int .i64 r.1), .lit (.int .i64 r.2.1), .lit (.int .i64 r.2.2)]
def rowV (r : Int × Int × Int) : List Value := [.int .i64 r.1, .int .i64 r.2.1, .int .i64 r.2.2]
section
variable {H : Type} {enc : TypeId × Value → H} {P : Program} {w : World} {base : Nat} {sp : Nat → Bool} {held : Bool}
theorem int_eq {ti : TypeId} {cs : List Value} {fuel : Nat} {x : DataW H × List MemPlace} {z : Int} (hi : P.underlying ti = some (.int .i64)) (h : DataW.trod enc P w base sp held fuel ti cs = some x) (hx : x.1 = .lit (.int .i64 z)) : cs = [.int .i64 z] := by
  obtain ⟨n, h1, h2, _⟩ := DataW.trod_int hi h
  rw [h2] at hx
  cases hx
  exact h1
theorem trod_row {e ti : TypeId} {f0 f1 f2 : Field} {cs : List Value} {fuel : Nat} {x : DataW H × List MemPlace} {r : Int × Int × Int} (he : P.underlying e = some (.struct #[f0, f1, f2])) (hi : P.underlying ti = some (.int .i64)) (hci : P.cellsOf ti = 1) (hce : P.cellsOf e = 3)
    (h0 : f0.offset = 0 ∧ f0.type = ti) (h1 : f1.offset = 1 ∧ f1.type = ti) (h2 : f2.offset = 2 ∧ f2.type = ti)
    (h : DataW.trod enc P w base sp held fuel e cs = some x) (hx : x.1 = rowD r) : cs = rowV r := by
  cases fuel with
  | zero => simp [DataW.trod] at h
  | succ fuel =>
    simp only [DataW.trod, he, hce] at h
    split at h
    · rename_i hl
      obtain ⟨xs, hm, rfl⟩ := Option.map_eq_some_iff.1 h
      have hx : xs.map (·.1) = [.lit (.int .i64 r.1), .lit (.int .i64 r.2.1), .lit (.int .i64 r.2.2)] := by
        have : DataW.agg (xs.map (·.1)) = rowD r := hx
        unfold rowD at this
        injection this
      have at' : ∀ (i : Nat) (f : Field) (z : Int), ([f0, f1, f2] : List Field)[i]? = some f → f.offset = i → f.type = ti → (xs.map (·.1))[i]? = some (.lit (.int .i64 z)) → cs[i]? = some (.int .i64 z) := by
        intro i f z hf ho hty hz
        obtain ⟨b, hb, hd⟩ := Lib.mapM_at hm i f hf
        rw [ho, hty, hci] at hd
        have hb1 : b.1 = .lit (.int .i64 z) := by simpa [hb] using hz
        have hc := int_eq hi hd hb1
        have := congrArg (·[0]?) hc
        simpa [List.getElem?_take, List.getElem?_drop] using this
      have a0 := at' 0 f0 r.1 rfl h0.1 h0.2 (by rw [hx]; rfl)
      have a1 := at' 1 f1 r.2.1 rfl h1.1 h1.2 (by rw [hx]; rfl)
      have a2 := at' 2 f2 r.2.2 rfl h2.1 h2.2 (by rw [hx]; rfl)
      obtain _ | ⟨c0, _ | ⟨c1, _ | ⟨c2, _ | _⟩⟩⟩ := cs
      case cons.cons.cons.nil =>
        cases a0
        cases a1
        cases a2
        rfl
      all_goals simp at hl
    · cases h
theorem trod_rows {t e ti : TypeId} {f0 f1 f2 : Field} {n : Nat} {cs : List Value} {fuel : Nat} {p : List MemPlace} {rs : List (Int × Int × Int)} (ht : P.underlying t = some (.array n e)) (he : P.underlying e = some (.struct #[f0, f1, f2])) (hi : P.underlying ti = some (.int .i64)) (hci : P.cellsOf ti = 1) (hce : P.cellsOf e = 3) (hct : P.cellsOf t = n * 3)
    (h0 : f0.offset = 0 ∧ f0.type = ti) (h1 : f1.offset = 1 ∧ f1.type = ti) (h2 : f2.offset = 2 ∧ f2.type = ti)
    (h : DataW.trod enc P w base sp held fuel t cs = some (.agg (rs.map rowD), p)) : cs.length = n * 3 ∧ rs.length = n ∧ ∀ i r, rs[i]? = some r → (cs.drop (i * 3)).take 3 = rowV r := by
  cases fuel with
  | zero => simp [DataW.trod] at h
  | succ fuel =>
    simp only [DataW.trod, ht, hce, hct] at h
    split at h
    · rename_i hl
      obtain ⟨xs, hm, hx⟩ := Option.map_eq_some_iff.1 h
      have hxs : xs.map (·.1) = rs.map rowD := by
        have := congrArg Prod.fst hx
        injection this
      have hxl : xs.length = n := by simpa using Lib.mapM_length hm
      have hrl : rs.length = n := by
        have := congrArg List.length hxs
        simp at this
        omega
      refine ⟨hl, hrl, fun i r hr => ?_⟩
      have hi' : i < n := by rw [← hrl]; exact (List.getElem?_eq_some_iff.1 hr).1
      obtain ⟨b, hb, hd⟩ := Lib.mapM_at hm i i (by simp [hi'])
      refine trod_row he hi hci hce h0 h1 h2 hd ?_
      have : (xs.map (·.1))[i]? = (rs.map (rowD (H := H)))[i]? := by rw [hxs]
      simpa [hb, hr] using this
    · cases h
end
theorem flat_rows : ∀ {rs : List (Int × Int × Int)} {cs : List Value}, cs.length = rs.length * 3 → (∀ i r, rs[i]? = some r → (cs.drop (i * 3)).take 3 = rowV r) → cs = rs.flatMap rowV
  | [], cs, hl, _ => List.eq_nil_of_length_eq_zero (by simpa using hl)
  | r :: rs, cs, hl, h => by
    have a := h 0 r rfl
    have b := flat_rows (rs := rs) (cs := cs.drop 3) (by simp at hl ⊢; omega) fun i r hr => by
      have := h (i + 1) r (by simpa using hr)
      rw [List.drop_drop, show 3 + i * 3 = (i + 1) * 3 by omega]
      exact this
    rw [List.flatMap_cons, ← b, ← a]
    simp
end Ev
end Go.Proofs.YtbfkbabolhhbaaaGreatDoor
