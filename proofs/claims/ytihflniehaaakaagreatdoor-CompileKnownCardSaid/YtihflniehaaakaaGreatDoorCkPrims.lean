/-
  strings.Contains of one byte, maps.Clone and compile.finisher.assign, by their contracts.
-/
import Derived.Test.YtihflniehaaakaaGreatDoorCkAsg3
namespace Go.Proofs.YtihflniehaaakaaGreatDoor
set_option linter.unusedVariables false
set_option linter.unusedSimpArgs false
namespace Ev
variable [Opq]
set_option linter.unusedSectionVars false
open Go.Shelf

theorem prim_fn {f : FuncId} {fn : Func} (h1 : Tryz.prog.funcs[f]? = some fn) (h2 : (fn.name == "runtime.NumGoroutine") = false) (h3 : fn.body.isNone = false) {us : List Value} {g : G} {h : H} {w : World} {v : V} {h' : H}
    (c : Calls Tryz.prog f us.toArray w (Post TP g h w v h')) : CallFn Tryz.prog TP f us g h w v h' :=
  ⟨fn, h1, beq_eq_false_iff_ne.1 h2, h3, callsIn_wide.2 c⟩
theorem VR.str_inv {g : G} {n c : Nat} {u : Value} (h : VR g (.str n c) u) : ∃ s : ByteArray, u = .string s ∧ s.data.toList.length = n ∧ natOf s.data.toList = c := by
  cases h
  exact ⟨_, rfl, Array.length_toList, rfl⟩
theorem Calls.post {f : FuncId} {us : Array Value} {w : World} {u : Value} {g : G} {h : H} {v : V} (r : WR TP g h w) (hv : VR g v u) (c : Calls Tryz.prog f us w fun e w' => e = .returned u ∧ w' = w) : Calls Tryz.prog f us w (Post TP g h w v h) :=
  c.mono fun e w' k => ⟨g, u, k.1, hv, by rw [k.2]; exact .refl r⟩
theorem hasB_eq (x : Nat) : ∀ l : List UInt8, hasB l.length (natOf l) x = l.any fun b => b.toNat == x
  | [] => rfl
  | b :: l => by
    show (Bool.rec (motive := fun _ => Bool) (hasB l.length (natOf (b :: l) / 256) x) true (Nat.beq (natOf (b :: l) % 256) x) : Bool) = _
    have d1 : natOf (b :: l) % 256 = b.toNat := by have := b.toNat_lt; rw [natOf_cons]; omega
    have d2 : natOf (b :: l) / 256 = natOf l := by have := b.toNat_lt; rw [natOf_cons]; omega
    rw [d1, d2, hasB_eq x l, brec_eq, List.any_cons]
    by_cases e : b.toNat = x
    · simp [e]
    · have : Nat.beq b.toNat x = false := by
        cases q : Nat.beq b.toNat x with
        | false => rfl
        | true => exact absurd (Nat.eq_of_beq_eq_true q) e
      simp [this, e]
theorem indexByte_any (c : UInt8) : ∀ l : List UInt8, decide (0 ≤ Lib.indexByte l c) = l.any fun b => b.toNat == c.toNat
  | [] => rfl
  | b :: l => by
    have ih := indexByte_any c l
    have hge := Lib.indexByte_ge l c
    rw [List.any_cons, ← ih]
    by_cases e : b = c
    · subst e; simp [Lib.indexByte]
    · have e1 : (b == c) = false := by simpa using e
      have e2 : (b.toNat == c.toNat) = false := by simpa using fun k => e (UInt8.toNat_inj.1 k)
      rw [e2, Bool.false_or]
      simp only [Lib.indexByte, e1]
      by_cases k : Lib.indexByte l c = -1
      · simp [k]
      · have k2 : (Lib.indexByte l c == -1) = false := by simpa using k
        simp only [k2]
        congr 1
        simp
        omega
theorem contains_ok : PrimOf 258 containsP := by
  intro vs h v h' e g w us r hG hv
  cases hv with
  | nil => cases e
  | cons h1 t1 =>
    cases t1 with
    | nil => cases e
    | cons h2 t2 =>
      cases t2 with
      | cons _ _ => cases e
      | nil =>
        rename_i x u1 y u2
        cases x <;> first | (cases e; done) | skip
        rename_i n a
        cases y <;> first | (cases e; done) | skip
        rename_i m b
        obtain ⟨e1, e2⟩ := oif_some.1 (show oif (Nat.beq m 1) (some (V.bool (hasB n a b), h)) = some (v, h') from e)
        cases e2
        obtain ⟨s, rfl, rfl, rfl⟩ := VR.str_inv h1
        obtain ⟨q, rfl, k1, rfl⟩ := VR.str_inv h2
        have k2 : q.data.toList.length = 1 := k1.trans (by simpa using e1)
        obtain ⟨c, hc⟩ := List.length_eq_one_iff.1 k2
        have hq : q = ⟨#[c]⟩ := by
          cases q with
          | mk d =>
            have : d = #[c] := Array.toList_inj.1 hc
            rw [this]
        have key := indexByte_any c s.data.toList
        have hb : hasB s.data.toList.length (natOf s.data.toList) (natOf q.data.toList) = decide (0 ≤ Lib.indexByte s.data.toList c) := by
          rw [hasB_eq, key, hc]
          simp [natOf_cons, natOf_nil]
        refine prim_fn Tryz.func258 (by decide) rfl ?_
        rw [hb, hq]
        exact Calls.post r (.bool _) (Tryz.strings_Contains_one s c w)

theorem clone_ok : PrimOf 386 cloneP := by
  intro vs h v h' e g w us r hG hv
  cases hv with
  | nil => cases e
  | cons h1 t1 =>
    cases t1 with
    | cons _ _ => cases e
    | nil =>
      rename_i x u1
      cases x <;> first | (cases e; done) | skip
      rename_i id
      obtain ⟨es, e1, e2⟩ := ob_some.1 (show ob (h.entries id) (fun es => ob (h.new (.map es (h.ord id))) fun h' => some (V.map h.next, h')) = some (v, h') from e)
      obtain ⟨h2, e3, e4⟩ := ob_some.1 e2
      cases e4
      obtain ⟨o, k1, k2⟩ := H.entries_some e1
      cases h1
      rename_i b o' z hg
      obtain ⟨b', o2, z', m, c, q1, q2, q3, q4⟩ := r.blk id _ _ hg k1
      rw [hg] at q1
      cases q1
      have hnew := heap_alloc_new w (.map m c)
      have hnone : g h.next = none := by
        cases q : g h.next with
        | none => rfl
        | some y => exact absurd (r.dom _ _ q) (by omega)
      have x := Ext.new (z := 0) r (o := .map m c) e3 (.inl rfl) ⟨w.heap.size, 0, 0, m, c, gput_same _ _ _, hnew, q3.mono (gput_le _ hnone), by rw [k2]; exact q4⟩
      refine prim_fn Tryz.func386 (by decide) rfl ?_
      refine (AnyW.maps_Clone Tryz.cloneM b m c w q2).mono ?_
      rintro e w' ⟨rfl, rfl⟩
      exact ⟨_, _, rfl, .map (gput_same _ _ _), x⟩

theorem prC_ok : PrimsOk prC := .cons rfl contains_ok <| .cons rfl clone_ok <| .cons rfl assign_ok <| .nil
end Ev
end Go.Proofs.YtihflniehaaakaaGreatDoor
