/-
  The contracts of strings.Compare and strings.Contains at this program, in plain words (written by a tool of the kit).
-/
import Derived.Shelf.Small.Strs
import Derived.Shelf.Strings.Search1
import Derived.Shelf.Strings.Search2
import Derived.Shelf.Strings.Search3
import Derived.Test.YtogbcielgfidlaaGreatDoorProg
import Derived.Test.YtogbcielgfidlaaGreatDoorMcStage
namespace Go.Proofs
open Go.Shelf
def Tryz.lays106_ren : Go.Shelf.Ren := ⟨fun | 106 => 277 | 213 => 310 | 265 => 389 | n => n, fun | 9 => 9 | 3 => 3 | n => n, fun | n => n⟩
theorem Tryz.lays106 : Go.Proofs.Lays.n106 Tryz.prog Tryz.lays106_ren := {
  mixed := by kernel_rfl
  f106 := Tryz.func277.trans (congrArg some (by kernel_rfl))
  f213 := Tryz.func310.trans (congrArg some (by kernel_rfl))
  f265 := Tryz.func389.trans (congrArg some (by kernel_rfl))
  t3 := Tryz.underlying3
  a3 := Tryz.isAgg3
  z3 := Tryz.sizeOf3
  v3 := Tryz.zeroValue3
  t9 := Tryz.underlying9
  a9 := Tryz.isAgg9
  z9 := Tryz.sizeOf9
  v9 := Tryz.zeroValue9 }
open Go.RowKit in
/-- strings.Compare. -/
theorem Tryz.strings_Compare (a b : ByteArray) (w : World) :
    Calls Tryz.prog 277 #[.string a, .string b] w fun e w' => e = .returned (.int .i64 (Lib.compareBytes a.data.toList b.data.toList)) ∧ w' = w := Any.strings_Compare Tryz.lays106 a b w
def Tryz.lays144_ren : Go.Shelf.Ren := ⟨fun | 144 => 229 | 143 => 295 | 219 => 374 | 217 => 420 | 225 => 421 | 224 => 422 | 267 => 423 | 266 => 443 | 314 => 444 | n => n, fun | 9 => 9 | 4 => 4 | 3 => 3 | 5 => 5 | 46 => 308 | 146 => 467 | 51 => 411 | n => n, fun | 1 => 2 | n => n⟩
theorem Tryz.lays144 : Go.Proofs.Lays.n144 Tryz.prog Tryz.lays144_ren := {
  mixed := by kernel_rfl
  f143 := Tryz.func295.trans (congrArg some (by kernel_rfl))
  f144 := Tryz.func229.trans (congrArg some (by kernel_rfl))
  f217 := Tryz.func420.trans (congrArg some (by kernel_rfl))
  f219 := Tryz.func374.trans (congrArg some (by kernel_rfl))
  f224 := Tryz.func422.trans (congrArg some (by kernel_rfl))
  f225 := Tryz.func421.trans (congrArg some (by kernel_rfl))
  f266 := Tryz.func443.trans (congrArg some (by kernel_rfl))
  f267 := Tryz.func423.trans (congrArg some (by kernel_rfl))
  f314 := Tryz.func444.trans (congrArg some (by kernel_rfl))
  t3 := Tryz.underlying3
  a3 := Tryz.isAgg3
  z3 := Tryz.sizeOf3
  v3 := Tryz.zeroValue3
  t4 := Tryz.underlying4
  a4 := Tryz.isAgg4
  z4 := Tryz.sizeOf4
  v4 := Tryz.zeroValue4
  t5 := Tryz.underlying5
  a5 := Tryz.isAgg5
  z5 := Tryz.sizeOf5
  v5 := Tryz.zeroValue5
  t9 := Tryz.underlying9
  a9 := Tryz.isAgg9
  z9 := Tryz.sizeOf9
  v9 := Tryz.zeroValue9
  t46 := Tryz.underlying308
  a46 := Tryz.isAgg308
  z46 := Tryz.sizeOf308
  v46 := Tryz.zeroValue308
  t51 := Tryz.underlying411
  a51 := Tryz.isAgg411
  z51 := Tryz.sizeOf411
  v51 := Tryz.zeroValue411
  t146 := Tryz.underlying467
  a146 := Tryz.isAgg467
  z146 := Tryz.sizeOf467
  v146 := Tryz.zeroValue467
  g1 := by kernel_rfl }
open Go.RowKit Go.Lib in
/-- strings.Contains of one byte. -/
theorem Tryz.strings_Contains_one (s : ByteArray) (c : UInt8) (w : World) :
    Calls Tryz.prog 229 #[.string s, .string ⟨#[c]⟩] w fun e w' => e = .returned (.bool (decide (0 ≤ Lib.indexByte s.data.toList c))) ∧ w' = w := Any.strings_Contains_one Tryz.lays144 s c w
end Go.Proofs
namespace Go.Proofs.YtogbcielgfidlaaGreatDoor
set_option linter.unusedVariables false
set_option linter.unusedSimpArgs false
namespace Ev
variable [Opq]
set_option linter.unusedSectionVars false
open Go.Shelf

theorem prim_fn {f : FuncId} {fn : Func} (h1 : Tryz.prog.funcs[f]? = some fn) (h2 : (fn.name == "runtime.NumGoroutine") = false) (h3 : fn.body.isNone = false) {us : List Value} {g : G} {h : H} {w : World} {v : V} {h' : H}
    (c : Calls Tryz.prog f us.toArray w (Post TP g h w v h')) : CallFn Tryz.prog TP f us g h w v h' :=
  ⟨fn, h1, beq_eq_false_iff_ne.1 h2, h3, callsIn_wide.2 c⟩
theorem VR.str_inv {g : G} {n c : Nat} {u : Value} (h : VR g (.str n c) u) : ∃ s : ByteArray, u = .string s ∧ s.data.toList.length = n ∧ natOf s.data.toList = c := by
  cases h
  exact ⟨_, rfl, Array.length_toList, rfl⟩
theorem Calls.post {f : FuncId} {us : Array Value} {w : World} {u : Value} {g : G} {h : H} {v : V} (r : WR TP g h w) (hv : VR g v u) (c : Calls Tryz.prog f us w fun e w' => e = .returned u ∧ w' = w) : Calls Tryz.prog f us w (Post TP g h w v h) :=
  c.mono fun e w' k => ⟨g, u, k.1, hv, by rw [k.2]; exact .refl r⟩
noncomputable section
def hasB (n : Nat) : Nat → Nat → Bool := Nat.rec (motive := fun _ => Nat → Nat → Bool) (fun _ _ => false) (fun _ ih c x => Bool.rec (motive := fun _ => Bool) (ih (Nat.div c 256) x) true (Nat.beq (Nat.mod c 256) x)) n
def containsP (vs : List V) (h : H) : Option (V × H) :=
  caseL vs none fun x t => caseL t none fun y t2 => caseL t2 (asStr (fun n a => asStr (fun m b => oif (Nat.beq m 1) (some (.bool (hasB n a b), h))) y) x) fun _ _ => none
end
theorem hasB_eq (x : Nat) : ∀ l : List UInt8, hasB l.length (natOf l) x = l.any fun b => b.toNat == x
  | [] => rfl
  | b :: l => by
    show (Bool.rec (motive := fun _ => Bool) (hasB l.length (natOf (b :: l) / 256) x) true (Nat.beq (natOf (b :: l) % 256) x) : Bool) = _
    have d1 : natOf (b :: l) % 256 = b.toNat := by have := b.toNat_lt; rw [natOf_cons]; omega
    have d2 : natOf (b :: l) / 256 = natOf l := by have := b.toNat_lt; rw [natOf_cons]; omega
    rw [d1, d2, hasB_eq x l, brec_eq, List.any_cons]
    by_cases e : b.toNat = x
    · simp [e]
    · have : Nat.beq b.toNat x = false := by
        cases q : Nat.beq b.toNat x with
        | false => rfl
        | true => exact absurd (Nat.eq_of_beq_eq_true q) e
      simp [this, e]
theorem indexByte_any (c : UInt8) : ∀ l : List UInt8, decide (0 ≤ Lib.indexByte l c) = l.any fun b => b.toNat == c.toNat
  | [] => rfl
  | b :: l => by
    have ih := indexByte_any c l
    have hge := Lib.indexByte_ge l c
    rw [List.any_cons, ← ih]
    by_cases e : b = c
    · subst e; simp [Lib.indexByte]
    · have e1 : (b == c) = false := by simpa using e
      have e2 : (b.toNat == c.toNat) = false := by simpa using fun k => e (UInt8.toNat_inj.1 k)
      rw [e2, Bool.false_or]
      simp only [Lib.indexByte, e1]
      by_cases k : Lib.indexByte l c = -1
      · simp [k]
      · have k2 : (Lib.indexByte l c == -1) = false := by simpa using k
        simp only [k2]
        congr 1
        simp
        omega
theorem contains_ok : PrimOf 229 containsP := by
  intro vs h v h' e g w us r hG hv
  cases hv with
  | nil => cases e
  | cons h1 t1 =>
    cases t1 with
    | nil => cases e
    | cons h2 t2 =>
      cases t2 with
      | cons _ _ => cases e
      | nil =>
        rename_i x u1 y u2
        cases x <;> first | (cases e; done) | skip
        rename_i n a
        cases y <;> first | (cases e; done) | skip
        rename_i m b
        obtain ⟨e1, e2⟩ := oif_some.1 (show oif (Nat.beq m 1) (some (V.bool (hasB n a b), h)) = some (v, h') from e)
        cases e2
        obtain ⟨s, rfl, rfl, rfl⟩ := VR.str_inv h1
        obtain ⟨q, rfl, k1, rfl⟩ := VR.str_inv h2
        have k2 : q.data.toList.length = 1 := k1.trans (by simpa using e1)
        obtain ⟨c, hc⟩ := List.length_eq_one_iff.1 k2
        have hq : q = ⟨#[c]⟩ := by
          cases q with
          | mk d =>
            have : d = #[c] := Array.toList_inj.1 hc
            rw [this]
        have key := indexByte_any c s.data.toList
        have hb : hasB s.data.toList.length (natOf s.data.toList) (natOf q.data.toList) = decide (0 ≤ Lib.indexByte s.data.toList c) := by
          rw [hasB_eq, key, hc]
          simp [natOf_cons, natOf_nil]
        refine prim_fn Tryz.func229 (by decide) rfl ?_
        rw [hb, hq]
        exact Calls.post r (.bool _) (Tryz.strings_Contains_one s c w)

/- strings.Compare. -/
noncomputable section
def cmpS (n a m b : Nat) : Int := Bool.rec (motive := fun _ => Int) (Bool.rec (motive := fun _ => Int) 1 (-1) (strLt (Nat.succ (Nat.add n m)) n a m b)) 0 (strEq n a m b)
def compareP (vs : List V) (h : H) : Option (V × H) :=
  caseL vs none fun x t => caseL t none fun y t2 => caseL t2 (asStr (fun n a => asStr (fun m b => some (.int .i64 (cmpS n a m b), h)) y) x) fun _ _ => none
end
theorem compare_list : ∀ a b : List UInt8, Lib.compareBytes a b = if (a == b) = true then 0 else if Op.bytesLess a b = true then -1 else 1
  | [], [] => rfl
  | [], _ :: _ => rfl
  | _ :: _, [] => rfl
  | x :: a, y :: b => by
    have ih := compare_list a b
    unfold Lib.compareBytes
    by_cases hxy : x = y
    · subst hxy
      have hlt : ¬ x < x := UInt8.lt_irrefl x
      rw [if_neg hlt, if_neg hlt, ih]
      have e1 : (x :: a == x :: b) = (a == b) := by simp
      rw [e1]
      congr 1
      simp [Op.bytesLess]
    · have e1 : (x :: a == y :: b) = false := by simp [hxy]
      have e2 : (x == y) = false := by simpa using hxy
      rw [e1]
      have e3 : Op.bytesLess (x :: a) (y :: b) = decide (x < y) := by simp [Op.bytesLess, e2]
      rw [e3]
      by_cases hlt : x < y
      · simp [hlt]
      · have : y < x := UInt8.lt_of_le_of_ne (UInt8.not_lt.1 hlt) (Ne.symm hxy)
        simp [hlt, this]
theorem cmpS_eq (a b : List UInt8) : cmpS a.length (natOf a) b.length (natOf b) = Lib.compareBytes a b := by
  unfold cmpS
  rw [strEq_eq, nadd, strLt_eq _ _ _ (Nat.lt_succ_self _), compare_list]
  cases (a == b) <;> cases Op.bytesLess a b <;> rfl
theorem compare_ok : PrimOf 277 compareP := by
  intro vs h v h' e g w us r hG hv
  cases hv with
  | nil => cases e
  | cons h1 t1 =>
    cases t1 with
    | nil => cases e
    | cons h2 t2 =>
      cases t2 with
      | cons _ _ => cases e
      | nil =>
        rename_i x u1 y u2
        cases x <;> first | (cases e; done) | skip
        rename_i n a
        cases y <;> first | (cases e; done) | skip
        rename_i m b
        cases e
        obtain ⟨s, rfl, rfl, rfl⟩ := VR.str_inv h1
        obtain ⟨q, rfl, rfl, rfl⟩ := VR.str_inv h2
        refine prim_fn Tryz.func277 (by decide) rfl ?_
        rw [cmpS_eq]
        exact Calls.post r (.int _ _) (Tryz.strings_Compare s q w)
end Ev
end Go.Proofs.YtogbcielgfidlaaGreatDoor
