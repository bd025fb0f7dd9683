/-
  The operations once more, made for the kernel: no great matches, what follows is handed on.
-/
import Derived.Test.YtbfkbabolhhbaaaGreatDoorEvNum
namespace Go.Proofs.YtbfkbabolhhbaaaGreatDoor
namespace Ev
noncomputable section

/- One kind of value. -/
def asInt {α : Type} (c : IntKind → Int → Option α) (v : V) : Option α :=
  V.rec (motive_1 := fun _ => Option α) (motive_2 := fun _ => Unit) (fun _ => none) c (fun _ _ => none) none (fun _ _ => none) none (fun _ _ _ _ _ _ => none) none (fun _ => none) (fun _ _ _ _ _ => none) (fun _ => none) none (fun _ _ _ => none) none (fun _ _ => none) (fun _ _ => none) () (fun _ _ _ _ => ()) v
def asBool {α : Type} (c : Bool → Option α) (v : V) : Option α :=
  V.rec (motive_1 := fun _ => Option α) (motive_2 := fun _ => Unit) c (fun _ _ => none) (fun _ _ => none) none (fun _ _ => none) none (fun _ _ _ _ _ _ => none) none (fun _ => none) (fun _ _ _ _ _ => none) (fun _ => none) none (fun _ _ _ => none) none (fun _ _ => none) (fun _ _ => none) () (fun _ _ _ _ => ()) v
def asStr {α : Type} (c : Nat → Nat → Option α) (v : V) : Option α :=
  V.rec (motive_1 := fun _ => Option α) (motive_2 := fun _ => Unit) (fun _ => none) (fun _ _ => none) c none (fun _ _ => none) none (fun _ _ _ _ _ _ => none) none (fun _ => none) (fun _ _ _ _ _ => none) (fun _ => none) none (fun _ _ _ => none) none (fun _ _ => none) (fun _ _ => none) () (fun _ _ _ _ => ()) v
def asPtr {α : Type} (c : Nat → Nat → Option α) (v : V) : Option α :=
  V.rec (motive_1 := fun _ => Option α) (motive_2 := fun _ => Unit) (fun _ => none) (fun _ _ => none) (fun _ _ => none) none c none (fun _ _ _ _ _ _ => none) none (fun _ => none) (fun _ _ _ _ _ => none) (fun _ => none) none (fun _ _ _ => none) none (fun _ _ => none) (fun _ _ => none) () (fun _ _ _ _ => ()) v
def asSl {α : Type} (n : Option α) (c : Nat → Nat → Nat → Nat → Bool → Nat → Option α) (v : V) : Option α :=
  V.rec (motive_1 := fun _ => Option α) (motive_2 := fun _ => Unit) (fun _ => none) (fun _ _ => none) (fun _ _ => none) none (fun _ _ => none) n c none (fun _ => none) (fun _ _ _ _ _ => none) (fun _ => none) none (fun _ _ _ => none) none (fun _ _ => none) (fun _ _ => none) () (fun _ _ _ _ => ()) v
def asSlF {α : Type} (n : Option α) (c : Nat → Nat → Nat → Nat → Bool → Nat → Option α) (f : Fn → List V → Option α) (v : V) : Option α :=
  V.rec (motive_1 := fun _ => Option α) (motive_2 := fun _ => Unit) (fun _ => none) (fun _ _ => none) (fun _ _ => none) none (fun _ _ => none) n c none (fun _ => none) (fun g a _ _ _ => f g a) (fun _ => none) none (fun _ _ _ => none) none (fun _ _ => none) (fun _ _ => none) () (fun _ _ _ _ => ()) v
def asMap {α : Type} (n : Option α) (c : Nat → Option α) (v : V) : Option α :=
  V.rec (motive_1 := fun _ => Option α) (motive_2 := fun _ => Unit) (fun _ => none) (fun _ _ => none) (fun _ _ => none) none (fun _ _ => none) none (fun _ _ _ _ _ _ => none) n c (fun _ _ _ _ _ => none) (fun _ => none) none (fun _ _ _ => none) none (fun _ _ => none) (fun _ _ => none) () (fun _ _ _ _ => ()) v
def asAgg {α : Type} (c : List V → Option α) (v : V) : Option α :=
  V.rec (motive_1 := fun _ => Option α) (motive_2 := fun _ => Unit) (fun _ => none) (fun _ _ => none) (fun _ _ => none) none (fun _ _ => none) none (fun _ _ _ _ _ _ => none) none (fun _ => none) (fun _ _ _ _ _ => none) (fun _ => none) none (fun _ _ _ => none) none (fun cs _ => c cs) (fun _ _ => none) () (fun _ _ _ _ => ()) v
def asTup {α : Type} (c : List V → Option α) (v : V) : Option α :=
  V.rec (motive_1 := fun _ => Option α) (motive_2 := fun _ => Unit) (fun _ => none) (fun _ _ => none) (fun _ _ => none) none (fun _ _ => none) none (fun _ _ _ _ _ _ => none) none (fun _ => none) (fun _ _ _ _ _ => none) (fun _ => none) none (fun _ _ _ => none) none (fun _ _ => none) (fun cs _ => c cs) () (fun _ _ _ _ => ()) v
def asIntStr {α : Type} (c : IntKind → Int → Option α) (s : Nat → Nat → Option α) (v : V) : Option α :=
  V.rec (motive_1 := fun _ => Option α) (motive_2 := fun _ => Unit) (fun _ => none) c s none (fun _ _ => none) none (fun _ _ _ _ _ _ => none) none (fun _ => none) (fun _ _ _ _ _ => none) (fun _ => none) none (fun _ _ _ => none) none (fun _ _ => none) (fun _ _ => none) () (fun _ _ _ _ => ()) v
def asIntStrF {α : Type} (c : IntKind → Int → Option α) (s : Nat → Nat → Option α) (f : Fn → List V → Option α) (v : V) : Option α :=
  V.rec (motive_1 := fun _ => Option α) (motive_2 := fun _ => Unit) (fun _ => none) c s none (fun _ _ => none) none (fun _ _ _ _ _ _ => none) none (fun _ => none) (fun g a _ _ _ => f g a) (fun _ => none) none (fun _ _ _ => none) none (fun _ _ => none) (fun _ _ => none) () (fun _ _ _ _ => ()) v
def yieldQ {α : Type} (r : Option α) (f : Fn) : Option α := match f with
  | .yield _ => r
  | _ => none
def cellsQ (v : V) : List V :=
  V.rec (motive_1 := fun _ => V → List V) (motive_2 := fun _ => Unit) (fun _ v => [v]) (fun _ _ v => [v]) (fun _ _ v => [v]) (fun v => [v]) (fun _ _ v => [v]) (fun v => [v]) (fun _ _ _ _ _ _ v => [v]) (fun v => [v]) (fun _ v => [v]) (fun _ _ _ _ _ v => [v]) (fun _ v => [v]) (fun v => [v]) (fun _ _ _ v => [v]) (fun v => [v]) (fun cs _ _ => cs) (fun _ _ v => [v]) () (fun _ _ _ _ => ()) v v
def oneQ (v : V) : Bool :=
  V.rec (motive_1 := fun _ => Bool) (motive_2 := fun _ => Unit) (fun _ => true) (fun _ _ => true) (fun _ _ => true) true (fun _ _ => true) true (fun _ _ _ _ _ _ => true) true (fun _ => true) (fun _ _ _ _ _ => true) (fun _ => true) true (fun _ _ _ => true) true (fun _ _ => false) (fun _ _ => false) () (fun _ _ _ _ => ()) v
theorem asInt_eq {α : Type} (c : IntKind → Int → Option α) (v : V) : asInt c v = match v with | .int k n => c k n | _ => none := by cases v <;> rfl
theorem asBool_eq {α : Type} (c : Bool → Option α) (v : V) : asBool c v = match v with | .bool b => c b | _ => none := by cases v <;> rfl
theorem asStr_eq {α : Type} (c : Nat → Nat → Option α) (v : V) : asStr c v = match v with | .str a b => c a b | _ => none := by cases v <;> rfl
theorem asPtr_eq {α : Type} (c : Nat → Nat → Option α) (v : V) : asPtr c v = match v with | .ptr a b => c a b | _ => none := by cases v <;> rfl
theorem asSl_eq {α : Type} (n : Option α) (c : Nat → Nat → Nat → Nat → Bool → Nat → Option α) (v : V) : asSl n c v = match v with | .nils => n | .sl a b d e f g => c a b d e f g | _ => none := by cases v <;> rfl
theorem asMap_eq {α : Type} (n : Option α) (c : Nat → Option α) (v : V) : asMap n c v = match v with | .nilm => n | .map a => c a | _ => none := by cases v <;> rfl
theorem asAgg_eq {α : Type} (c : List V → Option α) (v : V) : asAgg c v = match v with | .agg a => c a | _ => none := by cases v <;> rfl
theorem asTup_eq {α : Type} (c : List V → Option α) (v : V) : asTup c v = match v with | .tup a => c a | _ => none := by cases v <;> rfl
theorem asIntStr_eq {α : Type} (c : IntKind → Int → Option α) (s : Nat → Nat → Option α) (v : V) : asIntStr c s v = match v with | .int k n => c k n | .str a b => s a b | _ => none := by cases v <;> rfl
theorem cellsQ_eq (v : V) : cellsQ v = cellsOf v := by cases v <;> rfl
theorem oneQ_eq (v : V) : oneQ v = oneCell v := by cases v <;> rfl

/- Numbers. -/
def is0 : IntKind → Bool := IntKind.rec (motive := fun _ => Bool) true false false false false false false false
def is1 : IntKind → Bool := IntKind.rec (motive := fun _ => Bool) false true false false false false false false
def is2 : IntKind → Bool := IntKind.rec (motive := fun _ => Bool) false false true false false false false false
def is3 : IntKind → Bool := IntKind.rec (motive := fun _ => Bool) false false false true false false false false
def is4 : IntKind → Bool := IntKind.rec (motive := fun _ => Bool) false false false false true false false false
def is5 : IntKind → Bool := IntKind.rec (motive := fun _ => Bool) false false false false false true false false
def is6 : IntKind → Bool := IntKind.rec (motive := fun _ => Bool) false false false false false false true false
def is7 : IntKind → Bool := IntKind.rec (motive := fun _ => Bool) false false false false false false false true
def eqKQ (j : IntKind) : IntKind → Bool := IntKind.rec (motive := fun _ => IntKind → Bool) is0 is1 is2 is3 is4 is5 is6 is7 j
theorem eqKQ_eq (j k : IntKind) : eqKQ j k = eqK j k := by cases j <;> cases k <;> rfl
def wrap8 : Int → Int := wrapF .i8
def wrap16 : Int → Int := wrapF .i16
def wrap32 : Int → Int := wrapF .i32
def wrap64 (n : Int) : Int := Int.rec (motive := fun _ => Int) (fun m => Bool.rec (motive := fun _ => Int) (wrapF .i64 (Int.ofNat m)) (Int.ofNat m) (Nat.blt m 9223372036854775808)) (fun m => Bool.rec (motive := fun _ => Int) (wrapF .i64 (Int.negSucc m)) (Int.negSucc m) (Nat.blt m 9223372036854775808)) n
theorem wrap64_eq (n : Int) : wrap64 n = wrapF .i64 n := by
  cases n with
  | ofNat m =>
    show Bool.rec (motive := fun _ => Int) (wrapF .i64 (Int.ofNat m)) (Int.ofNat m) (Nat.blt m 9223372036854775808) = _
    rw [brec_eq]
    split
    · rename_i h
      have h : m < 9223372036854775808 := by simpa using h
      rw [wrapF_eq, Int.ofNat_eq_natCast]
      unfold IntKind.wrap
      have e1 : (2 : Int) ^ (IntKind.i64).bits = 18446744073709551616 := by decide
      have e2 : (2 : Int) ^ ((IntKind.i64).bits - 1) = 9223372036854775808 := by decide
      have e3 : IntKind.i64.signed = true := rfl
      simp only [e1, e2, e3, Bool.true_and, ge_iff_le, decide_eq_true_eq]
      split <;> omega
    · rfl
  | negSucc m =>
    show Bool.rec (motive := fun _ => Int) (wrapF .i64 (Int.negSucc m)) (Int.negSucc m) (Nat.blt m 9223372036854775808) = _
    rw [brec_eq]
    split
    · rename_i h
      have h : m < 9223372036854775808 := by simpa using h
      rw [wrapF_eq, Int.negSucc_eq]
      unfold IntKind.wrap
      have e1 : (2 : Int) ^ (IntKind.i64).bits = 18446744073709551616 := by decide
      have e2 : (2 : Int) ^ ((IntKind.i64).bits - 1) = 9223372036854775808 := by decide
      have e3 : IntKind.i64.signed = true := rfl
      simp only [e1, e2, e3, Bool.true_and, ge_iff_le, decide_eq_true_eq]
      split <;> omega
    · rfl
def wrapU8 : Int → Int := wrapF .u8
def wrapU16 : Int → Int := wrapF .u16
def wrapU32 : Int → Int := wrapF .u32
def wrapU64 : Int → Int := wrapF .u64
def wrapQ (k : IntKind) : Int → Int := IntKind.rec (motive := fun _ => Int → Int) wrap8 wrap16 wrap32 wrap64 wrapU8 wrapU16 wrapU32 wrapU64 k
theorem wrapQ_eq (k : IntKind) (n : Int) : wrapQ k n = wrapF k n := by
  cases k <;> first | rfl | exact wrap64_eq n
def same {α : Type} (k j : IntKind) (r : Option α) : Option α := Bool.rec (motive := fun _ => Option α) none r (eqKQ k j)
theorem same_eq {α : Type} (k j : IntKind) (r : Option α) : same k j r = oif (eqK k j) r := by
  unfold same oif
  rw [eqKQ_eq]
/-- What two numbers come to. -/
abbrev Bi (α : Type) := IntKind → Int → IntKind → Int → (V → Option α) → Option α
def biAdd {α : Type} : Bi α := fun k a j b c => same k j (c (.int k (wrapQ k (Int.add a b))))
def biSub {α : Type} : Bi α := fun k a j b c => same k j (c (.int k (wrapQ k (Int.sub a b))))
def biMul {α : Type} : Bi α := fun k a j b c => same k j (c (.int k (wrapQ k (Int.mul a b))))
def biEql {α : Type} : Bi α := fun k a j b c => same k j (c (.bool (eqI a b)))
def biNeq {α : Type} : Bi α := fun k a j b c => same k j (c (.bool (!eqI a b)))
def biLss {α : Type} : Bi α := fun k a j b c => same k j (c (.bool (ltI a b)))
def biLeq {α : Type} : Bi α := fun k a j b c => same k j (c (.bool (!ltI b a)))
def biGtr {α : Type} : Bi α := fun k a j b c => same k j (c (.bool (ltI b a)))
def biGeq {α : Type} : Bi α := fun k a j b c => same k j (c (.bool (!ltI a b)))
def biGen {α : Type} (op : BinOp) : Bi α := fun k a j b c => same k j (ob (binI op k a b) c)
def biShl {α : Type} : Bi α := fun k a _ b c => ob (shiftI .shl k a b) c
def biShr {α : Type} : Bi α := fun k a _ b c => ob (shiftI .shr k a b) c
def biQ {α : Type} (op : BinOp) : Bi α :=
  BinOp.rec (motive := fun _ => Bi α) biAdd biSub biMul (biGen .quo) (biGen .rem) (biGen .and) (biGen .or) (biGen .xor) biShl biShr (biGen .andNot) biEql biNeq biLss biLeq biGtr biGeq op
/-- What two strings come to. -/
abbrev Bs (α : Type) := Nat → Nat → Nat → Nat → (V → Option α) → Option α
def bsEql {α : Type} : Bs α := fun n a m b c => c (.bool (strEq n a m b))
def bsNeq {α : Type} : Bs α := fun n a m b c => c (.bool (!strEq n a m b))
def bsGen {α : Type} (op : BinOp) : Bs α := fun n a m b c => ob (binS op n a m b) c
def bsQ {α : Type} (op : BinOp) : Bs α :=
  BinOp.rec (motive := fun _ => Bs α) (bsGen .add) (bsGen .sub) (bsGen .mul) (bsGen .quo) (bsGen .rem) (bsGen .and) (bsGen .or) (bsGen .xor) (bsGen .shl) (bsGen .shr) (bsGen .andNot) bsEql bsNeq (bsGen .lss) (bsGen .leq) (bsGen .gtr) (bsGen .geq) op
def binK {α : Type} (op : BinOp) (x y : V) (c : V → Option α) : Option α :=
  asIntStrF (fun k a => asInt (fun j b => biQ op k a j b c) y) (fun n a => asStr (fun m b => bsQ op n a m b c) y) (fun g a => yieldQ (ob (binF op a y) c) g) x
theorem ob_oif {α β : Type} (b : Bool) (x : Option α) (k : α → Option β) : ob (oif b x) k = oif b (ob x k) := by cases b <;> rfl
theorem binK_eq {α : Type} (op : BinOp) (x y : V) (c : V → Option α) : binK op x y c = ob (bin op x y) c := by
  unfold binK
  cases x with
  | int k a =>
    show asInt _ y = _
    rw [asInt_eq]
    cases y with
    | int j b =>
      cases op <;> first
        | (show same k j _ = _; rw [same_eq]; show _ = ob (oif (eqK k j) _) c; rw [ob_oif]; simp only [wrapQ_eq]; rfl)
        | (show same k j _ = _; rw [same_eq]; show _ = ob (oif (eqK k j) _) c; rw [ob_oif]; done)
        | (show same k j _ = _; rw [same_eq]; show _ = ob (oif (eqK k j) _) c; rw [ob_oif]; rfl)
        | rfl
    | _ => rfl
  | str n a =>
    show asStr _ y = _
    rw [asStr_eq]
    cases y with
    | str m b => cases op <;> rfl
    | _ => rfl
  | func f a b => cases f <;> first | rfl | (cases y <;> rfl)
  | _ => rfl
end
end Ev
end Go.Proofs.YtbfkbabolhhbaaaGreatDoor
