/-
  All operations, made for the kernel.
-/
import Derived.Test.YtogbcielgfidlaaGreatDoorEvTree
import Derived.Test.YtogbcielgfidlaaGreatDoorEvNum
namespace Go.Proofs.YtogbcielgfidlaaGreatDoor
set_option linter.unusedVariables false
set_option linter.unusedSimpArgs false
namespace Ev
noncomputable section

abbrev K1 (α : Type) := V → (V → Option α) → Option α
abbrev K2 (α : Type) := V → V → (V → Option α) → Option α
def noK1 {α : Type} : K1 α := fun _ _ => none
def noK2 {α : Type} : K2 α := fun _ _ _ => none
def k1Mv {α : Type} : K1 α := fun x c => c x
def k1Gen {α : Type} (o : POp) : K1 α := fun x c => ob (POp.run o [x]) c
def k2Gen {α : Type} (o : POp) : K2 α := fun x y c => ob (POp.run o [x, y]) c
def k1Nil {α : Type} : K1 α := fun x c =>
  V.rec (motive_1 := fun _ => Option α) (motive_2 := fun _ => Unit) (fun _ => none) (fun _ _ => none) (fun _ _ => none) none (fun i j => c (.ptr i j)) none (fun _ _ _ _ _ _ => none) none (fun _ => none)
    (fun fn a b _ _ => match fn with | .func f => c (.func (.func f) a b) | _ => none) (fun l => c (.yld l)) none (fun _ _ _ => none) none (fun _ _ => none) (fun _ _ => none) () (fun _ _ _ _ => ()) x
def k1Not {α : Type} : K1 α := fun x c => asBool (fun b => c (.bool (!b))) x
def k1Un {α : Type} (op : UnOp) : K1 α := fun x c => ob (Ev.un op x) c
def k1ToInt {α : Type} (k : IntKind) : K1 α := fun x c => asInt (fun _ n => c (.int k (wrapQ k n))) x
def k1Sid {α : Type} : K1 α := fun x c => asStr (fun n d => c (.str n d)) x
def k1Mki {α : Type} (t : TypeId) : K1 α := fun x c => c (.iface t x)
def k1Fa {α : Type} (off : Nat) : K1 α := fun x c => asPtr (fun i j => c (.ptr i (Nat.add j off))) x
def k1Field {α : Type} (a : Bool) (off size : Nat) : K1 α := fun x c => asAgg (fun cs => ob (part a cs off size) c) x
def k1Ext {α : Type} (i : Nat) : K1 α := fun x c => asTup (fun cs => ob (nthL cs i) c) x
def k1LenS {α : Type} : K1 α := fun x c => asStr (fun n _ => c (.int .i64 (Int.ofNat n))) x
def k1LenL {α : Type} : K1 α := fun x c => asSlF (c (.int .i64 (Int.ofNat 0))) (fun _ _ n _ _ _ => c (.int .i64 (Int.ofNat n))) (fun g a => ob (POp.run1 (.leng .sl) (.func g a [])) c) x
def k1LenC {α : Type} (n : Nat) : K1 α := fun _ c => c (.int .i64 (Int.ofNat n))
def k1Leng {α : Type} (k : Lk) : K1 α := Lk.rec (motive := fun _ => K1 α) k1LenS k1LenL k1LenC k
def k1UnQ {α : Type} (op : UnOp) : K1 α := UnOp.rec (motive := fun _ => K1 α) (k1Un .neg) (k1Un .xor) k1Not (k1Un .plus) op
def k1Build {α : Type} (z : List V) (p : List (Nat × Nat)) : K1 α := fun x c => ob (fills p [x] z) fun cs => c (.agg cs)
def run1K {α : Type} (o : POp) : K1 α :=
  POp.rec (motive := fun _ => K1 α) k1Mv noK1 k1Build k1Nil (fun _ => noK1) (fun _ _ => noK1) k1UnQ k1ToInt k1Sid k1Mki (fun f n => k1Gen (.mkf f n)) k1Fa k1Field (fun _ _ => noK1) (fun _ => noK1) noK1 (fun _ _ _ => noK1)
    (fun k a b d => k1Gen (.slc k a b d)) k1Ext k1Leng k1Mv k1Mv o
theorem run1K_eq {α : Type} (o : POp) (x : V) (c : V → Option α) : run1K o x c = ob (POp.run o [x]) c := by
  cases o with
  | mv => rfl
  | pick => cases x <;> rfl
  | build z p =>
    show ob (fills p [x] z) _ = ob (ob (fills p [x] z) fun cs => some (.agg cs)) c
    cases fills p [x] z <;> rfl
  | nilc =>
    cases x <;> first | rfl | skip
    rename_i fn a b
    cases fn <;> rfl
  | bin op => rfl
  | eqd k n => rfl
  | un op => cases op <;> first | rfl | (show asBool _ x = _; rw [asBool_eq]; cases x <;> rfl)
  | toInt k =>
    show asInt _ x = _
    rw [asInt_eq]
    cases x <;> first | rfl | (simp only [wrapQ_eq]; rfl)
  | sid => show asStr _ x = _; rw [asStr_eq]; cases x <;> rfl
  | mki t => rfl
  | mkf f n => rfl
  | fa off => show asPtr _ x = _; rw [asPtr_eq]; cases x <;> rfl
  | field a off n => show asAgg _ x = _; rw [asAgg_eq]; cases x <;> rfl
  | ixarrp l e => cases x <;> rfl
  | ixsl e => cases x <;> rfl
  | ixstr => cases x <;> rfl
  | ixarr a l e => cases x <;> rfl
  | slc k a b d => rfl
  | ext i => show asTup _ x = _; rw [asTup_eq]; cases x <;> rfl
  | leng k =>
    cases k with
    | str => show asStr _ x = _; rw [asStr_eq]; cases x <;> rfl
    | sl =>
      cases x <;> first | rfl | skip
      rename_i fn a b
      show ob (POp.run1 (.leng .sl) (.func fn a [])) c = ob (POp.run1 (.leng .sl) (.func fn a b)) c
      cases fn with
      | yield k =>
        cases a with
        | nil => rfl
        | cons x t => cases x <;> cases t <;> first | rfl | (rename_i y t2; cases y <;> cases t2 <;> rfl)
      | _ => rfl
    | const n => cases x <;> rfl
  | mins => rfl
  | maxs => rfl
def k2Eqd {α : Type} (k : Ek) (neg : Bool) : K2 α := fun x y c => ob (eqD k x y) fun b => c (.bool (Bool.rec (motive := fun _ => Bool) b (!b) neg))
def k2Ixarrp {α : Type} (ln es : Nat) : K2 α := fun x y c => asPtr (fun i j => asInt (fun _ n => ob (idx n ln) fun m => c (.ptr i (Nat.add j (Nat.mul m es)))) y) x
def k2Ixsl {α : Type} (es : Nat) : K2 α := fun x y c => asSl none (fun id off ln _ _ es' => asInt (fun _ n => oif (Nat.beq es es') (ob (idx n ln) fun m => c (.ptr id (Nat.add off (Nat.mul m es))))) y) x
def k2Ixstr {α : Type} : K2 α := fun x y c => asStr (fun ln cc => asInt (fun _ n => ob (idx n ln) fun m => c (.int .u8 (Int.ofNat (Nat.mod (Nat.shiftRight cc (Nat.mul 8 m)) 256)))) y) x
def k2Ixarr {α : Type} (a : Bool) (ln es : Nat) : K2 α := fun x y c => asAgg (fun cs => asInt (fun _ n => ob (idx n ln) fun m => ob (part a cs (Nat.mul m es) es) c) y) x
def run2K {α : Type} (o : POp) : K2 α :=
  POp.rec (motive := fun _ => K2 α) noK2 noK2 (fun z p => k2Gen (.build z p)) noK2 binK k2Eqd (fun _ => noK2) (fun _ => noK2) noK2 (fun _ => noK2) (fun f n => k2Gen (.mkf f n)) (fun _ => noK2) (fun _ _ _ => noK2) k2Ixarrp k2Ixsl k2Ixstr k2Ixarr
    (fun k a b d => k2Gen (.slc k a b d)) (fun _ => noK2) (fun _ => noK2) (k2Gen .mins) (k2Gen .maxs) o
theorem ob_ob {α β γ : Type} (o : Option α) (f : α → Option β) (g : β → Option γ) : ob (ob o f) g = ob o fun a => ob (f a) g := by cases o <;> rfl
theorem run2K_eq {α : Type} (o : POp) (x y : V) (c : V → Option α) : run2K o x y c = ob (POp.run o [x, y]) c := by
  cases o with
  | mv => rfl
  | pick => cases x <;> rfl
  | build z p => rfl
  | nilc => cases x <;> rfl
  | bin op => exact binK_eq op x y c
  | eqd k n =>
    show ob (eqD k x y) _ = ob (ob (eqD k x y) fun b => some (.bool (Bool.rec (motive := fun _ => Bool) b (!b) n))) c
    cases eqD k x y <;> rfl
  | un op => cases x <;> rfl
  | toInt k => cases x <;> rfl
  | sid => cases x <;> rfl
  | mki t => cases x <;> rfl
  | mkf f n => rfl
  | fa off => cases x <;> rfl
  | field a off n => cases x <;> rfl
  | ixarrp l e =>
    show asPtr _ x = _
    rw [asPtr_eq]
    cases x <;> first | rfl | skip
    simp only
    rw [asInt_eq]
    cases y <;> first | rfl | skip
    rename_i i j k n
    show _ = ob (ob (idx n l) _) c
    rw [ob_ob]
    rfl
  | ixsl e =>
    show asSl _ _ x = _
    rw [asSl_eq]
    cases x <;> first | rfl | skip
    simp only
    rw [asInt_eq]
    cases y <;> first | rfl | skip
    rename_i id off ln cap ex es' k n
    show _ = ob (oif (Nat.beq e es') (ob (idx n ln) _)) c
    rw [ob_oif, ob_ob]
    rfl
  | ixstr =>
    show asStr _ x = _
    rw [asStr_eq]
    cases x <;> first | rfl | skip
    simp only
    rw [asInt_eq]
    cases y <;> first | rfl | skip
    rename_i ln cc k n
    show _ = ob (ob (idx n ln) _) c
    rw [ob_ob]
    rfl
  | ixarr a l e =>
    show asAgg _ x = _
    rw [asAgg_eq]
    cases x <;> first | rfl | skip
    simp only
    rw [asInt_eq]
    cases y <;> first | rfl | skip
    rename_i cs k n
    show _ = ob (ob (idx n l) _) c
    rw [ob_ob]
  | slc k a b d => rfl
  | ext i => cases x <;> rfl
  | leng k => cases k <;> cases x <;> rfl
  | mins => rfl
  | maxs => rfl
/-- Whatever number of operands. -/
def run3K {α : Type} (o : POp) (x y z : V) (t : List V) (c : V → Option α) : Option α :=
  POp.rec (motive := fun _ => Option α) (ob (POp.run .mv (x :: y :: z :: t)) c) (caseL t (asBool (fun b => c (Bool.rec (motive := fun _ => V) z y b)) x) fun _ _ => none) (fun a b => ob (POp.run (.build a b) (x :: y :: z :: t)) c) (ob (POp.run .nilc (x :: y :: z :: t)) c) (fun a => ob (POp.run (.bin a) (x :: y :: z :: t)) c) (fun a b => ob (POp.run (.eqd a b) (x :: y :: z :: t)) c) (fun a => ob (POp.run (.un a) (x :: y :: z :: t)) c) (fun a => ob (POp.run (.toInt a) (x :: y :: z :: t)) c) (ob (POp.run .sid (x :: y :: z :: t)) c) (fun a => ob (POp.run (.mki a) (x :: y :: z :: t)) c) (fun a b => ob (POp.run (.mkf a b) (x :: y :: z :: t)) c) (fun a => ob (POp.run (.fa a) (x :: y :: z :: t)) c) (fun a b d => ob (POp.run (.field a b d) (x :: y :: z :: t)) c)
    (fun a b => ob (POp.run (.ixarrp a b) (x :: y :: z :: t)) c) (fun a => ob (POp.run (.ixsl a) (x :: y :: z :: t)) c) (ob (POp.run .ixstr (x :: y :: z :: t)) c) (fun a b d => ob (POp.run (.ixarr a b d) (x :: y :: z :: t)) c) (fun k a b d => ob (POp.run (.slc k a b d) (x :: y :: z :: t)) c) (fun a => ob (POp.run (.ext a) (x :: y :: z :: t)) c) (fun a => ob (POp.run (.leng a) (x :: y :: z :: t)) c) (ob (POp.run .mins (x :: y :: z :: t)) c) (ob (POp.run .maxs (x :: y :: z :: t)) c) o
theorem run3K_eq {α : Type} (o : POp) (x y z : V) (t : List V) (c : V → Option α) : run3K o x y z t c = ob (POp.run o (x :: y :: z :: t)) c := by
  cases o with
  | pick =>
    show caseL t (asBool (fun b => c (Bool.rec (motive := fun _ => V) z y b)) x) (fun _ _ => none) = _
    cases t with
    | nil => show asBool _ x = _; rw [asBool_eq]; cases x <;> rfl
    | cons _ _ => cases x <;> rfl
  | _ => rfl
def runPK {α : Type} (o : POp) (vs : List V) (c : V → Option α) : Option α :=
  caseL vs (ob (POp.run o []) c) fun x t => caseL t (run1K o x c) fun y t2 => caseL t2 (run2K o x y c) fun z t3 => run3K o x y z t3 c
theorem runPK_eq {α : Type} (o : POp) (vs : List V) (c : V → Option α) : runPK o vs c = ob (POp.run o vs) c := by
  cases vs with
  | nil => rfl
  | cons x t => cases t with
    | nil => exact run1K_eq o x c
    | cons y t2 => cases t2 with
      | nil => exact run2K_eq o x y c
      | cons z t3 => exact run3K_eq o x y z t3 c
/- Memory. -/
def cellsOfBlk {α : Type} (c : Nat → Tr V → Option α) (b : Blk) : Option α :=
  Blk.rec (motive := fun _ => Option α) (fun n cs _ _ => c n cs) c (fun _ _ => none) (fun _ _ _ => none) (fun _ _ _ _ _ _ => none) none (fun _ _ _ => none) b
theorem cellsOfBlk_eq {α : Type} (h : H) (id : Nat) (c : Nat → Tr V → Option α) : (ob (h.blk id) (cellsOfBlk c)) = ob (h.cells id) fun p => c p.1 p.2 := by
  unfold H.cells
  rw [ob_ob]
  cases h.blk id with
  | none => rfl
  | some b => cases b <;> rfl
def cellK {α : Type} (h : H) (id off : Nat) (c : V → Option α) : Option α := ob (h.blk id) (cellsOfBlk fun n cs => oif (Nat.blt off n) (ob (cs.get off) c))
theorem cellK_eq {α : Type} (h : H) (id off : Nat) (c : V → Option α) : cellK h id off c = ob (ob (h.rd id off 1) fun l => nthL l 0) c := by
  unfold cellK
  rw [cellsOfBlk_eq]
  unfold H.rd
  rw [ob_ob, ob_ob]
  cases h.cells id with
  | none => rfl
  | some p =>
    show oif (Nat.blt off p.1) (ob (p.2.get off) c) = ob (oif (Nat.blt off p.1) (ob (p.2.get off) fun v => ob (some []) fun r => some (v :: r))) fun l => ob (nthL l 0) c
    rw [ob_oif, ob_ob]
    cases p.2.get off <;> rfl
def rdK {α : Type} (h : H) (id off k : Nat) (c : V → Option α) : Option α := ob (h.blk id) (cellsOfBlk fun n cs => ob (rdFrom cs n k off) fun l => c (.agg l))
theorem rdK_eq {α : Type} (h : H) (id off k : Nat) (c : V → Option α) : rdK h id off k c = ob (ob (h.rd id off k) fun l => some (V.agg l)) c := by
  unfold rdK
  rw [cellsOfBlk_eq]
  unfold H.rd
  rw [ob_ob, ob_ob]
  cases h.cells id with
  | none => rfl
  | some p => rfl
def loadK {α : Type} (b : Bool) (n : Nat) (h : H) (x : V) (c : V → Option α) : Option α :=
  asPtr (fun id off => Bool.rec (motive := fun _ => Option α) (cellK h id off c) (rdK h id off n c) b) x
theorem loadK_eq {α : Type} (b : Bool) (n : Nat) (h : H) (x : V) (c : V → Option α) : loadK b n h x c = ob ((ROp.load b n).run [x] h) c := by
  unfold loadK
  rw [asPtr_eq]
  cases x <;> first | (cases b <;> rfl) | skip
  rename_i id off
  cases b
  · exact cellK_eq h id off c
  · exact rdK_eq h id off n c
/- Keys. -/
def e1I (x y : V) : Option Bool := asInt (fun k a => asInt (fun j b => same k j (some (eqI a b))) y) x
def e1S (x y : V) : Option Bool := asStr (fun n a => asStr (fun m b => some (strEq n a m b)) y) x
def eq1Q (h : H) (k : Pk) (x y : V) : Option Bool := Pk.rec (motive := fun _ => Option Bool) (e1I x y) (e1S x y) (eq1 h .b x y) (eq1 h .p x y) k
theorem eq1Q_eq (h : H) (k : Pk) (x y : V) : eq1Q h k x y = eq1 h k x y := by
  cases k with
  | i =>
    show e1I x y = _
    unfold e1I
    rw [asInt_eq]
    cases x <;> first | rfl | skip
    simp only
    rw [asInt_eq]
    cases y <;> first | rfl | (simp only [same_eq]; rfl)
  | s =>
    show e1S x y = _
    unfold e1S
    rw [asStr_eq]
    cases x <;> first | rfl | skip
    simp only
    rw [asStr_eq]
    cases y <;> rfl
  | b => rfl
  | p => rfl
def eqKeyQ (h : H) (k : Kk) (x y : V) : Option Bool := Kk.rec (motive := fun _ => Option Bool) (fun pk => eq1Q h pk x y) (fun ks => eqKey h (.agg ks) x y) k
theorem eqKeyQ_eq (h : H) (k : Kk) (x y : V) : eqKeyQ h k x y = eqKey h k x y := by
  cases k with
  | one pk => exact eq1Q_eq h pk x y
  | agg ks => rfl
def findQ {α : Type} (h : H) (kk : Kk) (k : V) (es : List (V × V)) (n : Option α) (s : V → Option α) : Option α :=
  List.rec (motive := fun _ => Option α) n (fun e _ ih => ob (eqKeyQ h kk k e.1) fun b => Bool.rec (motive := fun _ => Option α) ih (s e.2) b) es
theorem findQ_eq {α : Type} (h : H) (kk : Kk) (k : V) (n : Option α) (s : V → Option α) : ∀ es, findQ h kk k es n s = ob (findE h kk k es) fun r => Option.rec (motive := fun _ => Option α) n s r
  | [] => rfl
  | e :: es => by
    show ob (eqKeyQ h kk k e.1) (fun b => Bool.rec (motive := fun _ => Option α) (findQ h kk k es n s) (s e.2) b) = ob (ob (eqKey h kk k e.1) fun b => Bool.rec (motive := fun _ => Option (Option V)) (findE h kk k es) (some (some e.2)) b) _
    rw [eqKeyQ_eq, ob_ob, findQ_eq h kk k n s es]
    cases eqKey h kk k e.1 with
    | none => rfl
    | some b => cases b <;> rfl
def putQ (h : H) (kk : Kk) (k v : V) (es : List (V × V)) : Option (List (V × V)) :=
  List.rec (motive := fun _ => Option (List (V × V))) (some [(k, v)]) (fun e tl ih => ob (eqKeyQ h kk k e.1) fun b => Bool.rec (motive := fun _ => Option (List (V × V))) (ob ih fun r => some (e :: r)) (some ((k, v) :: tl)) b) es
theorem putQ_eq (h : H) (kk : Kk) (k v : V) : ∀ es, putQ h kk k v es = putE h kk k v es
  | [] => rfl
  | e :: es => by
    show ob (eqKeyQ h kk k e.1) (fun b => Bool.rec (motive := fun _ => Option (List (V × V))) (ob (putQ h kk k v es) fun r => some (e :: r)) (some ((k, v) :: es)) b) = ob (eqKey h kk k e.1) (fun b => Bool.rec (motive := fun _ => Option (List (V × V))) (ob (putE h kk k v es) fun r => some (e :: r)) (some ((k, v) :: es)) b)
    rw [eqKeyQ_eq, putQ_eq h kk k v es]
def entriesK {α : Type} (h : H) (id : Nat) (c : List (V × V) → Option α) : Option α :=
  ob (h.blk id) fun b => Blk.rec (motive := fun _ => Option α) (fun _ _ _ _ => none) (fun _ _ => none) (fun es _ => c es) (fun _ _ _ => none) (fun _ _ _ _ _ _ => none) none (fun _ _ _ => none) b
theorem entriesK_eq {α : Type} (h : H) (id : Nat) (c : List (V × V) → Option α) : entriesK h id c = ob (h.entries id) c := by
  unfold entriesK H.entries
  rw [ob_ob]
  cases h.blk id with
  | none => rfl
  | some b => cases b <;> rfl
def lookupK {α : Type} (kk : Kk) (ok : Bool) (zero : V) (h : H) (x k : V) (c : V → Option α) : Option α :=
  oif (keyShape kk k) (asMap (c (lookRes ok zero none)) (fun id => entriesK h id fun es => findQ h kk k es (c (lookRes ok zero none)) fun v => c (lookRes ok zero (some v))) x)
theorem lookupK_eq {α : Type} (kk : Kk) (ok : Bool) (zero : V) (h : H) (x k : V) (c : V → Option α) : lookupK kk ok zero h x k c = ob ((ROp.lookup kk ok zero).run [x, k] h) c := by
  unfold lookupK
  rw [asMap_eq]
  cases x <;> first | (show oif _ none = _; cases keyShape kk k <;> rfl) | skip
  · show _ = ob (oif (keyShape kk k) (some (lookRes ok zero none))) c
    rw [ob_oif]
    rfl
  · rename_i id
    show _ = ob (oif (keyShape kk k) (ob (h.entries id) fun es => ob (findE h kk k es) fun r => some (lookRes ok zero r))) c
    rw [ob_oif, ob_ob]
    congr 1
    simp only
    rw [entriesK_eq]
    cases h.entries id with
    | none => rfl
    | some es =>
      rw [ob_of, ob_of, findQ_eq, ob_ob]
      cases findE h kk k es with
      | none => rfl
      | some r => cases r <;> rfl
def eqK2 {α : Type} (kk : Kk) (neg : Bool) (h : H) (x y : V) (c : V → Option α) : Option α := ob (eqKeyQ h kk x y) fun b => c (.bool (Bool.rec (motive := fun _ => Bool) b (!b) neg))
def rGen {α : Type} (o : ROp) (h : H) (vs : List V) (c : V → Option α) : Option α := ob (o.run vs h) c
abbrev KR (α : Type) := H → List V → (V → Option α) → Option α
def krLoad {α : Type} (b : Bool) (n : Nat) : KR α := fun h vs c => caseL vs none fun x t => caseL t (loadK b n h x c) fun _ _ => none
def krLookup {α : Type} (kk : Kk) (ok : Bool) (z : V) : KR α := fun h vs c => caseL vs none fun x t => caseL t none fun y t2 => caseL t2 (lookupK kk ok z h x y c) fun _ _ => none
def krEq {α : Type} (kk : Kk) (neg : Bool) : KR α := fun h vs c => caseL vs none fun x t => caseL t none fun y t2 => caseL t2 (eqK2 kk neg h x y c) fun _ _ => none
def runRK {α : Type} (o : ROp) : KR α := ROp.rec (motive := fun _ => KR α) krLoad krLookup (rGen .lenMap) (rGen .b2s) krEq o
theorem runRK_eq {α : Type} (o : ROp) (h : H) (vs : List V) (c : V → Option α) : runRK o h vs c = ob (o.run vs h) c := by
  cases o with
  | load b n =>
    cases vs with
    | nil => cases b <;> rfl
    | cons x t => cases t with
      | nil => exact loadK_eq b n h x c
      | cons y t => cases b <;> cases x <;> rfl
  | lookup kk ok z =>
    cases vs with
    | nil => rfl
    | cons x t => cases t with
      | nil => cases x <;> rfl
      | cons y t => cases t with
        | nil => exact lookupK_eq kk ok z h x y c
        | cons u t => cases x <;> rfl
  | lenMap => rfl
  | b2s => rfl
  | eq kk neg =>
    cases vs with
    | nil => rfl
    | cons x t => cases t with
      | nil => rfl
      | cons y t => cases t with
        | nil =>
          show eqK2 kk neg h x y c = ob (ob (eqKey h kk x y) fun b => some (.bool (Bool.rec (motive := fun _ => Bool) b (!b) neg))) c
          unfold eqK2
          rw [eqKeyQ_eq, ob_ob]
          rfl
        | cons u t => rfl
/- What makes or writes memory. -/
abbrev KE (α : Type) := H → List V → (V → H → Option α) → Option α
/- A tree with one leaf put in, made at once. -/
def setK {α β : Type} (x : Option α) (fuel : Nat) : Tr α → Nat → (Tr α → β) → β :=
  Nat.rec (motive := fun _ => Tr α → Nat → (Tr α → β) → β) (fun t _ k => k t)
    (fun _ ih t p k => Tr.rec (motive := fun _ => β)
      (Bool.rec (motive := fun _ => β) (Bool.rec (motive := fun _ => β) (ih .e (Nat.div p 2) fun l => k (.n l none .e)) (ih .e (Nat.div p 2) fun r => k (.n .e none r)) (Nat.beq (Nat.mod p 2) 1)) (k (.n .e x .e)) (Nat.beq p 1))
      (fun l v r _ _ => Bool.rec (motive := fun _ => β) (Bool.rec (motive := fun _ => β) (ih l (Nat.div p 2) fun l => k (.n l v r)) (ih r (Nat.div p 2) fun r => k (.n l v r)) (Nat.beq (Nat.mod p 2) 1)) (k (.n l x r)) (Nat.beq p 1)) t) fuel
theorem setK_eq {α β : Type} (x : Option α) : ∀ (fuel : Nat) (t : Tr α) (p : Nat) (k : Tr α → β), setK x fuel t p k = k (Tr.setF x fuel t p)
  | 0, _, _, _ => rfl
  | fuel + 1, t, p, k => by
    cases t with
    | e =>
      show (Bool.rec (motive := fun _ => β) (Bool.rec (motive := fun _ => β) (setK x fuel .e (Nat.div p 2) fun l => k (.n l none .e)) (setK x fuel .e (Nat.div p 2) fun r => k (.n .e none r)) (Nat.beq (Nat.mod p 2) 1)) (k (.n .e x .e)) (Nat.beq p 1) : β) =
        k (Bool.rec (motive := fun _ => Tr α) (Bool.rec (motive := fun _ => Tr α) (.n (Tr.setF x fuel .e (Nat.div p 2)) none .e) (.n .e none (Tr.setF x fuel .e (Nat.div p 2))) (Nat.beq (Nat.mod p 2) 1)) (.n .e x .e) (Nat.beq p 1))
      rw [setK_eq x fuel, setK_eq x fuel]
      cases Nat.beq p 1 <;> cases Nat.beq (Nat.mod p 2) 1 <;> rfl
    | n l v r =>
      show (Bool.rec (motive := fun _ => β) (Bool.rec (motive := fun _ => β) (setK x fuel l (Nat.div p 2) fun l => k (.n l v r)) (setK x fuel r (Nat.div p 2) fun r => k (.n l v r)) (Nat.beq (Nat.mod p 2) 1)) (k (.n l x r)) (Nat.beq p 1) : β) =
        k (Bool.rec (motive := fun _ => Tr α) (Bool.rec (motive := fun _ => Tr α) (.n (Tr.setF x fuel l (Nat.div p 2)) v r) (.n l v (Tr.setF x fuel r (Nat.div p 2))) (Nat.beq (Nat.mod p 2) 1)) (.n l x r) (Nat.beq p 1))
      rw [setK_eq x fuel, setK_eq x fuel]
      cases Nat.beq p 1 <;> cases Nat.beq (Nat.mod p 2) 1 <;> rfl
def wr1Q (h : H) (id i : Nat) (v : V) : Option H :=
  ob (h.blk id) fun b => Blk.rec (motive := fun _ => Option H) (fun n cs up child => oif (!child) (oif (Nat.blt i n) (oif (oneQ v)
        (ob (forget 64 up i h) fun h => setK (some v) 30 cs (Nat.succ i) fun cs => setK (some (.cells n cs up child)) 30 h.t (Nat.succ id) fun t => some ⟨t, h.next⟩)))) (fun _ _ => none) (fun _ _ => none) (fun _ _ _ => none) (fun _ _ _ _ _ _ => none) none (fun _ _ _ => none) b
theorem wr1Q_eq (h : H) (id i : Nat) (v : V) : wr1Q h id i v = h.wr1 id i v := by
  unfold wr1Q H.wr1
  cases h.blk id with
  | none => rfl
  | some b => cases b <;> first | rfl | (simp only [oneQ_eq, setK_eq]; rfl)
def wrS (id : Nat) (l : List V) : Nat → H → Option H :=
  List.rec (motive := fun _ => Nat → H → Option H) (fun _ h => some h) (fun v _ ih i h => ob (wr1Q h id i v) fun h => ih (Nat.succ i) h) l
theorem wrS_eq (id : Nat) : ∀ (l : List V) (i : Nat) (h : H), wrS id l i h = H.wr id l i h
  | [], _, _ => rfl
  | v :: l, i, h => by
    show ob (wr1Q h id i v) (fun h => wrS id l (Nat.succ i) h) = ob (h.wr1 id i v) fun h => H.wr id l (Nat.succ i) h
    rw [wr1Q_eq]
    congr 1
    funext h'
    exact wrS_eq id l _ h'
/- Many cells of a block that is alone: at once. -/
def putsQ (n : Nat) (l : List V) : Nat → Tr V → Option (Tr V) :=
  List.rec (motive := fun _ => Nat → Tr V → Option (Tr V)) (fun _ cs => some cs) (fun v _ ih i cs => oif (Nat.blt i n) (oif (oneQ v) (setK (some v) 30 cs (Nat.succ i) fun cs => ih (Nat.succ i) cs))) l
def wrQ (id : Nat) (l : List V) (i : Nat) (h : H) : Option H :=
  caseL l (some h) fun _ t => caseL t (wrS id l i h) fun _ _ => Bool.rec (motive := fun _ => Option H) (wrS id l i h)
    (ob (h.blk id) fun b => Blk.rec (motive := fun _ => Option H) (fun n cs up child => Option.rec (motive := fun _ => Option H) (Bool.rec (motive := fun _ => Option H) (ob (putsQ n l i cs) fun cs => setK (some (.cells n cs none false)) 30 h.t (Nat.succ id) fun t => some ⟨t, h.next⟩) (wrS id l i h) child) (fun _ => wrS id l i h) up)
      (fun _ _ => wrS id l i h) (fun _ _ => wrS id l i h) (fun _ _ _ => wrS id l i h) (fun _ _ _ _ _ _ => wrS id l i h) (wrS id l i h) (fun _ _ _ => wrS id l i h) b) (Nat.blt id keys)
theorem puts_wr {id n next : Nat} {t : Tr Blk} (hk : id < keys) : ∀ (l : List V) (i : Nat) (cs : Tr V),
    H.wr id l i ⟨t.put id (some (.cells n cs none false)), next⟩ = ob (putsQ n l i cs) fun cs => some ⟨t.put id (some (.cells n cs none false)), next⟩
  | [], _, _ => rfl
  | v :: l, i, cs => by
    have hb : (⟨t.put id (some (.cells n cs none false)), next⟩ : H).blk id = some (.cells n cs none false) := by
      have := blk_put ⟨t, next⟩ id id next (.cells n cs none false) hk
      rw [if_pos rfl] at this
      exact this
    show ob (H.wr1 _ id i v) (fun h => H.wr id l (Nat.succ i) h) = ob (oif (Nat.blt i n) (oif (oneQ v) (setK (some v) 30 cs (Nat.succ i) fun cs => putsQ n l (Nat.succ i) cs))) _
    rw [setK_eq]
    unfold H.wr1
    rw [hb]
    show ob (oif (!false) (oif (Nat.blt i n) (oif (oneCell v) (ob (forget 64 none i _) fun h => some (H.mk (h.t.put id (some (.cells n (cs.put i (some v)) none false))) h.next))))) _ = _
    rw [oneQ_eq]
    cases Nat.blt i n with
    | false => rfl
    | true => cases oneCell v with
      | false => rfl
      | true =>
        show H.wr id l (Nat.succ i) ⟨(t.put id (some (.cells n cs none false))).put id (some (.cells n (cs.put i (some v)) none false)), next⟩ = _
        rw [Tr.put_put]
        exact puts_wr hk l _ _
theorem wrQ_eq (id : Nat) (l : List V) (i : Nat) (h : H) : wrQ id l i h = H.wr id l i h := by
  cases l with
  | nil => rfl
  | cons v l => cases l with
    | nil => exact (show wrQ id [v] i h = wrS id [v] i h from rfl).trans (wrS_eq id [v] i h)
    | cons u l =>
      show (Bool.rec (motive := fun _ => Option H) (wrS id (v :: u :: l) i h) _ (Nat.blt id keys) : Option H) = _
      cases hk : Nat.blt id keys with
      | false => exact wrS_eq id _ i h
      | true =>
        have hk : id < keys := by simpa using hk
        have key := wrS_eq id (v :: u :: l) i h
        cases hb : h.blk id with
        | none =>
          show none = ob (H.wr1 h id i v) _
          unfold H.wr1
          rw [hb]
          rfl
        | some b =>
          cases b with
          | cells n cs up child =>
            cases up with
            | some q => exact key
            | none => cases child with
              | true => exact key
              | false =>
                show ob (oif (Nat.blt i n) (oif (oneQ v) (setK (some v) 30 cs (Nat.succ i) fun cs => putsQ n (u :: l) (Nat.succ i) cs))) _ = ob (H.wr1 h id i v) (fun h => H.wr id (u :: l) (Nat.succ i) h)
                simp only [setK_eq]
                unfold H.wr1
                rw [hb]
                show _ = ob (oif (!false) (oif (Nat.blt i n) (oif (oneCell v) (ob (forget 64 none i h) fun h => some (H.mk (h.t.put id (some (.cells n (cs.put i (some v)) none false))) h.next))))) _
                rw [oneQ_eq]
                cases Nat.blt i n with
                | false => rfl
                | true => cases oneCell v with
                  | false => rfl
                  | true => exact (puts_wr (t := h.t) (next := h.next) hk (u :: l) (Nat.succ i) (cs.put i (some v))).symm
          | _ => exact key
def eGen {α : Type} (o : EOp) : KE α := fun h vs c => ob (o.run vs h) fun r => c r.1 r.2
def keStore {α : Type} (n : Nat) : KE α := fun h vs c => caseL vs none fun x t => caseL t none fun y t2 => caseL t2 (asPtr (fun id off => oif (Nat.beq (lenL (cellsQ y)) n) (ob (wrQ id (cellsQ y) off h) fun h => c undefV h)) x) fun _ _ => none
def keMap {α : Type} (kk : Kk) : KE α := fun h vs c => caseL vs none fun x t => caseL t none fun k t2 => caseL t2 none fun v t3 => caseL t3
  (oif (keyShape kk k) (asMap none (fun id => entriesK h id fun es => ob (putQ h kk k v es) fun es => c undefV ⟨h.t.put id (some (.map es (h.ord id))), h.next⟩) x)) fun _ _ => none
def runEK {α : Type} (o : EOp) : KE α := EOp.rec (motive := fun _ => KE α) keStore (fun a b d => eGen (.append a b d)) (fun n => eGen (.copy n)) keMap (fun k => eGen (.delete k)) (fun z => eGen (.clear z)) (eGen .nextS) (fun k z => eGen (.mapent k z)) (eGen .entst) (eGen .rangeM) (eGen .nextM) (eGen .entryM) o
theorem runEK_eq {α : Type} (o : EOp) (h : H) (vs : List V) (c : V → H → Option α) : runEK o h vs c = ob (o.run vs h) fun r => c r.1 r.2 := by
  cases o with
  | store n =>
    cases vs with
    | nil => rfl
    | cons x t => cases t with
      | nil => cases x <;> rfl
      | cons y t => cases t with
        | cons u t => cases x <;> rfl
        | nil =>
          show asPtr _ x = _
          rw [asPtr_eq]
          cases x <;> first | rfl | skip
          rename_i id off
          show _ = ob (oif (Nat.beq (lenL (cellsOf y)) n) (ob (H.wr id (cellsOf y) off h) fun h => some (undefV, h))) fun r => c r.1 r.2
          simp only [cellsQ_eq, wrQ_eq]
          rw [ob_oif, ob_ob]
          rfl
  | mapup kk =>
    cases vs with
    | nil => rfl
    | cons x t => cases t with
      | nil => cases x <;> rfl
      | cons k t => cases t with
        | nil => cases x <;> rfl
        | cons v t => cases t with
          | cons u t => cases x <;> rfl
          | nil =>
            show oif (keyShape kk k) (asMap _ _ x) = _
            rw [asMap_eq]
            cases x <;> first | (show oif _ none = _; cases keyShape kk k <;> rfl) | skip
            rename_i id
            show _ = ob (oif (keyShape kk k) (ob (h.entries id) fun es => ob (putE h kk k v es) fun es => some ((undefV, ⟨h.t.put id (some (.map es (h.ord id))), h.next⟩) : V × H))) fun r => c r.1 r.2
            rw [ob_oif, ob_ob]
            congr 1
            simp only
            rw [entriesK_eq]
            cases h.entries id with
            | none => rfl
            | some es =>
              show ob (putQ h kk k v es) _ = ob (ob (putE h kk k v es) fun es => some ((undefV, ⟨h.t.put id (some (.map es (h.ord id))), h.next⟩) : V × H)) fun r => c r.1 r.2
              rw [putQ_eq, ob_ob]
              rfl
  | _ => rfl
/-- A list's tree, made at once; its length, counted at once. -/
def trK {β : Type} (l : List V) : Nat → Tr V → (Tr V → β) → β :=
  List.rec (motive := fun _ => Nat → Tr V → (Tr V → β) → β) (fun _ t k => k t) (fun v _ ih i t k => setK (some v) 30 t (Nat.succ i) fun t => ih (Nat.succ i) t k) l
theorem trK_eq {β : Type} : ∀ (l : List V) (i : Nat) (t : Tr V) (k : Tr V → β), trK l i t k = k (trOf l i t)
  | [], _, _, _ => rfl
  | v :: l, i, t, k => by
    show setK (some v) 30 t (Nat.succ i) (fun t => trK l (Nat.succ i) t k) = _
    rw [setK_eq, trK_eq l]
    rfl
def lenQ {α : Type} (l : List α) : Nat → Nat :=
  List.rec (motive := fun _ => Nat → Nat) (fun n => n) (fun _ _ ih n => Bool.rec (motive := fun _ => Nat) (ih (Nat.succ n)) (ih (Nat.succ n)) (Nat.beq n 0)) l
theorem lenQ_eq {α : Type} : ∀ (l : List α) (n : Nat), lenQ l n = n + lenL l
  | [], _ => rfl
  | _ :: l, n => by
    show (Bool.rec (motive := fun _ => Nat) (lenQ l (Nat.succ n)) (lenQ l (Nat.succ n)) (Nat.beq n 0) : Nat) = n + Nat.succ (lenL l)
    have e : lenQ l (Nat.succ n) = n + Nat.succ (lenL l) := (lenQ_eq l (Nat.succ n)).trans (by omega)
    cases Nat.beq n 0 <;> exact e
def cellsBlkQ (l : List V) : Option Blk := oif (allOne l) (oif (Nat.blt (lenQ l 0) keys) (trK l 0 .e fun t => some (.cells (lenQ l 0) t none false)))
theorem cellsBlkQ_eq (l : List V) : cellsBlkQ l = cellsBlk l := by
  unfold cellsBlkQ cellsBlk
  rw [trK_eq, lenQ_eq, Nat.zero_add]
abbrev KA := List V → Option (Blk × (Nat → V))
def kaAlloc (cells : List V) : KA := fun vs => caseL vs (ob (cellsBlkQ cells) fun b => some (b, fun i => V.ptr i 0)) fun _ _ => none
def kaBox : KA := fun vs => caseL vs none fun x t => caseL t (ob (cellsBlkQ (cellsQ x)) fun b => some (b, fun i => V.ptr i 0)) fun _ _ => none
def runAQ (o : AOp) : KA := AOp.rec (motive := fun _ => KA) kaAlloc kaBox (fun a b d e => AOp.run (.bslice a b d e)) (fun r => AOp.run (.mkm r)) (fun a b => AOp.run (.mks a b)) (AOp.run .rangeS) o
theorem runAQ_eq (o : AOp) (vs : List V) : runAQ o vs = o.run vs := by
  cases o with
  | alloc cs => cases vs with
    | nil => show ob (cellsBlkQ cs) _ = ob (cellsBlk cs) _; rw [cellsBlkQ_eq]
    | cons => rfl
  | box => cases vs with
    | nil => rfl
    | cons x t => cases t with
      | nil => show ob (cellsBlkQ (cellsQ x)) _ = ob (cellsBlk (cellsOf x)) _; rw [cellsQ_eq, cellsBlkQ_eq]
      | cons => rfl
  | _ => rfl
def newQ {α : Type} (h : H) (b : Blk) (k : H → Option α) : Option α := oif (Nat.blt h.next keys) (setK (some b) 30 h.t (Nat.succ h.next) fun t => k ⟨t, Nat.succ h.next⟩)
theorem newQ_eq {α : Type} (h : H) (b : Blk) (k : H → Option α) : newQ h b k = ob (h.new b) k := by
  unfold newQ H.new
  rw [setK_eq]
  cases Nat.blt h.next keys <;> rfl
def makeK {α : Type} (o : AOp) : KE α := fun h vs c => ob (runAQ o vs) fun r => newQ h r.1 fun h' => c (r.2 h.next) h'
theorem makeK_eq {α : Type} (o : AOp) (h : H) (vs : List V) (c : V → H → Option α) : makeK o h vs c = ob (h.make o vs) fun r => c r.1 r.2 := by
  unfold makeK H.make
  rw [runAQ_eq, ob_ob]
  cases o.run vs with
  | none => rfl
  | some p => show newQ h p.1 _ = ob (ob (h.new p.1) _) _; rw [newQ_eq, ob_ob]; rfl
abbrev KC (α : Type) := CallT → H → List V → (V → H → Option α) → Option α
def kcP {α : Type} (o : POp) : KC α := fun _ h vs c => runPK o vs fun v => c v h
def kcR {α : Type} (o : ROp) : KC α := fun _ h vs c => runRK o h vs fun v => c v h
def kcA {α : Type} (o : AOp) : KC α := fun _ h vs c => makeK o h vs c
def kcE {α : Type} (o : EOp) : KC α := fun _ h vs c => runEK o h vs c
def kcCall {α : Type} (f : FuncId) : KC α := fun call h vs c => ob (call (.fn f) vs h) fun r => c r.1 r.2
def kcVal {α : Type} : KC α := fun call h vs c => ob (callVal call vs h) fun r => c r.1 r.2
def runCK {α : Type} (o : COp) : KC α := COp.rec (motive := fun _ => KC α) kcP kcR kcA kcE kcCall kcVal o
theorem runCK_eq {α : Type} (call : CallT) (o : COp) (h : H) (vs : List V) (c : V → H → Option α) : runCK o call h vs c = ob (o.run call vs h) fun r => c r.1 r.2 := by
  cases o with
  | p o =>
    show runPK o vs _ = ob (ob (o.run vs) fun v => some (v, h)) fun r => c r.1 r.2
    rw [runPK_eq, ob_ob]
    rfl
  | r o =>
    show runRK o h vs _ = ob (ob (o.run vs h) fun v => some (v, h)) fun r => c r.1 r.2
    rw [runRK_eq, ob_ob]
    rfl
  | a o => exact makeK_eq o h vs c
  | e o => exact runEK_eq o h vs c
  | call f => rfl
  | callv => rfl
end
end Ev
end Go.Proofs.YtogbcielgfidlaaGreatDoor
namespace Go.Proofs.YtogbcielgfidlaaGreatDoor
set_option linter.unusedVariables false
set_option linter.unusedSimpArgs false
namespace Ev
noncomputable section

abbrev R := Option (V × H)
def lkK {α : Type} (c : V → Option α) (t : Nat) (l : AL) : Option α :=
  List.rec (motive := fun _ => Option α) none (fun p _ ih => Bool.rec (motive := fun _ => Option α) ih (c p.2) (Nat.beq p.1 t)) l
theorem lkK_eq {α : Type} (c : V → Option α) (t : Nat) : ∀ l, lkK c t l = ob (lk l t) c
  | [] => rfl
  | p :: l => by
    show Bool.rec (motive := fun _ => Option α) (lkK c t l) (c p.2) (Nat.beq p.1 t) = ob (Bool.rec (motive := fun _ => Option V) (lk l t) (some p.2) (Nat.beq p.1 t)) c
    rw [lkK_eq c t l]
    cases Nat.beq p.1 t <;> rfl
def evK {α : Type} (f : F) (c : V → Option α) (o : Opd) : Option α := Opd.rec (motive := fun _ => Option α) (fun t => lkK c t f.loc) (fun t => lkK c t f.tmp) c o
theorem evK_eq {α : Type} (f : F) (c : V → Option α) (o : Opd) : evK f c o = ob (o.ev f) c := by
  cases o with
  | l t => exact lkK_eq c t f.loc
  | t t => exact lkK_eq c t f.tmp
  | c v => rfl
def evsK {α : Type} (f : F) (l : List Opd) : (List V → Option α) → Option α :=
  List.rec (motive := fun _ => (List V → Option α) → Option α) (fun c => c []) (fun o _ ih c => evK f (fun v => ih fun vs => c (v :: vs)) o) l
theorem evsK_eq {α : Type} (f : F) : ∀ (l : List Opd) (c : List V → Option α), evsK f l c = ob (evs f l) c
  | [], _ => rfl
  | o :: l, c => by
    show evK f (fun v => evsK f l fun vs => c (v :: vs)) o = ob (ob (o.ev f) fun v => ob (evs f l) fun vs => some (v :: vs)) c
    rw [evK_eq, ob_ob]
    congr 1
    funext v
    rw [evsK_eq, ob_ob]
    rfl
abbrev KM (α : Type) := H → V → (V → Option α) → Option α
abbrev KW (α : Type) := H → V → V → (V → H → Option α) → Option α
inductive FC where
  | skip
  | op1 (d : Dst) (g : K1 (V × H)) (a : Opd) (k : FC)
  | op2 (d : Dst) (g : K2 (V × H)) (a b : Opd) (k : FC)
  | m1 (d : Dst) (g : KM (V × H)) (a : Opd) (k : FC)
  | w2 (d : Dst) (g : KW (V × H)) (a b : Opd) (k : FC)
  | opc (d : Dst) (g : KC (V × H)) (args : List Opd) (k : FC)
  | gd (x : Opd) (w : Bool) (d : Dst) (g : KC (V × H)) (args : List Opd) (k : FC)
  | fin
  | dr (ops : List COper)
  | seq (a b : FC)
  | cond (o : Opd) (a b : FC)
  | block (id : Nat) (c : FC)
  | loop (c : FC)
  | slow (c : CCode)
  | nat (g : CallT → F → H → (F → H → R) → R)
  | exit (id : Nat)
  | ret
abbrev KN := F → H → R
/-- What follows, by the way out. -/
def toX (kn : KN) (ke : Nat → KN) (kr : KN) (r : X × F × H) : R := X.rec (motive := fun _ => R) (kn r.2.1 r.2.2) (fun j => ke j r.2.1 r.2.2) (kr r.2.1 r.2.2) r.1
def loopK (e : F → H → KN → (Nat → KN) → KN → R) (n : Nat) : F → H → KN → (Nat → KN) → KN → R :=
  Nat.rec (motive := fun _ => F → H → KN → (Nat → KN) → KN → R) (fun _ _ _ _ _ => none) (fun _ ih f h kn ke kr => e f h (fun f h => ih f h kn ke kr) ke kr) n
/- Regions that draw. -/
def pushE (b : Bool) (h : H) (hs : List H) : List H := Bool.rec (motive := fun _ => List H) hs (h :: hs) b
def runDQ (call : CallT) (o : COper) (s : St) (c : St → R) : R :=
  ob (guardOk s.f o.guard) fun b => Bool.rec (motive := fun _ => R)
    (c ⟨o.dst.put s.f undefV, s.h, pushE (isE o.op) s.h s.hs, s.cs⟩)
    (evsK s.f o.args fun vs => runCK o.op call s.h vs fun v h' =>
      c ⟨o.dst.put s.f v, h', pushE (isE o.op) s.h s.hs,
        COp.rec (motive := fun _ => List Tc) (fun _ => s.cs) (fun q => ⟨q, vs, v, o.lo, o.hi⟩ :: s.cs) (fun _ => s.cs) (fun _ => s.cs) (fun _ => s.cs) s.cs o.op⟩) b
theorem runDQ_eq (call : CallT) (o : COper) (s : St) (c : St → R) : runDQ call o s c = ob (o.runD call s) c := by
  unfold runDQ COper.runD
  rw [ob_ob]
  congr 1
  funext b
  cases b with
  | false => rfl
  | true =>
    show evsK s.f o.args _ = ob (ob (evs s.f o.args) _) c
    rw [evsK_eq, ob_ob]
    congr 1
    funext vs
    rw [runCK_eq, ob_ob]
    rfl
def runDsQ (call : CallT) (l : List COper) : St → (St → R) → R :=
  List.rec (motive := fun _ => St → (St → R) → R) (fun s c => c s) (fun o _ ih s c => runDQ call o s fun s => ih s c) l
theorem runDsQ_eq (call : CallT) : ∀ (l : List COper) (s : St) (c : St → R), runDsQ call l s c = ob (runOpsD call l s) c
  | [], _, _ => rfl
  | o :: l, s, c => by
    show runDQ call o s (fun s => runDsQ call l s c) = ob (ob (o.runD call s) (runOpsD call l)) c
    rw [runDQ_eq, ob_ob]
    congr 1
    funext s'
    exact runDsQ_eq call l s' c
def execK (call : CallT) (rd : Bool) (n : Nat) (c : FC) : F → H → KN → (Nat → KN) → KN → R :=
  FC.rec (motive := fun _ => F → H → KN → (Nat → KN) → KN → R)
    (fun f h kn _ _ => kn f h)
    (fun d g a _ ih f h kn ke kr => evK f (fun x => g x fun v => ih (d.put f v) h kn ke kr) a)
    (fun d g a b _ ih f h kn ke kr => evK f (fun x => evK f (fun y => g x y fun v => ih (d.put f v) h kn ke kr) b) a)
    (fun d g a _ ih f h kn ke kr => evK f (fun x => g h x fun v => ih (d.put f v) h kn ke kr) a)
    (fun d g a b _ ih f h kn ke kr => evK f (fun x => evK f (fun y => g h x y fun v h' => ih (d.put f v) h' kn ke kr) b) a)
    (fun d g args _ ih f h kn ke kr => evsK f args fun vs => g call h vs fun v h' => ih (d.put f v) h' kn ke kr)
    (fun x w d g args _ ih f h kn ke kr => ob (wants (x.ev f) w) fun b => Bool.rec (motive := fun _ => R) (ih (d.put f undefV) h kn ke kr) (evsK f args fun vs => g call h vs fun v h' => ih (d.put f v) h' kn ke kr) b)
    (fun f h kn _ _ => kn (clr f) h)
    (fun ops f h kn _ _ => runDsQ call ops ⟨f, h, [], []⟩ fun s => oif (Bool.rec (motive := fun _ => Bool) (checkAll s.cs (revL s.hs [s.h])) true (quiet ops)) (kn (clr s.f) s.h))
    (fun _ _ ia ib f h kn ke kr => ia f h (fun f h => ib f h kn ke kr) ke kr)
    (fun o _ _ ia ib f h kn ke kr => evK f (asBool fun b => Bool.rec (motive := fun _ => R) (ib f h kn ke kr) (ia f h kn ke kr) b) o)
    (fun id _ e f h kn ke kr => e f h kn (fun j f h => Bool.rec (motive := fun _ => R) (ke j f h) (kn f h) (Nat.beq j id)) kr)
    (fun _ e f h kn ke kr => loopK e n f h kn ke kr)
    (fun cc f h kn ke kr => ob (exec call rd n cc f h) (toX kn ke kr))
    (fun g f h kn _ _ => g call f h kn)
    (fun id f h _ ke _ => ke id f h)
    (fun f h _ _ kr => kr f h) c
/- From the slow code. -/
def stK {α : Type} (n : Nat) : KW α := fun h x y c => asPtr (fun id off => oif (Nat.beq (lenL (cellsQ y)) n) (ob (wrQ id (cellsQ y) off h) fun h => c undefV h)) x
def bin2 {α : Type} (op : BinOp) (bi : Bi α) (bs : Bs α) : K2 α := fun x y c => asIntStrF (fun k a => numK op bi k a y c) (fun n a => asStr (fun m b => bs n a m b c) y) (fun g a => yieldQ (fun k => ob (binF op k a y) c) g) x
def selB {α β : Type} (op : BinOp) (s : K2 α → β) : β :=
  BinOp.rec (motive := fun _ => β) (s (bin2 .add biAdd (bsGen .add))) (s (bin2 .sub biSub (bsGen .sub))) (s (bin2 .mul biMul (bsGen .mul))) (s (bin2 .quo (biGen .quo) (bsGen .quo))) (s (bin2 .rem (biGen .rem) (bsGen .rem))) (s (bin2 .and (biGen .and) (bsGen .and))) (s (bin2 .or (biGen .or) (bsGen .or)))
    (s (bin2 .xor (biGen .xor) (bsGen .xor))) (s (bin2 .shl biShl (bsGen .shl))) (s (bin2 .shr biShr (bsGen .shr))) (s (bin2 .andNot (biGen .andNot) (bsGen .andNot))) (s (bin2 .eql biEql bsEql)) (s (bin2 .neq biNeq bsNeq)) (s (bin2 .lss biLss (bsGen .lss))) (s (bin2 .leq biLeq (bsGen .leq))) (s (bin2 .gtr biGtr (bsGen .gtr))) (s (bin2 .geq biGeq (bsGen .geq))) op
def selU {α β : Type} (op : UnOp) (s : K1 α → β) : β := UnOp.rec (motive := fun _ => β) (s (k1Un .neg)) (s (k1Un .xor)) (s k1Not) (s (k1Un .plus)) op
def selL {α β : Type} (k : Lk) (s : K1 α → β) : β := Lk.rec (motive := fun _ => β) (s k1LenS) (s k1LenL) (fun n => s (k1LenC n)) k
def sel1 {α β : Type} (o : POp) (s : K1 α → β) : β :=
  POp.rec (motive := fun _ => β) (s k1Mv) (s noK1) (fun z p => s (k1Build z p)) (s k1Nil) (fun _ => s noK1) (fun _ _ => s noK1) (fun op => selU op s) (fun k => s (k1ToInt k)) (s k1Sid) (fun t => s (k1Mki t)) (fun f n => s (k1Gen (.mkf f n))) (fun n => s (k1Fa n)) (fun a b d => s (k1Field a b d))
    (fun _ _ => s noK1) (fun _ => s noK1) (s noK1) (fun _ _ _ => s noK1) (fun k a b d => s (k1Gen (.slc k a b d))) (fun i => s (k1Ext i)) (fun k => selL k s) (s k1Mv) (s k1Mv) o
def sel2 {α β : Type} (o : POp) (s : K2 α → β) : β :=
  POp.rec (motive := fun _ => β) (s noK2) (s noK2) (fun z p => s (k2Gen (.build z p))) (s noK2) (fun op => selB op s) (fun k n => s (k2Eqd k n)) (fun _ => s noK2) (fun _ => s noK2) (s noK2) (fun _ => s noK2) (fun f n => s (k2Gen (.mkf f n))) (fun _ => s noK2) (fun _ _ _ => s noK2)
    (fun a b => s (k2Ixarrp a b)) (fun a => s (k2Ixsl a)) (s k2Ixstr) (fun a b d => s (k2Ixarr a b d)) (fun k a b d => s (k2Gen (.slc k a b d))) (fun _ => s noK2) (fun _ => s noK2) (s (k2Gen .mins)) (s (k2Gen .maxs)) o
theorem sel1_eq {α β : Type} (o : POp) (s : K1 α → β) : sel1 o s = s (run1K o) := by
  cases o with
  | un op => cases op <;> rfl
  | leng k => cases k <;> rfl
  | _ => rfl
theorem bin2_eq {α : Type} (op : BinOp) : (binK op : K2 α) = bin2 op (biQ op) (bsQ op) := rfl
theorem sel2_eq {α β : Type} (o : POp) (s : K2 α → β) : sel2 o s = s (run2K o) := by
  cases o with
  | bin op => cases op <;> rfl
  | _ => rfl
def selC {β : Type} (o : COp) (s : KC (V × H) → β) : β :=
  COp.rec (motive := fun _ => β) (fun o => s (kcP o)) (fun o => s (kcR o)) (fun o => s (kcA o)) (fun o => s (kcE o)) (fun f => s (kcCall f)) (s kcVal) o
theorem selC_eq {β : Type} (o : COp) (s : KC (V × H) → β) : selC o s = s (runCK o) := by cases o <;> rfl
def genF (o : COper) (k : FC) : FC := selC o.op fun g => .opc o.dst g o.args k
def fopP (d : Dst) (po : POp) (args : List Opd) (k : FC) : FC :=
  caseL args (.opc d (kcP po) args k) fun a t => caseL t (sel1 po fun g => .op1 d g a k) fun b t2 => caseL t2 (sel2 po fun g => .op2 d g a b k) fun _ _ => .opc d (kcP po) args k
def fopR (d : Dst) (ro : ROp) (args : List Opd) (k : FC) : FC :=
  caseL args (.opc d (kcR ro) args k) fun a t => caseL t (ROp.rec (motive := fun _ => FC) (fun b n => .m1 d (loadK b n) a k) (fun _ _ _ => .opc d (kcR ro) args k) (.opc d (kcR ro) args k) (.opc d (kcR ro) args k) (fun _ _ => .opc d (kcR ro) args k) ro) fun _ _ => .opc d (kcR ro) args k
def fopE (d : Dst) (eo : EOp) (args : List Opd) (k : FC) : FC :=
  caseL args (.opc d (kcE eo) args k) fun a t => caseL t (.opc d (kcE eo) args k) fun b t2 => caseL t2
    (EOp.rec (motive := fun _ => FC) (fun n => .w2 d (stK n) a b k) (fun _ _ _ => .opc d (kcE eo) args k) (fun _ => .opc d (kcE eo) args k) (fun _ => .opc d (kcE eo) args k) (fun _ => .opc d (kcE eo) args k) (fun _ => .opc d (kcE eo) args k) (.opc d (kcE eo) args k) (fun _ _ => .opc d (kcE eo) args k) (.opc d (kcE eo) args k) (.opc d (kcE eo) args k) (.opc d (kcE eo) args k) (.opc d (kcE eo) args k) eo) fun _ _ => .opc d (kcE eo) args k
def fop (o : COper) (k : FC) : FC :=
  Option.rec (motive := fun _ => FC)
    (COp.rec (motive := fun _ => FC) (fun po => fopP o.dst po o.args k) (fun ro => fopR o.dst ro o.args k) (fun _ => genF o k) (fun eo => fopE o.dst eo o.args k) (fun _ => genF o k) (genF o k) o.op)
    (fun p => selC o.op fun g => .gd p.1 p.2 o.dst g o.args k) o.guard
def fops (l : List COper) : FC := List.rec (motive := fun _ => FC) .fin (fun o _ ih => fop o ih) l
def fast (c : CCode) : FC :=
  CCode.rec (motive := fun _ => FC) .skip fops (fun l => Bool.rec (motive := fun _ => FC) (.dr l) (fops l) (quiet l)) (fun _ _ a b => .seq a b) (fun o _ _ a b => .cond o a b) (fun id _ c => .block id c) (fun _ c => .loop c) (fun f ps a b _ _ => .slow (.rangeF f ps a b)) .exit .ret c
theorem opc_eq (call : CallT) (rd : Bool) (n : Nat) (d : Dst) (o : COp) (args : List Opd) (k : FC) (f : F) (h : H) (kn : KN) (ke : Nat → KN) (kr : KN) :
    execK call rd n (.opc d (runCK o) args k) f h kn ke kr = ob (evs f args) fun vs => ob (o.run call vs h) fun r => execK call rd n k (d.put f r.1) r.2 kn ke kr := by
  show evsK f args _ = _
  rw [evsK_eq]
  congr 1
  funext vs
  rw [runCK_eq]
  rfl
theorem fop_eq (call : CallT) (rd : Bool) (n : Nat) (o : COper) (k : FC) (f : F) (h : H) (kn : KN) (ke : Nat → KN) (kr : KN) :
    execK call rd n (fop o k) f h kn ke kr = ob (o.run call f h) fun r => execK call rd n k r.1 r.2 kn ke kr := by
  obtain ⟨d, op, args, g, lo, hi⟩ := o
  have plain : execK call rd n (.opc d (runCK op) args k) f h kn ke kr = ob (COper.run call ⟨d, op, args, none, lo, hi⟩ f h) fun r => execK call rd n k r.1 r.2 kn ke kr := by
    rw [opc_eq]
    show _ = ob (ob (some true) fun b => Bool.rec (motive := fun _ => Option (F × H)) (some (d.put f undefV, h)) (ob (evs f args) fun vs => ob (op.run call vs h) fun r => some (d.put f r.1, r.2)) b) _
    rw [ob_of]
    show _ = ob (ob (evs f args) fun vs => ob (op.run call vs h) fun r => some (d.put f r.1, r.2)) _
    rw [ob_ob]
    congr 1
    funext vs
    rw [ob_ob]
    rfl
  cases g with
  | some p =>
    show execK call rd n (selC op fun g => FC.gd p.1 p.2 d g args k) f h kn ke kr = _
    rw [selC_eq]
    show (ob (wants (p.1.ev f) p.2) fun b => Bool.rec (motive := fun _ => R) (execK call rd n k (d.put f undefV) h kn ke kr) (evsK f args fun vs => runCK op call h vs fun v h' => execK call rd n k (d.put f v) h' kn ke kr) b) =
      ob (ob (wants (p.1.ev f) p.2) fun b => Bool.rec (motive := fun _ => Option (F × H)) (some (d.put f undefV, h)) (ob (evs f args) fun vs => ob (op.run call vs h) fun r => some (d.put f r.1, r.2)) b) _
    rw [ob_ob]
    congr 1
    funext b
    cases b with
    | false => rfl
    | true =>
      show evsK f args _ = ob (ob (evs f args) fun vs => ob (op.run call vs h) fun r => some (d.put f r.1, r.2)) _
      rw [evsK_eq, ob_ob]
      congr 1
      funext vs
      rw [runCK_eq, ob_ob]
      rfl
  | none =>
    have gen : execK call rd n (genF ⟨d, op, args, none, lo, hi⟩ k) f h kn ke kr = ob (COper.run call ⟨d, op, args, none, lo, hi⟩ f h) fun r => execK call rd n k r.1 r.2 kn ke kr := by
      unfold genF
      rw [selC_eq]
      exact plain
    cases op with
    | a o => exact gen
    | call f => exact gen
    | callv => exact gen
    | p po =>
      show execK call rd n (fopP d po args k) f h kn ke kr = _
      unfold fopP
      cases args with
      | nil => exact plain
      | cons a t => cases t with
        | nil =>
          show execK call rd n (sel1 po fun g => .op1 d g a k) f h kn ke kr = _
          rw [sel1_eq, ← plain, opc_eq]
          show evK f (fun x => run1K po x fun v => execK call rd n k (d.put f v) h kn ke kr) a = ob (ob (a.ev f) fun v => ob (some []) fun vs => some (v :: vs)) fun vs => ob (ob (po.run vs) fun v => some (v, h)) fun r => execK call rd n k (d.put f r.1) r.2 kn ke kr
          rw [evK_eq, ob_ob]
          congr 1
          funext x
          rw [run1K_eq, ob_of, ob_of, ob_ob]
          rfl
        | cons b t => cases t with
          | nil =>
            show execK call rd n (sel2 po fun g => .op2 d g a b k) f h kn ke kr = _
            rw [sel2_eq, ← plain, opc_eq]
            show evK f (fun x => evK f (fun y => run2K po x y fun v => execK call rd n k (d.put f v) h kn ke kr) b) a = ob (ob (a.ev f) fun v => ob (ob (b.ev f) fun v => ob (some []) fun vs => some (v :: vs)) fun vs => some (v :: vs)) fun vs => ob (ob (po.run vs) fun v => some (v, h)) fun r => execK call rd n k (d.put f r.1) r.2 kn ke kr
            rw [evK_eq, ob_ob]
            congr 1
            funext x
            rw [evK_eq, ob_ob, ob_ob]
            congr 1
            funext y
            rw [run2K_eq]
            simp only [ob_of]
            rw [ob_ob]
            rfl
          | cons b t => exact plain
    | r ro =>
      show execK call rd n (fopR d ro args k) f h kn ke kr = _
      unfold fopR
      cases args with
      | nil => exact plain
      | cons a t => cases t with
        | cons b t => exact plain
        | nil =>
          cases ro with
          | load b nn =>
            rw [← plain, opc_eq]
            show evK f (fun x => loadK b nn h x fun v => execK call rd n k (d.put f v) h kn ke kr) a = ob (ob (a.ev f) fun v => ob (some []) fun vs => some (v :: vs)) fun vs => ob (ob ((ROp.load b nn).run vs h) fun v => some (v, h)) fun r => execK call rd n k (d.put f r.1) r.2 kn ke kr
            rw [evK_eq, ob_ob]
            congr 1
            funext x
            rw [loadK_eq, ob_of, ob_of, ob_ob]
            rfl
          | _ => exact plain
    | e eo =>
      show execK call rd n (fopE d eo args k) f h kn ke kr = _
      unfold fopE
      cases args with
      | nil => exact plain
      | cons a t => cases t with
        | nil => exact plain
        | cons b t => cases t with
          | cons b t => exact plain
          | nil =>
            cases eo with
            | store nn =>
              rw [← plain, opc_eq]
              show evK f (fun x => evK f (fun y => stK nn h x y fun v h' => execK call rd n k (d.put f v) h' kn ke kr) b) a = ob (ob (a.ev f) fun v => ob (ob (b.ev f) fun v => ob (some []) fun vs => some (v :: vs)) fun vs => some (v :: vs)) fun vs => ob ((EOp.store nn).run vs h) fun r => execK call rd n k (d.put f r.1) r.2 kn ke kr
              rw [evK_eq, ob_ob]
              congr 1
              funext x
              rw [evK_eq, ob_ob, ob_ob]
              congr 1
              funext y
              simp only [ob_of]
              have := runEK_eq (.store nn) h [x, y] fun v h' => execK call rd n k (d.put f v) h' kn ke kr
              exact this
            | _ => exact plain
theorem fops_eq (call : CallT) (rd : Bool) (n : Nat) : ∀ (l : List COper) (f : F) (h : H) (kn : KN) (ke : Nat → KN) (kr : KN), execK call rd n (fops l) f h kn ke kr = ob (runOps call l f h) fun r => kn (clr r.1) r.2
  | [], _, _, _, _, _ => rfl
  | o :: l, f, h, kn, ke, kr => by
    show execK call rd n (fop o (fops l)) f h kn ke kr = ob (ob (o.run call f h) fun r => runOps call l r.1 r.2) _
    rw [fop_eq, ob_ob]
    congr 1
    funext r
    exact fops_eq call rd n l r.1 r.2 kn ke kr
theorem thenN_toX (o : Res) (k : F → H → Res) (kn : KN) (ke : Nat → KN) (kr : KN) : ob (thenN o k) (toX kn ke kr) = ob o (toX (fun f h => ob (k f h) (toX kn ke kr)) ke kr) := by
  cases o with
  | none => rfl
  | some r =>
    obtain ⟨x, f, h⟩ := r
    cases x <;> rfl
theorem loopK_eq (e : F → H → KN → (Nat → KN) → KN → R) (body : F → H → Res) (he : ∀ f h kn ke kr, e f h kn ke kr = ob (body f h) (toX kn ke kr)) : ∀ (n : Nat) (f : F) (h : H) (kn : KN) (ke : Nat → KN) (kr : KN), loopK e n f h kn ke kr = ob (loopN body n f h) (toX kn ke kr)
  | 0, _, _, _, _, _ => rfl
  | n + 1, f, h, kn, ke, kr => by
    show e f h (fun f h => loopK e n f h kn ke kr) ke kr = ob (thenN (body f h) (loopN body n)) (toX kn ke kr)
    rw [he, thenN_toX]
    congr 2
    funext f h
    exact loopK_eq e body he n f h kn ke kr
theorem quiet_runs (call : CallT) : ∀ (l : List COper), quiet l = true → ∀ (f : F) (h : H) (hs : List H) (cs : List Tc) (k : KN), (ob (runOpsD call l ⟨f, h, hs, cs⟩) fun s => k s.f s.h) = ob (runOps call l f h) fun r => k r.1 r.2
  | [], _, _, _, _, _, _ => rfl
  | o :: l, q, f, h, hs, cs, k => by
    show (ob (ob (o.runD call ⟨f, h, hs, cs⟩) (runOpsD call l)) fun s => k s.f s.h) = ob (ob (o.run call f h) fun r => runOps call l r.1 r.2) fun r => k r.1 r.2
    rw [ob_ob, ob_ob]
    obtain ⟨d, op, args, gd, lo, hi⟩ := o
    unfold COper.runD COper.run
    cases op with
    | p po =>
      have q : quiet l = true := q
      show ob (ob (guardOk f gd) _) _ = ob (ob (guardOk f gd) _) _
      rw [ob_ob, ob_ob]
      cases guardOk f gd with
      | none => rfl
      | some b => cases b with
        | false => exact quiet_runs call l q _ _ _ _ k
        | true =>
          show ob (ob (evs f args) _) _ = ob (ob (evs f args) _) _
          cases evs f args with
          | none => rfl
          | some vs =>
            show ob (ob (ob (po.run vs) _) _) _ = ob (ob (ob (po.run vs) _) _) _
            cases po.run vs with
            | none => rfl
            | some v => exact quiet_runs call l q _ _ _ _ k
    | r ro =>
      have q : quiet l = true := q
      show ob (ob (guardOk f gd) _) _ = ob (ob (guardOk f gd) _) _
      rw [ob_ob, ob_ob]
      cases guardOk f gd with
      | none => rfl
      | some b => cases b with
        | false => exact quiet_runs call l q _ _ _ _ k
        | true =>
          show ob (ob (evs f args) _) _ = ob (ob (evs f args) _) _
          cases evs f args with
          | none => rfl
          | some vs =>
            show ob (ob (ob (ro.run vs h) _) _) _ = ob (ob (ob (ro.run vs h) _) _) _
            cases ro.run vs h with
            | none => rfl
            | some v => exact quiet_runs call l q _ _ _ _ k
    | _ => cases q
theorem execK_eq (call : CallT) (rd : Bool) (n : Nat) : ∀ (c : CCode) (f : F) (h : H) (kn : KN) (ke : Nat → KN) (kr : KN), execK call rd n (fast c) f h kn ke kr = ob (exec call rd n c f h) (toX kn ke kr) := by
  intro c
  induction c with
  | skip => intros; rfl
  | reg ops =>
    intro f h kn ke kr
    show execK call rd n (fops ops) f h kn ke kr = ob (ob (runOps call ops f h) fun r => (some (X.norm, clr r.1, r.2) : Res)) _
    rw [fops_eq, ob_ob]
    rfl
  | regD ops =>
    intro f h kn ke kr
    cases q : quiet ops with
    | false =>
      have e : fast (.regD ops) = .dr ops := by
        show (Bool.rec (motive := fun _ => FC) (.dr ops) (fops ops) (quiet ops) : FC) = _
        rw [q]
      rw [e]
      show runDsQ call ops ⟨f, h, [], []⟩ _ = ob (ob (runOpsD call ops ⟨f, h, [], []⟩) fun s => oif (Bool.rec (motive := fun _ => Bool) (checkAll s.cs (revL s.hs [s.h])) true (quiet ops)) (some (X.norm, clr s.f, s.h) : Res)) _
      rw [runDsQ_eq, ob_ob]
      congr 1
      funext s
      rw [ob_oif]
      rfl
    | true =>
      have e : fast (.regD ops) = fops ops := by
        show (Bool.rec (motive := fun _ => FC) (.dr ops) (fops ops) (quiet ops) : FC) = _
        rw [q]
      rw [e]
      show execK call rd n (fops ops) f h kn ke kr = ob (ob (runOpsD call ops ⟨f, h, [], []⟩) fun s => oif (Bool.rec (motive := fun _ => Bool) (checkAll s.cs (revL s.hs [s.h])) true (quiet ops)) (some (X.norm, clr s.f, s.h) : Res)) _
      rw [fops_eq, q]
      show _ = ob (ob (runOpsD call ops ⟨f, h, [], []⟩) fun s => (some (X.norm, clr s.f, s.h) : Res)) _
      rw [ob_ob]
      exact (quiet_runs call ops q f h [] [] fun f h => kn (clr f) h).symm
  | seq a b iha ihb =>
    intro f h kn ke kr
    show execK call rd n (fast a) f h (fun f h => execK call rd n (fast b) f h kn ke kr) ke kr = ob (thenN (exec call rd n a f h) (exec call rd n b)) _
    rw [iha, thenN_toX]
    congr 2
    funext f h
    exact ihb f h kn ke kr
  | cond o a b iha ihb =>
    intro f h kn ke kr
    show evK f (asBool fun b' => Bool.rec (motive := fun _ => R) (execK call rd n (fast b) f h kn ke kr) (execK call rd n (fast a) f h kn ke kr) b') o = ob (ob (o.ev f) _) _
    rw [evK_eq, ob_ob]
    congr 1
    funext v
    rw [asBool_eq]
    cases v <;> first | rfl | skip
    rename_i b'
    cases b'
    · exact ihb f h kn ke kr
    · exact iha f h kn ke kr
  | block id c ih =>
    intro f h kn ke kr
    show execK call rd n (fast c) f h kn (fun j f h => Bool.rec (motive := fun _ => R) (ke j f h) (kn f h) (Nat.beq j id)) kr = ob (blockX id (exec call rd n c f h)) _
    rw [ih]
    cases exec call rd n c f h with
    | none => rfl
    | some r =>
      obtain ⟨x, f1, h1⟩ := r
      cases x with
      | norm => rfl
      | ret => rfl
      | exit j =>
        show Bool.rec (motive := fun _ => R) (ke j f1 h1) (kn f1 h1) (Nat.beq j id) = ob (Bool.rec (motive := fun _ => Res) (some (.exit j, f1, h1)) (some (.norm, f1, h1)) (Nat.beq j id)) _
        cases Nat.beq j id <;> rfl
  | loop c ih =>
    intro f h kn ke kr
    exact loopK_eq _ _ ih n f h kn ke kr
  | rangeF g ps a b iha ihb => intros; rfl
  | exit id => intros; rfl
  | ret => intros; rfl
/- Calls. -/
structure FF where
  params : Nat
  code : FC
  results : List CRes
def fastF (c : CF) : FF := ⟨c.params, fast c.code, c.results⟩
def resK (f : F) (h : H) (l : List CRes) : R := ob (resOf f h l) fun l => some (oneOrTup l, h)
def enterK (call : CallT) (n : Nat) (c : FF) (vs : List V) (h : H) : R :=
  oif (Nat.beq (lenL vs) c.params) (execK call false n c.code ⟨numbered vs 0, []⟩ h (fun f h => resK f h c.results) (fun _ _ _ => none) (fun f h => resK f h c.results))
theorem enterK_eq (call : CallT) (n : Nat) (c : CF) (vs : List V) (h : H) : enterK call n (fastF c) vs h = enter call n c vs h := by
  unfold enterK enter fastF
  simp only
  rw [execK_eq]
  congr 1
  congr 1
  funext r
  obtain ⟨x, f, h'⟩ := r
  cases x <;> rfl
def callK (prim : FuncId → Option (List V → H → Option (V × H))) (tab : FuncId → Option FF) (n : Nat) : CallT :=
  Nat.rec (motive := fun _ => CallT) (fun _ _ _ => none)
    (fun _ ih c vs h => Callee.rec (motive := fun _ => Option (V × H))
      (fun f => Option.rec (motive := fun _ => Option (V × H)) (ob (tab f) fun cf => enterK ih 1000000 cf vs h)
        (fun g => Option.rec (motive := fun _ => Option (V × H)) (ob (tab f) fun cf => enterK ih 1000000 cf vs h) some (g vs h)) (prim f))
      (fun id => round ih 1000000 id vs h) c) n
theorem callK_eq (prim : FuncId → Option (List V → H → Option (V × H))) (tab : FuncId → Option CF) : ∀ n, callK prim (fun f => ob (tab f) fun c => some (fastF c)) n = callN prim tab n
  | 0 => rfl
  | n + 1 => by
    have ih := callK_eq prim tab n
    funext c vs h
    have go : ∀ f, (ob (ob (tab f) fun c => some (fastF c)) fun cf => enterK (callK prim (fun f => ob (tab f) fun c => some (fastF c)) n) 1000000 cf vs h) = ob (tab f) fun cf => enter (callN prim tab n) 1000000 cf vs h := by
      intro f
      rw [ob_ob, ih]
      congr 1
      funext cf
      rw [ob_of, enterK_eq]
    cases c with
    | fn f =>
      show (Option.rec (motive := fun _ => Option (V × H)) (ob (ob (tab f) fun c => some (fastF c)) fun cf => enterK (callK prim (fun f => ob (tab f) fun c => some (fastF c)) n) 1000000 cf vs h)
        (fun g => Option.rec (motive := fun _ => Option (V × H)) (ob (ob (tab f) fun c => some (fastF c)) fun cf => enterK (callK prim (fun f => ob (tab f) fun c => some (fastF c)) n) 1000000 cf vs h) some (g vs h)) (prim f) : Option (V × H)) = _
      rw [go]
      rfl
    | yld id =>
      show round (callK prim (fun f => ob (tab f) fun c => some (fastF c)) n) 1000000 id vs h = round (callN prim tab n) 1000000 id vs h
      rw [ih]
end
end Ev
end Go.Proofs.YtogbcielgfidlaaGreatDoor
namespace Go.Proofs.YtogbcielgfidlaaGreatDoor
set_option linter.unusedVariables false
set_option linter.unusedSimpArgs false
namespace Ev
variable [Opq]
set_option linter.unusedSectionVars false
noncomputable section
def tSl (p : Nat → Nat → Nat → Nat → Bool → Nat → Bool) (v : V) : Bool :=
  V.rec (motive_1 := fun _ => Bool) (motive_2 := fun _ => Unit) (fun _ => false) (fun _ _ => false) (fun _ _ => false) false (fun _ _ => false) false p false (fun _ => false) (fun _ _ _ _ _ => false) (fun _ => false) false (fun _ _ _ => false) false (fun _ _ => false) (fun _ _ => false) () (fun _ _ _ _ => ()) v
def tt2 (a b : Bool) : Bool := Bool.rec (motive := fun _ => Bool) false b a
def tTup (p : List V → Bool) (v : V) : Bool :=
  V.rec (motive_1 := fun _ => Bool) (motive_2 := fun _ => Unit) (fun _ => false) (fun _ _ => false) (fun _ _ => false) false (fun _ _ => false) false (fun _ _ _ _ _ _ => false) false (fun _ => false) (fun _ _ _ _ _ => false) (fun _ => false) false (fun _ _ _ => false) false (fun _ _ => false) (fun cs _ => p cs) () (fun _ _ _ _ => ()) v
def exOk (ex : Option Nat) (len cap : Nat) (e : Bool) : Bool :=
  Option.rec (motive := fun _ => Bool) (Bool.rec (motive := fun _ => Bool) true false e) (fun c => tt2 e (tt2 (Nat.beq c cap) (Nat.blt 0 len || Nat.beq cap 0))) ex
def sameSl (ro : Bool) (len es : Nat) (ex : Option Nat) (k : Nat → H → (Nat → Option V) → Nat → Nat → Bool → Bool) (lo : Nat) (h : H) (v : V) : Bool :=
  tSl (fun id off len' cap ex' es' => tt2 (Nat.beq len len') (tt2 (Nat.beq es es') (tt2 (Nat.blt 0 es) (tt2 (exOk ex len cap ex') (tt2 (Nat.ble lo id) (tt2 (h.isC id || ro)
    (Option.rec (motive := fun _ => Bool) false (fun b => k lo h (fun j => Bool.rec (motive := fun _ => Option V) none (b.2.get j) (Nat.blt j b.1)) off (Nat.add off (Nat.mul len es)) true) (h.cells id))))))) ) v
def sameC (d : D) (s : V → Bool) (k : Nat → Bool) (get : Nat → Option V) (j : Nat) (one : Bool) : Bool :=
  Option.rec (motive := fun _ => Bool) false (fun y => tt2 (Bool.rec (motive := fun _ => Bool) true d.one one) (tt2 (s y) (k (Nat.succ j)))) (get j)
def sameD (ro : Bool) (d : D) : Nat → H → V → Bool := D.rec (motive_1 := fun _ => Nat → H → V → Bool) (motive_2 := fun _ => Nat → H → (Nat → Option V) → Nat → Nat → Bool → Bool)
  (fun x _ _ v => tt2 (flat x) (eqF x v))
  (fun len es ex _ ih => sameSl ro len es ex ih)
  (fun _ ih lo h v => tAgg (fun l => ih lo h (nthL l) 0 (lenL l) false) v)
  (fun _ ih lo h v => tTup (fun l => ih lo h (nthL l) 0 (lenL l) false) v)
  (fun _ _ _ j e _ => Nat.beq j e)
  (fun d _ i1 i2 lo h get j e one => sameC d (i1 lo h) (fun j => i2 lo h get j e one) get j one) d
def sameL (ro : Bool) (cs : List D) : Nat → H → (Nat → Option V) → Nat → Nat → Bool → Bool :=
  List.rec (motive := fun _ => Nat → H → (Nat → Option V) → Nat → Nat → Bool → Bool) (fun _ _ _ j e _ => Nat.beq j e) (fun d _ i2 lo h get j e one => sameC d (sameD ro d lo h) (fun j => i2 lo h get j e one) get j one) cs
end
theorem tt2_and {a b : Bool} : tt2 a b = true ↔ a = true ∧ b = true := by cases a <;> cases b <;> simp [tt2]
theorem sameL_cons (ro : Bool) (d : D) (cs : List D) (lo : Nat) (h : H) (get : Nat → Option V) (j e : Nat) (one : Bool)   : sameL ro (d :: cs) lo h get j e one = sameC d (sameD ro d lo h) (fun j => sameL ro cs lo h get j e one) get j one := rfl
theorem sameL_eq (ro : Bool) (cs : List D) : sameL ro cs = D.rec_1 (motive_1 := fun _ => Nat → H → V → Bool) (motive_2 := fun _ => Nat → H → (Nat → Option V) → Nat → Nat → Bool → Bool)
  (fun x _ _ v => tt2 (flat x) (eqF x v))
  (fun len es ex _ ih => sameSl ro len es ex ih)
  (fun _ ih lo h v => tAgg (fun l => ih lo h (nthL l) 0 (lenL l) false) v)
  (fun _ ih lo h v => tTup (fun l => ih lo h (nthL l) 0 (lenL l) false) v)
  (fun _ _ _ j e _ => Nat.beq j e)
  (fun d _ i1 i2 lo h get j e one => sameC d (i1 lo h) (fun j => i2 lo h get j e one) get j one) cs := by
  induction cs with
  | nil => rfl
  | cons d cs ih => funext lo h get j e one; rw [sameL_cons, ih]; rfl
theorem same_sl (ro : Bool) (len es : Nat) (ex : Option Nat) (cs : List D) : sameD ro (.sl len es ex cs) = sameSl ro len es ex (sameL ro cs) := by rw [sameL_eq]; rfl
theorem same_agg (ro : Bool) (cs : List D) (lo : Nat) (h : H) (v : V) : sameD ro (.agg cs) lo h v = tAgg (fun l => sameL ro cs lo h (nthL l) 0 (lenL l) false) v := by rw [sameL_eq]; rfl
theorem same_tup (ro : Bool) (cs : List D) (lo : Nat) (h : H) (v : V) : sameD ro (.tup cs) lo h v = tTup (fun l => sameL ro cs lo h (nthL l) 0 (lenL l) false) v := by rw [sameL_eq]; rfl
theorem nthL_get {α : Type} : ∀ (l : List α) (i : Nat), nthL l i = l[i]?
  | [], i => by simp [nthL]
  | x :: l, 0 => rfl
  | x :: l, i + 1 => by
    show nthL l (Nat.sub (i + 1) 1) = _
    rw [show Nat.sub (i + 1) 1 = i from rfl, nthL_get l i, List.getElem?_cons_succ]
theorem exOk_ok {ex : Option Nat} {len cap : Nat} {e : Bool} (h : exOk ex len cap e = true) : (ex = none ∧ e = false) ∨ (ex = some cap ∧ e = true ∧ (0 < len ∨ cap = 0)) := by
  cases ex with
  | none => cases e <;> first | exact .inl ⟨rfl, rfl⟩ | cases h
  | some c =>
    obtain ⟨h1, h2⟩ := tt2_and.1 (show tt2 e _ = true from h)
    obtain ⟨h2, h3⟩ := tt2_and.1 h2
    rw [Bool.or_eq_true, Nat.blt_eq, Nat.beq_eq] at h3
    exact .inr ⟨by rw [Nat.eq_of_beq_eq_true h2], h1, h3⟩
mutual
theorem same_ok {T : Ty} {g : G} {h : H} {w : World} (r : WR T g h w) {ro : Bool} {lo : Nat} {N : Nat → Prop} (hlo : ∀ id b o z, lo ≤ id → h.isC id = true ∨ ro = true → (∃ p, h.cells id = some p) → g id = some (b, o, z) → N b) : ∀ (d : D) {v : V} {u : Value}, sameD ro d lo h v = true → VR g v u → RdD w N u d
  | .v x, v, u, e, hv => by
    obtain ⟨h1, h2⟩ := tt2_and.1 (show tt2 (flat x) (eqF x v) = true from e)
    rw [← eqF_eq x v h2] at hv
    exact .v h1 (flat_vr h1 hv)
  | .sl len es ex cs, v, u, e, hv => by
    rw [same_sl] at e
    cases v with
    | sl id off len' cap ex' es' =>
      obtain ⟨e1, z1⟩ := tt2_and.1 (show tt2 _ _ = true from e)
      obtain ⟨e2, z2⟩ := tt2_and.1 z1
      obtain ⟨e3, z3⟩ := tt2_and.1 z2
      obtain ⟨e4, z4⟩ := tt2_and.1 z3
      obtain ⟨e5, z5⟩ := tt2_and.1 z4
      obtain ⟨e6, z6⟩ := tt2_and.1 z5
      clear e z1 z2 z3 z4 z5
      obtain rfl := Nat.eq_of_beq_eq_true e1
      obtain rfl := Nat.eq_of_beq_eq_true e2
      have es0 : 0 < es := by simpa using e3
      have e5 : lo ≤ id := by simpa using e5
      cases hc : h.cells id with
      | none => rw [hc] at z6; cases z6
      | some p =>
        rw [hc] at z6
        have hN : ∀ {b o z : Nat}, g id = some (b, o, z) → N b := fun hg => hlo id _ _ _ e5 (by simpa using e6) ⟨p, hc⟩ hg
        have e : sameL ro cs lo h (fun j => Bool.rec (motive := fun _ => Option V) none (p.2.get j) (Nat.blt j p.1)) off (Nat.add off (Nat.mul len es)) true = true := z6
        have main : ∀ {b o z : Nat}, g id = some (b, o, z) → ∃ c t xs, w.heap[b]? = some (.cells c t (0, 0)) ∧ c.size = o + z ∧ (∀ j u, xs[j]? = some u → c[o + off + j]? = some u) ∧ xs.length = len * es ∧ RdDs w N xs cs ∧ (0 < len * es → off + len * es ≤ z ∧ len * es ≤ keys) ∧ ∀ d, d ∈ cs → d.one = true := by
          intro b o z hg
          obtain ⟨b', o', z', c, t, k1, k2, k3, k4, k5, k6⟩ := cells_ok' r hg hc
          rw [hg] at k1
          cases k1
          obtain ⟨m1, us, m2, m3, m4, m6⟩ := sames_ok r hlo cs (val := fun j u => c[o + j]? = some u ∧ j < p.1) e (fun i y hy => by
            have hy : (Bool.rec (motive := fun _ => Option V) none (p.2.get i) (Nat.blt i p.1) : Option V) = some y := hy
            rw [brec_eq] at hy
            split at hy
            · rename_i q
              have q : i < p.1 := by simpa using q
              obtain ⟨u, t1, t2, _⟩ := k6 i y q hy
              exact ⟨u, ⟨t1, q⟩, t2⟩
            · cases hy)
          have m1 : off + len * es = off + cs.length := m1
          refine ⟨c, t, us, k2, k3, fun j u hj => ?_, by omega, m4, fun h0 => ?_, fun d hd => m6 rfl d hd⟩
          · rw [Nat.add_assoc]; exact (m3 j u hj).1
          · have hl : len * es - 1 < us.length := by omega
            have := (m3 (len * es - 1) us[len * es - 1] (List.getElem?_eq_getElem hl)).2
            exact ⟨by omega, by omega⟩
        have nil0 : ∀ {b o z : Nat}, g id = some (b, o, z) → len = 0 → cs = [] := by
          intro b o z hg h0
          obtain ⟨c, t, xs, _, _, _, q1, q2, _⟩ := main hg
          subst h0
          have := q2.length
          rw [Nat.zero_mul] at q1
          exact List.eq_nil_of_length_eq_zero (by omega)
        rcases exOk_ok e4 with ⟨rfl, rfl⟩ | ⟨rfl, rfl, hlen⟩
        · cases hv with
          | sli hg hc' hl =>
            obtain ⟨c, t, xs, q1, q2, q3, q4, q5, q6, q7⟩ := main hg
            refine .sl (hN hg) q1 q3 q4 ?_ ?_ (.inr ⟨rfl, by omega, hl⟩) q7 q5
            · have := Nat.mul_le_mul_right es hl
              omega
            · by_cases h0 : len * es = 0
              · omega
              · exact (q6 (by omega)).2
          | sl0 hg hz =>
            obtain ⟨c, t, xs, q1, _⟩ := main hg
            obtain rfl := nil0 hg rfl
            exact .emp (hN hg) q1 (.inr rfl)
        · cases hv with
          | slx hg =>
            obtain ⟨c, t, xs, q1, q2, q3, q4, q5, q6, q7⟩ := main hg
            by_cases h0 : len = 0
            · subst h0
              obtain rfl := nil0 hg rfl
              obtain rfl : cap = 0 := by rcases hlen with q | q <;> omega
              exact .emp (hN hg) q1 (.inl rfl)
            · have hpos : 0 < len * es := Nat.mul_pos (by omega) es0
              obtain ⟨k7, k8⟩ := q6 hpos
              exact .sl (hN hg) q1 q3 q4 (by omega) k8 (.inl rfl) q7 q5
          | slx0 hg =>
            obtain ⟨c, t, xs, q1, _⟩ := main hg
            obtain rfl := nil0 hg rfl
            exact .emp (hN hg) q1 (.inl rfl)
    | _ => cases e
  | .agg cs, v, u, e, hv => by
    rw [same_agg] at e
    cases v with
    | agg l =>
      cases hv with
      | agg hl =>
        rename_i x
        obtain ⟨m1, us, m2, m3, m4, _⟩ := sames_ok r hlo cs (val := fun j u => x[j]? = some u) (show sameL ro cs lo h (nthL l) 0 (lenL l) false = true from e) (fun i y hy => by
          rw [nthL_get] at hy
          exact hl.get hy)
        rw [lenL_eq, Nat.zero_add] at m1
        have : us = x := by
          apply List.ext_getElem?
          intro i
          by_cases hi : i < us.length
          · have := m3 i us[i] (List.getElem?_eq_getElem hi)
            rw [Nat.zero_add] at this
            rw [this, List.getElem?_eq_getElem hi]
          · rw [List.getElem?_eq_none (by omega), List.getElem?_eq_none (by rw [← hl.length]; omega)]
        rw [← this]
        exact .agg m4
    | _ => cases e
  | .tup cs, v, u, e, hv => by
    rw [same_tup] at e
    cases v with
    | tup l =>
      cases hv with
      | tup hl =>
        rename_i x
        obtain ⟨m1, us, m2, m3, m4, _⟩ := sames_ok r hlo cs (val := fun j u => x[j]? = some u) (show sameL ro cs lo h (nthL l) 0 (lenL l) false = true from e) (fun i y hy => by
          rw [nthL_get] at hy
          exact hl.get hy)
        rw [lenL_eq, Nat.zero_add] at m1
        have : us = x := by
          apply List.ext_getElem?
          intro i
          by_cases hi : i < us.length
          · have := m3 i us[i] (List.getElem?_eq_getElem hi)
            rw [Nat.zero_add] at this
            rw [this, List.getElem?_eq_getElem hi]
          · rw [List.getElem?_eq_none (by omega), List.getElem?_eq_none (by rw [← hl.length]; omega)]
        rw [← this]
        exact .tup m4
    | _ => cases e
theorem sames_ok {T : Ty} {g : G} {h : H} {w : World} (r : WR T g h w) {ro : Bool} {lo : Nat} {N : Nat → Prop} (hlo : ∀ id b o z, lo ≤ id → h.isC id = true ∨ ro = true → (∃ p, h.cells id = some p) → g id = some (b, o, z) → N b) : ∀ (cs : List D) {get : Nat → Option V} {val : Nat → Value → Prop} {j e : Nat} {one : Bool},
    sameL ro cs lo h get j e one = true → (∀ i y, get i = some y → ∃ u, val i u ∧ VR g y u) → e = j + cs.length ∧ ∃ us, us.length = cs.length ∧ (∀ i u, us[i]? = some u → val (j + i) u) ∧ RdDs w N us cs ∧ (one = true → ∀ d, d ∈ cs → d.one = true)
  | [], get, val, j, e, one, h0, _ => ⟨(Nat.eq_of_beq_eq_true (show Nat.beq j e = true from h0)).symm, [], rfl, (fun i u hu => by simp at hu), .nil, fun _ d hd => by cases hd⟩
  | d :: cs, get, val, j, e, one, h0, hg => by
    rw [sameL_cons] at h0
    unfold sameC at h0
    cases hy : get j with
    | none => rw [hy] at h0; cases h0
    | some y =>
      rw [hy] at h0
      obtain ⟨a1, h0⟩ := tt2_and.1 (show tt2 _ _ = true from h0)
      obtain ⟨a2, a3⟩ := tt2_and.1 h0
      obtain ⟨u, u1, u2⟩ := hg j y hy
      have k1 := same_ok r hlo d a2 u2
      obtain ⟨b1, us, b2, b3, b4, b5⟩ := sames_ok r hlo cs a3 hg
      refine ⟨by rw [List.length_cons]; omega, u :: us, by rw [List.length_cons, List.length_cons, b2], fun i x hx => ?_, .cons k1 b4, fun h1 d' hd' => ?_⟩
      · cases i with
        | zero =>
          rw [List.getElem?_cons_zero] at hx
          cases hx
          exact u1
        | succ i =>
          rw [List.getElem?_cons_succ] at hx
          rw [show j + (i + 1) = j + 1 + i by omega]
          exact b3 i x hx
      · cases hd' with
        | head =>
          rw [h1] at a1
          exact a1
        | tail _ hd' => exact b5 h1 d' hd'
end
/-- A call whose arguments are trees hands back this tree. -/
noncomputable def runE (call : CallT) (h0 : H) (f : FuncId) (ds : List D) (d : D) : Bool :=
  Prod.rec (motive := fun _ => Bool) (fun vs h => tt2 (Nat.ble h.next keys) (Option.rec (motive := fun _ => Bool) false (fun r => Prod.rec (motive := fun _ => Bool) (fun v h' => sameD false d h.next h' v) r) (call (.fn f) vs h))) (bldL ds h0)
theorem runE_ok {P : Program} {T : Ty} {call : CallT} (hk : CallOk P T call) {h0 : H} {f : FuncId} {ds : List D} {d : D} (e : runE call h0 f ds d = true) {w : World} {n : Nat → Prop} {us : List Value} (hb : Base T h0 w) (h : RdDs w n us ds) : Hands P f us w d := by
  have e : tt2 (Nat.ble (bldL ds h0).2.next keys) (Option.rec (motive := fun _ => Bool) false (fun r : V × H => sameD false d (bldL ds h0).2.next r.2 r.1) (call (.fn f) (bldL ds h0).1 (bldL ds h0).2)) = true := e
  obtain ⟨e1, e2⟩ := tt2_and.1 e
  cases e3 : call (.fn f) (bldL ds h0).1 (bldL ds h0).2 with
  | none => rw [e3] at e2; cases e2
  | some r =>
    rw [e3] at e2
    have e4 : sameD false d (bldL ds h0).2.next r.2 r.1 = true := e2
    obtain ⟨g0, q1, q2, q3⟩ := hb
    have hn : (bldL ds h0).2.next ≤ keys := by simpa using e1
    obtain ⟨g, ⟨k1, k2, k4, _⟩, k3, _⟩ := bldL_ok h q1 q2 hn
    obtain ⟨fn, m1, m2, m3, m4⟩ := hk.fn f _ _ r.1 r.2 e3 g w us k1 (q3.bld q1 ds hn k4) k3
    refine ⟨fn, m1, m2, m3, m4.mono ?_⟩
    rintro x w' ⟨g', u, rfl, n1, n2⟩
    exact ⟨u, rfl, same_ok n2.wr (N := fun b => w.heap.size ≤ b) (fun id b o z l1 l2 _ l3 => n2.anew k1 k2 l1 (l2.resolve_right fun h => by cases h) l3) d e4 n1, n2.size, n2.still k2, n2.os, n2.tape, n2.output⟩
/- Tries that are reckoned at once. -/
noncomputable section
def forceT {α β : Type} (t : Tr α) (k : Tr α → β) : β := Tr.rec (motive := fun _ => β) (k .e) (fun l v r _ _ => k (.n l v r)) t
def setS {α : Type} (x : Option α) (fuel : Nat) : Tr α → Nat → Tr α :=
  Nat.rec (motive := fun _ => Tr α → Nat → Tr α) (fun t _ => t)
    (fun _ ih t p => Tr.rec (motive := fun _ => Tr α)
      (Bool.rec (motive := fun _ => Tr α) (Bool.rec (motive := fun _ => Tr α) (forceT (ih .e (Nat.div p 2)) fun s => .n s none .e) (forceT (ih .e (Nat.div p 2)) fun s => .n .e none s) (Nat.beq (Nat.mod p 2) 1)) (.n .e x .e) (Nat.beq p 1))
      (fun l v r _ _ => Bool.rec (motive := fun _ => Tr α) (Bool.rec (motive := fun _ => Tr α) (forceT (ih l (Nat.div p 2)) fun s => .n s v r) (forceT (ih r (Nat.div p 2)) fun s => .n l v s) (Nat.beq (Nat.mod p 2) 1)) (.n l x r) (Nat.beq p 1)) t) fuel
def trS (l : List V) : Nat → Tr V → Tr V :=
  List.rec (motive := fun _ => Nat → Tr V → Tr V) (fun _ t => t) (fun v _ ih i t => forceT (setS (some v) 30 t (Nat.succ i)) (ih (Nat.succ i))) l
end
theorem forceT_eq {α β : Type} (t : Tr α) (k : Tr α → β) : forceT t k = k t := by cases t <;> rfl
theorem setS_eq {α : Type} (x : Option α) : ∀ (f : Nat) (t : Tr α) (p : Nat), setS x f t p = Tr.setF x f t p
  | 0, _, _ => rfl
  | f + 1, t, p => by
    cases t with
    | e =>
      show Bool.rec (motive := fun _ => Tr α) (Bool.rec (motive := fun _ => Tr α) (forceT (setS x f .e (p / 2)) fun s => .n s none .e) (forceT (setS x f .e (p / 2)) fun s => .n .e none s) (Nat.beq (p % 2) 1)) (.n .e x .e) (Nat.beq p 1) = _
      rw [forceT_eq, forceT_eq, setS_eq x f]
      rfl
    | n l v r =>
      show Bool.rec (motive := fun _ => Tr α) (Bool.rec (motive := fun _ => Tr α) (forceT (setS x f l (p / 2)) fun s => .n s v r) (forceT (setS x f r (p / 2)) fun s => .n l v s) (Nat.beq (p % 2) 1)) (.n l x r) (Nat.beq p 1) = _
      rw [forceT_eq, forceT_eq, setS_eq x f, setS_eq x f]
      rfl
theorem trS_eq : ∀ (l : List V) (i : Nat) (t : Tr V), trS l i t = trOf l i t
  | [], _, _ => rfl
  | v :: l, i, t => by
    show forceT (setS (some v) 30 t (i + 1)) (trS l (i + 1)) = trOf l (i + 1) (Tr.setF (some v) 30 t (i + 1))
    rw [forceT_eq, setS_eq, trS_eq l]
end Ev
end Go.Proofs.YtogbcielgfidlaaGreatDoor
