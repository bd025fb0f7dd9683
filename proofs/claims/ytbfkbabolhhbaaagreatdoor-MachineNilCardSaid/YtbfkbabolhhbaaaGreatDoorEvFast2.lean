/-
  All operations, made for the kernel.
-/
import Derived.Test.YtbfkbabolhhbaaaGreatDoorEvFast
import Derived.Test.YtbfkbabolhhbaaaGreatDoorEvMem
namespace Go.Proofs.YtbfkbabolhhbaaaGreatDoor
namespace Ev
noncomputable section

abbrev K1 (α : Type) := V → (V → Option α) → Option α
abbrev K2 (α : Type) := V → V → (V → Option α) → Option α
def noK1 {α : Type} : K1 α := fun _ _ => none
def noK2 {α : Type} : K2 α := fun _ _ _ => none
def k1Mv {α : Type} : K1 α := fun x c => c x
def k1Gen {α : Type} (o : POp) : K1 α := fun x c => ob (POp.run o [x]) c
def k2Gen {α : Type} (o : POp) : K2 α := fun x y c => ob (POp.run o [x, y]) c
def k1Nil {α : Type} : K1 α := fun x c =>
  V.rec (motive_1 := fun _ => Option α) (motive_2 := fun _ => Unit) (fun _ => none) (fun _ _ => none) (fun _ _ => none) none (fun i j => c (.ptr i j)) none (fun _ _ _ _ _ _ => none) none (fun _ => none)
    (fun fn a b _ _ => match fn with | .func f => c (.func (.func f) a b) | _ => none) (fun l => c (.yld l)) none (fun _ _ _ => none) none (fun _ _ => none) (fun _ _ => none) () (fun _ _ _ _ => ()) x
def k1Not {α : Type} : K1 α := fun x c => asBool (fun b => c (.bool (!b))) x
def k1Un {α : Type} (op : UnOp) : K1 α := fun x c => ob (Ev.un op x) c
def k1ToInt {α : Type} (k : IntKind) : K1 α := fun x c => asInt (fun _ n => c (.int k (wrapQ k n))) x
def k1Sid {α : Type} : K1 α := fun x c => asStr (fun n d => c (.str n d)) x
def k1Mki {α : Type} (t : TypeId) : K1 α := fun x c => c (.iface t x)
def k1Fa {α : Type} (off : Nat) : K1 α := fun x c => asPtr (fun i j => c (.ptr i (Nat.add j off))) x
def k1Field {α : Type} (a : Bool) (off size : Nat) : K1 α := fun x c => asAgg (fun cs => ob (part a cs off size) c) x
def k1Ext {α : Type} (i : Nat) : K1 α := fun x c => asTup (fun cs => ob (nthL cs i) c) x
def k1LenS {α : Type} : K1 α := fun x c => asStr (fun n _ => c (.int .i64 (Int.ofNat n))) x
def k1LenL {α : Type} : K1 α := fun x c => asSlF (c (.int .i64 (Int.ofNat 0))) (fun _ _ n _ _ _ => c (.int .i64 (Int.ofNat n))) (fun g a => ob (POp.run1 (.leng .sl) (.func g a [])) c) x
def k1LenC {α : Type} (n : Nat) : K1 α := fun _ c => c (.int .i64 (Int.ofNat n))
def k1Leng {α : Type} (k : Lk) : K1 α := Lk.rec (motive := fun _ => K1 α) k1LenS k1LenL k1LenC k
def k1UnQ {α : Type} (op : UnOp) : K1 α := UnOp.rec (motive := fun _ => K1 α) (k1Un .neg) (k1Un .xor) k1Not (k1Un .plus) op
def k1Build {α : Type} (z : List V) (p : List (Nat × Nat)) : K1 α := fun x c => ob (fills p [x] z) fun cs => c (.agg cs)
def run1K {α : Type} (o : POp) : K1 α :=
  POp.rec (motive := fun _ => K1 α) k1Mv noK1 k1Build k1Nil (fun _ => noK1) (fun _ _ => noK1) k1UnQ k1ToInt k1Sid k1Mki (fun f n => k1Gen (.mkf f n)) k1Fa k1Field (fun _ _ => noK1) (fun _ => noK1) noK1 (fun _ _ _ => noK1)
    (fun k a b d => k1Gen (.slc k a b d)) k1Ext k1Leng k1Mv k1Mv o
theorem run1K_eq {α : Type} (o : POp) (x : V) (c : V → Option α) : run1K o x c = ob (POp.run o [x]) c := by
  cases o with
  | mv => rfl
  | pick => cases x <;> rfl
  | build z p =>
    show ob (fills p [x] z) _ = ob (ob (fills p [x] z) fun cs => some (.agg cs)) c
    cases fills p [x] z <;> rfl
  | nilc =>
    cases x <;> first | rfl | skip
    rename_i fn a b
    cases fn <;> rfl
  | bin op => rfl
  | eqd k n => rfl
  | un op => cases op <;> first | rfl | (show asBool _ x = _; rw [asBool_eq]; cases x <;> rfl)
  | toInt k =>
    show asInt _ x = _
    rw [asInt_eq]
    cases x <;> first | rfl | (simp only [wrapQ_eq]; rfl)
  | sid => show asStr _ x = _; rw [asStr_eq]; cases x <;> rfl
  | mki t => rfl
  | mkf f n => rfl
  | fa off => show asPtr _ x = _; rw [asPtr_eq]; cases x <;> rfl
  | field a off n => show asAgg _ x = _; rw [asAgg_eq]; cases x <;> rfl
  | ixarrp l e => cases x <;> rfl
  | ixsl e => cases x <;> rfl
  | ixstr => cases x <;> rfl
  | ixarr a l e => cases x <;> rfl
  | slc k a b d => rfl
  | ext i => show asTup _ x = _; rw [asTup_eq]; cases x <;> rfl
  | leng k =>
    cases k with
    | str => show asStr _ x = _; rw [asStr_eq]; cases x <;> rfl
    | sl =>
      cases x <;> first | rfl | skip
      rename_i fn a b
      show ob (POp.run1 (.leng .sl) (.func fn a [])) c = ob (POp.run1 (.leng .sl) (.func fn a b)) c
      cases fn with
      | yield k =>
        cases a with
        | nil => rfl
        | cons x t => cases x <;> cases t <;> rfl
      | _ => rfl
    | const n => cases x <;> rfl
  | mins => rfl
  | maxs => rfl
def k2Eqd {α : Type} (k : Ek) (neg : Bool) : K2 α := fun x y c => ob (eqD k x y) fun b => c (.bool (Bool.rec (motive := fun _ => Bool) b (!b) neg))
def k2Ixarrp {α : Type} (ln es : Nat) : K2 α := fun x y c => asPtr (fun i j => asInt (fun _ n => ob (idx n ln) fun m => c (.ptr i (Nat.add j (Nat.mul m es)))) y) x
def k2Ixsl {α : Type} (es : Nat) : K2 α := fun x y c => asSl none (fun id off ln _ _ es' => asInt (fun _ n => oif (Nat.beq es es') (ob (idx n ln) fun m => c (.ptr id (Nat.add off (Nat.mul m es))))) y) x
def k2Ixstr {α : Type} : K2 α := fun x y c => asStr (fun ln cc => asInt (fun _ n => ob (idx n ln) fun m => c (.int .u8 (Int.ofNat (Nat.mod (Nat.shiftRight cc (Nat.mul 8 m)) 256)))) y) x
def k2Ixarr {α : Type} (a : Bool) (ln es : Nat) : K2 α := fun x y c => asAgg (fun cs => asInt (fun _ n => ob (idx n ln) fun m => ob (part a cs (Nat.mul m es) es) c) y) x
def run2K {α : Type} (o : POp) : K2 α :=
  POp.rec (motive := fun _ => K2 α) noK2 noK2 (fun z p => k2Gen (.build z p)) noK2 binK k2Eqd (fun _ => noK2) (fun _ => noK2) noK2 (fun _ => noK2) (fun f n => k2Gen (.mkf f n)) (fun _ => noK2) (fun _ _ _ => noK2) k2Ixarrp k2Ixsl k2Ixstr k2Ixarr
    (fun k a b d => k2Gen (.slc k a b d)) (fun _ => noK2) (fun _ => noK2) (k2Gen .mins) (k2Gen .maxs) o
theorem ob_ob {α β γ : Type} (o : Option α) (f : α → Option β) (g : β → Option γ) : ob (ob o f) g = ob o fun a => ob (f a) g := by cases o <;> rfl
theorem run2K_eq {α : Type} (o : POp) (x y : V) (c : V → Option α) : run2K o x y c = ob (POp.run o [x, y]) c := by
  cases o with
  | mv => rfl
  | pick => cases x <;> rfl
  | build z p => rfl
  | nilc => cases x <;> rfl
  | bin op => exact binK_eq op x y c
  | eqd k n =>
    show ob (eqD k x y) _ = ob (ob (eqD k x y) fun b => some (.bool (Bool.rec (motive := fun _ => Bool) b (!b) n))) c
    cases eqD k x y <;> rfl
  | un op => cases x <;> rfl
  | toInt k => cases x <;> rfl
  | sid => cases x <;> rfl
  | mki t => cases x <;> rfl
  | mkf f n => rfl
  | fa off => cases x <;> rfl
  | field a off n => cases x <;> rfl
  | ixarrp l e =>
    show asPtr _ x = _
    rw [asPtr_eq]
    cases x <;> first | rfl | skip
    simp only
    rw [asInt_eq]
    cases y <;> first | rfl | skip
    rename_i i j k n
    show _ = ob (ob (idx n l) _) c
    rw [ob_ob]
    rfl
  | ixsl e =>
    show asSl _ _ x = _
    rw [asSl_eq]
    cases x <;> first | rfl | skip
    simp only
    rw [asInt_eq]
    cases y <;> first | rfl | skip
    rename_i id off ln cap ex es' k n
    show _ = ob (oif (Nat.beq e es') (ob (idx n ln) _)) c
    rw [ob_oif, ob_ob]
    rfl
  | ixstr =>
    show asStr _ x = _
    rw [asStr_eq]
    cases x <;> first | rfl | skip
    simp only
    rw [asInt_eq]
    cases y <;> first | rfl | skip
    rename_i ln cc k n
    show _ = ob (ob (idx n ln) _) c
    rw [ob_ob]
    rfl
  | ixarr a l e =>
    show asAgg _ x = _
    rw [asAgg_eq]
    cases x <;> first | rfl | skip
    simp only
    rw [asInt_eq]
    cases y <;> first | rfl | skip
    rename_i cs k n
    show _ = ob (ob (idx n l) _) c
    rw [ob_ob]
  | slc k a b d => rfl
  | ext i => cases x <;> rfl
  | leng k => cases k <;> cases x <;> rfl
  | mins => rfl
  | maxs => rfl
/-- Whatever number of operands. -/
def run3K {α : Type} (o : POp) (x y z : V) (t : List V) (c : V → Option α) : Option α :=
  POp.rec (motive := fun _ => Option α) (ob (POp.run .mv (x :: y :: z :: t)) c) (caseL t (asBool (fun b => c (Bool.rec (motive := fun _ => V) z y b)) x) fun _ _ => none) (fun a b => ob (POp.run (.build a b) (x :: y :: z :: t)) c) (ob (POp.run .nilc (x :: y :: z :: t)) c) (fun a => ob (POp.run (.bin a) (x :: y :: z :: t)) c) (fun a b => ob (POp.run (.eqd a b) (x :: y :: z :: t)) c) (fun a => ob (POp.run (.un a) (x :: y :: z :: t)) c) (fun a => ob (POp.run (.toInt a) (x :: y :: z :: t)) c) (ob (POp.run .sid (x :: y :: z :: t)) c) (fun a => ob (POp.run (.mki a) (x :: y :: z :: t)) c) (fun a b => ob (POp.run (.mkf a b) (x :: y :: z :: t)) c) (fun a => ob (POp.run (.fa a) (x :: y :: z :: t)) c) (fun a b d => ob (POp.run (.field a b d) (x :: y :: z :: t)) c)
    (fun a b => ob (POp.run (.ixarrp a b) (x :: y :: z :: t)) c) (fun a => ob (POp.run (.ixsl a) (x :: y :: z :: t)) c) (ob (POp.run .ixstr (x :: y :: z :: t)) c) (fun a b d => ob (POp.run (.ixarr a b d) (x :: y :: z :: t)) c) (fun k a b d => ob (POp.run (.slc k a b d) (x :: y :: z :: t)) c) (fun a => ob (POp.run (.ext a) (x :: y :: z :: t)) c) (fun a => ob (POp.run (.leng a) (x :: y :: z :: t)) c) (ob (POp.run .mins (x :: y :: z :: t)) c) (ob (POp.run .maxs (x :: y :: z :: t)) c) o
theorem run3K_eq {α : Type} (o : POp) (x y z : V) (t : List V) (c : V → Option α) : run3K o x y z t c = ob (POp.run o (x :: y :: z :: t)) c := by
  cases o with
  | pick =>
    show caseL t (asBool (fun b => c (Bool.rec (motive := fun _ => V) z y b)) x) (fun _ _ => none) = _
    cases t with
    | nil => show asBool _ x = _; rw [asBool_eq]; cases x <;> rfl
    | cons _ _ => cases x <;> rfl
  | _ => rfl
def runPK {α : Type} (o : POp) (vs : List V) (c : V → Option α) : Option α :=
  caseL vs (ob (POp.run o []) c) fun x t => caseL t (run1K o x c) fun y t2 => caseL t2 (run2K o x y c) fun z t3 => run3K o x y z t3 c
theorem runPK_eq {α : Type} (o : POp) (vs : List V) (c : V → Option α) : runPK o vs c = ob (POp.run o vs) c := by
  cases vs with
  | nil => rfl
  | cons x t => cases t with
    | nil => exact run1K_eq o x c
    | cons y t2 => cases t2 with
      | nil => exact run2K_eq o x y c
      | cons z t3 => exact run3K_eq o x y z t3 c
/- Memory. -/
def cellsOfBlk {α : Type} (c : Nat → Tr V → Option α) (b : Blk) : Option α :=
  Blk.rec (motive := fun _ => Option α) (fun n cs _ _ => c n cs) c (fun _ _ => none) (fun _ _ _ => none) (fun _ _ _ _ _ _ => none) none (fun _ => none) b
theorem cellsOfBlk_eq {α : Type} (h : H) (id : Nat) (c : Nat → Tr V → Option α) : (ob (h.blk id) (cellsOfBlk c)) = ob (h.cells id) fun p => c p.1 p.2 := by
  unfold H.cells
  rw [ob_ob]
  cases h.blk id with
  | none => rfl
  | some b => cases b <;> rfl
def cellK {α : Type} (h : H) (id off : Nat) (c : V → Option α) : Option α := ob (h.blk id) (cellsOfBlk fun n cs => oif (Nat.blt off n) (ob (cs.get off) c))
theorem cellK_eq {α : Type} (h : H) (id off : Nat) (c : V → Option α) : cellK h id off c = ob (ob (h.rd id off 1) fun l => nthL l 0) c := by
  unfold cellK
  rw [cellsOfBlk_eq]
  unfold H.rd
  rw [ob_ob, ob_ob]
  cases h.cells id with
  | none => rfl
  | some p =>
    show oif (Nat.blt off p.1) (ob (p.2.get off) c) = ob (oif (Nat.blt off p.1) (ob (p.2.get off) fun v => ob (some []) fun r => some (v :: r))) fun l => ob (nthL l 0) c
    rw [ob_oif, ob_ob]
    cases p.2.get off <;> rfl
def rdK {α : Type} (h : H) (id off k : Nat) (c : V → Option α) : Option α := ob (h.blk id) (cellsOfBlk fun n cs => ob (rdFrom cs n k off) fun l => c (.agg l))
theorem rdK_eq {α : Type} (h : H) (id off k : Nat) (c : V → Option α) : rdK h id off k c = ob (ob (h.rd id off k) fun l => some (V.agg l)) c := by
  unfold rdK
  rw [cellsOfBlk_eq]
  unfold H.rd
  rw [ob_ob, ob_ob]
  cases h.cells id with
  | none => rfl
  | some p => rfl
def loadK {α : Type} (b : Bool) (n : Nat) (h : H) (x : V) (c : V → Option α) : Option α :=
  asPtr (fun id off => Bool.rec (motive := fun _ => Option α) (cellK h id off c) (rdK h id off n c) b) x
theorem loadK_eq {α : Type} (b : Bool) (n : Nat) (h : H) (x : V) (c : V → Option α) : loadK b n h x c = ob ((ROp.load b n).run [x] h) c := by
  unfold loadK
  rw [asPtr_eq]
  cases x <;> first | (cases b <;> rfl) | skip
  rename_i id off
  cases b
  · exact cellK_eq h id off c
  · exact rdK_eq h id off n c
/- Keys. -/
def e1I (x y : V) : Option Bool := asInt (fun k a => asInt (fun j b => same k j (some (eqI a b))) y) x
def e1S (x y : V) : Option Bool := asStr (fun n a => asStr (fun m b => some (strEq n a m b)) y) x
def eq1Q (h : H) (k : Pk) (x y : V) : Option Bool := Pk.rec (motive := fun _ => Option Bool) (e1I x y) (e1S x y) (eq1 h .b x y) (eq1 h .p x y) k
theorem eq1Q_eq (h : H) (k : Pk) (x y : V) : eq1Q h k x y = eq1 h k x y := by
  cases k with
  | i =>
    show e1I x y = _
    unfold e1I
    rw [asInt_eq]
    cases x <;> first | rfl | skip
    simp only
    rw [asInt_eq]
    cases y <;> first | rfl | (simp only [same_eq]; rfl)
  | s =>
    show e1S x y = _
    unfold e1S
    rw [asStr_eq]
    cases x <;> first | rfl | skip
    simp only
    rw [asStr_eq]
    cases y <;> rfl
  | b => rfl
  | p => rfl
def eqKeyQ (h : H) (k : Kk) (x y : V) : Option Bool := Kk.rec (motive := fun _ => Option Bool) (fun pk => eq1Q h pk x y) (fun ks => eqKey h (.agg ks) x y) k
theorem eqKeyQ_eq (h : H) (k : Kk) (x y : V) : eqKeyQ h k x y = eqKey h k x y := by
  cases k with
  | one pk => exact eq1Q_eq h pk x y
  | agg ks => rfl
def findQ {α : Type} (h : H) (kk : Kk) (k : V) (es : List (V × V)) (n : Option α) (s : V → Option α) : Option α :=
  List.rec (motive := fun _ => Option α) n (fun e _ ih => ob (eqKeyQ h kk k e.1) fun b => Bool.rec (motive := fun _ => Option α) ih (s e.2) b) es
theorem findQ_eq {α : Type} (h : H) (kk : Kk) (k : V) (n : Option α) (s : V → Option α) : ∀ es, findQ h kk k es n s = ob (findE h kk k es) fun r => Option.rec (motive := fun _ => Option α) n s r
  | [] => rfl
  | e :: es => by
    show ob (eqKeyQ h kk k e.1) (fun b => Bool.rec (motive := fun _ => Option α) (findQ h kk k es n s) (s e.2) b) = ob (ob (eqKey h kk k e.1) fun b => Bool.rec (motive := fun _ => Option (Option V)) (findE h kk k es) (some (some e.2)) b) _
    rw [eqKeyQ_eq, ob_ob, findQ_eq h kk k n s es]
    cases eqKey h kk k e.1 with
    | none => rfl
    | some b => cases b <;> rfl
def putQ (h : H) (kk : Kk) (k v : V) (es : List (V × V)) : Option (List (V × V)) :=
  List.rec (motive := fun _ => Option (List (V × V))) (some [(k, v)]) (fun e tl ih => ob (eqKeyQ h kk k e.1) fun b => Bool.rec (motive := fun _ => Option (List (V × V))) (ob ih fun r => some (e :: r)) (some ((k, v) :: tl)) b) es
theorem putQ_eq (h : H) (kk : Kk) (k v : V) : ∀ es, putQ h kk k v es = putE h kk k v es
  | [] => rfl
  | e :: es => by
    show ob (eqKeyQ h kk k e.1) (fun b => Bool.rec (motive := fun _ => Option (List (V × V))) (ob (putQ h kk k v es) fun r => some (e :: r)) (some ((k, v) :: es)) b) = ob (eqKey h kk k e.1) (fun b => Bool.rec (motive := fun _ => Option (List (V × V))) (ob (putE h kk k v es) fun r => some (e :: r)) (some ((k, v) :: es)) b)
    rw [eqKeyQ_eq, putQ_eq h kk k v es]
def entriesK {α : Type} (h : H) (id : Nat) (c : List (V × V) → Option α) : Option α :=
  ob (h.blk id) fun b => Blk.rec (motive := fun _ => Option α) (fun _ _ _ _ => none) (fun _ _ => none) (fun es _ => c es) (fun _ _ _ => none) (fun _ _ _ _ _ _ => none) none (fun _ => none) b
theorem entriesK_eq {α : Type} (h : H) (id : Nat) (c : List (V × V) → Option α) : entriesK h id c = ob (h.entries id) c := by
  unfold entriesK H.entries
  rw [ob_ob]
  cases h.blk id with
  | none => rfl
  | some b => cases b <;> rfl
def lookupK {α : Type} (kk : Kk) (ok : Bool) (zero : V) (h : H) (x k : V) (c : V → Option α) : Option α :=
  oif (keyShape kk k) (asMap (c (lookRes ok zero none)) (fun id => entriesK h id fun es => findQ h kk k es (c (lookRes ok zero none)) fun v => c (lookRes ok zero (some v))) x)
theorem lookupK_eq {α : Type} (kk : Kk) (ok : Bool) (zero : V) (h : H) (x k : V) (c : V → Option α) : lookupK kk ok zero h x k c = ob ((ROp.lookup kk ok zero).run [x, k] h) c := by
  unfold lookupK
  rw [asMap_eq]
  cases x <;> first | (show oif _ none = _; cases keyShape kk k <;> rfl) | skip
  · show _ = ob (oif (keyShape kk k) (some (lookRes ok zero none))) c
    rw [ob_oif]
    rfl
  · rename_i id
    show _ = ob (oif (keyShape kk k) (ob (h.entries id) fun es => ob (findE h kk k es) fun r => some (lookRes ok zero r))) c
    rw [ob_oif, ob_ob]
    congr 1
    simp only
    rw [entriesK_eq]
    cases h.entries id with
    | none => rfl
    | some es =>
      rw [ob_of, ob_of, findQ_eq, ob_ob]
      cases findE h kk k es with
      | none => rfl
      | some r => cases r <;> rfl
def eqK2 {α : Type} (kk : Kk) (neg : Bool) (h : H) (x y : V) (c : V → Option α) : Option α := ob (eqKeyQ h kk x y) fun b => c (.bool (Bool.rec (motive := fun _ => Bool) b (!b) neg))
def rGen {α : Type} (o : ROp) (h : H) (vs : List V) (c : V → Option α) : Option α := ob (o.run vs h) c
abbrev KR (α : Type) := H → List V → (V → Option α) → Option α
def krLoad {α : Type} (b : Bool) (n : Nat) : KR α := fun h vs c => caseL vs none fun x t => caseL t (loadK b n h x c) fun _ _ => none
def krLookup {α : Type} (kk : Kk) (ok : Bool) (z : V) : KR α := fun h vs c => caseL vs none fun x t => caseL t none fun y t2 => caseL t2 (lookupK kk ok z h x y c) fun _ _ => none
def krEq {α : Type} (kk : Kk) (neg : Bool) : KR α := fun h vs c => caseL vs none fun x t => caseL t none fun y t2 => caseL t2 (eqK2 kk neg h x y c) fun _ _ => none
def runRK {α : Type} (o : ROp) : KR α := ROp.rec (motive := fun _ => KR α) krLoad krLookup (rGen .lenMap) (rGen .b2s) krEq o
theorem runRK_eq {α : Type} (o : ROp) (h : H) (vs : List V) (c : V → Option α) : runRK o h vs c = ob (o.run vs h) c := by
  cases o with
  | load b n =>
    cases vs with
    | nil => cases b <;> rfl
    | cons x t => cases t with
      | nil => exact loadK_eq b n h x c
      | cons y t => cases b <;> cases x <;> rfl
  | lookup kk ok z =>
    cases vs with
    | nil => rfl
    | cons x t => cases t with
      | nil => cases x <;> rfl
      | cons y t => cases t with
        | nil => exact lookupK_eq kk ok z h x y c
        | cons u t => cases x <;> rfl
  | lenMap => rfl
  | b2s => rfl
  | eq kk neg =>
    cases vs with
    | nil => rfl
    | cons x t => cases t with
      | nil => rfl
      | cons y t => cases t with
        | nil =>
          show eqK2 kk neg h x y c = ob (ob (eqKey h kk x y) fun b => some (.bool (Bool.rec (motive := fun _ => Bool) b (!b) neg))) c
          unfold eqK2
          rw [eqKeyQ_eq, ob_ob]
          rfl
        | cons u t => rfl
/- What makes or writes memory. -/
abbrev KE (α : Type) := H → List V → (V → H → Option α) → Option α
def wr1Q (h : H) (id i : Nat) (v : V) : Option H :=
  ob (h.blk id) fun b => Blk.rec (motive := fun _ => Option H) (fun n cs up child => oif (!child) (oif (Nat.blt i n) (oif (oneQ v)
        (ob (forget 64 up i h) fun h => some ⟨h.t.put id (some (.cells n (cs.put i (some v)) up child)), h.next⟩)))) (fun _ _ => none) (fun _ _ => none) (fun _ _ _ => none) (fun _ _ _ _ _ _ => none) none (fun _ => none) b
theorem wr1Q_eq (h : H) (id i : Nat) (v : V) : wr1Q h id i v = h.wr1 id i v := by
  unfold wr1Q H.wr1
  cases h.blk id with
  | none => rfl
  | some b => cases b <;> first | rfl | (simp only [oneQ_eq]; rfl)
def wrS (id : Nat) (l : List V) : Nat → H → Option H :=
  List.rec (motive := fun _ => Nat → H → Option H) (fun _ h => some h) (fun v _ ih i h => ob (wr1Q h id i v) fun h => ih (Nat.succ i) h) l
theorem wrS_eq (id : Nat) : ∀ (l : List V) (i : Nat) (h : H), wrS id l i h = H.wr id l i h
  | [], _, _ => rfl
  | v :: l, i, h => by
    show ob (wr1Q h id i v) (fun h => wrS id l (Nat.succ i) h) = ob (h.wr1 id i v) fun h => H.wr id l (Nat.succ i) h
    rw [wr1Q_eq]
    congr 1
    funext h'
    exact wrS_eq id l _ h'
/- Many cells of a block that is alone: at once. -/
def putsQ (n : Nat) (l : List V) : Nat → Tr V → Option (Tr V) :=
  List.rec (motive := fun _ => Nat → Tr V → Option (Tr V)) (fun _ cs => some cs) (fun v _ ih i cs => oif (Nat.blt i n) (oif (oneQ v) (ih (Nat.succ i) (cs.put i (some v))))) l
def wrQ (id : Nat) (l : List V) (i : Nat) (h : H) : Option H :=
  caseL l (some h) fun _ t => caseL t (wrS id l i h) fun _ _ => Bool.rec (motive := fun _ => Option H) (wrS id l i h)
    (ob (h.blk id) fun b => Blk.rec (motive := fun _ => Option H) (fun n cs up child => Option.rec (motive := fun _ => Option H) (Bool.rec (motive := fun _ => Option H) (ob (putsQ n l i cs) fun cs => some ⟨h.t.put id (some (.cells n cs none false)), h.next⟩) (wrS id l i h) child) (fun _ => wrS id l i h) up)
      (fun _ _ => wrS id l i h) (fun _ _ => wrS id l i h) (fun _ _ _ => wrS id l i h) (fun _ _ _ _ _ _ => wrS id l i h) (wrS id l i h) (fun _ => wrS id l i h) b) (Nat.blt id keys)
theorem puts_wr {id n next : Nat} {t : Tr Blk} (hk : id < keys) : ∀ (l : List V) (i : Nat) (cs : Tr V),
    H.wr id l i ⟨t.put id (some (.cells n cs none false)), next⟩ = ob (putsQ n l i cs) fun cs => some ⟨t.put id (some (.cells n cs none false)), next⟩
  | [], _, _ => rfl
  | v :: l, i, cs => by
    have hb : (⟨t.put id (some (.cells n cs none false)), next⟩ : H).blk id = some (.cells n cs none false) := by
      have := blk_put ⟨t, next⟩ id id next (.cells n cs none false) hk
      rw [if_pos rfl] at this
      exact this
    show ob (H.wr1 _ id i v) (fun h => H.wr id l (Nat.succ i) h) = ob (oif (Nat.blt i n) (oif (oneQ v) (putsQ n l (Nat.succ i) (cs.put i (some v))))) _
    unfold H.wr1
    rw [hb]
    show ob (oif (!false) (oif (Nat.blt i n) (oif (oneCell v) (ob (forget 64 none i _) fun h => some (H.mk (h.t.put id (some (.cells n (cs.put i (some v)) none false))) h.next))))) _ = _
    rw [oneQ_eq]
    cases Nat.blt i n with
    | false => rfl
    | true => cases oneCell v with
      | false => rfl
      | true =>
        show H.wr id l (Nat.succ i) ⟨(t.put id (some (.cells n cs none false))).put id (some (.cells n (cs.put i (some v)) none false)), next⟩ = _
        rw [Tr.put_put]
        exact puts_wr hk l _ _
theorem wrQ_eq (id : Nat) (l : List V) (i : Nat) (h : H) : wrQ id l i h = H.wr id l i h := by
  cases l with
  | nil => rfl
  | cons v l => cases l with
    | nil => exact (show wrQ id [v] i h = wrS id [v] i h from rfl).trans (wrS_eq id [v] i h)
    | cons u l =>
      show (Bool.rec (motive := fun _ => Option H) (wrS id (v :: u :: l) i h) _ (Nat.blt id keys) : Option H) = _
      cases hk : Nat.blt id keys with
      | false => exact wrS_eq id _ i h
      | true =>
        have hk : id < keys := by simpa using hk
        have key := wrS_eq id (v :: u :: l) i h
        cases hb : h.blk id with
        | none =>
          show none = ob (H.wr1 h id i v) _
          unfold H.wr1
          rw [hb]
          rfl
        | some b =>
          cases b with
          | cells n cs up child =>
            cases up with
            | some q => exact key
            | none => cases child with
              | true => exact key
              | false =>
                show ob (oif (Nat.blt i n) (oif (oneQ v) (putsQ n (u :: l) (Nat.succ i) (cs.put i (some v))))) _ = ob (H.wr1 h id i v) (fun h => H.wr id (u :: l) (Nat.succ i) h)
                unfold H.wr1
                rw [hb]
                show _ = ob (oif (!false) (oif (Nat.blt i n) (oif (oneCell v) (ob (forget 64 none i h) fun h => some (H.mk (h.t.put id (some (.cells n (cs.put i (some v)) none false))) h.next))))) _
                rw [oneQ_eq]
                cases Nat.blt i n with
                | false => rfl
                | true => cases oneCell v with
                  | false => rfl
                  | true => exact (puts_wr (t := h.t) (next := h.next) hk (u :: l) (Nat.succ i) (cs.put i (some v))).symm
          | _ => exact key
def eGen {α : Type} (o : EOp) : KE α := fun h vs c => ob (o.run vs h) fun r => c r.1 r.2
def keStore {α : Type} (n : Nat) : KE α := fun h vs c => caseL vs none fun x t => caseL t none fun y t2 => caseL t2 (asPtr (fun id off => oif (Nat.beq (lenL (cellsQ y)) n) (ob (wrQ id (cellsQ y) off h) fun h => c undefV h)) x) fun _ _ => none
def keMap {α : Type} (kk : Kk) : KE α := fun h vs c => caseL vs none fun x t => caseL t none fun k t2 => caseL t2 none fun v t3 => caseL t3
  (oif (keyShape kk k) (asMap none (fun id => entriesK h id fun es => ob (putQ h kk k v es) fun es => c undefV ⟨h.t.put id (some (.map es (h.ord id))), h.next⟩) x)) fun _ _ => none
def runEK {α : Type} (o : EOp) : KE α := EOp.rec (motive := fun _ => KE α) keStore (fun a b d => eGen (.append a b d)) (fun n => eGen (.copy n)) keMap (fun k => eGen (.delete k)) (fun z => eGen (.clear z)) (eGen .nextS) (fun k z => eGen (.mapent k z)) (eGen .entst) (eGen .rangeM) (eGen .nextM) o
theorem runEK_eq {α : Type} (o : EOp) (h : H) (vs : List V) (c : V → H → Option α) : runEK o h vs c = ob (o.run vs h) fun r => c r.1 r.2 := by
  cases o with
  | store n =>
    cases vs with
    | nil => rfl
    | cons x t => cases t with
      | nil => cases x <;> rfl
      | cons y t => cases t with
        | cons u t => cases x <;> rfl
        | nil =>
          show asPtr _ x = _
          rw [asPtr_eq]
          cases x <;> first | rfl | skip
          rename_i id off
          show _ = ob (oif (Nat.beq (lenL (cellsOf y)) n) (ob (H.wr id (cellsOf y) off h) fun h => some (undefV, h))) fun r => c r.1 r.2
          simp only [cellsQ_eq, wrQ_eq]
          rw [ob_oif, ob_ob]
          rfl
  | mapup kk =>
    cases vs with
    | nil => rfl
    | cons x t => cases t with
      | nil => cases x <;> rfl
      | cons k t => cases t with
        | nil => cases x <;> rfl
        | cons v t => cases t with
          | cons u t => cases x <;> rfl
          | nil =>
            show oif (keyShape kk k) (asMap _ _ x) = _
            rw [asMap_eq]
            cases x <;> first | (show oif _ none = _; cases keyShape kk k <;> rfl) | skip
            rename_i id
            show _ = ob (oif (keyShape kk k) (ob (h.entries id) fun es => ob (putE h kk k v es) fun es => some ((undefV, ⟨h.t.put id (some (.map es (h.ord id))), h.next⟩) : V × H))) fun r => c r.1 r.2
            rw [ob_oif, ob_ob]
            congr 1
            simp only
            rw [entriesK_eq]
            cases h.entries id with
            | none => rfl
            | some es =>
              show ob (putQ h kk k v es) _ = ob (ob (putE h kk k v es) fun es => some ((undefV, ⟨h.t.put id (some (.map es (h.ord id))), h.next⟩) : V × H)) fun r => c r.1 r.2
              rw [putQ_eq, ob_ob]
              rfl
  | _ => rfl
abbrev KA := List V → Option (Blk × (Nat → V))
def kaAlloc (cells : List V) : KA := fun vs => caseL vs (ob (cellsBlk cells) fun b => some (b, fun i => V.ptr i 0)) fun _ _ => none
def kaBox : KA := fun vs => caseL vs none fun x t => caseL t (ob (cellsBlk (cellsQ x)) fun b => some (b, fun i => V.ptr i 0)) fun _ _ => none
def runAQ (o : AOp) : KA := AOp.rec (motive := fun _ => KA) kaAlloc kaBox (fun a b d e => AOp.run (.bslice a b d e)) (fun r => AOp.run (.mkm r)) (fun a b => AOp.run (.mks a b)) (AOp.run .rangeS) o
theorem runAQ_eq (o : AOp) (vs : List V) : runAQ o vs = o.run vs := by
  cases o with
  | alloc cs => cases vs <;> rfl
  | box => cases vs with
    | nil => rfl
    | cons x t => cases t with
      | nil => show ob (cellsBlk (cellsQ x)) _ = ob (cellsBlk (cellsOf x)) _; rw [cellsQ_eq]
      | cons => rfl
  | _ => rfl
def makeK {α : Type} (o : AOp) : KE α := fun h vs c => ob (runAQ o vs) fun r => ob (h.new r.1) fun h' => c (r.2 h.next) h'
theorem makeK_eq {α : Type} (o : AOp) (h : H) (vs : List V) (c : V → H → Option α) : makeK o h vs c = ob (h.make o vs) fun r => c r.1 r.2 := by
  unfold makeK H.make
  rw [runAQ_eq, ob_ob]
  cases o.run vs with
  | none => rfl
  | some p => show ob (h.new p.1) _ = ob (ob (h.new p.1) _) _; rw [ob_ob]; rfl
abbrev KC (α : Type) := CallT → H → List V → (V → H → Option α) → Option α
def kcP {α : Type} (o : POp) : KC α := fun _ h vs c => runPK o vs fun v => c v h
def kcR {α : Type} (o : ROp) : KC α := fun _ h vs c => runRK o h vs fun v => c v h
def kcA {α : Type} (o : AOp) : KC α := fun _ h vs c => makeK o h vs c
def kcE {α : Type} (o : EOp) : KC α := fun _ h vs c => runEK o h vs c
def kcCall {α : Type} (f : FuncId) : KC α := fun call h vs c => ob (call (.fn f) vs h) fun r => c r.1 r.2
def kcVal {α : Type} : KC α := fun call h vs c => ob (callVal call vs h) fun r => c r.1 r.2
def runCK {α : Type} (o : COp) : KC α := COp.rec (motive := fun _ => KC α) kcP kcR kcA kcE kcCall kcVal o
theorem runCK_eq {α : Type} (call : CallT) (o : COp) (h : H) (vs : List V) (c : V → H → Option α) : runCK o call h vs c = ob (o.run call vs h) fun r => c r.1 r.2 := by
  cases o with
  | p o =>
    show runPK o vs _ = ob (ob (o.run vs) fun v => some (v, h)) fun r => c r.1 r.2
    rw [runPK_eq, ob_ob]
    rfl
  | r o =>
    show runRK o h vs _ = ob (ob (o.run vs h) fun v => some (v, h)) fun r => c r.1 r.2
    rw [runRK_eq, ob_ob]
    rfl
  | a o => exact makeK_eq o h vs c
  | e o => exact runEK_eq o h vs c
  | call f => rfl
  | callv => rfl
end
end Ev
end Go.Proofs.YtbfkbabolhhbaaaGreatDoor
