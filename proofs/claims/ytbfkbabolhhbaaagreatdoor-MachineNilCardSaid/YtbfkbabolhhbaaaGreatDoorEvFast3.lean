/-
  Code, made for the kernel; it is the same code.
-/
import Derived.Test.YtbfkbabolhhbaaaGreatDoorEvFast2
namespace Go.Proofs.YtbfkbabolhhbaaaGreatDoor
namespace Ev
noncomputable section

abbrev R := Option (V × H)
def lkK {α : Type} (c : V → Option α) (t : Nat) (l : AL) : Option α :=
  List.rec (motive := fun _ => Option α) none (fun p _ ih => Bool.rec (motive := fun _ => Option α) ih (c p.2) (Nat.beq p.1 t)) l
theorem lkK_eq {α : Type} (c : V → Option α) (t : Nat) : ∀ l, lkK c t l = ob (lk l t) c
  | [] => rfl
  | p :: l => by
    show Bool.rec (motive := fun _ => Option α) (lkK c t l) (c p.2) (Nat.beq p.1 t) = ob (Bool.rec (motive := fun _ => Option V) (lk l t) (some p.2) (Nat.beq p.1 t)) c
    rw [lkK_eq c t l]
    cases Nat.beq p.1 t <;> rfl
def evK {α : Type} (f : F) (c : V → Option α) (o : Opd) : Option α := Opd.rec (motive := fun _ => Option α) (fun t => lkK c t f.loc) (fun t => lkK c t f.tmp) c o
theorem evK_eq {α : Type} (f : F) (c : V → Option α) (o : Opd) : evK f c o = ob (o.ev f) c := by
  cases o with
  | l t => exact lkK_eq c t f.loc
  | t t => exact lkK_eq c t f.tmp
  | c v => rfl
def evsK {α : Type} (f : F) (l : List Opd) : (List V → Option α) → Option α :=
  List.rec (motive := fun _ => (List V → Option α) → Option α) (fun c => c []) (fun o _ ih c => evK f (fun v => ih fun vs => c (v :: vs)) o) l
theorem evsK_eq {α : Type} (f : F) : ∀ (l : List Opd) (c : List V → Option α), evsK f l c = ob (evs f l) c
  | [], _ => rfl
  | o :: l, c => by
    show evK f (fun v => evsK f l fun vs => c (v :: vs)) o = ob (ob (o.ev f) fun v => ob (evs f l) fun vs => some (v :: vs)) c
    rw [evK_eq, ob_ob]
    congr 1
    funext v
    rw [evsK_eq, ob_ob]
    rfl
abbrev KM (α : Type) := H → V → (V → Option α) → Option α
abbrev KW (α : Type) := H → V → V → (V → H → Option α) → Option α
inductive FC where
  | skip
  | op1 (d : Dst) (g : K1 (V × H)) (a : Opd) (k : FC)
  | op2 (d : Dst) (g : K2 (V × H)) (a b : Opd) (k : FC)
  | m1 (d : Dst) (g : KM (V × H)) (a : Opd) (k : FC)
  | w2 (d : Dst) (g : KW (V × H)) (a b : Opd) (k : FC)
  | opc (d : Dst) (g : KC (V × H)) (args : List Opd) (k : FC)
  | gd (x : Opd) (w : Bool) (d : Dst) (g : KC (V × H)) (args : List Opd) (k : FC)
  | fin
  | dr (ops : List COper)
  | seq (a b : FC)
  | cond (o : Opd) (a b : FC)
  | block (id : Nat) (c : FC)
  | loop (c : FC)
  | slow (c : CCode)
  | nat (g : CallT → F → H → (F → H → R) → R)
  | exit (id : Nat)
  | ret
abbrev KN := F → H → R
/-- What follows, by the way out. -/
def toX (kn : KN) (ke : Nat → KN) (kr : KN) (r : X × F × H) : R := X.rec (motive := fun _ => R) (kn r.2.1 r.2.2) (fun j => ke j r.2.1 r.2.2) (kr r.2.1 r.2.2) r.1
def loopK (e : F → H → KN → (Nat → KN) → KN → R) (n : Nat) : F → H → KN → (Nat → KN) → KN → R :=
  Nat.rec (motive := fun _ => F → H → KN → (Nat → KN) → KN → R) (fun _ _ _ _ _ => none) (fun _ ih f h kn ke kr => e f h (fun f h => ih f h kn ke kr) ke kr) n
/- Regions that draw. -/
def pushE (b : Bool) (h : H) (hs : List H) : List H := Bool.rec (motive := fun _ => List H) hs (h :: hs) b
def runDQ (call : CallT) (o : COper) (s : St) (c : St → R) : R :=
  ob (guardOk s.f o.guard) fun b => Bool.rec (motive := fun _ => R)
    (c ⟨o.dst.put s.f undefV, s.h, pushE (isE o.op) s.h s.hs, s.cs⟩)
    (evsK s.f o.args fun vs => runCK o.op call s.h vs fun v h' =>
      c ⟨o.dst.put s.f v, h', pushE (isE o.op) s.h s.hs,
        COp.rec (motive := fun _ => List Tc) (fun _ => s.cs) (fun q => ⟨q, vs, v, o.lo, o.hi⟩ :: s.cs) (fun _ => s.cs) (fun _ => s.cs) (fun _ => s.cs) s.cs o.op⟩) b
theorem runDQ_eq (call : CallT) (o : COper) (s : St) (c : St → R) : runDQ call o s c = ob (o.runD call s) c := by
  unfold runDQ COper.runD
  rw [ob_ob]
  congr 1
  funext b
  cases b with
  | false => rfl
  | true =>
    show evsK s.f o.args _ = ob (ob (evs s.f o.args) _) c
    rw [evsK_eq, ob_ob]
    congr 1
    funext vs
    rw [runCK_eq, ob_ob]
    rfl
def runDsQ (call : CallT) (l : List COper) : St → (St → R) → R :=
  List.rec (motive := fun _ => St → (St → R) → R) (fun s c => c s) (fun o _ ih s c => runDQ call o s fun s => ih s c) l
theorem runDsQ_eq (call : CallT) : ∀ (l : List COper) (s : St) (c : St → R), runDsQ call l s c = ob (runOpsD call l s) c
  | [], _, _ => rfl
  | o :: l, s, c => by
    show runDQ call o s (fun s => runDsQ call l s c) = ob (ob (o.runD call s) (runOpsD call l)) c
    rw [runDQ_eq, ob_ob]
    congr 1
    funext s'
    exact runDsQ_eq call l s' c
def execK (call : CallT) (rd : Bool) (n : Nat) (c : FC) : F → H → KN → (Nat → KN) → KN → R :=
  FC.rec (motive := fun _ => F → H → KN → (Nat → KN) → KN → R)
    (fun f h kn _ _ => kn f h)
    (fun d g a _ ih f h kn ke kr => evK f (fun x => g x fun v => ih (d.put f v) h kn ke kr) a)
    (fun d g a b _ ih f h kn ke kr => evK f (fun x => evK f (fun y => g x y fun v => ih (d.put f v) h kn ke kr) b) a)
    (fun d g a _ ih f h kn ke kr => evK f (fun x => g h x fun v => ih (d.put f v) h kn ke kr) a)
    (fun d g a b _ ih f h kn ke kr => evK f (fun x => evK f (fun y => g h x y fun v h' => ih (d.put f v) h' kn ke kr) b) a)
    (fun d g args _ ih f h kn ke kr => evsK f args fun vs => g call h vs fun v h' => ih (d.put f v) h' kn ke kr)
    (fun x w d g args _ ih f h kn ke kr => ob (wants (x.ev f) w) fun b => Bool.rec (motive := fun _ => R) (ih (d.put f undefV) h kn ke kr) (evsK f args fun vs => g call h vs fun v h' => ih (d.put f v) h' kn ke kr) b)
    (fun f h kn _ _ => kn (clr f) h)
    (fun ops f h kn _ _ => runDsQ call ops ⟨f, h, [], []⟩ fun s => oif (Bool.rec (motive := fun _ => Bool) (checkAll s.cs (revL s.hs [s.h])) true (quiet ops)) (kn (clr s.f) s.h))
    (fun _ _ ia ib f h kn ke kr => ia f h (fun f h => ib f h kn ke kr) ke kr)
    (fun o _ _ ia ib f h kn ke kr => evK f (asBool fun b => Bool.rec (motive := fun _ => R) (ib f h kn ke kr) (ia f h kn ke kr) b) o)
    (fun id _ e f h kn ke kr => e f h kn (fun j f h => Bool.rec (motive := fun _ => R) (ke j f h) (kn f h) (Nat.beq j id)) kr)
    (fun _ e f h kn ke kr => loopK e n f h kn ke kr)
    (fun cc f h kn ke kr => ob (exec call rd n cc f h) (toX kn ke kr))
    (fun g f h kn _ _ => g call f h kn)
    (fun id f h _ ke _ => ke id f h)
    (fun f h _ _ kr => kr f h) c
/- From the slow code. -/
def stK {α : Type} (n : Nat) : KW α := fun h x y c => asPtr (fun id off => oif (Nat.beq (lenL (cellsQ y)) n) (ob (wrQ id (cellsQ y) off h) fun h => c undefV h)) x
def bin2 {α : Type} (op : BinOp) (bi : Bi α) (bs : Bs α) : K2 α := fun x y c => asIntStrF (fun k a => asInt (fun j b => bi k a j b c) y) (fun n a => asStr (fun m b => bs n a m b c) y) (fun g a => yieldQ (ob (binF op a y) c) g) x
def selB {α β : Type} (op : BinOp) (s : K2 α → β) : β :=
  BinOp.rec (motive := fun _ => β) (s (bin2 .add biAdd (bsGen .add))) (s (bin2 .sub biSub (bsGen .sub))) (s (bin2 .mul biMul (bsGen .mul))) (s (bin2 .quo (biGen .quo) (bsGen .quo))) (s (bin2 .rem (biGen .rem) (bsGen .rem))) (s (bin2 .and (biGen .and) (bsGen .and))) (s (bin2 .or (biGen .or) (bsGen .or)))
    (s (bin2 .xor (biGen .xor) (bsGen .xor))) (s (bin2 .shl biShl (bsGen .shl))) (s (bin2 .shr biShr (bsGen .shr))) (s (bin2 .andNot (biGen .andNot) (bsGen .andNot))) (s (bin2 .eql biEql bsEql)) (s (bin2 .neq biNeq bsNeq)) (s (bin2 .lss biLss (bsGen .lss))) (s (bin2 .leq biLeq (bsGen .leq))) (s (bin2 .gtr biGtr (bsGen .gtr))) (s (bin2 .geq biGeq (bsGen .geq))) op
def selU {α β : Type} (op : UnOp) (s : K1 α → β) : β := UnOp.rec (motive := fun _ => β) (s (k1Un .neg)) (s (k1Un .xor)) (s k1Not) (s (k1Un .plus)) op
def selL {α β : Type} (k : Lk) (s : K1 α → β) : β := Lk.rec (motive := fun _ => β) (s k1LenS) (s k1LenL) (fun n => s (k1LenC n)) k
def sel1 {α β : Type} (o : POp) (s : K1 α → β) : β :=
  POp.rec (motive := fun _ => β) (s k1Mv) (s noK1) (fun z p => s (k1Build z p)) (s k1Nil) (fun _ => s noK1) (fun _ _ => s noK1) (fun op => selU op s) (fun k => s (k1ToInt k)) (s k1Sid) (fun t => s (k1Mki t)) (fun f n => s (k1Gen (.mkf f n))) (fun n => s (k1Fa n)) (fun a b d => s (k1Field a b d))
    (fun _ _ => s noK1) (fun _ => s noK1) (s noK1) (fun _ _ _ => s noK1) (fun k a b d => s (k1Gen (.slc k a b d))) (fun i => s (k1Ext i)) (fun k => selL k s) (s k1Mv) (s k1Mv) o
def sel2 {α β : Type} (o : POp) (s : K2 α → β) : β :=
  POp.rec (motive := fun _ => β) (s noK2) (s noK2) (fun z p => s (k2Gen (.build z p))) (s noK2) (fun op => selB op s) (fun k n => s (k2Eqd k n)) (fun _ => s noK2) (fun _ => s noK2) (s noK2) (fun _ => s noK2) (fun f n => s (k2Gen (.mkf f n))) (fun _ => s noK2) (fun _ _ _ => s noK2)
    (fun a b => s (k2Ixarrp a b)) (fun a => s (k2Ixsl a)) (s k2Ixstr) (fun a b d => s (k2Ixarr a b d)) (fun k a b d => s (k2Gen (.slc k a b d))) (fun _ => s noK2) (fun _ => s noK2) (s (k2Gen .mins)) (s (k2Gen .maxs)) o
theorem sel1_eq {α β : Type} (o : POp) (s : K1 α → β) : sel1 o s = s (run1K o) := by
  cases o with
  | un op => cases op <;> rfl
  | leng k => cases k <;> rfl
  | _ => rfl
theorem bin2_eq {α : Type} (op : BinOp) : (binK op : K2 α) = bin2 op (biQ op) (bsQ op) := rfl
theorem sel2_eq {α β : Type} (o : POp) (s : K2 α → β) : sel2 o s = s (run2K o) := by
  cases o with
  | bin op => cases op <;> rfl
  | _ => rfl
def selC {β : Type} (o : COp) (s : KC (V × H) → β) : β :=
  COp.rec (motive := fun _ => β) (fun o => s (kcP o)) (fun o => s (kcR o)) (fun o => s (kcA o)) (fun o => s (kcE o)) (fun f => s (kcCall f)) (s kcVal) o
theorem selC_eq {β : Type} (o : COp) (s : KC (V × H) → β) : selC o s = s (runCK o) := by cases o <;> rfl
def genF (o : COper) (k : FC) : FC := selC o.op fun g => .opc o.dst g o.args k
def fopP (d : Dst) (po : POp) (args : List Opd) (k : FC) : FC :=
  caseL args (.opc d (kcP po) args k) fun a t => caseL t (sel1 po fun g => .op1 d g a k) fun b t2 => caseL t2 (sel2 po fun g => .op2 d g a b k) fun _ _ => .opc d (kcP po) args k
def fopR (d : Dst) (ro : ROp) (args : List Opd) (k : FC) : FC :=
  caseL args (.opc d (kcR ro) args k) fun a t => caseL t (ROp.rec (motive := fun _ => FC) (fun b n => .m1 d (loadK b n) a k) (fun _ _ _ => .opc d (kcR ro) args k) (.opc d (kcR ro) args k) (.opc d (kcR ro) args k) (fun _ _ => .opc d (kcR ro) args k) ro) fun _ _ => .opc d (kcR ro) args k
def fopE (d : Dst) (eo : EOp) (args : List Opd) (k : FC) : FC :=
  caseL args (.opc d (kcE eo) args k) fun a t => caseL t (.opc d (kcE eo) args k) fun b t2 => caseL t2
    (EOp.rec (motive := fun _ => FC) (fun n => .w2 d (stK n) a b k) (fun _ _ _ => .opc d (kcE eo) args k) (fun _ => .opc d (kcE eo) args k) (fun _ => .opc d (kcE eo) args k) (fun _ => .opc d (kcE eo) args k) (fun _ => .opc d (kcE eo) args k) (.opc d (kcE eo) args k) (fun _ _ => .opc d (kcE eo) args k) (.opc d (kcE eo) args k) (.opc d (kcE eo) args k) (.opc d (kcE eo) args k) eo) fun _ _ => .opc d (kcE eo) args k
def fop (o : COper) (k : FC) : FC :=
  Option.rec (motive := fun _ => FC)
    (COp.rec (motive := fun _ => FC) (fun po => fopP o.dst po o.args k) (fun ro => fopR o.dst ro o.args k) (fun _ => genF o k) (fun eo => fopE o.dst eo o.args k) (fun _ => genF o k) (genF o k) o.op)
    (fun p => selC o.op fun g => .gd p.1 p.2 o.dst g o.args k) o.guard
def fops (l : List COper) : FC := List.rec (motive := fun _ => FC) .fin (fun o _ ih => fop o ih) l
def fast (c : CCode) : FC :=
  CCode.rec (motive := fun _ => FC) .skip fops (fun l => Bool.rec (motive := fun _ => FC) (.dr l) (fops l) (quiet l)) (fun _ _ a b => .seq a b) (fun o _ _ a b => .cond o a b) (fun id _ c => .block id c) (fun _ c => .loop c) (fun f ps a b _ _ => .slow (.rangeF f ps a b)) .exit .ret c
theorem opc_eq (call : CallT) (rd : Bool) (n : Nat) (d : Dst) (o : COp) (args : List Opd) (k : FC) (f : F) (h : H) (kn : KN) (ke : Nat → KN) (kr : KN) :
    execK call rd n (.opc d (runCK o) args k) f h kn ke kr = ob (evs f args) fun vs => ob (o.run call vs h) fun r => execK call rd n k (d.put f r.1) r.2 kn ke kr := by
  show evsK f args _ = _
  rw [evsK_eq]
  congr 1
  funext vs
  rw [runCK_eq]
  rfl
theorem fop_eq (call : CallT) (rd : Bool) (n : Nat) (o : COper) (k : FC) (f : F) (h : H) (kn : KN) (ke : Nat → KN) (kr : KN) :
    execK call rd n (fop o k) f h kn ke kr = ob (o.run call f h) fun r => execK call rd n k r.1 r.2 kn ke kr := by
  obtain ⟨d, op, args, g, lo, hi⟩ := o
  have plain : execK call rd n (.opc d (runCK op) args k) f h kn ke kr = ob (COper.run call ⟨d, op, args, none, lo, hi⟩ f h) fun r => execK call rd n k r.1 r.2 kn ke kr := by
    rw [opc_eq]
    show _ = ob (ob (some true) fun b => Bool.rec (motive := fun _ => Option (F × H)) (some (d.put f undefV, h)) (ob (evs f args) fun vs => ob (op.run call vs h) fun r => some (d.put f r.1, r.2)) b) _
    rw [ob_of]
    show _ = ob (ob (evs f args) fun vs => ob (op.run call vs h) fun r => some (d.put f r.1, r.2)) _
    rw [ob_ob]
    congr 1
    funext vs
    rw [ob_ob]
    rfl
  cases g with
  | some p =>
    show execK call rd n (selC op fun g => FC.gd p.1 p.2 d g args k) f h kn ke kr = _
    rw [selC_eq]
    show (ob (wants (p.1.ev f) p.2) fun b => Bool.rec (motive := fun _ => R) (execK call rd n k (d.put f undefV) h kn ke kr) (evsK f args fun vs => runCK op call h vs fun v h' => execK call rd n k (d.put f v) h' kn ke kr) b) =
      ob (ob (wants (p.1.ev f) p.2) fun b => Bool.rec (motive := fun _ => Option (F × H)) (some (d.put f undefV, h)) (ob (evs f args) fun vs => ob (op.run call vs h) fun r => some (d.put f r.1, r.2)) b) _
    rw [ob_ob]
    congr 1
    funext b
    cases b with
    | false => rfl
    | true =>
      show evsK f args _ = ob (ob (evs f args) fun vs => ob (op.run call vs h) fun r => some (d.put f r.1, r.2)) _
      rw [evsK_eq, ob_ob]
      congr 1
      funext vs
      rw [runCK_eq, ob_ob]
      rfl
  | none =>
    have gen : execK call rd n (genF ⟨d, op, args, none, lo, hi⟩ k) f h kn ke kr = ob (COper.run call ⟨d, op, args, none, lo, hi⟩ f h) fun r => execK call rd n k r.1 r.2 kn ke kr := by
      unfold genF
      rw [selC_eq]
      exact plain
    cases op with
    | a o => exact gen
    | call f => exact gen
    | callv => exact gen
    | p po =>
      show execK call rd n (fopP d po args k) f h kn ke kr = _
      unfold fopP
      cases args with
      | nil => exact plain
      | cons a t => cases t with
        | nil =>
          show execK call rd n (sel1 po fun g => .op1 d g a k) f h kn ke kr = _
          rw [sel1_eq, ← plain, opc_eq]
          show evK f (fun x => run1K po x fun v => execK call rd n k (d.put f v) h kn ke kr) a = ob (ob (a.ev f) fun v => ob (some []) fun vs => some (v :: vs)) fun vs => ob (ob (po.run vs) fun v => some (v, h)) fun r => execK call rd n k (d.put f r.1) r.2 kn ke kr
          rw [evK_eq, ob_ob]
          congr 1
          funext x
          rw [run1K_eq, ob_of, ob_of, ob_ob]
          rfl
        | cons b t => cases t with
          | nil =>
            show execK call rd n (sel2 po fun g => .op2 d g a b k) f h kn ke kr = _
            rw [sel2_eq, ← plain, opc_eq]
            show evK f (fun x => evK f (fun y => run2K po x y fun v => execK call rd n k (d.put f v) h kn ke kr) b) a = ob (ob (a.ev f) fun v => ob (ob (b.ev f) fun v => ob (some []) fun vs => some (v :: vs)) fun vs => some (v :: vs)) fun vs => ob (ob (po.run vs) fun v => some (v, h)) fun r => execK call rd n k (d.put f r.1) r.2 kn ke kr
            rw [evK_eq, ob_ob]
            congr 1
            funext x
            rw [evK_eq, ob_ob, ob_ob]
            congr 1
            funext y
            rw [run2K_eq]
            simp only [ob_of]
            rw [ob_ob]
            rfl
          | cons b t => exact plain
    | r ro =>
      show execK call rd n (fopR d ro args k) f h kn ke kr = _
      unfold fopR
      cases args with
      | nil => exact plain
      | cons a t => cases t with
        | cons b t => exact plain
        | nil =>
          cases ro with
          | load b nn =>
            rw [← plain, opc_eq]
            show evK f (fun x => loadK b nn h x fun v => execK call rd n k (d.put f v) h kn ke kr) a = ob (ob (a.ev f) fun v => ob (some []) fun vs => some (v :: vs)) fun vs => ob (ob ((ROp.load b nn).run vs h) fun v => some (v, h)) fun r => execK call rd n k (d.put f r.1) r.2 kn ke kr
            rw [evK_eq, ob_ob]
            congr 1
            funext x
            rw [loadK_eq, ob_of, ob_of, ob_ob]
            rfl
          | _ => exact plain
    | e eo =>
      show execK call rd n (fopE d eo args k) f h kn ke kr = _
      unfold fopE
      cases args with
      | nil => exact plain
      | cons a t => cases t with
        | nil => exact plain
        | cons b t => cases t with
          | cons b t => exact plain
          | nil =>
            cases eo with
            | store nn =>
              rw [← plain, opc_eq]
              show evK f (fun x => evK f (fun y => stK nn h x y fun v h' => execK call rd n k (d.put f v) h' kn ke kr) b) a = ob (ob (a.ev f) fun v => ob (ob (b.ev f) fun v => ob (some []) fun vs => some (v :: vs)) fun vs => some (v :: vs)) fun vs => ob ((EOp.store nn).run vs h) fun r => execK call rd n k (d.put f r.1) r.2 kn ke kr
              rw [evK_eq, ob_ob]
              congr 1
              funext x
              rw [evK_eq, ob_ob, ob_ob]
              congr 1
              funext y
              simp only [ob_of]
              have := runEK_eq (.store nn) h [x, y] fun v h' => execK call rd n k (d.put f v) h' kn ke kr
              exact this
            | _ => exact plain
theorem fops_eq (call : CallT) (rd : Bool) (n : Nat) : ∀ (l : List COper) (f : F) (h : H) (kn : KN) (ke : Nat → KN) (kr : KN), execK call rd n (fops l) f h kn ke kr = ob (runOps call l f h) fun r => kn (clr r.1) r.2
  | [], _, _, _, _, _ => rfl
  | o :: l, f, h, kn, ke, kr => by
    show execK call rd n (fop o (fops l)) f h kn ke kr = ob (ob (o.run call f h) fun r => runOps call l r.1 r.2) _
    rw [fop_eq, ob_ob]
    congr 1
    funext r
    exact fops_eq call rd n l r.1 r.2 kn ke kr
theorem thenN_toX (o : Res) (k : F → H → Res) (kn : KN) (ke : Nat → KN) (kr : KN) : ob (thenN o k) (toX kn ke kr) = ob o (toX (fun f h => ob (k f h) (toX kn ke kr)) ke kr) := by
  cases o with
  | none => rfl
  | some r =>
    obtain ⟨x, f, h⟩ := r
    cases x <;> rfl
theorem loopK_eq (e : F → H → KN → (Nat → KN) → KN → R) (body : F → H → Res) (he : ∀ f h kn ke kr, e f h kn ke kr = ob (body f h) (toX kn ke kr)) : ∀ (n : Nat) (f : F) (h : H) (kn : KN) (ke : Nat → KN) (kr : KN), loopK e n f h kn ke kr = ob (loopN body n f h) (toX kn ke kr)
  | 0, _, _, _, _, _ => rfl
  | n + 1, f, h, kn, ke, kr => by
    show e f h (fun f h => loopK e n f h kn ke kr) ke kr = ob (thenN (body f h) (loopN body n)) (toX kn ke kr)
    rw [he, thenN_toX]
    congr 2
    funext f h
    exact loopK_eq e body he n f h kn ke kr
theorem quiet_runs (call : CallT) : ∀ (l : List COper), quiet l = true → ∀ (f : F) (h : H) (hs : List H) (cs : List Tc) (k : KN), (ob (runOpsD call l ⟨f, h, hs, cs⟩) fun s => k s.f s.h) = ob (runOps call l f h) fun r => k r.1 r.2
  | [], _, _, _, _, _, _ => rfl
  | o :: l, q, f, h, hs, cs, k => by
    show (ob (ob (o.runD call ⟨f, h, hs, cs⟩) (runOpsD call l)) fun s => k s.f s.h) = ob (ob (o.run call f h) fun r => runOps call l r.1 r.2) fun r => k r.1 r.2
    rw [ob_ob, ob_ob]
    obtain ⟨d, op, args, gd, lo, hi⟩ := o
    unfold COper.runD COper.run
    cases op with
    | p po =>
      have q : quiet l = true := q
      show ob (ob (guardOk f gd) _) _ = ob (ob (guardOk f gd) _) _
      rw [ob_ob, ob_ob]
      cases guardOk f gd with
      | none => rfl
      | some b => cases b with
        | false => exact quiet_runs call l q _ _ _ _ k
        | true =>
          show ob (ob (evs f args) _) _ = ob (ob (evs f args) _) _
          cases evs f args with
          | none => rfl
          | some vs =>
            show ob (ob (ob (po.run vs) _) _) _ = ob (ob (ob (po.run vs) _) _) _
            cases po.run vs with
            | none => rfl
            | some v => exact quiet_runs call l q _ _ _ _ k
    | r ro =>
      have q : quiet l = true := q
      show ob (ob (guardOk f gd) _) _ = ob (ob (guardOk f gd) _) _
      rw [ob_ob, ob_ob]
      cases guardOk f gd with
      | none => rfl
      | some b => cases b with
        | false => exact quiet_runs call l q _ _ _ _ k
        | true =>
          show ob (ob (evs f args) _) _ = ob (ob (evs f args) _) _
          cases evs f args with
          | none => rfl
          | some vs =>
            show ob (ob (ob (ro.run vs h) _) _) _ = ob (ob (ob (ro.run vs h) _) _) _
            cases ro.run vs h with
            | none => rfl
            | some v => exact quiet_runs call l q _ _ _ _ k
    | _ => cases q
theorem execK_eq (call : CallT) (rd : Bool) (n : Nat) : ∀ (c : CCode) (f : F) (h : H) (kn : KN) (ke : Nat → KN) (kr : KN), execK call rd n (fast c) f h kn ke kr = ob (exec call rd n c f h) (toX kn ke kr) := by
  intro c
  induction c with
  | skip => intros; rfl
  | reg ops =>
    intro f h kn ke kr
    show execK call rd n (fops ops) f h kn ke kr = ob (ob (runOps call ops f h) fun r => (some (X.norm, clr r.1, r.2) : Res)) _
    rw [fops_eq, ob_ob]
    rfl
  | regD ops =>
    intro f h kn ke kr
    cases q : quiet ops with
    | false =>
      have e : fast (.regD ops) = .dr ops := by
        show (Bool.rec (motive := fun _ => FC) (.dr ops) (fops ops) (quiet ops) : FC) = _
        rw [q]
      rw [e]
      show runDsQ call ops ⟨f, h, [], []⟩ _ = ob (ob (runOpsD call ops ⟨f, h, [], []⟩) fun s => oif (Bool.rec (motive := fun _ => Bool) (checkAll s.cs (revL s.hs [s.h])) true (quiet ops)) (some (X.norm, clr s.f, s.h) : Res)) _
      rw [runDsQ_eq, ob_ob]
      congr 1
      funext s
      rw [ob_oif]
      rfl
    | true =>
      have e : fast (.regD ops) = fops ops := by
        show (Bool.rec (motive := fun _ => FC) (.dr ops) (fops ops) (quiet ops) : FC) = _
        rw [q]
      rw [e]
      show execK call rd n (fops ops) f h kn ke kr = ob (ob (runOpsD call ops ⟨f, h, [], []⟩) fun s => oif (Bool.rec (motive := fun _ => Bool) (checkAll s.cs (revL s.hs [s.h])) true (quiet ops)) (some (X.norm, clr s.f, s.h) : Res)) _
      rw [fops_eq, q]
      show _ = ob (ob (runOpsD call ops ⟨f, h, [], []⟩) fun s => (some (X.norm, clr s.f, s.h) : Res)) _
      rw [ob_ob]
      exact (quiet_runs call ops q f h [] [] fun f h => kn (clr f) h).symm
  | seq a b iha ihb =>
    intro f h kn ke kr
    show execK call rd n (fast a) f h (fun f h => execK call rd n (fast b) f h kn ke kr) ke kr = ob (thenN (exec call rd n a f h) (exec call rd n b)) _
    rw [iha, thenN_toX]
    congr 2
    funext f h
    exact ihb f h kn ke kr
  | cond o a b iha ihb =>
    intro f h kn ke kr
    show evK f (asBool fun b' => Bool.rec (motive := fun _ => R) (execK call rd n (fast b) f h kn ke kr) (execK call rd n (fast a) f h kn ke kr) b') o = ob (ob (o.ev f) _) _
    rw [evK_eq, ob_ob]
    congr 1
    funext v
    rw [asBool_eq]
    cases v <;> first | rfl | skip
    rename_i b'
    cases b'
    · exact ihb f h kn ke kr
    · exact iha f h kn ke kr
  | block id c ih =>
    intro f h kn ke kr
    show execK call rd n (fast c) f h kn (fun j f h => Bool.rec (motive := fun _ => R) (ke j f h) (kn f h) (Nat.beq j id)) kr = ob (blockX id (exec call rd n c f h)) _
    rw [ih]
    cases exec call rd n c f h with
    | none => rfl
    | some r =>
      obtain ⟨x, f1, h1⟩ := r
      cases x with
      | norm => rfl
      | ret => rfl
      | exit j =>
        show Bool.rec (motive := fun _ => R) (ke j f1 h1) (kn f1 h1) (Nat.beq j id) = ob (Bool.rec (motive := fun _ => Res) (some (.exit j, f1, h1)) (some (.norm, f1, h1)) (Nat.beq j id)) _
        cases Nat.beq j id <;> rfl
  | loop c ih =>
    intro f h kn ke kr
    exact loopK_eq _ _ ih n f h kn ke kr
  | rangeF g ps a b iha ihb => intros; rfl
  | exit id => intros; rfl
  | ret => intros; rfl
/- Calls. -/
structure FF where
  params : Nat
  code : FC
  results : List CRes
def fastF (c : CF) : FF := ⟨c.params, fast c.code, c.results⟩
def resK (f : F) (h : H) (l : List CRes) : R := ob (resOf f h l) fun l => some (oneOrTup l, h)
def enterK (call : CallT) (n : Nat) (c : FF) (vs : List V) (h : H) : R :=
  oif (Nat.beq (lenL vs) c.params) (execK call false n c.code ⟨numbered vs 0, []⟩ h (fun f h => resK f h c.results) (fun _ _ _ => none) (fun f h => resK f h c.results))
theorem enterK_eq (call : CallT) (n : Nat) (c : CF) (vs : List V) (h : H) : enterK call n (fastF c) vs h = enter call n c vs h := by
  unfold enterK enter fastF
  simp only
  rw [execK_eq]
  congr 1
  congr 1
  funext r
  obtain ⟨x, f, h'⟩ := r
  cases x <;> rfl
def callK (prim : FuncId → Option (List V → H → Option (V × H))) (tab : FuncId → Option FF) (n : Nat) : CallT :=
  Nat.rec (motive := fun _ => CallT) (fun _ _ _ => none)
    (fun _ ih c vs h => Callee.rec (motive := fun _ => Option (V × H))
      (fun f => Option.rec (motive := fun _ => Option (V × H)) (ob (tab f) fun cf => enterK ih 1000000 cf vs h)
        (fun g => Option.rec (motive := fun _ => Option (V × H)) (ob (tab f) fun cf => enterK ih 1000000 cf vs h) some (g vs h)) (prim f))
      (fun id => round ih 1000000 id vs h) c) n
theorem callK_eq (prim : FuncId → Option (List V → H → Option (V × H))) (tab : FuncId → Option CF) : ∀ n, callK prim (fun f => ob (tab f) fun c => some (fastF c)) n = callN prim tab n
  | 0 => rfl
  | n + 1 => by
    have ih := callK_eq prim tab n
    funext c vs h
    have go : ∀ f, (ob (ob (tab f) fun c => some (fastF c)) fun cf => enterK (callK prim (fun f => ob (tab f) fun c => some (fastF c)) n) 1000000 cf vs h) = ob (tab f) fun cf => enter (callN prim tab n) 1000000 cf vs h := by
      intro f
      rw [ob_ob, ih]
      congr 1
      funext cf
      rw [ob_of, enterK_eq]
    cases c with
    | fn f =>
      show (Option.rec (motive := fun _ => Option (V × H)) (ob (ob (tab f) fun c => some (fastF c)) fun cf => enterK (callK prim (fun f => ob (tab f) fun c => some (fastF c)) n) 1000000 cf vs h)
        (fun g => Option.rec (motive := fun _ => Option (V × H)) (ob (ob (tab f) fun c => some (fastF c)) fun cf => enterK (callK prim (fun f => ob (tab f) fun c => some (fastF c)) n) 1000000 cf vs h) some (g vs h)) (prim f) : Option (V × H)) = _
      rw [go]
      rfl
    | yld id =>
      show round (callK prim (fun f => ob (tab f) fun c => some (fastF c)) n) 1000000 id vs h = round (callN prim tab n) 1000000 id vs h
      rw [ih]
end
end Ev
end Go.Proofs.YtbfkbabolhhbaaaGreatDoor
