/-
  An abstract machine on memory that is named by numbers of its own:values,memory,compiled operations and how they are carried out.
-/
import GoSem.Dispatch
import GoSem.Machine.Return
import Derived.Laws.Entries
namespace Go.Proofs.YtdfphfdnoobikaaGreatDoor
namespace Ev
section
noncomputable section
inductive V where
 |bool (b:Bool)
 |int (k:IntKind) (n:Int)
 |str (len code:Nat)
 |nilp
 |ptr (id off:Nat)
 |nils
 |sl (id off len cap:Nat) (exact:Bool) (es:Nat)
 |nilm
 |map (id:Nat)
 |func (fn:Fn) (first captured:List V)
 |yld (id:Nat)
 |nilf
 |iface (t:TypeId) (v:V)
 |nili
 |agg (cs:List V)
 |tup (cs:List V)
 |lst (n es:Nat) (cells:List V)
 |eptr (cells:List V) (off:Nat)
 deriving Inhabited
def ob{α β:Type}(o:Option α)(k:α->Option β):Option β:=Option.rec (motive:=λ_=>Option β) none k o
def oif{α:Type}(b:Bool)(x:Option α):Option α:=Bool.rec (motive:=λ_=>Option α) none x b
def fW{α β:Type}(l:List α)(n:β)(c:α->List α->β):β:=List.rec (motive:=λ_=>β) n (λa t _=>c a t) l
def ck:List UInt8->Nat
 |[]=>0
 |b ::l=>b.toNat+256*ck l
def mM(n:Nat):Nat->List UInt8:=Nat.rec (motive:=λ_=>Nat->List UInt8) (λ_=>[]) (λ_ ih c=>UInt8.ofNat (Nat.mod c 256) ::ih (Nat.div c 256)) n
def mh(n c pos:Nat):Nat×Nat:=Bool.rec (motive:=λ_=>Nat×Nat) (Utf8.decode ⟨(mM n c).toArray⟩ pos) (Nat.mod (Nat.shiftRight c (Nat.mul 8 pos)) 256,1) (Nat.blt (Nat.mod (Nat.shiftRight c (Nat.mul 8 pos)) 256) 128)
inductive Tr(α:Type) where
 |e
 |n (l:Tr α) (v:Option α) (r:Tr α)
def Tr.getP{α:Type}(t:Tr α):Nat->Option α:=
 Tr.rec (motive:=λ_=>Nat->Option α) (λ_=>none)
  (λ_ v _ gl gr p=>Bool.rec (motive:=λ_=>Option α) (Bool.rec (motive:=λ_=>Option α) (gl (Nat.div p 2)) (gr (Nat.div p 2)) (Nat.beq (Nat.mod p 2) 1)) v (Nat.beq p 1)) t
def Tr.left{α:Type}(t:Tr α):Tr α:=Tr.rec (motive:=λ_=>Tr α) .e (λl _ _ _ _=>l) t
def Tr.val{α:Type}(t:Tr α):Option α:=Tr.rec (motive:=λ_=>Option α) none (λ_ v _ _ _=>v) t
def Tr.right{α:Type}(t:Tr α):Tr α:=Tr.rec (motive:=λ_=>Tr α) .e (λ_ _ r _ _=>r) t
def Tr.setF{α:Type}(x:Option α)(fuel:Nat):Tr α->Nat->Tr α:=
 Nat.rec (motive:=λ_=>Tr α->Nat->Tr α) (λt _=>t)
  (λ_ ih t p=>Tr.rec (motive:=λ_=>Tr α)
   (Bool.rec (motive:=λ_=>Tr α) (Bool.rec (motive:=λ_=>Tr α) (.n (ih .e (Nat.div p 2)) none .e) (.n .e none (ih .e (Nat.div p 2))) (Nat.beq (Nat.mod p 2) 1)) (.n .e x .e) (Nat.beq p 1))
   (λl v r _ _=>Bool.rec (motive:=λ_=>Tr α) (Bool.rec (motive:=λ_=>Tr α) (.n (ih l (Nat.div p 2)) v r) (.n l v (ih r (Nat.div p 2))) (Nat.beq (Nat.mod p 2) 1)) (.n l x r) (Nat.beq p 1)) t) fuel
def bZ:Nat:=1073741823
def Tr.get{α:Type}(t:Tr α)(k:Nat):Option α:=t.getP (Nat.succ k)
def Tr.put{α:Type}(t:Tr α)(k:Nat)(x:Option α):Tr α:=Tr.setF x 30 t (Nat.succ k)
abbrev AL:=List (Nat×V)
structure F where
 loc:AL
 tmp:AL
def lk(l:AL)(t:Nat):Option V:=
 List.rec (motive:=λ_=>Option V) none (λp _ ih=>Bool.rec (motive:=λ_=>Option V) ih (some p.2) (Nat.beq p.1 t)) l
def upd(l:AL)(t:Nat)(v:V):AL:=
 List.rec (motive:=λ_=>AL) [(t,v)] (λp tl ih=>Bool.rec (motive:=λ_=>AL) (p ::ih) ((t,v) ::tl) (Nat.beq p.1 t)) l
inductive Opd where
 |l (t:Nat)
 |t (t:Nat)
 |c (v:V)
def Opd.ev(f:F)(o:Opd):Option V:=Opd.rec (motive:=λ_=>Option V) (lk f.loc) (lk f.tmp) some o
def evs(f:F)(l:List Opd):Option (List V):=
 List.rec (motive:=λ_=>Option (List V)) (some []) (λo _ ih=>ob (o.ev f) λv=>ob ih λvs=>some (v ::vs)) l
inductive Dst where
 |no
 |l (t:Nat)
 |t (t:Nat)
def Dst.put(f:F)(v:V)(d:Dst):F:=Dst.rec (motive:=λ_=>F) f (λt=>⟨upd f.loc t v,f.tmp⟩) (λt=>⟨f.loc,(t,v) ::f.tmp⟩) d
def iL:IntKind->Nat
 |.i8 | .u8=>256
 |.i16 | .u16=>65536
 |.i32 | .u32=>4294967296
 |.i64 | .u64=>18446744073709551616
def jI:IntKind->Nat
 |.i8=>128
 |.i16=>32768
 |.i32=>2147483648
 |.i64=>9223372036854775808
 |.u8=>256
 |.u16=>65536
 |.u32=>4294967296
 |.u64=>18446744073709551616
def lL(k:IntKind)(m:Nat):Int:=
 Bool.rec (motive:=λ_=>Int) (Int.ofNat m) (Int.subNatNat m (iL k)) (Nat.ble (jI k) m)
def dA(k:IntKind)(n:Int):Int:=
 Int.rec (motive:=λ_=>Int) (λm=>Bool.rec (motive:=λ_=>Int) (lL k (Nat.mod m (iL k))) (Int.ofNat m) (Nat.blt m (jI k)))
  (λm=>lL k (Nat.sub (Nat.sub (iL k) 1) (Nat.mod m (iL k)))) n
def toU(k:IntKind)(n:Int):Nat:=
 Int.rec (motive:=λ_=>Nat) (λm=>Nat.mod m (iL k)) (λm=>Nat.sub (Nat.sub (iL k) 1) (Nat.mod m (iL k))) n
def ltI(a b:Int):Bool:=
 Int.rec (motive:=λ_=>Bool) (λx=>Int.rec (motive:=λ_=>Bool) (λy=>Nat.blt x y) (λ_=>false) b)
  (λx=>Int.rec (motive:=λ_=>Bool) (λ_=>true) (λy=>Nat.blt y x) b) a
def eqI(a b:Int):Bool:=
 Int.rec (motive:=λ_=>Bool) (λx=>Int.rec (motive:=λ_=>Bool) (λy=>Nat.beq x y) (λ_=>false) b)
  (λx=>Int.rec (motive:=λ_=>Bool) (λ_=>false) (λy=>Nat.beq x y) b) a
def eqK:IntKind->IntKind->Bool
 |.i8,.i8 | .i16,.i16 | .i32,.i32 | .i64,.i64 | .u8,.u8 | .u16,.u16 | .u32,.u32 | .u64,.u64=>true
 |_,_=>false
def FE:IntKind->Nat
 |.i8 | .u8=>8
 |.i16 | .u16=>16
 |.i32 | .u32=>32
 |.i64 | .u64=>64
def Iy(a:Int)(n:Nat):Int:=
 Int.rec (motive:=λ_=>Int) (λm=>Int.ofNat (Nat.shiftRight m n)) (λm=>Int.negSucc (Nat.shiftRight m n)) a
def Jr(op:BinOp)(k:IntKind)(a b:Int):Option V:=
 match op with
 |.add=>some (.int k (dA k (Int.add a b)))
 |.sub=>some (.int k (dA k (Int.sub a b)))
 |.mul=>some (.int k (dA k (Int.mul a b)))
 |.quo=>oif (!eqI b 0) (some (.int k (dA k (Int.tdiv a b))))
 |.rem=>oif (!eqI b 0) (some (.int k (Int.tmod a b)))
 |.and=>some (.int k (lL k (Nat.land (toU k a) (toU k b))))
 |.or=>some (.int k (lL k (Nat.lor (toU k a) (toU k b))))
 |.xor=>some (.int k (lL k (Nat.xor (toU k a) (toU k b))))
 |.andNot=>some (.int k (lL k (Nat.land (toU k a) (Nat.sub (Nat.sub (iL k) 1) (toU k b)))))
 |.eql=>some (.bool (eqI a b))
 |.neq=>some (.bool (!eqI a b))
 |.lss=>some (.bool (ltI a b))
 |.leq=>some (.bool (!ltI b a))
 |.gtr=>some (.bool (ltI b a))
 |.geq=>some (.bool (!ltI a b))
 |_=>none
def vK(op:BinOp)(k:IntKind)(a b:Int):Option V:=
 Int.rec (motive:=λ_=>Option V) (λm=>
  match op with
  |.shl=>some (.int k (dA k (Int.mul a (Int.ofNat (Nat.pow 2 (Nat.min m (FE k)))))))
  |.shr=>some (.int k (Iy a (Nat.min m (FE k))))
  |_=>none) (λ_=>none) b
def qX(fuel:Nat):Nat->Nat->Nat->Nat->Bool:=
 Nat.rec (motive:=λ_=>Nat->Nat->Nat->Nat->Bool) (λ_ _ _ _=>false)
  (λ_ ih n x m y=>
   Bool.rec (motive:=λ_=>Bool)
    (Bool.rec (motive:=λ_=>Bool)
     (Bool.rec (motive:=λ_=>Bool)
      (Bool.rec (motive:=λ_=>Bool) false (ih (Nat.sub n 1) (Nat.div x 256) (Nat.sub m 1) (Nat.div y 256)) (Nat.beq (Nat.mod x 256) (Nat.mod y 256)))
      true (Nat.blt (Nat.mod x 256) (Nat.mod y 256)))
     true (Nat.beq n 0))
    false (Nat.beq m 0)) fuel
def cJ(n x m y:Nat):Bool:=Bool.rec (motive:=λ_=>Bool) false (Nat.beq x y) (Nat.beq n m)
def Jq(op:BinOp)(n x m y:Nat):Option V:=
 match op with
 |.add=>oif (Nat.blt (Nat.add n m) 1099511627776) (some (.str (Nat.add n m) (Nat.add x (Nat.shiftLeft y (Nat.mul 8 n)))))
 |.eql=>some (.bool (cJ n x m y))
 |.neq=>some (.bool (!cJ n x m y))
 |.lss=>some (.bool (qX (Nat.succ (Nat.add n m)) n x m y))
 |.gtr=>some (.bool (qX (Nat.succ (Nat.add n m)) m y n x))
 |.leq=>some (.bool (!qX (Nat.succ (Nat.add n m)) m y n x))
 |.geq=>some (.bool (!qX (Nat.succ (Nat.add n m)) n x m y))
 |_=>none
def oQ(a b:Bool):Bool:=Bool.rec (motive:=λ_=>Bool) (Bool.rec (motive:=λ_=>Bool) true false b) b a
inductive Ek where
 |b
 |s
 |m
 |f
 |i
def eqD(k:Ek)(x y:V):Option Bool:=
 match k,x,y with
 |.b,.bool a,.bool b=>some (oQ a b)
 |.s,.nils,.nils=>some true
 |.s,.nils,.sl .. =>some false
 |.s,.sl ..,.nils=>some false
 |.m,.nilm,.nilm=>some true
 |.m,.nilm,.map _=>some false
 |.m,.map _,.nilm=>some false
 |.f,.nilf,.nilf=>some true
 |.f,.nilf,.func .. =>some false
 |.f,.func ..,.nilf=>some false
 |.i,.nili,.nili=>some true
 |.i,.nili,.iface _ _=>some false
 |.i,.iface _ _,.nili=>some false
 |_,_,_=>none
def bin(op:BinOp)(x y:V):Option V:=
 match x,y with
 |.int k a,.int j b=>
  match op with
  |.shl=>vK .shl k a b
  |.shr=>vK .shr k a b
  |op=>oif (eqK k j) (Jr op k a b)
 |.str n a,.str m b=>Jq op n a m b
 |_,_=>none
def un(op:UnOp)(x:V):Option V:=
 match op,x with
 |.neg,.int k n=>some (.int k (dA k (Int.sub 0 n)))
 |.xor,.int k n=>some (.int k (lL k (Nat.sub (Nat.sub (iL k) 1) (toU k n))))
 |.not,.bool b=>some (.bool (!b))
 |_,_=>none
inductive Sk where
 |str
 |sl (es:Nat)
 |arr (n es:Nat)
inductive Lk where
 |str
 |sl
 |const (n:Nat)
inductive POp where
 |mv
 |pick
 |build (zero:List V) (parts:List (Nat×Nat))
 |nilc
 |bin (op:BinOp)
 |eqd (k:Ek) (neg:Bool)
 |un (op:UnOp)
 |toInt (k:IntKind)
 |sid
 |mki (t:TypeId)
 |mkf (fn:Fn) (first:Nat)
 |fa (off:Nat)
 |field (agg:Bool) (off size:Nat)
 |ixarrp (len es:Nat)
 |ixsl (es:Nat)
 |ixstr
 |ixarr (agg:Bool) (len es:Nat)
 |slc (k:Sk) (lo hi mx:Bool)
 |ext (i:Nat)
 |leng (k:Lk)
 |mins
 |maxs
def cellsOf(v:V):List V:=
 match v with
 |.agg cs=>cs
 |v=>[v]
def cQ(v:V):Bool:=
 match v with
 |.agg _=>false
 |.tup _=>false
 |_=>true
def over(l:List V):Nat->List V->Option (List V):=
 List.rec (motive:=λ_=>Nat->List V->Option (List V)) (λoff vs=>fW vs (oif (Nat.beq off 0) (some [])) λ_ _=>none)
  (λc l ih off vs=>Bool.rec (motive:=λ_=>Option (List V)) (ob (ih (Nat.sub off 1) vs) λr=>some (c ::r))
   (fW vs (some (c ::l)) λv tl=>ob (ih 0 tl) λr=>some (v ::r)) (Nat.beq off 0)) l
def cD{α:Type}(l:List α):Nat:=List.rec (motive:=λ_=>Nat) 0 (λ_ _ n=>Nat.succ n) l
def jT(parts:List (Nat×Nat)):List V->List V->Option (List V):=
 List.rec (motive:=λ_=>List V->List V->Option (List V)) (λvs cs=>fW vs (some cs) λ_ _=>none)
  (λp _ ih vs cs=>fW vs none λv tl=>oif (Nat.beq (cD (cellsOf v)) p.2) (ob (over cs p.1 (cellsOf v)) λcs=>ih tl cs)) parts
def iR{α:Type}(n:Nat):List α->Option (List α):=
 Nat.rec (motive:=λ_=>List α->Option (List α)) (λ_=>some []) (λ_ ih l=>fW l none λx tl=>ob (ih tl) λr=>some (x ::r)) n
def kN{α:Type}(n:Nat):List α->List α:=
 Nat.rec (motive:=λ_=>List α->List α) (λl=>l) (λ_ ih l=>fW l [] λ_ tl=>ih tl) n
def ff{α:Type}(l:List α):Nat->Option α:=
 List.rec (motive:=λ_=>Nat->Option α) (λ_=>none) (λx _ ih n=>Bool.rec (motive:=λ_=>Option α) (ih (Nat.sub n 1)) (some x) (Nat.beq n 0)) l
def idx(n:Int)(len:Nat):Option Nat:=
 Int.rec (motive:=λ_=>Option Nat) (λm=>oif (Nat.blt m len) (some m)) (λ_=>none) n
def bound(v:V)(hi:Nat):Option Nat:=
 match v with
 |.int _ n=>Int.rec (motive:=λ_=>Option Nat) (λm=>oif (Nat.ble m hi) (some m)) (λ_=>none) n
 |_=>none
def Bv(b:Bool)(l:List V):Option (Option V×List V):=
 Bool.rec (motive:=λ_=>Option (Option V×List V)) (some (none,l)) (fW l none λv tl=>some (some v,tl)) b
def dL(o:Option V)(d hi:Nat):Option Nat:=Option.rec (motive:=λ_=>Option Nat) (some d) (λv=>bound v hi) o
def xB(k:Sk)(x:V)(lo hi mx:Option V):Option V:=
 match k,x with
 |.str,.str n c=>Option.rec (motive:=λ_=>Option V)
   (ob (dL hi n n) λh=>ob (dL lo 0 h) λl=>some (.str (Nat.sub h l) (Nat.mod (Nat.shiftRight c (Nat.mul 8 l)) (Nat.shiftLeft 1 (Nat.mul 8 (Nat.sub h l)))))) (λ_=>none) mx
 |.sl _,.nils=>ob (dL mx 0 0) λm=>ob (dL hi 0 m) λh=>ob (dL lo 0 h) λ_=>some .nils
 |.sl es,.sl id off len cap exact es'=>
  oif (Nat.beq es es') (Bool.rec (motive:=λ_=>Option V)
   (Option.rec (motive:=λ_=>Option V)
    (ob (dL hi len len) λh=>ob (dL lo 0 h) λl=>some (.sl id (Nat.add off (Nat.mul l es)) (Nat.sub h l) 0 false es))
    (λm=>ob (bound m len) λm=>ob (dL hi len m) λh=>ob (dL lo 0 h) λl=>some (.sl id (Bool.rec (motive:=λ_=>Nat) (Nat.add off (Nat.mul l es)) off (Nat.beq m l)) (Nat.sub h l) (Nat.sub m l) true es)) mx)
   (ob (dL mx cap cap) λm=>ob (dL hi len m) λh=>ob (dL lo 0 h) λl=>some (.sl id (Bool.rec (motive:=λ_=>Nat) (Nat.add off (Nat.mul l es)) off (Nat.beq m l)) (Nat.sub h l) (Nat.sub m l) true es)) exact)
 |.arr n es,.ptr id off=>ob (dL mx n n) λm=>ob (dL hi n m) λh=>ob (dL lo 0 h) λl=>some (.sl id (Bool.rec (motive:=λ_=>Nat) (Nat.add off (Nat.mul l es)) off (Nat.beq m l)) (Nat.sub h l) (Nat.sub m l) true es)
 |_,_=>none
def min2(a b:V):Option V:=
 match a,b with
 |.int k x,.int _ y=>some (.int k (Bool.rec (motive:=λ_=>Int) x y (ltI y x)))
 |_,_=>none
def max2(a b:V):Option V:=
 match a,b with
 |.int k x,.int _ y=>some (.int k (Bool.rec (motive:=λ_=>Int) x y (ltI x y)))
 |_,_=>none
def rt(f:V->V->Option V)(l:List V):V->Option V:=
 List.rec (motive:=λ_=>V->Option V) some (λx _ ih a=>ob (f a x) ih) l
def part(agg:Bool)(cs:List V)(off size:Nat):Option V:=
 Bool.rec (motive:=λ_=>Option V) (ff cs off) (ob (iR size (kN off cs)) λl=>some (.agg l)) agg
def POp.run1(o:POp)(x:V):Option V:=
 match o,x with
 |.mv,x=>some x
 |.nilc,.ptr i j=>some (.ptr i j)
 |.nilc,.func (.func f) a b=>some (.func (.func f) a b)
 |.nilc,.yld l=>some (.yld l)
 |.nilc,.eptr cs off=>some (.eptr cs off)
 |.un op,x=>Ev.un op x
 |.toInt k,.int _ n=>some (.int k (dA k n))
 |.sid,.str n c=>some (.str n c)
 |.mki t,x=>some (.iface t x)
 |.fa off,.ptr i j=>some (.ptr i (Nat.add j off))
 |.fa off,.eptr cs j=>some (.eptr cs (Nat.add j off))
 |.field a off size,.agg cs=>part a cs off size
 |.ext i,.tup cs=>ff cs i
 |.leng Lk.str,.str n _=>some (.int .i64 (Int.ofNat n))
 |.leng Lk.sl,.nils=>some (.int .i64 (Int.ofNat 0))
 |.leng Lk.sl,.sl _ _ n _ _ _=>some (.int .i64 (Int.ofNat n))
 |.leng Lk.sl,.lst n _ _=>some (.int .i64 (Int.ofNat n))
 |.leng (.const n),_=>some (.int .i64 (Int.ofNat n))
 |_,_=>none
def POp.run2(o:POp)(x y:V):Option V:=
 match o,x,y with
 |.bin op,x,y=>Ev.bin op x y
 |.eqd k neg,x,y=>ob (eqD k x y) λb=>some (.bool (Bool.rec (motive:=λ_=>Bool) b (!b) neg))
 |.ixarrp ln es,.ptr i j,.int _ n=>ob (idx n ln) λm=>some (.ptr i (Nat.add j (Nat.mul m es)))
 |.ixsl es,.sl id off ln _ _ es',.int _ n=>oif (Nat.beq es es') (ob (idx n ln) λm=>some (.ptr id (Nat.add off (Nat.mul m es))))
 |.ixsl es,.lst ln es' cs,.int _ n=>oif (Nat.beq es es') (ob (idx n ln) λm=>some (.eptr cs (Nat.mul m es)))
 |.ixstr,.str ln c,.int _ n=>ob (idx n ln) λm=>some (.int .u8 (Int.ofNat (Nat.mod (Nat.shiftRight c (Nat.mul 8 m)) 256)))
 |.ixarr a ln es,.agg cs,.int _ n=>ob (idx n ln) λm=>part a cs (Nat.mul m es) es
 |_,_,_=>none
def POp.run(o:POp)(vs:List V):Option V:=
 match o,vs with
 |.build zero parts,vs=>ob (jT parts vs zero) λcs=>some (.agg cs)
 |.pick,[.bool c,a,b]=>some (Bool.rec (motive:=λ_=>V) b a c)
 |.mkf fn n,vs=>ob (iR n vs) λfirst=>some (.func fn first (kN n vs))
 |.slc k lo hi mx,x ::tl=>oif (!mx||hi) <| ob (Bv lo tl) λp=>ob (Bv hi p.2) λq=>ob (Bv mx q.2) λr=>xB k x p.1 q.1 r.1
 |.mins,x ::tl=>rt min2 tl x
 |.maxs,x ::tl=>rt max2 tl x
 |o,[x]=>o.run1 x
 |o,[x,y]=>o.run2 x y
 |_,_=>none
inductive Pk where
 |i
 |s
 |b
 |p
inductive Kk where
 |one (k:Pk)
 |agg (ks:List Pk)
inductive ROp where
 |load (agg:Bool) (n:Nat)
 |lookup (k:Kk) (ok:Bool) (zero:V)
 |lenMap
 |b2s
 |eq (k:Kk) (neg:Bool)
inductive EOp where
 |store (n:Nat)
 |append (es bytes:Nat) (zeros:Option (List V))
 |copy (es:Nat)
 |mapup (k:Kk)
 |delete (k:Kk)
 |clear (zero:List V)
 |nextS
 |mapent (k:Kk) (zero:V)
 |entst
 |rangeM
 |nextM
 |entryM
inductive AOp where
 |alloc (cells:List V)
 |box
 |bslice (zero:List V) (len es:Nat) (parts:List (Nat×Nat))
 |mkm (r:Bool)
 |mks (zero:List V) (bytes:Nat)
 |rangeS
inductive COp where
 |p (o:POp)
 |r (o:ROp)
 |a (o:AOp)
 |e (o:EOp)
 |call (f:FuncId)
 |callv
structure cj where
 dst:Dst
 op:COp
 args:List Opd
 guard:Option (Opd×Bool)
 lo:Nat
 hi:Nat
inductive cF where
 |skip
 |reg (ops:List cj)
 |regD (ops:List cj)
 |seq (a b:cF)
 |cond (c:Opd) (a b:cF)
 |block (id:Nat) (c:cF)
 |loop (c:cF)
 |rangeF (f:Opd) (params:List Dst) (assign body:cF)
 |exit (id:Nat)
 |ret
inductive nZ where
 |tmp (o:Opd)
 |cell (o:Opd) (agg:Bool) (n:Nat)
structure CF where
 params:Nat
 code:cF
 results:List nZ
inductive X where
 |norm
 |exit (id:Nat)
 |ret
inductive Blk where
 |cells (n:Nat) (cs:Tr V) (up:Option (Nat×Nat)) (child:Bool)
 |ro (n:Nat) (cs:Tr V)
 |map (es:List (V×V)) (ord:Bool)
 |siter (len code pos:Nat)
 |loop (state:Nat) (f:F) (params:List Dst) (assign body:cF) (jump:Option X)
 |dead
 |miter (m:Nat) (st:Option (List Nat×Nat))
structure H where
 t:Tr Blk
 next:Nat
def H.blk(h:H)(id:Nat):Option Blk:=h.t.get id
def H.cells(h:H)(id:Nat):Option (Nat×Tr V):=
 ob (h.blk id) λb=>match b with
  |.cells n cs _ _=>some (n,cs)
  |.ro n cs=>some (n,cs)
  |_=>none
def H.ord(h:H)(id:Nat):Bool:=Option.rec (motive:=λ_=>Bool) false (λb=>match b with
  |.map _ o=>o
  |_=>false) (h.blk id)
def H.entries(h:H)(id:Nat):Option (List (V×V)):=
 ob (h.blk id) λb=>match b with
  |.map es _=>some es
  |_=>none
def lH(cs:Tr V)(n:Nat)(k:Nat):Nat->Option (List V):=
 Nat.rec (motive:=λ_=>Nat->Option (List V)) (λ_=>some [])
  (λ_ ih off=>oif (Nat.blt off n) (ob (cs.get off) λv=>ob (ih (Nat.succ off)) λr=>some (v ::r))) k
def H.rd(h:H)(id off k:Nat):Option (List V):=ob (h.cells id) λb=>lH b.2 b.1 k off
def H.alone(h:H)(id:Nat):Bool:=
 Option.rec (motive:=λ_=>Bool) false (λb=>match b with
  |.cells _ _ none false=>true
  |_=>false) (h.blk id)
def eq1(h:H)(k:Pk)(x y:V):Option Bool:=
 match k,x,y with
 |.i,.int k a,.int j b=>oif (eqK k j) (some (eqI a b))
 |.s,.str n a,.str m b=>some (cJ n a m b)
 |.b,.bool a,.bool b=>some (oQ a b)
 |.p,.nilp,.nilp=>some true
 |.p,.nilp,.ptr _ _=>some false
 |.p,.ptr _ _,.nilp=>some false
 |.p,.ptr a i,.ptr b j=>Bool.rec (motive:=λ_=>Option Bool) (oif (h.alone a) (oif (h.alone b) (some false))) (some (Nat.beq i j)) (Nat.beq a b)
 |_,_,_=>none
def eqL(h:H)(ks:List Pk):List V->List V->Option Bool:=
 List.rec (motive:=λ_=>List V->List V->Option Bool) (λa b=>fW a (fW b (some true) λ_ _=>none) λ_ _=>none)
  (λk _ r a b=>fW a none λu ta=>fW b none λv tb=>ob (eq1 h k u v) λc=>Bool.rec (motive:=λ_=>Option Bool) (some false) (r ta tb) c) ks
def g7(h:H)(k:Kk)(x y:V):Option Bool:=
 match k,x,y with
 |.one k,x,y=>eq1 h k x y
 |.agg ks,.agg a,.agg b=>eqL h ks a b
 |_,_,_=>none
def fZ(k:Kk)(x:V):Bool:=
 match k,x with
 |.one _,_=>true
 |.agg ks,.agg a=>Nat.beq (cD ks) (cD a)
 |_,_=>false
def gz(h:H)(kk:Kk)(k:V)(es:List (V×V)):Option (Option V):=
 List.rec (motive:=λ_=>Option (Option V)) (some none) (λe _ ih=>ob (g7 h kk k e.1) λb=>Bool.rec (motive:=λ_=>Option (Option V)) ih (some (some e.2)) b) es
def xR(h:H)(kk:Kk)(k:V)(es:List (V×V)):Option (Option Nat):=
 List.rec (motive:=λ_=>Option (Option Nat)) (some none) (λe _ ih=>ob (g7 h kk k e.1) λb=>Bool.rec (motive:=λ_=>Option (Option Nat)) (ob ih λr=>some (r.map (·+1))) (some (some 0)) b) es
def oG(h:H)(kk:Kk)(k v:V)(es:List (V×V)):Option (List (V×V)):=
 List.rec (motive:=λ_=>Option (List (V×V))) (some [(k,v)]) (λe tl ih=>ob (g7 h kk k e.1) λb=>Bool.rec (motive:=λ_=>Option (List (V×V))) (ob ih λr=>some (e ::r)) (some ((k,v) ::tl)) b) es
def wC(h:H)(kk:Kk)(k:V)(es:List (V×V)):Option (List (V×V)):=
 List.rec (motive:=λ_=>Option (List (V×V))) (some []) (λe tl ih=>ob (g7 h kk k e.1) λb=>Bool.rec (motive:=λ_=>Option (List (V×V))) (ob ih λr=>some (e ::r)) (some tl) b) es
def jw(l:List V):Option Nat:=
 List.rec (motive:=λ_=>Option Nat) (some 0) (λv _ ih=>match v with
  |.int .u8 n=>Int.rec (motive:=λ_=>Option Nat) (λm=>ob ih λr=>some (Nat.add (Nat.mod m 256) (Nat.mul 256 r))) (λ_=>none) n
  |_=>none) l
def i6(ok:Bool)(zero:V)(r:Option V):V:=
 Bool.rec (motive:=λ_=>V) (Option.rec (motive:=λ_=>V) zero id r) (.tup [Option.rec (motive:=λ_=>V) zero id r,.bool r.isSome]) ok
def ROp.run(o:ROp)(vs:List V)(h:H):Option V:=
 match o,vs with
 |.load false _,[.ptr id off]=>ob (h.rd id off 1) λl=>ff l 0
 |.load true n,[.ptr id off]=>ob (h.rd id off n) λl=>some (.agg l)
 |.load false _,[.eptr cs off]=>ff cs off
 |.load true n,[.eptr cs off]=>ob (iR n (kN off cs)) λl=>some (.agg l)
 |.lookup kk ok zero,[.nilm,k]=>oif (fZ kk k) <| some (i6 ok zero none)
 |.lookup kk ok zero,[.map id,k]=>oif (fZ kk k) <| ob (h.entries id) λes=>ob (gz h kk k es) λr=>some (i6 ok zero r)
 |.lenMap,[.nilm]=>some (.int .i64 (Int.ofNat 0))
 |.lenMap,[.map id]=>ob (h.entries id) λes=>some (.int .i64 (Int.ofNat (cD es)))
 |.eq kk neg,[x,y]=>ob (g7 h kk x y) λb=>some (.bool (Bool.rec (motive:=λ_=>Bool) b (!b) neg))
 |.b2s,[.nils]=>some (.str 0 0)
 |.b2s,[.sl id off len _ _ es]=>oif (Nat.beq es 1) (ob (h.rd id off len) λl=>ob (jw l) λc=>some (.str len c))
 |_,_=>none
def cM(l:List V):Nat->Tr V->Tr V:=
 List.rec (motive:=λ_=>Nat->Tr V->Tr V) (λ_ t=>t) (λv _ ih i t=>ih (Nat.succ i) (t.put i (some v))) l
def cU(l:List V):Bool:=List.rec (motive:=λ_=>Bool) true (λv _ ih=>Bool.rec (motive:=λ_=>Bool) false ih (cQ v)) l
def H.new(h:H)(b:Blk):Option H:=oif (Nat.blt h.next bZ) (some ⟨h.t.put h.next (some b),Nat.succ h.next⟩)
def H.newCells(h:H)(l:List V)(up:Option (Nat×Nat)):Option H:=
 oif (cU l) (oif (Nat.blt (cD l) bZ) (h.new (.cells (cD l) (cM l 0 .e) up false)))
def oN(fuel:Nat):Option (Nat×Nat)->Nat->H->Option H:=
 Nat.rec (motive:=λ_=>Option (Nat×Nat)->Nat->H->Option H) (λup _ h=>Option.rec (motive:=λ_=>Option H) (some h) (λ_=>none) up)
  (λ_ ih up i h=>Option.rec (motive:=λ_=>Option H) (some h)
   (λp=>ob (h.blk p.1) λb=>match b with
    |.cells n cs up' child=>oif (Nat.blt (Nat.add p.2 i) bZ) <| ih up' (Nat.add p.2 i) ⟨h.t.put p.1 (some (.cells n (cs.put (Nat.add p.2 i) none) up' child)),h.next⟩
    |.dead=>some h
    |_=>none) up) fuel
def H.wr1(h:H)(id i:Nat)(v:V):Option H:=
 ob (h.blk id) λb=>match b with
  |.cells n cs up child=>oif (!child) (oif (Nat.blt i n) (oif (cQ v)
    (ob (oN 64 up i h) λh=>some ⟨h.t.put id (some (.cells n (cs.put i (some v)) up child)),h.next⟩)))
  |_=>none
def H.wr(id:Nat)(l:List V):Nat->H->Option H:=
 List.rec (motive:=λ_=>Nat->H->Option H) (λ_ h=>some h) (λv _ ih i h=>ob (h.wr1 id i v) λh=>ih (Nat.succ i) h) l
def ku(zero:List V)(n:Nat):List V:=Nat.rec (motive:=λ_=>List V) [] (λ_ l=>zero++l) n
def lP(es:Nat)(x:V)(h:H):Option (Nat×List V):=
 match x with
 |.nils=>some (0,[])
 |.sl id off len _ _ es'=>oif (Nat.beq es es') (ob (h.rd id off (Nat.mul len es)) λl=>some (len,l))
 |.lst n es' cs=>oif (Nat.beq es es') (some (n,cs))
 |_=>none
def jB(es:Nat)(zeros:Option (List V))(x:V)(h:H):Option (Nat×List V):=
 Option.rec (motive:=λ_=>Option (Nat×List V)) (lP es x h) (λz=>match x with
  |.int .i64 n=>Int.rec (motive:=λ_=>Option (Nat×List V)) (λm=>oif (Nat.blt m 1048576) (some (m,ku z m))) (λ_=>none) n
  |_=>none) zeros
def H.adopt(h:H)(id:Nat):Option H:=
 ob (h.blk id) λb=>match b with
  |.cells n cs up child=>oif (!child) (some ⟨h.t.put id (some (.cells n cs up true)),h.next⟩)
  |_=>none
def H.shareNew(h:H)(id off n:Nat)(cs:Tr V)(l:List V):Option H:=
 oif (cU l) (oif (Nat.blt (Nat.add n (cD l)) bZ) (h.new (.cells (Nat.add n (cD l)) (cM l n cs) (some (id,off)) false)))
def yU(es bytes:Nat)(zeros:Option (List V))(s x:V)(h:H):Option (V×H):=
 ob (jB es zeros x h) λp=>
 match s with
 |.nils=>Bool.rec (motive:=λ_=>Option (V×H))
   (oif (Nat.blt (Nat.mul p.1 bytes) 1099511627776) (ob (h.newCells p.2 none) λh'=>some (.sl h.next 0 p.1 0 false es,h'))) (some (.nils,h)) (Nat.beq p.1 0)
 |.sl id off len cap exact es'=>
  oif (Nat.beq es es') (ob (h.cells id) λb=>
  Bool.rec (motive:=λ_=>Option (V×H))
   (Bool.rec (motive:=λ_=>Option (V×H))
    (oif (Nat.beq b.1 (Nat.mul len es)&&Nat.beq off 0) (oif (Nat.blt (Nat.mul (Nat.add len p.1) bytes) 1099511627776)
     (ob (h.adopt id) λh=>ob (h.shareNew id off b.1 b.2 p.2) λh'=>some (.sl h.next 0 (Nat.add len p.1) 0 false es,h'))))
    (oif (Nat.blt (Nat.mul (Nat.add len p.1) bytes) 1099511627776)
     (ob (h.rd id off (Nat.mul len es)) λold=>ob (h.newCells (old++p.2) none) λh'=>some (.sl h.next 0 (Nat.add len p.1) 0 false es,h'))) exact)
   (ob (H.wr id p.2 (Nat.add off (Nat.mul len es)) h) λh=>some (.sl id off (Nat.add len p.1) cap exact es,h))
   (Nat.ble (Nat.add len p.1) (Bool.rec (motive:=λ_=>Nat) (Nat.div (Nat.sub b.1 off) es) cap exact)))
 |_=>none
def Jj(es:Nat)(d x:V)(h:H):Option (V×H):=
 ob (lP es x h) λp=>
 match d with
 |.nils=>some (.int .i64 (Int.ofNat 0),h)
 |.sl id off len _ _ es'=>oif (Nat.beq es es') (ob (iR (Nat.mul (Nat.min p.1 len) es) p.2) λl=>ob (H.wr id l off h) λh=>some (.int .i64 (Int.ofNat (Nat.min p.1 len)),h))
 |_=>none
def cT:V:= .tup []
def dR(l:List V):Option Blk:=oif (cU l) (oif (Nat.blt (cD l) bZ) (some (.cells (cD l) (cM l 0 .e) none false)))
def AOp.run(o:AOp)(vs:List V):Option (Blk×(Nat->V)):=
 match o,vs with
 |.alloc cells,[]=>ob (dR cells) λb=>some (b,λi=>.ptr i 0)
 |.box,[x]=>ob (dR (cellsOf x)) λb=>some (b,λi=>.ptr i 0)
 |.bslice zero ln es parts,vs=>ob (jT parts vs (ku zero ln)) λcs=>ob (dR cs) λb=>some (b,λi=>.sl i 0 ln ln true es)
 |.mkm false,[]=>some (.map [] true,λi=>.map i)
 |.mkm true,[.int _ _]=>some (.map [] true,λi=>.map i)
 |.mks zero bytes,[.int .i64 l,.int .i64 c]=>Int.rec (motive:=λ_=>Option (Blk×(Nat->V))) (λl=>Int.rec (motive:=λ_=>Option (Blk×(Nat->V))) (λc=>
   oif (Nat.ble l c) (oif (Nat.blt (Nat.mul c bytes) 1099511627776) (oif (Nat.blt c 1099511627776) (ob (dR (ku zero c)) λb=>some (b,λi=>.sl i 0 l c true (cD zero)))))) (λ_=>none) c) (λ_=>none) l
 |.rangeS,[.str n c]=>some (.siter n c 0,λi=>.ptr i 0)
 |_,_=>none
def H.make(h:H)(o:AOp)(vs:List V):Option (V×H):=ob (o.run vs) λr=>ob (h.new r.1) λh'=>some (r.2 h.next,h')
def EOp.run(o:EOp)(vs:List V)(h:H):Option (V×H):=
 match o,vs with
 |.store n,[.ptr id off,x]=>oif (Nat.beq (cD (cellsOf x)) n) (ob (H.wr id (cellsOf x) off h) λh=>some (cT,h))
 |.append es bytes z,[s,x]=>yU es bytes z s x h
 |.copy es,[d,x]=>Jj es d x h
 |.mapup kk,[.map id,k,v]=>oif (fZ kk k) <| ob (h.entries id) λes=>ob (oG h kk k v es) λes=>some (cT,⟨h.t.put id (some (.map es (h.ord id))),h.next⟩)
 |.delete kk,[.map id,k]=>oif (fZ kk k) <| ob (h.entries id) λes=>ob (wC h kk k es) λes=>some (.tup [],⟨h.t.put id (some (.map es false)),h.next⟩)
 |.mapent kk z,[.map id,k]=>oif (fZ kk k&&h.ord id) <| ob (h.entries id) λes=>ob (xR h kk k es) λp=>Option.rec (motive:=λ_=>Option (V×H))
   (some (.tup [z,.int .i64 (Int.ofNat (cD es))],⟨h.t.put id (some (.map (es++[(k,z)]) true)),h.next⟩))
   (λj=>ob (ff es j) λe=>some (.tup [e.2,.int .i64 (Int.ofNat j)],⟨h.t.put id (some (.map (es.set j (k,e.2)) true)),h.next⟩)) p
 |.entst,[.map id,.int _ s,x]=>oif (h.ord id) <| ob (h.entries id) λes=>ob (idx s (cD es)) λj=>ob (ff es j) λe=>some (cT,⟨h.t.put id (some (.map (es.set j (e.1,x)) true)),h.next⟩)
 |.rangeM,[.map id]=>ob (h.entries id) λes=>ob (h.new (.miter id (Bool.rec (motive:=λ_=>Option (List Nat×Nat)) none (some ([],cD es)) (h.ord id)))) λh'=>some (.ptr h.next 0,h')
 |.nextM,[.ptr id 0]=>ob (h.blk id) λb=>match b with
   |.miter m (some ([],_))=>ob (h.entries m) λes=>fW es (some (.tup [.bool false],h)) λ_ _=>none
   |.miter m none=>ob (h.entries m) λes=>fW es (some (.tup [.bool false],h)) λ_ _=>none
   |_=>none
 |.clear _,[.nils]=>some (.tup [],h)
 |.clear zero,[.sl id off ln _ _ es]=>oif (Nat.beq (cD zero) es) (ob (H.wr id (ku zero ln) off h) λh=>some (.tup [],h))
 |.nextS,[.ptr id 0]=>ob (h.blk id) λb=>match b with
   |.siter n c pos=>Bool.rec (motive:=λ_=>Option (V×H)) (some (.tup [.bool false],h))
     (some (.tup [.bool true,.int .i64 (Int.ofNat pos),.int .i32 (Int.ofNat (mh n c pos).1)],⟨h.t.put id (some (.siter n c (Nat.add pos (mh n c pos).2))),h.next⟩)) (Nat.blt pos n)
   |_=>none
 |_,_=>none
inductive FT where
 |fn (f:FuncId)
 |yld (id:Nat)
abbrev cN:=FT->List V->H->Option (V×H)
def nV(call:cN)(vs:List V)(h:H):Option (V×H):=
 match vs with
 |.func (.func f) first captured ::args=>call (.fn f) (first++(args++captured)) h
 |.yld id ::args=>call (.yld id) args h
 |_=>none
def COp.run(call:cN)(o:COp)(vs:List V)(h:H):Option (V×H):=
 COp.rec (motive:=λ_=>Option (V×H)) (λo=>ob (o.run vs) λv=>some (v,h)) (λo=>ob (o.run vs h) λv=>some (v,h)) (λo=>h.make o vs) (λo=>o.run vs h) (λf=>call (.fn f) vs h) (nV call vs h) o
def Hx(o:Option V)(b:Bool):Option Bool:=
 Option.rec (motive:=λ_=>Option Bool) none (λv=>V.rec (motive_1:=λ_=>Option Bool) (motive_2:=λ_=>Unit) (λc=>some (oQ c b)) (λ_ _=>none) (λ_ _=>none) none (λ_ _=>none) none (λ_ _ _ _ _ _=>none) none (λ_=>none) (λ_ _ _ _ _=>none) (λ_=>none) none (λ_ _ _=>none) none (λ_ _=>none)
  (λcs _=>List.rec (motive:=λ_=>Option Bool) (some false) (λ_ _ _=>none) cs) (λ_ _ _ _=>none) (λ_ _ _=>none) () (λ_ _ _ _=>()) v) o
def cm(f:F)(g:Option (Opd×Bool)):Option Bool:=
 Option.rec (motive:=λ_=>Option Bool) (some true) (λp=>Hx (p.1.ev f) p.2) g
def cj.run(call:cN)(o:cj)(f:F)(h:H):Option (F×H):=
 ob (cm f o.guard) λb=>Bool.rec (motive:=λ_=>Option (F×H)) (some (o.dst.put f cT,h))
  (ob (evs f o.args) λvs=>ob (o.op.run call vs h) λr=>some (o.dst.put f r.1,r.2)) b
def sK(call:cN)(ops:List cj):F->H->Option (F×H):=
 List.rec (motive:=λ_=>F->H->Option (F×H)) (λf h=>some (f,h)) (λo _ ih f h=>ob (o.run call f h) λr=>ih r.1 r.2) ops
structure Tc where
 op:ROp
 vs:List V
 v:V
 lo:Nat
 hi:Nat
def DY(fuel:Nat):V->V->Bool:=
 Nat.rec (motive:=λ_=>V->V->Bool) (λ_ _=>false)
  (λ_ ih x y=>
   let all (a b:List V):Bool:=List.rec (motive:=λ_=>List V->Bool) (λl=>fW l true λ_ _=>false)
    (λu _ r l=>fW l false λv tl=>Bool.rec (motive:=λ_=>Bool) false (r tl) (ih u v)) a b
   match x,y with
   |.bool a,.bool b=>oQ a b
   |.int k a,.int j b=>eqK k j&&eqI a b
   |.str n a,.str m b=>cJ n a m b
   |.nilp,.nilp=>true
   |.ptr a i,.ptr b j=>Nat.beq a b&&Nat.beq i j
   |.nils,.nils=>true
   |.sl a b c d e f,.sl a' b' c' d' e' f'=>Nat.beq a a'&&Nat.beq b b'&&Nat.beq c c'&&Nat.beq d d'&&oQ e e'&&Nat.beq f f'
   |.nilm,.nilm=>true
   |.map a,.map b=>Nat.beq a b
   |.func (.func f) a b,.func (.func g) c d=>Nat.beq f g&&all a c&&all b d
   |.yld a,.yld b=>Nat.beq a b
   |.nilf,.nilf=>true
   |.nili,.nili=>true
   |.iface t a,.iface u b=>Nat.beq t u&&ih a b
   |.agg a,.agg b=>all a b
   |.tup a,.tup b=>all a b
   |_,_=>false) fuel
def pv(c:Tc)(h:H):Bool:=Option.rec (motive:=λ_=>Bool) false (λv=>DY 20 v c.v) (c.op.run c.vs h)
def kv(c:Tc)(i:Nat)(hs:List H):Bool:=
 List.rec (motive:=λ_=>Nat->Bool) (λ_=>true) (λh _ ih i=>Bool.rec (motive:=λ_=>Bool) (Bool.rec (motive:=λ_=>Bool) false (ih (Nat.succ i)) (pv c h)) (ih (Nat.succ i)) (Nat.blt i c.lo||Nat.blt c.hi i)) hs i
def kW(cs:List Tc)(hs:List H):Bool:=
 List.rec (motive:=λ_=>Bool) true (λc _ ih=>Bool.rec (motive:=λ_=>Bool) false ih (kv c 0 hs)) cs
structure St where
 f:F
 h:H
 hs:List H
 cs:List Tc
def isE(o:COp):Bool:=COp.rec (motive:=λ_=>Bool) (λ_=>false) (λ_=>false) (λ_=>false) (λ_=>true) (λ_=>true) true o
def cj.runD(call:cN)(o:cj)(s:St):Option St:=
 ob (cm s.f o.guard) λb=>Bool.rec (motive:=λ_=>Option St)
  (some ⟨o.dst.put s.f cT,s.h,Bool.rec (motive:=λ_=>List H) s.hs (s.h ::s.hs) (isE o.op),s.cs⟩)
  (ob (evs s.f o.args) λvs=>ob (o.op.run call vs s.h) λr=>
   some ⟨o.dst.put s.f r.1,r.2,Bool.rec (motive:=λ_=>List H) s.hs (s.h ::s.hs) (isE o.op),
    COp.rec (motive:=λ_=>List Tc) (λ_=>s.cs) (λq=>⟨q,vs,r.1,o.lo,o.hi⟩ ::s.cs) (λ_=>s.cs) (λ_=>s.cs) (λ_=>s.cs) s.cs o.op⟩) b
def jS(l:List cj):Bool:=
 List.rec (motive:=λ_=>Bool) true (λo _ ih=>COp.rec (motive:=λ_=>Bool) (λ_=>ih) (λ_=>ih) (λ_=>false) (λ_=>false) (λ_=>false) false o.op) l
def gS(call:cN)(ops:List cj):St->Option St:=
 List.rec (motive:=λ_=>St->Option St) some (λo _ ih s=>ob (o.runD call s) ih) ops
def jP{α:Type}(l:List α):List α->List α:=
 List.rec (motive:=λ_=>List α->List α) (λr=>r) (λx _ ih r=>ih (x ::r)) l
abbrev Res:=Option (X×F×H)
def xi(o:Res)(k:F->H->Res):Res:=
 ob o λr=>X.rec (motive:=λ_=>Res) (k r.2.1 r.2.2) (λ_=>o) o r.1
def AH(id:Nat)(o:Res):Res:=
 ob o λr=>X.rec (motive:=λ_=>Res) o (λj=>Bool.rec (motive:=λ_=>Res) o (some (.norm,r.2)) (Nat.beq j id)) o r.1
def yc(body:F->H->Res)(n:Nat):F->H->Res:=
 Nat.rec (motive:=λ_=>F->H->Res) (λ_ _=>none) (λ_ ih f h=>xi (body f h) ih) n
def clr(f:F):F:=⟨f.loc,[]⟩
def H.loopOf{β:Type}(h:H)(id:Nat)(k:Nat->F->List Dst->cF->cF->Option X->Option β):Option β:=
 ob (h.blk id) λb=>match b with
  |.loop st f ps assign body j=>k st f ps assign body j
  |_=>none
def H.set(h:H)(id:Nat)(b:Blk):H:=⟨h.t.put id (some b),h.next⟩
def Ab(v:V):Bool:=match v with
 |.func _ _ _=>true
 |_=>false
def exec(call:cN)(rd:Bool)(n:Nat)(c:cF):F->H->Res:=
 cF.rec (motive:=λ_=>F->H->Res)
  (λf h=>some (.norm,f,h))
  (λops f h=>ob (sK call ops f h) λr=>some (.norm,clr r.1,r.2))
  (λops f h=>ob (gS call ops ⟨f,h,[],[]⟩) λs=>oif (Bool.rec (motive:=λ_=>Bool) (kW s.cs (jP s.hs [s.h])) true (jS ops)) (some (.norm,clr s.f,s.h)))
  (λ_ _ ea eb f h=>xi (ea f h) eb)
  (λo _ _ ea eb f h=>ob (o.ev f) λv=>match v with
   |.bool b=>Bool.rec (motive:=λ_=>Res) (eb f h) (ea f h) b
   |_=>none)
  (λid _ e f h=>AH id (e f h))
  (λ_ e f h=>yc e n f h)
  (λg ps assign body _ _ f h=>oif (!rd) <|
   ob (g.ev f) λgv=>oif (Ab gv) <| ob (h.new (.loop 0 f ps assign body none)) λh1=>ob (nV call [gv,.yld h.next] h1) λr=>
   r.2.loopOf h.next λst _ _ _ _ j=>oif (!Nat.beq st 1) (some (Option.rec (motive:=λ_=>X) .norm id j,f,r.2.set h.next .dead)))
  (λid f h=>some (.exit id,f,h))
  (λf h=>some (.ret,f,h)) c
def binds(ps:List Dst):List V->F->Option F:=
 List.rec (motive:=λ_=>List V->F->Option F) (λvs f=>fW vs (some f) λ_ _=>none)
  (λd _ ih vs f=>fW vs none λv tl=>ih tl (d.put f v)) ps
def round(call:cN)(n:Nat)(id:Nat)(vs:List V)(h:H):Option (V×H):=
 h.loopOf id λst f ps assign body _=>oif (Nat.beq st 0) <| ob (binds ps vs f) λf1=>
  ob (exec call true n assign f1 h) λr=>X.rec (motive:=λ_=>Option (V×H))
   (r.2.2.loopOf id λst1 f' ps' as' bd' j'=>oif (Nat.beq st1 0) <|
    ob (exec call true n body r.2.1 (r.2.2.set id (.loop 1 f' ps' as' bd' j'))) λq=>
     q.2.2.loopOf id λst2 f2 ps2 as2 bd2 _=>oif (Nat.beq st2 1) <|
      X.rec (motive:=λ_=>Option (V×H)) (some (.bool true,q.2.2.set id (.loop 0 f2 ps2 as2 bd2 none)))
       (λk=>some (.bool false,q.2.2.set id (.loop 2 f2 ps2 as2 bd2 (some (.exit k)))))
       (some (.bool false,q.2.2.set id (.loop 2 f2 ps2 as2 bd2 (some .ret)))) q.1)
   (λ_=>none) none r.1
def d8(l:List V):Nat->AL:=
 List.rec (motive:=λ_=>Nat->AL) (λ_=>[]) (λv _ ih i=>(i,v) ::ih (Nat.succ i)) l
def ip(f:F)(h:H)(l:List nZ):Option (List V):=
 List.rec (motive:=λ_=>Option (List V)) (some []) (λr _ ih=>
  ob (nZ.rec (motive:=λ_=>Option V) (λo=>o.ev f) (λo a n=>ob (o.ev f) λv=>(ROp.load a n).run [v] h) r) λv=>ob ih λvs=>some (v ::vs)) l
def dq(l:List V):V:=
 match l with
 |[v]=>v
 |l=>.tup l
def enter(call:cN)(n:Nat)(c:CF)(vs:List V)(h:H):Option (V×H):=
 oif (Nat.beq (cD vs) c.params) (ob (exec call false n c.code ⟨d8 vs 0,[]⟩ h) λr=>
  match r.1 with
  |.exit _=>none
  |_=>ob (ip r.2.1 r.2.2 c.results) λl=>some (dq l,r.2.2))
def mi(prim:FuncId->Option (List V->H->Option (V×H)))(tab:FuncId->Option CF)(n:Nat):cN:=
 Nat.rec (motive:=λ_=>cN) (λ_ _ _=>none)
  (λ_ ih c vs h=>FT.rec (motive:=λ_=>Option (V×H))
   (λf=>Option.rec (motive:=λ_=>Option (V×H)) (ob (tab f) λcf=>enter ih 1000000 cf vs h)
    (λg=>Option.rec (motive:=λ_=>Option (V×H)) (ob (tab f) λcf=>enter ih 1000000 cf vs h) some (g vs h)) (prim f))
   (λid=>round ih 1000000 id vs h) c) n
structure Ty where
 info:TypeId->Option TypeInfo
 under:TypeId->Option TypeDesc
 free:TypeId->Bool
 pin:List (Nat×Nat×Nat×Tr V)
def gU{α β:Type}(f:α->Option β)(l:List α):Option (List β):=
 List.rec (motive:=λ_=>Option (List β)) (some []) (λa _ ih=>ob (f a) λb=>ob ih λr=>some (b ::r)) l
def ky(v:Value):Option V:=
 match v with
 |.bool b=>some (.bool b)
 |.int k n=>some (.int k n)
 |.string s=>some (.str s.size (ck s.data.toList))
 |.pointer none=>some .nilp
 |.slice none 0 0=>some .nils
 |.map none=>some .nilm
 |.func (.func f) ⟨[]⟩ ⟨[]⟩=>some (.func (.func f) [] [])
 |.nilFunc=>some .nilf
 |.nilIface=>some .nili
 |_=>none
def ofValue(v:Value):Option V:=
 match v with
 |.agg cs=>ob (gU ky cs.toList) λl=>some (.agg l)
 |v=>ky v
def bit(m t:Nat):Bool:=Nat.beq (Nat.mod (Nat.shiftRight m t) 2) 1
def opd(_T:Ty)(m:Nat)(o:Operand):Option Opd:=
 match o with
 |.tmp t=>some (Bool.rec (motive:=λ_=>Opd) (.t t) (.l t) (bit m t))
 |.const v=>ob (ofValue v) λv=>some (.c v)
 |.global _=>none
 |.func f=>some (.c (.func (.func f) [] []))
def dst(m N:Nat)(d:Option Tmp):Option Dst:=
 Option.rec (motive:=λ_=>Option Dst) (some .no) (λt=>oif (Nat.blt t N) (some (Bool.rec (motive:=λ_=>Dst) (.t t) (.l t) (bit m t)))) d
def im(T:Ty)(t:TypeId):Option Nat:=ob (T.info t) λi=>some i.size
def qR(T:Ty)(t:TypeId):Option Bool:=ob (T.under t) λd=>match d with
 |.struct _=>some true
 |.array _ _=>some true
 |_=>some false
def iV(T:Ty)(t:TypeId):Option V:=ob (T.info t) λi=>ob i.zero ofValue
def jE(T:Ty)(t:TypeId):Option Nat:=ob (im T t) λn=>oif (!Nat.beq n 0) (some n)
def rW(T:Ty)(fs:List Field):Option (List (Nat×Nat)):=gU (λf=>ob (im T f.type) λn=>some (f.offset,n)) fs
def mD(T:Ty)(t:TypeId):Option Pk:=
 ob (T.under t) λd=>match d with
  |.int _=>some .i
  |.string=>some .s
  |.bool=>some .b
  |.pointer e=>ob (jE T e) λ_=>some .p
  |_=>none
def kI(T:Ty)(fs:List Field):Nat->Option (List Pk):=
 List.rec (motive:=λ_=>Nat->Option (List Pk)) (λ_=>some []) (λf _ ih i=>oif (Nat.beq f.offset i && !(f.name== "_")) (ob (mD T f.type) λk=>ob (ih (Nat.succ i)) λks=>some (k ::ks))) fs
def kD(T:Ty)(t:TypeId):Option Kk:=
 ob (T.under t) λd=>match d with
  |.struct fs=>oif (T.free t) (ob (kI T fs.toList 0) λks=>some (.agg ks))
  |_=>ob (mD T t) λk=>some (.one k)
def pB(o:Option Operand):List Operand:=Option.rec (motive:=λ_=>List Operand) [] (λx=>[x]) o
def L0(o:Option TypeDesc):Bool:=
 match o with
 |some (.int _)=>true
 |_=>false
def isC(o:Operand):Bool:=
 match o with
 |.const _=>true
 |_=>false
def tM(T:Ty)(t:TypeId)(neg cst:Bool)(d:TypeDesc):Option COp:=
 match d with
 |.interface _=>oif cst (some (.p (.eqd .i neg)))
 |.int _=>some (.p (.bin (Bool.rec (motive:=λ_=>BinOp) .eql .neq neg)))
 |.string=>some (.p (.bin (Bool.rec (motive:=λ_=>BinOp) .eql .neq neg)))
 |.bool=>some (.p (.eqd .b neg))
 |.slice _=>some (.p (.eqd .s neg))
 |.map _ _=>some (.p (.eqd .m neg))
 |.func _ _ _=>some (.p (.eqd .f neg))
 |.pointer _=>ob (kD T t) λk=>some (.r (.eq k neg))
 |.struct _=>ob (kD T t) λk=>some (.r (.eq k neg))
 |_=>none
def H7(T:Ty)(e:TypeId)(x:Operand):Option (COp×List Operand):=
 ob (T.under e) λd=>match d with
  |.int .u8=>ob (jE T e) λn=>oif (Nat.beq n 1) (some (.r .b2s,[x]))
  |_=>none
def bT(T:Ty)(op:Op):Option (COp×List Operand):=
 match op with
 |.move x=>some (.p .mv,[x])
 |.assign x=>some (.p .mv,[x])
 |.pick c a b=>some (.p .pick,[c,a,b])
 |.alloc t=>ob (iV T t) λz=>some (.a (.alloc (cellsOf z)),[])
 |.box _ x=>some (.a .box,[x])
 |.build t ps=>ob (iV T t) λz=>ob (T.under t) λd=>match d with
   |.struct fs=>ob (rW T fs.toList) λpl=>ob (gU (λp=>ff pl p.1) ps.toList) λl=>some (.p (.build (cellsOf z) l),ps.toList.map (·.2))
   |.array _ e=>ob (im T e) λn=>some (.p (.build (cellsOf z) (ps.toList.map λp=>(Nat.mul p.1 n,n))),ps.toList.map (·.2))
   |_=>none
 |.buildSlice t len ps=>ob (T.under t) λd=>match d with
   |.slice e=>ob (jE T e) λn=>ob (iV T e) λz=>oif (Nat.blt (Nat.mul len n) 1048576&&Nat.beq (cD (cellsOf z)) n) (some (.a (.bslice (cellsOf z) len n (ps.toList.map λp=>(Nat.mul p.1 n,n))),ps.toList.map (·.2)))
   |_=>none
 |.insert t m k v=>ob (T.under t) λd=>match d with
   |.map kt _=>ob (kD T kt) λkk=>some (.e (.mapup kk),[m,k,v])
   |_=>none
 |.mapUpdate t m k v=>ob (T.under t) λd=>match d with
   |.map kt _=>ob (kD T kt) λkk=>some (.e (.mapup kk),[m,k,v])
   |_=>none
 |.load t a=>ob (qR T t) λb=>ob (im T t) λn=>some (.r (.load b n),[a])
 |.store t a x=>ob (im T t) λn=>some (.e (.store n),[a,x])
 |.nilCheck x=>some (.p .nilc,[x])
 |.binOp op t x y _=>match op with
   |.eql=>ob (T.under t) λd=>ob (tM T t false (isC x||isC y) d) λc=>some (c,[x,y])
   |.neq=>ob (T.under t) λd=>ob (tM T t true (isC x||isC y) d) λc=>some (c,[x,y])
   |op=>some (.p (.bin op),[x,y])
 |.unOp op _ x=>some (.p (.un op),[x])
 |.convert s d x=>ob (T.under s) λa=>ob (T.under d) λb=>match a,b with
   |.int _,.int k=>some (.p (.toInt k),[x])
   |.string,.string=>some (.p .sid,[x])
   |.slice e,.string=>H7 T e x
   |_,_=>none
 |.makeInterface t x=>ob (T.under t) λd=>match d with
   |.interface _=>none
   |_=>some (.p (.mki t),[x])
 |.makeFunc (.func f) first captured=>some (.p (.mkf (.func f) first.size),first.toList++captured.toList)
 |.makeMap t r=>ob (T.under t) λd=>match d with
   |.map _ _=>some (.a (.mkm r.isSome),pB r)
   |_=>none
 |.makeSlice t l c=>ob (T.under t) λd=>match d with
   |.slice e=>ob (jE T e) λn=>ob (iV T e) λz=>ob (T.info e) λi=>oif (Nat.beq (cD (cellsOf z)) n) (some (.a (.mks (cellsOf z) i.bytes),[l,c]))
   |_=>none
 |.slice t x lo hi mx=>ob (T.under t) λd=>match d with
   |.string=>some (.p (.slc .str lo.isSome hi.isSome mx.isSome),x ::(pB lo++pB hi++pB mx))
   |.slice e=>ob (jE T e) λn=>some (.p (.slc (.sl n) lo.isSome hi.isSome mx.isSome),x ::(pB lo++pB hi++pB mx))
   |.array k e=>ob (jE T e) λn=>some (.p (.slc (.arr k n) lo.isSome hi.isSome mx.isSome),x ::(pB lo++pB hi++pB mx))
   |_=>none
 |.fieldAddr t x i=>ob (T.under t) λd=>match d with
   |.struct fs=>ob (ff fs.toList i) λf=>ob (jE T f.type) λ_=>some (.p (.fa f.offset),[x])
   |_=>none
 |.field t x i=>ob (T.under t) λd=>match d with
   |.struct fs=>ob (ff fs.toList i) λf=>ob (qR T f.type) λb=>ob (im T f.type) λn=>some (.p (.field b f.offset n),[x])
   |_=>none
 |.indexAddr t x i=>ob (T.under t) λd=>match d with
   |.slice e=>ob (jE T e) λn=>some (.p (.ixsl n),[x,i])
   |.array k e=>ob (jE T e) λn=>some (.p (.ixarrp k n),[x,i])
   |_=>none
 |.index t x i=>ob (T.under t) λd=>match d with
   |.string=>some (.p .ixstr,[x,i])
   |.array k e=>ob (jE T e) λn=>ob (qR T e) λb=>some (.p (.ixarr b k n),[x,i])
   |_=>none
 |.mapEntry t m k=>ob (T.under t) λd=>match d with
   |.map kt e=>ob (kD T kt) λkk=>ob (iV T e) λz=>some (.e (.mapent kk z),[m,k])
   |_=>none
 |.entryStore _ m s x=>some (.e .entst,[m,s,x])
 |.lookup t x k ok=>ob (T.under t) λd=>match d with
   |.map kt e=>ob (kD T kt) λkk=>ob (iV T e) λz=>some (.r (.lookup kk ok z),[x,k])
   |_=>none
 |.range t x=>ob (T.under t) λd=>match d with
   |.string=>some (.a .rangeS,[x])
   |.map _ _=>some (.e .rangeM,[x])
   |_=>none
 |.next x true=>some (.e .nextS,[x])
 |.next x false=>some (.e .nextM,[x])
 |.entry x=>some (.e .entryM,[x])
 |.extract x i=>some (.p (.ext i),[x])
 |.call c=>match c.callee with
   |.value (.func f)=>some (.call f,c.args.toList)
   |.value x=>some (.callv,x ::c.args.toList)
   |.builtin b=>ob (ff c.argTypes.toList 0) λt=>ob (T.under t) λd=>match b,d with
     |.len,.string=>some (.p (.leng .str),c.args.toList)
     |.len,.slice _=>some (.p (.leng .sl),c.args.toList)
     |.len,.array n _=>some (.p (.leng (.const n)),c.args.toList)
     |.len,.map _ _=>some (.r .lenMap,c.args.toList)
     |.append,.slice e=>ob (jE T e) λn=>ob (T.info e) λi=>ob (iV T e) λz=>oif (Nat.beq (cD (cellsOf z)) n&&(Nat.blt 0 i.bytes&&Nat.blt i.bytes 1048576)) <| ob (ff c.argTypes.toList 1) λu=>ob (T.under u) λdu=>match du with
       |.slice _=>some (.e (.append n i.bytes none),c.args.toList)
       |.int .i64=>some (.e (.append n i.bytes (some (cellsOf z))),c.args.toList)
       |_=>none
     |.copy,.slice e=>ob (jE T e) λn=>some (.e (.copy n),c.args.toList)
     |.clear,.slice e=>ob (jE T e) λ_=>ob (iV T e) λz=>some (.e (.clear (cellsOf z)),c.args.toList)
     |.delete,.map kt _=>ob (kD T kt) λkk=>some (.e (.delete kk),c.args.toList)
     |.min,.int _=>some (.p .mins,c.args.toList)
     |.max,.int _=>some (.p .maxs,c.args.toList)
     |_,_=>none
   |_=>none
 |_=>none
def fk(m t:Nat):Nat:=Nat.lor m (Nat.shiftLeft 1 t)
def vG(l:List Operand):List Nat:=l.filterMap λo=>match o with
 |.tmp t=>some t
 |_=>none
def G5(ops:List Oper)(gd:Nat->Option Tmp)(w m:Nat):Nat:=
 (ops.foldl (λ(wm:Nat×Nat) o=>
  let rs:=vG o.op.operands.toList++(match o.guard with|some (g,_)=>(gd g).toList|none=>[])
  let m:=rs.foldl (λm t=>Bool.rec (motive:=λ_=>Nat) (fk m t) m (bit wm.1 t)) wm.2
  (match o.dst with|some d=>fk wm.1 d|none=>wm.1,m)) (w,m)).2
def EP(ops:Array Oper)(g:Nat):Option Tmp:=(ops[g]?).bind (·.dst)
def jQ(c:Code)(m:Nat):Nat:=
 match c with
 |.region _ ops _=>G5 ops.toList (EP ops) 0 m
 |.seq a b=>jQ b (jQ a m)
 |.cond o a b=>jQ b (jQ a ((vG [o]).foldl fk m))
 |.block _ c=>jQ c m
 |.loop c=>jQ c m
 |.scope c=>jQ c m
 |.rangeFunc f ps a b=>jQ b (jQ a ((vG [f]++ps.toList).foldl fk m))
 |_=>m
def ju(e:Edge):Bool:=match e.ground with
 |.textOnly _=>false
 |.gcOnly _=>false
 |_=>true
def cW(bs:List Nat)(i:Nat):Nat:=Option.rec (motive:=λ_=>Nat) 0 id (ff bs i)
def qa(bs:List Nat)(o:Oper):Nat:=o.after.toList.foldl (λs e=>Bool.rec (motive:=λ_=>Nat) s (Nat.lor s (fk (cW bs e.on) e.on)) (ju e)) 0
def sq(ops:List Oper):List Nat:=ops.foldl (λacc o=>acc++[qa acc o]) []
def gh(T:Ty)(m N:Nat)(ops:Array Oper)(o:Oper):Option cj:=
 ob (bT T o.op) λc=>ob (gU (opd T m) c.2) λargs=>ob (dst m N o.dst) λd=>
 ob (match o.guard with
  |none=>some none
  |some (g,w)=>ob (EP ops g) λt=>ob (opd T m (.tmp t)) λx=>some (some (x,w))) λg=>
 some ⟨d,c.1,args,g,0,0⟩
def dW(l:List cj)(i:Nat):Bool:=Option.rec (motive:=λ_=>Bool) false (λc=>isE c.op) (ff l i)
def d4(T:Ty)(ops:Array Oper)(o:Oper):List Nat:=
 o.dst.toList++(Option.rec (motive:=λ_=>List Nat) [] (λc=>vG c.2) (bT T o.op)++(match o.guard with|some (g,_)=>(EP ops g).toList|none=>[]))
def pt(T:Ty)(ops:Array Oper)(bs:List Nat):Bool:=
 let l:=ops.toList.zipIdx
 l.all λp=>Nat.beq (cW bs p.2) (qa bs p.1)&&(p.1.after.toList.all λe=>!ju e||Nat.blt e.on p.2) &&
  let names:=d4 T ops p.1
  l.all λq=>Nat.beq p.2 q.2||match q.1.dst with
   |none=>true
   |some d=>!(names.any (Nat.beq d))||((bit (cW bs p.2) q.2||bit (cW bs q.2) p.2)&&match p.1.dst with
    |none=>true
    |some d'=>!Nat.beq d d')
def EA(bs:List Nat)(isE:Nat->Bool)(es l:List Nat)(n:Nat):List Nat:=
 let lo (i:Nat):Nat:=cD (es.filter (bit (cW bs i)))
 Nat.rec (motive:=λ_=>Nat->List Nat) (λk=>l.filter λi=>Nat.beq (lo i) k && !isE i)
  (λ_ ih k=>(l.filter λi=>Nat.beq (lo i) k && !isE i)++(l.filter λi=>Nat.beq (lo i) k&&isE i)++ih (Nat.succ k)) n 0
def xS(bs:List Nat)(isE:Nat->Bool)(full:Nat)(l:List Nat):Nat->Nat->Bool:=
 List.rec (motive:=λ_=>Nat->Nat->Bool) (λdone _=>Nat.beq done full)
  (λi _ ih done em=>Nat.beq (Nat.land (cW bs i) done) (cW bs i) && !bit done i&&Nat.beq (Nat.land em (cW bs i)) em&&ih (fk done i) (Bool.rec (motive:=λ_=>Nat) em (fk em i) (isE i))) l
def ra(cl:List cj)(hi:Nat->Nat)(l:List Nat):Nat->Option (List cj):=
 List.rec (motive:=λ_=>Nat->Option (List cj)) (λ_=>some [])
  (λi _ ih k=>ob (ff cl i) λc=>ob (ih (Bool.rec (motive:=λ_=>Nat) k (Nat.succ k) (isE c.op))) λr=>some ({c with lo:=k,hi:=hi i} ::r)) l
def vx(T:Ty)(cl:List cj)(ops:Array Oper):Option (List cj):=
 let bs:=sq ops.toList
 let idx:=List.range ops.size
 let es:=idx.filter (dW cl)
 let ord:=EA bs (dW cl) es idx (cD es)
 oif (pt T ops bs&&xS bs (dW cl) (Nat.sub (Nat.pow 2 ops.size) 1) ord 0 0) (ra cl (λi=>cD (es.filter λe=>!bit (cW bs e) i)) ord 0)
def rO:cF:= .reg [⟨.no,.p .mv,[],none,0,0⟩]
def uZ(o:Option cF):Option cF:=some (Option.rec (motive:=λ_=>cF) rO (λc=>c) o)
def eu(T:Ty)(m N:Nat)(c:Code):Option cF:=
 match c with
 |.skip=>some .skip
 |.label _=>some .skip
 |.region _ ops false=>uZ (ob (gU (gh T m N ops) ops.toList) λl=>some (.reg l))
 |.region _ ops true=>uZ (ob (gU (gh T m N ops) ops.toList) λl=>ob (vx T l ops) λl=>some (.regD l))
 |.seq a b=>ob (eu T m N a) λa=>ob (eu T m N b) λb=>some (.seq a b)
 |.cond o a b=>ob (opd T m o) λo=>ob (eu T m N a) λa=>ob (eu T m N b) λb=>some (.cond o a b)
 |.block id c=>ob (eu T m N c) λc=>some (.block id c)
 |.loop c=>ob (eu T m N c) λc=>some (.loop c)
 |.rangeFunc f ps a b=>ob (opd T m f) λf=>ob (gU (λt=>dst m N (some t)) ps.toList) λps=>ob (eu T m N a) λa=>ob (eu T m N b) λb=>some (.rangeF f ps a b)
 |.exit id=>some (.exit id)
 |.ret=>some .ret
 |_=>some rO
def ci(T:Ty)(fn:Func):Option CF:=
 ob fn.body λc=>
  let m0:=(List.range (fn.params.size+fn.nfree)).foldl fk 0
  let m1:=fn.results.toList.foldl (λm r=>match r with | .tmp t=>fk m t | .cell t _=>fk m t) m0
  let m:=jQ c m1
  oif (Nat.ble (fn.params.size+fn.nfree) fn.ntmps) <| ob (eu T m fn.ntmps c) λcode=>
  ob (gU (λr=>match r with
   |.tmp t=>ob (opd T m (.tmp t)) λo=>some (nZ.tmp o)
   |.cell t ty=>ob (opd T m (.tmp t)) λo=>ob (qR T ty) λa=>ob (im T ty) λn=>some (nZ.cell o a n)) fn.results.toList) λrs=>
  some ⟨fn.params.size+fn.nfree,code,rs⟩
end
end
section
theorem cO{α:Type}(a b:α)(c:Bool):Bool.rec (motive:=λ_=>α) a b c=if c=true then b else a:=by cases c<;>rfl
theorem bQ{α β:Type}{o:Option α}{k:α->Option β}{r:β}:ob o k=some r↔∃a,o=some a/\k a=some r:=by cases o<;>simp [ob]
theorem Bt{α β:Type}(a:α)(k:α->Option β):ob (some a) k=k a:=rfl
theorem bW{α:Type}{b:Bool}{x:Option α}{r:α}:oif b x=some r↔b=true/\x=some r:=by cases b<;>simp [oif]
theorem vX(a b:Nat):Nat.mod a b=a%b:=rfl
theorem J8(a b:Nat):Nat.div a b=a/b:=rfl
theorem rJ(a b:Nat):Nat.add a b=a+b:=rfl
theorem xW(a b:Nat):Nat.sub a b=a-b:=rfl
theorem lI(a b:Nat):Nat.mul a b=a*b:=rfl
theorem GI(a b:Nat):Nat.min a b=min a b:=rfl
theorem CB(a b:Nat):Nat.shiftRight a b=a/2 ^ b:=Nat.shiftRight_eq_div_pow a b
theorem IV(a b:Nat):Nat.shiftLeft a b=a*2 ^ b:=Nat.shiftLeft_eq a b
theorem yP(k:IntKind):FE k=k.bits:=by cases k<;>rfl
theorem lj(k:IntKind):iL k=2 ^ k.bits:=by cases k<;>rfl
theorem tO{j k:IntKind}:eqK j k=true↔j=k:=by cases j<;>cases k<;>simp [eqK]
theorem kg(k:IntKind)(m:Nat)(h:m<iL k):lL k m=k.wrap m:=by
 unfold lL IntKind.wrap;rw [cO];cases k<;>simp only [iL,jI,IntKind.bits,IntKind.signed,Nat.ble_eq,Int.subNatNat_eq_coe]at* <;> simp<;>(try split)<;>omega
theorem kj(k:IntKind)(n:Int):dA k n=k.wrap n:=by
 unfold dA;cases n with
 |ofNat m=>
  simp only [cO]
  by_cases h:Nat.blt m (jI k)=true
  ·rw [if_pos h]
   have h:m<jI k:=by simpa using h
   unfold IntKind.wrap;cases k<;>simp only [jI,IntKind.bits,IntKind.signed]at* <;> simp<;>(try split)<;>omega
  ·rw [if_neg h,vX,kg k _ (by cases k<;>simp only [iL]<;>omega)]
   unfold IntKind.wrap;cases k<;>simp only [iL,IntKind.bits,IntKind.signed]<;>simp
 |negSucc m=>
  simp only [vX,xW];rw [kg k _ (by cases k<;>simp only [iL]<;>omega)];unfold IntKind.wrap;cases k<;>simp only [iL,IntKind.bits,IntKind.signed,Int.negSucc_eq]<;>simp<;>(repeat' split)<;>omega
theorem Ii(k:IntKind)(n:Int):toU k n=(n%(2 ^ k.bits:Nat)).toNat:=by
 unfold toU;cases n with
 |ofNat m=>cases k<;>simp only [iL,IntKind.bits,vX,Int.ofNat_eq_natCast]<;>omega
 |negSucc m=>cases k<;>simp only [iL,IntKind.bits,Int.negSucc_eq,vX,xW]<;>omega
theorem oB(k:IntKind)(n:Int):toU k n<iL k:=by
 unfold toU;cases n<;>cases k<;>simp only [iL,vX,xW]<;>omega
theorem fM(k:IntKind)(n:Int):(BitVec.ofInt k.bits n).toNat=toU k n:=by rw [BitVec.toNat_ofInt,Ii]
theorem iy(a b:Int):ltI a b=decide (a<b):=by
 unfold ltI;cases a<;>cases b<;>(apply Bool.eq_iff_iff.2;simp [Int.negSucc_eq];try omega)
theorem jc(a b:Int):eqI a b=(a==b):=by
 unfold eqI;cases a<;>cases b<;>(apply Bool.eq_iff_iff.2;simp [Int.negSucc_eq];try omega)
theorem Gb(a:Int)(n:Nat):Iy a n=a.fdiv (2 ^ n):=by
 unfold Iy;cases a with
 |ofNat m=>
  simp only [CB];rw [show((2:Int) ^ n)=((2 ^ n:Nat):Int) by simp];rw [Int.fdiv_eq_ediv_of_nonneg _ (Int.natCast_nonneg _),Int.ofNat_eq_natCast,Int.ofNat_eq_natCast,Int.natCast_ediv]
 |negSucc m=>
  simp only [CB];rw [show((2:Int) ^ n)=((2 ^ n:Nat):Int) by simp];have b:0<2 ^ n:=Nat.pos_of_ne_zero (by simp);generalize 2 ^ n=p at*;rw [Int.fdiv_eq_ediv_of_nonneg _ (by omega)];rw [Int.negSucc_ediv _ (by omega)];rw [Int.negSucc_eq,Int.natCast_ediv];show _= -((m:Int)/(p:Int)+1);omega
theorem va:ck []=0:=rfl
theorem eC(b:UInt8)(l:List UInt8):ck (b ::l)=b.toNat+256*ck l:=rfl
theorem mE(a b:List UInt8):ck (a++b)=ck a+ck b*256 ^ a.length:=by
 induction a with
 |nil=>simp [ck]
 |cons x a ih=>
  simp only [List.cons_append,eC,ih,List.length_cons,Nat.pow_succ,Nat.mul_add];rw [Nat.add_assoc]
  congr 2
  rw [Nat.mul_comm (256 ^ a.length) 256,<-Nat.mul_assoc,<-Nat.mul_assoc,Nat.mul_comm 256 (ck b)]
theorem sZ(a:List UInt8):ck a<256 ^ a.length:=by
 induction a with
 |nil=>simp [ck]
 |cons x a ih=>
  simp only [eC,List.length_cons,Nat.pow_succ];have:=x.toNat_lt;omega
theorem qB{a b:List UInt8}(c:a.length=b.length)(h:ck a=ck b):a=b:=by
 induction a generalizing b with
 |nil=>cases b with
  |nil=>rfl
  |cons=>simp at c
 |cons x a ih=>cases b with
  |nil=>simp at c
  |cons y b=>
   simp only [eC]at h;have h1:=x.toNat_lt;have h2:=y.toNat_lt;have e:x=y:=UInt8.toNat_inj.1 (by omega);subst e;rw [ih (by simpa using c) (by omega)]
theorem s9(a:List UInt8)(n:Nat):ck (a.drop n)=ck a/256 ^ n:=by
 induction n generalizing a with
 |zero=>simp
 |succ n ih=>cases a with
  |nil=>simp [ck]
  |cons x a=>
   rw [List.drop_succ_cons,ih,eC,Nat.pow_succ,Nat.mul_comm (256 ^ n) 256,<-Nat.div_div_eq_div_mul];have:=x.toNat_lt
   congr 1
   omega
theorem zG(a:List UInt8)(n:Nat):ck (a.take n)=ck a%256 ^ n:=by
 by_cases h:n<=a.length
 ·have e:ck a=ck (a.take n)+ck (a.drop n)*256 ^ n:=by
   have:=mE (a.take n) (a.drop n);rw [List.take_append_drop,List.length_take_of_le h]at this;exact this
  have l:=sZ (a.take n);rw [List.length_take_of_le h]at l;rw [e,Nat.add_mul_mod_self_right,Nat.mod_eq_of_lt l]
 ·rw [List.take_of_length_le (by omega),Nat.mod_eq_of_lt]
  exact Nat.lt_of_lt_of_le (sZ a) (Nat.pow_le_pow_right (by omega) (by omega))
theorem vd{a:List UInt8}{n:Nat}{b:UInt8}(h:a[n]? =some b):ck a/256 ^ n%256=b.toNat:=by
 rw [<-s9];have:a.drop n=b ::a.drop (n+1):=by
  obtain⟨c,rfl⟩:=List.getElem?_eq_some_iff.1 h;exact List.drop_eq_getElem_cons c
 rw [this,eC];have:=b.toNat_lt;omega
theorem Cv(n:Nat):2 ^ (8*n)=256 ^ n:=by rw [Nat.pow_mul]
theorem lO(a b:List UInt8):cJ a.length (ck a) b.length (ck b)=(a==b):=by
 unfold cJ;rw [cO];apply Bool.eq_iff_iff.2
 by_cases hl:a.length=b.length
 ·rw [if_pos (by simpa using hl)]
  simp only [Nat.beq_eq,beq_iff_eq];exact⟨qB hl,λe=>by rw [e]⟩
 ·rw [if_neg (by simpa using hl)]
  simp only [Bool.false_eq_true,beq_iff_eq,false_iff];intro e;exact hl (by rw [e])
theorem zd(f n x m y:Nat):qX (f+1) n x m y=if m=0 then false else if n=0 then true else if x%256<y%256 then true else if x%256=y%256 then qX f (n-1) (x/256) (m-1) (y/256)else false:=by
 show Bool.rec (motive:=λ_=>Bool) (Bool.rec (motive:=λ_=>Bool) (Bool.rec (motive:=λ_=>Bool) (Bool.rec (motive:=λ_=>Bool) false (qX f (n-1) (x/256) (m-1) (y/256)) (Nat.beq (x%256) (y%256))) true (Nat.blt (x%256) (y%256))) true (Nat.beq n 0)) false (Nat.beq m 0)=_;simp only [cO,Nat.beq_eq,Nat.blt_eq]
theorem oY(fuel:Nat):∀(a b:List UInt8),a.length+b.length<fuel->qX fuel a.length (ck a) b.length (ck b)=Op.bytesLess a b:=by
 induction fuel with
 |zero=>intro a b h;omega
 |succ fuel ih=>
  intro a b h;rw [zd];cases b with
  |nil=>simp [Op.bytesLess]
  |cons y b=>cases a with
   |nil=>simp [Op.bytesLess]
   |cons x a=>
    have h1:=x.toNat_lt;have h2:=y.toNat_lt;have c:ck (x ::a)%256=x.toNat:=by rw [eC];omega
    have d:ck (y ::b)%256=y.toNat:=by rw [eC];omega
    have f:ck (x ::a)/256=ck a:=by rw [eC];omega
    have d2:ck (y ::b)/256=ck b:=by rw [eC];omega
    rw [c,d,f,d2,if_neg (by simp),if_neg (by simp)];simp only [List.length_cons,Nat.add_sub_cancel,Op.bytesLess];rw [ih a b (by simp at h;omega)]
    by_cases c1:x.toNat<y.toNat
    ·rw [if_pos c1]
     simp [UInt8.lt_iff_toNat_lt,c1]
    ·rw [if_neg c1]
     by_cases c2:x.toNat=y.toNat
     ·rw [if_pos c2]
      obtain rfl:=UInt8.toNat_inj.1 c2;simp
     ·rw [if_neg c2]
      have:¬x=y:=λe=>c2 (by rw [e]);simp [UInt8.lt_iff_toNat_lt,c1,this]
theorem mN(a b:Bool):oQ a b=(a==b):=by cases a<;>cases b<;>rfl
end
end Ev
end Go.Proofs.YtdfphfdnoobikaaGreatDoor
