/-
  Operations that only compute.
-/
import Derived.Test.YtdfphfdnoobikaaGreatDoorEvRel
import Derived.Laws.Slices
import Derived.Laws.Strings
namespace Go.Proofs.YtdfphfdnoobikaaGreatDoor
namespace Ev
variable [Env]
set_option linter.unusedSectionVars false
structure da(P:Program)(T:Ty):Prop where
 info:∀t i,T.info t=some i->P.info? t=some i
 under:∀t d,T.under t=some d->P.underlying t=some d
 free:∀t,T.free t=true->P.stoodInHeld t=false/\P.eqGuardType P.depth t=false
theorem VRs.one{g:G}{vs:List V}{a:Value}(h:VRs g vs [a]):∃v,vs=[v]/\VR g v a:=by
 cases h with
 |cons h t=>cases t;exact⟨_,rfl,h⟩
theorem VRs.two{g:G}{vs:List V}{a b:Value}(h:VRs g vs [a,b]):∃v u,vs=[v,u]/\VR g v a/\VR g u b:=by
 cases h with
 |cons h t=>obtain⟨u,rfl,k⟩:=t.one;exact⟨_,u,rfl,h,k⟩
theorem VRs.three{g:G}{vs:List V}{a b c:Value}(h:VRs g vs [a,b,c]):∃x y z,vs=[x,y,z]/\VR g x a/\VR g y b/\VR g z c:=by
 cases h with
 |cons h t=>obtain⟨u,v,rfl,k,l⟩:=t.two;exact⟨_,u,v,rfl,h,k,l⟩
theorem VR.bool_inv{g:G}{b:Bool}{u:Value}(h:VR g (.bool b) u):u= .bool b:=by cases h;rfl
theorem VR.int_inv{g:G}{k:IntKind}{n:Int}{u:Value}(h:VR g (.int k n) u):u= .int k n:=by cases h;rfl
def eK(P:Program)(ρ:Operand->Value)(op:Op)(u:Value):Prop:=∀(w:World) (o:Oper),o.op=op->(execOp ρ o).run P w= .ok (.value u) w
section
variable {P:Program} {T:Ty} {g:G} {ρ:Operand->Value}
theorem bU(hT:da P T){t:TypeId}{d:TypeDesc}(h:T.under t=some d)(w:World):(underlying t).run P w= .ok d w:=run_underlying (hT.under t d h) w
theorem fT(a:da P T){t:TypeId}{i:TypeInfo}(h:T.info t=some i)(w:World):(typeInfo t).run P w= .ok i w:=by
 simp [typeInfo,a.info t i h]
theorem cL(a:da P T){t:TypeId}{n:Nat}(h:im T t=some n)(w:World):(sizeOf t).run P w= .ok n w:=by
 obtain⟨i,h1,h2⟩:=bQ.1 h;cases h2;simp [sizeOf,fT a h1]
theorem gA(a:da P T){t:TypeId}{b:Bool}(h:qR T t=some b)(w:World):(isAgg t).run P w= .ok b w:=by
 obtain⟨d,h1,h2⟩:=bQ.1 h;cases d<;>cases h2<;>simp [isAgg,bU a h1]
theorem eY{t:TypeId}{n:Nat}(h:jE T t=some n):im T t=some n/\0<n:=by
 obtain⟨m,h1,h2⟩:=bQ.1 h;obtain⟨a,b⟩:=bW.1 h2;cases b;exact⟨h1,Nat.pos_of_ne_zero λh=>by rw [h]at a;cases a⟩
theorem gF{e:TypeId}{x:Operand}{c:COp}{os:List Operand}(h:H7 T e x=some (c,os)):c= .r .b2s/\os=[x]/\T.under e=some (.int .u8)/\jE T e=some 1:=by
 obtain⟨d,h1,h2⟩:=bQ.1 h;cases d with
 |int k=>
  cases k with
  |u8=>
   obtain⟨n,f,b⟩:=bQ.1 h2;obtain⟨g,a⟩:=bW.1 b;cases a;have:n=1:=by simpa using g
   subst this;exact⟨rfl,rfl,h1,f⟩
  |_=>cases h2
 |_=>cases h2
theorem zX{x:Operand}{v:V}(h:VR g v (ρ x)):∃u,VR g v u/\eK P ρ (.move x) u:=
 ⟨ρ x,h,λw o e=>by simp [execOp,e]⟩
theorem wp{x:Operand}{v:V}(h:VR g v (ρ x)):∃u,VR g v u/\eK P ρ (.assign x) u:=
 ⟨ρ x,h,λw o e=>by simp [execOp,e]⟩
theorem zW{c a b:Operand}{k:Bool}{x y:V}(hc:VR g (.bool k) (ρ c))(f:VR g x (ρ a))(d:VR g y (ρ b)):
  ∃u,VR g (Bool.rec (motive:=λ_=>V) y x k) u/\eK P ρ (.pick c a b) u:=by
 have:=hc.bool_inv;cases k
 ·exact⟨ρ b,d,λw o e=>by simp [execOp,e,this,asBool]⟩
 ·exact⟨ρ a,f,λw o e=>by simp [execOp,e,this,asBool]⟩
theorem tm{x:Operand}{v k:V}(h:VR g v (ρ x))(d:POp.run1 .nilc v=some k):∃u,VR g k u/\eK P ρ (.nilCheck x) u:=by
 cases v with
 |ptr i j=>
  cases d;refine⟨ρ x,h,λw o e=>?_⟩;cases c:ρ x<;>rw [c]at h<;>cases h;simp [execOp,e,c]
 |func fn a b=>
  cases fn with
  |func f=>
   cases d;refine⟨ρ x,h,λw o e=>?_⟩;cases c:ρ x<;>rw [c]at h<;>cases h;simp [execOp,e,c]
  |_=>cases d
 |yld i=>
  cases d;refine⟨ρ x,h,λw o e=>?_⟩;cases c:ρ x<;>rw [c]at h<;>cases h;simp [execOp,e,c]
 |eptr cs i=>
  cases d;refine⟨ρ x,h,λw o e=>?_⟩;cases c:ρ x<;>rw [c]at h<;>cases h;simp [execOp,e,c]
 |_=>cases d
theorem zV{op:UnOp}{t:TypeId}{x:Operand}{v f:V}(h:VR g v (ρ x))(c:un op v=some f):∃u,VR g f u/\eK P ρ (.unOp op t x) u:=by
 unfold un at c
 split at c
 ·cases c
  have d:=h.int_inv
  rename_i k n
  refine⟨_,.int k _,λw o e=>?_⟩;simp [execOp,e,d,Op.unary,Op.intArith,kj];rw [show Int.sub 0 n= -n from Int.zero_sub n]
 ·cases c
  have d:=h.int_inv
  rename_i k n
  refine⟨_,.int k _,λw o e=>?_⟩;have a:BitVec.ofInt k.bits (if k.signed then -1 else k.max)=BitVec.allOnes k.bits:=by cases k<;>rfl
  simp only [execOp,e,d,Op.unary,Op.intBits];rw [a,BitVec.allOnes_xor];simp only [Sem.run_bind,Sem.run_pure,Result.andThen_ok];rw [kg k _ (by have:=oB k n;show iL k-1-toU k n<_;omega),BitVec.toNat_not,fM,<-lj];rfl
 ·cases c
  have d:=h.bool_inv
  rename_i b
  exact⟨_,.bool (!b),λw o e=>by simp [execOp,e,d,Op.unary]⟩
 ·cases c
theorem D1{op:BinOp}{k:IntKind}{a b:Int}{v:V}(c:Jr op k a b=some v):∃u,VR g v u/\∀w t,(binOp op t (.int k a) (.int k b)).run P w= .ok u w:=by
 cases op<;>simp only [Jr]at c
 case add=>cases c;exact⟨_,.int k _,λw t=>by simp [binOp,Op.intArith,kj]⟩
 case sub=>cases c;exact⟨_,.int k _,λw t=>by simp [binOp,Op.intArith,kj];rfl⟩
 case mul=>cases c;exact⟨_,.int k _,λw t=>by simp [binOp,Op.intArith,kj]⟩
 case quo=>
  obtain⟨h1,h2⟩:=bW.1 c;cases h2;rw [jc]at h1;have f:¬b=0:=by simpa using h1
  exact⟨_,.int k _,λw t=>by simp [binOp,Op.intDiv,kj,f]⟩
 case rem=>
  obtain⟨h1,h2⟩:=bW.1 c;cases h2;rw [jc]at h1;have f:¬b=0:=by simpa using h1
  exact⟨_,.int k _,λw t=>by simp [binOp,Op.intDiv,f]⟩
 case and=>
  cases c;refine⟨_,.int k _,λw t=>?_⟩;have d:Nat.land (toU k a) (toU k b)<iL k:=Nat.lt_of_le_of_lt Nat.and_le_left (oB k a);have e:(BitVec.ofInt k.bits a &&& BitVec.ofInt k.bits b).toNat=Nat.land (toU k a) (toU k b):=by rw [BitVec.toNat_and,fM,fM];rfl
  simp only [binOp,Op.intBits,e];rw [kg k _ d];simp
 case or=>
  cases c;refine⟨_,.int k _,λw t=>?_⟩;have d:Nat.lor (toU k a) (toU k b)<iL k:=by rw [lj];exact Nat.or_lt_two_pow (lj k▸oB k a) (lj k▸oB k b)
  have e:(BitVec.ofInt k.bits a ||| BitVec.ofInt k.bits b).toNat=Nat.lor (toU k a) (toU k b):=by rw [BitVec.toNat_or,fM,fM];rfl
  simp only [binOp,Op.intBits,e];rw [kg k _ d];simp
 case xor=>
  cases c;refine⟨_,.int k _,λw t=>?_⟩;have d:Nat.xor (toU k a) (toU k b)<iL k:=by rw [lj];exact Nat.xor_lt_two_pow (lj k▸oB k a) (lj k▸oB k b)
  have e:(BitVec.ofInt k.bits a ^^^ BitVec.ofInt k.bits b).toNat=Nat.xor (toU k a) (toU k b):=by rw [BitVec.toNat_xor,fM,fM];rfl
  simp only [binOp,Op.intBits,e];rw [kg k _ d];simp
 case andNot=>
  cases c;refine⟨_,.int k _,λw t=>?_⟩;have d:Nat.land (toU k a) (Nat.sub (Nat.sub (iL k) 1) (toU k b))<iL k:=Nat.lt_of_le_of_lt Nat.and_le_left (oB k a);have e:(BitVec.ofInt k.bits a &&& ~~~BitVec.ofInt k.bits b).toNat=Nat.land (toU k a) (Nat.sub (Nat.sub (iL k) 1) (toU k b)):=by
   rw [BitVec.toNat_and,BitVec.toNat_not,fM,fM,<-lj];rfl
  simp only [binOp,Op.intBits,e];rw [kg k _ d];simp
 case eql=>cases c;exact⟨_,.bool _,λw t=>by simp [binOp,Op.intCmp,jc]⟩
 case neq=>cases c;exact⟨_,.bool _,λw t=>by simp [binOp,Op.intCmp,jc,bne]⟩
 case lss=>cases c;exact⟨_,.bool _,λw t=>by simp [binOp,Op.intCmp,iy]⟩
 case leq=>cases c;exact⟨_,.bool _,λw t=>by simp [binOp,Op.intCmp,iy,<-Int.not_lt]⟩
 case gtr=>cases c;exact⟨_,.bool _,λw t=>by simp [binOp,Op.intCmp,iy]⟩
 case geq=>cases c;exact⟨_,.bool _,λw t=>by simp [binOp,Op.intCmp,iy,<-Int.not_lt]⟩
 all_goals cases c
theorem Gk{k j:IntKind}{a b:Int}{v:V}(c:vK .shl k a b=some v):∃u,VR g v u/\∀w t,(binOp .shl t (.int k a) (.int j b)).run P w= .ok u w:=by
 cases b with
 |negSucc m=>cases c
 |ofNat m=>
  cases c;refine⟨_,.int k _,λw t=>?_⟩;have:¬((m:Int)<0):=by omega
  simp [binOp,Op.shift,this,kj,yP,GI]
theorem Gj{k j:IntKind}{a b:Int}{v:V}(c:vK .shr k a b=some v):∃u,VR g v u/\∀w t,(binOp .shr t (.int k a) (.int j b)).run P w= .ok u w:=by
 cases b with
 |negSucc m=>cases c
 |ofNat m=>
  cases c;refine⟨_,.int k _,λw t=>?_⟩;have:¬((m:Int)<0):=by omega
  simp [binOp,Op.shift,this,Gb,yP,GI]
theorem eN(s:ByteArray):s.size=s.data.toList.length:=rfl
theorem toList_eq(s:ByteArray):s.toList=s.data.toList:=by
 exact ByteArray.toList_eq s
theorem mU(a b:List UInt8):(Op.bytesLess a b||a==b)= !Op.bytesLess b a:=by
 induction a generalizing b with
 |nil=>cases b<;>simp [Op.bytesLess]
 |cons x a ih=>cases b with
  |nil=>simp [Op.bytesLess]
  |cons y b=>
   have h:=ih b;simp only [Op.bytesLess]
   by_cases c1:x<y
   ·have c2:¬y<x:=by rw [UInt8.lt_iff_toNat_lt]at*;omega
    have c3:¬y=x:=by intro e;subst e;exact c2 c1
    simp [c1,c2,c3]
   ·by_cases c2:y<x
    ·have c3:¬x=y:=by intro e;subst e;exact c1 c2
     simp [c1,c2,c3]
    ·have c3:x=y:=by
      rw [UInt8.lt_iff_toNat_lt]at*;exact UInt8.toNat_inj.1 (by omega)
     subst c3
     simpa using h
theorem DZ{op:BinOp}{a b:ByteArray}{v:V}(c:Jq op a.size (ck a.data.toList) b.size (ck b.data.toList)=some v):
  ∃u,VR g v u/\∀w t,(binOp op t (.string a) (.string b)).run P w= .ok u w:=by
 cases op<;>simp only [Jq]at c
 case add=>
  obtain⟨h1,h2⟩:=bW.1 c;cases h2;have f:a.size+b.size<1099511627776:=by simpa using h1
  have e:(a++b).size=Nat.add a.size b.size:=ByteArray.size_append;have d:ck (a++b).data.toList=Nat.add (ck a.data.toList) (Nat.shiftLeft (ck b.data.toList) (Nat.mul 8 a.size)):=by
   rw [ByteArray.data_append,Array.toList_append,mE,IV,lI,Cv,<-eN];rfl
  refine⟨.string (a++b),?_,λw t=>?_⟩
  ·rw [<-e,<-d];exact .str _
  ·have:¬((a.size:Int)+(b.size:Int) > 9223372036854775807):=by omega
   simp [binOp,Op.stringOp];omega
 case eql=>cases c;rw [eN,eN,lO];exact⟨_,.bool _,λw t=>by simp [binOp,Op.stringOp,toList_eq]⟩
 case neq=>cases c;rw [eN,eN,lO];exact⟨_,.bool _,λw t=>by simp [binOp,Op.stringOp,toList_eq]⟩
 case lss=>cases c;rw [eN,eN,rJ,oY _ _ _ (Nat.lt_succ_self _)];exact⟨_,.bool _,λw t=>by simp [binOp,Op.stringOp,toList_eq]⟩
 case gtr=>cases c;rw [eN,eN,rJ,oY _ _ _ (by rw [Nat.add_comm];exact Nat.lt_succ_self _)];exact⟨_,.bool _,λw t=>by simp only [binOp,Op.stringOp,toList_eq,mU,Bool.not_not];rfl⟩
 case leq=>cases c;rw [eN,eN,rJ,oY _ _ _ (by rw [Nat.add_comm];exact Nat.lt_succ_self _)];exact⟨_,.bool _,λw t=>by simp only [binOp,Op.stringOp,toList_eq,mU];rfl⟩
 case geq=>cases c;rw [eN,eN,rJ,oY _ _ _ (Nat.lt_succ_self _)];exact⟨_,.bool _,λw t=>by simp [binOp,Op.stringOp,toList_eq]⟩
 all_goals cases c
theorem lA{op:BinOp}{t:TypeId}{x y:Operand}{a b:Value}(c:∀cs,a≠.agg cs)(d:a≠.nilIface):eqGuard op t x y a b=pure ():=by
 cases a<;>first|exact absurd rfl d|exact absurd rfl (c _)|(cases op<;>rfl)
theorem qJ{op:BinOp}{t n:TypeId}{x y:Operand}{a b v:V}(h:VR g a (ρ x))(m:VR g b (ρ y))(c:bin op a b=some v):
  ∃u,VR g v u/\eK P ρ (.binOp op t x y n) u:=by
 unfold bin at c
 split at c
 ·rename_i k i j l
  have d:=h.int_inv;have f:=m.int_inv;have:∃u,VR g v u/\∀w t,(binOp op t (.int k i) (.int j l)).run P w= .ok u w:=by
   split at c
   ·exact Gk c
   ·exact Gj c
   ·obtain⟨h1,h2⟩:=bW.1 c
    obtain rfl:=tO.1 h1;exact D1 h2
  obtain⟨u,h1,h2⟩:=this;exact⟨u,h1,λw o e=>by simp [execOp,e,d,f,lA,h2]⟩
 ·cases d:ρ x<;>rw [d]at h<;>cases h
  cases f:ρ y<;>rw [f]at m<;>cases m;obtain⟨u,h1,h2⟩:=DZ (P:=P) (g:=g) c;exact⟨u,h1,λw o e=>by simp [execOp,e,d,f,lA,h2]⟩
 ·cases c
theorem kM(t:TypeId)(a b:Value):∃d,Op.equal t a b=Op.equalIn (d+1) t a b:=⟨9999,rfl⟩
theorem Ak{t:TypeId}(h:P.underlying t=some .bool)(a b:Bool)(w:World):(Op.equal t (.bool a) (.bool b)).run P w= .ok (a==b) w:=by
 obtain⟨d,e⟩:=kM t (.bool a) (.bool b);rw [e];simp [Op.equalIn,run_underlying h]
theorem yB{t e:TypeId}(h:P.underlying t=some (.slice e)){a b:Value}{r:Bool}{x y:V}(i:VR g x a)(f:VR g y b)(c:eqD .s x y=some r)(w:World):(Op.equal t a b).run P w= .ok r w:=by
 obtain⟨d,e⟩:=kM t a b;rw [e];clear e;cases i<;>cases f<;>simp [eqD]at c<;>subst c<;>simp [Op.equalIn,run_underlying h]
theorem C9{t k e:TypeId}(h:P.underlying t=some (.map k e)){a b:Value}{r:Bool}{x y:V}(i:VR g x a)(f:VR g y b)(c:eqD .m x y=some r)(w:World):(Op.equal t a b).run P w= .ok r w:=by
 obtain⟨d,e⟩:=kM t a b;rw [e];clear e;cases i<;>cases f<;>simp [eqD]at c<;>subst c<;>simp [Op.equalIn,run_underlying h]
theorem Aj{t:TypeId}{p q:Array TypeId}{z:Bool}(h:P.underlying t=some (.func p q z)){a b:Value}{r:Bool}{x y:V}(i:VR g x a)(j:VR g y b)(c:eqD .f x y=some r)(w:World):(Op.equal t a b).run P w= .ok r w:=by
 obtain⟨d,e⟩:=kM t a b;rw [e];clear e;cases i<;>cases j<;>simp [eqD]at c<;>subst c<;>simp [Op.equalIn,run_underlying h]
theorem vk{neg:Bool}{t g:TypeId}{x y:Operand}{r:Bool}(hg:eqGuard (Bool.rec (motive:=λ_=>BinOp) .eql .neq neg) t x y (ρ x) (ρ y)=pure ())
  (hi:∀k a,ρ x≠.int k a) (hs:∀s,ρ x≠.string s) (c:∀k a,ρ x≠.float k a) (hc:∀k a b,ρ x≠.complex k a b) (f:∀w,(Op.equal t (ρ x) (ρ y)).run P w= .ok r w):
  eK P ρ (.binOp (Bool.rec (motive:=λ_=>BinOp) .eql .neq neg) t x y g) (.bool (Bool.rec (motive:=λ_=>Bool) r (!r) neg)):=by
 intro w o e;simp only [execOp,e,hg];have d:(binOp (Bool.rec (motive:=λ_=>BinOp) .eql .neq neg) t (ρ x) (ρ y)).run P w= .ok (.bool (Bool.rec (motive:=λ_=>Bool) r (!r) neg)) w:=by
  have:=f w
  revert hi hs c hc this
  cases neg<;>cases ρ x<;>intro hi hs c hc this<;>first
   |exact absurd rfl (hi _ _)|exact absurd rfl (hs _)|exact absurd rfl (c _ _)|exact absurd rfl (hc _ _ _)|(simp only [binOp,Sem.run_bind,this];rfl)|(cases ρ y<;>simp only [binOp,Sem.run_bind,this]<;>rfl)
 simp [d]
theorem yj(c:da P T){s d:TypeId}{a:TypeDesc}{k:IntKind}{x:Operand}{v b:V}(h1:T.under s=some a)(h2:T.under d=some (.int k))(h:VR g v (ρ x))(f:POp.run1 (.toInt k) v=some b):
  ∃u,VR g b u/\eK P ρ (.convert s d x) u:=by
 cases v<;>cases f;have i:=h.int_inv;refine⟨_,.int k _,λw o e=>?_⟩;simp [execOp,e,i,convert,bU c h1,bU c h2,Conv.intToInt,kj]
theorem yk(a:da P T){s d:TypeId}{x:Operand}{v:V}(h1:T.under s=some .string)(h2:T.under d=some .string)(h:VR g v (ρ x))(hs:∃c,ρ x= .string c):
  ∃u,VR g v u/\eK P ρ (.convert s d x) u:=by
 obtain⟨c,hc⟩:=hs;exact⟨ρ x,h,λw o e=>by simp [execOp,e,hc,convert,bU a h1,bU a h2]⟩
theorem nY(hT:da P T){t:TypeId}{d:TypeDesc}{x:Operand}{v:V}(h1:T.under t=some d)(hd:∀m,d≠.interface m)(h:VR g v (ρ x)):∃u,VR g (.iface t v) u/\eK P ρ (.makeInterface t x) u:=
 ⟨.iface t (ρ x),.iface h,λw o e=>by cases d<;>first|exact absurd rfl (hd _)|simp [execOp,e,Instr.makeInterface,bU hT h1]⟩
theorem dS{α:Type}(l:List α)(n:Nat):ff l n=l[n]? :=by
 induction l generalizing n with
 |nil=>rfl
 |cons a l ih=>
  show Bool.rec (motive:=λ_=>Option α) (ff l (n-1)) (some a) (Nat.beq n 0)=_;rw [cO,ih];cases n<;>simp
theorem oC{α:Type}{n:Nat}{l r:List α}(h:iR n l=some r):r=l.take n/\n<=l.length:=by
 induction n generalizing l r with
 |zero=>cases h;simp
 |succ n ih=>
  cases l with
  |nil=>cases h
  |cons a l=>
   obtain⟨c,h1,h2⟩:=bQ.1 (show ob (iR n l) (λr=>some (a ::r))=some r from h);cases h2;obtain⟨rfl,b⟩:=ih h1;simp [b]
theorem tR{α:Type}(n:Nat)(l:List α):kN n l=l.drop n:=by
 induction n generalizing l with
 |zero=>rfl
 |succ n ih=>cases l with
  |nil=>rfl
  |cons a l=>exact ih l
theorem VRs.take{g:G}:∀{a:List V} {x:List Value} (n:Nat),VRs g a x->VRs g (a.take n) (x.take n)
 |_,_,_,.nil=>by simpa using VRs.nil
 |_,_,0,.cons _ _=>.nil
 |_,_,n+1,.cons h t=>.cons h (VRs.take n t)
theorem VRs.drop{g:G}:∀{a:List V} {x:List Value} (n:Nat),VRs g a x->VRs g (a.drop n) (x.drop n)
 |_,_,_,.nil=>by simpa using VRs.nil
 |_,_,0,.cons h t=>.cons h t
 |_,_,n+1,.cons _ t=>VRs.drop n t
theorem uu{x:Operand}{i:Nat}{cs:List V}{v:V}(h:VR g (.tup cs) (ρ x))(a:ff cs i=some v):∃u,VR g v u/\eK P ρ (.extract x i) u:=by
 rw [dS]at a;cases b:ρ x<;>rw [b]at h<;>cases h
 rename_i us c
 obtain⟨u,h1,h2⟩:=c.get a;refine⟨u,h2,λw o e=>?_⟩;have:us.toArray[i]? =some u:=by simpa using h1
 simp [execOp,e,b,Instr.extract,this]
theorem tn{f:FuncId}{first b:Array Operand}{vs a:List V}(h:VRs g vs ((first.toList++b.toList).map ρ))(c:iR first.size vs=some a):
  ∃u,VR g (.func (.func f) a (kN first.size vs)) u/\eK P ρ (.makeFunc (.func f) first b) u:=by
 obtain⟨rfl,_⟩:=oC c;rw [tR];have h1:=h.take first.size
 have h2:=h.drop first.size
 rw [List.map_append,List.take_left' (by simp)]at h1;rw [List.map_append,List.drop_left' (by simp)]at h2;refine⟨_,.func h1 h2,λw o e=>?_⟩;simp [execOp,e,Instr.makeFunc];exact⟨by apply Array.ext';simp,by apply Array.ext';simp⟩
theorem Br(c:da P T){t:TypeId}{b:Bool}{n off:Nat}{cs:List V}{us:List Value}{v:V}(d:qR T t=some b)(e:im T t=some n)(h:VRs g cs us)(a:part b cs off n=some v):
  ∃u,VR g v u/\∀w,(Go.part t us.toArray off).run P w= .ok u w:=by
 cases b with
 |false=>
  rw [show part false cs off n=ff cs off from rfl,dS]at a;obtain⟨u,h1,h2⟩:=h.get a;refine⟨u,h2,λw=>?_⟩;have:us.toArray[off]? =some u:=by simpa using h1
  simp [Go.part,gA c d,this]
 |true=>
  obtain⟨l,h1,h2⟩:=bQ.1 (show ob (iR n (kN off cs)) (λl=>some (.agg l))=some v from a);cases h2;obtain⟨rfl,f⟩:=oC h1;rw [tR];refine⟨_,.agg ((h.drop off).take n),λw=>?_⟩;simp [Go.part,gA c d,cL c e,List.extract_eq_take_drop]
theorem yr(d:da P T){t:TypeId}{fs:Array Field}{i:Nat}{f:Field}{b:Bool}{n:Nat}{x:Operand}{cs:List V}{v:V}(h1:T.under t=some (.struct fs))(h2:ff fs.toList i=some f)
  (p:qR T f.type=some b) (m:im T f.type=some n) (h:VR g (.agg cs) (ρ x)) (k:part b cs f.offset n=some v):∃u,VR g v u/\eK P ρ (.field t x i) u:=by
 cases c:ρ x<;>rw [c]at h<;>cases h
 rename_i us l
 obtain⟨u,q,j⟩:=Br d p m l k;rw [dS]at h2;have a:fs[i]? =some f:=by simpa using h2
 exact⟨u,q,λw o e=>by simp [execOp,e,c,Instr.field,bU d h1,a,asAgg,j]⟩
theorem rK(d:da P T){t:TypeId}{fs:Array Field}{i:Nat}{f:Field}{n:Nat}{x:Operand}{id off:Nat}(h1:T.under t=some (.struct fs))(h2:ff fs.toList i=some f)
  (j:jE T f.type=some n) (h:VR g (.ptr id off) (ρ x)):∃u,VR g (.ptr id (Nat.add off f.offset)) u/\eK P ρ (.fieldAddr t x i) u:=by
 cases c:ρ x<;>rw [c]at h<;>cases h
 rename_i b o z hg
 obtain⟨hs,k⟩:=eY j;rw [dS]at h2;have a:fs[i]? =some f:=by simpa using h2
 refine⟨_,.ptr hg,λw o' e=>?_⟩;have:¬n=0:=by omega
 simp [execOp,e,c,Instr.fieldAt,bU d h1,a,Instr.sureAddr,fieldPlace,cL d hs,this];rw [Addr.add_lit];simp;omega
theorem qH(j:da P T){t:TypeId}{fs:Array Field}{i:Nat}{f:Field}{n:Nat}{x:Operand}{cs:List V}{off:Nat}(h1:T.under t=some (.struct fs))(h2:ff fs.toList i=some f)
  (k:jE T f.type=some n) (h:VR g (.eptr cs off) (ρ x)):∃u,VR g (.eptr cs (Nat.add off f.offset)) u/\eK P ρ (.fieldAddr t x i) u:=by
 cases d:ρ x<;>rw [d]at h<;>cases h
 rename_i b o c xs hE l hc
 obtain⟨hs,m⟩:=eY k;rw [dS]at h2;have a:fs[i]? =some f:=by simpa using h2
 refine⟨_,.eptr hE l hc,λw o' e=>?_⟩;have:¬n=0:=by omega
 simp [execOp,e,d,Instr.fieldAt,bU j h1,a,Instr.sureAddr,fieldPlace,cL j hs,this];rw [Addr.add_lit];simp;omega
theorem mf{n:Int}{len m:Nat}(h:idx n len=some m):n=m/\m<len:=by
 cases n with
 |ofNat k=>
  obtain⟨h1,h2⟩:=bW.1 (show oif (Nat.blt k len) (some k)=some m from h);cases h2;exact⟨rfl,by simpa using h1⟩
 |negSucc k=>cases h
theorem zY(f:da P T){t e:TypeId}{es:Nat}{x y:Operand}{id off ln cap m:Nat}{ex:Bool}{k:IntKind}{n:Int}(h1:T.under t=some (.slice e))(l:jE T e=some es)
  (h:VR g (.sl id off ln cap ex es) (ρ x)) (hi:VR g (.int k n) (ρ y)) (p:idx n ln=some m):∃u,VR g (.ptr id (Nat.add off (Nat.mul m es))) u/\eK P ρ (.indexAddr t x y) u:=by
 obtain⟨rfl,a⟩:=mf p;have j:=hi.int_inv;obtain⟨hs,q⟩:=eY l;have:∃b o z c,g id=some (b,o,z)/\ρ x= .slice (some ⟨b,o+off,none⟩) ln c:=by
  cases d:ρ x<;>rw [d]at h<;>cases h
  ·rename_i hg;exact⟨_,_,_,_,hg,rfl⟩
  ·rename_i hg _ _;exact⟨_,_,_,_,hg,rfl⟩
  ·omega
  ·omega
 obtain⟨b,o,z,c,hg,d⟩:=this;refine⟨_,.ptr hg,λw o' i=>?_⟩;simp [execOp,i,d,j,Instr.indexAt,asIntOf,bU f h1,cL f hs,a];rw [Addr.add_lit];simp;omega
theorem yn(i:da P T){t e:TypeId}{es:Nat}{x y:Operand}{ln m:Nat}{cs:List V}{k:IntKind}{n:Int}(h1:T.under t=some (.slice e))(l:jE T e=some es)
  (h:VR g (.lst ln es cs) (ρ x)) (hi:VR g (.int k n) (ρ y)) (r:idx n ln=some m):∃u,VR g (.eptr cs (Nat.mul m es)) u/\eK P ρ (.indexAddr t x y) u:=by
 obtain⟨rfl,d⟩:=mf r;have q:=hi.int_inv;obtain⟨hs,s⟩:=eY l;have:∃b o cap c xs,Env.ro b=some c/\(∀j u,xs[j]? =some u->c[o+j]? =some u)/\VRs g cs xs/\ρ x= .slice (some ⟨b,o,none⟩) ln cap:=by
  cases a:ρ x<;>rw [a]at h<;>cases h
  ·rename_i hE f hc _;exact⟨_,_,_,_,_,hE,f,hc,rfl⟩
  ·omega
  ·omega
 obtain⟨b,o,cap,c,xs,hE,f,hc,a⟩:=this;refine⟨_,.eptr hE f hc,λw o' p=>?_⟩;simp [execOp,p,a,q,Instr.indexAt,asIntOf,bU i h1,cL i hs,d];rw [Addr.add_lit]
theorem wo(d:da P T){t e:TypeId}{es ln:Nat}{x y:Operand}{id off m:Nat}{k:IntKind}{n:Int}(h1:T.under t=some (.array ln e))(f:jE T e=some es)
  (h:VR g (.ptr id off) (ρ x)) (hi:VR g (.int k n) (ρ y)) (l:idx n ln=some m):∃u,VR g (.ptr id (Nat.add off (Nat.mul m es))) u/\eK P ρ (.indexAddr t x y) u:=by
 obtain⟨rfl,a⟩:=mf l;have j:=hi.int_inv;obtain⟨hs,p⟩:=eY f;cases c:ρ x<;>rw [c]at h<;>cases h
 rename_i b o z hg
 refine⟨_,.ptr hg,λw o' i=>?_⟩;simp [execOp,i,c,j,Instr.indexAt,asIntOf,bU d h1,cL d hs,a,Instr.sureAddr];rw [Addr.add_lit];simp;omega
theorem ym(j:da P T){t:TypeId}{x y:Operand}{ln c m:Nat}{k:IntKind}{n:Int}(h1:T.under t=some .string)
  (h:VR g (.str ln c) (ρ x)) (hi:VR g (.int k n) (ρ y)) (i:idx n ln=some m):∃u,VR g (.int .u8 (Int.ofNat (Nat.mod (Nat.shiftRight c (Nat.mul 8 m)) 256))) u/\eK P ρ (.index t x y) u:=by
 obtain⟨rfl,a⟩:=mf i;have f:=hi.int_inv;cases b:ρ x<;>rw [b]at h<;>cases h
 rename_i s
 refine⟨_,.int .u8 _,λw o' d=>?_⟩;have hg:s.data.toList[m]? =some s.data.toList[m]:=List.getElem?_eq_getElem (by rw [<-eN];exact a);have e:Nat.mod (Nat.shiftRight (ck s.data.toList) (Nat.mul 8 m)) 256=s.data.toList[m].toNat:=by
  rw [vX,CB,lI,Cv];exact vd hg
 have hs:s[m]? =some s.data.toList[m]:=by
  rw [getElem?_pos s m a];rfl
 rw [e];simp [execOp,d,b,f,Instr.index,asIntOf,bU j h1,hs]
theorem yq(c:da P T){t e:TypeId}{es ln:Nat}{a:Bool}{x y:Operand}{cs:List V}{m:Nat}{k:IntKind}{n:Int}{v:V}(h1:T.under t=some (.array ln e))(f:im T e=some es)(q:qR T e=some a)
  (h:VR g (.agg cs) (ρ x)) (hi:VR g (.int k n) (ρ y)) (s:idx n ln=some m) (j:part a cs (Nat.mul m es) es=some v):∃u,VR g v u/\eK P ρ (.index t x y) u:=by
 obtain⟨rfl,b⟩:=mf s;have o:=hi.int_inv;cases i:ρ x<;>rw [i]at h<;>cases h
 rename_i us p
 obtain⟨u,r,d⟩:=Br c q f p j;refine⟨u,r,λw o' l=>?_⟩;rw [lI]at d;simp [execOp,l,i,o,Instr.index,asIntOf,bU c h1,cL c f,b,d]
inductive OV(g:G):Option V->Option Value->Prop
 |none:OV g none none
 |some {v:V} {u:Value} (h:VR g v u):OV g (some v) (some u)
theorem sX{o:Option Operand}{rest:List Operand}{c a:List V}{d:Option V}(h:VRs g c ((pB o++rest).map ρ))(b:Bv o.isSome c=some (d,a)):OV g d (o.map ρ)/\VRs g a (rest.map ρ):=by
 cases o with
 |none=>cases b;exact⟨.none,h⟩
 |some x=>
  cases h with
  |cons h t=>cases b;exact⟨.some h,t⟩
theorem mj{v:V}{u:Value}{hi m:Nat}(h:VR g v u)(a:bound v hi=some m){y:Nat}(b:hi<=y)(code:BoundsCode)(w:World):m<=hi/\(Instr.sliceBound u y code).run P w= .ok m w:=by
 cases v with
 |int k n=>
  have:=h.int_inv;subst this;cases n with
  |negSucc n=>cases a
  |ofNat n=>
   obtain⟨h1,h2⟩:=bW.1 (show oif (Nat.ble n hi) (some n)=some m from a);cases h2;have h1:m<=hi:=by simpa using h1
   have h2:m<=y:=Nat.le_trans h1 b;exact⟨h1,by simp [Instr.sliceBound,asIntOf,h2]⟩
 |_=>cases a
theorem pW{o:Option V}{d hi m:Nat}(h:dL o d hi=some m):(o=none/\m=d)\/∃v,o=some v/\bound v hi=some m:=by
 cases o with
 |none=>cases h;exact .inl ⟨rfl,rfl⟩
 |some v=>exact .inr ⟨v,rfl,h⟩
theorem eP{sl:Bool}{len cap c h l:Nat}{lo hi:Option V}{a b:Option Value}(d:OV g lo a)(j:OV g hi b)(hc:cap<=c)
  (hh:dL hi len cap=some h) (e:dL lo 0 h=some l) (w:World):(Instr.sliceBounds sl len c a b none).run P w= .ok (l,h,c) w/\l<=h/\(hi=none->h=len)/\(hi≠none->h<=cap):=by
 cases j with
 |none=>
  cases hh;cases d with
  |none=>cases e;exact⟨by simp [Instr.sliceBounds],Nat.zero_le _,λ_=>rfl,λk=>absurd rfl k⟩
  |some q=>
   obtain⟨i,f⟩:=mj (P:=P) q e (Nat.le_refl _) .sliceB w;exact⟨by simp [Instr.sliceBounds,f],i,λ_=>rfl,λk=>absurd rfl k⟩
 |some k=>
  obtain⟨h1,h2⟩:=mj (P:=P) k hh hc (if sl then .sliceAcap else .sliceAlen) w;cases d with
  |none=>cases e;exact⟨by simp [Instr.sliceBounds,h2],Nat.zero_le _,(λk=>by cases k),λ_=>h1⟩
  |some q=>
   obtain⟨i,f⟩:=mj (P:=P) q e (Nat.le_refl _) .sliceB w;exact⟨by simp [Instr.sliceBounds,h2,f],i,(λk=>by cases k),λ_=>h1⟩
theorem fG{sl:Bool}{len cap c m h l:Nat}{r:V}{a:Value}{lo hi:Option V}{b d:Option Value}(j:OV g lo b)(i:OV g hi d)(f:VR g r a)(hc:cap<=c)
  (s:bound r cap=some m) (e:hi≠none) (hh:dL hi len m=some h) (p:dL lo 0 h=some l) (w:World):(Instr.sliceBounds sl len c b d (some a)).run P w= .ok (l,h,m) w/\l<=h/\h<=m/\m<=cap:=by
 obtain⟨n,o⟩:=mj (P:=P) f s hc (if sl then .slice3Acap else .slice3Alen) w;cases i with
 |none=>exact absurd rfl e
 |some k=>
  obtain⟨h1,h2⟩:=mj (P:=P) k hh (Nat.le_refl _) .slice3B w;cases j with
  |none=>cases p;exact⟨by simp [Instr.sliceBounds,o,h2],Nat.zero_le _,h1,n⟩
  |some q=>
   obtain⟨u,t⟩:=mj (P:=P) q p (Nat.le_refl _) .slice3C w;exact⟨by simp [Instr.sliceBounds,o,h2,t],u,h1,n⟩
theorem yA(s:ByteArray)(l h:Nat)(h1:l<=h)(h2:h<=s.size):(s.extract l h).size=h-l/\ck (s.extract l h).data.toList=ck s.data.toList/256 ^ l%256 ^ (h-l):=by
 refine⟨by rw [ByteArray.size_extract];omega,?_⟩;rw [ByteArray.data_extract,Array.toList_extract,List.extract_eq_take_drop,zG,s9]
theorem wh(E:da P T){t:TypeId}{x:Operand}{lo hi:Option Operand}{m f:Option V}{n c:Nat}{v:V}(h1:T.under t=some .string)(h:VR g (.str n c) (ρ x))(b:OV g m (lo.map ρ))(a:OV g f (hi.map ρ))
  (q:xB .str (.str n c) m f none=some v):∃u,VR g v u/\eK P ρ (.slice t x lo hi none) u:=by
 cases i:ρ x<;>rw [i]at h<;>cases h
 rename_i s
 obtain⟨hh,d,p⟩:=bQ.1 (show ob (dL f s.size s.size) _=some v from q);obtain⟨l,j,y⟩:=bQ.1 p;cases y;have A:hh<=s.size:=by
  rcases pW d with⟨_,e⟩ | ⟨v,_,e⟩
  ·omega
  ·cases v with
   |int k n=>cases n with
    |negSucc n=>cases e
    |ofNat n=>have:=(bW.1 (show oif (Nat.ble n s.size) (some n)=some hh from e));obtain⟨D,B⟩:=this;cases B;simpa using D
   |_=>cases e
 have C:l<=hh:=(eP (P:=P) (sl:=false) b a (Nat.le_refl _) d j default).2.1;obtain⟨F,z⟩:=yA s l hh C A;refine⟨.string (s.extract l hh),?_,λw o e=>?_⟩
 ·have:VR g (.str (s.extract l hh).size (ck (s.extract l hh).data.toList)) (.string (s.extract l hh)):= .str _
  rw [F,z]at this;rw [CB,IV,lI,lI,xW,Cv,Cv,vX,Nat.one_mul];exact this
 ·obtain⟨r,_⟩:=eP (P:=P) (sl:=false) b a (Nat.le_refl _) d j w
  simp [execOp,e,i,Instr.sliceAt,Instr.slice,bU E h1,r]
theorem zH(b o off l es m:Nat):(if m=l then(⟨b,o+off,none⟩:Addr)else(⟨b,o+off,none⟩:Addr).add (l*es))=⟨b,o+(if m=l then off else off+l*es),none⟩:=by
 split
 ·rfl
 ·rw [Addr.add_lit];simp;omega
theorem wi(y:da P T){t e:TypeId}{n es:Nat}{x:Operand}{lo hi d:Option Operand}{k j mv:Option V}{id off:Nat}{v:V}(h1:T.under t=some (.array n e))(D:jE T e=some es)(h:VR g (.ptr id off) (ρ x))
  (c:OV g k (lo.map ρ)) (a:OV g j (hi.map ρ)) (i:OV g mv (d.map ρ)) (f:mv≠none->j≠none) (A:xB (.arr n es) (.ptr id off) k j mv=some v):∃u,VR g v u/\eK P ρ (.slice t x lo hi d) u:=by
 cases s:ρ x<;>rw [s]at h<;>cases h
 rename_i b o z hg
 obtain⟨hs,I⟩:=eY D;obtain⟨m,k0,G⟩:=bQ.1 (show ob (dL mv n n) _=some v from A);obtain⟨hh,r,E⟩:=bQ.1 G;obtain⟨l,p,C⟩:=bQ.1 E;cases C;have R:∀w,(Instr.sliceBounds false n n (lo.map ρ) (hi.map ρ) (d.map ρ)).run P w= .ok (l,hh,m) w:=by
  intro w;generalize F:d.map ρ=mo at*;cases i with
  |none=>cases k0;exact(eP (P:=P) c a (Nat.le_refl _) r p w).1
  |some q=>exact(fG (P:=P) c a q (Nat.le_refl _) k0 (f (by simp)) r p w).1
 refine⟨_,.slx hg,λw o' B=>?_⟩;simp [execOp,B,s,Instr.sliceAt,bU y h1,Instr.sureAddr,R,cL y hs];rw [zH];simp [cO]
theorem VR.sli_inv{id off len cap es:Nat}{u:Value}(h:VR g (.sl id off len cap false es) u):
  (∃b o z c,g id=some (b,o,z)/\off+c*es=z/\len<=c/\u= .slice (some ⟨b,o+off,none⟩) len c)\/(∃b o z p,g id=some (b,o,z)/\len=0/\z<=off/\u= .slice (some ⟨b,p,none⟩) 0 0):=by
 cases h
 ·exact .inl ⟨_,_,_,_,‹_›,‹_›,‹_›,rfl⟩
 ·exact .inr ⟨_,_,_,_,‹_›,rfl,‹_›,rfl⟩
theorem fS{o:Option V}{h:Nat}(k:dL o 0 0=some h):h=0:=by
 rcases pW k with⟨_,e⟩ | ⟨v,_,e⟩
 ·exact e
 ·cases v with
  |int k n=>cases n with
   |negSucc n=>cases e
   |ofNat n=>obtain⟨b,a⟩:=bW.1 (show oif (Nat.ble n 0) (some n)=some h from e);cases a;simpa using b
  |_=>cases e
theorem yl(Q:da P T){t e:TypeId}{es:Nat}{x:Operand}{lo hi s:Option Operand}{M D mv:Option V}{a v:V}(h1:T.under t=some (.slice e))(W:jE T e=some es)(h:VR g a (ρ x))
  (i:OV g M (lo.map ρ)) (f:OV g D (hi.map ρ)) (r:OV g mv (s.map ρ)) (A:mv≠none->D≠none) (I:xB (.sl es) a M D mv=some v):∃u,VR g v u/\eK P ρ (.slice t x lo hi s) u:=by
 obtain⟨hs,hp⟩:=eY W;have d:∀{b:Option Addr} {len c l hh m:Nat},ρ x= .slice b len c->(∀w,(Instr.sliceBounds true len c (lo.map ρ) (hi.map ρ) (s.map ρ)).run P w= .ok (l,hh,m) w)->
   eK P ρ (.slice t x lo hi s) (.slice (if m=l then b else b.map (·.add (l*es))) (hh-l) (m-l)):=by
  intro b len c l hh m j R w o' U;simp [execOp,U,j,Instr.sliceAt,Instr.slice,bU Q h1,R,cL Q hs]
 cases a with
 |nils=>
  cases j:ρ x<;>rw [j]at h<;>cases h;obtain⟨m,k0,F⟩:=bQ.1 (show ob (dL mv 0 0) _=some v from I);obtain⟨hh,n,C⟩:=bQ.1 F;obtain⟨l,k,B⟩:=bQ.1 C;cases B;obtain rfl:=fS k0;obtain rfl:=fS n;obtain rfl:=fS k;refine⟨_,.nils,d (l:=0) (hh:=0) (m:=0) j λw=>?_⟩;generalize y:s.map ρ=mo at*;cases r with
  |none=>exact(eP (P:=P) i f (Nat.le_refl _) n k w).1
  |some q=>exact(fG (P:=P) i f q (Nat.le_refl _) k0 (A (by simp)) n k w).1
 |sl id off len cap ex es'=>
  obtain⟨q1,K⟩:=bW.1 (show oif (Nat.beq es es') _=some v from I);obtain rfl:es=es':=by simpa using q1
  cases ex with
  |true=>
   obtain⟨m,k0,F⟩:=bQ.1 (show ob (dL mv cap cap) _=some v from K);obtain⟨hh,n,C⟩:=bQ.1 F;obtain⟨l,k,B⟩:=bQ.1 C;cases B;have R:∀w,(Instr.sliceBounds true len cap (lo.map ρ) (hi.map ρ) (s.map ρ)).run P w= .ok (l,hh,m) w:=by
    intro w;generalize y:s.map ρ=mo at*;cases r with
    |none=>cases k0;exact(eP (P:=P) i f (Nat.le_refl _) n k w).1
    |some q=>exact(fG (P:=P) i f q (Nat.le_refl _) k0 (A (by simp)) n k w).1
   cases j:ρ x<;>rw [j]at h<;>cases h
   ·rename_i b o z hg
    refine⟨_,?_,d j R⟩;have:(if m=l then some (⟨b,o+off,none⟩:Addr)else(some (⟨b,o+off,none⟩:Addr)).map (·.add (l*es)))=some ⟨b,o+(Bool.rec (motive:=λ_=>Nat) (Nat.add off (Nat.mul l es)) off (Nat.beq m l)),none⟩:=by
     have:=zH b o off l es m;rw [cO]
     split at this<;>simp_all
    rw [this];exact .slx hg
   ·rename_i b o z p hg
    obtain rfl:=fS k0;obtain rfl:=fS n;obtain rfl:=fS k;exact⟨_,.slx0 hg,d j R⟩
  |false=>
   cases mv with
   |none=>
    obtain⟨hh,n,C⟩:=bQ.1 (show ob (dL D len len) _=some v from K);obtain⟨l,k,B⟩:=bQ.1 C;cases B;have J:s.map ρ=none:=by cases y:s.map ρ<;>rw [y]at r<;>cases r
    rw [J]at d;rcases h.sli_inv with⟨b,o,z,c,hg,hc,hl,j⟩ | ⟨b,o,z,p,hg,rfl,hz,j⟩
    ·have S:=λw=>eP (P:=P) (sl:=true) i f hl n k w
     obtain⟨_,Z,O,N⟩:=S default;have Y:hh<=len:=by
      by_cases q:D=none
      ·rw [O q];exact Nat.le_refl _
      ·exact N q
     refine⟨_,?_,d j λw=>(S w).1⟩
     by_cases hcl:c=l
     ·have:hh-l=0:=by omega
      rw [if_pos hcl,this,show c-l=0 by omega,xW,this];exact .sl0 hg (by rw [rJ,lI,<-hcl];omega)
     ·rw [if_neg hcl]
      simp only [Option.map_some,Addr.add_lit,rJ,lI,xW];rw [Nat.add_assoc];refine .sli hg ?_ (by omega);rw [<-hc,Nat.sub_mul];have:l*es<=c*es:=Nat.mul_le_mul_right _ (by omega);omega
    ·obtain rfl:=fS n
     obtain rfl:=fS k;exact⟨_,.sl0 hg (by rw [rJ,lI];omega),d j λw=>(eP (P:=P) i f (Nat.le_refl _) n k w).1⟩
   |some mq=>
    obtain⟨m,k0,F⟩:=bQ.1 (show ob (bound mq len) _=some v from K);obtain⟨hh,n,C⟩:=bQ.1 F;obtain⟨l,k,B⟩:=bQ.1 C;cases B;obtain⟨L,G,E⟩:∃L,s.map ρ=some L/\VR g mq L:=by
     cases y:s.map ρ<;>rw [y]at r<;>cases r
     rename_i q
     exact⟨_,rfl,q⟩
    rw [G]at d;rcases h.sli_inv with⟨b,o,z,c,hg,hc,hl,j⟩ | ⟨b,o,z,p,hg,rfl,hz,j⟩
    ·refine⟨_,?_,d j λw=>(fG (P:=P) i f E hl k0 (A (by simp)) n k w).1⟩
     have:(if m=l then some (⟨b,o+off,none⟩:Addr)else(some (⟨b,o+off,none⟩:Addr)).map (·.add (l*es)))=some ⟨b,o+(Bool.rec (motive:=λ_=>Nat) (Nat.add off (Nat.mul l es)) off (Nat.beq m l)),none⟩:=by
      have:=zH b o off l es m;rw [cO]
      split at this<;>simp_all
     rw [this];exact .slx hg
    ·have S:=λw=>fG (P:=P) (sl:=true) (c:=0) i f E (Nat.le_refl _) k0 (A (by simp)) n k w
     obtain⟨_,Z,O,N⟩:=S default;obtain rfl:m=0:=by omega
     obtain rfl:hh=0:=by omega
     obtain rfl:l=0:=by omega
     exact⟨_,.slx0 hg,d j λw=>(S w).1⟩
 |_=>cases I
theorem CT(f:da P T){x:Operand}{t:TypeId}{d:TypeDesc}{c:Array TypeId}{a v:V}{k:Lk}(h0:c[0]? =some t)(h1:T.under t=some d)(j:(d= .string/\k= .str)\/(∃e,d= .slice e/\k= .sl)\/(∃n e,d= .array n e/\k= .const n))
  (h:VR g a (ρ x)) (i:POp.run1 (.leng k) a=some v):∃u,VR g v u/\∀(ty:TypeId) (w:World),(Builtin.len_ c ty #[ρ x]).run P w= .ok u w:=by
 rcases j with⟨rfl,rfl⟩ | ⟨e,rfl,rfl⟩ | ⟨n,e,rfl,rfl⟩
 ·cases a<;>cases i
  cases b:ρ x<;>rw [b]at h<;>cases h;exact⟨_,.int .i64 _,λty w=>by simp [Builtin.len_,h0,bU f h1,goInt]⟩
 ·cases a<;>cases i
  ·cases b:ρ x<;>rw [b]at h<;>cases h
   exact⟨_,.int .i64 _,λty w=>by simp [Builtin.len_,h0,bU f h1,goInt]⟩
  ·cases b:ρ x<;>rw [b]at h<;>cases h<;>exact⟨_,.int .i64 _,λty w=>by simp [Builtin.len_,h0,bU f h1,goInt]⟩
  ·cases b:ρ x<;>rw [b]at h<;>cases h<;>exact⟨_,.int .i64 _,λty w=>by simp [Builtin.len_,h0,bU f h1,goInt]⟩
 ·have:v= .int .i64 (Int.ofNat n):=by cases a<;>cases i<;>rfl
  subst this;exact⟨_,.int .i64 _,λty w=>by cases b:ρ x<;>simp [Builtin.len_,h0,bU f h1,goInt]⟩
theorem vl:∀{l:List V} {us:List Value} {a v:V} {b:Value},VRs g l us->VR g a b->rt min2 l a=some v->∃u,VR g v u/\∀w,(us.foldlM Builtin.min2 b).run P w= .ok u w
 |_,_,_,_,b,.nil,ha,hr=>by cases hr;exact⟨b,ha,λw=>rfl⟩
 |x ::l,y ::us,a,v,b,.cons h t,ha,hr=>by
  obtain⟨c,h1,h2⟩:=bQ.1 (show ob (min2 a x) (rt min2 l)=some v from hr);cases a<;>cases x<;>cases h1;have e1:=ha.int_inv;have e2:=h.int_inv;subst e1 e2;obtain⟨u,k1,k2⟩:=vl t (.int _ _) h2;refine⟨u,k1,λw=>?_⟩;rw [List.foldlM_cons,Sem.run_bind];simp only [Builtin.min2,Sem.run_pure,Result.andThen_ok];rw [<-k2 w,cO,iy];simp
theorem vm:∀{l:List V} {us:List Value} {a v:V} {b:Value},VRs g l us->VR g a b->rt max2 l a=some v->∃u,VR g v u/\∀w,(us.foldlM Builtin.max2 b).run P w= .ok u w
 |_,_,_,_,b,.nil,ha,hr=>by cases hr;exact⟨b,ha,λw=>rfl⟩
 |x ::l,y ::us,a,v,b,.cons h t,ha,hr=>by
  obtain⟨c,h1,h2⟩:=bQ.1 (show ob (max2 a x) (rt max2 l)=some v from hr);cases a<;>cases x<;>cases h1;have e1:=ha.int_inv;have e2:=h.int_inv;subst e1 e2;obtain⟨u,k1,k2⟩:=vm t (.int _ _) h2;refine⟨u,k1,λw=>?_⟩;rw [List.foldlM_cons,Sem.run_bind];simp only [Builtin.max2,Sem.run_pure,Result.andThen_ok];rw [<-k2 w,cO,iy];simp
theorem Cx(c:V)(l:List V)(off:Nat)(vs:List V):over (c ::l) off vs=if off=0 then fW vs (some (c ::l)) (λv tl=>ob (over l 0 tl) λr=>some (v ::r))else ob (over l (off-1) vs) λr=>some (c ::r):=by
 show Bool.rec (motive:=λ_=>Option (List V)) (ob (over l (off-1) vs) λr=>some (c ::r)) (fW vs (some (c ::l)) λv tl=>ob (over l 0 tl) λr=>some (v ::r)) (Nat.beq off 0)=_;rw [cO];simp only [Nat.beq_eq]
theorem qy:∀{l:List V} {off:Nat} {vs r:List V},over l off vs=some r->off+vs.length<=l.length/\r=l.take off++(vs++l.drop (off+vs.length))
 |[],off,vs,r,h=>by
  cases vs with
  |nil=>
   obtain⟨h1,h2⟩:=bW.1 (show oif (Nat.beq off 0) (some [])=some r from h);cases h2;obtain rfl:off=0:=by simpa using h1
   simp
  |cons=>cases h
 |c ::l,off,vs,r,h=>by
  rw [Cx]at h
  split at h
  ·rename_i h0
   subst h0;cases vs with
   |nil=>cases h;simp
   |cons v tl=>
    obtain⟨d,h1,h2⟩:=bQ.1 (show ob (over l 0 tl) (λr=>some (v ::r))=some r from h);cases h2;obtain⟨a,b⟩:=qy h1;subst b;simp at a ⊢;exact a
  ·rename_i h0
   obtain⟨d,h1,h2⟩:=bQ.1 h;cases h2;obtain⟨a,b⟩:=qy h1;subst b;obtain⟨n,rfl⟩:∃n,off=n+1:=⟨off-1,by omega⟩
   simp at a ⊢;refine⟨by omega,?_⟩;rw [show n+1+vs.length=n+vs.length+1 by omega,List.drop_succ_cons]
theorem C2(us:List Value):∀(k off:Nat) (a:Array Value),off+k+us.length<=a.size->
  ((us.zipIdx k).foldl (λcs (p:Value×Nat)=>cs.setIfInBounds (off+p.2) p.1) a).toList=a.toList.take (off+k)++(us++a.toList.drop (off+k+us.length)):=by
 induction us with
 |nil=>intro k off a _;simp
 |cons u us ih=>
  intro k off a h;simp only [List.length_cons]at h;rw [List.zipIdx_cons,List.foldl_cons,ih (k+1) off _ (by simp;omega)];simp only [Array.toList_setIfInBounds];rw [show off+(k+1)=off+k+1 by omega,List.length_cons];rw [show off+k+(us.length+1)=off+k+1+us.length by omega];rw [List.drop_set_of_lt (by omega),List.take_add_one,List.take_set_of_le (by omega)];have:(a.toList.set (off+k) u)[off+k]? =some u:=by
   rw [List.getElem?_set_self (by simp;omega)]
  rw [this];simp
theorem gN{v:V}{u:Value}(h:VR g v u):VRs g (cellsOf v) u.cells.toList:=by
 cases h<;>first|(rename_i h;exact h)|exact .cons (by constructor<;>assumption) .nil|exact .cons (by constructor) .nil
theorem pP{place:Nat->Option (Nat×Nat)}:∀{a:List (Nat×Operand)} {parts:List (Nat×Nat)} {vs cs r:List V} {zs:Array Value},(∀(i:Nat) p q,a[i]? =some p->parts[i]? =some q->place p.1=some q)->parts.length=a.length->
  VRs g vs (a.map λp=>ρ p.2)->VRs g cs zs.toList->jT parts vs cs=some r->∃zs',Instr.fill place zs (a.map λp=>(p.1,ρ p.2))=some zs'/\VRs g r zs'.toList
 |[],[],_,cs,r,zs,_,_,hv,hc,hr=>by
  cases hv;cases hr;exact⟨zs,rfl,hc⟩
 |[],_ ::_,_,_,_,_,_,hl,_,_,_=>by simp at hl
 |_ ::_,[],_,_,_,_,_,hl,_,_,_=>by simp at hl
 |p ::a,q ::parts,v ::vs,cs,r,zs,hp,hl,.cons h t,hc,hr=>by
  obtain⟨h1,h2⟩:=bW.1 (show oif (Nat.beq (cD (cellsOf v)) q.2) (ob (over cs q.1 (cellsOf v)) λcs=>jT parts vs cs)=some r from hr);obtain⟨cs',h3,h4⟩:=bQ.1 h2;obtain⟨k1,k2⟩:=qy h3;have hpl:=hp 0 p q rfl rfl;have hcv:=gN h;have hn:(ρ p.2).cells.size=q.2:=by
   have:=hcv.length;rw [cq]at h1;simp at this h1;omega
  have c:=hc.length;have b:=hcv.length;simp at c b;have f:=C2 (ρ p.2).cells.toList 0 q.1 zs (by simp;omega);have d:VRs g cs' ((ρ p.2).cells.zipIdx.foldl (λcs (x:Value×Nat)=>cs.setIfInBounds (q.1+x.2) x.1) zs).toList:=by
   rw [<-Array.foldl_toList,Array.toList_zipIdx,f,k2];have e:(cellsOf v).length=(ρ p.2).cells.toList.length:=hcv.length;rw [e];exact(hc.take _).append (hcv.append (hc.drop _))
  obtain⟨zs',l,m⟩:=pP (λi p' j n k=>hp (i+1) p' j (by simpa using n) (by simpa using k)) (by simpa using hl) t d h4;refine⟨zs',?_,m⟩;rw [List.map_cons];simp only [Instr.fill,hpl];rw [if_neg (by simp;omega)];exact l
theorem mc{α β:Type}{f:α->Option β}:∀{l:List α} {r:List β},gU f l=some r->r.length=l.length/\∀(i:Nat) a,l[i]? =some a->∃b,r[i]? =some b/\f a=some b
 |[],r,h=>by cases h;simp
 |a ::l,r,h=>by
  obtain⟨b,h1,h2⟩:=bQ.1 (show ob (f a) (λb=>ob (gU f l) λr=>some (b ::r))=some r from h);obtain⟨r',h3,h4⟩:=bQ.1 h2;cases h4;obtain⟨k1,k2⟩:=mc h3;refine⟨by simp [k1],λi x hx=>?_⟩;cases i with
  |zero=>simp at hx;subst hx;exact⟨b,rfl,h1⟩
  |succ i=>simpa using k2 i x (by simpa using hx)
theorem rh{v:Value}{x:V}(h:ky v=some x):VR g x v:=by
 unfold ky at h
 split at h<;>cases h<;>first|exact .func .nil .nil|constructor
theorem rf:∀{l:List Value} {r:List V},gU ky l=some r->VRs g r l
 |[],r,h=>by cases h;exact .nil
 |a ::l,r,h=>by
  obtain⟨b,h1,h2⟩:=bQ.1 (show ob (ky a) (λb=>ob (gU ky l) λr=>some (b ::r))=some r from h);obtain⟨r',h3,h4⟩:=bQ.1 h2;cases h4;exact .cons (rh h1) (rf h3)
theorem sT{v:Value}{x:V}(h:ofValue v=some x):VR g x v:=by
 unfold ofValue at h
 split at h
 ·obtain⟨l,h1,h2⟩:=bQ.1 h
  cases h2;exact .agg (rf h1)
 ·exact rh h
theorem iB(c:da P T){t:TypeId}{z:V}(h:iV T t=some z):∃u,VR g z u/\∀w,(zeroValue t).run P w= .ok u w:=by
 obtain⟨i,h1,h2⟩:=bQ.1 h;obtain⟨u,b,a⟩:=bQ.1 h2;exact⟨u,sT a,λw=>by simp [zeroValue,fT c h1,b]⟩
theorem uW(hT:da P T):∀{fs:List Field} {pl:List (Nat×Nat)},rW T fs=some pl->∀w,(fs.mapM (m:=Sem) λf=>do pure (f.offset,<-sizeOf f.type)).run P w= .ok pl w
 |[],pl,h,w=>by cases h;rfl
 |f ::fs,pl,h,w=>by
  obtain⟨b,h1,h2⟩:=bQ.1 (show ob (ob (im T f.type) λn=>some (f.offset,n)) (λb=>ob (rW T fs) λr=>some (b ::r))=some pl from h);obtain⟨r',h3,h4⟩:=bQ.1 h2;obtain⟨n,h5,h6⟩:=bQ.1 h1;cases h4;cases h6;rw [List.mapM_cons];simp only [Sem.run_bind,cL hT h5,Result.andThen_ok,Sem.run_pure,uW hT h3 w]
theorem pJ(j:da P T){t:TypeId}{fs:Array Field}{d:Array (Nat×Operand)}{z:V}{h l:List (Nat×Nat)}{vs cs:List V}(hz:iV T t=some z)(h1:T.under t=some (.struct fs))(x:rW T fs.toList=some h)
  (B:gU (λp=>ff h p.1) d.toList=some l) (n:VRs g vs ((d.toList.map (·.2)).map ρ)) (s:jT l vs (cellsOf z)=some cs):∃u,VR g (.agg cs) u/\eK P ρ (.build t d) u:=by
 obtain⟨u,v,k⟩:=iB (g:=g) j hz;obtain⟨y,A⟩:=mc B;rw [List.map_map]at n;obtain⟨c,C,r⟩:=pP (place:=λi=>h.toArray[i]?) (λi p q E m=>by
  obtain⟨b,n1,n2⟩:=A i p E;rw [n1]at m;cases m;rw [dS]at n2
  simpa using n2) y n (gN v) s
 have f:c.toList.toArray=c:=by simp
 refine⟨.agg c,by rw [<-f];exact .agg r,λw o e=>?_⟩;have a:(d.map λp=>(p.1,ρ p.2)).toList=d.toList.map λp=>(p.1,ρ p.2):=by simp
 have D:=uW j x w;simp only [execOp,e,Instr.build,Sem.run_bind,k,Result.andThen_ok,bU j h1];rw [Array.mapM_eq_mapM_toList];simp only [Sem.run_map,D,Result.andThen_ok];rw [a,C];simp
theorem qI(f:da P T){t e:TypeId}{k n:Nat}{c:Array (Nat×Operand)}{z:V}{vs cs:List V}(hz:iV T t=some z)(h1:T.under t=some (.array k e))(v:im T e=some n)
  (l:VRs g vs ((c.toList.map (·.2)).map ρ)) (r:jT (c.toList.map λp=>(Nat.mul p.1 n,n)) vs (cellsOf z)=some cs):∃u,VR g (.agg cs) u/\eK P ρ (.build t c) u:=by
 obtain⟨u,s,h⟩:=iB (g:=g) f hz;rw [List.map_map]at l;obtain⟨b,x,m⟩:=pP (place:=λi=>some (i*n,n)) (λi p q y j=>by
  rw [List.getElem?_map,y]at j
  simpa using j) (by simp) l (gN s) r
 have d:b.toList.toArray=b:=by simp
 refine⟨.agg b,by rw [<-d];exact .agg m,λw o e=>?_⟩;have a:(c.map λp=>(p.1,ρ p.2)).toList=c.toList.map λp=>(p.1,ρ p.2):=by simp
 simp only [execOp,e,Instr.build,Sem.run_bind,h,Result.andThen_ok,bU f h1,cL f v];rw [a,x];simp
end
end Ev
end Go.Proofs.YtdfphfdnoobikaaGreatDoor
