/-
  All operations that make or write memory,together.
-/
import Derived.Test.YtdfphfdnoobikaaGreatDoorEvAppend
import Derived.OrdersIn
import Derived.RangeFuncRecord
namespace Go.Proofs.YtdfphfdnoobikaaGreatDoor
namespace Ev
section
variable [Env]
set_option linter.unusedSectionVars false
section
variable {P:Program} {T:Ty} {g:G} {ρ:Operand->Value} {h:H} {w:World}
theorem LY(K:da P T)(r:WR T g h w)(hE:lF g w){op:Op}{eo:EOp}{os:List Operand}(hc:bT T op=some (.e eo,os)){vs:List V}{v:V}{h':H}(E:VRs g vs (os.map ρ))(D:eo.run vs h=some (v,h')):Eff P T g h w ρ op v h':=by
 cases op
 case store t a x=>
  simp only [bT]at hc;obtain⟨n,h1,h2⟩:=bQ.1 hc;cases h2;obtain⟨p,q,rfl,C,L⟩:=E.two;exact Dc K r h1 C L D
 case insert t m k x=>
  simp only [bT]at hc;obtain⟨d,h1,h2⟩:=bQ.1 hc;cases d with
  |map kt e=>
   obtain⟨kk,B,j⟩:=bQ.1 h2;cases j;obtain⟨a,b,c,rfl,C,L,I⟩:=E.three;obtain⟨g',w',S,O,R⟩:=vt K r h1 B C L I D;exact⟨g',w',undef,S,O,λo e=>.inr ⟨by simp [execOp,e,R],rfl⟩⟩
  |_=>cases h2
 case mapUpdate t m k x=>
  simp only [bT]at hc;obtain⟨d,h1,h2⟩:=bQ.1 hc;cases d with
  |map kt e=>
   obtain⟨kk,B,j⟩:=bQ.1 h2;cases j;obtain⟨a,b,c,rfl,C,L,I⟩:=E.three;obtain⟨g',w',S,O,R⟩:=vt K r h1 B C L I D;exact⟨g',w',undef,S,O,λo e=>.inr ⟨by simp [execOp,e,R],rfl⟩⟩
  |_=>cases h2
 case mapEntry t m k=>
  simp only [bT]at hc;obtain⟨d,h1,h2⟩:=bQ.1 hc;cases d with
  |map kt e=>
   obtain⟨kk,B,j⟩:=bQ.1 h2;obtain⟨z,G,M⟩:=bQ.1 j;cases M;obtain⟨a,b,rfl,C,L⟩:=E.two;obtain⟨g',w',u,S,O,R⟩:=Ap K r h1 B G C L D;exact⟨g',w',u,S,O,λo e=>.inl (by simp [execOp,e,R])⟩
  |_=>cases h2
 case entryStore t m s x=>
  cases hc;obtain⟨a,b,c,rfl,C,L,I⟩:=E.three;obtain⟨g',w',S,O,R⟩:=Dg (P:=P) (t:=t) r C L I D;exact⟨g',w',undef,S,O,λo e=>.inr ⟨by simp [execOp,e,R],rfl⟩⟩
 case entry x=>
  cases hc;obtain⟨a,rfl,C⟩:=E.one;cases a<;>cases D
 case next x b=>
  cases b with
  |false=>
   cases hc;obtain⟨a,rfl,C⟩:=E.one;exact De r C D
  |true=>
   cases hc;obtain⟨a,rfl,C⟩:=E.one;exact Dd r C D
 case call c=>
  obtain⟨callee,args,argTypes⟩:=c;simp only [bT]at hc;cases callee with
  |value x=>cases x<;>first|(cases hc;done)|(rename_i v;cases v<;>first|(cases hc;done)|(rename_i f _ _;cases f<;>cases hc))
  |invoke r m=>cases hc
  |builtin b=>
   obtain⟨t,h1,h2⟩:=bQ.1 hc;obtain⟨d,B,j⟩:=bQ.1 h2;have J:argTypes[0]? =some t:=by rw [dS]at h1;simpa using h1
   cases b
   case len=>
    cases d<;>cases j
   case append=>
    cases d with
    |slice e=>
     obtain⟨n,W,A⟩:=bQ.1 j;obtain⟨i,k2,F⟩:=bQ.1 A;obtain⟨z,k3,U⟩:=bQ.1 F;obtain⟨Q,a4⟩:=bW.1 U;obtain⟨u,k5,a5⟩:=bQ.1 a4;obtain⟨du,k6,a6⟩:=bQ.1 a5;have G:argTypes[1]? =some u:=by rw [dS]at k5;simpa using k5
     simp only [Bool.and_eq_true,Nat.blt_eq,Nat.beq_eq,cq]at Q
     split at a6
     ·cases a6
      exact tQ K r hE J B W k2 k3 Q.1 Q.2.1 Q.2.2 G k6 (.inl ⟨_,rfl,rfl⟩) E D
     ·cases a6
      exact tQ K r hE J B W k2 k3 Q.1 Q.2.1 Q.2.2 G k6 (.inr ⟨rfl,rfl⟩) E D
     ·cases a6
    |_=>cases j
   case copy=>
    cases d with
    |slice e=>
     obtain⟨n,W,A⟩:=bQ.1 j;cases A;exact Fb K r hE J B W E D
    |_=>cases j
   case clear=>
    cases d with
    |slice e=>
     obtain⟨n,W,A⟩:=bQ.1 j;obtain⟨z,k2,F⟩:=bQ.1 A;cases F;exact Dh K r J B k2 E D
    |_=>cases j
   case delete=>
    cases d with
    |map k e=>
     obtain⟨kk,W,A⟩:=bQ.1 j;cases A;exact Aq K r J B W E D
    |_=>cases j
   all_goals (cases d<;>cases j)
 case alloc t=>
  simp only [bT]at hc;obtain⟨z,h1,h⟩:=bQ.1 hc;cases h
 case buildSlice t n ps=>
  simp only [bT]at hc;obtain⟨d,_,h⟩:=bQ.1 hc;cases d with
  |slice e=>
   obtain⟨_,_,A⟩:=bQ.1 h;obtain⟨_,_,F⟩:=bQ.1 A;obtain⟨_,U⟩:=bW.1 F;cases U
  |_=>cases h
 case makeMap t r=>
  simp only [bT]at hc;obtain⟨d,_,h⟩:=bQ.1 hc;cases d<;>cases h
 case makeSlice t l c=>
  simp only [bT]at hc;obtain⟨d,_,h⟩:=bQ.1 hc;cases d with
  |slice e=>
   obtain⟨_,_,A⟩:=bQ.1 h;obtain⟨_,_,F⟩:=bQ.1 A;obtain⟨_,_,U⟩:=bQ.1 F;obtain⟨_,a4⟩:=bW.1 U;cases a4
  |_=>cases h
 case range t x=>
  simp only [bT]at hc;obtain⟨d,h1,h⟩:=bQ.1 hc;cases d<;>cases h;obtain⟨a,rfl,C⟩:=E.one;exact Ao K r h1 C D
 case load t x=>
  simp only [bT]at hc;obtain⟨b,h1,h2⟩:=bQ.1 hc;obtain⟨n,B,j⟩:=bQ.1 h2;cases j
 case lookup t x k ok=>
  simp only [bT]at hc;obtain⟨d,h1,h2⟩:=bQ.1 hc;cases d with
  |map kt e=>
   obtain⟨kk,B,j⟩:=bQ.1 h2;obtain⟨z,G,M⟩:=bQ.1 j;cases M
  |_=>cases h2
 case binOp op t x y t'=>
  have Z:∀{neg Y:Bool} {d:TypeDesc},tM T t neg Y d=some (.e eo)->False:=by
   intro neg Y d h2;cases d with
   |interface e=>obtain⟨j,G⟩:=bW.1 h2;cases G
   |pointer e=>obtain⟨k,j,G⟩:=bQ.1 h2;cases G
   |struct fs=>obtain⟨k,j,G⟩:=bQ.1 h2;cases G
   |_=>cases h2
  cases op
  case eql=>
   simp only [bT]at hc;obtain⟨d,h1,h2⟩:=bQ.1 hc;obtain⟨c,B,j⟩:=bQ.1 h2;cases j;exact(Z (neg:=false) B).elim
  case neq=>
   simp only [bT]at hc;obtain⟨d,h1,h2⟩:=bQ.1 hc;obtain⟨c,B,j⟩:=bQ.1 h2;cases j;exact(Z (neg:=true) B).elim
  all_goals cases hc
 case build t ps=>
  simp only [bT]at hc;obtain⟨z,h1,h2⟩:=bQ.1 hc;obtain⟨d,B,j⟩:=bQ.1 h2;cases d with
  |struct fs=>
   obtain⟨pl,G,M⟩:=bQ.1 j;obtain⟨l,h7,h8⟩:=bQ.1 M;cases h8
  |array k e=>
   obtain⟨n,G,M⟩:=bQ.1 j;cases M
  |_=>cases j
 case convert s d x=>
  simp only [bT]at hc;obtain⟨a,h1,h2⟩:=bQ.1 hc;obtain⟨b,B,j⟩:=bQ.1 h2;cases a<;>cases b<;>first|(cases j;done)|(cases(gF j).1)
 case makeInterface t x=>
  simp only [bT]at hc;obtain⟨d,h1,h2⟩:=bQ.1 hc;cases d<;>cases h2
 case makeFunc fn a b=>cases fn<;>cases hc
 case slice t x lo hi mx=>
  simp only [bT]at hc;obtain⟨d,_,h⟩:=bQ.1 hc;cases d with
  |string=>cases h
  |slice e=>obtain⟨_,_,A⟩:=bQ.1 h;cases A
  |array k e=>obtain⟨_,_,A⟩:=bQ.1 h;cases A
  |_=>cases h
 case fieldAddr t x i=>
  simp only [bT]at hc;obtain⟨d,_,h⟩:=bQ.1 hc;cases d with
  |struct fs=>
   obtain⟨_,_,A⟩:=bQ.1 h;obtain⟨_,_,F⟩:=bQ.1 A;cases F
  |_=>cases h
 case field t x i=>
  simp only [bT]at hc;obtain⟨d,_,h⟩:=bQ.1 hc;cases d with
  |struct fs=>
   obtain⟨_,_,A⟩:=bQ.1 h;obtain⟨_,_,F⟩:=bQ.1 A;obtain⟨_,_,U⟩:=bQ.1 F;cases U
  |_=>cases h
 case indexAddr t x i=>
  simp only [bT]at hc;obtain⟨d,_,h⟩:=bQ.1 hc;cases d with
  |slice e=>obtain⟨_,_,A⟩:=bQ.1 h;cases A
  |array k e=>obtain⟨_,_,A⟩:=bQ.1 h;cases A
  |_=>cases h
 case index t x i=>
  simp only [bT]at hc;obtain⟨d,_,h⟩:=bQ.1 hc;cases d with
  |string=>cases h
  |array k e=>
   obtain⟨_,_,A⟩:=bQ.1 h;obtain⟨_,_,F⟩:=bQ.1 A;cases F
  |_=>cases h
 all_goals cases hc
end
end
section
variable [Env]
set_option linter.unusedSectionVars false
section
variable {P:Program} {T:Ty}
def fen(r:Option Nat):Fence:={Fence.wide with round:=r}
structure jg(T:Ty)(g:G)(h:H)(w:World):Prop where
 pin:∀p,p∈T.pin->(∃z,g p.1=some (p.2.1,0,z))/\h.blk p.1=some (.ro p.2.2.1 p.2.2.2)
 env:lF g w
theorem jg.ext{T:Ty}{g g':G}{h h':H}{w w':World}(k:jg T g h w)(x:Ext T g h w g' h' w'):jg T g' h' w':=⟨λp hp=>by
 obtain⟨⟨z,hz⟩,hb⟩:=k.pin p hp;exact⟨⟨z,x.le _ _ hz⟩,(x.ro _ _ _ _ _ _ hz hb).1⟩,k.env.ext x⟩
def uz(T:Ty)(g:G)(h:H)(w:World)(v:V)(h':H)(e:Ending)(w':World):Prop:=∃g' u,e= .returned u/\VR g' v u/\Ext T g h w g' h' w'
def nM(P:Program)(T:Ty)(f:FuncId)(us:List Value)(g:G)(h:H)(w:World)(v:V)(h':H):Prop:=
 ∃fn,P.funcs[f]? =some fn/\fn.name≠ "runtime.NumGoroutine"/\fn.body.isNone=false/\CallsIn Fence.wide 0 P f us.toArray w (uz T g h w v h')
def B8(P:Program)(T:Ty)(id:Nat)(us:List Value)(g:G)(h:H)(w:World)(v:V)(h':H):Prop:=
 ∀b o z,g id=some (b,o,z)->∃(l:Loop) (tmps:Array Value),(Instr.yield b us.toArray).run P w= .ok (.round b l.fn tmps l.assign l.body) w/\RoundIn Fence.wide 0 P b l.fn tmps l.assign l.body w (uz T g h w v h')
structure fA(P:Program)(T:Ty)(call:cN):Prop where
 fn:∀f vs h v h',call (.fn f) vs h=some (v,h')->∀g w us,WR T g h w->jg T g h w->VRs g vs us->nM P T f us g h w v h'
 yld:∀id vs h v h',call (.yld id) vs h=some (v,h')->∀g w us,WR T g h w->jg T g h w->VRs g vs us->B8 P T id us g h w v h'
theorem xK{r:Option Nat}{l:Nat}{f:FuncId}{tmps:Array Value}{a b:Code}{w:World}{R:Ending->World->Prop}(h:RoundIn Fence.wide 0 P l f tmps a b w R):RoundIn (fen r) 0 P l f tmps a b w R:=h
theorem jN{r:Option Nat}{f:FuncId}{us:Array Value}{w:World}{R:Ending->World->Prop}(h:CallsIn Fence.wide 0 P f us w R):CallsIn (fen r) 0 P f us w R:=h
theorem kc(r:Option Nat):(fen r).depth.isSome=true->1<=0:=λh=>by cases h
theorem fQ{o:Op}{c:COp}{os:List Operand}(h:bT T o=some (c,os)):∀k,o≠.defer k:=by
 intro k e;subst e;cases h
theorem rv{op:Op}{f:FuncId}{os:List Operand}(hc:bT T op=some (.call f,os)):∃args at',op= .call ⟨.value (.func f),args,at'⟩/\os=args.toList:=by
 cases op
 case call c=>
  obtain⟨callee,args,argTypes⟩:=c;simp only [bT]at hc;cases callee with
  |value x=>
   cases x with
   |func f'=>cases hc;exact⟨args,argTypes,rfl,rfl⟩
   |_=>cases hc
  |invoke r m=>cases hc
  |builtin b=>
   obtain⟨t,h1,h2⟩:=bQ.1 hc;obtain⟨d,p,j⟩:=bQ.1 h2;cases b
   case len=>cases d<;>cases j
   case append=>
    cases d with
    |slice e=>
     obtain⟨n,_,g⟩:=bQ.1 j;obtain⟨_,_,o⟩:=bQ.1 g;obtain⟨_,_,u⟩:=bQ.1 o;obtain⟨_,a4⟩:=bW.1 u;obtain⟨_,_,E⟩:=bQ.1 a4;obtain⟨_,_,B⟩:=bQ.1 E
     split at B<;>cases B
    |_=>cases j
   case copy=>
    cases d with
    |slice e=>obtain⟨n,C,g⟩:=bQ.1 j;cases g
    |_=>cases j
   case clear=>
    cases d with
    |slice e=>
     obtain⟨n,C,g⟩:=bQ.1 j;obtain⟨z,G,o⟩:=bQ.1 g;cases o
    |_=>cases j
   case delete=>
    cases d with
    |map k e=>obtain⟨kk,C,g⟩:=bQ.1 j;cases g
    |_=>cases j
   all_goals (cases d<;>cases j)
 case alloc t=>
  simp only [bT]at hc;obtain⟨z,h1,h⟩:=bQ.1 hc;cases h
 case buildSlice t n ps=>
  simp only [bT]at hc;obtain⟨d,_,h⟩:=bQ.1 hc;cases d with
  |slice e=>
   obtain⟨_,_,g⟩:=bQ.1 h;obtain⟨_,_,o⟩:=bQ.1 g;obtain⟨_,u⟩:=bW.1 o;cases u
  |_=>cases h
 case makeMap t r=>
  simp only [bT]at hc;obtain⟨d,_,h⟩:=bQ.1 hc;cases d<;>cases h
 case makeSlice t l c=>
  simp only [bT]at hc;obtain⟨d,_,h⟩:=bQ.1 hc;cases d with
  |slice e=>
   obtain⟨_,_,g⟩:=bQ.1 h;obtain⟨_,_,o⟩:=bQ.1 g;obtain⟨_,_,u⟩:=bQ.1 o;obtain⟨_,a4⟩:=bW.1 u;cases a4
  |_=>cases h
 case range t x=>
  simp only [bT]at hc;obtain⟨d,_,h⟩:=bQ.1 hc;cases d<;>cases h
 case load t x=>
  simp only [bT]at hc;obtain⟨b,h1,h2⟩:=bQ.1 hc;obtain⟨n,p,j⟩:=bQ.1 h2;cases j
 case lookup t x k ok=>
  simp only [bT]at hc;obtain⟨d,h1,h2⟩:=bQ.1 hc;cases d with
  |map kt e=>
   obtain⟨kk,p,j⟩:=bQ.1 h2;obtain⟨z,q,v⟩:=bQ.1 j;cases v
  |_=>cases h2
 case binOp op t x y t'=>
  have A:∀{neg w:Bool} {d:TypeDesc},tM T t neg w d=some (.call f)->False:=by
   intro neg w d h2;cases d with
   |interface e=>obtain⟨j,q⟩:=bW.1 h2;cases q
   |pointer e=>obtain⟨k,j,q⟩:=bQ.1 h2;cases q
   |struct fs=>obtain⟨k,j,q⟩:=bQ.1 h2;cases q
   |_=>cases h2
  cases op
  case eql=>
   simp only [bT]at hc;obtain⟨d,h1,h2⟩:=bQ.1 hc;obtain⟨c,p,j⟩:=bQ.1 h2;cases j;exact(A (neg:=false) p).elim
  case neq=>
   simp only [bT]at hc;obtain⟨d,h1,h2⟩:=bQ.1 hc;obtain⟨c,p,j⟩:=bQ.1 h2;cases j;exact(A (neg:=true) p).elim
  all_goals cases hc
 case build t ps=>
  simp only [bT]at hc;obtain⟨z,h1,h2⟩:=bQ.1 hc;obtain⟨d,p,j⟩:=bQ.1 h2;cases d with
  |struct fs=>
   obtain⟨I,q,v⟩:=bQ.1 j;obtain⟨l,F,D⟩:=bQ.1 v;cases D
  |array k e=>
   obtain⟨n,q,v⟩:=bQ.1 j;cases v
  |_=>cases j
 case convert s d x=>
  simp only [bT]at hc;obtain⟨a,h1,h2⟩:=bQ.1 hc;obtain⟨b,p,j⟩:=bQ.1 h2;cases a<;>cases b<;>first|(cases j;done)|(cases(gF j).1)
 case makeInterface t x=>
  simp only [bT]at hc;obtain⟨d,h1,h2⟩:=bQ.1 hc;cases d<;>cases h2
 case makeFunc fn a b=>cases fn<;>cases hc
 case slice t x lo hi mx=>
  simp only [bT]at hc;obtain⟨d,_,h⟩:=bQ.1 hc;cases d with
  |string=>cases h
  |slice e=>obtain⟨_,_,g⟩:=bQ.1 h;cases g
  |array k e=>obtain⟨_,_,g⟩:=bQ.1 h;cases g
  |_=>cases h
 case fieldAddr t x i=>
  simp only [bT]at hc;obtain⟨d,_,h⟩:=bQ.1 hc;cases d with
  |struct fs=>
   obtain⟨_,_,g⟩:=bQ.1 h;obtain⟨_,_,o⟩:=bQ.1 g;cases o
  |_=>cases h
 case field t x i=>
  simp only [bT]at hc;obtain⟨d,_,h⟩:=bQ.1 hc;cases d with
  |struct fs=>
   obtain⟨_,_,g⟩:=bQ.1 h;obtain⟨_,_,o⟩:=bQ.1 g;obtain⟨_,_,u⟩:=bQ.1 o;cases u
  |_=>cases h
 case indexAddr t x i=>
  simp only [bT]at hc;obtain⟨d,_,h⟩:=bQ.1 hc;cases d with
  |slice e=>obtain⟨_,_,g⟩:=bQ.1 h;cases g
  |array k e=>obtain⟨_,_,g⟩:=bQ.1 h;cases g
  |_=>cases h
 case index t x i=>
  simp only [bT]at hc;obtain⟨d,_,h⟩:=bQ.1 hc;cases d with
  |string=>cases h
  |array k e=>
   obtain⟨_,_,g⟩:=bQ.1 h;obtain⟨_,_,o⟩:=bQ.1 g;cases o
  |_=>cases h
 case insert t m k x=>
  simp only [bT]at hc;obtain⟨d,_,h⟩:=bQ.1 hc;cases d with
  |map k e=>
   obtain⟨_,_,g⟩:=bQ.1 h;cases g
  |_=>cases h
 case mapEntry t m k=>
  simp only [bT]at hc;obtain⟨d,_,h⟩:=bQ.1 hc;cases d with
  |map k e=>
   obtain⟨_,_,g⟩:=bQ.1 h;obtain⟨_,_,o⟩:=bQ.1 g;cases o
  |_=>cases h
 case mapUpdate t m k x=>
  simp only [bT]at hc;obtain⟨d,_,h⟩:=bQ.1 hc;cases d with
  |map k e=>
   obtain⟨_,_,g⟩:=bQ.1 h;cases g
  |_=>cases h
 case store t a x=>
  simp only [bT]at hc;obtain⟨_,_,g⟩:=bQ.1 hc;cases g
 case next x b=>cases b<;>cases hc
 all_goals cases hc
theorem pT{op:Op}{os:List Operand}(hc:bT T op=some (.callv,os)):∃x args at',op= .call ⟨.value x,args,at'⟩/\os=x ::args.toList:=by
 cases op
 case call c=>
  obtain⟨callee,args,argTypes⟩:=c;simp only [bT]at hc;cases callee with
  |value x=>
   cases x with
   |func f'=>cases hc
   |_=>cases hc;exact⟨_,args,argTypes,rfl,rfl⟩
  |invoke r m=>cases hc
  |builtin b=>
   obtain⟨t,h1,h2⟩:=bQ.1 hc;obtain⟨d,o,g⟩:=bQ.1 h2;cases b
   case len=>cases d<;>cases g
   case append=>
    cases d with
    |slice e=>
     obtain⟨n,_,f⟩:=bQ.1 g;obtain⟨_,_,j⟩:=bQ.1 f;obtain⟨_,_,q⟩:=bQ.1 j;obtain⟨_,a4⟩:=bW.1 q;obtain⟨_,_,D⟩:=bQ.1 a4;obtain⟨_,_,A⟩:=bQ.1 D
     split at A<;>cases A
    |_=>cases g
   case copy=>
    cases d with
    |slice e=>obtain⟨n,B,f⟩:=bQ.1 g;cases f
    |_=>cases g
   case clear=>
    cases d with
    |slice e=>
     obtain⟨n,B,f⟩:=bQ.1 g;obtain⟨z,F,j⟩:=bQ.1 f;cases j
    |_=>cases g
   case delete=>
    cases d with
    |map k e=>obtain⟨kk,B,f⟩:=bQ.1 g;cases f
    |_=>cases g
   all_goals (cases d<;>cases g)
 case alloc t=>
  simp only [bT]at hc;obtain⟨z,h1,h⟩:=bQ.1 hc;cases h
 case buildSlice t n ps=>
  simp only [bT]at hc;obtain⟨d,_,h⟩:=bQ.1 hc;cases d with
  |slice e=>
   obtain⟨_,_,f⟩:=bQ.1 h;obtain⟨_,_,j⟩:=bQ.1 f;obtain⟨_,q⟩:=bW.1 j;cases q
  |_=>cases h
 case makeMap t r=>
  simp only [bT]at hc;obtain⟨d,_,h⟩:=bQ.1 hc;cases d<;>cases h
 case makeSlice t l c=>
  simp only [bT]at hc;obtain⟨d,_,h⟩:=bQ.1 hc;cases d with
  |slice e=>
   obtain⟨_,_,f⟩:=bQ.1 h;obtain⟨_,_,j⟩:=bQ.1 f;obtain⟨_,_,q⟩:=bQ.1 j;obtain⟨_,a4⟩:=bW.1 q;cases a4
  |_=>cases h
 case range t x=>
  simp only [bT]at hc;obtain⟨d,_,h⟩:=bQ.1 hc;cases d<;>cases h
 case load t x=>
  simp only [bT]at hc;obtain⟨b,h1,h2⟩:=bQ.1 hc;obtain⟨n,o,g⟩:=bQ.1 h2;cases g
 case lookup t x k ok=>
  simp only [bT]at hc;obtain⟨d,h1,h2⟩:=bQ.1 hc;cases d with
  |map kt e=>
   obtain⟨kk,o,g⟩:=bQ.1 h2;obtain⟨z,p,u⟩:=bQ.1 g;cases u
  |_=>cases h2
 case binOp op t x y t'=>
  have w:∀{neg v:Bool} {d:TypeDesc},tM T t neg v d=some (.callv)->False:=by
   intro neg v d h2;cases d with
   |interface e=>obtain⟨g,p⟩:=bW.1 h2;cases p
   |pointer e=>obtain⟨k,g,p⟩:=bQ.1 h2;cases p
   |struct fs=>obtain⟨k,g,p⟩:=bQ.1 h2;cases p
   |_=>cases h2
  cases op
  case eql=>
   simp only [bT]at hc;obtain⟨d,h1,h2⟩:=bQ.1 hc;obtain⟨c,o,g⟩:=bQ.1 h2;cases g;exact(w (neg:=false) o).elim
  case neq=>
   simp only [bT]at hc;obtain⟨d,h1,h2⟩:=bQ.1 hc;obtain⟨c,o,g⟩:=bQ.1 h2;cases g;exact(w (neg:=true) o).elim
  all_goals cases hc
 case build t ps=>
  simp only [bT]at hc;obtain⟨z,h1,h2⟩:=bQ.1 hc;obtain⟨d,o,g⟩:=bQ.1 h2;cases d with
  |struct fs=>
   obtain⟨G,p,u⟩:=bQ.1 g;obtain⟨l,E,C⟩:=bQ.1 u;cases C
  |array k e=>
   obtain⟨n,p,u⟩:=bQ.1 g;cases u
  |_=>cases g
 case convert s d x=>
  simp only [bT]at hc;obtain⟨a,h1,h2⟩:=bQ.1 hc;obtain⟨b,o,g⟩:=bQ.1 h2;cases a<;>cases b<;>first|(cases g;done)|(cases(gF g).1)
 case makeInterface t x=>
  simp only [bT]at hc;obtain⟨d,h1,h2⟩:=bQ.1 hc;cases d<;>cases h2
 case makeFunc fn a b=>cases fn<;>cases hc
 case slice t x lo hi mx=>
  simp only [bT]at hc;obtain⟨d,_,h⟩:=bQ.1 hc;cases d with
  |string=>cases h
  |slice e=>obtain⟨_,_,f⟩:=bQ.1 h;cases f
  |array k e=>obtain⟨_,_,f⟩:=bQ.1 h;cases f
  |_=>cases h
 case fieldAddr t x i=>
  simp only [bT]at hc;obtain⟨d,_,h⟩:=bQ.1 hc;cases d with
  |struct fs=>
   obtain⟨_,_,f⟩:=bQ.1 h;obtain⟨_,_,j⟩:=bQ.1 f;cases j
  |_=>cases h
 case field t x i=>
  simp only [bT]at hc;obtain⟨d,_,h⟩:=bQ.1 hc;cases d with
  |struct fs=>
   obtain⟨_,_,f⟩:=bQ.1 h;obtain⟨_,_,j⟩:=bQ.1 f;obtain⟨_,_,q⟩:=bQ.1 j;cases q
  |_=>cases h
 case indexAddr t x i=>
  simp only [bT]at hc;obtain⟨d,_,h⟩:=bQ.1 hc;cases d with
  |slice e=>obtain⟨_,_,f⟩:=bQ.1 h;cases f
  |array k e=>obtain⟨_,_,f⟩:=bQ.1 h;cases f
  |_=>cases h
 case index t x i=>
  simp only [bT]at hc;obtain⟨d,_,h⟩:=bQ.1 hc;cases d with
  |string=>cases h
  |array k e=>
   obtain⟨_,_,f⟩:=bQ.1 h;obtain⟨_,_,j⟩:=bQ.1 f;cases j
  |_=>cases h
 case insert t m k x=>
  simp only [bT]at hc;obtain⟨d,_,h⟩:=bQ.1 hc;cases d with
  |map k e=>
   obtain⟨_,_,f⟩:=bQ.1 h;cases f
  |_=>cases h
 case mapEntry t m k=>
  simp only [bT]at hc;obtain⟨d,_,h⟩:=bQ.1 hc;cases d with
  |map k e=>
   obtain⟨_,_,f⟩:=bQ.1 h;obtain⟨_,_,j⟩:=bQ.1 f;cases j
  |_=>cases h
 case mapUpdate t m k x=>
  simp only [bT]at hc;obtain⟨d,_,h⟩:=bQ.1 hc;cases d with
  |map k e=>
   obtain⟨_,_,f⟩:=bQ.1 h;cases f
  |_=>cases h
 case store t a x=>
  simp only [bT]at hc;obtain⟨_,_,f⟩:=bQ.1 hc;cases f
 case next x b=>cases b<;>cases hc
 all_goals cases hc
theorem AE{call:cN}(t:fA P T call){g:G}{h h':H}{w:World}(r:WR T g h w)(q:jg T g h w){k:V}{vs:List V}{A:Value}{us:List Value}{v:V}(p:VR g k A)(s:VRs g vs us)(i:nV call (k ::vs) h=some (v,h')):
  ∃d,(∀w,(Deferred.ofValue A us.toArray).run P w= .ok d w)/\((∃(f:FuncId) (c:Array Value),(∀w,(invoke d.target d.args).run P w= .ok (.enter f c) w)/\CallsIn Fence.wide 0 P f c w (uz T g h w v h'))\/
   ∃(b:Nat) (l:Loop) (tmps:Array Value),(invoke d.target d.args).run P w= .ok (.round b l.fn tmps l.assign l.body) w/\RoundIn Fence.wide 0 P b l.fn tmps l.assign l.body w (uz T g h w v h')):=by
 cases k with
 |func fn first captured=>
  cases fn<;>first|(cases i;done)|skip
  rename_i f
  have a:call (.fn f) (first++(vs++captured)) h=some (v,h'):=i;cases p with
  |func ha m=>
   rename_i x y
   obtain⟨fn,n,j,u,B⟩:=t.fn _ _ _ _ _ a g w _ r q (ha.append (s.append m));refine⟨⟨.fn (.func f) y.toArray,x.toArray++us.toArray⟩,λw=>by simp [Deferred.ofValue],.inl ⟨f,(x++(us++y)).toArray,λw=>?_,B⟩⟩;have C:x.toArray++us.toArray++y.toArray=(x++(us++y)).toArray:=by simp
   simp only [invoke,C];have m:¬fn.body=none:=λe=>by rw [e]at u;cases u
   simp [callFunc,n,j,m]
 |yld id=>
  have a:call (.yld id) vs h=some (v,h'):=i;cases p with
  |yld hg=>
   rename_i b o z
   obtain⟨l,tmps,n,j⟩:=t.yld _ _ _ _ _ a g w _ r q s b o z hg;refine⟨⟨.fn (.yield b) #[],#[]++us.toArray⟩,λw=>by simp [Deferred.ofValue],.inr ⟨b,l,tmps,?_,j⟩⟩;simp only [invoke]
   simpa using n
 |_=>cases i
theorem AF{call:cN}(u:fA P T call){g:G}{h h':H}{w:World}(r:WR T g h w)(p:jg T g h w){b:V}{vs:List V}{m:Value}{us:List Value}{v:V}(i:Ab b=true)(n:VR g b m)(s:VRs g vs us)(k:nV call (b ::vs) h=some (v,h')):
  ∃d,(∀w,(Deferred.ofValue m us.toArray).run P w= .ok d w)/\∃(f:FuncId) (a:Array Value),(∀w,(invoke d.target d.args).run P w= .ok (.enter f a) w)/\CallsIn Fence.wide 0 P f a w (uz T g h w v h'):=by
 cases b with
 |func fn first captured=>
  cases fn<;>first|(cases k;done)|skip
  rename_i f
  have c:call (.fn f) (first++(vs++captured)) h=some (v,h'):=k;cases n with
  |func ha j=>
   rename_i x y
   obtain⟨fn,z,t,l,o⟩:=u.fn _ _ _ _ _ c g w _ r p (ha.append (s.append j));refine⟨⟨.fn (.func f) y.toArray,x.toArray++us.toArray⟩,λw=>by simp [Deferred.ofValue],f,(x++(us++y)).toArray,λw=>?_,o⟩;have q:x.toArray++us.toArray++y.toArray=(x++(us++y)).toArray:=by simp
   simp only [invoke,q];have j:¬fn.body=none:=λe=>by rw [e]at l;cases l
   simp [callFunc,z,t,j]
 |_=>cases i
theorem mz(M:da P T){call:cN}(W:fA P T call){g:G}{h h':H}{w:World}(r:WR T g h w)(J:jg T g h w){o:Oper}{c:COp}{os:List Operand}{a:Act}(hc:bT T o.op=some (c,os)){vs:List V}{v:V}(m:VRs g vs (os.map a.eval))
  (A:c.run call vs h=some (v,h')) {rd:Option Nat} {K:Act->World->Prop} {Q:Exit->Act->World->Prop} (n:∀g' w' u,Ext T g h w g' h' w'->VR g' v u->K (a.put o.dst u) w'):o.wpIn (fen rd) 0 P a w K Q:=by
 refine⟨λ_ _=>trivial,?_⟩;rw [Oper.semAt_eq _ _ _ (fQ hc)];cases c with
 |p po=>
  obtain⟨u,B,D⟩:=bQ.1 (show ob (po.run vs) (λv=>some (v,h))=some (v,h')from A);cases D;obtain⟨x,k,s⟩:=LX M hc m B;rw [s w o rfl,Oper.uponIn_value];exact n g w x (.refl r) k
 |r ro=>
  obtain⟨u,B,D⟩:=bQ.1 (show ob (ro.run vs h) (λv=>some (v,h))=some (v,h')from A);cases D;obtain⟨x,k,s⟩:=LW M r J.env hc m B;rw [s o rfl,Oper.uponIn_value];exact n g w x (.refl r) k
 |a ao=>
  obtain⟨p,B,D⟩:=bQ.1 (show ob (ao.run vs) (λr=>ob (h.new r.1) λh'=>some (r.2 h.next,h'))=some (v,h')from A);obtain⟨h1,e3,e4⟩:=bQ.1 D;cases e4;obtain⟨blk,mk⟩:=p;have hm:=FU (P:=P) M hc m B;obtain⟨O,z,val,E,F,m3⟩:=hm.make;have t:g h.next=none:=by
   cases e:g h.next with
   |none=>rfl
   |some x=>exact absurd (r.dom _ _ e) (by omega)
  have I:=fO (g:=g) (w.heap.size,0,z) t;rw [E w o rfl,Oper.uponIn_value];exact n _ _ _ (Ext.new r e3 hm.kin (m3 _ _ _ _ I (cH _ _ _) (dt w O))) (F _ _ _ I (cH _ _ _))
 |e eo=>
  obtain⟨g',w',u,Y,S,x3⟩:=LY M r J.env hc m A;rcases x3 o rfl with x4 | ⟨x4,y⟩
  ·rw [x4,Oper.uponIn_value]
   exact n g' w' u Y S
  ·subst y
   rw [x4,Oper.uponIn_skip];exact n g' w' undef Y S
 |call f=>
  have q:call (.fn f) vs h=some (v,h'):=A;obtain⟨args,j,L,ho⟩:∃args j,o.op= .call ⟨.value (.func f),args,j⟩/\os=args.toList:=by
   exact rv hc
  subst ho;obtain⟨fn,k,s,Z,U⟩:=W.fn _ _ _ _ _ q g w _ r J m;have i:(execOp a.eval o).run P w= .ok (.enter f (args.map a.eval)) w:=by
   have hb:¬fn.body=none:=λe=>by rw [e]at Z;cases Z
   simp [execOp,L,resolve,Act.eval,Deferred.ofValue,invoke,callFunc,k,s,hb]
  have R:(args.toList.map a.eval).toArray=args.map a.eval:=by apply Array.ext';simp
  rw [R]at U;rw [i,Oper.uponIn_enter];refine⟨kc rd,jN (U.mono ?_)⟩;rintro e w' ⟨g',u,rfl,y,C⟩;exact n g' w' u C y
 |callv=>
  obtain⟨x,args,j,L,ho⟩:∃x args j,o.op= .call ⟨.value x,args,j⟩/\os=x ::args.toList:=by
   exact pT hc
  subst ho;cases m with
  |cons hf m=>
   rename_i fv vs
   have q:nV call (fv ::vs) h=some (v,h'):=A;obtain⟨d,k,s⟩:=AE W r J hf m q;have R:(args.toList.map a.eval).toArray=args.map a.eval:=by apply Array.ext';simp
   rw [R]at k;rcases s with⟨f,us',E,F⟩ | ⟨b,l,tmps,E,F⟩
   ·have i:(execOp a.eval o).run P w= .ok (.enter f us') w:=by
     simp [execOp,L,resolve,k,E]
    rw [i,Oper.uponIn_enter];refine⟨kc rd,jN (F.mono ?_)⟩;rintro e w' ⟨g',u,rfl,y,C⟩;exact n g' w' u C y
   ·have i:(execOp a.eval o).run P w= .ok (.round b l.fn tmps l.assign l.body) w:=by
     simp [execOp,L,resolve,k,E]
    rw [i,Oper.uponIn_round];refine⟨kc rd,xK (F.mono ?_)⟩;rintro e w' ⟨g',u,rfl,y,C⟩;exact n g' w' u C y
end
end
section
variable [Env]
set_option linter.unusedSectionVars false
section
variable {P:Program} {T:Ty} {m N:Nat}
theorem dJ(p:Nat×V)(l:AL)(t:Nat):lk (p ::l) t=if p.1=t then some p.2 else lk l t:=by
 show Bool.rec (motive:=λ_=>Option V) (lk l t) (some p.2) (Nat.beq p.1 t)=_;simp only [cO,Nat.beq_eq]
theorem sv(p:Nat×V)(l:AL)(t:Nat)(v:V):upd (p ::l) t v=if p.1=t then(t,v) ::l else p ::upd l t v:=by
 show Bool.rec (motive:=λ_=>AL) (p ::upd l t v) ((t,v) ::l) (Nat.beq p.1 t)=_;simp only [cO,Nat.beq_eq]
theorem oL(l:AL)(t:Nat)(v:V)(s:Nat):lk (upd l t v) s=if s=t then some v else lk l s:=by
 induction l with
 |nil=>
  show lk [(t,v)] s=_;rw [dJ]
  by_cases h:t=s
  ·simp [h]
  ·rw [if_neg h,if_neg (λe=>h e.symm)]
 |cons p l ih=>
  rw [sv]
  by_cases h:p.1=t
  ·rw [if_pos h,dJ,dJ]
   by_cases h2:t=s
   ·simp [h2]
   ·rw [if_neg h2,if_neg (λe=>h2 e.symm),if_neg (by omega)]
  ·rw [if_neg h,dJ,dJ,ih]
   by_cases h2:p.1=s
   ·rw [if_pos h2,if_neg (by omega),if_pos h2]
   ·rw [if_neg h2,if_neg h2]
theorem vR{o:Option Tmp}{d:Dst}(hd:dst m N o=some d)(f:F)(v:V)(s:Nat):rdn m (d.put f v) s=if o=some s then some v else rdn m f s:=by
 cases o with
 |none=>cases hd;simp [Dst.put]
 |some t=>
  obtain⟨h1,h2⟩:=bW.1 (show oif (Nat.blt t N) (some (Bool.rec (motive:=λ_=>Dst) (.t t) (.l t) (bit m t)))=some d from hd);cases h2;cases a:bit m t with
  |true=>
   show rdn m ⟨upd f.loc t v,f.tmp⟩ s=_;unfold rdn
   by_cases hs:bit m s=true
   ·rw [if_pos hs,if_pos hs,oL]
    by_cases e:s=t
    ·simp [e]
    ·rw [if_neg e,if_neg (λh=>e (Option.some.inj h).symm)]
   ·rw [if_neg hs,if_neg hs,if_neg]
    intro e;cases e;exact hs a
  |false=>
   show rdn m ⟨f.loc,(t,v) ::f.tmp⟩ s=_;unfold rdn
   by_cases hs:bit m s=true
   ·rw [if_pos hs,if_pos hs,if_neg]
    intro e;cases e;rw [a]at hs;cases hs
   ·rw [if_neg hs,if_neg hs,dJ]
    by_cases e:t=s
    ·simp [e]
    ·rw [if_neg e,if_neg (λh=>e (Option.some.inj h))]
theorem Ar{t:Tmp}{d:Dst}(hd:dst m N (some t)=some d):t<N:=by
 obtain⟨h1,_⟩:=bW.1 (show oif (Nat.blt t N) (some (Bool.rec (motive:=λ_=>Dst) (.t t) (.l t) (bit m t)))=some d from hd)
 simpa using h1
theorem kx(a:Act)(o:Option Tmp)(u:Value)(s:Nat):(a.put o u).tmps[s]? =if o=some s/\s<a.tmps.size then some u else a.tmps[s]? :=by
 cases o with
 |none=>simp [Act.put]
 |some t=>
  show(a.tmps.setIfInBounds t u)[s]? =_;rw [Array.getElem?_setIfInBounds]
  by_cases e:t=s
  ·subst e
   by_cases h:t<a.tmps.size
   ·simp [h]
   ·simp [h]
  ·simp [e]
theorem lY(a:Act)(o:Option Tmp)(u:Value):(a.put o u).tmps.size=a.tmps.size:=by
 cases o<;>simp [Act.put]
theorem dH(a:Act)(o:Option Tmp)(u:Value):(a.put o u).defers=a.defers:=by
 cases o<;>rfl
theorem FR.put{g:G}{f:F}{a:Act}{o:Option Tmp}{d:Dst}{v:V}{u:Value}(h:FR g m N f a.tmps)(hd:dst m N o=some d)(b:VR g v u):FR g m N (d.put f v) (a.put o u).tmps:=by
 refine⟨by rw [lY];exact h.1,λs x e=>?_⟩;rw [vR hd]at e;rw [kx]
 by_cases ho:o=some s
 ·rw [if_pos ho]at e
  cases e;subst ho;refine⟨u,?_,b⟩;rw [if_pos ⟨rfl,by rw [h.1];exact Ar hd⟩]
 ·rw [if_neg ho]at e
  rw [if_neg (λh=>ho h.1)];exact h.2 s x e
theorem vV{t:Nat}{od:Opd}(h:opd T m (.tmp t)=some od)(f:F):od.ev f=rdn m f t:=by
 cases h;show Opd.ev f (Bool.rec (motive:=λ_=>Opd) (.t t) (.l t) (bit m t))=_;unfold rdn;cases a:bit m t<;>rfl
theorem sS{g:G}{h0:H}{w0:World}(_:jg T g h0 w0){o:Operand}{od:Opd}{f:F}{a:Act}{v:V}(h:opd T m o=some od)(b:od.ev f=some v)(d:∀t,o= .tmp t->∀v,rdn m f t=some v->∃u,a.tmps[t]? =some u/\VR g v u):VR g v (a.eval o):=by
 cases o with
 |tmp t=>
  rw [vV h]at b;obtain⟨u,h1,h2⟩:=d t rfl v b
  simpa [Act.eval,Array.getD_eq_getD_getElem?,h1]using h2
 |const c=>
  obtain⟨x,h1,h2⟩:=bQ.1 (show ob (ofValue c) (λv=>some (Opd.c v))=some od from h);cases h2;cases b;exact sT h1
 |global i=>
  cases h
 |func i=>
  cases h;cases b;exact VR.func .nil .nil
theorem E8(f:F)(o:Opd)(l:List Opd):evs f (o ::l)=ob (o.ev f) λv=>ob (evs f l) λvs=>some (v ::vs):=rfl
theorem eZ{α β:Type}(f:α->Option β)(a:α)(l:List α):gU f (a ::l)=ob (f a) λb=>ob (gU f l) λr=>some (b ::r):=rfl
theorem kL{g:G}{h0:H}{w0:World}(hG:jg T g h0 w0){f:F}{a:Act}:∀{os:List Operand} {args:List Opd} {vs:List V},gU (opd T m) os=some args->evs f args=some vs->(∀t,.tmp t∈os->∀v,rdn m f t=some v->∃u,a.tmps[t]? =some u/\VR g v u)->
  VRs g vs (os.map a.eval)
 |[],args,vs,h,hv,_=>by
  cases h;cases hv;exact .nil
 |o ::os,args,vs,h,hv,hn=>by
  rw [eZ]at h;obtain⟨od,h1,h2⟩:=bQ.1 h;obtain⟨r,h3,h4⟩:=bQ.1 h2;cases h4;rw [E8]at hv;obtain⟨v,h5,h6⟩:=bQ.1 hv;obtain⟨ws,h7,h8⟩:=bQ.1 h6;cases h8;exact .cons (sS hG h1 h5 λt e=>hn t (by subst e;exact List.mem_cons_self)) (kL hG h3 h7 λt ht=>hn t (List.mem_cons_of_mem _ ht))
structure lE(T:Ty)(m N:Nat)(ops:Array Oper)(o:Oper)(co:cj):Prop where
 op:∃os,bT T o.op=some (co.op,os)/\gU (opd T m) os=some co.args
 dst:dst m N o.dst=some co.dst
 guard:(o.guard=none/\co.guard=none)\/∃i w t x,o.guard=some (i,w)/\EP ops i=some t/\opd T m (.tmp t)=some x/\co.guard=some (x,w)
theorem dM{ops:Array Oper}{o:Oper}{co:cj}(h:gh T m N ops o=some co):lE T m N ops o co:=by
 obtain⟨c,h1,h2⟩:=bQ.1 (show ob (bT T o.op) _=some co from h);obtain⟨args,f,l⟩:=bQ.1 h2;obtain⟨d,q,b⟩:=bQ.1 l;obtain⟨gd,a,g⟩:=bQ.1 b;cases g;refine⟨⟨c.2,h1,f⟩,q,?_⟩;cases hg:o.guard with
 |none=>rw [hg]at a;cases a;exact .inl ⟨rfl,rfl⟩
 |some p=>
  obtain⟨i,w⟩:=p;rw [hg]at a;obtain⟨t,n,e⟩:=bQ.1 a;obtain⟨x,j,k⟩:=bQ.1 e;cases k;exact .inr ⟨i,w,t,x,rfl,n,j,rfl⟩
theorem gf{g:G}{ops:Array Oper}{o:Oper}{co:cj}(j:lE T m N ops o co){f:F}{a:Act}{b:Bool}(hg:cm f co.guard=some b)
  (q:∀t,(∃i w,o.guard=some (i,w)/\EP ops i=some t)->∀v,rdn m f t=some v->∃u,a.tmps[t]? =some u/\VR g v u):Region.wanted o (yielded ops a.tmps)=b:=by
 rcases j.guard with⟨h1,h2⟩ | ⟨i,w,t,x,h1,h2,h3,h4⟩
 ·rw [h2]at hg
  cases hg;simp [Region.wanted,h1]
 ·rw [h4]at hg
  have hg:Hx (x.ev f) w=some b:=hg;rw [vV h3]at hg;have h:(ops[i]?).bind (·.dst)=some t:=h2;have p:∀u,a.tmps[t]? =some u->yielded ops a.tmps i=(match u with | .bool b=>some b | _=>none):=by
   intro u k;unfold yielded;rw [h];simp only [Option.bind_some,k];cases u<;>rfl
  cases e:rdn m f t with
  |none=>rw [e]at hg;cases hg
  |some v=>
   rw [e]at hg;obtain⟨u,n,d⟩:=q t ⟨i,w,h1,h2⟩ v e;unfold Region.wanted;rw [h1];simp only;rw [p u n];cases v with
   |bool c=>
    have hg:some (oQ c w)=some b:=hg;cases hg;rw [d.bool_inv,mN];simp
   |tup l=>
    cases l with
    |nil=>
     cases hg;cases d with
     |tup d=>cases d;rfl
    |cons=>cases hg
   |_=>cases hg
theorem xJ(call:cN)(o:cj)(l:List cj)(f:F)(h:H):sK call (o ::l) f h=ob (o.run call f h) λr=>sK call l r.1 r.2:=rfl
theorem qO{call:cN}{co:cj}{f:F}{h:H}{r:F×H}(e:co.run call f h=some r):
  (cm f co.guard=some false/\r=(co.dst.put f cT,h))\/∃vs v h',cm f co.guard=some true/\evs f co.args=some vs/\co.op.run call vs h=some (v,h')/\r=(co.dst.put f v,h'):=by
 obtain⟨b,h1,h2⟩:=bQ.1 (show ob (cm f co.guard) _=some r from e);cases b with
 |false=>cases h2;exact .inl ⟨h1,rfl⟩
 |true=>
  obtain⟨vs,d,c⟩:=bQ.1 h2;obtain⟨p,g,a⟩:=bQ.1 c;cases a;exact .inr ⟨vs,p.1,p.2,h1,d,g,rfl⟩
theorem IG(U:da P T){call:cN}(K:fA P T call){ops:Array Oper}{rd:Option Nat}{Q:Exit->Act->World->Prop}:∀(b:List Oper) (k:Nat) (cl:List cj) (f f':F) (h h':H) (g:G) (a:Act) (w:World),
  (∀i,i<b.length->ops[k+i]? =b[i]?)->gU (gh T m N ops) b=some cl->sK call cl f h=some (f',h')->WR T g h w->jg T g h w->FR g m N f a.tmps->
  (∀g' a' w',Ext T g h w g' h' w'->FR g' m N f' a'.tmps->a'.defers=a.defers->Q .normal a' w')->wpOpsIn (fen rd) 0 P ops Q (List.range' k b.length) a w:=by
 intro b
 induction b with
 |nil=>
  intro k cl f f' h h' g a w _ hc x r n e y;cases hc;cases x;exact y g a w (.refl r) e rfl
 |cons o b ih=>
  intro k cl f f' h h' g a w d hc x r n e y;rw [eZ]at hc;obtain⟨co,h1,h2⟩:=bQ.1 hc;obtain⟨p,B,O⟩:=bQ.1 h2;cases O;rw [xJ]at x;obtain⟨q,E,A⟩:=bQ.1 x;have l:=dM h1;have ho:ops[k]? =some o:=by have:=d 0 (by simp);simpa using this
  have c:∀i,i<b.length->ops[k+1+i]? =b[i]? :=λi hi=>by
   have:=d (i+1) (by simp;omega);rw [show k+1+i=k+(i+1) by omega]
   simpa using this
  rw [List.length_cons,List.range'_succ,wpOpsIn_cons];unfold wpOpIn;simp only [ho];rcases qO E with⟨e1,rfl⟩ | ⟨vs,v,h'',e1,e2,e3,rfl⟩
  ·rw [gf l e1 (λt _ v s=>e.2 t v s)]
   refine⟨λ_ _=>trivial,?_⟩;refine ih (k+1) p _ f' h h' g _ w c B A r n (e.put l.dst gG) λg' a' w' j z J=>y g' a' w' j z (J.trans (dH _ _ _))
  ·rw [gf l e1 (λt _ v s=>e.2 t v s)]
   obtain⟨os,S,I⟩:=l.op;refine mz U K r n S (kL n I e2 λt _ v s=>e.2 t v s) e3 λL M u j z=>?_;refine ih (k+1) p _ f' h'' h' L _ M c B A j.wr (n.ext j) ((e.mono j.le).put l.dst z) λg' a' w' C R D=>y g' a' w' (j.trans C) R (D.trans (dH _ _ _))
end
end
section
variable [Env]
set_option linter.unusedSectionVars false
section
variable {P:Program} {T:Ty} {m N:Nat}
theorem nK(a t:Nat):bit a t=a.testBit t:=by
 rw [Nat.testBit_eq_decide_div_mod_eq];unfold bit;rw [vX,CB,Bool.eq_iff_iff];simp
theorem nW(a i t:Nat):bit (fk a i) t=(bit a t||decide (t=i)):=by
 rw [nK,nK];show(a ||| (1 <<< i)).testBit t=_;rw [Nat.testBit_or,Nat.one_shiftLeft,Nat.testBit_two_pow]
 congr 1
 exact decide_eq_decide.2 ⟨λh=>h.symm,λh=>h.symm⟩
theorem Hn(a b t:Nat):bit (Nat.lor a b) t=(bit a t||bit b t):=by
 rw [nK,nK,nK];exact Nat.testBit_or a b t
theorem t7(t:Nat):bit 0 t=false:=by rw [nK];exact Nat.zero_testBit t
theorem FF(n t:Nat):bit (Nat.sub (Nat.pow 2 n) 1) t=decide (t<n):=by
 rw [nK];exact Nat.testBit_two_pow_sub_one n t
theorem yf{a b:Nat}(h:Nat.beq (Nat.land a b) a=true){t:Nat}(c:bit a t=true):bit b t=true:=by
 have h:a &&& b=a:=by simpa using h
 rw [nK]at c ⊢;rw [<-h,Nat.testBit_and]at c;simp only [Bool.and_eq_true]at c;exact c.2
theorem vZ{bs:List Nat}{o:Oper}{j:Nat}(h:bit (qa bs o) j=true):∃e∈o.after.toList,ju e=true/\(j=e.on\/bit (cW bs e.on) j=true):=by
 have b:∀(l:List Edge) (s:Nat),bit (l.foldl (λs e=>Bool.rec (motive:=λ_=>Nat) s (Nat.lor s (fk (cW bs e.on) e.on)) (ju e)) s) j=true->
   bit s j=true\/∃e∈l,ju e=true/\(j=e.on\/bit (cW bs e.on) j=true):=by
  intro l
  induction l with
  |nil=>intro s h;exact .inl h
  |cons e l ih=>
   intro s h;rw [List.foldl_cons]at h;rcases ih _ h with k | ⟨e',k1,k2⟩
   ·cases a:ju e with
    |false=>rw [a]at k;exact .inl k
    |true=>
     rw [a]at k;have k:bit (Nat.lor s (fk (cW bs e.on) e.on)) j=true:=k;rw [Hn,nW]at k;simp only [Bool.or_eq_true,decide_eq_true_eq]at k;rcases k with k|k|k
     ·exact .inl k
     ·exact .inr ⟨e,List.mem_cons_self,a,.inr k⟩
     ·exact .inr ⟨e,List.mem_cons_self,a,.inl k⟩
   ·exact .inr ⟨e',List.mem_cons_of_mem _ k1,k2⟩
 rcases b o.after.toList 0 h with k|k
 ·rw [t7]at k;cases k
 ·exact k
theorem yS(e:Edge):Region.binds .any e=ju e:=by
 unfold Region.binds ju;cases e.ground<;>rfl
structure ic(T:Ty)(ops:Array Oper)(bs:List Nat):Prop where
 back:∀(i:Nat) o,ops[i]? =some o->∀e∈o.after.toList,ju e=true->e.on<i
 before:∀(i:Nat) o,ops[i]? =some o->∀j,bit (cW bs i) j=true->∃e∈o.after.toList,ju e=true/\(j=e.on\/bit (cW bs e.on) j=true)
 names:∀(i j:Nat) o p d,i≠j->ops[i]? =some o->ops[j]? =some p->p.dst=some d->d∈d4 T ops o->(bit (cW bs i) j=true\/bit (cW bs j) i=true)/\o.dst≠some d
theorem td{ops:Array Oper}{i:Nat}{o:Oper}(h:ops[i]? =some o):(o,i)∈ops.toList.zipIdx:=by
 rw [List.mem_zipIdx_iff_getElem?]
 simpa using h
theorem Ci{ops:Array Oper}{bs:List Nat}(h:pt T ops bs=true):ic T ops bs:=by
 unfold pt at h;simp only [List.all_eq_true]at h;have parts:∀(i:Nat) o,ops[i]? =some o->(cW bs i=qa bs o/\∀e∈o.after.toList,ju e=true->e.on<i)/\
   ∀(j:Nat) p d,i≠j->ops[j]? =some p->p.dst=some d->d∈d4 T ops o->(bit (cW bs i) j=true\/bit (cW bs j) i=true)/\o.dst≠some d:=by
  intro i o ho;have k:=h (o,i) (td ho);simp only [Bool.and_eq_true,List.all_eq_true,Bool.or_eq_true]at k;obtain⟨⟨t,l⟩,n⟩:=k;refine⟨⟨by simpa using t,λe s r=>?_⟩,λj p d a c hd b=>?_⟩
  ·rcases l e s with q|q
   ·rw [r]at q;cases q
   ·simpa using q
  ·have q:=n (p,j) (td c)
   rcases q with q|q
   ·exact absurd (by simpa using q) a
   ·simp only [hd]at q
    have m:(d4 T ops o).any (Nat.beq d)=true:=by
     rw [List.any_eq_true];exact⟨d,b,by simp⟩
    rw [m]at q;simp only [Bool.not_true,Bool.false_or,Bool.and_eq_true,Bool.or_eq_true]at q;refine⟨q.1,λe=>?_⟩;have f:=q.2;rw [e]at f;simp at f
 exact⟨λi o ho=>(parts i o ho).1.2,λi o ho j g=>by rw [(parts i o ho).1.1]at g;exact vZ g,λi j o p d a ho c hd b=>(parts i o ho).2 j p d a c hd b⟩
theorem zA(bs:List Nat)(isE:Nat->Bool)(full i:Nat)(l:List Nat)(done em:Nat):
  xS bs isE full (i ::l) done em=(Nat.beq (Nat.land (cW bs i) done) (cW bs i) && !bit done i&&Nat.beq (Nat.land em (cW bs i)) em&&xS bs isE full l (fk done i) (Bool.rec (motive:=λ_=>Nat) em (fk em i) (isE i))):=rfl
theorem re{bs:List Nat}{isE:Nat->Bool}{full:Nat}:∀{l:List Nat} {done b:Nat},xS bs isE full l done b=true->
  (∀pre i post,l=pre++i ::post->(∀j,bit (cW bs i) j=true->bit done j=true\/j∈pre)/\bit done i=false/\i∉pre/\(∀j∈pre,isE j=true->bit (cW bs i) j=true)/\(∀j,bit b j=true->bit (cW bs i) j=true))/\
  ∀t,bit full t=true->bit done t=true\/t∈l
 |[],done,b,h=>by
  refine⟨λpre i post e=>by simp at e,λt ht=>.inl ?_⟩;have h:done=full:=by
   have h':Nat.beq done full=true:=h
   simpa using h'
  rw [h];exact ht
 |x ::l,done,b,h=>by
  rw [zA]at h;simp only [Bool.and_eq_true]at h;obtain⟨⟨⟨h1,h2⟩,g⟩,m⟩:=h;obtain⟨n,f⟩:=re m;refine⟨λpre i post e=>?_,λt ht=>?_⟩
  ·cases pre with
   |nil=>
    simp only [List.nil_append,List.cons.injEq]at e;obtain⟨rfl,rfl⟩:=e;exact⟨λj a=>.inl (yf h1 a),by simpa using h2,by simp,by simp,λj a=>yf g a⟩
   |cons y pre=>
    simp only [List.cons_append,List.cons.injEq]at e;obtain⟨rfl,rfl⟩:=e;obtain⟨k,c,p,o,d⟩:=n pre i post rfl;rw [nW]at c;simp only [Bool.or_eq_false_iff,decide_eq_false_iff_not]at c;refine⟨λj a=>?_,c.1,?_,λj a hE=>?_,λj a=>?_⟩
    ·rcases k j a with q|q
     ·rw [nW]at q
      simp only [Bool.or_eq_true,decide_eq_true_eq]at q;rcases q with q|q
      ·exact .inl q
      ·exact .inr (q▸List.mem_cons_self)
     ·exact .inr (List.mem_cons_of_mem _ q)
    ·intro q
     cases q with
     |head=>exact c.2 rfl
     |tail _ q=>exact p q
    ·cases a with
     |head=>
      refine d _ ?_;rw [hE];show bit (fk b x) x=true;rw [nW];simp
     |tail _ a=>exact o j a hE
    ·refine d j ?_
     cases hE:isE x with
     |false=>exact a
     |true=>
      show bit (fk b x) j=true;rw [nW,a];rfl
  ·rcases f t ht with q|q
   ·rw [nW]at q
    simp only [Bool.or_eq_true,decide_eq_true_eq]at q;rcases q with q|q
    ·exact .inl q
    ·exact .inr (q▸List.mem_cons_self)
   ·exact .inr (List.mem_cons_of_mem _ q)
structure jU(ops:Array Oper)(cl:List cj)(bs:List Nat)(ord:List Nat):Prop where
 pre:∀pre i post,ord=pre++i ::post->(∀j,bit (cW bs i) j=true->j∈pre)/\i∉pre/\∀j∈pre,dW cl j=true->bit (cW bs i) j=true
 all:∀i,i<ops.size->i∈ord
theorem yK{cl l:List cj}{ops:Array Oper}(h:vx T cl ops=some l):∃bs ord,ic T ops bs/\jU ops cl bs ord/\
  ra cl (λi=>cD (((List.range ops.size).filter (dW cl)).filter λe=>!bit (cW bs e) i)) ord 0=some l:=by
 obtain⟨h1,h2⟩:=bW.1 (show oif (pt T ops (sq ops.toList)&&xS (sq ops.toList) (dW cl) (Nat.sub (Nat.pow 2 ops.size) 1) (EA (sq ops.toList) (dW cl) ((List.range ops.size).filter (dW cl)) (List.range ops.size) (cD ((List.range ops.size).filter (dW cl)))) 0 0) _=some l from h);simp only [Bool.and_eq_true]at h1;obtain⟨d,a⟩:=re h1.2;refine⟨_,_,Ci h1.1,⟨λpre i post e=>?_,λi hi=>?_⟩,h2⟩
 ·obtain⟨b,m,g,f,k⟩:=d pre i post e
  refine⟨λj c=>?_,g,f⟩;rcases b j c with q|q
  ·rw [t7]at q;cases q
  ·exact q
 ·rcases a i (by rw [FF];simpa using hi)with q|q
  ·rw [t7]at q;cases q
  ·exact q
end
end
section
variable [Env]
set_option linter.unusedSectionVars false
section
variable {P:Program} {T:Ty} {m N:Nat}
structure Ht(call:cN)(co:cj)(s:St)(v:V)(s':St):Prop where
 f:s'.f=co.dst.put s.f v
 hs:s'.hs=if isE co.op=true then s.h ::s.hs else s.hs
 main:(cm s.f co.guard=some false/\v=cT/\s'.h=s.h/\s'.cs=s.cs)\/
  ∃vs,cm s.f co.guard=some true/\evs s.f co.args=some vs/\co.op.run call vs s.h=some (v,s'.h)/\(∀q,co.op= .r q->s'.cs=⟨q,vs,v,co.lo,co.hi⟩ ::s.cs)/\((∀q,co.op≠.r q)->s'.cs=s.cs)
theorem F5{call:cN}{co:cj}{s s':St}(h:co.runD call s=some s'):∃v,Ht call co s v s':=by
 obtain⟨b,h1,h2⟩:=bQ.1 (show ob (cm s.f co.guard) _=some s' from h);have c:∀(a b:List H),(Bool.rec (motive:=λ_=>List H) a b (isE co.op))=if isE co.op=true then b else a:=λa b=>cO _ _ _
 cases b with
 |false=>
  cases h2;exact⟨cT,rfl,c _ _,.inl ⟨h1,rfl,rfl,rfl⟩⟩
 |true=>
  obtain⟨vs,g,j⟩:=bQ.1 h2;obtain⟨r,i,e⟩:=bQ.1 j;cases e;refine⟨r.1,rfl,c _ _,.inr ⟨vs,h1,g,i,λq d=>?_,λd=>?_⟩⟩
  ·rw [d]
  ·cases hc:co.op with
   |r q=>exact absurd hc (d q)
   |_=>rfl
structure Ent where
 i:Nat
 k:Nat
 v:V
 s:St
inductive dX(call:cN)(cl:List cj)(hi:Nat->Nat):Nat->St->List Ent->St->Prop
 |nil {k:Nat} {s:St}:dX call cl hi k s [] s
 |cons {i k:Nat} {s s' sn:St} {c:cj} {v:V} {tr:List Ent} (hc:cl[i]? =some c) (st:Ht call {c with lo:=k,hi:=hi i} s v s')
   (t:dX call cl hi (if isE c.op=true then k+1 else k) s' tr sn):dX call cl hi k s (⟨i,k,v,s⟩ ::tr) sn
theorem oE(cl:List cj)(hi:Nat->Nat)(i:Nat)(l:List Nat)(k:Nat):ra cl hi (i ::l) k=ob (ff cl i) λc=>ob (ra cl hi l (if isE c.op=true then k+1 else k)) λr=>some ({c with lo:=k,hi:=hi i} ::r):=by
 show ob (ff cl i) (λc=>ob (ra cl hi l (Bool.rec (motive:=λ_=>Nat) k (Nat.succ k) (isE c.op))) λr=>some ({c with lo:=k,hi:=hi i} ::r))=_;simp only [cO,Nat.succ_eq_add_one]
theorem xh{call:cN}{cl:List cj}{hi:Nat->Nat}:∀{ord:List Nat} {k:Nat} {l:List cj} {s sn:St},ra cl hi ord k=some l->gS call l s=some sn->∃tr,dX call cl hi k s tr sn/\tr.map (·.i)=ord
 |[],k,l,s,sn,h,hr=>by
  cases h;cases hr;exact⟨[],.nil,rfl⟩
 |i ::ord,k,l,s,sn,h,hr=>by
  rw [oE]at h;obtain⟨c,h1,h2⟩:=bQ.1 h;obtain⟨r,h3,h4⟩:=bQ.1 h2;cases h4;rw [dS]at h1;obtain⟨s',h5,h6⟩:=bQ.1 (show ob (cj.runD call {c with lo:=k,hi:=hi i} s) (gS call r)=some sn from hr);obtain⟨v,hst⟩:=F5 h5;obtain⟨tr,k1,k2⟩:=xh h3 h6;exact⟨_,.cons h1 hst k1,by simp [k2]⟩
noncomputable def nE(cl:List cj)(l:List Ent):Nat:=(l.filter λe=>dW cl e.i).length
theorem eI{cl:List cj}{i:Nat}{c:cj}(h:cl[i]? =some c):dW cl i=isE c.op:=by
 unfold dW;rw [dS,h]
theorem dX.split{call:cN}{cl:List cj}{hi:Nat->Nat}:∀{A B:List Ent} {k:Nat} {s sn:St},dX call cl hi k s (A++B) sn->∃s',dX call cl hi k s A s'/\dX call cl hi (k+nE cl A) s' B sn
 |[],B,k,s,sn,h=>⟨s,.nil,h⟩
 |e ::A,B,k,s,sn,h=>by
  cases h with
  |cons hc st t=>
   rename_i i s1 c v
   obtain⟨s',k1,k2⟩:=dX.split (A:=A) t;refine⟨s',.cons hc st k1,?_⟩;have:(if isE c.op=true then k+1 else k)+nE cl A=k+nE cl (⟨i,k,v,s⟩ ::A):=by
    unfold nE;rw [List.filter_cons,eI hc]
    split<;>simp<;>omega
   rw [<-this];exact k2
theorem dX.append{call:cN}{cl:List cj}{hi:Nat->Nat}:∀{A B:List Ent} {k:Nat} {s s' sn:St},dX call cl hi k s A s'->dX call cl hi (k+nE cl A) s' B sn->dX call cl hi k s (A++B) sn
 |[],B,k,s,s',sn,h,h'=>by cases h;exact h'
 |e ::A,B,k,s,s',sn,h,h'=>by
  cases h with
  |cons hc st t=>
   rename_i i s1 c v
   have:(if isE c.op=true then k+1 else k)+nE cl A=k+nE cl (⟨i,k,v,s⟩ ::A):=by
    unfold nE;rw [List.filter_cons,eI hc]
    split<;>simp<;>omega
   rw [<-this]at h';exact .cons hc st (dX.append t h')
theorem dX.head{call:cN}{cl:List cj}{hi:Nat->Nat}{k:Nat}{s sn:St}{e:Ent}{B:List Ent}(h:dX call cl hi k s (e ::B) sn):e.s=s/\e.k=k/\∃c s',cl[e.i]? =some c/\Ht call {c with lo:=k,hi:=hi e.i} s e.v s'/\dX call cl hi (if isE c.op=true then k+1 else k) s' B sn:=by
 cases h with
 |cons hc st t=>exact⟨rfl,rfl,_,_,hc,st,t⟩
theorem dX.names{call:cN}{ops:Array Oper}{cl:List cj}{hi:Nat->Nat}(hcl:∀(i:Nat) c,cl[i]? =some c->∃o,ops[i]? =some o/\lE T m N ops o c):∀{tr:List Ent} {k:Nat} {s sn:St},dX call cl hi k s tr sn->
  (∀t,(∀e∈tr,(ops[e.i]?).bind (·.dst)≠some t)->rdn m sn.f t=rdn m s.f t)/\
  ∀A e B,tr=A++e ::B->∀t,(ops[e.i]?).bind (·.dst)=some t->(∀e'∈B,(ops[e'.i]?).bind (·.dst)≠some t)->rdn m sn.f t=some e.v
 |[],k,s,sn,h=>by
  cases h;exact⟨λ_ _=>rfl,λA e B h=>by simp at h⟩
 |x ::tr,k,s,sn,h=>by
  cases h with
  |cons hc st t=>
   rename_i i s' c v
   obtain⟨o,ho,hp⟩:=hcl i c hc;obtain⟨k1,k2⟩:=dX.names hcl t;have hput:∀t,rdn m s'.f t=if o.dst=some t then some v else rdn m s.f t:=λt=>by
    rw [st.f];exact vR hp.dst s.f v t
   refine⟨λt ht=>?_,λA e B he t hd hB=>?_⟩
   ·rw [k1 t λe he=>ht e (List.mem_cons_of_mem _ he),hput,if_neg]
    have:=ht _ List.mem_cons_self;simp only [ho,Option.bind_some]at this;exact this
   ·cases A with
    |nil=>
     simp only [List.nil_append,List.cons.injEq]at he;obtain⟨rfl,rfl⟩:=he;rw [k1 t hB,hput,if_pos];simp only [ho,Option.bind_some]at hd;exact hd
    |cons y A=>
     simp only [List.cons_append,List.cons.injEq]at he;exact k2 A e B he.2 t hd hB
theorem dX.hs{call:cN}{cl:List cj}{hi:Nat->Nat}:∀{tr:List Ent} {k:Nat} {s sn:St},dX call cl hi k s tr sn->sn.hs=((tr.filter λe=>dW cl e.i).map (·.s.h)).reverse++s.hs
 |[],k,s,sn,h=>by cases h;rfl
 |x ::tr,k,s,sn,h=>by
  cases h with
  |cons hc st t=>
   rename_i i s' c v
   rw [dX.hs t,st.hs,List.filter_cons,eI hc];show _++(if isE c.op=true then s.h ::s.hs else s.hs)=_
   by_cases hE:isE c.op=true
   ·simp [hE]
   ·simp [hE]
theorem dX.cs{call:cN}{cl:List cj}{hi:Nat->Nat}:∀{tr:List Ent} {k:Nat} {s sn:St},dX call cl hi k s tr sn->∀c∈s.cs,c∈sn.cs
 |[],k,s,sn,h=>by cases h;exact λ_ h=>h
 |x ::tr,k,s,sn,h=>by
  cases h with
  |cons hc st t=>
   rename_i i s' c v
   intro q hq;refine dX.cs t q ?_;rcases st.main with⟨_,_,_,h4⟩ | ⟨vs,_,_,_,h4,h5⟩
   ·rw [h4];exact hq
   ·cases hop:c.op with
    |r ro=>rw [h4 ro hop];exact List.mem_cons_of_mem _ hq
    |_=>rw [h5 (λq e=>by have e:c.op= .r q:=e;rw [hop]at e;cases e)];exact hq
theorem nq{r:V->V->Bool}(hr:∀x y,r x y=true->x=y):∀{a b:List V},(List.rec (motive:=λ_=>List V->Bool) (λl=>fW l true λ_ _=>false)
    (λu _ q l=>fW l false λv tl=>Bool.rec (motive:=λ_=>Bool) false (q tl) (r u v)) a:List V->Bool) b=true->a=b
 |[],[],_=>rfl
 |[],_ ::_,h=>by cases h
 |_ ::_,[],h=>by cases h
 |u ::a,v ::b,h=>by
  have h:Bool.rec (motive:=λ_=>Bool) false ((List.rec (motive:=λ_=>List V->Bool) (λl=>fW l true λ_ _=>false)
    (λu _ q l=>fW l false λv tl=>Bool.rec (motive:=λ_=>Bool) false (q tl) (r u v)) a:List V->Bool) b) (r u v)=true:=h
  rw [cO]at h
  split at h
  ·rename_i h1
   rw [hr _ _ h1,nq hr h]
  ·cases h
theorem xH:∀(n:Nat) (x y:V),DY n x y=true->x=y
 |0,x,y,h=>by cases h
 |n+1,x,y,h=>by
  have ih:=xH n;cases x with
  |lst n es cs=>cases y<;>cases h
  |eptr cs off=>cases y<;>cases h
  |bool b=>cases y with
   |bool c=>
    have h:oQ b c=true:=h;rw [mN]at h;simp at h;rw [h]
   |_=>cases h
  |int k a=>cases y with
   |int k' a'=>
    have h:(eqK k k'&&eqI a a')=true:=h;rw [jc,Bool.and_eq_true,tO]at h;obtain⟨h1,h2⟩:=h;rw [h1,eq_of_beq h2]
   |_=>cases h
  |str a b=>cases y with
   |str a' b'=>
    have h:Bool.rec (motive:=λ_=>Bool) false (Nat.beq b b') (Nat.beq a a')=true:=h;rw [cO]at h
    split at h
    ·rename_i h1
     rw [Nat.eq_of_beq_eq_true h1,Nat.eq_of_beq_eq_true h]
    ·cases h
   |_=>cases h
  |nilp=>cases y with
   |nilp=>rfl
   |_=>cases h
  |ptr a b=>cases y with
   |ptr a' b'=>
    have h:(Nat.beq a a'&&Nat.beq b b')=true:=h;simp only [Bool.and_eq_true,Nat.beq_eq]at h;rw [h.1,h.2]
   |_=>cases h
  |nils=>cases y with
   |nils=>rfl
   |_=>cases h
  |sl a b c d e f=>cases y with
   |sl a' b' c' d' e' f'=>
    have h:(Nat.beq a a'&&Nat.beq b b'&&Nat.beq c c'&&Nat.beq d d'&&oQ e e'&&Nat.beq f f')=true:=h;rw [mN]at h;simp only [Bool.and_eq_true,Nat.beq_eq,beq_iff_eq]at h;obtain⟨⟨⟨⟨⟨h1,h2⟩,h3⟩,h4⟩,h5⟩,h6⟩:=h;rw [h1,h2,h3,h4,h5,h6]
   |_=>cases h
  |nilm=>cases y with
   |nilm=>rfl
   |_=>cases h
  |map a=>cases y with
   |map a'=>
    have h:Nat.beq a a'=true:=h;rw [Nat.beq_eq]at h;rw [h]
   |_=>cases h
  |func fn a b=>cases fn with
   |func f=>cases y with
    |func fn' a' b'=>cases fn' with
     |func f'=>
      have h:(Nat.beq f f'&&_&&_)=true:=h;simp only [Bool.and_eq_true,Nat.beq_eq]at h;obtain⟨⟨h1,h2⟩,h3⟩:=h;rw [h1,nq ih h2,nq ih h3]
     |_=>cases h
    |_=>cases h
   |_=>cases y<;>cases h
  |yld a=>cases y with
   |yld a'=>
    have h:Nat.beq a a'=true:=h;rw [Nat.beq_eq]at h;rw [h]
   |_=>cases h
  |nilf=>cases y with
   |nilf=>rfl
   |_=>cases h
  |iface t a=>cases y with
   |iface t' a'=>
    have h:(Nat.beq t t'&&DY n a a')=true:=h;simp only [Bool.and_eq_true,Nat.beq_eq]at h;rw [h.1,ih _ _ h.2]
   |_=>cases h
  |nili=>cases y with
   |nili=>rfl
   |_=>cases h
  |agg a=>cases y with
   |agg b=>rw [nq ih h]
   |_=>cases h
  |tup a=>cases y with
   |tup b=>rw [nq ih h]
   |_=>cases h
theorem zo{c:Tc}{h:H}(k:pv c h=true):c.op.run c.vs h=some c.v:=by
 unfold pv at k;cases e:c.op.run c.vs h with
 |none=>rw [e]at k;cases k
 |some v=>
  rw [e]at k;rw [xH 20 v c.v k]
theorem rc{c:Tc}:∀{hs:List H} {i:Nat},kv c i hs=true->∀j h,hs[j]? =some h->c.lo<=i+j->i+j<=c.hi->pv c h=true
 |[],i,_,j,h,e,_,_=>by simp at e
 |x ::hs,i,k,j,h,e,h1,h2=>by
  have k:Bool.rec (motive:=λ_=>Bool) (Bool.rec (motive:=λ_=>Bool) false (kv c (i+1) hs) (pv c x)) (kv c (i+1) hs) (Nat.blt i c.lo||Nat.blt c.hi i)=true:=k;rw [cO,cO]at k;cases j with
  |zero=>
   simp at e;subst e;rw [if_neg]at k
   ·split at k
    ·assumption
    ·cases k
   ·simp
    omega
  |succ j=>
   have hr:kv c (i+1) hs=true:=by
    split at k
    ·exact k
    ·split at k
     ·exact k
     ·cases k
   exact rc hr j h (by simpa using e) (by omega) (by omega)
theorem rx{hs:List H}:∀{cs:List Tc},kW cs hs=true->∀c∈cs,kv c 0 hs=true
 |[],_,c,h=>by cases h
 |x ::cs,k,c,h=>by
  have k:Bool.rec (motive:=λ_=>Bool) false (kW cs hs) (kv x 0 hs)=true:=k;rw [cO]at k
  split at k
  ·rename_i hx
   cases h with
   |head=>exact hx
   |tail _ h=>exact rx k c h
  ·cases k
def bR(cs:List Tc)(hs:List H):Prop:=∀c∈cs,∀j h,hs[j]? =some h->c.lo<=j->j<=c.hi->c.op.run c.vs h=some c.v
theorem AC{cs:List Tc}{hs:List H}(k:kW cs hs=true):bR cs hs:=λc hc j h e h1 h2=>
 zo (rc (rx k c hc) j h e (by omega) (by omega))
theorem zr(o:cj)(l:List cj):jS (o ::l)=COp.rec (motive:=λ_=>Bool) (λ_=>jS l) (λ_=>jS l) (λ_=>false) (λ_=>false) (λ_=>false) false o.op:=rfl
theorem oj{call:cN}{h:H}:∀{l:List cj} {s s':St},jS l=true->gS call l s=some s'->s.h=h->s.hs=[]->(∀c∈s.cs,c.op.run c.vs h=some c.v)->s'.h=h/\s'.hs=[]/\∀c∈s'.cs,c.op.run c.vs h=some c.v
 |[],s,s',_,e,h1,h2,h3=>by cases e;exact⟨h1,h2,h3⟩
 |o ::l,s,s',q,e,h1,h2,h3=>by
  have e:ob (o.runD call s) (gS call l)=some s':=e;obtain⟨s1,e1,e2⟩:=bQ.1 e;rw [zr]at q;unfold cj.runD at e1;obtain⟨b,_,e3⟩:=bQ.1 e1;have main:jS l=true/\s1.h=h/\s1.hs=[]/\∀c∈s1.cs,c.op.run c.vs h=some c.v:=by
   obtain⟨d,op,args,gd,lo,hi⟩:=o;cases op with
   |p po=>
    refine⟨q,?_⟩;cases b with
    |false=>cases e3;exact⟨h1,h2,h3⟩
    |true=>
     obtain⟨vs,_,i⟩:=bQ.1 e3;obtain⟨r,a,g⟩:=bQ.1 i;obtain⟨v,_,f⟩:=bQ.1 (show ob (po.run vs) (λv=>some (v,s.h))=some r from a);cases f;cases g;exact⟨h1,h2,h3⟩
   |r ro=>
    refine⟨q,?_⟩;cases b with
    |false=>cases e3;exact⟨h1,h2,h3⟩
    |true=>
     obtain⟨vs,_,i⟩:=bQ.1 e3;obtain⟨r,a,g⟩:=bQ.1 i;obtain⟨v,j,f⟩:=bQ.1 (show ob (ro.run vs s.h) (λv=>some (v,s.h))=some r from a);cases f;cases g;refine⟨h1,h2,λc hc=>?_⟩;cases hc with
     |head=>rw [<-h1];exact j
     |tail _ hc=>exact h3 c hc
   |_=>cases q
  exact oj main.1 e2 main.2.1 main.2.2.1 main.2.2.2
theorem AB{call:cN}{l:List cj}{f:F}{h:H}{s:St}(e:gS call l ⟨f,h,[],[]⟩=some s)(k:(Bool.rec (motive:=λ_=>Bool) (kW s.cs (jP s.hs [s.h])) true (jS l):Bool)=true):bR s.cs (jP s.hs [s.h]):=by
 cases q:jS l with
 |false=>rw [q]at k;exact AC k
 |true=>
  obtain⟨h1,h2,a⟩:=oj q e rfl rfl (λc hc=>by cases hc);intro c hc j x e _ _;rw [h2,h1]at e;have e:([h]:List H)[j]? =some x:=e;have:x=h:=by simpa using List.mem_of_getElem? e
  rw [this];exact a c hc
theorem vO{α:Type}:∀(l r:List α),jP l r=l.reverse++r
 |[],r=>rfl
 |x ::l,r=>by
  show jP l (x ::r)=_;rw [vO l];simp
theorem rS:∀{l l':List Nat},l.Nodup->(∀x∈l,x∈l')->l.length<=l'.length
 |[],_,_,_=>Nat.zero_le _
 |x ::l,l',hn,hs=>by
  have hx:=hs x List.mem_cons_self;rw [List.nodup_cons]at hn;have:=rS (l:=l) (l':=l'.erase x) hn.2 λy hy=>by
   have hne:y≠x:=λe=>hn.1 (e▸hy);exact(List.mem_erase_of_ne hne).2 (hs y (List.mem_cons_of_mem _ hy))
  rw [List.length_erase_of_mem hx]at this;have:0<l'.length:=List.length_pos_of_mem hx;simp only [List.length_cons];omega
end
end
end Ev
end Go.Proofs.YtdfphfdnoobikaaGreatDoor
