/-
  All operations that make or write memory,together.
-/
import Derived.Test.YtdfphfdnoobikaaGreatDoorEvAppend
import Derived.OrdersIn
import Derived.RangeFuncRecord
namespace Go.Proofs.YtdfphfdnoobikaaGreatDoor
namespace Ev
section
variable [Env]
set_option linter.unusedSectionVars false
section
variable {P:Program} {T:Ty} {g:G} {ρ:Operand->Value} {h:H} {w:World}
theorem Is(hT:cN P T)(r:WR T g h w)(hE:jL g w){op:Op}{eo:EOp}{os:List Operand}(hc:bI T op=some (.e eo,os)){vs:List V}{v:V}{h':H}(hv:VRs g vs (os.map ρ))(hr:eo.run vs h=some (v,h')):Eff P T g h w ρ op v h':=by
 cases op
 case store t a x=>
  simp only [bI]at hc;obtain⟨n,h1,h2⟩:=bE.1 hc;cases h2;obtain⟨p,q,rfl,ha,hb⟩:=hv.two;exact Aw hT r h1 ha hb hr
 case insert t m k x=>
  simp only [bI]at hc;obtain⟨d,h1,h2⟩:=bE.1 hc;cases d with
  |map kt e=>
   obtain⟨kk,h3,h4⟩:=bE.1 h2;cases h4;obtain⟨a,b,c,rfl,ha,hb,hcc⟩:=hv.three;obtain⟨g',w',x1,x2,x3⟩:=sO hT r h1 h3 ha hb hcc hr;exact⟨g',w',undef,x1,x2,λo e=>.inr ⟨by simp [execOp,e,x3],rfl⟩⟩
  |_=>cases h2
 case mapUpdate t m k x=>
  simp only [bI]at hc;obtain⟨d,h1,h2⟩:=bE.1 hc;cases d with
  |map kt e=>
   obtain⟨kk,h3,h4⟩:=bE.1 h2;cases h4;obtain⟨a,b,c,rfl,ha,hb,hcc⟩:=hv.three;obtain⟨g',w',x1,x2,x3⟩:=sO hT r h1 h3 ha hb hcc hr;exact⟨g',w',undef,x1,x2,λo e=>.inr ⟨by simp [execOp,e,x3],rfl⟩⟩
  |_=>cases h2
 case mapEntry t m k=>
  simp only [bI]at hc;obtain⟨d,h1,h2⟩:=bE.1 hc;cases d with
  |map kt e=>
   obtain⟨kk,h3,h4⟩:=bE.1 h2;obtain⟨z,h5,h6⟩:=bE.1 h4;cases h6;obtain⟨a,b,rfl,ha,hb⟩:=hv.two;obtain⟨g',w',u,x1,x2,x3⟩:=xP hT r h1 h3 h5 ha hb hr;exact⟨g',w',u,x1,x2,λo e=>.inl (by simp [execOp,e,x3])⟩
  |_=>cases h2
 case entryStore t m s x=>
  cases hc;obtain⟨a,b,c,rfl,ha,hb,hcc⟩:=hv.three;obtain⟨g',w',x1,x2,x3⟩:=Az (P:=P) (t:=t) r ha hb hcc hr;exact⟨g',w',undef,x1,x2,λo e=>.inr ⟨by simp [execOp,e,x3],rfl⟩⟩
 case entry x=>
  cases hc;obtain⟨a,rfl,ha⟩:=hv.one;cases a<;>cases hr
 case next x b=>
  cases b with
  |false=>
   cases hc;obtain⟨a,rfl,ha⟩:=hv.one;exact Ay r ha hr
  |true=>
   cases hc;obtain⟨a,rfl,ha⟩:=hv.one;exact Ax r ha hr
 case call c=>
  obtain⟨callee,args,argTypes⟩:=c;simp only [bI]at hc;cases callee with
  |value x=>cases x<;>first|(cases hc;done)|(rename_i v;cases v<;>first|(cases hc;done)|(rename_i f _ _;cases f<;>cases hc))
  |invoke r m=>cases hc
  |builtin b=>
   obtain⟨t,h1,h2⟩:=bE.1 hc;obtain⟨d,h3,h4⟩:=bE.1 h2;have h1':argTypes[0]? =some t:=by rw [dD]at h1;simpa using h1
   cases b
   case len=>
    cases d<;>cases h4
   case append=>
    cases d with
    |slice e=>
     obtain⟨n,k1,a1⟩:=bE.1 h4;obtain⟨i,k2,a2⟩:=bE.1 a1;obtain⟨z,k3,a3⟩:=bE.1 a2;obtain⟨k4,a4⟩:=bK.1 a3;obtain⟨u,k5,a5⟩:=bE.1 a4;obtain⟨du,k6,a6⟩:=bE.1 a5;have h5:argTypes[1]? =some u:=by rw [dD]at k5;simpa using k5
     simp only [Bool.and_eq_true,Nat.blt_eq,Nat.beq_eq,bV]at k4
     split at a6
     ·cases a6
      exact rk hT r hE h1' h3 k1 k2 k3 k4.1 k4.2.1 k4.2.2 h5 k6 (.inl ⟨_,rfl,rfl⟩) hv hr
     ·cases a6
      exact rk hT r hE h1' h3 k1 k2 k3 k4.1 k4.2.1 k4.2.2 h5 k6 (.inr ⟨rfl,rfl⟩) hv hr
     ·cases a6
    |_=>cases h4
   case copy=>
    cases d with
    |slice e=>
     obtain⟨n,k1,a1⟩:=bE.1 h4;cases a1;exact CA hT r hE h1' h3 k1 hv hr
    |_=>cases h4
   case clear=>
    cases d with
    |slice e=>
     obtain⟨n,k1,a1⟩:=bE.1 h4;obtain⟨z,k2,a2⟩:=bE.1 a1;cases a2;exact AA hT r h1' h3 k2 hv hr
    |_=>cases h4
   case delete=>
    cases d with
    |map k e=>
     obtain⟨kk,k1,a1⟩:=bE.1 h4;cases a1;exact xQ hT r h1' h3 k1 hv hr
    |_=>cases h4
   all_goals (cases d<;>cases h4)
 case alloc t=>
  simp only [bI]at hc;obtain⟨z,h1,h⟩:=bE.1 hc;cases h
 case buildSlice t n ps=>
  simp only [bI]at hc;obtain⟨d,_,h⟩:=bE.1 hc;cases d with
  |slice e=>
   obtain⟨_,_,a1⟩:=bE.1 h;obtain⟨_,_,a2⟩:=bE.1 a1;obtain⟨_,a3⟩:=bK.1 a2;cases a3
  |_=>cases h
 case makeMap t r=>
  simp only [bI]at hc;obtain⟨d,_,h⟩:=bE.1 hc;cases d<;>cases h
 case makeSlice t l c=>
  simp only [bI]at hc;obtain⟨d,_,h⟩:=bE.1 hc;cases d with
  |slice e=>
   obtain⟨_,_,a1⟩:=bE.1 h;obtain⟨_,_,a2⟩:=bE.1 a1;obtain⟨_,_,a3⟩:=bE.1 a2;obtain⟨_,a4⟩:=bK.1 a3;cases a4
  |_=>cases h
 case range t x=>
  simp only [bI]at hc;obtain⟨d,h1,h⟩:=bE.1 hc;cases d<;>cases h;obtain⟨a,rfl,ha⟩:=hv.one;exact xO hT r h1 ha hr
 case load t x=>
  simp only [bI]at hc;obtain⟨b,h1,h2⟩:=bE.1 hc;obtain⟨n,h3,h4⟩:=bE.1 h2;cases h4
 case lookup t x k ok=>
  simp only [bI]at hc;obtain⟨d,h1,h2⟩:=bE.1 hc;cases d with
  |map kt e=>
   obtain⟨kk,h3,h4⟩:=bE.1 h2;obtain⟨z,h5,h6⟩:=bE.1 h4;cases h6
  |_=>cases h2
 case binOp op t x y t'=>
  have eq2:∀{neg cst:Bool} {d:TypeDesc},re T t neg cst d=some (.e eo)->False:=by
   intro neg cst d h2;cases d with
   |interface e=>obtain⟨h4,h5⟩:=bK.1 h2;cases h5
   |pointer e=>obtain⟨k,h4,h5⟩:=bE.1 h2;cases h5
   |struct fs=>obtain⟨k,h4,h5⟩:=bE.1 h2;cases h5
   |_=>cases h2
  cases op
  case eql=>
   simp only [bI]at hc;obtain⟨d,h1,h2⟩:=bE.1 hc;obtain⟨c,h3,h4⟩:=bE.1 h2;cases h4;exact(eq2 (neg:=false) h3).elim
  case neq=>
   simp only [bI]at hc;obtain⟨d,h1,h2⟩:=bE.1 hc;obtain⟨c,h3,h4⟩:=bE.1 h2;cases h4;exact(eq2 (neg:=true) h3).elim
  all_goals cases hc
 case build t ps=>
  simp only [bI]at hc;obtain⟨z,h1,h2⟩:=bE.1 hc;obtain⟨d,h3,h4⟩:=bE.1 h2;cases d with
  |struct fs=>
   obtain⟨pl,h5,h6⟩:=bE.1 h4;obtain⟨l,h7,h8⟩:=bE.1 h6;cases h8
  |array k e=>
   obtain⟨n,h5,h6⟩:=bE.1 h4;cases h6
  |_=>cases h4
 case convert s d x=>
  simp only [bI]at hc;obtain⟨a,h1,h2⟩:=bE.1 hc;obtain⟨b,h3,h4⟩:=bE.1 h2;cases a<;>cases b<;>first|(cases h4;done)|(cases(fj h4).1)
 case makeInterface t x=>
  simp only [bI]at hc;obtain⟨d,h1,h2⟩:=bE.1 hc;cases d<;>cases h2
 case makeFunc fn a b=>cases fn<;>cases hc
 case slice t x lo hi mx=>
  simp only [bI]at hc;obtain⟨d,_,h⟩:=bE.1 hc;cases d with
  |string=>cases h
  |slice e=>obtain⟨_,_,a1⟩:=bE.1 h;cases a1
  |array k e=>obtain⟨_,_,a1⟩:=bE.1 h;cases a1
  |_=>cases h
 case fieldAddr t x i=>
  simp only [bI]at hc;obtain⟨d,_,h⟩:=bE.1 hc;cases d with
  |struct fs=>
   obtain⟨_,_,a1⟩:=bE.1 h;obtain⟨_,_,a2⟩:=bE.1 a1;cases a2
  |_=>cases h
 case field t x i=>
  simp only [bI]at hc;obtain⟨d,_,h⟩:=bE.1 hc;cases d with
  |struct fs=>
   obtain⟨_,_,a1⟩:=bE.1 h;obtain⟨_,_,a2⟩:=bE.1 a1;obtain⟨_,_,a3⟩:=bE.1 a2;cases a3
  |_=>cases h
 case indexAddr t x i=>
  simp only [bI]at hc;obtain⟨d,_,h⟩:=bE.1 hc;cases d with
  |slice e=>obtain⟨_,_,a1⟩:=bE.1 h;cases a1
  |array k e=>obtain⟨_,_,a1⟩:=bE.1 h;cases a1
  |_=>cases h
 case index t x i=>
  simp only [bI]at hc;obtain⟨d,_,h⟩:=bE.1 hc;cases d with
  |string=>cases h
  |array k e=>
   obtain⟨_,_,a1⟩:=bE.1 h;obtain⟨_,_,a2⟩:=bE.1 a1;cases a2
  |_=>cases h
 all_goals cases hc
end
end
section
variable [Env]
set_option linter.unusedSectionVars false
section
variable {P:Program} {T:Ty}
def fen(r:Option Nat):Fence:={Fence.wide with round:=r}
structure gY(T:Ty)(g:G)(h:H)(w:World):Prop where
 pin:∀p,p∈T.pin->(∃z,g p.1=some (p.2.1,0,z))/\h.blk p.1=some (.ro p.2.2.1 p.2.2.2)
 env:jL g w
theorem gY.ext{T:Ty}{g g':G}{h h':H}{w w':World}(k:gY T g h w)(x:Ext T g h w g' h' w'):gY T g' h' w':=⟨λp hp=>by
 obtain⟨⟨z,hz⟩,hb⟩:=k.pin p hp;exact⟨⟨z,x.le _ _ hz⟩,(x.ro _ _ _ _ _ _ hz hb).1⟩,k.env.ext x⟩
def rQ(T:Ty)(g:G)(h:H)(w:World)(v:V)(h':H)(e:Ending)(w':World):Prop:=∃g' u,e= .returned u/\VR g' v u/\Ext T g h w g' h' w'
def ly(P:Program)(T:Ty)(f:FuncId)(us:List Value)(g:G)(h:H)(w:World)(v:V)(h':H):Prop:=
 ∃fn,P.funcs[f]? =some fn/\fn.name≠ "runtime.NumGoroutine"/\fn.body.isNone=false/\CallsIn Fence.wide 0 P f us.toArray w (rQ T g h w v h')
def zx(P:Program)(T:Ty)(id:Nat)(us:List Value)(g:G)(h:H)(w:World)(v:V)(h':H):Prop:=
 ∀b o z,g id=some (b,o,z)->∃(l:Loop) (tmps:Array Value),(Instr.yield b us.toArray).run P w= .ok (.round b l.fn tmps l.assign l.body) w/\RoundIn Fence.wide 0 P b l.fn tmps l.assign l.body w (rQ T g h w v h')
structure dX(P:Program)(T:Ty)(call:cB):Prop where
 fn:∀f vs h v h',call (.fn f) vs h=some (v,h')->∀g w us,WR T g h w->gY T g h w->VRs g vs us->ly P T f us g h w v h'
 yld:∀id vs h v h',call (.yld id) vs h=some (v,h')->∀g w us,WR T g h w->gY T g h w->VRs g vs us->zx P T id us g h w v h'
theorem uV{r:Option Nat}{l:Nat}{f:FuncId}{tmps:Array Value}{a b:Code}{w:World}{R:Ending->World->Prop}(h:RoundIn Fence.wide 0 P l f tmps a b w R):RoundIn (fen r) 0 P l f tmps a b w R:=h
theorem iF{r:Option Nat}{f:FuncId}{us:Array Value}{w:World}{R:Ending->World->Prop}(h:CallsIn Fence.wide 0 P f us w R):CallsIn (fen r) 0 P f us w R:=h
theorem iV(r:Option Nat):(fen r).depth.isSome=true->1<=0:=λh=>by cases h
theorem fi{o:Op}{c:COp}{os:List Operand}(h:bI T o=some (c,os)):∀k,o≠.defer k:=by
 intro k e;subst e;cases h
theorem ph{op:Op}{f:FuncId}{os:List Operand}(hc:bI T op=some (.call f,os)):∃args at',op= .call ⟨.value (.func f),args,at'⟩/\os=args.toList:=by
 cases op
 case call c=>
  obtain⟨callee,args,argTypes⟩:=c;simp only [bI]at hc;cases callee with
  |value x=>
   cases x with
   |func f'=>cases hc;exact⟨args,argTypes,rfl,rfl⟩
   |_=>cases hc
  |invoke r m=>cases hc
  |builtin b=>
   obtain⟨t,h1,h2⟩:=bE.1 hc;obtain⟨d,h3,h4⟩:=bE.1 h2;cases b
   case len=>cases d<;>cases h4
   case append=>
    cases d with
    |slice e=>
     obtain⟨n,_,a1⟩:=bE.1 h4;obtain⟨_,_,a2⟩:=bE.1 a1;obtain⟨_,_,a3⟩:=bE.1 a2;obtain⟨_,a4⟩:=bK.1 a3;obtain⟨_,_,a5⟩:=bE.1 a4;obtain⟨_,_,a6⟩:=bE.1 a5
     split at a6<;>cases a6
    |_=>cases h4
   case copy=>
    cases d with
    |slice e=>obtain⟨n,k1,a1⟩:=bE.1 h4;cases a1
    |_=>cases h4
   case clear=>
    cases d with
    |slice e=>
     obtain⟨n,k1,a1⟩:=bE.1 h4;obtain⟨z,k2,a2⟩:=bE.1 a1;cases a2
    |_=>cases h4
   case delete=>
    cases d with
    |map k e=>obtain⟨kk,k1,a1⟩:=bE.1 h4;cases a1
    |_=>cases h4
   all_goals (cases d<;>cases h4)
 case alloc t=>
  simp only [bI]at hc;obtain⟨z,h1,h⟩:=bE.1 hc;cases h
 case buildSlice t n ps=>
  simp only [bI]at hc;obtain⟨d,_,h⟩:=bE.1 hc;cases d with
  |slice e=>
   obtain⟨_,_,a1⟩:=bE.1 h;obtain⟨_,_,a2⟩:=bE.1 a1;obtain⟨_,a3⟩:=bK.1 a2;cases a3
  |_=>cases h
 case makeMap t r=>
  simp only [bI]at hc;obtain⟨d,_,h⟩:=bE.1 hc;cases d<;>cases h
 case makeSlice t l c=>
  simp only [bI]at hc;obtain⟨d,_,h⟩:=bE.1 hc;cases d with
  |slice e=>
   obtain⟨_,_,a1⟩:=bE.1 h;obtain⟨_,_,a2⟩:=bE.1 a1;obtain⟨_,_,a3⟩:=bE.1 a2;obtain⟨_,a4⟩:=bK.1 a3;cases a4
  |_=>cases h
 case range t x=>
  simp only [bI]at hc;obtain⟨d,_,h⟩:=bE.1 hc;cases d<;>cases h
 case load t x=>
  simp only [bI]at hc;obtain⟨b,h1,h2⟩:=bE.1 hc;obtain⟨n,h3,h4⟩:=bE.1 h2;cases h4
 case lookup t x k ok=>
  simp only [bI]at hc;obtain⟨d,h1,h2⟩:=bE.1 hc;cases d with
  |map kt e=>
   obtain⟨kk,h3,h4⟩:=bE.1 h2;obtain⟨z,h5,h6⟩:=bE.1 h4;cases h6
  |_=>cases h2
 case binOp op t x y t'=>
  have eq2:∀{neg cst:Bool} {d:TypeDesc},re T t neg cst d=some (.call f)->False:=by
   intro neg cst d h2;cases d with
   |interface e=>obtain⟨h4,h5⟩:=bK.1 h2;cases h5
   |pointer e=>obtain⟨k,h4,h5⟩:=bE.1 h2;cases h5
   |struct fs=>obtain⟨k,h4,h5⟩:=bE.1 h2;cases h5
   |_=>cases h2
  cases op
  case eql=>
   simp only [bI]at hc;obtain⟨d,h1,h2⟩:=bE.1 hc;obtain⟨c,h3,h4⟩:=bE.1 h2;cases h4;exact(eq2 (neg:=false) h3).elim
  case neq=>
   simp only [bI]at hc;obtain⟨d,h1,h2⟩:=bE.1 hc;obtain⟨c,h3,h4⟩:=bE.1 h2;cases h4;exact(eq2 (neg:=true) h3).elim
  all_goals cases hc
 case build t ps=>
  simp only [bI]at hc;obtain⟨z,h1,h2⟩:=bE.1 hc;obtain⟨d,h3,h4⟩:=bE.1 h2;cases d with
  |struct fs=>
   obtain⟨pl,h5,h6⟩:=bE.1 h4;obtain⟨l,h7,h8⟩:=bE.1 h6;cases h8
  |array k e=>
   obtain⟨n,h5,h6⟩:=bE.1 h4;cases h6
  |_=>cases h4
 case convert s d x=>
  simp only [bI]at hc;obtain⟨a,h1,h2⟩:=bE.1 hc;obtain⟨b,h3,h4⟩:=bE.1 h2;cases a<;>cases b<;>first|(cases h4;done)|(cases(fj h4).1)
 case makeInterface t x=>
  simp only [bI]at hc;obtain⟨d,h1,h2⟩:=bE.1 hc;cases d<;>cases h2
 case makeFunc fn a b=>cases fn<;>cases hc
 case slice t x lo hi mx=>
  simp only [bI]at hc;obtain⟨d,_,h⟩:=bE.1 hc;cases d with
  |string=>cases h
  |slice e=>obtain⟨_,_,a1⟩:=bE.1 h;cases a1
  |array k e=>obtain⟨_,_,a1⟩:=bE.1 h;cases a1
  |_=>cases h
 case fieldAddr t x i=>
  simp only [bI]at hc;obtain⟨d,_,h⟩:=bE.1 hc;cases d with
  |struct fs=>
   obtain⟨_,_,a1⟩:=bE.1 h;obtain⟨_,_,a2⟩:=bE.1 a1;cases a2
  |_=>cases h
 case field t x i=>
  simp only [bI]at hc;obtain⟨d,_,h⟩:=bE.1 hc;cases d with
  |struct fs=>
   obtain⟨_,_,a1⟩:=bE.1 h;obtain⟨_,_,a2⟩:=bE.1 a1;obtain⟨_,_,a3⟩:=bE.1 a2;cases a3
  |_=>cases h
 case indexAddr t x i=>
  simp only [bI]at hc;obtain⟨d,_,h⟩:=bE.1 hc;cases d with
  |slice e=>obtain⟨_,_,a1⟩:=bE.1 h;cases a1
  |array k e=>obtain⟨_,_,a1⟩:=bE.1 h;cases a1
  |_=>cases h
 case index t x i=>
  simp only [bI]at hc;obtain⟨d,_,h⟩:=bE.1 hc;cases d with
  |string=>cases h
  |array k e=>
   obtain⟨_,_,a1⟩:=bE.1 h;obtain⟨_,_,a2⟩:=bE.1 a1;cases a2
  |_=>cases h
 case insert t m k x=>
  simp only [bI]at hc;obtain⟨d,_,h⟩:=bE.1 hc;cases d with
  |map k e=>
   obtain⟨_,_,a1⟩:=bE.1 h;cases a1
  |_=>cases h
 case mapEntry t m k=>
  simp only [bI]at hc;obtain⟨d,_,h⟩:=bE.1 hc;cases d with
  |map k e=>
   obtain⟨_,_,a1⟩:=bE.1 h;obtain⟨_,_,a2⟩:=bE.1 a1;cases a2
  |_=>cases h
 case mapUpdate t m k x=>
  simp only [bI]at hc;obtain⟨d,_,h⟩:=bE.1 hc;cases d with
  |map k e=>
   obtain⟨_,_,a1⟩:=bE.1 h;cases a1
  |_=>cases h
 case store t a x=>
  simp only [bI]at hc;obtain⟨_,_,a1⟩:=bE.1 hc;cases a1
 case next x b=>cases b<;>cases hc
 all_goals cases hc
theorem nG{op:Op}{os:List Operand}(hc:bI T op=some (.callv,os)):∃x args at',op= .call ⟨.value x,args,at'⟩/\os=x ::args.toList:=by
 cases op
 case call c=>
  obtain⟨callee,args,argTypes⟩:=c;simp only [bI]at hc;cases callee with
  |value x=>
   cases x with
   |func f'=>cases hc
   |_=>cases hc;exact⟨_,args,argTypes,rfl,rfl⟩
  |invoke r m=>cases hc
  |builtin b=>
   obtain⟨t,h1,h2⟩:=bE.1 hc;obtain⟨d,h3,h4⟩:=bE.1 h2;cases b
   case len=>cases d<;>cases h4
   case append=>
    cases d with
    |slice e=>
     obtain⟨n,_,a1⟩:=bE.1 h4;obtain⟨_,_,a2⟩:=bE.1 a1;obtain⟨_,_,a3⟩:=bE.1 a2;obtain⟨_,a4⟩:=bK.1 a3;obtain⟨_,_,a5⟩:=bE.1 a4;obtain⟨_,_,a6⟩:=bE.1 a5
     split at a6<;>cases a6
    |_=>cases h4
   case copy=>
    cases d with
    |slice e=>obtain⟨n,k1,a1⟩:=bE.1 h4;cases a1
    |_=>cases h4
   case clear=>
    cases d with
    |slice e=>
     obtain⟨n,k1,a1⟩:=bE.1 h4;obtain⟨z,k2,a2⟩:=bE.1 a1;cases a2
    |_=>cases h4
   case delete=>
    cases d with
    |map k e=>obtain⟨kk,k1,a1⟩:=bE.1 h4;cases a1
    |_=>cases h4
   all_goals (cases d<;>cases h4)
 case alloc t=>
  simp only [bI]at hc;obtain⟨z,h1,h⟩:=bE.1 hc;cases h
 case buildSlice t n ps=>
  simp only [bI]at hc;obtain⟨d,_,h⟩:=bE.1 hc;cases d with
  |slice e=>
   obtain⟨_,_,a1⟩:=bE.1 h;obtain⟨_,_,a2⟩:=bE.1 a1;obtain⟨_,a3⟩:=bK.1 a2;cases a3
  |_=>cases h
 case makeMap t r=>
  simp only [bI]at hc;obtain⟨d,_,h⟩:=bE.1 hc;cases d<;>cases h
 case makeSlice t l c=>
  simp only [bI]at hc;obtain⟨d,_,h⟩:=bE.1 hc;cases d with
  |slice e=>
   obtain⟨_,_,a1⟩:=bE.1 h;obtain⟨_,_,a2⟩:=bE.1 a1;obtain⟨_,_,a3⟩:=bE.1 a2;obtain⟨_,a4⟩:=bK.1 a3;cases a4
  |_=>cases h
 case range t x=>
  simp only [bI]at hc;obtain⟨d,_,h⟩:=bE.1 hc;cases d<;>cases h
 case load t x=>
  simp only [bI]at hc;obtain⟨b,h1,h2⟩:=bE.1 hc;obtain⟨n,h3,h4⟩:=bE.1 h2;cases h4
 case lookup t x k ok=>
  simp only [bI]at hc;obtain⟨d,h1,h2⟩:=bE.1 hc;cases d with
  |map kt e=>
   obtain⟨kk,h3,h4⟩:=bE.1 h2;obtain⟨z,h5,h6⟩:=bE.1 h4;cases h6
  |_=>cases h2
 case binOp op t x y t'=>
  have eq2:∀{neg cst:Bool} {d:TypeDesc},re T t neg cst d=some (.callv)->False:=by
   intro neg cst d h2;cases d with
   |interface e=>obtain⟨h4,h5⟩:=bK.1 h2;cases h5
   |pointer e=>obtain⟨k,h4,h5⟩:=bE.1 h2;cases h5
   |struct fs=>obtain⟨k,h4,h5⟩:=bE.1 h2;cases h5
   |_=>cases h2
  cases op
  case eql=>
   simp only [bI]at hc;obtain⟨d,h1,h2⟩:=bE.1 hc;obtain⟨c,h3,h4⟩:=bE.1 h2;cases h4;exact(eq2 (neg:=false) h3).elim
  case neq=>
   simp only [bI]at hc;obtain⟨d,h1,h2⟩:=bE.1 hc;obtain⟨c,h3,h4⟩:=bE.1 h2;cases h4;exact(eq2 (neg:=true) h3).elim
  all_goals cases hc
 case build t ps=>
  simp only [bI]at hc;obtain⟨z,h1,h2⟩:=bE.1 hc;obtain⟨d,h3,h4⟩:=bE.1 h2;cases d with
  |struct fs=>
   obtain⟨pl,h5,h6⟩:=bE.1 h4;obtain⟨l,h7,h8⟩:=bE.1 h6;cases h8
  |array k e=>
   obtain⟨n,h5,h6⟩:=bE.1 h4;cases h6
  |_=>cases h4
 case convert s d x=>
  simp only [bI]at hc;obtain⟨a,h1,h2⟩:=bE.1 hc;obtain⟨b,h3,h4⟩:=bE.1 h2;cases a<;>cases b<;>first|(cases h4;done)|(cases(fj h4).1)
 case makeInterface t x=>
  simp only [bI]at hc;obtain⟨d,h1,h2⟩:=bE.1 hc;cases d<;>cases h2
 case makeFunc fn a b=>cases fn<;>cases hc
 case slice t x lo hi mx=>
  simp only [bI]at hc;obtain⟨d,_,h⟩:=bE.1 hc;cases d with
  |string=>cases h
  |slice e=>obtain⟨_,_,a1⟩:=bE.1 h;cases a1
  |array k e=>obtain⟨_,_,a1⟩:=bE.1 h;cases a1
  |_=>cases h
 case fieldAddr t x i=>
  simp only [bI]at hc;obtain⟨d,_,h⟩:=bE.1 hc;cases d with
  |struct fs=>
   obtain⟨_,_,a1⟩:=bE.1 h;obtain⟨_,_,a2⟩:=bE.1 a1;cases a2
  |_=>cases h
 case field t x i=>
  simp only [bI]at hc;obtain⟨d,_,h⟩:=bE.1 hc;cases d with
  |struct fs=>
   obtain⟨_,_,a1⟩:=bE.1 h;obtain⟨_,_,a2⟩:=bE.1 a1;obtain⟨_,_,a3⟩:=bE.1 a2;cases a3
  |_=>cases h
 case indexAddr t x i=>
  simp only [bI]at hc;obtain⟨d,_,h⟩:=bE.1 hc;cases d with
  |slice e=>obtain⟨_,_,a1⟩:=bE.1 h;cases a1
  |array k e=>obtain⟨_,_,a1⟩:=bE.1 h;cases a1
  |_=>cases h
 case index t x i=>
  simp only [bI]at hc;obtain⟨d,_,h⟩:=bE.1 hc;cases d with
  |string=>cases h
  |array k e=>
   obtain⟨_,_,a1⟩:=bE.1 h;obtain⟨_,_,a2⟩:=bE.1 a1;cases a2
  |_=>cases h
 case insert t m k x=>
  simp only [bI]at hc;obtain⟨d,_,h⟩:=bE.1 hc;cases d with
  |map k e=>
   obtain⟨_,_,a1⟩:=bE.1 h;cases a1
  |_=>cases h
 case mapEntry t m k=>
  simp only [bI]at hc;obtain⟨d,_,h⟩:=bE.1 hc;cases d with
  |map k e=>
   obtain⟨_,_,a1⟩:=bE.1 h;obtain⟨_,_,a2⟩:=bE.1 a1;cases a2
  |_=>cases h
 case mapUpdate t m k x=>
  simp only [bI]at hc;obtain⟨d,_,h⟩:=bE.1 hc;cases d with
  |map k e=>
   obtain⟨_,_,a1⟩:=bE.1 h;cases a1
  |_=>cases h
 case store t a x=>
  simp only [bI]at hc;obtain⟨_,_,a1⟩:=bE.1 hc;cases a1
 case next x b=>cases b<;>cases hc
 all_goals cases hc
theorem ye{call:cB}(hk:dX P T call){g:G}{h h':H}{w:World}(r:WR T g h w)(hG:gY T g h w){fv:V}{vs:List V}{fu:Value}{us:List Value}{v:V}(hf:VR g fv fu)(hv:VRs g vs us)(hr:lM call (fv ::vs) h=some (v,h')):
  ∃d,(∀w,(Deferred.ofValue fu us.toArray).run P w= .ok d w)/\((∃(f:FuncId) (us':Array Value),(∀w,(invoke d.target d.args).run P w= .ok (.enter f us') w)/\CallsIn Fence.wide 0 P f us' w (rQ T g h w v h'))\/
   ∃(b:Nat) (l:Loop) (tmps:Array Value),(invoke d.target d.args).run P w= .ok (.round b l.fn tmps l.assign l.body) w/\RoundIn Fence.wide 0 P b l.fn tmps l.assign l.body w (rQ T g h w v h')):=by
 cases fv with
 |func fn first captured=>
  cases fn<;>first|(cases hr;done)|skip
  rename_i f
  have hr':call (.fn f) (first++(vs++captured)) h=some (v,h'):=hr;cases hf with
  |func ha hb=>
   rename_i x y
   obtain⟨fn,k1,k2,k3,k4⟩:=hk.fn _ _ _ _ _ hr' g w _ r hG (ha.append (hv.append hb));refine⟨⟨.fn (.func f) y.toArray,x.toArray++us.toArray⟩,λw=>by simp [Deferred.ofValue],.inl ⟨f,(x++(us++y)).toArray,λw=>?_,k4⟩⟩;have he:x.toArray++us.toArray++y.toArray=(x++(us++y)).toArray:=by simp
   simp only [invoke,he];have hb:¬fn.body=none:=λe=>by rw [e]at k3;cases k3
   simp [callFunc,k1,k2,hb]
 |yld id=>
  have hr':call (.yld id) vs h=some (v,h'):=hr;cases hf with
  |yld hg=>
   rename_i b o z
   obtain⟨l,tmps,k1,k2⟩:=hk.yld _ _ _ _ _ hr' g w _ r hG hv b o z hg;refine⟨⟨.fn (.yield b) #[],#[]++us.toArray⟩,λw=>by simp [Deferred.ofValue],.inr ⟨b,l,tmps,?_,k2⟩⟩;simp only [invoke]
   simpa using k1
 |_=>cases hr
theorem yf{call:cB}(hk:dX P T call){g:G}{h h':H}{w:World}(r:WR T g h w)(hG:gY T g h w){fv:V}{vs:List V}{fu:Value}{us:List Value}{v:V}(hfn:xB fv=true)(hf:VR g fv fu)(hv:VRs g vs us)(hr:lM call (fv ::vs) h=some (v,h')):
  ∃d,(∀w,(Deferred.ofValue fu us.toArray).run P w= .ok d w)/\∃(f:FuncId) (us':Array Value),(∀w,(invoke d.target d.args).run P w= .ok (.enter f us') w)/\CallsIn Fence.wide 0 P f us' w (rQ T g h w v h'):=by
 cases fv with
 |func fn first captured=>
  cases fn<;>first|(cases hr;done)|skip
  rename_i f
  have hr':call (.fn f) (first++(vs++captured)) h=some (v,h'):=hr;cases hf with
  |func ha hb=>
   rename_i x y
   obtain⟨fn,k1,k2,k3,k4⟩:=hk.fn _ _ _ _ _ hr' g w _ r hG (ha.append (hv.append hb));refine⟨⟨.fn (.func f) y.toArray,x.toArray++us.toArray⟩,λw=>by simp [Deferred.ofValue],f,(x++(us++y)).toArray,λw=>?_,k4⟩;have he:x.toArray++us.toArray++y.toArray=(x++(us++y)).toArray:=by simp
   simp only [invoke,he];have hb:¬fn.body=none:=λe=>by rw [e]at k3;cases k3
   simp [callFunc,k1,k2,hb]
 |_=>cases hfn
theorem lF(hT:cN P T){call:cB}(hk:dX P T call){g:G}{h h':H}{w:World}(r:WR T g h w)(hG:gY T g h w){o:Oper}{c:COp}{os:List Operand}{a:Act}(hc:bI T o.op=some (c,os)){vs:List V}{v:V}(hv:VRs g vs (os.map a.eval))
  (hr:c.run call vs h=some (v,h')) {rd:Option Nat} {K:Act->World->Prop} {Q:Exit->Act->World->Prop} (hK:∀g' w' u,Ext T g h w g' h' w'->VR g' v u->K (a.put o.dst u) w'):o.wpIn (fen rd) 0 P a w K Q:=by
 refine⟨λ_ _=>trivial,?_⟩;rw [Oper.semAt_eq _ _ _ (fi hc)];cases c with
 |p po=>
  obtain⟨u,e1,e2⟩:=bE.1 (show ob (po.run vs) (λv=>some (v,h))=some (v,h')from hr);cases e2;obtain⟨x,k1,k2⟩:=Ir hT hc hv e1;rw [k2 w o rfl,Oper.uponIn_value];exact hK g w x (.refl r) k1
 |r ro=>
  obtain⟨u,e1,e2⟩:=bE.1 (show ob (ro.run vs h) (λv=>some (v,h))=some (v,h')from hr);cases e2;obtain⟨x,k1,k2⟩:=Iq hT r hG.env hc hv e1;rw [k2 o rfl,Oper.uponIn_value];exact hK g w x (.refl r) k1
 |a ao=>
  obtain⟨p,e1,e2⟩:=bE.1 (show ob (ao.run vs) (λr=>ob (h.new r.1) λh'=>some (r.2 h.next,h'))=some (v,h')from hr);obtain⟨h1,e3,e4⟩:=bE.1 e2;cases e4;obtain⟨blk,mk⟩:=p;have hm:=Ez (P:=P) hT hc hv e1;obtain⟨obj,z,val,m1,m2,m3⟩:=hm.make;have hnone:g h.next=none:=by
   cases e:g h.next with
   |none=>rfl
   |some x=>exact absurd (r.dom _ _ e) (by omega)
  have hle:=eS (g:=g) (w.heap.size,0,z) hnone;rw [m1 w o rfl,Oper.uponIn_value];exact hK _ _ _ (Ext.new r e3 hm.kin (m3 _ _ _ _ hle (cm _ _ _) (da w obj))) (m2 _ _ _ hle (cm _ _ _))
 |e eo=>
  obtain⟨g',w',u,x1,x2,x3⟩:=Is hT r hG.env hc hv hr;rcases x3 o rfl with x4 | ⟨x4,hu⟩
  ·rw [x4,Oper.uponIn_value]
   exact hK g' w' u x1 x2
  ·subst hu
   rw [x4,Oper.uponIn_skip];exact hK g' w' undef x1 x2
 |call f=>
  have hr':call (.fn f) vs h=some (v,h'):=hr;obtain⟨args,at',he,ho⟩:∃args at',o.op= .call ⟨.value (.func f),args,at'⟩/\os=args.toList:=by
   exact ph hc
  subst ho;obtain⟨fn,k1,k2,k3,k4⟩:=hk.fn _ _ _ _ _ hr' g w _ r hG hv;have hrun:(execOp a.eval o).run P w= .ok (.enter f (args.map a.eval)) w:=by
   have hb:¬fn.body=none:=λe=>by rw [e]at k3;cases k3
   simp [execOp,he,resolve,Act.eval,Deferred.ofValue,invoke,callFunc,k1,k2,hb]
  have ha:(args.toList.map a.eval).toArray=args.map a.eval:=by apply Array.ext';simp
  rw [ha]at k4;rw [hrun,Oper.uponIn_enter];refine⟨iV rd,iF (k4.mono ?_)⟩;rintro e w' ⟨g',u,rfl,hu,hx⟩;exact hK g' w' u hx hu
 |callv=>
  obtain⟨x,args,at',he,ho⟩:∃x args at',o.op= .call ⟨.value x,args,at'⟩/\os=x ::args.toList:=by
   exact nG hc
  subst ho;cases hv with
  |cons hf hv=>
   rename_i fv vs
   have hr':lM call (fv ::vs) h=some (v,h'):=hr;obtain⟨d,k1,k2⟩:=ye hk r hG hf hv hr';have ha:(args.toList.map a.eval).toArray=args.map a.eval:=by apply Array.ext';simp
   rw [ha]at k1;rcases k2 with⟨f,us',m1,m2⟩ | ⟨b,l,tmps,m1,m2⟩
   ·have hrun:(execOp a.eval o).run P w= .ok (.enter f us') w:=by
     simp [execOp,he,resolve,k1,m1]
    rw [hrun,Oper.uponIn_enter];refine⟨iV rd,iF (m2.mono ?_)⟩;rintro e w' ⟨g',u,rfl,hu,hx⟩;exact hK g' w' u hx hu
   ·have hrun:(execOp a.eval o).run P w= .ok (.round b l.fn tmps l.assign l.body) w:=by
     simp [execOp,he,resolve,k1,m1]
    rw [hrun,Oper.uponIn_round];refine⟨iV rd,uV (m2.mono ?_)⟩;rintro e w' ⟨g',u,rfl,hu,hx⟩;exact hK g' w' u hx hu
end
end
section
variable [Env]
set_option linter.unusedSectionVars false
section
variable {P:Program} {T:Ty} {m N:Nat}
theorem dj(p:Nat×V)(l:AL)(t:Nat):lk (p ::l) t=if p.1=t then some p.2 else lk l t:=by
 show Bool.rec (motive:=λ_=>Option V) (lk l t) (some p.2) (Nat.beq p.1 t)=_;simp only [cC,Nat.beq_eq]
theorem qa(p:Nat×V)(l:AL)(t:Nat)(v:V):upd (p ::l) t v=if p.1=t then(t,v) ::l else p ::upd l t v:=by
 show Bool.rec (motive:=λ_=>AL) (p ::upd l t v) ((t,v) ::l) (Nat.beq p.1 t)=_;simp only [cC,Nat.beq_eq]
theorem mw(l:AL)(t:Nat)(v:V)(s:Nat):lk (upd l t v) s=if s=t then some v else lk l s:=by
 induction l with
 |nil=>
  show lk [(t,v)] s=_;rw [dj]
  by_cases h:t=s
  ·simp [h]
  ·rw [if_neg h,if_neg (λe=>h e.symm)]
 |cons p l ih=>
  rw [qa]
  by_cases h:p.1=t
  ·rw [if_pos h,dj,dj]
   by_cases h2:t=s
   ·simp [h2]
   ·rw [if_neg h2,if_neg (λe=>h2 e.symm),if_neg (by omega)]
  ·rw [if_neg h,dj,dj,ih]
   by_cases h2:p.1=s
   ·rw [if_pos h2,if_neg (by omega),if_pos h2]
   ·rw [if_neg h2,if_neg h2]
theorem tn{o:Option Tmp}{d:Dst}(hd:dst m N o=some d)(f:F)(v:V)(s:Nat):rdn m (d.put f v) s=if o=some s then some v else rdn m f s:=by
 cases o with
 |none=>cases hd;simp [Dst.put]
 |some t=>
  obtain⟨h1,h2⟩:=bK.1 (show oif (Nat.blt t N) (some (Bool.rec (motive:=λ_=>Dst) (.t t) (.l t) (bit m t)))=some d from hd);cases h2;cases hb:bit m t with
  |true=>
   show rdn m ⟨upd f.loc t v,f.tmp⟩ s=_;unfold rdn
   by_cases hs:bit m s=true
   ·rw [if_pos hs,if_pos hs,mw]
    by_cases e:s=t
    ·simp [e]
    ·rw [if_neg e,if_neg (λh=>e (Option.some.inj h).symm)]
   ·rw [if_neg hs,if_neg hs,if_neg]
    intro e;cases e;exact hs hb
  |false=>
   show rdn m ⟨f.loc,(t,v) ::f.tmp⟩ s=_;unfold rdn
   by_cases hs:bit m s=true
   ·rw [if_pos hs,if_pos hs,if_neg]
    intro e;cases e;rw [hb]at hs;cases hs
   ·rw [if_neg hs,if_neg hs,dj]
    by_cases e:t=s
    ·simp [e]
    ·rw [if_neg e,if_neg (λh=>e (Option.some.inj h))]
theorem xR{t:Tmp}{d:Dst}(hd:dst m N (some t)=some d):t<N:=by
 obtain⟨h1,_⟩:=bK.1 (show oif (Nat.blt t N) (some (Bool.rec (motive:=λ_=>Dst) (.t t) (.l t) (bit m t)))=some d from hd)
 simpa using h1
theorem jd(a:Act)(o:Option Tmp)(u:Value)(s:Nat):(a.put o u).tmps[s]? =if o=some s/\s<a.tmps.size then some u else a.tmps[s]? :=by
 cases o with
 |none=>simp [Act.put]
 |some t=>
  show(a.tmps.setIfInBounds t u)[s]? =_;rw [Array.getElem?_setIfInBounds]
  by_cases e:t=s
  ·subst e
   by_cases h:t<a.tmps.size
   ·simp [h]
   ·simp [h]
  ·simp [e]
theorem jU(a:Act)(o:Option Tmp)(u:Value):(a.put o u).tmps.size=a.tmps.size:=by
 cases o<;>simp [Act.put]
theorem dh(a:Act)(o:Option Tmp)(u:Value):(a.put o u).defers=a.defers:=by
 cases o<;>rfl
theorem FR.put{g:G}{f:F}{a:Act}{o:Option Tmp}{d:Dst}{v:V}{u:Value}(h:FR g m N f a.tmps)(hd:dst m N o=some d)(hv:VR g v u):FR g m N (d.put f v) (a.put o u).tmps:=by
 refine⟨by rw [jU];exact h.1,λs x e=>?_⟩;rw [tn hd]at e;rw [jd]
 by_cases ho:o=some s
 ·rw [if_pos ho]at e
  cases e;subst ho;refine⟨u,?_,hv⟩;rw [if_pos ⟨rfl,by rw [h.1];exact xR hd⟩]
 ·rw [if_neg ho]at e
  rw [if_neg (λh=>ho h.1)];exact h.2 s x e
theorem tD{t:Nat}{od:Opd}(h:opd T m (.tmp t)=some od)(f:F):od.ev f=rdn m f t:=by
 cases h;show Opd.ev f (Bool.rec (motive:=λ_=>Opd) (.t t) (.l t) (bit m t))=_;unfold rdn;cases hb:bit m t<;>rfl
theorem qA{g:G}{h0:H}{w0:World}(_hG:gY T g h0 w0){o:Operand}{od:Opd}{f:F}{a:Act}{v:V}(h:opd T m o=some od)(hv:od.ev f=some v)(hn:∀t,o= .tmp t->∀v,rdn m f t=some v->∃u,a.tmps[t]? =some u/\VR g v u):VR g v (a.eval o):=by
 cases o with
 |tmp t=>
  rw [tD h]at hv;obtain⟨u,h1,h2⟩:=hn t rfl v hv
  simpa [Act.eval,Array.getD_eq_getD_getElem?,h1]using h2
 |const c=>
  obtain⟨x,h1,h2⟩:=bE.1 (show ob (ofValue c) (λv=>some (Opd.c v))=some od from h);cases h2;cases hv;exact qB h1
 |global i=>
  cases h
 |func i=>
  cases h;cases hv;exact VR.func .nil .nil
theorem Cx(f:F)(o:Opd)(l:List Opd):evs f (o ::l)=ob (o.ev f) λv=>ob (evs f l) λvs=>some (v ::vs):=rfl
theorem d7{α β:Type}(f:α->Option β)(a:α)(l:List α):fK f (a ::l)=ob (f a) λb=>ob (fK f l) λr=>some (b ::r):=rfl
theorem jp{g:G}{h0:H}{w0:World}(hG:gY T g h0 w0){f:F}{a:Act}:∀{os:List Operand} {args:List Opd} {vs:List V},fK (opd T m) os=some args->evs f args=some vs->(∀t,.tmp t∈os->∀v,rdn m f t=some v->∃u,a.tmps[t]? =some u/\VR g v u)->
  VRs g vs (os.map a.eval)
 |[],args,vs,h,hv,_=>by
  cases h;cases hv;exact .nil
 |o ::os,args,vs,h,hv,hn=>by
  rw [d7]at h;obtain⟨od,h1,h2⟩:=bE.1 h;obtain⟨r,h3,h4⟩:=bE.1 h2;cases h4;rw [Cx]at hv;obtain⟨v,h5,h6⟩:=bE.1 hv;obtain⟨ws,h7,h8⟩:=bE.1 h6;cases h8;exact .cons (qA hG h1 h5 λt e=>hn t (by subst e;exact List.mem_cons_self)) (jp hG h3 h7 λt ht=>hn t (List.mem_cons_of_mem _ ht))
structure jK(T:Ty)(m N:Nat)(ops:Array Oper)(o:Oper)(co:bS):Prop where
 op:∃os,bI T o.op=some (co.op,os)/\fK (opd T m) os=some co.args
 dst:dst m N o.dst=some co.dst
 guard:(o.guard=none/\co.guard=none)\/∃i w t x,o.guard=some (i,w)/\Cg ops i=some t/\opd T m (.tmp t)=some x/\co.guard=some (x,w)
theorem dm{ops:Array Oper}{o:Oper}{co:bS}(h:eX T m N ops o=some co):jK T m N ops o co:=by
 obtain⟨c,h1,h2⟩:=bE.1 (show ob (bI T o.op) _=some co from h);obtain⟨args,h3,h4⟩:=bE.1 h2;obtain⟨d,h5,h6⟩:=bE.1 h4;obtain⟨gd,h7,h8⟩:=bE.1 h6;cases h8;refine⟨⟨c.2,h1,h3⟩,h5,?_⟩;cases hg:o.guard with
 |none=>rw [hg]at h7;cases h7;exact .inl ⟨rfl,rfl⟩
 |some p=>
  obtain⟨i,w⟩:=p;rw [hg]at h7;obtain⟨t,k1,k2⟩:=bE.1 h7;obtain⟨x,k3,k4⟩:=bE.1 k2;cases k4;exact .inr ⟨i,w,t,x,rfl,k1,k3,rfl⟩
theorem eW{g:G}{ops:Array Oper}{o:Oper}{co:bS}(hp:jK T m N ops o co){f:F}{a:Act}{b:Bool}(hg:bX f co.guard=some b)
  (hn:∀t,(∃i w,o.guard=some (i,w)/\Cg ops i=some t)->∀v,rdn m f t=some v->∃u,a.tmps[t]? =some u/\VR g v u):Region.wanted o (yielded ops a.tmps)=b:=by
 rcases hp.guard with⟨h1,h2⟩ | ⟨i,w,t,x,h1,h2,h3,h4⟩
 ·rw [h2]at hg
  cases hg;simp [Region.wanted,h1]
 ·rw [h4]at hg
  have hg:EB (x.ev f) w=some b:=hg;rw [tD h3]at hg;have h2':(ops[i]?).bind (·.dst)=some t:=h2;have hy:∀u,a.tmps[t]? =some u->yielded ops a.tmps i=(match u with | .bool b=>some b | _=>none):=by
   intro u hu;unfold yielded;rw [h2'];simp only [Option.bind_some,hu];cases u<;>rfl
  cases hv:rdn m f t with
  |none=>rw [hv]at hg;cases hg
  |some v=>
   rw [hv]at hg;obtain⟨u,k1,k2⟩:=hn t ⟨i,w,h1,h2⟩ v hv;unfold Region.wanted;rw [h1];simp only;rw [hy u k1];cases v with
   |bool c=>
    have hg:some (rz c w)=some b:=hg;cases hg;rw [k2.bool_inv,kE];simp
   |tup l=>
    cases l with
    |nil=>
     cases hg;cases k2 with
     |tup k2=>cases k2;rfl
    |cons=>cases hg
   |_=>cases hg
theorem uS(call:cB)(o:bS)(l:List bS)(f:F)(h:H):qu call (o ::l) f h=ob (o.run call f h) λr=>qu call l r.1 r.2:=rfl
theorem oH{call:cB}{co:bS}{f:F}{h:H}{r:F×H}(e:co.run call f h=some r):
  (bX f co.guard=some false/\r=(co.dst.put f cG,h))\/∃vs v h',bX f co.guard=some true/\evs f co.args=some vs/\co.op.run call vs h=some (v,h')/\r=(co.dst.put f v,h'):=by
 obtain⟨b,h1,h2⟩:=bE.1 (show ob (bX f co.guard) _=some r from e);cases b with
 |false=>cases h2;exact .inl ⟨h1,rfl⟩
 |true=>
  obtain⟨vs,h3,h4⟩:=bE.1 h2;obtain⟨p,h5,h6⟩:=bE.1 h4;cases h6;exact .inr ⟨vs,p.1,p.2,h1,h3,h5,rfl⟩
theorem FD(hT:cN P T){call:cB}(hk:dX P T call){ops:Array Oper}{rd:Option Nat}{Q:Exit->Act->World->Prop}:∀(suf:List Oper) (k:Nat) (cl:List bS) (f f':F) (h h':H) (g:G) (a:Act) (w:World),
  (∀i,i<suf.length->ops[k+i]? =suf[i]?)->fK (eX T m N ops) suf=some cl->qu call cl f h=some (f',h')->WR T g h w->gY T g h w->FR g m N f a.tmps->
  (∀g' a' w',Ext T g h w g' h' w'->FR g' m N f' a'.tmps->a'.defers=a.defers->Q .normal a' w')->wpOpsIn (fen rd) 0 P ops Q (List.range' k suf.length) a w:=by
 intro suf
 induction suf with
 |nil=>
  intro k cl f f' h h' g a w _ hc hr r hG hf hQ;cases hc;cases hr;exact hQ g a w (.refl r) hf rfl
 |cons o suf ih=>
  intro k cl f f' h h' g a w hidx hc hr r hG hf hQ;rw [d7]at hc;obtain⟨co,h1,h2⟩:=bE.1 hc;obtain⟨cl',h3,h4⟩:=bE.1 h2;cases h4;rw [uS]at hr;obtain⟨q,h5,h6⟩:=bE.1 hr;have hp:=dm h1;have ho:ops[k]? =some o:=by have:=hidx 0 (by simp);simpa using this
  have hidx':∀i,i<suf.length->ops[k+1+i]? =suf[i]? :=λi hi=>by
   have:=hidx (i+1) (by simp;omega);rw [show k+1+i=k+(i+1) by omega]
   simpa using this
  rw [List.length_cons,List.range'_succ,wpOpsIn_cons];unfold wpOpIn;simp only [ho];rcases oH h5 with⟨e1,rfl⟩ | ⟨vs,v,h'',e1,e2,e3,rfl⟩
  ·rw [eW hp e1 (λt _ v hv=>hf.2 t v hv)]
   refine⟨λ_ _=>trivial,?_⟩;refine ih (k+1) cl' _ f' h h' g _ w hidx' h3 h6 r hG (hf.put hp.dst fk) λg' a' w' x1 x2 x3=>hQ g' a' w' x1 x2 (x3.trans (dh _ _ _))
  ·rw [eW hp e1 (λt _ v hv=>hf.2 t v hv)]
   obtain⟨os,k1,k2⟩:=hp.op;refine lF hT hk r hG k1 (jp hG k2 e2 λt _ v hv=>hf.2 t v hv) e3 λg1 w1 u x1 x2=>?_;refine ih (k+1) cl' _ f' h'' h' g1 _ w1 hidx' h3 h6 x1.wr (hG.ext x1) ((hf.mono x1.le).put hp.dst x2) λg' a' w' y1 y2 y3=>hQ g' a' w' (x1.trans y1) y2 (y3.trans (dh _ _ _))
end
end
section
variable [Env]
set_option linter.unusedSectionVars false
section
variable {P:Program} {T:Ty} {m N:Nat}
theorem lu(a t:Nat):bit a t=a.testBit t:=by
 rw [Nat.testBit_eq_decide_div_mod_eq];unfold bit;rw [tF,zW,Bool.eq_iff_iff];simp
theorem lN(a i t:Nat):bit (eA a i) t=(bit a t||decide (t=i)):=by
 rw [lu,lu];show(a ||| (1 <<< i)).testBit t=_;rw [Nat.testBit_or,Nat.one_shiftLeft,Nat.testBit_two_pow]
 congr 1
 exact decide_eq_decide.2 ⟨λh=>h.symm,λh=>h.symm⟩
theorem Ep(a b t:Nat):bit (Nat.lor a b) t=(bit a t||bit b t):=by
 rw [lu,lu,lu];exact Nat.testBit_or a b t
theorem ry(t:Nat):bit 0 t=false:=by rw [lu];exact Nat.zero_testBit t
theorem C5(n t:Nat):bit (Nat.sub (Nat.pow 2 n) 1) t=decide (t<n):=by
 rw [lu];exact Nat.testBit_two_pow_sub_one n t
theorem vu{a b:Nat}(h:Nat.beq (Nat.land a b) a=true){t:Nat}(ht:bit a t=true):bit b t=true:=by
 have h:a &&& b=a:=by simpa using h
 rw [lu]at ht ⊢;rw [<-h,Nat.testBit_and]at ht;simp only [Bool.and_eq_true]at ht;exact ht.2
theorem tI{bs:List Nat}{o:Oper}{j:Nat}(h:bit (nO bs o) j=true):∃e∈o.after.toList,ig e=true/\(j=e.on\/bit (cH bs e.on) j=true):=by
 have gen:∀(l:List Edge) (s:Nat),bit (l.foldl (λs e=>Bool.rec (motive:=λ_=>Nat) s (Nat.lor s (eA (cH bs e.on) e.on)) (ig e)) s) j=true->
   bit s j=true\/∃e∈l,ig e=true/\(j=e.on\/bit (cH bs e.on) j=true):=by
  intro l
  induction l with
  |nil=>intro s h;exact .inl h
  |cons e l ih=>
   intro s h;rw [List.foldl_cons]at h;rcases ih _ h with k | ⟨e',k1,k2⟩
   ·cases hb:ig e with
    |false=>rw [hb]at k;exact .inl k
    |true=>
     rw [hb]at k;have k:bit (Nat.lor s (eA (cH bs e.on) e.on)) j=true:=k;rw [Ep,lN]at k;simp only [Bool.or_eq_true,decide_eq_true_eq]at k;rcases k with k|k|k
     ·exact .inl k
     ·exact .inr ⟨e,List.mem_cons_self,hb,.inr k⟩
     ·exact .inr ⟨e,List.mem_cons_self,hb,.inl k⟩
   ·exact .inr ⟨e',List.mem_cons_of_mem _ k1,k2⟩
 rcases gen o.after.toList 0 h with k|k
 ·rw [ry]at k;cases k
 ·exact k
theorem wg(e:Edge):Region.binds .any e=ig e:=by
 unfold Region.binds ig;cases e.ground<;>rfl
structure fR(T:Ty)(ops:Array Oper)(bs:List Nat):Prop where
 back:∀(i:Nat) o,ops[i]? =some o->∀e∈o.after.toList,ig e=true->e.on<i
 before:∀(i:Nat) o,ops[i]? =some o->∀j,bit (cH bs i) j=true->∃e∈o.after.toList,ig e=true/\(j=e.on\/bit (cH bs e.on) j=true)
 names:∀(i j:Nat) o p d,i≠j->ops[i]? =some o->ops[j]? =some p->p.dst=some d->d∈dF T ops o->(bit (cH bs i) j=true\/bit (cH bs j) i=true)/\o.dst≠some d
theorem qK{ops:Array Oper}{i:Nat}{o:Oper}(h:ops[i]? =some o):(o,i)∈ops.toList.zipIdx:=by
 rw [List.mem_zipIdx_iff_getElem?]
 simpa using h
theorem zM{ops:Array Oper}{bs:List Nat}(h:mS T ops bs=true):fR T ops bs:=by
 unfold mS at h;simp only [List.all_eq_true]at h;have cg:∀(i:Nat) o,ops[i]? =some o->(cH bs i=nO bs o/\∀e∈o.after.toList,ig e=true->e.on<i)/\
   ∀(j:Nat) p d,i≠j->ops[j]? =some p->p.dst=some d->d∈dF T ops o->(bit (cH bs i) j=true\/bit (cH bs j) i=true)/\o.dst≠some d:=by
  intro i o ho;have k:=h (o,i) (qK ho);simp only [Bool.and_eq_true,List.all_eq_true,Bool.or_eq_true]at k;obtain⟨⟨k1,k2⟩,k3⟩:=k;refine⟨⟨by simpa using k1,λe he hb=>?_⟩,λj p d hij hp hd hn=>?_⟩
  ·rcases k2 e he with q|q
   ·rw [hb]at q;cases q
   ·simpa using q
  ·have q:=k3 (p,j) (qK hp)
   rcases q with q|q
   ·exact absurd (by simpa using q) hij
   ·simp only [hd]at q
    have ha:(dF T ops o).any (Nat.beq d)=true:=by
     rw [List.any_eq_true];exact⟨d,hn,by simp⟩
    rw [ha]at q;simp only [Bool.not_true,Bool.false_or,Bool.and_eq_true,Bool.or_eq_true]at q;refine⟨q.1,λe=>?_⟩;have q2:=q.2;rw [e]at q2;simp at q2
 exact⟨λi o ho=>(cg i o ho).1.2,λi o ho j hj=>by rw [(cg i o ho).1.1]at hj;exact tI hj,λi j o p d hij ho hp hd hn=>(cg i o ho).2 j p d hij hp hd hn⟩
theorem wV(bs:List Nat)(isE:Nat->Bool)(full i:Nat)(l:List Nat)(done em:Nat):
  ve bs isE full (i ::l) done em=(Nat.beq (Nat.land (cH bs i) done) (cH bs i) && !bit done i&&Nat.beq (Nat.land em (cH bs i)) em&&ve bs isE full l (eA done i) (Bool.rec (motive:=λ_=>Nat) em (eA em i) (isE i))):=rfl
theorem oS{bs:List Nat}{isE:Nat->Bool}{full:Nat}:∀{l:List Nat} {done em:Nat},ve bs isE full l done em=true->
  (∀pre i post,l=pre++i ::post->(∀j,bit (cH bs i) j=true->bit done j=true\/j∈pre)/\bit done i=false/\i∉pre/\(∀j∈pre,isE j=true->bit (cH bs i) j=true)/\(∀j,bit em j=true->bit (cH bs i) j=true))/\
  ∀t,bit full t=true->bit done t=true\/t∈l
 |[],done,em,h=>by
  refine⟨λpre i post e=>by simp at e,λt ht=>.inl ?_⟩;have h:done=full:=by
   have h':Nat.beq done full=true:=h
   simpa using h'
  rw [h];exact ht
 |x ::l,done,em,h=>by
  rw [wV]at h;simp only [Bool.and_eq_true]at h;obtain⟨⟨⟨h1,h2⟩,h3⟩,h4⟩:=h;obtain⟨k1,k2⟩:=oS h4;refine⟨λpre i post e=>?_,λt ht=>?_⟩
  ·cases pre with
   |nil=>
    simp only [List.nil_append,List.cons.injEq]at e;obtain⟨rfl,rfl⟩:=e;exact⟨λj hj=>.inl (vu h1 hj),by simpa using h2,by simp,by simp,λj hj=>vu h3 hj⟩
   |cons y pre=>
    simp only [List.cons_append,List.cons.injEq]at e;obtain⟨rfl,rfl⟩:=e;obtain⟨m1,m2,m3,m4,m5⟩:=k1 pre i post rfl;rw [lN]at m2;simp only [Bool.or_eq_false_iff,decide_eq_false_iff_not]at m2;refine⟨λj hj=>?_,m2.1,?_,λj hj hE=>?_,λj hj=>?_⟩
    ·rcases m1 j hj with q|q
     ·rw [lN]at q
      simp only [Bool.or_eq_true,decide_eq_true_eq]at q;rcases q with q|q
      ·exact .inl q
      ·exact .inr (q▸List.mem_cons_self)
     ·exact .inr (List.mem_cons_of_mem _ q)
    ·intro q
     cases q with
     |head=>exact m2.2 rfl
     |tail _ q=>exact m3 q
    ·cases hj with
     |head=>
      refine m5 _ ?_;rw [hE];show bit (eA em x) x=true;rw [lN];simp
     |tail _ hj=>exact m4 j hj hE
    ·refine m5 j ?_
     cases hE:isE x with
     |false=>exact hj
     |true=>
      show bit (eA em x) j=true;rw [lN,hj];rfl
  ·rcases k2 t ht with q|q
   ·rw [lN]at q
    simp only [Bool.or_eq_true,decide_eq_true_eq]at q;rcases q with q|q
    ·exact .inl q
    ·exact .inr (q▸List.mem_cons_self)
   ·exact .inr (List.mem_cons_of_mem _ q)
structure iP(ops:Array Oper)(cl:List bS)(bs:List Nat)(ord:List Nat):Prop where
 pre:∀pre i post,ord=pre++i ::post->(∀j,bit (cH bs i) j=true->j∈pre)/\i∉pre/\∀j∈pre,dB cl j=true->bit (cH bs i) j=true
 all:∀i,i<ops.size->i∈ord
theorem v8{cl l:List bS}{ops:Array Oper}(h:sQ T cl ops=some l):∃bs ord,fR T ops bs/\iP ops cl bs ord/\
  qt cl (λi=>bY (((List.range ops.size).filter (dB cl)).filter λe=>!bit (cH bs e) i)) ord 0=some l:=by
 obtain⟨h1,h2⟩:=bK.1 (show oif (mS T ops (pY ops.toList)&&ve (pY ops.toList) (dB cl) (Nat.sub (Nat.pow 2 ops.size) 1) (B1 (pY ops.toList) (dB cl) ((List.range ops.size).filter (dB cl)) (List.range ops.size) (bY ((List.range ops.size).filter (dB cl)))) 0 0) _=some l from h);simp only [Bool.and_eq_true]at h1;obtain⟨k1,k2⟩:=oS h1.2;refine⟨_,_,zM h1.1,⟨λpre i post e=>?_,λi hi=>?_⟩,h2⟩
 ·obtain⟨m1,m2,m3,m4,m5⟩:=k1 pre i post e
  refine⟨λj hj=>?_,m3,m4⟩;rcases m1 j hj with q|q
  ·rw [ry]at q;cases q
  ·exact q
 ·rcases k2 i (by rw [C5];simpa using hi)with q|q
  ·rw [ry]at q;cases q
  ·exact q
end
end
section
variable [Env]
set_option linter.unusedSectionVars false
section
variable {P:Program} {T:Ty} {m N:Nat}
structure Ey(call:cB)(co:bS)(s:St)(v:V)(s':St):Prop where
 f:s'.f=co.dst.put s.f v
 hs:s'.hs=if isE co.op=true then s.h ::s.hs else s.hs
 main:(bX s.f co.guard=some false/\v=cG/\s'.h=s.h/\s'.cs=s.cs)\/
  ∃vs,bX s.f co.guard=some true/\evs s.f co.args=some vs/\co.op.run call vs s.h=some (v,s'.h)/\(∀q,co.op= .r q->s'.cs=⟨q,vs,v,co.lo,co.hi⟩ ::s.cs)/\((∀q,co.op≠.r q)->s'.cs=s.cs)
theorem Dl{call:cB}{co:bS}{s s':St}(h:co.runD call s=some s'):∃v,Ey call co s v s':=by
 obtain⟨b,h1,h2⟩:=bE.1 (show ob (bX s.f co.guard) _=some s' from h);have hhs:∀(a b:List H),(Bool.rec (motive:=λ_=>List H) a b (isE co.op))=if isE co.op=true then b else a:=λa b=>cC _ _ _
 cases b with
 |false=>
  cases h2;exact⟨cG,rfl,hhs _ _,.inl ⟨h1,rfl,rfl,rfl⟩⟩
 |true=>
  obtain⟨vs,h3,h4⟩:=bE.1 h2;obtain⟨r,h5,h6⟩:=bE.1 h4;cases h6;refine⟨r.1,rfl,hhs _ _,.inr ⟨vs,h1,h3,h5,λq hq=>?_,λhq=>?_⟩⟩
  ·rw [hq]
  ·cases hc:co.op with
   |r q=>exact absurd hc (hq q)
   |_=>rfl
structure Ent where
 i:Nat
 k:Nat
 v:V
 s:St
inductive dC(call:cB)(cl:List bS)(hi:Nat->Nat):Nat->St->List Ent->St->Prop
 |nil {k:Nat} {s:St}:dC call cl hi k s [] s
 |cons {i k:Nat} {s s' sn:St} {c:bS} {v:V} {tr:List Ent} (hc:cl[i]? =some c) (st:Ey call {c with lo:=k,hi:=hi i} s v s')
   (t:dC call cl hi (if isE c.op=true then k+1 else k) s' tr sn):dC call cl hi k s (⟨i,k,v,s⟩ ::tr) sn
theorem qr(cl:List bS)(hi:Nat->Nat)(i:Nat)(l:List Nat)(k:Nat):qt cl hi (i ::l) k=ob (d5 cl i) λc=>ob (qt cl hi l (if isE c.op=true then k+1 else k)) λr=>some ({c with lo:=k,hi:=hi i} ::r):=by
 show ob (d5 cl i) (λc=>ob (qt cl hi l (Bool.rec (motive:=λ_=>Nat) k (Nat.succ k) (isE c.op))) λr=>some ({c with lo:=k,hi:=hi i} ::r))=_;simp only [cC,Nat.succ_eq_add_one]
theorem uC{call:cB}{cl:List bS}{hi:Nat->Nat}:∀{ord:List Nat} {k:Nat} {l:List bS} {s sn:St},qt cl hi ord k=some l->fH call l s=some sn->∃tr,dC call cl hi k s tr sn/\tr.map (·.i)=ord
 |[],k,l,s,sn,h,hr=>by
  cases h;cases hr;exact⟨[],.nil,rfl⟩
 |i ::ord,k,l,s,sn,h,hr=>by
  rw [qr]at h;obtain⟨c,h1,h2⟩:=bE.1 h;obtain⟨r,h3,h4⟩:=bE.1 h2;cases h4;rw [dD]at h1;obtain⟨s',h5,h6⟩:=bE.1 (show ob (bS.runD call {c with lo:=k,hi:=hi i} s) (fH call r)=some sn from hr);obtain⟨v,hst⟩:=Dl h5;obtain⟨tr,k1,k2⟩:=uC h3 h6;exact⟨_,.cons h1 hst k1,by simp [k2]⟩
noncomputable def nE(cl:List bS)(l:List Ent):Nat:=(l.filter λe=>dB cl e.i).length
theorem dW{cl:List bS}{i:Nat}{c:bS}(h:cl[i]? =some c):dB cl i=isE c.op:=by
 unfold dB;rw [dD,h]
theorem dC.split{call:cB}{cl:List bS}{hi:Nat->Nat}:∀{A B:List Ent} {k:Nat} {s sn:St},dC call cl hi k s (A++B) sn->∃s',dC call cl hi k s A s'/\dC call cl hi (k+nE cl A) s' B sn
 |[],B,k,s,sn,h=>⟨s,.nil,h⟩
 |e ::A,B,k,s,sn,h=>by
  cases h with
  |cons hc st t=>
   rename_i i s1 c v
   obtain⟨s',k1,k2⟩:=dC.split (A:=A) t;refine⟨s',.cons hc st k1,?_⟩;have:(if isE c.op=true then k+1 else k)+nE cl A=k+nE cl (⟨i,k,v,s⟩ ::A):=by
    unfold nE;rw [List.filter_cons,dW hc]
    split<;>simp<;>omega
   rw [<-this];exact k2
theorem dC.append{call:cB}{cl:List bS}{hi:Nat->Nat}:∀{A B:List Ent} {k:Nat} {s s' sn:St},dC call cl hi k s A s'->dC call cl hi (k+nE cl A) s' B sn->dC call cl hi k s (A++B) sn
 |[],B,k,s,s',sn,h,h'=>by cases h;exact h'
 |e ::A,B,k,s,s',sn,h,h'=>by
  cases h with
  |cons hc st t=>
   rename_i i s1 c v
   have:(if isE c.op=true then k+1 else k)+nE cl A=k+nE cl (⟨i,k,v,s⟩ ::A):=by
    unfold nE;rw [List.filter_cons,dW hc]
    split<;>simp<;>omega
   rw [<-this]at h';exact .cons hc st (dC.append t h')
theorem dC.head{call:cB}{cl:List bS}{hi:Nat->Nat}{k:Nat}{s sn:St}{e:Ent}{B:List Ent}(h:dC call cl hi k s (e ::B) sn):e.s=s/\e.k=k/\∃c s',cl[e.i]? =some c/\Ey call {c with lo:=k,hi:=hi e.i} s e.v s'/\dC call cl hi (if isE c.op=true then k+1 else k) s' B sn:=by
 cases h with
 |cons hc st t=>exact⟨rfl,rfl,_,_,hc,st,t⟩
theorem dC.names{call:cB}{ops:Array Oper}{cl:List bS}{hi:Nat->Nat}(hcl:∀(i:Nat) c,cl[i]? =some c->∃o,ops[i]? =some o/\jK T m N ops o c):∀{tr:List Ent} {k:Nat} {s sn:St},dC call cl hi k s tr sn->
  (∀t,(∀e∈tr,(ops[e.i]?).bind (·.dst)≠some t)->rdn m sn.f t=rdn m s.f t)/\
  ∀A e B,tr=A++e ::B->∀t,(ops[e.i]?).bind (·.dst)=some t->(∀e'∈B,(ops[e'.i]?).bind (·.dst)≠some t)->rdn m sn.f t=some e.v
 |[],k,s,sn,h=>by
  cases h;exact⟨λ_ _=>rfl,λA e B h=>by simp at h⟩
 |x ::tr,k,s,sn,h=>by
  cases h with
  |cons hc st t=>
   rename_i i s' c v
   obtain⟨o,ho,hp⟩:=hcl i c hc;obtain⟨k1,k2⟩:=dC.names hcl t;have hput:∀t,rdn m s'.f t=if o.dst=some t then some v else rdn m s.f t:=λt=>by
    rw [st.f];exact tn hp.dst s.f v t
   refine⟨λt ht=>?_,λA e B he t hd hB=>?_⟩
   ·rw [k1 t λe he=>ht e (List.mem_cons_of_mem _ he),hput,if_neg]
    have:=ht _ List.mem_cons_self;simp only [ho,Option.bind_some]at this;exact this
   ·cases A with
    |nil=>
     simp only [List.nil_append,List.cons.injEq]at he;obtain⟨rfl,rfl⟩:=he;rw [k1 t hB,hput,if_pos];simp only [ho,Option.bind_some]at hd;exact hd
    |cons y A=>
     simp only [List.cons_append,List.cons.injEq]at he;exact k2 A e B he.2 t hd hB
theorem dC.hs{call:cB}{cl:List bS}{hi:Nat->Nat}:∀{tr:List Ent} {k:Nat} {s sn:St},dC call cl hi k s tr sn->sn.hs=((tr.filter λe=>dB cl e.i).map (·.s.h)).reverse++s.hs
 |[],k,s,sn,h=>by cases h;rfl
 |x ::tr,k,s,sn,h=>by
  cases h with
  |cons hc st t=>
   rename_i i s' c v
   rw [dC.hs t,st.hs,List.filter_cons,dW hc];show _++(if isE c.op=true then s.h ::s.hs else s.hs)=_
   by_cases hE:isE c.op=true
   ·simp [hE]
   ·simp [hE]
theorem dC.cs{call:cB}{cl:List bS}{hi:Nat->Nat}:∀{tr:List Ent} {k:Nat} {s sn:St},dC call cl hi k s tr sn->∀c∈s.cs,c∈sn.cs
 |[],k,s,sn,h=>by cases h;exact λ_ h=>h
 |x ::tr,k,s,sn,h=>by
  cases h with
  |cons hc st t=>
   rename_i i s' c v
   intro q hq;refine dC.cs t q ?_;rcases st.main with⟨_,_,_,h4⟩ | ⟨vs,_,_,_,h4,h5⟩
   ·rw [h4];exact hq
   ·cases hop:c.op with
    |r ro=>rw [h4 ro hop];exact List.mem_cons_of_mem _ hq
    |_=>rw [h5 (λq e=>by have e:c.op= .r q:=e;rw [hop]at e;cases e)];exact hq
theorem kX{r:V->V->Bool}(hr:∀x y,r x y=true->x=y):∀{a b:List V},(List.rec (motive:=λ_=>List V->Bool) (λl=>eR l true λ_ _=>false)
    (λu _ q l=>eR l false λv tl=>Bool.rec (motive:=λ_=>Bool) false (q tl) (r u v)) a:List V->Bool) b=true->a=b
 |[],[],_=>rfl
 |[],_ ::_,h=>by cases h
 |_ ::_,[],h=>by cases h
 |u ::a,v ::b,h=>by
  have h:Bool.rec (motive:=λ_=>Bool) false ((List.rec (motive:=λ_=>List V->Bool) (λl=>eR l true λ_ _=>false)
    (λu _ q l=>eR l false λv tl=>Bool.rec (motive:=λ_=>Bool) false (q tl) (r u v)) a:List V->Bool) b) (r u v)=true:=h
  rw [cC]at h
  split at h
  ·rename_i h1
   rw [hr _ _ h1,kX hr h]
  ·cases h
theorem uR:∀(n:Nat) (x y:V),Bx n x y=true->x=y
 |0,x,y,h=>by cases h
 |n+1,x,y,h=>by
  have ih:=uR n;cases x with
  |lst n es cs=>cases y<;>cases h
  |eptr cs off=>cases y<;>cases h
  |bool b=>cases y with
   |bool c=>
    have h:rz b c=true:=h;rw [kE]at h;simp at h;rw [h]
   |_=>cases h
  |int k a=>cases y with
   |int k' a'=>
    have h:(eqK k k'&&eqI a a')=true:=h;rw [iL,Bool.and_eq_true,rj]at h;obtain⟨h1,h2⟩:=h;rw [h1,eq_of_beq h2]
   |_=>cases h
  |str a b=>cases y with
   |str a' b'=>
    have h:Bool.rec (motive:=λ_=>Bool) false (Nat.beq b b') (Nat.beq a a')=true:=h;rw [cC]at h
    split at h
    ·rename_i h1
     rw [Nat.eq_of_beq_eq_true h1,Nat.eq_of_beq_eq_true h]
    ·cases h
   |_=>cases h
  |nilp=>cases y with
   |nilp=>rfl
   |_=>cases h
  |ptr a b=>cases y with
   |ptr a' b'=>
    have h:(Nat.beq a a'&&Nat.beq b b')=true:=h;simp only [Bool.and_eq_true,Nat.beq_eq]at h;rw [h.1,h.2]
   |_=>cases h
  |nils=>cases y with
   |nils=>rfl
   |_=>cases h
  |sl a b c d e f=>cases y with
   |sl a' b' c' d' e' f'=>
    have h:(Nat.beq a a'&&Nat.beq b b'&&Nat.beq c c'&&Nat.beq d d'&&rz e e'&&Nat.beq f f')=true:=h;rw [kE]at h;simp only [Bool.and_eq_true,Nat.beq_eq,beq_iff_eq]at h;obtain⟨⟨⟨⟨⟨h1,h2⟩,h3⟩,h4⟩,h5⟩,h6⟩:=h;rw [h1,h2,h3,h4,h5,h6]
   |_=>cases h
  |nilm=>cases y with
   |nilm=>rfl
   |_=>cases h
  |map a=>cases y with
   |map a'=>
    have h:Nat.beq a a'=true:=h;rw [Nat.beq_eq]at h;rw [h]
   |_=>cases h
  |func fn a b=>cases fn with
   |func f=>cases y with
    |func fn' a' b'=>cases fn' with
     |func f'=>
      have h:(Nat.beq f f'&&_&&_)=true:=h;simp only [Bool.and_eq_true,Nat.beq_eq]at h;obtain⟨⟨h1,h2⟩,h3⟩:=h;rw [h1,kX ih h2,kX ih h3]
     |_=>cases h
    |_=>cases h
   |_=>cases y<;>cases h
  |yld a=>cases y with
   |yld a'=>
    have h:Nat.beq a a'=true:=h;rw [Nat.beq_eq]at h;rw [h]
   |_=>cases h
  |nilf=>cases y with
   |nilf=>rfl
   |_=>cases h
  |iface t a=>cases y with
   |iface t' a'=>
    have h:(Nat.beq t t'&&Bx n a a')=true:=h;simp only [Bool.and_eq_true,Nat.beq_eq]at h;rw [h.1,ih _ _ h.2]
   |_=>cases h
  |nili=>cases y with
   |nili=>rfl
   |_=>cases h
  |agg a=>cases y with
   |agg b=>rw [kX ih h]
   |_=>cases h
  |tup a=>cases y with
   |tup b=>rw [kX ih h]
   |_=>cases h
theorem wR{c:Tc}{h:H}(k:mT c h=true):c.op.run c.vs h=some c.v:=by
 unfold mT at k;cases e:c.op.run c.vs h with
 |none=>rw [e]at k;cases k
 |some v=>
  rw [e]at k;rw [uR 20 v c.v k]
theorem oR{c:Tc}:∀{hs:List H} {i:Nat},jc c i hs=true->∀j h,hs[j]? =some h->c.lo<=i+j->i+j<=c.hi->mT c h=true
 |[],i,_,j,h,e,_,_=>by simp at e
 |x ::hs,i,k,j,h,e,h1,h2=>by
  have k:Bool.rec (motive:=λ_=>Bool) (Bool.rec (motive:=λ_=>Bool) false (jc c (i+1) hs) (mT c x)) (jc c (i+1) hs) (Nat.blt i c.lo||Nat.blt c.hi i)=true:=k;rw [cC,cC]at k;cases j with
  |zero=>
   simp at e;subst e;rw [if_neg]at k
   ·split at k
    ·assumption
    ·cases k
   ·simp
    omega
  |succ j=>
   have hr:jc c (i+1) hs=true:=by
    split at k
    ·exact k
    ·split at k
     ·exact k
     ·cases k
   exact oR hr j h (by simpa using e) (by omega) (by omega)
theorem pi{hs:List H}:∀{cs:List Tc},jt cs hs=true->∀c∈cs,jc c 0 hs=true
 |[],_,c,h=>by cases h
 |x ::cs,k,c,h=>by
  have k:Bool.rec (motive:=λ_=>Bool) false (jt cs hs) (jc x 0 hs)=true:=k;rw [cC]at k
  split at k
  ·rename_i hx
   cases h with
   |head=>exact hx
   |tail _ h=>exact pi k c h
  ·cases k
def bF(cs:List Tc)(hs:List H):Prop:=∀c∈cs,∀j h,hs[j]? =some h->c.lo<=j->j<=c.hi->c.op.run c.vs h=some c.v
theorem yb{cs:List Tc}{hs:List H}(k:jt cs hs=true):bF cs hs:=λc hc j h e h1 h2=>
 wR (oR (pi k c hc) j h e (by omega) (by omega))
theorem wS(o:bS)(l:List bS):iO (o ::l)=COp.rec (motive:=λ_=>Bool) (λ_=>iO l) (λ_=>iO l) (λ_=>false) (λ_=>false) (λ_=>false) false o.op:=rfl
theorem lY{call:cB}{h:H}:∀{l:List bS} {s s':St},iO l=true->fH call l s=some s'->s.h=h->s.hs=[]->(∀c∈s.cs,c.op.run c.vs h=some c.v)->s'.h=h/\s'.hs=[]/\∀c∈s'.cs,c.op.run c.vs h=some c.v
 |[],s,s',_,e,h1,h2,h3=>by cases e;exact⟨h1,h2,h3⟩
 |o ::l,s,s',q,e,h1,h2,h3=>by
  have e:ob (o.runD call s) (fH call l)=some s':=e;obtain⟨s1,e1,e2⟩:=bE.1 e;rw [wS]at q;unfold bS.runD at e1;obtain⟨b,_,e3⟩:=bE.1 e1;have main:iO l=true/\s1.h=h/\s1.hs=[]/\∀c∈s1.cs,c.op.run c.vs h=some c.v:=by
   obtain⟨d,op,args,gd,lo,hi⟩:=o;cases op with
   |p po=>
    refine⟨q,?_⟩;cases b with
    |false=>cases e3;exact⟨h1,h2,h3⟩
    |true=>
     obtain⟨vs,_,e4⟩:=bE.1 e3;obtain⟨r,e5,e6⟩:=bE.1 e4;obtain⟨v,_,e7⟩:=bE.1 (show ob (po.run vs) (λv=>some (v,s.h))=some r from e5);cases e7;cases e6;exact⟨h1,h2,h3⟩
   |r ro=>
    refine⟨q,?_⟩;cases b with
    |false=>cases e3;exact⟨h1,h2,h3⟩
    |true=>
     obtain⟨vs,_,e4⟩:=bE.1 e3;obtain⟨r,e5,e6⟩:=bE.1 e4;obtain⟨v,e8,e7⟩:=bE.1 (show ob (ro.run vs s.h) (λv=>some (v,s.h))=some r from e5);cases e7;cases e6;refine⟨h1,h2,λc hc=>?_⟩;cases hc with
     |head=>rw [<-h1];exact e8
     |tail _ hc=>exact h3 c hc
   |_=>cases q
  exact lY main.1 e2 main.2.1 main.2.2.1 main.2.2.2
theorem ya{call:cB}{l:List bS}{f:F}{h:H}{s:St}(e:fH call l ⟨f,h,[],[]⟩=some s)(k:(Bool.rec (motive:=λ_=>Bool) (jt s.cs (jb s.hs [s.h])) true (iO l):Bool)=true):bF s.cs (jb s.hs [s.h]):=by
 cases q:iO l with
 |false=>rw [q]at k;exact yb k
 |true=>
  obtain⟨h1,h2,h3⟩:=lY q e rfl rfl (λc hc=>by cases hc);intro c hc j x e _ _;rw [h2,h1]at e;have e:([h]:List H)[j]? =some x:=e;have:x=h:=by simpa using List.mem_of_getElem? e
  rw [this];exact h3 c hc
theorem tj{α:Type}:∀(l r:List α),jb l r=l.reverse++r
 |[],r=>rfl
 |x ::l,r=>by
  show jb l (x ::r)=_;rw [tj l];simp
theorem pI:∀{l l':List Nat},l.Nodup->(∀x∈l,x∈l')->l.length<=l'.length
 |[],_,_,_=>Nat.zero_le _
 |x ::l,l',hn,hs=>by
  have hx:=hs x List.mem_cons_self;rw [List.nodup_cons]at hn;have:=pI (l:=l) (l':=l'.erase x) hn.2 λy hy=>by
   have hne:y≠x:=λe=>hn.1 (e▸hy);exact(List.mem_erase_of_ne hne).2 (hs y (List.mem_cons_of_mem _ hy))
  rw [List.length_erase_of_mem hx]at this;have:0<l'.length:=List.length_pos_of_mem hx;simp only [List.length_cons];omega
end
end
end Ev
end Go.Proofs.YtdfphfdnoobikaaGreatDoor
