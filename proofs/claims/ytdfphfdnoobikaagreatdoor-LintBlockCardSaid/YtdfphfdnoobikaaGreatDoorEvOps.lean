/-
  All operations that make or write memory,together.
-/
import Derived.Test.YtdfphfdnoobikaaGreatDoorEvAppend
import Derived.OrdersIn
import Derived.RangeFuncRecord
namespace Go.Proofs.YtdfphfdnoobikaaGreatDoor
namespace Ev
section
variable [Env]
set_option linter.unusedSectionVars false
section
variable {P:Program} {T:Ty} {g:G} {ρ:Operand→Value} {h:H} {w:World}
theorem Hl(hT:cM P T)(r:WR T g h w)(hE:jJ g w){op:Op}{eo:EOp}{os:List Operand}(hc:bH T op=some (.e eo,os)){vs:List V}{v:V}{h':H}(hv:VRs g vs (os.map ρ))(hr:eo.run vs h=some (v,h')):Eff P T g h w ρ op v h':=by
 cases op
 case store t a x=>
  simp only [bH]at hc
  obtain⟨n,h1,h2⟩:=bC.1 hc
  cases h2
  obtain⟨p,q,rfl,ha,hb⟩:=hv.two
  exact zM hT r h1 ha hb hr
 case insert t m k x=>
  simp only [bH]at hc
  obtain⟨d,h1,h2⟩:=bC.1 hc
  cases d with
  |map kt e=>
   obtain⟨kk,h3,h4⟩:=bC.1 h2
   cases h4
   obtain⟨a,b,c,rfl,ha,hb,hcc⟩:=hv.three
   obtain⟨g',w',x1,x2,x3⟩:=sr hT r h1 h3 ha hb hcc hr
   exact⟨g',w',undef,x1,x2,fun o e=>.inr ⟨by simp [execOp,e,x3],rfl⟩⟩
  |_=>cases h2
 case mapUpdate t m k x=>
  simp only [bH]at hc
  obtain⟨d,h1,h2⟩:=bC.1 hc
  cases d with
  |map kt e=>
   obtain⟨kk,h3,h4⟩:=bC.1 h2
   cases h4
   obtain⟨a,b,c,rfl,ha,hb,hcc⟩:=hv.three
   obtain⟨g',w',x1,x2,x3⟩:=sr hT r h1 h3 ha hb hcc hr
   exact⟨g',w',undef,x1,x2,fun o e=>.inr ⟨by simp [execOp,e,x3],rfl⟩⟩
  |_=>cases h2
 case mapEntry t m k=>
  simp only [bH]at hc
  obtain⟨d,h1,h2⟩:=bC.1 hc
  cases d with
  |map kt e=>
   obtain⟨kk,h3,h4⟩:=bC.1 h2
   obtain⟨z,h5,h6⟩:=bC.1 h4
   cases h6
   obtain⟨a,b,rfl,ha,hb⟩:=hv.two
   obtain⟨g',w',u,x1,x2,x3⟩:=wV hT r h1 h3 h5 ha hb hr
   exact⟨g',w',u,x1,x2,fun o e=>.inl (by simp [execOp,e,x3])⟩
  |_=>cases h2
 case entryStore t m s x=>
  cases hc
  obtain⟨a,b,c,rfl,ha,hb,hcc⟩:=hv.three
  obtain⟨g',w',x1,x2,x3⟩:=zQ (P:=P) (t:=t) r ha hb hcc hr
  exact⟨g',w',undef,x1,x2,fun o e=>.inr ⟨by simp [execOp,e,x3],rfl⟩⟩
 case entry x=>
  cases hc
  obtain⟨a,rfl,ha⟩:=hv.one
  cases a<;>cases hr
 case next x b=>
  cases b with
  |false=>
   cases hc
   obtain⟨a,rfl,ha⟩:=hv.one
   exact zP r ha hr
  |true=>
   cases hc
   obtain⟨a,rfl,ha⟩:=hv.one
   exact zO r ha hr
 case call c=>
  obtain⟨callee,args,argTypes⟩:=c
  simp only [bH]at hc
  cases callee with
  |value x=>cases x<;>first|(cases hc;done)|(rename_i v;cases v<;>first|(cases hc;done)|(rename_i f _ _;cases f<;>cases hc))
  |invoke r m=>cases hc
  |builtin b=>
   obtain⟨t,h1,h2⟩:=bC.1 hc
   obtain⟨d,h3,h4⟩:=bC.1 h2
   have h1':argTypes[0]? =some t:=by rw [dA]at h1;simpa using h1
   cases b
   case len=>
    cases d<;>cases h4
   case append=>
    cases d with
    |slice e=>
     obtain⟨n,k1,a1⟩:=bC.1 h4
     obtain⟨i,k2,a2⟩:=bC.1 a1
     obtain⟨z,k3,a3⟩:=bC.1 a2
     obtain⟨k4,a4⟩:=bJ.1 a3
     obtain⟨u,k5,a5⟩:=bC.1 a4
     obtain⟨du,k6,a6⟩:=bC.1 a5
     have h5:argTypes[1]? =some u:=by rw [dA]at k5;simpa using k5
     simp only [Bool.and_eq_true,Nat.blt_eq,Nat.beq_eq,bS]at k4
     split at a6
     ·cases a6
      exact qR hT r hE h1' h3 k1 k2 k3 k4.1 k4.2.1 k4.2.2 h5 k6 (.inl ⟨_,rfl,rfl⟩) hv hr
     ·cases a6
      exact qR hT r hE h1' h3 k1 k2 k3 k4.1 k4.2.1 k4.2.2 h5 k6 (.inr ⟨rfl,rfl⟩) hv hr
     ·cases a6
    |_=>cases h4
   case copy=>
    cases d with
    |slice e=>
     obtain⟨n,k1,a1⟩:=bC.1 h4
     cases a1
     exact BK hT r hE h1' h3 k1 hv hr
    |_=>cases h4
   case clear=>
    cases d with
    |slice e=>
     obtain⟨n,k1,a1⟩:=bC.1 h4
     obtain⟨z,k2,a2⟩:=bC.1 a1
     cases a2
     exact zR hT r h1' h3 k2 hv hr
    |_=>cases h4
   case delete=>
    cases d with
    |map k e=>
     obtain⟨kk,k1,a1⟩:=bC.1 h4
     cases a1
     exact wW hT r h1' h3 k1 hv hr
    |_=>cases h4
   all_goals (cases d<;>cases h4)
 case alloc t=>
  simp only [bH]at hc
  obtain⟨z,h1,h⟩:=bC.1 hc
  cases h
 case buildSlice t n ps=>
  simp only [bH]at hc
  obtain⟨d,_,h⟩:=bC.1 hc
  cases d with
  |slice e=>
   obtain⟨_,_,a1⟩:=bC.1 h
   obtain⟨_,_,a2⟩:=bC.1 a1
   obtain⟨_,a3⟩:=bJ.1 a2
   cases a3
  |_=>cases h
 case makeMap t r=>
  simp only [bH]at hc
  obtain⟨d,_,h⟩:=bC.1 hc
  cases d<;>cases h
 case makeSlice t l c=>
  simp only [bH]at hc
  obtain⟨d,_,h⟩:=bC.1 hc
  cases d with
  |slice e=>
   obtain⟨_,_,a1⟩:=bC.1 h
   obtain⟨_,_,a2⟩:=bC.1 a1
   obtain⟨_,_,a3⟩:=bC.1 a2
   obtain⟨_,a4⟩:=bJ.1 a3
   cases a4
  |_=>cases h
 case range t x=>
  simp only [bH]at hc
  obtain⟨d,h1,h⟩:=bC.1 hc
  cases d<;>cases h
  obtain⟨a,rfl,ha⟩:=hv.one
  exact wU hT r h1 ha hr
 case load t x=>
  simp only [bH]at hc
  obtain⟨b,h1,h2⟩:=bC.1 hc
  obtain⟨n,h3,h4⟩:=bC.1 h2
  cases h4
 case lookup t x k ok=>
  simp only [bH]at hc
  obtain⟨d,h1,h2⟩:=bC.1 hc
  cases d with
  |map kt e=>
   obtain⟨kk,h3,h4⟩:=bC.1 h2
   obtain⟨z,h5,h6⟩:=bC.1 h4
   cases h6
  |_=>cases h2
 case binOp op t x y t'=>
  have eq2:∀{neg cst:Bool} {d:TypeDesc},qO T t neg cst d=some (.e eo)→False:=by
   intro neg cst d h2
   cases d with
   |interface e=>obtain⟨h4,h5⟩:=bJ.1 h2;cases h5
   |pointer e=>obtain⟨k,h4,h5⟩:=bC.1 h2;cases h5
   |struct fs=>obtain⟨k,h4,h5⟩:=bC.1 h2;cases h5
   |_=>cases h2
  cases op
  case eql=>
   simp only [bH]at hc
   obtain⟨d,h1,h2⟩:=bC.1 hc
   obtain⟨c,h3,h4⟩:=bC.1 h2
   cases h4
   exact(eq2 (neg:=false) h3).elim
  case neq=>
   simp only [bH]at hc
   obtain⟨d,h1,h2⟩:=bC.1 hc
   obtain⟨c,h3,h4⟩:=bC.1 h2
   cases h4
   exact(eq2 (neg:=true) h3).elim
  all_goals cases hc
 case build t ps=>
  simp only [bH]at hc
  obtain⟨z,h1,h2⟩:=bC.1 hc
  obtain⟨d,h3,h4⟩:=bC.1 h2
  cases d with
  |struct fs=>
   obtain⟨pl,h5,h6⟩:=bC.1 h4
   obtain⟨l,h7,h8⟩:=bC.1 h6
   cases h8
  |array k e=>
   obtain⟨n,h5,h6⟩:=bC.1 h4
   cases h6
  |_=>cases h4
 case convert s d x=>
  simp only [bH]at hc
  obtain⟨a,h1,h2⟩:=bC.1 hc
  obtain⟨b,h3,h4⟩:=bC.1 h2
  cases a<;>cases b<;>first|(cases h4;done)|(cases(fq h4).1)
 case makeInterface t x=>
  simp only [bH]at hc
  obtain⟨d,h1,h2⟩:=bC.1 hc
  cases d<;>cases h2
 case makeFunc fn a b=>cases fn<;>cases hc
 case slice t x lo hi mx=>
  simp only [bH]at hc
  obtain⟨d,_,h⟩:=bC.1 hc
  cases d with
  |string=>cases h
  |slice e=>obtain⟨_,_,a1⟩:=bC.1 h;cases a1
  |array k e=>obtain⟨_,_,a1⟩:=bC.1 h;cases a1
  |_=>cases h
 case fieldAddr t x i=>
  simp only [bH]at hc
  obtain⟨d,_,h⟩:=bC.1 hc
  cases d with
  |struct fs=>
   obtain⟨_,_,a1⟩:=bC.1 h
   obtain⟨_,_,a2⟩:=bC.1 a1
   cases a2
  |_=>cases h
 case field t x i=>
  simp only [bH]at hc
  obtain⟨d,_,h⟩:=bC.1 hc
  cases d with
  |struct fs=>
   obtain⟨_,_,a1⟩:=bC.1 h
   obtain⟨_,_,a2⟩:=bC.1 a1
   obtain⟨_,_,a3⟩:=bC.1 a2
   cases a3
  |_=>cases h
 case indexAddr t x i=>
  simp only [bH]at hc
  obtain⟨d,_,h⟩:=bC.1 hc
  cases d with
  |slice e=>obtain⟨_,_,a1⟩:=bC.1 h;cases a1
  |array k e=>obtain⟨_,_,a1⟩:=bC.1 h;cases a1
  |_=>cases h
 case index t x i=>
  simp only [bH]at hc
  obtain⟨d,_,h⟩:=bC.1 hc
  cases d with
  |string=>cases h
  |array k e=>
   obtain⟨_,_,a1⟩:=bC.1 h
   obtain⟨_,_,a2⟩:=bC.1 a1
   cases a2
  |_=>cases h
 all_goals cases hc
end
end
section
variable [Env]
set_option linter.unusedSectionVars false
section
variable {P:Program} {T:Ty}
def fen(r:Option Nat):Fence:={Fence.wide with round:=r}
structure gX(T:Ty)(g:G)(h:H)(w:World):Prop where
 pin:∀p,p∈T.pin→(∃z,g p.1=some (p.2.1,0,z))∧h.blk p.1=some (.ro p.2.2.1 p.2.2.2)
 env:jJ g w
theorem gX.ext{T:Ty}{g g':G}{h h':H}{w w':World}(k:gX T g h w)(x:Ext T g h w g' h' w'):gX T g' h' w':=⟨fun p hp=>by
 obtain⟨⟨z,hz⟩,hb⟩:=k.pin p hp
 exact⟨⟨z,x.le _ _ hz⟩,(x.ro _ _ _ _ _ _ hz hb).1⟩,k.env.ext x⟩
def rB(T:Ty)(g:G)(h:H)(w:World)(v:V)(h':H)(e:Ending)(w':World):Prop:=∃g' u,e= .returned u∧VR g' v u∧Ext T g h w g' h' w'
def lB(P:Program)(T:Ty)(f:FuncId)(us:List Value)(g:G)(h:H)(w:World)(v:V)(h':H):Prop:=
 ∃fn,P.funcs[f]? =some fn∧fn.name≠ "runtime.NumGoroutine"∧fn.body.isNone=false∧CallsIn Fence.wide 0 P f us.toArray w (rB T g h w v h')
def yO(P:Program)(T:Ty)(id:Nat)(us:List Value)(g:G)(h:H)(w:World)(v:V)(h':H):Prop:=
 ∀b o z,g id=some (b,o,z)→∃(l:Loop) (tmps:Array Value),(Instr.yield b us.toArray).run P w= .ok (.round b l.fn tmps l.assign l.body) w∧RoundIn Fence.wide 0 P b l.fn tmps l.assign l.body w (rB T g h w v h')
structure eu(P:Program)(T:Ty)(call:cB):Prop where
 fn:∀f vs h v h',call (.fn f) vs h=some (v,h')→∀g w us,WR T g h w→gX T g h w→VRs g vs us→lB P T f us g h w v h'
 yld:∀id vs h v h',call (.yld id) vs h=some (v,h')→∀g w us,WR T g h w→gX T g h w→VRs g vs us→yO P T id us g h w v h'
theorem ut{r:Option Nat}{l:Nat}{f:FuncId}{tmps:Array Value}{a b:Code}{w:World}{R:Ending→World→Prop}(h:RoundIn Fence.wide 0 P l f tmps a b w R):RoundIn (fen r) 0 P l f tmps a b w R:=h
theorem iH{r:Option Nat}{f:FuncId}{us:Array Value}{w:World}{R:Ending→World→Prop}(h:CallsIn Fence.wide 0 P f us w R):CallsIn (fen r) 0 P f us w R:=h
theorem iU(r:Option Nat):(fen r).depth.isSome=true→1≤0:=fun h=>by cases h
theorem fp{o:Op}{c:COp}{os:List Operand}(h:bH T o=some (c,os)):∀k,o≠.defer k:=by
 intro k e
 subst e
 cases h
theorem oQ{op:Op}{f:FuncId}{os:List Operand}(hc:bH T op=some (.call f,os)):∃args at',op= .call ⟨.value (.func f),args,at'⟩∧os=args.toList:=by
 cases op
 case call c=>
  obtain⟨callee,args,argTypes⟩:=c
  simp only [bH]at hc
  cases callee with
  |value x=>
   cases x with
   |func f'=>cases hc;exact⟨args,argTypes,rfl,rfl⟩
   |_=>cases hc
  |invoke r m=>cases hc
  |builtin b=>
   obtain⟨t,h1,h2⟩:=bC.1 hc
   obtain⟨d,h3,h4⟩:=bC.1 h2
   cases b
   case len=>cases d<;>cases h4
   case append=>
    cases d with
    |slice e=>
     obtain⟨n,_,a1⟩:=bC.1 h4
     obtain⟨_,_,a2⟩:=bC.1 a1
     obtain⟨_,_,a3⟩:=bC.1 a2
     obtain⟨_,a4⟩:=bJ.1 a3
     obtain⟨_,_,a5⟩:=bC.1 a4
     obtain⟨_,_,a6⟩:=bC.1 a5
     split at a6<;>cases a6
    |_=>cases h4
   case copy=>
    cases d with
    |slice e=>obtain⟨n,k1,a1⟩:=bC.1 h4;cases a1
    |_=>cases h4
   case clear=>
    cases d with
    |slice e=>
     obtain⟨n,k1,a1⟩:=bC.1 h4
     obtain⟨z,k2,a2⟩:=bC.1 a1
     cases a2
    |_=>cases h4
   case delete=>
    cases d with
    |map k e=>obtain⟨kk,k1,a1⟩:=bC.1 h4;cases a1
    |_=>cases h4
   all_goals (cases d<;>cases h4)
 case alloc t=>
  simp only [bH]at hc
  obtain⟨z,h1,h⟩:=bC.1 hc
  cases h
 case buildSlice t n ps=>
  simp only [bH]at hc
  obtain⟨d,_,h⟩:=bC.1 hc
  cases d with
  |slice e=>
   obtain⟨_,_,a1⟩:=bC.1 h
   obtain⟨_,_,a2⟩:=bC.1 a1
   obtain⟨_,a3⟩:=bJ.1 a2
   cases a3
  |_=>cases h
 case makeMap t r=>
  simp only [bH]at hc
  obtain⟨d,_,h⟩:=bC.1 hc
  cases d<;>cases h
 case makeSlice t l c=>
  simp only [bH]at hc
  obtain⟨d,_,h⟩:=bC.1 hc
  cases d with
  |slice e=>
   obtain⟨_,_,a1⟩:=bC.1 h
   obtain⟨_,_,a2⟩:=bC.1 a1
   obtain⟨_,_,a3⟩:=bC.1 a2
   obtain⟨_,a4⟩:=bJ.1 a3
   cases a4
  |_=>cases h
 case range t x=>
  simp only [bH]at hc
  obtain⟨d,_,h⟩:=bC.1 hc
  cases d<;>cases h
 case load t x=>
  simp only [bH]at hc
  obtain⟨b,h1,h2⟩:=bC.1 hc
  obtain⟨n,h3,h4⟩:=bC.1 h2
  cases h4
 case lookup t x k ok=>
  simp only [bH]at hc
  obtain⟨d,h1,h2⟩:=bC.1 hc
  cases d with
  |map kt e=>
   obtain⟨kk,h3,h4⟩:=bC.1 h2
   obtain⟨z,h5,h6⟩:=bC.1 h4
   cases h6
  |_=>cases h2
 case binOp op t x y t'=>
  have eq2:∀{neg cst:Bool} {d:TypeDesc},qO T t neg cst d=some (.call f)→False:=by
   intro neg cst d h2
   cases d with
   |interface e=>obtain⟨h4,h5⟩:=bJ.1 h2;cases h5
   |pointer e=>obtain⟨k,h4,h5⟩:=bC.1 h2;cases h5
   |struct fs=>obtain⟨k,h4,h5⟩:=bC.1 h2;cases h5
   |_=>cases h2
  cases op
  case eql=>
   simp only [bH]at hc
   obtain⟨d,h1,h2⟩:=bC.1 hc
   obtain⟨c,h3,h4⟩:=bC.1 h2
   cases h4
   exact(eq2 (neg:=false) h3).elim
  case neq=>
   simp only [bH]at hc
   obtain⟨d,h1,h2⟩:=bC.1 hc
   obtain⟨c,h3,h4⟩:=bC.1 h2
   cases h4
   exact(eq2 (neg:=true) h3).elim
  all_goals cases hc
 case build t ps=>
  simp only [bH]at hc
  obtain⟨z,h1,h2⟩:=bC.1 hc
  obtain⟨d,h3,h4⟩:=bC.1 h2
  cases d with
  |struct fs=>
   obtain⟨pl,h5,h6⟩:=bC.1 h4
   obtain⟨l,h7,h8⟩:=bC.1 h6
   cases h8
  |array k e=>
   obtain⟨n,h5,h6⟩:=bC.1 h4
   cases h6
  |_=>cases h4
 case convert s d x=>
  simp only [bH]at hc
  obtain⟨a,h1,h2⟩:=bC.1 hc
  obtain⟨b,h3,h4⟩:=bC.1 h2
  cases a<;>cases b<;>first|(cases h4;done)|(cases(fq h4).1)
 case makeInterface t x=>
  simp only [bH]at hc
  obtain⟨d,h1,h2⟩:=bC.1 hc
  cases d<;>cases h2
 case makeFunc fn a b=>cases fn<;>cases hc
 case slice t x lo hi mx=>
  simp only [bH]at hc
  obtain⟨d,_,h⟩:=bC.1 hc
  cases d with
  |string=>cases h
  |slice e=>obtain⟨_,_,a1⟩:=bC.1 h;cases a1
  |array k e=>obtain⟨_,_,a1⟩:=bC.1 h;cases a1
  |_=>cases h
 case fieldAddr t x i=>
  simp only [bH]at hc
  obtain⟨d,_,h⟩:=bC.1 hc
  cases d with
  |struct fs=>
   obtain⟨_,_,a1⟩:=bC.1 h
   obtain⟨_,_,a2⟩:=bC.1 a1
   cases a2
  |_=>cases h
 case field t x i=>
  simp only [bH]at hc
  obtain⟨d,_,h⟩:=bC.1 hc
  cases d with
  |struct fs=>
   obtain⟨_,_,a1⟩:=bC.1 h
   obtain⟨_,_,a2⟩:=bC.1 a1
   obtain⟨_,_,a3⟩:=bC.1 a2
   cases a3
  |_=>cases h
 case indexAddr t x i=>
  simp only [bH]at hc
  obtain⟨d,_,h⟩:=bC.1 hc
  cases d with
  |slice e=>obtain⟨_,_,a1⟩:=bC.1 h;cases a1
  |array k e=>obtain⟨_,_,a1⟩:=bC.1 h;cases a1
  |_=>cases h
 case index t x i=>
  simp only [bH]at hc
  obtain⟨d,_,h⟩:=bC.1 hc
  cases d with
  |string=>cases h
  |array k e=>
   obtain⟨_,_,a1⟩:=bC.1 h
   obtain⟨_,_,a2⟩:=bC.1 a1
   cases a2
  |_=>cases h
 case insert t m k x=>
  simp only [bH]at hc
  obtain⟨d,_,h⟩:=bC.1 hc
  cases d with
  |map k e=>
   obtain⟨_,_,a1⟩:=bC.1 h
   cases a1
  |_=>cases h
 case mapEntry t m k=>
  simp only [bH]at hc
  obtain⟨d,_,h⟩:=bC.1 hc
  cases d with
  |map k e=>
   obtain⟨_,_,a1⟩:=bC.1 h
   obtain⟨_,_,a2⟩:=bC.1 a1
   cases a2
  |_=>cases h
 case mapUpdate t m k x=>
  simp only [bH]at hc
  obtain⟨d,_,h⟩:=bC.1 hc
  cases d with
  |map k e=>
   obtain⟨_,_,a1⟩:=bC.1 h
   cases a1
  |_=>cases h
 case store t a x=>
  simp only [bH]at hc
  obtain⟨_,_,a1⟩:=bC.1 hc
  cases a1
 case next x b=>cases b<;>cases hc
 all_goals cases hc
theorem nr{op:Op}{os:List Operand}(hc:bH T op=some (.callv,os)):∃x args at',op= .call ⟨.value x,args,at'⟩∧os=x ::args.toList:=by
 cases op
 case call c=>
  obtain⟨callee,args,argTypes⟩:=c
  simp only [bH]at hc
  cases callee with
  |value x=>
   cases x with
   |func f'=>cases hc
   |_=>cases hc;exact⟨_,args,argTypes,rfl,rfl⟩
  |invoke r m=>cases hc
  |builtin b=>
   obtain⟨t,h1,h2⟩:=bC.1 hc
   obtain⟨d,h3,h4⟩:=bC.1 h2
   cases b
   case len=>cases d<;>cases h4
   case append=>
    cases d with
    |slice e=>
     obtain⟨n,_,a1⟩:=bC.1 h4
     obtain⟨_,_,a2⟩:=bC.1 a1
     obtain⟨_,_,a3⟩:=bC.1 a2
     obtain⟨_,a4⟩:=bJ.1 a3
     obtain⟨_,_,a5⟩:=bC.1 a4
     obtain⟨_,_,a6⟩:=bC.1 a5
     split at a6<;>cases a6
    |_=>cases h4
   case copy=>
    cases d with
    |slice e=>obtain⟨n,k1,a1⟩:=bC.1 h4;cases a1
    |_=>cases h4
   case clear=>
    cases d with
    |slice e=>
     obtain⟨n,k1,a1⟩:=bC.1 h4
     obtain⟨z,k2,a2⟩:=bC.1 a1
     cases a2
    |_=>cases h4
   case delete=>
    cases d with
    |map k e=>obtain⟨kk,k1,a1⟩:=bC.1 h4;cases a1
    |_=>cases h4
   all_goals (cases d<;>cases h4)
 case alloc t=>
  simp only [bH]at hc
  obtain⟨z,h1,h⟩:=bC.1 hc
  cases h
 case buildSlice t n ps=>
  simp only [bH]at hc
  obtain⟨d,_,h⟩:=bC.1 hc
  cases d with
  |slice e=>
   obtain⟨_,_,a1⟩:=bC.1 h
   obtain⟨_,_,a2⟩:=bC.1 a1
   obtain⟨_,a3⟩:=bJ.1 a2
   cases a3
  |_=>cases h
 case makeMap t r=>
  simp only [bH]at hc
  obtain⟨d,_,h⟩:=bC.1 hc
  cases d<;>cases h
 case makeSlice t l c=>
  simp only [bH]at hc
  obtain⟨d,_,h⟩:=bC.1 hc
  cases d with
  |slice e=>
   obtain⟨_,_,a1⟩:=bC.1 h
   obtain⟨_,_,a2⟩:=bC.1 a1
   obtain⟨_,_,a3⟩:=bC.1 a2
   obtain⟨_,a4⟩:=bJ.1 a3
   cases a4
  |_=>cases h
 case range t x=>
  simp only [bH]at hc
  obtain⟨d,_,h⟩:=bC.1 hc
  cases d<;>cases h
 case load t x=>
  simp only [bH]at hc
  obtain⟨b,h1,h2⟩:=bC.1 hc
  obtain⟨n,h3,h4⟩:=bC.1 h2
  cases h4
 case lookup t x k ok=>
  simp only [bH]at hc
  obtain⟨d,h1,h2⟩:=bC.1 hc
  cases d with
  |map kt e=>
   obtain⟨kk,h3,h4⟩:=bC.1 h2
   obtain⟨z,h5,h6⟩:=bC.1 h4
   cases h6
  |_=>cases h2
 case binOp op t x y t'=>
  have eq2:∀{neg cst:Bool} {d:TypeDesc},qO T t neg cst d=some (.callv)→False:=by
   intro neg cst d h2
   cases d with
   |interface e=>obtain⟨h4,h5⟩:=bJ.1 h2;cases h5
   |pointer e=>obtain⟨k,h4,h5⟩:=bC.1 h2;cases h5
   |struct fs=>obtain⟨k,h4,h5⟩:=bC.1 h2;cases h5
   |_=>cases h2
  cases op
  case eql=>
   simp only [bH]at hc
   obtain⟨d,h1,h2⟩:=bC.1 hc
   obtain⟨c,h3,h4⟩:=bC.1 h2
   cases h4
   exact(eq2 (neg:=false) h3).elim
  case neq=>
   simp only [bH]at hc
   obtain⟨d,h1,h2⟩:=bC.1 hc
   obtain⟨c,h3,h4⟩:=bC.1 h2
   cases h4
   exact(eq2 (neg:=true) h3).elim
  all_goals cases hc
 case build t ps=>
  simp only [bH]at hc
  obtain⟨z,h1,h2⟩:=bC.1 hc
  obtain⟨d,h3,h4⟩:=bC.1 h2
  cases d with
  |struct fs=>
   obtain⟨pl,h5,h6⟩:=bC.1 h4
   obtain⟨l,h7,h8⟩:=bC.1 h6
   cases h8
  |array k e=>
   obtain⟨n,h5,h6⟩:=bC.1 h4
   cases h6
  |_=>cases h4
 case convert s d x=>
  simp only [bH]at hc
  obtain⟨a,h1,h2⟩:=bC.1 hc
  obtain⟨b,h3,h4⟩:=bC.1 h2
  cases a<;>cases b<;>first|(cases h4;done)|(cases(fq h4).1)
 case makeInterface t x=>
  simp only [bH]at hc
  obtain⟨d,h1,h2⟩:=bC.1 hc
  cases d<;>cases h2
 case makeFunc fn a b=>cases fn<;>cases hc
 case slice t x lo hi mx=>
  simp only [bH]at hc
  obtain⟨d,_,h⟩:=bC.1 hc
  cases d with
  |string=>cases h
  |slice e=>obtain⟨_,_,a1⟩:=bC.1 h;cases a1
  |array k e=>obtain⟨_,_,a1⟩:=bC.1 h;cases a1
  |_=>cases h
 case fieldAddr t x i=>
  simp only [bH]at hc
  obtain⟨d,_,h⟩:=bC.1 hc
  cases d with
  |struct fs=>
   obtain⟨_,_,a1⟩:=bC.1 h
   obtain⟨_,_,a2⟩:=bC.1 a1
   cases a2
  |_=>cases h
 case field t x i=>
  simp only [bH]at hc
  obtain⟨d,_,h⟩:=bC.1 hc
  cases d with
  |struct fs=>
   obtain⟨_,_,a1⟩:=bC.1 h
   obtain⟨_,_,a2⟩:=bC.1 a1
   obtain⟨_,_,a3⟩:=bC.1 a2
   cases a3
  |_=>cases h
 case indexAddr t x i=>
  simp only [bH]at hc
  obtain⟨d,_,h⟩:=bC.1 hc
  cases d with
  |slice e=>obtain⟨_,_,a1⟩:=bC.1 h;cases a1
  |array k e=>obtain⟨_,_,a1⟩:=bC.1 h;cases a1
  |_=>cases h
 case index t x i=>
  simp only [bH]at hc
  obtain⟨d,_,h⟩:=bC.1 hc
  cases d with
  |string=>cases h
  |array k e=>
   obtain⟨_,_,a1⟩:=bC.1 h
   obtain⟨_,_,a2⟩:=bC.1 a1
   cases a2
  |_=>cases h
 case insert t m k x=>
  simp only [bH]at hc
  obtain⟨d,_,h⟩:=bC.1 hc
  cases d with
  |map k e=>
   obtain⟨_,_,a1⟩:=bC.1 h
   cases a1
  |_=>cases h
 case mapEntry t m k=>
  simp only [bH]at hc
  obtain⟨d,_,h⟩:=bC.1 hc
  cases d with
  |map k e=>
   obtain⟨_,_,a1⟩:=bC.1 h
   obtain⟨_,_,a2⟩:=bC.1 a1
   cases a2
  |_=>cases h
 case mapUpdate t m k x=>
  simp only [bH]at hc
  obtain⟨d,_,h⟩:=bC.1 hc
  cases d with
  |map k e=>
   obtain⟨_,_,a1⟩:=bC.1 h
   cases a1
  |_=>cases h
 case store t a x=>
  simp only [bH]at hc
  obtain⟨_,_,a1⟩:=bC.1 hc
  cases a1
 case next x b=>cases b<;>cases hc
 all_goals cases hc
theorem xn{call:cB}(hk:eu P T call){g:G}{h h':H}{w:World}(r:WR T g h w)(hG:gX T g h w){fv:V}{vs:List V}{fu:Value}{us:List Value}{v:V}(hf:VR g fv fu)(hv:VRs g vs us)(hr:lN call (fv ::vs) h=some (v,h')):
  ∃d,(∀w,(Deferred.ofValue fu us.toArray).run P w= .ok d w)∧((∃(f:FuncId) (us':Array Value),(∀w,(invoke d.target d.args).run P w= .ok (.enter f us') w)∧CallsIn Fence.wide 0 P f us' w (rB T g h w v h'))∨
   ∃(b:Nat) (l:Loop) (tmps:Array Value),(invoke d.target d.args).run P w= .ok (.round b l.fn tmps l.assign l.body) w∧RoundIn Fence.wide 0 P b l.fn tmps l.assign l.body w (rB T g h w v h')):=by
 cases fv with
 |func fn first captured=>
  cases fn<;>first|(cases hr;done)|skip
  rename_i f
  have hr':call (.fn f) (first++(vs++captured)) h=some (v,h'):=hr
  cases hf with
  |func ha hb=>
   rename_i x y
   obtain⟨fn,k1,k2,k3,k4⟩:=hk.fn _ _ _ _ _ hr' g w _ r hG (ha.append (hv.append hb))
   refine⟨⟨.fn (.func f) y.toArray,x.toArray++us.toArray⟩,fun w=>by simp [Deferred.ofValue],.inl ⟨f,(x++(us++y)).toArray,fun w=>?_,k4⟩⟩
   have he:x.toArray++us.toArray++y.toArray=(x++(us++y)).toArray:=by simp
   simp only [invoke,he]
   have hb:¬fn.body=none:=fun e=>by rw [e]at k3;cases k3
   simp [callFunc,k1,k2,hb]
 |yld id=>
  have hr':call (.yld id) vs h=some (v,h'):=hr
  cases hf with
  |yld hg=>
   rename_i b o z
   obtain⟨l,tmps,k1,k2⟩:=hk.yld _ _ _ _ _ hr' g w _ r hG hv b o z hg
   refine⟨⟨.fn (.yield b) #[],#[]++us.toArray⟩,fun w=>by simp [Deferred.ofValue],.inr ⟨b,l,tmps,?_,k2⟩⟩
   simp only [invoke]
   simpa using k1
 |_=>cases hr
theorem xp{call:cB}(hk:eu P T call){g:G}{h h':H}{w:World}(r:WR T g h w)(hG:gX T g h w){fv:V}{vs:List V}{fu:Value}{us:List Value}{v:V}(hfn:wE fv=true)(hf:VR g fv fu)(hv:VRs g vs us)(hr:lN call (fv ::vs) h=some (v,h')):
  ∃d,(∀w,(Deferred.ofValue fu us.toArray).run P w= .ok d w)∧∃(f:FuncId) (us':Array Value),(∀w,(invoke d.target d.args).run P w= .ok (.enter f us') w)∧CallsIn Fence.wide 0 P f us' w (rB T g h w v h'):=by
 cases fv with
 |func fn first captured=>
  cases fn<;>first|(cases hr;done)|skip
  rename_i f
  have hr':call (.fn f) (first++(vs++captured)) h=some (v,h'):=hr
  cases hf with
  |func ha hb=>
   rename_i x y
   obtain⟨fn,k1,k2,k3,k4⟩:=hk.fn _ _ _ _ _ hr' g w _ r hG (ha.append (hv.append hb))
   refine⟨⟨.fn (.func f) y.toArray,x.toArray++us.toArray⟩,fun w=>by simp [Deferred.ofValue],f,(x++(us++y)).toArray,fun w=>?_,k4⟩
   have he:x.toArray++us.toArray++y.toArray=(x++(us++y)).toArray:=by simp
   simp only [invoke,he]
   have hb:¬fn.body=none:=fun e=>by rw [e]at k3;cases k3
   simp [callFunc,k1,k2,hb]
 |_=>cases hfn
theorem lI(hT:cM P T){call:cB}(hk:eu P T call){g:G}{h h':H}{w:World}(r:WR T g h w)(hG:gX T g h w){o:Oper}{c:COp}{os:List Operand}{a:Act}(hc:bH T o.op=some (c,os)){vs:List V}{v:V}(hv:VRs g vs (os.map a.eval))
  (hr:c.run call vs h=some (v,h')) {rd:Option Nat} {K:Act→World→Prop} {Q:Exit→Act→World→Prop} (hK:∀g' w' u,Ext T g h w g' h' w'→VR g' v u→K (a.put o.dst u) w'):o.wpIn (fen rd) 0 P a w K Q:=by
 refine⟨fun _ _=>trivial,?_⟩
 rw [Oper.semAt_eq _ _ _ (fp hc)]
 cases c with
 |p po=>
  obtain⟨u,e1,e2⟩:=bC.1 (show ob (po.run vs) (fun v=>some (v,h))=some (v,h')from hr)
  cases e2
  obtain⟨x,k1,k2⟩:=Hk hT hc hv e1
  rw [k2 w o rfl,Oper.uponIn_value]
  exact hK g w x (.refl r) k1
 |r ro=>
  obtain⟨u,e1,e2⟩:=bC.1 (show ob (ro.run vs h) (fun v=>some (v,h))=some (v,h')from hr)
  cases e2
  obtain⟨x,k1,k2⟩:=Hj hT r hG.env hc hv e1
  rw [k2 o rfl,Oper.uponIn_value]
  exact hK g w x (.refl r) k1
 |a ao=>
  obtain⟨p,e1,e2⟩:=bC.1 (show ob (ao.run vs) (fun r=>ob (h.new r.1) fun h'=>some (r.2 h.next,h'))=some (v,h')from hr)
  obtain⟨h1,e3,e4⟩:=bC.1 e2
  cases e4
  obtain⟨blk,mk⟩:=p
  have hm:=DB (P:=P) hT hc hv e1
  obtain⟨obj,z,val,m1,m2,m3⟩:=hm.make
  have hnone:g h.next=none:=by
   cases e:g h.next with
   |none=>rfl
   |some x=>exact absurd (r.dom _ _ e) (by omega)
  have hle:=eR (g:=g) (w.heap.size,0,z) hnone
  rw [m1 w o rfl,Oper.uponIn_value]
  exact hK _ _ _ (Ext.new r e3 hm.kin (m3 _ _ _ _ hle (cg _ _ _) (da w obj))) (m2 _ _ _ hle (cg _ _ _))
 |e eo=>
  obtain⟨g',w',u,x1,x2,x3⟩:=Hl hT r hG.env hc hv hr
  rcases x3 o rfl with x4 | ⟨x4,hu⟩
  ·rw [x4,Oper.uponIn_value]
   exact hK g' w' u x1 x2
  ·subst hu
   rw [x4,Oper.uponIn_skip]
   exact hK g' w' undef x1 x2
 |call f=>
  have hr':call (.fn f) vs h=some (v,h'):=hr
  obtain⟨args,at',he,ho⟩:∃args at',o.op= .call ⟨.value (.func f),args,at'⟩∧os=args.toList:=by
   exact oQ hc
  subst ho
  obtain⟨fn,k1,k2,k3,k4⟩:=hk.fn _ _ _ _ _ hr' g w _ r hG hv
  have hrun:(execOp a.eval o).run P w= .ok (.enter f (args.map a.eval)) w:=by
   have hb:¬fn.body=none:=fun e=>by rw [e]at k3;cases k3
   simp [execOp,he,resolve,Act.eval,Deferred.ofValue,invoke,callFunc,k1,k2,hb]
  have ha:(args.toList.map a.eval).toArray=args.map a.eval:=by apply Array.ext';simp
  rw [ha]at k4
  rw [hrun,Oper.uponIn_enter]
  refine⟨iU rd,iH (k4.mono ?_)⟩
  rintro e w' ⟨g',u,rfl,hu,hx⟩
  exact hK g' w' u hx hu
 |callv=>
  obtain⟨x,args,at',he,ho⟩:∃x args at',o.op= .call ⟨.value x,args,at'⟩∧os=x ::args.toList:=by
   exact nr hc
  subst ho
  cases hv with
  |cons hf hv=>
   rename_i fv vs
   have hr':lN call (fv ::vs) h=some (v,h'):=hr
   obtain⟨d,k1,k2⟩:=xn hk r hG hf hv hr'
   have ha:(args.toList.map a.eval).toArray=args.map a.eval:=by apply Array.ext';simp
   rw [ha]at k1
   rcases k2 with⟨f,us',m1,m2⟩ | ⟨b,l,tmps,m1,m2⟩
   ·have hrun:(execOp a.eval o).run P w= .ok (.enter f us') w:=by
     simp [execOp,he,resolve,k1,m1]
    rw [hrun,Oper.uponIn_enter]
    refine⟨iU rd,iH (m2.mono ?_)⟩
    rintro e w' ⟨g',u,rfl,hu,hx⟩
    exact hK g' w' u hx hu
   ·have hrun:(execOp a.eval o).run P w= .ok (.round b l.fn tmps l.assign l.body) w:=by
     simp [execOp,he,resolve,k1,m1]
    rw [hrun,Oper.uponIn_round]
    refine⟨iU rd,ut (m2.mono ?_)⟩
    rintro e w' ⟨g',u,rfl,hu,hx⟩
    exact hK g' w' u hx hu
end
end
section
variable [Env]
set_option linter.unusedSectionVars false
section
variable {P:Program} {T:Ty} {m N:Nat}
theorem dh(p:Nat×V)(l:AL)(t:Nat):lk (p ::l) t=if p.1=t then some p.2 else lk l t:=by
 show Bool.rec (motive:=fun _=>Option V) (lk l t) (some p.2) (Nat.beq p.1 t)=_
 simp only [cq,Nat.beq_eq]
theorem pO(p:Nat×V)(l:AL)(t:Nat)(v:V):upd (p ::l) t v=if p.1=t then(t,v) ::l else p ::upd l t v:=by
 show Bool.rec (motive:=fun _=>AL) (p ::upd l t v) ((t,v) ::l) (Nat.beq p.1 t)=_
 simp only [cq,Nat.beq_eq]
theorem mr(l:AL)(t:Nat)(v:V)(s:Nat):lk (upd l t v) s=if s=t then some v else lk l s:=by
 induction l with
 |nil=>
  show lk [(t,v)] s=_
  rw [dh]
  by_cases h:t=s
  ·simp [h]
  ·rw [if_neg h,if_neg (fun e=>h e.symm)]
 |cons p l ih=>
  rw [pO]
  by_cases h:p.1=t
  ·rw [if_pos h,dh,dh]
   by_cases h2:t=s
   ·simp [h2]
   ·rw [if_neg h2,if_neg (fun e=>h2 e.symm),if_neg (by omega)]
  ·rw [if_neg h,dh,dh,ih]
   by_cases h2:p.1=s
   ·rw [if_pos h2,if_neg (by omega),if_pos h2]
   ·rw [if_neg h2,if_neg h2]
theorem sO{o:Option Tmp}{d:Dst}(hd:dst m N o=some d)(f:F)(v:V)(s:Nat):rdn m (d.put f v) s=if o=some s then some v else rdn m f s:=by
 cases o with
 |none=>cases hd;simp [Dst.put]
 |some t=>
  obtain⟨h1,h2⟩:=bJ.1 (show oif (Nat.blt t N) (some (Bool.rec (motive:=fun _=>Dst) (.t t) (.l t) (bit m t)))=some d from hd)
  cases h2
  cases hb:bit m t with
  |true=>
   show rdn m ⟨upd f.loc t v,f.tmp⟩ s=_
   unfold rdn
   by_cases hs:bit m s=true
   ·rw [if_pos hs,if_pos hs,mr]
    by_cases e:s=t
    ·simp [e]
    ·rw [if_neg e,if_neg (fun h=>e (Option.some.inj h).symm)]
   ·rw [if_neg hs,if_neg hs,if_neg]
    intro e
    cases e
    exact hs hb
  |false=>
   show rdn m ⟨f.loc,(t,v) ::f.tmp⟩ s=_
   unfold rdn
   by_cases hs:bit m s=true
   ·rw [if_pos hs,if_pos hs,if_neg]
    intro e
    cases e
    rw [hb]at hs
    cases hs
   ·rw [if_neg hs,if_neg hs,dh]
    by_cases e:t=s
    ·simp [e]
    ·rw [if_neg e,if_neg (fun h=>e (Option.some.inj h))]
theorem wX{t:Tmp}{d:Dst}(hd:dst m N (some t)=some d):t<N:=by
 obtain⟨h1,_⟩:=bJ.1 (show oif (Nat.blt t N) (some (Bool.rec (motive:=fun _=>Dst) (.t t) (.l t) (bit m t)))=some d from hd)
 simpa using h1
theorem jb(a:Act)(o:Option Tmp)(u:Value)(s:Nat):(a.put o u).tmps[s]? =if o=some s∧s<a.tmps.size then some u else a.tmps[s]? :=by
 cases o with
 |none=>simp [Act.put]
 |some t=>
  show(a.tmps.setIfInBounds t u)[s]? =_
  rw [Array.getElem?_setIfInBounds]
  by_cases e:t=s
  ·subst e
   by_cases h:t<a.tmps.size
   ·simp [h]
   ·simp [h]
  ·simp [e]
theorem jV(a:Act)(o:Option Tmp)(u:Value):(a.put o u).tmps.size=a.tmps.size:=by
 cases o<;>simp [Act.put]
theorem dg(a:Act)(o:Option Tmp)(u:Value):(a.put o u).defers=a.defers:=by
 cases o<;>rfl
theorem FR.put{g:G}{f:F}{a:Act}{o:Option Tmp}{d:Dst}{v:V}{u:Value}(h:FR g m N f a.tmps)(hd:dst m N o=some d)(hv:VR g v u):FR g m N (d.put f v) (a.put o u).tmps:=by
 refine⟨by rw [jV];exact h.1,fun s x e=>?_⟩
 rw [sO hd]at e
 rw [jb]
 by_cases ho:o=some s
 ·rw [if_pos ho]at e
  cases e
  subst ho
  refine⟨u,?_,hv⟩
  rw [if_pos ⟨rfl,by rw [h.1];exact wX hd⟩]
 ·rw [if_neg ho]at e
  rw [if_neg (fun h=>ho h.1)]
  exact h.2 s x e
theorem sS{t:Nat}{od:Opd}(h:opd T m (.tmp t)=some od)(f:F):od.ev f=rdn m f t:=by
 cases h
 show Opd.ev f (Bool.rec (motive:=fun _=>Opd) (.t t) (.l t) (bit m t))=_
 unfold rdn
 cases hb:bit m t<;>rfl
theorem qf{g:G}{h0:H}{w0:World}(_hG:gX T g h0 w0){o:Operand}{od:Opd}{f:F}{a:Act}{v:V}(h:opd T m o=some od)(hv:od.ev f=some v)(hn:∀t,o= .tmp t→∀v,rdn m f t=some v→∃u,a.tmps[t]? =some u∧VR g v u):VR g v (a.eval o):=by
 cases o with
 |tmp t=>
  rw [sS h]at hv
  obtain⟨u,h1,h2⟩:=hn t rfl v hv
  simpa [Act.eval,Array.getD_eq_getD_getElem?,h1]using h2
 |const c=>
  obtain⟨x,h1,h2⟩:=bC.1 (show ob (ofValue c) (fun v=>some (Opd.c v))=some od from h)
  cases h2
  cases hv
  exact qh h1
 |global i=>
  cases h
 |func i=>
  cases h
  cases hv
  exact VR.func .nil .nil
theorem BH(f:F)(o:Opd)(l:List Opd):evs f (o ::l)=ob (o.ev f) fun v=>ob (evs f l) fun vs=>some (v ::vs):=rfl
theorem dY{α β:Type}(f:α→Option β)(a:α)(l:List α):fI f (a ::l)=ob (f a) fun b=>ob (fI f l) fun r=>some (b ::r):=rfl
theorem jm{g:G}{h0:H}{w0:World}(hG:gX T g h0 w0){f:F}{a:Act}:∀{os:List Operand} {args:List Opd} {vs:List V},fI (opd T m) os=some args→evs f args=some vs→(∀t,.tmp t∈os→∀v,rdn m f t=some v→∃u,a.tmps[t]? =some u∧VR g v u)→
  VRs g vs (os.map a.eval)
 |[],args,vs,h,hv,_=>by
  cases h
  cases hv
  exact .nil
 |o ::os,args,vs,h,hv,hn=>by
  rw [dY]at h
  obtain⟨od,h1,h2⟩:=bC.1 h
  obtain⟨r,h3,h4⟩:=bC.1 h2
  cases h4
  rw [BH]at hv
  obtain⟨v,h5,h6⟩:=bC.1 hv
  obtain⟨ws,h7,h8⟩:=bC.1 h6
  cases h8
  exact .cons (qf hG h1 h5 fun t e=>hn t (by subst e;exact List.mem_cons_self)) (jm hG h3 h7 fun t ht=>hn t (List.mem_cons_of_mem _ ht))
structure jI(T:Ty)(m N:Nat)(ops:Array Oper)(o:Oper)(co:bQ):Prop where
 op:∃os,bH T o.op=some (co.op,os)∧fI (opd T m) os=some co.args
 dst:dst m N o.dst=some co.dst
 guard:(o.guard=none∧co.guard=none)∨∃i w t x,o.guard=some (i,w)∧Bp ops i=some t∧opd T m (.tmp t)=some x∧co.guard=some (x,w)
theorem dj{ops:Array Oper}{o:Oper}{co:bQ}(h:eX T m N ops o=some co):jI T m N ops o co:=by
 obtain⟨c,h1,h2⟩:=bC.1 (show ob (bH T o.op) _=some co from h)
 obtain⟨args,h3,h4⟩:=bC.1 h2
 obtain⟨d,h5,h6⟩:=bC.1 h4
 obtain⟨gd,h7,h8⟩:=bC.1 h6
 cases h8
 refine⟨⟨c.2,h1,h3⟩,h5,?_⟩
 cases hg:o.guard with
 |none=>rw [hg]at h7;cases h7;exact .inl ⟨rfl,rfl⟩
 |some p=>
  obtain⟨i,w⟩:=p
  rw [hg]at h7
  obtain⟨t,k1,k2⟩:=bC.1 h7
  obtain⟨x,k3,k4⟩:=bC.1 k2
  cases k4
  exact .inr ⟨i,w,t,x,rfl,k1,k3,rfl⟩
theorem eW{g:G}{ops:Array Oper}{o:Oper}{co:bQ}(hp:jI T m N ops o co){f:F}{a:Act}{b:Bool}(hg:bV f co.guard=some b)
  (hn:∀t,(∃i w,o.guard=some (i,w)∧Bp ops i=some t)→∀v,rdn m f t=some v→∃u,a.tmps[t]? =some u∧VR g v u):Region.wanted o (yielded ops a.tmps)=b:=by
 rcases hp.guard with⟨h1,h2⟩ | ⟨i,w,t,x,h1,h2,h3,h4⟩
 ·rw [h2]at hg
  cases hg
  simp [Region.wanted,h1]
 ·rw [h4]at hg
  have hg:DD (x.ev f) w=some b:=hg
  rw [sS h3]at hg
  have h2':(ops[i]?).bind (·.dst)=some t:=h2
  have hy:∀u,a.tmps[t]? =some u→yielded ops a.tmps i=(match u with | .bool b=>some b | _=>none):=by
   intro u hu
   unfold yielded
   rw [h2']
   simp only [Option.bind_some,hu]
   cases u<;>rfl
  cases hv:rdn m f t with
  |none=>rw [hv]at hg;cases hg
  |some v=>
   rw [hv]at hg
   obtain⟨u,k1,k2⟩:=hn t ⟨i,w,h1,h2⟩ v hv
   unfold Region.wanted
   rw [h1]
   simp only
   rw [hy u k1]
   cases v with
   |bool c=>
    have hg:some (rf c w)=some b:=hg
    cases hg
    rw [k2.bool_inv,kD]
    simp
   |tup l=>
    cases l with
    |nil=>
     cases hg
     cases k2 with
     |tup k2=>cases k2;rfl
    |cons=>cases hg
   |_=>cases hg
theorem ur(call:cB)(o:bQ)(l:List bQ)(f:F)(h:H):pZ call (o ::l) f h=ob (o.run call f h) fun r=>pZ call l r.1 r.2:=rfl
theorem oh{call:cB}{co:bQ}{f:F}{h:H}{r:F×H}(e:co.run call f h=some r):
  (bV f co.guard=some false∧r=(co.dst.put f cF,h))∨∃vs v h',bV f co.guard=some true∧evs f co.args=some vs∧co.op.run call vs h=some (v,h')∧r=(co.dst.put f v,h'):=by
 obtain⟨b,h1,h2⟩:=bC.1 (show ob (bV f co.guard) _=some r from e)
 cases b with
 |false=>cases h2;exact .inl ⟨h1,rfl⟩
 |true=>
  obtain⟨vs,h3,h4⟩:=bC.1 h2
  obtain⟨p,h5,h6⟩:=bC.1 h4
  cases h6
  exact .inr ⟨vs,p.1,p.2,h1,h3,h5,rfl⟩
theorem Ez(hT:cM P T){call:cB}(hk:eu P T call){ops:Array Oper}{rd:Option Nat}{Q:Exit→Act→World→Prop}:∀(suf:List Oper) (k:Nat) (cl:List bQ) (f f':F) (h h':H) (g:G) (a:Act) (w:World),
  (∀i,i<suf.length→ops[k+i]? =suf[i]?)→fI (eX T m N ops) suf=some cl→pZ call cl f h=some (f',h')→WR T g h w→gX T g h w→FR g m N f a.tmps→
  (∀g' a' w',Ext T g h w g' h' w'→FR g' m N f' a'.tmps→a'.defers=a.defers→Q .normal a' w')→wpOpsIn (fen rd) 0 P ops Q (List.range' k suf.length) a w:=by
 intro suf
 induction suf with
 |nil=>
  intro k cl f f' h h' g a w _ hc hr r hG hf hQ
  cases hc
  cases hr
  exact hQ g a w (.refl r) hf rfl
 |cons o suf ih=>
  intro k cl f f' h h' g a w hidx hc hr r hG hf hQ
  rw [dY]at hc
  obtain⟨co,h1,h2⟩:=bC.1 hc
  obtain⟨cl',h3,h4⟩:=bC.1 h2
  cases h4
  rw [ur]at hr
  obtain⟨q,h5,h6⟩:=bC.1 hr
  have hp:=dj h1
  have ho:ops[k]? =some o:=by have:=hidx 0 (by simp);simpa using this
  have hidx':∀i,i<suf.length→ops[k+1+i]? =suf[i]? :=fun i hi=>by
   have:=hidx (i+1) (by simp;omega)
   rw [show k+1+i=k+(i+1) by omega]
   simpa using this
  rw [List.length_cons,List.range'_succ,wpOpsIn_cons]
  unfold wpOpIn
  simp only [ho]
  rcases oh h5 with⟨e1,rfl⟩ | ⟨vs,v,h'',e1,e2,e3,rfl⟩
  ·rw [eW hp e1 (fun t _ v hv=>hf.2 t v hv)]
   refine⟨fun _ _=>trivial,?_⟩
   refine ih (k+1) cl' _ f' h h' g _ w hidx' h3 h6 r hG (hf.put hp.dst fy) fun g' a' w' x1 x2 x3=>hQ g' a' w' x1 x2 (x3.trans (dg _ _ _))
  ·rw [eW hp e1 (fun t _ v hv=>hf.2 t v hv)]
   obtain⟨os,k1,k2⟩:=hp.op
   refine lI hT hk r hG k1 (jm hG k2 e2 fun t _ v hv=>hf.2 t v hv) e3 fun g1 w1 u x1 x2=>?_
   refine ih (k+1) cl' _ f' h'' h' g1 _ w1 hidx' h3 h6 x1.wr (hG.ext x1) ((hf.mono x1.le).put hp.dst x2) fun g' a' w' y1 y2 y3=>hQ g' a' w' (x1.trans y1) y2 (y3.trans (dg _ _ _))
end
end
section
variable [Env]
set_option linter.unusedSectionVars false
section
variable {P:Program} {T:Ty} {m N:Nat}
theorem ly(a t:Nat):bit a t=a.testBit t:=by
 rw [Nat.testBit_eq_decide_div_mod_eq]
 unfold bit
 rw [sU,ze,Bool.eq_iff_iff]
 simp
theorem lO(a i t:Nat):bit (ef a i) t=(bit a t||decide (t=i)):=by
 rw [ly,ly]
 show(a ||| (1 <<< i)).testBit t=_
 rw [Nat.testBit_or,Nat.one_shiftLeft,Nat.testBit_two_pow]
 congr 1
 exact decide_eq_decide.2 ⟨fun h=>h.symm,fun h=>h.symm⟩
theorem Ds(a b t:Nat):bit (Nat.lor a b) t=(bit a t||bit b t):=by
 rw [ly,ly,ly]
 exact Nat.testBit_or a b t
theorem rc(t:Nat):bit 0 t=false:=by rw [ly];exact Nat.zero_testBit t
theorem B4(n t:Nat):bit (Nat.sub (Nat.pow 2 n) 1) t=decide (t<n):=by
 rw [ly]
 exact Nat.testBit_two_pow_sub_one n t
theorem uO{a b:Nat}(h:Nat.beq (Nat.land a b) a=true){t:Nat}(ht:bit a t=true):bit b t=true:=by
 have h:a &&& b=a:=by simpa using h
 rw [ly]at ht ⊢
 rw [←h,Nat.testBit_and]at ht
 simp only [Bool.and_eq_true]at ht
 exact ht.2
theorem sW{bs:List Nat}{o:Oper}{j:Nat}(h:bit (nD bs o) j=true):∃e∈o.after.toList,ie e=true∧(j=e.on∨bit (cG bs e.on) j=true):=by
 have gen:∀(l:List Edge) (s:Nat),bit (l.foldl (fun s e=>Bool.rec (motive:=fun _=>Nat) s (Nat.lor s (ef (cG bs e.on) e.on)) (ie e)) s) j=true→
   bit s j=true∨∃e∈l,ie e=true∧(j=e.on∨bit (cG bs e.on) j=true):=by
  intro l
  induction l with
  |nil=>intro s h;exact .inl h
  |cons e l ih=>
   intro s h
   rw [List.foldl_cons]at h
   rcases ih _ h with k | ⟨e',k1,k2⟩
   ·cases hb:ie e with
    |false=>rw [hb]at k;exact .inl k
    |true=>
     rw [hb]at k
     have k:bit (Nat.lor s (ef (cG bs e.on) e.on)) j=true:=k
     rw [Ds,lO]at k
     simp only [Bool.or_eq_true,decide_eq_true_eq]at k
     rcases k with k|k|k
     ·exact .inl k
     ·exact .inr ⟨e,List.mem_cons_self,hb,.inr k⟩
     ·exact .inr ⟨e,List.mem_cons_self,hb,.inl k⟩
   ·exact .inr ⟨e',List.mem_cons_of_mem _ k1,k2⟩
 rcases gen o.after.toList 0 h with k|k
 ·rw [rc]at k;cases k
 ·exact k
theorem vA(e:Edge):Region.binds .any e=ie e:=by
 unfold Region.binds ie
 cases e.ground<;>rfl
structure fR(T:Ty)(ops:Array Oper)(bs:List Nat):Prop where
 back:∀(i:Nat) o,ops[i]? =some o→∀e∈o.after.toList,ie e=true→e.on<i
 before:∀(i:Nat) o,ops[i]? =some o→∀j,bit (cG bs i) j=true→∃e∈o.after.toList,ie e=true∧(j=e.on∨bit (cG bs e.on) j=true)
 names:∀(i j:Nat) o p d,i≠j→ops[i]? =some o→ops[j]? =some p→p.dst=some d→d∈dD T ops o→(bit (cG bs i) j=true∨bit (cG bs j) i=true)∧o.dst≠some d
theorem qv{ops:Array Oper}{i:Nat}{o:Oper}(h:ops[i]? =some o):(o,i)∈ops.toList.zipIdx:=by
 rw [List.mem_zipIdx_iff_getElem?]
 simpa using h
theorem y5{ops:Array Oper}{bs:List Nat}(h:mO T ops bs=true):fR T ops bs:=by
 unfold mO at h
 simp only [List.all_eq_true]at h
 have bX:∀(i:Nat) o,ops[i]? =some o→(cG bs i=nD bs o∧∀e∈o.after.toList,ie e=true→e.on<i)∧
   ∀(j:Nat) p d,i≠j→ops[j]? =some p→p.dst=some d→d∈dD T ops o→(bit (cG bs i) j=true∨bit (cG bs j) i=true)∧o.dst≠some d:=by
  intro i o ho
  have k:=h (o,i) (qv ho)
  simp only [Bool.and_eq_true,List.all_eq_true,Bool.or_eq_true]at k
  obtain⟨⟨k1,k2⟩,k3⟩:=k
  refine⟨⟨by simpa using k1,fun e he hb=>?_⟩,fun j p d hij hp hd hn=>?_⟩
  ·rcases k2 e he with q|q
   ·rw [hb]at q;cases q
   ·simpa using q
  ·have q:=k3 (p,j) (qv hp)
   rcases q with q|q
   ·exact absurd (by simpa using q) hij
   ·simp only [hd]at q
    have ha:(dD T ops o).any (Nat.beq d)=true:=by
     rw [List.any_eq_true]
     exact⟨d,hn,by simp⟩
    rw [ha]at q
    simp only [Bool.not_true,Bool.false_or,Bool.and_eq_true,Bool.or_eq_true]at q
    refine⟨q.1,fun e=>?_⟩
    have q2:=q.2
    rw [e]at q2
    simp at q2
 exact⟨fun i o ho=>(bX i o ho).1.2,fun i o ho j hj=>by rw [(bX i o ho).1.1]at hj;exact sW hj,fun i j o p d hij ho hp hd hn=>(bX i o ho).2 j p d hij hp hd hn⟩
theorem vY(bs:List Nat)(isE:Nat→Bool)(full i:Nat)(l:List Nat)(done em:Nat):
  uC bs isE full (i ::l) done em=(Nat.beq (Nat.land (cG bs i) done) (cG bs i) && !bit done i&&Nat.beq (Nat.land em (cG bs i)) em&&uC bs isE full l (ef done i) (Bool.rec (motive:=fun _=>Nat) em (ef em i) (isE i))):=rfl
theorem oD{bs:List Nat}{isE:Nat→Bool}{full:Nat}:∀{l:List Nat} {done em:Nat},uC bs isE full l done em=true→
  (∀pre i post,l=pre++i ::post→(∀j,bit (cG bs i) j=true→bit done j=true∨j∈pre)∧bit done i=false∧i∉pre∧(∀j∈pre,isE j=true→bit (cG bs i) j=true)∧(∀j,bit em j=true→bit (cG bs i) j=true))∧
  ∀t,bit full t=true→bit done t=true∨t∈l
 |[],done,em,h=>by
  refine⟨fun pre i post e=>by simp at e,fun t ht=>.inl ?_⟩
  have h:done=full:=by
   have h':Nat.beq done full=true:=h
   simpa using h'
  rw [h]
  exact ht
 |x ::l,done,em,h=>by
  rw [vY]at h
  simp only [Bool.and_eq_true]at h
  obtain⟨⟨⟨h1,h2⟩,h3⟩,h4⟩:=h
  obtain⟨k1,k2⟩:=oD h4
  refine⟨fun pre i post e=>?_,fun t ht=>?_⟩
  ·cases pre with
   |nil=>
    simp only [List.nil_append,List.cons.injEq]at e
    obtain⟨rfl,rfl⟩:=e
    exact⟨fun j hj=>.inl (uO h1 hj),by simpa using h2,by simp,by simp,fun j hj=>uO h3 hj⟩
   |cons y pre=>
    simp only [List.cons_append,List.cons.injEq]at e
    obtain⟨rfl,rfl⟩:=e
    obtain⟨m1,m2,m3,m4,m5⟩:=k1 pre i post rfl
    rw [lO]at m2
    simp only [Bool.or_eq_false_iff,decide_eq_false_iff_not]at m2
    refine⟨fun j hj=>?_,m2.1,?_,fun j hj hE=>?_,fun j hj=>?_⟩
    ·rcases m1 j hj with q|q
     ·rw [lO]at q
      simp only [Bool.or_eq_true,decide_eq_true_eq]at q
      rcases q with q|q
      ·exact .inl q
      ·exact .inr (q▸List.mem_cons_self)
     ·exact .inr (List.mem_cons_of_mem _ q)
    ·intro q
     cases q with
     |head=>exact m2.2 rfl
     |tail _ q=>exact m3 q
    ·cases hj with
     |head=>
      refine m5 _ ?_
      rw [hE]
      show bit (ef em x) x=true
      rw [lO]
      simp
     |tail _ hj=>exact m4 j hj hE
    ·refine m5 j ?_
     cases hE:isE x with
     |false=>exact hj
     |true=>
      show bit (ef em x) j=true
      rw [lO,hj]
      rfl
  ·rcases k2 t ht with q|q
   ·rw [lO]at q
    simp only [Bool.or_eq_true,decide_eq_true_eq]at q
    rcases q with q|q
    ·exact .inl q
    ·exact .inr (q▸List.mem_cons_self)
   ·exact .inr (List.mem_cons_of_mem _ q)
structure iP(ops:Array Oper)(cl:List bQ)(bs:List Nat)(ord:List Nat):Prop where
 pre:∀pre i post,ord=pre++i ::post→(∀j,bit (cG bs i) j=true→j∈pre)∧i∉pre∧∀j∈pre,dw cl j=true→bit (cG bs i) j=true
 all:∀i,i<ops.size→i∈ord
theorem vp{cl l:List bQ}{ops:Array Oper}(h:sv T cl ops=some l):∃bs ord,fR T ops bs∧iP ops cl bs ord∧
  pY cl (fun i=>bU (((List.range ops.size).filter (dw cl)).filter fun e=>!bit (cG bs e) i)) ord 0=some l:=by
 obtain⟨h1,h2⟩:=bJ.1 (show oif (mO T ops (pM ops.toList)&&uC (pM ops.toList) (dw cl) (Nat.sub (Nat.pow 2 ops.size) 1) (A8 (pM ops.toList) (dw cl) ((List.range ops.size).filter (dw cl)) (List.range ops.size) (bU ((List.range ops.size).filter (dw cl)))) 0 0) _=some l from h)
 simp only [Bool.and_eq_true]at h1
 obtain⟨k1,k2⟩:=oD h1.2
 refine⟨_,_,y5 h1.1,⟨fun pre i post e=>?_,fun i hi=>?_⟩,h2⟩
 ·obtain⟨m1,m2,m3,m4,m5⟩:=k1 pre i post e
  refine⟨fun j hj=>?_,m3,m4⟩
  rcases m1 j hj with q|q
  ·rw [rc]at q;cases q
  ·exact q
 ·rcases k2 i (by rw [B4];simpa using hi)with q|q
  ·rw [rc]at q;cases q
  ·exact q
end
end
end Ev
end Go.Proofs.YtdfphfdnoobikaaGreatDoor
