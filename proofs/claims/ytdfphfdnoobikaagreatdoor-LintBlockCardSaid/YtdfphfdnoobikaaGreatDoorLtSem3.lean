/-
  What code may do:steps of a range over a map.
-/
import Derived.Test.YtdfphfdnoobikaaGreatDoorLtCk4
namespace Go.Proofs.YtdfphfdnoobikaaGreatDoor
namespace Ev
section
section
variable [Env]
set_option linter.unusedSectionVars false
variable {P:Program} {T:Ty}
theorem vo{op:Op}{os:List Operand}(hc:bH T op=some (.e .nextM,os)):∃x,op= .next x false∧os=[x]:=by
 cases op
 case call c=>
  obtain⟨callee,args,argTypes⟩:=c
  simp only [bH]at hc
  cases callee with
  |value x=>
   cases x with
   |func f'=>cases hc
   |_=>cases hc
  |invoke r m=>cases hc
  |builtin b=>
   obtain⟨t,h1,h2⟩:=bC.1 hc
   obtain⟨d,h3,h4⟩:=bC.1 h2
   cases b
   case len=>cases d<;>cases h4
   case append=>
    cases d with
    |slice e=>
     obtain⟨n,_,a1⟩:=bC.1 h4
     obtain⟨_,_,a2⟩:=bC.1 a1
     obtain⟨_,_,a3⟩:=bC.1 a2
     obtain⟨_,a4⟩:=bJ.1 a3
     obtain⟨_,_,a5⟩:=bC.1 a4
     obtain⟨_,_,a6⟩:=bC.1 a5
     split at a6<;>cases a6
    |_=>cases h4
   case copy=>
    cases d with
    |slice e=>obtain⟨n,k1,a1⟩:=bC.1 h4;cases a1
    |_=>cases h4
   case clear=>
    cases d with
    |slice e=>
     obtain⟨n,k1,a1⟩:=bC.1 h4
     obtain⟨z,k2,a2⟩:=bC.1 a1
     cases a2
    |_=>cases h4
   case delete=>
    cases d with
    |map k e=>obtain⟨kk,k1,a1⟩:=bC.1 h4;cases a1
    |_=>cases h4
   all_goals (cases d<;>cases h4)
 case alloc t=>
  simp only [bH]at hc
  obtain⟨z,h1,h⟩:=bC.1 hc
  cases h
 case buildSlice t n ps=>
  simp only [bH]at hc
  obtain⟨d,_,h⟩:=bC.1 hc
  cases d with
  |slice e=>
   obtain⟨_,_,a1⟩:=bC.1 h
   obtain⟨_,_,a2⟩:=bC.1 a1
   obtain⟨_,a3⟩:=bJ.1 a2
   cases a3
  |_=>cases h
 case makeMap t r=>
  simp only [bH]at hc
  obtain⟨d,_,h⟩:=bC.1 hc
  cases d<;>cases h
 case makeSlice t l c=>
  simp only [bH]at hc
  obtain⟨d,_,h⟩:=bC.1 hc
  cases d with
  |slice e=>
   obtain⟨_,_,a1⟩:=bC.1 h
   obtain⟨_,_,a2⟩:=bC.1 a1
   obtain⟨_,_,a3⟩:=bC.1 a2
   obtain⟨_,a4⟩:=bJ.1 a3
   cases a4
  |_=>cases h
 case range t x=>
  simp only [bH]at hc
  obtain⟨d,_,h⟩:=bC.1 hc
  cases d<;>cases h
 case load t x=>
  simp only [bH]at hc
  obtain⟨b,h1,h2⟩:=bC.1 hc
  obtain⟨n,h3,h4⟩:=bC.1 h2
  cases h4
 case lookup t x k ok=>
  simp only [bH]at hc
  obtain⟨d,h1,h2⟩:=bC.1 hc
  cases d with
  |map kt e=>
   obtain⟨kk,h3,h4⟩:=bC.1 h2
   obtain⟨z,h5,h6⟩:=bC.1 h4
   cases h6
  |_=>cases h2
 case binOp op t x y t'=>
  have eq2:∀{neg cst:Bool} {d:TypeDesc},qO T t neg cst d=some (.e .nextM)→False:=by
   intro neg cst d h2
   cases d with
   |interface e=>obtain⟨h4,h5⟩:=bJ.1 h2;cases h5
   |pointer e=>obtain⟨k,h4,h5⟩:=bC.1 h2;cases h5
   |struct fs=>obtain⟨k,h4,h5⟩:=bC.1 h2;cases h5
   |_=>cases h2
  cases op
  case eql=>
   simp only [bH]at hc
   obtain⟨d,h1,h2⟩:=bC.1 hc
   obtain⟨c,h3,h4⟩:=bC.1 h2
   cases h4
   exact(eq2 (neg:=false) h3).elim
  case neq=>
   simp only [bH]at hc
   obtain⟨d,h1,h2⟩:=bC.1 hc
   obtain⟨c,h3,h4⟩:=bC.1 h2
   cases h4
   exact(eq2 (neg:=true) h3).elim
  all_goals cases hc
 case build t ps=>
  simp only [bH]at hc
  obtain⟨z,h1,h2⟩:=bC.1 hc
  obtain⟨d,h3,h4⟩:=bC.1 h2
  cases d with
  |struct fs=>
   obtain⟨pl,h5,h6⟩:=bC.1 h4
   obtain⟨l,h7,h8⟩:=bC.1 h6
   cases h8
  |array k e=>
   obtain⟨n,h5,h6⟩:=bC.1 h4
   cases h6
  |_=>cases h4
 case convert s d x=>
  simp only [bH]at hc
  obtain⟨a,h1,h2⟩:=bC.1 hc
  obtain⟨b,h3,h4⟩:=bC.1 h2
  cases a<;>cases b<;>first|(cases h4;done)|(cases(fq h4).1)
 case makeInterface t x=>
  simp only [bH]at hc
  obtain⟨d,h1,h2⟩:=bC.1 hc
  cases d<;>cases h2
 case makeFunc fn a b=>cases fn<;>cases hc
 case slice t x lo hi mx=>
  simp only [bH]at hc
  obtain⟨d,_,h⟩:=bC.1 hc
  cases d with
  |string=>cases h
  |slice e=>obtain⟨_,_,a1⟩:=bC.1 h;cases a1
  |array k e=>obtain⟨_,_,a1⟩:=bC.1 h;cases a1
  |_=>cases h
 case fieldAddr t x i=>
  simp only [bH]at hc
  obtain⟨d,_,h⟩:=bC.1 hc
  cases d with
  |struct fs=>
   obtain⟨_,_,a1⟩:=bC.1 h
   obtain⟨_,_,a2⟩:=bC.1 a1
   cases a2
  |_=>cases h
 case field t x i=>
  simp only [bH]at hc
  obtain⟨d,_,h⟩:=bC.1 hc
  cases d with
  |struct fs=>
   obtain⟨_,_,a1⟩:=bC.1 h
   obtain⟨_,_,a2⟩:=bC.1 a1
   obtain⟨_,_,a3⟩:=bC.1 a2
   cases a3
  |_=>cases h
 case indexAddr t x i=>
  simp only [bH]at hc
  obtain⟨d,_,h⟩:=bC.1 hc
  cases d with
  |slice e=>obtain⟨_,_,a1⟩:=bC.1 h;cases a1
  |array k e=>obtain⟨_,_,a1⟩:=bC.1 h;cases a1
  |_=>cases h
 case index t x i=>
  simp only [bH]at hc
  obtain⟨d,_,h⟩:=bC.1 hc
  cases d with
  |string=>cases h
  |array k e=>
   obtain⟨_,_,a1⟩:=bC.1 h
   obtain⟨_,_,a2⟩:=bC.1 a1
   cases a2
  |_=>cases h
 case insert t m k x=>
  simp only [bH]at hc
  obtain⟨d,_,h⟩:=bC.1 hc
  cases d with
  |map k e=>
   obtain⟨_,_,a1⟩:=bC.1 h
   cases a1
  |_=>cases h
 case mapEntry t m k=>
  simp only [bH]at hc
  obtain⟨d,_,h⟩:=bC.1 hc
  cases d with
  |map k e=>
   obtain⟨_,_,a1⟩:=bC.1 h
   obtain⟨_,_,a2⟩:=bC.1 a1
   cases a2
  |_=>cases h
 case mapUpdate t m k x=>
  simp only [bH]at hc
  obtain⟨d,_,h⟩:=bC.1 hc
  cases d with
  |map k e=>
   obtain⟨_,_,a1⟩:=bC.1 h
   cases a1
  |_=>cases h
 case store t a x=>
  simp only [bH]at hc
  obtain⟨_,h1,a1⟩:=bC.1 hc
  cases a1
 case next x b=>
  cases b with
  |false=>cases hc;exact⟨x,rfl,rfl⟩
  |true=>cases hc
 all_goals cases hc
theorem tF{op:Op}{os:List Operand}(hc:bH T op=some (.e .entryM,os)):∃x,op= .entry x∧os=[x]:=by
 cases op
 case call c=>
  obtain⟨callee,args,argTypes⟩:=c
  simp only [bH]at hc
  cases callee with
  |value x=>
   cases x with
   |func f'=>cases hc
   |_=>cases hc
  |invoke r m=>cases hc
  |builtin b=>
   obtain⟨t,h1,h2⟩:=bC.1 hc
   obtain⟨d,h3,h4⟩:=bC.1 h2
   cases b
   case len=>cases d<;>cases h4
   case append=>
    cases d with
    |slice e=>
     obtain⟨n,_,a1⟩:=bC.1 h4
     obtain⟨_,_,a2⟩:=bC.1 a1
     obtain⟨_,_,a3⟩:=bC.1 a2
     obtain⟨_,a4⟩:=bJ.1 a3
     obtain⟨_,_,a5⟩:=bC.1 a4
     obtain⟨_,_,a6⟩:=bC.1 a5
     split at a6<;>cases a6
    |_=>cases h4
   case copy=>
    cases d with
    |slice e=>obtain⟨n,k1,a1⟩:=bC.1 h4;cases a1
    |_=>cases h4
   case clear=>
    cases d with
    |slice e=>
     obtain⟨n,k1,a1⟩:=bC.1 h4
     obtain⟨z,k2,a2⟩:=bC.1 a1
     cases a2
    |_=>cases h4
   case delete=>
    cases d with
    |map k e=>obtain⟨kk,k1,a1⟩:=bC.1 h4;cases a1
    |_=>cases h4
   all_goals (cases d<;>cases h4)
 case alloc t=>
  simp only [bH]at hc
  obtain⟨z,h1,h⟩:=bC.1 hc
  cases h
 case buildSlice t n ps=>
  simp only [bH]at hc
  obtain⟨d,_,h⟩:=bC.1 hc
  cases d with
  |slice e=>
   obtain⟨_,_,a1⟩:=bC.1 h
   obtain⟨_,_,a2⟩:=bC.1 a1
   obtain⟨_,a3⟩:=bJ.1 a2
   cases a3
  |_=>cases h
 case makeMap t r=>
  simp only [bH]at hc
  obtain⟨d,_,h⟩:=bC.1 hc
  cases d<;>cases h
 case makeSlice t l c=>
  simp only [bH]at hc
  obtain⟨d,_,h⟩:=bC.1 hc
  cases d with
  |slice e=>
   obtain⟨_,_,a1⟩:=bC.1 h
   obtain⟨_,_,a2⟩:=bC.1 a1
   obtain⟨_,_,a3⟩:=bC.1 a2
   obtain⟨_,a4⟩:=bJ.1 a3
   cases a4
  |_=>cases h
 case range t x=>
  simp only [bH]at hc
  obtain⟨d,_,h⟩:=bC.1 hc
  cases d<;>cases h
 case load t x=>
  simp only [bH]at hc
  obtain⟨b,h1,h2⟩:=bC.1 hc
  obtain⟨n,h3,h4⟩:=bC.1 h2
  cases h4
 case lookup t x k ok=>
  simp only [bH]at hc
  obtain⟨d,h1,h2⟩:=bC.1 hc
  cases d with
  |map kt e=>
   obtain⟨kk,h3,h4⟩:=bC.1 h2
   obtain⟨z,h5,h6⟩:=bC.1 h4
   cases h6
  |_=>cases h2
 case binOp op t x y t'=>
  have eq2:∀{neg cst:Bool} {d:TypeDesc},qO T t neg cst d=some (.e .entryM)→False:=by
   intro neg cst d h2
   cases d with
   |interface e=>obtain⟨h4,h5⟩:=bJ.1 h2;cases h5
   |pointer e=>obtain⟨k,h4,h5⟩:=bC.1 h2;cases h5
   |struct fs=>obtain⟨k,h4,h5⟩:=bC.1 h2;cases h5
   |_=>cases h2
  cases op
  case eql=>
   simp only [bH]at hc
   obtain⟨d,h1,h2⟩:=bC.1 hc
   obtain⟨c,h3,h4⟩:=bC.1 h2
   cases h4
   exact(eq2 (neg:=false) h3).elim
  case neq=>
   simp only [bH]at hc
   obtain⟨d,h1,h2⟩:=bC.1 hc
   obtain⟨c,h3,h4⟩:=bC.1 h2
   cases h4
   exact(eq2 (neg:=true) h3).elim
  all_goals cases hc
 case build t ps=>
  simp only [bH]at hc
  obtain⟨z,h1,h2⟩:=bC.1 hc
  obtain⟨d,h3,h4⟩:=bC.1 h2
  cases d with
  |struct fs=>
   obtain⟨pl,h5,h6⟩:=bC.1 h4
   obtain⟨l,h7,h8⟩:=bC.1 h6
   cases h8
  |array k e=>
   obtain⟨n,h5,h6⟩:=bC.1 h4
   cases h6
  |_=>cases h4
 case convert s d x=>
  simp only [bH]at hc
  obtain⟨a,h1,h2⟩:=bC.1 hc
  obtain⟨b,h3,h4⟩:=bC.1 h2
  cases a<;>cases b<;>first|(cases h4;done)|(cases(fq h4).1)
 case makeInterface t x=>
  simp only [bH]at hc
  obtain⟨d,h1,h2⟩:=bC.1 hc
  cases d<;>cases h2
 case makeFunc fn a b=>cases fn<;>cases hc
 case slice t x lo hi mx=>
  simp only [bH]at hc
  obtain⟨d,_,h⟩:=bC.1 hc
  cases d with
  |string=>cases h
  |slice e=>obtain⟨_,_,a1⟩:=bC.1 h;cases a1
  |array k e=>obtain⟨_,_,a1⟩:=bC.1 h;cases a1
  |_=>cases h
 case fieldAddr t x i=>
  simp only [bH]at hc
  obtain⟨d,_,h⟩:=bC.1 hc
  cases d with
  |struct fs=>
   obtain⟨_,_,a1⟩:=bC.1 h
   obtain⟨_,_,a2⟩:=bC.1 a1
   cases a2
  |_=>cases h
 case field t x i=>
  simp only [bH]at hc
  obtain⟨d,_,h⟩:=bC.1 hc
  cases d with
  |struct fs=>
   obtain⟨_,_,a1⟩:=bC.1 h
   obtain⟨_,_,a2⟩:=bC.1 a1
   obtain⟨_,_,a3⟩:=bC.1 a2
   cases a3
  |_=>cases h
 case indexAddr t x i=>
  simp only [bH]at hc
  obtain⟨d,_,h⟩:=bC.1 hc
  cases d with
  |slice e=>obtain⟨_,_,a1⟩:=bC.1 h;cases a1
  |array k e=>obtain⟨_,_,a1⟩:=bC.1 h;cases a1
  |_=>cases h
 case index t x i=>
  simp only [bH]at hc
  obtain⟨d,_,h⟩:=bC.1 hc
  cases d with
  |string=>cases h
  |array k e=>
   obtain⟨_,_,a1⟩:=bC.1 h
   obtain⟨_,_,a2⟩:=bC.1 a1
   cases a2
  |_=>cases h
 case insert t m k x=>
  simp only [bH]at hc
  obtain⟨d,_,h⟩:=bC.1 hc
  cases d with
  |map k e=>
   obtain⟨_,_,a1⟩:=bC.1 h
   cases a1
  |_=>cases h
 case mapEntry t m k=>
  simp only [bH]at hc
  obtain⟨d,_,h⟩:=bC.1 hc
  cases d with
  |map k e=>
   obtain⟨_,_,a1⟩:=bC.1 h
   obtain⟨_,_,a2⟩:=bC.1 a1
   cases a2
  |_=>cases h
 case mapUpdate t m k x=>
  simp only [bH]at hc
  obtain⟨d,_,h⟩:=bC.1 hc
  cases d with
  |map k e=>
   obtain⟨_,_,a1⟩:=bC.1 h
   cases a1
  |_=>cases h
 case store t a x=>
  simp only [bH]at hc
  obtain⟨_,h1,a1⟩:=bC.1 hc
  cases a1
 case next x b=>cases b<;>cases hc
 case entry x=>cases hc;exact⟨x,rfl,rfl⟩
 all_goals cases hc
end
section
variable {P:Program} {T:Ty} {K:Nat→Prop}
theorem OQ.next{d:Dst}{x:Opd}{lo hi:Nat}{l:List bQ}{f:F}{h:H}{R:F→H→Prop}{it km n:Nat}{es:List (V×V)}{seen:List Nat}(ev:evs f [x]=some [.ptr it 0])(e1:h.blk it=some (.miter km (some (seen,n))))(e2:h.blk km=some (.map es true))(hn:es.length=n)
  (q1:(∀i,i<n→i∈seen)→OQ P T K l (d.put f (.tup [.bool false])) h R)
  (q2:∀i e,i<n→i∉seen→es[i]? =some e→OQ P T K l (d.put f (.tup [.bool true,e.1,e.2])) ⟨h.t.put it (some (.miter km (some (seen++[i],n)))),h.next⟩ R):OQ P T K (⟨d,.e .nextM,[x],none,lo,hi⟩ ::l) f h R:=by
 refine OQ.may rfl ev rfl fun E g w op os ρ hc r hv=>?_
 obtain⟨y,rfl,rfl⟩:=@vo E T _ _ hc
 obtain⟨a,ha,hv1⟩:=@VRs.one E _ _ _ hv
 cases ha
 rcases @vh E P T g ρ h w r y it km n es seen hv1 e1 e2 hn with⟨k1,k2⟩ | ⟨i,e,k1,k2,k3,k4⟩
 ·exact⟨_,_,k2,q1 k1⟩
 ·exact⟨_,_,k4,q2 i e k1 k2 k3⟩
theorem OQ.entry{d:Dst}{x:Opd}{lo hi:Nat}{l:List bQ}{f:F}{h:H}{R:F→H→Prop}{it km n i:Nat}{es:List (V×V)}{e:V×V}{seen:List Nat}(ev:evs f [x]=some [.ptr it 0])(e1:h.blk it=some (.miter km (some (seen++[i],n))))(e2:h.blk km=some (.map es true))(hn:es.length=n)(he:es[i]? =some e)
  (q:OQ P T K l (d.put f (.tup [e.1,e.2])) h R):OQ P T K (⟨d,.e .entryM,[x],none,lo,hi⟩ ::l) f h R:=by
 refine OQ.may rfl ev rfl fun E g w op os ρ hc r hv=>?_
 obtain⟨y,rfl,rfl⟩:=@tF E T _ _ hc
 obtain⟨a,ha,hv1⟩:=@VRs.one E _ _ _ hv
 cases ha
 exact⟨_,_,@vi E P T g ρ h w r y it km n i es e seen hv1 e1 e2 hn he,q⟩
end
end
section
theorem yS{E:En}{T:Ty}{g:G}{h1 h2:H}{w:World}(r:@WR E T g h1 w){it ki:Nat}{es:List (V×V)}{o:Bool}{m:Nat}{st:Option (List Nat×Nat)}(hn:h2.next=h1.next)(e:∀j,h2.blk j=if j=it then some .dead else if j=ki then some (.map es false)else h1.blk j)
  (hi:h1.blk it=some (.miter m st)) (hk:h1.blk ki=some (.map es o)):@WR E T g h2 w:=by
 have hne:it≠ki:=fun q=>by rw [q,hk]at hi;cases hi
 have kin1:∀i b k,h2.blk i=some b→b.kin=some k→h1.blk i=some b:=fun i b k e1 e2=>by
  rw [e]at e1
  split at e1
  ·cases e1;cases e2
  ·split at e1
   ·cases e1;cases e2
   ·exact e1
 have kin2:∀i b k,h1.blk i=some b→b.kin=some k→h2.blk i=some b:=fun i b k e1 e2=>by
  rw [e,if_neg (fun q=>by rw [q,hi]at e1;cases e1;cases e2),if_neg (fun q=>by rw [q,hk]at e1;cases e1;cases e2)]
  exact e1
 have up:∀{i j d},Up h1 i j d→Up h2 i j d:=fun u=>by
  induction u with
  |one e1 k1=>exact .one (kin2 _ _ _ e1 k1) k1
  |step e1 k1 _ ih=>exact .step (kin2 _ _ _ e1 k1) k1 ih
 have live:∀i b,h2.blk i=some b→b.live=true→∃b',h1.blk i=some b'∧b'.live=true∧b'.isRo=b.isRo:=fun i b e1 e2=>by
  rw [e]at e1
  split at e1
  ·cases e1;cases e2
  ·split at e1
   ·rename_i q
    cases e1
    exact⟨.map es o,by rw [q];exact hk,rfl,rfl⟩
   ·exact⟨b,e1,e2,rfl⟩
 cases r with
 |mk a1 a2 a3 a4 a5 a6 a7 a8=>
  refine @WR.mk E T g h2 w (by omega) (fun id b q=>?_) (fun id x q=>by have:=a3 id x q;omega) a4 (fun id x b q1 q2=>?_) (fun i j b o z o' z' bi bj hij q1 q2 q3 q4 q5 q6=>?_) (fun i b j d ch q1 q2=>?_) (fun i b j d ch b' q1 q2 q3=>?_)
  ·rw [hn]
   rw [e]at q
   split at q
   ·rename_i q2
    rw [q2]
    exact a2 _ _ hi
   ·split at q
    ·rename_i q2
     rw [q2]
     exact a2 _ _ hk
    ·exact a2 _ _ q
  ·rw [e]at q2
   split at q2
   ·cases q2
    trivial
   ·split at q2
    ·rename_i q3
     cases q2
     subst q3
     obtain⟨b1,o1,z1,m1,c1,k1,k2,k3,k4⟩:=a5 id x _ q1 hk
     exact⟨b1,o1,z1,m1,c1,k1,k2,k3,k4.1,fun q=>by cases q⟩
    ·exact a5 id x b q1 q2
  ·obtain⟨bi',k1,k2,k3⟩:=live i bi q3 q5
   obtain⟨bj',k4,k5,k6⟩:=live j bj q4 q6
   rcases a6 i j b o z o' z' bi' bj' hij q1 q2 k1 k4 k2 k5 with⟨d,u,q⟩ | ⟨d,u,q⟩ | ⟨q,q'⟩
   ·exact .inl ⟨d,up u,q⟩
   ·exact .inr (.inl ⟨d,up u,q⟩)
   ·exact .inr (.inr ⟨k3▸q,k6▸q'⟩)
  ·obtain⟨b',up',k1,k2,k3⟩:=a7 i b j d ch (kin1 _ _ _ q1 q2) q2
   exact⟨b',up',kin2 _ _ _ k1 k2,k2,k3⟩
  ·obtain⟨b'',up',k1,k2,k3⟩:=a7 i b j d ch (kin1 _ _ _ q1 q2) q2
   have:=kin2 _ _ _ k1 k2
   rw [q3]at this
   cases this
   exact a8 i b j d ch b' (kin1 _ _ _ q1 q2) q2 k1
theorem tU{K:Nat→Prop}{f f':F}{h1 h2:H}{it ki:Nat}{es:List (V×V)}{o:Bool}{m:Nat}{st:Option (List Nat×Nat)}(hn:h2.next=h1.next)(e:∀j,h2.blk j=if j=it then some .dead else if j=ki then some (.map es false)else h1.blk j)
  (hi:h1.blk it=some (.miter m st)) (hk:h1.blk ki=some (.map es o)) (f1:∀t v,lk f'.loc t=some v→lk f.loc t=some v) (f2:∀t v,lk f'.tmp t=some v→lk f.tmp t=some v):ft TP K f h1 f' h2:=by
 intro mm N E0 g0 w0 E g w tmps s fr
 refine⟨E,g,⟨?_,s.envl,s.envn,s.fix,s.size,s.keep,s.inv,s.pin,s.os,s.tape,s.output⟩,⟨fr.1,fun t v e=>fr.2 t v ?_⟩,fun id b o z e=>⟨id,o,z,e⟩⟩
 ·refine Sit.mk' (yS s.sit.wr hn e hi hk) (fun p hp=>?_) fun b c q=>s.sit.env q
  obtain⟨q1,q2⟩:=s.sit.pin p hp
  refine⟨q1,?_⟩
  rw [e,if_neg (fun q=>by rw [q,hi]at q2;cases q2),if_neg (fun q=>by rw [q,hk]at q2;cases q2)]
  exact q2
 ·unfold rdn at e ⊢
  split at e
  ·rename_i q
   rw [if_pos q]
   exact f1 t v e
  ·rename_i q
   rw [if_neg q]
   exact f2 t v e
noncomputable section
def De:bZ:= .loop (.seq (.reg [⟨.t 63,.e (.nextM),[.l 62],none,0,0⟩,⟨.l 64,.p (.ext 0),[.t 63],none,0,0⟩])
 (.seq (.cond (.l 64) .skip
 (.exit 4))
 (.block 5 (.seq (.reg [⟨.t 65,.e (.entryM),[.l 62],none,0,0⟩,⟨.t 66,.p (.ext 0),[.t 65],none,0,0⟩,⟨.l 14,.p (.mv),[.t 66],none,0,0⟩])
 (.reg [⟨.t 67,.p (.mv),[.l 10],none,0,0⟩,⟨.t 68,.p (.mv),[.l 14],none,0,0⟩,⟨.no,.e (.delete (.one .s)),[.t 67,.t 68],none,0,0⟩])))))
end
theorem xP:∀(s:Sc) (i:Nat),(scE s)[i]? =(s[i]?).map fun p=>(sV p.1,V.int .i64 p.2)
 |[],i=>by simp [scE]
 |p ::l,0=>rfl
 |p ::l,i+1=>by
  show(scE l)[i]? =_
  rw [xP l i]
  simp
theorem pt:∀s:Sc,(scE s).length=s.length
 |[]=>rfl
 |p ::l=>congrArg (·+1) (pt l)
def j6(own:Sc)(seen:List Nat)(s:Sc):Sc:=s.filter fun q=>!seen.any fun i=>decide ((own[i]?).map (·.1)=some q.1)
theorem zj(own s:Sc):j6 own [] s=s:=by simp [j6]
theorem wh{own s:Sc}{seen:List Nat}{i:Nat}{p:ByteArray×Int}(hp:own[i]? =some p)(nd:(s.map (·.1)).Nodup):tz (j6 own seen s) p.1=j6 own (seen++[i]) s:=by
 unfold j6
 rw [BS (si nd),List.filter_filter]
 congr 1
 funext q
 rw [List.any_append,List.any_cons,List.any_nil,Bool.or_false,hp]
 simp only [Option.map_some,Option.some.injEq]
 by_cases e:p.1=q.1
 ·simp [e]
 ·simp [e,Ne.symm e]
theorem zl{own s:Sc}{seen:List Nat}(h:∀i,i<own.length→i∈seen):j6 own seen s=jN s own:=by
 unfold j6 jN
 congr 1
 funext q
 congr 1
 rw [Bool.eq_iff_iff,List.any_eq_true,List.any_eq_true]
 constructor
 ·rintro⟨i,_,e⟩
  obtain⟨r,e1,e2⟩:=Option.map_eq_some_iff.1 (of_decide_eq_true e)
  exact⟨r,List.mem_of_getElem? e1,by simp [e2]⟩
 ·rintro⟨r,e1,e2⟩
  obtain⟨i,hi⟩:=List.mem_iff_getElem?.1 e1
  exact⟨i,h i (List.getElem?_eq_some_iff.1 hi).1,by rw [hi];simp [of_decide_eq_true e2]⟩
def Ak(n:Nat)(seen:List Nat):Nat:=((List.range n).filter fun i=>!seen.contains i).length
theorem Bz{p q:Nat→Bool}:∀l:List Nat,(∀a,a∈l→q a=true→p a=true)→(l.filter q).length≤(l.filter p).length
 |[],_=>Nat.le_refl _
 |a ::l,h=>by
  have ih:=Bz l fun b hb=>h b (List.mem_cons_of_mem _ hb)
  rw [List.filter_cons,List.filter_cons]
  cases hq:q a with
  |true=>
   rw [h a List.mem_cons_self hq,if_pos rfl,if_pos rfl,List.length_cons,List.length_cons]
   omega
  |false=>
   rw [if_neg (by simp)]
   split
   ·rw [List.length_cons]
    omega
   ·exact ih
theorem By{p q:Nat→Bool}{i:Nat}(hp:p i=true)(hq:q i=false):∀l:List Nat,(∀a,a∈l→q a=true→p a=true)→i∈l→(l.filter q).length<(l.filter p).length
 |[],_,k=>by cases k
 |a ::l,h,k=>by
  have le:=Bz l fun b hb=>h b (List.mem_cons_of_mem _ hb)
  rw [List.filter_cons,List.filter_cons]
  by_cases e:a=i
  ·rw [e,hp,hq,if_pos rfl,if_neg (by simp),List.length_cons]
   omega
  ·have ih:=By hp hq l (fun b hb=>h b (List.mem_cons_of_mem _ hb)) (by
    rcases List.mem_cons.1 k with k|k
    ·exact absurd k.symm e
    ·exact k)
   cases hq2:q a with
   |true=>
    rw [h a List.mem_cons_self hq2,if_pos rfl,if_pos rfl,List.length_cons,List.length_cons]
    omega
   |false=>
    rw [if_neg (by simp)]
    split
    ·rw [List.length_cons]
     omega
    ·exact ih
theorem Ce{n i:Nat}{seen:List Nat}(h:i<n)(k:i∉seen):Ak n (seen++[i])<Ak n seen:=
 By (by simpa using k) (by simp) _ (fun a _ q=>by
  simp at q ⊢
  exact q.1) (List.mem_range.2 h)
section
variable {K:Nat→Prop}
theorem OQ.op'{d:Dst}{o:COp}{args:List Opd}{lo hi:Nat}{l:List bQ}{f:F}{h h1:H}{vs:List V}{v:V}{R:F→H→Prop}(e1:evs f args=some vs)(e2:o.run eK vs h=some (v,h1))(q:OQ Tryz.prog TP K l (d.put f v) h1 R):OQ Tryz.prog TP K (⟨d,o,args,none,lo,hi⟩ ::l) f h R:=by
 refine OQ.op rm jt ?_ q
 show ob (some true) _=_
 show ob (evs f args) _=_
 rw [e1]
 show ob (o.run eK vs h) _=_
 rw [e2]
 rfl
theorem ev1{f:F}{x:Opd}{v:V}(e:x.ev f=some v):evs f [x]=some [v]:=by
 show ob (x.ev f) _=_
 rw [e]
 rfl
set_option maxHeartbeats 800000 in
theorem Et{fr:AL}{h:H}{it ki km:Nat}{sc own:Sc}{o:Bool}(l62:lk fr 62=some (.ptr it 0))(l10:lk fr 10=some (.map ki))(n64:lk fr 64=none)(n14:lk fr 14=none)
  (e1:h.blk it=some (.miter km (some ([],own.length)))) (e2:h.blk km=some (.map (scE own) true)) (e3:h.blk ki=some (.map (scE sc) o)) (hkm:ki≠km) (hit:it<bP) (hki:ki<bP) (nd:(sc.map (·.1)).Nodup):
  B7 Tryz.prog TP K De ⟨fr,[]⟩ h (.exit 4) ⟨fr,[]⟩ ⟨(h.t.put ki (some (.map (scE (jN sc own)) false))).put it (some .dead),h.next⟩:=by
 have hik:it≠ki:=fun q=>by rw [q,e3]at e1;cases e1
 have him:it≠km:=fun q=>by rw [q,e2]at e1;cases e1
 have bl:∀j,(⟨(h.t.put ki (some (.map (scE (jN sc own)) false))).put it (some .dead),h.next⟩:H).blk j=if j=it then some .dead else if j=ki then some (.map (scE (jN sc own)) false)else h.blk j:=fun j=>by
  show Tr.get _ _=_
  rw [Tr.get_put _ _ _ _ hit]
  split
  ·rfl
  ·exact fE (h:=h) (n:=h.next) hki
 refine SQ.sem (SQ.loop (fun k f h1=>∃loc seen o1,f=⟨loc,[]⟩∧k=Ak own.length seen∧(∀t v,lk fr t=some v→lk loc t=some v)∧h1.next=h.next∧h1.blk it=some (.miter km (some (seen,own.length)))∧h1.blk ki=some (.map (scE (j6 own seen sc)) o1)∧∀j,j≠it→j≠ki→h1.blk j=h.blk j) ?_ (k:=Ak own.length []) ⟨fr,[],o,rfl,rfl,fun _ _ e=>e,rfl,e1,by rw [zj];exact e3,fun _ _ _=>rfl⟩)
 rintro k f h1 ⟨loc,seen,o1,rfl,rfl,kl,nx,i1,i3,io⟩
 have i2:h1.blk km=some (.map (scE own) true):=by rw [io km (Ne.symm him) (Ne.symm hkm)];exact e2
 have m62:=kl 62 _ l62
 have m10:=kl 10 _ l10
 refine SQ.seq (SQ.reg (fun q=>by cases q) ?_)
 refine OQ.next (n:=own.length) (ev1 m62) i1 i2 (pt own) (fun all=>?_) (fun i e hi hs he=>?_)
 ·refine OQ.op' (vs:=[.tup [.bool false]]) (v:= .bool false) (h1:=h1) rfl rfl (OQ.nil ?_)
  refine .inl ⟨rfl,SQ.seq (SQ.cond (t:=false) (by show lk (upd loc 64 (.bool false)) 64=_;rw [@mr noE,if_pos rfl]) (fun q=>by cases q) fun _=>SQ.exit rm jt mixed (.inr ⟨(fun q=>by cases q),.inr ⟨(fun q=>by cases q),?_⟩⟩))⟩
  rw [zl all]at i3
  refine⟨rfl,tU nx.symm (fun j=>?_) i1 i3 (fun t v q=>?_) (fun t v q=>by cases q)⟩
  ·rw [bl]
   split
   ·rfl
   ·rename_i q1
    split
    ·rfl
    ·rename_i q2
     exact(io j q1 q2).symm
  ·have q:lk fr t=some v:=q
   show lk (upd loc 64 (.bool false)) t=some v
   rw [@mr noE,if_neg (fun e=>by rw [e,n64]at q;cases q)]
   exact kl t v q
 ·obtain⟨p,hp,rfl⟩:∃p,own[i]? =some p∧e=(sV p.1,V.int .i64 p.2):=by
   rw [xP]at he
   obtain⟨p,q1,q2⟩:=Option.map_eq_some_iff.1 he
   exact⟨p,q1,q2.symm⟩
  obtain⟨h2,hh2⟩:∃h2:H,h2=⟨h1.t.put it (some (.miter km (some (seen++[i],own.length)))),h1.next⟩:=⟨_,rfl⟩
  have b2:∀j,h2.blk j=if j=it then some (.miter km (some (seen++[i],own.length)))else h1.blk j:=fun j=>by rw [hh2];exact fE hit
  rw [←hh2]
  refine OQ.op' (vs:=[.tup [.bool true,sV p.1,.int .i64 p.2]]) (v:= .bool true) (h1:=h2) rfl rfl (OQ.nil ?_)
  refine .inl ⟨rfl,SQ.seq (SQ.cond (t:=true) (by show lk (upd loc 64 (.bool true)) 64=_;rw [@mr noE,if_pos rfl]) (fun _=>SQ.skip rm jt mixed (.inl ⟨rfl,?_⟩)) fun q=>by cases q)⟩
  have loc2:∀t v,t≠64→lk loc t=some v→lk (upd loc 64 (.bool true)) t=some v:=fun t v ht e=>by rw [@mr noE,if_neg ht];exact e
  refine SQ.block (SQ.seq (SQ.reg (fun q=>by cases q) ?_))
  refine OQ.entry (n:=own.length) (i:=i) (seen:=seen) (e:=(sV p.1,V.int .i64 p.2)) (ev1 (loc2 62 _ (by decide) m62)) (by rw [b2,if_pos rfl]) (by rw [b2,if_neg (Ne.symm him)];exact i2) (pt own) he ?_
  refine OQ.op' (vs:=[.tup [sV p.1,.int .i64 p.2]]) (v:=sV p.1) (h1:=h2) rfl rfl ?_
  refine OQ.op' (vs:=[sV p.1]) (v:=sV p.1) (h1:=h2) rfl rfl (OQ.nil (.inl ⟨rfl,?_⟩))
  have loc3:∀t v,t≠64→t≠14→lk loc t=some v→lk (upd (upd loc 64 (.bool true)) 14 (sV p.1)) t=some v:=fun t v ht ht2 e=>by rw [@mr noE,if_neg ht2];exact loc2 t v ht e
  have b3:h2.blk ki=some (.map (scE (j6 own seen sc)) o1):=by rw [b2,if_neg (Ne.symm hik)];exact i3
  refine SQ.reg (fun q=>by cases q) ?_
  refine OQ.op' (vs:=[.map ki]) (v:= .map ki) (h1:=h2) (ev1 (loc3 10 _ (by decide) (by decide) m10)) rfl ?_
  refine OQ.op' (vs:=[sV p.1]) (v:=sV p.1) (h1:=h2) (ev1 (by show lk (upd (upd loc 64 (.bool true)) 14 (sV p.1)) 14=_;rw [@mr noE,if_pos rfl])) rfl ?_
  refine OQ.op' (vs:=[.map ki,sV p.1]) (v:= .tup []) (h1:=⟨h2.t.put ki (some (.map (scE (tz (j6 own seen sc) p.1)) false)),h2.next⟩) rfl ?_ (OQ.nil ?_)
  ·show oif true (ob (ob (h2.blk ki) _) _)=_
   rw [b3]
   show ob (tC h2 (.one .s) (sV p.1) (scE (j6 own seen sc))) _=_
   rw [BQ]
   rfl
  ·have b4:∀j,(⟨h2.t.put ki (some (.map (scE (tz (j6 own seen sc) p.1)) false)),h2.next⟩:H).blk j=if j=ki then some (.map (scE (tz (j6 own seen sc) p.1)) false)else h2.blk j:=fun j=>fE hki
   refine .inl ⟨rfl,Ak own.length (seen++[i]),Ce hi hs,_,seen++[i],false,rfl,rfl,fun t v q=>loc3 t v (fun e=>by rw [e,n64]at q;cases q) (fun e=>by rw [e,n14]at q;cases q) (kl t v q),by rw [hh2];exact nx,by rw [b4,if_neg hik,b2,if_pos rfl],by rw [b4,if_pos rfl,wh hp nd],fun j q1 q2=>by rw [b4,if_neg q2,b2,if_neg q1];exact io j q1 q2⟩
end
end
section
theorem Bx{x:Ex}(hx:bF (exO x)≤6000000){s:Sc}(hs:s.length≤6000000):∃n cs,Int.ofNat n=sb x (iL s)∧ck Tryz.prog TP 160 [.agg (exO x),.lst (iL s).length 1 (iL s)] (.lst n 1 cs):=by
 have st:nK (iL s):=fun c hc=>by
  obtain⟨l,_,rfl⟩:=List.mem_map.1 hc
  exact⟨_,_,rfl⟩
 have h:∃cs,nK cs∧ck Tryz.prog TP 160 [.agg (exO x),.lst (iL s).length 1 (iL s)] (.lst cs.length 1 cs):=f160 hx st (by rw [rJ];exact hs)
 exact⟨_,h.choose,by rw [sb,dif_pos h],h.choose_spec.2⟩
theorem zt{M:Nat→Prop}{id:Nat}(h:¬M id):df M (.map id):=fun E g g' u hg k=>by
 cases k with
 |map e=>exact @VR.map E g' _ _ _ _ (hg _ _ h e)
theorem f162{h:H}{k:Nat}(np:2<h.next)(hk:k<h.next):Con Tryz.prog TP noM 162 [.map k] h (.func (.func 170) [] [.eptr [.map k] 0]) h:=by
 have bx:df (fun id=>id=h.next) (.map k):=zt fun q=>by omega
 obtain⟨h',c,rfl⟩:∃h',Con Tryz.prog TP noM 162 [.map k] h (.func (.func 170) [] [.eptr [.map k] 0]) h'∧h'=h:=by
  refine cO Tryz.func162 (by decide) cf162_ok rfl rfl (cP np) ?_
  repeat' (first
   |(refine WLg.mk ?_;first
   |refine aa rfl rfl rfl rfl ?_|refine aP (x:= .map k) rfl rfl rfl rfl bx rfl ?_)
   |refine ah ?_|refine ac rfl ?_|refine ai ?_|refine ae ?_|refine ap ?_|refine bE.norm ?_|fail)
  exact⟨.inr rfl,_,rfl,Nat.le_refl _,rfl,rfl⟩
 exact c
noncomputable section
def fr148s(x:Ex)(k:Nat):AL:=[(0,.ptr 2 0),(2,.map k),(4,.eptr (exO x) 0)]
def fr148(x:Ex)(k i:Nat):AL:=[(0,.ptr 2 0),(2,.map k),(4,.eptr (exO x) 0),(27,.lst x.clauses.length 4 (clL x.clauses)),(28,.int .i64 (Int.ofNat x.clauses.length)),(29,.int .i64 (Int.ofNat i))]
def fr148b(x:Ex)(k i:Nat):AL:=[(0,.ptr 2 0),(2,.map k),(4,.eptr (exO x) 0),(8,.eptr (clO (bL x.clauses i)) 0),(27,.lst x.clauses.length 4 (clL x.clauses)),(28,.int .i64 (Int.ofNat x.clauses.length)),(29,.int .i64 (Int.ofNat i))]
def fr148c(x:Ex)(k i ki km j:Nat):AL:=[(0,.ptr 2 0),(2,.map k),(4,.eptr (exO x) 0),(8,.eptr (clO (bL x.clauses i)) 0),(10,.map ki),(11,.map km),(27,.lst x.clauses.length 4 (clL x.clauses)),(28,.int .i64 (Int.ofNat x.clauses.length)),(29,.int .i64 (Int.ofNat i)),
 (51,.lst (bL x.clauses i).pats.length 11 (exL (bL x.clauses i).pats)),(52,.int .i64 (Int.ofNat (bL x.clauses i).pats.length)),(53,.int .i64 (Int.ofNat j))]
def fr148d(x:Ex)(k i ki it:Nat):AL:=[(0,.ptr 2 0),(2,.map k),(4,.eptr (exO x) 0),(8,.eptr (clO (bL x.clauses i)) 0),(10,.map ki),(27,.lst x.clauses.length 4 (clL x.clauses)),(28,.int .i64 (Int.ofNat x.clauses.length)),(29,.int .i64 (Int.ofNat i)),(62,.ptr it 0)]
end
theorem f50e{D:Df}{p:Pl}{fl:List Fl}{h:H}(c:CS D p fl h)(hk:h.next+2<300000000)(code n:Int):∃h',Con Tryz.prog TP noM 50 [.ptr 2 0,.int .i64 code,.str 0 0,.int .i64 n] h (.tup []) h'∧Gf D p (fl++[flw p code eB n]) h h' 2:=by
 obtain⟨h1,c1,q1,q2,q3,_⟩:=f50 c hk code n eB
 exact⟨h1,c1,q1,q2,by omega⟩
set_option maxHeartbeats 1600000 in
theorem Bs{D:Df}{E:XF}{t:Nat}(ht6:t≤6000000)(X:EX D E t):FN D E t:=by
 intro x hx p fl k sc h c so hz hk
 have hsz:=dL x
 have hcn:=eS x.clauses
 have hsl:=tc sc
 obtain⟨n,cs,hn,c160⟩:=Bx (x:=x) (by omega) (s:=sc) (by omega)
 have c162:=f162 c.le so.hi
 have c161:=xa so (by omega)
 obtain⟨h1,c1,g1⟩:=f50e c (by omega) 13 (Int.ofNat n)
 have g0:=(Gf.refl c).up (m:=2) (by omega)
 obtain⟨fl0,hfl0⟩:∃fl0,fl0=(if ltI 200 (sb x (iL sc))then fl++[flw p 13 eB (sb x (iL sc))]else fl):=⟨_,rfl⟩
 refine cO Tryz.func148 (by decide) cf148_ok rfl rfl (cP c.le) ?_
 repeat' (first
  |(refine WLg.mk ?_;first
  |refine aa rfl rfl rfl rfl ?_
  |refine az rfl rfl RA rfl PB rfl ?_
  |refine am rfl rfl rfl (c1) (fun _ _ q=>q) .none rfl ?_)
  |(show WX _ _ _ _ _ _ _ _ _ _;first
  |refine aG rfl rfl rfl rfl ?_|refine aF rfl rfl rfl rfl ?_|refine aO rfl rfl rfl (c160) .none rfl ?_
  |refine aR rfl rfl rfl (c162) .none rfl ?_|refine aR rfl rfl rfl (c161) .none rfl ?_
  |refine aI (by repeat' (first|exact bD.nil|refine bD.any (fun h=>rfl) ?_|refine bD.first rfl ?_|refine bD.each (.cons rfl .nil) ?_|refine bD.each (.cons rfl (.cons rfl .nil)) ?_|refine bD.each (.cons rfl (.cons rfl (.cons rfl .nil))) ?_)) ?_)
  |refine ah ?_|refine ac rfl ?_
  |(show WC _ _ _ _ _ (bZ.seq (bZ.seq _ (bZ.seq _ (bZ.cond (Opd.l 22) _ _))) _) _ _ _;refine aT (fun l2 h2=>l2=fr148s x k∧Gf D p fl0 h h2 2) ?_ ?_)
  |refine ai ?_|refine ae ?_|refine al ?_|refine ak rfl (fun ht=>?_) (fun ht=>?_)|refine aJ ?_|refine bE.norm ?_
  |fail)
 ·exact .norm ⟨_,_,bR KH,rfl,g1.eq (by rw [hfl0,←hn,if_pos Hy])⟩
 ·exact .norm ⟨_,_,bR KH,rfl,g0.eq (by rw [hfl0,←hn,if_neg (by rw [(by assumption:ltI 200 (Int.ofNat n)=false)];decide)])⟩
 clear c160 c162 c161 c1 g1 g0
 rintro _ hs ⟨rfl,gs⟩
 repeat' (first
  |(refine WLg.mk ?_;first
  |refine aa rfl rfl rfl rfl ?_|refine ab rfl rfl rfl rfl ?_)
  |refine ah ?_|refine ac rfl ?_|refine ai ?_|refine ae ?_|refine aj ?_|refine bE.norm ?_|fail)
 refine av (bR (l:=fr148 x k 0) KH) ?_
 refine aw x.clauses.length (fun i f h1=>f=fr148 x k i∧Gf D p (cj (fun i g=>wi E p (Int.ofNat (bL x.clauses 0).pats.length) (bL x.clauses i) sc g) fl0 i) h h1 (2+40*bF (clL (x.clauses.take i)))) ?_ (i:=0) (Nat.zero_le _) ⟨rfl,gs.up (by omega)⟩
 clear gs
 clear hs
 rintro i _ ha hi ⟨rfl,ga⟩
 have hi2:i<9223372036854775807:=by omega
 have hnx:=ga.nx
 cases q:ltI (Int.ofNat i) (Int.ofNat x.clauses.length)with
 |false=>
  have hie:i=x.clauses.length:=by have:=ci q;omega
  repeat' (first
   |(refine WLg.mk ?_;first
   |refine aa rfl rfl rfl rfl ?_)
   |refine ah ?_|refine ac rfl ?_|refine ai ?_|refine ae ?_
   |refine ak rfl (fun ht=>(Bool.false_ne_true ((show _=false by with_reducible assumption).symm.trans ht)).elim) (fun ht=>?_)
   |refine au ?_|refine bE.norm ?_|refine bE.exit ?_|refine OnC.exit ?_|fail)
  subst hie
  rw [List.take_length]at ga
  exact⟨.inl rfl,_,rfl,ga.km.le,rfl,(ga.up (by omega)).eq (by rw [Bt,hfl0])⟩
 |true=>
  have hlt:=bK q
  have hb0:Nat.blt 0 x.clauses.length=true:=ltb (by omega)
  have hpre:=mB hlt
  have hle:=kB x.clauses (i+1)
  have hcs:=ff (bL x.clauses i)
  have hpn:=dt (bL x.clauses i).pats
  have hka:ha.next<900000000:=by omega
  have pp:∀v,v∈clO (bL x.clauses i)→bN v:=fun v hv=>(iE _ v hv).x
  obtain⟨h2,c2,g2⟩:=f50e ga.cs (by omega) 12 (Int.ofNat (bL x.clauses i).pats.length)
  have r0:=(Gf.refl ga.cs).up (m:=2) (by omega)
  obtain⟨fli,hfli⟩:∃fli,fli=cj (fun i g=>wi E p (Int.ofNat (bL x.clauses 0).pats.length) (bL x.clauses i) sc g) fl0 i:=⟨_,rfl⟩
  rw [←hfli]at ga g2 r0
  repeat' (first
   |(refine WLg.mk ?_;first
   |refine aa rfl rfl (bM (i:=0) hb0) rfl ?_|refine aa rfl rfl rfl rfl ?_|refine aa rfl rfl (bM Hy) rfl ?_
   |refine ab rfl rfl (eP (i:=0) hb0 rfl) rfl ?_|refine ab rfl rfl rfl rfl ?_|refine ab rfl rfl (gK Hy) rfl ?_
   |refine aA rfl rfl (cT hka) rfl rfl rfl rfl rfl rfl rfl rfl pp rfl rfl ?_|refine am rfl rfl rfl (c2) (fun _ _ q=>q) .none rfl ?_)
   |refine ah ?_|refine ac rfl ?_
   |(show WC _ _ _ _ _ (bZ.seq (bZ.seq _ (bZ.seq _ (bZ.cond (Opd.l 43) _ _))) _) _ _ _;refine aT (fun l2 h2=>l2=fr148b x k i∧Gf D p (if eqI (Int.ofNat (bL x.clauses i).pats.length) (Int.ofNat (bL x.clauses 0).pats.length)then fli else fli++[flw p 12 eB (Int.ofNat (bL x.clauses i).pats.length)]) ha h2 2) ?_ ?_)
   |refine ai ?_|refine ae ?_|refine aj ?_|refine al ?_
   |refine ak rfl (fun ht=>?_) (fun ht=>(Bool.false_ne_true (ht.symm.trans (by with_reducible assumption))).elim)
   |refine ak rfl (fun ht=>?_) (fun ht=>?_)|refine bE.norm ?_|fail)
  ·exact .norm ⟨_,_,bR KH,rfl,g2.eq (by(try simp only [Bool.not_eq_true']at*)<;>first|(simp [*];done)|(simp_all [];done))⟩
  ·exact .norm ⟨_,_,bR KH,rfl,r0.eq (by(try simp only [Bool.not_eq_false']at*)<;>first|(simp [*];done)|(simp_all [];done))⟩
  clear c2 g2 r0
  rintro _ hb ⟨rfl,gb⟩
  obtain⟨fl2,hfl2⟩:∃fl2,fl2=(if eqI (Int.ofNat (bL x.clauses i).pats.length) (Int.ofNat (bL x.clauses 0).pats.length)then fli else fli++[flw p 12 eB (Int.ofNat (bL x.clauses i).pats.length)]):=⟨_,rfl⟩
  rw [←hfl2]at gb
  have nb:=gb.nx
  have sob:=so.km0 (ga.km.trans gb.km)
  obtain⟨hc,cc,csc,soc,kmc,nxc⟩:=f103 gb.cs sob (by omega)
  obtain⟨csd,sod,kmd⟩:=csc.newmap (by omega) [] true List.nodup_nil
  repeat' (first
   |(refine WLg.mk ?_;first
   |refine aa rfl rfl rfl rfl ?_|refine ab rfl rfl rfl rfl ?_|refine aE (t:=hc.t) (k:=hc.next) rfl rfl rfl (cT (by omega)) rfl ?_
   |refine am rfl rfl rfl (cc) (fun _ _ q=>q) .none rfl ?_)
   |refine ah ?_|refine ac rfl ?_|refine ai ?_|refine ae ?_|refine aj ?_|refine bE.norm ?_|fail)
  refine av (bR (l:=fr148c x k i hb.next hc.next 0) KH) ?_
  have ordd:∃es,(⟨hc.t.put hc.next (some (.map (scE []) true)),Nat.succ hc.next⟩:H).blk hc.next=some (.map es true):=⟨_,by rw [fE (by unfold bP;omega),if_pos rfl]⟩
  have nxd:(⟨hc.t.put hc.next (some (.map (scE []) true)),Nat.succ hc.next⟩:H).next=hc.next+1:=rfl
  change WC _ _ _ _ _ _ _ (⟨hc.t.put hc.next (some (.map (scE []) true)),Nat.succ hc.next⟩:H) _
  generalize (⟨hc.t.put hc.next (some (.map (scE []) true)),Nat.succ hc.next⟩:H)=hd at csd sod kmd ordd nxd ⊢
  refine aw (bL x.clauses i).pats.length (fun j f h1=>f=fr148c x k i hb.next hc.next j∧Gs D p fl2 hc.next (cj (fun j s=>iI B6 (bW (bL x.clauses i).pats j) s) [] j) hd h1 0) ?_ (i:=0) (Nat.zero_le _) ⟨rfl,Gs.refl csd sod⟩
  rintro j _ he hj ⟨rfl,ge⟩
  have hj2:j<9223372036854775807:=by omega
  have hne:=ge.nx
  cases qj:ltI (Int.ofNat j) (Int.ofNat (bL x.clauses i).pats.length)with
  |true=>
   have hltj:=bK qj
   have hprj:=fO hltj
   have hlej:=d8 (bL x.clauses i).pats (j+1)
   have hke:he.next<900000000:=by omega
   have pp:∀v,v∈exO (bW (bL x.clauses i).pats j)→bN v:=fun v hv=>(dc _ v hv).x
   obtain⟨hu,cu,gu⟩:=nC B6 oY (bW (bL x.clauses i).pats j) (rl (by omega)) ge.cs ge.so (by omega)
   repeat' (first
    |(refine WLg.mk ?_;first
    |refine aa rfl rfl rfl rfl ?_|refine aa rfl rfl (bM Hy) rfl ?_
    |refine ab rfl rfl (show ROp.run (.load true 11) [.eptr (exO (bW (bL x.clauses i).pats j)) 0] _=some (.agg (exO (bW (bL x.clauses i).pats j)))from rfl) rfl ?_
    |refine ab rfl rfl (dv Hy) rfl ?_|refine aA rfl rfl (cT hke) rfl rfl rfl rfl rfl rfl rfl rfl pp rfl rfl ?_
    |refine am rfl rfl rfl (cu) (fun _ _ q=>q) .none rfl ?_)
    |refine ah ?_|refine ac rfl ?_|refine ai ?_|refine ae ?_|refine aj ?_|refine al ?_
    |refine ak rfl (fun ht=>?_) (fun ht=>(Bool.false_ne_true (ht.symm.trans (by with_reducible assumption))).elim)
    |refine bE.norm ?_|fail)
   exact .norm ⟨_,_,bR KH,hltj,rfl,ge.trans gu⟩
  |false=>
   have hje:j=(bL x.clauses i).pats.length:=by have:=ci qj;omega
   subst hje
   obtain⟨own,hown⟩:∃own,own=GP (bL x.clauses i):=⟨_,rfl⟩
   have ge:Gs D p fl2 hc.next own hd he 0:=by rw [hown];exact ge
   have oe:he.blk hc.next=some (.map (scE own) true):=by
    obtain⟨o1,k1⟩:=ge.so.out
    obtain⟨es,k2⟩:=ordd
    obtain⟨es2,k3⟩:=ge.km.od (by have:=ge.so.lo;omega) es k2
    rw [k1]at k3
    cases k3
    exact k1
   have klt:=ge.so.hi
   have klo:=ge.so.lo
   have soe:Sco he hb.next sc:=(soc.km0 kmd).km ge.km.toKMx (by omega)
   obtain⟨oi,bi⟩:=soe.out
   have hkk:900000002<bP:=by unfold bP;omega
   have rng:EOp.run .rangeM [.map hc.next] he=some (.ptr he.next 0,⟨he.t.put he.next (some (.miter hc.next (some ([],own.length)))),Nat.succ he.next⟩):=by
    show ob (ob (he.blk hc.next) _) _=_
    rw [oe]
    show ob (H.new he (.miter hc.next (Bool.rec (motive:=fun _=>Option (List Nat×Nat)) none (some ([],bU (scE own))) (he.ord hc.next)))) _=_
    rw [show he.ord hc.next=true by unfold H.ord;rw [oe],@bS noE,pt]
    show ob (oif (Nat.blt he.next bP) _) _=_
    rw [cT (by omega)]
    rfl
   obtain⟨hf,ehf⟩:∃hf:H,hf=⟨he.t.put he.next (some (.miter hc.next (some ([],own.length)))),Nat.succ he.next⟩:=⟨_,rfl⟩
   have bf:∀j,hf.blk j=if j=he.next then some (.miter hc.next (some ([],own.length)))else he.blk j:=fun j=>by rw [ehf];exact fE (by omega)
   have nf:hf.next=he.next+1:=by rw [ehf]
   rw [←ehf]at rng
   have sm:=Et (K:=fun id=>id<h.next∧¬noM id) (fr:=fr148d x k i hb.next he.next) (h:=hf) (it:=he.next) (ki:=hb.next) (km:=hc.next) (sc:=sc) (own:=own) (o:=oi) rfl rfl rfl rfl (by rw [bf,if_pos rfl]) (by rw [bf,if_neg (by omega)];exact oe) (by rw [bf,if_neg (by omega)];exact bi) (by omega) (by omega) (by omega) so.nd
   obtain⟨hg,ehg⟩:∃hg:H,hg=⟨(hf.t.put hb.next (some (.map (scE (jN sc own)) false))).put he.next (some .dead),hf.next⟩:=⟨_,rfl⟩
   rw [←ehg]at sm
   have bg:∀j,hg.blk j=if j=he.next then some .dead else if j=hb.next then some (.map (scE (jN sc own)) false)else hf.blk j:=fun j=>by
    rw [ehg]
    show Tr.get _ _=_
    rw [Tr.get_put _ _ _ _ (by omega)]
    split
    ·rfl
    ·exact fE (h:=hf) (n:=hf.next) (by omega)
   have ng:hg.next=he.next+1:=by rw [ehg];exact nf
   have old:∀j,j<he.next→j≠hb.next→hg.blk j=he.blk j:=fun j q1 q2=>by rw [bg,if_neg (by omega),if_neg q2,bf,if_neg (by omega)]
   have csg:CS D p fl2 hg:=ge.cs.mono (by omega) fun j q1 q2=>old j q1 fun q3=>by
    subst q3
    rcases q2 with q2|q2
    ·have:=soe.lo;omega
    ·exact q2 _ _ bi
   have sog:Sco hg hb.next (jN sc own):=⟨soe.lo,by have:=soe.hi;omega,si so.nd,false,by rw [bg,if_neg (by have:=soe.hi;omega),if_pos rfl]⟩
   have kmg:KMx hb.next he hg:=⟨by omega,fun j es o q1 q2 q3=>by rw [old j q1 q2];exact q3⟩
   have hzm:szS (jN sc own)≤szS sc:=sf
   obtain⟨hu,cu,gu⟩:=f52 X (x:=bL x.clauses i) (by omega) (by omega) csg sog (by omega) (by omega)
   have nu:=gu.nx
   have kb:=ga.km.trans gb.km
   have nle:=kb.le
   have kh:KM 0 h hu:=((((kb.trans kmc).trans kmd).fresh (by omega) ge.km.toKMx).fresh (by omega) kmg).fresh (by omega) gu.km.toKMx
   have r:Gf D p (wi E p (Int.ofNat (bL x.clauses 0).pats.length) (bL x.clauses i) sc fli) h hu (2+40*bF (clL (x.clauses.take (i+1)))):=⟨by
    rw [wi,←hfl2,←hown]
    exact gu.cs,kh,by omega⟩
   rw [hfli]at r
   repeat' (first
    |(refine WLg.mk ?_;first
    |refine aa rfl rfl rfl rfl ?_|refine aD rfl rfl rng rfl ?_)
    |refine ah ?_|refine ac rfl ?_|refine ai ?_|refine ae ?_|refine aj ?_
    |refine ak rfl (fun ht=>(Bool.false_ne_true ((show _=false by with_reducible assumption).symm.trans ht)).elim) (fun ht=>?_)
    |refine au ?_|refine bE.norm ?_|refine bE.exit ?_|refine OnC.exit ?_|fail)
   refine av (bR (l:=fr148d x k i hb.next he.next) KH) ?_
   refine WC.sem sm ?_
   repeat' (first
    |(refine WLg.mk ?_;first
    |refine aa rfl rfl rfl rfl ?_
    |refine ab rfl rfl (show ROp.run (.load true 4) [.eptr (clO (bL x.clauses i)) 0] _=some (.agg (clO (bL x.clauses i)))from rfl) rfl ?_
    |refine am rfl rfl rfl (cu) (fun _ _ q=>q) .none rfl ?_)
    |refine ah ?_|refine ac rfl ?_|refine ae ?_|refine bE.norm ?_|fail)
   exact .norm ⟨_,_,bR KH,hlt,rfl,r⟩
end
section
theorem nZ{D:Df}:∀t,t≤6000001→EX D (lX D t) t
 |0,_=>fun x hx=>by omega
 |t+1,ht=>wJ (by omega) (nZ t (by omega)) (Bs (by omega) (nZ t (by omega)))
theorem G1{D:Df}:EX D (lX D B6) B6:=nZ B6 oY
noncomputable section
def nmB(a b:ByteArray):Bool:=dJ a.size (bT a.data.toList) b.size (bT b.data.toList)
def plF(f:Fu)(i:Nat):Pl:=⟨f.name,f.arity,Int.ofNat (i+1)⟩
def ry(D:Df)(f:Fu)(i:Nat)(fl:List Fl):List Fl:=
 qB (lX D B6) (plF f i) (bL f.clauses i) [] (if nmB (bL f.clauses i).name f.name&&eqI (Int.ofNat (bL f.clauses i).pats.length) f.arity then fl else fl++[flw (plF f i) 4 (bL f.clauses i).name (Int.ofNat (bL f.clauses i).pats.length)])
def rx(f:Fu)(again:Bool)(fl:List Fl):List Fl:=
 if eqI (ri 51 [sV f.name,.int .i64 f.arity]) 0 then(if again then fl++[flw (plF f 0) 3 f.name f.arity]else fl)else(if again then fl++[flw (plF f 0) 3 f.name f.arity]else fl)++[flw (plF f 0) 5 f.name f.arity]
def fnF(D:Df)(f:Fu)(again:Bool)(fl:List Fl):List Fl:=cj (fun i fl=>ry D f i fl) (rx f again fl) f.clauses.length
def fr31(f:Fu)(i:Nat):AL:=[(0,.ptr 2 0),(4,.eptr (fuO f) 0),(36,.lst f.clauses.length 4 (clL f.clauses)),(37,.int .i64 (Int.ofNat f.clauses.length)),(38,.int .i64 (Int.ofNat i))]
def fr31s(f:Fu):AL:=[(0,.ptr 2 0),(4,.eptr (fuO f) 0)]
def fr31c(f:Fu)(i l7:Nat):AL:=[(0,.ptr 2 0),(4,.eptr (fuO f) 0),(7,.ptr l7 0),(36,.lst f.clauses.length 4 (clL f.clauses)),(37,.int .i64 (Int.ofNat f.clauses.length)),(38,.int .i64 (Int.ofNat i))]
def z4:List V:=[.str 0 0,.nils,.nils,.nils]
end
structure Gm(D:Df)(fl:List Fl)(h0 h:H)(n:Nat):Prop where
 cs:∃p,CS D p fl h
 km:KM 0 h0 h
 nx:h.next≤h0.next+n
set_option maxHeartbeats 1600000 in
theorem f31{D:Df}{p:Pl}{fl:List Fl}{h:H}(c:CS D p fl h){f:Fu}{a:Nat}(ha:f.arity=Int.ofNat a)(ha2:a<1000000000)(hf:bF (fuO f)≤6000000)(again:Bool)(hk:h.next+40*bF (fuO f)<300000000):∃h',Con Tryz.prog TP noM 31 [.ptr 2 0,.agg (fuO f),.bool again] h (.tup []) h'∧Gm D (fnF D f again fl) h h' (40*bF (fuO f)):=by
 have hsz:=iN f
 have hcn:=eS f.clauses
 have bx:∀v,v∈fuO f→bN v:=fun v hv=>(jj f) v hv
 obtain⟨h0,w0,c0,k0,n0⟩:=c.place (by omega) f.name f.arity
 have c0:CS D (plF f 0) fl h0:=c0
 obtain⟨h1,c1,q1,q2,q3,_⟩:=f50 c0 (by omega) 3 f.arity f.name
 have c51:ck Tryz.prog TP 51 [sV f.name,.int .i64 f.arity] (.int .i64 (ri 51 [sV f.name,.int .i64 f.arity])):=by
  rw [ha]
  obtain⟨k,q⟩:=f51 f.name.size (bT f.name.data.toList) a (by omega) ha2
  exact vm ⟨_,q,k,rfl⟩
 refine cO Tryz.func31 (by decide) cf31_ok rfl rfl (cP c.le) ?_
 repeat' (first
  |(refine WLg.mk ?_;first
  |refine aa rfl rfl rfl rfl ?_|refine ab rfl rfl rfl rfl ?_|refine az rfl rfl rfl rfl bx rfl ?_
  |refine am rfl rfl rfl (c1) (fun _ _ q=>q) .none rfl ?_|refine aD rfl rfl w0 rfl ?_)
  |refine ah ?_|refine ac rfl ?_
  |(show WC _ _ _ _ _ (bZ.seq (bZ.seq _ (bZ.cond (Opd.l 16) _ _)) _) _ _ _;refine aT (fun l2 h2=>l2=fr31s f∧Gf D (plF f 0) (if again then fl++[flw (plF f 0) 3 f.name f.arity]else fl) h0 h2 2) ?_ ?_)
  |refine ai ?_|refine ae ?_|refine al ?_|refine ak rfl (fun ht=>?_) (fun ht=>?_)|refine bE.norm ?_|fail)
 ·exact .norm ⟨_,_,bR KH,rfl,(⟨q1,q2,by omega⟩:Gf D (plF f 0) _ h0 h1 2).eq (by(try simp only [Bool.not_eq_true',Bool.not_eq_false']at*)<;>first|(simp [*];done)|(simp_all [Bool.not_true];done))⟩
 ·exact .norm ⟨_,_,bR KH,rfl,((Gf.refl c0).up (m:=2) (by omega)).eq (by(try simp only [Bool.not_eq_true',Bool.not_eq_false']at*)<;>first|(simp [*];done)|(simp_all [Bool.not_true];done))⟩
 clear c1 q1 q2 q3 w0
 rintro _ hs ⟨rfl,gs⟩
 have ns:=gs.nx
 obtain⟨h2,c2,q1,q2,q3,_⟩:=f50 gs.cs (by omega) 5 f.arity f.name
 repeat' (first
  |(refine WLg.mk ?_;first
  |refine aa rfl rfl rfl rfl ?_|refine ab rfl rfl rfl rfl ?_|refine aq rfl rfl rfl (c51) rfl ?_
  |refine am rfl rfl rfl (c2) (fun _ _ q=>q) .none rfl ?_)
  |refine ah ?_|refine ac rfl ?_
  |(show WC _ _ _ _ _ (bZ.seq (bZ.seq _ (bZ.cond (Opd.l 28) _ _)) _) _ _ _;refine aT (fun l2 h2=>l2=fr31s f∧Gf D (plF f 0) (rx f again fl) h0 h2 4) ?_ ?_)
  |refine ai ?_|refine ae ?_|refine al ?_|refine ak rfl (fun ht=>?_) (fun ht=>?_)|refine bE.norm ?_|fail)
 ·exact .norm ⟨_,_,bR KH,rfl,((gs.trans (⟨q1,q2,by omega⟩:Gf D (plF f 0) _ hs h2 2)).up (by omega)).eq (by(try simp only [Bool.not_eq_true']at*)<;>first|(simp [rx, *];done)|(simp_all [rx];done))⟩
 ·exact .norm ⟨_,_,bR KH,rfl,(gs.up (m:=4) (by omega)).eq (by(try simp only [Bool.not_eq_false']at*)<;>first|(simp [rx, *];done)|(simp_all [rx];done))⟩
 clear c2 q1 q2 q3 gs ns
 rintro _ hs ⟨rfl,gs⟩
 have ns:=gs.nx
 repeat' (first
  |(refine WLg.mk ?_;first
  |refine aa rfl rfl rfl rfl ?_|refine ab rfl rfl rfl rfl ?_)
  |refine ah ?_|refine ac rfl ?_|refine ai ?_|refine ae ?_|refine aj ?_|refine bE.norm ?_|fail)
 refine av (bR (l:=fr31 f 0) KH) ?_
 refine aw f.clauses.length (fun i l h1=>l=fr31 f i∧(∃c,CS D ⟨f.name,f.arity,c⟩ (cj (fun i fl=>ry D f i fl) (rx f again fl) i) h1)∧KM 0 h h1∧h1.next≤h.next+4+40*bF (clL (f.clauses.take i))) ?_ (i:=0) (Nat.zero_le _) ⟨rfl,⟨_,gs.cs⟩,k0.trans gs.km,by omega⟩
 clear gs ns
 clear hs
 rintro i _ ha hi ⟨rfl,⟨cc,csa⟩,kma,hnx⟩
 have hi2:i<9223372036854775807:=by omega
 cases q:ltI (Int.ofNat i) (Int.ofNat f.clauses.length)with
 |false=>
  have hie:i=f.clauses.length:=by have:=ci q;omega
  repeat' (first
   |(refine WLg.mk ?_;first
   |refine aa rfl rfl rfl rfl ?_)
   |refine ah ?_|refine ac rfl ?_|refine ai ?_|refine ae ?_
   |refine ak rfl (fun ht=>(Bool.false_ne_true ((show _=false by with_reducible assumption).symm.trans ht)).elim) (fun ht=>?_)
   |refine au ?_|refine bE.norm ?_|refine bE.exit ?_|refine OnC.exit ?_|fail)
  subst hie
  rw [List.take_length]at hnx
  exact⟨.inl rfl,_,rfl,kma.le,rfl,⟨_,csa⟩,kma,by omega⟩
 |true=>
  have hlt:=bK q
  have hpre:=mB hlt
  have hle:=kB f.clauses (i+1)
  have hcs:=ff (bL f.clauses i)
  have hka:ha.next<900000000:=by omega
  obtain⟨hv,tr,wv,csv,kmv,nxv,bv,tv,_⟩:=csa.slot hka z4 (clO (bL f.clauses i)) rfl (by decide) rfl
  obtain⟨hw,ww,csw,kmw,nxw,ow⟩:=csv.clause (by omega) (Int.ofNat (i+1))
  have csw:CS D (plF f i) _ hw:=csw
  have l2:=csa.le
  have bw:hw.blk ha.next=some (.cells 4 tr none false):=by rw [ow _ (by omega)];exact bv
  have r0:ROp.run (.load false 1) [.ptr ha.next 0] hw=some (sV (bL f.clauses i).name):=dq bw (tv 0 _ rfl) (by decide)
  have r1:ROp.run (.load false 1) [.ptr ha.next 1] hw=some (.lst (bL f.clauses i).pats.length 11 (exL (bL f.clauses i).pats)):=dq bw (tv 1 _ rfl) (by decide)
  have pa:POp.run (.bin .add) [.int .i64 (Int.ofNat i),.int .i64 1]=some (.int .i64 (Int.ofNat (i+1))):=by
   show some (V.int .i64 (cZ .i64 (Int.add (Int.ofNat i) (Int.ofNat 1))))=_
   rw [iT hi2]
  obtain⟨hx,cx,q1,q2,q3,qb⟩:=f50 csw (by omega) 4 (Int.ofNat (bL f.clauses i).pats.length) (bL f.clauses i).name
  have gx:Gf D (plF f i) _ hw hx 2:=⟨q1,q2,by omega⟩
  have g0:=(Gf.refl csw).up (m:=2) (by omega)
  have bx2:=qb _ tr (by omega) bw
  obtain⟨fli,hfli⟩:∃fli,fli=cj (fun i fl=>ry D f i fl) (rx f again fl) i:=⟨_,rfl⟩
  rw [←hfli]at gx g0
  repeat' (first
   |(refine WLg.mk ?_;first
   |refine aa rfl rfl pa rfl ?_|refine aa rfl rfl rfl rfl ?_|refine aa rfl rfl (bM Hy) rfl ?_|refine ab rfl rfl r0 rfl ?_
   |refine ab rfl rfl r1 rfl ?_|refine ab rfl rfl rfl rfl ?_|refine ab rfl rfl (gK Hy) rfl ?_
   |refine aE (t:=ha.t) (k:=ha.next) rfl rfl rfl (cT hka) rfl ?_|refine am rfl rfl rfl (cx) (fun _ _ q=>q) .none rfl ?_
   |refine aD rfl rfl wv rfl ?_|refine aD rfl rfl ww rfl ?_)
   |refine ah ?_|refine ac rfl ?_|refine ax rfl rfl ?_|refine ay rfl (fun ht=>?_) (fun ht=>?_)
   |(show WC _ _ _ _ _ (bZ.seq (bZ.seq _ (bZ.cond (Opd.l 61) _ _)) _) _ _ _;refine aT (fun l2 h2=>l2=fr31c f i ha.next∧h2.blk ha.next=some (.cells 4 tr none false)∧Gf D (plF f i) (if nmB (bL f.clauses i).name f.name&&eqI (Int.ofNat (bL f.clauses i).pats.length) f.arity then fli else fli++[flw (plF f i) 4 (bL f.clauses i).name (Int.ofNat (bL f.clauses i).pats.length)]) hw h2 2) ?_ ?_)
   |refine ai ?_|refine ae ?_|refine aj ?_|refine al ?_|refine aC rfl ?_
   |refine ak rfl (fun ht=>?_) (fun ht=>(Bool.false_ne_true (ht.symm.trans (by with_reducible assumption))).elim)
   |refine ak rfl (fun ht=>?_) (fun ht=>?_)|refine bE.norm ?_|fail)
  ·exact .norm ⟨_,_,bR KH,rfl,bx2,gx.eq (by(try simp only [Bool.not_eq_true']at*)<;>first|(simp [nmB, *];done)|(simp_all [nmB];done))⟩
  ·exact .norm ⟨_,_,bR KH,rfl,bx2,gx.eq (by(try simp only [Bool.not_eq_true',Bool.not_eq_false']at*)<;>first|(simp [nmB, *];done)|(simp_all [nmB];done))⟩
  ·exact .norm ⟨_,_,bR KH,rfl,bw,g0.eq (by(try simp only [Bool.not_eq_false']at*)<;>first|(simp [nmB, *];done)|(simp_all [nmB];done))⟩
  clear cx q1 q2 q3 qb gx g0 bx2 r0 r1 ww wv pa bv csv
  rintro _ hy ⟨rfl,by2,gy⟩
  obtain⟨fl3,hfl3⟩:∃fl3,fl3=(if nmB (bL f.clauses i).name f.name&&eqI (Int.ofNat (bL f.clauses i).pats.length) f.arity then fli else fli++[flw (plF f i) 4 (bL f.clauses i).name (Int.ofNat (bL f.clauses i).pats.length)]):=⟨_,rfl⟩
  rw [←hfl3]at gy
  have ny:=gy.nx
  have ld4:ROp.run (.load true 4) [.ptr ha.next 0] hy=some (.agg (clO (bL f.clauses i))):=Bc by2 rfl tv
  obtain⟨csm,som,kmm⟩:=gy.cs.newmap (by omega) [] true List.nodup_nil
  have nxm:(⟨hy.t.put hy.next (some (.map (scE []) true)),Nat.succ hy.next⟩:H).next=hy.next+1:=rfl
  obtain⟨hu,cu,gu⟩:=f52 G1 (x:=bL f.clauses i) (rl (by omega)) oY csm som (by simp only [szS,List.map_nil,List.sum_nil];omega) (by omega)
  have nu:=gu.nx
  have kyl:=gy.km.le
  have kh:KM 0 h hu:=(((((kma.trans kmv).trans kmw).trans gy.km).trans kmm).fresh (by have:=kma.le;omega) gu.km.toKMx)
  have csu:CS D (plF f i) (cj (fun i fl=>ry D f i fl) (rx f again fl) (i+1)) hu:=by
   show CS D (plF f i) (ry D f i (cj (fun i fl=>ry D f i fl) (rx f again fl) i)) hu
   rw [ry,←hfli,←hfl3]
   exact gu.cs
  have pa:POp.run (.bin .add) [.int .i64 (Int.ofNat i),.int .i64 1]=some (.int .i64 (Int.ofNat (i+1))):=by
   show some (V.int .i64 (cZ .i64 (Int.add (Int.ofNat i) (Int.ofNat 1))))=_
   rw [iT hi2]
  repeat' (first
   |(refine WLg.mk ?_;first
   |refine aa rfl rfl pa rfl ?_|refine aa rfl rfl rfl rfl ?_|refine ab rfl rfl ld4 rfl ?_
   |refine aE (t:=hy.t) (k:=hy.next) rfl rfl rfl (cT (by omega)) rfl ?_|refine am rfl rfl rfl (cu) (fun _ _ q=>q) .none rfl ?_)
   |refine ah ?_|refine ac rfl ?_|refine ae ?_|refine bE.norm ?_|fail)
  exact .norm ⟨_,_,bR KH,hlt,rfl,⟨_,csu⟩,kh,by omega⟩
end
end Ev
end Go.Proofs.YtdfphfdnoobikaaGreatDoor
