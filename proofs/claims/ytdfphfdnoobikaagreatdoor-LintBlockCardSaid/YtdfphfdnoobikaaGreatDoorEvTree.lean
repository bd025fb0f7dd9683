/-
  Values as trees:what is only read,in whatever world it lies.
-/
import Derived.Test.YtdfphfdnoobikaaGreatDoorEvDraw6
namespace Go.Proofs.YtdfphfdnoobikaaGreatDoor
namespace Ev
section
variable [Env]
set_option linter.unusedSectionVars false
def flat(x:V):Bool:=
 match x with
 |.bool _=>true
 |.int _ _=>true
 |.str _ _=>true
 |.nilp=>true
 |.nils=>true
 |.nilm=>true
 |.nilf=>true
 |.nili=>true
 |_=>false
theorem C4{g g':G}{x:V}{u:Value}(hf:flat x=true)(h:VR g x u):VR g' x u:=by
 cases h<;>first|(cases hf;done)|constructor
theorem vd{x:V}(hf:flat x=true):cD x=true:=by
 cases x<;>first|rfl|cases hf
abbrev nog:G:=fun _=>none
noncomputable section
end
noncomputable section
end
def sB(g:G)(h:H):Prop:=(∀id b,h.blk id=some b→b.isRo=true)∧∀id x,g id=some x→∃b,h.blk id=some b
theorem WR.over{T:Ty}{b o z:Nat}{g:G}{h:H}{w:World}(r:WR T g h w)(hro:∀i o' z' k,g i=some (b,o',z')→h.blk i=some k→k.live=true→k.isRo=true)(hk:h.next<bP){c:Array Value}{t:TypeId}{vs:List V}{xs:List Value}
  (hw:w.heap[b]? =some (.cells c t (0,0))) (hs:c.size=o+z) (hv:VRs g vs xs) (hx:∀j u,xs[j]? =some u→c[o+j]? =some u) (hz:xs.length≤z) (hy:xs.length≤bP) (h1:∀v,v∈vs→cD v=true):
  WR T (et g h.next (b,o,z)) ⟨h.t.put h.next (some (.ro (bU vs) (cE vs 0 .e))),Nat.succ h.next⟩ w∧g.le (et g h.next (b,o,z))∧(∀j,(⟨h.t.put h.next (some (.ro (bU vs) (cE vs 0 .e))),Nat.succ h.next⟩:H).blk j=if j=h.next then some (.ro (bU vs) (cE vs 0 .e))else h.blk j)∧g h.next=none:=by
 have hn:H.new h (.ro (bU vs) (cE vs 0 .e))=some ⟨h.t.put h.next (some (.ro (bU vs) (cE vs 0 .e))),Nat.succ h.next⟩:=by
  unfold H.new
  rw [bJ]
  exact⟨by simpa using hk,rfl⟩
 obtain⟨r1,e1,e2,e3⟩:=r.add hn (.inl rfl)
 have le:=eR (b,o,z) e3
 have hblk:=e2
 have kin':Kin h ⟨h.t.put h.next (some (.ro (bU vs) (cE vs 0 .e))),Nat.succ h.next⟩:=fun i b' k p q=>by
  have hi:i≠h.next:=fun e=>by have:=r.top i _ p;omega
  exact⟨b',by rw [hblk,if_neg hi];exact p,q⟩
 have cases':∀{i:Nat} {x:Nat×Nat×Nat},et g h.next (b,o,z) i=some x→(i=h.next∧x=(b,o,z))∨(i≠h.next∧g i=some x):=by
  intro i x e
  by_cases h1:i=h.next
  ·subst h1;rw [cg]at e;exact .inl ⟨rfl,(Option.some.inj e).symm⟩
  ·rw [dk _ h1]at e;exact .inr ⟨h1,e⟩
 refine⟨⟨r1.bound,r1.top,fun i x e=>?_,fun i b' o' z' e=>?_,fun i x k k1 k2=>?_,fun i j b' o1 z1 o2 z2 bi bj hij k1 k2 k3 k4 l1 l2=>?_,fun i q j d ch k1 k2=>?_,fun i q j d ch q' k1 k2 k3=>?_⟩,le,hblk,e3⟩
 ·rcases cases' e with⟨rfl,_⟩ | ⟨_,e⟩
  ·exact Nat.lt_succ_self _
  ·exact Nat.lt_succ_of_lt (r.dom _ _ e)
 ·rcases cases' e with⟨_,e⟩ | ⟨_,e⟩
  ·cases e;exact(Array.getElem?_eq_some_iff.1 hw).1
  ·exact r.lt _ _ _ _ e
 ·rcases cases' k1 with⟨rfl,e⟩ | ⟨h2,e⟩
  ·rw [hblk,if_pos rfl]at k2
   cases k2
   refine⟨b,o,z,c,t,cg _ _ _,hw,hs,?_,?_,fun j v hj hg=>?_⟩
   ·rw [bS,hv.length];exact hz
   ·rw [bS,hv.length];exact hy
   ·rw [bS]at hj
    rw [cW vs 0 .e j (by rw [hv.length];omega),if_pos (by omega)]at hg
    obtain⟨u,m1,m2⟩:=hv.get (i:=j) (by simpa using hg)
    exact⟨u,hx j u m1,m2.mono le,h1 v (List.mem_of_getElem? (by simpa using hg))⟩
  ·rw [hblk,if_neg h2]at k2
   exact(r.blk i x k e k2).mono le
 ·have roAt:∀{k:Nat} {bk:Blk} {ok zk:Nat},et g h.next (b,o,z) k=some (b,ok,zk)→(⟨h.t.put h.next (some (.ro (bU vs) (cE vs 0 .e))),Nat.succ h.next⟩:H).blk k=some bk→bk.live=true→bk.isRo=true:=by
   intro k bk ok zk q1 q2 ql
   rw [hblk]at q2
   by_cases h2:k=h.next
   ·rw [if_pos h2]at q2;cases q2;rfl
   ·rw [if_neg h2]at q2;rw [dk _ h2]at q1;exact hro _ _ _ _ q1 q2 ql
  by_cases hb:b'=b
  ·subst hb
   exact .inr (.inr ⟨roAt k1 k3 l1,roAt k2 k4 l2⟩)
  ·rcases cases' k1 with⟨rfl,e⟩ | ⟨hi,e1⟩
   ·cases e;exact absurd rfl hb
   ·rcases cases' k2 with⟨rfl,e⟩ | ⟨hj,e2⟩
    ·cases e;exact absurd rfl hb
    ·have m3:=k3
     have m4:=k4
     rw [hblk,if_neg hi]at m3
     rw [hblk,if_neg hj]at m4
     rcases r.mates i j _ _ _ _ _ _ _ hij e1 e2 m3 m4 l1 l2 with⟨d,u,q⟩ | ⟨d,u,q⟩|q
     ·exact .inl ⟨d,u.kin kin',q⟩
     ·exact .inr (.inl ⟨d,u.kin kin',q⟩)
     ·exact .inr (.inr q)
 ·rw [hblk]at k1
  by_cases h2:i=h.next
  ·rw [if_pos h2]at k1;cases k1;cases k2
  ·rw [if_neg h2]at k1
   obtain⟨b'',up,p1,p2,p3⟩:=r.kids i q j d ch k1 k2
   have hj:j≠h.next:=fun e=>by have:=r.top j _ p1;omega
   refine⟨b'',up,by rw [hblk,if_neg hj];exact p1,p2,fun q=>?_⟩
   rw [dk _ h2]at q
   rw [dk _ hj]
   exact p3 q
 ·rw [hblk]at k1 k3
  by_cases h2:i=h.next
  ·rw [if_pos h2]at k1;cases k1;cases k2
  ·rw [if_neg h2]at k1
   obtain⟨b'',up,p1,p2,p3⟩:=r.kids i q j d ch k1 k2
   have hj:j≠h.next:=fun e=>by have:=r.top j _ p1;omega
   rw [if_neg hj]at k3
   exact r.ext i q j d ch q' k1 k2 k3
theorem WR.overRo{T:Ty}{b o z:Nat}{g:G}{h:H}{w:World}(r:WR T g h w)(a:sB g h)(hk:h.next<bP){c:Array Value}{t:TypeId}{vs:List V}{xs:List Value}
  (hw:w.heap[b]? =some (.cells c t (0,0))) (hs:c.size=o+z) (hv:VRs g vs xs) (hx:∀j u,xs[j]? =some u→c[o+j]? =some u) (hz:xs.length≤z) (hy:xs.length≤bP) (h1:∀v,v∈vs→cD v=true):
  WR T (et g h.next (b,o,z)) ⟨h.t.put h.next (some (.ro (bU vs) (cE vs 0 .e))),Nat.succ h.next⟩ w∧sB (et g h.next (b,o,z)) ⟨h.t.put h.next (some (.ro (bU vs) (cE vs 0 .e))),Nat.succ h.next⟩∧g.le (et g h.next (b,o,z)):=by
 obtain⟨r1,le,hblk,_⟩:=r.over (fun i _ _ k _ q _=>a.1 i k q) hk hw hs hv hx hz hy h1
 refine⟨r1,⟨fun id q e=>?_,fun id x e=>?_⟩,le⟩
 ·rw [hblk]at e
  by_cases h2:id=h.next
  ·rw [if_pos h2]at e;cases e;rfl
  ·rw [if_neg h2]at e;exact a.1 id q e
 ·rw [hblk]
  by_cases h2:id=h.next
  ·rw [if_pos h2];exact⟨_,rfl⟩
  ·rw [if_neg h2];rw [dk _ h2]at e;exact a.2 id x e
theorem WR.empty(T:Ty)(w:World):WR T nog ⟨.e,0⟩ w:=by
 refine⟨Nat.zero_le _,fun id b e=>?_,fun id x e=>?_,fun id b o z e=>?_,fun id x b e=>?_,fun i j b o z o' z' bi bj _ e=>?_,fun i b j d ch e=>?_,fun i b j d ch b' e=>?_⟩
 ·cases e
 ·cases e
 ·cases e
 ·cases e
 ·cases e
 ·cases e
 ·cases e
theorem sB.empty:sB nog ⟨.e,0⟩:=⟨(fun id b e=>by cases e),(fun id x e=>by cases e)⟩
structure kM(w w':World):Prop where
 size:w.heap.size≤w'.heap.size
 keep:∀b:Nat,b<w.heap.size→w'.heap[b]? =w.heap[b]?
 os:w'.os=w.os
 tape:w'.tape=w.tape
 output:w'.output=w.output
theorem kM.refl(w:World):kM w w:=⟨Nat.le_refl _,fun _ _=>rfl,rfl,rfl,rfl⟩
theorem kM.trans{a b c:World}(h:kM a b)(k:kM b c):kM a c:=
 ⟨Nat.le_trans h.size k.size,fun i hi=>(k.keep i (Nat.lt_of_lt_of_le hi h.size)).trans (h.keep i hi),k.os.trans h.os,k.tape.trans h.tape,k.output.trans h.output⟩
end
section
variable [Env]
set_option linter.unusedSectionVars false
inductive fS:V→Prop
 |flat {v:V} (h:flat v=true):fS v
 |lst {n es:Nat} {cs:List V} (h:∀c,c∈cs→fS c):fS (.lst n es cs)
 |agg {cs:List V} (h:∀c,c∈cs→fS c):fS (.agg cs)
 |tup {cs:List V} (h:∀c,c∈cs→fS c):fS (.tup cs)
theorem gP{g g':G}:∀{l:List V} {us:List Value},(∀v,v∈l→∀u,VR g v u→VR g' v u)→VRs g l us→VRs g' l us
 |[],_,_,.nil=>.nil
 |v ::_,_,k,.cons h t=>.cons (k v List.mem_cons_self _ h) (gP (fun x hx=>k x (List.mem_cons_of_mem _ hx)) t)
end
section
variable [Env]
set_option linter.unusedSectionVars false
section
variable {P:Program} {T:Ty} {m N:Nat}
def unX(id:Nat)(x:X):X:=match x with
 |.exit j=>if j=id then .norm else .exit j
 |x=>x
theorem kx:∀{l:AL} {t:Nat} {v:V},lk l t=some v→(t,v)∈l
 |[],_,_,h=>by cases h
 |(a,b) ::l,t,v,h=>by
  have h:(Bool.rec (motive:=fun _=>Option V) (lk l t) (some b) (Nat.beq a t):Option V)=some v:=h
  rw [cq]at h
  split at h
  ·rename_i e
   cases h
   have:a=t:=by simpa using e
   subst this
   exact List.mem_cons_self
  ·exact List.mem_cons_of_mem _ (kx h)
theorem rS{o:Option bZ}{c:bZ}(h:rT o=some c)(hb:∀x,o=some x→(∃l,x= .reg l)∨∃l,x= .regD l):(∃l,c= .reg l)∨∃l,c= .regD l:=by
 rcases d3 h with h|rfl
 ·exact hb _ h
 ·exact .inl ⟨_,rfl⟩
theorem vn{id:Nat}{ops:Array Oper}{d:Bool}{cc:bZ}(h:dI T m N (.region id ops d)=some cc):(∃l,cc= .reg l)∨∃l,cc= .regD l:=by
 cases d with
 |false=>
  rw [kg]at h
  exact rS h fun x e=>by obtain⟨l,_,e⟩:=bC.1 e;cases e;exact .inl ⟨_,rfl⟩
 |true=>
  rw [iV]at h
  exact rS h fun x e=>by obtain⟨l,_,e⟩:=bC.1 e;obtain⟨l,_,e⟩:=bC.1 e;cases e;exact .inr ⟨_,rfl⟩
theorem fV:∀{c:Code} {cc:bZ},dI T m N c=some cc→match cc with
  |.seq a b=>∃c1 c2,c= .seq c1 c2∧dI T m N c1=some a∧dI T m N c2=some b
  |.cond o a b=>∃o' c1 c2,c= .cond o' c1 c2∧opd T m o'=some o∧dI T m N c1=some a∧dI T m N c2=some b
  |.block id a=>∃c1,c= .block id c1∧dI T m N c1=some a
  |.loop a=>∃c1,c= .loop c1∧dI T m N c1=some a
  |_=>True:=by
 intro c cc h
 cases c with
 |seq a b=>
  rw [kf]at h
  obtain⟨x,h1,h⟩:=bC.1 h
  obtain⟨y,h2,h⟩:=bC.1 h
  cases h
  exact⟨_,_,rfl,h1,h2⟩
 |cond o a b=>
  rw [iX]at h
  obtain⟨z,h0,h⟩:=bC.1 h
  obtain⟨x,h1,h⟩:=bC.1 h
  obtain⟨y,h2,h⟩:=bC.1 h
  cases h
  exact⟨_,_,_,rfl,h0,h1,h2⟩
 |block id a=>
  rw [ic]at h
  obtain⟨x,h1,h⟩:=bC.1 h
  cases h
  exact⟨_,rfl,h1⟩
 |loop a=>
  rw [iW]at h
  obtain⟨x,h1,h⟩:=bC.1 h
  cases h
  exact⟨_,rfl,h1⟩
 |region id ops d=>rcases vn h with⟨l,rfl⟩ | ⟨l,rfl⟩<;>trivial
 |rangeFunc f ps a b=>
  rw [ib]at h
  obtain⟨_,_,h⟩:=bC.1 h
  obtain⟨_,_,h⟩:=bC.1 h
  obtain⟨_,_,h⟩:=bC.1 h
  obtain⟨_,_,h⟩:=bC.1 h
  cases h
  trivial
 |_=>(rw [dI]at h<;>first|(intros;contradiction)|(cases h;trivial))
end
end
section
variable [Env]
set_option linter.unusedSectionVars false
section
variable {P:Program} {T:Ty} {m N:Nat}
end
end
section
mutual
inductive Ex where
 |mk (kind int:Int) (name text:ByteArray) (items:List Ex) (segs:List Sg) (clauses catches:List Cl) (body after:List Sm) (wait:Bool)
inductive Sg where
 |mk (type:Int) (text:ByteArray) (val size:Ex) (sized signed little:Bool)
inductive Cl where
 |mk (name:ByteArray) (pats:List Ex) (guards:List (List Ex)) (body:List Sm)
inductive Sm where
 |mk (isMatch:Bool) (pat val:Ex)
end
namespace Ex
def kind:Ex→Int | .mk k _ _ _ _ _ _ _ _ _ _=>k
def int:Ex→Int | .mk _ n _ _ _ _ _ _ _ _ _=>n
def name:Ex→ByteArray | .mk _ _ s _ _ _ _ _ _ _ _=>s
def text:Ex→ByteArray | .mk _ _ _ s _ _ _ _ _ _ _=>s
def items:Ex→List Ex | .mk _ _ _ _ l _ _ _ _ _ _=>l
def segs:Ex→List Sg | .mk _ _ _ _ _ l _ _ _ _ _=>l
def clauses:Ex→List Cl | .mk _ _ _ _ _ _ l _ _ _ _=>l
def catches:Ex→List Cl | .mk _ _ _ _ _ _ _ l _ _ _=>l
def body:Ex→List Sm | .mk _ _ _ _ _ _ _ _ l _ _=>l
def after:Ex→List Sm | .mk _ _ _ _ _ _ _ _ _ l _=>l
def wait:Ex→Bool | .mk _ _ _ _ _ _ _ _ _ _ b=>b
end Ex
namespace Sg
def type:Sg→Int | .mk t _ _ _ _ _ _=>t
def text:Sg→ByteArray | .mk _ t _ _ _ _ _=>t
def val:Sg→Ex | .mk _ _ x _ _ _ _=>x
def size:Sg→Ex | .mk _ _ _ x _ _ _=>x
def sized:Sg→Bool | .mk _ _ _ _ b _ _=>b
def signed:Sg→Bool | .mk _ _ _ _ _ b _=>b
def little:Sg→Bool | .mk _ _ _ _ _ _ b=>b
end Sg
namespace Cl
def name:Cl→ByteArray | .mk s _ _ _=>s
def pats:Cl→List Ex | .mk _ l _ _=>l
def guards:Cl→List (List Ex) | .mk _ _ l _=>l
def body:Cl→List Sm | .mk _ _ _ l=>l
end Cl
namespace Sm
def isMatch:Sm→Bool | .mk b _ _=>b
def pat:Sm→Ex | .mk _ x _=>x
def val:Sm→Ex | .mk _ _ x=>x
end Sm
noncomputable section
def sV(s:ByteArray):V:= .str s.size (bT s.data.toList)
mutual
def exC:Ex→List V
 |.mk k n nm tx l g c h bd af wt=>[.int .i64 k,.int .i64 n,sV nm,sV tx,.lst l.length 11 (exL l),.lst g.length 27 (sgL g),.lst c.length 4 (clL c),.lst h.length 4 (clL h),.lst bd.length 23 (smL bd),.lst af.length 23 (smL af),.bool wt]
def sgC:Sg→List V
 |.mk t tx x y a b c=>.int .i64 t ::sV tx ::(exC x++(exC y++[.bool a,.bool b,.bool c]))
def clC:Cl→List V
 |.mk nm l g bd=>[sV nm,.lst l.length 11 (exL l),.lst g.length 1 (gdL g),.lst bd.length 23 (smL bd)]
def smC:Sm→List V
 |.mk m x y=>.bool m ::(exC x++exC y)
def exL:List Ex→List V
 |[]=>[]
 |x ::l=>exC x++exL l
def sgL:List Sg→List V
 |[]=>[]
 |x ::l=>sgC x++sgL l
def clL:List Cl→List V
 |[]=>[]
 |x ::l=>clC x++clL l
def smL:List Sm→List V
 |[]=>[]
 |x ::l=>smC x++smL l
def gdL:List (List Ex)→List V
 |[]=>[]
 |x ::l=>.lst x.length 11 (exL x) ::gdL l
end
def exO(x:Ex):List V:=[.int .i64 x.kind,.int .i64 x.int,sV x.name,sV x.text,.lst x.items.length 11 (exL x.items),.lst x.segs.length 27 (sgL x.segs),.lst x.clauses.length 4 (clL x.clauses),.lst x.catches.length 4 (clL x.catches),.lst x.body.length 23 (smL x.body),.lst x.after.length 23 (smL x.after),.bool x.wait]
def sgO(s:Sg):List V:= .int .i64 s.type ::sV s.text ::(exO s.val++(exO s.size++[.bool s.sized,.bool s.signed,.bool s.little]))
def clO(c:Cl):List V:=[sV c.name,.lst c.pats.length 11 (exL c.pats),.lst c.guards.length 1 (gdL c.guards),.lst c.body.length 23 (smL c.body)]
def smO(s:Sm):List V:= .bool s.isMatch ::(exO s.pat++exO s.val)
theorem oa(x:Ex):exC x=exO x:=by cases x;rw [exC];rfl
theorem AB(s:Sg):sgC s=sgO s:=by cases s;rw [sgC,oa,oa];rfl
theorem BZ(c:Cl):clC c=clO c:=by cases c;rw [clC];rfl
theorem Ax(s:Sm):smC s=smO s:=by cases s;rw [smC,oa,oa];rfl
theorem cN(x:Ex)(l:List Ex):exL (x ::l)=exO x++exL l:=by rw [exL,oa]
theorem i5(x:Sg)(l:List Sg):sgL (x ::l)=sgO x++sgL l:=by rw [sgL,AB]
theorem eJ(x:Cl)(l:List Cl):clL (x ::l)=clO x++clL l:=by rw [clL,BZ]
theorem gO(x:Sm)(l:List Sm):smL (x ::l)=smO x++smL l:=by rw [smL,Ax]
theorem yx(x:Ex):(exO x).length=11:=rfl
theorem Cx(x:Sg):(sgO x).length=27:=rfl
theorem Dj(x:Cl):(clO x).length=4:=rfl
theorem Cs(x:Sm):(smO x).length=23:=rfl
theorem wO:∀(l:List Ex) (i:Nat) (x:Ex),l[i]? =some x→∃a b,exL l=a++(exO x++b)∧a.length=11*i
 |y ::l,0,x,h=>by
  rw [List.getElem?_cons_zero]at h
  cases h
  exact⟨[],exL l,cN _ _,rfl⟩
 |y ::l,i+1,x,h=>by
  rw [List.getElem?_cons_succ]at h
  obtain⟨a,b,e,k⟩:=wO l i x h
  exact⟨exO y++a,b,by rw [cN,e,List.append_assoc],by rw [List.length_append,k,yx];omega⟩
theorem vS:∀(l:List Sg) (i:Nat) (x:Sg),l[i]? =some x→∃a b,sgL l=a++(sgO x++b)∧a.length=27*i
 |y ::l,0,x,h=>by
  rw [List.getElem?_cons_zero]at h
  cases h
  exact⟨[],sgL l,i5 _ _,rfl⟩
 |y ::l,i+1,x,h=>by
  rw [List.getElem?_cons_succ]at h
  obtain⟨a,b,e,k⟩:=vS l i x h
  exact⟨sgO y++a,b,by rw [i5,e,List.append_assoc],by rw [List.length_append,k,Cx];omega⟩
theorem xj:∀(l:List Cl) (i:Nat) (x:Cl),l[i]? =some x→∃a b,clL l=a++(clO x++b)∧a.length=4*i
 |y ::l,0,x,h=>by
  rw [List.getElem?_cons_zero]at h
  cases h
  exact⟨[],clL l,eJ _ _,rfl⟩
 |y ::l,i+1,x,h=>by
  rw [List.getElem?_cons_succ]at h
  obtain⟨a,b,e,k⟩:=xj l i x h
  exact⟨clO y++a,b,by rw [eJ,e,List.append_assoc],by rw [List.length_append,k,Dj];omega⟩
theorem vQ:∀(l:List Sm) (i:Nat) (x:Sm),l[i]? =some x→∃a b,smL l=a++(smO x++b)∧a.length=23*i
 |y ::l,0,x,h=>by
  rw [List.getElem?_cons_zero]at h
  cases h
  exact⟨[],smL l,gO _ _,rfl⟩
 |y ::l,i+1,x,h=>by
  rw [List.getElem?_cons_succ]at h
  obtain⟨a,b,e,k⟩:=vQ l i x h
  exact⟨smO y++a,b,by rw [gO,e,List.append_assoc],by rw [List.length_append,k,Cs];omega⟩
theorem wB:∀(l:List (List Ex)) (i:Nat) (x:List Ex),l[i]? =some x→∃a b,gdL l=a++(.lst x.length 11 (exL x) ::b)∧a.length=i
 |y ::l,0,x,h=>by
  rw [List.getElem?_cons_zero]at h
  cases h
  exact⟨[],gdL l,by rw [gdL];rfl,rfl⟩
 |y ::l,i+1,x,h=>by
  rw [List.getElem?_cons_succ]at h
  obtain⟨a,b,e,k⟩:=wB l i x h
  exact⟨_ ::a,b,by rw [gdL,e];rfl,by rw [List.length_cons,k]⟩
theorem og{α:Type}:∀(a b:List α),jp a.length (a++b)=b
 |[],_=>rfl
 |_ ::a,b=>og a b
theorem nJ{α:Type}:∀(a b:List α),gJ a.length (a++b)=some a
 |[],_=>rfl
 |x ::a,b=>by
  show ob (gJ a.length (a++b)) (fun r=>some (x ::r))=some (x ::a)
  rw [nJ a b]
  rfl
end
end
section
theorem nP{α:Type}(x:α)(l:List α)(j:Nat):d4 (x ::l) (j+1)=d4 l j:=by
 show(Bool.rec (motive:=fun _=>Option α) (d4 l (Nat.sub (j+1) 1)) (some x) (Nat.beq (j+1) 0):Option α)=d4 l j
 rfl
theorem qi{α:Type}:∀(a b:List α) (j:Nat),d4 (a++b) (a.length+j)=d4 b j
 |[],b,j=>by rw [List.nil_append,List.length_nil,Nat.zero_add]
 |x ::a,b,j=>by
  rw [List.cons_append,List.length_cons,show a.length+1+j=(a.length+j)+1 by omega,nP]
  exact qi a b j
theorem nQ{α:Type}:∀{a b:List α} {j:Nat} {v:α},d4 a j=some v→d4 (a++b) j=some v
 |x ::a,b,0,v,h=>h
 |x ::a,b,j+1,v,h=>by
  rw [nP]at h
  rw [List.cons_append,nP]
  exact nQ h
theorem Bl{i n:Nat}(h:i<n):idx (Int.ofNat i) n=some i:=by
 show oif (Nat.blt i n) (some i)=some i
 rw [show Nat.blt i n=true by simp [Nat.blt];omega]
 rfl
theorem EP{es n i:Nat}{cs:List V}{k:IntKind}(h:i<n):POp.run2 (.ixsl es) (.lst n es cs) (.int k (Int.ofNat i))=some (.eptr cs (Nat.mul i es)):=by
 show oif (Nat.beq es es) (ob (idx (Int.ofNat i) n) fun m=>some (V.eptr cs (Nat.mul m es)))=_
 rw [Bl h,show Nat.beq es es=true by simp]
 rfl
structure eY(cs:List V)(off:Nat)(x:List V):Prop where
 whole:gJ x.length (jp off cs)=some x
 one:∀j v,d4 x j=some v→d4 cs (off+j)=some v
theorem eY.of{a x b cs:List V}{off:Nat}(e:cs=a++(x++b))(h:a.length=off):eY cs off x:=by
 subst e h
 refine⟨by rw [og,nJ],fun j v hv=>?_⟩
 rw [qi]
 exact nQ hv
theorem G2{l:List Ex}{i:Nat}{x:Ex}(h:l[i]? =some x):eY (exL l) (Nat.mul i 11) (exO x):=by
 obtain⟨a,b,e,k⟩:=wO l i x h
 exact .of e (k.trans (Nat.mul_comm 11 i))
theorem Fp{l:List Sg}{i:Nat}{x:Sg}(h:l[i]? =some x):eY (sgL l) (Nat.mul i 27) (sgO x):=by
 obtain⟨a,b,e,k⟩:=vS l i x h
 exact .of e (k.trans (Nat.mul_comm 27 i))
theorem G4{l:List Cl}{i:Nat}{x:Cl}(h:l[i]? =some x):eY (clL l) (Nat.mul i 4) (clO x):=by
 obtain⟨a,b,e,k⟩:=xj l i x h
 exact .of e (k.trans (Nat.mul_comm 4 i))
theorem Fm{l:List Sm}{i:Nat}{x:Sm}(h:l[i]? =some x):eY (smL l) (Nat.mul i 23) (smO x):=by
 obtain⟨a,b,e,k⟩:=vQ l i x h
 exact .of e (k.trans (Nat.mul_comm 23 i))
theorem GW{l:List (List Ex)}{i:Nat}{x:List Ex}(h:l[i]? =some x):eY (gdL l) (Nat.mul i 1) [.lst x.length 11 (exL x)]:=by
 obtain⟨a,b,e,k⟩:=wB l i x h
 exact .of e (k.trans (Nat.mul_one i).symm)
theorem fA{cs x:List V}{off:Nat}(e:eY cs off x)(h:H):ROp.run (.load true x.length) [.eptr cs off] h=some (.agg x):=by
 show ob (gJ x.length (jp off cs)) (fun l=>some (V.agg l))=some (V.agg x)
 rw [e.whole]
 rfl
theorem d5{cs x:List V}{off j n:Nat}{v:V}(e:eY cs off x)(hv:d4 x j=some v)(h:H):ROp.run (.load false n) [.eptr cs (off+j)] h=some v:=e.one j v hv
theorem iT{i:Nat}(h:i<9223372036854775807):cZ .i64 (Int.add (Int.ofNat i) (Int.ofNat 1))=Int.ofNat (i+1):=by
 show(Bool.rec (motive:=fun _=>Int) (jP .i64 (Nat.mod (i+1) (gE .i64))) (Int.ofNat (i+1)) (Nat.blt (i+1) (iB .i64)):Int)=Int.ofNat (i+1)
 rw [show Nat.blt (i+1) (iB .i64)=true by simp [Nat.blt,iB];omega]
theorem pv(s:ByteArray):fS (sV s):= .flat rfl
mutual
theorem ka:∀(x:Ex) (v:V),v∈exC x→fS v
 |.mk k n nm tx l g c h bd af wt,v,hv=>by
  rw [exC]at hv
  simp only [List.mem_cons,List.not_mem_nil,or_false]at hv
  rcases hv with rfl|rfl|rfl|rfl|rfl|rfl|rfl|rfl|rfl|rfl|rfl
  ·exact .flat rfl
  ·exact .flat rfl
  ·exact pv _
  ·exact pv _
  ·exact .lst (iC l)
  ·exact .lst (pW g)
  ·exact .lst (lu c)
  ·exact .lst (lu h)
  ·exact .lst (kU bd)
  ·exact .lst (kU af)
  ·exact .flat rfl
theorem um:∀(x:Sg) (v:V),v∈sgC x→fS v
 |.mk t tx x y a b c,v,hv=>by
  rw [sgC]at hv
  simp only [List.mem_cons,List.mem_append,List.not_mem_nil,or_false]at hv
  rcases hv with rfl|rfl|h|h|rfl|rfl|rfl
  ·exact .flat rfl
  ·exact pv _
  ·exact ka x v h
  ·exact ka y v h
  ·exact .flat rfl
  ·exact .flat rfl
  ·exact .flat rfl
theorem vq:∀(x:Cl) (v:V),v∈clC x→fS v
 |.mk nm l g bd,v,hv=>by
  rw [clC]at hv
  simp only [List.mem_cons,List.not_mem_nil,or_false]at hv
  rcases hv with rfl|rfl|rfl|rfl
  ·exact pv _
  ·exact .lst (iC l)
  ·exact .lst (qG g)
  ·exact .lst (kU bd)
theorem uf:∀(x:Sm) (v:V),v∈smC x→fS v
 |.mk m x y,v,hv=>by
  rw [smC]at hv
  simp only [List.mem_cons,List.mem_append]at hv
  rcases hv with rfl|h|h
  ·exact .flat rfl
  ·exact ka x v h
  ·exact ka y v h
theorem iC:∀(l:List Ex) (v:V),v∈exL l→fS v
 |[],v,hv=>by rw [exL]at hv;cases hv
 |x ::l,v,hv=>by
  rw [exL,List.mem_append]at hv
  exact hv.elim (ka x v) (iC l v)
theorem pW:∀(l:List Sg) (v:V),v∈sgL l→fS v
 |[],v,hv=>by rw [sgL]at hv;cases hv
 |x ::l,v,hv=>by
  rw [sgL,List.mem_append]at hv
  exact hv.elim (um x v) (pW l v)
theorem lu:∀(l:List Cl) (v:V),v∈clL l→fS v
 |[],v,hv=>by rw [clL]at hv;cases hv
 |x ::l,v,hv=>by
  rw [clL,List.mem_append]at hv
  exact hv.elim (vq x v) (lu l v)
theorem kU:∀(l:List Sm) (v:V),v∈smL l→fS v
 |[],v,hv=>by rw [smL]at hv;cases hv
 |x ::l,v,hv=>by
  rw [smL,List.mem_append]at hv
  exact hv.elim (uf x v) (kU l v)
theorem qG:∀(l:List (List Ex)) (v:V),v∈gdL l→fS v
 |[],v,hv=>by rw [gdL]at hv;cases hv
 |x ::l,v,hv=>by
  rw [gdL,List.mem_cons]at hv
  rcases hv with rfl|h
  ·exact .lst (iC x)
  ·exact qG l v h
end
theorem dc(x:Ex):∀v,v∈exO x→fS v:=by rw [←oa];exact ka x
theorem gf(x:Sg):∀v,v∈sgO x→fS v:=by rw [←AB];exact um x
theorem iE(x:Cl):∀v,v∈clO x→fS v:=by rw [←BZ];exact vq x
theorem kT(x:Sm):∀v,v∈smO x→fS v:=by rw [←Ax];exact uf x
end
section
def En:Type:=Env
def En.ro(E:En):Nat→Option (Array Value):=@Env.ro E
def En.le(E E':En):Prop:=∀b c,E.ro b=some c→E'.ro b=some c
theorem En.le_refl(E:En):E.le E:=fun _ _ h=>h
theorem En.le_trans{a b c:En}(h:a.le b)(k:b.le c):a.le c:=fun x y e=>k x y (h x y e)
section
variable {E E':En} {g:G}
mutual
theorem VR.env(hE:E.le E'):∀{v:V} {u:Value},@VR E g v u→@VR E' g v u
 |_,_,@VR.bool E g b=>@VR.bool E' g b
 |_,_,@VR.int E g k n=>@VR.int E' g k n
 |_,_,@VR.str E g s=>@VR.str E' g s
 |_,_,@VR.nilp E g=>@VR.nilp E' g
 |_,_,@VR.ptr E g _ _ _ _ _ h=>@VR.ptr E' g _ _ _ _ _ h
 |_,_,@VR.nils E g=>@VR.nils E' g
 |_,_,@VR.slx E g _ _ _ _ _ _ _ _ h=>@VR.slx E' g _ _ _ _ _ _ _ _ h
 |_,_,@VR.sli E g _ _ _ _ _ _ _ _ _ h hc hl=>@VR.sli E' g _ _ _ _ _ _ _ _ _ h hc hl
 |_,_,@VR.sl0 E g _ _ _ _ _ _ _ _ h hz=>@VR.sl0 E' g _ _ _ _ _ _ _ _ h hz
 |_,_,@VR.slx0 E g _ _ _ _ _ _ _ h=>@VR.slx0 E' g _ _ _ _ _ _ _ h
 |_,_,@VR.nilm E g=>@VR.nilm E' g
 |_,_,@VR.map E g _ _ _ _ h=>@VR.map E' g _ _ _ _ h
 |_,_,@VR.func E g _ _ _ _ _ ha hb=>@VR.func E' g _ _ _ _ _ (VRs.env hE ha) (VRs.env hE hb)
 |_,_,@VR.yld E g _ _ _ _ h=>@VR.yld E' g _ _ _ _ h
 |_,_,@VR.nilf E g=>@VR.nilf E' g
 |_,_,@VR.iface E g _ _ _ h=>@VR.iface E' g _ _ _ (VR.env hE h)
 |_,_,@VR.nili E g=>@VR.nili E' g
 |_,_,@VR.agg E g _ _ h=>@VR.agg E' g _ _ (VRs.env hE h)
 |_,_,@VR.tup E g _ _ h=>@VR.tup E' g _ _ (VRs.env hE h)
 |_,_,@VR.lst E g _ _ _ _ _ _ _ _ hb hx hl h=>@VR.lst E' g _ _ _ _ _ _ _ _ (hE _ _ hb) hx hl (VRs.env hE h)
 |_,_,@VR.lst0 E g _=>@VR.lst0 E' g _
 |_,_,@VR.lstz E g _ _ _=>@VR.lstz E' g _ _ _
 |_,_,@VR.eptr E g _ _ _ _ _ _ hb hx h=>@VR.eptr E' g _ _ _ _ _ _ (hE _ _ hb) hx (VRs.env hE h)
theorem VRs.env(hE:E.le E'):∀{v:List V} {u:List Value},@VRs E g v u→@VRs E' g v u
 |_,_,@VRs.nil E g=>@VRs.nil E' g
 |_,_,@VRs.cons E g _ _ _ _ h t=>@VRs.cons E' g _ _ _ _ (VR.env hE h) (VRs.env hE t)
end
theorem FR.env(hE:E.le E'){m N:Nat}{f:F}{tmps:Array Value}(h:@FR E g m N f tmps):@FR E' g m N f tmps:=
 ⟨h.1,fun t v e=>let⟨u,h1,h2⟩:=h.2 t v e;⟨u,h1,h2.env hE⟩⟩
theorem ot.env(hE:E.le E'){es:List (V×V)}{m:List MapEntry}(h:@ot E g es m):@ot E' g es m:=⟨h.1.env hE,h.2.env hE⟩
theorem Cells.env(hE:E.le E'){w:World}{id n:Nat}{cs:Tr V}(h:@Cells E g w id n cs):@Cells E' g w id n cs:=by
 obtain⟨b,o,z,c,t,h1,h2,h3,h4,h5,h6⟩:=h
 refine⟨b,o,z,c,t,h1,h2,h3,h4,h5,fun j v hj hv=>?_⟩
 obtain⟨u,k1,k2,k3⟩:=h6 j v hj hv
 exact⟨u,k1,k2.env hE,k3⟩
theorem BR.env(hE:E.le E'){T:Ty}{w:World}{id:Nat}{b:Blk}(h:@BR E T g w id b):@BR E' T g w id b:=by
 cases b with
 |cells=>exact Cells.env hE h
 |ro=>exact Cells.env hE h
 |map es=>obtain⟨b,o,z,m,k,h1,h2,h3,h4⟩:=h;exact⟨b,o,z,m,k,h1,h2,h3.env hE,h4⟩
 |siter=>obtain⟨b,o,z,s,h1,h2⟩:=h;exact⟨b,o,z,s,h1,h2⟩
 |loop=>obtain⟨b,o,z,l,m,N,h1,h2,h3,h4,h5,h6⟩:=h;exact⟨b,o,z,l,m,N,h1,h2,h3,h4,h5.env hE,h6⟩
 |dead=>trivial
 |miter m=>obtain⟨b,z,bm,om,zm,s,sn,l,h1,h2,h3⟩:=h;exact⟨b,z,bm,om,zm,s,sn,l,h1,h2,h3⟩
theorem WR.env(hE:E.le E'){T:Ty}{h:H}{w:World}(r:@WR E T g h w):@WR E' T g h w:=by
 cases r with
 |mk a b c d e f k x=>exact @WR.mk E' T g h w a b c d (fun id x b e1 e2=>(e id x b e1 e2).env hE) f k x
end
end
section
section
variable {P:Program} {T:Ty} {m N:Nat}
def noE:En:=⟨fun _=>none⟩
structure Sit(T:Ty)(E:En)(g:G)(h:H)(w:World):Prop where
 wr:@WR E T g h w
 glob:@gX E T g h w
theorem Sit.lt{E:En}{g:G}{h:H}{w:World}(s:Sit T E g h w){id b o z:Nat}(e:g id=some (b,o,z)):b<w.heap.size:=@WR.lt E _ _ _ _ s.wr _ _ _ _ e
theorem Sit.env{E:En}{g:G}{h:H}{w:World}(s:Sit T E g h w){b:Nat}{c:Array Value}(e:E.ro b=some c):(∃t:TypeId×(Nat×Nat),w.heap[b]? =some (.cells c t.1 t.2))∧∀id o z,g id≠some (b,o,z):=@gX.env E _ _ _ _ s.glob b c e
theorem Sit.pin{E:En}{g:G}{h:H}{w:World}(s:Sit T E g h w):∀p,p∈T.pin→(∃z,g p.1=some (p.2.1,0,z))∧h.blk p.1=some (.ro p.2.2.1 p.2.2.2):=@gX.pin E _ _ _ _ s.glob
theorem Sit.mk'{E:En}{g:G}{h:H}{w:World}(r:@WR E T g h w)(p:∀p,p∈T.pin→(∃z,g p.1=some (p.2.1,0,z))∧h.blk p.1=some (.ro p.2.2.1 p.2.2.2))
  (e:∀b c,E.ro b=some c→(∃t:TypeId×(Nat×Nat),w.heap[b]? =some (.cells c t.1 t.2))∧∀id o z,g id≠some (b,o,z)):Sit T E g h w:=⟨r,@gX.mk E T g h w p e⟩
structure fT(T:Ty)(M:Nat→Prop)(E:En)(g:G)(h:H)(w:World)(E':En)(g':G)(h':H)(w':World):Prop where
 envl:E.le E'
 envn:∀b c,E'.ro b=some c→E.ro b=some c∨w.heap.size≤b
 le:∀id x,¬M id→g id=some x→g' id=some x
 next:h.next≤h'.next
 sit:Sit T E' g' h' w'
 size:w.heap.size≤w'.heap.size
 keep:∀b,b<w.heap.size→(∀id o z,g id≠some (b,o,z))→w'.heap[b]? =w.heap[b]?
 fresh:∀id b o z,g' id=some (b,o,z)→w.heap.size≤b∨∃i o' z',g i=some (b,o',z')
 pin:∀p,p∈T.pin→w'.heap[p.2.1]? =w.heap[p.2.1]?
 os:w'.os=w.os
 tape:w'.tape=w.tape
 output:w'.output=w.output
theorem fT.refl{M:Nat→Prop}{E:En}{g:G}{h:H}{w:World}(s:Sit T E g h w):fT T M E g h w E g h w:=
 ⟨E.le_refl,fun _ _ h=>.inl h,fun _ _ _ h=>h,Nat.le_refl _,s,Nat.le_refl _,fun _ _ _=>rfl,fun id b o z e=>.inr ⟨id,o,z,e⟩,fun _ _=>rfl,rfl,rfl,rfl⟩
theorem Sit.ext{E:En}{g g':G}{h h':H}{w w':World}(s:Sit T E g h w)(x:@Ext E T g h w g' h' w'):Sit T E g' h' w':=
 ⟨@Ext.wr E _ _ _ _ _ _ _ x,@gX.ext E _ _ _ _ _ _ _ s.glob x⟩
theorem fT.of{M:Nat→Prop}{E:En}{g g':G}{h h':H}{w w':World}(s:Sit T E g h w)(x:@Ext E T g h w g' h' w'):fT T M E g h w E g' h' w':=by
 refine⟨E.le_refl,fun _ _ h=>.inl h,fun id y _=>@Ext.le E _ _ _ _ _ _ _ x id y,@Ext.next E _ _ _ _ _ _ _ x,s.ext x,@Ext.size E _ _ _ _ _ _ _ x,@Ext.keep E _ _ _ _ _ _ _ x,fun id b o z e=>?_,fun p hp=>?_,@Ext.os E _ _ _ _ _ _ _ x,@Ext.tape E _ _ _ _ _ _ _ x,@Ext.output E _ _ _ _ _ _ _ x⟩
 ·cases k:g id with
  |none=>exact @Ext.fresh E _ _ _ _ _ _ _ x id b o z e k
  |some y=>rw [@Ext.le E _ _ _ _ _ _ _ x id y k]at e;cases e;exact .inr ⟨id,o,z,k⟩
 ·obtain⟨⟨z,k1⟩,k2⟩:=s.pin p hp
  exact(@Ext.ro E _ _ _ _ _ _ _ x _ _ _ _ _ _ k1 k2).2
def Pn(T:Ty)(K:Nat→Prop):Prop:=∀id,K id→∃p,p∈T.pin∧p.1=id
structure Sx(T:Ty)(K:Nat→Prop)(E0:En)(g0:G)(w0:World)(E:En)(g:G)(h:H)(w:World):Prop where
 sit:Sit T E g h w
 envl:E0.le E
 envn:∀b c,E.ro b=some c→E0.ro b=some c∨w0.heap.size≤b∨(Pn T K∧∃id o z,g0 id=some (b,o,z))
 fix:∀id x,K id→g0 id=some x→g id=some x
 size:w0.heap.size≤w.heap.size
 keep:∀b,b<w0.heap.size→(∀id o z,g0 id≠some (b,o,z))→w.heap[b]? =w0.heap[b]?
 inv:∀id b o z,g id=some (b,o,z)→w0.heap.size≤b∨∃i o' z',g0 i=some (b,o',z')
 pin:∀p,p∈T.pin→w.heap[p.2.1]? =w0.heap[p.2.1]?
 os:w.os=w0.os
 tape:w.tape=w0.tape
 output:w.output=w0.output
theorem Sx.refl{K:Nat→Prop}{E:En}{g:G}{h:H}{w:World}(s:Sit T E g h w):Sx T K E g w E g h w:=
 ⟨s,E.le_refl,fun _ _ h=>.inl h,fun _ _ _ h=>h,Nat.le_refl _,fun _ _ _=>rfl,fun id b o z e=>.inr ⟨id,o,z,e⟩,fun _ _=>rfl,rfl,rfl,rfl⟩
theorem Sx.ext{K M:Nat→Prop}{E0 E E':En}{g0 g g':G}{h h':H}{w0 w w':World}(s:Sx T K E0 g0 w0 E g h w)(x:fT T M E g h w E' g' h' w')(hM:∀id,K id→¬M id):Sx T K E0 g0 w0 E' g' h' w':=by
 refine⟨x.sit,E0.le_trans s.envl x.envl,fun b c e=>?_,fun id y hk e=>x.le id y (hM id hk) (s.fix id y hk e),Nat.le_trans s.size x.size,fun b hb hn=>?_,fun id b o z e=>?_,fun p hp=>(x.pin p hp).trans (s.pin p hp),x.os.trans s.os,x.tape.trans s.tape,x.output.trans s.output⟩
 ·rcases x.envn b c e with k|k
  ·exact s.envn b c k
  ·exact .inr (.inl (Nat.le_trans s.size k))
 ·refine(x.keep b (Nat.lt_of_lt_of_le hb s.size) fun id o z e=>?_).trans (s.keep b hb hn)
  rcases s.inv id b o z e with k | ⟨i,o',z',k⟩
  ·omega
  ·exact hn i o' z' k
 ·rcases x.fresh id b o z e with k | ⟨i,o',z',k⟩
  ·exact .inl (Nat.le_trans s.size k)
  ·exact s.inv i b o' z' k
structure Con(P:Program)(T:Ty)(M:Nat→Prop)(f:FuncId)(vs:List V)(h:H)(v:V)(h':H):Prop where
 out:∀E g w us,Sit T E g h w→@VRs E g vs us→∃fn,P.funcs[f]? =some fn∧fn.name≠ "runtime.NumGoroutine"∧fn.body.isNone=false∧
  CallsIn Fence.wide 0 P f us.toArray w fun e w'=>∃E' g' u,e= .returned u∧@VR E' g' v u∧fT T M E g h w E' g' h' w'
def ft(T:Ty)(K:Nat→Prop)(f1:F)(h1:H)(f':F)(h':H):Prop:=
 ∀m N E0 g0 w0 E g w tmps,Sx T K E0 g0 w0 E g h1 w→@FR E g m N f1 tmps→∃E' g',Sx T K E0 g0 w0 E' g' h' w∧@FR E' g' m N f' tmps∧∀id b o z,g' id=some (b,o,z)→∃i o' z',g i=some (b,o',z')
def df(M:Nat→Prop)(v:V):Prop:=∀(E:En) g g' u,(∀id x,¬M id→g id=some x→g' id=some x)→@VR E g v u→@VR E g' v u
def gY(M:Nat→Prop)(f:F):Prop:=∀p,p∈f.loc∨p∈f.tmp→df M p.2
theorem gY.fr{M:Nat→Prop}{f:F}(hf:gY M f){E:En}{g g':G}(hg:∀id x,¬M id→g id=some x→g' id=some x){tmps:Array Value}(h:@FR E g m N f tmps):@FR E g' m N f tmps:=by
 refine⟨h.1,fun t v e=>?_⟩
 obtain⟨u,h1,h2⟩:=h.2 t v e
 refine⟨u,h1,?_⟩
 unfold rdn at e
 split at e
 ·exact hf _ (.inl (@kx noE _ _ _ e)) E g g' u hg h2
 ·exact hf _ (.inr (@kx noE _ _ _ e)) E g g' u hg h2
def noM:Nat→Prop:=fun _=>False
theorem gY.none{f:F}:gY noM f:=fun p _ E g g' u hg h=>@VR.mono E g g' (fun id x=>hg id x (fun k=>k)) _ _ h
def gV(o:COp)(vs:List V):Option (FuncId×List V):=
 match o,vs with
 |.call g,vs=>some (g,vs)
 |.callv,.func (.func g) first captured ::args=>some (g,first++(args++captured))
 |_,_=>none
def Frz(cs:List V)(mk:Nat→V)(v:V):Prop:=(mk=(fun i=>.ptr i 0)∧v= .eptr cs 0)∨∃n es,mk=(fun i=>.sl i 0 n n true es)∧cs.length=n*es∧v= .lst n es cs
inductive gI(P:Program)(T:Ty)(K:Nat→Prop)(call:cB):List bQ→F→H→F→H→Prop
 |nil {f:F} {h:H}:gI P T K call [] f h f h
 |op {o:bQ} {l:List bQ} {f:F} {h:H} {f1:F} {h1:H} {f':F} {h':H} (e:o.run call f h=some (f1,h1)) (k:gI P T K call l f1 h1 f' h'):gI P T K call (o ::l) f h f' h'
 |con {o:bQ} {l:List bQ} {f:F} {h:H} {f':F} {h':H} {M:Nat→Prop} {vs vs':List V} {fn:FuncId} {v:V} {h1:H} (eg:bV f o.guard=some true) (ev:evs f o.args=some vs) (ec:gV o.op vs=some (fn,vs'))
   (c:Con P T M fn vs' h v h1) (hK:∀id,K id→¬M id) (hf:gY M f) (k:gI P T K call l (o.dst.put f v) h1 f' h'):gI P T K call (o ::l) f h f' h'
 |mkF {o:bQ} {l:List bQ} {f:F} {h:H} {f':F} {h':H} {ao:AOp} {vs cs:List V} {mk:Nat→V} {v:V} (eg:bV f o.guard=some true) (ev:evs f o.args=some vs) (eo:o.op= .a ao) (er:ao.run vs=some (.cells cs.length (cE cs 0 .e) none false,mk))
   (hz:Frz cs mk v) (hl:cs.length≤bP) (hf:∀c,c∈cs→df (fun id=>id=h.next) c) (k:gI P T K call l (o.dst.put f v) h f' h'):gI P T K call (o ::l) f h f' h'
 |allocF {o1 o2:bQ} {l:List bQ} {f:F} {h:H} {f':F} {h':H} {zero:List V} {n:Nat} {x:V} {h2:H} {cs':Tr V} (eg1:bV f o1.guard=some true) (eo1:o1.op= .a (.alloc zero)) (ev1:evs f o1.args=some [])
   (er:(AOp.alloc zero).run []=some (.cells zero.length (cE zero 0 .e) none false,fun i=>.ptr i 0)) (hk:h.next<bP) (eg2:bV (o1.dst.put f (.ptr h.next 0)) o2.guard=some true) (eo2:o2.op= .e (.store n)) (ev2:evs (o1.dst.put f (.ptr h.next 0)) o2.args=some [.ptr h.next 0,x])
   (hw:H.wr h.next (cellsOf x) 0 ⟨h.t.put h.next (some (.cells zero.length (cE zero 0 .e) none false)),Nat.succ h.next⟩=some h2) (hb:h2.blk h.next=some (.cells (cellsOf x).length cs' none false)) (hcs:∀j v,(cellsOf x)[j]? =some v→cs'.get j=some v)
   (hl:(cellsOf x).length=n) (hf:∀c,c∈cellsOf x→df (fun id=>id=h.next) c) (k:gI P T K call l (o2.dst.put (o1.dst.put f (.eptr (cellsOf x) 0)) cF) h f' h'):gI P T K call (o1 ::o2 ::l) f h f' h'
 |view {l:List bQ} {f:F} {h:H} {f1:F} {h1:H} {f':F} {h':H} (e:ft T K f h f1 h1) (k:gI P T K call l f1 h1 f' h'):gI P T K call l f h f' h'
inductive DoX(P:Program)(T:Ty)(M:Nat→Prop)(co:bQ)(vs:List V)(s:St)(v:V)(s':St):Prop
 |p {o:POp} (eo:co.op= .p o) (e:o.run vs=some v) (eh:s'.h=s.h) (ec:s'.cs=s.cs):DoX P T M co vs s v s'
 |r {o:ROp} (eo:co.op= .r o) (e:o.run vs s.h=some v) (eh:s'.h=s.h) (ec:s'.cs=⟨o,vs,v,co.lo,co.hi⟩ ::s.cs):DoX P T M co vs s v s'
 |mkF {ao:AOp} {cs:List V} {mk:Nat→V} (eo:co.op= .a ao) (er:ao.run vs=some (.cells cs.length (cE cs 0 .e) none false,mk)) (hz:Frz cs mk v) (hl:cs.length≤bP) (hf:∀M c,c∈cs→df M c) (eh:s'.h=s.h) (ec:s'.cs=s.cs):DoX P T M co vs s v s'
 |con {vs':List V} {fn:FuncId} (he:isE co.op=true) (e:gV co.op vs=some (fn,vs')) (c:Con P T M fn vs' s.h v s'.h) (hf:gY M s.f) (ec:s'.cs=s.cs):DoX P T M co vs s v s'
structure nF(P:Program)(T:Ty)(M:Nat→Prop)(co:bQ)(s:St)(v:V)(s':St):Prop where
 f:s'.f=co.dst.put s.f v
 hs:s'.hs=if isE co.op=true then s.h ::s.hs else s.hs
 main:(bV s.f co.guard=some false∧v=cF∧s'.h=s.h∧s'.cs=s.cs)∨∃vs,bV s.f co.guard=some true∧evs s.f co.args=some vs∧DoX P T M co vs s v s'
inductive vG(P:Program)(T:Ty)(M:Nat→Prop):List bQ→St→St→Prop
 |nil {s:St}:vG P T M [] s s
 |cons {co:bQ} {l:List bQ} {s s1 s':St} {v:V} (st:nF P T M co s v s1) (k:vG P T M l s1 s'):vG P T M (co ::l) s s'
def Ca(T:Ty)(K:Nat→Prop)(m N:Nat)(E0:En)(g0:G)(w0:World)(x:X)(f':F)(h':H)(e:Exit)(a':Act)(w':World):Prop:=
 ∃E' g',Sx T K E0 g0 w0 E' g' h' w'∧@FR E' g' m N f' a'.tmps∧dV [] g' w' w0.heap.size a'.defers∧mD x e
def B7(P:Program)(T:Ty)(K:Nat→Prop)(cc:bZ)(f:F)(h:H)(x:X)(f':F)(h':H):Prop:=
 ∀m N E0 g0 w0 (c:Code),dI T m N c=some cc→∀(E:En) (g:G) (a:Act) (w:World),Sx T K E0 g0 w0 E g h w→@FR E g m N f a.tmps→dV [] g w w0.heap.size a.defers→c.wpIn (fen none) 0 P (Ca T K m N E0 g0 w0 x f' h') a w
inductive Way(P:Program)(T:Ty)(K:Nat→Prop)(call:cB)(n:Nat):bZ→F→H→X→F→H→Prop
 |exec {c:bZ} {f:F} {h:H} {x:X} {f':F} {h':H} (e:exec call false n c f h=some (x,f',h')):Way P T K call n c f h x f' h'
 |reg {ops:List bQ} {f:F} {h:H} {f':F} {h':H} (k:gI P T K call ops f h f' h'):Way P T K call n (.reg ops) f h .norm (clr f') h'
 |regD {ops:List bQ} {f:F} {h:H} {s:St} (e:fG call ops ⟨f,h,[],[]⟩=some s) (hc:bD s.cs (i7 s.hs [s.h])):Way P T K call n (.regD ops) f h .norm (clr s.f) s.h
 |regX {ops:List bQ} {f:F} {h:H} {s:St} {M:Nat→Prop} (e:vG P T M ops ⟨f,h,[],[]⟩ s) (hc:bD s.cs (i7 s.hs [s.h])) (hf:gY M f) (hK:∀id,K id→¬M id):Way P T K call n (.regD ops) f h .norm (clr s.f) s.h
 |seq {a b:bZ} {f:F} {h:H} {f1:F} {h1:H} {x:X} {f':F} {h':H} (k1:Way P T K call n a f h .norm f1 h1) (k2:Way P T K call n b f1 h1 x f' h'):Way P T K call n (.seq a b) f h x f' h'
 |seqX {a b:bZ} {f:F} {h:H} {x:X} {f':F} {h':H} (k1:Way P T K call n a f h x f' h') (hx:x≠.norm):Way P T K call n (.seq a b) f h x f' h'
 |cond {o:Opd} {a b:bZ} {f:F} {h:H} {x:X} {f':F} {h':H} {t:Bool} (e:o.ev f=some (.bool t)) (k:Way P T K call n (if t then a else b) f h x f' h'):Way P T K call n (.cond o a b) f h x f' h'
 |block {id:Nat} {c:bZ} {f:F} {h:H} {x:X} {f':F} {h':H} (k:Way P T K call n c f h x f' h'):Way P T K call n (.block id c) f h (unX id x) f' h'
 |loop {c:bZ} {f:F} {h:H} {x:X} {f':F} {h':H} (I:Nat→F→H→Prop) (nx:Nat→F→H→X×F×H) (k:Nat) (i:I k f h)
   (rnd:∀k f1 h1,I k f1 h1→Way P T K call n c f1 h1 (nx k f1 h1).1 (nx k f1 h1).2.1 (nx k f1 h1).2.2)
   (more:∀k f1 h1,I k f1 h1→(nx k f1 h1).1= .norm→∃j,j<k∧I j (nx k f1 h1).2.1 (nx k f1 h1).2.2)
   (last:∀k f1 h1,I k f1 h1→(nx k f1 h1).1≠.norm→nx k f1 h1=(x,f',h')):Way P T K call n (.loop c) f h x f' h'
 |view {c:bZ} {f:F} {h:H} {f1:F} {h1:H} {x:X} {f':F} {h':H} (e:ft T K f h f1 h1) (k:Way P T K call n c f1 h1 x f' h'):Way P T K call n c f h x f' h'
 |sem {c:bZ} {f:F} {h:H} {x:X} {f':F} {h':H} (e:B7 P T K c f h x f' h'):Way P T K call n c f h x f' h'
 |viewX {c:bZ} {f:F} {h:H} {f1:F} {h1:H} {x:X} {f':F} {h':H} (k:Way P T K call n c f h x f1 h1) (e:ft T K f1 h1 f' h'):Way P T K call n c f h x f' h'
end
end
section
section
variable {P:Program} {T:Ty} {m N:Nat}
theorem dV.of{g g':G}{w:World}{B:Nat}{ds:List Deferred}(k:dV [] g w B ds)(hg:∀id b o z,g' id=some (b,o,z)→∃i o' z',g i=some (b,o',z')):dV [] g' w B ds:=by
 obtain⟨rs,h1,h2,h3⟩:=k
 refine⟨rs,h1,h2,fun r hr=>?_⟩
 obtain⟨a,b,c,d⟩:=h3 r hr
 refine⟨a,b,fun id o z e=>?_,d⟩
 obtain⟨i,o',z',q⟩:=hg id r o z e
 exact c i o' z' q
theorem dV.extX{M:Nat→Prop}{E E':En}{g g':G}{h h':H}{w w':World}{B:Nat}{ds:List Deferred}(x:fT T M E g h w E' g' h' w')(k:dV [] g w B ds):dV [] g' w' B ds:=by
 obtain⟨rs,h1,h2,h3⟩:=k
 refine⟨rs,h1,h2,fun r hr=>?_⟩
 obtain⟨k1,k2,k3,k4⟩:=h3 r hr
 refine⟨k1,Nat.lt_of_lt_of_le k2 x.size,fun id o z e=>?_,(x.keep r k2 k3).trans k4⟩
 rcases x.fresh id r o z e with h | ⟨i,o',z',h⟩
 ·omega
 ·exact k3 i o' z' h
theorem ua{M:Nat→Prop}{E:En}{g:G}{h h1:H}{w:World}(s:Sit T E g h w){o:Oper}{co:COp}{os:List Operand}{a:Act}(hc:bH T o.op=some (co,os)){vs vs':List V}{fn:FuncId}{v:V}(hv:@VRs E g vs (os.map a.eval))
  (ec:gV co vs=some (fn,vs')) (c:Con P T M fn vs' h v h1) {rd:Option Nat} {KK:Act→World→Prop} {Q:Exit→Act→World→Prop} (hK:∀E' g' w' u,fT T M E g h w E' g' h1 w'→@VR E' g' v u→KK (a.put o.dst u) w'):o.wpIn (fen rd) 0 P a w KK Q:=by
 refine⟨fun _ _=>trivial,?_⟩
 rw [Oper.semAt_eq _ _ _ (@fp noE _ _ _ _ hc)]
 cases co with
 |call f=>
  obtain⟨rfl,rfl⟩:f=fn∧vs=vs':=by cases ec;exact⟨rfl,rfl⟩
  obtain⟨args,at',he,ho⟩:∃args at',o.op= .call ⟨.value (.func f),args,at'⟩∧os=args.toList:=by
   exact @oQ noE _ _ _ _ hc
  subst ho
  obtain⟨fn',k1,k2,k3,k4⟩:=c.out E g w _ s hv
  have hrun:(execOp a.eval o).run P w= .ok (.enter f (args.map a.eval)) w:=by
   have hb:¬fn'.body=none:=fun e=>by rw [e]at k3;cases k3
   simp [execOp,he,resolve,Act.eval,Deferred.ofValue,invoke,callFunc,k1,k2,hb]
  have ha:(args.toList.map a.eval).toArray=args.map a.eval:=by apply Array.ext';simp
  rw [ha]at k4
  rw [hrun,Oper.uponIn_enter]
  refine⟨@iU noE rd,@iH noE _ _ _ _ _ _ (k4.mono ?_)⟩
  rintro e w' ⟨E',g',u,rfl,hu,hx⟩
  exact hK E' g' w' u hx hu
 |callv=>
  obtain⟨x,args,at',he,ho⟩:∃x args at',o.op= .call ⟨.value x,args,at'⟩∧os=x ::args.toList:=by
   exact @nr noE _ _ _ hc
  subst ho
  cases vs with
  |nil=>cases ec
  |cons fv vs=>
  have hv':@VRs E g (fv ::vs) (a.eval x ::args.toList.map a.eval):=by simpa using hv
  obtain⟨hf,hvs⟩:@VR E g fv (a.eval x)∧@VRs E g vs (args.toList.map a.eval):=by
   generalize a.eval x=y at hv'
   cases hv'
   rename_i k1 k2
   exact⟨k1,k2⟩
  cases fv<;>first|(cases ec;done)|skip
  rename_i f first captured
  cases f<;>first|(cases ec;done)|skip
  rename_i f
  obtain⟨rfl,rfl⟩:f=fn∧first++(vs++captured)=vs':=by cases ec;exact⟨rfl,rfl⟩
  generalize hfu:a.eval x=fu at hf
  cases hf
  rename_i xs ys ha hb
  obtain⟨fn',k1,k2,k3,k4⟩:=c.out E g w _ s (@VRs.append E g _ _ _ _ ha (@VRs.append E g _ _ _ _ hvs hb))
  have hrun:(execOp a.eval o).run P w= .ok (.enter f (xs++(args.toList.map a.eval++ys)).toArray) w:=by
   have he':xs.toArray++(args.map a.eval)++ys.toArray=(xs++(args.toList.map a.eval++ys)).toArray:=by apply Array.ext';simp
   have hb:¬fn'.body=none:=fun e=>by rw [e]at k3;cases k3
   simp [execOp,he,resolve,hfu,Deferred.ofValue,invoke,callFunc,k1,k2,hb]
  rw [hrun,Oper.uponIn_enter]
  refine⟨@iU noE rd,@iH noE _ _ _ _ _ _ (k4.mono ?_)⟩
  rintro e w' ⟨E',g',u,rfl,hu,hx⟩
  exact hK E' g' w' u hx hu
 |_=>cases ec
theorem t8(hT:cM P T){E:En}{g:G}{h:H}{w:World}(s:Sit T E g h w){o:Oper}{ao:AOp}{os:List Operand}{a:Act}(hc:bH T o.op=some (.a ao,os)){vs cs:List V}(hv:@VRs E g vs (os.map a.eval)){mk:Nat→V}{v:V}
  (er:ao.run vs=some (.cells cs.length (cE cs 0 .e) none false,mk)) (hz:Frz cs mk v) (hl:cs.length≤bP) (hf:∀c,c∈cs→df (fun id=>id=h.next) c) {rd:Option Nat} {KK:Act→World→Prop} {Q:Exit→Act→World→Prop} (hK:∀E' w' u,fT T noM E g h w E' g h w'→@VR E' g v u→KK (a.put o.dst u) w'):o.wpIn (fen rd) 0 P a w KK Q:=by
 classical
 refine⟨fun _ _=>trivial,?_⟩
 rw [Oper.semAt_eq _ _ _ (@fp noE _ _ _ _ hc)]
 have hm:=@DB E P T g a.eval hT _ _ _ hc _ _ _ hv er
 obtain⟨obj,z,val,m1,m2,m3⟩:=@kN.make E _ _ _ _ _ _ _ hm
 have hnone:g h.next=none:=by
  cases e:g h.next with
  |none=>rfl
  |some x=>exact absurd (@WR.dom E _ _ _ _ s.wr _ _ e) (by omega)
 have hle:=@eR noE g _ (w.heap.size,0,z) hnone
 have hval:=m2 _ _ _ hle (@cg noE _ _ _)
 have hbr:=m3 _ (w.alloc obj) _ _ hle (@cg noE _ _ _) (@da noE w obj)
 obtain⟨b,o',z',c,t,k1,k2,k3,k4,k5,k6⟩:=(hbr:@Cells E (et g h.next (w.heap.size,0,z)) (w.alloc obj) h.next _ _)
 rw [@cg noE]at k1
 cases k1
 have hno:E.ro w.heap.size=none:=by
  cases e:E.ro w.heap.size with
  |none=>rfl
  |some c=>
   obtain⟨⟨t,q⟩,_⟩:=s.env e
   have:=(Array.getElem?_eq_some_iff.1 q).1
   omega
 let E':En:=⟨fun b=>if b=w.heap.size then some c else E.ro b⟩
 have hE:E.le E':=fun b c' e=>by
  show(if b=w.heap.size then some c else E.ro b)=some c'
  rw [if_neg (fun q=>by rw [q,hno]at e;cases e),e]
 have hEn:E'.ro w.heap.size=some c:=if_pos rfl
 have hEo:∀b c',E'.ro b=some c'→b=w.heap.size∧c'=c∨E.ro b=some c':=fun b c' e=>by
  have e:(if b=w.heap.size then some c else E.ro b)=some c':=e
  by_cases q:b=w.heap.size
  ·rw [if_pos q]at e;cases e;exact .inl ⟨q,rfl⟩
  ·rw [if_neg q]at e;exact .inr e
 have hcs:∀j x,cs[j]? =some x→∃u,c[0+j]? =some u∧@VR E g x u:=fun j x e=>by
  have hj:=(List.getElem?_eq_some_iff.1 e).1
  obtain⟨u,q1,q2,_⟩:=k6 j x hj (by rw [@cW noE cs 0 .e j (by omega),if_pos (by omega),Nat.sub_zero];exact e)
  refine⟨u,q1,hf x (List.mem_of_getElem? e) E _ g u (fun id y hn hy=>?_) q2⟩
  have:et g h.next (w.heap.size,0,z) id=g id:=by unfold et;rw [if_neg hn]
  rwa [this]at hy
 have hxs:∃xs,@VRs E g cs xs∧∀j u,xs[j]? =some u→c[0+j]? =some u:=by
  have:∀(l:List V) (k:Nat),(∀j x,l[j]? =some x→∃u,c[k+j]? =some u∧@VR E g x u)→∃xs,@VRs E g l xs∧∀j u,xs[j]? =some u→c[k+j]? =some u:=by
   intro l
   induction l with
   |nil=>exact fun k _=>⟨[],@VRs.nil E g,fun j u e=>by simp at e⟩
   |cons v l ih=>
    intro k h
    obtain⟨u,h1,h2⟩:=h 0 v (by simp)
    obtain⟨xs,k1,k2⟩:=ih (k+1) fun j v e=>by
     obtain⟨u,q1,q2⟩:=h (j+1) v (by simpa using e)
     exact⟨u,by rw [show k+1+j=k+(j+1) by omega];exact q1,q2⟩
    refine⟨u ::xs,@VRs.cons E g _ _ _ _ h2 k1,fun j y e=>?_⟩
    cases j with
    |zero=>simp at e;subst e;exact h1
    |succ j=>rw [show k+(j+1)=k+1+j by omega];exact k2 j y (by simpa using e)
  exact this cs 0 hcs
 obtain⟨xs,x1,x2⟩:=hxs
 have hvr:@VR E' g v (val w.heap.size):=by
  generalize val w.heap.size=vv at hval
  rcases hz with⟨rfl,rfl⟩ | ⟨n,es,rfl,hn,rfl⟩
  ·cases hval with
   |ptr e=>
    rw [@cg noE]at e
    cases e
    exact @VR.eptr E' g _ _ _ _ _ _ hEn x2 (x1.env hE)
  ·cases hval with
   |slx e=>
    rw [@cg noE]at e
    cases e
    exact @VR.lst E' g _ _ _ _ _ _ _ _ hEn x2 hn (x1.env hE)
   |slx0 e=>
    rw [@cg noE]at e
    cases e
    obtain rfl:=List.length_eq_zero_iff.1 (hn.trans (Nat.zero_mul _))
    cases x1
    exact @VR.lst E' g _ _ _ _ _ c _ [] hEn (fun j u e=>by simp at e) (by simp) (@VRs.nil E' g)
 have hkeep:∀b,b<w.heap.size→(w.alloc obj).heap[b]? =w.heap[b]? :=fun b hb=>by
  show(w.heap.push obj)[b]? =_
  rw [Array.getElem?_push,if_neg (by omega)]
 have hsize:(w.alloc obj).heap.size=w.heap.size+1:=by show(w.heap.push obj).size=_;rw [Array.size_push]
 rw [m1 w o rfl,Oper.uponIn_value]
 refine hK E' _ _ ⟨hE,fun b c' e=>?_,fun _ _ _ e=>e,Nat.le_refl _,Sit.mk' ?_ s.pin (fun b c' e=>?_),by rw [hsize];omega,fun b hb _=>hkeep b hb,fun id b o z e=>.inr ⟨id,o,z,e⟩,fun p hp=>hkeep _ (by
  obtain⟨⟨z,q⟩,_⟩:=s.pin p hp
  exact s.lt q),rfl,rfl,rfl⟩ hvr
 ·rcases hEo b c' e with⟨q,_⟩|q
  ·exact .inr (by omega)
  ·exact .inl q
 ·have r:=WR.env hE s.wr
  cases r with
  |mk a b c d e f k' x=>
   exact @WR.mk E' T g h _ a b c (fun id b o z q=>by rw [hsize];exact Nat.lt_succ_of_lt (d _ _ _ _ q)) (fun id y b e1 e2=>by
    obtain⟨b',o',z⟩:=y
    exact @BR.move E' _ _ _ _ _ _ _ _ _ e1 (hkeep _ (d _ _ _ _ e1)) (e _ _ _ e1 e2)) f k' x
 ·rcases hEo b c' e with⟨rfl,rfl⟩|q
  ·exact⟨⟨(t,0,0),k2⟩,fun id o z q=>absurd (s.lt q) (by omega)⟩
  ·obtain⟨⟨t,q1⟩,q2⟩:=s.env q
   exact⟨⟨t,(hkeep _ (Array.getElem?_eq_some_iff.1 q1).1).trans q1⟩,q2⟩
end
end
end Ev
end Go.Proofs.YtdfphfdnoobikaaGreatDoor
