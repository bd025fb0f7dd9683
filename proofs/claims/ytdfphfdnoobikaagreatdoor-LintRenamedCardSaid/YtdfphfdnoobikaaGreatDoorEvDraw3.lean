/-
  A region that draws its order:whatever the order,what the chosen order has computed.
-/
import Derived.Test.YtdfphfdnoobikaaGreatDoorEvOps
namespace Go.Proofs.YtdfphfdnoobikaaGreatDoor
namespace Ev
section
variable [Env]
set_option linter.unusedSectionVars false
section
variable {P:Program} {T:Ty} {m N:Nat}
def qe(cl:List cj)(e:Ent)(blk:Blk):Prop:=
 ∃c ao vs mk,cl[e.i]? =some c/\c.op= .a ao/\cm e.s.f c.guard=some true/\evs e.s.f c.args=some vs/\ao.run vs=some (blk,mk)/\e.v=mk e.s.h.next
theorem j7{l:List V}{blk:Blk}(h:dR l=some blk):blk.kin=some (none,false):=by
 obtain⟨_,h2⟩:=bW.1 h;obtain⟨_,a⟩:=bW.1 h2;cases a;rfl
theorem Hr{d:AOp}{vs:List V}{blk:Blk}{mk:Nat->V}(h:d.run vs=some (blk,mk)):blk.kin=none\/blk.kin=some (none,false):=by
 cases d with
 |alloc cs=>
  cases vs with
  |nil=>
   obtain⟨b,c,a⟩:=bQ.1 (show ob (dR cs) (λb=>some (b,λi=>V.ptr i 0))=some (blk,mk)from h);cases a;exact .inr (j7 c)
  |cons=>cases h
 |box=>
  cases vs with
  |nil=>cases h
  |cons x vs=>cases vs with
   |nil=>
    obtain⟨b,c,a⟩:=bQ.1 (show ob (dR (cellsOf x)) (λb=>some (b,λi=>V.ptr i 0))=some (blk,mk)from h);cases a;exact .inr (j7 c)
   |cons=>cases h
 |bslice z ln es ps=>
  obtain⟨cs,c,a⟩:=bQ.1 (show ob (jT ps vs (ku z ln)) (λcs=>ob (dR cs) λb=>some (b,λi=>V.sl i 0 ln ln true es))=some (blk,mk)from h);obtain⟨b,g,l⟩:=bQ.1 a;cases l;exact .inr (j7 g)
 |mkm r=>
  cases r with
  |false=>cases vs with
   |nil=>cases h;exact .inl rfl
   |cons=>cases h
  |true=>cases vs with
   |nil=>cases h
   |cons x vs=>cases vs with
    |nil=>cases x<;>cases h;exact .inl rfl
    |cons=>cases x<;>cases h
 |mks z bytes=>
  cases vs with
  |nil=>cases h
  |cons x vs=>cases vs with
   |nil=>cases x<;>first|(cases h;done)|(rename_i k _;cases k<;>cases h)
   |cons y vs=>cases vs with
    |cons=>cases x<;>first|(cases h;done)|(rename_i k _;cases k<;>first|(cases h;done)|(cases y<;>first|(cases h;done)|(rename_i k _;cases k<;>cases h)))
    |nil=>
     cases x<;>try (cases h;done)
     rename_i c n1
     cases c<;>try (cases h;done)
     cases y<;>try (cases h;done)
     rename_i a n2
     cases a<;>try (cases h;done)
     cases n1<;>try (cases h;done)
     cases n2<;>try (cases h;done)
     rename_i l' c'
     obtain⟨o,m⟩:=bW.1 (show oif (Nat.ble l' c') (oif (Nat.blt (Nat.mul c' bytes) 1099511627776) (oif (Nat.blt c' 1099511627776) (ob (dR (ku z c')) λb=>some (b,λi=>V.sl i 0 l' c' true (cD z)))))=some (blk,mk)from h);obtain⟨q3,j⟩:=bW.1 m;obtain⟨n,e⟩:=bW.1 j;obtain⟨b,f,q8⟩:=bQ.1 e;cases q8;exact .inr (j7 f)
 |rangeS=>
  cases vs with
  |nil=>cases h
  |cons x vs=>cases vs with
   |nil=>cases x<;>cases h;exact .inl rfl
   |cons=>cases x<;>cases h
theorem Ext.mem{g0 g:G}{h0 h h':H}{w0 w:World}(x:Ext T g0 h0 w0 g h w)(r:WR T g h' w)(f:h.next<=h'.next)(d:∀id,id<h.next->h'.blk id=h.blk id):Ext T g0 h0 w0 g h' w:=by
 refine⟨x.le,Nat.le_trans x.next f,r,λid hi e=>?_,x.size,x.keep,x.fresh,λid b o z n cs j i=>?_,x.os,x.tape,x.output⟩
 ·obtain⟨a,c⟩:=x.un id hi e
  exact⟨a,(d id (Nat.lt_of_lt_of_le hi x.next)).trans c⟩
 ·obtain⟨a,c⟩:=x.ro id b o z n cs j i
  exact⟨(d id (x.wr.top _ _ a)).trans a,c⟩
theorem vM{call:cN}{cl:List cj}{hi:Nat->Nat}:∀{B:List Ent} {k:Nat} {s sn:St},dX call cl hi k s B sn->∀{g:G} {w:World},WR T g s.h w->∃S B' s',B=S++B'/\dX call cl hi k s S s'/\dX call cl hi k s' B' sn/\
  (∀e B'',B'=e ::B''->dW cl e.i=true)/\(∀e∈S,dW cl e.i=false)/\WR T g s'.h w/\s.h.next<=s'.h.next/\(∀id,id<s.h.next->s'.h.blk id=s.h.blk id)/\
  (∀e∈S,∀blk,qe cl e blk->s.h.next<=e.s.h.next/\e.s.h.next<s'.h.next/\s'.h.blk e.s.h.next=some blk)/\
  (∀e∈S,∀e'∈S,∀b b',qe cl e b->qe cl e' b'->e.s.h.next=e'.s.h.next->e=e')
 |[],k,s,sn,h,g,w,r=>by
  cases h;exact⟨[],[],s,rfl,.nil,.nil,by simp,by simp,r,Nat.le_refl _,λ_ _=>rfl,by simp,by simp⟩
 |e ::B,k,s,sn,h,g,w,r=>by
  obtain⟨rfl,rfl,c,s1,hc,st,t⟩:=h.head;have hEc:=eI hc
  by_cases hE:isE c.op=true
  ·refine⟨[],e ::B,e.s,rfl,.nil,h,λe' B'' he=>?_,by simp,r,Nat.le_refl _,λ_ _=>rfl,by simp,by simp⟩
   cases he;rw [hEc];exact hE
  ·rw [if_neg hE]at t
   have hmem:(s1.h=e.s.h/\∀blk,¬qe cl e blk)\/∃blk,e.s.h.new blk=some s1.h/\(blk.kin=none\/blk.kin=some (none,false))/\∀blk',qe cl e blk'->blk'=blk:=by
    rcases st.main with⟨h1,h2,h3,h4⟩ | ⟨vs,h1,h2,h3,h4,h5⟩
    ·refine .inl ⟨h3,λblk m=>?_⟩
     obtain⟨c',A,vs',mk,C,F,R,_⟩:=m;rw [hc]at C;cases C;have h1:cm e.s.f c.guard=some false:=h1;rw [h1]at R;cases R
    ·have j:c.op.run call vs e.s.h=some (e.v,s1.h):=h3
     have P:evs e.s.f c.args=some vs:=h2;have q:(∀A,c.op≠.a A)->∀blk,¬qe cl e blk:=by
      intro hn blk m;obtain⟨c',A,vs',mk,C,F,_⟩:=m;rw [hc]at C;cases C;exact hn A F
     cases l:c.op with
     |p o=>
      rw [l]at j;obtain⟨u,I,E⟩:=bQ.1 (show ob (o.run vs) (λv=>some (v,e.s.h))=some (e.v,s1.h)from j);exact .inl ⟨(Prod.mk.inj (Option.some.inj E)).2.symm,q λA he=>by rw [l]at he;cases he⟩
     |r o=>
      rw [l]at j;obtain⟨u,I,E⟩:=bQ.1 (show ob (o.run vs e.s.h) (λv=>some (v,e.s.h))=some (e.v,s1.h)from j);exact .inl ⟨(Prod.mk.inj (Option.some.inj E)).2.symm,q λA he=>by rw [l]at he;cases he⟩
     |a A=>
      rw [l]at j;obtain⟨p,I,E⟩:=bQ.1 (show ob (A.run vs) (λr=>ob (e.s.h.new r.1) λh'=>some (r.2 e.s.h.next,h'))=some (e.v,s1.h)from j);obtain⟨h',k3,Y⟩:=bQ.1 E;have Z:h'=s1.h:=(Prod.mk.inj (Option.some.inj Y)).2;refine .inr ⟨p.1,Z▸k3,Hr (blk:=p.1) (mk:=p.2) I,λblk' m=>?_⟩;obtain⟨c',W,vs',mk,C,F,R,V,U,_⟩:=m;rw [hc]at C;cases C;rw [l]at F;cases F;rw [P]at V;cases V;rw [I]at U;have:=Option.some.inj U;rw [this]
     |e o=>rw [l]at hE;exact absurd rfl hE
     |call f=>rw [l]at hE;exact absurd rfl hE
     |callv=>rw [l]at hE;exact absurd rfl hE
   rcases hmem with⟨hs,hnm⟩ | ⟨blk,hnew,hkin,hone⟩
   ·obtain⟨S,B',s',K,L,q3,Q,M,J,O,q8,q9,q10⟩:=vM t (g:=g) (w:=w) (by rw [hs];exact r)
    rw [hs]at O q8 q9;refine⟨e ::S,B',s',by rw [K];rfl,dX.cons hc st (by rw [if_neg hE];exact L),q3,Q,λx d=>?_,J,O,q8,λx d blk m=>?_,λx d y z b b' m n he=>?_⟩
    ·cases d with
     |head=>rw [hEc];simpa using hE
     |tail _ d=>exact M x d
    ·cases d with
     |head=>exact absurd m (hnm blk)
     |tail _ d=>exact q9 x d blk m
    ·cases d with
     |head=>exact absurd m (hnm b)
     |tail _ d=>
      cases z with
      |head=>exact absurd n (hnm b')
      |tail _ z=>exact q10 x d y z b b' m n he
   ·obtain⟨r1,n1,n2,n3⟩:=r.add hnew hkin
    obtain⟨S,B',s',K,L,q3,Q,M,J,O,q8,q9,q10⟩:=vM t (g:=g) (w:=w) r1;have D:s'.h.blk e.s.h.next=some blk:=by rw [q8 _ (by omega),n2,if_pos rfl]
    refine⟨e ::S,B',s',by rw [K];rfl,dX.cons hc st (by rw [if_neg hE];exact L),q3,Q,λx d=>?_,J,by omega,λid a0=>?_,λx d blk' m=>?_,λx d y z b b' m n he=>?_⟩
    ·cases d with
     |head=>rw [hEc];simpa using hE
     |tail _ d=>exact M x d
    ·rw [q8 id (by omega),n2,if_neg (by omega)]
    ·cases d with
     |head=>
      rw [hone blk' m];exact⟨Nat.le_refl _,by omega,D⟩
     |tail _ d=>
      obtain⟨z1,z2,z3⟩:=q9 x d blk' m;exact⟨by omega,z2,z3⟩
    ·cases d with
     |head=>
      cases z with
      |head=>rfl
      |tail _ z=>
       obtain⟨z1,_,_⟩:=q9 y z b' n;omega
     |tail _ d=>
      cases z with
      |head=>
       obtain⟨z1,_,_⟩:=q9 x d b m;omega
      |tail _ z=>exact q10 x d y z b b' m n he
end
end
section
variable [Env]
set_option linter.unusedSectionVars false
section
variable {P:Program} {T:Ty} {m N:Nat}
structure Inv(T:Ty)(m N:Nat)(call:cN)(ops:Array Oper)(cl:List cj)(hi:Nat->Nat)(bs:List Nat)(s0:St)(tr:List Ent)(sn:St)(g0:G)(a0:Act)(w0:World)
  (listed:Array Bool) (a:Act) (w:World) (g:G) (A B:List Ent) (sA:St):Prop where
 tr:tr=A++B
 tA:dX call cl hi 0 s0 A sA
 tB:dX call cl hi (nE cl A) sA B sn
 bnd:∀e B',B=e ::B'->dW cl e.i=true
 wr:WR T g sA.h w
 ext:Ext T g0 s0.h w0 g sA.h w
 size:listed.size=ops.size
 inA:∀i,listed.getD i false=true->∃e∈A,e.i=i
 es:∀e∈A,dW cl e.i=true->listed.getD e.i false=true
 closed:∀i,listed.getD i false=true->∀j,bit (cW bs i) j=true->listed.getD j false=true
 tsize:a.tmps.size=N
 old:∀t,(∀i,listed.getD i false=true->(ops[i]?).bind (·.dst)≠some t)->a.tmps[t]? =a0.tmps[t]?
 new:∀e∈A,listed.getD e.i false=true->∀t,(ops[e.i]?).bind (·.dst)=some t->∃u,a.tmps[t]? =some u/\VR g e.v u
 made:∀e∈A,∀blk,qe cl e blk->listed.getD e.i false=false->g e.s.h.next=none/\sA.h.blk e.s.h.next=some blk/\s0.h.next<=e.s.h.next
 ids:∀e∈A,∀blk,qe cl e blk->e.s.h.next<sA.h.next
 dist:∀e∈A,∀e'∈A,∀b b',qe cl e b->qe cl e' b'->e.s.h.next=e'.s.h.next->e=e'
 defers:a.defers=a0.defers
theorem dk(l:Array Bool)(i j:Nat)(h:i<l.size):(l.setIfInBounds i true).getD j false=if j=i then true else l.getD j false:=by
 rw [Array.getD_eq_getD_getElem?,Array.getD_eq_getD_getElem?,Array.getElem?_setIfInBounds]
 by_cases e:i=j
 ·subst e
  simp [h]
 ·rw [if_neg e,if_neg (λh=>e h.symm)]
theorem uS{ops:Array Oper}{listed:Array Bool}{i:Nat}(hs:listed.size=ops.size)(h:i∈Region.ready .any ops listed):i<ops.size/\listed.getD i false=false/\∃o,ops[i]? =some o/\∀e∈o.after.toList,ju e=true->listed.getD e.on false=true:=by
 unfold Region.ready at h;rw [List.mem_filter,List.mem_range]at h;obtain⟨h1,h2⟩:=h;rw [Bool.and_eq_true]at h2;have ho:ops[i]? =some ops[i]:=Array.getElem?_eq_getElem h1;refine⟨h1,?_,ops[i],ho,λe b a=>?_⟩
 ·have:=h2.1
  rw [Array.getD_eq_getD_getElem?,Array.getElem?_eq_getElem (by omega)]at this ⊢
  simpa using this
 ·have:=h2.2
  rw [ho]at this;simp only [Option.map_some,Option.getD_some,Array.all_eq_true_iff_forall_mem]at this;have k:=this e (by simpa using b);rw [yS,a]at k
  simpa using k
theorem uR{ops:Array Oper}{bs:List Nat}{listed:Array Bool}(b:ic T ops bs)(hs:listed.size=ops.size)(h:Region.ready .any ops listed=[]):∀i,i<ops.size->listed.getD i false=true:=by
 intro i
 induction i using Nat.strongRecOn with
 |_ i ih=>
  intro hi;cases c:listed.getD i false with
  |true=>rfl
  |false=>
   have ho:ops[i]? =some ops[i]:=Array.getElem?_eq_getElem hi;have:i∈Region.ready .any ops listed:=by
    unfold Region.ready;rw [List.mem_filter,List.mem_range];refine⟨hi,?_⟩;rw [Bool.and_eq_true];refine⟨?_,?_⟩
    ·rw [Array.getD_eq_getD_getElem?,Array.getElem?_eq_getElem (by omega)]at c ⊢
     simpa using c
    ·rw [ho]
     simp only [Option.map_some,Option.getD_some,Array.all_eq_true_iff_forall_mem];intro e f;rw [yS];cases d:ju e with
     |false=>rfl
     |true=>
      have a:=b.back i _ ho e (by simpa using f) d
      simpa using ih e.on a (by omega)
   rw [h]at this;cases this
def left(ops:Array Oper)(listed:Array Bool):Nat:=((List.range ops.size).filter λi=>!listed.getD i false).length
theorem ye{ops:Array Oper}{listed:Array Bool}{i:Nat}(hs:listed.size=ops.size)(hi:i<ops.size)(c:listed.getD i false=false):left ops (listed.setIfInBounds i true)+1<=left ops listed:=by
 unfold left;have h1:(((List.range ops.size).filter λj=>!(listed.setIfInBounds i true).getD j false).length+1)=(i ::((List.range ops.size).filter λj=>!(listed.setIfInBounds i true).getD j false)).length:=rfl;rw [h1];refine rS ?_ λx a=>?_
 ·rw [List.nodup_cons]
  refine⟨λh=>?_,List.nodup_range.filter _⟩;rw [List.mem_filter,dk _ _ _ (by omega)]at h;simp at h
 ·rw [List.mem_filter,List.mem_range]
  cases a with
  |head=>exact⟨hi,by simp [c]⟩
  |tail _ a=>
   have a:x∈(List.range ops.size).filter λj=>!(listed.setIfInBounds i true).getD j false:=a;rw [List.mem_filter,List.mem_range,dk _ _ _ (by omega)]at a;obtain⟨h2,b⟩:=a;refine⟨h2,?_⟩
   split at b
   ·cases b
   ·exact b
theorem vf{ops:Array Oper}{listed:Array Bool}(h:left ops listed=0):∀i,i<ops.size->listed.getD i false=true:=by
 intro i hi;have h:=List.eq_nil_of_length_eq_zero h;cases a:listed.getD i false with
 |true=>rfl
 |false=>
  have:i∈(List.range ops.size).filter λi=>!listed.getD i false:=by
   rw [List.mem_filter,List.mem_range];exact⟨hi,by rw [a];rfl⟩
  rw [h]at this;cases this
section
variable {call:cN} {ops:Array Oper} {cl:List cj} {hi:Nat->Nat} {bs ord:List Nat} {s0 sn:St} {tr:List Ent} {g0:G} {a0:Act} {w0:World} {listed:Array Bool} {a:Act} {w:World} {g:G} {A B:List Ent} {sA:St}
theorem Inv.tmps(r:ic T ops bs)(I:Inv T m N call ops cl hi bs s0 tr sn g0 a0 w0 listed a w g A B sA){i:Nat}{o:Oper}(ho:ops[i]? =some o){d:Dst}(hd:dst m N o.dst=some d){u:Value}{g':G}(hg:g.le g'):
  (∀t,(∀j,(listed.setIfInBounds i true).getD j false=true->(ops[j]?).bind (·.dst)≠some t)->(a.put o.dst u).tmps[t]? =a0.tmps[t]?)/\
  (∀e∈A,(listed.setIfInBounds i true).getD e.i false=true->e.i≠i->∀t,(ops[e.i]?).bind (·.dst)=some t->∃x,(a.put o.dst u).tmps[t]? =some x/\VR g' e.v x)/\
  (∀t,o.dst=some t->(a.put o.dst u).tmps[t]? =some u):=by
 have hi:i<listed.size:=by
  rw [I.size];rcases Nat.lt_or_ge i ops.size with k|k
  ·exact k
  ·rw [Array.getElem?_eq_none k]at ho;cases ho
 refine⟨λt y=>?_,λe D n f t b=>?_,λt b=>?_⟩
 ·rw [kx,if_neg]
  ·refine I.old t λj E=>y j ?_
   rw [dk _ _ _ hi]
   split
   ·rfl
   ·exact E
  ·intro q
   have:=y i (by rw [dk _ _ _ hi,if_pos rfl]);rw [ho]at this;exact this q.1
 ·rw [dk _ _ _ hi,if_neg f]at n
  obtain⟨x,F,z⟩:=I.new e D n t b;refine⟨x,?_,z.mono hg⟩;rw [kx,if_neg]
  ·exact F
  ·intro q
   obtain⟨p,C,s⟩:∃p,ops[e.i]? =some p/\p.dst=some t:=by
    cases l:ops[e.i]? with
    |none=>rw [l]at b;cases b
    |some p=>rw [l]at b;exact⟨p,rfl,b⟩
   have c:t∈d4 T ops o:=by
    unfold d4;rw [q.1];simp
   exact(r.names i e.i o p t (λh=>f h.symm) ho C s c).2 q.1
 ·rw [kx,if_pos]
  refine⟨b,?_⟩;rw [I.tsize];rw [b]at hd;exact Ar hd
theorem fi(a:jU ops cl bs ord)(b:tr.map (·.i)=ord){x y:Ent}(g:x∈tr)(c:y∈tr)(h:x.i=y.i):x=y:=by
 obtain⟨d,f,e⟩:=List.append_of_mem g;rw [e]at c;have ho:ord=d.map (·.i)++x.i ::f.map (·.i):=by rw [<-b,e];simp
 rcases List.mem_append.1 c with k|k
 ·have:=(a.pre _ _ _ ho).2.1
  rw [List.mem_map]at this;exact(this ⟨y,k,h.symm⟩).elim
 ·rcases List.mem_cons.1 k with k|k
  ·exact k.symm
  ·obtain⟨z1,z2,rfl⟩:=List.append_of_mem k
   have:=(a.pre (d.map (·.i)++x.i ::z1.map (·.i)) y.i (z2.map (·.i)) (by rw [ho];simp)).2.1;exact(this (by rw [h];simp)).elim
theorem Inv.reads(J:ic T ops bs)(n:jU ops cl bs ord)(V:∀(i:Nat) c,cl[i]? =some c->∃o,ops[i]? =some o/\lE T m N ops o c)(z:tr.map (·.i)=ord)(F0:FR g0 m N s0.f a0.tmps)
  (I:Inv T m N call ops cl hi bs s0 tr sn g0 a0 w0 listed a w g A B sA) {e:Ent} {L A1:List Ent} (hA:tr=L++e ::A1) (t0:dX call cl hi 0 s0 L e.s) {o:Oper} (ho:ops[e.i]? =some o)
  (hl:listed.getD e.i false=false) (Q:∀j,bit (cW bs e.i) j=true->listed.getD j false=true):
  ∀t∈d4 T ops o,∀v,rdn m e.s.f t=some v->∃u,a.tmps[t]? =some u/\VR g v u:=by
 intro t ht v U;have l:ord=(L.map (·.i))++e.i ::(A1.map (·.i)):=by rw [<-z,hA];simp
 obtain⟨p1,p2,p3⟩:=n.pre _ _ _ l;obtain⟨n1,n2⟩:=t0.names V;have d:∀j:Nat,(ops[j]?).bind (λx:Oper=>x.dst)=some t->∃p:Oper,ops[j]? =some p/\p.dst=some t:=by
  intro j C;cases R:ops[j]? with
  |none=>rw [R]at C;cases C
  |some p=>rw [R]at C;exact⟨p,rfl,C⟩
 have b:∀x∈L,bit (cW bs x.i) e.i=true->False:=by
  intro x D Z;obtain⟨s,r,rfl⟩:=List.append_of_mem D;have:=(n.pre (s.map (·.i)) x.i (r.map (·.i)++e.i ::A1.map (·.i)) (by rw [l];simp)).1 e.i Z;exact p2 (by rw [List.map_append,List.mem_append];exact .inl this)
 by_cases hw:∃x∈L,(ops[x.i]?).bind (·.dst)=some t
 ·obtain⟨x,D,E⟩:=hw
  obtain⟨p,S,k⟩:=d x.i E;obtain⟨s,r,rfl⟩:=List.append_of_mem D;have G:e.i≠x.i:=λh=>p2 (by rw [h,List.map_append,List.map_cons];simp);have F:rdn m e.s.f t=some x.v:=by
   refine n2 s x r rfl t E λy M a2=>?_;obtain⟨q,hq,a1⟩:=d y.i a2;have W:x.i≠y.i:=by
    intro h;obtain⟨r1,r2,rfl⟩:=List.append_of_mem M;have:=(n.pre (s.map (·.i)++x.i ::r1.map (·.i)) y.i (r2.map (·.i)++e.i ::A1.map (·.i)) (by rw [l];simp)).2.1;exact this (by rw [<-h];simp)
   have K:t∈d4 T ops p:=by
    unfold d4;rw [k];simp
   exact(J.names x.i y.i p q t W S hq a1 K).2 k
  rw [F]at U;cases U;have Z:bit (cW bs e.i) x.i=true:=by
   rcases (J.names e.i x.i o p t G ho S k ht).1 with q|q
   ·exact q
   ·exact(b x D q).elim
  have P:=Q _ Z;obtain⟨y,M,Y⟩:=I.inA _ P;have O:y=x:=fi n z (by rw [I.tr];exact List.mem_append_left _ M) (by rw [hA];exact List.mem_append_left _ (by simp)) Y;rw [O]at M;exact I.new x M P t E
 ·have F:rdn m e.s.f t=rdn m s0.f t:=n1 t λx D hd=>hw ⟨x,D,hd⟩
  rw [F]at U;obtain⟨u,k1,k2⟩:=F0.2 t v U;refine⟨u,?_,k2.mono I.ext.le⟩;rw [I.old t λj C hd=>?_]
  ·exact k1
  ·obtain⟨p,S,k⟩:=d j hd
   have G:e.i≠j:=by
    intro h;rw [<-h,hl]at C;cases C
   rcases (J.names e.i j o p t G ho S k ht).1 with q|q
   ·have:=p1 j q
    rw [List.mem_map]at this;obtain⟨x,D,rfl⟩:=this;exact hw ⟨x,D,hd⟩
   ·have:=I.closed j C e.i q
    rw [hl]at this;cases this
end
end
end
section
variable [Env]
set_option linter.unusedSectionVars false
section
variable {P:Program} {T:Ty} {m N:Nat}
variable {call:cN} {ops:Array Oper} {cl:List cj} {hi:Nat->Nat} {bs ord:List Nat} {s0 sn:St} {tr:List Ent} {g0:G} {a0:Act} {w0:World} {listed:Array Bool} {a:Act} {w:World} {g:G} {A B:List Ent} {sA:St}
theorem jR{o:Oper}{i:Nat}(h:ops[i]? =some o):i<ops.size:=by
 rcases Nat.lt_or_ge i ops.size with k|k
 ·exact k
 ·rw [Array.getElem?_eq_none k]at h;cases h
theorem kQ{o:Oper}{i:Nat}(hs:listed.size=ops.size)(ho:ops[i]? =some o)(hc:∀i,listed.getD i false=true->∀j,bit (cW bs i) j=true->listed.getD j false=true)
  (a:∀j,bit (cW bs i) j=true->listed.getD j false=true):∀k,(listed.setIfInBounds i true).getD k false=true->∀j,bit (cW bs k) j=true->(listed.setIfInBounds i true).getD j false=true:=by
 intro k b j c;have hi:=jR ho;rw [dk _ _ _ (by omega)]at b ⊢
 split
 ·rfl
 ·split at b
  ·rename_i h
   subst h;exact a j c
  ·exact hc k b j c
theorem Inv.same(q:ic T ops bs)(r:jU ops cl bs ord)(l:tr.map (·.i)=ord)(I:Inv T m N call ops cl hi bs s0 tr sn g0 a0 w0 listed a w g A B sA){e:Ent}(s:e∈A){o:Oper}(ho:ops[e.i]? =some o)(O:listed.getD e.i false=false)
  (n:∀j,bit (cW bs e.i) j=true->listed.getD j false=true) {d:Dst} (hd:dst m N o.dst=some d) {u:Value} {g':G} {w':World} (x:Ext T g sA.h w g' sA.h w') (F:VR g' e.v u):
  Inv T m N call ops cl hi bs s0 tr sn g0 a0 w0 (listed.setIfInBounds e.i true) (a.put o.dst u) w' g' A B sA:=by
 have c:=jR ho;obtain⟨C,t2,E⟩:=I.tmps (u:=u) q ho hd x.le;refine⟨I.tr,I.tA,I.tB,I.bnd,x.wr,I.ext.trans x,by simp [I.size],λi hi=>?_,λy f hE=>?_,kQ I.size ho I.closed n,by rw [lY];exact I.tsize,C,λy f b t k=>?_,λy f blk z b=>?_,I.ids,I.dist,(dH _ _ _).trans I.defers⟩
 ·rw [dk _ _ _ (by rw [I.size];exact c)]at hi
  split at hi
  ·rename_i h;exact⟨e,s,h.symm⟩
  ·exact I.inA i hi
 ·rw [dk _ _ _ (by rw [I.size];exact c)]
  split
  ·rfl
  ·exact I.es y f hE
 ·by_cases hye:y.i=e.i
  ·have p:y=e:=fi r l (by rw [I.tr];exact List.mem_append_left _ f) (by rw [I.tr];exact List.mem_append_left _ s) hye
   subst p;rw [ho]at k;exact⟨u,E t k,F⟩
  ·exact t2 y f b hye t k
 ·rw [dk _ _ _ (by rw [I.size];exact c)]at b
  split at b
  ·cases b
  ·obtain⟨L,J,K⟩:=I.made y f blk z b
   obtain⟨D,M⟩:=x.un _ (I.ids y f blk z) L;exact⟨D,J,K⟩
theorem Ext.place{h0 h:H}(x:Ext T g0 h0 w0 g h w){id z:Nat}{o:Obj}(p:h0.next<=id)(l:g id=none)(r:WR T (fp g id (w.heap.size,0,z)) h (w.alloc o)):Ext T g0 h0 w0 (fp g id (w.heap.size,0,z)) h (w.alloc o):=by
 refine⟨G.le_trans x.le (fO _ l),x.next,r,λi hi e=>?_,?_,λb m k=>?_,λi b o' d a f=>?_,λi b o' d n cs a f=>?_,x.os,x.tape,x.output⟩
 ·obtain⟨j,c⟩:=x.un i hi e
  exact⟨by rw [dK _ (by omega)];exact j,c⟩
 ·rw [World.size_alloc];have:=x.size;omega
 ·rw [eQ (by have:=x.size;omega)]
  exact x.keep b m k
 ·by_cases hi:i=id
  ·subst hi
   rw [cH]at a;cases a;exact .inl x.size
  ·rw [dK _ hi]at a
   exact x.fresh i b o' d a f
 ·obtain⟨j,c⟩:=x.ro i b o' d n cs a f
  exact⟨j,by rw [eQ (x.wr.lt _ _ _ _ (x.le _ _ a))];exact c⟩
theorem Inv.make(J:ic T ops bs)(K:jU ops cl bs ord)(q:tr.map (·.i)=ord)(I:Inv T m N call ops cl hi bs s0 tr sn g0 a0 w0 listed a w g A B sA){e:Ent}(r:e∈A){o:Oper}(ho:ops[e.i]? =some o)(hl:listed.getD e.i false=false)
  (C:∀j,bit (cW bs e.i) j=true->listed.getD j false=true) {d:Dst} (hd:dst m N o.dst=some d) {blk:Blk} (M:qe cl e blk) {mk:Nat->V} {ρ:Operand->Value} {op:Op} (D:ml P T g ρ op blk mk) (W:e.v=mk e.s.h.next):
  ∃(b:Obj) (val:Nat->Value) (g':G),(∀(w:World) (o:Oper),o.op=op->(execOp ρ o).run P w= .ok (.value (val w.heap.size)) (w.alloc b))/\
   Inv T m N call ops cl hi bs s0 tr sn g0 a0 w0 (listed.setIfInBounds e.i true) (a.put o.dst (val w.heap.size)) (w.alloc b) g' A B sA:=by
 have k:=jR ho;obtain⟨b,z,val,m1,m2,m3⟩:=D.make;obtain⟨L,Y,Z⟩:=I.made e r blk M hl;have kid:=I.ids e r blk M;have p:=fO (g:=g) (w.heap.size,0,z) L;have O:=I.wr.place (z:=z) (o:=b) kid L Y D.kin (m3 _ _ _ _ p (cH _ _ _) (dt w b));obtain⟨Q,t2,R⟩:=I.tmps (u:=val w.heap.size) J ho hd p;refine⟨b,val,_,m1,I.tr,I.tA,I.tB,I.bnd,O,I.ext.place Z L O,by simp [I.size],λi hi=>?_,λy l hE=>?_,kQ I.size ho I.closed C,by rw [lY];exact I.tsize,Q,λy l c t n=>?_,λy l f x c=>?_,I.ids,I.dist,(dH _ _ _).trans I.defers⟩
 ·rw [dk _ _ _ (by rw [I.size];exact k)]at hi
  split at hi
  ·rename_i h;exact⟨e,r,h.symm⟩
  ·exact I.inA i hi
 ·rw [dk _ _ _ (by rw [I.size];exact k)]
  split
  ·rfl
  ·exact I.es y l hE
 ·by_cases hye:y.i=e.i
  ·have F:y=e:=fi K q (by rw [I.tr];exact List.mem_append_left _ l) (by rw [I.tr];exact List.mem_append_left _ r) hye
   subst F;rw [ho]at n;exact⟨_,R t n,by rw [W];exact m2 _ _ _ p (cH _ _ _)⟩
  ·exact t2 y l c hye t n
 ·rw [dk _ _ _ (by rw [I.size];exact k)]at c
  split at c
  ·cases c
  ·rename_i E
   obtain⟨S,U,q3⟩:=I.made y l f x c;refine⟨?_,U,q3⟩;rw [dK]
   ·exact S
   ·intro h
    exact E (by rw [I.dist y l e r f blk x M h])
theorem Inv.write(a5:ic T ops bs)(L:jU ops cl bs ord)(q:tr.map (·.i)=ord){e:Ent}{B':List Ent}(I:Inv T m N call ops cl hi bs s0 tr sn g0 a0 w0 listed a w g A (e ::B') sA)(hE:dW cl e.i=true){o:Oper}(ho:ops[e.i]? =some o)(hl:listed.getD e.i false=false)
  (U:∀j,bit (cW bs e.i) j=true->listed.getD j false=true) {d:Dst} (hd:dst m N o.dst=some d) {c:cj} {s1:St} (hc:cl[e.i]? =some c) (hs:e.s=sA) (Q:Ht call {c with lo:=nE cl A,hi:=hi e.i} sA e.v s1)
  (ht:dX call cl hi (if isE c.op=true then nE cl A+1 else nE cl A) s1 B' sn) (V:e.k=nE cl A) {u:Value} {g':G} {w':World} (x:Ext T g sA.h w g' s1.h w') (hv:VR g' e.v u) (D:∀blk,¬qe cl e blk):
  ∃A' B'' sA',Inv T m N call ops cl hi bs s0 tr sn g0 a0 w0 (listed.setIfInBounds e.i true) (a.put o.dst u) w' g' A' B'' sA':=by
 have F:=jR ho;obtain⟨t1,t2,t3⟩:=I.tmps (u:=u) a5 ho hd x.le;obtain⟨S,B'',s',q1,q2,q3,q4,q5,q6,q7,q8,q9,q10⟩:=vM ht x.wr;have a8:isE c.op=true:=by rw [<-eI hc];exact hE
 have a2:nE cl (A++e ::S)=nE cl A+1:=by
  unfold nE;rw [List.filter_append,List.filter_cons,if_pos hE];have:S.filter (λe=>dW cl e.i)=[]:=by
   rw [List.filter_eq_nil_iff];intro y n;rw [q5 y n];decide
  rw [this];simp
 have he:e=⟨e.i,nE cl A,e.v,sA⟩:=by
  obtain⟨i,k,v,s⟩:=e;simp only at hs V;rw [hs,V]
 have B:tr=(A++e ::S)++B'':=by rw [I.tr,q1];simp
 have a4:dX call cl hi 0 s0 (A++e ::S) s':=by
  refine dX.append I.tA ?_;rw [he];rw [Nat.zero_add];exact .cons hc Q q2
 have f:∀y∈A++e ::S,y∈A\/y=e\/y∈S:=by
  intro y n;rcases List.mem_append.1 n with h|h
  ·exact .inl h
  ·rcases List.mem_cons.1 h with h|h
   ·exact .inr (.inl h)
   ·exact .inr (.inr h)
 have W:ord=A.map (·.i)++e.i ::(S++B'').map (·.i):=by rw [<-q,I.tr,q1];simp
 have J:∀y∈S,(listed.setIfInBounds e.i true).getD y.i false=false:=by
  intro y n;have K:y∈tr:=by rw [B];simp [n]
  have Z:e∈tr:=by rw [B];simp
  rw [dk _ _ _ (by rw [I.size];exact F),if_neg]
  ·cases l:listed.getD y.i false with
   |false=>rfl
   |true=>
    obtain⟨z,hz,a1⟩:=I.inA _ l;have R:z=y:=fi L q (by rw [B];simp [hz]) K a1;subst R;obtain⟨a6,a3,rfl⟩:=List.append_of_mem n;have:=(L.pre (A.map (·.i)++e.i ::a6.map (·.i)) z.i (a3.map (·.i)++B''.map (·.i)) (by rw [W];simp)).2.1;exact(this (List.mem_append_left _ (List.mem_map.2 ⟨z,hz,rfl⟩))).elim
  ·intro h
   have:=fi L q K Z h;subst this;rw [q5 y n]at hE;cases hE
 have O:sA.h.next<=s'.h.next:=Nat.le_trans x.next q7
 refine⟨A++e ::S,B'',s',B,a4,by rw [a2];rw [if_pos a8]at q3;exact q3,q4,q6,(I.ext.trans x).mem q6 q7 q8,by simp [I.size],λi hi=>?_,λy n M=>?_,kQ I.size ho I.closed U,by rw [lY];exact I.tsize,t1,λy n l t E=>?_,λy n blk r l=>?_,λy n blk r=>?_,λy n z hz b P r C Y=>?_,(dH _ _ _).trans I.defers⟩
 ·rw [dk _ _ _ (by rw [I.size];exact F)]at hi
  split at hi
  ·rename_i h;exact⟨e,by simp,h.symm⟩
  ·obtain⟨y,n,a9⟩:=I.inA i hi
   exact⟨y,by simp [n],a9⟩
 ·rw [dk _ _ _ (by rw [I.size];exact F)]
  split
  ·rfl
  ·rename_i a7
   rcases f y n with h|h|h
   ·exact I.es y h M
   ·exact absurd (by rw [h]) a7
   ·rw [q5 y h]at M;cases M
 ·rcases f y n with h|h|h
  ·by_cases hye:y.i=e.i
   ·have K:y∈tr:=by rw [B];simp [h]
    have:y=e:=fi L q K (by rw [B];simp) hye;subst this;rw [ho]at E;exact⟨u,t3 t E,hv⟩
   ·exact t2 y h l hye t E
  ·subst h
   rw [ho]at E;exact⟨u,t3 t E,hv⟩
  ·rw [J y h]at l;cases l
 ·rcases f y n with h|h|h
  ·rw [dk _ _ _ (by rw [I.size];exact F)]at l
   split at l
   ·cases l
   ·obtain⟨k1,k2,k3⟩:=I.made y h blk r l
    have kid:=I.ids y h blk r;obtain⟨k4,k5⟩:=x.un _ kid k1;exact⟨k4,by rw [q8 _ (Nat.lt_of_lt_of_le kid x.next),k5];exact k2,k3⟩
  ·subst h
   exact absurd r (D blk)
  ·obtain⟨z1,z2,z3⟩:=q9 y h blk r
   refine⟨?_,z3,Nat.le_trans I.ext.next (Nat.le_trans x.next z1)⟩;cases hg:g' y.s.h.next with
   |none=>rfl
   |some p=>exact absurd (x.wr.dom _ _ hg) (by omega)
 ·rcases f y n with h|h|h
  ·exact Nat.lt_of_lt_of_le (I.ids y h blk r) O
  ·subst h;exact absurd r (D blk)
  ·exact(q9 y h blk r).2.1
 ·rcases f y n with h|h|h
  ·rcases f z hz with h'|h'|h'
   ·exact I.dist y h z h' b P r C Y
   ·subst h';exact absurd C (D P)
   ·have k1:=I.ids y h b r
    have k2:=(q9 z h' P C).1;have:=x.next
    omega
  ·subst h;exact absurd r (D b)
  ·rcases f z hz with h'|h'|h'
   ·have k1:=I.ids z h' P C
    have k2:=(q9 y h b r).1;have:=x.next
    omega
   ·subst h';exact absurd C (D P)
   ·exact q10 y h z h' b P r C Y
end
end
section
variable [Env]
set_option linter.unusedSectionVars false
section
variable {P:Program} {T:Ty} {m N:Nat}
variable {call:cN} {ops:Array Oper} {cl:List cj} {bs ord:List Nat} {s0 sn:St} {tr:List Ent} {g0:G} {a0:Act} {w0:World}
noncomputable abbrev qG(ops:Array Oper)(cl:List cj)(bs:List Nat):Nat->Nat:=λi=>cD (((List.range ops.size).filter (dW cl)).filter λe=>!bit (cW bs e) i)
theorem J9(k:jU ops cl bs ord)(d:tr.map (·.i)=ord)(j:∀(i:Nat) c,cl[i]? =some c->∃o,ops[i]? =some o/\lE T m N ops o c){listed:Array Bool}{a:Act}{w:World}{g:G}{A B:List Ent}{sA:St}(I:Inv T m N call ops cl (qG ops cl bs) bs s0 tr sn g0 a0 w0 listed a w g A B sA){i:Nat}(u:listed.getD i false=false):nE cl A<=qG ops cl bs i:=by
 unfold nE;show _<=cD _;rw [cq];have h1:(A.filter λe=>dW cl e.i).length=((A.filter λe=>dW cl e.i).map (·.i)).length:=by simp
 rw [h1];refine rS ?_ λx n=>?_
 ·have h:∀(pre l post:List Ent),tr=pre++l++post->(l.map (·.i)).Nodup:=by
   intro pre l
   induction l generalizing pre with
   |nil=>intro post _;exact List.nodup_nil
   |cons e l ih=>
    intro post p;rw [List.map_cons,List.nodup_cons];refine⟨λq=>?_,ih (pre++[e]) post (by rw [p];simp)⟩;rw [List.mem_map]at q;obtain⟨y,b,f⟩:=q;obtain⟨s,r,rfl⟩:=List.append_of_mem b;have:=(k.pre (pre.map (·.i)++e.i ::s.map (·.i)) y.i (r.map (·.i)++post.map (·.i)) (by rw [<-d,p];simp)).2.1;exact this (by rw [f];simp)
  have:=h [] A B (by rw [I.tr];simp);exact List.Sublist.nodup (List.Sublist.map _ List.filter_sublist) this
 ·rw [List.mem_map]at n
  obtain⟨y,b,rfl⟩:=n;rw [List.mem_filter]at b;rw [List.mem_filter,List.mem_filter,List.mem_range];refine⟨⟨?_,b.2⟩,?_⟩
  ·have:∃c,cl[y.i]? =some c:=by
    cases hc:cl[y.i]? with
    |some c=>exact⟨c,rfl⟩
    |none=>
     have:=b.2;unfold dW at this;rw [dS,hc]at this;cases this
   obtain⟨c,hc⟩:=this;obtain⟨o,ho,_⟩:=j _ _ hc;exact jR ho
  ·have:=I.es y b.1 b.2
   cases t:bit (cW bs y.i) i with
   |false=>rfl
   |true=>
    have:=I.closed _ this _ t;rw [u]at this;cases this
theorem Inv.done(K:jU ops cl bs ord)(z:tr.map (·.i)=ord)(D:∀(i:Nat) c,cl[i]? =some c->∃o,ops[i]? =some o/\lE T m N ops o c)(U:ic T ops bs)(F0:FR g0 m N s0.f a0.tmps){hi:Nat->Nat}{listed:Array Bool}{a:Act}{w:World}{g:G}{A B:List Ent}{sA:St}
  (I:Inv T m N call ops cl hi bs s0 tr sn g0 a0 w0 listed a w g A B sA) (C:∀i,i<ops.size->listed.getD i false=true):Ext T g0 s0.h w0 g sn.h w/\FR g m N sn.f a.tmps/\a.defers=a0.defers:=by
 have O:B=[]:=by
  cases O:B with
  |nil=>rfl
  |cons e B'=>
   have F:=I.tr;rw [O]at F;have hE:=I.bnd e B' O;have hc:∃c,cl[e.i]? =some c:=by
    cases hc:cl[e.i]? with
    |some c=>exact⟨c,rfl⟩
    |none=>
     unfold dW at hE;rw [dS,hc]at hE;cases hE
   obtain⟨c,hc⟩:=hc;obtain⟨o,ho,_⟩:=D _ _ hc;obtain⟨x,l,S⟩:=I.inA e.i (C _ (jR ho));have:=(K.pre (A.map (·.i)) e.i (B'.map (·.i)) (by rw [<-z,F];simp)).2.1;exact(this (by rw [<-S];exact List.mem_map.2 ⟨x,l,rfl⟩)).elim
 have hs:sA=sn:=by
  have:=I.tB;rw [O]at this;cases this;rfl
 subst hs;refine⟨I.ext,⟨I.tsize,λt v L=>?_⟩,I.defers⟩;obtain⟨n1,n2⟩:=I.tA.names D;have d:∀e∈A,listed.getD e.i false=true:=by
  intro e he;obtain⟨Y,W,M⟩:=List.append_of_mem he;obtain⟨s',_,Q⟩:=dX.split (A:=Y) (B:=e ::W) (by rw [<-M];exact I.tA);obtain⟨_,_,c,_,hc,_,_⟩:=Q.head;obtain⟨o,ho,_⟩:=D _ _ hc;exact C _ (jR ho)
 by_cases hw:∃x∈A,(ops[x.i]?).bind (λo:Oper=>o.dst)=some t
 ·obtain⟨x,l,b⟩:=hw
  obtain⟨s,r,M⟩:=List.append_of_mem l;have P:rdn m sA.f t=some x.v:=by
   refine n2 s x r M t b λy hy n=>?_;obtain⟨p,Z,J⟩:∃p:Oper,ops[x.i]? =some p/\p.dst=some t:=by
    cases k:ops[x.i]? with
    |none=>rw [k]at b;cases b
    |some p=>rw [k]at b;exact⟨p,rfl,b⟩
   obtain⟨q,hq,V⟩:∃p:Oper,ops[y.i]? =some p/\p.dst=some t:=by
    cases k:ops[y.i]? with
    |none=>rw [k]at n;cases n
    |some p=>rw [k]at n;exact⟨p,rfl,n⟩
   have R:x.i≠y.i:=by
    intro h;obtain⟨r1,r2,rfl⟩:=List.append_of_mem hy;have:=(K.pre (s.map (·.i)++x.i ::r1.map (·.i)) y.i (r2.map (·.i)++B.map (·.i)) (by rw [<-z,I.tr,M];simp)).2.1;exact this (by rw [<-h];simp)
   have E:t∈d4 T ops p:=by
    unfold d4;rw [J];simp
   exact(U.names x.i y.i p q t R Z hq V E).2 J
  rw [P]at L;cases L;exact I.new x l (d x l) t b
 ·rw [n1 t λx l hd=>hw ⟨x,l,hd⟩]at L
  obtain⟨u,k1,Q⟩:=F0.2 t v L;refine⟨u,?_,Q.mono I.ext.le⟩;rw [I.old t λj hj hd=>?_]
  ·exact k1
  ·obtain⟨x,l,rfl⟩:=I.inA j hj
   exact hw ⟨x,l,hd⟩
theorem mC:∀{A0 A1 z1 z2:List Ent} {e:Ent},A0++e ::A1=z1++e ::z2->e∉z1->e∉A0->A0=z1
 |[],A1,[],z2,e,_,_,_=>rfl
 |[],A1,y ::z1,z2,e,h,h1,_=>by
  simp only [List.nil_append,List.cons_append,List.cons.injEq]at h;exact absurd (by rw [h.1];exact List.mem_cons_self) h1
 |x ::A0,A1,[],z2,e,h,_,h2=>by
  simp only [List.nil_append,List.cons_append,List.cons.injEq]at h;exact absurd (by rw [h.1];exact List.mem_cons_self) h2
 |x ::A0,A1,y ::z1,z2,e,h,h1,h2=>by
  simp only [List.cons_append,List.cons.injEq]at h;rw [h.1,mC h.2 (λk=>h1 (List.mem_cons_of_mem _ k)) λk=>h2 (List.mem_cons_of_mem _ k)]
theorem As(hT:da P T)(hk:fA P T call)(b6:gU (gh T m N ops) ops.toList=some cl)(E:ic T ops bs)(l:jU ops cl bs ord)(d:tr.map (·.i)=ord)(b2:dX call cl (qG ops cl bs) 0 s0 tr sn)
  (e5:s0.hs=[]) (b9:bR sn.cs (jP sn.hs [sn.h])) (hG:jg T g0 s0.h w0) (F0:FR g0 m N s0.f a0.tmps) {rd:Option Nat} {Q:Exit->Act->World->Prop}
  (hQ:∀g' a' w',Ext T g0 s0.h w0 g' sn.h w'->FR g' m N sn.f a'.tmps->a'.defers=a0.defers->Q .normal a' w'):∀(fuel:Nat) (listed:Array Bool) (a:Act) (w:World) (g:G) (A B:List Ent) (sA:St),
  Inv T m N call ops cl (qG ops cl bs) bs s0 tr sn g0 a0 w0 listed a w g A B sA->left ops listed<=fuel->wpAnyIn (fen rd) 0 P .any ops Q fuel listed a w:=by
 have a1:∀(i:Nat) c,cl[i]? =some c->∃o,ops[i]? =some o/\lE T m N ops o c:=by
  intro i c hc;obtain⟨M,R⟩:=mc b6;have hi:i<ops.toList.length:=by
   rw [<-M];rcases Nat.lt_or_ge i cl.length with k|k
   ·exact k
   ·rw [List.getElem?_eq_none k]at hc;cases hc
  obtain⟨b,h1,h2⟩:=R i _ (List.getElem?_eq_getElem hi);rw [hc]at h1;cases h1;exact⟨_,by rw [<-Array.getElem?_toList];exact List.getElem?_eq_getElem hi,dM h2⟩
 intro fuel
 induction fuel with
 |zero=>
  intro listed a w g A B sA I hf;have R:=vf (Nat.le_zero.1 hf);refine⟨?_,?_⟩
  ·unfold Region.ready
   rw [List.filter_eq_nil_iff];intro i hi;rw [List.mem_range]at hi;have:=R i hi;rw [Array.getD_eq_getD_getElem?,Array.getElem?_eq_getElem (by rw [I.size];exact hi)]at this;rw [Array.getD_eq_getD_getElem?,Array.getElem?_eq_getElem (by rw [I.size];exact hi)];simp only [Option.getD_some]at this ⊢;rw [this];simp
  ·obtain⟨x1,x2,x3⟩:=I.done l d a1 E F0 R
   exact hQ _ _ _ x1 x2 x3
 |succ fuel ih=>
  intro listed a w g A B sA I hf;refine⟨λhn=>?_,λi hi=>?_⟩
  ·obtain⟨x1,x2,x3⟩:=I.done l d a1 E F0 (uR E I.size hn)
   exact hQ _ _ _ x1 x2 x3
  ·obtain⟨b7,hl,o,ho,Z⟩:=uS I.size hi
   have q:∀j,bit (cW bs i) j=true->listed.getD j false=true:=by
    intro j hj;obtain⟨e,he,Y,h⟩:=E.before i o ho j hj;rcases h with rfl|h
    ·exact Z e he Y
    ·exact I.closed _ (Z e he Y) _ h
   have D:left ops (listed.setIfInBounds i true)<=fuel:=by
    have:=ye I.size b7 hl;omega
   obtain⟨e,U,rfl⟩:∃e∈tr,e.i=i:=by
    have:=l.all i b7;rw [<-d,List.mem_map]at this;exact this
   obtain⟨A0,A1,hA⟩:=List.append_of_mem U;obtain⟨s',t0,t1⟩:=dX.split (A:=A0) (B:=e ::A1) (by rw [<-hA];exact b2);obtain⟨K,d2,c,s1,hc,st,t2⟩:=t1.head;rw [<-K]at t0;rw [Nat.zero_add]at d2 st t2;have O:=I.reads E l a1 d F0 hA t0 ho hl q;obtain⟨o',c0,hp⟩:=a1 _ _ hc;rw [ho]at c0;cases c0;have b0:=hG.ext I.ext;have first:∀b∈A0,dW cl b.i=true->listed.getD b.i false=true:=λb Y e3=>q _ ((l.pre (A0.map (·.i)) e.i (A1.map (·.i)) (by rw [<-d,hA];simp)).2.2 b.i (List.mem_map.2 ⟨b,Y,rfl⟩) e3)
   have z:∀{b:Bool},cm e.s.f c.guard=some b->Region.wanted o (yielded ops a.tmps)=b:=λhg=>gf hp hg λt ht v hv=>O t (by
    obtain⟨gi,gw,h1,h2⟩:=ht;unfold d4;rw [h1];simp [h2]) v hv
   have W:∀{vs:List V} {os:List Operand},bT T o.op=some (c.op,os)->gU (opd T m) os=some c.args->evs e.s.f c.args=some vs->VRs g vs (os.map a.eval):=λh1 h2 h3=>kL b0 h2 h3 λt ht v hv=>O t (by
    unfold d4;rw [h1];refine List.mem_append_right _ (List.mem_append_left _ ?_);exact List.mem_filterMap.2 ⟨.tmp t,ht,rfl⟩) v hv
   unfold wpOpIn;simp only [ho]
   by_cases hE:dW cl e.i=true
   ·
    have c6:isE c.op=true:=by rw [<-eI hc];exact hE
    have hB:∃B',B=e ::B':=by
     have e2:e∉A:=λh=>by
      have:=I.es e h hE;rw [hl]at this;cases this
     have a4:e∈B:=by
      rw [I.tr]at U;exact(List.mem_append.1 U).resolve_left e2
     cases n:B with
     |nil=>rw [n]at a4;cases a4
     |cons b B'=>
      rw [n]at a4;rcases List.mem_cons.1 a4 with h|h
      ·exact⟨B',by rw [h]⟩
      ·have Y:=I.bnd b B' n
       obtain⟨J,L,rfl⟩:=List.append_of_mem h;have a2:tr=(A++b ::J)++e ::L:=by rw [I.tr,n];simp
       have a6:=q _ ((l.pre ((A++b ::J).map (·.i)) e.i (L.map (·.i)) (by rw [<-d,a2];simp)).2.2 b.i (List.mem_map.2 ⟨b,by simp,rfl⟩) Y);obtain⟨y,hy,a8⟩:=I.inA _ a6;have:=(l.pre (A.map (·.i)) b.i ((J++e ::L).map (·.i)) (by rw [<-d,I.tr,n];simp)).2.1;exact(this (by rw [<-a8];exact List.mem_map.2 ⟨y,hy,rfl⟩)).elim
    obtain⟨B',rfl⟩:=hB;obtain⟨F,a5,c',J,b5,a9,c8⟩:=I.tB.head;rw [hc]at b5;cases b5;have b4:∀blk,¬qe cl e blk:=by
     intro blk hm;obtain⟨c',ao,vs,mk,m1,m2,_⟩:=hm;rw [hc]at m1;cases m1;rw [m2]at c6;cases c6
    rcases a9.main with⟨h1,h2,h3,h4⟩ | ⟨vs,h1,h2,h3,h4,h5⟩
    ·rw [z (by rw [F];exact h1)]
     refine⟨λ_ _=>trivial,?_⟩;obtain⟨A',d1,d0,I'⟩:=I.write (u:=undef) E l d hE ho hl q hp.dst hc F a9 c8 a5 (by rw [h3];exact .refl I.wr) (by rw [h2];exact gG) b4;exact ih _ _ _ _ _ _ _ I' D
    ·rw [z (by rw [F];exact h1)]
     obtain⟨os,k1,k2⟩:=hp.op;refine mz hT hk I.wr b0 k1 (W k1 k2 (by rw [F];exact h2)) h3 λg' w' u x1 x2=>?_;obtain⟨A',d1,d0,I'⟩:=I.write E l d hE ho hl q hp.dst hc F a9 c8 a5 x1 x2 b4;exact ih _ _ _ _ _ _ _ I' D
   ·
    have a3:e∈A:=by
     rw [I.tr]at U;rcases List.mem_append.1 U with h|h
     ·exact h
     ·cases n:B with
      |nil=>rw [n]at h;cases h
      |cons b B'=>
       rw [n]at h;have Y:=I.bnd b B' n;rcases List.mem_cons.1 h with h|h
       ·rw [h]at hE;exact absurd Y hE
       ·obtain⟨J,L,rfl⟩:=List.append_of_mem h
        have a2:tr=(A++b ::J)++e ::L:=by rw [I.tr,n];simp
        have a6:=q _ ((l.pre ((A++b ::J).map (·.i)) e.i (L.map (·.i)) (by rw [<-d,a2];simp)).2.2 b.i (List.mem_map.2 ⟨b,by simp,rfl⟩) Y);obtain⟨y,hy,a8⟩:=I.inA _ a6;have:=(l.pre (A.map (·.i)) b.i ((J++e ::L).map (·.i)) (by rw [<-d,I.tr,n];simp)).2.1;exact(this (by rw [<-a8];exact List.mem_map.2 ⟨y,hy,rfl⟩)).elim
    rcases st.main with⟨h1,h2,h3,h4⟩ | ⟨vs,h1,h2,h3,h4,h5⟩
    ·rw [z (by rw [K];exact h1)]
     refine⟨λ_ _=>trivial,?_⟩;exact ih _ _ _ _ _ _ _ (I.same E l d a3 ho hl q hp.dst (.refl I.wr) (by rw [h2];exact gG)) D
    ·rw [z (by rw [K];exact h1)]
     obtain⟨os,k1,k2⟩:=hp.op;have hv:=W k1 k2 (by rw [K];exact h2);have jS:c.op.run call vs sA.h=some (e.v,sA.h)->o.wpIn (fen rd) 0 P a w (wpAnyIn (fen rd) 0 P .any ops Q fuel (listed.setIfInBounds e.i true)) Q:=λb8=>
      mz hT hk I.wr b0 k1 hv b8 λg' w' u x1 x2=>ih _ _ _ _ _ _ _ (I.same E l d a3 ho hl q hp.dst x1 x2) D
     have S:c.op.run call vs s'.h=some (e.v,s1.h):=h3;cases C:c.op with
     |p po=>
      rw [C]at S;obtain⟨x,k3,k4⟩:=bQ.1 (show ob (po.run vs) (λv=>some (v,s'.h))=some (e.v,s1.h)from S);refine jS ?_;rw [C];show ob (po.run vs) (λv=>some (v,sA.h))=_;rw [k3,(Prod.mk.inj (Option.some.inj k4)).1.symm];rfl
     |r ro=>
      rw [C]at S;obtain⟨x,k3,k4⟩:=bQ.1 (show ob (ro.run vs s'.h) (λv=>some (v,s'.h))=some (e.v,s1.h)from S);refine jS ?_;rw [C];show ob (ro.run vs sA.h) (λv=>some (v,sA.h))=_;have b1:(⟨ro,vs,e.v,nE cl A0,qG ops cl bs e.i⟩:Tc)∈sn.cs:=t2.cs _ (by rw [h4 ro C];exact List.mem_cons_self);have e4:=b9 _ b1;have b3:=b2.hs;rw [e5,List.append_nil,I.tr]at b3;have d6:(jP sn.hs [sn.h])[nE cl A]? =some sA.h:=by
       rw [vO,b3,List.reverse_reverse,List.filter_append,List.map_append];have M:((A.filter λe=>dW cl e.i).map λe=>e.s.h).length=nE cl A:=by simp [nE]
       rw [List.append_assoc,List.getElem?_append_right (by rw [M];exact Nat.le_refl _),M,Nat.sub_self];cases n:B with
       |nil=>
        have:=I.tB;rw [n]at this;cases this;rfl
       |cons b B'=>
        have Y:=I.bnd b B' n;have:=I.tB;rw [n]at this;obtain⟨q1,_⟩:=this.head;rw [List.filter_cons,if_pos Y,List.map_cons,q1];rfl
      have e1:nE cl A0<=nE cl A:=by
       obtain⟨z1,z2,rfl⟩:=List.append_of_mem a3;have e0:A0=z1:=by
        refine mC (A1:=A1) (z2:=z2++B) (e:=e) (by rw [<-hA,I.tr];simp) (λh=>?_) λh=>?_
        ·have:=(l.pre (z1.map (·.i)) e.i ((z2++B).map (·.i)) (by rw [<-d,I.tr];simp)).2.1
         exact this (List.mem_map.2 ⟨e,h,rfl⟩)
        ·have:=(l.pre (A0.map (·.i)) e.i (A1.map (·.i)) (by rw [<-d,hA];simp)).2.1
         exact this (List.mem_map.2 ⟨e,h,rfl⟩)
       subst e0;simp [nE,List.filter_append]
      have:=e4 (nE cl A) _ d6 e1 (J9 l d a1 I hl);simp only at this;rw [this];rfl
     |a ao=>
      rw [C]at S;obtain⟨p,k3,k4⟩:=bQ.1 (show ob (ao.run vs) (λr=>ob (s'.h.new r.1) λh'=>some (r.2 s'.h.next,h'))=some (e.v,s1.h)from S);obtain⟨h',k5,k6⟩:=bQ.1 k4;have c1:e.v=p.2 e.s.h.next:=by rw [K];exact(Prod.mk.inj (Option.some.inj k6)).1.symm
      have a7:qe cl e p.1:=⟨c,ao,vs,p.2,hc,C,by rw [K];exact h1,by rw [K];exact h2,k3,c1⟩
      rw [C]at k1;obtain⟨e6,val,g',n1,I'⟩:=I.make (ρ:=a.eval) (op:=o.op) E l d a3 ho hl q hp.dst a7 (FU hT k1 hv k3) c1;refine⟨λ_ _=>trivial,?_⟩;rw [Oper.semAt_eq _ _ _ (fQ k1),n1 w o rfl,Oper.uponIn_value];exact ih _ _ _ _ _ _ _ I' D
     |e eo=>exact absurd (by rw [eI hc,C];rfl) hE
     |call f=>exact absurd (by rw [eI hc,C];rfl) hE
     |callv=>exact absurd (by rw [eI hc,C];rfl) hE
theorem yE(hT:da P T)(W:fA P T call)(q:P.follows .mixedOrders=true){id:Nat}{l:List cj}(v:gU (gh T m N ops) ops.toList=some cl)(hd:vx T cl ops=some l){u:F}{h0:H}{s:St}(O:gS call l ⟨u,h0,[],[]⟩=some s)(j:bR s.cs (jP s.hs [s.h]))
  {g:G} {a:Act} {w:World} (r:WR T g h0 w) (R:jg T g h0 w) (L:FR g m N u a.tmps) {rd:Option Nat} {Q:Exit->Act->World->Prop}
  (hQ:∀g' a' w',Ext T g h0 w g' s.h w'->FR g' m N s.f a'.tmps->a'.defers=a.defers->Q .normal a' w'):(Code.region id ops true).wpIn (fen rd) 0 P Q a w:=by
 obtain⟨bs,ord,B,C,t⟩:=yK hd;obtain⟨tr,n,d⟩:=xh t O;refine wpIn_region_any q ?_;have J:WR T g h0 {w with drawn:=w.drawn+1}:=r.drew1;obtain⟨S,D,s',q1,U,q3,q4,K,E,Z,q8,q9,q10⟩:=vM n (g:=g) (w:={w with drawn:=w.drawn+1}) J;have A:Ext T g h0 w g h0 {w with drawn:=w.drawn+1}:=⟨g.le_refl,Nat.le_refl _,J,λ_ _ e=>⟨e,rfl⟩,Nat.le_refl _,λ_ _ _=>rfl,(λid b o z h1 h2=>by rw [h2]at h1;cases h1),λ_ _ _ _ _ _ _ e=>⟨e,rfl⟩,rfl,rfl,rfl⟩
 have c:∀i,(Array.replicate ops.size false).getD i false=false:=by
  intro i;rw [Array.getD_eq_getD_getElem?,Array.getElem?_replicate]
  split<;>rfl
 have x:nE cl S=0:=by
  unfold nE;rw [List.length_eq_zero_iff,List.filter_eq_nil_iff];intro y V;rw [K y V];decide
 have I:Inv T m N call ops cl (qG ops cl bs) bs ⟨u,h0,[],[]⟩ tr s g a w (Array.replicate ops.size false) a {w with drawn:=w.drawn+1} g S D s':=
  ⟨q1,U,by rw [x];exact q3,q4,E,A.mem E Z q8,by simp,(λi hi=>by rw [c]at hi;cases hi),(λe k hE=>by rw [K e k]at hE;cases hE),(λi hi=>by rw [c]at hi;cases hi),L.1,λ_ _=>rfl,(λe _ M=>by rw [c]at M;cases M),
   (λe k blk q _=>by
    obtain⟨z1,z2,Y⟩:=q9 e k blk q;refine⟨?_,Y,z1⟩;cases hg:g e.s.h.next with
    |none=>rfl
    |some p=>exact absurd (r.dom _ _ hg) (by have z1:h0.next<=e.s.h.next:=z1;omega)),(λe k blk q=>(q9 e k blk q).2.1),q10,rfl⟩
 refine As hT W v B C d n rfl j R L hQ ops.size _ a _ g S D s' I ?_;unfold left;refine Nat.le_trans (List.length_filter_le _ _) ?_;simp
theorem G7(hT:da P T)(hk:fA P T call)(hm:P.follows .mixedOrders=true){id:Nat}{l:List cj}(hcl:gU (gh T m N ops) ops.toList=some cl)(hd:vx T cl ops=some l){f0:F}{h0:H}{s:St}(hr:gS call l ⟨f0,h0,[],[]⟩=some s)(hchk:(Bool.rec (motive:=λ_=>Bool) (kW s.cs (jP s.hs [s.h])) true (jS l):Bool)=true)
  {g:G} {a:Act} {w:World} (r:WR T g h0 w) (hG:jg T g h0 w) (F0:FR g m N f0 a.tmps) {rd:Option Nat} {Q:Exit->Act->World->Prop}
  (hQ:∀g' a' w',Ext T g h0 w g' s.h w'->FR g' m N s.f a'.tmps->a'.defers=a.defers->Q .normal a' w'):(Code.region id ops true).wpIn (fen rd) 0 P Q a w:=
 yE hT hk hm hcl hd hr (AB hr hchk) r hG F0 hQ
end
end
section
variable [Env]
set_option linter.unusedSectionVars false
section
variable {P:Program} {T:Ty} {m N:Nat}
def nw(r:Nat):Deferred:={target:= .collected r,args:=#[]}
def eW(D:List Deferred)(g:G)(w:World)(B:Nat)(ds:List Deferred):Prop:=
 ∃rs:List Nat,ds=rs.map nw++D/\rs.Nodup/\∀r∈rs,B<=r/\r<w.heap.size/\(∀id o z,g id≠some (r,o,z))/\w.heap[r]? =some (.deferred (some []))
theorem eW.nil{D:List Deferred}{g:G}{w:World}{B:Nat}:eW D g w B D:=⟨[],rfl,List.nodup_nil,by simp⟩
theorem eW.ext{D:List Deferred}{g g':G}{h h':H}{w w':World}{B:Nat}{c:List Deferred}(x:Ext T g h w g' h' w')(k:eW D g w B c):eW D g' w' B c:=by
 obtain⟨f,h1,h2,j⟩:=k;refine⟨f,h1,h2,λr d=>?_⟩;obtain⟨m,b,a,l⟩:=j r d;refine⟨m,Nat.lt_of_lt_of_le b x.size,λid o z e=>?_,(x.keep r b a).trans l⟩;cases hg:g id with
 |some y=>rw [x.le _ _ hg]at e;cases e;exact a id o z hg
 |none=>
  rcases x.fresh id r o z e hg with h | ⟨i,o',z',h⟩
  ·omega
  ·exact a i o' z' h
theorem eW.push{D:List Deferred}{g g':G}{h h':H}{w w':World}{B r:Nat}{d:List Deferred}(x:Ext T g h w g' h' w')(k:eW D g w B d)(h1:B<=r)(h2:w.heap.size<=r)(i:r<w'.heap.size)(m:∀id o z,g' id≠some (r,o,z))(q:w'.heap[r]? =some (.deferred (some []))):eW D g' w' B (nw r ::d):=by
 obtain⟨c,p,l,q3⟩:=k;have k':∀s∈c,B<=s/\s<w'.heap.size/\(∀id o z,g' id≠some (s,o,z))/\w'.heap[s]? =some (.deferred (some [])):=by
  intro s hs;have one:eW [] g w B [nw s]:=⟨[s],rfl,by simp,λy f=>by rw [List.mem_singleton]at f;subst f;exact q3 y hs⟩
  obtain⟨a,b,t,j⟩:=one.ext x;rw [List.append_nil]at b;cases a with
  |nil=>cases b
  |cons y a=>
   have:s=y:=by
    have e:=(List.cons.inj b).1
    simpa [nw]using e
   subst this;exact j s List.mem_cons_self
 refine⟨r ::c,by rw [p];rfl,?_,λs hs=>?_⟩
 ·rw [List.nodup_cons]
  exact⟨λn=>by have:=(q3 _ n).2.1;omega,l⟩
 ·rcases List.mem_cons.1 hs with h|h
  ·subst h
   exact⟨h1,i,m,q⟩
  ·exact k' s h
def oS:X->Exit->Prop
 |.norm,.normal=>True
 |.exit i,.exit j=>i=j
 |.ret,.ret=>True
 |_,_=>False
def Out(D:List Deferred)(T:Ty)(m N:Nat)(rd:Option Nat)(B:Nat)(g:G)(h:H)(w:World)(x:X)(f':F)(h':H)(e:Exit)(a':Act)(w':World):Prop:=
 ∃g',Ext T g h w g' h' w'/\FR g' m N f' a'.tmps/\(rd=none->eW D g' w' B a'.defers)/\oS x e
theorem FR.clr{g:G}{f:F}{tmps:Array Value}(h:FR g m N f tmps):FR g m N (clr f) tmps:=by
 refine⟨h.1,λt v e=>h.2 t v ?_⟩;unfold rdn at e ⊢
 split at e
 ·rename_i a
  rw [if_pos a];exact e
 ·cases e
theorem kO(a b:Code):eu T m N (.seq a b)=ob (eu T m N a) λa=>ob (eu T m N b) λb=>some (.seq a b):=by rw [eu]
theorem kP(id:Nat)(ops:Array Oper):eu T m N (.region id ops false)=uZ (ob (gU (gh T m N ops) ops.toList) λl=>some (.reg l)):=by rw [eu]
theorem jr(id:Nat)(ops:Array Oper):eu T m N (.region id ops true)=uZ (ob (gU (gh T m N ops) ops.toList) λl=>ob (vx T l ops) λl=>some (.regD l)):=by rw [eu]
theorem eA{o:Option cF}{c:cF}(h:uZ o=some c):o=some c\/c=rO:=by
 cases o with
 |none=>cases h;exact .inr rfl
 |some x=>cases h;exact .inl rfl
theorem tI(call:cN)(rd:Bool)(n:Nat)(f:F)(h:H):exec call rd n rO f h=none:=rfl
theorem jt(o:Operand)(a b:Code):eu T m N (.cond o a b)=ob (opd T m o) λo=>ob (eu T m N a) λa=>ob (eu T m N b) λb=>some (.cond o a b):=by rw [eu]
theorem iO(id:Nat)(c:Code):eu T m N (.block id c)=ob (eu T m N c) λc=>some (.block id c):=by rw [eu]
theorem js(c:Code):eu T m N (.loop c)=ob (eu T m N c) λc=>some (.loop c):=by rw [eu]
theorem iN(f:Operand)(c:Array Tmp)(a b:Code):eu T m N (.rangeFunc f c a b)=ob (opd T m f) λf=>ob (gU (λt=>dst m N (some t)) c.toList) λc=>ob (eu T m N a) λa=>ob (eu T m N b) λb=>some (.rangeF f c a b):=by rw [eu]
theorem E6(call:cN)(rd:Bool)(n:Nat)(ops:List cj)(f:F)(h:H):exec call rd n (.reg ops) f h=ob (sK call ops f h) λr=>some (.norm,clr r.1,r.2):=rfl
theorem C6(call:cN)(rd:Bool)(n:Nat)(ops:List cj)(f:F)(h:H):exec call rd n (.regD ops) f h=ob (gS call ops ⟨f,h,[],[]⟩) λs=>oif (Bool.rec (motive:=λ_=>Bool) (kW s.cs (jP s.hs [s.h])) true (jS ops)) (some (.norm,clr s.f,s.h)):=rfl
theorem E5(call:cN)(rd:Bool)(n:Nat)(a b:cF)(f:F)(h:H):exec call rd n (.seq a b) f h=xi (exec call rd n a f h) (exec call rd n b):=rfl
theorem C8(call:cN)(rd:Bool)(n:Nat)(o:Opd)(a b:cF)(f:F)(h:H):exec call rd n (.cond o a b) f h=ob (o.ev f) λv=>match v with
   |.bool c=>Bool.rec (motive:=λ_=>Res) (exec call rd n b f h) (exec call rd n a f h) c
   |_=>none:=rfl
theorem Ah(call:cN)(rd:Bool)(n id:Nat)(c:cF)(f:F)(h:H):exec call rd n (.block id c) f h=AH id (exec call rd n c f h):=rfl
theorem C7(call:cN)(rd:Bool)(n:Nat)(c:cF)(f:F)(h:H):exec call rd n (.loop c) f h=yc (exec call rd n c) n f h:=rfl
theorem Ag(call:cN)(rd:Bool)(n:Nat)(g:Opd)(ps:List Dst)(as bd:cF)(f:F)(h:H):exec call rd n (.rangeF g ps as bd) f h=(oif (!rd) <|
   ob (g.ev f) λgv=>oif (Ab gv) <| ob (h.new (.loop 0 f ps as bd none)) λh1=>ob (nV call [gv,.yld h.next] h1) λr=>
   r.2.loopOf h.next λst _ _ _ _ j=>oif (!Nat.beq st 1) (some (Option.rec (motive:=λ_=>X) .norm id j,f,r.2.set h.next .dead))):=rfl
theorem zL(body:F->H->Res)(n:Nat)(f:F)(h:H):yc body (n+1) f h=xi (body f h) (yc body n):=rfl
theorem sw{o:Res}{k:F->H->Res}{r:X×F×H}(h:xi o k=some r):(∃f h',o=some (.norm,f,h')/\k f h'=some r)\/(o=some r/\r.1≠.norm):=by
 obtain⟨q,h1,h2⟩:=bQ.1 (show ob o _=some r from h);obtain⟨x,f,h'⟩:=q;cases x with
 |norm=>exact .inl ⟨f,h',h1,h2⟩
 |exit id=>have h2:o=some r:=h2;rw [h1]at h2;cases h2;exact .inr ⟨h1,λe=>by cases e⟩
 |ret=>have h2:o=some r:=h2;rw [h1]at h2;cases h2;exact .inr ⟨h1,λe=>by cases e⟩
theorem yO{id:Nat}{o:Res}{r:X×F×H}(h:AH id o=some r):∃x f h',o=some (x,f,h')/\r=(match x with | .exit j=>if j=id then .norm else .exit j|x=>x,f,h'):=by
 obtain⟨q,h1,h2⟩:=bQ.1 (show ob o _=some r from h);obtain⟨x,f,h'⟩:=q;cases x with
 |norm=>have h2:o=some r:=h2;rw [h1]at h2;cases h2;exact⟨_,_,_,h1,rfl⟩
 |ret=>have h2:o=some r:=h2;rw [h1]at h2;cases h2;exact⟨_,_,_,h1,rfl⟩
 |exit j=>
  have h2:(Bool.rec (motive:=λ_=>Res) o (some (.norm,f,h')) (Nat.beq j id):Res)=some r:=h2;rw [cO]at h2;refine⟨_,_,_,h1,?_⟩
  split at h2
  ·rename_i a
   cases h2;have:j=id:=by simpa using a
   simp [this]
  ·rename_i a
   rw [h1]at h2;cases h2;have:¬j=id:=by simpa using a
   simp [this]
theorem qg{F:Fence}{n:Nat}{c:Code}{Q:Exit->Act->World->Prop}(I:Nat->Act->World->Prop)(round:∀k a w,I k a w->c.wpIn F n P (Exit.then (λa' w'=>∃k',k'<k/\I k' a' w') Q) a w){k:Nat}{a:Act}{w:World}(u:I k a w):(Code.loop c).wpIn F n P Q a w:=by
 intro b kk cs r p m;have key:∀j a w,I j a w->
   ∃e a' w',Q e a' w'/\ArrivesIn (Machine.fenced P F) P (lone (b.atR a (.code c :: .inLoop c ::kk)) cs w) b kk cs e a' w':=by
  intro j
  induction j using Nat.strongRecOn with
  |_ j ih=>
   intro a w v;obtain⟨e,i,h,f,d⟩:=round j a w v b (.inLoop c ::kk) cs r p m;cases e with
   |normal=>
    obtain⟨k',o,q⟩:=f;obtain⟨y,z,t,s,g⟩:=ih k' o i h q;exact⟨y,z,t,s,.of_steps (StepsIn.trans d (.one (fenced_calm p m rfl) stepR_inLoop)) g⟩
   |exit id=>exact⟨_,i,h,f,.pass (x:= .inLoop c) rfl (λ_ _=>.inl (by simp)) d⟩
   |goto l=>exact⟨_,i,h,f,.pass (x:= .inLoop c) rfl (λ_ _=>.inl (by simp)) d⟩
   |ret=>exact⟨_,i,h,f,.pass (x:= .inLoop c) rfl (λ_ _=>.inl (by simp)) d⟩
   |panic ch=>exact⟨_,i,h,f,.pass (x:= .inLoop c) rfl (λ_ _=>.inl (by simp)) d⟩
   |outgrown=>exact⟨_,i,h,f,.pass (x:= .inLoop c) rfl (λ_ _=>.inl (by simp)) d⟩
 obtain⟨e,a',w',f,d⟩:=key _ a w u;exact⟨e,a',w',f,.of_steps (.one (fenced_calm p m rfl) stepR_loop) d⟩
theorem Ext.alloc{g:G}{h:H}{w:World}(r:WR T g h w)(o:Obj):Ext T g h w g h (w.alloc o):=by
 have d:WR T g h (w.alloc o):=by
  refine⟨r.bound,r.top,r.dom,λid b o' z e=>by rw [World.size_alloc];have:=r.lt _ _ _ _ e;omega,λid x b a c=>?_,r.mates,r.kids,r.ext⟩;obtain⟨i,o',z⟩:=x;exact BR.move a (eQ (r.lt _ _ _ _ a)) (r.blk _ _ _ a c)
 exact⟨g.le_refl,Nat.le_refl _,d,λ_ _ e=>⟨e,rfl⟩,by rw [World.size_alloc];omega,λb f _=>eQ f,(λid b o z h1 h2=>by rw [h2]at h1;cases h1),λid b o' z n cs a c=>⟨c,eQ (r.lt _ _ _ _ a)⟩,rfl,rfl,rfl⟩
theorem ll{β:Type}{h:H}{id:Nat}{k:Nat->F->List Dst->cF->cF->Option X->Option β}{r:β}(e:h.loopOf id k=some r):∃st f ps as bd j,h.blk id=some (.loop st f ps as bd j)/\k st f ps as bd j=some r:=by
 obtain⟨b,h1,h2⟩:=bQ.1 (show ob (h.blk id) _=some r from e);cases b with
 |loop st f ps as bd j=>exact⟨st,f,ps,as,bd,j,h1,h2⟩
 |_=>cases h2
theorem tG{g:G}{h:H}{w:World}(r:WR T g h w){id b o z:Nat}{st:Nat}{f:F}{ps:List Dst}{as bd:cF}{j:Option X}{k':Blk}{l l':Loop}(hg:g id=some (b,o,z))(hb:h.blk id=some (.loop st f ps as bd j))(_hw:w.heap[b]? =some (.loop l))(hk':k'.kin=none)
  (hr:BR T g (w.putObj b (.loop l')) id k'):Ext T g h w g (h.set id k') (w.putObj b (.loop l')):=
 Ext.upd r hg hb rfl rfl hk' (λ_ _ h=>by cases h) (λi hi=>World.putObj_heap_other hi) World.putObj_size rfl rfl rfl hr
end
end
end Ev
end Go.Proofs.YtdfphfdnoobikaaGreatDoor
