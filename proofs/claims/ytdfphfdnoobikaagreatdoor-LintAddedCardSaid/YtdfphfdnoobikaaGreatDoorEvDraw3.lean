/-
  A region that draws its order:whatever the order,what the chosen order has computed.
-/
import Derived.Test.YtdfphfdnoobikaaGreatDoorEvOps
namespace Go.Proofs.YtdfphfdnoobikaaGreatDoor
namespace Ev
section
variable [Env]
set_option linter.unusedSectionVars false
section
variable {P:Program} {T:Ty} {m N:Nat}
def nQ(cl:List bS)(e:Ent)(blk:Blk):Prop:=
 ∃c ao vs mk,cl[e.i]? =some c/\c.op= .a ao/\bX e.s.f c.guard=some true/\evs e.s.f c.args=some vs/\ao.run vs=some (blk,mk)/\e.v=mk e.s.h.next
theorem iT{l:List V}{blk:Blk}(h:dv l=some blk):blk.kin=some (none,false):=by
 obtain⟨_,h2⟩:=bK.1 h;obtain⟨_,h4⟩:=bK.1 h2;cases h4;rfl
theorem Eu{ao:AOp}{vs:List V}{blk:Blk}{mk:Nat->V}(h:ao.run vs=some (blk,mk)):blk.kin=none\/blk.kin=some (none,false):=by
 cases ao with
 |alloc cs=>
  cases vs with
  |nil=>
   obtain⟨b,k1,k2⟩:=bE.1 (show ob (dv cs) (λb=>some (b,λi=>V.ptr i 0))=some (blk,mk)from h);cases k2;exact .inr (iT k1)
  |cons=>cases h
 |box=>
  cases vs with
  |nil=>cases h
  |cons x vs=>cases vs with
   |nil=>
    obtain⟨b,k1,k2⟩:=bE.1 (show ob (dv (cellsOf x)) (λb=>some (b,λi=>V.ptr i 0))=some (blk,mk)from h);cases k2;exact .inr (iT k1)
   |cons=>cases h
 |bslice z ln es ps=>
  obtain⟨cs,k1,k2⟩:=bE.1 (show ob (jo ps vs (jy z ln)) (λcs=>ob (dv cs) λb=>some (b,λi=>V.sl i 0 ln ln true es))=some (blk,mk)from h);obtain⟨b,k3,k4⟩:=bE.1 k2;cases k4;exact .inr (iT k3)
 |mkm r=>
  cases r with
  |false=>cases vs with
   |nil=>cases h;exact .inl rfl
   |cons=>cases h
  |true=>cases vs with
   |nil=>cases h
   |cons x vs=>cases vs with
    |nil=>cases x<;>cases h;exact .inl rfl
    |cons=>cases x<;>cases h
 |mks z bytes=>
  cases vs with
  |nil=>cases h
  |cons x vs=>cases vs with
   |nil=>cases x<;>first|(cases h;done)|(rename_i k _;cases k<;>cases h)
   |cons y vs=>cases vs with
    |cons=>cases x<;>first|(cases h;done)|(rename_i k _;cases k<;>first|(cases h;done)|(cases y<;>first|(cases h;done)|(rename_i k _;cases k<;>cases h)))
    |nil=>
     cases x<;>try (cases h;done)
     rename_i k1 n1
     cases k1<;>try (cases h;done)
     cases y<;>try (cases h;done)
     rename_i k2 n2
     cases k2<;>try (cases h;done)
     cases n1<;>try (cases h;done)
     cases n2<;>try (cases h;done)
     rename_i l' c'
     obtain⟨q1,q2⟩:=bK.1 (show oif (Nat.ble l' c') (oif (Nat.blt (Nat.mul c' bytes) 1099511627776) (oif (Nat.blt c' 1099511627776) (ob (dv (jy z c')) λb=>some (b,λi=>V.sl i 0 l' c' true (bY z)))))=some (blk,mk)from h);obtain⟨q3,q4⟩:=bK.1 q2;obtain⟨q5,q6⟩:=bK.1 q4;obtain⟨b,q7,q8⟩:=bE.1 q6;cases q8;exact .inr (iT q7)
 |rangeS=>
  cases vs with
  |nil=>cases h
  |cons x vs=>cases vs with
   |nil=>cases x<;>cases h;exact .inl rfl
   |cons=>cases x<;>cases h
theorem Ext.mem{g0 g:G}{h0 h h':H}{w0 w:World}(x:Ext T g0 h0 w0 g h w)(r:WR T g h' w)(hn:h.next<=h'.next)(hb:∀id,id<h.next->h'.blk id=h.blk id):Ext T g0 h0 w0 g h' w:=by
 refine⟨x.le,Nat.le_trans x.next hn,r,λid hi e=>?_,x.size,x.keep,x.fresh,λid b o z n cs e1 e2=>?_,x.os,x.tape,x.output⟩
 ·obtain⟨k1,k2⟩:=x.un id hi e
  exact⟨k1,(hb id (Nat.lt_of_lt_of_le hi x.next)).trans k2⟩
 ·obtain⟨k1,k2⟩:=x.ro id b o z n cs e1 e2
  exact⟨(hb id (x.wr.top _ _ k1)).trans k1,k2⟩
theorem ti{call:cB}{cl:List bS}{hi:Nat->Nat}:∀{B:List Ent} {k:Nat} {s sn:St},dC call cl hi k s B sn->∀{g:G} {w:World},WR T g s.h w->∃S B' s',B=S++B'/\dC call cl hi k s S s'/\dC call cl hi k s' B' sn/\
  (∀e B'',B'=e ::B''->dB cl e.i=true)/\(∀e∈S,dB cl e.i=false)/\WR T g s'.h w/\s.h.next<=s'.h.next/\(∀id,id<s.h.next->s'.h.blk id=s.h.blk id)/\
  (∀e∈S,∀blk,nQ cl e blk->s.h.next<=e.s.h.next/\e.s.h.next<s'.h.next/\s'.h.blk e.s.h.next=some blk)/\
  (∀e∈S,∀e'∈S,∀b b',nQ cl e b->nQ cl e' b'->e.s.h.next=e'.s.h.next->e=e')
 |[],k,s,sn,h,g,w,r=>by
  cases h;exact⟨[],[],s,rfl,.nil,.nil,by simp,by simp,r,Nat.le_refl _,λ_ _=>rfl,by simp,by simp⟩
 |e ::B,k,s,sn,h,g,w,r=>by
  obtain⟨rfl,rfl,c,s1,hc,st,t⟩:=h.head;have hEc:=dW hc
  by_cases hE:isE c.op=true
  ·refine⟨[],e ::B,e.s,rfl,.nil,h,λe' B'' he=>?_,by simp,r,Nat.le_refl _,λ_ _=>rfl,by simp,by simp⟩
   cases he;rw [hEc];exact hE
  ·rw [if_neg hE]at t
   have hmem:(s1.h=e.s.h/\∀blk,¬nQ cl e blk)\/∃blk,e.s.h.new blk=some s1.h/\(blk.kin=none\/blk.kin=some (none,false))/\∀blk',nQ cl e blk'->blk'=blk:=by
    rcases st.main with⟨h1,h2,h3,h4⟩ | ⟨vs,h1,h2,h3,h4,h5⟩
    ·refine .inl ⟨h3,λblk hm=>?_⟩
     obtain⟨c',ao,vs',mk,m1,m2,m3,_⟩:=hm;rw [hc]at m1;cases m1;have h1:bX e.s.f c.guard=some false:=h1;rw [h1]at m3;cases m3
    ·have hrun:c.op.run call vs e.s.h=some (e.v,s1.h):=h3
     have hev:evs e.s.f c.args=some vs:=h2;have other:(∀ao,c.op≠.a ao)->∀blk,¬nQ cl e blk:=by
      intro hn blk hm;obtain⟨c',ao,vs',mk,m1,m2,_⟩:=hm;rw [hc]at m1;cases m1;exact hn ao m2
     cases hop:c.op with
     |p o=>
      rw [hop]at hrun;obtain⟨u,k1,k2⟩:=bE.1 (show ob (o.run vs) (λv=>some (v,e.s.h))=some (e.v,s1.h)from hrun);exact .inl ⟨(Prod.mk.inj (Option.some.inj k2)).2.symm,other λao he=>by rw [hop]at he;cases he⟩
     |r o=>
      rw [hop]at hrun;obtain⟨u,k1,k2⟩:=bE.1 (show ob (o.run vs e.s.h) (λv=>some (v,e.s.h))=some (e.v,s1.h)from hrun);exact .inl ⟨(Prod.mk.inj (Option.some.inj k2)).2.symm,other λao he=>by rw [hop]at he;cases he⟩
     |a ao=>
      rw [hop]at hrun;obtain⟨p,k1,k2⟩:=bE.1 (show ob (ao.run vs) (λr=>ob (e.s.h.new r.1) λh'=>some (r.2 e.s.h.next,h'))=some (e.v,s1.h)from hrun);obtain⟨h',k3,k4⟩:=bE.1 k2;have k5:h'=s1.h:=(Prod.mk.inj (Option.some.inj k4)).2;refine .inr ⟨p.1,k5▸k3,Eu (blk:=p.1) (mk:=p.2) k1,λblk' hm=>?_⟩;obtain⟨c',ao',vs',mk,m1,m2,m3,m4,m5,_⟩:=hm;rw [hc]at m1;cases m1;rw [hop]at m2;cases m2;rw [hev]at m4;cases m4;rw [k1]at m5;have:=Option.some.inj m5;rw [this]
     |e o=>rw [hop]at hE;exact absurd rfl hE
     |call f=>rw [hop]at hE;exact absurd rfl hE
     |callv=>rw [hop]at hE;exact absurd rfl hE
   rcases hmem with⟨hs,hnm⟩ | ⟨blk,hnew,hkin,hone⟩
   ·obtain⟨S,B',s',q1,q2,q3,q4,q5,q6,q7,q8,q9,q10⟩:=ti t (g:=g) (w:=w) (by rw [hs];exact r)
    rw [hs]at q7 q8 q9;refine⟨e ::S,B',s',by rw [q1];rfl,dC.cons hc st (by rw [if_neg hE];exact q2),q3,q4,λx hx=>?_,q6,q7,q8,λx hx blk hm=>?_,λx hx y hy b b' hm hm' he=>?_⟩
    ·cases hx with
     |head=>rw [hEc];simpa using hE
     |tail _ hx=>exact q5 x hx
    ·cases hx with
     |head=>exact absurd hm (hnm blk)
     |tail _ hx=>exact q9 x hx blk hm
    ·cases hx with
     |head=>exact absurd hm (hnm b)
     |tail _ hx=>
      cases hy with
      |head=>exact absurd hm' (hnm b')
      |tail _ hy=>exact q10 x hx y hy b b' hm hm' he
   ·obtain⟨r1,n1,n2,n3⟩:=r.add hnew hkin
    obtain⟨S,B',s',q1,q2,q3,q4,q5,q6,q7,q8,q9,q10⟩:=ti t (g:=g) (w:=w) r1;have hown:s'.h.blk e.s.h.next=some blk:=by rw [q8 _ (by omega),n2,if_pos rfl]
    refine⟨e ::S,B',s',by rw [q1];rfl,dC.cons hc st (by rw [if_neg hE];exact q2),q3,q4,λx hx=>?_,q6,by omega,λid hid=>?_,λx hx blk' hm=>?_,λx hx y hy b b' hm hm' he=>?_⟩
    ·cases hx with
     |head=>rw [hEc];simpa using hE
     |tail _ hx=>exact q5 x hx
    ·rw [q8 id (by omega),n2,if_neg (by omega)]
    ·cases hx with
     |head=>
      rw [hone blk' hm];exact⟨Nat.le_refl _,by omega,hown⟩
     |tail _ hx=>
      obtain⟨z1,z2,z3⟩:=q9 x hx blk' hm;exact⟨by omega,z2,z3⟩
    ·cases hx with
     |head=>
      cases hy with
      |head=>rfl
      |tail _ hy=>
       obtain⟨z1,_,_⟩:=q9 y hy b' hm';omega
     |tail _ hx=>
      cases hy with
      |head=>
       obtain⟨z1,_,_⟩:=q9 x hx b hm;omega
      |tail _ hy=>exact q10 x hx y hy b b' hm hm' he
end
end
section
variable [Env]
set_option linter.unusedSectionVars false
section
variable {P:Program} {T:Ty} {m N:Nat}
structure Inv(T:Ty)(m N:Nat)(call:cB)(ops:Array Oper)(cl:List bS)(hi:Nat->Nat)(bs:List Nat)(s0:St)(tr:List Ent)(sn:St)(g0:G)(a0:Act)(w0:World)
  (listed:Array Bool) (a:Act) (w:World) (g:G) (A B:List Ent) (sA:St):Prop where
 tr:tr=A++B
 tA:dC call cl hi 0 s0 A sA
 tB:dC call cl hi (nE cl A) sA B sn
 bnd:∀e B',B=e ::B'->dB cl e.i=true
 wr:WR T g sA.h w
 ext:Ext T g0 s0.h w0 g sA.h w
 size:listed.size=ops.size
 inA:∀i,listed.getD i false=true->∃e∈A,e.i=i
 es:∀e∈A,dB cl e.i=true->listed.getD e.i false=true
 closed:∀i,listed.getD i false=true->∀j,bit (cH bs i) j=true->listed.getD j false=true
 tsize:a.tmps.size=N
 old:∀t,(∀i,listed.getD i false=true->(ops[i]?).bind (·.dst)≠some t)->a.tmps[t]? =a0.tmps[t]?
 new:∀e∈A,listed.getD e.i false=true->∀t,(ops[e.i]?).bind (·.dst)=some t->∃u,a.tmps[t]? =some u/\VR g e.v u
 made:∀e∈A,∀blk,nQ cl e blk->listed.getD e.i false=false->g e.s.h.next=none/\sA.h.blk e.s.h.next=some blk/\s0.h.next<=e.s.h.next
 ids:∀e∈A,∀blk,nQ cl e blk->e.s.h.next<sA.h.next
 dist:∀e∈A,∀e'∈A,∀b b',nQ cl e b->nQ cl e' b'->e.s.h.next=e'.s.h.next->e=e'
 defers:a.defers=a0.defers
theorem cY(l:Array Bool)(i j:Nat)(h:i<l.size):(l.setIfInBounds i true).getD j false=if j=i then true else l.getD j false:=by
 rw [Array.getD_eq_getD_getElem?,Array.getD_eq_getD_getElem?,Array.getElem?_setIfInBounds]
 by_cases e:i=j
 ·subst e
  simp [h]
 ·rw [if_neg e,if_neg (λh=>e h.symm)]
theorem sb{ops:Array Oper}{listed:Array Bool}{i:Nat}(hs:listed.size=ops.size)(h:i∈Region.ready .any ops listed):i<ops.size/\listed.getD i false=false/\∃o,ops[i]? =some o/\∀e∈o.after.toList,ig e=true->listed.getD e.on false=true:=by
 unfold Region.ready at h;rw [List.mem_filter,List.mem_range]at h;obtain⟨h1,h2⟩:=h;rw [Bool.and_eq_true]at h2;have ho:ops[i]? =some ops[i]:=Array.getElem?_eq_getElem h1;refine⟨h1,?_,ops[i],ho,λe he hb=>?_⟩
 ·have:=h2.1
  rw [Array.getD_eq_getD_getElem?,Array.getElem?_eq_getElem (by omega)]at this ⊢
  simpa using this
 ·have:=h2.2
  rw [ho]at this;simp only [Option.map_some,Option.getD_some,Array.all_eq_true_iff_forall_mem]at this;have k:=this e (by simpa using he);rw [wg,hb]at k
  simpa using k
theorem sa{ops:Array Oper}{bs:List Nat}{listed:Array Bool}(hst:fR T ops bs)(hs:listed.size=ops.size)(h:Region.ready .any ops listed=[]):∀i,i<ops.size->listed.getD i false=true:=by
 intro i
 induction i using Nat.strongRecOn with
 |_ i ih=>
  intro hi;cases hl:listed.getD i false with
  |true=>rfl
  |false=>
   have ho:ops[i]? =some ops[i]:=Array.getElem?_eq_getElem hi;have:i∈Region.ready .any ops listed:=by
    unfold Region.ready;rw [List.mem_filter,List.mem_range];refine⟨hi,?_⟩;rw [Bool.and_eq_true];refine⟨?_,?_⟩
    ·rw [Array.getD_eq_getD_getElem?,Array.getElem?_eq_getElem (by omega)]at hl ⊢
     simpa using hl
    ·rw [ho]
     simp only [Option.map_some,Option.getD_some,Array.all_eq_true_iff_forall_mem];intro e he;rw [wg];cases hb:ig e with
     |false=>rfl
     |true=>
      have hlt:=hst.back i _ ho e (by simpa using he) hb
      simpa using ih e.on hlt (by omega)
   rw [h]at this;cases this
def left(ops:Array Oper)(listed:Array Bool):Nat:=((List.range ops.size).filter λi=>!listed.getD i false).length
theorem vq{ops:Array Oper}{listed:Array Bool}{i:Nat}(hs:listed.size=ops.size)(hi:i<ops.size)(hl:listed.getD i false=false):left ops (listed.setIfInBounds i true)+1<=left ops listed:=by
 unfold left;have h1:(((List.range ops.size).filter λj=>!(listed.setIfInBounds i true).getD j false).length+1)=(i ::((List.range ops.size).filter λj=>!(listed.setIfInBounds i true).getD j false)).length:=rfl;rw [h1];refine pI ?_ λx hx=>?_
 ·rw [List.nodup_cons]
  refine⟨λh=>?_,List.nodup_range.filter _⟩;rw [List.mem_filter,cY _ _ _ (by omega)]at h;simp at h
 ·rw [List.mem_filter,List.mem_range]
  cases hx with
  |head=>exact⟨hi,by simp [hl]⟩
  |tail _ hx=>
   have hx:x∈(List.range ops.size).filter λj=>!(listed.setIfInBounds i true).getD j false:=hx;rw [List.mem_filter,List.mem_range,cY _ _ _ (by omega)]at hx;obtain⟨h2,h3⟩:=hx;refine⟨h2,?_⟩
   split at h3
   ·cases h3
   ·exact h3
theorem sw{ops:Array Oper}{listed:Array Bool}(h:left ops listed=0):∀i,i<ops.size->listed.getD i false=true:=by
 intro i hi;have h:=List.eq_nil_of_length_eq_zero h;cases hl:listed.getD i false with
 |true=>rfl
 |false=>
  have:i∈(List.range ops.size).filter λi=>!listed.getD i false:=by
   rw [List.mem_filter,List.mem_range];exact⟨hi,by rw [hl];rfl⟩
  rw [h]at this;cases this
section
variable {call:cB} {ops:Array Oper} {cl:List bS} {hi:Nat->Nat} {bs ord:List Nat} {s0 sn:St} {tr:List Ent} {g0:G} {a0:Act} {w0:World} {listed:Array Bool} {a:Act} {w:World} {g:G} {A B:List Ent} {sA:St}
theorem Inv.tmps(hst:fR T ops bs)(I:Inv T m N call ops cl hi bs s0 tr sn g0 a0 w0 listed a w g A B sA){i:Nat}{o:Oper}(ho:ops[i]? =some o){d:Dst}(hd:dst m N o.dst=some d){u:Value}{g':G}(hg:g.le g'):
  (∀t,(∀j,(listed.setIfInBounds i true).getD j false=true->(ops[j]?).bind (·.dst)≠some t)->(a.put o.dst u).tmps[t]? =a0.tmps[t]?)/\
  (∀e∈A,(listed.setIfInBounds i true).getD e.i false=true->e.i≠i->∀t,(ops[e.i]?).bind (·.dst)=some t->∃x,(a.put o.dst u).tmps[t]? =some x/\VR g' e.v x)/\
  (∀t,o.dst=some t->(a.put o.dst u).tmps[t]? =some u):=by
 have hi:i<listed.size:=by
  rw [I.size];rcases Nat.lt_or_ge i ops.size with k|k
  ·exact k
  ·rw [Array.getElem?_eq_none k]at ho;cases ho
 refine⟨λt ht=>?_,λe he hle hne t hdt=>?_,λt hdt=>?_⟩
 ·rw [jd,if_neg]
  ·refine I.old t λj hj=>ht j ?_
   rw [cY _ _ _ hi]
   split
   ·rfl
   ·exact hj
  ·intro hx
   have:=ht i (by rw [cY _ _ _ hi,if_pos rfl]);rw [ho]at this;exact this hx.1
 ·rw [cY _ _ _ hi,if_neg hne]at hle
  obtain⟨x,k1,k2⟩:=I.new e he hle t hdt;refine⟨x,?_,k2.mono hg⟩;rw [jd,if_neg]
  ·exact k1
  ·intro hx
   obtain⟨p,hp,hpd⟩:∃p,ops[e.i]? =some p/\p.dst=some t:=by
    cases hpp:ops[e.i]? with
    |none=>rw [hpp]at hdt;cases hdt
    |some p=>rw [hpp]at hdt;exact⟨p,rfl,hdt⟩
   have hmem:t∈dF T ops o:=by
    unfold dF;rw [hx.1];simp
   exact(hst.names i e.i o p t (λh=>hne h.symm) ho hp hpd hmem).2 hx.1
 ·rw [jd,if_pos]
  refine⟨hdt,?_⟩;rw [I.tsize];rw [hdt]at hd;exact xR hd
theorem ey(hor:iP ops cl bs ord)(hmap:tr.map (·.i)=ord){x y:Ent}(hx:x∈tr)(hy:y∈tr)(h:x.i=y.i):x=y:=by
 obtain⟨s1,s2,e1⟩:=List.append_of_mem hx;rw [e1]at hy;have ho:ord=s1.map (·.i)++x.i ::s2.map (·.i):=by rw [<-hmap,e1];simp
 rcases List.mem_append.1 hy with k|k
 ·have:=(hor.pre _ _ _ ho).2.1
  rw [List.mem_map]at this;exact(this ⟨y,k,h.symm⟩).elim
 ·rcases List.mem_cons.1 k with k|k
  ·exact k.symm
  ·obtain⟨z1,z2,rfl⟩:=List.append_of_mem k
   have:=(hor.pre (s1.map (·.i)++x.i ::z1.map (·.i)) y.i (z2.map (·.i)) (by rw [ho];simp)).2.1;exact(this (by rw [h];simp)).elim
theorem Inv.reads(hst:fR T ops bs)(hor:iP ops cl bs ord)(hcl:∀(i:Nat) c,cl[i]? =some c->∃o,ops[i]? =some o/\jK T m N ops o c)(hmap:tr.map (·.i)=ord)(F0:FR g0 m N s0.f a0.tmps)
  (I:Inv T m N call ops cl hi bs s0 tr sn g0 a0 w0 listed a w g A B sA) {e:Ent} {A0 A1:List Ent} (hA:tr=A0++e ::A1) (t0:dC call cl hi 0 s0 A0 e.s) {o:Oper} (ho:ops[e.i]? =some o)
  (hl:listed.getD e.i false=false) (hbef:∀j,bit (cH bs e.i) j=true->listed.getD j false=true):
  ∀t∈dF T ops o,∀v,rdn m e.s.f t=some v->∃u,a.tmps[t]? =some u/\VR g v u:=by
 intro t ht v hv;have hord:ord=(A0.map (·.i))++e.i ::(A1.map (·.i)):=by rw [<-hmap,hA];simp
 obtain⟨p1,p2,p3⟩:=hor.pre _ _ _ hord;obtain⟨n1,n2⟩:=t0.names hcl;have dstOf:∀j:Nat,(ops[j]?).bind (λx:Oper=>x.dst)=some t->∃p:Oper,ops[j]? =some p/\p.dst=some t:=by
  intro j hj;cases hpp:ops[j]? with
  |none=>rw [hpp]at hj;cases hj
  |some p=>rw [hpp]at hj;exact⟨p,rfl,hj⟩
 have notBehind:∀x∈A0,bit (cH bs x.i) e.i=true->False:=by
  intro x hx hb;obtain⟨s,r,rfl⟩:=List.append_of_mem hx;have:=(hor.pre (s.map (·.i)) x.i (r.map (·.i)++e.i ::A1.map (·.i)) (by rw [hord];simp)).1 e.i hb;exact p2 (by rw [List.map_append,List.mem_append];exact .inl this)
 by_cases hw:∃x∈A0,(ops[x.i]?).bind (·.dst)=some t
 ·obtain⟨x,hx,hxd⟩:=hw
  obtain⟨p,hp,hpd⟩:=dstOf x.i hxd;obtain⟨s,r,rfl⟩:=List.append_of_mem hx;have hne:e.i≠x.i:=λh=>p2 (by rw [h,List.map_append,List.map_cons];simp);have hrd:rdn m e.s.f t=some x.v:=by
   refine n2 s x r rfl t hxd λy hy hyd=>?_;obtain⟨q,hq,hqd⟩:=dstOf y.i hyd;have hxy:x.i≠y.i:=by
    intro h;obtain⟨r1,r2,rfl⟩:=List.append_of_mem hy;have:=(hor.pre (s.map (·.i)++x.i ::r1.map (·.i)) y.i (r2.map (·.i)++e.i ::A1.map (·.i)) (by rw [hord];simp)).2.1;exact this (by rw [<-h];simp)
   have hmem:t∈dF T ops p:=by
    unfold dF;rw [hpd];simp
   exact(hst.names x.i y.i p q t hxy hp hq hqd hmem).2 hpd
  rw [hrd]at hv;cases hv;have hb:bit (cH bs e.i) x.i=true:=by
   rcases (hst.names e.i x.i o p t hne ho hp hpd ht).1 with q|q
   ·exact q
   ·exact(notBehind x hx q).elim
  have hlx:=hbef _ hb;obtain⟨y,hy,hyx⟩:=I.inA _ hlx;have hyx':y=x:=ey hor hmap (by rw [I.tr];exact List.mem_append_left _ hy) (by rw [hA];exact List.mem_append_left _ (by simp)) hyx;rw [hyx']at hy;exact I.new x hy hlx t hxd
 ·have hrd:rdn m e.s.f t=rdn m s0.f t:=n1 t λx hx hd=>hw ⟨x,hx,hd⟩
  rw [hrd]at hv;obtain⟨u,k1,k2⟩:=F0.2 t v hv;refine⟨u,?_,k2.mono I.ext.le⟩;rw [I.old t λj hj hd=>?_]
  ·exact k1
  ·obtain⟨p,hp,hpd⟩:=dstOf j hd
   have hne:e.i≠j:=by
    intro h;rw [<-h,hl]at hj;cases hj
   rcases (hst.names e.i j o p t hne ho hp hpd ht).1 with q|q
   ·have:=p1 j q
    rw [List.mem_map]at this;obtain⟨x,hx,rfl⟩:=this;exact hw ⟨x,hx,hd⟩
   ·have:=I.closed j hj e.i q
    rw [hl]at this;cases this
end
end
end
section
variable [Env]
set_option linter.unusedSectionVars false
section
variable {P:Program} {T:Ty} {m N:Nat}
variable {call:cB} {ops:Array Oper} {cl:List bS} {hi:Nat->Nat} {bs ord:List Nat} {s0 sn:St} {tr:List Ent} {g0:G} {a0:Act} {w0:World} {listed:Array Bool} {a:Act} {w:World} {g:G} {A B:List Ent} {sA:St}
theorem iJ{o:Oper}{i:Nat}(h:ops[i]? =some o):i<ops.size:=by
 rcases Nat.lt_or_ge i ops.size with k|k
 ·exact k
 ·rw [Array.getElem?_eq_none k]at h;cases h
theorem js{o:Oper}{i:Nat}(hs:listed.size=ops.size)(ho:ops[i]? =some o)(hc:∀i,listed.getD i false=true->∀j,bit (cH bs i) j=true->listed.getD j false=true)
  (hbef:∀j,bit (cH bs i) j=true->listed.getD j false=true):∀k,(listed.setIfInBounds i true).getD k false=true->∀j,bit (cH bs k) j=true->(listed.setIfInBounds i true).getD j false=true:=by
 intro k hk j hj;have hi:=iJ ho;rw [cY _ _ _ (by omega)]at hk ⊢
 split
 ·rfl
 ·split at hk
  ·rename_i h
   subst h;exact hbef j hj
  ·exact hc k hk j hj
theorem Inv.same(hst:fR T ops bs)(hor:iP ops cl bs ord)(hmap:tr.map (·.i)=ord)(I:Inv T m N call ops cl hi bs s0 tr sn g0 a0 w0 listed a w g A B sA){e:Ent}(he:e∈A){o:Oper}(ho:ops[e.i]? =some o)(hl:listed.getD e.i false=false)
  (hbef:∀j,bit (cH bs e.i) j=true->listed.getD j false=true) {d:Dst} (hd:dst m N o.dst=some d) {u:Value} {g':G} {w':World} (x:Ext T g sA.h w g' sA.h w') (hv:VR g' e.v u):
  Inv T m N call ops cl hi bs s0 tr sn g0 a0 w0 (listed.setIfInBounds e.i true) (a.put o.dst u) w' g' A B sA:=by
 have hlt:=iJ ho;obtain⟨t1,t2,t3⟩:=I.tmps (u:=u) hst ho hd x.le;refine⟨I.tr,I.tA,I.tB,I.bnd,x.wr,I.ext.trans x,by simp [I.size],λi hi=>?_,λy hy hE=>?_,js I.size ho I.closed hbef,by rw [jU];exact I.tsize,t1,λy hy hly t hdt=>?_,λy hy blk hm hly=>?_,I.ids,I.dist,(dh _ _ _).trans I.defers⟩
 ·rw [cY _ _ _ (by rw [I.size];exact hlt)]at hi
  split at hi
  ·rename_i h;exact⟨e,he,h.symm⟩
  ·exact I.inA i hi
 ·rw [cY _ _ _ (by rw [I.size];exact hlt)]
  split
  ·rfl
  ·exact I.es y hy hE
 ·by_cases hye:y.i=e.i
  ·have hyx:y=e:=ey hor hmap (by rw [I.tr];exact List.mem_append_left _ hy) (by rw [I.tr];exact List.mem_append_left _ he) hye
   subst hyx;rw [ho]at hdt;exact⟨u,t3 t hdt,hv⟩
  ·exact t2 y hy hly hye t hdt
 ·rw [cY _ _ _ (by rw [I.size];exact hlt)]at hly
  split at hly
  ·cases hly
  ·obtain⟨k1,k2,k3⟩:=I.made y hy blk hm hly
   obtain⟨k4,k5⟩:=x.un _ (I.ids y hy blk hm) k1;exact⟨k4,k2,k3⟩
theorem Ext.place{h0 h:H}(x:Ext T g0 h0 w0 g h w){id z:Nat}{o:Obj}(hid:h0.next<=id)(hn:g id=none)(r:WR T (eF g id (w.heap.size,0,z)) h (w.alloc o)):Ext T g0 h0 w0 (eF g id (w.heap.size,0,z)) h (w.alloc o):=by
 refine⟨G.le_trans x.le (eS _ hn),x.next,r,λi hi e=>?_,?_,λb hb hu=>?_,λi b o' z' e1 e2=>?_,λi b o' z' n cs e1 e2=>?_,x.os,x.tape,x.output⟩
 ·obtain⟨k1,k2⟩:=x.un i hi e
  exact⟨by rw [dn _ (by omega)];exact k1,k2⟩
 ·rw [World.size_alloc];have:=x.size;omega
 ·rw [dV (by have:=x.size;omega)]
  exact x.keep b hb hu
 ·by_cases hi:i=id
  ·subst hi
   rw [cm]at e1;cases e1;exact .inl x.size
  ·rw [dn _ hi]at e1
   exact x.fresh i b o' z' e1 e2
 ·obtain⟨k1,k2⟩:=x.ro i b o' z' n cs e1 e2
  exact⟨k1,by rw [dV (x.wr.lt _ _ _ _ (x.le _ _ e1))];exact k2⟩
theorem Inv.make(hst:fR T ops bs)(hor:iP ops cl bs ord)(hmap:tr.map (·.i)=ord)(I:Inv T m N call ops cl hi bs s0 tr sn g0 a0 w0 listed a w g A B sA){e:Ent}(he:e∈A){o:Oper}(ho:ops[e.i]? =some o)(hl:listed.getD e.i false=false)
  (hbef:∀j,bit (cH bs e.i) j=true->listed.getD j false=true) {d:Dst} (hd:dst m N o.dst=some d) {blk:Blk} (hm:nQ cl e blk) {mk:Nat->V} {ρ:Operand->Value} {op:Op} (hmk:kM P T g ρ op blk mk) (hv:e.v=mk e.s.h.next):
  ∃(obj:Obj) (val:Nat->Value) (g':G),(∀(w:World) (o:Oper),o.op=op->(execOp ρ o).run P w= .ok (.value (val w.heap.size)) (w.alloc obj))/\
   Inv T m N call ops cl hi bs s0 tr sn g0 a0 w0 (listed.setIfInBounds e.i true) (a.put o.dst (val w.heap.size)) (w.alloc obj) g' A B sA:=by
 have hlt:=iJ ho;obtain⟨obj,z,val,m1,m2,m3⟩:=hmk.make;obtain⟨k1,k2,k3⟩:=I.made e he blk hm hl;have kid:=I.ids e he blk hm;have hle:=eS (g:=g) (w.heap.size,0,z) k1;have r':=I.wr.place (z:=z) (o:=obj) kid k1 k2 hmk.kin (m3 _ _ _ _ hle (cm _ _ _) (da w obj));obtain⟨t1,t2,t3⟩:=I.tmps (u:=val w.heap.size) hst ho hd hle;refine⟨obj,val,_,m1,I.tr,I.tA,I.tB,I.bnd,r',I.ext.place k3 k1 r',by simp [I.size],λi hi=>?_,λy hy hE=>?_,js I.size ho I.closed hbef,by rw [jU];exact I.tsize,t1,λy hy hly t hdt=>?_,λy hy blk' hm' hly=>?_,I.ids,I.dist,(dh _ _ _).trans I.defers⟩
 ·rw [cY _ _ _ (by rw [I.size];exact hlt)]at hi
  split at hi
  ·rename_i h;exact⟨e,he,h.symm⟩
  ·exact I.inA i hi
 ·rw [cY _ _ _ (by rw [I.size];exact hlt)]
  split
  ·rfl
  ·exact I.es y hy hE
 ·by_cases hye:y.i=e.i
  ·have hyx:y=e:=ey hor hmap (by rw [I.tr];exact List.mem_append_left _ hy) (by rw [I.tr];exact List.mem_append_left _ he) hye
   subst hyx;rw [ho]at hdt;exact⟨_,t3 t hdt,by rw [hv];exact m2 _ _ _ hle (cm _ _ _)⟩
  ·exact t2 y hy hly hye t hdt
 ·rw [cY _ _ _ (by rw [I.size];exact hlt)]at hly
  split at hly
  ·cases hly
  ·rename_i hne
   obtain⟨q1,q2,q3⟩:=I.made y hy blk' hm' hly;refine⟨?_,q2,q3⟩;rw [dn]
   ·exact q1
   ·intro h
    exact hne (by rw [I.dist y hy e he blk' blk hm' hm h])
theorem Inv.write(hst:fR T ops bs)(hor:iP ops cl bs ord)(hmap:tr.map (·.i)=ord){e:Ent}{B':List Ent}(I:Inv T m N call ops cl hi bs s0 tr sn g0 a0 w0 listed a w g A (e ::B') sA)(hE:dB cl e.i=true){o:Oper}(ho:ops[e.i]? =some o)(hl:listed.getD e.i false=false)
  (hbef:∀j,bit (cH bs e.i) j=true->listed.getD j false=true) {d:Dst} (hd:dst m N o.dst=some d) {c:bS} {s1:St} (hc:cl[e.i]? =some c) (hs:e.s=sA) (hst1:Ey call {c with lo:=nE cl A,hi:=hi e.i} sA e.v s1)
  (ht:dC call cl hi (if isE c.op=true then nE cl A+1 else nE cl A) s1 B' sn) (hek:e.k=nE cl A) {u:Value} {g':G} {w':World} (x:Ext T g sA.h w g' s1.h w') (hv:VR g' e.v u) (hnm:∀blk,¬nQ cl e blk):
  ∃A' B'' sA',Inv T m N call ops cl hi bs s0 tr sn g0 a0 w0 (listed.setIfInBounds e.i true) (a.put o.dst u) w' g' A' B'' sA':=by
 have hlt:=iJ ho;obtain⟨t1,t2,t3⟩:=I.tmps (u:=u) hst ho hd x.le;obtain⟨S,B'',s',q1,q2,q3,q4,q5,q6,q7,q8,q9,q10⟩:=ti ht x.wr;have hEc:isE c.op=true:=by rw [<-dW hc];exact hE
 have hnE:nE cl (A++e ::S)=nE cl A+1:=by
  unfold nE;rw [List.filter_append,List.filter_cons,if_pos hE];have:S.filter (λe=>dB cl e.i)=[]:=by
   rw [List.filter_eq_nil_iff];intro y hy;rw [q5 y hy];decide
  rw [this];simp
 have he:e=⟨e.i,nE cl A,e.v,sA⟩:=by
  obtain⟨i,k,v,s⟩:=e;simp only at hs hek;rw [hs,hek]
 have htr:tr=(A++e ::S)++B'':=by rw [I.tr,q1];simp
 have hA1:dC call cl hi 0 s0 (A++e ::S) s':=by
  refine dC.append I.tA ?_;rw [he];rw [Nat.zero_add];exact .cons hc hst1 q2
 have hnew:∀y∈A++e ::S,y∈A\/y=e\/y∈S:=by
  intro y hy;rcases List.mem_append.1 hy with h|h
  ·exact .inl h
  ·rcases List.mem_cons.1 h with h|h
   ·exact .inr (.inl h)
   ·exact .inr (.inr h)
 have hord:ord=A.map (·.i)++e.i ::(S++B'').map (·.i):=by rw [<-hmap,I.tr,q1];simp
 have behind:∀y∈S,(listed.setIfInBounds e.i true).getD y.i false=false:=by
  intro y hy;have hyT:y∈tr:=by rw [htr];simp [hy]
  have heT:e∈tr:=by rw [htr];simp
  rw [cY _ _ _ (by rw [I.size];exact hlt),if_neg]
  ·cases hly:listed.getD y.i false with
   |false=>rfl
   |true=>
    obtain⟨z,hz,hzy⟩:=I.inA _ hly;have hzy':z=y:=ey hor hmap (by rw [htr];simp [hz]) hyT hzy;subst hzy';obtain⟨s1',s2',rfl⟩:=List.append_of_mem hy;have:=(hor.pre (A.map (·.i)++e.i ::s1'.map (·.i)) z.i (s2'.map (·.i)++B''.map (·.i)) (by rw [hord];simp)).2.1;exact(this (List.mem_append_left _ (List.mem_map.2 ⟨z,hz,rfl⟩))).elim
  ·intro h
   have:=ey hor hmap hyT heT h;subst this;rw [q5 y hy]at hE;cases hE
 have hmono:sA.h.next<=s'.h.next:=Nat.le_trans x.next q7
 refine⟨A++e ::S,B'',s',htr,hA1,by rw [hnE];rw [if_pos hEc]at q3;exact q3,q4,q6,(I.ext.trans x).mem q6 q7 q8,by simp [I.size],λi hi=>?_,λy hy hEy=>?_,js I.size ho I.closed hbef,by rw [jU];exact I.tsize,t1,λy hy hly t hdt=>?_,λy hy blk hm hly=>?_,λy hy blk hm=>?_,λy hy z hz b b' hm hm' hyz=>?_,(dh _ _ _).trans I.defers⟩
 ·rw [cY _ _ _ (by rw [I.size];exact hlt)]at hi
  split at hi
  ·rename_i h;exact⟨e,by simp,h.symm⟩
  ·obtain⟨y,hy,hyi⟩:=I.inA i hi
   exact⟨y,by simp [hy],hyi⟩
 ·rw [cY _ _ _ (by rw [I.size];exact hlt)]
  split
  ·rfl
  ·rename_i hne
   rcases hnew y hy with h|h|h
   ·exact I.es y h hEy
   ·exact absurd (by rw [h]) hne
   ·rw [q5 y h]at hEy;cases hEy
 ·rcases hnew y hy with h|h|h
  ·by_cases hye:y.i=e.i
   ·have hyT:y∈tr:=by rw [htr];simp [h]
    have:y=e:=ey hor hmap hyT (by rw [htr];simp) hye;subst this;rw [ho]at hdt;exact⟨u,t3 t hdt,hv⟩
   ·exact t2 y h hly hye t hdt
  ·subst h
   rw [ho]at hdt;exact⟨u,t3 t hdt,hv⟩
  ·rw [behind y h]at hly;cases hly
 ·rcases hnew y hy with h|h|h
  ·rw [cY _ _ _ (by rw [I.size];exact hlt)]at hly
   split at hly
   ·cases hly
   ·obtain⟨k1,k2,k3⟩:=I.made y h blk hm hly
    have kid:=I.ids y h blk hm;obtain⟨k4,k5⟩:=x.un _ kid k1;exact⟨k4,by rw [q8 _ (Nat.lt_of_lt_of_le kid x.next),k5];exact k2,k3⟩
  ·subst h
   exact absurd hm (hnm blk)
  ·obtain⟨z1,z2,z3⟩:=q9 y h blk hm
   refine⟨?_,z3,Nat.le_trans I.ext.next (Nat.le_trans x.next z1)⟩;cases hg:g' y.s.h.next with
   |none=>rfl
   |some p=>exact absurd (x.wr.dom _ _ hg) (by omega)
 ·rcases hnew y hy with h|h|h
  ·exact Nat.lt_of_lt_of_le (I.ids y h blk hm) hmono
  ·subst h;exact absurd hm (hnm blk)
  ·exact(q9 y h blk hm).2.1
 ·rcases hnew y hy with h|h|h
  ·rcases hnew z hz with h'|h'|h'
   ·exact I.dist y h z h' b b' hm hm' hyz
   ·subst h';exact absurd hm' (hnm b')
   ·have k1:=I.ids y h b hm
    have k2:=(q9 z h' b' hm').1;have:=x.next
    omega
  ·subst h;exact absurd hm (hnm b)
  ·rcases hnew z hz with h'|h'|h'
   ·have k1:=I.ids z h' b' hm'
    have k2:=(q9 y h b hm).1;have:=x.next
    omega
   ·subst h';exact absurd hm' (hnm b')
   ·exact q10 y h z h' b b' hm hm' hyz
end
end
section
variable [Env]
set_option linter.unusedSectionVars false
section
variable {P:Program} {T:Ty} {m N:Nat}
variable {call:cB} {ops:Array Oper} {cl:List bS} {bs ord:List Nat} {s0 sn:St} {tr:List Ent} {g0:G} {a0:Act} {w0:World}
noncomputable abbrev pD(ops:Array Oper)(cl:List bS)(bs:List Nat):Nat->Nat:=λi=>bY (((List.range ops.size).filter (dB cl)).filter λe=>!bit (cH bs e) i)
theorem GV(hor:iP ops cl bs ord)(hmap:tr.map (·.i)=ord)(hcl:∀(i:Nat) c,cl[i]? =some c->∃o,ops[i]? =some o/\jK T m N ops o c){listed:Array Bool}{a:Act}{w:World}{g:G}{A B:List Ent}{sA:St}(I:Inv T m N call ops cl (pD ops cl bs) bs s0 tr sn g0 a0 w0 listed a w g A B sA){i:Nat}(hl:listed.getD i false=false):nE cl A<=pD ops cl bs i:=by
 unfold nE;show _<=bY _;rw [bV];have h1:(A.filter λe=>dB cl e.i).length=((A.filter λe=>dB cl e.i).map (·.i)).length:=by simp
 rw [h1];refine pI ?_ λx hx=>?_
 ·have hnd:∀(pre l post:List Ent),tr=pre++l++post->(l.map (·.i)).Nodup:=by
   intro pre l
   induction l generalizing pre with
   |nil=>intro post _;exact List.nodup_nil
   |cons e l ih=>
    intro post he;rw [List.map_cons,List.nodup_cons];refine⟨λhm=>?_,ih (pre++[e]) post (by rw [he];simp)⟩;rw [List.mem_map]at hm;obtain⟨y,hy,hye⟩:=hm;obtain⟨s1,s2,rfl⟩:=List.append_of_mem hy;have:=(hor.pre (pre.map (·.i)++e.i ::s1.map (·.i)) y.i (s2.map (·.i)++post.map (·.i)) (by rw [<-hmap,he];simp)).2.1;exact this (by rw [hye];simp)
  have:=hnd [] A B (by rw [I.tr];simp);exact List.Sublist.nodup (List.Sublist.map _ List.filter_sublist) this
 ·rw [List.mem_map]at hx
  obtain⟨y,hy,rfl⟩:=hx;rw [List.mem_filter]at hy;rw [List.mem_filter,List.mem_filter,List.mem_range];refine⟨⟨?_,hy.2⟩,?_⟩
  ·have:∃c,cl[y.i]? =some c:=by
    cases hc:cl[y.i]? with
    |some c=>exact⟨c,rfl⟩
    |none=>
     have:=hy.2;unfold dB at this;rw [dD,hc]at this;cases this
   obtain⟨c,hc⟩:=this;obtain⟨o,ho,_⟩:=hcl _ _ hc;exact iJ ho
  ·have:=I.es y hy.1 hy.2
   cases hb:bit (cH bs y.i) i with
   |false=>rfl
   |true=>
    have:=I.closed _ this _ hb;rw [hl]at this;cases this
theorem Inv.done(hor:iP ops cl bs ord)(hmap:tr.map (·.i)=ord)(hcl:∀(i:Nat) c,cl[i]? =some c->∃o,ops[i]? =some o/\jK T m N ops o c)(hst:fR T ops bs)(F0:FR g0 m N s0.f a0.tmps){hi:Nat->Nat}{listed:Array Bool}{a:Act}{w:World}{g:G}{A B:List Ent}{sA:St}
  (I:Inv T m N call ops cl hi bs s0 tr sn g0 a0 w0 listed a w g A B sA) (hall:∀i,i<ops.size->listed.getD i false=true):Ext T g0 s0.h w0 g sn.h w/\FR g m N sn.f a.tmps/\a.defers=a0.defers:=by
 have hB:B=[]:=by
  cases hB:B with
  |nil=>rfl
  |cons e B'=>
   have htr:=I.tr;rw [hB]at htr;have hE:=I.bnd e B' hB;have hc:∃c,cl[e.i]? =some c:=by
    cases hc:cl[e.i]? with
    |some c=>exact⟨c,rfl⟩
    |none=>
     unfold dB at hE;rw [dD,hc]at hE;cases hE
   obtain⟨c,hc⟩:=hc;obtain⟨o,ho,_⟩:=hcl _ _ hc;obtain⟨x,hx,hxe⟩:=I.inA e.i (hall _ (iJ ho));have:=(hor.pre (A.map (·.i)) e.i (B'.map (·.i)) (by rw [<-hmap,htr];simp)).2.1;exact(this (by rw [<-hxe];exact List.mem_map.2 ⟨x,hx,rfl⟩)).elim
 have hs:sA=sn:=by
  have:=I.tB;rw [hB]at this;cases this;rfl
 subst hs;refine⟨I.ext,⟨I.tsize,λt v hv=>?_⟩,I.defers⟩;obtain⟨n1,n2⟩:=I.tA.names hcl;have listedA:∀e∈A,listed.getD e.i false=true:=by
  intro e he;obtain⟨s1,s2,e1⟩:=List.append_of_mem he;obtain⟨s',_,k2⟩:=dC.split (A:=s1) (B:=e ::s2) (by rw [<-e1];exact I.tA);obtain⟨_,_,c,_,hc,_,_⟩:=k2.head;obtain⟨o,ho,_⟩:=hcl _ _ hc;exact hall _ (iJ ho)
 by_cases hw:∃x∈A,(ops[x.i]?).bind (λo:Oper=>o.dst)=some t
 ·obtain⟨x,hx,hxd⟩:=hw
  obtain⟨s,r,e1⟩:=List.append_of_mem hx;have hrd:rdn m sA.f t=some x.v:=by
   refine n2 s x r e1 t hxd λy hy hyd=>?_;obtain⟨p,hp,hpd⟩:∃p:Oper,ops[x.i]? =some p/\p.dst=some t:=by
    cases hpp:ops[x.i]? with
    |none=>rw [hpp]at hxd;cases hxd
    |some p=>rw [hpp]at hxd;exact⟨p,rfl,hxd⟩
   obtain⟨q,hq,hqd⟩:∃p:Oper,ops[y.i]? =some p/\p.dst=some t:=by
    cases hpp:ops[y.i]? with
    |none=>rw [hpp]at hyd;cases hyd
    |some p=>rw [hpp]at hyd;exact⟨p,rfl,hyd⟩
   have hxy:x.i≠y.i:=by
    intro h;obtain⟨r1,r2,rfl⟩:=List.append_of_mem hy;have:=(hor.pre (s.map (·.i)++x.i ::r1.map (·.i)) y.i (r2.map (·.i)++B.map (·.i)) (by rw [<-hmap,I.tr,e1];simp)).2.1;exact this (by rw [<-h];simp)
   have hmem:t∈dF T ops p:=by
    unfold dF;rw [hpd];simp
   exact(hst.names x.i y.i p q t hxy hp hq hqd hmem).2 hpd
  rw [hrd]at hv;cases hv;exact I.new x hx (listedA x hx) t hxd
 ·rw [n1 t λx hx hd=>hw ⟨x,hx,hd⟩]at hv
  obtain⟨u,k1,k2⟩:=F0.2 t v hv;refine⟨u,?_,k2.mono I.ext.le⟩;rw [I.old t λj hj hd=>?_]
  ·exact k1
  ·obtain⟨x,hx,rfl⟩:=I.inA j hj
   exact hw ⟨x,hx,hd⟩
theorem mi:∀{A0 A1 z1 z2:List Ent} {e:Ent},A0++e ::A1=z1++e ::z2->e∉z1->e∉A0->A0=z1
 |[],A1,[],z2,e,_,_,_=>rfl
 |[],A1,y ::z1,z2,e,h,h1,_=>by
  simp only [List.nil_append,List.cons_append,List.cons.injEq]at h;exact absurd (by rw [h.1];exact List.mem_cons_self) h1
 |x ::A0,A1,[],z2,e,h,_,h2=>by
  simp only [List.nil_append,List.cons_append,List.cons.injEq]at h;exact absurd (by rw [h.1];exact List.mem_cons_self) h2
 |x ::A0,A1,y ::z1,z2,e,h,h1,h2=>by
  simp only [List.cons_append,List.cons.injEq]at h;rw [h.1,mi h.2 (λk=>h1 (List.mem_cons_of_mem _ k)) λk=>h2 (List.mem_cons_of_mem _ k)]
theorem xS(hT:cN P T)(hk:dX P T call)(hcl0:fK (eX T m N ops) ops.toList=some cl)(hst:fR T ops bs)(hor:iP ops cl bs ord)(hmap:tr.map (·.i)=ord)(htr:dC call cl (pD ops cl bs) 0 s0 tr sn)
  (hs0:s0.hs=[]) (hchk:bF sn.cs (jb sn.hs [sn.h])) (hG:gY T g0 s0.h w0) (F0:FR g0 m N s0.f a0.tmps) {rd:Option Nat} {Q:Exit->Act->World->Prop}
  (hQ:∀g' a' w',Ext T g0 s0.h w0 g' sn.h w'->FR g' m N sn.f a'.tmps->a'.defers=a0.defers->Q .normal a' w'):∀(fuel:Nat) (listed:Array Bool) (a:Act) (w:World) (g:G) (A B:List Ent) (sA:St),
  Inv T m N call ops cl (pD ops cl bs) bs s0 tr sn g0 a0 w0 listed a w g A B sA->left ops listed<=fuel->wpAnyIn (fen rd) 0 P .any ops Q fuel listed a w:=by
 have hcl:∀(i:Nat) c,cl[i]? =some c->∃o,ops[i]? =some o/\jK T m N ops o c:=by
  intro i c hc;obtain⟨hlen,hall⟩:=lI hcl0;have hi:i<ops.toList.length:=by
   rw [<-hlen];rcases Nat.lt_or_ge i cl.length with k|k
   ·exact k
   ·rw [List.getElem?_eq_none k]at hc;cases hc
  obtain⟨b,h1,h2⟩:=hall i _ (List.getElem?_eq_getElem hi);rw [hc]at h1;cases h1;exact⟨_,by rw [<-Array.getElem?_toList];exact List.getElem?_eq_getElem hi,dm h2⟩
 intro fuel
 induction fuel with
 |zero=>
  intro listed a w g A B sA I hf;have hall:=sw (Nat.le_zero.1 hf);refine⟨?_,?_⟩
  ·unfold Region.ready
   rw [List.filter_eq_nil_iff];intro i hi;rw [List.mem_range]at hi;have:=hall i hi;rw [Array.getD_eq_getD_getElem?,Array.getElem?_eq_getElem (by rw [I.size];exact hi)]at this;rw [Array.getD_eq_getD_getElem?,Array.getElem?_eq_getElem (by rw [I.size];exact hi)];simp only [Option.getD_some]at this ⊢;rw [this];simp
  ·obtain⟨x1,x2,x3⟩:=I.done hor hmap hcl hst F0 hall
   exact hQ _ _ _ x1 x2 x3
 |succ fuel ih=>
  intro listed a w g A B sA I hf;refine⟨λhn=>?_,λi hi=>?_⟩
  ·obtain⟨x1,x2,x3⟩:=I.done hor hmap hcl hst F0 (sa hst I.size hn)
   exact hQ _ _ _ x1 x2 x3
  ·obtain⟨hlt,hl,o,ho,hedge⟩:=sb I.size hi
   have hbef:∀j,bit (cH bs i) j=true->listed.getD j false=true:=by
    intro j hj;obtain⟨e,he,hb,h⟩:=hst.before i o ho j hj;rcases h with rfl|h
    ·exact hedge e he hb
    ·exact I.closed _ (hedge e he hb) _ h
   have hleft:left ops (listed.setIfInBounds i true)<=fuel:=by
    have:=vq I.size hlt hl;omega
   obtain⟨e,heT,rfl⟩:∃e∈tr,e.i=i:=by
    have:=hor.all i hlt;rw [<-hmap,List.mem_map]at this;exact this
   obtain⟨A0,A1,hA⟩:=List.append_of_mem heT;obtain⟨s',t0,t1⟩:=dC.split (A:=A0) (B:=e ::A1) (by rw [<-hA];exact htr);obtain⟨hes,hek,c,s1,hc,st,t2⟩:=t1.head;rw [<-hes]at t0;rw [Nat.zero_add]at hek st t2;have hreads:=I.reads hst hor hcl hmap F0 hA t0 ho hl hbef;obtain⟨o',ho',hp⟩:=hcl _ _ hc;rw [ho]at ho';cases ho';have hGg:=hG.ext I.ext;have first:∀b∈A0,dB cl b.i=true->listed.getD b.i false=true:=λb hb hbE=>hbef _ ((hor.pre (A0.map (·.i)) e.i (A1.map (·.i)) (by rw [<-hmap,hA];simp)).2.2 b.i (List.mem_map.2 ⟨b,hb,rfl⟩) hbE)
   have hguard:∀{b:Bool},bX e.s.f c.guard=some b->Region.wanted o (yielded ops a.tmps)=b:=λhg=>eW hp hg λt ht v hv=>hreads t (by
    obtain⟨gi,gw,h1,h2⟩:=ht;unfold dF;rw [h1];simp [h2]) v hv
   have hargs:∀{vs:List V} {os:List Operand},bI T o.op=some (c.op,os)->fK (opd T m) os=some c.args->evs e.s.f c.args=some vs->VRs g vs (os.map a.eval):=λh1 h2 h3=>jp hGg h2 h3 λt ht v hv=>hreads t (by
    unfold dF;rw [h1];refine List.mem_append_right _ (List.mem_append_left _ ?_);exact List.mem_filterMap.2 ⟨.tmp t,ht,rfl⟩) v hv
   unfold wpOpIn;simp only [ho]
   by_cases hE:dB cl e.i=true
   ·
    have hEc:isE c.op=true:=by rw [<-dW hc];exact hE
    have hB:∃B',B=e ::B':=by
     have hnA:e∉A:=λh=>by
      have:=I.es e h hE;rw [hl]at this;cases this
     have heB:e∈B:=by
      rw [I.tr]at heT;exact(List.mem_append.1 heT).resolve_left hnA
     cases hBB:B with
     |nil=>rw [hBB]at heB;cases heB
     |cons b B'=>
      rw [hBB]at heB;rcases List.mem_cons.1 heB with h|h
      ·exact⟨B',by rw [h]⟩
      ·have hb:=I.bnd b B' hBB
       obtain⟨s1',s2',rfl⟩:=List.append_of_mem h;have htr':tr=(A++b ::s1')++e ::s2':=by rw [I.tr,hBB];simp
       have hbl:=hbef _ ((hor.pre ((A++b ::s1').map (·.i)) e.i (s2'.map (·.i)) (by rw [<-hmap,htr'];simp)).2.2 b.i (List.mem_map.2 ⟨b,by simp,rfl⟩) hb);obtain⟨y,hy,hyb⟩:=I.inA _ hbl;have:=(hor.pre (A.map (·.i)) b.i ((s1'++e ::s2').map (·.i)) (by rw [<-hmap,I.tr,hBB];simp)).2.1;exact(this (by rw [<-hyb];exact List.mem_map.2 ⟨y,hy,rfl⟩)).elim
    obtain⟨B',rfl⟩:=hB;obtain⟨hes2,hek2,c',s1',hc',st',t2'⟩:=I.tB.head;rw [hc]at hc';cases hc';have hnm:∀blk,¬nQ cl e blk:=by
     intro blk hm;obtain⟨c',ao,vs,mk,m1,m2,_⟩:=hm;rw [hc]at m1;cases m1;rw [m2]at hEc;cases hEc
    rcases st'.main with⟨h1,h2,h3,h4⟩ | ⟨vs,h1,h2,h3,h4,h5⟩
    ·rw [hguard (by rw [hes2];exact h1)]
     refine⟨λ_ _=>trivial,?_⟩;obtain⟨A',B'',sA',I'⟩:=I.write (u:=undef) hst hor hmap hE ho hl hbef hp.dst hc hes2 st' t2' hek2 (by rw [h3];exact .refl I.wr) (by rw [h2];exact fk) hnm;exact ih _ _ _ _ _ _ _ I' hleft
    ·rw [hguard (by rw [hes2];exact h1)]
     obtain⟨os,k1,k2⟩:=hp.op;refine lF hT hk I.wr hGg k1 (hargs k1 k2 (by rw [hes2];exact h2)) h3 λg' w' u x1 x2=>?_;obtain⟨A',B'',sA',I'⟩:=I.write hst hor hmap hE ho hl hbef hp.dst hc hes2 st' t2' hek2 x1 x2 hnm;exact ih _ _ _ _ _ _ _ I' hleft
   ·
    have heA:e∈A:=by
     rw [I.tr]at heT;rcases List.mem_append.1 heT with h|h
     ·exact h
     ·cases hBB:B with
      |nil=>rw [hBB]at h;cases h
      |cons b B'=>
       rw [hBB]at h;have hb:=I.bnd b B' hBB;rcases List.mem_cons.1 h with h|h
       ·rw [h]at hE;exact absurd hb hE
       ·obtain⟨s1',s2',rfl⟩:=List.append_of_mem h
        have htr':tr=(A++b ::s1')++e ::s2':=by rw [I.tr,hBB];simp
        have hbl:=hbef _ ((hor.pre ((A++b ::s1').map (·.i)) e.i (s2'.map (·.i)) (by rw [<-hmap,htr'];simp)).2.2 b.i (List.mem_map.2 ⟨b,by simp,rfl⟩) hb);obtain⟨y,hy,hyb⟩:=I.inA _ hbl;have:=(hor.pre (A.map (·.i)) b.i ((s1'++e ::s2').map (·.i)) (by rw [<-hmap,I.tr,hBB];simp)).2.1;exact(this (by rw [<-hyb];exact List.mem_map.2 ⟨y,hy,rfl⟩)).elim
    rcases st.main with⟨h1,h2,h3,h4⟩ | ⟨vs,h1,h2,h3,h4,h5⟩
    ·rw [hguard (by rw [hes];exact h1)]
     refine⟨λ_ _=>trivial,?_⟩;exact ih _ _ _ _ _ _ _ (I.same hst hor hmap heA ho hl hbef hp.dst (.refl I.wr) (by rw [h2];exact fk)) hleft
    ·rw [hguard (by rw [hes];exact h1)]
     obtain⟨os,k1,k2⟩:=hp.op;have hv:=hargs k1 k2 (by rw [hes];exact h2);have iO:c.op.run call vs sA.h=some (e.v,sA.h)->o.wpIn (fen rd) 0 P a w (wpAnyIn (fen rd) 0 P .any ops Q fuel (listed.setIfInBounds e.i true)) Q:=λhrun=>
      lF hT hk I.wr hGg k1 hv hrun λg' w' u x1 x2=>ih _ _ _ _ _ _ _ (I.same hst hor hmap heA ho hl hbef hp.dst x1 x2) hleft
     have h3':c.op.run call vs s'.h=some (e.v,s1.h):=h3;cases hop:c.op with
     |p po=>
      rw [hop]at h3';obtain⟨x,k3,k4⟩:=bE.1 (show ob (po.run vs) (λv=>some (v,s'.h))=some (e.v,s1.h)from h3');refine iO ?_;rw [hop];show ob (po.run vs) (λv=>some (v,sA.h))=_;rw [k3,(Prod.mk.inj (Option.some.inj k4)).1.symm];rfl
     |r ro=>
      rw [hop]at h3';obtain⟨x,k3,k4⟩:=bE.1 (show ob (ro.run vs s'.h) (λv=>some (v,s'.h))=some (e.v,s1.h)from h3');refine iO ?_;rw [hop];show ob (ro.run vs sA.h) (λv=>some (v,sA.h))=_;have hmem:(⟨ro,vs,e.v,nE cl A0,pD ops cl bs e.i⟩:Tc)∈sn.cs:=t2.cs _ (by rw [h4 ro hop];exact List.mem_cons_self);have hrd:=hchk _ hmem;have hhs:=htr.hs;rw [hs0,List.append_nil,I.tr]at hhs;have hat:(jb sn.hs [sn.h])[nE cl A]? =some sA.h:=by
       rw [tj,hhs,List.reverse_reverse,List.filter_append,List.map_append];have hlen:((A.filter λe=>dB cl e.i).map λe=>e.s.h).length=nE cl A:=by simp [nE]
       rw [List.append_assoc,List.getElem?_append_right (by rw [hlen];exact Nat.le_refl _),hlen,Nat.sub_self];cases hBB:B with
       |nil=>
        have:=I.tB;rw [hBB]at this;cases this;rfl
       |cons b B'=>
        have hb:=I.bnd b B' hBB;have:=I.tB;rw [hBB]at this;obtain⟨q1,_⟩:=this.head;rw [List.filter_cons,if_pos hb,List.map_cons,q1];rfl
      have hlo:nE cl A0<=nE cl A:=by
       obtain⟨z1,z2,rfl⟩:=List.append_of_mem heA;have hA0:A0=z1:=by
        refine mi (A1:=A1) (z2:=z2++B) (e:=e) (by rw [<-hA,I.tr];simp) (λh=>?_) λh=>?_
        ·have:=(hor.pre (z1.map (·.i)) e.i ((z2++B).map (·.i)) (by rw [<-hmap,I.tr];simp)).2.1
         exact this (List.mem_map.2 ⟨e,h,rfl⟩)
        ·have:=(hor.pre (A0.map (·.i)) e.i (A1.map (·.i)) (by rw [<-hmap,hA];simp)).2.1
         exact this (List.mem_map.2 ⟨e,h,rfl⟩)
       subst hA0;simp [nE,List.filter_append]
      have:=hrd (nE cl A) _ hat hlo (GV hor hmap hcl I hl);simp only at this;rw [this];rfl
     |a ao=>
      rw [hop]at h3';obtain⟨p,k3,k4⟩:=bE.1 (show ob (ao.run vs) (λr=>ob (s'.h.new r.1) λh'=>some (r.2 s'.h.next,h'))=some (e.v,s1.h)from h3');obtain⟨h',k5,k6⟩:=bE.1 k4;have hev:e.v=p.2 e.s.h.next:=by rw [hes];exact(Prod.mk.inj (Option.some.inj k6)).1.symm
      have hmade:nQ cl e p.1:=⟨c,ao,vs,p.2,hc,hop,by rw [hes];exact h1,by rw [hes];exact h2,k3,hev⟩
      rw [hop]at k1;obtain⟨obj,val,g',n1,I'⟩:=I.make (ρ:=a.eval) (op:=o.op) hst hor hmap heA ho hl hbef hp.dst hmade (Ez hT k1 hv k3) hev;refine⟨λ_ _=>trivial,?_⟩;rw [Oper.semAt_eq _ _ _ (fi k1),n1 w o rfl,Oper.uponIn_value];exact ih _ _ _ _ _ _ _ I' hleft
     |e eo=>exact absurd (by rw [dW hc,hop];rfl) hE
     |call f=>exact absurd (by rw [dW hc,hop];rfl) hE
     |callv=>exact absurd (by rw [dW hc,hop];rfl) hE
theorem vV(hT:cN P T)(hk:dX P T call)(hm:P.follows .mixedOrders=true){id:Nat}{l:List bS}(hcl:fK (eX T m N ops) ops.toList=some cl)(hd:sQ T cl ops=some l){f0:F}{h0:H}{s:St}(hr:fH call l ⟨f0,h0,[],[]⟩=some s)(hchk:bF s.cs (jb s.hs [s.h]))
  {g:G} {a:Act} {w:World} (r:WR T g h0 w) (hG:gY T g h0 w) (F0:FR g m N f0 a.tmps) {rd:Option Nat} {Q:Exit->Act->World->Prop}
  (hQ:∀g' a' w',Ext T g h0 w g' s.h w'->FR g' m N s.f a'.tmps->a'.defers=a.defers->Q .normal a' w'):(Code.region id ops true).wpIn (fen rd) 0 P Q a w:=by
 obtain⟨bs,ord,hst,hor,hlh⟩:=v8 hd;obtain⟨tr,htr,hmap⟩:=uC hlh hr;refine wpIn_region_any hm ?_;have r1:WR T g h0 {w with drawn:=w.drawn+1}:=r.drew1;obtain⟨S,B',s',q1,q2,q3,q4,q5,q6,q7,q8,q9,q10⟩:=ti htr (g:=g) (w:={w with drawn:=w.drawn+1}) r1;have hx0:Ext T g h0 w g h0 {w with drawn:=w.drawn+1}:=⟨g.le_refl,Nat.le_refl _,r1,λ_ _ e=>⟨e,rfl⟩,Nat.le_refl _,λ_ _ _=>rfl,(λid b o z h1 h2=>by rw [h2]at h1;cases h1),λ_ _ _ _ _ _ _ e=>⟨e,rfl⟩,rfl,rfl,rfl⟩
 have getD0:∀i,(Array.replicate ops.size false).getD i false=false:=by
  intro i;rw [Array.getD_eq_getD_getElem?,Array.getElem?_replicate]
  split<;>rfl
 have hnE:nE cl S=0:=by
  unfold nE;rw [List.length_eq_zero_iff,List.filter_eq_nil_iff];intro y hy;rw [q5 y hy];decide
 have I:Inv T m N call ops cl (pD ops cl bs) bs ⟨f0,h0,[],[]⟩ tr s g a w (Array.replicate ops.size false) a {w with drawn:=w.drawn+1} g S B' s':=
  ⟨q1,q2,by rw [hnE];exact q3,q4,q6,hx0.mem q6 q7 q8,by simp,(λi hi=>by rw [getD0]at hi;cases hi),(λe he hE=>by rw [q5 e he]at hE;cases hE),(λi hi=>by rw [getD0]at hi;cases hi),F0.1,λ_ _=>rfl,(λe _ hl=>by rw [getD0]at hl;cases hl),
   (λe he blk hm _=>by
    obtain⟨z1,z2,z3⟩:=q9 e he blk hm;refine⟨?_,z3,z1⟩;cases hg:g e.s.h.next with
    |none=>rfl
    |some p=>exact absurd (r.dom _ _ hg) (by have z1:h0.next<=e.s.h.next:=z1;omega)),(λe he blk hm=>(q9 e he blk hm).2.1),q10,rfl⟩
 refine xS hT hk hcl hst hor hmap htr rfl hchk hG F0 hQ ops.size _ a _ g S B' s' I ?_;unfold left;refine Nat.le_trans (List.length_filter_le _ _) ?_;simp
theorem Ed(hT:cN P T)(hk:dX P T call)(hm:P.follows .mixedOrders=true){id:Nat}{l:List bS}(hcl:fK (eX T m N ops) ops.toList=some cl)(hd:sQ T cl ops=some l){f0:F}{h0:H}{s:St}(hr:fH call l ⟨f0,h0,[],[]⟩=some s)(hchk:(Bool.rec (motive:=λ_=>Bool) (jt s.cs (jb s.hs [s.h])) true (iO l):Bool)=true)
  {g:G} {a:Act} {w:World} (r:WR T g h0 w) (hG:gY T g h0 w) (F0:FR g m N f0 a.tmps) {rd:Option Nat} {Q:Exit->Act->World->Prop}
  (hQ:∀g' a' w',Ext T g h0 w g' s.h w'->FR g' m N s.f a'.tmps->a'.defers=a.defers->Q .normal a' w'):(Code.region id ops true).wpIn (fen rd) 0 P Q a w:=
 vV hT hk hm hcl hd hr (ya hr hchk) r hG F0 hQ
end
end
section
variable [Env]
set_option linter.unusedSectionVars false
section
variable {P:Program} {T:Ty} {m N:Nat}
def kY(r:Nat):Deferred:={target:= .collected r,args:=#[]}
def dZ(D:List Deferred)(g:G)(w:World)(B:Nat)(ds:List Deferred):Prop:=
 ∃rs:List Nat,ds=rs.map kY++D/\rs.Nodup/\∀r∈rs,B<=r/\r<w.heap.size/\(∀id o z,g id≠some (r,o,z))/\w.heap[r]? =some (.deferred (some []))
theorem dZ.nil{D:List Deferred}{g:G}{w:World}{B:Nat}:dZ D g w B D:=⟨[],rfl,List.nodup_nil,by simp⟩
theorem dZ.ext{D:List Deferred}{g g':G}{h h':H}{w w':World}{B:Nat}{ds:List Deferred}(x:Ext T g h w g' h' w')(k:dZ D g w B ds):dZ D g' w' B ds:=by
 obtain⟨rs,h1,h2,h3⟩:=k;refine⟨rs,h1,h2,λr hr=>?_⟩;obtain⟨k1,k2,k3,k4⟩:=h3 r hr;refine⟨k1,Nat.lt_of_lt_of_le k2 x.size,λid o z e=>?_,(x.keep r k2 k3).trans k4⟩;cases hg:g id with
 |some y=>rw [x.le _ _ hg]at e;cases e;exact k3 id o z hg
 |none=>
  rcases x.fresh id r o z e hg with h | ⟨i,o',z',h⟩
  ·omega
  ·exact k3 i o' z' h
theorem dZ.push{D:List Deferred}{g g':G}{h h':H}{w w':World}{B r:Nat}{ds:List Deferred}(x:Ext T g h w g' h' w')(k:dZ D g w B ds)(h1:B<=r)(h2:w.heap.size<=r)(h3:r<w'.heap.size)(h4:∀id o z,g' id≠some (r,o,z))(h5:w'.heap[r]? =some (.deferred (some []))):dZ D g' w' B (kY r ::ds):=by
 obtain⟨rs,q1,q2,q3⟩:=k;have k':∀s∈rs,B<=s/\s<w'.heap.size/\(∀id o z,g' id≠some (s,o,z))/\w'.heap[s]? =some (.deferred (some [])):=by
  intro s hs;have one:dZ [] g w B [kY s]:=⟨[s],rfl,by simp,λy hy=>by rw [List.mem_singleton]at hy;subst hy;exact q3 y hs⟩
  obtain⟨rs',p1,p2,p3⟩:=one.ext x;rw [List.append_nil]at p1;cases rs' with
  |nil=>cases p1
  |cons y rs'=>
   have:s=y:=by
    have e:=(List.cons.inj p1).1
    simpa [kY]using e
   subst this;exact p3 s List.mem_cons_self
 refine⟨r ::rs,by rw [q1];rfl,?_,λs hs=>?_⟩
 ·rw [List.nodup_cons]
  exact⟨λhm=>by have:=(q3 _ hm).2.1;omega,q2⟩
 ·rcases List.mem_cons.1 hs with h|h
  ·subst h
   exact⟨h1,h3,h4,h5⟩
  ·exact k' s h
def mF:X->Exit->Prop
 |.norm,.normal=>True
 |.exit i,.exit j=>i=j
 |.ret,.ret=>True
 |_,_=>False
def Out(D:List Deferred)(T:Ty)(m N:Nat)(rd:Option Nat)(B:Nat)(g:G)(h:H)(w:World)(x:X)(f':F)(h':H)(e:Exit)(a':Act)(w':World):Prop:=
 ∃g',Ext T g h w g' h' w'/\FR g' m N f' a'.tmps/\(rd=none->dZ D g' w' B a'.defers)/\mF x e
theorem FR.clr{g:G}{f:F}{tmps:Array Value}(h:FR g m N f tmps):FR g m N (clr f) tmps:=by
 refine⟨h.1,λt v e=>h.2 t v ?_⟩;unfold rdn at e ⊢
 split at e
 ·rename_i hb
  rw [if_pos hb];exact e
 ·cases e
theorem j9(a b:Code):comp T m N (.seq a b)=ob (comp T m N a) λa=>ob (comp T m N b) λb=>some (.seq a b):=by rw [comp]
theorem ka(id:Nat)(ops:Array Oper):comp T m N (.region id ops false)=sq (ob (fK (eX T m N ops) ops.toList) λl=>some (.reg l)):=by rw [comp]
theorem iW(id:Nat)(ops:Array Oper):comp T m N (.region id ops true)=sq (ob (fK (eX T m N ops) ops.toList) λl=>ob (sQ T l ops) λl=>some (.regD l)):=by rw [comp]
theorem d9{o:Option ci}{c:ci}(h:sq o=some c):o=some c\/c=rP:=by
 cases o with
 |none=>cases h;exact .inr rfl
 |some x=>cases h;exact .inl rfl
theorem ra(call:cB)(rd:Bool)(n:Nat)(f:F)(h:H):exec call rd n rP f h=none:=rfl
theorem iY(o:Operand)(a b:Code):comp T m N (.cond o a b)=ob (opd T m o) λo=>ob (comp T m N a) λa=>ob (comp T m N b) λb=>some (.cond o a b):=by rw [comp]
theorem ie(id:Nat)(c:Code):comp T m N (.block id c)=ob (comp T m N c) λc=>some (.block id c):=by rw [comp]
theorem iX(c:Code):comp T m N (.loop c)=ob (comp T m N c) λc=>some (.loop c):=by rw [comp]
theorem ic(f:Operand)(ps:Array Tmp)(a b:Code):comp T m N (.rangeFunc f ps a b)=ob (opd T m f) λf=>ob (fK (λt=>dst m N (some t)) ps.toList) λps=>ob (comp T m N a) λa=>ob (comp T m N b) λb=>some (.rangeF f ps a b):=by rw [comp]
theorem Cv(call:cB)(rd:Bool)(n:Nat)(ops:List bS)(f:F)(h:H):exec call rd n (.reg ops) f h=ob (qu call ops f h) λr=>some (.norm,clr r.1,r.2):=rfl
theorem Ao(call:cB)(rd:Bool)(n:Nat)(ops:List bS)(f:F)(h:H):exec call rd n (.regD ops) f h=ob (fH call ops ⟨f,h,[],[]⟩) λs=>oif (Bool.rec (motive:=λ_=>Bool) (jt s.cs (jb s.hs [s.h])) true (iO ops)) (some (.norm,clr s.f,s.h)):=rfl
theorem Cu(call:cB)(rd:Bool)(n:Nat)(a b:ci)(f:F)(h:H):exec call rd n (.seq a b) f h=uD (exec call rd n a f h) (exec call rd n b):=rfl
theorem Aq(call:cB)(rd:Bool)(n:Nat)(o:Opd)(a b:ci)(f:F)(h:H):exec call rd n (.cond o a b) f h=ob (o.ev f) λv=>match v with
   |.bool c=>Bool.rec (motive:=λ_=>Res) (exec call rd n b f h) (exec call rd n a f h) c
   |_=>none:=rfl
theorem xH(call:cB)(rd:Bool)(n id:Nat)(c:ci)(f:F)(h:H):exec call rd n (.block id c) f h=yi id (exec call rd n c f h):=rfl
theorem Ap(call:cB)(rd:Bool)(n:Nat)(c:ci)(f:F)(h:H):exec call rd n (.loop c) f h=vp (exec call rd n c) n f h:=rfl
theorem xG(call:cB)(rd:Bool)(n:Nat)(g:Opd)(ps:List Dst)(as bd:ci)(f:F)(h:H):exec call rd n (.rangeF g ps as bd) f h=(oif (!rd) <|
   ob (g.ev f) λgv=>oif (xB gv) <| ob (h.new (.loop 0 f ps as bd none)) λh1=>ob (lM call [gv,.yld h.next] h1) λr=>
   r.2.loopOf h.next λst _ _ _ _ j=>oif (!Nat.beq st 1) (some (Option.rec (motive:=λ_=>X) .norm id j,f,r.2.set h.next .dead))):=rfl
theorem xg(body:F->H->Res)(n:Nat)(f:F)(h:H):vp body (n+1) f h=uD (body f h) (vp body n):=rfl
theorem qd{o:Res}{k:F->H->Res}{r:X×F×H}(h:uD o k=some r):(∃f h',o=some (.norm,f,h')/\k f h'=some r)\/(o=some r/\r.1≠.norm):=by
 obtain⟨q,h1,h2⟩:=bE.1 (show ob o _=some r from h);obtain⟨x,f,h'⟩:=q;cases x with
 |norm=>exact .inl ⟨f,h',h1,h2⟩
 |exit id=>have h2:o=some r:=h2;rw [h1]at h2;cases h2;exact .inr ⟨h1,λe=>by cases e⟩
 |ret=>have h2:o=some r:=h2;rw [h1]at h2;cases h2;exact .inr ⟨h1,λe=>by cases e⟩
theorem wd{id:Nat}{o:Res}{r:X×F×H}(h:yi id o=some r):∃x f h',o=some (x,f,h')/\r=(match x with | .exit j=>if j=id then .norm else .exit j|x=>x,f,h'):=by
 obtain⟨q,h1,h2⟩:=bE.1 (show ob o _=some r from h);obtain⟨x,f,h'⟩:=q;cases x with
 |norm=>have h2:o=some r:=h2;rw [h1]at h2;cases h2;exact⟨_,_,_,h1,rfl⟩
 |ret=>have h2:o=some r:=h2;rw [h1]at h2;cases h2;exact⟨_,_,_,h1,rfl⟩
 |exit j=>
  have h2:(Bool.rec (motive:=λ_=>Res) o (some (.norm,f,h')) (Nat.beq j id):Res)=some r:=h2;rw [cC]at h2;refine⟨_,_,_,h1,?_⟩
  split at h2
  ·rename_i hb
   cases h2;have:j=id:=by simpa using hb
   simp [this]
  ·rename_i hb
   rw [h1]at h2;cases h2;have:¬j=id:=by simpa using hb
   simp [this]
theorem nS{F:Fence}{n:Nat}{c:Code}{Q:Exit->Act->World->Prop}(I:Nat->Act->World->Prop)(round:∀k a w,I k a w->c.wpIn F n P (Exit.then (λa' w'=>∃k',k'<k/\I k' a' w') Q) a w){k:Nat}{a:Act}{w:World}(h₀:I k a w):(Code.loop c).wpIn F n P Q a w:=by
 intro b kk cs hro hb hr;have key:∀j a w,I j a w->
   ∃e a' w',Q e a' w'/\ArrivesIn (Machine.fenced P F) P (lone (b.atR a (.code c :: .inLoop c ::kk)) cs w) b kk cs e a' w':=by
  intro j
  induction j using Nat.strongRecOn with
  |_ j ih=>
   intro a w hI;obtain⟨e,a₁,w₁,hq,harr⟩:=round j a w hI b (.inLoop c ::kk) cs hro hb hr;cases e with
   |normal=>
    obtain⟨k',hlt,hI₁⟩:=hq;obtain⟨e₂,a₂,w₂,hq₂,harr₂⟩:=ih k' hlt a₁ w₁ hI₁;exact⟨e₂,a₂,w₂,hq₂,.of_steps (StepsIn.trans harr (.one (fenced_calm hb hr rfl) stepR_inLoop)) harr₂⟩
   |exit id=>exact⟨_,a₁,w₁,hq,.pass (x:= .inLoop c) rfl (λ_ _=>.inl (by simp)) harr⟩
   |goto l=>exact⟨_,a₁,w₁,hq,.pass (x:= .inLoop c) rfl (λ_ _=>.inl (by simp)) harr⟩
   |ret=>exact⟨_,a₁,w₁,hq,.pass (x:= .inLoop c) rfl (λ_ _=>.inl (by simp)) harr⟩
   |panic ch=>exact⟨_,a₁,w₁,hq,.pass (x:= .inLoop c) rfl (λ_ _=>.inl (by simp)) harr⟩
   |outgrown=>exact⟨_,a₁,w₁,hq,.pass (x:= .inLoop c) rfl (λ_ _=>.inl (by simp)) harr⟩
 obtain⟨e,a',w',hq,harr⟩:=key _ a w h₀;exact⟨e,a',w',hq,.of_steps (.one (fenced_calm hb hr rfl) stepR_loop) harr⟩
theorem Ext.alloc{g:G}{h:H}{w:World}(r:WR T g h w)(o:Obj):Ext T g h w g h (w.alloc o):=by
 have r':WR T g h (w.alloc o):=by
  refine⟨r.bound,r.top,r.dom,λid b o' z e=>by rw [World.size_alloc];have:=r.lt _ _ _ _ e;omega,λid x b e1 e2=>?_,r.mates,r.kids,r.ext⟩;obtain⟨b',o',z⟩:=x;exact BR.move e1 (dV (r.lt _ _ _ _ e1)) (r.blk _ _ _ e1 e2)
 exact⟨g.le_refl,Nat.le_refl _,r',λ_ _ e=>⟨e,rfl⟩,by rw [World.size_alloc];omega,λb hb _=>dV hb,(λid b o z h1 h2=>by rw [h2]at h1;cases h1),λid b o' z n cs e1 e2=>⟨e2,dV (r.lt _ _ _ _ e1)⟩,rfl,rfl,rfl⟩
theorem jE{β:Type}{h:H}{id:Nat}{k:Nat->F->List Dst->ci->ci->Option X->Option β}{r:β}(e:h.loopOf id k=some r):∃st f ps as bd j,h.blk id=some (.loop st f ps as bd j)/\k st f ps as bd j=some r:=by
 obtain⟨b,h1,h2⟩:=bE.1 (show ob (h.blk id) _=some r from e);cases b with
 |loop st f ps as bd j=>exact⟨st,f,ps,as,bd,j,h1,h2⟩
 |_=>cases h2
theorem qZ{g:G}{h:H}{w:World}(r:WR T g h w){id b o z:Nat}{st:Nat}{f:F}{ps:List Dst}{as bd:ci}{j:Option X}{k':Blk}{l l':Loop}(hg:g id=some (b,o,z))(hb:h.blk id=some (.loop st f ps as bd j))(_hw:w.heap[b]? =some (.loop l))(hk':k'.kin=none)
  (hr:BR T g (w.putObj b (.loop l')) id k'):Ext T g h w g (h.set id k') (w.putObj b (.loop l')):=
 Ext.upd r hg hb rfl rfl hk' (λ_ _ h=>by cases h) (λi hi=>World.putObj_heap_other hi) World.putObj_size rfl rfl rfl hr
end
end
end Ev
end Go.Proofs.YtdfphfdnoobikaaGreatDoor
