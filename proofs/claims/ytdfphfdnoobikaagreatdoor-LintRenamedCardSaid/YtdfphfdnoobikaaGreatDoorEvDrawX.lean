/-
  Regions that draw their order,with calls that are known and memory that is only read from now on.
-/
import Derived.Test.YtdfphfdnoobikaaGreatDoorEvSit
namespace Go.Proofs.YtdfphfdnoobikaaGreatDoor
namespace Ev
section
section
variable {P:Program} {T:Ty} {M:Nat->Prop} {pk:Option (Nat×Nat)} {m N:Nat}
theorem gj.trans{E0 E E':En}{g0 g g':G}{h0 h h':H}{w0 w w':World}(a:gj T M E0 g0 h0 w0 E g h w)(b:gj T M E g h w E' g' h' w'):gj T M E0 g0 h0 w0 E' g' h' w':=by
 refine⟨E0.le_trans a.envl b.envl,λx c e=>?_,λid y l e=>b.le id y l (a.le id y l e),Nat.le_trans a.next b.next,b.sit,Nat.le_trans a.size b.size,λx f d=>?_,λid x o z e=>?_,λp j=>(b.pin p j).trans (a.pin p j),b.os.trans a.os,b.tape.trans a.tape,b.output.trans a.output⟩
 ·rcases b.envn x c e with k|k
  ·exact a.envn x c k
  ·exact .inr (Nat.le_trans a.size k)
 ·refine(b.keep x (Nat.lt_of_lt_of_le f a.size) λid o z e=>?_).trans (a.keep x f d)
  rcases a.fresh id x o z e with k | ⟨i,o',z',k⟩
  ·omega
  ·exact d i o' z' k
 ·rcases b.fresh id x o z e with k | ⟨i,o',z',k⟩
  ·exact .inl (Nat.le_trans a.size k)
  ·exact a.fresh i x o' z' k
theorem gj.wk{M':Nat->Prop}(hM:∀id,M' id->M id){E E':En}{g g':G}{h h':H}{w w':World}(x:gj T M' E g h w E' g' h' w'):gj T M E g h w E' g' h' w':=
 ⟨x.envl,x.envn,λid y hm e=>x.le id y (λk=>hm (hM id k)) e,x.next,x.sit,x.size,x.keep,x.fresh,x.pin,x.os,x.tape,x.output⟩
inductive dg(P:Program)(T:Ty)(M:Nat->Prop)(pk:Option (Nat×Nat))(cl:List cj)(hi:Nat->Nat):Nat->St->List Ent->St->Prop
 |nil {k:Nat} {s:St}:dg P T M pk cl hi k s [] s
 |cons {i k:Nat} {s s' sn:St} {c:cj} {v:V} {tr:List Ent} (hc:cl[i]? =some c) (st:ol P T M pk {c with lo:=k,hi:=hi i} s v s')
   (t:dg P T M pk cl hi (if isE c.op=true then k+1 else k) s' tr sn):dg P T M pk cl hi k s (⟨i,k,v,s⟩ ::tr) sn
theorem uH{cl:List cj}{hi:Nat->Nat}:∀{ord:List Nat} {k:Nat} {l:List cj} {s sn:St},ra cl hi ord k=some l->wT P T M pk l s sn->∃tr,dg P T M pk cl hi k s tr sn/\tr.map (·.i)=ord
 |[],k,l,s,sn,h,hr=>by
  cases h;cases hr;exact⟨[],.nil,rfl⟩
 |i ::ord,k,l,s,sn,h,hr=>by
  rw [@oE noE]at h;obtain⟨c,h1,h2⟩:=bQ.1 h;obtain⟨r,h3,h4⟩:=bQ.1 h2;cases h4;rw [@dS noE]at h1;cases hr with
  |cons hst h6=>
  obtain⟨tr,k1,k2⟩:=uH h3 h6;exact⟨_,.cons h1 hst k1,by simp [k2]⟩
theorem dg.split{cl:List cj}{hi:Nat->Nat}:∀{A B:List Ent} {k:Nat} {s sn:St},dg P T M pk cl hi k s (A++B) sn->∃s',dg P T M pk cl hi k s A s'/\dg P T M pk cl hi (k+nE cl A) s' B sn
 |[],B,k,s,sn,h=>⟨s,.nil,h⟩
 |e ::A,B,k,s,sn,h=>by
  cases h with
  |cons hc st t=>
   rename_i i s1 c v
   obtain⟨s',k1,k2⟩:=dg.split (A:=A) t;refine⟨s',.cons hc st k1,?_⟩;have:(if isE c.op=true then k+1 else k)+nE cl A=k+nE cl (⟨i,k,v,s⟩ ::A):=by
    unfold nE;rw [List.filter_cons,@eI noE _ _ _ hc]
    split<;>simp<;>omega
   rw [<-this];exact k2
theorem dg.append{cl:List cj}{hi:Nat->Nat}:∀{A B:List Ent} {k:Nat} {s s' sn:St},dg P T M pk cl hi k s A s'->dg P T M pk cl hi (k+nE cl A) s' B sn->dg P T M pk cl hi k s (A++B) sn
 |[],B,k,s,s',sn,h,h'=>by cases h;exact h'
 |e ::A,B,k,s,s',sn,h,h'=>by
  cases h with
  |cons hc st t=>
   rename_i i s1 c v
   have:(if isE c.op=true then k+1 else k)+nE cl A=k+nE cl (⟨i,k,v,s⟩ ::A):=by
    unfold nE;rw [List.filter_cons,@eI noE _ _ _ hc]
    split<;>simp<;>omega
   rw [<-this]at h';exact .cons hc st (dg.append t h')
theorem dg.head{cl:List cj}{hi:Nat->Nat}{k:Nat}{s sn:St}{e:Ent}{B:List Ent}(h:dg P T M pk cl hi k s (e ::B) sn):e.s=s/\e.k=k/\∃c s',cl[e.i]? =some c/\ol P T M pk {c with lo:=k,hi:=hi e.i} s e.v s'/\dg P T M pk cl hi (if isE c.op=true then k+1 else k) s' B sn:=by
 cases h with
 |cons hc st t=>exact⟨rfl,rfl,_,_,hc,st,t⟩
theorem dg.names{ops:Array Oper}{cl:List cj}{hi:Nat->Nat}(hcl:∀(i:Nat) c,cl[i]? =some c->∃o,ops[i]? =some o/\lE T m N ops o c):∀{tr:List Ent} {k:Nat} {s sn:St},dg P T M pk cl hi k s tr sn->
  (∀t,(∀e∈tr,(ops[e.i]?).bind (·.dst)≠some t)->rdn m sn.f t=rdn m s.f t)/\
  ∀A e B,tr=A++e ::B->∀t,(ops[e.i]?).bind (·.dst)=some t->(∀e'∈B,(ops[e'.i]?).bind (·.dst)≠some t)->rdn m sn.f t=some e.v
 |[],k,s,sn,h=>by
  cases h;exact⟨λ_ _=>rfl,λA e B h=>by simp at h⟩
 |x ::tr,k,s,sn,h=>by
  cases h with
  |cons hc st t=>
   rename_i i s' c v
   obtain⟨o,ho,hp⟩:=hcl i c hc;obtain⟨k1,k2⟩:=dg.names hcl t;have hput:∀t,rdn m s'.f t=if o.dst=some t then some v else rdn m s.f t:=λt=>by
    rw [st.f];exact @vR noE _ _ _ _ hp.dst s.f v t
   refine⟨λt ht=>?_,λA e B he t hd hB=>?_⟩
   ·rw [k1 t λe he=>ht e (List.mem_cons_of_mem _ he),hput,if_neg]
    have:=ht _ List.mem_cons_self;simp only [ho,Option.bind_some]at this;exact this
   ·cases A with
    |nil=>
     simp only [List.nil_append,List.cons.injEq]at he;obtain⟨rfl,rfl⟩:=he;rw [k1 t hB,hput,if_pos];simp only [ho,Option.bind_some]at hd;exact hd
    |cons y A=>
     simp only [List.cons_append,List.cons.injEq]at he;exact k2 A e B he.2 t hd hB
theorem dg.hs{cl:List cj}{hi:Nat->Nat}:∀{tr:List Ent} {k:Nat} {s sn:St},dg P T M pk cl hi k s tr sn->sn.hs=((tr.filter λe=>dW cl e.i).map (·.s.h)).reverse++s.hs
 |[],k,s,sn,h=>by cases h;rfl
 |x ::tr,k,s,sn,h=>by
  cases h with
  |cons hc st t=>
   rename_i i s' c v
   rw [dg.hs t,st.hs,List.filter_cons,@eI noE _ _ _ hc];show _++(if isE c.op=true then s.h ::s.hs else s.hs)=_
   by_cases hE:isE c.op=true
   ·simp [hE]
   ·simp [hE]
theorem ol.cs{c:cj}{s s':St}{v:V}(st:ol P T M pk c s v s'):∀q∈s.cs,q∈s'.cs:=by
 intro q a;rcases st.main with⟨_,_,_,h4⟩ | ⟨vs,_,_,d⟩
 ·rw [h4];exact a
 ·cases d with
  |p eo e eh ec=>rw [ec];exact a
  |r eo e eh ec=>rw [ec];exact List.mem_cons_of_mem _ a
  |mkF eo er hz hl hf eh ec=>rw [ec];exact a
  |con he e c hf ec=>rw [ec];exact a
  |w he e ec=>rw [ec];exact a
  |pc he e c eh ec=>rw [ec];exact a
  |al hpk eo er ev ea hb hkin hJ eh ec=>rw [ec];exact a
theorem dg.cs{cl:List cj}{hi:Nat->Nat}:∀{tr:List Ent} {k:Nat} {s sn:St},dg P T M pk cl hi k s tr sn->∀c∈s.cs,c∈sn.cs
 |[],k,s,sn,h=>by cases h;exact λ_ h=>h
 |x ::tr,k,s,sn,h=>by
  cases h with
  |cons hc st t=>exact λq hq=>dg.cs t q (st.cs q hq)
theorem ol.same{c:cj}{s s':St}{v:V}(st:ol P T M pk c s v s')(hE:isE c.op=false):s'.h=s.h:=by
 rcases st.main with⟨_,_,h3,_⟩ | ⟨vs,_,_,d⟩
 ·exact h3
 ·cases d with
  |p eo e eh ec=>exact eh
  |r eo e eh ec=>exact eh
  |mkF eo er hz hl hf eh ec=>exact eh
  |con he e c hf ec=>rw [hE]at he;cases he
  |w he e ec=>rw [hE]at he;cases he
  |pc he e c eh ec=>exact eh
  |al hpk eo er ev ea hb hkin hJ eh ec=>exact eh
theorem ID{cl:List cj}{hi:Nat->Nat}:∀{B:List Ent} {k:Nat} {s sn:St},dg P T M pk cl hi k s B sn->∃S B' s',B=S++B'/\dg P T M pk cl hi k s S s'/\dg P T M pk cl hi k s' B' sn/\
  (∀e B'',B'=e ::B''->dW cl e.i=true)/\(∀e∈S,dW cl e.i=false)/\s'.h=s.h
 |[],k,s,sn,h=>by
  cases h;exact⟨[],[],s,rfl,.nil,.nil,by simp,by simp,rfl⟩
 |e ::B,k,s,sn,h=>by
  obtain⟨rfl,rfl,c,s1,hc,st,t⟩:=h.head;have hEc:=@eI noE _ _ _ hc
  by_cases hE:isE c.op=true
  ·refine⟨[],e ::B,e.s,rfl,.nil,h,λe' B'' he=>?_,by simp,rfl⟩
   cases he;rw [hEc];exact hE
  ·have hE':isE c.op=false:=by simpa using hE
   have t0:=t;rw [if_neg hE]at t;obtain⟨S,B',s',j,b,q3,a,d,g⟩:=ID t;refine⟨e ::S,B',s',by rw [j];rfl,.cons hc st (by rw [if_neg hE];exact b),q3,a,λy f=>?_,g.trans (st.same hE')⟩;rcases List.mem_cons.1 f with h|h
   ·rw [h,hEc];exact hE'
   ·exact d y h
end
section
variable {P:Program} {T:Ty} {M:Nat->Prop} {pk:Option (Nat×Nat)} {m N:Nat}
structure nL(P:Program)(T:Ty)(M:Nat->Prop)(pk:Option (Nat×Nat))(m N:Nat)(ops:Array Oper)(cl:List cj)(hi:Nat->Nat)(bs:List Nat)(s0:St)(tr:List Ent)(sn:St)(E0:En)(g0:G)(a0:Act)(w0:World)
  (listed:Array Bool) (a:Act) (w:World) (E:En) (g:G) (A B:List Ent) (sA:St):Prop where
 tr:tr=A++B
 tA:dg P T M pk cl hi 0 s0 A sA
 tB:dg P T M pk cl hi (nE cl A) sA B sn
 bnd:∀e B',B=e ::B'->dW cl e.i=true
 ext:gj T M E0 g0 s0.h w0 E g sA.h w
 size:listed.size=ops.size
 inA:∀i,listed.getD i false=true->∃e∈A,e.i=i
 es:∀e∈A,dW cl e.i=true->listed.getD e.i false=true
 closed:∀i,listed.getD i false=true->∀j,bit (cW bs i) j=true->listed.getD j false=true
 tsize:a.tmps.size=N
 old:∀t,(∀i,listed.getD i false=true->(ops[i]?).bind (·.dst)≠some t)->a.tmps[t]? =a0.tmps[t]?
 new:∀e∈A,listed.getD e.i false=true->∀t,(ops[e.i]?).bind (·.dst)=some t->∃u,a.tmps[t]? =some u/\@VR E g e.v u
 defers:a.defers=a0.defers
 un:∀k J,pk=some (k,J)->(∀(i:Nat) (c:cj) z,cl[i]? =some c->c.op= .a (.alloc z)->listed.getD i false=false)->g k=none
section
variable {ops:Array Oper} {cl:List cj} {hi:Nat->Nat} {bs ord:List Nat} {s0 sn:St} {tr:List Ent} {E0:En} {g0:G} {a0:Act} {w0:World} {listed:Array Bool} {a:Act} {w:World} {E:En} {g:G} {A B:List Ent} {sA:St}
theorem nL.tmps(r:ic T ops bs)(I:nL P T M pk m N ops cl hi bs s0 tr sn E0 g0 a0 w0 listed a w E g A B sA){i:Nat}{o:Oper}(ho:ops[i]? =some o){d:Dst}(hd:dst m N o.dst=some d){u:Value}{E':En}{g':G}
  (K:∀e∈A,∀t,(ops[e.i]?).bind (·.dst)=some t->∀x,@VR E g e.v x->@VR E' g' e.v x):
  (∀t,(∀j,(listed.setIfInBounds i true).getD j false=true->(ops[j]?).bind (·.dst)≠some t)->(a.put o.dst u).tmps[t]? =a0.tmps[t]?)/\
  (∀e∈A,(listed.setIfInBounds i true).getD e.i false=true->e.i≠i->∀t,(ops[e.i]?).bind (·.dst)=some t->∃x,(a.put o.dst u).tmps[t]? =some x/\@VR E' g' e.v x)/\
  (∀t,o.dst=some t->(a.put o.dst u).tmps[t]? =some u):=by
 have hi:i<listed.size:=by
  rw [I.size];rcases Nat.lt_or_ge i ops.size with k|k
  ·exact k
  ·rw [Array.getElem?_eq_none k]at ho;cases ho
 refine⟨λt y=>?_,λe z n f t b=>?_,λt b=>?_⟩
 ·rw [@kx noE,if_neg]
  ·refine I.old t λj F=>y j ?_
   rw [@dk noE _ _ _ hi]
   split
   ·rfl
   ·exact F
  ·intro q
   have:=y i (by rw [@dk noE _ _ _ hi,if_pos rfl]);rw [ho]at this;exact this q.1
 ·rw [@dk noE _ _ _ hi,if_neg f]at n
  obtain⟨x,J,C⟩:=I.new e z n t b;refine⟨x,?_,K e z t b x C⟩;rw [@kx noE,if_neg]
  ·exact J
  ·intro q
   obtain⟨p,D,s⟩:∃p,ops[e.i]? =some p/\p.dst=some t:=by
    cases l:ops[e.i]? with
    |none=>rw [l]at b;cases b
    |some p=>rw [l]at b;exact⟨p,rfl,b⟩
   have c:t∈d4 T ops o:=by
    unfold d4;rw [q.1];simp
   exact(r.names i e.i o p t (λh=>f h.symm) ho D s c).2 q.1
 ·rw [@kx noE,if_pos]
  refine⟨b,?_⟩;rw [I.tsize];rw [b]at hd;exact @Ar noE _ _ _ _ hd
theorem nL.held(u:ic T ops bs)(D:jU ops cl bs ord)(C:∀(i:Nat) c,cl[i]? =some c->∃o,ops[i]? =some o/\lE T m N ops o c)(k:tr.map (·.i)=ord)
  (I:nL P T M pk m N ops cl hi bs s0 tr sn E0 g0 a0 w0 listed a w E g A B sA) {x:Ent} (K:x∈A) {t:Nat} (b:(ops[x.i]?).bind (·.dst)=some t):rdn m sA.f t=some x.v:=by
 obtain⟨s,r,F⟩:=List.append_of_mem K;refine(I.tA.names C).2 s x r F t b λy O e=>?_;obtain⟨p,L,l⟩:∃p:Oper,ops[x.i]? =some p/\p.dst=some t:=by
  cases d:ops[x.i]? with
  |none=>rw [d]at b;cases b
  |some p=>rw [d]at b;exact⟨p,rfl,b⟩
 obtain⟨q,Q,z⟩:∃p:Oper,ops[y.i]? =some p/\p.dst=some t:=by
  cases d:ops[y.i]? with
  |none=>rw [d]at e;cases e
  |some p=>rw [d]at e;exact⟨p,rfl,e⟩
 have n:x.i≠y.i:=by
  intro h;obtain⟨G,J,rfl⟩:=List.append_of_mem O;have:=(D.pre (s.map (·.i)++x.i ::G.map (·.i)) y.i (J.map (·.i)++B.map (·.i)) (by rw [<-k,I.tr,F];simp)).2.1;exact this (by rw [<-h];simp)
 have j:t∈d4 T ops p:=by
  unfold d4;rw [l];simp
 exact(u.names x.i y.i p q t n L Q z j).2 l
theorem sO{f:F}(a:jh M f){t:Nat}{v:V}(e:rdn m f t=some v):dG M v:=by
 unfold rdn at e
 split at e
 ·exact a _ (.inl (@mH noE _ _ _ e))
 ·exact a _ (.inr (@mH noE _ _ _ e))
theorem nL.reads(K:ic T ops bs)(n:jU ops cl bs ord)(Z:∀(i:Nat) c,cl[i]? =some c->∃o,ops[i]? =some o/\lE T m N ops o c)(z:tr.map (·.i)=ord)(F0:@FR E0 g0 m N s0.f a0.tmps)(a1:jh M s0.f)
  (I:nL P T M pk m N ops cl hi bs s0 tr sn E0 g0 a0 w0 listed a w E g A B sA) {e:Ent} {O A1:List Ent} (hA:tr=O++e ::A1) (t0:dg P T M pk cl hi 0 s0 O e.s) {o:Oper} (ho:ops[e.i]? =some o)
  (hl:listed.getD e.i false=false) (V:∀j,bit (cW bs e.i) j=true->listed.getD j false=true):
  ∀t∈d4 T ops o,∀v,rdn m e.s.f t=some v->∃u,a.tmps[t]? =some u/\@VR E g v u:=by
 intro t ht v Q;have l:ord=(O.map (·.i))++e.i ::(A1.map (·.i)):=by rw [<-z,hA];simp
 obtain⟨p1,p2,p3⟩:=n.pre _ _ _ l;obtain⟨n1,n2⟩:=t0.names Z;have d:∀j:Nat,(ops[j]?).bind (λx:Oper=>x.dst)=some t->∃p:Oper,ops[j]? =some p/\p.dst=some t:=by
  intro j C;cases W:ops[j]? with
  |none=>rw [W]at C;cases C
  |some p=>rw [W]at C;exact⟨p,rfl,C⟩
 have b:∀x∈O,bit (cW bs x.i) e.i=true->False:=by
  intro x D hb;obtain⟨s,r,rfl⟩:=List.append_of_mem D;have:=(n.pre (s.map (·.i)) x.i (r.map (·.i)++e.i ::A1.map (·.i)) (by rw [l];simp)).1 e.i hb;exact p2 (by rw [List.map_append,List.mem_append];exact .inl this)
 by_cases hw:∃x∈O,(ops[x.i]?).bind (·.dst)=some t
 ·obtain⟨x,D,F⟩:=hw
  obtain⟨p,Y,k⟩:=d x.i F;obtain⟨s,r,rfl⟩:=List.append_of_mem D;have J:e.i≠x.i:=λh=>p2 (by rw [h,List.map_append,List.map_cons];simp);have G:rdn m e.s.f t=some x.v:=by
   refine n2 s x r rfl t F λy R a5=>?_;obtain⟨q,hq,a4⟩:=d y.i a5;have a2:x.i≠y.i:=by
    intro h;obtain⟨r1,r2,rfl⟩:=List.append_of_mem R;have:=(n.pre (s.map (·.i)++x.i ::r1.map (·.i)) y.i (r2.map (·.i)++e.i ::A1.map (·.i)) (by rw [l];simp)).2.1;exact this (by rw [<-h];simp)
   have L:t∈d4 T ops p:=by
    unfold d4;rw [k];simp
   exact(K.names x.i y.i p q t a2 Y hq a4 L).2 k
  rw [G]at Q;cases Q;have hb:bit (cW bs e.i) x.i=true:=by
   rcases (K.names e.i x.i o p t J ho Y k ht).1 with q|q
   ·exact q
   ·exact(b x D q).elim
  have U:=V _ hb;obtain⟨y,R,a3⟩:=I.inA _ U;have S:y=x:=@fi noE _ _ _ _ _ n z _ _ (by rw [I.tr];exact List.mem_append_left _ R) (by rw [hA];exact List.mem_append_left _ (by simp)) a3;rw [S]at R;exact I.new x R U t F
 ·have G:rdn m e.s.f t=rdn m s0.f t:=n1 t λx D hd=>hw ⟨x,D,hd⟩
  rw [G]at Q;obtain⟨u,k1,k2⟩:=F0.2 t v Q;refine⟨u,?_,sO a1 Q E g0 g u I.ext.le (k2.env I.ext.envl)⟩;rw [I.old t λj C hd=>?_]
  ·exact k1
  ·obtain⟨p,Y,k⟩:=d j hd
   have J:e.i≠j:=by
    intro h;rw [<-h,hl]at C;cases C
   rcases (K.names e.i j o p t J ho Y k ht).1 with q|q
   ·have:=p1 j q
    rw [List.mem_map]at this;obtain⟨x,D,rfl⟩:=this;exact hw ⟨x,D,hd⟩
   ·have:=I.closed j C e.i q
    rw [hl]at this;cases this
theorem nL.same(K:ic T ops bs)(L:jU ops cl bs ord)(l:tr.map (·.i)=ord)(I:nL P T M pk m N ops cl hi bs s0 tr sn E0 g0 a0 w0 listed a w E g A B sA){e:Ent}(R:e∈A){o:Oper}(ho:ops[e.i]? =some o)(W:listed.getD e.i false=false)
  (p:∀j,bit (cW bs e.i) j=true->listed.getD j false=true) {d:Dst} (hd:dst m N o.dst=some d) {u:Value} {E':En} {g':G} {w':World} (x:gj T noM E g sA.h w E' g' sA.h w') (V:@VR E' g' e.v u) (C:∀k J,pk=some (k,J)->(∀(c:cj) z,cl[e.i]? =some c->c.op≠.a (.alloc z))->g k=none->g' k=none):
  nL P T M pk m N ops cl hi bs s0 tr sn E0 g0 a0 w0 (listed.setIfInBounds e.i true) (a.put o.dst u) w' E' g' A B sA:=by
 have b:=@jR noE _ _ _ ho;have O:g.le g':=λid y e=>x.le id y (λk=>k) e;obtain⟨S,t2,U⟩:=I.tmps (u:=u) K ho hd (λe _ t _ y k=>(@VR.mono E' g g' O _ _ (k.env x.envl)));refine⟨I.tr,I.tA,I.tB,I.bnd,I.ext.trans (x.wk λ_ k=>k.elim),by simp [I.size],λi hi=>?_,λy s hE=>?_,@kQ noE _ _ _ _ _ I.size ho I.closed p,by rw [@lY noE];exact I.tsize,S,λy s D t f=>?_,(@dH noE _ _ _).trans I.defers,λk J Q h=>?_⟩
 rotate_left 3
 ·have old:∀(i:Nat) (c:cj) z,cl[i]? =some c->c.op= .a (.alloc z)->i≠e.i/\listed.getD i false=false:=λi c z r n=>by
   have:=h i c z r n;rw [@dk noE _ _ _ (by rw [I.size];exact b)]at this
   split at this
   ·cases this
   ·rename_i q;exact⟨q,this⟩
  exact C k J Q (λc z r n=>(old _ _ _ r n).1 rfl) (I.un k J Q λi c z r n=>(old i c z r n).2)
 ·rw [@dk noE _ _ _ (by rw [I.size];exact b)]at hi
  split at hi
  ·rename_i h;exact⟨e,R,h.symm⟩
  ·exact I.inA i hi
 ·rw [@dk noE _ _ _ (by rw [I.size];exact b)]
  split
  ·rfl
  ·exact I.es y s hE
 ·by_cases hye:y.i=e.i
  ·have F:y=e:=@fi noE _ _ _ _ _ L l _ _ (by rw [I.tr];exact List.mem_append_left _ s) (by rw [I.tr];exact List.mem_append_left _ R) hye
   subst F;rw [ho]at f;exact⟨u,U t f,V⟩
  ·exact t2 y s D hye t f
theorem nL.write(R:ic T ops bs)(B:jU ops cl bs ord)(a5:∀(i:Nat) c,cl[i]? =some c->∃o,ops[i]? =some o/\lE T m N ops o c)(b:tr.map (·.i)=ord){e:Ent}{B':List Ent}(I:nL P T M pk m N ops cl hi bs s0 tr sn E0 g0 a0 w0 listed a w E g A (e ::B') sA)(hE:dW cl e.i=true){o:Oper}(ho:ops[e.i]? =some o)(hl:listed.getD e.i false=false)
  (U:∀j,bit (cW bs e.i) j=true->listed.getD j false=true) {d:Dst} (hd:dst m N o.dst=some d) {c:cj} {s1:St} (hc:cl[e.i]? =some c) (hs:e.s=sA) (O:ol P T M pk {c with lo:=nE cl A,hi:=hi e.i} sA e.v s1)
  (ht:dg P T M pk cl hi (if isE c.op=true then nE cl A+1 else nE cl A) s1 B' sn) (V:e.k=nE cl A) {u:Value} {E':En} {g':G} {w':World} (x:gj T M E g sA.h w E' g' s1.h w') (hv:@VR E' g' e.v u) (a7:(∀id x,g id=some x->g' id=some x)\/jh M sA.f) (a6:∀k J,pk=some (k,J)->g k=none->g' k=none):
  ∃A' B'' sA',nL P T M pk m N ops cl hi bs s0 tr sn E0 g0 a0 w0 (listed.setIfInBounds e.i true) (a.put o.dst u) w' E' g' A' B'' sA':=by
 have C:=@jR noE _ _ _ ho;obtain⟨t1,t2,t3⟩:=I.tmps (u:=u) R ho hd (E':=E') (g':=g') (λy l t n z k=>by
  rcases a7 with q|q
  ·exact @VR.mono E' g g' q _ _ (k.env x.envl)
  ·exact sO q (I.held R B a5 b l n) E' g g' z x.le (k.env x.envl))
 obtain⟨S,B'',s',q1,q2,q3,q4,q5,q6⟩:=ID ht;have a9:isE c.op=true:=by rw [<-@eI noE _ _ _ hc];exact hE
 have a1:nE cl (A++e ::S)=nE cl A+1:=by
  unfold nE;rw [List.filter_append,List.filter_cons,if_pos hE];have:S.filter (λe=>dW cl e.i)=[]:=by
   rw [List.filter_eq_nil_iff];intro y l;rw [q5 y l];decide
  rw [this];simp
 have he:e=⟨e.i,nE cl A,e.v,sA⟩:=by
  obtain⟨i,k,v,s⟩:=e;simp only at hs V;rw [hs,V]
 have p:tr=(A++e ::S)++B'':=by rw [I.tr,q1];simp
 have a3:dg P T M pk cl hi 0 s0 (A++e ::S) s':=by
  refine dg.append I.tA ?_;rw [he];rw [Nat.zero_add];exact .cons hc O q2
 have K:∀y∈A++e ::S,y∈A\/y=e\/y∈S:=by
  intro y l;rcases List.mem_append.1 l with h|h
  ·exact .inl h
  ·rcases List.mem_cons.1 h with h|h
   ·exact .inr (.inl h)
   ·exact .inr (.inr h)
 have W:ord=A.map (·.i)++e.i ::(S++B'').map (·.i):=by rw [<-b,I.tr,q1];simp
 have D:∀y∈S,(listed.setIfInBounds e.i true).getD y.i false=false:=by
  intro y l;have F:y∈tr:=by rw [p];simp [l]
  have Y:e∈tr:=by rw [p];simp
  rw [@dk noE _ _ _ (by rw [I.size];exact C),if_neg]
  ·cases r:listed.getD y.i false with
   |false=>rfl
   |true=>
    obtain⟨z,hz,Z⟩:=I.inA _ r;have Q:z=y:=@fi noE _ _ _ _ _ B b _ _ (by rw [p];simp [hz]) F Z;subst Q;obtain⟨a4,a2,rfl⟩:=List.append_of_mem l;have:=(B.pre (A.map (·.i)++e.i ::a4.map (·.i)) z.i (a2.map (·.i)++B''.map (·.i)) (by rw [W];simp)).2.1;exact(this (List.mem_append_left _ (List.mem_map.2 ⟨z,hz,rfl⟩))).elim
  ·intro h
   have:=@fi noE _ _ _ _ _ B b _ _ F Y h;subst this;rw [q5 y l]at hE;cases hE
 refine⟨A++e ::S,B'',s',p,a3,by rw [a1];rw [if_pos a9]at q3;exact q3,q4,by rw [q6];exact I.ext.trans x,by simp [I.size],λi hi=>?_,λy l L=>?_,@kQ noE _ _ _ _ _ I.size ho I.closed U,by rw [@lY noE];exact I.tsize,t1,λy l r t n=>?_,(@dH noE _ _ _).trans I.defers,λk J hp h=>?_⟩
 rotate_left 3
 ·refine a6 k J hp (I.un k J hp λi c z k1 k2=>?_)
  have:=h i c z k1 k2;rw [@dk noE _ _ _ (by rw [I.size];exact C)]at this
  split at this
  ·cases this
  ·exact this
 ·rw [@dk noE _ _ _ (by rw [I.size];exact C)]at hi
  split at hi
  ·rename_i h;exact⟨e,by simp,h.symm⟩
  ·obtain⟨y,l,b0⟩:=I.inA i hi
   exact⟨y,by simp [l],b0⟩
 ·rw [@dk noE _ _ _ (by rw [I.size];exact C)]
  split
  ·rfl
  ·rename_i a8
   rcases K y l with h|h|h
   ·exact I.es y h L
   ·exact absurd (by rw [h]) a8
   ·rw [q5 y h]at L;cases L
 ·rcases K y l with h|h|h
  ·by_cases hye:y.i=e.i
   ·have F:y∈tr:=by rw [p];simp [h]
    have:y=e:=@fi noE _ _ _ _ _ B b _ _ F (by rw [p];simp) hye;subst this;rw [ho]at n;exact⟨u,t3 t n,hv⟩
   ·exact t2 y h r hye t n
  ·subst h
   rw [ho]at n;exact⟨u,t3 t n,hv⟩
  ·rw [D y h]at r;cases r
theorem dg.still{k0 J:Nat}(f:pk=some (k0,J)){hi:Nat->Nat}{cl:List cj}:∀{B:List Ent} {k:Nat} {s sn:St},dg P T M pk cl hi k s B sn->k+nE cl B<=J->sn.h=s.h
 |[],k,s,sn,h,_=>by cases h;rfl
 |e ::B,k,s,sn,h,hJ=>by
  obtain⟨rfl,rfl,c,s1,hc,st,t⟩:=h.head;have hEc:=@eI noE _ _ _ hc
  by_cases hE:isE c.op=true
  ·rw [if_pos hE]at t
   have hn:nE cl (e ::B)=nE cl B+1:=by
    unfold nE;rw [List.filter_cons,hEc,if_pos hE,List.length_cons]
   refine(t.still f (by omega)).trans ?_;rcases st.main with⟨_,_,h3,_⟩ | ⟨vs,_,_,d⟩
   ·exact h3
   ·cases d with
    |p a=>have a:c.op=_:=a;rw [a]at hE;cases hE
    |r a=>have a:c.op=_:=a;rw [a]at hE;cases hE
    |mkF a=>have a:c.op=_:=a;rw [a]at hE;cases hE
    |con _ _ _ _ _ q=>rw [f]at q;cases q
    |w _ _ _ q=>have q:J<=e.k:=q _ _ f;omega
    |pc _ _ _ eh _=>exact eh
    |al _ a=>have a:c.op=_:=a;rw [a]at hE;cases hE
  ·have b:isE c.op=false:=by simpa using hE
   rw [if_neg hE]at t;have hn:nE cl (e ::B)=nE cl B:=by
    unfold nE;rw [List.filter_cons,hEc,b,if_neg (by decide)]
   exact(t.still f (by omega)).trans (st.same b)
theorem Ew(k:jU ops cl bs ord)(d:tr.map (·.i)=ord)(j:∀(i:Nat) c,cl[i]? =some c->∃o,ops[i]? =some o/\lE T m N ops o c)(I:nL P T M pk m N ops cl (qG ops cl bs) bs s0 tr sn E0 g0 a0 w0 listed a w E g A B sA){i:Nat}(u:listed.getD i false=false):nE cl A<=qG ops cl bs i:=by
 unfold nE;show _<=cD _;rw [@cq noE];have h1:(A.filter λe=>dW cl e.i).length=((A.filter λe=>dW cl e.i).map (·.i)).length:=by simp
 rw [h1];refine @rS noE _ _ ?_ λx n=>?_
 ·have h:∀(pre l post:List Ent),tr=pre++l++post->(l.map (·.i)).Nodup:=by
   intro pre l
   induction l generalizing pre with
   |nil=>intro post _;exact List.nodup_nil
   |cons e l ih=>
    intro post p;rw [List.map_cons,List.nodup_cons];refine⟨λq=>?_,ih (pre++[e]) post (by rw [p];simp)⟩;rw [List.mem_map]at q;obtain⟨y,b,f⟩:=q;obtain⟨s,r,rfl⟩:=List.append_of_mem b;have:=(k.pre (pre.map (·.i)++e.i ::s.map (·.i)) y.i (r.map (·.i)++post.map (·.i)) (by rw [<-d,p];simp)).2.1;exact this (by rw [f];simp)
  have:=h [] A B (by rw [I.tr];simp);exact List.Sublist.nodup (List.Sublist.map _ List.filter_sublist) this
 ·rw [List.mem_map]at n
  obtain⟨y,b,rfl⟩:=n;rw [List.mem_filter]at b;rw [List.mem_filter,List.mem_filter,List.mem_range];refine⟨⟨?_,b.2⟩,?_⟩
  ·have:∃c,cl[y.i]? =some c:=by
    cases hc:cl[y.i]? with
    |some c=>exact⟨c,rfl⟩
    |none=>
     have:=b.2;unfold dW at this;rw [@dS noE,hc]at this;cases this
   obtain⟨c,hc⟩:=this;obtain⟨o,ho,_⟩:=j _ _ hc;exact @jR noE _ _ _ ho
  ·have:=I.es y b.1 b.2
   cases t:bit (cW bs y.i) i with
   |false=>rfl
   |true=>
    have:=I.closed _ this _ t;rw [u]at this;cases this
theorem nL.done(s:jU ops cl bs ord)(l:tr.map (·.i)=ord)(d:∀(i:Nat) c,cl[i]? =some c->∃o,ops[i]? =some o/\lE T m N ops o c)(G:ic T ops bs)(R:@FR E0 g0 m N s0.f a0.tmps)(C:jh M s0.f)
  (I:nL P T M pk m N ops cl hi bs s0 tr sn E0 g0 a0 w0 listed a w E g A B sA) (n:∀i,i<ops.size->listed.getD i false=true):gj T M E0 g0 s0.h w0 E g sn.h w/\@FR E g m N sn.f a.tmps/\a.defers=a0.defers:=by
 have y:B=[]:=by
  cases y:B with
  |nil=>rfl
  |cons e B'=>
   have r:=I.tr;rw [y]at r;have hE:=I.bnd e B' y;have hc:∃c,cl[e.i]? =some c:=by
    cases hc:cl[e.i]? with
    |some c=>exact⟨c,rfl⟩
    |none=>
     unfold dW at hE;rw [@dS noE,hc]at hE;cases hE
   obtain⟨c,hc⟩:=hc;obtain⟨o,ho,_⟩:=d _ _ hc;obtain⟨x,k,F⟩:=I.inA e.i (n _ (@jR noE _ _ _ ho));have:=(s.pre (A.map (·.i)) e.i (B'.map (·.i)) (by rw [<-l,r];simp)).2.1;exact(this (by rw [<-F];exact List.mem_map.2 ⟨x,k,rfl⟩)).elim
 have hs:sA=sn:=by
  have:=I.tB;rw [y]at this;cases this;rfl
 subst hs;refine⟨I.ext,⟨I.tsize,λt v q=>?_⟩,I.defers⟩;obtain⟨n1,n2⟩:=I.tA.names d;have b:∀e∈A,listed.getD e.i false=true:=by
  intro e L;obtain⟨K,J,Q⟩:=List.append_of_mem L;obtain⟨s',_,D⟩:=dg.split (A:=K) (B:=e ::J) (by rw [<-Q];exact I.tA);obtain⟨_,_,c,_,hc,_,_⟩:=D.head;obtain⟨o,ho,_⟩:=d _ _ hc;exact n _ (@jR noE _ _ _ ho)
 by_cases hw:∃x∈A,(ops[x.i]?).bind (λo:Oper=>o.dst)=some t
 ·obtain⟨x,k,p⟩:=hw
  have z:=I.held G s d l k p;rw [z]at q;cases q;exact I.new x k (b x k) t p
 ·rw [n1 t λx k hd=>hw ⟨x,k,hd⟩]at q
  obtain⟨u,S,D⟩:=R.2 t v q;refine⟨u,?_,sO C q E g0 g u I.ext.le (D.env I.ext.envl)⟩;rw [I.old t λj O hd=>?_]
  ·exact S
  ·obtain⟨x,k,rfl⟩:=I.inA j O
   exact hw ⟨x,k,hd⟩
theorem Es(E:En):@fA E P T (λ_ _ _=>none):=@fA.mk E _ _ _ (λf vs h v h' e=>by cases e) (λid vs h v h' e=>by cases e)
theorem yF(hT:da P T)(d1:gU (gh T m N ops) ops.toList=some cl)(L:ic T ops bs)(l:jU ops cl bs ord)(d:tr.map (·.i)=ord)(c6:dg P T M pk cl (qG ops cl bs) 0 s0 tr sn)
  (f2:s0.hs=[]) (d2:pk≠none->∀(i j:Nat) (c c':cj) (z z':List V),cl[i]? =some c->cl[j]? =some c'->c.op= .a (.alloc z)->c'.op= .a (.alloc z')->i=j) (b9:∀k J,pk=some (k,J)->k<s0.h.next) (e4:bR sn.cs (jP sn.hs [sn.h])) (F0:@FR E0 g0 m N s0.f a0.tmps) (b5:jh M s0.f) {Q:Exit->Act->World->Prop}
  (hQ:∀E' g' a' w',gj T M E0 g0 s0.h w0 E' g' sn.h w'->@FR E' g' m N sn.f a'.tmps->a'.defers=a0.defers->Q .normal a' w'):∀(fuel:Nat) (listed:Array Bool) (a:Act) (w:World) (E:En) (g:G) (A B:List Ent) (sA:St),
  nL P T M pk m N ops cl (qG ops cl bs) bs s0 tr sn E0 g0 a0 w0 listed a w E g A B sA->left ops listed<=fuel->wpAnyIn (fen none) 0 P .any ops Q fuel listed a w:=by
 have S:∀(i:Nat) c,cl[i]? =some c->∃o,ops[i]? =some o/\lE T m N ops o c:=by
  intro i c hc;obtain⟨a2,a4⟩:=@mc noE _ _ _ _ _ d1;have hi:i<ops.toList.length:=by
   rw [<-a2];rcases Nat.lt_or_ge i cl.length with k|k
   ·exact k
   ·rw [List.getElem?_eq_none k]at hc;cases hc
  obtain⟨b,h1,h2⟩:=a4 i _ (List.getElem?_eq_getElem hi);rw [hc]at h1;cases h1;exact⟨_,by rw [<-Array.getElem?_toList];exact List.getElem?_eq_getElem hi,@dM noE _ _ _ _ _ _ h2⟩
 intro fuel
 induction fuel with
 |zero=>
  intro listed a w E g A B sA I hf;have a4:=@vf noE _ _ (Nat.le_zero.1 hf);refine⟨?_,?_⟩
  ·unfold Region.ready
   rw [List.filter_eq_nil_iff];intro i hi;rw [List.mem_range]at hi;have:=a4 i hi;rw [Array.getD_eq_getD_getElem?,Array.getElem?_eq_getElem (by rw [I.size];exact hi)]at this;rw [Array.getD_eq_getD_getElem?,Array.getElem?_eq_getElem (by rw [I.size];exact hi)];simp only [Option.getD_some]at this ⊢;rw [this];simp
  ·obtain⟨Z,x2,x3⟩:=I.done l d S L F0 b5 a4
   exact hQ _ _ _ _ Z x2 x3
 |succ fuel ih=>
  intro listed a w E g A B sA I hf;refine⟨λhn=>?_,λi hi=>?_⟩
  ·obtain⟨Z,x2,x3⟩:=I.done l d S L F0 b5 (@uR noE _ _ _ _ L I.size hn)
   exact hQ _ _ _ _ Z x2 x3
  ·obtain⟨e0,hl,o,ho,a9⟩:=@uS noE _ _ _ I.size hi
   have x:∀j,bit (cW bs i) j=true->listed.getD j false=true:=by
    intro j hj;obtain⟨e,U,hb,h⟩:=L.before i o ho j hj;rcases h with rfl|h
    ·exact a9 e U hb
    ·exact I.closed _ (a9 e U hb) _ h
   have C:left ops (listed.setIfInBounds i true)<=fuel:=by
    have:=@ye noE _ _ _ I.size e0 hl;omega
   obtain⟨e,a7,rfl⟩:∃e∈tr,e.i=i:=by
    have:=l.all i e0;rw [<-d,List.mem_map]at this;exact this
   obtain⟨A0,A1,hA⟩:=List.append_of_mem a7;obtain⟨s',t0,t1⟩:=dg.split (A:=A0) (B:=e ::A1) (by rw [<-hA];exact c6);obtain⟨a8,e6,c,s1,hc,st,t2⟩:=t1.head;rw [<-a8]at t0;rw [Nat.zero_add]at e6 st t2;have a3:=I.reads L l S d F0 b5 hA t0 ho hl x;obtain⟨o',e5,hp⟩:=S _ _ hc;rw [ho]at e5;cases e5;have n:=I.ext.sit;have R:∀{b:Bool},cm e.s.f c.guard=some b->Region.wanted o (yielded ops a.tmps)=b:=λhg=>@gf E _ _ _ g _ _ _ hp _ _ _ hg (λt ht v hv=>a3 t (by
    obtain⟨gi,gw,h1,h2⟩:=ht;unfold d4;rw [h1];simp [h2]) v hv)
   have W:∀{vs:List V} {os:List Operand},bT T o.op=some (c.op,os)->gU (opd T m) os=some c.args->evs e.s.f c.args=some vs->@VRs E g vs (os.map a.eval):=λh1 h2 h3=>@kL E T m g _ w n.glob _ a _ _ _ h2 h3 λt ht v hv=>a3 t (by
    unfold d4;rw [h1];refine List.mem_append_right _ (List.mem_append_left _ ?_);exact List.mem_filterMap.2 ⟨.tmp t,ht,rfl⟩) v hv
   unfold wpOpIn;simp only [ho]
   by_cases hE:dW cl e.i=true
   ·have O:isE c.op=true:=by rw [<-@eI noE _ _ _ hc];exact hE
    have hB:∃B',B=e ::B':=by
     have e9:e∉A:=λh=>by
      have:=I.es e h hE;rw [hl]at this;cases this
     have b2:e∈B:=by
      rw [I.tr]at a7;exact(List.mem_append.1 a7).resolve_left e9
     cases F:B with
     |nil=>rw [F]at b2;cases b2
     |cons b B'=>
      rw [F]at b2;rcases List.mem_cons.1 b2 with h|h
      ·exact⟨B',by rw [h]⟩
      ·have hb:=I.bnd b B' F
       obtain⟨Y,a1,rfl⟩:=List.append_of_mem h;have b0:tr=(A++b ::Y)++e ::a1:=by rw [I.tr,F];simp
       have b7:=x _ ((l.pre ((A++b ::Y).map (·.i)) e.i (a1.map (·.i)) (by rw [<-d,b0];simp)).2.2 b.i (List.mem_map.2 ⟨b,by simp,rfl⟩) hb);obtain⟨y,hy,c0⟩:=I.inA _ b7;have:=(l.pre (A.map (·.i)) b.i ((Y++e ::a1).map (·.i)) (by rw [<-d,I.tr,F];simp)).2.1;exact(this (by rw [<-c0];exact List.mem_map.2 ⟨y,hy,rfl⟩)).elim
    obtain⟨B',rfl⟩:=hB;obtain⟨K,a5,c',Y,d0,b1,b3⟩:=I.tB.head;rw [hc]at d0;cases d0;rcases b1.main with⟨h1,h2,h3,h4⟩ | ⟨vs,h1,h2,dx⟩
    ·rw [R (by rw [K];exact h1)]
     refine⟨λ_ _=>trivial,?_⟩;obtain⟨A',b6,b4,I'⟩:=I.write (u:=undef) L l S d hE ho hl x hp.dst hc K b1 b3 a5 (by rw [h3];exact .refl n) (by rw [h2];exact @gG E g) (.inl λ_ _ k=>k) λ_ _ _ k=>k;exact ih _ _ _ _ _ _ _ _ I' C
    ·rw [R (by rw [K];exact h1)]
     obtain⟨os,k1,k2⟩:=hp.op;cases dx with
     |p D=>have D:c.op=_:=D;rw [D]at O;cases O
     |r D=>have D:c.op=_:=D;rw [D]at O;cases O
     |mkF D=>have D:c.op=_:=D;rw [D]at O;cases O
     |con U ec cn hfr ecs hpk=>
      refine xr n k1 (W k1 k2 (by rw [K];exact h2)) ec cn λE' g' w' u Z x2=>?_;obtain⟨A',b6,b4,I'⟩:=I.write L l S d hE ho hl x hp.dst hc K b1 b3 a5 Z x2 (.inr hfr) λk J q=>by rw [hpk]at q;cases q
      exact ih _ _ _ _ _ _ _ _ I' C
     |w U er ecs hJ=>
      refine @mz E P T hT _ (Es E) g _ _ w n.wr n.glob o _ os a k1 vs _ (W k1 k2 (by rw [K];exact h2)) er _ _ _ λg' w' u Z x2=>?_;obtain⟨A',b6,b4,I'⟩:=I.write L l S d hE ho hl x hp.dst hc K b1 b3 a5 (gj.of n Z) x2 (.inl (@Ext.le E _ _ _ _ _ _ _ Z)) λk J q e=>(@Ext.un E _ _ _ _ _ _ _ Z k (Nat.lt_of_lt_of_le (b9 k J q) I.ext.next) e).1;exact ih _ _ _ _ _ _ _ _ I' C
     |pc U ec cn eh ecs=>
      refine F4 n k1 (W k1 k2 (by rw [K];exact h2)) ec cn λE' w' u Z x2=>?_;obtain⟨A',b6,b4,I'⟩:=I.write L l S d hE ho hl x hp.dst hc K b1 b3 a5 (by rw [show Y.h=sA.h from eh];exact Z.wk λ_ q=>q.elim) x2 (.inl λ_ _ k=>k) λ_ _ _ k=>k;exact ih _ _ _ _ _ _ _ _ I' C
     |al hpk D=>have D:c.op=_:=D;rw [D]at O;cases O
   ·have a6:e∈A:=by
     rw [I.tr]at a7;rcases List.mem_append.1 a7 with h|h
     ·exact h
     ·cases F:B with
      |nil=>rw [F]at h;cases h
      |cons b B'=>
       rw [F]at h;have hb:=I.bnd b B' F;rcases List.mem_cons.1 h with h|h
       ·rw [h]at hE;exact absurd hb hE
       ·obtain⟨Y,a1,rfl⟩:=List.append_of_mem h
        have b0:tr=(A++b ::Y)++e ::a1:=by rw [I.tr,F];simp
        have b7:=x _ ((l.pre ((A++b ::Y).map (·.i)) e.i (a1.map (·.i)) (by rw [<-d,b0];simp)).2.2 b.i (List.mem_map.2 ⟨b,by simp,rfl⟩) hb);obtain⟨y,hy,c0⟩:=I.inA _ b7;have:=(l.pre (A.map (·.i)) b.i ((Y++e ::a1).map (·.i)) (by rw [<-d,I.tr,F];simp)).2.1;exact(this (by rw [<-c0];exact List.mem_map.2 ⟨y,hy,rfl⟩)).elim
    have O:isE c.op=false:=by rw [<-@eI noE _ _ _ hc];simpa using hE
    rcases st.main with⟨h1,h2,h3,h4⟩ | ⟨vs,h1,h2,dx⟩
    ·rw [R (by rw [a8];exact h1)]
     refine⟨λ_ _=>trivial,?_⟩;exact ih _ _ _ _ _ _ _ _ (I.same L l d a6 ho hl x hp.dst (.refl n) (by rw [h2];exact @gG E g) λ_ _ _ _ k=>k) C
    ·rw [R (by rw [a8];exact h1)]
     obtain⟨os,k1,k2⟩:=hp.op;have hv:=W k1 k2 (by rw [a8];exact h2);have jS:c.op.run (λ_ _ _=>none) vs sA.h=some (e.v,sA.h)->o.wpIn (fen none) 0 P a w (wpAnyIn (fen none) 0 P .any ops Q fuel (listed.setIfInBounds e.i true)) Q:=λe3=>
      @mz E P T hT _ (Es E) g _ _ w n.wr n.glob o _ os a k1 vs _ hv e3 _ _ _ λg' w' u Z x2=>ih _ _ _ _ _ _ _ _ (I.same L l d a6 ho hl x hp.dst (gj.of n Z) x2 λk J q _ e=>(@Ext.un E _ _ _ _ _ _ _ Z k (Nat.lt_of_lt_of_le (b9 k J q) I.ext.next) e).1) C
     cases dx with
     |@p po D er eh ecs=>
      have D:c.op= .p po:=D;refine jS ?_;rw [D];show ob (po.run vs) (λv=>some (v,sA.h))=_;rw [er];rfl
     |@r ro D er eh ecs=>
      have D:c.op= .r ro:=D;refine jS ?_;rw [D];show ob (ro.run vs sA.h) (λv=>some (v,sA.h))=_;have c1:(⟨ro,vs,e.v,nE cl A0,qG ops cl bs e.i⟩:Tc)∈sn.cs:=t2.cs _ (by rw [ecs];exact List.mem_cons_self);have f1:=e4 _ c1;have c8:=c6.hs;rw [f2,List.append_nil,I.tr]at c8;have e7:(jP sn.hs [sn.h])[nE cl A]? =some sA.h:=by
       rw [@vO noE,c8,List.reverse_reverse,List.filter_append,List.map_append];have a2:((A.filter λe=>dW cl e.i).map λe=>e.s.h).length=nE cl A:=by simp [nE]
       rw [List.append_assoc,List.getElem?_append_right (by rw [a2];exact Nat.le_refl _),a2,Nat.sub_self];cases F:B with
       |nil=>
        have:=I.tB;rw [F]at this;cases this;rfl
       |cons b B'=>
        have hb:=I.bnd b B' F;have:=I.tB;rw [F]at this;obtain⟨q1,_⟩:=this.head;rw [List.filter_cons,if_pos hb,List.map_cons,q1];rfl
      have e8:nE cl A0<=nE cl A:=by
       obtain⟨z1,z2,rfl⟩:=List.append_of_mem a6;have d6:A0=z1:=by
        refine @mC noE A0 A1 z1 (z2++B) e (by rw [<-hA,I.tr];simp) (λh=>?_) λh=>?_
        ·have:=(l.pre (z1.map (·.i)) e.i ((z2++B).map (·.i)) (by rw [<-d,I.tr];simp)).2.1
         exact this (List.mem_map.2 ⟨e,h,rfl⟩)
        ·have:=(l.pre (A0.map (·.i)) e.i (A1.map (·.i)) (by rw [<-d,hA];simp)).2.1
         exact this (List.mem_map.2 ⟨e,h,rfl⟩)
       subst d6;simp [nE,List.filter_append]
      have:=f1 (nE cl A) _ e7 e8 (Ew l d S I hl);simp only at this;rw [this];rfl
     |@mkF ao cs mk D er hz hln hfr eh ecs=>
      have D:c.op= .a ao:=D;rw [D]at k1;refine xq hT n k1 hv er hz hln (hfr _) λE' w' u Z x2=>?_;exact ih _ _ _ _ _ _ _ _ (I.same L l d a6 ho hl x hp.dst Z x2 λ_ _ _ _ k=>k) C
     |con U=>have U:isE c.op=true:=U;rw [O]at U;cases U
     |w U=>have U:isE c.op=true:=U;rw [O]at U;cases U
     |pc U=>have U:isE c.op=true:=U;rw [O]at U;cases U
     |@al zero b mk k J hpk D er ev ea hb hkin hJ eh ecs=>
      have D:c.op= .a (.alloc zero):=D;have ev:e.v=mk k:=ev;have hb:e.s.h.blk k=some b:=by rw [a8];exact hb
      have hJ:qG ops cl bs e.i<=J:=hJ;rw [D]at k1;subst ea;have b8:sA.h=e.s.h:=by
       obtain⟨z1,z2,hz⟩:=List.append_of_mem a6;have d6:A0=z1:=by
        refine @mC noE A0 A1 z1 (z2++B) e (by rw [<-hA,I.tr,hz];simp) (λh=>?_) λh=>?_
        ·have:=(l.pre (z1.map (·.i)) e.i ((z2++B).map (·.i)) (by rw [<-d,I.tr,hz];simp)).2.1
         exact this (List.mem_map.2 ⟨e,h,rfl⟩)
        ·have:=(l.pre (A0.map (·.i)) e.i (A1.map (·.i)) (by rw [<-d,hA];simp)).2.1
         exact this (List.mem_map.2 ⟨e,h,rfl⟩)
       have tA:=I.tA;rw [hz]at tA;obtain⟨sB,y0,y1⟩:=dg.split (A:=z1) (B:=e ::z2) tA;obtain⟨y2,_⟩:=y1.head;have hn:=Ew l d S I hl;have f4:nE cl A=nE cl z1+nE cl (e ::z2):=by
        unfold nE;rw [hz,List.filter_append,List.length_append]
       rw [y2];exact y1.still hpk (by omega)
      have f0:=I.un k J hpk λi c' z e1 e2=>by
       rw [d2 (by rw [hpk];exact λq=>by cases q) i e.i c' c z zero e1 hc e2 D];exact hl
      refine F6 hT n k1 hv er f0 (Nat.lt_of_lt_of_le (b9 k J hpk) I.ext.next) (by rw [b8];exact hb) hkin λg' w' u Z x2=>?_;exact ih _ _ _ _ _ _ _ _ (I.same L l d a6 ho hl x hp.dst Z (by rw [ev];exact x2) λ_ _ _ q _=>absurd D (q c zero hc)) C
end
theorem qr{cl:List cj}{hi:Nat->Nat}:∀{ord:List Nat} {k:Nat} {l:List cj},ra cl hi ord k=some l->∀(p i:Nat),ord[p]? =some i->∃c c':cj,cl[i]? =some c/\l[p]? =some c'/\c'.op=c.op
 |[],_,_,_,p,i,e=>by simp at e
 |j ::ord,k,l,h,p,i,e=>by
  rw [@oE noE]at h;obtain⟨c,h1,h2⟩:=bQ.1 h;obtain⟨r,h3,h4⟩:=bQ.1 h2;cases h4;rw [@dS noE]at h1;cases p with
  |zero=>
   obtain rfl:j=i:=by simpa using e
   exact⟨c,_,h1,rfl,rfl⟩
  |succ p=>exact qr h3 p i (by simpa using e)
def One(l:List cj):Prop:=∀(p q:Nat) (c c':cj) (z z':List V),l[p]? =some c->l[q]? =some c'->c.op= .a (.alloc z)->c'.op= .a (.alloc z')->p=q
theorem yG(hT:da P T)(hm:P.follows .mixedOrders=true){ops:Array Oper}{cl:List cj}{id:Nat}{l:List cj}(R:pk≠none->One l)(K:gU (gh T m N ops) ops.toList=some cl)(hd:vx T cl ops=some l){U:F}{h0:H}{s:St}(hr:wT P T M pk l ⟨U,h0,[],[]⟩ s)(D:bR s.cs (jP s.hs [s.h]))
  {E:En} {g:G} {a:Act} {w:World} (st:Sit T E g h0 w) (F0:@FR E g m N U a.tmps) (Y:jh M U) (C:∀k J,pk=some (k,J)->k<h0.next/\g k=none) {Q:Exit->Act->World->Prop}
  (hQ:∀E' g' a' w',gj T M E g h0 w E' g' s.h w'->@FR E' g' m N s.f a'.tmps->a'.defers=a.defers->Q .normal a' w'):(Code.region id ops true).wpIn (fen none) 0 P Q a w:=by
 obtain⟨bs,ord,a4,O,u⟩:=@yK noE _ _ _ _ hd;obtain⟨tr,B,v⟩:=uH u hr;refine wpIn_region_any hm ?_;have r1:@WR E T g h0 {w with drawn:=w.drawn+1}:=@WR.drew1 E _ _ _ _ st.wr;have s1:Sit T E g h0 {w with drawn:=w.drawn+1}:=Sit.mk' r1 st.pin λb c e=>st.env e;obtain⟨S,B',s',q1,q2,q3,q4,q5,q6⟩:=ID B;have a0:gj T M E g h0 w E g h0 {w with drawn:=w.drawn+1}:=⟨E.le_refl,λ_ _ h=>.inl h,λ_ _ _ h=>h,Nat.le_refl _,s1,Nat.le_refl _,λ_ _ _=>rfl,λid b o z e=>.inr ⟨id,o,z,e⟩,λ_ _=>rfl,rfl,rfl,rfl⟩
 have n:∀i,(Array.replicate ops.size false).getD i false=false:=by
  intro i;rw [Array.getD_eq_getD_getElem?,Array.getElem?_replicate]
  split<;>rfl
 have Z:nE cl S=0:=by
  unfold nE;rw [List.length_eq_zero_iff,List.filter_eq_nil_iff];intro y hy;rw [q5 y hy];decide
 have a5:s'.h=h0:=q6;have I:nL P T M pk m N ops cl (qG ops cl bs) bs ⟨U,h0,[],[]⟩ tr s E g a w (Array.replicate ops.size false) a {w with drawn:=w.drawn+1} E g S B' s':=
  ⟨q1,q2,by rw [Z];exact q3,q4,by rw [a5];exact a0,by simp,(λi hi=>by rw [n]at hi;cases hi),(λe he hE=>by rw [q5 e he]at hE;cases hE),(λi hi=>by rw [n]at hi;cases hi),F0.1,λ_ _=>rfl,(λe _ hl=>by rw [n]at hl;cases hl),rfl,λk J q _=>(C k J q).2⟩
 have r:pk≠none->∀(i j:Nat) (c c':cj) (z W:List V),cl[i]? =some c->cl[j]? =some c'->c.op= .a (.alloc z)->c'.op= .a (.alloc W)->i=j:=λhp i j c c' z W e1 e2 e3 e4=>by
  have L:∀(i:Nat) (c:cj),cl[i]? =some c->∃p:Nat,ord[p]? =some i:=λi c e=>by
   obtain⟨x,_⟩:=@mc noE _ _ _ _ _ K;have:=(List.getElem?_eq_some_iff.1 e).1;exact List.getElem?_of_mem (O.all i (by rw [<-Array.length_toList,<-x];exact this))
  obtain⟨p,A⟩:=L i c e1;obtain⟨q,t⟩:=L j c' e2;obtain⟨d,d',a1,a2,a3⟩:=qr u p i A;obtain⟨b,b',b1,b2,b3⟩:=qr u q j t;rw [e1]at a1;rw [e2]at b1;cases a1;cases b1;obtain rfl:=R hp p q d' b' z W a2 b2 (a3.trans e3) (b3.trans e4);rw [A]at t;cases t;rfl
 refine yF hT K a4 O v B rfl r (λk J q=>(C k J q).1) D F0 Y hQ ops.size _ a _ E g S B' s' I ?_;unfold left;refine Nat.le_trans (List.length_filter_le _ _) ?_;simp
end
end
section
section
variable [Env]
set_option linter.unusedSectionVars false
variable {P:Program} {T:Ty} {g:G} {ρ:Operand->Value} {h:H} {w:World}
theorem wE{op:Op}{n:Nat}{os:List Operand}(hc:bT T op=some (.e (.store n),os)):∃t x y,op= .store t x y/\os=[x,y]/\im T t=some n:=by
 cases op
 case call c=>
  obtain⟨callee,args,argTypes⟩:=c;simp only [bT]at hc;cases callee with
  |value x=>
   cases x with
   |func f'=>cases hc
   |_=>cases hc
  |invoke r m=>cases hc
  |builtin b=>
   obtain⟨t,h1,h2⟩:=bQ.1 hc;obtain⟨d,o,g⟩:=bQ.1 h2;cases b
   case len=>cases d<;>cases g
   case append=>
    cases d with
    |slice e=>
     obtain⟨n,_,f⟩:=bQ.1 g;obtain⟨_,_,j⟩:=bQ.1 f;obtain⟨_,_,q⟩:=bQ.1 j;obtain⟨_,a4⟩:=bW.1 q;obtain⟨_,_,D⟩:=bQ.1 a4;obtain⟨_,_,A⟩:=bQ.1 D
     split at A<;>cases A
    |_=>cases g
   case copy=>
    cases d with
    |slice e=>obtain⟨n,B,f⟩:=bQ.1 g;cases f
    |_=>cases g
   case clear=>
    cases d with
    |slice e=>
     obtain⟨n,B,f⟩:=bQ.1 g;obtain⟨z,F,j⟩:=bQ.1 f;cases j
    |_=>cases g
   case delete=>
    cases d with
    |map k e=>obtain⟨kk,B,f⟩:=bQ.1 g;cases f
    |_=>cases g
   all_goals (cases d<;>cases g)
 case alloc t=>
  simp only [bT]at hc;obtain⟨z,h1,h⟩:=bQ.1 hc;cases h
 case buildSlice t n ps=>
  simp only [bT]at hc;obtain⟨d,_,h⟩:=bQ.1 hc;cases d with
  |slice e=>
   obtain⟨_,_,f⟩:=bQ.1 h;obtain⟨_,_,j⟩:=bQ.1 f;obtain⟨_,q⟩:=bW.1 j;cases q
  |_=>cases h
 case makeMap t r=>
  simp only [bT]at hc;obtain⟨d,_,h⟩:=bQ.1 hc;cases d<;>cases h
 case makeSlice t l c=>
  simp only [bT]at hc;obtain⟨d,_,h⟩:=bQ.1 hc;cases d with
  |slice e=>
   obtain⟨_,_,f⟩:=bQ.1 h;obtain⟨_,_,j⟩:=bQ.1 f;obtain⟨_,_,q⟩:=bQ.1 j;obtain⟨_,a4⟩:=bW.1 q;cases a4
  |_=>cases h
 case range t x=>
  simp only [bT]at hc;obtain⟨d,_,h⟩:=bQ.1 hc;cases d<;>cases h
 case load t x=>
  simp only [bT]at hc;obtain⟨b,h1,h2⟩:=bQ.1 hc;obtain⟨n,o,g⟩:=bQ.1 h2;cases g
 case lookup t x k ok=>
  simp only [bT]at hc;obtain⟨d,h1,h2⟩:=bQ.1 hc;cases d with
  |map kt e=>
   obtain⟨kk,o,g⟩:=bQ.1 h2;obtain⟨z,p,u⟩:=bQ.1 g;cases u
  |_=>cases h2
 case binOp op t x y t'=>
  have w:∀{neg v:Bool} {d:TypeDesc},tM T t neg v d=some (.e (.store n))->False:=by
   intro neg v d h2;cases d with
   |interface e=>obtain⟨g,p⟩:=bW.1 h2;cases p
   |pointer e=>obtain⟨k,g,p⟩:=bQ.1 h2;cases p
   |struct fs=>obtain⟨k,g,p⟩:=bQ.1 h2;cases p
   |_=>cases h2
  cases op
  case eql=>
   simp only [bT]at hc;obtain⟨d,h1,h2⟩:=bQ.1 hc;obtain⟨c,o,g⟩:=bQ.1 h2;cases g;exact(w (neg:=false) o).elim
  case neq=>
   simp only [bT]at hc;obtain⟨d,h1,h2⟩:=bQ.1 hc;obtain⟨c,o,g⟩:=bQ.1 h2;cases g;exact(w (neg:=true) o).elim
  all_goals cases hc
 case build t ps=>
  simp only [bT]at hc;obtain⟨z,h1,h2⟩:=bQ.1 hc;obtain⟨d,o,g⟩:=bQ.1 h2;cases d with
  |struct fs=>
   obtain⟨G,p,u⟩:=bQ.1 g;obtain⟨l,E,C⟩:=bQ.1 u;cases C
  |array k e=>
   obtain⟨n,p,u⟩:=bQ.1 g;cases u
  |_=>cases g
 case convert s d x=>
  simp only [bT]at hc;obtain⟨a,h1,h2⟩:=bQ.1 hc;obtain⟨b,o,g⟩:=bQ.1 h2;cases a<;>cases b<;>first|(cases g;done)|(cases(gF g).1)
 case makeInterface t x=>
  simp only [bT]at hc;obtain⟨d,h1,h2⟩:=bQ.1 hc;cases d<;>cases h2
 case makeFunc fn a b=>cases fn<;>cases hc
 case slice t x lo hi mx=>
  simp only [bT]at hc;obtain⟨d,_,h⟩:=bQ.1 hc;cases d with
  |string=>cases h
  |slice e=>obtain⟨_,_,f⟩:=bQ.1 h;cases f
  |array k e=>obtain⟨_,_,f⟩:=bQ.1 h;cases f
  |_=>cases h
 case fieldAddr t x i=>
  simp only [bT]at hc;obtain⟨d,_,h⟩:=bQ.1 hc;cases d with
  |struct fs=>
   obtain⟨_,_,f⟩:=bQ.1 h;obtain⟨_,_,j⟩:=bQ.1 f;cases j
  |_=>cases h
 case field t x i=>
  simp only [bT]at hc;obtain⟨d,_,h⟩:=bQ.1 hc;cases d with
  |struct fs=>
   obtain⟨_,_,f⟩:=bQ.1 h;obtain⟨_,_,j⟩:=bQ.1 f;obtain⟨_,_,q⟩:=bQ.1 j;cases q
  |_=>cases h
 case indexAddr t x i=>
  simp only [bT]at hc;obtain⟨d,_,h⟩:=bQ.1 hc;cases d with
  |slice e=>obtain⟨_,_,f⟩:=bQ.1 h;cases f
  |array k e=>obtain⟨_,_,f⟩:=bQ.1 h;cases f
  |_=>cases h
 case index t x i=>
  simp only [bT]at hc;obtain⟨d,_,h⟩:=bQ.1 hc;cases d with
  |string=>cases h
  |array k e=>
   obtain⟨_,_,f⟩:=bQ.1 h;obtain⟨_,_,j⟩:=bQ.1 f;cases j
  |_=>cases h
 case insert t m k x=>
  simp only [bT]at hc;obtain⟨d,_,h⟩:=bQ.1 hc;cases d with
  |map k e=>
   obtain⟨_,_,f⟩:=bQ.1 h;cases f
  |_=>cases h
 case mapEntry t m k=>
  simp only [bT]at hc;obtain⟨d,_,h⟩:=bQ.1 hc;cases d with
  |map k e=>
   obtain⟨_,_,f⟩:=bQ.1 h;obtain⟨_,_,j⟩:=bQ.1 f;cases j
  |_=>cases h
 case mapUpdate t m k x=>
  simp only [bT]at hc;obtain⟨d,_,h⟩:=bQ.1 hc;cases d with
  |map k e=>
   obtain⟨_,_,f⟩:=bQ.1 h;cases f
  |_=>cases h
 case store t a x=>
  simp only [bT]at hc;obtain⟨_,h1,f⟩:=bQ.1 hc;cases f;exact⟨t,a,x,rfl,rfl,h1⟩
 case next x b=>cases b<;>cases hc
 all_goals cases hc
theorem Dr:∀{l:List V} {us:List Value} {i k:Nat} {h h':H} {w:World} {id b o z:Nat},WR T g h w->g id=some (b,o,z)->VRs g l us->H.wr id l (i+k) h=some h'->
  ∃w',Ext T g h w g h' w'/\(storeCells ⟨b,o+i,none⟩ us k).run P w= .ok () w'/\∀j,j≠b->w'.heap[j]? =w.heap[j]?
 |[],_,i,k,h,h',w,id,b,o,z,r,hg,hl,e=>by
  cases hl;cases e;exact⟨w,.refl r,by simp [storeCells],λ_ _=>rfl⟩
 |v ::l,_,i,k,h,h',w,id,b,o,z,r,hg,hl,e=>by
  cases hl with
  |cons hv ht=>
   rename_i u us
   rw [AO]at e;obtain⟨h1,e1,e2⟩:=bQ.1 e;obtain⟨x1,⟨c,hc⟩,hf⟩:=Ext.wr1 r e1 hg hv;have hone:cQ v=true:=by
    unfold H.wr1 at e1;obtain⟨s,_,f⟩:=bQ.1 e1;cases s with
    |cells n cs up ch=>
     obtain⟨_,q⟩:=bW.1 f;obtain⟨_,t⟩:=bW.1 q;exact(bW.1 t).1
    |_=>cases f
   obtain⟨w',m,h2,p⟩:=Dr (i:=i) (k:=k+1) x1.wr hg ht e2;refine⟨w',x1.trans m,?_,λj d=>(p j d).trans (iK _ d)⟩;have a:(⟨b,o+(i+k),none⟩:Addr)=(⟨b,o+i,none⟩:Addr).add k:=by simp [Addr.add,Nat.add_assoc]
   rw [a]at hc hf h2;simp only [storeCells,Sem.run_bind,uK (oI hv hone) hc hf,Result.andThen_ok];rw [<-a]at h2 ⊢;exact h2
theorem Am(u:da P T)(r:WR T g h w){t:TypeId}{n:Nat}{x y:Operand}{id:Nat}{b:V}{h':H}(m:im T t=some n)(c:VR g (.ptr id 0) (ρ x))(s:VR g b (ρ y))(v:(cellsOf b).length=n)(p:H.wr id (cellsOf b) 0 h=some h'):
  ∃w' b' o z,g id=some (b',o,z)/\Ext T g h w g h' w'/\AK P ρ w (.store t x y) undef w'/\∀j,j≠b'->w'.heap[j]? =w.heap[j]? :=by
 cases d:ρ x<;>rw [d]at c<;>cases c
 rename_i b' o z hg
 have hc:=gN s;obtain⟨w',l,e,f⟩:=Dr (P:=P) (i:=0) (k:=0) r hg hc p;have a:=hc.length;refine⟨w',b',o,z,hg,l,λo' q=>.inr ⟨?_,rfl⟩,f⟩;have hs:¬(ρ y).cells.size≠n:=by simp only [ne_eq,Decidable.not_not];simp at a;omega
 simp only [execOp,q,d,Instr.storeAt,Instr.sureAddr,storeVar,Sem.run_bind,Sem.run_pure,Result.andThen_ok,cL u m];rw [if_neg hs];simp only [Nat.add_zero]at e ⊢;simp [e]
end
section
variable {P:Program} {T:Ty} {m N:Nat}
theorem DH(v:da P T){E:En}{g:G}{h:H}{w:World}(s:Sit T E g h w){o:Oper}{zero:List V}{os:List Operand}{a:Act}(hc:bT T o.op=some (.a (.alloc zero),os))(r:@VRs E g [] (os.map a.eval))
  (m:(AOp.alloc zero).run []=some (.cells zero.length (cM zero 0 .e) none false,λi=>.ptr i 0)) (A:h.next<bZ) {k:Act->World->Prop} {Q:Exit->Act->World->Prop}
  (n:∀obj z u,@WR E T (fp g h.next (w.heap.size,0,z)) ⟨h.t.put h.next (some (.cells zero.length (cM zero 0 .e) none false)),Nat.succ h.next⟩ (w.alloc obj)->@VR E (fp g h.next (w.heap.size,0,z)) (.ptr h.next 0) u->u= .pointer (some ⟨w.heap.size,0,none⟩)->k (a.put o.dst u) (w.alloc obj)):o.wpIn (fen none) 0 P a w k Q:=by
 refine⟨λ_ _=>trivial,?_⟩;rw [Oper.semAt_eq _ _ _ (@fQ noE _ _ _ _ hc)];have l:=@FU E P T g a.eval v _ _ _ hc _ _ _ r m;obtain⟨obj,z,val,p,q,y⟩:=@ml.make E _ _ _ _ _ _ _ l;have c:g h.next=none:=by
  cases e:g h.next with
  |none=>rfl
  |some x=>exact absurd (@WR.dom E _ _ _ _ s.wr _ _ e) (by omega)
 have f:=@fO noE g _ (w.heap.size,0,z) c;have b:=q _ _ _ f (@cH noE _ _ _);have j:=y _ (w.alloc obj) _ _ f (@cH noE _ _ _) (@dt noE w obj);have d:h.new (.cells zero.length (cM zero 0 .e) none false)=some ⟨h.t.put h.next (some (.cells zero.length (cM zero 0 .e) none false)),Nat.succ h.next⟩:=by
  show oif (Nat.blt h.next bZ) _=_;rw [show Nat.blt h.next bZ=true by simp [Nat.blt];omega];rfl
 rw [p w o rfl,Oper.uponIn_value];refine n obj z _ (@Ext.wr E _ _ _ _ _ _ _ (@Ext.new E T g h _ w s.wr _ _ _ d (@ml.kin E _ _ _ _ _ _ _ l) j)) b ?_;generalize val w.heap.size=vv at b;cases b with
 |ptr e=>
  rw [@cH noE]at e;cases e;rfl
theorem G3{E:En}{g:G}{h:H}{w:World}(s:Sit T E g h w){m:Obj}{z:Nat}{h1 h2:H}{A:World}(x:@Ext E T (fp g h.next (w.heap.size,0,z)) h1 (w.alloc m) (fp g h.next (w.heap.size,0,z)) h2 A)(n:∀j,j≠w.heap.size->A.heap[j]? =(w.alloc m).heap[j]?)
  {cs:List V} {cs':Tr V} (I:h2.blk h.next=some (.cells cs.length cs' none false)) (S:∀j v,cs[j]? =some v->cs'.get j=some v) (W:∀c,c∈cs->dG (λid=>id=h.next) c):
  ∃E',gj T noM E g h w E' g h A/\@VR E' g (.eptr cs 0) (.pointer (some ⟨w.heap.size,0,none⟩)):=by
 classical
 obtain⟨b,o',z',c,t,J,Q,k3,k4,k5,k6⟩:=(@WR.blk E T _ _ _ (@Ext.wr E _ _ _ _ _ _ _ x) _ _ _ (@cH noE _ _ _) I:@Cells E (fp g h.next (w.heap.size,0,z)) A h.next _ _)
 rw [@cH noE]at J;cases J;have M:E.ro w.heap.size=none:=by
  cases e:E.ro w.heap.size with
  |none=>rfl
  |some c=>
   obtain⟨⟨t,q⟩,_⟩:=s.env e;have:=(Array.getElem?_eq_some_iff.1 q).1;omega
 let E':En:=⟨λb=>if b=w.heap.size then some c else E.ro b⟩
 have hE:E.le E':=λb c' e=>by
  show(if b=w.heap.size then some c else E.ro b)=some c';rw [if_neg (λq=>by rw [q,M]at e;cases e),e]
 have R:E'.ro w.heap.size=some c:=if_pos rfl;have F:∀b c',E'.ro b=some c'->b=w.heap.size/\c'=c\/E.ro b=some c':=λb c' e=>by
  have e:(if b=w.heap.size then some c else E.ro b)=some c':=e
  by_cases q:b=w.heap.size
  ·rw [if_pos q]at e;cases e;exact .inl ⟨q,rfl⟩
  ·rw [if_neg q]at e;exact .inr e
 have D:∀j x,cs[j]? =some x->∃u,c[0+j]? =some u/\@VR E g x u:=λj x e=>by
  have Z:=(List.getElem?_eq_some_iff.1 e).1;obtain⟨u,B,C,_⟩:=k6 j x Z (S j x e);refine⟨u,B,W x (List.mem_of_getElem? e) E _ g u (λid y hn hy=>?_) C⟩;have:fp g h.next (w.heap.size,0,z) id=g id:=by unfold fp;rw [if_neg hn]
  rwa [this]at hy
 have O:∃xs,@VRs E g cs xs/\∀j u,xs[j]? =some u->c[0+j]? =some u:=by
  have:∀(l:List V) (k:Nat),(∀j x,l[j]? =some x->∃u,c[k+j]? =some u/\@VR E g x u)->∃xs,@VRs E g l xs/\∀j u,xs[j]? =some u->c[k+j]? =some u:=by
   intro l
   induction l with
   |nil=>exact λk _=>⟨[],@VRs.nil E g,λj u e=>by simp at e⟩
   |cons v l ih=>
    intro k h;obtain⟨u,h1,h2⟩:=h 0 v (by simp);obtain⟨xs,J,Q⟩:=ih (k+1) λj v e=>by
     obtain⟨u,B,C⟩:=h (j+1) v (by simpa using e);exact⟨u,by rw [show k+1+j=k+(j+1) by omega];exact B,C⟩
    refine⟨u ::xs,@VRs.cons E g _ _ _ _ h2 J,λj y e=>?_⟩;cases j with
    |zero=>simp at e;subst e;exact h1
    |succ j=>rw [show k+(j+1)=k+1+j by omega];exact Q j y (by simpa using e)
  exact this cs 0 D
 obtain⟨xs,x1,U⟩:=O;have K:(w.alloc m).heap.size=w.heap.size+1:=by show(w.heap.push m).size=_;rw [Array.size_push]
 have L:w.heap.size+1<=A.heap.size:=K ▸ @Ext.size E _ _ _ _ _ _ _ x;have i:∀b,b<w.heap.size->A.heap[b]? =w.heap[b]? :=λb I=>by
  rw [n b (by omega)];show(w.heap.push m)[b]? =_;rw [Array.getElem?_push,if_neg (by omega)]
 refine⟨E',⟨hE,λb c' e=>?_,λ_ _ _ e=>e,Nat.le_refl _,Sit.mk' ?_ s.pin (λb c' e=>?_),by omega,λb I _=>i b I,λid b o z e=>.inr ⟨id,o,z,e⟩,λp Y=>i _ (by
  obtain⟨⟨z,q⟩,_⟩:=s.pin p Y;exact s.lt q),(by have:=@Ext.os E _ _ _ _ _ _ _ x;exact this),(by have:=@Ext.tape E _ _ _ _ _ _ _ x;exact this),(by have:=@Ext.output E _ _ _ _ _ _ _ x;exact this)⟩,@VR.eptr E' g _ _ _ _ _ _ R U (x1.env hE)⟩
 ·rcases F b c' e with⟨q,_⟩|q
  ·exact .inr (by omega)
  ·exact .inl q
 ·have r:=WR.env hE s.wr
  cases r with
  |mk a b c d e f k' x=>
   exact @WR.mk E' T g h _ a b c (λid b o z q=>by have:=d _ _ _ _ q;omega) (λid y b P e2=>by
    obtain⟨b',o',z⟩:=y;exact @BR.move E' _ _ _ _ _ _ _ _ _ P (i _ (d _ _ _ _ P)) (e _ _ _ P e2)) f k' x
 ·rcases F b c' e with⟨rfl,rfl⟩|q
  ·exact⟨⟨(t,0,0),Q⟩,λid o z q=>absurd (s.lt q) (by omega)⟩
  ·obtain⟨⟨t,B⟩,C⟩:=s.env q
   exact⟨⟨t,(i _ (Array.getElem?_eq_some_iff.1 B).1).trans B⟩,C⟩
end
end
end Ev
end Go.Proofs.YtdfphfdnoobikaaGreatDoor
