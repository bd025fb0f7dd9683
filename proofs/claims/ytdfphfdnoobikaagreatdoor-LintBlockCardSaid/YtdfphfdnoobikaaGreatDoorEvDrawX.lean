/-
  Regions that draw their order,with calls that are known and memory that is only read from now on.
-/
import Derived.Test.YtdfphfdnoobikaaGreatDoorEvTree
namespace Go.Proofs.YtdfphfdnoobikaaGreatDoor
namespace Ev
section
section
variable {P:Program} {T:Ty} {M:Nat→Prop} {m N:Nat}
theorem fT.trans{E0 E E':En}{g0 g g':G}{h0 h h':H}{w0 w w':World}(a:fT T M E0 g0 h0 w0 E g h w)(b:fT T M E g h w E' g' h' w'):fT T M E0 g0 h0 w0 E' g' h' w':=by
 refine⟨E0.le_trans a.envl b.envl,fun x c e=>?_,fun id y hm e=>b.le id y hm (a.le id y hm e),Nat.le_trans a.next b.next,b.sit,Nat.le_trans a.size b.size,fun x hx hn=>?_,fun id x o z e=>?_,fun p hp=>(b.pin p hp).trans (a.pin p hp),b.os.trans a.os,b.tape.trans a.tape,b.output.trans a.output⟩
 ·rcases b.envn x c e with k|k
  ·exact a.envn x c k
  ·exact .inr (Nat.le_trans a.size k)
 ·refine(b.keep x (Nat.lt_of_lt_of_le hx a.size) fun id o z e=>?_).trans (a.keep x hx hn)
  rcases a.fresh id x o z e with k | ⟨i,o',z',k⟩
  ·omega
  ·exact hn i o' z' k
 ·rcases b.fresh id x o z e with k | ⟨i,o',z',k⟩
  ·exact .inl (Nat.le_trans a.size k)
  ·exact a.fresh i x o' z' k
theorem fT.wk{M':Nat→Prop}(hM:∀id,M' id→M id){E E':En}{g g':G}{h h':H}{w w':World}(x:fT T M' E g h w E' g' h' w'):fT T M E g h w E' g' h' w':=
 ⟨x.envl,x.envn,fun id y hm e=>x.le id y (fun k=>hm (hM id k)) e,x.next,x.sit,x.size,x.keep,x.fresh,x.pin,x.os,x.tape,x.output⟩
inductive cU(P:Program)(T:Ty)(M:Nat→Prop)(cl:List bQ)(hi:Nat→Nat):Nat→St→List Ent→St→Prop
 |nil {k:Nat} {s:St}:cU P T M cl hi k s [] s
 |cons {i k:Nat} {s s' sn:St} {c:bQ} {v:V} {tr:List Ent} (hc:cl[i]? =some c) (st:nF P T M {c with lo:=k,hi:=hi i} s v s')
   (t:cU P T M cl hi (if isE c.op=true then k+1 else k) s' tr sn):cU P T M cl hi k s (⟨i,k,v,s⟩ ::tr) sn
theorem rG{cl:List bQ}{hi:Nat→Nat}:∀{ord:List Nat} {k:Nat} {l:List bQ} {s sn:St},pY cl hi ord k=some l→vG P T M l s sn→∃tr,cU P T M cl hi k s tr sn∧tr.map (·.i)=ord
 |[],k,l,s,sn,h,hr=>by
  cases h
  cases hr
  exact⟨[],.nil,rfl⟩
 |i ::ord,k,l,s,sn,h,hr=>by
  rw [@pX noE]at h
  obtain⟨c,h1,h2⟩:=bC.1 h
  obtain⟨r,h3,h4⟩:=bC.1 h2
  cases h4
  rw [@dA noE]at h1
  cases hr with
  |cons hst h6=>
  obtain⟨tr,k1,k2⟩:=rG h3 h6
  exact⟨_,.cons h1 hst k1,by simp [k2]⟩
theorem cU.split{cl:List bQ}{hi:Nat→Nat}:∀{A B:List Ent} {k:Nat} {s sn:St},cU P T M cl hi k s (A++B) sn→∃s',cU P T M cl hi k s A s'∧cU P T M cl hi (k+nE cl A) s' B sn
 |[],B,k,s,sn,h=>⟨s,.nil,h⟩
 |e ::A,B,k,s,sn,h=>by
  cases h with
  |cons hc st t=>
   rename_i i s1 c v
   obtain⟨s',k1,k2⟩:=cU.split (A:=A) t
   refine⟨s',.cons hc st k1,?_⟩
   have:(if isE c.op=true then k+1 else k)+nE cl A=k+nE cl (⟨i,k,v,s⟩ ::A):=by
    unfold nE
    rw [List.filter_cons,@dR noE _ _ _ hc]
    split<;>simp<;>omega
   rw [←this]
   exact k2
theorem cU.append{cl:List bQ}{hi:Nat→Nat}:∀{A B:List Ent} {k:Nat} {s s' sn:St},cU P T M cl hi k s A s'→cU P T M cl hi (k+nE cl A) s' B sn→cU P T M cl hi k s (A++B) sn
 |[],B,k,s,s',sn,h,h'=>by cases h;exact h'
 |e ::A,B,k,s,s',sn,h,h'=>by
  cases h with
  |cons hc st t=>
   rename_i i s1 c v
   have:(if isE c.op=true then k+1 else k)+nE cl A=k+nE cl (⟨i,k,v,s⟩ ::A):=by
    unfold nE
    rw [List.filter_cons,@dR noE _ _ _ hc]
    split<;>simp<;>omega
   rw [←this]at h'
   exact .cons hc st (cU.append t h')
theorem cU.head{cl:List bQ}{hi:Nat→Nat}{k:Nat}{s sn:St}{e:Ent}{B:List Ent}(h:cU P T M cl hi k s (e ::B) sn):e.s=s∧e.k=k∧∃c s',cl[e.i]? =some c∧nF P T M {c with lo:=k,hi:=hi e.i} s e.v s'∧cU P T M cl hi (if isE c.op=true then k+1 else k) s' B sn:=by
 cases h with
 |cons hc st t=>exact⟨rfl,rfl,_,_,hc,st,t⟩
theorem cU.names{ops:Array Oper}{cl:List bQ}{hi:Nat→Nat}(hcl:∀(i:Nat) c,cl[i]? =some c→∃o,ops[i]? =some o∧jI T m N ops o c):∀{tr:List Ent} {k:Nat} {s sn:St},cU P T M cl hi k s tr sn→
  (∀t,(∀e∈tr,(ops[e.i]?).bind (·.dst)≠some t)→rdn m sn.f t=rdn m s.f t)∧
  ∀A e B,tr=A++e ::B→∀t,(ops[e.i]?).bind (·.dst)=some t→(∀e'∈B,(ops[e'.i]?).bind (·.dst)≠some t)→rdn m sn.f t=some e.v
 |[],k,s,sn,h=>by
  cases h
  exact⟨fun _ _=>rfl,fun A e B h=>by simp at h⟩
 |x ::tr,k,s,sn,h=>by
  cases h with
  |cons hc st t=>
   rename_i i s' c v
   obtain⟨o,ho,hp⟩:=hcl i c hc
   obtain⟨k1,k2⟩:=cU.names hcl t
   have hput:∀t,rdn m s'.f t=if o.dst=some t then some v else rdn m s.f t:=fun t=>by
    rw [st.f]
    exact @sO noE _ _ _ _ hp.dst s.f v t
   refine⟨fun t ht=>?_,fun A e B he t hd hB=>?_⟩
   ·rw [k1 t fun e he=>ht e (List.mem_cons_of_mem _ he),hput,if_neg]
    have:=ht _ List.mem_cons_self
    simp only [ho,Option.bind_some]at this
    exact this
   ·cases A with
    |nil=>
     simp only [List.nil_append,List.cons.injEq]at he
     obtain⟨rfl,rfl⟩:=he
     rw [k1 t hB,hput,if_pos]
     simp only [ho,Option.bind_some]at hd
     exact hd
    |cons y A=>
     simp only [List.cons_append,List.cons.injEq]at he
     exact k2 A e B he.2 t hd hB
theorem cU.hs{cl:List bQ}{hi:Nat→Nat}:∀{tr:List Ent} {k:Nat} {s sn:St},cU P T M cl hi k s tr sn→sn.hs=((tr.filter fun e=>dw cl e.i).map (·.s.h)).reverse++s.hs
 |[],k,s,sn,h=>by cases h;rfl
 |x ::tr,k,s,sn,h=>by
  cases h with
  |cons hc st t=>
   rename_i i s' c v
   rw [cU.hs t,st.hs,List.filter_cons,@dR noE _ _ _ hc]
   show _++(if isE c.op=true then s.h ::s.hs else s.hs)=_
   by_cases hE:isE c.op=true
   ·simp [hE]
   ·simp [hE]
theorem nF.cs{c:bQ}{s s':St}{v:V}(st:nF P T M c s v s'):∀q∈s.cs,q∈s'.cs:=by
 intro q hq
 rcases st.main with⟨_,_,_,h4⟩ | ⟨vs,_,_,d⟩
 ·rw [h4];exact hq
 ·cases d with
  |p eo e eh ec=>rw [ec];exact hq
  |r eo e eh ec=>rw [ec];exact List.mem_cons_of_mem _ hq
  |mkF eo er hz hl hf eh ec=>rw [ec];exact hq
  |con he e c hf ec=>rw [ec];exact hq
theorem cU.cs{cl:List bQ}{hi:Nat→Nat}:∀{tr:List Ent} {k:Nat} {s sn:St},cU P T M cl hi k s tr sn→∀c∈s.cs,c∈sn.cs
 |[],k,s,sn,h=>by cases h;exact fun _ h=>h
 |x ::tr,k,s,sn,h=>by
  cases h with
  |cons hc st t=>exact fun q hq=>cU.cs t q (st.cs q hq)
theorem nF.same{c:bQ}{s s':St}{v:V}(st:nF P T M c s v s')(hE:isE c.op=false):s'.h=s.h:=by
 rcases st.main with⟨_,_,h3,_⟩ | ⟨vs,_,_,d⟩
 ·exact h3
 ·cases d with
  |p eo e eh ec=>exact eh
  |r eo e eh ec=>exact eh
  |mkF eo er hz hl hf eh ec=>exact eh
  |con he e c hf ec=>rw [hE]at he;cases he
theorem Eu{cl:List bQ}{hi:Nat→Nat}:∀{B:List Ent} {k:Nat} {s sn:St},cU P T M cl hi k s B sn→∃S B' s',B=S++B'∧cU P T M cl hi k s S s'∧cU P T M cl hi k s' B' sn∧
  (∀e B'',B'=e ::B''→dw cl e.i=true)∧(∀e∈S,dw cl e.i=false)∧s'.h=s.h
 |[],k,s,sn,h=>by
  cases h
  exact⟨[],[],s,rfl,.nil,.nil,by simp,by simp,rfl⟩
 |e ::B,k,s,sn,h=>by
  obtain⟨rfl,rfl,c,s1,hc,st,t⟩:=h.head
  have hEc:=@dR noE _ _ _ hc
  by_cases hE:isE c.op=true
  ·refine⟨[],e ::B,e.s,rfl,.nil,h,fun e' B'' he=>?_,by simp,rfl⟩
   cases he
   rw [hEc]
   exact hE
  ·have hE':isE c.op=false:=by simpa using hE
   have t0:=t
   rw [if_neg hE]at t
   obtain⟨S,B',s',q1,q2,q3,q4,q5,q6⟩:=Eu t
   refine⟨e ::S,B',s',by rw [q1];rfl,.cons hc st (by rw [if_neg hE];exact q2),q3,q4,fun y hy=>?_,q6.trans (st.same hE')⟩
   rcases List.mem_cons.1 hy with h|h
   ·rw [h,hEc];exact hE'
   ·exact q5 y h
end
section
variable {P:Program} {T:Ty} {M:Nat→Prop} {m N:Nat}
structure lA(P:Program)(T:Ty)(M:Nat→Prop)(m N:Nat)(ops:Array Oper)(cl:List bQ)(hi:Nat→Nat)(bs:List Nat)(s0:St)(tr:List Ent)(sn:St)(E0:En)(g0:G)(a0:Act)(w0:World)
  (listed:Array Bool) (a:Act) (w:World) (E:En) (g:G) (A B:List Ent) (sA:St):Prop where
 tr:tr=A++B
 tA:cU P T M cl hi 0 s0 A sA
 tB:cU P T M cl hi (nE cl A) sA B sn
 bnd:∀e B',B=e ::B'→dw cl e.i=true
 ext:fT T M E0 g0 s0.h w0 E g sA.h w
 size:listed.size=ops.size
 inA:∀i,listed.getD i false=true→∃e∈A,e.i=i
 es:∀e∈A,dw cl e.i=true→listed.getD e.i false=true
 closed:∀i,listed.getD i false=true→∀j,bit (cG bs i) j=true→listed.getD j false=true
 tsize:a.tmps.size=N
 old:∀t,(∀i,listed.getD i false=true→(ops[i]?).bind (·.dst)≠some t)→a.tmps[t]? =a0.tmps[t]?
 new:∀e∈A,listed.getD e.i false=true→∀t,(ops[e.i]?).bind (·.dst)=some t→∃u,a.tmps[t]? =some u∧@VR E g e.v u
 defers:a.defers=a0.defers
section
variable {ops:Array Oper} {cl:List bQ} {hi:Nat→Nat} {bs ord:List Nat} {s0 sn:St} {tr:List Ent} {E0:En} {g0:G} {a0:Act} {w0:World} {listed:Array Bool} {a:Act} {w:World} {E:En} {g:G} {A B:List Ent} {sA:St}
theorem lA.tmps(hst:fR T ops bs)(I:lA P T M m N ops cl hi bs s0 tr sn E0 g0 a0 w0 listed a w E g A B sA){i:Nat}{o:Oper}(ho:ops[i]? =some o){d:Dst}(hd:dst m N o.dst=some d){u:Value}{E':En}{g':G}
  (hv:∀e∈A,∀t,(ops[e.i]?).bind (·.dst)=some t→∀x,@VR E g e.v x→@VR E' g' e.v x):
  (∀t,(∀j,(listed.setIfInBounds i true).getD j false=true→(ops[j]?).bind (·.dst)≠some t)→(a.put o.dst u).tmps[t]? =a0.tmps[t]?)∧
  (∀e∈A,(listed.setIfInBounds i true).getD e.i false=true→e.i≠i→∀t,(ops[e.i]?).bind (·.dst)=some t→∃x,(a.put o.dst u).tmps[t]? =some x∧@VR E' g' e.v x)∧
  (∀t,o.dst=some t→(a.put o.dst u).tmps[t]? =some u):=by
 have hi:i<listed.size:=by
  rw [I.size]
  rcases Nat.lt_or_ge i ops.size with k|k
  ·exact k
  ·rw [Array.getElem?_eq_none k]at ho;cases ho
 refine⟨fun t ht=>?_,fun e he hle hne t hdt=>?_,fun t hdt=>?_⟩
 ·rw [@jb noE,if_neg]
  ·refine I.old t fun j hj=>ht j ?_
   rw [@cY noE _ _ _ hi]
   split
   ·rfl
   ·exact hj
  ·intro hx
   have:=ht i (by rw [@cY noE _ _ _ hi,if_pos rfl])
   rw [ho]at this
   exact this hx.1
 ·rw [@cY noE _ _ _ hi,if_neg hne]at hle
  obtain⟨x,k1,k2⟩:=I.new e he hle t hdt
  refine⟨x,?_,hv e he t hdt x k2⟩
  rw [@jb noE,if_neg]
  ·exact k1
  ·intro hx
   obtain⟨p,hp,hpd⟩:∃p,ops[e.i]? =some p∧p.dst=some t:=by
    cases hpp:ops[e.i]? with
    |none=>rw [hpp]at hdt;cases hdt
    |some p=>rw [hpp]at hdt;exact⟨p,rfl,hdt⟩
   have hmem:t∈dD T ops o:=by
    unfold dD
    rw [hx.1]
    simp
   exact(hst.names i e.i o p t (fun h=>hne h.symm) ho hp hpd hmem).2 hx.1
 ·rw [@jb noE,if_pos]
  refine⟨hdt,?_⟩
  rw [I.tsize]
  rw [hdt]at hd
  exact @wX noE _ _ _ _ hd
theorem lA.held(hst:fR T ops bs)(hor:iP ops cl bs ord)(hcl:∀(i:Nat) c,cl[i]? =some c→∃o,ops[i]? =some o∧jI T m N ops o c)(hmap:tr.map (·.i)=ord)
  (I:lA P T M m N ops cl hi bs s0 tr sn E0 g0 a0 w0 listed a w E g A B sA) {x:Ent} (hx:x∈A) {t:Nat} (hxd:(ops[x.i]?).bind (·.dst)=some t):rdn m sA.f t=some x.v:=by
 obtain⟨s,r,e1⟩:=List.append_of_mem hx
 refine(I.tA.names hcl).2 s x r e1 t hxd fun y hy hyd=>?_
 obtain⟨p,hp,hpd⟩:∃p:Oper,ops[x.i]? =some p∧p.dst=some t:=by
  cases hpp:ops[x.i]? with
  |none=>rw [hpp]at hxd;cases hxd
  |some p=>rw [hpp]at hxd;exact⟨p,rfl,hxd⟩
 obtain⟨q,hq,hqd⟩:∃p:Oper,ops[y.i]? =some p∧p.dst=some t:=by
  cases hpp:ops[y.i]? with
  |none=>rw [hpp]at hyd;cases hyd
  |some p=>rw [hpp]at hyd;exact⟨p,rfl,hyd⟩
 have hxy:x.i≠y.i:=by
  intro h
  obtain⟨r1,r2,rfl⟩:=List.append_of_mem hy
  have:=(hor.pre (s.map (·.i)++x.i ::r1.map (·.i)) y.i (r2.map (·.i)++B.map (·.i)) (by rw [←hmap,I.tr,e1];simp)).2.1
  exact this (by rw [←h];simp)
 have hmem:t∈dD T ops p:=by
  unfold dD
  rw [hpd]
  simp
 exact(hst.names x.i y.i p q t hxy hp hq hqd hmem).2 hpd
theorem qc{f:F}(hf:gY M f){t:Nat}{v:V}(e:rdn m f t=some v):df M v:=by
 unfold rdn at e
 split at e
 ·exact hf _ (.inl (@kx noE _ _ _ e))
 ·exact hf _ (.inr (@kx noE _ _ _ e))
theorem lA.reads(hst:fR T ops bs)(hor:iP ops cl bs ord)(hcl:∀(i:Nat) c,cl[i]? =some c→∃o,ops[i]? =some o∧jI T m N ops o c)(hmap:tr.map (·.i)=ord)(F0:@FR E0 g0 m N s0.f a0.tmps)(hf0:gY M s0.f)
  (I:lA P T M m N ops cl hi bs s0 tr sn E0 g0 a0 w0 listed a w E g A B sA) {e:Ent} {A0 A1:List Ent} (hA:tr=A0++e ::A1) (t0:cU P T M cl hi 0 s0 A0 e.s) {o:Oper} (ho:ops[e.i]? =some o)
  (hl:listed.getD e.i false=false) (hbef:∀j,bit (cG bs e.i) j=true→listed.getD j false=true):
  ∀t∈dD T ops o,∀v,rdn m e.s.f t=some v→∃u,a.tmps[t]? =some u∧@VR E g v u:=by
 intro t ht v hv
 have hord:ord=(A0.map (·.i))++e.i ::(A1.map (·.i)):=by rw [←hmap,hA];simp
 obtain⟨p1,p2,p3⟩:=hor.pre _ _ _ hord
 obtain⟨n1,n2⟩:=t0.names hcl
 have dstOf:∀j:Nat,(ops[j]?).bind (fun x:Oper=>x.dst)=some t→∃p:Oper,ops[j]? =some p∧p.dst=some t:=by
  intro j hj
  cases hpp:ops[j]? with
  |none=>rw [hpp]at hj;cases hj
  |some p=>rw [hpp]at hj;exact⟨p,rfl,hj⟩
 have notBehind:∀x∈A0,bit (cG bs x.i) e.i=true→False:=by
  intro x hx hb
  obtain⟨s,r,rfl⟩:=List.append_of_mem hx
  have:=(hor.pre (s.map (·.i)) x.i (r.map (·.i)++e.i ::A1.map (·.i)) (by rw [hord];simp)).1 e.i hb
  exact p2 (by rw [List.map_append,List.mem_append];exact .inl this)
 by_cases hw:∃x∈A0,(ops[x.i]?).bind (·.dst)=some t
 ·obtain⟨x,hx,hxd⟩:=hw
  obtain⟨p,hp,hpd⟩:=dstOf x.i hxd
  obtain⟨s,r,rfl⟩:=List.append_of_mem hx
  have hne:e.i≠x.i:=fun h=>p2 (by rw [h,List.map_append,List.map_cons];simp)
  have hrd:rdn m e.s.f t=some x.v:=by
   refine n2 s x r rfl t hxd fun y hy hyd=>?_
   obtain⟨q,hq,hqd⟩:=dstOf y.i hyd
   have hxy:x.i≠y.i:=by
    intro h
    obtain⟨r1,r2,rfl⟩:=List.append_of_mem hy
    have:=(hor.pre (s.map (·.i)++x.i ::r1.map (·.i)) y.i (r2.map (·.i)++e.i ::A1.map (·.i)) (by rw [hord];simp)).2.1
    exact this (by rw [←h];simp)
   have hmem:t∈dD T ops p:=by
    unfold dD
    rw [hpd]
    simp
   exact(hst.names x.i y.i p q t hxy hp hq hqd hmem).2 hpd
  rw [hrd]at hv
  cases hv
  have hb:bit (cG bs e.i) x.i=true:=by
   rcases (hst.names e.i x.i o p t hne ho hp hpd ht).1 with q|q
   ·exact q
   ·exact(notBehind x hx q).elim
  have hlx:=hbef _ hb
  obtain⟨y,hy,hyx⟩:=I.inA _ hlx
  have hyx':y=x:=@d9 noE _ _ _ _ _ hor hmap _ _ (by rw [I.tr];exact List.mem_append_left _ hy) (by rw [hA];exact List.mem_append_left _ (by simp)) hyx
  rw [hyx']at hy
  exact I.new x hy hlx t hxd
 ·have hrd:rdn m e.s.f t=rdn m s0.f t:=n1 t fun x hx hd=>hw ⟨x,hx,hd⟩
  rw [hrd]at hv
  obtain⟨u,k1,k2⟩:=F0.2 t v hv
  refine⟨u,?_,qc hf0 hv E g0 g u I.ext.le (k2.env I.ext.envl)⟩
  rw [I.old t fun j hj hd=>?_]
  ·exact k1
  ·obtain⟨p,hp,hpd⟩:=dstOf j hd
   have hne:e.i≠j:=by
    intro h
    rw [←h,hl]at hj
    cases hj
   rcases (hst.names e.i j o p t hne ho hp hpd ht).1 with q|q
   ·have:=p1 j q
    rw [List.mem_map]at this
    obtain⟨x,hx,rfl⟩:=this
    exact hw ⟨x,hx,hd⟩
   ·have:=I.closed j hj e.i q
    rw [hl]at this
    cases this
theorem lA.same(hst:fR T ops bs)(hor:iP ops cl bs ord)(hmap:tr.map (·.i)=ord)(I:lA P T M m N ops cl hi bs s0 tr sn E0 g0 a0 w0 listed a w E g A B sA){e:Ent}(he:e∈A){o:Oper}(ho:ops[e.i]? =some o)(hl:listed.getD e.i false=false)
  (hbef:∀j,bit (cG bs e.i) j=true→listed.getD j false=true) {d:Dst} (hd:dst m N o.dst=some d) {u:Value} {E':En} {g':G} {w':World} (x:fT T noM E g sA.h w E' g' sA.h w') (hv:@VR E' g' e.v u):
  lA P T M m N ops cl hi bs s0 tr sn E0 g0 a0 w0 (listed.setIfInBounds e.i true) (a.put o.dst u) w' E' g' A B sA:=by
 have hlt:=@iK noE _ _ _ ho
 have hle:g.le g':=fun id y e=>x.le id y (fun k=>k) e
 obtain⟨t1,t2,t3⟩:=I.tmps (u:=u) hst ho hd (fun e _ t _ y k=>(@VR.mono E' g g' hle _ _ (k.env x.envl)))
 refine⟨I.tr,I.tA,I.tB,I.bnd,I.ext.trans (x.wk fun _ k=>k.elim),by simp [I.size],fun i hi=>?_,fun y hy hE=>?_,@jq noE _ _ _ _ _ I.size ho I.closed hbef,by rw [@jV noE];exact I.tsize,t1,fun y hy hly t hdt=>?_,(@dg noE _ _ _).trans I.defers⟩
 ·rw [@cY noE _ _ _ (by rw [I.size];exact hlt)]at hi
  split at hi
  ·rename_i h;exact⟨e,he,h.symm⟩
  ·exact I.inA i hi
 ·rw [@cY noE _ _ _ (by rw [I.size];exact hlt)]
  split
  ·rfl
  ·exact I.es y hy hE
 ·by_cases hye:y.i=e.i
  ·have hyx:y=e:=@d9 noE _ _ _ _ _ hor hmap _ _ (by rw [I.tr];exact List.mem_append_left _ hy) (by rw [I.tr];exact List.mem_append_left _ he) hye
   subst hyx
   rw [ho]at hdt
   exact⟨u,t3 t hdt,hv⟩
  ·exact t2 y hy hly hye t hdt
theorem lA.write(hst:fR T ops bs)(hor:iP ops cl bs ord)(hcl:∀(i:Nat) c,cl[i]? =some c→∃o,ops[i]? =some o∧jI T m N ops o c)(hmap:tr.map (·.i)=ord){e:Ent}{B':List Ent}(I:lA P T M m N ops cl hi bs s0 tr sn E0 g0 a0 w0 listed a w E g A (e ::B') sA)(hE:dw cl e.i=true){o:Oper}(ho:ops[e.i]? =some o)(hl:listed.getD e.i false=false)
  (hbef:∀j,bit (cG bs e.i) j=true→listed.getD j false=true) {d:Dst} (hd:dst m N o.dst=some d) {c:bQ} {s1:St} (hc:cl[e.i]? =some c) (hs:e.s=sA) (hst1:nF P T M {c with lo:=nE cl A,hi:=hi e.i} sA e.v s1)
  (ht:cU P T M cl hi (if isE c.op=true then nE cl A+1 else nE cl A) s1 B' sn) (hek:e.k=nE cl A) {u:Value} {E':En} {g':G} {w':World} (x:fT T M E g sA.h w E' g' s1.h w') (hv:@VR E' g' e.v u) (hfr:(∀id x,g id=some x→g' id=some x)∨gY M sA.f):
  ∃A' B'' sA',lA P T M m N ops cl hi bs s0 tr sn E0 g0 a0 w0 (listed.setIfInBounds e.i true) (a.put o.dst u) w' E' g' A' B'' sA':=by
 have hlt:=@iK noE _ _ _ ho
 obtain⟨t1,t2,t3⟩:=I.tmps (u:=u) hst ho hd (E':=E') (g':=g') (fun y hy t hdt z k=>by
  rcases hfr with q|q
  ·exact @VR.mono E' g g' q _ _ (k.env x.envl)
  ·exact qc q (I.held hst hor hcl hmap hy hdt) E' g g' z x.le (k.env x.envl))
 obtain⟨S,B'',s',q1,q2,q3,q4,q5,q6⟩:=Eu ht
 have hEc:isE c.op=true:=by rw [←@dR noE _ _ _ hc];exact hE
 have hnE:nE cl (A++e ::S)=nE cl A+1:=by
  unfold nE
  rw [List.filter_append,List.filter_cons,if_pos hE]
  have:S.filter (fun e=>dw cl e.i)=[]:=by
   rw [List.filter_eq_nil_iff]
   intro y hy
   rw [q5 y hy]
   decide
  rw [this]
  simp
 have he:e=⟨e.i,nE cl A,e.v,sA⟩:=by
  obtain⟨i,k,v,s⟩:=e
  simp only at hs hek
  rw [hs,hek]
 have htr:tr=(A++e ::S)++B'':=by rw [I.tr,q1];simp
 have hA1:cU P T M cl hi 0 s0 (A++e ::S) s':=by
  refine cU.append I.tA ?_
  rw [he]
  rw [Nat.zero_add]
  exact .cons hc hst1 q2
 have hnew:∀y∈A++e ::S,y∈A∨y=e∨y∈S:=by
  intro y hy
  rcases List.mem_append.1 hy with h|h
  ·exact .inl h
  ·rcases List.mem_cons.1 h with h|h
   ·exact .inr (.inl h)
   ·exact .inr (.inr h)
 have hord:ord=A.map (·.i)++e.i ::(S++B'').map (·.i):=by rw [←hmap,I.tr,q1];simp
 have behind:∀y∈S,(listed.setIfInBounds e.i true).getD y.i false=false:=by
  intro y hy
  have hyT:y∈tr:=by rw [htr];simp [hy]
  have heT:e∈tr:=by rw [htr];simp
  rw [@cY noE _ _ _ (by rw [I.size];exact hlt),if_neg]
  ·cases hly:listed.getD y.i false with
   |false=>rfl
   |true=>
    obtain⟨z,hz,hzy⟩:=I.inA _ hly
    have hzy':z=y:=@d9 noE _ _ _ _ _ hor hmap _ _ (by rw [htr];simp [hz]) hyT hzy
    subst hzy'
    obtain⟨s1',s2',rfl⟩:=List.append_of_mem hy
    have:=(hor.pre (A.map (·.i)++e.i ::s1'.map (·.i)) z.i (s2'.map (·.i)++B''.map (·.i)) (by rw [hord];simp)).2.1
    exact(this (List.mem_append_left _ (List.mem_map.2 ⟨z,hz,rfl⟩))).elim
  ·intro h
   have:=@d9 noE _ _ _ _ _ hor hmap _ _ hyT heT h
   subst this
   rw [q5 y hy]at hE
   cases hE
 refine⟨A++e ::S,B'',s',htr,hA1,by rw [hnE];rw [if_pos hEc]at q3;exact q3,q4,by rw [q6];exact I.ext.trans x,by simp [I.size],fun i hi=>?_,fun y hy hEy=>?_,@jq noE _ _ _ _ _ I.size ho I.closed hbef,by rw [@jV noE];exact I.tsize,t1,fun y hy hly t hdt=>?_,(@dg noE _ _ _).trans I.defers⟩
 ·rw [@cY noE _ _ _ (by rw [I.size];exact hlt)]at hi
  split at hi
  ·rename_i h;exact⟨e,by simp,h.symm⟩
  ·obtain⟨y,hy,hyi⟩:=I.inA i hi
   exact⟨y,by simp [hy],hyi⟩
 ·rw [@cY noE _ _ _ (by rw [I.size];exact hlt)]
  split
  ·rfl
  ·rename_i hne
   rcases hnew y hy with h|h|h
   ·exact I.es y h hEy
   ·exact absurd (by rw [h]) hne
   ·rw [q5 y h]at hEy;cases hEy
 ·rcases hnew y hy with h|h|h
  ·by_cases hye:y.i=e.i
   ·have hyT:y∈tr:=by rw [htr];simp [h]
    have:y=e:=@d9 noE _ _ _ _ _ hor hmap _ _ hyT (by rw [htr];simp) hye
    subst this
    rw [ho]at hdt
    exact⟨u,t3 t hdt,hv⟩
   ·exact t2 y h hly hye t hdt
  ·subst h
   rw [ho]at hdt
   exact⟨u,t3 t hdt,hv⟩
  ·rw [behind y h]at hly;cases hly
theorem EI(hor:iP ops cl bs ord)(hmap:tr.map (·.i)=ord)(hcl:∀(i:Nat) c,cl[i]? =some c→∃o,ops[i]? =some o∧jI T m N ops o c)(I:lA P T M m N ops cl (ph ops cl bs) bs s0 tr sn E0 g0 a0 w0 listed a w E g A B sA){i:Nat}(hl:listed.getD i false=false):nE cl A≤ph ops cl bs i:=by
 unfold nE
 show _≤bU _
 rw [@bS noE]
 have h1:(A.filter fun e=>dw cl e.i).length=((A.filter fun e=>dw cl e.i).map (·.i)).length:=by simp
 rw [h1]
 refine @pr noE _ _ ?_ fun x hx=>?_
 ·have hnd:∀(pre l post:List Ent),tr=pre++l++post→(l.map (·.i)).Nodup:=by
   intro pre l
   induction l generalizing pre with
   |nil=>intro post _;exact List.nodup_nil
   |cons e l ih=>
    intro post he
    rw [List.map_cons,List.nodup_cons]
    refine⟨fun hm=>?_,ih (pre++[e]) post (by rw [he];simp)⟩
    rw [List.mem_map]at hm
    obtain⟨y,hy,hye⟩:=hm
    obtain⟨s1,s2,rfl⟩:=List.append_of_mem hy
    have:=(hor.pre (pre.map (·.i)++e.i ::s1.map (·.i)) y.i (s2.map (·.i)++post.map (·.i)) (by rw [←hmap,he];simp)).2.1
    exact this (by rw [hye];simp)
  have:=hnd [] A B (by rw [I.tr];simp)
  exact List.Sublist.nodup (List.Sublist.map _ List.filter_sublist) this
 ·rw [List.mem_map]at hx
  obtain⟨y,hy,rfl⟩:=hx
  rw [List.mem_filter]at hy
  rw [List.mem_filter,List.mem_filter,List.mem_range]
  refine⟨⟨?_,hy.2⟩,?_⟩
  ·have:∃c,cl[y.i]? =some c:=by
    cases hc:cl[y.i]? with
    |some c=>exact⟨c,rfl⟩
    |none=>
     have:=hy.2
     unfold dw at this
     rw [@dA noE,hc]at this
     cases this
   obtain⟨c,hc⟩:=this
   obtain⟨o,ho,_⟩:=hcl _ _ hc
   exact @iK noE _ _ _ ho
  ·have:=I.es y hy.1 hy.2
   cases hb:bit (cG bs y.i) i with
   |false=>rfl
   |true=>
    have:=I.closed _ this _ hb
    rw [hl]at this
    cases this
theorem lA.done(hor:iP ops cl bs ord)(hmap:tr.map (·.i)=ord)(hcl:∀(i:Nat) c,cl[i]? =some c→∃o,ops[i]? =some o∧jI T m N ops o c)(hst:fR T ops bs)(F0:@FR E0 g0 m N s0.f a0.tmps)(hf0:gY M s0.f)
  (I:lA P T M m N ops cl hi bs s0 tr sn E0 g0 a0 w0 listed a w E g A B sA) (hall:∀i,i<ops.size→listed.getD i false=true):fT T M E0 g0 s0.h w0 E g sn.h w∧@FR E g m N sn.f a.tmps∧a.defers=a0.defers:=by
 have hB:B=[]:=by
  cases hB:B with
  |nil=>rfl
  |cons e B'=>
   have htr:=I.tr
   rw [hB]at htr
   have hE:=I.bnd e B' hB
   have hc:∃c,cl[e.i]? =some c:=by
    cases hc:cl[e.i]? with
    |some c=>exact⟨c,rfl⟩
    |none=>
     unfold dw at hE
     rw [@dA noE,hc]at hE
     cases hE
   obtain⟨c,hc⟩:=hc
   obtain⟨o,ho,_⟩:=hcl _ _ hc
   obtain⟨x,hx,hxe⟩:=I.inA e.i (hall _ (@iK noE _ _ _ ho))
   have:=(hor.pre (A.map (·.i)) e.i (B'.map (·.i)) (by rw [←hmap,htr];simp)).2.1
   exact(this (by rw [←hxe];exact List.mem_map.2 ⟨x,hx,rfl⟩)).elim
 have hs:sA=sn:=by
  have:=I.tB
  rw [hB]at this
  cases this
  rfl
 subst hs
 refine⟨I.ext,⟨I.tsize,fun t v hv=>?_⟩,I.defers⟩
 obtain⟨n1,n2⟩:=I.tA.names hcl
 have listedA:∀e∈A,listed.getD e.i false=true:=by
  intro e he
  obtain⟨s1,s2,e1⟩:=List.append_of_mem he
  obtain⟨s',_,k2⟩:=cU.split (A:=s1) (B:=e ::s2) (by rw [←e1];exact I.tA)
  obtain⟨_,_,c,_,hc,_,_⟩:=k2.head
  obtain⟨o,ho,_⟩:=hcl _ _ hc
  exact hall _ (@iK noE _ _ _ ho)
 by_cases hw:∃x∈A,(ops[x.i]?).bind (fun o:Oper=>o.dst)=some t
 ·obtain⟨x,hx,hxd⟩:=hw
  have hrd:=I.held hst hor hcl hmap hx hxd
  rw [hrd]at hv
  cases hv
  exact I.new x hx (listedA x hx) t hxd
 ·rw [n1 t fun x hx hd=>hw ⟨x,hx,hd⟩]at hv
  obtain⟨u,k1,k2⟩:=F0.2 t v hv
  refine⟨u,?_,qc hf0 hv E g0 g u I.ext.le (k2.env I.ext.envl)⟩
  rw [I.old t fun j hj hd=>?_]
  ·exact k1
  ·obtain⟨x,hx,rfl⟩:=I.inA j hj
   exact hw ⟨x,hx,hd⟩
theorem EG(E:En):@eu E P T (fun _ _ _=>none):=@eu.mk E _ _ _ (fun f vs h v h' e=>by cases e) (fun id vs h v h' e=>by cases e)
theorem vk(hT:cM P T)(hcl0:fI (eX T m N ops) ops.toList=some cl)(hst:fR T ops bs)(hor:iP ops cl bs ord)(hmap:tr.map (·.i)=ord)(htr:cU P T M cl (ph ops cl bs) 0 s0 tr sn)
  (hs0:s0.hs=[]) (hchk:bD sn.cs (i7 sn.hs [sn.h])) (F0:@FR E0 g0 m N s0.f a0.tmps) (hf0:gY M s0.f) {Q:Exit→Act→World→Prop}
  (hQ:∀E' g' a' w',fT T M E0 g0 s0.h w0 E' g' sn.h w'→@FR E' g' m N sn.f a'.tmps→a'.defers=a0.defers→Q .normal a' w'):∀(fuel:Nat) (listed:Array Bool) (a:Act) (w:World) (E:En) (g:G) (A B:List Ent) (sA:St),
  lA P T M m N ops cl (ph ops cl bs) bs s0 tr sn E0 g0 a0 w0 listed a w E g A B sA→left ops listed≤fuel→wpAnyIn (fen none) 0 P .any ops Q fuel listed a w:=by
 have hcl:∀(i:Nat) c,cl[i]? =some c→∃o,ops[i]? =some o∧jI T m N ops o c:=by
  intro i c hc
  obtain⟨hlen,hall⟩:=@lK noE _ _ _ _ _ hcl0
  have hi:i<ops.toList.length:=by
   rw [←hlen]
   rcases Nat.lt_or_ge i cl.length with k|k
   ·exact k
   ·rw [List.getElem?_eq_none k]at hc;cases hc
  obtain⟨b,h1,h2⟩:=hall i _ (List.getElem?_eq_getElem hi)
  rw [hc]at h1
  cases h1
  exact⟨_,by rw [←Array.getElem?_toList];exact List.getElem?_eq_getElem hi,@dj noE _ _ _ _ _ _ h2⟩
 intro fuel
 induction fuel with
 |zero=>
  intro listed a w E g A B sA I hf
  have hall:=@rX noE _ _ (Nat.le_zero.1 hf)
  refine⟨?_,?_⟩
  ·unfold Region.ready
   rw [List.filter_eq_nil_iff]
   intro i hi
   rw [List.mem_range]at hi
   have:=hall i hi
   rw [Array.getD_eq_getD_getElem?,Array.getElem?_eq_getElem (by rw [I.size];exact hi)]at this
   rw [Array.getD_eq_getD_getElem?,Array.getElem?_eq_getElem (by rw [I.size];exact hi)]
   simp only [Option.getD_some]at this ⊢
   rw [this]
   simp
  ·obtain⟨x1,x2,x3⟩:=I.done hor hmap hcl hst F0 hf0 hall
   exact hQ _ _ _ _ x1 x2 x3
 |succ fuel ih=>
  intro listed a w E g A B sA I hf
  refine⟨fun hn=>?_,fun i hi=>?_⟩
  ·obtain⟨x1,x2,x3⟩:=I.done hor hmap hcl hst F0 hf0 (@rL noE _ _ _ _ hst I.size hn)
   exact hQ _ _ _ _ x1 x2 x3
  ·obtain⟨hlt,hl,o,ho,hedge⟩:=@rM noE _ _ _ I.size hi
   have hbef:∀j,bit (cG bs i) j=true→listed.getD j false=true:=by
    intro j hj
    obtain⟨e,he,hb,h⟩:=hst.before i o ho j hj
    rcases h with rfl|h
    ·exact hedge e he hb
    ·exact I.closed _ (hedge e he hb) _ h
   have hleft:left ops (listed.setIfInBounds i true)≤fuel:=by
    have:=@uM noE _ _ _ I.size hlt hl
    omega
   obtain⟨e,heT,rfl⟩:∃e∈tr,e.i=i:=by
    have:=hor.all i hlt
    rw [←hmap,List.mem_map]at this
    exact this
   obtain⟨A0,A1,hA⟩:=List.append_of_mem heT
   obtain⟨s',t0,t1⟩:=cU.split (A:=A0) (B:=e ::A1) (by rw [←hA];exact htr)
   obtain⟨hes,hek,c,s1,hc,st,t2⟩:=t1.head
   rw [←hes]at t0
   rw [Nat.zero_add]at hek st t2
   have hreads:=I.reads hst hor hcl hmap F0 hf0 hA t0 ho hl hbef
   obtain⟨o',ho',hp⟩:=hcl _ _ hc
   rw [ho]at ho'
   cases ho'
   have hsit:=I.ext.sit
   have hguard:∀{b:Bool},bV e.s.f c.guard=some b→Region.wanted o (yielded ops a.tmps)=b:=fun hg=>@eW E _ _ _ g _ _ _ hp _ _ _ hg (fun t ht v hv=>hreads t (by
    obtain⟨gi,gw,h1,h2⟩:=ht
    unfold dD
    rw [h1]
    simp [h2]) v hv)
   have hargs:∀{vs:List V} {os:List Operand},bH T o.op=some (c.op,os)→fI (opd T m) os=some c.args→evs e.s.f c.args=some vs→@VRs E g vs (os.map a.eval):=fun h1 h2 h3=>@jm E T m g _ w hsit.glob _ a _ _ _ h2 h3 fun t ht v hv=>hreads t (by
    unfold dD
    rw [h1]
    refine List.mem_append_right _ (List.mem_append_left _ ?_)
    exact List.mem_filterMap.2 ⟨.tmp t,ht,rfl⟩) v hv
   unfold wpOpIn
   simp only [ho]
   by_cases hE:dw cl e.i=true
   ·have hEc:isE c.op=true:=by rw [←@dR noE _ _ _ hc];exact hE
    have hB:∃B',B=e ::B':=by
     have hnA:e∉A:=fun h=>by
      have:=I.es e h hE
      rw [hl]at this
      cases this
     have heB:e∈B:=by
      rw [I.tr]at heT
      exact(List.mem_append.1 heT).resolve_left hnA
     cases hBB:B with
     |nil=>rw [hBB]at heB;cases heB
     |cons b B'=>
      rw [hBB]at heB
      rcases List.mem_cons.1 heB with h|h
      ·exact⟨B',by rw [h]⟩
      ·have hb:=I.bnd b B' hBB
       obtain⟨s1',s2',rfl⟩:=List.append_of_mem h
       have htr':tr=(A++b ::s1')++e ::s2':=by rw [I.tr,hBB];simp
       have hbl:=hbef _ ((hor.pre ((A++b ::s1').map (·.i)) e.i (s2'.map (·.i)) (by rw [←hmap,htr'];simp)).2.2 b.i (List.mem_map.2 ⟨b,by simp,rfl⟩) hb)
       obtain⟨y,hy,hyb⟩:=I.inA _ hbl
       have:=(hor.pre (A.map (·.i)) b.i ((s1'++e ::s2').map (·.i)) (by rw [←hmap,I.tr,hBB];simp)).2.1
       exact(this (by rw [←hyb];exact List.mem_map.2 ⟨y,hy,rfl⟩)).elim
    obtain⟨B',rfl⟩:=hB
    obtain⟨hes2,hek2,c',s1',hc',st',t2'⟩:=I.tB.head
    rw [hc]at hc'
    cases hc'
    rcases st'.main with⟨h1,h2,h3,h4⟩ | ⟨vs,h1,h2,dx⟩
    ·rw [hguard (by rw [hes2];exact h1)]
     refine⟨fun _ _=>trivial,?_⟩
     obtain⟨A',B'',sA',I'⟩:=I.write (u:=undef) hst hor hcl hmap hE ho hl hbef hp.dst hc hes2 st' t2' hek2 (by rw [h3];exact .refl hsit) (by rw [h2];exact @fy E g) (.inl fun _ _ k=>k)
     exact ih _ _ _ _ _ _ _ _ I' hleft
    ·rw [hguard (by rw [hes2];exact h1)]
     obtain⟨os,k1,k2⟩:=hp.op
     cases dx with
     |p eo=>have eo:c.op=_:=eo;rw [eo]at hEc;cases hEc
     |r eo=>have eo:c.op=_:=eo;rw [eo]at hEc;cases hEc
     |mkF eo=>have eo:c.op=_:=eo;rw [eo]at hEc;cases hEc
     |con he ec cn hfr ecs=>
      refine ua hsit k1 (hargs k1 k2 (by rw [hes2];exact h2)) ec cn fun E' g' w' u x1 x2=>?_
      obtain⟨A',B'',sA',I'⟩:=I.write hst hor hcl hmap hE ho hl hbef hp.dst hc hes2 st' t2' hek2 x1 x2 (.inr hfr)
      exact ih _ _ _ _ _ _ _ _ I' hleft
   ·have heA:e∈A:=by
     rw [I.tr]at heT
     rcases List.mem_append.1 heT with h|h
     ·exact h
     ·cases hBB:B with
      |nil=>rw [hBB]at h;cases h
      |cons b B'=>
       rw [hBB]at h
       have hb:=I.bnd b B' hBB
       rcases List.mem_cons.1 h with h|h
       ·rw [h]at hE;exact absurd hb hE
       ·obtain⟨s1',s2',rfl⟩:=List.append_of_mem h
        have htr':tr=(A++b ::s1')++e ::s2':=by rw [I.tr,hBB];simp
        have hbl:=hbef _ ((hor.pre ((A++b ::s1').map (·.i)) e.i (s2'.map (·.i)) (by rw [←hmap,htr'];simp)).2.2 b.i (List.mem_map.2 ⟨b,by simp,rfl⟩) hb)
        obtain⟨y,hy,hyb⟩:=I.inA _ hbl
        have:=(hor.pre (A.map (·.i)) b.i ((s1'++e ::s2').map (·.i)) (by rw [←hmap,I.tr,hBB];simp)).2.1
        exact(this (by rw [←hyb];exact List.mem_map.2 ⟨y,hy,rfl⟩)).elim
    have hEc:isE c.op=false:=by rw [←@dR noE _ _ _ hc];simpa using hE
    rcases st.main with⟨h1,h2,h3,h4⟩ | ⟨vs,h1,h2,dx⟩
    ·rw [hguard (by rw [hes];exact h1)]
     refine⟨fun _ _=>trivial,?_⟩
     exact ih _ _ _ _ _ _ _ _ (I.same hst hor hmap heA ho hl hbef hp.dst (.refl hsit) (by rw [h2];exact @fy E g)) hleft
    ·rw [hguard (by rw [hes];exact h1)]
     obtain⟨os,k1,k2⟩:=hp.op
     have hv:=hargs k1 k2 (by rw [hes];exact h2)
     have iM:c.op.run (fun _ _ _=>none) vs sA.h=some (e.v,sA.h)→o.wpIn (fen none) 0 P a w (wpAnyIn (fen none) 0 P .any ops Q fuel (listed.setIfInBounds e.i true)) Q:=fun hrun=>
      @lI E P T hT _ (EG E) g _ _ w hsit.wr hsit.glob o _ os a k1 vs _ hv hrun _ _ _ fun g' w' u x1 x2=>ih _ _ _ _ _ _ _ _ (I.same hst hor hmap heA ho hl hbef hp.dst (fT.of hsit x1) x2) hleft
     cases dx with
     |@p po eo er eh ecs=>
      have eo:c.op= .p po:=eo
      refine iM ?_
      rw [eo]
      show ob (po.run vs) (fun v=>some (v,sA.h))=_
      rw [er]
      rfl
     |@r ro eo er eh ecs=>
      have eo:c.op= .r ro:=eo
      refine iM ?_
      rw [eo]
      show ob (ro.run vs sA.h) (fun v=>some (v,sA.h))=_
      have hmem:(⟨ro,vs,e.v,nE cl A0,ph ops cl bs e.i⟩:Tc)∈sn.cs:=t2.cs _ (by rw [ecs];exact List.mem_cons_self)
      have hrd:=hchk _ hmem
      have hhs:=htr.hs
      rw [hs0,List.append_nil,I.tr]at hhs
      have hat:(i7 sn.hs [sn.h])[nE cl A]? =some sA.h:=by
       rw [@sM noE,hhs,List.reverse_reverse,List.filter_append,List.map_append]
       have hlen:((A.filter fun e=>dw cl e.i).map fun e=>e.s.h).length=nE cl A:=by simp [nE]
       rw [List.append_assoc,List.getElem?_append_right (by rw [hlen];exact Nat.le_refl _),hlen,Nat.sub_self]
       cases hBB:B with
       |nil=>
        have:=I.tB
        rw [hBB]at this
        cases this
        rfl
       |cons b B'=>
        have hb:=I.bnd b B' hBB
        have:=I.tB
        rw [hBB]at this
        obtain⟨q1,_⟩:=this.head
        rw [List.filter_cons,if_pos hb,List.map_cons,q1]
        rfl
      have hlo:nE cl A0≤nE cl A:=by
       obtain⟨z1,z2,rfl⟩:=List.append_of_mem heA
       have hA0:A0=z1:=by
        refine @mh noE A0 A1 z1 (z2++B) e (by rw [←hA,I.tr];simp) (fun h=>?_) fun h=>?_
        ·have:=(hor.pre (z1.map (·.i)) e.i ((z2++B).map (·.i)) (by rw [←hmap,I.tr];simp)).2.1
         exact this (List.mem_map.2 ⟨e,h,rfl⟩)
        ·have:=(hor.pre (A0.map (·.i)) e.i (A1.map (·.i)) (by rw [←hmap,hA];simp)).2.1
         exact this (List.mem_map.2 ⟨e,h,rfl⟩)
       subst hA0
       simp [nE,List.filter_append]
      have:=hrd (nE cl A) _ hat hlo (EI hor hmap hcl I hl)
      simp only at this
      rw [this]
      rfl
     |@mkF ao cs mk eo er hz hln hfr eh ecs=>
      have eo:c.op= .a ao:=eo
      rw [eo]at k1
      refine t8 hT hsit k1 hv er hz hln (hfr _) fun E' w' u x1 x2=>?_
      exact ih _ _ _ _ _ _ _ _ (I.same hst hor hmap heA ho hl hbef hp.dst x1 x2) hleft
     |con he=>have he:isE c.op=true:=he;rw [hEc]at he;cases he
end
theorem BL(hT:cM P T)(hm:P.follows .mixedOrders=true){ops:Array Oper}{cl:List bQ}{id:Nat}{l:List bQ}(hcl:fI (eX T m N ops) ops.toList=some cl)(hd:sv T cl ops=some l){f0:F}{h0:H}{s:St}(hr:vG P T M l ⟨f0,h0,[],[]⟩ s)(hchk:bD s.cs (i7 s.hs [s.h]))
  {E:En} {g:G} {a:Act} {w:World} (st:Sit T E g h0 w) (F0:@FR E g m N f0 a.tmps) (hf0:gY M f0) {Q:Exit→Act→World→Prop}
  (hQ:∀E' g' a' w',fT T M E g h0 w E' g' s.h w'→@FR E' g' m N s.f a'.tmps→a'.defers=a.defers→Q .normal a' w'):(Code.region id ops true).wpIn (fen none) 0 P Q a w:=by
 obtain⟨bs,ord,hst,hor,hlh⟩:=@vp noE _ _ _ _ hd
 obtain⟨tr,htr,hmap⟩:=rG hlh hr
 refine wpIn_region_any hm ?_
 have r1:@WR E T g h0 {w with drawn:=w.drawn+1}:=@WR.drew1 E _ _ _ _ st.wr
 have s1:Sit T E g h0 {w with drawn:=w.drawn+1}:=Sit.mk' r1 st.pin fun b c e=>st.env e
 obtain⟨S,B',s',q1,q2,q3,q4,q5,q6⟩:=Eu htr
 have hx0:fT T M E g h0 w E g h0 {w with drawn:=w.drawn+1}:=⟨E.le_refl,fun _ _ h=>.inl h,fun _ _ _ h=>h,Nat.le_refl _,s1,Nat.le_refl _,fun _ _ _=>rfl,fun id b o z e=>.inr ⟨id,o,z,e⟩,fun _ _=>rfl,rfl,rfl,rfl⟩
 have getD0:∀i,(Array.replicate ops.size false).getD i false=false:=by
  intro i
  rw [Array.getD_eq_getD_getElem?,Array.getElem?_replicate]
  split<;>rfl
 have hnE:nE cl S=0:=by
  unfold nE
  rw [List.length_eq_zero_iff,List.filter_eq_nil_iff]
  intro y hy
  rw [q5 y hy]
  decide
 have q6':s'.h=h0:=q6
 have I:lA P T M m N ops cl (ph ops cl bs) bs ⟨f0,h0,[],[]⟩ tr s E g a w (Array.replicate ops.size false) a {w with drawn:=w.drawn+1} E g S B' s':=
  ⟨q1,q2,by rw [hnE];exact q3,q4,by rw [q6'];exact hx0,by simp,(fun i hi=>by rw [getD0]at hi;cases hi),(fun e he hE=>by rw [q5 e he]at hE;cases hE),(fun i hi=>by rw [getD0]at hi;cases hi),F0.1,fun _ _=>rfl,(fun e _ hl=>by rw [getD0]at hl;cases hl),rfl⟩
 refine vk hT hcl hst hor hmap htr rfl hchk F0 hf0 hQ ops.size _ a _ E g S B' s' I ?_
 unfold left
 refine Nat.le_trans (List.length_filter_le _ _) ?_
 simp
end
end
section
section
variable [Env]
set_option linter.unusedSectionVars false
variable {P:Program} {T:Ty} {g:G} {ρ:Operand→Value} {h:H} {w:World}
theorem tE{op:Op}{n:Nat}{os:List Operand}(hc:bH T op=some (.e (.store n),os)):∃t x y,op= .store t x y∧os=[x,y]∧fW T t=some n:=by
 cases op
 case call c=>
  obtain⟨callee,args,argTypes⟩:=c
  simp only [bH]at hc
  cases callee with
  |value x=>
   cases x with
   |func f'=>cases hc
   |_=>cases hc
  |invoke r m=>cases hc
  |builtin b=>
   obtain⟨t,h1,h2⟩:=bC.1 hc
   obtain⟨d,h3,h4⟩:=bC.1 h2
   cases b
   case len=>cases d<;>cases h4
   case append=>
    cases d with
    |slice e=>
     obtain⟨n,_,a1⟩:=bC.1 h4
     obtain⟨_,_,a2⟩:=bC.1 a1
     obtain⟨_,_,a3⟩:=bC.1 a2
     obtain⟨_,a4⟩:=bJ.1 a3
     obtain⟨_,_,a5⟩:=bC.1 a4
     obtain⟨_,_,a6⟩:=bC.1 a5
     split at a6<;>cases a6
    |_=>cases h4
   case copy=>
    cases d with
    |slice e=>obtain⟨n,k1,a1⟩:=bC.1 h4;cases a1
    |_=>cases h4
   case clear=>
    cases d with
    |slice e=>
     obtain⟨n,k1,a1⟩:=bC.1 h4
     obtain⟨z,k2,a2⟩:=bC.1 a1
     cases a2
    |_=>cases h4
   case delete=>
    cases d with
    |map k e=>obtain⟨kk,k1,a1⟩:=bC.1 h4;cases a1
    |_=>cases h4
   all_goals (cases d<;>cases h4)
 case alloc t=>
  simp only [bH]at hc
  obtain⟨z,h1,h⟩:=bC.1 hc
  cases h
 case buildSlice t n ps=>
  simp only [bH]at hc
  obtain⟨d,_,h⟩:=bC.1 hc
  cases d with
  |slice e=>
   obtain⟨_,_,a1⟩:=bC.1 h
   obtain⟨_,_,a2⟩:=bC.1 a1
   obtain⟨_,a3⟩:=bJ.1 a2
   cases a3
  |_=>cases h
 case makeMap t r=>
  simp only [bH]at hc
  obtain⟨d,_,h⟩:=bC.1 hc
  cases d<;>cases h
 case makeSlice t l c=>
  simp only [bH]at hc
  obtain⟨d,_,h⟩:=bC.1 hc
  cases d with
  |slice e=>
   obtain⟨_,_,a1⟩:=bC.1 h
   obtain⟨_,_,a2⟩:=bC.1 a1
   obtain⟨_,_,a3⟩:=bC.1 a2
   obtain⟨_,a4⟩:=bJ.1 a3
   cases a4
  |_=>cases h
 case range t x=>
  simp only [bH]at hc
  obtain⟨d,_,h⟩:=bC.1 hc
  cases d<;>cases h
 case load t x=>
  simp only [bH]at hc
  obtain⟨b,h1,h2⟩:=bC.1 hc
  obtain⟨n,h3,h4⟩:=bC.1 h2
  cases h4
 case lookup t x k ok=>
  simp only [bH]at hc
  obtain⟨d,h1,h2⟩:=bC.1 hc
  cases d with
  |map kt e=>
   obtain⟨kk,h3,h4⟩:=bC.1 h2
   obtain⟨z,h5,h6⟩:=bC.1 h4
   cases h6
  |_=>cases h2
 case binOp op t x y t'=>
  have eq2:∀{neg cst:Bool} {d:TypeDesc},qO T t neg cst d=some (.e (.store n))→False:=by
   intro neg cst d h2
   cases d with
   |interface e=>obtain⟨h4,h5⟩:=bJ.1 h2;cases h5
   |pointer e=>obtain⟨k,h4,h5⟩:=bC.1 h2;cases h5
   |struct fs=>obtain⟨k,h4,h5⟩:=bC.1 h2;cases h5
   |_=>cases h2
  cases op
  case eql=>
   simp only [bH]at hc
   obtain⟨d,h1,h2⟩:=bC.1 hc
   obtain⟨c,h3,h4⟩:=bC.1 h2
   cases h4
   exact(eq2 (neg:=false) h3).elim
  case neq=>
   simp only [bH]at hc
   obtain⟨d,h1,h2⟩:=bC.1 hc
   obtain⟨c,h3,h4⟩:=bC.1 h2
   cases h4
   exact(eq2 (neg:=true) h3).elim
  all_goals cases hc
 case build t ps=>
  simp only [bH]at hc
  obtain⟨z,h1,h2⟩:=bC.1 hc
  obtain⟨d,h3,h4⟩:=bC.1 h2
  cases d with
  |struct fs=>
   obtain⟨pl,h5,h6⟩:=bC.1 h4
   obtain⟨l,h7,h8⟩:=bC.1 h6
   cases h8
  |array k e=>
   obtain⟨n,h5,h6⟩:=bC.1 h4
   cases h6
  |_=>cases h4
 case convert s d x=>
  simp only [bH]at hc
  obtain⟨a,h1,h2⟩:=bC.1 hc
  obtain⟨b,h3,h4⟩:=bC.1 h2
  cases a<;>cases b<;>first|(cases h4;done)|(cases(fq h4).1)
 case makeInterface t x=>
  simp only [bH]at hc
  obtain⟨d,h1,h2⟩:=bC.1 hc
  cases d<;>cases h2
 case makeFunc fn a b=>cases fn<;>cases hc
 case slice t x lo hi mx=>
  simp only [bH]at hc
  obtain⟨d,_,h⟩:=bC.1 hc
  cases d with
  |string=>cases h
  |slice e=>obtain⟨_,_,a1⟩:=bC.1 h;cases a1
  |array k e=>obtain⟨_,_,a1⟩:=bC.1 h;cases a1
  |_=>cases h
 case fieldAddr t x i=>
  simp only [bH]at hc
  obtain⟨d,_,h⟩:=bC.1 hc
  cases d with
  |struct fs=>
   obtain⟨_,_,a1⟩:=bC.1 h
   obtain⟨_,_,a2⟩:=bC.1 a1
   cases a2
  |_=>cases h
 case field t x i=>
  simp only [bH]at hc
  obtain⟨d,_,h⟩:=bC.1 hc
  cases d with
  |struct fs=>
   obtain⟨_,_,a1⟩:=bC.1 h
   obtain⟨_,_,a2⟩:=bC.1 a1
   obtain⟨_,_,a3⟩:=bC.1 a2
   cases a3
  |_=>cases h
 case indexAddr t x i=>
  simp only [bH]at hc
  obtain⟨d,_,h⟩:=bC.1 hc
  cases d with
  |slice e=>obtain⟨_,_,a1⟩:=bC.1 h;cases a1
  |array k e=>obtain⟨_,_,a1⟩:=bC.1 h;cases a1
  |_=>cases h
 case index t x i=>
  simp only [bH]at hc
  obtain⟨d,_,h⟩:=bC.1 hc
  cases d with
  |string=>cases h
  |array k e=>
   obtain⟨_,_,a1⟩:=bC.1 h
   obtain⟨_,_,a2⟩:=bC.1 a1
   cases a2
  |_=>cases h
 case insert t m k x=>
  simp only [bH]at hc
  obtain⟨d,_,h⟩:=bC.1 hc
  cases d with
  |map k e=>
   obtain⟨_,_,a1⟩:=bC.1 h
   cases a1
  |_=>cases h
 case mapEntry t m k=>
  simp only [bH]at hc
  obtain⟨d,_,h⟩:=bC.1 hc
  cases d with
  |map k e=>
   obtain⟨_,_,a1⟩:=bC.1 h
   obtain⟨_,_,a2⟩:=bC.1 a1
   cases a2
  |_=>cases h
 case mapUpdate t m k x=>
  simp only [bH]at hc
  obtain⟨d,_,h⟩:=bC.1 hc
  cases d with
  |map k e=>
   obtain⟨_,_,a1⟩:=bC.1 h
   cases a1
  |_=>cases h
 case store t a x=>
  simp only [bH]at hc
  obtain⟨_,h1,a1⟩:=bC.1 hc
  cases a1
  exact⟨t,a,x,rfl,rfl,h1⟩
 case next x b=>cases b<;>cases hc
 all_goals cases hc
theorem zZ:∀{l:List V} {us:List Value} {i k:Nat} {h h':H} {w:World} {id b o z:Nat},WR T g h w→g id=some (b,o,z)→VRs g l us→H.wr id l (i+k) h=some h'→
  ∃w',Ext T g h w g h' w'∧(storeCells ⟨b,o+i,none⟩ us k).run P w= .ok () w'∧∀j,j≠b→w'.heap[j]? =w.heap[j]?
 |[],_,i,k,h,h',w,id,b,o,z,r,hg,hl,e=>by
  cases hl
  cases e
  exact⟨w,.refl r,by simp [storeCells],fun _ _=>rfl⟩
 |v ::l,_,i,k,h,h',w,id,b,o,z,r,hg,hl,e=>by
  cases hl with
  |cons hv ht=>
   rename_i u us
   rw [xy]at e
   obtain⟨h1,e1,e2⟩:=bC.1 e
   obtain⟨x1,⟨c,hc⟩,hf⟩:=Ext.wr1 r e1 hg hv
   have hone:cD v=true:=by
    unfold H.wr1 at e1
    obtain⟨b',_,e4⟩:=bC.1 e1
    cases b' with
    |cells n cs up ch=>
     obtain⟨_,e5⟩:=bJ.1 e4
     obtain⟨_,e6⟩:=bJ.1 e5
     exact(bJ.1 e6).1
    |_=>cases e4
   obtain⟨w',x2,h2,h3⟩:=zZ (i:=i) (k:=k+1) x1.wr hg ht e2
   refine⟨w',x1.trans x2,?_,fun j hj=>(h3 j hj).trans (gC _ hj)⟩
   have ha:(⟨b,o+(i+k),none⟩:Addr)=(⟨b,o+i,none⟩:Addr).add k:=by simp [Addr.add,Nat.add_assoc]
   rw [ha]at hc hf h2
   simp only [storeCells,Sem.run_bind,rI (mi hv hone) hc hf,Result.andThen_ok]
   rw [←ha]at h2 ⊢
   exact h2
theorem wT(hT:cM P T)(r:WR T g h w){t:TypeId}{n:Nat}{x y:Operand}{id:Nat}{b:V}{h':H}(hn:fW T t=some n)(ha:VR g (.ptr id 0) (ρ x))(hb:VR g b (ρ y))(hl:(cellsOf b).length=n)(e3:H.wr id (cellsOf b) 0 h=some h'):
  ∃w' b' o z,g id=some (b',o,z)∧Ext T g h w g h' w'∧xw P ρ w (.store t x y) undef w'∧∀j,j≠b'→w'.heap[j]? =w.heap[j]? :=by
 cases hx:ρ x<;>rw [hx]at ha<;>cases ha
 rename_i b' o z hg
 have hc:=fC hb
 obtain⟨w',x1,k1,k2⟩:=zZ (P:=P) (i:=0) (k:=0) r hg hc e3
 have hlen:=hc.length
 refine⟨w',b',o,z,hg,x1,fun o' e'=>.inr ⟨?_,rfl⟩,k2⟩
 have hs:¬(ρ y).cells.size≠n:=by simp only [ne_eq,Decidable.not_not];simp at hlen;omega
 simp only [execOp,e',hx,Instr.storeAt,Instr.sureAddr,storeVar,Sem.run_bind,Sem.run_pure,Result.andThen_ok,cm hT hn]
 rw [if_neg hs]
 simp only [Nat.add_zero]at k1 ⊢
 simp [k1]
end
section
variable {P:Program} {T:Ty} {m N:Nat}
theorem Am(hT:cM P T){E:En}{g:G}{h:H}{w:World}(s:Sit T E g h w){o:Oper}{zero:List V}{os:List Operand}{a:Act}(hc:bH T o.op=some (.a (.alloc zero),os))(hv:@VRs E g [] (os.map a.eval))
  (er:(AOp.alloc zero).run []=some (.cells zero.length (cE zero 0 .e) none false,fun i=>.ptr i 0)) (hk:h.next<bP) {KK:Act→World→Prop} {Q:Exit→Act→World→Prop}
  (hK:∀obj z u,@WR E T (et g h.next (w.heap.size,0,z)) ⟨h.t.put h.next (some (.cells zero.length (cE zero 0 .e) none false)),Nat.succ h.next⟩ (w.alloc obj)→@VR E (et g h.next (w.heap.size,0,z)) (.ptr h.next 0) u→u= .pointer (some ⟨w.heap.size,0,none⟩)→KK (a.put o.dst u) (w.alloc obj)):o.wpIn (fen none) 0 P a w KK Q:=by
 refine⟨fun _ _=>trivial,?_⟩
 rw [Oper.semAt_eq _ _ _ (@fp noE _ _ _ _ hc)]
 have hm:=@DB E P T g a.eval hT _ _ _ hc _ _ _ hv er
 obtain⟨obj,z,val,m1,m2,m3⟩:=@kN.make E _ _ _ _ _ _ _ hm
 have hnone:g h.next=none:=by
  cases e:g h.next with
  |none=>rfl
  |some x=>exact absurd (@WR.dom E _ _ _ _ s.wr _ _ e) (by omega)
 have hle:=@eR noE g _ (w.heap.size,0,z) hnone
 have hval:=m2 _ _ _ hle (@cg noE _ _ _)
 have hbr:=m3 _ (w.alloc obj) _ _ hle (@cg noE _ _ _) (@da noE w obj)
 have hnew:h.new (.cells zero.length (cE zero 0 .e) none false)=some ⟨h.t.put h.next (some (.cells zero.length (cE zero 0 .e) none false)),Nat.succ h.next⟩:=by
  show oif (Nat.blt h.next bP) _=_
  rw [show Nat.blt h.next bP=true by simp [Nat.blt];omega]
  rfl
 rw [m1 w o rfl,Oper.uponIn_value]
 refine hK obj z _ (@Ext.wr E _ _ _ _ _ _ _ (@Ext.new E T g h _ w s.wr _ _ _ hnew (@kN.kin E _ _ _ _ _ _ _ hm) hbr)) hval ?_
 generalize val w.heap.size=vv at hval
 cases hval with
 |ptr e=>
  rw [@cg noE]at e
  cases e
  rfl
theorem C6{E:En}{g:G}{h:H}{w:World}(s:Sit T E g h w){obj:Obj}{z:Nat}{h1 h2:H}{w2:World}(x:@Ext E T (et g h.next (w.heap.size,0,z)) h1 (w.alloc obj) (et g h.next (w.heap.size,0,z)) h2 w2)(keep2:∀j,j≠w.heap.size→w2.heap[j]? =(w.alloc obj).heap[j]?)
  {cs:List V} {cs':Tr V} (hb:h2.blk h.next=some (.cells cs.length cs' none false)) (hcs:∀j v,cs[j]? =some v→cs'.get j=some v) (hf:∀c,c∈cs→df (fun id=>id=h.next) c):
  ∃E',fT T noM E g h w E' g h w2∧@VR E' g (.eptr cs 0) (.pointer (some ⟨w.heap.size,0,none⟩)):=by
 classical
 obtain⟨b,o',z',c,t,k1,k2,k3,k4,k5,k6⟩:=(@WR.blk E T _ _ _ (@Ext.wr E _ _ _ _ _ _ _ x) _ _ _ (@cg noE _ _ _) hb:@Cells E (et g h.next (w.heap.size,0,z)) w2 h.next _ _)
 rw [@cg noE]at k1
 cases k1
 have hno:E.ro w.heap.size=none:=by
  cases e:E.ro w.heap.size with
  |none=>rfl
  |some c=>
   obtain⟨⟨t,q⟩,_⟩:=s.env e
   have:=(Array.getElem?_eq_some_iff.1 q).1
   omega
 let E':En:=⟨fun b=>if b=w.heap.size then some c else E.ro b⟩
 have hE:E.le E':=fun b c' e=>by
  show(if b=w.heap.size then some c else E.ro b)=some c'
  rw [if_neg (fun q=>by rw [q,hno]at e;cases e),e]
 have hEn:E'.ro w.heap.size=some c:=if_pos rfl
 have hEo:∀b c',E'.ro b=some c'→b=w.heap.size∧c'=c∨E.ro b=some c':=fun b c' e=>by
  have e:(if b=w.heap.size then some c else E.ro b)=some c':=e
  by_cases q:b=w.heap.size
  ·rw [if_pos q]at e;cases e;exact .inl ⟨q,rfl⟩
  ·rw [if_neg q]at e;exact .inr e
 have hcs':∀j x,cs[j]? =some x→∃u,c[0+j]? =some u∧@VR E g x u:=fun j x e=>by
  have hj:=(List.getElem?_eq_some_iff.1 e).1
  obtain⟨u,q1,q2,_⟩:=k6 j x hj (hcs j x e)
  refine⟨u,q1,hf x (List.mem_of_getElem? e) E _ g u (fun id y hn hy=>?_) q2⟩
  have:et g h.next (w.heap.size,0,z) id=g id:=by unfold et;rw [if_neg hn]
  rwa [this]at hy
 have hxs:∃xs,@VRs E g cs xs∧∀j u,xs[j]? =some u→c[0+j]? =some u:=by
  have:∀(l:List V) (k:Nat),(∀j x,l[j]? =some x→∃u,c[k+j]? =some u∧@VR E g x u)→∃xs,@VRs E g l xs∧∀j u,xs[j]? =some u→c[k+j]? =some u:=by
   intro l
   induction l with
   |nil=>exact fun k _=>⟨[],@VRs.nil E g,fun j u e=>by simp at e⟩
   |cons v l ih=>
    intro k h
    obtain⟨u,h1,h2⟩:=h 0 v (by simp)
    obtain⟨xs,k1,k2⟩:=ih (k+1) fun j v e=>by
     obtain⟨u,q1,q2⟩:=h (j+1) v (by simpa using e)
     exact⟨u,by rw [show k+1+j=k+(j+1) by omega];exact q1,q2⟩
    refine⟨u ::xs,@VRs.cons E g _ _ _ _ h2 k1,fun j y e=>?_⟩
    cases j with
    |zero=>simp at e;subst e;exact h1
    |succ j=>rw [show k+(j+1)=k+1+j by omega];exact k2 j y (by simpa using e)
  exact this cs 0 hcs'
 obtain⟨xs,x1,x2⟩:=hxs
 have hsz:(w.alloc obj).heap.size=w.heap.size+1:=by show(w.heap.push obj).size=_;rw [Array.size_push]
 have hsize:w.heap.size+1≤w2.heap.size:=hsz ▸ @Ext.size E _ _ _ _ _ _ _ x
 have hkeep:∀b,b<w.heap.size→w2.heap[b]? =w.heap[b]? :=fun b hb=>by
  rw [keep2 b (by omega)]
  show(w.heap.push obj)[b]? =_
  rw [Array.getElem?_push,if_neg (by omega)]
 refine⟨E',⟨hE,fun b c' e=>?_,fun _ _ _ e=>e,Nat.le_refl _,Sit.mk' ?_ s.pin (fun b c' e=>?_),by omega,fun b hb _=>hkeep b hb,fun id b o z e=>.inr ⟨id,o,z,e⟩,fun p hp=>hkeep _ (by
  obtain⟨⟨z,q⟩,_⟩:=s.pin p hp
  exact s.lt q),(by have:=@Ext.os E _ _ _ _ _ _ _ x;exact this),(by have:=@Ext.tape E _ _ _ _ _ _ _ x;exact this),(by have:=@Ext.output E _ _ _ _ _ _ _ x;exact this)⟩,@VR.eptr E' g _ _ _ _ _ _ hEn x2 (x1.env hE)⟩
 ·rcases hEo b c' e with⟨q,_⟩|q
  ·exact .inr (by omega)
  ·exact .inl q
 ·have r:=WR.env hE s.wr
  cases r with
  |mk a b c d e f k' x=>
   exact @WR.mk E' T g h _ a b c (fun id b o z q=>by have:=d _ _ _ _ q;omega) (fun id y b e1 e2=>by
    obtain⟨b',o',z⟩:=y
    exact @BR.move E' _ _ _ _ _ _ _ _ _ e1 (hkeep _ (d _ _ _ _ e1)) (e _ _ _ e1 e2)) f k' x
 ·rcases hEo b c' e with⟨rfl,rfl⟩|q
  ·exact⟨⟨(t,0,0),k2⟩,fun id o z q=>absurd (s.lt q) (by omega)⟩
  ·obtain⟨⟨t,q1⟩,q2⟩:=s.env q
   exact⟨⟨t,(hkeep _ (Array.getElem?_eq_some_iff.1 q1).1).trans q1⟩,q2⟩
end
end
end Ev
end Go.Proofs.YtdfphfdnoobikaaGreatDoor
