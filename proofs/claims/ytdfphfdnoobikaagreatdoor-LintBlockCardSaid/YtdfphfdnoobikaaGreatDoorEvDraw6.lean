/-
  A region that draws its order:the law,in one.
-/
import Derived.Test.YtdfphfdnoobikaaGreatDoorEvDraw2
namespace Go.Proofs.YtdfphfdnoobikaaGreatDoor
namespace Ev
section
variable [Env]
set_option linter.unusedSectionVars false
section
variable {P:Program} {T:Ty} {m N:Nat}
variable {call:cB} {ops:Array Oper} {cl:List bQ} {bs ord:List Nat} {s0 sn:St} {tr:List Ent} {g0:G} {a0:Act} {w0:World}
noncomputable abbrev ph(ops:Array Oper)(cl:List bQ)(bs:List Nat):Nat→Nat:=fun i=>bU (((List.range ops.size).filter (dw cl)).filter fun e=>!bit (cG bs e) i)
theorem GS(hor:iP ops cl bs ord)(hmap:tr.map (·.i)=ord)(hcl:∀(i:Nat) c,cl[i]? =some c→∃o,ops[i]? =some o∧jI T m N ops o c){listed:Array Bool}{a:Act}{w:World}{g:G}{A B:List Ent}{sA:St}(I:Inv T m N call ops cl (ph ops cl bs) bs s0 tr sn g0 a0 w0 listed a w g A B sA){i:Nat}(hl:listed.getD i false=false):nE cl A≤ph ops cl bs i:=by
 unfold nE
 show _≤bU _
 rw [bS]
 have h1:(A.filter fun e=>dw cl e.i).length=((A.filter fun e=>dw cl e.i).map (·.i)).length:=by simp
 rw [h1]
 refine pr ?_ fun x hx=>?_
 ·have hnd:∀(pre l post:List Ent),tr=pre++l++post→(l.map (·.i)).Nodup:=by
   intro pre l
   induction l generalizing pre with
   |nil=>intro post _;exact List.nodup_nil
   |cons e l ih=>
    intro post he
    rw [List.map_cons,List.nodup_cons]
    refine⟨fun hm=>?_,ih (pre++[e]) post (by rw [he];simp)⟩
    rw [List.mem_map]at hm
    obtain⟨y,hy,hye⟩:=hm
    obtain⟨s1,s2,rfl⟩:=List.append_of_mem hy
    have:=(hor.pre (pre.map (·.i)++e.i ::s1.map (·.i)) y.i (s2.map (·.i)++post.map (·.i)) (by rw [←hmap,he];simp)).2.1
    exact this (by rw [hye];simp)
  have:=hnd [] A B (by rw [I.tr];simp)
  exact List.Sublist.nodup (List.Sublist.map _ List.filter_sublist) this
 ·rw [List.mem_map]at hx
  obtain⟨y,hy,rfl⟩:=hx
  rw [List.mem_filter]at hy
  rw [List.mem_filter,List.mem_filter,List.mem_range]
  refine⟨⟨?_,hy.2⟩,?_⟩
  ·have:∃c,cl[y.i]? =some c:=by
    cases hc:cl[y.i]? with
    |some c=>exact⟨c,rfl⟩
    |none=>
     have:=hy.2
     unfold dw at this
     rw [dA,hc]at this
     cases this
   obtain⟨c,hc⟩:=this
   obtain⟨o,ho,_⟩:=hcl _ _ hc
   exact iK ho
  ·have:=I.es y hy.1 hy.2
   cases hb:bit (cG bs y.i) i with
   |false=>rfl
   |true=>
    have:=I.closed _ this _ hb
    rw [hl]at this
    cases this
theorem Inv.done(hor:iP ops cl bs ord)(hmap:tr.map (·.i)=ord)(hcl:∀(i:Nat) c,cl[i]? =some c→∃o,ops[i]? =some o∧jI T m N ops o c)(hst:fR T ops bs)(F0:FR g0 m N s0.f a0.tmps){hi:Nat→Nat}{listed:Array Bool}{a:Act}{w:World}{g:G}{A B:List Ent}{sA:St}
  (I:Inv T m N call ops cl hi bs s0 tr sn g0 a0 w0 listed a w g A B sA) (hall:∀i,i<ops.size→listed.getD i false=true):Ext T g0 s0.h w0 g sn.h w∧FR g m N sn.f a.tmps∧a.defers=a0.defers:=by
 have hB:B=[]:=by
  cases hB:B with
  |nil=>rfl
  |cons e B'=>
   have htr:=I.tr
   rw [hB]at htr
   have hE:=I.bnd e B' hB
   have hc:∃c,cl[e.i]? =some c:=by
    cases hc:cl[e.i]? with
    |some c=>exact⟨c,rfl⟩
    |none=>
     unfold dw at hE
     rw [dA,hc]at hE
     cases hE
   obtain⟨c,hc⟩:=hc
   obtain⟨o,ho,_⟩:=hcl _ _ hc
   obtain⟨x,hx,hxe⟩:=I.inA e.i (hall _ (iK ho))
   have:=(hor.pre (A.map (·.i)) e.i (B'.map (·.i)) (by rw [←hmap,htr];simp)).2.1
   exact(this (by rw [←hxe];exact List.mem_map.2 ⟨x,hx,rfl⟩)).elim
 have hs:sA=sn:=by
  have:=I.tB
  rw [hB]at this
  cases this
  rfl
 subst hs
 refine⟨I.ext,⟨I.tsize,fun t v hv=>?_⟩,I.defers⟩
 obtain⟨n1,n2⟩:=I.tA.names hcl
 have listedA:∀e∈A,listed.getD e.i false=true:=by
  intro e he
  obtain⟨s1,s2,e1⟩:=List.append_of_mem he
  obtain⟨s',_,k2⟩:=dy.split (A:=s1) (B:=e ::s2) (by rw [←e1];exact I.tA)
  obtain⟨_,_,c,_,hc,_,_⟩:=k2.head
  obtain⟨o,ho,_⟩:=hcl _ _ hc
  exact hall _ (iK ho)
 by_cases hw:∃x∈A,(ops[x.i]?).bind (fun o:Oper=>o.dst)=some t
 ·obtain⟨x,hx,hxd⟩:=hw
  obtain⟨s,r,e1⟩:=List.append_of_mem hx
  have hrd:rdn m sA.f t=some x.v:=by
   refine n2 s x r e1 t hxd fun y hy hyd=>?_
   obtain⟨p,hp,hpd⟩:∃p:Oper,ops[x.i]? =some p∧p.dst=some t:=by
    cases hpp:ops[x.i]? with
    |none=>rw [hpp]at hxd;cases hxd
    |some p=>rw [hpp]at hxd;exact⟨p,rfl,hxd⟩
   obtain⟨q,hq,hqd⟩:∃p:Oper,ops[y.i]? =some p∧p.dst=some t:=by
    cases hpp:ops[y.i]? with
    |none=>rw [hpp]at hyd;cases hyd
    |some p=>rw [hpp]at hyd;exact⟨p,rfl,hyd⟩
   have hxy:x.i≠y.i:=by
    intro h
    obtain⟨r1,r2,rfl⟩:=List.append_of_mem hy
    have:=(hor.pre (s.map (·.i)++x.i ::r1.map (·.i)) y.i (r2.map (·.i)++B.map (·.i)) (by rw [←hmap,I.tr,e1];simp)).2.1
    exact this (by rw [←h];simp)
   have hmem:t∈dD T ops p:=by
    unfold dD
    rw [hpd]
    simp
   exact(hst.names x.i y.i p q t hxy hp hq hqd hmem).2 hpd
  rw [hrd]at hv
  cases hv
  exact I.new x hx (listedA x hx) t hxd
 ·rw [n1 t fun x hx hd=>hw ⟨x,hx,hd⟩]at hv
  obtain⟨u,k1,k2⟩:=F0.2 t v hv
  refine⟨u,?_,k2.mono I.ext.le⟩
  rw [I.old t fun j hj hd=>?_]
  ·exact k1
  ·obtain⟨x,hx,rfl⟩:=I.inA j hj
   exact hw ⟨x,hx,hd⟩
theorem mh:∀{A0 A1 z1 z2:List Ent} {e:Ent},A0++e ::A1=z1++e ::z2→e∉z1→e∉A0→A0=z1
 |[],A1,[],z2,e,_,_,_=>rfl
 |[],A1,y ::z1,z2,e,h,h1,_=>by
  simp only [List.nil_append,List.cons_append,List.cons.injEq]at h
  exact absurd (by rw [h.1];exact List.mem_cons_self) h1
 |x ::A0,A1,[],z2,e,h,_,h2=>by
  simp only [List.nil_append,List.cons_append,List.cons.injEq]at h
  exact absurd (by rw [h.1];exact List.mem_cons_self) h2
 |x ::A0,A1,y ::z1,z2,e,h,h1,h2=>by
  simp only [List.cons_append,List.cons.injEq]at h
  rw [h.1,mh h.2 (fun k=>h1 (List.mem_cons_of_mem _ k)) fun k=>h2 (List.mem_cons_of_mem _ k)]
theorem wY(hT:cM P T)(hk:eu P T call)(hcl0:fI (eX T m N ops) ops.toList=some cl)(hst:fR T ops bs)(hor:iP ops cl bs ord)(hmap:tr.map (·.i)=ord)(htr:dy call cl (ph ops cl bs) 0 s0 tr sn)
  (hs0:s0.hs=[]) (hchk:bD sn.cs (i7 sn.hs [sn.h])) (hG:gX T g0 s0.h w0) (F0:FR g0 m N s0.f a0.tmps) {rd:Option Nat} {Q:Exit→Act→World→Prop}
  (hQ:∀g' a' w',Ext T g0 s0.h w0 g' sn.h w'→FR g' m N sn.f a'.tmps→a'.defers=a0.defers→Q .normal a' w'):∀(fuel:Nat) (listed:Array Bool) (a:Act) (w:World) (g:G) (A B:List Ent) (sA:St),
  Inv T m N call ops cl (ph ops cl bs) bs s0 tr sn g0 a0 w0 listed a w g A B sA→left ops listed≤fuel→wpAnyIn (fen rd) 0 P .any ops Q fuel listed a w:=by
 have hcl:∀(i:Nat) c,cl[i]? =some c→∃o,ops[i]? =some o∧jI T m N ops o c:=by
  intro i c hc
  obtain⟨hlen,hall⟩:=lK hcl0
  have hi:i<ops.toList.length:=by
   rw [←hlen]
   rcases Nat.lt_or_ge i cl.length with k|k
   ·exact k
   ·rw [List.getElem?_eq_none k]at hc;cases hc
  obtain⟨b,h1,h2⟩:=hall i _ (List.getElem?_eq_getElem hi)
  rw [hc]at h1
  cases h1
  exact⟨_,by rw [←Array.getElem?_toList];exact List.getElem?_eq_getElem hi,dj h2⟩
 intro fuel
 induction fuel with
 |zero=>
  intro listed a w g A B sA I hf
  have hall:=rX (Nat.le_zero.1 hf)
  refine⟨?_,?_⟩
  ·unfold Region.ready
   rw [List.filter_eq_nil_iff]
   intro i hi
   rw [List.mem_range]at hi
   have:=hall i hi
   rw [Array.getD_eq_getD_getElem?,Array.getElem?_eq_getElem (by rw [I.size];exact hi)]at this
   rw [Array.getD_eq_getD_getElem?,Array.getElem?_eq_getElem (by rw [I.size];exact hi)]
   simp only [Option.getD_some]at this ⊢
   rw [this]
   simp
  ·obtain⟨x1,x2,x3⟩:=I.done hor hmap hcl hst F0 hall
   exact hQ _ _ _ x1 x2 x3
 |succ fuel ih=>
  intro listed a w g A B sA I hf
  refine⟨fun hn=>?_,fun i hi=>?_⟩
  ·obtain⟨x1,x2,x3⟩:=I.done hor hmap hcl hst F0 (rL hst I.size hn)
   exact hQ _ _ _ x1 x2 x3
  ·obtain⟨hlt,hl,o,ho,hedge⟩:=rM I.size hi
   have hbef:∀j,bit (cG bs i) j=true→listed.getD j false=true:=by
    intro j hj
    obtain⟨e,he,hb,h⟩:=hst.before i o ho j hj
    rcases h with rfl|h
    ·exact hedge e he hb
    ·exact I.closed _ (hedge e he hb) _ h
   have hleft:left ops (listed.setIfInBounds i true)≤fuel:=by
    have:=uM I.size hlt hl
    omega
   obtain⟨e,heT,rfl⟩:∃e∈tr,e.i=i:=by
    have:=hor.all i hlt
    rw [←hmap,List.mem_map]at this
    exact this
   obtain⟨A0,A1,hA⟩:=List.append_of_mem heT
   obtain⟨s',t0,t1⟩:=dy.split (A:=A0) (B:=e ::A1) (by rw [←hA];exact htr)
   obtain⟨hes,hek,c,s1,hc,st,t2⟩:=t1.head
   rw [←hes]at t0
   rw [Nat.zero_add]at hek st t2
   have hreads:=I.reads hst hor hcl hmap F0 hA t0 ho hl hbef
   obtain⟨o',ho',hp⟩:=hcl _ _ hc
   rw [ho]at ho'
   cases ho'
   have hGg:=hG.ext I.ext
   have first:∀b∈A0,dw cl b.i=true→listed.getD b.i false=true:=fun b hb hbE=>hbef _ ((hor.pre (A0.map (·.i)) e.i (A1.map (·.i)) (by rw [←hmap,hA];simp)).2.2 b.i (List.mem_map.2 ⟨b,hb,rfl⟩) hbE)
   have hguard:∀{b:Bool},bV e.s.f c.guard=some b→Region.wanted o (yielded ops a.tmps)=b:=fun hg=>eW hp hg fun t ht v hv=>hreads t (by
    obtain⟨gi,gw,h1,h2⟩:=ht
    unfold dD
    rw [h1]
    simp [h2]) v hv
   have hargs:∀{vs:List V} {os:List Operand},bH T o.op=some (c.op,os)→fI (opd T m) os=some c.args→evs e.s.f c.args=some vs→VRs g vs (os.map a.eval):=fun h1 h2 h3=>jm hGg h2 h3 fun t ht v hv=>hreads t (by
    unfold dD
    rw [h1]
    refine List.mem_append_right _ (List.mem_append_left _ ?_)
    exact List.mem_filterMap.2 ⟨.tmp t,ht,rfl⟩) v hv
   unfold wpOpIn
   simp only [ho]
   by_cases hE:dw cl e.i=true
   ·
    have hEc:isE c.op=true:=by rw [←dR hc];exact hE
    have hB:∃B',B=e ::B':=by
     have hnA:e∉A:=fun h=>by
      have:=I.es e h hE
      rw [hl]at this
      cases this
     have heB:e∈B:=by
      rw [I.tr]at heT
      exact(List.mem_append.1 heT).resolve_left hnA
     cases hBB:B with
     |nil=>rw [hBB]at heB;cases heB
     |cons b B'=>
      rw [hBB]at heB
      rcases List.mem_cons.1 heB with h|h
      ·exact⟨B',by rw [h]⟩
      ·have hb:=I.bnd b B' hBB
       obtain⟨s1',s2',rfl⟩:=List.append_of_mem h
       have htr':tr=(A++b ::s1')++e ::s2':=by rw [I.tr,hBB];simp
       have hbl:=hbef _ ((hor.pre ((A++b ::s1').map (·.i)) e.i (s2'.map (·.i)) (by rw [←hmap,htr'];simp)).2.2 b.i (List.mem_map.2 ⟨b,by simp,rfl⟩) hb)
       obtain⟨y,hy,hyb⟩:=I.inA _ hbl
       have:=(hor.pre (A.map (·.i)) b.i ((s1'++e ::s2').map (·.i)) (by rw [←hmap,I.tr,hBB];simp)).2.1
       exact(this (by rw [←hyb];exact List.mem_map.2 ⟨y,hy,rfl⟩)).elim
    obtain⟨B',rfl⟩:=hB
    obtain⟨hes2,hek2,c',s1',hc',st',t2'⟩:=I.tB.head
    rw [hc]at hc'
    cases hc'
    have hnm:∀blk,¬nG cl e blk:=by
     intro blk hm
     obtain⟨c',ao,vs,mk,m1,m2,_⟩:=hm
     rw [hc]at m1
     cases m1
     rw [m2]at hEc
     cases hEc
    rcases st'.main with⟨h1,h2,h3,h4⟩ | ⟨vs,h1,h2,h3,h4,h5⟩
    ·rw [hguard (by rw [hes2];exact h1)]
     refine⟨fun _ _=>trivial,?_⟩
     obtain⟨A',B'',sA',I'⟩:=I.write (u:=undef) hst hor hmap hE ho hl hbef hp.dst hc hes2 st' t2' hek2 (by rw [h3];exact .refl I.wr) (by rw [h2];exact fy) hnm
     exact ih _ _ _ _ _ _ _ I' hleft
    ·rw [hguard (by rw [hes2];exact h1)]
     obtain⟨os,k1,k2⟩:=hp.op
     refine lI hT hk I.wr hGg k1 (hargs k1 k2 (by rw [hes2];exact h2)) h3 fun g' w' u x1 x2=>?_
     obtain⟨A',B'',sA',I'⟩:=I.write hst hor hmap hE ho hl hbef hp.dst hc hes2 st' t2' hek2 x1 x2 hnm
     exact ih _ _ _ _ _ _ _ I' hleft
   ·
    have heA:e∈A:=by
     rw [I.tr]at heT
     rcases List.mem_append.1 heT with h|h
     ·exact h
     ·cases hBB:B with
      |nil=>rw [hBB]at h;cases h
      |cons b B'=>
       rw [hBB]at h
       have hb:=I.bnd b B' hBB
       rcases List.mem_cons.1 h with h|h
       ·rw [h]at hE;exact absurd hb hE
       ·obtain⟨s1',s2',rfl⟩:=List.append_of_mem h
        have htr':tr=(A++b ::s1')++e ::s2':=by rw [I.tr,hBB];simp
        have hbl:=hbef _ ((hor.pre ((A++b ::s1').map (·.i)) e.i (s2'.map (·.i)) (by rw [←hmap,htr'];simp)).2.2 b.i (List.mem_map.2 ⟨b,by simp,rfl⟩) hb)
        obtain⟨y,hy,hyb⟩:=I.inA _ hbl
        have:=(hor.pre (A.map (·.i)) b.i ((s1'++e ::s2').map (·.i)) (by rw [←hmap,I.tr,hBB];simp)).2.1
        exact(this (by rw [←hyb];exact List.mem_map.2 ⟨y,hy,rfl⟩)).elim
    rcases st.main with⟨h1,h2,h3,h4⟩ | ⟨vs,h1,h2,h3,h4,h5⟩
    ·rw [hguard (by rw [hes];exact h1)]
     refine⟨fun _ _=>trivial,?_⟩
     exact ih _ _ _ _ _ _ _ (I.same hst hor hmap heA ho hl hbef hp.dst (.refl I.wr) (by rw [h2];exact fy)) hleft
    ·rw [hguard (by rw [hes];exact h1)]
     obtain⟨os,k1,k2⟩:=hp.op
     have hv:=hargs k1 k2 (by rw [hes];exact h2)
     have iM:c.op.run call vs sA.h=some (e.v,sA.h)→o.wpIn (fen rd) 0 P a w (wpAnyIn (fen rd) 0 P .any ops Q fuel (listed.setIfInBounds e.i true)) Q:=fun hrun=>
      lI hT hk I.wr hGg k1 hv hrun fun g' w' u x1 x2=>ih _ _ _ _ _ _ _ (I.same hst hor hmap heA ho hl hbef hp.dst x1 x2) hleft
     have h3':c.op.run call vs s'.h=some (e.v,s1.h):=h3
     cases hop:c.op with
     |p po=>
      rw [hop]at h3'
      obtain⟨x,k3,k4⟩:=bC.1 (show ob (po.run vs) (fun v=>some (v,s'.h))=some (e.v,s1.h)from h3')
      refine iM ?_
      rw [hop]
      show ob (po.run vs) (fun v=>some (v,sA.h))=_
      rw [k3,(Prod.mk.inj (Option.some.inj k4)).1.symm]
      rfl
     |r ro=>
      rw [hop]at h3'
      obtain⟨x,k3,k4⟩:=bC.1 (show ob (ro.run vs s'.h) (fun v=>some (v,s'.h))=some (e.v,s1.h)from h3')
      refine iM ?_
      rw [hop]
      show ob (ro.run vs sA.h) (fun v=>some (v,sA.h))=_
      have hmem:(⟨ro,vs,e.v,nE cl A0,ph ops cl bs e.i⟩:Tc)∈sn.cs:=t2.cs _ (by rw [h4 ro hop];exact List.mem_cons_self)
      have hrd:=hchk _ hmem
      have hhs:=htr.hs
      rw [hs0,List.append_nil,I.tr]at hhs
      have hat:(i7 sn.hs [sn.h])[nE cl A]? =some sA.h:=by
       rw [sM,hhs,List.reverse_reverse,List.filter_append,List.map_append]
       have hlen:((A.filter fun e=>dw cl e.i).map fun e=>e.s.h).length=nE cl A:=by simp [nE]
       rw [List.append_assoc,List.getElem?_append_right (by rw [hlen];exact Nat.le_refl _),hlen,Nat.sub_self]
       cases hBB:B with
       |nil=>
        have:=I.tB
        rw [hBB]at this
        cases this
        rfl
       |cons b B'=>
        have hb:=I.bnd b B' hBB
        have:=I.tB
        rw [hBB]at this
        obtain⟨q1,_⟩:=this.head
        rw [List.filter_cons,if_pos hb,List.map_cons,q1]
        rfl
      have hlo:nE cl A0≤nE cl A:=by
       obtain⟨z1,z2,rfl⟩:=List.append_of_mem heA
       have hA0:A0=z1:=by
        refine mh (A1:=A1) (z2:=z2++B) (e:=e) (by rw [←hA,I.tr];simp) (fun h=>?_) fun h=>?_
        ·have:=(hor.pre (z1.map (·.i)) e.i ((z2++B).map (·.i)) (by rw [←hmap,I.tr];simp)).2.1
         exact this (List.mem_map.2 ⟨e,h,rfl⟩)
        ·have:=(hor.pre (A0.map (·.i)) e.i (A1.map (·.i)) (by rw [←hmap,hA];simp)).2.1
         exact this (List.mem_map.2 ⟨e,h,rfl⟩)
       subst hA0
       simp [nE,List.filter_append]
      have:=hrd (nE cl A) _ hat hlo (GS hor hmap hcl I hl)
      simp only at this
      rw [this]
      rfl
     |a ao=>
      rw [hop]at h3'
      obtain⟨p,k3,k4⟩:=bC.1 (show ob (ao.run vs) (fun r=>ob (s'.h.new r.1) fun h'=>some (r.2 s'.h.next,h'))=some (e.v,s1.h)from h3')
      obtain⟨h',k5,k6⟩:=bC.1 k4
      have hev:e.v=p.2 e.s.h.next:=by rw [hes];exact(Prod.mk.inj (Option.some.inj k6)).1.symm
      have hmade:nG cl e p.1:=⟨c,ao,vs,p.2,hc,hop,by rw [hes];exact h1,by rw [hes];exact h2,k3,hev⟩
      rw [hop]at k1
      obtain⟨obj,val,g',n1,I'⟩:=I.make (ρ:=a.eval) (op:=o.op) hst hor hmap heA ho hl hbef hp.dst hmade (DB hT k1 hv k3) hev
      refine⟨fun _ _=>trivial,?_⟩
      rw [Oper.semAt_eq _ _ _ (fp k1),n1 w o rfl,Oper.uponIn_value]
      exact ih _ _ _ _ _ _ _ I' hleft
     |e eo=>exact absurd (by rw [dR hc,hop];rfl) hE
     |call f=>exact absurd (by rw [dR hc,hop];rfl) hE
     |callv=>exact absurd (by rw [dR hc,hop];rfl) hE
theorem vj(hT:cM P T)(hk:eu P T call)(hm:P.follows .mixedOrders=true){id:Nat}{l:List bQ}(hcl:fI (eX T m N ops) ops.toList=some cl)(hd:sv T cl ops=some l){f0:F}{h0:H}{s:St}(hr:fG call l ⟨f0,h0,[],[]⟩=some s)(hchk:bD s.cs (i7 s.hs [s.h]))
  {g:G} {a:Act} {w:World} (r:WR T g h0 w) (hG:gX T g h0 w) (F0:FR g m N f0 a.tmps) {rd:Option Nat} {Q:Exit→Act→World→Prop}
  (hQ:∀g' a' w',Ext T g h0 w g' s.h w'→FR g' m N s.f a'.tmps→a'.defers=a.defers→Q .normal a' w'):(Code.region id ops true).wpIn (fen rd) 0 P Q a w:=by
 obtain⟨bs,ord,hst,hor,hlh⟩:=vp hd
 obtain⟨tr,htr,hmap⟩:=tW hlh hr
 refine wpIn_region_any hm ?_
 have r1:WR T g h0 {w with drawn:=w.drawn+1}:=r.drew1
 obtain⟨S,B',s',q1,q2,q3,q4,q5,q6,q7,q8,q9,q10⟩:=sL htr (g:=g) (w:={w with drawn:=w.drawn+1}) r1
 have hx0:Ext T g h0 w g h0 {w with drawn:=w.drawn+1}:=⟨g.le_refl,Nat.le_refl _,r1,fun _ _ e=>⟨e,rfl⟩,Nat.le_refl _,fun _ _ _=>rfl,(fun id b o z h1 h2=>by rw [h2]at h1;cases h1),fun _ _ _ _ _ _ _ e=>⟨e,rfl⟩,rfl,rfl,rfl⟩
 have getD0:∀i,(Array.replicate ops.size false).getD i false=false:=by
  intro i
  rw [Array.getD_eq_getD_getElem?,Array.getElem?_replicate]
  split<;>rfl
 have hnE:nE cl S=0:=by
  unfold nE
  rw [List.length_eq_zero_iff,List.filter_eq_nil_iff]
  intro y hy
  rw [q5 y hy]
  decide
 have I:Inv T m N call ops cl (ph ops cl bs) bs ⟨f0,h0,[],[]⟩ tr s g a w (Array.replicate ops.size false) a {w with drawn:=w.drawn+1} g S B' s':=
  ⟨q1,q2,by rw [hnE];exact q3,q4,q6,hx0.mem q6 q7 q8,by simp,(fun i hi=>by rw [getD0]at hi;cases hi),(fun e he hE=>by rw [q5 e he]at hE;cases hE),(fun i hi=>by rw [getD0]at hi;cases hi),F0.1,fun _ _=>rfl,(fun e _ hl=>by rw [getD0]at hl;cases hl),
   (fun e he blk hm _=>by
    obtain⟨z1,z2,z3⟩:=q9 e he blk hm
    refine⟨?_,z3,z1⟩
    cases hg:g e.s.h.next with
    |none=>rfl
    |some p=>exact absurd (r.dom _ _ hg) (by have z1:h0.next≤e.s.h.next:=z1;omega)),(fun e he blk hm=>(q9 e he blk hm).2.1),q10,rfl⟩
 refine wY hT hk hcl hst hor hmap htr rfl hchk hG F0 hQ ops.size _ a _ g S B' s' I ?_
 unfold left
 refine Nat.le_trans (List.length_filter_le _ _) ?_
 simp
theorem Da(hT:cM P T)(hk:eu P T call)(hm:P.follows .mixedOrders=true){id:Nat}{l:List bQ}(hcl:fI (eX T m N ops) ops.toList=some cl)(hd:sv T cl ops=some l){f0:F}{h0:H}{s:St}(hr:fG call l ⟨f0,h0,[],[]⟩=some s)(hchk:(Bool.rec (motive:=fun _=>Bool) (js s.cs (i7 s.hs [s.h])) true (iM l):Bool)=true)
  {g:G} {a:Act} {w:World} (r:WR T g h0 w) (hG:gX T g h0 w) (F0:FR g m N f0 a.tmps) {rd:Option Nat} {Q:Exit→Act→World→Prop}
  (hQ:∀g' a' w',Ext T g h0 w g' s.h w'→FR g' m N s.f a'.tmps→a'.defers=a.defers→Q .normal a' w'):(Code.region id ops true).wpIn (fen rd) 0 P Q a w:=
 vj hT hk hm hcl hd hr (xk hr hchk) r hG F0 hQ
end
end
section
variable [Env]
set_option linter.unusedSectionVars false
section
variable {P:Program} {T:Ty} {m N:Nat}
def kY(r:Nat):Deferred:={target:= .collected r,args:=#[]}
def dV(D:List Deferred)(g:G)(w:World)(B:Nat)(ds:List Deferred):Prop:=
 ∃rs:List Nat,ds=rs.map kY++D∧rs.Nodup∧∀r∈rs,B≤r∧r<w.heap.size∧(∀id o z,g id≠some (r,o,z))∧w.heap[r]? =some (.deferred (some []))
theorem dV.nil{D:List Deferred}{g:G}{w:World}{B:Nat}:dV D g w B D:=⟨[],rfl,List.nodup_nil,by simp⟩
theorem dV.ext{D:List Deferred}{g g':G}{h h':H}{w w':World}{B:Nat}{ds:List Deferred}(x:Ext T g h w g' h' w')(k:dV D g w B ds):dV D g' w' B ds:=by
 obtain⟨rs,h1,h2,h3⟩:=k
 refine⟨rs,h1,h2,fun r hr=>?_⟩
 obtain⟨k1,k2,k3,k4⟩:=h3 r hr
 refine⟨k1,Nat.lt_of_lt_of_le k2 x.size,fun id o z e=>?_,(x.keep r k2 k3).trans k4⟩
 cases hg:g id with
 |some y=>rw [x.le _ _ hg]at e;cases e;exact k3 id o z hg
 |none=>
  rcases x.fresh id r o z e hg with h | ⟨i,o',z',h⟩
  ·omega
  ·exact k3 i o' z' h
theorem dV.push{D:List Deferred}{g g':G}{h h':H}{w w':World}{B r:Nat}{ds:List Deferred}(x:Ext T g h w g' h' w')(k:dV D g w B ds)(h1:B≤r)(h2:w.heap.size≤r)(h3:r<w'.heap.size)(h4:∀id o z,g' id≠some (r,o,z))(h5:w'.heap[r]? =some (.deferred (some []))):dV D g' w' B (kY r ::ds):=by
 obtain⟨rs,q1,q2,q3⟩:=k
 have k':∀s∈rs,B≤s∧s<w'.heap.size∧(∀id o z,g' id≠some (s,o,z))∧w'.heap[s]? =some (.deferred (some [])):=by
  intro s hs
  have one:dV [] g w B [kY s]:=⟨[s],rfl,by simp,fun y hy=>by rw [List.mem_singleton]at hy;subst hy;exact q3 y hs⟩
  obtain⟨rs',p1,p2,p3⟩:=one.ext x
  rw [List.append_nil]at p1
  cases rs' with
  |nil=>cases p1
  |cons y rs'=>
   have:s=y:=by
    have e:=(List.cons.inj p1).1
    simpa [kY]using e
   subst this
   exact p3 s List.mem_cons_self
 refine⟨r ::rs,by rw [q1];rfl,?_,fun s hs=>?_⟩
 ·rw [List.nodup_cons]
  exact⟨fun hm=>by have:=(q3 _ hm).2.1;omega,q2⟩
 ·rcases List.mem_cons.1 hs with h|h
  ·subst h
   exact⟨h1,h3,h4,h5⟩
  ·exact k' s h
def mD:X→Exit→Prop
 |.norm,.normal=>True
 |.exit i,.exit j=>i=j
 |.ret,.ret=>True
 |_,_=>False
def Out(D:List Deferred)(T:Ty)(m N:Nat)(rd:Option Nat)(B:Nat)(g:G)(h:H)(w:World)(x:X)(f':F)(h':H)(e:Exit)(a':Act)(w':World):Prop:=
 ∃g',Ext T g h w g' h' w'∧FR g' m N f' a'.tmps∧(rd=none→dV D g' w' B a'.defers)∧mD x e
theorem FR.clr{g:G}{f:F}{tmps:Array Value}(h:FR g m N f tmps):FR g m N (clr f) tmps:=by
 refine⟨h.1,fun t v e=>h.2 t v ?_⟩
 unfold rdn at e ⊢
 split at e
 ·rename_i hb
  rw [if_pos hb]
  exact e
 ·cases e
theorem kf(a b:Code):dI T m N (.seq a b)=ob (dI T m N a) fun a=>ob (dI T m N b) fun b=>some (.seq a b):=by rw [dI]
theorem kg(id:Nat)(ops:Array Oper):dI T m N (.region id ops false)=rT (ob (fI (eX T m N ops) ops.toList) fun l=>some (.reg l)):=by rw [dI]
theorem iV(id:Nat)(ops:Array Oper):dI T m N (.region id ops true)=rT (ob (fI (eX T m N ops) ops.toList) fun l=>ob (sv T l ops) fun l=>some (.regD l)):=by rw [dI]
theorem d3{o:Option bZ}{c:bZ}(h:rT o=some c):o=some c∨c=rA:=by
 cases o with
 |none=>cases h;exact .inr rfl
 |some x=>cases h;exact .inl rfl
theorem qM(call:cB)(rd:Bool)(n:Nat)(f:F)(h:H):exec call rd n rA f h=none:=rfl
theorem iX(o:Operand)(a b:Code):dI T m N (.cond o a b)=ob (opd T m o) fun o=>ob (dI T m N a) fun a=>ob (dI T m N b) fun b=>some (.cond o a b):=by rw [dI]
theorem ic(id:Nat)(c:Code):dI T m N (.block id c)=ob (dI T m N c) fun c=>some (.block id c):=by rw [dI]
theorem iW(c:Code):dI T m N (.loop c)=ob (dI T m N c) fun c=>some (.loop c):=by rw [dI]
theorem ib(f:Operand)(ps:Array Tmp)(a b:Code):dI T m N (.rangeFunc f ps a b)=ob (opd T m f) fun f=>ob (fI (fun t=>dst m N (some t)) ps.toList) fun ps=>ob (dI T m N a) fun a=>ob (dI T m N b) fun b=>some (.rangeF f ps a b):=by rw [dI]
theorem BF(call:cB)(rd:Bool)(n:Nat)(ops:List bQ)(f:F)(h:H):exec call rd n (.reg ops) f h=ob (pZ call ops f h) fun r=>some (.norm,clr r.1,r.2):=rfl
theorem zF(call:cB)(rd:Bool)(n:Nat)(ops:List bQ)(f:F)(h:H):exec call rd n (.regD ops) f h=ob (fG call ops ⟨f,h,[],[]⟩) fun s=>oif (Bool.rec (motive:=fun _=>Bool) (js s.cs (i7 s.hs [s.h])) true (iM ops)) (some (.norm,clr s.f,s.h)):=rfl
theorem BE(call:cB)(rd:Bool)(n:Nat)(a b:bZ)(f:F)(h:H):exec call rd n (.seq a b) f h=tX (exec call rd n a f h) (exec call rd n b):=rfl
theorem zH(call:cB)(rd:Bool)(n:Nat)(o:Opd)(a b:bZ)(f:F)(h:H):exec call rd n (.cond o a b) f h=ob (o.ev f) fun v=>match v with
   |.bool c=>Bool.rec (motive:=fun _=>Res) (exec call rd n b f h) (exec call rd n a f h) c
   |_=>none:=rfl
theorem wM(call:cB)(rd:Bool)(n id:Nat)(c:bZ)(f:F)(h:H):exec call rd n (.block id c) f h=xu id (exec call rd n c f h):=rfl
theorem zG(call:cB)(rd:Bool)(n:Nat)(c:bZ)(f:F)(h:H):exec call rd n (.loop c) f h=uL (exec call rd n c) n f h:=rfl
theorem wK(call:cB)(rd:Bool)(n:Nat)(g:Opd)(ps:List Dst)(as bd:bZ)(f:F)(h:H):exec call rd n (.rangeF g ps as bd) f h=(oif (!rd) <|
   ob (g.ev f) fun gv=>oif (wE gv) <| ob (h.new (.loop 0 f ps as bd none)) fun h1=>ob (lN call [gv,.yld h.next] h1) fun r=>
   r.2.loopOf h.next fun st _ _ _ _ j=>oif (!Nat.beq st 1) (some (Option.rec (motive:=fun _=>X) .norm id j,f,r.2.set h.next .dead))):=rfl
theorem wf(body:F→H→Res)(n:Nat)(f:F)(h:H):uL body (n+1) f h=tX (body f h) (uL body n):=rfl
theorem pP{o:Res}{k:F→H→Res}{r:X×F×H}(h:tX o k=some r):(∃f h',o=some (.norm,f,h')∧k f h'=some r)∨(o=some r∧r.1≠.norm):=by
 obtain⟨q,h1,h2⟩:=bC.1 (show ob o _=some r from h)
 obtain⟨x,f,h'⟩:=q
 cases x with
 |norm=>exact .inl ⟨f,h',h1,h2⟩
 |exit id=>have h2:o=some r:=h2;rw [h1]at h2;cases h2;exact .inr ⟨h1,fun e=>by cases e⟩
 |ret=>have h2:o=some r:=h2;rw [h1]at h2;cases h2;exact .inr ⟨h1,fun e=>by cases e⟩
theorem vx{id:Nat}{o:Res}{r:X×F×H}(h:xu id o=some r):∃x f h',o=some (x,f,h')∧r=(match x with | .exit j=>if j=id then .norm else .exit j|x=>x,f,h'):=by
 obtain⟨q,h1,h2⟩:=bC.1 (show ob o _=some r from h)
 obtain⟨x,f,h'⟩:=q
 cases x with
 |norm=>have h2:o=some r:=h2;rw [h1]at h2;cases h2;exact⟨_,_,_,h1,rfl⟩
 |ret=>have h2:o=some r:=h2;rw [h1]at h2;cases h2;exact⟨_,_,_,h1,rfl⟩
 |exit j=>
  have h2:(Bool.rec (motive:=fun _=>Res) o (some (.norm,f,h')) (Nat.beq j id):Res)=some r:=h2
  rw [cq]at h2
  refine⟨_,_,_,h1,?_⟩
  split at h2
  ·rename_i hb
   cases h2
   have:j=id:=by simpa using hb
   simp [this]
  ·rename_i hb
   rw [h1]at h2
   cases h2
   have:¬j=id:=by simpa using hb
   simp [this]
theorem nH{F:Fence}{n:Nat}{c:Code}{Q:Exit→Act→World→Prop}(I:Nat→Act→World→Prop)(round:∀k a w,I k a w→c.wpIn F n P (Exit.then (fun a' w'=>∃k',k'<k∧I k' a' w') Q) a w){k:Nat}{a:Act}{w:World}(h₀:I k a w):(Code.loop c).wpIn F n P Q a w:=by
 intro b kk cs hro hb hr
 have key:∀j a w,I j a w→
   ∃e a' w',Q e a' w'∧ArrivesIn (Machine.fenced P F) P (lone (b.atR a (.code c :: .inLoop c ::kk)) cs w) b kk cs e a' w':=by
  intro j
  induction j using Nat.strongRecOn with
  |_ j ih=>
   intro a w hI
   obtain⟨e,a₁,w₁,hq,harr⟩:=round j a w hI b (.inLoop c ::kk) cs hro hb hr
   cases e with
   |normal=>
    obtain⟨k',hlt,hI₁⟩:=hq
    obtain⟨e₂,a₂,w₂,hq₂,harr₂⟩:=ih k' hlt a₁ w₁ hI₁
    exact⟨e₂,a₂,w₂,hq₂,.of_steps (StepsIn.trans harr (.one (fenced_calm hb hr rfl) stepR_inLoop)) harr₂⟩
   |exit id=>exact⟨_,a₁,w₁,hq,.pass (x:= .inLoop c) rfl (fun _ _=>.inl (by simp)) harr⟩
   |goto l=>exact⟨_,a₁,w₁,hq,.pass (x:= .inLoop c) rfl (fun _ _=>.inl (by simp)) harr⟩
   |ret=>exact⟨_,a₁,w₁,hq,.pass (x:= .inLoop c) rfl (fun _ _=>.inl (by simp)) harr⟩
   |panic ch=>exact⟨_,a₁,w₁,hq,.pass (x:= .inLoop c) rfl (fun _ _=>.inl (by simp)) harr⟩
   |outgrown=>exact⟨_,a₁,w₁,hq,.pass (x:= .inLoop c) rfl (fun _ _=>.inl (by simp)) harr⟩
 obtain⟨e,a',w',hq,harr⟩:=key _ a w h₀
 exact⟨e,a',w',hq,.of_steps (.one (fenced_calm hb hr rfl) stepR_loop) harr⟩
theorem Ext.alloc{g:G}{h:H}{w:World}(r:WR T g h w)(o:Obj):Ext T g h w g h (w.alloc o):=by
 have r':WR T g h (w.alloc o):=by
  refine⟨r.bound,r.top,r.dom,fun id b o' z e=>by rw [World.size_alloc];have:=r.lt _ _ _ _ e;omega,fun id x b e1 e2=>?_,r.mates,r.kids,r.ext⟩
  obtain⟨b',o',z⟩:=x
  exact BR.move e1 (dQ (r.lt _ _ _ _ e1)) (r.blk _ _ _ e1 e2)
 exact⟨g.le_refl,Nat.le_refl _,r',fun _ _ e=>⟨e,rfl⟩,by rw [World.size_alloc];omega,fun b hb _=>dQ hb,(fun id b o z h1 h2=>by rw [h2]at h1;cases h1),fun id b o' z n cs e1 e2=>⟨e2,dQ (r.lt _ _ _ _ e1)⟩,rfl,rfl,rfl⟩
theorem jD{β:Type}{h:H}{id:Nat}{k:Nat→F→List Dst→bZ→bZ→Option X→Option β}{r:β}(e:h.loopOf id k=some r):∃st f ps as bd j,h.blk id=some (.loop st f ps as bd j)∧k st f ps as bd j=some r:=by
 obtain⟨b,h1,h2⟩:=bC.1 (show ob (h.blk id) _=some r from e)
 cases b with
 |loop st f ps as bd j=>exact⟨st,f,ps,as,bd,j,h1,h2⟩
 |_=>cases h2
theorem qK{g:G}{h:H}{w:World}(r:WR T g h w){id b o z:Nat}{st:Nat}{f:F}{ps:List Dst}{as bd:bZ}{j:Option X}{k':Blk}{l l':Loop}(hg:g id=some (b,o,z))(hb:h.blk id=some (.loop st f ps as bd j))(_hw:w.heap[b]? =some (.loop l))(hk':k'.kin=none)
  (hr:BR T g (w.putObj b (.loop l')) id k'):Ext T g h w g (h.set id k') (w.putObj b (.loop l')):=
 Ext.upd r hg hb rfl rfl hk' (fun _ _ h=>by cases h) (fun i hi=>World.putObj_heap_other hi) World.putObj_size rfl rfl rfl hr
end
end
section
variable [Env]
set_option linter.unusedSectionVars false
section
variable {P:Program} {T:Ty} {m N:Nat} {D:List Deferred}
theorem mD.norm_inv{e:Exit}(h:mD .norm e):e= .normal:=by cases e<;>first|rfl|cases h
theorem pH(hT:cM P T){call:cB}(hk:eu P T call)(hm:P.follows .mixedOrders=true)(n:Nat)(rd:Option Nat):∀(c:Code) (cc:bZ),dI T m N c=some cc→∀(f:F) (h:H) (x:X) (f':F) (h':H),exec call rd.isSome n cc f h=some (x,f',h')→
  ∀(g:G) (a:Act) (w:World) (B:Nat),WR T g h w→gX T g h w→FR g m N f a.tmps→(rd=none→dV D g w B a.defers)→B≤w.heap.size→c.wpIn (fen rd) 0 P (Out D T m N rd B g h w x f' h') a w:=by
 intro c
 induction c with
 |skip=>
  intro cc hc f h x f' h' hx g a w B r hG hf hM _
  rw [dI]at hc
  cases hc
  cases hx
  exact wpIn_skip ⟨g,.refl r,hf,hM,trivial⟩
 |label l=>
  intro cc hc f h x f' h' hx g a w B r hG hf hM _
  rw [dI]at hc
  cases hc
  cases hx
  exact wpIn_label ⟨g,.refl r,hf,hM,trivial⟩
 |region id ops d=>
  intro cc hc f h x f' h' hx g a w B r hG hf hM _
  cases d with
  |false=>
   rw [kg]at hc
   rcases d3 hc with hc|rfl
   case inr=>rw [qM]at hx;cases hx
   obtain⟨cl,h1,h2⟩:=bC.1 hc
   cases h2
   rw [BF]at hx
   obtain⟨q,h3,h4⟩:=bC.1 hx
   cases h4
   refine wpIn_region ?_
   rw [List.range_eq_range']
   have hlen:ops.size=ops.toList.length:=by simp
   rw [hlen]
   refine Ez hT hk ops.toList 0 cl f q.1 h q.2 g a w (fun i _=>by rw [Nat.zero_add,Array.getElem?_toList]) h1 h3 r hG hf fun g' a' w' x1 x2 x3=>⟨g',x1,x2.clr,fun e=>?_,trivial⟩
   rw [x3]
   exact(hM e).ext x1
  |true=>
   rw [iV]at hc
   rcases d3 hc with hc|rfl
   case inr=>rw [qM]at hx;cases hx
   obtain⟨cl,h1,h2⟩:=bC.1 hc
   obtain⟨l,h3,h4⟩:=bC.1 h2
   cases h4
   rw [zF]at hx
   obtain⟨s,h5,h6⟩:=bC.1 hx
   obtain⟨h7,h8⟩:=bJ.1 h6
   cases h8
   refine Da hT hk hm h1 h3 h5 h7 r hG hf fun g' a' w' x1 x2 x3=>⟨g',x1,x2.clr,fun e=>?_,trivial⟩
   rw [x3]
   exact(hM e).ext x1
 |seq c1 c2 ih1 ih2=>
  intro cc hc f h x f' h' hx g a w B r hG hf hM hB
  rw [kf]at hc
  obtain⟨cc1,h1,h2⟩:=bC.1 hc
  obtain⟨cc2,h3,h4⟩:=bC.1 h2
  cases h4
  rw [BE]at hx
  refine wpIn_seq ?_
  rcases pP hx with⟨f1,h1',k1,k2⟩ | ⟨k1,k2⟩
  ·refine wpIn_mono (ih1 cc1 h1 f h .norm f1 h1' k1 g a w B r hG hf hM hB) ?_
   rintro e a1 w1 ⟨g1,x1,x2,x3,x4⟩
   rw [x4.norm_inv]
   refine wpIn_mono (ih2 cc2 h3 f1 h1' x f' h' k2 g1 a1 w1 B x1.wr (hG.ext x1) x2 x3 (Nat.le_trans hB x1.size)) ?_
   rintro e2 a2 w2 ⟨g2,y1,y2,y3,y4⟩
   exact⟨g2,x1.trans y1,y2,y3,y4⟩
  ·refine wpIn_mono (ih1 cc1 h1 f h x f' h' k1 g a w B r hG hf hM hB) ?_
   rintro e a1 w1 ⟨g1,x1,x2,x3,x4⟩
   cases e with
   |normal=>cases x<;>first|(cases x4;done)|exact absurd rfl k2
   |_=>exact⟨g1,x1,x2,x3,x4⟩
 |cond o c1 c2 ih1 ih2=>
  intro cc hc f h x f' h' hx g a w B r hG hf hM hB
  rw [iX]at hc
  obtain⟨od,h0,h0'⟩:=bC.1 hc
  obtain⟨cc1,h1,h2⟩:=bC.1 h0'
  obtain⟨cc2,h3,h4⟩:=bC.1 h2
  cases h4
  rw [zH]at hx
  obtain⟨v,h5,h6⟩:=bC.1 hx
  cases v with
  |bool b=>
   have hv:=(qf hG h0 h5 fun t _ v hv=>hf.2 t v hv).bool_inv
   refine wpIn_cond hv ?_
   cases b with
   |true=>exact ih1 cc1 h1 f h x f' h' h6 g a w B r hG hf hM hB
   |false=>exact ih2 cc2 h3 f h x f' h' h6 g a w B r hG hf hM hB
  |_=>cases h6
 |block id c ih=>
  intro cc hc f h x f' h' hx g a w B r hG hf hM hB
  rw [ic]at hc
  obtain⟨cc1,h1,h2⟩:=bC.1 hc
  cases h2
  rw [wM]at hx
  obtain⟨x0,f0,h0,k1,k2⟩:=vx hx
  cases k2
  refine wpIn_block (wpIn_mono (ih cc1 h1 f h x0 f' h' k1 g a w B r hG hf hM hB) ?_)
  rintro e a1 w1 ⟨g1,x1,x2,x3,x4⟩
  cases x0 with
  |norm=>rw [x4.norm_inv];exact⟨g1,x1,x2,x3,trivial⟩
  |ret=>
   cases e<;>first|(cases x4;done)|skip
   exact⟨g1,x1,x2,x3,trivial⟩
  |exit j=>
   cases e<;>first|(cases x4;done)|skip
   have x4:j=_:=x4
   subst x4
   show(if j=id then _ else _)
   by_cases e:j=id
   ·rw [if_pos e]
    simp only [e,if_true]
    exact⟨g1,x1,x2,x3,trivial⟩
   ·rw [if_neg e]
    simp only [if_neg e]
    exact⟨g1,x1,x2,x3,rfl⟩
 |loop c ih=>
  intro cc hc f h x f' h' hx g a w B r hG hf hM hB
  rw [iW]at hc
  obtain⟨cc1,h1,h2⟩:=bC.1 hc
  cases h2
  rw [zG]at hx
  refine nH (fun k a1 w1=>∃f1 h1 g1,uL (exec call rd.isSome n cc1) k f1 h1=some (x,f',h')∧Ext T g h w g1 h1 w1∧FR g1 m N f1 a1.tmps∧(rd=none→dV D g1 w1 B a1.defers)) ?_ (k:=n) ⟨f,h,g,hx,.refl r,hf,hM⟩
  rintro k a1 w1 ⟨f1,h1',g1,k1,x1,x2,x3⟩
  cases k with
  |zero=>cases k1
  |succ k=>
   rw [wf]at k1
   rcases pP k1 with⟨f2,h2',k2,k3⟩ | ⟨k2,k3⟩
   ·refine wpIn_mono (ih cc1 h1 f1 h1' .norm f2 h2' k2 g1 a1 w1 B x1.wr (hG.ext x1) x2 x3 (Nat.le_trans hB x1.size)) ?_
    rintro e a2 w2 ⟨g2,y1,y2,y3,y4⟩
    rw [y4.norm_inv]
    exact⟨k,Nat.lt_succ_self k,f2,h2',g2,k3,x1.trans y1,y2,y3⟩
   ·refine wpIn_mono (ih cc1 h1 f1 h1' x f' h' k2 g1 a1 w1 B x1.wr (hG.ext x1) x2 x3 (Nat.le_trans hB x1.size)) ?_
    rintro e a2 w2 ⟨g2,y1,y2,y3,y4⟩
    cases e with
    |normal=>cases x<;>first|(cases y4;done)|exact absurd rfl k3
    |_=>exact⟨g2,x1.trans y1,y2,y3,y4⟩
 |rangeFunc fo ps as bd ih1 ih2=>
  intro cc hc f h x f' h' hx g a w B r hG hf hM hB
  rw [ib]at hc
  obtain⟨od,h0,h0'⟩:=bC.1 hc
  obtain⟨cps,h0'',h0c⟩:=bC.1 h0'
  obtain⟨cc1,h1,h2⟩:=bC.1 h0c
  obtain⟨cc2,h3,h4⟩:=bC.1 h2
  cases h4
  rw [wK]at hx
  obtain⟨k0,k1⟩:=bJ.1 hx
  have hrd:rd=none:=by cases rd with|none=>rfl|some l=>cases k0
  subst hrd
  obtain⟨gv,k2,k3⟩:=bC.1 k1
  obtain⟨k4,k5⟩:=bJ.1 k3
  obtain⟨hn1,k6,k7⟩:=bC.1 k5
  obtain⟨q,k8,k9⟩:=bC.1 k7
  obtain⟨st,f2,ps2,as2,bd2,j,m1,m2⟩:=jD k9
  obtain⟨m3,m4⟩:=bJ.1 m2
  cases m4
  have hgv:=qf (a:=a) hG h0 k2 fun t _ v hv=>hf.2 t v hv
  have xd:=Ext.alloc r (.deferred (some []))
  have hnone:g h.next=none:=by
   cases e:g h.next with
   |none=>rfl
   |some y=>exact absurd (r.dom _ _ e) (by omega)
  have hle:=eR (g:=g) ((w.alloc (.deferred (some []))).heap.size,0,0) hnone
  refine wpIn_rangeFunc fun fn _=>?_
  have hw1:=da (w.alloc (.deferred (some []))) (.loop {state:= .ready,pending:=none,fn,tmps:=a.tmps,params:=ps,assign:=as,body:=bd,defers:=w.heap.size})
  have xl:=Ext.new (z:=0) xd.wr (o:= .loop {state:= .ready,pending:=none,fn,tmps:=a.tmps,params:=ps,assign:=as,body:=bd,defers:=w.heap.size}) k6 (.inl rfl)
   ⟨_,0,0,_,m,N,cg _ _ _,hw1,rfl,rfl,hf.mono hle,h0'',h1,h3⟩
  have x1:=xd.trans xl
  have hsz:(w.alloc (.deferred (some []))).heap.size=w.heap.size+1:=World.size_alloc _ _
  have hg1:(et g h.next ((w.alloc (.deferred (some []))).heap.size,0,0)) h.next=some (w.heap.size+1,0,0):=by rw [cg,hsz]
  obtain⟨d,c1,fx,us',c3,c4⟩:=xp hk x1.wr (hG.ext x1) k4 (hgv.mono x1.le) (VRs.cons (VR.yld hg1) .nil) k8
  ·refine⟨w.heap.size+1,_,_,d,_,fx,us',_,run_enterLoop_outer fn a.tmps ps as bd,?_,fun _ _=>trivial,c3 _,iU _,iH (c4.mono ?_)⟩
   ·have:=c1 ((w.alloc (.deferred (some []))).alloc (.loop {state:= .ready,pending:=none,fn,tmps:=a.tmps,params:=ps,assign:=as,body:=bd,defers:=w.heap.size}))
    simpa [resolve,Act.eval]using this
   ·rintro e w' ⟨g',u,rfl,hu,y⟩
    obtain⟨b',o',z',lr,m',N',n1,n2,n3,n4,n5,n6,n7,n8⟩:=y.wr.blk h.next _ _ (y.le _ _ hg1) m1
    rw [y.le _ _ hg1]at n1
    cases n1
    have hbusy:lr.state≠.busy:=by
     intro e
     rw [e]at n3
     subst n3
     cases m3
    have xe:=qK (k':= .dead) (l':={lr with state:= .exhausted}) y.wr (y.le _ _ hg1) m1 n2 rfl trivial
    have xt:=(x1.trans y).trans xe
    have hmk:dV D g' w' B (kY w.heap.size ::a.defers):=by
     refine dV.ext y (dV.push x1 (hM rfl) hB (Nat.le_refl _) ?_ (fun id o z e=>?_) ?_)
     ·rw [World.size_alloc,World.size_alloc];omega
     ·by_cases hi:id=h.next
      ·subst hi
       rw [hg1]at e
       have:=(Prod.mk.inj (Option.some.inj e)).1
       omega
      ·rw [dk _ hi]at e
       have:=r.lt _ _ _ _ e
       omega
     ·rw [dQ (by rw [hsz];omega)]
      exact da w _
    refine⟨lr.pending,_,run_endLoop n2 hbusy,?_⟩
    have fin:∀{e:Exit},mD (Option.rec (motive:=fun _=>X) .norm id j) e→Out D T m N none B g h w (Option.rec (motive:=fun _=>X) .norm id j) f (q.2.set h.next .dead) e {a with defers:=kY w.heap.size ::a.defers} (w'.putObj (w.heap.size+1) (.loop {lr with state:= .exhausted})):=fun hs=>
     ⟨g',xt,hf.mono xt.le,fun _=>hmk.ext xe,hs⟩
    split
    ·rename_i hp
     cases j with
     |none=>exact fin (e:= .normal) trivial
     |some jx=>
      cases jx with
      |norm=>cases n4
      |exit k=>rw [hp]at n4;cases n4
      |ret=>rw [hp]at n4;cases n4
    ·rename_i c hp
     cases j with
     |none=>rw [hp]at n4;cases n4
     |some jx=>
      cases jx with
      |norm=>cases n4
      |exit k=>
       rw [hp]at n4
       cases n4
       exact wpIn_exit (fin (e:= .exit k) rfl)
      |ret=>
       rw [hp]at n4
       cases n4
       exact wpIn_ret (fin (e:= .ret) trivial)
 |exit id=>
  intro cc hc f h x f' h' hx g a w B r hG hf hM _
  rw [dI]at hc
  cases hc
  cases hx
  exact wpIn_exit ⟨g,.refl r,hf,hM,rfl⟩
 |ret=>
  intro cc hc f h x f' h' hx g a w B r hG hf hM _
  rw [dI]at hc
  cases hc
  cases hx
  exact wpIn_ret ⟨g,.refl r,hf,hM,trivial⟩
 |_=>
  intro cc hc f h x f' h' hx
  rw [dI]at hc<;>first|(cases hc;rw [qM]at hx;cases hx;done)|(intros;intro hh;cases hh)
end
end
section
variable [Env]
set_option linter.unusedSectionVars false
section
variable {P:Program} {T:Ty} {m N:Nat}
theorem vz{g:G}:∀{ts:List Tmp} {ps:List Dst} {vs:List V} {us:List Value} {f f1:F} {tmps:Array Value},fI (fun t=>dst m N (some t)) ts=some ps→VRs g vs us→binds ps vs f=some f1→FR g m N f tmps→
  us.length=ts.length∧FR g m N f1 ((ts.zip us).foldl (fun tmps p=>tmps.setIfInBounds p.1 p.2) tmps)
 |[],ps,vs,us,f,f1,tmps,h,hv,hb,hf=>by
  cases h
  cases hv with
  |nil=>cases hb;exact⟨rfl,hf⟩
  |cons=>cases hb
 |t ::ts,ps,vs,us,f,f1,tmps,h,hv,hb,hf=>by
  rw [dY]at h
  obtain⟨d,h1,h2⟩:=bC.1 h
  obtain⟨r,h3,h4⟩:=bC.1 h2
  cases h4
  cases hv with
  |nil=>cases hb
  |cons hx hxs=>
   rename_i v u vs us
   have hput:=FR.put (a:=⟨tmps,[]⟩) (o:=some t) hf h1 hx
   obtain⟨k1,k2⟩:=vz h3 hxs (show binds r vs (d.put f v)=some f1 from hb) hput
   exact⟨by simp [k1],k2⟩
theorem vK(b:Nat):Fence.wide.inRound b=fen (some b):=rfl
theorem AI(hT:cM P T){call:cB}(hk:eu P T call)(hm:P.follows .mixedOrders=true)(n:Nat){id:Nat}{vs:List V}{h h':H}{v:V}(hr:round call n id vs h=some (v,h')){g:G}{w:World}{us:List Value}(r:WR T g h w)(hG:gX T g h w)(hv:VRs g vs us):yO P T id us g h w v h':=by
 intro b o z hg
 obtain⟨st,f,ps,as,bd,j,e1,e2⟩:=jD hr
 obtain⟨e3,e4⟩:=bJ.1 e2
 obtain⟨f1,e5,e6⟩:=bC.1 e4
 obtain⟨p,e7,e8⟩:=bC.1 e6
 obtain⟨x1,f2,h1⟩:=p
 cases x1 with
 |exit k=>cases e8
 |ret=>cases e8
 |norm=>
  obtain⟨st1,f3,ps3,as3,bd3,j3,e9,e10⟩:=jD (show h1.loopOf id _=some (v,h')from e8)
  obtain⟨e11,e12⟩:=bJ.1 e10
  obtain⟨q,e13,e14⟩:=bC.1 e12
  obtain⟨x2,f4,h2⟩:=q
  obtain⟨st2,f5,ps5,as5,bd5,j5,e15,e16⟩:=jD (show h2.loopOf id _=some (v,h')from e14)
  obtain⟨e17,e18⟩:=bJ.1 e16
  obtain⟨b',o',z',l,m,N,n1,n2,n3,n4,n5,n6,n7,n8⟩:=r.blk id _ _ hg e1
  rw [hg]at n1
  cases n1
  obtain⟨k1,k2⟩:=vz n6 hv e5 n5
  have hsz:us.toArray.size=l.params.size:=by simpa using k1
  refine⟨l,_,run_yield n2 hsz,roundIn_of_wpIn trivial ?_⟩
  rw [vK]
  have htm:(l.params.zip us.toArray).foldl (fun tmps x=>tmps.setIfInBounds x.1 x.2) l.tmps=(l.params.toList.zip us).foldl (fun tmps p=>tmps.setIfInBounds p.1 p.2) l.tmps:=by
   rw [←Array.foldl_toList,Array.toList_zip]
  have hf1:FR g m N f1 ((l.params.zip us.toArray).foldl (fun tmps x=>tmps.setIfInBounds x.1 x.2) l.tmps):=by rw [htm];exact k2
  refine wpIn_mono (pH (D:=[]) hT hk hm n (some b) l.assign as n7 f1 h .norm f2 h1 e7 g ⟨_,[]⟩ w 0 r hG hf1 (fun e=>by cases e) (Nat.zero_le _)) ?_
  rintro e a1 w1 ⟨g1,y1,y2,_,y4⟩
  rw [y4.norm_inv]
  obtain⟨b1,o1,z1,l1,m1,N1,p1,p2,p3,p4,p5,p6,p7,p8⟩:=y1.wr.blk id _ _ (y1.le _ _ hg) e9
  rw [y1.le _ _ hg]at p1
  cases p1
  have hready:l1.state= .ready:=by
   have:Ed l1.state=0:=by rw [p3];simpa using e11
   cases hs:l1.state<;>rw [hs]at this<;>first|rfl|cases this
  have xb:=qK (k':= .loop 1 f3 ps3 as3 bd3 j3) (l':={l1 with state:= .busy}) y1.wr (y1.le _ _ hg) e9 p2 rfl
   ⟨b,o,z,_,m1,N1,y1.le _ _ hg,World.putObj_heap_same (y1.wr.lt _ _ _ _ (y1.le _ _ hg)),rfl,p4,p5,p6,p7,p8⟩
  refine⟨_,run_beginRound p2 hready,?_⟩
  refine wpIn_mono (pH (D:=[]) hT hk hm n (some b) l.body bd n8 f2 _ x2 f4 h2 e13 g1 a1 _ 0 xb.wr ((hG.ext y1).ext xb) (y2.mono xb.le) (fun e=>by cases e) (Nat.zero_le _)) ?_
  rintro e2 a2 w2 ⟨g2,q1,q2,_,q4⟩
  have hg2:=q1.le _ _ (xb.le _ _ (y1.le _ _ hg))
  obtain⟨b2,o2,z2,l2,m2,N2,s1,s2,s3,s4,s5,s6,s7,s8⟩:=q1.wr.blk id _ _ hg2 e15
  rw [hg2]at s1
  cases s1
  have hall:=(y1.trans xb).trans q1
  have hlt:=q1.wr.lt _ _ _ _ hg2
  have fin:∀(jump:Option Code) (st':Nat) (jx:Option X),st'=Ed (if jump.isNone then .ready else .done)→Bf jx=some jump→v= .bool jump.isNone→h'=h2.set id (.loop st' f5 ps5 as5 bd5 jx)→
    ∃u w3,(Instr.endRound b jump).run P w2= .ok u w3∧rB T g h w v h' (.returned u) w3:=by
   intro jump st' jx hst hjx hvv hhh
   have xe:=qK (k':= .loop st' f5 ps5 as5 bd5 jx) (l':={l2 with state:=if jump.isNone then .ready else .done,pending:=jump}) q1.wr hg2 e15 s2 rfl
    ⟨b,o,z,_,m2,N2,hg2,World.putObj_heap_same hlt,hst.symm,hjx,s5,s6,s7,s8⟩
   refine⟨_,_,run_endRound jump s2,g2,_,rfl,?_,?_⟩
   ·rw [hvv];exact .bool _
   ·rw [hhh];exact hall.trans xe
  cases x2 with
  |norm=>
   rw [q4.norm_inv]
   cases e18
   exact fin none 0 none rfl rfl rfl rfl
  |exit k=>
   cases e2<;>first|(cases q4;done)|skip
   have q4:k=_:=q4
   subst q4
   cases e18
   exact fin (some (.exit k)) 2 (some (.exit k)) rfl rfl rfl rfl
  |ret=>
   cases e2<;>first|(cases q4;done)|skip
   cases e18
   exact fin (some .ret) 2 (some .ret) rfl rfl rfl rfl
theorem C7{g g':G}{h h':H}{w0 w:World}(x:Ext T g h w0 g' h' w){r:Nat}(o:Obj)(h1:w0.heap.size≤r)(h2:∀id o z,g' id≠some (r,o,z)):Ext T g h w0 g' h' (w.putObj r o):=by
 have hne:∀{id b o z},g' id=some (b,o,z)→b≠r:=fun hg e=>h2 _ _ _ (e▸hg)
 have r':WR T g' h' (w.putObj r o):=by
  refine⟨x.wr.bound,x.wr.top,x.wr.dom,fun id b o' z e=>by rw [World.putObj_size];exact x.wr.lt _ _ _ _ e,fun id y b e1 e2=>?_,x.wr.mates,x.wr.kids,x.wr.ext⟩
  obtain⟨b',o',z⟩:=y
  exact BR.move e1 (World.putObj_heap_other (hne e1)) (x.wr.blk _ _ _ e1 e2)
 refine⟨x.le,x.next,r',x.un,by rw [World.putObj_size];exact x.size,fun b hb hn=>?_,x.fresh,fun id b o' z n cs e1 e2=>?_,x.os,x.tape,x.output⟩
 ·rw [World.putObj_heap_other (by omega)]
  exact x.keep b hb hn
 ·obtain⟨k1,k2⟩:=x.ro id b o' z n cs e1 e2
  exact⟨k1,by rw [World.putObj_heap_other (hne (x.le _ _ e1))];exact k2⟩
theorem rZ{fn:Func}{tmps:Array Value}{g g':G}{h h':H}{w0:World}{v:V}:∀{rs:List Nat} {w:World},rs.Nodup→(∀r∈rs,w0.heap.size≤r∧r<w.heap.size∧(∀id o z,g' id≠some (r,o,z))∧w.heap[r]? =some (.deferred (some [])))→
  Ext T g h w0 g' h' w→(∀w,Ext T g h w0 g' h' w→∃u,VR g' v u∧(results fn tmps).run P w= .ok u w)→LeavesInM Fence.wide 0 P fn tmps (rB T g h w0 v h') (rs.map kY) .returning w
 |[],w,_,_,x,hres=>by
  obtain⟨u,h1,h2⟩:=hres w x
  exact⟨u,h2,g',u,rfl,h1,x⟩
 |r ::rs,w,hn,hm,x,hres=>by
  rw [List.nodup_cons]at hn
  obtain⟨k1,k2,k3,k4⟩:=hm r List.mem_cons_self
  refine⟨(fun e=>by cases e),.inl ⟨r,_,rfl,run_takeDeferred k4,rZ hn.2 (fun s hs=>?_) (C7 x _ k1 k3) hres⟩⟩
  obtain⟨q1,q2,q3,q4⟩:=hm s (List.mem_cons_of_mem _ hs)
  have hne:s≠r:=fun e=>hn.1 (e▸hs)
  exact⟨q1,by rw [World.putObj_size];exact q2,q3,by rw [World.putObj_heap_other hne];exact q4⟩
noncomputable def AK(T:Ty)(m:Nat)(r:ResultVar):Option lT:=match r with
 |.tmp t=>ob (opd T m (.tmp t)) fun o=>some (lT.tmp o)
 |.cell t ty=>ob (opd T m (.tmp t)) fun o=>ob (oq T ty) fun a=>ob (fW T ty) fun n=>some (lT.cell o a n)
noncomputable def Fv(f:F)(h:H)(c:lT):Option V:=match c with
 |.tmp o=>o.ev f
 |.cell o a n=>ob (o.ev f) fun v=>(ROp.load a n).run [v] h
def qa(tmps:Array Value)(r:ResultVar):Sem Value:=match r with
 |.tmp t=>pure (tmps.getD t undef)
 |.cell a t=>do loadVar t (←asAddr (tmps.getD a undef))
theorem CC(hT:cM P T){g:G}{f:F}{h:H}{w:World}{tmps:Array Value}{r:ResultVar}{c:lT}{v:V}(hc:AK T m r=some c)(hf:FR g m N f tmps)(he:Fv f h c=some v)(hw:WR T g h w)(hE:jJ g w):
  ∃u,VR g v u∧(qa tmps r).run P w= .ok u w:=by
 cases r with
 |tmp t=>
  obtain⟨o,h1,h2⟩:=bC.1 (show ob (opd T m (.tmp t)) (fun o=>some (lT.tmp o))=some c from hc)
  cases h2
  have he:o.ev f=some v:=he
  rw [sS h1]at he
  obtain⟨u,k1,k2⟩:=hf.2 t v he
  exact⟨u,k2,by simp [qa,Array.getD_eq_getD_getElem?,k1]⟩
 |cell t ty=>
  obtain⟨o,h1,h2⟩:=bC.1 (show ob (opd T m (.tmp t)) (fun o=>ob (oq T ty) fun a=>ob (fW T ty) fun n=>some (lT.cell o a n))=some c from hc)
  obtain⟨a,h3,h4⟩:=bC.1 h2
  obtain⟨n,h5,h6⟩:=bC.1 h4
  cases h6
  obtain⟨p,k1,k2⟩:=bC.1 (show ob (o.ev f) (fun v=>(ROp.load a n).run [v] h)=some v from he)
  rw [sS h1]at k1
  obtain⟨pu,k3,k4⟩:=hf.2 t p k1
  obtain⟨u,m1,m2,m3⟩:=qE (ρ:=fun _=>pu) (x:= .tmp t) hT hw hE h3 h5 (VRs.cons k4 .nil) k2
  have hp:∃ad,pu= .pointer (some ad):=by
   cases p with
   |ptr i j=>cases k4;exact⟨_,rfl⟩
   |eptr cs i=>cases k4;exact⟨_,rfl⟩
   |_=>cases a<;>cases k2
  obtain⟨ad,rfl⟩:=hp
  refine⟨u,m1,?_⟩
  simp [qa,Array.getD_eq_getD_getElem?,k3,asAddr]
  exact m2
theorem vT(f:F)(h:H)(c:lT)(l:List lT):gj f h (c ::l)=ob (Fv f h c) fun v=>ob (gj f h l) fun vs=>some (v ::vs):=by
 cases c<;>rfl
theorem uu(hT:cM P T){g:G}{f:F}{h:H}{w:World}{tmps:Array Value}(hf:FR g m N f tmps)(hw:WR T g h w)(hE:jJ g w):∀{rs:List ResultVar} {cs:List lT} {vs:List V},fI (AK T m) rs=some cs→gj f h cs=some vs→
  ∃us,VRs g vs us∧(rs.mapM (qa tmps)).run P w= .ok us w
 |[],cs,vs,hc,he=>by
  cases hc
  cases he
  exact⟨[],.nil,by simp⟩
 |r ::rs,cs,vs,hc,he=>by
  rw [dY]at hc
  obtain⟨c,h1,h2⟩:=bC.1 hc
  obtain⟨cs',h3,h4⟩:=bC.1 h2
  cases h4
  rw [vT]at he
  obtain⟨v,h5,h6⟩:=bC.1 he
  obtain⟨vs',h7,h8⟩:=bC.1 h6
  cases h8
  obtain⟨u,k1,k2⟩:=CC hT h1 hf h5 hw hE
  obtain⟨us,k3,k4⟩:=uu hT hf hw hE h3 h7
  exact⟨u ::us,.cons k1 k3,by simp [k2,k4]⟩
theorem uD{g:G}{vs:List V}{us:List Value}(h:VRs g vs us):VR g (cX vs) (if h:us.toArray.size=1 then us.toArray[0]else .tuple us.toArray):=by
 cases h with
 |nil=>exact .tup .nil
 |cons hv ht=>
  cases ht with
  |nil=>exact hv
  |cons hv2 ht2=>
   rw [dif_neg (by simp)]
   exact .tup (.cons hv (.cons hv2 ht2))
theorem p9(hT:cM P T){g:G}{f:F}{h:H}{w:World}{tmps:Array Value}{fn:Func}(hf:FR g m N f tmps)(hw:WR T g h w)(hE:jJ g w){cs:List lT}{vs:List V}(hc:fI (AK T m) fn.results.toList=some cs)(he:gj f h cs=some vs):
  ∃u,VR g (cX vs) u∧(results fn tmps).run P w= .ok u w:=by
 obtain⟨us,k1,k2⟩:=uu hT hf hw hE hc he
 refine⟨_,uD k1,?_⟩
 have hfn:results fn tmps=(do let vs ←fn.results.mapM (qa tmps);pure (if h:vs.size=1 then vs[0]else .tuple vs)):=rfl
 rw [hfn,Array.mapM_eq_mapM_toList]
 simp [k2]
theorem ru(v:V)(l:List V)(i:Nat):dE (v ::l) i=(i,v) ::dE l (i+1):=rfl
theorem la:∀(l:List V) (i t:Nat),lk (dE l i) t=if i≤t then l[t-i]? else none
 |[],i,t=>by
  show none=_
  simp
 |v ::l,i,t=>by
  rw [ru,dh,la l (i+1) t]
  by_cases h:i=t
  ·subst h
   simp
  ·by_cases h2:i+1≤t
   ·rw [if_neg h,if_pos h2,if_pos (by omega),show t-i=(t-(i+1))+1 by omega,List.getElem?_cons_succ]
   ·rw [if_neg h,if_neg h2,if_neg (by omega)]
theorem BJ(hT:cM P T){call:cB}(hk:eu P T call)(hm:P.follows .mixedOrders=true)(n:Nat){f:FuncId}{fn:Func}{cf:CF}{vs:List V}{h h':H}{v:V}(hfn:P.funcs[f]? =some fn)(hcf:bG T fn=some cf)(hr:enter call n cf vs h=some (v,h')){g:G}{w:World}{us:List Value}(r:WR T g h w)(hG:gX T g h w)(hv:VRs g vs us):
  CallsIn Fence.wide 0 P f us.toArray w (rB T g h w v h'):=by
 obtain⟨c,e1,e2⟩:=bC.1 (show ob fn.body _=some cf from hcf)
 obtain⟨e3,e4⟩:=bJ.1 e2
 obtain⟨cc,e5,e6⟩:=bC.1 e4
 obtain⟨rs,e7,e8⟩:=bC.1 e6
 cases e8
 generalize hmm:iJ c (fn.results.toList.foldl (fun m r=>match r with | .tmp t=>ef m t | .cell t _=>ef m t) ((List.range (fn.params.size+fn.nfree)).foldl ef 0))=m at e5 e7
 have e7':fI (AK T m) fn.results.toList=some rs:=e7
 obtain⟨k1,k2⟩:=bJ.1 (show oif (Nat.beq (bU vs) (fn.params.size+fn.nfree)) _=some (v,h')from hr)
 obtain⟨q,k3,k4⟩:=bC.1 k2
 obtain⟨x,f1,h1⟩:=q
 rw [bS]at k1
 have hlen:=hv.length
 have k1':vs.length=fn.params.size+fn.nfree:=by simpa using k1
 have e3':fn.params.size+fn.nfree≤fn.ntmps:=by simpa using e3
 have hus:us.length≤fn.ntmps:=by omega
 have htoo:∀(f1:F) (h1:H),(∃l,gj f1 h1 rs=some l∧v=cX l∧h'=h1)→True:=fun _ _ _=>trivial
 clear htoo
 have hF:FR g m fn.ntmps ⟨dE vs 0,[]⟩ (us.toArray++Array.replicate (fn.ntmps-us.toArray.size) undef):=by
  refine⟨by simp;omega,fun t x e=>?_⟩
  unfold rdn at e
  split at e
  ·have e:lk (dE vs 0) t=some x:=e
   rw [la,if_pos (Nat.zero_le _)]at e
   obtain⟨u,m1,m2⟩:=hv.get e
   refine⟨u,?_,m2⟩
   have ht:t<us.length:=by
    rcases Nat.lt_or_ge t us.length with k|k
    ·exact k
    ·rw [List.getElem?_eq_none (by omega)]at m1;cases m1
   rw [Array.getElem?_append_left (by simpa using ht)]
   simpa using m1
  ·cases e
 refine callsIn_of_wp_marks hfn e1 trivial ?_
 have hex:=pH (D:=[]) hT hk hm n none c cc e5 _ h x f1 h1 k3 g ⟨us.toArray++Array.replicate (fn.ntmps-us.toArray.size) undef,[]⟩ w w.heap.size r hG hF (fun _=>.nil) (Nat.le_refl _)
 refine wpIn_mono hex ?_
 rintro e a' w' ⟨g',y1,y2,y3,y4⟩
 have leave:∀{l:List V},gj f1 h1 rs=some l→v=cX l→h'=h1→LeavesInM Fence.wide 0 P fn a'.tmps (rB T g h w v h') a'.defers .returning w':=by
  intro l hl hvv hhh
  subst hvv hhh
  obtain⟨ms,p1,p2,p3⟩:=y3 rfl
  rw [p1,List.append_nil]
  exact rZ p2 p3 y1 fun w2 hw2=>p9 hT y2 hw2.wr (hG.ext hw2).env e7' hl
 cases x with
 |exit j=>cases k4
 |norm=>
  obtain⟨l,m1,m2⟩:=bC.1 (show ob (gj f1 h1 rs) (fun l=>some (cX l,h1))=some (v,h')from k4)
  cases m2
  rw [y4.norm_inv]
  exact leave m1 rfl rfl
 |ret=>
  obtain⟨l,m1,m2⟩:=bC.1 (show ob (gj f1 h1 rs) (fun l=>some (cX l,h1))=some (v,h')from k4)
  cases m2
  cases e<;>first|(cases y4;done)|skip
  exact leave m1 rfl rfl
def tM(P:Program)(T:Ty)(prim:FuncId→Option (List V→H→Option (V×H))):Prop:=
 ∀f p,prim f=some p→∀vs h v h',p vs h=some (v,h')→∀g w us,WR T g h w→gX T g h w→VRs g vs us→lB P T f us g h w v h'
def vF(P:Program)(T:Ty)(tab:FuncId→Option CF):Prop:=
 ∀f cf,tab f=some cf→∃fn,P.funcs[f]? =some fn∧fn.name≠ "runtime.NumGoroutine"∧bG T fn=some cf
theorem rR{α β:Type}{o:Option α}{n:Option β}{s:α→Option β}{r:β}(h:(Option.rec (motive:=fun _=>Option β) n s o:Option β)=some r):(o=none∧n=some r)∨∃a,o=some a∧s a=some r:=by
 cases o with
 |none=>exact .inl ⟨rfl,h⟩
 |some a=>exact .inr ⟨a,rfl,h⟩
theorem qX(hT:cM P T)(hm:P.follows .mixedOrders=true){prim:FuncId→Option (List V→H→Option (V×H))}{tab:FuncId→Option CF}(hp:tM P T prim)(ht:vF P T tab):∀n,eu P T (kj prim tab n)
 |0=>⟨(fun f vs h v h' e=>by cases e),(fun id vs h v h' e=>by cases e)⟩
 |n+1=>by
  have ih:=qX hT hm hp ht n
  have go:∀{f vs h v h'},(ob (tab f) fun cf=>enter (kj prim tab n) 1000000 cf vs h)=some (v,h')→∀g w us,WR T g h w→gX T g h w→VRs g vs us→lB P T f us g h w v h':=by
   intro f vs h v h' e g w us r hG hv
   obtain⟨cf,e1,e2⟩:=bC.1 e
   obtain⟨fn,k1,k2,k3⟩:=ht f cf e1
   refine⟨fn,k1,k2,?_,BJ hT ih hm 1000000 k1 k3 e2 r hG hv⟩
   obtain⟨c,m1,_⟩:=bC.1 (show ob fn.body _=some cf from k3)
   rw [m1]
   rfl
  refine⟨fun f vs h v h' e g w us r hG hv=>?_,fun id vs h v h' e g w us r hG hv=>?_⟩
  ·have e:(Option.rec (motive:=fun _=>Option (V×H)) (ob (tab f) fun cf=>enter (kj prim tab n) 1000000 cf vs h)
    (fun g=>Option.rec (motive:=fun _=>Option (V×H)) (ob (tab f) fun cf=>enter (kj prim tab n) 1000000 cf vs h) some (g vs h)) (prim f):Option (V×H))=some (v,h'):=e
   rcases rR e with⟨_,e1⟩ | ⟨p,e1,e2⟩
   ·exact go e1 g w us r hG hv
   ·rcases rR e2 with⟨_,e3⟩ | ⟨q,e3,e4⟩
    ·exact go e3 g w us r hG hv
    ·cases e4
     exact hp f p e1 vs h v h' e3 g w us r hG hv
  ·have e:round (kj prim tab n) 1000000 id vs h=some (v,h'):=e
   exact AI hT ih hm 1000000 e r hG hv
end
end
end Ev
end Go.Proofs.YtdfphfdnoobikaaGreatDoor
