/-
  Code,as the compiled code has it:the law.
-/
import Derived.Test.YtdfphfdnoobikaaGreatDoorEvDraw3
namespace Go.Proofs.YtdfphfdnoobikaaGreatDoor
namespace Ev
section
variable [Env]
set_option linter.unusedSectionVars false
section
variable {P:Program} {T:Ty} {m N:Nat} {D:List Deferred}
theorem mF.norm_inv{e:Exit}(h:mF .norm e):e= .normal:=by cases e<;>first|rfl|cases h
theorem pR(hT:cN P T){call:cB}(hk:dX P T call)(hm:P.follows .mixedOrders=true)(n:Nat)(rd:Option Nat):∀(c:Code) (cc:ci),comp T m N c=some cc->∀(f:F) (h:H) (x:X) (f':F) (h':H),exec call rd.isSome n cc f h=some (x,f',h')->
  ∀(g:G) (a:Act) (w:World) (B:Nat),WR T g h w->gY T g h w->FR g m N f a.tmps->(rd=none->dZ D g w B a.defers)->B<=w.heap.size->c.wpIn (fen rd) 0 P (Out D T m N rd B g h w x f' h') a w:=by
 intro c
 induction c with
 |skip=>
  intro cc hc f h x f' h' hx g a w B r hG hf hM _;rw [comp]at hc;cases hc;cases hx;exact wpIn_skip ⟨g,.refl r,hf,hM,trivial⟩
 |label l=>
  intro cc hc f h x f' h' hx g a w B r hG hf hM _;rw [comp]at hc;cases hc;cases hx;exact wpIn_label ⟨g,.refl r,hf,hM,trivial⟩
 |region id ops d=>
  intro cc hc f h x f' h' hx g a w B r hG hf hM _;cases d with
  |false=>
   rw [ka]at hc;rcases d9 hc with hc|rfl
   case inr=>rw [ra]at hx;cases hx
   obtain⟨cl,h1,h2⟩:=bE.1 hc;cases h2;rw [Cv]at hx;obtain⟨q,h3,h4⟩:=bE.1 hx;cases h4;refine wpIn_region ?_;rw [List.range_eq_range'];have hlen:ops.size=ops.toList.length:=by simp
   rw [hlen];refine FD hT hk ops.toList 0 cl f q.1 h q.2 g a w (λi _=>by rw [Nat.zero_add,Array.getElem?_toList]) h1 h3 r hG hf λg' a' w' x1 x2 x3=>⟨g',x1,x2.clr,λe=>?_,trivial⟩
   rw [x3];exact(hM e).ext x1
  |true=>
   rw [iW]at hc;rcases d9 hc with hc|rfl
   case inr=>rw [ra]at hx;cases hx
   obtain⟨cl,h1,h2⟩:=bE.1 hc;obtain⟨l,h3,h4⟩:=bE.1 h2;cases h4;rw [Ao]at hx;obtain⟨s,h5,h6⟩:=bE.1 hx;obtain⟨h7,h8⟩:=bK.1 h6;cases h8;refine Ed hT hk hm h1 h3 h5 h7 r hG hf λg' a' w' x1 x2 x3=>⟨g',x1,x2.clr,λe=>?_,trivial⟩
   rw [x3];exact(hM e).ext x1
 |seq c1 c2 ih1 ih2=>
  intro cc hc f h x f' h' hx g a w B r hG hf hM hB;rw [j9]at hc;obtain⟨cc1,h1,h2⟩:=bE.1 hc;obtain⟨cc2,h3,h4⟩:=bE.1 h2;cases h4;rw [Cu]at hx;refine wpIn_seq ?_;rcases qd hx with⟨f1,h1',k1,k2⟩ | ⟨k1,k2⟩
  ·refine wpIn_mono (ih1 cc1 h1 f h .norm f1 h1' k1 g a w B r hG hf hM hB) ?_
   rintro e a1 w1 ⟨g1,x1,x2,x3,x4⟩;rw [x4.norm_inv];refine wpIn_mono (ih2 cc2 h3 f1 h1' x f' h' k2 g1 a1 w1 B x1.wr (hG.ext x1) x2 x3 (Nat.le_trans hB x1.size)) ?_;rintro e2 a2 w2 ⟨g2,y1,y2,y3,y4⟩;exact⟨g2,x1.trans y1,y2,y3,y4⟩
  ·refine wpIn_mono (ih1 cc1 h1 f h x f' h' k1 g a w B r hG hf hM hB) ?_
   rintro e a1 w1 ⟨g1,x1,x2,x3,x4⟩;cases e with
   |normal=>cases x<;>first|(cases x4;done)|exact absurd rfl k2
   |_=>exact⟨g1,x1,x2,x3,x4⟩
 |cond o c1 c2 ih1 ih2=>
  intro cc hc f h x f' h' hx g a w B r hG hf hM hB;rw [iY]at hc;obtain⟨od,h0,h0'⟩:=bE.1 hc;obtain⟨cc1,h1,h2⟩:=bE.1 h0';obtain⟨cc2,h3,h4⟩:=bE.1 h2;cases h4;rw [Aq]at hx;obtain⟨v,h5,h6⟩:=bE.1 hx;cases v with
  |bool b=>
   have hv:=(qA hG h0 h5 λt _ v hv=>hf.2 t v hv).bool_inv;refine wpIn_cond hv ?_;cases b with
   |true=>exact ih1 cc1 h1 f h x f' h' h6 g a w B r hG hf hM hB
   |false=>exact ih2 cc2 h3 f h x f' h' h6 g a w B r hG hf hM hB
  |_=>cases h6
 |block id c ih=>
  intro cc hc f h x f' h' hx g a w B r hG hf hM hB;rw [ie]at hc;obtain⟨cc1,h1,h2⟩:=bE.1 hc;cases h2;rw [xH]at hx;obtain⟨x0,f0,h0,k1,k2⟩:=wd hx;cases k2;refine wpIn_block (wpIn_mono (ih cc1 h1 f h x0 f' h' k1 g a w B r hG hf hM hB) ?_);rintro e a1 w1 ⟨g1,x1,x2,x3,x4⟩;cases x0 with
  |norm=>rw [x4.norm_inv];exact⟨g1,x1,x2,x3,trivial⟩
  |ret=>
   cases e<;>first|(cases x4;done)|skip
   exact⟨g1,x1,x2,x3,trivial⟩
  |exit j=>
   cases e<;>first|(cases x4;done)|skip
   have x4:j=_:=x4;subst x4;show(if j=id then _ else _)
   by_cases e:j=id
   ·rw [if_pos e]
    simp only [e,if_true];exact⟨g1,x1,x2,x3,trivial⟩
   ·rw [if_neg e]
    simp only [if_neg e];exact⟨g1,x1,x2,x3,rfl⟩
 |loop c ih=>
  intro cc hc f h x f' h' hx g a w B r hG hf hM hB;rw [iX]at hc;obtain⟨cc1,h1,h2⟩:=bE.1 hc;cases h2;rw [Ap]at hx;refine nS (λk a1 w1=>∃f1 h1 g1,vp (exec call rd.isSome n cc1) k f1 h1=some (x,f',h')/\Ext T g h w g1 h1 w1/\FR g1 m N f1 a1.tmps/\(rd=none->dZ D g1 w1 B a1.defers)) ?_ (k:=n) ⟨f,h,g,hx,.refl r,hf,hM⟩;rintro k a1 w1 ⟨f1,h1',g1,k1,x1,x2,x3⟩;cases k with
  |zero=>cases k1
  |succ k=>
   rw [xg]at k1;rcases qd k1 with⟨f2,h2',k2,k3⟩ | ⟨k2,k3⟩
   ·refine wpIn_mono (ih cc1 h1 f1 h1' .norm f2 h2' k2 g1 a1 w1 B x1.wr (hG.ext x1) x2 x3 (Nat.le_trans hB x1.size)) ?_
    rintro e a2 w2 ⟨g2,y1,y2,y3,y4⟩;rw [y4.norm_inv];exact⟨k,Nat.lt_succ_self k,f2,h2',g2,k3,x1.trans y1,y2,y3⟩
   ·refine wpIn_mono (ih cc1 h1 f1 h1' x f' h' k2 g1 a1 w1 B x1.wr (hG.ext x1) x2 x3 (Nat.le_trans hB x1.size)) ?_
    rintro e a2 w2 ⟨g2,y1,y2,y3,y4⟩;cases e with
    |normal=>cases x<;>first|(cases y4;done)|exact absurd rfl k3
    |_=>exact⟨g2,x1.trans y1,y2,y3,y4⟩
 |rangeFunc fo ps as bd ih1 ih2=>
  intro cc hc f h x f' h' hx g a w B r hG hf hM hB;rw [ic]at hc;obtain⟨od,h0,h0'⟩:=bE.1 hc;obtain⟨cps,h0'',h0c⟩:=bE.1 h0';obtain⟨cc1,h1,h2⟩:=bE.1 h0c;obtain⟨cc2,h3,h4⟩:=bE.1 h2;cases h4;rw [xG]at hx;obtain⟨k0,k1⟩:=bK.1 hx;have hrd:rd=none:=by cases rd with|none=>rfl|some l=>cases k0
  subst hrd;obtain⟨gv,k2,k3⟩:=bE.1 k1;obtain⟨k4,k5⟩:=bK.1 k3;obtain⟨hn1,k6,k7⟩:=bE.1 k5;obtain⟨q,k8,k9⟩:=bE.1 k7;obtain⟨st,f2,ps2,as2,bd2,j,m1,m2⟩:=jE k9;obtain⟨m3,m4⟩:=bK.1 m2;cases m4;have hgv:=qA (a:=a) hG h0 k2 λt _ v hv=>hf.2 t v hv;have xd:=Ext.alloc r (.deferred (some []));have hnone:g h.next=none:=by
   cases e:g h.next with
   |none=>rfl
   |some y=>exact absurd (r.dom _ _ e) (by omega)
  have hle:=eS (g:=g) ((w.alloc (.deferred (some []))).heap.size,0,0) hnone;refine wpIn_rangeFunc λfn _=>?_;have hw1:=da (w.alloc (.deferred (some []))) (.loop {state:= .ready,pending:=none,fn,tmps:=a.tmps,params:=ps,assign:=as,body:=bd,defers:=w.heap.size});have xl:=Ext.new (z:=0) xd.wr (o:= .loop {state:= .ready,pending:=none,fn,tmps:=a.tmps,params:=ps,assign:=as,body:=bd,defers:=w.heap.size}) k6 (.inl rfl)
   ⟨_,0,0,_,m,N,cm _ _ _,hw1,rfl,rfl,hf.mono hle,h0'',h1,h3⟩
  have x1:=xd.trans xl;have hsz:(w.alloc (.deferred (some []))).heap.size=w.heap.size+1:=World.size_alloc _ _;have hg1:(eF g h.next ((w.alloc (.deferred (some []))).heap.size,0,0)) h.next=some (w.heap.size+1,0,0):=by rw [cm,hsz]
  obtain⟨d,c1,fx,us',c3,c4⟩:=yf hk x1.wr (hG.ext x1) k4 (hgv.mono x1.le) (VRs.cons (VR.yld hg1) .nil) k8
  ·refine⟨w.heap.size+1,_,_,d,_,fx,us',_,run_enterLoop_outer fn a.tmps ps as bd,?_,λ_ _=>trivial,c3 _,iV _,iF (c4.mono ?_)⟩
   ·have:=c1 ((w.alloc (.deferred (some []))).alloc (.loop {state:= .ready,pending:=none,fn,tmps:=a.tmps,params:=ps,assign:=as,body:=bd,defers:=w.heap.size}))
    simpa [resolve,Act.eval]using this
   ·rintro e w' ⟨g',u,rfl,hu,y⟩
    obtain⟨b',o',z',lr,m',N',n1,n2,n3,n4,n5,n6,n7,n8⟩:=y.wr.blk h.next _ _ (y.le _ _ hg1) m1
    rw [y.le _ _ hg1]at n1;cases n1;have hbusy:lr.state≠.busy:=by
     intro e;rw [e]at n3;subst n3;cases m3
    have xe:=qZ (k':= .dead) (l':={lr with state:= .exhausted}) y.wr (y.le _ _ hg1) m1 n2 rfl trivial;have xt:=(x1.trans y).trans xe;have hmk:dZ D g' w' B (kY w.heap.size ::a.defers):=by
     refine dZ.ext y (dZ.push x1 (hM rfl) hB (Nat.le_refl _) ?_ (λid o z e=>?_) ?_)
     ·rw [World.size_alloc,World.size_alloc];omega
     ·by_cases hi:id=h.next
      ·subst hi
       rw [hg1]at e;have:=(Prod.mk.inj (Option.some.inj e)).1;omega
      ·rw [dn _ hi]at e
       have:=r.lt _ _ _ _ e;omega
     ·rw [dV (by rw [hsz];omega)]
      exact da w _
    refine⟨lr.pending,_,run_endLoop n2 hbusy,?_⟩;have fin:∀{e:Exit},mF (Option.rec (motive:=λ_=>X) .norm id j) e->Out D T m N none B g h w (Option.rec (motive:=λ_=>X) .norm id j) f (q.2.set h.next .dead) e {a with defers:=kY w.heap.size ::a.defers} (w'.putObj (w.heap.size+1) (.loop {lr with state:= .exhausted})):=λhs=>
     ⟨g',xt,hf.mono xt.le,λ_=>hmk.ext xe,hs⟩
    split
    ·rename_i hp
     cases j with
     |none=>exact fin (e:= .normal) trivial
     |some jx=>
      cases jx with
      |norm=>cases n4
      |exit k=>rw [hp]at n4;cases n4
      |ret=>rw [hp]at n4;cases n4
    ·rename_i c hp
     cases j with
     |none=>rw [hp]at n4;cases n4
     |some jx=>
      cases jx with
      |norm=>cases n4
      |exit k=>
       rw [hp]at n4;cases n4;exact wpIn_exit (fin (e:= .exit k) rfl)
      |ret=>
       rw [hp]at n4;cases n4;exact wpIn_ret (fin (e:= .ret) trivial)
 |exit id=>
  intro cc hc f h x f' h' hx g a w B r hG hf hM _;rw [comp]at hc;cases hc;cases hx;exact wpIn_exit ⟨g,.refl r,hf,hM,rfl⟩
 |ret=>
  intro cc hc f h x f' h' hx g a w B r hG hf hM _;rw [comp]at hc;cases hc;cases hx;exact wpIn_ret ⟨g,.refl r,hf,hM,trivial⟩
 |_=>
  intro cc hc f h x f' h' hx;rw [comp]at hc<;>first|(cases hc;rw [ra]at hx;cases hx;done)|(intros;intro hh;cases hh)
end
end
section
variable [Env]
set_option linter.unusedSectionVars false
section
variable {P:Program} {T:Ty} {m N:Nat}
theorem wf{g:G}:∀{ts:List Tmp} {ps:List Dst} {vs:List V} {us:List Value} {f f1:F} {tmps:Array Value},fK (λt=>dst m N (some t)) ts=some ps->VRs g vs us->binds ps vs f=some f1->FR g m N f tmps->
  us.length=ts.length/\FR g m N f1 ((ts.zip us).foldl (λtmps p=>tmps.setIfInBounds p.1 p.2) tmps)
 |[],ps,vs,us,f,f1,tmps,h,hv,hb,hf=>by
  cases h;cases hv with
  |nil=>cases hb;exact⟨rfl,hf⟩
  |cons=>cases hb
 |t ::ts,ps,vs,us,f,f1,tmps,h,hv,hb,hf=>by
  rw [d7]at h;obtain⟨d,h1,h2⟩:=bE.1 h;obtain⟨r,h3,h4⟩:=bE.1 h2;cases h4;cases hv with
  |nil=>cases hb
  |cons hx hxs=>
   rename_i v u vs us
   have hput:=FR.put (a:=⟨tmps,[]⟩) (o:=some t) hf h1 hx;obtain⟨k1,k2⟩:=wf h3 hxs (show binds r vs (d.put f v)=some f1 from hb) hput;exact⟨by simp [k1],k2⟩
theorem wA(b:Nat):Fence.wide.inRound b=fen (some b):=rfl
theorem BC(hT:cN P T){call:cB}(hk:dX P T call)(hm:P.follows .mixedOrders=true)(n:Nat){id:Nat}{vs:List V}{h h':H}{v:V}(hr:round call n id vs h=some (v,h')){g:G}{w:World}{us:List Value}(r:WR T g h w)(hG:gY T g h w)(hv:VRs g vs us):zx P T id us g h w v h':=by
 intro b o z hg;obtain⟨st,f,ps,as,bd,j,e1,e2⟩:=jE hr;obtain⟨e3,e4⟩:=bK.1 e2;obtain⟨f1,e5,e6⟩:=bE.1 e4;obtain⟨p,e7,e8⟩:=bE.1 e6;obtain⟨x1,f2,h1⟩:=p;cases x1 with
 |exit k=>cases e8
 |ret=>cases e8
 |norm=>
  obtain⟨st1,f3,ps3,as3,bd3,j3,e9,e10⟩:=jE (show h1.loopOf id _=some (v,h')from e8);obtain⟨e11,e12⟩:=bK.1 e10;obtain⟨q,e13,e14⟩:=bE.1 e12;obtain⟨x2,f4,h2⟩:=q;obtain⟨st2,f5,ps5,as5,bd5,j5,e15,e16⟩:=jE (show h2.loopOf id _=some (v,h')from e14);obtain⟨e17,e18⟩:=bK.1 e16;obtain⟨b',o',z',l,m,N,n1,n2,n3,n4,n5,n6,n7,n8⟩:=r.blk id _ _ hg e1;rw [hg]at n1;cases n1;obtain⟨k1,k2⟩:=wf n6 hv e5 n5;have hsz:us.toArray.size=l.params.size:=by simpa using k1
  refine⟨l,_,run_yield n2 hsz,roundIn_of_wpIn trivial ?_⟩;rw [wA];have htm:(l.params.zip us.toArray).foldl (λtmps x=>tmps.setIfInBounds x.1 x.2) l.tmps=(l.params.toList.zip us).foldl (λtmps p=>tmps.setIfInBounds p.1 p.2) l.tmps:=by
   rw [<-Array.foldl_toList,Array.toList_zip]
  have hf1:FR g m N f1 ((l.params.zip us.toArray).foldl (λtmps x=>tmps.setIfInBounds x.1 x.2) l.tmps):=by rw [htm];exact k2
  refine wpIn_mono (pR (D:=[]) hT hk hm n (some b) l.assign as n7 f1 h .norm f2 h1 e7 g ⟨_,[]⟩ w 0 r hG hf1 (λe=>by cases e) (Nat.zero_le _)) ?_;rintro e a1 w1 ⟨g1,y1,y2,_,y4⟩;rw [y4.norm_inv];obtain⟨b1,o1,z1,l1,m1,N1,p1,p2,p3,p4,p5,p6,p7,p8⟩:=y1.wr.blk id _ _ (y1.le _ _ hg) e9;rw [y1.le _ _ hg]at p1;cases p1;have hready:l1.state= .ready:=by
   have:Fg l1.state=0:=by rw [p3];simpa using e11
   cases hs:l1.state<;>rw [hs]at this<;>first|rfl|cases this
  have xb:=qZ (k':= .loop 1 f3 ps3 as3 bd3 j3) (l':={l1 with state:= .busy}) y1.wr (y1.le _ _ hg) e9 p2 rfl
   ⟨b,o,z,_,m1,N1,y1.le _ _ hg,World.putObj_heap_same (y1.wr.lt _ _ _ _ (y1.le _ _ hg)),rfl,p4,p5,p6,p7,p8⟩
  refine⟨_,run_beginRound p2 hready,?_⟩;refine wpIn_mono (pR (D:=[]) hT hk hm n (some b) l.body bd n8 f2 _ x2 f4 h2 e13 g1 a1 _ 0 xb.wr ((hG.ext y1).ext xb) (y2.mono xb.le) (λe=>by cases e) (Nat.zero_le _)) ?_;rintro e2 a2 w2 ⟨g2,q1,q2,_,q4⟩;have hg2:=q1.le _ _ (xb.le _ _ (y1.le _ _ hg));obtain⟨b2,o2,z2,l2,m2,N2,s1,s2,s3,s4,s5,s6,s7,s8⟩:=q1.wr.blk id _ _ hg2 e15;rw [hg2]at s1;cases s1;have hall:=(y1.trans xb).trans q1;have hlt:=q1.wr.lt _ _ _ _ hg2;have fin:∀(jump:Option Code) (st':Nat) (jx:Option X),st'=Fg (if jump.isNone then .ready else .done)->B5 jx=some jump->v= .bool jump.isNone->h'=h2.set id (.loop st' f5 ps5 as5 bd5 jx)->
    ∃u w3,(Instr.endRound b jump).run P w2= .ok u w3/\rQ T g h w v h' (.returned u) w3:=by
   intro jump st' jx hst hjx hvv hhh;have xe:=qZ (k':= .loop st' f5 ps5 as5 bd5 jx) (l':={l2 with state:=if jump.isNone then .ready else .done,pending:=jump}) q1.wr hg2 e15 s2 rfl
    ⟨b,o,z,_,m2,N2,hg2,World.putObj_heap_same hlt,hst.symm,hjx,s5,s6,s7,s8⟩
   refine⟨_,_,run_endRound jump s2,g2,_,rfl,?_,?_⟩
   ·rw [hvv];exact .bool _
   ·rw [hhh];exact hall.trans xe
  cases x2 with
  |norm=>
   rw [q4.norm_inv];cases e18;exact fin none 0 none rfl rfl rfl rfl
  |exit k=>
   cases e2<;>first|(cases q4;done)|skip
   have q4:k=_:=q4;subst q4;cases e18;exact fin (some (.exit k)) 2 (some (.exit k)) rfl rfl rfl rfl
  |ret=>
   cases e2<;>first|(cases q4;done)|skip
   cases e18;exact fin (some .ret) 2 (some .ret) rfl rfl rfl rfl
theorem D8{g g':G}{h h':H}{w0 w:World}(x:Ext T g h w0 g' h' w){r:Nat}(o:Obj)(h1:w0.heap.size<=r)(h2:∀id o z,g' id≠some (r,o,z)):Ext T g h w0 g' h' (w.putObj r o):=by
 have hne:∀{id b o z},g' id=some (b,o,z)->b≠r:=λhg e=>h2 _ _ _ (e▸hg);have r':WR T g' h' (w.putObj r o):=by
  refine⟨x.wr.bound,x.wr.top,x.wr.dom,λid b o' z e=>by rw [World.putObj_size];exact x.wr.lt _ _ _ _ e,λid y b e1 e2=>?_,x.wr.mates,x.wr.kids,x.wr.ext⟩;obtain⟨b',o',z⟩:=y;exact BR.move e1 (World.putObj_heap_other (hne e1)) (x.wr.blk _ _ _ e1 e2)
 refine⟨x.le,x.next,r',x.un,by rw [World.putObj_size];exact x.size,λb hb hn=>?_,x.fresh,λid b o' z n cs e1 e2=>?_,x.os,x.tape,x.output⟩
 ·rw [World.putObj_heap_other (by omega)]
  exact x.keep b hb hn
 ·obtain⟨k1,k2⟩:=x.ro id b o' z n cs e1 e2
  exact⟨k1,by rw [World.putObj_heap_other (hne (x.le _ _ e1))];exact k2⟩
theorem sy{fn:Func}{tmps:Array Value}{g g':G}{h h':H}{w0:World}{v:V}:∀{rs:List Nat} {w:World},rs.Nodup->(∀r∈rs,w0.heap.size<=r/\r<w.heap.size/\(∀id o z,g' id≠some (r,o,z))/\w.heap[r]? =some (.deferred (some [])))->
  Ext T g h w0 g' h' w->(∀w,Ext T g h w0 g' h' w->∃u,VR g' v u/\(results fn tmps).run P w= .ok u w)->LeavesInM Fence.wide 0 P fn tmps (rQ T g h w0 v h') (rs.map kY) .returning w
 |[],w,_,_,x,hres=>by
  obtain⟨u,h1,h2⟩:=hres w x;exact⟨u,h2,g',u,rfl,h1,x⟩
 |r ::rs,w,hn,hm,x,hres=>by
  rw [List.nodup_cons]at hn;obtain⟨k1,k2,k3,k4⟩:=hm r List.mem_cons_self;refine⟨(λe=>by cases e),.inl ⟨r,_,rfl,run_takeDeferred k4,sy hn.2 (λs hs=>?_) (D8 x _ k1 k3) hres⟩⟩;obtain⟨q1,q2,q3,q4⟩:=hm s (List.mem_cons_of_mem _ hs);have hne:s≠r:=λe=>hn.1 (e▸hs);exact⟨q1,by rw [World.putObj_size];exact q2,q3,by rw [World.putObj_heap_other hne];exact q4⟩
noncomputable def BF(T:Ty)(m:Nat)(r:ResultVar):Option lR:=match r with
 |.tmp t=>ob (opd T m (.tmp t)) λo=>some (lR.tmp o)
 |.cell t ty=>ob (opd T m (.tmp t)) λo=>ob (oL T ty) λa=>ob (fW T ty) λn=>some (lR.cell o a n)
noncomputable def GJ(f:F)(h:H)(c:lR):Option V:=match c with
 |.tmp o=>o.ev f
 |.cell o a n=>ob (o.ev f) λv=>(ROp.load a n).run [v] h
def qw(tmps:Array Value)(r:ResultVar):Sem Value:=match r with
 |.tmp t=>pure (tmps.getD t undef)
 |.cell a t=>do loadVar t (<-asAddr (tmps.getD a undef))
theorem DB(hT:cN P T){g:G}{f:F}{h:H}{w:World}{tmps:Array Value}{r:ResultVar}{c:lR}{v:V}(hc:BF T m r=some c)(hf:FR g m N f tmps)(he:GJ f h c=some v)(hw:WR T g h w)(hE:jL g w):
  ∃u,VR g v u/\(qw tmps r).run P w= .ok u w:=by
 cases r with
 |tmp t=>
  obtain⟨o,h1,h2⟩:=bE.1 (show ob (opd T m (.tmp t)) (λo=>some (lR.tmp o))=some c from hc);cases h2;have he:o.ev f=some v:=he;rw [tD h1]at he;obtain⟨u,k1,k2⟩:=hf.2 t v he;exact⟨u,k2,by simp [qw,Array.getD_eq_getD_getElem?,k1]⟩
 |cell t ty=>
  obtain⟨o,h1,h2⟩:=bE.1 (show ob (opd T m (.tmp t)) (λo=>ob (oL T ty) λa=>ob (fW T ty) λn=>some (lR.cell o a n))=some c from hc);obtain⟨a,h3,h4⟩:=bE.1 h2;obtain⟨n,h5,h6⟩:=bE.1 h4;cases h6;obtain⟨p,k1,k2⟩:=bE.1 (show ob (o.ev f) (λv=>(ROp.load a n).run [v] h)=some v from he);rw [tD h1]at k1;obtain⟨pu,k3,k4⟩:=hf.2 t p k1;obtain⟨u,m1,m2,m3⟩:=qV (ρ:=λ_=>pu) (x:= .tmp t) hT hw hE h3 h5 (VRs.cons k4 .nil) k2;have hp:∃ad,pu= .pointer (some ad):=by
   cases p with
   |ptr i j=>cases k4;exact⟨_,rfl⟩
   |eptr cs i=>cases k4;exact⟨_,rfl⟩
   |_=>cases a<;>cases k2
  obtain⟨ad,rfl⟩:=hp;refine⟨u,m1,?_⟩;simp [qw,Array.getD_eq_getD_getElem?,k3,asAddr];exact m2
theorem wQ(f:F)(h:H)(c:lR)(l:List lR):gf f h (c ::l)=ob (GJ f h c) λv=>ob (gf f h l) λvs=>some (v ::vs):=by
 cases c<;>rfl
theorem uW(hT:cN P T){g:G}{f:F}{h:H}{w:World}{tmps:Array Value}(hf:FR g m N f tmps)(hw:WR T g h w)(hE:jL g w):∀{rs:List ResultVar} {cs:List lR} {vs:List V},fK (BF T m) rs=some cs->gf f h cs=some vs->
  ∃us,VRs g vs us/\(rs.mapM (qw tmps)).run P w= .ok us w
 |[],cs,vs,hc,he=>by
  cases hc;cases he;exact⟨[],.nil,by simp⟩
 |r ::rs,cs,vs,hc,he=>by
  rw [d7]at hc;obtain⟨c,h1,h2⟩:=bE.1 hc;obtain⟨cs',h3,h4⟩:=bE.1 h2;cases h4;rw [wQ]at he;obtain⟨v,h5,h6⟩:=bE.1 he;obtain⟨vs',h7,h8⟩:=bE.1 h6;cases h8;obtain⟨u,k1,k2⟩:=DB hT h1 hf h5 hw hE;obtain⟨us,k3,k4⟩:=uW hT hf hw hE h3 h7;exact⟨u ::us,.cons k1 k3,by simp [k2,k4]⟩
theorem vg{g:G}{vs:List V}{us:List Value}(h:VRs g vs us):VR g (cQ vs) (if h:us.toArray.size=1 then us.toArray[0]else .tuple us.toArray):=by
 cases h with
 |nil=>exact .tup .nil
 |cons hv ht=>
  cases ht with
  |nil=>exact hv
  |cons hv2 ht2=>
   rw [dif_neg (by simp)];exact .tup (.cons hv (.cons hv2 ht2))
theorem qv(hT:cN P T){g:G}{f:F}{h:H}{w:World}{tmps:Array Value}{fn:Func}(hf:FR g m N f tmps)(hw:WR T g h w)(hE:jL g w){cs:List lR}{vs:List V}(hc:fK (BF T m) fn.results.toList=some cs)(he:gf f h cs=some vs):
  ∃u,VR g (cQ vs) u/\(results fn tmps).run P w= .ok u w:=by
 obtain⟨us,k1,k2⟩:=uW hT hf hw hE hc he;refine⟨_,vg k1,?_⟩;have hfn:results fn tmps=(do let vs <-fn.results.mapM (qw tmps);pure (if h:vs.size=1 then vs[0]else .tuple vs)):=rfl;rw [hfn,Array.mapM_eq_mapM_toList];simp [k2]
theorem rI(v:V)(l:List V)(i:Nat):dG (v ::l) i=(i,v) ::dG l (i+1):=rfl
theorem la:∀(l:List V) (i t:Nat),lk (dG l i) t=if i<=t then l[t-i]? else none
 |[],i,t=>by
  show none=_;simp
 |v ::l,i,t=>by
  rw [rI,dj,la l (i+1) t]
  by_cases h:i=t
  ·subst h
   simp
  ·by_cases h2:i+1<=t
   ·rw [if_neg h,if_pos h2,if_pos (by omega),show t-i=(t-(i+1))+1 by omega,List.getElem?_cons_succ]
   ·rw [if_neg h,if_neg h2,if_neg (by omega)]
theorem Cz(hT:cN P T){call:cB}(hk:dX P T call)(hm:P.follows .mixedOrders=true)(n:Nat){f:FuncId}{fn:Func}{cf:CF}{vs:List V}{h h':H}{v:V}(hfn:P.funcs[f]? =some fn)(hcf:bQ T fn=some cf)(hr:enter call n cf vs h=some (v,h')){g:G}{w:World}{us:List Value}(r:WR T g h w)(hG:gY T g h w)(hv:VRs g vs us):
  CallsIn Fence.wide 0 P f us.toArray w (rQ T g h w v h'):=by
 obtain⟨c,e1,e2⟩:=bE.1 (show ob fn.body _=some cf from hcf);obtain⟨e3,e4⟩:=bK.1 e2;obtain⟨cc,e5,e6⟩:=bE.1 e4;obtain⟨rs,e7,e8⟩:=bE.1 e6;cases e8;generalize hmm:iI c (fn.results.toList.foldl (λm r=>match r with | .tmp t=>eA m t | .cell t _=>eA m t) ((List.range (fn.params.size+fn.nfree)).foldl eA 0))=m at e5 e7;have e7':fK (BF T m) fn.results.toList=some rs:=e7;obtain⟨k1,k2⟩:=bK.1 (show oif (Nat.beq (bY vs) (fn.params.size+fn.nfree)) _=some (v,h')from hr);obtain⟨q,k3,k4⟩:=bE.1 k2;obtain⟨x,f1,h1⟩:=q;rw [bV]at k1;have hlen:=hv.length;have k1':vs.length=fn.params.size+fn.nfree:=by simpa using k1
 have e3':fn.params.size+fn.nfree<=fn.ntmps:=by simpa using e3
 have hus:us.length<=fn.ntmps:=by omega
 have htoo:∀(f1:F) (h1:H),(∃l,gf f1 h1 rs=some l/\v=cQ l/\h'=h1)->True:=λ_ _ _=>trivial;clear htoo;have hF:FR g m fn.ntmps ⟨dG vs 0,[]⟩ (us.toArray++Array.replicate (fn.ntmps-us.toArray.size) undef):=by
  refine⟨by simp;omega,λt x e=>?_⟩;unfold rdn at e
  split at e
  ·have e:lk (dG vs 0) t=some x:=e
   rw [la,if_pos (Nat.zero_le _)]at e;obtain⟨u,m1,m2⟩:=hv.get e;refine⟨u,?_,m2⟩;have ht:t<us.length:=by
    rcases Nat.lt_or_ge t us.length with k|k
    ·exact k
    ·rw [List.getElem?_eq_none (by omega)]at m1;cases m1
   rw [Array.getElem?_append_left (by simpa using ht)]
   simpa using m1
  ·cases e
 refine callsIn_of_wp_marks hfn e1 trivial ?_;have hex:=pR (D:=[]) hT hk hm n none c cc e5 _ h x f1 h1 k3 g ⟨us.toArray++Array.replicate (fn.ntmps-us.toArray.size) undef,[]⟩ w w.heap.size r hG hF (λ_=>.nil) (Nat.le_refl _);refine wpIn_mono hex ?_;rintro e a' w' ⟨g',y1,y2,y3,y4⟩;have leave:∀{l:List V},gf f1 h1 rs=some l->v=cQ l->h'=h1->LeavesInM Fence.wide 0 P fn a'.tmps (rQ T g h w v h') a'.defers .returning w':=by
  intro l hl hvv hhh;subst hvv hhh;obtain⟨ms,p1,p2,p3⟩:=y3 rfl;rw [p1,List.append_nil];exact sy p2 p3 y1 λw2 hw2=>qv hT y2 hw2.wr (hG.ext hw2).env e7' hl
 cases x with
 |exit j=>cases k4
 |norm=>
  obtain⟨l,m1,m2⟩:=bE.1 (show ob (gf f1 h1 rs) (λl=>some (cQ l,h1))=some (v,h')from k4);cases m2;rw [y4.norm_inv];exact leave m1 rfl rfl
 |ret=>
  obtain⟨l,m1,m2⟩:=bE.1 (show ob (gf f1 h1 rs) (λl=>some (cQ l,h1))=some (v,h')from k4);cases m2;cases e<;>first|(cases y4;done)|skip
  exact leave m1 rfl rfl
def ur(P:Program)(T:Ty)(prim:FuncId->Option (List V->H->Option (V×H))):Prop:=
 ∀f p,prim f=some p->∀vs h v h',p vs h=some (v,h')->∀g w us,WR T g h w->gY T g h w->VRs g vs us->ly P T f us g h w v h'
def wp(P:Program)(T:Ty)(tab:FuncId->Option CF):Prop:=
 ∀f cf,tab f=some cf->∃fn,P.funcs[f]? =some fn/\fn.name≠ "runtime.NumGoroutine"/\bQ T fn=some cf
theorem sj{α β:Type}{o:Option α}{n:Option β}{s:α->Option β}{r:β}(h:(Option.rec (motive:=λ_=>Option β) n s o:Option β)=some r):(o=none/\n=some r)\/∃a,o=some a/\s a=some r:=by
 cases o with
 |none=>exact .inl ⟨rfl,h⟩
 |some a=>exact .inr ⟨a,rfl,h⟩
theorem nK(hT:cN P T)(hm:P.follows .mixedOrders=true){prim:FuncId->Option (List V->H->Option (V×H))}{tab:FuncId->Option CF}(hp:ur P T prim)(ht:wp P T tab):∀n,dX P T (ju prim tab n)
 |0=>⟨(λf vs h v h' e=>by cases e),(λid vs h v h' e=>by cases e)⟩
 |n+1=>by
  have ih:=nK hT hm hp ht n;have go:∀{f vs h v h'},(ob (tab f) λcf=>enter (ju prim tab n) 1000000 cf vs h)=some (v,h')->∀g w us,WR T g h w->gY T g h w->VRs g vs us->ly P T f us g h w v h':=by
   intro f vs h v h' e g w us r hG hv;obtain⟨cf,e1,e2⟩:=bE.1 e;obtain⟨fn,k1,k2,k3⟩:=ht f cf e1;refine⟨fn,k1,k2,?_,Cz hT ih hm 1000000 k1 k3 e2 r hG hv⟩;obtain⟨c,m1,_⟩:=bE.1 (show ob fn.body _=some cf from k3);rw [m1];rfl
  refine⟨λf vs h v h' e g w us r hG hv=>?_,λid vs h v h' e g w us r hG hv=>?_⟩
  ·have e:(Option.rec (motive:=λ_=>Option (V×H)) (ob (tab f) λcf=>enter (ju prim tab n) 1000000 cf vs h)
    (λg=>Option.rec (motive:=λ_=>Option (V×H)) (ob (tab f) λcf=>enter (ju prim tab n) 1000000 cf vs h) some (g vs h)) (prim f):Option (V×H))=some (v,h'):=e
   rcases sj e with⟨_,e1⟩ | ⟨p,e1,e2⟩
   ·exact go e1 g w us r hG hv
   ·rcases sj e2 with⟨_,e3⟩ | ⟨q,e3,e4⟩
    ·exact go e3 g w us r hG hv
    ·cases e4
     exact hp f p e1 vs h v h' e3 g w us r hG hv
  ·have e:round (ju prim tab n) 1000000 id vs h=some (v,h'):=e
   exact BC hT ih hm 1000000 e r hG hv
end
end
section
variable [Env]
set_option linter.unusedSectionVars false
def flat(x:V):Bool:=
 match x with
 |.bool _=>true
 |.int _ _=>true
 |.str _ _=>true
 |.nilp=>true
 |.nils=>true
 |.nilm=>true
 |.nilf=>true
 |.nili=>true
 |_=>false
theorem D1{g g':G}{x:V}{u:Value}(hf:flat x=true)(h:VR g x u):VR g' x u:=by
 cases h<;>first|(cases hf;done)|constructor
theorem vN{x:V}(hf:flat x=true):cE x=true:=by
 cases x<;>first|rfl|cases hf
abbrev nog:G:=λ_=>none
noncomputable section
end
noncomputable section
end
def sY(g:G)(h:H):Prop:=(∀id b,h.blk id=some b->b.isRo=true)/\∀id x,g id=some x->∃b,h.blk id=some b
theorem WR.over{T:Ty}{b o z:Nat}{g:G}{h:H}{w:World}(r:WR T g h w)(hro:∀i o' z' k,g i=some (b,o',z')->h.blk i=some k->k.live=true->k.isRo=true)(hk:h.next<bR){c:Array Value}{t:TypeId}{vs:List V}{xs:List Value}
  (hw:w.heap[b]? =some (.cells c t (0,0))) (hs:c.size=o+z) (hv:VRs g vs xs) (hx:∀j u,xs[j]? =some u->c[o+j]? =some u) (hz:xs.length<=z) (hy:xs.length<=bR) (h1:∀v,v∈vs->cE v=true):
  WR T (eF g h.next (b,o,z)) ⟨h.t.put h.next (some (.ro (bY vs) (cq vs 0 .e))),Nat.succ h.next⟩ w/\g.le (eF g h.next (b,o,z))/\(∀j,(⟨h.t.put h.next (some (.ro (bY vs) (cq vs 0 .e))),Nat.succ h.next⟩:H).blk j=if j=h.next then some (.ro (bY vs) (cq vs 0 .e))else h.blk j)/\g h.next=none:=by
 have hn:H.new h (.ro (bY vs) (cq vs 0 .e))=some ⟨h.t.put h.next (some (.ro (bY vs) (cq vs 0 .e))),Nat.succ h.next⟩:=by
  unfold H.new;rw [bK];exact⟨by simpa using hk,rfl⟩
 obtain⟨r1,e1,e2,e3⟩:=r.add hn (.inl rfl);have le:=eS (b,o,z) e3;have hblk:=e2;have kin':Kin h ⟨h.t.put h.next (some (.ro (bY vs) (cq vs 0 .e))),Nat.succ h.next⟩:=λi b' k p q=>by
  have hi:i≠h.next:=λe=>by have:=r.top i _ p;omega
  exact⟨b',by rw [hblk,if_neg hi];exact p,q⟩
 have cases':∀{i:Nat} {x:Nat×Nat×Nat},eF g h.next (b,o,z) i=some x->(i=h.next/\x=(b,o,z))\/(i≠h.next/\g i=some x):=by
  intro i x e
  by_cases h1:i=h.next
  ·subst h1;rw [cm]at e;exact .inl ⟨rfl,(Option.some.inj e).symm⟩
  ·rw [dn _ h1]at e;exact .inr ⟨h1,e⟩
 refine⟨⟨r1.bound,r1.top,λi x e=>?_,λi b' o' z' e=>?_,λi x k k1 k2=>?_,λi j b' o1 z1 o2 z2 bi bj hij k1 k2 k3 k4 l1 l2=>?_,λi q j d ch k1 k2=>?_,λi q j d ch q' k1 k2 k3=>?_⟩,le,hblk,e3⟩
 ·rcases cases' e with⟨rfl,_⟩ | ⟨_,e⟩
  ·exact Nat.lt_succ_self _
  ·exact Nat.lt_succ_of_lt (r.dom _ _ e)
 ·rcases cases' e with⟨_,e⟩ | ⟨_,e⟩
  ·cases e;exact(Array.getElem?_eq_some_iff.1 hw).1
  ·exact r.lt _ _ _ _ e
 ·rcases cases' k1 with⟨rfl,e⟩ | ⟨h2,e⟩
  ·rw [hblk,if_pos rfl]at k2
   cases k2;refine⟨b,o,z,c,t,cm _ _ _,hw,hs,?_,?_,λj v hj hg=>?_⟩
   ·rw [bV,hv.length];exact hz
   ·rw [bV,hv.length];exact hy
   ·rw [bV]at hj
    rw [cU vs 0 .e j (by rw [hv.length];omega),if_pos (by omega)]at hg;obtain⟨u,m1,m2⟩:=hv.get (i:=j) (by simpa using hg);exact⟨u,hx j u m1,m2.mono le,h1 v (List.mem_of_getElem? (by simpa using hg))⟩
  ·rw [hblk,if_neg h2]at k2
   exact(r.blk i x k e k2).mono le
 ·have roAt:∀{k:Nat} {bk:Blk} {ok zk:Nat},eF g h.next (b,o,z) k=some (b,ok,zk)->(⟨h.t.put h.next (some (.ro (bY vs) (cq vs 0 .e))),Nat.succ h.next⟩:H).blk k=some bk->bk.live=true->bk.isRo=true:=by
   intro k bk ok zk q1 q2 ql;rw [hblk]at q2
   by_cases h2:k=h.next
   ·rw [if_pos h2]at q2;cases q2;rfl
   ·rw [if_neg h2]at q2;rw [dn _ h2]at q1;exact hro _ _ _ _ q1 q2 ql
  by_cases hb:b'=b
  ·subst hb
   exact .inr (.inr ⟨roAt k1 k3 l1,roAt k2 k4 l2⟩)
  ·rcases cases' k1 with⟨rfl,e⟩ | ⟨hi,e1⟩
   ·cases e;exact absurd rfl hb
   ·rcases cases' k2 with⟨rfl,e⟩ | ⟨hj,e2⟩
    ·cases e;exact absurd rfl hb
    ·have m3:=k3
     have m4:=k4;rw [hblk,if_neg hi]at m3;rw [hblk,if_neg hj]at m4;rcases r.mates i j _ _ _ _ _ _ _ hij e1 e2 m3 m4 l1 l2 with⟨d,u,q⟩ | ⟨d,u,q⟩|q
     ·exact .inl ⟨d,u.kin kin',q⟩
     ·exact .inr (.inl ⟨d,u.kin kin',q⟩)
     ·exact .inr (.inr q)
 ·rw [hblk]at k1
  by_cases h2:i=h.next
  ·rw [if_pos h2]at k1;cases k1;cases k2
  ·rw [if_neg h2]at k1
   obtain⟨b'',up,p1,p2,p3⟩:=r.kids i q j d ch k1 k2;have hj:j≠h.next:=λe=>by have:=r.top j _ p1;omega
   refine⟨b'',up,by rw [hblk,if_neg hj];exact p1,p2,λq=>?_⟩;rw [dn _ h2]at q;rw [dn _ hj];exact p3 q
 ·rw [hblk]at k1 k3
  by_cases h2:i=h.next
  ·rw [if_pos h2]at k1;cases k1;cases k2
  ·rw [if_neg h2]at k1
   obtain⟨b'',up,p1,p2,p3⟩:=r.kids i q j d ch k1 k2;have hj:j≠h.next:=λe=>by have:=r.top j _ p1;omega
   rw [if_neg hj]at k3;exact r.ext i q j d ch q' k1 k2 k3
theorem WR.overRo{T:Ty}{b o z:Nat}{g:G}{h:H}{w:World}(r:WR T g h w)(a:sY g h)(hk:h.next<bR){c:Array Value}{t:TypeId}{vs:List V}{xs:List Value}
  (hw:w.heap[b]? =some (.cells c t (0,0))) (hs:c.size=o+z) (hv:VRs g vs xs) (hx:∀j u,xs[j]? =some u->c[o+j]? =some u) (hz:xs.length<=z) (hy:xs.length<=bR) (h1:∀v,v∈vs->cE v=true):
  WR T (eF g h.next (b,o,z)) ⟨h.t.put h.next (some (.ro (bY vs) (cq vs 0 .e))),Nat.succ h.next⟩ w/\sY (eF g h.next (b,o,z)) ⟨h.t.put h.next (some (.ro (bY vs) (cq vs 0 .e))),Nat.succ h.next⟩/\g.le (eF g h.next (b,o,z)):=by
 obtain⟨r1,le,hblk,_⟩:=r.over (λi _ _ k _ q _=>a.1 i k q) hk hw hs hv hx hz hy h1;refine⟨r1,⟨λid q e=>?_,λid x e=>?_⟩,le⟩
 ·rw [hblk]at e
  by_cases h2:id=h.next
  ·rw [if_pos h2]at e;cases e;rfl
  ·rw [if_neg h2]at e;exact a.1 id q e
 ·rw [hblk]
  by_cases h2:id=h.next
  ·rw [if_pos h2];exact⟨_,rfl⟩
  ·rw [if_neg h2];rw [dn _ h2]at e;exact a.2 id x e
theorem WR.empty(T:Ty)(w:World):WR T nog ⟨.e,0⟩ w:=by
 refine⟨Nat.zero_le _,λid b e=>?_,λid x e=>?_,λid b o z e=>?_,λid x b e=>?_,λi j b o z o' z' bi bj _ e=>?_,λi b j d ch e=>?_,λi b j d ch b' e=>?_⟩
 ·cases e
 ·cases e
 ·cases e
 ·cases e
 ·cases e
 ·cases e
 ·cases e
theorem sY.empty:sY nog ⟨.e,0⟩:=⟨(λid b e=>by cases e),(λid x e=>by cases e)⟩
structure kL(w w':World):Prop where
 size:w.heap.size<=w'.heap.size
 keep:∀b:Nat,b<w.heap.size->w'.heap[b]? =w.heap[b]?
 os:w'.os=w.os
 tape:w'.tape=w.tape
 output:w'.output=w.output
theorem kL.refl(w:World):kL w w:=⟨Nat.le_refl _,λ_ _=>rfl,rfl,rfl,rfl⟩
theorem kL.trans{a b c:World}(h:kL a b)(k:kL b c):kL a c:=
 ⟨Nat.le_trans h.size k.size,λi hi=>(k.keep i (Nat.lt_of_lt_of_le hi h.size)).trans (h.keep i hi),k.os.trans h.os,k.tape.trans h.tape,k.output.trans h.output⟩
end
section
variable [Env]
set_option linter.unusedSectionVars false
inductive fS:V->Prop
 |flat {v:V} (h:flat v=true):fS v
 |lst {n es:Nat} {cs:List V} (h:∀c,c∈cs->fS c):fS (.lst n es cs)
 |agg {cs:List V} (h:∀c,c∈cs->fS c):fS (.agg cs)
 |tup {cs:List V} (h:∀c,c∈cs->fS c):fS (.tup cs)
theorem gP{g g':G}:∀{l:List V} {us:List Value},(∀v,v∈l->∀u,VR g v u->VR g' v u)->VRs g l us->VRs g' l us
 |[],_,_,.nil=>.nil
 |v ::_,_,k,.cons h t=>.cons (k v List.mem_cons_self _ h) (gP (λx hx=>k x (List.mem_cons_of_mem _ hx)) t)
end
section
variable [Env]
set_option linter.unusedSectionVars false
section
variable {P:Program} {T:Ty} {m N:Nat}
def unX(id:Nat)(x:X):X:=match x with
 |.exit j=>if j=id then .norm else .exit j
 |x=>x
theorem ky:∀{l:AL} {t:Nat} {v:V},lk l t=some v->(t,v)∈l
 |[],_,_,h=>by cases h
 |(a,b) ::l,t,v,h=>by
  have h:(Bool.rec (motive:=λ_=>Option V) (lk l t) (some b) (Nat.beq a t):Option V)=some v:=h;rw [cC]at h
  split at h
  ·rename_i e
   cases h;have:a=t:=by simpa using e
   subst this;exact List.mem_cons_self
  ·exact List.mem_cons_of_mem _ (ky h)
theorem sk{o:Option ci}{c:ci}(h:sq o=some c)(hb:∀x,o=some x->(∃l,x= .reg l)\/∃l,x= .regD l):(∃l,c= .reg l)\/∃l,c= .regD l:=by
 rcases d9 h with h|rfl
 ·exact hb _ h
 ·exact .inl ⟨_,rfl⟩
theorem v6{id:Nat}{ops:Array Oper}{d:Bool}{cc:ci}(h:comp T m N (.region id ops d)=some cc):(∃l,cc= .reg l)\/∃l,cc= .regD l:=by
 cases d with
 |false=>
  rw [ka]at h;exact sk h λx e=>by obtain⟨l,_,e⟩:=bE.1 e;cases e;exact .inl ⟨_,rfl⟩
 |true=>
  rw [iW]at h;exact sk h λx e=>by obtain⟨l,_,e⟩:=bE.1 e;obtain⟨l,_,e⟩:=bE.1 e;cases e;exact .inr ⟨_,rfl⟩
theorem fV:∀{c:Code} {cc:ci},comp T m N c=some cc->match cc with
  |.seq a b=>∃c1 c2,c= .seq c1 c2/\comp T m N c1=some a/\comp T m N c2=some b
  |.cond o a b=>∃o' c1 c2,c= .cond o' c1 c2/\opd T m o'=some o/\comp T m N c1=some a/\comp T m N c2=some b
  |.block id a=>∃c1,c= .block id c1/\comp T m N c1=some a
  |.loop a=>∃c1,c= .loop c1/\comp T m N c1=some a
  |_=>True:=by
 intro c cc h;cases c with
 |seq a b=>
  rw [j9]at h;obtain⟨x,h1,h⟩:=bE.1 h;obtain⟨y,h2,h⟩:=bE.1 h;cases h;exact⟨_,_,rfl,h1,h2⟩
 |cond o a b=>
  rw [iY]at h;obtain⟨z,h0,h⟩:=bE.1 h;obtain⟨x,h1,h⟩:=bE.1 h;obtain⟨y,h2,h⟩:=bE.1 h;cases h;exact⟨_,_,_,rfl,h0,h1,h2⟩
 |block id a=>
  rw [ie]at h;obtain⟨x,h1,h⟩:=bE.1 h;cases h;exact⟨_,rfl,h1⟩
 |loop a=>
  rw [iX]at h;obtain⟨x,h1,h⟩:=bE.1 h;cases h;exact⟨_,rfl,h1⟩
 |region id ops d=>rcases v6 h with⟨l,rfl⟩ | ⟨l,rfl⟩<;>trivial
 |rangeFunc f ps a b=>
  rw [ic]at h;obtain⟨_,_,h⟩:=bE.1 h;obtain⟨_,_,h⟩:=bE.1 h;obtain⟨_,_,h⟩:=bE.1 h;obtain⟨_,_,h⟩:=bE.1 h;cases h
  trivial
 |_=>(rw [comp]at h<;>first|(intros;contradiction)|(cases h;trivial))
end
end
section
mutual
inductive Ex where
 |mk (kind int:Int) (name text:ByteArray) (items:List Ex) (segs:List Sg) (clauses catches:List Cl) (body after:List Sm) (wait:Bool)
inductive Sg where
 |mk (type:Int) (text:ByteArray) (val size:Ex) (sized signed little:Bool)
inductive Cl where
 |mk (name:ByteArray) (pats:List Ex) (guards:List (List Ex)) (body:List Sm)
inductive Sm where
 |mk (isMatch:Bool) (pat val:Ex)
end
namespace Ex
def kind:Ex->Int | .mk k _ _ _ _ _ _ _ _ _ _=>k
def int:Ex->Int | .mk _ n _ _ _ _ _ _ _ _ _=>n
def name:Ex->ByteArray | .mk _ _ s _ _ _ _ _ _ _ _=>s
def text:Ex->ByteArray | .mk _ _ _ s _ _ _ _ _ _ _=>s
def items:Ex->List Ex | .mk _ _ _ _ l _ _ _ _ _ _=>l
def segs:Ex->List Sg | .mk _ _ _ _ _ l _ _ _ _ _=>l
def clauses:Ex->List Cl | .mk _ _ _ _ _ _ l _ _ _ _=>l
def catches:Ex->List Cl | .mk _ _ _ _ _ _ _ l _ _ _=>l
def body:Ex->List Sm | .mk _ _ _ _ _ _ _ _ l _ _=>l
def after:Ex->List Sm | .mk _ _ _ _ _ _ _ _ _ l _=>l
def wait:Ex->Bool | .mk _ _ _ _ _ _ _ _ _ _ b=>b
end Ex
namespace Sg
def type:Sg->Int | .mk t _ _ _ _ _ _=>t
def text:Sg->ByteArray | .mk _ t _ _ _ _ _=>t
def val:Sg->Ex | .mk _ _ x _ _ _ _=>x
def size:Sg->Ex | .mk _ _ _ x _ _ _=>x
def sized:Sg->Bool | .mk _ _ _ _ b _ _=>b
def signed:Sg->Bool | .mk _ _ _ _ _ b _=>b
def little:Sg->Bool | .mk _ _ _ _ _ _ b=>b
end Sg
namespace Cl
def name:Cl->ByteArray | .mk s _ _ _=>s
def pats:Cl->List Ex | .mk _ l _ _=>l
def guards:Cl->List (List Ex) | .mk _ _ l _=>l
def body:Cl->List Sm | .mk _ _ _ l=>l
end Cl
namespace Sm
def isMatch:Sm->Bool | .mk b _ _=>b
def pat:Sm->Ex | .mk _ x _=>x
def val:Sm->Ex | .mk _ _ x=>x
end Sm
noncomputable section
def sV(s:ByteArray):V:= .str s.size (bT s.data.toList)
mutual
def exC:Ex->List V
 |.mk k n nm tx l g c h bd af wt=>[.int .i64 k,.int .i64 n,sV nm,sV tx,.lst l.length 11 (exL l),.lst g.length 27 (sgL g),.lst c.length 4 (clL c),.lst h.length 4 (clL h),.lst bd.length 23 (smL bd),.lst af.length 23 (smL af),.bool wt]
def sgC:Sg->List V
 |.mk t tx x y a b c=>.int .i64 t ::sV tx ::(exC x++(exC y++[.bool a,.bool b,.bool c]))
def clC:Cl->List V
 |.mk nm l g bd=>[sV nm,.lst l.length 11 (exL l),.lst g.length 1 (gdL g),.lst bd.length 23 (smL bd)]
def smC:Sm->List V
 |.mk m x y=>.bool m ::(exC x++exC y)
def exL:List Ex->List V
 |[]=>[]
 |x ::l=>exC x++exL l
def sgL:List Sg->List V
 |[]=>[]
 |x ::l=>sgC x++sgL l
def clL:List Cl->List V
 |[]=>[]
 |x ::l=>clC x++clL l
def smL:List Sm->List V
 |[]=>[]
 |x ::l=>smC x++smL l
def gdL:List (List Ex)->List V
 |[]=>[]
 |x ::l=>.lst x.length 11 (exL x) ::gdL l
end
def exO(x:Ex):List V:=[.int .i64 x.kind,.int .i64 x.int,sV x.name,sV x.text,.lst x.items.length 11 (exL x.items),.lst x.segs.length 27 (sgL x.segs),.lst x.clauses.length 4 (clL x.clauses),.lst x.catches.length 4 (clL x.catches),.lst x.body.length 23 (smL x.body),.lst x.after.length 23 (smL x.after),.bool x.wait]
def sgO(s:Sg):List V:= .int .i64 s.type ::sV s.text ::(exO s.val++(exO s.size++[.bool s.sized,.bool s.signed,.bool s.little]))
def clO(c:Cl):List V:=[sV c.name,.lst c.pats.length 11 (exL c.pats),.lst c.guards.length 1 (gdL c.guards),.lst c.body.length 23 (smL c.body)]
def smO(s:Sm):List V:= .bool s.isMatch ::(exO s.pat++exO s.val)
theorem oE(x:Ex):exC x=exO x:=by cases x;rw [exC];rfl
theorem Bw(s:Sg):sgC s=sgO s:=by cases s;rw [sgC,oE,oE];rfl
theorem CY(c:Cl):clC c=clO c:=by cases c;rw [clC];rfl
theorem Bs(s:Sm):smC s=smO s:=by cases s;rw [smC,oE,oE];rfl
theorem cK(x:Ex)(l:List Ex):exL (x ::l)=exO x++exL l:=by rw [exL,oE]
theorem i7(x:Sg)(l:List Sg):sgL (x ::l)=sgO x++sgL l:=by rw [sgL,Bw]
theorem gW(x:Cl)(l:List Cl):clL (x ::l)=clO x++clL l:=by rw [clL,CY]
theorem gO(x:Sm)(l:List Sm):smL (x ::l)=smO x++smL l:=by rw [smL,Bs]
theorem zb(x:Ex):(exO x).length=11:=rfl
theorem Du(x:Sg):(sgO x).length=27:=rfl
theorem El(x:Cl):(clO x).length=4:=rfl
theorem Dp(x:Sm):(smO x).length=23:=rfl
theorem xI:∀(l:List Ex) (i:Nat) (x:Ex),l[i]? =some x->∃a b,exL l=a++(exO x++b)/\a.length=11*i
 |y ::l,0,x,h=>by
  rw [List.getElem?_cons_zero]at h;cases h;exact⟨[],exL l,cK _ _,rfl⟩
 |y ::l,i+1,x,h=>by
  rw [List.getElem?_cons_succ]at h;obtain⟨a,b,e,k⟩:=xI l i x h;exact⟨exO y++a,b,by rw [cK,e,List.append_assoc],by rw [List.length_append,k,zb];omega⟩
theorem wO:∀(l:List Sg) (i:Nat) (x:Sg),l[i]? =some x->∃a b,sgL l=a++(sgO x++b)/\a.length=27*i
 |y ::l,0,x,h=>by
  rw [List.getElem?_cons_zero]at h;cases h;exact⟨[],sgL l,i7 _ _,rfl⟩
 |y ::l,i+1,x,h=>by
  rw [List.getElem?_cons_succ]at h;obtain⟨a,b,e,k⟩:=wO l i x h;exact⟨sgO y++a,b,by rw [i7,e,List.append_assoc],by rw [List.length_append,k,Du];omega⟩
theorem xZ:∀(l:List Cl) (i:Nat) (x:Cl),l[i]? =some x->∃a b,clL l=a++(clO x++b)/\a.length=4*i
 |y ::l,0,x,h=>by
  rw [List.getElem?_cons_zero]at h;cases h;exact⟨[],clL l,gW _ _,rfl⟩
 |y ::l,i+1,x,h=>by
  rw [List.getElem?_cons_succ]at h;obtain⟨a,b,e,k⟩:=xZ l i x h;exact⟨clO y++a,b,by rw [gW,e,List.append_assoc],by rw [List.length_append,k,El];omega⟩
theorem wK:∀(l:List Sm) (i:Nat) (x:Sm),l[i]? =some x->∃a b,smL l=a++(smO x++b)/\a.length=23*i
 |y ::l,0,x,h=>by
  rw [List.getElem?_cons_zero]at h;cases h;exact⟨[],smL l,gO _ _,rfl⟩
 |y ::l,i+1,x,h=>by
  rw [List.getElem?_cons_succ]at h;obtain⟨a,b,e,k⟩:=wK l i x h;exact⟨smO y++a,b,by rw [gO,e,List.append_assoc],by rw [List.length_append,k,Dp];omega⟩
theorem xx:∀(l:List (List Ex)) (i:Nat) (x:List Ex),l[i]? =some x->∃a b,gdL l=a++(.lst x.length 11 (exL x) ::b)/\a.length=i
 |y ::l,0,x,h=>by
  rw [List.getElem?_cons_zero]at h;cases h;exact⟨[],gdL l,by rw [gdL];rfl,rfl⟩
 |y ::l,i+1,x,h=>by
  rw [List.getElem?_cons_succ]at h;obtain⟨a,b,e,k⟩:=xx l i x h;exact⟨_ ::a,b,by rw [gdL,e];rfl,by rw [List.length_cons,k]⟩
theorem oG{α:Type}:∀(a b:List α),jr a.length (a++b)=b
 |[],_=>rfl
 |_ ::a,b=>oG a b
theorem nT{α:Type}:∀(a b:List α),gI a.length (a++b)=some a
 |[],_=>rfl
 |x ::a,b=>by
  show ob (gI a.length (a++b)) (λr=>some (x ::r))=some (x ::a);rw [nT a b];rfl
end
end
section
theorem oc{α:Type}(x:α)(l:List α)(j:Nat):d5 (x ::l) (j+1)=d5 l j:=by
 show(Bool.rec (motive:=λ_=>Option α) (d5 l (Nat.sub (j+1) 1)) (some x) (Nat.beq (j+1) 0):Option α)=d5 l j;rfl
theorem qC{α:Type}:∀(a b:List α) (j:Nat),d5 (a++b) (a.length+j)=d5 b j
 |[],b,j=>by rw [List.nil_append,List.length_nil,Nat.zero_add]
 |x ::a,b,j=>by
  rw [List.cons_append,List.length_cons,show a.length+1+j=(a.length+j)+1 by omega,oc];exact qC a b j
theorem og{α:Type}:∀{a b:List α} {j:Nat} {v:α},d5 a j=some v->d5 (a++b) j=some v
 |x ::a,b,0,v,h=>h
 |x ::a,b,j+1,v,h=>by
  rw [oc]at h;rw [List.cons_append,oc];exact og h
theorem Cb{i n:Nat}(h:i<n):idx (Int.ofNat i) n=some i:=by
 show oif (Nat.blt i n) (some i)=some i;rw [show Nat.blt i n=true by simp [Nat.blt];omega];rfl
theorem F3{es n i:Nat}{cs:List V}{k:IntKind}(h:i<n):POp.run2 (.ixsl es) (.lst n es cs) (.int k (Int.ofNat i))=some (.eptr cs (Nat.mul i es)):=by
 show oif (Nat.beq es es) (ob (idx (Int.ofNat i) n) λm=>some (V.eptr cs (Nat.mul m es)))=_;rw [Cb h,show Nat.beq es es=true by simp];rfl
structure eY(cs:List V)(off:Nat)(x:List V):Prop where
 whole:gI x.length (jr off cs)=some x
 one:∀j v,d5 x j=some v->d5 cs (off+j)=some v
theorem eY.of{a x b cs:List V}{off:Nat}(e:cs=a++(x++b))(h:a.length=off):eY cs off x:=by
 subst e h;refine⟨by rw [oG,nT],λj v hv=>?_⟩;rw [qC];exact og hv
theorem G4{l:List Ex}{i:Nat}{x:Ex}(h:l[i]? =some x):eY (exL l) (Nat.mul i 11) (exO x):=by
 obtain⟨a,b,e,k⟩:=xI l i x h;exact .of e (k.trans (Nat.mul_comm 11 i))
theorem GH{l:List Sg}{i:Nat}{x:Sg}(h:l[i]? =some x):eY (sgL l) (Nat.mul i 27) (sgO x):=by
 obtain⟨a,b,e,k⟩:=wO l i x h;exact .of e (k.trans (Nat.mul_comm 27 i))
theorem G7{l:List Cl}{i:Nat}{x:Cl}(h:l[i]? =some x):eY (clL l) (Nat.mul i 4) (clO x):=by
 obtain⟨a,b,e,k⟩:=xZ l i x h;exact .of e (k.trans (Nat.mul_comm 4 i))
theorem GF{l:List Sm}{i:Nat}{x:Sm}(h:l[i]? =some x):eY (smL l) (Nat.mul i 23) (smO x):=by
 obtain⟨a,b,e,k⟩:=wK l i x h;exact .of e (k.trans (Nat.mul_comm 23 i))
theorem GZ{l:List (List Ex)}{i:Nat}{x:List Ex}(h:l[i]? =some x):eY (gdL l) (Nat.mul i 1) [.lst x.length 11 (exL x)]:=by
 obtain⟨a,b,e,k⟩:=xx l i x h;exact .of e (k.trans (Nat.mul_one i).symm)
theorem fm{cs x:List V}{off:Nat}(e:eY cs off x)(h:H):ROp.run (.load true x.length) [.eptr cs off] h=some (.agg x):=by
 show ob (gI x.length (jr off cs)) (λl=>some (V.agg l))=some (V.agg x);rw [e.whole];rfl
theorem dO{cs x:List V}{off j n:Nat}{v:V}(e:eY cs off x)(hv:d5 x j=some v)(h:H):ROp.run (.load false n) [.eptr cs (off+j)] h=some v:=e.one j v hv
theorem iU{i:Nat}(h:i<9223372036854775807):cT .i64 (Int.add (Int.ofNat i) (Int.ofNat 1))=Int.ofNat (i+1):=by
 show(Bool.rec (motive:=λ_=>Int) (jQ .i64 (Nat.mod (i+1) (gD .i64))) (Int.ofNat (i+1)) (Nat.blt (i+1) (iA .i64)):Int)=Int.ofNat (i+1)
 rw [show Nat.blt (i+1) (iA .i64)=true by simp [Nat.blt,iA];omega]
theorem pK(s:ByteArray):fS (sV s):= .flat rfl
mutual
theorem j8:∀(x:Ex) (v:V),v∈exC x->fS v
 |.mk k n nm tx l g c h bd af wt,v,hv=>by
  rw [exC]at hv;simp only [List.mem_cons,List.not_mem_nil,or_false]at hv;rcases hv with rfl|rfl|rfl|rfl|rfl|rfl|rfl|rfl|rfl|rfl|rfl
  ·exact .flat rfl
  ·exact .flat rfl
  ·exact pK _
  ·exact pK _
  ·exact .lst (iB l)
  ·exact .lst (qq g)
  ·exact .lst (nI c)
  ·exact .lst (nI h)
  ·exact .lst (kT bd)
  ·exact .lst (kT af)
  ·exact .flat rfl
theorem uQ:∀(x:Sg) (v:V),v∈sgC x->fS v
 |.mk t tx x y a b c,v,hv=>by
  rw [sgC]at hv;simp only [List.mem_cons,List.mem_append,List.not_mem_nil,or_false]at hv;rcases hv with rfl|rfl|h|h|rfl|rfl|rfl
  ·exact .flat rfl
  ·exact pK _
  ·exact j8 x v h
  ·exact j8 y v h
  ·exact .flat rfl
  ·exact .flat rfl
  ·exact .flat rfl
theorem wa:∀(x:Cl) (v:V),v∈clC x->fS v
 |.mk nm l g bd,v,hv=>by
  rw [clC]at hv;simp only [List.mem_cons,List.not_mem_nil,or_false]at hv;rcases hv with rfl|rfl|rfl|rfl
  ·exact pK _
  ·exact .lst (iB l)
  ·exact .lst (qW g)
  ·exact .lst (kT bd)
theorem uN:∀(x:Sm) (v:V),v∈smC x->fS v
 |.mk m x y,v,hv=>by
  rw [smC]at hv;simp only [List.mem_cons,List.mem_append]at hv;rcases hv with rfl|h|h
  ·exact .flat rfl
  ·exact j8 x v h
  ·exact j8 y v h
theorem iB:∀(l:List Ex) (v:V),v∈exL l->fS v
 |[],v,hv=>by rw [exL]at hv;cases hv
 |x ::l,v,hv=>by
  rw [exL,List.mem_append]at hv;exact hv.elim (j8 x v) (iB l v)
theorem qq:∀(l:List Sg) (v:V),v∈sgL l->fS v
 |[],v,hv=>by rw [sgL]at hv;cases hv
 |x ::l,v,hv=>by
  rw [sgL,List.mem_append]at hv;exact hv.elim (uQ x v) (qq l v)
theorem nI:∀(l:List Cl) (v:V),v∈clL l->fS v
 |[],v,hv=>by rw [clL]at hv;cases hv
 |x ::l,v,hv=>by
  rw [clL,List.mem_append]at hv;exact hv.elim (wa x v) (nI l v)
theorem kT:∀(l:List Sm) (v:V),v∈smL l->fS v
 |[],v,hv=>by rw [smL]at hv;cases hv
 |x ::l,v,hv=>by
  rw [smL,List.mem_append]at hv;exact hv.elim (uN x v) (kT l v)
theorem qW:∀(l:List (List Ex)) (v:V),v∈gdL l->fS v
 |[],v,hv=>by rw [gdL]at hv;cases hv
 |x ::l,v,hv=>by
  rw [gdL,List.mem_cons]at hv;rcases hv with rfl|h
  ·exact .lst (iB x)
  ·exact qW l v h
end
theorem cZ(x:Ex):∀v,v∈exO x->fS v:=by rw [<-oE];exact j8 x
theorem fM(x:Sg):∀v,v∈sgO x->fS v:=by rw [<-Bw];exact uQ x
theorem gz(x:Cl):∀v,v∈clO x->fS v:=by rw [<-CY];exact wa x
theorem jT(x:Sm):∀v,v∈smO x->fS v:=by rw [<-Bs];exact uN x
end
section
def En:Type:=Env
def En.ro(E:En):Nat->Option (Array Value):=@Env.ro E
def En.le(E E':En):Prop:=∀b c,E.ro b=some c->E'.ro b=some c
theorem En.le_refl(E:En):E.le E:=λ_ _ h=>h
theorem En.le_trans{a b c:En}(h:a.le b)(k:b.le c):a.le c:=λx y e=>k x y (h x y e)
section
variable {E E':En} {g:G}
mutual
theorem VR.env(hE:E.le E'):∀{v:V} {u:Value},@VR E g v u->@VR E' g v u
 |_,_,@VR.bool E g b=>@VR.bool E' g b
 |_,_,@VR.int E g k n=>@VR.int E' g k n
 |_,_,@VR.str E g s=>@VR.str E' g s
 |_,_,@VR.nilp E g=>@VR.nilp E' g
 |_,_,@VR.ptr E g _ _ _ _ _ h=>@VR.ptr E' g _ _ _ _ _ h
 |_,_,@VR.nils E g=>@VR.nils E' g
 |_,_,@VR.slx E g _ _ _ _ _ _ _ _ h=>@VR.slx E' g _ _ _ _ _ _ _ _ h
 |_,_,@VR.sli E g _ _ _ _ _ _ _ _ _ h hc hl=>@VR.sli E' g _ _ _ _ _ _ _ _ _ h hc hl
 |_,_,@VR.sl0 E g _ _ _ _ _ _ _ _ h hz=>@VR.sl0 E' g _ _ _ _ _ _ _ _ h hz
 |_,_,@VR.slx0 E g _ _ _ _ _ _ _ h=>@VR.slx0 E' g _ _ _ _ _ _ _ h
 |_,_,@VR.nilm E g=>@VR.nilm E' g
 |_,_,@VR.map E g _ _ _ _ h=>@VR.map E' g _ _ _ _ h
 |_,_,@VR.func E g _ _ _ _ _ ha hb=>@VR.func E' g _ _ _ _ _ (VRs.env hE ha) (VRs.env hE hb)
 |_,_,@VR.yld E g _ _ _ _ h=>@VR.yld E' g _ _ _ _ h
 |_,_,@VR.nilf E g=>@VR.nilf E' g
 |_,_,@VR.iface E g _ _ _ h=>@VR.iface E' g _ _ _ (VR.env hE h)
 |_,_,@VR.nili E g=>@VR.nili E' g
 |_,_,@VR.agg E g _ _ h=>@VR.agg E' g _ _ (VRs.env hE h)
 |_,_,@VR.tup E g _ _ h=>@VR.tup E' g _ _ (VRs.env hE h)
 |_,_,@VR.lst E g _ _ _ _ _ _ _ _ hb hx hl h=>@VR.lst E' g _ _ _ _ _ _ _ _ (hE _ _ hb) hx hl (VRs.env hE h)
 |_,_,@VR.lst0 E g _=>@VR.lst0 E' g _
 |_,_,@VR.lstz E g _ _ _=>@VR.lstz E' g _ _ _
 |_,_,@VR.eptr E g _ _ _ _ _ _ hb hx h=>@VR.eptr E' g _ _ _ _ _ _ (hE _ _ hb) hx (VRs.env hE h)
theorem VRs.env(hE:E.le E'):∀{v:List V} {u:List Value},@VRs E g v u->@VRs E' g v u
 |_,_,@VRs.nil E g=>@VRs.nil E' g
 |_,_,@VRs.cons E g _ _ _ _ h t=>@VRs.cons E' g _ _ _ _ (VR.env hE h) (VRs.env hE t)
end
theorem FR.env(hE:E.le E'){m N:Nat}{f:F}{tmps:Array Value}(h:@FR E g m N f tmps):@FR E' g m N f tmps:=
 ⟨h.1,λt v e=>let⟨u,h1,h2⟩:=h.2 t v e;⟨u,h1,h2.env hE⟩⟩
theorem oM.env(hE:E.le E'){es:List (V×V)}{m:List MapEntry}(h:@oM E g es m):@oM E' g es m:=⟨h.1.env hE,h.2.env hE⟩
theorem Cells.env(hE:E.le E'){w:World}{id n:Nat}{cs:Tr V}(h:@Cells E g w id n cs):@Cells E' g w id n cs:=by
 obtain⟨b,o,z,c,t,h1,h2,h3,h4,h5,h6⟩:=h;refine⟨b,o,z,c,t,h1,h2,h3,h4,h5,λj v hj hv=>?_⟩;obtain⟨u,k1,k2,k3⟩:=h6 j v hj hv;exact⟨u,k1,k2.env hE,k3⟩
theorem BR.env(hE:E.le E'){T:Ty}{w:World}{id:Nat}{b:Blk}(h:@BR E T g w id b):@BR E' T g w id b:=by
 cases b with
 |cells=>exact Cells.env hE h
 |ro=>exact Cells.env hE h
 |map es=>obtain⟨b,o,z,m,k,h1,h2,h3,h4⟩:=h;exact⟨b,o,z,m,k,h1,h2,h3.env hE,h4⟩
 |siter=>obtain⟨b,o,z,s,h1,h2⟩:=h;exact⟨b,o,z,s,h1,h2⟩
 |loop=>obtain⟨b,o,z,l,m,N,h1,h2,h3,h4,h5,h6⟩:=h;exact⟨b,o,z,l,m,N,h1,h2,h3,h4,h5.env hE,h6⟩
 |dead=>trivial
 |miter m=>obtain⟨b,z,bm,om,zm,s,sn,l,h1,h2,h3⟩:=h;exact⟨b,z,bm,om,zm,s,sn,l,h1,h2,h3⟩
theorem WR.env(hE:E.le E'){T:Ty}{h:H}{w:World}(r:@WR E T g h w):@WR E' T g h w:=by
 cases r with
 |mk a b c d e f k x=>exact @WR.mk E' T g h w a b c d (λid x b e1 e2=>(e id x b e1 e2).env hE) f k x
end
end
end Ev
end Go.Proofs.YtdfphfdnoobikaaGreatDoor
