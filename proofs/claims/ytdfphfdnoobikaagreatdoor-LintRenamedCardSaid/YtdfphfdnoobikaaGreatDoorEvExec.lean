/-
  Code,as the compiled code has it:the law.
-/
import Derived.Test.YtdfphfdnoobikaaGreatDoorEvDraw3
namespace Go.Proofs.YtdfphfdnoobikaaGreatDoor
namespace Ev
section
variable [Env]
set_option linter.unusedSectionVars false
section
variable {P:Program} {T:Ty} {m N:Nat} {D:List Deferred}
theorem oS.norm_inv{e:Exit}(h:oS .norm e):e= .normal:=by cases e<;>first|rfl|cases h
theorem se(hT:da P T){call:cN}(hk:fA P T call)(hm:P.follows .mixedOrders=true)(n:Nat)(rd:Option Nat):∀(c:Code) (Q:cF),eu T m N c=some Q->∀(f:F) (h:H) (x:X) (f':F) (h':H),exec call rd.isSome n Q f h=some (x,f',h')->
  ∀(g:G) (a:Act) (w:World) (B:Nat),WR T g h w->jg T g h w->FR g m N f a.tmps->(rd=none->eW D g w B a.defers)->B<=w.heap.size->c.wpIn (fen rd) 0 P (Out D T m N rd B g h w x f' h') a w:=by
 intro c
 induction c with
 |skip=>
  intro Q hc f h x f' h' p g a w B r J C I _;rw [eu]at hc;cases hc;cases p;exact wpIn_skip ⟨g,.refl r,C,I,trivial⟩
 |label l=>
  intro Q hc f h x f' h' p g a w B r J C I _;rw [eu]at hc;cases hc;cases p;exact wpIn_label ⟨g,.refl r,C,I,trivial⟩
 |region id ops d=>
  intro Q hc f h x f' h' p g a w B r J C I _;cases d with
  |false=>
   rw [kP]at hc;rcases eA hc with hc|rfl
   case inr=>rw [tI]at p;cases p
   obtain⟨cl,h1,h2⟩:=bQ.1 hc;cases h2;rw [E6]at p;obtain⟨q,h3,Z⟩:=bQ.1 p;cases Z;refine wpIn_region ?_;rw [List.range_eq_range'];have a7:ops.size=ops.toList.length:=by simp
   rw [a7];refine IG hT hk ops.toList 0 cl f q.1 h q.2 g a w (λi _=>by rw [Nat.zero_add,Array.getElem?_toList]) h1 h3 r J C λg' a' w' A L M=>⟨g',A,L.clr,λe=>?_,trivial⟩
   rw [M];exact(I e).ext A
  |true=>
   rw [jr]at hc;rcases eA hc with hc|rfl
   case inr=>rw [tI]at p;cases p
   obtain⟨cl,h1,h2⟩:=bQ.1 hc;obtain⟨l,h3,Z⟩:=bQ.1 h2;cases Z;rw [C6]at p;obtain⟨s,h5,h6⟩:=bQ.1 p;obtain⟨h7,h8⟩:=bW.1 h6;cases h8;refine G7 hT hk hm h1 h3 h5 h7 r J C λg' a' w' A L M=>⟨g',A,L.clr,λe=>?_,trivial⟩
   rw [M];exact(I e).ext A
 |seq c1 c2 ih1 ih2=>
  intro Q hc f h x f' h' p g a w B r J C I O;rw [kO]at hc;obtain⟨E,h1,h2⟩:=bQ.1 hc;obtain⟨a0,h3,Z⟩:=bQ.1 h2;cases Z;rw [E5]at p;refine wpIn_seq ?_;rcases sw p with⟨f1,Y,V,S⟩ | ⟨V,S⟩
  ·refine wpIn_mono (ih1 E h1 f h .norm f1 Y V g a w B r J C I O) ?_
   rintro e a1 w1 ⟨K,A,L,M,W⟩;rw [W.norm_inv];refine wpIn_mono (ih2 a0 h3 f1 Y x f' h' S K a1 w1 B A.wr (J.ext A) L M (Nat.le_trans O A.size)) ?_;rintro e2 a2 w2 ⟨g2,y1,y2,y3,y4⟩;exact⟨g2,A.trans y1,y2,y3,y4⟩
  ·refine wpIn_mono (ih1 E h1 f h x f' h' V g a w B r J C I O) ?_
   rintro e a1 w1 ⟨K,A,L,M,W⟩;cases e with
   |normal=>cases x<;>first|(cases W;done)|exact absurd rfl S
   |_=>exact⟨K,A,L,M,W⟩
 |cond o c1 c2 ih1 ih2=>
  intro Q hc f h x f' h' p g a w B r J C I O;rw [jt]at hc;obtain⟨od,h0,a5⟩:=bQ.1 hc;obtain⟨E,h1,h2⟩:=bQ.1 a5;obtain⟨a0,h3,Z⟩:=bQ.1 h2;cases Z;rw [C8]at p;obtain⟨v,h5,h6⟩:=bQ.1 p;cases v with
  |bool b=>
   have hv:=(sS J h0 h5 λt _ v hv=>C.2 t v hv).bool_inv;refine wpIn_cond hv ?_;cases b with
   |true=>exact ih1 E h1 f h x f' h' h6 g a w B r J C I O
   |false=>exact ih2 a0 h3 f h x f' h' h6 g a w B r J C I O
  |_=>cases h6
 |block id c ih=>
  intro Q hc f h x f' h' p g a w B r J C I O;rw [iO]at hc;obtain⟨E,h1,h2⟩:=bQ.1 hc;cases h2;rw [Ah]at p;obtain⟨x0,f0,h0,V,S⟩:=yO p;cases S;refine wpIn_block (wpIn_mono (ih E h1 f h x0 f' h' V g a w B r J C I O) ?_);rintro e a1 w1 ⟨K,A,L,M,W⟩;cases x0 with
  |norm=>rw [W.norm_inv];exact⟨K,A,L,M,trivial⟩
  |ret=>
   cases e<;>first|(cases W;done)|skip
   exact⟨K,A,L,M,trivial⟩
  |exit j=>
   cases e<;>first|(cases W;done)|skip
   have W:j=_:=W;subst W;show(if j=id then _ else _)
   by_cases e:j=id
   ·rw [if_pos e]
    simp only [e,if_true];exact⟨K,A,L,M,trivial⟩
   ·rw [if_neg e]
    simp only [if_neg e];exact⟨K,A,L,M,rfl⟩
 |loop c ih=>
  intro Q hc f h x f' h' p g a w B r J C I O;rw [js]at hc;obtain⟨E,h1,h2⟩:=bQ.1 hc;cases h2;rw [C7]at p;refine qg (λk a1 w1=>∃f1 h1 K,yc (exec call rd.isSome n E) k f1 h1=some (x,f',h')/\Ext T g h w K h1 w1/\FR K m N f1 a1.tmps/\(rd=none->eW D K w1 B a1.defers)) ?_ (k:=n) ⟨f,h,g,p,.refl r,C,I⟩;rintro k a1 w1 ⟨f1,Y,K,V,A,L,M⟩;cases k with
  |zero=>cases V
  |succ k=>
   rw [zL]at V;rcases sw V with⟨f2,h2',S,k3⟩ | ⟨S,k3⟩
   ·refine wpIn_mono (ih E h1 f1 Y .norm f2 h2' S K a1 w1 B A.wr (J.ext A) L M (Nat.le_trans O A.size)) ?_
    rintro e a2 w2 ⟨g2,y1,y2,y3,y4⟩;rw [y4.norm_inv];exact⟨k,Nat.lt_succ_self k,f2,h2',g2,k3,A.trans y1,y2,y3⟩
   ·refine wpIn_mono (ih E h1 f1 Y x f' h' S K a1 w1 B A.wr (J.ext A) L M (Nat.le_trans O A.size)) ?_
    rintro e a2 w2 ⟨g2,y1,y2,y3,y4⟩;cases e with
    |normal=>cases x<;>first|(cases y4;done)|exact absurd rfl k3
    |_=>exact⟨g2,A.trans y1,y2,y3,y4⟩
 |rangeFunc fo ps as bd ih1 ih2=>
  intro Q hc f h x f' h' p g a w B r J C I O;rw [iN]at hc;obtain⟨od,h0,a5⟩:=bQ.1 hc;obtain⟨b9,a8,b2⟩:=bQ.1 a5;obtain⟨E,h1,h2⟩:=bQ.1 b2;obtain⟨a0,h3,Z⟩:=bQ.1 h2;cases Z;rw [Ag]at p;obtain⟨k0,V⟩:=bW.1 p;have b5:rd=none:=by cases rd with|none=>rfl|some l=>cases k0
  subst b5;obtain⟨gv,S,k3⟩:=bQ.1 V;obtain⟨k4,k5⟩:=bW.1 k3;obtain⟨c0,k6,k7⟩:=bQ.1 k5;obtain⟨q,k8,k9⟩:=bQ.1 k7;obtain⟨st,f2,c6,b7,b8,j,m1,m2⟩:=ll k9;obtain⟨m3,m4⟩:=bW.1 m2;cases m4;have b1:=sS (a:=a) J h0 S λt _ v hv=>C.2 t v hv;have xd:=Ext.alloc r (.deferred (some []));have a4:g h.next=none:=by
   cases e:g h.next with
   |none=>rfl
   |some y=>exact absurd (r.dom _ _ e) (by omega)
  have b4:=fO (g:=g) ((w.alloc (.deferred (some []))).heap.size,0,0) a4;refine wpIn_rangeFunc λfn _=>?_;have b3:=dt (w.alloc (.deferred (some []))) (.loop {state:= .ready,pending:=none,fn,tmps:=a.tmps,params:=ps,assign:=as,body:=bd,defers:=w.heap.size});have xl:=Ext.new (z:=0) xd.wr (o:= .loop {state:= .ready,pending:=none,fn,tmps:=a.tmps,params:=ps,assign:=as,body:=bd,defers:=w.heap.size}) k6 (.inl rfl)
   ⟨_,0,0,_,m,N,cH _ _ _,b3,rfl,rfl,C.mono b4,a8,h1,h3⟩
  have A:=xd.trans xl;have a9:(w.alloc (.deferred (some []))).heap.size=w.heap.size+1:=World.size_alloc _ _;have U:(fp g h.next ((w.alloc (.deferred (some []))).heap.size,0,0)) h.next=some (w.heap.size+1,0,0):=by rw [cH,a9]
  obtain⟨d,c1,fx,b0,c3,c4⟩:=AF hk A.wr (J.ext A) k4 (b1.mono A.le) (VRs.cons (VR.yld U) .nil) k8
  ·refine⟨w.heap.size+1,_,_,d,_,fx,b0,_,run_enterLoop_outer fn a.tmps ps as bd,?_,λ_ _=>trivial,c3 _,kc _,jN (c4.mono ?_)⟩
   ·have:=c1 ((w.alloc (.deferred (some []))).alloc (.loop {state:= .ready,pending:=none,fn,tmps:=a.tmps,params:=ps,assign:=as,body:=bd,defers:=w.heap.size}))
    simpa [resolve,Act.eval]using this
   ·rintro e w' ⟨g',u,rfl,hu,y⟩
    obtain⟨b',o',z',lr,m',N',n1,n2,n3,R,n5,n6,n7,n8⟩:=y.wr.blk h.next _ _ (y.le _ _ U) m1
    rw [y.le _ _ U]at n1;cases n1;have a6:lr.state≠.busy:=by
     intro e;rw [e]at n3;subst n3;cases m3
    have xe:=tG (k':= .dead) (l':={lr with state:= .exhausted}) y.wr (y.le _ _ U) m1 n2 rfl trivial;have xt:=(A.trans y).trans xe;have b6:eW D g' w' B (nw w.heap.size ::a.defers):=by
     refine eW.ext y (eW.push A (I rfl) O (Nat.le_refl _) ?_ (λid o z e=>?_) ?_)
     ·rw [World.size_alloc,World.size_alloc];omega
     ·by_cases hi:id=h.next
      ·subst hi
       rw [U]at e;have:=(Prod.mk.inj (Option.some.inj e)).1;omega
      ·rw [dK _ hi]at e
       have:=r.lt _ _ _ _ e;omega
     ·rw [eQ (by rw [a9];omega)]
      exact dt w _
    refine⟨lr.pending,_,run_endLoop n2 a6,?_⟩;have a3:∀{e:Exit},oS (Option.rec (motive:=λ_=>X) .norm id j) e->Out D T m N none B g h w (Option.rec (motive:=λ_=>X) .norm id j) f (q.2.set h.next .dead) e {a with defers:=nw w.heap.size ::a.defers} (w'.putObj (w.heap.size+1) (.loop {lr with state:= .exhausted})):=λhs=>
     ⟨g',xt,C.mono xt.le,λ_=>b6.ext xe,hs⟩
    split
    ·rename_i hp
     cases j with
     |none=>exact a3 (e:= .normal) trivial
     |some jx=>
      cases jx with
      |norm=>cases R
      |exit k=>rw [hp]at R;cases R
      |ret=>rw [hp]at R;cases R
    ·rename_i c hp
     cases j with
     |none=>rw [hp]at R;cases R
     |some jx=>
      cases jx with
      |norm=>cases R
      |exit k=>
       rw [hp]at R;cases R;exact wpIn_exit (a3 (e:= .exit k) rfl)
      |ret=>
       rw [hp]at R;cases R;exact wpIn_ret (a3 (e:= .ret) trivial)
 |exit id=>
  intro Q hc f h x f' h' p g a w B r J C I _;rw [eu]at hc;cases hc;cases p;exact wpIn_exit ⟨g,.refl r,C,I,rfl⟩
 |ret=>
  intro Q hc f h x f' h' p g a w B r J C I _;rw [eu]at hc;cases hc;cases p;exact wpIn_ret ⟨g,.refl r,C,I,trivial⟩
 |_=>
  intro Q hc f h x f' h' p;rw [eu]at hc<;>first|(cases hc;rw [tI]at p;cases p;done)|(intros;intro hh;cases hh)
end
end
section
variable [Env]
set_option linter.unusedSectionVars false
section
variable {P:Program} {T:Ty} {m N:Nat}
theorem yR{g:G}:∀{ts:List Tmp} {ps:List Dst} {vs:List V} {us:List Value} {f f1:F} {tmps:Array Value},gU (λt=>dst m N (some t)) ts=some ps->VRs g vs us->binds ps vs f=some f1->FR g m N f tmps->
  us.length=ts.length/\FR g m N f1 ((ts.zip us).foldl (λtmps p=>tmps.setIfInBounds p.1 p.2) tmps)
 |[],ps,vs,us,f,f1,tmps,h,hv,hb,hf=>by
  cases h;cases hv with
  |nil=>cases hb;exact⟨rfl,hf⟩
  |cons=>cases hb
 |t ::ts,ps,vs,us,f,f1,tmps,h,hv,hb,hf=>by
  rw [eZ]at h;obtain⟨d,h1,h2⟩:=bQ.1 h;obtain⟨r,h3,h4⟩:=bQ.1 h2;cases h4;cases hv with
  |nil=>cases hb
  |cons hx hxs=>
   rename_i v u vs us
   have hput:=FR.put (a:=⟨tmps,[]⟩) (o:=some t) hf h1 hx;obtain⟨k1,k2⟩:=yR h3 hxs (show binds r vs (d.put f v)=some f1 from hb) hput;exact⟨by simp [k1],k2⟩
theorem y8(b:Nat):Fence.wide.inRound b=fen (some b):=rfl
theorem D4(hT:da P T){call:cN}(hk:fA P T call)(hm:P.follows .mixedOrders=true)(n:Nat){id:Nat}{vs:List V}{h h':H}{v:V}(hr:round call n id vs h=some (v,h')){g:G}{w:World}{us:List Value}(r:WR T g h w)(hG:jg T g h w)(hv:VRs g vs us):B8 P T id us g h w v h':=by
 intro b o z hg;obtain⟨st,f,ps,as,bd,j,e1,M⟩:=ll hr;obtain⟨e3,e4⟩:=bW.1 M;obtain⟨f1,e5,e6⟩:=bQ.1 e4;obtain⟨p,e7,e8⟩:=bQ.1 e6;obtain⟨x1,f2,h1⟩:=p;cases x1 with
 |exit k=>cases e8
 |ret=>cases e8
 |norm=>
  obtain⟨b6,f3,a9,W,a5,j3,e9,a0⟩:=ll (show h1.loopOf id _=some (v,h')from e8);obtain⟨b0,R⟩:=bW.1 a0;obtain⟨q,a4,Q⟩:=bQ.1 R;obtain⟨x2,f4,h2⟩:=q;obtain⟨b4,f5,B,I,C,j5,J,b3⟩:=ll (show h2.loopOf id _=some (v,h')from Q);obtain⟨b5,t⟩:=bW.1 b3;obtain⟨b',o',z',l,m,N,n1,n2,n3,n4,n5,n6,n7,n8⟩:=r.blk id _ _ hg e1;rw [hg]at n1;cases n1;obtain⟨k1,k2⟩:=yR n6 hv e5 n5;have a6:us.toArray.size=l.params.size:=by simpa using k1
  refine⟨l,_,run_yield n2 a6,roundIn_of_wpIn trivial ?_⟩;rw [y8];have a7:(l.params.zip us.toArray).foldl (λtmps x=>tmps.setIfInBounds x.1 x.2) l.tmps=(l.params.toList.zip us).foldl (λtmps p=>tmps.setIfInBounds p.1 p.2) l.tmps:=by
   rw [<-Array.foldl_toList,Array.toList_zip]
  have a3:FR g m N f1 ((l.params.zip us.toArray).foldl (λtmps x=>tmps.setIfInBounds x.1 x.2) l.tmps):=by rw [a7];exact k2
  refine wpIn_mono (se (D:=[]) hT hk hm n (some b) l.assign as n7 f1 h .norm f2 h1 e7 g ⟨_,[]⟩ w 0 r hG a3 (λe=>by cases e) (Nat.zero_le _)) ?_;rintro e a1 w1 ⟨g1,c,y2,_,y4⟩;rw [y4.norm_inv];obtain⟨b1,o1,z1,O,m1,N1,p1,p2,p3,p4,p5,p6,p7,p8⟩:=c.wr.blk id _ _ (c.le _ _ hg) e9;rw [c.le _ _ hg]at p1;cases p1;have i:O.state= .ready:=by
   have:Io O.state=0:=by rw [p3];simpa using b0
   cases hs:O.state<;>rw [hs]at this<;>first|rfl|cases this
  have K:=tG (k':= .loop 1 f3 a9 W a5 j3) (l':={O with state:= .busy}) c.wr (c.le _ _ hg) e9 p2 rfl
   ⟨b,o,z,_,m1,N1,c.le _ _ hg,World.putObj_heap_same (c.wr.lt _ _ _ _ (c.le _ _ hg)),rfl,p4,p5,p6,p7,p8⟩
  refine⟨_,run_beginRound p2 i,?_⟩;refine wpIn_mono (se (D:=[]) hT hk hm n (some b) l.body bd n8 f2 _ x2 f4 h2 a4 g1 a1 _ 0 K.wr ((hG.ext c).ext K) (y2.mono K.le) (λe=>by cases e) (Nat.zero_le _)) ?_;rintro M a2 w2 ⟨g2,F,q2,_,A⟩;have d:=F.le _ _ (K.le _ _ (c.le _ _ hg));obtain⟨b2,o2,z2,l2,m2,N2,s1,s2,s3,s4,s5,s6,s7,s8⟩:=F.wr.blk id _ _ d J;rw [d]at s1;cases s1;have E:=(c.trans K).trans F;have U:=F.wr.lt _ _ _ _ d;have y:∀(a:Option Code) (s:Nat) (L:Option X),s=Io (if a.isNone then .ready else .done)->EH L=some a->v= .bool a.isNone->h'=h2.set id (.loop s f5 B I C L)->
    ∃u w3,(Instr.endRound b a).run P w2= .ok u w3/\uz T g h w v h' (.returned u) w3:=by
   intro a s L Z a8 Y S;have xe:=tG (k':= .loop s f5 B I C L) (l':={l2 with state:=if a.isNone then .ready else .done,pending:=a}) F.wr d J s2 rfl
    ⟨b,o,z,_,m2,N2,d,World.putObj_heap_same U,Z.symm,a8,s5,s6,s7,s8⟩
   refine⟨_,_,run_endRound a s2,g2,_,rfl,?_,?_⟩
   ·rw [Y];exact .bool _
   ·rw [S];exact E.trans xe
  cases x2 with
  |norm=>
   rw [A.norm_inv];cases t;exact y none 0 none rfl rfl rfl rfl
  |exit k=>
   cases M<;>first|(cases A;done)|skip
   have A:k=_:=A;subst A;cases t;exact y (some (.exit k)) 2 (some (.exit k)) rfl rfl rfl rfl
  |ret=>
   cases M<;>first|(cases A;done)|skip
   cases t;exact y (some .ret) 2 (some .ret) rfl rfl rfl rfl
theorem G4{g g':G}{h h':H}{w0 w:World}(x:Ext T g h w0 g' h' w){r:Nat}(o:Obj)(h1:w0.heap.size<=r)(h2:∀id o z,g' id≠some (r,o,z)):Ext T g h w0 g' h' (w.putObj r o):=by
 have c:∀{id b o z},g' id=some (b,o,z)->b≠r:=λhg e=>h2 _ _ _ (e▸hg);have j:WR T g' h' (w.putObj r o):=by
  refine⟨x.wr.bound,x.wr.top,x.wr.dom,λid b o' z e=>by rw [World.putObj_size];exact x.wr.lt _ _ _ _ e,λid y b a d=>?_,x.wr.mates,x.wr.kids,x.wr.ext⟩;obtain⟨m,o',z⟩:=y;exact BR.move a (World.putObj_heap_other (c a)) (x.wr.blk _ _ _ a d)
 refine⟨x.le,x.next,j,x.un,by rw [World.putObj_size];exact x.size,λb k i=>?_,x.fresh,λid b o' z n cs a d=>?_,x.os,x.tape,x.output⟩
 ·rw [World.putObj_heap_other (by omega)]
  exact x.keep b k i
 ·obtain⟨l,f⟩:=x.ro id b o' z n cs a d
  exact⟨l,by rw [World.putObj_heap_other (c (x.le _ _ a))];exact f⟩
theorem vh{fn:Func}{tmps:Array Value}{g g':G}{h h':H}{w0:World}{v:V}:∀{rs:List Nat} {w:World},rs.Nodup->(∀r∈rs,w0.heap.size<=r/\r<w.heap.size/\(∀id o z,g' id≠some (r,o,z))/\w.heap[r]? =some (.deferred (some [])))->
  Ext T g h w0 g' h' w->(∀w,Ext T g h w0 g' h' w->∃u,VR g' v u/\(results fn tmps).run P w= .ok u w)->LeavesInM Fence.wide 0 P fn tmps (uz T g h w0 v h') (rs.map nw) .returning w
 |[],w,_,_,x,hres=>by
  obtain⟨u,h1,h2⟩:=hres w x;exact⟨u,h2,g',u,rfl,h1,x⟩
 |r ::rs,w,hn,hm,x,hres=>by
  rw [List.nodup_cons]at hn;obtain⟨k1,k2,k3,k4⟩:=hm r List.mem_cons_self;refine⟨(λe=>by cases e),.inl ⟨r,_,rfl,run_takeDeferred k4,vh hn.2 (λs hs=>?_) (G4 x _ k1 k3) hres⟩⟩;obtain⟨q1,q2,q3,q4⟩:=hm s (List.mem_cons_of_mem _ hs);have hne:s≠r:=λe=>hn.1 (e▸hs);exact⟨q1,by rw [World.putObj_size];exact q2,q3,by rw [World.putObj_heap_other hne];exact q4⟩
noncomputable def D6(T:Ty)(m:Nat)(r:ResultVar):Option nZ:=match r with
 |.tmp t=>ob (opd T m (.tmp t)) λo=>some (nZ.tmp o)
 |.cell t ty=>ob (opd T m (.tmp t)) λo=>ob (qR T ty) λa=>ob (im T ty) λn=>some (nZ.cell o a n)
noncomputable def JR(f:F)(h:H)(c:nZ):Option V:=match c with
 |.tmp o=>o.ev f
 |.cell o a n=>ob (o.ev f) λv=>(ROp.load a n).run [v] h
def sN(tmps:Array Value)(r:ResultVar):Sem Value:=match r with
 |.tmp t=>pure (tmps.getD t undef)
 |.cell a t=>do loadVar t (<-asAddr (tmps.getD a undef))
theorem Gn(J:da P T){g:G}{f:F}{h:H}{w:World}{tmps:Array Value}{r:ResultVar}{c:nZ}{v:V}(hc:D6 T m r=some c)(l:FR g m N f tmps)(b:JR f h c=some v)(B:WR T g h w)(hE:lF g w):
  ∃u,VR g v u/\(sN tmps r).run P w= .ok u w:=by
 cases r with
 |tmp t=>
  obtain⟨o,h1,h2⟩:=bQ.1 (show ob (opd T m (.tmp t)) (λo=>some (nZ.tmp o))=some c from hc);cases h2;have b:o.ev f=some v:=b;rw [vV h1]at b;obtain⟨u,e,d⟩:=l.2 t v b;exact⟨u,d,by simp [sN,Array.getD_eq_getD_getElem?,e]⟩
 |cell t ty=>
  obtain⟨o,h1,h2⟩:=bQ.1 (show ob (opd T m (.tmp t)) (λo=>ob (qR T ty) λa=>ob (im T ty) λn=>some (nZ.cell o a n))=some c from hc);obtain⟨a,z,E⟩:=bQ.1 h2;obtain⟨n,K,y⟩:=bQ.1 E;cases y;obtain⟨p,e,d⟩:=bQ.1 (show ob (o.ev f) (λv=>(ROp.load a n).run [v] h)=some v from b);rw [vV h1]at e;obtain⟨q,C,k⟩:=l.2 t p e;obtain⟨u,D,I,L⟩:=tp (ρ:=λ_=>q) (x:= .tmp t) J B hE z K (VRs.cons k .nil) d;have A:∃s,q= .pointer (some s):=by
   cases p with
   |ptr i j=>cases k;exact⟨_,rfl⟩
   |eptr cs i=>cases k;exact⟨_,rfl⟩
   |_=>cases a<;>cases d
  obtain⟨s,rfl⟩:=A;refine⟨u,D,?_⟩;simp [sN,Array.getD_eq_getD_getElem?,C,asAddr];exact I
theorem zn(f:F)(h:H)(c:nZ)(l:List nZ):ip f h (c ::l)=ob (JR f h c) λv=>ob (ip f h l) λvs=>some (v ::vs):=by
 cases c<;>rfl
theorem xL(hT:da P T){g:G}{f:F}{h:H}{w:World}{tmps:Array Value}(hf:FR g m N f tmps)(hw:WR T g h w)(hE:lF g w):∀{rs:List ResultVar} {cs:List nZ} {vs:List V},gU (D6 T m) rs=some cs->ip f h cs=some vs->
  ∃us,VRs g vs us/\(rs.mapM (sN tmps)).run P w= .ok us w
 |[],cs,vs,hc,he=>by
  cases hc;cases he;exact⟨[],.nil,by simp⟩
 |r ::rs,cs,vs,hc,he=>by
  rw [eZ]at hc;obtain⟨c,h1,h2⟩:=bQ.1 hc;obtain⟨cs',h3,h4⟩:=bQ.1 h2;cases h4;rw [zn]at he;obtain⟨v,h5,h6⟩:=bQ.1 he;obtain⟨vs',h7,h8⟩:=bQ.1 h6;cases h8;obtain⟨u,k1,k2⟩:=Gn hT h1 hf h5 hw hE;obtain⟨us,k3,k4⟩:=xL hT hf hw hE h3 h7;exact⟨u ::us,.cons k1 k3,by simp [k2,k4]⟩
theorem xT{g:G}{vs:List V}{us:List Value}(h:VRs g vs us):VR g (dq vs) (if h:us.toArray.size=1 then us.toArray[0]else .tuple us.toArray):=by
 cases h with
 |nil=>exact .tup .nil
 |cons hv ht=>
  cases ht with
  |nil=>exact hv
  |cons hv2 ht2=>
   rw [dif_neg (by simp)];exact .tup (.cons hv (.cons hv2 ht2))
theorem sM(j:da P T){g:G}{f:F}{h:H}{w:World}{tmps:Array Value}{fn:Func}(c:FR g m N f tmps)(d:WR T g h w)(hE:lF g w){cs:List nZ}{vs:List V}(hc:gU (D6 T m) fn.results.toList=some cs)(e:ip f h cs=some vs):
  ∃u,VR g (dq vs) u/\(results fn tmps).run P w= .ok u w:=by
 obtain⟨us,i,b⟩:=xL j c d hE hc e;refine⟨_,xT i,?_⟩;have a:results fn tmps=(do let vs <-fn.results.mapM (sN tmps);pure (if h:vs.size=1 then vs[0]else .tuple vs)):=rfl;rw [a,Array.mapM_eq_mapM_toList];simp [b]
theorem ur(v:V)(l:List V)(i:Nat):d8 (v ::l) i=(i,v) ::d8 l (i+1):=rfl
theorem nA:∀(l:List V) (i t:Nat),lk (d8 l i) t=if i<=t then l[t-i]? else none
 |[],i,t=>by
  show none=_;simp
 |v ::l,i,t=>by
  rw [ur,dJ,nA l (i+1) t]
  by_cases h:i=t
  ·subst h
   simp
  ·by_cases h2:i+1<=t
   ·rw [if_neg h,if_pos h2,if_pos (by omega),show t-i=(t-(i+1))+1 by omega,List.getElem?_cons_succ]
   ·rw [if_neg h,if_neg h2,if_neg (by omega)]
theorem Fa(S:da P T){call:cN}(hk:fA P T call)(hm:P.follows .mixedOrders=true)(n:Nat){f:FuncId}{fn:Func}{s:CF}{vs:List V}{h h':H}{v:V}(B:P.funcs[f]? =some fn)(I:ci T fn=some s)(U:enter call n s vs h=some (v,h')){g:G}{w:World}{us:List Value}(r:WR T g h w)(L:jg T g h w)(M:VRs g vs us):
  CallsIn Fence.wide 0 P f us.toArray w (uz T g h w v h'):=by
 obtain⟨c,e1,e2⟩:=bQ.1 (show ob fn.body _=some s from I);obtain⟨e3,e4⟩:=bW.1 e2;obtain⟨cc,O,e6⟩:=bQ.1 e4;obtain⟨d,Q,e8⟩:=bQ.1 e6;cases e8;generalize a2:jQ c (fn.results.toList.foldl (λm r=>match r with | .tmp t=>fk m t | .cell t _=>fk m t) ((List.range (fn.params.size+fn.nfree)).foldl fk 0))=m at O Q;have z:gU (D6 T m) fn.results.toList=some d:=Q;obtain⟨R,k2⟩:=bW.1 (show oif (Nat.beq (cD vs) (fn.params.size+fn.nfree)) _=some (v,h')from U);obtain⟨q,k3,A⟩:=bQ.1 k2;obtain⟨x,f1,h1⟩:=q;rw [cq]at R;have K:=M.length;have a1:vs.length=fn.params.size+fn.nfree:=by simpa using R
 have W:fn.params.size+fn.nfree<=fn.ntmps:=by simpa using e3
 have a0:us.length<=fn.ntmps:=by omega
 have o:∀(f1:F) (h1:H),(∃l,ip f1 h1 d=some l/\v=dq l/\h'=h1)->True:=λ_ _ _=>trivial;clear o;have hF:FR g m fn.ntmps ⟨d8 vs 0,[]⟩ (us.toArray++Array.replicate (fn.ntmps-us.toArray.size) undef):=by
  refine⟨by simp;omega,λt x e=>?_⟩;unfold rdn at e
  split at e
  ·have e:lk (d8 vs 0) t=some x:=e
   rw [nA,if_pos (Nat.zero_le _)]at e;obtain⟨u,b,p⟩:=M.get e;refine⟨u,?_,p⟩;have ht:t<us.length:=by
    rcases Nat.lt_or_ge t us.length with k|k
    ·exact k
    ·rw [List.getElem?_eq_none (by omega)]at b;cases b
   rw [Array.getElem?_append_left (by simpa using ht)]
   simpa using b
  ·cases e
 refine callsIn_of_wp_marks B e1 trivial ?_;have E:=se (D:=[]) S hk hm n none c cc O _ h x f1 h1 k3 g ⟨us.toArray++Array.replicate (fn.ntmps-us.toArray.size) undef,[]⟩ w w.heap.size r L hF (λ_=>.nil) (Nat.le_refl _);refine wpIn_mono E ?_;rintro e J w' ⟨g',Y,y2,Z,N⟩;have a:∀{l:List V},ip f1 h1 d=some l->v=dq l->h'=h1->LeavesInM Fence.wide 0 P fn J.tmps (uz T g h w v h') J.defers .returning w':=by
  intro l hl C y;subst C y;obtain⟨ms,p1,p2,p3⟩:=Z rfl;rw [p1,List.append_nil];exact vh p2 p3 Y λw2 i=>sM S y2 i.wr (L.ext i).env z hl
 cases x with
 |exit j=>cases A
 |norm=>
  obtain⟨l,b,p⟩:=bQ.1 (show ob (ip f1 h1 d) (λl=>some (dq l,h1))=some (v,h')from A);cases p;rw [N.norm_inv];exact a b rfl rfl
 |ret=>
  obtain⟨l,b,p⟩:=bQ.1 (show ob (ip f1 h1 d) (λl=>some (dq l,h1))=some (v,h')from A);cases p;cases e<;>first|(cases N;done)|skip
  exact a b rfl rfl
def wU(P:Program)(T:Ty)(prim:FuncId->Option (List V->H->Option (V×H))):Prop:=
 ∀f p,prim f=some p->∀vs h v h',p vs h=some (v,h')->∀g w us,WR T g h w->jg T g h w->VRs g vs us->nM P T f us g h w v h'
def yY(P:Program)(T:Ty)(tab:FuncId->Option CF):Prop:=
 ∀f cf,tab f=some cf->∃fn,P.funcs[f]? =some fn/\fn.name≠ "runtime.NumGoroutine"/\ci T fn=some cf
theorem uX{α β:Type}{o:Option α}{n:Option β}{s:α->Option β}{r:β}(h:(Option.rec (motive:=λ_=>Option β) n s o:Option β)=some r):(o=none/\n=some r)\/∃a,o=some a/\s a=some r:=by
 cases o with
 |none=>exact .inl ⟨rfl,h⟩
 |some a=>exact .inr ⟨a,rfl,h⟩
theorem tX(l:da P T)(k:P.follows .mixedOrders=true){a:FuncId->Option (List V->H->Option (V×H))}{tab:FuncId->Option CF}(s:wU P T a)(m:yY P T tab):∀n,fA P T (mi a tab n)
 |0=>⟨(λf vs h v h' e=>by cases e),(λid vs h v h' e=>by cases e)⟩
 |n+1=>by
  have ih:=tX l k s m n;have go:∀{f vs h v h'},(ob (tab f) λcf=>enter (mi a tab n) 1000000 cf vs h)=some (v,h')->∀g w us,WR T g h w->jg T g h w->VRs g vs us->nM P T f us g h w v h':=by
   intro f vs h v h' e g w us r b d;obtain⟨cf,i,j⟩:=bQ.1 e;obtain⟨fn,t,u,o⟩:=m f cf i;refine⟨fn,t,u,?_,Fa l ih k 1000000 t o j r b d⟩;obtain⟨c,x,_⟩:=bQ.1 (show ob fn.body _=some cf from o);rw [x];rfl
  refine⟨λf vs h v h' e g w us r b d=>?_,λid vs h v h' e g w us r b d=>?_⟩
  ·have e:(Option.rec (motive:=λ_=>Option (V×H)) (ob (tab f) λcf=>enter (mi a tab n) 1000000 cf vs h)
    (λg=>Option.rec (motive:=λ_=>Option (V×H)) (ob (tab f) λcf=>enter (mi a tab n) 1000000 cf vs h) some (g vs h)) (a f):Option (V×H))=some (v,h'):=e
   rcases uX e with⟨_,i⟩ | ⟨p,i,j⟩
   ·exact go i g w us r b d
   ·rcases uX j with⟨_,e3⟩ | ⟨q,e3,e4⟩
    ·exact go e3 g w us r b d
    ·cases e4
     exact s f p i vs h v h' e3 g w us r b d
  ·have e:round (mi a tab n) 1000000 id vs h=some (v,h'):=e
   exact D4 l ih k 1000000 e r b d
end
end
section
variable [Env]
set_option linter.unusedSectionVars false
def flat(x:V):Bool:=
 match x with
 |.bool _=>true
 |.int _ _=>true
 |.str _ _=>true
 |.nilp=>true
 |.nils=>true
 |.nilm=>true
 |.nilf=>true
 |.nili=>true
 |_=>false
theorem G0{g g':G}{x:V}{u:Value}(a:flat x=true)(h:VR g x u):VR g' x u:=by
 cases h<;>first|(cases a;done)|constructor
theorem yy{x:V}(a:flat x=true):cQ x=true:=by
 cases x<;>first|rfl|cases a
abbrev nog:G:=λ_=>none
noncomputable section
end
noncomputable section
end
def vD(g:G)(h:H):Prop:=(∀id b,h.blk id=some b->b.isRo=true)/\∀id x,g id=some x->∃b,h.blk id=some b
theorem WR.over{T:Ty}{b o z:Nat}{g:G}{h:H}{w:World}(r:WR T g h w)(L:∀i o' z' k,g i=some (b,o',z')->h.blk i=some k->k.live=true->k.isRo=true)(hk:h.next<bZ){c:Array Value}{t:TypeId}{vs:List V}{xs:List Value}
  (O:w.heap[b]? =some (.cells c t (0,0))) (hs:c.size=o+z) (F:VRs g vs xs) (hx:∀j u,xs[j]? =some u->c[o+j]? =some u) (hz:xs.length<=z) (hy:xs.length<=bZ) (h1:∀v,v∈vs->cQ v=true):
  WR T (fp g h.next (b,o,z)) ⟨h.t.put h.next (some (.ro (cD vs) (cM vs 0 .e))),Nat.succ h.next⟩ w/\g.le (fp g h.next (b,o,z))/\(∀j,(⟨h.t.put h.next (some (.ro (cD vs) (cM vs 0 .e))),Nat.succ h.next⟩:H).blk j=if j=h.next then some (.ro (cD vs) (cM vs 0 .e))else h.blk j)/\g h.next=none:=by
 have hn:H.new h (.ro (cD vs) (cM vs 0 .e))=some ⟨h.t.put h.next (some (.ro (cD vs) (cM vs 0 .e))),Nat.succ h.next⟩:=by
  unfold H.new;rw [bW];exact⟨by simpa using hk,rfl⟩
 obtain⟨r1,N,K,P⟩:=r.add hn (.inl rfl);have le:=fO (b,o,z) P;have a:=K;have s:Kin h ⟨h.t.put h.next (some (.ro (cD vs) (cM vs 0 .e))),Nat.succ h.next⟩:=λi D k p q=>by
  have hi:i≠h.next:=λe=>by have:=r.top i _ p;omega
  exact⟨D,by rw [a,if_neg hi];exact p,q⟩
 have f:∀{i:Nat} {x:Nat×Nat×Nat},fp g h.next (b,o,z) i=some x->(i=h.next/\x=(b,o,z))\/(i≠h.next/\g i=some x):=by
  intro i x e
  by_cases h1:i=h.next
  ·subst h1;rw [cH]at e;exact .inl ⟨rfl,(Option.some.inj e).symm⟩
  ·rw [dK _ h1]at e;exact .inr ⟨h1,e⟩
 refine⟨⟨r1.bound,r1.top,λi x e=>?_,λi D o' z' e=>?_,λi x k l m=>?_,λi j D o1 z1 o2 z2 bi bj J l m A M S l2=>?_,λi q j d ch l m=>?_,λi q j d ch q' l m A=>?_⟩,le,a,P⟩
 ·rcases f e with⟨rfl,_⟩ | ⟨_,e⟩
  ·exact Nat.lt_succ_self _
  ·exact Nat.lt_succ_of_lt (r.dom _ _ e)
 ·rcases f e with⟨_,e⟩ | ⟨_,e⟩
  ·cases e;exact(Array.getElem?_eq_some_iff.1 O).1
  ·exact r.lt _ _ _ _ e
 ·rcases f l with⟨rfl,e⟩ | ⟨h2,e⟩
  ·rw [a,if_pos rfl]at m
   cases m;refine⟨b,o,z,c,t,cH _ _ _,O,hs,?_,?_,λj v y hg=>?_⟩
   ·rw [cq,F.length];exact hz
   ·rw [cq,F.length];exact hy
   ·rw [cq]at y
    rw [dz vs 0 .e j (by rw [F.length];omega),if_pos (by omega)]at hg;obtain⟨u,m1,m2⟩:=F.get (i:=j) (by simpa using hg);exact⟨u,hx j u m1,m2.mono le,h1 v (List.mem_of_getElem? (by simpa using hg))⟩
  ·rw [a,if_neg h2]at m
   exact(r.blk i x k e m).mono le
 ·have n:∀{k:Nat} {I:Blk} {ok Y:Nat},fp g h.next (b,o,z) k=some (b,ok,Y)->(⟨h.t.put h.next (some (.ro (cD vs) (cM vs 0 .e))),Nat.succ h.next⟩:H).blk k=some I->I.live=true->I.isRo=true:=by
   intro k I ok Y U B ql;rw [a]at B
   by_cases h2:k=h.next
   ·rw [if_pos h2]at B;cases B;rfl
   ·rw [if_neg h2]at B;rw [dK _ h2]at U;exact L _ _ _ _ U B ql
  by_cases hb:D=b
  ·subst hb
   exact .inr (.inr ⟨n l A S,n m M l2⟩)
  ·rcases f l with⟨rfl,e⟩ | ⟨hi,N⟩
   ·cases e;exact absurd rfl hb
   ·rcases f m with⟨rfl,e⟩ | ⟨y,K⟩
    ·cases e;exact absurd rfl hb
    ·have W:=A
     have R:=M;rw [a,if_neg hi]at W;rw [a,if_neg y]at R;rcases r.mates i j _ _ _ _ _ _ _ J N K W R S l2 with⟨d,u,q⟩ | ⟨d,u,q⟩|q
     ·exact .inl ⟨d,u.kin s,q⟩
     ·exact .inr (.inl ⟨d,u.kin s,q⟩)
     ·exact .inr (.inr q)
 ·rw [a]at l
  by_cases h2:i=h.next
  ·rw [if_pos h2]at l;cases l;cases m
  ·rw [if_neg h2]at l
   obtain⟨C,up,E,Z,Q⟩:=r.kids i q j d ch l m;have y:j≠h.next:=λe=>by have:=r.top j _ E;omega
   refine⟨C,up,by rw [a,if_neg y];exact E,Z,λq=>?_⟩;rw [dK _ h2]at q;rw [dK _ y];exact Q q
 ·rw [a]at l A
  by_cases h2:i=h.next
  ·rw [if_pos h2]at l;cases l;cases m
  ·rw [if_neg h2]at l
   obtain⟨C,up,E,Z,Q⟩:=r.kids i q j d ch l m;have y:j≠h.next:=λe=>by have:=r.top j _ E;omega
   rw [if_neg y]at A;exact r.ext i q j d ch q' l m A
theorem WR.overRo{T:Ty}{b o z:Nat}{g:G}{h:H}{w:World}(r:WR T g h w)(a:vD g h)(l:h.next<bZ){c:Array Value}{t:TypeId}{vs:List V}{xs:List Value}
  (n:w.heap[b]? =some (.cells c t (0,0))) (hs:c.size=o+z) (p:VRs g vs xs) (m:∀j u,xs[j]? =some u->c[o+j]? =some u) (hz:xs.length<=z) (s:xs.length<=bZ) (h1:∀v,v∈vs->cQ v=true):
  WR T (fp g h.next (b,o,z)) ⟨h.t.put h.next (some (.ro (cD vs) (cM vs 0 .e))),Nat.succ h.next⟩ w/\vD (fp g h.next (b,o,z)) ⟨h.t.put h.next (some (.ro (cD vs) (cM vs 0 .e))),Nat.succ h.next⟩/\g.le (fp g h.next (b,o,z)):=by
 obtain⟨f,le,d,_⟩:=r.over (λi _ _ k _ q _=>a.1 i k q) l n hs p m hz s h1;refine⟨f,⟨λid q e=>?_,λid x e=>?_⟩,le⟩
 ·rw [d]at e
  by_cases h2:id=h.next
  ·rw [if_pos h2]at e;cases e;rfl
  ·rw [if_neg h2]at e;exact a.1 id q e
 ·rw [d]
  by_cases h2:id=h.next
  ·rw [if_pos h2];exact⟨_,rfl⟩
  ·rw [if_neg h2];rw [dK _ h2]at e;exact a.2 id x e
theorem WR.empty(T:Ty)(w:World):WR T nog ⟨.e,0⟩ w:=by
 refine⟨Nat.zero_le _,λid b e=>?_,λid x e=>?_,λid b o z e=>?_,λid x b e=>?_,λi j b o z o' a f g _ e=>?_,λi b j d ch e=>?_,λi b j d ch c e=>?_⟩
 ·cases e
 ·cases e
 ·cases e
 ·cases e
 ·cases e
 ·cases e
 ·cases e
theorem vD.empty:vD nog ⟨.e,0⟩:=⟨(λid b e=>by cases e),(λid x e=>by cases e)⟩
structure mV(w w':World):Prop where
 size:w.heap.size<=w'.heap.size
 keep:∀b:Nat,b<w.heap.size->w'.heap[b]? =w.heap[b]?
 os:w'.os=w.os
 tape:w'.tape=w.tape
 output:w'.output=w.output
theorem mV.refl(w:World):mV w w:=⟨Nat.le_refl _,λ_ _=>rfl,rfl,rfl,rfl⟩
theorem mV.trans{a b c:World}(h:mV a b)(k:mV b c):mV a c:=
 ⟨Nat.le_trans h.size k.size,λi hi=>(k.keep i (Nat.lt_of_lt_of_le hi h.size)).trans (h.keep i hi),k.os.trans h.os,k.tape.trans h.tape,k.output.trans h.output⟩
end
section
variable [Env]
set_option linter.unusedSectionVars false
inductive ie:V->Prop
 |flat {v:V} (h:flat v=true):ie v
 |lst {n es:Nat} {cs:List V} (h:∀c,c∈cs->ie c):ie (.lst n es cs)
 |agg {cs:List V} (h:∀c,c∈cs->ie c):ie (.agg cs)
 |tup {cs:List V} (h:∀c,c∈cs->ie c):ie (.tup cs)
theorem iX{g g':G}:∀{l:List V} {us:List Value},(∀v,v∈l->∀u,VR g v u->VR g' v u)->VRs g l us->VRs g' l us
 |[],_,_,.nil=>.nil
 |v ::_,_,k,.cons h t=>.cons (k v List.mem_cons_self _ h) (iX (λx hx=>k x (List.mem_cons_of_mem _ hx)) t)
end
section
variable [Env]
set_option linter.unusedSectionVars false
section
variable {P:Program} {T:Ty} {m N:Nat}
def unX(id:Nat)(x:X):X:=match x with
 |.exit j=>if j=id then .norm else .exit j
 |x=>x
theorem mH:∀{l:AL} {t:Nat} {v:V},lk l t=some v->(t,v)∈l
 |[],_,_,h=>by cases h
 |(a,b) ::l,t,v,h=>by
  have h:(Bool.rec (motive:=λ_=>Option V) (lk l t) (some b) (Nat.beq a t):Option V)=some v:=h;rw [cO]at h
  split at h
  ·rename_i e
   cases h;have:a=t:=by simpa using e
   subst this;exact List.mem_cons_self
  ·exact List.mem_cons_of_mem _ (mH h)
theorem uY{o:Option cF}{c:cF}(h:uZ o=some c)(a:∀x,o=some x->(∃l,x= .reg l)\/∃l,x= .regD l):(∃l,c= .reg l)\/∃l,c= .regD l:=by
 rcases eA h with h|rfl
 ·exact a _ h
 ·exact .inl ⟨_,rfl⟩
theorem yI{id:Nat}{ops:Array Oper}{d:Bool}{a:cF}(h:eu T m N (.region id ops d)=some a):(∃l,a= .reg l)\/∃l,a= .regD l:=by
 cases d with
 |false=>
  rw [kP]at h;exact uY h λx e=>by obtain⟨l,_,e⟩:=bQ.1 e;cases e;exact .inl ⟨_,rfl⟩
 |true=>
  rw [jr]at h;exact uY h λx e=>by obtain⟨l,_,e⟩:=bQ.1 e;obtain⟨l,_,e⟩:=bQ.1 e;cases e;exact .inr ⟨_,rfl⟩
theorem il:∀{c:Code} {e:cF},eu T m N c=some e->match e with
  |.seq a b=>∃c1 c2,c= .seq c1 c2/\eu T m N c1=some a/\eu T m N c2=some b
  |.cond o a b=>∃o' c1 c2,c= .cond o' c1 c2/\opd T m o'=some o/\eu T m N c1=some a/\eu T m N c2=some b
  |.block id a=>∃c1,c= .block id c1/\eu T m N c1=some a
  |.loop a=>∃c1,c= .loop c1/\eu T m N c1=some a
  |_=>True:=by
 intro c e h;cases c with
 |seq a b=>
  rw [kO]at h;obtain⟨x,h1,h⟩:=bQ.1 h;obtain⟨y,h2,h⟩:=bQ.1 h;cases h;exact⟨_,_,rfl,h1,h2⟩
 |cond o a b=>
  rw [jt]at h;obtain⟨z,h0,h⟩:=bQ.1 h;obtain⟨x,h1,h⟩:=bQ.1 h;obtain⟨y,h2,h⟩:=bQ.1 h;cases h;exact⟨_,_,_,rfl,h0,h1,h2⟩
 |block id a=>
  rw [iO]at h;obtain⟨x,h1,h⟩:=bQ.1 h;cases h;exact⟨_,rfl,h1⟩
 |loop a=>
  rw [js]at h;obtain⟨x,h1,h⟩:=bQ.1 h;cases h;exact⟨_,rfl,h1⟩
 |region id ops d=>rcases yI h with⟨l,rfl⟩ | ⟨l,rfl⟩<;>trivial
 |rangeFunc f ps a b=>
  rw [iN]at h;obtain⟨_,_,h⟩:=bQ.1 h;obtain⟨_,_,h⟩:=bQ.1 h;obtain⟨_,_,h⟩:=bQ.1 h;obtain⟨_,_,h⟩:=bQ.1 h;cases h
  trivial
 |_=>(rw [eu]at h<;>first|(intros;contradiction)|(cases h;trivial))
end
end
section
mutual
inductive Ex where
 |mk (kind int:Int) (name text:ByteArray) (items:List Ex) (segs:List Sg) (clauses catches:List Cl) (body after:List Sm) (wait:Bool)
inductive Sg where
 |mk (type:Int) (text:ByteArray) (val size:Ex) (sized signed little:Bool)
inductive Cl where
 |mk (name:ByteArray) (pats:List Ex) (guards:List (List Ex)) (body:List Sm)
inductive Sm where
 |mk (isMatch:Bool) (pat val:Ex)
end
namespace Ex
def kind:Ex->Int | .mk k _ _ _ _ _ _ _ _ _ _=>k
def int:Ex->Int | .mk _ n _ _ _ _ _ _ _ _ _=>n
def name:Ex->ByteArray | .mk _ _ s _ _ _ _ _ _ _ _=>s
def text:Ex->ByteArray | .mk _ _ _ s _ _ _ _ _ _ _=>s
def items:Ex->List Ex | .mk _ _ _ _ l _ _ _ _ _ _=>l
def segs:Ex->List Sg | .mk _ _ _ _ _ l _ _ _ _ _=>l
def clauses:Ex->List Cl | .mk _ _ _ _ _ _ l _ _ _ _=>l
def catches:Ex->List Cl | .mk _ _ _ _ _ _ _ l _ _ _=>l
def body:Ex->List Sm | .mk _ _ _ _ _ _ _ _ l _ _=>l
def after:Ex->List Sm | .mk _ _ _ _ _ _ _ _ _ l _=>l
def wait:Ex->Bool | .mk _ _ _ _ _ _ _ _ _ _ b=>b
end Ex
namespace Sg
def type:Sg->Int | .mk t _ _ _ _ _ _=>t
def text:Sg->ByteArray | .mk _ t _ _ _ _ _=>t
def val:Sg->Ex | .mk _ _ x _ _ _ _=>x
def size:Sg->Ex | .mk _ _ _ x _ _ _=>x
def sized:Sg->Bool | .mk _ _ _ _ b _ _=>b
def signed:Sg->Bool | .mk _ _ _ _ _ b _=>b
def little:Sg->Bool | .mk _ _ _ _ _ _ b=>b
end Sg
namespace Cl
def name:Cl->ByteArray | .mk s _ _ _=>s
def pats:Cl->List Ex | .mk _ l _ _=>l
def guards:Cl->List (List Ex) | .mk _ _ l _=>l
def body:Cl->List Sm | .mk _ _ _ l=>l
end Cl
namespace Sm
def isMatch:Sm->Bool | .mk b _ _=>b
def pat:Sm->Ex | .mk _ x _=>x
def val:Sm->Ex | .mk _ _ x=>x
end Sm
noncomputable section
def sV(s:ByteArray):V:= .str s.size (ck s.data.toList)
mutual
def exC:Ex->List V
 |.mk k n nm tx l g c h bd af wt=>[.int .i64 k,.int .i64 n,sV nm,sV tx,.lst l.length 11 (exL l),.lst g.length 27 (sgL g),.lst c.length 4 (clL c),.lst h.length 4 (clL h),.lst bd.length 23 (smL bd),.lst af.length 23 (smL af),.bool wt]
def sgC:Sg->List V
 |.mk t tx x y a b c=>.int .i64 t ::sV tx ::(exC x++(exC y++[.bool a,.bool b,.bool c]))
def clC:Cl->List V
 |.mk nm l g bd=>[sV nm,.lst l.length 11 (exL l),.lst g.length 1 (gdL g),.lst bd.length 23 (smL bd)]
def smC:Sm->List V
 |.mk m x y=>.bool m ::(exC x++exC y)
def exL:List Ex->List V
 |[]=>[]
 |x ::l=>exC x++exL l
def sgL:List Sg->List V
 |[]=>[]
 |x ::l=>sgC x++sgL l
def clL:List Cl->List V
 |[]=>[]
 |x ::l=>clC x++clL l
def smL:List Sm->List V
 |[]=>[]
 |x ::l=>smC x++smL l
def gdL:List (List Ex)->List V
 |[]=>[]
 |x ::l=>.lst x.length 11 (exL x) ::gdL l
end
def exO(x:Ex):List V:=[.int .i64 x.kind,.int .i64 x.int,sV x.name,sV x.text,.lst x.items.length 11 (exL x.items),.lst x.segs.length 27 (sgL x.segs),.lst x.clauses.length 4 (clL x.clauses),.lst x.catches.length 4 (clL x.catches),.lst x.body.length 23 (smL x.body),.lst x.after.length 23 (smL x.after),.bool x.wait]
def sgO(s:Sg):List V:= .int .i64 s.type ::sV s.text ::(exO s.val++(exO s.size++[.bool s.sized,.bool s.signed,.bool s.little]))
def clO(c:Cl):List V:=[sV c.name,.lst c.pats.length 11 (exL c.pats),.lst c.guards.length 1 (gdL c.guards),.lst c.body.length 23 (smL c.body)]
def smO(s:Sm):List V:= .bool s.isMatch ::(exO s.pat++exO s.val)
theorem qL(x:Ex):exC x=exO x:=by cases x;rw [exC];rfl
theorem DW(s:Sg):sgC s=sgO s:=by cases s;rw [sgC,qL,qL];rfl
theorem Fz(c:Cl):clC c=clO c:=by cases c;rw [clC];rfl
theorem DQ(s:Sm):smC s=smO s:=by cases s;rw [smC,qL,qL];rfl
theorem cV(x:Ex)(l:List Ex):exL (x ::l)=exO x++exL l:=by rw [exL,qL]
theorem fI(x:Sg)(l:List Sg):sgL (x ::l)=sgO x++sgL l:=by rw [sgL,DW]
theorem fj(x:Cl)(l:List Cl):clL (x ::l)=clO x++clL l:=by rw [clL,Fz]
theorem fE(x:Sm)(l:List Sm):smL (x ::l)=smO x++smL l:=by rw [smL,DQ]
theorem BM(x:Ex):(exO x).length=11:=rfl
theorem Ge(x:Sg):(sgO x).length=27:=rfl
theorem Hf(x:Cl):(clO x).length=4:=rfl
theorem Ga(x:Sm):(smO x).length=23:=rfl
theorem Ai:∀(l:List Ex) (i:Nat) (x:Ex),l[i]? =some x->∃a b,exL l=a++(exO x++b)/\a.length=11*i
 |y ::l,0,x,h=>by
  rw [List.getElem?_cons_zero]at h;cases h;exact⟨[],exL l,cV _ _,rfl⟩
 |y ::l,i+1,x,h=>by
  rw [List.getElem?_cons_succ]at h;obtain⟨a,b,e,k⟩:=Ai l i x h;exact⟨exO y++a,b,by rw [cV,e,List.append_assoc],by rw [List.length_append,k,BM];omega⟩
theorem zl:∀(l:List Sg) (i:Nat) (x:Sg),l[i]? =some x->∃a b,sgL l=a++(sgO x++b)/\a.length=27*i
 |y ::l,0,x,h=>by
  rw [List.getElem?_cons_zero]at h;cases h;exact⟨[],sgL l,fI _ _,rfl⟩
 |y ::l,i+1,x,h=>by
  rw [List.getElem?_cons_succ]at h;obtain⟨a,b,e,k⟩:=zl l i x h;exact⟨sgO y++a,b,by rw [fI,e,List.append_assoc],by rw [List.length_append,k,Ge];omega⟩
theorem AA:∀(l:List Cl) (i:Nat) (x:Cl),l[i]? =some x->∃a b,clL l=a++(clO x++b)/\a.length=4*i
 |y ::l,0,x,h=>by
  rw [List.getElem?_cons_zero]at h;cases h;exact⟨[],clL l,fj _ _,rfl⟩
 |y ::l,i+1,x,h=>by
  rw [List.getElem?_cons_succ]at h;obtain⟨a,b,e,k⟩:=AA l i x h;exact⟨clO y++a,b,by rw [fj,e,List.append_assoc],by rw [List.length_append,k,Hf];omega⟩
theorem zi:∀(l:List Sm) (i:Nat) (x:Sm),l[i]? =some x->∃a b,smL l=a++(smO x++b)/\a.length=23*i
 |y ::l,0,x,h=>by
  rw [List.getElem?_cons_zero]at h;cases h;exact⟨[],smL l,fE _ _,rfl⟩
 |y ::l,i+1,x,h=>by
  rw [List.getElem?_cons_succ]at h;obtain⟨a,b,e,k⟩:=zi l i x h;exact⟨smO y++a,b,by rw [fE,e,List.append_assoc],by rw [List.length_append,k,Ga];omega⟩
theorem z6:∀(l:List (List Ex)) (i:Nat) (x:List Ex),l[i]? =some x->∃a b,gdL l=a++(.lst x.length 11 (exL x) ::b)/\a.length=i
 |y ::l,0,x,h=>by
  rw [List.getElem?_cons_zero]at h;cases h;exact⟨[],gdL l,by rw [gdL];rfl,rfl⟩
 |y ::l,i+1,x,h=>by
  rw [List.getElem?_cons_succ]at h;obtain⟨a,b,e,k⟩:=z6 l i x h;exact⟨_ ::a,b,by rw [gdL,e];rfl,by rw [List.length_cons,k]⟩
theorem qN{α:Type}:∀(a b:List α),kN a.length (a++b)=b
 |[],_=>rfl
 |_ ::a,b=>qN a b
theorem qp{α:Type}:∀(a b:List α),iR a.length (a++b)=some a
 |[],_=>rfl
 |x ::a,b=>by
  show ob (iR a.length (a++b)) (λr=>some (x ::r))=some (x ::a);rw [qp a b];rfl
end
end
section
theorem qz{α:Type}(x:α)(l:List α)(j:Nat):ff (x ::l) (j+1)=ff l j:=by
 show(Bool.rec (motive:=λ_=>Option α) (ff l (Nat.sub (j+1) 1)) (some x) (Nat.beq (j+1) 0):Option α)=ff l j;rfl
theorem sW{α:Type}:∀(a b:List α) (j:Nat),ff (a++b) (a.length+j)=ff b j
 |[],b,j=>by rw [List.nil_append,List.length_nil,Nat.zero_add]
 |x ::a,b,j=>by
  rw [List.cons_append,List.length_cons,show a.length+1+j=(a.length+j)+1 by omega,qz];exact sW a b j
theorem qA{α:Type}:∀{a b:List α} {j:Nat} {v:α},ff a j=some v->ff (a++b) j=some v
 |x ::a,b,0,v,h=>h
 |x ::a,b,j+1,v,h=>by
  rw [qz]at h;rw [List.cons_append,qz];exact qA h
theorem EL{i n:Nat}(h:i<n):idx (Int.ofNat i) n=some i:=by
 show oif (Nat.blt i n) (some i)=some i;rw [show Nat.blt i n=true by simp [Nat.blt];omega];rfl
theorem I2{es n i:Nat}{cs:List V}{k:IntKind}(h:i<n):POp.run2 (.ixsl es) (.lst n es cs) (.int k (Int.ofNat i))=some (.eptr cs (Nat.mul i es)):=by
 show oif (Nat.beq es es) (ob (idx (Int.ofNat i) n) λm=>some (V.eptr cs (Nat.mul m es)))=_;rw [EL h,show Nat.beq es es=true by simp];rfl
structure gq(cs:List V)(off:Nat)(x:List V):Prop where
 whole:iR x.length (kN off cs)=some x
 one:∀j v,ff x j=some v->ff cs (off+j)=some v
theorem gq.of{a x b cs:List V}{off:Nat}(e:cs=a++(x++b))(h:a.length=off):gq cs off x:=by
 subst e h;refine⟨by rw [qN,qp],λj v c=>?_⟩;rw [sW];exact qA c
theorem Kt{l:List Ex}{i:Nat}{x:Ex}(h:l[i]? =some x):gq (exL l) (Nat.mul i 11) (exO x):=by
 obtain⟨a,b,e,k⟩:=Ai l i x h;exact .of e (k.trans (Nat.mul_comm 11 i))
theorem JL{l:List Sg}{i:Nat}{x:Sg}(h:l[i]? =some x):gq (sgL l) (Nat.mul i 27) (sgO x):=by
 obtain⟨a,b,e,k⟩:=zl l i x h;exact .of e (k.trans (Nat.mul_comm 27 i))
theorem Kx{l:List Cl}{i:Nat}{x:Cl}(h:l[i]? =some x):gq (clL l) (Nat.mul i 4) (clO x):=by
 obtain⟨a,b,e,k⟩:=AA l i x h;exact .of e (k.trans (Nat.mul_comm 4 i))
theorem JH{l:List Sm}{i:Nat}{x:Sm}(h:l[i]? =some x):gq (smL l) (Nat.mul i 23) (smO x):=by
 obtain⟨a,b,e,k⟩:=zi l i x h;exact .of e (k.trans (Nat.mul_comm 23 i))
theorem Ki{l:List (List Ex)}{i:Nat}{x:List Ex}(h:l[i]? =some x):gq (gdL l) (Nat.mul i 1) [.lst x.length 11 (exL x)]:=by
 obtain⟨a,b,e,k⟩:=z6 l i x h;exact .of e (k.trans (Nat.mul_one i).symm)
theorem gJ{cs x:List V}{off:Nat}(e:gq cs off x)(h:H):ROp.run (.load true x.length) [.eptr cs off] h=some (.agg x):=by
 show ob (iR x.length (kN off cs)) (λl=>some (V.agg l))=some (V.agg x);rw [e.whole];rfl
theorem dY{cs x:List V}{off j n:Nat}{v:V}(e:gq cs off x)(hv:ff x j=some v)(h:H):ROp.run (.load false n) [.eptr cs (off+j)] h=some v:=e.one j v hv
theorem j8{i:Nat}(h:i<9223372036854775807):dA .i64 (Int.add (Int.ofNat i) (Int.ofNat 1))=Int.ofNat (i+1):=by
 show(Bool.rec (motive:=λ_=>Int) (lL .i64 (Nat.mod (i+1) (iL .i64))) (Int.ofNat (i+1)) (Nat.blt (i+1) (jI .i64)):Int)=Int.ofNat (i+1)
 rw [show Nat.blt (i+1) (jI .i64)=true by simp [Nat.blt,jI];omega]
theorem rU(s:ByteArray):ie (sV s):= .flat rfl
mutual
theorem mg:∀(x:Ex) (v:V),v∈exC x->ie v
 |.mk k n nm tx l g c h bd af wt,v,hv=>by
  rw [exC]at hv;simp only [List.mem_cons,List.not_mem_nil,or_false]at hv;rcases hv with rfl|rfl|rfl|rfl|rfl|rfl|rfl|rfl|rfl|rfl|rfl
  ·exact .flat rfl
  ·exact .flat rfl
  ·exact rU _
  ·exact rU _
  ·exact .lst (jb l)
  ·exact .lst (ph g)
  ·exact .lst (kR c)
  ·exact .lst (kR h)
  ·exact .lst (lQ bd)
  ·exact .lst (lQ af)
  ·exact .flat rfl
theorem xD:∀(x:Sg) (v:V),v∈sgC x->ie v
 |.mk t tx x y a b c,v,hv=>by
  rw [sgC]at hv;simp only [List.mem_cons,List.mem_append,List.not_mem_nil,or_false]at hv;rcases hv with rfl|rfl|h|h|rfl|rfl|rfl
  ·exact .flat rfl
  ·exact rU _
  ·exact mg x v h
  ·exact mg y v h
  ·exact .flat rfl
  ·exact .flat rfl
  ·exact .flat rfl
theorem yL:∀(x:Cl) (v:V),v∈clC x->ie v
 |.mk nm l g bd,v,hv=>by
  rw [clC]at hv;simp only [List.mem_cons,List.not_mem_nil,or_false]at hv;rcases hv with rfl|rfl|rfl|rfl
  ·exact rU _
  ·exact .lst (jb l)
  ·exact .lst (pK g)
  ·exact .lst (lQ bd)
theorem xy:∀(x:Sm) (v:V),v∈smC x->ie v
 |.mk m x y,v,hv=>by
  rw [smC]at hv;simp only [List.mem_cons,List.mem_append]at hv;rcases hv with rfl|h|h
  ·exact .flat rfl
  ·exact mg x v h
  ·exact mg y v h
theorem jb:∀(l:List Ex) (v:V),v∈exL l->ie v
 |[],v,hv=>by rw [exL]at hv;cases hv
 |x ::l,v,hv=>by
  rw [exL,List.mem_append]at hv;exact hv.elim (mg x v) (jb l v)
theorem ph:∀(l:List Sg) (v:V),v∈sgL l->ie v
 |[],v,hv=>by rw [sgL]at hv;cases hv
 |x ::l,v,hv=>by
  rw [sgL,List.mem_append]at hv;exact hv.elim (xD x v) (ph l v)
theorem kR:∀(l:List Cl) (v:V),v∈clL l->ie v
 |[],v,hv=>by rw [clL]at hv;cases hv
 |x ::l,v,hv=>by
  rw [clL,List.mem_append]at hv;exact hv.elim (yL x v) (kR l v)
theorem lQ:∀(l:List Sm) (v:V),v∈smL l->ie v
 |[],v,hv=>by rw [smL]at hv;cases hv
 |x ::l,v,hv=>by
  rw [smL,List.mem_append]at hv;exact hv.elim (xy x v) (lQ l v)
theorem pK:∀(l:List (List Ex)) (v:V),v∈gdL l->ie v
 |[],v,hv=>by rw [gdL]at hv;cases hv
 |x ::l,v,hv=>by
  rw [gdL,List.mem_cons]at hv;rcases hv with rfl|h
  ·exact .lst (jb x)
  ·exact pK l v h
end
theorem dQ(x:Ex):∀v,v∈exO x->ie v:=by rw [<-qL];exact mg x
theorem fH(x:Sg):∀v,v∈sgO x->ie v:=by rw [<-DW];exact xD x
theorem hO(x:Cl):∀v,v∈clO x->ie v:=by rw [<-Fz];exact yL x
theorem ko(x:Sm):∀v,v∈smO x->ie v:=by rw [<-DQ];exact xy x
end
section
def En:Type:=Env
def En.ro(E:En):Nat->Option (Array Value):=@Env.ro E
def En.le(E E':En):Prop:=∀b c,E.ro b=some c->E'.ro b=some c
theorem En.le_refl(E:En):E.le E:=λ_ _ h=>h
theorem En.le_trans{a b c:En}(h:a.le b)(k:b.le c):a.le c:=λx y e=>k x y (h x y e)
section
variable {E E':En} {g:G}
mutual
theorem VR.env(hE:E.le E'):∀{v:V} {u:Value},@VR E g v u->@VR E' g v u
 |_,_,@VR.bool E g b=>@VR.bool E' g b
 |_,_,@VR.int E g k n=>@VR.int E' g k n
 |_,_,@VR.str E g s=>@VR.str E' g s
 |_,_,@VR.nilp E g=>@VR.nilp E' g
 |_,_,@VR.ptr E g _ _ _ _ _ h=>@VR.ptr E' g _ _ _ _ _ h
 |_,_,@VR.nils E g=>@VR.nils E' g
 |_,_,@VR.slx E g _ _ _ _ _ _ _ _ h=>@VR.slx E' g _ _ _ _ _ _ _ _ h
 |_,_,@VR.sli E g _ _ _ _ _ _ _ _ _ h hc hl=>@VR.sli E' g _ _ _ _ _ _ _ _ _ h hc hl
 |_,_,@VR.sl0 E g _ _ _ _ _ _ _ _ h hz=>@VR.sl0 E' g _ _ _ _ _ _ _ _ h hz
 |_,_,@VR.slx0 E g _ _ _ _ _ _ _ h=>@VR.slx0 E' g _ _ _ _ _ _ _ h
 |_,_,@VR.nilm E g=>@VR.nilm E' g
 |_,_,@VR.map E g _ _ _ _ h=>@VR.map E' g _ _ _ _ h
 |_,_,@VR.func E g _ _ _ _ _ ha hb=>@VR.func E' g _ _ _ _ _ (VRs.env hE ha) (VRs.env hE hb)
 |_,_,@VR.yld E g _ _ _ _ h=>@VR.yld E' g _ _ _ _ h
 |_,_,@VR.nilf E g=>@VR.nilf E' g
 |_,_,@VR.iface E g _ _ _ h=>@VR.iface E' g _ _ _ (VR.env hE h)
 |_,_,@VR.nili E g=>@VR.nili E' g
 |_,_,@VR.agg E g _ _ h=>@VR.agg E' g _ _ (VRs.env hE h)
 |_,_,@VR.tup E g _ _ h=>@VR.tup E' g _ _ (VRs.env hE h)
 |_,_,@VR.lst E g _ _ _ _ _ _ _ _ hb hx hl h=>@VR.lst E' g _ _ _ _ _ _ _ _ (hE _ _ hb) hx hl (VRs.env hE h)
 |_,_,@VR.lst0 E g _=>@VR.lst0 E' g _
 |_,_,@VR.lstz E g _ _ _=>@VR.lstz E' g _ _ _
 |_,_,@VR.eptr E g _ _ _ _ _ _ hb hx h=>@VR.eptr E' g _ _ _ _ _ _ (hE _ _ hb) hx (VRs.env hE h)
theorem VRs.env(hE:E.le E'):∀{v:List V} {u:List Value},@VRs E g v u->@VRs E' g v u
 |_,_,@VRs.nil E g=>@VRs.nil E' g
 |_,_,@VRs.cons E g _ _ _ _ h t=>@VRs.cons E' g _ _ _ _ (VR.env hE h) (VRs.env hE t)
end
theorem FR.env(hE:E.le E'){m N:Nat}{f:F}{tmps:Array Value}(h:@FR E g m N f tmps):@FR E' g m N f tmps:=
 ⟨h.1,λt v e=>let⟨u,h1,h2⟩:=h.2 t v e;⟨u,h1,h2.env hE⟩⟩
theorem qT.env(hE:E.le E'){es:List (V×V)}{m:List MapEntry}(h:@qT E g es m):@qT E' g es m:=⟨h.1.env hE,h.2.env hE⟩
theorem Cells.env(hE:E.le E'){w:World}{id n:Nat}{cs:Tr V}(h:@Cells E g w id n cs):@Cells E' g w id n cs:=by
 obtain⟨b,o,z,c,t,h1,h2,e,i,p,a⟩:=h;refine⟨b,o,z,c,t,h1,h2,e,i,p,λj v k l=>?_⟩;obtain⟨u,m,d,f⟩:=a j v k l;exact⟨u,m,d.env hE,f⟩
theorem BR.env(hE:E.le E'){T:Ty}{w:World}{id:Nat}{b:Blk}(h:@BR E T g w id b):@BR E' T g w id b:=by
 cases b with
 |cells=>exact Cells.env hE h
 |ro=>exact Cells.env hE h
 |map es=>obtain⟨b,o,z,m,k,h1,h2,a,c⟩:=h;exact⟨b,o,z,m,k,h1,h2,a.env hE,c⟩
 |siter=>obtain⟨b,o,z,s,h1,h2⟩:=h;exact⟨b,o,z,s,h1,h2⟩
 |loop=>obtain⟨b,o,z,l,m,N,h1,h2,a,c,j,d⟩:=h;exact⟨b,o,z,l,m,N,h1,h2,a,c,j.env hE,d⟩
 |dead=>trivial
 |miter m=>obtain⟨b,z,i,e,f,s,sn,l,h1,h2,a⟩:=h;exact⟨b,z,i,e,f,s,sn,l,h1,h2,a⟩
theorem WR.env(hE:E.le E'){T:Ty}{h:H}{w:World}(r:@WR E T g h w):@WR E' T g h w:=by
 cases r with
 |mk a b c d e f k x=>exact @WR.mk E' T g h w a b c d (λid x b j i=>(e id x b j i).env hE) f k x
end
end
end Ev
end Go.Proofs.YtdfphfdnoobikaaGreatDoor
