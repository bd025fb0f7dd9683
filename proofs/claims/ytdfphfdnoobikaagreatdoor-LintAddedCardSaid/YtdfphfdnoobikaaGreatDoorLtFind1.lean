/-
  The finder:its memory;an occurrence of a variable.
-/
import Derived.Test.YtdfphfdnoobikaaGreatDoorLtWalk
namespace Go.Proofs.YtdfphfdnoobikaaGreatDoor
namespace Ev
section
theorem CO{M:Nat->Prop} {f:FuncId} {fn:Func} {cf:CF} {h h':H} {R:V->Prop} (hfn:Tryz.prog.funcs[f]? =some fn) (hnm:fn.name≠ "runtime.NumGoroutine") (hcf:bQ TP fn=some cf) {vs:List V} (hlen:vs.length=cf.params) {loc:AL} (hn:kP vs 0=some loc) (np:∃id,id < h.next/\¬M id/\id≠0) (hle:h.next<=h'.next)
  (k:WC Tryz.prog TP (λid=>id<h.next/\¬M id) ft 1 cf.code loc h (pv cf λv h1=>R v/\h1=h')):∃v,R v/\Con Tryz.prog TP M f vs h v h':=by
 obtain⟨v,h1,c,r,rfl⟩:=ud (R:=λv h1=>R v/\h1=h') hfn hnm hcf hlen hn np (k.mono λx l h1 q=>⟨q.1,by
  obtain⟨l,k1,k2,k3⟩:=q.2;exact⟨l,k1,by rw [k3];exact hle,k2,k3⟩⟩)
 exact⟨v,r,c⟩
theorem cP{M:Nat->Prop} {f:FuncId} {fn:Func} {cf:CF} {h:H} {v:V} {Q:H->Prop} (hfn:Tryz.prog.funcs[f]? =some fn) (hnm:fn.name≠ "runtime.NumGoroutine") (hcf:bQ TP fn=some cf) {vs:List V} (hlen:vs.length=cf.params) {loc:AL} (hn:kP vs 0=some loc) (np:∃id,id < h.next/\¬M id/\id≠0)
  (k:WC Tryz.prog TP (λid=>id<h.next/\¬M id) ft 1 cf.code loc h (pv cf λv1 h1=>h.next<=h1.next/\v1=v/\Q h1)):∃h',Con Tryz.prog TP M f vs h v h'/\Q h':=by
 obtain⟨v1,h1,c,rfl,q⟩:=ud (R:=λv1 h1=>v1=v/\Q h1) hfn hnm hcf hlen hn np k;exact⟨h1,c,q⟩
def B8(v:V):Prop:=∃n c,v= .str n c
def nU(cs:List V):Prop:=∀c,c∈cs->B8 c
noncomputable section
def fr137m(v:V)(n c len i:Nat):AL:=[(0,v),(1,.str n c),(7,.int .i64 (Int.ofNat len)),(8,.int .i64 (Int.ofNat i))]
end
theorem f137m{h:H}{v:V}{cs:List V}(g:GL 1 h v cs)(hs:nU cs)(np:1<h.next)(hl:cs.length<1000000000)(n c:Nat):∃r,(∃k,r= .int .i64 k)/\CN 137 [v,.str n c] h r h:=by
 refine CO (h':=h) (R:=λr=>∃k,r= .int .i64 k) Tryz.func137 (by decide) GK.2 rfl rfl ⟨1,np,λq=>q,by decide⟩ (Nat.le_refl _) ?_;cases g with
 |none0=>
  repeat' (first
   |(refine WLg.mk ?_;first
   |refine aa rfl rfl rfl rfl ?_)|apply ac|refine ae rfl ?_|apply ai|apply ah|apply aj|apply bG.norm|fail)
  refine aw (bU (l:=fr137m .nils n c 0 0) KH) ?_;refine ax 0 (λi x h1=>x=fr137m .nils n c 0 i/\h1=h) ?_ (i:=0) (Nat.zero_le _) ⟨rfl,rfl⟩;rintro i _ _ hi ⟨rfl,rfl⟩;obtain rfl:i=0:=by omega
  repeat' (first
   |(refine WLg.mk ?_;first
   |refine aa rfl rfl rfl rfl ?_)|apply ac|refine ae rfl ?_|apply ai|apply ah|refine aB rfl ?_|apply av|apply ap|apply bG.norm|apply bG.exit|apply OnC.exit|fail)
  exact⟨.inr rfl,_,rfl,⟨_,rfl⟩,rfl⟩
 |@full b m tr up ch cs hb hc hn hl2 at_ lt=>
  rw [Nat.mul_one]at hl2
  repeat' (first
   |(refine WLg.mk ?_;first
   |refine aa rfl rfl rfl rfl ?_)|apply ac|refine ae rfl ?_|apply ai|apply ah|apply aj|apply bG.norm|fail)
  refine aw (bU (l:=fr137m (.sl b 0 m 0 false 1) n c m 0) KH) ?_;refine ax m (λi x h1=>x=fr137m (.sl b 0 m 0 false 1) n c m i/\h1=h) ?_ (i:=0) (Nat.zero_le _) ⟨rfl,rfl⟩;rintro i _ h1 hi ⟨rfl,e⟩;rw [e];clear e h1;have hi2:i<9223372036854775807:=by omega
  cases q:Nat.blt i m with
  |false=>
   repeat' (first
    |(refine WLg.mk ?_;first
    |refine aa rfl rfl rfl rfl ?_)|apply ac|refine ae rfl ?_|apply ai|apply ah|apply aj|apply al|refine ak rfl (λht=>?_) (λht=>?_)|apply av|apply ap|apply bG.norm|apply bG.exit|apply OnC.exit|fail)
   any_goals (first|exact absurd (q.symm.trans (show Nat.blt i m=true by assumption)) (by decide)|skip)
   exact⟨.inr rfl,_,rfl,⟨_,rfl⟩,rfl⟩
  |true=>
   have hlt:=bL q;obtain⟨x,hx⟩:∃x,cs[i]? =some x:=⟨_,List.getElem?_eq_getElem (by omega)⟩
   obtain⟨n2,c2,rfl⟩:=hs x (List.mem_of_getElem? hx);have ix:POp.run (.ixsl 1) [.sl b 0 m 0 false 1,.int .i64 (Int.ofNat i)]=some (.ptr b i):=by
    show oif (Nat.beq 1 1) (ob (oif (Nat.blt i m) (some i)) λk=>some (V.ptr b (Nat.add 0 (Nat.mul k 1))))=_;rw [q];show some (V.ptr b (0+i*1))=_;rw [Nat.zero_add,Nat.mul_one]
   have ld:ROp.run (.load false 1) [.ptr b i] h=some (.str n2 c2):=dw hb (at_ i _ hx) (by omega)
   repeat' (first
    |(refine WLg.mk ?_;first
    |refine aa rfl rfl ix rfl ?_|refine aa rfl rfl rfl rfl ?_|refine ab rfl rfl ld rfl ?_)|apply ac|refine ae rfl ?_|apply ai|apply ah|apply aj|apply al|refine ak rfl (λht=>?_) (λht=>?_)|apply av|apply ap|apply bG.norm|apply bG.ret|apply bG.exit|apply OnC.ret|apply OnC.exit|fail)
   all_goals first
    |exact absurd (q.symm.trans (show Nat.blt i m=false by assumption)) (by decide)|exact⟨.inr rfl,_,rfl,⟨_,rfl⟩,rfl⟩|exact .norm ⟨_,_,bU KH,hlt,rfl,rfl⟩
theorem f113m{h:H}{v:V}{cs:List V}(g:GL 1 h v cs)(hs:nU cs)(np:1<h.next)(hl:cs.length<1000000000)(n c:Nat):∃b,CN 113 [v,.str n c] h (.bool b) h:=by
 obtain⟨r,⟨k,rfl⟩,cc⟩:=f137m g hs np hl n c;obtain⟨v,⟨b,rfl⟩,c⟩:∃r,(∃b,r= .bool b)/\CN 113 [v,.str n c] h r h:=by
  refine CO (h':=h) (R:=λr=>∃b,r= .bool b) Tryz.func113 (by decide) GM.2 rfl rfl ⟨1,np,λq=>q,by decide⟩ (Nat.le_refl _) ?_
  repeat' (first
   |(refine WLg.mk ?_;first
   |refine aa rfl rfl rfl rfl ?_|refine au rfl rfl rfl (cc) (λ_ _ q=>q) .none rfl ?_)|apply ac|refine ae rfl ?_|apply ai|apply ah|apply ap|apply bG.norm|fail)
  exact⟨.inr rfl,_,rfl,⟨_,rfl⟩,rfl⟩
 exact⟨b,c⟩
def yK(es:List (V×V)):Prop:=∀e,e∈es->B8 e.1/\∃b,e.2= .bool b
theorem vO{P:V->Prop}{n c:Nat}:∀{es:List (V×V)},(∀e,e∈es->B8 e.1/\P e.2)->∃r,(∀h,dY h (.one .s) (.str n c) es=some r)/\∀v,r=some v->P v
 |[],_=>⟨none,λ_=>rfl,λv e=>by cases e⟩
 |p ::es,k=>by
  obtain⟨r,q1,q2⟩:=vO (P:=P) (n:=n) (c:=c) (es:=es) λe he=>k e (List.mem_cons_of_mem _ he);obtain⟨⟨m,d,e1⟩,e2⟩:=k p List.mem_cons_self;obtain⟨a,b⟩:=p;subst e1;cases q:cV n c m d with
  |false=>
   refine⟨r,λh=>?_,q2⟩;show ob (some (cV n c m d)) (λb'=>Bool.rec (motive:=λ_=>Option (Option V)) (dY h (.one .s) (.str n c) es) (some (some b)) b')=_;rw [q];exact q1 h
  |true=>
   refine⟨some b,λh=>?_,λv e=>by cases e;exact e2⟩;show ob (some (cV n c m d)) (λb'=>Bool.rec (motive:=λ_=>Option (Option V)) (dY h (.one .s) (.str n c) es) (some (some b)) b')=_;rw [q];rfl
theorem yJ{es:List (V×V)}(k:yK es)(n c:Nat):∃b,∀(h:H) (id:Nat) (o:Bool),h.blk id=some (.map es o)->ROp.run (.lookup (.one .s) false (.bool false)) [.map id,.str n c] h=some (.bool b):=by
 obtain⟨r,q1,q2⟩:=vO (P:=λv=>∃b,v= .bool b) (n:=n) (c:=c) k;have key:∀(h:H) (id:Nat) (o:Bool),h.blk id=some (.map es o)->ROp.run (.lookup (.one .s) false (.bool false)) [.map id,.str n c] h=some (gU false (.bool false) r):=λh id o e=>by
  show oif true (ob (ob (h.blk id) _) _)=_;rw [e];show ob (dY h (.one .s) (.str n c) es) _=_;rw [q1];rfl
 cases r with
 |none=>exact⟨false,key⟩
 |some v=>
  obtain⟨b,rfl⟩:=q2 v rfl;exact⟨b,key⟩
structure Scp(sc:V):Prop where
 px:bP sc
 out:∃g caps,sc= .func (.func g) [] caps/\∀n c,∃b,CP g (.str n c ::caps) (.bool b)
structure FsI(es:List (V×V))(h:H):Prop where
 map:yK es
 b0:h.blk 0=some (.ro 256 dN)
 b1:∃o,h.blk 1=some (.map es o)
 b2:∃tr v cs,h.blk 2=some (.cells 2 tr none false)/\tr.get 0=some (.map 1)/\tr.get 1=some v/\GL 1 h v cs/\nU cs/\cs.length<=h.next
 le:2<h.next
structure kO(h:H)(id:Nat)(v:V):Prop where
 lo:2<id
 hi:id<h.next
 out:∃tr,h.blk id=some (.cells 1 tr none false)/\tr.get 0=some v
 fn:∃f a b,v= .func f a b
structure Kb(h h':H):Prop where
 le:h.next<=h'.next
 bx:∀id v,kO h id v->kO h' id v
theorem Kb.refl(h:H):Kb h h:=⟨Nat.le_refl _,λ_ _ k=>k⟩
theorem Kb.trans{a b c:H}(x:Kb a b)(y:Kb b c):Kb a c:=⟨Nat.le_trans x.le y.le,λid v k=>y.bx id v (x.bx id v k)⟩
theorem FsI.add{es:List (V×V)}{h:H}(s:FsI es h)(hk:h.next<900000000){v:V}{tr:Tr V}{cs:List V}(e2:h.blk 2=some (.cells 2 tr none false))(t0:tr.get 0=some (.map 1))(g:GL 1 h v cs)(hs:nU cs)(hl:cs.length<=h.next)(n c:Nat):
  ∃v' h1 h2,EOp.run (.append 1 16 none) [v,.lst 1 1 [.str n c]] h=some (v',h1)/\EOp.run (.store 1) [.ptr 2 1,v'] h1=some (cG,h2)/\FsI es h2/\Kb h h2/\h2.next=h.next+1:=by
 have hkeys:900000002<bR:=by unfold bR;omega
 obtain⟨v',h1,e,g',en,fr⟩:=g.append (bytes:=16) (m:=1) (xs:=[.str n c]) (by decide) rfl rfl (by omega) (by simp only [List.length_singleton];omega) (λk hk=>by omega) (by decide);obtain⟨zs,hz⟩:∃zs,zs=cs++[V.str n c]:=⟨_,rfl⟩
 rw [<-hz]at g';have hb:∀b m,v= .sl b 0 m 0 false 1->∃tr up,h.blk b=some (.cells m tr up false)/\∃n c,tr.get 0=some (.str n c):=λb m q=>by
  subst q;cases g with
  |full hb hc hn hl2 at_ lt=>
   subst hc;rw [Nat.mul_one]at hb hl2;obtain⟨x,hx⟩:∃x,cs[0]? =some x:=⟨_,List.getElem?_eq_getElem (by omega)⟩
   obtain⟨n2,c2,rfl⟩:=hs x (List.mem_of_getElem? hx);exact⟨_,_,hb,n2,c2,at_ 0 _ hx⟩
 have f2:h1.blk 2=some (.cells 2 tr none false):=by
  rw [fr 2 s.le (λb m q k=>?_)]
  ·exact e2
  ·subst k
   obtain⟨tr2,up,q1,n2,c2,q2⟩:=hb 2 m q;rw [e2]at q1;cases q1;rw [t0]at q2;cases q2
 have ow:cellsOf v'=[v']/\cE v'=true:=by cases g'<;>exact⟨rfl,rfl⟩
 have w:=lB (j:=1) f2 ow.1 ow.2 (by decide);refine⟨v',h1,_,e,w,⟨s.map,?_,?_,⟨tr.put 1 (some v'),v',zs,?_,?_,?_,?_,?_,?_⟩,?_⟩,⟨?_,λid x k=>?_⟩,en⟩
 ·rw [fy (by omega),if_neg (by decide),fr 0 (by have:=s.le;omega) (λb m q k=>?_)]
  ·exact s.b0
  ·subst k
   obtain⟨tr2,up,q1,_⟩:=hb 0 m q;rw [s.b0]at q1;cases q1
 ·obtain⟨o,e1⟩:=s.b1
  refine⟨o,?_⟩;rw [fy (by omega),if_neg (by decide),fr 1 (by have:=s.le;omega) (λb m q k=>?_)]
  ·exact e1
  ·subst k
   obtain⟨tr2,up,q1,_⟩:=hb 1 m q;rw [e1]at q1;cases q1
 ·rw [fy (by omega),if_pos rfl]
 ·rw [Tr.get_put _ _ _ _ (by omega),if_neg (by decide)]
  exact t0
 ·rw [Tr.get_put _ _ _ _ (by omega),if_pos rfl]
 ·cases g' with
  |none0=>exact .none0
  |full hb2 hc hn hl2 at_ lt=>
   rename_i b2 n2 tr2 up2 ch2
   refine .full (tr:=tr2) (up:=up2) (ch:=ch2) ?_ hc hn hl2 at_ lt;rw [fy (by omega),if_neg (λk=>?_)]
   ·exact hb2
   ·subst k
    rw [f2,Nat.mul_one]at hb2;cases hb2;obtain⟨x,hx⟩:∃x,zs[0]? =some x:=⟨_,List.getElem?_eq_getElem (by omega)⟩
    have q:=at_ 0 x hx;rw [t0]at q;cases q;have:=List.mem_of_getElem? hx;rw [hz]at this;rcases List.mem_append.1 this with m|m
    ·obtain⟨_,_,q⟩:=hs _ m
     cases q
    ·cases List.mem_singleton.1 m
 ·intro x hx
  rw [hz]at hx;rcases List.mem_append.1 hx with m|m
  ·exact hs x m
  ·exact⟨_,_,List.mem_singleton.1 m⟩
 ·show zs.length<=h1.next
  rw [hz,List.length_append,en];simp only [List.length_singleton];omega
 ·show 2<h1.next
  have:=s.le;omega
 ·show h.next<=h1.next
  omega
 ·obtain⟨lo,hi,⟨tr3,q1,q2⟩,f,a,b,rfl⟩:=k
  refine⟨lo,by show id<h1.next;omega,⟨tr3,?_,q2⟩,f,a,b,rfl⟩;rw [fy (by omega),if_neg (by omega),fr id hi (λb' m q k=>?_)]
  ·exact q1
  ·subst k
   obtain⟨tr4,up,p1,n4,c4,p2⟩:=hb id m q;rw [q1]at p1;cases p1;rw [q2]at p2;cases p2
theorem f184{es:List (V×V)}{h:H}(s:FsI es h)(hk:h.next<900000000){sc:V}(hsc:Scp sc)(n c:Nat):∃h',CN 184 [.ptr 2 0,.str n c,sc] h (.tup []) h'/\(FsI es h'/\Kb h h'/\h'.next<=h.next+1):=by
 obtain⟨px,g,caps,rfl,cs⟩:=hsc;obtain⟨bs,cs⟩:=cs n c;obtain⟨o,e1⟩:=s.b1;obtain⟨tr,v,zs,e2,t0,t1,gl,hs,hl⟩:=s.b2;obtain⟨bl,lk⟩:=yJ s.map n c;have lk:=lk h 1 o e1;have l0:ROp.run (.load false 1) [.ptr 2 0] h=some (.map 1):=dw e2 t0 (by decide);have l1:ROp.run (.load false 1) [.ptr 2 1] h=some v:=dw e2 t1 (by decide);obtain⟨bc,c113⟩:=f113m gl hs (by have:=s.le;omega) (by omega) n c;obtain⟨v',h1,h2,a1,w1,s2,k2,n2⟩:=s.add hk e2 t0 gl hs hl n c;refine cP Tryz.func184 (by decide) Hn.2 rfl rfl ⟨1,by have:=s.le;omega,λq=>q,by decide⟩ ?_
 repeat' (first
  |(refine WLg.mk ?_;first
  |refine aa rfl rfl rfl rfl ?_|refine ab rfl rfl lk rfl ?_|refine ab rfl rfl l0 rfl ?_|refine ab rfl rfl l1 rfl ?_|refine aP rfl rfl rfl rfl rfl rfl PB rfl ?_|refine aq rfl rfl rfl (cs) rfl ?_|refine au rfl rfl rfl (c113) (λ_ _ q=>q) .none rfl ?_|refine aE rfl rfl a1 rfl ?_|refine aE rfl rfl w1 rfl ?_)|apply ac|refine ae rfl ?_|refine ay rfl rfl ?_|refine az rfl (λht=>?_) (λht=>?_)|apply ai|apply ah|apply al|refine aB rfl ?_|refine ak rfl (λht=>?_) (λht=>?_)|apply bG.norm|fail)
 all_goals first
  |exact⟨.inl rfl,_,rfl,Nat.le_refl _,rfl,s,.refl h,Nat.le_succ _⟩|exact⟨.inl rfl,_,rfl,k2.le,rfl,s2,k2,Nat.le_of_eq n2⟩
end
section
theorem zg{f:FuncId} {fn:Func} {cf:CF} (hfn:Tryz.prog.funcs[f]? =some fn) (hnm:fn.name≠ "runtime.NumGoroutine") (hcf:bQ TP fn=some cf) {vs:List V} (hlen:vs.length=cf.params) (hvs:∀v,v∈vs->bP v) {loc:AL} (hn:kP vs 0=some loc)
  (k:WC Tryz.prog TP Kp ft 1 cf.code loc H0 (Db cf isB)):∃b,CP f vs (.bool b):=by
 obtain⟨v,c,b,rfl⟩:=dz hfn hnm hcf hlen hvs hn k;exact⟨b,c⟩
theorem f167(n c:Nat):∃b,CP 167 [.str n c] (.bool b):=by
 refine zg Tryz.func167 (by decide) Hz.2 rfl (bO (.flat rfl) px0) rfl ?_
 repeat' (first
  |(refine WLg.mk ?_;first
  |refine aa rfl rfl rfl rfl ?_)|apply ac|refine ae rfl ?_|apply ai|apply ah|apply ap|apply bG.norm|exact⟨.inr rfl,_,rfl,.flat rfl,_,rfl⟩|fail)
theorem Hd:Scp (.func (.func 167) [] []):=⟨pxF 167,167,[],rfl,λn c=>f167 n c⟩
noncomputable def GA(sc:V)(n c:Nat):V:= .func (.func 183) [] [.eptr [.str n c] 0,.eptr [sc] 0]
theorem Fz{sc:V}(h:Scp sc)(n c:Nat):Scp (GA sc n c):=by
 obtain⟨px,g,caps,rfl,cs⟩:=h;have p1:bP (.eptr [.str n c] 0):= .eptr (bO (.flat rfl) px0);have p2:bP (.eptr [.func (.func g) [] caps] 0):= .eptr (bO px px0);refine⟨.func px0 (bO p1 (bO p2 px0)),183,_,rfl,λm d=>?_⟩;obtain⟨b,c2⟩:=cs m d;refine zg Tryz.func183 (by decide) Ho.2 rfl (bO (.flat rfl) (bO p1 (bO p2 px0))) rfl ?_
 repeat' (first
  |(refine WLg.mk ?_;first
  |refine aa rfl rfl rfl rfl ?_|refine ab rfl rfl rfl rfl ?_|refine aq rfl rfl rfl (c2) rfl ?_)|apply ac|refine ae rfl ?_|refine ay rfl rfl ?_|refine az rfl (λht=>?_) (λht=>?_)|apply ai|apply ah|apply ap|apply bG.norm|exact⟨.inr rfl,_,rfl,.flat rfl,_,rfl⟩|fail)
theorem f173{sc:V}(h:Scp sc)(n c:Nat):CP 173 [sc,.str n c] (GA sc n c):=by
 have hw:=(Fz h n c).px;obtain⟨px,g,caps,rfl,cs⟩:=h;refine cS Tryz.func173 (by decide) Hv.2 rfl (bO px (bO (.flat rfl) px0)) rfl ?_
 repeat' (first
  |(refine WLg.mk ?_;first
  |refine aa rfl rfl rfl rfl ?_|refine aA rfl rfl RA rfl PB rfl ?_)|apply ac|refine ae rfl ?_|apply ai|apply ah|apply ap|apply bG.norm|fail)
 exact⟨.inr rfl,_,rfl,hw,rfl⟩
theorem qP{C:Ex->H->Bool->H->Prop}{Inv:H->Prop}:∀(L:List Ex),(∀y,y∈L->∀h,Inv h->h.next+4*bH (exO y)<900000000->∃h',C y h true h'/\Inv h'/\h'.next<=h.next+4*bH (exO y))->∀h,Inv h->h.next+4*bH (exL L)<900000000->∃h',Rk C L h true h'/\Inv h'/\h'.next<=h.next+4*bH (exL L)
 |[],_,h,i,_=>⟨h,.nil,i,Nat.le_add_right _ _⟩
 |y ::L,k,h,i,hb=>by
  rw [cK,cj]at hb ⊢;obtain⟨h1,c,i1,n1⟩:=k y List.mem_cons_self h i (by omega);obtain⟨h2,r,i2,n2⟩:=qP L (λz hz=>k z (List.mem_cons_of_mem _ hz)) h1 i1 (by omega);exact⟨h2,.go c r,i2,by omega⟩
structure Fd(es:List (V×V))(h h':H)(n:Nat):Prop where
 fs:FsI es h'
 kb:Kb h h'
 nx:h'.next<=h.next+n
def SZ(es:List (V×V))(s:Nat):Prop:=∀x,bH (exO x)<s->∀h sc,FsI es h->Scp sc->h.next+4*bH (exO x)<900000000->∃h',CN 177 [.ptr 2 0,.agg (exO x),sc] h (.tup []) h'/\Fd es h h' (4*bH (exO x))
theorem cW{n:Nat}(h:n<900000000):Nat.blt n bR=true:=ltb (by unfold bR;omega)
theorem f185{es:List (V×V)}{s:Nat}(Z:SZ es s){y:Ex}(hy:bH (exO y)<s){h:H}{sc:V}(fs:FsI es h)(hsc:Scp sc)(hb:h.next+4*bH (exO y)<900000000):∃h',CE 185 [.eptr [.ptr 2 0] 0,.eptr [sc] 0] y h true h'/\Fd es h h' (4*bH (exO y)):=by
 obtain⟨h',c,f⟩:=Z y hy h sc fs hsc hb;refine⟨h',⟨?_,f.kb.le,cW (by have:=f.nx;omega)⟩,f⟩;obtain⟨px,g,caps,rfl,cs⟩:=hsc;refine eN Tryz.func185 (by decide) Hm.2 rfl rfl (by have:=fs.le;omega) f.kb.le ?_
 repeat' (first
  |(refine WLg.mk ?_;first
  |refine aa rfl rfl rfl rfl ?_|refine ab rfl rfl (show ROp.run (.load true 11) [.eptr (exO y) 0] _=some (.agg (exO y))from rfl) rfl ?_|refine ab rfl rfl rfl rfl ?_|refine aA rfl rfl RA rfl PB rfl ?_|refine au rfl rfl rfl (c) (λ_ _ q=>q) .none rfl ?_)|apply ac|refine ae rfl ?_|apply ai|apply ah|apply ap|apply bG.norm|fail)
 exact⟨.inr rfl,_,rfl,rfl,rfl⟩
theorem cR{h:H}(k:2<h.next):∃id,id<h.next/\¬noM id/\id≠0:=⟨1,by omega,λq=>q,by decide⟩
theorem wM{es:List (V×V)}{s:Nat}(hs:s<=6000000)(Z:SZ es s):SZ es (s+1):=by
 intro x hx h sc fs hsc hb;have hk:=jg x;have hsz:=iK x;have np:=cR fs.le;have hx6:bH (exO x)<=6000000:=by omega
 have run:∀h1,FsI es h1->Kb h h1->h1.next<=h.next+1->∃h',CN 63 [.agg (exO x),.func (.func 185) [] [.eptr [.ptr 2 0] 0,.eptr [sc] 0]] h1 (.bool true) h'/\Fd es h h' (4*bH (exO x)):=by
  intro h1 fs1 k1 n1;obtain⟨h',r,⟨i1,i2⟩,n2⟩:=qP (C:=CE 185 [.eptr [.ptr 2 0] 0,.eptr [sc] 0]) (Inv:=λh'=>FsI es h'/\Kb h h') (dt x) (λy hy h2 i hb2=>by
   obtain⟨h',c,f⟩:=f185 Z (by have:=fp hy;omega) i.1 hsc hb2;exact⟨h',c,⟨f.fs,i.2.trans f.kb⟩,f.nx⟩) h1 ⟨fs1,k1⟩ (by omega)
  exact⟨h',f63 hx6 (by have:=fs1.le;omega) (cW (by omega)) (eQ (λv hv=>by cases hv) λv hv=>by
   rcases List.mem_cons.1 hv with rfl|hv
   ·exact fh (lj (eI λq=>by have:=fs1.le;omega))
   ·rw [List.mem_singleton.1 hv]
    exact fh (lj hsc.px.free)) r,i1,i2,by omega⟩
 obtain⟨h1,c1,s1,k1,n1⟩:=f184 fs (by omega) hsc x.name.size (bT x.name.data.toList);obtain⟨ha,ca,fa⟩:=run h fs (.refl h) (by omega);obtain⟨hb',cb,fb⟩:=run h1 s1 k1 n1;obtain⟨px,g,caps,rfl,cs⟩:=hsc;have bx:dg (λid=>id=h.next) (.ptr 2 0):=eI λq=>by have:=fs.le;omega
 refine cP Tryz.func177 (by decide) Hr.2 rfl rfl np ?_
 repeat' (first
  |(refine WLg.mk ?_;first
  |refine aa rfl rfl rfl rfl ?_|refine ab rfl rfl rfl rfl ?_|refine aN rfl rfl rfl rfl bx rfl ?_|refine aA rfl rfl RA rfl PB rfl ?_|refine au rfl rfl rfl (c1) (λ_ _ q=>q) .none rfl ?_|refine au rfl rfl rfl (ca) (λ_ _ q=>q) .none rfl ?_|refine au rfl rfl rfl (cb) (λ_ _ q=>q) .none rfl ?_)|apply ac|refine ae rfl ?_|apply ai|apply ah|apply al|refine ak rfl (λht=>?_) (λht=>?_)|apply bG.norm|fail)
 all_goals first
  |exact⟨.inl rfl,_,rfl,fb.kb.le,rfl,fb⟩|exact⟨.inl rfl,_,rfl,fa.kb.le,rfl,fa⟩
theorem nV(es:List (V×V)):∀s,s<=6000001->SZ es s
 |0,_=>λx hx=>by omega
 |s+1,hs=>wM (by omega) (nV es s (by omega))
end
section
noncomputable abbrev fnV(g:FuncId)(caps:List V):V:= .func (.func g) [] caps
structure VC(Inv:H->Prop)(go:FuncId)(co:List V)(gs:FuncId)(cz:List V):Prop where
 occ:∀h n c,Inv h->h.next+1<900000000->∃h',CN go (.str n c ::co) h (.tup []) h'/\Inv h'/\h.next<=h'.next/\h'.next<=h.next+1
 siz:∀y,bH (exO y)<=6000000->∀h,Inv h->h.next+4*bH (exO y)<900000000->∃h',CN gs (.agg (exO y) ::cz) h (.tup []) h'/\Inv h'/\h.next<=h'.next/\h'.next<=h.next+4*bH (exO y)
 fo:∀h,Inv h->dg (λid=>id=h.next) (fnV go co)
 fz:∀h,Inv h->dg (λid=>id=h.next) (fnV gs cz)
 np:∀h,Inv h->2<h.next
def VRn(Inv:H->Prop)(go:FuncId)(co:List V)(gs:FuncId)(cz:List V)(s:Nat):Prop:=∀x,bH (exO x)<s->∀h,Inv h->h.next+4*bH (exO x)<900000000->∃h',CN 171 [.agg (exO x),fnV go co,fnV gs cz] h (.tup []) h'/\Inv h'/\h.next<=h'.next/\h'.next<=h.next+4*bH (exO x)
noncomputable section
def um(go:FuncId)(co:List V)(gs:FuncId)(cz:List V):List V:=[.eptr [fnV go co] 0,.eptr [fnV gs cz] 0]
def fr171(go:FuncId)(co:List V)(gs:FuncId)(cz:List V)(x:Ex)(i:Nat):AL:=[(3,.eptr (exO x) 0),(4,.eptr [fnV go co] 0),(5,.eptr [fnV gs cz] 0),(22,.lst x.segs.length 27 (sgL x.segs)),(23,.int .i64 (Int.ofNat x.segs.length)),(24,.int .i64 (Int.ofNat i))]
end
section
variable {Inv:H->Prop} {go:FuncId} {co:List V} {gs:FuncId} {cz:List V}
theorem f182(vc:VC Inv go co gs cz){s:Nat}(R:VRn Inv go co gs cz s){y:Ex}(hy:bH (exO y)<s){h:H}(i:Inv h)(hb:h.next+4*bH (exO y)<900000000):∃h',CE 182 (um go co gs cz) y h true h'/\Inv h'/\h'.next<=h.next+4*bH (exO y):=by
 obtain⟨h',c,i',le,nx⟩:=R y hy h i hb;refine⟨h',⟨?_,le,cW (by omega)⟩,i',nx⟩;refine eN Tryz.func182 (by decide) Hp.2 rfl rfl (by have:=vc.np h i;omega) le ?_
 repeat' (first
  |(refine WLg.mk ?_;first
  |refine aa rfl rfl rfl rfl ?_|refine ab rfl rfl (show ROp.run (.load true 11) [.eptr (exO y) 0] _=some (.agg (exO y))from rfl) rfl ?_|refine ab rfl rfl rfl rfl ?_|refine aA rfl rfl RA rfl PB rfl ?_|refine au rfl rfl rfl (c) (λ_ _ q=>q) .none rfl ?_)|apply ac|refine ae rfl ?_|apply ai|apply ah|apply ap|apply bG.norm|fail)
 exact⟨.inr rfl,_,rfl,rfl,rfl⟩
set_option maxHeartbeats 400000 in
theorem zH(vc:VC Inv go co gs cz){s:Nat}(hs:s<=6000000)(R:VRn Inv go co gs cz s):VRn Inv go co gs cz (s+1):=by
 intro x hx h i0 hb;have hk:=jg x;have hsz:=dM x;have hx6:bH (exO x)<=6000000:=by omega
 have h2:=vc.np h i0;have np:=cR h2;have fo:=vc.fo h i0;have fz:=vc.fz h i0;obtain⟨h1,c1,i1,le1,nx1⟩:=vc.occ h x.name.size (bT x.name.data.toList) i0 (by omega);obtain⟨h3,c3,i3,le3,nx3⟩:∃h',CN 63 [.agg (exO x),fnV 182 (um go co gs cz)] h (.bool true) h'/\Inv h'/\h.next<=h'.next/\h'.next<=h.next+4*bH (exO x):=by
  obtain⟨h',r,i',n2⟩:=qP (C:=CE 182 (um go co gs cz)) (Inv:=Inv) (dt x) (λy hy h2 i hb2=>f182 vc R (by have:=fp hy;omega) i hb2) h i0 (by omega);have g:=r.gr (λy h b h' c=>c.gr) (cW (by omega));exact⟨h',f63 hx6 (by omega) (cW (by omega)) (eQ (λv hv=>by cases hv) λv hv=>by
   rcases List.mem_cons.1 hv with rfl|hv
   ·exact fh (lj fo)
   ·rw [List.mem_singleton.1 hv]
    exact fh (lj fz)) r,i',g.le,by omega⟩
 have hn:=iR x.segs;refine cP Tryz.func171 (by decide) Hx.2 rfl rfl np ?_
 repeat' (first
  |(refine WLg.mk ?_;first
  |refine aa rfl rfl rfl rfl ?_|refine ab rfl rfl rfl rfl ?_|refine aN rfl rfl rfl rfl fo rfl ?_|refine aN rfl rfl rfl rfl fz rfl ?_|refine aA rfl rfl RA rfl PB rfl ?_|refine au rfl rfl rfl (c1) (λ_ _ q=>q) .none rfl ?_|refine au rfl rfl rfl (c3) (λ_ _ q=>q) .none rfl ?_)|apply ac|refine ae rfl ?_|apply ai|apply ah|apply aj|refine ak rfl (λht=>?_) (λht=>?_)|apply bG.norm|fail)
 ·exact⟨.inl rfl,_,rfl,le1,rfl,i1,le1,by omega⟩
 ·refine aw (bU (l:=fr171 go co gs cz x 0) KH) ?_
  refine ax x.segs.length (λk l h1=>l=fr171 go co gs cz x k/\Inv h1/\h.next<=h1.next/\h1.next<=h.next+4*bH (sgL (x.segs.take k))) ?_ (i:=0) (Nat.zero_le _) ⟨rfl,i0,Nat.le_refl _,Nat.le_add_right _ _⟩;clear c1 c3 i1 i3;rintro k _ ha hk2 ⟨rfl,ia,lea,nxa⟩;have hi2:k<9223372036854775807:=by omega
  have hka:ha.next<900000000:=by have:=mO x.segs k;omega
  cases q:Nat.blt k x.segs.length with
  |false=>
   have hke:k=x.segs.length:=by have:=ce q;omega
   repeat' (first
    |(refine WLg.mk ?_;first
    |refine aa rfl rfl rfl rfl ?_|refine aa rfl rfl (bN Hy) rfl ?_)|apply ac|refine ae rfl ?_|apply ai|apply ah|apply aj|apply al|refine ak rfl (λht=>?_) (λht=>?_)|apply av|apply bG.norm|apply bG.exit|apply OnC.exit|fail)
   any_goals (first|exact absurd (q.symm.trans (show Nat.blt k x.segs.length=true by assumption)) (by decide)|skip)
   rw [hke,List.take_length]at nxa;exact⟨.inl rfl,_,rfl,lea,rfl,ia,lea,by omega⟩
  |true=>
   have hlt:=bL q;have hpre:=qp hlt;have hle:=mO x.segs (k+1);have hss:=kU (ck x.segs k);obtain⟨hv,cv,iv,lev,nxv⟩:=R (ck x.segs k).val (by omega) ha ia (by omega);obtain⟨hw,cw,iw,lew,nxw⟩:=vc.siz (ck x.segs k).size (by omega) hv iv (by omega);obtain⟨hu,cu,iu,leu,nxu⟩:=vc.siz (ck x.segs k).size (by omega) ha ia (by omega);have psg:∀c,c∈sgO (ck x.segs k)->bP c:=λc hc=>(fM _ c hc).x
   repeat' (first
    |(refine WLg.mk ?_;first
    |refine aa rfl rfl rfl rfl ?_|refine aa rfl rfl (bN Hy) rfl ?_|refine ab rfl rfl (show ROp.run (.load true 11) [.eptr (sgO (ck x.segs k)) 2] _=some (.agg (exO (ck x.segs k).val))from rfl) rfl ?_|refine ab rfl rfl (show ROp.run (.load true 11) [.eptr (sgO (ck x.segs k)) 13] _=some (.agg (exO (ck x.segs k).size))from rfl) rfl ?_|refine ab rfl rfl rfl rfl ?_|refine ab rfl rfl (gh Hy) rfl ?_|refine aC rfl rfl (cW hka) rfl rfl rfl rfl rfl rfl rfl rfl psg rfl rfl ?_|refine au rfl rfl rfl (cv) (λ_ _ q=>q) .none rfl ?_|refine au rfl rfl rfl (cw) (λ_ _ q=>q) .none rfl ?_|refine au rfl rfl rfl (cu) (λ_ _ q=>q) .none rfl ?_)|apply ac|refine ae rfl ?_|apply ai|apply ah|apply aj|apply al|refine ak rfl (λht=>?_) (λht=>?_)|apply av|apply bG.norm|apply bG.exit|apply OnC.exit|fail)
   all_goals first
    |exact .norm ⟨_,_,bU KH,hlt,rfl,iw,by omega,by omega⟩|exact .norm ⟨_,_,bU KH,hlt,rfl,iv,by omega,by omega⟩|exact .norm ⟨_,_,bU KH,hlt,rfl,iu,by omega,by omega⟩|exact .norm ⟨_,_,bU KH,hlt,rfl,ia,by omega,by omega⟩|exact absurd (q.symm.trans (show Nat.blt k x.segs.length=false by assumption)) (by decide)
 ·exact⟨.inl rfl,_,rfl,le3,rfl,i3,le3,nx3⟩
theorem mH(vc:VC Inv go co gs cz):∀s,s<=6000001->VRn Inv go co gs cz s
 |0,_=>λx hx=>by omega
 |s+1,hs=>zH vc (by omega) (mH vc s (by omega))
end
end
section
theorem GL.mono{es:Nat}{h h':H}{v:V}{cs:List V}(g:GL es h v cs)(hle:h.next<=h'.next)(hb:∀b n,v= .sl b 0 n 0 false es->b<h.next->h'.blk b=h.blk b):GL es h' v cs:=by
 cases g with
 |none0=>exact .none0
 |full hb2 hc hn hl at_ lt=>exact .full (by rw [hb _ _ rfl lt];exact hb2) hc hn hl at_ (Nat.lt_of_lt_of_le lt hle)
theorem FsI.ext{es:List (V×V)}{h h':H}(s:FsI es h)(hle:h.next<=h'.next)(e:∀j,j<h.next->h'.blk j=h.blk j):FsI es h':=by
 obtain⟨o,e1⟩:=s.b1;obtain⟨tr,v,cs,e2,t0,t1,gl,hs,hl⟩:=s.b2;have le:=s.le;exact⟨s.map,by rw [e 0 (by omega)];exact s.b0,⟨o,by rw [e 1 (by omega)];exact e1⟩,⟨tr,v,cs,by rw [e 2 le];exact e2,t0,t1,gl.mono hle λb n _ lt=>e b lt,hs,Nat.le_trans hl hle⟩,Nat.lt_of_lt_of_le le hle⟩
theorem kO.ext{h h':H}{id:Nat}{v:V}(k:kO h id v)(hle:h.next<=h'.next)(e:h'.blk id=h.blk id):kO h' id v:=by
 obtain⟨tr,q1,q2⟩:=k.out;exact⟨k.lo,Nat.lt_of_lt_of_le k.hi hle,⟨tr,by rw [e];exact q1,q2⟩,k.fn⟩
theorem kO.ld{h:H}{id:Nat}{v:V}(k:kO h id v):ROp.run (.load false 1) [.ptr id 0] h=some v:=by
 obtain⟨tr,q1,q2⟩:=k.out;exact dw q1 q2 (by decide)
theorem Scp.fn{sc:V}(h:Scp sc):∃f a b,sc= .func f a b:=by
 obtain⟨_,g,caps,rfl,_⟩:=h;exact⟨_,_,_,rfl⟩
structure IvK(es:List (V×V))(h0:H)(k:Nat)(h:H):Prop where
 fs:FsI es h
 kb:∀id v,kO h0 id v->kO h id v
 lek:h0.next<=k
 bx:∃sc,Scp sc/\kO h k sc
theorem IvK.lt{es:List (V×V)}{h0 h:H}{k:Nat}(i:IvK es h0 k h):2<k/\k<h.next:=by
 obtain⟨sc,_,b⟩:=i.bx;exact⟨b.lo,b.hi⟩
theorem IvK.new{es:List (V×V)}{h h':H}{sc:V}(s:FsI es h)(hsc:Scp sc)(hn:h'.next=h.next+1)(e:∀j,j<h.next->h'.blk j=h.blk j){tr:Tr V}(hb:h'.blk h.next=some (.cells 1 tr none false))(ht:tr.get 0=some sc):IvK es h h.next h':=
 ⟨s.ext (by omega) e,λid v k=>k.ext (by omega) (e id k.hi),Nat.le_refl _,sc,hsc,⟨s.le,by omega,⟨tr,hb,ht⟩,hsc.fn⟩⟩
theorem IvK.call{es:List (V×V)}{h0 h h':H}{k:Nat}(i:IvK es h0 k h)(fs:FsI es h')(kb:Kb h h'):IvK es h0 k h':=by
 obtain⟨sc,h1,h2⟩:=i.bx;exact⟨fs,λid v q=>kb.bx id v (i.kb id v q),i.lek,sc,h1,kb.bx _ _ h2⟩
theorem IvK.set{es:List (V×V)}{h0 h:H}{k:Nat}(i:IvK es h0 k h)(hk:h.next<900000000){sc:V}(hsc:Scp sc):∃h',EOp.run (.store 1) [.ptr k 0,sc] h=some (cG,h')/\IvK es h0 k h'/\h'.next=h.next:=by
 have hkeys:900000002<bR:=by unfold bR;omega
 obtain⟨sc0,_,lo,hi,⟨tr,q1,q2⟩,f,a,b,rfl⟩:=i.bx;have hw:cellsOf sc=[sc]/\cE sc=true:=by
  obtain⟨f,a,b,rfl⟩:=hsc.fn;exact⟨rfl,rfl⟩
 have bl:∀j,(⟨h.t.put k (some (.cells 1 (tr.put 0 (some sc)) none false)),h.next⟩:H).blk j=if j=k then some (.cells 1 (tr.put 0 (some sc)) none false)else h.blk j:=λj=>fy (by omega)
 obtain⟨o,e1⟩:=i.fs.b1;obtain⟨t2,v,cs,e2,t0,t1,gl,hs,hl⟩:=i.fs.b2;have ne:∀j,j≠k->(⟨h.t.put k (some (.cells 1 (tr.put 0 (some sc)) none false)),h.next⟩:H).blk j=h.blk j:=λj hj=>by rw [bl,if_neg hj]
 have bk:∀id v,id≠k->kO h id v->kO ⟨h.t.put k (some (.cells 1 (tr.put 0 (some sc)) none false)),h.next⟩ id v:=λid v hj q=>q.ext (Nat.le_refl _) (ne id hj);refine⟨_,lB q1 hw.1 hw.2 (by decide),⟨⟨i.fs.map,?_,⟨o,?_⟩,⟨t2,v,cs,?_,t0,t1,?_,hs,hl⟩,i.fs.le⟩,λid v q=>bk id v (λe=>?_) (i.kb id v q),i.lek,sc,hsc,lo,hi,⟨_,by rw [bl,if_pos rfl],by rw [Tr.get_put _ _ _ _ (by omega),if_pos rfl]⟩,hsc.fn⟩,rfl⟩
 ·rw [ne 0 (by omega)];exact i.fs.b0
 ·rw [ne 1 (by omega)];exact e1
 ·rw [ne 2 (by omega)];exact e2
 ·refine gl.mono (Nat.le_refl _) λb n e lt=>ne b λq=>?_
  subst q;subst e;cases gl with
  |full hb hc hn hl2 at_ lt=>
   rw [Nat.mul_one]at hb hl2;rw [q1]at hb;cases hb;obtain⟨x,hx⟩:∃x,cs[0]? =some x:=⟨_,List.getElem?_eq_getElem (by omega)⟩
   have:=at_ 0 x hx;rw [q2]at this;cases this;obtain⟨n2,c2,q⟩:=hs _ (List.mem_of_getElem? hx);cases q
 ·have:=q.hi
  have:=i.lek;omega
noncomputable abbrev fB:V:= .eptr [.ptr 2 0] 0
theorem f208{es:List (V×V)}{h0 h:H}{k:Nat}(i:IvK es h0 k h)(hk:h.next<900000000)(n c:Nat):∃h',CN 208 [.str n c,.ptr k 0,fB] h (.tup []) h'/\IvK es h0 k h'/\h.next<=h'.next/\h'.next<=h.next+1:=by
 obtain⟨sc,hsc,bx⟩:=i.bx;have lb:=bx.ld;obtain⟨h1,c1,s1,k1,n1⟩:=f184 i.fs hk hsc n c;have i1:=i.call s1 k1;obtain⟨h2,w2,i2,n2⟩:=i.set hk (Fz hsc n c);have c2:=f173 hsc n c;obtain⟨o,e1⟩:=i.fs.b1;obtain⟨tr,v,zs,e2,t0,t1,gl,hs,hl⟩:=i.fs.b2;obtain⟨bl,lk⟩:=yJ i.fs.map n c;have lk:=lk h 1 o e1;have l0:ROp.run (.load false 1) [.ptr 2 0] h=some (.map 1):=dw e2 t0 (by decide);have np:=cR i.fs.le;obtain⟨px,g,caps,rfl,cs⟩:=hsc;obtain⟨bs,cs⟩:=cs n c;refine cP Tryz.func208 (by decide) Hg.2 rfl rfl np ?_
 repeat' (first
  |(refine WLg.mk ?_;first
  |refine aa rfl rfl rfl rfl ?_|refine ab rfl rfl lk rfl ?_|refine ab rfl rfl lb rfl ?_|refine ab rfl rfl l0 rfl ?_|refine ab rfl rfl rfl rfl ?_|refine aq rfl rfl rfl (cs) rfl ?_|refine aq rfl rfl rfl (c2) rfl ?_|refine au rfl rfl rfl (c1) (λ_ _ q=>q) .none rfl ?_|refine aE rfl rfl w2 rfl ?_)|apply ac|refine ae rfl ?_|apply ai|apply ah|apply aj|apply al|refine ak rfl (λht=>?_) (λht=>?_)|apply bG.norm|fail)
 all_goals first
  |exact⟨.inl rfl,_,rfl,Nat.le_refl _,rfl,i,Nat.le_refl _,Nat.le_succ _⟩|exact⟨.inl rfl,_,rfl,k1.le,rfl,i1,k1.le,n1⟩|exact⟨.inl rfl,_,rfl,Nat.le_of_eq n2.symm,rfl,i2,Nat.le_of_eq n2.symm,by omega⟩
theorem f209{es:List (V×V)}{h0 h:H}{k:Nat}(i:IvK es h0 k h){y:Ex}(hy:bH (exO y)<=6000000)(hk:h.next+4*bH (exO y)<900000000):∃h',CN 209 [.agg (exO y),fB,.ptr k 0] h (.tup []) h'/\IvK es h0 k h'/\h.next<=h'.next/\h'.next<=h.next+4*bH (exO y):=by
 obtain⟨sc,hsc,bx⟩:=i.bx;have lb:=bx.ld;obtain⟨h1,c1,f⟩:=nV es 6000001 (Nat.le_refl _) y (by omega) h sc i.fs hsc hk;have i1:=i.call f.fs f.kb;have np:=cR i.fs.le;refine cP Tryz.func209 (by decide) Hf.2 rfl rfl np ?_
 repeat' (first
  |(refine WLg.mk ?_;first
  |refine ab rfl rfl lb rfl ?_|refine ab rfl rfl (show ROp.run (.load true 11) [.eptr (exO y) 0] _=some (.agg (exO y))from rfl) rfl ?_|refine ab rfl rfl rfl rfl ?_|refine aA rfl rfl RA rfl PB rfl ?_|refine au rfl rfl rfl (c1) (λ_ _ q=>q) .none rfl ?_)|apply ac|refine ae rfl ?_|apply ai|apply ah|apply bG.norm|fail)
 exact⟨.inl rfl,_,rfl,f.kb.le,rfl,i1,f.kb.le,f.nx⟩
theorem f176{es:List (V×V)}{h0 h:H}{k:Nat}(i:IvK es h0 k h){y:Ex}(hy:bH (exO y)<=6000000)(hk:h.next+4*bH (exO y)<900000000):∃h',CN 176 [.agg (exO y),fB,.ptr k 0] h (.tup []) h'/\IvK es h0 k h'/\h.next<=h'.next/\h'.next<=h.next+4*bH (exO y):=by
 obtain⟨sc,hsc,bx⟩:=i.bx;have lb:=bx.ld;obtain⟨h1,c1,f⟩:=nV es 6000001 (Nat.le_refl _) y (by omega) h sc i.fs hsc hk;have i1:=i.call f.fs f.kb;have np:=cR i.fs.le;refine cP Tryz.func176 (by decide) Hs.2 rfl rfl np ?_
 repeat' (first
  |(refine WLg.mk ?_;first
  |refine ab rfl rfl lb rfl ?_|refine ab rfl rfl (show ROp.run (.load true 11) [.eptr (exO y) 0] _=some (.agg (exO y))from rfl) rfl ?_|refine ab rfl rfl rfl rfl ?_|refine aA rfl rfl RA rfl PB rfl ?_|refine au rfl rfl rfl (c1) (λ_ _ q=>q) .none rfl ?_)|apply ac|refine ae rfl ?_|apply ai|apply ah|apply bG.norm|fail)
 exact⟨.inl rfl,_,rfl,f.kb.le,rfl,i1,f.kb.le,f.nx⟩
theorem f172{es:List (V×V)}{h0 h:H}{k:Nat}(i:IvK es h0 k h)(hk:h.next<900000000)(n c:Nat):∃h',CN 172 [.str n c,.ptr k 0] h (.tup []) h'/\IvK es h0 k h'/\h.next<=h'.next/\h'.next<=h.next+1:=by
 obtain⟨sc,hsc,bx⟩:=i.bx;have lb:=bx.ld;obtain⟨h2,w2,i2,n2⟩:=i.set hk (Fz hsc n c);have c2:=f173 hsc n c;have np:=cR i.fs.le;refine cP Tryz.func172 (by decide) Hw.2 rfl rfl np ?_
 repeat' (first
  |(refine WLg.mk ?_;first
  |refine aa rfl rfl rfl rfl ?_|refine ab rfl rfl lb rfl ?_|refine aq rfl rfl rfl (c2) rfl ?_|refine aE rfl rfl w2 rfl ?_)|apply ac|refine ae rfl ?_|apply ah|fail)
 exact⟨.inl rfl,_,rfl,Nat.le_of_eq n2.symm,rfl,i2,Nat.le_of_eq n2.symm,by omega⟩
theorem f174{h:H}(y:Ex)(np:2<h.next):CN 174 [.agg (exO y)] h (.tup []) h:=by
 obtain⟨h',c,rfl⟩:∃h',CN 174 [.agg (exO y)] h (.tup []) h'/\h'=h:=by
  refine cP Tryz.func174 (by decide) Hu.2 rfl rfl (cR np) ?_
  repeat' (first
   |(refine WLg.mk ?_;first
   |refine aA rfl rfl RA rfl PB rfl ?_)|apply ac|refine ae rfl ?_|apply ah|fail)
  exact⟨.inl rfl,_,rfl,Nat.le_refl _,rfl,rfl⟩
 exact c
theorem f175{h:H}(n c:Nat)(np:2<h.next):CN 175 [.str n c] h (.tup []) h:=by
 obtain⟨h',c,rfl⟩:∃h',CN 175 [.str n c] h (.tup []) h'/\h'=h:=by
  refine cP Tryz.func175 (by decide) Ht.2 rfl rfl (cR np) ?_
  repeat' (first
   |apply al|fail)
  exact⟨.inl rfl,_,rfl,Nat.le_refl _,rfl,rfl⟩
 exact c
section
variable {es:List (V×V)} {h0 h:H} {k:Nat}
theorem DZ(i:IvK es h0 k h):dg (λid=>id=h.next) (.ptr k 0):=eI λq=>by have:=i.lt;omega
theorem F7(i:IvK es h0 k h):dg (λid=>id=h.next) fB:=fh (lj (eI λq=>by have:=i.lt;omega))
theorem pA{M:Nat->Prop}:∀v,v∈([]:List V)->dg M v:=λv hv=>by cases hv
theorem rm{M:Nat->Prop}{v:V}{l:List V}(h:dg M v)(k:∀v,v∈l->dg M v):∀u,u∈v ::l->dg M u:=λu hu=>by
 rcases List.mem_cons.1 hu with rfl|hu
 ·exact h
 ·exact k u hu
theorem vcA:VC (IvK es h0 k) 208 [.ptr k 0,fB] 209 [fB,.ptr k 0]:=
 ⟨λ_ n c i hb=>f208 i (by omega) n c,λy hy _ i hb=>f209 i hy hb,λ_ i=>eQ pA (rm (DZ i) (rm (F7 i) pA)),λ_ i=>eQ pA (rm (F7 i) (rm (DZ i) pA)),λ_ i=>i.fs.le⟩
theorem vcB:VC (IvK es h0 k) 172 [.ptr k 0] 174 []:=
 ⟨λ_ n c i hb=>f172 i (by omega) n c,λy _ h i _=>⟨h,f174 y i.fs.le,i,Nat.le_refl _,Nat.le_add_right _ _⟩,λ_ i=>eQ pA (rm (DZ i) pA),λ_ _=>eQ pA pA,λ_ i=>i.fs.le⟩
theorem vcC:VC (IvK es h0 k) 175 [] 176 [fB,.ptr k 0]:=
 ⟨λh n c i _=>⟨h,f175 n c i.fs.le,i,Nat.le_refl _,Nat.le_succ _⟩,λy hy _ i hb=>f176 i hy hb,λ_ _=>eQ pA pA,λ_ i=>eQ pA (rm (F7 i) (rm (DZ i) pA)),λ_ i=>i.fs.le⟩
end
end
section
theorem Fd.refl{es:List (V×V)}{h:H}(s:FsI es h):Fd es h h 0:=⟨s,.refl h,Nat.le_refl _⟩
theorem Fd.trans{es:List (V×V)}{a b c:H}{n m:Nat}(x:Fd es a b n)(y:Fd es b c m):Fd es a c (n+m):=⟨y.fs,x.kb.trans y.kb,by have:=x.nx;have:=y.nx;omega⟩
theorem Fd.up{es:List (V×V)}{a b:H}{n m:Nat}(x:Fd es a b n)(h:n<=m):Fd es a b m:=⟨x.fs,x.kb,Nat.le_trans x.nx (Nat.add_le_add_left h _)⟩
theorem eu(l:List Ex)(i:Nat):bH (exL (l.take i))<=bH (exL l):=iQ (by rw [exL]) cK l i
def SE(es:List (V×V))(s:Nat):Prop:=∀x,bH (exO x)<s->∀h sc,FsI es h->Scp sc->h.next+12*bH (exO x)<900000000->∃h',CN 186 [.ptr 2 0,.agg (exO x),sc] h (.tup []) h'/\Fd es h h' (12*bH (exO x))
noncomputable def bxB(v:V):Blk:= .cells 1 (cq [v] 0 .e) none false
theorem f201{es:List (V×V)}{h:H}(fs:FsI es h){sc:V}(hsc:Scp sc){x:Ex}(hx:bH (exO x)<=6000000)(hb:h.next+4*bH (exO x)+1<900000000):∃sc' h',Scp sc'/\CN 201 [.ptr 2 0,.agg (exO x),sc] h sc' h'/\Fd es h h' (4*bH (exO x)+1):=by
 have hsc':=hsc;obtain⟨px,g,caps,rfl,cs⟩:=hsc';have hkeys:900000002<bR:=by unfold bR;omega
 have hkn:h.next<900000000:=by omega
 have np:=cR fs.le;have i1:IvK es h h.next ⟨h.t.put h.next (some (bxB (fnV g caps))),Nat.succ h.next⟩:=by
  refine IvK.new (tr:=cq [fnV g caps] 0 .e) fs hsc rfl (λj hj=>?_) ?_ ?_
  ·rw [fy (by omega),if_neg (by omega)]
  ·rw [fy (by omega),if_pos rfl]
   rfl
  ·rw [@cU noE _ 0 .e 0 (by simp only [List.length_cons,List.length_nil];omega),if_pos (by simp)]
   rfl
 obtain⟨h2,c2,i2,le2,nx2⟩:=mH vcA 6000001 (Nat.le_refl _) x (by omega) _ i1 (by show h.next+1+_<_;omega);have le2:h.next+1<=h2.next:=le2
 have nx2:h2.next<=h.next+1+4*bH (exO x):=nx2
 obtain⟨sc2,hsc2,bx2⟩:=i2.bx;have lb2:=bx2.ld;have b2:dg (λid=>id=h.next) (.ptr 2 0):=eI λq=>by have:=fs.le;omega
 obtain⟨h',c,f⟩:∃h',CN 201 [.ptr 2 0,.agg (exO x),.func (.func g) [] caps] h sc2 h'/\Fd es h h' (4*bH (exO x)+1):=by
  refine cP Tryz.func201 (by decide) Hh.2 rfl rfl np ?_
  repeat' (first
   |(refine WLg.mk ?_;first
   |refine aa rfl rfl rfl rfl ?_|refine ab rfl rfl lb2 rfl ?_|refine ab rfl rfl (show ROp.run (.load true 11) [.eptr (exO x) 0] _=some (.agg (exO x))from rfl) rfl ?_|refine aF (t:=h.t) (k:=h.next) (vs:=[.func (.func g) [] caps]) (b:=bxB (fnV g caps)) (mk:=λi=>.ptr i 0) rfl rfl rfl (cW hkn) rfl ?_|refine aN (x:= .ptr 2 0) rfl rfl rfl rfl b2 rfl ?_|refine aA rfl rfl RA rfl PB rfl ?_|refine au rfl rfl rfl (c2) (λ_ _ q=>q) .none rfl ?_)|apply ac|refine ae rfl ?_|apply ai|apply ah|apply ap|apply bG.norm|fail)
  exact⟨.inr rfl,_,rfl,by omega,rfl,i2.fs,⟨by omega,i2.kb⟩,by omega⟩
 exact⟨sc2,h',hsc2,c,f⟩
noncomputable section
def fr187(sc:V)(l:List Sm)(i:Nat):AL:=[(0,.ptr 2 0),(2,sc),(9,.lst l.length 23 (smL l)),(10,.int .i64 (Int.ofNat l.length)),(11,.int .i64 (Int.ofNat i))]
def fr178(sc:V)(c:Cl)(i:Nat):AL:=[(0,.ptr 2 0),(2,sc),(4,.eptr (clO c) 0),(11,.lst c.guards.length 1 (gdL c.guards)),(12,.int .i64 (Int.ofNat c.guards.length)),(13,.int .i64 (Int.ofNat i))]
def fr178i(sc:V)(c:Cl)(i j:Nat):AL:=[(0,.ptr 2 0),(2,sc),(4,.eptr (clO c) 0),(11,.lst c.guards.length 1 (gdL c.guards)),(12,.int .i64 (Int.ofNat c.guards.length)),(13,.int .i64 (Int.ofNat i)),
 (17,.lst (di c.guards i).length 11 (exL (di c.guards i))),(18,.int .i64 (Int.ofNat (di c.guards i).length)),(19,.int .i64 (Int.ofNat j))]
end
section
variable {es:List (V×V)} {s:Nat}
set_option maxHeartbeats 800000 in
theorem f187(E:SE es s)(hs6:s<=6000001){l:List Sm}(hl:bH (smL l)<s){h:H}{sc:V}(fs:FsI es h)(hsc:Scp sc)(hb:h.next+12*bH (smL l)<900000000):∃h',CN 187 [.ptr 2 0,.lst l.length 23 (smL l),sc] h (.tup []) h'/\Fd es h h' (12*bH (smL l)):=by
 have hn:=gM l;have np:=cR fs.le;refine cP Tryz.func187 (by decide) Hk.2 rfl rfl np ?_
 repeat' (first
  |(refine WLg.mk ?_;first
  |refine aa rfl rfl rfl rfl ?_)|apply ac|refine ae rfl ?_|apply ai|apply ah|apply aj|apply bG.norm|fail)
 refine aw (bU (l:=fr187 sc l 0) KH) ?_;refine ax l.length (λk x h1=>∃sc,Scp sc/\x=fr187 sc l k/\Fd es h h1 (12*bH (smL (l.take k)))) ?_ (i:=0) (Nat.zero_le _) ⟨sc,hsc,rfl,(Fd.refl fs).up (Nat.zero_le _)⟩;clear hsc sc;rintro k _ ha hk2 ⟨sc,hsc,rfl,fa⟩;have hi2:k<9223372036854775807:=by omega
 have hnx:=fa.nx;cases q:Nat.blt k l.length with
 |false=>
  have hke:k=l.length:=by have:=ce q;omega
  repeat' (first
   |(refine WLg.mk ?_;first
   |refine aa rfl rfl rfl rfl ?_|refine aa rfl rfl (bN Hy) rfl ?_)|apply ac|refine ae rfl ?_|apply ai|apply ah|apply aj|apply al|refine ak rfl (λht=>?_) (λht=>?_)|apply av|apply bG.norm|apply bG.exit|apply OnC.exit|fail)
  any_goals (first|exact absurd (q.symm.trans (show Nat.blt k l.length=true by assumption)) (by decide)|skip)
  rw [hke,List.take_length]at fa;exact⟨.inl rfl,_,rfl,fa.kb.le,rfl,fa⟩
 |true=>
  have hlt:=bL q;have hpre:=tg hlt;have hle:=tf l (k+1);have hss:=mN (cD l k);have hka:ha.next<900000000:=by omega
  obtain⟨sc1,hv,hsc1,cv,fv⟩:=f201 (x:=(cD l k).pat) fa.fs hsc (by omega) (by omega);have hnv:=fv.nx;obtain⟨hw,cw,fw⟩:=E (cD l k).val (by omega) hv sc fv.fs hsc (by omega);obtain⟨hu,cu,fu⟩:=E (cD l k).val (by omega) ha sc fa.fs hsc (by omega);have f1:Fd es h hw (12*bH (smL (l.take (k+1)))):=((fa.trans fv).trans fw).up (by omega);have f2:Fd es h hu (12*bH (smL (l.take (k+1)))):=(fa.trans fu).up (by omega);have pp:∀c,c∈smO (cD l k)->bP c:=λc hc=>(jT _ c hc).x
  repeat' (first
   |(refine WLg.mk ?_;first
   |refine aa rfl rfl rfl rfl ?_|refine aa rfl rfl (bN Hy) rfl ?_|refine ab rfl rfl (show ROp.run (.load true 11) [.eptr (smO (cD l k)) 1] _=some (.agg (exO (cD l k).pat))from rfl) rfl ?_|refine ab rfl rfl (show ROp.run (.load true 11) [.eptr (smO (cD l k)) 12] _=some (.agg (exO (cD l k).val))from rfl) rfl ?_|refine ab rfl rfl rfl rfl ?_|refine ab rfl rfl (gV Hy) rfl ?_|refine aC rfl rfl (cW hka) rfl rfl rfl rfl rfl rfl rfl rfl pp rfl rfl ?_|refine au rfl rfl rfl (cv) (λ_ _ q=>q) .none rfl ?_|refine au rfl rfl rfl (cw) (λ_ _ q=>q) .none rfl ?_|refine au rfl rfl rfl (cu) (λ_ _ q=>q) .none rfl ?_)|apply ac|refine ae rfl ?_|apply ai|apply ah|apply aj|apply al|refine ak rfl (λht=>?_) (λht=>?_)|apply av|apply bG.norm|apply bG.exit|apply OnC.exit|fail)
  all_goals first
   |exact .norm ⟨_,_,bU KH,hlt,sc1,hsc1,rfl,f1⟩|exact .norm ⟨_,_,bU KH,hlt,sc,hsc,rfl,f2⟩|exact absurd (q.symm.trans (show Nat.blt k l.length=false by assumption)) (by decide)
set_option maxHeartbeats 800000 in
theorem f178(E:SE es s)(hs6:s<=6000001){c:Cl}(hc:bH (clO c)<s){h:H}{sc:V}(fs:FsI es h)(hsc:Scp sc)(hb:h.next+12*(bH (gdL c.guards)+bH (smL c.body))<900000000):∃h',CN 178 [.ptr 2 0,.agg (clO c),sc] h (.tup []) h'/\Fd es h h' (12*(bH (gdL c.guards)+bH (smL c.body))):=by
 have hcs:=fJ c;have hn:=jF c.guards;have hgt:=tZ c.guards;have np:=cR fs.le;refine cP Tryz.func178 (by decide) Hq.2 rfl rfl np ?_
 repeat' (first
  |(refine WLg.mk ?_;first
  |refine aa rfl rfl rfl rfl ?_|refine ab rfl rfl rfl rfl ?_|refine aA rfl rfl RA rfl PB rfl ?_)|apply ac|refine ae rfl ?_|apply ai|apply ah|apply aj|apply bG.norm|fail)
 refine aw (bU (l:=fr178 sc c 0) KH) ?_;refine ax c.guards.length (λk x h1=>x=fr178 sc c k/\Fd es h h1 (12*bH (gdL (c.guards.take k)))) ?_ (i:=0) (Nat.zero_le _) ⟨rfl,(Fd.refl fs).up (Nat.zero_le _)⟩;rintro k _ ha hk2 ⟨rfl,fa⟩;have hi2:k<9223372036854775807:=by omega
 have hnx:=fa.nx;cases q:Nat.blt k c.guards.length with
 |false=>
  have hke:k=c.guards.length:=by have:=ce q;omega
  rw [hke,List.take_length]at fa hnx;obtain⟨hv,cv,fv⟩:=f187 E hs6 (l:=c.body) (by omega) fa.fs hsc (by omega);have f1:Fd es h hv (12*(bH (gdL c.guards)+bH (smL c.body))):=(fa.trans fv).up (by omega)
  repeat' (first
   |(refine WLg.mk ?_;first
   |refine aa rfl rfl rfl rfl ?_|refine aa rfl rfl (bN Hy) rfl ?_|refine ab rfl rfl rfl rfl ?_|refine au rfl rfl rfl (cv) (λ_ _ q=>q) .none rfl ?_)|apply ac|refine ae rfl ?_|apply ai|apply ah|apply aj|apply al|refine ak rfl (λht=>?_) (λht=>?_)|apply av|apply bG.norm|apply bG.exit|apply OnC.exit|fail)
  any_goals (first|exact absurd (q.symm.trans (show Nat.blt k c.guards.length=true by assumption)) (by decide)|skip)
  exact⟨.inl rfl,_,rfl,f1.kb.le,rfl,f1⟩
 |true=>
  have hlt:=bL q;have hpre:=xw hlt;have hle:=hgt (k+1);have hgn:=dy (di c.guards k)
  repeat' (first
   |(refine WLg.mk ?_;first
   |refine aa rfl rfl rfl rfl ?_|refine aa rfl rfl (bN Hy) rfl ?_|refine ab rfl rfl (dO (j:=0) (oY Hy) rfl _) rfl ?_|refine ab rfl rfl rfl rfl ?_)|apply ac|refine ae rfl ?_|apply ai|apply ah|apply aj|apply al|refine ak rfl (λht=>?_) (λht=>?_)|apply av|apply bG.norm|apply bG.exit|apply OnC.exit|fail)
  any_goals (first|exact absurd (q.symm.trans (show Nat.blt k c.guards.length=false by assumption)) (by decide)|skip)
  refine aw (bU (l:=fr178i sc c k 0) KH) ?_;refine ax (di c.guards k).length (λj x h1=>x=fr178i sc c k j/\Fd es h h1 (12*bH (gdL (c.guards.take k))+12*bH (exL ((di c.guards k).take j)))) ?_ (i:=0) (Nat.zero_le _) ⟨rfl,fa.up (Nat.le_add_right _ _)⟩;clear fa hnx q;rintro j _ hd hj2 ⟨rfl,fd⟩;have hj3:j<9223372036854775807:=by omega
  have hnd:=fd.nx;cases qn:Nat.blt j (di c.guards k).length with
  |false=>
   have hje:j=(di c.guards k).length:=by have:=ce qn;omega
   rw [hje,List.take_length]at fd;have f1:Fd es h hd (12*bH (gdL (c.guards.take (k+1)))):=fd.up (by omega)
   repeat' (first
    |(refine WLg.mk ?_;first
    |refine aa rfl rfl rfl rfl ?_|refine aa rfl rfl (bN Hy) rfl ?_)|apply ac|refine ae rfl ?_|apply ai|apply ah|apply aj|apply al|refine ak rfl (λht=>?_) (λht=>?_)|apply av|apply bG.norm|apply bG.exit|apply OnC.exit|fail)
   all_goals first
    |exact .norm ⟨_,_,bU KH,hlt,rfl,f1⟩|exact absurd (qn.symm.trans (show Nat.blt j (di c.guards k).length=true by assumption)) (by decide)
  |true=>
   have hltj:=bL qn;have hprj:=fO hltj;have hlej:=eu (di c.guards k) (j+1);have hka:hd.next<900000000:=by omega
   obtain⟨hu,cu,fu⟩:=E (bW (di c.guards k) j) (by omega) hd sc fd.fs hsc (by omega);have f1:Fd es h hu (12*bH (gdL (c.guards.take k))+12*bH (exL ((di c.guards k).take (j+1)))):=(fd.trans fu).up (by omega);have pp:∀v,v∈exO (bW (di c.guards k) j)->bP v:=λv hv=>(cZ _ v hv).x
   repeat' (first
    |(refine WLg.mk ?_;first
    |refine aa rfl rfl rfl rfl ?_|refine aa rfl rfl (bN Hy) rfl ?_|refine ab rfl rfl (show ROp.run (.load true 11) [.eptr (exO (bW (di c.guards k) j)) 0] _=some (.agg (exO (bW (di c.guards k) j)))from rfl) rfl ?_|refine ab rfl rfl (dA Hy) rfl ?_|refine aC rfl rfl (cW hka) rfl rfl rfl rfl rfl rfl rfl rfl pp rfl rfl ?_|refine au rfl rfl rfl (cu) (λ_ _ q=>q) .none rfl ?_)|apply ac|refine ae rfl ?_|apply ai|apply ah|apply aj|apply al|refine ak rfl (λht=>?_) (λht=>?_)|apply av|apply bG.norm|apply bG.exit|apply OnC.exit|fail)
   all_goals first
    |exact .norm ⟨_,_,bU KH,hltj,rfl,f1⟩|exact absurd (qn.symm.trans (show Nat.blt j (di c.guards k).length=false by assumption)) (by decide)
end
end
end Ev
end Go.Proofs.YtdfphfdnoobikaaGreatDoor
