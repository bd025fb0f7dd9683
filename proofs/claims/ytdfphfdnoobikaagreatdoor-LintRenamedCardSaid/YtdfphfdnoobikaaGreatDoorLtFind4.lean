/-
  The finder:a variable that holds a scope.
-/
import Derived.Test.YtdfphfdnoobikaaGreatDoorLtRn1
namespace Go.Proofs.YtdfphfdnoobikaaGreatDoor
namespace Ev
section
theorem GL.mono{es:Nat}{h h':H}{v:V}{cs:List V}(g:GL es h v cs)(a:h.next<=h'.next)(c:∀b n,v= .sl b 0 n 0 false es->b<h.next->h'.blk b=h.blk b):GL es h' v cs:=by
 cases g with
 |none0=>exact .none0
 |full hb2 hc hn hl at_ lt=>exact .full (by rw [c _ _ rfl lt];exact hb2) hc hn hl at_ (Nat.lt_of_lt_of_le lt a)
theorem FsI.ext{es:List (V×V)}{cs:List V}{h h':H}(s:FsI es cs h)(a:h.next<=h'.next)(e:∀j,j<h.next->h'.blk j=h.blk j):FsI es cs h':=by
 obtain⟨o,g⟩:=s.b1;obtain⟨tr,v,d,t0,c,gl,hs,f⟩:=s.b2;have le:=s.le;exact⟨s.map,by rw [e 0 (by omega)];exact s.b0,⟨o,by rw [e 1 (by omega)];exact g⟩,⟨tr,v,by rw [e 2 le];exact d,t0,c,gl.mono a λb n _ lt=>e b lt,hs,Nat.le_trans f a⟩,Nat.lt_of_lt_of_le le a⟩
theorem mX.ext{h h':H}{id:Nat}{v:V}(k:mX h id v)(a:h.next<=h'.next)(e:h'.blk id=h.blk id):mX h' id v:=by
 obtain⟨tr,c,b⟩:=k.out;exact⟨k.lo,Nat.lt_of_lt_of_le k.hi a,⟨tr,by rw [e];exact c,b⟩,k.fn⟩
theorem mX.ld{h:H}{id:Nat}{v:V}(k:mX h id v):ROp.run (.load false 1) [.ptr id 0] h=some v:=by
 obtain⟨tr,b,a⟩:=k.out;exact dI b a (by decide)
theorem Scp.fn{sc:V}{d:Dp}(h:Scp sc d):∃f a b,sc= .func f a b:=by
 obtain⟨_,g,c,rfl,_⟩:=h;exact⟨_,_,_,rfl⟩
abbrev St2:=Dp×List V
structure IvK(es:List (V×V))(h0:H)(k:Nat)(st:St2)(h:H):Prop where
 fs:FsI es st.2 h
 kb:∀id v,mX h0 id v->mX h id v
 lek:h0.next<=k
 bx:∃sc,Scp sc st.1/\mX h k sc
theorem IvK.lt{es:List (V×V)}{h0 h:H}{k:Nat}{st:St2}(i:IvK es h0 k st h):2<k/\k<h.next:=by
 obtain⟨sc,_,b⟩:=i.bx;exact⟨b.lo,b.hi⟩
theorem IvK.eq{es:List (V×V)}{h0 h:H}{k:Nat}{st st':St2}(i:IvK es h0 k st h)(e:st=st'):IvK es h0 k st' h:=e▸i
theorem IvK.new{es:List (V×V)}{cs:List V}{h h':H}{sc:V}{d:Dp}(s:FsI es cs h)(hsc:Scp sc d)(hn:h'.next=h.next+1)(e:∀j,j<h.next->h'.blk j=h.blk j){tr:Tr V}(hb:h'.blk h.next=some (.cells 1 tr none false))(ht:tr.get 0=some sc):IvK es h h.next (d,cs) h':=
 ⟨s.ext (by omega) e,λid v k=>k.ext (by omega) (e id k.hi),Nat.le_refl _,sc,hsc,⟨s.le,by omega,⟨tr,hb,ht⟩,hsc.fn⟩⟩
theorem IvK.call{es:List (V×V)}{cs:List V}{h0 h h':H}{k:Nat}{st:St2}(i:IvK es h0 k st h)(fs:FsI es cs h')(kb:Kb h h'):IvK es h0 k (st.1,cs) h':=by
 obtain⟨sc,h1,h2⟩:=i.bx;exact⟨fs,λid v q=>kb.bx id v (i.kb id v q),i.lek,sc,h1,kb.bx _ _ h2⟩
theorem IvK.set{es:List (V×V)}{h0 h:H}{k:Nat}{st:St2}(i:IvK es h0 k st h)(E:h.next<900000000){sc:V}{d:Dp}(c:Scp sc d):∃h',EOp.run (.store 1) [.ptr k 0,sc] h=some (cT,h')/\IvK es h0 k (d,st.2) h'/\h'.next=h.next:=by
 have l:900000002<bZ:=by unfold bZ;omega
 obtain⟨w,_,lo,hi,⟨tr,u,z⟩,f,a,b,rfl⟩:=i.bx;have r:cellsOf sc=[sc]/\cQ sc=true:=by
  obtain⟨f,a,b,rfl⟩:=c.fn;exact⟨rfl,rfl⟩
 have p:∀j,(⟨h.t.put k (some (.cells 1 (tr.put 0 (some sc)) none false)),h.next⟩:H).blk j=if j=k then some (.cells 1 (tr.put 0 (some sc)) none false)else h.blk j:=λj=>gO (by omega)
 obtain⟨o,A⟩:=i.fs.b1;obtain⟨t2,v,C,t0,y,gl,hs,D⟩:=i.fs.b2;have g:∀j,j≠k->(⟨h.t.put k (some (.cells 1 (tr.put 0 (some sc)) none false)),h.next⟩:H).blk j=h.blk j:=λj m=>by rw [p,if_neg m]
 have B:∀id v,id≠k->mX h id v->mX ⟨h.t.put k (some (.cells 1 (tr.put 0 (some sc)) none false)),h.next⟩ id v:=λid v m q=>q.ext (Nat.le_refl _) (g id m);refine⟨_,iH u r.1 r.2 (by decide),⟨⟨i.fs.map,?_,⟨o,?_⟩,⟨t2,v,?_,t0,y,?_,hs,D⟩,i.fs.le⟩,λid v q=>B id v (λe=>?_) (i.kb id v q),i.lek,sc,c,lo,hi,⟨_,by rw [p,if_pos rfl],by rw [Tr.get_put _ _ _ _ (by omega),if_pos rfl]⟩,c.fn⟩,rfl⟩
 ·rw [g 0 (by omega)];exact i.fs.b0
 ·rw [g 1 (by omega)];exact A
 ·rw [g 2 (by omega)];exact C
 ·refine gl.mono (Nat.le_refl _) λb n e lt=>g b λq=>?_
  subst q;subst e;cases gl with
  |full hb hc hn hl2 at_ lt=>
   rw [Nat.mul_one]at hb hl2;rw [u]at hb;cases hb;obtain⟨x,s⟩:∃x,st.2[0]? =some x:=⟨_,List.getElem?_eq_getElem (by omega)⟩
   have:=at_ 0 x s;rw [z]at this;cases this;obtain⟨n2,c2,q⟩:=hs _ (List.mem_of_getElem? s);cases q
 ·have:=q.hi
  have:=i.lek;omega
noncomputable section
def sU(o:Dp)(n c:Nat)(st:St2):St2:=if st.1 n c then st else if o n c then(st.1,qu o st.1 n c st.2)else(uh st.1 n c,st.2)
def sG(o:Dp)(y:Ex)(st:St2):St2:=(st.1,szD o st.1 B6 y st.2)
def xV(n c:Nat)(st:St2):St2:=(uh st.1 n c,st.2)
end
noncomputable abbrev fB:V:= .eptr [.ptr 2 0] 0
theorem f208{es:List (V×V)}{h0 h:H}{k:Nat}{st:St2}(i:IvK es h0 k st h)(d:h.next<900000000)(n c:Nat):∃h',CN 208 [.str n c,.ptr k 0,fB] h (.tup []) h'/\IvK es h0 k (sU (lkE es) n c st) h'/\h.next<=h'.next/\h'.next<=h.next+1:=by
 obtain⟨sc,a,bx⟩:=i.bx;have r:=bx.ld;obtain⟨h1,c1,f,b,n1⟩:=f184 i.fs d a n c;have m:=i.call f b;obtain⟨h2,p,j,n2⟩:=i.set d (IE a n c);have c2:=f173 a n c;obtain⟨o,l⟩:=i.fs.b1;obtain⟨tr,v,s,t0,t,gl,hs,u⟩:=i.fs.b2;have lk:=Bf i.fs.map n c h 1 o l;have l0:ROp.run (.load false 1) [.ptr 2 0] h=some (.map 1):=dI s t0 (by decide);have np:=dl i.fs.le;obtain⟨px,g,e,rfl,cs⟩:=a;have cs:=cs n c;refine dh Tryz.func208 (by decide) KQ.2 rfl rfl np ?_
 repeat' (first
  |(refine WLg.mk ?_;first
  |refine ac ?_|refine ap rfl rfl lk rfl ?_|refine ap rfl rfl r rfl ?_|refine ap rfl rfl l0 rfl ?_|refine au ?_|refine ay cs ?_|refine ay c2 ?_|refine aw c1 ?_|refine aK rfl rfl p rfl ?_)|apply ab|refine aj rfl ?_|apply ae|apply aa|apply ai|apply ak|refine ah rfl (λq=>?_) (λq=>?_)|apply thN|fail)
 all_goals first
  |exact⟨.inl rfl,_,rfl,Nat.le_refl _,rfl,i.eq (by(try simp only [Bool.not_eq_true',Bool.not_eq_false']at*)<;>first|(simp [sU, *];done)|(simp_all [];done)),Nat.le_refl _,Nat.le_succ _⟩|exact⟨.inl rfl,_,rfl,b.le,rfl,m.eq (by(try simp only [Bool.not_eq_true',Bool.not_eq_false']at*)<;>first|(simp [sU, *];done)|(simp_all [sU];done)),b.le,n1⟩|exact⟨.inl rfl,_,rfl,Nat.le_of_eq n2.symm,rfl,j.eq (by(try simp only [Bool.not_eq_true',Bool.not_eq_false']at*)<;>first|(simp [sU, *];done)|(simp_all [sU];done)),Nat.le_of_eq n2.symm,by omega⟩
theorem f209{es:List (V×V)}{h0 h:H}{k:Nat}{st:St2}(i:IvK es h0 k st h){y:Ex}(e:bS (exO y)<=6000000)(b:h.next+4*bS (exO y)<900000000):∃h',CN 209 [.agg (exO y),fB,.ptr k 0] h (.tup []) h'/\IvK es h0 k (sG (lkE es) y st) h'/\h.next<=h'.next/\h'.next<=h.next+4*bS (exO y):=by
 obtain⟨sc,a,bx⟩:=i.bx;have d:=bx.ld;obtain⟨h1,c1,f⟩:=qq es B6 kY y (mr (by omega)) h sc _ _ i.fs a b;have c:=i.call f.fs f.kb;have np:=dl i.fs.le;refine dh Tryz.func209 (by decide) KO.2 rfl rfl np ?_
 repeat' (first
  |(refine WLg.mk ?_;first
  |refine ap rfl rfl d rfl ?_|refine ap rfl rfl (show ROp.run (.load true 11) [.eptr (exO y) 0] _=some (.agg (exO y))from rfl) rfl ?_|refine au ?_|refine aE ?_|refine aw c1 ?_)|apply ab|refine aj rfl ?_|apply ae|apply aa|apply thN|fail)
 exact⟨.inl rfl,_,rfl,f.kb.le,rfl,c,f.kb.le,f.nx⟩
theorem f176{es:List (V×V)}{h0 h:H}{k:Nat}{st:St2}(i:IvK es h0 k st h){y:Ex}(e:bS (exO y)<=6000000)(b:h.next+4*bS (exO y)<900000000):∃h',CN 176 [.agg (exO y),fB,.ptr k 0] h (.tup []) h'/\IvK es h0 k (sG (lkE es) y st) h'/\h.next<=h'.next/\h'.next<=h.next+4*bS (exO y):=by
 obtain⟨sc,a,bx⟩:=i.bx;have d:=bx.ld;obtain⟨h1,c1,f⟩:=qq es B6 kY y (mr (by omega)) h sc _ _ i.fs a b;have c:=i.call f.fs f.kb;have np:=dl i.fs.le;refine dh Tryz.func176 (by decide) K4.2 rfl rfl np ?_
 repeat' (first
  |(refine WLg.mk ?_;first
  |refine ap rfl rfl d rfl ?_|refine ap rfl rfl (show ROp.run (.load true 11) [.eptr (exO y) 0] _=some (.agg (exO y))from rfl) rfl ?_|refine au ?_|refine aE ?_|refine aw c1 ?_)|apply ab|refine aj rfl ?_|apply ae|apply aa|apply thN|fail)
 exact⟨.inl rfl,_,rfl,f.kb.le,rfl,c,f.kb.le,f.nx⟩
theorem f172{es:List (V×V)}{h0 h:H}{k:Nat}{st:St2}(i:IvK es h0 k st h)(b:h.next<900000000)(n c:Nat):∃h',CN 172 [.str n c,.ptr k 0] h (.tup []) h'/\IvK es h0 k (xV n c st) h'/\h.next<=h'.next/\h'.next<=h.next+1:=by
 obtain⟨sc,a,bx⟩:=i.bx;have e:=bx.ld;obtain⟨h2,d,f,n2⟩:=i.set b (IE a n c);have c2:=f173 a n c;have np:=dl i.fs.le;refine dh Tryz.func172 (by decide) K8.2 rfl rfl np ?_
 repeat' (first
  |(refine WLg.mk ?_;first
  |refine ac ?_|refine ap rfl rfl e rfl ?_|refine ay c2 ?_|refine aK rfl rfl d rfl ?_)|apply ab|refine aj rfl ?_|apply aa|fail)
 exact⟨.inl rfl,_,rfl,Nat.le_of_eq n2.symm,rfl,f,Nat.le_of_eq n2.symm,by omega⟩
theorem f174{h:H}(y:Ex)(np:2<h.next):CN 174 [.agg (exO y)] h (.tup []) h:=by
 obtain⟨h',c,rfl⟩:∃h',CN 174 [.agg (exO y)] h (.tup []) h'/\h'=h:=by
  refine dh Tryz.func174 (by decide) K6.2 rfl rfl (dl np) ?_
  repeat' (first
   |(refine WLg.mk ?_;first
   |refine aE ?_)|apply ab|refine aj rfl ?_|apply aa|fail)
  exact⟨.inl rfl,_,rfl,Nat.le_refl _,rfl,rfl⟩
 exact c
theorem f175{h:H}(n c:Nat)(np:2<h.next):CN 175 [.str n c] h (.tup []) h:=by
 obtain⟨h',c,rfl⟩:∃h',CN 175 [.str n c] h (.tup []) h'/\h'=h:=by
  refine dh Tryz.func175 (by decide) K5.2 rfl rfl (dl np) ?_
  repeat' (first
   |apply ak|fail)
  exact⟨.inl rfl,_,rfl,Nat.le_refl _,rfl,rfl⟩
 exact c
section
variable {es:List (V×V)} {h0 h:H} {k:Nat} {st:St2}
theorem GZ(i:IvK es h0 k st h):dG (λid=>id=h.next) (.ptr k 0):=fC λq=>by have:=i.lt;omega
theorem Ja(i:IvK es h0 k st h):dG (λid=>id=h.next) fB:=gE (nG (fC λq=>by have:=i.lt;omega))
theorem rH{M:Nat->Prop}:∀v,v∈([]:List V)->dG M v:=λv hv=>by cases hv
theorem tS{M:Nat->Prop}{v:V}{l:List V}(h:dG M v)(k:∀v,v∈l->dG M v):∀u,u∈v ::l->dG M u:=λu hu=>by
 rcases List.mem_cons.1 hu with rfl|hu
 ·exact h
 ·exact k u hu
theorem vcA:VC (IvK es h0 k) (sU (lkE es)) (sG (lkE es)) 208 [.ptr k 0,fB] 209 [fB,.ptr k 0]:=
 ⟨λ_ _ n c i hb=>f208 i (by omega) n c,λy hy _ _ i hb=>f209 i hy hb,λ_ _ i=>fU rH (tS (GZ i) (tS (Ja i) rH)),λ_ _ i=>fU rH (tS (Ja i) (tS (GZ i) rH)),λ_ _ i=>i.fs.le⟩
theorem vcB:VC (IvK es h0 k) xV (λ_ st=>st) 172 [.ptr k 0] 174 []:=
 ⟨λ_ _ n c i hb=>f172 i (by omega) n c,λy _ _ h i _=>⟨h,f174 y i.fs.le,i,Nat.le_refl _,Nat.le_add_right _ _⟩,λ_ _ i=>fU rH (tS (GZ i) rH),λ_ _ _=>fU rH rH,λ_ _ i=>i.fs.le⟩
theorem vcC:VC (IvK es h0 k) (λ_ _ st=>st) (sG (lkE es)) 175 [] 176 [fB,.ptr k 0]:=
 ⟨λ_ h n c i _=>⟨h,f175 n c i.fs.le,i,Nat.le_refl _,Nat.le_succ _⟩,λ_ hy _ _ i hb=>f176 i hy hb,λ_ _ _=>fU rH rH,λ_ _ i=>fU rH (tS (Ja i) (tS (GZ i) rH)),λ_ _ i=>i.fs.le⟩
end
end
section
theorem Fd.refl{es:List (V×V)}{cs:List V}{h:H}(s:FsI es cs h):Fd es cs h h 0:=⟨s,.refl h,Nat.le_refl _⟩
theorem Fd.trans{es:List (V×V)}{cs cs':List V}{a b c:H}{n m:Nat}(x:Fd es cs a b n)(y:Fd es cs' b c m):Fd es cs' a c (n+m):=⟨y.fs,x.kb.trans y.kb,by have:=x.nx;have:=y.nx;omega⟩
theorem Fd.up{es:List (V×V)}{cs:List V}{a b:H}{n m:Nat}(x:Fd es cs a b n)(h:n<=m):Fd es cs a b m:=⟨x.fs,x.kb,Nat.le_trans x.nx (Nat.add_le_add_left h _)⟩
theorem gK(l:List Ex)(i:Nat):bS (exL (l.take i))<=bS (exL l):=jV (by rw [exL]) cV l i
noncomputable section
abbrev XD:=Dp->Ex->List V->List V
def oH(o:Dp)(x:Ex)(st:St2):St2:=vaD (sU o) (sG o) B6 x st
def sD(o:Dp)(E:XD)(y:Sm)(st:St2):St2:=
 if y.isMatch then((oH o y.pat st).1,E st.1 y.val (oH o y.pat st).2)else(st.1,E st.1 y.val st.2)
def ry(o:Dp)(E:XD)(l:List Sm)(d:Dp)(cs:List V):List V:=(cB (λi st=>sD o E (cK l i) st) (d,cs) l.length).2
def mT(E:XD)(l:List Ex)(d:Dp)(cs:List V):List V:=cB (λi cs=>E d (cE l i) cs) cs l.length
def uP(o:Dp)(E:XD)(c:Cl)(d:Dp)(cs:List V):List V:=ry o E c.body d (cB (λi cs=>mT E (dm c.guards i) d cs) cs c.guards.length)
def yV(o:Dp)(E:XD)(c:Cl)(d:Dp)(cs:List V):List V:=
 let st:=cB (λi st=>oH o (cE c.pats i) st) (d,cs) c.pats.length
 uP o E c st.1 st.2
def rB(o:Dp)(E:XD)(l:List Cl)(d:Dp)(cs:List V):List V:=cB (λi cs=>yV o E (bV l i) d cs) cs l.length
def Jp(c:Cl)(d:Dp)(cs:List V):St2:=cB (λi st=>vaD xV (λ_ st=>st) B6 (cE c.pats i) st) (d,cs) c.pats.length
def yv(o:Dp)(E:XD)(c:Cl)(d:Dp)(cs:List V):List V:=
 let st:=cB (λi st=>vaD (λ_ _ st=>st) (sG o) B6 (cE c.pats i) st) (Jp c d cs) c.pats.length
 uP o E c st.1 st.2
def th(o:Dp)(E:XD)(l:List Cl)(d:Dp)(cs:List V):List V:=cB (λi cs=>yv o E (bV l i) d cs) cs l.length
def exD(o:Dp):Nat->XD
 |0,_,_,cs=>cs
 |n+1,d,x,cs=>if eqI x.kind 3 then qu o d x.name.size (ck x.name.data.toList) cs else if eqI x.kind 13 then th o (exD o n) x.clauses d cs
  else if(eqI x.kind 15||eqI x.kind 16)||eqI x.kind 18 then ry o (exD o n) x.after d (rB o (exD o n) x.catches d (rB o (exD o n) x.clauses d (ry o (exD o n) x.body d (mT (exD o n) x.items d cs))))
  else if eqI x.kind 17 then ry o (exD o n) x.after d (mT (exD o n) x.items d (rB o (exD o n) x.clauses d cs))
  else(df x).foldl (λcs y=>exD o n d y cs) cs
end
def SE(es:List (V×V))(s:Nat):Prop:=∀x,bS (exO x)<s->∀h sc d cs,FsI es cs h->Scp sc d->h.next+12*bS (exO x)<900000000->∃h',CN 186 [.ptr 2 0,.agg (exO x),sc] h (.tup []) h'/\Fd es (exD (lkE es) s d x cs) h h' (12*bS (exO x))
noncomputable def bxB(v:V):Blk:= .cells 1 (cM [v] 0 .e) none false
theorem f201{es:List (V×V)}{zs:List V}{h:H}(fs:FsI es zs h){sc:V}{d:Dp}(m:Scp sc d){x:Ex}(B:bS (exO x)<=6000000)(C:h.next+4*bS (exO x)+1<900000000):∃sc' h',Scp sc' (oH (lkE es) x (d,zs)).1/\CN 201 [.ptr 2 0,.agg (exO x),sc] h sc' h'/\Fd es (oH (lkE es) x (d,zs)).2 h h' (4*bS (exO x)+1):=by
 have o:=m;obtain⟨px,g,a,rfl,cs⟩:=o;have u:900000002<bZ:=by unfold bZ;omega
 have s:h.next<900000000:=by omega
 have np:=dl fs.le;have z:IvK es h h.next (d,zs) ⟨h.t.put h.next (some (bxB (fnV g a))),Nat.succ h.next⟩:=by
  refine IvK.new (tr:=cM [fnV g a] 0 .e) fs m rfl (λj A=>?_) ?_ ?_
  ·rw [gO (by omega),if_neg (by omega)]
  ·rw [gO (by omega),if_pos rfl]
   rfl
  ·rw [@dz noE _ 0 .e 0 (by simp only [List.length_cons,List.length_nil];omega),if_pos (by simp)]
   rfl
 obtain⟨h2,c2,v,n,l⟩:=oW vcA B6 kY x (mr (by omega)) _ _ z (by show h.next+1+_<_;omega);have n:h.next+1<=h2.next:=n
 have l:h2.next<=h.next+1+4*bS (exO x):=l
 obtain⟨p,r,y⟩:=v.bx;have w:=y.ld;have b2:dG (λid=>id=h.next) (.ptr 2 0):=fC λq=>by have:=fs.le;omega
 obtain⟨h',c,f⟩:∃h',CN 201 [.ptr 2 0,.agg (exO x),.func (.func g) [] a] h p h'/\Fd es (oH (lkE es) x (d,zs)).2 h h' (4*bS (exO x)+1):=by
  refine dh Tryz.func201 (by decide) KR.2 rfl rfl np ?_
  repeat' (first
   |(refine WLg.mk ?_;first
   |refine ac ?_|refine ap rfl rfl w rfl ?_|refine ap rfl rfl (show ROp.run (.load true 11) [.eptr (exO x) 0] _=some (.agg (exO x))from rfl) rfl ?_|refine aI (t:=h.t) (k:=h.next) (vs:=[.func (.func g) [] a]) (b:=bxB (fnV g a)) (mk:=λi=>.ptr i 0) rfl rfl rfl (dE s) rfl ?_|refine aY (x:= .ptr 2 0) rfl rfl rfl rfl b2 rfl ?_|refine aE ?_|refine aw c2 ?_)|apply ab|refine aj rfl ?_|apply ae|apply aa|apply am|apply thN|fail)
  exact⟨.inr rfl,_,rfl,by omega,rfl,v.fs,⟨by omega,v.kb⟩,by omega⟩
 exact⟨p,h',r,c,f⟩
noncomputable section
def fr187(sc:V)(l:List Sm)(i:Nat):AL:=[(0,.ptr 2 0),(2,sc),(9,.lst l.length 23 (smL l)),(10,.int .i64 (Int.ofNat l.length)),(11,.int .i64 (Int.ofNat i))]
def fr178(sc:V)(c:Cl)(i:Nat):AL:=[(0,.ptr 2 0),(2,sc),(4,.eptr (clO c) 0),(11,.lst c.guards.length 1 (gdL c.guards)),(12,.int .i64 (Int.ofNat c.guards.length)),(13,.int .i64 (Int.ofNat i))]
def fr178i(sc:V)(c:Cl)(i j:Nat):AL:=[(0,.ptr 2 0),(2,sc),(4,.eptr (clO c) 0),(11,.lst c.guards.length 1 (gdL c.guards)),(12,.int .i64 (Int.ofNat c.guards.length)),(13,.int .i64 (Int.ofNat i)),
 (17,.lst (dm c.guards i).length 11 (exL (dm c.guards i))),(18,.int .i64 (Int.ofNat (dm c.guards i).length)),(19,.int .i64 (Int.ofNat j))]
end
section
variable {es:List (V×V)} {s:Nat}
set_option maxHeartbeats 6400000 in
theorem f187(E:SE es s)(C:s<=6000001){l:List Sm}(Q:bS (smL l)<s){h:H}{sc:V}{d:Dp}{zs:List V}(fs:FsI es zs h)(a:Scp sc d)(P:h.next+12*bS (smL l)<900000000):∃h',CN 187 [.ptr 2 0,.lst l.length 23 (smL l),sc] h (.tup []) h'/\Fd es (ry (lkE es) (exD (lkE es) s) l d zs) h h' (12*bS (smL l)):=by
 have O:=iJ l;have np:=dl fs.le;refine dh Tryz.func187 (by decide) KW.2 rfl rfl np ?_
 repeat' (first
  |(refine WLg.mk ?_;first
  |refine ac ?_)|apply ab|refine aj rfl ?_|apply ae|apply aa|apply ai|apply thN|fail)
 refine az (cA (l:=fr187 sc l 0) KH) ?_;refine aA l.length (λk x h1=>∃sc,Scp sc (cB (λi st=>sD (lkE es) (exD (lkE es) s) (cK l i) st) (d,zs) k).1/\x=fr187 sc l k/\Fd es (cB (λi st=>sD (lkE es) (exD (lkE es) s) (cK l i) st) (d,zs) k).2 h h1 (12*bS (smL (l.take k)))) ?_ (i:=0) (Nat.zero_le _) ⟨sc,a,rfl,(Fd.refl fs).up (Nat.zero_le _)⟩;clear a sc;rintro k _ t y ⟨sc,a,rfl,fa⟩;obtain⟨st,f⟩:∃st,st=cB (λi st=>sD (lkE es) (exD (lkE es) s) (cK l i) st) (d,zs) k:=⟨_,rfl⟩
 rw [<-f]at a fa;have e:cB (λi st=>sD (lkE es) (exD (lkE es) s) (cK l i) st) (d,zs) (k+1)=sD (lkE es) (exD (lkE es) s) (cK l k) st:=by rw [f];rfl
 rw [e];have hi2:k<9223372036854775807:=by omega
 have w:=fa.nx;cases q:Nat.blt k l.length with
 |false=>
  have m:k=l.length:=by have:=cC q;omega
  repeat' (first
   |(refine WLg.mk ?_;first
   |refine ac ?_|refine av rfl rfl (ce Hy) rfl ?_)|apply ab|refine aj rfl ?_|apply ae|apply aa|apply ai|apply ak|refine ah rfl (λr=>?_) (λr=>?_)|apply ax|apply thN|apply thE|apply onE|fail)
  any_goals (first|exact Nq q|skip)
  rw [m,List.take_length]at fa;exact⟨.inl rfl,_,rfl,fa.kb.le,rfl,fa.eq (by rw [f,m];rfl)⟩
 |true=>
  have b:=bX q;have u:=vJ b;have N:=vI l (k+1);have z:=nj (cK l k);have n:t.next<900000000:=by omega
  obtain⟨p,D,g,I,o⟩:=f201 (x:=(cK l k).pat) fa.fs a (by omega) (by omega);have F:=o.nx;obtain⟨J,M,A⟩:=E (cK l k).val (by omega) D sc _ _ o.fs a (by omega);obtain⟨G,B,K⟩:=E (cK l k).val (by omega) t sc _ _ fa.fs a (by omega);have f1:Fd es _ h J (12*bS (smL (l.take (k+1)))):=((fa.trans o).trans A).up (by omega);have L:Fd es _ h G (12*bS (smL (l.take (k+1)))):=(fa.trans K).up (by omega);have v:∀c,c∈smO (cK l k)->bY c:=λc hc=>(ko _ c hc).x
  repeat' (first
   |(refine WLg.mk ?_;first
   |refine ac ?_|refine av rfl rfl (ce Hy) rfl ?_|refine ap rfl rfl (show ROp.run (.load true 11) [.eptr (smO (cK l k)) 1] _=some (.agg (exO (cK l k).pat))from rfl) rfl ?_|refine ap rfl rfl (show ROp.run (.load true 11) [.eptr (smO (cK l k)) 12] _=some (.agg (exO (cK l k).val))from rfl) rfl ?_|refine au ?_|refine ap rfl rfl (fV Hy) rfl ?_|refine aJ rfl rfl (dE n) rfl rfl rfl rfl rfl rfl rfl rfl v rfl rfl ?_|refine aw I ?_|refine aw M ?_|refine aw B ?_)|apply ab|refine aj rfl ?_|apply ae|apply aa|apply ai|apply ak|refine ah rfl (λr=>?_) (λr=>?_)|apply ax|apply thN|apply thE|apply onE|fail)
  all_goals first
   |(have j:(cK l k).isMatch=true:=by with_reducible assumption);exact .norm ⟨_,_,cA KH,b,p,by rw [sD,if_pos j];exact g,rfl,f1.eq (by rw [sD,if_pos j])⟩|(have j:(cK l k).isMatch=false:=by with_reducible assumption);exact .norm ⟨_,_,cA KH,b,sc,by rw [sD,j];exact a,rfl,L.eq (by rw [sD,j];rfl)⟩|exact Nr q
set_option maxHeartbeats 6400000 in
theorem f178(E:SE es s)(o:s<=6000001){c:Cl}(hc:bS (clO c)<s){h:H}{sc:V}{d:Dp}{zs:List V}(fs:FsI es zs h)(f:Scp sc d)(R:h.next+12*(bS (gdL c.guards)+bS (smL c.body))<900000000):∃h',CN 178 [.ptr 2 0,.agg (clO c),sc] h (.tup []) h'/\Fd es (uP (lkE es) (exD (lkE es) s) c d zs) h h' (12*(bS (gdL c.guards)+bS (smL c.body))):=by
 have L:=gM c;have Q:=j0 c.guards;have r:=wq c.guards;have np:=dl fs.le;refine dh Tryz.func178 (by decide) K2.2 rfl rfl np ?_
 repeat' (first
  |(refine WLg.mk ?_;first
  |refine ac ?_|refine au ?_|refine aE ?_)|apply ab|refine aj rfl ?_|apply ae|apply aa|apply ai|apply thN|fail)
 refine az (cA (l:=fr178 sc c 0) KH) ?_;refine aA c.guards.length (λk x h1=>x=fr178 sc c k/\Fd es (cB (λi cs=>mT (exD (lkE es) s) (dm c.guards i) d cs) zs k) h h1 (12*bS (gdL (c.guards.take k)))) ?_ (i:=0) (Nat.zero_le _) ⟨rfl,(Fd.refl fs).up (Nat.zero_le _)⟩;rintro k _ P A ⟨rfl,fa⟩;have hi2:k<9223372036854775807:=by omega
 have e:=fa.nx;cases q:Nat.blt k c.guards.length with
 |false=>
  have t:k=c.guards.length:=by have:=cC q;omega
  rw [t,List.take_length]at fa e;obtain⟨p,J,G⟩:=f187 E o (l:=c.body) (by omega) fa.fs f (by omega);have f1:Fd es _ h p (12*(bS (gdL c.guards)+bS (smL c.body))):=(fa.trans G).up (by omega)
  repeat' (first
   |(refine WLg.mk ?_;first
   |refine ac ?_|refine av rfl rfl (ce Hy) rfl ?_|refine au ?_|refine aw J ?_)|apply ab|refine aj rfl ?_|apply ae|apply aa|apply ai|apply ak|refine ah rfl (λb=>?_) (λb=>?_)|apply ax|apply thN|apply thE|apply onE|fail)
  any_goals (first|exact Nq q|skip)
  exact⟨.inl rfl,_,rfl,f1.kb.le,rfl,f1.eq rfl⟩
 |true=>
  have g:=bX q;have y:=zZ g;have M:=r (k+1);have C:=dT (dm c.guards k)
  repeat' (first
   |(refine WLg.mk ?_;first
   |refine ac ?_|refine av rfl rfl (ce Hy) rfl ?_|refine ap rfl rfl (dY (j:=0) (nD Hy) rfl _) rfl ?_|refine au ?_)|apply ab|refine aj rfl ?_|apply ae|apply aa|apply ai|apply ak|refine ah rfl (λb=>?_) (λb=>?_)|apply ax|apply thN|apply thE|apply onE|fail)
  any_goals (first|exact Nr q|skip)
  refine az (cA (l:=fr178i sc c k 0) KH) ?_;refine aA (dm c.guards k).length (λj x h1=>x=fr178i sc c k j/\Fd es (cB (λi cs=>exD (lkE es) s d (cE (dm c.guards k) i) cs) (cB (λi cs=>mT (exD (lkE es) s) (dm c.guards i) d cs) zs k) j) h h1 (12*bS (gdL (c.guards.take k))+12*bS (exL ((dm c.guards k).take j)))) ?_ (i:=0) (Nat.zero_le _) ⟨rfl,fa.up (Nat.le_add_right _ _)⟩;clear fa e q;rintro j _ hd B ⟨rfl,fd⟩;have O:j<9223372036854775807:=by omega
  have F:=fd.nx;cases qn:Nat.blt j (dm c.guards k).length with
  |false=>
   have n:j=(dm c.guards k).length:=by have:=cC qn;omega
   rw [n,List.take_length]at fd;have f1:Fd es _ h hd (12*bS (gdL (c.guards.take (k+1)))):=fd.up (by omega)
   repeat' (first
    |(refine WLg.mk ?_;first
    |refine ac ?_|refine av rfl rfl (ce Hy) rfl ?_)|apply ab|refine aj rfl ?_|apply ae|apply aa|apply ai|apply ak|refine ah rfl (λb=>?_) (λb=>?_)|apply ax|apply thN|apply thE|apply onE|fail)
   all_goals first
    |exact .norm ⟨_,_,cA KH,g,rfl,f1.eq rfl⟩|exact Nq qn
  |true=>
   have a:=bX qn;have w:=ja a;have u:=gK (dm c.guards k) (j+1);have m:hd.next<900000000:=by omega
   obtain⟨I,D,K⟩:=E (cE (dm c.guards k) j) (by omega) hd sc _ _ fd.fs f (by omega);have f1:Fd es _ h I (12*bS (gdL (c.guards.take k))+12*bS (exL ((dm c.guards k).take (j+1)))):=(fd.trans K).up (by omega);have z:∀v,v∈exO (cE (dm c.guards k) j)->bY v:=λv p=>(dQ _ v p).x
   repeat' (first
    |(refine WLg.mk ?_;first
    |refine ac ?_|refine av rfl rfl (ce Hy) rfl ?_|refine ap rfl rfl (show ROp.run (.load true 11) [.eptr (exO (cE (dm c.guards k) j)) 0] _=some (.agg (exO (cE (dm c.guards k) j)))from rfl) rfl ?_|refine ap rfl rfl (dF Hy) rfl ?_|refine aJ rfl rfl (dE m) rfl rfl rfl rfl rfl rfl rfl rfl z rfl rfl ?_|refine aw D ?_)|apply ab|refine aj rfl ?_|apply ae|apply aa|apply ai|apply ak|refine ah rfl (λb=>?_) (λb=>?_)|apply ax|apply thN|apply thE|apply onE|fail)
   all_goals first
    |exact .norm ⟨_,_,cA KH,a,rfl,f1.eq rfl⟩|exact Nr qn
end
end
section
theorem IvK.fd{es:List (V×V)}{h0 h:H}{k n:Nat}{st:St2}(i:IvK es h0 k st h)(hn:h.next<=h0.next+n):Fd es st.2 h0 h n:=⟨i.fs,⟨by have:=i.lt;have:=i.lek;omega,i.kb⟩,hn⟩
theorem FsI.own{es:List (V×V)}{zs:List V}{h:H}(fs:FsI es zs h)(l:h.next<900000000){sc:V}{d:Dp}(c:Scp sc d):∃h2,EOp.run (.store 1) [.ptr h.next 0,sc] ⟨h.t.put h.next (some (bxB .nilf)),Nat.succ h.next⟩=some (cT,h2)/\IvK es h h.next (d,zs) h2/\h2.next=h.next+1:=by
 have g:900000002<bZ:=by unfold bZ;omega
 have i:cellsOf sc=[sc]/\cQ sc=true:=by
  obtain⟨f,a,b,rfl⟩:=c.fn;exact⟨rfl,rfl⟩
 have k:(⟨h.t.put h.next (some (bxB .nilf)),Nat.succ h.next⟩:H).blk h.next=some (.cells 1 (cM [.nilf] 0 .e) none false):=by
  rw [gO (by omega),if_pos rfl];rfl
 refine⟨_,iH k i.1 i.2 (by decide),IvK.new (tr:=(cM [.nilf] 0 .e).put 0 (some sc)) fs c rfl (λj m=>?_) ?_ ?_,rfl⟩
 ·rw [gO (by omega),if_neg (by omega)]
  show(⟨h.t.put h.next (some (bxB .nilf)),h.next⟩:H).blk j=_;rw [gO (by omega),if_neg (by omega)]
 ·rw [gO (by omega),if_pos rfl]
 ·rw [Tr.get_put _ _ _ _ (by omega),if_pos rfl]
noncomputable section
def fr199(sc:V)(l:List Cl)(i:Nat):AL:=[(0,.ptr 2 0),(2,sc),(11,.lst l.length 4 (clL l)),(12,.int .i64 (Int.ofNat l.length)),(13,.int .i64 (Int.ofNat i))]
def fr199i(sc own:V)(l:List Cl)(i j:Nat):AL:=[(0,.ptr 2 0),(2,sc),(7,.eptr (clO (bV l i)) 0),(8,own),(11,.lst l.length 4 (clL l)),(12,.int .i64 (Int.ofNat l.length)),(13,.int .i64 (Int.ofNat i)),
 (19,.lst (bV l i).pats.length 11 (exL (bV l i).pats)),(20,.int .i64 (Int.ofNat (bV l i).pats.length)),(21,.int .i64 (Int.ofNat j))]
def fr166(sc:V)(l:List Cl)(i:Nat):AL:=[(2,sc),(3,fB),(13,.lst l.length 4 (clL l)),(14,.int .i64 (Int.ofNat l.length)),(15,.int .i64 (Int.ofNat i))]
def fr166a(sc:V)(k:Nat)(l:List Cl)(i j:Nat):AL:=[(2,sc),(3,fB),(7,.eptr (clO (bV l i)) 0),(8,.ptr k 0),(13,.lst l.length 4 (clL l)),(14,.int .i64 (Int.ofNat l.length)),(15,.int .i64 (Int.ofNat i)),
 (21,.lst (bV l i).pats.length 11 (exL (bV l i).pats)),(22,.int .i64 (Int.ofNat (bV l i).pats.length)),(23,.int .i64 (Int.ofNat j))]
def fr166b(sc:V)(k:Nat)(l:List Cl)(i j:Nat):AL:=[(2,sc),(3,fB),(7,.eptr (clO (bV l i)) 0),(8,.ptr k 0),(13,.lst l.length 4 (clL l)),(14,.int .i64 (Int.ofNat l.length)),(15,.int .i64 (Int.ofNat i)),
 (32,.lst (bV l i).pats.length 11 (exL (bV l i).pats)),(33,.int .i64 (Int.ofNat (bV l i).pats.length)),(34,.int .i64 (Int.ofNat j))]
end
section
variable {es:List (V×V)} {s:Nat}
set_option maxHeartbeats 6400000 in
theorem f199(E:SE es s)(C:s<=6000001){l:List Cl}(hl:bS (clL l)<s){h:H}{sc:V}{d:Dp}{zs:List V}(fs:FsI es zs h)(B:Scp sc d)(hb:h.next+12*bS (clL l)<900000000):∃h',CN 199 [.ptr 2 0,.lst l.length 4 (clL l),sc] h (.tup []) h'/\Fd es (rB (lkE es) (exD (lkE es) s) l d zs) h h' (12*bS (clL l)):=by
 have Z:=fR l;have np:=dl fs.le;refine dh Tryz.func199 (by decide) KV.2 rfl rfl np ?_
 repeat' (first
  |(refine WLg.mk ?_;first
  |refine ac ?_)|apply ab|refine aj rfl ?_|apply ae|apply aa|apply ai|apply thN|fail)
 refine az (cA (l:=fr199 sc l 0) KH) ?_;refine aA l.length (λk x h1=>x=fr199 sc l k/\Fd es (cB (λi cs=>yV (lkE es) (exD (lkE es) s) (bV l i) d cs) zs k) h h1 (12*bS (clL (l.take k)))) ?_ (i:=0) (Nat.zero_le _) ⟨rfl,(Fd.refl fs).up (Nat.zero_le _)⟩;rintro k _ Q K ⟨rfl,fa⟩;obtain⟨f,m⟩:∃f,f=(cB (λi cs=>yV (lkE es) (exD (lkE es) s) (bV l i) d cs) zs k):=⟨_,rfl⟩
 have n:cB (λi cs=>yV (lkE es) (exD (lkE es) s) (bV l i) d cs) zs (k+1)=yV (lkE es) (exD (lkE es) s) (bV l k) d f:=by rw [m];rfl
 rw [n];rw [<-m]at fa;have hi2:k<9223372036854775807:=by omega
 have A:=fa.nx;cases q:Nat.blt k l.length with
 |false=>
  have y:k=l.length:=by have:=cC q;omega
  repeat' (first
   |(refine WLg.mk ?_;first
   |refine ac ?_|refine av rfl rfl (ce Hy) rfl ?_)|apply ab|refine aj rfl ?_|apply ae|apply aa|apply ai|apply ak|refine ah rfl (λo=>?_) (λo=>?_)|apply ax|apply thN|apply thE|apply onE|fail)
  any_goals (first|exact Nq q|skip)
  rw [y,List.take_length]at fa;exact⟨.inl rfl,_,rfl,fa.kb.le,rfl,fa.eq (by rw [m,y];rfl)⟩
 |true=>
  have t:=bX q;have J:=oO t;have W:=mL l (k+1);have U:=gM (bV l k);have N:=dT (bV l k).pats;have e:Q.next<900000000:=by omega
  have z:∀v,v∈clO (bV l k)->bY v:=λv w=>(hO _ v w).x
  repeat' (first
   |(refine WLg.mk ?_;first
   |refine ac ?_|refine av rfl rfl (ce Hy) rfl ?_|refine au ?_|refine ap rfl rfl (eV Hy) rfl ?_|refine aJ rfl rfl (dE e) rfl rfl rfl rfl rfl rfl rfl rfl z rfl rfl ?_)|apply ab|refine aj rfl ?_|apply ae|apply aa|apply ai|apply ak|refine ah rfl (λo=>?_) (λo=>?_)|apply ax|apply thN|apply thE|apply onE|fail)
  any_goals (first|exact Nr q|skip)
  refine az (cA (l:=fr199i sc sc l k 0) KH) ?_;refine aA (bV l k).pats.length (λj x h1=>∃own,Scp own (cB (λi st=>oH (lkE es) (cE (bV l k).pats i) st) (d,f) j).1/\x=fr199i sc own l k j/\Fd es (cB (λi st=>oH (lkE es) (cE (bV l k).pats i) st) (d,f) j).2 h h1 (12*bS (clL (l.take k))+12*bS (exL ((bV l k).pats.take j)))) ?_ (i:=0) (Nat.zero_le _) ⟨sc,B,rfl,fa.up (Nat.le_add_right _ _)⟩;clear fa A q e z;rintro j _ hd L ⟨own,a,rfl,fd⟩;obtain⟨st,p⟩:∃st,st=(cB (λi st=>oH (lkE es) (cE (bV l k).pats i) st) (d,f) j):=⟨_,rfl⟩
  have b:cB (λi st=>oH (lkE es) (cE (bV l k).pats i) st) (d,f) (j+1)=oH (lkE es) (cE (bV l k).pats j) st:=by rw [p];rfl
  rw [b];rw [<-p]at a fd;have Y:j<9223372036854775807:=by omega
  have D:=fd.nx;cases qn:Nat.blt j (bV l k).pats.length with
  |false=>
   have u:j=(bV l k).pats.length:=by have:=cC qn;omega
   rw [u,List.take_length]at fd D;obtain⟨w,S,P⟩:=f178 E C (c:=bV l k) (by omega) fd.fs a (by omega);have f1:Fd es (yV (lkE es) (exD (lkE es) s) (bV l k) d f) h w (12*bS (clL (l.take (k+1)))):=((fd.trans P).up (by omega)).eq (by rw [yV,p,u])
   repeat' (first
    |(refine WLg.mk ?_;first
    |refine ac ?_|refine av rfl rfl (ce Hy) rfl ?_|refine ap rfl rfl (show ROp.run (.load true 4) [.eptr (clO (bV l k)) 0] _=some (.agg (clO (bV l k)))from rfl) rfl ?_|refine aw S ?_)|apply ab|refine aj rfl ?_|apply ae|apply aa|apply ai|apply ak|refine ah rfl (λo=>?_) (λo=>?_)|apply ax|apply thN|apply thE|apply onE|fail)
   all_goals first
    |exact .norm ⟨_,_,cA KH,t,rfl,f1⟩|exact Nq qn
  |true=>
   have g:=bX qn;have I:=ja g;have G:=gK (bV l k).pats (j+1);have e:hd.next<900000000:=by omega
   have O:=iM (cE (bV l k).pats j);obtain⟨F,R,r,M,T⟩:=f201 (x:=cE (bV l k).pats j) fd.fs a (by omega) (by omega);have f1:Fd es _ h R (12*bS (clL (l.take k))+12*bS (exL ((bV l k).pats.take (j+1)))):=(fd.trans T).up (by omega);have z:∀v,v∈exO (cE (bV l k).pats j)->bY v:=λv w=>(dQ _ v w).x
   repeat' (first
    |(refine WLg.mk ?_;first
    |refine ac ?_|refine av rfl rfl (ce Hy) rfl ?_|refine ap rfl rfl (show ROp.run (.load true 11) [.eptr (exO (cE (bV l k).pats j)) 0] _=some (.agg (exO (cE (bV l k).pats j)))from rfl) rfl ?_|refine au ?_|refine ap rfl rfl (dF Hy) rfl ?_|refine aJ rfl rfl (dE e) rfl rfl rfl rfl rfl rfl rfl rfl z rfl rfl ?_|refine aw M ?_)|apply ab|refine aj rfl ?_|apply ae|apply aa|apply ai|apply ak|refine ah rfl (λo=>?_) (λo=>?_)|apply ax|apply thN|apply thE|apply onE|fail)
   all_goals first
    |exact .norm ⟨_,_,cA KH,g,F,r,rfl,f1⟩|exact Nr qn
set_option maxHeartbeats 6400000 in
theorem f166(E:SE es s)(L:s<=6000001){l:List Cl}(hl:bS (clL l)<s){h:H}{sc:V}{d:Dp}{zs:List V}(fs:FsI es zs h)(K:Scp sc d)(hb:h.next+12*bS (clL l)<900000000):∃h',CN 166 [.ptr 2 0,.lst l.length 4 (clL l),sc] h (.tup []) h'/\Fd es (th (lkE es) (exD (lkE es) s) l d zs) h h' (12*bS (clL l)):=by
 have hn:=fR l;have np:=dl fs.le;have b2:dG (λid=>id=h.next) (.ptr 2 0):=fC λq=>by have:=fs.le;omega
 refine dh Tryz.func166 (by decide) Lb.2 rfl rfl np ?_
 repeat' (first
  |(refine WLg.mk ?_;first
  |refine ac ?_|refine aY (x:= .ptr 2 0) rfl rfl rfl rfl b2 rfl ?_)|apply ab|refine aj rfl ?_|apply ae|apply aa|apply ai|apply thN|fail)
 refine az (cA (l:=fr166 sc l 0) KH) ?_;refine aA l.length (λk x h1=>x=fr166 sc l k/\Fd es (cB (λi cs=>yv (lkE es) (exD (lkE es) s) (bV l i) d cs) zs k) h h1 (12*bS (clL (l.take k)))) ?_ (i:=0) (Nat.zero_le _) ⟨rfl,(Fd.refl fs).up (Nat.zero_le _)⟩;rintro k _ f S ⟨rfl,fa⟩;obtain⟨u,o⟩:∃u,u=(cB (λi cs=>yv (lkE es) (exD (lkE es) s) (bV l i) d cs) zs k):=⟨_,rfl⟩
 have r:cB (λi cs=>yv (lkE es) (exD (lkE es) s) (bV l i) d cs) zs (k+1)=yv (lkE es) (exD (lkE es) s) (bV l k) d u:=by rw [o];rfl
 rw [r];rw [<-o]at fa;have hi2:k<9223372036854775807:=by omega
 have Q:=fa.nx;cases q:Nat.blt k l.length with
 |false=>
  have F:k=l.length:=by have:=cC q;omega
  repeat' (first
   |(refine WLg.mk ?_;first
   |refine ac ?_|refine av rfl rfl (ce Hy) rfl ?_)|apply ab|refine aj rfl ?_|apply ae|apply aa|apply ai|apply ak|refine ah rfl (λm=>?_) (λm=>?_)|apply ax|apply thN|apply thE|apply onE|fail)
  any_goals (first|exact Nq q|skip)
  rw [F,List.take_length]at fa;exact⟨.inl rfl,_,rfl,fa.kb.le,rfl,fa.eq (by rw [o,F];rfl)⟩
 |true=>
  have z:=bX q;have O:=oO z;have a1:=mL l (k+1);have a0:=gM (bV l k);have T:=dT (bV l k).pats;have a:f.next<900000000:=by omega
  have w:∀v,v∈clO (bV l k)->bY v:=λv p=>(hO _ v p).x;obtain⟨hz,M,P,R⟩:=FsI.own fa.fs a K
  repeat' (first
   |(refine WLg.mk ?_;first
   |refine ac ?_|refine av rfl rfl (ce Hy) rfl ?_|refine au ?_|refine ap rfl rfl (eV Hy) rfl ?_|refine aJ rfl rfl (dE a) rfl rfl rfl rfl rfl rfl rfl rfl w rfl rfl ?_|refine aI (t:=f.t) (k:=f.next) (vs:=[]) (b:=bxB .nilf) (mk:=λi=>.ptr i 0) rfl rfl rfl (dE a) rfl ?_|refine aK rfl rfl M rfl ?_)|apply ab|refine aj rfl ?_|apply ae|apply aa|apply ai|apply ak|refine ah rfl (λm=>?_) (λm=>?_)|apply ax|apply thN|apply thE|apply onE|fail)
  any_goals (first|exact Nr q|skip)
  refine az (cA (l:=fr166a sc f.next l k 0) KH) ?_;refine aA (bV l k).pats.length (λj x h1=>x=fr166a sc f.next l k j/\IvK es f f.next (cB (λi st=>vaD xV (λ_ st=>st) B6 (cE (bV l k).pats i) st) (d,u) j) h1/\h1.next<=f.next+1+4*bS (exL ((bV l k).pats.take j))) ?_ (i:=0) (Nat.zero_le _) ⟨rfl,P,by omega⟩;clear q a w M P R;rintro j _ hd y ⟨rfl,id,nd⟩;have D:j<9223372036854775807:=by omega
  cases qn:Nat.blt j (bV l k).pats.length with
  |false=>
   have g:j=(bV l k).pats.length:=by have:=cC qn;omega
   rw [g,List.take_length]at nd
   repeat' (first
    |(refine WLg.mk ?_;first
    |refine ac ?_|refine av rfl rfl (ce Hy) rfl ?_|refine au ?_)|apply ab|refine aj rfl ?_|apply ae|apply aa|apply ai|apply ak|refine ah rfl (λm=>?_) (λm=>?_)|apply ax|apply thN|apply thE|apply onE|fail)
   any_goals (first|exact Nq qn|skip)
   refine az (cA (l:=fr166b sc f.next l k 0) KH) ?_;refine aA (bV l k).pats.length (λj x h1=>x=fr166b sc f.next l k j/\IvK es f f.next (cB (λi st=>vaD (λ_ _ st=>st) (sG (lkE es)) B6 (cE (bV l k).pats i) st) (Jp (bV l k) d u) j) h1/\h1.next<=f.next+1+4*bS (exL (bV l k).pats)+4*bS (exL ((bV l k).pats.take j))) ?_ (i:=0) (Nat.zero_le _) ⟨rfl,id.eq (by rw [g];rfl),by omega⟩;clear g y D qn id nd m;clear j hd;rintro j _ hd y ⟨rfl,id,nd⟩;have D:j<9223372036854775807:=by omega
   cases qn:Nat.blt j (bV l k).pats.length with
   |false=>
    have g:j=(bV l k).pats.length:=by have:=cC qn;omega
    rw [g,List.take_length]at nd;obtain⟨own,B,bx⟩:=id.bx;have Z:=bx.ld;have fd:=id.fd (n:=1+8*bS (exL (bV l k).pats)) (by omega);obtain⟨p,Y,U⟩:=f178 E L (c:=bV l k) (by omega) id.fs B (by omega);have f1:Fd es (yv (lkE es) (exD (lkE es) s) (bV l k) d u) h p (12*bS (clL (l.take (k+1)))):=(((fa.trans fd).trans U).up (by omega)).eq (by rw [yv,g])
    repeat' (first
     |(refine WLg.mk ?_;first
     |refine ac ?_|refine av rfl rfl (ce Hy) rfl ?_|refine ap rfl rfl (show ROp.run (.load true 4) [.eptr (clO (bV l k)) 0] _=some (.agg (clO (bV l k)))from rfl) rfl ?_|refine ap rfl rfl Z rfl ?_|refine au ?_|refine aw Y ?_)|apply ab|refine aj rfl ?_|apply ae|apply aa|apply ai|apply ak|refine ah rfl (λm=>?_) (λm=>?_)|apply ax|apply thN|apply thE|apply onE|fail)
    all_goals first
     |exact .norm ⟨_,_,cA KH,z,rfl,f1⟩|exact Nq qn
   |true=>
    have e:=bX qn;have C:=ja e;have A:=gK (bV l k).pats (j+1);have a:hd.next<900000000:=by omega
    obtain⟨W,J,I,G,nu⟩:=oW (vcC (es:=es) (h0:=f) (k:=f.next)) B6 kY (cE (bV l k).pats j) (mr (by omega)) _ hd id (by omega);have w:∀v,v∈exO (cE (bV l k).pats j)->bY v:=λv p=>(dQ _ v p).x
    repeat' (first
     |(refine WLg.mk ?_;first
     |refine ac ?_|refine av rfl rfl (ce Hy) rfl ?_|refine ap rfl rfl (show ROp.run (.load true 11) [.eptr (exO (cE (bV l k).pats j)) 0] _=some (.agg (exO (cE (bV l k).pats j)))from rfl) rfl ?_|refine au ?_|refine ap rfl rfl (dF Hy) rfl ?_|refine aJ rfl rfl (dE a) rfl rfl rfl rfl rfl rfl rfl rfl w rfl rfl ?_|refine aw J ?_)|apply ab|refine aj rfl ?_|apply ae|apply aa|apply ai|apply ak|refine ah rfl (λm=>?_) (λm=>?_)|apply ax|apply thN|apply thE|apply onE|fail)
    all_goals first
     |exact .norm ⟨_,_,cA KH,e,rfl,I,by omega⟩|exact Nr qn
  |true=>
   have e:=bX qn;have C:=ja e;have A:=gK (bV l k).pats (j+1);have a:hd.next<900000000:=by omega
   obtain⟨W,J,I,G,nu⟩:=oW (vcB (es:=es) (h0:=f) (k:=f.next)) B6 kY (cE (bV l k).pats j) (mr (by omega)) _ hd id (by omega);have w:∀v,v∈exO (cE (bV l k).pats j)->bY v:=λv p=>(dQ _ v p).x
   repeat' (first
    |(refine WLg.mk ?_;first
    |refine ac ?_|refine av rfl rfl (ce Hy) rfl ?_|refine ap rfl rfl (show ROp.run (.load true 11) [.eptr (exO (cE (bV l k).pats j)) 0] _=some (.agg (exO (cE (bV l k).pats j)))from rfl) rfl ?_|refine au ?_|refine ap rfl rfl (dF Hy) rfl ?_|refine aJ rfl rfl (dE a) rfl rfl rfl rfl rfl rfl rfl rfl w rfl rfl ?_|refine aw J ?_)|apply ab|refine aj rfl ?_|apply ae|apply aa|apply ai|apply ak|refine ah rfl (λm=>?_) (λm=>?_)|apply ax|apply thN|apply thE|apply onE|fail)
   all_goals first
    |exact .norm ⟨_,_,cA KH,e,rfl,I,by omega⟩|exact Nr qn
end
end
section
theorem ti{S:Type}{C:Ex->H->Bool->H->Prop}{Inv:S->H->Prop}{F:S->Ex->S}:∀(L:List Ex),(∀y,y∈L->∀s h,Inv s h->h.next+12*bS (exO y)<900000000->∃h',C y h true h'/\Inv (F s y) h'/\h'.next<=h.next+12*bS (exO y))->∀s h,Inv s h->h.next+12*bS (exL L)<900000000->∃h',Rk C L h true h'/\Inv (L.foldl F s) h'/\h'.next<=h.next+12*bS (exL L)
 |[],_,s,h,i,_=>⟨h,.nil,i,Nat.le_add_right _ _⟩
 |y ::L,k,s,h,i,hb=>by
  rw [cV,cy]at hb ⊢;obtain⟨h1,c,i1,n1⟩:=k y List.mem_cons_self s h i (by omega);obtain⟨h2,r,i2,n2⟩:=ti L (λz hz=>k z (List.mem_cons_of_mem _ hz)) _ h1 i1 (by omega);exact⟨h2,.go c r,i2,by omega⟩
noncomputable section
def fr186(a:Nat)(sc:V)(x:Ex)(i:Nat):AL:=[(3,fB),(4,.eptr (exO x) 0),(5,.eptr [sc] 0),(a,.lst x.items.length 11 (exL x.items)),(a+1,.int .i64 (Int.ofNat x.items.length)),(a+2,.int .i64 (Int.ofNat i))]
end
section
variable {es:List (V×V)} {s:Nat}
theorem f200(E:SE es s){y:Ex}(i:bS (exO y)<s){h:H}{sc:V}{d:Dp}{zs:List V}(fs:FsI es zs h)(a:Scp sc d)(e:h.next+12*bS (exO y)<900000000):∃h',CE 200 [fB,.eptr [sc] 0] y h true h'/\Fd es (exD (lkE es) s d y zs) h h' (12*bS (exO y)):=by
 obtain⟨h',c,f⟩:=E y i h sc _ _ fs a e;refine⟨h',⟨?_,f.kb.le,dE (by have:=f.nx;omega)⟩,f⟩;obtain⟨px,g,b,rfl,cs⟩:=a;refine fP Tryz.func200 (by decide) KU.2 rfl rfl (by have:=fs.le;omega) f.kb.le ?_
 repeat' (first
  |(refine WLg.mk ?_;first
  |refine ac ?_|refine ap rfl rfl (show ROp.run (.load true 11) [.eptr (exO y) 0] _=some (.agg (exO y))from rfl) rfl ?_|refine au ?_|refine aE ?_|refine aw c ?_)|apply ab|refine aj rfl ?_|apply ae|apply aa|apply am|apply thN|fail)
 exact⟨.inr rfl,_,rfl,rfl,rfl⟩
set_option maxHeartbeats 6400000 in
theorem C5(hs:s<=6000000)(E:SE es s):SE es (s+1):=by
 intro x hx h sc d zs fs a hb;have hk:=kC x;have a1:=dZ x;have a0:=iM x;have b:s<=6000001:=by omega
 have np:=dl fs.le;have hn:=dT x.items;have Z:bS (exO x)<=6000000:=by omega
 have U:h.next<900000000:=by omega
 obtain⟨I,Y,o,t,D⟩:=f184 fs U a x.name.size (ck x.name.data.toList);have fr:Fd es _ h I (12*bS (exO x)):=⟨o,t,by omega⟩
 obtain⟨S,cl,fl0⟩:=f166 E b (l:=x.clauses) (by omega) fs a (by omega);have fl:Fd es _ h S (12*bS (exO x)):=fl0.up (by omega);obtain⟨h8,N,f8⟩:=f199 E b (l:=x.clauses) (by omega) fs a (by omega);obtain⟨hd,W,fd⟩:∃h',CN 63 [.agg (exO x),.func (.func 200) [] [fB,.eptr [sc] 0]] h (.bool true) h'/\Fd es ((df x).foldl (λcs y=>exD (lkE es) s d y cs) zs) h h' (12*bS (exO x)):=by
  obtain⟨h',r,⟨i1,i2⟩,n2⟩:=ti (C:=CE 200 [fB,.eptr [sc] 0]) (Inv:=λcs h'=>FsI es cs h'/\Kb h h') (F:=λcs y=>exD (lkE es) s d y cs) (df x) (λy hy cs h2 i M=>by
   obtain⟨h',c,f⟩:=f200 E (by have:=fg hy;omega) i.1 a M;exact⟨h',c,⟨f.fs,i.2.trans f.kb⟩,f.nx⟩) _ h ⟨fs,.refl h⟩ (by omega)
  exact⟨h',f63 Z (by have:=fs.le;omega) (dE (by omega)) (fU (λv n=>by cases n) λv n=>by
   rcases List.mem_cons.1 n with rfl|n
   ·exact gE (nG (fC λq=>by have:=fs.le;omega))
   ·rw [List.mem_singleton.1 n]
    exact gE (nG a.px.free)) r,i1,i2,by omega⟩
 have b2:dG (λid=>id=h.next) (.ptr 2 0):=fC λq=>by have:=fs.le;omega
 have G:=a;obtain⟨px,g,e,rfl,cs⟩:=G;refine dh Tryz.func186 (by decide) KX.2 rfl rfl np ?_
 repeat' (first
  |(refine WLg.mk ?_;first
  |refine ac ?_|refine au ?_|refine aY (x:= .ptr 2 0) rfl rfl rfl rfl b2 rfl ?_|refine aE ?_|refine aw Y ?_|refine aw cl ?_|refine aw N ?_|refine aw W ?_)|apply ab|refine aj rfl ?_|apply ae|apply aa|apply ai|apply ak|refine ah rfl (λm=>?_) (λm=>?_)|apply thN|fail)
 any_goals first
  |exact absurd ((show eqI x.kind 15=true by assumption).symm.trans (show eqI x.kind 15=false by assumption)) (by decide)|exact absurd ((show eqI x.kind 16=true by assumption).symm.trans (show eqI x.kind 16=false by assumption)) (by decide)|exact absurd ((show eqI x.kind 18=true by assumption).symm.trans (show eqI x.kind 18=false by assumption)) (by decide)|skip
 ·exact⟨.inl rfl,_,rfl,fr.kb.le,rfl,fr.eq (by(try simp only [Bool.not_eq_true',Bool.not_eq_false']at*)<;>first|(simp [exD, *];done)|(simp_all [exD];done))⟩
 ·exact⟨.inl rfl,_,rfl,fl.kb.le,rfl,fl.eq (by(try simp only [Bool.not_eq_true',Bool.not_eq_false']at*)<;>first|(simp [exD, *];done)|(simp_all [exD];done))⟩
 iterate 3
  ·refine az (cA (l:=fr186 34 (fnV g e) x 0) KH) ?_
   refine aA x.items.length (λk l h1=>l=fr186 34 (fnV g e) x k/\Fd es (cB (λi cs=>exD (lkE es) s d (cE x.items i) cs) zs k) h h1 (12*bS (exL (x.items.take k)))) ?_ (i:=0) (Nat.zero_le _) ⟨rfl,(Fd.refl fs).up (Nat.zero_le _)⟩;clear Y cl W fr fl fd fl0 o t D I S hd N f8 h8;rintro k _ A K ⟨rfl,fa⟩;have hi2:k<9223372036854775807:=by omega
   have p:=fa.nx;cases q:Nat.blt k x.items.length with
   |false=>
    have w:k=x.items.length:=by have:=cC q;omega
    rw [w,List.take_length]at fa p;obtain⟨h1,c1,f1⟩:=f187 E b (l:=x.body) (by omega) fa.fs a (by omega);have n1:=f1.nx;obtain⟨h2,c2,Q⟩:=f199 E b (l:=x.clauses) (by omega) f1.fs a (by omega);have n2:=Q.nx;obtain⟨h3,c3,f3⟩:=f199 E b (l:=x.catches) (by omega) Q.fs a (by omega);have n3:=f3.nx;obtain⟨R,c4,V⟩:=f187 E b (l:=x.after) (by omega) f3.fs a (by omega);have z:Fd es _ h R (12*bS (exO x)):=((((fa.trans f1).trans Q).trans f3).trans V).up (by omega)
    repeat' (first
     |(refine WLg.mk ?_;first
     |refine ac ?_|refine av rfl rfl (ce Hy) rfl ?_|refine au ?_|refine aw c1 ?_|refine aw c2 ?_|refine aw c3 ?_|refine aw c4 ?_)|apply ab|refine aj rfl ?_|apply ae|apply aa|apply ai|apply ak|refine ah rfl (λm=>?_) (λm=>?_)|apply ax|apply thN|apply thE|apply onE|fail)
    all_goals first
     |exact⟨.inl rfl,_,rfl,z.kb.le,rfl,z.eq (by(try simp only [Bool.not_eq_true',Bool.not_eq_false']at*)<;>first|(simp [exD,mT, *];done)|(simp_all [exD,mT];done))⟩|exact Nq q
   |true=>
    have j:=bX q;have B:=ja j;have T:=gK x.items (k+1);have u:A.next<900000000:=by omega
    obtain⟨O,L,P⟩:=E (cE x.items k) (by omega) A _ _ _ fa.fs a (by omega);have f1:Fd es _ h O (12*bS (exL (x.items.take (k+1)))):=(fa.trans P).up (by omega);have J:∀v,v∈exO (cE x.items k)->bY v:=λv n=>(dQ _ v n).x
    repeat' (first
     |(refine WLg.mk ?_;first
     |refine ac ?_|refine av rfl rfl (ce Hy) rfl ?_|refine ap rfl rfl (show ROp.run (.load true 11) [.eptr (exO (cE x.items k)) 0] _=some (.agg (exO (cE x.items k)))from rfl) rfl ?_|refine au ?_|refine ap rfl rfl (dF Hy) rfl ?_|refine aJ rfl rfl (dE u) rfl rfl rfl rfl rfl rfl rfl rfl J rfl rfl ?_|refine aw L ?_)|apply ab|refine aj rfl ?_|apply ae|apply aa|apply ai|apply ak|refine ah rfl (λm=>?_) (λm=>?_)|apply ax|apply thN|apply thE|apply onE|fail)
    all_goals first
     |exact .norm ⟨_,_,cA KH,j,rfl,f1.eq rfl⟩|exact Nr q
 ·refine az (cA (l:=fr186 73 (fnV g e) x 0) KH) ?_
  refine aA x.items.length (λk l h1=>l=fr186 73 (fnV g e) x k/\Fd es (cB (λi cs=>exD (lkE es) s d (cE x.items i) cs) (rB (lkE es) (exD (lkE es) s) x.clauses d zs) k) h h1 (12*bS (clL x.clauses)+12*bS (exL (x.items.take k)))) ?_ (i:=0) (Nat.zero_le _) ⟨rfl,f8.up (Nat.le_add_right _ _)⟩;clear Y cl W fr fl fd fl0 o t D I S hd N f8 h8;rintro k _ A K ⟨rfl,fa⟩;have hi2:k<9223372036854775807:=by omega
  have p:=fa.nx;cases q:Nat.blt k x.items.length with
  |false=>
   have w:k=x.items.length:=by have:=cC q;omega
   rw [w,List.take_length]at fa p;obtain⟨R,c4,V⟩:=f187 E b (l:=x.after) (by omega) fa.fs a (by omega);have z:Fd es _ h R (12*bS (exO x)):=(fa.trans V).up (by omega)
   repeat' (first
    |(refine WLg.mk ?_;first
    |refine ac ?_|refine av rfl rfl (ce Hy) rfl ?_|refine au ?_|refine aw c4 ?_)|apply ab|refine aj rfl ?_|apply ae|apply aa|apply ai|apply ak|refine ah rfl (λm=>?_) (λm=>?_)|apply ax|apply thN|apply thE|apply onE|fail)
   all_goals first
    |exact⟨.inl rfl,_,rfl,z.kb.le,rfl,z.eq (by(try simp only [Bool.not_eq_true',Bool.not_eq_false']at*)<;>first|(simp [exD,mT, *];done)|(simp_all [exD,mT];done))⟩|exact Nq q
  |true=>
   have j:=bX q;have B:=ja j;have T:=gK x.items (k+1);have u:A.next<900000000:=by omega
   obtain⟨O,L,P⟩:=E (cE x.items k) (by omega) A _ _ _ fa.fs a (by omega);have f1:Fd es _ h O (12*bS (clL x.clauses)+12*bS (exL (x.items.take (k+1)))):=(fa.trans P).up (by omega);have J:∀v,v∈exO (cE x.items k)->bY v:=λv n=>(dQ _ v n).x
   repeat' (first
    |(refine WLg.mk ?_;first
    |refine ac ?_|refine av rfl rfl (ce Hy) rfl ?_|refine ap rfl rfl (show ROp.run (.load true 11) [.eptr (exO (cE x.items k)) 0] _=some (.agg (exO (cE x.items k)))from rfl) rfl ?_|refine au ?_|refine ap rfl rfl (dF Hy) rfl ?_|refine aJ rfl rfl (dE u) rfl rfl rfl rfl rfl rfl rfl rfl J rfl rfl ?_|refine aw L ?_)|apply ab|refine aj rfl ?_|apply ae|apply aa|apply ai|apply ak|refine ah rfl (λm=>?_) (λm=>?_)|apply ax|apply thN|apply thE|apply onE|fail)
   all_goals first
    |exact .norm ⟨_,_,cA KH,j,rfl,f1.eq rfl⟩|exact Nr q
 ·exact⟨.inl rfl,_,rfl,fd.kb.le,rfl,fd.eq (by(try simp only [Bool.not_eq_true',Bool.not_eq_false']at*)<;>first|(simp [exD, *];done)|(simp_all [exD];done))⟩
theorem vp(es:List (V×V)):∀s,s<=6000001->SE es s
 |0,_=>λx hx=>by omega
 |s+1,hs=>C5 (by omega) (vp es s (by omega))
end
end
end Ev
end Go.Proofs.YtdfphfdnoobikaaGreatDoor
