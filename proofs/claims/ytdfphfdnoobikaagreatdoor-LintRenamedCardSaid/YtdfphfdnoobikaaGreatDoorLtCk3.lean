/-
  The checker:bodies,clauses,lists of expressions.
-/
import Derived.Test.YtdfphfdnoobikaaGreatDoorLtSt
import Derived.Shelf.SlIter.Collect
import Derived.RangeFuncStops
namespace Go.Proofs.YtdfphfdnoobikaaGreatDoor
namespace Ev
section
abbrev XF:=Pl->Ex->Sc->List Fl->List Fl
noncomputable section
def jA(E:XF)(p:Pl)(s:Sm)(st:Sc×List Fl):Sc×List Fl:=
 if s.isMatch then((gI p B6 s.pat st).1,E p s.val st.1 (gI p B6 s.pat st).2)else(st.1,E p s.val st.1 st.2)
def lC(E:XF)(p:Pl)(l:List Sm)(sc:Sc)(fl:List Fl):List Fl:=(cB (λi st=>jA E p (cK l i) st) (sc,fl) l.length).2
def Kg(E:XF)(p:Pl)(c:Cl)(st:Sc×List Fl):List Fl:=
 lC E p c.body st.1 (cB (λi g=>cB (λj g=>gD p B6 (cE (dm c.guards i) j) st.1 g) g (dm c.guards i).length) st.2 c.guards.length)
def tk(E:XF)(p:Pl)(c:Cl)(sc:Sc)(fl:List Fl):List Fl:=Kg E p c (cB (λi st=>gI p B6 (cE c.pats i) st) (sc,fl) c.pats.length)
def rL(E:XF)(p:Pl)(l:List Cl)(sc:Sc)(fl:List Fl):List Fl:=cB (λi fl=>tk E p (bV l i) sc fl) fl l.length
def nH(E:XF)(p:Pl)(l:List Ex)(sc:Sc)(fl:List Fl):List Fl:=cB (λi fl=>E p (cE l i) sc fl) fl l.length
end
theorem BZ(E:XF)(p:Pl)(l:List Sm)(sc:Sc)(fl:List Fl):∀n,n<=l.length->szS (cB (λi st=>jA E p (cK l i) st) (sc,fl) n).1<=szS sc+bS (smL (l.take n))
 |0,_=>Nat.le_add_right _ _
 |n+1,h=>by
  have h1:=BZ E p l sc fl n (by omega);have h2:=vJ (show n<l.length by omega);have h3:=nj (cK l n);show szS (jA E p (cK l n) (cB (λi st=>jA E p (cK l i) st) (sc,fl) n)).1<=_;rw [jA]
  split
  ·have:=vT p B6 (cK l n).pat (cB (λi st=>jA E p (cK l i) st) (sc,fl) n)
   simp only;omega
  ·simp only
   omega
structure Gw(D:Df)(p:Pl)(fl:List Fl)(k:Nat)(h0 h:H)(n:Nat):Prop where
 cs:CS D p fl h
 km:KM k h0 h
 nx:h.next<=h0.next+n
theorem Gw.eq{D:Df}{p:Pl}{fl fl':List Fl}{k:Nat}{a b:H}{n:Nat}(x:Gw D p fl k a b n)(e:fl'=fl):Gw D p fl' k a b n:=e▸x
theorem Gs.w{D:Df}{p:Pl}{fl:List Fl}{k:Nat}{s:Sc}{a b:H}{n:Nat}(x:Gs D p fl k s a b n):Gw D p fl k a b n:=⟨x.cs,x.km,x.nx⟩
theorem Gf.w{D:Df}{p:Pl}{fl fl':List Fl}{k:Nat}{a b c:H}{n m:Nat}(x:Gf D p fl a b n)(y:Gw D p fl' k b c m)(hk:a.next<=k):Gf D p fl' a c (n+m):=⟨y.cs,x.km.fresh hk y.km.toKMx,by have:=x.nx;have:=y.nx;omega⟩
theorem Gs.f{D:Df}{p:Pl}{fl fl':List Fl}{k:Nat}{s:Sc}{a b c:H}{n m:Nat}(x:Gs D p fl k s a b n)(y:Gf D p fl' b c m):Gs D p fl' k s a c (n+m):=⟨y.cs,x.so.km0 y.km,x.km.trans (y.km.to x.cs.b0 x.so.hi),by have:=x.nx;have:=y.nx;omega⟩
def EX(D:Df)(E:XF)(t:Nat):Prop:=∀x,bS (exO x)<t->∀{p:Pl} {fl:List Fl} {k:Nat} {sc:Sc} {h:H},CS D p fl h->Sco h k sc->szS sc+bS (exO x)<=6000000->h.next+40*bS (exO x)<300000000->∃h',CN 104 [.ptr 2 0,.agg (exO x),.map k] h (.tup []) h'/\Gf D p (E p x sc fl) h h' (40*bS (exO x))
noncomputable section
def fr70(l:List Sm)(k i:Nat):AL:=[(0,.ptr 2 0),(2,.map k),(11,.lst l.length 23 (smL l)),(12,.int .i64 (Int.ofNat l.length)),(13,.int .i64 (Int.ofNat i))]
def fr52a(c:Cl)(k i:Nat):AL:=[(0,.ptr 2 0),(2,.map k),(4,.eptr (clO c) 0),(13,.lst c.pats.length 11 (exL c.pats)),(14,.int .i64 (Int.ofNat c.pats.length)),(15,.int .i64 (Int.ofNat i))]
def fr52b(c:Cl)(k i:Nat):AL:=[(0,.ptr 2 0),(2,.map k),(4,.eptr (clO c) 0),(25,.lst c.guards.length 1 (gdL c.guards)),(26,.int .i64 (Int.ofNat c.guards.length)),(27,.int .i64 (Int.ofNat i))]
def fr52c(c:Cl)(k i j:Nat):AL:=[(0,.ptr 2 0),(2,.map k),(4,.eptr (clO c) 0),(25,.lst c.guards.length 1 (gdL c.guards)),(26,.int .i64 (Int.ofNat c.guards.length)),(27,.int .i64 (Int.ofNat i)),
 (31,.lst (dm c.guards i).length 11 (exL (dm c.guards i))),(32,.int .i64 (Int.ofNat (dm c.guards i).length)),(33,.int .i64 (Int.ofNat j))]
def fr163(l:List Cl)(k i:Nat):AL:=[(0,.ptr 2 0),(2,.map k),(8,.lst l.length 4 (clL l)),(9,.int .i64 (Int.ofNat l.length)),(10,.int .i64 (Int.ofNat i))]
def fr129(l:List Ex)(k i:Nat):AL:=[(0,.ptr 2 0),(2,.map k),(8,.lst l.length 11 (exL l)),(9,.int .i64 (Int.ofNat l.length)),(10,.int .i64 (Int.ofNat i))]
end
section
variable {D:Df} {E:XF} {t:Nat} {p:Pl} {fl:List Fl} {k:Nat} {sc:Sc} {h:H}
theorem f129(X:EX D E t){l:List Ex}(B:bS (exL l)<t)(_:t<=6000001)(c:CS D p fl h)(so:Sco h k sc)(hz:szS sc+bS (exL l)<=6000000)(y:h.next+40*bS (exL l)<300000000):∃h',CN 129 [.ptr 2 0,.lst l.length 11 (exL l),.map k] h (.tup []) h'/\Gf D p (nH E p l sc fl) h h' (40*bS (exL l)):=by
 have A:=dT l;have g0:=Gf.refl c;refine dh Tryz.func129 (by decide) Lx.2 rfl rfl (dl c.le) ?_
 repeat' (first
  |(refine WLg.mk ?_;first
  |refine ac ?_)|apply ab|refine aj rfl ?_|apply ae|apply aa|apply ai|apply thN|fail)
 refine az (cA (l:=fr129 l k 0) KH) ?_;refine aA l.length (λi f h1=>f=fr129 l k i/\Gf D p (cB (λi fl=>E p (cE l i) sc fl) fl i) h h1 (40*bS (exL (l.take i)))) ?_ (i:=0) (Nat.zero_le _) ⟨rfl,g0.up (Nat.zero_le _)⟩;rintro i _ n hi ⟨rfl,a⟩;have hi2:i<9223372036854775807:=by omega
 have o:=a.nx;cases q:ltI (Int.ofNat i) (Int.ofNat l.length)with
 |false=>
  have g:i=l.length:=by have:=cC q;omega
  repeat' (first
   |(refine WLg.mk ?_;first
   |refine ac ?_)|apply ab|refine aj rfl ?_|apply ae|apply aa|refine ah rfl (λb=>Nt b) (λb=>?_)|apply ax|apply thN|apply thE|apply onE|fail)
  subst g;rw [List.take_length]at a;exact⟨.inl rfl,_,rfl,a.km.le,rfl,a⟩
 |true=>
  have d:=bX q;have j:=ja d;have w:=gK l (i+1);have e:n.next<900000000:=by omega
  have m:∀v,v∈exO (cE l i)->bY v:=λv u=>(dQ _ v u).x;obtain⟨z,r,s⟩:=X (cE l i) (by omega) a.cs (so.km0 a.km) (by omega) (by omega)
  repeat' (first
   |(refine WLg.mk ?_;first
   |refine ac ?_|refine av rfl rfl (ce Hy) rfl ?_|refine ap rfl rfl (show ROp.run (.load true 11) [.eptr (exO (cE l i)) 0] _=some (.agg (exO (cE l i)))from rfl) rfl ?_|refine ap rfl rfl (dF Hy) rfl ?_|refine aJ rfl rfl (dE e) rfl rfl rfl rfl rfl rfl rfl rfl m rfl rfl ?_|refine aw r ?_)|apply ab|refine aj rfl ?_|apply ae|apply aa|apply ai|apply ak|refine ah rfl (λb=>?_) (λb=>Nf b)|apply thN|fail)
  exact .norm ⟨_,_,cA KH,d,rfl,(a.trans s).up (by omega)⟩
set_option maxHeartbeats 6400000 in
theorem f70(X:EX D E t){l:List Sm}(hl:bS (smL l)<t)(a0:t<=6000001)(c:CS D p fl h)(so:Sco h k sc)(hz:szS sc+bS (smL l)<=6000000)(hk:h.next+40*bS (smL l)+1<300000000):∃h',CN 70 [.ptr 2 0,.lst l.length 23 (smL l),.map k] h (.tup []) h'/\Gf D p (lC E p l sc fl) h h' (40*bS (smL l)+1):=by
 have hn:=iJ l;obtain⟨hc,y,a,d,b,s⟩:=f103 c so (by omega);have G:Gf D p fl h hc 1:=⟨a,b,by omega⟩
 refine dh Tryz.func70 (by decide) q70.2 rfl rfl (dl c.le) ?_
 repeat' (first
  |(refine WLg.mk ?_;first
  |refine ac ?_|refine aw y ?_)|apply ab|refine aj rfl ?_|apply ae|apply aa|apply ai|apply thN|fail)
 refine az (cA (l:=fr70 l h.next 0) KH) ?_;refine aA l.length (λi f h1=>∃kk,f=fr70 l kk i/\Sco h1 kk (cB (λi st=>jA E p (cK l i) st) (sc,fl) i).1/\Gf D p (cB (λi st=>jA E p (cK l i) st) (sc,fl) i).2 h h1 (40*bS (smL (l.take i))+1)) ?_ (i:=0) (Nat.zero_le _) ⟨_,rfl,d,G.up (by omega)⟩;clear y a d b s G;rintro i _ z hi ⟨kk,rfl,so,g⟩;have hi2:i<9223372036854775807:=by omega
 have M:=g.nx;cases q:ltI (Int.ofNat i) (Int.ofNat l.length)with
 |false=>
  have C:i=l.length:=by have:=cC q;omega
  repeat' (first
   |(refine WLg.mk ?_;first
   |refine ac ?_)|apply ab|refine aj rfl ?_|apply ae|apply aa|refine ah rfl (λe=>Nt e) (λe=>?_)|apply ax|apply thN|apply thE|apply onE|fail)
  subst C;rw [List.take_length]at g;exact⟨.inl rfl,_,rfl,g.km.le,rfl,g⟩
 |true=>
  have j:=bX q;have K:=vJ j;have a1:=vI l (i+1);have P:=nj (cK l i);have o:z.next<900000000:=by omega
  have F:∀v,v∈smO (cK l i)->bY v:=λv B=>(ko _ v B).x;have T:=BZ E p l sc fl i (by omega);have N:=vT p B6 (cK l i).pat (cB (λi st=>jA E p (cK l i) st) (sc,fl) i)
  obtain⟨W,R,J⟩:=X (cK l i).val (by omega) g.cs so (by omega) (by omega);obtain⟨hc,y,a,d,b,s⟩:=f103 g.cs so (by omega);obtain⟨S,cp,r⟩:=vU B6 kY (cK l i).pat (mr (by omega)) a d (by omega);have Q:=r.nx;obtain⟨B,Z,I⟩:=X (cK l i).val (by omega) r.cs (so.km (b.fresh (Nat.le_refl _) r.km.toKMx).toKMx (by have:=so.lo;omega)) (by omega) (by omega);have U:=(g.trans J).up (m:=40*bS (smL (l.take (i+1)))+1) (by omega);have V:Gf D p _ h S (40*bS (smL (l.take i))+1+(1+8*bS (exO (cK l i).pat))):=g.trans ((⟨a,b,by omega⟩:Gf D p _ z hc 1).w r.w (Nat.le_refl _));have Y:=(V.trans I).up (m:=40*bS (smL (l.take (i+1)))+1) (by omega);have L:=r.so.km0 I.km;have O:=so.km0 J.km;cases A:(cK l i).isMatch
  ·have u:jA E p (cK l i) (cB (λi st=>jA E p (cK l i) st) (sc,fl) i)=((cB (λi st=>jA E p (cK l i) st) (sc,fl) i).1,E p (cK l i).val (cB (λi st=>jA E p (cK l i) st) (sc,fl) i).1 (cB (λi st=>jA E p (cK l i) st) (sc,fl) i).2):=by rw [jA,A];rfl
   have n:∀h,ROp.run (.load false 1) [.eptr (smO (cK l i)) 0] h=some (.bool false):=λh=>(show ROp.run (.load false 1) [.eptr (smO (cK l i)) 0] h=some (.bool (cK l i).isMatch)from rfl).trans (by rw [A])
   repeat' (first
    |(refine WLg.mk ?_;first
    |refine ac ?_|refine av rfl rfl (ce Hy) rfl ?_|refine ap rfl rfl (n _) rfl ?_|refine ap rfl rfl (show ROp.run (.load true 11) [.eptr (smO (cK l i)) 12] _=some (.agg (exO (cK l i).val))from rfl) rfl ?_|refine ap rfl rfl (fV Hy) rfl ?_|refine aJ rfl rfl (dE o) rfl rfl rfl rfl rfl rfl rfl rfl F rfl rfl ?_|refine aw R ?_)|apply ab|refine aj rfl ?_|apply ae|apply aa|apply ai|apply ak|refine aF rfl ?_|refine ah rfl (λe=>?_) (λe=>Nf e)|apply ax|apply thN|apply thE|fail)
   refine .norm ⟨_,_,cA KH,j,kk,rfl,?_,?_⟩
   ·show Sco W kk (jA E p (cK l i) _).1
    rw [u];exact O
   ·show Gf D p (jA E p (cK l i) _).2 _ _ _
    rw [u];exact U
  ·have u:jA E p (cK l i) (cB (λi st=>jA E p (cK l i) st) (sc,fl) i)=((gI p B6 (cK l i).pat (cB (λi st=>jA E p (cK l i) st) (sc,fl) i)).1,E p (cK l i).val (cB (λi st=>jA E p (cK l i) st) (sc,fl) i).1 (gI p B6 (cK l i).pat (cB (λi st=>jA E p (cK l i) st) (sc,fl) i)).2):=by rw [jA,A];rfl
   have n:∀h,ROp.run (.load false 1) [.eptr (smO (cK l i)) 0] h=some (.bool true):=λh=>(show ROp.run (.load false 1) [.eptr (smO (cK l i)) 0] h=some (.bool (cK l i).isMatch)from rfl).trans (by rw [A])
   repeat' (first
    |(refine WLg.mk ?_;first
    |refine ac ?_|refine av rfl rfl (ce Hy) rfl ?_|refine ap rfl rfl (n _) rfl ?_|refine ap rfl rfl (show ROp.run (.load true 11) [.eptr (smO (cK l i)) 1] _=some (.agg (exO (cK l i).pat))from rfl) rfl ?_|refine ap rfl rfl (show ROp.run (.load true 11) [.eptr (smO (cK l i)) 12] _=some (.agg (exO (cK l i).val))from rfl) rfl ?_|refine ap rfl rfl (fV Hy) rfl ?_|refine aJ rfl rfl (dE o) rfl rfl rfl rfl rfl rfl rfl rfl F rfl rfl ?_|refine aw y ?_|refine aw cp ?_|refine aw Z ?_)|apply ab|refine aj rfl ?_|apply ae|apply aa|apply ai|apply ak|refine aD rfl ?_|refine ah rfl (λe=>?_) (λe=>Nf e)|apply thN|fail)
   refine .norm ⟨_,_,cA KH,j,z.next,rfl,?_,?_⟩
   ·show Sco B z.next (jA E p (cK l i) _).1
    rw [u];exact L
   ·show Gf D p (jA E p (cK l i) _).2 _ _ _
    rw [u];exact Y
set_option maxHeartbeats 6400000 in
theorem f52(X:EX D E t){x:Cl}(hl:bS (clO x)<t)(L:t<=6000001)(c:CS D p fl h)(so:Sco h k sc)(hz:szS sc+bS (clO x)<=6000000)(hk:h.next+40*bS (clO x)-100<300000000):∃h',CN 52 [.ptr 2 0,.agg (clO x),.map k] h (.tup []) h'/\Gw D p (tk E p x sc fl) k h h' (40*bS (clO x)-100):=by
 have W:=gM x;have hn:=dT x.pats;have T:=j0 x.guards;have M:=wq x.guards;refine dh Tryz.func52 (by decide) q52.2 rfl rfl (dl c.le) ?_
 repeat' (first
  |(refine WLg.mk ?_;first
  |refine ac ?_|refine au ?_|refine aE ?_)|apply ab|refine aj rfl ?_|apply ae|apply aa|apply ai|apply thN|fail)
 refine az (cA (l:=fr52a x k 0) KH) ?_;refine aA x.pats.length (λi f h1=>f=fr52a x k i/\Gs D p (cB (λi st=>gI p B6 (cE x.pats i) st) (sc,fl) i).2 k (cB (λi st=>gI p B6 (cE x.pats i) st) (sc,fl) i).1 h h1 (8*bS (exL (x.pats.take i)))) ?_ (i:=0) (Nat.zero_le _) ⟨rfl,(Gs.refl c so).up (Nat.zero_le _)⟩;rintro i _ z hi ⟨rfl,a⟩;have hi2:i<9223372036854775807:=by omega
 have d:=a.nx;cases q:ltI (Int.ofNat i) (Int.ofNat x.pats.length)with
 |true=>
  have e:=bX q;have B:=ja e;have N:=gK x.pats (i+1);have u:z.next<900000000:=by omega
  have C:∀v,v∈exO (cE x.pats i)->bY v:=λv K=>(dQ _ v K).x;obtain⟨V,G,J⟩:=vU B6 kY (cE x.pats i) (mr (by omega)) a.cs a.so (by omega)
  repeat' (first
   |(refine WLg.mk ?_;first
   |refine ac ?_|refine av rfl rfl (ce Hy) rfl ?_|refine ap rfl rfl (show ROp.run (.load true 11) [.eptr (exO (cE x.pats i)) 0] _=some (.agg (exO (cE x.pats i)))from rfl) rfl ?_|refine ap rfl rfl (dF Hy) rfl ?_|refine aJ rfl rfl (dE u) rfl rfl rfl rfl rfl rfl rfl rfl C rfl rfl ?_|refine aw G ?_)|apply ab|refine aj rfl ?_|apply ae|apply aa|apply ai|apply ak|refine ah rfl (λb=>?_) (λb=>Nf b)|apply thN|fail)
  exact .norm ⟨_,_,cA KH,e,rfl,(a.trans J).up (by omega)⟩
 |false=>
  have y:i=x.pats.length:=by have:=cC q;omega
  repeat' (first
   |(refine WLg.mk ?_;first
   |refine ac ?_|refine au ?_)|apply ab|refine aj rfl ?_|apply ae|apply aa|apply ai|refine ah rfl (λb=>Nt b) (λb=>?_)|apply ax|apply thN|apply thE|apply onE|fail)
  subst y;rw [List.take_length]at a d;have o:=rY (g:=λst:Sc×List Fl=>szS st.1) (l:=x.pats) (f:=λi st=>gI p B6 (cE x.pats i) st) (s:=(sc,fl)) (λi s _=>vT p B6 _ s) x.pats.length (Nat.le_refl _);rw [List.take_length]at o;generalize A:cB (λi st=>gI p B6 (cE x.pats i) st) (sc,fl) x.pats.length=st at a o;simp only at o;have F:tk E p x sc fl=lC E p x.body st.1 (cB (λi fl=>cB (λj fl=>gD p B6 (cE (dm x.guards i) j) st.1 fl) fl (dm x.guards i).length) st.2 x.guards.length):=by rw [tk,A];rfl
  refine az (cA (l:=fr52b x k 0) KH) ?_;refine aA x.guards.length (λi f h1=>f=fr52b x k i/\Gs D p (cB (λi fl=>cB (λj fl=>gD p B6 (cE (dm x.guards i) j) st.1 fl) fl (dm x.guards i).length) st.2 i) k st.1 h h1 (8*bS (exL x.pats)+8*bS (gdL (x.guards.take i)))) ?_ (i:=0) (Nat.zero_le _) ⟨rfl,a.up (Nat.le_add_right _ _)⟩;clear A a hi hi2 q d b;clear z;rintro i _ z hi ⟨rfl,a⟩;have hi2:i<9223372036854775807:=by omega
  have d:=a.nx;cases q:ltI (Int.ofNat i) (Int.ofNat x.guards.length)with
  |false=>
   have y:i=x.guards.length:=by have:=cC q;omega
   subst y;rw [List.take_length]at a d;obtain⟨hb,U,Y⟩:=f70 X (l:=x.body) (by omega) L a.cs a.so (by omega) (by omega);have r:=((a.f Y).up (m:=40*bS (clO x)-100) (by omega)).w.eq F
   repeat' (first
    |(refine WLg.mk ?_;first
    |refine ac ?_|refine au ?_|refine aw U ?_)|apply ab|refine aj rfl ?_|apply ae|apply aa|refine ah rfl (λb=>Nt b) (λb=>?_)|apply ax|apply thN|apply thE|apply onE|fail)
   exact⟨.inl rfl,_,rfl,r.km.le,rfl,r⟩
  |true=>
   have e:=bX q;have B:=zZ e;have N:=M (i+1);have S:=dT (dm x.guards i)
   repeat' (first
    |(refine WLg.mk ?_;first
    |refine ac ?_|refine av rfl rfl (ce Hy) rfl ?_|refine ap rfl rfl (dY (j:=0) (nD Hy) rfl _) rfl ?_)|apply ab|refine aj rfl ?_|apply ae|apply aa|apply ai|apply ak|refine ah rfl (λb=>?_) (λb=>Nf b)|apply thN|fail)
   refine az (cA (l:=fr52c x k i 0) KH) ?_;refine aA (dm x.guards i).length (λj f h1=>f=fr52c x k i j/\Gs D p (cB (λj fl=>gD p B6 (cE (dm x.guards i) j) st.1 fl) (cB (λi fl=>cB (λj fl=>gD p B6 (cE (dm x.guards i) j) st.1 fl) fl (dm x.guards i).length) st.2 i) j) k st.1 h h1 (8*bS (exL x.pats)+8*bS (gdL (x.guards.take i))+8*bS (exL ((dm x.guards i).take j)))) ?_ (i:=0) (Nat.zero_le _) ⟨rfl,a.up (Nat.le_add_right _ _)⟩;clear a d;clear z;rintro j _ z Z ⟨rfl,a⟩;have R:j<9223372036854775807:=by omega
   have d:=a.nx;cases O:ltI (Int.ofNat j) (Int.ofNat (dm x.guards i).length)with
   |false=>
    have I:j=(dm x.guards i).length:=by have:=cC O;omega
    subst I;rw [List.take_length]at a;have r:=a.up (m:=8*bS (exL x.pats)+8*bS (gdL (x.guards.take (i+1)))) (by omega)
    repeat' (first
     |(refine WLg.mk ?_;first
     |refine ac ?_)|apply ab|refine aj rfl ?_|apply ae|apply aa|refine ah rfl (λb=>Nt b) (λb=>?_)|apply ax|apply thN|apply thE|apply onE|fail)
    exact .norm ⟨_,_,cA KH,e,rfl,r⟩
   |true=>
    have n:=bX O;have Q:=ja n;have P:=gK (dm x.guards i) (j+1);have u:z.next<900000000:=by omega
    have C:∀v,v∈exO (cE (dm x.guards i) j)->bY v:=λv K=>(dQ _ v K).x;obtain⟨V,G,J⟩:=vi B6 kY (cE (dm x.guards i) j) (mr (by omega)) a.cs a.so (by omega);have r:=(a.f J).up (m:=8*bS (exL x.pats)+8*bS (gdL (x.guards.take i))+8*bS (exL ((dm x.guards i).take (j+1)))) (by omega)
    repeat' (first
     |(refine WLg.mk ?_;first
     |refine ac ?_|refine av rfl rfl (ce Hy) rfl ?_|refine ap rfl rfl (show ROp.run (.load true 11) [.eptr (exO (cE (dm x.guards i) j)) 0] _=some (.agg (exO (cE (dm x.guards i) j)))from rfl) rfl ?_|refine ap rfl rfl (dF Hy) rfl ?_|refine aJ rfl rfl (dE u) rfl rfl rfl rfl rfl rfl rfl rfl C rfl rfl ?_|refine aw G ?_)|apply ab|refine aj rfl ?_|apply ae|apply aa|apply ai|apply ak|refine ah rfl (λb=>?_) (λb=>Nf b)|apply thN|fail)
    exact .norm ⟨_,_,cA KH,n,rfl,r⟩
theorem f163(X:EX D E t){l:List Cl}(P:bS (clL l)<t)(j:t<=6000001)(c:CS D p fl h)(so:Sco h k sc)(hz:szS sc+bS (clL l)<=6000000)(L:h.next+40*bS (clL l)<300000000):∃h',CN 163 [.ptr 2 0,.lst l.length 4 (clL l),.map k] h (.tup []) h'/\Gf D p (rL E p l sc fl) h h' (40*bS (clL l)):=by
 have O:=fR l;have g0:=Gf.refl c;refine dh Tryz.func163 (by decide) Lf.2 rfl rfl (dl c.le) ?_
 repeat' (first
  |(refine WLg.mk ?_;first
  |refine ac ?_)|apply ab|refine aj rfl ?_|apply ae|apply aa|apply ai|apply thN|fail)
 refine az (cA (l:=fr163 l k 0) KH) ?_;refine aA l.length (λi f h1=>f=fr163 l k i/\Gf D p (cB (λi fl=>tk E p (bV l i) sc fl) fl i) h h1 (40*bS (clL (l.take i)))) ?_ (i:=0) (Nat.zero_le _) ⟨rfl,g0.up (Nat.zero_le _)⟩;rintro i _ u hi ⟨rfl,a⟩;have hi2:i<9223372036854775807:=by omega
 have A:=a.nx;cases q:ltI (Int.ofNat i) (Int.ofNat l.length)with
 |false=>
  have o:i=l.length:=by have:=cC q;omega
  repeat' (first
   |(refine WLg.mk ?_;first
   |refine ac ?_)|apply ab|refine aj rfl ?_|apply ae|apply aa|refine ah rfl (λd=>Nt d) (λd=>?_)|apply ax|apply thN|apply thE|apply onE|fail)
  subst o;rw [List.take_length]at a;exact⟨.inl rfl,_,rfl,a.km.le,rfl,a⟩
 |true=>
  have b:=bX q;have y:=oO b;have K:=mL l (i+1);have J:=gM (bV l i);have g:u.next<900000000:=by omega
  have z:∀v,v∈clO (bV l i)->bY v:=λv G=>(hO _ v G).x;obtain⟨hc,F,e,n,s,I⟩:=f103 a.cs (so.km0 a.km) (by omega);obtain⟨M,B,C⟩:=f52 X (x:=bV l i) (by omega) j e n (by omega) (by omega);have r:=(a.trans ((⟨e,s,by omega⟩:Gf D p _ u hc 1).w C (Nat.le_refl _))).up (m:=40*bS (clL (l.take (i+1)))) (by omega)
  repeat' (first
   |(refine WLg.mk ?_;first
   |refine ac ?_|refine av rfl rfl (ce Hy) rfl ?_|refine ap rfl rfl (eV Hy) rfl ?_|refine aJ rfl rfl (dE g) rfl rfl rfl rfl rfl rfl rfl rfl z rfl rfl ?_)
   |(show WX _ _ _ _ _ _ _ _ _ _;first
   |refine aH ?_|refine aQ rfl rfl (show ROp.run (.load true 4) [.eptr (clO (bV l i)) 0] _=some (.agg (clO (bV l i)))from rfl) rfl ?_|refine bh rfl rfl rfl (F) .none rfl ?_|refine bh rfl rfl rfl (B) .none rfl ?_|refine aO (by repeat' (first|exact bR.nil|refine bR.any (λh=>rfl) ?_|refine bR.first rfl ?_|refine bR.first (show ROp.run (.load true 4) [.eptr (clO (bV l i)) 0] _=some (.agg (clO (bV l i)))from rfl) ?_|refine bR.snd (show ROp.run (.load true 4) [.eptr (clO (bV l i)) 0] _=some (.agg (clO (bV l i)))from rfl) ?_|refine bR.any (λh=>show ROp.run (.load true 4) [.eptr (clO (bV l i)) 0] _=some (.agg (clO (bV l i)))from rfl) ?_|refine bR.first (eV Hy) ?_|refine bR.snd (eV Hy) ?_|refine bR.any (λh=>eV Hy) ?_|refine bR.first (dy Hy rfl) ?_|refine bR.snd (dy Hy rfl) ?_|refine bR.any (λh=>dy Hy rfl) ?_|refine bR.each (.cons rfl .nil) ?_|refine bR.each (.cons rfl (.cons rfl .nil)) ?_|refine bR.each (.cons rfl (.cons rfl (.cons rfl .nil))) ?_)) ?_)|apply ab|refine aj rfl ?_|apply ae|apply aa|apply ai|apply ak|refine ah rfl (λd=>?_) (λd=>Nf d)|refine aP ?_|apply thN|fail)
  exact .norm ⟨_,_,cA KH,b,rfl,r⟩
end
end
section
noncomputable section
def t8(E:XF)(p:Pl)(g:Sg)(sc:Sc)(fl:List Fl):List Fl:=
 if g.sized then E p g.size sc (if eqI g.type 4 then fl else E p g.val sc fl)else(if eqI g.type 4 then fl else E p g.val sc fl)
def yQ(E:XF)(p:Pl)(l:List Sg)(sc:Sc)(fl:List Fl):List Fl:=cB (λi fl=>t8 E p (cG l i) sc fl) fl l.length
def tY(D:Df)(E:XF)(p:Pl)(x:Ex)(sc:Sc)(fl:List Fl):List Fl:=
 nH E p x.items sc (if !D x.name (Int.ofNat x.items.length)&&eqI (Jl x.name x.items.length) 0 then fl++[flw p 6 x.name (Int.ofNat x.items.length)]else fl)
def fr146(x:Ex)(k i:Nat):AL:=[(0,.ptr 2 0),(2,.map k),(9,.lst x.segs.length 27 (sgL x.segs)),(10,.int .i64 (Int.ofNat x.segs.length)),(11,.int .i64 (Int.ofNat i))]
end
section
variable {D:Df} {E:XF} {t:Nat} {p:Pl} {fl:List Fl} {k:Nat} {sc:Sc} {h:H} {x:Ex}
theorem f145(c:CS D p fl h)(d:h.next+2<300000000):∃h',CN 145 [.ptr 2 0,.agg (exO x),.map k] h (.tup []) h'/\Gf D p (fl++[flw p 8 eB 0]) h h' 2:=by
 obtain⟨h1,c1,a⟩:=f50g c d 8;have bx:∀v,v∈exO x->bY v:=λv b=>(dQ _ v b).x;refine dh Tryz.func145 (by decide) Lq.2 rfl rfl (dl c.le) ?_
 repeat' (first
  |(refine WLg.mk ?_;first
  |refine ac ?_|refine aE ?_|refine aw c1 ?_)|apply ab|refine aj rfl ?_|apply ae|apply aa|apply thN|fail)
 exact⟨.inl rfl,_,rfl,a.km.le,rfl,a⟩
set_option maxHeartbeats 6400000 in
theorem f146(X:EX D E t)(M:bS (exO x)<t+1)(_:t<=6000001)(c:CS D p fl h)(so:Sco h k sc)(hz:szS sc+bS (exO x)<=6000000)(K:h.next+40*bS (exO x)<300000001):∃h',CN 146 [.ptr 2 0,.agg (exO x),.map k] h (.tup []) h'/\Gf D p (yQ E p x.segs sc fl) h h' (40*bS (exO x)-100):=by
 have y:=dZ x;have L:=jW x.segs;have g0:=Gf.refl c;refine dh Tryz.func146 (by decide) Lp.2 rfl rfl (dl c.le) ?_
 repeat' (first
  |(refine WLg.mk ?_;first
  |refine ac ?_|refine au ?_|refine aE ?_)|apply ab|refine aj rfl ?_|apply ae|apply aa|apply ai|apply thN|fail)
 refine az (cA (l:=fr146 x k 0) KH) ?_;refine aA x.segs.length (λi f h1=>f=fr146 x k i/\Gf D p (cB (λi fl=>t8 E p (cG x.segs i) sc fl) fl i) h h1 (40*bS (sgL (x.segs.take i)))) ?_ (i:=0) (Nat.zero_le _) ⟨rfl,g0.up (Nat.zero_le _)⟩;rintro i _ C hi ⟨rfl,a⟩;have hi2:i<9223372036854775807:=by omega
 have g:=a.nx;cases q:ltI (Int.ofNat i) (Int.ofNat x.segs.length)with
 |false=>
  have n:i=x.segs.length:=by have:=cC q;omega
  repeat' (first
   |(refine WLg.mk ?_;first
   |refine ac ?_)|apply ab|refine aj rfl ?_|apply ae|apply aa|refine ah rfl (λd=>Nt d) (λd=>?_)|apply ax|apply thN|apply thE|apply onE|fail)
  subst n;rw [List.take_length]at a;exact⟨.inl rfl,_,rfl,a.km.le,rfl,a.up (by omega)⟩
 |true=>
  have b:=bX q;have s:=sI b;have I:=pe x.segs (i+1);have z:=lR (cG x.segs i);have j:C.next<900000000:=by omega
  have w:∀v,v∈sgO (cG x.segs i)->bY v:=λv A=>(fH _ v A).x;obtain⟨h1,c1,e⟩:=X (cG x.segs i).val (by omega) a.cs (so.km0 a.km) (by omega) (by omega);have n1:=e.nx;obtain⟨h2,c2,r⟩:=X (cG x.segs i).size (by omega) e.cs ((so.km0 a.km).km0 e.km) (by omega) (by omega);obtain⟨J,c3,o⟩:=X (cG x.segs i).size (by omega) a.cs (so.km0 a.km) (by omega) (by omega);have u:=a.up (m:=40*bS (sgL (x.segs.take (i+1)))) (by omega);have B:=(a.trans e).up (m:=40*bS (sgL (x.segs.take (i+1)))) (by omega);have G:=((a.trans e).trans r).up (m:=40*bS (sgL (x.segs.take (i+1)))) (by omega);have F:=(a.trans o).up (m:=40*bS (sgL (x.segs.take (i+1)))) (by omega);clear a e r o g n1
  repeat' (first
   |(refine WLg.mk ?_;first
   |refine ac ?_|refine av rfl rfl (ce Hy) rfl ?_|refine ap rfl rfl (show ROp.run (.load true 11) [.eptr (sgO (cG x.segs i)) 2] _=some (.agg (exO (cG x.segs i).val))from rfl) rfl ?_|refine ap rfl rfl (show ROp.run (.load true 11) [.eptr (sgO (cG x.segs i)) 13] _=some (.agg (exO (cG x.segs i).size))from rfl) rfl ?_|refine au ?_|refine ap rfl rfl (fq Hy) rfl ?_|refine aJ rfl rfl (dE j) rfl rfl rfl rfl rfl rfl rfl rfl w rfl rfl ?_|refine aw c1 ?_|refine aw c2 ?_|refine aw c3 ?_)|apply ab|refine aj rfl ?_|apply ae|apply aa|apply ai|apply ak|refine ah rfl (λd=>?_) (λd=>Nf d)|refine ah rfl (λd=>?_) (λd=>?_)|apply thN|fail)
  all_goals first
   |exact .norm ⟨_,_,cA KH,b,rfl,G.eq (by(try simp only [Bool.not_eq_true',Bool.not_eq_false']at*)<;>first|(simp [cB,t8, *];done)|(simp_all [t8];done))⟩|exact .norm ⟨_,_,cA KH,b,rfl,B.eq (by(try simp only [Bool.not_eq_true',Bool.not_eq_false']at*)<;>first|(simp [cB,t8, *];done)|(simp_all [t8];done))⟩|exact .norm ⟨_,_,cA KH,b,rfl,F.eq (by(try simp only [Bool.not_eq_false']at*)<;>first|(simp [cB,t8, *];done)|(simp_all [t8];done))⟩|exact .norm ⟨_,_,cA KH,b,rfl,u.eq (by(try simp only [Bool.not_eq_false']at*)<;>first|(simp [cB,t8, *];done)|(simp_all [cB,t8];done))⟩
theorem f147(X:EX D E t)(L:bS (exO x)<t+1)(z:t<=6000000)(c:CS D p fl h)(so:Sco h k sc)(hz:szS sc+bS (exO x)<=6000000)(J:h.next+40*bS (exO x)<300000001):∃h',CN 147 [.ptr 2 0,.agg (exO x),.map k] h (.tup []) h'/\Gf D p (tY D E p x sc fl) h h' (40*bS (exO x)-100):=by
 have r:=dZ x;have K:=dT x.items;have e:=BU (b:=x.name) (n:=x.items.length) (by omega) (by omega);obtain⟨G,o,w,y⟩:=c.b1;obtain⟨I,lk,j⟩:=y h 1 o w x.name (Int.ofNat x.items.length);obtain⟨tr,v,B,t0,F,t2,u,t4,gl⟩:=c.b2;have a:ROp.run (.load false 1) [.ptr 2 3] h=some (.map 1):=dI B u (by decide);obtain⟨h1,c1,d⟩:∃h',_/\Gf D p _ h h' 2:=f50 c (by omega) 6 (Int.ofNat x.items.length) x.name |>.imp λh' q=>⟨q.1,q.2.1,q.2.2.1,by have:=q.2.2.2.1;omega⟩
 have n1:=d.nx;obtain⟨h2,c2,A⟩:=f129 X (l:=x.items) (by omega) (by omega) c so (by omega) (by omega);obtain⟨C,c3,s⟩:=f129 X (l:=x.items) (by omega) (by omega) d.cs (so.km0 d.km) (by omega) (by omega);have i:=A.up (m:=40*bS (exO x)-100) (by omega);have g:=(d.trans s).up (m:=40*bS (exO x)-100) (by omega);refine dh Tryz.func147 (by decide) cf147_ok rfl rfl (dl c.le) ?_
 repeat' (first
  |(refine WLg.mk ?_;first
  |refine ac ?_|refine au ?_|refine aE ?_|refine aw c1 ?_|refine aw c2 ?_|refine aw c3 ?_)
  |(show WX _ _ _ _ _ _ _ _ _ _;first
  |refine bn rfl rfl rfl ?_|refine bt rfl rfl rfl ?_|refine aH ?_|refine aQ rfl rfl (a) rfl ?_|refine aQ rfl rfl (lk) rfl ?_|refine aM ?_|refine aR e ?_|(fail_if_success refine WX.gt rfl ?_);refine bp rfl rfl rfl (λf=>?_) (λf=>?_)|refine aO (by repeat' (first|exact bR.nil|refine bR.any (λh=>rfl) ?_|refine bR.first rfl ?_|refine bR.first (a) ?_|refine bR.snd (a) ?_|refine bR.any (λh=>a) ?_|refine bR.first (lk) ?_|refine bR.snd (lk) ?_|refine bR.any (λh=>lk) ?_|refine bR.each (.cons rfl .nil) ?_|refine bR.each (.cons rfl (.cons rfl .nil)) ?_|refine bR.each (.cons rfl (.cons rfl (.cons rfl .nil))) ?_)) ?_)|apply ab|refine aj rfl ?_|apply ae|apply aa|apply ak|refine aD rfl ?_|refine ah rfl (λf=>?_) (λf=>?_)|refine aP ?_|apply thN|fail)
 all_goals first
  |exact⟨.inl rfl,_,rfl,g.km.le,rfl,g.eq (by rw [tY,<-j];simp_all)⟩|exact⟨.inl rfl,_,rfl,i.km.le,rfl,i.eq (by rw [tY,<-j];simp_all)⟩
theorem f149(X:EX D E t)(f:bS (exO x)<t+1)(d:t<=6000000)(c:CS D p fl h)(so:Sco h k sc)(hz:szS sc+bS (exO x)<=6000000)(e:h.next+40*bS (exO x)<300000001):∃h',CN 149 [.ptr 2 0,.agg (exO x),.map k] h (.tup []) h'/\Gf D p (lC E p x.body sc fl) h h' (40*bS (exO x)-100):=by
 have b:=dZ x;obtain⟨h1,c1,a⟩:=f70 X (l:=x.body) (by omega) (by omega) c so (by omega) (by omega);refine dh Tryz.func149 (by decide) Ln.2 rfl rfl (dl c.le) ?_
 repeat' (first
  |(refine WLg.mk ?_;first
  |refine ac ?_|refine au ?_|refine aE ?_|refine aw c1 ?_)|apply ab|refine aj rfl ?_|apply ae|apply aa|apply thN|fail)
 exact⟨.inl rfl,_,rfl,a.km.le,rfl,a.up (by omega)⟩
theorem f150(X:EX D E t)(g:bS (exO x)<t+1)(d:t<=6000000)(c:CS D p fl h)(so:Sco h k sc)(hz:szS sc+bS (exO x)<=6000000)(f:h.next+40*bS (exO x)<300000001):∃h',CN 150 [.ptr 2 0,.agg (exO x),.map k] h (.tup []) h'/\Gf D p (rL E p x.clauses sc (nH E p x.items sc fl)) h h' (40*bS (exO x)-100):=by
 have b:=dZ x;obtain⟨h1,c1,a⟩:=f129 X (l:=x.items) (by omega) (by omega) c so (by omega) (by omega);have n1:=a.nx;obtain⟨h2,c2,e⟩:=f163 X (l:=x.clauses) (by omega) (by omega) a.cs (so.km0 a.km) (by omega) (by omega);have r:=(a.trans e).up (m:=40*bS (exO x)-100) (by omega);refine dh Tryz.func150 (by decide) Lm.2 rfl rfl (dl c.le) ?_
 repeat' (first
  |(refine WLg.mk ?_;first
  |refine ac ?_|refine au ?_|refine aE ?_|refine aw c1 ?_|refine aw c2 ?_)|apply ab|refine aj rfl ?_|apply ae|apply aa|apply thN|fail)
 exact⟨.inl rfl,_,rfl,r.km.le,rfl,r⟩
theorem f151(X:EX D E t)(o:bS (exO x)<t+1)(i:t<=6000000)(c:CS D p fl h)(so:Sco h k sc)(hz:szS sc+bS (exO x)<=6000000)(j:h.next+40*bS (exO x)<300000001):∃h',CN 151 [.ptr 2 0,.agg (exO x),.map k] h (.tup []) h'/\Gf D p (lC E p x.after sc (nH E p x.items sc (rL E p x.clauses sc fl))) h h' (40*bS (exO x)-100):=by
 have f:=dZ x;obtain⟨h1,c1,b⟩:=f163 X (l:=x.clauses) (by omega) (by omega) c so (by omega) (by omega);have n1:=b.nx;have d:=so.km0 b.km;obtain⟨h2,c2,a⟩:=f129 X (l:=x.items) (by omega) (by omega) b.cs d (by omega) (by omega);have n2:=a.nx;have e:=d.km0 a.km;obtain⟨n,c3,g⟩:=f70 X (l:=x.after) (by omega) (by omega) a.cs e (by omega) (by omega);have r:=((b.trans a).trans g).up (m:=40*bS (exO x)-100) (by omega);refine dh Tryz.func151 (by decide) Ll.2 rfl rfl (dl c.le) ?_
 repeat' (first
  |(refine WLg.mk ?_;first
  |refine ac ?_|refine au ?_|refine aE ?_|refine aw c1 ?_|refine aw c2 ?_|refine aw c3 ?_)|apply ab|refine aj rfl ?_|apply ae|apply aa|apply thN|fail)
 exact⟨.inl rfl,_,rfl,r.km.le,rfl,r⟩
theorem f152(X:EX D E t)(q:bS (exO x)<t+1)(j:t<=6000000)(c:CS D p fl h)(so:Sco h k sc)(hz:szS sc+bS (exO x)<=6000000)(n:h.next+40*bS (exO x)<300000001):∃h',CN 152 [.ptr 2 0,.agg (exO x),.map k] h (.tup []) h'/\Gf D p (lC E p x.after sc (rL E p x.catches sc (rL E p x.clauses sc (lC E p x.body sc fl)))) h h' (40*bS (exO x)-100):=by
 have g:=dZ x;obtain⟨h0,f,g0⟩:=f70 X (l:=x.body) (by omega) (by omega) c so (by omega) (by omega);have s:=g0.nx;have s0:=so.km0 g0.km;obtain⟨h1,c1,b⟩:=f163 X (l:=x.clauses) (by omega) (by omega) g0.cs s0 (by omega) (by omega);have n1:=b.nx;have d:=s0.km0 b.km;obtain⟨h2,c2,a⟩:=f163 X (l:=x.catches) (by omega) (by omega) b.cs d (by omega) (by omega);have n2:=a.nx;have e:=d.km0 a.km;obtain⟨o,c3,i⟩:=f70 X (l:=x.after) (by omega) (by omega) a.cs e (by omega) (by omega);have r:=(((g0.trans b).trans a).trans i).up (m:=40*bS (exO x)-100) (by omega);refine dh Tryz.func152 (by decide) Lj.2 rfl rfl (dl c.le) ?_
 repeat' (first
  |(refine WLg.mk ?_;first
  |refine ac ?_|refine au ?_|refine aE ?_|refine aw f ?_|refine aw c1 ?_|refine aw c2 ?_|refine aw c3 ?_)|apply ab|refine aj rfl ?_|apply ae|apply aa|apply thN|fail)
 exact⟨.inl rfl,_,rfl,r.km.le,rfl,r⟩
end
end
section
noncomputable section
def leS:List UInt8->List UInt8->Bool:=λa b=>decide (a<=b)
def jk(s:Sc):List V:=((s.map λq=>q.1.data.toList).mergeSort leS).map ni
def rp(x:Ex)(ss:List V):Int:=Int.ofNat (mS x ss).length
def El(y:Cl):Sc:=cB (λi s=>iT B6 (cE y.pats i) s) [] y.pats.length
def jn(s own:Sc):Sc:=s.filter λq=>!own.any λr=>decide (r.1=q.1)
def CM(E:XF)(p:Pl)(n:Int)(y:Cl)(sc:Sc)(fl:List Fl):List Fl:=
 tk E p y (jn sc (El y)) (if eqI (Int.ofNat y.pats.length) n then fl else fl++[flw p 12 eB (Int.ofNat y.pats.length)])
def CW(E:XF)(p:Pl)(x:Ex)(sc:Sc)(fl:List Fl):List Fl:=
 cB (λi fl=>CM E p (Int.ofNat (bV x.clauses 0).pats.length) (bV x.clauses i) sc fl) (if ltI 200 (rp x (jk sc))then fl++[flw p 13 eB (rp x (jk sc))]else fl) x.clauses.length
def kn(D:Df)(E:XF)(p:Pl)(x:Ex)(sc:Sc)(fl:List Fl):List Fl:=
 if eqI x.kind 3 then xg p x sc fl else if eqI x.kind 4 then fl++[flw p 8 eB 0]else if eqI x.kind 8 then yQ E p x.segs sc fl else if eqI x.kind 10 then tY D E p x sc fl
 else if eqI x.kind 13 then CW E p x sc fl else if eqI x.kind 15 then lC E p x.body sc fl else if eqI x.kind 16 then rL E p x.clauses sc (nH E p x.items sc fl)
 else if eqI x.kind 17 then lC E p x.after sc (nH E p x.items sc (rL E p x.clauses sc fl))
 else if eqI x.kind 18 then lC E p x.after sc (rL E p x.catches sc (rL E p x.clauses sc (lC E p x.body sc fl)))else nH E p x.items sc fl
def tH(D:Df):Nat->XF
 |0=>λ_ _ _ fl=>fl
 |n+1=>kn D (tH D n)
def fnC(f:FuncId):V:= .func (.func f) [] []
def Hh:List (V×V):=[(.int .i64 3,fnC 102),(.int .i64 4,fnC 145),(.int .i64 8,fnC 146),(.int .i64 10,fnC 147),(.int .i64 13,fnC 148),(.int .i64 15,fnC 149),(.int .i64 16,fnC 150),(.int .i64 17,fnC 151),(.int .i64 18,fnC 152)]
def orR(b:Bool)(f:FuncId)(r:Option V):Option V:=Bool.rec (motive:=λ_=>Option V) r (some (fnC f)) b
def pV(z:Int):Option V:=orR (eqI z 3) 102 (orR (eqI z 4) 145 (orR (eqI z 8) 146 (orR (eqI z 10) 147 (orR (eqI z 13) 148 (orR (eqI z 15) 149 (orR (eqI z 16) 150 (orR (eqI z 17) 151 (orR (eqI z 18) 152 none))))))))
end
theorem iY{h:H}{z n:Int}{f:FuncId}{l:List (V×V)}{r:Option V}(k:gz h (.one .i) (.int .i64 z) l=some r):gz h (.one .i) (.int .i64 z) ((.int .i64 n,fnC f) ::l)=some (orR (eqI z n) f r):=by
 show(Bool.rec (motive:=λ_=>Option (Option V)) (gz h (.one .i) (.int .i64 z) l) (some (some (fnC f))) (eqI z n):Option (Option V))=_;cases eqI z n with
 |true=>rfl
 |false=>exact k
theorem yM{z:Int}{h1:H}{k:Nat}(b:h1.blk k=some (.map Hh true)):ROp.run (.lookup (.one .i) true .nilf) [.map k,.int .i64 z] h1=some (i6 true .nilf (pV z)):=by
 show oif true (ob (ob (h1.blk k) _) _)=_;rw [b];show ob (gz h1 (.one .i) (.int .i64 z) Hh) _=_;rw [show gz h1 (.one .i) (.int .i64 z) Hh=some (pV z)from iY (iY (iY (iY (iY (iY (iY (iY (iY rfl))))))))];rfl
theorem iZ{h0 h1:H}{k:Nat}{es a:List (V×V)}{o:Bool}{kk:Kk}{key v:V}(b:h1.blk k=some (.map es o))(old:∀j,j≠k->h1.blk j=h0.blk j)(f:oG h1 kk key v es=some a)(hs:fZ kk key=true)(e:k<bZ):∃h2,EOp.run (.mapup kk) [.map k,key,v] h1=some (cT,h2)/\h2.next=h1.next/\h2.blk k=some (.map a o)/\∀j,j≠k->h2.blk j=h0.blk j:=by
 have ho:h1.ord k=o:=by unfold H.ord;rw [b]
 have c:∀j,(⟨h1.t.put k (some (.map a (h1.ord k))),h1.next⟩:H).blk j=if j=k then some (.map a (h1.ord k))else h1.blk j:=λj=>gO e
 refine⟨⟨h1.t.put k (some (.map a (h1.ord k))),h1.next⟩,?_,rfl,by rw [c,if_pos rfl,ho],λj d=>by rw [c,if_neg d];exact old j d⟩;show oif (fZ kk key) (ob (ob (h1.blk k) _) _)=_;rw [hs,b];show ob (oG h1 kk key v es) _=_;rw [f];rfl
section
variable {D:Df} {E:XF} {t:Nat} {p:Pl} {fl:List Fl} {k:Nat} {sc:Sc} {h:H} {x:Ex}
theorem f128(c:CS D p fl h)(W:h.next<300000000):∃h',CN 128 [] h (.map h.next) h'/\Gf D p fl h h' 1/\h'.blk h.next=some (.map Hh true)/\h'.next=h.next+1:=by
 have b:900000002<bZ:=by unfold bZ;omega
 obtain⟨h0,d⟩:∃h0:H,h0=⟨h.t.put h.next (some (.map [] true)),Nat.succ h.next⟩:=⟨_,rfl⟩
 have l:∀j,h0.blk j=if j=h.next then some (.map [] true)else h.blk j:=λj=>by rw [d];exact gO (by omega)
 have Y:h0.next=h.next+1:=by rw [d]
 obtain⟨h1,J,n1,b1,o1⟩:=iZ (h0:=h0) (h1:=h0) (k:=h.next) (es:=[]) (o:=true) (kk:= .one .i) (key:= .int .i64 3) (v:=fnC 102) (by rw [l,if_pos rfl]) (λ_ _=>rfl) rfl rfl (by omega);obtain⟨h2,A,n2,b2,s⟩:=iZ (h0:=h0) (kk:= .one .i) (key:= .int .i64 4) (v:=fnC 145) b1 o1 rfl rfl (by omega);obtain⟨P,y,V,b3,G⟩:=iZ (h0:=h0) (kk:= .one .i) (key:= .int .i64 8) (v:=fnC 146) b2 s rfl rfl (by omega);obtain⟨Z,M,U,B,r⟩:=iZ (h0:=h0) (kk:= .one .i) (key:= .int .i64 10) (v:=fnC 147) b3 G rfl rfl (by omega);obtain⟨S,I,n5,E,u⟩:=iZ (h0:=h0) (kk:= .one .i) (key:= .int .i64 13) (v:=fnC 148) B r rfl rfl (by omega);obtain⟨O,z,n6,x,N⟩:=iZ (h0:=h0) (kk:= .one .i) (key:= .int .i64 15) (v:=fnC 149) E u rfl rfl (by omega);obtain⟨T,K,n7,q,n⟩:=iZ (h0:=h0) (kk:= .one .i) (key:= .int .i64 16) (v:=fnC 150) x N rfl rfl (by omega);obtain⟨Q,u8,n8,F,L⟩:=iZ (h0:=h0) (kk:= .one .i) (key:= .int .i64 17) (v:=fnC 151) q n rfl rfl (by omega);obtain⟨f,m,R,C,w⟩:=iZ (h0:=h0) (kk:= .one .i) (key:= .int .i64 18) (v:=fnC 152) F L rfl rfl (by omega);have nx:f.next=h.next+1:=by omega
 have old:∀j,j<h.next->f.blk j=h.blk j:=λj a=>by rw [w j (by omega),l,if_neg (by omega)]
 have g:Gf D p fl h f 1:=⟨c.mono (by omega) λj a _=>old j a,KMx.k0 ⟨by omega,λj es o a _ e=>by rw [old j a];exact e⟩,by omega⟩
 subst d;refine dh Tryz.func128 (by decide) Ly.2 rfl rfl (dl c.le) ?_
 repeat' (first
  |(refine WLg.mk ?_;first
  |refine ac ?_|refine aI (t:=h.t) (k:=h.next) rfl rfl rfl (dE (by omega)) rfl ?_|refine aK rfl rfl J rfl ?_|refine aK rfl rfl A rfl ?_|refine aK rfl rfl y rfl ?_|refine aK rfl rfl M rfl ?_|refine aK rfl rfl I rfl ?_|refine aK rfl rfl z rfl ?_|refine aK rfl rfl K rfl ?_|refine aK rfl rfl u8 rfl ?_|refine aK rfl rfl m rfl ?_)|apply ab|refine aj rfl ?_|apply ae|apply aa|apply am|apply thN|fail)
 exact⟨.inr rfl,_,rfl,g.km.le,rfl,g,C,nx⟩
theorem f104h{fn:FuncId}{fl':List Fl}{n:Nat}(c:CS D p fl h)(so:Sco h k sc)(d:h.next+1<300000000)(e:pV x.kind=some (fnC fn))(q:∀h1,CS D p fl h1->Sco h1 k sc->h1.next=h.next+1->∃h2,CN fn [.ptr 2 0,.agg (exO x),.map k] h1 (.tup []) h2/\Gf D p fl' h1 h2 n):∃h',CN 104 [.ptr 2 0,.agg (exO x),.map k] h (.tup []) h'/\Gf D p fl' h h' (1+n):=by
 obtain⟨h1,c1,a,b1,n1⟩:=f128 c (by omega);obtain⟨h2,c2,b⟩:=q h1 a.cs (so.km0 a.km) n1;have lk:=yM (z:=x.kind) b1;rw [e]at lk;have r:=a.trans b;refine dh Tryz.func104 (by decide) J0.2 rfl rfl (dl c.le) ?_
 repeat' (first
  |(refine WLg.mk ?_;first
  |refine ac ?_|refine au ?_|refine aE ?_|refine aw c2 ?_)
  |(show WX _ _ _ _ _ _ _ _ _ _;first
  |refine aH ?_|refine aQ rfl rfl (lk) rfl ?_|refine aM ?_|refine bh rfl rfl rfl (c1) .none rfl ?_|refine aO (by repeat' (first|exact bR.nil|refine bR.any (λh=>rfl) ?_|refine bR.first rfl ?_|refine bR.first (lk) ?_|refine bR.snd (lk) ?_|refine bR.any (λh=>lk) ?_|refine bR.each (.cons rfl .nil) ?_|refine bR.each (.cons rfl (.cons rfl .nil)) ?_|refine bR.each (.cons rfl (.cons rfl (.cons rfl .nil))) ?_)) ?_)|apply ab|refine aj rfl ?_|apply ae|apply aa|refine aF rfl ?_|apply am|refine aP ?_|apply thN|apply thR|fail)
 all_goals exact⟨.inr rfl,_,rfl,r.km.le,rfl,r⟩
theorem f104m(X:EX D E t)(i:bS (exO x)<t+1)(d:t<=6000000)(c:CS D p fl h)(so:Sco h k sc)(hz:szS sc+bS (exO x)<=6000000)(g:h.next+40*bS (exO x)<300000000)(e:pV x.kind=none):∃h',CN 104 [.ptr 2 0,.agg (exO x),.map k] h (.tup []) h'/\Gf D p (nH E p x.items sc fl) h h' (40*bS (exO x)):=by
 have b:=dZ x;obtain⟨h1,c1,a,b1,n1⟩:=f128 c (by omega);obtain⟨h2,c2,f⟩:=f129 X (l:=x.items) (by omega) (by omega) a.cs (so.km0 a.km) (by omega) (by omega);have lk:=yM (z:=x.kind) b1;rw [e]at lk;have r:=(a.trans f).up (m:=40*bS (exO x)) (by omega);refine dh Tryz.func104 (by decide) J0.2 rfl rfl (dl c.le) ?_
 repeat' (first
  |(refine WLg.mk ?_;first
  |refine ac ?_|refine au ?_|refine aE ?_|refine aw c2 ?_)
  |(show WX _ _ _ _ _ _ _ _ _ _;first
  |refine aH ?_|refine aQ rfl rfl (lk) rfl ?_|refine aM ?_|refine bh rfl rfl rfl (c1) .none rfl ?_|refine aO (by repeat' (first|exact bR.nil|refine bR.any (λh=>rfl) ?_|refine bR.first rfl ?_|refine bR.first (lk) ?_|refine bR.snd (lk) ?_|refine bR.any (λh=>lk) ?_|refine bR.each (.cons rfl .nil) ?_|refine bR.each (.cons rfl (.cons rfl .nil)) ?_|refine bR.each (.cons rfl (.cons rfl (.cons rfl .nil))) ?_)) ?_)|apply ab|refine aj rfl ?_|apply ae|apply aa|apply ak|refine aD rfl ?_|refine aP ?_|apply thN|fail)
 all_goals exact⟨.inl rfl,_,rfl,r.km.le,rfl,r⟩
end
def FN(D:Df)(E:XF)(t:Nat):Prop:=∀x,bS (exO x)<t+1->∀{p:Pl} {fl:List Fl} {k:Nat} {sc:Sc} {h:H},CS D p fl h->Sco h k sc->szS sc+bS (exO x)<=6000000->h.next+40*bS (exO x)<300000001->∃h',CN 148 [.ptr 2 0,.agg (exO x),.map k] h (.tup []) h'/\Gf D p (CW E p x sc fl) h h' (40*bS (exO x)-100)
theorem Af{D:Df}{E:XF}{t:Nat}(f:t<=6000000)(X:EX D E t)(Y:FN D E t):EX D (kn D E) (t+1):=by
 intro x m p fl k sc h c so hz v;have w:=iM x;have up:∀{fl':List Fl} {n:Nat},1+n<=40*bS (exO x)->(∃h',CN 104 [.ptr 2 0,.agg (exO x),.map k] h (.tup []) h'/\Gf D p fl' h h' (1+n))->kn D E p x sc fl=fl'->∃h',CN 104 [.ptr 2 0,.agg (exO x),.map k] h (.tup []) h'/\Gf D p (kn D E p x sc fl) h h' (40*bS (exO x)):=λy q e=>by
  obtain⟨h',c1,u⟩:=q;exact⟨h',c1,(u.up y).eq e⟩
 cases i:eqI x.kind 3 with
 |true=>exact up (n:=2) (by omega) (f104h c so (by omega) (by rw [pV,i];rfl) λh1 c1 a n1=>f102 c1 a (by omega) x) (by simp [kn, *])
 |false=>
 cases j:eqI x.kind 4 with
 |true=>exact up (n:=2) (by omega) (f104h c so (by omega) (by rw [pV,i,j];rfl) λh1 c1 a n1=>f145 c1 (by omega)) (by simp [kn, *])
 |false=>
 cases o:eqI x.kind 8 with
 |true=>exact up (n:=40*bS (exO x)-100) (by omega) (f104h c so (by omega) (by rw [pV,i,j,o];rfl) λh1 c1 a n1=>f146 X m (by omega) c1 a hz (by omega)) (by simp [kn, *])
 |false=>
 cases b:eqI x.kind 10 with
 |true=>exact up (n:=40*bS (exO x)-100) (by omega) (f104h c so (by omega) (by rw [pV,i,j,o,b];rfl) λh1 c1 a n1=>f147 X m f c1 a hz (by omega)) (by simp [kn, *])
 |false=>
 cases d:eqI x.kind 13 with
 |true=>exact up (n:=40*bS (exO x)-100) (by omega) (f104h c so (by omega) (by rw [pV,i,j,o,b,d];rfl) λh1 c1 a n1=>Y x m c1 a hz (by omega)) (by simp [kn, *])
 |false=>
 cases g:eqI x.kind 15 with
 |true=>exact up (n:=40*bS (exO x)-100) (by omega) (f104h c so (by omega) (by rw [pV,i,j,o,b,d,g];rfl) λh1 c1 a n1=>f149 X m f c1 a hz (by omega)) (by simp [kn, *])
 |false=>
 cases l:eqI x.kind 16 with
 |true=>exact up (n:=40*bS (exO x)-100) (by omega) (f104h c so (by omega) (by rw [pV,i,j,o,b,d,g,l];rfl) λh1 c1 a n1=>f150 X m f c1 a hz (by omega)) (by simp [kn, *])
 |false=>
 cases r:eqI x.kind 17 with
 |true=>exact up (n:=40*bS (exO x)-100) (by omega) (f104h c so (by omega) (by rw [pV,i,j,o,b,d,g,l,r];rfl) λh1 c1 a n1=>f151 X m f c1 a hz (by omega)) (by simp [kn, *])
 |false=>
 cases s:eqI x.kind 18 with
 |true=>exact up (n:=40*bS (exO x)-100) (by omega) (f104h c so (by omega) (by rw [pV,i,j,o,b,d,g,l,r,s];rfl) λh1 c1 a n1=>f152 X m f c1 a hz (by omega)) (by simp [kn, *])
 |false=>
  obtain⟨h',c1,u⟩:=f104m X m f c so hz v (by rw [pV,i,j,o,b,d,g,l,r,s];rfl);exact⟨h',c1,u.eq (by simp [kn, *])⟩
end
section
open Go.RowKit Go.Maps Go.Sort Go.Shelf Go.Lib
set_option maxRecDepth 100000 in
set_option maxHeartbeats 4000000 in
theorem CO{P:Program}{ρ:Ren}(L:SlLaysZ.n10 P ρ){H:Type}(F:Fence)(n:Nat)(G:F.fn (ρ.f 10))(E:F.round=none)(hn:1<=n)(l O off b u:Nat)(a:DataW H){R:Value->Option (DataW H×List MemPlace)}(J Q:List (List UInt8)->World->Prop)
  (hY:∀pre x W,J pre W->pre.length<Maps.size a->YieldAt F (n-1) P l #[encStr x] W λe W'=>
   (e= .returned (.bool true)/\J (pre++[x]) W'/\KeepsWalks W W')\/(e= .returned (.bool false)/\Q (pre++[x]) W'))
  (W:World) (T:AbidesFrom W.heap.size J) (hm:W.cell? ⟨O,off,none⟩=some (.map (some b))) (g:W.ownsMap P (ρ.t 26) R b u a) (h0:J [] W):
  CallsIn F n P (ρ.f 10) #[.func (.yield l) #[] #[],.pointer (some ⟨O,off,none⟩)] W λe W'=>(∃v,e= .returned v)/\
   ((∃ss:List (List UInt8),(ss.Perm (strKeys a)/\∀x,x∈ss↔has a (.string x)=true)/\J ss W')\/(∃pre:List (List UInt8),(pre.Nodup/\∀x∈pre,has a (.string x)=true)/\Q pre W')):=by
 have mixed:=L.mixed;have t0:=L.t0;have a0:=L.a0;have z0:=L.z0;have v0:=L.v0;have t4:=L.t4;have a4:=L.a4;have z4:=L.z4;have v4:=L.v4;have t23:=L.t23;have a23:=L.a23;have z23:=L.z23;have v23:=L.v23;have t26:=L.t26;have a26:=L.a26;have z26:=L.z26;have v26:=L.v26;have t33:=L.t33;have a33:=L.a33;have z33:=L.z33;have v33:=L.v33;have u0:=run_underlying L.t0;have u4:=run_underlying L.t4;have U:=run_underlying L.t23;have a7:=run_underlying L.t26;have a2:=run_underlying L.t33;obtain⟨_,_,FG⟩:=L.f10;refine callsIn_of_wp FG rfl G ?_ E;simp only [SlBodyZ.n10_ntmps ρ,List.size_toArray,List.length_cons,List.length_nil,Nat.reduceAdd,Nat.reduceSub,Array.replicate_succ,Array.replicate_zero,List.push_toArray,List.append_toArray,List.nil_append,List.cons_append]
 gi_wp2_with (first
  |(gi_at_range;refine wpListIn_range_own _ rfl _ (ρ.t 23) rfl (ρ.t 26) (ρ.t 3) (string_keyed L.t26) L.t23 _ b u _ rfl g ?_;intro w0 q A a5)
  |gi_in)
 go_frame
 gi_loopw [3] (λ_ wr=>∃(left:Lit->Bool) (cnt:Nat) (ss:List (List UInt8)),wr.ranges P (ρ.t 26) R b W.heap.size u a left cnt/\ss.length+cnt<=Maps.size a/\Collected a left ss/\J ss wr)
  (λ_ wr=>wr.rangeLeft b W.heap.size)
 case atStart=>
  exact⟨_,_,[],q,by simp,Collected.start a,T [] W w0 none h0 A (λr e=>by cases e)⟩
 case round=>
  obtain⟨left,cnt,ss,h,a1,hC,s⟩:=hrel
  gi_wp2_with (first
   |(gi_at_next;refine wpListIn_next_ranges _ rfl _ rfl (ρ.t 26) (string_keyed L.t26) R encStr id (λkey Y Z=>by obtain⟨x,hx,_⟩:=Maps.keyOf_str L.t26 Z;exact⟨x,hx⟩) (λv _ _=>⟨v,rfl⟩) b W.heap.size u _ _ _ rfl h ?_ ?_)
   |gi_in)
  ·
   intro a6 j
   gi_wp2
   go_end0
   exact⟨⟨_,rfl⟩,.inl ⟨ss,⟨hC.perm g (string_keyed L.t26) L.t26 j,λx=>by rw [hC.2 x,j];simp⟩,s⟩⟩
  ·
   intro x c Y yd yp C o k D hv K p w B N a3;obtain⟨x',ex,rfl,_⟩:=Maps.keyOf_str L.t26 k;obtain rfl:x=x':=encStr_inj ex;have M:J ss C:=T ss wr C (some W.heap.size) s B (λr e=>by cases e;exact⟨Nat.le_refl _,h.iter_walk⟩);obtain⟨fn,tmps,assign,body,S,V⟩:=hY ss x C M (by omega);clear N
   gi_wp2
   refine V.mono ?_;have i:=hC.step D K;rintro e W3 (⟨rfl,I,z⟩ | ⟨rfl,m⟩)
   ·gi_wp2
    have d:=p.of_walks z
    go_roundw
    case rel=>exact⟨_,o,ss++[x],d,by simp;omega,i,I⟩
    case measure=>rw [d.left_eq,h.left_eq];exact w
   ·
    gi_wp2
    refine bodyPost_ret (results_none rfl _ _ _) rfl ?_;exact⟨⟨_,rfl⟩,.inr ⟨ss++[x],⟨i.1,λy S=>((i.2 y).1 S).1⟩,m⟩⟩
theorem we{P:Program}{ρ:Ren}(L:SlLaysZ.n10 P ρ){H:Type}(F:Fence)(n:Nat)(g:F.fn (ρ.f 10))(j:F.round=none)(m:1<=n)(e off b h:Nat)(c:DataW H){R:Value->Option (DataW H×List MemPlace)}(w:World)(k:e<w.heap.size)
  (s:w.cell? ⟨e,off,none⟩=some (.map (some b))) (a:w.ownsMap P (ρ.t 26) R b h c):
  SeqGives F n P (ρ.f 10) #[.pointer (some ⟨e,off,none⟩)] encStr (λss=>ss.Perm (strKeys c)/\∀x,x∈ss↔has c (.string x)=true) (Maps.size c) w:=
 SeqStops.gives (Sp:=λpre=>pre.Nodup/\∀x∈pre,has c (.string x)=true) λl J Jx W hW hJ _ hY h0=>by
  have hown':W.ownsMap P (ρ.t 26) R b h c:=by
   have i:=a.lt;obtain⟨es,d,o,r,hs,q⟩:=a;exact⟨es,d,(hW.block b i).trans o,r,hs,q⟩
  exact CO {L with} F n g j m l e off b h c J Jx hY W hJ ((hW.cell (p:=⟨e,off,none⟩) k).trans s) hown' h0
theorem DI(m:Nat):AnyZ.SortsIn Tryz.prog Tryz.sorted161_ren Fence.wide m:=
 ⟨λblk off cap ss W hH hblk hsz=>callsIn_wide.2 (AnyM.slices_Sort_string Tryz.sort169 blk off cap ss W hH hblk hsz),
  λp cap W=>callsIn_wide.2 (AnyM.slices_Sort_string_none Tryz.sort169 p cap W)⟩
theorem DJ{H:Type}(f off b k:Nat)(c:DataW H)(R:Value->Option (DataW H×List MemPlace))(w:World)(j:f<w.heap.size)(l:w.cell? ⟨f,off,none⟩=some (.map (some b)))(i:w.ownsMap Tryz.prog 9 R b k c)(h:Maps.size c<=maxLen)(a:Maps.size c*16<=140737488355328):
  CallsIn Fence.wide 5 Tryz.prog 161 #[.func (.func 170) #[] #[.pointer (some ⟨f,off,none⟩)]] w λe w'=>∃(v:Value) (g:List (List UInt8)),e= .returned v/\(g.Perm (strKeys c)/\∀x,x∈g↔has c (.string x)=true)/\
   w'.ownsRow w.heap.size 9 1 v g.length ((g.mergeSort (λx y=>decide (x<=y))).map encStr)/\(v= .slice none 0 0↔g=[])/\Below w.heap.size w w':=by
 have d:=we (ρ:=Tryz.keys162_ren) {Tryz.keys162 with} Fence.wide 2 trivial rfl (by omega) f off b k c w j l i;exact AnyZ.sorted_in Tryz.sorted161 Fence.wide 5 trivial trivial trivial trivial rfl (by omega) (DI _) (enters_of Tryz.func169 (by kernel_rfl) rfl) 170 #[.pointer (some ⟨f,off,none⟩)] trivial (enters_of Tryz.func170 (by kernel_rfl) rfl) _ _ h a _ d
theorem EG{w:World}{m:Array MapEntry}{a b:Nat}{l0:List (List UInt8)}(q:w.heap[b]? =some (.map m a))(g:m.toList.map (·.key)=l0.map encStr)(k:Bd m.toList a)(o:l0.Nodup)(r:l0.length<=6000000)(j:∀l∈l0,l.length<=6000000):
  ∃D0:DataW Unit,w.ownsMap Tryz.prog 9 (λ_=>some (.nil,[])) b m.size D0/\(strKeys D0).Perm l0/\Maps.size D0=l0.length:=by
 have f:m.toList.length=l0.length:=by have:=congrArg List.length g;simpa using this
 have key:∀x∈m.toList,∃l∈l0,x.key=encStr l:=λx c=>by
  have:x.key∈m.toList.map (·.key):=List.mem_map.2 ⟨x,c,rfl⟩;rw [g]at this;obtain⟨l,h1,h2⟩:=List.mem_map.1 this;exact⟨l,h1,h2.symm⟩
 have n:Tryz.prog.underlying 9=some .string:=by kernel_rfl
 have d:∀x∈m.toList,∀l,l∈l0->x.key=encStr l->WideElems.rd Tryz.prog 9 (λ_=>some ((.nil:DataW Unit),[])) x=some (.string l,.nil):=λx _ l h1 h2=>by
  unfold WideElems.rd;rw [h2];have:keyOf Tryz.prog 9 (encStr l)=some (.string l):=by
   unfold encStr;rw [WideMaps.keyOf_string_mk n (by have:=j l h1;unfold maxLen;simp [ByteArray.size];omega)]
  rw [this];rfl
 have h:m.size<=Go.maxLen:=by
  have:m.size=l0.length:=by rw [<-Array.length_toList];exact f
  unfold Go.maxLen;omega
 refine⟨_,⟨m,a,q,⟨h,⟨λx c=>?_,?_,?_⟩,λx c=>?_⟩,Nat.le_refl _,rfl⟩,?_,?_⟩
 ·exact k.1 x c
 ·exact k.2
 ·rw [g]
  exact List.pairwise_map.2 (o.imp λi e=>i (encStr_inj e))
 ·obtain⟨l,h1,h2⟩:=key x c
  exact⟨_,d x c l h1 h2⟩
 ·show(List.map (λp:Lit×DataW Unit=>Go.strOf p.1) _).Perm l0
  refine((WideShapes.sorted_perm _).map _).trans (List.Perm.of_eq ?_);rw [List.map_map];have:∀x∈m.toList,encStr (((λp:Lit×DataW Unit=>Go.strOf p.1) ∘ WideElems.rg Tryz.prog 9 (λ_=>some (.nil,[]))) x)=x.key:=λx c=>by
   obtain⟨l,h1,h2⟩:=key x c;have hg:WideElems.rg Tryz.prog 9 (λ_=>some ((.nil:DataW Unit),[])) x=(.string l,.nil):=by
    unfold WideElems.rg;rw [d x c l h1 h2];rfl
   rw [Function.comp_apply,hg,h2];rfl
  have h2:(m.toList.map ((λp:Lit×DataW Unit=>Go.strOf p.1) ∘ WideElems.rg Tryz.prog 9 (λ_=>some (.nil,[])))).map encStr=l0.map encStr:=by
   rw [<-g,List.map_map];exact List.map_congr_left this
  exact(List.map_inj_right (λ_ _ e=>encStr_inj e)).1 h2
 ·show(List.foldr DataW.insert [] _).length=_
  rw [(WideShapes.sorted_perm _).length_eq,List.length_map,f]
theorem yg{_e:Env}{g:G}:∀{s:Sc} {us:List Value},@VRs _e g ((scE s).map (·.1)) us->us=(s.map λq=>q.1.data.toList).map encStr
 |[],_,.nil=>rfl
 |p ::l,_,.cons h t=>by
  rw [yg t];obtain⟨s,rfl,k1,k2⟩:=@oX _e g _ _ _ (show @VR _e g (.str p.1.size (ck p.1.data.toList)) _ from h);have hs:=qB (k1.trans Array.length_toList.symm) k2;show _=encStr p.1.data.toList ::_
  congr 1
  unfold encStr
  congr 1
  rw [<-hs]
theorem A2{_e:Env}{g:G}:∀l:List (List UInt8),@VRs _e g (l.map ni) (l.map encStr)
 |[]=>.nil
 |a ::l=>.cons (by have:=@VR.str _e g ⟨a.toArray⟩;simpa [ni,encStr,ByteArray.size]using this) (A2 l)
theorem uM(s:Sc):(jk s).length=s.length:=by
 unfold jk;rw [List.length_map,(List.mergeSort_perm _ _).length_eq,List.length_map]
theorem Av{h:H}{k:Nat}{s:Sc}(so:Sco h k s)(hz:szS s<=6000000):CN 161 [.func (.func 170) [] [.eptr [.map k] 0]] h (.lst (jk s).length 1 (jk s)) h:=by
 obtain⟨o,A⟩:=so.out;refine⟨λE g w us st hu=>?_⟩;cases hu with
 |cons h1 t1=>
 cases t1 with
 |nil=>
 cases h1 with
 |func O hc=>
 cases O with
 |nil=>
 cases hc with
 |cons h2 t2=>
 cases t2 with
 |nil=>
 cases h2 with
 |@eptr bb oo _ c _ xs hE hx Q=>
 cases Q with
 |cons p1 p2=>
 cases p2 with
 |nil=>
 cases p1
 rename_i mb o2 z2 hg
 obtain⟨⟨tt,i⟩,_⟩:=st.env hE;have I:=hx 0 _ rfl;rw [Nat.add_zero]at I;have L:bb<w.heap.size:=(Array.getElem?_eq_some_iff.1 i).1;have n:w.cell? ⟨bb,oo+0,none⟩=some (.map (some mb)):=by
  simp [World.cell?,i,I]
 obtain⟨b',o3,z3,m,cl,j1,j2,j3,j4⟩:=@WR.blk E _ _ _ _ st.wr k _ _ hg A;rw [hg]at j1;cases j1;have hk:=@yg E g s _ j3.1;have a1:=wd s;have M:(s.map λq=>q.1.data.toList).Nodup:=by
  have:=so.nd;rw [List.Nodup,List.pairwise_map]at this ⊢;refine this.imp λW e=>W ?_
  rename_i a b
  cases O:a.1;cases A:b.1;rw [O,A]at e;exact congrArg ByteArray.mk (Array.toList_inj.1 e)
 obtain⟨D0,n1,n2,U⟩:=EG j2 hk j4.1 M (by rw [List.length_map];omega) (λl Q=>by
  obtain⟨q,hq,rfl⟩:=List.mem_map.1 Q;have:=Bx hq;rw [Array.length_toList];show q.1.size<=_;omega)
 rw [List.length_map]at U;have main:=DJ bb (oo+0) mb m.size D0 _ w L n n1 (by rw [U];unfold Go.maxLen;omega) (by rw [U];omega);refine⟨_,Tryz.func161,by decide,rfl,callsIn_wide.2 ((callsIn_wide.1 main).mono ?_)⟩;rintro e w' ⟨v,Y,rfl,⟨B,_⟩,D,a0,J⟩;have B:=B.trans n2;have F:Y.length=s.length:=by rw [B.length_eq,List.length_map]
 have P:Y.mergeSort (λx y=>decide (x<=y))=(s.map λq=>q.1.data.toList).mergeSort leS:=mergeSort_of_perm B;have d:mV w w':=⟨J.size,λb A=>J.block b A,J.os,J.tape,J.output⟩
 have C:∀(E':En),E.le E'->(∀b c,E'.ro b=some c->E.ro b=some c\/w.heap.size<=b)->(∀b c,E'.ro b=some c->∃t:TypeId×(Nat×Nat),w'.heap[b]? =some (.cells c t.1 t.2))->gj TP noM E g h w E' g h w':=λE' m2 Z m4=>
  ⟨m2,Z,λ_ _ _ e=>e,Nat.le_refl _,st.still m2 Z m4 d,d.size,λb A _=>d.keep b A,λid b o z e=>.inr ⟨id,o,z,e⟩,λp B=>d.keep _ (by
   obtain⟨⟨z,q⟩,_⟩:=st.pin p B;exact st.lt q),d.os,d.tape,d.output⟩
 have r:∀b c,E.ro b=some c->∃t:TypeId×(Nat×Nat),w'.heap[b]? =some (.cells c t.1 t.2):=λb c e=>by
  obtain⟨⟨t,q⟩,_⟩:=st.env e;exact⟨t,(d.keep b (Array.getElem?_eq_some_iff.1 q).1).trans q⟩
 have f:=uM s;obtain⟨r1,r2⟩:=D;rcases r2 with⟨rfl,r3⟩ | ⟨gb,cap,cur,rfl,c1,c2,c3,c4,c5,V⟩
 ·have T:s=[]:=List.eq_nil_of_length_eq_zero (by omega)
  refine⟨E,g,_,rfl,?_,C E E.le_refl (λ_ _ e=>.inl e) r⟩;have:jk s=[]:=List.eq_nil_of_length_eq_zero (by rw [f,T];rfl);rw [this];exact @VR.lst0 E g 1
 ·let E':En:=⟨λb=>if b=gb then some cur else E.ro b⟩
  have S:E.ro gb=none:=by
   cases q:E.ro gb with
   |none=>rfl
   |some c=>
    obtain⟨⟨t,q2⟩,_⟩:=st.env q;have:=(Array.getElem?_eq_some_iff.1 q2).1;omega
  have R:E.le E':=λb c e=>by
   show(if b=gb then some cur else E.ro b)=some c;rw [if_neg (λq=>by rw [q,S]at e;cases e)];exact e
  have G:∀b c,E'.ro b=some c->(b=gb/\c=cur)\/E.ro b=some c:=λb c e=>by
   have e:(if b=gb then some cur else E.ro b)=some c:=e
   split at e
   ·rename_i q
    cases e;exact .inl ⟨q,rfl⟩
   ·exact .inr e
  refine⟨E',g,_,rfl,?_,C E' R (λb c e=>?_) (λb c e=>?_)⟩
  ·have V:cur.toList.take (Y.length*1)=((s.map λq=>q.1.data.toList).mergeSort leS).map encStr:=by rw [V];exact congrArg (List.map encStr) P
   rw [f,<-F];have hv:@VRs E' g (jk s) (((s.map λq=>q.1.data.toList).mergeSort leS).map encStr):=@A2 E' g _;refine @VR.lst E' g _ _ gb 0 cap cur _ (((s.map λq=>q.1.data.toList).mergeSort leS).map encStr) (if_pos rfl) (λj u K=>?_) (by rw [f,F,Nat.mul_one]) hv;rw [<-V,List.getElem?_take]at K
   split at K
   ·rw [Nat.zero_add,<-Array.getElem?_toList];exact K
   ·cases K
  ·rcases G b c e with⟨rfl,rfl⟩|e
   ·exact .inr c1
   ·exact .inl e
  ·rcases G b c e with⟨rfl,rfl⟩|e
   ·exact⟨(_,0,0),c2⟩
   ·exact r b c e
end
end Ev
end Go.Proofs.YtdfphfdnoobikaaGreatDoor
