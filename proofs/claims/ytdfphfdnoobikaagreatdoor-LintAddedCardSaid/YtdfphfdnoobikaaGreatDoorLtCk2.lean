/-
  The checker:patterns and guards.
-/
import Derived.Test.YtdfphfdnoobikaaGreatDoorLtPat
namespace Go.Proofs.YtdfphfdnoobikaaGreatDoor
namespace Ev
section
noncomputable section
def z27:List V:= .int .i64 0 :: .str 0 0 ::(ym++(ym++[.bool false,.bool false,.bool false]))
def eB:ByteArray:=⟨#[]⟩
def bsO(g:Sg):List V:=[.int .i64 8,.int .i64 0,.str 0 0,.str 0 0,.nils,.lst 1 27 (sgO g),.nils,.nils,.nils,.nils,.bool false]
def nW(p:Pl)(g:Sg)(last:Bool)(st:Sc×List Fl):Sc×List Fl:=
 (iG g st.1,if(g.sized&&(!eqI g.size.kind 1&&(!eqI g.size.kind 3||eqI (kJ st.1 g.size.name) 0)))||(!g.sized&&(!last&&(eqI g.type 2||eqI g.type 3)))
  then(if oK g then st.2 else st.2++[flw p 9 eB 0])++[flw p 11 eB 0]else if oK g then st.2 else st.2++[flw p 9 eB 0])
def sz(l:List Sg)(i:Nat):Bool:=eqI (Int.ofNat i) (cT .i64 (Int.sub (Int.ofNat l.length) (Int.ofNat 1)))
def dU(p:Pl):Nat->Ex->Sc×List Fl->Sc×List Fl
 |0,_,st=>st
 |n+1,x,st=>if eqI x.kind 5||eqI x.kind 7 then bZ (λi st=>dU p n (bW x.items i) st) st x.items.length
  else if eqI x.kind 8 then bZ (λi st=>nW p (ck x.segs i) (sz x.segs i) st) st x.segs.length
  else(gK B6 x st.1,if rb 17 [.agg (exO x)]then st.2 else st.2++[flw p 9 eB 0])
def fE(p:Pl):Nat->Ex->Sc->List Fl->List Fl
 |0,_,_,fl=>fl
 |n+1,x,s,fl=>if eqI x.kind 3 then wE p x s fl else if eqI x.kind 4 then fl++[flw p 8 eB 0]else if rb 37 [.agg (exO x)]then bZ (λi fl=>fE p n (bW x.items i) s fl) fl x.items.length else fl++[flw p 10 eB 0]
end
section
variable {D:Df} {p:Pl} {fl:List Fl} {k:Nat} {sc:Sc} {h:H}
theorem f50g(c:CS D p fl h)(hk:h.next+2<300000000)(code:Int):∃h',CN 50 [.ptr 2 0,.int .i64 code,.str 0 0,.int .i64 0] h (.tup []) h'/\Gf D p (fl++[flw p code eB 0]) h h' 2:=by
 obtain⟨h1,c1,q1,q2,q3,_⟩:=f50 c hk code 0 eB;exact⟨h1,c1,q1,q2,by omega⟩
set_option maxHeartbeats 800000 in
theorem f101s(c:CS D p fl h)(so:Sco h k sc)(hk:h.next<300000000)(g:Sg):∃h',CN 101 [.agg (bsO g),.map k] h (.tup []) h'/\Gs D p fl k (iG g sc) h h' 0:=by
 have g0:=Gs.refl c so;have px:∀v,v∈bsO g->bP v:=bO (.flat rfl) (bO (.flat rfl) (bO (.flat rfl) (bO (.flat rfl) (bO (.flat rfl) (bO (.lst λc hc=>(fM _ c hc).x) (bO (.flat rfl) (bO (.flat rfl) (bO (.flat rfl) (bO (.flat rfl) (bO (.flat rfl) px0))))))))));refine cP Tryz.func101 (by decide) GP.2 rfl rfl (cR c.le) ?_
 repeat' (first
  |(refine WLg.mk ?_;first
  |refine aa rfl rfl rfl rfl ?_|refine ab rfl rfl rfl rfl ?_|refine aA rfl rfl rfl rfl px rfl ?_)|apply ac|refine ae rfl ?_|apply ai|apply ah|apply aj|refine aD rfl ?_|refine aB rfl ?_|apply bG.norm|fail)
 refine aw (bU (l:=fr101g (sgO g) 1 k 0) KH) ?_;refine ax 1 (λi l h1=>l=fr101g (sgO g) 1 k i/\Gs D p fl k (bZ (λ_ s=>iG g s) sc i) h h1 0) ?_ (i:=0) (Nat.zero_le _) ⟨rfl,g0⟩;rintro i _ ha hi ⟨rfl,ga⟩;have hnx:=ga.nx;cases i with
 |succ i=>
  obtain rfl:i=0:=by omega
  repeat' (first
   |(refine WLg.mk ?_;first
   |refine aa rfl rfl rfl rfl ?_)|apply ac|refine ae rfl ?_|apply ai|apply ah|refine aB rfl ?_|apply av|apply bG.norm|apply bG.exit|apply OnC.exit|fail)
  exact⟨.inl rfl,_,rfl,ga.km.le,rfl,ga⟩
 |zero=>
  have hka:ha.next<900000000:=by omega
  have pp:∀v,v∈sgO g->bP v:=λv hv=>(fM _ v hv).x;have c36:=f36 g;have lk:=ga.so.look g.val.name;obtain⟨hu,mu,q1,q2,q3,q4⟩:=ga.cs.bump ga.so (by omega) g.val.name;have gu:Gs D p fl k (pj _ g.val.name) ha hu 0:=⟨q1,q2,q3,by omega⟩
  repeat' (first
   |(refine WLg.mk ?_;first
   |refine aa rfl rfl rfl rfl ?_|refine ab rfl rfl (show ROp.run (.load true 27) [.eptr (sgO g) 0] _=some (.agg (sgO g))from rfl) rfl ?_|refine ab rfl rfl lk rfl ?_|refine ab rfl rfl rfl rfl ?_|refine aC rfl rfl (cW hka) rfl rfl rfl rfl rfl rfl rfl rfl pp rfl rfl ?_|refine aq rfl rfl rfl (c36) rfl ?_|refine aE rfl rfl mu rfl ?_)|apply ac|refine ae rfl ?_|refine ay rfl rfl ?_|refine az rfl (λht=>?_) (λht=>?_)|apply ai|apply ah|apply aj|apply al|refine aD rfl ?_|refine aB rfl ?_|refine ak rfl (λht=>?_) (λht=>?_)|apply bG.norm|fail)
  all_goals first
   |exact .norm ⟨_,_,bU KH,Nat.zero_lt_one,rfl,(ga.trans gu).eq rfl (by simp [bZ,iG,oK, *])⟩|exact .norm ⟨_,_,bU KH,Nat.zero_lt_one,rfl,ga.eq rfl (by simp [bZ,iG,oK, *])⟩
set_option maxHeartbeats 1600000 in
theorem f100(c:CS D p fl h)(so:Sco h k sc)(hk:h.next+4<300000000)(g:Sg)(last:Bool):∃h',CN 100 [.ptr 2 0,.agg (sgO g),.map k,.bool last] h (.tup []) h'/\Gs D p (nW p g last (sc,fl)).2 k (nW p g last (sc,fl)).1 h h' 4:=by
 have g0:Gf D p fl h h 0:= .refl c;obtain⟨ha,ca,ga⟩:=f50g c (by omega) 9;have na:=ga.nx;have soa:=so.km0 ga.km;obtain⟨hb,cb,gb⟩:=f50g c (by omega) 11;have nb:=gb.nx;obtain⟨hc,cc,gc⟩:=f50g ga.cs (by omega) 11;have nc:=gc.nx;have lk:=so.look g.size.name;have lka:=soa.look g.size.name;obtain⟨h1,b1,s1⟩:=f101s c so (by omega) g;obtain⟨h2,b2,s2⟩:=f101s ga.cs soa (by omega) g;obtain⟨h3,b3,s3⟩:=f101s gb.cs (so.km0 gb.km) (by omega) g;obtain⟨h4,b4,s4⟩:=f101s gc.cs (soa.km0 gc.km) (by omega) g;have r1:Gs D p fl k (iG g sc) h h1 4:=s1.up (by omega);have r2:Gs D p (fl++[flw p 9 eB 0]) k (iG g sc) h h2 4:=((ga.gs c so).trans s2).up (by omega);have r3:Gs D p (fl++[flw p 11 eB 0]) k (iG g sc) h h3 4:=((gb.gs c so).trans s3).up (by omega);have r4:Gs D p ((fl++[flw p 9 eB 0])++[flw p 11 eB 0]) k (iG g sc) h h4 4:=(((ga.trans gc).gs c so).trans s4).up (by omega);have pp:∀v,v∈sgO g->bP v:=λv hv=>(fM _ v hv).x;have c36:=f36 g;clear g0 ga gb gc na nb nc soa s1 s2 s3 s4;refine cP Tryz.func100 (by decide) Ij.2 rfl rfl (cR c.le) ?_
 repeat' (first
  |(refine WLg.mk ?_;first
  |refine aa rfl rfl rfl rfl ?_|refine ab rfl rfl (show ROp.run (.load true 27) [.eptr (sgO g) 0] _=some (.agg (sgO g))from rfl) rfl ?_|refine ab rfl rfl lk rfl ?_|refine ab rfl rfl lka rfl ?_|refine ab rfl rfl rfl rfl ?_|refine aP (cs:=sgO g) rfl rfl rfl rfl rfl rfl pp rfl ?_|refine aA rfl rfl RA rfl PB rfl ?_|refine aq rfl rfl rfl (c36) rfl ?_|refine au rfl rfl rfl (ca) (λ_ _ q=>q) .none rfl ?_|refine au rfl rfl rfl (cb) (λ_ _ q=>q) .none rfl ?_|refine au rfl rfl rfl (cc) (λ_ _ q=>q) .none rfl ?_|refine au rfl rfl rfl (b1) (λ_ _ q=>q) .none rfl ?_|refine au rfl rfl rfl (b2) (λ_ _ q=>q) .none rfl ?_|refine au rfl rfl rfl (b3) (λ_ _ q=>q) .none rfl ?_|refine au rfl rfl rfl (b4) (λ_ _ q=>q) .none rfl ?_)|apply ac|refine ae rfl ?_|refine ay rfl rfl ?_|refine az rfl (λht=>?_) (λht=>?_)|apply ai|apply ah|apply aj|apply al|refine aD rfl ?_|refine aB rfl ?_|refine ak rfl (λht=>?_) (λht=>Nx (by with_reducible assumption) ht)|refine ak rfl (λht=>?_) (λht=>?_)|apply bG.norm|fail)
 all_goals first
  |exact⟨.inl rfl,_,rfl,r1.km.le,rfl,r1.eq (by(try simp only [Bool.not_eq_true',Bool.not_eq_false']at*)<;>first|(simp [nW,oK, *];done)|(simp_all [];done)) rfl⟩|exact⟨.inl rfl,_,rfl,r2.km.le,rfl,r2.eq (by(try simp only [Bool.not_eq_true',Bool.not_eq_false']at*)<;>first|(simp [nW,oK, *];done)|(simp_all [];done)) rfl⟩|exact⟨.inl rfl,_,rfl,r3.km.le,rfl,r3.eq (by(try simp only [Bool.not_eq_true',Bool.not_eq_false']at*)<;>first|(simp [nW,oK, *];done)|(simp_all [];done)) rfl⟩|exact⟨.inl rfl,_,rfl,r4.km.le,rfl,r4.eq (by(try simp only [Bool.not_eq_true',Bool.not_eq_false']at*)<;>first|(simp [nW,oK, *];done)|(simp_all [];done)) rfl⟩
noncomputable section
def fr68(x:Ex)(k i:Nat):AL:=[(0,.ptr 2 0),(2,.map k),(24,.lst x.items.length 11 (exL x.items)),(25,.int .i64 (Int.ofNat x.items.length)),(26,.int .i64 (Int.ofNat i))]
def fr68g(x:Ex)(k i:Nat):AL:=[(0,.ptr 2 0),(2,.map k),(4,.eptr (exO x) 0),(38,.lst x.segs.length 27 (sgL x.segs)),(39,.int .i64 (Int.ofNat x.segs.length)),(40,.int .i64 (Int.ofNat i))]
end
def PT(t:Nat):Prop:=∀x,bH (exO x)<t->∀{D:Df} {p:Pl} {fl:List Fl} {k:Nat} {sc:Sc} {h:H},CS D p fl h->Sco h k sc->h.next+8*bH (exO x)<300000000->∃h',CN 68 [.ptr 2 0,.agg (exO x),.map k] h (.tup []) h'/\Gs D p (dU p t x (sc,fl)).2 k (dU p t x (sc,fl)).1 h h' (8*bH (exO x))
set_option maxHeartbeats 4000000 in
theorem zR{t:Nat}(ht6:t<=6000000)(B:PT t):PT (t+1):=by
 intro x hx D p fl k sc h c so hk;have hsz:=dM x;have np:=cR c.le;have hn:=dy x.items;have hn2:=iR x.segs;have g0:=Gs.refl c so;obtain⟨ha,ca,ga⟩:=f50g c (by omega) 9;have na:=ga.nx;obtain⟨h1,b1,s1⟩:=nN B6 py x (rD (by omega)) c so (by omega);obtain⟨h2,b2,s2⟩:=nN B6 py x (rD (by omega)) ga.cs (so.km0 ga.km) (by omega);have r1:Gs D p fl k (gK B6 x sc) h h1 (8*bH (exO x)):=s1.up (by omega);have r2:Gs D p (fl++[flw p 9 eB 0]) k (gK B6 x sc) h h2 (8*bH (exO x)):=((ga.gs c so).trans s2).up (by omega);have c17:=f17 6000001 (Nat.le_refl _) x (by omega);refine cP Tryz.func68 (by decide) q68.2 rfl rfl np ?_
 repeat' (first
  |(refine WLg.mk ?_;first
  |refine aa rfl rfl rfl rfl ?_|refine ab rfl rfl (show ROp.run (.load true 11) [.eptr (exO x) 0] _=some (.agg (exO x))from rfl) rfl ?_|refine ab rfl rfl rfl rfl ?_|refine aA rfl rfl RA rfl PB rfl ?_|refine aq rfl rfl rfl (c17) rfl ?_|refine au rfl rfl rfl (ca) (λ_ _ q=>q) .none rfl ?_|refine au rfl rfl rfl (b1) (λ_ _ q=>q) .none rfl ?_|refine au rfl rfl rfl (b2) (λ_ _ q=>q) .none rfl ?_)|apply ac|refine ae rfl ?_|apply ai|apply ah|apply aj|apply al|refine ak rfl (λht=>?_) (λht=>Nx (by with_reducible assumption) ht)|refine ak rfl (λht=>?_) (λht=>?_)|apply bG.norm|fail)
 ·refine aw (bU (l:=fr68 x k 0) KH) ?_
  refine ax x.items.length (λi l h1=>l=fr68 x k i/\Gs D p (bZ (λi st=>dU p t (bW x.items i) st) (sc,fl) i).2 k (bZ (λi st=>dU p t (bW x.items i) st) (sc,fl) i).1 h h1 (8*bH (exL (x.items.take i)))) ?_ (i:=0) (Nat.zero_le _) ⟨rfl,g0.up (Nat.zero_le _)⟩;clear ca ga b1 s1 b2 s2 r1 r2 c17;rintro i _ ha hi ⟨rfl,ga⟩;have hi2:i<9223372036854775807:=by omega
  have hnx:=ga.nx;cases q:ltI (Int.ofNat i) (Int.ofNat x.items.length)with
  |false=>
   have hie:i=x.items.length:=by have:=ce q;omega
   repeat' (first
    |(refine WLg.mk ?_;first
    |refine aa rfl rfl rfl rfl ?_)|apply ac|refine ae rfl ?_|apply ai|apply ah|refine ak rfl (λht=>Nx ht (by with_reducible assumption)) (λht=>?_)|apply av|apply bG.norm|apply bG.exit|apply OnC.exit|fail)
   subst hie;rw [List.take_length]at ga;exact⟨.inl rfl,_,rfl,ga.km.le,rfl,(ga.up (by omega)).eq (by(try simp only [Bool.not_eq_true',Bool.not_eq_false']at*)<;>first|(simp [dU, *];done)|(simp_all [dU];done)) (by(try simp only [Bool.not_eq_true',Bool.not_eq_false']at*)<;>first|(simp [dU, *];done)|(simp_all [dU];done))⟩
  |true=>
   have hlt:=bL q;have hpre:=fO hlt;have hle:=eu x.items (i+1);have hka:ha.next<900000000:=by omega
   have pp:∀v,v∈exO (bW x.items i)->bP v:=λv hv=>(cZ _ v hv).x;obtain⟨hu,cu,gu⟩:=B (bW x.items i) (by omega) ga.cs ga.so (by omega)
   repeat' (first
    |(refine WLg.mk ?_;first
    |refine aa rfl rfl rfl rfl ?_|refine aa rfl rfl (bN Hy) rfl ?_|refine ab rfl rfl (show ROp.run (.load true 11) [.eptr (exO (bW x.items i)) 0] _=some (.agg (exO (bW x.items i)))from rfl) rfl ?_|refine ab rfl rfl (dA Hy) rfl ?_|refine aC rfl rfl (cW hka) rfl rfl rfl rfl rfl rfl rfl rfl pp rfl rfl ?_|refine au rfl rfl rfl (cu) (λ_ _ q=>q) .none rfl ?_)|apply ac|refine ae rfl ?_|apply ai|apply ah|apply aj|apply al|refine ak rfl (λht=>?_) (λht=>Nx (by with_reducible assumption) ht)|apply bG.norm|fail)
   exact .norm ⟨_,_,bU KH,hlt,rfl,(ga.trans gu).up (by omega)⟩
 ·refine aw (bU (l:=fr68 x k 0) KH) ?_
  refine ax x.items.length (λi l h1=>l=fr68 x k i/\Gs D p (bZ (λi st=>dU p t (bW x.items i) st) (sc,fl) i).2 k (bZ (λi st=>dU p t (bW x.items i) st) (sc,fl) i).1 h h1 (8*bH (exL (x.items.take i)))) ?_ (i:=0) (Nat.zero_le _) ⟨rfl,g0.up (Nat.zero_le _)⟩;clear ca ga b1 s1 b2 s2 r1 r2 c17;rintro i _ ha hi ⟨rfl,ga⟩;have hi2:i<9223372036854775807:=by omega
  have hnx:=ga.nx;cases q:ltI (Int.ofNat i) (Int.ofNat x.items.length)with
  |false=>
   have hie:i=x.items.length:=by have:=ce q;omega
   repeat' (first
    |(refine WLg.mk ?_;first
    |refine aa rfl rfl rfl rfl ?_)|apply ac|refine ae rfl ?_|apply ai|apply ah|refine ak rfl (λht=>Nx ht (by with_reducible assumption)) (λht=>?_)|apply av|apply bG.norm|apply bG.exit|apply OnC.exit|fail)
   subst hie;rw [List.take_length]at ga;exact⟨.inl rfl,_,rfl,ga.km.le,rfl,(ga.up (by omega)).eq (by(try simp only [Bool.not_eq_true',Bool.not_eq_false']at*)<;>first|(simp [dU, *];done)|(simp_all [dU];done)) (by(try simp only [Bool.not_eq_true',Bool.not_eq_false']at*)<;>first|(simp [dU, *];done)|(simp_all [dU];done))⟩
  |true=>
   have hlt:=bL q;have hpre:=fO hlt;have hle:=eu x.items (i+1);have hka:ha.next<900000000:=by omega
   have pp:∀v,v∈exO (bW x.items i)->bP v:=λv hv=>(cZ _ v hv).x;obtain⟨hu,cu,gu⟩:=B (bW x.items i) (by omega) ga.cs ga.so (by omega)
   repeat' (first
    |(refine WLg.mk ?_;first
    |refine aa rfl rfl rfl rfl ?_|refine aa rfl rfl (bN Hy) rfl ?_|refine ab rfl rfl (show ROp.run (.load true 11) [.eptr (exO (bW x.items i)) 0] _=some (.agg (exO (bW x.items i)))from rfl) rfl ?_|refine ab rfl rfl (dA Hy) rfl ?_|refine aC rfl rfl (cW hka) rfl rfl rfl rfl rfl rfl rfl rfl pp rfl rfl ?_|refine au rfl rfl rfl (cu) (λ_ _ q=>q) .none rfl ?_)|apply ac|refine ae rfl ?_|apply ai|apply ah|apply aj|apply al|refine ak rfl (λht=>?_) (λht=>Nx (by with_reducible assumption) ht)|apply bG.norm|fail)
   exact .norm ⟨_,_,bU KH,hlt,rfl,(ga.trans gu).up (by omega)⟩
 ·refine aw (bU (l:=fr68g x k 0) KH) ?_
  refine ax x.segs.length (λi l h1=>l=fr68g x k i/\Gs D p (bZ (λi st=>nW p (ck x.segs i) (sz x.segs i) st) (sc,fl) i).2 k (bZ (λi st=>nW p (ck x.segs i) (sz x.segs i) st) (sc,fl) i).1 h h1 (8*bH (sgL (x.segs.take i)))) ?_ (i:=0) (Nat.zero_le _) ⟨rfl,g0.up (Nat.zero_le _)⟩;clear ca ga b1 s1 b2 s2 r1 r2 c17;rintro i _ ha hi ⟨rfl,ga⟩;have hi2:i<9223372036854775807:=by omega
  have hnx:=ga.nx;cases q:ltI (Int.ofNat i) (Int.ofNat x.segs.length)with
  |false=>
   have hie:i=x.segs.length:=by have:=ce q;omega
   repeat' (first
    |(refine WLg.mk ?_;first
    |refine aa rfl rfl rfl rfl ?_)|apply ac|refine ae rfl ?_|apply ai|apply ah|refine ak rfl (λht=>Nx ht (by with_reducible assumption)) (λht=>?_)|apply av|apply bG.norm|apply bG.exit|apply OnC.exit|fail)
   subst hie;rw [List.take_length]at ga;exact⟨.inl rfl,_,rfl,ga.km.le,rfl,(ga.up (by omega)).eq (by(try simp only [Bool.not_eq_true',Bool.not_eq_false']at*)<;>first|(simp [dU, *];done)|(simp_all [dU];done)) (by(try simp only [Bool.not_eq_true',Bool.not_eq_false']at*)<;>first|(simp [dU, *];done)|(simp_all [dU];done))⟩
  |true=>
   have hlt:=bL q;have hpre:=qp hlt;have hle:=mO x.segs (i+1);have hss:=kU (ck x.segs i);have hka:ha.next<900000000:=by omega
   have pp:∀v,v∈sgO (ck x.segs i)->bP v:=λv hv=>(fM _ v hv).x;obtain⟨hv,tr,wv,csv,kmv,nxv,bv,tv,_⟩:=ga.cs.slot hka z27 (sgO (ck x.segs i)) rfl (by decide) rfl;have ldv:ROp.run (.load true 27) [.ptr ha.next 0] hv=some (.agg (sgO (ck x.segs i))):=B3 bv rfl tv;have gv:Gf D p _ ha hv 1:=⟨csv,kmv,by omega⟩
   obtain⟨hu,cu,gu⟩:=f100 csv (ga.so.km0 kmv) (by omega) (ck x.segs i) (sz x.segs i)
   repeat' (first
    |(refine WLg.mk ?_;first
    |refine aa rfl rfl rfl rfl ?_|refine aa rfl rfl (bN Hy) rfl ?_|refine ab rfl rfl ldv rfl ?_|refine ab rfl rfl rfl rfl ?_|refine ab rfl rfl (gh Hy) rfl ?_|refine aF (t:=ha.t) (k:=ha.next) rfl rfl rfl (cW hka) rfl ?_|refine au rfl rfl rfl (cu) (λ_ _ q=>q) .none rfl ?_|refine aE rfl rfl wv rfl ?_)|apply ac|refine ae rfl ?_|apply ai|apply ah|apply aj|apply al|refine ak rfl (λht=>?_) (λht=>Nx (by with_reducible assumption) ht)|apply bG.norm|fail)
   exact .norm ⟨_,_,bU KH,hlt,rfl,((ga.trans (gv.gs ga.cs ga.so)).trans gu).up (by omega)⟩
 all_goals first
  |exact⟨.inl rfl,_,rfl,r1.km.le,rfl,r1.eq (by(try simp only [Bool.not_eq_false']at*)<;>first|(simp [dU, *];done)|(simp_all [dU];done)) (by(try simp only [Bool.not_eq_false']at*)<;>first|(simp [dU, *];done)|(simp_all [dU];done))⟩|exact⟨.inl rfl,_,rfl,r2.km.le,rfl,r2.eq (by(try simp only [Bool.not_eq_true']at*)<;>first|(simp [dU, *];done)|(simp_all [dU];done)) (by(try simp only [Bool.not_eq_true']at*)<;>first|(simp [dU, *];done)|(simp_all [dU];done))⟩
theorem tz:∀t,t<=6000001->PT t
 |0,_=>λx hx=>by omega
 |t+1,hs=>zR (by omega) (tz t (by omega))
noncomputable section
def fr69(x:Ex)(k i:Nat):AL:=[(0,.ptr 2 0),(2,.map k),(9,.lst x.items.length 11 (exL x.items)),(10,.int .i64 (Int.ofNat x.items.length)),(11,.int .i64 (Int.ofNat i))]
end
def GT(t:Nat):Prop:=∀x,bH (exO x)<t->∀{D:Df} {p:Pl} {fl:List Fl} {k:Nat} {sc:Sc} {h:H},CS D p fl h->Sco h k sc->h.next+8*bH (exO x)<300000000->∃h',CN 69 [.ptr 2 0,.agg (exO x),.map k] h (.tup []) h'/\Gf D p (fE p t x sc fl) h h' (8*bH (exO x))
set_option maxHeartbeats 800000 in
theorem xp{t:Nat}(ht6:t<=6000000)(B:GT t):GT (t+1):=by
 intro x hx D p fl k sc h c so hk;have hsz:=dM x;have np:=cR c.le;have hn:=dy x.items;have g0:=Gf.refl c;obtain⟨h1,c1,g1⟩:=f102 c so (by omega) x;obtain⟨h2,c2,g2⟩:=f50g c (by omega) 8;obtain⟨h3,c3,g3⟩:=f50g c (by omega) 10;have r1:=g1.up (m:=8*bH (exO x)) (by omega);have r2:=g2.up (m:=8*bH (exO x)) (by omega);have r3:=g3.up (m:=8*bH (exO x)) (by omega);have c37:=f37 x (by omega);refine cP Tryz.func69 (by decide) q69.2 rfl rfl np ?_
 repeat' (first
  |(refine WLg.mk ?_;first
  |refine aa rfl rfl rfl rfl ?_|refine ab rfl rfl (show ROp.run (.load true 11) [.eptr (exO x) 0] _=some (.agg (exO x))from rfl) rfl ?_|refine ab rfl rfl rfl rfl ?_|refine aA rfl rfl RA rfl PB rfl ?_|refine aq rfl rfl rfl (c37) rfl ?_|refine au rfl rfl rfl (c1) (λ_ _ q=>q) .none rfl ?_|refine au rfl rfl rfl (c2) (λ_ _ q=>q) .none rfl ?_|refine au rfl rfl rfl (c3) (λ_ _ q=>q) .none rfl ?_)|apply ac|refine ae rfl ?_|apply ai|apply ah|apply aj|refine ak rfl (λht=>?_) (λht=>?_)|apply bG.norm|fail)
 ·exact⟨.inl rfl,_,rfl,r1.km.le,rfl,r1.eq (by(try simp only [Bool.not_eq_true',Bool.not_eq_false']at*)<;>first|(simp [fE, *];done)|(simp_all [fE];done))⟩
 ·exact⟨.inl rfl,_,rfl,r2.km.le,rfl,r2.eq (by(try simp only [Bool.not_eq_true',Bool.not_eq_false']at*)<;>first|(simp [fE, *];done)|(simp_all [fE];done))⟩
 ·exact⟨.inl rfl,_,rfl,r3.km.le,rfl,r3.eq (by(try simp only [Bool.not_eq_true']at*)<;>first|(simp [fE, *];done)|(simp_all [fE];done))⟩
 ·refine aw (bU (l:=fr69 x k 0) KH) ?_
  refine ax x.items.length (λi l h1=>l=fr69 x k i/\Gf D p (bZ (λi fl=>fE p t (bW x.items i) sc fl) fl i) h h1 (8*bH (exL (x.items.take i)))) ?_ (i:=0) (Nat.zero_le _) ⟨rfl,g0.up (Nat.zero_le _)⟩;clear c1 g1 c2 g2 c3 g3 r1 r2 r3 c37;rintro i _ ha hi ⟨rfl,ga⟩;have hi2:i<9223372036854775807:=by omega
  have hnx:=ga.nx;cases q:ltI (Int.ofNat i) (Int.ofNat x.items.length)with
  |false=>
   have hie:i=x.items.length:=by have:=ce q;omega
   repeat' (first
    |(refine WLg.mk ?_;first
    |refine aa rfl rfl rfl rfl ?_)|apply ac|refine ae rfl ?_|apply ai|apply ah|refine ak rfl (λht=>Nx ht (by with_reducible assumption)) (λht=>?_)|apply av|apply bG.norm|apply bG.exit|apply OnC.exit|fail)
   subst hie;rw [List.take_length]at ga;exact⟨.inl rfl,_,rfl,ga.km.le,rfl,(ga.up (by omega)).eq (by(try simp only [Bool.not_eq_false']at*)<;>first|(simp [fE, *];done)|(simp_all [fE];done))⟩
  |true=>
   have hlt:=bL q;have hpre:=fO hlt;have hle:=eu x.items (i+1);have hka:ha.next<900000000:=by omega
   have pp:∀v,v∈exO (bW x.items i)->bP v:=λv hv=>(cZ _ v hv).x;obtain⟨hu,cu,gu⟩:=B (bW x.items i) (by omega) ga.cs (so.km0 ga.km) (by omega)
   repeat' (first
    |(refine WLg.mk ?_;first
    |refine aa rfl rfl rfl rfl ?_|refine aa rfl rfl (bN Hy) rfl ?_|refine ab rfl rfl (show ROp.run (.load true 11) [.eptr (exO (bW x.items i)) 0] _=some (.agg (exO (bW x.items i)))from rfl) rfl ?_|refine ab rfl rfl (dA Hy) rfl ?_|refine aC rfl rfl (cW hka) rfl rfl rfl rfl rfl rfl rfl rfl pp rfl rfl ?_|refine au rfl rfl rfl (cu) (λ_ _ q=>q) .none rfl ?_)|apply ac|refine ae rfl ?_|apply ai|apply ah|apply aj|apply al|refine ak rfl (λht=>?_) (λht=>Nx (by with_reducible assumption) ht)|apply bG.norm|fail)
   exact .norm ⟨_,_,bU KH,hlt,rfl,(ga.trans gu).up (by omega)⟩
theorem sB:∀t,t<=6000001->GT t
 |0,_=>λx hx=>by omega
 |t+1,hs=>xp (by omega) (sB t (by omega))
theorem pN{l:List Ex}{σ:Type}{g:σ->Nat}{f:Nat->σ->σ}{s:σ}(k:∀i s,i<l.length->g (f i s)<=g s+bH (exO (bW l i))):∀n,n<=l.length->g (bZ f s n)<=g s+bH (exL (l.take n))
 |0,_=>Nat.le_add_right _ _
 |n+1,h=>by
  have:=pN (s:=s) k n (by omega);have:=k n (bZ f s n) (by omega);have:=fO (show n<l.length by omega);show g (f n (bZ f s n))<=_;omega
theorem tL{l:List Sg}{σ:Type}{g:σ->Nat}{f:Nat->σ->σ}{s:σ}(k:∀i s,i<l.length->g (f i s)<=g s+bH (sgO (ck l i))):∀n,n<=l.length->g (bZ f s n)<=g s+bH (sgL (l.take n))
 |0,_=>Nat.le_add_right _ _
 |n+1,h=>by
  have:=tL (s:=s) k n (by omega);have:=k n (bZ f s n) (by omega);have:=qp (show n<l.length by omega);show g (f n (bZ f s n))<=_;omega
theorem wh(g:Sg)(s:Sc):szS (iG g s)<=szS s+bH (sgO g):=by
 have h1:=kU g;have h2:=dM g.val;have h3:=wT (b:=g.val.name) (v:=cT .i64 (Int.add (kJ s g.val.name) (Int.ofNat 1))) (s:=s);rw [iG]
 split
 ·rw [pj]
  omega
 ·omega
theorem zo:∀(n:Nat) (x:Ex) (s:Sc),szS (gK n x s)<=szS s+bH (exO x)
 |0,x,s=>Nat.le_add_right _ _
 |n+1,x,s=>by
  have h1:=dM x;rw [gK]
  split
  ·have h3:=wT (b:=x.name) (v:=cT .i64 (Int.add (kJ s x.name) (Int.ofNat 1))) (s:=s)
   rw [pj];omega
  ·split
   ·have:=pN (g:=szS) (l:=x.items) (f:=λi s=>gK n (bW x.items i) s) (s:=s) (λi s _=>zo n _ s) x.items.length (Nat.le_refl _)
    rw [List.take_length]at this;omega
   ·split
    ·have:=tL (g:=szS) (l:=x.segs) (f:=λi s=>iG (ck x.segs i) s) (s:=s) (λi s _=>wh _ s) x.segs.length (Nat.le_refl _)
     rw [List.take_length]at this;omega
    ·omega
theorem tw(p:Pl):∀(n:Nat) (x:Ex) (st:Sc×List Fl),szS (dU p n x st).1<=szS st.1+bH (exO x)
 |0,x,s=>Nat.le_add_right _ _
 |n+1,x,st=>by
  have h1:=dM x;rw [dU]
  split
  ·have:=pN (g:=λst:Sc×List Fl=>szS st.1) (l:=x.items) (f:=λi st=>dU p n (bW x.items i) st) (s:=st) (λi s _=>tw p n _ s) x.items.length (Nat.le_refl _)
   rw [List.take_length]at this;exact Nat.le_trans this (by omega)
  ·split
   ·have:=tL (g:=λst:Sc×List Fl=>szS st.1) (l:=x.segs) (f:=λi st=>nW p (ck x.segs i) (sz x.segs i) st) (s:=st) (λi s _=>wh _ s.1) x.segs.length (Nat.le_refl _)
    rw [List.take_length]at this;exact Nat.le_trans this (by omega)
   ·exact zo _ _ _
end
end
section
abbrev XF:=Pl->Ex->Sc->List Fl->List Fl
noncomputable section
def g7(E:XF)(p:Pl)(s:Sm)(st:Sc×List Fl):Sc×List Fl:=
 if s.isMatch then((dU p B6 s.pat st).1,E p s.val st.1 (dU p B6 s.pat st).2)else(st.1,E p s.val st.1 st.2)
def kj(E:XF)(p:Pl)(l:List Sm)(sc:Sc)(fl:List Fl):List Fl:=(bZ (λi st=>g7 E p (cD l i) st) (sc,fl) l.length).2
def DW(E:XF)(p:Pl)(c:Cl)(st:Sc×List Fl):List Fl:=
 kj E p c.body st.1 (bZ (λi g=>bZ (λj g=>fE p B6 (bW (di c.guards i) j) st.1 g) g (di c.guards i).length) st.2 c.guards.length)
def qS(E:XF)(p:Pl)(c:Cl)(sc:Sc)(fl:List Fl):List Fl:=DW E p c (bZ (λi st=>dU p B6 (bW c.pats i) st) (sc,fl) c.pats.length)
def rp(E:XF)(p:Pl)(l:List Cl)(sc:Sc)(fl:List Fl):List Fl:=bZ (λi fl=>qS E p (bM l i) sc fl) fl l.length
def lW(E:XF)(p:Pl)(l:List Ex)(sc:Sc)(fl:List Fl):List Fl:=bZ (λi fl=>E p (bW l i) sc fl) fl l.length
end
theorem zl(E:XF)(p:Pl)(l:List Sm)(sc:Sc)(fl:List Fl):∀n,n<=l.length->szS (bZ (λi st=>g7 E p (cD l i) st) (sc,fl) n).1<=szS sc+bH (smL (l.take n))
 |0,_=>Nat.le_add_right _ _
 |n+1,h=>by
  have h1:=zl E p l sc fl n (by omega);have h2:=tg (show n<l.length by omega);have h3:=mN (cD l n);show szS (g7 E p (cD l n) (bZ (λi st=>g7 E p (cD l i) st) (sc,fl) n)).1<=_;rw [g7]
  split
  ·have:=tw p B6 (cD l n).pat (bZ (λi st=>g7 E p (cD l i) st) (sc,fl) n)
   simp only;omega
  ·simp only
   omega
structure Gw(D:Df)(p:Pl)(fl:List Fl)(k:Nat)(h0 h:H)(n:Nat):Prop where
 cs:CS D p fl h
 km:KM k h0 h
 nx:h.next<=h0.next+n
theorem Gw.eq{D:Df}{p:Pl}{fl fl':List Fl}{k:Nat}{a b:H}{n:Nat}(x:Gw D p fl k a b n)(e:fl'=fl):Gw D p fl' k a b n:=e▸x
theorem Gs.w{D:Df}{p:Pl}{fl:List Fl}{k:Nat}{s:Sc}{a b:H}{n:Nat}(x:Gs D p fl k s a b n):Gw D p fl k a b n:=⟨x.cs,x.km,x.nx⟩
theorem Gf.w{D:Df}{p:Pl}{fl fl':List Fl}{k:Nat}{a b c:H}{n m:Nat}(x:Gf D p fl a b n)(y:Gw D p fl' k b c m)(hk:a.next<=k):Gf D p fl' a c (n+m):=⟨y.cs,x.km.fresh hk y.km.toKMx,by have:=x.nx;have:=y.nx;omega⟩
theorem Gs.f{D:Df}{p:Pl}{fl fl':List Fl}{k:Nat}{s:Sc}{a b c:H}{n m:Nat}(x:Gs D p fl k s a b n)(y:Gf D p fl' b c m):Gs D p fl' k s a c (n+m):=⟨y.cs,x.so.km0 y.km,x.km.trans (y.km.to x.cs.b0 x.so.hi),by have:=x.nx;have:=y.nx;omega⟩
def EX(D:Df)(E:XF)(t:Nat):Prop:=∀x,bH (exO x)<t->∀{p:Pl} {fl:List Fl} {k:Nat} {sc:Sc} {h:H},CS D p fl h->Sco h k sc->szS sc+bH (exO x)<=6000000->h.next+40*bH (exO x)<300000000->∃h',CN 104 [.ptr 2 0,.agg (exO x),.map k] h (.tup []) h'/\Gf D p (E p x sc fl) h h' (40*bH (exO x))
noncomputable section
def fr70(l:List Sm)(k i:Nat):AL:=[(0,.ptr 2 0),(2,.map k),(11,.lst l.length 23 (smL l)),(12,.int .i64 (Int.ofNat l.length)),(13,.int .i64 (Int.ofNat i))]
def fr52a(c:Cl)(k i:Nat):AL:=[(0,.ptr 2 0),(2,.map k),(4,.eptr (clO c) 0),(13,.lst c.pats.length 11 (exL c.pats)),(14,.int .i64 (Int.ofNat c.pats.length)),(15,.int .i64 (Int.ofNat i))]
def fr52b(c:Cl)(k i:Nat):AL:=[(0,.ptr 2 0),(2,.map k),(4,.eptr (clO c) 0),(25,.lst c.guards.length 1 (gdL c.guards)),(26,.int .i64 (Int.ofNat c.guards.length)),(27,.int .i64 (Int.ofNat i))]
def fr52c(c:Cl)(k i j:Nat):AL:=[(0,.ptr 2 0),(2,.map k),(4,.eptr (clO c) 0),(25,.lst c.guards.length 1 (gdL c.guards)),(26,.int .i64 (Int.ofNat c.guards.length)),(27,.int .i64 (Int.ofNat i)),
 (31,.lst (di c.guards i).length 11 (exL (di c.guards i))),(32,.int .i64 (Int.ofNat (di c.guards i).length)),(33,.int .i64 (Int.ofNat j))]
def fr163(l:List Cl)(k i:Nat):AL:=[(0,.ptr 2 0),(2,.map k),(8,.lst l.length 4 (clL l)),(9,.int .i64 (Int.ofNat l.length)),(10,.int .i64 (Int.ofNat i))]
def fr129(l:List Ex)(k i:Nat):AL:=[(0,.ptr 2 0),(2,.map k),(8,.lst l.length 11 (exL l)),(9,.int .i64 (Int.ofNat l.length)),(10,.int .i64 (Int.ofNat i))]
end
section
variable {D:Df} {E:XF} {t:Nat} {p:Pl} {fl:List Fl} {k:Nat} {sc:Sc} {h:H}
theorem f129(X:EX D E t){l:List Ex}(hl:bH (exL l)<t)(_:t<=6000001)(c:CS D p fl h)(so:Sco h k sc)(hz:szS sc+bH (exL l)<=6000000)(hk:h.next+40*bH (exL l)<300000000):∃h',CN 129 [.ptr 2 0,.lst l.length 11 (exL l),.map k] h (.tup []) h'/\Gf D p (lW E p l sc fl) h h' (40*bH (exL l)):=by
 have hn:=dy l;have g0:=Gf.refl c;refine cP Tryz.func129 (by decide) H2.2 rfl rfl (cR c.le) ?_
 repeat' (first
  |(refine WLg.mk ?_;first
  |refine aa rfl rfl rfl rfl ?_)|apply ac|refine ae rfl ?_|apply ai|apply ah|apply aj|apply bG.norm|fail)
 refine aw (bU (l:=fr129 l k 0) KH) ?_;refine ax l.length (λi f h1=>f=fr129 l k i/\Gf D p (bZ (λi fl=>E p (bW l i) sc fl) fl i) h h1 (40*bH (exL (l.take i)))) ?_ (i:=0) (Nat.zero_le _) ⟨rfl,g0.up (Nat.zero_le _)⟩;rintro i _ ha hi ⟨rfl,ga⟩;have hi2:i<9223372036854775807:=by omega
 have hnx:=ga.nx;cases q:ltI (Int.ofNat i) (Int.ofNat l.length)with
 |false=>
  have hie:i=l.length:=by have:=ce q;omega
  repeat' (first
   |(refine WLg.mk ?_;first
   |refine aa rfl rfl rfl rfl ?_)|apply ac|refine ae rfl ?_|apply ai|apply ah|refine ak rfl (λht=>Nx ht (by with_reducible assumption)) (λht=>?_)|apply av|apply bG.norm|apply bG.exit|apply OnC.exit|fail)
  subst hie;rw [List.take_length]at ga;exact⟨.inl rfl,_,rfl,ga.km.le,rfl,ga⟩
 |true=>
  have hlt:=bL q;have hpre:=fO hlt;have hle:=eu l (i+1);have hka:ha.next<900000000:=by omega
  have pp:∀v,v∈exO (bW l i)->bP v:=λv hv=>(cZ _ v hv).x;obtain⟨hu,cu,gu⟩:=X (bW l i) (by omega) ga.cs (so.km0 ga.km) (by omega) (by omega)
  repeat' (first
   |(refine WLg.mk ?_;first
   |refine aa rfl rfl rfl rfl ?_|refine aa rfl rfl (bN Hy) rfl ?_|refine ab rfl rfl (show ROp.run (.load true 11) [.eptr (exO (bW l i)) 0] _=some (.agg (exO (bW l i)))from rfl) rfl ?_|refine ab rfl rfl (dA Hy) rfl ?_|refine aC rfl rfl (cW hka) rfl rfl rfl rfl rfl rfl rfl rfl pp rfl rfl ?_|refine au rfl rfl rfl (cu) (λ_ _ q=>q) .none rfl ?_)|apply ac|refine ae rfl ?_|apply ai|apply ah|apply aj|apply al|refine ak rfl (λht=>?_) (λht=>Nx (by with_reducible assumption) ht)|apply bG.norm|fail)
  exact .norm ⟨_,_,bU KH,hlt,rfl,(ga.trans gu).up (by omega)⟩
set_option maxHeartbeats 800000 in
theorem f70(X:EX D E t){l:List Sm}(hl:bH (smL l)<t)(ht6:t<=6000001)(c:CS D p fl h)(so:Sco h k sc)(hz:szS sc+bH (smL l)<=6000000)(hk:h.next+40*bH (smL l)+1<300000000):∃h',CN 70 [.ptr 2 0,.lst l.length 23 (smL l),.map k] h (.tup []) h'/\Gf D p (kj E p l sc fl) h h' (40*bH (smL l)+1):=by
 have hn:=gM l;obtain⟨hc,cc,csc,soc,kmc,nxc⟩:=f103 c so (by omega);have gc:Gf D p fl h hc 1:=⟨csc,kmc,by omega⟩
 refine cP Tryz.func70 (by decide) q70.2 rfl rfl (cR c.le) ?_
 repeat' (first
  |(refine WLg.mk ?_;first
  |refine aa rfl rfl rfl rfl ?_|refine au rfl rfl rfl (cc) (λ_ _ q=>q) .none rfl ?_)|apply ac|refine ae rfl ?_|apply ai|apply ah|apply aj|apply bG.norm|fail)
 refine aw (bU (l:=fr70 l h.next 0) KH) ?_;refine ax l.length (λi f h1=>∃kk,f=fr70 l kk i/\Sco h1 kk (bZ (λi st=>g7 E p (cD l i) st) (sc,fl) i).1/\Gf D p (bZ (λi st=>g7 E p (cD l i) st) (sc,fl) i).2 h h1 (40*bH (smL (l.take i))+1)) ?_ (i:=0) (Nat.zero_le _) ⟨_,rfl,soc,gc.up (by omega)⟩;clear cc csc soc kmc nxc gc;rintro i _ ha hi ⟨kk,rfl,so,ga⟩;have hi2:i<9223372036854775807:=by omega
 have hnx:=ga.nx;cases q:ltI (Int.ofNat i) (Int.ofNat l.length)with
 |false=>
  have hie:i=l.length:=by have:=ce q;omega
  repeat' (first
   |(refine WLg.mk ?_;first
   |refine aa rfl rfl rfl rfl ?_)|apply ac|refine ae rfl ?_|apply ai|apply ah|refine ak rfl (λht=>Nx ht (by with_reducible assumption)) (λht=>?_)|apply av|apply bG.norm|apply bG.exit|apply OnC.exit|fail)
  subst hie;rw [List.take_length]at ga;exact⟨.inl rfl,_,rfl,ga.km.le,rfl,ga⟩
 |true=>
  have hlt:=bL q;have hpre:=tg hlt;have hle:=tf l (i+1);have hss:=mN (cD l i);have hka:ha.next<900000000:=by omega
  have pp:∀v,v∈smO (cD l i)->bP v:=λv hv=>(jT _ v hv).x;have hbz:=zl E p l sc fl i (by omega);have hpz:=tw p B6 (cD l i).pat (bZ (λi st=>g7 E p (cD l i) st) (sc,fl) i)
  obtain⟨hu,cu,gu⟩:=X (cD l i).val (by omega) ga.cs so (by omega) (by omega);obtain⟨hc,cc,csc,soc,kmc,nxc⟩:=f103 ga.cs so (by omega);obtain⟨hp,cp,gp⟩:=tz B6 py (cD l i).pat (rD (by omega)) csc soc (by omega);have nxp:=gp.nx;obtain⟨hv,cv,gv⟩:=X (cD l i).val (by omega) gp.cs (so.km (kmc.fresh (Nat.le_refl _) gp.km.toKMx).toKMx (by have:=so.lo;omega)) (by omega) (by omega);have r1:=(ga.trans gu).up (m:=40*bH (smL (l.take (i+1)))+1) (by omega);have gk:Gf D p _ h hp (40*bH (smL (l.take i))+1+(1+8*bH (exO (cD l i).pat))):=ga.trans ((⟨csc,kmc,by omega⟩:Gf D p _ ha hc 1).w gp.w (Nat.le_refl _));have r2:=(gk.trans gv).up (m:=40*bH (smL (l.take (i+1)))+1) (by omega);have s2:=gp.so.km0 gv.km;have s1:=so.km0 gu.km;cases hm:(cD l i).isMatch
  ·have mt:g7 E p (cD l i) (bZ (λi st=>g7 E p (cD l i) st) (sc,fl) i)=((bZ (λi st=>g7 E p (cD l i) st) (sc,fl) i).1,E p (cD l i).val (bZ (λi st=>g7 E p (cD l i) st) (sc,fl) i).1 (bZ (λi st=>g7 E p (cD l i) st) (sc,fl) i).2):=by rw [g7,hm];rfl
   have ldm:∀h,ROp.run (.load false 1) [.eptr (smO (cD l i)) 0] h=some (.bool false):=λh=>(show ROp.run (.load false 1) [.eptr (smO (cD l i)) 0] h=some (.bool (cD l i).isMatch)from rfl).trans (by rw [hm])
   repeat' (first
    |(refine WLg.mk ?_;first
    |refine aa rfl rfl rfl rfl ?_|refine aa rfl rfl (bN Hy) rfl ?_|refine ab rfl rfl (ldm _) rfl ?_|refine ab rfl rfl (show ROp.run (.load true 11) [.eptr (smO (cD l i)) 12] _=some (.agg (exO (cD l i).val))from rfl) rfl ?_|refine ab rfl rfl (gV Hy) rfl ?_|refine aC rfl rfl (cW hka) rfl rfl rfl rfl rfl rfl rfl rfl pp rfl rfl ?_|refine au rfl rfl rfl (cu) (λ_ _ q=>q) .none rfl ?_)|apply ac|refine ae rfl ?_|apply ai|apply ah|apply aj|apply al|refine aD rfl ?_|refine ak rfl (λht=>?_) (λht=>Nx (by with_reducible assumption) ht)|apply av|apply bG.norm|apply bG.exit|fail)
   refine .norm ⟨_,_,bU KH,hlt,kk,rfl,?_,?_⟩
   ·show Sco hu kk (g7 E p (cD l i) _).1
    rw [mt];exact s1
   ·show Gf D p (g7 E p (cD l i) _).2 _ _ _
    rw [mt];exact r1
  ·have mt:g7 E p (cD l i) (bZ (λi st=>g7 E p (cD l i) st) (sc,fl) i)=((dU p B6 (cD l i).pat (bZ (λi st=>g7 E p (cD l i) st) (sc,fl) i)).1,E p (cD l i).val (bZ (λi st=>g7 E p (cD l i) st) (sc,fl) i).1 (dU p B6 (cD l i).pat (bZ (λi st=>g7 E p (cD l i) st) (sc,fl) i)).2):=by rw [g7,hm];rfl
   have ldm:∀h,ROp.run (.load false 1) [.eptr (smO (cD l i)) 0] h=some (.bool true):=λh=>(show ROp.run (.load false 1) [.eptr (smO (cD l i)) 0] h=some (.bool (cD l i).isMatch)from rfl).trans (by rw [hm])
   repeat' (first
    |(refine WLg.mk ?_;first
    |refine aa rfl rfl rfl rfl ?_|refine aa rfl rfl (bN Hy) rfl ?_|refine ab rfl rfl (ldm _) rfl ?_|refine ab rfl rfl (show ROp.run (.load true 11) [.eptr (smO (cD l i)) 1] _=some (.agg (exO (cD l i).pat))from rfl) rfl ?_|refine ab rfl rfl (show ROp.run (.load true 11) [.eptr (smO (cD l i)) 12] _=some (.agg (exO (cD l i).val))from rfl) rfl ?_|refine ab rfl rfl (gV Hy) rfl ?_|refine aC rfl rfl (cW hka) rfl rfl rfl rfl rfl rfl rfl rfl pp rfl rfl ?_|refine au rfl rfl rfl (cc) (λ_ _ q=>q) .none rfl ?_|refine au rfl rfl rfl (cp) (λ_ _ q=>q) .none rfl ?_|refine au rfl rfl rfl (cv) (λ_ _ q=>q) .none rfl ?_)|apply ac|refine ae rfl ?_|apply ai|apply ah|apply aj|apply al|refine aB rfl ?_|refine ak rfl (λht=>?_) (λht=>Nx (by with_reducible assumption) ht)|apply bG.norm|fail)
   refine .norm ⟨_,_,bU KH,hlt,ha.next,rfl,?_,?_⟩
   ·show Sco hv ha.next (g7 E p (cD l i) _).1
    rw [mt];exact s2
   ·show Gf D p (g7 E p (cD l i) _).2 _ _ _
    rw [mt];exact r2
set_option maxHeartbeats 1600000 in
theorem f52(X:EX D E t){x:Cl}(hl:bH (clO x)<t)(ht6:t<=6000001)(c:CS D p fl h)(so:Sco h k sc)(hz:szS sc+bH (clO x)<=6000000)(hk:h.next+40*bH (clO x)-100<300000000):∃h',CN 52 [.ptr 2 0,.agg (clO x),.map k] h (.tup []) h'/\Gw D p (qS E p x sc fl) k h h' (40*bH (clO x)-100):=by
 have hcs:=fJ x;have hn:=dy x.pats;have hn2:=jF x.guards;have hgt:=tZ x.guards;refine cP Tryz.func52 (by decide) q52.2 rfl rfl (cR c.le) ?_
 repeat' (first
  |(refine WLg.mk ?_;first
  |refine aa rfl rfl rfl rfl ?_|refine ab rfl rfl rfl rfl ?_|refine aA rfl rfl RA rfl PB rfl ?_)|apply ac|refine ae rfl ?_|apply ai|apply ah|apply aj|apply bG.norm|fail)
 refine aw (bU (l:=fr52a x k 0) KH) ?_;refine ax x.pats.length (λi f h1=>f=fr52a x k i/\Gs D p (bZ (λi st=>dU p B6 (bW x.pats i) st) (sc,fl) i).2 k (bZ (λi st=>dU p B6 (bW x.pats i) st) (sc,fl) i).1 h h1 (8*bH (exL (x.pats.take i)))) ?_ (i:=0) (Nat.zero_le _) ⟨rfl,(Gs.refl c so).up (Nat.zero_le _)⟩;rintro i _ ha hi ⟨rfl,ga⟩;have hi2:i<9223372036854775807:=by omega
 have hnx:=ga.nx;cases q:ltI (Int.ofNat i) (Int.ofNat x.pats.length)with
 |true=>
  have hlt:=bL q;have hpre:=fO hlt;have hle:=eu x.pats (i+1);have hka:ha.next<900000000:=by omega
  have pp:∀v,v∈exO (bW x.pats i)->bP v:=λv hv=>(cZ _ v hv).x;obtain⟨hu,cu,gu⟩:=tz B6 py (bW x.pats i) (rD (by omega)) ga.cs ga.so (by omega)
  repeat' (first
   |(refine WLg.mk ?_;first
   |refine aa rfl rfl rfl rfl ?_|refine aa rfl rfl (bN Hy) rfl ?_|refine ab rfl rfl (show ROp.run (.load true 11) [.eptr (exO (bW x.pats i)) 0] _=some (.agg (exO (bW x.pats i)))from rfl) rfl ?_|refine ab rfl rfl (dA Hy) rfl ?_|refine aC rfl rfl (cW hka) rfl rfl rfl rfl rfl rfl rfl rfl pp rfl rfl ?_|refine au rfl rfl rfl (cu) (λ_ _ q=>q) .none rfl ?_)|apply ac|refine ae rfl ?_|apply ai|apply ah|apply aj|apply al|refine ak rfl (λht=>?_) (λht=>Nx (by with_reducible assumption) ht)|apply bG.norm|fail)
  exact .norm ⟨_,_,bU KH,hlt,rfl,(ga.trans gu).up (by omega)⟩
 |false=>
  have hie:i=x.pats.length:=by have:=ce q;omega
  repeat' (first
   |(refine WLg.mk ?_;first
   |refine aa rfl rfl rfl rfl ?_|refine ab rfl rfl rfl rfl ?_)|apply ac|refine ae rfl ?_|apply ai|apply ah|apply aj|refine ak rfl (λht=>Nx ht (by with_reducible assumption)) (λht=>?_)|apply av|apply bG.norm|apply bG.exit|apply OnC.exit|fail)
  subst hie;rw [List.take_length]at ga hnx;have hpz:=pN (g:=λst:Sc×List Fl=>szS st.1) (l:=x.pats) (f:=λi st=>dU p B6 (bW x.pats i) st) (s:=(sc,fl)) (λi s _=>tw p B6 _ s) x.pats.length (Nat.le_refl _);rw [List.take_length]at hpz;generalize hst:bZ (λi st=>dU p B6 (bW x.pats i) st) (sc,fl) x.pats.length=st at ga hpz;simp only at hpz;have ins:qS E p x sc fl=kj E p x.body st.1 (bZ (λi fl=>bZ (λj fl=>fE p B6 (bW (di x.guards i) j) st.1 fl) fl (di x.guards i).length) st.2 x.guards.length):=by rw [qS,hst];rfl
  refine aw (bU (l:=fr52b x k 0) KH) ?_;refine ax x.guards.length (λi f h1=>f=fr52b x k i/\Gs D p (bZ (λi fl=>bZ (λj fl=>fE p B6 (bW (di x.guards i) j) st.1 fl) fl (di x.guards i).length) st.2 i) k st.1 h h1 (8*bH (exL x.pats)+8*bH (gdL (x.guards.take i)))) ?_ (i:=0) (Nat.zero_le _) ⟨rfl,ga.up (Nat.le_add_right _ _)⟩;clear hst ga hi hi2 q hnx ht;clear ha;rintro i _ ha hi ⟨rfl,ga⟩;have hi2:i<9223372036854775807:=by omega
  have hnx:=ga.nx;cases q:ltI (Int.ofNat i) (Int.ofNat x.guards.length)with
  |false=>
   have hie:i=x.guards.length:=by have:=ce q;omega
   subst hie;rw [List.take_length]at ga hnx;obtain⟨hb,cb,gb⟩:=f70 X (l:=x.body) (by omega) ht6 ga.cs ga.so (by omega) (by omega);have r:=((ga.f gb).up (m:=40*bH (clO x)-100) (by omega)).w.eq ins
   repeat' (first
    |(refine WLg.mk ?_;first
    |refine aa rfl rfl rfl rfl ?_|refine ab rfl rfl rfl rfl ?_|refine au rfl rfl rfl (cb) (λ_ _ q=>q) .none rfl ?_)|apply ac|refine ae rfl ?_|apply ai|apply ah|refine ak rfl (λht=>Nx ht (by with_reducible assumption)) (λht=>?_)|apply av|apply bG.norm|apply bG.exit|apply OnC.exit|fail)
   exact⟨.inl rfl,_,rfl,r.km.le,rfl,r⟩
  |true=>
   have hlt:=bL q;have hpre:=xw hlt;have hle:=hgt (i+1);have hgn:=dy (di x.guards i)
   repeat' (first
    |(refine WLg.mk ?_;first
    |refine aa rfl rfl rfl rfl ?_|refine aa rfl rfl (bN Hy) rfl ?_|refine ab rfl rfl (dO (j:=0) (oY Hy) rfl _) rfl ?_)|apply ac|refine ae rfl ?_|apply ai|apply ah|apply aj|apply al|refine ak rfl (λht=>?_) (λht=>Nx (by with_reducible assumption) ht)|apply bG.norm|fail)
   refine aw (bU (l:=fr52c x k i 0) KH) ?_;refine ax (di x.guards i).length (λj f h1=>f=fr52c x k i j/\Gs D p (bZ (λj fl=>fE p B6 (bW (di x.guards i) j) st.1 fl) (bZ (λi fl=>bZ (λj fl=>fE p B6 (bW (di x.guards i) j) st.1 fl) fl (di x.guards i).length) st.2 i) j) k st.1 h h1 (8*bH (exL x.pats)+8*bH (gdL (x.guards.take i))+8*bH (exL ((di x.guards i).take j)))) ?_ (i:=0) (Nat.zero_le _) ⟨rfl,ga.up (Nat.le_add_right _ _)⟩;clear ga hnx;clear ha;rintro j _ ha hj ⟨rfl,ga⟩;have hj2:j<9223372036854775807:=by omega
   have hnx:=ga.nx;cases qj:ltI (Int.ofNat j) (Int.ofNat (di x.guards i).length)with
   |false=>
    have hje:j=(di x.guards i).length:=by have:=ce qj;omega
    subst hje;rw [List.take_length]at ga;have r:=ga.up (m:=8*bH (exL x.pats)+8*bH (gdL (x.guards.take (i+1)))) (by omega)
    repeat' (first
     |(refine WLg.mk ?_;first
     |refine aa rfl rfl rfl rfl ?_)|apply ac|refine ae rfl ?_|apply ai|apply ah|refine ak rfl (λht=>Nx ht (by with_reducible assumption)) (λht=>?_)|apply av|apply bG.norm|apply bG.exit|apply OnC.exit|fail)
    exact .norm ⟨_,_,bU KH,hlt,rfl,r⟩
   |true=>
    have hltj:=bL qj;have hprj:=fO hltj;have hlej:=eu (di x.guards i) (j+1);have hka:ha.next<900000000:=by omega
    have pp:∀v,v∈exO (bW (di x.guards i) j)->bP v:=λv hv=>(cZ _ v hv).x;obtain⟨hu,cu,gu⟩:=sB B6 py (bW (di x.guards i) j) (rD (by omega)) ga.cs ga.so (by omega);have r:=(ga.f gu).up (m:=8*bH (exL x.pats)+8*bH (gdL (x.guards.take i))+8*bH (exL ((di x.guards i).take (j+1)))) (by omega)
    repeat' (first
     |(refine WLg.mk ?_;first
     |refine aa rfl rfl rfl rfl ?_|refine aa rfl rfl (bN Hy) rfl ?_|refine ab rfl rfl (show ROp.run (.load true 11) [.eptr (exO (bW (di x.guards i) j)) 0] _=some (.agg (exO (bW (di x.guards i) j)))from rfl) rfl ?_|refine ab rfl rfl (dA Hy) rfl ?_|refine aC rfl rfl (cW hka) rfl rfl rfl rfl rfl rfl rfl rfl pp rfl rfl ?_|refine au rfl rfl rfl (cu) (λ_ _ q=>q) .none rfl ?_)|apply ac|refine ae rfl ?_|apply ai|apply ah|apply aj|apply al|refine ak rfl (λht=>?_) (λht=>Nx (by with_reducible assumption) ht)|apply bG.norm|fail)
    exact .norm ⟨_,_,bU KH,hltj,rfl,r⟩
theorem f163(X:EX D E t){l:List Cl}(hl:bH (clL l)<t)(ht6:t<=6000001)(c:CS D p fl h)(so:Sco h k sc)(hz:szS sc+bH (clL l)<=6000000)(hk:h.next+40*bH (clL l)<300000000):∃h',CN 163 [.ptr 2 0,.lst l.length 4 (clL l),.map k] h (.tup []) h'/\Gf D p (rp E p l sc fl) h h' (40*bH (clL l)):=by
 have hn:=eT l;have g0:=Gf.refl c;refine cP Tryz.func163 (by decide) HF.2 rfl rfl (cR c.le) ?_
 repeat' (first
  |(refine WLg.mk ?_;first
  |refine aa rfl rfl rfl rfl ?_)|apply ac|refine ae rfl ?_|apply ai|apply ah|apply aj|apply bG.norm|fail)
 refine aw (bU (l:=fr163 l k 0) KH) ?_;refine ax l.length (λi f h1=>f=fr163 l k i/\Gf D p (bZ (λi fl=>qS E p (bM l i) sc fl) fl i) h h1 (40*bH (clL (l.take i)))) ?_ (i:=0) (Nat.zero_le _) ⟨rfl,g0.up (Nat.zero_le _)⟩;rintro i _ ha hi ⟨rfl,ga⟩;have hi2:i<9223372036854775807:=by omega
 have hnx:=ga.nx;cases q:ltI (Int.ofNat i) (Int.ofNat l.length)with
 |false=>
  have hie:i=l.length:=by have:=ce q;omega
  repeat' (first
   |(refine WLg.mk ?_;first
   |refine aa rfl rfl rfl rfl ?_)|apply ac|refine ae rfl ?_|apply ai|apply ah|refine ak rfl (λht=>Nx ht (by with_reducible assumption)) (λht=>?_)|apply av|apply bG.norm|apply bG.exit|apply OnC.exit|fail)
  subst hie;rw [List.take_length]at ga;exact⟨.inl rfl,_,rfl,ga.km.le,rfl,ga⟩
 |true=>
  have hlt:=bL q;have hpre:=mD hlt;have hle:=kB l (i+1);have hcs:=fJ (bM l i);have hka:ha.next<900000000:=by omega
  have pp:∀v,v∈clO (bM l i)->bP v:=λv hv=>(gz _ v hv).x;obtain⟨hc,cc,csc,soc,kmc,nxc⟩:=f103 ga.cs (so.km0 ga.km) (by omega);obtain⟨hu,cu,gu⟩:=f52 X (x:=bM l i) (by omega) ht6 csc soc (by omega) (by omega);have r:=(ga.trans ((⟨csc,kmc,by omega⟩:Gf D p _ ha hc 1).w gu (Nat.le_refl _))).up (m:=40*bH (clL (l.take (i+1)))) (by omega)
  repeat' (first
   |(refine WLg.mk ?_;first
   |refine aa rfl rfl rfl rfl ?_|refine aa rfl rfl (bN Hy) rfl ?_|refine ab rfl rfl (gj Hy) rfl ?_|refine aC rfl rfl (cW hka) rfl rfl rfl rfl rfl rfl rfl rfl pp rfl rfl ?_)
   |(show WX _ _ _ _ _ _ _ _ _ _;first
   |refine aI rfl rfl rfl rfl ?_|refine aG rfl rfl (show ROp.run (.load true 4) [.eptr (clO (bM l i)) 0] _=some (.agg (clO (bM l i)))from rfl) rfl ?_|refine aR rfl rfl rfl (cc) .none rfl ?_|refine aR rfl rfl rfl (cu) .none rfl ?_|refine aJ (by repeat' (first|exact bF.nil|refine bF.any (λh=>rfl) ?_|refine bF.first rfl ?_|refine bF.first (show ROp.run (.load true 4) [.eptr (clO (bM l i)) 0] _=some (.agg (clO (bM l i)))from rfl) ?_|refine bF.snd (show ROp.run (.load true 4) [.eptr (clO (bM l i)) 0] _=some (.agg (clO (bM l i)))from rfl) ?_|refine bF.any (λh=>show ROp.run (.load true 4) [.eptr (clO (bM l i)) 0] _=some (.agg (clO (bM l i)))from rfl) ?_|refine bF.first (gj Hy) ?_|refine bF.snd (gj Hy) ?_|refine bF.any (λh=>gj Hy) ?_|refine bF.first (et Hy rfl) ?_|refine bF.snd (et Hy rfl) ?_|refine bF.any (λh=>et Hy rfl) ?_|refine bF.each (.cons rfl .nil) ?_|refine bF.each (.cons rfl (.cons rfl .nil)) ?_|refine bF.each (.cons rfl (.cons rfl (.cons rfl .nil))) ?_)) ?_)|apply ac|refine ae rfl ?_|apply ai|apply ah|apply aj|apply al|refine ak rfl (λht=>?_) (λht=>Nx (by with_reducible assumption) ht)|refine aK ?_|apply bG.norm|fail)
  exact .norm ⟨_,_,bU KH,hlt,rfl,r⟩
end
end
section
noncomputable section
def rO(E:XF)(p:Pl)(g:Sg)(sc:Sc)(fl:List Fl):List Fl:=
 if g.sized then E p g.size sc (if eqI g.type 4 then fl else E p g.val sc fl)else(if eqI g.type 4 then fl else E p g.val sc fl)
def zn(E:XF)(p:Pl)(l:List Sg)(sc:Sc)(fl:List Fl):List Fl:=bZ (λi fl=>rO E p (ck l i) sc fl) fl l.length
def mC(b:ByteArray)(n:Nat):Int:=ri 51 [sV b,.int .i64 (Int.ofNat n)]
def zj(D:Df)(E:XF)(p:Pl)(x:Ex)(sc:Sc)(fl:List Fl):List Fl:=
 lW E p x.items sc (if !D x.name (Int.ofNat x.items.length)&&eqI (mC x.name x.items.length) 0 then fl++[flw p 6 x.name (Int.ofNat x.items.length)]else fl)
def fr146(x:Ex)(k i:Nat):AL:=[(0,.ptr 2 0),(2,.map k),(9,.lst x.segs.length 27 (sgL x.segs)),(10,.int .i64 (Int.ofNat x.segs.length)),(11,.int .i64 (Int.ofNat i))]
end
theorem Ei{b:ByteArray}{n:Nat}(hb:b.size<1000000000)(hn:n<1000000000):CP 51 [sV b,.int .i64 (Int.ofNat n)] (.int .i64 (mC b n)):=by
 obtain⟨k,c⟩:=f51 b.size (bT b.data.toList) n hb hn;exact vZ ⟨_,c,k,rfl⟩
section
variable {D:Df} {E:XF} {t:Nat} {p:Pl} {fl:List Fl} {k:Nat} {sc:Sc} {h:H} {x:Ex}
theorem f145(c:CS D p fl h)(hk:h.next+2<300000000):∃h',CN 145 [.ptr 2 0,.agg (exO x),.map k] h (.tup []) h'/\Gf D p (fl++[flw p 8 eB 0]) h h' 2:=by
 obtain⟨h1,c1,g1⟩:=f50g c hk 8;have bx:∀v,v∈exO x->bP v:=λv hv=>(cZ _ v hv).x;refine cP Tryz.func145 (by decide) HT.2 rfl rfl (cR c.le) ?_
 repeat' (first
  |(refine WLg.mk ?_;first
  |refine aa rfl rfl rfl rfl ?_|refine aA rfl rfl RA rfl PB rfl ?_|refine au rfl rfl rfl (c1) (λ_ _ q=>q) .none rfl ?_)|apply ac|refine ae rfl ?_|apply ai|apply ah|apply bG.norm|fail)
 exact⟨.inl rfl,_,rfl,g1.km.le,rfl,g1⟩
set_option maxHeartbeats 800000 in
theorem f146(X:EX D E t)(hx:bH (exO x)<t+1)(_:t<=6000001)(c:CS D p fl h)(so:Sco h k sc)(hz:szS sc+bH (exO x)<=6000000)(hk:h.next+40*bH (exO x)<300000001):∃h',CN 146 [.ptr 2 0,.agg (exO x),.map k] h (.tup []) h'/\Gf D p (zn E p x.segs sc fl) h h' (40*bH (exO x)-100):=by
 have hsz:=dM x;have hn:=iR x.segs;have g0:=Gf.refl c;refine cP Tryz.func146 (by decide) HR.2 rfl rfl (cR c.le) ?_
 repeat' (first
  |(refine WLg.mk ?_;first
  |refine aa rfl rfl rfl rfl ?_|refine ab rfl rfl rfl rfl ?_|refine aA rfl rfl RA rfl PB rfl ?_)|apply ac|refine ae rfl ?_|apply ai|apply ah|apply aj|apply bG.norm|fail)
 refine aw (bU (l:=fr146 x k 0) KH) ?_;refine ax x.segs.length (λi f h1=>f=fr146 x k i/\Gf D p (bZ (λi fl=>rO E p (ck x.segs i) sc fl) fl i) h h1 (40*bH (sgL (x.segs.take i)))) ?_ (i:=0) (Nat.zero_le _) ⟨rfl,g0.up (Nat.zero_le _)⟩;rintro i _ ha hi ⟨rfl,ga⟩;have hi2:i<9223372036854775807:=by omega
 have hnx:=ga.nx;cases q:ltI (Int.ofNat i) (Int.ofNat x.segs.length)with
 |false=>
  have hie:i=x.segs.length:=by have:=ce q;omega
  repeat' (first
   |(refine WLg.mk ?_;first
   |refine aa rfl rfl rfl rfl ?_)|apply ac|refine ae rfl ?_|apply ai|apply ah|refine ak rfl (λht=>Nx ht (by with_reducible assumption)) (λht=>?_)|apply av|apply bG.norm|apply bG.exit|apply OnC.exit|fail)
  subst hie;rw [List.take_length]at ga;exact⟨.inl rfl,_,rfl,ga.km.le,rfl,ga.up (by omega)⟩
 |true=>
  have hlt:=bL q;have hpre:=qp hlt;have hle:=mO x.segs (i+1);have hss:=kU (ck x.segs i);have hka:ha.next<900000000:=by omega
  have pp:∀v,v∈sgO (ck x.segs i)->bP v:=λv hv=>(fM _ v hv).x;obtain⟨h1,c1,g1⟩:=X (ck x.segs i).val (by omega) ga.cs (so.km0 ga.km) (by omega) (by omega);have n1:=g1.nx;obtain⟨h2,c2,g2⟩:=X (ck x.segs i).size (by omega) g1.cs ((so.km0 ga.km).km0 g1.km) (by omega) (by omega);obtain⟨h3,c3,g3⟩:=X (ck x.segs i).size (by omega) ga.cs (so.km0 ga.km) (by omega) (by omega);have r0:=ga.up (m:=40*bH (sgL (x.segs.take (i+1)))) (by omega);have r1:=(ga.trans g1).up (m:=40*bH (sgL (x.segs.take (i+1)))) (by omega);have r2:=((ga.trans g1).trans g2).up (m:=40*bH (sgL (x.segs.take (i+1)))) (by omega);have r3:=(ga.trans g3).up (m:=40*bH (sgL (x.segs.take (i+1)))) (by omega);clear ga g1 g2 g3 hnx n1
  repeat' (first
   |(refine WLg.mk ?_;first
   |refine aa rfl rfl rfl rfl ?_|refine aa rfl rfl (bN Hy) rfl ?_|refine ab rfl rfl (show ROp.run (.load true 11) [.eptr (sgO (ck x.segs i)) 2] _=some (.agg (exO (ck x.segs i).val))from rfl) rfl ?_|refine ab rfl rfl (show ROp.run (.load true 11) [.eptr (sgO (ck x.segs i)) 13] _=some (.agg (exO (ck x.segs i).size))from rfl) rfl ?_|refine ab rfl rfl rfl rfl ?_|refine ab rfl rfl (gh Hy) rfl ?_|refine aC rfl rfl (cW hka) rfl rfl rfl rfl rfl rfl rfl rfl pp rfl rfl ?_|refine au rfl rfl rfl (c1) (λ_ _ q=>q) .none rfl ?_|refine au rfl rfl rfl (c2) (λ_ _ q=>q) .none rfl ?_|refine au rfl rfl rfl (c3) (λ_ _ q=>q) .none rfl ?_)|apply ac|refine ae rfl ?_|apply ai|apply ah|apply aj|apply al|refine ak rfl (λht=>?_) (λht=>Nx (by with_reducible assumption) ht)|refine ak rfl (λht=>?_) (λht=>?_)|apply bG.norm|fail)
  all_goals first
   |exact .norm ⟨_,_,bU KH,hlt,rfl,r2.eq (by(try simp only [Bool.not_eq_true',Bool.not_eq_false']at*)<;>first|(simp [bZ,rO, *];done)|(simp_all [rO];done))⟩|exact .norm ⟨_,_,bU KH,hlt,rfl,r1.eq (by(try simp only [Bool.not_eq_true',Bool.not_eq_false']at*)<;>first|(simp [bZ,rO, *];done)|(simp_all [rO];done))⟩|exact .norm ⟨_,_,bU KH,hlt,rfl,r3.eq (by(try simp only [Bool.not_eq_false']at*)<;>first|(simp [bZ,rO, *];done)|(simp_all [rO];done))⟩|exact .norm ⟨_,_,bU KH,hlt,rfl,r0.eq (by(try simp only [Bool.not_eq_false']at*)<;>first|(simp [bZ,rO, *];done)|(simp_all [bZ,rO];done))⟩
theorem f147(X:EX D E t)(hx:bH (exO x)<t+1)(ht6:t<=6000000)(c:CS D p fl h)(so:Sco h k sc)(hz:szS sc+bH (exO x)<=6000000)(hk:h.next+40*bH (exO x)<300000001):∃h',CN 147 [.ptr 2 0,.agg (exO x),.map k] h (.tup []) h'/\Gf D p (zj D E p x sc fl) h h' (40*bH (exO x)-100):=by
 have hsz:=dM x;have hn:=dy x.items;have c51:=Ei (b:=x.name) (n:=x.items.length) (by omega) (by omega);obtain⟨de,o,e1,dd⟩:=c.b1;obtain⟨kd,lk,ek⟩:=dd h 1 o e1 x.name (Int.ofNat x.items.length);obtain⟨tr,v,e2,t0,t1,t2,t3,t4,gl⟩:=c.b2;have l3:ROp.run (.load false 1) [.ptr 2 3] h=some (.map 1):=dw e2 t3 (by decide);obtain⟨h1,c1,g1⟩:∃h',_/\Gf D p _ h h' 2:=f50 c (by omega) 6 (Int.ofNat x.items.length) x.name |>.imp λh' q=>⟨q.1,q.2.1,q.2.2.1,by have:=q.2.2.2.1;omega⟩
 have n1:=g1.nx;obtain⟨h2,c2,g2⟩:=f129 X (l:=x.items) (by omega) (by omega) c so (by omega) (by omega);obtain⟨h3,c3,g3⟩:=f129 X (l:=x.items) (by omega) (by omega) g1.cs (so.km0 g1.km) (by omega) (by omega);have r2:=g2.up (m:=40*bH (exO x)-100) (by omega);have r3:=(g1.trans g3).up (m:=40*bH (exO x)-100) (by omega);refine cP Tryz.func147 (by decide) cf147_ok rfl rfl (cR c.le) ?_
 repeat' (first
  |(refine WLg.mk ?_;first
  |refine aa rfl rfl rfl rfl ?_|refine ab rfl rfl rfl rfl ?_|refine aA rfl rfl RA rfl PB rfl ?_|refine au rfl rfl rfl (c1) (λ_ _ q=>q) .none rfl ?_|refine au rfl rfl rfl (c2) (λ_ _ q=>q) .none rfl ?_|refine au rfl rfl rfl (c3) (λ_ _ q=>q) .none rfl ?_)
  |(show WX _ _ _ _ _ _ _ _ _ _;first
  |refine aW rfl rfl rfl ?_|refine aU rfl rfl rfl ?_|refine aI rfl rfl rfl rfl ?_|refine aG rfl rfl (l3) rfl ?_|refine aG rfl rfl (lk) rfl ?_|refine aG rfl rfl rfl rfl ?_|refine aT rfl rfl rfl (c51) .none rfl ?_|(fail_if_success refine WX.gt rfl ?_);refine aV rfl rfl rfl (λht=>?_) (λht=>?_)|refine aJ (by repeat' (first|exact bF.nil|refine bF.any (λh=>rfl) ?_|refine bF.first rfl ?_|refine bF.first (l3) ?_|refine bF.snd (l3) ?_|refine bF.any (λh=>l3) ?_|refine bF.first (lk) ?_|refine bF.snd (lk) ?_|refine bF.any (λh=>lk) ?_|refine bF.each (.cons rfl .nil) ?_|refine bF.each (.cons rfl (.cons rfl .nil)) ?_|refine bF.each (.cons rfl (.cons rfl (.cons rfl .nil))) ?_)) ?_)|apply ac|refine ae rfl ?_|apply ai|apply ah|apply al|refine aB rfl ?_|refine ak rfl (λht=>?_) (λht=>?_)|refine aK ?_|apply bG.norm|fail)
 all_goals first
  |exact⟨.inl rfl,_,rfl,r3.km.le,rfl,r3.eq (by rw [zj,<-ek];simp_all)⟩|exact⟨.inl rfl,_,rfl,r2.km.le,rfl,r2.eq (by rw [zj,<-ek];simp_all)⟩
theorem f149(X:EX D E t)(hx:bH (exO x)<t+1)(ht6:t<=6000000)(c:CS D p fl h)(so:Sco h k sc)(hz:szS sc+bH (exO x)<=6000000)(hk:h.next+40*bH (exO x)<300000001):∃h',CN 149 [.ptr 2 0,.agg (exO x),.map k] h (.tup []) h'/\Gf D p (kj E p x.body sc fl) h h' (40*bH (exO x)-100):=by
 have hsz:=dM x;obtain⟨h1,c1,g1⟩:=f70 X (l:=x.body) (by omega) (by omega) c so (by omega) (by omega);refine cP Tryz.func149 (by decide) HP.2 rfl rfl (cR c.le) ?_
 repeat' (first
  |(refine WLg.mk ?_;first
  |refine aa rfl rfl rfl rfl ?_|refine ab rfl rfl rfl rfl ?_|refine aA rfl rfl RA rfl PB rfl ?_|refine au rfl rfl rfl (c1) (λ_ _ q=>q) .none rfl ?_)|apply ac|refine ae rfl ?_|apply ai|apply ah|apply bG.norm|fail)
 exact⟨.inl rfl,_,rfl,g1.km.le,rfl,g1.up (by omega)⟩
theorem f150(X:EX D E t)(hx:bH (exO x)<t+1)(ht6:t<=6000000)(c:CS D p fl h)(so:Sco h k sc)(hz:szS sc+bH (exO x)<=6000000)(hk:h.next+40*bH (exO x)<300000001):∃h',CN 150 [.ptr 2 0,.agg (exO x),.map k] h (.tup []) h'/\Gf D p (rp E p x.clauses sc (lW E p x.items sc fl)) h h' (40*bH (exO x)-100):=by
 have hsz:=dM x;obtain⟨h1,c1,g1⟩:=f129 X (l:=x.items) (by omega) (by omega) c so (by omega) (by omega);have n1:=g1.nx;obtain⟨h2,c2,g2⟩:=f163 X (l:=x.clauses) (by omega) (by omega) g1.cs (so.km0 g1.km) (by omega) (by omega);have r:=(g1.trans g2).up (m:=40*bH (exO x)-100) (by omega);refine cP Tryz.func150 (by decide) HO.2 rfl rfl (cR c.le) ?_
 repeat' (first
  |(refine WLg.mk ?_;first
  |refine aa rfl rfl rfl rfl ?_|refine ab rfl rfl rfl rfl ?_|refine aA rfl rfl RA rfl PB rfl ?_|refine au rfl rfl rfl (c1) (λ_ _ q=>q) .none rfl ?_|refine au rfl rfl rfl (c2) (λ_ _ q=>q) .none rfl ?_)|apply ac|refine ae rfl ?_|apply ai|apply ah|apply bG.norm|fail)
 exact⟨.inl rfl,_,rfl,r.km.le,rfl,r⟩
theorem f151(X:EX D E t)(hx:bH (exO x)<t+1)(ht6:t<=6000000)(c:CS D p fl h)(so:Sco h k sc)(hz:szS sc+bH (exO x)<=6000000)(hk:h.next+40*bH (exO x)<300000001):∃h',CN 151 [.ptr 2 0,.agg (exO x),.map k] h (.tup []) h'/\Gf D p (kj E p x.after sc (lW E p x.items sc (rp E p x.clauses sc fl))) h h' (40*bH (exO x)-100):=by
 have hsz:=dM x;obtain⟨h1,c1,g1⟩:=f163 X (l:=x.clauses) (by omega) (by omega) c so (by omega) (by omega);have n1:=g1.nx;have s1:=so.km0 g1.km;obtain⟨h2,c2,g2⟩:=f129 X (l:=x.items) (by omega) (by omega) g1.cs s1 (by omega) (by omega);have n2:=g2.nx;have s2:=s1.km0 g2.km;obtain⟨h3,c3,g3⟩:=f70 X (l:=x.after) (by omega) (by omega) g2.cs s2 (by omega) (by omega);have r:=((g1.trans g2).trans g3).up (m:=40*bH (exO x)-100) (by omega);refine cP Tryz.func151 (by decide) HN.2 rfl rfl (cR c.le) ?_
 repeat' (first
  |(refine WLg.mk ?_;first
  |refine aa rfl rfl rfl rfl ?_|refine ab rfl rfl rfl rfl ?_|refine aA rfl rfl RA rfl PB rfl ?_|refine au rfl rfl rfl (c1) (λ_ _ q=>q) .none rfl ?_|refine au rfl rfl rfl (c2) (λ_ _ q=>q) .none rfl ?_|refine au rfl rfl rfl (c3) (λ_ _ q=>q) .none rfl ?_)|apply ac|refine ae rfl ?_|apply ai|apply ah|apply bG.norm|fail)
 exact⟨.inl rfl,_,rfl,r.km.le,rfl,r⟩
theorem f152(X:EX D E t)(hx:bH (exO x)<t+1)(ht6:t<=6000000)(c:CS D p fl h)(so:Sco h k sc)(hz:szS sc+bH (exO x)<=6000000)(hk:h.next+40*bH (exO x)<300000001):∃h',CN 152 [.ptr 2 0,.agg (exO x),.map k] h (.tup []) h'/\Gf D p (kj E p x.after sc (rp E p x.catches sc (rp E p x.clauses sc (kj E p x.body sc fl)))) h h' (40*bH (exO x)-100):=by
 have hsz:=dM x;obtain⟨h0,c0,g0⟩:=f70 X (l:=x.body) (by omega) (by omega) c so (by omega) (by omega);have n0:=g0.nx;have s0:=so.km0 g0.km;obtain⟨h1,c1,g1⟩:=f163 X (l:=x.clauses) (by omega) (by omega) g0.cs s0 (by omega) (by omega);have n1:=g1.nx;have s1:=s0.km0 g1.km;obtain⟨h2,c2,g2⟩:=f163 X (l:=x.catches) (by omega) (by omega) g1.cs s1 (by omega) (by omega);have n2:=g2.nx;have s2:=s1.km0 g2.km;obtain⟨h3,c3,g3⟩:=f70 X (l:=x.after) (by omega) (by omega) g2.cs s2 (by omega) (by omega);have r:=(((g0.trans g1).trans g2).trans g3).up (m:=40*bH (exO x)-100) (by omega);refine cP Tryz.func152 (by decide) HM.2 rfl rfl (cR c.le) ?_
 repeat' (first
  |(refine WLg.mk ?_;first
  |refine aa rfl rfl rfl rfl ?_|refine ab rfl rfl rfl rfl ?_|refine aA rfl rfl RA rfl PB rfl ?_|refine au rfl rfl rfl (c0) (λ_ _ q=>q) .none rfl ?_|refine au rfl rfl rfl (c1) (λ_ _ q=>q) .none rfl ?_|refine au rfl rfl rfl (c2) (λ_ _ q=>q) .none rfl ?_|refine au rfl rfl rfl (c3) (λ_ _ q=>q) .none rfl ?_)|apply ac|refine ae rfl ?_|apply ai|apply ah|apply bG.norm|fail)
 exact⟨.inl rfl,_,rfl,r.km.le,rfl,r⟩
end
end
end Ev
end Go.Proofs.YtdfphfdnoobikaaGreatDoor
