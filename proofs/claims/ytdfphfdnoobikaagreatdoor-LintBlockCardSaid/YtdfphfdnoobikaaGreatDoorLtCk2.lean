/-
  The checker:patterns and guards.
-/
import Derived.Test.YtdfphfdnoobikaaGreatDoorLtPat
namespace Go.Proofs.YtdfphfdnoobikaaGreatDoor
namespace Ev
section
noncomputable section
def z27:List V:= .int .i64 0 :: .str 0 0 ::(tP++(tP++[.bool false,.bool false,.bool false]))
def eB:ByteArray:=⟨#[]⟩
def bsO(g:Sg):List V:=[.int .i64 8,.int .i64 0,.str 0 0,.str 0 0,.nils,.lst 1 27 (sgO g),.nils,.nils,.nils,.nils,.bool false]
def rp(p:Pl)(g:Sg)(last:Bool)(st:Sc×List Fl):Sc×List Fl:=
 (iO g st.1,if(g.sized&&(!eqI g.size.kind 1&&(!eqI g.size.kind 3||eqI (kZ st.1 g.size.name) 0)))||(!g.sized&&(!last&&(eqI g.type 2||eqI g.type 3)))
  then(if ra g then st.2 else st.2++[flw p 9 eB 0])++[flw p 11 eB 0]else if ra g then st.2 else st.2++[flw p 9 eB 0])
def uN(l:List Sg)(i:Nat):Bool:=eqI (Int.ofNat i) (cZ .i64 (Int.sub (Int.ofNat l.length) (Int.ofNat 1)))
def fh(p:Pl):Nat→Ex→Sc×List Fl→Sc×List Fl
 |0,_,st=>st
 |n+1,x,st=>if eqI x.kind 5||eqI x.kind 7 then cj (fun i st=>fh p n (bW x.items i) st) st x.items.length
  else if eqI x.kind 8 then cj (fun i st=>rp p (ce x.segs i) (uN x.segs i) st) st x.segs.length
  else(iI B6 x st.1,if rb 17 [.agg (exO x)]then st.2 else st.2++[flw p 9 eB 0])
def fY(p:Pl):Nat→Ex→Sc→List Fl→List Fl
 |0,_,_,fl=>fl
 |n+1,x,s,fl=>if eqI x.kind 3 then Aj p x s fl else if eqI x.kind 4 then fl++[flw p 8 eB 0]else if rb 37 [.agg (exO x)]then cj (fun i fl=>fY p n (bW x.items i) s fl) fl x.items.length else fl++[flw p 10 eB 0]
end
section
variable {D:Df} {p:Pl} {fl:List Fl} {k:Nat} {sc:Sc} {h:H}
theorem f50g(c:CS D p fl h)(hk:h.next+2<300000000)(code:Int):∃h',Con Tryz.prog TP noM 50 [.ptr 2 0,.int .i64 code,.str 0 0,.int .i64 0] h (.tup []) h'∧Gf D p (fl++[flw p code eB 0]) h h' 2:=by
 obtain⟨h1,c1,q1,q2,q3,_⟩:=f50 c hk code 0 eB
 exact⟨h1,c1,q1,q2,by omega⟩
set_option maxHeartbeats 800000 in
theorem f101s(c:CS D p fl h)(so:Sco h k sc)(hk:h.next<300000000)(g:Sg):∃h',Con Tryz.prog TP noM 101 [.agg (bsO g),.map k] h (.tup []) h'∧Gs D p fl k (iO g sc) h h' 0:=by
 have g0:=Gs.refl c so
 have px:∀v,v∈bsO g→bN v:=bO (.flat rfl) (bO (.flat rfl) (bO (.flat rfl) (bO (.flat rfl) (bO (.flat rfl) (bO (.lst fun c hc=>(gf _ c hc).x) (bO (.flat rfl) (bO (.flat rfl) (bO (.flat rfl) (bO (.flat rfl) (bO (.flat rfl) px0))))))))))
 refine cO Tryz.func101 (by decide) cf101_ok rfl rfl (cP c.le) ?_
 repeat' (first
  |(refine WLg.mk ?_;first
  |refine aa rfl rfl rfl rfl ?_|refine ab rfl rfl rfl rfl ?_|refine az rfl rfl rfl rfl px rfl ?_)
  |refine ah ?_|refine ac rfl ?_|refine ai ?_|refine ae ?_|refine aj ?_|refine aC rfl ?_|refine aB rfl ?_
  |refine bE.norm ?_|fail)
 refine av (bR (l:=fr101g (sgO g) 1 k 0) KH) ?_
 refine aw 1 (fun i l h1=>l=fr101g (sgO g) 1 k i∧Gs D p fl k (cj (fun _ s=>iO g s) sc i) h h1 0) ?_ (i:=0) (Nat.zero_le _) ⟨rfl,g0⟩
 rintro i _ ha hi ⟨rfl,ga⟩
 have hnx:=ga.nx
 cases i with
 |succ i=>
  obtain rfl:i=0:=by omega
  repeat' (first
   |(refine WLg.mk ?_;first
   |refine aa rfl rfl rfl rfl ?_)
   |refine ah ?_|refine ac rfl ?_|refine ai ?_|refine ae ?_|refine aB rfl ?_|refine au ?_|refine bE.norm ?_
   |refine bE.exit ?_|refine OnC.exit ?_|fail)
  exact⟨.inl rfl,_,rfl,ga.km.le,rfl,ga⟩
 |zero=>
  have hka:ha.next<900000000:=by omega
  have pp:∀v,v∈sgO g→bN v:=fun v hv=>(gf _ v hv).x
  have c36:=f36 g
  have lk:=ga.so.look g.val.name
  obtain⟨hu,mu,q1,q2,q3,q4⟩:=ga.cs.bump ga.so (by omega) g.val.name
  have gu:Gs D p fl k (oS _ g.val.name) ha hu 0:=⟨q1,q2,q3,by omega⟩
  repeat' (first
   |(refine WLg.mk ?_;first
   |refine aa rfl rfl rfl rfl ?_
   |refine ab rfl rfl (show ROp.run (.load true 27) [.eptr (sgO g) 0] _=some (.agg (sgO g))from rfl) rfl ?_
   |refine ab rfl rfl lk rfl ?_|refine ab rfl rfl rfl rfl ?_|refine aA rfl rfl (cT hka) rfl rfl rfl rfl rfl rfl rfl rfl pp rfl rfl ?_
   |refine aq rfl rfl rfl (c36) rfl ?_|refine aD rfl rfl mu rfl ?_)
   |refine ah ?_|refine ac rfl ?_|refine ax rfl rfl ?_|refine ay rfl (fun ht=>?_) (fun ht=>?_)|refine ai ?_
   |refine ae ?_|refine aj ?_|refine al ?_|refine aC rfl ?_|refine aB rfl ?_
   |refine ak rfl (fun ht=>?_) (fun ht=>?_)|refine bE.norm ?_|fail)
  all_goals first
   |exact .norm ⟨_,_,bR KH,Nat.zero_lt_one,rfl,(ga.trans gu).eq rfl (by simp [cj,iO,ra, *])⟩
   |exact .norm ⟨_,_,bR KH,Nat.zero_lt_one,rfl,ga.eq rfl (by simp [cj,iO,ra, *])⟩
set_option maxHeartbeats 1600000 in
theorem f100(c:CS D p fl h)(so:Sco h k sc)(hk:h.next+4<300000000)(g:Sg)(last:Bool):∃h',Con Tryz.prog TP noM 100 [.ptr 2 0,.agg (sgO g),.map k,.bool last] h (.tup []) h'∧Gs D p (rp p g last (sc,fl)).2 k (rp p g last (sc,fl)).1 h h' 4:=by
 have g0:Gf D p fl h h 0:= .refl c
 obtain⟨ha,ca,ga⟩:=f50g c (by omega) 9
 have na:=ga.nx
 have soa:=so.km0 ga.km
 obtain⟨hb,cb,gb⟩:=f50g c (by omega) 11
 have nb:=gb.nx
 obtain⟨hc,cc,gc⟩:=f50g ga.cs (by omega) 11
 have nc:=gc.nx
 have lk:=so.look g.size.name
 have lka:=soa.look g.size.name
 obtain⟨h1,b1,s1⟩:=f101s c so (by omega) g
 obtain⟨h2,b2,s2⟩:=f101s ga.cs soa (by omega) g
 obtain⟨h3,b3,s3⟩:=f101s gb.cs (so.km0 gb.km) (by omega) g
 obtain⟨h4,b4,s4⟩:=f101s gc.cs (soa.km0 gc.km) (by omega) g
 have r1:Gs D p fl k (iO g sc) h h1 4:=s1.up (by omega)
 have r2:Gs D p (fl++[flw p 9 eB 0]) k (iO g sc) h h2 4:=((ga.gs c so).trans s2).up (by omega)
 have r3:Gs D p (fl++[flw p 11 eB 0]) k (iO g sc) h h3 4:=((gb.gs c so).trans s3).up (by omega)
 have r4:Gs D p ((fl++[flw p 9 eB 0])++[flw p 11 eB 0]) k (iO g sc) h h4 4:=(((ga.trans gc).gs c so).trans s4).up (by omega)
 have pp:∀v,v∈sgO g→bN v:=fun v hv=>(gf _ v hv).x
 have c36:=f36 g
 clear g0 ga gb gc na nb nc soa s1 s2 s3 s4
 refine cO Tryz.func100 (by decide) cf100_ok rfl rfl (cP c.le) ?_
 repeat' (first
  |(refine WLg.mk ?_;first
  |refine aa rfl rfl rfl rfl ?_
  |refine ab rfl rfl (show ROp.run (.load true 27) [.eptr (sgO g) 0] _=some (.agg (sgO g))from rfl) rfl ?_
  |refine ab rfl rfl lk rfl ?_|refine ab rfl rfl lka rfl ?_|refine ab rfl rfl rfl rfl ?_
  |refine aQ (cs:=sgO g) rfl rfl rfl rfl rfl rfl pp rfl ?_
  |refine az rfl rfl RA rfl PB rfl ?_
  |refine aq rfl rfl rfl (c36) rfl ?_|refine am rfl rfl rfl (ca) (fun _ _ q=>q) .none rfl ?_
  |refine am rfl rfl rfl (cb) (fun _ _ q=>q) .none rfl ?_|refine am rfl rfl rfl (cc) (fun _ _ q=>q) .none rfl ?_
  |refine am rfl rfl rfl (b1) (fun _ _ q=>q) .none rfl ?_|refine am rfl rfl rfl (b2) (fun _ _ q=>q) .none rfl ?_
  |refine am rfl rfl rfl (b3) (fun _ _ q=>q) .none rfl ?_|refine am rfl rfl rfl (b4) (fun _ _ q=>q) .none rfl ?_)
  |refine ah ?_|refine ac rfl ?_|refine ax rfl rfl ?_|refine ay rfl (fun ht=>?_) (fun ht=>?_)|refine ai ?_
  |refine ae ?_|refine aj ?_|refine al ?_|refine aC rfl ?_|refine aB rfl ?_
  |refine ak rfl (fun ht=>?_) (fun ht=>(Bool.false_ne_true (ht.symm.trans (by with_reducible assumption))).elim)
  |refine ak rfl (fun ht=>?_) (fun ht=>?_)|refine bE.norm ?_|fail)
 all_goals first
  |exact⟨.inl rfl,_,rfl,r1.km.le,rfl,r1.eq (by(try simp only [Bool.not_eq_true',Bool.not_eq_false']at*)<;>first|(simp [rp,ra, *];done)|(simp_all [];done)) rfl⟩
  |exact⟨.inl rfl,_,rfl,r2.km.le,rfl,r2.eq (by(try simp only [Bool.not_eq_true',Bool.not_eq_false']at*)<;>first|(simp [rp,ra, *];done)|(simp_all [];done)) rfl⟩
  |exact⟨.inl rfl,_,rfl,r3.km.le,rfl,r3.eq (by(try simp only [Bool.not_eq_true',Bool.not_eq_false']at*)<;>first|(simp [rp,ra, *];done)|(simp_all [];done)) rfl⟩
  |exact⟨.inl rfl,_,rfl,r4.km.le,rfl,r4.eq (by(try simp only [Bool.not_eq_true',Bool.not_eq_false']at*)<;>first|(simp [rp,ra, *];done)|(simp_all [];done)) rfl⟩
noncomputable section
def fr68(x:Ex)(k i:Nat):AL:=[(0,.ptr 2 0),(2,.map k),(24,.lst x.items.length 11 (exL x.items)),(25,.int .i64 (Int.ofNat x.items.length)),(26,.int .i64 (Int.ofNat i))]
def fr68g(x:Ex)(k i:Nat):AL:=[(0,.ptr 2 0),(2,.map k),(4,.eptr (exO x) 0),(38,.lst x.segs.length 27 (sgL x.segs)),(39,.int .i64 (Int.ofNat x.segs.length)),(40,.int .i64 (Int.ofNat i))]
end
def PT(t:Nat):Prop:=∀x,bF (exO x)<t→∀{D:Df} {p:Pl} {fl:List Fl} {k:Nat} {sc:Sc} {h:H},CS D p fl h→Sco h k sc→h.next+8*bF (exO x)<300000000→∃h',Con Tryz.prog TP noM 68 [.ptr 2 0,.agg (exO x),.map k] h (.tup []) h'∧Gs D p (fh p t x (sc,fl)).2 k (fh p t x (sc,fl)).1 h h' (8*bF (exO x))
set_option maxHeartbeats 4000000 in
theorem y8{t:Nat}(ht6:t≤6000000)(B:PT t):PT (t+1):=by
 intro x hx D p fl k sc h c so hk
 have hsz:=dL x
 have np:=cP c.le
 have hn:=dt x.items
 have hn2:=iQ x.segs
 have g0:=Gs.refl c so
 obtain⟨ha,ca,ga⟩:=f50g c (by omega) 9
 have na:=ga.nx
 obtain⟨h1,b1,s1⟩:=nC B6 oY x (rl (by omega)) c so (by omega)
 obtain⟨h2,b2,s2⟩:=nC B6 oY x (rl (by omega)) ga.cs (so.km0 ga.km) (by omega)
 have r1:Gs D p fl k (iI B6 x sc) h h1 (8*bF (exO x)):=s1.up (by omega)
 have r2:Gs D p (fl++[flw p 9 eB 0]) k (iI B6 x sc) h h2 (8*bF (exO x)):=((ga.gs c so).trans s2).up (by omega)
 have c17:=f17 6000001 (Nat.le_refl _) x (by omega)
 refine cO Tryz.func68 (by decide) cf68_ok rfl rfl np ?_
 repeat' (first
  |(refine WLg.mk ?_;first
  |refine aa rfl rfl rfl rfl ?_
  |refine ab rfl rfl (show ROp.run (.load true 11) [.eptr (exO x) 0] _=some (.agg (exO x))from rfl) rfl ?_
  |refine ab rfl rfl rfl rfl ?_
  |refine az rfl rfl RA rfl PB rfl ?_
  |refine aq rfl rfl rfl (c17) rfl ?_|refine am rfl rfl rfl (ca) (fun _ _ q=>q) .none rfl ?_
  |refine am rfl rfl rfl (b1) (fun _ _ q=>q) .none rfl ?_|refine am rfl rfl rfl (b2) (fun _ _ q=>q) .none rfl ?_)
  |refine ah ?_|refine ac rfl ?_|refine ai ?_|refine ae ?_|refine aj ?_|refine al ?_
  |refine ak rfl (fun ht=>?_) (fun ht=>(Bool.false_ne_true (ht.symm.trans (by with_reducible assumption))).elim)
  |refine ak rfl (fun ht=>?_) (fun ht=>?_)|refine bE.norm ?_|fail)
 ·refine av (bR (l:=fr68 x k 0) KH) ?_
  refine aw x.items.length (fun i l h1=>l=fr68 x k i∧Gs D p (cj (fun i st=>fh p t (bW x.items i) st) (sc,fl) i).2 k (cj (fun i st=>fh p t (bW x.items i) st) (sc,fl) i).1 h h1 (8*bF (exL (x.items.take i)))) ?_ (i:=0) (Nat.zero_le _) ⟨rfl,g0.up (Nat.zero_le _)⟩
  clear ca ga b1 s1 b2 s2 r1 r2 c17
  rintro i _ ha hi ⟨rfl,ga⟩
  have hi2:i<9223372036854775807:=by omega
  have hnx:=ga.nx
  cases q:ltI (Int.ofNat i) (Int.ofNat x.items.length)with
  |false=>
   have hie:i=x.items.length:=by have:=ci q;omega
   repeat' (first
    |(refine WLg.mk ?_;first
    |refine aa rfl rfl rfl rfl ?_)
    |refine ah ?_|refine ac rfl ?_|refine ai ?_|refine ae ?_
    |refine ak rfl (fun ht=>(Bool.false_ne_true ((show _=false by with_reducible assumption).symm.trans ht)).elim) (fun ht=>?_)
    |refine au ?_|refine bE.norm ?_|refine bE.exit ?_|refine OnC.exit ?_|fail)
   subst hie
   rw [List.take_length]at ga
   exact⟨.inl rfl,_,rfl,ga.km.le,rfl,(ga.up (by omega)).eq (by(try simp only [Bool.not_eq_true',Bool.not_eq_false']at*)<;>first|(simp [fh, *];done)|(simp_all [fh];done)) (by(try simp only [Bool.not_eq_true',Bool.not_eq_false']at*)<;>first|(simp [fh, *];done)|(simp_all [fh];done))⟩
  |true=>
   have hlt:=bK q
   have hpre:=fO hlt
   have hle:=d8 x.items (i+1)
   have hka:ha.next<900000000:=by omega
   have pp:∀v,v∈exO (bW x.items i)→bN v:=fun v hv=>(dc _ v hv).x
   obtain⟨hu,cu,gu⟩:=B (bW x.items i) (by omega) ga.cs ga.so (by omega)
   repeat' (first
    |(refine WLg.mk ?_;first
    |refine aa rfl rfl rfl rfl ?_|refine aa rfl rfl (bM Hy) rfl ?_
    |refine ab rfl rfl (show ROp.run (.load true 11) [.eptr (exO (bW x.items i)) 0] _=some (.agg (exO (bW x.items i)))from rfl) rfl ?_
    |refine ab rfl rfl (dv Hy) rfl ?_|refine aA rfl rfl (cT hka) rfl rfl rfl rfl rfl rfl rfl rfl pp rfl rfl ?_
    |refine am rfl rfl rfl (cu) (fun _ _ q=>q) .none rfl ?_)
    |refine ah ?_|refine ac rfl ?_|refine ai ?_|refine ae ?_|refine aj ?_|refine al ?_
    |refine ak rfl (fun ht=>?_) (fun ht=>(Bool.false_ne_true (ht.symm.trans (by with_reducible assumption))).elim)
    |refine bE.norm ?_|fail)
   exact .norm ⟨_,_,bR KH,hlt,rfl,(ga.trans gu).up (by omega)⟩
 ·refine av (bR (l:=fr68 x k 0) KH) ?_
  refine aw x.items.length (fun i l h1=>l=fr68 x k i∧Gs D p (cj (fun i st=>fh p t (bW x.items i) st) (sc,fl) i).2 k (cj (fun i st=>fh p t (bW x.items i) st) (sc,fl) i).1 h h1 (8*bF (exL (x.items.take i)))) ?_ (i:=0) (Nat.zero_le _) ⟨rfl,g0.up (Nat.zero_le _)⟩
  clear ca ga b1 s1 b2 s2 r1 r2 c17
  rintro i _ ha hi ⟨rfl,ga⟩
  have hi2:i<9223372036854775807:=by omega
  have hnx:=ga.nx
  cases q:ltI (Int.ofNat i) (Int.ofNat x.items.length)with
  |false=>
   have hie:i=x.items.length:=by have:=ci q;omega
   repeat' (first
    |(refine WLg.mk ?_;first
    |refine aa rfl rfl rfl rfl ?_)
    |refine ah ?_|refine ac rfl ?_|refine ai ?_|refine ae ?_
    |refine ak rfl (fun ht=>(Bool.false_ne_true ((show _=false by with_reducible assumption).symm.trans ht)).elim) (fun ht=>?_)
    |refine au ?_|refine bE.norm ?_|refine bE.exit ?_|refine OnC.exit ?_|fail)
   subst hie
   rw [List.take_length]at ga
   exact⟨.inl rfl,_,rfl,ga.km.le,rfl,(ga.up (by omega)).eq (by(try simp only [Bool.not_eq_true',Bool.not_eq_false']at*)<;>first|(simp [fh, *];done)|(simp_all [fh];done)) (by(try simp only [Bool.not_eq_true',Bool.not_eq_false']at*)<;>first|(simp [fh, *];done)|(simp_all [fh];done))⟩
  |true=>
   have hlt:=bK q
   have hpre:=fO hlt
   have hle:=d8 x.items (i+1)
   have hka:ha.next<900000000:=by omega
   have pp:∀v,v∈exO (bW x.items i)→bN v:=fun v hv=>(dc _ v hv).x
   obtain⟨hu,cu,gu⟩:=B (bW x.items i) (by omega) ga.cs ga.so (by omega)
   repeat' (first
    |(refine WLg.mk ?_;first
    |refine aa rfl rfl rfl rfl ?_|refine aa rfl rfl (bM Hy) rfl ?_
    |refine ab rfl rfl (show ROp.run (.load true 11) [.eptr (exO (bW x.items i)) 0] _=some (.agg (exO (bW x.items i)))from rfl) rfl ?_
    |refine ab rfl rfl (dv Hy) rfl ?_|refine aA rfl rfl (cT hka) rfl rfl rfl rfl rfl rfl rfl rfl pp rfl rfl ?_
    |refine am rfl rfl rfl (cu) (fun _ _ q=>q) .none rfl ?_)
    |refine ah ?_|refine ac rfl ?_|refine ai ?_|refine ae ?_|refine aj ?_|refine al ?_
    |refine ak rfl (fun ht=>?_) (fun ht=>(Bool.false_ne_true (ht.symm.trans (by with_reducible assumption))).elim)
    |refine bE.norm ?_|fail)
   exact .norm ⟨_,_,bR KH,hlt,rfl,(ga.trans gu).up (by omega)⟩
 ·refine av (bR (l:=fr68g x k 0) KH) ?_
  refine aw x.segs.length (fun i l h1=>l=fr68g x k i∧Gs D p (cj (fun i st=>rp p (ce x.segs i) (uN x.segs i) st) (sc,fl) i).2 k (cj (fun i st=>rp p (ce x.segs i) (uN x.segs i) st) (sc,fl) i).1 h h1 (8*bF (sgL (x.segs.take i)))) ?_ (i:=0) (Nat.zero_le _) ⟨rfl,g0.up (Nat.zero_le _)⟩
  clear ca ga b1 s1 b2 s2 r1 r2 c17
  rintro i _ ha hi ⟨rfl,ga⟩
  have hi2:i<9223372036854775807:=by omega
  have hnx:=ga.nx
  cases q:ltI (Int.ofNat i) (Int.ofNat x.segs.length)with
  |false=>
   have hie:i=x.segs.length:=by have:=ci q;omega
   repeat' (first
    |(refine WLg.mk ?_;first
    |refine aa rfl rfl rfl rfl ?_)
    |refine ah ?_|refine ac rfl ?_|refine ai ?_|refine ae ?_
    |refine ak rfl (fun ht=>(Bool.false_ne_true ((show _=false by with_reducible assumption).symm.trans ht)).elim) (fun ht=>?_)
    |refine au ?_|refine bE.norm ?_|refine bE.exit ?_|refine OnC.exit ?_|fail)
   subst hie
   rw [List.take_length]at ga
   exact⟨.inl rfl,_,rfl,ga.km.le,rfl,(ga.up (by omega)).eq (by(try simp only [Bool.not_eq_true',Bool.not_eq_false']at*)<;>first|(simp [fh, *];done)|(simp_all [fh];done)) (by(try simp only [Bool.not_eq_true',Bool.not_eq_false']at*)<;>first|(simp [fh, *];done)|(simp_all [fh];done))⟩
  |true=>
   have hlt:=bK q
   have hpre:=pV hlt
   have hle:=mL x.segs (i+1)
   have hss:=kJ (ce x.segs i)
   have hka:ha.next<900000000:=by omega
   have pp:∀v,v∈sgO (ce x.segs i)→bN v:=fun v hv=>(gf _ v hv).x
   obtain⟨hv,tr,wv,csv,kmv,nxv,bv,tv,_⟩:=ga.cs.slot hka z27 (sgO (ce x.segs i)) rfl (by decide) rfl
   have ldv:ROp.run (.load true 27) [.ptr ha.next 0] hv=some (.agg (sgO (ce x.segs i))):=Bc bv rfl tv
   have gv:Gf D p _ ha hv 1:=⟨csv,kmv,by omega⟩
   obtain⟨hu,cu,gu⟩:=f100 csv (ga.so.km0 kmv) (by omega) (ce x.segs i) (uN x.segs i)
   repeat' (first
    |(refine WLg.mk ?_;first
    |refine aa rfl rfl rfl rfl ?_|refine aa rfl rfl (bM Hy) rfl ?_|refine ab rfl rfl ldv rfl ?_|refine ab rfl rfl rfl rfl ?_
    |refine ab rfl rfl (gq Hy) rfl ?_|refine aE (t:=ha.t) (k:=ha.next) rfl rfl rfl (cT hka) rfl ?_
    |refine am rfl rfl rfl (cu) (fun _ _ q=>q) .none rfl ?_|refine aD rfl rfl wv rfl ?_)
    |refine ah ?_|refine ac rfl ?_|refine ai ?_|refine ae ?_|refine aj ?_|refine al ?_
    |refine ak rfl (fun ht=>?_) (fun ht=>(Bool.false_ne_true (ht.symm.trans (by with_reducible assumption))).elim)
    |refine bE.norm ?_|fail)
   exact .norm ⟨_,_,bR KH,hlt,rfl,((ga.trans (gv.gs ga.cs ga.so)).trans gu).up (by omega)⟩
 all_goals first
  |exact⟨.inl rfl,_,rfl,r1.km.le,rfl,r1.eq (by(try simp only [Bool.not_eq_false']at*)<;>first|(simp [fh, *];done)|(simp_all [fh];done)) (by(try simp only [Bool.not_eq_false']at*)<;>first|(simp [fh, *];done)|(simp_all [fh];done))⟩
  |exact⟨.inl rfl,_,rfl,r2.km.le,rfl,r2.eq (by(try simp only [Bool.not_eq_true']at*)<;>first|(simp [fh, *];done)|(simp_all [fh];done)) (by(try simp only [Bool.not_eq_true']at*)<;>first|(simp [fh, *];done)|(simp_all [fh];done))⟩
theorem sR:∀t,t≤6000001→PT t
 |0,_=>fun x hx=>by omega
 |t+1,hs=>y8 (by omega) (sR t (by omega))
noncomputable section
def fr69(x:Ex)(k i:Nat):AL:=[(0,.ptr 2 0),(2,.map k),(9,.lst x.items.length 11 (exL x.items)),(10,.int .i64 (Int.ofNat x.items.length)),(11,.int .i64 (Int.ofNat i))]
end
def GT(t:Nat):Prop:=∀x,bF (exO x)<t→∀{D:Df} {p:Pl} {fl:List Fl} {k:Nat} {sc:Sc} {h:H},CS D p fl h→Sco h k sc→h.next+8*bF (exO x)<300000000→∃h',Con Tryz.prog TP noM 69 [.ptr 2 0,.agg (exO x),.map k] h (.tup []) h'∧Gf D p (fY p t x sc fl) h h' (8*bF (exO x))
set_option maxHeartbeats 800000 in
theorem wp{t:Nat}(ht6:t≤6000000)(B:GT t):GT (t+1):=by
 intro x hx D p fl k sc h c so hk
 have hsz:=dL x
 have np:=cP c.le
 have hn:=dt x.items
 have g0:=Gf.refl c
 obtain⟨h1,c1,g1⟩:=f102 c so (by omega) x
 obtain⟨h2,c2,g2⟩:=f50g c (by omega) 8
 obtain⟨h3,c3,g3⟩:=f50g c (by omega) 10
 have r1:=g1.up (m:=8*bF (exO x)) (by omega)
 have r2:=g2.up (m:=8*bF (exO x)) (by omega)
 have r3:=g3.up (m:=8*bF (exO x)) (by omega)
 have c37:=f37 x (by omega)
 refine cO Tryz.func69 (by decide) cf69_ok rfl rfl np ?_
 repeat' (first
  |(refine WLg.mk ?_;first
  |refine aa rfl rfl rfl rfl ?_
  |refine ab rfl rfl (show ROp.run (.load true 11) [.eptr (exO x) 0] _=some (.agg (exO x))from rfl) rfl ?_
  |refine ab rfl rfl rfl rfl ?_
  |refine az rfl rfl RA rfl PB rfl ?_
  |refine aq rfl rfl rfl (c37) rfl ?_|refine am rfl rfl rfl (c1) (fun _ _ q=>q) .none rfl ?_
  |refine am rfl rfl rfl (c2) (fun _ _ q=>q) .none rfl ?_|refine am rfl rfl rfl (c3) (fun _ _ q=>q) .none rfl ?_)
  |refine ah ?_|refine ac rfl ?_|refine ai ?_|refine ae ?_|refine aj ?_|refine ak rfl (fun ht=>?_) (fun ht=>?_)
  |refine bE.norm ?_|fail)
 ·exact⟨.inl rfl,_,rfl,r1.km.le,rfl,r1.eq (by(try simp only [Bool.not_eq_true',Bool.not_eq_false']at*)<;>first|(simp [fY, *];done)|(simp_all [fY];done))⟩
 ·exact⟨.inl rfl,_,rfl,r2.km.le,rfl,r2.eq (by(try simp only [Bool.not_eq_true',Bool.not_eq_false']at*)<;>first|(simp [fY, *];done)|(simp_all [fY];done))⟩
 ·exact⟨.inl rfl,_,rfl,r3.km.le,rfl,r3.eq (by(try simp only [Bool.not_eq_true']at*)<;>first|(simp [fY, *];done)|(simp_all [fY];done))⟩
 ·refine av (bR (l:=fr69 x k 0) KH) ?_
  refine aw x.items.length (fun i l h1=>l=fr69 x k i∧Gf D p (cj (fun i fl=>fY p t (bW x.items i) sc fl) fl i) h h1 (8*bF (exL (x.items.take i)))) ?_ (i:=0) (Nat.zero_le _) ⟨rfl,g0.up (Nat.zero_le _)⟩
  clear c1 g1 c2 g2 c3 g3 r1 r2 r3 c37
  rintro i _ ha hi ⟨rfl,ga⟩
  have hi2:i<9223372036854775807:=by omega
  have hnx:=ga.nx
  cases q:ltI (Int.ofNat i) (Int.ofNat x.items.length)with
  |false=>
   have hie:i=x.items.length:=by have:=ci q;omega
   repeat' (first
    |(refine WLg.mk ?_;first
    |refine aa rfl rfl rfl rfl ?_)
    |refine ah ?_|refine ac rfl ?_|refine ai ?_|refine ae ?_
    |refine ak rfl (fun ht=>(Bool.false_ne_true ((show _=false by with_reducible assumption).symm.trans ht)).elim) (fun ht=>?_)
    |refine au ?_|refine bE.norm ?_|refine bE.exit ?_|refine OnC.exit ?_|fail)
   subst hie
   rw [List.take_length]at ga
   exact⟨.inl rfl,_,rfl,ga.km.le,rfl,(ga.up (by omega)).eq (by(try simp only [Bool.not_eq_false']at*)<;>first|(simp [fY, *];done)|(simp_all [fY];done))⟩
  |true=>
   have hlt:=bK q
   have hpre:=fO hlt
   have hle:=d8 x.items (i+1)
   have hka:ha.next<900000000:=by omega
   have pp:∀v,v∈exO (bW x.items i)→bN v:=fun v hv=>(dc _ v hv).x
   obtain⟨hu,cu,gu⟩:=B (bW x.items i) (by omega) ga.cs (so.km0 ga.km) (by omega)
   repeat' (first
    |(refine WLg.mk ?_;first
    |refine aa rfl rfl rfl rfl ?_|refine aa rfl rfl (bM Hy) rfl ?_
    |refine ab rfl rfl (show ROp.run (.load true 11) [.eptr (exO (bW x.items i)) 0] _=some (.agg (exO (bW x.items i)))from rfl) rfl ?_
    |refine ab rfl rfl (dv Hy) rfl ?_|refine aA rfl rfl (cT hka) rfl rfl rfl rfl rfl rfl rfl rfl pp rfl rfl ?_
    |refine am rfl rfl rfl (cu) (fun _ _ q=>q) .none rfl ?_)
    |refine ah ?_|refine ac rfl ?_|refine ai ?_|refine ae ?_|refine aj ?_|refine al ?_
    |refine ak rfl (fun ht=>?_) (fun ht=>(Bool.false_ne_true (ht.symm.trans (by with_reducible assumption))).elim)
    |refine bE.norm ?_|fail)
   exact .norm ⟨_,_,bR KH,hlt,rfl,(ga.trans gu).up (by omega)⟩
theorem r8:∀t,t≤6000001→GT t
 |0,_=>fun x hx=>by omega
 |t+1,hs=>wp (by omega) (r8 t (by omega))
theorem pD{l:List Ex}{σ:Type}{g:σ→Nat}{f:Nat→σ→σ}{s:σ}(k:∀i s,i<l.length→g (f i s)≤g s+bF (exO (bW l i))):∀n,n≤l.length→g (cj f s n)≤g s+bF (exL (l.take n))
 |0,_=>Nat.le_add_right _ _
 |n+1,h=>by
  have:=pD (s:=s) k n (by omega)
  have:=k n (cj f s n) (by omega)
  have:=fO (show n<l.length by omega)
  show g (f n (cj f s n))≤_
  omega
theorem sZ{l:List Sg}{σ:Type}{g:σ→Nat}{f:Nat→σ→σ}{s:σ}(k:∀i s,i<l.length→g (f i s)≤g s+bF (sgO (ce l i))):∀n,n≤l.length→g (cj f s n)≤g s+bF (sgL (l.take n))
 |0,_=>Nat.le_add_right _ _
 |n+1,h=>by
  have:=sZ (s:=s) k n (by omega)
  have:=k n (cj f s n) (by omega)
  have:=pV (show n<l.length by omega)
  show g (f n (cj f s n))≤_
  omega
theorem vB(g:Sg)(s:Sc):szS (iO g s)≤szS s+bF (sgO g):=by
 have h1:=kJ g
 have h2:=dL g.val
 have h3:=vW (b:=g.val.name) (v:=cZ .i64 (Int.add (kZ s g.val.name) (Int.ofNat 1))) (s:=s)
 rw [iO]
 split
 ·rw [oS]
  omega
 ·omega
theorem yK:∀(n:Nat) (x:Ex) (s:Sc),szS (iI n x s)≤szS s+bF (exO x)
 |0,x,s=>Nat.le_add_right _ _
 |n+1,x,s=>by
  have h1:=dL x
  rw [iI]
  split
  ·have h3:=vW (b:=x.name) (v:=cZ .i64 (Int.add (kZ s x.name) (Int.ofNat 1))) (s:=s)
   rw [oS]
   omega
  ·split
   ·have:=pD (g:=szS) (l:=x.items) (f:=fun i s=>iI n (bW x.items i) s) (s:=s) (fun i s _=>yK n _ s) x.items.length (Nat.le_refl _)
    rw [List.take_length]at this
    omega
   ·split
    ·have:=sZ (g:=szS) (l:=x.segs) (f:=fun i s=>iO (ce x.segs i) s) (s:=s) (fun i s _=>vB _ s) x.segs.length (Nat.le_refl _)
     rw [List.take_length]at this
     omega
    ·omega
theorem sQ(p:Pl):∀(n:Nat) (x:Ex) (st:Sc×List Fl),szS (fh p n x st).1≤szS st.1+bF (exO x)
 |0,x,s=>Nat.le_add_right _ _
 |n+1,x,st=>by
  have h1:=dL x
  rw [fh]
  split
  ·have:=pD (g:=fun st:Sc×List Fl=>szS st.1) (l:=x.items) (f:=fun i st=>fh p n (bW x.items i) st) (s:=st) (fun i s _=>sQ p n _ s) x.items.length (Nat.le_refl _)
   rw [List.take_length]at this
   exact Nat.le_trans this (by omega)
  ·split
   ·have:=sZ (g:=fun st:Sc×List Fl=>szS st.1) (l:=x.segs) (f:=fun i st=>rp p (ce x.segs i) (uN x.segs i) st) (s:=st) (fun i s _=>vB _ s.1) x.segs.length (Nat.le_refl _)
    rw [List.take_length]at this
    exact Nat.le_trans this (by omega)
   ·exact yK _ _ _
end
end
section
abbrev XF:=Pl→Ex→Sc→List Fl→List Fl
noncomputable section
def gZ(E:XF)(p:Pl)(s:Sm)(st:Sc×List Fl):Sc×List Fl:=
 if s.isMatch then((fh p B6 s.pat st).1,E p s.val st.1 (fh p B6 s.pat st).2)else(st.1,E p s.val st.1 st.2)
def ju(E:XF)(p:Pl)(l:List Sm)(sc:Sc)(fl:List Fl):List Fl:=(cj (fun i st=>gZ E p (cC l i) st) (sc,fl) l.length).2
def EQ(E:XF)(p:Pl)(c:Cl)(st:Sc×List Fl):List Fl:=
 ju E p c.body st.1 (cj (fun i g=>cj (fun j g=>fY p B6 (bW (dm c.guards i) j) st.1 g) g (dm c.guards i).length) st.2 c.guards.length)
def qB(E:XF)(p:Pl)(c:Cl)(sc:Sc)(fl:List Fl):List Fl:=EQ E p c (cj (fun i st=>fh p B6 (bW c.pats i) st) (sc,fl) c.pats.length)
def qV(E:XF)(p:Pl)(l:List Cl)(sc:Sc)(fl:List Fl):List Fl:=cj (fun i fl=>qB E p (bL l i) sc fl) fl l.length
def lW(E:XF)(p:Pl)(l:List Ex)(sc:Sc)(fl:List Fl):List Fl:=cj (fun i fl=>E p (bW l i) sc fl) fl l.length
end
theorem yH(E:XF)(p:Pl)(l:List Sm)(sc:Sc)(fl:List Fl):∀n,n≤l.length→szS (cj (fun i st=>gZ E p (cC l i) st) (sc,fl) n).1≤szS sc+bF (smL (l.take n))
 |0,_=>Nat.le_add_right _ _
 |n+1,h=>by
  have h1:=yH E p l sc fl n (by omega)
  have h2:=sJ (show n<l.length by omega)
  have h3:=lU (cC l n)
  show szS (gZ E p (cC l n) (cj (fun i st=>gZ E p (cC l i) st) (sc,fl) n)).1≤_
  rw [gZ]
  split
  ·have:=sQ p B6 (cC l n).pat (cj (fun i st=>gZ E p (cC l i) st) (sc,fl) n)
   simp only
   omega
  ·simp only
   omega
structure Gw(D:Df)(p:Pl)(fl:List Fl)(k:Nat)(h0 h:H)(n:Nat):Prop where
 cs:CS D p fl h
 km:KM k h0 h
 nx:h.next≤h0.next+n
theorem Gw.eq{D:Df}{p:Pl}{fl fl':List Fl}{k:Nat}{a b:H}{n:Nat}(x:Gw D p fl k a b n)(e:fl'=fl):Gw D p fl' k a b n:=e▸x
theorem Gs.w{D:Df}{p:Pl}{fl:List Fl}{k:Nat}{s:Sc}{a b:H}{n:Nat}(x:Gs D p fl k s a b n):Gw D p fl k a b n:=⟨x.cs,x.km,x.nx⟩
theorem Gf.w{D:Df}{p:Pl}{fl fl':List Fl}{k:Nat}{a b c:H}{n m:Nat}(x:Gf D p fl a b n)(y:Gw D p fl' k b c m)(hk:a.next≤k):Gf D p fl' a c (n+m):=⟨y.cs,x.km.fresh hk y.km.toKMx,by have:=x.nx;have:=y.nx;omega⟩
theorem Gs.f{D:Df}{p:Pl}{fl fl':List Fl}{k:Nat}{s:Sc}{a b c:H}{n m:Nat}(x:Gs D p fl k s a b n)(y:Gf D p fl' b c m):Gs D p fl' k s a c (n+m):=⟨y.cs,x.so.km0 y.km,x.km.trans (y.km.to x.cs.b0 x.so.hi),by have:=x.nx;have:=y.nx;omega⟩
def EX(D:Df)(E:XF)(t:Nat):Prop:=∀x,bF (exO x)<t→∀{p:Pl} {fl:List Fl} {k:Nat} {sc:Sc} {h:H},CS D p fl h→Sco h k sc→szS sc+bF (exO x)≤6000000→h.next+40*bF (exO x)<300000000→∃h',Con Tryz.prog TP noM 104 [.ptr 2 0,.agg (exO x),.map k] h (.tup []) h'∧Gf D p (E p x sc fl) h h' (40*bF (exO x))
noncomputable section
def fr70(l:List Sm)(k i:Nat):AL:=[(0,.ptr 2 0),(2,.map k),(11,.lst l.length 23 (smL l)),(12,.int .i64 (Int.ofNat l.length)),(13,.int .i64 (Int.ofNat i))]
def fr52a(c:Cl)(k i:Nat):AL:=[(0,.ptr 2 0),(2,.map k),(4,.eptr (clO c) 0),(13,.lst c.pats.length 11 (exL c.pats)),(14,.int .i64 (Int.ofNat c.pats.length)),(15,.int .i64 (Int.ofNat i))]
def fr52b(c:Cl)(k i:Nat):AL:=[(0,.ptr 2 0),(2,.map k),(4,.eptr (clO c) 0),(25,.lst c.guards.length 1 (gdL c.guards)),(26,.int .i64 (Int.ofNat c.guards.length)),(27,.int .i64 (Int.ofNat i))]
def fr52c(c:Cl)(k i j:Nat):AL:=[(0,.ptr 2 0),(2,.map k),(4,.eptr (clO c) 0),(25,.lst c.guards.length 1 (gdL c.guards)),(26,.int .i64 (Int.ofNat c.guards.length)),(27,.int .i64 (Int.ofNat i)),
 (31,.lst (dm c.guards i).length 11 (exL (dm c.guards i))),(32,.int .i64 (Int.ofNat (dm c.guards i).length)),(33,.int .i64 (Int.ofNat j))]
def fr163(l:List Cl)(k i:Nat):AL:=[(0,.ptr 2 0),(2,.map k),(8,.lst l.length 4 (clL l)),(9,.int .i64 (Int.ofNat l.length)),(10,.int .i64 (Int.ofNat i))]
def fr129(l:List Ex)(k i:Nat):AL:=[(0,.ptr 2 0),(2,.map k),(8,.lst l.length 11 (exL l)),(9,.int .i64 (Int.ofNat l.length)),(10,.int .i64 (Int.ofNat i))]
end
section
variable {D:Df} {E:XF} {t:Nat} {p:Pl} {fl:List Fl} {k:Nat} {sc:Sc} {h:H}
theorem f129(X:EX D E t){l:List Ex}(hl:bF (exL l)<t)(_:t≤6000001)(c:CS D p fl h)(so:Sco h k sc)(hz:szS sc+bF (exL l)≤6000000)(hk:h.next+40*bF (exL l)<300000000):∃h',Con Tryz.prog TP noM 129 [.ptr 2 0,.lst l.length 11 (exL l),.map k] h (.tup []) h'∧Gf D p (lW E p l sc fl) h h' (40*bF (exL l)):=by
 have hn:=dt l
 have g0:=Gf.refl c
 refine cO Tryz.func129 (by decide) cf129_ok rfl rfl (cP c.le) ?_
 repeat' (first
  |(refine WLg.mk ?_;first
  |refine aa rfl rfl rfl rfl ?_)
  |refine ah ?_|refine ac rfl ?_|refine ai ?_|refine ae ?_|refine aj ?_|refine bE.norm ?_|fail)
 refine av (bR (l:=fr129 l k 0) KH) ?_
 refine aw l.length (fun i f h1=>f=fr129 l k i∧Gf D p (cj (fun i fl=>E p (bW l i) sc fl) fl i) h h1 (40*bF (exL (l.take i)))) ?_ (i:=0) (Nat.zero_le _) ⟨rfl,g0.up (Nat.zero_le _)⟩
 rintro i _ ha hi ⟨rfl,ga⟩
 have hi2:i<9223372036854775807:=by omega
 have hnx:=ga.nx
 cases q:ltI (Int.ofNat i) (Int.ofNat l.length)with
 |false=>
  have hie:i=l.length:=by have:=ci q;omega
  repeat' (first
   |(refine WLg.mk ?_;first
   |refine aa rfl rfl rfl rfl ?_)
   |refine ah ?_|refine ac rfl ?_|refine ai ?_|refine ae ?_
   |refine ak rfl (fun ht=>(Bool.false_ne_true ((show _=false by with_reducible assumption).symm.trans ht)).elim) (fun ht=>?_)
   |refine au ?_|refine bE.norm ?_|refine bE.exit ?_|refine OnC.exit ?_|fail)
  subst hie
  rw [List.take_length]at ga
  exact⟨.inl rfl,_,rfl,ga.km.le,rfl,ga⟩
 |true=>
  have hlt:=bK q
  have hpre:=fO hlt
  have hle:=d8 l (i+1)
  have hka:ha.next<900000000:=by omega
  have pp:∀v,v∈exO (bW l i)→bN v:=fun v hv=>(dc _ v hv).x
  obtain⟨hu,cu,gu⟩:=X (bW l i) (by omega) ga.cs (so.km0 ga.km) (by omega) (by omega)
  repeat' (first
   |(refine WLg.mk ?_;first
   |refine aa rfl rfl rfl rfl ?_|refine aa rfl rfl (bM Hy) rfl ?_
   |refine ab rfl rfl (show ROp.run (.load true 11) [.eptr (exO (bW l i)) 0] _=some (.agg (exO (bW l i)))from rfl) rfl ?_
   |refine ab rfl rfl (dv Hy) rfl ?_|refine aA rfl rfl (cT hka) rfl rfl rfl rfl rfl rfl rfl rfl pp rfl rfl ?_
   |refine am rfl rfl rfl (cu) (fun _ _ q=>q) .none rfl ?_)
   |refine ah ?_|refine ac rfl ?_|refine ai ?_|refine ae ?_|refine aj ?_|refine al ?_
   |refine ak rfl (fun ht=>?_) (fun ht=>(Bool.false_ne_true (ht.symm.trans (by with_reducible assumption))).elim)
   |refine bE.norm ?_|fail)
  exact .norm ⟨_,_,bR KH,hlt,rfl,(ga.trans gu).up (by omega)⟩
set_option maxHeartbeats 800000 in
theorem f70(X:EX D E t){l:List Sm}(hl:bF (smL l)<t)(ht6:t≤6000001)(c:CS D p fl h)(so:Sco h k sc)(hz:szS sc+bF (smL l)≤6000000)(hk:h.next+40*bF (smL l)+1<300000000):∃h',Con Tryz.prog TP noM 70 [.ptr 2 0,.lst l.length 23 (smL l),.map k] h (.tup []) h'∧Gf D p (ju E p l sc fl) h h' (40*bF (smL l)+1):=by
 have hn:=gM l
 obtain⟨hc,cc,csc,soc,kmc,nxc⟩:=f103 c so (by omega)
 have gc:Gf D p fl h hc 1:=⟨csc,kmc,by omega⟩
 refine cO Tryz.func70 (by decide) cf70_ok rfl rfl (cP c.le) ?_
 repeat' (first
  |(refine WLg.mk ?_;first
  |refine aa rfl rfl rfl rfl ?_|refine am rfl rfl rfl (cc) (fun _ _ q=>q) .none rfl ?_)
  |refine ah ?_|refine ac rfl ?_|refine ai ?_|refine ae ?_|refine aj ?_|refine bE.norm ?_|fail)
 refine av (bR (l:=fr70 l h.next 0) KH) ?_
 refine aw l.length (fun i f h1=>∃kk,f=fr70 l kk i∧Sco h1 kk (cj (fun i st=>gZ E p (cC l i) st) (sc,fl) i).1∧Gf D p (cj (fun i st=>gZ E p (cC l i) st) (sc,fl) i).2 h h1 (40*bF (smL (l.take i))+1)) ?_ (i:=0) (Nat.zero_le _) ⟨_,rfl,soc,gc.up (by omega)⟩
 clear cc csc soc kmc nxc gc
 rintro i _ ha hi ⟨kk,rfl,so,ga⟩
 have hi2:i<9223372036854775807:=by omega
 have hnx:=ga.nx
 cases q:ltI (Int.ofNat i) (Int.ofNat l.length)with
 |false=>
  have hie:i=l.length:=by have:=ci q;omega
  repeat' (first
   |(refine WLg.mk ?_;first
   |refine aa rfl rfl rfl rfl ?_)
   |refine ah ?_|refine ac rfl ?_|refine ai ?_|refine ae ?_
   |refine ak rfl (fun ht=>(Bool.false_ne_true ((show _=false by with_reducible assumption).symm.trans ht)).elim) (fun ht=>?_)
   |refine au ?_|refine bE.norm ?_|refine bE.exit ?_|refine OnC.exit ?_|fail)
  subst hie
  rw [List.take_length]at ga
  exact⟨.inl rfl,_,rfl,ga.km.le,rfl,ga⟩
 |true=>
  have hlt:=bK q
  have hpre:=sJ hlt
  have hle:=sI l (i+1)
  have hss:=lU (cC l i)
  have hka:ha.next<900000000:=by omega
  have pp:∀v,v∈smO (cC l i)→bN v:=fun v hv=>(kT _ v hv).x
  have hbz:=yH E p l sc fl i (by omega)
  have hpz:=sQ p B6 (cC l i).pat (cj (fun i st=>gZ E p (cC l i) st) (sc,fl) i)
  obtain⟨hu,cu,gu⟩:=X (cC l i).val (by omega) ga.cs so (by omega) (by omega)
  obtain⟨hc,cc,csc,soc,kmc,nxc⟩:=f103 ga.cs so (by omega)
  obtain⟨hp,cp,gp⟩:=sR B6 oY (cC l i).pat (rl (by omega)) csc soc (by omega)
  have nxp:=gp.nx
  obtain⟨hv,cv,gv⟩:=X (cC l i).val (by omega) gp.cs (so.km (kmc.fresh (Nat.le_refl _) gp.km.toKMx).toKMx (by have:=so.lo;omega)) (by omega) (by omega)
  have r1:=(ga.trans gu).up (m:=40*bF (smL (l.take (i+1)))+1) (by omega)
  have gk:Gf D p _ h hp (40*bF (smL (l.take i))+1+(1+8*bF (exO (cC l i).pat))):=ga.trans ((⟨csc,kmc,by omega⟩:Gf D p _ ha hc 1).w gp.w (Nat.le_refl _))
  have r2:=(gk.trans gv).up (m:=40*bF (smL (l.take (i+1)))+1) (by omega)
  have s2:=gp.so.km0 gv.km
  have s1:=so.km0 gu.km
  cases hm:(cC l i).isMatch
  ·have mt:gZ E p (cC l i) (cj (fun i st=>gZ E p (cC l i) st) (sc,fl) i)=((cj (fun i st=>gZ E p (cC l i) st) (sc,fl) i).1,E p (cC l i).val (cj (fun i st=>gZ E p (cC l i) st) (sc,fl) i).1 (cj (fun i st=>gZ E p (cC l i) st) (sc,fl) i).2):=by rw [gZ,hm];rfl
   have ldm:∀h,ROp.run (.load false 1) [.eptr (smO (cC l i)) 0] h=some (.bool false):=fun h=>(show ROp.run (.load false 1) [.eptr (smO (cC l i)) 0] h=some (.bool (cC l i).isMatch)from rfl).trans (by rw [hm])
   repeat' (first
    |(refine WLg.mk ?_;first
    |refine aa rfl rfl rfl rfl ?_|refine aa rfl rfl (bM Hy) rfl ?_|refine ab rfl rfl (ldm _) rfl ?_
    |refine ab rfl rfl (show ROp.run (.load true 11) [.eptr (smO (cC l i)) 12] _=some (.agg (exO (cC l i).val))from rfl) rfl ?_
    |refine ab rfl rfl (gU Hy) rfl ?_|refine aA rfl rfl (cT hka) rfl rfl rfl rfl rfl rfl rfl rfl pp rfl rfl ?_
    |refine am rfl rfl rfl (cu) (fun _ _ q=>q) .none rfl ?_)
    |refine ah ?_|refine ac rfl ?_|refine ai ?_|refine ae ?_|refine aj ?_|refine al ?_|refine aC rfl ?_
    |refine ak rfl (fun ht=>?_) (fun ht=>(Bool.false_ne_true (ht.symm.trans (by with_reducible assumption))).elim)
    |refine au ?_|refine bE.norm ?_|refine bE.exit ?_|fail)
   refine .norm ⟨_,_,bR KH,hlt,kk,rfl,?_,?_⟩
   ·show Sco hu kk (gZ E p (cC l i) _).1
    rw [mt]
    exact s1
   ·show Gf D p (gZ E p (cC l i) _).2 _ _ _
    rw [mt]
    exact r1
  ·have mt:gZ E p (cC l i) (cj (fun i st=>gZ E p (cC l i) st) (sc,fl) i)=((fh p B6 (cC l i).pat (cj (fun i st=>gZ E p (cC l i) st) (sc,fl) i)).1,E p (cC l i).val (cj (fun i st=>gZ E p (cC l i) st) (sc,fl) i).1 (fh p B6 (cC l i).pat (cj (fun i st=>gZ E p (cC l i) st) (sc,fl) i)).2):=by rw [gZ,hm];rfl
   have ldm:∀h,ROp.run (.load false 1) [.eptr (smO (cC l i)) 0] h=some (.bool true):=fun h=>(show ROp.run (.load false 1) [.eptr (smO (cC l i)) 0] h=some (.bool (cC l i).isMatch)from rfl).trans (by rw [hm])
   repeat' (first
    |(refine WLg.mk ?_;first
    |refine aa rfl rfl rfl rfl ?_|refine aa rfl rfl (bM Hy) rfl ?_|refine ab rfl rfl (ldm _) rfl ?_
    |refine ab rfl rfl (show ROp.run (.load true 11) [.eptr (smO (cC l i)) 1] _=some (.agg (exO (cC l i).pat))from rfl) rfl ?_
    |refine ab rfl rfl (show ROp.run (.load true 11) [.eptr (smO (cC l i)) 12] _=some (.agg (exO (cC l i).val))from rfl) rfl ?_
    |refine ab rfl rfl (gU Hy) rfl ?_|refine aA rfl rfl (cT hka) rfl rfl rfl rfl rfl rfl rfl rfl pp rfl rfl ?_
    |refine am rfl rfl rfl (cc) (fun _ _ q=>q) .none rfl ?_|refine am rfl rfl rfl (cp) (fun _ _ q=>q) .none rfl ?_
    |refine am rfl rfl rfl (cv) (fun _ _ q=>q) .none rfl ?_)
    |refine ah ?_|refine ac rfl ?_|refine ai ?_|refine ae ?_|refine aj ?_|refine al ?_|refine aB rfl ?_
    |refine ak rfl (fun ht=>?_) (fun ht=>(Bool.false_ne_true (ht.symm.trans (by with_reducible assumption))).elim)
    |refine bE.norm ?_|fail)
   refine .norm ⟨_,_,bR KH,hlt,ha.next,rfl,?_,?_⟩
   ·show Sco hv ha.next (gZ E p (cC l i) _).1
    rw [mt]
    exact s2
   ·show Gf D p (gZ E p (cC l i) _).2 _ _ _
    rw [mt]
    exact r2
set_option maxHeartbeats 1600000 in
theorem f52(X:EX D E t){x:Cl}(hl:bF (clO x)<t)(ht6:t≤6000001)(c:CS D p fl h)(so:Sco h k sc)(hz:szS sc+bF (clO x)≤6000000)(hk:h.next+40*bF (clO x)-100<300000000):∃h',Con Tryz.prog TP noM 52 [.ptr 2 0,.agg (clO x),.map k] h (.tup []) h'∧Gw D p (qB E p x sc fl) k h h' (40*bF (clO x)-100):=by
 have hcs:=ff x
 have hn:=dt x.pats
 have hn2:=ky x.guards
 have hgt:=tn x.guards
 refine cO Tryz.func52 (by decide) cf52_ok rfl rfl (cP c.le) ?_
 repeat' (first
  |(refine WLg.mk ?_;first
  |refine aa rfl rfl rfl rfl ?_|refine ab rfl rfl rfl rfl ?_
  |refine az rfl rfl RA rfl PB rfl ?_)
  |refine ah ?_|refine ac rfl ?_|refine ai ?_|refine ae ?_|refine aj ?_|refine bE.norm ?_|fail)
 refine av (bR (l:=fr52a x k 0) KH) ?_
 refine aw x.pats.length (fun i f h1=>f=fr52a x k i∧Gs D p (cj (fun i st=>fh p B6 (bW x.pats i) st) (sc,fl) i).2 k (cj (fun i st=>fh p B6 (bW x.pats i) st) (sc,fl) i).1 h h1 (8*bF (exL (x.pats.take i)))) ?_ (i:=0) (Nat.zero_le _) ⟨rfl,(Gs.refl c so).up (Nat.zero_le _)⟩
 rintro i _ ha hi ⟨rfl,ga⟩
 have hi2:i<9223372036854775807:=by omega
 have hnx:=ga.nx
 cases q:ltI (Int.ofNat i) (Int.ofNat x.pats.length)with
 |true=>
  have hlt:=bK q
  have hpre:=fO hlt
  have hle:=d8 x.pats (i+1)
  have hka:ha.next<900000000:=by omega
  have pp:∀v,v∈exO (bW x.pats i)→bN v:=fun v hv=>(dc _ v hv).x
  obtain⟨hu,cu,gu⟩:=sR B6 oY (bW x.pats i) (rl (by omega)) ga.cs ga.so (by omega)
  repeat' (first
   |(refine WLg.mk ?_;first
   |refine aa rfl rfl rfl rfl ?_|refine aa rfl rfl (bM Hy) rfl ?_
   |refine ab rfl rfl (show ROp.run (.load true 11) [.eptr (exO (bW x.pats i)) 0] _=some (.agg (exO (bW x.pats i)))from rfl) rfl ?_
   |refine ab rfl rfl (dv Hy) rfl ?_|refine aA rfl rfl (cT hka) rfl rfl rfl rfl rfl rfl rfl rfl pp rfl rfl ?_
   |refine am rfl rfl rfl (cu) (fun _ _ q=>q) .none rfl ?_)
   |refine ah ?_|refine ac rfl ?_|refine ai ?_|refine ae ?_|refine aj ?_|refine al ?_
   |refine ak rfl (fun ht=>?_) (fun ht=>(Bool.false_ne_true (ht.symm.trans (by with_reducible assumption))).elim)
   |refine bE.norm ?_|fail)
  exact .norm ⟨_,_,bR KH,hlt,rfl,(ga.trans gu).up (by omega)⟩
 |false=>
  have hie:i=x.pats.length:=by have:=ci q;omega
  repeat' (first
   |(refine WLg.mk ?_;first
   |refine aa rfl rfl rfl rfl ?_|refine ab rfl rfl rfl rfl ?_)
   |refine ah ?_|refine ac rfl ?_|refine ai ?_|refine ae ?_|refine aj ?_
   |refine ak rfl (fun ht=>(Bool.false_ne_true ((show _=false by with_reducible assumption).symm.trans ht)).elim) (fun ht=>?_)
   |refine au ?_|refine bE.norm ?_|refine bE.exit ?_|refine OnC.exit ?_|fail)
  subst hie
  rw [List.take_length]at ga hnx
  have hpz:=pD (g:=fun st:Sc×List Fl=>szS st.1) (l:=x.pats) (f:=fun i st=>fh p B6 (bW x.pats i) st) (s:=(sc,fl)) (fun i s _=>sQ p B6 _ s) x.pats.length (Nat.le_refl _)
  rw [List.take_length]at hpz
  generalize hst:cj (fun i st=>fh p B6 (bW x.pats i) st) (sc,fl) x.pats.length=st at ga hpz
  simp only at hpz
  have ins:qB E p x sc fl=ju E p x.body st.1 (cj (fun i fl=>cj (fun j fl=>fY p B6 (bW (dm x.guards i) j) st.1 fl) fl (dm x.guards i).length) st.2 x.guards.length):=by rw [qB,hst];rfl
  refine av (bR (l:=fr52b x k 0) KH) ?_
  refine aw x.guards.length (fun i f h1=>f=fr52b x k i∧Gs D p (cj (fun i fl=>cj (fun j fl=>fY p B6 (bW (dm x.guards i) j) st.1 fl) fl (dm x.guards i).length) st.2 i) k st.1 h h1 (8*bF (exL x.pats)+8*bF (gdL (x.guards.take i)))) ?_ (i:=0) (Nat.zero_le _) ⟨rfl,ga.up (Nat.le_add_right _ _)⟩
  clear hst ga hi hi2 q hnx ht
  clear ha
  rintro i _ ha hi ⟨rfl,ga⟩
  have hi2:i<9223372036854775807:=by omega
  have hnx:=ga.nx
  cases q:ltI (Int.ofNat i) (Int.ofNat x.guards.length)with
  |false=>
   have hie:i=x.guards.length:=by have:=ci q;omega
   subst hie
   rw [List.take_length]at ga hnx
   obtain⟨hb,cb,gb⟩:=f70 X (l:=x.body) (by omega) ht6 ga.cs ga.so (by omega) (by omega)
   have r:=((ga.f gb).up (m:=40*bF (clO x)-100) (by omega)).w.eq ins
   repeat' (first
    |(refine WLg.mk ?_;first
    |refine aa rfl rfl rfl rfl ?_|refine ab rfl rfl rfl rfl ?_|refine am rfl rfl rfl (cb) (fun _ _ q=>q) .none rfl ?_)
    |refine ah ?_|refine ac rfl ?_|refine ai ?_|refine ae ?_
    |refine ak rfl (fun ht=>(Bool.false_ne_true ((show _=false by with_reducible assumption).symm.trans ht)).elim) (fun ht=>?_)
    |refine au ?_|refine bE.norm ?_|refine bE.exit ?_|refine OnC.exit ?_|fail)
   exact⟨.inl rfl,_,rfl,r.km.le,rfl,r⟩
  |true=>
   have hlt:=bK q
   have hpre:=wA hlt
   have hle:=hgt (i+1)
   have hgn:=dt (dm x.guards i)
   repeat' (first
    |(refine WLg.mk ?_;first
    |refine aa rfl rfl rfl rfl ?_|refine aa rfl rfl (bM Hy) rfl ?_
    |refine ab rfl rfl (d5 (j:=0) (qF Hy) rfl _) rfl ?_)
    |refine ah ?_|refine ac rfl ?_|refine ai ?_|refine ae ?_|refine aj ?_|refine al ?_
    |refine ak rfl (fun ht=>?_) (fun ht=>(Bool.false_ne_true (ht.symm.trans (by with_reducible assumption))).elim)
    |refine bE.norm ?_|fail)
   refine av (bR (l:=fr52c x k i 0) KH) ?_
   refine aw (dm x.guards i).length (fun j f h1=>f=fr52c x k i j∧Gs D p (cj (fun j fl=>fY p B6 (bW (dm x.guards i) j) st.1 fl) (cj (fun i fl=>cj (fun j fl=>fY p B6 (bW (dm x.guards i) j) st.1 fl) fl (dm x.guards i).length) st.2 i) j) k st.1 h h1 (8*bF (exL x.pats)+8*bF (gdL (x.guards.take i))+8*bF (exL ((dm x.guards i).take j)))) ?_ (i:=0) (Nat.zero_le _) ⟨rfl,ga.up (Nat.le_add_right _ _)⟩
   clear ga hnx
   clear ha
   rintro j _ ha hj ⟨rfl,ga⟩
   have hj2:j<9223372036854775807:=by omega
   have hnx:=ga.nx
   cases qj:ltI (Int.ofNat j) (Int.ofNat (dm x.guards i).length)with
   |false=>
    have hje:j=(dm x.guards i).length:=by have:=ci qj;omega
    subst hje
    rw [List.take_length]at ga
    have r:=ga.up (m:=8*bF (exL x.pats)+8*bF (gdL (x.guards.take (i+1)))) (by omega)
    repeat' (first
     |(refine WLg.mk ?_;first
     |refine aa rfl rfl rfl rfl ?_)
     |refine ah ?_|refine ac rfl ?_|refine ai ?_|refine ae ?_
     |refine ak rfl (fun ht=>(Bool.false_ne_true ((show _=false by with_reducible assumption).symm.trans ht)).elim) (fun ht=>?_)
     |refine au ?_|refine bE.norm ?_|refine bE.exit ?_|refine OnC.exit ?_|fail)
    exact .norm ⟨_,_,bR KH,hlt,rfl,r⟩
   |true=>
    have hltj:=bK qj
    have hprj:=fO hltj
    have hlej:=d8 (dm x.guards i) (j+1)
    have hka:ha.next<900000000:=by omega
    have pp:∀v,v∈exO (bW (dm x.guards i) j)→bN v:=fun v hv=>(dc _ v hv).x
    obtain⟨hu,cu,gu⟩:=r8 B6 oY (bW (dm x.guards i) j) (rl (by omega)) ga.cs ga.so (by omega)
    have r:=(ga.f gu).up (m:=8*bF (exL x.pats)+8*bF (gdL (x.guards.take i))+8*bF (exL ((dm x.guards i).take (j+1)))) (by omega)
    repeat' (first
     |(refine WLg.mk ?_;first
     |refine aa rfl rfl rfl rfl ?_|refine aa rfl rfl (bM Hy) rfl ?_
     |refine ab rfl rfl (show ROp.run (.load true 11) [.eptr (exO (bW (dm x.guards i) j)) 0] _=some (.agg (exO (bW (dm x.guards i) j)))from rfl) rfl ?_
     |refine ab rfl rfl (dv Hy) rfl ?_|refine aA rfl rfl (cT hka) rfl rfl rfl rfl rfl rfl rfl rfl pp rfl rfl ?_
     |refine am rfl rfl rfl (cu) (fun _ _ q=>q) .none rfl ?_)
     |refine ah ?_|refine ac rfl ?_|refine ai ?_|refine ae ?_|refine aj ?_|refine al ?_
     |refine ak rfl (fun ht=>?_) (fun ht=>(Bool.false_ne_true (ht.symm.trans (by with_reducible assumption))).elim)
     |refine bE.norm ?_|fail)
    exact .norm ⟨_,_,bR KH,hltj,rfl,r⟩
theorem f163(X:EX D E t){l:List Cl}(hl:bF (clL l)<t)(ht6:t≤6000001)(c:CS D p fl h)(so:Sco h k sc)(hz:szS sc+bF (clL l)≤6000000)(hk:h.next+40*bF (clL l)<300000000):∃h',Con Tryz.prog TP noM 163 [.ptr 2 0,.lst l.length 4 (clL l),.map k] h (.tup []) h'∧Gf D p (qV E p l sc fl) h h' (40*bF (clL l)):=by
 have hn:=eS l
 have g0:=Gf.refl c
 refine cO Tryz.func163 (by decide) cf163_ok rfl rfl (cP c.le) ?_
 repeat' (first
  |(refine WLg.mk ?_;first
  |refine aa rfl rfl rfl rfl ?_)
  |refine ah ?_|refine ac rfl ?_|refine ai ?_|refine ae ?_|refine aj ?_|refine bE.norm ?_|fail)
 refine av (bR (l:=fr163 l k 0) KH) ?_
 refine aw l.length (fun i f h1=>f=fr163 l k i∧Gf D p (cj (fun i fl=>qB E p (bL l i) sc fl) fl i) h h1 (40*bF (clL (l.take i)))) ?_ (i:=0) (Nat.zero_le _) ⟨rfl,g0.up (Nat.zero_le _)⟩
 rintro i _ ha hi ⟨rfl,ga⟩
 have hi2:i<9223372036854775807:=by omega
 have hnx:=ga.nx
 cases q:ltI (Int.ofNat i) (Int.ofNat l.length)with
 |false=>
  have hie:i=l.length:=by have:=ci q;omega
  repeat' (first
   |(refine WLg.mk ?_;first
   |refine aa rfl rfl rfl rfl ?_)
   |refine ah ?_|refine ac rfl ?_|refine ai ?_|refine ae ?_
   |refine ak rfl (fun ht=>(Bool.false_ne_true ((show _=false by with_reducible assumption).symm.trans ht)).elim) (fun ht=>?_)
   |refine au ?_|refine bE.norm ?_|refine bE.exit ?_|refine OnC.exit ?_|fail)
  subst hie
  rw [List.take_length]at ga
  exact⟨.inl rfl,_,rfl,ga.km.le,rfl,ga⟩
 |true=>
  have hlt:=bK q
  have hpre:=mB hlt
  have hle:=kB l (i+1)
  have hcs:=ff (bL l i)
  have hka:ha.next<900000000:=by omega
  have pp:∀v,v∈clO (bL l i)→bN v:=fun v hv=>(iE _ v hv).x
  obtain⟨hc,cc,csc,soc,kmc,nxc⟩:=f103 ga.cs (so.km0 ga.km) (by omega)
  obtain⟨hu,cu,gu⟩:=f52 X (x:=bL l i) (by omega) ht6 csc soc (by omega) (by omega)
  have r:=(ga.trans ((⟨csc,kmc,by omega⟩:Gf D p _ ha hc 1).w gu (Nat.le_refl _))).up (m:=40*bF (clL (l.take (i+1)))) (by omega)
  repeat' (first
   |(refine WLg.mk ?_;first
   |refine aa rfl rfl rfl rfl ?_|refine aa rfl rfl (bM Hy) rfl ?_|refine ab rfl rfl (gK Hy) rfl ?_
   |refine aA rfl rfl (cT hka) rfl rfl rfl rfl rfl rfl rfl rfl pp rfl rfl ?_)
   |(show WX _ _ _ _ _ _ _ _ _ _;first
   |refine aG rfl rfl rfl rfl ?_
   |refine aF rfl rfl (show ROp.run (.load true 4) [.eptr (clO (bL l i)) 0] _=some (.agg (clO (bL l i)))from rfl) rfl ?_
   |refine aR rfl rfl rfl (cc) .none rfl ?_|refine aR rfl rfl rfl (cu) .none rfl ?_
   |refine aI (by repeat' (first|exact bD.nil|refine bD.any (fun h=>rfl) ?_|refine bD.first rfl ?_|refine bD.first (show ROp.run (.load true 4) [.eptr (clO (bL l i)) 0] _=some (.agg (clO (bL l i)))from rfl) ?_|refine bD.snd (show ROp.run (.load true 4) [.eptr (clO (bL l i)) 0] _=some (.agg (clO (bL l i)))from rfl) ?_|refine bD.any (fun h=>show ROp.run (.load true 4) [.eptr (clO (bL l i)) 0] _=some (.agg (clO (bL l i)))from rfl) ?_|refine bD.first (gK Hy) ?_|refine bD.snd (gK Hy) ?_|refine bD.any (fun h=>gK Hy) ?_|refine bD.first (eP Hy rfl) ?_|refine bD.snd (eP Hy rfl) ?_|refine bD.any (fun h=>eP Hy rfl) ?_|refine bD.each (.cons rfl .nil) ?_|refine bD.each (.cons rfl (.cons rfl .nil)) ?_|refine bD.each (.cons rfl (.cons rfl (.cons rfl .nil))) ?_)) ?_)
   |refine ah ?_|refine ac rfl ?_|refine ai ?_|refine ae ?_|refine aj ?_|refine al ?_
   |refine ak rfl (fun ht=>?_) (fun ht=>(Bool.false_ne_true (ht.symm.trans (by with_reducible assumption))).elim)
   |refine aJ ?_|refine bE.norm ?_|fail)
  exact .norm ⟨_,_,bR KH,hlt,rfl,r⟩
end
end
end Ev
end Go.Proofs.YtdfphfdnoobikaaGreatDoor
