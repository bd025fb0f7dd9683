/-
  The checker:functions.
-/
import Derived.Test.YtdfphfdnoobikaaGreatDoorLtSem
import Derived.Test.YtdfphfdnoobikaaGreatDoorLtFind8
namespace Go.Proofs.YtdfphfdnoobikaaGreatDoor
namespace Ev
section
theorem qK{D:Df}:∀t,t<=6000001->EX D (tH D t) t
 |0,_=>λx hx=>by omega
 |t+1,ht=>Af (by omega) (qK t (by omega)) (ET (by omega) (qK t (by omega)))
theorem Kr{D:Df}:EX D (tH D B6) B6:=qK B6 kY
noncomputable section
def nmB(a b:ByteArray):Bool:=cJ a.size (ck a.data.toList) b.size (ck b.data.toList)
def plF(f:Fu)(i:Nat):Pl:=⟨f.name,f.arity,Int.ofNat (i+1)⟩
def yz(D:Df)(f:Fu)(i:Nat)(fl:List Fl):List Fl:=
 tk (tH D B6) (plF f i) (bV f.clauses i) [] (if nmB (bV f.clauses i).name f.name&&eqI (Int.ofNat (bV f.clauses i).pats.length) f.arity then fl else fl++[flw (plF f i) 4 (bV f.clauses i).name (Int.ofNat (bV f.clauses i).pats.length)])
def uw(f:Fu)(again:Bool)(fl:List Fl):List Fl:=
 if eqI (ri 51 [sV f.name,.int .i64 f.arity]) 0 then(if again then fl++[flw (plF f 0) 3 f.name f.arity]else fl)else(if again then fl++[flw (plF f 0) 3 f.name f.arity]else fl)++[flw (plF f 0) 5 f.name f.arity]
def fnF(D:Df)(f:Fu)(again:Bool)(fl:List Fl):List Fl:=cB (λi fl=>yz D f i fl) (uw f again fl) f.clauses.length
def fr31(f:Fu)(i:Nat):AL:=[(0,.ptr 2 0),(4,.eptr (fuO f) 0),(36,.lst f.clauses.length 4 (clL f.clauses)),(37,.int .i64 (Int.ofNat f.clauses.length)),(38,.int .i64 (Int.ofNat i))]
def fr31s(f:Fu):AL:=[(0,.ptr 2 0),(4,.eptr (fuO f) 0)]
def fr31c(f:Fu)(i l7:Nat):AL:=[(0,.ptr 2 0),(4,.eptr (fuO f) 0),(7,.ptr l7 0),(36,.lst f.clauses.length 4 (clL f.clauses)),(37,.int .i64 (Int.ofNat f.clauses.length)),(38,.int .i64 (Int.ofNat i))]
def z4:List V:=[.str 0 0,.nils,.nils,.nils]
end
structure Gm(D:Df)(fl:List Fl)(h0 h:H)(n:Nat):Prop where
 cs:∃p,CS D p fl h
 km:KM 0 h0 h
 nx:h.next<=h0.next+n
set_option maxHeartbeats 6400000 in
theorem f31{D:Df}{p:Pl}{fl:List Fl}{h:H}(c:CS D p fl h){f:Fu}{a:Nat}(g:f.arity=Int.ofNat a)(a1:a<1000000000)(hf:bS (fuO f)<=6000000)(b:Bool)(hk:h.next+40*bS (fuO f)<300000000):∃h',CN 31 [.ptr 2 0,.agg (fuO f),.bool b] h (.tup []) h'/\Gm D (fnF D f b fl) h h' (40*bS (fuO f)):=by
 have b0:=jJ f;have b1:=fR f.clauses;have bx:∀v,v∈fuO f->bY v:=λv hv=>(oM f) v hv;obtain⟨h0,w0,K,k0,n0⟩:=c.place (by omega) f.name f.arity;have K:CS D (plF f 0) fl h0:=K;obtain⟨h1,c1,r,u,q3,_⟩:=f50 K (by omega) 3 f.arity f.name;have Y:CP 51 [sV f.name,.int .i64 f.arity] (.int .i64 (ri 51 [sV f.name,.int .i64 f.arity])):=by
  rw [g];obtain⟨k,q⟩:=f51 f.name.size (ck f.name.data.toList) a (by omega) a1;exact Fq ⟨_,q,k,rfl⟩
 refine dh Tryz.func31 (by decide) q31.2 rfl rfl (dl c.le) ?_
 repeat' (first
  |(refine WLg.mk ?_;first
  |refine ac ?_|refine au ?_|refine aV rfl rfl rfl rfl bx rfl ?_|refine aw c1 ?_|refine aK rfl rfl w0 rfl ?_)|apply ab|refine aj rfl ?_|(show WC _ _ _ _ _ (cF.seq (cF.seq _ (cF.cond (Opd.l 16) _ _)) _) _ _ _;refine bD (λB h2=>B=fr31s f/\Gf D (plF f 0) (if b then fl++[flw (plF f 0) 3 f.name f.arity]else fl) h0 h2 2) ?_ ?_)|apply ae|apply aa|apply ak|refine ah rfl (λd=>?_) (λd=>?_)|apply thN|fail)
 ·exact .norm ⟨_,_,cA KH,rfl,(⟨r,u,by omega⟩:Gf D (plF f 0) _ h0 h1 2).eq (by(try simp only [Bool.not_eq_true',Bool.not_eq_false']at*)<;>first|(simp [*];done)|(simp_all [Bool.not_true];done))⟩
 ·exact .norm ⟨_,_,cA KH,rfl,((Gf.refl K).up (m:=2) (by omega)).eq (by(try simp only [Bool.not_eq_true',Bool.not_eq_false']at*)<;>first|(simp [*];done)|(simp_all [Bool.not_true];done))⟩
 clear c1 r u q3 w0;rintro _ hs ⟨rfl,gs⟩;have O:=gs.nx;obtain⟨h2,c2,r,u,q3,_⟩:=f50 gs.cs (by omega) 5 f.arity f.name
 repeat' (first
  |(refine WLg.mk ?_;first
  |refine ac ?_|refine au ?_|refine ay Y ?_|refine aw c2 ?_)|apply ab|refine aj rfl ?_|(show WC _ _ _ _ _ (cF.seq (cF.seq _ (cF.cond (Opd.l 28) _ _)) _) _ _ _;refine bD (λB h2=>B=fr31s f/\Gf D (plF f 0) (uw f b fl) h0 h2 4) ?_ ?_)|apply ae|apply aa|apply ak|refine ah rfl (λd=>?_) (λd=>?_)|apply thN|fail)
 ·exact .norm ⟨_,_,cA KH,rfl,((gs.trans (⟨r,u,by omega⟩:Gf D (plF f 0) _ hs h2 2)).up (by omega)).eq (by(try simp only [Bool.not_eq_true']at*)<;>first|(simp [uw, *];done)|(simp_all [uw];done))⟩
 ·exact .norm ⟨_,_,cA KH,rfl,(gs.up (m:=4) (by omega)).eq (by(try simp only [Bool.not_eq_false']at*)<;>first|(simp [uw, *];done)|(simp_all [uw];done))⟩
 clear c2 r u q3 gs O;rintro _ hs ⟨rfl,gs⟩;have O:=gs.nx
 repeat' (first
  |(refine WLg.mk ?_;first
  |refine ac ?_|refine au ?_)|apply ab|refine aj rfl ?_|apply ae|apply aa|apply ai|apply thN|fail)
 refine az (cA (l:=fr31 f 0) KH) ?_;refine aA f.clauses.length (λi l h1=>l=fr31 f i/\(∃c,CS D ⟨f.name,f.arity,c⟩ (cB (λi fl=>yz D f i fl) (uw f b fl) i) h1)/\KM 0 h h1/\h1.next<=h.next+4+40*bS (clL (f.clauses.take i))) ?_ (i:=0) (Nat.zero_le _) ⟨rfl,⟨_,gs.cs⟩,k0.trans gs.km,by omega⟩;clear gs O;clear hs;rintro i _ g hi ⟨rfl,⟨cc,w⟩,n,P⟩;have hi2:i<9223372036854775807:=by omega
 cases q:ltI (Int.ofNat i) (Int.ofNat f.clauses.length)with
 |false=>
  have U:i=f.clauses.length:=by have:=cC q;omega
  repeat' (first
   |(refine WLg.mk ?_;first
   |refine ac ?_)|apply ab|refine aj rfl ?_|apply ae|apply aa|refine ah rfl (λd=>Nt d) (λd=>?_)|apply ax|apply thN|apply thE|apply onE|fail)
  subst U;rw [List.take_length]at P;exact⟨.inl rfl,_,rfl,n.le,rfl,⟨_,w⟩,n,by omega⟩
 |true=>
  have C:=bX q;have a5:=oO C;have a9:=mL f.clauses (i+1);have a8:=gM (bV f.clauses i);have I:g.next<900000000:=by omega
  obtain⟨hv,tr,wv,F,Q,b3,bv,S,_⟩:=w.slot I z4 (clO (bV f.clauses i)) rfl (by decide) rfl;obtain⟨A,ww,j,T,a7,ow⟩:=F.clause (by omega) (Int.ofNat (i+1));have j:CS D (plF f i) _ A:=j;have B:=w.le;have M:A.blk g.next=some (.cells 4 tr none false):=by rw [ow _ (by omega)];exact bv
  have r0:ROp.run (.load false 1) [.ptr g.next 0] A=some (sV (bV f.clauses i).name):=dI M (S 0 _ rfl) (by decide);have r1:ROp.run (.load false 1) [.ptr g.next 1] A=some (.lst (bV f.clauses i).pats.length 11 (exL (bV f.clauses i).pats)):=dI M (S 1 _ rfl) (by decide);have J:POp.run (.bin .add) [.int .i64 (Int.ofNat i),.int .i64 1]=some (.int .i64 (Int.ofNat (i+1))):=by
   show some (V.int .i64 (dA .i64 (Int.add (Int.ofNat i) (Int.ofNat 1))))=_;rw [j8 hi2]
  obtain⟨hx,cx,r,u,q3,qb⟩:=f50 j (by omega) 4 (Int.ofNat (bV f.clauses i).pats.length) (bV f.clauses i).name;have L:Gf D (plF f i) _ A hx 2:=⟨r,u,by omega⟩
  have g0:=(Gf.refl j).up (m:=2) (by omega);have y:=qb _ tr (by omega) M;obtain⟨e,o⟩:∃e,e=cB (λi fl=>yz D f i fl) (uw f b fl) i:=⟨_,rfl⟩
  rw [<-o]at L g0
  repeat' (first
   |(refine WLg.mk ?_;first
   |refine av rfl rfl J rfl ?_|refine ac ?_|refine av rfl rfl (ce Hy) rfl ?_|refine ap rfl rfl r0 rfl ?_|refine ap rfl rfl r1 rfl ?_|refine au ?_|refine ap rfl rfl (eV Hy) rfl ?_|refine aI (t:=g.t) (k:=g.next) rfl rfl rfl (dE I) rfl ?_|refine aw cx ?_|refine aK rfl rfl wv rfl ?_|refine aK rfl rfl ww rfl ?_)|apply ab|refine aj rfl ?_|refine aB rfl rfl ?_|refine aC rfl (λd=>?_) (λd=>?_)|(show WC _ _ _ _ _ (cF.seq (cF.seq _ (cF.cond (Opd.l 61) _ _)) _) _ _ _;refine bD (λB h2=>B=fr31c f i g.next/\h2.blk g.next=some (.cells 4 tr none false)/\Gf D (plF f i) (if nmB (bV f.clauses i).name f.name&&eqI (Int.ofNat (bV f.clauses i).pats.length) f.arity then e else e++[flw (plF f i) 4 (bV f.clauses i).name (Int.ofNat (bV f.clauses i).pats.length)]) A h2 2) ?_ ?_)|apply ae|apply aa|apply ai|apply ak|refine aF rfl ?_|refine ah rfl (λd=>?_) (λd=>Nf d)|refine ah rfl (λd=>?_) (λd=>?_)|apply thN|fail)
  ·exact .norm ⟨_,_,cA KH,rfl,y,L.eq (by(try simp only [Bool.not_eq_true']at*)<;>first|(simp [nmB, *];done)|(simp_all [nmB];done))⟩
  ·exact .norm ⟨_,_,cA KH,rfl,y,L.eq (by(try simp only [Bool.not_eq_true',Bool.not_eq_false']at*)<;>first|(simp [nmB, *];done)|(simp_all [nmB];done))⟩
  ·exact .norm ⟨_,_,cA KH,rfl,M,g0.eq (by(try simp only [Bool.not_eq_false']at*)<;>first|(simp [nmB, *];done)|(simp_all [nmB];done))⟩
  clear cx r u q3 qb L g0 y r0 r1 ww wv J bv F;rintro _ z ⟨rfl,a3,E⟩;obtain⟨G,s⟩:∃G,G=(if nmB (bV f.clauses i).name f.name&&eqI (Int.ofNat (bV f.clauses i).pats.length) f.arity then e else e++[flw (plF f i) 4 (bV f.clauses i).name (Int.ofNat (bV f.clauses i).pats.length)]):=⟨_,rfl⟩
  rw [<-s]at E;have ny:=E.nx;have Z:ROp.run (.load true 4) [.ptr g.next 0] z=some (.agg (clO (bV f.clauses i))):=ED a3 rfl S;obtain⟨a0,a4,W⟩:=E.cs.newmap (by omega) [] true List.nodup_nil;have b2:(⟨z.t.put z.next (some (.map (scE []) true)),Nat.succ z.next⟩:H).next=z.next+1:=rfl
  obtain⟨R,cu,gu⟩:=f52 Kr (x:=bV f.clauses i) (mr (by omega)) kY a0 a4 (by simp only [szS,List.map_nil,List.sum_nil];omega) (by omega);have nu:=gu.nx;have a6:=E.km.le;have kh:KM 0 h R:=(((((n.trans Q).trans T).trans E.km).trans W).fresh (by have:=n.le;omega) gu.km.toKMx)
  have a2:CS D (plF f i) (cB (λi fl=>yz D f i fl) (uw f b fl) (i+1)) R:=by
   show CS D (plF f i) (yz D f i (cB (λi fl=>yz D f i fl) (uw f b fl) i)) R;rw [yz,<-o,<-s];exact gu.cs
  have J:POp.run (.bin .add) [.int .i64 (Int.ofNat i),.int .i64 1]=some (.int .i64 (Int.ofNat (i+1))):=by
   show some (V.int .i64 (dA .i64 (Int.add (Int.ofNat i) (Int.ofNat 1))))=_;rw [j8 hi2]
  repeat' (first
   |(refine WLg.mk ?_;first
   |refine av rfl rfl J rfl ?_|refine ac ?_|refine ap rfl rfl Z rfl ?_|refine aI (t:=z.t) (k:=z.next) rfl rfl rfl (dE (by omega)) rfl ?_|refine aw cu ?_)|apply ab|refine aj rfl ?_|apply aa|apply thN|fail)
  exact .norm ⟨_,_,cA KH,C,rfl,⟨_,a2⟩,kh,by omega⟩
end
section
abbrev Ky:=ByteArray×Int
abbrev Cn:=List (Ky×Int)
def dN:Cn->Ky->Int
 |[],_=>0
 |p ::l,k=>if k=p.1 then p.2 else dN l k
def kZ:Cn->Ky->Int->Cn
 |[],k,v=>[(k,v)]
 |p ::l,k,v=>if k=p.1 then(k,v) ::l else p ::kZ l k v
def uq:Cn->Ky->Option Nat
 |[],_=>none
 |p ::l,k=>if k=p.1 then some 0 else(uq l k).map (·+1)
noncomputable section
def kV(k:Ky):V:= .agg [sV k.1,.int .i64 k.2]
def cnE(l:Cn):List (V×V):=l.map λp=>(kV p.1,.int .i64 p.2)
abbrev Kc:Kk:= .agg [.s,.i]
end
theorem ly{a b:Int}:eqI a b=decide (a=b):=by rw [jc];rfl
theorem zP(h:H)(a b:Ky):g7 h Kc (kV a) (kV b)=some (decide (a=b)):=by
 show ob (some (cJ a.1.size (ck a.1.data.toList) b.1.size (ck b.1.data.toList))) (λc=>Bool.rec (motive:=λ_=>Option Bool) (some false) (ob (some (eqI a.2 b.2)) λc=>Bool.rec (motive:=λ_=>Option Bool) (some false) (some true) c) c)=_;rw [xI,ly];obtain⟨f,d⟩:=a;obtain⟨b1,b2⟩:=b
 by_cases q1:f=b1
 ·by_cases q2:d=b2
  ·subst q1 q2
   simp [ob]
  ·have e:decide (d=b2)=false:=decide_eq_false q2
   rw [show decide ((f,d).1=(b1,b2).1)=true from decide_eq_true q1,show decide ((f,d).2=(b1,b2).2)=false from e,decide_eq_false (λk=>q2 (Prod.mk.inj k).2)];rfl
 ·rw [show decide ((f,d).1=(b1,b2).1)=false from decide_eq_false q1,decide_eq_false (λk=>q1 (Prod.mk.inj k).1)]
  rfl
theorem BK(h:H)(k:Ky):∀l:Cn,∃r,gz h Kc (kV k) (cnE l)=some r/\i6 false (.int .i64 0) r= .int .i64 (dN l k)
 |[]=>⟨none,rfl,rfl⟩
 |p ::l=>by
  obtain⟨r,q1,q2⟩:=BK h k l;have e:∀x,gz h Kc (kV k) (cnE (p ::l))=x↔(ob (g7 h Kc (kV k) (kV p.1)) λb=>Bool.rec (motive:=λ_=>Option (Option V)) (gz h Kc (kV k) (cnE l)) (some (some (.int .i64 p.2))) b)=x:=λx=>Iff.rfl
  by_cases q:k=p.1
  ·refine⟨some (.int .i64 p.2),(e _).2 ?_,?_⟩
   ·rw [zP,decide_eq_true q]
    rfl
   ·show V.int .i64 p.2= .int .i64 (if k=p.1 then p.2 else dN l k)
    rw [if_pos q]
  ·refine⟨r,(e _).2 ?_,?_⟩
   ·rw [zP,decide_eq_false q]
    exact q1
   ·show _=V.int .i64 (if k=p.1 then p.2 else dN l k)
    rw [if_neg q];exact q2
theorem zw(h:H)(k:Ky):∀l:Cn,xR h Kc (kV k) (cnE l)=some (uq l k)
 |[]=>rfl
 |p ::l=>by
  show(ob (g7 h Kc (kV k) (kV p.1)) λb=>Bool.rec (motive:=λ_=>Option (Option Nat)) (ob (xR h Kc (kV k) (cnE l)) λr=>some (r.map (·+1))) (some (some 0)) b)=_;rw [zP,zw h k l,uq]
  by_cases q:k=p.1
  ·rw [decide_eq_true q,if_pos q]
   rfl
  ·rw [decide_eq_false q,if_neg q]
   rfl
theorem mF{h:H}{id:Nat}{l:Cn}{o:Bool}(b:h.blk id=some (.map (cnE l) o))(k:Ky):ROp.run (.lookup Kc false (.int .i64 0)) [.map id,kV k] h=some (.int .i64 (dN l k)):=by
 obtain⟨r,c,a⟩:=BK h k l;show oif true (ob (ob (h.blk id) _) _)=_;rw [b];show ob (gz h Kc (kV k) (cnE l)) _=_;rw [c];show some (i6 false (.int .i64 0) r)=_;rw [a]
theorem uV:∀{l:Cn} {k:Ky},uq l k=none->dN l k=0/\∀v,kZ l k v=l++[(k,v)]
 |[],k,_=>⟨rfl,λ_=>rfl⟩
 |p ::l,k,h=>by
  rw [uq]at h
  split at h
  ·cases h
  ·rename_i q
   obtain⟨h1,h2⟩:=uV (l:=l) (k:=k) (by cases e:uq l k<;>rw [e]at h<;>first|rfl|cases h);exact⟨by rw [dN,if_neg q];exact h1,λv=>by rw [kZ,if_neg q,h2];rfl⟩
theorem uU:∀{l:Cn} {k:Ky} {j:Nat},uq l k=some j->l[j]? =some (k,dN l k)/\∀v,kZ l k v=l.set j (k,v)
 |[],k,j,h=>by cases h
 |p ::l,k,j,h=>by
  rw [uq]at h
  split at h
  ·rename_i q
   cases h;obtain⟨a,b⟩:=p;have q:k=a:=q;subst q;exact⟨by rw [dN,if_pos rfl];rfl,λv=>by rw [kZ,if_pos rfl];rfl⟩
  ·rename_i q
   cases e:uq l k with
   |none=>rw [e]at h;cases h
   |some i=>
    rw [e]at h;cases h;obtain⟨h1,h2⟩:=uU (l:=l) (k:=k) (j:=i) e;exact⟨by rw [dN,if_neg q];simpa using h1,λv=>by rw [kZ,if_neg q,h2];rfl⟩
theorem tf:∀{l:Cn} {k:Ky} {v:Int} {x:Ky},dN (kZ l k v) x=if x=k then v else dN l x
 |[],k,v,x=>rfl
 |p ::l,k,v,x=>by
  rw [kZ]
  split
  ·rename_i q
   show(if x=k then v else dN l x)=_
   by_cases e:x=k
   ·rw [if_pos e,if_pos e]
   ·rw [if_neg e,if_neg e,dN,if_neg (by rw [<-q];exact e)]
  ·rename_i q
   show(if x=p.1 then p.2 else dN (kZ l k v) x)=_;rw [tf,dN]
   by_cases e:x=p.1
   ·rw [if_pos e,if_neg (by rw [e];exact λe2=>q e2.symm),if_pos e]
   ·rw [if_neg e,if_neg e]
theorem wI{h:H}{id:Nat}{l:Cn}(b:h.blk id=some (.map (cnE l) true))(f:id<bZ)(k:Ky)(v:Int):∃h1 h2 v0 j,EOp.run (.mapent Kc (.int .i64 0)) [.map id,kV k] h=some (.tup [v0,.int .i64 j],h1)/\ROp.run (.lookup Kc false (.int .i64 0)) [.map id,kV k] h1=some (.int .i64 (dN l k))/\EOp.run .entst [.map id,.int .i64 j,.int .i64 v] h1=some (cT,h2)/\
  h2.blk id=some (.map (cnE (kZ l k v)) true)/\(∀i,i≠id->h2.blk i=h.blk i)/\h2.next=h.next:=by
 have ho:h.ord id=true:=by unfold H.ord;rw [b]
 have main:∀(a:Cn) (j:Nat) (v0:V),a[j]? =some (k,dN l k)->a.set j (k,v)=kZ l k v->a=kZ l k (dN l k)->EOp.run (.mapent Kc (.int .i64 0)) [.map id,kV k] h=some (.tup [v0,.int .i64 (Int.ofNat j)],⟨h.t.put id (some (.map (cnE a) true)),h.next⟩)->
   ∃h1 h2 v0 j,EOp.run (.mapent Kc (.int .i64 0)) [.map id,kV k] h=some (.tup [v0,.int .i64 j],h1)/\ROp.run (.lookup Kc false (.int .i64 0)) [.map id,kV k] h1=some (.int .i64 (dN l k))/\EOp.run .entst [.map id,.int .i64 j,.int .i64 v] h1=some (cT,h2)/\
  h2.blk id=some (.map (cnE (kZ l k v)) true)/\(∀i,i≠id->h2.blk i=h.blk i)/\h2.next=h.next:=λa j v0 o p q3 n=>by
  obtain⟨h1,g⟩:∃h1:H,h1=⟨h.t.put id (some (.map (cnE a) true)),h.next⟩:=⟨_,rfl⟩
  rw [<-g]at n;have b1:∀i,h1.blk i=if i=id then some (.map (cnE a) true)else h.blk i:=λi=>by rw [g];exact gO f
  have c1:h1.blk id=some (.map (cnE a) true):=by rw [b1,if_pos rfl]
  have o1:h1.ord id=true:=by unfold H.ord;rw [c1]
  have m:=(List.getElem?_eq_some_iff.1 o).1;have b2:∀i,(⟨h1.t.put id (some (.map (cnE (kZ l k v)) true)),h1.next⟩:H).blk i=if i=id then some (.map (cnE (kZ l k v)) true)else h1.blk i:=λi=>gO f
  refine⟨h1,⟨h1.t.put id (some (.map (cnE (kZ l k v)) true)),h1.next⟩,v0,Int.ofNat j,n,?_,?_,by rw [b2,if_pos rfl],λi hi=>by rw [b2,if_neg hi,b1,if_neg hi],by rw [g]⟩
  ·have:=mF c1 k
   rw [q3,tf,if_pos rfl]at this;exact this
  ·show oif (h1.ord id) (ob (ob (h1.blk id) _) _)=_
   rw [o1,c1];show ob (oif (Nat.blt j (cD (cnE a))) (some j)) (λj=>ob (ff (cnE a) j) λe=>some (cT,(⟨h1.t.put id (some (.map ((cnE a).set j (e.1,V.int .i64 v)) true)),h1.next⟩:H)))=_;rw [@cq noE,ltb (show j<(cnE a).length by rw [cnE,List.length_map];exact m)];show ob (ff (cnE a) j) (λe=>some (cT,(⟨h1.t.put id (some (.map ((cnE a).set j (e.1,V.int .i64 v)) true)),h1.next⟩:H)))=_;rw [@dS noE,show(cnE a)[j]? =some (kV k,V.int .i64 (dN l k)) by rw [cnE,List.getElem?_map,o];rfl];show some (cT,(⟨h1.t.put id (some (.map ((cnE a).set j (kV k,V.int .i64 v)) true)),h1.next⟩:H))=_;rw [show(cnE a).set j (kV k,V.int .i64 v)=cnE (kZ l k v) by rw [<-p,cnE,cnE,List.map_set]]
 cases e:uq l k with
 |none=>
  obtain⟨c,d⟩:=uV e;refine main (l++[(k,0)]) l.length (.int .i64 0) (by rw [c];simp) (by rw [d];simp) (by rw [c,d]) ?_;show oif (true&&h.ord id) (ob (ob (h.blk id) _) _)=_;rw [ho,b];show ob (xR h Kc (kV k) (cnE l)) _=_;rw [zw,e];show some (V.tup [.int .i64 0,.int .i64 (Int.ofNat (cD (cnE l)))],(⟨h.t.put id (some (.map (cnE l++[(kV k,.int .i64 0)]) true)),h.next⟩:H))=_;rw [@cq noE,cnE,List.length_map,cnE,List.map_append];rfl
 |some j=>
  obtain⟨c,d⟩:=uU e;have m:=(List.getElem?_eq_some_iff.1 c).1;refine main (l.set j (k,dN l k)) j (.int .i64 (dN l k)) (by rw [List.getElem?_set_self m]) (by rw [d,List.set_set]) (by rw [d]) ?_;show oif (true&&h.ord id) (ob (ob (h.blk id) _) _)=_;rw [ho,b];show ob (xR h Kc (kV k) (cnE l)) _=_;rw [zw,e];show ob (ff (cnE l) j) (λe=>some (V.tup [e.2,.int .i64 (Int.ofNat j)],(⟨h.t.put id (some (.map ((cnE l).set j (kV k,e.2)) true)),h.next⟩:H)))=_;rw [@dS noE,show(cnE l)[j]? =some (kV k,V.int .i64 (dN l k)) by rw [cnE,List.getElem?_map,c];rfl];show some (V.tup [.int .i64 (dN l k),.int .i64 (Int.ofNat j)],(⟨h.t.put id (some (.map ((cnE l).set j (kV k,V.int .i64 (dN l k))) true)),h.next⟩:H))=_;rw [show(cnE l).set j (kV k,V.int .i64 (dN l k))=cnE (l.set j (k,dN l k)) by rw [cnE,cnE,List.map_set]]
def pU(l:List Ky)(k:Ky):Nat:=(l.filter λq=>decide (q=k)).length
theorem Dk(l:List Ky)(a k:Ky):pU (l++[a]) k=if k=a then pU l k+1 else pU l k:=by
 unfold pU;rw [List.filter_append,List.length_append]
 by_cases e:k=a
 ·subst e
  simp
 ·rw [if_neg e]
  simp [Ne.symm e]
theorem Hd(l:List Ky)(k:Ky):pU l k<=l.length:=List.length_filter_le _ _
def Cnt(l:Cn)(ks:List Ky):Prop:=∀k,dN l k=Int.ofNat (pU ks k)
theorem Cnt.nil:Cnt [] []:=λ_=>rfl
theorem Cnt.snoc{l:Cn}{ks:List Ky}(c:Cnt l ks)(hl:ks.length<1000000000)(k:Ky):Cnt (kZ l k (dA .i64 (Int.add (dN l k) (Int.ofNat 1)))) (ks++[k]):=λx=>by
 have:=Hd ks k;rw [tf,Dk]
 by_cases e:x=k
 ·subst e
  rw [if_pos rfl,if_pos rfl,c x,j8 (by omega)]
 ·rw [if_neg e,if_neg e,c x]
end
section
noncomputable section
def kS(s:Sn):Ky:=(s.name,s.arity)
def mR(l:List Sn)(i:Nat):Bool:=decide (0<pU ((l.take i).map kS) (kS (dU l i)))
def rm(D:Df)(p:Pl)(s:Sn)(seen:Bool)(fl:List Fl):List Fl:=
 if D s.name s.arity then(if seen then fl++[flw p 1 s.name s.arity]else fl)else(if seen then fl++[flw p 1 s.name s.arity]else fl)++[flw p 2 s.name s.arity]
def yh(D:Df)(p:Pl)(l:List Sn)(fl:List Fl):List Fl:=cB (λi fl=>rm D p (dU l i) (mR l i) fl) fl l.length
def fr30(l:List Sn)(km i:Nat):AL:=[(0,.ptr 2 0),(4,.map km),(8,.lst l.length 2 (snL l)),(9,.int .i64 (Int.ofNat l.length)),(10,.int .i64 (Int.ofNat i))]
def fr30b(l:List Sn)(km i:Nat):AL:=[(0,.ptr 2 0),(4,.map km),(6,.eptr (snO (dU l i)) 0),(8,.lst l.length 2 (snL l)),(9,.int .i64 (Int.ofNat l.length)),(10,.int .i64 (Int.ofNat i))]
end
theorem yb(n:Nat):ltI 0 (Int.ofNat n)=decide (0<n):=by
 show Nat.blt 0 n=_;rw [Bool.eq_iff_iff];simp [Nat.blt];omega
theorem CS.beside{D:Df}{p:Pl}{fl:List Fl}{h h':H}(c:CS D p fl h){k:Nat}{es:List (V×V)}{o:Bool}(b:h.blk k=some (.map es o))(hk:2<k)(hn:h'.next=h.next)(e:∀j,j≠k->h'.blk j=h.blk j):CS D p fl h'/\KMx k h h':=
 ⟨c.mono (Nat.le_of_eq hn.symm) λj _ q=>e j λq2=>by
  subst q2;rcases q with q|q
  ·omega
  ·exact q _ _ b,⟨Nat.le_of_eq hn.symm,λj es o _ hj q=>by rw [e j hj];exact q⟩⟩
set_option maxHeartbeats 6400000 in
theorem f30{D:Df}{p:Pl}{fl:List Fl}{h:H}(c:CS D p fl h)(l:List Sn)(hl:l.length<=6000000)(hk:h.next+1+4*l.length<300000000):∃h',CN 30 [.ptr 2 0,.lst l.length 2 (snL l)] h (.tup []) h'/\Gf D p (yh D p l fl) h h' (1+4*l.length):=by
 have c2:=c.le;have a0:900000002<bZ:=by unfold bZ;omega
 obtain⟨y,K,km0⟩:=c.newmap (by omega) [] true List.nodup_nil;have b0:(⟨h.t.put h.next (some (.map (scE []) true)),Nat.succ h.next⟩:H).blk h.next=some (.map (cnE []) true):=by rw [gO (by omega),if_pos rfl];rfl
 refine dh Tryz.func30 (by decide) cf30_ok rfl rfl (dl c.le) ?_
 repeat' (first
  |(refine WLg.mk ?_;first
  |refine ac ?_|refine aI (t:=h.t) (k:=h.next) rfl rfl rfl (dE (by omega)) rfl ?_)|apply ab|refine aj rfl ?_|apply ae|apply aa|apply ai|apply thN|fail)
 refine az (cA (l:=fr30 l h.next 0) KH) ?_;refine aA l.length (λi f h1=>f=fr30 l h.next i/\CS D p (cB (λi fl=>rm D p (dU l i) (mR l i) fl) fl i) h1/\(∃g,h1.blk h.next=some (.map (cnE g) true)/\Cnt g ((l.take i).map kS))/\KM 0 h h1/\h.next<h1.next/\h1.next<=h.next+1+4*i) ?_ (i:=0) (Nat.zero_le _) ⟨rfl,y,⟨[],b0,Cnt.nil⟩,km0,Nat.lt_succ_self _,Nat.le_refl _⟩;clear y K km0 b0;rintro i _ u hi ⟨rfl,r,⟨g,Y,W⟩,s,F,a2⟩;have hi2:i<9223372036854775807:=by omega
 cases q:ltI (Int.ofNat i) (Int.ofNat l.length)with
 |false=>
  have G:i=l.length:=by have:=cC q;omega
  repeat' (first
   |(refine WLg.mk ?_;first
   |refine ac ?_)|apply ab|refine aj rfl ?_|apply ae|apply aa|refine ah rfl (λn=>Nt n) (λn=>?_)|apply ax|apply thN|apply thE|apply onE|fail)
  subst G;exact⟨.inl rfl,_,rfl,s.le,rfl,r,s,by omega⟩
 |true=>
  have o:=bX q;have J:u.next<900000000:=by omega
  have Z:=zg (dU l i);have lk:=mF Y (kS (dU l i));have w:ltI 0 (dN g (kS (dU l i)))=mR l i:=by rw [W,yb];rfl
  obtain⟨h1,c1,R,T,q3,_⟩:=f50 r (by omega) 1 (dU l i).arity (dU l i).name;obtain⟨a,b⟩:∃a,a=cB (λi fl=>rm D p (dU l i) (mR l i) fl) fl i:=⟨_,rfl⟩
  have O:Gf D p (a++[flw p 1 (dU l i).name (dU l i).arity]) u h1 2:=⟨by rw [b];exact R,T,by omega⟩
  have g0:Gf D p a u u 2:=(Gf.refl (by rw [b];exact r)).up (by omega)
  repeat' (first
   |(refine WLg.mk ?_;first
   |refine ac ?_|refine av rfl rfl (ce Hy) rfl ?_|refine ap rfl rfl (HX Hy) rfl ?_|refine ap rfl rfl (lk) rfl ?_|refine au ?_|refine aJ rfl rfl (dE J) rfl rfl rfl rfl rfl rfl rfl rfl Z rfl rfl ?_|refine aw c1 ?_)|apply ab|refine aj rfl ?_|(show WC _ _ _ _ _ (cF.seq (cF.seq _ (cF.cond (Opd.l 17) _ _)) _) _ _ _;refine bD (λl2 h2=>l2=fr30b l h.next i/\Gf D p (if mR l i then a++[flw p 1 (dU l i).name (dU l i).arity]else a) u h2 2) ?_ ?_)|apply ae|apply aa|apply ai|apply ak|refine ah rfl (λn=>?_) (λn=>Nf n)|refine ah rfl (λn=>?_) (λn=>?_)|apply thN|fail)
  ·exact .norm ⟨_,_,cA KH,rfl,O.eq (by rw [if_pos (w.symm.trans Hy)])⟩
  ·exact .norm ⟨_,_,cA KH,rfl,g0.eq (by rw [if_neg (by rw [w.symm.trans (by assumption:ltI 0 (dN g (kS (dU l i)))=false)];decide)])⟩
  clear c1 R T q3 O g0;rintro _ hb ⟨rfl,x⟩;have nb:=x.nx;have I:=x.km.mp h.next _ _ F (by omega) Y
  obtain⟨h2,E,v0,j,e1,C,e3,b3,o3,n3⟩:=wI I (by omega) (kS (dU l i)) (dA .i64 (Int.add (dN g (kS (dU l i))) (Int.ofNat 1)));have d:=mF I (kS (dU l i));obtain⟨m,M⟩:=x.cs.beside I c2 n3 o3;have a1:=x.km.le
  repeat' (first
   |apply ae|fail)
  refine bJ ?_
  repeat' (show WY _ _ _ _ _ _ _ _;first
   |refine bI (by repeat' (first|exact bR.nil|refine bR.first (d) ?_|refine bR.snd (d) ?_|refine bR.first (C) ?_|refine bR.snd (C) ?_|refine bR.two (d) (C) ?_|refine bR.two (C) (d) ?_|refine bR.any (λh=>rfl) ?_|refine bR.first rfl ?_)) ?_|refine bG rfl rfl rfl rfl ?_|refine aW rfl rfl (d) rfl ?_|refine aW rfl rfl rfl rfl ?_|refine bB rfl rfl (e1) rfl ?_|refine bB rfl rfl (e3) rfl ?_|fail)
  obtain⟨de,od,bd,dd⟩:=m.b1;obtain⟨U,e,Q⟩:=dd E 1 od bd (dU l i).name (dU l i).arity;obtain⟨tr,v,f2,t0,t1,t2,t3,t4,gl⟩:=m.b2;have z:ROp.run (.load false 1) [.ptr 2 3] E=some (.map 1):=dI f2 t3 (by decide);obtain⟨P,c4,p1,S,p3,_⟩:=f50 m (by omega) 2 (dU l i).arity (dU l i).name;have L:P.blk h.next=some (.map (cnE (kZ g (kS (dU l i)) (dA .i64 (Int.add (dN g (kS (dU l i))) (Int.ofNat 1))))) true):=S.mp h.next _ _ (by omega) (by omega) b3
  have A:Cnt (kZ g (kS (dU l i)) (dA .i64 (Int.add (dN g (kS (dU l i))) (Int.ofNat 1)))) ((l.take (i+1)).map kS):=by
   rw [xx o,List.map_append];exact W.snoc (by rw [List.length_map,List.length_take];omega) _
  have B:KM 0 h E:=(s.trans x.km).fresh (Nat.le_refl _) M;have V:rm D p (dU l i) (mR l i) a=if D (dU l i).name (dU l i).arity then(if mR l i then a++[flw p 1 (dU l i).name (dU l i).arity]else a)else(if mR l i then a++[flw p 1 (dU l i).name (dU l i).arity]else a)++[flw p 2 (dU l i).name (dU l i).arity]:=rfl
  repeat' (first
   |apply ae|apply thN|fail)
  refine bJ ?_
  repeat' (show WY _ _ _ _ _ _ _ _;first
   |refine bI (by repeat' (first|exact bR.nil|refine bR.first (z) ?_|refine bR.snd (z) ?_|refine bR.first (e) ?_|refine bR.snd (e) ?_|refine bR.two (z) (e) ?_|refine bR.two (e) (z) ?_|refine bR.any (λh=>rfl) ?_|refine bR.first rfl ?_)) ?_|refine bG rfl rfl rfl rfl ?_|refine aW rfl rfl (z) rfl ?_|refine aW rfl rfl (e) rfl ?_|refine aW rfl rfl rfl rfl ?_|fail)
  repeat' (first
   |(refine WLg.mk ?_;first
   |refine ac ?_|refine au ?_|refine aw c4 ?_)|apply ab|refine aj rfl ?_|apply aa|apply ak|refine ah rfl (λn=>?_) (λn=>?_)|apply thN|fail)
  ·have hd:D (dU l i).name (dU l i).arity=false:=by
    have:=(by assumption:eqI U 0=true)
    rw [Q]at this
    simpa using this
   refine .norm ⟨_,_,cA KH,o,rfl,?_,⟨_,L,A⟩,B.trans S,by omega,by omega⟩;show CS D p (rm D p (dU l i) (mR l i) (cB (λi fl=>rm D p (dU l i) (mR l i) fl) fl i)) P;rw [<-b,V,if_neg (by rw [hd];decide)];exact p1
  ·have hd:D (dU l i).name (dU l i).arity=true:=by
    have:=(by assumption:eqI U 0=false)
    rw [Q]at this
    simpa using this
   refine .norm ⟨_,_,cA KH,o,rfl,?_,⟨_,b3,A⟩,B,by omega,by omega⟩;show CS D p (rm D p (dU l i) (mR l i) (cB (λi fl=>rm D p (dU l i) (mR l i) fl) fl i)) E;rw [<-b,V,if_pos hd];exact m
end
section
noncomputable section
def kF(f:Fu):Ky:=(f.name,f.arity)
def p0:Pl:=⟨eB,0,0⟩
def dfM(m:Md):Df:=λn a=>decide (0<pU (m.funcs.map kF) (n,a))
def lK(m:Md)(i:Nat):Bool:=decide (0<pU ((m.funcs.take i).map kF) (kF (cX m.funcs i)))
def B0(m:Md):List Fl:=cB (λi fl=>fnF (dfM m) (cX m.funcs i) (lK m i) fl) (yh (dfM m) p0 m.exports []) m.funcs.length
def kU(m:Md):List Fl:=if okM m then B0 m else []
def dfC(cn:Cn):Df:=λn a=>!eqI (dN cn (n,a)) 0
def fr12a(m:Md)(i:Nat):AL:=[(1,.eptr (mdO m) 0),(3,.ptr 2 0),(17,.lst m.funcs.length 3 (fuL m.funcs)),(18,.int .i64 (Int.ofNat m.funcs.length)),(19,.int .i64 (Int.ofNat i))]
def fr12b(m:Md)(km i:Nat):AL:=[(3,.ptr 2 0),(6,.map km),(43,.lst m.funcs.length 3 (fuL m.funcs)),(44,.int .i64 (Int.ofNat m.funcs.length)),(45,.int .i64 (Int.ofNat i))]
def c5:List V:=[.str 0 0,.int .i64 0,.int .i64 0,.map 1,.nils]
def hC:H:=⟨(H0.t.put 1 (some (.map [] true))).put 2 (some (.cells 5 (cM c5 0 .e) none false)),Nat.succ 2⟩
end
theorem Fg(cn:Cn):Js (dfC cn) (cnE cn):=λh id o b n i=>⟨dN cn (n,i),mF b (n,i),by rw [dfC,Bool.not_not]⟩
theorem Jh{b:Cn}{m:Md}(c:Cnt b (m.funcs.map kF)):dfC b=dfM m:=by
 funext n a
 rw [dfC,dfM,c,ly]
 by_cases q:0<pU (m.funcs.map kF) (n,a)
 ·rw [decide_eq_true q,decide_eq_false (λe=>by
   have e:(pU (m.funcs.map kF) (n,a):Int)=0:=e;omega)]
  rfl
 ·rw [decide_eq_false q,decide_eq_true (show Int.ofNat (pU (m.funcs.map kF) (n,a))=0 by rw [Nat.eq_zero_of_not_pos q];rfl)]
  rfl
theorem CS.redef{D g:Df}{p:Pl}{fl:List Fl}{h h':H}(c:CS D p fl h){f:List (V×V)}{o:Bool}(b:h'.blk 1=some (.map f o))(d:Js g f)(a:h'.next=h.next)(e:∀j,j≠1->h'.blk j=h.blk j):CS g p fl h':=by
 obtain⟨l,t,s,u⟩:=c.b1;obtain⟨tr,v,k,t0,i,t2,m,t4,gl⟩:=c.b2;refine⟨by rw [e 0 (by decide)];exact c.b0,⟨f,o,b,d⟩,⟨tr,v,by rw [e 2 (by decide)];exact k,t0,i,t2,m,t4,gl.mono (Nat.le_of_eq a.symm) λb n q lt=>e b λr=>?_⟩,by rw [a];exact c.ln,by rw [a];exact c.le⟩;subst r;subst q;cases gl with
 |full hb=>rw [s]at hb;cases hb
theorem CA{m:Md}(h:okM m=true):∀i,i<m.funcs.length->okF (cX m.funcs i)=true:=λi hi=>by
 cases q:okF (cX m.funcs i)with
 |true=>rfl
 |false=>rw [vW hi q]at h;cases h
theorem IQ{f:Fu}(h:okF f=true):f.arity=Int.ofNat (pI f.clauses).pats.length:=by
 unfold okF at h;simp only [Bool.and_eq_true]at h;have:=h.2.2.1;rw [ly]at this;exact of_decide_eq_true this
theorem EM(l:List Cl):(pI l).pats.length<=bS (clL l):=by
 cases l with
 |nil=>exact Nat.zero_le _
 |cons c l=>
  have h1:=oO (show 0<(c ::l).length by simp);have h2:=mL (c ::l) (0+1);have a:=gM (bV (c ::l) 0);have b:=dT (bV (c ::l) 0).pats;show(bV (c ::l) 0).pats.length<=_;omega
theorem Fk:CS (dfC []) p0 [] hC:=⟨rfl,⟨_,true,rfl,Fg []⟩,⟨_,.nils,rfl,rfl,rfl,rfl,rfl,rfl,.none0⟩,Nat.zero_le _,by decide⟩
set_option maxHeartbeats 3200000 in
theorem f12w{K:Nat->Prop}{m:Md}(hm:bS (mdO m)<=6000000):WC Tryz.prog TP K ft 1 cf12.code [(0,.agg (mdO m))] H0 λx loc h=>(x= .norm\/x= .ret)/\∃v cs,lk loc 2=some v/\h.blk 0=some (.ro 256 d3)/\GL 6 h v cs/\(∀c,c∈cs->bY c)/\(cs=flL (kU m)/\(kU m).length<=135000000)/\1<=h.next:=by
 have b1:=pG m;have a6:=pL m.funcs;have a5:=vH m.exports;have px:=gY m;obtain⟨r,S,I⟩:=f29 m hm
 repeat' (first
  |(refine WLg.mk ?_;first
  |refine ac ?_|refine au ?_|refine aV rfl rfl rfl rfl px rfl ?_|refine aI (t:=H0.t) (k:=1) (vs:=[]) (b:= .map [] true) (mk:=λi=>.map i) rfl rfl rfl rfl rfl ?_|refine aI (t:=H0.t.put 1 (some (.map [] true))) (k:=2) (vs:=[.agg c5]) (b:= .cells 5 (cM c5 0 .e) none false) (mk:=λi=>.ptr i 0) rfl rfl rfl rfl rfl ?_|refine ay S ?_)|apply ab|refine aj rfl ?_|apply ae|apply aa|apply ai|apply ak|refine ah rfl (λo=>?_) (λo=>?_)|apply am|apply thN|apply thR|fail)
 ·have:okM m=false:=by rw [<-I];simpa using(by assumption:(!eqI r 0)=true)
  exact⟨.inr rfl,.nils,[],rfl,rfl,.none0,(λc hc=>by cases hc),⟨by rw [kU,this];rfl,by rw [kU,this];exact Nat.zero_le _⟩,by decide⟩
 have z:okM m=true:=by rw [<-I];simpa using(by assumption:(!eqI r 0)=false)
 have F:=CA z;refine az (cA (l:=fr12a m 0) KH) ?_
 change WC _ _ _ _ _ _ _ hC _
 refine aA m.funcs.length (λi f h1=>f=fr12a m i/\∃g,CS (dfC g) p0 [] h1/\h1.blk 1=some (.map (cnE g) true)/\Cnt g ((m.funcs.take i).map kF)/\h1.next=3) ?_ (i:=0) (Nat.zero_le _) ⟨rfl,[],Fk,rfl,Cnt.nil,rfl⟩;rintro i _ J hi ⟨rfl,g,a,D,C,nx⟩;have hi2:i<9223372036854775807:=by omega
 cases q:ltI (Int.ofNat i) (Int.ofNat m.funcs.length)with
 |true=>
  have d:=bX q;have N:=oM (cX m.funcs i);have lk:=mF D (kF (cX m.funcs i));obtain⟨tr,v,U,t0,t1,t2,t3,t4,gl⟩:=a.b2;have A:ROp.run (.load false 1) [.ptr 2 3] J=some (.map 1):=dI U t3 (by decide);obtain⟨h2,h3,v0,j,Q,s,T,b3,o3,Z⟩:=wI D (by unfold bZ;omega) (kF (cX m.funcs i)) (dA .i64 (Int.add (dN g (kF (cX m.funcs i))) (Int.ofNat 1)));have w:=a.redef b3 (Fg _) Z o3;have B:Cnt (kZ g (kF (cX m.funcs i)) (dA .i64 (Int.add (dN g (kF (cX m.funcs i))) (Int.ofNat 1)))) ((m.funcs.take (i+1)).map kF):=by
   rw [kH d,List.map_append];exact C.snoc (by rw [List.length_map,List.length_take];omega) _
  repeat' (first
   |(refine WLg.mk ?_;first
   |refine ac ?_|refine av rfl rfl (ce Hy) rfl ?_|refine ap rfl rfl (i7 Hy) rfl ?_|refine aJ rfl rfl (dE (by omega)) rfl rfl rfl rfl rfl rfl rfl rfl N rfl rfl ?_)|apply ab|refine aj rfl ?_|apply ae|apply aa|apply ai|apply ak|refine ah rfl (λo=>?_) (λo=>Nf o)|apply thN|fail)
  refine bJ ?_
  repeat' (show WY _ _ _ _ _ _ _ _;first
   |refine bI (by repeat' (first|exact bR.nil|refine bR.first (A) ?_|refine bR.snd (A) ?_|refine bR.first (lk) ?_|refine bR.snd (lk) ?_|refine bR.first (s) ?_|refine bR.snd (s) ?_|refine bR.two (A) (lk) ?_|refine bR.two (A) (s) ?_|refine bR.two (lk) (A) ?_|refine bR.two (lk) (s) ?_|refine bR.two (s) (A) ?_|refine bR.two (s) (lk) ?_|refine bR.any (λh=>rfl) ?_|refine bR.first rfl ?_)) ?_|refine bG rfl rfl rfl rfl ?_|refine aW rfl rfl (A) rfl ?_|refine aW rfl rfl (lk) rfl ?_|refine aW rfl rfl rfl rfl ?_|refine bB rfl rfl (Q) rfl ?_|refine bB rfl rfl (T) rfl ?_|fail)
  repeat' (first
   |(refine WLg.mk ?_;first
   |refine ac ?_)|apply ab|refine aj rfl ?_|apply aa|apply thN|fail)
  exact .norm ⟨_,_,cA KH,d,rfl,_,w,b3,B,by omega⟩
 |false=>
  have y:i=m.funcs.length:=by have:=cC q;omega
  subst y;rw [List.take_length]at C;rw [Jh C]at a;obtain⟨n,c30,L⟩:=f30 a m.exports (by omega) (by omega);have nb:=L.nx;obtain⟨G,a2,W⟩:=L.cs.newmap (by omega) [] true List.nodup_nil;have b0:(⟨n.t.put n.next (some (.map (scE []) true)),Nat.succ n.next⟩:H).blk n.next=some (.map (cnE []) true):=by rw [gO (by unfold bZ;omega),if_pos rfl];rfl
  have Y:=L.km.le
  repeat' (first
   |(refine WLg.mk ?_;first
   |refine ac ?_|refine au ?_|refine aI (t:=n.t) (k:=n.next) rfl rfl rfl (dE (by omega)) rfl ?_|refine aw c30 ?_)|apply ab|refine aj rfl ?_|apply ae|apply aa|apply ai|refine ah rfl (λo=>Nt o) (λo=>?_)|apply ax|apply thN|apply thE|apply onE|fail)
  refine az (cA (l:=fr12b m n.next 0) KH) ?_;refine aA m.funcs.length (λi f h1=>f=fr12b m n.next i/\(∃p,CS (dfM m) p (cB (λi fl=>fnF (dfM m) (cX m.funcs i) (lK m i) fl) (yh (dfM m) p0 m.exports []) i) h1)/\(∃g,h1.blk n.next=some (.map (cnE g) true)/\Cnt g ((m.funcs.take i).map kF))/\n.next<h1.next/\h1.next<=n.next+1+40*bS (fuL (m.funcs.take i))) ?_ (i:=0) (Nat.zero_le _) ⟨rfl,⟨_,G⟩,⟨[],b0,Cnt.nil⟩,Nat.lt_succ_self _,Nat.le_add_right _ _⟩;have P:2<n.next:=by omega
  have b6:n.next<=4+4*m.exports.length:=by omega
  clear G a2 W b0 L c30 a D C nx hi hi2 q nb Y;rintro i _ J hi ⟨rfl,⟨p,a⟩,⟨g,D,C⟩,O,b8⟩;have hi2:i<9223372036854775807:=by omega
  have a9:=tC m.funcs i;cases q:ltI (Int.ofNat i) (Int.ofNat m.funcs.length)with
  |false=>
   have y:i=m.funcs.length:=by have:=cC q;omega
   obtain⟨tr,v,U,t0,t1,t2,t3,t4,gl⟩:=a.b2;have l4:ROp.run (.load false 1) [.ptr 2 4] J=some v:=dI U t4 (by decide)
   repeat' (first
    |(refine WLg.mk ?_;first
    |refine ac ?_|refine ap rfl rfl (l4) rfl ?_)|apply ab|refine aj rfl ?_|apply ae|apply aa|refine ah rfl (λo=>Nt o) (λo=>?_)|apply ax|apply am|apply thN|apply thE|apply onE|fail)
   subst y;have a7:2*(B0 m).length<=J.next:=a.ln
   exact⟨.inr rfl,v,_,rfl,a.b0,gl,kJ _,⟨by rw [kU,z];rfl,by rw [kU,z];show(B0 m).length<=_;omega⟩,by omega⟩
  |true=>
   have d:=bX q;have a4:=EV d;have a3:=tC m.funcs (i+1);have N:=oM (cX m.funcs i);have pk:∀c,c∈[sV (cX m.funcs i).name,V.int .i64 (cX m.funcs i).arity]->bY c:=cg (.flat rfl) (cg (.flat rfl) px0);have a1:=IQ (F i d);have b4:=EM (cX m.funcs i).clauses;have b5:=jJ (cX m.funcs i);have lk:=mF D (kF (cX m.funcs i));have ag:ltI 0 (dN g (kF (cX m.funcs i)))=lK m i:=by rw [C,yb];rfl
   obtain⟨hu,E,M⟩:=f31 a a1 (by omega) (by omega) (lK m i) (by omega);obtain⟨p',a0⟩:=M.cs;have nu:=M.nx;have a8:=M.km.le;have R:=M.km.mp n.next _ _ O (by omega) D
   have u:=mF R (kF (cX m.funcs i));obtain⟨h2,h3,v0,j,Q,s,T,b3,o3,Z⟩:=wI R (by unfold bZ;omega) (kF (cX m.funcs i)) (dA .i64 (Int.add (dN g (kF (cX m.funcs i))) (Int.ofNat 1)));obtain⟨w,b7⟩:=a0.beside R P Z o3;have B:Cnt (kZ g (kF (cX m.funcs i)) (dA .i64 (Int.add (dN g (kF (cX m.funcs i))) (Int.ofNat 1)))) ((m.funcs.take (i+1)).map kF):=by
    rw [kH d,List.map_append];exact C.snoc (by rw [List.length_map,List.length_take];omega) _
   rw [<-ag]at E
   repeat' (first
    |(refine WLg.mk ?_;first
    |refine ac ?_|refine av rfl rfl (ce Hy) rfl ?_|refine ap rfl rfl (i7 Hy) rfl ?_|refine au ?_|refine aJ rfl rfl (dE (by omega)) rfl rfl rfl rfl rfl rfl rfl rfl N rfl rfl ?_|refine aJ rfl rfl (dE (by omega)) rfl rfl rfl rfl rfl rfl rfl rfl pk rfl rfl ?_)|apply ab|refine aj rfl ?_|apply ae|apply aa|apply ai|apply ak|refine ah rfl (λo=>?_) (λo=>Nf o)|apply thN|fail)
   refine aP ?_
   repeat' (first
    |(show WX _ _ _ _ _ _ _ _ _ _;first
    |refine aH ?_|refine aQ rfl rfl (lk) rfl ?_|refine aM ?_|refine bh rfl rfl rfl (E) .none rfl ?_|refine aO (by repeat' (first|exact bR.nil|refine bR.any (λh=>rfl) ?_|refine bR.first rfl ?_|refine bR.first (lk) ?_|refine bR.snd (lk) ?_|refine bR.any (λh=>lk) ?_|refine bR.each (.cons rfl .nil) ?_|refine bR.each (.cons rfl (.cons rfl .nil)) ?_|refine bR.each (.cons rfl (.cons rfl (.cons rfl .nil))) ?_)) ?_)|apply thN|fail)
   refine bJ ?_
   repeat' (show WY _ _ _ _ _ _ _ _;first
    |refine bI (by repeat' (first|exact bR.nil|refine bR.first (u) ?_|refine bR.snd (u) ?_|refine bR.first (s) ?_|refine bR.snd (s) ?_|refine bR.two (u) (s) ?_|refine bR.two (s) (u) ?_|refine bR.any (λh=>rfl) ?_|refine bR.first rfl ?_)) ?_|refine bG rfl rfl rfl rfl ?_|refine aW rfl rfl (u) rfl ?_|refine aW rfl rfl rfl rfl ?_|refine bB rfl rfl (Q) rfl ?_|refine bB rfl rfl (T) rfl ?_|fail)
   repeat' (first
    |(refine WLg.mk ?_;first
    |refine ac ?_)|apply ab|refine aj rfl ?_|apply aa|apply thN|fail)
   refine .norm ⟨_,_,cA KH,d,rfl,⟨p',?_⟩,⟨_,b3,B⟩,by omega,by omega⟩;show CS (dfM m) p' (fnF (dfM m) (cX m.funcs i) (lK m i) (cB (λi fl=>fnF (dfM m) (cX m.funcs i) (lK m i) fl) (yh (dfM m) p0 m.exports []) i)) h3;exact w
theorem f12c{m:Md}(f:bS (mdO m)<=6000000):CP 12 [.agg (mdO m)] (.lst (kU m).length 6 (flL (kU m)))/\(kU m).length<=135000000:=by
 obtain⟨n,cs,⟨rfl,a⟩,b,q3⟩:∃n cs,(cs=flL (kU m)/\(kU m).length<=135000000)/\cs.length=n*6/\CP 12 [.agg (mdO m)] (.lst n 6 cs):=by
  refine BT (t:=2) (Q:=λcs=>cs=flL (kU m)/\(kU m).length<=135000000) Tryz.func12 (by decide) cf12_ok rfl (cg (.agg (gY m)) px0) rfl rfl ((f12w f).mono λx l h q=>?_);obtain⟨d,v,cs,g,b,q3,e,c,_⟩:=q;exact⟨d,v,cs,g,b,q3,e,c⟩
 rw [fh]at b;refine⟨?_,a⟩;rw [show(kU m).length=n by omega];exact q3
end
section
noncomputable section
def qF(f:Fl):Fl:=if eqI f.code 7 then{f with name:=qn f.name}else f
def qS(s:Sc):Sc:=s.map λp=>(qn p.1,p.2)
end
theorem JS{p:Pl}{code:Int}{b:ByteArray}{n:Int}(h:eqI code 7=false):qF (flw p code b n)=flw p code b n:=by
 unfold qF;rw [if_neg (by show ¬eqI code 7=true;rw [h];decide)]
theorem wa:∀(s:Sc) (b:ByteArray),i5 (qS s) (qn b)=i5 s b
 |[],_=>rfl
 |p ::s,b=>by
  show(if qn b=qn p.1 then p.2 else i5 (qS s) (qn b))=if b=p.1 then p.2 else i5 s b
  rw [wa s b];simp only [zt]
theorem HP:∀(s:Sc) (b:ByteArray) (v:Int),lZ (qS s) (qn b) v=qS (lZ s b v)
 |[],_,_=>rfl
 |p ::s,b,v=>by
  show(if qn b=qn p.1 then(qn b,v) ::qS s else(qn p.1,p.2) ::lZ (qS s) (qn b) v)=qS (if b=p.1 then(b,v) ::s else p ::lZ s b v);rw [HP s b v];simp only [zt]
  split<;>rfl
theorem FC(s:Sc)(b:ByteArray):nJ (qS s) (qn b)=qS (nJ s b):=by
 unfold nJ;rw [wa,HP]
theorem GP(s own:Sc):jn (qS s) (qS own)=qS (jn s own):=by
 unfold jn;show(s.map λp=>(qn p.1,p.2)).filter _=(s.filter _).map _;rw [List.filter_map];refine congrArg (List.map _) (congrArg (λp=>s.filter p) (funext λq=>?_));show(!(own.map λp=>(qn p.1,p.2)).any λr=>decide (r.1=qn q.1))=_;rw [List.any_map];refine congrArg not (congrArg (λp=>own.any p) (funext λr=>?_));show decide (qn r.1=qn q.1)=decide (r.1=q.1);simp only [zt]
theorem Ir(s:Sc):Rd (gZ (jk s)) (gZ (jk (qS s))):=λn c=>by
 have key:∀l:List (List UInt8),∀n c,gZ ((l.mergeSort leS).map ni) n c=gZ (l.map ni) n c:=λl n c=>((List.mergeSort_perm l leS).map ni).any_eq;have e:∀b:ByteArray,ni b.data.toList=sV b:=λb=>by
  show V.str _ _=V.str _ _;rw [Array.length_toList];rfl
 refine(key _ _ _).trans (Eq.trans ?_ (key _ _ _).symm);rw [<-HZ (List.map ni (List.map (λq=>q.1.data.toList) s)) n c];refine congrArg (λl=>gZ l (n+1) (qc n c)) ?_;show((s.map λp=>(qn p.1,p.2)).map λq=>q.1.data.toList).map ni=_;rw [List.map_map,List.map_map,List.map_map,List.map_map];refine congrArg (λf=>s.map f) (funext λp=>?_);show ni (qn p.1).data.toList=qV (ni p.1.data.toList);rw [e,e,JN]
theorem ut{α β:Type}{R:α->β->Prop}{c:Bool}{a b:α}{e d:β}(h:c=true->R a e)(k:c=false->R b d):R (if c then a else b) (if c then e else d):=by
 cases c with
 |true=>exact h rfl
 |false=>exact k rfl
def RcS(s s':Sc):Prop:=s'=qS s
def RfL(fl fl':List Fl):Prop:=fl'=fl.map qF/\∀x,x∈fl->eqI x.code 7=true->x.name.size<=6000000
theorem RfL.add{fl fl':List Fl}(h:RfL fl fl'){x y:Fl}(e:y=qF x)(hz:eqI x.code 7=true->x.name.size<=6000000):RfL (fl++[x]) (fl'++[y]):=by
 refine⟨?_,λz a=>?_⟩
 ·rw [h.1,e,List.map_append]
  rfl
 ·rcases List.mem_append.1 a with k|k
  ·exact h.2 z k
  ·rw [List.mem_singleton.1 k]
   exact hz
theorem RfL.addn{fl fl':List Fl}(h:RfL fl fl'){p:Pl}{code:Int}{b:ByteArray}{n:Int}(k:eqI code 7=false):RfL (fl++[flw p code b n]) (fl'++[flw p code b n]):=h.add (JS k).symm λq=>by
 have q:eqI code 7=true:=q;rw [k]at q;cases q
def Rf(st st':Sc×List Fl):Prop:=st'.1=qS st.1/\RfL st.2 st'.2
theorem RfL.ite{c:Bool}{a b e d:List Fl}(h:RfL a e)(k:RfL b d):RfL (if c then a else b) (if c then e else d):=by
 cases c with
 |true=>exact h
 |false=>exact k
theorem FD(g:Sg):rN (dB g)=rN g:=by
 unfold rN;rw [lh,nr,di]
theorem B2(g:Sg)(s:Sc):je (dB g) (qS s)=qS (je g s):=by
 unfold je;rw [FD,lh,nr,di];cases q:eqI g.val.kind 3 with
 |true=>
  rw [li q,FC]
  split<;>rfl
 |false=>
  rw [Bool.and_false];rfl
theorem AI:∀(k:Nat) (x:Ex) (s s':Sc),RcS s s'->RcS (iT k x s) (iT k (ren x) s')
 |0,_,_,_,h=>h
 |k+1,x,s,s',h=>by
  unfold iT;rw [di,dO,fY,cZ,gH];refine ut (R:=RcS) (λq=>?_) λ_=>ut (R:=RcS) (λ_=>?_) λ_=>ut (R:=RcS) (λ_=>?_) λ_=>h
  ·have h:s'=qS s:=h
   rw [li q,h];exact FC _ _
  ·exact eD h λi _ s s' r=>by rw [gL];exact AI k _ _ _ r
  ·refine eD h λi hi s s' r=>?_
   have r:s'=qS s:=r;rw [pi hi,r];exact B2 _ _
theorem HF(p:Pl){x:Ex}(hz:bS (exO x)<=6000000)(k:eqI x.kind 3=true){s s':Sc}(hs:s'=qS s){fl fl':List Fl}(h:RfL fl fl'):RfL (xg p x s fl) (xg p (ren x) s' fl'):=by
 subst hs;unfold xg;rw [li k,wa];exact(h.add rfl λ_=>by have:=dZ x;show x.name.size<=_;omega).ite h
theorem IP(x:Ex):zy (ren x)=zy x:=by
 unfold zy;rw [di]
theorem JM(p:Pl)(g:Sg)(last:Bool)(st a:Sc×List Fl)(r:Rf st a):Rf (rG p g last st) (rG p (dB g) last a):=by
 obtain⟨s,fl⟩:=st;obtain⟨s',fl'⟩:=a;have c:s'=qS s:=r.1;have b:RfL fl fl':=r.2;clear r;subst c;refine⟨B2 g s,?_⟩;have h1:RfL (if rN g then fl else fl++[flw p 9 eB 0]) (if rN g then fl' else fl'++[flw p 9 eB 0]):=b.ite (b.addn rfl);have e:(!eqI g.size.kind 3||eqI (i5 (qS s) (ren g.size).name) 0)=(!eqI g.size.kind 3||eqI (i5 s g.size.name) 0):=by
  cases q:eqI g.size.kind 3 with
  |true=>rw [li q,wa]
  |false=>rfl
 show RfL (if(g.sized&&(!eqI g.size.kind 1&&(!eqI g.size.kind 3||eqI (i5 s g.size.name) 0)))||(!g.sized&&(!last&&(eqI g.type 2||eqI g.type 3)))then _ else _) (if((dB g).sized&&(!eqI (dB g).size.kind 1&&(!eqI (dB g).size.kind 3||eqI (i5 (qS s) (dB g).size.name) 0)))||(!(dB g).sized&&(!last&&(eqI (dB g).type 2||eqI (dB g).type 3)))then(if rN (dB g)then fl' else fl'++[flw p 9 eB 0])++[flw p 11 eB 0]else if rN (dB g)then fl' else fl'++[flw p 9 eB 0]);rw [lS,mB,lh,di,e,FD];exact(h1.addn rfl).ite h1
theorem GQ(l:List Sg)(i:Nat):rk (gX l) i=rk l i:=by
 unfold rk;rw [gH]
theorem zx(p:Pl):∀(k:Nat) (x:Ex) (st st':Sc×List Fl),Rf st st'->Rf (gI p k x st) (gI p k (ren x) st')
 |0,_,_,_,r=>r
 |k+1,x,st,st',r=>by
  unfold gI;rw [di,dO,fY,cZ,gH,IP];refine ut (R:=Rf) (λ_=>?_) λ_=>ut (R:=Rf) (λ_=>?_) λ_=>?_
  ·exact eD r λi _ s s' r=>by rw [gL];exact zx p k _ _ _ r
  ·exact eD r λi hi s s' r=>by rw [pi hi,GQ];exact JM p _ _ _ _ r
  ·have r2:RfL st.2 st'.2:=r.2
   exact⟨AI B6 x _ _ r.1,r2.ite (r2.addn rfl)⟩
theorem I5{x:Ex}(k:eqI x.kind 3=false):CR (ren x)=CR x:=by
 unfold CR;rw [di,dO,cZ,iD,k];rfl
theorem BC(p:Pl):∀(k:Nat) (x:Ex) (s s':Sc) (fl fl':List Fl),bS (exO x)<=6000000->s'=qS s->RfL fl fl'->RfL (gD p k x s fl) (gD p k (ren x) s' fl')
 |0,_,_,_,_,_,_,_,h=>h
 |k+1,x,s,s',fl,fl',hz,hs,h=>by
  unfold gD;rw [di,dO,cZ];refine ut (R:=RfL) (λq=>HF p hz q hs h) λq=>?_;rw [I5 q];refine(h.addn rfl).ite (RfL.ite ?_ (h.addn rfl));exact eD (R:=RfL) h λi hi s s' r=>by rw [gL];exact BC p k _ _ _ _ _ (by have:=tJ (ltb hi);have:=dZ x;omega) hs r
def WlX(x:Ex):Prop:=dn x=true/\dn (ren x)=true/\bS (exO x)<=6000000
theorem WlX.kid{x y:Ex}(h:WlX x)(k:y∈df x):WlX y:=by
 obtain⟨h1,h2,a⟩:=h;rw [lM,Bool.and_eq_true,Bool.and_eq_true]at h1 h2;refine⟨List.all_eq_true.1 h1.2.2 y k,?_,by have:=fg k;omega⟩;have:=h2.2.2;rw [jH]at this;exact List.all_eq_true.1 this _ (List.mem_map_of_mem k)
theorem WlX.ok{x:Ex}(h:WlX x):okX (ren x)=okX x:=by
 unfold okX;rw [h.1,h.2.1,zb _ x (Nat.le_refl _),za _ x (Nat.le_refl _),zc _ x (Nat.le_refl _)]
theorem Dn{l:List Sm}{s:Sm}(h:s∈l):s.val∈cI l:=by
 induction l with
 |nil=>cases h
 |cons a l ih=>
  rw [cI];refine List.mem_append.2 ?_;rcases List.mem_cons.1 h with rfl|h
  ·exact .inl (by split<;>simp)
  ·exact .inr (ih h)
theorem tV{l:List Cl}{c:Cl}(h:c∈l){y:Ex}(k:y∈cI c.body):y∈clK l:=by
 induction l with
 |nil=>cases h
 |cons a l ih=>
  rw [clK];rcases List.mem_cons.1 h with rfl|h
  ·exact List.mem_append_left _ (List.mem_append_right _ (List.mem_append_right _ k))
  ·exact List.mem_append_right _ (ih h)
theorem xE{l:List Sg}{s:Sg}(h:s∈l){y:Ex}(k:y∈(if s.type=4 then []else [s.val])++(if s.sized then [s.size]else [])):y∈fX l:=by
 induction l with
 |nil=>cases h
 |cons a l ih=>
  rw [fX];rcases List.mem_cons.1 h with rfl|h
  ·exact List.mem_append_left _ k
  ·exact List.mem_append_right _ (ih h)
def Vb(l:List Sm):Prop:=∀y,y∈cI l->WlX y
def Vc(l:List Cl):Prop:=∀c,c∈l->Vb c.body/\bS (clO c)<=6000000
theorem Fw{l:List Cl}{c:Cl}(h:c∈l):bS (clO c)<=bS (clL l):=by
 induction l with
 |nil=>cases h
 |cons a l ih=>
  rw [fj,cy];rcases List.mem_cons.1 h with rfl|h
  ·omega
  ·have:=ih h
   omega
structure Vx(x:Ex):Prop where
 items:∀y,y∈x.items->WlX y
 segs:x.kind≠17->∀y,y∈fX x.segs->WlX y
 body:x.kind≠17->Vb x.body
 after:Vb x.after
 clauses:Vc x.clauses
 catches:x.kind≠17->Vc x.catches
theorem WlX.parts{x:Ex}(h:WlX x):Vx x:=by
 have hz:=h.2.2;have d:=dZ x;have b:∀y,y∈x.items\/y∈cI x.after\/y∈clK x.clauses->WlX y:=λy q=>h.kid (by
  unfold df
  split
  ·simp only [List.mem_append];rcases q with q|q|q<;>simp [q]
  ·simp only [List.mem_append];rcases q with q|q|q<;>simp [q])
 have a:x.kind≠17->∀y,y∈fX x.segs\/y∈cI x.body\/y∈clK x.catches->WlX y:=λn y q=>h.kid (by
  unfold df;rw [if_neg n];simp only [List.mem_append];rcases q with q|q|q<;>simp [q])
 exact⟨λy q=>b y (.inl q),λn y q=>a n y (.inl q),λn y q=>a n y (.inr (.inl q)),λy q=>b y (.inr (.inl q)),λc hc=>⟨λy q=>b y (.inr (.inr (tV hc q))),by have:=Fw hc;omega⟩,λn c hc=>⟨λy q=>a n y (.inr (.inr (tV hc q))),by have:=Fw hc;omega⟩⟩
theorem sa{x:Ex}{k:Int}(h:eqI x.kind k=true)(n:k≠17):x.kind≠17:=by
 rw [iF h];exact n
def EF(E:XF):Prop:=∀p x s s' fl fl',WlX x->s'=qS s->RfL fl fl'->RfL (E p x s fl) (E p (ren x) s' fl')
section
variable {E:XF} (e:EF E) {p:Pl} {s s':Sc} (hs:s'=qS s) {fl fl':List Fl} (h:RfL fl fl')
include e hs h
theorem sd{l:List Ex}(w:∀y,y∈l->WlX y):RfL (nH E p l s fl) (nH E p (eH l) s' fl'):=by
 unfold nH;rw [cZ];exact eD (R:=RfL) h λi hi _ _ r=>by rw [gL];exact e _ _ _ _ _ _ (w _ (jf (ltb hi))) hs r
theorem pZ{l:List Sm}(w:Vb l):RfL (lC E p l s fl) (lC E p (fm l) s' fl'):=by
 unfold lC;rw [fK];refine(eD (R:=Rf) (s:=(s,fl)) (s':=(s',fl')) ⟨hs,h⟩ λi hi st a r=>?_).2;have b:=w (cK l i).val (Dn (s:=cK l i) (jf (ltb hi)));rw [xz hi];unfold jA;rw [nt,qt,sL]
 split
 ·have q:=zx p B6 (cK l i).pat st a r
  exact⟨q.1,e _ _ _ _ _ _ b r.1 q.2⟩
 ·exact⟨r.1,e _ _ _ _ _ _ b r.1 r.2⟩
theorem zS{c:Cl}(w:Vb c.body/\bS (clO c)<=6000000):RfL (tk E p c s fl) (tk E p (eU c) s' fl'):=by
 unfold tk;rw [gT,cZ];have q:=eD (R:=Rf) (s:=(s,fl)) (s':=(s',fl')) (f:=λi st=>gI p B6 (cE c.pats i) st) (f':=λi st=>gI p B6 (cE (eH c.pats) i) st) (n:=c.pats.length) ⟨hs,h⟩ λi _ st d r=>by rw [gL];exact zx p B6 _ _ _ r
 unfold Kg;rw [nS,j9,pr];refine pZ e q.1 ?_ w.1;refine eD (R:=RfL) q.2 λi hi a l r=>?_;rw [yu hi,cZ];exact eD (R:=RfL) r λj g b k r=>by rw [gL];exact BC p B6 _ _ _ _ _ (by have:=tJ (ltb g);have:=tq (ltb hi);have:=gM c;have:=w.2;omega) q.1 r
theorem wJ{l:List Cl}(w:Vc l):RfL (rL E p l s fl) (rL E p (dD l) s' fl'):=by
 unfold rL;rw [d5];exact eD (R:=RfL) h λi hi _ _ r=>by rw [kT];exact zS e hs r (w _ (jf (ltb hi)))
theorem Hm{l:List Sg}(w:∀y,y∈fX l->WlX y):RfL (yQ E p l s fl) (yQ E p (gX l) s' fl'):=by
 unfold yQ;rw [gH];refine eD (R:=RfL) h λi hi a b r=>?_;have c:cG l i∈l:=jf (ltb hi);rw [pi hi];have k:RfL (if eqI (cG l i).type 4 then a else E p (cG l i).val s a) (if eqI (cG l i).type 4 then b else E p (ren (cG l i).val) s' b):=by
  cases q:eqI (cG l i).type 4 with
  |true=>exact r
  |false=>exact e _ _ _ _ _ _ (w _ (xE c (List.mem_append_left _ (by rw [if_neg (by rintro d;rw [d]at q;cases q)];exact List.mem_cons_self)))) hs r
 unfold t8;rw [lS,lh,nr,mB];cases q:(cG l i).sized with
 |true=>exact e _ _ _ _ _ _ (w _ (xE c (List.mem_append_right _ (by rw [q];exact List.mem_cons_self)))) hs k
 |false=>exact k
theorem Hj(D:Df){x:Ex}(k:eqI x.kind 3=false)(w:∀y,y∈x.items->WlX y):RfL (tY D E p x s fl) (tY D E p (ren x) s' fl'):=by
 unfold tY;rw [dO,cZ,iD,k];exact sd e hs ((h.addn rfl).ite h) w
theorem I8{x:Ex}(w:WlX x):RfL (CW E p x s fl) (CW E p (ren x) s' fl'):=by
 have b:rp (ren x) (jk s')=rp x (jk s):=by
  subst hs;unfold rp;rw [I9 w.ok (Ir s)]
 unfold CW;rw [b,dP,d5];refine eD (R:=RfL) ((h.addn rfl).ite h) λi hi a c r=>?_;rw [kT,kT,gT,cZ];unfold CM;rw [gT,cZ];refine zS e ?_ (r.ite (r.addn rfl)) (w.parts.clauses _ (jf (ltb hi)));have ho:El (eU (bV x.clauses i))=qS (El (bV x.clauses i)):=by
  unfold El;rw [gT,cZ];exact eD (R:=RcS) (s:=[]) (s':=[]) (f:=λj s=>iT B6 (cE (bV x.clauses i).pats j) s) (f':=λj s=>iT B6 (cE (eH (bV x.clauses i).pats) j) s) (n:=(bV x.clauses i).pats.length) rfl λj _ s s' r=>by rw [gL];exact AI B6 _ _ _ r
 rw [ho,hs,GP]
end
theorem BL(D:Df):∀k,EF (tH D k)
 |0=>λ_ _ _ _ _ _ _ _ h=>h
 |k+1=>λp x s s' fl fl' w hs h=>by
  have e:=BL D k;have v:=w.parts;unfold tH kn;rw [di,dP,eG,gQ,iE,dO,fY];refine ut (R:=RfL) (λq=>HF p w.2.2 q hs h) λq=>?_;refine RfL.ite (h.addn rfl) (ut (R:=RfL) (λq=>Hm e hs h (v.segs (sa q (by decide)))) λ_=>RfL.ite (Hj e hs h D q v.items) (RfL.ite (I8 e hs h w) (ut (R:=RfL) (λq=>pZ e hs h (v.body (sa q (by decide)))) λ_=>RfL.ite (wJ e hs (sd e hs h v.items) v.clauses) (RfL.ite ?_ (ut (R:=RfL) (λq=>?_) λ_=>sd e hs h v.items)))))
  ·exact pZ e hs (sd e hs (wJ e hs h v.clauses) v.items) v.after
  ·exact pZ e hs (wJ e hs (wJ e hs (pZ e hs h (v.body (sa q (by decide)))) v.clauses) (v.catches (sa q (by decide)))) v.after
theorem Kl(D:Df){f:Fu}(w:Vc f.clauses)(b:Bool){fl fl':List Fl}(h:RfL fl fl'):RfL (fnF D f b fl) (fnF D (eL f) b fl'):=by
 unfold fnF;show RfL _ (cB _ _ (dD f.clauses).length);rw [d5];refine eD (R:=RfL) ?_ λi hi a c r=>?_
 ·exact RfL.ite (RfL.ite (h.addn rfl) h) ((RfL.ite (h.addn rfl) h).addn rfl)
 ·unfold yz
  show RfL _ (tk (tH D B6) (plF f i) (bV (dD f.clauses) i) [] (if nmB (bV (dD f.clauses) i).name f.name&&eqI (Int.ofNat (bV (dD f.clauses) i).pats.length) f.arity then c else c++[flw (plF f i) 4 (bV (dD f.clauses) i).name (Int.ofNat (bV (dD f.clauses) i).pats.length)]));rw [kT,pA,gT,cZ];exact zS (BL D B6) rfl (r.ite (r.addn rfl)) (w _ (jf (ltb hi)))
theorem yw{l:List Fu}{i:Nat}(h:i<l.length):cX (l.map eL) i=eL (cX l i):=by
 unfold cX;rw [List.getElem?_map,List.getElem?_eq_getElem h];rfl
theorem FA{m:Md}(B:bS (mdO m)<=6000000)(a:AM m 0)(b:AM (eT m) 0):RfL (kU m) (kU (eT m)):=by
 have ok:=GA a b;unfold kU;rw [ok];cases q:okM m with
 |false=>exact⟨rfl,λx j=>by cases j⟩
 |true=>
  rw [if_pos rfl,if_pos rfl];have s:okM (eT m)=true:=ok.trans q;have fs:∀m:Md,okM m=true->∀f,f∈m.funcs->(clK f.clauses).all dn=true:=λm q f e=>by
   unfold okM at q;simp only [Bool.and_eq_true]at q;have:=List.all_eq_true.1 q.2.2.1 f e;unfold okF at this;simp only [Bool.and_eq_true]at this;exact this.2.2.2.2
  have o:=pG m;have k:∀(l:List Fu) f,f∈l->bS (fuO f)<=bS (fuL l):=λl f e=>by
   induction l with
   |nil=>cases e
   |cons a l ih=>
    show _<=bS (fuO a++fuL l);rw [cy];rcases List.mem_cons.1 e with rfl|e
    ·omega
    ·have:=ih e
     omega
  have w:∀f,f∈m.funcs->Vc f.clauses:=λf e c hc=>by
   have z1:=k _ f e;have z2:=jJ f;have A:=Fw hc;refine⟨λy g=>?_,by omega⟩;have h:=tV hc g;have v:=gM c;have t:bS (exO y)<=bS (smL c.body):=by
    have h1:=ib c.body;have h2:bS (exO y)<=bS (exL (cI c.body)):=by
     generalize cI c.body=L at g;clear h1
     induction L with
     |nil=>cases g
     |cons a L ih=>
      rw [cV,cy];rcases List.mem_cons.1 g with rfl|g
      ·omega
      ·have:=ih g
       omega
    omega
   refine⟨List.all_eq_true.1 (fs m q f e) y h,?_,by omega⟩;have:=fs (eT m) s (eL f) (List.mem_map_of_mem e);have this:(clK (dD f.clauses)).all dn=true:=this;rw [jd]at this;exact List.all_eq_true.1 this _ (List.mem_map_of_mem h)
  have h:(m.funcs.map eL).map kF=m.funcs.map kF:=by rw [List.map_map];rfl
  have z:dfM (eT m)=dfM m:=by
   unfold dfM;show(λn a=>decide (0<pU ((m.funcs.map eL).map kF) (n,a)))=_;rw [h]
  unfold B0;rw [z];show RfL _ (cB (λi fl=>fnF (dfM m) (cX (m.funcs.map eL) i) (lK (eT m) i) fl) (yh (dfM m) p0 m.exports []) (m.funcs.map eL).length);rw [List.length_map];refine eD (R:=RfL) ?_ λi hi a p r=>?_
  ·show RfL (cB _ [] _) (cB _ [] _)
   exact eD (R:=RfL) ⟨rfl,λx j=>by cases j⟩ λi _ a p r=>RfL.ite (RfL.ite (r.addn rfl) r) ((RfL.ite (r.addn rfl) r).addn rfl)
  ·have u:lK (eT m) i=lK m i:=by
    unfold lK;show decide (0<pU (((m.funcs.map eL).take i).map kF) (kF (cX (m.funcs.map eL) i)))=_;rw [yw hi,<-List.map_take,List.map_map];rfl
   rw [u,yw hi];exact Kl _ (w _ (jf (d:=fu0) (ltb hi))) _ r
end
end Ev
end Go.Proofs.YtdfphfdnoobikaaGreatDoor
