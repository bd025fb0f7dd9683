/-
  Modules;the reference's SmallModule.
-/
import Derived.Test.YtdfphfdnoobikaaGreatDoorLtLex2
namespace Go.Proofs.YtdfphfdnoobikaaGreatDoor
namespace Ev
section
structure Fu where
 name:ByteArray
 arity:Int
 clauses:List Cl
structure Sn where
 name:ByteArray
 arity:Int
structure Md where
 name:ByteArray
 vsn:Int
 exports:List Sn
 funcs:List Fu
noncomputable section
def fuO(f:Fu):List V:=[sV f.name,.int .i64 f.arity,.lst f.clauses.length 4 (clL f.clauses)]
def snO(s:Sn):List V:=[sV s.name,.int .i64 s.arity]
def fuL:List Fu->List V
 |[]=>[]
 |f ::l=>fuO f++fuL l
def snL:List Sn->List V
 |[]=>[]
 |f ::l=>snO f++snL l
def mdO(m:Md):List V:=[sV m.name,.int .i64 m.vsn,.lst m.exports.length 2 (snL m.exports),.lst m.funcs.length 3 (fuL m.funcs)]
def fu0:Fu:=⟨⟨#[]⟩,0,[]⟩
def sn0:Sn:=⟨⟨#[]⟩,0⟩
def cX(l:List Fu)(i:Nat):Fu:=(l[i]?).getD fu0
def dU(l:List Sn)(i:Nat):Sn:=(l[i]?).getD sn0
end
theorem sb{α:Type}{f:α->List V}{g:List α->List V}{n:Nat}(hc:∀a l,g (a ::l)=f a++g l)(hl:∀a,(f a).length=n):∀(l:List α) (i:Nat) (x:α),l[i]? =some x->∃a b,g l=a++(f x++b)/\a.length=Nat.mul i n
 |[],i,x,h=>by simp at h
 |a ::l,0,x,h=>by
  simp at h;subst h;exact⟨[],g l,by rw [hc];rfl,by simp⟩
 |a ::l,i+1,x,h=>by
  obtain⟨p,q,e,k⟩:=sb hc hl l i x (by simpa using h);refine⟨f a++p,q,by rw [hc,e,List.append_assoc],?_⟩;rw [List.length_append,hl,k];show n+i*n=(i+1)*n;rw [Nat.add_mul,Nat.one_mul,Nat.add_comm]
theorem H2{l:List Fu}{i:Nat}(h:Nat.blt i l.length=true):∃a b,fuL l=a++(fuO (cX l i)++b)/\a.length=Nat.mul i 3:=sb (g:=fuL) (f:=fuO) (n:=3) (λ_ _=>rfl) (λ_=>rfl) l i _ (cP (d:=fu0) h)
theorem HM{l:List Sn}{i:Nat}(h:Nat.blt i l.length=true):∃a b,snL l=a++(snO (dU l i)++b)/\a.length=Nat.mul i 2:=sb (g:=snL) (f:=snO) (n:=2) (λ_ _=>rfl) (λ_=>rfl) l i _ (cP (d:=sn0) h)
theorem H1{l:List Fu}{i:Nat}(h:Nat.blt i l.length=true):gq (fuL l) (Nat.mul i 3) (fuO (cX l i)):=by obtain⟨a,b,e,k⟩:=H2 h;exact .of e k
theorem HK{l:List Sn}{i:Nat}(h:Nat.blt i l.length=true):gq (snL l) (Nat.mul i 2) (snO (dU l i)):=by obtain⟨a,b,e,k⟩:=HM h;exact .of e k
theorem rn{l:List Fu}{i:Nat}(h:Nat.blt i l.length=true):bS (fuO (cX l i))<=bS (fuL l):=by obtain⟨a,b,e,_⟩:=H2 h;exact sz e
theorem JG{l:List Sn}{i:Nat}(h:Nat.blt i l.length=true):bS (snO (dU l i))<=bS (snL l):=by obtain⟨a,b,e,_⟩:=HM h;exact sz e
theorem jJ(f:Fu):bS (fuO f)=(f.name.size+1)+(1+(1+bS (clL f.clauses))):=rfl
theorem DK(s:Sn):bS (snO s)=(s.name.size+1)+1:=rfl
theorem pG(m:Md):bS (mdO m)=(m.name.size+1)+(1+((1+bS (snL m.exports))+(1+bS (fuL m.funcs)))):=rfl
theorem EV{l:List Fu}{i:Nat}(h:i<l.length):bS (fuL (l.take (i+1)))=bS (fuL (l.take i))+bS (fuO (cX l i)):=jD rfl (λ_ _=>rfl) l i _ (cP (d:=fu0) (ltb h))
theorem Iu{l:List Sn}{i:Nat}(h:i<l.length):bS (snL (l.take (i+1)))=bS (snL (l.take i))+bS (snO (dU l i)):=jD rfl (λ_ _=>rfl) l i _ (cP (d:=sn0) (ltb h))
theorem pL(l:List Fu):l.length<=bS (fuL l):=nB (f:=fuO) rfl (λ_ _=>rfl) (λx=>by rw [jJ];omega) l
theorem vH(l:List Sn):l.length<=bS (snL l):=nB (f:=snO) rfl (λ_ _=>rfl) (λx=>by rw [DK];omega) l
theorem HW{l:List Fu}{i k n:Nat}{v:V}{h:H}(hb:Nat.blt i l.length=true)(hv:ff (fuO (cX l i)) k=some v):ROp.run (.load false n) [.eptr (fuL l) (Nat.add (Nat.mul i 3) k)] h=some v:=dY (H1 hb) hv h
theorem i7{l:List Fu}{i:Nat}{h:H}(hb:Nat.blt i l.length=true):ROp.run (.load true 3) [.eptr (fuL l) (Nat.mul i 3)] h=some (.agg (fuO (cX l i))):=gJ (H1 hb) h
theorem HV{l:List Sn}{i k n:Nat}{v:V}{h:H}(hb:Nat.blt i l.length=true)(hv:ff (snO (dU l i)) k=some v):ROp.run (.load false n) [.eptr (snL l) (Nat.add (Nat.mul i 2) k)] h=some v:=dY (HK hb) hv h
theorem HX{l:List Sn}{i:Nat}{h:H}(hb:Nat.blt i l.length=true):ROp.run (.load true 2) [.eptr (snL l) (Nat.mul i 2)] h=some (.agg (snO (dU l i))):=gJ (HK hb) h
theorem oM(f:Fu):∀c,c∈fuO f->bY c:=cg (.flat rfl) (cg (.flat rfl) (cg (pxC _) px0))
theorem zg(s:Sn):∀c,c∈snO s->bY c:=cg (.flat rfl) (cg (.flat rfl) px0)
theorem z8:∀l,∀c,c∈fuL l->bY c
 |[],c,h=>by cases h
 |f ::l,c,h=>by
  rcases List.mem_append.1 h with h|h
  ·exact oM f c h
  ·exact z8 l c h
theorem DL:∀l,∀c,c∈snL l->bY c
 |[],c,h=>by cases h
 |f ::l,c,h=>by
  rcases List.mem_append.1 h with h|h
  ·exact zg f c h
  ·exact DL l c h
theorem IK(l:List Fu):bY (.lst l.length 3 (fuL l)):= .lst (z8 l)
theorem LP(l:List Sn):bY (.lst l.length 2 (snL l)):= .lst (DL l)
theorem gY(m:Md):∀c,c∈mdO m->bY c:=cg (.flat rfl) (cg (.flat rfl) (cg (LP _) (cg (IK _) px0)))
theorem Sz.oneC{s:Nat}(R:Sz s){p:Prop}(l:List Cl)(m:Int)(h:p->bS (clL l)<s/\0<=m/\m<=4000):∃r,p->CP 19 [.lst l.length 4 (clL l),.int .i64 (dA .i64 (Int.sub m 1))] (.int .i64 r)/\OkR (bS (clL l)+500*l.length) (m-1) r:=by
 refine Jf λk=>?_;obtain⟨a,b,c⟩:=h k;rw [Hw (by omega) (by omega)];exact R.cl l a (m-1) (by omega) (by omega)
noncomputable section
def fr8(m:Md)(i:Nat):AL:=[(1,.int .i64 4000),(2,.eptr (mdO m) 0),(4,.bool false),(5,.int .i64 (Int.ofNat i))]
def fr8f(m:Md)(cur:Int)(i:Nat):AL:=[(1,.int .i64 cur),(2,.eptr (mdO m) 0),(4,.bool false),(6,.int .i64 (Int.ofNat i))]
end
def ncl(l:List Fu):Nat:=(l.map λf=>f.clauses.length).sum
theorem GN{l:List Fu}{i:Nat}(h:i<l.length):ncl (l.take (i+1))=ncl (l.take i)+(cX l i).clauses.length:=by
 have:=cP (d:=fu0) (ltb h);unfold ncl;rw [List.take_add_one,this];simp [cX]
set_option maxHeartbeats 4000000 in
theorem f8b(m:Md):∃b,CP 8 [.agg (mdO m),.int .i64 4000] (.bool b)/\(b=true->bS (mdO m)+500*ncl m.funcs<=5300000):=by
 obtain⟨v,c,b,rfl,ok⟩:∃v,CP 8 [.agg (mdO m),.int .i64 4000] v/\∃b,v= .bool b/\(b=true->bS (mdO m)+500*ncl m.funcs<=5300000):=by
  refine eF Tryz.func8 (by decide) q8.2 rfl (cg (.agg (gY m)) (cg (.flat rfl) px0)) rfl ?_;have px:=gY m;have t:bY (.eptr (mdO m) 0):= .eptr px;have R:=oZ (bS (mdO m));have o:=pG m
  repeat' (first
   |(refine WLg.mk ?_;first
   |refine ac ?_|refine au ?_|refine aV rfl rfl rfl rfl px rfl ?_)|apply ab|refine aj rfl ?_|refine aB rfl rfl ?_|refine aC rfl (λd=>?_) (λd=>?_)|apply ae|apply aa|apply ai|apply ak|refine aF rfl ?_|refine ah rfl (λd=>?_) (λd=>?_)|apply am|apply thN|apply thR|fail)
  ·exact⟨.inr rfl,_,rfl,.flat rfl,false,rfl,λh=>by cases h⟩
  ·exact⟨.inr rfl,_,rfl,.flat rfl,false,rfl,λh=>by cases h⟩
  ·have C:=me (by assumption:ltI 300 (Int.ofNat m.name.size)=false)
   have D:m.exports.length<=4000:=by rw [iy]at d;simp at d;omega
   refine az (cS (l:=fr8 m 0) KT rfl) ?_;refine aA m.exports.length (λi x h=>(x=fr8 m i/\bS (snL (m.exports.take i))<=302*i)/\h=H0) ?_ (i:=0) (Nat.zero_le _) ⟨⟨rfl,by simp [snL,bS]⟩,rfl⟩;rintro i _ _ hi ⟨⟨rfl,q⟩,rfl⟩;have hi2:i<9223372036854775807:=by omega
   repeat' (first
    |apply ab|apply ae|apply aa|apply ai|apply ak|refine ah rfl (λd=>?_) (λd=>?_)|apply ax|apply am|apply thN|apply thR|apply thE|apply onR|refine ac ?_|refine av rfl rfl (ce Hy) rfl ?_|refine ap rfl rfl (HV Hy rfl) rfl ?_|refine au ?_|apply onE)
   ·exact⟨.inr rfl,_,rfl,.flat rfl,false,rfl,λh=>by cases h⟩
   ·rename_i g
    have e:=bX g;have hs:=Iu e;have hz:=DK (dU m.exports i);have:=me d;exact .norm ⟨_,_,cS KI rfl,e,⟨rfl,by omega⟩,rfl⟩
   ·have f:i=m.exports.length:=by have:=cC d;omega
    rw [f,List.take_length]at q;refine az (cS (l:=fr8f m 4000 0) KT rfl) ?_;refine aA m.funcs.length (λi x h=>(∃a:Int,x=fr8f m a i/\-1<=a/\(i:Int)<=4000-a/\(0<=a->(bS (fuL (m.funcs.take i))+500*ncl (m.funcs.take i):Int)<=1000*(4000-a)))/\h=H0) ?_ (i:=0) (Nat.zero_le _) ⟨⟨4000,rfl,by omega,by simp,λ_=>by simp [fuL,bS,ncl]⟩,rfl⟩;clear hi hi2 f d;rintro j _ _ B ⟨⟨a,rfl,E,A,q3⟩,rfl⟩;have r:j<9223372036854775807:=by omega
    obtain⟨w,n⟩:=R.oneC (p:=j<m.funcs.length/\0<=a) (cX m.funcs j).clauses a λh=>by
     have:=rn (ltb h.1);have:=jJ (cX m.funcs j);omega
    repeat' (first
     |(refine WLg.mk ?_;first
     |refine ac ?_|refine av rfl rfl (ce Hy) rfl ?_|refine ap rfl rfl (HW Hy rfl) rfl ?_|refine au ?_|refine aL rfl rfl rfl ((n ⟨bX Hy,kE Hy⟩).1) rfl ?_)|apply ab|refine aj rfl ?_|refine aB rfl rfl ?_|refine aC rfl (λd=>?_) (λd=>?_)|apply ae|apply aa|apply ai|apply ak|refine aD rfl ?_|refine ah rfl (λd=>?_) (λd=>?_)|apply ax|apply am|apply thN|apply thR|apply thE|apply onR|apply onE|fail)
    ·exact⟨.inr rfl,_,rfl,.flat rfl,false,rfl,λh=>by cases h⟩
    ·rename_i g z
     have e:=bX g;have h0:=kE z;have hs:=EV e;have u:=GN e;have hz:=jJ (cX m.funcs j);have:=me d;obtain⟨o1,s,y⟩:=(n ⟨e,h0⟩).2;exact .norm ⟨_,_,cS KI rfl,e,⟨w,rfl,s,by omega,λh=>by have:=y h;have:=q3 h0;omega⟩,rfl⟩
    ·exact⟨.inr rfl,_,rfl,.flat rfl,_,rfl,λh=>absurd (kE h) (te d)⟩
    ·have k:j=m.funcs.length:=by have:=cC d;omega
     rw [k,List.take_length]at q3;exact⟨.inr rfl,_,rfl,.flat rfl,_,rfl,λh=>by have:=q3 (kE h);have:=kE h;omega⟩
 exact⟨b,c,ok⟩
end
section
noncomputable section
def lpA(xs:List Ex):List (Option Blk):=[some (.ro 256 d3),some (.cells (cD (exL xs)) (cM (exL xs) 0 .e) none false)]
def HA:List Ex->H
 |[]=>H0
 |x ::l=>⟨trO (lpA (x ::l)) 0 .e,2⟩
def oA:List Ex->V
 |[]=>.nils
 |x ::l=>.sl 1 0 (x ::l).length 0 false 11
end
inductive rE(f:AL):AL->Prop
 |nil:rE f []
 |cons {t:Nat} {v:V} {l:AL} (e:lk f t=some v) (k:rE f l):rE f ((t,v) ::l)
theorem rE.lk{f:AL}:∀{l:AL},rE f l->∀t v,lk l t=some v->lk f t=some v
 |_,.nil,t,v,h=>by cases h
 |_,.cons (t:=t0) (v:=v0) e k,t,v,h=>by
  rw [@dJ noE]at h
  split at h
  ·rename_i q
   cases h;rw [<-q];exact e
  ·exact k.lk t v h
theorem KH{f l:AL}(h:rE f l:=by repeat' (first|exact .nil|refine .cons rfl ?_|refine .cons (dj (by assumption)) ?_)):rE f l:=h
theorem cA{T:Ty}{K:Nat->Prop}{f:F}{h:H}{l:AL}(k:rE f.loc l):fy T K f h ⟨l,[]⟩ h:=uE (λt v e=>k.lk t v e) (λt v e=>by cases e)
inductive iG:AL->AL->Prop
 |nil:iG [] []
 |cons {t:Nat} {v:V} {f l:AL} (p:bY v) (hn:lk f t=none) (k:iG f l):iG ((t,v) ::f) ((t,v) ::l)
 |drop {t:Nat} {v:V} {f l:AL} (hn:lk f t=none) (k:iG f l):iG ((t,v) ::f) l
theorem KP{f l:AL}(h:iG f l:=by repeat' (first|exact .nil|apply iG.cons PX rfl|apply iG.drop rfl)):iG f l:=h
theorem iG.mem{f l:AL}(k:iG f l):∀p,p∈l->lk f p.1=some p.2/\bY p.2:=by
 have up:∀{f:AL} {t t0:Nat} {v v0:V},lk f t=some v->lk f t0=none->lk ((t0,v0) ::f) t=some v:=λ{f t t0 v v0} h a=>by
  rw [@dJ noE]
  split
  ·rename_i q
   subst q;have a:lk f t0=none:=a;rw [a]at h;cases h
  ·exact h
 induction k with
 |nil=>intro p h;cases h
 |@cons t0 v0 f l p a k ih=>
  intro q b;rcases List.mem_cons.1 b with rfl|b
  ·exact⟨by rw [@dJ noE,if_pos rfl],p⟩
  ·exact⟨up (ih q b).1 a,(ih q b).2⟩
 |@drop t0 v0 f l a k ih=>
  intro q b;exact⟨up (ih q b).1 a,(ih q b).2⟩
theorem eO:∀a b:List Ex,exL (a++b)=exL a++exL b
 |[],b=>by rw [exL];rfl
 |x ::a,b=>by rw [List.cons_append,cV,cV,eO a b,List.append_assoc]
theorem mK:∀l:List Ex,(exL l).length=l.length*11
 |[]=>by rw [exL];rfl
 |x ::l=>by rw [cV,List.length_append,BM,mK l,List.length_cons];omega
theorem G6(l:List Ex):cU (exL l)=true:=by
 have key:∀l:List V,(∀v,v∈l->cQ v=true)->cU l=true:=by
  intro l
  induction l with
  |nil=>exact λ_=>rfl
  |cons v l ih=>
   intro h;show(Bool.rec (motive:=λ_=>Bool) false (cU l) (cQ v):Bool)=true;rw [h v List.mem_cons_self];exact ih λx c=>h x (List.mem_cons_of_mem _ c)
 induction l with
 |nil=>rw [exL];rfl
 |cons x l ih=>
  refine key _ λv b=>?_;have all:∀l:List V,cU l=true->∀v,v∈l->cQ v=true:=by
   intro l
   induction l with
   |nil=>intro _ v h;cases h
   |cons a l ih2=>
    intro h v b;have h:(Bool.rec (motive:=λ_=>Bool) false (cU l) (cQ a):Bool)=true:=h;rw [cO]at h
    split at h
    ·rename_i q
     rcases List.mem_cons.1 b with rfl|b
     ·exact q
     ·exact ih2 h v b
    ·cases h
  rw [cV]at b;rcases List.mem_append.1 b with h|h
  ·exact all (exO x) rfl v h
  ·exact all _ ih v h
theorem tK(x:Ex)(l:List Ex):cD (exL (x ::l))=(l.length+1)*11:=by rw [@cq noE,mK,List.length_cons]
theorem DB{h2:H}{zs:List Ex}{b:Nat}{tr:Tr V}{up:Option (Nat×Nat)}{ch:Bool}{t:Nat}{loc tmp loc' tmp':AL}(A:iG loc loc')(D:iG tmp tmp')(E:lk tmp t=none)(hz:zs≠[])
  (h0:h2.blk 0=some (.ro 256 d3)) (s:h2.blk b=some (.cells (cD (exL zs)) tr up ch)) (o:∀d,¬Up h2 b 0 d) (f:∀d,¬Up h2 b b d) (F:zs.length<=50000000) (hc:∀j v,(exL zs)[j]? =some v->tr.get j=some v):
  fy TP Kp ⟨loc,(t,.sl b 0 zs.length 0 false 11) ::tmp⟩ h2 ⟨loc',(t,oA zs) ::tmp'⟩ (HA zs):=by
 obtain⟨z,l,rfl⟩:∃z l,zs=z ::l:=by
  cases zs with
  |nil=>exact absurd rfl hz
  |cons z l=>exact⟨z,l,rfl⟩
 have C:2<=bZ:=by unfold bZ;omega
 have g:cD (exL (z ::l))<=bZ:=by rw [tK];rw [List.length_cons]at F;unfold bZ;omega
 have u:∀i,cY (lpA (z ::l)) i->i=0\/i=1:=λi ⟨b,e⟩=>by
  cases i with
  |zero=>exact .inl rfl
  |succ i=>cases i with
   |zero=>exact .inr rfl
   |succ i=>cases e
 have c:b≠0:=λq=>by rw [q,h0]at s;cases s
 have V:Vw TP h2 (lpA (z ::l)) (λi=>if i=1 then b else i) (λ_=>none):=by
  refine⟨C,λi y e=>?_,λi j hi m e=>?_,λi j d hi m=>?_,(λk cs e=>by cases e),(λk cs i e=>by cases e),λq r=>?_⟩
  ·rcases u i ⟨_,e⟩with rfl|rfl
   ·obtain rfl:Blk.ro 256 d3=y:=by cases e;rfl
    exact⟨_,h0,.ro λj v e=>.flat (eX fD (by rw [ig];unfold bZ;omega) e)⟩
   ·obtain rfl:Blk.cells (cD (exL (z ::l))) (cM (exL (z ::l)) 0 .e) none false=y:=by cases e;rfl
    refine⟨_,s,.cells λj v m e=>?_⟩;rw [@cq noE]at m g;rw [@dz noE _ 0 .e j (by omega),if_pos (by omega),Nat.sub_zero]at e;exact⟨v,hc j v e,.pure (jb _ v (List.mem_of_getElem? e)).x⟩
  ·rcases u i hi with rfl|rfl<;>rcases u j m with rfl|rfl
   ·rfl
   ·exact absurd e.symm c
   ·exact absurd e c
   ·rfl
  ·rcases u i hi with rfl|rfl<;>rcases u j m with rfl|rfl
   ·exact d9 h0
   ·exact d9 h0
   ·exact o d
   ·exact f d
  ·have e:=l8.all q r
   have n:q.1=0:=by rw [jv]at r;rw [List.mem_singleton.1 r]
   rw [n]at e ⊢;exact⟨rfl,e⟩
 refine V.view (λid h=>by obtain rfl:id=0:=h;exact⟨⟨_,rfl⟩,rfl⟩) (.inl λ_=>rfl) ⟨λp a=>⟨p.2,(A.mem p a).1,.pure (A.mem p a).2⟩,λp a=>?_⟩;rcases List.mem_cons.1 a with rfl|a
 ·exact⟨_,by show lk ((t,_) ::tmp) t=_;rw [@dJ noE,if_pos rfl];rfl,@Rn.sl _ (λi=>if i=1 then b else i) _ 1 0 (l.length+1) 0 11 false ⟨_,rfl⟩⟩
 ·obtain⟨w,B⟩:=D.mem p a
  refine⟨p.2,?_,.pure B⟩;show lk ((t,_) ::tmp) p.1=_;rw [@dJ noE,if_neg (λq=>by
   have q:t=p.1:=q;rw [<-q,E]at w;cases w)]
  exact w
theorem oz{T:Ty}{K:Nat->Prop}{h:H}{t:Nat}{v:V}{loc tmp loc' tmp':AL}(a:iG loc loc')(b:iG tmp tmp')(_:lk tmp t=none):fy T K ⟨loc,(t,v) ::tmp⟩ h ⟨loc',(t,v) ::tmp'⟩ h:=by
 refine uE (λs u e=>?_) (λs u e=>?_)
 ·have:=a.mem _ (@mH noE _ _ _ e)
  exact this.1
 ·have e:lk ((t,v) ::tmp') s=some u:=e
  show lk ((t,v) ::tmp) s=some u;rw [@dJ noE]at e ⊢
  split at e
  ·rename_i q;rw [if_pos q];exact e
  ·rename_i q;rw [if_neg q];exact(b.mem _ (@mH noE _ _ _ e)).1
section
variable {P:Program} {call:cN} {loc tmp loc' tmp':AL} {l:List cj} {R:AL->H->Prop} {args:List Opd} {gd:Option (Opd×Bool)} {lo hi t:Nat}
theorem Hq{xs ys:List Ex}(s:xs.length+ys.length<=50000000)(m:iG loc loc')(o:iG tmp tmp')(p:lk tmp t=none):
  ∃v h2,yU 11 200 none (oA xs) (.lst ys.length 11 (exL ys)) (HA xs)=some (v,h2)/\fy TP Kp ⟨loc,(t,v) ::tmp⟩ h2 ⟨loc',(t,oA (xs++ys)) ::tmp'⟩ (HA (xs++ys)):=by
 cases ys with
 |nil=>
  rw [List.append_nil];cases xs with
  |nil=>exact⟨.nils,H0,by rw [exL];rfl,oz m o p⟩
  |cons x xs=>
   refine⟨oA (x ::xs),HA (x ::xs),?_,oz m o p⟩;rw [show exL ([]:List Ex)=[] by rw [exL]];have g:=tK x xs;have f:Nat.ble (Nat.add (x ::xs).length 0) (Nat.div (Nat.sub (cD (exL (x ::xs))) 0) 11)=true:=by
    rw [g];show Nat.ble (xs.length+1+0) (((xs.length+1)*11-0)/11)=true;rw [Nat.sub_zero,Nat.mul_div_cancel _ (by decide)];simp
   show(Bool.rec (motive:=λ_=>Option (V×H)) _ (some (V.sl 1 0 (Nat.add (x ::xs).length 0) 0 false 11,HA (x ::xs))) (Nat.ble (Nat.add (x ::xs).length 0) (Nat.div (Nat.sub (cD (exL (x ::xs))) 0) 11)):Option (V×H))=_;rw [f];rfl
 |cons y ys=>
  have c:=G6 (y ::ys);have b:=tK y ys;rw [List.length_cons]at s;have r:Nat.blt (Nat.mul (y ::ys).length 200) 1099511627776=true:=ltb (by show(ys.length+1)*200<_;omega);cases xs with
  |nil=>
   refine⟨.sl 1 0 (y ::ys).length 0 false 11,HA (y ::ys),?_,oz m o p⟩;have n:Nat.blt (cD (exL (y ::ys))) bZ=true:=ltb (by rw [b];unfold bZ;rw [List.length_nil]at s;omega);show oif (Nat.blt (Nat.mul (y ::ys).length 200) 1099511627776) (ob (H0.newCells (exL (y ::ys)) none) λh'=>some (V.sl 1 0 (y ::ys).length 0 false 11,h'))=_;rw [r];have:H0.newCells (exL (y ::ys)) none=some (HA (y ::ys)):=by
    show oif (cU (exL (y ::ys))) (oif (Nat.blt (cD (exL (y ::ys))) bZ) _)=_;rw [c,n];rfl
   rw [this];rfl
  |cons x xs=>
   rw [List.length_cons]at s;have g:=tK x xs;have f:Nat.ble (Nat.add (x ::xs).length (y ::ys).length) (Nat.div (Nat.sub (cD (exL (x ::xs))) 0) 11)=false:=by
    rw [g];show Nat.ble (xs.length+1+(ys.length+1)) (((xs.length+1)*11-0)/11)=false;rw [Nat.sub_zero,Nat.mul_div_cancel _ (by decide)];cases q:Nat.ble (xs.length+1+(ys.length+1)) (xs.length+1)with
    |false=>rfl
    |true=>have:=Nat.le_of_ble_eq_true q;omega
   have C:(Nat.beq (cD (exL (x ::xs))) (Nat.mul (x ::xs).length 11)&&Nat.beq 0 0)=true:=by
    rw [g];show(Nat.beq ((xs.length+1)*11) ((xs.length+1)*11)&&true)=true;simp
   have i:Nat.blt (Nat.mul (Nat.add (x ::xs).length (y ::ys).length) 200) 1099511627776=true:=ltb (by show(xs.length+1+(ys.length+1))*200<_;omega);have n:Nat.blt (Nat.add (cD (exL (x ::xs))) (cD (exL (y ::ys)))) bZ=true:=ltb (by rw [g,b];show(xs.length+1)*11+(ys.length+1)*11<bZ;unfold bZ;omega);have l:cD (exL (x ::xs++y ::ys))=Nat.add (cD (exL (x ::xs))) (cD (exL (y ::ys))):=by
    rw [@cq noE,@cq noE,@cq noE,eO,List.length_append];rfl
   refine⟨.sl 2 0 (Nat.add (x ::xs).length (y ::ys).length) 0 false 11,⟨((HA (x ::xs)).t.put 1 (some (.cells (cD (exL (x ::xs))) (cM (exL (x ::xs)) 0 .e) none true))).put 2 (some (.cells (Nat.add (cD (exL (x ::xs))) (cD (exL (y ::ys)))) (cM (exL (y ::ys)) (cD (exL (x ::xs))) (cM (exL (x ::xs)) 0 .e)) (some (1,0)) false)),3⟩,?_,?_⟩
   ·show(Bool.rec (motive:=λ_=>Option (V×H))
      (oif (Nat.beq (cD (exL (x ::xs))) (Nat.mul (x ::xs).length 11)&&Nat.beq 0 0) (oif (Nat.blt (Nat.mul (Nat.add (x ::xs).length (y ::ys).length) 200) 1099511627776)
       (ob (some (⟨(HA (x ::xs)).t.put 1 (some (.cells (cD (exL (x ::xs))) (cM (exL (x ::xs)) 0 .e) none true)),2⟩:H)) λh=>ob (h.shareNew 1 0 (cD (exL (x ::xs))) (cM (exL (x ::xs)) 0 .e) (exL (y ::ys))) λh'=>some (V.sl h.next 0 (Nat.add (x ::xs).length (y ::ys).length) 0 false 11,h'))))
      _ (Nat.ble (Nat.add (x ::xs).length (y ::ys).length) (Nat.div (Nat.sub (cD (exL (x ::xs))) 0) 11)):Option (V×H))=_
    rw [f,C,i];show ob (oif (cU (exL (y ::ys))) (oif (Nat.blt (Nat.add (cD (exL (x ::xs))) (cD (exL (y ::ys)))) bZ) _)) _=_;rw [c,n];rfl
   ·have w:Nat.add (x ::xs).length (y ::ys).length=(x ::xs++y ::ys).length:=by rw [List.length_append];rfl
    rw [w,<-l];have z:(2:Nat)<bZ:=by unfold bZ;omega
    have b1:∀(j:Nat) (A B:Option Blk),(⟨((HA (x ::xs)).t.put 1 A).put 2 B,3⟩:H).blk j=if j=2 then B else if j=1 then A else(HA (x ::xs)).blk j:=λj A B=>by
     show(((HA (x ::xs)).t.put 1 A).put 2 B).get j=_;rw [Tr.get_put _ _ _ _ z,Tr.get_put _ _ _ _ (by omega)];rfl
    refine DB m o p (by simp) (by rw [b1,if_neg (by decide),if_neg (by decide)];rfl) (by rw [b1,if_pos rfl]) (λd u=>?_) (λd u=>?_) (by rw [<-w];show xs.length+1+(ys.length+1)<=_;omega) (λj v e=>?_)
    ·cases u with
     |one e k=>
      rw [b1,if_pos rfl]at e;cases e;cases k
     |step e k u=>
      rw [b1,if_pos rfl]at e;cases e;cases k;cases u with
      |one e k=>rw [b1,if_neg (by decide),if_pos rfl]at e;cases e;cases k
      |step e k _=>rw [b1,if_neg (by decide),if_pos rfl]at e;cases e;cases k
    ·cases u with
     |one e k=>
      rw [b1,if_pos rfl]at e;cases e;cases k
     |step e k u=>
      rw [b1,if_pos rfl]at e;cases e;cases k;cases u with
      |one e k=>rw [b1,if_neg (by decide),if_pos rfl]at e;cases e;cases k
      |step e k _=>rw [b1,if_neg (by decide),if_pos rfl]at e;cases e;cases k
    ·rw [eO]at e
     have a:=Nat.le_of_ble_eq_true n;rw [@cq noE,@cq noE]at a;have a:(exL (x ::xs)).length+(exL (y ::ys)).length+1<=bZ:=a;have D:=(List.getElem?_eq_some_iff.1 e).1;rw [List.length_append]at D;rw [@cq noE,@dz noE _ _ _ j (by omega)]
     by_cases q:j<(exL (x ::xs)).length
     ·rw [if_neg (by omega),@dz noE _ 0 .e j (by omega),if_pos (by omega),Nat.sub_zero]
      rw [List.getElem?_append_left q]at e;exact e
     ·rw [if_pos (by omega)]
      rw [List.getElem?_append_right (by omega)]at e;exact e
theorem aZ{xs ys:List Ex}(c:cm ⟨loc,tmp⟩ gd=some true)(b:evs ⟨loc,tmp⟩ args=some [oA xs,.lst ys.length 11 (exL ys)])(d:xs.length+ys.length<=50000000)(a:iG loc loc')(g:iG tmp tmp')(h:lk tmp t=none)
  (k:WL Tryz.prog TP Kp call l loc' ((t,oA (xs++ys)) ::tmp') (HA (xs++ys)) R):WL Tryz.prog TP Kp call (⟨.t t,.e (.append 11 200 none),args,gd,lo,hi⟩ ::l) loc tmp (HA xs) R:=by
 obtain⟨v,h2,i,f⟩:=Hq d a g h;exact aK c b i rfl ⟨bN f k.out⟩
theorem LU(x:Ex):exL [x]=exO x++[]:=by rw [cV,exL]
theorem bF{xs:List Ex}{y:Ex}(c:cm ⟨loc,tmp⟩ gd=some true)(a:evs ⟨loc,tmp⟩ args=some [oA xs,.lst 1 11 (exO y++[])])(d:xs.length+1<=50000000)(b:iG loc loc')(f:iG tmp tmp')(g:lk tmp t=none)
  (k:WL Tryz.prog TP Kp call l loc' ((t,oA (xs++[y])) ::tmp') (HA (xs++[y])) R):WL Tryz.prog TP Kp call (⟨.t t,.e (.append 11 200 none),args,gd,lo,hi⟩ ::l) loc tmp (HA xs) R:=by
 rw [<-LU]at a;exact aZ (ys:=[y]) c a d b f g k
end
theorem DA{xs:List Ex}{f:F}{t:Nat}(e:lk f.loc t=some (oA xs))(I:xs.length<=50000000):fy TP Kp f (HA xs) ⟨[(t,.lst xs.length 11 (exL xs))],[]⟩ H0:=by
 cases xs with
 |nil=>
  intro m N E0 g0 w0 E g w tmps s fr;refine⟨E,g,s,⟨fr.1,λi v h=>?_⟩,λid b o z h=>⟨id,o,z,h⟩⟩;unfold rdn at h
  split at h
  ·rename_i n
   have h:lk [(t,V.lst 0 11 (exL []))] i=some v:=h
   by_cases q:t=i
   ·subst q
    have h2:lk [(t,V.lst 0 11 (exL []))] t=some (V.lst 0 11 (exL [])):=by rw [@dJ noE,if_pos rfl]
    obtain rfl:V.lst 0 11 (exL [])=v:=Option.some.inj (h2.symm.trans h);obtain⟨u,J,D⟩:=fr.2 t .nils (by unfold rdn;rw [if_pos n];exact e);refine⟨u,J,?_⟩;cases D;rw [show exL ([]:List Ex)=[] by rw [exL]];exact @VR.lst0 E g 11
   ·rw [@dJ noE,if_neg q]at h
    cases h
  ·cases h
 |cons x l=>
  have a:=tK x l;have A:cD (exL (x ::l))<=bZ:=by rw [a];rw [List.length_cons]at I;unfold bZ;omega
  have hz:(HA (x ::l)).blk 1=some (.cells (cD (exL (x ::l))) (cM (exL (x ::l)) 0 .e) none false):=rfl;have n:(HA (x ::l)).blk 0=some (.ro 256 d3):=rfl;have V:Vw TP (HA (x ::l)) lp0 (λi=>i) (λj=>if j=1 then some (exL (x ::l))else none):=by
   have r:∀i,cY lp0 i->i=0:=λi ⟨b,e⟩=>by
    cases i with
    |zero=>rfl
    |succ i=>cases e
   refine⟨l8.len,λi C e=>?_,λi j _ _ e=>e,λi j d hi _=>?_,λj cs' e _=>?_,λj cs' i e hi=>?_,λq G=>⟨rfl,l8.all q G⟩⟩
   ·obtain rfl:=r i ⟨_,e⟩
    obtain rfl:Blk.ro 256 d3=C:=by cases e;rfl
    exact⟨_,n,.ro λj v e=>.flat (eX fD (by rw [ig];unfold bZ;omega) e)⟩
   ·rw [r i hi]
    exact d9 n
   ·by_cases q:j=1
    ·subst q
     rw [if_pos rfl]at e;cases e;refine⟨_,_,_,by rw [<-@cq noE];exact hz,λi v B=>?_⟩;have:=(List.getElem?_eq_some_iff.1 B).1;rw [@cq noE]at A;rw [@dz noE _ 0 .e i (by omega),if_pos (by omega),Nat.sub_zero];exact B
    ·rw [if_neg q]at e;cases e
   ·obtain rfl:=r i hi
    by_cases q:j=1
    ·subst q
     exact⟨by decide,λd=>d9 n,λd u=>by
      cases u with
      |one e' k'=>rw [hz]at e';cases e';cases k'
      |step e' k' _=>rw [hz]at e';cases e';cases k'⟩
    ·rw [if_neg q]at e;cases e
  refine V.view (λid h=>by obtain rfl:id=0:=h;exact⟨⟨_,rfl⟩,rfl⟩) (.inr pn) ⟨λp y=>?_,λp y=>by cases y⟩;obtain rfl:=List.mem_singleton.1 y;exact⟨_,e,.fzs (k:=1) (by rw [if_pos rfl]) (by rw [mK]) (RnL.pure λc hc=>(jb _ c hc).x)⟩
end
section
theorem pR{f:FuncId} {fn:Func} {cf:CF} (hfn:Tryz.prog.funcs[f]? =some fn) (hnm:fn.name≠ "runtime.NumGoroutine") (hcf:ci TP fn=some cf) {vs:List V} (hlen:vs.length=cf.params) (hvs:∀v,v∈vs->bY v) {t:Nat} (hres:cf.results=[.tmp (.l t)]) {Q:List Ex->Prop} {loc:AL} (hn:mY vs 0=some loc)
  (k:WC Tryz.prog TP Kp ft 1 cf.code loc H0 λx loc h=>(x= .norm\/x= .ret)/\∃xs,Q xs/\lk loc t=some (oA xs)/\h=HA xs/\xs.length<=50000000):∃xs,Q xs/\CP f vs (.lst xs.length 11 (exL xs)):=by
 have hW:W Tryz.prog TP Kp ft 1 cf.code ⟨d8 vs 0,[]⟩ H0 λx f1 h1=>(x= .norm\/x= .ret)/\∃l,ip f1 h1 cf.results=some l/\bY (dq l)/\∃xs,Q xs/\dq l= .lst xs.length 11 (exL xs):=by
  rw [pD hn];refine W.viewX (W.mono k.out λx f1 h1 q=>?_);obtain⟨_,q1,xs,q2,q3,rfl,q5⟩:=q;refine⟨_,_,DA q3 q5,q1,[.lst xs.length 11 (exL xs)],?_,pxE xs,xs,q2,rfl⟩;rw [hres];show ob (lk [(t,V.lst xs.length 11 (exL xs))] t) (λv=>ob (some []) λvs=>some (v ::vs))=_;rw [@dJ noE,if_pos rfl];rfl
 obtain⟨v,c,xs,q,rfl⟩:=sf (R:=λv=>∃xs,Q xs/\v= .lst xs.length 11 (exL xs)) hfn hnm hcf hlen hvs hW;exact⟨xs,q,c⟩
def cI:List Sm->List Ex
 |[]=>[]
 |s ::l=>(if s.isMatch then [s.pat,s.val]else [s.val])++cI l
def gdK:List (List Ex)->List Ex
 |[]=>[]
 |g ::l=>g++gdK l
def clK:List Cl->List Ex
 |[]=>[]
 |c ::l=>(c.pats++(gdK c.guards++cI c.body))++clK l
def fX:List Sg->List Ex
 |[]=>[]
 |s ::l=>((if s.type=4 then []else [s.val])++(if s.sized then [s.size]else []))++fX l
theorem sy{α:Type}{f:α->List Ex}{g:List α->List Ex}(hn:g []=[])(hc:∀a l,g (a ::l)=f a++g l):∀(l:List α) (i:Nat) (x:α),l[i]? =some x->g (l.take (i+1))=g (l.take i)++f x
 |[],i,x,h=>by simp at h
 |a ::l,0,x,h=>by
  simp at h;subst h;simp only [List.take_succ_cons,List.take_zero];rw [hc,hn];simp
 |a ::l,i+1,x,h=>by
  have:=sy hn hc l i x (by simpa using h);rw [List.take_succ_cons,List.take_succ_cons,hc,hc,this,List.append_assoc]
theorem t6{l:List Sm}{i:Nat}(h:i<l.length):cI (l.take (i+1))=cI (l.take i)++(if(cK l i).isMatch then [(cK l i).pat,(cK l i).val]else [(cK l i).val]):=sy (f:=λs=>if s.isMatch then [s.pat,s.val]else [s.val]) rfl (λ_ _=>rfl) l i _ (cP (ltb h))
theorem Fy{l:List Cl}{i:Nat}(h:i<l.length):clK (l.take (i+1))=clK (l.take i)++((bV l i).pats++(gdK (bV l i).guards++cI (bV l i).body)):=sy (f:=λc=>c.pats++(gdK c.guards++cI c.body)) rfl (λ_ _=>rfl) l i _ (cP (ltb h))
theorem ER{l:List (List Ex)}{i:Nat}(h:i<l.length):gdK (l.take (i+1))=gdK (l.take i)++dm l i:=sy (f:=λg=>g) rfl (λ_ _=>rfl) l i _ (cP (d:=[]) (ltb h))
theorem nR{l:List Sg}{i:Nat}(h:i<l.length):fX (l.take (i+1))=fX (l.take i)++((if(cG l i).type=4 then []else [(cG l i).val])++(if(cG l i).sized then [(cG l i).size]else [])):=sy (f:=λs=>(if s.type=4 then []else [s.val])++(if s.sized then [s.size]else [])) rfl (λ_ _=>rfl) l i _ (cP (ltb h))
theorem iM(x:Ex):11<=bS (exO x):=by rw [dZ];omega
theorem ib:∀l,bS (exL (cI l))<=bS (smL l)
 |[]=>by rw [cI,exL];simp [bS]
 |s ::l=>by
  have ih:=ib l;rw [cI,eO,cy,fE,cy,nj]
  split
  ·rw [E7,cy,cy,bS];omega
  ·rw [cV,exL,cy,bS];omega
theorem z7:∀l,bS (exL (gdK l))<=bS (gdL l)
 |[]=>by rw [gdK,exL];simp [bS]
 |g ::l=>by
  have ih:=z7 l;have:bS (gdL (g ::l))=(1+bS (exL g))+bS (gdL l):=by
   rw [gdL];simp [bS,szV]
  rw [gdK,eO,cy,this];omega
theorem iP:∀l,bS (exL (clK l))<=bS (clL l)
 |[]=>by rw [clK,exL];simp [bS]
 |c ::l=>by
  have ih:=iP l;have h1:=z7 c.guards;have h2:=ib c.body;rw [clK,eO,eO,eO,cy,cy,cy,fj,cy,gM];omega
theorem pj:∀l,bS (exL (fX l))<=bS (sgL l)
 |[]=>by rw [fX,exL];simp [bS]
 |s ::l=>by
  have ih:=pj l;have e1:bS (exL (if s.type=4 then []else [s.val]))<=bS (exO s.val):=by
   split
   ·rw [exL];simp [bS]
   ·rw [cV,exL,cy,bS];omega
  have a:bS (exL (if s.sized then [s.size]else []))<=bS (exO s.size):=by
   split
   ·rw [cV,exL,cy,bS];omega
   ·rw [exL];simp [bS]
  rw [fX,eO,eO,cy,cy,fI,cy,lR];omega
theorem j6(x:Ex):∀c,c∈exO x++[]->bY c:=by
 rw [List.append_nil];exact λc hc=>(dQ _ c hc).x
theorem jV{α:Type}{f:α->List V}{g:List α->List V}(hn:g []=[])(hc:∀a l,g (a ::l)=f a++g l):∀(l:List α) (i:Nat),bS (g (l.take i))<=bS (g l)
 |[],i=>by simp
 |a ::l,0=>by simp [hn,bS]
 |a ::l,i+1=>by
  have:=jV hn hc l i;rw [List.take_succ_cons,hc,hc,cy,cy];omega
theorem vI(l:List Sm)(i:Nat):bS (smL (l.take i))<=bS (smL l):=jV (by rw [smL]) fE l i
theorem mL(l:List Cl)(i:Nat):bS (clL (l.take i))<=bS (clL l):=jV (by rw [clL]) fj l i
theorem pe(l:List Sg)(i:Nat):bS (sgL (l.take i))<=bS (sgL l):=jV (by rw [sgL]) fI l i
theorem wq(l:List (List Ex))(i:Nat):bS (gdL (l.take i))<=bS (gdL l):=jV (f:=λx=>[V.lst x.length 11 (exL x)]) (by rw [gdL]) (λa l=>by first|(rw [gdL];done)|(rw [gdL];rfl)) l i
noncomputable section
def fr42(l:List Sm)(xs:List Ex)(i:Nat):AL:=[(0,.lst l.length 23 (smL l)),(3,oA xs),(4,.int .i64 (Int.ofNat i))]
end
set_option maxHeartbeats 4000000 in
theorem f42(l:List Sm)(n:bS (smL l)<=6000000):CP 42 [.lst l.length 23 (smL l)] (.lst (cI l).length 11 (exL (cI l))):=by
 obtain⟨xs,rfl,c⟩:∃xs,xs=cI l/\CP 42 [.lst l.length 23 (smL l)] (.lst xs.length 11 (exL xs)):=by
  refine pR Tryz.func42 (by decide) q42.2 rfl (cg (pxM l) px0) rfl rfl ?_;have k:=iJ l
  repeat' (first
   |apply ab|apply ae|apply aa|apply ai|refine ac ?_|apply thN)
  refine az (cA (l:=fr42 l [] 0) KH) ?_;refine aA l.length (λi x h=>∃xs,xs=cI (l.take i)/\x=fr42 l xs i/\h=HA xs) ?_ (i:=0) (Nat.zero_le _) ⟨[],rfl,rfl,rfl⟩;rintro i _ _ hi ⟨xs,b,rfl,rfl⟩;have hi2:i<9223372036854775807:=by omega
  have j:xs.length<=6000000:=by
   have h1:=ib (l.take i);have h2:=vI l i;have m:=dT xs;rw [<-b]at h1;omega
  have f:xs.length+1<=50000000:=by omega
  have g:(xs++[(cK l i).pat]).length+1<=50000000:=by rw [List.length_append];simp;omega
  repeat' (first
   |apply ab|apply ae|apply aa|apply ai|apply ak|refine ah rfl (λd=>?_) (λd=>?_)|apply ax|apply am|apply thN|apply thE|refine ac ?_|refine av rfl rfl (ce Hy) rfl ?_|refine ap rfl rfl (dw Hy rfl) rfl ?_|refine ap rfl rfl (dv Hy rfl) rfl ?_|refine ap rfl rfl (jG Hy rfl) rfl ?_|refine aX (cs:=exO (cK l i).pat++[]) rfl rfl rfl rfl rfl rfl (j6 (cK l i).pat) rfl ?_|refine aX (cs:=exO (cK l i).val++[]) rfl rfl rfl rfl rfl rfl (j6 (cK l i).val) rfl ?_|refine bF (y:=(cK l i).pat) rfl rfl Hy KP KP rfl ?_|refine bF (y:=(cK l i).val) rfl rfl Hy KP KP rfl ?_|apply onE)
  ·have a:=bX Hy
   exact .norm ⟨_,_,cA KH,a,_,by rw [t6 a,d,b,List.append_assoc];rfl,rfl,rfl⟩
  ·have a:=bX Hy
   exact .norm ⟨_,_,cA KH,a,_,by rw [t6 a,d,b];rfl,rfl,rfl⟩
  ·have e:i=l.length:=by have:=cC d;omega
   exact⟨.inr rfl,_,by rw [b,e,List.take_length],rfl,rfl,by omega⟩
 exact c
noncomputable section
def fr23(l:List Cl)(xs:List Ex)(i:Nat):AL:=[(0,.lst l.length 4 (clL l)),(3,oA xs),(4,.int .i64 (Int.ofNat i))]
def fr23g(l:List Cl)(xs:List Ex)(i k:Nat):AL:=[(0,.lst l.length 4 (clL l)),(3,oA xs),(4,.int .i64 (Int.ofNat i)),(5,.int .i64 (Int.ofNat k))]
end
theorem iA(l:List Ex)(n:Nat)(h:bS (exL l)<=n):l.length<=n:=Nat.le_trans (dT l) h
set_option maxHeartbeats 4000000 in
theorem f23(l:List Cl)(C:bS (clL l)<=6000000):CP 23 [.lst l.length 4 (clL l)] (.lst (clK l).length 11 (exL (clK l))):=by
 obtain⟨xs,rfl,c⟩:∃xs,xs=clK l/\CP 23 [.lst l.length 4 (clL l)] (.lst xs.length 11 (exL xs)):=by
  refine pR Tryz.func23 (by decide) q23.2 rfl (cg (pxC l) px0) rfl rfl ?_;have B:=fR l
  repeat' (first
   |apply ab|apply ae|apply aa|apply ai|refine ac ?_|apply thN)
  refine az (cA (l:=fr23 l [] 0) KH) ?_;refine aA l.length (λi x h=>∃xs,xs=clK (l.take i)/\x=fr23 l xs i/\h=HA xs) ?_ (i:=0) (Nat.zero_le _) ⟨[],rfl,rfl,rfl⟩;rintro i _ _ hi ⟨xs,d,rfl,rfl⟩;have hi2:i<9223372036854775807:=by omega
  have v:xs.length<=6000000:=by
   have h1:=iP (l.take i);have h2:=mL l i;rw [<-d]at h1;exact iA _ _ (by omega)
  have m:i<l.length->xs.length+(bV l i).pats.length<=50000000:=λh=>by
   have:=oh (ltb h);have:=gM (bV l i);have:=iA (bV l i).pats 6000000 (by omega);omega
  repeat' (first
   |apply ab|apply ae|apply aa|apply ai|apply ak|refine ah rfl (λf=>?_) (λf=>?_)|apply ax|apply am|apply thN|apply thE|refine ac ?_|refine av rfl rfl (ce Hy) rfl ?_|refine ap rfl rfl (dy Hy rfl) rfl ?_|refine aZ (ys:=(bV l i).pats) rfl rfl (m (bX Hy)) KP KP rfl ?_|apply onE)
  ·have b:=bX f
   have p:=ltb b;have w:=oh p;have q:=gM (bV l i);have z:=iA (bV l i).pats 6000000 (by omega);have t:=j0 (bV l i).guards;refine az (cA (l:=fr23g l (xs++(bV l i).pats) i 0) KH) ?_;refine aA (bV l i).guards.length (λk x h=>∃zs,zs=(xs++(bV l i).pats)++gdK ((bV l i).guards.take k)/\x=fr23g l zs i k/\h=HA zs) ?_ (i:=0) (Nat.zero_le _) ⟨_,by simp [gdK],rfl,rfl⟩;rintro k _ _ A ⟨zs,e,rfl,rfl⟩;have r:k<9223372036854775807:=by omega
   have s:zs.length<=18000000:=by
    have h1:=z7 ((bV l i).guards.take k);have h2:=wq (bV l i).guards k;have y:=iA _ 6000000 (show bS (exL (gdK ((bV l i).guards.take k)))<=6000000 by omega);rw [e,List.length_append,List.length_append];omega
   have g:k<(bV l i).guards.length->zs.length+(dm (bV l i).guards k).length<=50000000:=λh=>by
    have:=tq (ltb h);have:=iA (dm (bV l i).guards k) 6000000 (by omega);omega
   have u:(cI (bV l i).body).length<=6000000:=iA _ _ (by have:=ib (bV l i).body;omega)
   repeat' (first
    |apply ab|apply ae|apply aa|apply ai|apply ak|refine ah rfl (λf=>?_) (λf=>?_)|apply ax|apply thN|apply thE|refine ac ?_|refine av rfl rfl (ce Hy) rfl ?_|refine aG (dy p rfl) ?_|refine ap rfl rfl (dY (j:=0) (nD Hy) rfl _) rfl ?_|refine aL rfl rfl rfl (f42 (bV l i).body (by omega)) rfl ?_|refine aZ (ys:=(dm (bV l i).guards k)) rfl rfl (g (bX Hy)) KP KP rfl ?_|refine aZ (ys:=(cI (bV l i).body)) rfl rfl (by omega) KP KP rfl ?_|apply onE)
   ·have a:=bX (by assumption:ltI (Int.ofNat k) (Int.ofNat (bV l i).guards.length)=true)
    exact .norm ⟨_,_,cA KH,a,_,by rw [ER a,e,List.append_assoc],rfl,rfl⟩
   ·have o:k=(bV l i).guards.length:=by have:=cC (by assumption:ltI (Int.ofNat k) (Int.ofNat (bV l i).guards.length)=false);omega
    exact .norm ⟨_,_,cA KH,b,_,by rw [Fy b,e,o,List.take_length,d];simp only [List.append_assoc],rfl,rfl⟩
  ·have n:i=l.length:=by have:=cC f;omega
   exact⟨.inr rfl,_,by rw [d,n,List.take_length],rfl,rfl,by omega⟩
 exact c
end
section
def parts(x:Ex):List Ex:=
 if x.kind=17 then clK x.clauses++x.items++cI x.after
 else if x.kind=8 then fX x.segs
 else x.items++cI x.body++clK x.clauses++clK x.catches++cI x.after
theorem iF{a b:Int}(h:eqI a b=true):a=b:=by rw [jc]at h;simpa using h
theorem vq{a b:Int}(h:eqI a b=false):a≠b:=by rw [jc]at h;simpa using h
theorem HT{a b:Int}(h:(!eqI a b)=true):a≠b:=vq (by cases q:eqI a b with|true=>rw [q]at h;cases h|false=>rfl)
theorem sY{a b:Int}(h:(!eqI a b)=false):a=b:=iF (by cases q:eqI a b with|true=>rfl|false=>rw [q]at h;cases h)
noncomputable section
def fr44(x:Ex)(xs:List Ex)(i:Nat):AL:=[(1,.eptr (exO x) 0),(3,oA xs),(4,.int .i64 (Int.ofNat i))]
end
set_option maxHeartbeats 4000000 in
theorem f44(x:Ex)(u:bS (exO x)<=6000000):CP 44 [.agg (exO x)] (.lst (parts x).length 11 (exL (parts x))):=by
 obtain⟨xs,rfl,c⟩:∃xs,xs=parts x/\CP 44 [.agg (exO x)] (.lst xs.length 11 (exL xs)):=by
  refine pR Tryz.func44 (by decide) q44.2 rfl (cg (pxe x) px0) rfl rfl ?_;have n:=dZ x;have v:(clK x.clauses).length<=6000000:=iA _ _ (by have:=iP x.clauses;omega);have t:(clK x.catches).length<=6000000:=iA _ _ (by have:=iP x.catches;omega);have p:(cI x.body).length<=6000000:=iA _ _ (by have:=ib x.body;omega);have q:(cI x.after).length<=6000000:=iA _ _ (by have:=ib x.after;omega);have s:x.items.length<=6000000:=iA _ _ (by omega);have c1:=f23 x.clauses (by omega);have c2:=f23 x.catches (by omega);have c3:=f42 x.body (by omega);have c4:=f42 x.after (by omega)
  repeat' (first
   |apply ab|apply ae|apply aa|apply ai|apply ak|refine ah rfl (λe=>?_) (λe=>?_)|apply am|apply thN|refine ac ?_|refine au ?_|refine aE ?_|refine ay c1 ?_|refine ay c2 ?_|refine ay c3 ?_|refine ay c4 ?_|refine aZ (xs:=[]) (ys:=clK x.clauses) rfl rfl (by simp;omega) KP KP rfl ?_|refine aZ (xs:=[]) (ys:=x.items) rfl rfl (by simp;omega) KP KP rfl ?_|refine aZ (ys:=x.items) rfl rfl (by simp only [List.length_append,List.length_nil];omega) KP KP rfl ?_|refine aZ (ys:=cI x.after) rfl rfl (by simp only [List.length_append,List.length_nil];omega) KP KP rfl ?_|refine aZ (ys:=cI x.body) rfl rfl (by simp only [List.length_append,List.length_nil];omega) KP KP rfl ?_|refine aZ (ys:=clK x.clauses) rfl rfl (by simp only [List.length_append,List.length_nil];omega) KP KP rfl ?_|refine aZ (ys:=clK x.catches) rfl rfl (by simp only [List.length_append,List.length_nil];omega) KP KP rfl ?_|apply thR)
  ·have k:=iF e
   refine⟨.inr rfl,_,?_,rfl,rfl,by simp only [List.length_append,List.length_nil];omega⟩;rw [parts,if_pos k,List.nil_append]
  ·rename_i d
   have k:=vq d;have g:=iF e;have hs:=iA (fX x.segs) 6000000 (by have:=pj x.segs;omega);have r:=jW x.segs;refine az (cA (l:=fr44 x [] 0) KH) ?_;refine aA x.segs.length (λi y h=>∃xs,xs=fX (x.segs.take i)/\y=fr44 x xs i/\h=HA xs) ?_ (i:=0) (Nat.zero_le _) ⟨[],rfl,rfl,rfl⟩;rintro i _ _ hi ⟨xs,b,rfl,rfl⟩;have hi2:i<9223372036854775807:=by omega
   have o:xs.length<=6000000:=by
    have h1:=pj (x.segs.take i);have h2:=pe x.segs i;rw [<-b]at h1;exact iA _ _ (by omega)
   repeat' (first
    |apply ab|apply ae|apply aa|apply ai|apply ak|refine ah rfl (λe=>?_) (λe=>?_)|apply ax|apply am|apply thN|apply thR|apply thE|refine ac ?_|refine av rfl rfl (ce Hy) rfl ?_|refine ap rfl rfl (dC Hy rfl) rfl ?_|refine ap rfl rfl (dc Hy rfl) rfl ?_|refine ap rfl rfl (iS Hy rfl) rfl ?_|refine au ?_|refine aX (cs:=exO (cG x.segs i).val++[]) rfl rfl rfl rfl rfl rfl (j6 (cG x.segs i).val) rfl ?_|refine aX (cs:=exO (cG x.segs i).size++[]) rfl rfl rfl rfl rfl rfl (j6 (cG x.segs i).size) rfl ?_|refine bF (y:=(cG x.segs i).val) rfl rfl (by omega) KP KP rfl ?_|refine bF (y:=(cG x.segs i).size) rfl rfl (by omega) KP KP rfl ?_|refine bF (y:=(cG x.segs i).size) rfl rfl (by simp only [List.length_append,List.length_cons,List.length_nil];omega) KP KP rfl ?_|apply onE)
   ·rename_i f j
    have a:=bX f;exact .norm ⟨_,_,cA KH,a,_,by rw [nR a,if_neg (HT j),if_pos e,b,List.append_assoc],rfl,rfl⟩
   ·rename_i f j
    have a:=bX f;exact .norm ⟨_,_,cA KH,a,_,by rw [nR a,if_neg (HT j),if_neg (by rw [e];decide),b,List.append_nil],rfl,rfl⟩
   ·rename_i f j
    have a:=bX f;exact .norm ⟨_,_,cA KH,a,_,by rw [nR a,if_pos (sY j),if_pos e,b,List.nil_append],rfl,rfl⟩
   ·rename_i f j
    have a:=bX f;exact .norm ⟨_,_,cA KH,a,_,by rw [nR a,if_pos (sY j),if_neg (by rw [e];decide),b,List.append_nil,List.append_nil],rfl,rfl⟩
   ·have m:i=x.segs.length:=by have:=cC e;omega
    exact⟨.inr rfl,_,by rw [parts,if_neg k,if_pos g,b,m,List.take_length],rfl,rfl,by omega⟩
  ·rename_i d
   have k:=vq d;have g:=vq e;refine⟨.inr rfl,_,?_,rfl,rfl,by simp only [List.length_append,List.length_nil];omega⟩;rw [parts,if_neg k,if_neg g,List.nil_append]
 exact c
theorem jF(x:Ex):bS (exL (parts x))+11<=bS (exO x):=by
 have a:=dZ x;have h1:=iP x.clauses;have h2:=iP x.catches;have b:=ib x.body;have c:=ib x.after;have d:=pj x.segs;unfold parts
 split
 ·simp only [eO,cy];omega
 ·split
  ·omega
  ·simp only [eO,cy];omega
theorem jo{l:List Ex}{y:Ex}(h:y∈l):bS (exO y)<=bS (exL l):=by
 induction l with
 |nil=>cases h
 |cons a l ih=>
  rw [cV,cy];rcases List.mem_cons.1 h with rfl|h
  ·omega
  ·have:=ih h;omega
theorem l9{x y:Ex}(h:y∈parts x):bS (exO y)<bS (exO x):=by
 have:=jo h;have:=jF x;omega
def cnt(x:Ex):Nat:=1+((parts x).attach.map λy=>cnt y.1).sum
termination_by bS (exO x)
decreasing_by exact l9 y.2
def dep(x:Ex):Nat:=1+((parts x).attach.map λy=>dep y.1).foldl max 0
termination_by bS (exO x)
decreasing_by exact l9 y.2
theorem Fr(x:Ex):cnt x=1+((parts x).map cnt).sum:=by
 rw [cnt,List.attach_map_val (l:=parts x) (f:=cnt)]
theorem Fh(x:Ex):dep x=1+((parts x).map dep).foldl max 0:=by
 rw [dep,List.attach_map_val (l:=parts x) (f:=dep)]
theorem lG{f:Ex->Nat}:∀{l:List Ex},(∀y,y∈l->f y<=bS (exO y))->(l.map f).sum<=bS (exL l)
 |[],_=>by simp
 |a ::l,h=>by
  have h1:=h a List.mem_cons_self;have h2:=lG (l:=l) λy hy=>h y (List.mem_cons_of_mem _ hy);rw [cV,cy,List.map_cons,List.sum_cons];omega
theorem wH(x:Ex):cnt x<=bS (exO x):=by
 have key:∀n (x:Ex),bS (exO x)<=n->cnt x<=bS (exO x):=by
  intro n
  induction n with
  |zero=>intro x h;have:=iM x;omega
  |succ n ih=>
   intro x h;rw [Fr];have:=lG (f:=cnt) (l:=parts x) λy a=>ih y (by have:=l9 a;omega);have:=jF x;omega
 exact key _ x (Nat.le_refl _)
theorem max_le{f:Ex->Nat}{b:Nat}:∀{l:List Ex} {a:Nat},a<=b->(∀y,y∈l->f y<=b)->(l.map f).foldl max a<=b
 |[],_,h,_=>h
 |x ::l,_,h,k=>max_le (l:=l) (Nat.max_le.2 ⟨h,k x List.mem_cons_self⟩) λy hy=>k y (List.mem_cons_of_mem _ hy)
theorem Ji(x:Ex):dep x<=bS (exO x):=by
 have key:∀n (x:Ex),bS (exO x)<=n->dep x<=bS (exO x):=by
  intro n
  induction n with
  |zero=>intro x h;have:=iM x;omega
  |succ n ih=>
   intro x h;rw [Fh];have:=jF x;have:=max_le (f:=dep) (l:=parts x) (a:=0) (b:=bS (exO x)-11) (Nat.zero_le _) λy c=>by
    have h1:=ih y (by have:=l9 c;omega);have h2:=jo c;omega
   have:=iM x;omega
 exact key _ x (Nat.le_refl _)
end
end Ev
end Go.Proofs.YtdfphfdnoobikaaGreatDoor
