/-
  Modules;the reference's SmallModule.
-/
import Derived.Test.YtdfphfdnoobikaaGreatDoorLtFields
namespace Go.Proofs.YtdfphfdnoobikaaGreatDoor
namespace Ev
section
structure Fu where
 name:ByteArray
 arity:Int
 clauses:List Cl
structure Sn where
 name:ByteArray
 arity:Int
structure Md where
 name:ByteArray
 vsn:Int
 exports:List Sn
 funcs:List Fu
noncomputable section
def fuO(f:Fu):List V:=[sV f.name,.int .i64 f.arity,.lst f.clauses.length 4 (clL f.clauses)]
def snO(s:Sn):List V:=[sV s.name,.int .i64 s.arity]
def fuL:List Fu→List V
 |[]=>[]
 |f ::l=>fuO f++fuL l
def snL:List Sn→List V
 |[]=>[]
 |f ::l=>snO f++snL l
def mdO(m:Md):List V:=[sV m.name,.int .i64 m.vsn,.lst m.exports.length 2 (snL m.exports),.lst m.funcs.length 3 (fuL m.funcs)]
def fu0:Fu:=⟨⟨#[]⟩,0,[]⟩
def sn0:Sn:=⟨⟨#[]⟩,0⟩
def cJ(l:List Fu)(i:Nat):Fu:=(l[i]?).getD fu0
def dz(l:List Sn)(i:Nat):Sn:=(l[i]?).getD sn0
end
theorem pG{α:Type}{f:α→List V}{g:List α→List V}{n:Nat}(hc:∀a l,g (a ::l)=f a++g l)(hl:∀a,(f a).length=n):∀(l:List α) (i:Nat) (x:α),l[i]? =some x→∃a b,g l=a++(f x++b)∧a.length=Nat.mul i n
 |[],i,x,h=>by simp at h
 |a ::l,0,x,h=>by
  simp at h
  subst h
  exact⟨[],g l,by rw [hc];rfl,by simp⟩
 |a ::l,i+1,x,h=>by
  obtain⟨p,q,e,k⟩:=pG hc hl l i x (by simpa using h)
  refine⟨f a++p,q,by rw [hc,e,List.append_assoc],?_⟩
  rw [List.length_append,hl,k]
  show n+i*n=(i+1)*n
  rw [Nat.add_mul,Nat.one_mul,Nat.add_comm]
theorem DT{l:List Fu}{i:Nat}(h:Nat.blt i l.length=true):∃a b,fuL l=a++(fuO (cJ l i)++b)∧a.length=Nat.mul i 3:=pG (g:=fuL) (f:=fuO) (n:=3) (fun _ _=>rfl) (fun _=>rfl) l i _ (cV (d:=fu0) h)
theorem DI{l:List Sn}{i:Nat}(h:Nat.blt i l.length=true):∃a b,snL l=a++(snO (dz l i)++b)∧a.length=Nat.mul i 2:=pG (g:=snL) (f:=snO) (n:=2) (fun _ _=>rfl) (fun _=>rfl) l i _ (cV (d:=sn0) h)
theorem DS{l:List Fu}{i:Nat}(h:Nat.blt i l.length=true):eY (fuL l) (Nat.mul i 3) (fuO (cJ l i)):=by obtain⟨a,b,e,k⟩:=DT h;exact .of e k
theorem DH{l:List Sn}{i:Nat}(h:Nat.blt i l.length=true):eY (snL l) (Nat.mul i 2) (snO (dz l i)):=by obtain⟨a,b,e,k⟩:=DI h;exact .of e k
theorem oK{l:List Fu}{i:Nat}(h:Nat.blt i l.length=true):bF (fuO (cJ l i))≤bF (fuL l):=by obtain⟨a,b,e,_⟩:=DT h;exact pR e
theorem Fk{l:List Sn}{i:Nat}(h:Nat.blt i l.length=true):bF (snO (dz l i))≤bF (snL l):=by obtain⟨a,b,e,_⟩:=DI h;exact pR e
theorem iN(f:Fu):bF (fuO f)=(f.name.size+1)+(1+(1+bF (clL f.clauses))):=rfl
theorem Ar(s:Sn):bF (snO s)=(s.name.size+1)+1:=rfl
theorem mU(m:Md):bF (mdO m)=(m.name.size+1)+(1+((1+bF (snL m.exports))+(1+bF (fuL m.funcs)))):=rfl
theorem Bv{l:List Fu}{i:Nat}(h:i<l.length):bF (fuL (l.take (i+1)))=bF (fuL (l.take i))+bF (fuO (cJ l i)):=ir rfl (fun _ _=>rfl) l i _ (cV (d:=fu0) (ltb h))
theorem Ei{l:List Sn}{i:Nat}(h:i<l.length):bF (snL (l.take (i+1)))=bF (snL (l.take i))+bF (snO (dz l i)):=ir rfl (fun _ _=>rfl) l i _ (cV (d:=sn0) (ltb h))
theorem mY(l:List Fu):l.length≤bF (fuL l):=lh (f:=fuO) rfl (fun _ _=>rfl) (fun x=>by rw [iN];omega) l
theorem sH(l:List Sn):l.length≤bF (snL l):=lh (f:=snO) rfl (fun _ _=>rfl) (fun x=>by rw [Ar];omega) l
theorem DQ{l:List Fu}{i k n:Nat}{v:V}{h:H}(hb:Nat.blt i l.length=true)(hv:d4 (fuO (cJ l i)) k=some v):ROp.run (.load false n) [.eptr (fuL l) (Nat.add (Nat.mul i 3) k)] h=some v:=d5 (DS hb) hv h
theorem jd{l:List Fu}{i:Nat}{h:H}(hb:Nat.blt i l.length=true):ROp.run (.load true 3) [.eptr (fuL l) (Nat.mul i 3)] h=some (.agg (fuO (cJ l i))):=fA (DS hb) h
theorem DP{l:List Sn}{i k n:Nat}{v:V}{h:H}(hb:Nat.blt i l.length=true)(hv:d4 (snO (dz l i)) k=some v):ROp.run (.load false n) [.eptr (snL l) (Nat.add (Nat.mul i 2) k)] h=some v:=d5 (DH hb) hv h
theorem DR{l:List Sn}{i:Nat}{h:H}(hb:Nat.blt i l.length=true):ROp.run (.load true 2) [.eptr (snL l) (Nat.mul i 2)] h=some (.agg (snO (dz l i))):=fA (DH hb) h
theorem jj(f:Fu):∀c,c∈fuO f→bN c:=bO (.flat rfl) (bO (.flat rfl) (bO (pxC _) px0))
theorem vO(s:Sn):∀c,c∈snO s→bN c:=bO (.flat rfl) (bO (.flat rfl) px0)
theorem tp:∀l,∀c,c∈fuL l→bN c
 |[],c,h=>by cases h
 |f ::l,c,h=>by
  rcases List.mem_append.1 h with h|h
  ·exact jj f c h
  ·exact tp l c h
theorem As:∀l,∀c,c∈snL l→bN c
 |[],c,h=>by cases h
 |f ::l,c,h=>by
  rcases List.mem_append.1 h with h|h
  ·exact vO f c h
  ·exact As l c h
theorem EB(l:List Fu):bN (.lst l.length 3 (fuL l)):= .lst (tp l)
theorem Hc(l:List Sn):bN (.lst l.length 2 (snL l)):= .lst (As l)
theorem fM(m:Md):∀c,c∈mdO m→bN c:=bO (.flat rfl) (bO (.flat rfl) (bO (Hc _) (bO (EB _) px0)))
theorem Sz.oneC{s:Nat}(R:Sz s){p:Prop}(l:List Cl)(m:Int)(h:p→bF (clL l)<s∧0≤m∧m≤4000):∃r,p→ck Tryz.prog TP 19 [.lst l.length 4 (clL l),.int .i64 (cZ .i64 (Int.sub m 1))] (.int .i64 r)∧OkR (bF (clL l)+500*l.length) (m-1) r:=by
 refine E3 fun k=>?_
 obtain⟨k1,k2,k3⟩:=h k
 rw [DC (by omega) (by omega)]
 exact R.cl l k1 (m-1) (by omega) (by omega)
noncomputable section
def fr8(m:Md)(i:Nat):AL:=[(1,.int .i64 4000),(2,.eptr (mdO m) 0),(4,.bool false),(5,.int .i64 (Int.ofNat i))]
def fr8f(m:Md)(cur:Int)(i:Nat):AL:=[(1,.int .i64 cur),(2,.eptr (mdO m) 0),(4,.bool false),(6,.int .i64 (Int.ofNat i))]
end
def ncl(l:List Fu):Nat:=(l.map fun f=>f.clauses.length).sum
theorem CU{l:List Fu}{i:Nat}(h:i<l.length):ncl (l.take (i+1))=ncl (l.take i)+(cJ l i).clauses.length:=by
 have:=cV (d:=fu0) (ltb h)
 unfold ncl
 rw [List.take_add_one,this]
 simp [cJ]
set_option maxHeartbeats 4000000 in
theorem f8b(m:Md):∃b,ck Tryz.prog TP 8 [.agg (mdO m),.int .i64 4000] (.bool b)∧(b=true→bF (mdO m)+500*ncl m.funcs≤5300000):=by
 obtain⟨v,c,b,rfl,ok⟩:∃v,ck Tryz.prog TP 8 [.agg (mdO m),.int .i64 4000] v∧∃b,v= .bool b∧(b=true→bF (mdO m)+500*ncl m.funcs≤5300000):=by
  refine cH Tryz.func8 (by decide) cf8_ok rfl (bO (.agg (fM m)) (bO (.flat rfl) px0)) rfl ?_
  have px:=fM m
  have px2:bN (.eptr (mdO m) 0):= .eptr px
  have R:=mK (bF (mdO m))
  have hsz:=mU m
  repeat' (first
   |(refine WLg.mk ?_;first
   |refine aa rfl rfl rfl rfl ?_|refine ab rfl rfl rfl rfl ?_|refine az rfl rfl rfl rfl px rfl ?_)
   |refine ah ?_|refine ac rfl ?_|refine ax rfl rfl ?_|refine ay rfl (fun ht=>?_) (fun ht=>?_)|refine ai ?_
   |refine ae ?_|refine aj ?_|refine al ?_|refine aC rfl ?_|refine ak rfl (fun ht=>?_) (fun ht=>?_)
   |refine ap ?_|refine bE.norm ?_|refine bE.ret ?_|fail)
  ·exact⟨.inr rfl,_,rfl,.flat rfl,false,rfl,fun h=>by cases h⟩
  ·exact⟨.inr rfl,_,rfl,.flat rfl,false,rfl,fun h=>by cases h⟩
  ·have hn:=j7 (by assumption:ltI 300 (Int.ofNat m.name.size)=false)
   have hx:m.exports.length≤4000:=by rw [fk]at ht;simp at ht;omega
   refine av (cy (l:=fr8 m 0) KT rfl) ?_
   refine aw m.exports.length (fun i x h=>(x=fr8 m i∧bF (snL (m.exports.take i))≤302*i)∧h=H0) ?_ (i:=0) (Nat.zero_le _) ⟨⟨rfl,by simp [snL,bF]⟩,rfl⟩
   rintro i _ _ hi ⟨⟨rfl,q⟩,rfl⟩
   have hi2:i<9223372036854775807:=by omega
   repeat' (first
    |(refine WLg.mk ?_;first
    |refine aa rfl rfl rfl rfl ?_|refine aa rfl rfl (bM Hy) rfl ?_|refine ab rfl rfl (DP Hy rfl) rfl ?_
    |refine ab rfl rfl rfl rfl ?_)
    |refine ah ?_|refine ac rfl ?_|refine ai ?_|refine ae ?_|refine aj ?_|refine al ?_
    |refine ak rfl (fun ht=>?_) (fun ht=>?_)|refine au ?_|refine ap ?_|refine bE.norm ?_|refine bE.ret ?_
    |refine bE.exit ?_|refine OnC.ret ?_|refine OnC.exit ?_|fail)
   ·exact⟨.inr rfl,_,rfl,.flat rfl,false,rfl,fun h=>by cases h⟩
   ·rename_i hA
    have hlt:=bK hA
    have hs:=Ei hlt
    have hz:=Ar (dz m.exports i)
    have:=j7 ht
    exact .norm ⟨_,_,cy KI rfl,hlt,⟨rfl,by omega⟩,rfl⟩
   ·have hie:i=m.exports.length:=by have:=ci ht;omega
    rw [hie,List.take_length]at q
    refine av (cy (l:=fr8f m 4000 0) KT rfl) ?_
    refine aw m.funcs.length (fun i x h=>(∃cur:Int,x=fr8f m cur i∧-1≤cur∧(i:Int)≤4000-cur∧(0≤cur→(bF (fuL (m.funcs.take i))+500*ncl (m.funcs.take i):Int)≤1000*(4000-cur)))∧h=H0) ?_ (i:=0) (Nat.zero_le _) ⟨⟨4000,rfl,by omega,by simp,fun _=>by simp [fuL,bF,ncl]⟩,rfl⟩
    clear hi hi2 hie ht
    rintro j _ _ hj ⟨⟨cur,rfl,q1,q2,q3⟩,rfl⟩
    have hj2:j<9223372036854775807:=by omega
    obtain⟨r1,hr⟩:=R.oneC (p:=j<m.funcs.length∧0≤cur) (cJ m.funcs j).clauses cur fun h=>by
     have:=oK (ltb h.1)
     have:=iN (cJ m.funcs j)
     omega
    repeat' (first
     |(refine WLg.mk ?_;first
     |refine aa rfl rfl rfl rfl ?_|refine aa rfl rfl (bM Hy) rfl ?_|refine ab rfl rfl (DQ Hy rfl) rfl ?_
     |refine ab rfl rfl rfl rfl ?_
     |refine aq rfl rfl rfl ((hr ⟨bK Hy,jg Hy⟩).1) rfl ?_)
     |refine ah ?_|refine ac rfl ?_|refine ax rfl rfl ?_|refine ay rfl (fun ht=>?_) (fun ht=>?_)|refine ai ?_
     |refine ae ?_|refine aj ?_|refine al ?_|refine aB rfl ?_|refine ak rfl (fun ht=>?_) (fun ht=>?_)
     |refine au ?_|refine ap ?_|refine bE.norm ?_|refine bE.ret ?_|refine bE.exit ?_|refine OnC.ret ?_|refine OnC.exit ?_
     |fail)
    ·exact⟨.inr rfl,_,rfl,.flat rfl,false,rfl,fun h=>by cases h⟩
    ·rename_i hA hB
     have hlt:=bK hA
     have h0:=jg hB
     have hs:=Bv hlt
     have hcl:=CU hlt
     have hz:=iN (cJ m.funcs j)
     have:=j7 ht
     obtain⟨o1,o2,o3⟩:=(hr ⟨hlt,h0⟩).2
     exact .norm ⟨_,_,cy KI rfl,hlt,⟨r1,rfl,o2,by omega,fun h=>by have:=o3 h;have:=q3 h0;omega⟩,rfl⟩
    ·exact⟨.inr rfl,_,rfl,.flat rfl,_,rfl,fun h=>absurd (jg h) (qw ht)⟩
    ·have hje:j=m.funcs.length:=by have:=ci ht;omega
     rw [hje,List.take_length]at q3
     exact⟨.inr rfl,_,rfl,.flat rfl,_,rfl,fun h=>by have:=q3 (jg h);have:=jg h;omega⟩
 exact⟨b,c,ok⟩
end
section
noncomputable section
def lpA(xs:List Ex):List (Option Blk):=[some (.ro 256 dS),some (.cells (bU (exL xs)) (cE (exL xs) 0 .e) none false)]
def HA:List Ex→H
 |[]=>H0
 |x ::l=>⟨trO (lpA (x ::l)) 0 .e,2⟩
def mc:List Ex→V
 |[]=>.nils
 |x ::l=>.sl 1 0 (x ::l).length 0 false 11
end
inductive oW(f:AL):AL→Prop
 |nil:oW f []
 |cons {t:Nat} {v:V} {l:AL} (e:lk f t=some v) (k:oW f l):oW f ((t,v) ::l)
theorem oW.lk{f:AL}:∀{l:AL},oW f l→∀t v,lk l t=some v→lk f t=some v
 |_,.nil,t,v,h=>by cases h
 |_,.cons (t:=t0) (v:=v0) e k,t,v,h=>by
  rw [@dh noE]at h
  split at h
  ·rename_i q
   cases h
   rw [←q]
   exact e
  ·exact k.lk t v h
theorem KH{f l:AL}(h:oW f l:=by repeat' (first|exact .nil|refine .cons rfl ?_|refine .cons (dB (by assumption)) ?_)):oW f l:=h
theorem bR{T:Ty}{K:Nat→Prop}{f:F}{h:H}{l:AL}(k:oW f.loc l):ft T K f h ⟨l,[]⟩ h:=rE (fun t v e=>k.lk t v e) (fun t v e=>by cases e)
inductive gB:AL→AL→Prop
 |nil:gB [] []
 |cons {t:Nat} {v:V} {f l:AL} (p:bN v) (hn:lk f t=none) (k:gB f l):gB ((t,v) ::f) ((t,v) ::l)
 |drop {t:Nat} {v:V} {f l:AL} (hn:lk f t=none) (k:gB f l):gB ((t,v) ::f) l
theorem KP{f l:AL}(h:gB f l:=by repeat' (first|exact .nil|apply gB.cons PX rfl|apply gB.drop rfl)):gB f l:=h
theorem gB.mem{f l:AL}(k:gB f l):∀p,p∈l→lk f p.1=some p.2∧bN p.2:=by
 have up:∀{f:AL} {t t0:Nat} {v v0:V},lk f t=some v→lk f t0=none→lk ((t0,v0) ::f) t=some v:=fun{f t t0 v v0} h hn=>by
  rw [@dh noE]
  split
  ·rename_i q
   subst q
   have hn:lk f t0=none:=hn
   rw [hn]at h
   cases h
  ·exact h
 induction k with
 |nil=>intro p h;cases h
 |@cons t0 v0 f l p hn k ih=>
  intro q hq
  rcases List.mem_cons.1 hq with rfl|hq
  ·exact⟨by rw [@dh noE,if_pos rfl],p⟩
  ·exact⟨up (ih q hq).1 hn,(ih q hq).2⟩
 |@drop t0 v0 f l hn k ih=>
  intro q hq
  exact⟨up (ih q hq).1 hn,(ih q hq).2⟩
theorem dT:∀a b:List Ex,exL (a++b)=exL a++exL b
 |[],b=>by rw [exL];rfl
 |x ::a,b=>by rw [List.cons_append,cN,cN,dT a b,List.append_assoc]
theorem mA:∀l:List Ex,(exL l).length=l.length*11
 |[]=>by rw [exL];rfl
 |x ::l=>by rw [cN,List.length_append,yx,mA l,List.length_cons];omega
theorem C9(l:List Ex):cK (exL l)=true:=by
 have key:∀l:List V,(∀v,v∈l→cD v=true)→cK l=true:=by
  intro l
  induction l with
  |nil=>exact fun _=>rfl
  |cons v l ih=>
   intro h
   show(Bool.rec (motive:=fun _=>Bool) false (cK l) (cD v):Bool)=true
   rw [h v List.mem_cons_self]
   exact ih fun x hx=>h x (List.mem_cons_of_mem _ hx)
 induction l with
 |nil=>rw [exL];rfl
 |cons x l ih=>
  refine key _ fun v hv=>?_
  have all:∀l:List V,cK l=true→∀v,v∈l→cD v=true:=by
   intro l
   induction l with
   |nil=>intro _ v h;cases h
   |cons a l ih2=>
    intro h v hv
    have h:(Bool.rec (motive:=fun _=>Bool) false (cK l) (cD a):Bool)=true:=h
    rw [cq]at h
    split at h
    ·rename_i q
     rcases List.mem_cons.1 hv with rfl|hv
     ·exact q
     ·exact ih2 h v hv
    ·cases h
  rw [cN]at hv
  rcases List.mem_append.1 hv with h|h
  ·exact all (exO x) rfl v h
  ·exact all _ ih v h
theorem qN(x:Ex)(l:List Ex):bU (exL (x ::l))=(l.length+1)*11:=by rw [@bS noE,mA,List.length_cons]
theorem Ai{h2:H}{zs:List Ex}{b:Nat}{tr:Tr V}{up:Option (Nat×Nat)}{ch:Bool}{t:Nat}{loc tmp loc' tmp':AL}(kl:gB loc loc')(kt:gB tmp tmp')(hn:lk tmp t=none)(hz:zs≠[])
  (h0:h2.blk 0=some (.ro 256 dS)) (hb:h2.blk b=some (.cells (bU (exL zs)) tr up ch)) (hup:∀d,¬Up h2 b 0 d) (hup2:∀d,¬Up h2 b b d) (hl:zs.length≤50000000) (hc:∀j v,(exL zs)[j]? =some v→tr.get j=some v):
  ft TP Kp ⟨loc,(t,.sl b 0 zs.length 0 false 11) ::tmp⟩ h2 ⟨loc',(t,mc zs) ::tmp'⟩ (HA zs):=by
 obtain⟨z,l,rfl⟩:∃z l,zs=z ::l:=by
  cases zs with
  |nil=>exact absurd rfl hz
  |cons z l=>exact⟨z,l,rfl⟩
 have hk:2≤bP:=by unfold bP;omega
 have hlen:bU (exL (z ::l))≤bP:=by rw [qN];rw [List.length_cons]at hl;unfold bP;omega
 have u:∀i,cI (lpA (z ::l)) i→i=0∨i=1:=fun i ⟨b,e⟩=>by
  cases i with
  |zero=>exact .inl rfl
  |succ i=>cases i with
   |zero=>exact .inr rfl
   |succ i=>cases e
 have hb0:b≠0:=fun q=>by rw [q,h0]at hb;cases hb
 have V:Vw TP h2 (lpA (z ::l)) (fun i=>if i=1 then b else i) (fun _=>none):=by
  refine⟨hk,fun i b' e=>?_,fun i j hi hj e=>?_,fun i j d hi hj=>?_,(fun k cs e=>by cases e),(fun k cs i e=>by cases e),fun q hq=>?_⟩
  ·rcases u i ⟨_,e⟩with rfl|rfl
   ·obtain rfl:Blk.ro 256 dS=b':=by cases e;rfl
    exact⟨_,h0,.ro fun j v e=>.flat (dW eD (by rw [fU];unfold bP;omega) e)⟩
   ·obtain rfl:Blk.cells (bU (exL (z ::l))) (cE (exL (z ::l)) 0 .e) none false=b':=by cases e;rfl
    refine⟨_,hb,.cells fun j v hj e=>?_⟩
    rw [@bS noE]at hj hlen
    rw [@cW noE _ 0 .e j (by omega),if_pos (by omega),Nat.sub_zero]at e
    exact⟨v,hc j v e,.pure (iC _ v (List.mem_of_getElem? e)).x⟩
  ·rcases u i hi with rfl|rfl<;>rcases u j hj with rfl|rfl
   ·rfl
   ·exact absurd e.symm hb0
   ·exact absurd e hb0
   ·rfl
  ·rcases u i hi with rfl|rfl<;>rcases u j hj with rfl|rfl
   ·exact dF h0
   ·exact dF h0
   ·exact hup d
   ·exact hup2 d
  ·have e:=jW.all q hq
   have hq':q.1=0:=by rw [ig]at hq;rw [List.mem_singleton.1 hq]
   rw [hq']at e ⊢
   exact⟨rfl,e⟩
 refine V.view (fun id h=>by obtain rfl:id=0:=h;exact⟨⟨_,rfl⟩,rfl⟩) (.inl fun _=>rfl) ⟨fun p hp=>⟨p.2,(kl.mem p hp).1,.pure (kl.mem p hp).2⟩,fun p hp=>?_⟩
 rcases List.mem_cons.1 hp with rfl|hp
 ·exact⟨_,by show lk ((t,_) ::tmp) t=_;rw [@dh noE,if_pos rfl];rfl,@Rn.sl _ (fun i=>if i=1 then b else i) _ 1 0 (l.length+1) 0 11 false ⟨_,rfl⟩⟩
 ·obtain⟨q1,q2⟩:=kt.mem p hp
  refine⟨p.2,?_,.pure q2⟩
  show lk ((t,_) ::tmp) p.1=_
  rw [@dh noE,if_neg (fun q=>by
   have q:t=p.1:=q
   rw [←q,hn]at q1;cases q1)]
  exact q1
theorem ma{T:Ty}{K:Nat→Prop}{h:H}{t:Nat}{v:V}{loc tmp loc' tmp':AL}(kl:gB loc loc')(kt:gB tmp tmp')(_:lk tmp t=none):ft T K ⟨loc,(t,v) ::tmp⟩ h ⟨loc',(t,v) ::tmp'⟩ h:=by
 refine rE (fun s u e=>?_) (fun s u e=>?_)
 ·have:=kl.mem _ (@kx noE _ _ _ e)
  exact this.1
 ·have e:lk ((t,v) ::tmp') s=some u:=e
  show lk ((t,v) ::tmp) s=some u
  rw [@dh noE]at e ⊢
  split at e
  ·rename_i q;rw [if_pos q];exact e
  ·rename_i q;rw [if_neg q];exact(kt.mem _ (@kx noE _ _ _ e)).1
section
variable {P:Program} {call:cB} {loc tmp loc' tmp':AL} {l:List bQ} {R:AL→H→Prop} {args:List Opd} {gd:Option (Opd×Bool)} {lo hi t:Nat}
theorem Dv{xs ys:List Ex}(hb:xs.length+ys.length≤50000000)(kl:gB loc loc')(kt:gB tmp tmp')(hn:lk tmp t=none):
  ∃v h2,vC 11 200 none (mc xs) (.lst ys.length 11 (exL ys)) (HA xs)=some (v,h2)∧ft TP Kp ⟨loc,(t,v) ::tmp⟩ h2 ⟨loc',(t,mc (xs++ys)) ::tmp'⟩ (HA (xs++ys)):=by
 cases ys with
 |nil=>
  rw [List.append_nil]
  cases xs with
  |nil=>exact⟨.nils,H0,by rw [exL];rfl,ma kl kt hn⟩
  |cons x xs=>
   refine⟨mc (x ::xs),HA (x ::xs),?_,ma kl kt hn⟩
   rw [show exL ([]:List Ex)=[] by rw [exL]]
   have hx:=qN x xs
   have hle:Nat.ble (Nat.add (x ::xs).length 0) (Nat.div (Nat.sub (bU (exL (x ::xs))) 0) 11)=true:=by
    rw [hx]
    show Nat.ble (xs.length+1+0) (((xs.length+1)*11-0)/11)=true
    rw [Nat.sub_zero,Nat.mul_div_cancel _ (by decide)]
    simp
   show(Bool.rec (motive:=fun _=>Option (V×H)) _ (some (V.sl 1 0 (Nat.add (x ::xs).length 0) 0 false 11,HA (x ::xs))) (Nat.ble (Nat.add (x ::xs).length 0) (Nat.div (Nat.sub (bU (exL (x ::xs))) 0) 11)):Option (V×H))=_
   rw [hle]
   rfl
 |cons y ys=>
  have hone:=C9 (y ::ys)
  have hlen:=qN y ys
  rw [List.length_cons]at hb
  have hby:Nat.blt (Nat.mul (y ::ys).length 200) 1099511627776=true:=ltb (by show(ys.length+1)*200<_;omega)
  cases xs with
  |nil=>
   refine⟨.sl 1 0 (y ::ys).length 0 false 11,HA (y ::ys),?_,ma kl kt hn⟩
   have hk:Nat.blt (bU (exL (y ::ys))) bP=true:=ltb (by rw [hlen];unfold bP;rw [List.length_nil]at hb;omega)
   show oif (Nat.blt (Nat.mul (y ::ys).length 200) 1099511627776) (ob (H0.newCells (exL (y ::ys)) none) fun h'=>some (V.sl 1 0 (y ::ys).length 0 false 11,h'))=_
   rw [hby]
   have:H0.newCells (exL (y ::ys)) none=some (HA (y ::ys)):=by
    show oif (cK (exL (y ::ys))) (oif (Nat.blt (bU (exL (y ::ys))) bP) _)=_
    rw [hone,hk]
    rfl
   rw [this]
   rfl
  |cons x xs=>
   rw [List.length_cons]at hb
   have hx:=qN x xs
   have hle:Nat.ble (Nat.add (x ::xs).length (y ::ys).length) (Nat.div (Nat.sub (bU (exL (x ::xs))) 0) 11)=false:=by
    rw [hx]
    show Nat.ble (xs.length+1+(ys.length+1)) (((xs.length+1)*11-0)/11)=false
    rw [Nat.sub_zero,Nat.mul_div_cancel _ (by decide)]
    cases q:Nat.ble (xs.length+1+(ys.length+1)) (xs.length+1)with
    |false=>rfl
    |true=>have:=Nat.le_of_ble_eq_true q;omega
   have hq:(Nat.beq (bU (exL (x ::xs))) (Nat.mul (x ::xs).length 11)&&Nat.beq 0 0)=true:=by
    rw [hx]
    show(Nat.beq ((xs.length+1)*11) ((xs.length+1)*11)&&true)=true
    simp
   have hby2:Nat.blt (Nat.mul (Nat.add (x ::xs).length (y ::ys).length) 200) 1099511627776=true:=ltb (by show(xs.length+1+(ys.length+1))*200<_;omega)
   have hk:Nat.blt (Nat.add (bU (exL (x ::xs))) (bU (exL (y ::ys)))) bP=true:=ltb (by rw [hx,hlen];show(xs.length+1)*11+(ys.length+1)*11<bP;unfold bP;omega)
   have hsum:bU (exL (x ::xs++y ::ys))=Nat.add (bU (exL (x ::xs))) (bU (exL (y ::ys))):=by
    rw [@bS noE,@bS noE,@bS noE,dT,List.length_append]
    rfl
   refine⟨.sl 2 0 (Nat.add (x ::xs).length (y ::ys).length) 0 false 11,⟨((HA (x ::xs)).t.put 1 (some (.cells (bU (exL (x ::xs))) (cE (exL (x ::xs)) 0 .e) none true))).put 2 (some (.cells (Nat.add (bU (exL (x ::xs))) (bU (exL (y ::ys)))) (cE (exL (y ::ys)) (bU (exL (x ::xs))) (cE (exL (x ::xs)) 0 .e)) (some (1,0)) false)),3⟩,?_,?_⟩
   ·show(Bool.rec (motive:=fun _=>Option (V×H))
      (oif (Nat.beq (bU (exL (x ::xs))) (Nat.mul (x ::xs).length 11)&&Nat.beq 0 0) (oif (Nat.blt (Nat.mul (Nat.add (x ::xs).length (y ::ys).length) 200) 1099511627776)
       (ob (some (⟨(HA (x ::xs)).t.put 1 (some (.cells (bU (exL (x ::xs))) (cE (exL (x ::xs)) 0 .e) none true)),2⟩:H)) fun h=>ob (h.shareNew 1 0 (bU (exL (x ::xs))) (cE (exL (x ::xs)) 0 .e) (exL (y ::ys))) fun h'=>some (V.sl h.next 0 (Nat.add (x ::xs).length (y ::ys).length) 0 false 11,h'))))
      _ (Nat.ble (Nat.add (x ::xs).length (y ::ys).length) (Nat.div (Nat.sub (bU (exL (x ::xs))) 0) 11)):Option (V×H))=_
    rw [hle,hq,hby2]
    show ob (oif (cK (exL (y ::ys))) (oif (Nat.blt (Nat.add (bU (exL (x ::xs))) (bU (exL (y ::ys)))) bP) _)) _=_
    rw [hone,hk]
    rfl
   ·have e1:Nat.add (x ::xs).length (y ::ys).length=(x ::xs++y ::ys).length:=by rw [List.length_append];rfl
    rw [e1,←hsum]
    have k2:(2:Nat)<bP:=by unfold bP;omega
    have b1:∀(j:Nat) (A B:Option Blk),(⟨((HA (x ::xs)).t.put 1 A).put 2 B,3⟩:H).blk j=if j=2 then B else if j=1 then A else(HA (x ::xs)).blk j:=fun j A B=>by
     show(((HA (x ::xs)).t.put 1 A).put 2 B).get j=_
     rw [Tr.get_put _ _ _ _ k2,Tr.get_put _ _ _ _ (by omega)]
     rfl
    refine Ai kl kt hn (by simp) (by rw [b1,if_neg (by decide),if_neg (by decide)];rfl) (by rw [b1,if_pos rfl]) (fun d u=>?_) (fun d u=>?_) (by rw [←e1];show xs.length+1+(ys.length+1)≤_;omega) (fun j v e=>?_)
    ·cases u with
     |one e k=>
      rw [b1,if_pos rfl]at e
      cases e
      cases k
     |step e k u=>
      rw [b1,if_pos rfl]at e
      cases e
      cases k
      cases u with
      |one e k=>rw [b1,if_neg (by decide),if_pos rfl]at e;cases e;cases k
      |step e k _=>rw [b1,if_neg (by decide),if_pos rfl]at e;cases e;cases k
    ·cases u with
     |one e k=>
      rw [b1,if_pos rfl]at e
      cases e
      cases k
     |step e k u=>
      rw [b1,if_pos rfl]at e
      cases e
      cases k
      cases u with
      |one e k=>rw [b1,if_neg (by decide),if_pos rfl]at e;cases e;cases k
      |step e k _=>rw [b1,if_neg (by decide),if_pos rfl]at e;cases e;cases k
    ·rw [dT]at e
     have hkeys:=Nat.le_of_ble_eq_true hk
     rw [@bS noE,@bS noE]at hkeys
     have hkeys:(exL (x ::xs)).length+(exL (y ::ys)).length+1≤bP:=hkeys
     have hj:=(List.getElem?_eq_some_iff.1 e).1
     rw [List.length_append]at hj
     rw [@bS noE,@cW noE _ _ _ j (by omega)]
     by_cases q:j<(exL (x ::xs)).length
     ·rw [if_neg (by omega),@cW noE _ 0 .e j (by omega),if_pos (by omega),Nat.sub_zero]
      rw [List.getElem?_append_left q]at e
      exact e
     ·rw [if_pos (by omega)]
      rw [List.getElem?_append_right (by omega)]at e
      exact e
theorem aM{xs ys:List Ex}(e0:bV ⟨loc,tmp⟩ gd=some true)(e1:evs ⟨loc,tmp⟩ args=some [mc xs,.lst ys.length 11 (exL ys)])(hb:xs.length+ys.length≤50000000)(kl:gB loc loc')(kt:gB tmp tmp')(hn:lk tmp t=none)
  (k:WL Tryz.prog TP Kp call l loc' ((t,mc (xs++ys)) ::tmp') (HA (xs++ys)) R):WL Tryz.prog TP Kp call (⟨.t t,.e (.append 11 200 none),args,gd,lo,hi⟩ ::l) loc tmp (HA xs) R:=by
 obtain⟨v,h2,q1,q2⟩:=Dv hb kl kt hn
 exact aD e0 e1 q1 rfl ⟨bt q2 k.out⟩
theorem Hg(x:Ex):exL [x]=exO x++[]:=by rw [cN,exL]
theorem aX{xs:List Ex}{y:Ex}(e0:bV ⟨loc,tmp⟩ gd=some true)(e1:evs ⟨loc,tmp⟩ args=some [mc xs,.lst 1 11 (exO y++[])])(hb:xs.length+1≤50000000)(kl:gB loc loc')(kt:gB tmp tmp')(hn:lk tmp t=none)
  (k:WL Tryz.prog TP Kp call l loc' ((t,mc (xs++[y])) ::tmp') (HA (xs++[y])) R):WL Tryz.prog TP Kp call (⟨.t t,.e (.append 11 200 none),args,gd,lo,hi⟩ ::l) loc tmp (HA xs) R:=by
 rw [←Hg]at e1
 exact aM (ys:=[y]) e0 e1 hb kl kt hn k
end
theorem Ag{xs:List Ex}{f:F}{t:Nat}(e:lk f.loc t=some (mc xs))(hl:xs.length≤50000000):ft TP Kp f (HA xs) ⟨[(t,.lst xs.length 11 (exL xs))],[]⟩ H0:=by
 cases xs with
 |nil=>
  intro m N E0 g0 w0 E g w tmps s fr
  refine⟨E,g,s,⟨fr.1,fun i v h=>?_⟩,fun id b o z h=>⟨id,o,z,h⟩⟩
  unfold rdn at h
  split at h
  ·rename_i hb
   have h:lk [(t,V.lst 0 11 (exL []))] i=some v:=h
   by_cases q:t=i
   ·subst q
    have h2:lk [(t,V.lst 0 11 (exL []))] t=some (V.lst 0 11 (exL [])):=by rw [@dh noE,if_pos rfl]
    obtain rfl:V.lst 0 11 (exL [])=v:=Option.some.inj (h2.symm.trans h)
    obtain⟨u,k1,k2⟩:=fr.2 t .nils (by unfold rdn;rw [if_pos hb];exact e)
    refine⟨u,k1,?_⟩
    cases k2
    rw [show exL ([]:List Ex)=[] by rw [exL]]
    exact @VR.lst0 E g 11
   ·rw [@dh noE,if_neg q]at h
    cases h
  ·cases h
 |cons x l=>
  have hlen:=qN x l
  have hl2:bU (exL (x ::l))≤bP:=by rw [hlen];rw [List.length_cons]at hl;unfold bP;omega
  have hz:(HA (x ::l)).blk 1=some (.cells (bU (exL (x ::l))) (cE (exL (x ::l)) 0 .e) none false):=rfl
  have hb:(HA (x ::l)).blk 0=some (.ro 256 dS):=rfl
  have V:Vw TP (HA (x ::l)) lp0 (fun i=>i) (fun j=>if j=1 then some (exL (x ::l))else none):=by
   have u0:∀i,cI lp0 i→i=0:=fun i ⟨b,e⟩=>by
    cases i with
    |zero=>rfl
    |succ i=>cases e
   refine⟨jW.len,fun i b' e=>?_,fun i j _ _ e=>e,fun i j d hi _=>?_,fun j cs' e _=>?_,fun j cs' i e hi=>?_,fun q hq=>⟨rfl,jW.all q hq⟩⟩
   ·obtain rfl:=u0 i ⟨_,e⟩
    obtain rfl:Blk.ro 256 dS=b':=by cases e;rfl
    exact⟨_,hb,.ro fun j v e=>.flat (dW eD (by rw [fU];unfold bP;omega) e)⟩
   ·rw [u0 i hi]
    exact dF hb
   ·by_cases q:j=1
    ·subst q
     rw [if_pos rfl]at e
     cases e
     refine⟨_,_,_,by rw [←@bS noE];exact hz,fun i v hv=>?_⟩
     have:=(List.getElem?_eq_some_iff.1 hv).1
     rw [@bS noE]at hl2
     rw [@cW noE _ 0 .e i (by omega),if_pos (by omega),Nat.sub_zero]
     exact hv
    ·rw [if_neg q]at e;cases e
   ·obtain rfl:=u0 i hi
    by_cases q:j=1
    ·subst q
     exact⟨by decide,fun d=>dF hb,fun d u=>by
      cases u with
      |one e' k'=>rw [hz]at e';cases e';cases k'
      |step e' k' _=>rw [hz]at e';cases e';cases k'⟩
    ·rw [if_neg q]at e;cases e
  refine V.view (fun id h=>by obtain rfl:id=0:=h;exact⟨⟨_,rfl⟩,rfl⟩) (.inr pn) ⟨fun p hp=>?_,fun p hp=>by cases hp⟩
  obtain rfl:=List.mem_singleton.1 hp
  exact⟨_,e,.fzs (k:=1) (by rw [if_pos rfl]) (by rw [mA]) (RnL.pure fun c hc=>(iC _ c hc).x)⟩
end
section
theorem nq{f:FuncId} {fn:Func} {cf:CF} (hfn:Tryz.prog.funcs[f]? =some fn) (hnm:fn.name≠ "runtime.NumGoroutine") (hcf:bG TP fn=some cf) {vs:List V} (hlen:vs.length=cf.params) (hvs:∀v,v∈vs→bN v) {t:Nat} (hres:cf.results=[.tmp (.l t)]) {Q:List Ex→Prop} {loc:AL} (hn:lQ vs 0=some loc)
  (k:WC Tryz.prog TP Kp eK 1 cf.code loc H0 fun x loc h=>(x= .norm∨x= .ret)∧∃xs,Q xs∧lk loc t=some (mc xs)∧h=HA xs∧xs.length≤50000000):∃xs,Q xs∧ck Tryz.prog TP f vs (.lst xs.length 11 (exL xs)):=by
 have hW:W Tryz.prog TP Kp eK 1 cf.code ⟨dE vs 0,[]⟩ H0 fun x f1 h1=>(x= .norm∨x= .ret)∧∃l,gj f1 h1 cf.results=some l∧bN (cX l)∧∃xs,Q xs∧cX l= .lst xs.length 11 (exL xs):=by
  rw [mS hn]
  refine W.viewX (W.mono k.out fun x f1 h1 q=>?_)
  obtain⟨_,q1,xs,q2,q3,rfl,q5⟩:=q
  refine⟨_,_,Ag q3 q5,q1,[.lst xs.length 11 (exL xs)],?_,pxE xs,xs,q2,rfl⟩
  rw [hres]
  show ob (lk [(t,V.lst xs.length 11 (exL xs))] t) (fun v=>ob (some []) fun vs=>some (v ::vs))=_
  rw [@dh noE,if_pos rfl]
  rfl
 obtain⟨v,c,xs,q,rfl⟩:=pK (R:=fun v=>∃xs,Q xs∧v= .lst xs.length 11 (exL xs)) hfn hnm hcf hlen hvs hW
 exact⟨xs,q,c⟩
def cR:List Sm→List Ex
 |[]=>[]
 |s ::l=>(if s.isMatch then [s.pat,s.val]else [s.val])++cR l
def gdK:List (List Ex)→List Ex
 |[]=>[]
 |g ::l=>g++gdK l
def clK:List Cl→List Ex
 |[]=>[]
 |c ::l=>(c.pats++(gdK c.guards++cR c.body))++clK l
def mN:List Sg→List Ex
 |[]=>[]
 |s ::l=>((if s.type=4 then []else [s.val])++(if s.sized then [s.size]else []))++mN l
theorem pQ{α:Type}{f:α→List Ex}{g:List α→List Ex}(hn:g []=[])(hc:∀a l,g (a ::l)=f a++g l):∀(l:List α) (i:Nat) (x:α),l[i]? =some x→g (l.take (i+1))=g (l.take i)++f x
 |[],i,x,h=>by simp at h
 |a ::l,0,x,h=>by
  simp at h
  subst h
  simp only [List.take_succ_cons,List.take_zero]
  rw [hc,hn]
  simp
 |a ::l,i+1,x,h=>by
  have:=pQ hn hc l i x (by simpa using h)
  rw [List.take_succ_cons,List.take_succ_cons,hc,hc,this,List.append_assoc]
theorem qZ{l:List Sm}{i:Nat}(h:i<l.length):cR (l.take (i+1))=cR (l.take i)++(if(cC l i).isMatch then [(cC l i).pat,(cC l i).val]else [(cC l i).val]):=pQ (f:=fun s=>if s.isMatch then [s.pat,s.val]else [s.val]) rfl (fun _ _=>rfl) l i _ (cV (ltb h))
theorem BY{l:List Cl}{i:Nat}(h:i<l.length):clK (l.take (i+1))=clK (l.take i)++((bL l i).pats++(gdK (bL l i).guards++cR (bL l i).body)):=pQ (f:=fun c=>c.pats++(gdK c.guards++cR c.body)) rfl (fun _ _=>rfl) l i _ (cV (ltb h))
theorem Bq{l:List (List Ex)}{i:Nat}(h:i<l.length):gdK (l.take (i+1))=gdK (l.take i)++dm l i:=pQ (f:=fun g=>g) rfl (fun _ _=>rfl) l i _ (cV (d:=[]) (ltb h))
theorem lJ{l:List Sg}{i:Nat}(h:i<l.length):mN (l.take (i+1))=mN (l.take i)++((if(ce l i).type=4 then []else [(ce l i).val])++(if(ce l i).sized then [(ce l i).size]else [])):=pQ (f:=fun s=>(if s.type=4 then []else [s.val])++(if s.sized then [s.size]else [])) rfl (fun _ _=>rfl) l i _ (cV (ltb h))
theorem hO(x:Ex):11≤bF (exO x):=by rw [dL];omega
theorem gA:∀l,bF (exL (cR l))≤bF (smL l)
 |[]=>by rw [cR,exL];simp [bF]
 |s ::l=>by
  have ih:=gA l
  rw [cR,dT,bY,gO,bY,lU]
  split
  ·rw [BG,bY,bY,bF];omega
  ·rw [cN,exL,bY,bF];omega
theorem wC:∀l,bF (exL (gdK l))≤bF (gdL l)
 |[]=>by rw [gdK,exL];simp [bF]
 |g ::l=>by
  have ih:=wC l
  have:bF (gdL (g ::l))=(1+bF (exL g))+bF (gdL l):=by
   rw [gdL]
   simp [bF,szV]
  rw [gdK,dT,bY,this]
  omega
theorem gH:∀l,bF (exL (clK l))≤bF (clL l)
 |[]=>by rw [clK,exL];simp [bF]
 |c ::l=>by
  have ih:=gH l
  have h1:=wC c.guards
  have h2:=gA c.body
  rw [clK,dT,dT,dT,bY,bY,bY,eJ,bY,ff]
  omega
theorem mM:∀l,bF (exL (mN l))≤bF (sgL l)
 |[]=>by rw [mN,exL];simp [bF]
 |s ::l=>by
  have ih:=mM l
  have e1:bF (exL (if s.type=4 then []else [s.val]))≤bF (exO s.val):=by
   split
   ·rw [exL];simp [bF]
   ·rw [cN,exL,bY,bF];omega
  have e2:bF (exL (if s.sized then [s.size]else []))≤bF (exO s.size):=by
   split
   ·rw [cN,exL,bY,bF];omega
   ·rw [exL];simp [bF]
  rw [mN,dT,dT,bY,bY,i5,bY,kJ]
  omega
theorem nk(x:Ex):∀c,c∈exO x++[]→bN c:=by
 rw [List.append_nil]
 exact fun c hc=>(dc _ c hc).x
theorem ii{α:Type}{f:α→List V}{g:List α→List V}(hn:g []=[])(hc:∀a l,g (a ::l)=f a++g l):∀(l:List α) (i:Nat),bF (g (l.take i))≤bF (g l)
 |[],i=>by simp
 |a ::l,0=>by simp [hn,bF]
 |a ::l,i+1=>by
  have:=ii hn hc l i
  rw [List.take_succ_cons,hc,hc,bY,bY]
  omega
theorem sI(l:List Sm)(i:Nat):bF (smL (l.take i))≤bF (smL l):=ii (by rw [smL]) gO l i
theorem kB(l:List Cl)(i:Nat):bF (clL (l.take i))≤bF (clL l):=ii (by rw [clL]) eJ l i
theorem mL(l:List Sg)(i:Nat):bF (sgL (l.take i))≤bF (sgL l):=ii (by rw [sgL]) i5 l i
theorem tn(l:List (List Ex))(i:Nat):bF (gdL (l.take i))≤bF (gdL l):=ii (f:=fun x=>[V.lst x.length 11 (exL x)]) (by rw [gdL]) (fun a l=>by first|(rw [gdL];done)|(rw [gdL];rfl)) l i
noncomputable section
def fr42(l:List Sm)(xs:List Ex)(i:Nat):AL:=[(0,.lst l.length 23 (smL l)),(3,mc xs),(4,.int .i64 (Int.ofNat i))]
end
set_option maxHeartbeats 4000000 in
theorem f42(l:List Sm)(hl:bF (smL l)≤6000000):ck Tryz.prog TP 42 [.lst l.length 23 (smL l)] (.lst (cR l).length 11 (exL (cR l))):=by
 obtain⟨xs,rfl,c⟩:∃xs,xs=cR l∧ck Tryz.prog TP 42 [.lst l.length 23 (smL l)] (.lst xs.length 11 (exL xs)):=by
  refine nq Tryz.func42 (by decide) cf42_ok rfl (bO (pxM l) px0) rfl rfl ?_
  have hn:=gM l
  repeat' (first
   |(refine WLg.mk ?_;first
   |refine aa rfl rfl rfl rfl ?_)
   |refine ah ?_|refine ac rfl ?_|refine ai ?_|refine ae ?_|refine aj ?_|refine bE.norm ?_|fail)
  refine av (bR (l:=fr42 l [] 0) KH) ?_
  refine aw l.length (fun i x h=>∃xs,xs=cR (l.take i)∧x=fr42 l xs i∧h=HA xs) ?_ (i:=0) (Nat.zero_le _) ⟨[],rfl,rfl,rfl⟩
  rintro i _ _ hi ⟨xs,hxs,rfl,rfl⟩
  have hi2:i<9223372036854775807:=by omega
  have hxl:xs.length≤6000000:=by
   have h1:=gA (l.take i)
   have h2:=sI l i
   have h3:=dt xs
   rw [←hxs]at h1
   omega
  have hx1:xs.length+1≤50000000:=by omega
  have hx2:(xs++[(cC l i).pat]).length+1≤50000000:=by rw [List.length_append];simp;omega
  repeat' (first
   |(refine WLg.mk ?_;first
   |refine aa rfl rfl rfl rfl ?_|refine aa rfl rfl (bM Hy) rfl ?_|refine ab rfl rfl (eA Hy rfl) rfl ?_
   |refine ab rfl rfl (ey Hy rfl) rfl ?_|refine ab rfl rfl (oH Hy rfl) rfl ?_
   |refine aQ (cs:=exO (cC l i).pat++[]) rfl rfl rfl rfl rfl rfl (nk (cC l i).pat) rfl ?_
   |refine aQ (cs:=exO (cC l i).val++[]) rfl rfl rfl rfl rfl rfl (nk (cC l i).val) rfl ?_
   |refine aX (y:=(cC l i).pat) rfl rfl Hy KP KP rfl ?_
   |refine aX (y:=(cC l i).val) rfl rfl Hy KP KP rfl ?_)
   |refine ah ?_|refine ac rfl ?_|refine ai ?_|refine ae ?_|refine aj ?_|refine al ?_
   |refine ak rfl (fun ht=>?_) (fun ht=>?_)|refine au ?_|refine ap ?_|refine bE.norm ?_|refine bE.exit ?_
   |refine OnC.exit ?_|fail)
  ·have hlt:=bK Hy
   exact .norm ⟨_,_,bR KH,hlt,_,by rw [qZ hlt,ht,hxs,List.append_assoc];rfl,rfl,rfl⟩
  ·have hlt:=bK Hy
   exact .norm ⟨_,_,bR KH,hlt,_,by rw [qZ hlt,ht,hxs];rfl,rfl,rfl⟩
  ·have hie:i=l.length:=by have:=ci ht;omega
   exact⟨.inr rfl,_,by rw [hxs,hie,List.take_length],rfl,rfl,by omega⟩
 exact c
noncomputable section
def fr23(l:List Cl)(xs:List Ex)(i:Nat):AL:=[(0,.lst l.length 4 (clL l)),(3,mc xs),(4,.int .i64 (Int.ofNat i))]
def fr23g(l:List Cl)(xs:List Ex)(i k:Nat):AL:=[(0,.lst l.length 4 (clL l)),(3,mc xs),(4,.int .i64 (Int.ofNat i)),(5,.int .i64 (Int.ofNat k))]
end
theorem fX(l:List Ex)(n:Nat)(h:bF (exL l)≤n):l.length≤n:=Nat.le_trans (dt l) h
set_option maxHeartbeats 4000000 in
theorem f23(l:List Cl)(hl:bF (clL l)≤6000000):ck Tryz.prog TP 23 [.lst l.length 4 (clL l)] (.lst (clK l).length 11 (exL (clK l))):=by
 obtain⟨xs,rfl,c⟩:∃xs,xs=clK l∧ck Tryz.prog TP 23 [.lst l.length 4 (clL l)] (.lst xs.length 11 (exL xs)):=by
  refine nq Tryz.func23 (by decide) cf23_ok rfl (bO (pxC l) px0) rfl rfl ?_
  have hn:=eS l
  repeat' (first
   |(refine WLg.mk ?_;first
   |refine aa rfl rfl rfl rfl ?_)
   |refine ah ?_|refine ac rfl ?_|refine ai ?_|refine ae ?_|refine aj ?_|refine bE.norm ?_|fail)
  refine av (bR (l:=fr23 l [] 0) KH) ?_
  refine aw l.length (fun i x h=>∃xs,xs=clK (l.take i)∧x=fr23 l xs i∧h=HA xs) ?_ (i:=0) (Nat.zero_le _) ⟨[],rfl,rfl,rfl⟩
  rintro i _ _ hi ⟨xs,hxs,rfl,rfl⟩
  have hi2:i<9223372036854775807:=by omega
  have hxl:xs.length≤6000000:=by
   have h1:=gH (l.take i)
   have h2:=kB l i
   rw [←hxs]at h1
   exact fX _ _ (by omega)
  have hxp:i<l.length→xs.length+(bL l i).pats.length≤50000000:=fun h=>by
   have:=jr (ltb h)
   have:=ff (bL l i)
   have:=fX (bL l i).pats 6000000 (by omega)
   omega
  repeat' (first
   |(refine WLg.mk ?_;first
   |refine aa rfl rfl rfl rfl ?_|refine aa rfl rfl (bM Hy) rfl ?_|refine ab rfl rfl (eP Hy rfl) rfl ?_
   |refine aM (ys:=(bL l i).pats) rfl rfl (hxp (bK Hy)) KP KP rfl ?_)
   |refine ah ?_|refine ac rfl ?_|refine ai ?_|refine ae ?_|refine aj ?_|refine al ?_
   |refine ak rfl (fun ht=>?_) (fun ht=>?_)|refine au ?_|refine ap ?_|refine bE.norm ?_|refine bE.exit ?_
   |refine OnC.exit ?_|fail)
  ·have hlt:=bK ht
   have hb:=ltb hlt
   have hle:=jr hb
   have hsz:=ff (bL l i)
   have hp:=fX (bL l i).pats 6000000 (by omega)
   have hg0:=ky (bL l i).guards
   refine av (bR (l:=fr23g l (xs++(bL l i).pats) i 0) KH) ?_
   refine aw (bL l i).guards.length (fun k x h=>∃zs,zs=(xs++(bL l i).pats)++gdK ((bL l i).guards.take k)∧x=fr23g l zs i k∧h=HA zs) ?_ (i:=0) (Nat.zero_le _) ⟨_,by simp [gdK],rfl,rfl⟩
   rintro k _ _ hk ⟨zs,hzs,rfl,rfl⟩
   have hk2:k<9223372036854775807:=by omega
   have hzl:zs.length≤18000000:=by
    have h1:=wC ((bL l i).guards.take k)
    have h2:=tn (bL l i).guards k
    have h3:=fX _ 6000000 (show bF (exL (gdK ((bL l i).guards.take k)))≤6000000 by omega)
    rw [hzs,List.length_append,List.length_append]
    omega
   have hzg:k<(bL l i).guards.length→zs.length+(dm (bL l i).guards k).length≤50000000:=fun h=>by
    have:=yn (ltb h)
    have:=fX (dm (bL l i).guards k) 6000000 (by omega)
    omega
   have hbl:(cR (bL l i).body).length≤6000000:=fX _ _ (by have:=gA (bL l i).body;omega)
   repeat' (first
    |(refine WLg.mk ?_;first
    |refine aa rfl rfl rfl rfl ?_|refine aa rfl rfl (bM Hy) rfl ?_|refine ab rfl rfl (eP hb rfl) rfl ?_
    |refine ab rfl rfl (d5 (j:=0) (qF Hy) rfl _) rfl ?_|refine aq rfl rfl rfl (f42 (bL l i).body (by omega)) rfl ?_
    |refine aM (ys:=(dm (bL l i).guards k)) rfl rfl (hzg (bK Hy)) KP KP rfl ?_
    |refine aM (ys:=(cR (bL l i).body)) rfl rfl (by omega) KP KP rfl ?_)
    |refine ah ?_|refine ac rfl ?_|refine ai ?_|refine ae ?_|refine aj ?_|refine al ?_
    |refine ak rfl (fun ht=>?_) (fun ht=>?_)|refine au ?_|refine bE.norm ?_|refine bE.exit ?_|refine OnC.exit ?_|fail)
   ·have hklt:=bK (by assumption:ltI (Int.ofNat k) (Int.ofNat (bL l i).guards.length)=true)
    exact .norm ⟨_,_,bR KH,hklt,_,by rw [Bq hklt,hzs,List.append_assoc],rfl,rfl⟩
   ·have hke:k=(bL l i).guards.length:=by have:=ci (by assumption:ltI (Int.ofNat k) (Int.ofNat (bL l i).guards.length)=false);omega
    exact .norm ⟨_,_,bR KH,hlt,_,by rw [BY hlt,hzs,hke,List.take_length,hxs];simp only [List.append_assoc],rfl,rfl⟩
  ·have hie:i=l.length:=by have:=ci ht;omega
   exact⟨.inr rfl,_,by rw [hxs,hie,List.take_length],rfl,rfl,by omega⟩
 exact c
end
section
def bX(x:Ex):List Ex:=
 if x.kind=17 then clK x.clauses++x.items++cR x.after
 else if x.kind=8 then mN x.segs
 else x.items++cR x.body++clK x.clauses++clK x.catches++cR x.after
theorem oP{a b:Int}(h:eqI a b=true):a=b:=by rw [jo]at h;simpa using h
theorem sq{a b:Int}(h:eqI a b=false):a≠b:=by rw [jo]at h;simpa using h
theorem DN{a b:Int}(h:(!eqI a b)=true):a≠b:=sq (by cases q:eqI a b with|true=>rw [q]at h;cases h|false=>rfl)
theorem qr{a b:Int}(h:(!eqI a b)=false):a=b:=oP (by cases q:eqI a b with|true=>rfl|false=>rw [q]at h;cases h)
noncomputable section
def fr44(x:Ex)(xs:List Ex)(i:Nat):AL:=[(1,.eptr (exO x) 0),(3,mc xs),(4,.int .i64 (Int.ofNat i))]
end
set_option maxHeartbeats 4000000 in
theorem f44(x:Ex)(hx:bF (exO x)≤6000000):ck Tryz.prog TP 44 [.agg (exO x)] (.lst (bX x).length 11 (exL (bX x))):=by
 obtain⟨xs,rfl,c⟩:∃xs,xs=bX x∧ck Tryz.prog TP 44 [.agg (exO x)] (.lst xs.length 11 (exL xs)):=by
  refine nq Tryz.func44 (by decide) cf44_ok rfl (bO (pxe x) px0) rfl rfl ?_
  have hsz:=dL x
  have g1:(clK x.clauses).length≤6000000:=fX _ _ (by have:=gH x.clauses;omega)
  have g2:(clK x.catches).length≤6000000:=fX _ _ (by have:=gH x.catches;omega)
  have g3:(cR x.body).length≤6000000:=fX _ _ (by have:=gA x.body;omega)
  have g4:(cR x.after).length≤6000000:=fX _ _ (by have:=gA x.after;omega)
  have g5:x.items.length≤6000000:=fX _ _ (by omega)
  have c1:=f23 x.clauses (by omega)
  have c2:=f23 x.catches (by omega)
  have c3:=f42 x.body (by omega)
  have c4:=f42 x.after (by omega)
  repeat' (first
   |(refine WLg.mk ?_;first
   |refine aa rfl rfl rfl rfl ?_|refine ab rfl rfl rfl rfl ?_
   |refine az rfl rfl RA rfl PB rfl ?_
   |refine aq rfl rfl rfl (c1) rfl ?_|refine aq rfl rfl rfl (c2) rfl ?_|refine aq rfl rfl rfl (c3) rfl ?_
   |refine aq rfl rfl rfl (c4) rfl ?_
   |refine aM (xs:=[]) (ys:=clK x.clauses) rfl rfl (by simp;omega) KP KP rfl ?_
   |refine aM (xs:=[]) (ys:=x.items) rfl rfl (by simp;omega) KP KP rfl ?_
   |refine aM (ys:=x.items) rfl rfl (by simp only [List.length_append,List.length_nil];omega) KP KP rfl ?_
   |refine aM (ys:=cR x.after) rfl rfl (by simp only [List.length_append,List.length_nil];omega) KP KP rfl ?_
   |refine aM (ys:=cR x.body) rfl rfl (by simp only [List.length_append,List.length_nil];omega) KP KP rfl ?_
   |refine aM (ys:=clK x.clauses) rfl rfl (by simp only [List.length_append,List.length_nil];omega) KP KP rfl ?_
   |refine aM (ys:=clK x.catches) rfl rfl (by simp only [List.length_append,List.length_nil];omega) KP KP rfl ?_)
   |refine ah ?_|refine ac rfl ?_|refine ai ?_|refine ae ?_|refine aj ?_|refine al ?_
   |refine ak rfl (fun ht=>?_) (fun ht=>?_)|refine ap ?_|refine bE.norm ?_|refine bE.ret ?_|fail)
  ·have hk:=oP ht
   refine⟨.inr rfl,_,?_,rfl,rfl,by simp only [List.length_append,List.length_nil];omega⟩
   rw [bX,if_pos hk,List.nil_append]
  ·rename_i ht17
   have hk:=sq ht17
   have hk8:=oP ht
   have hs:=fX (mN x.segs) 6000000 (by have:=mM x.segs;omega)
   have hn:=iQ x.segs
   refine av (bR (l:=fr44 x [] 0) KH) ?_
   refine aw x.segs.length (fun i y h=>∃xs,xs=mN (x.segs.take i)∧y=fr44 x xs i∧h=HA xs) ?_ (i:=0) (Nat.zero_le _) ⟨[],rfl,rfl,rfl⟩
   rintro i _ _ hi ⟨xs,hxs,rfl,rfl⟩
   have hi2:i<9223372036854775807:=by omega
   have hxl:xs.length≤6000000:=by
    have h1:=mM (x.segs.take i)
    have h2:=mL x.segs i
    rw [←hxs]at h1
    exact fX _ _ (by omega)
   repeat' (first
    |(refine WLg.mk ?_;first
    |refine aa rfl rfl rfl rfl ?_|refine aa rfl rfl (bM Hy) rfl ?_|refine ab rfl rfl (eT Hy rfl) rfl ?_
    |refine ab rfl rfl (d7 Hy rfl) rfl ?_|refine ab rfl rfl (li Hy rfl) rfl ?_|refine ab rfl rfl rfl rfl ?_
    |refine aQ (cs:=exO (ce x.segs i).val++[]) rfl rfl rfl rfl rfl rfl (nk (ce x.segs i).val) rfl ?_
    |refine aQ (cs:=exO (ce x.segs i).size++[]) rfl rfl rfl rfl rfl rfl (nk (ce x.segs i).size) rfl ?_
    |refine aX (y:=(ce x.segs i).val) rfl rfl (by omega) KP KP rfl ?_
    |refine aX (y:=(ce x.segs i).size) rfl rfl (by omega) KP KP rfl ?_
    |refine aX (y:=(ce x.segs i).size) rfl rfl (by simp only [List.length_append,List.length_cons,List.length_nil];omega) KP KP rfl ?_)
    |refine ah ?_|refine ac rfl ?_|refine ai ?_|refine ae ?_|refine aj ?_|refine al ?_
    |refine ak rfl (fun ht=>?_) (fun ht=>?_)|refine au ?_|refine ap ?_|refine bE.norm ?_|refine bE.ret ?_
    |refine bE.exit ?_|refine OnC.exit ?_|fail)
   ·rename_i hA hB
    have hlt:=bK hA
    exact .norm ⟨_,_,bR KH,hlt,_,by rw [lJ hlt,if_neg (DN hB),if_pos ht,hxs,List.append_assoc],rfl,rfl⟩
   ·rename_i hA hB
    have hlt:=bK hA
    exact .norm ⟨_,_,bR KH,hlt,_,by rw [lJ hlt,if_neg (DN hB),if_neg (by rw [ht];decide),hxs,List.append_nil],rfl,rfl⟩
   ·rename_i hA hB
    have hlt:=bK hA
    exact .norm ⟨_,_,bR KH,hlt,_,by rw [lJ hlt,if_pos (qr hB),if_pos ht,hxs,List.nil_append],rfl,rfl⟩
   ·rename_i hA hB
    have hlt:=bK hA
    exact .norm ⟨_,_,bR KH,hlt,_,by rw [lJ hlt,if_pos (qr hB),if_neg (by rw [ht];decide),hxs,List.append_nil,List.append_nil],rfl,rfl⟩
   ·have hie:i=x.segs.length:=by have:=ci ht;omega
    exact⟨.inr rfl,_,by rw [bX,if_neg hk,if_pos hk8,hxs,hie,List.take_length],rfl,rfl,by omega⟩
  ·rename_i ht17
   have hk:=sq ht17
   have hk8:=sq ht
   refine⟨.inr rfl,_,?_,rfl,rfl,by simp only [List.length_append,List.length_nil];omega⟩
   rw [bX,if_neg hk,if_neg hk8,List.nil_append]
 exact c
theorem iA(x:Ex):bF (exL (bX x))+11≤bF (exO x):=by
 have hsz:=dL x
 have h1:=gH x.clauses
 have h2:=gH x.catches
 have h3:=gA x.body
 have h4:=gA x.after
 have h5:=mM x.segs
 unfold bX
 split
 ·simp only [dT,bY];omega
 ·split
  ·omega
  ·simp only [dT,bY];omega
theorem gR{l:List Ex}{y:Ex}(h:y∈l):bF (exO y)≤bF (exL l):=by
 induction l with
 |nil=>cases h
 |cons a l ih=>
  rw [cN,bY]
  rcases List.mem_cons.1 h with rfl|h
  ·omega
  ·have:=ih h;omega
theorem jX{x y:Ex}(h:y∈bX x):bF (exO y)<bF (exO x):=by
 have:=gR h
 have:=iA x
 omega
def cnt(x:Ex):Nat:=1+((bX x).attach.map fun y=>cnt y.1).sum
termination_by bF (exO x)
decreasing_by exact jX y.2
def dep(x:Ex):Nat:=1+((bX x).attach.map fun y=>dep y.1).foldl max 0
termination_by bF (exO x)
decreasing_by exact jX y.2
theorem xf(x:Ex):cnt x=1+((bX x).map cnt).sum:=by
 rw [cnt,List.attach_map_val (l:=bX x) (f:=cnt)]
theorem tw(x:Ex):dep x=1+((bX x).map dep).foldl max 0:=by
 rw [dep,List.attach_map_val (l:=bX x) (f:=dep)]
theorem jL{f:Ex→Nat}:∀{l:List Ex},(∀y,y∈l→f y≤bF (exO y))→(l.map f).sum≤bF (exL l)
 |[],_=>by simp
 |a ::l,h=>by
  have h1:=h a List.mem_cons_self
  have h2:=jL (l:=l) fun y hy=>h y (List.mem_cons_of_mem _ hy)
  rw [cN,bY,List.map_cons,List.sum_cons]
  omega
theorem tG(x:Ex):cnt x≤bF (exO x):=by
 have key:∀n (x:Ex),bF (exO x)≤n→cnt x≤bF (exO x):=by
  intro n
  induction n with
  |zero=>intro x h;have:=hO x;omega
  |succ n ih=>
   intro x h
   rw [xf]
   have:=jL (f:=cnt) (l:=bX x) fun y hy=>ih y (by have:=jX hy;omega)
   have:=iA x
   omega
 exact key _ x (Nat.le_refl _)
theorem max_le{f:Ex→Nat}{b:Nat}:∀{l:List Ex} {a:Nat},a≤b→(∀y,y∈l→f y≤b)→(l.map f).foldl max a≤b
 |[],a,h,_=>h
 |x ::l,a,h,k=>max_le (l:=l) (Nat.max_le.2 ⟨h,k x List.mem_cons_self⟩) fun y hy=>k y (List.mem_cons_of_mem _ hy)
theorem E6(x:Ex):dep x≤bF (exO x):=by
 have key:∀n (x:Ex),bF (exO x)≤n→dep x≤bF (exO x):=by
  intro n
  induction n with
  |zero=>intro x h;have:=hO x;omega
  |succ n ih=>
   intro x h
   rw [tw]
   have:=iA x
   have:=max_le (f:=dep) (l:=bX x) (a:=0) (b:=bF (exO x)-11) (Nat.zero_le _) fun y hy=>by
    have h1:=ih y (by have:=jX hy;omega)
    have h2:=gR hy
    omega
   have:=hO x
   omega
 exact key _ x (Nat.le_refl _)
end
end Ev
end Go.Proofs.YtdfphfdnoobikaaGreatDoor
