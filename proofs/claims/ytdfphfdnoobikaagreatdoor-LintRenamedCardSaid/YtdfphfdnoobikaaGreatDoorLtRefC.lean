/-
  The reference:Check.
-/
import Derived.Test.YtdfphfdnoobikaaGreatDoorLtRv
namespace Go.Proofs.YtdfphfdnoobikaaGreatDoor
namespace Ev
section
noncomputable section
def fr22(m:Md)(i:Nat):AL:=[(1,.eptr (mdO m) 0),(3,.int .i64 (Int.ofNat i))]
def fr22f(m:Md)(i:Nat):AL:=[(1,.eptr (mdO m) 0),(4,.int .i64 (Int.ofNat i))]
end
theorem gR{n:Nat}(h:eqI (Int.ofNat n) 0=false):Nat.blt 0 n=true:=by
 have:=vq h;exact ltb (by
  have:Int.ofNat n≠0:=this;simp at this;omega)
def NmC(l:List Cl):Prop:=∀c,c∈l->nmV c.name.size (ck c.name.data.toList)=true
def NmF(l:List Fu):Prop:=∀f,f∈l->NmC f.clauses/\∀y,y∈clK f.clauses->dV y
set_option maxHeartbeats 4000000 in
theorem f41n(l:List Cl)(A:bS (clL l)<=6000000):∃b,CP 41 [.lst l.length 4 (clL l),.int .i64 (-1),.bool true] (.bool b)/\(b=true->NmC l):=by
 have R:=vQ 6000001 (by omega);have m:∀{f:FuncId} {vs:List V} {P:Prop},VB f vs P->jj f vs:=λh=>Kw ⟨_,h.choose_spec.1,_,rfl⟩;have B:l.length<9223372036854775808:=by have:=fR l;omega
 obtain⟨v,k,b,rfl,ok⟩:∃v,CP 41 [.lst l.length 4 (clL l),.int .i64 (-1),.bool true] v/\∃b,v= .bool b/\(b=true->NmC l):=by
  refine eF Tryz.func41 (by decide) q41.2 rfl (cg (pxC l) (cg (.flat rfl) (cg (.flat rfl) px0))) rfl ?_
  repeat' (first
   |apply ab|apply ae|apply aa|apply ai|refine ac ?_|apply thN)
  refine az (cS (l:=fr41 l (-1) true 0) KT rfl) ?_;refine aA l.length (λi x h=>(x=fr41 l (-1) true i/\NmC (l.take i))/\h=H0) ?_ (i:=0) (Nat.zero_le _) ⟨⟨rfl,λc hc=>by simp at hc⟩,rfl⟩;rintro i _ _ hi ⟨⟨rfl,seen⟩,rfl⟩;cases q:ltI (Int.ofNat i) (Int.ofNat l.length)with
  |false=>
   have o:i=l.length:=by have:=cC q;omega
   rw [o,List.take_length]at seen
   repeat' (first
    |apply ab|apply ae|apply aa|refine ah rfl (λa=>Nt a) (λa=>?_)|apply ax|apply am|apply thN|apply thE|refine ac ?_|apply onE)
   exact⟨.inr rfl,_,rfl,.flat rfl,true,rfl,λ_=>seen⟩
  |true=>
   have n:=bX q;have w:=oh q;have u:=gM (bV l i);have s:=j0 (bV l i).guards;have r:(bV l i).guards.length<9223372036854775808:=by omega
   have d:=f40 (bV l i).name.size (ck (bV l i).name.data.toList) (by omega);have g:=m (R.all (bV l i).pats (by omega));have p:=m (R.body (bV l i).body (by omega));have e:∀k,Nat.blt k (bV l i).guards.length=true->jj 54 [.lst (dm (bV l i).guards k).length 11 (exL (dm (bV l i).guards k))]:=λk h=>m (R.all _ (by have:=tq h;omega));cases z:nmV (bV l i).name.size (ck (bV l i).name.data.toList)with
   |false=>
    rw [z]at d
    repeat' (first
     |(refine WLg.mk ?_;first
     |refine ac ?_|refine av rfl rfl (ce Hy) rfl ?_|refine au ?_|refine ap rfl rfl (eV Hy) rfl ?_|refine aI rfl rfl rfl rfl rfl ?_|refine aS rfl rfl rfl rfl rfl rfl rfl rfl rfl ?_|refine ay d ?_)|apply ab|refine aj rfl ?_|refine aB rfl rfl ?_|apply ae|apply aa|apply ai|apply ak|refine aF rfl ?_|refine ah rfl (λa=>?_) (λa=>Nf a)|apply am|apply thN|apply thR|apply onR|fail)
    all_goals exact⟨.inr rfl,_,rfl,.flat rfl,false,rfl,λh=>by cases h⟩
   |true=>
    rw [z]at d;have nx:NmC (l.take (i+1)):=λc hc=>by
     rw [List.take_add_one,show l[i]? =some (bV l i)from cP q]at hc;rcases List.mem_append.1 hc with hc|hc
     ·exact seen c hc
     ·have:c=bV l i:=by simpa using hc
      rw [this];exact z
    repeat' (first
     |(refine WLg.mk ?_;first
     |refine ac ?_|refine av rfl rfl (ce Hy) rfl ?_|refine au ?_|refine ap rfl rfl (eV Hy) rfl ?_|refine aI rfl rfl rfl rfl rfl ?_|refine aS rfl rfl rfl rfl rfl rfl rfl rfl rfl ?_|refine ay d ?_|refine ay g ?_|refine ay p ?_)|apply ab|refine aj rfl ?_|refine aB rfl rfl ?_|refine aC rfl (λa=>?_) (λa=>?_)|refine bz (t:=58) (λb=>rfl) ?_ (λb=>?_)|apply ae|apply aa|apply ai|apply ak|refine ah rfl (λa=>?_) (λa=>Nf a)|refine ah rfl (λa=>?_) (λa=>?_)|apply am|apply thN|apply thR|apply onR|exact⟨⟨_,rfl⟩,rfl⟩|fail)
    ·exact⟨.inr rfl,_,rfl,.flat rfl,false,rfl,λh=>by cases h⟩
    refine az (HE (k:=1) (cs:=clO (bV l i)) (l:=fr41' l (-1) true i 0) (by repeat' (first|exact .nil|refine .fz rfl ?_|refine .cons rfl ?_ ?_|refine .cons (mG Hy Hy) ?_ ?_|exact .flat rfl|exact pxE _|exact pxS _|exact pxC _|exact pxM _|exact pxG _|exact pxL _|exact pxe _|exact pxq _|exact pxqs _|exact II _|exact pxqm _|exact pxs _|exact pxc _|exact pxm _|assumption)) rfl rfl rfl (by first|exact λc hc=>(dQ _ c hc).x|exact λc hc=>(fH _ c hc).x|exact λc hc=>(hO _ c hc).x|exact λc hc=>(ko _ c hc).x) rfl) ?_;refine aA (bV l i).guards.length (λk x h=>x=fr41' l (-1) true i k/\h=H0) ?_ (i:=0) (Nat.zero_le _) ⟨rfl,rfl⟩;rintro k _ _ y ⟨rfl,rfl⟩
    repeat' (first
     |(refine WLg.mk ?_;first
     |refine ac ?_|refine av rfl rfl (ce Hy) rfl ?_|refine au ?_|refine ap rfl rfl (dY (j:=0) (nD Hy) rfl _) rfl ?_|refine aL rfl rfl rfl (e _ Hy) rfl ?_)|apply ab|refine aj rfl ?_|refine aB rfl rfl ?_|refine aC rfl (λa=>?_) (λa=>?_)|refine bz (t:=81) (λb=>rfl) ?_ (λb=>?_)|apply ae|apply aa|apply ai|apply ak|refine ah rfl (λa=>?_) (λa=>?_)|apply ax|apply am|apply thN|apply thR|apply thE|apply onR|apply onE|exact⟨⟨_,rfl⟩,rfl⟩|fail)
    all_goals first
     |exact⟨.inr rfl,_,rfl,.flat rfl,false,rfl,λh=>by cases h⟩|exact .norm ⟨_,_,cS KT rfl,bX Hy,rfl,rfl⟩|exact .norm ⟨_,_,cS KT rfl,n,⟨rfl,nx⟩,rfl⟩
 exact⟨b,k,ok⟩
set_option maxHeartbeats 4000000 in
theorem f22(m:Md)(w:bS (mdO m)<=6000000):∃b,CP 22 [.agg (mdO m)] (.bool b)/\(b=true->NmF m.funcs):=by
 obtain⟨v,k,b,rfl,ok⟩:∃v,CP 22 [.agg (mdO m)] v/\∃b,v= .bool b/\(b=true->NmF m.funcs):=by
  refine eF Tryz.func22 (by decide) q22.2 rfl (cg (.agg (gY m)) px0) rfl ?_;have px:=gY m;have p:bY (.eptr (mdO m) 0):= .eptr px;have n:=pG m;have g:=f40 m.name.size (ck m.name.data.toList) (by omega);have s:=vH m.exports;have r:=pL m.funcs
  repeat' (first
   |(refine WLg.mk ?_;first
   |refine ac ?_|refine au ?_|refine aV rfl rfl rfl rfl px rfl ?_|refine ay g ?_)|apply ab|refine aj rfl ?_|refine aB rfl rfl ?_|refine aC rfl (λa=>?_) (λa=>?_)|refine bz (t:=19) (λb=>rfl) ?_ (λb=>?_)|apply ae|apply aa|apply ai|apply ak|refine ah rfl (λa=>?_) (λa=>?_)|apply am|apply thN|apply thR|exact⟨⟨_,rfl⟩,rfl⟩|fail)
  ·exact⟨.inr rfl,_,rfl,.flat rfl,false,rfl,λh=>by cases h⟩
  refine az (cS (l:=fr22 m 0) KT rfl) ?_;refine aA m.exports.length (λi x h=>x=fr22 m i/\h=H0) ?_ (i:=0) (Nat.zero_le _) ⟨rfl,rfl⟩;rintro i _ _ hi ⟨rfl,rfl⟩;have hi2:i<9223372036854775807:=by omega
  have d:i<m.exports.length->CP 40 [sV (dU m.exports i).name] (.bool (nmV (dU m.exports i).name.size (ck (dU m.exports i).name.data.toList))):=λh=>f40 _ _ (by have:=JG (ltb h);have:=DK (dU m.exports i);omega)
  repeat' (first
   |(refine WLg.mk ?_;first
   |refine ac ?_|refine av rfl rfl (ce Hy) rfl ?_|refine ap rfl rfl (HV Hy rfl) rfl ?_|refine au ?_|refine aL rfl rfl rfl (d (bX Hy)) rfl ?_)|apply ab|refine aj rfl ?_|refine aB rfl rfl ?_|refine aC rfl (λa=>?_) (λa=>?_)|refine bz (t:=52) (λb=>rfl) ?_ (λb=>?_)|apply ae|apply aa|apply ai|apply ak|refine ah rfl (λa=>?_) (λa=>?_)|apply ax|apply am|apply thN|apply thR|apply thE|apply onR|apply onE|exact⟨⟨_,rfl⟩,rfl⟩|fail)
  ·exact⟨.inr rfl,_,rfl,.flat rfl,false,rfl,λh=>by cases h⟩
  ·exact .norm ⟨_,_,cS KI rfl,bX Hy,rfl,rfl⟩
  ·refine az (cS (l:=fr22f m 0) KT rfl) ?_
   refine aA m.funcs.length (λi x h=>(x=fr22f m i/\NmF (m.funcs.take i))/\h=H0) ?_ (i:=0) (Nat.zero_le _) ⟨⟨rfl,λf c=>by simp at c⟩,rfl⟩;clear hi hi2 d a;rintro i _ _ hi ⟨⟨rfl,seen⟩,rfl⟩;have hi2:i<9223372036854775807:=by omega
   cases q:ltI (Int.ofNat i) (Int.ofNat m.funcs.length)with
   |false=>
    have j:i=m.funcs.length:=by have:=cC q;omega
    rw [j,List.take_length]at seen
    repeat' (first
     |apply ab|apply ae|apply aa|refine ah rfl (λa=>Nt a) (λa=>?_)|apply ax|apply am|apply thN|apply thE|refine ac ?_|refine au ?_|apply onE)
    exact⟨.inr rfl,_,rfl,.flat rfl,true,rfl,λ_=>seen⟩
   |true=>
    have e:=bX q;obtain⟨b,c41,o⟩:=VB.and (f41n (cX m.funcs i).clauses (by have:=rn (ltb e);have:=jJ (cX m.funcs i);omega)) ((vQ 6000001 (by omega)).cls (cX m.funcs i).clauses (-1) true (by have:=rn (ltb e);have:=jJ (cX m.funcs i);omega));have u:=oM (cX m.funcs i);cases b with
    |false=>
     repeat' (first
      |apply ab|apply ae|apply aa|apply ai|apply ak|refine aF rfl ?_|refine ah rfl (λa=>?_) (λa=>Nf a)|apply am|refine aP ?_|apply thN|apply thR|apply onR|refine ac ?_|refine av rfl rfl (ce Hy) rfl ?_|refine ap rfl rfl (i7 Hy) rfl ?_|refine au ?_|refine aN ?_|(show WX _ _ _ _ _ _ _ _ _ _;first|refine bn rfl rfl rfl ?_|refine bt rfl rfl rfl ?_|refine aH ?_|refine aM ?_|refine aR c41 ?_|(fail_if_success refine WX.gt rfl ?_);refine bp rfl rfl rfl (λa=>?_) (λa=>?_)|refine aO (by repeat' (first|exact bR.nil|refine bR.any (λh=>rfl) ?_|refine bR.first rfl ?_|refine bR.first (i7 Hy) ?_|refine bR.snd (i7 Hy) ?_|refine bR.any (λh=>i7 Hy) ?_|refine bR.first (dy (i:=0) (gR Hy) rfl) ?_|refine bR.snd (dy (i:=0) (gR Hy) rfl) ?_|refine bR.any (λh=>dy (i:=0) (gR Hy) rfl) ?_|refine bR.each (.cons rfl .nil) ?_|refine bR.each (.cons rfl (.cons rfl .nil)) ?_|refine bR.each (.cons rfl (.cons rfl (.cons rfl .nil))) ?_)) ?_)|fail)
     all_goals exact⟨.inr rfl,_,rfl,.flat rfl,false,rfl,λh=>by cases h⟩
    |true=>
     have nx:NmF (m.funcs.take (i+1)):=λf c=>by
      rw [List.take_add_one,show m.funcs[i]? =some (cX m.funcs i)from cP q]at c;rcases List.mem_append.1 c with c|c
      ·exact seen f c
      ·have:f=cX m.funcs i:=by simpa using c
       rw [this];exact o rfl
     repeat' (first
      |apply ab|apply ae|apply aa|apply ai|apply ak|refine aF rfl ?_|refine ah rfl (λa=>?_) (λa=>Nf a)|refine ah rfl (λa=>?_) (λa=>?_)|apply am|refine aP ?_|apply thN|apply thR|apply onR|refine ac ?_|refine av rfl rfl (ce Hy) rfl ?_|refine ap rfl rfl (i7 Hy) rfl ?_|refine au ?_|refine aN ?_|(show WX _ _ _ _ _ _ _ _ _ _;first|refine bn rfl rfl rfl ?_|refine bt rfl rfl rfl ?_|refine aU rfl rfl (ce (i:=0) (gR Hy)) rfl ?_|refine aH ?_|refine aQ rfl rfl (dy (i:=0) (gR Hy) rfl) rfl ?_|refine aM ?_|refine aR c41 ?_|(fail_if_success refine WX.gt rfl ?_);refine bp rfl rfl rfl (λa=>?_) (λa=>?_)|refine aO (by repeat' (first|exact bR.nil|refine bR.any (λh=>rfl) ?_|refine bR.first rfl ?_|refine bR.first (i7 Hy) ?_|refine bR.snd (i7 Hy) ?_|refine bR.any (λh=>i7 Hy) ?_|refine bR.first (dy (i:=0) (gR Hy) rfl) ?_|refine bR.snd (dy (i:=0) (gR Hy) rfl) ?_|refine bR.any (λh=>dy (i:=0) (gR Hy) rfl) ?_|refine bR.each (.cons rfl .nil) ?_|refine bR.each (.cons rfl (.cons rfl .nil)) ?_|refine bR.each (.cons rfl (.cons rfl (.cons rfl .nil))) ?_)) ?_)|fail)
     all_goals first
      |exact⟨.inr rfl,_,rfl,.flat rfl,false,rfl,λh=>by cases h⟩|exact .norm ⟨_,_,cS KI rfl,e,⟨rfl,nx⟩,rfl⟩
 exact⟨b,k,ok⟩
def mn(f:Fu):Nat:=((clK f.clauses).map cnt).sum
def fnn(f:Fu):Nat:=((clK f.clauses).map λy=>(eJ y).length).sum
theorem Ka(f:Fu):mn f<=bS (fuO f):=by
 have h1:=lG (f:=cnt) (l:=clK f.clauses) λy _=>wH y;have h2:=iP f.clauses;have a:=jJ f;unfold mn;omega
theorem Jb(f:Fu):fnn f<=bS (fuO f):=by
 have h1:=lG (f:=λy=>(eJ y).length) (l:=clK f.clauses) λy _=>kG y;have h2:=iP f.clauses;have a:=jJ f;unfold fnn;omega
theorem pM{g:Fu->Nat}(h:∀f,g f<=bS (fuO f)):∀l:List Fu,(l.map g).sum<=bS (fuL l)
 |[]=>by simp
 |f ::l=>by
  have h1:=h f;have h2:=pM h l;show(g f+(l.map g).sum)<=bS (fuO f++fuL l);rw [cy];omega
theorem EU(l:List Fu)(i:Nat):bS (fuL (l.take i))<=bS (fuL l):=jV (f:=fuO) rfl (λ_ _=>rfl) l i
theorem BH{l:List Fu}{i:Nat}(h:i<l.length):l.take (i+1)=l.take i++[cX l i]:=by
 have:=cP (d:=fu0) (ltb h);rw [List.take_add_one,this];rfl
def Ic(l:List Fu):Prop:=∀f,f∈l->mn f<=4000/\∀y,y∈clK f.clauses->dep y<=60
noncomputable section
def fr11(m:Md)(a b:Nat)(i:Nat):AL:=[(1,.eptr (mdO m) 0),(3,.int .i64 (Int.ofNat a)),(4,.int .i64 (Int.ofNat b)),(5,.int .i64 (Int.ofNat i))]
def fr11k(m:Md)(a b:Nat)(i:Nat)(l:List Ex)(k:Nat):AL:=[(1,.eptr (mdO m) 0),(3,.int .i64 (Int.ofNat a)),(4,.int .i64 (Int.ofNat b)),(5,.int .i64 (Int.ofNat i)),(6,.lst l.length 11 (exL l)),(7,.int .i64 (Int.ofNat k))]
end
def AM(m:Md)(r:Int):Prop:=r=0->Ic m.funcs/\(m.funcs.map mn).sum<=20000/\(m.funcs.map fnn).sum<=1000/\NmF m.funcs/\m.funcs.length<=200
theorem jX{m:Md}{r:Int}(h:r≠0):AM m r:=λq=>absurd q h
set_option maxHeartbeats 8000000 in
theorem f11(m:Md)(W:bS (mdO m)<=6000000):∃r,CP 11 [.agg (mdO m)] (.int .i64 r)/\AM m r:=by
 obtain⟨v,c,r,rfl,ok⟩:∃v,CP 11 [.agg (mdO m)] v/\∃r,v= .int .i64 r/\AM m r:=by
  refine eF Tryz.func11 (by decide) q11.2 rfl (cg (.agg (gY m)) px0) rfl ?_;have px:=gY m;have p:bY (.eptr (mdO m) 0):= .eptr px;have R:=pG m;obtain⟨F,c22,g⟩:=f22 m W;have S:=pL m.funcs;cases F with
  |false=>
   repeat' (first
    |apply ab|apply ae|apply aa|refine aF rfl ?_|apply am|apply thN|refine ac ?_|refine au ?_|refine aV rfl rfl rfl rfl px rfl ?_|refine ay c22 ?_|apply thR)
   all_goals exact⟨.inr rfl,_,rfl,.flat rfl,_,rfl,jX (by decide)⟩
  |true=>
  have g:=g rfl
  repeat' (first
   |(refine WLg.mk ?_;first
   |refine ac ?_|refine au ?_|refine aV rfl rfl rfl rfl px rfl ?_|refine ay c22 ?_)|apply ab|refine aj rfl ?_|refine aB rfl rfl ?_|refine aC rfl (λa=>?_) (λa=>?_)|apply ae|apply aa|apply ai|apply ak|refine aF rfl ?_|refine aD rfl ?_|refine ah rfl (λa=>?_) (λa=>?_)|apply am|apply thN|apply thR|fail)
  ·exact⟨.inr rfl,_,rfl,.flat rfl,_,rfl,jX (by decide)⟩
  ·exact⟨.inr rfl,_,rfl,.flat rfl,_,rfl,jX (by decide)⟩
  ·have u:m.funcs.length<=200:=cC Hy
   refine az (cS (l:=fr11 m 0 0 0) KT rfl) ?_;refine aA m.funcs.length (λi x h=>(x=fr11 m (((m.funcs.take i).map mn).sum) (((m.funcs.take i).map fnn).sum) i/\Ic (m.funcs.take i))/\h=H0) ?_ (i:=0) (Nat.zero_le _) ⟨⟨rfl,λf h=>by simp at h⟩,rfl⟩;rintro i _ _ hi ⟨⟨rfl,seen⟩,rfl⟩;have hi2:i<9223372036854775807:=by omega
   have e:i<m.funcs.length->bS (clL (cX m.funcs i).clauses)<=5999993:=λh=>by have:=rn (ltb h);have:=jJ (cX m.funcs i);omega
   have c23:i<m.funcs.length->CP 23 [.lst (cX m.funcs i).clauses.length 4 (clL (cX m.funcs i).clauses)] (.lst (clK (cX m.funcs i).clauses).length 11 (exL (clK (cX m.funcs i).clauses))):=λh=>f23 _ (by have:=e h;omega);have t:i<m.funcs.length->jj 24 [.lst (cX m.funcs i).clauses.length 4 (clL (cX m.funcs i).clauses)]:=λh=>f24 _ (by have:=e h;have:=fR (cX m.funcs i).clauses;omega);have c25:i<m.funcs.length->CP 25 [.lst (clK (cX m.funcs i).clauses).length 11 (exL (clK (cX m.funcs i).clauses))] (.int .i64 (Int.ofNat (mn (cX m.funcs i)))):=λh=>f25 _ (by have:=e h;have:=iP (cX m.funcs i).clauses;omega)
   repeat' (first
    |(refine WLg.mk ?_;first
    |refine ac ?_|refine av rfl rfl (ce Hy) rfl ?_|refine ap rfl rfl (HW Hy rfl) rfl ?_|refine au ?_|refine aL rfl rfl rfl (c23 (bX Hy)) rfl ?_|refine aL rfl rfl rfl (t (bX Hy)) rfl ?_|refine aL rfl rfl rfl (c25 (bX Hy)) rfl ?_)|apply ab|refine aj rfl ?_|refine aB rfl rfl ?_|refine aC rfl (λa=>?_) (λa=>?_)|apply ae|apply aa|apply ai|apply ak|refine aF rfl ?_|refine ah rfl (λa=>?_) (λa=>?_)|apply ax|apply am|apply thN|apply thR|apply thE|apply onR|apply onE|fail)
   ·exact⟨.inr rfl,_,rfl,.flat rfl,_,rfl,jX (by decide)⟩
   ·exact⟨.inr rfl,_,rfl,.flat rfl,_,rfl,jX (by decide)⟩
   ·rename_i A z
    have d:=bX A;have C:mn (cX m.funcs i)<=4000:=by rw [iy]at a;simp at a;omega
    have Z:=pM Ka (m.funcs.take i);have U:=pM Jb (m.funcs.take i);have V:=EU m.funcs i;have h1:((m.funcs.take i).map mn).sum+mn (cX m.funcs i)<9223372036854775808:=by omega
    have Y:=e d;have G:=iP (cX m.funcs i).clauses;have J:=iA (clK (cX m.funcs i).clauses) 6000000 (by omega);have Q:=rn (ltb d);clear c23 t c25 e;refine az (cS (l:=fr11k m (((m.funcs.take i).map mn).sum+mn (cX m.funcs i)) (((m.funcs.take i).map fnn).sum+0) i (clK (cX m.funcs i).clauses) 0) (.cons rfl p (.cons (zM h1) (.flat rfl) (.cons rfl (.flat rfl) (.cons rfl (.flat rfl) (.cons rfl (pxE _) (.cons rfl (.flat rfl) .nil)))))) rfl) ?_;generalize O:clK (cX m.funcs i).clauses=L at J G ⊢;refine aA L.length (λk x h=>(x=fr11k m (((m.funcs.take i).map mn).sum+mn (cX m.funcs i)) (((m.funcs.take i).map fnn).sum+((L.take k).map λy=>(eJ y).length).sum) i L k/\∀y,y∈L.take k->dep y<=60)/\h=H0) ?_ (i:=0) (Nat.zero_le _) ⟨⟨rfl,λy h=>by simp at h⟩,rfl⟩;rintro k _ _ hk ⟨⟨rfl,j⟩,rfl⟩;have D:k<9223372036854775807:=by omega
    have o:k<L.length->bS (exO (cE L k))<6000001:=λh=>by have:=jo (jy h);omega
    have B:k<L.length->CP 26 [.agg (exO (cE L k))] (.lst (eJ (cE L k)).length 11 (exL (eJ (cE L k)))):=λh=>f26 _ (Nat.le_refl _) _ (o h);have I:k<L.length->CP 27 [.agg (exO (cE L k))] (.int .i64 (Int.ofNat (dep (cE L k)))):=λh=>f27 _ (Nat.le_refl _) _ (o h);have c28:k<L.length->jj 28 [.agg (exO (cE L k))]:=λh=>f28 _ (Nat.le_refl _) _ (o h);have T:∀{n k:Nat},(ltI (Int.ofNat k) (Int.ofNat n)=true)->k<n:=λh=>bX h
    repeat' (first
     |(refine WLg.mk ?_;first
     |refine ac ?_|refine av rfl rfl (ce Hy) rfl ?_|refine ap rfl rfl (dF Hy) rfl ?_|refine aL rfl rfl rfl (B (bX Hy)) rfl ?_|refine aL rfl rfl rfl (I (bX Hy)) rfl ?_|refine aL rfl rfl rfl (c28 (bX Hy)) rfl ?_)|apply ab|refine aj rfl ?_|refine aB rfl rfl ?_|refine aC rfl (λa=>?_) (λa=>?_)|apply ae|apply aa|apply ai|apply ak|refine aF rfl ?_|refine ah rfl (λa=>?_) (λa=>?_)|apply ax|apply am|apply thN|apply thR|apply thE|apply onR|apply onE|fail)
    ·exact⟨.inr rfl,_,rfl,.flat rfl,_,rfl,jX (by decide)⟩
    ·exact⟨.inr rfl,_,rfl,.flat rfl,_,rfl,jX (by decide)⟩
    ·rename_i hC P
     have b:=bX hC;have K:dep (cE L k)<=60:=by rw [iy]at P;simp at P;omega
     have e1:=lG (f:=λy=>(eJ y).length) (l:=L.take k) λy _=>kG y;have e2:=ls L k;have e3:=kG (cE L k);have e4:=jo (jy b);have h2:(((m.funcs.take i).map fnn).sum+((L.take k).map λy=>(eJ y).length).sum)+(eJ (cE L k)).length<9223372036854775808:=by omega
     refine .norm ⟨_,_,cS (l:=fr11k m (((m.funcs.take i).map mn).sum+mn (cX m.funcs i)) ((((m.funcs.take i).map fnn).sum+((L.take k).map λy=>(eJ y).length).sum)+(eJ (cE L k)).length) i L (k+1)) (.cons rfl p (.cons rfl (.flat rfl) (.cons (zM h2) (.flat rfl) (.cons rfl (.flat rfl) (.cons rfl (pxE _) (.cons (dj D) (.flat rfl) .nil)))))) rfl,b,⟨?_,λy s=>?_⟩,rfl⟩
     ·rw [nP b,List.map_append,List.sum_append,<-Nat.add_assoc]
      rfl
     ·rw [nP b]at s
      rcases List.mem_append.1 s with s|s
      ·exact j y s
      ·rw [List.mem_singleton.1 s];exact K
    ·have E:k=L.length:=by have:=cC a;omega
     rw [E,List.take_length]at j ⊢;have M:fnn (cX m.funcs i)=(L.map λy=>(eJ y).length).sum:=by rw [fnn,O]
     refine .norm ⟨_,_,cS (l:=fr11 m (((m.funcs.take i).map mn).sum+mn (cX m.funcs i)) (((m.funcs.take i).map fnn).sum+(L.map λy=>(eJ y).length).sum) (i+1)) (.cons rfl p (.cons rfl (.flat rfl) (.cons rfl (.flat rfl) (.cons (dj hi2) (.flat rfl) .nil)))) rfl,d,⟨?_,λf q=>?_⟩,rfl⟩
     ·rw [BH d,List.map_append,List.map_append,List.sum_append,List.sum_append,<-M]
      rfl
     ·rw [BH d]at q
      rcases List.mem_append.1 q with q|q
      ·exact seen f q
      ·rw [List.mem_singleton.1 q,O]
       exact⟨C,j⟩
   ·exact⟨.inr rfl,_,rfl,.flat rfl,_,rfl,jX (by decide)⟩
   ·exact⟨.inr rfl,_,rfl,.flat rfl,_,rfl,jX (by decide)⟩
   ·rename_i A z
    have w:i=m.funcs.length:=by have:=cC A;omega
    rw [w,List.take_length]at z seen;rw [w,List.take_length]at a;refine⟨.inr rfl,_,rfl,.flat rfl,_,rfl,λ_=>⟨seen,?_,?_,g,u⟩⟩
    ·rw [iy]at z;simp at z;omega
    ·rw [iy]at a;simp at a;omega
 exact⟨r,c,ok⟩
end
section
noncomputable def lz:V->Bool
 |.lst n _ _=>eqI (Int.ofNat n) 0
 |_=>true
theorem Lv.lenz{v:V}(h:Lv v):∃k,POp.run (.leng .sl) [v]=some (.int .i64 (Int.ofNat k))/\lz v=eqI (Int.ofNat k) 0:=by
 cases h with
 |nils=>exact⟨0,rfl,rfl⟩
 |lst h=>exact⟨_,rfl,rfl⟩
theorem pxF(f:FuncId):bY (.func (.func f) [] []):= .func px0 px0
noncomputable section
def yx(f:FuncId)(a:V):AL:=[(0,a),(1,.nils),(2,.func (.func f) [] []),(15,a),(16,.int .i64 (Int.ofNat 0)),(17,.int .i64 (Int.ofNat 0))]
end
theorem f117z{a:V}(h:Lv a):CP 117 [a,.nils,.func (.func 62) [] []] (.bool (lz a)):=by
 refine cR Tryz.func117 (by decide) LD.2 rfl (cg h.px (cg (.flat rfl) (cg (pxF 62) px0))) rfl ?_;have d:=h.px;have f:=pxF 62;obtain⟨k,e,c⟩:=h.lenz
 repeat' (first
  |apply ab|apply ae|apply aa|apply ai|apply ak|refine ah rfl (λb=>?_) (λb=>?_)|apply am|apply thN|refine bE e ?_|refine ac ?_|apply thR)
 ·exact⟨.inr rfl,_,rfl,.flat rfl,by rw [c,show eqI (Int.ofNat k) 0=false by simpa using b];rfl⟩
 obtain rfl:k=0:=by
  have:=sY b
  simpa using this
 refine az (cS (l:=yx 62 a) KT rfl) ?_;refine aA 0 (λi x h=>x=yx 62 a/\h=H0) ?_ (i:=0) (Nat.zero_le _) ⟨rfl,rfl⟩;rintro i _ _ hi ⟨rfl,rfl⟩
 repeat' (first
  |apply ab|apply ae|apply aa|refine aD rfl ?_|apply ax|apply am|apply thN|apply thE|refine ac ?_|apply onE)
 exact⟨.inr rfl,_,rfl,.flat rfl,by rw [c];rfl⟩
theorem f118z{a:V}(h:Lv a):CP 118 [a,.nils,.func (.func 85) [] []] (.bool (lz a)):=by
 refine cR Tryz.func118 (by decide) LC.2 rfl (cg h.px (cg (.flat rfl) (cg (pxF 85) px0))) rfl ?_;have d:=h.px;have f:=pxF 85;obtain⟨k,e,c⟩:=h.lenz
 repeat' (first
  |apply ab|apply ae|apply aa|apply ai|apply ak|refine ah rfl (λb=>?_) (λb=>?_)|apply am|apply thN|refine bE e ?_|refine ac ?_|apply thR)
 ·exact⟨.inr rfl,_,rfl,.flat rfl,by rw [c,show eqI (Int.ofNat k) 0=false by simpa using b];rfl⟩
 obtain rfl:k=0:=by
  have:=sY b
  simpa using this
 refine az (cS (l:=yx 85 a) KT rfl) ?_;refine aA 0 (λi x h=>x=yx 85 a/\h=H0) ?_ (i:=0) (Nat.zero_le _) ⟨rfl,rfl⟩;rintro i _ _ hi ⟨rfl,rfl⟩
 repeat' (first
  |apply ab|apply ae|apply aa|refine aD rfl ?_|apply ax|apply am|apply thN|apply thE|refine ac ?_|apply onE)
 exact⟨.inr rfl,_,rfl,.flat rfl,by rw [c];rfl⟩
theorem f119z{a:V}(h:Lv a):CP 119 [a,.nils,.func (.func 87) [] []] (.bool (lz a)):=by
 refine cR Tryz.func119 (by decide) LB.2 rfl (cg h.px (cg (.flat rfl) (cg (pxF 87) px0))) rfl ?_;have d:=h.px;have f:=pxF 87;obtain⟨k,e,c⟩:=h.lenz
 repeat' (first
  |apply ab|apply ae|apply aa|apply ai|apply ak|refine ah rfl (λb=>?_) (λb=>?_)|apply am|apply thN|refine bE e ?_|refine ac ?_|apply thR)
 ·exact⟨.inr rfl,_,rfl,.flat rfl,by rw [c,show eqI (Int.ofNat k) 0=false by simpa using b];rfl⟩
 obtain rfl:k=0:=by
  have:=sY b
  simpa using this
 refine az (cS (l:=yx 87 a) KT rfl) ?_;refine aA 0 (λi x h=>x=yx 87 a/\h=H0) ?_ (i:=0) (Nat.zero_le _) ⟨rfl,rfl⟩;rintro i _ _ hi ⟨rfl,rfl⟩
 repeat' (first
  |apply ab|apply ae|apply aa|refine aD rfl ?_|apply ax|apply am|apply thN|apply thE|refine ac ?_|apply onE)
 exact⟨.inr rfl,_,rfl,.flat rfl,by rw [c];rfl⟩
theorem f122z{a:V}(h:Lv a):CP 122 [a,.nils,.func (.func 89) [] []] (.bool (lz a)):=by
 refine cR Tryz.func122 (by decide) LA.2 rfl (cg h.px (cg (.flat rfl) (cg (pxF 89) px0))) rfl ?_;have d:=h.px;have f:=pxF 89;obtain⟨k,e,c⟩:=h.lenz
 repeat' (first
  |apply ab|apply ae|apply aa|apply ai|apply ak|refine ah rfl (λb=>?_) (λb=>?_)|apply am|apply thN|refine bE e ?_|refine ac ?_|apply thR)
 ·exact⟨.inr rfl,_,rfl,.flat rfl,by rw [c,show eqI (Int.ofNat k) 0=false by simpa using b];rfl⟩
 obtain rfl:k=0:=by
  have:=sY b
  simpa using this
 refine az (cS (l:=yx 89 a) KT rfl) ?_;refine aA 0 (λi x h=>x=yx 89 a/\h=H0) ?_ (i:=0) (Nat.zero_le _) ⟨rfl,rfl⟩;rintro i _ _ hi ⟨rfl,rfl⟩
 repeat' (first
  |apply ab|apply ae|apply aa|refine aD rfl ?_|apply ax|apply am|apply thN|apply thE|refine ac ?_|apply onE)
 exact⟨.inr rfl,_,rfl,.flat rfl,by rw [c];rfl⟩
theorem f83z{a:V}(h:Lv a):CP 83 [a,.nils,.func (.func 62) [] []] (.bool (lz a)):=by
 refine cR Tryz.func83 (by decide) q83.2 rfl (cg h.px (cg (.flat rfl) (cg (pxF 62) px0))) rfl ?_
 repeat' (first
  |apply ab|apply ae|apply aa|apply am|refine ac ?_|refine ay (f117z h) ?_|apply thN)
 exact⟨.inr rfl,_,rfl,.flat rfl,rfl⟩
theorem f84z{a:V}(h:Lv a):CP 84 [a,.nils,.func (.func 85) [] []] (.bool (lz a)):=by
 refine cR Tryz.func84 (by decide) q84.2 rfl (cg h.px (cg (.flat rfl) (cg (pxF 85) px0))) rfl ?_
 repeat' (first
  |apply ab|apply ae|apply aa|apply am|refine ac ?_|refine ay (f118z h) ?_|apply thN)
 exact⟨.inr rfl,_,rfl,.flat rfl,rfl⟩
theorem f86z{a:V}(h:Lv a):CP 86 [a,.nils,.func (.func 87) [] []] (.bool (lz a)):=by
 refine cR Tryz.func86 (by decide) q86.2 rfl (cg h.px (cg (.flat rfl) (cg (pxF 87) px0))) rfl ?_
 repeat' (first
  |apply ab|apply ae|apply aa|apply am|refine ac ?_|refine ay (f119z h) ?_|apply thN)
 exact⟨.inr rfl,_,rfl,.flat rfl,rfl⟩
theorem f88z{a:V}(h:Lv a):CP 88 [a,.nils,.func (.func 89) [] []] (.bool (lz a)):=by
 refine cR Tryz.func88 (by decide) q88.2 rfl (cg h.px (cg (.flat rfl) (cg (pxF 89) px0))) rfl ?_
 repeat' (first
  |apply ab|apply ae|apply aa|apply am|refine ac ?_|refine ay (f122z h) ?_|apply thN)
 exact⟨.inr rfl,_,rfl,.flat rfl,rfl⟩
noncomputable section
def AN:List V:=[.int .i64 0,.int .i64 0,.str 0 0,.str 0 0,.nils,.nils,.nils,.nils,.nils,.nils,.bool false]
end
theorem wW:∀c,c∈AN->bY c:=cg (.flat rfl) (cg (.flat rfl) (cg (.flat rfl) (cg (.flat rfl) (cg (.flat rfl) (cg (.flat rfl) (cg (.flat rfl) (cg (.flat rfl) (cg (.flat rfl) (cg (.flat rfl) (cg (.flat rfl) px0))))))))))
noncomputable section
def zq:V->Bool
 |.agg [.int _ k,.int _ a,.str n1 c1,.str n2 c2,l1,l2,l3,l4,l5,l6,.bool w]=>eqI k 0&&(eqI a 0&&(cJ n1 c1 0 0&&(cJ n2 c2 0 0&&(oQ w false&&(lz l1&&(lz l2&&(lz l3&&(lz l4&&(lz l5&&lz l6)))))))))
 |_=>false
def zvB:V->Bool:=Classical.choose (⟨zq,rfl⟩:∃f:V->Bool,f=zq)
end
theorem sr:zvB=zq:=Classical.choose_spec (⟨zq,rfl⟩:∃f:V->Bool,f=zq)
set_option maxHeartbeats 8000000 in
theorem f62z{v:V}(b:oq v):CP 62 [v,.agg AN] (.bool (zvB v)):=by
 have d:=b.px;rw [sr];cases b with
 |mk h1 h2 h3 h4 h5 h6=>
  rename_i k a n1 c1 n2 c2 s q l r m j w
  refine cR Tryz.func62 (by decide) q62.2 rfl (cg d (cg (.agg wW) px0)) rfl ?_;have h:=lD (k:=k) (a:=a) (n1:=n1) (c1:=c1) (n2:=n2) (c2:=c2) (w:=w) h1 h2 h3 h4 h5 h6;have g:=h1.px;have o:=h2.px;have n:=h3.px;have p:=h4.px;have f:=h5.px;have i:=h6.px;have e:=wW
  repeat' (first
   |(refine WLg.mk ?_;first
   |refine ac ?_|refine au ?_|refine aV rfl rfl rfl rfl e rfl ?_|refine aE ?_|refine ay (f83z h1) ?_|refine ay (f84z h2) ?_|refine ay (f86z h3) ?_|refine ay (f86z h4) ?_|refine ay (f88z h5) ?_|refine ay (f88z h6) ?_)|apply ab|refine aj rfl ?_|refine aB rfl rfl ?_|refine aC rfl (λc=>?_) (λc=>?_)|apply ae|apply aa|apply am|apply thN|fail)
  all_goals exact⟨.inr rfl,_,rfl,.flat rfl,by(try dsimp only at*)<;>simp only [zq,Bool.true_and,Bool.false_and,Bool.and_false, *]<;>rfl⟩
end
section
theorem Eo(x:Ex):oq (.agg (exO x)):=pE x
noncomputable section
def fr110(f:FuncId)(l:List Sm)(i:Nat):AL:=[(0,.lst l.length 23 (smL l)),(1,.func (.func f) [] []),(7,.int .i64 (Int.ofNat l.length)),(8,.int .i64 (Int.ofNat i))]
def fr76(f:FuncId)(l:List (List Ex))(i:Nat):AL:=[(0,.lst l.length 1 (gdL l)),(1,.func (.func f) [] []),(7,.int .i64 (Int.ofNat l.length)),(8,.int .i64 (Int.ofNat i))]
def fr138(f:FuncId)(l:List Cl)(i:Nat):AL:=[(0,.lst l.length 4 (clL l)),(1,.func (.func f) [] []),(7,.int .i64 (Int.ofNat l.length)),(8,.int .i64 (Int.ofNat i))]
def fr80(l:List Sg)(i:Nat):AL:=[(6,.lst l.length 27 (sgL l)),(7,.int .i64 (Int.ofNat l.length)),(8,.int .i64 (Int.ofNat i))]
end
theorem ub{α:Type}{P:α->Bool}{l:List α}{i:Nat}{a:α}(e:l[i]? =some a)(no:(l.take i).any P=false)(h:P a=false):(l.take (i+1)).any P=false:=by
 rw [List.take_add_one,e,List.any_append,no];simp [h]
theorem AJ{α:Type}{P:α->Bool}{l:List α}{i:Nat}{a:α}(e:l[i]? =some a)(h:P a=true):l.any P=true:=List.any_eq_true.2 ⟨a,List.mem_of_getElem? e,h⟩
theorem IR(i:Nat):ltI (Int.ofNat i) 0=false:=by
 cases q:ltI (Int.ofNat i) 0 with
 |false=>rfl
 |true=>exact absurd (bX (show Nat.blt i 0=true from q)) (by omega)
noncomputable def uy(s:Sm):Bool:= !s.isMatch && !zvB (.agg (exO s.pat))
set_option maxHeartbeats 2000000 in
theorem f78(s:Sm):CP 78 [.agg (smO s)] (.bool (uy s)):=by
 refine cR Tryz.func78 (by decide) q78.2 rfl (cg (pxm s) px0) rfl ?_
 repeat' (first
  |(refine WLg.mk ?_;first
  |refine ac ?_|refine aG (show ROp.run (.load true 11) [.eptr (smO s) 1] _=some (.agg (exO s.pat))from rfl) ?_|refine au ?_|refine aE ?_|refine ay (f62z (Eo s.pat)) ?_)|apply ab|refine aj rfl ?_|refine aB rfl rfl ?_|refine aC rfl (λa=>?_) (λa=>?_)|apply ae|apply aa|apply am|apply thN|fail)
 all_goals exact⟨.inr rfl,_,rfl,.flat rfl,by simp only [uy,Bool.true_and,Bool.false_and, *];rfl⟩
theorem f110(l:List Sm)(d:l.length<9223372036854775807):∃k,CP 110 [.lst l.length 23 (smL l),.func (.func 78) [] []] (.int .i64 k)/\(!ltI k 0)=l.any uy:=by
 obtain⟨v,c,k,rfl,e⟩:∃v,CP 110 [.lst l.length 23 (smL l),.func (.func 78) [] []] v/\∃k,v= .int .i64 k/\(!ltI k 0)=l.any uy:=by
  refine eF Tryz.func110 (by decide) JZ.2 rfl (cg (pxM l) (cg (pxF 78) px0)) rfl ?_;have f:=pxF 78
  repeat' (first
   |apply ab|apply ae|apply aa|apply ai|refine ac ?_|apply thN)
  refine az (cS (l:=fr110 78 l 0) KT rfl) ?_;refine aA l.length (λi x h=>(x=fr110 78 l i/\(l.take i).any uy=false)/\h=H0) ?_ (i:=0) (Nat.zero_le _) ⟨⟨rfl,rfl⟩,rfl⟩;rintro i _ _ hi ⟨⟨rfl,no⟩,rfl⟩;have hi2:i<9223372036854775807:=by omega
  repeat' (first
   |apply ab|apply ae|apply aa|apply ai|apply ak|refine ah rfl (λb=>?_) (λb=>?_)|apply ax|apply am|apply thN|apply thR|apply thE|apply onR|refine ac ?_|refine av rfl rfl (ce Hy) rfl ?_|refine ap rfl rfl (fV Hy) rfl ?_|refine ay (f78 (cK l i)) ?_|apply onE)
  ·exact⟨.inr rfl,_,rfl,.flat rfl,_,rfl,by rw [IR,AJ (show l[i]? =some (cK l i)from cP Hy) (by with_reducible assumption)];rfl⟩
  ·exact .norm ⟨_,_,cS KI rfl,bX Hy,⟨rfl,ub (show l[i]? =some (cK l i)from cP Hy) no (by with_reducible assumption)⟩,rfl⟩
  ·exact⟨.inr rfl,_,rfl,.flat rfl,_,rfl,by
    have a:i=l.length:=by have:=cC (by assumption:Nat.blt i l.length=false);omega
    rw [a,List.take_length]at no;rw [no];rfl⟩
 exact⟨k,c,e⟩
noncomputable def bdB(l:List Sm):Bool:= !l.any uy
theorem f77(l:List Sm)(b:l.length<9223372036854775807):CP 77 [.lst l.length 23 (smL l),.func (.func 78) [] []] (.bool (l.any uy)):=by
 obtain⟨k,a,e⟩:=f110 l b;refine cR Tryz.func77 (by decide) q77.2 rfl (cg (pxM l) (cg (pxF 78) px0)) rfl ?_
 repeat' (first
  |apply ab|apply ae|apply aa|apply am|refine ac ?_|refine ay a ?_|apply thN)
 exact⟨.inr rfl,_,rfl,.flat rfl,congrArg V.bool e⟩
theorem f60(l:List Sm)(a:l.length<9223372036854775807):CP 60 [.lst l.length 23 (smL l)] (.bool (bdB l)):=by
 refine cR Tryz.func60 (by decide) q60.2 rfl (cg (pxM l) px0) rfl ?_
 repeat' (first
  |apply ab|apply ae|apply aa|apply am|refine ac ?_|refine ay (f77 l a) ?_|apply thN)
 exact⟨.inr rfl,_,rfl,.flat rfl,rfl⟩
noncomputable def noG(g:List Ex):Bool:=eqI (Int.ofNat g.length) 0
theorem f59(g:List Ex):CP 59 [.lst g.length 11 (exL g)] (.bool (noG g)):=by
 refine cR Tryz.func59 (by decide) q59.2 rfl (cg (pxE g) px0) rfl ?_
 repeat' (first
  |apply ab|apply ae|apply aa|apply am|refine ac ?_|apply thN)
 exact⟨.inr rfl,_,rfl,.flat rfl,rfl⟩
theorem f76(l:List (List Ex))(d:l.length<9223372036854775807):∃k,CP 76 [.lst l.length 1 (gdL l),.func (.func 59) [] []] (.int .i64 k)/\(!ltI k 0)=l.any noG:=by
 obtain⟨v,c,k,rfl,e⟩:∃v,CP 76 [.lst l.length 1 (gdL l),.func (.func 59) [] []] v/\∃k,v= .int .i64 k/\(!ltI k 0)=l.any noG:=by
  refine eF Tryz.func76 (by decide) q76.2 rfl (cg (pxG l) (cg (pxF 59) px0)) rfl ?_;have f:=pxF 59
  repeat' (first
   |apply ab|apply ae|apply aa|apply ai|refine ac ?_|apply thN)
  refine az (cS (l:=fr76 59 l 0) KT rfl) ?_;refine aA l.length (λi x h=>(x=fr76 59 l i/\(l.take i).any noG=false)/\h=H0) ?_ (i:=0) (Nat.zero_le _) ⟨⟨rfl,rfl⟩,rfl⟩;rintro i _ _ hi ⟨⟨rfl,no⟩,rfl⟩;have hi2:i<9223372036854775807:=by omega
  repeat' (first
   |apply ab|apply ae|apply aa|apply ai|apply ak|refine ah rfl (λb=>?_) (λb=>?_)|apply ax|apply am|apply thN|apply thR|apply thE|apply onR|refine ac ?_|refine av rfl rfl (ce Hy) rfl ?_|refine ap rfl rfl (dY (j:=0) (nD Hy) rfl _) rfl ?_|refine ay (f59 (dm l i)) ?_|apply onE)
  ·exact⟨.inr rfl,_,rfl,.flat rfl,_,rfl,by rw [IR,AJ (show l[i]? =some (dm l i)from cP Hy) (by with_reducible assumption)];rfl⟩
  ·exact .norm ⟨_,_,cS KI rfl,bX Hy,⟨rfl,ub (show l[i]? =some (dm l i)from cP Hy) no (by with_reducible assumption)⟩,rfl⟩
  ·exact⟨.inr rfl,_,rfl,.flat rfl,_,rfl,by
    have a:i=l.length:=by have:=cC (by assumption:Nat.blt i l.length=false);omega
    rw [a,List.take_length]at no;rw [no];rfl⟩
 exact⟨k,c,e⟩
noncomputable def gdB(l:List (List Ex)):Bool:=l.any noG
theorem f58(l:List (List Ex))(b:l.length<9223372036854775807):CP 58 [.lst l.length 1 (gdL l),.func (.func 59) [] []] (.bool (gdB l)):=by
 obtain⟨k,a,e⟩:=f76 l b;refine cR Tryz.func58 (by decide) q58.2 rfl (cg (pxG l) (cg (pxF 59) px0)) rfl ?_
 repeat' (first
  |apply ab|apply ae|apply aa|apply am|refine ac ?_|refine ay a ?_|apply thN)
 exact⟨.inr rfl,_,rfl,.flat rfl,congrArg V.bool e⟩
noncomputable def Dl(x:Ex):Bool:=eqI x.kind 3||(eqI x.kind 4||(eqI x.kind 2&&(cJ x.name.size (ck x.name.data.toList) 5 491496043109||(cJ x.name.size (ck x.name.data.toList) 4 1953069157||cJ x.name.size (ck x.name.data.toList) 5 512970877044))))
theorem f116(x:Ex):CP 116 [.agg (exO x)] (.bool (Dl x)):=by
 refine cR Tryz.func116 (by decide) LE.2 rfl (cg (pxe x) px0) rfl ?_
 repeat' (first
  |(refine WLg.mk ?_;first
  |refine ac ?_|refine au ?_|refine aE ?_)|apply ab|refine aj rfl ?_|refine aB rfl rfl ?_|refine aC rfl (λa=>?_) (λa=>?_)|apply ae|apply aa|apply ai|apply ak|refine ah rfl (λa=>?_) (λa=>Nf a)|refine ah rfl (λa=>?_) (λa=>?_)|apply am|apply thN|apply thR|fail)
 all_goals exact⟨.inr rfl,_,rfl,.flat rfl,by simp only [Dl,Bool.true_or,Bool.false_or,Bool.or_true,Bool.true_and,Bool.false_and, *];try rfl⟩
noncomputable def odC(c:Cl):Bool:= !Dl (cE c.pats 0)
theorem f115(c:Cl)(h:0<c.pats.length):CP 115 [.agg (clO c)] (.bool (odC c)):=by
 refine cR Tryz.func115 (by decide) LF.2 rfl (cg (pxc c) px0) rfl ?_;have a:Nat.blt 0 c.pats.length=true:=ltb h
 repeat' (first
  |apply ab|apply ae|apply aa|apply am|refine bE (ce (i:=0) a) ?_|refine ac ?_|refine aG (dF (i:=0) a) ?_|refine au ?_|refine aE ?_|refine ay (f116 (cE c.pats 0)) ?_|apply thN)
 exact⟨.inr rfl,_,rfl,.flat rfl,rfl⟩
theorem f138(l:List Cl)(g:l.length<9223372036854775807)(f:∀c,c∈l->0<c.pats.length):∃k,CP 138 [.lst l.length 4 (clL l),.func (.func 115) [] []] (.int .i64 k)/\(!ltI k 0)=l.any odC:=by
 obtain⟨v,c,k,rfl,e⟩:∃v,CP 138 [.lst l.length 4 (clL l),.func (.func 115) [] []] v/\∃k,v= .int .i64 k/\(!ltI k 0)=l.any odC:=by
  refine eF Tryz.func138 (by decide) Lr.2 rfl (cg (pxC l) (cg (pxF 115) px0)) rfl ?_;have j:=pxF 115
  repeat' (first
   |apply ab|apply ae|apply aa|apply ai|refine ac ?_|apply thN)
  refine az (cS (l:=fr138 115 l 0) KT rfl) ?_;refine aA l.length (λi x h=>(x=fr138 115 l i/\(l.take i).any odC=false)/\h=H0) ?_ (i:=0) (Nat.zero_le _) ⟨⟨rfl,rfl⟩,rfl⟩;rintro i _ _ hi ⟨⟨rfl,no⟩,rfl⟩;have hi2:i<9223372036854775807:=by omega
  have a:i<l.length->CP 115 [.agg (clO (bV l i))] (.bool (odC (bV l i))):=λh=>f115 _ (f _ (jf (ltb h)))
  repeat' (first
   |apply ab|apply ae|apply aa|apply ai|apply ak|refine ah rfl (λd=>?_) (λd=>?_)|apply ax|apply am|apply thN|apply thR|apply thE|apply onR|refine ac ?_|refine av rfl rfl (ce Hy) rfl ?_|refine ap rfl rfl (eV Hy) rfl ?_|refine aL rfl rfl rfl (a (bX Hy)) rfl ?_|apply onE)
  ·exact⟨.inr rfl,_,rfl,.flat rfl,_,rfl,by rw [IR,AJ (show l[i]? =some (bV l i)from cP Hy) (by with_reducible assumption)];rfl⟩
  ·exact .norm ⟨_,_,cS KI rfl,bX Hy,⟨rfl,ub (show l[i]? =some (bV l i)from cP Hy) no (by with_reducible assumption)⟩,rfl⟩
  ·exact⟨.inr rfl,_,rfl,.flat rfl,_,rfl,by
    have b:i=l.length:=by have:=cC (by assumption:Nat.blt i l.length=false);omega
    rw [b,List.take_length]at no;rw [no];rfl⟩
 exact⟨k,c,e⟩
theorem f114(l:List Cl)(d:l.length<9223372036854775807)(b:∀c,c∈l->0<c.pats.length):CP 114 [.lst l.length 4 (clL l),.func (.func 115) [] []] (.bool (l.any odC)):=by
 obtain⟨k,a,e⟩:=f138 l d b;refine cR Tryz.func114 (by decide) LG.2 rfl (cg (pxC l) (cg (pxF 115) px0)) rfl ?_
 repeat' (first
  |apply ab|apply ae|apply aa|apply am|refine ac ?_|refine ay a ?_|apply thN)
 exact⟨.inr rfl,_,rfl,.flat rfl,congrArg V.bool e⟩
noncomputable def okG(s:Sg):Bool:=
 (s.sized||zvB (.agg (exO s.size)))&&(if eqI s.type 4 then zvB (.agg (exO s.val))&&(!s.sized&&(!s.signed&&(!s.little&&rb 111 [.agg (tkC 4 s.text.size (ck s.text.data.toList))])))
 else !ltI s.type 1&&(!ltI 3 s.type&&(cJ s.text.size (ck s.text.data.toList) 0 0&&(eqI s.type 1||(!s.signed && !s.little)))))
noncomputable def sgB(l:List Sg):Bool:=l.all okG
theorem FJ{α:Type}{P:α->Bool}{l:List α}{i:Nat}{a:α}(e:l[i]? =some a)(ok:(l.take i).all P=true)(h:P a=true):(l.take (i+1)).all P=true:=by
 rw [List.take_add_one,e,List.all_append,ok];simp [h]
theorem Hs{α:Type}{P:α->Bool}{l:List α}{i:Nat}{a:α}(e:l[i]? =some a)(h:P a=false):l.all P=false:=by
 cases q:l.all P with
 |false=>rfl
 |true=>rw [List.all_eq_true.1 q a (List.mem_of_getElem? e)]at h;cases h
set_option maxHeartbeats 8000000 in
theorem f80(l:List Sg)(g:l.length<9223372036854775807):CP 80 [.lst l.length 27 (sgL l)] (.bool (sgB l)):=by
 refine cR Tryz.func80 (by decide) q80.2 rfl (cg (pxS l) px0) rfl ?_
 repeat' (first
  |apply ab|apply ae|apply aa|apply ai|refine ac ?_|apply thN)
 refine az (cS (l:=fr80 l 0) KT rfl) ?_;refine aA l.length (λi x h=>(x=fr80 l i/\(l.take i).all okG=true)/\h=H0) ?_ (i:=0) (Nat.zero_le _) ⟨⟨rfl,rfl⟩,rfl⟩;rintro i _ _ hi ⟨⟨rfl,ok⟩,rfl⟩;have hi2:i<9223372036854775807:=by omega
 cases q:ltI (Int.ofNat i) (Int.ofNat l.length)with
 |false=>
  have e:i=l.length:=by have:=cC q;omega
  rw [e,List.take_length]at ok
  repeat' (first
   |apply ab|apply ae|apply aa|refine ah rfl (λa=>Nt a) (λa=>?_)|apply ax|apply am|apply thN|apply thE|refine ac ?_|apply onE)
  exact⟨.inr rfl,_,rfl,.flat rfl,by unfold sgB;rw [ok];rfl⟩
 |true=>
  have f:∀c,c∈sgO (cG l i)->bY c:=λc hc=>(fH _ c hc).x;have b:l[i]? =some (cG l i):=cP q;have d:okG (cG l i)=false->sgB l=false:=λh=>Hs b h;have nx:okG (cG l i)=true->(l.take (i+1)).all okG=true:=λh=>FJ b ok h
  repeat' (first
   |(refine WLg.mk ?_;first
   |refine ac ?_|refine av rfl rfl (ce Hy) rfl ?_|refine aG (show ROp.run (.load true 11) [.eptr (sgO (cG l i)) 2] _=some (.agg (exO (cG l i).val))from rfl) ?_|refine aG (show ROp.run (.load true 11) [.eptr (sgO (cG l i)) 13] _=some (.agg (exO (cG l i).size))from rfl) ?_|refine au ?_|refine ap rfl rfl (fq Hy) rfl ?_|refine aN ?_|refine ay (f62z (Eo (cG l i).val)) ?_|refine ay (f62z (Eo (cG l i).size)) ?_|refine ay (f111s _ _) ?_)|apply ab|refine aj rfl ?_|refine aB rfl rfl ?_|refine aC rfl (λa=>?_) (λa=>?_)|apply ae|apply aa|apply ai|apply ak|refine aF rfl ?_|refine aD rfl ?_|refine ah rfl (λa=>?_) (λa=>Nf a)|refine ah rfl (λa=>?_) (λa=>?_)|apply am|apply thN|apply thR|apply onR|fail)
  all_goals (try simp only [Bool.not_eq_true',Bool.not_eq_false']at*)
  all_goals first
   |exact absurd ((show(cG l i).sized=true by with_reducible assumption).symm.trans (show(cG l i).sized=false by with_reducible assumption)) (by decide)|exact⟨.inr rfl,_,rfl,.flat rfl,by rw [d (by simp [okG, *])];rfl⟩|exact .norm ⟨_,_,cS (by exact .cons rfl (pxS _) (.cons rfl (.flat rfl) (.cons (dj hi2) (.flat rfl) .nil))) rfl,bX q,⟨rfl,nx (by simp [okG, *])⟩,rfl⟩
end
section
noncomputable section
def svC(n f:Nat)(l:Bool):List V:=[.int .i64 (Int.ofNat n),.int .i64 (Int.ofNat f),.bool l]
def svH(n f:Nat)(l:Bool):H:=HB (svC n f l)
def wdB(s:ByteArray):Bool:=rb 45 [sV s]
def okC(p:Int)(nm:Bool)(c:Cl):Bool:=
 !((!ltI p 0 && !eqI (Int.ofNat c.pats.length) p)||eqI (Int.ofNat c.body.length) 0||(nm && !wdB c.name)||(!nm && !cJ c.name.size (ck c.name.data.toList) 0 0)) && !(gdB c.guards || !bdB c.body)
def clB(p:Int)(nm:Bool)(l:List Cl):Bool:=l.all (okC p nm)
def lgC(c:Cl):Bool:=ltI 16 (Int.ofNat c.pats.length)
def clG(l:List Cl):Bool:=ltI 60 (Int.ofNat l.length)||l.any lgC
def fr46(l:List Cl)(p:Int)(nm:Bool)(i:Nat):AL:=[(0,.ptr 1 0),(2,.int .i64 p),(3,.bool nm),(23,.lst l.length 4 (clL l)),(24,.int .i64 (Int.ofNat l.length)),(25,.int .i64 (Int.ofNat i))]
end
theorem eM(n f:Nat)(l:Bool):∀v,v∈svC n f l->bY v:=cg (.flat rfl) (cg (.flat rfl) (cg (.flat rfl) px0))
theorem tU{l:List Cl}{i:Nat}(h:i<l.length):l.take (i+1)=l.take i++[bV l i]:=by
 have h1:l[i]? =some (bV l i):=cP (ltb h);rw [List.take_add_one,h1];rfl
theorem Fv{l:List Cl}{i:Nat}(h:i<l.length):bV l i∈l:=jf (ltb h)
theorem r9{l:List Cl}{i:Nat}{l0 b a:Bool}(h:i<l.length)(e:a=(l0||(b||(l.take i).any lgC))):(l0||(b||(l.take (i+1)).any lgC))=(a||lgC (bV l i)):=by
 rw [tU h,List.any_append,e];simp [Bool.or_assoc]
theorem H6{p:Int}{a:Bool}{l:List Cl}{c:Cl}(h:c∈l)(k:okC p a c=false):clB p a l=false:=by
 cases q:clB p a l with
 |false=>rfl
 |true=>
  have:=List.all_eq_true.1 q c h;rw [k]at this;cases this
set_option maxHeartbeats 8000000 in
theorem f46t(l:List Cl)(t:bS (clL l)<=6000000)(p:Int)(n f:Nat)(l0:Bool):
  ∃l1,CN 46 [.ptr 1 0,.lst l.length 4 (clL l),.int .i64 p,.bool true] (svH n f l0) (.bool (clB p true l)) (svH n f l1)/\(clB p true l=true->l1=(l0||clG l)):=by
 obtain⟨v,h',c,l1,rfl,rfl,ok⟩:∃v h',CN 46 [.ptr 1 0,.lst l.length 4 (clL l),.int .i64 p,.bool true] (svH n f l0) v h'/\∃l1,v= .bool (clB p true l)/\h'=svH n f l1/\(clB p true l=true->l1=(l0||clG l)):=by
  refine pQ Tryz.func46 (by decide) q46.2 rfl rfl ?_;have s:=fR l
  repeat' (first
   |(refine WLg.mk ?_;first
   |refine ac ?_|refine au ?_|refine aT rfl rfl rfl rfl rfl rfl rfl rfl rfl ?_)|apply ab|refine aj rfl ?_|refine aB rfl rfl ?_|refine aC rfl (λe=>?_) (λe=>?_)|apply ae|apply aa|apply ai|apply thN|fail)
  all_goals (
   refine az (qU y5 (l:=fr46 l p true 0) (cs:=svC n f (l0||ltI 60 (Int.ofNat l.length))) KS rfl rfl rfl (ik rfl rfl (by rw [e];rfl)) (eM _ _ _)) ?_;clear e;refine aA l.length (λi x h=>(∃g,g=(l0||(ltI 60 (Int.ofNat l.length)||(l.take i).any lgC))/\x=fr46 l p true i/\h=svH n f g)/\∀c,c∈l.take i->okC p true c=true) ?_ (i:=0) (Nat.zero_le _) ⟨⟨_,by simp,rfl,rfl⟩,λc h=>by simp at h⟩;rintro i _ _ hi ⟨⟨g,d,rfl,rfl⟩,seen⟩;have hi2:i<9223372036854775807:=by omega
   have k:=f45 (bV l i).name.size (ck (bV l i).name.data.toList);have j:i<l.length->(bV l i).guards.length<9223372036854775807/\(bV l i).body.length<9223372036854775807:=λh=>by
    have:=oh (ltb h);have:=gM (bV l i);have:=j0 (bV l i).guards;have:=iJ (bV l i).body;omega
   have q:i<l.length->CP 58 [.lst (bV l i).guards.length 1 (gdL (bV l i).guards),.func (.func 59) [] []] (.bool (gdB (bV l i).guards)):=λh=>f58 _ (j h).1;have o:i<l.length->CP 60 [.lst (bV l i).body.length 23 (smL (bV l i).body)] (.bool (bdB (bV l i).body)):=λh=>f60 _ (j h).2
   repeat' (first
    |(refine WLg.mk ?_;first
    |refine ac ?_|refine av rfl rfl (ce Hy) rfl ?_|refine au ?_|refine ap rfl rfl (eV Hy) rfl ?_|refine aN ?_|refine aT rfl rfl rfl rfl rfl rfl rfl rfl rfl ?_|refine ay k ?_|refine aL rfl rfl rfl (q (bX Hy)) rfl ?_|refine aL rfl rfl rfl (o (bX Hy)) rfl ?_)|apply ab|refine aj rfl ?_|refine aB rfl rfl ?_|refine aC rfl (λe=>?_) (λe=>?_)|apply ae|apply aa|apply ai|apply ak|refine aF rfl ?_|refine aD rfl ?_|refine ah rfl (λe=>?_) (λe=>?_)|apply ax|apply am|apply thN|apply thR|apply thE|apply onR|apply onE|fail)
   all_goals first
    |(refine OnC.norm ⟨_,_,qU y5 (l:=fr46 l p true (i+1)) (cs:=svC n f (l0||(ltI 60 (Int.ofNat l.length)||(l.take (i+1)).any lgC))) KSI rfl rfl rfl (ik rfl rfl ?_) (eM _ _ _),bX Hy,⟨⟨_,rfl,rfl,rfl⟩,λc hc=>?_⟩⟩
      ·have b:i<l.length:=bX Hy
       first
        |(rw [r9 b d,(by assumption:g=true)];rfl)|(rw [r9 b d,(by assumption:g=false)];rfl)
      ·have b:i<l.length:=bX Hy
       rw [tU b]at hc;rcases List.mem_append.1 hc with hc|hc
       ·exact seen c hc
       ·rw [List.mem_singleton.1 hc]
        simp only [okC,wdB,sV,Bool.not_true,Bool.not_false,Bool.and_false,Bool.false_and,Bool.and_self,Bool.or_self, *])
    |(have r:i=l.length:=by have:=cC (by assumption:ltI (Int.ofNat i) (Int.ofNat l.length)=false);omega
      rw [r,List.take_length]at d seen;exact⟨.inr rfl,_,rfl,Nat.le_refl _,g,by rw [clB,List.all_eq_true.2 seen];rfl,rfl,λ_=>d⟩)
    |(have m:okC p true (bV l i)=false:=by simp only [okC,wdB,sV,Bool.not_true,Bool.not_false,Bool.true_and,Bool.and_false,Bool.false_and,Bool.or_true,Bool.true_or,Bool.or_false,Bool.and_self,Bool.or_self, *]
      have a:=H6 (Fv (bX Hy)) m
      first
       |exact⟨.inr rfl,_,rfl,Nat.le_refl _,true,congrArg V.bool a.symm,rfl,λh=>by rw [a]at h;cases h⟩|exact⟨.inr rfl,_,rfl,Nat.le_refl _,ltI 16 (Int.ofNat (bV l i).pats.length),congrArg V.bool a.symm,rfl,λh=>by rw [a]at h;cases h⟩)|fail)
 exact⟨l1,c,ok⟩
set_option maxHeartbeats 8000000 in
theorem f46f(l:List Cl)(t:bS (clL l)<=6000000)(p:Int)(n f:Nat)(l0:Bool):
  ∃l1,CN 46 [.ptr 1 0,.lst l.length 4 (clL l),.int .i64 p,.bool false] (svH n f l0) (.bool (clB p false l)) (svH n f l1)/\(clB p false l=true->l1=(l0||clG l)):=by
 obtain⟨v,h',c,l1,rfl,rfl,ok⟩:∃v h',CN 46 [.ptr 1 0,.lst l.length 4 (clL l),.int .i64 p,.bool false] (svH n f l0) v h'/\∃l1,v= .bool (clB p false l)/\h'=svH n f l1/\(clB p false l=true->l1=(l0||clG l)):=by
  refine pQ Tryz.func46 (by decide) q46.2 rfl rfl ?_;have s:=fR l
  repeat' (first
   |(refine WLg.mk ?_;first
   |refine ac ?_|refine au ?_|refine aT rfl rfl rfl rfl rfl rfl rfl rfl rfl ?_)|apply ab|refine aj rfl ?_|refine aB rfl rfl ?_|refine aC rfl (λe=>?_) (λe=>?_)|apply ae|apply aa|apply ai|apply thN|fail)
  all_goals (
   refine az (qU y5 (l:=fr46 l p false 0) (cs:=svC n f (l0||ltI 60 (Int.ofNat l.length))) KS rfl rfl rfl (ik rfl rfl (by rw [e];rfl)) (eM _ _ _)) ?_;clear e;refine aA l.length (λi x h=>(∃g,g=(l0||(ltI 60 (Int.ofNat l.length)||(l.take i).any lgC))/\x=fr46 l p false i/\h=svH n f g)/\∀c,c∈l.take i->okC p false c=true) ?_ (i:=0) (Nat.zero_le _) ⟨⟨_,by simp,rfl,rfl⟩,λc h=>by simp at h⟩;rintro i _ _ hi ⟨⟨g,d,rfl,rfl⟩,seen⟩;have hi2:i<9223372036854775807:=by omega
   have r:=f45 (bV l i).name.size (ck (bV l i).name.data.toList);have j:i<l.length->(bV l i).guards.length<9223372036854775807/\(bV l i).body.length<9223372036854775807:=λh=>by
    have:=oh (ltb h);have:=gM (bV l i);have:=j0 (bV l i).guards;have:=iJ (bV l i).body;omega
   have o:i<l.length->CP 58 [.lst (bV l i).guards.length 1 (gdL (bV l i).guards),.func (.func 59) [] []] (.bool (gdB (bV l i).guards)):=λh=>f58 _ (j h).1;have m:i<l.length->CP 60 [.lst (bV l i).body.length 23 (smL (bV l i).body)] (.bool (bdB (bV l i).body)):=λh=>f60 _ (j h).2
   repeat' (first
    |(refine WLg.mk ?_;first
    |refine ac ?_|refine av rfl rfl (ce Hy) rfl ?_|refine au ?_|refine ap rfl rfl (eV Hy) rfl ?_|refine aN ?_|refine aT rfl rfl rfl rfl rfl rfl rfl rfl rfl ?_|refine aL rfl rfl rfl (o (bX Hy)) rfl ?_|refine aL rfl rfl rfl (m (bX Hy)) rfl ?_)|apply ab|refine aj rfl ?_|refine aB rfl rfl ?_|refine aC rfl (λe=>?_) (λe=>?_)|apply ae|apply aa|apply ai|apply ak|refine aF rfl ?_|refine ah rfl (λe=>?_) (λe=>?_)|apply ax|apply am|apply thN|apply thR|apply thE|apply onR|apply onE|fail)
   all_goals first
    |(refine OnC.norm ⟨_,_,qU y5 (l:=fr46 l p false (i+1)) (cs:=svC n f (l0||(ltI 60 (Int.ofNat l.length)||(l.take (i+1)).any lgC))) KSI rfl rfl rfl (ik rfl rfl ?_) (eM _ _ _),bX Hy,⟨⟨_,rfl,rfl,rfl⟩,λc hc=>?_⟩⟩
      ·have b:i<l.length:=bX Hy
       first
        |(rw [r9 b d,(by assumption:g=true)];rfl)|(rw [r9 b d,(by assumption:g=false)];rfl)
      ·have b:i<l.length:=bX Hy
       rw [tU b]at hc;rcases List.mem_append.1 hc with hc|hc
       ·exact seen c hc
       ·rw [List.mem_singleton.1 hc]
        simp only [okC,wdB,sV,Bool.not_false,Bool.and_false,Bool.false_and,Bool.and_self,Bool.or_self, *])
    |(have q:i=l.length:=by have:=cC (by assumption:ltI (Int.ofNat i) (Int.ofNat l.length)=false);omega
      rw [q,List.take_length]at d seen;exact⟨.inr rfl,_,rfl,Nat.le_refl _,g,by rw [clB,List.all_eq_true.2 seen];rfl,rfl,λ_=>d⟩)
    |(have k:okC p false (bV l i)=false:=by simp only [okC,wdB,sV,Bool.not_true,Bool.not_false,Bool.true_and,Bool.and_false,Bool.false_and,Bool.or_true,Bool.true_or,Bool.or_false,Bool.and_self,Bool.or_self, *]
      have a:=H6 (Fv (bX Hy)) k
      first
       |exact⟨.inr rfl,_,rfl,Nat.le_refl _,true,congrArg V.bool a.symm,rfl,λh=>by rw [a]at h;cases h⟩|exact⟨.inr rfl,_,rfl,Nat.le_refl _,ltI 16 (Int.ofNat (bV l i).pats.length),congrArg V.bool a.symm,rfl,λh=>by rw [a]at h;cases h⟩)|fail)
 exact⟨l1,c,ok⟩
theorem f46(l:List Cl)(b:bS (clL l)<=6000000)(p:Int)(a:Bool)(n f:Nat)(l0:Bool):
  ∃l1,CN 46 [.ptr 1 0,.lst l.length 4 (clL l),.int .i64 p,.bool a] (svH n f l0) (.bool (clB p a l)) (svH n f l1)/\(clB p a l=true->l1=(l0||clG l)):=by
 cases a with
 |true=>exact f46t l b p n f l0
 |false=>exact f46f l b p n f l0
end
section
theorem lf{cs:List V}(i:Nat):cY (lpB cs) i↔i<2:=by
 constructor
 ·rintro⟨b,e⟩
  match i,e with
  |0,_=>decide
  |1,_=>decide
  |i+2,e=>cases e
 ·intro h
  match i,h with
  |0,_=>exact⟨_,rfl⟩
  |1,_=>exact⟨_,rfl⟩
theorem vwB{h:H}{cs:List V}{tr:Tr V}{ch:Bool}(l:h.blk 0=some (.ro 256 d3))(hs:h.blk 1=some (.cells (cD cs) tr none ch))(p:Nat.ble (cD cs) bZ=true)(hc:∀j v,cs[j]? =some v->tr.get j=some v)(o:∀c,c∈cs->bY c):Vw TP h (lpB cs) (λi=>i) (λ_=>none):=by
 have m:2<=bZ:=by unfold bZ;omega
 have n:cs.length<=bZ:=by rw [<-@cq noE];exact Nat.le_of_ble_eq_true p
 have u:∀i,cY (lpB cs) i->i=0\/i=1:=λi h=>by have:=(lf i).1 h;omega
 have a:∀i j d,cY (lpB cs) i->¬Up h i j d:=λi j d hi=>by
  rcases u i hi with rfl|rfl
  ·exact d9 l
  ·intro q
   cases q with
   |one e' k'=>rw [hs]at e';cases e';cases k'
   |step e' k' _=>rw [hs]at e';cases e';cases k'
 refine⟨m,λi g e=>?_,λi j _ _ e=>e,λi j d hi _=>a i j d hi,(λk cs e=>by cases e),(λk cs i e=>by cases e),λq f=>⟨rfl,?_⟩⟩
 ·rcases u i ⟨_,e⟩with rfl|rfl
  ·obtain rfl:Blk.ro 256 d3=g:=by cases e;rfl
   exact⟨_,l,.ro λj v e=>.flat (eX fD (by rw [ig];unfold bZ;omega) e)⟩
  ·obtain rfl:Blk.cells (cD cs) (cM cs 0 .e) none false=g:=by cases e;rfl
   refine⟨_,hs,.cells λj v r e=>?_⟩;rw [@cq noE]at r;rw [@dz noE cs 0 .e j (by omega),if_pos (by omega),Nat.sub_zero]at e;exact⟨v,hc j v e,.pure (o v (List.mem_of_getElem? e))⟩
 ·have e:=l8.all q f
  have b:q.1=0:=by rw [jv]at f;rw [List.mem_singleton.1 f]
  rw [b]at e ⊢;exact e
theorem Con.drop{f:FuncId}{h h1:H}{vs:List V}{v:V}{cs:List V}(c:CN f vs h v h1)(m:bY v)(t:h.next<=2)(V:Vw TP h1 (lpB cs) (λi=>i) (λ_=>none)):CN f vs h v (HB cs):=by
 refine⟨λE g w us s p=>?_⟩;obtain⟨fn,C,n,A,k⟩:=c.out E g w us s p;refine⟨fn,C,n,A,k.mono ?_⟩;rintro e w' ⟨E',g',u,rfl,B,a⟩;obtain⟨r,y,_,_,hE,j,d,l,_⟩:=V.sit a.sit;obtain rfl:=hE λ_=>rfl;refine⟨r,y,u,rfl,m.vr u B,a.envl,a.envn,λid x D e=>?_,t,j,a.size,a.keep,λid b o z e=>?_,a.pin,a.os,a.tape,a.output⟩
 ·rw [d id ((lf id).2 (by have:=@WR.dom E _ _ _ _ s.wr _ _ e;omega))]
  exact a.le id x D e
 ·by_cases q:cY (lpB cs) id
  ·rw [d id q]at e;exact a.fresh id b o z e
  ·rw [l id q]at e;cases e
theorem C0(b:Blk):B5 noM b:=by
 have a:∀v,dG noM v:=λv E g g' u hg h=>@VR.mono E g g' (λid x=>hg id x (λk=>k)) _ _ h;cases b with
 |cells=>exact λj v _=>a v
 |ro=>exact λj v _=>a v
 |map=>exact λe _=>⟨a _,a _⟩
 |siter=>trivial
 |dead=>trivial
 |loop=>exact λid q=>q
 |miter=>exact λid q=>q
theorem uT{E:En}{g:G}:∀{l:List V} {us:List Value},@VRs E g l us->V.ptr 1 0∈l->∃x,g 1=some x
 |[],_,_,h=>by cases h
 |v ::l,_,hr,h=>by
  cases hr with
  |cons a b=>
   rcases List.mem_cons.1 h with h|h
   ·subst h
    cases a with
    |ptr e=>exact⟨_,e⟩
   ·exact uT b h
theorem Con.frameB{f:FuncId}{vs:List V}{v:V}{cs cs':List V}(c:CN f vs (HB cs) v (HB cs'))(A:RnL (cY (lpB cs)) (λi=>i) (λ_=>none) vs vs)(n:V.ptr 1 0∈vs)(M:bY v)(h1:∀c,c∈cs->bY c)(h2:∀c,c∈cs'->bY c)(F:Nat.ble (cD cs) bZ=true)(r:Nat.ble (cD cs') bZ=true)
  {h:H} {tr:Tr V} (o:h.blk 0=some (.ro 256 d3)) (hs:h.blk 1=some (.cells (cD cs) tr none false)) (hc:∀j v,cs[j]? =some v->tr.get j=some v) (R:2<=h.next):CN f vs h v ⟨h.t.put 1 (some (.cells (cD cs') (cM cs' 0 .e) none false)),h.next⟩:=by
 have J:cs.length<=bZ:=by rw [<-@cq noE];exact Nat.le_of_ble_eq_true F
 have G:cs'.length<=bZ:=by rw [<-@cq noE];exact Nat.le_of_ble_eq_true r
 have C:∀j,(⟨h.t.put 1 (some (.cells (cD cs') (cM cs' 0 .e) none false)),h.next⟩:H).blk j=if j=1 then some (.cells (cD cs') (cM cs' 0 .e) none false)else h.blk j:=λj=>Tr.get_put h.t 1 j _ (by unfold bZ;omega)
 have sm:rD Tryz.prog TP (λi=>cY (lpB cs) i/\¬noM i) f (jl (lpB cs)) vs (jl (lpB cs')) v:=by
  intro E g w us s y;obtain⟨fn,Q,N,O,K⟩:=c.out E g w us s y;refine⟨fn,Q,N,O,K.mono ?_⟩;rintro e w' ⟨E',g',u,rfl,P,a⟩;refine⟨E',g',u,rfl,P,a.sit,a.envl,λb c e=>?_,λid x _ e=>a.le id x (λq=>q) e,a.size,a.keep,a.fresh,a.pin,a.os,a.tape,a.output⟩;rcases a.envn b c e with k|k
  ·exact .inl k
  ·exact .inr (.inl k)
 refine sm.con (Lc.loc (T:=TP) (mv:=noM) (l:=lpB cs) (l':=lpB cs') (ρ:=λi=>i) ?_ A (.pure M) (λE g w us s y i hi _=>?_) ⟨1,⟨⟨_,rfl⟩,λq=>q⟩,λp n=>by rw [jv]at n;rw [List.mem_singleton.1 n];decide⟩)
 ·refine⟨vwB o hs F hc h1,λi B hi e=>?_,λi hi=>?_,rfl,λi hi=>(lf i).2 ((lf i).1 hi),λi hi _=>(lf i).2 ((lf i).1 hi),λi hi=>hi.elim,λi b e I=>?_,λi b B d m=>?_,λi b B d m=>?_,λi j _ _ e=>e,rfl,λid ho=>?_,λid b _ _=>C0 b,λi D e=>?_⟩
  ·rcases (by have:=(lf i).1 hi;omega:i=0\/i=1)with rfl|rfl
   ·rw [o]at e;cases e;exact .inl rfl
   ·rw [hs]at e;cases e;exact .inr rfl
  ·have:i<2:=hi
   show i<h.next
   omega
  ·rcases (by have:=(lf i).1 ⟨_,e⟩;omega:i=0\/i=1)with rfl|rfl
   ·exact⟨(0,0,256,d3),by rw [jv];exact List.mem_singleton.2 rfl,rfl⟩
   ·cases e;cases I
  ·rcases (by have:=(lf i).1 ⟨_,d⟩;omega:i=0\/i=1)with rfl|rfl
   ·cases d;cases m;rfl
   ·cases d;cases m;rfl
  ·rcases (by have:=(lf i).1 ⟨_,d⟩;omega:i=0\/i=1)with rfl|rfl
   ·cases d;rw [o]at m;cases m;rfl
   ·cases d;rw [hs]at m;cases m;rfl
  ·have h1:id≠1:=λq=>ho 1 ((lf 1).2 (by decide)) q.symm
   rw [C,if_neg h1]
  ·rcases (by have:=(lf i).1 ⟨_,e⟩;omega:i=0\/i=1)with rfl|rfl
   ·obtain rfl:Blk.ro 256 d3=D:=by cases e;rfl
    exact⟨_,by rw [C,if_neg (by decide)];exact o,.ro λj v e=>.flat (eX fD (by rw [ig];unfold bZ;omega) e)⟩
   ·obtain rfl:Blk.cells (cD cs') (cM cs' 0 .e) none false=D:=by cases e;rfl
    refine⟨_,by rw [C,if_pos rfl],.cells λj v L e=>⟨v,e,.pure ?_⟩⟩;rw [@cq noE]at L;rw [@dz noE cs' 0 .e j (by omega),if_pos (by omega),Nat.sub_zero]at e;exact h2 v (List.mem_of_getElem? e)
 ·rcases (by have:=(lf i).1 hi;omega:i=0\/i=1)with rfl|rfl
  ·obtain⟨⟨z,q⟩,_⟩:=s.pin0
   exact⟨_,q⟩
  ·exact uT y n
theorem tT{f:FuncId} {fn:Func} {cf:CF} {cs:List V} (hfn:Tryz.prog.funcs[f]? =some fn) (hnm:fn.name≠ "runtime.NumGoroutine") (hcf:ci TP fn=some cf) {vs:List V} (hlen:vs.length=cf.params) {R:V->List V->Prop} {loc:AL} (hn:mY vs 0=some loc)
  (k:WC Tryz.prog TP KB ft 1 cf.code loc (HB cs) (qf cf λv h'=>2<=h'.next/\bY v/\∃cs' tr ch,R v cs'/\h'.blk 0=some (.ro 256 d3)/\h'.blk 1=some (.cells (cD cs') tr none ch)/\(∀j v,cs'[j]? =some v->tr.get j=some v)/\(∀c,c∈cs'->bY c)/\Nat.ble (cD cs') bZ=true)):∃v cs',CN f vs (HB cs) v (HB cs')/\R v cs':=by
 obtain⟨v,h',c,p,cs',tr,ch,q1,q2,q3,q4,q5,q6⟩:=pQ hfn hnm hcf hlen hn k;exact⟨v,cs',c.drop p (Nat.le_refl _) (vwB q2 q3 q6 q4 q5),q1⟩
end
end Ev
end Go.Proofs.YtdfphfdnoobikaaGreatDoor
