/-
  The reference's measure of trees:what is left of so many cg.
-/
import Derived.Test.YtdfphfdnoobikaaGreatDoorLtFields
namespace Go.Proofs.YtdfphfdnoobikaaGreatDoor
namespace Ev
section
def OkR(size:Nat)(m r:Int):Prop:=r<=m/\-1<=r/\(0<=r->(size:Int)<=1000*(m-r))
noncomputable section
def fr38(l:List Ex)(cur:Int)(i:Nat):AL:=[(0,.lst l.length 11 (exL l)),(1,.int .i64 cur),(4,.int .i64 0),(5,.int .i64 (Int.ofNat i))]
def fr38s(l:List Ex)(x:Ex)(cur:Int)(i k:Nat):AL:=[(0,.lst l.length 11 (exL l)),(1,.int .i64 cur),(4,.int .i64 0),(5,.int .i64 (Int.ofNat i)),(6,.eptr (exO x) 0),(7,.int .i64 (Int.ofNat k))]
def fr39(l:List Sm)(cur:Int)(i:Nat):AL:=[(0,.lst l.length 23 (smL l)),(1,.int .i64 cur),(4,.int .i64 0),(5,.int .i64 (Int.ofNat i))]
def fr19(l:List Cl)(cur:Int)(i:Nat):AL:=[(0,.lst l.length 4 (clL l)),(1,.int .i64 cur),(4,.int .i64 0),(5,.int .i64 (Int.ofNat i))]
def fr19g(l:List Cl)(cur:Int)(i k:Nat):AL:=[(0,.lst l.length 4 (clL l)),(1,.int .i64 cur),(4,.int .i64 0),(5,.int .i64 (Int.ofNat i)),(6,.int .i64 (Int.ofNat k))]
end
theorem EA{m:Int}(h1: -1<=m)(h2:m<=4000):cT .i64 (Int.sub m 1)=m-1:=by
 have key:∀n:Nat,n<4010->cT .i64 (Int.ofNat n-5)=Int.ofNat n-5:=by
  intro n hn;rcases Nat.lt_or_ge n 5 with h|h
  ·have:n=0\/n=1\/n=2\/n=3\/n=4:=by omega
   rcases this with rfl|rfl|rfl|rfl|rfl<;>rfl
  ·have e:Int.ofNat n-5=Int.ofNat (n-5):=by simp;omega
   rw [e];show(Bool.rec (motive:=λ_=>Int) (jQ .i64 (Nat.mod (n-5) (gD .i64))) (Int.ofNat (n-5)) (Nat.blt (n-5) (iA .i64)):Int)=_;rw [show Nat.blt (n-5) (iA .i64)=true by simp [Nat.blt,iA];omega]
 have:=key (m+4).toNat (by omega)
 have e:Int.ofNat (m+4).toNat-5=m-1:=by simp;omega
 rw [e]at this;exact this
theorem iq{α:Type}{f:α->List V}{g:List α->List V}(hn:g []=[])(hc:∀a l,g (a ::l)=f a++g l):∀(l:List α) (i:Nat) (x:α),l[i]? =some x->bH (g (l.take (i+1)))=bH (g (l.take i))+bH (f x)
 |[],i,x,h=>by simp at h
 |a ::l,0,x,h=>by
  simp at h;subst h;simp only [List.take_succ_cons,List.take_zero];rw [hc,hn,List.append_nil];simp [bH]
 |a ::l,i+1,x,h=>by
  have:=iq hn hc l i x (by simpa using h);rw [List.take_succ_cons,List.take_succ_cons,hc,hc,cj,cj,this,Nat.add_assoc]
theorem fO{l:List Ex}{i:Nat}(h:i<l.length):bH (exL (l.take (i+1)))=bH (exL (l.take i))+bH (exO (bW l i)):=iq (by rw [exL]) cK l i _ (cO (d:=ex0) (ltb h))
theorem qp{l:List Sg}{i:Nat}(h:i<l.length):bH (sgL (l.take (i+1)))=bH (sgL (l.take i))+bH (sgO (ck l i)):=iq (by rw [sgL]) i7 l i _ (cO (ltb h))
theorem mD{l:List Cl}{i:Nat}(h:i<l.length):bH (clL (l.take (i+1)))=bH (clL (l.take i))+bH (clO (bM l i)):=iq (by rw [clL]) gW l i _ (cO (ltb h))
theorem tg{l:List Sm}{i:Nat}(h:i<l.length):bH (smL (l.take (i+1)))=bH (smL (l.take i))+bH (smO (cD l i)):=iq (by rw [smL]) gO l i _ (cO (ltb h))
theorem xw{l:List (List Ex)}{i:Nat}(h:i<l.length):bH (gdL (l.take (i+1)))=bH (gdL (l.take i))+(1+bH (exL (di l i))):=by
 have:=iq (g:=gdL) (f:=λx=>[V.lst x.length 11 (exL x)]) (by rw [gdL]) (λa l=>by first|(rw [gdL];done)|(rw [gdL];rfl)) l i _ (cO (d:=[]) (ltb h));rw [this];simp [bH,szV];rfl
theorem Cw(x y:Ex):exL [x,y]=exO x++(exO y++[]):=by rw [cK,cK,exL]
theorem zc(x y:Ex):∀c,c∈exO x++(exO y++[])->bP c:=by
 rw [<-Cw];exact λc hc=>(iB _ c hc).x
theorem dI{i:Nat}(h:i<9223372036854775807):some (V.int .i64 (cT .i64 (Int.add (Int.ofNat i) 1)))=some (V.int .i64 (Int.ofNat (i+1))):=by
 show some (V.int .i64 (cT .i64 (Int.add (Int.ofNat i) (Int.ofNat 1))))=_;rw [iU h]
theorem KI{f l:AL}(h:rC f l:=by repeat' (first|exact .nil|refine .cons rfl ?_ ?_|refine .cons (dI Hy) ?_ ?_|exact PX)):rC f l:=h
theorem KSI{f l:AL}(h:jw f l:=by repeat' (first|exact .nil|refine .it rfl ?_|refine .cons rfl ?_ ?_|refine .cons (dI Hy) ?_ ?_|exact PX)):jw f l:=h
theorem qL{a:Int}(h:(!ltI a 0)=false):¬0<=a:=by
 rw [fC]at h;simp at h;omega
theorem Gg{α:Type}[Inhabited α]{p:Prop}{Q:α->Prop}(h:p->∃r,Q r):∃r,p->Q r:=by
 classical
 by_cases k:p
 ·obtain⟨r,q⟩:=h k
  exact⟨r,λ_=>q⟩
 ·exact⟨default,λq=>absurd q k⟩
theorem pM{c:Nat}{m:Int}(h: -1<=m):OkR c m (-1):=⟨h,Int.le_refl _,λq=>by omega⟩
theorem jj{a:Int}(h:(!ltI a 0)=true):0<=a:=by
 rw [fC]at h;simp at h;exact h
theorem mW{n i:Nat}{m cur:Int}{g:Nat->Nat}{c:Nat}(hg:¬(i<n/\0<=cur))(hi:i<=n)(q1: -1<=cur)(q2:(i:Int)<=m-cur)(q3:0<=cur->(g i:Int)<=1000*(m-cur))(he:g n=c):OkR c m cur:=
 ⟨by omega,q1,λh=>by
  have:i=n:=by omega
  subst this;rw [<-he];exact q3 h⟩
structure Sz(s:Nat):Prop where
 ex:∀l,bH (exL l)<s->∀m:Int,-1<=m->m<=4000->∃r,CP 38 [.lst l.length 11 (exL l),.int .i64 m] (.int .i64 r)/\OkR (bH (exL l)+350*l.length) m r
 cl:∀l,bH (clL l)<s->∀m:Int,-1<=m->m<=4000->∃r,CP 19 [.lst l.length 4 (clL l),.int .i64 m] (.int .i64 r)/\OkR (bH (clL l)+500*l.length) m r
 sm:∀l,bH (smL l)<s->∀m:Int,-1<=m->m<=4000->∃r,CP 39 [.lst l.length 23 (smL l),.int .i64 m] (.int .i64 r)/\OkR (bH (smL l)) m r
theorem Sz.one{s:Nat}(R:Sz s){p:Prop}(l:List Ex)(m:Int)(h:p->bH (exL l)<s/\0<=m/\m<=4000):∃r,p->CP 38 [.lst l.length 11 (exL l),.int .i64 (cT .i64 (Int.sub m 1))] (.int .i64 r)/\OkR (bH (exL l)+350*l.length) (m-1) r:=by
 refine Gg λk=>?_;obtain⟨k1,k2,k3⟩:=h k;rw [EA (by omega) (by omega)];exact R.ex l k1 (m-1) (by omega) (by omega)
theorem Sz.two{s:Nat}(R:Sz s){p:Prop}(x y:Ex)(m:Int)(h:p->bH (exO x)+bH (exO y)<s/\0<=m/\m<=4000):∃r,p->CP 38 [.lst 2 11 (exO x++(exO y++[])),.int .i64 m] (.int .i64 r)/\OkR (bH (exO x)+bH (exO y)+700) m r:=by
 refine Gg λk=>?_;obtain⟨k1,k2,k3⟩:=h k;have e2:bH (exL [x,y])=bH (exO x)+bH (exO y):=by rw [cK,cK,exL,cj,cj,bH,Nat.add_zero]
 have:=R.ex [x,y] (by rw [e2];omega) m (by omega) (by omega);rw [Cw,show bH (exO x++(exO y++[]))=bH (exO x)+bH (exO y) by rw [<-Cw];exact e2]at this;exact this
theorem j0{n:Nat}(h:ltI 300 (Int.ofNat n)=false):n<=300:=by
 rw [fC]at h;simp at h;omega
set_option maxHeartbeats 2000000 in
theorem Bo{s:Nat}(R:Sz s)(l:List Sm)(hl:bH (smL l)<s+1)(m:Int)(h1: -1<=m)(h2:m<=4000):∃r,CP 39 [.lst l.length 23 (smL l),.int .i64 m] (.int .i64 r)/\OkR (bH (smL l)) m r:=by
 obtain⟨v,c,r,rfl,ok⟩:∃v,CP 39 [.lst l.length 23 (smL l),.int .i64 m] v/\∃r,v= .int .i64 r/\OkR (bH (smL l)) m r:=by
  refine dz Tryz.func39 (by decide) q39.2 rfl (bO (pxM l) (bO (.flat rfl) px0)) rfl ?_
  repeat' (first
   |(refine WLg.mk ?_;first
   |refine aa rfl rfl rfl rfl ?_)|apply ac|refine ae rfl ?_|apply ai|apply ah|apply aj|apply bG.norm|fail)
  refine aw (cA (l:=fr39 l m 0) KT rfl) ?_;refine ax l.length (λi x h=>(∃cur:Int,x=fr39 l cur i/\-1<=cur/\(i:Int)<=m-cur/\(0<=cur->(bH (smL (l.take i)):Int)<=1000*(m-cur)))/\h=H0) ?_ (i:=0) (Nat.zero_le _) ⟨⟨m,rfl,h1,by simp,λ_=>by simp [smL,bH]⟩,rfl⟩;rintro i _ _ hi ⟨⟨cur,rfl,q1,q2,q3⟩,rfl⟩
  by_cases hg:i<l.length/\0<=cur
  ·obtain⟨hlt,h0⟩:=hg
   have hle:=Br (ltb hlt);have hsz:=mN (cD l i);have hpre:=tg hlt;have hi2:i<9223372036854775807:=by omega
   have e2:bH (exL [(cD l i).pat,(cD l i).val])=bH (exO (cD l i).pat)+bH (exO (cD l i).val):=by rw [cK,cK,exL,cj,cj,bH,Nat.add_zero]
   obtain⟨r1,c1,o1,o2,o3⟩:=R.ex [(cD l i).pat,(cD l i).val] (by rw [e2];omega) cur (by omega) (by omega);simp only [List.length_cons,List.length_nil]at o3;have hk:r1<=cur-1:=by
    rcases (by omega:r1= -1\/0<=r1)with q|q
    ·omega
    ·have:=o3 q;omega
   rw [Cw]at c1;have px:=zc (cD l i).pat (cD l i).val
   repeat' (first
    |(refine WLg.mk ?_;first
    |refine aa rfl rfl rfl rfl ?_)
    |(show WX _ _ _ _ _ _ _ _ _ _;first
    |refine aI rfl rfl rfl rfl ?_|refine aI rfl rfl (bN Hy) rfl ?_|refine aG rfl rfl (eH Hy rfl) rfl ?_|refine aG rfl rfl (eG Hy rfl) rfl ?_|refine WX.bsl (cl:=exO (cD l i).pat++(exO (cD l i).val++[])) rfl rfl rfl rfl rfl rfl px rfl ?_|refine aT rfl rfl rfl (c1) .none rfl ?_|refine aJ (by repeat' (first|exact bF.nil|refine bF.any (λh=>rfl) ?_|refine bF.first rfl ?_|refine bF.first (eH Hy rfl) ?_|refine bF.snd (eH Hy rfl) ?_|refine bF.any (λh=>eH Hy rfl) ?_|refine bF.first (eG Hy rfl) ?_|refine bF.snd (eG Hy rfl) ?_|refine bF.any (λh=>eG Hy rfl) ?_|refine bF.each (.cons rfl .nil) ?_|refine bF.each (.cons rfl (.cons rfl .nil)) ?_|refine bF.each (.cons rfl (.cons rfl (.cons rfl .nil))) ?_)) ?_)|apply ac|refine ae rfl ?_|refine ay rfl rfl ?_|refine az rfl (λht=>?_) (λht=>?_)|apply ai|apply ah|apply aj|apply al|refine aB rfl ?_|refine ak rfl (λht=>?_) (λht=>?_)|apply av|apply ap|refine aK ?_|apply bG.norm|apply bG.exit|apply OnC.exit|fail)
   ·exact .norm ⟨_,_,cA KI rfl,hlt,⟨r1,rfl,o2,by omega,λh=>by have:=o3 h;omega⟩,rfl⟩
   ·rw [fC]at ht;simp at ht;omega
   ·have:=ce ht;omega
  ·skip
   repeat' (first
    |(refine WLg.mk ?_;first
    |refine aa rfl rfl rfl rfl ?_)|apply ac|refine ae rfl ?_|refine ay rfl rfl ?_|refine az rfl (λht=>?_) (λht=>?_)|apply ai|apply ah|apply aj|apply al|refine aB rfl ?_|refine ak rfl (λht=>?_) (λht=>?_)|apply av|apply ap|apply bG.norm|apply bG.exit|apply OnC.exit|fail)
   all_goals first
    |exact absurd ⟨bL Hy,jj Hy⟩ hg|exact⟨.inr rfl,_,rfl,.flat rfl,cur,rfl,mW (g:=λi=>bH (smL (l.take i))) hg hi q1 q2 q3 (by rw [List.take_length])⟩
 exact⟨r,c,ok⟩
set_option maxHeartbeats 4000000 in
theorem Bq{s:Nat}(R:Sz s)(l:List Cl)(hl:bH (clL l)<s+1)(m:Int)(h1: -1<=m)(h2:m<=4000):∃r,CP 19 [.lst l.length 4 (clL l),.int .i64 m] (.int .i64 r)/\OkR (bH (clL l)+500*l.length) m r:=by
 obtain⟨v,c,r,rfl,ok⟩:∃v,CP 19 [.lst l.length 4 (clL l),.int .i64 m] v/\∃r,v= .int .i64 r/\OkR (bH (clL l)+500*l.length) m r:=by
  refine dz Tryz.func19 (by decide) q19.2 rfl (bO (pxC l) (bO (.flat rfl) px0)) rfl ?_
  repeat' (first
   |(refine WLg.mk ?_;first
   |refine aa rfl rfl rfl rfl ?_)|apply ac|refine ae rfl ?_|apply ai|apply ah|apply aj|apply bG.norm|fail)
  refine aw (cA (l:=fr19 l m 0) KT rfl) ?_;refine ax l.length (λi x h=>(∃cur:Int,x=fr19 l cur i/\-1<=cur/\(i:Int)<=m-cur/\(0<=cur->(bH (clL (l.take i))+500*i:Int)<=1000*(m-cur)))/\h=H0) ?_ (i:=0) (Nat.zero_le _) ⟨⟨m,rfl,h1,by simp,λ_=>by simp [clL,bH]⟩,rfl⟩;rintro i _ _ hi ⟨⟨cur,rfl,q1,q2,q3⟩,rfl⟩;obtain⟨r1,hr⟩:=R.one (p:=i<l.length/\0<=cur) (bM l i).pats cur λh=>by
   have hle:=kc (ltb h.1);have hsz:=fJ (bM l i);omega
  repeat' (first
   |(refine WLg.mk ?_;first
   |refine aa rfl rfl rfl rfl ?_|refine aa rfl rfl (bN Hy) rfl ?_|refine ab rfl rfl (et Hy rfl) rfl ?_|refine aq rfl rfl rfl ((hr ⟨bL Hy,jj Hy⟩).1) rfl ?_)|apply ac|refine ae rfl ?_|refine ay rfl rfl ?_|refine az rfl (λht=>?_) (λht=>?_)|apply ai|apply ah|apply aj|apply al|refine aB rfl ?_|refine ak rfl (λht=>?_) (λht=>?_)|apply av|apply ap|apply bG.norm|apply bG.ret|apply bG.exit|apply OnC.ret|apply OnC.exit|fail)
  ·exact⟨.inr rfl,_,rfl,.flat rfl,-1,rfl,pM h1⟩
  ·have hlt:=bL (by assumption:ltI (Int.ofNat i) (Int.ofNat l.length)=true)
   have h0:=jj (by assumption:(!ltI cur 0)=true);have hnm:ltI 300 (Int.ofNat (bM l i).name.size)=false:=by assumption
   rw [fC]at hnm;have hnm:(bM l i).name.size<=300:=by simp at hnm;omega
   have hb:=ltb hlt;have hle:=kc hb;have hsz:=fJ (bM l i);have hpre:=mD hlt;obtain⟨o1,o2,o3⟩:=(hr ⟨hlt,h0⟩).2;have hi2:i<9223372036854775807:=by omega
   clear hr;refine aw (cA (l:=fr19g l r1 i 0) KT rfl) ?_;refine ax (bM l i).guards.length (λk x h=>(∃cur2:Int,x=fr19g l cur2 i k/\-1<=cur2/\(k:Int)<=r1-cur2/\(0<=cur2->(bH (gdL ((bM l i).guards.take k)):Int)<=1000*(r1-cur2)))/\h=H0) ?_ (i:=0) (Nat.zero_le _) ⟨⟨r1,rfl,o2,by simp,λ_=>by simp [gdL,bH]⟩,rfl⟩;rintro k _ _ hk ⟨⟨cur2,rfl,p1,p2,p3⟩,rfl⟩;have hk2:k<9223372036854775807:=by omega
   obtain⟨r2,hr2⟩:=R.one (p:=k<(bM l i).guards.length/\0<=cur2) (di (bM l i).guards k) cur2 λh=>by
    have hg:=vJ (ltb h.1);omega
   obtain⟨r3,c3,o31,o32,o33⟩:=R.sm (bM l i).body (by omega) cur2 (by omega) (by omega)
   repeat' (first
    |(refine WLg.mk ?_;first
    |refine aa rfl rfl rfl rfl ?_|refine aa rfl rfl (bN Hy) rfl ?_|refine ab rfl rfl (et hb rfl) rfl ?_|refine ab rfl rfl (dO (j:=0) (oY Hy) rfl _) rfl ?_|refine aq rfl rfl rfl ((hr2 ⟨bL Hy,jj Hy⟩).1) rfl ?_|refine aq rfl rfl rfl (c3) rfl ?_)|apply ac|refine ae rfl ?_|refine ay rfl rfl ?_|refine az rfl (λht=>?_) (λht=>?_)|apply ai|apply ah|apply aj|apply al|refine aB rfl ?_|refine ak rfl (λht=>?_) (λht=>?_)|apply av|apply bG.norm|apply bG.exit|apply OnC.exit|fail)
   ·have hklt:=bL (by assumption:ltI (Int.ofNat k) (Int.ofNat (bM l i).guards.length)=true)
    obtain⟨o21,o22,o23⟩:=(hr2 ⟨hklt,jj Hy⟩).2;have hgp:=xw hklt;exact .norm ⟨_,_,cA KI rfl,hklt,⟨r2,rfl,o22,by omega,λh=>by have:=o23 h;have:=p3 (by omega);omega⟩,rfl⟩
   ·have hc:¬0<=cur2:=qL Hy
    exact .norm ⟨_,_,cA KI rfl,hlt,⟨r3,rfl,o32,by omega,λh=>by omega⟩,rfl⟩
   ·have hk3:k=(bM l i).guards.length:=by have:=ce (by assumption:ltI (Int.ofNat k) (Int.ofNat (bM l i).guards.length)=false);omega
    rw [hk3,List.take_length]at p3;exact .norm ⟨_,_,cA KI rfl,hlt,⟨r3,rfl,o32,by omega,λh=>by have:=o33 h;have:=p3 (by omega);have:=o3 (by omega);have:=q3 (by omega);omega⟩,rfl⟩
  ·have hc:¬0<=cur:=qL Hy
   exact⟨.inr rfl,_,rfl,.flat rfl,cur,rfl,mW (g:=λi=>bH (clL (l.take i))+500*i) (λq=>hc q.2) hi q1 q2 (λq=>by have:=q3 q;omega) (by rw [List.take_length])⟩
  ·have hc:=ce (by assumption:ltI (Int.ofNat i) (Int.ofNat l.length)=false)
   exact⟨.inr rfl,_,rfl,.flat rfl,cur,rfl,mW (g:=λi=>bH (clL (l.take i))+500*i) (λq=>by have:=q.1;omega) hi q1 q2 (λq=>by have:=q3 q;omega) (by rw [List.take_length])⟩
 exact⟨r,c,ok⟩
set_option maxHeartbeats 4000000 in
theorem Bp{s:Nat}(R:Sz s)(l:List Ex)(hl:bH (exL l)<s+1)(m:Int)(h1: -1<=m)(h2:m<=4000):∃r,CP 38 [.lst l.length 11 (exL l),.int .i64 m] (.int .i64 r)/\OkR (bH (exL l)+350*l.length) m r:=by
 obtain⟨v,c,r,rfl,ok⟩:∃v,CP 38 [.lst l.length 11 (exL l),.int .i64 m] v/\∃r,v= .int .i64 r/\OkR (bH (exL l)+350*l.length) m r:=by
  refine dz Tryz.func38 (by decide) q38.2 rfl (bO (pxE l) (bO (.flat rfl) px0)) rfl ?_
  repeat' (first
   |(refine WLg.mk ?_;first
   |refine aa rfl rfl rfl rfl ?_)|apply ac|refine ae rfl ?_|apply ai|apply ah|apply aj|apply bG.norm|fail)
  refine aw (cA (l:=fr38 l m 0) KT rfl) ?_;refine ax l.length (λi x h=>(∃cur:Int,x=fr38 l cur i/\-1<=cur/\(i:Int)<=m-cur/\(0<=cur->(bH (exL (l.take i))+350*i:Int)<=1000*(m-cur)))/\h=H0) ?_ (i:=0) (Nat.zero_le _) ⟨⟨m,rfl,h1,by simp,λ_=>by simp [exL,bH]⟩,rfl⟩;rintro i _ _ hi ⟨⟨cur,rfl,q1,q2,q3⟩,rfl⟩;obtain⟨r1,hr⟩:=R.one (p:=i<l.length/\0<=cur) (bW l i).items cur λh=>by
   have hle:=vR (ltb h.1);have hsz:=dM (bW l i);omega
  repeat' (first
   |(refine WLg.mk ?_;first
   |refine aa rfl rfl rfl rfl ?_|refine aa rfl rfl (bN Hy) rfl ?_|refine ab rfl rfl rfl rfl ?_|refine ab rfl rfl (dA Hy) rfl ?_|refine aC rfl rfl RA rfl rfl rfl rfl rfl rfl rfl RA PB rfl rfl ?_|refine aq rfl rfl rfl ((hr ⟨bL Hy,jj Hy⟩).1) rfl ?_)|apply ac|refine ae rfl ?_|refine ay rfl rfl ?_|refine az rfl (λht=>?_) (λht=>?_)|apply ai|apply ah|apply aj|apply al|refine aD rfl ?_|refine aB rfl ?_|refine ak rfl (λht=>?_) (λht=>?_)|apply av|apply ap|apply bG.norm|apply bG.ret|apply bG.exit|apply OnC.ret|apply OnC.exit|fail)
  ·exact⟨.inr rfl,_,rfl,.flat rfl,-1,rfl,pM h1⟩
  ·exact⟨.inr rfl,_,rfl,.flat rfl,-1,rfl,pM h1⟩
  ·have hlt:=bL (by assumption:ltI (Int.ofNat i) (Int.ofNat l.length)=true)
   have h0:=jj (by assumption:(!ltI cur 0)=true);have hnm:=j0 (by assumption:ltI 300 (Int.ofNat (bW l i).name.size)=false);have htx:=j0 (by assumption:ltI 300 (Int.ofNat (bW l i).text.size)=false);have hb:=ltb hlt;have hle:=vR hb;have hsz:=dM (bW l i);have hpre:=fO hlt;obtain⟨o1,o2,o3⟩:=(hr ⟨hlt,h0⟩).2;have hi2:i<9223372036854775807:=by omega
   clear hr;refine aw (cA (l:=fr38s l (bW l i) r1 i 0) KT rfl) ?_;refine ax (bW l i).segs.length (λk x h=>(∃cur2:Int,x=fr38s l (bW l i) cur2 i k/\-1<=cur2/\(k:Int)<=r1-cur2/\(0<=cur2->(bH (sgL ((bW l i).segs.take k)):Int)<=1000*(r1-cur2)))/\h=H0) ?_ (i:=0) (Nat.zero_le _) ⟨⟨r1,rfl,o2,by simp,λ_=>by simp [sgL,bH]⟩,rfl⟩;rintro k _ _ hk ⟨⟨cur2,rfl,p1,p2,p3⟩,rfl⟩;have hk2:k<9223372036854775807:=by omega
   obtain⟨r2,hr2⟩:=R.two (p:=k<(bW l i).segs.length/\0<=cur2) (ck (bW l i).segs k).val (ck (bW l i).segs k).size cur2 λh=>by
    have:=yF (ltb h.1);have:=kU (ck (bW l i).segs k);omega
   have px:=zc (ck (bW l i).segs k).val (ck (bW l i).segs k).size;obtain⟨r3,c3,o31,o32,o33⟩:=R.cl (bW l i).clauses (by omega) cur2 (by omega) (by omega);obtain⟨r4,c4,o41,o42,o43⟩:=R.cl (bW l i).catches (by omega) r3 (by omega) (by omega);obtain⟨r5,c5,o51,o52,o53⟩:=R.sm (bW l i).body (by omega) r4 (by omega) (by omega);obtain⟨r6,c6,o61,o62,o63⟩:=R.sm (bW l i).after (by omega) r5 (by omega) (by omega)
   repeat' (first
    |(refine WLg.mk ?_;first
    |refine aa rfl rfl rfl rfl ?_|refine aa rfl rfl (bN Hy) rfl ?_|refine ab rfl rfl (lh Hy rfl) rfl ?_|refine ab rfl rfl rfl rfl ?_)
    |(show WX _ _ _ _ _ _ _ _ _ _;first
    |refine aI rfl rfl rfl rfl ?_|refine aI rfl rfl (bN Hy) rfl ?_|refine aG rfl rfl (eU Hy rfl) rfl ?_|refine aG rfl rfl (ef Hy rfl) rfl ?_|refine aG rfl rfl rfl rfl ?_|refine WX.bsl (cl:=exO (ck (bW l i).segs k).val++(exO (ck (bW l i).segs k).size++[])) rfl rfl rfl rfl rfl rfl px rfl ?_|refine aT rfl rfl rfl ((hr2 ⟨bL Hy,jj Hy⟩).1) .none rfl ?_|refine aT rfl rfl rfl (c3) .none rfl ?_|refine aT rfl rfl rfl (c4) .none rfl ?_|refine aT rfl rfl rfl (c5) .none rfl ?_|refine aT rfl rfl rfl (c6) .none rfl ?_|refine aJ (by repeat' (first|exact bF.nil|refine bF.any (λh=>rfl) ?_|refine bF.first rfl ?_|refine bF.first (eU Hy rfl) ?_|refine bF.snd (eU Hy rfl) ?_|refine bF.any (λh=>eU Hy rfl) ?_|refine bF.first (ef Hy rfl) ?_|refine bF.snd (ef Hy rfl) ?_|refine bF.any (λh=>ef Hy rfl) ?_|refine bF.first (lh Hy rfl) ?_|refine bF.snd (lh Hy rfl) ?_|refine bF.any (λh=>lh Hy rfl) ?_|refine bF.each (.cons rfl .nil) ?_|refine bF.each (.cons rfl (.cons rfl .nil)) ?_|refine bF.each (.cons rfl (.cons rfl (.cons rfl .nil))) ?_)) ?_)|apply ac|refine ae rfl ?_|refine ay rfl rfl ?_|refine az rfl (λht=>?_) (λht=>?_)|apply ai|apply ah|apply aj|apply al|refine aB rfl ?_|refine ak rfl (λht=>?_) (λht=>?_)|apply av|apply ap|refine aK ?_|apply bG.norm|apply bG.ret|apply bG.exit|apply OnC.ret|apply OnC.exit|fail)
   ·exact⟨.inr rfl,_,rfl,.flat rfl,-1,rfl,pM h1⟩
   ·rename_i hA hB
    have hklt:=bL hA;obtain⟨o21,o22,o23⟩:=(hr2 ⟨hklt,jj hB⟩).2;have htk:=j0 ht;have hgp:=qp hklt;have hgz:=kU (ck (bW l i).segs k);have hk1:r2<=cur2-1:=by
     rcases (by omega:r2= -1\/0<=r2)with q|q
     ·have:=jj hB;omega
     ·have:=o23 q;omega
    exact .norm ⟨_,_,cA KI rfl,hklt,⟨r2,rfl,o22,by omega,λh=>by have:=o23 h;have:=p3 (by omega);omega⟩,rfl⟩
   ·have hc:¬0<=cur2:=qL ht
    exact .norm ⟨_,_,cA KI rfl,hlt,⟨r6,rfl,o62,by omega,λh=>by omega⟩,rfl⟩
   ·have hk3:k=(bW l i).segs.length:=by have:=ce ht;omega
    rw [hk3,List.take_length]at p3;exact .norm ⟨_,_,cA KI rfl,hlt,⟨r6,rfl,o62,by omega,λh=>by have:=o63 h;have:=o53 (by omega);have:=o43 (by omega);have:=o33 (by omega);have:=p3 (by omega);have:=o3 (by omega);have:=q3 (by omega);omega⟩,rfl⟩
  ·have hc:¬0<=cur:=qL Hy
   exact⟨.inr rfl,_,rfl,.flat rfl,cur,rfl,mW (g:=λi=>bH (exL (l.take i))+350*i) (λq=>hc q.2) hi q1 q2 (λq=>by have:=q3 q;omega) (by rw [List.take_length])⟩
  ·have hc:=ce (by assumption:ltI (Int.ofNat i) (Int.ofNat l.length)=false)
   exact⟨.inr rfl,_,rfl,.flat rfl,cur,rfl,mW (g:=λi=>bH (exL (l.take i))+350*i) (λq=>by have:=q.1;omega) hi q1 q2 (λq=>by have:=q3 q;omega) (by rw [List.take_length])⟩
 exact⟨r,c,ok⟩
theorem mM:∀s,Sz s
 |0=>⟨λ_ h=>absurd h (by omega),λ_ h=>absurd h (by omega),λ_ h=>absurd h (by omega)⟩
 |s+1=>⟨λl hl m h1 h2=>Bp (mM s) l hl m h1 h2,λl hl m h1 h2=>Bq (mM s) l hl m h1 h2,λl hl m h1 h2=>Bo (mM s) l hl m h1 h2⟩
end
section
structure Fu where
 name:ByteArray
 arity:Int
 clauses:List Cl
structure Sn where
 name:ByteArray
 arity:Int
structure Md where
 name:ByteArray
 vsn:Int
 exports:List Sn
 funcs:List Fu
noncomputable section
def fuO(f:Fu):List V:=[sV f.name,.int .i64 f.arity,.lst f.clauses.length 4 (clL f.clauses)]
def snO(s:Sn):List V:=[sV s.name,.int .i64 s.arity]
def fuL:List Fu->List V
 |[]=>[]
 |f ::l=>fuO f++fuL l
def snL:List Sn->List V
 |[]=>[]
 |f ::l=>snO f++snL l
def mdO(m:Md):List V:=[sV m.name,.int .i64 m.vsn,.lst m.exports.length 2 (snL m.exports),.lst m.funcs.length 3 (fuL m.funcs)]
def fu0:Fu:=⟨⟨#[]⟩,0,[]⟩
def sn0:Sn:=⟨⟨#[]⟩,0⟩
def cI(l:List Fu)(i:Nat):Fu:=(l[i]?).getD fu0
def dl(l:List Sn)(i:Nat):Sn:=(l[i]?).getD sn0
end
theorem pQ{α:Type}{f:α->List V}{g:List α->List V}{n:Nat}(hc:∀a l,g (a ::l)=f a++g l)(hl:∀a,(f a).length=n):∀(l:List α) (i:Nat) (x:α),l[i]? =some x->∃a b,g l=a++(f x++b)/\a.length=Nat.mul i n
 |[],i,x,h=>by simp at h
 |a ::l,0,x,h=>by
  simp at h;subst h;exact⟨[],g l,by rw [hc];rfl,by simp⟩
 |a ::l,i+1,x,h=>by
  obtain⟨p,q,e,k⟩:=pQ hc hl l i x (by simpa using h);refine⟨f a++p,q,by rw [hc,e,List.append_assoc],?_⟩;rw [List.length_append,hl,k];show n+i*n=(i+1)*n;rw [Nat.add_mul,Nat.one_mul,Nat.add_comm]
theorem ER{l:List Fu}{i:Nat}(h:Nat.blt i l.length=true):∃a b,fuL l=a++(fuO (cI l i)++b)/\a.length=Nat.mul i 3:=pQ (g:=fuL) (f:=fuO) (n:=3) (λ_ _=>rfl) (λ_=>rfl) l i _ (cO (d:=fu0) h)
theorem EH{l:List Sn}{i:Nat}(h:Nat.blt i l.length=true):∃a b,snL l=a++(snO (dl l i)++b)/\a.length=Nat.mul i 2:=pQ (g:=snL) (f:=snO) (n:=2) (λ_ _=>rfl) (λ_=>rfl) l i _ (cO (d:=sn0) h)
theorem EQ{l:List Fu}{i:Nat}(h:Nat.blt i l.length=true):eY (fuL l) (Nat.mul i 3) (fuO (cI l i)):=by obtain⟨a,b,e,k⟩:=ER h;exact .of e k
theorem EG{l:List Sn}{i:Nat}(h:Nat.blt i l.length=true):eY (snL l) (Nat.mul i 2) (snO (dl l i)):=by obtain⟨a,b,e,k⟩:=EH h;exact .of e k
theorem sF{l:List Fu}{i:Nat}(h:Nat.blt i l.length=true):bH (fuO (cI l i))<=bH (fuL l):=by obtain⟨a,b,e,_⟩:=ER h;exact qf e
theorem GE{l:List Sn}{i:Nat}(h:Nat.blt i l.length=true):bH (snO (dl l i))<=bH (snL l):=by obtain⟨a,b,e,_⟩:=EH h;exact qf e
theorem j7(f:Fu):bH (fuO f)=(f.name.size+1)+(1+(1+bH (clL f.clauses))):=rfl
theorem Bk(s:Sn):bH (snO s)=(s.name.size+1)+1:=rfl
theorem oV(m:Md):bH (mdO m)=(m.name.size+1)+(1+((1+bH (snL m.exports))+(1+bH (fuL m.funcs)))):=rfl
theorem Co{l:List Fu}{i:Nat}(h:i<l.length):bH (fuL (l.take (i+1)))=bH (fuL (l.take i))+bH (fuO (cI l i)):=iq rfl (λ_ _=>rfl) l i _ (cO (d:=fu0) (ltb h))
theorem Fm{l:List Sn}{i:Nat}(h:i<l.length):bH (snL (l.take (i+1)))=bH (snL (l.take i))+bH (snO (dl l i)):=iq rfl (λ_ _=>rfl) l i _ (cO (d:=sn0) (ltb h))
theorem nk(l:List Fu):l.length<=bH (fuL l):=lf (f:=fuO) rfl (λ_ _=>rfl) (λx=>by rw [j7];omega) l
theorem te(l:List Sn):l.length<=bH (snL l):=lf (f:=snO) rfl (λ_ _=>rfl) (λx=>by rw [Bk];omega) l
theorem vt{l:List Fu}{i k n:Nat}{v:V}{h:H}(hb:Nat.blt i l.length=true)(hv:d5 (fuO (cI l i)) k=some v):ROp.run (.load false n) [.eptr (fuL l) (Nat.add (Nat.mul i 3) k)] h=some v:=dO (EQ hb) hv h
theorem hO{l:List Fu}{i:Nat}{h:H}(hb:Nat.blt i l.length=true):ROp.run (.load true 3) [.eptr (fuL l) (Nat.mul i 3)] h=some (.agg (fuO (cI l i))):=fm (EQ hb) h
theorem EN{l:List Sn}{i k n:Nat}{v:V}{h:H}(hb:Nat.blt i l.length=true)(hv:d5 (snO (dl l i)) k=some v):ROp.run (.load false n) [.eptr (snL l) (Nat.add (Nat.mul i 2) k)] h=some v:=dO (EG hb) hv h
theorem EO{l:List Sn}{i:Nat}{h:H}(hb:Nat.blt i l.length=true):ROp.run (.load true 2) [.eptr (snL l) (Nat.mul i 2)] h=some (.agg (snO (dl l i))):=fm (EG hb) h
theorem oB(f:Fu):∀c,c∈fuO f->bP c:=bO (.flat rfl) (bO (.flat rfl) (bO (pxC _) px0))
theorem wI(s:Sn):∀c,c∈snO s->bP c:=bO (.flat rfl) (bO (.flat rfl) px0)
theorem xz:∀l,∀c,c∈fuL l->bP c
 |[],c,h=>by cases h
 |f ::l,c,h=>by
  rcases List.mem_append.1 h with h|h
  ·exact oB f c h
  ·exact xz l c h
theorem Bl:∀l,∀c,c∈snL l->bP c
 |[],c,h=>by cases h
 |f ::l,c,h=>by
  rcases List.mem_append.1 h with h|h
  ·exact wI f c h
  ·exact Bl l c h
theorem Ik(l:List Fu):bP (.lst l.length 3 (fuL l)):= .lst (xz l)
theorem GQ(l:List Sn):bP (.lst l.length 2 (snL l)):= .lst (Bl l)
theorem gS(m:Md):∀c,c∈mdO m->bP c:=bO (.flat rfl) (bO (.flat rfl) (bO (GQ _) (bO (Ik _) px0)))
theorem Sz.oneC{s:Nat}(R:Sz s){p:Prop}(l:List Cl)(m:Int)(h:p->bH (clL l)<s/\0<=m/\m<=4000):∃r,p->CP 19 [.lst l.length 4 (clL l),.int .i64 (cT .i64 (Int.sub m 1))] (.int .i64 r)/\OkR (bH (clL l)+500*l.length) (m-1) r:=by
 refine Gg λk=>?_;obtain⟨k1,k2,k3⟩:=h k;rw [EA (by omega) (by omega)];exact R.cl l k1 (m-1) (by omega) (by omega)
noncomputable section
def fr8(m:Md)(i:Nat):AL:=[(1,.int .i64 4000),(2,.eptr (mdO m) 0),(4,.bool false),(5,.int .i64 (Int.ofNat i))]
def fr8f(m:Md)(cur:Int)(i:Nat):AL:=[(1,.int .i64 cur),(2,.eptr (mdO m) 0),(4,.bool false),(6,.int .i64 (Int.ofNat i))]
end
def ncl(l:List Fu):Nat:=(l.map λf=>f.clauses.length).sum
theorem DR{l:List Fu}{i:Nat}(h:i<l.length):ncl (l.take (i+1))=ncl (l.take i)+(cI l i).clauses.length:=by
 have:=cO (d:=fu0) (ltb h);unfold ncl;rw [List.take_add_one,this];simp [cI]
set_option maxHeartbeats 4000000 in
theorem f8b(m:Md):∃b,CP 8 [.agg (mdO m),.int .i64 4000] (.bool b)/\(b=true->bH (mdO m)+500*ncl m.funcs<=5300000):=by
 obtain⟨v,c,b,rfl,ok⟩:∃v,CP 8 [.agg (mdO m),.int .i64 4000] v/\∃b,v= .bool b/\(b=true->bH (mdO m)+500*ncl m.funcs<=5300000):=by
  refine dz Tryz.func8 (by decide) q8.2 rfl (bO (.agg (gS m)) (bO (.flat rfl) px0)) rfl ?_;have px:=gS m;have px2:bP (.eptr (mdO m) 0):= .eptr px;have R:=mM (bH (mdO m));have hsz:=oV m
  repeat' (first
   |(refine WLg.mk ?_;first
   |refine aa rfl rfl rfl rfl ?_|refine ab rfl rfl rfl rfl ?_|refine aA rfl rfl rfl rfl px rfl ?_)|apply ac|refine ae rfl ?_|refine ay rfl rfl ?_|refine az rfl (λht=>?_) (λht=>?_)|apply ai|apply ah|apply aj|apply al|refine aD rfl ?_|refine ak rfl (λht=>?_) (λht=>?_)|apply ap|apply bG.norm|apply bG.ret|fail)
  ·exact⟨.inr rfl,_,rfl,.flat rfl,false,rfl,λh=>by cases h⟩
  ·exact⟨.inr rfl,_,rfl,.flat rfl,false,rfl,λh=>by cases h⟩
  ·have hn:=j0 (by assumption:ltI 300 (Int.ofNat m.name.size)=false)
   have hx:m.exports.length<=4000:=by rw [fC]at ht;simp at ht;omega
   refine aw (cA (l:=fr8 m 0) KT rfl) ?_;refine ax m.exports.length (λi x h=>(x=fr8 m i/\bH (snL (m.exports.take i))<=302*i)/\h=H0) ?_ (i:=0) (Nat.zero_le _) ⟨⟨rfl,by simp [snL,bH]⟩,rfl⟩;rintro i _ _ hi ⟨⟨rfl,q⟩,rfl⟩;have hi2:i<9223372036854775807:=by omega
   repeat' (first
    |(refine WLg.mk ?_;first
    |refine aa rfl rfl rfl rfl ?_|refine aa rfl rfl (bN Hy) rfl ?_|refine ab rfl rfl (EN Hy rfl) rfl ?_|refine ab rfl rfl rfl rfl ?_)|apply ac|refine ae rfl ?_|apply ai|apply ah|apply aj|apply al|refine ak rfl (λht=>?_) (λht=>?_)|apply av|apply ap|apply bG.norm|apply bG.ret|apply bG.exit|apply OnC.ret|apply OnC.exit|fail)
   ·exact⟨.inr rfl,_,rfl,.flat rfl,false,rfl,λh=>by cases h⟩
   ·rename_i hA
    have hlt:=bL hA;have hs:=Fm hlt;have hz:=Bk (dl m.exports i);have:=j0 ht;exact .norm ⟨_,_,cA KI rfl,hlt,⟨rfl,by omega⟩,rfl⟩
   ·have hie:i=m.exports.length:=by have:=ce ht;omega
    rw [hie,List.take_length]at q;refine aw (cA (l:=fr8f m 4000 0) KT rfl) ?_;refine ax m.funcs.length (λi x h=>(∃cur:Int,x=fr8f m cur i/\-1<=cur/\(i:Int)<=4000-cur/\(0<=cur->(bH (fuL (m.funcs.take i))+500*ncl (m.funcs.take i):Int)<=1000*(4000-cur)))/\h=H0) ?_ (i:=0) (Nat.zero_le _) ⟨⟨4000,rfl,by omega,by simp,λ_=>by simp [fuL,bH,ncl]⟩,rfl⟩;clear hi hi2 hie ht;rintro j _ _ hj ⟨⟨cur,rfl,q1,q2,q3⟩,rfl⟩;have hj2:j<9223372036854775807:=by omega
    obtain⟨r1,hr⟩:=R.oneC (p:=j<m.funcs.length/\0<=cur) (cI m.funcs j).clauses cur λh=>by
     have:=sF (ltb h.1);have:=j7 (cI m.funcs j);omega
    repeat' (first
     |(refine WLg.mk ?_;first
     |refine aa rfl rfl rfl rfl ?_|refine aa rfl rfl (bN Hy) rfl ?_|refine ab rfl rfl (vt Hy rfl) rfl ?_|refine ab rfl rfl rfl rfl ?_|refine aq rfl rfl rfl ((hr ⟨bL Hy,jj Hy⟩).1) rfl ?_)|apply ac|refine ae rfl ?_|refine ay rfl rfl ?_|refine az rfl (λht=>?_) (λht=>?_)|apply ai|apply ah|apply aj|apply al|refine aB rfl ?_|refine ak rfl (λht=>?_) (λht=>?_)|apply av|apply ap|apply bG.norm|apply bG.ret|apply bG.exit|apply OnC.ret|apply OnC.exit|fail)
    ·exact⟨.inr rfl,_,rfl,.flat rfl,false,rfl,λh=>by cases h⟩
    ·rename_i hA hB
     have hlt:=bL hA;have h0:=jj hB;have hs:=Co hlt;have hcl:=DR hlt;have hz:=j7 (cI m.funcs j);have:=j0 ht;obtain⟨o1,o2,o3⟩:=(hr ⟨hlt,h0⟩).2;exact .norm ⟨_,_,cA KI rfl,hlt,⟨r1,rfl,o2,by omega,λh=>by have:=o3 h;have:=q3 h0;omega⟩,rfl⟩
    ·exact⟨.inr rfl,_,rfl,.flat rfl,_,rfl,λh=>absurd (jj h) (qL ht)⟩
    ·have hje:j=m.funcs.length:=by have:=ce ht;omega
     rw [hje,List.take_length]at q3;exact⟨.inr rfl,_,rfl,.flat rfl,_,rfl,λh=>by have:=q3 (jj h);have:=jj h;omega⟩
 exact⟨b,c,ok⟩
end
section
noncomputable section
def lpA(xs:List Ex):List (Option Blk):=[some (.ro 256 dN),some (.cells (bY (exL xs)) (cq (exL xs) 0 .e) none false)]
def HA:List Ex->H
 |[]=>H0
 |x ::l=>⟨trO (lpA (x ::l)) 0 .e,2⟩
def md:List Ex->V
 |[]=>.nils
 |x ::l=>.sl 1 0 (x ::l).length 0 false 11
end
inductive pt(f:AL):AL->Prop
 |nil:pt f []
 |cons {t:Nat} {v:V} {l:AL} (e:lk f t=some v) (k:pt f l):pt f ((t,v) ::l)
theorem pt.lk{f:AL}:∀{l:AL},pt f l->∀t v,lk l t=some v->lk f t=some v
 |_,.nil,t,v,h=>by cases h
 |_,.cons (t:=t0) (v:=v0) e k,t,v,h=>by
  rw [@dj noE]at h
  split at h
  ·rename_i q
   cases h;rw [<-q];exact e
  ·exact k.lk t v h
theorem KH{f l:AL}(h:pt f l:=by repeat' (first|exact .nil|refine .cons rfl ?_|refine .cons (dI (by assumption)) ?_)):pt f l:=h
theorem bU{T:Ty}{K:Nat->Prop}{f:F}{h:H}{l:AL}(k:pt f.loc l):fG T K f h ⟨l,[]⟩ h:=rU (λt v e=>k.lk t v e) (λt v e=>by cases e)
inductive gB:AL->AL->Prop
 |nil:gB [] []
 |cons {t:Nat} {v:V} {f l:AL} (p:bP v) (hn:lk f t=none) (k:gB f l):gB ((t,v) ::f) ((t,v) ::l)
 |drop {t:Nat} {v:V} {f l:AL} (hn:lk f t=none) (k:gB f l):gB ((t,v) ::f) l
theorem KP{f l:AL}(h:gB f l:=by repeat' (first|exact .nil|apply gB.cons PX rfl|apply gB.drop rfl)):gB f l:=h
theorem gB.mem{f l:AL}(k:gB f l):∀p,p∈l->lk f p.1=some p.2/\bP p.2:=by
 have up:∀{f:AL} {t t0:Nat} {v v0:V},lk f t=some v->lk f t0=none->lk ((t0,v0) ::f) t=some v:=λ{f t t0 v v0} h hn=>by
  rw [@dj noE]
  split
  ·rename_i q
   subst q;have hn:lk f t0=none:=hn;rw [hn]at h;cases h
  ·exact h
 induction k with
 |nil=>intro p h;cases h
 |@cons t0 v0 f l p hn k ih=>
  intro q hq;rcases List.mem_cons.1 hq with rfl|hq
  ·exact⟨by rw [@dj noE,if_pos rfl],p⟩
  ·exact⟨up (ih q hq).1 hn,(ih q hq).2⟩
 |@drop t0 v0 f l hn k ih=>
  intro q hq;exact⟨up (ih q hq).1 hn,(ih q hq).2⟩
theorem dS:∀a b:List Ex,exL (a++b)=exL a++exL b
 |[],b=>by rw [exL];rfl
 |x ::a,b=>by rw [List.cons_append,cK,cK,dS a b,List.append_assoc]
theorem mB:∀l:List Ex,(exL l).length=l.length*11
 |[]=>by rw [exL];rfl
 |x ::l=>by rw [cK,List.length_append,zb,mB l,List.length_cons];omega
theorem Ea(l:List Ex):cF (exL l)=true:=by
 have key:∀l:List V,(∀v,v∈l->cE v=true)->cF l=true:=by
  intro l
  induction l with
  |nil=>exact λ_=>rfl
  |cons v l ih=>
   intro h;show(Bool.rec (motive:=λ_=>Bool) false (cF l) (cE v):Bool)=true;rw [h v List.mem_cons_self];exact ih λx hx=>h x (List.mem_cons_of_mem _ hx)
 induction l with
 |nil=>rw [exL];rfl
 |cons x l ih=>
  refine key _ λv hv=>?_;have all:∀l:List V,cF l=true->∀v,v∈l->cE v=true:=by
   intro l
   induction l with
   |nil=>intro _ v h;cases h
   |cons a l ih2=>
    intro h v hv;have h:(Bool.rec (motive:=λ_=>Bool) false (cF l) (cE a):Bool)=true:=h;rw [cC]at h
    split at h
    ·rename_i q
     rcases List.mem_cons.1 hv with rfl|hv
     ·exact q
     ·exact ih2 h v hv
    ·cases h
  rw [cK]at hv;rcases List.mem_append.1 hv with h|h
  ·exact all (exO x) rfl v h
  ·exact all _ ih v h
theorem rc(x:Ex)(l:List Ex):bY (exL (x ::l))=(l.length+1)*11:=by rw [@bV noE,mB,List.length_cons]
theorem A3{h2:H}{zs:List Ex}{b:Nat}{tr:Tr V}{up:Option (Nat×Nat)}{ch:Bool}{t:Nat}{loc tmp loc' tmp':AL}(kl:gB loc loc')(kt:gB tmp tmp')(hn:lk tmp t=none)(hz:zs≠[])
  (h0:h2.blk 0=some (.ro 256 dN)) (hb:h2.blk b=some (.cells (bY (exL zs)) tr up ch)) (hup:∀d,¬Up h2 b 0 d) (hup2:∀d,¬Up h2 b b d) (hl:zs.length<=50000000) (hc:∀j v,(exL zs)[j]? =some v->tr.get j=some v):
  fG TP Kp ⟨loc,(t,.sl b 0 zs.length 0 false 11) ::tmp⟩ h2 ⟨loc',(t,md zs) ::tmp'⟩ (HA zs):=by
 obtain⟨z,l,rfl⟩:∃z l,zs=z ::l:=by
  cases zs with
  |nil=>exact absurd rfl hz
  |cons z l=>exact⟨z,l,rfl⟩
 have hk:2<=bR:=by unfold bR;omega
 have hlen:bY (exL (z ::l))<=bR:=by rw [rc];rw [List.length_cons]at hl;unfold bR;omega
 have u:∀i,cL (lpA (z ::l)) i->i=0\/i=1:=λi ⟨b,e⟩=>by
  cases i with
  |zero=>exact .inl rfl
  |succ i=>cases i with
   |zero=>exact .inr rfl
   |succ i=>cases e
 have hb0:b≠0:=λq=>by rw [q,h0]at hb;cases hb
 have V:Vw TP h2 (lpA (z ::l)) (λi=>if i=1 then b else i) (λ_=>none):=by
  refine⟨hk,λi b' e=>?_,λi j hi hj e=>?_,λi j d hi hj=>?_,(λk cs e=>by cases e),(λk cs i e=>by cases e),λq hq=>?_⟩
  ·rcases u i ⟨_,e⟩with rfl|rfl
   ·obtain rfl:Blk.ro 256 dN=b':=by cases e;rfl
    exact⟨_,h0,.ro λj v e=>.flat (d3 eJ (by rw [fU];unfold bR;omega) e)⟩
   ·obtain rfl:Blk.cells (bY (exL (z ::l))) (cq (exL (z ::l)) 0 .e) none false=b':=by cases e;rfl
    refine⟨_,hb,.cells λj v hj e=>?_⟩;rw [@bV noE]at hj hlen;rw [@cU noE _ 0 .e j (by omega),if_pos (by omega),Nat.sub_zero]at e;exact⟨v,hc j v e,.pure (iB _ v (List.mem_of_getElem? e)).x⟩
  ·rcases u i hi with rfl|rfl<;>rcases u j hj with rfl|rfl
   ·rfl
   ·exact absurd e.symm hb0
   ·exact absurd e hb0
   ·rfl
  ·rcases u i hi with rfl|rfl<;>rcases u j hj with rfl|rfl
   ·exact dH h0
   ·exact dH h0
   ·exact hup d
   ·exact hup2 d
  ·have e:=jV.all q hq
   have hq':q.1=0:=by rw [ii]at hq;rw [List.mem_singleton.1 hq]
   rw [hq']at e ⊢;exact⟨rfl,e⟩
 refine V.view (λid h=>by obtain rfl:id=0:=h;exact⟨⟨_,rfl⟩,rfl⟩) (.inl λ_=>rfl) ⟨λp hp=>⟨p.2,(kl.mem p hp).1,.pure (kl.mem p hp).2⟩,λp hp=>?_⟩;rcases List.mem_cons.1 hp with rfl|hp
 ·exact⟨_,by show lk ((t,_) ::tmp) t=_;rw [@dj noE,if_pos rfl];rfl,@Rn.sl _ (λi=>if i=1 then b else i) _ 1 0 (l.length+1) 0 11 false ⟨_,rfl⟩⟩
 ·obtain⟨q1,q2⟩:=kt.mem p hp
  refine⟨p.2,?_,.pure q2⟩;show lk ((t,_) ::tmp) p.1=_;rw [@dj noE,if_neg (λq=>by
   have q:t=p.1:=q;rw [<-q,hn]at q1;cases q1)]
  exact q1
theorem mc{T:Ty}{K:Nat->Prop}{h:H}{t:Nat}{v:V}{loc tmp loc' tmp':AL}(kl:gB loc loc')(kt:gB tmp tmp')(_:lk tmp t=none):fG T K ⟨loc,(t,v) ::tmp⟩ h ⟨loc',(t,v) ::tmp'⟩ h:=by
 refine rU (λs u e=>?_) (λs u e=>?_)
 ·have:=kl.mem _ (@ky noE _ _ _ e)
  exact this.1
 ·have e:lk ((t,v) ::tmp') s=some u:=e
  show lk ((t,v) ::tmp) s=some u;rw [@dj noE]at e ⊢
  split at e
  ·rename_i q;rw [if_pos q];exact e
  ·rename_i q;rw [if_neg q];exact(kt.mem _ (@ky noE _ _ _ e)).1
section
variable {P:Program} {call:cB} {loc tmp loc' tmp':AL} {l:List bS} {R:AL->H->Prop} {args:List Opd} {gd:Option (Opd×Bool)} {lo hi t:Nat}
theorem Et{xs ys:List Ex}(hb:xs.length+ys.length<=50000000)(kl:gB loc loc')(kt:gB tmp tmp')(hn:lk tmp t=none):
  ∃v h2,wi 11 200 none (md xs) (.lst ys.length 11 (exL ys)) (HA xs)=some (v,h2)/\fG TP Kp ⟨loc,(t,v) ::tmp⟩ h2 ⟨loc',(t,md (xs++ys)) ::tmp'⟩ (HA (xs++ys)):=by
 cases ys with
 |nil=>
  rw [List.append_nil];cases xs with
  |nil=>exact⟨.nils,H0,by rw [exL];rfl,mc kl kt hn⟩
  |cons x xs=>
   refine⟨md (x ::xs),HA (x ::xs),?_,mc kl kt hn⟩;rw [show exL ([]:List Ex)=[] by rw [exL]];have hx:=rc x xs;have hle:Nat.ble (Nat.add (x ::xs).length 0) (Nat.div (Nat.sub (bY (exL (x ::xs))) 0) 11)=true:=by
    rw [hx];show Nat.ble (xs.length+1+0) (((xs.length+1)*11-0)/11)=true;rw [Nat.sub_zero,Nat.mul_div_cancel _ (by decide)];simp
   show(Bool.rec (motive:=λ_=>Option (V×H)) _ (some (V.sl 1 0 (Nat.add (x ::xs).length 0) 0 false 11,HA (x ::xs))) (Nat.ble (Nat.add (x ::xs).length 0) (Nat.div (Nat.sub (bY (exL (x ::xs))) 0) 11)):Option (V×H))=_;rw [hle];rfl
 |cons y ys=>
  have hone:=Ea (y ::ys);have hlen:=rc y ys;rw [List.length_cons]at hb;have hby:Nat.blt (Nat.mul (y ::ys).length 200) 1099511627776=true:=ltb (by show(ys.length+1)*200<_;omega);cases xs with
  |nil=>
   refine⟨.sl 1 0 (y ::ys).length 0 false 11,HA (y ::ys),?_,mc kl kt hn⟩;have hk:Nat.blt (bY (exL (y ::ys))) bR=true:=ltb (by rw [hlen];unfold bR;rw [List.length_nil]at hb;omega);show oif (Nat.blt (Nat.mul (y ::ys).length 200) 1099511627776) (ob (H0.newCells (exL (y ::ys)) none) λh'=>some (V.sl 1 0 (y ::ys).length 0 false 11,h'))=_;rw [hby];have:H0.newCells (exL (y ::ys)) none=some (HA (y ::ys)):=by
    show oif (cF (exL (y ::ys))) (oif (Nat.blt (bY (exL (y ::ys))) bR) _)=_;rw [hone,hk];rfl
   rw [this];rfl
  |cons x xs=>
   rw [List.length_cons]at hb;have hx:=rc x xs;have hle:Nat.ble (Nat.add (x ::xs).length (y ::ys).length) (Nat.div (Nat.sub (bY (exL (x ::xs))) 0) 11)=false:=by
    rw [hx];show Nat.ble (xs.length+1+(ys.length+1)) (((xs.length+1)*11-0)/11)=false;rw [Nat.sub_zero,Nat.mul_div_cancel _ (by decide)];cases q:Nat.ble (xs.length+1+(ys.length+1)) (xs.length+1)with
    |false=>rfl
    |true=>have:=Nat.le_of_ble_eq_true q;omega
   have hq:(Nat.beq (bY (exL (x ::xs))) (Nat.mul (x ::xs).length 11)&&Nat.beq 0 0)=true:=by
    rw [hx];show(Nat.beq ((xs.length+1)*11) ((xs.length+1)*11)&&true)=true;simp
   have hby2:Nat.blt (Nat.mul (Nat.add (x ::xs).length (y ::ys).length) 200) 1099511627776=true:=ltb (by show(xs.length+1+(ys.length+1))*200<_;omega);have hk:Nat.blt (Nat.add (bY (exL (x ::xs))) (bY (exL (y ::ys)))) bR=true:=ltb (by rw [hx,hlen];show(xs.length+1)*11+(ys.length+1)*11<bR;unfold bR;omega);have hsum:bY (exL (x ::xs++y ::ys))=Nat.add (bY (exL (x ::xs))) (bY (exL (y ::ys))):=by
    rw [@bV noE,@bV noE,@bV noE,dS,List.length_append];rfl
   refine⟨.sl 2 0 (Nat.add (x ::xs).length (y ::ys).length) 0 false 11,⟨((HA (x ::xs)).t.put 1 (some (.cells (bY (exL (x ::xs))) (cq (exL (x ::xs)) 0 .e) none true))).put 2 (some (.cells (Nat.add (bY (exL (x ::xs))) (bY (exL (y ::ys)))) (cq (exL (y ::ys)) (bY (exL (x ::xs))) (cq (exL (x ::xs)) 0 .e)) (some (1,0)) false)),3⟩,?_,?_⟩
   ·show(Bool.rec (motive:=λ_=>Option (V×H))
      (oif (Nat.beq (bY (exL (x ::xs))) (Nat.mul (x ::xs).length 11)&&Nat.beq 0 0) (oif (Nat.blt (Nat.mul (Nat.add (x ::xs).length (y ::ys).length) 200) 1099511627776)
       (ob (some (⟨(HA (x ::xs)).t.put 1 (some (.cells (bY (exL (x ::xs))) (cq (exL (x ::xs)) 0 .e) none true)),2⟩:H)) λh=>ob (h.shareNew 1 0 (bY (exL (x ::xs))) (cq (exL (x ::xs)) 0 .e) (exL (y ::ys))) λh'=>some (V.sl h.next 0 (Nat.add (x ::xs).length (y ::ys).length) 0 false 11,h'))))
      _ (Nat.ble (Nat.add (x ::xs).length (y ::ys).length) (Nat.div (Nat.sub (bY (exL (x ::xs))) 0) 11)):Option (V×H))=_
    rw [hle,hq,hby2];show ob (oif (cF (exL (y ::ys))) (oif (Nat.blt (Nat.add (bY (exL (x ::xs))) (bY (exL (y ::ys)))) bR) _)) _=_;rw [hone,hk];rfl
   ·have e1:Nat.add (x ::xs).length (y ::ys).length=(x ::xs++y ::ys).length:=by rw [List.length_append];rfl
    rw [e1,<-hsum];have k2:(2:Nat)<bR:=by unfold bR;omega
    have b1:∀(j:Nat) (A B:Option Blk),(⟨((HA (x ::xs)).t.put 1 A).put 2 B,3⟩:H).blk j=if j=2 then B else if j=1 then A else(HA (x ::xs)).blk j:=λj A B=>by
     show(((HA (x ::xs)).t.put 1 A).put 2 B).get j=_;rw [Tr.get_put _ _ _ _ k2,Tr.get_put _ _ _ _ (by omega)];rfl
    refine A3 kl kt hn (by simp) (by rw [b1,if_neg (by decide),if_neg (by decide)];rfl) (by rw [b1,if_pos rfl]) (λd u=>?_) (λd u=>?_) (by rw [<-e1];show xs.length+1+(ys.length+1)<=_;omega) (λj v e=>?_)
    ·cases u with
     |one e k=>
      rw [b1,if_pos rfl]at e;cases e;cases k
     |step e k u=>
      rw [b1,if_pos rfl]at e;cases e;cases k;cases u with
      |one e k=>rw [b1,if_neg (by decide),if_pos rfl]at e;cases e;cases k
      |step e k _=>rw [b1,if_neg (by decide),if_pos rfl]at e;cases e;cases k
    ·cases u with
     |one e k=>
      rw [b1,if_pos rfl]at e;cases e;cases k
     |step e k u=>
      rw [b1,if_pos rfl]at e;cases e;cases k;cases u with
      |one e k=>rw [b1,if_neg (by decide),if_pos rfl]at e;cases e;cases k
      |step e k _=>rw [b1,if_neg (by decide),if_pos rfl]at e;cases e;cases k
    ·rw [dS]at e
     have hkeys:=Nat.le_of_ble_eq_true hk;rw [@bV noE,@bV noE]at hkeys;have hkeys:(exL (x ::xs)).length+(exL (y ::ys)).length+1<=bR:=hkeys;have hj:=(List.getElem?_eq_some_iff.1 e).1;rw [List.length_append]at hj;rw [@bV noE,@cU noE _ _ _ j (by omega)]
     by_cases q:j<(exL (x ::xs)).length
     ·rw [if_neg (by omega),@cU noE _ 0 .e j (by omega),if_pos (by omega),Nat.sub_zero]
      rw [List.getElem?_append_left q]at e;exact e
     ·rw [if_pos (by omega)]
      rw [List.getElem?_append_right (by omega)]at e;exact e
theorem aO{xs ys:List Ex}(e0:bX ⟨loc,tmp⟩ gd=some true)(e1:evs ⟨loc,tmp⟩ args=some [md xs,.lst ys.length 11 (exL ys)])(hb:xs.length+ys.length<=50000000)(kl:gB loc loc')(kt:gB tmp tmp')(hn:lk tmp t=none)
  (k:WL Tryz.prog TP Kp call l loc' ((t,md (xs++ys)) ::tmp') (HA (xs++ys)) R):WL Tryz.prog TP Kp call (⟨.t t,.e (.append 11 200 none),args,gd,lo,hi⟩ ::l) loc tmp (HA xs) R:=by
 obtain⟨v,h2,q1,q2⟩:=Et hb kl kt hn;exact aE e0 e1 q1 rfl ⟨bt q2 k.out⟩
theorem In(x:Ex):exL [x]=exO x++[]:=by rw [cK,exL]
theorem aY{xs:List Ex}{y:Ex}(e0:bX ⟨loc,tmp⟩ gd=some true)(e1:evs ⟨loc,tmp⟩ args=some [md xs,.lst 1 11 (exO y++[])])(hb:xs.length+1<=50000000)(kl:gB loc loc')(kt:gB tmp tmp')(hn:lk tmp t=none)
  (k:WL Tryz.prog TP Kp call l loc' ((t,md (xs++[y])) ::tmp') (HA (xs++[y])) R):WL Tryz.prog TP Kp call (⟨.t t,.e (.append 11 200 none),args,gd,lo,hi⟩ ::l) loc tmp (HA xs) R:=by
 rw [<-In]at e1;exact aO (ys:=[y]) e0 e1 hb kl kt hn k
end
theorem AZ{xs:List Ex}{f:F}{t:Nat}(e:lk f.loc t=some (md xs))(hl:xs.length<=50000000):fG TP Kp f (HA xs) ⟨[(t,.lst xs.length 11 (exL xs))],[]⟩ H0:=by
 cases xs with
 |nil=>
  intro m N E0 g0 w0 E g w tmps s fr;refine⟨E,g,s,⟨fr.1,λi v h=>?_⟩,λid b o z h=>⟨id,o,z,h⟩⟩;unfold rdn at h
  split at h
  ·rename_i hb
   have h:lk [(t,V.lst 0 11 (exL []))] i=some v:=h
   by_cases q:t=i
   ·subst q
    have h2:lk [(t,V.lst 0 11 (exL []))] t=some (V.lst 0 11 (exL [])):=by rw [@dj noE,if_pos rfl]
    obtain rfl:V.lst 0 11 (exL [])=v:=Option.some.inj (h2.symm.trans h);obtain⟨u,k1,k2⟩:=fr.2 t .nils (by unfold rdn;rw [if_pos hb];exact e);refine⟨u,k1,?_⟩;cases k2;rw [show exL ([]:List Ex)=[] by rw [exL]];exact @VR.lst0 E g 11
   ·rw [@dj noE,if_neg q]at h
    cases h
  ·cases h
 |cons x l=>
  have hlen:=rc x l;have hl2:bY (exL (x ::l))<=bR:=by rw [hlen];rw [List.length_cons]at hl;unfold bR;omega
  have hz:(HA (x ::l)).blk 1=some (.cells (bY (exL (x ::l))) (cq (exL (x ::l)) 0 .e) none false):=rfl;have hb:(HA (x ::l)).blk 0=some (.ro 256 dN):=rfl;have V:Vw TP (HA (x ::l)) lp0 (λi=>i) (λj=>if j=1 then some (exL (x ::l))else none):=by
   have u0:∀i,cL lp0 i->i=0:=λi ⟨b,e⟩=>by
    cases i with
    |zero=>rfl
    |succ i=>cases e
   refine⟨jV.len,λi b' e=>?_,λi j _ _ e=>e,λi j d hi _=>?_,λj cs' e _=>?_,λj cs' i e hi=>?_,λq hq=>⟨rfl,jV.all q hq⟩⟩
   ·obtain rfl:=u0 i ⟨_,e⟩
    obtain rfl:Blk.ro 256 dN=b':=by cases e;rfl
    exact⟨_,hb,.ro λj v e=>.flat (d3 eJ (by rw [fU];unfold bR;omega) e)⟩
   ·rw [u0 i hi]
    exact dH hb
   ·by_cases q:j=1
    ·subst q
     rw [if_pos rfl]at e;cases e;refine⟨_,_,_,by rw [<-@bV noE];exact hz,λi v hv=>?_⟩;have:=(List.getElem?_eq_some_iff.1 hv).1;rw [@bV noE]at hl2;rw [@cU noE _ 0 .e i (by omega),if_pos (by omega),Nat.sub_zero];exact hv
    ·rw [if_neg q]at e;cases e
   ·obtain rfl:=u0 i hi
    by_cases q:j=1
    ·subst q
     exact⟨by decide,λd=>dH hb,λd u=>by
      cases u with
      |one e' k'=>rw [hz]at e';cases e';cases k'
      |step e' k' _=>rw [hz]at e';cases e';cases k'⟩
    ·rw [if_neg q]at e;cases e
  refine V.view (λid h=>by obtain rfl:id=0:=h;exact⟨⟨_,rfl⟩,rfl⟩) (.inr pn) ⟨λp hp=>?_,λp hp=>by cases hp⟩;obtain rfl:=List.mem_singleton.1 hp;exact⟨_,e,.fzs (k:=1) (by rw [if_pos rfl]) (by rw [mB]) (RnL.pure λc hc=>(iB _ c hc).x)⟩
end
section
theorem nF{f:FuncId} {fn:Func} {cf:CF} (hfn:Tryz.prog.funcs[f]? =some fn) (hnm:fn.name≠ "runtime.NumGoroutine") (hcf:bQ TP fn=some cf) {vs:List V} (hlen:vs.length=cf.params) (hvs:∀v,v∈vs->bP v) {t:Nat} (hres:cf.results=[.tmp (.l t)]) {Q:List Ex->Prop} {loc:AL} (hn:kP vs 0=some loc)
  (k:WC Tryz.prog TP Kp ft 1 cf.code loc H0 λx loc h=>(x= .norm\/x= .ret)/\∃xs,Q xs/\lk loc t=some (md xs)/\h=HA xs/\xs.length<=50000000):∃xs,Q xs/\CP f vs (.lst xs.length 11 (exL xs)):=by
 have hW:W Tryz.prog TP Kp ft 1 cf.code ⟨dG vs 0,[]⟩ H0 λx f1 h1=>(x= .norm\/x= .ret)/\∃l,gf f1 h1 cf.results=some l/\bP (cQ l)/\∃xs,Q xs/\cQ l= .lst xs.length 11 (exL xs):=by
  rw [lH hn];refine W.viewX (W.mono k.out λx f1 h1 q=>?_);obtain⟨_,q1,xs,q2,q3,rfl,q5⟩:=q;refine⟨_,_,AZ q3 q5,q1,[.lst xs.length 11 (exL xs)],?_,pxE xs,xs,q2,rfl⟩;rw [hres];show ob (lk [(t,V.lst xs.length 11 (exL xs))] t) (λv=>ob (some []) λvs=>some (v ::vs))=_;rw [@dj noE,if_pos rfl];rfl
 obtain⟨v,c,xs,q,rfl⟩:=pV (R:=λv=>∃xs,Q xs/\v= .lst xs.length 11 (exL xs)) hfn hnm hcf hlen hvs hW;exact⟨xs,q,c⟩
def df:List Sm->List Ex
 |[]=>[]
 |s ::l=>(if s.isMatch then [s.pat,s.val]else [s.val])++df l
def gdK:List (List Ex)->List Ex
 |[]=>[]
 |g ::l=>g++gdK l
def clK:List Cl->List Ex
 |[]=>[]
 |c ::l=>(c.pats++(gdK c.guards++df c.body))++clK l
def mQ:List Sg->List Ex
 |[]=>[]
 |s ::l=>((if s.type=4 then []else [s.val])++(if s.sized then [s.size]else []))++mQ l
theorem qe{α:Type}{f:α->List Ex}{g:List α->List Ex}(hn:g []=[])(hc:∀a l,g (a ::l)=f a++g l):∀(l:List α) (i:Nat) (x:α),l[i]? =some x->g (l.take (i+1))=g (l.take i)++f x
 |[],i,x,h=>by simp at h
 |a ::l,0,x,h=>by
  simp at h;subst h;simp only [List.take_succ_cons,List.take_zero];rw [hc,hn];simp
 |a ::l,i+1,x,h=>by
  have:=qe hn hc l i x (by simpa using h);rw [List.take_succ_cons,List.take_succ_cons,hc,hc,this,List.append_assoc]
theorem rx{l:List Sm}{i:Nat}(h:i<l.length):df (l.take (i+1))=df (l.take i)++(if(cD l i).isMatch then [(cD l i).pat,(cD l i).val]else [(cD l i).val]):=qe (f:=λs=>if s.isMatch then [s.pat,s.val]else [s.val]) rfl (λ_ _=>rfl) l i _ (cO (ltb h))
theorem CW{l:List Cl}{i:Nat}(h:i<l.length):clK (l.take (i+1))=clK (l.take i)++((bM l i).pats++(gdK (bM l i).guards++df (bM l i).body)):=qe (f:=λc=>c.pats++(gdK c.guards++df c.body)) rfl (λ_ _=>rfl) l i _ (cO (ltb h))
theorem Ch{l:List (List Ex)}{i:Nat}(h:i<l.length):gdK (l.take (i+1))=gdK (l.take i)++di l i:=qe (f:=λg=>g) rfl (λ_ _=>rfl) l i _ (cO (d:=[]) (ltb h))
theorem lG{l:List Sg}{i:Nat}(h:i<l.length):mQ (l.take (i+1))=mQ (l.take i)++((if(ck l i).type=4 then []else [(ck l i).val])++(if(ck l i).sized then [(ck l i).size]else [])):=qe (f:=λs=>(if s.type=4 then []else [s.val])++(if s.sized then [s.size]else [])) rfl (λ_ _=>rfl) l i _ (cO (ltb h))
theorem iK(x:Ex):11<=bH (exO x):=by rw [dM];omega
theorem gA:∀l,bH (exL (df l))<=bH (smL l)
 |[]=>by rw [df,exL];simp [bH]
 |s ::l=>by
  have ih:=gA l;rw [df,dS,cj,gO,cj,mN]
  split
  ·rw [Cw,cj,cj,bH];omega
  ·rw [cK,exL,cj,bH];omega
theorem xy:∀l,bH (exL (gdK l))<=bH (gdL l)
 |[]=>by rw [gdK,exL];simp [bH]
 |g ::l=>by
  have ih:=xy l;have:bH (gdL (g ::l))=(1+bH (exL g))+bH (gdL l):=by
   rw [gdL];simp [bH,szV]
  rw [gdK,dS,cj,this];omega
theorem gE:∀l,bH (exL (clK l))<=bH (clL l)
 |[]=>by rw [clK,exL];simp [bH]
 |c ::l=>by
  have ih:=gE l;have h1:=xy c.guards;have h2:=gA c.body;rw [clK,dS,dS,dS,cj,cj,cj,gW,cj,fJ];omega
theorem mP:∀l,bH (exL (mQ l))<=bH (sgL l)
 |[]=>by rw [mQ,exL];simp [bH]
 |s ::l=>by
  have ih:=mP l;have e1:bH (exL (if s.type=4 then []else [s.val]))<=bH (exO s.val):=by
   split
   ·rw [exL];simp [bH]
   ·rw [cK,exL,cj,bH];omega
  have e2:bH (exL (if s.sized then [s.size]else []))<=bH (exO s.size):=by
   split
   ·rw [cK,exL,cj,bH];omega
   ·rw [exL];simp [bH]
  rw [mQ,dS,dS,cj,cj,i7,cj,kU];omega
theorem nC(x:Ex):∀c,c∈exO x++[]->bP c:=by
 rw [List.append_nil];exact λc hc=>(cZ _ c hc).x
theorem iQ{α:Type}{f:α->List V}{g:List α->List V}(hn:g []=[])(hc:∀a l,g (a ::l)=f a++g l):∀(l:List α) (i:Nat),bH (g (l.take i))<=bH (g l)
 |[],i=>by simp
 |a ::l,0=>by simp [hn,bH]
 |a ::l,i+1=>by
  have:=iQ hn hc l i;rw [List.take_succ_cons,hc,hc,cj,cj];omega
theorem tf(l:List Sm)(i:Nat):bH (smL (l.take i))<=bH (smL l):=iQ (by rw [smL]) gO l i
theorem kB(l:List Cl)(i:Nat):bH (clL (l.take i))<=bH (clL l):=iQ (by rw [clL]) gW l i
theorem mO(l:List Sg)(i:Nat):bH (sgL (l.take i))<=bH (sgL l):=iQ (by rw [sgL]) i7 l i
theorem tZ(l:List (List Ex))(i:Nat):bH (gdL (l.take i))<=bH (gdL l):=iQ (f:=λx=>[V.lst x.length 11 (exL x)]) (by rw [gdL]) (λa l=>by first|(rw [gdL];done)|(rw [gdL];rfl)) l i
noncomputable section
def fr42(l:List Sm)(xs:List Ex)(i:Nat):AL:=[(0,.lst l.length 23 (smL l)),(3,md xs),(4,.int .i64 (Int.ofNat i))]
end
set_option maxHeartbeats 4000000 in
theorem f42(l:List Sm)(hl:bH (smL l)<=6000000):CP 42 [.lst l.length 23 (smL l)] (.lst (df l).length 11 (exL (df l))):=by
 obtain⟨xs,rfl,c⟩:∃xs,xs=df l/\CP 42 [.lst l.length 23 (smL l)] (.lst xs.length 11 (exL xs)):=by
  refine nF Tryz.func42 (by decide) q42.2 rfl (bO (pxM l) px0) rfl rfl ?_;have hn:=gM l
  repeat' (first
   |(refine WLg.mk ?_;first
   |refine aa rfl rfl rfl rfl ?_)|apply ac|refine ae rfl ?_|apply ai|apply ah|apply aj|apply bG.norm|fail)
  refine aw (bU (l:=fr42 l [] 0) KH) ?_;refine ax l.length (λi x h=>∃xs,xs=df (l.take i)/\x=fr42 l xs i/\h=HA xs) ?_ (i:=0) (Nat.zero_le _) ⟨[],rfl,rfl,rfl⟩;rintro i _ _ hi ⟨xs,hxs,rfl,rfl⟩;have hi2:i<9223372036854775807:=by omega
  have hxl:xs.length<=6000000:=by
   have h1:=gA (l.take i);have h2:=tf l i;have h3:=dy xs;rw [<-hxs]at h1;omega
  have hx1:xs.length+1<=50000000:=by omega
  have hx2:(xs++[(cD l i).pat]).length+1<=50000000:=by rw [List.length_append];simp;omega
  repeat' (first
   |(refine WLg.mk ?_;first
   |refine aa rfl rfl rfl rfl ?_|refine aa rfl rfl (bN Hy) rfl ?_|refine ab rfl rfl (eH Hy rfl) rfl ?_|refine ab rfl rfl (eG Hy rfl) rfl ?_|refine ab rfl rfl (oW Hy rfl) rfl ?_|refine aP (cs:=exO (cD l i).pat++[]) rfl rfl rfl rfl rfl rfl (nC (cD l i).pat) rfl ?_|refine aP (cs:=exO (cD l i).val++[]) rfl rfl rfl rfl rfl rfl (nC (cD l i).val) rfl ?_|refine aY (y:=(cD l i).pat) rfl rfl Hy KP KP rfl ?_|refine aY (y:=(cD l i).val) rfl rfl Hy KP KP rfl ?_)|apply ac|refine ae rfl ?_|apply ai|apply ah|apply aj|apply al|refine ak rfl (λht=>?_) (λht=>?_)|apply av|apply ap|apply bG.norm|apply bG.exit|apply OnC.exit|fail)
  ·have hlt:=bL Hy
   exact .norm ⟨_,_,bU KH,hlt,_,by rw [rx hlt,ht,hxs,List.append_assoc];rfl,rfl,rfl⟩
  ·have hlt:=bL Hy
   exact .norm ⟨_,_,bU KH,hlt,_,by rw [rx hlt,ht,hxs];rfl,rfl,rfl⟩
  ·have hie:i=l.length:=by have:=ce ht;omega
   exact⟨.inr rfl,_,by rw [hxs,hie,List.take_length],rfl,rfl,by omega⟩
 exact c
noncomputable section
def fr23(l:List Cl)(xs:List Ex)(i:Nat):AL:=[(0,.lst l.length 4 (clL l)),(3,md xs),(4,.int .i64 (Int.ofNat i))]
def fr23g(l:List Cl)(xs:List Ex)(i k:Nat):AL:=[(0,.lst l.length 4 (clL l)),(3,md xs),(4,.int .i64 (Int.ofNat i)),(5,.int .i64 (Int.ofNat k))]
end
theorem fX(l:List Ex)(n:Nat)(h:bH (exL l)<=n):l.length<=n:=Nat.le_trans (dy l) h
set_option maxHeartbeats 4000000 in
theorem f23(l:List Cl)(hl:bH (clL l)<=6000000):CP 23 [.lst l.length 4 (clL l)] (.lst (clK l).length 11 (exL (clK l))):=by
 obtain⟨xs,rfl,c⟩:∃xs,xs=clK l/\CP 23 [.lst l.length 4 (clL l)] (.lst xs.length 11 (exL xs)):=by
  refine nF Tryz.func23 (by decide) q23.2 rfl (bO (pxC l) px0) rfl rfl ?_;have hn:=eT l
  repeat' (first
   |(refine WLg.mk ?_;first
   |refine aa rfl rfl rfl rfl ?_)|apply ac|refine ae rfl ?_|apply ai|apply ah|apply aj|apply bG.norm|fail)
  refine aw (bU (l:=fr23 l [] 0) KH) ?_;refine ax l.length (λi x h=>∃xs,xs=clK (l.take i)/\x=fr23 l xs i/\h=HA xs) ?_ (i:=0) (Nat.zero_le _) ⟨[],rfl,rfl,rfl⟩;rintro i _ _ hi ⟨xs,hxs,rfl,rfl⟩;have hi2:i<9223372036854775807:=by omega
  have hxl:xs.length<=6000000:=by
   have h1:=gE (l.take i);have h2:=kB l i;rw [<-hxs]at h1;exact fX _ _ (by omega)
  have hxp:i<l.length->xs.length+(bM l i).pats.length<=50000000:=λh=>by
   have:=kc (ltb h);have:=fJ (bM l i);have:=fX (bM l i).pats 6000000 (by omega);omega
  repeat' (first
   |(refine WLg.mk ?_;first
   |refine aa rfl rfl rfl rfl ?_|refine aa rfl rfl (bN Hy) rfl ?_|refine ab rfl rfl (et Hy rfl) rfl ?_|refine aO (ys:=(bM l i).pats) rfl rfl (hxp (bL Hy)) KP KP rfl ?_)|apply ac|refine ae rfl ?_|apply ai|apply ah|apply aj|apply al|refine ak rfl (λht=>?_) (λht=>?_)|apply av|apply ap|apply bG.norm|apply bG.exit|apply OnC.exit|fail)
  ·have hlt:=bL ht
   have hb:=ltb hlt;have hle:=kc hb;have hsz:=fJ (bM l i);have hp:=fX (bM l i).pats 6000000 (by omega);have hg0:=jF (bM l i).guards;refine aw (bU (l:=fr23g l (xs++(bM l i).pats) i 0) KH) ?_;refine ax (bM l i).guards.length (λk x h=>∃zs,zs=(xs++(bM l i).pats)++gdK ((bM l i).guards.take k)/\x=fr23g l zs i k/\h=HA zs) ?_ (i:=0) (Nat.zero_le _) ⟨_,by simp [gdK],rfl,rfl⟩;rintro k _ _ hk ⟨zs,hzs,rfl,rfl⟩;have hk2:k<9223372036854775807:=by omega
   have hzl:zs.length<=18000000:=by
    have h1:=xy ((bM l i).guards.take k);have h2:=tZ (bM l i).guards k;have h3:=fX _ 6000000 (show bH (exL (gdK ((bM l i).guards.take k)))<=6000000 by omega);rw [hzs,List.length_append,List.length_append];omega
   have hzg:k<(bM l i).guards.length->zs.length+(di (bM l i).guards k).length<=50000000:=λh=>by
    have:=vJ (ltb h);have:=fX (di (bM l i).guards k) 6000000 (by omega);omega
   have hbl:(df (bM l i).body).length<=6000000:=fX _ _ (by have:=gA (bM l i).body;omega)
   repeat' (first
    |(refine WLg.mk ?_;first
    |refine aa rfl rfl rfl rfl ?_|refine aa rfl rfl (bN Hy) rfl ?_|refine ab rfl rfl (et hb rfl) rfl ?_|refine ab rfl rfl (dO (j:=0) (oY Hy) rfl _) rfl ?_|refine aq rfl rfl rfl (f42 (bM l i).body (by omega)) rfl ?_|refine aO (ys:=(di (bM l i).guards k)) rfl rfl (hzg (bL Hy)) KP KP rfl ?_|refine aO (ys:=(df (bM l i).body)) rfl rfl (by omega) KP KP rfl ?_)|apply ac|refine ae rfl ?_|apply ai|apply ah|apply aj|apply al|refine ak rfl (λht=>?_) (λht=>?_)|apply av|apply bG.norm|apply bG.exit|apply OnC.exit|fail)
   ·have hklt:=bL (by assumption:ltI (Int.ofNat k) (Int.ofNat (bM l i).guards.length)=true)
    exact .norm ⟨_,_,bU KH,hklt,_,by rw [Ch hklt,hzs,List.append_assoc],rfl,rfl⟩
   ·have hke:k=(bM l i).guards.length:=by have:=ce (by assumption:ltI (Int.ofNat k) (Int.ofNat (bM l i).guards.length)=false);omega
    exact .norm ⟨_,_,bU KH,hlt,_,by rw [CW hlt,hzs,hke,List.take_length,hxs];simp only [List.append_assoc],rfl,rfl⟩
  ·have hie:i=l.length:=by have:=ce ht;omega
   exact⟨.inr rfl,_,by rw [hxs,hie,List.take_length],rfl,rfl,by omega⟩
 exact c
end
end Ev
end Go.Proofs.YtdfphfdnoobikaaGreatDoor
