/-
  The checker:modules.
-/
import Derived.Test.YtdfphfdnoobikaaGreatDoorLtDel
namespace Go.Proofs.YtdfphfdnoobikaaGreatDoor
namespace Ev
noncomputable section
def kF(f:Fu):Ky:=(f.name,f.arity)
def p0:Pl:=⟨eB,0,0⟩
def dfM(m:Md):Df:=λn a=>decide (0<nH (m.funcs.map kF) (n,a))
def gG(m:Md)(i:Nat):Bool:=decide (0<nH ((m.funcs.take i).map kF) (kF (cI m.funcs i)))
def sW(m:Md):List Fl:=bZ (λi fl=>fnF (dfM m) (cI m.funcs i) (gG m i) fl) (lT (dfM m) p0 m.exports []) m.funcs.length
def kQ(m:Md):List Fl:=if okM m then sW m else []
def dfC(cn:Cn):Df:=λn a=>!eqI (dq cn (n,a)) 0
def fr12a(m:Md)(i:Nat):AL:=[(1,.eptr (mdO m) 0),(3,.ptr 2 0),(17,.lst m.funcs.length 3 (fuL m.funcs)),(18,.int .i64 (Int.ofNat m.funcs.length)),(19,.int .i64 (Int.ofNat i))]
def fr12b(m:Md)(km i:Nat):AL:=[(3,.ptr 2 0),(6,.map km),(43,.lst m.funcs.length 3 (fuL m.funcs)),(44,.int .i64 (Int.ofNat m.funcs.length)),(45,.int .i64 (Int.ofNat i))]
def c5:List V:=[.str 0 0,.int .i64 0,.int .i64 0,.map 1,.nils]
def hC:H:=⟨(H0.t.put 1 (some (.map [] true))).put 2 (some (.cells 5 (cq c5 0 .e) none false)),Nat.succ 2⟩
end
theorem CI(cn:Cn):Gy (dfC cn) (cnE cn):=λh id o b n i=>⟨dq cn (n,i),kx b (n,i),by rw [dfC,Bool.not_not]⟩
theorem Gj{cn:Cn}{m:Md}(c:Cnt cn (m.funcs.map kF)):dfC cn=dfM m:=by
 funext n a
 rw [dfC,dfM,c,eC]
 by_cases q:0<nH (m.funcs.map kF) (n,a)
 ·rw [decide_eq_true q,decide_eq_false (λe=>by
   have e:(nH (m.funcs.map kF) (n,a):Int)=0:=e;omega)]
  rfl
 ·rw [decide_eq_false q,decide_eq_true (show Int.ofNat (nH (m.funcs.map kF) (n,a))=0 by rw [Nat.eq_zero_of_not_pos q];rfl)]
  rfl
theorem CS.redef{D D':Df}{p:Pl}{fl:List Fl}{h h':H}(c:CS D p fl h){de:List (V×V)}{o:Bool}(b:h'.blk 1=some (.map de o))(d:Gy D' de)(hn:h'.next=h.next)(e:∀j,j≠1->h'.blk j=h.blk j):CS D' p fl h':=by
 obtain⟨de0,o0,e1,dd⟩:=c.b1;obtain⟨tr,v,e2,t0,t1,t2,t3,t4,gl⟩:=c.b2;refine⟨by rw [e 0 (by decide)];exact c.b0,⟨de,o,b,d⟩,⟨tr,v,by rw [e 2 (by decide)];exact e2,t0,t1,t2,t3,t4,gl.mono (Nat.le_of_eq hn.symm) λb n q lt=>e b λq2=>?_⟩,by rw [hn];exact c.ln,by rw [hn];exact c.le⟩;subst q2;subst q;cases gl with
 |full hb=>rw [e1]at hb;cases hb
theorem zV{m:Md}(h:okM m=true):∀i,i<m.funcs.length->okF (cI m.funcs i)=true:=λi hi=>by
 cases q:okF (cI m.funcs i)with
 |true=>rfl
 |false=>rw [tE hi q]at h;cases h
theorem FO{f:Fu}(h:okF f=true):f.arity=Int.ofNat (mZ f.clauses).pats.length:=by
 unfold okF at h;simp only [Bool.and_eq_true]at h;have:=h.2.2.1;rw [eC]at this;exact of_decide_eq_true this
theorem Cc(l:List Cl):(mZ l).pats.length<=bH (clL l):=by
 cases l with
 |nil=>exact Nat.zero_le _
 |cons c l=>
  have h1:=mD (show 0<(c ::l).length by simp);have h2:=kB (c ::l) (0+1);have h3:=fJ (bM (c ::l) 0);have h4:=dy (bM (c ::l) 0).pats;show(bM (c ::l) 0).pats.length<=_;omega
theorem CM:CS (dfC []) p0 [] hC:=⟨rfl,⟨_,true,rfl,CI []⟩,⟨_,.nils,rfl,rfl,rfl,rfl,rfl,rfl,.none0⟩,Nat.zero_le _,by decide⟩
set_option maxHeartbeats 3200000 in
theorem f12c{m:Md}(hm:bH (mdO m)<=6000000):CP 12 [.agg (mdO m)] (.lst (kQ m).length 6 (flL (kQ m)))/\(kQ m).length<=135000000:=by
 have hsz:=oV m;have hn1:=nk m.funcs;have hn2:=te m.exports;have px:=gS m;obtain⟨r,c29,e29⟩:=f29 m hm;obtain⟨n,cs,⟨rfl,hlen⟩,q2,q3⟩:∃n cs,(cs=flL (kQ m)/\(kQ m).length<=135000000)/\cs.length=n*6/\CP 12 [.agg (mdO m)] (.lst n 6 cs):=by
  refine zf (t:=2) (Q:=λcs=>cs=flL (kQ m)/\(kQ m).length<=135000000) Tryz.func12 (by decide) cf12_ok rfl (bO (.agg px) px0) rfl rfl ?_
  repeat' (first
   |(refine WLg.mk ?_;first
   |refine aa rfl rfl rfl rfl ?_|refine ab rfl rfl rfl rfl ?_|refine aA rfl rfl rfl rfl px rfl ?_|refine aF (t:=H0.t) (k:=1) (vs:=[]) (b:= .map [] true) (mk:=λi=>.map i) rfl rfl rfl rfl rfl ?_|refine aF (t:=H0.t.put 1 (some (.map [] true))) (k:=2) (vs:=[.agg c5]) (b:= .cells 5 (cq c5 0 .e) none false) (mk:=λi=>.ptr i 0) rfl rfl rfl rfl rfl ?_|refine aq rfl rfl rfl (c29) rfl ?_)|apply ac|refine ae rfl ?_|apply ai|apply ah|apply aj|apply al|refine ak rfl (λht=>?_) (λht=>?_)|apply ap|apply bG.norm|apply bG.ret|fail)
  ·have:okM m=false:=by rw [<-e29];simpa using(by assumption:(!eqI r 0)=true)
   exact⟨.inr rfl,.nils,[],rfl,rfl,.none0,(λc hc=>by cases hc),by rw [kQ,this];rfl,by rw [kQ,this];exact Nat.zero_le _⟩
  have hok:okM m=true:=by rw [<-e29];simpa using(by assumption:(!eqI r 0)=false)
  have hofs:=zV hok;refine aw (bU (l:=fr12a m 0) KH) ?_
  change WC _ _ _ _ _ _ _ hC _
  refine ax m.funcs.length (λi f h1=>f=fr12a m i/\∃cn,CS (dfC cn) p0 [] h1/\h1.blk 1=some (.map (cnE cn) true)/\Cnt cn ((m.funcs.take i).map kF)/\h1.next=3) ?_ (i:=0) (Nat.zero_le _) ⟨rfl,[],CM,rfl,Cnt.nil,rfl⟩;rintro i _ ha hi ⟨rfl,cn,csa,ba,ct,nx⟩;have hi2:i<9223372036854775807:=by omega
  cases q:ltI (Int.ofNat i) (Int.ofNat m.funcs.length)with
  |true=>
   have hlt:=bL q;have pp:=oB (cI m.funcs i);have lk:=kx ba (kF (cI m.funcs i));obtain⟨tr,v,f2,t0,t1,t2,t3,t4,gl⟩:=csa.b2;have l3:ROp.run (.load false 1) [.ptr 2 3] ha=some (.map 1):=dw f2 t3 (by decide);obtain⟨h2,h3,v0,j,e1,e2,e3,b3,o3,n3⟩:=uh ba (by unfold bR;omega) (kF (cI m.funcs i)) (cT .i64 (Int.add (dq cn (kF (cI m.funcs i))) (Int.ofNat 1)));have cs3:=csa.redef b3 (CI _) n3 o3;have ct2:Cnt (jz cn (kF (cI m.funcs i)) (cT .i64 (Int.add (dq cn (kF (cI m.funcs i))) (Int.ofNat 1)))) ((m.funcs.take (i+1)).map kF):=by
    rw [jl hlt,List.map_append];exact ct.snoc (by rw [List.length_map,List.length_take];omega) _
   repeat' (first
    |(refine WLg.mk ?_;first
    |refine aa rfl rfl rfl rfl ?_|refine aa rfl rfl (bN Hy) rfl ?_|refine ab rfl rfl (hO Hy) rfl ?_|refine aC rfl rfl (cW (by omega)) rfl rfl rfl rfl rfl rfl rfl rfl pp rfl rfl ?_)|apply ac|refine ae rfl ?_|apply ai|apply ah|apply aj|apply al|refine ak rfl (λht=>?_) (λht=>Nx (by with_reducible assumption) ht)|apply bG.norm|fail)
   refine bh ?_
   repeat' (show WY _ _ _ _ _ _ _ _;first
    |refine bn (by repeat' (first|exact bF.nil|refine bF.first (l3) ?_|refine bF.snd (l3) ?_|refine bF.first (lk) ?_|refine bF.snd (lk) ?_|refine bF.first (e2) ?_|refine bF.snd (e2) ?_|refine bF.two (l3) (lk) ?_|refine bF.two (l3) (e2) ?_|refine bF.two (lk) (l3) ?_|refine bF.two (lk) (e2) ?_|refine bF.two (e2) (l3) ?_|refine bF.two (e2) (lk) ?_|refine bF.any (λh=>rfl) ?_|refine bF.first rfl ?_)) ?_|refine aZ rfl rfl rfl rfl ?_|refine aM rfl rfl (l3) rfl ?_|refine aM rfl rfl (lk) rfl ?_|refine aM rfl rfl rfl rfl ?_|refine aS rfl rfl (e1) rfl ?_|refine aS rfl rfl (e3) rfl ?_|fail)
   repeat' (first
    |(refine WLg.mk ?_;first
    |refine aa rfl rfl rfl rfl ?_)|apply ac|refine ae rfl ?_|apply ah|apply bG.norm|fail)
   exact .norm ⟨_,_,bU KH,hlt,rfl,_,cs3,b3,ct2,by omega⟩
  |false=>
   have hie:i=m.funcs.length:=by have:=ce q;omega
   subst hie;rw [List.take_length]at ct;rw [Gj ct]at csa;obtain⟨hb,c30,gb⟩:=f30 csa m.exports (by omega) (by omega);have nb:=gb.nx;obtain⟨csm,som,kmm⟩:=gb.cs.newmap (by omega) [] true List.nodup_nil;have b0:(⟨hb.t.put hb.next (some (.map (scE []) true)),Nat.succ hb.next⟩:H).blk hb.next=some (.map (cnE []) true):=by rw [fy (by unfold bR;omega),if_pos rfl];rfl
   have gbl:=gb.km.le
   repeat' (first
    |(refine WLg.mk ?_;first
    |refine aa rfl rfl rfl rfl ?_|refine ab rfl rfl rfl rfl ?_|refine aF (t:=hb.t) (k:=hb.next) rfl rfl rfl (cW (by omega)) rfl ?_|refine au rfl rfl rfl (c30) (λ_ _ q=>q) .none rfl ?_)|apply ac|refine ae rfl ?_|apply ai|apply ah|apply aj|refine ak rfl (λht=>Nx ht (by with_reducible assumption)) (λht=>?_)|apply av|apply bG.norm|apply bG.exit|apply OnC.exit|fail)
   refine aw (bU (l:=fr12b m hb.next 0) KH) ?_;refine ax m.funcs.length (λi f h1=>f=fr12b m hb.next i/\(∃p,CS (dfM m) p (bZ (λi fl=>fnF (dfM m) (cI m.funcs i) (gG m i) fl) (lT (dfM m) p0 m.exports []) i) h1)/\(∃cn,h1.blk hb.next=some (.map (cnE cn) true)/\Cnt cn ((m.funcs.take i).map kF))/\hb.next<h1.next/\h1.next<=hb.next+1+40*bH (fuL (m.funcs.take i))) ?_ (i:=0) (Nat.zero_le _) ⟨rfl,⟨_,csm⟩,⟨[],b0,Cnt.nil⟩,Nat.lt_succ_self _,Nat.le_add_right _ _⟩;have lbn:2<hb.next:=by omega
   have ubn:hb.next<=4+4*m.exports.length:=by omega
   clear csm som kmm b0 gb c30 csa ba ct nx hi hi2 q nb gbl;rintro i _ ha hi ⟨rfl,⟨p,csa⟩,⟨cn,ba,ct⟩,lta,nxa⟩;have hi2:i<9223372036854775807:=by omega
   have hle:=qX m.funcs i;cases q:ltI (Int.ofNat i) (Int.ofNat m.funcs.length)with
   |false=>
    have hie:i=m.funcs.length:=by have:=ce q;omega
    obtain⟨tr,v,f2,t0,t1,t2,t3,t4,gl⟩:=csa.b2;have l4:ROp.run (.load false 1) [.ptr 2 4] ha=some v:=dw f2 t4 (by decide)
    repeat' (first
     |(refine WLg.mk ?_;first
     |refine aa rfl rfl rfl rfl ?_|refine ab rfl rfl (l4) rfl ?_)|apply ac|refine ae rfl ?_|apply ai|apply ah|refine ak rfl (λht=>Nx ht (by with_reducible assumption)) (λht=>?_)|apply av|apply ap|apply bG.norm|apply bG.exit|apply OnC.exit|fail)
    subst hie;have hln:2*(sW m).length<=ha.next:=csa.ln
    exact⟨.inr rfl,v,_,rfl,csa.b0,gl,nt _,by rw [kQ,hok];rfl,by rw [kQ,hok];show(sW m).length<=_;omega⟩
   |true=>
    have hlt:=bL q;have hpre:=Co hlt;have hle2:=qX m.funcs (i+1);have pp:=oB (cI m.funcs i);have pk:∀c,c∈[sV (cI m.funcs i).name,V.int .i64 (cI m.funcs i).arity]->bP c:=bO (.flat rfl) (bO (.flat rfl) px0);have har:=FO (hofs i hlt);have hhl:=Cc (cI m.funcs i).clauses;have hfs:=j7 (cI m.funcs i);have lk:=kx ba (kF (cI m.funcs i));have ag:ltI 0 (dq cn (kF (cI m.funcs i)))=gG m i:=by rw [ct,vo];rfl
    obtain⟨hu,c31,gu⟩:=f31 csa har (by omega) (by omega) (gG m i) (by omega);obtain⟨p',csu⟩:=gu.cs;have nu:=gu.nx;have gul:=gu.km.le;have bu:=gu.km.mp hb.next _ _ lta (by omega) ba
    have lku:=kx bu (kF (cI m.funcs i));obtain⟨h2,h3,v0,j,e1,e2,e3,b3,o3,n3⟩:=uh bu (by unfold bR;omega) (kF (cI m.funcs i)) (cT .i64 (Int.add (dq cn (kF (cI m.funcs i))) (Int.ofNat 1)));obtain⟨cs3,km3⟩:=csu.beside bu lbn n3 o3;have ct2:Cnt (jz cn (kF (cI m.funcs i)) (cT .i64 (Int.add (dq cn (kF (cI m.funcs i))) (Int.ofNat 1)))) ((m.funcs.take (i+1)).map kF):=by
     rw [jl hlt,List.map_append];exact ct.snoc (by rw [List.length_map,List.length_take];omega) _
    rw [<-ag]at c31
    repeat' (first
     |(refine WLg.mk ?_;first
     |refine aa rfl rfl rfl rfl ?_|refine aa rfl rfl (bN Hy) rfl ?_|refine ab rfl rfl (hO Hy) rfl ?_|refine ab rfl rfl rfl rfl ?_|refine aC rfl rfl (cW (by omega)) rfl rfl rfl rfl rfl rfl rfl rfl pp rfl rfl ?_|refine aC rfl rfl (cW (by omega)) rfl rfl rfl rfl rfl rfl rfl rfl pk rfl rfl ?_)|apply ac|refine ae rfl ?_|apply ai|apply ah|apply aj|apply al|refine ak rfl (λht=>?_) (λht=>Nx (by with_reducible assumption) ht)|apply bG.norm|fail)
    refine aK ?_
    repeat' (first
     |(show WX _ _ _ _ _ _ _ _ _ _;first
     |refine aI rfl rfl rfl rfl ?_|refine aG rfl rfl (lk) rfl ?_|refine aG rfl rfl rfl rfl ?_|refine aR rfl rfl rfl (c31) .none rfl ?_|refine aJ (by repeat' (first|exact bF.nil|refine bF.any (λh=>rfl) ?_|refine bF.first rfl ?_|refine bF.first (lk) ?_|refine bF.snd (lk) ?_|refine bF.any (λh=>lk) ?_|refine bF.each (.cons rfl .nil) ?_|refine bF.each (.cons rfl (.cons rfl .nil)) ?_|refine bF.each (.cons rfl (.cons rfl (.cons rfl .nil))) ?_)) ?_)|apply bG.norm|fail)
    refine bh ?_
    repeat' (show WY _ _ _ _ _ _ _ _;first
     |refine bn (by repeat' (first|exact bF.nil|refine bF.first (lku) ?_|refine bF.snd (lku) ?_|refine bF.first (e2) ?_|refine bF.snd (e2) ?_|refine bF.two (lku) (e2) ?_|refine bF.two (e2) (lku) ?_|refine bF.any (λh=>rfl) ?_|refine bF.first rfl ?_)) ?_|refine aZ rfl rfl rfl rfl ?_|refine aM rfl rfl (lku) rfl ?_|refine aM rfl rfl rfl rfl ?_|refine aS rfl rfl (e1) rfl ?_|refine aS rfl rfl (e3) rfl ?_|fail)
    repeat' (first
     |(refine WLg.mk ?_;first
     |refine aa rfl rfl rfl rfl ?_)|apply ac|refine ae rfl ?_|apply ah|apply bG.norm|fail)
    refine .norm ⟨_,_,bU KH,hlt,rfl,⟨p',?_⟩,⟨_,b3,ct2⟩,by omega,by omega⟩;show CS (dfM m) p' (fnF (dfM m) (cI m.funcs i) (gG m i) (bZ (λi fl=>fnF (dfM m) (cI m.funcs i) (gG m i) fl) (lT (dfM m) p0 m.exports []) i)) h3;exact cs3
 rw [jn]at q2;refine⟨?_,hlen⟩;rw [show(kQ m).length=n by omega];exact q3
theorem f12{m:Md}(hm:bH (mdO m)<=6000000):CP 12 [.agg (mdO m)] (.lst (kQ m).length 6 (flL (kQ m))):=(f12c hm).1
end Ev
end Go.Proofs.YtdfphfdnoobikaaGreatDoor
