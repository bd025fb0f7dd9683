/-
  Memory with one block besides the pinned one;names of variables,texts.
-/
import Derived.Test.YtdfphfdnoobikaaGreatDoorLtStr
namespace Go.Proofs.YtdfphfdnoobikaaGreatDoor
namespace Ev
section
noncomputable section
def lpB(cs:List V):List (Option Blk):=[some (.ro 256 d3),some (.cells (cD cs) (cM cs 0 .e) none false)]
def HB(cs:List V):H:=⟨trO (lpB cs) 0 .e,2⟩
def KB:Nat->Prop:=λid=>id<2
end
theorem qU{K:Nat->Prop}(x:∀id,K id->id=0\/id=1){f:F}{h:H}{l:AL}{cs:List V}{tr:Tr V}{ch:Bool}(k:kX f.loc l)(r:h.blk 0=some (.ro 256 d3))(hs:h.blk 1=some (.cells (cD cs) tr none ch))(y:Nat.ble (cD cs) bZ=true)(hc:∀j v,cs[j]? =some v->tr.get j=some v)(g:∀c,c∈cs->bY c):fy TP K f h ⟨l,[]⟩ (HB cs):=by
 have w:2<=bZ:=by unfold bZ;omega
 have s:cs.length<=bZ:=by rw [<-@cq noE];exact Nat.le_of_ble_eq_true y
 have u:∀i,cY (lpB cs) i->i=0\/i=1:=λi ⟨b,e⟩=>by
  cases i with
  |zero=>exact .inl rfl
  |succ i=>cases i with
   |zero=>exact .inr rfl
   |succ i=>cases e
 have a:∀i j d,cY (lpB cs) i->¬Up h i j d:=λi j d hi=>by
  rcases u i hi with rfl|rfl
  ·exact d9 r
  ·intro q
   cases q with
   |one e' k'=>rw [hs]at e';cases e';cases k'
   |step e' k' _=>rw [hs]at e';cases e';cases k'
 have V:Vw TP h (lpB cs) (λi=>i) (λ_=>none):=by
  refine⟨w,λi o e=>?_,λi j _ _ e=>e,λi j d hi _=>a i j d hi,(λk cs e=>by cases e),(λk cs i e=>by cases e),λq n=>⟨rfl,?_⟩⟩
  ·rcases u i ⟨_,e⟩with rfl|rfl
   ·obtain rfl:Blk.ro 256 d3=o:=by cases e;rfl
    exact⟨_,r,.ro λj v e=>.flat (eX fD (by rw [ig];unfold bZ;omega) e)⟩
   ·obtain rfl:Blk.cells (cD cs) (cM cs 0 .e) none false=o:=by cases e;rfl
    refine⟨_,hs,.cells λj v t e=>?_⟩;rw [@cq noE]at t;rw [@dz noE cs 0 .e j (by omega),if_pos (by omega),Nat.sub_zero]at e;exact⟨v,hc j v e,.pure (g v (List.mem_of_getElem? e))⟩
  ·have e:=l8.all q n
   have m:q.1=0:=by rw [jv]at n;rw [List.mem_singleton.1 n]
   rw [m]at e ⊢;exact e
 exact V.view (λid h=>by rcases x id h with rfl|rfl<;>exact⟨⟨_,rfl⟩,rfl⟩) (.inl λ_=>rfl) ⟨λp g=>k.mem ⟨_,rfl⟩ p g,λp g=>by cases g⟩
theorem ik{tr:Tr V}{a b c:V}(h0:tr.get 0=some a)(h1:tr.get 1=some b)(h2:tr.get 2=some c):∀j v,[a,b,c][j]? =some v->tr.get j=some v
 |0,_,e=>h0.trans e
 |1,_,e=>h1.trans e
 |2,_,e=>h2.trans e
 |j+3,_,e=>by simp at e
theorem y5:∀id,KB id->id=0\/id=1:=λid h=>by
 have h:id<2:=h;omega
theorem rD.con0{f:FuncId}{h h':H}{vs:List V}{v:V}{K M:Nat->Prop}(c:rD Tryz.prog TP K f h vs h' v)(q:∀id,id<h.next->¬M id->K id)(np:∃id,K id/\id≠0)(o:h.next<=h'.next):Con Tryz.prog TP M f vs h v h':=by
 refine⟨λE g w us s n=>?_⟩;obtain⟨fn,y,m,r,j⟩:=c E g w us s n;refine⟨fn,y,m,r,j.mono ?_⟩;rintro e w' ⟨E',g',u,rfl,t,a⟩;refine⟨E',g',u,rfl,t,a.envl,λb c e=>?_,λid x z e=>a.fix id x (q id (@WR.dom E _ _ _ _ s.wr _ _ e) z) e,o,a.sit,a.size,a.keep,a.inv,a.pin,a.os,a.tape,a.output⟩;rcases a.envn b c e with k|k | ⟨k,_⟩
 ·exact .inl k
 ·exact .inr k
 ·obtain⟨id,A,l⟩:=np
  obtain⟨p,i,d⟩:=k id A;rw [jv]at i;rw [List.mem_singleton.1 i]at d;exact absurd d.symm l
theorem qh{K:Nat->Prop}{a:CF}{vs:List V}{loc:AL}{h:H}(b:mY vs 0=some loc){Q:X->AL->H->Prop}(k:WC Tryz.prog TP K ft 1 a.code loc h Q){Q':X->F->H->Prop}(c:∀x l h,Q x l h->Q' x ⟨l,[]⟩ h):W Tryz.prog TP K ft 1 a.code ⟨d8 vs 0,[]⟩ h Q':=by
 rw [pD b];refine W.mono k.out λx f h q=>?_;have:=c x f.loc h q.2;rw [<-F.loc_eq q.1]at this;exact this
def qf(cf:CF)(R:V->H->Prop)(x:X)(loc:AL)(h:H):Prop:=(x= .norm\/x= .ret)/\∃l,ip ⟨loc,[]⟩ h cf.results=some l/\R (dq l) h
theorem wD{M:Nat->Prop} {f:FuncId} {fn:Func} {cf:CF} {h:H} (hfn:Tryz.prog.funcs[f]? =some fn) (hnm:fn.name≠ "runtime.NumGoroutine") (hcf:ci TP fn=some cf) {vs:List V} (hlen:vs.length=cf.params) {R:V->H->Prop} {loc:AL} (hn:mY vs 0=some loc) (np:∃id,id < h.next/\¬M id/\id≠0)
  (k:WC Tryz.prog TP (λid=>id<h.next/\¬M id) ft 1 cf.code loc h (qf cf λv h'=>h.next<=h'.next/\R v h')):∃v h',Con Tryz.prog TP M f vs h v h'/\R v h':=by
 obtain⟨x,f1,h1,k1,k2,l,k3,k4,k5⟩:=qh (Q':=λx f1 h1=>(x= .norm\/x= .ret)/\∃l,ip f1 h1 cf.results=some l/\h.next<=h1.next/\R (dq l) h1) hn k λx l h q=>q;obtain⟨id,p1,p2,p3⟩:=np;exact⟨_,_,(ii rF jO mixed hfn hnm hcf hlen k1 k2 k3).con0 (λid h1 h2=>⟨h1,h2⟩) ⟨id,⟨p1,p2⟩,p3⟩ k4,k5⟩
theorem pQ{f:FuncId} {fn:Func} {cf:CF} {cs:List V} (hfn:Tryz.prog.funcs[f]? =some fn) (hnm:fn.name≠ "runtime.NumGoroutine") (hcf:ci TP fn=some cf) {vs:List V} (hlen:vs.length=cf.params) {R:V->H->Prop} {loc:AL} (hn:mY vs 0=some loc)
  (k:WC Tryz.prog TP KB ft 1 cf.code loc (HB cs) (qf cf λv h'=>2<=h'.next/\R v h')):∃v h',CN f vs (HB cs) v h'/\R v h':=by
 obtain⟨x,f1,h1,k1,k2,l,k3,k4,k5⟩:=qh (Q':=λx f1 h1=>(x= .norm\/x= .ret)/\∃l,ip f1 h1 cf.results=some l/\2<=h1.next/\R (dq l) h1) hn k λx l h q=>q;exact⟨_,_,(ii rF jO mixed hfn hnm hcf hlen k1 k2 k3).con0 (λid h1 _=>h1) ⟨1,Nat.lt_succ_self 1,by decide⟩ k4,k5⟩
theorem f153(x:Int):jj 153 [.int .u8 x]:=by
 refine eS Tryz.func153 (by decide) JU.2 rfl (cg (.flat rfl) px0) rfl ?_
 repeat' (first
  |(refine WLg.mk ?_;first
  |refine ac ?_)|apply ab|refine aj rfl ?_|refine aB rfl rfl ?_|refine aC rfl (λa=>?_) (λa=>?_)|apply ae|apply aa|apply am|apply thN|exact⟨.inr rfl,_,rfl,.flat rfl,_,rfl⟩|fail)
theorem f154(x:Int):jj 154 [.int .u8 x]:=by
 refine eS Tryz.func154 (by decide) JT.2 rfl (cg (.flat rfl) px0) rfl ?_
 repeat' (first
  |(refine WLg.mk ?_;first
  |refine ac ?_)|apply ab|refine aj rfl ?_|refine aB rfl rfl ?_|refine aC rfl (λa=>?_) (λa=>?_)|apply ae|apply aa|apply am|apply thN|exact⟨.inr rfl,_,rfl,.flat rfl,_,rfl⟩|fail)
theorem f133(x:Int):jj 133 [.int .u8 x]:=by
 refine eS Tryz.func133 (by decide) JW.2 rfl (cg (.flat rfl) px0) rfl ?_
 repeat' (first
  |(refine WLg.mk ?_;first
  |refine ac ?_|refine ay (f153 _) ?_|refine ay (f154 _) ?_)|apply ab|refine aj rfl ?_|refine aB rfl rfl ?_|refine aC rfl (λa=>?_) (λa=>?_)|apply ae|apply aa|apply am|apply thN|exact⟨.inr rfl,_,rfl,.flat rfl,_,rfl⟩|fail)
noncomputable section
def scC(n c pos:Nat):List V:=[.str n c,.int .i64 (Int.ofNat pos),.nilm]
def fr132:AL:=[(0,.ptr 1 0),(1,.func (.func 133) [] []),(5,.int .i64 0)]
end
theorem Bc(n c pos:Nat):∀v,v∈scC n c pos->bY v:=cg (.flat rfl) (cg (.flat rfl) (cg (.flat rfl) px0))
theorem HO:bY (.func (.func 133) [] []):= .func px0 px0
theorem xA{n c a:Nat}(h:a<=n):POp.run (.slc .str true true false) [.str n c,.int .i64 0,.int .i64 (Int.ofNat a)]=some (.str (Nat.sub a 0) (Nat.mod (Nat.shiftRight c (Nat.mul 8 0)) (Nat.shiftLeft 1 (Nat.mul 8 (Nat.sub a 0))))):=by
 have h1:Nat.ble a n=true:=by simp [Nat.ble_eq];exact h
 have h0:Nat.ble 0 a=true:=by cases a<;>rfl
 show ob (oif (Nat.ble a n) (some a)) (λh=>ob (oif (Nat.ble 0 h) (some 0)) λl=>some (V.str (Nat.sub h l) (Nat.mod (Nat.shiftRight c (Nat.mul 8 l)) (Nat.shiftLeft 1 (Nat.mul 8 (Nat.sub h l))))))=_;rw [h1];show ob (oif (Nat.ble 0 a) (some 0)) (λl=>some (V.str (Nat.sub a l) (Nat.mod (Nat.shiftRight c (Nat.mul 8 l)) (Nat.shiftLeft 1 (Nat.mul 8 (Nat.sub a l))))))=_;rw [h0];rfl
set_option maxHeartbeats 2000000 in
theorem f132(n c:Nat)(d:n<9223372036854775808):∃n' c' pos,CN 132 [.ptr 1 0,.func (.func 133) [] []] (HB (scC n c 0)) (.str n' c') (HB (scC n c pos)):=by
 have px:=HO;obtain⟨v,h',k,n',c',pos,rfl,rfl⟩:∃v h',CN 132 [.ptr 1 0,.func (.func 133) [] []] (HB (scC n c 0)) v h'/\∃n' c' pos,v= .str n' c'/\h'=HB (scC n c pos):=by
  refine pQ Tryz.func132 (by decide) JX.2 rfl rfl ?_
  repeat' (first
   |apply ab|apply ae|apply aa|apply ai|refine ac ?_|refine au ?_|apply thN)
  refine az (qU y5 (l:=fr132) (cs:=scC n c 0) KS rfl rfl rfl (ik rfl rfl rfl) (Bc n c 0)) ?_;refine aA n (λi x h=>x=fr132/\h=HB (scC n c i)) ?_ (i:=0) (Nat.zero_le _) ⟨rfl,rfl⟩;rintro i _ _ hi ⟨rfl,rfl⟩
  repeat' (first
   |apply ab|apply ae|apply aa|apply ai|apply ak|refine aD rfl ?_|refine ah rfl (λa=>?_) (λa=>?_)|apply ax|apply am|refine aP ?_|apply thN|apply thE|apply onE|refine ac ?_|refine au ?_|refine aT rfl rfl rfl rfl rfl rfl rfl rfl rfl ?_|(show WX _ _ _ _ _ _ _ _ _ _;first|refine bn rfl rfl rfl ?_|refine bt rfl rfl rfl ?_|refine aU rfl rfl (xA hi) rfl ?_|refine aH ?_|refine aU rfl rfl (jZ Hy) rfl ?_|refine aM ?_|refine aR (f133 _) ?_|(fail_if_success refine WX.gt rfl ?_);refine bp rfl rfl rfl (λa=>?_) (λa=>?_)|refine aO (by repeat' (first|exact bR.nil|refine bR.any (λh=>rfl) ?_|refine bR.first rfl ?_|refine bR.first (dF Hy) ?_|refine bR.snd (dF Hy) ?_|refine bR.any (λh=>dF Hy) ?_|refine bR.first (fq Hy) ?_|refine bR.snd (fq Hy) ?_|refine bR.any (λh=>fq Hy) ?_|refine bR.first (eV Hy) ?_|refine bR.snd (eV Hy) ?_|refine bR.any (λh=>eV Hy) ?_|refine bR.first (fV Hy) ?_|refine bR.snd (fV Hy) ?_|refine bR.any (λh=>fV Hy) ?_|refine bR.first (ld_ex Hy rfl) ?_|refine bR.snd (ld_ex Hy rfl) ?_|refine bR.any (λh=>ld_ex Hy rfl) ?_|refine bR.first (iS Hy rfl) ?_|refine bR.snd (iS Hy rfl) ?_|refine bR.any (λh=>iS Hy rfl) ?_|refine bR.first (dy Hy rfl) ?_|refine bR.snd (dy Hy rfl) ?_|refine bR.any (λh=>dy Hy rfl) ?_|refine bR.first (jG Hy rfl) ?_|refine bR.snd (jG Hy rfl) ?_|refine bR.any (λh=>jG Hy rfl) ?_|refine bR.first (dC Hy rfl) ?_|refine bR.snd (dC Hy rfl) ?_|refine bR.any (λh=>dC Hy rfl) ?_|refine bR.first (dc Hy rfl) ?_|refine bR.snd (dc Hy rfl) ?_|refine bR.any (λh=>dc Hy rfl) ?_|refine bR.first (dw Hy rfl) ?_|refine bR.snd (dw Hy rfl) ?_|refine bR.any (λh=>dw Hy rfl) ?_|refine bR.first (dv Hy rfl) ?_|refine bR.snd (dv Hy rfl) ?_|refine bR.any (λh=>dv Hy rfl) ?_|refine bR.each (.cons rfl .nil) ?_|refine bR.each (.cons rfl (.cons rfl .nil)) ?_|refine bR.each (.cons rfl (.cons rfl (.cons rfl .nil))) ?_)) ?_)|fail)
  ·have b:=bX (by assumption:ltI (Int.ofNat i) (Int.ofNat n)=true)
   exact .norm ⟨_,_,qU y5 (cs:=scC n c (i+1)) KS rfl rfl rfl (ik rfl (mG Hy d) rfl) (Bc n c (i+1)),b,rfl,rfl⟩
  ·exact⟨.inr rfl,_,rfl,Nat.le_refl _,_,_,_,rfl,rfl⟩
  ·exact⟨.inr rfl,_,rfl,Nat.le_refl _,_,_,_,rfl,rfl⟩
 exact⟨_,_,_,k⟩
theorem f135(x:Int):jj 135 [.int .i32 x]:=by
 refine eS Tryz.func135 (by decide) Ls.2 rfl (cg (.flat rfl) px0) rfl ?_
 repeat' (first
  |(refine WLg.mk ?_;first
  |refine ac ?_)|apply ab|refine aj rfl ?_|refine aB rfl rfl ?_|refine aC rfl (λa=>?_) (λa=>?_)|apply ae|apply aa|apply am|apply thN|exact⟨.inr rfl,_,rfl,.flat rfl,_,rfl⟩|fail)
noncomputable section
def fr164(_ _:Nat):AL:=[(1,.func (.func 135) [] []),(2,.bool true),(10,.ptr 1 0)]
end
theorem Ef:bY (.func (.func 135) [] []):= .func px0 px0
set_option maxHeartbeats 2000000 in
theorem f164(n c:Nat):FP 164 [.str n c,.func (.func 135) [] [],.bool true]:=by
 have px:=Ef;refine Fq (eF Tryz.func164 (by decide) Le.2 rfl (cg (.flat rfl) (cg px (cg (.flat rfl) px0))) rfl ?_)
 repeat' (first
  |apply ab|apply ae|apply aa|apply ai|refine ac ?_|refine aI rfl rfl rfl rfl rfl ?_|apply thN)
 refine az (AR (l:=fr164 n c) KS rfl rfl) ?_;refine bO (λk x h=>∃a,k=n-a/\x=fr164 n c/\h=HS n c a) ?_ (k:=n-0) ⟨0,rfl,rfl,rfl⟩;rintro _ _ _ ⟨a,rfl,rfl,rfl⟩;cases b:Nat.blt a n with
 |false=>
  repeat' (first
   |apply ab|apply ae|apply aa|refine aD rfl ?_|apply ax|apply am|apply thN|apply thE|apply onE|refine ac ?_|refine aK rfl rfl (xY b) rfl ?_|exact⟨.inr rfl,_,rfl,.flat rfl,_,rfl⟩|fail)
 |true=>
  repeat' (first
   |apply ab|apply ae|apply aa|apply ai|apply ak|refine aF rfl ?_|refine ah rfl (λd=>?_) (λd=>?_)|apply am|apply thN|apply thR|apply onR|refine ac ?_|refine ay (f135 _) ?_|refine aK rfl rfl (Bu b) rfl ?_|exact⟨.inr rfl,_,rfl,.flat rfl,_,rfl⟩|fail)
  all_goals exact .norm ⟨_,_,AR KS rfl rfl,n-(a+(mh n c a).2),by have:=bX b;have:=BP n c a;omega,a+(mh n c a).2,rfl,rfl,rfl⟩
theorem f155(n c:Nat):FP 155 [.str n c,.func (.func 135) [] []]:=by
 refine Fq (eF Tryz.func155 (by decide) Li.2 rfl (cg (.flat rfl) (cg Ef px0)) rfl ?_)
 repeat' (first
  |apply ab|apply ae|apply aa|apply am|apply thN|refine ac ?_|refine ay (f164 _ _) ?_|exact⟨.inr rfl,_,rfl,.flat rfl,_,rfl⟩|fail)
theorem f134(n c:Nat):jj 134 [.str n c,.func (.func 135) [] []]:=by
 refine eS Tryz.func134 (by decide) Lt.2 rfl (cg (.flat rfl) (cg Ef px0)) rfl ?_
 repeat' (first
  |apply ab|apply ae|apply aa|apply am|apply thN|refine ac ?_|refine ay (f155 _ _) ?_|exact⟨.inr rfl,_,rfl,.flat rfl,_,rfl⟩|fail)
noncomputable section
def tkC(k n c:Nat):List V:=[.int .i64 (Int.ofNat k),.str n c,.int .u64 0,.int .i64 0]
end
theorem uI(k n c:Nat):∀v,v∈tkC k n c->bY v:=cg (.flat rfl) (cg (.flat rfl) (cg (.flat rfl) (cg (.flat rfl) px0)))
set_option maxHeartbeats 2000000 in
theorem f111s(n c:Nat):jj 111 [.agg (tkC 4 n c)]:=by
 refine eS Tryz.func111 (by decide) IH.2 rfl (cg (.agg (uI 4 n c)) px0) rfl ?_;have px:=uI 4 n c
 repeat' (first
  |apply ab|apply ae|apply aa|apply ai|apply ak|refine aF rfl ?_|refine aD rfl ?_|apply am|apply thN|apply thR|refine ac ?_|refine au ?_|refine aV rfl rfl rfl rfl px rfl ?_|refine ay (f134 _ _) ?_|exact⟨.inr rfl,_,rfl,.flat rfl,_,rfl⟩|fail)
end
section
set_option maxHeartbeats 4000000 in
theorem f111v(n c:Nat)(b:n<9223372036854775808)(h0:cJ n c 0 0=false->Nat.blt 0 n=true):jj 111 [.agg (tkC 2 n c)]:=by
 refine eS Tryz.func111 (by decide) IH.2 rfl (cg (.agg (uI 2 n c)) px0) rfl ?_;have px:=uI 2 n c;obtain⟨n',c',e,a⟩:=f132 n c b;have h1:(!cJ n c 0 0)=true->Nat.blt 0 n=true:=λh=>h0 (by cases q:cJ n c 0 0 with|true=>rw [q]at h;cases h|false=>rfl)
 repeat' (first
  |apply ab|apply ae|apply aa|apply ai|apply ak|refine aF rfl ?_|refine aD rfl ?_|apply am|refine aP ?_|apply thN|apply thR|refine ac ?_|refine au ?_|refine aV rfl rfl rfl rfl px rfl ?_|refine aI rfl rfl rfl rfl rfl ?_|refine aS rfl rfl rfl rfl rfl rfl rfl rfl rfl ?_|(show WX _ _ _ _ _ _ _ _ _ _;first|refine bn rfl rfl rfl ?_|refine bt rfl rfl rfl ?_|refine aU rfl rfl (jZ (i:=0) (h1 Hy)) rfl ?_|refine aH ?_|refine aM ?_|refine bh rfl rfl rfl (a) .none rfl ?_|(fail_if_success refine WX.gt rfl ?_);refine bp rfl rfl rfl (λd=>?_) (λd=>?_)|refine aO (by repeat' (first|exact bR.nil|refine bR.any (λh=>rfl) ?_|refine bR.first rfl ?_|refine bR.first (dF Hy) ?_|refine bR.snd (dF Hy) ?_|refine bR.any (λh=>dF Hy) ?_|refine bR.first (fq Hy) ?_|refine bR.snd (fq Hy) ?_|refine bR.any (λh=>fq Hy) ?_|refine bR.first (eV Hy) ?_|refine bR.snd (eV Hy) ?_|refine bR.any (λh=>eV Hy) ?_|refine bR.first (fV Hy) ?_|refine bR.snd (fV Hy) ?_|refine bR.any (λh=>fV Hy) ?_|refine bR.first (ld_ex Hy rfl) ?_|refine bR.snd (ld_ex Hy rfl) ?_|refine bR.any (λh=>ld_ex Hy rfl) ?_|refine bR.first (iS Hy rfl) ?_|refine bR.snd (iS Hy rfl) ?_|refine bR.any (λh=>iS Hy rfl) ?_|refine bR.first (dy Hy rfl) ?_|refine bR.snd (dy Hy rfl) ?_|refine bR.any (λh=>dy Hy rfl) ?_|refine bR.first (jG Hy rfl) ?_|refine bR.snd (jG Hy rfl) ?_|refine bR.any (λh=>jG Hy rfl) ?_|refine bR.first (dC Hy rfl) ?_|refine bR.snd (dC Hy rfl) ?_|refine bR.any (λh=>dC Hy rfl) ?_|refine bR.first (dc Hy rfl) ?_|refine bR.snd (dc Hy rfl) ?_|refine bR.any (λh=>dc Hy rfl) ?_|refine bR.first (dw Hy rfl) ?_|refine bR.snd (dw Hy rfl) ?_|refine bR.any (λh=>dw Hy rfl) ?_|refine bR.first (dv Hy rfl) ?_|refine bR.snd (dv Hy rfl) ?_|refine bR.any (λh=>dv Hy rfl) ?_|refine bR.each (.cons rfl .nil) ?_|refine bR.each (.cons rfl (.cons rfl .nil)) ?_|refine bR.each (.cons rfl (.cons rfl (.cons rfl .nil))) ?_)) ?_)|exact⟨.inr rfl,_,rfl,.flat rfl,_,rfl⟩|fail)
theorem f79(n c:Nat)(a:n<9223372036854775808)(h0:cJ n c 0 0=false->Nat.blt 0 n=true):jj 79 [.str n c]:=by
 refine eS Tryz.func79 (by decide) q79.2 rfl (cg (.flat rfl) px0) rfl ?_
 repeat' (first
  |(refine WLg.mk ?_;first
  |refine ac ?_|refine ay (f111v n c a h0) ?_)|apply ab|refine aj rfl ?_|refine aB rfl rfl ?_|refine aC rfl (λb=>?_) (λb=>?_)|apply ae|apply aa|apply am|apply thN|exact⟨.inr rfl,_,rfl,.flat rfl,_,rfl⟩|fail)
theorem KJ(s:ByteArray):cJ s.size (ck s.data.toList) 0 0=false->Nat.blt 0 s.size=true:=by
 intro h;refine ltb ?_;rcases Nat.eq_zero_or_pos s.size with q|q
 ·have a:s.data.toList=[]:=by
   have:s.data.toList.length=0:=by rw [Array.length_toList];exact q
   exact List.length_eq_zero_iff.1 this
  rw [a,q]at h;cases h
 ·exact q
theorem f79s(s:ByteArray)(hn:s.size<9223372036854775808):jj 79 [sV s]:=f79 _ _ hn (KJ s)
end
section
theorem Jm{c:Nat}{i:Nat}(h0:0<i):∀{k},oP c k=true->i<k->chB (byN c i)=true:=by
 intro k h q;cases e:chB (byN c i)with
 |true=>rfl
 |false=>rw [AD h0 e q]at h;cases h
theorem CC{n c:Nat}(h:nmC n c=true):ltI (Int.ofNat n) 1=false/\ltI 32 (Int.ofNat n)=false/\loB (byN c 0)=true/\oP c n=true:=by
 unfold nmC at h;simp only [Bool.and_eq_true,Bool.not_eq_true']at h;exact⟨h.1,h.2.1,h.2.2.1,h.2.2.2⟩
noncomputable section
end
end
section
noncomputable section
def upB(x:Nat):Bool:=eqI (Int.ofNat x) 95||(!ltI (Int.ofNat x) 65 && !ltI 90 (Int.ofNat x))
def vnC(n c:Nat):Bool:= !ltI (Int.ofNat n) 1&&(!ltI 32 (Int.ofNat n)&&(!cJ n c 1 95&&(upB (byN c 0)&&oP c n)))
end
theorem uD{n c:Nat}(h:vnC n c=true):ltI (Int.ofNat n) 1=false/\ltI 32 (Int.ofNat n)=false/\cJ n c 1 95=false/\upB (byN c 0)=true/\oP c n=true:=by
 unfold vnC at h;simp only [Bool.and_eq_true,Bool.not_eq_true']at h;exact⟨h.1,h.2.1,h.2.2.1,h.2.2.2.1,h.2.2.2.2⟩
theorem Hk{n c i:Nat}(h:i+1<n):byN (Nat.add 97 (Nat.shiftLeft (Nat.mod (Nat.shiftRight c (Nat.mul 8 1)) (Nat.shiftLeft 1 (Nat.mul 8 (Nat.sub n 1)))) (Nat.mul 8 1))) (i+1)=byN c (i+1):=by
 unfold byN;show(97+((c >>> (8*1))%(1 <<< (8*(n-1)))) <<< (8*1)) >>> (8*(i+1))%256=c >>> (8*(i+1))%256;simp only [Nat.shiftRight_eq_div_pow,Nat.shiftLeft_eq,Nat.one_mul];have e:2 ^ (8*(i+1))=2 ^ (8*1)*2 ^ (8*i):=by rw [<-Nat.pow_add];congr 1;omega
 have b:2 ^ (8*(n-1))=2 ^ (8*i)*(256*2 ^ (8*(n-1-i-1))):=by
  rw [show(256:Nat)=2 ^ 8 from rfl,<-Nat.pow_add,<-Nat.pow_add]
  congr 1
  omega
 rw [e,<-Nat.div_div_eq_div_mul,<-Nat.div_div_eq_div_mul];generalize c/2 ^ (8*1)=d;have a:(97+d%2 ^ (8*(n-1))*2 ^ (8*1))/2 ^ (8*1)=d%2 ^ (8*(n-1)):=by
  have:(2:Nat) ^ (8*1)=256:=rfl;rw [this];omega
 rw [a,b,Nat.mod_mul_right_div_self,Nat.mod_mul_right_mod]
theorem yN{n c:Nat}:∀{k},k<=n->oP (Nat.add 97 (Nat.shiftLeft (Nat.mod (Nat.shiftRight c (Nat.mul 8 1)) (Nat.shiftLeft 1 (Nat.mul 8 (Nat.sub n 1)))) (Nat.mul 8 1))) k=oP c k
 |0,_=>rfl
 |1,_=>rfl
 |k+2,h=>by
  unfold oP;rw [yN (k:=k+1) (by omega),Hk (by omega)]
theorem JC{x:Nat}(h:(!eqI (Int.ofNat x) 95)=false):upB x=true:=by
 unfold upB;cases q:eqI (Int.ofNat x) 95 with
 |true=>rfl
 |false=>rw [q]at h;cases h
theorem JB{x:Nat}(h1:ltI (Int.ofNat x) 65=false)(h2:ltI 90 (Int.ofNat x)=false):upB x=true:=by
 unfold upB;rw [h1,h2];exact Bool.or_true _
theorem Dy{n c:Nat}(b:cJ n c 1 95=false)(h2:ltI 32 (Int.ofNat n)=false)(h1:eqI (Int.ofNat n) 1=true)(a:upB (byN c 0)=true):vnC n c=true:=by
 have e:Int.ofNat n=Int.ofNat 1:=by rw [jc]at h1;simpa using h1
 obtain rfl:n=1:=Int.ofNat.inj e;unfold vnC;rw [b,a];rfl
theorem Dz{n c:Nat}(h1:ltI (Int.ofNat n) 1=false)(h2:ltI 32 (Int.ofNat n)=false)(e:cJ n c 1 95=false)(b:upB (byN c 0)=true)(h:nmC (Nat.add 1 (Nat.sub n 1)) (Nat.add 97 (Nat.shiftLeft (Nat.mod (Nat.shiftRight c (Nat.mul 8 1)) (Nat.shiftLeft 1 (Nat.mul 8 (Nat.sub n 1)))) (Nat.mul 8 1)))=true):vnC n c=true:=by
 have a:=(CC h).2.2.2;have d:Nat.add 1 (Nat.sub n 1)=n:=by
  have:=cC (show Nat.blt n 1=false from h1);show 1+(n-1)=n;omega
 rw [d,yN (Nat.le_refl n)]at a;unfold vnC;rw [h1,h2,e,b,a];rfl
set_option maxHeartbeats 4000000 in
theorem f106v(n c:Nat)(f:n<9223372036854775808):∃b,CP 106 [.str n c] (.bool b)/\(b=true->vnC n c=true):=by
 obtain⟨v,k,b,rfl,ok⟩:∃v,CP 106 [.str n c] v/\∃b,v= .bool b/\(b=true->vnC n c=true):=by
  refine eF Tryz.func106 (by decide) LL.2 rfl (cg (.flat rfl) px0) rfl ?_;have d:Nat.blt n 1=false->Nat.blt 32 n=false->Nat.blt (Nat.add 1 (Nat.sub n 1)) 1099511627776=true:=λh1 h2=>ltb (by have:=cC h1;have:=cC h2;simp only [Nat.add_eq,Nat.sub_eq];omega);have a:Nat.blt n 1=false->Nat.blt 32 n=false->Nat.add 1 (Nat.sub n 1)<9223372036854775808:=λh1 h2=>by have:=cC h1;have:=cC h2;simp only [Nat.add_eq,Nat.sub_eq];omega
  repeat' (first
   |(refine WLg.mk ?_;first
   |refine ac ?_|refine av rfl rfl (jZ (Kz Hy)) rfl ?_|refine av rfl rfl (DR Hy) rfl ?_|refine av rfl rfl (Hi (d Hy Hy)) rfl ?_|refine aL rfl rfl rfl (f32 _ _ (a Hy Hy)) rfl ?_)|apply ab|refine aj rfl ?_|refine aB rfl rfl ?_|refine aC rfl (λe=>?_) (λe=>?_)|apply ae|apply aa|apply ak|refine aF rfl ?_|refine aD rfl ?_|refine ah rfl (λe=>?_) (λe=>?_)|apply am|apply thN|apply thR|fail)
  all_goals first
   |exact⟨.inr rfl,_,rfl,.flat rfl,false,rfl,λh=>by cases h⟩|exact⟨.inr rfl,_,rfl,.flat rfl,true,rfl,λ_=>Dy Hy Hy Hy (JB Hy Hy)⟩|exact⟨.inr rfl,_,rfl,.flat rfl,true,rfl,λ_=>Dy Hy Hy Hy (JC Hy)⟩|exact⟨.inr rfl,_,rfl,.flat rfl,_,rfl,λh=>Dz Hy Hy Hy (JB Hy Hy) h⟩|exact⟨.inr rfl,_,rfl,.flat rfl,_,rfl,λh=>Dz Hy Hy Hy (JC Hy) h⟩
 exact⟨b,k,ok⟩
theorem f153v(x:Nat):CP 153 [.int .u8 (Int.ofNat x)] (.bool (!ltI (Int.ofNat x) 48 && !ltI 57 (Int.ofNat x))):=by
 refine cR Tryz.func153 (by decide) JU.2 rfl (cg (.flat rfl) px0) rfl ?_
 repeat' (first
  |(refine WLg.mk ?_;first
  |refine ac ?_)|apply ab|refine aj rfl ?_|refine aB rfl rfl ?_|refine aC rfl (λa=>?_) (λa=>?_)|apply ae|apply aa|apply am|apply thN|fail)
 all_goals exact⟨.inr rfl,_,rfl,.flat rfl,by simp only [Bool.true_and,Bool.false_and, *];try rfl⟩
theorem f154v(x:Nat):CP 154 [.int .u8 (Int.ofNat x)] (.bool (loB x||(!ltI (Int.ofNat x) 65 && !ltI 90 (Int.ofNat x)))):=by
 refine cR Tryz.func154 (by decide) JT.2 rfl (cg (.flat rfl) px0) rfl ?_
 repeat' (first
  |(refine WLg.mk ?_;first
  |refine ac ?_)|apply ab|refine aj rfl ?_|refine aB rfl rfl ?_|refine aC rfl (λa=>?_) (λa=>?_)|apply ae|apply aa|apply am|apply thN|fail)
 all_goals exact⟨.inr rfl,_,rfl,.flat rfl,by simp only [loB,Bool.true_and,Bool.false_and,Bool.true_or,Bool.false_or, *];try rfl⟩
theorem f133v{x:Nat}(h:chB x=true):CP 133 [.int .u8 (Int.ofNat x)] (.bool true):=by
 refine cR Tryz.func133 (by decide) JW.2 rfl (cg (.flat rfl) px0) rfl ?_
 repeat' (first
  |(refine WLg.mk ?_;first
  |refine ac ?_|refine ay (f153v _) ?_|refine ay (f154v _) ?_)|apply ab|refine aj rfl ?_|refine aB rfl rfl ?_|refine aC rfl (λf=>?_) (λf=>?_)|apply ae|apply aa|apply am|apply thN|fail)
 ·exact⟨.inr rfl,_,rfl,.flat rfl,rfl⟩
 ·exact⟨.inr rfl,_,rfl,.flat rfl,rfl⟩
 ·exact⟨.inr rfl,_,rfl,.flat rfl,rfl⟩
 ·refine⟨.inr rfl,_,rfl,.flat rfl,?_⟩
  unfold chB at h;have e:eqI (Int.ofNat x) 64=true:=by
   generalize loB x=a at*;generalize (!ltI (Int.ofNat x) 65 && !ltI 90 (Int.ofNat x))=b at*;generalize (!ltI (Int.ofNat x) 48 && !ltI 57 (Int.ofNat x))=c at*;generalize eqI (Int.ofNat x) 95=d at*
   subst_vars
   cases a<;>cases b<;>simp_all
  show V.bool (eqI (Int.ofNat x) 64)=_;rw [e]
set_option maxHeartbeats 2000000 in
theorem f132v{n c:Nat}(f:n<9223372036854775808)(hc:∀i,i<n->chB (byN c i)=true):∃pos,CN 132 [.ptr 1 0,.func (.func 133) [] []] (HB (scC n c 0)) (.str (Nat.sub n 0) (Nat.mod (Nat.shiftRight c (Nat.mul 8 0)) (Nat.shiftLeft 1 (Nat.mul 8 (Nat.sub n 0))))) (HB (scC n c pos)):=by
 have px:=HO;obtain⟨v,h',k,pos,rfl,rfl⟩:∃v h',CN 132 [.ptr 1 0,.func (.func 133) [] []] (HB (scC n c 0)) v h'/\∃pos,v= .str (Nat.sub n 0) (Nat.mod (Nat.shiftRight c (Nat.mul 8 0)) (Nat.shiftLeft 1 (Nat.mul 8 (Nat.sub n 0))))/\h'=HB (scC n c pos):=by
  refine pQ Tryz.func132 (by decide) JX.2 rfl rfl ?_
  repeat' (first
   |apply ab|apply ae|apply aa|apply ai|refine ac ?_|refine au ?_|apply thN)
  refine az (qU y5 (l:=fr132) (cs:=scC n c 0) KS rfl rfl rfl (ik rfl rfl rfl) (Bc n c 0)) ?_;refine aA n (λi x h=>x=fr132/\h=HB (scC n c i)) ?_ (i:=0) (Nat.zero_le _) ⟨rfl,rfl⟩;rintro i _ _ hi ⟨rfl,rfl⟩;cases q:ltI (Int.ofNat i) (Int.ofNat n)with
  |true=>
   have e:=bX q;have a:CP 133 [.int .u8 (Int.ofNat (Nat.mod (Nat.shiftRight c (Nat.mul 8 i)) 256))] (.bool true):=f133v (hc i e)
   repeat' (first
    |apply ab|apply ae|apply aa|apply ai|apply ak|refine aF rfl ?_|refine aD rfl ?_|apply ax|refine aP ?_|apply thN|apply thE|apply onE|refine ac ?_|refine au ?_|refine aT rfl rfl rfl rfl rfl rfl rfl rfl rfl ?_|(show WX _ _ _ _ _ _ _ _ _ _;first|refine bn rfl rfl rfl ?_|refine bt rfl rfl rfl ?_|refine aH ?_|refine aU rfl rfl (jZ Hy) rfl ?_|refine aM ?_|refine aR a ?_|(fail_if_success refine WX.gt rfl ?_);refine bp rfl rfl rfl (λb=>?_) (λb=>?_)|refine aO (by repeat' (first|exact bR.nil|refine bR.any (λh=>rfl) ?_|refine bR.first rfl ?_|refine bR.first (dF Hy) ?_|refine bR.snd (dF Hy) ?_|refine bR.any (λh=>dF Hy) ?_|refine bR.first (fq Hy) ?_|refine bR.snd (fq Hy) ?_|refine bR.any (λh=>fq Hy) ?_|refine bR.first (eV Hy) ?_|refine bR.snd (eV Hy) ?_|refine bR.any (λh=>eV Hy) ?_|refine bR.first (fV Hy) ?_|refine bR.snd (fV Hy) ?_|refine bR.any (λh=>fV Hy) ?_|refine bR.first (ld_ex Hy rfl) ?_|refine bR.snd (ld_ex Hy rfl) ?_|refine bR.any (λh=>ld_ex Hy rfl) ?_|refine bR.first (iS Hy rfl) ?_|refine bR.snd (iS Hy rfl) ?_|refine bR.any (λh=>iS Hy rfl) ?_|refine bR.first (dy Hy rfl) ?_|refine bR.snd (dy Hy rfl) ?_|refine bR.any (λh=>dy Hy rfl) ?_|refine bR.first (jG Hy rfl) ?_|refine bR.snd (jG Hy rfl) ?_|refine bR.any (λh=>jG Hy rfl) ?_|refine bR.first (dC Hy rfl) ?_|refine bR.snd (dC Hy rfl) ?_|refine bR.any (λh=>dC Hy rfl) ?_|refine bR.first (dc Hy rfl) ?_|refine bR.snd (dc Hy rfl) ?_|refine bR.any (λh=>dc Hy rfl) ?_|refine bR.first (dw Hy rfl) ?_|refine bR.snd (dw Hy rfl) ?_|refine bR.any (λh=>dw Hy rfl) ?_|refine bR.first (dv Hy rfl) ?_|refine bR.snd (dv Hy rfl) ?_|refine bR.any (λh=>dv Hy rfl) ?_|refine bR.each (.cons rfl .nil) ?_|refine bR.each (.cons rfl (.cons rfl .nil)) ?_|refine bR.each (.cons rfl (.cons rfl (.cons rfl .nil))) ?_)) ?_)|fail)
   any_goals (first|exact Nr q|skip)
   exact .norm ⟨_,_,qU y5 (cs:=scC n c (i+1)) KS rfl rfl rfl (ik rfl (mG q f) rfl) (Bc n c (i+1)),e,rfl,rfl⟩
  |false=>
   have d:i=n:=by have:=cC q;omega
   subst d
   repeat' (first
    |(show WX _ _ _ _ _ _ _ _ _ _;first
    |refine bn rfl rfl rfl ?_|refine bt rfl rfl rfl ?_|refine aU rfl rfl (xA hi) rfl ?_|refine aH ?_|refine aU rfl rfl (jZ Hy) rfl ?_|refine aM ?_|(fail_if_success refine WX.gt rfl ?_);refine bp rfl rfl rfl (λb=>?_) (λb=>?_)|refine aO (by repeat' (first|exact bR.nil|refine bR.any (λh=>rfl) ?_|refine bR.first rfl ?_|refine bR.first (dF Hy) ?_|refine bR.snd (dF Hy) ?_|refine bR.any (λh=>dF Hy) ?_|refine bR.first (fq Hy) ?_|refine bR.snd (fq Hy) ?_|refine bR.any (λh=>fq Hy) ?_|refine bR.first (eV Hy) ?_|refine bR.snd (eV Hy) ?_|refine bR.any (λh=>eV Hy) ?_|refine bR.first (fV Hy) ?_|refine bR.snd (fV Hy) ?_|refine bR.any (λh=>fV Hy) ?_|refine bR.first (ld_ex Hy rfl) ?_|refine bR.snd (ld_ex Hy rfl) ?_|refine bR.any (λh=>ld_ex Hy rfl) ?_|refine bR.first (iS Hy rfl) ?_|refine bR.snd (iS Hy rfl) ?_|refine bR.any (λh=>iS Hy rfl) ?_|refine bR.first (dy Hy rfl) ?_|refine bR.snd (dy Hy rfl) ?_|refine bR.any (λh=>dy Hy rfl) ?_|refine bR.first (jG Hy rfl) ?_|refine bR.snd (jG Hy rfl) ?_|refine bR.any (λh=>jG Hy rfl) ?_|refine bR.first (dC Hy rfl) ?_|refine bR.snd (dC Hy rfl) ?_|refine bR.any (λh=>dC Hy rfl) ?_|refine bR.first (dc Hy rfl) ?_|refine bR.snd (dc Hy rfl) ?_|refine bR.any (λh=>dc Hy rfl) ?_|refine bR.first (dw Hy rfl) ?_|refine bR.snd (dw Hy rfl) ?_|refine bR.any (λh=>dw Hy rfl) ?_|refine bR.first (dv Hy rfl) ?_|refine bR.snd (dv Hy rfl) ?_|refine bR.any (λh=>dv Hy rfl) ?_|refine bR.each (.cons rfl .nil) ?_|refine bR.each (.cons rfl (.cons rfl .nil)) ?_|refine bR.each (.cons rfl (.cons rfl (.cons rfl .nil))) ?_)) ?_)|apply ae|refine aD rfl ?_|apply ax|apply am|refine aP ?_|apply thN|apply thE|apply onE|fail)
   any_goals (first|exact Nq q|skip)
   exact⟨.inr rfl,_,rfl,Nat.le_refl _,_,rfl,rfl⟩
 exact⟨_,k⟩
theorem oc{b:Bool}(h:(!b)=false):b=true:=by cases b with|true=>rfl|false=>cases h
theorem HH{x:Nat}(h:upB x=true)(e:eqI (Int.ofNat x) 95=false):(!ltI (Int.ofNat x) 65)=true/\(!ltI 90 (Int.ofNat x))=true:=by
 unfold upB at h;rw [e,Bool.false_or,Bool.and_eq_true]at h;exact h
theorem JA{x:Nat}(h:upB x=true):chB x=true:=by
 unfold upB at h;unfold chB;generalize loB x=a at*;generalize (!ltI (Int.ofNat x) 48 && !ltI 57 (Int.ofNat x))=c at*;generalize (!ltI (Int.ofNat x) 65 && !ltI 90 (Int.ofNat x))=b at*;generalize eqI (Int.ofNat x) 95=d at*;cases a<;>cases b<;>cases c<;>cases d<;>simp_all
theorem Gi{n c:Nat}(hc:c<2 ^ (8*n)):cJ (Nat.sub n 0) (Nat.mod (Nat.shiftRight c (Nat.mul 8 0)) (Nat.shiftLeft 1 (Nat.mul 8 (Nat.sub n 0)))) n c=true:=by
 have e:Nat.mod (Nat.shiftRight c (Nat.mul 8 0)) (Nat.shiftLeft 1 (Nat.mul 8 (Nat.sub n 0)))=c:=by
  show(c >>> (8*0))%(1 <<< (8*(n-0)))=c;rw [Nat.shiftLeft_eq,Nat.one_mul];exact Nat.mod_eq_of_lt hc
 rw [e];show(Bool.rec (motive:=λ_=>Bool) false (Nat.beq c c) (Nat.beq n n):Bool)=true;rw [Nat.beq_refl,Nat.beq_refl]
set_option maxHeartbeats 4000000 in
theorem f111t{n c:Nat}(h:vnC n c=true)(hc:c<2 ^ (8*n)):CP 111 [.agg (tkC 2 n c)] (.bool true):=by
 obtain⟨f,e,o,d,g⟩:=uD h;have h0:Nat.blt 0 n=true:=ltb (by have:=cC (show Nat.blt n 1=false from f);omega);have l:=cC (show Nat.blt 32 n=false from e);have b:cJ n c 0 0=false:=by
  cases n with
  |zero=>cases h0
  |succ n=>rfl
 obtain⟨m,a⟩:=f132v (n:=n) (c:=c) (by omega) λi hi=>by
  cases i with
  |zero=>exact JA d
  |succ i=>exact Jm (Nat.succ_pos _) g hi
 have j:=Gi hc;refine cR Tryz.func111 (by decide) IH.2 rfl (cg (.agg (uI 2 n c)) px0) rfl ?_;have px:=uI 2 n c
 repeat' (first
  |apply ab|apply ae|apply aa|apply ai|apply ak|refine aF rfl ?_|refine aD rfl ?_|apply am|refine aP ?_|apply thN|apply thR|refine ac ?_|refine au ?_|refine aV rfl rfl rfl rfl px rfl ?_|refine aI rfl rfl rfl rfl rfl ?_|refine aS rfl rfl rfl rfl rfl rfl rfl rfl rfl ?_|(show WX _ _ _ _ _ _ _ _ _ _;first|refine bn rfl rfl rfl ?_|refine bt rfl rfl rfl ?_|refine aU rfl rfl (jZ (i:=0) h0) rfl ?_|refine aH ?_|refine aM ?_|refine bh rfl rfl rfl (a) .none rfl ?_|(fail_if_success refine WX.gt rfl ?_);refine bp rfl rfl rfl (λk=>?_) (λk=>?_)|refine aO (by repeat' (first|exact bR.nil|refine bR.any (λh=>rfl) ?_|refine bR.first rfl ?_|refine bR.first (dF Hy) ?_|refine bR.snd (dF Hy) ?_|refine bR.any (λh=>dF Hy) ?_|refine bR.first (fq Hy) ?_|refine bR.snd (fq Hy) ?_|refine bR.any (λh=>fq Hy) ?_|refine bR.first (eV Hy) ?_|refine bR.snd (eV Hy) ?_|refine bR.any (λh=>eV Hy) ?_|refine bR.first (fV Hy) ?_|refine bR.snd (fV Hy) ?_|refine bR.any (λh=>fV Hy) ?_|refine bR.first (ld_ex Hy rfl) ?_|refine bR.snd (ld_ex Hy rfl) ?_|refine bR.any (λh=>ld_ex Hy rfl) ?_|refine bR.first (iS Hy rfl) ?_|refine bR.snd (iS Hy rfl) ?_|refine bR.any (λh=>iS Hy rfl) ?_|refine bR.first (dy Hy rfl) ?_|refine bR.snd (dy Hy rfl) ?_|refine bR.any (λh=>dy Hy rfl) ?_|refine bR.first (jG Hy rfl) ?_|refine bR.snd (jG Hy rfl) ?_|refine bR.any (λh=>jG Hy rfl) ?_|refine bR.first (dC Hy rfl) ?_|refine bR.snd (dC Hy rfl) ?_|refine bR.any (λh=>dC Hy rfl) ?_|refine bR.first (dc Hy rfl) ?_|refine bR.snd (dc Hy rfl) ?_|refine bR.any (λh=>dc Hy rfl) ?_|refine bR.first (dw Hy rfl) ?_|refine bR.snd (dw Hy rfl) ?_|refine bR.any (λh=>dw Hy rfl) ?_|refine bR.first (dv Hy rfl) ?_|refine bR.snd (dv Hy rfl) ?_|refine bR.any (λh=>dv Hy rfl) ?_|refine bR.each (.cons rfl .nil) ?_|refine bR.each (.cons rfl (.cons rfl .nil)) ?_|refine bR.each (.cons rfl (.cons rfl (.cons rfl .nil))) ?_)) ?_)|fail)
 all_goals first
  |exact⟨.inr rfl,_,rfl,.flat rfl,rfl⟩|exact absurd (j.symm.trans Hy) (by decide)|exact absurd (b.symm.trans (oc Hy)) (by decide)|exact absurd (e.symm.trans (oc Hy)) (by decide)|exact absurd ((HH d Hy).1.symm.trans Hy) (by decide)
  |(refine⟨.inr rfl,_,rfl,.flat rfl,?_⟩
    exact congrArg V.bool (HH d Hy).2)
theorem f79v{n c:Nat}(h:vnC n c=true)(hc:c<2 ^ (8*n)):CP 79 [.str n c] (.bool true):=by
 have b:=(uD h).2.2.1;have a:=f111t h hc;refine cR Tryz.func79 (by decide) q79.2 rfl (cg (.flat rfl) px0) rfl ?_
 repeat' (first
  |(refine WLg.mk ?_;first
  |refine ac ?_|refine ay a ?_)|apply ab|refine aj rfl ?_|refine aB rfl rfl ?_|refine aC rfl (λd=>?_) (λd=>?_)|apply ae|apply aa|apply am|apply thN|fail)
 all_goals first
  |exact⟨.inr rfl,_,rfl,.flat rfl,rfl⟩|exact absurd (b.symm.trans (oc Hy)) (by decide)
end
section
def OkR(size:Nat)(m r:Int):Prop:=r<=m/\-1<=r/\(0<=r->(size:Int)<=1000*(m-r))
noncomputable section
def fr38(l:List Ex)(cur:Int)(i:Nat):AL:=[(0,.lst l.length 11 (exL l)),(1,.int .i64 cur),(4,.int .i64 0),(5,.int .i64 (Int.ofNat i))]
def fr38s(l:List Ex)(x:Ex)(cur:Int)(i k:Nat):AL:=[(0,.lst l.length 11 (exL l)),(1,.int .i64 cur),(4,.int .i64 0),(5,.int .i64 (Int.ofNat i)),(6,.eptr (exO x) 0),(7,.int .i64 (Int.ofNat k))]
def fr39(l:List Sm)(cur:Int)(i:Nat):AL:=[(0,.lst l.length 23 (smL l)),(1,.int .i64 cur),(4,.int .i64 0),(5,.int .i64 (Int.ofNat i))]
def fr19(l:List Cl)(cur:Int)(i:Nat):AL:=[(0,.lst l.length 4 (clL l)),(1,.int .i64 cur),(4,.int .i64 0),(5,.int .i64 (Int.ofNat i))]
def fr19g(l:List Cl)(cur:Int)(i k:Nat):AL:=[(0,.lst l.length 4 (clL l)),(1,.int .i64 cur),(4,.int .i64 0),(5,.int .i64 (Int.ofNat i)),(6,.int .i64 (Int.ofNat k))]
end
theorem Hw{m:Int}(h1: -1<=m)(h2:m<=4000):dA .i64 (Int.sub m 1)=m-1:=by
 have key:∀n:Nat,n<4010->dA .i64 (Int.ofNat n-5)=Int.ofNat n-5:=by
  intro n a;rcases Nat.lt_or_ge n 5 with h|h
  ·have:n=0\/n=1\/n=2\/n=3\/n=4:=by omega
   rcases this with rfl|rfl|rfl|rfl|rfl<;>rfl
  ·have e:Int.ofNat n-5=Int.ofNat (n-5):=by simp;omega
   rw [e];show(Bool.rec (motive:=λ_=>Int) (lL .i64 (Nat.mod (n-5) (iL .i64))) (Int.ofNat (n-5)) (Nat.blt (n-5) (jI .i64)):Int)=_;rw [show Nat.blt (n-5) (jI .i64)=true by simp [Nat.blt,jI];omega]
 have:=key (m+4).toNat (by omega)
 have e:Int.ofNat (m+4).toNat-5=m-1:=by simp;omega
 rw [e]at this;exact this
theorem jD{α:Type}{f:α->List V}{g:List α->List V}(hn:g []=[])(hc:∀a l,g (a ::l)=f a++g l):∀(l:List α) (i:Nat) (x:α),l[i]? =some x->bS (g (l.take (i+1)))=bS (g (l.take i))+bS (f x)
 |[],i,x,h=>by simp at h
 |a ::l,0,x,h=>by
  simp at h;subst h;simp only [List.take_succ_cons,List.take_zero];rw [hc,hn,List.append_nil];simp [bS]
 |a ::l,i+1,x,h=>by
  have:=jD hn hc l i x (by simpa using h);rw [List.take_succ_cons,List.take_succ_cons,hc,hc,cy,cy,this,Nat.add_assoc]
theorem ja{l:List Ex}{i:Nat}(h:i<l.length):bS (exL (l.take (i+1)))=bS (exL (l.take i))+bS (exO (cE l i)):=jD (by rw [exL]) cV l i _ (cP (d:=ex0) (ltb h))
theorem sI{l:List Sg}{i:Nat}(h:i<l.length):bS (sgL (l.take (i+1)))=bS (sgL (l.take i))+bS (sgO (cG l i)):=jD (by rw [sgL]) fI l i _ (cP (ltb h))
theorem oO{l:List Cl}{i:Nat}(h:i<l.length):bS (clL (l.take (i+1)))=bS (clL (l.take i))+bS (clO (bV l i)):=jD (by rw [clL]) fj l i _ (cP (ltb h))
theorem vJ{l:List Sm}{i:Nat}(h:i<l.length):bS (smL (l.take (i+1)))=bS (smL (l.take i))+bS (smO (cK l i)):=jD (by rw [smL]) fE l i _ (cP (ltb h))
theorem zZ{l:List (List Ex)}{i:Nat}(h:i<l.length):bS (gdL (l.take (i+1)))=bS (gdL (l.take i))+(1+bS (exL (dm l i))):=by
 have:=jD (g:=gdL) (f:=λx=>[V.lst x.length 11 (exL x)]) (by rw [gdL]) (λa l=>by first|(rw [gdL];done)|(rw [gdL];rfl)) l i _ (cP (d:=[]) (ltb h));rw [this];simp [bS,szV];rfl
theorem E7(x y:Ex):exL [x,y]=exO x++(exO y++[]):=by rw [cV,cV,exL]
theorem BO(x y:Ex):∀c,c∈exO x++(exO y++[])->bY c:=by
 rw [<-E7];exact λc hc=>(jb _ c hc).x
theorem dj{i:Nat}(h:i<9223372036854775807):some (V.int .i64 (dA .i64 (Int.add (Int.ofNat i) 1)))=some (V.int .i64 (Int.ofNat (i+1))):=by
 show some (V.int .i64 (dA .i64 (Int.add (Int.ofNat i) (Int.ofNat 1))))=_;rw [j8 h]
theorem KI{f l:AL}(h:uf f l:=by repeat' (first|exact .nil|refine .cons rfl ?_ ?_|refine .cons (dj Hy) ?_ ?_|exact PX)):uf f l:=h
theorem KSI{f l:AL}(h:kX f l:=by repeat' (first|exact .nil|refine .it rfl ?_|refine .cons rfl ?_ ?_|refine .cons (dj Hy) ?_ ?_|exact PX)):kX f l:=h
theorem te{a:Int}(h:(!ltI a 0)=false):¬0<=a:=by
 rw [iy]at h;simp at h;omega
theorem Jf{α:Type}[Inhabited α]{p:Prop}{Q:α->Prop}(h:p->∃r,Q r):∃r,p->Q r:=by
 classical
 by_cases k:p
 ·obtain⟨r,q⟩:=h k
  exact⟨r,λ_=>q⟩
 ·exact⟨default,λq=>absurd q k⟩
theorem rX{c:Nat}{m:Int}(h: -1<=m):OkR c m (-1):=⟨h,Int.le_refl _,λq=>by omega⟩
theorem kE{a:Int}(h:(!ltI a 0)=true):0<=a:=by
 rw [iy]at h;simp at h;exact h
theorem pC{n i:Nat}{m a:Int}{g:Nat->Nat}{c:Nat}(hg:¬(i<n/\0<=a))(hi:i<=n)(b: -1<=a)(e:(i:Int)<=m-a)(q3:0<=a->(g i:Int)<=1000*(m-a))(d:g n=c):OkR c m a:=
 ⟨by omega,b,λh=>by
  have:i=n:=by omega
  subst this;rw [<-d];exact q3 h⟩
structure Sz(s:Nat):Prop where
 ex:∀l,bS (exL l)<s->∀m:Int,-1<=m->m<=4000->∃r,CP 38 [.lst l.length 11 (exL l),.int .i64 m] (.int .i64 r)/\OkR (bS (exL l)+350*l.length) m r
 cl:∀l,bS (clL l)<s->∀m:Int,-1<=m->m<=4000->∃r,CP 19 [.lst l.length 4 (clL l),.int .i64 m] (.int .i64 r)/\OkR (bS (clL l)+500*l.length) m r
 sm:∀l,bS (smL l)<s->∀m:Int,-1<=m->m<=4000->∃r,CP 39 [.lst l.length 23 (smL l),.int .i64 m] (.int .i64 r)/\OkR (bS (smL l)) m r
theorem Sz.one{s:Nat}(R:Sz s){p:Prop}(l:List Ex)(m:Int)(h:p->bS (exL l)<s/\0<=m/\m<=4000):∃r,p->CP 38 [.lst l.length 11 (exL l),.int .i64 (dA .i64 (Int.sub m 1))] (.int .i64 r)/\OkR (bS (exL l)+350*l.length) (m-1) r:=by
 refine Jf λk=>?_;obtain⟨a,b,c⟩:=h k;rw [Hw (by omega) (by omega)];exact R.ex l a (m-1) (by omega) (by omega)
theorem Sz.two{s:Nat}(R:Sz s){p:Prop}(x y:Ex)(m:Int)(h:p->bS (exO x)+bS (exO y)<s/\0<=m/\m<=4000):∃r,p->CP 38 [.lst 2 11 (exO x++(exO y++[])),.int .i64 m] (.int .i64 r)/\OkR (bS (exO x)+bS (exO y)+700) m r:=by
 refine Jf λk=>?_;obtain⟨d,b,c⟩:=h k;have a:bS (exL [x,y])=bS (exO x)+bS (exO y):=by rw [cV,cV,exL,cy,cy,bS,Nat.add_zero]
 have:=R.ex [x,y] (by rw [a];omega) m (by omega) (by omega);rw [E7,show bS (exO x++(exO y++[]))=bS (exO x)+bS (exO y) by rw [<-E7];exact a]at this;exact this
theorem me{n:Nat}(h:ltI 300 (Int.ofNat n)=false):n<=300:=by
 rw [iy]at h;simp at h;omega
set_option maxHeartbeats 2000000 in
theorem DM{s:Nat}(R:Sz s)(l:List Sm)(y:bS (smL l)<s+1)(m:Int)(h1: -1<=m)(h2:m<=4000):∃r,CP 39 [.lst l.length 23 (smL l),.int .i64 m] (.int .i64 r)/\OkR (bS (smL l)) m r:=by
 obtain⟨v,c,r,rfl,ok⟩:∃v,CP 39 [.lst l.length 23 (smL l),.int .i64 m] v/\∃r,v= .int .i64 r/\OkR (bS (smL l)) m r:=by
  refine eF Tryz.func39 (by decide) q39.2 rfl (cg (pxM l) (cg (.flat rfl) px0)) rfl ?_
  repeat' (first
   |apply ab|apply ae|apply aa|apply ai|refine ac ?_|apply thN)
  refine az (cS (l:=fr39 l m 0) KT rfl) ?_;refine aA l.length (λi x h=>(∃a:Int,x=fr39 l a i/\-1<=a/\(i:Int)<=m-a/\(0<=a->(bS (smL (l.take i)):Int)<=1000*(m-a)))/\h=H0) ?_ (i:=0) (Nat.zero_le _) ⟨⟨m,rfl,h1,by simp,λ_=>by simp [smL,bS]⟩,rfl⟩;rintro i _ _ hi ⟨⟨a,rfl,u,p,q3⟩,rfl⟩
  by_cases hg:i<l.length/\0<=a
  ·obtain⟨d,h0⟩:=hg
   have t:=DP (ltb d);have k:=nj (cK l i);have j:=vJ d;have hi2:i<9223372036854775807:=by omega
   have o:bS (exL [(cK l i).pat,(cK l i).val])=bS (exO (cK l i).pat)+bS (exO (cK l i).val):=by rw [cV,cV,exL,cy,cy,bS,Nat.add_zero]
   obtain⟨e,c1,o1,n,f⟩:=R.ex [(cK l i).pat,(cK l i).val] (by rw [o];omega) a (by omega) (by omega);simp only [List.length_cons,List.length_nil]at f;have w:e<=a-1:=by
    rcases (by omega:e= -1\/0<=e)with q|q
    ·omega
    ·have:=f q;omega
   rw [E7]at c1;have px:=BO (cK l i).pat (cK l i).val
   repeat' (first
    |(refine WLg.mk ?_;first
    |refine ac ?_)
    |(show WX _ _ _ _ _ _ _ _ _ _;first
    |refine aH ?_|refine aU rfl rfl (ce Hy) rfl ?_|refine aQ rfl rfl (dw Hy rfl) rfl ?_|refine aQ rfl rfl (dv Hy rfl) rfl ?_|refine bC (cl:=exO (cK l i).pat++(exO (cK l i).val++[])) rfl rfl rfl rfl rfl rfl px rfl ?_|refine aR c1 ?_|refine aO (by repeat' (first|exact bR.nil|refine bR.any (λh=>rfl) ?_|refine bR.first rfl ?_|refine bR.first (dw Hy rfl) ?_|refine bR.snd (dw Hy rfl) ?_|refine bR.any (λh=>dw Hy rfl) ?_|refine bR.first (dv Hy rfl) ?_|refine bR.snd (dv Hy rfl) ?_|refine bR.any (λh=>dv Hy rfl) ?_|refine bR.each (.cons rfl .nil) ?_|refine bR.each (.cons rfl (.cons rfl .nil)) ?_|refine bR.each (.cons rfl (.cons rfl (.cons rfl .nil))) ?_)) ?_)|apply ab|refine aj rfl ?_|refine aB rfl rfl ?_|refine aC rfl (λb=>?_) (λb=>?_)|apply ae|apply aa|apply ai|apply ak|refine aD rfl ?_|refine ah rfl (λb=>?_) (λb=>?_)|apply ax|apply am|refine aP ?_|apply thN|apply thE|apply onE|fail)
   ·exact .norm ⟨_,_,cS KI rfl,d,⟨e,rfl,n,by omega,λh=>by have:=f h;omega⟩,rfl⟩
   ·rw [iy]at b;simp at b;omega
   ·have:=cC b;omega
  ·skip
   repeat' (first
    |(refine WLg.mk ?_;first
    |refine ac ?_)|apply ab|refine aj rfl ?_|refine aB rfl rfl ?_|refine aC rfl (λb=>?_) (λb=>?_)|apply ae|apply aa|apply ai|apply ak|refine aD rfl ?_|refine ah rfl (λb=>?_) (λb=>?_)|apply ax|apply am|apply thN|apply thE|apply onE|fail)
   all_goals first
    |exact absurd ⟨bX Hy,kE Hy⟩ hg|exact⟨.inr rfl,_,rfl,.flat rfl,a,rfl,pC (g:=λi=>bS (smL (l.take i))) hg hi u p q3 (by rw [List.take_length])⟩
 exact⟨r,c,ok⟩
set_option maxHeartbeats 4000000 in
theorem DO{s:Nat}(R:Sz s)(l:List Cl)(W:bS (clL l)<s+1)(m:Int)(h1: -1<=m)(h2:m<=4000):∃r,CP 19 [.lst l.length 4 (clL l),.int .i64 m] (.int .i64 r)/\OkR (bS (clL l)+500*l.length) m r:=by
 obtain⟨v,c,r,rfl,ok⟩:∃v,CP 19 [.lst l.length 4 (clL l),.int .i64 m] v/\∃r,v= .int .i64 r/\OkR (bS (clL l)+500*l.length) m r:=by
  refine eF Tryz.func19 (by decide) q19.2 rfl (cg (pxC l) (cg (.flat rfl) px0)) rfl ?_
  repeat' (first
   |apply ab|apply ae|apply aa|apply ai|refine ac ?_|apply thN)
  refine az (cS (l:=fr19 l m 0) KT rfl) ?_;refine aA l.length (λi x h=>(∃b:Int,x=fr19 l b i/\-1<=b/\(i:Int)<=m-b/\(0<=b->(bS (clL (l.take i))+500*i:Int)<=1000*(m-b)))/\h=H0) ?_ (i:=0) (Nat.zero_le _) ⟨⟨m,rfl,h1,by simp,λ_=>by simp [clL,bS]⟩,rfl⟩;rintro i _ _ hi ⟨⟨b,rfl,K,F,q3⟩,rfl⟩;obtain⟨u,w⟩:=R.one (p:=i<l.length/\0<=b) (bV l i).pats b λh=>by
   have E:=oh (ltb h.1);have y:=gM (bV l i);omega
  repeat' (first
   |(refine WLg.mk ?_;first
   |refine ac ?_|refine av rfl rfl (ce Hy) rfl ?_|refine ap rfl rfl (dy Hy rfl) rfl ?_|refine aL rfl rfl rfl ((w ⟨bX Hy,kE Hy⟩).1) rfl ?_)|apply ab|refine aj rfl ?_|refine aB rfl rfl ?_|refine aC rfl (λn=>?_) (λn=>?_)|apply ae|apply aa|apply ai|apply ak|refine aD rfl ?_|refine ah rfl (λn=>?_) (λn=>?_)|apply ax|apply am|apply thN|apply thR|apply thE|apply onR|apply onE|fail)
  ·exact⟨.inr rfl,_,rfl,.flat rfl,-1,rfl,rX h1⟩
  ·have d:=bX (by assumption:ltI (Int.ofNat i) (Int.ofNat l.length)=true)
   have h0:=kE (by assumption:(!ltI b 0)=true);have f:ltI 300 (Int.ofNat (bV l i).name.size)=false:=by assumption
   rw [iy]at f;have f:(bV l i).name.size<=300:=by simp at f;omega
   have J:=ltb d;have E:=oh J;have y:=gM (bV l i);have I:=oO d;obtain⟨o1,M,N⟩:=(w ⟨d,h0⟩).2;have hi2:i<9223372036854775807:=by omega
   clear w;refine az (cS (l:=fr19g l u i 0) KT rfl) ?_;refine aA (bV l i).guards.length (λk x h=>(∃a:Int,x=fr19g l a i k/\-1<=a/\(k:Int)<=u-a/\(0<=a->(bS (gdL ((bV l i).guards.take k)):Int)<=1000*(u-a)))/\h=H0) ?_ (i:=0) (Nat.zero_le _) ⟨⟨u,rfl,M,by simp,λ_=>by simp [gdL,bS]⟩,rfl⟩;rintro k _ _ V ⟨⟨a,rfl,U,T,D⟩,rfl⟩;have L:k<9223372036854775807:=by omega
   obtain⟨O,t⟩:=R.one (p:=k<(bV l i).guards.length/\0<=a) (dm (bV l i).guards k) a λh=>by
    have hg:=tq (ltb h.1);omega
   obtain⟨G,c3,P,o,A⟩:=R.sm (bV l i).body (by omega) a (by omega) (by omega)
   repeat' (first
    |(refine WLg.mk ?_;first
    |refine ac ?_|refine av rfl rfl (ce Hy) rfl ?_|refine aG (dy J rfl) ?_|refine ap rfl rfl (dY (j:=0) (nD Hy) rfl _) rfl ?_|refine aL rfl rfl rfl ((t ⟨bX Hy,kE Hy⟩).1) rfl ?_|refine ay c3 ?_)|apply ab|refine aj rfl ?_|refine aB rfl rfl ?_|refine aC rfl (λn=>?_) (λn=>?_)|apply ae|apply aa|apply ai|apply ak|refine aD rfl ?_|refine ah rfl (λn=>?_) (λn=>?_)|apply ax|apply thN|apply thE|apply onE|fail)
   ·have e:=bX (by assumption:ltI (Int.ofNat k) (Int.ofNat (bV l i).guards.length)=true)
    obtain⟨Q,z,C⟩:=(t ⟨e,kE Hy⟩).2;have S:=zZ e;exact .norm ⟨_,_,cS KI rfl,e,⟨O,rfl,z,by omega,λh=>by have:=C h;have:=D (by omega);omega⟩,rfl⟩
   ·have hc:¬0<=a:=te Hy
    exact .norm ⟨_,_,cS KI rfl,d,⟨G,rfl,o,by omega,λh=>by omega⟩,rfl⟩
   ·have B:k=(bV l i).guards.length:=by have:=cC (by assumption:ltI (Int.ofNat k) (Int.ofNat (bV l i).guards.length)=false);omega
    rw [B,List.take_length]at D;exact .norm ⟨_,_,cS KI rfl,d,⟨G,rfl,o,by omega,λh=>by have:=A h;have:=D (by omega);have:=N (by omega);have:=q3 (by omega);omega⟩,rfl⟩
  ·have hc:¬0<=b:=te Hy
   exact⟨.inr rfl,_,rfl,.flat rfl,b,rfl,pC (g:=λi=>bS (clL (l.take i))+500*i) (λq=>hc q.2) hi K F (λq=>by have:=q3 q;omega) (by rw [List.take_length])⟩
  ·have hc:=cC (by assumption:ltI (Int.ofNat i) (Int.ofNat l.length)=false)
   exact⟨.inr rfl,_,rfl,.flat rfl,b,rfl,pC (g:=λi=>bS (clL (l.take i))+500*i) (λq=>by have:=q.1;omega) hi K F (λq=>by have:=q3 q;omega) (by rw [List.take_length])⟩
 exact⟨r,c,ok⟩
set_option maxHeartbeats 4000000 in
theorem DN{s:Nat}(R:Sz s)(l:List Ex)(hl:bS (exL l)<s+1)(m:Int)(h1: -1<=m)(h2:m<=4000):∃r,CP 38 [.lst l.length 11 (exL l),.int .i64 m] (.int .i64 r)/\OkR (bS (exL l)+350*l.length) m r:=by
 obtain⟨v,c,r,rfl,ok⟩:∃v,CP 38 [.lst l.length 11 (exL l),.int .i64 m] v/\∃r,v= .int .i64 r/\OkR (bS (exL l)+350*l.length) m r:=by
  refine eF Tryz.func38 (by decide) q38.2 rfl (cg (pxE l) (cg (.flat rfl) px0)) rfl ?_
  repeat' (first
   |apply ab|apply ae|apply aa|apply ai|refine ac ?_|apply thN)
  refine az (cS (l:=fr38 l m 0) KT rfl) ?_;refine aA l.length (λi x h=>(∃b:Int,x=fr38 l b i/\-1<=b/\(i:Int)<=m-b/\(0<=b->(bS (exL (l.take i))+350*i:Int)<=1000*(m-b)))/\h=H0) ?_ (i:=0) (Nat.zero_le _) ⟨⟨m,rfl,h1,by simp,λ_=>by simp [exL,bS]⟩,rfl⟩;rintro i _ _ hi ⟨⟨b,rfl,J,K,q3⟩,rfl⟩;obtain⟨u,w⟩:=R.one (p:=i<l.length/\0<=b) (cE l i).items b λh=>by
   have C:=tJ (ltb h.1);have D:=dZ (cE l i);omega
  repeat' (first
   |(refine WLg.mk ?_;first
   |refine ac ?_|refine av rfl rfl (ce Hy) rfl ?_|refine au ?_|refine ap rfl rfl (dF Hy) rfl ?_|refine aN ?_|refine aL rfl rfl rfl ((w ⟨bX Hy,kE Hy⟩).1) rfl ?_)|apply ab|refine aj rfl ?_|refine aB rfl rfl ?_|refine aC rfl (λf=>?_) (λf=>?_)|apply ae|apply aa|apply ai|apply ak|refine aF rfl ?_|refine aD rfl ?_|refine ah rfl (λf=>?_) (λf=>?_)|apply ax|apply am|apply thN|apply thR|apply thE|apply onR|apply onE|fail)
  ·exact⟨.inr rfl,_,rfl,.flat rfl,-1,rfl,rX h1⟩
  ·exact⟨.inr rfl,_,rfl,.flat rfl,-1,rfl,rX h1⟩
  ·have d:=bX (by assumption:ltI (Int.ofNat i) (Int.ofNat l.length)=true)
   have h0:=kE (by assumption:(!ltI b 0)=true);have a2:=me (by assumption:ltI 300 (Int.ofNat (cE l i).name.size)=false);have Z:=me (by assumption:ltI 300 (Int.ofNat (cE l i).text.size)=false);have U:=ltb d;have C:=tJ U;have D:=dZ (cE l i);have I:=ja d;obtain⟨o1,o2,o3⟩:=(w ⟨d,h0⟩).2;have hi2:i<9223372036854775807:=by omega
   clear w;refine az (cS (l:=fr38s l (cE l i) u i 0) KT rfl) ?_;refine aA (cE l i).segs.length (λk x h=>(∃a:Int,x=fr38s l (cE l i) a i k/\-1<=a/\(k:Int)<=u-a/\(0<=a->(bS (sgL ((cE l i).segs.take k)):Int)<=1000*(u-a)))/\h=H0) ?_ (i:=0) (Nat.zero_le _) ⟨⟨u,rfl,o2,by simp,λ_=>by simp [sgL,bS]⟩,rfl⟩;rintro k _ _ hk ⟨⟨a,rfl,p1,p2,B⟩,rfl⟩;have Q:k<9223372036854775807:=by omega
   obtain⟨t,o⟩:=R.two (p:=k<(cE l i).segs.length/\0<=a) (cG (cE l i).segs k).val (cG (cE l i).segs k).size a λh=>by
    have:=DU (ltb h.1);have:=lR (cG (cE l i).segs k);omega
   have px:=BO (cG (cE l i).segs k).val (cG (cE l i).segs k).size;obtain⟨r3,c3,a3,a1,E⟩:=R.cl (cE l i).clauses (by omega) a (by omega) (by omega);obtain⟨T,c4,O,P,F⟩:=R.cl (cE l i).catches (by omega) r3 (by omega) (by omega);obtain⟨r5,c5,a4,a0,y⟩:=R.sm (cE l i).body (by omega) T (by omega) (by omega);obtain⟨L,c6,W,n,G⟩:=R.sm (cE l i).after (by omega) r5 (by omega) (by omega)
   repeat' (first
    |(refine WLg.mk ?_;first
    |refine ac ?_|refine av rfl rfl (ce Hy) rfl ?_|refine ap rfl rfl (iS Hy rfl) rfl ?_|refine au ?_)
    |(show WX _ _ _ _ _ _ _ _ _ _;first
    |refine aH ?_|refine aU rfl rfl (ce Hy) rfl ?_|refine aQ rfl rfl (dC Hy rfl) rfl ?_|refine aQ rfl rfl (dc Hy rfl) rfl ?_|refine aM ?_|refine bC (cl:=exO (cG (cE l i).segs k).val++(exO (cG (cE l i).segs k).size++[])) rfl rfl rfl rfl rfl rfl px rfl ?_|refine WX.pcall rfl rfl rfl ((o ⟨bX Hy,kE Hy⟩).1) .none rfl ?_|refine aR c3 ?_|refine aR c4 ?_|refine aR c5 ?_|refine aR c6 ?_|refine aO (by repeat' (first|exact bR.nil|refine bR.any (λh=>rfl) ?_|refine bR.first rfl ?_|refine bR.first (dC Hy rfl) ?_|refine bR.snd (dC Hy rfl) ?_|refine bR.any (λh=>dC Hy rfl) ?_|refine bR.first (dc Hy rfl) ?_|refine bR.snd (dc Hy rfl) ?_|refine bR.any (λh=>dc Hy rfl) ?_|refine bR.first (iS Hy rfl) ?_|refine bR.snd (iS Hy rfl) ?_|refine bR.any (λh=>iS Hy rfl) ?_|refine bR.each (.cons rfl .nil) ?_|refine bR.each (.cons rfl (.cons rfl .nil)) ?_|refine bR.each (.cons rfl (.cons rfl (.cons rfl .nil))) ?_)) ?_)|apply ab|refine aj rfl ?_|refine aB rfl rfl ?_|refine aC rfl (λf=>?_) (λf=>?_)|apply ae|apply aa|apply ai|apply ak|refine aD rfl ?_|refine ah rfl (λf=>?_) (λf=>?_)|apply ax|apply am|refine aP ?_|apply thN|apply thR|apply thE|apply onR|apply onE|fail)
   ·exact⟨.inr rfl,_,rfl,.flat rfl,-1,rfl,rX h1⟩
   ·rename_i N M
    have e:=bX N;obtain⟨a6,z,j⟩:=(o ⟨e,kE M⟩).2;have a5:=me f;have V:=sI e;have Y:=lR (cG (cE l i).segs k);have S:t<=a-1:=by
     rcases (by omega:t= -1\/0<=t)with q|q
     ·have:=kE M;omega
     ·have:=j q;omega
    exact .norm ⟨_,_,cS KI rfl,e,⟨t,rfl,z,by omega,λh=>by have:=j h;have:=B (by omega);omega⟩,rfl⟩
   ·have hc:¬0<=a:=te f
    exact .norm ⟨_,_,cS KI rfl,d,⟨L,rfl,n,by omega,λh=>by omega⟩,rfl⟩
   ·have A:k=(cE l i).segs.length:=by have:=cC f;omega
    rw [A,List.take_length]at B;exact .norm ⟨_,_,cS KI rfl,d,⟨L,rfl,n,by omega,λh=>by have:=G h;have:=y (by omega);have:=F (by omega);have:=E (by omega);have:=B (by omega);have:=o3 (by omega);have:=q3 (by omega);omega⟩,rfl⟩
  ·have hc:¬0<=b:=te Hy
   exact⟨.inr rfl,_,rfl,.flat rfl,b,rfl,pC (g:=λi=>bS (exL (l.take i))+350*i) (λq=>hc q.2) hi J K (λq=>by have:=q3 q;omega) (by rw [List.take_length])⟩
  ·have hc:=cC (by assumption:ltI (Int.ofNat i) (Int.ofNat l.length)=false)
   exact⟨.inr rfl,_,rfl,.flat rfl,b,rfl,pC (g:=λi=>bS (exL (l.take i))+350*i) (λq=>by have:=q.1;omega) hi J K (λq=>by have:=q3 q;omega) (by rw [List.take_length])⟩
 exact⟨r,c,ok⟩
theorem oZ:∀s,Sz s
 |0=>⟨λ_ h=>absurd h (by omega),λ_ h=>absurd h (by omega),λ_ h=>absurd h (by omega)⟩
 |s+1=>⟨λl hl m h1 h2=>DN (oZ s) l hl m h1 h2,λl hl m h1 h2=>DO (oZ s) l hl m h1 h2,λl hl m h1 h2=>DM (oZ s) l hl m h1 h2⟩
end
end Ev
end Go.Proofs.YtdfphfdnoobikaaGreatDoor
