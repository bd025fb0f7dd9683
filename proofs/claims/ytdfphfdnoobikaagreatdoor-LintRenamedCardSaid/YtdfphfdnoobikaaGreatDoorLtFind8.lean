/-
  The finder as a whole:the list of what is free.
-/
import Derived.Test.YtdfphfdnoobikaaGreatDoorLtFind4
import Derived.Test.YtdfphfdnoobikaaGreatDoorLtRn1
namespace Go.Proofs.YtdfphfdnoobikaaGreatDoor
namespace Ev
section
theorem zD{E:En}{T:Ty}{g:G}{h:H}{w:World}(r:@WR E T g h w){n:Nat}{tr:Tr V}(b0:h.blk 0=some (.ro n tr)){j l d:Nat}(u:Up h j l d):l=0->False:=by
 induction u with
 |one e k=>
  rintro rfl;obtain⟨b,up,a,k',_⟩:=@WR.kids E _ _ _ _ r _ _ _ _ _ e k;rw [b0]at a;cases a;cases k'
 |step e k u ih=>exact ih
theorem FX{es:Nat}{h:H}{f:F}{t:Nat}{v:V}{cs:List V}(b0:h.blk 0=some (.ro 256 d3))(gl:GL es h v cs)(px:∀c,c∈cs->bY c)(e:lk f.loc t=some v):∃n,cs.length=n*es/\fy TP Kp f h ⟨[(t,.lst n es cs)],[]⟩ H0:=by
 have r:∀i,cY lp0 i->i=0:=λi ⟨b,e⟩=>by
  cases i with
  |zero=>rfl
  |succ i=>cases e
 have z:∀Z:Nat->Option (List V),(∀k cs,Z k=some cs->∃t up ch,h.blk k=some (.cells cs.length t up ch)/\∀j v,cs[j]? =some v->t.get j=some v)->(∀k cs,Z k=some cs->0≠k/\(∀d,¬Up h 0 k d)/\∀d,¬Up h k 0 d)->Vw TP h lp0 (λi=>i) Z:=λZ hz K=>by
  refine⟨l8.len,λi G e=>?_,λi j _ _ e=>e,λi j d hi _=>?_,(λk cs e _=>hz k cs e),λk cs i e hi=>?_,λq L=>⟨rfl,l8.all q L⟩⟩
  ·obtain rfl:=r i ⟨_,e⟩
   obtain rfl:Blk.ro 256 d3=G:=by cases e;rfl
   exact⟨_,b0,.ro λj v e=>.flat (eX fD (by rw [ig];unfold bZ;omega) e)⟩
  ·rw [r i hi]
   exact d9 b0
  ·rw [r i hi]
   exact K k cs e
 have C:∀id,Kp id->cY lp0 id/\(λi:Nat=>i) id=id:=λid h=>by obtain rfl:id=0:=h;exact⟨⟨_,rfl⟩,rfl⟩
 cases gl with
 |none0=>
  refine⟨0,(Nat.zero_mul _).symm,?_⟩;intro m N E0 g0 w0 E g w tmps s fr;obtain⟨A,B,D,l,y⟩:=(z (λ_=>none) (λk cs e=>by cases e) (λk cs e=>by cases e)).view C (.inl λ_=>rfl) (f1:=f) (f':=⟨[(t,.nils)],[]⟩) ⟨λp a=>by
   obtain rfl:=List.mem_singleton.1 a;exact⟨_,e,.pure (.flat rfl)⟩,λp a=>by cases a⟩ m N E0 g0 w0 E g w tmps s fr
  refine⟨A,B,D,⟨l.1,λi v h=>?_⟩,y⟩;unfold rdn at h
  split at h
  ·rename_i o
   have h:lk [(t,V.lst 0 es [])] i=some v:=h
   by_cases q:t=i
   ·subst q
    have h2:lk [(t,V.lst 0 es [])] t=some (V.lst 0 es []):=by rw [@dJ noE,if_pos rfl]
    obtain rfl:V.lst 0 es []=v:=Option.some.inj (h2.symm.trans h);obtain⟨u,y,J⟩:=l.2 t .nils (by unfold rdn;rw [if_pos o];show lk [(t,V.nils)] t=_;rw [@dJ noE,if_pos rfl]);refine⟨u,y,?_⟩;cases J;exact @VR.lst0 A B es
   ·rw [@dJ noE,if_neg q]at h
    cases h
  ·cases h
 |@full b n tr up ch cs o hc hn hl at_ lt=>
  refine⟨n,hl,?_⟩;intro m N E0 g0 w0 E g w tmps s fr;have x:0≠b:=λq=>by rw [<-q,b0]at o;cases o
  refine(z (λj=>if j=b then some cs else none) (λk cs' e=>?_) (λk cs' e=>?_)).view C (.inr pn) (f1:=f) (f':=⟨[(t,.lst n es cs)],[]⟩) ⟨λp a=>?_,λp a=>by cases a⟩ m N E0 g0 w0 E g w tmps s fr
  ·by_cases q:k=b
   ·subst q
    rw [if_pos rfl]at e;cases e;exact⟨_,_,_,by rw [hl];exact o,λi v I=>at_ i v I⟩
   ·rw [if_neg q]at e;cases e
  ·by_cases q:k=b
   ·subst q
    exact⟨x,λd=>d9 b0,λd u=>zD s.sit.wr b0 u rfl⟩
   ·rw [if_neg q]at e;cases e
  ·obtain rfl:=List.mem_singleton.1 a
   exact⟨_,e,.fzs (k:=b) (by rw [if_pos rfl]) hl (RnL.pure px)⟩
theorem BT{f:FuncId} {fn:Func} {cf:CF} (hfn:Tryz.prog.funcs[f]? =some fn) (hnm:fn.name≠ "runtime.NumGoroutine") (hcf:ci TP fn=some cf) {vs:List V} (hlen:vs.length=cf.params) (hvs:∀v,v∈vs->bY v) {t:Nat} (hres:cf.results=[.tmp (.l t)]) {es:Nat} {Q:List V->Prop} {loc:AL} (hn:mY vs 0=some loc)
  (k:WC Tryz.prog TP Kp ft 1 cf.code loc H0 λx loc h=>(x= .norm\/x= .ret)/\∃v cs,lk loc t=some v/\h.blk 0=some (.ro 256 d3)/\GL es h v cs/\(∀c,c∈cs->bY c)/\Q cs):∃n cs,Q cs/\cs.length=n*es/\CP f vs (.lst n es cs):=by
 have hW:W Tryz.prog TP Kp ft 1 cf.code ⟨d8 vs 0,[]⟩ H0 λx f1 h1=>(x= .norm\/x= .ret)/\∃l,ip f1 h1 cf.results=some l/\bY (dq l)/\∃n cs,dq l= .lst n es cs/\cs.length=n*es/\Q cs:=by
  rw [pD hn];refine W.viewX (W.mono k.out λx f1 h1 q=>?_);obtain⟨_,q1,v,cs,q2,q3,q4,q5,q6⟩:=q;obtain⟨n,e1,vw⟩:=FX q3 q4 q5 q2;refine⟨_,_,vw,q1,[.lst n es cs],?_,.lst q5,n,cs,rfl,e1,q6⟩;rw [hres];show ob (lk [(t,V.lst n es cs)] t) (λv=>ob (some []) λvs=>some (v ::vs))=_;rw [@dJ noE,if_pos rfl];rfl
 obtain⟨v,c,n,cs,rfl,e1,q⟩:=sf (R:=λv=>∃n cs,v= .lst n es cs/\cs.length=n*es/\Q cs) hfn hnm hcf hlen hvs hW;exact⟨n,cs,q,e1,c⟩
theorem nQ(n c:Nat):cJ n c n c=true:=by
 unfold cJ;rw [Nat.beq_refl,Nat.beq_refl]
theorem lN{n c m e:Nat}(h:cJ n c m e=true):n=m/\c=e:=by
 unfold cJ at h;cases q:Nat.beq n m with
 |false=>rw [q]at h;cases h
 |true=>rw [q]at h;exact⟨Nat.eq_of_beq_eq_true q,Nat.eq_of_beq_eq_true h⟩
theorem ze(n c m e:Nat):cJ n c m e=cJ m e n c:=by
 cases p:cJ n c m e with
 |true=>
  obtain⟨rfl,rfl⟩:=lN p;exact(nQ _ _).symm
 |false=>
  cases a:cJ m e n c with
  |false=>rfl
  |true=>
   obtain⟨rfl,rfl⟩:=lN a;rw [nQ]at p;cases p
theorem Eh{n c:Nat}:∀{es:List (V×V)},xG es->∃es',(∀h,oG h (.one .s) (.str n c) (.bool true) es=some es')/\xG es'/\∀m e,lkE es' m e=(cJ m e n c||lkE es m e)
 |[],_=>⟨[(.str n c,.bool true)],λ_=>rfl,λe he=>by rw [List.mem_singleton.1 he];exact⟨⟨_,_,rfl⟩,_,rfl⟩,λm e=>by
  show(if cJ m e n c then true else false)=(cJ m e n c||false)
  cases cJ m e n c<;>rfl⟩
 |p ::es,k=>by
  obtain⟨r,q1,q2,q3⟩:=Eh (n:=n) (c:=c) (es:=es) λe he=>k e (List.mem_cons_of_mem _ he);obtain⟨⟨m,d,e1⟩,b2,e2⟩:=k p List.mem_cons_self;obtain⟨a,z⟩:=p;subst e1 e2;cases q:cJ n c m d with
  |false=>
   refine⟨(.str m d,.bool b2) ::r,λh=>?_,λe he=>?_,λm2 e2=>?_⟩
   ·show ob (some (cJ n c m d)) (λb'=>Bool.rec (motive:=λ_=>Option (List (V×V))) (ob (oG h (.one .s) (.str n c) (.bool true) es) λr=>some ((.str m d,.bool b2) ::r)) (some ((.str n c,.bool true) ::es)) b')=_
    rw [q,q1];rfl
   ·rcases List.mem_cons.1 he with rfl|he
    ·exact⟨⟨_,_,rfl⟩,_,rfl⟩
    ·exact q2 e he
   ·show(if cJ m2 e2 m d then b2 else lkE r m2 e2)=(cJ m2 e2 n c||(if cJ m2 e2 m d then b2 else lkE es m2 e2))
    rw [q3];cases q4:cJ m2 e2 m d with
    |false=>rfl
    |true=>
     obtain⟨rfl,rfl⟩:=lN q4;rw [ze,q];rfl
  |true=>
   refine⟨(.str n c,.bool true) ::es,λh=>?_,λe he=>?_,λm2 e2=>?_⟩
   ·show ob (some (cJ n c m d)) (λb'=>Bool.rec (motive:=λ_=>Option (List (V×V))) (ob (oG h (.one .s) (.str n c) (.bool true) es) λr=>some ((.str m d,.bool b2) ::r)) (some ((.str n c,.bool true) ::es)) b')=_
    rw [q];rfl
   ·rcases List.mem_cons.1 he with rfl|he
    ·exact⟨⟨_,_,rfl⟩,_,rfl⟩
    ·exact k e (List.mem_cons_of_mem _ he)
   ·obtain⟨rfl,rfl⟩:=lN q
    show(if cJ m2 e2 n c then true else lkE es m2 e2)=(cJ m2 e2 n c||(if cJ m2 e2 n c then b2 else lkE es m2 e2))
    cases cJ m2 e2 n c<;>rfl
theorem FsI.mapup{es:List (V×V)}{cs:List V}{h:H}(s:FsI es cs h)(n c:Nat):∃es' h',EOp.run (.mapup (.one .s)) [.map 1,.str n c,.bool true] h=some (cT,h')/\FsI es' cs h'/\h'.next=h.next/\∀m e,lkE es' m e=(cJ m e n c||lkE es m e):=by
 obtain⟨o,d⟩:=s.b1;obtain⟨tr,v,l,t0,g,gl,hs,p⟩:=s.b2;obtain⟨es',f,k,i⟩:=Eh (n:=n) (c:=c) s.map;have a:∀j,(⟨h.t.put 1 (some (.map es' (h.ord 1))),h.next⟩:H).blk j=if j=1 then some (.map es' (h.ord 1))else h.blk j:=λj=>gO (by unfold bZ;omega)
 refine⟨es',⟨h.t.put 1 (some (.map es' (h.ord 1))),h.next⟩,?_,⟨k,by rw [a,if_neg (by decide)];exact s.b0,⟨_,by rw [a,if_pos rfl]⟩,⟨tr,v,by rw [a,if_neg (by decide)];exact l,t0,g,gl.mono (Nat.le_refl _) λb n q _=>?_,hs,p⟩,s.le⟩,rfl,i⟩
 ·show oif true (ob (ob (h.blk 1) _) _)=_
  rw [d];show ob (oG h (.one .s) (.str n c) (.bool true) es) _=_;rw [f];rfl
 ·rw [a,if_neg]
  rintro rfl;subst q;cases gl with
  |full hb=>rw [d]at hb;cases hb
noncomputable section
def okX(x:Ex):Bool:=dn x && !((wL 1 x||ltI 4000 (Int.ofNat (wN x)))||ltI 1000 (Int.ofNat (wF x)))
def mS(x:Ex)(ss:List V):List V:=if eqI x.kind 13 then(if okX x then th (gZ ss) (exD (gZ ss) B6) x.clauses (λ_ _=>false) []else [])else []
end
theorem f165{x:Ex}(y:bS (exO x)<=6000000):∃k,CP 165 [.agg (exO x)] (.int .i64 k)/\eqI k 0=okX x:=by
 have g:HSv 0 0 false ⟨H0.t.put 1 (some (.cells 3 (cM (svC 0 0 false) 0 .e) none false)),Nat.succ 1⟩:=⟨rfl,⟨_,rfl,rfl,rfl,rfl⟩,rfl,rfl⟩
 obtain⟨h',n',f',l,c,e,h,o⟩:=Dt (y7 6000001 (Nat.le_refl _)) (x:=x) (by omega) (d:=1) (by omega) (by omega) (by omega) g;obtain⟨tr,a,t0,r,t2⟩:=h.b1;have m:ROp.run (.load false 1) [.ptr 1 0] h'=some (.int .i64 (Int.ofNat n')):=dI a t0 (by decide);have n:ROp.run (.load false 1) [.ptr 1 1] h'=some (.int .i64 (Int.ofNat f')):=dI a r (by decide);have p:ROp.run (.load false 1) [.ptr 1 2] h'=some (.bool l):=dI a t2 (by decide);have j:okX x=(dn x && !((l||ltI 4000 (Int.ofNat n'))||ltI 1000 (Int.ofNat f'))):=by
  unfold okX;cases q:dn x with
  |false=>rfl
  |true=>
   obtain⟨a,u,s⟩:=o q;rw [a,u,s,Nat.zero_add,Nat.zero_add,Bool.false_or]
 obtain⟨v,c,k,rfl,w⟩:∃v,CP 165 [.agg (exO x)] v/\∃k,v= .int .i64 k/\eqI k 0=okX x:=by
  rw [j];clear o j;generalize dn x=wb at c;refine eF Tryz.func165 (by decide) Ld.2 rfl (cg (pxe x) px0) rfl ?_
  repeat' (first
   |(refine WLg.mk ?_;first
   |refine ac ?_|refine ap rfl rfl m rfl ?_|refine ap rfl rfl n rfl ?_|refine ap rfl rfl p rfl ?_|refine au ?_|refine aI (t:=H0.t) (k:=1) (vs:=[.agg (svC 0 0 false)]) (b:= .cells 3 (cM (svC 0 0 false) 0 .e) none false) (mk:=λi=>.ptr i 0) rfl rfl rfl rfl rfl ?_|refine aE ?_|refine aw c ?_)|apply ab|refine aj rfl ?_|refine aB rfl rfl ?_|refine aC rfl (λf=>?_) (λf=>?_)|apply ae|apply aa|apply ai|apply ak|refine aF rfl ?_|refine ah rfl (λf=>?_) (λf=>?_)|apply am|apply thN|apply thR|fail)
  all_goals exact⟨.inr rfl,_,rfl,.flat rfl,_,rfl,by simp only [Bool.not_eq_true',Bool.not_eq_false']at*;simp only [*,Bool.true_and,Bool.false_and,Bool.true_or,Bool.or_true,Bool.or_false,Bool.not_true,Bool.not_false];rfl⟩
 exact⟨k,c,w⟩
noncomputable section
def fr160(x:Ex)(ss:List V)(i:Nat):AL:=[(2,.eptr (exO x) 0),(5,.ptr 2 0),(19,.lst ss.length 1 ss),(20,.int .i64 (Int.ofNat ss.length)),(21,.int .i64 (Int.ofNat i))]
end
theorem JF{a:List V}{i:Nat}{v:V}(h:a[i]? =some v):gq a (Nat.mul i 1) [v]:=by
 have b:=(List.getElem?_eq_some_iff.1 h).1;have e:a=a.take i++([v]++a.drop (i+1)):=by
  have q:=(List.getElem?_eq_some_iff.1 h).2;rw [<-q,List.singleton_append,<-List.drop_eq_getElem_cons b,List.take_append_drop]
 exact .of e (by rw [List.length_take];show min i a.length=i*1;omega)
theorem EN{a:List V}{i m d:Nat}(b:a[i]? =some (.str m d))(n c:Nat):gZ (a.take (i+1)) n c=(cJ n c m d||gZ (a.take i) n c):=by
 rw [List.take_add_one,b];show(a.take i++[V.str m d]).any (eqV n c)=_;rw [List.any_append,Bool.or_comm];show((cJ n c m d||false)||_)=_;rw [Bool.or_false];rfl
set_option maxHeartbeats 6400000 in
theorem f160{x:Ex}(M:bS (exO x)<=6000000){a:List V}(hs:xn a)(T:a.length<=6000000):CP 160 [.agg (exO x),.lst a.length 1 a] (.lst (mS x a).length 1 (mS x a)):=by
 have w:∀{cs:List V},xn cs->∀c,c∈cs->bY c:=λh c hc=>by
  obtain⟨n,d,rfl⟩:=h c hc;exact .flat rfl
 have D:xn []:=λc hc=>by cases hc
 obtain⟨k,r,E⟩:=f165 M;have F:=dZ x;obtain⟨n,cs,rfl,P,q3⟩:∃n cs,cs=mS x a/\cs.length=n*1/\CP 160 [.agg (exO x),.lst a.length 1 a] (.lst n 1 cs):=by
  refine BT (t:=4) (Q:=λcs=>cs=mS x a) Tryz.func160 (by decide) Lh.2 rfl (cg (pxe x) (cg (.lst (w hs)) px0)) rfl rfl ?_
  repeat' (first
   |(refine WLg.mk ?_;first
   |refine ac ?_|refine au ?_|refine aI (t:=H0.t) (k:=1) (vs:=[]) (b:= .map [] true) (mk:=λi=>.map i) rfl rfl rfl rfl rfl ?_|refine aI (t:=H0.t.put 1 (some (.map [] true))) (k:=2) (vs:=[.agg [.map 1,.nils]]) (b:= .cells 2 (cM [.map 1,.nils] 0 .e) none false) (mk:=λi=>.ptr i 0) rfl rfl rfl rfl rfl ?_|refine aE ?_|refine ay r ?_)|apply ab|refine aj rfl ?_|refine aB rfl rfl ?_|refine aC rfl (λo=>?_) (λo=>?_)|apply ae|apply aa|apply ai|apply ak|refine aF rfl ?_|refine ah rfl (λo=>?_) (λo=>?_)|apply am|apply thN|apply thR|fail)
  all_goals try (exact⟨.inr rfl,_,_,rfl,rfl,.none0,w D,(by unfold mS;rw [<-E];split<;>(try split)<;>first|rfl|(exfalso;simp_all;done))⟩)
  have g:mS x a=th (gZ a) (exD (gZ a) B6) x.clauses (λ_ _=>false) []:=(by unfold mS;rw [<-E];split<;>(try split)<;>first|rfl|(exfalso;simp_all;done))
  refine az (cA (l:=fr160 x a 0) KH) ?_;refine aA a.length (λi l h1=>l=fr160 x a i/\∃es,FsI es [] h1/\h1.next=3/\lkE es=gZ (a.take i)) ?_ (i:=0) (Nat.zero_le _) ⟨rfl,[],⟨(λe I=>by cases I),rfl,⟨true,rfl⟩,⟨_,.nils,rfl,rfl,rfl,.none0,D,Nat.zero_le _⟩,by decide⟩,rfl,rfl⟩;rintro i _ L hi ⟨rfl,es,fs,nx,f⟩;have hi2:i<9223372036854775807:=by omega
  cases q:Nat.blt i a.length with
  |false=>
   have A:i=a.length:=by have:=cC q;omega
   rw [A,List.take_length]at f;obtain⟨hz,cz,fz⟩:=f166 (vp es B6 kY) kY (l:=x.clauses) (mr (by omega)) fs KL (by omega);rw [f,<-g]at fz;obtain⟨tr,v,z,t0,C,gl,s,y⟩:=fz.fs.b2;have G:ROp.run (.load false 1) [.ptr 2 1] hz=some v:=dI z C (by decide)
   repeat' (first
    |(refine WLg.mk ?_;first
    |refine ac ?_|refine av rfl rfl (ce Hy) rfl ?_|refine ap rfl rfl G rfl ?_|refine au ?_|refine aw cz ?_)|apply ab|refine aj rfl ?_|apply ae|apply aa|apply ai|apply ak|refine ah rfl (λo=>?_) (λo=>?_)|apply ax|apply am|apply thN|apply thE|apply onE|fail)
   all_goals first
    |exact⟨.inr rfl,_,_,rfl,fz.fs.b0,gl,w s,rfl⟩|exact Nq q
  |true=>
   have p:=bX q;obtain⟨v,u⟩:∃v,a[i]? =some v:=⟨_,List.getElem?_eq_getElem p⟩
   obtain⟨m,d,rfl⟩:=hs v (List.mem_of_getElem? u);have ld:∀h,ROp.run (.load false 1) [.eptr a (Nat.add (Nat.mul i 1) 0)] h=some (.str m d):=λh=>dY (j:=0) (JF u) rfl h;obtain⟨B,R,K,O,S,J⟩:=fs.mapup m d;obtain⟨tr,v,z,t0,C,gl,s,y⟩:=fs.b2;have l0:ROp.run (.load false 1) [.ptr 2 0] L=some (.map 1):=dI z t0 (by decide)
   repeat' (first
    |(refine WLg.mk ?_;first
    |refine ac ?_|refine av rfl rfl (ce Hy) rfl ?_|refine ap rfl rfl (ld _) rfl ?_|refine ap rfl rfl l0 rfl ?_|refine au ?_|refine aK rfl rfl K rfl ?_)|apply ab|refine aj rfl ?_|apply ae|apply aa|apply ai|apply ak|refine ah rfl (λo=>?_) (λo=>?_)|apply ax|apply thN|apply thE|apply onE|fail)
   all_goals first
    |exact .norm ⟨_,_,cA KH,p,rfl,B,O,by omega,funext λn=>funext λc=>by rw [J,f,EN u]⟩|exact Nr q
 rw [show(mS x a).length=n by omega];exact q3
end
section
def qc(n c:Nat):Nat:=c+81*256 ^ n
noncomputable def qV:V->V
 |.str n c=>.str (n+1) (qc n c)
 |v=>v
theorem nT(b:ByteArray):(qn b).size=b.size+1:=ByteArray.size_push
theorem Gv(b:ByteArray):(qn b).data.toList=b.data.toList++[81]:=by
 show(b.data.push 81).toList=_;rw [Array.toList_push]
theorem sP(b:ByteArray):ck (qn b).data.toList=qc b.size (ck b.data.toList):=by
 rw [Gv,mE];show _+(81+256*0)*256 ^ b.data.toList.length=_;rw [Array.length_toList];rfl
theorem JN(b:ByteArray):sV (qn b)=qV (sV b):=by
 show V.str _ _=V.str _ _;rw [nT,sP]
theorem zt{a b:ByteArray}:(qn a=qn b)=(a=b):=by
 refine propext ⟨λh=>?_,λh=>congrArg qn h⟩;have h1:a.data.push 81=b.data.push 81:=congrArg ByteArray.data h;have h2:a.data=b.data:=Array.push_inj_left.1 h1;cases a;cases b;exact congrArg ByteArray.mk h2
theorem A4(n c m e:Nat):cJ (n+1) (qc n c) (m+1) (qc m e)=cJ n c m e:=by
 cases q:cJ n c m e with
 |true=>
  obtain⟨rfl,rfl⟩:=lN q;exact nQ _ _
 |false=>
  cases p:cJ (n+1) (qc n c) (m+1) (qc m e)with
  |false=>rfl
  |true=>
   obtain⟨h1,h2⟩:=lN p;obtain rfl:n=m:=by omega
   obtain rfl:c=e:=by unfold qc at h2;omega
   rw [nQ]at q;cases q
theorem Kv(n c:Nat)(v:V):eqV (n+1) (qc n c) (qV v)=eqV n c v:=by
 cases v with
 |str m e=>exact A4 n c m e
 |_=>rfl
theorem HZ(cs:List V)(n c:Nat):gZ (cs.map qV) (n+1) (qc n c)=gZ cs n c:=by
 unfold gZ;rw [List.any_map];exact congrArg (λp=>cs.any p) (funext λv=>Kv n c v)
def Rd(d d':Dp):Prop:=∀n c,d' (n+1) (qc n c)=d n c
def RcV(cs cs':List V):Prop:=cs'=cs.map qV
def Rs(st st':St2):Prop:=Rd st.1 st'.1/\st'.2=st.2.map qV
theorem Hv{d d':Dp}(h:Rd d d')(n c:Nat):Rd (uh d n c) (uh d' (n+1) (qc n c)):=λm e=>by
 unfold uh;rw [A4,h]
theorem Ea{o o' d d':Dp}(ho:Rd o o')(hd:Rd d d')(n c:Nat)(cs:List V):qu o' d' (n+1) (qc n c) (cs.map qV)=(qu o d n c cs).map qV:=by
 unfold qu;rw [ho,hd,HZ]
 split
 ·rfl
 ·split
  ·split
   ·rfl
   ·rw [List.map_append];rfl
  ·rfl
theorem wu{S S':Type}{R:S->S'->Prop}{F:S->Ex->S}{F':S'->Ex->S'}:∀(L:List Ex) (_:∀y,y∈L->∀s s',R s s'->R (F s y) (F' s' (ren y))) {s:S} {s':S'},R s s'->R (L.foldl F s) ((L.map ren).foldl F' s')
 |[],_,_,_,r=>r
 |y ::L,h,_,_,r=>wu L (λz hz=>h z (List.mem_cons_of_mem _ hz)) (h y List.mem_cons_self _ _ r)
theorem eD{S S':Type}{R:S->S'->Prop}{f:Nat->S->S}{f':Nat->S'->S'}{s:S}{s':S'}(r:R s s'):∀{n:Nat},(∀i,i<n->∀s s',R s s'->R (f i s) (f' i s'))->R (cB f s n) (cB f' s' n)
 |0,_=>r
 |n+1,h=>h n (Nat.lt_succ_self n) _ _ (eD r λi hi=>h i (Nat.lt_succ_of_lt hi))
theorem li{x:Ex}(k:eqI x.kind 3=true):(ren x).name=qn x.name:=by rw [iD,if_pos k]
theorem JE{o o' d d':Dp}(ho:Rd o o')(hd:Rd d d'):∀(k:Nat) (x:Ex) (cs cs':List V),cs'=cs.map qV->szD o' d' k (ren x) cs'=(szD o d k x cs).map qV
 |0,_,_,_,h=>h
 |k+1,x,cs,_,rfl=>by
  unfold szD;rw [jH,di];refine wu (R:=RcV) (F:=λcs y=>szD o d k y cs) (F':=λcs y=>szD o' d' k y cs) (df x) (λy _ s s' r=>JE ho hd k y s s' r) ?_;cases q:eqI x.kind 3 with
  |true=>rw [if_pos rfl,if_pos rfl,li q,nT,sP];exact Ea ho hd _ _ _
  |false=>rfl
theorem xz{l:List Sm}{i:Nat}(h:i<l.length):cK (fm l) i=iq (cK l i):=by
 unfold cK;rw [lW,List.getElem?_map,List.getElem?_eq_getElem h];rfl
theorem pi{l:List Sg}{i:Nat}(h:i<l.length):cG (gX l) i=dB (cG l i):=by
 unfold cG;rw [lV,List.getElem?_map,List.getElem?_eq_getElem h];rfl
theorem yu{l:List (List Ex)}{i:Nat}(h:i<l.length):dm (iU l) i=eH (dm l i):=by
 unfold dm;rw [lX,List.getElem?_map,List.getElem?_eq_getElem h];rfl
section
variable {S S':Type} {R:S->S'->Prop} {oF:Nat->Nat->S->S} {zF:Ex->S->S} {oF':Nat->Nat->S'->S'} {zF':Ex->S'->S'}
theorem DC(ho:∀n c s s',R s s'->R (oF n c s) (oF' (n+1) (qc n c) s'))(hz:∀y s s',R s s'->R (zF y s) (zF' (ren y) s')):∀(k:Nat) (x:Ex) (s:S) (s':S'),R s s'->R (vaD oF zF k x s) (vaD oF' zF' k (ren x) s')
 |0,_,_,_,r=>r
 |k+1,x,s,s',r=>by
  unfold vaD;rw [jH,di,fY,gH];cases q:eqI x.kind 3 with
  |true=>rw [if_pos rfl,if_pos rfl,li q,nT,sP];exact ho _ _ _ _ r
  |false=>
   show R (if eqI x.kind 8 then _ else _) (if eqI x.kind 8 then _ else _);cases q8:eqI x.kind 8 with
   |true=>
    rw [if_pos rfl,if_pos rfl];refine eD r λi hi s s' r=>?_;rw [pi hi];have e:R (if eqI (cG x.segs i).type 4 then s else vaD oF zF k (cG x.segs i).val s) (if eqI (cG x.segs i).type 4 then s' else vaD oF' zF' k (ren (cG x.segs i).val) s'):=by
     split
     ·exact r
     ·exact DC ho hz k _ _ _ r
    unfold sgV;rw [lS,lh,nr,mB];cases(cG x.segs i).sized with
    |true=>exact hz _ _ _ e
    |false=>exact e
   |false=>
    exact wu (F:=λst y=>vaD oF zF k y st) (F':=λst y=>vaD oF' zF' k y st) (df x) (λy _ s s' r=>DC ho hz k y s s' r) r
end
section
variable {o o':Dp} (ho:Rd o o')
include ho
theorem IT(n c:Nat)(s s':St2)(r:Rs s s'):Rs (sU o n c s) (sU o' (n+1) (qc n c) s'):=by
 obtain⟨d,cs⟩:=s;obtain⟨d',cs'⟩:=s';obtain⟨a,b⟩:=r;have a:Rd d d':=a;have b:cs'=cs.map qV:=b;subst b;have e:d' (n+1) (qc n c)=d n c:=a n c;unfold sU;show Rs (if d n c then(d,cs)else if o n c then(d,qu o d n c cs)else(uh d n c,cs)) (if d' (n+1) (qc n c)then(d',cs.map qV)else if o' (n+1) (qc n c)then(d',qu o' d' (n+1) (qc n c) (cs.map qV))else(uh d' (n+1) (qc n c),cs.map qV));rw [e,ho]
 split
 ·exact⟨a,rfl⟩
 ·split
  ·exact⟨a,Ea ho a n c cs⟩
  ·exact⟨Hv a n c,rfl⟩
theorem DS(y:Ex)(s s':St2)(r:Rs s s'):Rs (sG o y s) (sG o' (ren y) s'):=⟨r.1,JE ho r.1 B6 y _ _ r.2⟩
theorem HR(x:Ex)(s s':St2)(r:Rs s s'):Rs (oH o x s) (oH o' (ren x) s'):=DC (IT ho) (DS ho) B6 x s s' r
end
theorem IS(n c:Nat)(s s':St2)(r:Rs s s'):Rs (xV n c s) (xV (n+1) (qc n c) s'):=⟨Hv r.1 n c,r.2⟩
def EQ(E E':XD):Prop:=∀d d' x cs cs',Rd d d'->RcV cs cs'->RcV (E d x cs) (E' d' (ren x) cs')
section
variable {o o':Dp} (ho:Rd o o') {E E':XD} (e:EQ E E') {d d':Dp} (hd:Rd d d') {cs cs':List V} (hc:RcV cs cs')
include ho e hd hc
theorem wA(l:List Ex):RcV (mT E l d cs) (mT E' (eH l) d' cs'):=by
 have _a:=@ho;unfold mT;rw [cZ];exact eD hc λi _ s s' r=>by rw [gL];exact e _ _ _ _ _ hd r
theorem sj(l:List Sm):RcV (ry o E l d cs) (ry o' E' (fm l) d' cs'):=by
 unfold ry;rw [fK];refine(eD (R:=Rs) (s:=(d,cs)) (s':=(d',cs')) ⟨hd,hc⟩ λi hi s s' r=>?_).2;rw [xz hi];unfold sD;rw [nt,qt,sL]
 split
 ·have p:=HR ho (cK l i).pat s s' r
  exact⟨p.1,e _ _ _ _ _ r.1 p.2⟩
 ·exact⟨r.1,e _ _ _ _ _ r.1 r.2⟩
theorem Bl(c:Cl):RcV (uP o E c d cs) (uP o' E' (eU c) d' cs'):=by
 unfold uP;rw [nS,j9,pr];refine sj ho e hd ?_ _;exact eD hc λi hi s s' r=>by rw [yu hi];exact wA ho e hd r _
theorem wR(l:List Cl):RcV (rB o E l d cs) (rB o' E' (dD l) d' cs'):=by
 unfold rB;rw [d5];refine eD hc λi hi s s' r=>?_;rw [kT];unfold yV;rw [gT,cZ];have p:=eD (R:=Rs) (s:=(d,s)) (s':=(d',s')) (f:=λj st=>oH o (cE (bV l i).pats j) st) (f':=λj st=>oH o' (cE (eH (bV l i).pats) j) st) (n:=(bV l i).pats.length) ⟨hd,r⟩ λj _ s s' r=>by rw [gL];exact HR ho _ s s' r
 exact Bl ho e p.1 p.2 _
theorem EE(l:List Cl):RcV (th o E l d cs) (th o' E' (dD l) d' cs'):=by
 unfold th;rw [d5];refine eD hc λi hi s s' r=>?_;rw [kT];unfold yv Jp;rw [gT,cZ];have p:=eD (R:=Rs) (s:=(d,s)) (s':=(d',s')) (f:=λj st=>vaD xV (λ_ st=>st) B6 (cE (bV l i).pats j) st) (f':=λj st=>vaD xV (λ_ st=>st) B6 (cE (eH (bV l i).pats) j) st) (n:=(bV l i).pats.length) ⟨hd,r⟩ λj _ s s' r=>by rw [gL];exact DC IS (λ_ _ _ r=>r) B6 _ s s' r
 have a:=eD (R:=Rs) (f:=λj st=>vaD (λ_ _ st=>st) (sG o) B6 (cE (bV l i).pats j) st) (f':=λj st=>vaD (λ_ _ st=>st) (sG o') B6 (cE (eH (bV l i).pats) j) st) (n:=(bV l i).pats.length) p λj _ s s' r=>by rw [gL];exact DC (λ_ _ _ _ r=>r) (DS ho) B6 _ s s' r
 exact Bl ho e a.1 a.2 _
end
theorem RcV.ite{c:Bool}{a b e d:List V}(h:c=true->RcV a e)(k:RcV b d):RcV (if c then a else b) (if c then e else d):=by
 cases c with
 |true=>exact h rfl
 |false=>exact k
theorem Ks{o o':Dp}(ho:Rd o o'):∀k,EQ (exD o k) (exD o' k)
 |0=>λ_ _ _ _ _ _ h=>h
 |k+1=>λd d' x cs cs' hd hc=>by
  have e:=Ks ho k;unfold exD;rw [di,jH,dP,eG,gQ,iE,dO];refine RcV.ite (λq=>?_) (RcV.ite (λ_=>EE ho e hd hc _) (RcV.ite (λ_=>sj ho e hd (wR ho e hd (wR ho e hd (sj ho e hd (wA ho e hd hc _) _) _) _) _) (RcV.ite (λ_=>sj ho e hd (wA ho e hd (wR ho e hd hc _) _) _) ?_)))
  ·have hc:cs'=cs.map qV:=hc
   subst hc;rw [li q,nT,sP];exact Ea ho hd _ _ _
  ·exact wu (R:=RcV) (F:=λcs y=>exD o k d y cs) (F':=λcs y=>exD o' k d' y cs) (df x) (λy _ s s' r=>e _ _ _ _ _ hd r) hc
theorem I9{x:Ex}(c:okX (ren x)=okX x){b a:List V}(ho:Rd (gZ b) (gZ a)):(mS (ren x) a).length=(mS x b).length:=by
 have h:RcV (th (gZ b) (exD (gZ b) B6) x.clauses (λ_ _=>false) []) (th (gZ a) (exD (gZ a) B6) (dD x.clauses) (λ_ _=>false) []):=EE ho (Ks ho B6) (d:=λ_ _=>false) (d':=λ_ _=>false) (λ_ _=>rfl) (cs:=[]) rfl x.clauses;have h:th (gZ a) (exD (gZ a) B6) (dD x.clauses) (λ_ _=>false) []=(th (gZ b) (exD (gZ b) B6) x.clauses (λ_ _=>false) []).map qV:=h;unfold mS;rw [di,c,dP,h]
 split
 ·split
  ·rw [List.length_map]
  ·rfl
 ·rfl
end
section
theorem oV{k:IntKind}{m:Nat}(h:Nat.blt m (jI k)=true):dA k (Int.ofNat m)=Int.ofNat m:=by
 show(Bool.rec (motive:=λ_=>Int) (lL k (Nat.mod m (iL k))) (Int.ofNat m) (Nat.blt m (jI k)):Int)=Int.ofNat m;rw [h]
noncomputable section
def fr67(a j m:Nat):AL:=[(0,.int .i64 (Int.ofNat a)),(3,.ptr 1 0),(4,.int .i64 (Int.ofNat j)),(5,.int .u64 (Int.ofNat m))]
end
def D20(h:H):Prop:=∃tr,h.blk 1=some (.cells 20 tr none false)/\∀i,i<20->∃d,tr.get i=some (.int .u8 (Int.ofNat d))
theorem D20.rd{tr:Tr V}{n:Nat}(k:∀i,i<n->∃d,tr.get i=some (.int .u8 (Int.ofNat d))):∀z off,off+z<=n->∃l c,lH tr n z off=some l/\jw l=some c
 |0,off,_=>⟨[],0,rfl,rfl⟩
 |z+1,off,h=>by
  obtain⟨l,c,e1,e2⟩:=D20.rd k z (off+1) (by omega);obtain⟨d,e3⟩:=k off (by omega);refine⟨.int .u8 (Int.ofNat d) ::l,Nat.add (Nat.mod d 256) (Nat.mul 256 c),?_,?_⟩
  ·show oif (Nat.blt off n) (ob (tr.get off) λv=>ob (lH tr n z (Nat.succ off)) λr=>some (v ::r))=_
   rw [ltb (by omega),e3,e1];rfl
  ·show ob (jw l) (λr=>some (Nat.add (Nat.mod d 256) (Nat.mul 256 r)))=_
   rw [e2];rfl
theorem D20.b2s{h:H}(d:D20 h){j:Nat}(f:j<20):∃c,ROp.run .b2s [.sl 1 j (20-j) (20-j) true 1] h=some (.str (20-j) c):=by
 obtain⟨tr,e,k⟩:=d;obtain⟨l,c,b,a⟩:=D20.rd k (20-j) j (by omega);refine⟨c,?_⟩;show oif (Nat.beq 1 1) (ob (H.rd h 1 j (20-j)) λl=>ob (jw l) λc=>some (V.str (20-j) c))=_;have:H.rd h 1 j (20-j)=some l:=by
  show ob (ob (h.blk 1) _) _=_;rw [e];exact b
 rw [this];show ob (jw l) _=_;rw [a];rfl
theorem D20.put{h:H}(d:D20 h){j:Nat}(a:j<20)(b:Nat):∃h',EOp.run (.store 1) [.ptr 1 j,.int .u8 (Int.ofNat b)] h=some (cT,h')/\D20 h':=by
 obtain⟨tr,e,k⟩:=d;refine⟨_,iH e rfl rfl a,_,by rw [gO (by unfold bZ;omega),if_pos rfl],λi hi=>?_⟩;rw [Tr.get_put _ _ _ _ (by unfold bZ;omega)]
 split
 ·exact⟨_,rfl⟩
 ·exact k i hi
theorem f99(a:Nat)(d:a<1000000000):CP 99 [.int .i64 (Int.ofNat a)] (.int .u64 (Int.ofNat a)):=by
 have b:POp.run (.bin .lss) [.int .i64 (Int.ofNat a),.int .i64 0]=some (.bool false):=rfl;have c:POp.run (.toInt .u64) [.int .i64 (Int.ofNat a)]=some (.int .u64 (Int.ofNat a)):=by
  show some (V.int .u64 (dA .u64 (Int.ofNat a)))=_;rw [oV (ltb (show a<18446744073709551616 by omega))]
 refine cR Tryz.func99 (by decide) q99.2 rfl (cg (.flat rfl) px0) rfl ?_
 repeat' (first
  |(refine WLg.mk ?_;first
  |refine av rfl rfl b rfl ?_|refine av rfl rfl c rfl ?_|refine ac ?_)|apply ab|refine aj rfl ?_|apply ae|apply aa|apply ak|refine aD rfl ?_|apply am|apply thN|fail)
 all_goals exact⟨.inr rfl,_,rfl,.flat rfl,rfl⟩
theorem f67(a:Nat)(g:a<1000000000):∃n c,n<=20/\CP 67 [.int .i64 (Int.ofNat a)] (.str n c):=by
 have f:=f99 a g;obtain⟨v,c,n,d,G,rfl⟩:∃v,CP 67 [.int .i64 (Int.ofNat a)] v/\∃n c,n<=20/\v= .str n c:=by
  refine eF Tryz.func67 (by decide) q67.2 rfl (cg (.flat rfl) px0) rfl ?_
  repeat' (first
   |(refine WLg.mk ?_;first
   |refine ac ?_|refine aI rfl rfl rfl rfl rfl ?_|refine ay f ?_)|apply ab|refine aj rfl ?_|apply ae|apply aa|apply ai|apply thN|fail)
  refine az (cA (l:=fr67 a 20 a) KH) ?_;refine bO (λk x h=>∃j,j<20/\k<10 ^ j/\x=fr67 a (j+1) k/\D20 h) ?_ (k:=a) ⟨19,by decide,Nat.lt_of_lt_of_le g (by decide),rfl,_,rfl,λi hi=>⟨0,by
   rw [@dz noE _ 0 .e i (by show 20<=_;unfold bZ;omega),if_pos (by constructor;exact Nat.zero_le _;exact hi),Nat.sub_zero];exact(List.getElem?_replicate_of_lt (a:=V.int .u8 (Int.ofNat 0)) hi)⟩⟩
  rintro m _ g ⟨j,b,s,rfl,d⟩;have p:10 ^ j<=10 ^ 19:=Nat.pow_le_pow_right (by decide) (by omega);have J:m<10000000000000000000:=Nat.lt_of_lt_of_le s p;have C:m%10<10:=Nat.mod_lt _ (by decide);have y:POp.run (.bin .sub) [.int .i64 (Int.ofNat (j+1)),.int .i64 1]=some (.int .i64 (Int.ofNat j)):=by
   show some (V.int .i64 (dA .i64 (Int.sub (Int.ofNat (j+1)) (Int.ofNat 1))))=_;rw [show Int.sub (Int.ofNat (j+1)) (Int.ofNat 1)=Int.ofNat j by show(Int.ofNat (j+1))-(Int.ofNat 1)=Int.ofNat j;simp,oV (ltb (show j<9223372036854775808 by omega))]
  have B:POp.run (.bin .rem) [.int .u64 (Int.ofNat m),.int .u64 10]=some (.int .u64 (Int.ofNat (m%10))):=rfl;have A:POp.run (.bin .add) [.int .u64 48,.int .u64 (Int.ofNat (m%10))]=some (.int .u64 (Int.ofNat (48+m%10))):=by
   show some (V.int .u64 (dA .u64 (Int.ofNat (48+m%10))))=_;rw [oV (ltb (show 48+m%10<18446744073709551616 by omega))]
  have D:POp.run (.toInt .u8) [.int .u64 (Int.ofNat (48+m%10))]=some (.int .u8 (Int.ofNat (48+m%10))):=by
   show some (V.int .u8 (dA .u8 (Int.ofNat (48+m%10))))=_;rw [oV (ltb (show 48+m%10<256 by omega))]
  have z:POp.run (.ixarrp 20 1) [.ptr 1 0,.int .i64 (Int.ofNat j)]=some (.ptr 1 j):=by
   show ob (oif (Nat.blt j 20) (some j)) (λm=>some (V.ptr 1 (Nat.add 0 (Nat.mul m 1))))=_;rw [ltb b];show some (V.ptr 1 (0+j*1))=_;rw [Nat.zero_add,Nat.mul_one]
  obtain⟨K,w,u⟩:=d.put b (48+m%10);cases q:Nat.blt m 10 with
  |true=>
   have o:POp.run (.bin .lss) [.int .u64 (Int.ofNat m),.int .u64 10]=some (.bool true):=by
    show some (V.bool (Nat.blt m 10))=_;rw [q]
   have r:POp.run (.bin .lss) [.int .i64 (Int.ofNat a),.int .i64 0]=some (.bool false):=rfl;have I:POp.run (.slc (.arr 20 1) true false false) [.ptr 1 0,.int .i64 (Int.ofNat j)]=some (.sl 1 j (20-j) (20-j) true 1):=by
    show ob (oif (Nat.ble j 20) (some j)) (λl=>some (V.sl 1 (Bool.rec (motive:=λ_=>Nat) (Nat.add 0 (Nat.mul l 1)) 0 (Nat.beq 20 l)) (Nat.sub 20 l) (Nat.sub 20 l) true 1))=_;rw [show Nat.ble j 20=true from Nat.ble_eq_true_of_le (by omega)];show some (V.sl 1 (Bool.rec (motive:=λ_=>Nat) (0+j*1) 0 (Nat.beq 20 j)) (20-j) (20-j) true 1)=_;rw [show Nat.beq 20 j=false by
     cases E:Nat.beq 20 j with
     |false=>rfl
     |true=>have:=Nat.eq_of_beq_eq_true E;omega,Nat.zero_add,Nat.mul_one]
   obtain⟨c,t⟩:=u.b2s b
   repeat' (first
    |(refine WLg.mk ?_;first
    |refine av rfl rfl y rfl ?_|refine av rfl rfl B rfl ?_|refine av rfl rfl A rfl ?_|refine av rfl rfl D rfl ?_|refine av rfl rfl z rfl ?_|refine av rfl rfl o rfl ?_|refine av rfl rfl r rfl ?_|refine av rfl rfl I rfl ?_|refine ac ?_|refine ap rfl rfl t rfl ?_|refine aK rfl rfl w rfl ?_)|apply ab|refine aj rfl ?_|apply ae|apply aa|apply ai|apply ak|refine aF rfl ?_|refine aD rfl ?_|apply ax|apply am|apply thN|apply thE|apply onE|fail)
   all_goals exact⟨.inr rfl,_,rfl,.flat rfl,_,_,Nat.sub_le _ _,rfl⟩
  |false=>
   have F:=cC q;have o:POp.run (.bin .lss) [.int .u64 (Int.ofNat m),.int .u64 10]=some (.bool false):=by
    show some (V.bool (Nat.blt m 10))=_;rw [q]
   have r:POp.run (.bin .quo) [.int .u64 (Int.ofNat m),.int .u64 10]=some (.int .u64 (Int.ofNat (m/10))):=by
    show some (V.int .u64 (dA .u64 (Int.ofNat (m/10))))=_;rw [oV (ltb (show m/10<18446744073709551616 by omega))]
   obtain⟨i,rfl⟩:∃i,j=i+1:=by
    cases j with
    |zero=>rw [Nat.pow_zero]at s;omega
    |succ i=>exact⟨i,rfl⟩
   rw [Nat.pow_succ]at s
   repeat' (first
    |(refine WLg.mk ?_;first
    |refine av rfl rfl y rfl ?_|refine av rfl rfl B rfl ?_|refine av rfl rfl A rfl ?_|refine av rfl rfl D rfl ?_|refine av rfl rfl z rfl ?_|refine av rfl rfl o rfl ?_|refine av rfl rfl r rfl ?_|refine ac ?_|refine aK rfl rfl w rfl ?_)|apply ab|refine aj rfl ?_|apply ae|apply aa|apply ai|apply ak|refine aD rfl ?_|apply thN|fail)
   all_goals exact .norm ⟨_,_,cA KH,m/10,by omega,i,by omega,by omega,rfl,u⟩
 exact⟨n,d,G,c⟩
noncomputable section
def JD:FuncId->Option CF:=F2 [(66,cf66),(97,cf97)]
def JP:Option (V×H):=mi sQ JD 6 (.fn 66) [] H0
end
theorem D3:zJ JP=true:=by kernel_rfl
theorem c66:∃id h' es o,CN 66 [] H0 (.map id) h'/\h'.blk id=some (.map es o)/\qY es=true:=by
 obtain⟨id,h',es,o,e,c,b⟩:=rj D3;refine⟨id,h',es,o,BQ (AV λp a=>?_) e,c,b⟩;rcases List.mem_cons.1 a with rfl|a
 ·exact⟨_,Tryz.func66,by decide,q66.2⟩
 ·rw [List.mem_singleton.1 a]
  exact⟨_,Tryz.func97,by decide,q97.2⟩
theorem f51(n c a:Nat)(t:n<1000000000)(g:a<1000000000):∃k,CP 51 [.str n c,.int .i64 (Int.ofNat a)] (.int .i64 k):=by
 obtain⟨m,d,u,e⟩:=f67 a g;obtain⟨id,h',es,o,c66,q,f⟩:=c66;have r:POp.run (.bin .lss) [.int .i64 (Int.ofNat a),.int .i64 0]=some (.bool false):=rfl;obtain⟨v,c,k,rfl⟩:∃v,CP 51 [.str n c,.int .i64 (Int.ofNat a)] v/\∃k,v= .int .i64 k:=by
  refine eF Tryz.func51 (by decide) q51.2 rfl (cg (.flat rfl) (cg (.flat rfl) px0)) rfl ?_;have lk:∀n c,∃i,ROp.run (.lookup (.one .s) false (.int .i64 0)) [.map id,.str n c] h'=some (.int .i64 i):=λn c=>sH q f;have b:=f65 n c (ck [47]);have add:∀n c m d,Nat.blt (Nat.add n m) 1099511627776=true->POp.run (.bin .add) [.str n c,.str m d]=some (.str (Nat.add n m) (Nat.add c (Nat.shiftLeft d (Nat.mul 8 n)))):=λn c m d h=>by
   show oif (Nat.blt (Nat.add n m) 1099511627776) _=_;rw [h];rfl
  have p:=add n c 1 47 (ltb (by show n+1<_;omega));have l:=add (Nat.add n 1) (Nat.add c (Nat.shiftLeft 47 (Nat.mul 8 n))) m d (ltb (by show n+1+m<_;omega));obtain⟨i,hi⟩:=lk (Nat.add (Nat.add n 1) m) (Nat.add (Nat.add c (Nat.shiftLeft 47 (Nat.mul 8 n))) (Nat.shiftLeft d (Nat.mul 8 (Nat.add n 1))))
  repeat' (first
   |(refine WLg.mk ?_;first
   |refine av rfl rfl r rfl ?_|refine av rfl rfl p rfl ?_|refine av rfl rfl l rfl ?_|refine ac ?_|refine ap rfl rfl hi rfl ?_|refine ay b ?_|refine ay e ?_|refine aw c66 ?_)|apply ab|refine aj rfl ?_|apply ae|apply aa|apply ak|refine ah rfl (λj=>?_) (λj=>?_)|apply am|apply thN|apply thR|exact⟨.inr rfl,_,rfl,.flat rfl,_,rfl⟩|fail)
  all_goals exact⟨.inr rfl,_,rfl,.flat rfl,_,rfl⟩
 exact⟨k,c⟩
end
section
noncomputable section
def rN(s:Sg):Bool:=if eqI s.type 4 then true else if eqI s.type 1 then eqI s.val.kind 3||(eqI s.val.kind 4||eqI s.val.kind 1)else if eqI s.type 2||eqI s.type 3 then eqI s.val.kind 3||eqI s.val.kind 4 else false
def zy(x:Ex):Bool:=eqI x.kind 1||(eqI x.kind 2||(eqI x.kind 3||(eqI x.kind 4||eqI x.kind 6)))
def Jl(b:ByteArray)(n:Nat):Int:=ri 51 [sV b,.int .i64 (Int.ofNat n)]
def CR(x:Ex):Bool:=
 if eqI x.kind 1||(eqI x.kind 2||(eqI x.kind 3||(eqI x.kind 6||(eqI x.kind 5||eqI x.kind 7))))then true
 else if eqI x.kind 9 then !cJ x.name.size (ck x.name.data.toList) 2 11051 && !cJ x.name.size (ck x.name.data.toList) 1 33 else if eqI x.kind 10 then eqI (Jl x.name x.items.length) 1 else false
end
theorem f36(s:Sg):CP 36 [.agg (sgO s)] (.bool (rN s)):=by
 refine cR Tryz.func36 (by decide) q36.2 rfl (cg (.agg λc hc=>(fH _ c hc).x) px0) rfl ?_
 repeat' (first
  |(refine WLg.mk ?_;first
  |refine ac ?_|refine au ?_|refine aE ?_)|apply ab|refine aj rfl ?_|refine aB rfl rfl ?_|refine aC rfl (λa=>?_) (λa=>?_)|apply ae|apply aa|apply ai|apply ak|refine ah rfl (λa=>?_) (λa=>Nf a)|refine ah rfl (λa=>?_) (λa=>?_)|apply am|apply thN|apply thR|fail)
 all_goals exact⟨.inr rfl,_,rfl,.flat rfl,by simp [rN, *];try rfl⟩
theorem f17{x:Ex}(d:eqI x.kind 5=false)(c:eqI x.kind 7=false)(b:eqI x.kind 8=false):CP 17 [.agg (exO x)] (.bool (zy x)):=by
 refine cR Tryz.func17 (by decide) q17.2 rfl (cg (pxe x) px0) rfl ?_
 repeat' (first
  |(refine WLg.mk ?_;first
  |refine ac ?_|refine au ?_|refine aE ?_)|apply ab|refine aj rfl ?_|apply ae|apply aa|apply ai|apply ak|refine ah rfl (λa=>?_) (λa=>Nf a)|refine ah rfl (λa=>Nt a) (λa=>?_)|refine ah rfl (λa=>?_) (λa=>?_)|apply am|apply thN|apply thR|fail)
 all_goals exact⟨.inr rfl,_,rfl,.flat rfl,by simp [zy, *];try rfl⟩
theorem BU{b:ByteArray}{n:Nat}(d:b.size<1000000000)(a:n<1000000000):CP 51 [sV b,.int .i64 (Int.ofNat n)] (.int .i64 (Jl b n)):=by
 obtain⟨k,c⟩:=f51 b.size (ck b.data.toList) n d a;exact Fq ⟨_,c,k,rfl⟩
theorem f37(x:Ex)(f:bS (exO x)<=6000000):CP 37 [.agg (exO x)] (.bool (CR x)):=by
 have d:=dZ x;have e:=dT x.items;have c:=BU (b:=x.name) (n:=x.items.length) (by omega) (by omega);refine cR Tryz.func37 (by decide) q37.2 rfl (cg (pxe x) px0) rfl ?_
 repeat' (first
  |(refine WLg.mk ?_;first
  |refine ac ?_|refine au ?_|refine aE ?_|refine ay c ?_)|apply ab|refine aj rfl ?_|refine aB rfl rfl ?_|refine aC rfl (λa=>?_) (λa=>?_)|apply ae|apply aa|apply ai|apply ak|refine ah rfl (λa=>?_) (λa=>Nf a)|refine ah rfl (λa=>?_) (λa=>?_)|apply am|apply thN|apply thR|fail)
 all_goals exact⟨.inr rfl,_,rfl,.flat rfl,by simp [CR, *];try rfl⟩
end
section
structure WY(call:cN)(l:List cj)(loc tmp:AL)(h:H)(hs:List H)(cs:List Tc)(R:AL->H->Prop):Prop where
 out:∃s',gS call l ⟨⟨loc,tmp⟩,h,hs,cs⟩=some s'/\bR s'.cs (jP s'.hs [s'.h])/\R s'.f.loc s'.h
section
variable {call:cN} {loc tmp loc' tmp':AL} {h h1:H} {hs:List H} {cs:List Tc} {l:List cj} {R:AL->H->Prop} {d:Dst} {args:List Opd} {gd:Option (Opd×Bool)} {lo hi:Nat} {vs:List V} {v:V}
theorem bI(hc:bR cs (jP hs [h]))(k:R loc h):WY call [] loc tmp h hs cs R:=⟨_,rfl,hc,k⟩
theorem rV{o:COp}(c:cm ⟨loc,tmp⟩ gd=some true)(e:evs ⟨loc,tmp⟩ args=some vs)(b:o.run call vs h=some (v,h1))(a:d7 d v loc tmp=some (loc',tmp')):
  cj.runD call ⟨d,o,args,gd,lo,hi⟩ ⟨⟨loc,tmp⟩,h,hs,cs⟩=some ⟨⟨loc',tmp'⟩,h1,Bool.rec (motive:=λ_=>List H) hs (h ::hs) (isE o),COp.rec (motive:=λ_=>List Tc) (λ_=>cs) (λq=>⟨q,vs,v,lo,hi⟩ ::cs) (λ_=>cs) (λ_=>cs) (λ_=>cs) cs o⟩:=by
 show ob (cm ⟨loc,tmp⟩ gd) _=_;rw [c];show ob (evs ⟨loc,tmp⟩ args) _=_;rw [e];show ob (o.run call vs h) _=_;rw [b];show some (St.mk (d.put ⟨loc,tmp⟩ v) h1 _ _)=_;rw [gB a]
theorem bM{o:COp}{a:List H}{b:List Tc}(e:cj.runD call ⟨d,o,args,gd,lo,hi⟩ ⟨⟨loc,tmp⟩,h,hs,cs⟩=some ⟨⟨loc',tmp'⟩,h1,a,b⟩)(k:WY call l loc' tmp' h1 a b R):WY call (⟨d,o,args,gd,lo,hi⟩ ::l) loc tmp h hs cs R:=by
 obtain⟨s',g,c,f⟩:=k;refine⟨s',?_,c,f⟩;show ob (cj.runD call ⟨d,o,args,gd,lo,hi⟩ ⟨⟨loc,tmp⟩,h,hs,cs⟩) (gS call l)=_;rw [e];exact g
theorem bG{o:POp}(e0:cm ⟨loc,tmp⟩ gd=some true)(e1:evs ⟨loc,tmp⟩ args=some vs)(e2:o.run vs=some v)(e3:d7 d v loc tmp=some (loc',tmp'))(k:WY call l loc' tmp' h hs cs R):WY call (⟨d,.p o,args,gd,lo,hi⟩ ::l) loc tmp h hs cs R:=
 bM (rV (h1:=h) e0 e1 (by show ob (o.run vs) _=_;rw [e2];rfl) e3) k
theorem aW{o:ROp}(e0:cm ⟨loc,tmp⟩ gd=some true)(e1:evs ⟨loc,tmp⟩ args=some vs)(e2:o.run vs h=some v)(e3:d7 d v loc tmp=some (loc',tmp'))(k:WY call l loc' tmp' h hs (⟨o,vs,v,lo,hi⟩ ::cs) R):WY call (⟨d,.r o,args,gd,lo,hi⟩ ::l) loc tmp h hs cs R:=
 bM (rV (h1:=h) e0 e1 (by show ob (o.run vs h) _=_;rw [e2];rfl) e3) k
theorem WY.a{ao:AOp}{b:Blk}{mk:Nat->V}(e0:cm ⟨loc,tmp⟩ gd=some true)(e1:evs ⟨loc,tmp⟩ args=some vs)(er:ao.run vs=some (b,mk))(hk:Nat.blt h.next bZ=true)
  (e3:d7 d (mk h.next) loc tmp=some (loc',tmp')) (k:WY call l loc' tmp' ⟨h.t.put h.next (some b),Nat.succ h.next⟩ hs cs R):WY call (⟨d,.a ao,args,gd,lo,hi⟩ ::l) loc tmp h hs cs R:=
 bM (rV (h1:=⟨h.t.put h.next (some b),Nat.succ h.next⟩) e0 e1 (by
  show ob (ao.run vs) (λr=>ob (H.new h r.1) λh'=>some (r.2 h.next,h'))=_;rw [er];show ob (oif (Nat.blt h.next bZ) (some (H.mk (h.t.put h.next (some b)) (Nat.succ h.next)))) (λh'=>some (mk h.next,h'))=_;rw [hk];rfl) e3) k
theorem bB{o:EOp}(e0:cm ⟨loc,tmp⟩ gd=some true)(e1:evs ⟨loc,tmp⟩ args=some vs)(e2:o.run vs h=some (v,h1))(e3:d7 d v loc tmp=some (loc',tmp'))(k:WY call l loc' tmp' h1 (h ::hs) cs R):WY call (⟨d,.e o,args,gd,lo,hi⟩ ::l) loc tmp h hs cs R:=
 bM (rV (h1:=h1) e0 e1 e2 e3) k
theorem bJ{P:Program}{T:Ty}{K:Nat->Prop}{n:Nat}{l:List cj}{Q:X->AL->H->Prop}(k:WY call l loc [] h [] [] λloc h=>Q .norm loc h):WC P T K call n (.regD l) loc h Q:=by
 obtain⟨s',c,a,b⟩:=k;exact WC.regD ⟨s',c,a,b⟩
end
theorem bR.snd{o:ROp}{vs:List V}{v:V}{cs:List Tc}{h0 h1:H}{hs:List H}(k:o.run vs h1=some v)(t:bR cs (h0 ::h1 ::hs)):bR (⟨o,vs,v,1,1⟩ ::cs) (h0 ::h1 ::hs):=λx hx j h' e a b=>by
 rcases List.mem_cons.1 hx with rfl|hx
 ·obtain rfl:j=1:=Nat.le_antisymm b a
  cases e;exact k
 ·exact t x hx j h' e a b
theorem bR.two{o:ROp}{vs:List V}{v:V}{cs:List Tc}{h0 h1:H}{hs:List H}(k0:o.run vs h0=some v)(k1:o.run vs h1=some v)(t:bR cs (h0 ::h1 ::hs)):bR (⟨o,vs,v,0,1⟩ ::cs) (h0 ::h1 ::hs):=λx hx j h' e a b=>by
 rcases List.mem_cons.1 hx with rfl|hx
 ·cases j with
  |zero=>cases e;exact k0
  |succ j=>cases j with
   |zero=>cases e;exact k1
   |succ j=>have b:j+1+1<=1:=b;omega
 ·exact t x hx j h' e a b
end
section
abbrev Sc:=List (ByteArray×Int)
def i5:Sc->ByteArray->Int
 |[],_=>0
 |p ::l,b=>if b=p.1 then p.2 else i5 l b
def lZ:Sc->ByteArray->Int->Sc
 |[],b,v=>[(b,v)]
 |p ::l,b,v=>if b=p.1 then(b,v) ::l else p ::lZ l b v
def wB:Sc->ByteArray->Sc
 |[],_=>[]
 |p ::l,b=>if b=p.1 then l else p ::wB l b
noncomputable section
def scE:Sc->List (V×V)
 |[]=>[]
 |p ::l=>(sV p.1,.int .i64 p.2) ::scE l
def nJ(s:Sc)(b:ByteArray):Sc:=lZ s b (dA .i64 (Int.add (i5 s b) (Int.ofNat 1)))
end
theorem xI{a b:ByteArray}:cJ a.size (ck a.data.toList) b.size (ck b.data.toList)=decide (a=b):=by
 show cJ a.data.size _ b.data.size _=_;rw [<-Array.length_toList,<-Array.length_toList,lO]
 by_cases q:a=b
 ·subst q
  simp
 ·rw [decide_eq_false q,beq_eq_false_iff_ne]
  intro e;apply q;cases a;cases b;exact congrArg ByteArray.mk (Array.toList_inj.1 e)
theorem BI(h:H)(b:ByteArray):∀s:Sc,∃r,gz h (.one .s) (sV b) (scE s)=some r/\i6 false (.int .i64 0) r= .int .i64 (i5 s b)
 |[]=>⟨none,rfl,rfl⟩
 |p ::l=>by
  obtain⟨r,q1,q2⟩:=BI h b l;have e:∀x,gz h (.one .s) (sV b) (scE (p ::l))=x↔(Bool.rec (motive:=λ_=>Option (Option V)) (gz h (.one .s) (sV b) (scE l)) (some (some (.int .i64 p.2))) (cJ b.size (ck b.data.toList) p.1.size (ck p.1.data.toList)):Option (Option V))=x:=λx=>Iff.rfl
  by_cases q:b=p.1
  ·refine⟨some (.int .i64 p.2),(e _).2 ?_,?_⟩
   ·rw [xI,decide_eq_true q]
   ·show V.int .i64 p.2= .int .i64 (if b=p.1 then p.2 else i5 l b)
    rw [if_pos q]
  ·refine⟨r,(e _).2 ?_,?_⟩
   ·rw [xI,decide_eq_false q]
    exact q1
   ·show _=V.int .i64 (if b=p.1 then p.2 else i5 l b)
    rw [if_neg q];exact q2
theorem Eg(h:H)(b:ByteArray)(v:Int):∀s:Sc,oG h (.one .s) (sV b) (.int .i64 v) (scE s)=some (scE (lZ s b v))
 |[]=>rfl
 |p ::l=>by
  show(Bool.rec (motive:=λ_=>Option (List (V×V))) (ob (oG h (.one .s) (sV b) (.int .i64 v) (scE l)) λr=>some ((sV p.1,.int .i64 p.2) ::r)) (some ((sV b,.int .i64 v) ::scE l)) (cJ b.size (ck b.data.toList) p.1.size (ck p.1.data.toList)):Option (List (V×V)))=some (scE (if b=p.1 then(b,v) ::l else p ::lZ l b v));rw [xI]
  by_cases q:b=p.1
  ·rw [decide_eq_true q,if_pos q]
   rfl
  ·rw [decide_eq_false q,if_neg q,Eg h b v l]
   rfl
theorem Fi(h:H)(b:ByteArray):∀s:Sc,wC h (.one .s) (sV b) (scE s)=some (scE (wB s b))
 |[]=>rfl
 |p ::l=>by
  show(Bool.rec (motive:=λ_=>Option (List (V×V))) (ob (wC h (.one .s) (sV b) (scE l)) λr=>some ((sV p.1,.int .i64 p.2) ::r)) (some (scE l)) (cJ b.size (ck b.data.toList) p.1.size (ck p.1.data.toList)):Option (List (V×V)))=some (scE (if b=p.1 then l else p ::wB l b));rw [xI]
  by_cases q:b=p.1
  ·rw [decide_eq_true q,if_pos q]
  ·rw [decide_eq_false q,if_neg q,Fi h b l]
   rfl
theorem xO{b:ByteArray}{v:Int}:∀{s:Sc} {a:ByteArray},a∈(lZ s b v).map (·.1)->a=b\/a∈s.map (·.1)
 |[],a,h=>.inl (by simpa [lZ]using h)
 |p ::l,a,h=>by
  rw [lZ]at h
  split at h
  ·rename_i q
   rcases List.mem_cons.1 h with h|h
   ·exact .inl h
   ·exact .inr (List.mem_cons_of_mem _ h)
  ·rcases List.mem_cons.1 h with h|h
   ·exact .inr (h▸List.mem_cons_self)
   ·rcases xO h with h|h
    ·exact .inl h
    ·exact .inr (List.mem_cons_of_mem _ h)
theorem Ei{b:ByteArray}{v:Int}:∀{s:Sc},(s.map (·.1)).Nodup->((lZ s b v).map (·.1)).Nodup
 |[],_=>by simp [lZ]
 |p ::l,h=>by
  rw [List.map_cons,List.nodup_cons]at h;rw [lZ]
  split
  ·rename_i q
   rw [List.map_cons,List.nodup_cons];exact⟨by rw [q];exact h.1,h.2⟩
  ·rename_i q
   rw [List.map_cons,List.nodup_cons];refine⟨λk=>?_,Ei h.2⟩;rcases xO k with k|k
   ·exact q k.symm
   ·exact h.1 k
theorem Fj{b:ByteArray}:∀{s:Sc},(s.map (·.1)).Nodup->wB s b=s.filter λq=>!decide (q.1=b)
 |[],_=>rfl
 |p ::l,h=>by
  rw [List.map_cons,List.nodup_cons]at h;rw [wB,List.filter_cons]
  by_cases q:b=p.1
  ·rw [if_pos q,if_neg (by simp [q])]
   refine(List.filter_eq_self.2 λr hr=>?_).symm;have:r.1≠b:=λe=>h.1 (by rw [<-q,<-e];exact List.mem_map_of_mem hr)
   simpa using this
  ·rw [if_neg q,if_pos (by simpa using λe=>q e.symm),Fj h.2]
theorem vo{f:ByteArray×Int->Bool}{s:Sc}(h:(s.map (·.1)).Nodup):((s.filter f).map (·.1)).Nodup:=h.sublist (List.filter_sublist.map _)
def szS(s:Sc):Nat:=(s.map λq=>q.1.size+1).sum
theorem zv{b:ByteArray}{v:Int}:∀{s:Sc},szS (lZ s b v)<=szS s+(b.size+1)
 |[]=>by simp [lZ,szS]
 |p ::l=>by
  have ih:=zv (b:=b) (v:=v) (s:=l);rw [lZ]
  split
  ·rename_i q
   simp only [szS,List.map_cons,List.sum_cons,q];omega
  ·simp only [szS,List.map_cons,List.sum_cons]at ih ⊢
   omega
theorem vn{f:ByteArray×Int->Bool}:∀{s:Sc},szS (s.filter f)<=szS s
 |[]=>Nat.le_refl _
 |p ::l=>by
  have ih:=vn (f:=f) (s:=l);rw [List.filter_cons]
  split
  ·simp only [szS,List.map_cons,List.sum_cons]at ih ⊢
   omega
  ·simp only [szS,List.map_cons,List.sum_cons]at ih ⊢
   omega
theorem wd:∀s:Sc,s.length<=szS s
 |[]=>Nat.le_refl _
 |p ::l=>by
  have ih:=wd l;simp only [szS,List.map_cons,List.sum_cons,List.length_cons]at ih ⊢;omega
theorem Bx:∀{s:Sc} {q:ByteArray×Int},q∈s->q.1.size<szS s
 |p ::l,q,h=>by
  simp only [szS,List.map_cons,List.sum_cons];rcases List.mem_cons.1 h with rfl|h
  ·omega
  ·have:=Bx h
   simp only [szS]at this;omega
structure Fl where
 fn:ByteArray
 ar:Int
 cl:Int
 code:Int
 name:ByteArray
 n:Int
noncomputable section
def flO(f:Fl):List V:=[sV f.fn,.int .i64 f.ar,.int .i64 f.cl,.int .i64 f.code,sV f.name,.int .i64 f.n]
def flL:List Fl->List V
 |[]=>[]
 |f ::l=>flO f++flL l
end
theorem pO:∀a b:List Fl,flL (a++b)=flL a++flL b
 |[],b=>rfl
 |x ::a,b=>by
  show flO x++flL (a++b)=(flO x++flL a)++flL b;rw [pO a b,List.append_assoc]
theorem fh:∀l:List Fl,(flL l).length=l.length*6
 |[]=>rfl
 |x ::l=>by
  show(flO x++flL l).length=_;rw [List.length_append,fh l,List.length_cons];show 6+l.length*6=_;omega
theorem kJ:∀(l:List Fl),∀v,v∈flL l->bY v
 |[],v,h=>by cases h
 |x ::l,v,h=>by
  rcases List.mem_append.1 h with k|k
  ·exact .flat (by
    simp only [flO,List.mem_cons,List.not_mem_nil,or_false]at k;rcases k with rfl|rfl|rfl|rfl|rfl|rfl<;>rfl)
  ·exact kJ l v k
structure Pl where
 name:ByteArray
 ar:Int
 cl:Int
def flw(p:Pl)(code:Int)(name:ByteArray)(n:Int):Fl:=⟨p.name,p.ar,p.cl,code,name,n⟩
abbrev Df:=ByteArray->Int->Bool
def Js(D:Df)(de:List (V×V)):Prop:=∀(h:H) (id:Nat) (o:Bool),h.blk id=some (.map de o)->∀b i,∃k,ROp.run (.lookup (.agg [.s,.i]) false (.int .i64 0)) [.map id,.agg [sV b,.int .i64 i]] h=some (.int .i64 k)/\eqI k 0= !D b i
structure CS(D:Df)(p:Pl)(fl:List Fl)(h:H):Prop where
 b0:h.blk 0=some (.ro 256 d3)
 b1:∃de o,h.blk 1=some (.map de o)/\Js D de
 b2:∃tr v,h.blk 2=some (.cells 5 tr none false)/\tr.get 0=some (sV p.name)/\tr.get 1=some (.int .i64 p.ar)/\tr.get 2=some (.int .i64 p.cl)/\tr.get 3=some (.map 1)/\tr.get 4=some v/\GL 6 h v (flL fl)
 ln:2*fl.length<=h.next
 le:2<h.next
structure Sco(h:H)(k:Nat)(s:Sc):Prop where
 lo:2<k
 hi:k<h.next
 nd:(s.map (·.1)).Nodup
 out:∃o,h.blk k=some (.map (scE s) o)
structure KMx(k:Nat)(h h':H):Prop where
 le:h.next<=h'.next
 mp:∀j es o,j<h.next->j≠k->h.blk j=some (.map es o)->h'.blk j=some (.map es o)
structure KM(k:Nat)(h h':H):Prop extends KMx k h h' where
 od:0<k->∀es,h.blk k=some (.map es true)->∃es',h'.blk k=some (.map es' true)
theorem KMx.k0{h h':H}(m:KMx 0 h h'):KM 0 h h':=⟨m,λq=>absurd q (Nat.lt_irrefl 0)⟩
theorem KM.refl{k:Nat}(h:H):KM k h h:=⟨⟨Nat.le_refl _,λ_ _ _ _ _ e=>e⟩,λ_ es e=>⟨es,e⟩⟩
theorem KM.trans{k:Nat}{a b c:H}(x:KM k a b)(y:KM k b c):KM k a c:=⟨⟨Nat.le_trans x.le y.le,λj es o hl hj e=>y.mp j es o (Nat.lt_of_lt_of_le hl x.le) hj (x.mp j es o hl hj e)⟩,λhk es e=>by
 obtain⟨es1,e1⟩:=x.od hk es e;exact y.od hk es1 e1⟩
theorem KM.to{k:Nat}{h h':H}(m:KM 0 h h')(b0:h.blk 0=some (.ro 256 d3))(b:k<h.next):KM k h h':=by
 have mp:∀j es o,j<h.next->h.blk j=some (.map es o)->h'.blk j=some (.map es o):=λj es o a e=>m.mp j es o a (λq=>by rw [q,b0]at e;cases e) e
 exact⟨⟨m.le,λj es o a _ e=>mp j es o a e⟩,λ_ es e=>⟨es,mp k es true b e⟩⟩
theorem Sco.km{h h':H}{j k:Nat}{s:Sc}(c:Sco h k s)(m:KMx j h h')(a:k≠j):Sco h' k s:=by
 obtain⟨o,e⟩:=c.out;exact⟨c.lo,Nat.lt_of_lt_of_le c.hi m.le,c.nd,o,m.mp _ _ _ c.hi a e⟩
theorem Sco.km0{h h':H}{k:Nat}{s:Sc}(c:Sco h k s)(m:KM 0 h h'):Sco h' k s:=c.km m.toKMx (by have:=c.lo;omega)
theorem KM.fresh{h0 h h':H}{k:Nat}(a:KM 0 h0 h)(hk:h0.next<=k)(m:KMx k h h'):KM 0 h0 h':=KMx.k0 ⟨Nat.le_trans a.le m.le,λj es o hl hj e=>m.mp j es o (Nat.lt_of_lt_of_le hl a.le) (by omega) (a.mp j es o hl hj e)⟩
theorem CS.mono{D:Df}{p:Pl}{fl:List Fl}{h h':H}(c:CS D p fl h)(le:h.next<=h'.next)(e:∀j,j<h.next->(j=1\/∀es o,h.blk j≠some (.map es o))->h'.blk j=h.blk j):CS D p fl h':=by
 obtain⟨l,o,m,g⟩:=c.b1;obtain⟨tr,v,a,t0,i,t2,k,t4,gl⟩:=c.b2;have f:=c.le;refine⟨by rw [e 0 (by omega) (.inr λes o q=>by rw [c.b0]at q;cases q)];exact c.b0,⟨l,o,by rw [e 1 (by omega) (.inl rfl)];exact m,g⟩,⟨tr,v,by rw [e 2 f (.inr λes o q=>by rw [a]at q;cases q)];exact a,t0,i,t2,k,t4,gl.mono le λb n q lt=>e b lt (.inr λes o d=>?_)⟩,Nat.le_trans c.ln le,Nat.lt_of_lt_of_le f le⟩;subst q;cases gl with
 |full hb=>rw [hb]at d;cases d
theorem CS.scope{D:Df}{p:Pl}{fl:List Fl}{h:H}(c:CS D p fl h){k:Nat}{s s':Sc}(sc:Sco h k s)(g:h.next<900000000)(o:Bool)(nd:(s'.map (·.1)).Nodup):CS D p fl ⟨h.t.put k (some (.map (scE s') o)),h.next⟩/\Sco ⟨h.t.put k (some (.map (scE s') o)),h.next⟩ k s'/\KMx k h ⟨h.t.put k (some (.map (scE s') o)),h.next⟩:=by
 have b:900000002<bZ:=by unfold bZ;omega
 have lo:=sc.lo;have hi:=sc.hi;obtain⟨o1,f⟩:=sc.out;have a:∀j,(⟨h.t.put k (some (.map (scE s') o)),h.next⟩:H).blk j=if j=k then some (.map (scE s') o)else h.blk j:=λj=>gO (by omega)
 refine⟨c.mono (Nat.le_refl _) λj d q=>?_,⟨lo,hi,nd,o,by rw [a,if_pos rfl]⟩,⟨Nat.le_refl _,λj es o _ d e=>by rw [a,if_neg d];exact e⟩⟩;rw [a,if_neg];rintro rfl;rcases q with q|q
 ·omega
 ·exact q _ _ f
theorem Sco.look{h:H}{k:Nat}{s:Sc}(sc:Sco h k s)(b:ByteArray):ROp.run (.lookup (.one .s) false (.int .i64 0)) [.map k,sV b] h=some (.int .i64 (i5 s b)):=by
 obtain⟨o,e⟩:=sc.out;obtain⟨r,c,a⟩:=BI h b s;show oif true (ob (ob (h.blk k) _) _)=_;rw [e];show ob (gz h (.one .s) (sV b) (scE s)) _=_;rw [c];show some (i6 false (.int .i64 0) r)=_;rw [a]
theorem CS.put{D:Df}{p:Pl}{fl:List Fl}{h:H}(c:CS D p fl h){k:Nat}{s:Sc}(sc:Sco h k s)(a:h.next<900000000)(b:ByteArray)(v:Int):∃h',EOp.run (.mapup (.one .s)) [.map k,sV b,.int .i64 v] h=some (cT,h')/\CS D p fl h'/\Sco h' k (lZ s b v)/\KM k h h'/\h'.next=h.next:=by
 obtain⟨f,d,q3⟩:=c.scope (s':=lZ s b v) sc a (h.ord k) (Ei sc.nd);refine⟨_,?_,f,d,⟨q3,λ_ es e=>⟨scE (lZ s b v),by
  rw [gO (by have:=sc.hi;unfold bZ;omega),if_pos rfl,show h.ord k=true by unfold H.ord;rw [e]]⟩⟩,rfl⟩
 obtain⟨o,e⟩:=sc.out;show oif true (ob (ob (h.blk k) _) _)=_;rw [e];show ob (oG h (.one .s) (sV b) (.int .i64 v) (scE s)) _=_;rw [Eg];rfl
theorem CS.bump{D:Df}{p:Pl}{fl:List Fl}{h:H}(c:CS D p fl h){k:Nat}{s:Sc}(sc:Sco h k s)(hk:h.next<900000000)(b:ByteArray):∃h',EOp.run (.mapup (.one .s)) [.map k,sV b,.int .i64 (dA .i64 (Int.add (i5 s b) (Int.ofNat 1)))] h=some (cT,h')/\CS D p fl h'/\Sco h' k (nJ s b)/\KM k h h'/\h'.next=h.next:=c.put sc hk b _
theorem CS.newmap{D:Df}{p:Pl}{fl:List Fl}{h:H}(c:CS D p fl h)(d:h.next<900000000)(s:Sc)(o:Bool)(nd:(s.map (·.1)).Nodup):CS D p fl ⟨h.t.put h.next (some (.map (scE s) o)),Nat.succ h.next⟩/\Sco ⟨h.t.put h.next (some (.map (scE s) o)),Nat.succ h.next⟩ h.next s/\KM 0 h ⟨h.t.put h.next (some (.map (scE s) o)),Nat.succ h.next⟩:=by
 have b:900000002<bZ:=by unfold bZ;omega
 have a:∀j,(⟨h.t.put h.next (some (.map (scE s) o)),Nat.succ h.next⟩:H).blk j=if j=h.next then some (.map (scE s) o)else h.blk j:=λj=>gO (by omega)
 have le:h.next<=Nat.succ h.next:=Nat.le_succ _
 refine⟨c.mono le λj g _=>by rw [a,if_neg (by omega)],⟨c.le,Nat.lt_succ_self _,nd,o,by rw [a,if_pos rfl]⟩,KMx.k0 ⟨le,λj es o f _ e=>by rw [a,if_neg (by omega)];exact e⟩⟩
end
end Ev
end Go.Proofs.YtdfphfdnoobikaaGreatDoor
