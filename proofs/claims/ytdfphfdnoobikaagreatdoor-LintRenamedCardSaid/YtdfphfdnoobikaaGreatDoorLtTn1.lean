/-
  The laws' own functions:same,with;lists that are frozen.
-/
import Derived.Test.YtdfphfdnoobikaaGreatDoorLtShown
import Derived.Test.YtdfphfdnoobikaaGreatDoorLtRn5
import Derived.Test.YtdfphfdnoobikaaGreatDoorEvWL
namespace Go.Proofs.YtdfphfdnoobikaaGreatDoor
namespace Ev
section
theorem Ko{l:List Fl}{i:Nat}{d:Fl}(h:Nat.blt i l.length=true):∃a b,flL l=a++(flO ((l[i]?).getD d)++b)/\a.length=Nat.mul i 6:=sb (f:=flO) (g:=flL) (n:=6) (λ_ _=>rfl) (λ_=>rfl) l i _ (cP h)
noncomputable section
def fl0:Fl:=⟨eB,0,0,0,eB,0⟩
def kK(l:List Fl)(i:Nat):Fl:=(l[i]?).getD fl0
end
theorem Kn{l:List Fl}{i:Nat}(h:Nat.blt i l.length=true):gq (flL l) (Nat.mul i 6) (flO (kK l i)):=by obtain⟨a,b,e,k⟩:=Ko (d:=fl0) h;exact .of e k
theorem BA{l:List Fl}{i:Nat}{h:H}(hb:Nat.blt i l.length=true):ROp.run (.load true 6) [.eptr (flL l) (Nat.mul i 6)] h=some (.agg (flO (kK l i))):=gJ (Kn hb) h
theorem G1{l:List Fl}{i:Nat}(h:i<l.length):l.take (i+1)=l.take i++[kK l i]:=by
 have:kK l i=l[i]:=by
  show(l[i]?).getD fl0=_;rw [List.getElem?_eq_getElem h];rfl
 rw [this,List.take_succ_eq_append_getElem h]
theorem LS(l:List Fl):bY (.lst l.length 6 (flL l)):= .lst (kJ l)
theorem sC(n c:Nat):cJ n c n c=true:=by
 unfold cJ;simp
theorem Ku(x:Fl)(h:H):ROp.run (.eq (.agg [.s,.i,.i,.i,.s,.i]) true) [.agg (flO x),.agg (flO x)] h=some (.bool false):=by
 have g:cJ x.fn.size (ck x.fn.data.toList) x.fn.size (ck x.fn.data.toList)=true:=sC _ _;have d:cJ x.name.size (ck x.name.data.toList) x.name.size (ck x.name.data.toList)=true:=sC _ _;have f:eqI x.ar x.ar=true:=by rw [ly];simp
 have a:eqI x.cl x.cl=true:=by rw [ly];simp
 have b:eqI x.code x.code=true:=by rw [ly];simp
 have e:eqI x.n x.n=true:=by rw [ly];simp
 have key:g7 h (.agg [.s,.i,.i,.i,.s,.i]) (.agg (flO x)) (.agg (flO x))=some true:=by
  show(ob (some (cJ x.fn.size (ck x.fn.data.toList) x.fn.size (ck x.fn.data.toList))) λc=>Bool.rec (motive:=λ_=>Option Bool) (some false) (ob (some (eqI x.ar x.ar)) λc=>Bool.rec (motive:=λ_=>Option Bool) (some false) (ob (some (eqI x.cl x.cl)) λc=>Bool.rec (motive:=λ_=>Option Bool) (some false) (ob (some (eqI x.code x.code)) λc=>Bool.rec (motive:=λ_=>Option Bool) (some false) (ob (some (cJ x.name.size (ck x.name.data.toList) x.name.size (ck x.name.data.toList))) λc=>Bool.rec (motive:=λ_=>Option Bool) (some false) (ob (some (eqI x.n x.n)) λc=>Bool.rec (motive:=λ_=>Option Bool) (some false) (some true) c) c) c) c) c) c)=some true;rw [g,d,f,a,b,e];rfl
 show ob (g7 h (.agg [.s,.i,.i,.i,.s,.i]) (.agg (flO x)) (.agg (flO x))) _=_;rw [key];rfl
noncomputable section
def fr13(l:List Fl)(i:Nat):AL:=[(0,.lst l.length 6 (flL l)),(1,.lst l.length 6 (flL l)),(5,.int .i64 (Int.ofNat i))]
end
theorem f13(l:List Fl)(e:l.length<9223372036854775807):CP 13 [.lst l.length 6 (flL l),.lst l.length 6 (flL l)] (.bool true):=by
 have c:=LS l;refine cR Tryz.func13 (by decide) cf13_ok rfl (cg c (cg c px0)) rfl ?_
 repeat' (first
  |(refine WLg.mk ?_;first
  |refine ac ?_)|apply ab|refine aj rfl ?_|apply ae|apply aa|apply ai|apply ak|refine ah rfl (λb=>?_) (λb=>?_)|apply am|apply thN|apply thR|fail)
 ·exfalso
  have d:eqI (Int.ofNat l.length) (Int.ofNat l.length)=true:=by rw [ly];simp
  rw [d]at b;cases b
 refine az (cS (l:=fr13 l 0) KT rfl) ?_;refine aA l.length (λi f h=>f=fr13 l i/\h=H0) ?_ (i:=0) (Nat.zero_le _) ⟨rfl,rfl⟩;rintro i _ _ hi ⟨rfl,rfl⟩;have hi2:i<9223372036854775807:=by omega
 have a:=Ku (kK l i) H0
 repeat' (first
  |(refine WLg.mk ?_;first
  |refine ac ?_)
  |(show WX _ _ _ _ _ _ _ _ _ _;first
  |refine aH ?_|refine aU rfl rfl (ce Hy) rfl ?_|refine aQ rfl rfl (BA Hy) rfl ?_|refine aQ rfl rfl (a) rfl ?_|refine aO (by repeat' (first|exact bR.nil|refine bR.any (λh=>rfl) ?_|refine bR.first rfl ?_|refine bR.first (BA Hy) ?_|refine bR.snd (BA Hy) ?_|refine bR.any (λh=>BA Hy) ?_|refine bR.first (a) ?_|refine bR.snd (a) ?_|refine bR.any (λh=>a) ?_|refine bR.each (.cons rfl .nil) ?_|refine bR.each (.cons rfl (.cons rfl .nil)) ?_|refine bR.each (.cons rfl (.cons rfl (.cons rfl .nil))) ?_)) ?_)|apply ab|refine aj rfl ?_|apply ae|apply aa|apply ai|apply ak|refine aD rfl ?_|refine ah rfl (λb=>?_) (λb=>?_)|apply ax|apply am|refine aP ?_|apply thN|apply thE|apply onE|fail)
 ·exact .norm ⟨_,_,cS KI rfl,bX Hy,rfl,rfl⟩
 ·exact⟨.inr rfl,_,rfl,.flat rfl,rfl⟩
theorem Aw{f:FuncId} {fn:Func} {cf:CF} (k1:Tryz.prog.funcs[f]? =some fn) (k2:fn.name≠ "runtime.NumGoroutine") (k3:ci TP fn=some cf) {n:Nat} {vs:List V} {v:V} (hvs:∀v,v∈vs->bY v) (hv:bY v) (e:ob (enter ft n cf vs H0) (λr=>some r.1)=some v):CP f vs v:=by
 obtain⟨⟨v2,h'⟩,e0,q⟩:=bQ.1 e;cases q;obtain⟨e1,e2⟩:=bW.1 (show oif (Nat.beq (cD vs) cf.params) (ob (exec ft false n cf.code ⟨d8 vs 0,[]⟩ H0) λr=>
  match r.1 with
  |.exit _=>none
  |_=>ob (ip r.2.1 r.2.2 cf.results) λl=>some (dq l,r.2.2))=some (v2,h')from e0)
 obtain⟨⟨x,f',h2⟩,e3,e4⟩:=bQ.1 e2;have hlen:vs.length=cf.params:=by rw [<-@cq noE];exact Nat.eq_of_beq_eq_true e1
 have go:(x= .norm\/x= .ret)/\ob (ip f' h2 cf.results) (λl=>some (dq l,h2))=some (v2,h'):=by
  cases x with
  |norm=>exact⟨.inl rfl,e4⟩
  |ret=>exact⟨.inr rfl,e4⟩
  |exit k=>cases e4
 obtain⟨hx,e5⟩:=go;obtain⟨l,e6,e7⟩:=bQ.1 e5;cases e7;exact(ii (K:=Kp) rF jO mixed k1 k2 k3 hlen (.exec e3) hx e6).conP l8 hvs hv
theorem JQ(n1 c1:Nat)(v:Int)(n2 a n:Nat)(e f cs:List V):ob (enter ft 1 cf10 [.agg [.str n1 c1,.int .i64 v,.lst n2 2 e,.lst a 3 f],.lst n 3 cs] H0) (λr=>some r.1)=some (.agg [.str n1 c1,.int .i64 v,.lst n2 2 e,.lst n 3 cs]):=by kernel_rfl
theorem f10(m:Md)(l:List Fu):CP 10 [.agg (mdO m),.lst l.length 3 (fuL l)] (.agg (mdO {m with funcs:=l})):=
 Aw Tryz.func10 (by decide) q10.2 (cg (.agg (gY m)) (cg (IK l) px0)) (.agg (gY _)) (JQ _ _ _ _ _ _ _ _ _)
theorem xc{es:Nat}{h:H}{f:F}{t:Nat}{v:V}{cs:List V}{r:AL}(b0:h.blk 0=some (.ro 256 d3))(gl:GL es h v cs)(px:∀c,c∈cs->bY c)(e:lk f.loc t=some v)(x:uf f.loc r)(n:Nat)(D:cs.length=n*es)(L:0<es):fy TP Kp f h ⟨(t,.lst n es cs) ::r,[]⟩ H0:=by
 have y:∀i,cY lp0 i->i=0:=λi ⟨b,e⟩=>by
  cases i with
  |zero=>rfl
  |succ i=>cases e
 have B:∀Z:Nat->Option (List V),(∀k cs,Z k=some cs->∃t up ch,h.blk k=some (.cells cs.length t up ch)/\∀j v,cs[j]? =some v->t.get j=some v)->(∀k cs,Z k=some cs->0≠k/\(∀d,¬Up h 0 k d)/\∀d,¬Up h k 0 d)->Vw TP h lp0 (λi=>i) Z:=λZ hz P=>by
  refine⟨l8.len,λi K e=>?_,λi j _ _ e=>e,λi j d hi _=>?_,(λk cs e _=>hz k cs e),λk cs i e hi=>?_,λq Q=>⟨rfl,l8.all q Q⟩⟩
  ·obtain rfl:=y i ⟨_,e⟩
   obtain rfl:Blk.ro 256 d3=K:=by cases e;rfl
   exact⟨_,b0,.ro λj v e=>.flat (eX fD (by rw [ig];unfold bZ;omega) e)⟩
  ·rw [y i hi]
   exact d9 b0
  ·rw [y i hi]
   exact P k cs e
 have I:∀id,Kp id->cY lp0 id/\(λi:Nat=>i) id=id:=λid h=>by obtain rfl:id=0:=h;exact⟨⟨_,rfl⟩,rfl⟩
 cases gl with
 |none0=>
  obtain rfl:n=0:=by
   have:n*es=0:=D.symm;rcases Nat.mul_eq_zero.1 this with h|h
   ·exact h
   ·omega
  intro m N E0 g0 w0 E g w tmps s fr;obtain⟨C,G,J,l,A⟩:=(B (λ_=>none) (λk cs e=>by cases e) (λk cs e=>by cases e)).view I (.inl λ_=>rfl) (f1:=f) (f':=⟨(t,.nils) ::r,[]⟩) ⟨λp a=>by
   rcases List.mem_cons.1 a with rfl|a
   ·exact⟨_,e,.pure (.flat rfl)⟩
   ·exact⟨_,(x.mem p a).1,.pure (x.mem p a).2⟩,λp a=>by cases a⟩ m N E0 g0 w0 E g w tmps s fr
  refine⟨C,G,J,⟨l.1,λi v h=>?_⟩,A⟩;unfold rdn at h
  split at h
  ·rename_i o
   have h:lk ((t,V.lst 0 es []) ::r) i=some v:=h
   by_cases q:t=i
   ·subst q
    have h2:lk ((t,V.lst 0 es []) ::r) t=some (V.lst 0 es []):=by rw [@dJ noE,if_pos rfl]
    obtain rfl:V.lst 0 es []=v:=Option.some.inj (h2.symm.trans h);obtain⟨u,A,O⟩:=l.2 t .nils (by unfold rdn;rw [if_pos o];show lk ((t,V.nils) ::r) t=_;rw [@dJ noE,if_pos rfl]);refine⟨u,A,?_⟩;cases O;exact @VR.lst0 C G es
   ·rw [@dJ noE,if_neg q]at h
    exact l.2 i v (by unfold rdn;rw [if_pos o];show lk ((t,V.nils) ::r) i=_;rw [@dJ noE,if_neg q];exact h)
  ·cases h
 |@full b n' tr up ch cs o hc hn' hl at_ lt=>
  obtain rfl:n=n':=Nat.eq_of_mul_eq_mul_right L (D.symm.trans hl);intro m N E0 g0 w0 E g w tmps s fr;have z:0≠b:=λq=>by rw [<-q,b0]at o;cases o
  refine(B (λj=>if j=b then some cs else none) (λk cs' e=>?_) (λk cs' e=>?_)).view I (.inr pn) (f1:=f) (f':=⟨(t,.lst n es cs) ::r,[]⟩) ⟨λp a=>?_,λp a=>by cases a⟩ m N E0 g0 w0 E g w tmps s fr
  ·by_cases q:k=b
   ·subst q
    rw [if_pos rfl]at e;cases e;exact⟨_,_,_,by rw [hl];exact o,λi v M=>at_ i v M⟩
   ·rw [if_neg q]at e;cases e
  ·by_cases q:k=b
   ·subst q
    exact⟨z,λd=>d9 b0,λd u=>zD s.sit.wr b0 u rfl⟩
   ·rw [if_neg q]at e;cases e
  ·rcases List.mem_cons.1 a with rfl|a
   ·exact⟨_,e,.fzs (k:=b) (by rw [if_pos rfl]) hl (RnL.pure px)⟩
   ·exact⟨_,(x.mem p a).1,.pure (x.mem p a).2⟩
theorem tD:∀l:List Fu,(fuL l).length=l.length*3
 |[]=>rfl
 |x ::l=>by
  show(fuO x++fuL l).length=_;rw [List.length_append,tD l,List.length_cons];show 3+l.length*3=_;omega
end
section
theorem xX{E:En}{T:Ty}{g:G}{h:H}{w:World}(r:@WR E T g h w){i n:Nat}{tr:Tr V}{up:Option (Nat×Nat)}(c:h.blk i=some (.cells n tr up false)){j l d:Nat}(u:Up h j l d):l=i->False:=by
 induction u with
 |one e k=>
  rintro rfl;obtain⟨f,b,a,k',_⟩:=@WR.kids E _ _ _ _ r _ _ _ _ _ e k;rw [c]at a;cases a;cases k'
 |step e k u ih=>exact ih
theorem Jz{E:En}{T:Ty}{g:G}{h:H}{w:World}(r:@WR E T g h w){j l d:Nat}(u:Up h j l d):l<bZ:=by
 induction u with
 |one e k=>
  obtain⟨c,b,a,k',_⟩:=@WR.kids E _ _ _ _ r _ _ _ _ _ e k;exact Nat.lt_of_lt_of_le (@WR.top E _ _ _ _ r _ _ a) (@WR.bound E _ _ _ _ r)
 |step e k u ih=>exact ih
noncomputable section
def blG:Option (List V)->Option Blk
 |none=>none
 |some cs=>some (.cells (cD cs) (cM cs 0 .e) none false)
def lpG(L:List (Option (List V))):List (Option Blk):=some (.ro 256 d3) ::L.map blG
def HG(L:List (Option (List V)))(n:Nat):H:=⟨trO (lpG L) 0 .e,n⟩
def ji(ids:List Nat):Nat->Nat
 |0=>0
 |i+1=>(ids[i]?).getD 0
def ir:List V->Option (List V)
 |[]=>none
 |c ::cs=>some (c ::cs)
def eR(i es n:Nat):V:=match n with
 |0=>.nils
 |n+1=>.sl i 0 (n+1) 0 false es
end
theorem AS{L:List (Option (List V))}{i:Nat}(h:cY (lpG L) (i+1)):∃cs,L[i]? =some (some cs):=by
 obtain⟨b,e⟩:=h;have e:(L.map blG)[i]? =some (some b):=e;rw [List.getElem?_map]at e;cases q:L[i]? with
 |none=>rw [q]at e;cases e
 |some o=>
  cases o with
  |none=>rw [q]at e;cases e
  |some cs=>exact⟨cs,rfl⟩
theorem gW{L:List (Option (List V))}{i:Nat}{cs:List V}(h:L[i]? =some (some cs)):cY (lpG L) (i+1):=by
 refine⟨.cells (cD cs) (cM cs 0 .e) none false,?_⟩;show(L.map blG)[i]? =_;rw [List.getElem?_map,h];rfl
inductive gP(h:H)(U:Nat->Prop)(ρ:Nat->Nat)(Z:Nat->Option (List V)):Nat->List (Option (List V))->Prop
 |nil {i:Nat}:gP h U ρ Z i []
 |none {i:Nat} {L:List (Option (List V))} (r:gP h U ρ Z (i+1) L):gP h U ρ Z i (none ::L)
 |some {i:Nat} {L:List (Option (List V))} {cs':List V} {tr:Tr V} {up:Option (Nat×Nat)} (hb:h.blk (ρ i)=some (.cells (cD cs') tr up false)) (hk:cs'.length<=bZ) (at_:∀j v',cs'[j]? =some v'->∃v,tr.get j=some v/\Rn U ρ Z v' v) (r:gP h U ρ Z (i+1) L):gP h U ρ Z i (some cs' ::L)
theorem gP.get{h:H}{U:Nat->Prop}{ρ:Nat->Nat}{Z:Nat->Option (List V)}{i:Nat}{L:List (Option (List V))}(l:gP h U ρ Z i L):∀{k:Nat} {cs:List V},L[k]? =Option.some (Option.some cs)->∃tr up,h.blk (ρ (i+k))=Option.some (.cells (cD cs) tr up false)/\cs.length<=bZ/\∀j v',cs[j]? =Option.some v'->∃v,tr.get j=Option.some v/\Rn U ρ Z v' v:=by
 induction l with
 |nil=>intro k cs e;simp at e
 |none r ih=>
  intro k cs e;cases k with
  |zero=>simp at e
  |succ k=>
   have:=ih (k:=k) (by simpa using e)
   rwa [show ∀i:Nat,i+(k+1)=i+1+k by intro i;omega]
 |some hb hk at_ r ih=>
  intro k cs e;cases k with
  |zero=>
   simp at e;subst e;exact⟨_,_,hb,hk,at_⟩
  |succ k=>
   have:=ih (k:=k) (by simpa using e)
   rwa [show ∀i:Nat,i+(k+1)=i+1+k by intro i;omega]
theorem D5{ids:List Nat}(h:(0 ::ids).Nodup):∀{i j:Nat},i<=ids.length->j<=ids.length->ji ids i=ji ids j->i=j:=by
 have e:∀i,i<=ids.length->(0 ::ids)[i]? =some (ji ids i):=λi hi=>by
  cases i with
  |zero=>rfl
  |succ i=>
   show ids[i]? =some ((ids[i]?).getD 0);rw [List.getElem?_eq_getElem (by omega)];rfl
 intro i j hi a q;have h1:=e i hi;have h2:=e j a;rw [<-q]at h2;have b:i<(0 ::ids).length:=by rw [List.length_cons];omega
 exact(List.getElem?_inj b h).1 (h1.trans h2.symm)
theorem oa{h:H}{f:F}{ids:List Nat}{L:List (Option (List V))}{Z:Nat->Option (List V)}{r:AL}{n:Nat}(C:cD (lpG L)=n)(b0:h.blk 0=some (.ro 256 d3))(nd:(0 ::ids).Nodup)(I:L.length<=ids.length)(J:ids.length<1000)(live:gP h (cY (lpG L)) (ji ids) Z 1 L)
  (fz:∀k cs,Z k=some cs->k<bZ->(∃tr up,h.blk k=some (.cells cs.length tr up false)/\∀j v,cs[j]? =some v->tr.get j=some v)/\k∉0 ::ids) (B:∀p,p∈r->∃v,lk f.loc p.1=some v/\Rn (cY (lpG L)) (ji ids) Z p.2 v):fy TP Kp f h ⟨r,[]⟩ (HG L n):=by
 subst C;have D:1000<bZ:=by unfold bZ;omega
 have len:∀i,cY (lpG L) i->i<=ids.length:=λi hi=>by
  cases i with
  |zero=>omega
  |succ i=>
   obtain⟨cs,e⟩:=AS hi;have:=(List.getElem?_eq_some_iff.1 e).1;omega
 have mem:∀i,i<=ids.length->ji ids i∈0 ::ids:=λi hi=>by
  cases i with
  |zero=>exact List.mem_cons_self
  |succ i=>
   refine List.mem_cons_of_mem _ ?_;show(ids[i]?).getD 0∈ids;rw [List.getElem?_eq_getElem (by omega)];exact List.getElem_mem _
 intro m N E0 g0 w0 E g w tmps s fr;have wr:=s.sit.wr;have y:∀i j d,cY (lpG L) j->¬Up h i (ji ids j) d:=λi j d b u=>by
  cases j with
  |zero=>exact zD wr b0 u rfl
  |succ j=>
   obtain⟨cs,e⟩:=AS b;obtain⟨tr,up,a,_⟩:=live.get e;rw [Nat.add_comm 1 j]at a;exact xX wr a u rfl
 have V:Vw TP h (lpG L) (ji ids) Z:=by
  refine⟨?_,λi l e=>?_,λi j hi b q=>D5 nd (len i hi) (len j b) q,λi j d _ b=>y _ j d b,λk cs e c=>?_,λk cs i e hi=>⟨λq=>?_,λd u=>?_,λd=>y _ i d hi⟩,λq t=>?_⟩
  ·show(some (Blk.ro 256 d3) ::L.map blG).length<=bZ
   rw [List.length_cons,List.length_map];omega
  ·cases i with
   |zero=>
    obtain rfl:Blk.ro 256 d3=l:=by cases e;rfl
    exact⟨_,b0,.ro λj v e=>.flat (eX fD (by rw [ig];unfold bZ;omega) e)⟩
   |succ i=>
    obtain⟨cs,z⟩:=AS ⟨l,e⟩;obtain⟨tr,up,a,x,G⟩:=live.get z;rw [Nat.add_comm 1 i]at a;have e:(L.map blG)[i]? =some (some l):=e;rw [List.getElem?_map,z]at e;obtain rfl:Blk.cells (cD cs) (cM cs 0 .e) none false=l:=by cases e;rfl
    refine⟨_,a,.cells λj v b e=>?_⟩;rw [@cq noE]at b;rw [@dz noE cs 0 .e j (by omega),if_pos (by omega),Nat.sub_zero]at e;exact G j v e
  ·obtain⟨⟨tr,up,a,x⟩,_⟩:=fz k cs e c
   exact⟨tr,up,false,a,x⟩
  ·by_cases c:k<bZ
   ·exact(fz k cs e c).2 (q▸mem i (len i hi))
   ·have h1:ji ids i<bZ:=by
     cases i with
     |zero=>show 0<bZ;omega
     |succ i=>
      obtain⟨cs,e⟩:=AS hi;obtain⟨tr,up,a,_⟩:=live.get e;rw [Nat.add_comm 1 i]at a;exact Nat.lt_of_lt_of_le (@WR.top E TP g h w wr _ _ a) (@WR.bound E TP g h w wr)
    omega
  ·have c:=Jz wr u
   obtain⟨⟨tr,up,a,_⟩,_⟩:=fz k cs e c;exact xX wr a u rfl
  ·have e:=l8.all q t
   have o:q.1=0:=by rw [jv]at t;rw [List.mem_singleton.1 t]
   rw [o]at e ⊢;exact⟨rfl,e⟩
 exact V.view (λid h=>by obtain rfl:id=0:=h;exact⟨⟨_,rfl⟩,rfl⟩) (.inr pn) (f1:=f) (f':=⟨r,[]⟩) ⟨B,λp A=>by cases A⟩ m N E0 g0 w0 E g w tmps s fr
theorem glG{es i n:Nat}{h:H}{cs:List V}(b:h.blk i=blG (ir cs))(a:cs.length=n*es)(k:0<es)(f:cs.length<=bZ)(d:i<h.next):GL es h (eR i es n) cs:=by
 cases cs with
 |nil=>
  obtain rfl:n=0:=by
   have:n*es=0:=a.symm;rcases Nat.mul_eq_zero.1 this with h|h
   ·exact h
   ·omega
  exact .none0
 |cons c cs=>
  cases n with
  |zero=>rw [Nat.zero_mul]at a;cases a
  |succ n=>
   have b:h.blk i=some (.cells (cD (c ::cs)) (cM (c ::cs) 0 .e) none false):=b;rw [@cq noE,a]at b;refine .full b rfl (Nat.succ_pos n) a (λj v e=>?_) d;have g:=(List.getElem?_eq_some_iff.1 e).1;rw [@dz noE (c ::cs) 0 .e j (by omega),if_pos (by omega),Nat.sub_zero];exact e
theorem RnL.at{U:Nat->Prop}{ρ:Nat->Nat}{Z:Nat->Option (List V)}:∀{a b:List V},RnL U ρ Z a b->∀{j:Nat} {v':V},a[j]? =Option.some v'->∃v,b[j]? =Option.some v/\Rn U ρ Z v' v
 |_,_,.nil,j,v',e=>by simp at e
 |_,_,.cons h t,j,v',e=>by
  cases j with
  |zero=>
   simp at e;subst e;exact⟨_,rfl,h⟩
  |succ j=>exact RnL.at t (by simpa using e)
theorem gP.gl{h:H}{U:Nat->Prop}{ρ:Nat->Nat}{Z:Nat->Option (List V)}{i es:Nat}{L:List (Option (List V))}{v:V}{cs cs':List V}(g:GL es h v cs)(l:∀b n,v= .sl b 0 n 0 false es->ρ i=b)(a:RnL U ρ Z cs' cs)(f:cs.length<=bZ)(r:gP h U ρ Z (i+1) L):gP h U ρ Z i (ir cs' ::L):=by
 cases g with
 |none0=>cases a;exact .none r
 |@full b n tr up ch cs hb hc hn hl at_ lt=>
  have d:=RnL.length a;cases cs' with
  |nil=>exact .none r
  |cons c cs'=>
   subst hc;refine .some (cs':=c ::cs') (by rw [l b n rfl,@cq noE,d,hl];exact hb) (by rw [d];exact f) (λj o e=>?_) r;obtain⟨v,m,k⟩:=RnL.at a e;exact⟨v,at_ j v m,k⟩
theorem gP.box{h:H}{U:Nat->Prop}{ρ:Nat->Nat}{Z:Nat->Option (List V)}{i b n:Nat}{L:List (Option (List V))}{tr:Tr V}{up:Option (Nat×Nat)}{cs':List V}(hb:h.blk b=Option.some (.cells n tr up false))(hi:ρ i=b)(hn:cD cs'=n)(hk:cs'.length<=bZ)(at_:∀j v',cs'[j]? =Option.some v'->∃v,tr.get j=Option.some v/\Rn U ρ Z v' v)(r:gP h U ρ Z (i+1) L):gP h U ρ Z i (Option.some cs' ::L):= .some (by rw [hi,hn];exact hb) hk at_ r
theorem Rn.gl{h:H}{U:Nat->Prop}{ρ:Nat->Nat}{Z:Nat->Option (List V)}{i es n:Nat}{v:V}{cs:List V}(g:GL es h v cs)(c:∀b n,v= .sl b 0 n 0 false es->ρ i=b)(a:cs.length=n*es)(d:0<es)(e:cs≠[]->U i):Rn U ρ Z (eR i es n) v:=by
 cases g with
 |none0=>
  obtain rfl:n=0:=by
   have:n*es=0:=a.symm;rcases Nat.mul_eq_zero.1 this with h|h
   ·exact h
   ·omega
  exact .pure (.flat rfl)
 |@full b n' tr up ch cs hb hc hn hl' at_ lt=>
  obtain rfl:n=n':=Nat.eq_of_mul_eq_mul_right d (a.symm.trans hl');cases n with
  |zero=>omega
  |succ n=>
   have:=c b (n+1) rfl;subst this;exact .sl (e λq=>by rw [q]at a;rw [Nat.add_mul,Nat.one_mul]at a;simp at a;omega)
theorem Rn.glz{h:H}{U:Nat->Prop}{ρ:Nat->Nat}{Z:Nat->Option (List V)}{es n:Nat}{v:V}{cs cs' a:List V}(g:GL es h v cs)(hz:∀b n,v= .sl b 0 n 0 false es->Z b=some cs)(z0:Z bZ=some a)(c:cs.length=n*es)(e:0<es)(d:RnL U ρ Z cs' cs):Rn U ρ Z (.lst n es cs') v:=by
 cases g with
 |none0=>
  obtain rfl:n=0:=by
   have:n*es=0:=c.symm;rcases Nat.mul_eq_zero.1 this with h|h
   ·exact h
   ·omega
  cases d;exact .nil0 z0
 |@full b n' tr up ch cs hb hc hn hl' at_ lt=>
  obtain rfl:n=n':=Nat.eq_of_mul_eq_mul_right e (c.symm.trans hl');exact .fzs (hz b n rfl) c d
inductive jm(U:Nat->Prop)(ρ:Nat->Nat)(Z:Nat->Option (List V))(f:AL):AL->Prop
 |nil:jm U ρ Z f []
 |cons {t:Nat} {v v':V} {l:AL} (e:lk f t=some v) (p:Rn U ρ Z v' v) (r:jm U ρ Z f l):jm U ρ Z f ((t,v') ::l)
theorem jm.mem{U:Nat->Prop}{ρ:Nat->Nat}{Z:Nat->Option (List V)}{f:AL}:∀{l:AL},jm U ρ Z f l->∀p,p∈l->∃v,lk f p.1=some v/\Rn U ρ Z p.2 v
 |_,.nil,p,h=>by cases h
 |_,.cons e q r,p,h=>by
  rcases List.mem_cons.1 h with rfl|h
  ·exact⟨_,e,q⟩
  ·exact jm.mem r p h
def Zn:Nat->Option (List V):=λk=>if k=bZ then some []else none
theorem rC{k:Nat}{cs:List V}{Q:Prop}(e:Zn k=some cs)(a:k<bZ):Q:=by
 unfold Zn at e;rw [if_neg (by omega)]at e;cases e
def Zo(b:Nat)(cs:List V):Nat->Option (List V):=λk=>if k=b then ir cs else if k=bZ then some []else none
theorem B4{b:Nat}{cs:List V}(h:b<bZ):Zo b cs bZ=some []:=by
 unfold Zo;rw [if_neg (by omega),if_pos rfl]
theorem B3{b k:Nat}{cs cs':List V}(e:Zo b cs k=some cs')(a:k<bZ):k=b/\cs'=cs/\cs≠[]:=by
 unfold Zo at e
 by_cases q:k=b
 ·rw [if_pos q]at e
  cases cs with
  |nil=>cases e
  |cons c cs=>cases e;exact⟨q,rfl,by simp⟩
 ·rw [if_neg q,if_neg (by omega)]at e
  cases e
theorem Ia{b:Nat}{c:V}{cs:List V}:Zo b (c ::cs) b=some (c ::cs):=if_pos rfl
theorem qQ{U:Nat->Prop}{ρ:Nat->Nat}{Z:Nat->Option (List V)}{cs cs':List V}{tr:Tr V}(hr:RnL U ρ Z cs' cs)(h:∀j v,cs[j]? =some v->tr.get j=some v):∀j v',cs'[j]? =some v'->∃v,tr.get j=some v/\Rn U ρ Z v' v:=λj v' e=>by
 obtain⟨v,e1,e2⟩:=RnL.at hr e;exact⟨v,h j v e1,e2⟩
theorem iI{cs:List V}(h:cs.length<=bZ):∀j v,cs[j]? =some v->(cM cs 0 .e).get j=some v:=λj v e=>by
 have hj:=(List.getElem?_eq_some_iff.1 e).1;rw [@dz noE cs 0 .e j (by omega),if_pos (by omega),Nat.sub_zero];exact e
theorem ka{cs:List V}(h:cs≠[]):ir cs=some cs:=by
 cases cs with
 |nil=>exact absurd rfl h
 |cons c cs=>rfl
theorem gV{i n b k es:Nat}{P:Prop}(h:eR i es n= .sl b 0 k 0 false es)(q:i=b->P):P:=by
 cases n with
 |zero=>cases h
 |succ n=>cases h;exact q rfl
theorem bH{call:cN}{d:Dst}{args:List Opd}{gd:Option (Opd×Bool)}{lo hi:Nat}{l:List cj}{loc tmp:AL}{h:H}{K:Nat->Prop}{R:AL->H->Prop}{es bytes m:Nat}{v:V}{cs xs:List V}(i:cm ⟨loc,tmp⟩ gd=some true)(j:evs ⟨loc,tmp⟩ args=some [v,.lst m es xs])(g:GL es h v cs)(s:0<m)(r:xs.length=m*es)(ho:cU xs=true)(o:h.next+1<bZ)
  (c:cs.length+xs.length<1000000000) (t:m*bytes+cs.length*bytes<1099511627776) (a:0<es) (k:∀n h',GL es h' (.sl h.next 0 n 0 false es) (cs++xs)->h'.next=h.next+1->(∀id,id<h.next->(∀b n,v= .sl b 0 n 0 false es->id≠b)->h'.blk id=h.blk id)->∃loc' tmp',d7 d (.sl h.next 0 n 0 false es) loc tmp=some (loc',tmp')/\WL Tryz.prog TP K call l loc' tmp' h' R):
  WL Tryz.prog TP K call (⟨d,.e (.append es bytes none),args,gd,lo,hi⟩ ::l) loc tmp h R:=by
 obtain⟨n,h',e,g',nx,f⟩:=g.appendX (m:=m) (bytes:=bytes) (x:= .lst m es xs) (xs:=xs) (by
  show oif (Nat.beq es es) _=_;rw [Nat.beq_refl];rfl) s r ho o c (λn q=>by
   have:n<=cs.length:=by rw [q];exact Nat.le_mul_of_pos_right _ a
   have:n*bytes<=cs.length*bytes:=Nat.mul_le_mul_right _ this;rw [Nat.add_mul];omega) a
 obtain⟨loc',tmp',p,w⟩:=k n h' g' nx f;exact aK i j e p w
end
section
noncomputable section
def frL(a:Nat)(A:V)(es i:Nat):AL:=[(a,A),(3,eR 1 es i),(4,.int .i64 (Int.ofNat i))]
def frB(A:V)(es i:Nat):AL:=[(0,A),(3,eR 1 es i),(4,.int .i64 (Int.ofNat i)),(5,.ptr 2 0)]
def HL(C:List V):H:=HG [ir C] 2
def HB2(C B:List V):H:=HG [ir C,some B] 3
end
section
variable {f:AL} {a:Nat} {A:V} {es i:Nat} {C B:List V} {h:H}
theorem tE{r:AL}{Z:Nat->Option (List V)}{ids:List Nat}{L:List (Option (List V))}{v:V}(pa:bY A)(e0:lk f a=some A)(e3:lk f 3=some v)(g:GL es h v C)(hv:∀b n,v= .sl b 0 n 0 false es->ji ids 1=b)(hl:C.length=i*es)(he:0<es)(hL:L[0]? =some (ir C))
  (z:Int) (e4:lk f 4=some (.int .i64 z)) (k:jm (cY (lpG L)) (ji ids) Z f r):jm (cY (lpG L)) (ji ids) Z f ((a,A) ::(3,eR 1 es i) ::(4,.int .i64 z) ::r):=
 .cons e0 (.pure pa) (.cons e3 (Rn.gl g hv hl he λq=>gW (i:=0) (by rw [hL,ka q])) (.cons e4 (.pure (.flat rfl)) k))
theorem vL0(pa:bY A)(e0:lk f a=some A)(e3:lk f 3=some .nils)(e4:lk f 4=some (.int .i64 0)):fy TP Kp ⟨f,[]⟩ H0 ⟨frL a A es 0,[]⟩ (HL []):=
 oa (ids:=[1]) (L:=[none]) (Z:=Zn) rfl rfl (by decide) (Nat.le_refl 1) (by decide) (.none .nil) (λk cs' e hk=>rC e hk) (jm.mem (.cons e0 (.pure pa) (.cons e3 (.pure (.flat rfl)) (.cons e4 (.pure (.flat rfl)) .nil))))
theorem vLe{b n:Nat}(r:bY A)(t:0<es)(o:b≠0)(p:lk f a=some A)(m:lk f 3=some (.sl b 0 n 0 false es))(u:lk f 4=some (.int .i64 (Int.ofNat (i+1))))(b0:h.blk 0=some (.ro 256 d3))(g:GL es h (.sl b 0 n 0 false es) C)(s:C.length=(i+1)*es)(px:∀c,c∈C->bY c)(hs:C.length<=1000000000):fy TP Kp ⟨f,[]⟩ h ⟨frL a A es (i+1),[]⟩ (HL C):=by
 have kk:1000000000<bZ:=by unfold bZ;omega
 have j:∀d n',V.sl b 0 n 0 false es= .sl d 0 n' 0 false es->ji [b] 1=d:=λd n' q=>by cases q;rfl
 refine oa (ids:=[b]) (L:=[ir C]) (Z:=Zn) rfl b0 (by simpa using λq=>o q.symm) (Nat.le_refl 1) (Nat.le_of_ble_eq_true rfl) ?_ (λk cs' e l=>rC e l) (jm.mem ?_)
 ·exact gP.gl g j (.pure px) (by omega) .nil
 ·exact tE r p m g j s t rfl _ u .nil
theorem vB{g:Nat}{tr:Tr V}(x:bY A)(l:0<es)(u:lk f 0=some A)(t:lk f 3=some (eR 1 es i))(y:lk f 4=some (.int .i64 (Int.ofNat i)))(s:lk f 5=some (.ptr 2 0))(b0:h.blk 0=some (.ro 256 d3))(b1:h.blk 1=blG (ir C))(b2:h.blk 2=some (.cells g tr none false))(hg:∀j v,B[j]? =some v->tr.get j=some v)(r:cD B=g)(w:∀c,c∈B->bY c)(nx:1<h.next)
  (m:C.length=i*es) (px:∀c,c∈C->bY c) (hs:C.length<=1000000000) (z:B.length<=1000):fy TP Kp ⟨f,[]⟩ h ⟨frB A es i,[]⟩ (HB2 C B):=by
 have kk:1000000000<bZ:=by unfold bZ;omega
 have d:GL es h (eR 1 es i) C:=glG b1 m l (by omega) nx;have o:∀b n,eR 1 es i= .sl b 0 n 0 false es->ji [1,2] 1=b:=λb n q=>gV q λq=>q;refine oa (ids:=[1,2]) (L:=[ir C,some B]) (Z:=Zn) rfl b0 (by decide) (Nat.le_refl 2) (by decide) ?_ (λk cs' e p=>rC e p) (jm.mem ?_)
 ·exact gP.gl d o (.pure px) (by omega) (.box (b:=2) b2 rfl r (by omega) (qQ (.pure w) hg) .nil)
 ·exact tE (a:=0) x u t d o m l rfl _ y (.cons s (.ptr (ρ:=ji [1,2]) (i:=2) (gW (i:=1) rfl)) .nil)
theorem vLf(he:0<es)(pa:bY A)(e0:lk f a=some A)(e3:lk f 3=some (eR 1 es i))(hl:C.length=i*es)(px:∀c,c∈C->bY c)(hs:C.length<=1000000000):fy TP Kp ⟨f,[]⟩ (HL C) ⟨[(3,.lst i es C),(a,A)],[]⟩ H0:=
 xc (t:=3) (es:=es) (cs:=C) (r:=[(a,A)]) rfl (glG (i:=1) rfl hl he (by unfold bZ;omega) (Nat.le_of_ble_eq_true (n:=2) rfl)) px e3 (.cons e0 pa .nil) i hl he
theorem sE{id off n m:Nat}{tr:Tr V}{cs:List V}(i:h.blk id=some (.cells n tr none false))(a:id<bZ)(e:n<=bZ)(ho:cU cs=true)(l:Nat.beq (cD cs) m=true)(k:off+cs.length<=n):∃h',EOp.run (.store m) [.ptr id off,.agg cs] h=some (cT,h')/\h'.next=h.next/\(∀j,j≠id->h'.blk j=h.blk j)/\∃tr',h'.blk id=some (.cells n tr' none false)/\∀j,tr'.get j=if off<=j/\j<off+cs.length then cs[j-off]? else tr.get j:=by
 obtain⟨h2,g,d,b,tr',f,c⟩:=mw a e cs off h tr i ho k;refine⟨h2,?_,d,b,tr',f,c⟩;show oif (Nat.beq (cD cs) m) (ob (H.wr id cs off h) λh=>some (cT,h))=_;rw [l,g];rfl
end
structure RnP(s:Nat):Prop where
 e:∀l,bS (exL l)<s->CP 20 [.lst l.length 11 (exL l)] (.lst l.length 11 (exL (eH l)))
 c:∀l,bS (clL l)<s->CP 9 [.lst l.length 4 (clL l)] (.lst l.length 4 (clL (dD l)))
 m:∀l,bS (smL l)<s->CP 21 [.lst l.length 23 (smL l)] (.lst l.length 23 (smL (fm l)))
theorem BN(x:Ex):exL [x]=exO x++[]:=by rw [cV,exL]
theorem RnP.one{s:Nat}(R:RnP s){x:Ex}(h:bS (exO x)<s):CP 20 [.lst 1 11 (exO x++[])] (.lst 1 11 (exO (ren x)++[])):=by
 have k:=R.e [x] (by rw [BN,List.append_nil];exact h);rw [BN,show eH [x]=[ren x] by rw [eH,eH],BN]at k;exact k
theorem H8{b:ByteArray}(h:b.size<=6000000):POp.run (.bin .add) [sV b,.str 1 81]=some (sV (qn b)):=by
 show oif (Nat.blt (Nat.add b.size 1) 1099511627776) (some (V.str (Nat.add b.size 1) (Nat.add (ck b.data.toList) (Nat.shiftLeft 81 (Nat.mul 8 b.size)))))=_;rw [ltb (show b.size+1<1099511627776 by omega),IV,lI,Cv];show some (V.str _ _)=some (V.str (qn b).size (ck (qn b).data.toList));rw [nT,sP];rfl
theorem nC(y:Ex)(h:H):ROp.run (.load true 11) [.eptr (exO y++[]) 0] h=some (.agg (exO y)):=rfl
theorem A6:∀a b:List Sm,smL (a++b)=smL a++smL b
 |[],b=>by rw [smL];rfl
 |x ::a,b=>by rw [List.cons_append,fE,fE,A6 a b,List.append_assoc]
theorem sF:∀l:List Sm,(smL l).length=l.length*23
 |[]=>by rw [smL];rfl
 |x ::l=>by
  rw [fE,List.length_append,sF l,List.length_cons];show 23+l.length*23=_;omega
theorem JI(s:Sm):smL [s]=smO s:=by rw [fE,smL,List.append_nil]
theorem IJ(s:Sm):∀c,c∈smO s->bY c:=λc hc=>(ko s c hc).x
theorem Ec(l:List Sm):∀c,c∈smL l->bY c:=λc hc=>(lQ l c hc).x
theorem Ck{l:List Sm}{i:Nat}(h:i<l.length):fm (l.take (i+1))=fm (l.take i)++[iq (cK l i)]:=by
 have e:cK l i=l[i]:=by
  unfold cK;rw [List.getElem?_eq_getElem h];rfl
 rw [lW,lW,List.take_succ_eq_append_getElem h,List.map_append,e];rfl
theorem uG{a x y x' y' r:List V}{tr f g:Tr V}{p:Nat}(d:a.length=p)(h:x.length=11)(c:x'.length=11)(i:y.length=11)(b:y'.length=11)(h0:∀j v,(a++(x++(y++r)))[j]? =some v->tr.get j=some v)(h1:∀j,f.get j=if p<=j/\j<p+x'.length then x'[j-p]? else tr.get j)(h2:∀j,g.get j=if p+11<=j/\j<p+11+y'.length then y'[j-(p+11)]? else f.get j):∀j v,(a++(x'++(y'++r)))[j]? =some v->g.get j=some v:=by
 intro j v e;rw [h2,h1,c,b]
 by_cases q1:j<p
 ·rw [List.getElem?_append_left (by rw [d];exact q1)]at e
  rw [if_neg (by omega),if_neg (by omega)];exact h0 j v (by rw [List.getElem?_append_left (by rw [d];exact q1)];exact e)
 ·rw [List.getElem?_append_right (by rw [d];omega),d]at e
  by_cases q2:j<p+11
  ·rw [List.getElem?_append_left (by rw [c];omega)]at e
   rw [if_neg (by omega),if_pos (by omega)];exact e
  ·rw [List.getElem?_append_right (by rw [c];omega),c]at e
   by_cases q3:j<p+22
   ·rw [List.getElem?_append_left (by rw [b];omega)]at e
    rw [if_pos (by omega),<-e]
    congr 1
   ·rw [List.getElem?_append_right (by rw [b];omega),b]at e
    rw [if_neg (by omega),if_neg (by omega)];refine h0 j v ?_;rw [List.getElem?_append_right (by rw [d];omega),d,List.getElem?_append_right (by rw [h];omega),h,List.getElem?_append_right (by rw [i];omega),i];exact e
theorem rZ{h:H}{id n:Nat}{tr:Tr V}{cs:List V}(a:h.blk id=some (.cells n tr none false))(b:cs.length=n)(hg:∀j v,cs[j]? =some v->tr.get j=some v):ROp.run (.load true n) [.ptr id 0] h=some (.agg cs):=by
 have e:H.rd h id 0 n=some cs:=by
  show ob (ob (h.blk id) _) _=_;rw [a];show lH tr n n 0=some cs;rw [<-b];exact zp cs 0 (by omega) λj v q=>by rw [Nat.zero_add];exact hg j v q
 show ob (H.rd h id 0 n) _=_;rw [e];rfl
set_option maxHeartbeats 6400000 in
theorem f21{s:Nat}(R:RnP s){l:List Sm}(W:bS (smL l)<s+1)(hs:s<=6000000):CP 21 [.lst l.length 23 (smL l)] (.lst l.length 23 (smL (fm l))):=by
 have o:bY (.lst l.length 23 (smL l)):= .lst (Ec l);have U:=iJ l;refine cR Tryz.func21 (by decide) q21.2 rfl (cg o px0) rfl ?_
 repeat' (first
  |(refine WLg.mk ?_;first
  |refine ac ?_)|apply ab|refine aj rfl ?_|apply ae|apply aa|apply ai|apply thN|fail)
 refine az (vL0 (a:=0) (es:=23) o rfl rfl rfl) ?_;refine aA l.length (λi f h=>f=frL 0 (.lst l.length 23 (smL l)) 23 i/\h=HL (smL (fm (l.take i)))) ?_ (i:=0) (Nat.zero_le _) ⟨rfl,by rw [List.take_zero,fm,smL]⟩;rintro i _ _ hi ⟨rfl,rfl⟩;have hi2:i<9223372036854775807:=by omega
 have g:(fm (l.take i)).length=i:=by rw [fK,List.length_take];omega
 have hC:(smL (fm (l.take i))).length=i*23:=by rw [sF,g]
 cases q:ltI (Int.ofNat i) (Int.ofNat l.length)with
 |true=>
  have c:=bX q;have S:=DP (ltb c);have D:=nj (cK l i);have c1:=R.one (x:=(cK l i).pat) (by omega);have c2:=R.one (x:=(cK l i).val) (by omega);have B:=Ck c;have P:=IJ (cK l i);have I:(smL (fm (l.take i))).length<=200000000:=by rw [hC];omega
  have pc:=Ec (fm (l.take i));generalize hs:cK l i=s at*;generalize u:smL (fm (l.take i))=C at*
  repeat' (first
   |(refine WLg.mk ?_;first
   |refine ac ?_|refine av rfl rfl (ce Hy) rfl ?_|refine ap rfl rfl (hs▸fV Hy) rfl ?_|refine aI rfl rfl rfl rfl rfl ?_|refine aS rfl rfl rfl rfl rfl rfl rfl rfl rfl ?_)|apply ab|refine aj rfl ?_|apply ae|apply aa|apply ai|apply ak|refine ah rfl (λj=>?_) (λj=>Nf j)|apply thN|fail)
  have kk:1000000000<bZ:=by unfold bZ;omega
  obtain⟨h1,O,n1,o1,F,b1,M⟩:=sE (h:=⟨(HL C).t.put 2 (some (.cells 23 (cM (smO s) 0 .e) none false)),3⟩) (id:=2) (off:=1) (m:=11) (cs:=exO (ren s.pat)) rfl (by omega) (by omega) rfl rfl (Nat.le_of_ble_eq_true rfl);obtain⟨h2,J,n2,w,Q,b2,K⟩:=sE (off:=12) (m:=11) (cs:=exO (ren s.val)) b1 (by omega) (by omega) rfl rfl (Nat.le_of_ble_eq_true rfl);refine aP ?_;refine aH ?_;refine aM ?_;refine bC (cl:=exO s.pat++[]) rfl rfl rfl rfl rfl rfl (j6 s.pat) rfl ?_;refine aH ?_;refine aM ?_;refine bC (cl:=exO s.val++[]) rfl rfl rfl rfl rfl rfl (j6 s.val) rfl ?_;refine aR c1 ?_;refine aH ?_;refine aQ rfl rfl (nC _ _) rfl ?_;refine aH ?_;refine aR c2 ?_;refine aH ?_;refine aQ rfl rfl (nC _ _) rfl ?_;refine bo rfl rfl O rfl ?_;refine aH ?_;refine bo rfl rfl J rfl ?_;refine aO (.any (λh=>nC _ h) (.any (λh=>nC _ h) (.two rfl rfl (.first rfl .nil)))) ?_;have d:ROp.run (.load true 23) [.ptr 2 0] h2=some (.agg (smO (iq s))):=rZ b2 rfl (by
   have k:=uG (a:=[V.bool s.isMatch]) (x:=exO s.pat) (y:=exO s.val) (x':=exO (ren s.pat)) (y':=exO (ren s.val)) (r:=[]) (p:=1) rfl rfl rfl rfl rfl (iI (by show 23<=bZ;omega)) M K;have e:smO (iq s)=[V.bool s.isMatch]++(exO (ren s.pat)++(exO (ren s.val)++[])):=by
    show V.bool (iq s).isMatch ::(exO (iq s).pat++exO (iq s).val)=_;rw [nt,qt,sL];rfl
   rw [e];exact k)
  have nx:h2.next=3:=n2.trans n1
  have T:h2.blk 1=blG (ir C):=(w 1 (by decide)).trans (o1 1 (by decide));have E:h2.blk 0=some (.ro 256 d3):=(w 0 (by decide)).trans (o1 0 (by decide))
  repeat' (first
   |(refine WLg.mk ?_;first
   |refine ac ?_|refine ap rfl rfl d rfl ?_|refine aX (cs:=smO (iq s)) rfl rfl rfl rfl rfl rfl (IJ _) rfl ?_)|refine aj rfl ?_|apply aa|apply thN|fail)
  refine WLg.mk (bH (xs:=smO (iq s)) rfl rfl (glG (i:=1) (cs:=C) T hC (by decide) (by omega) (by omega)) (by decide) rfl rfl (by omega) (by show C.length+23<_;omega) (by omega) (by decide) λn h' g' G z=>⟨_,_,rfl,?_⟩)
  repeat' (first
   |(refine WLg.mk ?_;first
   |refine ac ?_)|apply ab|refine aj rfl ?_|apply aa|apply thN|fail)
  have b0:=(z 0 (by omega) λb n q=>gV q λq=>by omega).trans E;refine .norm ⟨_,_,vLe (a:=0) (A:= .lst l.length 23 (smL l)) (i:=i) (es:=23) o (by decide) (by omega) rfl rfl (dj hi2) b0 g' (by rw [List.length_append,hC];show i*23+23=_;omega) (λx L=>?_) (by rw [List.length_append];show C.length+23<=_;omega),c,rfl,by rw [B,A6,JI,u]⟩;rcases List.mem_append.1 L with m|m
  ·exact pc x m
  ·exact IJ _ x m
 |false=>
  have v:i=l.length:=by have:=cC q;omega
  subst v;rw [List.take_length]at hC ⊢;have pc:=Ec (fm l)
  repeat' (first
   |(refine WLg.mk ?_;first
   |refine ac ?_)|apply ab|refine aj rfl ?_|(show WC _ _ _ _ _ (.reg (⟨.t 34,_,_,_,_,_⟩ ::_)) _ _ _;refine az (vLf (a:=0) (A:= .lst l.length 23 (smL l)) (i:=l.length) (es:=23) (C:=smL (fm l)) (by decide) o rfl rfl hC pc (by omega)) ?_)|apply ae|apply aa|refine ah rfl (λj=>Nt j) (λj=>?_)|apply ax|apply am|apply thN|apply thE|apply onE|fail)
  exact⟨.inr rfl,_,rfl,.lst pc,rfl⟩
end
section
noncomputable section
def bx9(c:Cl)(v:V):List V:=[sV c.name,.lst c.pats.length 11 (exL (eH c.pats)),v,.lst c.body.length 23 (smL (fm c.body))]
def fr9(A:V)(i k:Nat):AL:=[(0,A),(3,eR 1 4 i),(4,.int .i64 (Int.ofNat i)),(5,.ptr 2 0),(6,.int .i64 (Int.ofNat k))]
def H9(C:List V)(c:Cl)(G:List V)(k:Nat):H:=HG [ir C,some (bx9 c (eR 3 1 k)),ir G] 4
end
theorem Ed(l:List Ex):bY (.lst l.length 11 (exL (eH l))):=by
 have:=pxE (eH l);rw [cZ]at this;exact this
theorem Gx(l:List Sm):bY (.lst l.length 23 (smL (fm l))):=by
 have:=pxM (fm l);rw [fK]at this;exact this
theorem Jo{c:Cl}{v:V}(h:bY v):∀x,x∈bx9 c v->bY x:=cg (.flat rfl) (cg (Ed _) (cg h (cg (Gx _) px0)))
theorem FB{U:Nat->Prop}{ρ:Nat->Nat}{Z:Nat->Option (List V)}{c:Cl}{v v':V}(h:Rn U ρ Z v' v):RnL U ρ Z (bx9 c v') (bx9 c v):= .cons (.pure (.flat rfl)) (.cons (.pure (Ed _)) (.cons h (.cons (.pure (Gx _)) .nil)))
theorem BY(c:Cl):clO (eU c)=bx9 c (.lst c.guards.length 1 (gdL (iU c.guards))):=by
 show [sV (eU c).name,.lst (eU c).pats.length 11 (exL (eU c).pats),.lst (eU c).guards.length 1 (gdL (eU c).guards),.lst (eU c).body.length 23 (smL (eU c).body)]=_;rw [pA,gT,j9,nS,cZ,pr,fK];rfl
theorem BE:∀a b:List (List Ex),gdL (a++b)=gdL a++gdL b
 |[],b=>by rw [gdL];rfl
 |x ::a,b=>by rw [List.cons_append,gdL,gdL,BE a b];rfl
theorem Kj(g:List Ex):gdL [g]=[.lst g.length 11 (exL g)]:=by
 rw [gdL,gdL]
theorem tu:∀l:List (List Ex),(gdL l).length=l.length
 |[]=>by rw [gdL];rfl
 |x ::l=>by
  rw [gdL,List.length_cons,tu l,List.length_cons]
theorem LR(l:List (List Ex)):∀c,c∈gdL l->bY c:=λc hc=>(pK l c hc).x
theorem Fx(l:List Cl)(c:Cl):clL (l++[c])=clL l++clO c:=by
 have key:∀a b:List Cl,clL (a++b)=clL a++clL b:=λa b=>by
  induction a with
  |nil=>rw [clL];rfl
  |cons x a ih=>rw [List.cons_append,fj,fj,ih,List.append_assoc]
 rw [key,fj,clL,List.append_nil]
theorem BV:∀l:List Cl,(clL l).length=l.length*4
 |[]=>by rw [clL];rfl
 |x ::l=>by
  rw [fj,List.length_append,BV l,List.length_cons];show 4+l.length*4=_;omega
theorem J5(c:Cl):∀x,x∈clO c->bY x:=λx hx=>(hO c x hx).x
theorem Cp{l:List Cl}{i:Nat}(h:i<l.length):dD (l.take (i+1))=dD (l.take i)++[eU (bV l i)]:=by
 have e:bV l i=l[i]:=by
  unfold bV;rw [List.getElem?_eq_getElem h];rfl
 rw [jC,jC,List.take_succ_eq_append_getElem h,List.map_append,e];rfl
theorem Cm{l:List (List Ex)}{i:Nat}(h:i<l.length):iU (l.take (i+1))=iU (l.take i)++[eH (dm l i)]:=by
 have e:dm l i=l[i]:=by
  unfold dm;rw [List.getElem?_eq_getElem h];rfl
 rw [lX,lX,List.take_succ_eq_append_getElem h,List.map_append,e];rfl
theorem qv{cs:List V}{k:Nat}{v:V}(hk:k<cs.length)(hl:cs.length<=bZ):∀j w,(cs.set k v)[j]? =some w->((cM cs 0 .e).put k (some v)).get j=some w:=λj w e=>by
 rw [Tr.get_put _ _ _ _ (by omega)]
 by_cases q:j=k
 ·subst q
  rw [List.getElem?_set_self hk]at e;rw [if_pos rfl];exact e
 ·rw [List.getElem?_set_ne (λe=>q e.symm)]at e
  rw [if_neg q];exact iI hl j w e
section
variable {f:AL} {A:V} {i k n:Nat} {C G:List V} {c:Cl} {h:H}
theorem v9a{tr:Tr V}(s:bY A)(r:lk f 0=some A)(p:lk f 3=some (eR 1 4 i))(u:lk f 4=some (.int .i64 (Int.ofNat i)))(o:lk f 5=some (.ptr 2 0))(t:lk f 6=some (.int .i64 0))(b0:h.blk 0=some (.ro 256 d3))(b1:h.blk 1=blG (ir C))(b2:h.blk 2=some (.cells 4 tr none false))(hg:∀j v,(bx9 c .nils)[j]? =some v->tr.get j=some v)(nx:1<h.next)
  (g:C.length=i*4) (px:∀c,c∈C->bY c) (hs:C.length<=1000000000):fy TP Kp ⟨f,[]⟩ h ⟨fr9 A i 0,[]⟩ (H9 C c [] 0):=by
 have kk:1000000000<bZ:=by unfold bZ;omega
 have d:GL 4 h (eR 1 4 i) C:=glG b1 g (by decide) (by omega) nx;have l:∀b n,eR 1 4 i= .sl b 0 n 0 false 4->ji [1,2,3] 1=b:=λb n q=>gV q λq=>q;refine oa (ids:=[1,2,3]) (L:=[ir C,some (bx9 c .nils),none]) (Z:=Zn) rfl b0 (by decide) (Nat.le_refl 3) (by decide) ?_ (λk cs' e m=>rC e m) (jm.mem ?_)
 ·exact gP.gl d l (.pure px) (by omega) (.box (b:=2) b2 rfl rfl (by show 4<=bZ;omega) (qQ (.pure (Jo (.flat rfl))) hg) (.none .nil))
 ·exact tE (a:=0) s r p d l g (by decide) rfl _ u (.cons o (.ptr (ρ:=ji [1,2,3]) (i:=2) (gW (i:=1) rfl)) (.cons t (.pure (.flat rfl)) .nil))
theorem v9b{tr:Tr V}(u:bY A)(t:lk f 0=some A)(z:lk f 3=some (eR 1 4 i))(D:lk f 4=some (.int .i64 (Int.ofNat i)))(x:lk f 5=some (.ptr 2 0))(w:lk f 6=some (.int .i64 (Int.ofNat (k+1))))(b0:h.blk 0=some (.ro 256 d3))(b1:h.blk 1=blG (ir C))(b2:h.blk 2=some (.cells 4 tr none false))(hg:∀j v,(bx9 c (.sl 4 0 n 0 false 1))[j]? =some v->tr.get j=some v)(g:GL 1 h (.sl 4 0 n 0 false 1) G)(nx:1<h.next)
  (r:C.length=i*4) (px:∀c,c∈C->bY c) (hs:C.length<=1000000000) (d:G.length=k+1) (y:∀c,c∈G->bY c) (m:k<100000000):fy TP Kp ⟨f,[]⟩ h ⟨fr9 A i (k+1),[]⟩ (H9 C c G (k+1)):=by
 have kk:1000000000<bZ:=by unfold bZ;omega
 have o:GL 4 h (eR 1 4 i) C:=glG b1 r (by decide) (by omega) nx;have l:∀b n,eR 1 4 i= .sl b 0 n 0 false 4->ji [1,2,4] 1=b:=λb n q=>gV q λq=>q;have p:∀b n',V.sl 4 0 n 0 false 1= .sl b 0 n' 0 false 1->ji [1,2,4] 3=b:=λb n' q=>by cases q;rfl
 have B:G≠[]:=λq=>by rw [q]at d;cases d
 have s:cY (lpG [ir C,some (bx9 c (eR 3 1 (k+1))),ir G]) 3:=gW (i:=2) (by rw [ka B];rfl);refine oa (ids:=[1,2,4]) (L:=[ir C,some (bx9 c (eR 3 1 (k+1))),ir G]) (Z:=Zn) rfl b0 (by decide) (Nat.le_refl 3) (by decide) ?_ (λk cs' e m=>rC e m) (jm.mem ?_)
 ·refine gP.gl o l (.pure px) (by omega) (.box (b:=2) b2 rfl rfl (by show 4<=bZ;omega) (qQ (FB ?_) hg) (gP.gl g p (.pure y) (by omega) .nil))
  exact Rn.gl (i:=3) g p (by rw [d,Nat.mul_one]) (by decide) λ_=>s
 ·exact tE (a:=0) u t z o l r (by decide) rfl _ D (.cons x (.ptr (ρ:=ji [1,2,4]) (i:=2) (gW (i:=1) rfl)) (.cons w (.pure (.flat rfl)) .nil))
theorem v9c(z:bY A)(y:lk f 0=some A)(v:lk f 3=some (eR 1 4 i))(B:lk f 4=some (.int .i64 (Int.ofNat i)))(t:lk f 5=some (.ptr 2 0))(hh:h=H9 C c G k)(r:C.length=i*4)(px:∀c,c∈C->bY c)(hs:C.length<=1000000000)(d:G.length=k)(u:∀c,c∈G->bY c)(m:k<100000000):fy TP Kp ⟨f,[]⟩ h ⟨frB A 4 i,[]⟩ (HB2 C (bx9 c (.lst k 1 G))):=by
 subst hh;have kk:1000000000<bZ:=by unfold bZ;omega
 have o:GL 4 (H9 C c G k) (eR 1 4 i) C:=glG rfl r (by decide) (by omega) (Nat.le_of_ble_eq_true (n:=2) rfl);have s:GL 1 (H9 C c G k) (eR 3 1 k) G:=glG rfl (by rw [d,Nat.mul_one]) (by decide) (by omega) (Nat.le_of_ble_eq_true (n:=4) rfl);have z0:Zo 3 G bZ=some []:=B4 (by omega);have p:∀b n,eR 1 4 i= .sl b 0 n 0 false 4->ji [1,2] 1=b:=λb n q=>gV q λq=>q;have x:∀b n,eR 3 1 k= .sl b 0 n 0 false 1->Zo 3 G b=some G:=λb n q=>by
  cases k with
  |zero=>cases q
  |succ k=>
   cases q;cases w:G with
   |nil=>rw [w]at d;cases d
   |cons c cs=>exact Ia
 refine oa (ids:=[1,2]) (L:=[ir C,some (bx9 c (.lst k 1 G))]) (Z:=Zo 3 G) rfl rfl (by decide) (Nat.le_refl 2) (by decide) ?_ (λk cs' e m=>?_) (jm.mem ?_)
 ·refine gP.gl o p (.pure px) (by omega) (.box (b:=2) rfl rfl rfl (by show 4<=bZ;omega) (qQ (FB ?_) (iI (by show 4<=bZ;omega))) .nil)
  exact Rn.glz s x z0 (by rw [d,Nat.mul_one]) (by decide) (.pure u)
 ·obtain⟨l,g,j⟩:=B3 e m
  rw [l,g];refine⟨?_,by decide⟩;cases q:G with
  |nil=>exact absurd q j
  |cons c cs'=>
   refine⟨cM (c ::cs') 0 .e,none,?_,iI (by rw [<-q];omega)⟩;show some (Blk.cells (cD (c ::cs')) _ _ _)=_;rw [@cq noE]
 ·exact tE (a:=0) z y v o p r (by decide) rfl _ B (.cons t (.ptr (ρ:=ji [1,2]) (i:=2) (gW (i:=1) rfl)) .nil)
end
set_option maxHeartbeats 6400000 in
theorem f9{s:Nat}(R:RnP s){l:List Cl}(hl:bS (clL l)<s+1)(hs:s<=6000000):CP 9 [.lst l.length 4 (clL l)] (.lst l.length 4 (clL (dD l))):=by
 have u:bY (.lst l.length 4 (clL l)):= .lst λc hc=>(kR l c hc).x;have hn:=fR l;have kk:1000000000<bZ:=by unfold bZ;omega
 refine cR Tryz.func9 (by decide) q9.2 rfl (cg u px0) rfl ?_
 repeat' (first
  |(refine WLg.mk ?_;first
  |refine ac ?_)|apply ab|refine aj rfl ?_|apply ae|apply aa|apply ai|apply thN|fail)
 refine az (vL0 (a:=0) (es:=4) u rfl rfl rfl) ?_;refine aA l.length (λi f h=>f=frL 0 (.lst l.length 4 (clL l)) 4 i/\h=HL (clL (dD (l.take i)))) ?_ (i:=0) (Nat.zero_le _) ⟨rfl,by rw [List.take_zero,dD,clL]⟩;rintro i _ _ hi ⟨rfl,rfl⟩;have hi2:i<9223372036854775807:=by omega
 have B:(dD (l.take i)).length=i:=by rw [d5,List.length_take];omega
 have hC:(clL (dD (l.take i))).length=i*4:=by rw [BV,B]
 have T:(clL (dD (l.take i))).length<=200000000:=by rw [hC];omega
 have pc:∀c,c∈clL (dD (l.take i))->bY c:=λc hc=>(kR _ c hc).x;cases q:ltI (Int.ofNat i) (Int.ofNat l.length)with
 |true=>
  have D:=bX q;have d:Nat.blt i l.length=true:=q;have a2:=oh d;have a3:=gM (bV l i);have c1:=R.e (bV l i).pats (by omega);have c2:=R.m (bV l i).body (by omega);have a4:=j0 (bV l i).guards;have et:=Cp D;generalize L:clL (dD (l.take i))=C at*
  repeat' (first
   |(refine WLg.mk ?_;first
   |refine ac ?_)|apply ab|refine aj rfl ?_|apply ae|apply aa|apply ai|apply ak|refine ah rfl (λg=>?_) (λg=>Nf g)|apply thN|fail)
  obtain⟨h1,w1,n1,o1,S,b1,Y⟩:=sE (h:=⟨(HL C).t.put 2 (some (.cells 4 (cM z4 0 .e) none false)),3⟩) (id:=2) (off:=0) (m:=4) (cs:=bx9 (bV l i) .nils) rfl (by omega) (by omega) rfl rfl (Nat.le_of_ble_eq_true rfl);refine WC.regP rF mixed 2 (b:= .cells 4 (cM z4 0 .e) none false) rfl rfl rfl ?_;refine WP.p0 ?_;refine WP.p0 ?_;refine WP.p rfl rfl (ce d) rfl ?_;refine WP.p0 ?_;refine WP.r rfl rfl (dy d rfl) rfl ?_;refine WP.p0 ?_;refine WP.p0 ?_;refine WP.p rfl rfl (ce d) rfl ?_;refine WP.p0 ?_;refine WP.r rfl rfl (dy d rfl) rfl ?_;refine WP.p0 ?_;refine WP.p0 ?_;refine WP.p rfl rfl (ce d) rfl ?_;refine WP.p0 ?_;refine WP.r rfl rfl (dy d rfl) rfl ?_;refine WP.al rfl rfl rfl (show(⟨(HL C).t.put 2 (some (.cells 4 (cM z4 0 .e) none false)),3⟩:H).blk 2=some (.cells 4 (cM z4 0 .e) none false)from rfl) rfl rfl rfl ?_;refine WP.c rfl rfl rfl c1 rfl ?_;refine WP.c rfl rfl rfl c2 rfl ?_;refine WP.p0 ?_;refine WP.w rfl rfl w1 rfl rfl ?_;refine WP.nil (.any (λh=>dy d rfl) (.any (λh=>dy d rfl) (.any (λh=>dy d rfl) .nil))) ?_
  repeat' (first
   |(refine WLg.mk ?_;first
   |refine ac ?_)|apply ab|refine aj rfl ?_|apply ae|apply aa|apply ai|apply thN|fail)
  refine az (v9a (A:= .lst l.length 4 (clL l)) (i:=i) (C:=C) (c:=bV l i) u rfl rfl rfl rfl rfl (by rw [o1 0 (by decide)];rfl) (by rw [o1 1 (by decide)];rfl) b1 (λj v e=>by
   have hj:=(List.getElem?_eq_some_iff.1 e).1;rw [Y,if_pos ⟨Nat.zero_le j,by omega⟩];exact e) (by rw [n1];exact Nat.le_of_ble_eq_true (n:=2) rfl) hC pc (by omega)) ?_
  refine aA (bV l i).guards.length (λk f h=>f=fr9 (.lst l.length 4 (clL l)) i k/\h=H9 C (bV l i) (gdL (iU ((bV l i).guards.take k))) k) ?_ (i:=0) (Nat.zero_le _) ⟨rfl,by rw [List.take_zero,iU,gdL]⟩;clear c1 c2 w1 n1 o1 b1 Y;clear S h1;rintro k _ _ hk ⟨rfl,rfl⟩;have J:k<9223372036854775807:=by omega
  have I:(gdL (iU ((bV l i).guards.take k))).length=k:=by rw [tu,pr,List.length_take];omega
  have P:=LR (iU ((bV l i).guards.take k));cases O:ltI (Int.ofNat k) (Int.ofNat (bV l i).guards.length)with
  |true=>
   have E:=bX O;have o:Nat.blt k (bV l i).guards.length=true:=O;have a0:=tq o;have c3:=R.e (dm (bV l i).guards k) (by omega);have eg:gdL (iU ((bV l i).guards.take (k+1)))=gdL (iU ((bV l i).guards.take k))++[.lst (dm (bV l i).guards k).length 11 (exL (eH (dm (bV l i).guards k)))]:=by rw [Cm E,BE,Kj,cZ]
   have W:bY (.lst (dm (bV l i).guards k).length 11 (exL (eH (dm (bV l i).guards k)))):=Ed _;rw [eg];generalize a5:gdL (iU ((bV l i).guards.take k))=G at*;generalize Z:V.lst (dm (bV l i).guards k).length 11 (exL (eH (dm (bV l i).guards k)))=y at*;have ty:cQ y=true:=by rw [<-Z];rfl
   obtain⟨n,h1,a1,g',nx,z⟩:=GL.appendX (bytes:=24) (m:=1) (xs:=[y]) (x:= .lst 1 1 [y]) (glG (i:=3) (h:=H9 C (bV l i) G k) (cs:=G) rfl (by rw [I,Nat.mul_one]) (by decide) (by omega) (Nat.le_of_ble_eq_true (n:=4) rfl):GL 1 _ (eR 3 1 k) G) rfl (by decide) rfl (by show(Bool.rec (motive:=λ_=>Bool) false (cU []) (cQ y):Bool)=true;rw [ty];rfl) (by show 4+1<bZ;omega) (by simp only [List.length_singleton];omega) (λn q=>by omega) (by decide);have b2:h1.blk 2=some (.cells 4 (cM (bx9 (bV l i) (eR 3 1 k)) 0 .e) none false):=z 2 (Nat.le_of_ble_eq_true (n:=3) rfl) λb n q=>gV q λq=>by omega
   have b0:h1.blk 0=some (.ro 256 d3):=z 0 (Nat.le_of_ble_eq_true (n:=1) rfl) λb n q=>gV q λq=>by omega
   have b1:h1.blk 1=blG (ir C):=z 1 (Nat.le_of_ble_eq_true (n:=2) rfl) λb n q=>gV q λq=>by omega
   have w2:=iH (j:=2) (v:= .sl 4 0 n 0 false 1) b2 rfl rfl (by decide);have F:∀j,(⟨h1.t.put 2 (some (.cells 4 ((cM (bx9 (bV l i) (eR 3 1 k)) 0 .e).put 2 (some (.sl 4 0 n 0 false 1))) none false)),h1.next⟩:H).blk j=if j=2 then some (.cells 4 ((cM (bx9 (bV l i) (eR 3 1 k)) 0 .e).put 2 (some (.sl 4 0 n 0 false 1))) none false)else h1.blk j:=λj=>gO (by omega)
   repeat' (first
    |(refine WLg.mk ?_;first
    |refine ac ?_|refine av rfl rfl (ce Hy) rfl ?_|refine ap rfl rfl (dy Hy rfl) rfl ?_)|apply ab|refine aj rfl ?_|apply ae|apply aa|apply ai|apply ak|refine ah rfl (λg=>?_) (λg=>Nf g)|apply thN|fail)
   refine aP ?_;refine aH ?_;refine aM ?_;refine aH ?_;refine aH ?_;refine aU rfl rfl (ce d) rfl ?_;refine aH ?_;refine aQ rfl rfl (dy d rfl) rfl ?_;refine aH ?_;refine aU rfl rfl (ce o) rfl ?_;refine aQ rfl rfl (dY (j:=0) (nD o) rfl _) rfl ?_;refine aR c3 ?_;refine bC (cl:=[y]) rfl rfl (by show jT [(0,1)] [y] (ku [V.nils] 1)=some [y];rw [<-Z];rfl) (by show(Bool.rec (motive:=λ_=>Bool) false (cU []) (cQ y):Bool)=true;rw [ty];rfl) rfl rfl (cg W px0) rfl ?_;refine bo rfl rfl a1 rfl ?_;refine aH ?_;refine bo rfl rfl w2 rfl ?_;refine aO (.any (λh=>dY (j:=0) (nD o) rfl h) (.any (λh=>dy d rfl) (.two rfl rfl .nil))) ?_
   repeat' (first
    |(refine WLg.mk ?_;first
    |refine ac ?_)|apply ab|refine aj rfl ?_|apply aa|apply thN|fail)
   refine .norm ⟨_,_,v9b (A:= .lst l.length 4 (clL l)) (i:=i) (k:=k) (C:=C) (c:=bV l i) u rfl rfl rfl rfl (dj J) (by rw [F,if_neg (by decide)];exact b0) (by rw [F,if_neg (by decide)];exact b1) (by rw [F,if_pos rfl]) (qv (cs:=bx9 (bV l i) (eR 3 1 k)) (k:=2) (by show 2<4;decide) (by show 4<=bZ;omega)) (g'.mono (Nat.le_refl _) λb n q _=>?_) (by show 1<h1.next;rw [nx];exact Nat.le_of_ble_eq_true (n:=2) rfl) hC pc (by omega) (by rw [List.length_append,I];rfl) (λx M=>?_) (by omega),E,rfl,rfl⟩
   ·rw [F,if_neg (by cases q;exact λe=>absurd (show(4:Nat)=2 from e) (by decide))]
   ·rcases List.mem_append.1 M with m|m
    ·exact P x m
    ·rw [List.mem_singleton.1 m];exact W
  |false=>
   have U:k=(bV l i).guards.length:=by have:=cC O;omega
   subst U;rw [List.take_length]at I P ⊢;have K:=J5 (eU (bV l i));rw [BY]at K
   repeat' (first
    |(refine WLg.mk ?_;first
    |refine ac ?_|refine av rfl rfl (ce Hy) rfl ?_|refine au ?_|refine ap rfl rfl (dy Hy rfl) rfl ?_|refine aX (cs:=bx9 (bV l i) (.lst (bV l i).guards.length 1 (gdL (iU (bV l i).guards)))) rfl rfl rfl rfl rfl rfl K rfl ?_)|apply ab|refine aj rfl ?_|(show WC _ _ _ _ _ (.reg (⟨.t 55,_,_,_,_,_⟩ ::_)) _ _ _;refine az (v9c (A:= .lst l.length 4 (clL l)) (i:=i) (C:=C) (c:=bV l i) u rfl rfl rfl rfl rfl hC pc (by omega) I P (by omega)) ?_)|apply ae|apply aa|refine ah rfl (λg=>Nt g) (λg=>?_)|apply ax|apply thN|apply thE|apply onE|fail)
   refine WLg.mk (bH (xs:=bx9 (bV l i) (.lst (bV l i).guards.length 1 (gdL (iU (bV l i).guards)))) rfl rfl (glG (i:=1) (cs:=C) rfl hC (by decide) (by omega) (Nat.le_of_ble_eq_true (n:=2) rfl)) (by decide) rfl rfl (by show 3+1<bZ;omega) (by show C.length+4<_;omega) (by omega) (by decide) λn h' g' nx z=>⟨_,_,rfl,?_⟩)
   repeat' (first
    |(refine WLg.mk ?_;first
    |refine ac ?_)|apply ab|refine aj rfl ?_|apply aa|apply thN|fail)
   have b0:=z 0 (Nat.le_of_ble_eq_true (n:=1) rfl) λb n q=>gV q λq=>by omega
   have e2:clL (dD (l.take (i+1)))=C++bx9 (bV l i) (.lst (bV l i).guards.length 1 (gdL (iU (bV l i).guards))):=by rw [et,Fx,L,BY]
   refine .norm ⟨_,_,vLe (a:=0) (A:= .lst l.length 4 (clL l)) (i:=i) (es:=4) u (by decide) (show(3:Nat)≠0 by decide) rfl rfl (dj hi2) b0 g' (by rw [List.length_append,hC];show i*4+4=_;omega) (λx M=>?_) (by rw [List.length_append];show C.length+4<=_;omega),D,rfl,by rw [e2]⟩;rcases List.mem_append.1 M with m|m
   ·exact pc x m
   ·exact K x m
 |false=>
  have Q:i=l.length:=by have:=cC q;omega
  subst Q;rw [List.take_length]at hC pc T ⊢
  repeat' (first
   |(refine WLg.mk ?_;first
   |refine ac ?_)|apply ab|refine aj rfl ?_|(show WC _ _ _ _ _ (.reg (⟨.t 59,_,_,_,_,_⟩ ::_)) _ _ _;refine az (vLf (a:=0) (A:= .lst l.length 4 (clL l)) (i:=l.length) (es:=4) (C:=clL (dD l)) (by decide) u rfl rfl hC pc (by omega)) ?_)|apply ae|apply aa|refine ah rfl (λg=>Nt g) (λg=>?_)|apply ax|apply am|apply thN|apply thE|apply onE|fail)
  exact⟨.inr rfl,_,rfl,.lst pc,rfl⟩
end
end Ev
end Go.Proofs.YtdfphfdnoobikaaGreatDoor
