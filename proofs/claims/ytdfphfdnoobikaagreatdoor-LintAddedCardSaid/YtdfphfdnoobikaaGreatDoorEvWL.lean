/-
  The calculus of ways,on frames that are written out.
-/
import Derived.Test.YtdfphfdnoobikaaGreatDoorEvLoc
namespace Go.Proofs.YtdfphfdnoobikaaGreatDoor
namespace Ev
noncomputable section
def s9(l:AL)(t:Nat)(v:V):Option AL:=
 List.rec (motive:=λ_=>Option AL) (some [(t,v)]) (λp tl ih=>Bool.rec (motive:=λ_=>Option AL) (ob ih λr=>some (p ::r)) (some ((t,v) ::tl)) (Nat.beq p.1 t)) l
end
theorem lD:∀{l:AL} {t:Nat} {v:V} {l':AL},s9 l t v=some l'->upd l t v=l'
 |[],t,v,l',h=>by cases h;rfl
 |p ::tl,t,v,l',h=>by
  rw [@qa noE];have h:(Bool.rec (motive:=λ_=>Option AL) (ob (s9 tl t v) λr=>some (p ::r)) (some ((t,v) ::tl)) (Nat.beq p.1 t):Option AL)=some l':=h
  by_cases q:p.1=t
  ·rw [if_pos q]
   rw [show Nat.beq p.1 t=true by simpa using q]at h;cases h;rfl
  ·rw [if_neg q]
   rw [show Nat.beq p.1 t=false by rw [Bool.eq_false_iff];exact λk=>q (Nat.eq_of_beq_eq_true k)]at h;obtain⟨r,h1,h2⟩:=bE.1 h;cases h2;rw [lD h1]
section
variable {P:Program} {T:Ty} {K:Nat->Prop} {call:cB} {n:Nat}
structure WL(P:Program)(T:Ty)(K:Nat->Prop)(call:cB)(l:List bS)(loc tmp:AL)(h:H)(R:AL->H->Prop):Prop where
 out:WO P T K call l ⟨loc,tmp⟩ h λf' h'=>R f'.loc h'
structure WC(P:Program)(T:Ty)(K:Nat->Prop)(call:cB)(n:Nat)(c:ci)(loc:AL)(h:H)(Q:X->AL->H->Prop):Prop where
 out:W P T K call n c ⟨loc,[]⟩ h λx f' h'=>f'.tmp=[]/\Q x f'.loc h'
noncomputable def fA(d:Dst)(v:V)(loc tmp:AL):Option (AL×AL):=Dst.rec (motive:=λ_=>Option (AL×AL)) (some (loc,tmp)) (λt=>ob (s9 loc t v) λl=>some (l,tmp)) (λt=>some (loc,(t,v) ::tmp)) d
theorem fI{d:Dst}{v:V}{loc tmp loc' tmp':AL}(p:fA d v loc tmp=some (loc',tmp')):d.put ⟨loc,tmp⟩ v=⟨loc',tmp'⟩:=by
 cases d with
 |no=>cases p;rfl
 |t t=>cases p;rfl
 |l t=>
  obtain⟨r,h1,h2⟩:=bE.1 (show ob (s9 loc t v) (λl=>some (l,tmp))=some (loc',tmp')from p);cases h2;show(⟨upd loc _ v,tmp⟩:F)=_;rw [lD h1]
noncomputable def kP(l:List V):Nat->Option AL:=List.rec (motive:=λ_=>Nat->Option AL) (λ_=>some []) (λv _ ih i=>ob (ih (Nat.succ i)) λr=>some ((i,v) ::r)) l
theorem lH:∀{l:List V} {i:Nat} {r:AL},kP l i=some r->dG l i=r
 |[],i,r,h=>by cases h;rfl
 |v ::l,i,r,h=>by
  obtain⟨q,h1,h2⟩:=bE.1 (show ob (kP l (Nat.succ i)) (λr=>some ((i,v) ::r))=some r from h);cases h2;show(i,v) ::dG l (Nat.succ i)=_;rw [lH h1]
section
variable {loc tmp loc' tmp':AL} {h h1:H} {l:List bS} {R:AL->H->Prop} {d:Dst} {args:List Opd} {gd:Option (Opd×Bool)} {lo hi:Nat} {vs vs':List V} {v:V}
theorem ac(k:R loc h):WL P T K call [] loc tmp h R:=⟨WO.nil k⟩
theorem aa{o:POp}(e0:bX ⟨loc,tmp⟩ gd=some true)(e1:evs ⟨loc,tmp⟩ args=some vs)(e2:o.run vs=some v)(e3:fA d v loc tmp=some (loc',tmp'))(k:WL P T K call l loc' tmp' h R):WL P T K call (⟨d,.p o,args,gd,lo,hi⟩ ::l) loc tmp h R:=by
 refine⟨bA (f1:=⟨loc',tmp'⟩) (h1:=h) ?_ k.out⟩;show ob (bX _ gd) _=_;rw [e0];show ob (evs _ args) _=_;rw [e1];show ob (ob (o.run vs) λv=>some (v,h)) (λr=>some (d.put _ r.1,r.2))=_;rw [e2,<-fI e3];rfl
theorem ab{o:ROp}(e0:bX ⟨loc,tmp⟩ gd=some true)(e1:evs ⟨loc,tmp⟩ args=some vs)(e2:o.run vs h=some v)(e3:fA d v loc tmp=some (loc',tmp'))(k:WL P T K call l loc' tmp' h R):WL P T K call (⟨d,.r o,args,gd,lo,hi⟩ ::l) loc tmp h R:=by
 refine⟨bA (f1:=⟨loc',tmp'⟩) (h1:=h) ?_ k.out⟩;show ob (bX _ gd) _=_;rw [e0];show ob (evs _ args) _=_;rw [e1];show ob (ob (o.run vs h) λv=>some (v,h)) (λr=>some (d.put _ r.1,r.2))=_;rw [e2,<-fI e3];rfl
theorem aE{o:COp}(e0:bX ⟨loc,tmp⟩ gd=some true)(e1:evs ⟨loc,tmp⟩ args=some vs)(e2:o.run call vs h=some (v,h1))(e3:fA d v loc tmp=some (loc',tmp'))(k:WL P T K call l loc' tmp' h1 R):WL P T K call (⟨d,o,args,gd,lo,hi⟩ ::l) loc tmp h R:=by
 refine⟨bA (f1:=⟨loc',tmp'⟩) (h1:=h1) ?_ k.out⟩;show ob (bX _ gd) _=_;rw [e0];show ob (evs _ args) _=_;rw [e1];show ob (o.run call vs h) (λr=>some (d.put _ r.1,r.2))=_;rw [e2,<-fI e3];rfl
theorem ay{o:COp}(e0:bX ⟨loc,tmp⟩ gd=some false)(e3:fA d cG loc tmp=some (loc',tmp'))(k:WL P T K call l loc' tmp' h R):WL P T K call (⟨d,o,args,gd,lo,hi⟩ ::l) loc tmp h R:=by
 refine⟨bA (f1:=⟨loc',tmp'⟩) (h1:=h) ?_ k.out⟩;show ob (bX _ gd) _=_;rw [e0,<-fI e3];rfl
structure WLg(P:Program)(T:Ty)(K:Nat->Prop)(call:cB)(l:List bS)(loc tmp:AL)(h:H)(R:AL->H->Prop):Prop where
 out:WL P T K call l loc tmp h R
theorem ae{o:COp}(_e0:bX ⟨loc,tmp⟩ gd=some true)(k:WLg P T K call (⟨d,o,args,gd,lo,hi⟩ ::l) loc tmp h R):WL P T K call (⟨d,o,args,gd,lo,hi⟩ ::l) loc tmp h R:=k.out
theorem au{o:COp}{M:Nat->Prop}{fn:FuncId}(e0:bX ⟨loc,tmp⟩ gd=some true)(e1:evs ⟨loc,tmp⟩ args=some vs)(ec:gX o vs=some (fn,vs'))(c:Con P T M fn vs' h v h1)(hK:∀id,K id->¬M id)(hf:gZ M ⟨loc,tmp⟩)
  (e3:fA d v loc tmp=some (loc',tmp')) (k:WL P T K call l loc' tmp' h1 R):WL P T K call (⟨d,o,args,gd,lo,hi⟩ ::l) loc tmp h R:=by
 refine⟨WO.con e0 e1 ec c hK hf ?_⟩;show WO P T K call l (d.put ⟨loc,tmp⟩ v) h1 _;rw [fI e3];exact k.out
theorem aq{o:COp}{fn:FuncId}(e0:bX ⟨loc,tmp⟩ gd=some true)(e1:evs ⟨loc,tmp⟩ args=some vs)(ec:gX o vs=some (fn,vs'))(c:lx P T fn vs' v)
  (e3:fA d v loc tmp=some (loc',tmp')) (k:WL P T K call l loc' tmp' h R):WL P T K call (⟨d,o,args,gd,lo,hi⟩ ::l) loc tmp h R:=au e0 e1 ec (c.con h noM) (λ_ _ q=>q) .none e3 k
theorem bD{ao:AOp}{cs:List V}{mk:Nat->V}(e0:bX ⟨loc,tmp⟩ gd=some true)(e1:evs ⟨loc,tmp⟩ args=some vs)(er:ao.run vs=some (.cells cs.length (cq cs 0 .e) none false,mk))
  (hz:Frz cs mk v) (hl:cs.length<=bR) (hf:∀c,c∈cs->dg (λid=>id=h.next) c) (e3:fA d v loc tmp=some (loc',tmp')) (k:WL P T K call l loc' tmp' h R):WL P T K call (⟨d,.a ao,args,gd,lo,hi⟩ ::l) loc tmp h R:=by
 refine⟨WO.mkF e0 e1 rfl er hz hl hf ?_⟩;show WO P T K call l (d.put ⟨loc,tmp⟩ v) h _;rw [fI e3];exact k.out
theorem kn{id n:Nat}(hid:id<bR)(hn:n<=bR):∀(l:List V) (i:Nat) (h:H) (cs:Tr V),h.blk id=some (.cells n cs none false)->cF l=true->i+l.length<=n->∃h2,H.wr id l i h=some h2/\h2.next=h.next/\(∀j,j≠id->h2.blk j=h.blk j)/\
  ∃cs2,h2.blk id=some (.cells n cs2 none false)/\∀j,cs2.get j=if i<=j/\j<i+l.length then l[j-i]? else cs.get j
 |[],i,h,cs,e,_,_=>⟨h,rfl,rfl,λ_ _=>rfl,cs,e,λj=>by rw [if_neg (by simp only [List.length_nil];omega)]⟩
 |v ::l,i,h,cs,e,ho,hl=>by
  rw [List.length_cons]at hl;have ho:(Bool.rec (motive:=λ_=>Bool) false (cF l) (cE v):Bool)=true:=ho;rw [cC]at ho
  split at ho
  case isFalse=>cases ho
  rename_i hv
  have e1:h.wr1 id i v=some ⟨h.t.put id (some (.cells n (cs.put i (some v)) none false)),h.next⟩:=by
   show ob (h.blk id) _=_;rw [e];show oif (!false) (oif (Nat.blt i n) (oif (cE v) (ob (mA 64 none i h) _)))=_;rw [show Nat.blt i n=true by simp [Nat.blt];omega,hv];rfl
  have gb:∀j,(⟨h.t.put id (some (.cells n (cs.put i (some v)) none false)),h.next⟩:H).blk j=if j=id then some (.cells n (cs.put i (some v)) none false)else h.blk j:=λj=>Tr.get_put _ _ _ _ hid
  obtain⟨h2,k1,k2,k3,cs2,k4,k5⟩:=kn hid hn l (i+1) _ (cs.put i (some v)) (by rw [gb,if_pos rfl]) ho (by omega);refine⟨h2,?_,k2,λj hj=>(k3 j hj).trans (by rw [gb,if_neg hj]),cs2,k4,λj=>?_⟩
  ·show ob (h.wr1 id i v) (λh=>H.wr id l (i+1) h)=_
   rw [e1];exact k1
  ·rw [k5,Tr.get_put _ _ _ _ (by omega),List.length_cons]
   by_cases h1:j=i
   ·subst h1
    rw [if_neg (by omega),if_pos rfl,if_pos (by omega),Nat.sub_self];rfl
   ·rw [if_neg h1]
    by_cases h2:i<=j/\j<i+(l.length+1)
    ·rw [if_pos h2,if_pos (by omega),show j-i=(j-(i+1))+1 by omega,List.getElem?_cons_succ]
    ·rw [if_neg h2,if_neg (by omega)]
theorem aC{d2:Dst}{args2:List Opd}{gd2:Option (Opd×Bool)}{lo2 hi2:Nat}{zero:List V}{n:Nat}{x:V}{loc1 tmp1 loc2 tmp2:AL}(e0:bX ⟨loc,tmp⟩ gd=some true)(e1:evs ⟨loc,tmp⟩ args=some [])(hk:Nat.blt h.next bR=true)(p1:fA d (.ptr h.next 0) loc tmp=some (loc1,tmp1))
  (e2:bX ⟨loc1,tmp1⟩ gd2=some true) (e3:evs ⟨loc1,tmp1⟩ args2=some [.ptr h.next 0,x]) (hn:Nat.beq (bY (cellsOf x)) n=true) (hz:Nat.beq (bY zero) n=true) (z1:cF zero=true) (z2:Nat.blt n bR=true) (ho:cF (cellsOf x)=true) (hp:∀c,c∈cellsOf x->bP c)
  (p2:fA d (.eptr (cellsOf x) 0) loc tmp=some (loc',tmp')) (p3:fA d2 cG loc' tmp'=some (loc2,tmp2)) (k:WL P T K call l loc2 tmp2 h R):WL P T K call (⟨d,.a (.alloc zero),args,gd,lo,hi⟩ ::⟨d2,.e (.store n),args2,gd2,lo2,hi2⟩ ::l) loc tmp h R:=by
 have hk':=Nat.le_of_ble_eq_true hk;have hn':=Nat.eq_of_beq_eq_true hn;have hz':=Nat.eq_of_beq_eq_true hz;have z2':=Nat.le_of_ble_eq_true z2;rw [@bV noE]at hn' hz';have q1:(Dst.put ⟨loc,tmp⟩ (.ptr h.next 0) d)=⟨loc1,tmp1⟩:=fI p1;have q2:(Dst.put ⟨loc,tmp⟩ (.eptr (cellsOf x) 0) d)=⟨loc',tmp'⟩:=fI p2;have q3:(Dst.put ⟨loc',tmp'⟩ cG d2)=⟨loc2,tmp2⟩:=fI p3;have eb:(⟨h.t.put h.next (some (.cells zero.length (cq zero 0 .e) none false)),Nat.succ h.next⟩:H).blk h.next=some (.cells zero.length (cq zero 0 .e) none false):=by
  show(h.t.put h.next _).get h.next=_
  rw [Tr.get_put _ _ _ _ (by omega),if_pos rfl]
 obtain⟨h2,w1,w2,w3,cs2,w4,w5⟩:=kn (id:=h.next) (n:=zero.length) (by omega) (by omega) (cellsOf x) 0 ⟨h.t.put h.next (some (.cells zero.length (cq zero 0 .e) none false)),Nat.succ h.next⟩ _ eb ho (by omega);refine⟨WO.allocF (zero:=zero) (n:=n) (x:=x) (h2:=h2) (cs':=cs2) e0 rfl e1 ?_ (by omega) ?_ rfl ?_ w1 ?_ (λj v e=>?_) hn' (λc hc=>(hp c hc).free) ?_⟩
 ·show ob (oif (cF zero) (oif (Nat.blt (bY zero) bR) (some (Blk.cells (bY zero) (cq zero 0 .e) none false)))) _=_
  rw [z1,@bV noE,hz',z2];rfl
 ·show bX (Dst.put ⟨loc,tmp⟩ (.ptr h.next 0) d) gd2=_
  rw [q1];exact e2
 ·show evs (Dst.put ⟨loc,tmp⟩ (.ptr h.next 0) d) args2=_
  rw [q1];exact e3
 ·rw [w4,hn',hz']
 ·have hj:=(List.getElem?_eq_some_iff.1 e).1
  rw [w5,if_pos (by omega),Nat.sub_zero];exact e
 ·show WO P T K call l (Dst.put (Dst.put ⟨loc,tmp⟩ (.eptr (cellsOf x) 0) d) cG d2) h _
  rw [q2,q3];exact k.out
theorem aA{x:V}(e0:bX ⟨loc,tmp⟩ gd=some true)(e1:evs ⟨loc,tmp⟩ args=some [x])(h1:cF (cellsOf x)=true)(h2:Nat.blt (bY (cellsOf x)) bR=true)(hp:∀c,c∈cellsOf x->bP c)
  (e3:fA d (.eptr (cellsOf x) 0) loc tmp=some (loc',tmp')) (k:WL P T K call l loc' tmp' h R):WL P T K call (⟨d,.a .box,args,gd,lo,hi⟩ ::l) loc tmp h R:=by
 refine bD (cs:=cellsOf x) (mk:=λi=>.ptr i 0) e0 e1 ?_ (.inl ⟨rfl,rfl⟩) (by have:=Nat.le_of_ble_eq_true h2;rw [@bV noE]at this;omega) (λc hc=>(hp c hc).free) e3 k;show ob (oif (cF (cellsOf x)) (oif (Nat.blt (bY (cellsOf x)) bR) (some (Blk.cells (bY (cellsOf x)) (cq (cellsOf x) 0 .e) none false)))) _=_;rw [h1,h2,@bV noE];rfl
theorem aP{zero:List V}{ln es:Nat}{cg:List (Nat×Nat)}{cs:List V}(e0:bX ⟨loc,tmp⟩ gd=some true)(e1:evs ⟨loc,tmp⟩ args=some vs)(er:jo cg vs (jy zero ln)=some cs)(h1:cF cs=true)(h2:Nat.beq (bY cs) (Nat.mul ln es)=true)(h3:Nat.blt (bY cs) bR=true)(hp:∀c,c∈cs->bP c)
  (e3:fA d (.lst ln es cs) loc tmp=some (loc',tmp')) (k:WL P T K call l loc' tmp' h R):WL P T K call (⟨d,.a (.bslice zero ln es cg),args,gd,lo,hi⟩ ::l) loc tmp h R:=by
 refine bD (cs:=cs) (mk:=λi=>.sl i 0 ln ln true es) e0 e1 ?_ (.inr ⟨ln,es,rfl,by have:=Nat.eq_of_beq_eq_true h2;rw [@bV noE]at this;exact this,rfl⟩) (by have:=Nat.le_of_ble_eq_true h3;rw [@bV noE]at this;omega) (λc hc=>(hp c hc).free) e3 k;show ob (jo cg vs (jy zero ln)) _=_;rw [er];show ob (oif (cF cs) (oif (Nat.blt (bY cs) bR) (some (Blk.cells (bY cs) (cq cs 0 .e) none false)))) _=_;rw [h1,h3,@bV noE];rfl
theorem aF{ao:AOp}{t:Tr Blk}{k:Nat}{b:Blk}{mk:Nat->V}(e0:bX ⟨loc,tmp⟩ gd=some true)(e1:evs ⟨loc,tmp⟩ args=some vs)(er:ao.run vs=some (b,mk))(hk:Nat.blt k bR=true)
  (e3:fA d (mk k) loc tmp=some (loc',tmp')) (c:WL P T K call l loc' tmp' (H.mk (t.put k (some b)) (Nat.succ k)) R):WL P T K call (⟨d,.a ao,args,gd,lo,hi⟩ ::l) loc tmp (H.mk t k) R:=by
 refine aE e0 e1 ?_ e3 c;show ob (ao.run vs) (λr=>ob (H.new (H.mk t k) r.1) λh'=>some (r.2 k,h'))=_;rw [er];show ob (oif (Nat.blt k bR) (some (H.mk (t.put k (some b)) (Nat.succ k)))) (λh'=>some (mk k,h'))=_;rw [hk];rfl
theorem zG{f:F}{h h':H}(L:kH h h'):fG T K f h f h':=by
 intro m N E0 g0 w0 E g w tmps s fr;refine⟨E,g,⟨Sit.mk' (@kH.wr E _ _ _ _ _ L s.sit.wr) (λp hp=>?_) (λb c e=>s.sit.env e),s.envl,s.envn,s.fix,s.size,s.keep,s.inv,s.pin,s.os,s.tape,s.output⟩,fr,λid b o z e=>⟨id,o,z,e⟩⟩;obtain⟨k1,k2⟩:=s.sit.pin p hp;refine⟨k1,?_⟩;rcases L.2 p.1 with e | ⟨n,cs,cs',up,ch,e1,_,_⟩
 ·exact e.trans k2
 ·rw [k2]at e1;cases e1
theorem WL.store{t:Tr Blk}{k id off n m:Nat}{cs cs':Tr V}{x:V}(e0:bX ⟨loc,tmp⟩ gd=some true)(e1:evs ⟨loc,tmp⟩ args=some [.ptr id off,x])(eb:t.get id=some (.cells n cs none false))(hm:Nat.beq (bY (cellsOf x)) m=true)(ho:cF (cellsOf x)=true)
  (hl:off+(cellsOf x).length<=n) (hid:id<bR) (hn:n<=bR) (hc:∀j v,cs'.get j=some v->(if off<=j/\j<off+(cellsOf x).length then(cellsOf x)[j-off]? else cs.get j)=some v)
  (e3:fA d cG loc tmp=some (loc',tmp')) (c:WL P T K call l loc' tmp' ⟨t.put id (some (.cells n cs' none false)),k⟩ R):WL P T K call (⟨d,.e (.store m),args,gd,lo,hi⟩ ::l) loc tmp ⟨t,k⟩ R:=by
 obtain⟨h2,k1,k2,k3,cs2,k4,k5⟩:=kn hid hn (cellsOf x) off ⟨t,k⟩ cs eb ho hl;have gb:∀j,(⟨t.put id (some (.cells n cs' none false)),k⟩:H).blk j=if j=id then some (.cells n cs' none false)else(⟨t,k⟩:H).blk j:=λj=>Tr.get_put _ _ _ _ hid
 refine aE (h1:=h2) (v:=cG) e0 e1 ?_ e3 ⟨bt (zG (h':=⟨t.put id (some (.cells n cs' none false)),k⟩) ⟨k2.symm,λj=>?_⟩) c.out⟩
 ·show oif (Nat.beq (bY (cellsOf x)) m) (ob (H.wr id (cellsOf x) off ⟨t,k⟩) λh=>some (cG,h))=_
  rw [hm,k1];rfl
 ·rw [gb]
  by_cases hj:j=id
  ·subst hj
   rw [if_pos rfl];exact .inr ⟨n,cs2,cs',none,false,k4,rfl,λq v hq=>by rw [k5];exact hc q v hq⟩
  ·rw [if_neg hj]
   exact .inl (k3 j hj).symm
theorem aL{t:Tr Blk}{k id n m:Nat}{cs:Tr V}{x:V}(e0:bX ⟨loc,tmp⟩ gd=some true)(e1:evs ⟨loc,tmp⟩ args=some [.ptr id 0,x])(eb:t.get id=some (.cells n cs none false))(hm:Nat.beq (bY (cellsOf x)) m=true)(ho:cF (cellsOf x)=true)
  (hl:Nat.beq (bY (cellsOf x)) n=true) (hid:Nat.blt id bR=true) (hn:Nat.ble n bR=true)
  (e3:fA d cG loc tmp=some (loc',tmp')) (c:WL P T K call l loc' tmp' ⟨t.put id (some (.cells n (cq (cellsOf x) 0 .e) none false)),k⟩ R):WL P T K call (⟨d,.e (.store m),args,gd,lo,hi⟩ ::l) loc tmp ⟨t,k⟩ R:=by
 have hl':(cellsOf x).length=n:=by rw [<-@bV noE];exact Nat.eq_of_beq_eq_true hl
 have hn':=Nat.le_of_ble_eq_true hn;refine WL.store e0 e1 eb hm ho (by omega) (Nat.le_of_ble_eq_true hid) hn' (λj v e=>?_) e3 c;rw [@cU noE _ 0 .e j (by omega)]at e
 by_cases h:0<=j/\j<0+(cellsOf x).length
 ·rw [if_pos h]at e ⊢;exact e
 ·rw [if_neg h]at e;cases e
theorem aQ{t:Tr Blk}{k id off n:Nat}{cs:Tr V}{x:V}(e0:bX ⟨loc,tmp⟩ gd=some true)(e1:evs ⟨loc,tmp⟩ args=some [.ptr id off,x])(eb:t.get id=some (.cells n cs none false))(hx:cellsOf x=[x])(ho:cE x=true)
  (hl:Nat.blt off n=true) (hid:Nat.blt id bR=true) (hn:Nat.ble n bR=true)
  (e3:fA d cG loc tmp=some (loc',tmp')) (c:WL P T K call l loc' tmp' ⟨t.put id (some (.cells n (cs.put off (some x)) none false)),k⟩ R):WL P T K call (⟨d,.e (.store 1),args,gd,lo,hi⟩ ::l) loc tmp ⟨t,k⟩ R:=by
 have hl':=Nat.le_of_ble_eq_true hl;have hn':=Nat.le_of_ble_eq_true hn;refine WL.store e0 e1 eb (by rw [hx];rfl) (by rw [hx];show(Bool.rec (motive:=λ_=>Bool) false (cF []) (cE x):Bool)=true;rw [ho];rfl) (by rw [hx];exact hl') (Nat.le_of_ble_eq_true hid) hn' (λj v e=>?_) e3 c;rw [Tr.get_put _ _ _ _ (by omega)]at e;rw [hx]
 by_cases h:j=off
 ·subst h
  rw [if_pos rfl]at e;rw [if_pos (by simp),Nat.sub_self];exact e
 ·rw [if_neg h]at e
  rw [if_neg (by simp only [List.length_singleton];omega)];exact e
theorem az{o:COp}{t:Nat}{b w:Bool}(e:lk tmp t=some (.bool b))(k1:b=true->WL P T K call (⟨d,o,args,some (.t t,w),lo,hi⟩ ::l) loc ((t,.bool true) ::tmp) h R)
  (k2:b=false->WL P T K call (⟨d,o,args,some (.t t,w),lo,hi⟩ ::l) loc ((t,.bool false) ::tmp) h R):WL P T K call (⟨d,o,args,some (.t t,w),lo,hi⟩ ::l) loc tmp h R:=by
 have v:∀c,b=c->fG T K ⟨loc,tmp⟩ h ⟨loc,(t,.bool c) ::tmp⟩ h:=by
  rintro c rfl m N E0 g0 w0 E g w tmps s fr;refine⟨E,g,s,⟨fr.1,λs v e'=>fr.2 s v ?_⟩,λid b o z e=>⟨id,o,z,e⟩⟩;unfold rdn at e' ⊢
  split at e'
  ·rename_i hb;rw [if_pos hb];exact e'
  ·rename_i hb
   rw [if_neg hb];have e':lk ((t,.bool b) ::tmp) s=some v:=e';rw [@dj noE]at e'
   by_cases q:t=s
   ·rw [if_pos q]at e';rw [<-q,<-e'];exact e
   ·rw [if_neg q]at e';exact e'
 cases b with
 |true=>exact⟨bt (v true rfl) (k1 rfl).out⟩
 |false=>exact⟨bt (v false rfl) (k2 rfl).out⟩
end
section
variable {loc loc':AL} {h h':H} {Q:X->AL->H->Prop}
inductive bG(P:Program)(T:Ty)(K:Nat->Prop)(call:cB)(n:Nat)(c:ci)(Q:X->AL->H->Prop):X->AL->H->Prop
 |norm {loc:AL} {h:H} (k:WC P T K call n c loc h Q):bG P T K call n c Q .norm loc h
 |exit {id:Nat} {loc:AL} {h:H} (k:Q (.exit id) loc h):bG P T K call n c Q (.exit id) loc h
 |ret {loc:AL} {h:H} (k:Q .ret loc h):bG P T K call n c Q .ret loc h
inductive OnC(I:AL->H->Prop)(Q:X->AL->H->Prop):X->AL->H->Prop
 |norm {loc:AL} {h:H} (k:I loc h):OnC I Q .norm loc h
 |exit {id:Nat} {loc:AL} {h:H} (k:Q (.exit id) loc h):OnC I Q (.exit id) loc h
 |ret {loc:AL} {h:H} (k:Q .ret loc h):OnC I Q .ret loc h
theorem F.loc_eq{f:F}(e:f.tmp=[]):f=⟨f.loc,[]⟩:=by cases f;cases e;rfl
theorem ah{l:List bS}(k:WL P T K call l loc [] h (Q .norm)):WC P T K call n (.reg l) loc h Q:=by
 obtain⟨f',h',k1,k2⟩:=k.out;exact⟨⟨_,_,_,.reg k1,rfl,k2⟩⟩
theorem ai{a b:ci}(k:WC P T K call n a loc h (bG P T K call n b Q)):WC P T K call n (.seq a b) loc h Q:=by
 obtain⟨x,f1,h1,k1,e1,k2⟩:=k.out;cases x with
 |norm=>
  cases k2 with
  |norm k2=>
  obtain⟨x,f',h',k3,k4⟩:=k2.out;rw [<-F.loc_eq e1]at k3;exact⟨⟨x,f',h',.seq k1 k3,k4⟩⟩
 |exit id=>cases k2 with|exit k2=>exact⟨⟨_,f1,h1,.seqX k1 (λe=>by cases e),e1,k2⟩⟩
 |ret=>cases k2 with|ret k2=>exact⟨⟨_,f1,h1,.seqX k1 (λe=>by cases e),e1,k2⟩⟩
theorem al(k:Q .norm loc h):WC P T K call n .skip loc h Q:=⟨W.exec rfl ⟨rfl,k⟩⟩
theorem av{id:Nat}(k:Q (.exit id) loc h):WC P T K call n (.exit id) loc h Q:=⟨W.exec rfl ⟨rfl,k⟩⟩
theorem ap(k:Q .ret loc h):WC P T K call n .ret loc h Q:=⟨W.exec rfl ⟨rfl,k⟩⟩
theorem ak{o:Opd}{a b:ci}{t:Bool}(e:o.ev ⟨loc,[]⟩=some (.bool t))(k1:t=true->WC P T K call n a loc h Q)(k2:t=false->WC P T K call n b loc h Q):WC P T K call n (.cond o a b) loc h Q:=⟨W.cond e (λq=>(k1 q).out) λq=>(k2 q).out⟩
theorem aD{o:Opd}{a b:ci}(e:o.ev ⟨loc,[]⟩=some (.bool true))(k:WC P T K call n a loc h Q):WC P T K call n (.cond o a b) loc h Q:=ak e (λ_=>k) (λq=>by cases q)
theorem aB{o:Opd}{a b:ci}(e:o.ev ⟨loc,[]⟩=some (.bool false))(k:WC P T K call n b loc h Q):WC P T K call n (.cond o a b) loc h Q:=ak e (λq=>by cases q) (λ_=>k)
theorem aj{id:Nat}{c:ci}(k:WC P T K call n c loc h λx=>Q (unX id x)):WC P T K call n (.block id c) loc h Q:=⟨W.block (Q:=λx f' h'=>f'.tmp=[]/\Q x f'.loc h') k.out⟩
theorem WC.sem{c:ci}{x:X}(e:C8 P T K c ⟨loc,[]⟩ h x ⟨loc',[]⟩ h')(k:Q x loc' h'):WC P T K call n c loc h Q:=⟨W.sem e ⟨rfl,k⟩⟩
theorem WC.mono{c:ci}{Q':X->AL->H->Prop}(k:WC P T K call n c loc h Q)(hq:∀x loc h,Q x loc h->Q' x loc h):WC P T K call n c loc h Q':=⟨W.mono k.out λx f h q=>⟨q.1,hq _ _ _ q.2⟩⟩
theorem aw{c:ci}(e:fG T K ⟨loc,[]⟩ h ⟨loc',[]⟩ h')(k:WC P T K call n c loc' h' Q):WC P T K call n c loc h Q:=⟨W.view e k.out⟩
theorem aX{a b:ci}(I:AL->H->Prop)(k1:WC P T K call n a loc h (OnC (λl1 h1=>∃l2 h2,fG T K ⟨l1,[]⟩ h1 ⟨l2,[]⟩ h2/\I l2 h2) Q))(k2:∀l2 h2,I l2 h2->WC P T K call n b l2 h2 Q):WC P T K call n (.seq a b) loc h Q:=by
 refine ai (k1.mono λx l1 h1 q=>?_);cases q with
 |norm q=>
  obtain⟨l2,h2,v,i⟩:=q;exact .norm (aw v (k2 l2 h2 i))
 |exit q=>exact .exit q
 |ret q=>exact .ret q
theorem aH{l:List bS}{t:Nat}{a b:ci}{L:Bool->AL}(_e:∀x,s9 loc t (.bool x)=some (L x))(k1:WL P T K call l loc [] h λl' h'=>(∃x,l'=L x)/\h'=h)(k2:∀x,WC P T K call n (.cond (.l t) a b) (L x) h Q):WC P T K call n (.seq (.reg l) (.cond (.l t) a b)) loc h Q:=by
 refine ai (WC.mono (ah (Q:=λx l' h'=>x= .norm/\(∃x,l'=L x)/\h'=h) ⟨?_⟩) λx l' h' q=>?_)
 ·obtain⟨f',h',k,q⟩:=k1.out
  exact⟨f',h',k,rfl,q⟩
 ·obtain⟨rfl,⟨x,rfl⟩,rfl⟩:=q
  exact .norm (k2 x)
theorem ax{c:ci}(m:Nat)(I:Nat->AL->H->Prop)(rnd:∀i loc h,i<=m->I i loc h->WC P T K call n c loc h (OnC (λloc h=>∃l2 h2,fG T K ⟨loc,[]⟩ h ⟨l2,[]⟩ h2/\i<m/\I (i+1) l2 h2) Q)){i:Nat}(hi:i<=m)(k:I i loc h):WC P T K call n (.loop c) loc h Q:=by
 refine⟨W.count m (λi f h=>f.tmp=[]/\I i f.loc h) (λi f h hi q=>?_) hi ⟨rfl,k⟩⟩;have:=(rnd i f.loc h hi q.2).out;rw [<-F.loc_eq q.1]at this;refine W.mono this λx f1 h1 q=>?_;obtain⟨e,q⟩:=q;cases x with
 |norm=>
  cases q with
  |norm q=>
  obtain⟨l2,h2,v,hlt,k⟩:=q;rw [<-F.loc_eq e]at v;exact⟨_,_,v,hlt,rfl,k⟩
 |exit id=>cases q with|exit q=>exact⟨e,q⟩
 |ret=>cases q with|ret q=>exact⟨e,q⟩
theorem bz{c:ci}(I:Nat->AL->H->Prop)(rnd:∀k loc h,I k loc h->WC P T K call n c loc h (OnC (λloc h=>∃l2 h2,fG T K ⟨loc,[]⟩ h ⟨l2,[]⟩ h2/\∃j,j<k/\I j l2 h2) Q)){k:Nat}(i:I k loc h):WC P T K call n (.loop c) loc h Q:=by
 refine⟨W.loop (λk f h=>f.tmp=[]/\I k f.loc h) (λk f h q=>?_) ⟨rfl,i⟩⟩;have:=(rnd k f.loc h q.2).out;rw [<-F.loc_eq q.1]at this;refine W.mono this λx f1 h1 q=>?_;obtain⟨e,q⟩:=q;cases x with
 |norm=>
  cases q with
  |norm q=>
  obtain⟨l2,h2,v,j,hlt,k⟩:=q;rw [<-F.loc_eq e]at v;exact⟨_,_,v,j,hlt,rfl,k⟩
 |exit id=>cases q with|exit q=>exact⟨e,q⟩
 |ret=>cases q with|ret q=>exact⟨e,q⟩
theorem WC.regD{l:List bS}(k:WD call l ⟨⟨loc,[]⟩,h,[],[]⟩ λs=>bF s.cs (jb s.hs [s.h])/\Q .norm s.f.loc s.h):WC P T K call n (.regD l) loc h Q:=by
 refine⟨W.regD ?_⟩;obtain⟨s,k1,k2,k3⟩:=k;exact⟨s,k1,k2,rfl,k3⟩
noncomputable def Fw(x:Opd)(b:Bool)(loc tmp:AL):Option (AL×AL):=Opd.rec (motive:=λ_=>Option (AL×AL)) (λt=>ob (s9 loc t (.bool b)) λl=>some (l,tmp)) (λt=>ob (s9 tmp t (.bool b)) λl=>some (loc,l)) (λ_=>some (loc,tmp)) x
theorem p9:∀{l:AL} {t:Nat} {v:V},lk l t=some v->upd l t v=l
 |[],t,v,h=>by cases h
 |p ::tl,t,v,h=>by
  rw [@dj noE]at h;rw [@qa noE]
  by_cases q:p.1=t
  ·rw [if_pos q]at h ⊢
   cases h;rw [<-q]
  ·rw [if_neg q]at h ⊢
   rw [p9 h]
theorem yH{x:Opd}{b:Bool}{loc tmp l1 t1:AL}(e:x.ev ⟨loc,tmp⟩=some (.bool b))(s:Fw x b loc tmp=some (l1,t1)):l1=loc/\t1=tmp:=by
 cases x with
 |l t=>
  obtain⟨r,h1,h2⟩:=bE.1 (show ob (s9 loc t (.bool b)) (λl=>some (l,tmp))=some (l1,t1)from s);cases h2;exact⟨(lD h1).symm.trans (p9 e),rfl⟩
 |t t=>
  obtain⟨r,h1,h2⟩:=bE.1 (show ob (s9 tmp t (.bool b)) (λl=>some (loc,l))=some (l1,t1)from s);cases h2;exact⟨rfl,(lD h1).symm.trans (p9 e)⟩
 |c _=>cases s;exact⟨rfl,rfl⟩
structure WX(P:Program)(T:Ty)(M:Nat->Prop)(l:List bS)(loc tmp:AL)(h:H)(hs:List H)(cs:List Tc)(R:AL->H->Prop):Prop where
 out:∃s',wq P T M l ⟨⟨loc,tmp⟩,h,hs,cs⟩ s'/\bF s'.cs (jb s'.hs [s'.h])/\R s'.f.loc s'.h
section
variable {M:Nat->Prop} {loc tmp loc' tmp':AL} {h h1:H} {hs:List H} {cs:List Tc} {l:List bS} {R:AL->H->Prop} {d:Dst} {args:List Opd} {gd:Option (Opd×Bool)} {lo hi:Nat} {vs vs':List V} {v:V}
theorem aJ(hc:bF cs (jb hs [h]))(k:R loc h):WX P T M [] loc tmp h hs cs R:=⟨_,.nil,hc,k⟩
theorem bo{o:bS}{hs1:List H}{cs1:List Tc}(st:nP P T M o ⟨⟨loc,tmp⟩,h,hs,cs⟩ v ⟨o.dst.put ⟨loc,tmp⟩ v,h1,hs1,cs1⟩)(e3:fA o.dst v loc tmp=some (loc',tmp'))(k:WX P T M l loc' tmp' h1 hs1 cs1 R):WX P T M (o ::l) loc tmp h hs cs R:=by
 obtain⟨s',k1,k2,k3⟩:=k;refine⟨s',.cons st ?_,k2,k3⟩;rw [fI e3];exact k1
theorem aI{o:POp}(e0:bX ⟨loc,tmp⟩ gd=some true)(e1:evs ⟨loc,tmp⟩ args=some vs)(e2:o.run vs=some v)(e3:fA d v loc tmp=some (loc',tmp'))(k:WX P T M l loc' tmp' h hs cs R):WX P T M (⟨d,.p o,args,gd,lo,hi⟩ ::l) loc tmp h hs cs R:=
 bo ⟨rfl,rfl,.inr ⟨vs,e0,e1,.p rfl e2 rfl rfl⟩⟩ e3 k
theorem aG{o:ROp}(e0:bX ⟨loc,tmp⟩ gd=some true)(e1:evs ⟨loc,tmp⟩ args=some vs)(e2:o.run vs h=some v)(e3:fA d v loc tmp=some (loc',tmp'))(k:WX P T M l loc' tmp' h hs (⟨o,vs,v,lo,hi⟩ ::cs) R):WX P T M (⟨d,.r o,args,gd,lo,hi⟩ ::l) loc tmp h hs cs R:=
 bo ⟨rfl,rfl,.inr ⟨vs,e0,e1,.r rfl e2 rfl rfl⟩⟩ e3 k
theorem aW{o:COp}(e0:bX ⟨loc,tmp⟩ gd=some false)(eE:isE o=false)(e3:fA d cG loc tmp=some (loc',tmp'))(k:WX P T M l loc' tmp' h hs cs R):WX P T M (⟨d,o,args,gd,lo,hi⟩ ::l) loc tmp h hs cs R:=
 bo ⟨rfl,by show hs=if isE o=true then _ else _;rw [eE];rfl,.inl ⟨e0,rfl,rfl,rfl⟩⟩ e3 k
theorem aU{o:COp}(e0:bX ⟨loc,tmp⟩ gd=some false)(eE:isE o=true)(e3:fA d cG loc tmp=some (loc',tmp'))(k:WX P T M l loc' tmp' h (h ::hs) cs R):WX P T M (⟨d,o,args,gd,lo,hi⟩ ::l) loc tmp h hs cs R:=
 bo ⟨rfl,by show h ::hs=if isE o=true then _ else _;rw [eE];rfl,.inl ⟨e0,rfl,rfl,rfl⟩⟩ e3 k
theorem WX.bsl{zero:List V}{ln es:Nat}{cg:List (Nat×Nat)}{cl:List V}(e0:bX ⟨loc,tmp⟩ gd=some true)(e1:evs ⟨loc,tmp⟩ args=some vs)(er:jo cg vs (jy zero ln)=some cl)(h1:cF cl=true)(h2:Nat.beq (bY cl) (Nat.mul ln es)=true)(h3:Nat.blt (bY cl) bR=true)(hp:∀c,c∈cl->bP c)
  (e3:fA d (.lst ln es cl) loc tmp=some (loc',tmp')) (k:WX P T M l loc' tmp' h hs cs R):WX P T M (⟨d,.a (.bslice zero ln es cg),args,gd,lo,hi⟩ ::l) loc tmp h hs cs R:=by
 refine bo ⟨rfl,rfl,.inr ⟨_,e0,e1,.mkF (cs:=cl) (mk:=λi=>.sl i 0 ln ln true es) rfl ?_ (.inr ⟨ln,es,rfl,by have:=Nat.eq_of_beq_eq_true h2;rw [@bV noE]at this;exact this,rfl⟩) (by have:=Nat.le_of_ble_eq_true h3;rw [@bV noE]at this;omega) (λM c hc=>(hp c hc).free) rfl rfl⟩⟩ e3 k;show ob (jo cg vs (jy zero ln)) _=_;rw [er];show ob (oif (cF cl) (oif (Nat.blt (bY cl) bR) (some (Blk.cells (bY cl) (cq cl 0 .e) none false)))) _=_;rw [h1,h3,@bV noE];rfl
theorem Con.wk{M':Nat->Prop}{fn:FuncId}{vs:List V}(hM:∀id,M' id->M id)(c:Con P T M' fn vs h v h1):Con P T M fn vs h v h1:=by
 refine⟨λE g w us s hu=>?_⟩;obtain⟨f,k1,k2,k3,k4⟩:=c.out E g w us s hu;refine⟨f,k1,k2,k3,k4.mono ?_⟩;rintro e w' ⟨E',g',u,q1,q2,q3⟩;exact⟨E',g',u,q1,q2,q3.wk hM⟩
theorem aR{o:COp}{fn:FuncId}(e0:bX ⟨loc,tmp⟩ gd=some true)(e1:evs ⟨loc,tmp⟩ args=some vs)(ec:gX o vs=some (fn,vs'))(c:Con P T M fn vs' h v h1)(hf:gZ M ⟨loc,tmp⟩)
  (e3:fA d v loc tmp=some (loc',tmp')) (k:WX P T M l loc' tmp' h1 (h ::hs) cs R):WX P T M (⟨d,o,args,gd,lo,hi⟩ ::l) loc tmp h hs cs R:=by
 have hE:isE o=true:=by
  unfold gX at ec
  split at ec
  ·rfl
  ·rfl
  ·cases ec
 exact bo ⟨rfl,by show h ::hs=if isE o=true then _ else _;rw [hE];rfl,.inr ⟨vs,e0,e1,.con hE ec c hf rfl⟩⟩ e3 k
theorem aT{o:COp}{fn:FuncId}(e0:bX ⟨loc,tmp⟩ gd=some true)(e1:evs ⟨loc,tmp⟩ args=some vs)(ec:gX o vs=some (fn,vs'))(c:lx P T fn vs' v)(hf:gZ M ⟨loc,tmp⟩)
  (e3:fA d v loc tmp=some (loc',tmp')) (k:WX P T M l loc' tmp' h (h ::hs) cs R):WX P T M (⟨d,o,args,gd,lo,hi⟩ ::l) loc tmp h hs cs R:=aR e0 e1 ec ((c.con h noM).wk λ_ q=>q.elim) hf e3 k
theorem aV{o:COp}{x:Opd}{w t:Bool}{l1 t1 l2 t2:AL}(e:x.ev ⟨loc,tmp⟩=some (.bool t))(s1:Fw x true loc tmp=some (l1,t1))(s2:Fw x false loc tmp=some (l2,t2))
  (k1:t=true->WX P T M (⟨d,o,args,some (x,w),lo,hi⟩ ::l) l1 t1 h hs cs R) (k2:t=false->WX P T M (⟨d,o,args,some (x,w),lo,hi⟩ ::l) l2 t2 h hs cs R):WX P T M (⟨d,o,args,some (x,w),lo,hi⟩ ::l) loc tmp h hs cs R:=by
 cases t with
 |true=>
  obtain⟨rfl,rfl⟩:=yH e s1;exact k1 rfl
 |false=>
  obtain⟨rfl,rfl⟩:=yH e s2;exact k2 rfl
end
theorem WC.regX{M:Nat->Prop}{l:List bS}{loc:AL}{h:H}{Q:X->AL->H->Prop}(hf:gZ M ⟨loc,[]⟩)(hK:∀id,K id->¬M id)(k:WX P T M l loc [] h [] [] λloc h=>Q .norm loc h):WC P T K call n (.regD l) loc h Q:=by
 refine⟨W.regX hf hK ?_⟩;obtain⟨s,k1,k2,k3⟩:=k;exact⟨s,k1,k2,rfl,k3⟩
theorem aK{l:List bS}{loc:AL}{h:H}{Q:X->AL->H->Prop}(k:WX P T noM l loc [] h [] [] λloc h=>Q .norm loc h):WC P T K call n (.regD l) loc h Q:=WC.regX .none (λ_ _ q=>q) k
end
end
end Ev
end Go.Proofs.YtdfphfdnoobikaaGreatDoor
