/-
  The calculus of ways,on frames that are written out.
-/
import Derived.Test.YtdfphfdnoobikaaGreatDoorEvLc
namespace Go.Proofs.YtdfphfdnoobikaaGreatDoor
namespace Ev
section
noncomputable section
def vF(l:AL)(t:Nat)(v:V):Option AL:=
 List.rec (motive:=λ_=>Option AL) (some [(t,v)]) (λp tl ih=>Bool.rec (motive:=λ_=>Option AL) (ob ih λr=>some (p ::r)) (some ((t,v) ::tl)) (Nat.beq p.1 t)) l
end
theorem nO:∀{l:AL} {t:Nat} {v:V} {l':AL},vF l t v=some l'->upd l t v=l'
 |[],t,v,l',h=>by cases h;rfl
 |p ::tl,t,v,l',h=>by
  rw [@sv noE];have h:(Bool.rec (motive:=λ_=>Option AL) (ob (vF tl t v) λr=>some (p ::r)) (some ((t,v) ::tl)) (Nat.beq p.1 t):Option AL)=some l':=h
  by_cases q:p.1=t
  ·rw [if_pos q]
   rw [show Nat.beq p.1 t=true by simpa using q]at h;cases h;rfl
  ·rw [if_neg q]
   rw [show Nat.beq p.1 t=false by rw [Bool.eq_false_iff];exact λk=>q (Nat.eq_of_beq_eq_true k)]at h;obtain⟨r,h1,h2⟩:=bQ.1 h;cases h2;rw [nO h1]
section
variable {P:Program} {T:Ty} {K:Nat->Prop} {call:cN} {n:Nat}
structure WL(P:Program)(T:Ty)(K:Nat->Prop)(call:cN)(l:List cj)(loc tmp:AL)(h:H)(R:AL->H->Prop):Prop where
 out:WO P T K call l ⟨loc,tmp⟩ h λf' h'=>R f'.loc h'
structure WC(P:Program)(T:Ty)(K:Nat->Prop)(call:cN)(n:Nat)(c:cF)(loc:AL)(h:H)(Q:X->AL->H->Prop):Prop where
 out:W P T K call n c ⟨loc,[]⟩ h λx f' h'=>f'.tmp=[]/\Q x f'.loc h'
noncomputable def d7(d:Dst)(v:V)(loc tmp:AL):Option (AL×AL):=Dst.rec (motive:=λ_=>Option (AL×AL)) (some (loc,tmp)) (λt=>ob (vF loc t v) λl=>some (l,tmp)) (λt=>some (loc,(t,v) ::tmp)) d
theorem gB{d:Dst}{v:V}{loc tmp loc' tmp':AL}(p:d7 d v loc tmp=some (loc',tmp')):d.put ⟨loc,tmp⟩ v=⟨loc',tmp'⟩:=by
 cases d with
 |no=>cases p;rfl
 |t t=>cases p;rfl
 |l t=>
  obtain⟨r,h1,h2⟩:=bQ.1 (show ob (vF loc t v) (λl=>some (l,tmp))=some (loc',tmp')from p);cases h2;show(⟨upd loc _ v,tmp⟩:F)=_;rw [nO h1]
noncomputable def mY(l:List V):Nat->Option AL:=List.rec (motive:=λ_=>Nat->Option AL) (λ_=>some []) (λv _ ih i=>ob (ih (Nat.succ i)) λr=>some ((i,v) ::r)) l
theorem pD:∀{l:List V} {i:Nat} {r:AL},mY l i=some r->d8 l i=r
 |[],i,r,h=>by cases h;rfl
 |v ::l,i,r,h=>by
  obtain⟨q,h1,h2⟩:=bQ.1 (show ob (mY l (Nat.succ i)) (λr=>some ((i,v) ::r))=some r from h);cases h2;show(i,v) ::d8 l (Nat.succ i)=_;rw [pD h1]
section
variable {loc tmp loc' tmp':AL} {h h1:H} {l:List cj} {R:AL->H->Prop} {d:Dst} {args:List Opd} {gd:Option (Opd×Bool)} {lo hi:Nat} {vs vs':List V} {v:V}
theorem ab(k:R loc h):WL P T K call [] loc tmp h R:=⟨WO.nil k⟩
theorem av{o:POp}(c:cm ⟨loc,tmp⟩ gd=some true)(e:evs ⟨loc,tmp⟩ args=some vs)(b:o.run vs=some v)(a:d7 d v loc tmp=some (loc',tmp'))(k:WL P T K call l loc' tmp' h R):WL P T K call (⟨d,.p o,args,gd,lo,hi⟩ ::l) loc tmp h R:=by
 refine⟨bL (f1:=⟨loc',tmp'⟩) (h1:=h) ?_ k.out⟩;show ob (cm _ gd) _=_;rw [c];show ob (evs _ args) _=_;rw [e];show ob (ob (o.run vs) λv=>some (v,h)) (λr=>some (d.put _ r.1,r.2))=_;rw [b,<-gB a];rfl
theorem ap{o:ROp}(c:cm ⟨loc,tmp⟩ gd=some true)(e:evs ⟨loc,tmp⟩ args=some vs)(b:o.run vs h=some v)(a:d7 d v loc tmp=some (loc',tmp'))(k:WL P T K call l loc' tmp' h R):WL P T K call (⟨d,.r o,args,gd,lo,hi⟩ ::l) loc tmp h R:=by
 refine⟨bL (f1:=⟨loc',tmp'⟩) (h1:=h) ?_ k.out⟩;show ob (cm _ gd) _=_;rw [c];show ob (evs _ args) _=_;rw [e];show ob (ob (o.run vs h) λv=>some (v,h)) (λr=>some (d.put _ r.1,r.2))=_;rw [b,<-gB a];rfl
theorem aK{o:COp}(b:cm ⟨loc,tmp⟩ gd=some true)(e:evs ⟨loc,tmp⟩ args=some vs)(c:o.run call vs h=some (v,h1))(a:d7 d v loc tmp=some (loc',tmp'))(k:WL P T K call l loc' tmp' h1 R):WL P T K call (⟨d,o,args,gd,lo,hi⟩ ::l) loc tmp h R:=by
 refine⟨bL (f1:=⟨loc',tmp'⟩) (h1:=h1) ?_ k.out⟩;show ob (cm _ gd) _=_;rw [b];show ob (evs _ args) _=_;rw [e];show ob (o.run call vs h) (λr=>some (d.put _ r.1,r.2))=_;rw [c,<-gB a];rfl
theorem aB{o:COp}(b:cm ⟨loc,tmp⟩ gd=some false)(a:d7 d cT loc tmp=some (loc',tmp'))(k:WL P T K call l loc' tmp' h R):WL P T K call (⟨d,o,args,gd,lo,hi⟩ ::l) loc tmp h R:=by
 refine⟨bL (f1:=⟨loc',tmp'⟩) (h1:=h) ?_ k.out⟩;show ob (cm _ gd) _=_;rw [b,<-gB a];rfl
structure WLg(P:Program)(T:Ty)(K:Nat->Prop)(call:cN)(l:List cj)(loc tmp:AL)(h:H)(R:AL->H->Prop):Prop where
 out:WL P T K call l loc tmp h R
theorem aj{o:COp}(_e0:cm ⟨loc,tmp⟩ gd=some true)(k:WLg P T K call (⟨d,o,args,gd,lo,hi⟩ ::l) loc tmp h R):WL P T K call (⟨d,o,args,gd,lo,hi⟩ ::l) loc tmp h R:=k.out
theorem WL.con{o:COp}{M:Nat->Prop}{fn:FuncId}(b:cm ⟨loc,tmp⟩ gd=some true)(i:evs ⟨loc,tmp⟩ args=some vs)(f:ey o vs=some (fn,vs'))(c:Con P T M fn vs' h v h1)(g:∀id,K id->¬M id)(e:jh M ⟨loc,tmp⟩)
  (a:d7 d v loc tmp=some (loc',tmp')) (k:WL P T K call l loc' tmp' h1 R):WL P T K call (⟨d,o,args,gd,lo,hi⟩ ::l) loc tmp h R:=by
 refine⟨WO.con b i f c g e ?_⟩;show WO P T K call l (d.put ⟨loc,tmp⟩ v) h1 _;rw [gB a];exact k.out
theorem aL{o:COp}{fn:FuncId}(e0:cm ⟨loc,tmp⟩ gd=some true)(e1:evs ⟨loc,tmp⟩ args=some vs)(ec:ey o vs=some (fn,vs'))(c:la P T fn vs' v)
  (e3:d7 d v loc tmp=some (loc',tmp')) (k:WL P T K call l loc' tmp' h R):WL P T K call (⟨d,o,args,gd,lo,hi⟩ ::l) loc tmp h R:=WL.con e0 e1 ec (c.con h noM) (λ_ _ q=>q) .none e3 k
theorem bP{b:AOp}{cs:List V}{mk:Nat->V}(i:cm ⟨loc,tmp⟩ gd=some true)(n:evs ⟨loc,tmp⟩ args=some vs)(f:b.run vs=some (.cells cs.length (cM cs 0 .e) none false,mk))
  (hz:Frz cs mk v) (j:cs.length<=bZ) (m:∀c,c∈cs->dG (λid=>id=h.next) c) (g:d7 d v loc tmp=some (loc',tmp')) (k:WL P T K call l loc' tmp' h R):WL P T K call (⟨d,.a b,args,gd,lo,hi⟩ ::l) loc tmp h R:=by
 refine⟨WO.mkF i n rfl f hz j m ?_⟩;show WO P T K call l (d.put ⟨loc,tmp⟩ v) h _;rw [gB g];exact k.out
theorem mw{id n:Nat}(a:id<bZ)(f:n<=bZ):∀(l:List V) (i:Nat) (h:H) (cs:Tr V),h.blk id=some (.cells n cs none false)->cU l=true->i+l.length<=n->∃h2,H.wr id l i h=some h2/\h2.next=h.next/\(∀j,j≠id->h2.blk j=h.blk j)/\
  ∃cs2,h2.blk id=some (.cells n cs2 none false)/\∀j,cs2.get j=if i<=j/\j<i+l.length then l[j-i]? else cs.get j
 |[],i,h,cs,e,_,_=>⟨h,rfl,rfl,λ_ _=>rfl,cs,e,λj=>by rw [if_neg (by simp only [List.length_nil];omega)]⟩
 |v ::l,i,h,cs,e,ho,hl=>by
  rw [List.length_cons]at hl;have ho:(Bool.rec (motive:=λ_=>Bool) false (cU l) (cQ v):Bool)=true:=ho;rw [cO]at ho
  split at ho
  case isFalse=>cases ho
  rename_i hv
  have e1:h.wr1 id i v=some ⟨h.t.put id (some (.cells n (cs.put i (some v)) none false)),h.next⟩:=by
   show ob (h.blk id) _=_;rw [e];show oif (!false) (oif (Nat.blt i n) (oif (cQ v) (ob (oN 64 none i h) _)))=_;rw [show Nat.blt i n=true by simp [Nat.blt];omega,hv];rfl
  have c:∀j,(⟨h.t.put id (some (.cells n (cs.put i (some v)) none false)),h.next⟩:H).blk j=if j=id then some (.cells n (cs.put i (some v)) none false)else h.blk j:=λj=>Tr.get_put _ _ _ _ a
  obtain⟨h2,m,d,g,cs2,k,o⟩:=mw a f l (i+1) _ (cs.put i (some v)) (by rw [c,if_pos rfl]) ho (by omega);refine⟨h2,?_,d,λj b=>(g j b).trans (by rw [c,if_neg b]),cs2,k,λj=>?_⟩
  ·show ob (h.wr1 id i v) (λh=>H.wr id l (i+1) h)=_
   rw [e1];exact m
  ·rw [o,Tr.get_put _ _ _ _ (by omega),List.length_cons]
   by_cases h1:j=i
   ·subst h1
    rw [if_neg (by omega),if_pos rfl,if_pos (by omega),Nat.sub_self];rfl
   ·rw [if_neg h1]
    by_cases h2:i<=j/\j<i+(l.length+1)
    ·rw [if_pos h2,if_pos (by omega),show j-i=(j-(i+1))+1 by omega,List.getElem?_cons_succ]
    ·rw [if_neg h2,if_neg (by omega)]
theorem aJ{d2:Dst}{args2:List Opd}{gd2:Option (Opd×Bool)}{lo2 hi2:Nat}{zero:List V}{n:Nat}{x:V}{loc1 tmp1 loc2 tmp2:AL}(r:cm ⟨loc,tmp⟩ gd=some true)(u:evs ⟨loc,tmp⟩ args=some [])(A:Nat.blt h.next bZ=true)(z:d7 d (.ptr h.next 0) loc tmp=some (loc1,tmp1))
  (G:cm ⟨loc1,tmp1⟩ gd2=some true) (D:evs ⟨loc1,tmp1⟩ args2=some [.ptr h.next 0,x]) (B:Nat.beq (cD (cellsOf x)) n=true) (hz:Nat.beq (cD zero) n=true) (z1:cU zero=true) (z2:Nat.blt n bZ=true) (ho:cU (cellsOf x)=true) (p:∀c,c∈cellsOf x->bY c)
  (q:d7 d (.eptr (cellsOf x) 0) loc tmp=some (loc',tmp')) (E:d7 d2 cT loc' tmp'=some (loc2,tmp2)) (k:WL P T K call l loc2 tmp2 h R):WL P T K call (⟨d,.a (.alloc zero),args,gd,lo,hi⟩ ::⟨d2,.e (.store n),args2,gd2,lo2,hi2⟩ ::l) loc tmp h R:=by
 have m:=Nat.le_of_ble_eq_true A;have b:=Nat.eq_of_beq_eq_true B;have f:=Nat.eq_of_beq_eq_true hz;have w:=Nat.le_of_ble_eq_true z2;rw [@cq noE]at b f;have i:(Dst.put ⟨loc,tmp⟩ (.ptr h.next 0) d)=⟨loc1,tmp1⟩:=gB z;have s:(Dst.put ⟨loc,tmp⟩ (.eptr (cellsOf x) 0) d)=⟨loc',tmp'⟩:=gB q;have q3:(Dst.put ⟨loc',tmp'⟩ cT d2)=⟨loc2,tmp2⟩:=gB E;have y:(⟨h.t.put h.next (some (.cells zero.length (cM zero 0 .e) none false)),Nat.succ h.next⟩:H).blk h.next=some (.cells zero.length (cM zero 0 .e) none false):=by
  show(h.t.put h.next _).get h.next=_
  rw [Tr.get_put _ _ _ _ (by omega),if_pos rfl]
 obtain⟨h2,F,L,J,g,C,o⟩:=mw (id:=h.next) (n:=zero.length) (by omega) (by omega) (cellsOf x) 0 ⟨h.t.put h.next (some (.cells zero.length (cM zero 0 .e) none false)),Nat.succ h.next⟩ _ y ho (by omega);refine⟨WO.allocF (zero:=zero) (n:=n) (x:=x) (h2:=h2) (cs':=g) r rfl u ?_ (by omega) ?_ rfl ?_ F ?_ (λj v e=>?_) b (λc hc=>(p c hc).free) ?_⟩
 ·show ob (oif (cU zero) (oif (Nat.blt (cD zero) bZ) (some (Blk.cells (cD zero) (cM zero 0 .e) none false)))) _=_
  rw [z1,@cq noE,f,z2];rfl
 ·show cm (Dst.put ⟨loc,tmp⟩ (.ptr h.next 0) d) gd2=_
  rw [i];exact G
 ·show evs (Dst.put ⟨loc,tmp⟩ (.ptr h.next 0) d) args2=_
  rw [i];exact D
 ·rw [C,b,f]
 ·have I:=(List.getElem?_eq_some_iff.1 e).1
  rw [o,if_pos (by omega),Nat.sub_zero];exact e
 ·show WO P T K call l (Dst.put (Dst.put ⟨loc,tmp⟩ (.eptr (cellsOf x) 0) d) cT d2) h _
  rw [s,q3];exact k.out
theorem aV{x:V}(g:cm ⟨loc,tmp⟩ gd=some true)(j:evs ⟨loc,tmp⟩ args=some [x])(h1:cU (cellsOf x)=true)(h2:Nat.blt (cD (cellsOf x)) bZ=true)(f:∀c,c∈cellsOf x->bY c)
  (b:d7 d (.eptr (cellsOf x) 0) loc tmp=some (loc',tmp')) (k:WL P T K call l loc' tmp' h R):WL P T K call (⟨d,.a .box,args,gd,lo,hi⟩ ::l) loc tmp h R:=by
 refine bP (cs:=cellsOf x) (mk:=λi=>.ptr i 0) g j ?_ (.inl ⟨rfl,rfl⟩) (by have:=Nat.le_of_ble_eq_true h2;rw [@cq noE]at this;omega) (λc hc=>(f c hc).free) b k;show ob (oif (cU (cellsOf x)) (oif (Nat.blt (cD (cellsOf x)) bZ) (some (Blk.cells (cD (cellsOf x)) (cM (cellsOf x) 0 .e) none false)))) _=_;rw [h1,h2,@cq noE];rfl
theorem aX{zero:List V}{ln es:Nat}{parts:List (Nat×Nat)}{cs:List V}(m:cm ⟨loc,tmp⟩ gd=some true)(n:evs ⟨loc,tmp⟩ args=some vs)(f:jT parts vs (ku zero ln)=some cs)(h1:cU cs=true)(h2:Nat.beq (cD cs) (Nat.mul ln es)=true)(b:Nat.blt (cD cs) bZ=true)(j:∀c,c∈cs->bY c)
  (g:d7 d (.lst ln es cs) loc tmp=some (loc',tmp')) (k:WL P T K call l loc' tmp' h R):WL P T K call (⟨d,.a (.bslice zero ln es parts),args,gd,lo,hi⟩ ::l) loc tmp h R:=by
 refine bP (cs:=cs) (mk:=λi=>.sl i 0 ln ln true es) m n ?_ (.inr ⟨ln,es,rfl,by have:=Nat.eq_of_beq_eq_true h2;rw [@cq noE]at this;exact this,rfl⟩) (by have:=Nat.le_of_ble_eq_true b;rw [@cq noE]at this;omega) (λc hc=>(j c hc).free) g k;show ob (jT parts vs (ku zero ln)) _=_;rw [f];show ob (oif (cU cs) (oif (Nat.blt (cD cs) bZ) (some (Blk.cells (cD cs) (cM cs 0 .e) none false)))) _=_;rw [h1,b,@cq noE];rfl
theorem aI{e:AOp}{t:Tr Blk}{k:Nat}{b:Blk}{mk:Nat->V}(h:cm ⟨loc,tmp⟩ gd=some true)(j:evs ⟨loc,tmp⟩ args=some vs)(f:e.run vs=some (b,mk))(i:Nat.blt k bZ=true)
  (g:d7 d (mk k) loc tmp=some (loc',tmp')) (c:WL P T K call l loc' tmp' (H.mk (t.put k (some b)) (Nat.succ k)) R):WL P T K call (⟨d,.a e,args,gd,lo,hi⟩ ::l) loc tmp (H.mk t k) R:=by
 refine aK h j ?_ g c;show ob (e.run vs) (λr=>ob (H.new (H.mk t k) r.1) λh'=>some (r.2 k,h'))=_;rw [f];show ob (oif (Nat.blt k bZ) (some (H.mk (t.put k (some b)) (Nat.succ k)))) (λh'=>some (mk k,h'))=_;rw [i];rfl
theorem Ce{f:F}{h h':H}(L:mP h h'):fy T K f h f h':=by
 intro m N E0 g0 w0 E g w tmps s fr;refine⟨E,g,⟨Sit.mk' (@mP.wr E _ _ _ _ _ L s.sit.wr) (λp d=>?_) (λb c e=>s.sit.env e),s.envl,s.envn,s.fix,s.size,s.keep,s.inv,s.pin,s.os,s.tape,s.output⟩,fr,λid b o z e=>⟨id,o,z,e⟩⟩;obtain⟨i,a⟩:=s.sit.pin p d;refine⟨i,?_⟩;rcases L.2 p.1 with e | ⟨n,cs,cs',up,ch,e1,_,_⟩
 ·exact e.trans a
 ·rw [a]at e1;cases e1
theorem WL.store{t:Tr Blk}{k id off n m:Nat}{cs cs':Tr V}{x:V}(g:cm ⟨loc,tmp⟩ gd=some true)(i:evs ⟨loc,tmp⟩ args=some [.ptr id off,x])(r:t.get id=some (.cells n cs none false))(A:Nat.beq (cD (cellsOf x)) m=true)(ho:cU (cellsOf x)=true)
  (y:off+(cellsOf x).length<=n) (a:id<bZ) (s:n<=bZ) (hc:∀j v,cs'.get j=some v->(if off<=j/\j<off+(cellsOf x).length then(cellsOf x)[j-off]? else cs.get j)=some v)
  (u:d7 d cT loc tmp=some (loc',tmp')) (c:WL P T K call l loc' tmp' ⟨t.put id (some (.cells n cs' none false)),k⟩ R):WL P T K call (⟨d,.e (.store m),args,gd,lo,hi⟩ ::l) loc tmp ⟨t,k⟩ R:=by
 obtain⟨h2,z,p,w,b,f,o⟩:=mw a s (cellsOf x) off ⟨t,k⟩ cs r ho y;have B:∀j,(⟨t.put id (some (.cells n cs' none false)),k⟩:H).blk j=if j=id then some (.cells n cs' none false)else(⟨t,k⟩:H).blk j:=λj=>Tr.get_put _ _ _ _ a
 refine aK (h1:=h2) (v:=cT) g i ?_ u ⟨bN (Ce (h':=⟨t.put id (some (.cells n cs' none false)),k⟩) ⟨p.symm,λj=>?_⟩) c.out⟩
 ·show oif (Nat.beq (cD (cellsOf x)) m) (ob (H.wr id (cellsOf x) off ⟨t,k⟩) λh=>some (cT,h))=_
  rw [A,z];rfl
 ·rw [B]
  by_cases hj:j=id
  ·subst hj
   rw [if_pos rfl];exact .inr ⟨n,b,cs',none,false,f,rfl,λq v C=>by rw [o];exact hc q v C⟩
  ·rw [if_neg hj]
   exact .inl (w j hj).symm
theorem aS{t:Tr Blk}{k id n m:Nat}{cs:Tr V}{x:V}(p:cm ⟨loc,tmp⟩ gd=some true)(s:evs ⟨loc,tmp⟩ args=some [.ptr id 0,x])(f:t.get id=some (.cells n cs none false))(r:Nat.beq (cD (cellsOf x)) m=true)(ho:cU (cellsOf x)=true)
  (q:Nat.beq (cD (cellsOf x)) n=true) (b:Nat.blt id bZ=true) (g:Nat.ble n bZ=true)
  (o:d7 d cT loc tmp=some (loc',tmp')) (c:WL P T K call l loc' tmp' ⟨t.put id (some (.cells n (cM (cellsOf x) 0 .e) none false)),k⟩ R):WL P T K call (⟨d,.e (.store m),args,gd,lo,hi⟩ ::l) loc tmp ⟨t,k⟩ R:=by
 have i:(cellsOf x).length=n:=by rw [<-@cq noE];exact Nat.eq_of_beq_eq_true q
 have a:=Nat.le_of_ble_eq_true g;refine WL.store p s f r ho (by omega) (Nat.le_of_ble_eq_true b) a (λj v e=>?_) o c;rw [@dz noE _ 0 .e j (by omega)]at e
 by_cases h:0<=j/\j<0+(cellsOf x).length
 ·rw [if_pos h]at e ⊢;exact e
 ·rw [if_neg h]at e;cases e
theorem aT{t:Tr Blk}{k id off n:Nat}{cs:Tr V}{x:V}(p:cm ⟨loc,tmp⟩ gd=some true)(r:evs ⟨loc,tmp⟩ args=some [.ptr id off,x])(i:t.get id=some (.cells n cs none false))(a:cellsOf x=[x])(ho:cQ x=true)
  (q:Nat.blt off n=true) (g:Nat.blt id bZ=true) (m:Nat.ble n bZ=true)
  (o:d7 d cT loc tmp=some (loc',tmp')) (c:WL P T K call l loc' tmp' ⟨t.put id (some (.cells n (cs.put off (some x)) none false)),k⟩ R):WL P T K call (⟨d,.e (.store 1),args,gd,lo,hi⟩ ::l) loc tmp ⟨t,k⟩ R:=by
 have f:=Nat.le_of_ble_eq_true q;have b:=Nat.le_of_ble_eq_true m;refine WL.store p r i (by rw [a];rfl) (by rw [a];show(Bool.rec (motive:=λ_=>Bool) false (cU []) (cQ x):Bool)=true;rw [ho];rfl) (by rw [a];exact f) (Nat.le_of_ble_eq_true g) b (λj v e=>?_) o c;rw [Tr.get_put _ _ _ _ (by omega)]at e;rw [a]
 by_cases h:j=off
 ·subst h
  rw [if_pos rfl]at e;rw [if_pos (by simp),Nat.sub_self];exact e
 ·rw [if_neg h]at e
  rw [if_neg (by simp only [List.length_singleton];omega)];exact e
theorem aC{o:COp}{t:Nat}{b w:Bool}(e:lk tmp t=some (.bool b))(j:b=true->WL P T K call (⟨d,o,args,some (.t t,w),lo,hi⟩ ::l) loc ((t,.bool true) ::tmp) h R)
  (i:b=false->WL P T K call (⟨d,o,args,some (.t t,w),lo,hi⟩ ::l) loc ((t,.bool false) ::tmp) h R):WL P T K call (⟨d,o,args,some (.t t,w),lo,hi⟩ ::l) loc tmp h R:=by
 have v:∀c,b=c->fy T K ⟨loc,tmp⟩ h ⟨loc,(t,.bool c) ::tmp⟩ h:=by
  rintro c rfl m N E0 g0 w0 E g w tmps s fr;refine⟨E,g,s,⟨fr.1,λs v a=>fr.2 s v ?_⟩,λid b o z e=>⟨id,o,z,e⟩⟩;unfold rdn at a ⊢
  split at a
  ·rename_i f;rw [if_pos f];exact a
  ·rename_i f
   rw [if_neg f];have a:lk ((t,.bool b) ::tmp) s=some v:=a;rw [@dJ noE]at a
   by_cases q:t=s
   ·rw [if_pos q]at a;rw [<-q,<-a];exact e
   ·rw [if_neg q]at a;exact a
 cases b with
 |true=>exact⟨bN (v true rfl) (j rfl).out⟩
 |false=>exact⟨bN (v false rfl) (i rfl).out⟩
end
section
variable {loc loc':AL} {h h':H} {Q:X->AL->H->Prop}
inductive ue(P:Program)(T:Ty)(K:Nat->Prop)(call:cN)(n:Nat)(c:cF)(Q:X->AL->H->Prop):X->AL->H->Prop
 |norm {loc:AL} {h:H} (k:WC P T K call n c loc h Q):ue P T K call n c Q .norm loc h
 |exit {id:Nat} {loc:AL} {h:H} (k:Q (.exit id) loc h):ue P T K call n c Q (.exit id) loc h
 |ret {loc:AL} {h:H} (k:Q .ret loc h):ue P T K call n c Q .ret loc h
inductive OnC(I:AL->H->Prop)(Q:X->AL->H->Prop):X->AL->H->Prop
 |norm {loc:AL} {h:H} (k:I loc h):OnC I Q .norm loc h
 |exit {id:Nat} {loc:AL} {h:H} (k:Q (.exit id) loc h):OnC I Q (.exit id) loc h
 |ret {loc:AL} {h:H} (k:Q .ret loc h):OnC I Q .ret loc h
theorem F.loc_eq{f:F}(e:f.tmp=[]):f=⟨f.loc,[]⟩:=by cases f;cases e;rfl
theorem aa{l:List cj}(k:WL P T K call l loc [] h (Q .norm)):WC P T K call n (.reg l) loc h Q:=by
 obtain⟨f',h',a,b⟩:=k.out;exact⟨⟨_,_,_,.reg a,rfl,b⟩⟩
theorem ae{a b:cF}(k:WC P T K call n a loc h (ue P T K call n b Q)):WC P T K call n (.seq a b) loc h Q:=by
 obtain⟨x,f1,h1,d,f,c⟩:=k.out;cases x with
 |norm=>
  cases c with
  |norm c=>
  obtain⟨x,f',h',g,i⟩:=c.out;rw [<-F.loc_eq f]at g;exact⟨⟨x,f',h',.seq d g,i⟩⟩
 |exit id=>cases c with|exit c=>exact⟨⟨_,f1,h1,.seqX d (λe=>by cases e),f,c⟩⟩
 |ret=>cases c with|ret c=>exact⟨⟨_,f1,h1,.seqX d (λe=>by cases e),f,c⟩⟩
theorem ak(k:Q .norm loc h):WC P T K call n .skip loc h Q:=⟨W.exec rfl ⟨rfl,k⟩⟩
theorem ax{id:Nat}(k:Q (.exit id) loc h):WC P T K call n (.exit id) loc h Q:=⟨W.exec rfl ⟨rfl,k⟩⟩
theorem am(k:Q .ret loc h):WC P T K call n .ret loc h Q:=⟨W.exec rfl ⟨rfl,k⟩⟩
theorem ah{o:Opd}{a b:cF}{t:Bool}(e:o.ev ⟨loc,[]⟩=some (.bool t))(k1:t=true->WC P T K call n a loc h Q)(k2:t=false->WC P T K call n b loc h Q):WC P T K call n (.cond o a b) loc h Q:=⟨W.cond e (λq=>(k1 q).out) λq=>(k2 q).out⟩
theorem aF{o:Opd}{a b:cF}(e:o.ev ⟨loc,[]⟩=some (.bool true))(k:WC P T K call n a loc h Q):WC P T K call n (.cond o a b) loc h Q:=ah e (λ_=>k) (λq=>by cases q)
theorem aD{o:Opd}{a b:cF}(e:o.ev ⟨loc,[]⟩=some (.bool false))(k:WC P T K call n b loc h Q):WC P T K call n (.cond o a b) loc h Q:=ah e (λq=>by cases q) (λ_=>k)
theorem ai{id:Nat}{c:cF}(k:WC P T K call n c loc h λx=>Q (unX id x)):WC P T K call n (.block id c) loc h Q:=⟨W.block (Q:=λx f' h'=>f'.tmp=[]/\Q x f'.loc h') k.out⟩
theorem WC.sem{c:cF}{x:X}(e:FL P T K c ⟨loc,[]⟩ h x ⟨loc',[]⟩ h')(k:Q x loc' h'):WC P T K call n c loc h Q:=⟨W.sem e ⟨rfl,k⟩⟩
theorem WC.mono{c:cF}{Q':X->AL->H->Prop}(k:WC P T K call n c loc h Q)(hq:∀x loc h,Q x loc h->Q' x loc h):WC P T K call n c loc h Q':=⟨W.mono k.out λ_ _ _ q=>⟨q.1,hq _ _ _ q.2⟩⟩
theorem az{c:cF}(e:fy T K ⟨loc,[]⟩ h ⟨loc',[]⟩ h')(k:WC P T K call n c loc' h' Q):WC P T K call n c loc h Q:=⟨W.view e k.out⟩
theorem bD{a b:cF}(I:AL->H->Prop)(d:WC P T K call n a loc h (OnC (λl1 h1=>∃l2 h2,fy T K ⟨l1,[]⟩ h1 ⟨l2,[]⟩ h2/\I l2 h2) Q))(c:∀l2 h2,I l2 h2->WC P T K call n b l2 h2 Q):WC P T K call n (.seq a b) loc h Q:=by
 refine ae (d.mono λx l1 h1 q=>?_);cases q with
 |norm q=>
  obtain⟨l2,h2,v,i⟩:=q;exact .norm (az v (c l2 h2 i))
 |exit q=>exact .exit q
 |ret q=>exact .ret q
theorem bz{l:List cj}{t:Nat}{a b:cF}{L:Bool->AL}(_:∀x,vF loc t (.bool x)=some (L x))(d:WL P T K call l loc [] h λl' h'=>(∃x,l'=L x)/\h'=h)(c:∀x,WC P T K call n (.cond (.l t) a b) (L x) h Q):WC P T K call n (.seq (.reg l) (.cond (.l t) a b)) loc h Q:=by
 refine ae (WC.mono (aa (Q:=λx l' h'=>x= .norm/\(∃x,l'=L x)/\h'=h) ⟨?_⟩) λx l' h' q=>?_)
 ·obtain⟨f',h',k,q⟩:=d.out
  exact⟨f',h',k,rfl,q⟩
 ·obtain⟨rfl,⟨x,rfl⟩,rfl⟩:=q
  exact .norm (c x)
theorem aA{c:cF}(m:Nat)(I:Nat->AL->H->Prop)(a:∀i loc h,i<=m->I i loc h->WC P T K call n c loc h (OnC (λloc h=>∃l2 h2,fy T K ⟨loc,[]⟩ h ⟨l2,[]⟩ h2/\i<m/\I (i+1) l2 h2) Q)){i:Nat}(hi:i<=m)(k:I i loc h):WC P T K call n (.loop c) loc h Q:=by
 refine⟨W.count m (λi f h=>f.tmp=[]/\I i f.loc h) (λi f h hi q=>?_) hi ⟨rfl,k⟩⟩;have:=(a i f.loc h hi q.2).out;rw [<-F.loc_eq q.1]at this;refine W.mono this λx f1 h1 q=>?_;obtain⟨e,q⟩:=q;cases x with
 |norm=>
  cases q with
  |norm q=>
  obtain⟨l2,h2,v,b,k⟩:=q;rw [<-F.loc_eq e]at v;exact⟨_,_,v,b,rfl,k⟩
 |exit id=>cases q with|exit q=>exact⟨e,q⟩
 |ret=>cases q with|ret q=>exact⟨e,q⟩
theorem bO{c:cF}(I:Nat->AL->H->Prop)(a:∀k loc h,I k loc h->WC P T K call n c loc h (OnC (λloc h=>∃l2 h2,fy T K ⟨loc,[]⟩ h ⟨l2,[]⟩ h2/\∃j,j<k/\I j l2 h2) Q)){k:Nat}(i:I k loc h):WC P T K call n (.loop c) loc h Q:=by
 refine⟨W.loop (λk f h=>f.tmp=[]/\I k f.loc h) (λk f h q=>?_) ⟨rfl,i⟩⟩;have:=(a k f.loc h q.2).out;rw [<-F.loc_eq q.1]at this;refine W.mono this λx f1 h1 q=>?_;obtain⟨e,q⟩:=q;cases x with
 |norm=>
  cases q with
  |norm q=>
  obtain⟨l2,h2,v,j,b,k⟩:=q;rw [<-F.loc_eq e]at v;exact⟨_,_,v,j,b,rfl,k⟩
 |exit id=>cases q with|exit q=>exact⟨e,q⟩
 |ret=>cases q with|ret q=>exact⟨e,q⟩
theorem WC.regD{l:List cj}(k:WD call l ⟨⟨loc,[]⟩,h,[],[]⟩ λs=>bR s.cs (jP s.hs [s.h])/\Q .norm s.f.loc s.h):WC P T K call n (.regD l) loc h Q:=by
 refine⟨W.regD ?_⟩;obtain⟨s,a,b,c⟩:=k;exact⟨s,a,b,rfl,c⟩
noncomputable def IB(x:Opd)(b:Bool)(loc tmp:AL):Option (AL×AL):=Opd.rec (motive:=λ_=>Option (AL×AL)) (λt=>ob (vF loc t (.bool b)) λl=>some (l,tmp)) (λt=>ob (vF tmp t (.bool b)) λl=>some (loc,l)) (λ_=>some (loc,tmp)) x
theorem su:∀{l:AL} {t:Nat} {v:V},lk l t=some v->upd l t v=l
 |[],t,v,h=>by cases h
 |p ::tl,t,v,h=>by
  rw [@dJ noE]at h;rw [@sv noE]
  by_cases q:p.1=t
  ·rw [if_pos q]at h ⊢
   cases h;rw [<-q]
  ·rw [if_neg q]at h ⊢
   rw [su h]
theorem Ba{x:Opd}{b:Bool}{loc tmp a d:AL}(e:x.ev ⟨loc,tmp⟩=some (.bool b))(s:IB x b loc tmp=some (a,d)):a=loc/\d=tmp:=by
 cases x with
 |l t=>
  obtain⟨r,h1,h2⟩:=bQ.1 (show ob (vF loc t (.bool b)) (λl=>some (l,tmp))=some (a,d)from s);cases h2;exact⟨(nO h1).symm.trans (su e),rfl⟩
 |t t=>
  obtain⟨r,h1,h2⟩:=bQ.1 (show ob (vF tmp t (.bool b)) (λl=>some (loc,l))=some (a,d)from s);cases h2;exact⟨rfl,(nO h1).symm.trans (su e)⟩
 |c _=>cases s;exact⟨rfl,rfl⟩
structure WX(P:Program)(T:Ty)(M:Nat->Prop)(l:List cj)(loc tmp:AL)(h:H)(hs:List H)(cs:List Tc)(R:AL->H->Prop):Prop where
 out:∃s',wT P T M none l ⟨⟨loc,tmp⟩,h,hs,cs⟩ s'/\bR s'.cs (jP s'.hs [s'.h])/\R s'.f.loc s'.h
section
variable {M:Nat->Prop} {loc tmp loc' tmp':AL} {h h1:H} {hs:List H} {cs:List Tc} {l:List cj} {R:AL->H->Prop} {d:Dst} {args:List Opd} {gd:Option (Opd×Bool)} {lo hi:Nat} {vs vs':List V} {v:V}
theorem aO(hc:bR cs (jP hs [h]))(k:R loc h):WX P T M [] loc tmp h hs cs R:=⟨_,.nil,hc,k⟩
theorem bA{o:cj}{a:List H}{b:List Tc}(st:ol P T M none o ⟨⟨loc,tmp⟩,h,hs,cs⟩ v ⟨o.dst.put ⟨loc,tmp⟩ v,h1,a,b⟩)(d:d7 o.dst v loc tmp=some (loc',tmp'))(k:WX P T M l loc' tmp' h1 a b R):WX P T M (o ::l) loc tmp h hs cs R:=by
 obtain⟨s',f,c,e⟩:=k;refine⟨s',.cons st ?_,c,e⟩;rw [gB d];exact f
theorem aU{o:POp}(e0:cm ⟨loc,tmp⟩ gd=some true)(e1:evs ⟨loc,tmp⟩ args=some vs)(e2:o.run vs=some v)(e3:d7 d v loc tmp=some (loc',tmp'))(k:WX P T M l loc' tmp' h hs cs R):WX P T M (⟨d,.p o,args,gd,lo,hi⟩ ::l) loc tmp h hs cs R:=
 bA ⟨rfl,rfl,.inr ⟨vs,e0,e1,.p rfl e2 rfl rfl⟩⟩ e3 k
theorem aQ{o:ROp}(e0:cm ⟨loc,tmp⟩ gd=some true)(e1:evs ⟨loc,tmp⟩ args=some vs)(e2:o.run vs h=some v)(e3:d7 d v loc tmp=some (loc',tmp'))(k:WX P T M l loc' tmp' h hs (⟨o,vs,v,lo,hi⟩ ::cs) R):WX P T M (⟨d,.r o,args,gd,lo,hi⟩ ::l) loc tmp h hs cs R:=
 bA ⟨rfl,rfl,.inr ⟨vs,e0,e1,.r rfl e2 rfl rfl⟩⟩ e3 k
theorem bn{o:COp}(e0:cm ⟨loc,tmp⟩ gd=some false)(eE:isE o=false)(e3:d7 d cT loc tmp=some (loc',tmp'))(k:WX P T M l loc' tmp' h hs cs R):WX P T M (⟨d,o,args,gd,lo,hi⟩ ::l) loc tmp h hs cs R:=
 bA ⟨rfl,by show hs=if isE o=true then _ else _;rw [eE];rfl,.inl ⟨e0,rfl,rfl,rfl⟩⟩ e3 k
theorem bt{o:COp}(e0:cm ⟨loc,tmp⟩ gd=some false)(eE:isE o=true)(e3:d7 d cT loc tmp=some (loc',tmp'))(k:WX P T M l loc' tmp' h (h ::hs) cs R):WX P T M (⟨d,o,args,gd,lo,hi⟩ ::l) loc tmp h hs cs R:=
 bA ⟨rfl,by show h ::hs=if isE o=true then _ else _;rw [eE];rfl,.inl ⟨e0,rfl,rfl,rfl⟩⟩ e3 k
theorem bC{zero:List V}{ln es:Nat}{parts:List (Nat×Nat)}{cl:List V}(m:cm ⟨loc,tmp⟩ gd=some true)(n:evs ⟨loc,tmp⟩ args=some vs)(f:jT parts vs (ku zero ln)=some cl)(h1:cU cl=true)(h2:Nat.beq (cD cl) (Nat.mul ln es)=true)(b:Nat.blt (cD cl) bZ=true)(j:∀c,c∈cl->bY c)
  (g:d7 d (.lst ln es cl) loc tmp=some (loc',tmp')) (k:WX P T M l loc' tmp' h hs cs R):WX P T M (⟨d,.a (.bslice zero ln es parts),args,gd,lo,hi⟩ ::l) loc tmp h hs cs R:=by
 refine bA ⟨rfl,rfl,.inr ⟨_,m,n,.mkF (cs:=cl) (mk:=λi=>.sl i 0 ln ln true es) rfl ?_ (.inr ⟨ln,es,rfl,by have:=Nat.eq_of_beq_eq_true h2;rw [@cq noE]at this;exact this,rfl⟩) (by have:=Nat.le_of_ble_eq_true b;rw [@cq noE]at this;omega) (λM c hc=>(j c hc).free) rfl rfl⟩⟩ g k;show ob (jT parts vs (ku zero ln)) _=_;rw [f];show ob (oif (cU cl) (oif (Nat.blt (cD cl) bZ) (some (Blk.cells (cD cl) (cM cl 0 .e) none false)))) _=_;rw [h1,b,@cq noE];rfl
theorem bh{o:COp}{fn:FuncId}(e:cm ⟨loc,tmp⟩ gd=some true)(g:evs ⟨loc,tmp⟩ args=some vs)(a:ey o vs=some (fn,vs'))(c:Con P T M fn vs' h v h1)(f:jh M ⟨loc,tmp⟩)
  (b:d7 d v loc tmp=some (loc',tmp')) (k:WX P T M l loc' tmp' h1 (h ::hs) cs R):WX P T M (⟨d,o,args,gd,lo,hi⟩ ::l) loc tmp h hs cs R:=by
 have hE:isE o=true:=by
  unfold ey at a
  split at a
  ·rfl
  ·rfl
  ·cases a
 exact bA ⟨rfl,by show h ::hs=if isE o=true then _ else _;rw [hE];rfl,.inr ⟨vs,e,g,.con hE a c f rfl rfl⟩⟩ b k
theorem mI{o:COp}{fn:FuncId}(a:ey o vs=some (fn,vs')):isE o=true:=by
 unfold ey at a
 split at a
 ·rfl
 ·rfl
 ·cases a
theorem WX.pcall{o:COp}{fn:FuncId}(e0:cm ⟨loc,tmp⟩ gd=some true)(e1:evs ⟨loc,tmp⟩ args=some vs)(ec:ey o vs=some (fn,vs'))(c:la P T fn vs' v)(_hf:jh M ⟨loc,tmp⟩)
  (e3:d7 d v loc tmp=some (loc',tmp')) (k:WX P T M l loc' tmp' h (h ::hs) cs R):WX P T M (⟨d,o,args,gd,lo,hi⟩ ::l) loc tmp h hs cs R:=bA ⟨rfl,by show h ::hs=if isE o=true then _ else _;rw [mI ec];rfl,.inr ⟨vs,e0,e1,.pc (mI ec) ec c rfl rfl⟩⟩ e3 k
theorem bo{o:EOp}(e0:cm ⟨loc,tmp⟩ gd=some true)(e1:evs ⟨loc,tmp⟩ args=some vs)(e2:o.run vs h=some (v,h1))(e3:d7 d v loc tmp=some (loc',tmp'))(k:WX P T M l loc' tmp' h1 (h ::hs) cs R):WX P T M (⟨d,.e o,args,gd,lo,hi⟩ ::l) loc tmp h hs cs R:=
 bA ⟨rfl,rfl,.inr ⟨vs,e0,e1,.w rfl e2 rfl λ_ _ q=>by cases q⟩⟩ e3 k
theorem WX.gt{o:COp}(_e0:cm ⟨loc,tmp⟩ gd=some true)(k:WX P T M (⟨d,o,args,gd,lo,hi⟩ ::l) loc tmp h hs cs R):WX P T M (⟨d,o,args,gd,lo,hi⟩ ::l) loc tmp h hs cs R:=k
theorem bp{o:COp}{x:Opd}{w t:Bool}{a c b t2:AL}(e:x.ev ⟨loc,tmp⟩=some (.bool t))(j:IB x true loc tmp=some (a,c))(f:IB x false loc tmp=some (b,t2))
  (i:t=true->WX P T M (⟨d,o,args,some (x,w),lo,hi⟩ ::l) a c h hs cs R) (g:t=false->WX P T M (⟨d,o,args,some (x,w),lo,hi⟩ ::l) b t2 h hs cs R):WX P T M (⟨d,o,args,some (x,w),lo,hi⟩ ::l) loc tmp h hs cs R:=by
 cases t with
 |true=>
  obtain⟨rfl,rfl⟩:=Ba e j;exact i rfl
 |false=>
  obtain⟨rfl,rfl⟩:=Ba e f;exact g rfl
end
theorem WC.regX{M:Nat->Prop}{l:List cj}{loc:AL}{h:H}{Q:X->AL->H->Prop}(d:jh M ⟨loc,[]⟩)(e:∀id,K id->¬M id)(k:WX P T M l loc [] h [] [] λloc h=>Q .norm loc h):WC P T K call n (.regD l) loc h Q:=by
 refine⟨W.regX d e ?_⟩;obtain⟨s,c,a,b⟩:=k;exact⟨s,c,a,rfl,b⟩
theorem aP{l:List cj}{loc:AL}{h:H}{Q:X->AL->H->Prop}(k:WX P T noM l loc [] h [] [] λloc h=>Q .norm loc h):WC P T K call n (.regD l) loc h Q:=WC.regX .none (λ_ _ q=>q) k
end
end
theorem Nq{b:Bool}{p:Prop}(q:b=false)(h:b=true:=by assumption):p:=absurd (q.symm.trans h) (by decide)
theorem Nr{b:Bool}{p:Prop}(q:b=true)(h:b=false:=by assumption):p:=absurd (q.symm.trans h) (by decide)
theorem Nf{b:Bool}{p:Prop}(q:b=false)(h:b=true:=by with_reducible assumption):p:=absurd (q.symm.trans h) (by decide)
theorem Nt{b:Bool}{p:Prop}(q:b=true)(h:b=false:=by with_reducible assumption):p:=absurd (q.symm.trans h) (by decide)
section
variable {P:Program} {T:Ty} {K M:Nat->Prop} {call:cN} {n:Nat} {loc tmp loc' tmp':AL} {h h1:H} {l:List cj} {R:AL->H->Prop} {d:Dst} {args:List Opd} {gd:Option (Opd×Bool)} {lo hi:Nat} {vs vs':List V} {v:V} {b:cF} {Q:X->AL->H->Prop} {I:AL->H->Prop} {hs:List H} {cs:List Tc}
theorem bE{o:POp}(b:o.run vs=some v)(k:WL P T K call l loc' tmp' h R)(a:cm ⟨loc,tmp⟩ gd=some true:=by exact rfl)(e1:evs ⟨loc,tmp⟩ args=some vs:=by exact rfl)(e3:d7 d v loc tmp=some (loc',tmp'):=by exact rfl):WL P T K call (⟨d,.p o,args,gd,lo,hi⟩ ::l) loc tmp h R:=av a e1 b e3 k
theorem ac{o:POp}(k:WL P T K call l loc' tmp' h R)(a:cm ⟨loc,tmp⟩ gd=some true:=by exact rfl)(e1:evs ⟨loc,tmp⟩ args=some vs:=by exact rfl)(e2:o.run vs=some v:=by exact rfl)(e3:d7 d v loc tmp=some (loc',tmp'):=by exact rfl):WL P T K call (⟨d,.p o,args,gd,lo,hi⟩ ::l) loc tmp h R:=av a e1 e2 e3 k
theorem aG{o:ROp}(b:o.run vs h=some v)(k:WL P T K call l loc' tmp' h R)(a:cm ⟨loc,tmp⟩ gd=some true:=by exact rfl)(e1:evs ⟨loc,tmp⟩ args=some vs:=by exact rfl)(e3:d7 d v loc tmp=some (loc',tmp'):=by exact rfl):WL P T K call (⟨d,.r o,args,gd,lo,hi⟩ ::l) loc tmp h R:=ap a e1 b e3 k
theorem au{o:ROp}(k:WL P T K call l loc' tmp' h R)(a:cm ⟨loc,tmp⟩ gd=some true:=by exact rfl)(e1:evs ⟨loc,tmp⟩ args=some vs:=by exact rfl)(e2:o.run vs h=some v:=by exact rfl)(e3:d7 d v loc tmp=some (loc',tmp'):=by exact rfl):WL P T K call (⟨d,.r o,args,gd,lo,hi⟩ ::l) loc tmp h R:=ap a e1 e2 e3 k
theorem aw{o:COp}{fn:FuncId}(c:Con P T noM fn vs' h v h1)(k:WL P T K call l loc' tmp' h1 R)(a:cm ⟨loc,tmp⟩ gd=some true:=by exact rfl)(e1:evs ⟨loc,tmp⟩ args=some vs:=by exact rfl)(ec:ey o vs=some (fn,vs'):=by exact rfl)(e3:d7 d v loc tmp=some (loc',tmp'):=by exact rfl):WL P T K call (⟨d,o,args,gd,lo,hi⟩ ::l) loc tmp h R:=WL.con a e1 ec c (λ_ _ q=>q) .none e3 k
theorem ay{o:COp}{fn:FuncId}(c:la P T fn vs' v)(k:WL P T K call l loc' tmp' h R)(a:cm ⟨loc,tmp⟩ gd=some true:=by exact rfl)(e1:evs ⟨loc,tmp⟩ args=some vs:=by exact rfl)(ec:ey o vs=some (fn,vs'):=by exact rfl)(e3:d7 d v loc tmp=some (loc',tmp'):=by exact rfl):WL P T K call (⟨d,o,args,gd,lo,hi⟩ ::l) loc tmp h R:=aL a e1 ec c e3 k
theorem aH{o:POp}(k:WX P T M l loc' tmp' h hs cs R)(a:cm ⟨loc,tmp⟩ gd=some true:=by exact rfl)(e1:evs ⟨loc,tmp⟩ args=some vs:=by exact rfl)(e2:o.run vs=some v:=by exact rfl)(e3:d7 d v loc tmp=some (loc',tmp'):=by exact rfl):WX P T M (⟨d,.p o,args,gd,lo,hi⟩ ::l) loc tmp h hs cs R:=aU a e1 e2 e3 k
theorem aM{o:ROp}(k:WX P T M l loc' tmp' h hs (⟨o,vs,v,lo,hi⟩ ::cs) R)(a:cm ⟨loc,tmp⟩ gd=some true:=by exact rfl)(e1:evs ⟨loc,tmp⟩ args=some vs:=by exact rfl)(e2:o.run vs h=some v:=by exact rfl)(e3:d7 d v loc tmp=some (loc',tmp'):=by exact rfl):WX P T M (⟨d,.r o,args,gd,lo,hi⟩ ::l) loc tmp h hs cs R:=aQ a e1 e2 e3 k
theorem aR{o:COp}{fn:FuncId}(c:la P T fn vs' v)(k:WX P T noM l loc' tmp' h (h ::hs) cs R)(a:cm ⟨loc,tmp⟩ gd=some true:=by exact rfl)(e1:evs ⟨loc,tmp⟩ args=some vs:=by exact rfl)(ec:ey o vs=some (fn,vs'):=by exact rfl)(e3:d7 d v loc tmp=some (loc',tmp'):=by exact rfl):WX P T noM (⟨d,o,args,gd,lo,hi⟩ ::l) loc tmp h hs cs R:=WX.pcall a e1 ec c .none e3 k
theorem thN(k:WC P T K call n b loc h Q):ue P T K call n b Q .norm loc h:= .norm k
theorem thE{id:Nat}(k:Q (.exit id) loc h):ue P T K call n b Q (.exit id) loc h:= .exit k
theorem thR(k:Q .ret loc h):ue P T K call n b Q .ret loc h:= .ret k
theorem onE{id:Nat}(k:Q (.exit id) loc h):OnC I Q (.exit id) loc h:= .exit k
theorem onR(k:Q .ret loc h):OnC I Q .ret loc h:= .ret k
end
end
section
def I3:COp->Bool
 |.a (.alloc _)=>true
 |_=>false
def xU:List cj->Bool->Bool
 |[],_=>true
 |c ::l,seen=>if I3 c.op then !seen&&xU l true else xU l seen
theorem Er:∀{l:List cj},xU l true=true->∀(p:Nat) (c:cj) (z:List V),l[p]? =some c->c.op≠.a (.alloc z)
 |[],_,p,c,z,e=>by simp at e
 |d ::l,h,p,c,z,e=>by
  unfold xU at h;cases q:I3 d.op with
  |true=>rw [q,if_pos rfl]at h;cases h
  |false=>
   rw [q,if_neg (by decide)]at h;cases p with
   |zero=>
    obtain rfl:d=c:=by simpa using e
    intro k;rw [k]at q;cases q
   |succ p=>exact Er h p c z (by simpa using e)
theorem Em:∀{l:List cj},xU l false=true->One l
 |[],_,p,q,c,c',z,z',e,_,_,_=>by simp at e
 |d ::l,h,p,q,c,c',z,z',e1,e2,e3,e4=>by
  unfold xU at h;cases k:I3 d.op with
  |true=>
   rw [k,if_pos rfl]at h;have h:xU l true=true:=h;cases p with
   |zero=>
    cases q with
    |zero=>rfl
    |succ q=>exact absurd e4 (Er h q c' z' (by simpa using e2))
   |succ p=>exact absurd e3 (Er h p c z (by simpa using e1))
  |false=>
   rw [k,if_neg (by decide)]at h;have no:∀{c:cj} {z:List V},d=c->c.op= .a (.alloc z)->False:=λe f=>by
    subst e;rw [f]at k;cases k
   cases p with
   |zero=>exact(no (by simpa using e1) e3).elim
   |succ p=>
    cases q with
    |zero=>exact(no (by simpa using e2) e4).elim
    |succ q=>exact congrArg (·+1) (Em h p q c c' z z' (by simpa using e1) (by simpa using e2) e3 e4)
section
variable {P:Program} {T:Ty} {K:Nat->Prop} {call:cN} {n:Nat}
theorem Sit.plus{E:En}{g:G}{h:H}{w:World}(s:Sit T E g h w)(D:h.next<bZ){b:Blk}(n:b.kin=some (none,false)):Sit T E g ⟨h.t.put h.next (some b),Nat.succ h.next⟩ w/\g h.next=none:=by
 have hg:g h.next=none:=by
  cases e:g h.next with
  |none=>rfl
  |some x=>exact absurd (@WR.dom E _ _ _ _ s.wr _ _ e) (by omega)
 have y:∀j,(⟨h.t.put h.next (some b),Nat.succ h.next⟩:H).blk j=if j=h.next then some b else h.blk j:=λj=>by
  show(h.t.put h.next (some b)).get j=_;exact Tr.get_put _ _ _ _ D
 refine⟨Sit.mk' ?_ (λp K=>?_) λb c e=>s.env e,hg⟩
 ·have r:=s.wr
  have top:=@WR.top E _ _ _ _ s.wr;cases r with
  |mk r1 r2 r3 r4 r5 r6 r7 r8=>
   have old:∀{i x},g i=some x->(⟨h.t.put h.next (some b),Nat.succ h.next⟩:H).blk i=h.blk i:=λe=>by rw [y,if_neg (λq=>by rw [q,hg]at e;cases e)]
   have up:∀{i j d},Up h i j d->Up ⟨h.t.put h.next (some b),Nat.succ h.next⟩ i j d:=λu=>by
    have v:∀{i f},h.blk i=some f->(⟨h.t.put h.next (some b),Nat.succ h.next⟩:H).blk i=some f:=λ{i f} e=>by
     rw [y,if_neg (λq=>by rw [q]at e;exact absurd (top _ _ e) (Nat.lt_irrefl _))];exact e
    induction u with
    |one e k=>exact .one (v e) k
    |step e k u ih=>exact .step (v e) k ih
   refine @WR.mk E T g _ w D (λid f e=>?_) (λid x q=>Nat.lt_succ_of_lt (r3 id x q)) r4 (λid x f a l=>r5 id x f a ((old a)▸l)) (λi j f o z o' J N O C a l A I M L=>?_) (λi f j d ch a l=>?_) λi f j d ch b2 a l A=>?_
   ·rw [y]at e
    split at e
    ·rename_i q;rw [q];exact Nat.lt_succ_self _
    ·exact Nat.lt_succ_of_lt (r2 id f e)
   ·rw [old a]at A
    rw [old l]at I;rcases r6 i j f o z o' J N O C a l A I M L with⟨d,u,q⟩ | ⟨d,u,q⟩|q
    ·exact .inl ⟨d,up u,q⟩
    ·exact .inr (.inl ⟨d,up u,q⟩)
    ·exact .inr (.inr q)
   ·rw [y]at a
    split at a
    ·cases a
     rw [n]at l;cases l
    ·obtain⟨b2,u,m,B,F⟩:=r7 i f j d ch a l
     refine⟨b2,u,?_,B,F⟩;rw [y,if_neg (λq=>by rw [q]at m;exact absurd (top _ _ m) (Nat.lt_irrefl _))];exact m
   ·rw [y]at a
    split at a
    ·cases a
     rw [n]at l;cases l
    ·obtain⟨b3,u,m,B,F⟩:=r7 i f j d ch a l
     rw [y,if_neg (λq=>by rw [q]at m;exact absurd (top _ _ m) (Nat.lt_irrefl _))]at A;exact r8 i f j d ch b2 a l A
 ·obtain⟨m,B⟩:=s.pin p K
  obtain⟨z,m⟩:=m;refine⟨⟨z,m⟩,?_⟩;rw [y,if_neg (λq=>by rw [q,hg]at m;cases m)];exact B
structure WP(P:Program)(T:Ty)(pk:Nat×Nat)(l:List cj)(loc tmp:AL)(h:H)(hs:List H)(cs:List Tc)(R:AL->H->Prop):Prop where
 out:∃s',wT P T noM (some pk) l ⟨⟨loc,tmp⟩,h,hs,cs⟩ s'/\bR s'.cs (jP s'.hs [s'.h])/\R s'.f.loc s'.h
section
variable {pk:Nat×Nat} {loc tmp loc' tmp':AL} {h h1:H} {hs:List H} {cs:List Tc} {l:List cj} {R:AL->H->Prop} {d:Dst} {args:List Opd} {gd:Option (Opd×Bool)} {lo hi:Nat} {vs vs':List V} {v:V}
theorem WP.nil(hc:bR cs (jP hs [h]))(k:R loc h):WP P T pk [] loc tmp h hs cs R:=⟨_,.nil,hc,k⟩
theorem WP.step{o:cj}{a:List H}{b:List Tc}(st:ol P T noM (some pk) o ⟨⟨loc,tmp⟩,h,hs,cs⟩ v ⟨o.dst.put ⟨loc,tmp⟩ v,h1,a,b⟩)(d:d7 o.dst v loc tmp=some (loc',tmp'))(k:WP P T pk l loc' tmp' h1 a b R):WP P T pk (o ::l) loc tmp h hs cs R:=by
 obtain⟨s',f,c,e⟩:=k;refine⟨s',.cons st ?_,c,e⟩;rw [gB d];exact f
theorem WP.p{o:POp}(e0:cm ⟨loc,tmp⟩ gd=some true)(e1:evs ⟨loc,tmp⟩ args=some vs)(e2:o.run vs=some v)(e3:d7 d v loc tmp=some (loc',tmp'))(k:WP P T pk l loc' tmp' h hs cs R):WP P T pk (⟨d,.p o,args,gd,lo,hi⟩ ::l) loc tmp h hs cs R:=
 WP.step ⟨rfl,rfl,.inr ⟨vs,e0,e1,.p rfl e2 rfl rfl⟩⟩ e3 k
theorem WP.r{o:ROp}(e0:cm ⟨loc,tmp⟩ gd=some true)(e1:evs ⟨loc,tmp⟩ args=some vs)(e2:o.run vs h=some v)(e3:d7 d v loc tmp=some (loc',tmp'))(k:WP P T pk l loc' tmp' h hs (⟨o,vs,v,lo,hi⟩ ::cs) R):WP P T pk (⟨d,.r o,args,gd,lo,hi⟩ ::l) loc tmp h hs cs R:=
 WP.step ⟨rfl,rfl,.inr ⟨vs,e0,e1,.r rfl e2 rfl rfl⟩⟩ e3 k
theorem WP.c{o:COp}{fn:FuncId}(e0:cm ⟨loc,tmp⟩ gd=some true)(e1:evs ⟨loc,tmp⟩ args=some vs)(ec:ey o vs=some (fn,vs'))(c:la P T fn vs' v)(e3:d7 d v loc tmp=some (loc',tmp'))(k:WP P T pk l loc' tmp' h (h ::hs) cs R):WP P T pk (⟨d,o,args,gd,lo,hi⟩ ::l) loc tmp h hs cs R:=
 WP.step ⟨rfl,by show h ::hs=if isE o=true then _ else _;rw [mI ec];rfl,.inr ⟨vs,e0,e1,.pc (mI ec) ec c rfl rfl⟩⟩ e3 k
theorem WP.w{o:EOp}(e0:cm ⟨loc,tmp⟩ gd=some true)(e1:evs ⟨loc,tmp⟩ args=some vs)(e2:o.run vs h=some (v,h1))(hJ:Nat.ble pk.2 lo=true)(e3:d7 d v loc tmp=some (loc',tmp'))(k:WP P T pk l loc' tmp' h1 (h ::hs) cs R):WP P T pk (⟨d,.e o,args,gd,lo,hi⟩ ::l) loc tmp h hs cs R:=
 WP.step ⟨rfl,rfl,.inr ⟨vs,e0,e1,.w rfl e2 rfl λk J q=>by cases q;exact Nat.le_of_ble_eq_true hJ⟩⟩ e3 k
theorem WP.al{zero:List V}{b:Blk}{mk:Nat->V}(e0:cm ⟨loc,tmp⟩ gd=some true)(e1:evs ⟨loc,tmp⟩ args=some [])(er:(AOp.alloc zero).run []=some (b,mk))(hb:h.blk pk.1=some b)(hkin:b.kin=some (none,false))(hJ:Nat.ble hi pk.2=true)(e3:d7 d (mk pk.1) loc tmp=some (loc',tmp'))(k:WP P T pk l loc' tmp' h hs cs R):WP P T pk (⟨d,.a (.alloc zero),args,gd,lo,hi⟩ ::l) loc tmp h hs cs R:=
 WP.step ⟨rfl,rfl,.inr ⟨[],e0,e1,.al (k:=pk.1) (J:=pk.2) rfl rfl er rfl rfl hb hkin (Nat.le_of_ble_eq_true hJ) rfl rfl⟩⟩ e3 k
end
theorem WC.regP(I:da P T)(G:P.follows .mixedOrders=true){l:List cj}{loc:AL}{h:H}{Q:X->AL->H->Prop}(J:Nat){b:Blk}(C:Nat.blt h.next bZ=true)(i:b.kin=some (none,false))(j:xU l false=true)(k:WP P T (h.next,J) l loc [] ⟨h.t.put h.next (some b),Nat.succ h.next⟩ [] [] λloc h=>Q .norm loc h):WC P T K call n (.regD l) loc h Q:=by
 obtain⟨s,v,p,L⟩:=k;refine WC.sem (x:= .norm) (loc':=s.f.loc) (h':=s.h) ?_ L;intro m N E0 g0 w0 c hc E g a w r z u;obtain⟨D,hg⟩:=r.sit.plus (Nat.le_of_ble_eq_true C) i;cases c with
 |region id ops d=>
  cases d with
  |true=>
   rw [@jr noE]at hc;rcases @eA noE _ _ hc with hc|hb
   ·obtain⟨cl,h1,h2⟩:=bQ.1 hc
    obtain⟨l,A,F⟩:=bQ.1 h2;cases F;refine yG I G (λ_=>Em j) h1 A v p D z .none (λk J q=>by cases q;exact⟨Nat.lt_succ_self _,hg⟩) λE' g' M w' e y B=>?_;have x:gj T noM E g h w E' g' s.h w':=⟨e.envl,e.envn,e.le,Nat.le_of_succ_le e.next,e.sit,e.size,e.keep,e.fresh,e.pin,e.os,e.tape,e.output⟩
    refine⟨E',g',r.ext x (λ_ _ q=>q),@FR.clr E' _ _ _ _ _ y,?_,trivial⟩;rw [B];exact u.extX x
   ·unfold rO at hb;cases hb
  |false=>
   rw [@kP noE]at hc;rcases @eA noE _ _ hc with hc|hb
   ·obtain⟨cl,h1,h2⟩:=bQ.1 hc
    cases h2
   ·unfold rO at hb;cases hb
 |seq a b=>rw [@kO noE]at hc;obtain⟨_,_,hc⟩:=bQ.1 hc;obtain⟨_,_,hc⟩:=bQ.1 hc;cases hc
 |cond o a b=>rw [@jt noE]at hc;obtain⟨_,_,hc⟩:=bQ.1 hc;obtain⟨_,_,hc⟩:=bQ.1 hc;obtain⟨_,_,hc⟩:=bQ.1 hc;cases hc
 |block id a=>rw [@iO noE]at hc;obtain⟨_,_,hc⟩:=bQ.1 hc;cases hc
 |loop a=>rw [@js noE]at hc;obtain⟨_,_,hc⟩:=bQ.1 hc;cases hc
 |rangeFunc f ps a b=>rw [@iN noE]at hc;obtain⟨_,_,hc⟩:=bQ.1 hc;obtain⟨_,_,hc⟩:=bQ.1 hc;obtain⟨_,_,hc⟩:=bQ.1 hc;obtain⟨_,_,hc⟩:=bQ.1 hc;cases hc
 |_=>(rw [eu]at hc<;>first|(intros;contradiction)|(cases hc;done))
end
theorem WP.p0{P:Program}{T:Ty}{pk:Nat×Nat}{loc tmp loc' tmp':AL}{h:H}{l:List cj}{R:AL->H->Prop}{d:Dst}{args:List Opd}{gd:Option (Opd×Bool)}{lo hi:Nat}{vs:List V}{v:V}{hs:List H}{cs:List Tc}{o:POp}(k:WP P T pk l loc' tmp' h hs cs R)(a:cm ⟨loc,tmp⟩ gd=some true:=by exact rfl)(e1:evs ⟨loc,tmp⟩ args=some vs:=by exact rfl)(e2:o.run vs=some v:=by exact rfl)(e3:d7 d v loc tmp=some (loc',tmp'):=by exact rfl):WP P T pk (⟨d,.p o,args,gd,lo,hi⟩ ::l) loc tmp h hs cs R:=WP.p a e1 e2 e3 k
end
end Ev
end Go.Proofs.YtdfphfdnoobikaaGreatDoor
