/-
  LintRenamed:expressions.
-/
import Derived.Test.YtdfphfdnoobikaaGreatDoorLtTn1
import Derived.Test.YtdfphfdnoobikaaGreatDoorLtMod
import Derived.ProofKit
import Derived.OpenShut
import Derived.Deep.Slices
import Derived.Deep.Fields
import Derived.ChangeSame
namespace Go.Proofs.YtdfphfdnoobikaaGreatDoor
namespace Ev
section
noncomputable section
def Hl(x:Ex)(nm it sg cl ca bd af:V):List V:=[.int .i64 x.kind,.int .i64 x.int,nm,sV x.text,it,sg,cl,ca,bd,af,.bool x.wait]
def X1(x:Ex):List V:=Hl x (sV (ren x).name) (.lst x.items.length 11 (exL x.items)) (.lst x.segs.length 27 (sgL x.segs)) (.lst x.clauses.length 4 (clL x.clauses)) (.lst x.catches.length 4 (clL x.catches)) (.lst x.body.length 23 (smL x.body)) (.lst x.after.length 23 (smL x.after))
def X2(x:Ex):List V:=Hl x (sV (ren x).name) (.lst x.items.length 11 (exL (eH x.items))) (.lst x.segs.length 27 (sgL x.segs)) (.lst x.clauses.length 4 (clL x.clauses)) (.lst x.catches.length 4 (clL x.catches)) (.lst x.body.length 23 (smL x.body)) (.lst x.after.length 23 (smL x.after))
def X5(x:Ex):List V:=Hl x (sV (ren x).name) (.lst x.items.length 11 (exL (eH x.items))) (.lst x.segs.length 27 (sgL (gX x.segs))) (.lst x.clauses.length 4 (clL (dD x.clauses))) (.lst x.catches.length 4 (clL (dD x.catches))) (.lst x.body.length 23 (smL (fm x.body))) (.lst x.after.length 23 (smL (fm x.after)))
def fr20(A:V)(i k:Nat):AL:=[(0,A),(3,eR 1 11 i),(4,.int .i64 (Int.ofNat i)),(5,.ptr 2 0),(6,eR 3 27 k),(7,.int .i64 (Int.ofNat k))]
def fr20c(A:V)(i k:Nat)(G:List V):AL:=[(0,A),(3,eR 1 11 i),(4,.int .i64 (Int.ofNat i)),(5,.ptr 2 0),(6,.lst k 27 G)]
def H20(C X G:List V):H:=HG [ir C,some X,ir G] 4
end
theorem KC(x:Ex):exO (ren x)=X5 x:=by
 show [V.int .i64 (ren x).kind,.int .i64 (ren x).int,sV (ren x).name,sV (ren x).text,.lst (ren x).items.length 11 (exL (ren x).items),.lst (ren x).segs.length 27 (sgL (ren x).segs),.lst (ren x).clauses.length 4 (clL (ren x).clauses),.lst (ren x).catches.length 4 (clL (ren x).catches),.lst (ren x).body.length 23 (smL (ren x).body),.lst (ren x).after.length 23 (smL (ren x).after),.bool (ren x).wait]=_;rw [di,pq,lU,dO,fY,dP,eG,iE,gQ,lT,cZ,gH,d5,d5,fK,fK];rfl
theorem Ee(l:List Cl):bY (.lst l.length 4 (clL l)):= .lst λc hc=>(kR l c hc).x
theorem J6(l:List Cl):bY (.lst l.length 4 (clL (dD l))):=by
 have:=Ee (dD l);rw [d5]at this;exact this
theorem LQ(l:List Sg):bY (.lst l.length 27 (sgL (gX l))):=by
 have:=pxS (gX l);rw [gH]at this;exact this
theorem wP{x:Ex}{nm it sg cl ca bd af:V}(h1:bY nm)(h2:bY it)(h3:bY sg)(h4:bY cl)(h5:bY ca)(h6:bY bd)(h7:bY af):∀c,c∈Hl x nm it sg cl ca bd af->bY c:=cg (.flat rfl) (cg (.flat rfl) (cg h1 (cg (.flat rfl) (cg h2 (cg h3 (cg h4 (cg h5 (cg h6 (cg h7 (cg (.flat rfl) px0))))))))))
theorem Ib(x:Ex):∀c,c∈X1 x->bY c:=wP (.flat rfl) (pxE _) (pxS _) (Ee _) (Ee _) (pxM _) (pxM _)
theorem FK(x:Ex):∀c,c∈X2 x->bY c:=wP (.flat rfl) (Ed _) (pxS _) (Ee _) (Ee _) (pxM _) (pxM _)
theorem KA(x:Ex):∀c,c∈X5 x->bY c:=wP (.flat rfl) (Ed _) (LQ _) (J6 _) (J6 _) (Gx _) (Gx _)
theorem vL{cs:List V}{tr:Tr V}{k:Nat}{v:V}(hk:k<cs.length)(hl:cs.length<=bZ)(h:∀j v,cs[j]? =some v->tr.get j=some v):∀j w,(cs.set k v)[j]? =some w->(tr.put k (some v)).get j=some w:=λj w e=>by
 rw [Tr.get_put _ _ _ _ (by omega)]
 by_cases q:j=k
 ·subst q
  rw [List.getElem?_set_self hk]at e;rw [if_pos rfl];exact e
 ·rw [List.getElem?_set_ne (λe=>q e.symm)]at e
  rw [if_neg q];exact h j w e
theorem DV(l:List Sg)(c:Sg):sgL (l++[c])=sgL l++sgO c:=by
 have key:∀a b:List Sg,sgL (a++b)=sgL a++sgL b:=λa b=>by
  induction a with
  |nil=>rw [sgL];rfl
  |cons x a ih=>rw [List.cons_append,fI,fI,ih,List.append_assoc]
 rw [key,fI,sgL,List.append_nil]
theorem A9:∀l:List Sg,(sgL l).length=l.length*27
 |[]=>by rw [sgL];rfl
 |x ::l=>by
  rw [fI,List.length_append,A9 l,List.length_cons];show 27+l.length*27=_;omega
theorem Cj{l:List Sg}{i:Nat}(h:i<l.length):gX (l.take (i+1))=gX (l.take i)++[dB (cG l i)]:=by
 have e:cG l i=l[i]:=by
  unfold cG;rw [List.getElem?_eq_getElem h];rfl
 rw [lV,lV,List.take_succ_eq_append_getElem h,List.map_append,e];rfl
theorem Co{l:List Ex}{i:Nat}(h:i<l.length):eH (l.take (i+1))=eH (l.take i)++[ren (cE l i)]:=by
 have e:cE l i=l[i]:=by
  unfold cE;rw [List.getElem?_eq_getElem h];rfl
 rw [iW,iW,List.take_succ_eq_append_getElem h,List.map_append,e];rfl
section
variable {f:AL} {A:V} {i k:Nat} {C G X:List V} {h:H}
theorem v20{b3:Nat}{v:V}{tr:Tr V}(u:bY A)(t:lk f 0=some A)(E:lk f 3=some (eR 1 11 i))(I:lk f 4=some (.int .i64 (Int.ofNat i)))(B:lk f 5=some (.ptr 2 0))(x:lk f 6=some v)(F:lk f 7=some (.int .i64 (Int.ofNat k)))(b0:h.blk 0=some (.ro 256 d3))(b1:h.blk 1=blG (ir C))(b2:h.blk 2=some (.cells 11 tr none false))(hg:∀j v,X[j]? =some v->tr.get j=some v)(l:cD X=11)(z:∀c,c∈X->bY c)(d:GL 27 h v G)(w:∀b n,v= .sl b 0 n 0 false 27->b3=b)(K:2<b3)(nx:1<h.next)
  (p:C.length=i*11) (px:∀c,c∈C->bY c) (hs:C.length<=1000000000) (s:G.length=k*27) (D:∀c,c∈G->bY c) (J:G.length<=1000000000):fy TP Kp ⟨f,[]⟩ h ⟨fr20 A i k,[]⟩ (H20 C X G):=by
 have kk:1000000000<bZ:=by unfold bZ;omega
 have m:GL 11 h (eR 1 11 i) C:=glG b1 p (by decide) (by omega) nx;have g:∀b n,eR 1 11 i= .sl b 0 n 0 false 11->ji [1,2,b3] 1=b:=λb n q=>gV q λq=>q;have o:∀b n',v= .sl b 0 n' 0 false 27->ji [1,2,b3] 3=b:=λb n' q=>w b n' q;have r:X.length=11:=by rw [<-@cq noE];exact l
 refine oa (ids:=[1,2,b3]) (L:=[ir C,some X,ir G]) (Z:=Zn) rfl b0 (by simp;omega) (Nat.le_refl 3) (Nat.le_of_ble_eq_true rfl) ?_ (λk cs' e y=>rC e y) (jm.mem ?_)
 ·exact gP.gl m g (.pure px) (by omega) (.box (b:=2) b2 rfl l (by omega) (qQ (.pure z) hg) (gP.gl d o (.pure D) (by omega) .nil))
 ·exact tE (a:=0) u t E m g p (by decide) rfl _ I (.cons B (.ptr (ρ:=ji [1,2,b3]) (i:=2) (gW (i:=1) rfl)) (.cons x (Rn.gl (i:=3) d o s (by decide) λq=>gW (i:=2) (by rw [ka q];rfl)) (.cons F (.pure (.flat rfl)) .nil)))
theorem KG(F:bY A)(E:lk f 0=some A)(z:lk f 3=some (eR 1 11 i))(J:lk f 4=some (.int .i64 (Int.ofNat i)))(w:lk f 5=some (.ptr 2 0))(I:lk f 6=some (eR 3 27 k))(hh:h=H20 C X G)(l:cD X=11)(v:∀c,c∈X->bY c)(s:C.length=i*11)(px:∀c,c∈C->bY c)(hs:C.length<=1000000000)(d:G.length=k*27)(x:∀c,c∈G->bY c)(K:G.length<=1000000000):fy TP Kp ⟨f,[]⟩ h ⟨fr20c A i k G,[]⟩ (HB2 C X):=by
 subst hh;have kk:1000000000<bZ:=by unfold bZ;omega
 have y:X.length=11:=by rw [<-@cq noE];exact l
 have p:GL 11 (H20 C X G) (eR 1 11 i) C:=glG rfl s (by decide) (by omega) (Nat.le_of_ble_eq_true (n:=2) rfl);have u:GL 27 (H20 C X G) (eR 3 27 k) G:=glG rfl d (by decide) (by omega) (Nat.le_of_ble_eq_true (n:=4) rfl);have z0:Zo 3 G bZ=some []:=B4 (by omega);have r:∀b n,eR 1 11 i= .sl b 0 n 0 false 11->ji [1,2] 1=b:=λb n q=>gV q λq=>q;have D:∀b n,eR 3 27 k= .sl b 0 n 0 false 27->Zo 3 G b=some G:=λb n q=>by
  cases k with
  |zero=>cases q
  |succ k=>
   cases q;cases B:G with
   |nil=>rw [B,Nat.add_mul]at d;simp at d
   |cons c cs=>exact Ia
 have o:(H20 C X G).blk 2=some (.cells 11 (cM X 0 .e) none false):=by rw [<-l];rfl
 refine oa (ids:=[1,2]) (L:=[ir C,some X]) (Z:=Zo 3 G) rfl rfl (by decide) (Nat.le_refl 2) (by decide) ?_ (λk cs' e t=>?_) (jm.mem ?_)
 ·exact gP.gl p r (.pure px) (by omega) (.box (b:=2) o rfl l (by omega) (qQ (.pure v) (iI (by omega))) .nil)
 ·obtain⟨m,g,j⟩:=B3 e t
  rw [m,g];refine⟨?_,by decide⟩;cases q:G with
  |nil=>exact absurd q j
  |cons c cs'=>
   refine⟨cM (c ::cs') 0 .e,none,?_,iI (by rw [<-q];omega)⟩;show some (Blk.cells (cD (c ::cs')) _ _ _)=_;rw [@cq noE]
 ·exact tE (a:=0) F E z p r s (by decide) rfl _ J (.cons w (.ptr (ρ:=ji [1,2]) (i:=2) (gW (i:=1) rfl)) (.cons I (Rn.glz u D z0 d (by decide) (.pure x)) .nil))
end
theorem JK(s:Sg):sgO (dB s)=[V.int .i64 s.type,sV s.text]++(exO (ren s.val)++(exO (ren s.size)++[V.bool s.sized,.bool s.signed,.bool s.little])):=by
 show V.int .i64 (dB s).type ::sV (dB s).text ::(exO (dB s).val++(exO (dB s).size++[V.bool (dB s).sized,.bool (dB s).signed,.bool (dB s).little]))=_;rw [lh,vN,nr,mB,lS,uN,uO];rfl
theorem J2(s:Sg):∀c,c∈sgO s->bY c:=λc hc=>(fH s c hc).x
theorem J4(l:List Ex):∀c,c∈exL l->bY c:=λc hc=>(jb l c hc).x
theorem J3(l:List Sg):∀c,c∈sgL l->bY c:=λc hc=>(ph l c hc).x
set_option maxHeartbeats 6400000 in
theorem f20{s:Nat}(R:RnP s){l:List Ex}(hl:bS (exL l)<s+1)(hs:s<=6000000):CP 20 [.lst l.length 11 (exL l)] (.lst l.length 11 (exL (eH l))):=by
 have g:bY (.lst l.length 11 (exL l)):=pxE l;have hn:=dT l;have kk:1000000000<bZ:=by unfold bZ;omega
 refine cR Tryz.func20 (by decide) q20.2 rfl (cg g px0) rfl ?_
 repeat' (first
  |(refine WLg.mk ?_;first
  |refine ac ?_)|apply ab|refine aj rfl ?_|apply ae|apply aa|apply ai|apply thN|fail)
 refine az (vL0 (a:=0) (es:=11) g rfl rfl rfl) ?_;refine aA l.length (λi f h=>f=frL 0 (.lst l.length 11 (exL l)) 11 i/\h=HL (exL (eH (l.take i)))) ?_ (i:=0) (Nat.zero_le _) ⟨rfl,by rw [List.take_zero,eH,exL]⟩;rintro i _ _ hi ⟨rfl,rfl⟩;have hi2:i<9223372036854775807:=by omega
 have D:(eH (l.take i)).length=i:=by rw [cZ,List.length_take];omega
 have hC:(exL (eH (l.take i))).length=i*11:=by rw [mK,D]
 have a1:(exL (eH (l.take i))).length<=200000000:=by rw [hC];omega
 have pc:=J4 (eH (l.take i));cases q:ltI (Int.ofNat i) (Int.ofNat l.length)with
 |true=>
  have E:=bX q;have hb:Nat.blt i l.length=true:=q;have a7:=tJ hb;have et:exL (eH (l.take (i+1)))=exL (eH (l.take i))++X5 (cE l i):=by rw [Co E,eO,BN,List.append_nil,KC]
  have lx:∀h,ROp.run (.load true 11) [.eptr (exL l) (Nat.mul i 11)] h=some (.agg (exO (cE l i))):=λh=>dF hb;rw [et];generalize a5:exL (eH (l.take i))=C at*;generalize cE l i=x at*;have a8:=dZ x;have L:=R.e x.items (by omega);have P:=R.c x.clauses (by omega);have Q:=R.c x.catches (by omega);have W:=R.m x.body (by omega);have S:=R.m x.after (by omega);have a9:=jW x.segs;have aq:=H8 (b:=x.name) (by omega)
  repeat' (first
   |(refine WLg.mk ?_;first
   |refine av rfl rfl aq rfl ?_|refine ac ?_|refine av rfl rfl (ce Hy) rfl ?_|refine ap rfl rfl (lx _) rfl ?_|refine au ?_|refine aI rfl rfl rfl rfl rfl ?_|refine aT rfl rfl rfl rfl rfl rfl rfl rfl rfl ?_|refine aS rfl rfl rfl rfl rfl rfl rfl rfl rfl ?_)|apply ab|refine aj rfl ?_|(show WC _ _ _ _ _ (cF.seq (cF.seq _ (cF.cond (Opd.l 21) _ _)) _) _ _ _;refine bD (λl2 h2=>l2=frB (.lst l.length 11 (exL l)) 11 i/\h2=HB2 C (X1 x)) ?_ ?_)|apply ae|apply aa|apply ai|apply ak|refine ah rfl (λd=>?_) (λd=>Nf d)|refine ah rfl (λd=>?_) (λd=>?_)|apply thN|fail)
  ·have q3:eqI x.kind 3=true:=by with_reducible assumption
   refine .norm ⟨_,_,vB (B:=X1 x) (A:= .lst l.length 11 (exL l)) (i:=i) (es:=11) (C:=C) g (by decide) rfl rfl rfl rfl rfl rfl rfl ?_ rfl (Ib x) (Nat.le_of_ble_eq_true (n:=2) rfl) hC pc (by omega) (Nat.le_of_ble_eq_true rfl),rfl,rfl⟩;have e:X1 x=(exO x).set 2 (sV (qn x.name)):=by
    unfold X1;rw [li q3];rfl
   rw [e];exact qv (cs:=exO x) (k:=2) (v:=sV (qn x.name)) (by show 2<11;decide) (by show 11<=bZ;omega)
  ·have q3:eqI x.kind 3=false:=by with_reducible assumption
   refine .norm ⟨_,_,vB (B:=X1 x) (A:= .lst l.length 11 (exL l)) (i:=i) (es:=11) (C:=C) g (by decide) rfl rfl rfl rfl rfl rfl rfl ?_ rfl (Ib x) (Nat.le_of_ble_eq_true (n:=2) rfl) hC pc (by omega) (Nat.le_of_ble_eq_true rfl),rfl,rfl⟩;have e:X1 x=exO x:=by
    unfold X1;rw [iD,q3];rfl
   rw [e];exact iI (by show 11<=bZ;omega)
  rintro _ _ ⟨rfl,rfl⟩
  repeat' (first
   |(refine WLg.mk ?_;first
   |refine ac ?_|refine au ?_|refine aT rfl rfl rfl rfl rfl rfl rfl rfl rfl ?_|refine ay L ?_)|apply ab|refine aj rfl ?_|apply ae|apply aa|apply ai|apply thN|fail)
  have e2:X2 x=(X1 x).set 4 (.lst x.items.length 11 (exL (eH x.items))):=rfl;refine az (v20 (k:=0) (X:=X2 x) (C:=C) (G:=[]) (b3:=3) (v:= .nils) g rfl rfl rfl rfl rfl rfl rfl rfl rfl (by rw [e2];exact qv (cs:=X1 x) (k:=4) (by show 4<11;decide) (by show 11<=bZ;omega)) rfl (FK x) .none0 (λb n q=>by cases q) (by decide) (Nat.le_of_ble_eq_true (n:=2) rfl) hC pc (by omega) rfl (λc hc=>by cases hc) (Nat.zero_le _)) ?_;refine aA x.segs.length (λk f h=>f=fr20 (.lst l.length 11 (exL l)) i k/\h=H20 C (X2 x) (sgL (gX (x.segs.take k)))) ?_ (i:=0) (Nat.zero_le _) ⟨rfl,by rw [List.take_zero,gX,sgL]⟩;clear L aq e2;rintro k _ _ hk ⟨rfl,rfl⟩;have O:k<9223372036854775807:=by omega
  have J:(sgL (gX (x.segs.take k))).length=k*27:=by rw [A9,gH,List.length_take];congr 1;omega
  have a0:(sgL (gX (x.segs.take k))).length<=200000000:=by rw [J];omega
  have U:=J3 (gX (x.segs.take k));cases T:ltI (Int.ofNat k) (Int.ofNat x.segs.length)with
  |true=>
   have I:=bX T;have o:Nat.blt k x.segs.length=true:=T;have a4:=DU o;have a3:=lR (cG x.segs k);have c1:=R.one (x:=(cG x.segs k).val) (by omega);have c2:=R.one (x:=(cG x.segs k).size) (by omega);have eg:sgL (gX (x.segs.take (k+1)))=sgL (gX (x.segs.take k))++sgO (dB (cG x.segs k)):=by rw [Cj I,DV]
   have lg:∀h,ROp.run (.load true 27) [.eptr (sgL x.segs) (Nat.mul k 27)] h=some (.agg (sgO (cG x.segs k))):=λh=>fq o;rw [eg];generalize b6:sgL (gX (x.segs.take k))=G at*;generalize cG x.segs k=s at*;obtain⟨h1,w1,n1,o1,b4,b1,g1⟩:=sE (h:=⟨(H20 C (X2 x) G).t.put 4 (some (.cells 27 (cM (sgO s) 0 .e) none false)),5⟩) (id:=4) (off:=2) (m:=11) (cs:=exO (ren s.val)) rfl (by omega) (by omega) rfl rfl (Nat.le_of_ble_eq_true rfl);obtain⟨h2,w2,n2,M,a6,b2,g2⟩:=sE (off:=13) (m:=11) (cs:=exO (ren s.size)) b1 (by omega) (by omega) rfl rfl (Nat.le_of_ble_eq_true rfl);have w:ROp.run (.load true 27) [.ptr 4 0] h2=some (.agg (sgO (dB s))):=rZ b2 rfl (by
    rw [JK];exact uG (a:=[V.int .i64 s.type,sV s.text]) (x:=exO s.val) (y:=exO s.size) (x':=exO (ren s.val)) (y':=exO (ren s.size)) (r:=[V.bool s.sized,.bool s.signed,.bool s.little]) (p:=2) rfl rfl rfl rfl rfl (iI (by show 27<=bZ;omega)) g1 g2)
   have nx:h2.next=5:=n2.trans n1
   have r0:h2.blk 0=some (.ro 256 d3):=(M 0 (by decide)).trans (o1 0 (by decide));have r1:h2.blk 1=blG (ir C):=(M 1 (by decide)).trans (o1 1 (by decide));have r2:h2.blk 2=some (.cells 11 (cM (X2 x) 0 .e) none false):=(M 2 (by decide)).trans (o1 2 (by decide));have r3:h2.blk 3=blG (ir G):=(M 3 (by decide)).trans (o1 3 (by decide));have K:=J2 (dB s)
   repeat' (first
    |(refine WLg.mk ?_;first
    |refine av rfl rfl (ce o) rfl ?_|refine ac ?_|refine ap rfl rfl (lg _) rfl ?_|refine au ?_|refine aI rfl rfl rfl rfl rfl ?_|refine aS rfl rfl rfl rfl rfl rfl rfl rfl rfl ?_)|apply ab|refine aj rfl ?_|apply ae|apply aa|apply ai|apply ak|refine ah rfl (λd=>?_) (λd=>Nf d)|apply thN|fail)
   refine aP ?_;refine aH ?_;refine aM ?_;refine bC (cl:=exO s.val++[]) rfl rfl rfl rfl rfl rfl (j6 s.val) rfl ?_;refine aH ?_;refine aM ?_;refine bC (cl:=exO s.size++[]) rfl rfl rfl rfl rfl rfl (j6 s.size) rfl ?_;refine aR c1 ?_;refine aH ?_;refine aQ rfl rfl (nC _ _) rfl ?_;refine aH ?_;refine aR c2 ?_;refine aH ?_;refine aQ rfl rfl (nC _ _) rfl ?_;refine bo rfl rfl w1 rfl ?_;refine aH ?_;refine bo rfl rfl w2 rfl ?_;refine aO (.any (λh=>nC _ h) (.any (λh=>nC _ h) (.two rfl rfl (.first rfl .nil)))) ?_
   repeat' (first
    |(refine WLg.mk ?_;first
    |refine ac ?_|refine ap rfl rfl w rfl ?_|refine aX (cs:=sgO (dB s)) rfl rfl rfl rfl rfl rfl K rfl ?_)|refine aj rfl ?_|apply aa|apply thN|fail)
   refine WLg.mk (bH (xs:=sgO (dB s)) rfl rfl (glG (i:=3) (cs:=G) r3 J (by decide) (by omega) (by omega)) (by decide) rfl rfl (by omega) (by show G.length+27<_;omega) (by omega) (by decide) λn h' g' b5 u=>⟨_,_,rfl,?_⟩)
   repeat' (first
    |(refine WLg.mk ?_;first
    |refine ac ?_)|apply ab|refine aj rfl ?_|apply aa|apply thN|fail)
   have p0:=(u 0 (by omega) λb n q=>gV q λq=>by omega).trans r0;have p1:=(u 1 (by omega) λb n q=>gV q λq=>by omega).trans r1;have p2:=(u 2 (by omega) λb n q=>gV q λq=>by omega).trans r2;refine .norm ⟨_,_,v20 (A:= .lst l.length 11 (exL l)) (i:=i) (k:=k+1) (X:=X2 x) (C:=C) (b3:=h2.next) g rfl rfl rfl rfl rfl (dj O) p0 p1 p2 (iI (by show 11<=bZ;omega)) rfl (FK x) g' (λb n q=>by cases q;rfl) (by omega) (by omega) hC pc (by omega) (by rw [List.length_append,J];show k*27+27=_;omega) (λy Z=>?_) (by rw [List.length_append];show G.length+27<=_;omega),I,rfl,rfl⟩;rcases List.mem_append.1 Z with m|m
   ·exact U y m
   ·exact K y m
  |false=>
   have a2:k=x.segs.length:=by have:=cC T;omega
   subst a2;rw [List.take_length]at J U a0 ⊢
   repeat' (first
    |(refine WLg.mk ?_;first
    |refine ac ?_|refine au ?_|refine aT rfl rfl rfl rfl rfl rfl rfl rfl rfl ?_)|apply ab|refine aj rfl ?_|(show WC _ _ _ _ _ (.seq (.reg (⟨.t 60,_,_,_,_,_⟩ ::_)) _) _ _ _;refine az (KG (A:= .lst l.length 11 (exL l)) (i:=i) (k:=x.segs.length) (C:=C) (X:=X2 x) (G:=sgL (gX x.segs)) g rfl rfl rfl rfl rfl rfl rfl (FK x) hC pc (by omega) J U (by omega)) ?_)|apply ae|apply aa|refine ah rfl (λd=>Nt d) (λd=>?_)|apply ax|apply thN|apply thE|apply onE|fail)
   have F:∀j v,(X5 x)[j]? =some v->((((((cM (X2 x) 0 .e).put 5 (some (.lst x.segs.length 27 (sgL (gX x.segs))))).put 6 (some (.lst x.clauses.length 4 (clL (dD x.clauses))))).put 7 (some (.lst x.catches.length 4 (clL (dD x.catches))))).put 8 (some (.lst x.body.length 23 (smL (fm x.body))))).put 9 (some (.lst x.after.length 23 (smL (fm x.after))))).get j=some v:=by
    have z:11<=bZ:=by omega
    have k1:=qv (cs:=X2 x) (k:=5) (v:= .lst x.segs.length 27 (sgL (gX x.segs))) (by show 5<11;decide) z;have k2:=vL (k:=6) (v:= .lst x.clauses.length 4 (clL (dD x.clauses))) (by show 6<11;decide) (by show 11<=bZ;exact z) k1;have k3:=vL (k:=7) (v:= .lst x.catches.length 4 (clL (dD x.catches))) (by show 7<11;decide) (by show 11<=bZ;exact z) k2;have k4:=vL (k:=8) (v:= .lst x.body.length 23 (smL (fm x.body))) (by show 8<11;decide) (by show 11<=bZ;exact z) k3;exact vL (k:=9) (v:= .lst x.after.length 23 (smL (fm x.after))) (by show 9<11;decide) (by show 11<=bZ;exact z) k4
   have p5:=KA x;refine aP ?_;refine aH ?_;refine aM ?_;refine aH ?_;refine aM ?_;refine aR P ?_;refine aH ?_;refine aR Q ?_;refine bo rfl rfl (iH (j:=6) rfl rfl rfl (by show 6<11;decide)) rfl ?_;refine aH ?_;refine bo rfl rfl (iH (j:=7) rfl rfl rfl (by show 7<11;decide)) rfl ?_;refine aO (.two rfl rfl (.first rfl .nil)) ?_
   repeat' (first
    |apply ae|apply thN|fail)
   refine aP ?_;refine aH ?_;refine aM ?_;refine aH ?_;refine aM ?_;refine aR W ?_;refine aH ?_;refine aR S ?_;refine bo rfl rfl (iH (j:=8) rfl rfl rfl (by show 8<11;decide)) rfl ?_;refine aH ?_;refine bo rfl rfl (iH (j:=9) rfl rfl rfl (by show 9<11;decide)) rfl ?_;refine aO (.two rfl rfl (.first rfl .nil)) ?_
   repeat' (first
    |(refine WLg.mk ?_;first
    |refine ac ?_|refine ap rfl rfl (rZ (id:=2) (n:=11) (cs:=X5 x) rfl rfl F) rfl ?_|refine aX (cs:=X5 x) rfl rfl rfl rfl rfl rfl p5 rfl ?_)|refine aj rfl ?_|apply aa|apply thN|fail)
   refine WLg.mk (bH (xs:=X5 x) rfl rfl (glG (i:=1) (cs:=C) rfl hC (by decide) (by omega) (Nat.le_of_ble_eq_true (n:=2) rfl)) (by decide) rfl rfl (by show 3+1<bZ;omega) (by show C.length+11<_;omega) (by omega) (by decide) λn h' g' nx u=>⟨_,_,rfl,?_⟩)
   repeat' (first
    |(refine WLg.mk ?_;first
    |refine ac ?_)|apply ab|refine aj rfl ?_|apply aa|apply thN|fail)
   have b0:=u 0 (Nat.le_of_ble_eq_true (n:=1) rfl) λb n q=>gV q λq=>by omega
   refine .norm ⟨_,_,vLe (a:=0) (A:= .lst l.length 11 (exL l)) (i:=i) (es:=11) g (by decide) (show(3:Nat)≠0 by decide) rfl rfl (dj hi2) b0 g' (by rw [List.length_append,hC];show i*11+11=_;omega) (λy Z=>?_) (by rw [List.length_append];show C.length+11<=_;omega),E,rfl,rfl⟩;rcases List.mem_append.1 Z with m|m
   ·exact pc y m
   ·exact p5 y m
 |false=>
  have Y:i=l.length:=by have:=cC q;omega
  subst Y;rw [List.take_length]at hC pc a1 ⊢
  repeat' (first
   |(refine WLg.mk ?_;first
   |refine ac ?_)|apply ab|refine aj rfl ?_|(show WC _ _ _ _ _ (.reg (⟨.t 82,_,_,_,_,_⟩ ::_)) _ _ _;refine az (vLf (a:=0) (A:= .lst l.length 11 (exL l)) (i:=l.length) (es:=11) (C:=exL (eH l)) (by decide) g rfl rfl hC pc (by omega)) ?_)|apply ae|apply aa|refine ah rfl (λd=>Nt d) (λd=>?_)|apply ax|apply am|apply thN|apply thE|apply onE|fail)
  exact⟨.inr rfl,_,rfl,.lst pc,rfl⟩
end
section
theorem rnp:∀s,s<=6000001->RnP s
 |0,_=>⟨λl h=>by omega,λl h=>by omega,λl h=>by omega⟩
 |s+1,h=>by
  have R:=rnp s (by omega);exact⟨λl hl=>f20 R hl (by omega),λl hl=>f9 R hl (by omega),λl hl=>f21 R hl (by omega)⟩
theorem Hb{f:FuncId} {fn:Func} {cf:CF} (hfn:Tryz.prog.funcs[f]? =some fn) (hnm:fn.name≠ "runtime.NumGoroutine") (hcf:ci TP fn=some cf) {vs:List V} (hlen:vs.length=cf.params) {R:V->H->Prop} {loc:AL} (hn:mY vs 0=some loc)
  (k:WC Tryz.prog TP KB ft 1 cf.code loc H0 (qf cf λv h'=>1<=h'.next/\R v h')):∃v h',CN f vs H0 v h'/\R v h':=by
 obtain⟨x,f1,h1,k1,k2,l,k3,k4,k5⟩:=qh (Q':=λx f1 h1=>(x= .norm\/x= .ret)/\∃l,ip f1 h1 cf.results=some l/\1<=h1.next/\R (dq l) h1) hn k λx l h q=>q;exact⟨_,_,(ii rF jO mixed hfn hnm hcf hlen k1 k2 k3).con0 (λid h1 _=>Nat.lt_succ_of_lt h1) ⟨1,Nat.lt_succ_self 1,by decide⟩ k4,k5⟩
theorem f12h{m:Md}(b:bS (mdO m)<=6000000):∃v h',CN 12 [.agg (mdO m)] H0 v h'/\h'.blk 0=some (.ro 256 d3)/\GL 6 h' v (flL (kU m)):=by
 refine Hb Tryz.func12 (by decide) cf12_ok rfl rfl ((f12w b).mono λx l h q=>?_);obtain⟨d,v,cs,e,a,q3,f,⟨rfl,_⟩,c⟩:=q;refine⟨d,[v],?_,c,a,q3⟩;show ob (lk l 2) (λv=>ob (some []) λvs=>some (v ::vs))=_;rw [e];rfl
noncomputable section
def fr3m(w:Md)(n i:Nat):AL:=[(6,.eptr (mdO w) 0),(7,eR 1 6 n),(8,.int .i64 (Int.ofNat i))]
def jY(l:List Fl)(i:Nat):List Fl:=(l.take i).map qF++l.drop i
end
theorem nv(l:List Fl)(i:Nat):(jY l i).length=l.length:=by
 unfold jY;rw [List.length_append,List.length_map,List.length_take,List.length_drop];omega
theorem Ey(l:List Fl):jY l l.length=l.map qF:=by
 unfold jY;rw [List.take_length,List.drop_length,List.append_nil]
theorem vY{l:List Fl}{i:Nat}(h:i<l.length):jY l i=(l.take i).map qF++(kK l i ::l.drop (i+1)):=by
 have e:kK l i=l[i]:=by
  show(l[i]?).getD fl0=_;rw [List.getElem?_eq_getElem h];rfl
 unfold jY;rw [e,<-List.drop_eq_getElem_cons h]
theorem ve{l:List Fl}{i:Nat}(h:i<l.length):jY l (i+1)=(l.take i).map qF++(qF (kK l i) ::l.drop (i+1)):=by
 unfold jY;rw [G1 h,List.map_append,List.append_assoc];rfl
theorem CD{l:List Fl}{i:Nat}(h:i<l.length)(k:eqI (kK l i).code 7=false):jY l (i+1)=jY l i:=by
 have e:qF (kK l i)=kK l i:=by
  unfold qF;rw [k];rfl
 rw [ve h,vY h,e]
theorem Bw{l:List Fl}{i:Nat}(h:i<l.length){j:Nat}(a:j<6):(flL (jY l i))[i*6+j]? =(flO (kK l i))[j]? :=by
 have e:(flL ((l.take i).map qF)).length=i*6:=by rw [fh,List.length_map,List.length_take];congr 1;omega
 rw [vY h,pO,List.getElem?_append_right (by rw [e];omega),e,Nat.add_sub_cancel_left];show(flO (kK l i)++flL (l.drop (i+1)))[j]? =_;rw [List.getElem?_append_left (by exact a)]
theorem GO{l:List Fl}{i:Nat}(h:i<l.length)(k:eqI (kK l i).code 7=true):flL (jY l (i+1))=(flL (jY l i)).set (i*6+4) (sV (qn (kK l i).name)):=by
 have e:(flL ((l.take i).map qF)).length=i*6:=by rw [fh,List.length_map,List.length_take];congr 1;omega
 have eq:qF (kK l i)={kK l i with name:=qn (kK l i).name}:=by
  unfold qF;rw [k];rfl
 rw [ve h,vY h,pO,pO,List.set_append_right _ _ (by rw [e];omega),e,Nat.add_sub_cancel_left,eq];rfl
section
variable {f:AL} {w:Md} {n i:Nat} {C:List V} {h:H}
theorem v3a{v:V}(r:lk f 6=some (.eptr (mdO w) 0))(o:lk f 7=some v)(p:lk f 8=some (.int .i64 0))(b0:h.blk 0=some (.ro 256 d3))(g:GL 6 h v C)(j:C.length=n*6)(px:∀c,c∈C->bY c)(hs:C.length<=1000000000):fy TP Kp ⟨f,[]⟩ h ⟨fr3m w n 0,[]⟩ (HL C):=by
 have kk:1000000000<bZ:=by unfold bZ;omega
 obtain⟨b,d,l⟩:∃b,b≠0/\∀a n',v= .sl a 0 n' 0 false 6->b=a:=by
  cases g with
  |none0=>exact⟨1,by decide,λb n q=>by cases q⟩
  |@full b n tr up ch cs d hc hn j at_ lt=>exact⟨b,(λq=>by rw [q,b0]at d;cases d),λa n' q=>by cases q;rfl⟩
 refine oa (ids:=[b]) (L:=[ir C]) (Z:=Zn) rfl b0 (by simpa using λq=>d q.symm) (Nat.le_refl 1) (Nat.le_of_ble_eq_true rfl) ?_ (λk cs' e m=>rC e m) (jm.mem ?_)
 ·exact gP.gl g (λa n' q=>l a n' q) (.pure px) (by omega) .nil
 ·exact .cons r (.pure (.eptr (gY w))) (.cons o (Rn.gl (i:=1) g (λa n' q=>l a n' q) j (by decide) λq=>gW (i:=0) (by rw [ka q];rfl)) (.cons p (.pure (.flat rfl)) .nil))
theorem v3b{tr:Tr V}(r:lk f 6=some (.eptr (mdO w) 0))(o:lk f 7=some (eR 1 6 n))(p:lk f 8=some (.int .i64 (Int.ofNat (i+1))))(b0:h.blk 0=some (.ro 256 d3))(m:0<n)(b1:h.blk 1=some (.cells (n*6) tr none false))(hg:∀j v,C[j]? =some v->tr.get j=some v)(nx:1<h.next)(b:C.length=n*6)(px:∀c,c∈C->bY c)(hs:C.length<=1000000000):fy TP Kp ⟨f,[]⟩ h ⟨fr3m w n (i+1),[]⟩ (HL C):=by
 have kk:1000000000<bZ:=by unfold bZ;omega
 obtain⟨k,rfl⟩:∃k,n=k+1:=⟨n-1,by omega⟩
 have g:GL 6 h (eR 1 6 (k+1)) C:= .full b1 rfl m b hg nx;have d:∀a n',eR 1 6 (k+1)= .sl a 0 n' 0 false 6->ji [1] 1=a:=λa n' q=>gV q λq=>q;refine oa (ids:=[1]) (L:=[ir C]) (Z:=Zn) rfl b0 (by decide) (Nat.le_refl 1) (by decide) ?_ (λk cs' e l=>rC e l) (jm.mem ?_)
 ·exact gP.gl g d (.pure px) (by omega) .nil
 ·exact .cons r (.pure (.eptr (gY w))) (.cons o (Rn.gl g d b (by decide) λq=>gW (i:=0) (by rw [ka q];rfl)) (.cons p (.pure (.flat rfl)) .nil))
theorem v3c(e6:lk f 6=some (.eptr (mdO w) 0))(e7:lk f 7=some (eR 1 6 n))(hl:C.length=n*6)(px:∀c,c∈C->bY c)(hs:C.length<=1000000000):fy TP Kp ⟨f,[]⟩ (HL C) ⟨[(7,.lst n 6 C),(6,.eptr (mdO w) 0)],[]⟩ H0:=
 xc (t:=7) (es:=6) (cs:=C) (r:=[(6,.eptr (mdO w) 0)]) rfl (glG (i:=1) rfl hl (by decide) (by unfold bZ;omega) (Nat.le_of_ble_eq_true (n:=2) rfl)) px e7 (.cons e6 (.eptr (gY w)) .nil) n hl (by decide)
end
theorem EW(l:List Fu)(c:Fu):fuL (l++[c])=fuL l++fuO c:=by
 have key:∀a b:List Fu,fuL (a++b)=fuL a++fuL b:=λa b=>by
  induction a with
  |nil=>rfl
  |cons x a ih=>
   show fuO x++fuL (a++b)=(fuO x++fuL a)++fuL b;rw [ih,List.append_assoc]
 rw [key];show fuL l++(fuO c++[])=_;rw [List.append_nil]
theorem Cg{l:List Fu}{i:Nat}(h:i<l.length):(l.take (i+1)).map eL=(l.take i).map eL++[eL (cX l i)]:=by rw [kH h,List.map_append];rfl
theorem GY(f:Fu):fuO (eL f)=(fuO f).set 2 (.lst f.clauses.length 4 (clL (dD f.clauses))):=by
 show [sV f.name,.int .i64 f.arity,.lst (dD f.clauses).length 4 (clL (dD f.clauses))]=_;rw [d5];rfl
set_option maxHeartbeats 6400000 in
theorem f3(m:Md):CP 3 [.agg (mdO m)] (.bool true):=by
 have px:=gY m;have M:=c7;have kk:1000000000<bZ:=by unfold bZ;omega
 obtain⟨b,c8,hb⟩:=f8b m;refine cR Tryz.func3 (by decide) q3.2 rfl (cg (.agg px) px0) rfl ?_;cases b with
 |false=>
  repeat' (first
   |(refine WLg.mk ?_;first
   |refine ac ?_|refine au ?_|refine aV rfl rfl rfl rfl px rfl ?_|refine ay M ?_|refine ay c8 ?_)|apply ab|refine aj rfl ?_|apply ae|apply aa|apply ak|refine aF rfl ?_|refine aD rfl ?_|apply am|apply thN|apply thR|fail)
  exact⟨.inr rfl,_,rfl,.flat rfl,rfl⟩
 |true=>
 have hm:=hb rfl;clear hb;have Q:=pG m;have hn:=pL m.funcs;have O:bY (.eptr (mdO m) 0):= .eptr px
 repeat' (first
  |(refine WLg.mk ?_;first
  |refine ac ?_|refine au ?_|refine aV rfl rfl rfl rfl px rfl ?_|refine ay M ?_|refine ay c8 ?_)|apply ab|refine aj rfl ?_|apply ae|apply aa|apply ai|apply ak|refine aD rfl ?_|apply thN|fail)
 refine az (vL0 (a:=1) (es:=3) (A:= .eptr (mdO m) 0) O rfl rfl rfl) ?_;refine aA m.funcs.length (λi f h=>f=frL 1 (.eptr (mdO m) 0) 3 i/\h=HL (fuL ((m.funcs.take i).map eL))) ?_ (i:=0) (Nat.zero_le _) ⟨rfl,rfl⟩;rintro i _ _ hi ⟨rfl,rfl⟩;have hi2:i<9223372036854775807:=by omega
 have o:((m.funcs.take i).map eL).length=i:=by rw [List.length_map,List.length_take];omega
 have hC:(fuL ((m.funcs.take i).map eL)).length=i*3:=by rw [tD,o]
 have a2:(fuL ((m.funcs.take i).map eL)).length<=200000000:=by rw [hC];omega
 have pc:=z8 ((m.funcs.take i).map eL);cases q:ltI (Int.ofNat i) (Int.ofNat m.funcs.length)with
 |true=>
  have J:=bX q;have F:Nat.blt i m.funcs.length=true:=q;have a4:=rn F;have a5:=jJ (cX m.funcs i);have cc:=(rnp 6000001 (Nat.le_refl _)).c (cX m.funcs i).clauses (by omega);have et:fuL ((m.funcs.take (i+1)).map eL)=fuL ((m.funcs.take i).map eL)++fuO (eL (cX m.funcs i)):=by rw [Cg J,EW]
  have lx:∀h,ROp.run (.load true 3) [.eptr (fuL m.funcs) (Nat.mul i 3)] h=some (.agg (fuO (cX m.funcs i))):=λh=>i7 F;rw [et];generalize a3:fuL ((m.funcs.take i).map eL)=C at*;generalize cX m.funcs i=u at*;have I:ROp.run (.load true 3) [.ptr 2 0] ⟨((HL C).t.put 2 (some (.cells 3 (cM (fuO u) 0 .e) none false))).put 2 (some (.cells 3 ((cM (fuO u) 0 .e).put 2 (some (.lst u.clauses.length 4 (clL (dD u.clauses))))) none false)),3⟩=some (.agg (fuO (eL u))):=rZ (tr:=(cM (fuO u) 0 .e).put 2 (some (.lst u.clauses.length 4 (clL (dD u.clauses))))) rfl rfl (by
   rw [GY];exact qv (cs:=fuO u) (k:=2) (by show 2<3;decide) (by show 3<=bZ;omega))
  have pu:=oM (eL u)
  repeat' (first
   |(refine WLg.mk ?_;first
   |refine ac ?_|refine av rfl rfl (ce Hy) rfl ?_|refine ap rfl rfl (lx _) rfl ?_|refine ap rfl rfl I rfl ?_|refine au ?_|refine aX (cs:=fuO (eL u)) rfl rfl rfl rfl rfl rfl pu rfl ?_|refine aI rfl rfl rfl rfl rfl ?_|refine aT rfl rfl rfl rfl rfl rfl rfl rfl rfl ?_|refine aS rfl rfl rfl rfl rfl rfl rfl rfl rfl ?_|refine ay cc ?_)|apply ab|refine aj rfl ?_|apply ae|apply aa|apply ai|apply ak|refine ah rfl (λg=>?_) (λg=>Nf g)|apply thN|fail)
  refine WLg.mk (bH (xs:=fuO (eL u)) rfl rfl (glG (i:=1) (cs:=C) rfl hC (by decide) (by omega) (Nat.le_of_ble_eq_true (n:=2) rfl)) (by decide) rfl rfl (by show 3+1<bZ;omega) (by show C.length+3<_;omega) (by omega) (by decide) λn h' g' nx kp=>⟨_,_,rfl,?_⟩)
  repeat' (first
   |(refine WLg.mk ?_;first
   |refine ac ?_)|apply ab|refine aj rfl ?_|apply aa|apply thN|fail)
  have b0:=kp 0 (Nat.le_of_ble_eq_true (n:=1) rfl) λb n q=>gV q λq=>by omega
  refine .norm ⟨_,_,vLe (a:=1) (A:= .eptr (mdO m) 0) (i:=i) (es:=3) O (by decide) (show(3:Nat)≠0 by decide) rfl rfl (dj hi2) b0 g' (by rw [List.length_append,hC];show i*3+3=_;omega) (λx hx=>?_) (by rw [List.length_append];show C.length+3<=_;omega),J,rfl,rfl⟩;rcases List.mem_append.1 hx with k|k
  ·exact pc x k
  ·exact pu x k
 |false=>
  have D:i=m.funcs.length:=by have:=cC q;omega
  have hF:(m.funcs.take i).map eL=(eT m).funcs:=by rw [D,List.take_length];rfl
  rw [hF]at o hC pc a2 ⊢;have a6:=DE m;have z:CP 10 [.agg (mdO m),.lst (eT m).funcs.length 3 (fuL (eT m).funcs)] (.agg (mdO (eT m))):=f10 m (eT m).funcs;have pf:=IK (eT m).funcs;have pw:=gY (eT m);subst o;obtain⟨W,B,R⟩:=f11 m (by omega);obtain⟨U,p,T⟩:=f11 (eT m) (by omega);have K:W=0->U=0->RfL (kU m) (kU (eT m)):=λe1 e2=>FA (by omega) (e1▸R) (e2▸T);obtain⟨vw,hw,G,b0,gw⟩:=f12h (m:=m) (by omega);have lm:=(f12c (m:=m) (by omega)).2;obtain⟨s,lw⟩:=f12c (m:=eT m) (by omega);clear R T c8 hm;cases q1:eqI W 0 with
  |false=>
   have p1:(!eqI W 0)=true:=by rw [q1];rfl
   repeat' (first
    |(refine WLg.mk ?_;first
    |refine ac ?_|refine au ?_|refine aJ rfl rfl rfl rfl rfl rfl rfl rfl rfl rfl rfl pw rfl rfl ?_|refine ay z ?_|refine ay B ?_)|apply ab|refine aj rfl ?_|refine aB rfl rfl ?_|refine aC rfl (λg=>?_) (λg=>Nf g)|(show WC _ _ _ _ _ (.reg (⟨.t 34,_,_,_,_,_⟩ ::_)) _ _ _;refine az (vLf (a:=1) (A:= .eptr (mdO m) 0) (es:=3) (C:=fuL (eT m).funcs) (by decide) O rfl rfl hC pc (by omega)) ?_)|apply ae|apply aa|refine aF rfl ?_|refine ah rfl (λg=>Nt g) (λg=>?_)|apply ax|apply am|apply thN|apply thR|apply thE|apply onE|fail)
   all_goals exact⟨.inr rfl,_,rfl,.flat rfl,rfl⟩
  |true=>
   have p1:(!eqI W 0)=false:=by rw [q1];rfl
   cases q2:eqI U 0 with
   |false=>
    have p2:(!eqI U 0)=true:=by rw [q2];rfl
    repeat' (first
     |(refine WLg.mk ?_;first
     |refine ac ?_|refine au ?_|refine aJ rfl rfl rfl rfl rfl rfl rfl rfl rfl rfl rfl pw rfl rfl ?_|refine ay z ?_|refine ay B ?_|refine ay p ?_)|apply ab|refine aj rfl ?_|refine aC rfl (λg=>Nt g) (λg=>?_)|(show WC _ _ _ _ _ (.reg (⟨.t 34,_,_,_,_,_⟩ ::_)) _ _ _;refine az (vLf (a:=1) (A:= .eptr (mdO m) 0) (es:=3) (C:=fuL (eT m).funcs) (by decide) O rfl rfl hC pc (by omega)) ?_)|apply ae|apply aa|refine ah rfl (λg=>?_) (λg=>Nf g)|refine ah rfl (λg=>Nt g) (λg=>?_)|apply ax|apply am|apply thN|apply thR|apply thE|apply onE|fail)
    all_goals exact⟨.inr rfl,_,rfl,.flat rfl,rfl⟩
   |true=>
    have p2:(!eqI U 0)=false:=by rw [q2];rfl
    obtain⟨hl,a1⟩:=K (iF q1) (iF q2);rw [hl]at s;have a0:(flL (kU m)).length=(kU m).length*6:=fh _;generalize kU m=L at*
    repeat' (first
     |(refine WLg.mk ?_;first
     |refine ac ?_|refine au ?_|refine aJ rfl rfl rfl rfl rfl rfl rfl rfl rfl rfl rfl pw rfl rfl ?_|refine ay z ?_|refine ay B ?_|refine ay p ?_|refine aw G ?_)|apply ab|refine aj rfl ?_|refine aC rfl (λg=>Nt g) (λg=>?_)|(show WC _ _ _ _ _ (.reg (⟨.t 34,_,_,_,_,_⟩ ::_)) _ _ _;refine az (vLf (a:=1) (A:= .eptr (mdO m) 0) (es:=3) (C:=fuL (eT m).funcs) (by decide) O rfl rfl hC pc (by omega)) ?_)|apply ae|apply aa|apply ai|apply ak|refine ah rfl (λg=>Nt g) (λg=>?_)|apply ax|apply thN|apply thE|apply onE|fail)
    refine az (v3a (w:=eT m) (n:=L.length) (C:=flL L) rfl rfl rfl b0 gw a0 (kJ _) (by omega)) ?_;clear z B p G b0 gw K;refine aA L.length (λi f h=>f=fr3m (eT m) L.length i/\h=HL (flL (jY L i))) ?_ (i:=0) (Nat.zero_le _) ⟨rfl,rfl⟩;rintro i _ _ hi ⟨rfl,rfl⟩;have hi2:i<9223372036854775807:=by omega
    have r:(flL (jY L i)).length=L.length*6:=by rw [fh,nv]
    have E:POp.run (.leng .sl) [eR 1 6 L.length]=some (.int .i64 (Int.ofNat L.length)):=by cases L.length<;>rfl
    cases qi:ltI (Int.ofNat i) (Int.ofNat L.length)with
    |false=>
     have D:i=L.length:=by have:=cC qi;omega
     subst D;rw [Ey]at r ⊢;have P:=f13 (L.map qF) (by rw [List.length_map];omega);rw [List.length_map]at P s
     repeat' (first
      |(refine WLg.mk ?_;first
      |refine av rfl rfl E rfl ?_|refine ac ?_|refine au ?_|refine ay s ?_|refine ay P ?_)|apply ab|refine aj rfl ?_|(show WC _ _ _ _ _ (.seq (.reg (⟨.t 69,_,_,_,_,_⟩ ::_)) _) _ _ _;refine az (v3c (w:=eT m) (n:=L.length) (C:=flL (L.map qF)) rfl rfl r (kJ _) (by omega)) ?_)|apply ae|apply aa|refine ah rfl (λg=>Nt g) (λg=>?_)|apply ax|apply am|apply thN|apply thE|apply onE|fail)
     all_goals exact⟨.inr rfl,_,rfl,.flat rfl,rfl⟩
    |true=>
     have l:=bX qi;have Z:(HL (flL (jY L i))).blk 1=blG (ir (flL (jY L i))):=rfl;have S:flL (jY L i)≠[]:=λq=>by rw [q]at r;simp at r;omega
     have y:(HL (flL (jY L i))).blk 1=some (.cells (L.length*6) (cM (flL (jY L i)) 0 .e) none false):=by
      rw [Z,ka S];show some (Blk.cells (cD _) _ _ _)=_;rw [@cq noE,r]
     have hz:L.length*6<=bZ:=by omega
     have Y:eR 1 6 L.length= .sl 1 0 L.length 0 false 6:=by
      cases hL:L.length with
      |zero=>omega
      |succ n=>rfl
     have ix:POp.run (.ixsl 6) [eR 1 6 L.length,.int .i64 (Int.ofNat i)]=some (.ptr 1 (i*6)):=by
      rw [Y];show oif (Nat.beq 6 6) (ob (oif (Nat.blt i L.length) (some i)) λk=>some (V.ptr 1 (Nat.add 0 (Nat.mul k 6))))=_;rw [ltb l];show some (V.ptr 1 (0+i*6))=_;rw [Nat.zero_add]
     have lc:ROp.run (.load false 1) [.ptr 1 (i*6+3)] (HL (flL (jY L i)))=some (.int .i64 (kK L i).code):=dI y (iI (by omega) _ _ (Bw l (j:=3) (by decide))) (by omega);have ln:ROp.run (.load false 1) [.ptr 1 (i*6+4)] (HL (flL (jY L i)))=some (sV (kK L i).name):=dI y (iI (by omega) _ _ (Bw l (j:=4) (by decide))) (by omega);have hw:=iH (j:=i*6+4) (v:=sV (qn (kK L i).name)) y rfl rfl (by omega);cases q7:eqI (kK L i).code 7 with
     |true=>
      have Q:=a1 (kK L i) (jf (d:=fl0) (ltb l)) q7;have aq:=H8 Q;have es:=GO l q7
      repeat' (first
       |(refine WLg.mk ?_;first
       |refine av rfl rfl E rfl ?_|refine av rfl rfl ix rfl ?_|refine av rfl rfl aq rfl ?_|refine ac ?_|refine ap rfl rfl lc rfl ?_|refine ap rfl rfl ln rfl ?_|refine aK rfl rfl hw rfl ?_)|apply ab|refine aj rfl ?_|apply ae|apply aa|apply ai|apply ak|refine ah rfl (λg=>?_) (λg=>Nf g)|apply thN|fail)
      refine .norm ⟨_,_,v3b (w:=eT m) (n:=L.length) (i:=i) (C:=flL (jY L (i+1))) rfl rfl (dj hi2) rfl (by omega) rfl (by rw [es];exact qv (by omega) (by omega)) (Nat.le_of_ble_eq_true (n:=2) rfl) (by rw [fh,nv]) (kJ _) (by rw [fh,nv];omega),l,rfl,rfl⟩
     |false=>
      repeat' (first
       |(refine WLg.mk ?_;first
       |refine av rfl rfl E rfl ?_|refine av rfl rfl ix rfl ?_|refine ac ?_|refine ap rfl rfl lc rfl ?_)|apply ab|refine aj rfl ?_|apply ae|apply aa|apply ai|apply ak|refine ah rfl (λg=>?_) (λg=>Nf g)|refine ah rfl (λg=>Nt g) (λg=>?_)|apply thN|fail)
      refine .norm ⟨_,_,v3b (w:=eT m) (n:=L.length) (i:=i) (C:=flL (jY L (i+1))) rfl rfl (dj hi2) rfl (by omega) y (by rw [CD l q7];exact iI (by omega)) (Nat.le_of_ble_eq_true (n:=2) rfl) (by rw [fh,nv]) (kJ _) (by rw [fh,nv];omega),l,rfl,rfl⟩
end
section
open Go.ChangeShapes Go.WideShapes Go.Deep
noncomputable section
def ef(W:World):En:=⟨λb=>if b=0 then none else match W.heap[b]? with
 |some (.cells c _ _)=>some c
 |_=>none⟩
def g0:G:=fp nog 0 (0,0,256)
end
theorem Al{W:World}{b:Nat}{c:Array Value}{t:TypeId}{s:Nat×Nat}(h0:b≠0)(h:W.heap[b]? =some (.cells c t s)):(ef W).ro b=some c:=by
 show(if b=0 then none else match W.heap[b]? with
  |some (.cells c _ _)=>some c
  |_=>none)=some c
 rw [if_neg h0,h]
theorem Db{W:World}{b:Nat}{c:Array Value}(h:(ef W).ro b=some c):b≠0/\∃t:TypeId×(Nat×Nat),W.heap[b]? =some (.cells c t.1 t.2):=by
 have h:(if b=0 then none else match W.heap[b]? with
  |some (.cells c _ _)=>some c
  |_=>none)=some c:=h
 split at h
 ·cases h
 ·rename_i h0
  refine⟨h0,?_⟩
  split at h
  ·rename_i c' t s q
   cases h;exact⟨(t,s),q⟩
  ·cases h
def oT(W:World):Prop:=∃c t s,W.heap[0]? =some (.cells c t s)/\∀(j:Nat) u,c[j]? =some u->∃z,u=Value.int .u8 z
def yZ(v:V):Prop:=∀(E:En) (g:G) (u:Value) (z:Int),@VR E g v u->u≠.int .u8 z
theorem Ep(n:Int):yZ (.int .i64 n):=λE g u z h e=>by subst e;cases h
theorem zC(n c:Nat):yZ (.str n c):=λE g u z h e=>by subst e;cases h
theorem GH(b:Bool):yZ (.bool b):=λE g u z h e=>by subst e;cases h
theorem IU(n es:Nat)(l:List V):yZ (.lst n es l):=λE g u z h e=>by subst e;cases h
theorem By{α:Type}{P:Nat->α->Prop}:∀(n:Nat),(∀i,i<n->∃x,P i x)->∃l:List α,l.length=n/\∀i x,l[i]? =some x->P i x
 |0,_=>⟨[],rfl,λi x h=>by simp at h⟩
 |n+1,h=>by
  obtain⟨l,hl,hp⟩:=By n (λi hi=>h i (by omega));obtain⟨x,hx⟩:=h n (by omega);refine⟨l++[x],by simp [hl],λi y hy=>?_⟩;rw [List.getElem?_append]at hy
  split at hy
  ·exact hp i y hy
  ·rename_i hge
   have:i-l.length=0:=by
    have:=(List.getElem?_eq_some_iff.1 hy).1
    simpa using this
   rw [this]at hy;simp at hy;subst hy;rw [show i=n by omega];exact hx
section
variable {H:Type} {enc:TypeId×Value->H} {W:World} {spare:Nat->Bool} {held:Bool}
theorem Bk{E:En}{g:G}{α:Type}{f:α->List V}{gl:List α->List V}(b:gl []=[])(hc:∀a l,gl (a ::l)=f a++gl l){es:Nat}{c:Array Value}:∀(l:List α) (o:Nat),(∀i x,l[i]? =some x->∃cs':List Value,@VRs E g (f x) cs'/\cs'.length=es/\∀j,j<es->c[o+i*es+j]? =cs'[j]?)->@VRs E g (gl l) ((c.toList.drop o).take (l.length*es))
 |[],o,_=>by
  rw [b];simp;exact @VRs.nil E g
 |a ::l,o,h=>by
  obtain⟨cs',h1,h2,h3⟩:=h 0 a rfl;have ih:=Bk b hc l (o+es) (λi x hx=>by
   obtain⟨cs2,k1,k2,k3⟩:=h (i+1) x hx;refine⟨cs2,k1,k2,λj hj=>?_⟩;rw [<-k3 j hj]
   congr 1
   rw [Nat.add_mul];omega)
  rw [hc,List.length_cons,Nat.add_mul,Nat.one_mul,Nat.add_comm (l.length*es) es,List.take_add,List.drop_drop];have e:(c.toList.drop o).take es=cs':=by
   apply List.ext_getElem?;intro j;rw [List.getElem?_take]
   split
   ·rename_i hj
    rw [List.getElem?_drop,Array.getElem?_toList,<-h3 j hj]
    congr 1
    omega
   ·rw [List.getElem?_eq_none (by omega)]
  rw [e];exact @VRs.append E g _ _ _ _ h1 ih
theorem oK(h0:oT W){α:Type}{f:α->List V}{gl:List α->List V}(F:gl []=[])(hc:∀a l,gl (a ::l)=f a++gl l){t e es:Nat}(ht:Tryz.prog.underlying t=some (.slice e))(I:Tryz.prog.cellsOf e=es)(D:0<es)(M:∀a,(f a).length=es)
  (first:∀a,∃v r,f a=v ::r/\yZ v) {n:Nat} (k:∀m,m<n->∀(cs:List Value) x,cs.length=es->DataW.trod enc Tryz.prog W 0 spare held m e cs=some x->∃a,@VRs (ef W) g0 (f a) cs) {v:Value} {y:DataW H×List MemPlace}
  (h:DataW.trod enc Tryz.prog W 0 spare held n t [v]=some y):∃l,@VR (ef W) g0 (.lst l.length es (gl l)) v:=by
 rcases DataW.trod_slice ht h with⟨e1,_⟩ | ⟨a,len,cap,elems,rest,n',hn',hcs,_,hb,hl,hcap,hlen,hel,_,_⟩
 ·cases e1
  refine⟨[],?_⟩;rw [F];exact @VR.lst0 (ef W) g0 es
 obtain rfl:=(List.cons.inj hcs).1;rcases Nat.eq_zero_or_pos len with rfl|hp
 ·refine⟨[],?_⟩
  rw [F];exact @VR.lstz (ef W) g0 es cap a
 have one:∀i,i<len->∃x:α,∃cs':List Value,@VRs (ef W) g0 (f x) cs'/\cs'.length=es/\∀j,j<es->W.cell? (a.add (i*es+j))=cs'[j]? :=by
  intro i hi;have h1:=hel i hi;rw [List.getElem?_eq_getElem (by omega)]at h1;obtain⟨cs',h2,h3⟩:=Option.bind_eq_some_iff.1 h1;rw [I]at h2;obtain⟨_,Y,h5⟩:=World.cells?_some h2;obtain⟨x,L⟩:=k n' (by omega) cs' _ Y h3;refine⟨x,cs',L,Y,λj s=>?_⟩;rw [<-h5 j s,<-Go.Deep.add_add]
 obtain⟨l,C,A⟩:=By (P:=λi x=>∃cs':List Value,@VRs (ef W) g0 (f x) cs'/\cs'.length=es/\∀j,j<es->W.cell? (a.add (i*es+j))=cs'[j]?) len one;obtain⟨G,B⟩:∃G,l[0]? =some G:=⟨_,List.getElem?_eq_getElem (by omega)⟩
 obtain⟨Q,U,v2,v3⟩:=A 0 G B;obtain⟨v,r,fe,nu⟩:=first G
 rw [fe]at U;obtain⟨N,R,S⟩:∃N,Q[0]? =some N/\@VR (ef W) g0 v N:=by
  cases U with
  |cons p q=>exact⟨_,rfl,p⟩
 have d:=v3 0 D;rw [R]at d;obtain⟨b,o,sp⟩:=a;have O:sp=none:=by
  have:=World.cell?_spot d
  simpa [Addr.add]using this
 subst O;have add:∀k,(Addr.mk b o none).add k=⟨b,o+k,none⟩:=λk=>by
  unfold Addr.add;split
  ·rename_i e;rw [e];rfl
  ·rfl
 rw [add]at d;obtain⟨c,T,ss,hh⟩:∃c T ss,W.heap[b]? =some (.cells c T ss):=by
  cases q:W.heap[b]? with
  |none=>simp [World.cell?,q]at d
  |some ob=>cases ob<;>first|exact⟨_,_,_,rfl⟩|simp [World.cell?,q]at d
 have cell:∀k,W.cell? ⟨b,o+k,none⟩=c[o+k]? :=λk=>by simp [World.cell?,hh]
 have J:b≠0:=by
  rintro rfl;obtain⟨c',t',s',Z,q2⟩:=h0;rw [hh]at Z;cases Z;rw [cell]at d;obtain⟨z,hz⟩:=q2 _ _ d;exact nu _ _ _ z S hz
 have w:=Bk (E:=ef W) (g:=g0) F hc (c:=c) l o (λi x L=>by
  obtain⟨cs',k1,k2,k3⟩:=A i x L;refine⟨cs',k1,k2,λj s=>?_⟩;rw [<-k3 j s,add,cell,Nat.add_assoc])
 refine⟨l,?_⟩;have K:(gl l).length=l.length*es:=by
  clear C A B w
  induction l with
  |nil=>rw [F];simp
  |cons a l ih=>rw [hc,List.length_append,ih,M,List.length_cons,Nat.add_mul];omega
 rw [<-C];refine @VR.lst (ef W) g0 _ es b o cap c _ _ (Al J hh) (λj u s=>?_) K w;rw [List.getElem?_take]at s
 split at s
 ·rw [List.getElem?_drop,Array.getElem?_toList]at s
  exact s
 ·cases s
end
theorem Ih{E:En}{g:G}(s:ByteArray):@VR E g (sV s) (.string s):=@VR.str E g s
theorem c3:Tryz.prog.cellsOf 3=1:=by kernel_rfl
theorem c2:Tryz.prog.cellsOf 2=1:=by kernel_rfl
theorem c4:Tryz.prog.cellsOf 4=1:=by kernel_rfl
theorem c9:Tryz.prog.cellsOf 9=1:=by kernel_rfl
theorem c41:Tryz.prog.cellsOf 41=1:=by kernel_rfl
theorem c42:Tryz.prog.cellsOf 42=1:=by kernel_rfl
theorem c43:Tryz.prog.cellsOf 43=1:=by kernel_rfl
theorem c28:Tryz.prog.cellsOf 28=1:=by kernel_rfl
theorem c48:Tryz.prog.cellsOf 48=1:=by kernel_rfl
theorem c22:Tryz.prog.cellsOf 22=1:=by kernel_rfl
theorem c23:Tryz.prog.cellsOf 23=1:=by kernel_rfl
theorem c45:Tryz.prog.cellsOf 45=11:=by kernel_rfl
theorem c81:Tryz.prog.cellsOf 81=27:=by kernel_rfl
theorem c50:Tryz.prog.cellsOf 50=4:=by kernel_rfl
theorem c47:Tryz.prog.cellsOf 47=23:=by kernel_rfl
theorem c30:Tryz.prog.cellsOf 30=3:=by kernel_rfl
theorem c56:Tryz.prog.cellsOf 56=2:=by kernel_rfl
theorem c25:Tryz.prog.cellsOf 25=4:=by kernel_rfl
section
variable {H:Type} {enc:TypeId×Value->H} {W:World} {spare:Nat->Bool} {held:Bool}
abbrev Tr0(enc:TypeId×Value->H)(W:World)(spare:Nat->Bool)(held:Bool)(n t:Nat)(cs:List Value):Prop:=∃x,DataW.trod enc Tryz.prog W 0 spare held n t cs=some x
theorem jq{n t:Nat}{fs:Array Field}(e:Tryz.prog.underlying t=some (.struct fs)){cs:List Value}(h:Tr0 enc W spare held n t cs):∃m,m<n/\cs.length=Tryz.prog.cellsOf t/\∀(i a off c:Nat),Tryz.prog.cellsOf a=c->(∃f:Field,fs[i]? =some f/\f.type=a/\f.offset=off)->Tr0 enc W spare held m a ((cs.drop off).take c):=by
 obtain⟨x,h⟩:=h;obtain⟨xs,m,l,_,k,j,d⟩:=DataW.trod_struct e h;refine⟨m,by omega,k,λi a off c hc ⟨f,hi,b,ho⟩=>?_⟩;subst b ho hc;have:=d i f hi;have g:=(Array.getElem?_eq_some_iff.1 hi).1;rw [List.getElem?_eq_getElem (by omega)]at this;exact⟨_,this⟩
theorem qD{n t:Nat}(a:Tryz.prog.underlying t=some (.int .i64)){v:Value}(h:Tr0 enc W spare held n t [v]):∃z,@VR (ef W) g0 (.int .i64 z) v:=by
 obtain⟨x,h⟩:=h;obtain⟨z,e,_⟩:=DataW.trod_int a h;cases e;exact⟨z,@VR.int (ef W) g0 _ _⟩
theorem oD{n:Nat}{v:Value}(h:Tr0 enc W spare held n 9 [v]):∃s,@VR (ef W) g0 (sV s) v:=by
 obtain⟨x,h⟩:=h;obtain⟨s,e,_⟩:=DataW.trod_string Tryz.underlying9 h;cases e;exact⟨s,Ih s⟩
theorem pY{n:Nat}{v:Value}(h:Tr0 enc W spare held n 4 [v]):∃b,@VR (ef W) g0 (.bool b) v:=by
 obtain⟨x,h⟩:=h;obtain⟨b,e,_⟩:=DataW.trod_bool Tryz.underlying4 h;cases e;exact⟨b,@VR.bool (ef W) g0 _⟩
structure KE(enc:TypeId×Value->H)(W:World)(spare:Nat->Bool)(held:Bool)(n:Nat):Prop where
 ex:∀cs,Tr0 enc W spare held n 45 cs->∃x:Ex,@VRs (ef W) g0 (exO x) cs
 sg:∀cs,Tr0 enc W spare held n 81 cs->∃x:Sg,@VRs (ef W) g0 (sgO x) cs
 cl:∀cs,Tr0 enc W spare held n 50 cs->∃x:Cl,@VRs (ef W) g0 (clO x) cs
 sm:∀cs,Tr0 enc W spare held n 47 cs->∃x:Sm,@VRs (ef W) g0 (smO x) cs
section
variable (h0:oT W) {n:Nat} (k:∀m,m<n->KE enc W spare held m)
include h0 k
theorem Ae{v:Value}(h:Tr0 enc W spare held n 41 [v]):∃l:List Ex,@VR (ef W) g0 (.lst l.length 11 (exL l)) v:=by
 obtain⟨x,h⟩:=h;exact oK h0 (f:=exO) (by rw [exL]) cV Tryz.underlying41 c45 (by decide) (λ_=>rfl) (λa=>⟨_,_,rfl,Ep _⟩) (λm b cs y _ c=>(k m b).ex cs ⟨y,c⟩) h
theorem Iz{v:Value}(h:Tr0 enc W spare held n 42 [v]):∃l:List Sg,@VR (ef W) g0 (.lst l.length 27 (sgL l)) v:=by
 obtain⟨x,h⟩:=h;exact oK h0 (f:=sgO) (by rw [sgL]) fI Tryz.underlying42 c81 (by decide) (λ_=>rfl) (λa=>⟨_,_,rfl,Ep _⟩) (λm b cs y _ c=>(k m b).sg cs ⟨y,c⟩) h
theorem Ax{v:Value}(h:Tr0 enc W spare held n 28 [v]):∃l:List Cl,@VR (ef W) g0 (.lst l.length 4 (clL l)) v:=by
 obtain⟨x,h⟩:=h;exact oK h0 (f:=clO) (by rw [clL]) fj Tryz.underlying28 c50 (by decide) (λ_=>rfl) (λa=>⟨_,_,rfl,zC _ _⟩) (λm b cs y _ c=>(k m b).cl cs ⟨y,c⟩) h
theorem zh{v:Value}(h:Tr0 enc W spare held n 43 [v]):∃l:List Sm,@VR (ef W) g0 (.lst l.length 23 (smL l)) v:=by
 obtain⟨x,h⟩:=h;exact oK h0 (f:=smO) (by rw [smL]) fE Tryz.underlying43 c47 (by decide) (λ_=>rfl) (λa=>⟨_,_,rfl,GH _⟩) (λm b cs y _ c=>(k m b).sm cs ⟨y,c⟩) h
theorem I6{v:Value}(h:Tr0 enc W spare held n 48 [v]):∃l:List (List Ex),@VR (ef W) g0 (.lst l.length 1 (gdL l)) v:=by
 obtain⟨x,h⟩:=h;refine oK h0 (f:=λl:List Ex=>[V.lst l.length 11 (exL l)]) (by rw [gdL]) (λa l=>by first|(rw [gdL];done)|(rw [gdL];rfl)) Tryz.underlying48 c41 (by decide) (λ_=>rfl) (λa=>⟨_,_,rfl,IU _ _ _⟩) (λm d cs y b c=>?_) h;obtain⟨v,rfl⟩:=List.length_eq_one_iff.1 b;obtain⟨l,b⟩:=Ae h0 (λj e=>k j (by omega)) ⟨y,c⟩;exact⟨l,@VRs.cons (ef W) g0 _ _ _ _ b (@VRs.nil (ef W) g0)⟩
end
theorem vs1{E:En}{g:G}{v:V}{u:Value}{a:List V}{x:List Value}(h:@VR E g v u)(t:@VRs E g a x):@VRs E g (v ::a) (u ::x):=@VRs.cons E g _ _ _ _ h t
theorem vs0{E:En}{g:G}:@VRs E g [] []:=@VRs.nil E g
set_option maxRecDepth 100000 in
theorem Kh(h0:oT W)(n:Nat):KE enc W spare held n:=by
 induction n using Nat.strongRecOn with
 |ind n ih=>
 refine⟨λcs h=>?_,λcs h=>?_,λcs h=>?_,λcs h=>?_⟩
 ·obtain⟨m,o,l,a⟩:=jq Tryz.underlying45 h
  have b:=λj (hj:j<m)=>ih j (by omega)
  match cs,l.trans c45 with
  |[a0,a1,a2,a3,a4,a5,a6,a7,a8,a9,a10],_=>
  have d:Tr0 enc W spare held m 3 [a0]:=a 0 3 0 1 c3 ⟨_,rfl,rfl,rfl⟩;have p:Tr0 enc W spare held m 2 [a1]:=a 1 2 1 1 c2 ⟨_,rfl,rfl,rfl⟩;have e:Tr0 enc W spare held m 9 [a2]:=a 2 9 2 1 c9 ⟨_,rfl,rfl,rfl⟩;have q3:Tr0 enc W spare held m 9 [a3]:=a 3 9 3 1 c9 ⟨_,rfl,rfl,rfl⟩;have z:Tr0 enc W spare held m 41 [a4]:=a 4 41 4 1 c41 ⟨_,rfl,rfl,rfl⟩;have x:Tr0 enc W spare held m 42 [a5]:=a 5 42 5 1 c42 ⟨_,rfl,rfl,rfl⟩;have u:Tr0 enc W spare held m 28 [a6]:=a 6 28 6 1 c28 ⟨_,rfl,rfl,rfl⟩;have J:Tr0 enc W spare held m 28 [a7]:=a 7 28 7 1 c28 ⟨_,rfl,rfl,rfl⟩;have q8:Tr0 enc W spare held m 43 [a8]:=a 8 43 8 1 c43 ⟨_,rfl,rfl,rfl⟩;have q9:Tr0 enc W spare held m 43 [a9]:=a 9 43 9 1 c43 ⟨_,rfl,rfl,rfl⟩;have q10:Tr0 enc W spare held m 4 [a10]:=a 10 4 10 1 c4 ⟨_,rfl,rfl,rfl⟩;obtain⟨i,w0⟩:=qD Tryz.underlying3 d;obtain⟨f,k⟩:=qD Tryz.underlying2 p;obtain⟨c,g⟩:=oD e;obtain⟨q,r⟩:=oD q3;obtain⟨B,y⟩:=Ae h0 b z;obtain⟨w,t⟩:=Iz h0 b x;obtain⟨C,A⟩:=Ax h0 b u;obtain⟨F,K⟩:=Ax h0 b J;obtain⟨I,D⟩:=zh h0 b q8;obtain⟨G,E⟩:=zh h0 b q9;obtain⟨s,v⟩:=pY q10;exact⟨.mk i f c q B w C F I G s,vs1 w0 (vs1 k (vs1 g (vs1 r (vs1 y (vs1 t (vs1 A (vs1 K (vs1 D (vs1 E (vs1 v vs0))))))))))⟩
 ·obtain⟨m,o,l,a⟩:=jq Tryz.underlying81 h
  match cs,l.trans c81 with
  |[a0,a1,a2,a3,a4,a5,a6,a7,a8,a9,a10,a11,a12,a13,a14,a15,a16,a17,a18,a19,a20,a21,a22,a23,a24,a25,a26],_=>
  have d:Tr0 enc W spare held m 3 [a0]:=a 0 3 0 1 c3 ⟨_,rfl,rfl,rfl⟩;have p:Tr0 enc W spare held m 9 [a1]:=a 1 9 1 1 c9 ⟨_,rfl,rfl,rfl⟩;have e:Tr0 enc W spare held m 45 [a2,a3,a4,a5,a6,a7,a8,a9,a10,a11,a12]:=a 2 45 2 11 c45 ⟨_,rfl,rfl,rfl⟩;have q3:Tr0 enc W spare held m 45 [a13,a14,a15,a16,a17,a18,a19,a20,a21,a22,a23]:=a 3 45 13 11 c45 ⟨_,rfl,rfl,rfl⟩;have z:Tr0 enc W spare held m 4 [a24]:=a 4 4 24 1 c4 ⟨_,rfl,rfl,rfl⟩;have x:Tr0 enc W spare held m 4 [a25]:=a 5 4 25 1 c4 ⟨_,rfl,rfl,rfl⟩;have u:Tr0 enc W spare held m 4 [a26]:=a 6 4 26 1 c4 ⟨_,rfl,rfl,rfl⟩;obtain⟨i,w0⟩:=qD Tryz.underlying3 d;obtain⟨f,k⟩:=oD p;obtain⟨c,g⟩:=(ih m o).ex _ e;obtain⟨q,r⟩:=(ih m o).ex _ q3;obtain⟨B,y⟩:=pY z;obtain⟨w,t⟩:=pY x;obtain⟨C,A⟩:=pY u;exact⟨.mk i f c q B w C,vs1 w0 (vs1 k (@VRs.append (ef W) g0 _ _ _ _ g (@VRs.append (ef W) g0 _ _ _ _ r (vs1 y (vs1 t (vs1 A vs0))))))⟩
 ·obtain⟨m,o,l,a⟩:=jq Tryz.underlying50 h
  have b:=λj (hj:j<m)=>ih j (by omega)
  match cs,l.trans c50 with
  |[a0,a1,a2,a3],_=>
  have d:Tr0 enc W spare held m 9 [a0]:=a 0 9 0 1 c9 ⟨_,rfl,rfl,rfl⟩;have p:Tr0 enc W spare held m 41 [a1]:=a 1 41 1 1 c41 ⟨_,rfl,rfl,rfl⟩;have e:Tr0 enc W spare held m 48 [a2]:=a 2 48 2 1 c48 ⟨_,rfl,rfl,rfl⟩;have q3:Tr0 enc W spare held m 43 [a3]:=a 3 43 3 1 c43 ⟨_,rfl,rfl,rfl⟩;obtain⟨i,w0⟩:=oD d;obtain⟨f,k⟩:=Ae h0 b p;obtain⟨c,g⟩:=I6 h0 b e;obtain⟨q,r⟩:=zh h0 b q3;exact⟨.mk i f c q,vs1 w0 (vs1 k (vs1 g (vs1 r vs0)))⟩
 ·obtain⟨m,o,l,a⟩:=jq Tryz.underlying47 h
  match cs,l.trans c47 with
  |[a0,a1,a2,a3,a4,a5,a6,a7,a8,a9,a10,a11,a12,a13,a14,a15,a16,a17,a18,a19,a20,a21,a22],_=>
  have d:Tr0 enc W spare held m 4 [a0]:=a 0 4 0 1 c4 ⟨_,rfl,rfl,rfl⟩;have p:Tr0 enc W spare held m 45 [a1,a2,a3,a4,a5,a6,a7,a8,a9,a10,a11]:=a 1 45 1 11 c45 ⟨_,rfl,rfl,rfl⟩;have e:Tr0 enc W spare held m 45 [a12,a13,a14,a15,a16,a17,a18,a19,a20,a21,a22]:=a 2 45 12 11 c45 ⟨_,rfl,rfl,rfl⟩;obtain⟨i,w0⟩:=pY d;obtain⟨f,k⟩:=(ih m o).ex _ p;obtain⟨c,g⟩:=(ih m o).ex _ e;exact⟨.mk i f c,vs1 w0 (@VRs.append (ef W) g0 _ _ _ _ k g)⟩
set_option maxRecDepth 100000 in
theorem Is(h0:oT W){n:Nat}{v:Value}(h:Tr0 enc W spare held n 22 [v]):∃l:List Sn,@VR (ef W) g0 (.lst l.length 2 (snL l)) v:=by
 obtain⟨x,h⟩:=h;refine oK h0 (f:=snO) rfl (λ_ _=>rfl) Tryz.underlying22 c56 (by decide) (λ_=>rfl) (λa=>⟨_,_,rfl,zC _ _⟩) (λm p cs y i k=>?_) h;obtain⟨j,_,_,b⟩:=jq Tryz.underlying56 ⟨y,k⟩
 match cs,i with
 |[a0,a1],_=>
 have d:Tr0 enc W spare held j 9 [a0]:=b 0 9 0 1 c9 ⟨_,rfl,rfl,rfl⟩;have o:Tr0 enc W spare held j 3 [a1]:=b 1 3 1 1 c3 ⟨_,rfl,rfl,rfl⟩;obtain⟨e,w0⟩:=oD d;obtain⟨c,g⟩:=qD Tryz.underlying3 o;exact⟨⟨e,c⟩,vs1 w0 (vs1 g vs0)⟩
set_option maxRecDepth 100000 in
theorem I7(h0:oT W){n:Nat}{v:Value}(h:Tr0 enc W spare held n 23 [v]):∃l:List Fu,@VR (ef W) g0 (.lst l.length 3 (fuL l)) v:=by
 obtain⟨x,h⟩:=h;refine oK h0 (f:=fuO) rfl (λ_ _=>rfl) Tryz.underlying23 c30 (by decide) (λ_=>rfl) (λa=>⟨_,_,rfl,zC _ _⟩) (λm s cs y p q=>?_) h;obtain⟨j,_,_,b⟩:=jq Tryz.underlying30 ⟨y,q⟩
 match cs,p with
 |[a0,a1,a2],_=>
 have g:Tr0 enc W spare held j 9 [a0]:=b 0 9 0 1 c9 ⟨_,rfl,rfl,rfl⟩;have r:Tr0 enc W spare held j 3 [a1]:=b 1 3 1 1 c3 ⟨_,rfl,rfl,rfl⟩;have o:Tr0 enc W spare held j 28 [a2]:=b 2 28 2 1 c28 ⟨_,rfl,rfl,rfl⟩;obtain⟨i,w0⟩:=oD g;obtain⟨c,k⟩:=qD Tryz.underlying3 r;obtain⟨d,e⟩:=Ax h0 (λj _=>Kh h0 j) o;exact⟨⟨i,c,d⟩,vs1 w0 (vs1 k (vs1 e vs0))⟩
set_option maxRecDepth 100000 in
theorem Kd(h0:oT W){r:Reach}{b0:Nat}{v:Value}{d:DataW H}{p:List MemPlace}(u:Value.okWide Tryz.prog W r b0 25 v)(h:DataW.Trod enc Tryz.prog W 0 spare held 25 v d p):∃m:Md,@VR (ef W) g0 (.agg (mdO m)) v:=by
 obtain⟨cs,rfl,b⟩:=okWide_struct Tryz.underlying25 u;obtain⟨l⟩:=cs;obtain⟨n,i⟩:=h;obtain⟨j,_,x,a⟩:=jq Tryz.underlying25 (⟨_,i⟩:Tr0 enc W spare held n 25 _)
 match l,b.trans c25 with
 |[a0,a1,a2,a3],_=>
 have o:Tr0 enc W spare held j 9 [a0]:=a 0 9 0 1 c9 ⟨_,rfl,rfl,rfl⟩;have w:Tr0 enc W spare held j 2 [a1]:=a 1 2 1 1 c2 ⟨_,rfl,rfl,rfl⟩;have t:Tr0 enc W spare held j 22 [a2]:=a 2 22 2 1 c22 ⟨_,rfl,rfl,rfl⟩;have q3:Tr0 enc W spare held j 23 [a3]:=a 3 23 3 1 c23 ⟨_,rfl,rfl,rfl⟩;obtain⟨q,w0⟩:=oD o;obtain⟨f,s⟩:=qD Tryz.underlying2 w;obtain⟨g,k⟩:=Is h0 t;obtain⟨c,e⟩:=I7 h0 q3;exact⟨⟨q,f,g,c⟩,@VR.agg (ef W) g0 _ _ (vs1 w0 (vs1 s (vs1 k (vs1 e vs0))))⟩
end
end
end Ev
end Go.Proofs.YtdfphfdnoobikaaGreatDoor
