/-
  The checker:shapes of patterns and guards.
-/
import Derived.Test.YtdfphfdnoobikaaGreatDoorLtFind6
namespace Go.Proofs.YtdfphfdnoobikaaGreatDoor
namespace Ev
section
theorem f36(s:Sg):db 36 [.agg (sgO s)]:=by
 refine cJ Tryz.func36 (by decide) q36.2 rfl (bO (.agg λc hc=>(fM _ c hc).x) px0) rfl ?_
 repeat' (first
  |(refine WLg.mk ?_;first
  |refine aa rfl rfl rfl rfl ?_|refine ab rfl rfl rfl rfl ?_|refine aA rfl rfl RA rfl PB rfl ?_)|apply ac|refine ae rfl ?_|refine ay rfl rfl ?_|refine az rfl (λht=>?_) (λht=>?_)|refine aH (t:=16) (λb=>rfl) ?_ (λb=>?_)|refine aH (t:=18) (λb=>rfl) ?_ (λb=>?_)|refine aH (t:=27) (λb=>rfl) ?_ (λb=>?_)|apply ai|apply ah|apply aj|apply al|refine ak rfl (λht=>?_) (λht=>?_)|apply ap|apply bG.norm|apply bG.ret|exact⟨⟨_,rfl⟩,rfl⟩|exact⟨.inr rfl,_,rfl,.flat rfl,_,rfl⟩|fail)
noncomputable section
def fr17(x:Ex)(i:Nat):AL:=[(2,.bool false),(22,.lst x.segs.length 27 (sgL x.segs)),(23,.int .i64 (Int.ofNat x.segs.length)),(24,.int .i64 (Int.ofNat i))]
def fr35(f:FuncId)(l:List Ex)(i:Nat):AL:=[(1,.func (.func f) [] []),(7,.lst l.length 11 (exL l)),(8,.int .i64 (Int.ofNat l.length)),(9,.int .i64 (Int.ofNat i))]
end
theorem f35{f:FuncId}(l:List Ex)(hl:l.length<9223372036854775807)(k:∀x,x∈l->db f [.agg (exO x)]):db 35 [.lst l.length 11 (exL l),.func (.func f) [] []]:=by
 have pf:=pxF f;refine cJ Tryz.func35 (by decide) q35.2 rfl (bO (pxE l) (bO (pxF f) px0)) rfl ?_
 repeat' (first
  |(refine WLg.mk ?_;first
  |refine aa rfl rfl rfl rfl ?_)|apply ac|refine ae rfl ?_|apply ai|apply ah|apply aj|apply bG.norm|fail)
 refine aw (cA (l:=fr35 f l 0) KT rfl) ?_;refine ax l.length (λi x h=>x=fr35 f l i/\h=H0) ?_ (i:=0) (Nat.zero_le _) ⟨rfl,rfl⟩;rintro i _ _ hi ⟨rfl,rfl⟩;have hi2:i<9223372036854775807:=by omega
 have kk:Nat.blt i l.length=true->db f [.agg (exO (bW l i))]:=λq=>k _ (mE (d:=ex0) q)
 repeat' (first
  |(refine WLg.mk ?_;first
  |refine aa rfl rfl rfl rfl ?_|refine aa rfl rfl (bN Hy) rfl ?_|refine ab rfl rfl rfl rfl ?_|refine ab rfl rfl (dA Hy) rfl ?_|refine aF rfl rfl rfl rfl rfl ?_|refine aL rfl rfl rfl rfl rfl rfl rfl rfl rfl ?_|refine aq rfl rfl rfl (kk Hy) rfl ?_)|apply ac|refine ae rfl ?_|apply ai|apply ah|apply aj|apply al|refine ak rfl (λht=>?_) (λht=>?_)|apply av|apply ap|apply bG.norm|apply bG.ret|apply bG.exit|apply OnC.ret|apply OnC.exit|exact⟨.inr rfl,_,rfl,.flat rfl,_,rfl⟩|fail)
 all_goals exact .norm ⟨_,_,cA KI rfl,bL Hy,rfl,rfl⟩
theorem BU{s:Nat}(hs:s<=6000000)(P:∀x,bH (exO x)<s->db 17 [.agg (exO x)])(x:Ex)(hx:bH (exO x)<s+1):db 17 [.agg (exO x)]:=by
 have hsz:=dM x;have hn:=dy x.items;have hg:=iR x.segs;have c35:=f35 (f:=17) x.items (by omega) λy hy=>P y (by have:=gR hy;omega);refine cJ Tryz.func17 (by decide) q17.2 rfl (bO (pxe x) px0) rfl ?_
 repeat' (first
  |(refine WLg.mk ?_;first
  |refine aa rfl rfl rfl rfl ?_|refine ab rfl rfl rfl rfl ?_|refine aA rfl rfl RA rfl PB rfl ?_|refine aq rfl rfl rfl (c35) rfl ?_)|apply ac|refine ae rfl ?_|refine aH (t:=7) (λb=>rfl) ?_ (λb=>?_)|refine aH (t:=13) (λb=>rfl) ?_ (λb=>?_)|apply ai|apply ah|apply aj|apply al|refine ak rfl (λht=>?_) (λht=>?_)|apply ap|apply bG.norm|apply bG.ret|exact⟨⟨_,rfl⟩,rfl⟩|exact⟨.inr rfl,_,rfl,.flat rfl,_,rfl⟩|fail)
 all_goals (
  refine aw (cA (l:=fr17 x 0) KT rfl) ?_;refine ax x.segs.length (λi l h=>l=fr17 x i/\h=H0) ?_ (i:=0) (Nat.zero_le _) ⟨rfl,rfl⟩;rintro i _ _ hi ⟨rfl,rfl⟩;have hi2:i<9223372036854775807:=by omega
  have c36:=f36 (ck x.segs i)
  repeat' (first
   |(refine WLg.mk ?_;first
   |refine aa rfl rfl rfl rfl ?_|refine aa rfl rfl (bN Hy) rfl ?_|refine ab rfl rfl rfl rfl ?_|refine ab rfl rfl (gh Hy) rfl ?_|refine aF rfl rfl rfl rfl rfl ?_|refine aL rfl rfl rfl rfl rfl rfl rfl rfl rfl ?_|refine aq rfl rfl rfl (c36) rfl ?_)|apply ac|refine ae rfl ?_|apply ai|apply ah|apply aj|apply al|refine ak rfl (λht=>?_) (λht=>?_)|apply av|apply ap|apply bG.norm|apply bG.ret|apply bG.exit|apply OnC.ret|apply OnC.exit|exact⟨.inr rfl,_,rfl,.flat rfl,_,rfl⟩|fail)
  all_goals exact .norm ⟨_,_,cA KI rfl,bL Hy,rfl,rfl⟩)
theorem f17:∀(s:Nat),s<=6000001->∀x,bH (exO x)<s->db 17 [.agg (exO x)]
 |0,_=>λx hx=>by omega
 |s+1,hs=>BU (by omega) (f17 s (by omega))
theorem f37(x:Ex)(hx:bH (exO x)<=6000000):db 37 [.agg (exO x)]:=by
 have hsz:=dM x;have hn:=dy x.items;obtain⟨k,c51⟩:=f51 x.name.size (bT x.name.data.toList) x.items.length (by omega) (by omega);refine cJ Tryz.func37 (by decide) q37.2 rfl (bO (pxe x) px0) rfl ?_
 repeat' (first
  |(refine WLg.mk ?_;first
  |refine aa rfl rfl rfl rfl ?_|refine ab rfl rfl rfl rfl ?_|refine aA rfl rfl RA rfl PB rfl ?_|refine aq rfl rfl rfl (c51) rfl ?_)|apply ac|refine ae rfl ?_|refine ay rfl rfl ?_|refine az rfl (λht=>?_) (λht=>?_)|refine aH (t:=5) (λb=>rfl) ?_ (λb=>?_)|apply ai|apply ah|apply aj|apply al|refine ak rfl (λht=>?_) (λht=>?_)|apply ap|apply bG.norm|apply bG.ret|exact⟨⟨_,rfl⟩,rfl⟩|exact⟨.inr rfl,_,rfl,.flat rfl,_,rfl⟩|fail)
end
section
structure WY(call:cB)(l:List bS)(loc tmp:AL)(h:H)(hs:List H)(cs:List Tc)(R:AL->H->Prop):Prop where
 out:∃s',fH call l ⟨⟨loc,tmp⟩,h,hs,cs⟩=some s'/\bF s'.cs (jb s'.hs [s'.h])/\R s'.f.loc s'.h
section
variable {call:cB} {loc tmp loc' tmp':AL} {h h1:H} {hs:List H} {cs:List Tc} {l:List bS} {R:AL->H->Prop} {d:Dst} {args:List Opd} {gd:Option (Opd×Bool)} {lo hi:Nat} {vs:List V} {v:V}
theorem bn(hc:bF cs (jb hs [h]))(k:R loc h):WY call [] loc tmp h hs cs R:=⟨_,rfl,hc,k⟩
theorem mR{o:COp}(e0:bX ⟨loc,tmp⟩ gd=some true)(e1:evs ⟨loc,tmp⟩ args=some vs)(e2:o.run call vs h=some (v,h1))(e3:fA d v loc tmp=some (loc',tmp')):
  bS.runD call ⟨d,o,args,gd,lo,hi⟩ ⟨⟨loc,tmp⟩,h,hs,cs⟩=some ⟨⟨loc',tmp'⟩,h1,Bool.rec (motive:=λ_=>List H) hs (h ::hs) (isE o),COp.rec (motive:=λ_=>List Tc) (λ_=>cs) (λq=>⟨q,vs,v,lo,hi⟩ ::cs) (λ_=>cs) (λ_=>cs) (λ_=>cs) cs o⟩:=by
 show ob (bX ⟨loc,tmp⟩ gd) _=_;rw [e0];show ob (evs ⟨loc,tmp⟩ args) _=_;rw [e1];show ob (o.run call vs h) _=_;rw [e2];show some (St.mk (d.put ⟨loc,tmp⟩ v) h1 _ _)=_;rw [fI e3]
theorem bp{o:COp}{hs1:List H}{cs1:List Tc}(e:bS.runD call ⟨d,o,args,gd,lo,hi⟩ ⟨⟨loc,tmp⟩,h,hs,cs⟩=some ⟨⟨loc',tmp'⟩,h1,hs1,cs1⟩)(k:WY call l loc' tmp' h1 hs1 cs1 R):WY call (⟨d,o,args,gd,lo,hi⟩ ::l) loc tmp h hs cs R:=by
 obtain⟨s',k1,k2,k3⟩:=k;refine⟨s',?_,k2,k3⟩;show ob (bS.runD call ⟨d,o,args,gd,lo,hi⟩ ⟨⟨loc,tmp⟩,h,hs,cs⟩) (fH call l)=_;rw [e];exact k1
theorem aZ{o:POp}(e0:bX ⟨loc,tmp⟩ gd=some true)(e1:evs ⟨loc,tmp⟩ args=some vs)(e2:o.run vs=some v)(e3:fA d v loc tmp=some (loc',tmp'))(k:WY call l loc' tmp' h hs cs R):WY call (⟨d,.p o,args,gd,lo,hi⟩ ::l) loc tmp h hs cs R:=
 bp (mR (h1:=h) e0 e1 (by show ob (o.run vs) _=_;rw [e2];rfl) e3) k
theorem aM{o:ROp}(e0:bX ⟨loc,tmp⟩ gd=some true)(e1:evs ⟨loc,tmp⟩ args=some vs)(e2:o.run vs h=some v)(e3:fA d v loc tmp=some (loc',tmp'))(k:WY call l loc' tmp' h hs (⟨o,vs,v,lo,hi⟩ ::cs) R):WY call (⟨d,.r o,args,gd,lo,hi⟩ ::l) loc tmp h hs cs R:=
 bp (mR (h1:=h) e0 e1 (by show ob (o.run vs h) _=_;rw [e2];rfl) e3) k
theorem WY.a{ao:AOp}{b:Blk}{mk:Nat->V}(e0:bX ⟨loc,tmp⟩ gd=some true)(e1:evs ⟨loc,tmp⟩ args=some vs)(er:ao.run vs=some (b,mk))(hk:Nat.blt h.next bR=true)
  (e3:fA d (mk h.next) loc tmp=some (loc',tmp')) (k:WY call l loc' tmp' ⟨h.t.put h.next (some b),Nat.succ h.next⟩ hs cs R):WY call (⟨d,.a ao,args,gd,lo,hi⟩ ::l) loc tmp h hs cs R:=
 bp (mR (h1:=⟨h.t.put h.next (some b),Nat.succ h.next⟩) e0 e1 (by
  show ob (ao.run vs) (λr=>ob (H.new h r.1) λh'=>some (r.2 h.next,h'))=_;rw [er];show ob (oif (Nat.blt h.next bR) (some (H.mk (h.t.put h.next (some b)) (Nat.succ h.next)))) (λh'=>some (mk h.next,h'))=_;rw [hk];rfl) e3) k
theorem aS{o:EOp}(e0:bX ⟨loc,tmp⟩ gd=some true)(e1:evs ⟨loc,tmp⟩ args=some vs)(e2:o.run vs h=some (v,h1))(e3:fA d v loc tmp=some (loc',tmp'))(k:WY call l loc' tmp' h1 (h ::hs) cs R):WY call (⟨d,.e o,args,gd,lo,hi⟩ ::l) loc tmp h hs cs R:=
 bp (mR (h1:=h1) e0 e1 e2 e3) k
theorem bh{P:Program}{T:Ty}{K:Nat->Prop}{n:Nat}{l:List bS}{Q:X->AL->H->Prop}(k:WY call l loc [] h [] [] λloc h=>Q .norm loc h):WC P T K call n (.regD l) loc h Q:=by
 obtain⟨s',k1,k2,k3⟩:=k;exact WC.regD ⟨s',k1,k2,k3⟩
end
theorem bF.snd{o:ROp}{vs:List V}{v:V}{cs:List Tc}{h0 h1:H}{hs:List H}(k:o.run vs h1=some v)(t:bF cs (h0 ::h1 ::hs)):bF (⟨o,vs,v,1,1⟩ ::cs) (h0 ::h1 ::hs):=λx hx j h' e a b=>by
 rcases List.mem_cons.1 hx with rfl|hx
 ·obtain rfl:j=1:=Nat.le_antisymm b a
  cases e;exact k
 ·exact t x hx j h' e a b
theorem bF.two{o:ROp}{vs:List V}{v:V}{cs:List Tc}{h0 h1:H}{hs:List H}(k0:o.run vs h0=some v)(k1:o.run vs h1=some v)(t:bF cs (h0 ::h1 ::hs)):bF (⟨o,vs,v,0,1⟩ ::cs) (h0 ::h1 ::hs):=λx hx j h' e a b=>by
 rcases List.mem_cons.1 hx with rfl|hx
 ·cases j with
  |zero=>cases e;exact k0
  |succ j=>cases j with
   |zero=>cases e;exact k1
   |succ j=>have b:j+1+1<=1:=b;omega
 ·exact t x hx j h' e a b
end
section
abbrev Sc:=List (ByteArray×Int)
def kJ:Sc->ByteArray->Int
 |[],_=>0
 |p ::l,b=>if b=p.1 then p.2 else kJ l b
def lO:Sc->ByteArray->Int->Sc
 |[],b,v=>[(b,v)]
 |p ::l,b,v=>if b=p.1 then(b,v) ::l else p ::lO l b v
def ub:Sc->ByteArray->Sc
 |[],_=>[]
 |p ::l,b=>if b=p.1 then l else p ::ub l b
noncomputable section
def scE:Sc->List (V×V)
 |[]=>[]
 |p ::l=>(sV p.1,.int .i64 p.2) ::scE l
def pj(s:Sc)(b:ByteArray):Sc:=lO s b (cT .i64 (Int.add (kJ s b) (Int.ofNat 1)))
end
theorem r8{a b:ByteArray}:cV a.size (bT a.data.toList) b.size (bT b.data.toList)=decide (a=b):=by
 show cV a.data.size _ b.data.size _=_;rw [<-Array.length_toList,<-Array.length_toList,jR]
 by_cases q:a=b
 ·subst q
  simp
 ·rw [decide_eq_false q,beq_eq_false_iff_ne]
  intro e;apply q;cases a;cases b;exact congrArg ByteArray.mk (Array.toList_inj.1 e)
theorem y9(h:H)(b:ByteArray):∀s:Sc,∃r,dY h (.one .s) (sV b) (scE s)=some r/\gU false (.int .i64 0) r= .int .i64 (kJ s b)
 |[]=>⟨none,rfl,rfl⟩
 |p ::l=>by
  obtain⟨r,q1,q2⟩:=y9 h b l;have e:∀x,dY h (.one .s) (sV b) (scE (p ::l))=x↔(Bool.rec (motive:=λ_=>Option (Option V)) (dY h (.one .s) (sV b) (scE l)) (some (some (.int .i64 p.2))) (cV b.size (bT b.data.toList) p.1.size (bT p.1.data.toList)):Option (Option V))=x:=λx=>Iff.rfl
  by_cases q:b=p.1
  ·refine⟨some (.int .i64 p.2),(e _).2 ?_,?_⟩
   ·rw [r8,decide_eq_true q]
   ·show V.int .i64 p.2= .int .i64 (if b=p.1 then p.2 else kJ l b)
    rw [if_pos q]
  ·refine⟨r,(e _).2 ?_,?_⟩
   ·rw [r8,decide_eq_false q]
    exact q1
   ·show _=V.int .i64 (if b=p.1 then p.2 else kJ l b)
    rw [if_neg q];exact q2
theorem BO(h:H)(b:ByteArray)(v:Int):∀s:Sc,mh h (.one .s) (sV b) (.int .i64 v) (scE s)=some (scE (lO s b v))
 |[]=>rfl
 |p ::l=>by
  show(Bool.rec (motive:=λ_=>Option (List (V×V))) (ob (mh h (.one .s) (sV b) (.int .i64 v) (scE l)) λr=>some ((sV p.1,.int .i64 p.2) ::r)) (some ((sV b,.int .i64 v) ::scE l)) (cV b.size (bT b.data.toList) p.1.size (bT p.1.data.toList)):Option (List (V×V)))=some (scE (if b=p.1 then(b,v) ::l else p ::lO l b v));rw [r8]
  by_cases q:b=p.1
  ·rw [decide_eq_true q,if_pos q]
   rfl
  ·rw [decide_eq_false q,if_neg q,BO h b v l]
   rfl
theorem CK(h:H)(b:ByteArray):∀s:Sc,uc h (.one .s) (sV b) (scE s)=some (scE (ub s b))
 |[]=>rfl
 |p ::l=>by
  show(Bool.rec (motive:=λ_=>Option (List (V×V))) (ob (uc h (.one .s) (sV b) (scE l)) λr=>some ((sV p.1,.int .i64 p.2) ::r)) (some (scE l)) (cV b.size (bT b.data.toList) p.1.size (bT p.1.data.toList)):Option (List (V×V)))=some (scE (if b=p.1 then l else p ::ub l b));rw [r8]
  by_cases q:b=p.1
  ·rw [decide_eq_true q,if_pos q]
  ·rw [decide_eq_false q,if_neg q,CK h b l]
   rfl
theorem uZ{b:ByteArray}{v:Int}:∀{s:Sc} {a:ByteArray},a∈(lO s b v).map (·.1)->a=b\/a∈s.map (·.1)
 |[],a,h=>.inl (by simpa [lO]using h)
 |p ::l,a,h=>by
  rw [lO]at h
  split at h
  ·rename_i q
   rcases List.mem_cons.1 h with h|h
   ·exact .inl h
   ·exact .inr (List.mem_cons_of_mem _ h)
  ·rcases List.mem_cons.1 h with h|h
   ·exact .inr (h▸List.mem_cons_self)
   ·rcases uZ h with h|h
    ·exact .inl h
    ·exact .inr (List.mem_cons_of_mem _ h)
theorem BQ{b:ByteArray}{v:Int}:∀{s:Sc},(s.map (·.1)).Nodup->((lO s b v).map (·.1)).Nodup
 |[],_=>by simp [lO]
 |p ::l,h=>by
  rw [List.map_cons,List.nodup_cons]at h;rw [lO]
  split
  ·rename_i q
   rw [List.map_cons,List.nodup_cons];exact⟨by rw [q];exact h.1,h.2⟩
  ·rename_i q
   rw [List.map_cons,List.nodup_cons];refine⟨λk=>?_,BQ h.2⟩;rcases uZ k with k|k
   ·exact q k.symm
   ·exact h.1 k
theorem CL{b:ByteArray}:∀{s:Sc},(s.map (·.1)).Nodup->ub s b=s.filter λq=>!decide (q.1=b)
 |[],_=>rfl
 |p ::l,h=>by
  rw [List.map_cons,List.nodup_cons]at h;rw [ub,List.filter_cons]
  by_cases q:b=p.1
  ·rw [if_pos q,if_neg (by simp [q])]
   refine(List.filter_eq_self.2 λr hr=>?_).symm;have:r.1≠b:=λe=>h.1 (by rw [<-q,<-e];exact List.mem_map_of_mem hr)
   simpa using this
  ·rw [if_neg q,if_pos (by simpa using λe=>q e.symm),CL h.2]
theorem sL{f:ByteArray×Int->Bool}{s:Sc}(h:(s.map (·.1)).Nodup):((s.filter f).map (·.1)).Nodup:=h.sublist (List.filter_sublist.map _)
def szS(s:Sc):Nat:=(s.map λq=>q.1.size+1).sum
theorem wT{b:ByteArray}{v:Int}:∀{s:Sc},szS (lO s b v)<=szS s+(b.size+1)
 |[]=>by simp [lO,szS]
 |p ::l=>by
  have ih:=wT (b:=b) (v:=v) (s:=l);rw [lO]
  split
  ·rename_i q
   simp only [szS,List.map_cons,List.sum_cons,q];omega
  ·simp only [szS,List.map_cons,List.sum_cons]at ih ⊢
   omega
theorem sK{f:ByteArray×Int->Bool}:∀{s:Sc},szS (s.filter f)<=szS s
 |[]=>Nat.le_refl _
 |p ::l=>by
  have ih:=sK (f:=f) (s:=l);rw [List.filter_cons]
  split
  ·simp only [szS,List.map_cons,List.sum_cons]at ih ⊢
   omega
  ·simp only [szS,List.map_cons,List.sum_cons]at ih ⊢
   omega
theorem tM:∀s:Sc,s.length<=szS s
 |[]=>Nat.le_refl _
 |p ::l=>by
  have ih:=tM l;simp only [szS,List.map_cons,List.sum_cons,List.length_cons]at ih ⊢;omega
theorem yY:∀{s:Sc} {q:ByteArray×Int},q∈s->q.1.size<szS s
 |p ::l,q,h=>by
  simp only [szS,List.map_cons,List.sum_cons];rcases List.mem_cons.1 h with rfl|h
  ·omega
  ·have:=yY h
   simp only [szS]at this;omega
structure Fl where
 fn:ByteArray
 ar:Int
 cl:Int
 code:Int
 name:ByteArray
 n:Int
noncomputable section
def flO(f:Fl):List V:=[sV f.fn,.int .i64 f.ar,.int .i64 f.cl,.int .i64 f.code,sV f.name,.int .i64 f.n]
def flL:List Fl->List V
 |[]=>[]
 |f ::l=>flO f++flL l
end
theorem t7:∀a b:List Fl,flL (a++b)=flL a++flL b
 |[],b=>rfl
 |x ::a,b=>by
  show flO x++flL (a++b)=(flO x++flL a)++flL b;rw [t7 a b,List.append_assoc]
theorem jn:∀l:List Fl,(flL l).length=l.length*6
 |[]=>rfl
 |x ::l=>by
  show(flO x++flL l).length=_;rw [List.length_append,jn l,List.length_cons];show 6+l.length*6=_;omega
theorem nt:∀(l:List Fl),∀v,v∈flL l->bP v
 |[],v,h=>by cases h
 |x ::l,v,h=>by
  rcases List.mem_append.1 h with k|k
  ·exact .flat (by
    simp only [flO,List.mem_cons,List.not_mem_nil,or_false]at k;rcases k with rfl|rfl|rfl|rfl|rfl|rfl<;>rfl)
  ·exact nt l v k
structure Pl where
 name:ByteArray
 ar:Int
 cl:Int
def flw(p:Pl)(code:Int)(name:ByteArray)(n:Int):Fl:=⟨p.name,p.ar,p.cl,code,name,n⟩
abbrev Df:=ByteArray->Int->Bool
def Gy(D:Df)(de:List (V×V)):Prop:=∀(h:H) (id:Nat) (o:Bool),h.blk id=some (.map de o)->∀b i,∃k,ROp.run (.lookup (.agg [.s,.i]) false (.int .i64 0)) [.map id,.agg [sV b,.int .i64 i]] h=some (.int .i64 k)/\eqI k 0= !D b i
structure CS(D:Df)(p:Pl)(fl:List Fl)(h:H):Prop where
 b0:h.blk 0=some (.ro 256 dN)
 b1:∃de o,h.blk 1=some (.map de o)/\Gy D de
 b2:∃tr v,h.blk 2=some (.cells 5 tr none false)/\tr.get 0=some (sV p.name)/\tr.get 1=some (.int .i64 p.ar)/\tr.get 2=some (.int .i64 p.cl)/\tr.get 3=some (.map 1)/\tr.get 4=some v/\GL 6 h v (flL fl)
 ln:2*fl.length<=h.next
 le:2<h.next
structure Sco(h:H)(k:Nat)(s:Sc):Prop where
 lo:2<k
 hi:k<h.next
 nd:(s.map (·.1)).Nodup
 out:∃o,h.blk k=some (.map (scE s) o)
structure KMx(k:Nat)(h h':H):Prop where
 le:h.next<=h'.next
 mp:∀j es o,j<h.next->j≠k->h.blk j=some (.map es o)->h'.blk j=some (.map es o)
structure KM(k:Nat)(h h':H):Prop extends KMx k h h' where
 od:0<k->∀es,h.blk k=some (.map es true)->∃es',h'.blk k=some (.map es' true)
theorem KMx.k0{h h':H}(m:KMx 0 h h'):KM 0 h h':=⟨m,λq=>absurd q (Nat.lt_irrefl 0)⟩
theorem KM.refl{k:Nat}(h:H):KM k h h:=⟨⟨Nat.le_refl _,λ_ _ _ _ _ e=>e⟩,λ_ es e=>⟨es,e⟩⟩
theorem KM.trans{k:Nat}{a b c:H}(x:KM k a b)(y:KM k b c):KM k a c:=⟨⟨Nat.le_trans x.le y.le,λj es o hl hj e=>y.mp j es o (Nat.lt_of_lt_of_le hl x.le) hj (x.mp j es o hl hj e)⟩,λhk es e=>by
 obtain⟨es1,e1⟩:=x.od hk es e;exact y.od hk es1 e1⟩
theorem KM.to{k:Nat}{h h':H}(m:KM 0 h h')(b0:h.blk 0=some (.ro 256 dN))(hk:k<h.next):KM k h h':=by
 have mp:∀j es o,j<h.next->h.blk j=some (.map es o)->h'.blk j=some (.map es o):=λj es o hl e=>m.mp j es o hl (λq=>by rw [q,b0]at e;cases e) e
 exact⟨⟨m.le,λj es o hl _ e=>mp j es o hl e⟩,λ_ es e=>⟨es,mp k es true hk e⟩⟩
theorem Sco.km{h h':H}{j k:Nat}{s:Sc}(c:Sco h k s)(m:KMx j h h')(hj:k≠j):Sco h' k s:=by
 obtain⟨o,e⟩:=c.out;exact⟨c.lo,Nat.lt_of_lt_of_le c.hi m.le,c.nd,o,m.mp _ _ _ c.hi hj e⟩
theorem Sco.km0{h h':H}{k:Nat}{s:Sc}(c:Sco h k s)(m:KM 0 h h'):Sco h' k s:=c.km m.toKMx (by have:=c.lo;omega)
theorem KM.fresh{h0 h h':H}{k:Nat}(a:KM 0 h0 h)(hk:h0.next<=k)(m:KMx k h h'):KM 0 h0 h':=KMx.k0 ⟨Nat.le_trans a.le m.le,λj es o hl hj e=>m.mp j es o (Nat.lt_of_lt_of_le hl a.le) (by omega) (a.mp j es o hl hj e)⟩
theorem CS.mono{D:Df}{p:Pl}{fl:List Fl}{h h':H}(c:CS D p fl h)(le:h.next<=h'.next)(e:∀j,j<h.next->(j=1\/∀es o,h.blk j≠some (.map es o))->h'.blk j=h.blk j):CS D p fl h':=by
 obtain⟨de,o,e1,dd⟩:=c.b1;obtain⟨tr,v,e2,t0,t1,t2,t3,t4,gl⟩:=c.b2;have l2:=c.le;refine⟨by rw [e 0 (by omega) (.inr λes o q=>by rw [c.b0]at q;cases q)];exact c.b0,⟨de,o,by rw [e 1 (by omega) (.inl rfl)];exact e1,dd⟩,⟨tr,v,by rw [e 2 l2 (.inr λes o q=>by rw [e2]at q;cases q)];exact e2,t0,t1,t2,t3,t4,gl.mono le λb n q lt=>e b lt (.inr λes o q2=>?_)⟩,Nat.le_trans c.ln le,Nat.lt_of_lt_of_le l2 le⟩;subst q;cases gl with
 |full hb=>rw [hb]at q2;cases q2
theorem CS.scope{D:Df}{p:Pl}{fl:List Fl}{h:H}(c:CS D p fl h){k:Nat}{s s':Sc}(sc:Sco h k s)(hk:h.next<900000000)(o:Bool)(nd:(s'.map (·.1)).Nodup):CS D p fl ⟨h.t.put k (some (.map (scE s') o)),h.next⟩/\Sco ⟨h.t.put k (some (.map (scE s') o)),h.next⟩ k s'/\KMx k h ⟨h.t.put k (some (.map (scE s') o)),h.next⟩:=by
 have hkeys:900000002<bR:=by unfold bR;omega
 have lo:=sc.lo;have hi:=sc.hi;obtain⟨o1,e1⟩:=sc.out;have bl:∀j,(⟨h.t.put k (some (.map (scE s') o)),h.next⟩:H).blk j=if j=k then some (.map (scE s') o)else h.blk j:=λj=>fy (by omega)
 refine⟨c.mono (Nat.le_refl _) λj hj q=>?_,⟨lo,hi,nd,o,by rw [bl,if_pos rfl]⟩,⟨Nat.le_refl _,λj es o _ hj e=>by rw [bl,if_neg hj];exact e⟩⟩;rw [bl,if_neg];rintro rfl;rcases q with q|q
 ·omega
 ·exact q _ _ e1
theorem Sco.look{h:H}{k:Nat}{s:Sc}(sc:Sco h k s)(b:ByteArray):ROp.run (.lookup (.one .s) false (.int .i64 0)) [.map k,sV b] h=some (.int .i64 (kJ s b)):=by
 obtain⟨o,e⟩:=sc.out;obtain⟨r,q1,q2⟩:=y9 h b s;show oif true (ob (ob (h.blk k) _) _)=_;rw [e];show ob (dY h (.one .s) (sV b) (scE s)) _=_;rw [q1];show some (gU false (.int .i64 0) r)=_;rw [q2]
theorem CS.put{D:Df}{p:Pl}{fl:List Fl}{h:H}(c:CS D p fl h){k:Nat}{s:Sc}(sc:Sco h k s)(hk:h.next<900000000)(b:ByteArray)(v:Int):∃h',EOp.run (.mapup (.one .s)) [.map k,sV b,.int .i64 v] h=some (cG,h')/\CS D p fl h'/\Sco h' k (lO s b v)/\KM k h h'/\h'.next=h.next:=by
 obtain⟨q1,q2,q3⟩:=c.scope (s':=lO s b v) sc hk (h.ord k) (BQ sc.nd);refine⟨_,?_,q1,q2,⟨q3,λ_ es e=>⟨scE (lO s b v),by
  rw [fy (by have:=sc.hi;unfold bR;omega),if_pos rfl,show h.ord k=true by unfold H.ord;rw [e]]⟩⟩,rfl⟩
 obtain⟨o,e⟩:=sc.out;show oif true (ob (ob (h.blk k) _) _)=_;rw [e];show ob (mh h (.one .s) (sV b) (.int .i64 v) (scE s)) _=_;rw [BO];rfl
theorem CS.bump{D:Df}{p:Pl}{fl:List Fl}{h:H}(c:CS D p fl h){k:Nat}{s:Sc}(sc:Sco h k s)(hk:h.next<900000000)(b:ByteArray):∃h',EOp.run (.mapup (.one .s)) [.map k,sV b,.int .i64 (cT .i64 (Int.add (kJ s b) (Int.ofNat 1)))] h=some (cG,h')/\CS D p fl h'/\Sco h' k (pj s b)/\KM k h h'/\h'.next=h.next:=c.put sc hk b _
theorem CS.newmap{D:Df}{p:Pl}{fl:List Fl}{h:H}(c:CS D p fl h)(hk:h.next<900000000)(s:Sc)(o:Bool)(nd:(s.map (·.1)).Nodup):CS D p fl ⟨h.t.put h.next (some (.map (scE s) o)),Nat.succ h.next⟩/\Sco ⟨h.t.put h.next (some (.map (scE s) o)),Nat.succ h.next⟩ h.next s/\KM 0 h ⟨h.t.put h.next (some (.map (scE s) o)),Nat.succ h.next⟩:=by
 have hkeys:900000002<bR:=by unfold bR;omega
 have bl:∀j,(⟨h.t.put h.next (some (.map (scE s) o)),Nat.succ h.next⟩:H).blk j=if j=h.next then some (.map (scE s) o)else h.blk j:=λj=>fy (by omega)
 have le:h.next<=Nat.succ h.next:=Nat.le_succ _
 refine⟨c.mono le λj hj _=>by rw [bl,if_neg (by omega)],⟨c.le,Nat.lt_succ_self _,nd,o,by rw [bl,if_pos rfl]⟩,KMx.k0 ⟨le,λj es o hl _ e=>by rw [bl,if_neg (by omega)];exact e⟩⟩
end
section
open Go.Shelf
theorem CS.upd{D:Df}{p p':Pl}{fl:List Fl}{h h':H}(c:CS D p fl h){tr:Tr V}{v:V}(hn:h'.next=h.next)(e:∀j,h'.blk j=if j=2 then some (.cells 5 tr none false)else h.blk j)(t0:tr.get 0=some (sV p'.name))(t1:tr.get 1=some (.int .i64 p'.ar))(t2:tr.get 2=some (.int .i64 p'.cl))(t3:tr.get 3=some (.map 1))(t4:tr.get 4=some v)(gl:GL 6 h v (flL fl)):CS D p' fl h'/\KM 0 h h':=by
 obtain⟨de,o,e1,dd⟩:=c.b1;obtain⟨tr0,v0,e2,_⟩:=c.b2;refine⟨⟨by rw [e,if_neg (by decide)];exact c.b0,⟨de,o,by rw [e,if_neg (by decide)];exact e1,dd⟩,⟨tr,v,by rw [e,if_pos rfl],t0,t1,t2,t3,t4,gl.mono (Nat.le_of_eq hn.symm) λb n q lt=>?_⟩,by rw [hn];exact c.ln,by rw [hn];exact c.le⟩,KMx.k0 ⟨Nat.le_of_eq hn.symm,λj es o _ _ ej=>by rw [e,if_neg (λq=>by rw [q,e2]at ej;cases ej)];exact ej⟩⟩;rw [e,if_neg];rintro rfl;subst q;cases gl with
 |full hb hc hn2=>
  rw [e2]at hb;have:(5:Nat)=n*6:=by injection hb with hb;injection hb
  omega
theorem CS.place{D:Df}{p:Pl}{fl:List Fl}{h:H}(c:CS D p fl h)(_:h.next<900000000)(n:ByteArray)(a:Int):∃h',EOp.run (.store 3) [.ptr 2 0,.agg [sV n,.int .i64 a,.int .i64 1]] h=some (cG,h')/\CS D ⟨n,a,1⟩ fl h'/\KM 0 h h'/\h'.next=h.next:=by
 have hkeys:900000002<bR:=by unfold bR;omega
 obtain⟨tr,v,e2,t0,t1,t2,t3,t4,gl⟩:=c.b2;obtain⟨h',w1,w2,w3,tr',w4,w5⟩:=kn (id:=2) (n:=5) (by omega) (by omega) [sV n,.int .i64 a,.int .i64 1] 0 h tr e2 rfl (by simp);obtain⟨q1,q2⟩:=c.upd (p':=⟨n,a,1⟩) w2 (λj=>by
  by_cases q:j=2
  ·rw [if_pos q,q,w4]
  ·rw [if_neg q,w3 j q]) (by rw [w5];rfl) (by rw [w5];rfl) (by rw [w5];rfl) (by rw [w5];exact t3) (by rw [w5];exact t4) gl
 refine⟨h',?_,q1,q2,w2⟩;show oif true (ob (H.wr 2 [sV n,.int .i64 a,.int .i64 1] 0 h) λh=>some (cG,h))=_;rw [w1];rfl
theorem CS.clause{D:Df}{p:Pl}{fl:List Fl}{h:H}(c:CS D p fl h)(_:h.next<900000000)(a:Int):∃h',EOp.run (.store 1) [.ptr 2 2,.int .i64 a] h=some (cG,h')/\CS D ⟨p.name,p.ar,a⟩ fl h'/\KM 0 h h'/\h'.next=h.next/\∀j,j≠2->h'.blk j=h.blk j:=by
 have hkeys:900000002<bR:=by unfold bR;omega
 obtain⟨tr,v,e2,t0,t1,t2,t3,t4,gl⟩:=c.b2;have g:∀j,(tr.put 2 (some (V.int .i64 a))).get j=if j=2 then some (V.int .i64 a)else tr.get j:=λj=>Tr.get_put _ _ _ _ (by omega)
 obtain⟨q1,q2⟩:=c.upd (p':=⟨p.name,p.ar,a⟩) (h':=⟨h.t.put 2 (some (.cells 5 (tr.put 2 (some (.int .i64 a))) none false)),h.next⟩) (tr:=tr.put 2 (some (.int .i64 a))) rfl (λj=>fy (by omega)) (by rw [g];exact t0) (by rw [g];exact t1) (by rw [g];rfl) (by rw [g];exact t3) (by rw [g];exact t4) gl;exact⟨_,lB e2 rfl rfl (by decide),q1,q2,rfl,λj hj=>by rw [fy (by omega),if_neg hj]⟩
theorem f50{D:Df}{p:Pl}{fl:List Fl}{h:H}(c:CS D p fl h)(hk:h.next+2<300000000)(code n:Int)(name:ByteArray):∃h',CN 50 [.ptr 2 0,.int .i64 code,sV name,.int .i64 n] h (.tup []) h'/\CS D p (fl++[flw p code name n]) h'/\KM 0 h h'/\h'.next=h.next+2/\∀j tr,j<h.next->h.blk j=some (.cells 4 tr none false)->h'.blk j=some (.cells 4 tr none false):=by
 have hkeys:900000002<bR:=by unfold bR;omega
 obtain⟨de,o,e1,dd⟩:=c.b1;obtain⟨tr,v,e2,t0,t1,t2,t3,t4,gl⟩:=c.b2;have c2:=c.le;have cl:=c.ln;have l0:ROp.run (.load false 1) [.ptr 2 0] h=some (sV p.name):=dw e2 t0 (by decide);have l1:ROp.run (.load false 1) [.ptr 2 1] h=some (.int .i64 p.ar):=dw e2 t1 (by decide);have l2:ROp.run (.load false 1) [.ptr 2 2] h=some (.int .i64 p.cl):=dw e2 t2 (by decide);have l4:ROp.run (.load false 1) [.ptr 2 4] h=some v:=dw e2 t4 (by decide);obtain⟨h1,hh1⟩:∃h1:H,h1=⟨h.t.put h.next (some (.cells 6 (cq (flO (flw p code name n)) 0 .e) none false)),Nat.succ h.next⟩:=⟨_,rfl⟩
 have bl:∀j,h1.blk j=if j=h.next then some (.cells 6 (cq (flO (flw p code name n)) 0 .e) none false)else h.blk j:=λj=>by rw [hh1];exact fy (by omega)
 have n1:h1.next=h.next+1:=by rw [hh1]
 have old:∀j,j<h.next->h1.blk j=h.blk j:=λj hj=>by rw [bl,if_neg (by omega)]
 have src:ip 6 none (.sl h.next 0 1 1 true 6) h1=some (1,flO (flw p code name n)):=by
  show oif true (ob (H.rd h1 h.next 0 6) λl=>some (1,l))=_;have:H.rd h1 h.next 0 6=some (flO (flw p code name n)):=by
   show ob (ob (h1.blk h.next) _) _=_;rw [bl,if_pos rfl];rfl
  rw [this];rfl
 have g1:GL 6 h1 v (flL fl):=gl.mono (by omega) λb m q lt=>old b lt;have fll:=jn fl;obtain⟨v',h2,ea,g2,n2,fr⟩:=g1.appendG (bytes:=64) src (by decide) rfl rfl (by omega) (by show(flL fl).length+6<_;omega) (λk hk=>by rw [fll]at hk;omega) (by decide);have gb:∀b m,v= .sl b 0 m 0 false 6->∃tr up,h1.blk b=some (.cells (m*6) tr up false):=λb m q=>by
  subst q;cases g1 with
  |full hb hc hn hl at_ lt=>subst hc;exact⟨_,_,hb⟩
 have fr':∀j,j<h.next->(∀m tr up,h.blk j≠some (.cells (m*6) tr up false))->h2.blk j=h.blk j:=λj hj q=>by
  rw [fr j (by omega) (λb m e k=>?_),old j hj];subst k;obtain⟨tr,up,z⟩:=gb j m e;rw [old j hj]at z;exact q _ _ _ z
 have f2:h2.blk 2=some (.cells 5 tr none false):=by
  rw [fr' 2 c2 (λm tr up q=>?_),e2];rw [e2]at q;have:(5:Nat)=m*6:=by injection q with q;injection q
  omega
 have ow:cellsOf v'=[v']/\cE v'=true:=by
  generalize flL fl++flO (flw p code name n)=zs at g2;cases g2<;>exact⟨rfl,rfl⟩
 have w:=lB (j:=4) f2 ow.1 ow.2 (by decide);have g:∀j,(tr.put 4 (some v')).get j=if j=4 then some v' else tr.get j:=λj=>Tr.get_put _ _ _ _ (by omega)
 have c1:CS D p (fl++[flw p code name n]) ⟨h2.t.put 2 (some (.cells 5 (tr.put 4 (some v')) none false)),h2.next⟩/\KM 0 h ⟨h2.t.put 2 (some (.cells 5 (tr.put 4 (some v')) none false)),h2.next⟩:=by
  have bl2:∀j,(⟨h2.t.put 2 (some (.cells 5 (tr.put 4 (some v')) none false)),h2.next⟩:H).blk j=if j=2 then some (.cells 5 (tr.put 4 (some v')) none false)else h2.blk j:=λj=>fy (by omega)
  refine⟨⟨?_,⟨de,o,?_,dd⟩,⟨_,v',by rw [bl2,if_pos rfl],by rw [g];exact t0,by rw [g];exact t1,by rw [g];exact t2,by rw [g];exact t3,by rw [g];rfl,?_⟩,?_,?_⟩,KMx.k0 ⟨?_,λj es o hj _ ej=>?_⟩⟩
  ·rw [bl2,if_neg (by decide),fr' 0 (by omega) (λm tr up q=>by rw [c.b0]at q;cases q)]
   exact c.b0
  ·rw [bl2,if_neg (by decide),fr' 1 (by omega) (λm tr up q=>by rw [e1]at q;cases q)]
   exact e1
  ·rw [t7]
   show GL 6 _ v' (flL fl++(flO (flw p code name n)++[]));rw [List.append_nil];refine g2.mono (Nat.le_refl _) λb m q lt=>?_;rw [bl2,if_neg];rintro rfl;subst q;cases g2 with
   |full hb hc hn hl at_ lt=>
    rw [f2]at hb;have:(5:Nat)=m*6:=by injection hb with hb;injection hb
    omega
  ·show 2*(fl++[flw p code name n]).length<=h2.next
   rw [List.length_append,n2,n1];simp only [List.length_singleton];omega
  ·show 2<h2.next
   omega
  ·show h.next<=h2.next
   omega
  ·rw [bl2,if_neg (λq=>by rw [q,e2]at ej;cases ej),fr' j hj (λm tr up q=>by rw [ej]at q;cases q)]
   exact ej
 have o2:h1.blk 2=some (.cells 5 tr none false):=by rw [old 2 c2];exact e2
 have m0:ROp.run (.load false 1) [.ptr 2 0] h1=some (sV p.name):=dw o2 t0 (by decide);have m1:ROp.run (.load false 1) [.ptr 2 1] h1=some (.int .i64 p.ar):=dw o2 t1 (by decide);have m2:ROp.run (.load false 1) [.ptr 2 2] h1=some (.int .i64 p.cl):=dw o2 t2 (by decide);have m4:ROp.run (.load false 1) [.ptr 2 4] h1=some v:=dw o2 t4 (by decide);subst hh1;refine cP Tryz.func50 (by decide) q50.2 rfl rfl (cR c2) ?_;refine bh ?_;have hkb:=cW (show h.next<900000000 by omega)
 repeat' (show WY _ _ _ _ _ _ _ _;first
  |refine bn (by repeat' (first|exact bF.nil|refine bF.first (l0) ?_|refine bF.snd (l0) ?_|refine bF.first (l1) ?_|refine bF.snd (l1) ?_|refine bF.first (l2) ?_|refine bF.snd (l2) ?_|refine bF.first (l4) ?_|refine bF.snd (l4) ?_|refine bF.first (m0) ?_|refine bF.snd (m0) ?_|refine bF.first (m1) ?_|refine bF.snd (m1) ?_|refine bF.first (m2) ?_|refine bF.snd (m2) ?_|refine bF.first (m4) ?_|refine bF.snd (m4) ?_|refine bF.two (l0) (l1) ?_|refine bF.two (l0) (l2) ?_|refine bF.two (l0) (l4) ?_|refine bF.two (l0) (m0) ?_|refine bF.two (l0) (m1) ?_|refine bF.two (l0) (m2) ?_|refine bF.two (l0) (m4) ?_|refine bF.two (l1) (l0) ?_|refine bF.two (l1) (l2) ?_|refine bF.two (l1) (l4) ?_|refine bF.two (l1) (m0) ?_|refine bF.two (l1) (m1) ?_|refine bF.two (l1) (m2) ?_|refine bF.two (l1) (m4) ?_|refine bF.two (l2) (l0) ?_|refine bF.two (l2) (l1) ?_|refine bF.two (l2) (l4) ?_|refine bF.two (l2) (m0) ?_|refine bF.two (l2) (m1) ?_|refine bF.two (l2) (m2) ?_|refine bF.two (l2) (m4) ?_|refine bF.two (l4) (l0) ?_|refine bF.two (l4) (l1) ?_|refine bF.two (l4) (l2) ?_|refine bF.two (l4) (m0) ?_|refine bF.two (l4) (m1) ?_|refine bF.two (l4) (m2) ?_|refine bF.two (l4) (m4) ?_|refine bF.two (m0) (l0) ?_|refine bF.two (m0) (l1) ?_|refine bF.two (m0) (l2) ?_|refine bF.two (m0) (l4) ?_|refine bF.two (m0) (m1) ?_|refine bF.two (m0) (m2) ?_|refine bF.two (m0) (m4) ?_|refine bF.two (m1) (l0) ?_|refine bF.two (m1) (l1) ?_|refine bF.two (m1) (l2) ?_|refine bF.two (m1) (l4) ?_|refine bF.two (m1) (m0) ?_|refine bF.two (m1) (m2) ?_|refine bF.two (m1) (m4) ?_|refine bF.two (m2) (l0) ?_|refine bF.two (m2) (l1) ?_|refine bF.two (m2) (l2) ?_|refine bF.two (m2) (l4) ?_|refine bF.two (m2) (m0) ?_|refine bF.two (m2) (m1) ?_|refine bF.two (m2) (m4) ?_|refine bF.two (m4) (l0) ?_|refine bF.two (m4) (l1) ?_|refine bF.two (m4) (l2) ?_|refine bF.two (m4) (l4) ?_|refine bF.two (m4) (m0) ?_|refine bF.two (m4) (m1) ?_|refine bF.two (m4) (m2) ?_|refine bF.any (λh=>rfl) ?_|refine bF.first rfl ?_)) ?_|refine aZ rfl rfl rfl rfl ?_|refine aM rfl rfl (l0) rfl ?_|refine aM rfl rfl (l1) rfl ?_|refine aM rfl rfl (l2) rfl ?_|refine aM rfl rfl (l4) rfl ?_|refine aS rfl rfl (ea) rfl ?_|refine aS rfl rfl (w) rfl ?_|refine WY.a rfl rfl rfl RA rfl ?_|fail)
 refine⟨.inl rfl,_,rfl,c1.2.le,rfl,c1.1,c1.2,by show h2.next=_;rw [n2],λj tr2 hj ej=>?_⟩;rw [fy (show 2<bR by omega),if_neg (λq=>by
  rw [q,e2]at ej;have:(5:Nat)=4:=by injection ej with ej;injection ej
  omega),fr' j hj (λm tr up q=>by
  rw [ej]at q;have:(4:Nat)=m*6:=by injection q with q;injection q
  omega)]
 exact ej
section
variable [Env]
set_option linter.unusedSectionVars false
theorem sS{g:G}{h:H}{w:World}(r:WR TP g h w){k:Nat}{es:List (V×V)}{o:Bool}(hb:h.blk k=some (.map es o))(hn:Nat.blt h.next bR=true){us:List Value}(hv:VRs g [.map k] us):Calls Tryz.prog 103 us.toArray w λe w'=>∃g' u,e= .returned u/\VR g' (.map h.next) u/\Ext TP g h w g' ⟨h.t.put h.next (some (.map es o)),Nat.succ h.next⟩ w':=by
 cases hv with
 |cons h1 t1=>
 cases t1 with
 |nil=>
 cases h1
 rename_i b o' z hg
 obtain⟨b',o2,z',m,c,q1,q2,q3,q4⟩:=r.blk k _ _ hg hb;rw [hg]at q1;cases q1;have hnew:=da w (.map m c);have hnone:g h.next=none:=by
  cases q:g h.next with
  |none=>rfl
  |some y=>exact absurd (r.dom _ _ q) (by omega)
 have en:h.new (.map es o)=some ⟨h.t.put h.next (some (.map es o)),Nat.succ h.next⟩:=by
  show oif (Nat.blt h.next bR) _=_;rw [hn];rfl
 have x:=Ext.new (z:=0) r (o:= .map m c) en (.inl rfl) ⟨w.heap.size,0,0,m,c,cm _ _ _,hnew,q3.mono (eS _ hnone),q4⟩;refine(AnyW.maps_Clone Tryz.cloneM b m c w q2).mono ?_;rintro e w' ⟨rfl,rfl⟩;exact⟨_,_,rfl,.map (cm _ _ _),x⟩
end
theorem AC{h:H}{k:Nat}{es:List (V×V)}{o:Bool}(hb:h.blk k=some (.map es o))(hn:Nat.blt h.next bR=true):CN 103 [.map k] h (.map h.next) ⟨h.t.put h.next (some (.map es o)),Nat.succ h.next⟩:=by
 refine⟨λE g w us s hu=>⟨_,Tryz.func103,by decide,rfl,callsIn_wide.2 ((@sS E g h w s.wr k es o hb hn us hu).mono ?_)⟩⟩;rintro e w' ⟨g',u,q1,q2,q3⟩;exact⟨E,g',u,q1,q2,fT.of s q3⟩
theorem f103{D:Df}{p:Pl}{fl:List Fl}{h:H}(c:CS D p fl h){k:Nat}{s:Sc}(sc:Sco h k s)(hk:h.next<900000000):∃h',CN 103 [.map k] h (.map h.next) h'/\CS D p fl h'/\Sco h' h.next s/\KM 0 h h'/\h'.next=h.next+1:=by
 obtain⟨o,e⟩:=sc.out;obtain⟨q1,q2,q3⟩:=c.newmap hk s o sc.nd;exact⟨_,AC e (cW hk),q1,q2,q3,rfl⟩
theorem BL{tr:Tr V}{n:Nat}:∀(l:List V) (off:Nat),off+l.length<=n->(∀j v,l[j]? =some v->tr.get (off+j)=some v)->kv tr n l.length off=some l
 |[],off,_,_=>rfl
 |v ::l,off,h,k=>by
  rw [List.length_cons]at h;show oif (Nat.blt off n) (ob (tr.get off) λv=>ob (kv tr n l.length (Nat.succ off)) λr=>some (v ::r))=_;rw [ltb (by omega),show tr.get off=some v from k 0 v rfl,BL l (off+1) (by omega) λj v e=>by
   rw [show off+1+j=off+(j+1) by omega];exact k (j+1) v (by simpa using e)]
  rfl
theorem CS.slot{D:Df}{p:Pl}{fl:List Fl}{h:H}(c:CS D p fl h)(hk:h.next<900000000)(zero xs:List V)(hl:xs.length=zero.length)(hz:zero.length<=1000)(ho:cF xs=true):
  ∃h2 tr,EOp.run (.store zero.length) [.ptr h.next 0,.agg xs] ⟨h.t.put h.next (some (.cells zero.length (cq zero 0 .e) none false)),Nat.succ h.next⟩=some (cG,h2)/\CS D p fl h2/\KM 0 h h2/\h2.next=h.next+1/\h2.blk h.next=some (.cells zero.length tr none false)/\(∀j v,xs[j]? =some v->tr.get j=some v)/\∀j,j<h.next->h2.blk j=h.blk j:=by
 have hkeys:900000002<bR:=by unfold bR;omega
 have bl:∀j,(⟨h.t.put h.next (some (.cells zero.length (cq zero 0 .e) none false)),Nat.succ h.next⟩:H).blk j=if j=h.next then some (.cells zero.length (cq zero 0 .e) none false)else h.blk j:=λj=>fy (by omega)
 obtain⟨h2,w1,w2,w3,tr,w4,w5⟩:=kn (id:=h.next) (n:=zero.length) (by omega) (by omega) xs 0 ⟨h.t.put h.next (some (.cells zero.length (cq zero 0 .e) none false)),Nat.succ h.next⟩ _ (by rw [bl,if_pos rfl]) ho (by omega);have old:∀j,j<h.next->h2.blk j=h.blk j:=λj hj=>by rw [w3 j (by omega),bl,if_neg (by omega)]
 have nx:h2.next=h.next+1:=w2
 refine⟨h2,tr,?_,c.mono (by omega) λj hj _=>old j hj,KMx.k0 ⟨by omega,λj es o hj _ e=>by rw [old j hj];exact e⟩,nx,w4,λj v e=>?_,old⟩
 ·show oif (Nat.beq (bY xs) zero.length) (ob (H.wr h.next xs 0 _) λh=>some (cG,h))=_
  rw [@bV noE,hl,Nat.beq_refl,w1];rfl
 ·have hj:=(List.getElem?_eq_some_iff.1 e).1
  rw [w5,if_pos (by omega),Nat.sub_zero];exact e
theorem B3{h:H}{id n:Nat}{tr:Tr V}{up:Option (Nat×Nat)}{ch:Bool}{xs:List V}(hb:h.blk id=some (.cells n tr up ch))(hl:xs.length=n)(hv:∀j v,xs[j]? =some v->tr.get j=some v):ROp.run (.load true n) [.ptr id 0] h=some (.agg xs):=by
 show ob (ob (ob (h.blk id) _) _) _=_;rw [hb];show ob (kv tr n n 0) _=_;have:=BL (tr:=tr) (n:=n) xs 0 (by omega) λj v e=>by rw [Nat.zero_add];exact hv j v e
 rw [hl]at this;rw [this];rfl
end
section
noncomputable def B6:Nat:=Classical.choose (⟨6000001,rfl⟩:∃n:Nat,n=6000001)
theorem zA:B6=6000001:=Classical.choose_spec (⟨6000001,rfl⟩:∃n:Nat,n=6000001)
theorem py:B6<=6000001:=Nat.le_of_eq zA
theorem rD{n:Nat}(h:n<=6000000):n<B6:=by rw [zA];omega
def bZ{σ:Type}(f:Nat->σ->σ)(s:σ):Nat->σ
 |0=>s
 |i+1=>f i (bZ f s i)
noncomputable section
def oK(g:Sg):Bool:=rb 36 [.agg (sgO g)]
def iG(g:Sg)(s:Sc):Sc:=if(oK g && !eqI g.type 4)&&eqI g.val.kind 3 then pj s g.val.name else s
def gK:Nat->Ex->Sc->Sc
 |0,_,s=>s
 |n+1,x,s=>if eqI x.kind 3 then pj s x.name else if eqI x.kind 5||eqI x.kind 7 then bZ (λi s=>gK n (bW x.items i) s) s x.items.length else if eqI x.kind 8 then bZ (λi s=>iG (ck x.segs i) s) s x.segs.length else s
def wE(p:Pl)(x:Ex)(s:Sc)(fl:List Fl):List Fl:=if eqI (kJ s x.name) 0 then fl++[flw p 7 x.name 0]else fl
end
structure Gf(D:Df)(p:Pl)(fl:List Fl)(h0 h:H)(n:Nat):Prop where
 cs:CS D p fl h
 km:KM 0 h0 h
 nx:h.next<=h0.next+n
structure Gs(D:Df)(p:Pl)(fl:List Fl)(k:Nat)(s:Sc)(h0 h:H)(n:Nat):Prop where
 cs:CS D p fl h
 so:Sco h k s
 km:KM k h0 h
 nx:h.next<=h0.next+n
section
variable {D:Df} {p:Pl} {fl fl':List Fl} {k:Nat} {s s':Sc} {a b c:H} {n m:Nat}
theorem Gf.refl(x:CS D p fl a):Gf D p fl a a 0:=⟨x,.refl a,Nat.le_refl _⟩
theorem Gf.trans(x:Gf D p fl a b n)(y:Gf D p fl' b c m):Gf D p fl' a c (n+m):=⟨y.cs,x.km.trans y.km,by have:=x.nx;have:=y.nx;omega⟩
theorem Gf.up(x:Gf D p fl a b n)(h:n<=m):Gf D p fl a b m:=⟨x.cs,x.km,Nat.le_trans x.nx (Nat.add_le_add_left h _)⟩
theorem Gf.eq(x:Gf D p fl a b n)(e:fl'=fl):Gf D p fl' a b n:=e▸x
theorem Gs.refl(x:CS D p fl a)(y:Sco a k s):Gs D p fl k s a a 0:=⟨x,y,.refl a,Nat.le_refl _⟩
theorem Gs.trans(x:Gs D p fl k s a b n)(y:Gs D p fl' k s' b c m):Gs D p fl' k s' a c (n+m):=⟨y.cs,y.so,x.km.trans y.km,by have:=x.nx;have:=y.nx;omega⟩
theorem Gs.up(x:Gs D p fl k s a b n)(h:n<=m):Gs D p fl k s a b m:=⟨x.cs,x.so,x.km,Nat.le_trans x.nx (Nat.add_le_add_left h _)⟩
theorem Gs.eq(x:Gs D p fl k s a b n)(e1:fl'=fl)(e2:s'=s):Gs D p fl' k s' a b n:=e1▸e2▸x
theorem Gf.gs(x:Gf D p fl' a b n)(y:CS D p fl a)(z:Sco a k s):Gs D p fl' k s a b n:=⟨x.cs,z.km0 x.km,x.km.to y.b0 z.hi,x.nx⟩
end
section
variable {D:Df} {p:Pl} {fl:List Fl} {k:Nat} {sc:Sc} {h:H}
theorem f102(c:CS D p fl h)(so:Sco h k sc)(hk:h.next+2<300000000)(x:Ex):∃h',CN 102 [.ptr 2 0,.agg (exO x),.map k] h (.tup []) h'/\Gf D p (wE p x sc fl) h h' 2:=by
 have lk:=so.look x.name;obtain⟨h1,c1,q1,q2,q3,_⟩:=f50 c hk 7 0 x.name;have g1:Gf D p (fl++[flw p 7 x.name 0]) h h1 2:=⟨q1,q2,by omega⟩
 have g0:Gf D p fl h h 2:=(Gf.refl c).up (by omega);refine cP Tryz.func102 (by decide) Ii.2 rfl rfl (cR c.le) ?_
 repeat' (first
  |(refine WLg.mk ?_;first
  |refine aa rfl rfl rfl rfl ?_|refine ab rfl rfl lk rfl ?_|refine ab rfl rfl rfl rfl ?_|refine aA rfl rfl RA rfl PB rfl ?_|refine au rfl rfl rfl (c1) (λ_ _ q=>q) .none rfl ?_)|apply ac|refine ae rfl ?_|apply ai|apply ah|apply al|refine ak rfl (λht=>?_) (λht=>?_)|apply bG.norm|fail)
 all_goals first
  |exact⟨.inl rfl,_,rfl,g1.km.le,rfl,g1.eq (by simp [wE, *])⟩|exact⟨.inl rfl,_,rfl,g0.km.le,rfl,g0.eq (by simp [wE, *])⟩
noncomputable section
def fr101(x:Ex)(k i:Nat):AL:=[(1,.map k),(21,.lst x.items.length 11 (exL x.items)),(22,.int .i64 (Int.ofNat x.items.length)),(23,.int .i64 (Int.ofNat i))]
def fr101g(l:List V)(n k i:Nat):AL:=[(1,.map k),(34,.lst n 27 l),(35,.int .i64 (Int.ofNat n)),(36,.int .i64 (Int.ofNat i))]
end
def BD(t:Nat):Prop:=∀x,bH (exO x)<t->∀{D:Df} {p:Pl} {fl:List Fl} {k:Nat} {sc:Sc} {h:H},CS D p fl h->Sco h k sc->h.next<300000000->∃h',CN 101 [.agg (exO x),.map k] h (.tup []) h'/\Gs D p fl k (gK t x sc) h h' 0
set_option maxHeartbeats 800000 in
theorem AF{t:Nat}(ht6:t<=6000000)(B:BD t):BD (t+1):=by
 intro x hx D p fl k sc h c so hk;have hsz:=dM x;have np:=cR c.le;have hn:=dy x.items;have hn2:=iR x.segs;have lk:=so.look x.name;obtain⟨h1,mu,q1,q2,q3,q4⟩:=c.bump so (by omega) x.name;have g1:Gs D p fl k (pj sc x.name) h h1 0:=⟨q1,q2,q3,by omega⟩
 have g0:=Gs.refl c so;refine cP Tryz.func101 (by decide) GP.2 rfl rfl np ?_
 repeat' (first
  |(refine WLg.mk ?_;first
  |refine aa rfl rfl rfl rfl ?_|refine ab rfl rfl lk rfl ?_|refine ab rfl rfl rfl rfl ?_|refine aA rfl rfl RA rfl PB rfl ?_|refine aE rfl rfl mu rfl ?_)|apply ac|refine ae rfl ?_|apply ai|apply ah|apply aj|apply al|refine ak rfl (λht=>?_) (λht=>Nx (by with_reducible assumption) ht)|refine ak rfl (λht=>?_) (λht=>?_)|apply bG.norm|fail)
 ·exact⟨.inl rfl,_,rfl,g1.km.le,rfl,g1.eq rfl (by simp [gK, *])⟩
 ·refine aw (bU (l:=fr101 x k 0) KH) ?_
  refine ax x.items.length (λi l h1=>l=fr101 x k i/\Gs D p fl k (bZ (λi s=>gK t (bW x.items i) s) sc i) h h1 0) ?_ (i:=0) (Nat.zero_le _) ⟨rfl,g0⟩;clear mu q1 q2 q3 q4 g1 lk;rintro i _ ha hi ⟨rfl,ga⟩;have hi2:i<9223372036854775807:=by omega
  have hnx:=ga.nx;cases q:ltI (Int.ofNat i) (Int.ofNat x.items.length)with
  |false=>
   have hie:i=x.items.length:=by have:=ce q;omega
   repeat' (first
    |(refine WLg.mk ?_;first
    |refine aa rfl rfl rfl rfl ?_)|apply ac|refine ae rfl ?_|apply ai|apply ah|refine ak rfl (λht=>Nx ht (by with_reducible assumption)) (λht=>?_)|apply av|apply bG.norm|apply bG.exit|apply OnC.exit|fail)
   exact⟨.inl rfl,_,rfl,ga.km.le,rfl,(hie▸ga).eq rfl (by simp [gK, *])⟩
  |true=>
   have hlt:=bL q;have hle:=vR q;have hka:ha.next<900000000:=by omega
   have pp:∀v,v∈exO (bW x.items i)->bP v:=λv hv=>(cZ _ v hv).x;obtain⟨hu,cu,gu⟩:=B (bW x.items i) (by omega) ga.cs ga.so (by omega)
   repeat' (first
    |(refine WLg.mk ?_;first
    |refine aa rfl rfl rfl rfl ?_|refine aa rfl rfl (bN Hy) rfl ?_|refine ab rfl rfl (show ROp.run (.load true 11) [.eptr (exO (bW x.items i)) 0] _=some (.agg (exO (bW x.items i)))from rfl) rfl ?_|refine ab rfl rfl (dA Hy) rfl ?_|refine aC rfl rfl (cW hka) rfl rfl rfl rfl rfl rfl rfl rfl pp rfl rfl ?_|refine au rfl rfl rfl (cu) (λ_ _ q=>q) .none rfl ?_)|apply ac|refine ae rfl ?_|apply ai|apply ah|apply aj|apply al|refine ak rfl (λht=>?_) (λht=>Nx (by with_reducible assumption) ht)|apply bG.norm|fail)
   exact .norm ⟨_,_,bU KH,hlt,rfl,ga.trans gu⟩
 ·refine aw (bU (l:=fr101 x k 0) KH) ?_
  refine ax x.items.length (λi l h1=>l=fr101 x k i/\Gs D p fl k (bZ (λi s=>gK t (bW x.items i) s) sc i) h h1 0) ?_ (i:=0) (Nat.zero_le _) ⟨rfl,g0⟩;clear mu q1 q2 q3 q4 g1 lk;rintro i _ ha hi ⟨rfl,ga⟩;have hi2:i<9223372036854775807:=by omega
  have hnx:=ga.nx;cases q:ltI (Int.ofNat i) (Int.ofNat x.items.length)with
  |false=>
   have hie:i=x.items.length:=by have:=ce q;omega
   repeat' (first
    |(refine WLg.mk ?_;first
    |refine aa rfl rfl rfl rfl ?_)|apply ac|refine ae rfl ?_|apply ai|apply ah|refine ak rfl (λht=>Nx ht (by with_reducible assumption)) (λht=>?_)|apply av|apply bG.norm|apply bG.exit|apply OnC.exit|fail)
   exact⟨.inl rfl,_,rfl,ga.km.le,rfl,(hie▸ga).eq rfl (by simp [gK, *])⟩
  |true=>
   have hlt:=bL q;have hle:=vR q;have hka:ha.next<900000000:=by omega
   have pp:∀v,v∈exO (bW x.items i)->bP v:=λv hv=>(cZ _ v hv).x;obtain⟨hu,cu,gu⟩:=B (bW x.items i) (by omega) ga.cs ga.so (by omega)
   repeat' (first
    |(refine WLg.mk ?_;first
    |refine aa rfl rfl rfl rfl ?_|refine aa rfl rfl (bN Hy) rfl ?_|refine ab rfl rfl (show ROp.run (.load true 11) [.eptr (exO (bW x.items i)) 0] _=some (.agg (exO (bW x.items i)))from rfl) rfl ?_|refine ab rfl rfl (dA Hy) rfl ?_|refine aC rfl rfl (cW hka) rfl rfl rfl rfl rfl rfl rfl rfl pp rfl rfl ?_|refine au rfl rfl rfl (cu) (λ_ _ q=>q) .none rfl ?_)|apply ac|refine ae rfl ?_|apply ai|apply ah|apply aj|apply al|refine ak rfl (λht=>?_) (λht=>Nx (by with_reducible assumption) ht)|apply bG.norm|fail)
   exact .norm ⟨_,_,bU KH,hlt,rfl,ga.trans gu⟩
 ·refine aw (bU (l:=fr101g (sgL x.segs) x.segs.length k 0) KH) ?_
  refine ax x.segs.length (λi l h1=>l=fr101g (sgL x.segs) x.segs.length k i/\Gs D p fl k (bZ (λi s=>iG (ck x.segs i) s) sc i) h h1 0) ?_ (i:=0) (Nat.zero_le _) ⟨rfl,g0⟩;clear mu q1 q2 q3 q4 g1 lk;rintro i _ ha hi ⟨rfl,ga⟩;have hi2:i<9223372036854775807:=by omega
  have hnx:=ga.nx;cases q:ltI (Int.ofNat i) (Int.ofNat x.segs.length)with
  |false=>
   have hie:i=x.segs.length:=by have:=ce q;omega
   repeat' (first
    |(refine WLg.mk ?_;first
    |refine aa rfl rfl rfl rfl ?_)|apply ac|refine ae rfl ?_|apply ai|apply ah|refine ak rfl (λht=>Nx ht (by with_reducible assumption)) (λht=>?_)|apply av|apply bG.norm|apply bG.exit|apply OnC.exit|fail)
   exact⟨.inl rfl,_,rfl,ga.km.le,rfl,(hie▸ga).eq rfl (by simp [gK, *])⟩
  |true=>
   have hlt:=bL q;have hka:ha.next<900000000:=by omega
   have pp:∀v,v∈sgO (ck x.segs i)->bP v:=λv hv=>(fM _ v hv).x;have c36:=f36 (ck x.segs i);have lk:=ga.so.look (ck x.segs i).val.name;obtain⟨hu,mu,q1,q2,q3,q4⟩:=ga.cs.bump ga.so (by omega) (ck x.segs i).val.name;have gu:Gs D p fl k (pj _ (ck x.segs i).val.name) ha hu 0:=⟨q1,q2,q3,by omega⟩
   repeat' (first
    |(refine WLg.mk ?_;first
    |refine aa rfl rfl rfl rfl ?_|refine aa rfl rfl (bN Hy) rfl ?_|refine ab rfl rfl (show ROp.run (.load true 27) [.eptr (sgO (ck x.segs i)) 0] _=some (.agg (sgO (ck x.segs i)))from rfl) rfl ?_|refine ab rfl rfl lk rfl ?_|refine ab rfl rfl rfl rfl ?_|refine ab rfl rfl (gh Hy) rfl ?_|refine aC rfl rfl (cW hka) rfl rfl rfl rfl rfl rfl rfl rfl pp rfl rfl ?_|refine aq rfl rfl rfl (c36) rfl ?_|refine aE rfl rfl mu rfl ?_)|apply ac|refine ae rfl ?_|refine ay rfl rfl ?_|refine az rfl (λht=>?_) (λht=>?_)|apply ai|apply ah|apply aj|apply al|refine aB rfl ?_|refine ak rfl (λht=>?_) (λht=>Nx (by with_reducible assumption) ht)|refine ak rfl (λht=>?_) (λht=>?_)|apply bG.norm|fail)
   all_goals first
    |exact .norm ⟨_,_,bU KH,hlt,rfl,(ga.trans gu).eq rfl (by simp [bZ,iG,oK, *])⟩|exact .norm ⟨_,_,bU KH,hlt,rfl,ga.eq rfl (by simp [bZ,iG,oK, *])⟩
 ·exact⟨.inl rfl,_,rfl,g0.km.le,rfl,g0.eq rfl (by simp [gK, *])⟩
theorem nN:∀t,t<=6000001->BD t
 |0,_=>λx hx=>by omega
 |t+1,hs=>AF (by omega) (nN t (by omega))
end
end
end Ev
end Go.Proofs.YtdfphfdnoobikaaGreatDoor
