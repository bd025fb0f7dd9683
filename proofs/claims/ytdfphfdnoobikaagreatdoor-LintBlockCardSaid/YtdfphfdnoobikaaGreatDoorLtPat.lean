/-
  The checker:shapes of patterns and guards.
-/
import Derived.Test.YtdfphfdnoobikaaGreatDoorLtFind6
namespace Go.Proofs.YtdfphfdnoobikaaGreatDoor
namespace Ev
section
theorem f36(s:Sg):cS 36 [.agg (sgO s)]:=by
 refine cA Tryz.func36 (by decide) cf36_ok rfl (bO (.agg fun c hc=>(gf _ c hc).x) px0) rfl ?_
 repeat' (first
  |(refine WLg.mk ?_;first
  |refine aa rfl rfl rfl rfl ?_|refine ab rfl rfl rfl rfl ?_
  |refine az rfl rfl RA rfl PB rfl ?_)
  |refine ah ?_|refine ac rfl ?_|refine ax rfl rfl ?_|refine ay rfl (fun ht=>?_) (fun ht=>?_)
  |refine aH (t:=16) (fun b=>rfl) ?_ (fun b=>?_)|refine aH (t:=18) (fun b=>rfl) ?_ (fun b=>?_)
  |refine aH (t:=27) (fun b=>rfl) ?_ (fun b=>?_)|refine ai ?_|refine ae ?_|refine aj ?_|refine al ?_
  |refine ak rfl (fun ht=>?_) (fun ht=>?_)|refine ap ?_|refine bE.norm ?_|refine bE.ret ?_|exact⟨⟨_,rfl⟩,rfl⟩
  |exact⟨.inr rfl,_,rfl,.flat rfl,_,rfl⟩|fail)
noncomputable section
def fr17(x:Ex)(i:Nat):AL:=[(2,.bool false),(22,.lst x.segs.length 27 (sgL x.segs)),(23,.int .i64 (Int.ofNat x.segs.length)),(24,.int .i64 (Int.ofNat i))]
def fr35(f:FuncId)(l:List Ex)(i:Nat):AL:=[(1,.func (.func f) [] []),(7,.lst l.length 11 (exL l)),(8,.int .i64 (Int.ofNat l.length)),(9,.int .i64 (Int.ofNat i))]
end
theorem f35{f:FuncId}(l:List Ex)(hl:l.length<9223372036854775807)(k:∀x,x∈l→cS f [.agg (exO x)]):cS 35 [.lst l.length 11 (exL l),.func (.func f) [] []]:=by
 have pf:=pxF f
 refine cA Tryz.func35 (by decide) cf35_ok rfl (bO (pxE l) (bO (pxF f) px0)) rfl ?_
 repeat' (first
  |(refine WLg.mk ?_;first
  |refine aa rfl rfl rfl rfl ?_)
  |refine ah ?_|refine ac rfl ?_|refine ai ?_|refine ae ?_|refine aj ?_|refine bE.norm ?_|fail)
 refine av (cy (l:=fr35 f l 0) KT rfl) ?_
 refine aw l.length (fun i x h=>x=fr35 f l i∧h=H0) ?_ (i:=0) (Nat.zero_le _) ⟨rfl,rfl⟩
 rintro i _ _ hi ⟨rfl,rfl⟩
 have hi2:i<9223372036854775807:=by omega
 have kk:Nat.blt i l.length=true→cS f [.agg (exO (bW l i))]:=fun q=>k _ (ol (d:=ex0) q)
 repeat' (first
  |(refine WLg.mk ?_;first
  |refine aa rfl rfl rfl rfl ?_|refine aa rfl rfl (bM Hy) rfl ?_|refine ab rfl rfl rfl rfl ?_
  |refine ab rfl rfl (dv Hy) rfl ?_|refine aE rfl rfl rfl rfl rfl ?_|refine aL rfl rfl rfl rfl rfl rfl rfl rfl rfl ?_
  |refine aq rfl rfl rfl (kk Hy) rfl ?_)
  |refine ah ?_|refine ac rfl ?_|refine ai ?_|refine ae ?_|refine aj ?_|refine al ?_
  |refine ak rfl (fun ht=>?_) (fun ht=>?_)|refine au ?_|refine ap ?_|refine bE.norm ?_|refine bE.ret ?_
  |refine bE.exit ?_|refine OnC.ret ?_|refine OnC.exit ?_|exact⟨.inr rfl,_,rfl,.flat rfl,_,rfl⟩|fail)
 all_goals exact .norm ⟨_,_,cy KI rfl,bK Hy,rfl,rfl⟩
theorem A2{s:Nat}(hs:s≤6000000)(P:∀x,bF (exO x)<s→cS 17 [.agg (exO x)])(x:Ex)(hx:bF (exO x)<s+1):cS 17 [.agg (exO x)]:=by
 have hsz:=dL x
 have hn:=dt x.items
 have hg:=iQ x.segs
 have c35:=f35 (f:=17) x.items (by omega) fun y hy=>P y (by have:=gR hy;omega)
 refine cA Tryz.func17 (by decide) cf17_ok rfl (bO (pxe x) px0) rfl ?_
 repeat' (first
  |(refine WLg.mk ?_;first
  |refine aa rfl rfl rfl rfl ?_|refine ab rfl rfl rfl rfl ?_
  |refine az rfl rfl RA rfl PB rfl ?_
  |refine aq rfl rfl rfl (c35) rfl ?_)
  |refine ah ?_|refine ac rfl ?_|refine aH (t:=7) (fun b=>rfl) ?_ (fun b=>?_)
  |refine aH (t:=13) (fun b=>rfl) ?_ (fun b=>?_)|refine ai ?_|refine ae ?_|refine aj ?_|refine al ?_
  |refine ak rfl (fun ht=>?_) (fun ht=>?_)|refine ap ?_|refine bE.norm ?_|refine bE.ret ?_|exact⟨⟨_,rfl⟩,rfl⟩
  |exact⟨.inr rfl,_,rfl,.flat rfl,_,rfl⟩|fail)
 all_goals (
  refine av (cy (l:=fr17 x 0) KT rfl) ?_
  refine aw x.segs.length (fun i l h=>l=fr17 x i∧h=H0) ?_ (i:=0) (Nat.zero_le _) ⟨rfl,rfl⟩
  rintro i _ _ hi ⟨rfl,rfl⟩
  have hi2:i<9223372036854775807:=by omega
  have c36:=f36 (ce x.segs i)
  repeat' (first
   |(refine WLg.mk ?_;first
   |refine aa rfl rfl rfl rfl ?_|refine aa rfl rfl (bM Hy) rfl ?_|refine ab rfl rfl rfl rfl ?_
   |refine ab rfl rfl (gq Hy) rfl ?_|refine aE rfl rfl rfl rfl rfl ?_|refine aL rfl rfl rfl rfl rfl rfl rfl rfl rfl ?_
   |refine aq rfl rfl rfl (c36) rfl ?_)
   |refine ah ?_|refine ac rfl ?_|refine ai ?_|refine ae ?_|refine aj ?_|refine al ?_
   |refine ak rfl (fun ht=>?_) (fun ht=>?_)|refine au ?_|refine ap ?_|refine bE.norm ?_|refine bE.ret ?_
   |refine bE.exit ?_|refine OnC.ret ?_|refine OnC.exit ?_|exact⟨.inr rfl,_,rfl,.flat rfl,_,rfl⟩|fail)
  all_goals exact .norm ⟨_,_,cy KI rfl,bK Hy,rfl,rfl⟩)
theorem f17:∀(s:Nat),s≤6000001→∀x,bF (exO x)<s→cS 17 [.agg (exO x)]
 |0,_=>fun x hx=>by omega
 |s+1,hs=>A2 (by omega) (f17 s (by omega))
theorem f37(x:Ex)(hx:bF (exO x)≤6000000):cS 37 [.agg (exO x)]:=by
 have hsz:=dL x
 have hn:=dt x.items
 obtain⟨k,c51⟩:=f51 x.name.size (bT x.name.data.toList) x.items.length (by omega) (by omega)
 refine cA Tryz.func37 (by decide) cf37_ok rfl (bO (pxe x) px0) rfl ?_
 repeat' (first
  |(refine WLg.mk ?_;first
  |refine aa rfl rfl rfl rfl ?_|refine ab rfl rfl rfl rfl ?_
  |refine az rfl rfl RA rfl PB rfl ?_
  |refine aq rfl rfl rfl (c51) rfl ?_)
  |refine ah ?_|refine ac rfl ?_|refine ax rfl rfl ?_|refine ay rfl (fun ht=>?_) (fun ht=>?_)
  |refine aH (t:=5) (fun b=>rfl) ?_ (fun b=>?_)|refine ai ?_|refine ae ?_|refine aj ?_|refine al ?_
  |refine ak rfl (fun ht=>?_) (fun ht=>?_)|refine ap ?_|refine bE.norm ?_|refine bE.ret ?_|exact⟨⟨_,rfl⟩,rfl⟩
  |exact⟨.inr rfl,_,rfl,.flat rfl,_,rfl⟩|fail)
end
section
structure WY(call:cB)(l:List bQ)(loc tmp:AL)(h:H)(hs:List H)(cs:List Tc)(R:AL→H→Prop):Prop where
 out:∃s',fG call l ⟨⟨loc,tmp⟩,h,hs,cs⟩=some s'∧bD s'.cs (i7 s'.hs [s'.h])∧R s'.f.loc s'.h
section
variable {call:cB} {loc tmp loc' tmp':AL} {h h1:H} {hs:List H} {cs:List Tc} {l:List bQ} {R:AL→H→Prop} {d:Dst} {args:List Opd} {gd:Option (Opd×Bool)} {lo hi:Nat} {vs:List V} {v:V}
theorem bn(hc:bD cs (i7 hs [h]))(k:R loc h):WY call [] loc tmp h hs cs R:=⟨_,rfl,hc,k⟩
theorem py{o:COp}(e0:bV ⟨loc,tmp⟩ gd=some true)(e1:evs ⟨loc,tmp⟩ args=some vs)(e2:o.run call vs h=some (v,h1))(e3:fK d v loc tmp=some (loc',tmp')):
  bQ.runD call ⟨d,o,args,gd,lo,hi⟩ ⟨⟨loc,tmp⟩,h,hs,cs⟩=some ⟨⟨loc',tmp'⟩,h1,Bool.rec (motive:=fun _=>List H) hs (h ::hs) (isE o),COp.rec (motive:=fun _=>List Tc) (fun _=>cs) (fun q=>⟨q,vs,v,lo,hi⟩ ::cs) (fun _=>cs) (fun _=>cs) (fun _=>cs) cs o⟩:=by
 show ob (bV ⟨loc,tmp⟩ gd) _=_
 rw [e0]
 show ob (evs ⟨loc,tmp⟩ args) _=_
 rw [e1]
 show ob (o.run call vs h) _=_
 rw [e2]
 show some (St.mk (d.put ⟨loc,tmp⟩ v) h1 _ _)=_
 rw [fH e3]
theorem bp{o:COp}{hs1:List H}{cs1:List Tc}(e:bQ.runD call ⟨d,o,args,gd,lo,hi⟩ ⟨⟨loc,tmp⟩,h,hs,cs⟩=some ⟨⟨loc',tmp'⟩,h1,hs1,cs1⟩)(k:WY call l loc' tmp' h1 hs1 cs1 R):WY call (⟨d,o,args,gd,lo,hi⟩ ::l) loc tmp h hs cs R:=by
 obtain⟨s',k1,k2,k3⟩:=k
 refine⟨s',?_,k2,k3⟩
 show ob (bQ.runD call ⟨d,o,args,gd,lo,hi⟩ ⟨⟨loc,tmp⟩,h,hs,cs⟩) (fG call l)=_
 rw [e]
 exact k1
theorem aZ{o:POp}(e0:bV ⟨loc,tmp⟩ gd=some true)(e1:evs ⟨loc,tmp⟩ args=some vs)(e2:o.run vs=some v)(e3:fK d v loc tmp=some (loc',tmp'))(k:WY call l loc' tmp' h hs cs R):WY call (⟨d,.p o,args,gd,lo,hi⟩ ::l) loc tmp h hs cs R:=
 bp (py (h1:=h) e0 e1 (by show ob (o.run vs) _=_;rw [e2];rfl) e3) k
theorem aK{o:ROp}(e0:bV ⟨loc,tmp⟩ gd=some true)(e1:evs ⟨loc,tmp⟩ args=some vs)(e2:o.run vs h=some v)(e3:fK d v loc tmp=some (loc',tmp'))(k:WY call l loc' tmp' h hs (⟨o,vs,v,lo,hi⟩ ::cs) R):WY call (⟨d,.r o,args,gd,lo,hi⟩ ::l) loc tmp h hs cs R:=
 bp (py (h1:=h) e0 e1 (by show ob (o.run vs h) _=_;rw [e2];rfl) e3) k
theorem WY.a{ao:AOp}{b:Blk}{mk:Nat→V}(e0:bV ⟨loc,tmp⟩ gd=some true)(e1:evs ⟨loc,tmp⟩ args=some vs)(er:ao.run vs=some (b,mk))(hk:Nat.blt h.next bP=true)
  (e3:fK d (mk h.next) loc tmp=some (loc',tmp')) (k:WY call l loc' tmp' ⟨h.t.put h.next (some b),Nat.succ h.next⟩ hs cs R):WY call (⟨d,.a ao,args,gd,lo,hi⟩ ::l) loc tmp h hs cs R:=
 bp (py (h1:=⟨h.t.put h.next (some b),Nat.succ h.next⟩) e0 e1 (by
  show ob (ao.run vs) (fun r=>ob (H.new h r.1) fun h'=>some (r.2 h.next,h'))=_
  rw [er]
  show ob (oif (Nat.blt h.next bP) (some (H.mk (h.t.put h.next (some b)) (Nat.succ h.next)))) (fun h'=>some (mk h.next,h'))=_
  rw [hk]
  rfl) e3) k
theorem aS{o:EOp}(e0:bV ⟨loc,tmp⟩ gd=some true)(e1:evs ⟨loc,tmp⟩ args=some vs)(e2:o.run vs h=some (v,h1))(e3:fK d v loc tmp=some (loc',tmp'))(k:WY call l loc' tmp' h1 (h ::hs) cs R):WY call (⟨d,.e o,args,gd,lo,hi⟩ ::l) loc tmp h hs cs R:=
 bp (py (h1:=h1) e0 e1 e2 e3) k
theorem bh{P:Program}{T:Ty}{K:Nat→Prop}{n:Nat}{l:List bQ}{Q:X→AL→H→Prop}(k:WY call l loc [] h [] [] fun loc h=>Q .norm loc h):WC P T K call n (.regD l) loc h Q:=by
 obtain⟨s',k1,k2,k3⟩:=k
 exact WC.regD ⟨s',k1,k2,k3⟩
end
theorem bD.snd{o:ROp}{vs:List V}{v:V}{cs:List Tc}{h0 h1:H}{hs:List H}(k:o.run vs h1=some v)(t:bD cs (h0 ::h1 ::hs)):bD (⟨o,vs,v,1,1⟩ ::cs) (h0 ::h1 ::hs):=fun x hx j h' e a b=>by
 rcases List.mem_cons.1 hx with rfl|hx
 ·obtain rfl:j=1:=Nat.le_antisymm b a
  cases e
  exact k
 ·exact t x hx j h' e a b
theorem bD.two{o:ROp}{vs:List V}{v:V}{cs:List Tc}{h0 h1:H}{hs:List H}(k0:o.run vs h0=some v)(k1:o.run vs h1=some v)(t:bD cs (h0 ::h1 ::hs)):bD (⟨o,vs,v,0,1⟩ ::cs) (h0 ::h1 ::hs):=fun x hx j h' e a b=>by
 rcases List.mem_cons.1 hx with rfl|hx
 ·cases j with
  |zero=>cases e;exact k0
  |succ j=>cases j with
   |zero=>cases e;exact k1
   |succ j=>have b:j+1+1≤1:=b;omega
 ·exact t x hx j h' e a b
end
section
abbrev Sc:=List (ByteArray×Int)
def kZ:Sc→ByteArray→Int
 |[],_=>0
 |p ::l,b=>if b=p.1 then p.2 else kZ l b
def lP:Sc→ByteArray→Int→Sc
 |[],b,v=>[(b,v)]
 |p ::l,b,v=>if b=p.1 then(b,v) ::l else p ::lP l b v
def tz:Sc→ByteArray→Sc
 |[],_=>[]
 |p ::l,b=>if b=p.1 then l else p ::tz l b
noncomputable section
def scE:Sc→List (V×V)
 |[]=>[]
 |p ::l=>(sV p.1,.int .i64 p.2) ::scE l
def oS(s:Sc)(b:ByteArray):Sc:=lP s b (cZ .i64 (Int.add (kZ s b) (Int.ofNat 1)))
end
theorem uq{a b:ByteArray}:dJ a.size (bT a.data.toList) b.size (bT b.data.toList)=decide (a=b):=by
 show dJ a.data.size _ b.data.size _=_
 rw [←Array.length_toList,←Array.length_toList,jT]
 by_cases q:a=b
 ·subst q
  simp
 ·rw [decide_eq_false q,beq_eq_false_iff_ne]
  intro e
  apply q
  cases a
  cases b
  exact congrArg ByteArray.mk (Array.toList_inj.1 e)
theorem yu(h:H)(b:ByteArray):∀s:Sc,∃r,fc h (.one .s) (sV b) (scE s)=some r∧gT false (.int .i64 0) r= .int .i64 (kZ s b)
 |[]=>⟨none,rfl,rfl⟩
 |p ::l=>by
  obtain⟨r,q1,q2⟩:=yu h b l
  have e:∀x,fc h (.one .s) (sV b) (scE (p ::l))=x↔(Bool.rec (motive:=fun _=>Option (Option V)) (fc h (.one .s) (sV b) (scE l)) (some (some (.int .i64 p.2))) (dJ b.size (bT b.data.toList) p.1.size (bT p.1.data.toList)):Option (Option V))=x:=fun x=>Iff.rfl
  by_cases q:b=p.1
  ·refine⟨some (.int .i64 p.2),(e _).2 ?_,?_⟩
   ·rw [uq,decide_eq_true q]
   ·show V.int .i64 p.2= .int .i64 (if b=p.1 then p.2 else kZ l b)
    rw [if_pos q]
  ·refine⟨r,(e _).2 ?_,?_⟩
   ·rw [uq,decide_eq_false q]
    exact q1
   ·show _=V.int .i64 (if b=p.1 then p.2 else kZ l b)
    rw [if_neg q]
    exact q2
theorem AV(h:H)(b:ByteArray)(v:Int):∀s:Sc,mg h (.one .s) (sV b) (.int .i64 v) (scE s)=some (scE (lP s b v))
 |[]=>rfl
 |p ::l=>by
  show(Bool.rec (motive:=fun _=>Option (List (V×V))) (ob (mg h (.one .s) (sV b) (.int .i64 v) (scE l)) fun r=>some ((sV p.1,.int .i64 p.2) ::r)) (some ((sV b,.int .i64 v) ::scE l)) (dJ b.size (bT b.data.toList) p.1.size (bT p.1.data.toList)):Option (List (V×V)))=some (scE (if b=p.1 then(b,v) ::l else p ::lP l b v))
  rw [uq]
  by_cases q:b=p.1
  ·rw [decide_eq_true q,if_pos q]
   rfl
  ·rw [decide_eq_false q,if_neg q,AV h b v l]
   rfl
theorem BQ(h:H)(b:ByteArray):∀s:Sc,tC h (.one .s) (sV b) (scE s)=some (scE (tz s b))
 |[]=>rfl
 |p ::l=>by
  show(Bool.rec (motive:=fun _=>Option (List (V×V))) (ob (tC h (.one .s) (sV b) (scE l)) fun r=>some ((sV p.1,.int .i64 p.2) ::r)) (some (scE l)) (dJ b.size (bT b.data.toList) p.1.size (bT p.1.data.toList)):Option (List (V×V)))=some (scE (if b=p.1 then l else p ::tz l b))
  rw [uq]
  by_cases q:b=p.1
  ·rw [decide_eq_true q,if_pos q]
  ·rw [decide_eq_false q,if_neg q,BQ h b l]
   rfl
theorem uy{b:ByteArray}{v:Int}:∀{s:Sc} {a:ByteArray},a∈(lP s b v).map (·.1)→a=b∨a∈s.map (·.1)
 |[],a,h=>.inl (by simpa [lP]using h)
 |p ::l,a,h=>by
  rw [lP]at h
  split at h
  ·rename_i q
   rcases List.mem_cons.1 h with h|h
   ·exact .inl h
   ·exact .inr (List.mem_cons_of_mem _ h)
  ·rcases List.mem_cons.1 h with h|h
   ·exact .inr (h▸List.mem_cons_self)
   ·rcases uy h with h|h
    ·exact .inl h
    ·exact .inr (List.mem_cons_of_mem _ h)
theorem AX{b:ByteArray}{v:Int}:∀{s:Sc},(s.map (·.1)).Nodup→((lP s b v).map (·.1)).Nodup
 |[],_=>by simp [lP]
 |p ::l,h=>by
  rw [List.map_cons,List.nodup_cons]at h
  rw [lP]
  split
  ·rename_i q
   rw [List.map_cons,List.nodup_cons]
   exact⟨by rw [q];exact h.1,h.2⟩
  ·rename_i q
   rw [List.map_cons,List.nodup_cons]
   refine⟨fun k=>?_,AX h.2⟩
   rcases uy k with k|k
   ·exact q k.symm
   ·exact h.1 k
theorem BS{b:ByteArray}:∀{s:Sc},(s.map (·.1)).Nodup→tz s b=s.filter fun q=>!decide (q.1=b)
 |[],_=>rfl
 |p ::l,h=>by
  rw [List.map_cons,List.nodup_cons]at h
  rw [tz,List.filter_cons]
  by_cases q:b=p.1
  ·rw [if_pos q,if_neg (by simp [q])]
   refine(List.filter_eq_self.2 fun r hr=>?_).symm
   have:r.1≠b:=fun e=>h.1 (by rw [←q,←e];exact List.mem_map_of_mem hr)
   simpa using this
  ·rw [if_neg q,if_pos (by simpa using fun e=>q e.symm),BS h.2]
theorem si{f:ByteArray×Int→Bool}{s:Sc}(h:(s.map (·.1)).Nodup):((s.filter f).map (·.1)).Nodup:=h.sublist (List.filter_sublist.map _)
def szS(s:Sc):Nat:=(s.map fun q=>q.1.size+1).sum
theorem vW{b:ByteArray}{v:Int}:∀{s:Sc},szS (lP s b v)≤szS s+(b.size+1)
 |[]=>by simp [lP,szS]
 |p ::l=>by
  have ih:=vW (b:=b) (v:=v) (s:=l)
  rw [lP]
  split
  ·rename_i q
   simp only [szS,List.map_cons,List.sum_cons,q]
   omega
  ·simp only [szS,List.map_cons,List.sum_cons]at ih ⊢
   omega
theorem sf{f:ByteArray×Int→Bool}:∀{s:Sc},szS (s.filter f)≤szS s
 |[]=>Nat.le_refl _
 |p ::l=>by
  have ih:=sf (f:=f) (s:=l)
  rw [List.filter_cons]
  split
  ·simp only [szS,List.map_cons,List.sum_cons]at ih ⊢
   omega
  ·simp only [szS,List.map_cons,List.sum_cons]at ih ⊢
   omega
theorem tc:∀s:Sc,s.length≤szS s
 |[]=>Nat.le_refl _
 |p ::l=>by
  have ih:=tc l
  simp only [szS,List.map_cons,List.sum_cons,List.length_cons]at ih ⊢
  omega
theorem yg:∀{s:Sc} {q:ByteArray×Int},q∈s→q.1.size<szS s
 |p ::l,q,h=>by
  simp only [szS,List.map_cons,List.sum_cons]
  rcases List.mem_cons.1 h with rfl|h
  ·omega
  ·have:=yg h
   simp only [szS]at this
   omega
structure Fl where
 fn:ByteArray
 ar:Int
 cl:Int
 code:Int
 name:ByteArray
 n:Int
noncomputable section
def flO(f:Fl):List V:=[sV f.fn,.int .i64 f.ar,.int .i64 f.cl,.int .i64 f.code,sV f.name,.int .i64 f.n]
def flL:List Fl→List V
 |[]=>[]
 |f ::l=>flO f++flL l
end
theorem yt:∀a b:List Fl,flL (a++b)=flL a++flL b
 |[],b=>rfl
 |x ::a,b=>by
  show flO x++flL (a++b)=(flO x++flL a)++flL b
  rw [yt a b,List.append_assoc]
theorem mz:∀l:List Fl,(flL l).length=l.length*6
 |[]=>rfl
 |x ::l=>by
  show(flO x++flL l).length=_
  rw [List.length_append,mz l,List.length_cons]
  show 6+l.length*6=_
  omega
theorem qI:∀(l:List Fl),∀v,v∈flL l→bN v
 |[],v,h=>by cases h
 |x ::l,v,h=>by
  rcases List.mem_append.1 h with k|k
  ·exact .flat (by
    simp only [flO,List.mem_cons,List.not_mem_nil,or_false]at k
    rcases k with rfl|rfl|rfl|rfl|rfl|rfl<;>rfl)
  ·exact qI l v k
structure Pl where
 name:ByteArray
 ar:Int
 cl:Int
def flw(p:Pl)(code:Int)(name:ByteArray)(n:Int):Fl:=⟨p.name,p.ar,p.cl,code,name,n⟩
abbrev Df:=ByteArray→Int→Bool
def Fe(D:Df)(de:List (V×V)):Prop:=∀(h:H) (id:Nat) (o:Bool),h.blk id=some (.map de o)→∀b i,∃k,ROp.run (.lookup (.agg [.s,.i]) false (.int .i64 0)) [.map id,.agg [sV b,.int .i64 i]] h=some (.int .i64 k)∧eqI k 0= !D b i
structure CS(D:Df)(p:Pl)(fl:List Fl)(h:H):Prop where
 b0:h.blk 0=some (.ro 256 dS)
 b1:∃de o,h.blk 1=some (.map de o)∧Fe D de
 b2:∃tr v,h.blk 2=some (.cells 5 tr none false)∧tr.get 0=some (sV p.name)∧tr.get 1=some (.int .i64 p.ar)∧tr.get 2=some (.int .i64 p.cl)∧tr.get 3=some (.map 1)∧tr.get 4=some v∧GL 6 h v (flL fl)
 ln:2*fl.length≤h.next
 le:2<h.next
structure Sco(h:H)(k:Nat)(s:Sc):Prop where
 lo:2<k
 hi:k<h.next
 nd:(s.map (·.1)).Nodup
 out:∃o,h.blk k=some (.map (scE s) o)
structure KMx(k:Nat)(h h':H):Prop where
 le:h.next≤h'.next
 mp:∀j es o,j<h.next→j≠k→h.blk j=some (.map es o)→h'.blk j=some (.map es o)
structure KM(k:Nat)(h h':H):Prop extends KMx k h h' where
 od:0<k→∀es,h.blk k=some (.map es true)→∃es',h'.blk k=some (.map es' true)
theorem KMx.k0{h h':H}(m:KMx 0 h h'):KM 0 h h':=⟨m,fun q=>absurd q (Nat.lt_irrefl 0)⟩
theorem KM.refl{k:Nat}(h:H):KM k h h:=⟨⟨Nat.le_refl _,fun _ _ _ _ _ e=>e⟩,fun _ es e=>⟨es,e⟩⟩
theorem KM.trans{k:Nat}{a b c:H}(x:KM k a b)(y:KM k b c):KM k a c:=⟨⟨Nat.le_trans x.le y.le,fun j es o hl hj e=>y.mp j es o (Nat.lt_of_lt_of_le hl x.le) hj (x.mp j es o hl hj e)⟩,fun hk es e=>by
 obtain⟨es1,e1⟩:=x.od hk es e
 exact y.od hk es1 e1⟩
theorem KM.to{k:Nat}{h h':H}(m:KM 0 h h')(b0:h.blk 0=some (.ro 256 dS))(hk:k<h.next):KM k h h':=by
 have mp:∀j es o,j<h.next→h.blk j=some (.map es o)→h'.blk j=some (.map es o):=fun j es o hl e=>m.mp j es o hl (fun q=>by rw [q,b0]at e;cases e) e
 exact⟨⟨m.le,fun j es o hl _ e=>mp j es o hl e⟩,fun _ es e=>⟨es,mp k es true hk e⟩⟩
theorem Sco.km{h h':H}{j k:Nat}{s:Sc}(c:Sco h k s)(m:KMx j h h')(hj:k≠j):Sco h' k s:=by
 obtain⟨o,e⟩:=c.out
 exact⟨c.lo,Nat.lt_of_lt_of_le c.hi m.le,c.nd,o,m.mp _ _ _ c.hi hj e⟩
theorem Sco.km0{h h':H}{k:Nat}{s:Sc}(c:Sco h k s)(m:KM 0 h h'):Sco h' k s:=c.km m.toKMx (by have:=c.lo;omega)
theorem KM.fresh{h0 h h':H}{k:Nat}(a:KM 0 h0 h)(hk:h0.next≤k)(m:KMx k h h'):KM 0 h0 h':=KMx.k0 ⟨Nat.le_trans a.le m.le,fun j es o hl hj e=>m.mp j es o (Nat.lt_of_lt_of_le hl a.le) (by omega) (a.mp j es o hl hj e)⟩
theorem CS.mono{D:Df}{p:Pl}{fl:List Fl}{h h':H}(c:CS D p fl h)(le:h.next≤h'.next)(e:∀j,j<h.next→(j=1∨∀es o,h.blk j≠some (.map es o))→h'.blk j=h.blk j):CS D p fl h':=by
 obtain⟨de,o,e1,dd⟩:=c.b1
 obtain⟨tr,v,e2,t0,t1,t2,t3,t4,gl⟩:=c.b2
 have l2:=c.le
 refine⟨by rw [e 0 (by omega) (.inr fun es o q=>by rw [c.b0]at q;cases q)];exact c.b0,⟨de,o,by rw [e 1 (by omega) (.inl rfl)];exact e1,dd⟩,⟨tr,v,by rw [e 2 l2 (.inr fun es o q=>by rw [e2]at q;cases q)];exact e2,t0,t1,t2,t3,t4,gl.mono le fun b n q lt=>e b lt (.inr fun es o q2=>?_)⟩,Nat.le_trans c.ln le,Nat.lt_of_lt_of_le l2 le⟩
 subst q
 cases gl with
 |full hb=>rw [hb]at q2;cases q2
theorem CS.scope{D:Df}{p:Pl}{fl:List Fl}{h:H}(c:CS D p fl h){k:Nat}{s s':Sc}(sc:Sco h k s)(hk:h.next<900000000)(o:Bool)(nd:(s'.map (·.1)).Nodup):CS D p fl ⟨h.t.put k (some (.map (scE s') o)),h.next⟩∧Sco ⟨h.t.put k (some (.map (scE s') o)),h.next⟩ k s'∧KMx k h ⟨h.t.put k (some (.map (scE s') o)),h.next⟩:=by
 have hkeys:900000002<bP:=by unfold bP;omega
 have lo:=sc.lo
 have hi:=sc.hi
 obtain⟨o1,e1⟩:=sc.out
 have bl:∀j,(⟨h.t.put k (some (.map (scE s') o)),h.next⟩:H).blk j=if j=k then some (.map (scE s') o)else h.blk j:=fun j=>fE (by omega)
 refine⟨c.mono (Nat.le_refl _) fun j hj q=>?_,⟨lo,hi,nd,o,by rw [bl,if_pos rfl]⟩,⟨Nat.le_refl _,fun j es o _ hj e=>by rw [bl,if_neg hj];exact e⟩⟩
 rw [bl,if_neg]
 rintro rfl
 rcases q with q|q
 ·omega
 ·exact q _ _ e1
theorem Sco.look{h:H}{k:Nat}{s:Sc}(sc:Sco h k s)(b:ByteArray):ROp.run (.lookup (.one .s) false (.int .i64 0)) [.map k,sV b] h=some (.int .i64 (kZ s b)):=by
 obtain⟨o,e⟩:=sc.out
 obtain⟨r,q1,q2⟩:=yu h b s
 show oif true (ob (ob (h.blk k) _) _)=_
 rw [e]
 show ob (fc h (.one .s) (sV b) (scE s)) _=_
 rw [q1]
 show some (gT false (.int .i64 0) r)=_
 rw [q2]
theorem CS.put{D:Df}{p:Pl}{fl:List Fl}{h:H}(c:CS D p fl h){k:Nat}{s:Sc}(sc:Sco h k s)(hk:h.next<900000000)(b:ByteArray)(v:Int):∃h',EOp.run (.mapup (.one .s)) [.map k,sV b,.int .i64 v] h=some (cF,h')∧CS D p fl h'∧Sco h' k (lP s b v)∧KM k h h'∧h'.next=h.next:=by
 obtain⟨q1,q2,q3⟩:=c.scope (s':=lP s b v) sc hk (h.ord k) (AX sc.nd)
 refine⟨_,?_,q1,q2,⟨q3,fun _ es e=>⟨scE (lP s b v),by
  rw [fE (by have:=sc.hi;unfold bP;omega),if_pos rfl,show h.ord k=true by unfold H.ord;rw [e]]⟩⟩,rfl⟩
 obtain⟨o,e⟩:=sc.out
 show oif true (ob (ob (h.blk k) _) _)=_
 rw [e]
 show ob (mg h (.one .s) (sV b) (.int .i64 v) (scE s)) _=_
 rw [AV]
 rfl
theorem CS.bump{D:Df}{p:Pl}{fl:List Fl}{h:H}(c:CS D p fl h){k:Nat}{s:Sc}(sc:Sco h k s)(hk:h.next<900000000)(b:ByteArray):∃h',EOp.run (.mapup (.one .s)) [.map k,sV b,.int .i64 (cZ .i64 (Int.add (kZ s b) (Int.ofNat 1)))] h=some (cF,h')∧CS D p fl h'∧Sco h' k (oS s b)∧KM k h h'∧h'.next=h.next:=c.put sc hk b _
theorem CS.newmap{D:Df}{p:Pl}{fl:List Fl}{h:H}(c:CS D p fl h)(hk:h.next<900000000)(s:Sc)(o:Bool)(nd:(s.map (·.1)).Nodup):CS D p fl ⟨h.t.put h.next (some (.map (scE s) o)),Nat.succ h.next⟩∧Sco ⟨h.t.put h.next (some (.map (scE s) o)),Nat.succ h.next⟩ h.next s∧KM 0 h ⟨h.t.put h.next (some (.map (scE s) o)),Nat.succ h.next⟩:=by
 have hkeys:900000002<bP:=by unfold bP;omega
 have bl:∀j,(⟨h.t.put h.next (some (.map (scE s) o)),Nat.succ h.next⟩:H).blk j=if j=h.next then some (.map (scE s) o)else h.blk j:=fun j=>fE (by omega)
 have le:h.next≤Nat.succ h.next:=Nat.le_succ _
 refine⟨c.mono le fun j hj _=>by rw [bl,if_neg (by omega)],⟨c.le,Nat.lt_succ_self _,nd,o,by rw [bl,if_pos rfl]⟩,KMx.k0 ⟨le,fun j es o hl _ e=>by rw [bl,if_neg (by omega)];exact e⟩⟩
end
section
open Go.Shelf
theorem CS.upd{D:Df}{p p':Pl}{fl:List Fl}{h h':H}(c:CS D p fl h){tr:Tr V}{v:V}(hn:h'.next=h.next)(e:∀j,h'.blk j=if j=2 then some (.cells 5 tr none false)else h.blk j)(t0:tr.get 0=some (sV p'.name))(t1:tr.get 1=some (.int .i64 p'.ar))(t2:tr.get 2=some (.int .i64 p'.cl))(t3:tr.get 3=some (.map 1))(t4:tr.get 4=some v)(gl:GL 6 h v (flL fl)):CS D p' fl h'∧KM 0 h h':=by
 obtain⟨de,o,e1,dd⟩:=c.b1
 obtain⟨tr0,v0,e2,_⟩:=c.b2
 refine⟨⟨by rw [e,if_neg (by decide)];exact c.b0,⟨de,o,by rw [e,if_neg (by decide)];exact e1,dd⟩,⟨tr,v,by rw [e,if_pos rfl],t0,t1,t2,t3,t4,gl.mono (Nat.le_of_eq hn.symm) fun b n q lt=>?_⟩,by rw [hn];exact c.ln,by rw [hn];exact c.le⟩,KMx.k0 ⟨Nat.le_of_eq hn.symm,fun j es o _ _ ej=>by rw [e,if_neg (fun q=>by rw [q,e2]at ej;cases ej)];exact ej⟩⟩
 rw [e,if_neg]
 rintro rfl
 subst q
 cases gl with
 |full hb hc hn2=>
  rw [e2]at hb
  have:(5:Nat)=n*6:=by injection hb with hb;injection hb
  omega
theorem CS.place{D:Df}{p:Pl}{fl:List Fl}{h:H}(c:CS D p fl h)(_:h.next<900000000)(n:ByteArray)(a:Int):∃h',EOp.run (.store 3) [.ptr 2 0,.agg [sV n,.int .i64 a,.int .i64 1]] h=some (cF,h')∧CS D ⟨n,a,1⟩ fl h'∧KM 0 h h'∧h'.next=h.next:=by
 have hkeys:900000002<bP:=by unfold bP;omega
 obtain⟨tr,v,e2,t0,t1,t2,t3,t4,gl⟩:=c.b2
 obtain⟨h',w1,w2,w3,tr',w4,w5⟩:=lC (id:=2) (n:=5) (by omega) (by omega) [sV n,.int .i64 a,.int .i64 1] 0 h tr e2 rfl (by simp)
 obtain⟨q1,q2⟩:=c.upd (p':=⟨n,a,1⟩) w2 (fun j=>by
  by_cases q:j=2
  ·rw [if_pos q,q,w4]
  ·rw [if_neg q,w3 j q]) (by rw [w5];rfl) (by rw [w5];rfl) (by rw [w5];rfl) (by rw [w5];exact t3) (by rw [w5];exact t4) gl
 refine⟨h',?_,q1,q2,w2⟩
 show oif true (ob (H.wr 2 [sV n,.int .i64 a,.int .i64 1] 0 h) fun h=>some (cF,h))=_
 rw [w1]
 rfl
theorem CS.clause{D:Df}{p:Pl}{fl:List Fl}{h:H}(c:CS D p fl h)(_:h.next<900000000)(a:Int):∃h',EOp.run (.store 1) [.ptr 2 2,.int .i64 a] h=some (cF,h')∧CS D ⟨p.name,p.ar,a⟩ fl h'∧KM 0 h h'∧h'.next=h.next∧∀j,j≠2→h'.blk j=h.blk j:=by
 have hkeys:900000002<bP:=by unfold bP;omega
 obtain⟨tr,v,e2,t0,t1,t2,t3,t4,gl⟩:=c.b2
 have g:∀j,(tr.put 2 (some (V.int .i64 a))).get j=if j=2 then some (V.int .i64 a)else tr.get j:=fun j=>Tr.get_put _ _ _ _ (by omega)
 obtain⟨q1,q2⟩:=c.upd (p':=⟨p.name,p.ar,a⟩) (h':=⟨h.t.put 2 (some (.cells 5 (tr.put 2 (some (.int .i64 a))) none false)),h.next⟩) (tr:=tr.put 2 (some (.int .i64 a))) rfl (fun j=>fE (by omega)) (by rw [g];exact t0) (by rw [g];exact t1) (by rw [g];rfl) (by rw [g];exact t3) (by rw [g];exact t4) gl
 exact⟨_,lD e2 rfl rfl (by decide),q1,q2,rfl,fun j hj=>by rw [fE (by omega),if_neg hj]⟩
theorem f50{D:Df}{p:Pl}{fl:List Fl}{h:H}(c:CS D p fl h)(hk:h.next+2<300000000)(code n:Int)(name:ByteArray):∃h',Con Tryz.prog TP noM 50 [.ptr 2 0,.int .i64 code,sV name,.int .i64 n] h (.tup []) h'∧CS D p (fl++[flw p code name n]) h'∧KM 0 h h'∧h'.next=h.next+2∧∀j tr,j<h.next→h.blk j=some (.cells 4 tr none false)→h'.blk j=some (.cells 4 tr none false):=by
 have hkeys:900000002<bP:=by unfold bP;omega
 obtain⟨de,o,e1,dd⟩:=c.b1
 obtain⟨tr,v,e2,t0,t1,t2,t3,t4,gl⟩:=c.b2
 have c2:=c.le
 have cl:=c.ln
 have l0:ROp.run (.load false 1) [.ptr 2 0] h=some (sV p.name):=dq e2 t0 (by decide)
 have l1:ROp.run (.load false 1) [.ptr 2 1] h=some (.int .i64 p.ar):=dq e2 t1 (by decide)
 have l2:ROp.run (.load false 1) [.ptr 2 2] h=some (.int .i64 p.cl):=dq e2 t2 (by decide)
 have l4:ROp.run (.load false 1) [.ptr 2 4] h=some v:=dq e2 t4 (by decide)
 obtain⟨h1,hh1⟩:∃h1:H,h1=⟨h.t.put h.next (some (.cells 6 (cE (flO (flw p code name n)) 0 .e) none false)),Nat.succ h.next⟩:=⟨_,rfl⟩
 have bl:∀j,h1.blk j=if j=h.next then some (.cells 6 (cE (flO (flw p code name n)) 0 .e) none false)else h.blk j:=fun j=>by rw [hh1];exact fE (by omega)
 have n1:h1.next=h.next+1:=by rw [hh1]
 have old:∀j,j<h.next→h1.blk j=h.blk j:=fun j hj=>by rw [bl,if_neg (by omega)]
 have src:iq 6 none (.sl h.next 0 1 1 true 6) h1=some (1,flO (flw p code name n)):=by
  show oif true (ob (H.rd h1 h.next 0 6) fun l=>some (1,l))=_
  have:H.rd h1 h.next 0 6=some (flO (flw p code name n)):=by
   show ob (ob (h1.blk h.next) _) _=_
   rw [bl,if_pos rfl]
   rfl
  rw [this]
  rfl
 have g1:GL 6 h1 v (flL fl):=gl.mono (by omega) fun b m q lt=>old b lt
 have fll:=mz fl
 obtain⟨v',h2,ea,g2,n2,fr⟩:=g1.appendG (bytes:=64) src (by decide) rfl rfl (by omega) (by show(flL fl).length+6<_;omega) (fun k hk=>by rw [fll]at hk;omega) (by decide)
 have gb:∀b m,v= .sl b 0 m 0 false 6→∃tr up,h1.blk b=some (.cells (m*6) tr up false):=fun b m q=>by
  subst q
  cases g1 with
  |full hb hc hn hl at_ lt=>subst hc;exact⟨_,_,hb⟩
 have fr':∀j,j<h.next→(∀m tr up,h.blk j≠some (.cells (m*6) tr up false))→h2.blk j=h.blk j:=fun j hj q=>by
  rw [fr j (by omega) (fun b m e k=>?_),old j hj]
  subst k
  obtain⟨tr,up,z⟩:=gb j m e
  rw [old j hj]at z
  exact q _ _ _ z
 have f2:h2.blk 2=some (.cells 5 tr none false):=by
  rw [fr' 2 c2 (fun m tr up q=>?_),e2]
  rw [e2]at q
  have:(5:Nat)=m*6:=by injection q with q;injection q
  omega
 have ow:cellsOf v'=[v']∧cD v'=true:=by
  generalize flL fl++flO (flw p code name n)=zs at g2
  cases g2<;>exact⟨rfl,rfl⟩
 have w:=lD (j:=4) f2 ow.1 ow.2 (by decide)
 have g:∀j,(tr.put 4 (some v')).get j=if j=4 then some v' else tr.get j:=fun j=>Tr.get_put _ _ _ _ (by omega)
 have c1:CS D p (fl++[flw p code name n]) ⟨h2.t.put 2 (some (.cells 5 (tr.put 4 (some v')) none false)),h2.next⟩∧KM 0 h ⟨h2.t.put 2 (some (.cells 5 (tr.put 4 (some v')) none false)),h2.next⟩:=by
  have bl2:∀j,(⟨h2.t.put 2 (some (.cells 5 (tr.put 4 (some v')) none false)),h2.next⟩:H).blk j=if j=2 then some (.cells 5 (tr.put 4 (some v')) none false)else h2.blk j:=fun j=>fE (by omega)
  refine⟨⟨?_,⟨de,o,?_,dd⟩,⟨_,v',by rw [bl2,if_pos rfl],by rw [g];exact t0,by rw [g];exact t1,by rw [g];exact t2,by rw [g];exact t3,by rw [g];rfl,?_⟩,?_,?_⟩,KMx.k0 ⟨?_,fun j es o hj _ ej=>?_⟩⟩
  ·rw [bl2,if_neg (by decide),fr' 0 (by omega) (fun m tr up q=>by rw [c.b0]at q;cases q)]
   exact c.b0
  ·rw [bl2,if_neg (by decide),fr' 1 (by omega) (fun m tr up q=>by rw [e1]at q;cases q)]
   exact e1
  ·rw [yt]
   show GL 6 _ v' (flL fl++(flO (flw p code name n)++[]))
   rw [List.append_nil]
   refine g2.mono (Nat.le_refl _) fun b m q lt=>?_
   rw [bl2,if_neg]
   rintro rfl
   subst q
   cases g2 with
   |full hb hc hn hl at_ lt=>
    rw [f2]at hb
    have:(5:Nat)=m*6:=by injection hb with hb;injection hb
    omega
  ·show 2*(fl++[flw p code name n]).length≤h2.next
   rw [List.length_append,n2,n1]
   simp only [List.length_singleton]
   omega
  ·show 2<h2.next
   omega
  ·show h.next≤h2.next
   omega
  ·rw [bl2,if_neg (fun q=>by rw [q,e2]at ej;cases ej),fr' j hj (fun m tr up q=>by rw [ej]at q;cases q)]
   exact ej
 have o2:h1.blk 2=some (.cells 5 tr none false):=by rw [old 2 c2];exact e2
 have m0:ROp.run (.load false 1) [.ptr 2 0] h1=some (sV p.name):=dq o2 t0 (by decide)
 have m1:ROp.run (.load false 1) [.ptr 2 1] h1=some (.int .i64 p.ar):=dq o2 t1 (by decide)
 have m2:ROp.run (.load false 1) [.ptr 2 2] h1=some (.int .i64 p.cl):=dq o2 t2 (by decide)
 have m4:ROp.run (.load false 1) [.ptr 2 4] h1=some v:=dq o2 t4 (by decide)
 subst hh1
 refine cO Tryz.func50 (by decide) cf50_ok rfl rfl (cP c2) ?_
 refine bh ?_
 have hkb:=cT (show h.next<900000000 by omega)
 repeat' (show WY _ _ _ _ _ _ _ _;first
  |refine bn (by repeat' (first|exact bD.nil|refine bD.first (l0) ?_|refine bD.snd (l0) ?_|refine bD.first (l1) ?_|refine bD.snd (l1) ?_|refine bD.first (l2) ?_|refine bD.snd (l2) ?_|refine bD.first (l4) ?_|refine bD.snd (l4) ?_|refine bD.first (m0) ?_|refine bD.snd (m0) ?_|refine bD.first (m1) ?_|refine bD.snd (m1) ?_|refine bD.first (m2) ?_|refine bD.snd (m2) ?_|refine bD.first (m4) ?_|refine bD.snd (m4) ?_|refine bD.two (l0) (l1) ?_|refine bD.two (l0) (l2) ?_|refine bD.two (l0) (l4) ?_|refine bD.two (l0) (m0) ?_|refine bD.two (l0) (m1) ?_|refine bD.two (l0) (m2) ?_|refine bD.two (l0) (m4) ?_|refine bD.two (l1) (l0) ?_|refine bD.two (l1) (l2) ?_|refine bD.two (l1) (l4) ?_|refine bD.two (l1) (m0) ?_|refine bD.two (l1) (m1) ?_|refine bD.two (l1) (m2) ?_|refine bD.two (l1) (m4) ?_|refine bD.two (l2) (l0) ?_|refine bD.two (l2) (l1) ?_|refine bD.two (l2) (l4) ?_|refine bD.two (l2) (m0) ?_|refine bD.two (l2) (m1) ?_|refine bD.two (l2) (m2) ?_|refine bD.two (l2) (m4) ?_|refine bD.two (l4) (l0) ?_|refine bD.two (l4) (l1) ?_|refine bD.two (l4) (l2) ?_|refine bD.two (l4) (m0) ?_|refine bD.two (l4) (m1) ?_|refine bD.two (l4) (m2) ?_|refine bD.two (l4) (m4) ?_|refine bD.two (m0) (l0) ?_|refine bD.two (m0) (l1) ?_|refine bD.two (m0) (l2) ?_|refine bD.two (m0) (l4) ?_|refine bD.two (m0) (m1) ?_|refine bD.two (m0) (m2) ?_|refine bD.two (m0) (m4) ?_|refine bD.two (m1) (l0) ?_|refine bD.two (m1) (l1) ?_|refine bD.two (m1) (l2) ?_|refine bD.two (m1) (l4) ?_|refine bD.two (m1) (m0) ?_|refine bD.two (m1) (m2) ?_|refine bD.two (m1) (m4) ?_|refine bD.two (m2) (l0) ?_|refine bD.two (m2) (l1) ?_|refine bD.two (m2) (l2) ?_|refine bD.two (m2) (l4) ?_|refine bD.two (m2) (m0) ?_|refine bD.two (m2) (m1) ?_|refine bD.two (m2) (m4) ?_|refine bD.two (m4) (l0) ?_|refine bD.two (m4) (l1) ?_|refine bD.two (m4) (l2) ?_|refine bD.two (m4) (l4) ?_|refine bD.two (m4) (m0) ?_|refine bD.two (m4) (m1) ?_|refine bD.two (m4) (m2) ?_|refine bD.any (fun h=>rfl) ?_|refine bD.first rfl ?_)) ?_
  |refine aZ rfl rfl rfl rfl ?_|refine aK rfl rfl (l0) rfl ?_|refine aK rfl rfl (l1) rfl ?_|refine aK rfl rfl (l2) rfl ?_
  |refine aK rfl rfl (l4) rfl ?_|refine aS rfl rfl (ea) rfl ?_|refine aS rfl rfl (w) rfl ?_
  |refine WY.a rfl rfl rfl RA rfl ?_|fail)
 refine⟨.inl rfl,_,rfl,c1.2.le,rfl,c1.1,c1.2,by show h2.next=_;rw [n2],fun j tr2 hj ej=>?_⟩
 rw [fE (show 2<bP by omega),if_neg (fun q=>by
  rw [q,e2]at ej
  have:(5:Nat)=4:=by injection ej with ej;injection ej
  omega),fr' j hj (fun m tr up q=>by
  rw [ej]at q
  have:(4:Nat)=m*6:=by injection q with q;injection q
  omega)]
 exact ej
section
variable [Env]
set_option linter.unusedSectionVars false
theorem sw{g:G}{h:H}{w:World}(r:WR TP g h w){k:Nat}{es:List (V×V)}{o:Bool}(hb:h.blk k=some (.map es o))(hn:Nat.blt h.next bP=true){us:List Value}(hv:VRs g [.map k] us):Calls Tryz.prog 103 us.toArray w fun e w'=>∃g' u,e= .returned u∧VR g' (.map h.next) u∧Ext TP g h w g' ⟨h.t.put h.next (some (.map es o)),Nat.succ h.next⟩ w':=by
 cases hv with
 |cons h1 t1=>
 cases t1 with
 |nil=>
 cases h1
 rename_i b o' z hg
 obtain⟨b',o2,z',m,c,q1,q2,q3,q4⟩:=r.blk k _ _ hg hb
 rw [hg]at q1
 cases q1
 have hnew:=da w (.map m c)
 have hnone:g h.next=none:=by
  cases q:g h.next with
  |none=>rfl
  |some y=>exact absurd (r.dom _ _ q) (by omega)
 have en:h.new (.map es o)=some ⟨h.t.put h.next (some (.map es o)),Nat.succ h.next⟩:=by
  show oif (Nat.blt h.next bP) _=_
  rw [hn]
  rfl
 have x:=Ext.new (z:=0) r (o:= .map m c) en (.inl rfl) ⟨w.heap.size,0,0,m,c,cg _ _ _,hnew,q3.mono (eR _ hnone),q4⟩
 refine(AnyW.maps_Clone Tryz.cloneM b m c w q2).mono ?_
 rintro e w' ⟨rfl,rfl⟩
 exact⟨_,_,rfl,.map (cg _ _ _),x⟩
end
theorem zT{h:H}{k:Nat}{es:List (V×V)}{o:Bool}(hb:h.blk k=some (.map es o))(hn:Nat.blt h.next bP=true):Con Tryz.prog TP noM 103 [.map k] h (.map h.next) ⟨h.t.put h.next (some (.map es o)),Nat.succ h.next⟩:=by
 refine⟨fun E g w us s hu=>⟨_,Tryz.func103,by decide,rfl,callsIn_wide.2 ((@sw E g h w s.wr k es o hb hn us hu).mono ?_)⟩⟩
 rintro e w' ⟨g',u,q1,q2,q3⟩
 exact⟨E,g',u,q1,q2,fT.of s q3⟩
theorem f103{D:Df}{p:Pl}{fl:List Fl}{h:H}(c:CS D p fl h){k:Nat}{s:Sc}(sc:Sco h k s)(hk:h.next<900000000):∃h',Con Tryz.prog TP noM 103 [.map k] h (.map h.next) h'∧CS D p fl h'∧Sco h' h.next s∧KM 0 h h'∧h'.next=h.next+1:=by
 obtain⟨o,e⟩:=sc.out
 obtain⟨q1,q2,q3⟩:=c.newmap hk s o sc.nd
 exact⟨_,zT e (cT hk),q1,q2,q3,rfl⟩
theorem AR{tr:Tr V}{n:Nat}:∀(l:List V) (off:Nat),off+l.length≤n→(∀j v,l[j]? =some v→tr.get (off+j)=some v)→ku tr n l.length off=some l
 |[],off,_,_=>rfl
 |v ::l,off,h,k=>by
  rw [List.length_cons]at h
  show oif (Nat.blt off n) (ob (tr.get off) fun v=>ob (ku tr n l.length (Nat.succ off)) fun r=>some (v ::r))=_
  rw [ltb (by omega),show tr.get off=some v from k 0 v rfl,AR l (off+1) (by omega) fun j v e=>by
   rw [show off+1+j=off+(j+1) by omega]
   exact k (j+1) v (by simpa using e)]
  rfl
theorem CS.slot{D:Df}{p:Pl}{fl:List Fl}{h:H}(c:CS D p fl h)(hk:h.next<900000000)(zero xs:List V)(hl:xs.length=zero.length)(hz:zero.length≤1000)(ho:cK xs=true):
  ∃h2 tr,EOp.run (.store zero.length) [.ptr h.next 0,.agg xs] ⟨h.t.put h.next (some (.cells zero.length (cE zero 0 .e) none false)),Nat.succ h.next⟩=some (cF,h2)∧CS D p fl h2∧KM 0 h h2∧h2.next=h.next+1∧h2.blk h.next=some (.cells zero.length tr none false)∧(∀j v,xs[j]? =some v→tr.get j=some v)∧∀j,j<h.next→h2.blk j=h.blk j:=by
 have hkeys:900000002<bP:=by unfold bP;omega
 have bl:∀j,(⟨h.t.put h.next (some (.cells zero.length (cE zero 0 .e) none false)),Nat.succ h.next⟩:H).blk j=if j=h.next then some (.cells zero.length (cE zero 0 .e) none false)else h.blk j:=fun j=>fE (by omega)
 obtain⟨h2,w1,w2,w3,tr,w4,w5⟩:=lC (id:=h.next) (n:=zero.length) (by omega) (by omega) xs 0 ⟨h.t.put h.next (some (.cells zero.length (cE zero 0 .e) none false)),Nat.succ h.next⟩ _ (by rw [bl,if_pos rfl]) ho (by omega)
 have old:∀j,j<h.next→h2.blk j=h.blk j:=fun j hj=>by rw [w3 j (by omega),bl,if_neg (by omega)]
 have nx:h2.next=h.next+1:=w2
 refine⟨h2,tr,?_,c.mono (by omega) fun j hj _=>old j hj,KMx.k0 ⟨by omega,fun j es o hj _ e=>by rw [old j hj];exact e⟩,nx,w4,fun j v e=>?_,old⟩
 ·show oif (Nat.beq (bU xs) zero.length) (ob (H.wr h.next xs 0 _) fun h=>some (cF,h))=_
  rw [@bS noE,hl,Nat.beq_refl,w1]
  rfl
 ·have hj:=(List.getElem?_eq_some_iff.1 e).1
  rw [w5,if_pos (by omega),Nat.sub_zero]
  exact e
theorem Bc{h:H}{id n:Nat}{tr:Tr V}{up:Option (Nat×Nat)}{ch:Bool}{xs:List V}(hb:h.blk id=some (.cells n tr up ch))(hl:xs.length=n)(hv:∀j v,xs[j]? =some v→tr.get j=some v):ROp.run (.load true n) [.ptr id 0] h=some (.agg xs):=by
 show ob (ob (ob (h.blk id) _) _) _=_
 rw [hb]
 show ob (ku tr n n 0) _=_
 have:=AR (tr:=tr) (n:=n) xs 0 (by omega) fun j v e=>by rw [Nat.zero_add];exact hv j v e
 rw [hl]at this
 rw [this]
 rfl
end
section
noncomputable def B6:Nat:=Classical.choose (⟨6000001,rfl⟩:∃n:Nat,n=6000001)
theorem yQ:B6=6000001:=Classical.choose_spec (⟨6000001,rfl⟩:∃n:Nat,n=6000001)
theorem oY:B6≤6000001:=Nat.le_of_eq yQ
theorem rl{n:Nat}(h:n≤6000000):n<B6:=by rw [yQ];omega
def cj{σ:Type}(f:Nat→σ→σ)(s:σ):Nat→σ
 |0=>s
 |i+1=>f i (cj f s i)
noncomputable section
def ra(g:Sg):Bool:=rb 36 [.agg (sgO g)]
def iO(g:Sg)(s:Sc):Sc:=if(ra g && !eqI g.type 4)&&eqI g.val.kind 3 then oS s g.val.name else s
def iI:Nat→Ex→Sc→Sc
 |0,_,s=>s
 |n+1,x,s=>if eqI x.kind 3 then oS s x.name else if eqI x.kind 5||eqI x.kind 7 then cj (fun i s=>iI n (bW x.items i) s) s x.items.length else if eqI x.kind 8 then cj (fun i s=>iO (ce x.segs i) s) s x.segs.length else s
def Aj(p:Pl)(x:Ex)(s:Sc)(fl:List Fl):List Fl:=if eqI (kZ s x.name) 0 then fl++[flw p 7 x.name 0]else fl
end
structure Gf(D:Df)(p:Pl)(fl:List Fl)(h0 h:H)(n:Nat):Prop where
 cs:CS D p fl h
 km:KM 0 h0 h
 nx:h.next≤h0.next+n
structure Gs(D:Df)(p:Pl)(fl:List Fl)(k:Nat)(s:Sc)(h0 h:H)(n:Nat):Prop where
 cs:CS D p fl h
 so:Sco h k s
 km:KM k h0 h
 nx:h.next≤h0.next+n
section
variable {D:Df} {p:Pl} {fl fl':List Fl} {k:Nat} {s s':Sc} {a b c:H} {n m:Nat}
theorem Gf.refl(x:CS D p fl a):Gf D p fl a a 0:=⟨x,.refl a,Nat.le_refl _⟩
theorem Gf.trans(x:Gf D p fl a b n)(y:Gf D p fl' b c m):Gf D p fl' a c (n+m):=⟨y.cs,x.km.trans y.km,by have:=x.nx;have:=y.nx;omega⟩
theorem Gf.up(x:Gf D p fl a b n)(h:n≤m):Gf D p fl a b m:=⟨x.cs,x.km,Nat.le_trans x.nx (Nat.add_le_add_left h _)⟩
theorem Gf.eq(x:Gf D p fl a b n)(e:fl'=fl):Gf D p fl' a b n:=e▸x
theorem Gs.refl(x:CS D p fl a)(y:Sco a k s):Gs D p fl k s a a 0:=⟨x,y,.refl a,Nat.le_refl _⟩
theorem Gs.trans(x:Gs D p fl k s a b n)(y:Gs D p fl' k s' b c m):Gs D p fl' k s' a c (n+m):=⟨y.cs,y.so,x.km.trans y.km,by have:=x.nx;have:=y.nx;omega⟩
theorem Gs.up(x:Gs D p fl k s a b n)(h:n≤m):Gs D p fl k s a b m:=⟨x.cs,x.so,x.km,Nat.le_trans x.nx (Nat.add_le_add_left h _)⟩
theorem Gs.eq(x:Gs D p fl k s a b n)(e1:fl'=fl)(e2:s'=s):Gs D p fl' k s' a b n:=e1▸e2▸x
theorem Gf.gs(x:Gf D p fl' a b n)(y:CS D p fl a)(z:Sco a k s):Gs D p fl' k s a b n:=⟨x.cs,z.km0 x.km,x.km.to y.b0 z.hi,x.nx⟩
end
section
variable {D:Df} {p:Pl} {fl:List Fl} {k:Nat} {sc:Sc} {h:H}
theorem f102(c:CS D p fl h)(so:Sco h k sc)(hk:h.next+2<300000000)(x:Ex):∃h',Con Tryz.prog TP noM 102 [.ptr 2 0,.agg (exO x),.map k] h (.tup []) h'∧Gf D p (Aj p x sc fl) h h' 2:=by
 have lk:=so.look x.name
 obtain⟨h1,c1,q1,q2,q3,_⟩:=f50 c hk 7 0 x.name
 have g1:Gf D p (fl++[flw p 7 x.name 0]) h h1 2:=⟨q1,q2,by omega⟩
 have g0:Gf D p fl h h 2:=(Gf.refl c).up (by omega)
 refine cO Tryz.func102 (by decide) cf102_ok rfl rfl (cP c.le) ?_
 repeat' (first
  |(refine WLg.mk ?_;first
  |refine aa rfl rfl rfl rfl ?_|refine ab rfl rfl lk rfl ?_|refine ab rfl rfl rfl rfl ?_
  |refine az rfl rfl RA rfl PB rfl ?_
  |refine am rfl rfl rfl (c1) (fun _ _ q=>q) .none rfl ?_)
  |refine ah ?_|refine ac rfl ?_|refine ai ?_|refine ae ?_|refine al ?_|refine ak rfl (fun ht=>?_) (fun ht=>?_)
  |refine bE.norm ?_|fail)
 all_goals first
  |exact⟨.inl rfl,_,rfl,g1.km.le,rfl,g1.eq (by simp [Aj, *])⟩
  |exact⟨.inl rfl,_,rfl,g0.km.le,rfl,g0.eq (by simp [Aj, *])⟩
noncomputable section
def fr101(x:Ex)(k i:Nat):AL:=[(1,.map k),(21,.lst x.items.length 11 (exL x.items)),(22,.int .i64 (Int.ofNat x.items.length)),(23,.int .i64 (Int.ofNat i))]
def fr101g(l:List V)(n k i:Nat):AL:=[(1,.map k),(34,.lst n 27 l),(35,.int .i64 (Int.ofNat n)),(36,.int .i64 (Int.ofNat i))]
end
def BD(t:Nat):Prop:=∀x,bF (exO x)<t→∀{D:Df} {p:Pl} {fl:List Fl} {k:Nat} {sc:Sc} {h:H},CS D p fl h→Sco h k sc→h.next<300000000→∃h',Con Tryz.prog TP noM 101 [.agg (exO x),.map k] h (.tup []) h'∧Gs D p fl k (iI t x sc) h h' 0
set_option maxHeartbeats 800000 in
theorem zX{t:Nat}(ht6:t≤6000000)(B:BD t):BD (t+1):=by
 intro x hx D p fl k sc h c so hk
 have hsz:=dL x
 have np:=cP c.le
 have hn:=dt x.items
 have hn2:=iQ x.segs
 have lk:=so.look x.name
 obtain⟨h1,mu,q1,q2,q3,q4⟩:=c.bump so (by omega) x.name
 have g1:Gs D p fl k (oS sc x.name) h h1 0:=⟨q1,q2,q3,by omega⟩
 have g0:=Gs.refl c so
 refine cO Tryz.func101 (by decide) cf101_ok rfl rfl np ?_
 repeat' (first
  |(refine WLg.mk ?_;first
  |refine aa rfl rfl rfl rfl ?_|refine ab rfl rfl lk rfl ?_|refine ab rfl rfl rfl rfl ?_
  |refine az rfl rfl RA rfl PB rfl ?_
  |refine aD rfl rfl mu rfl ?_)
  |refine ah ?_|refine ac rfl ?_|refine ai ?_|refine ae ?_|refine aj ?_|refine al ?_
  |refine ak rfl (fun ht=>?_) (fun ht=>(Bool.false_ne_true (ht.symm.trans (by with_reducible assumption))).elim)
  |refine ak rfl (fun ht=>?_) (fun ht=>?_)|refine bE.norm ?_|fail)
 ·exact⟨.inl rfl,_,rfl,g1.km.le,rfl,g1.eq rfl (by simp [iI, *])⟩
 ·refine av (bR (l:=fr101 x k 0) KH) ?_
  refine aw x.items.length (fun i l h1=>l=fr101 x k i∧Gs D p fl k (cj (fun i s=>iI t (bW x.items i) s) sc i) h h1 0) ?_ (i:=0) (Nat.zero_le _) ⟨rfl,g0⟩
  clear mu q1 q2 q3 q4 g1 lk
  rintro i _ ha hi ⟨rfl,ga⟩
  have hi2:i<9223372036854775807:=by omega
  have hnx:=ga.nx
  cases q:ltI (Int.ofNat i) (Int.ofNat x.items.length)with
  |false=>
   have hie:i=x.items.length:=by have:=ci q;omega
   repeat' (first
    |(refine WLg.mk ?_;first
    |refine aa rfl rfl rfl rfl ?_)
    |refine ah ?_|refine ac rfl ?_|refine ai ?_|refine ae ?_
    |refine ak rfl (fun ht=>(Bool.false_ne_true ((show _=false by with_reducible assumption).symm.trans ht)).elim) (fun ht=>?_)
    |refine au ?_|refine bE.norm ?_|refine bE.exit ?_|refine OnC.exit ?_|fail)
   exact⟨.inl rfl,_,rfl,ga.km.le,rfl,(hie▸ga).eq rfl (by simp [iI, *])⟩
  |true=>
   have hlt:=bK q
   have hle:=sk q
   have hka:ha.next<900000000:=by omega
   have pp:∀v,v∈exO (bW x.items i)→bN v:=fun v hv=>(dc _ v hv).x
   obtain⟨hu,cu,gu⟩:=B (bW x.items i) (by omega) ga.cs ga.so (by omega)
   repeat' (first
    |(refine WLg.mk ?_;first
    |refine aa rfl rfl rfl rfl ?_|refine aa rfl rfl (bM Hy) rfl ?_
    |refine ab rfl rfl (show ROp.run (.load true 11) [.eptr (exO (bW x.items i)) 0] _=some (.agg (exO (bW x.items i)))from rfl) rfl ?_
    |refine ab rfl rfl (dv Hy) rfl ?_|refine aA rfl rfl (cT hka) rfl rfl rfl rfl rfl rfl rfl rfl pp rfl rfl ?_
    |refine am rfl rfl rfl (cu) (fun _ _ q=>q) .none rfl ?_)
    |refine ah ?_|refine ac rfl ?_|refine ai ?_|refine ae ?_|refine aj ?_|refine al ?_
    |refine ak rfl (fun ht=>?_) (fun ht=>(Bool.false_ne_true (ht.symm.trans (by with_reducible assumption))).elim)
    |refine bE.norm ?_|fail)
   exact .norm ⟨_,_,bR KH,hlt,rfl,ga.trans gu⟩
 ·refine av (bR (l:=fr101 x k 0) KH) ?_
  refine aw x.items.length (fun i l h1=>l=fr101 x k i∧Gs D p fl k (cj (fun i s=>iI t (bW x.items i) s) sc i) h h1 0) ?_ (i:=0) (Nat.zero_le _) ⟨rfl,g0⟩
  clear mu q1 q2 q3 q4 g1 lk
  rintro i _ ha hi ⟨rfl,ga⟩
  have hi2:i<9223372036854775807:=by omega
  have hnx:=ga.nx
  cases q:ltI (Int.ofNat i) (Int.ofNat x.items.length)with
  |false=>
   have hie:i=x.items.length:=by have:=ci q;omega
   repeat' (first
    |(refine WLg.mk ?_;first
    |refine aa rfl rfl rfl rfl ?_)
    |refine ah ?_|refine ac rfl ?_|refine ai ?_|refine ae ?_
    |refine ak rfl (fun ht=>(Bool.false_ne_true ((show _=false by with_reducible assumption).symm.trans ht)).elim) (fun ht=>?_)
    |refine au ?_|refine bE.norm ?_|refine bE.exit ?_|refine OnC.exit ?_|fail)
   exact⟨.inl rfl,_,rfl,ga.km.le,rfl,(hie▸ga).eq rfl (by simp [iI, *])⟩
  |true=>
   have hlt:=bK q
   have hle:=sk q
   have hka:ha.next<900000000:=by omega
   have pp:∀v,v∈exO (bW x.items i)→bN v:=fun v hv=>(dc _ v hv).x
   obtain⟨hu,cu,gu⟩:=B (bW x.items i) (by omega) ga.cs ga.so (by omega)
   repeat' (first
    |(refine WLg.mk ?_;first
    |refine aa rfl rfl rfl rfl ?_|refine aa rfl rfl (bM Hy) rfl ?_
    |refine ab rfl rfl (show ROp.run (.load true 11) [.eptr (exO (bW x.items i)) 0] _=some (.agg (exO (bW x.items i)))from rfl) rfl ?_
    |refine ab rfl rfl (dv Hy) rfl ?_|refine aA rfl rfl (cT hka) rfl rfl rfl rfl rfl rfl rfl rfl pp rfl rfl ?_
    |refine am rfl rfl rfl (cu) (fun _ _ q=>q) .none rfl ?_)
    |refine ah ?_|refine ac rfl ?_|refine ai ?_|refine ae ?_|refine aj ?_|refine al ?_
    |refine ak rfl (fun ht=>?_) (fun ht=>(Bool.false_ne_true (ht.symm.trans (by with_reducible assumption))).elim)
    |refine bE.norm ?_|fail)
   exact .norm ⟨_,_,bR KH,hlt,rfl,ga.trans gu⟩
 ·refine av (bR (l:=fr101g (sgL x.segs) x.segs.length k 0) KH) ?_
  refine aw x.segs.length (fun i l h1=>l=fr101g (sgL x.segs) x.segs.length k i∧Gs D p fl k (cj (fun i s=>iO (ce x.segs i) s) sc i) h h1 0) ?_ (i:=0) (Nat.zero_le _) ⟨rfl,g0⟩
  clear mu q1 q2 q3 q4 g1 lk
  rintro i _ ha hi ⟨rfl,ga⟩
  have hi2:i<9223372036854775807:=by omega
  have hnx:=ga.nx
  cases q:ltI (Int.ofNat i) (Int.ofNat x.segs.length)with
  |false=>
   have hie:i=x.segs.length:=by have:=ci q;omega
   repeat' (first
    |(refine WLg.mk ?_;first
    |refine aa rfl rfl rfl rfl ?_)
    |refine ah ?_|refine ac rfl ?_|refine ai ?_|refine ae ?_
    |refine ak rfl (fun ht=>(Bool.false_ne_true ((show _=false by with_reducible assumption).symm.trans ht)).elim) (fun ht=>?_)
    |refine au ?_|refine bE.norm ?_|refine bE.exit ?_|refine OnC.exit ?_|fail)
   exact⟨.inl rfl,_,rfl,ga.km.le,rfl,(hie▸ga).eq rfl (by simp [iI, *])⟩
  |true=>
   have hlt:=bK q
   have hka:ha.next<900000000:=by omega
   have pp:∀v,v∈sgO (ce x.segs i)→bN v:=fun v hv=>(gf _ v hv).x
   have c36:=f36 (ce x.segs i)
   have lk:=ga.so.look (ce x.segs i).val.name
   obtain⟨hu,mu,q1,q2,q3,q4⟩:=ga.cs.bump ga.so (by omega) (ce x.segs i).val.name
   have gu:Gs D p fl k (oS _ (ce x.segs i).val.name) ha hu 0:=⟨q1,q2,q3,by omega⟩
   repeat' (first
    |(refine WLg.mk ?_;first
    |refine aa rfl rfl rfl rfl ?_|refine aa rfl rfl (bM Hy) rfl ?_
    |refine ab rfl rfl (show ROp.run (.load true 27) [.eptr (sgO (ce x.segs i)) 0] _=some (.agg (sgO (ce x.segs i)))from rfl) rfl ?_
    |refine ab rfl rfl lk rfl ?_|refine ab rfl rfl rfl rfl ?_|refine ab rfl rfl (gq Hy) rfl ?_
    |refine aA rfl rfl (cT hka) rfl rfl rfl rfl rfl rfl rfl rfl pp rfl rfl ?_|refine aq rfl rfl rfl (c36) rfl ?_
    |refine aD rfl rfl mu rfl ?_)
    |refine ah ?_|refine ac rfl ?_|refine ax rfl rfl ?_|refine ay rfl (fun ht=>?_) (fun ht=>?_)|refine ai ?_
    |refine ae ?_|refine aj ?_|refine al ?_|refine aB rfl ?_
    |refine ak rfl (fun ht=>?_) (fun ht=>(Bool.false_ne_true (ht.symm.trans (by with_reducible assumption))).elim)
    |refine ak rfl (fun ht=>?_) (fun ht=>?_)|refine bE.norm ?_|fail)
   all_goals first
    |exact .norm ⟨_,_,bR KH,hlt,rfl,(ga.trans gu).eq rfl (by simp [cj,iO,ra, *])⟩
    |exact .norm ⟨_,_,bR KH,hlt,rfl,ga.eq rfl (by simp [cj,iO,ra, *])⟩
 ·exact⟨.inl rfl,_,rfl,g0.km.le,rfl,g0.eq rfl (by simp [iI, *])⟩
theorem nC:∀t,t≤6000001→BD t
 |0,_=>fun x hx=>by omega
 |t+1,hs=>zX (by omega) (nC t (by omega))
end
end
end Ev
end Go.Proofs.YtdfphfdnoobikaaGreatDoor
