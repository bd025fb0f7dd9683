/-
  The finder:clauses.
-/
import Derived.Test.YtdfphfdnoobikaaGreatDoorLtFind1
namespace Go.Proofs.YtdfphfdnoobikaaGreatDoor
namespace Ev
section
theorem IvK.fd{es:List (V×V)}{h0 h:H}{k n:Nat}(i:IvK es h0 k h)(hn:h.next<=h0.next+n):Fd es h0 h n:=⟨i.fs,⟨by have:=i.lt;have:=i.lek;omega,i.kb⟩,hn⟩
theorem FsI.own{es:List (V×V)}{h:H}(fs:FsI es h)(hk:h.next<900000000){sc:V}(hsc:Scp sc):∃h2,EOp.run (.store 1) [.ptr h.next 0,sc] ⟨h.t.put h.next (some (bxB .nilf)),Nat.succ h.next⟩=some (cG,h2)/\IvK es h h.next h2/\h2.next=h.next+1:=by
 have hkeys:900000002<bR:=by unfold bR;omega
 have hw:cellsOf sc=[sc]/\cE sc=true:=by
  obtain⟨f,a,b,rfl⟩:=hsc.fn;exact⟨rfl,rfl⟩
 have e0:(⟨h.t.put h.next (some (bxB .nilf)),Nat.succ h.next⟩:H).blk h.next=some (.cells 1 (cq [.nilf] 0 .e) none false):=by
  rw [fy (by omega),if_pos rfl];rfl
 refine⟨_,lB e0 hw.1 hw.2 (by decide),IvK.new (tr:=(cq [.nilf] 0 .e).put 0 (some sc)) fs hsc rfl (λj hj=>?_) ?_ ?_,rfl⟩
 ·rw [fy (by omega),if_neg (by omega)]
  show(⟨h.t.put h.next (some (bxB .nilf)),h.next⟩:H).blk j=_;rw [fy (by omega),if_neg (by omega)]
 ·rw [fy (by omega),if_pos rfl]
 ·rw [Tr.get_put _ _ _ _ (by omega),if_pos rfl]
noncomputable section
def fr199(sc:V)(l:List Cl)(i:Nat):AL:=[(0,.ptr 2 0),(2,sc),(11,.lst l.length 4 (clL l)),(12,.int .i64 (Int.ofNat l.length)),(13,.int .i64 (Int.ofNat i))]
def fr199i(sc own:V)(l:List Cl)(i j:Nat):AL:=[(0,.ptr 2 0),(2,sc),(7,.eptr (clO (bM l i)) 0),(8,own),(11,.lst l.length 4 (clL l)),(12,.int .i64 (Int.ofNat l.length)),(13,.int .i64 (Int.ofNat i)),
 (19,.lst (bM l i).pats.length 11 (exL (bM l i).pats)),(20,.int .i64 (Int.ofNat (bM l i).pats.length)),(21,.int .i64 (Int.ofNat j))]
def fr166(sc:V)(l:List Cl)(i:Nat):AL:=[(2,sc),(3,fB),(13,.lst l.length 4 (clL l)),(14,.int .i64 (Int.ofNat l.length)),(15,.int .i64 (Int.ofNat i))]
def fr166a(sc:V)(k:Nat)(l:List Cl)(i j:Nat):AL:=[(2,sc),(3,fB),(7,.eptr (clO (bM l i)) 0),(8,.ptr k 0),(13,.lst l.length 4 (clL l)),(14,.int .i64 (Int.ofNat l.length)),(15,.int .i64 (Int.ofNat i)),
 (21,.lst (bM l i).pats.length 11 (exL (bM l i).pats)),(22,.int .i64 (Int.ofNat (bM l i).pats.length)),(23,.int .i64 (Int.ofNat j))]
def fr166b(sc:V)(k:Nat)(l:List Cl)(i j:Nat):AL:=[(2,sc),(3,fB),(7,.eptr (clO (bM l i)) 0),(8,.ptr k 0),(13,.lst l.length 4 (clL l)),(14,.int .i64 (Int.ofNat l.length)),(15,.int .i64 (Int.ofNat i)),
 (32,.lst (bM l i).pats.length 11 (exL (bM l i).pats)),(33,.int .i64 (Int.ofNat (bM l i).pats.length)),(34,.int .i64 (Int.ofNat j))]
end
section
variable {es:List (V×V)} {s:Nat}
set_option maxHeartbeats 800000 in
theorem f199(E:SE es s)(hs6:s<=6000001){l:List Cl}(hl:bH (clL l)<s){h:H}{sc:V}(fs:FsI es h)(hsc:Scp sc)(hb:h.next+12*bH (clL l)<900000000):∃h',CN 199 [.ptr 2 0,.lst l.length 4 (clL l),sc] h (.tup []) h'/\Fd es h h' (12*bH (clL l)):=by
 have hn:=eT l;have np:=cR fs.le;refine cP Tryz.func199 (by decide) Hj.2 rfl rfl np ?_
 repeat' (first
  |(refine WLg.mk ?_;first
  |refine aa rfl rfl rfl rfl ?_)|apply ac|refine ae rfl ?_|apply ai|apply ah|apply aj|apply bG.norm|fail)
 refine aw (bU (l:=fr199 sc l 0) KH) ?_;refine ax l.length (λk x h1=>x=fr199 sc l k/\Fd es h h1 (12*bH (clL (l.take k)))) ?_ (i:=0) (Nat.zero_le _) ⟨rfl,(Fd.refl fs).up (Nat.zero_le _)⟩;rintro k _ ha hk2 ⟨rfl,fa⟩;have hi2:k<9223372036854775807:=by omega
 have hnx:=fa.nx;cases q:Nat.blt k l.length with
 |false=>
  have hke:k=l.length:=by have:=ce q;omega
  repeat' (first
   |(refine WLg.mk ?_;first
   |refine aa rfl rfl rfl rfl ?_|refine aa rfl rfl (bN Hy) rfl ?_)|apply ac|refine ae rfl ?_|apply ai|apply ah|apply aj|apply al|refine ak rfl (λht=>?_) (λht=>?_)|apply av|apply bG.norm|apply bG.exit|apply OnC.exit|fail)
  any_goals (first|exact absurd (q.symm.trans (show Nat.blt k l.length=true by assumption)) (by decide)|skip)
  rw [hke,List.take_length]at fa;exact⟨.inl rfl,_,rfl,fa.kb.le,rfl,fa⟩
 |true=>
  have hlt:=bL q;have hpre:=mD hlt;have hle:=kB l (k+1);have hcs:=fJ (bM l k);have hpn:=dy (bM l k).pats;have hka:ha.next<900000000:=by omega
  have pp:∀v,v∈clO (bM l k)->bP v:=λv hv=>(gz _ v hv).x
  repeat' (first
   |(refine WLg.mk ?_;first
   |refine aa rfl rfl rfl rfl ?_|refine aa rfl rfl (bN Hy) rfl ?_|refine ab rfl rfl rfl rfl ?_|refine ab rfl rfl (gj Hy) rfl ?_|refine aC rfl rfl (cW hka) rfl rfl rfl rfl rfl rfl rfl rfl pp rfl rfl ?_)|apply ac|refine ae rfl ?_|apply ai|apply ah|apply aj|apply al|refine ak rfl (λht=>?_) (λht=>?_)|apply av|apply bG.norm|apply bG.exit|apply OnC.exit|fail)
  any_goals (first|exact absurd (q.symm.trans (show Nat.blt k l.length=false by assumption)) (by decide)|skip)
  refine aw (bU (l:=fr199i sc sc l k 0) KH) ?_;refine ax (bM l k).pats.length (λj x h1=>∃own,Scp own/\x=fr199i sc own l k j/\Fd es h h1 (12*bH (clL (l.take k))+12*bH (exL ((bM l k).pats.take j)))) ?_ (i:=0) (Nat.zero_le _) ⟨sc,hsc,rfl,fa.up (Nat.le_add_right _ _)⟩;clear fa hnx q hka pp;rintro j _ hd hj2 ⟨own,hown,rfl,fd⟩;have hj3:j<9223372036854775807:=by omega
  have hnd:=fd.nx;cases qn:Nat.blt j (bM l k).pats.length with
  |false=>
   have hje:j=(bM l k).pats.length:=by have:=ce qn;omega
   rw [hje,List.take_length]at fd hnd;obtain⟨hv,cv,fv⟩:=f178 E hs6 (c:=bM l k) (by omega) fd.fs hown (by omega);have f1:Fd es h hv (12*bH (clL (l.take (k+1)))):=(fd.trans fv).up (by omega)
   repeat' (first
    |(refine WLg.mk ?_;first
    |refine aa rfl rfl rfl rfl ?_|refine aa rfl rfl (bN Hy) rfl ?_|refine ab rfl rfl (show ROp.run (.load true 4) [.eptr (clO (bM l k)) 0] _=some (.agg (clO (bM l k)))from rfl) rfl ?_|refine au rfl rfl rfl (cv) (λ_ _ q=>q) .none rfl ?_)|apply ac|refine ae rfl ?_|apply ai|apply ah|apply aj|apply al|refine ak rfl (λht=>?_) (λht=>?_)|apply av|apply bG.norm|apply bG.exit|apply OnC.exit|fail)
   all_goals first
    |exact .norm ⟨_,_,bU KH,hlt,rfl,f1⟩|exact absurd (qn.symm.trans (show Nat.blt j (bM l k).pats.length=true by assumption)) (by decide)
  |true=>
   have hltj:=bL qn;have hprj:=fO hltj;have hlej:=eu (bM l k).pats (j+1);have hka:hd.next<900000000:=by omega
   have h11:=iK (bW (bM l k).pats j);obtain⟨ow2,hu,how2,cu,fu⟩:=f201 (x:=bW (bM l k).pats j) fd.fs hown (by omega) (by omega);have f1:Fd es h hu (12*bH (clL (l.take k))+12*bH (exL ((bM l k).pats.take (j+1)))):=(fd.trans fu).up (by omega);have pp:∀v,v∈exO (bW (bM l k).pats j)->bP v:=λv hv=>(cZ _ v hv).x
   repeat' (first
    |(refine WLg.mk ?_;first
    |refine aa rfl rfl rfl rfl ?_|refine aa rfl rfl (bN Hy) rfl ?_|refine ab rfl rfl (show ROp.run (.load true 11) [.eptr (exO (bW (bM l k).pats j)) 0] _=some (.agg (exO (bW (bM l k).pats j)))from rfl) rfl ?_|refine ab rfl rfl rfl rfl ?_|refine ab rfl rfl (dA Hy) rfl ?_|refine aC rfl rfl (cW hka) rfl rfl rfl rfl rfl rfl rfl rfl pp rfl rfl ?_|refine au rfl rfl rfl (cu) (λ_ _ q=>q) .none rfl ?_)|apply ac|refine ae rfl ?_|apply ai|apply ah|apply aj|apply al|refine ak rfl (λht=>?_) (λht=>?_)|apply av|apply bG.norm|apply bG.exit|apply OnC.exit|fail)
   all_goals first
    |exact .norm ⟨_,_,bU KH,hltj,ow2,how2,rfl,f1⟩|exact absurd (qn.symm.trans (show Nat.blt j (bM l k).pats.length=false by assumption)) (by decide)
set_option maxHeartbeats 1600000 in
theorem f166(E:SE es s)(hs6:s<=6000001){l:List Cl}(hl:bH (clL l)<s){h:H}{sc:V}(fs:FsI es h)(hsc:Scp sc)(hb:h.next+12*bH (clL l)<900000000):∃h',CN 166 [.ptr 2 0,.lst l.length 4 (clL l),sc] h (.tup []) h'/\Fd es h h' (12*bH (clL l)):=by
 have hn:=eT l;have np:=cR fs.le;have b2:dg (λid=>id=h.next) (.ptr 2 0):=eI λq=>by have:=fs.le;omega
 refine cP Tryz.func166 (by decide) HC.2 rfl rfl np ?_
 repeat' (first
  |(refine WLg.mk ?_;first
  |refine aa rfl rfl rfl rfl ?_|refine aN (x:= .ptr 2 0) rfl rfl rfl rfl b2 rfl ?_)|apply ac|refine ae rfl ?_|apply ai|apply ah|apply aj|apply bG.norm|fail)
 refine aw (bU (l:=fr166 sc l 0) KH) ?_;refine ax l.length (λk x h1=>x=fr166 sc l k/\Fd es h h1 (12*bH (clL (l.take k)))) ?_ (i:=0) (Nat.zero_le _) ⟨rfl,(Fd.refl fs).up (Nat.zero_le _)⟩;rintro k _ ha hk2 ⟨rfl,fa⟩;have hi2:k<9223372036854775807:=by omega
 have hnx:=fa.nx;cases q:Nat.blt k l.length with
 |false=>
  have hke:k=l.length:=by have:=ce q;omega
  repeat' (first
   |(refine WLg.mk ?_;first
   |refine aa rfl rfl rfl rfl ?_|refine aa rfl rfl (bN Hy) rfl ?_)|apply ac|refine ae rfl ?_|apply ai|apply ah|apply aj|apply al|refine ak rfl (λht=>?_) (λht=>?_)|apply av|apply bG.norm|apply bG.exit|apply OnC.exit|fail)
  any_goals (first|exact absurd (q.symm.trans (show Nat.blt k l.length=true by assumption)) (by decide)|skip)
  rw [hke,List.take_length]at fa;exact⟨.inl rfl,_,rfl,fa.kb.le,rfl,fa⟩
 |true=>
  have hlt:=bL q;have hpre:=mD hlt;have hle:=kB l (k+1);have hcs:=fJ (bM l k);have hpn:=dy (bM l k).pats;have hka:ha.next<900000000:=by omega
  have pp:∀v,v∈clO (bM l k)->bP v:=λv hv=>(gz _ v hv).x;obtain⟨hz,wz,iz,nz⟩:=FsI.own fa.fs hka hsc
  repeat' (first
   |(refine WLg.mk ?_;first
   |refine aa rfl rfl rfl rfl ?_|refine aa rfl rfl (bN Hy) rfl ?_|refine ab rfl rfl rfl rfl ?_|refine ab rfl rfl (gj Hy) rfl ?_|refine aC rfl rfl (cW hka) rfl rfl rfl rfl rfl rfl rfl rfl pp rfl rfl ?_|refine aF (t:=ha.t) (k:=ha.next) (vs:=[]) (b:=bxB .nilf) (mk:=λi=>.ptr i 0) rfl rfl rfl (cW hka) rfl ?_|refine aE rfl rfl wz rfl ?_)|apply ac|refine ae rfl ?_|apply ai|apply ah|apply aj|apply al|refine ak rfl (λht=>?_) (λht=>?_)|apply av|apply bG.norm|apply bG.exit|apply OnC.exit|fail)
  any_goals (first|exact absurd (q.symm.trans (show Nat.blt k l.length=false by assumption)) (by decide)|skip)
  refine aw (bU (l:=fr166a sc ha.next l k 0) KH) ?_;refine ax (bM l k).pats.length (λj x h1=>x=fr166a sc ha.next l k j/\IvK es ha ha.next h1/\h1.next<=ha.next+1+4*bH (exL ((bM l k).pats.take j))) ?_ (i:=0) (Nat.zero_le _) ⟨rfl,iz,by omega⟩;clear q hka pp wz iz nz;rintro j _ hd hj2 ⟨rfl,id,nd⟩;have hj3:j<9223372036854775807:=by omega
  cases qn:Nat.blt j (bM l k).pats.length with
  |false=>
   have hje:j=(bM l k).pats.length:=by have:=ce qn;omega
   rw [hje,List.take_length]at nd
   repeat' (first
    |(refine WLg.mk ?_;first
    |refine aa rfl rfl rfl rfl ?_|refine aa rfl rfl (bN Hy) rfl ?_|refine ab rfl rfl rfl rfl ?_)|apply ac|refine ae rfl ?_|apply ai|apply ah|apply aj|apply al|refine ak rfl (λht=>?_) (λht=>?_)|apply av|apply bG.norm|apply bG.exit|apply OnC.exit|fail)
   any_goals (first|exact absurd (qn.symm.trans (show Nat.blt j (bM l k).pats.length=true by assumption)) (by decide)|skip)
   refine aw (bU (l:=fr166b sc ha.next l k 0) KH) ?_;refine ax (bM l k).pats.length (λj x h1=>x=fr166b sc ha.next l k j/\IvK es ha ha.next h1/\h1.next<=ha.next+1+4*bH (exL (bM l k).pats)+4*bH (exL ((bM l k).pats.take j))) ?_ (i:=0) (Nat.zero_le _) ⟨rfl,id,by omega⟩;clear hje hj2 hj3 qn id nd ht;clear j hd;rintro j _ hd hj2 ⟨rfl,id,nd⟩;have hj3:j<9223372036854775807:=by omega
   cases qn:Nat.blt j (bM l k).pats.length with
   |false=>
    have hje:j=(bM l k).pats.length:=by have:=ce qn;omega
    rw [hje,List.take_length]at nd;obtain⟨own,hown,bx⟩:=id.bx;have lb:=bx.ld;have fd:=id.fd (n:=1+8*bH (exL (bM l k).pats)) (by omega);obtain⟨hv,cv,fv⟩:=f178 E hs6 (c:=bM l k) (by omega) id.fs hown (by omega);have f1:Fd es h hv (12*bH (clL (l.take (k+1)))):=((fa.trans fd).trans fv).up (by omega)
    repeat' (first
     |(refine WLg.mk ?_;first
     |refine aa rfl rfl rfl rfl ?_|refine aa rfl rfl (bN Hy) rfl ?_|refine ab rfl rfl (show ROp.run (.load true 4) [.eptr (clO (bM l k)) 0] _=some (.agg (clO (bM l k)))from rfl) rfl ?_|refine ab rfl rfl lb rfl ?_|refine ab rfl rfl rfl rfl ?_|refine au rfl rfl rfl (cv) (λ_ _ q=>q) .none rfl ?_)|apply ac|refine ae rfl ?_|apply ai|apply ah|apply aj|apply al|refine ak rfl (λht=>?_) (λht=>?_)|apply av|apply bG.norm|apply bG.exit|apply OnC.exit|fail)
    all_goals first
     |exact .norm ⟨_,_,bU KH,hlt,rfl,f1⟩|exact absurd (qn.symm.trans (show Nat.blt j (bM l k).pats.length=true by assumption)) (by decide)
   |true=>
    have hltj:=bL qn;have hprj:=fO hltj;have hlej:=eu (bM l k).pats (j+1);have hka:hd.next<900000000:=by omega
    obtain⟨hu,cu,iu,leu,nu⟩:=mH (vcC (es:=es) (h0:=ha) (k:=ha.next)) 6000001 (Nat.le_refl _) (bW (bM l k).pats j) (by omega) hd id (by omega);have pp:∀v,v∈exO (bW (bM l k).pats j)->bP v:=λv hv=>(cZ _ v hv).x
    repeat' (first
     |(refine WLg.mk ?_;first
     |refine aa rfl rfl rfl rfl ?_|refine aa rfl rfl (bN Hy) rfl ?_|refine ab rfl rfl (show ROp.run (.load true 11) [.eptr (exO (bW (bM l k).pats j)) 0] _=some (.agg (exO (bW (bM l k).pats j)))from rfl) rfl ?_|refine ab rfl rfl rfl rfl ?_|refine ab rfl rfl (dA Hy) rfl ?_|refine aC rfl rfl (cW hka) rfl rfl rfl rfl rfl rfl rfl rfl pp rfl rfl ?_|refine au rfl rfl rfl (cu) (λ_ _ q=>q) .none rfl ?_)|apply ac|refine ae rfl ?_|apply ai|apply ah|apply aj|apply al|refine ak rfl (λht=>?_) (λht=>?_)|apply av|apply bG.norm|apply bG.exit|apply OnC.exit|fail)
    all_goals first
     |exact .norm ⟨_,_,bU KH,hltj,rfl,iu,by omega⟩|exact absurd (qn.symm.trans (show Nat.blt j (bM l k).pats.length=false by assumption)) (by decide)
  |true=>
   have hltj:=bL qn;have hprj:=fO hltj;have hlej:=eu (bM l k).pats (j+1);have hka:hd.next<900000000:=by omega
   obtain⟨hu,cu,iu,leu,nu⟩:=mH (vcB (es:=es) (h0:=ha) (k:=ha.next)) 6000001 (Nat.le_refl _) (bW (bM l k).pats j) (by omega) hd id (by omega);have pp:∀v,v∈exO (bW (bM l k).pats j)->bP v:=λv hv=>(cZ _ v hv).x
   repeat' (first
    |(refine WLg.mk ?_;first
    |refine aa rfl rfl rfl rfl ?_|refine aa rfl rfl (bN Hy) rfl ?_|refine ab rfl rfl (show ROp.run (.load true 11) [.eptr (exO (bW (bM l k).pats j)) 0] _=some (.agg (exO (bW (bM l k).pats j)))from rfl) rfl ?_|refine ab rfl rfl rfl rfl ?_|refine ab rfl rfl (dA Hy) rfl ?_|refine aC rfl rfl (cW hka) rfl rfl rfl rfl rfl rfl rfl rfl pp rfl rfl ?_|refine au rfl rfl rfl (cu) (λ_ _ q=>q) .none rfl ?_)|apply ac|refine ae rfl ?_|apply ai|apply ah|apply aj|apply al|refine ak rfl (λht=>?_) (λht=>?_)|apply av|apply bG.norm|apply bG.exit|apply OnC.exit|fail)
   all_goals first
    |exact .norm ⟨_,_,bU KH,hltj,rfl,iu,by omega⟩|exact absurd (qn.symm.trans (show Nat.blt j (bM l k).pats.length=false by assumption)) (by decide)
end
end
section
theorem qO{C:Ex->H->Bool->H->Prop}{Inv:H->Prop}:∀(L:List Ex),(∀y,y∈L->∀h,Inv h->h.next+12*bH (exO y)<900000000->∃h',C y h true h'/\Inv h'/\h'.next<=h.next+12*bH (exO y))->∀h,Inv h->h.next+12*bH (exL L)<900000000->∃h',Rk C L h true h'/\Inv h'/\h'.next<=h.next+12*bH (exL L)
 |[],_,h,i,_=>⟨h,.nil,i,Nat.le_add_right _ _⟩
 |y ::L,k,h,i,hb=>by
  rw [cK,cj]at hb ⊢;obtain⟨h1,c,i1,n1⟩:=k y List.mem_cons_self h i (by omega);obtain⟨h2,r,i2,n2⟩:=qO L (λz hz=>k z (List.mem_cons_of_mem _ hz)) h1 i1 (by omega);exact⟨h2,.go c r,i2,by omega⟩
noncomputable section
def fr186(a:Nat)(sc:V)(x:Ex)(i:Nat):AL:=[(3,fB),(4,.eptr (exO x) 0),(5,.eptr [sc] 0),(a,.lst x.items.length 11 (exL x.items)),(a+1,.int .i64 (Int.ofNat x.items.length)),(a+2,.int .i64 (Int.ofNat i))]
end
section
variable {es:List (V×V)} {s:Nat}
theorem f200(E:SE es s){y:Ex}(hy:bH (exO y)<s){h:H}{sc:V}(fs:FsI es h)(hsc:Scp sc)(hb:h.next+12*bH (exO y)<900000000):∃h',CE 200 [fB,.eptr [sc] 0] y h true h'/\Fd es h h' (12*bH (exO y)):=by
 obtain⟨h',c,f⟩:=E y hy h sc fs hsc hb;refine⟨h',⟨?_,f.kb.le,cW (by have:=f.nx;omega)⟩,f⟩;obtain⟨px,g,caps,rfl,cs⟩:=hsc;refine eN Tryz.func200 (by decide) Hi.2 rfl rfl (by have:=fs.le;omega) f.kb.le ?_
 repeat' (first
  |(refine WLg.mk ?_;first
  |refine aa rfl rfl rfl rfl ?_|refine ab rfl rfl (show ROp.run (.load true 11) [.eptr (exO y) 0] _=some (.agg (exO y))from rfl) rfl ?_|refine ab rfl rfl rfl rfl ?_|refine aA rfl rfl RA rfl PB rfl ?_|refine au rfl rfl rfl (c) (λ_ _ q=>q) .none rfl ?_)|apply ac|refine ae rfl ?_|apply ai|apply ah|apply ap|apply bG.norm|fail)
 exact⟨.inr rfl,_,rfl,rfl,rfl⟩
set_option maxHeartbeats 3200000 in
theorem Am(hs:s<=6000000)(E:SE es s):SE es (s+1):=by
 intro x hx h sc fs hsc hb;have hk:=jg x;have hsz:=dM x;have hsz1:=iK x;have hs6:s<=6000001:=by omega
 have np:=cR fs.le;have hn:=dy x.items;have hx6:bH (exO x)<=6000000:=by omega
 have hkn:h.next<900000000:=by omega
 obtain⟨hr,cr,fr1,fr2,fr3⟩:=f184 fs hkn hsc x.name.size (bT x.name.data.toList);have fr:Fd es h hr (12*bH (exO x)):=⟨fr1,fr2,by omega⟩
 obtain⟨hl,cl,fl0⟩:=f166 E hs6 (l:=x.clauses) (by omega) fs hsc (by omega);have fl:Fd es h hl (12*bH (exO x)):=fl0.up (by omega);obtain⟨h8,c8,f8⟩:=f199 E hs6 (l:=x.clauses) (by omega) fs hsc (by omega);obtain⟨hd,cd,fd⟩:∃h',CN 63 [.agg (exO x),.func (.func 200) [] [fB,.eptr [sc] 0]] h (.bool true) h'/\Fd es h h' (12*bH (exO x)):=by
  obtain⟨h',r,⟨i1,i2⟩,n2⟩:=qO (C:=CE 200 [fB,.eptr [sc] 0]) (Inv:=λh'=>FsI es h'/\Kb h h') (dt x) (λy hy h2 i hb2=>by
   obtain⟨h',c,f⟩:=f200 E (by have:=fp hy;omega) i.1 hsc hb2;exact⟨h',c,⟨f.fs,i.2.trans f.kb⟩,f.nx⟩) h ⟨fs,.refl h⟩ (by omega)
  exact⟨h',f63 hx6 (by have:=fs.le;omega) (cW (by omega)) (eQ (λv hv=>by cases hv) λv hv=>by
   rcases List.mem_cons.1 hv with rfl|hv
   ·exact fh (lj (eI λq=>by have:=fs.le;omega))
   ·rw [List.mem_singleton.1 hv]
    exact fh (lj hsc.px.free)) r,i1,i2,by omega⟩
 have b2:dg (λid=>id=h.next) (.ptr 2 0):=eI λq=>by have:=fs.le;omega
 have hsc':=hsc;obtain⟨px,g,caps,rfl,cs⟩:=hsc';refine cP Tryz.func186 (by decide) Hl.2 rfl rfl np ?_
 repeat' (first
  |(refine WLg.mk ?_;first
  |refine aa rfl rfl rfl rfl ?_|refine ab rfl rfl rfl rfl ?_|refine aN (x:= .ptr 2 0) rfl rfl rfl rfl b2 rfl ?_|refine aA rfl rfl RA rfl PB rfl ?_|refine au rfl rfl rfl (cr) (λ_ _ q=>q) .none rfl ?_|refine au rfl rfl rfl (cl) (λ_ _ q=>q) .none rfl ?_|refine au rfl rfl rfl (c8) (λ_ _ q=>q) .none rfl ?_|refine au rfl rfl rfl (cd) (λ_ _ q=>q) .none rfl ?_)|apply ac|refine ae rfl ?_|apply ai|apply ah|apply aj|apply al|refine ak rfl (λht=>?_) (λht=>?_)|apply bG.norm|fail)
 any_goals first
  |exact absurd ((show eqI x.kind 15=true by assumption).symm.trans (show eqI x.kind 15=false by assumption)) (by decide)|exact absurd ((show eqI x.kind 16=true by assumption).symm.trans (show eqI x.kind 16=false by assumption)) (by decide)|exact absurd ((show eqI x.kind 18=true by assumption).symm.trans (show eqI x.kind 18=false by assumption)) (by decide)|skip
 ·exact⟨.inl rfl,_,rfl,fr.kb.le,rfl,fr⟩
 ·exact⟨.inl rfl,_,rfl,fl.kb.le,rfl,fl⟩
 ·refine aw (bU (l:=fr186 34 (fnV g caps) x 0) KH) ?_
  refine ax x.items.length (λk l h1=>l=fr186 34 (fnV g caps) x k/\Fd es h h1 (12*bH (exL (x.items.take k)))) ?_ (i:=0) (Nat.zero_le _) ⟨rfl,(Fd.refl fs).up (Nat.zero_le _)⟩;clear cr cl cd fr fl fd fl0 fr1 fr2 fr3 hr hl hd c8 f8 h8;rintro k _ ha hk2 ⟨rfl,fa⟩;have hi2:k<9223372036854775807:=by omega
  have hnx:=fa.nx;cases q:Nat.blt k x.items.length with
  |false=>
   have hke:k=x.items.length:=by have:=ce q;omega
   rw [hke,List.take_length]at fa hnx;obtain⟨h1,c1,f1⟩:=f187 E hs6 (l:=x.body) (by omega) fa.fs hsc (by omega);have n1:=f1.nx;obtain⟨h2,c2,f2⟩:=f199 E hs6 (l:=x.clauses) (by omega) f1.fs hsc (by omega);have n2:=f2.nx;obtain⟨h3,c3,f3⟩:=f199 E hs6 (l:=x.catches) (by omega) f2.fs hsc (by omega);have n3:=f3.nx;obtain⟨h4,c4,f4⟩:=f187 E hs6 (l:=x.after) (by omega) f3.fs hsc (by omega);have f5:Fd es h h4 (12*bH (exO x)):=((((fa.trans f1).trans f2).trans f3).trans f4).up (by omega)
   repeat' (first
    |(refine WLg.mk ?_;first
    |refine aa rfl rfl rfl rfl ?_|refine aa rfl rfl (bN Hy) rfl ?_|refine ab rfl rfl rfl rfl ?_|refine au rfl rfl rfl (c1) (λ_ _ q=>q) .none rfl ?_|refine au rfl rfl rfl (c2) (λ_ _ q=>q) .none rfl ?_|refine au rfl rfl rfl (c3) (λ_ _ q=>q) .none rfl ?_|refine au rfl rfl rfl (c4) (λ_ _ q=>q) .none rfl ?_)|apply ac|refine ae rfl ?_|apply ai|apply ah|apply aj|apply al|refine ak rfl (λht=>?_) (λht=>?_)|apply av|apply bG.norm|apply bG.exit|apply OnC.exit|fail)
   all_goals first
    |exact⟨.inl rfl,_,rfl,f5.kb.le,rfl,f5⟩|exact absurd (q.symm.trans (show Nat.blt k x.items.length=true by assumption)) (by decide)
  |true=>
   have hlt:=bL q;have hpre:=fO hlt;have hle:=eu x.items (k+1);have hka:ha.next<900000000:=by omega
   obtain⟨hu,cu,fu⟩:=E (bW x.items k) (by omega) ha _ fa.fs hsc (by omega);have f1:Fd es h hu (12*bH (exL (x.items.take (k+1)))):=(fa.trans fu).up (by omega);have pp:∀v,v∈exO (bW x.items k)->bP v:=λv hv=>(cZ _ v hv).x
   repeat' (first
    |(refine WLg.mk ?_;first
    |refine aa rfl rfl rfl rfl ?_|refine aa rfl rfl (bN Hy) rfl ?_|refine ab rfl rfl (show ROp.run (.load true 11) [.eptr (exO (bW x.items k)) 0] _=some (.agg (exO (bW x.items k)))from rfl) rfl ?_|refine ab rfl rfl rfl rfl ?_|refine ab rfl rfl (dA Hy) rfl ?_|refine aC rfl rfl (cW hka) rfl rfl rfl rfl rfl rfl rfl rfl pp rfl rfl ?_|refine au rfl rfl rfl (cu) (λ_ _ q=>q) .none rfl ?_)|apply ac|refine ae rfl ?_|apply ai|apply ah|apply aj|apply al|refine ak rfl (λht=>?_) (λht=>?_)|apply av|apply bG.norm|apply bG.exit|apply OnC.exit|fail)
   all_goals first
    |exact .norm ⟨_,_,bU KH,hlt,rfl,f1⟩|exact absurd (q.symm.trans (show Nat.blt k x.items.length=false by assumption)) (by decide)
 ·refine aw (bU (l:=fr186 34 (fnV g caps) x 0) KH) ?_
  refine ax x.items.length (λk l h1=>l=fr186 34 (fnV g caps) x k/\Fd es h h1 (12*bH (exL (x.items.take k)))) ?_ (i:=0) (Nat.zero_le _) ⟨rfl,(Fd.refl fs).up (Nat.zero_le _)⟩;clear cr cl cd fr fl fd fl0 fr1 fr2 fr3 hr hl hd c8 f8 h8;rintro k _ ha hk2 ⟨rfl,fa⟩;have hi2:k<9223372036854775807:=by omega
  have hnx:=fa.nx;cases q:Nat.blt k x.items.length with
  |false=>
   have hke:k=x.items.length:=by have:=ce q;omega
   rw [hke,List.take_length]at fa hnx;obtain⟨h1,c1,f1⟩:=f187 E hs6 (l:=x.body) (by omega) fa.fs hsc (by omega);have n1:=f1.nx;obtain⟨h2,c2,f2⟩:=f199 E hs6 (l:=x.clauses) (by omega) f1.fs hsc (by omega);have n2:=f2.nx;obtain⟨h3,c3,f3⟩:=f199 E hs6 (l:=x.catches) (by omega) f2.fs hsc (by omega);have n3:=f3.nx;obtain⟨h4,c4,f4⟩:=f187 E hs6 (l:=x.after) (by omega) f3.fs hsc (by omega);have f5:Fd es h h4 (12*bH (exO x)):=((((fa.trans f1).trans f2).trans f3).trans f4).up (by omega)
   repeat' (first
    |(refine WLg.mk ?_;first
    |refine aa rfl rfl rfl rfl ?_|refine aa rfl rfl (bN Hy) rfl ?_|refine ab rfl rfl rfl rfl ?_|refine au rfl rfl rfl (c1) (λ_ _ q=>q) .none rfl ?_|refine au rfl rfl rfl (c2) (λ_ _ q=>q) .none rfl ?_|refine au rfl rfl rfl (c3) (λ_ _ q=>q) .none rfl ?_|refine au rfl rfl rfl (c4) (λ_ _ q=>q) .none rfl ?_)|apply ac|refine ae rfl ?_|apply ai|apply ah|apply aj|apply al|refine ak rfl (λht=>?_) (λht=>?_)|apply av|apply bG.norm|apply bG.exit|apply OnC.exit|fail)
   all_goals first
    |exact⟨.inl rfl,_,rfl,f5.kb.le,rfl,f5⟩|exact absurd (q.symm.trans (show Nat.blt k x.items.length=true by assumption)) (by decide)
  |true=>
   have hlt:=bL q;have hpre:=fO hlt;have hle:=eu x.items (k+1);have hka:ha.next<900000000:=by omega
   obtain⟨hu,cu,fu⟩:=E (bW x.items k) (by omega) ha _ fa.fs hsc (by omega);have f1:Fd es h hu (12*bH (exL (x.items.take (k+1)))):=(fa.trans fu).up (by omega);have pp:∀v,v∈exO (bW x.items k)->bP v:=λv hv=>(cZ _ v hv).x
   repeat' (first
    |(refine WLg.mk ?_;first
    |refine aa rfl rfl rfl rfl ?_|refine aa rfl rfl (bN Hy) rfl ?_|refine ab rfl rfl (show ROp.run (.load true 11) [.eptr (exO (bW x.items k)) 0] _=some (.agg (exO (bW x.items k)))from rfl) rfl ?_|refine ab rfl rfl rfl rfl ?_|refine ab rfl rfl (dA Hy) rfl ?_|refine aC rfl rfl (cW hka) rfl rfl rfl rfl rfl rfl rfl rfl pp rfl rfl ?_|refine au rfl rfl rfl (cu) (λ_ _ q=>q) .none rfl ?_)|apply ac|refine ae rfl ?_|apply ai|apply ah|apply aj|apply al|refine ak rfl (λht=>?_) (λht=>?_)|apply av|apply bG.norm|apply bG.exit|apply OnC.exit|fail)
   all_goals first
    |exact .norm ⟨_,_,bU KH,hlt,rfl,f1⟩|exact absurd (q.symm.trans (show Nat.blt k x.items.length=false by assumption)) (by decide)
 ·refine aw (bU (l:=fr186 34 (fnV g caps) x 0) KH) ?_
  refine ax x.items.length (λk l h1=>l=fr186 34 (fnV g caps) x k/\Fd es h h1 (12*bH (exL (x.items.take k)))) ?_ (i:=0) (Nat.zero_le _) ⟨rfl,(Fd.refl fs).up (Nat.zero_le _)⟩;clear cr cl cd fr fl fd fl0 fr1 fr2 fr3 hr hl hd c8 f8 h8;rintro k _ ha hk2 ⟨rfl,fa⟩;have hi2:k<9223372036854775807:=by omega
  have hnx:=fa.nx;cases q:Nat.blt k x.items.length with
  |false=>
   have hke:k=x.items.length:=by have:=ce q;omega
   rw [hke,List.take_length]at fa hnx;obtain⟨h1,c1,f1⟩:=f187 E hs6 (l:=x.body) (by omega) fa.fs hsc (by omega);have n1:=f1.nx;obtain⟨h2,c2,f2⟩:=f199 E hs6 (l:=x.clauses) (by omega) f1.fs hsc (by omega);have n2:=f2.nx;obtain⟨h3,c3,f3⟩:=f199 E hs6 (l:=x.catches) (by omega) f2.fs hsc (by omega);have n3:=f3.nx;obtain⟨h4,c4,f4⟩:=f187 E hs6 (l:=x.after) (by omega) f3.fs hsc (by omega);have f5:Fd es h h4 (12*bH (exO x)):=((((fa.trans f1).trans f2).trans f3).trans f4).up (by omega)
   repeat' (first
    |(refine WLg.mk ?_;first
    |refine aa rfl rfl rfl rfl ?_|refine aa rfl rfl (bN Hy) rfl ?_|refine ab rfl rfl rfl rfl ?_|refine au rfl rfl rfl (c1) (λ_ _ q=>q) .none rfl ?_|refine au rfl rfl rfl (c2) (λ_ _ q=>q) .none rfl ?_|refine au rfl rfl rfl (c3) (λ_ _ q=>q) .none rfl ?_|refine au rfl rfl rfl (c4) (λ_ _ q=>q) .none rfl ?_)|apply ac|refine ae rfl ?_|apply ai|apply ah|apply aj|apply al|refine ak rfl (λht=>?_) (λht=>?_)|apply av|apply bG.norm|apply bG.exit|apply OnC.exit|fail)
   all_goals first
    |exact⟨.inl rfl,_,rfl,f5.kb.le,rfl,f5⟩|exact absurd (q.symm.trans (show Nat.blt k x.items.length=true by assumption)) (by decide)
  |true=>
   have hlt:=bL q;have hpre:=fO hlt;have hle:=eu x.items (k+1);have hka:ha.next<900000000:=by omega
   obtain⟨hu,cu,fu⟩:=E (bW x.items k) (by omega) ha _ fa.fs hsc (by omega);have f1:Fd es h hu (12*bH (exL (x.items.take (k+1)))):=(fa.trans fu).up (by omega);have pp:∀v,v∈exO (bW x.items k)->bP v:=λv hv=>(cZ _ v hv).x
   repeat' (first
    |(refine WLg.mk ?_;first
    |refine aa rfl rfl rfl rfl ?_|refine aa rfl rfl (bN Hy) rfl ?_|refine ab rfl rfl (show ROp.run (.load true 11) [.eptr (exO (bW x.items k)) 0] _=some (.agg (exO (bW x.items k)))from rfl) rfl ?_|refine ab rfl rfl rfl rfl ?_|refine ab rfl rfl (dA Hy) rfl ?_|refine aC rfl rfl (cW hka) rfl rfl rfl rfl rfl rfl rfl rfl pp rfl rfl ?_|refine au rfl rfl rfl (cu) (λ_ _ q=>q) .none rfl ?_)|apply ac|refine ae rfl ?_|apply ai|apply ah|apply aj|apply al|refine ak rfl (λht=>?_) (λht=>?_)|apply av|apply bG.norm|apply bG.exit|apply OnC.exit|fail)
   all_goals first
    |exact .norm ⟨_,_,bU KH,hlt,rfl,f1⟩|exact absurd (q.symm.trans (show Nat.blt k x.items.length=false by assumption)) (by decide)
 ·refine aw (bU (l:=fr186 73 (fnV g caps) x 0) KH) ?_
  refine ax x.items.length (λk l h1=>l=fr186 73 (fnV g caps) x k/\Fd es h h1 (12*bH (clL x.clauses)+12*bH (exL (x.items.take k)))) ?_ (i:=0) (Nat.zero_le _) ⟨rfl,f8.up (Nat.le_add_right _ _)⟩;clear cr cl cd fr fl fd fl0 fr1 fr2 fr3 hr hl hd c8 f8 h8;rintro k _ ha hk2 ⟨rfl,fa⟩;have hi2:k<9223372036854775807:=by omega
  have hnx:=fa.nx;cases q:Nat.blt k x.items.length with
  |false=>
   have hke:k=x.items.length:=by have:=ce q;omega
   rw [hke,List.take_length]at fa hnx;obtain⟨h4,c4,f4⟩:=f187 E hs6 (l:=x.after) (by omega) fa.fs hsc (by omega);have f5:Fd es h h4 (12*bH (exO x)):=(fa.trans f4).up (by omega)
   repeat' (first
    |(refine WLg.mk ?_;first
    |refine aa rfl rfl rfl rfl ?_|refine aa rfl rfl (bN Hy) rfl ?_|refine ab rfl rfl rfl rfl ?_|refine au rfl rfl rfl (c4) (λ_ _ q=>q) .none rfl ?_)|apply ac|refine ae rfl ?_|apply ai|apply ah|apply aj|apply al|refine ak rfl (λht=>?_) (λht=>?_)|apply av|apply bG.norm|apply bG.exit|apply OnC.exit|fail)
   all_goals first
    |exact⟨.inl rfl,_,rfl,f5.kb.le,rfl,f5⟩|exact absurd (q.symm.trans (show Nat.blt k x.items.length=true by assumption)) (by decide)
  |true=>
   have hlt:=bL q;have hpre:=fO hlt;have hle:=eu x.items (k+1);have hka:ha.next<900000000:=by omega
   obtain⟨hu,cu,fu⟩:=E (bW x.items k) (by omega) ha _ fa.fs hsc (by omega);have f1:Fd es h hu (12*bH (clL x.clauses)+12*bH (exL (x.items.take (k+1)))):=(fa.trans fu).up (by omega);have pp:∀v,v∈exO (bW x.items k)->bP v:=λv hv=>(cZ _ v hv).x
   repeat' (first
    |(refine WLg.mk ?_;first
    |refine aa rfl rfl rfl rfl ?_|refine aa rfl rfl (bN Hy) rfl ?_|refine ab rfl rfl (show ROp.run (.load true 11) [.eptr (exO (bW x.items k)) 0] _=some (.agg (exO (bW x.items k)))from rfl) rfl ?_|refine ab rfl rfl rfl rfl ?_|refine ab rfl rfl (dA Hy) rfl ?_|refine aC rfl rfl (cW hka) rfl rfl rfl rfl rfl rfl rfl rfl pp rfl rfl ?_|refine au rfl rfl rfl (cu) (λ_ _ q=>q) .none rfl ?_)|apply ac|refine ae rfl ?_|apply ai|apply ah|apply aj|apply al|refine ak rfl (λht=>?_) (λht=>?_)|apply av|apply bG.norm|apply bG.exit|apply OnC.exit|fail)
   all_goals first
    |exact .norm ⟨_,_,bU KH,hlt,rfl,f1⟩|exact absurd (q.symm.trans (show Nat.blt k x.items.length=false by assumption)) (by decide)
 ·exact⟨.inl rfl,_,rfl,fd.kb.le,rfl,fd⟩
theorem sM(es:List (V×V)):∀s,s<=6000001->SE es s
 |0,_=>λx hx=>by omega
 |s+1,hs=>Am (by omega) (sM es s (by omega))
end
end
section
theorem wX{E:En}{T:Ty}{g:G}{h:H}{w:World}(r:@WR E T g h w){n:Nat}{tr:Tr V}(b0:h.blk 0=some (.ro n tr)){j l d:Nat}(u:Up h j l d):l=0->False:=by
 induction u with
 |one e k=>
  rintro rfl;obtain⟨b',up,e',k',_⟩:=@WR.kids E _ _ _ _ r _ _ _ _ _ e k;rw [b0]at e';cases e';cases k'
 |step e k u ih=>exact ih
theorem De{es:Nat}{h:H}{f:F}{t:Nat}{v:V}{cs:List V}(b0:h.blk 0=some (.ro 256 dN))(gl:GL es h v cs)(px:∀c,c∈cs->bP c)(e:lk f.loc t=some v):∃n,cs.length=n*es/\fG TP Kp f h ⟨[(t,.lst n es cs)],[]⟩ H0:=by
 have u0:∀i,cL lp0 i->i=0:=λi ⟨b,e⟩=>by
  cases i with
  |zero=>rfl
  |succ i=>cases e
 have dr:∀Z:Nat->Option (List V),(∀k cs,Z k=some cs->∃t up ch,h.blk k=some (.cells cs.length t up ch)/\∀j v,cs[j]? =some v->t.get j=some v)->(∀k cs,Z k=some cs->0≠k/\(∀d,¬Up h 0 k d)/\∀d,¬Up h k 0 d)->Vw TP h lp0 (λi=>i) Z:=λZ hz hu=>by
  refine⟨jV.len,λi b' e=>?_,λi j _ _ e=>e,λi j d hi _=>?_,(λk cs e _=>hz k cs e),λk cs i e hi=>?_,λq hq=>⟨rfl,jV.all q hq⟩⟩
  ·obtain rfl:=u0 i ⟨_,e⟩
   obtain rfl:Blk.ro 256 dN=b':=by cases e;rfl
   exact⟨_,b0,.ro λj v e=>.flat (d3 eJ (by rw [fU];unfold bR;omega) e)⟩
  ·rw [u0 i hi]
   exact dH b0
  ·rw [u0 i hi]
   exact hu k cs e
 have fx:∀id,Kp id->cL lp0 id/\(λi:Nat=>i) id=id:=λid h=>by obtain rfl:id=0:=h;exact⟨⟨_,rfl⟩,rfl⟩
 cases gl with
 |none0=>
  refine⟨0,(Nat.zero_mul _).symm,?_⟩;intro m N E0 g0 w0 E g w tmps s fr;obtain⟨E1,g1,s1,fr1,k1⟩:=(dr (λ_=>none) (λk cs e=>by cases e) (λk cs e=>by cases e)).view fx (.inl λ_=>rfl) (f1:=f) (f':=⟨[(t,.nils)],[]⟩) ⟨λp hp=>by
   obtain rfl:=List.mem_singleton.1 hp;exact⟨_,e,.pure (.flat rfl)⟩,λp hp=>by cases hp⟩ m N E0 g0 w0 E g w tmps s fr
  refine⟨E1,g1,s1,⟨fr1.1,λi v h=>?_⟩,k1⟩;unfold rdn at h
  split at h
  ·rename_i hb
   have h:lk [(t,V.lst 0 es [])] i=some v:=h
   by_cases q:t=i
   ·subst q
    have h2:lk [(t,V.lst 0 es [])] t=some (V.lst 0 es []):=by rw [@dj noE,if_pos rfl]
    obtain rfl:V.lst 0 es []=v:=Option.some.inj (h2.symm.trans h);obtain⟨u,k1,k2⟩:=fr1.2 t .nils (by unfold rdn;rw [if_pos hb];show lk [(t,V.nils)] t=_;rw [@dj noE,if_pos rfl]);refine⟨u,k1,?_⟩;cases k2;exact @VR.lst0 E1 g1 es
   ·rw [@dj noE,if_neg q]at h
    cases h
  ·cases h
 |@full b n tr up ch cs hb hc hn hl at_ lt=>
  refine⟨n,hl,?_⟩;intro m N E0 g0 w0 E g w tmps s fr;have hne:0≠b:=λq=>by rw [<-q,b0]at hb;cases hb
  refine(dr (λj=>if j=b then some cs else none) (λk cs' e=>?_) (λk cs' e=>?_)).view fx (.inr pn) (f1:=f) (f':=⟨[(t,.lst n es cs)],[]⟩) ⟨λp hp=>?_,λp hp=>by cases hp⟩ m N E0 g0 w0 E g w tmps s fr
  ·by_cases q:k=b
   ·subst q
    rw [if_pos rfl]at e;cases e;exact⟨_,_,_,by rw [hl];exact hb,λi v hv=>at_ i v hv⟩
   ·rw [if_neg q]at e;cases e
  ·by_cases q:k=b
   ·subst q
    exact⟨hne,λd=>dH b0,λd u=>wX s.sit.wr b0 u rfl⟩
   ·rw [if_neg q]at e;cases e
  ·obtain rfl:=List.mem_singleton.1 hp
   exact⟨_,e,.fzs (k:=b) (by rw [if_pos rfl]) hl (RnL.pure px)⟩
theorem zf{f:FuncId} {fn:Func} {cf:CF} (hfn:Tryz.prog.funcs[f]? =some fn) (hnm:fn.name≠ "runtime.NumGoroutine") (hcf:bQ TP fn=some cf) {vs:List V} (hlen:vs.length=cf.params) (hvs:∀v,v∈vs->bP v) {t:Nat} (hres:cf.results=[.tmp (.l t)]) {es:Nat} {Q:List V->Prop} {loc:AL} (hn:kP vs 0=some loc)
  (k:WC Tryz.prog TP Kp ft 1 cf.code loc H0 λx loc h=>(x= .norm\/x= .ret)/\∃v cs,lk loc t=some v/\h.blk 0=some (.ro 256 dN)/\GL es h v cs/\(∀c,c∈cs->bP c)/\Q cs):∃n cs,Q cs/\cs.length=n*es/\CP f vs (.lst n es cs):=by
 have hW:W Tryz.prog TP Kp ft 1 cf.code ⟨dG vs 0,[]⟩ H0 λx f1 h1=>(x= .norm\/x= .ret)/\∃l,gf f1 h1 cf.results=some l/\bP (cQ l)/\∃n cs,cQ l= .lst n es cs/\cs.length=n*es/\Q cs:=by
  rw [lH hn];refine W.viewX (W.mono k.out λx f1 h1 q=>?_);obtain⟨_,q1,v,cs,q2,q3,q4,q5,q6⟩:=q;obtain⟨n,e1,vw⟩:=De q3 q4 q5 q2;refine⟨_,_,vw,q1,[.lst n es cs],?_,.lst q5,n,cs,rfl,e1,q6⟩;rw [hres];show ob (lk [(t,V.lst n es cs)] t) (λv=>ob (some []) λvs=>some (v ::vs))=_;rw [@dj noE,if_pos rfl];rfl
 obtain⟨v,c,n,cs,rfl,e1,q⟩:=pV (R:=λv=>∃n cs,v= .lst n es cs/\cs.length=n*es/\Q cs) hfn hnm hcf hlen hvs hW;exact⟨n,cs,q,e1,c⟩
theorem BP{n c:Nat}{b:Bool}:∀{es:List (V×V)},yK es->∃es',(∀h,mh h (.one .s) (.str n c) (.bool b) es=some es')/\yK es'
 |[],_=>⟨[(.str n c,.bool b)],λ_=>rfl,λe he=>by rw [List.mem_singleton.1 he];exact⟨⟨_,_,rfl⟩,_,rfl⟩⟩
 |p ::es,k=>by
  obtain⟨r,q1,q2⟩:=BP (n:=n) (c:=c) (b:=b) (es:=es) λe he=>k e (List.mem_cons_of_mem _ he);obtain⟨⟨m,d,e1⟩,b2,e2⟩:=k p List.mem_cons_self;obtain⟨a,z⟩:=p;subst e1 e2;cases q:cV n c m d with
  |false=>
   refine⟨(.str m d,.bool b2) ::r,λh=>?_,λe he=>?_⟩
   ·show ob (some (cV n c m d)) (λb'=>Bool.rec (motive:=λ_=>Option (List (V×V))) (ob (mh h (.one .s) (.str n c) (.bool b) es) λr=>some ((.str m d,.bool b2) ::r)) (some ((.str n c,.bool b) ::es)) b')=_
    rw [q,q1];rfl
   ·rcases List.mem_cons.1 he with rfl|he
    ·exact⟨⟨_,_,rfl⟩,_,rfl⟩
    ·exact q2 e he
  |true=>
   refine⟨(.str n c,.bool b) ::es,λh=>?_,λe he=>?_⟩
   ·show ob (some (cV n c m d)) (λb'=>Bool.rec (motive:=λ_=>Option (List (V×V))) (ob (mh h (.one .s) (.str n c) (.bool b) es) λr=>some ((.str m d,.bool b2) ::r)) (some ((.str n c,.bool b) ::es)) b')=_
    rw [q];rfl
   ·rcases List.mem_cons.1 he with rfl|he
    ·exact⟨⟨_,_,rfl⟩,_,rfl⟩
    ·exact k e (List.mem_cons_of_mem _ he)
theorem FsI.mapup{es:List (V×V)}{h:H}(s:FsI es h)(n c:Nat)(b:Bool):∃es' h',EOp.run (.mapup (.one .s)) [.map 1,.str n c,.bool b] h=some (cG,h')/\FsI es' h'/\h'.next=h.next:=by
 obtain⟨o,e1⟩:=s.b1;obtain⟨tr,v,cs,e2,t0,t1,gl,hs,hl⟩:=s.b2;obtain⟨es',p1,p2⟩:=BP (n:=n) (c:=c) (b:=b) s.map;have bl:∀j,(⟨h.t.put 1 (some (.map es' (h.ord 1))),h.next⟩:H).blk j=if j=1 then some (.map es' (h.ord 1))else h.blk j:=λj=>fy (by unfold bR;omega)
 refine⟨es',⟨h.t.put 1 (some (.map es' (h.ord 1))),h.next⟩,?_,⟨p2,by rw [bl,if_neg (by decide)];exact s.b0,⟨_,by rw [bl,if_pos rfl]⟩,⟨tr,v,cs,by rw [bl,if_neg (by decide)];exact e2,t0,t1,gl.mono (Nat.le_refl _) λb n q _=>?_,hs,hl⟩,s.le⟩,rfl⟩
 ·show oif true (ob (ob (h.blk 1) _) _)=_
  rw [e1];show ob (mh h (.one .s) (.str n c) (.bool b) es) _=_;rw [p1];rfl
 ·rw [bl,if_neg]
  rintro rfl;subst q;cases gl with
  |full hb=>rw [e1]at hb;cases hb
theorem f165{x:Ex}(hx:bH (exO x)<=6000000):∃k,CP 165 [.agg (exO x)] (.int .i64 k):=by
 have hsv:HSv 0 0 false ⟨H0.t.put 1 (some (.cells 3 (cq (svC 0 0 false) 0 .e) none false)),Nat.succ 1⟩:=⟨rfl,⟨_,rfl,rfl,rfl,rfl⟩,rfl,rfl⟩
 obtain⟨h',n',f',l1,c,e,hs',o⟩:=AQ (wy 6000001 (Nat.le_refl _)) (x:=x) (by omega) (d:=1) (by omega) (by omega) (by omega) hsv;obtain⟨tr,e1,t0,t1,t2⟩:=hs'.b1;have r0:ROp.run (.load false 1) [.ptr 1 0] h'=some (.int .i64 (Int.ofNat n')):=dw e1 t0 (by decide);have r1:ROp.run (.load false 1) [.ptr 1 1] h'=some (.int .i64 (Int.ofNat f')):=dw e1 t1 (by decide);have r2:ROp.run (.load false 1) [.ptr 1 2] h'=some (.bool l1):=dw e1 t2 (by decide);obtain⟨v,c,k,rfl⟩:∃v,CP 165 [.agg (exO x)] v/\∃k,v= .int .i64 k:=by
  refine dz Tryz.func165 (by decide) HD.2 rfl (bO (pxe x) px0) rfl ?_
  repeat' (first
   |(refine WLg.mk ?_;first
   |refine aa rfl rfl rfl rfl ?_|refine ab rfl rfl r0 rfl ?_|refine ab rfl rfl r1 rfl ?_|refine ab rfl rfl r2 rfl ?_|refine ab rfl rfl rfl rfl ?_|refine aF (t:=H0.t) (k:=1) (vs:=[.agg (svC 0 0 false)]) (b:= .cells 3 (cq (svC 0 0 false) 0 .e) none false) (mk:=λi=>.ptr i 0) rfl rfl rfl rfl rfl ?_|refine aA rfl rfl RA rfl PB rfl ?_|refine au rfl rfl rfl (c) (λ_ _ q=>q) .none rfl ?_)|apply ac|refine ae rfl ?_|refine ay rfl rfl ?_|refine az rfl (λht=>?_) (λht=>?_)|apply ai|apply ah|apply aj|apply al|refine aD rfl ?_|refine ak rfl (λht=>?_) (λht=>?_)|apply ap|apply bG.norm|apply bG.ret|exact⟨.inr rfl,_,rfl,.flat rfl,_,rfl⟩|fail)
  all_goals exact⟨.inr rfl,_,rfl,.flat rfl,_,rfl⟩
 exact⟨k,c⟩
noncomputable section
def fr160(x:Ex)(ss:List V)(i:Nat):AL:=[(2,.eptr (exO x) 0),(5,.ptr 2 0),(19,.lst ss.length 1 ss),(20,.int .i64 (Int.ofNat ss.length)),(21,.int .i64 (Int.ofNat i))]
end
theorem GD{ss:List V}{i:Nat}{v:V}(h:ss[i]? =some v):eY ss (Nat.mul i 1) [v]:=by
 have hlt:=(List.getElem?_eq_some_iff.1 h).1;have e:ss=ss.take i++([v]++ss.drop (i+1)):=by
  have q:=(List.getElem?_eq_some_iff.1 h).2;rw [<-q,List.singleton_append,<-List.drop_eq_getElem_cons hlt,List.take_append_drop]
 exact .of e (by rw [List.length_take];show min i ss.length=i*1;omega)
set_option maxHeartbeats 800000 in
theorem f160{x:Ex}(hx:bH (exO x)<=6000000){ss:List V}(hs:nU ss)(hl:ss.length<=6000000):∃cs,nU cs/\CP 160 [.agg (exO x),.lst ss.length 1 ss] (.lst cs.length 1 cs):=by
 have pf:∀{cs:List V},nU cs->∀c,c∈cs->bP c:=λh c hc=>by
  obtain⟨n,d,rfl⟩:=h c hc;exact .flat rfl
 have n0:nU []:=λc hc=>by cases hc
 obtain⟨k,c165⟩:=f165 hx;have hsz:=dM x;obtain⟨n,cs,q1,q2,q3⟩:∃n cs,nU cs/\cs.length=n*1/\CP 160 [.agg (exO x),.lst ss.length 1 ss] (.lst n 1 cs):=by
  refine zf (t:=4) (Q:=nU) Tryz.func160 (by decide) HI.2 rfl (bO (pxe x) (bO (.lst (pf hs)) px0)) rfl rfl ?_
  repeat' (first
   |(refine WLg.mk ?_;first
   |refine aa rfl rfl rfl rfl ?_|refine ab rfl rfl rfl rfl ?_|refine aF (t:=H0.t) (k:=1) (vs:=[]) (b:= .map [] true) (mk:=λi=>.map i) rfl rfl rfl rfl rfl ?_|refine aF (t:=H0.t.put 1 (some (.map [] true))) (k:=2) (vs:=[.agg [.map 1,.nils]]) (b:= .cells 2 (cq [.map 1,.nils] 0 .e) none false) (mk:=λi=>.ptr i 0) rfl rfl rfl rfl rfl ?_|refine aA rfl rfl RA rfl PB rfl ?_|refine aq rfl rfl rfl (c165) rfl ?_)|apply ac|refine ae rfl ?_|refine ay rfl rfl ?_|refine az rfl (λht=>?_) (λht=>?_)|apply ai|apply ah|apply aj|apply al|refine aD rfl ?_|refine ak rfl (λht=>?_) (λht=>?_)|apply ap|apply bG.norm|apply bG.ret|fail)
  all_goals try (exact⟨.inr rfl,_,_,rfl,rfl,.none0,pf n0,n0⟩)
  refine aw (bU (l:=fr160 x ss 0) KH) ?_;refine ax ss.length (λi l h1=>l=fr160 x ss i/\∃es,FsI es h1/\h1.next=3) ?_ (i:=0) (Nat.zero_le _) ⟨rfl,[],⟨(λe he=>by cases he),rfl,⟨true,rfl⟩,⟨_,.nils,[],rfl,rfl,rfl,.none0,n0,Nat.zero_le _⟩,by decide⟩,rfl⟩;rintro i _ ha hi ⟨rfl,es,fs,nx⟩;have hi2:i<9223372036854775807:=by omega
  cases q:Nat.blt i ss.length with
  |false=>
   obtain⟨hz,cz,fz⟩:=f166 (sM es 6000001 (Nat.le_refl _)) (Nat.le_refl _) (l:=x.clauses) (by omega) fs Hd (by omega);obtain⟨tr,v,cs,e2,t0,t1,gl,hcs,hlc⟩:=fz.fs.b2;have lv:ROp.run (.load false 1) [.ptr 2 1] hz=some v:=dw e2 t1 (by decide)
   repeat' (first
    |(refine WLg.mk ?_;first
    |refine aa rfl rfl rfl rfl ?_|refine aa rfl rfl (bN Hy) rfl ?_|refine ab rfl rfl lv rfl ?_|refine ab rfl rfl rfl rfl ?_|refine au rfl rfl rfl (cz) (λ_ _ q=>q) .none rfl ?_)|apply ac|refine ae rfl ?_|apply ai|apply ah|apply aj|apply al|refine ak rfl (λht=>?_) (λht=>?_)|apply av|apply ap|apply bG.norm|apply bG.exit|apply OnC.exit|fail)
   all_goals first
    |exact⟨.inr rfl,_,_,rfl,fz.fs.b0,gl,pf hcs,hcs⟩|exact absurd (q.symm.trans (show Nat.blt i ss.length=true by assumption)) (by decide)
  |true=>
   have hlt:=bL q;obtain⟨v,hv⟩:∃v,ss[i]? =some v:=⟨_,List.getElem?_eq_getElem hlt⟩
   obtain⟨m,d,rfl⟩:=hs v (List.mem_of_getElem? hv);have ld:∀h,ROp.run (.load false 1) [.eptr ss (Nat.add (Nat.mul i 1) 0)] h=some (.str m d):=λh=>dO (j:=0) (GD hv) rfl h;obtain⟨es',hu,mu,fu,nu⟩:=fs.mapup m d true;obtain⟨tr,v,cs,e2,t0,t1,gl,hcs,hlc⟩:=fs.b2;have l0:ROp.run (.load false 1) [.ptr 2 0] ha=some (.map 1):=dw e2 t0 (by decide)
   repeat' (first
    |(refine WLg.mk ?_;first
    |refine aa rfl rfl rfl rfl ?_|refine aa rfl rfl (bN Hy) rfl ?_|refine ab rfl rfl (ld _) rfl ?_|refine ab rfl rfl l0 rfl ?_|refine ab rfl rfl rfl rfl ?_|refine aE rfl rfl mu rfl ?_)|apply ac|refine ae rfl ?_|apply ai|apply ah|apply aj|apply al|refine ak rfl (λht=>?_) (λht=>?_)|apply av|apply bG.norm|apply bG.exit|apply OnC.exit|fail)
   all_goals first
    |exact .norm ⟨_,_,bU KH,hlt,rfl,es',fu,by omega⟩|exact absurd (q.symm.trans (show Nat.blt i ss.length=false by assumption)) (by decide)
 refine⟨cs,q1,?_⟩;rw [show cs.length=n by omega];exact q3
end
section
theorem lA{k:IntKind}{m:Nat}(h:Nat.blt m (iA k)=true):cT k (Int.ofNat m)=Int.ofNat m:=by
 show(Bool.rec (motive:=λ_=>Int) (jQ k (Nat.mod m (gD k))) (Int.ofNat m) (Nat.blt m (iA k)):Int)=Int.ofNat m;rw [h]
noncomputable section
def fr67(a j m:Nat):AL:=[(0,.int .i64 (Int.ofNat a)),(3,.ptr 1 0),(4,.int .i64 (Int.ofNat j)),(5,.int .u64 (Int.ofNat m))]
end
def D20(h:H):Prop:=∃tr,h.blk 1=some (.cells 20 tr none false)/\∀i,i<20->∃d,tr.get i=some (.int .u8 (Int.ofNat d))
theorem D20.rd{tr:Tr V}{n:Nat}(k:∀i,i<n->∃d,tr.get i=some (.int .u8 (Int.ofNat d))):∀z off,off+z<=n->∃l c,kv tr n z off=some l/\ik l=some c
 |0,off,_=>⟨[],0,rfl,rfl⟩
 |z+1,off,h=>by
  obtain⟨l,c,e1,e2⟩:=D20.rd k z (off+1) (by omega);obtain⟨d,e3⟩:=k off (by omega);refine⟨.int .u8 (Int.ofNat d) ::l,Nat.add (Nat.mod d 256) (Nat.mul 256 c),?_,?_⟩
  ·show oif (Nat.blt off n) (ob (tr.get off) λv=>ob (kv tr n z (Nat.succ off)) λr=>some (v ::r))=_
   rw [ltb (by omega),e3,e1];rfl
  ·show ob (ik l) (λr=>some (Nat.add (Nat.mod d 256) (Nat.mul 256 r)))=_
   rw [e2];rfl
theorem D20.b2s{h:H}(d:D20 h){j:Nat}(hj:j<20):∃c,ROp.run .b2s [.sl 1 j (20-j) (20-j) true 1] h=some (.str (20-j) c):=by
 obtain⟨tr,e,k⟩:=d;obtain⟨l,c,e1,e2⟩:=D20.rd k (20-j) j (by omega);refine⟨c,?_⟩;show oif (Nat.beq 1 1) (ob (H.rd h 1 j (20-j)) λl=>ob (ik l) λc=>some (V.str (20-j) c))=_;have:H.rd h 1 j (20-j)=some l:=by
  show ob (ob (h.blk 1) _) _=_;rw [e];exact e1
 rw [this];show ob (ik l) _=_;rw [e2];rfl
theorem D20.put{h:H}(d:D20 h){j:Nat}(hj:j<20)(b:Nat):∃h',EOp.run (.store 1) [.ptr 1 j,.int .u8 (Int.ofNat b)] h=some (cG,h')/\D20 h':=by
 obtain⟨tr,e,k⟩:=d;refine⟨_,lB e rfl rfl hj,_,by rw [fy (by unfold bR;omega),if_pos rfl],λi hi=>?_⟩;rw [Tr.get_put _ _ _ _ (by unfold bR;omega)]
 split
 ·exact⟨_,rfl⟩
 ·exact k i hi
theorem f99(a:Nat)(ha:a<1000000000):CP 99 [.int .i64 (Int.ofNat a)] (.int .u64 (Int.ofNat a)):=by
 have e1:POp.run (.bin .lss) [.int .i64 (Int.ofNat a),.int .i64 0]=some (.bool false):=rfl;have e2:POp.run (.toInt .u64) [.int .i64 (Int.ofNat a)]=some (.int .u64 (Int.ofNat a)):=by
  show some (V.int .u64 (cT .u64 (Int.ofNat a)))=_;rw [lA (ltb (show a<18446744073709551616 by omega))]
 refine cS Tryz.func99 (by decide) q99.2 rfl (bO (.flat rfl) px0) rfl ?_
 repeat' (first
  |(refine WLg.mk ?_;first
  |refine aa rfl rfl e1 rfl ?_|refine aa rfl rfl e2 rfl ?_|refine aa rfl rfl rfl rfl ?_)|apply ac|refine ae rfl ?_|apply ai|apply ah|apply al|refine aB rfl ?_|apply ap|apply bG.norm|fail)
 all_goals exact⟨.inr rfl,_,rfl,.flat rfl,rfl⟩
theorem f67(a:Nat)(ha:a<1000000000):∃n c,n<=20/\CP 67 [.int .i64 (Int.ofNat a)] (.str n c):=by
 have c99:=f99 a ha;obtain⟨v,c,n,d,hn,rfl⟩:∃v,CP 67 [.int .i64 (Int.ofNat a)] v/\∃n c,n<=20/\v= .str n c:=by
  refine dz Tryz.func67 (by decide) q67.2 rfl (bO (.flat rfl) px0) rfl ?_
  repeat' (first
   |(refine WLg.mk ?_;first
   |refine aa rfl rfl rfl rfl ?_|refine aF rfl rfl rfl rfl rfl ?_|refine aq rfl rfl rfl (c99) rfl ?_)|apply ac|refine ae rfl ?_|apply ai|apply ah|apply aj|apply bG.norm|fail)
  refine aw (bU (l:=fr67 a 20 a) KH) ?_;refine bz (λk x h=>∃j,j<20/\k<10 ^ j/\x=fr67 a (j+1) k/\D20 h) ?_ (k:=a) ⟨19,by decide,Nat.lt_of_lt_of_le ha (by decide),rfl,_,rfl,λi hi=>⟨0,by
   rw [@cU noE _ 0 .e i (by show 20<=_;unfold bR;omega),if_pos (by constructor;exact Nat.zero_le _;exact hi),Nat.sub_zero];exact(List.getElem?_replicate_of_lt (a:=V.int .u8 (Int.ofNat 0)) hi)⟩⟩
  rintro m _ ha ⟨j,hj,hm,rfl,d⟩;have h18:10 ^ j<=10 ^ 19:=Nat.pow_le_pow_right (by decide) (by omega);have hm2:m<10000000000000000000:=Nat.lt_of_lt_of_le hm h18;have hmod:m%10<10:=Nat.mod_lt _ (by decide);have e1:POp.run (.bin .sub) [.int .i64 (Int.ofNat (j+1)),.int .i64 1]=some (.int .i64 (Int.ofNat j)):=by
   show some (V.int .i64 (cT .i64 (Int.sub (Int.ofNat (j+1)) (Int.ofNat 1))))=_;rw [show Int.sub (Int.ofNat (j+1)) (Int.ofNat 1)=Int.ofNat j by show(Int.ofNat (j+1))-(Int.ofNat 1)=Int.ofNat j;simp,lA (ltb (show j<9223372036854775808 by omega))]
  have e2:POp.run (.bin .rem) [.int .u64 (Int.ofNat m),.int .u64 10]=some (.int .u64 (Int.ofNat (m%10))):=rfl;have e3:POp.run (.bin .add) [.int .u64 48,.int .u64 (Int.ofNat (m%10))]=some (.int .u64 (Int.ofNat (48+m%10))):=by
   show some (V.int .u64 (cT .u64 (Int.ofNat (48+m%10))))=_;rw [lA (ltb (show 48+m%10<18446744073709551616 by omega))]
  have e4:POp.run (.toInt .u8) [.int .u64 (Int.ofNat (48+m%10))]=some (.int .u8 (Int.ofNat (48+m%10))):=by
   show some (V.int .u8 (cT .u8 (Int.ofNat (48+m%10))))=_;rw [lA (ltb (show 48+m%10<256 by omega))]
  have e5:POp.run (.ixarrp 20 1) [.ptr 1 0,.int .i64 (Int.ofNat j)]=some (.ptr 1 j):=by
   show ob (oif (Nat.blt j 20) (some j)) (λm=>some (V.ptr 1 (Nat.add 0 (Nat.mul m 1))))=_;rw [ltb hj];show some (V.ptr 1 (0+j*1))=_;rw [Nat.zero_add,Nat.mul_one]
  obtain⟨hb,e6,d6⟩:=d.put hj (48+m%10);cases q:Nat.blt m 10 with
  |true=>
   have e7:POp.run (.bin .lss) [.int .u64 (Int.ofNat m),.int .u64 10]=some (.bool true):=by
    show some (V.bool (Nat.blt m 10))=_;rw [q]
   have e8:POp.run (.bin .lss) [.int .i64 (Int.ofNat a),.int .i64 0]=some (.bool false):=rfl;have e9:POp.run (.slc (.arr 20 1) true false false) [.ptr 1 0,.int .i64 (Int.ofNat j)]=some (.sl 1 j (20-j) (20-j) true 1):=by
    show ob (oif (Nat.ble j 20) (some j)) (λl=>some (V.sl 1 (Bool.rec (motive:=λ_=>Nat) (Nat.add 0 (Nat.mul l 1)) 0 (Nat.beq 20 l)) (Nat.sub 20 l) (Nat.sub 20 l) true 1))=_;rw [show Nat.ble j 20=true from Nat.ble_eq_true_of_le (by omega)];show some (V.sl 1 (Bool.rec (motive:=λ_=>Nat) (0+j*1) 0 (Nat.beq 20 j)) (20-j) (20-j) true 1)=_;rw [show Nat.beq 20 j=false by
     cases q2:Nat.beq 20 j with
     |false=>rfl
     |true=>have:=Nat.eq_of_beq_eq_true q2;omega,Nat.zero_add,Nat.mul_one]
   obtain⟨c,e10⟩:=d6.b2s hj
   repeat' (first
    |(refine WLg.mk ?_;first
    |refine aa rfl rfl e1 rfl ?_|refine aa rfl rfl e2 rfl ?_|refine aa rfl rfl e3 rfl ?_|refine aa rfl rfl e4 rfl ?_|refine aa rfl rfl e5 rfl ?_|refine aa rfl rfl e7 rfl ?_|refine aa rfl rfl e8 rfl ?_|refine aa rfl rfl e9 rfl ?_|refine aa rfl rfl rfl rfl ?_|refine ab rfl rfl e10 rfl ?_|refine aE rfl rfl e6 rfl ?_)|apply ac|refine ae rfl ?_|apply ai|apply ah|apply aj|apply al|refine aD rfl ?_|refine aB rfl ?_|apply av|apply ap|apply bG.norm|apply bG.exit|apply OnC.exit|fail)
   all_goals exact⟨.inr rfl,_,rfl,.flat rfl,_,_,Nat.sub_le _ _,rfl⟩
  |false=>
   have hge:=ce q;have e7:POp.run (.bin .lss) [.int .u64 (Int.ofNat m),.int .u64 10]=some (.bool false):=by
    show some (V.bool (Nat.blt m 10))=_;rw [q]
   have e8:POp.run (.bin .quo) [.int .u64 (Int.ofNat m),.int .u64 10]=some (.int .u64 (Int.ofNat (m/10))):=by
    show some (V.int .u64 (cT .u64 (Int.ofNat (m/10))))=_;rw [lA (ltb (show m/10<18446744073709551616 by omega))]
   obtain⟨i,rfl⟩:∃i,j=i+1:=by
    cases j with
    |zero=>rw [Nat.pow_zero]at hm;omega
    |succ i=>exact⟨i,rfl⟩
   rw [Nat.pow_succ]at hm
   repeat' (first
    |(refine WLg.mk ?_;first
    |refine aa rfl rfl e1 rfl ?_|refine aa rfl rfl e2 rfl ?_|refine aa rfl rfl e3 rfl ?_|refine aa rfl rfl e4 rfl ?_|refine aa rfl rfl e5 rfl ?_|refine aa rfl rfl e7 rfl ?_|refine aa rfl rfl e8 rfl ?_|refine aa rfl rfl rfl rfl ?_|refine aE rfl rfl e6 rfl ?_)|apply ac|refine ae rfl ?_|apply ai|apply ah|apply aj|apply al|refine aB rfl ?_|apply bG.norm|fail)
   all_goals exact .norm ⟨_,_,bU KH,m/10,by omega,i,by omega,by omega,rfl,d6⟩
 exact⟨n,d,hn,c⟩
noncomputable section
def GC:FuncId->Option CF:=A7 [(66,cf66),(97,cf97)]
def EL:Option (V×H):=ju mU GC 6 (.fn 66) [] H0
end
theorem uU:xc EL=true:=by kernel_rfl
theorem c66:∃id h' es o,CN 66 [] H0 (.map id) h'/\h'.blk id=some (.map es o)/\oP es=true:=by
 obtain⟨id,h',es,o,e,k1,k2⟩:=jD uU;refine⟨id,h',es,o,pU (mJ λp hp=>?_) e,k1,k2⟩;rcases List.mem_cons.1 hp with rfl|hp
 ·exact⟨_,Tryz.func66,by decide,q66.2⟩
 ·rw [List.mem_singleton.1 hp]
  exact⟨_,Tryz.func97,by decide,q97.2⟩
theorem f51(n c a:Nat)(hn:n<1000000000)(ha:a<1000000000):∃k,CP 51 [.str n c,.int .i64 (Int.ofNat a)] (.int .i64 k):=by
 obtain⟨m,d,hm,c67⟩:=f67 a ha;obtain⟨id,h',es,o,c66,k1,k2⟩:=c66;have e1:POp.run (.bin .lss) [.int .i64 (Int.ofNat a),.int .i64 0]=some (.bool false):=rfl;obtain⟨v,c,k,rfl⟩:∃v,CP 51 [.str n c,.int .i64 (Int.ofNat a)] v/\∃k,v= .int .i64 k:=by
  refine dz Tryz.func51 (by decide) q51.2 rfl (bO (.flat rfl) (bO (.flat rfl) px0)) rfl ?_;have lk:∀n c,∃i,ROp.run (.lookup (.one .s) false (.int .i64 0)) [.map id,.str n c] h'=some (.int .i64 i):=λn c=>qh k1 k2;have c65:=f65 n c (bT [47]);have add:∀n c m d,Nat.blt (Nat.add n m) 1099511627776=true->POp.run (.bin .add) [.str n c,.str m d]=some (.str (Nat.add n m) (Nat.add c (Nat.shiftLeft d (Nat.mul 8 n)))):=λn c m d h=>by
   show oif (Nat.blt (Nat.add n m) 1099511627776) _=_;rw [h];rfl
  have e2:=add n c 1 47 (ltb (by show n+1<_;omega));have e3:=add (Nat.add n 1) (Nat.add c (Nat.shiftLeft 47 (Nat.mul 8 n))) m d (ltb (by show n+1+m<_;omega));obtain⟨i,hi⟩:=lk (Nat.add (Nat.add n 1) m) (Nat.add (Nat.add c (Nat.shiftLeft 47 (Nat.mul 8 n))) (Nat.shiftLeft d (Nat.mul 8 (Nat.add n 1))))
  repeat' (first
   |(refine WLg.mk ?_;first
   |refine aa rfl rfl e1 rfl ?_|refine aa rfl rfl e2 rfl ?_|refine aa rfl rfl e3 rfl ?_|refine aa rfl rfl rfl rfl ?_|refine ab rfl rfl hi rfl ?_|refine aq rfl rfl rfl (c65) rfl ?_|refine aq rfl rfl rfl (c67) rfl ?_|refine au rfl rfl rfl (c66) (λ_ _ q=>q) .none rfl ?_)|apply ac|refine ae rfl ?_|apply ai|apply ah|apply al|refine ak rfl (λht=>?_) (λht=>?_)|apply ap|apply bG.norm|apply bG.ret|exact⟨.inr rfl,_,rfl,.flat rfl,_,rfl⟩|fail)
  all_goals exact⟨.inr rfl,_,rfl,.flat rfl,_,rfl⟩
 exact⟨k,c⟩
end
end Ev
end Go.Proofs.YtdfphfdnoobikaaGreatDoor
