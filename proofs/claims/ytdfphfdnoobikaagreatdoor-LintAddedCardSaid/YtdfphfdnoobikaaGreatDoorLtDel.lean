/-
  The loop that takes a map's names out of another map.
-/
import Derived.Test.YtdfphfdnoobikaaGreatDoorLtCk5
namespace Go.Proofs.YtdfphfdnoobikaaGreatDoor
namespace Ev
section
theorem zD{E:En}{T:Ty}{g:G}{h1 h2:H}{w:World}(r:@WR E T g h1 w){it ki:Nat}{es:List (V×V)}{o:Bool}{m:Nat}{st:Option (List Nat×Nat)}(hn:h2.next=h1.next)(e:∀j,h2.blk j=if j=it then some .dead else if j=ki then some (.map es false)else h1.blk j)
  (hi:h1.blk it=some (.miter m st)) (hk:h1.blk ki=some (.map es o)):@WR E T g h2 w:=by
 have hne:it≠ki:=λq=>by rw [q,hk]at hi;cases hi
 have kin1:∀i b k,h2.blk i=some b->b.kin=some k->h1.blk i=some b:=λi b k e1 e2=>by
  rw [e]at e1
  split at e1
  ·cases e1;cases e2
  ·split at e1
   ·cases e1;cases e2
   ·exact e1
 have kin2:∀i b k,h1.blk i=some b->b.kin=some k->h2.blk i=some b:=λi b k e1 e2=>by
  rw [e,if_neg (λq=>by rw [q,hi]at e1;cases e1;cases e2),if_neg (λq=>by rw [q,hk]at e1;cases e1;cases e2)];exact e1
 have up:∀{i j d},Up h1 i j d->Up h2 i j d:=λu=>by
  induction u with
  |one e1 k1=>exact .one (kin2 _ _ _ e1 k1) k1
  |step e1 k1 _ ih=>exact .step (kin2 _ _ _ e1 k1) k1 ih
 have live:∀i b,h2.blk i=some b->b.live=true->∃b',h1.blk i=some b'/\b'.live=true/\b'.isRo=b.isRo:=λi b e1 e2=>by
  rw [e]at e1
  split at e1
  ·cases e1;cases e2
  ·split at e1
   ·rename_i q
    cases e1;exact⟨.map es o,by rw [q];exact hk,rfl,rfl⟩
   ·exact⟨b,e1,e2,rfl⟩
 cases r with
 |mk a1 a2 a3 a4 a5 a6 a7 a8=>
  refine @WR.mk E T g h2 w (by omega) (λid b q=>?_) (λid x q=>by have:=a3 id x q;omega) a4 (λid x b q1 q2=>?_) (λi j b o z o' z' bi bj hij q1 q2 q3 q4 q5 q6=>?_) (λi b j d ch q1 q2=>?_) (λi b j d ch b' q1 q2 q3=>?_)
  ·rw [hn]
   rw [e]at q
   split at q
   ·rename_i q2
    rw [q2];exact a2 _ _ hi
   ·split at q
    ·rename_i q2
     rw [q2];exact a2 _ _ hk
    ·exact a2 _ _ q
  ·rw [e]at q2
   split at q2
   ·cases q2
    trivial
   ·split at q2
    ·rename_i q3
     cases q2;subst q3;obtain⟨b1,o1,z1,m1,c1,k1,k2,k3,k4⟩:=a5 id x _ q1 hk;exact⟨b1,o1,z1,m1,c1,k1,k2,k3,k4.1,λq=>by cases q⟩
    ·exact a5 id x b q1 q2
  ·obtain⟨bi',k1,k2,k3⟩:=live i bi q3 q5
   obtain⟨bj',k4,k5,k6⟩:=live j bj q4 q6;rcases a6 i j b o z o' z' bi' bj' hij q1 q2 k1 k4 k2 k5 with⟨d,u,q⟩ | ⟨d,u,q⟩ | ⟨q,q'⟩
   ·exact .inl ⟨d,up u,q⟩
   ·exact .inr (.inl ⟨d,up u,q⟩)
   ·exact .inr (.inr ⟨k3▸q,k6▸q'⟩)
  ·obtain⟨b',up',k1,k2,k3⟩:=a7 i b j d ch (kin1 _ _ _ q1 q2) q2
   exact⟨b',up',kin2 _ _ _ k1 k2,k2,k3⟩
  ·obtain⟨b'',up',k1,k2,k3⟩:=a7 i b j d ch (kin1 _ _ _ q1 q2) q2
   have:=kin2 _ _ _ k1 k2;rw [q3]at this;cases this;exact a8 i b j d ch b' (kin1 _ _ _ q1 q2) q2 k1
theorem uA{K:Nat->Prop}{f f':F}{h1 h2:H}{it ki:Nat}{es:List (V×V)}{o:Bool}{m:Nat}{st:Option (List Nat×Nat)}(hn:h2.next=h1.next)(e:∀j,h2.blk j=if j=it then some .dead else if j=ki then some (.map es false)else h1.blk j)
  (hi:h1.blk it=some (.miter m st)) (hk:h1.blk ki=some (.map es o)) (f1:∀t v,lk f'.loc t=some v->lk f.loc t=some v) (f2:∀t v,lk f'.tmp t=some v->lk f.tmp t=some v):fG TP K f h1 f' h2:=by
 intro mm N E0 g0 w0 E g w tmps s fr;refine⟨E,g,⟨?_,s.envl,s.envn,s.fix,s.size,s.keep,s.inv,s.pin,s.os,s.tape,s.output⟩,⟨fr.1,λt v e=>fr.2 t v ?_⟩,λid b o z e=>⟨id,o,z,e⟩⟩
 ·refine Sit.mk' (zD s.sit.wr hn e hi hk) (λp hp=>?_) λb c q=>s.sit.env q
  obtain⟨q1,q2⟩:=s.sit.pin p hp;refine⟨q1,?_⟩;rw [e,if_neg (λq=>by rw [q,hi]at q2;cases q2),if_neg (λq=>by rw [q,hk]at q2;cases q2)];exact q2
 ·unfold rdn at e ⊢
  split at e
  ·rename_i q
   rw [if_pos q];exact f1 t v e
  ·rename_i q
   rw [if_neg q];exact f2 t v e
noncomputable section
def Eg:ci:= .loop (.seq (.reg [⟨.t 63,.e (.nextM),[.l 62],none,0,0⟩,⟨.l 64,.p (.ext 0),[.t 63],none,0,0⟩])
 (.seq (.cond (.l 64) .skip
 (.exit 4))
 (.block 5 (.seq (.reg [⟨.t 65,.e (.entryM),[.l 62],none,0,0⟩,⟨.t 66,.p (.ext 0),[.t 65],none,0,0⟩,⟨.l 14,.p (.mv),[.t 66],none,0,0⟩])
 (.reg [⟨.t 67,.p (.mv),[.l 10],none,0,0⟩,⟨.t 68,.p (.mv),[.l 14],none,0,0⟩,⟨.no,.e (.delete (.one .s)),[.t 67,.t 68],none,0,0⟩])))))
end
theorem yI:∀(s:Sc) (i:Nat),(scE s)[i]? =(s[i]?).map λp=>(sV p.1,V.int .i64 p.2)
 |[],i=>by simp [scE]
 |p ::l,0=>rfl
 |p ::l,i+1=>by
  show(scE l)[i]? =_;rw [yI l i];simp
theorem pJ:∀s:Sc,(scE s).length=s.length
 |[]=>rfl
 |p ::l=>congrArg (·+1) (pJ l)
def jZ(own:Sc)(seen:List Nat)(s:Sc):Sc:=s.filter λq=>!seen.any λi=>decide ((own[i]?).map (·.1)=some q.1)
theorem z8(own s:Sc):jZ own [] s=s:=by simp [jZ]
theorem xi{own s:Sc}{seen:List Nat}{i:Nat}{p:ByteArray×Int}(hp:own[i]? =some p)(nd:(s.map (·.1)).Nodup):ub (jZ own seen s) p.1=jZ own (seen++[i]) s:=by
 unfold jZ;rw [CL (sL nd),List.filter_filter]
 congr 1
 funext q
 rw [List.any_append,List.any_cons,List.any_nil,Bool.or_false,hp];simp only [Option.map_some,Option.some.injEq]
 by_cases e:p.1=q.1
 ·simp [e]
 ·simp [e,Ne.symm e]
theorem Aa{own s:Sc}{seen:List Nat}(h:∀i,i<own.length->i∈seen):jZ own seen s=jf s own:=by
 unfold jZ jf
 congr 1
 funext q
 congr 1
 rw [Bool.eq_iff_iff,List.any_eq_true,List.any_eq_true];constructor
 ·rintro⟨i,_,e⟩
  obtain⟨r,e1,e2⟩:=Option.map_eq_some_iff.1 (of_decide_eq_true e);exact⟨r,List.mem_of_getElem? e1,by simp [e2]⟩
 ·rintro⟨r,e1,e2⟩
  obtain⟨i,hi⟩:=List.mem_iff_getElem?.1 e1;exact⟨i,h i (List.getElem?_eq_some_iff.1 hi).1,by rw [hi];simp [of_decide_eq_true e2]⟩
def A5(n:Nat)(seen:List Nat):Nat:=((List.range n).filter λi=>!seen.contains i).length
theorem Cr{p q:Nat->Bool}:∀l:List Nat,(∀a,a∈l->q a=true->p a=true)->(l.filter q).length<=(l.filter p).length
 |[],_=>Nat.le_refl _
 |a ::l,h=>by
  have ih:=Cr l λb hb=>h b (List.mem_cons_of_mem _ hb);rw [List.filter_cons,List.filter_cons];cases hq:q a with
  |true=>
   rw [h a List.mem_cons_self hq,if_pos rfl,if_pos rfl,List.length_cons,List.length_cons];omega
  |false=>
   rw [if_neg (by simp)]
   split
   ·rw [List.length_cons]
    omega
   ·exact ih
theorem Cq{p q:Nat->Bool}{i:Nat}(hp:p i=true)(hq:q i=false):∀l:List Nat,(∀a,a∈l->q a=true->p a=true)->i∈l->(l.filter q).length<(l.filter p).length
 |[],_,k=>by cases k
 |a ::l,h,k=>by
  have le:=Cr l λb hb=>h b (List.mem_cons_of_mem _ hb);rw [List.filter_cons,List.filter_cons]
  by_cases e:a=i
  ·rw [e,hp,hq,if_pos rfl,if_neg (by simp),List.length_cons]
   omega
  ·have ih:=Cq hp hq l (λb hb=>h b (List.mem_cons_of_mem _ hb)) (by
    rcases List.mem_cons.1 k with k|k
    ·exact absurd k.symm e
    ·exact k)
   cases hq2:q a with
   |true=>
    rw [h a List.mem_cons_self hq2,if_pos rfl,if_pos rfl,List.length_cons,List.length_cons];omega
   |false=>
    rw [if_neg (by simp)]
    split
    ·rw [List.length_cons]
     omega
    ·exact ih
theorem Dh{n i:Nat}{seen:List Nat}(h:i<n)(k:i∉seen):A5 n (seen++[i])<A5 n seen:=
 Cq (by simpa using k) (by simp) _ (λa _ q=>by
  simp at q ⊢;exact q.1) (List.mem_range.2 h)
section
variable {K:Nat->Prop}
theorem OQ.op'{d:Dst}{o:COp}{args:List Opd}{lo hi:Nat}{l:List bS}{f:F}{h h1:H}{vs:List V}{v:V}{R:F->H->Prop}(e1:evs f args=some vs)(e2:o.run ft vs h=some (v,h1))(q:OQ Tryz.prog TP K l (d.put f v) h1 R):OQ Tryz.prog TP K (⟨d,o,args,none,lo,hi⟩ ::l) f h R:=by
 refine OQ.op qc kf ?_ q;show ob (some true) _=_;show ob (evs f args) _=_;rw [e1];show ob (o.run ft vs h) _=_;rw [e2];rfl
theorem ev1{f:F}{x:Opd}{v:V}(e:x.ev f=some v):evs f [x]=some [v]:=by
 show ob (x.ev f) _=_;rw [e];rfl
set_option maxHeartbeats 800000 in
theorem Fx{fr:AL}{h:H}{it ki km:Nat}{sc own:Sc}{o:Bool}(l62:lk fr 62=some (.ptr it 0))(l10:lk fr 10=some (.map ki))(n64:lk fr 64=none)(n14:lk fr 14=none)
  (e1:h.blk it=some (.miter km (some ([],own.length)))) (e2:h.blk km=some (.map (scE own) true)) (e3:h.blk ki=some (.map (scE sc) o)) (hkm:ki≠km) (hit:it<bR) (hki:ki<bR) (nd:(sc.map (·.1)).Nodup):
  C8 Tryz.prog TP K Eg ⟨fr,[]⟩ h (.exit 4) ⟨fr,[]⟩ ⟨(h.t.put ki (some (.map (scE (jf sc own)) false))).put it (some .dead),h.next⟩:=by
 have hik:it≠ki:=λq=>by rw [q,e3]at e1;cases e1
 have him:it≠km:=λq=>by rw [q,e2]at e1;cases e1
 have bl:∀j,(⟨(h.t.put ki (some (.map (scE (jf sc own)) false))).put it (some .dead),h.next⟩:H).blk j=if j=it then some .dead else if j=ki then some (.map (scE (jf sc own)) false)else h.blk j:=λj=>by
  show Tr.get _ _=_;rw [Tr.get_put _ _ _ _ hit]
  split
  ·rfl
  ·exact fy (h:=h) (n:=h.next) hki
 refine SQ.sem (SQ.loop (λk f h1=>∃loc seen o1,f=⟨loc,[]⟩/\k=A5 own.length seen/\(∀t v,lk fr t=some v->lk loc t=some v)/\h1.next=h.next/\h1.blk it=some (.miter km (some (seen,own.length)))/\h1.blk ki=some (.map (scE (jZ own seen sc)) o1)/\∀j,j≠it->j≠ki->h1.blk j=h.blk j) ?_ (k:=A5 own.length []) ⟨fr,[],o,rfl,rfl,λ_ _ e=>e,rfl,e1,by rw [z8];exact e3,λ_ _ _=>rfl⟩);rintro k f h1 ⟨loc,seen,o1,rfl,rfl,kl,nx,i1,i3,io⟩;have i2:h1.blk km=some (.map (scE own) true):=by rw [io km (Ne.symm him) (Ne.symm hkm)];exact e2
 have m62:=kl 62 _ l62;have m10:=kl 10 _ l10;refine SQ.seq (SQ.reg (λq=>by cases q) ?_);refine OQ.next (n:=own.length) (ev1 m62) i1 i2 (pJ own) (λall=>?_) (λi e hi hs he=>?_)
 ·refine OQ.op' (vs:=[.tup [.bool false]]) (v:= .bool false) (h1:=h1) rfl rfl (OQ.nil ?_)
  refine .inl ⟨rfl,SQ.seq (SQ.cond (t:=false) (by show lk (upd loc 64 (.bool false)) 64=_;rw [@mw noE,if_pos rfl]) (λq=>by cases q) λ_=>SQ.exit qc kf mixed (.inr ⟨(λq=>by cases q),.inr ⟨(λq=>by cases q),?_⟩⟩))⟩;rw [Aa all]at i3;refine⟨rfl,uA nx.symm (λj=>?_) i1 i3 (λt v q=>?_) (λt v q=>by cases q)⟩
  ·rw [bl]
   split
   ·rfl
   ·rename_i q1
    split
    ·rfl
    ·rename_i q2
     exact(io j q1 q2).symm
  ·have q:lk fr t=some v:=q
   show lk (upd loc 64 (.bool false)) t=some v;rw [@mw noE,if_neg (λe=>by rw [e,n64]at q;cases q)];exact kl t v q
 ·obtain⟨p,hp,rfl⟩:∃p,own[i]? =some p/\e=(sV p.1,V.int .i64 p.2):=by
   rw [yI]at he;obtain⟨p,q1,q2⟩:=Option.map_eq_some_iff.1 he;exact⟨p,q1,q2.symm⟩
  obtain⟨h2,hh2⟩:∃h2:H,h2=⟨h1.t.put it (some (.miter km (some (seen++[i],own.length)))),h1.next⟩:=⟨_,rfl⟩
  have b2:∀j,h2.blk j=if j=it then some (.miter km (some (seen++[i],own.length)))else h1.blk j:=λj=>by rw [hh2];exact fy hit
  rw [<-hh2];refine OQ.op' (vs:=[.tup [.bool true,sV p.1,.int .i64 p.2]]) (v:= .bool true) (h1:=h2) rfl rfl (OQ.nil ?_);refine .inl ⟨rfl,SQ.seq (SQ.cond (t:=true) (by show lk (upd loc 64 (.bool true)) 64=_;rw [@mw noE,if_pos rfl]) (λ_=>SQ.skip qc kf mixed (.inl ⟨rfl,?_⟩)) λq=>by cases q)⟩;have loc2:∀t v,t≠64->lk loc t=some v->lk (upd loc 64 (.bool true)) t=some v:=λt v ht e=>by rw [@mw noE,if_neg ht];exact e
  refine SQ.block (SQ.seq (SQ.reg (λq=>by cases q) ?_));refine OQ.entry (n:=own.length) (i:=i) (seen:=seen) (e:=(sV p.1,V.int .i64 p.2)) (ev1 (loc2 62 _ (by decide) m62)) (by rw [b2,if_pos rfl]) (by rw [b2,if_neg (Ne.symm him)];exact i2) (pJ own) he ?_;refine OQ.op' (vs:=[.tup [sV p.1,.int .i64 p.2]]) (v:=sV p.1) (h1:=h2) rfl rfl ?_;refine OQ.op' (vs:=[sV p.1]) (v:=sV p.1) (h1:=h2) rfl rfl (OQ.nil (.inl ⟨rfl,?_⟩));have loc3:∀t v,t≠64->t≠14->lk loc t=some v->lk (upd (upd loc 64 (.bool true)) 14 (sV p.1)) t=some v:=λt v ht ht2 e=>by rw [@mw noE,if_neg ht2];exact loc2 t v ht e
  have b3:h2.blk ki=some (.map (scE (jZ own seen sc)) o1):=by rw [b2,if_neg (Ne.symm hik)];exact i3
  refine SQ.reg (λq=>by cases q) ?_;refine OQ.op' (vs:=[.map ki]) (v:= .map ki) (h1:=h2) (ev1 (loc3 10 _ (by decide) (by decide) m10)) rfl ?_;refine OQ.op' (vs:=[sV p.1]) (v:=sV p.1) (h1:=h2) (ev1 (by show lk (upd (upd loc 64 (.bool true)) 14 (sV p.1)) 14=_;rw [@mw noE,if_pos rfl])) rfl ?_;refine OQ.op' (vs:=[.map ki,sV p.1]) (v:= .tup []) (h1:=⟨h2.t.put ki (some (.map (scE (ub (jZ own seen sc) p.1)) false)),h2.next⟩) rfl ?_ (OQ.nil ?_)
  ·show oif true (ob (ob (h2.blk ki) _) _)=_
   rw [b3];show ob (uc h2 (.one .s) (sV p.1) (scE (jZ own seen sc))) _=_;rw [CK];rfl
  ·have b4:∀j,(⟨h2.t.put ki (some (.map (scE (ub (jZ own seen sc) p.1)) false)),h2.next⟩:H).blk j=if j=ki then some (.map (scE (ub (jZ own seen sc) p.1)) false)else h2.blk j:=λj=>fy hki
   refine .inl ⟨rfl,A5 own.length (seen++[i]),Dh hi hs,_,seen++[i],false,rfl,rfl,λt v q=>loc3 t v (λe=>by rw [e,n64]at q;cases q) (λe=>by rw [e,n14]at q;cases q) (kl t v q),by rw [hh2];exact nx,by rw [b4,if_neg hik,b2,if_pos rfl],by rw [b4,if_pos rfl,xi hp nd],λj q1 q2=>by rw [b4,if_neg q2,b2,if_neg q1];exact io j q1 q2⟩
end
end
section
theorem Cp{x:Ex}(hx:bH (exO x)<=6000000){s:Sc}(hs:s.length<=6000000):∃n cs,Int.ofNat n=lU x (gJ s)/\CP 160 [.agg (exO x),.lst (gJ s).length 1 (gJ s)] (.lst n 1 cs):=by
 have st:nU (gJ s):=λc hc=>by
  obtain⟨l,_,rfl⟩:=List.mem_map.1 hc;exact⟨_,_,rfl⟩
 have h:∃cs,nU cs/\CP 160 [.agg (exO x),.lst (gJ s).length 1 (gJ s)] (.lst cs.length 1 cs):=f160 hx st (by rw [r7];exact hs);exact⟨_,h.choose,by rw [lU,dif_pos h],h.choose_spec.2⟩
theorem Af{M:Nat->Prop}{id:Nat}(h:¬M id):dg M (.map id):=λE g g' u hg k=>by
 cases k with
 |map e=>exact @VR.map E g' _ _ _ _ (hg _ _ h e)
theorem f162{h:H}{k:Nat}(np:2<h.next)(hk:k<h.next):CN 162 [.map k] h (.func (.func 170) [] [.eptr [.map k] 0]) h:=by
 have bx:dg (λid=>id=h.next) (.map k):=Af λq=>by omega
 obtain⟨h',c,rfl⟩:∃h',CN 162 [.map k] h (.func (.func 170) [] [.eptr [.map k] 0]) h'/\h'=h:=by
  refine cP Tryz.func162 (by decide) HH.2 rfl rfl (cR np) ?_
  repeat' (first
   |(refine WLg.mk ?_;first
   |refine aa rfl rfl rfl rfl ?_|refine aN (x:= .map k) rfl rfl rfl rfl bx rfl ?_)|apply ac|refine ae rfl ?_|apply ai|apply ah|apply ap|apply bG.norm|fail)
  exact⟨.inr rfl,_,rfl,Nat.le_refl _,rfl,rfl⟩
 exact c
noncomputable section
def fr148s(x:Ex)(k:Nat):AL:=[(0,.ptr 2 0),(2,.map k),(4,.eptr (exO x) 0)]
def fr148(x:Ex)(k i:Nat):AL:=[(0,.ptr 2 0),(2,.map k),(4,.eptr (exO x) 0),(27,.lst x.clauses.length 4 (clL x.clauses)),(28,.int .i64 (Int.ofNat x.clauses.length)),(29,.int .i64 (Int.ofNat i))]
def fr148b(x:Ex)(k i:Nat):AL:=[(0,.ptr 2 0),(2,.map k),(4,.eptr (exO x) 0),(8,.eptr (clO (bM x.clauses i)) 0),(27,.lst x.clauses.length 4 (clL x.clauses)),(28,.int .i64 (Int.ofNat x.clauses.length)),(29,.int .i64 (Int.ofNat i))]
def fr148c(x:Ex)(k i ki km j:Nat):AL:=[(0,.ptr 2 0),(2,.map k),(4,.eptr (exO x) 0),(8,.eptr (clO (bM x.clauses i)) 0),(10,.map ki),(11,.map km),(27,.lst x.clauses.length 4 (clL x.clauses)),(28,.int .i64 (Int.ofNat x.clauses.length)),(29,.int .i64 (Int.ofNat i)),
 (51,.lst (bM x.clauses i).pats.length 11 (exL (bM x.clauses i).pats)),(52,.int .i64 (Int.ofNat (bM x.clauses i).pats.length)),(53,.int .i64 (Int.ofNat j))]
def fr148d(x:Ex)(k i ki it:Nat):AL:=[(0,.ptr 2 0),(2,.map k),(4,.eptr (exO x) 0),(8,.eptr (clO (bM x.clauses i)) 0),(10,.map ki),(27,.lst x.clauses.length 4 (clL x.clauses)),(28,.int .i64 (Int.ofNat x.clauses.length)),(29,.int .i64 (Int.ofNat i)),(62,.ptr it 0)]
end
theorem f50e{D:Df}{p:Pl}{fl:List Fl}{h:H}(c:CS D p fl h)(hk:h.next+2<300000000)(code n:Int):∃h',CN 50 [.ptr 2 0,.int .i64 code,.str 0 0,.int .i64 n] h (.tup []) h'/\Gf D p (fl++[flw p code eB n]) h h' 2:=by
 obtain⟨h1,c1,q1,q2,q3,_⟩:=f50 c hk code n eB;exact⟨h1,c1,q1,q2,by omega⟩
set_option maxHeartbeats 1600000 in
theorem Cj{D:Df}{E:XF}{t:Nat}(ht6:t<=6000000)(X:EX D E t):FN D E t:=by
 intro x hx p fl k sc h c so hz hk;have hsz:=dM x;have hcn:=eT x.clauses;have hsl:=tM sc;obtain⟨n,cs,hn,c160⟩:=Cp (x:=x) (by omega) (s:=sc) (by omega);have c162:=f162 c.le so.hi;have c161:=xU so (by omega);obtain⟨h1,c1,g1⟩:=f50e c (by omega) 13 (Int.ofNat n);have g0:=(Gf.refl c).up (m:=2) (by omega);obtain⟨fl0,hfl0⟩:∃fl0,fl0=(if ltI 200 (lU x (gJ sc))then fl++[flw p 13 eB (lU x (gJ sc))]else fl):=⟨_,rfl⟩
 refine cP Tryz.func148 (by decide) HQ.2 rfl rfl (cR c.le) ?_
 repeat' (first
  |(refine WLg.mk ?_;first
  |refine aa rfl rfl rfl rfl ?_|refine aA rfl rfl RA rfl PB rfl ?_|refine au rfl rfl rfl (c1) (λ_ _ q=>q) .none rfl ?_)
  |(show WX _ _ _ _ _ _ _ _ _ _;first
  |refine aI rfl rfl rfl rfl ?_|refine aG rfl rfl rfl rfl ?_|refine aT rfl rfl rfl (c160) .none rfl ?_|refine aR rfl rfl rfl (c162) .none rfl ?_|refine aR rfl rfl rfl (c161) .none rfl ?_|refine aJ (by repeat' (first|exact bF.nil|refine bF.any (λh=>rfl) ?_|refine bF.first rfl ?_|refine bF.each (.cons rfl .nil) ?_|refine bF.each (.cons rfl (.cons rfl .nil)) ?_|refine bF.each (.cons rfl (.cons rfl (.cons rfl .nil))) ?_)) ?_)|apply ac|refine ae rfl ?_|(show WC _ _ _ _ _ (ci.seq (ci.seq _ (ci.seq _ (ci.cond (Opd.l 22) _ _))) _) _ _ _;refine aX (λl2 h2=>l2=fr148s x k/\Gf D p fl0 h h2 2) ?_ ?_)|apply ai|apply ah|apply al|refine ak rfl (λht=>?_) (λht=>?_)|refine aK ?_|apply bG.norm|fail)
 ·exact .norm ⟨_,_,bU KH,rfl,g1.eq (by rw [hfl0,<-hn,if_pos Hy])⟩
 ·exact .norm ⟨_,_,bU KH,rfl,g0.eq (by rw [hfl0,<-hn,if_neg (by rw [(by assumption:ltI 200 (Int.ofNat n)=false)];decide)])⟩
 clear c160 c162 c161 c1 g1 g0;rintro _ hs ⟨rfl,gs⟩
 repeat' (first
  |(refine WLg.mk ?_;first
  |refine aa rfl rfl rfl rfl ?_|refine ab rfl rfl rfl rfl ?_)|apply ac|refine ae rfl ?_|apply ai|apply ah|apply aj|apply bG.norm|fail)
 refine aw (bU (l:=fr148 x k 0) KH) ?_;refine ax x.clauses.length (λi f h1=>f=fr148 x k i/\Gf D p (bZ (λi g=>xj E p (Int.ofNat (bM x.clauses 0).pats.length) (bM x.clauses i) sc g) fl0 i) h h1 (2+40*bH (clL (x.clauses.take i)))) ?_ (i:=0) (Nat.zero_le _) ⟨rfl,gs.up (by omega)⟩;clear gs;clear hs;rintro i _ ha hi ⟨rfl,ga⟩;have hi2:i<9223372036854775807:=by omega
 have hnx:=ga.nx;cases q:ltI (Int.ofNat i) (Int.ofNat x.clauses.length)with
 |false=>
  have hie:i=x.clauses.length:=by have:=ce q;omega
  repeat' (first
   |(refine WLg.mk ?_;first
   |refine aa rfl rfl rfl rfl ?_)|apply ac|refine ae rfl ?_|apply ai|apply ah|refine ak rfl (λht=>Nx ht (by with_reducible assumption)) (λht=>?_)|apply av|apply bG.norm|apply bG.exit|apply OnC.exit|fail)
  subst hie;rw [List.take_length]at ga;exact⟨.inl rfl,_,rfl,ga.km.le,rfl,(ga.up (by omega)).eq (by rw [Ck,hfl0])⟩
 |true=>
  have hlt:=bL q;have hb0:Nat.blt 0 x.clauses.length=true:=ltb (by omega);have hpre:=mD hlt;have hle:=kB x.clauses (i+1);have hcs:=fJ (bM x.clauses i);have hpn:=dy (bM x.clauses i).pats;have hka:ha.next<900000000:=by omega
  have pp:∀v,v∈clO (bM x.clauses i)->bP v:=λv hv=>(gz _ v hv).x;obtain⟨h2,c2,g2⟩:=f50e ga.cs (by omega) 12 (Int.ofNat (bM x.clauses i).pats.length);have r0:=(Gf.refl ga.cs).up (m:=2) (by omega);obtain⟨fli,hfli⟩:∃fli,fli=bZ (λi g=>xj E p (Int.ofNat (bM x.clauses 0).pats.length) (bM x.clauses i) sc g) fl0 i:=⟨_,rfl⟩
  rw [<-hfli]at ga g2 r0
  repeat' (first
   |(refine WLg.mk ?_;first
   |refine aa rfl rfl (bN (i:=0) hb0) rfl ?_|refine aa rfl rfl rfl rfl ?_|refine aa rfl rfl (bN Hy) rfl ?_|refine ab rfl rfl (et (i:=0) hb0 rfl) rfl ?_|refine ab rfl rfl rfl rfl ?_|refine ab rfl rfl (gj Hy) rfl ?_|refine aC rfl rfl (cW hka) rfl rfl rfl rfl rfl rfl rfl rfl pp rfl rfl ?_|refine au rfl rfl rfl (c2) (λ_ _ q=>q) .none rfl ?_)|apply ac|refine ae rfl ?_|(show WC _ _ _ _ _ (ci.seq (ci.seq _ (ci.seq _ (ci.cond (Opd.l 43) _ _))) _) _ _ _;refine aX (λl2 h2=>l2=fr148b x k i/\Gf D p (if eqI (Int.ofNat (bM x.clauses i).pats.length) (Int.ofNat (bM x.clauses 0).pats.length)then fli else fli++[flw p 12 eB (Int.ofNat (bM x.clauses i).pats.length)]) ha h2 2) ?_ ?_)|apply ai|apply ah|apply aj|apply al|refine ak rfl (λht=>?_) (λht=>Nx (by with_reducible assumption) ht)|refine ak rfl (λht=>?_) (λht=>?_)|apply bG.norm|fail)
  ·exact .norm ⟨_,_,bU KH,rfl,g2.eq (by(try simp only [Bool.not_eq_true']at*)<;>first|(simp [*];done)|(simp_all [];done))⟩
  ·exact .norm ⟨_,_,bU KH,rfl,r0.eq (by(try simp only [Bool.not_eq_false']at*)<;>first|(simp [*];done)|(simp_all [];done))⟩
  clear c2 g2 r0;rintro _ hb ⟨rfl,gb⟩;obtain⟨fl2,hfl2⟩:∃fl2,fl2=(if eqI (Int.ofNat (bM x.clauses i).pats.length) (Int.ofNat (bM x.clauses 0).pats.length)then fli else fli++[flw p 12 eB (Int.ofNat (bM x.clauses i).pats.length)]):=⟨_,rfl⟩
  rw [<-hfl2]at gb;have nb:=gb.nx;have sob:=so.km0 (ga.km.trans gb.km);obtain⟨hc,cc,csc,soc,kmc,nxc⟩:=f103 gb.cs sob (by omega);obtain⟨csd,sod,kmd⟩:=csc.newmap (by omega) [] true List.nodup_nil
  repeat' (first
   |(refine WLg.mk ?_;first
   |refine aa rfl rfl rfl rfl ?_|refine ab rfl rfl rfl rfl ?_|refine aF (t:=hc.t) (k:=hc.next) rfl rfl rfl (cW (by omega)) rfl ?_|refine au rfl rfl rfl (cc) (λ_ _ q=>q) .none rfl ?_)|apply ac|refine ae rfl ?_|apply ai|apply ah|apply aj|apply bG.norm|fail)
  refine aw (bU (l:=fr148c x k i hb.next hc.next 0) KH) ?_;have ordd:∃es,(⟨hc.t.put hc.next (some (.map (scE []) true)),Nat.succ hc.next⟩:H).blk hc.next=some (.map es true):=⟨_,by rw [fy (by unfold bR;omega),if_pos rfl]⟩
  have nxd:(⟨hc.t.put hc.next (some (.map (scE []) true)),Nat.succ hc.next⟩:H).next=hc.next+1:=rfl
  change WC _ _ _ _ _ _ _ (⟨hc.t.put hc.next (some (.map (scE []) true)),Nat.succ hc.next⟩:H) _
  generalize (⟨hc.t.put hc.next (some (.map (scE []) true)),Nat.succ hc.next⟩:H)=hd at csd sod kmd ordd nxd ⊢;refine ax (bM x.clauses i).pats.length (λj f h1=>f=fr148c x k i hb.next hc.next j/\Gs D p fl2 hc.next (bZ (λj s=>gK B6 (bW (bM x.clauses i).pats j) s) [] j) hd h1 0) ?_ (i:=0) (Nat.zero_le _) ⟨rfl,Gs.refl csd sod⟩;rintro j _ he hj ⟨rfl,ge⟩;have hj2:j<9223372036854775807:=by omega
  have hne:=ge.nx;cases qj:ltI (Int.ofNat j) (Int.ofNat (bM x.clauses i).pats.length)with
  |true=>
   have hltj:=bL qj;have hprj:=fO hltj;have hlej:=eu (bM x.clauses i).pats (j+1);have hke:he.next<900000000:=by omega
   have pp:∀v,v∈exO (bW (bM x.clauses i).pats j)->bP v:=λv hv=>(cZ _ v hv).x;obtain⟨hu,cu,gu⟩:=nN B6 py (bW (bM x.clauses i).pats j) (rD (by omega)) ge.cs ge.so (by omega)
   repeat' (first
    |(refine WLg.mk ?_;first
    |refine aa rfl rfl rfl rfl ?_|refine aa rfl rfl (bN Hy) rfl ?_|refine ab rfl rfl (show ROp.run (.load true 11) [.eptr (exO (bW (bM x.clauses i).pats j)) 0] _=some (.agg (exO (bW (bM x.clauses i).pats j)))from rfl) rfl ?_|refine ab rfl rfl (dA Hy) rfl ?_|refine aC rfl rfl (cW hke) rfl rfl rfl rfl rfl rfl rfl rfl pp rfl rfl ?_|refine au rfl rfl rfl (cu) (λ_ _ q=>q) .none rfl ?_)|apply ac|refine ae rfl ?_|apply ai|apply ah|apply aj|apply al|refine ak rfl (λht=>?_) (λht=>Nx (by with_reducible assumption) ht)|apply bG.norm|fail)
   exact .norm ⟨_,_,bU KH,hltj,rfl,ge.trans gu⟩
  |false=>
   have hje:j=(bM x.clauses i).pats.length:=by have:=ce qj;omega
   subst hje;obtain⟨own,hown⟩:∃own,own=FL (bM x.clauses i):=⟨_,rfl⟩
   have ge:Gs D p fl2 hc.next own hd he 0:=by rw [hown];exact ge
   have oe:he.blk hc.next=some (.map (scE own) true):=by
    obtain⟨o1,k1⟩:=ge.so.out;obtain⟨es,k2⟩:=ordd;obtain⟨es2,k3⟩:=ge.km.od (by have:=ge.so.lo;omega) es k2;rw [k1]at k3;cases k3;exact k1
   have klt:=ge.so.hi;have klo:=ge.so.lo;have soe:Sco he hb.next sc:=(soc.km0 kmd).km ge.km.toKMx (by omega)
   obtain⟨oi,bi⟩:=soe.out;have hkk:900000002<bR:=by unfold bR;omega
   have rng:EOp.run .rangeM [.map hc.next] he=some (.ptr he.next 0,⟨he.t.put he.next (some (.miter hc.next (some ([],own.length)))),Nat.succ he.next⟩):=by
    show ob (ob (he.blk hc.next) _) _=_;rw [oe];show ob (H.new he (.miter hc.next (Bool.rec (motive:=λ_=>Option (List Nat×Nat)) none (some ([],bY (scE own))) (he.ord hc.next)))) _=_;rw [show he.ord hc.next=true by unfold H.ord;rw [oe],@bV noE,pJ];show ob (oif (Nat.blt he.next bR) _) _=_;rw [cW (by omega)];rfl
   obtain⟨hf,ehf⟩:∃hf:H,hf=⟨he.t.put he.next (some (.miter hc.next (some ([],own.length)))),Nat.succ he.next⟩:=⟨_,rfl⟩
   have bf:∀j,hf.blk j=if j=he.next then some (.miter hc.next (some ([],own.length)))else he.blk j:=λj=>by rw [ehf];exact fy (by omega)
   have nf:hf.next=he.next+1:=by rw [ehf]
   rw [<-ehf]at rng;have sm:=Fx (K:=λid=>id<h.next/\¬noM id) (fr:=fr148d x k i hb.next he.next) (h:=hf) (it:=he.next) (ki:=hb.next) (km:=hc.next) (sc:=sc) (own:=own) (o:=oi) rfl rfl rfl rfl (by rw [bf,if_pos rfl]) (by rw [bf,if_neg (by omega)];exact oe) (by rw [bf,if_neg (by omega)];exact bi) (by omega) (by omega) (by omega) so.nd;obtain⟨hg,ehg⟩:∃hg:H,hg=⟨(hf.t.put hb.next (some (.map (scE (jf sc own)) false))).put he.next (some .dead),hf.next⟩:=⟨_,rfl⟩
   rw [<-ehg]at sm;have bg:∀j,hg.blk j=if j=he.next then some .dead else if j=hb.next then some (.map (scE (jf sc own)) false)else hf.blk j:=λj=>by
    rw [ehg];show Tr.get _ _=_;rw [Tr.get_put _ _ _ _ (by omega)]
    split
    ·rfl
    ·exact fy (h:=hf) (n:=hf.next) (by omega)
   have ng:hg.next=he.next+1:=by rw [ehg];exact nf
   have old:∀j,j<he.next->j≠hb.next->hg.blk j=he.blk j:=λj q1 q2=>by rw [bg,if_neg (by omega),if_neg q2,bf,if_neg (by omega)]
   have csg:CS D p fl2 hg:=ge.cs.mono (by omega) λj q1 q2=>old j q1 λq3=>by
    subst q3;rcases q2 with q2|q2
    ·have:=soe.lo;omega
    ·exact q2 _ _ bi
   have sog:Sco hg hb.next (jf sc own):=⟨soe.lo,by have:=soe.hi;omega,sL so.nd,false,by rw [bg,if_neg (by have:=soe.hi;omega),if_pos rfl]⟩
   have kmg:KMx hb.next he hg:=⟨by omega,λj es o q1 q2 q3=>by rw [old j q1 q2];exact q3⟩
   have hzm:szS (jf sc own)<=szS sc:=sK;obtain⟨hu,cu,gu⟩:=f52 X (x:=bM x.clauses i) (by omega) (by omega) csg sog (by omega) (by omega);have nu:=gu.nx;have kb:=ga.km.trans gb.km;have nle:=kb.le;have kh:KM 0 h hu:=((((kb.trans kmc).trans kmd).fresh (by omega) ge.km.toKMx).fresh (by omega) kmg).fresh (by omega) gu.km.toKMx;have r:Gf D p (xj E p (Int.ofNat (bM x.clauses 0).pats.length) (bM x.clauses i) sc fli) h hu (2+40*bH (clL (x.clauses.take (i+1)))):=⟨by
    rw [xj,<-hfl2,<-hown];exact gu.cs,kh,by omega⟩
   rw [hfli]at r
   repeat' (first
    |(refine WLg.mk ?_;first
    |refine aa rfl rfl rfl rfl ?_|refine aE rfl rfl rng rfl ?_)|apply ac|refine ae rfl ?_|apply ai|apply ah|apply aj|refine ak rfl (λht=>Nx ht (by with_reducible assumption)) (λht=>?_)|apply av|apply bG.norm|apply bG.exit|apply OnC.exit|fail)
   refine aw (bU (l:=fr148d x k i hb.next he.next) KH) ?_;refine WC.sem sm ?_
   repeat' (first
    |(refine WLg.mk ?_;first
    |refine aa rfl rfl rfl rfl ?_|refine ab rfl rfl (show ROp.run (.load true 4) [.eptr (clO (bM x.clauses i)) 0] _=some (.agg (clO (bM x.clauses i)))from rfl) rfl ?_|refine au rfl rfl rfl (cu) (λ_ _ q=>q) .none rfl ?_)|apply ac|refine ae rfl ?_|apply ah|apply bG.norm|fail)
   exact .norm ⟨_,_,bU KH,hlt,rfl,r⟩
end
section
theorem oD{D:Df}:∀t,t<=6000001->EX D (lX D t) t
 |0,_=>λx hx=>by omega
 |t+1,ht=>xF (by omega) (oD t (by omega)) (Cj (by omega) (oD t (by omega)))
theorem G3{D:Df}:EX D (lX D B6) B6:=oD B6 py
noncomputable section
def nmB(a b:ByteArray):Bool:=cV a.size (bT a.data.toList) b.size (bT b.data.toList)
def plF(f:Fu)(i:Nat):Pl:=⟨f.name,f.arity,Int.ofNat (i+1)⟩
def rL(D:Df)(f:Fu)(i:Nat)(fl:List Fl):List Fl:=
 qS (lX D B6) (plF f i) (bM f.clauses i) [] (if nmB (bM f.clauses i).name f.name&&eqI (Int.ofNat (bM f.clauses i).pats.length) f.arity then fl else fl++[flw (plF f i) 4 (bM f.clauses i).name (Int.ofNat (bM f.clauses i).pats.length)])
def nA(f:Fu)(again:Bool)(fl:List Fl):List Fl:=
 if eqI (ri 51 [sV f.name,.int .i64 f.arity]) 0 then(if again then fl++[flw (plF f 0) 3 f.name f.arity]else fl)else(if again then fl++[flw (plF f 0) 3 f.name f.arity]else fl)++[flw (plF f 0) 5 f.name f.arity]
def fnF(D:Df)(f:Fu)(again:Bool)(fl:List Fl):List Fl:=bZ (λi fl=>rL D f i fl) (nA f again fl) f.clauses.length
def fr31(f:Fu)(i:Nat):AL:=[(0,.ptr 2 0),(4,.eptr (fuO f) 0),(36,.lst f.clauses.length 4 (clL f.clauses)),(37,.int .i64 (Int.ofNat f.clauses.length)),(38,.int .i64 (Int.ofNat i))]
def fr31s(f:Fu):AL:=[(0,.ptr 2 0),(4,.eptr (fuO f) 0)]
def fr31c(f:Fu)(i l7:Nat):AL:=[(0,.ptr 2 0),(4,.eptr (fuO f) 0),(7,.ptr l7 0),(36,.lst f.clauses.length 4 (clL f.clauses)),(37,.int .i64 (Int.ofNat f.clauses.length)),(38,.int .i64 (Int.ofNat i))]
def z4:List V:=[.str 0 0,.nils,.nils,.nils]
end
structure Gm(D:Df)(fl:List Fl)(h0 h:H)(n:Nat):Prop where
 cs:∃p,CS D p fl h
 km:KM 0 h0 h
 nx:h.next<=h0.next+n
set_option maxHeartbeats 1600000 in
theorem f31{D:Df}{p:Pl}{fl:List Fl}{h:H}(c:CS D p fl h){f:Fu}{a:Nat}(ha:f.arity=Int.ofNat a)(ha2:a<1000000000)(hf:bH (fuO f)<=6000000)(again:Bool)(hk:h.next+40*bH (fuO f)<300000000):∃h',CN 31 [.ptr 2 0,.agg (fuO f),.bool again] h (.tup []) h'/\Gm D (fnF D f again fl) h h' (40*bH (fuO f)):=by
 have hsz:=j7 f;have hcn:=eT f.clauses;have bx:∀v,v∈fuO f->bP v:=λv hv=>(oB f) v hv;obtain⟨h0,w0,c0,k0,n0⟩:=c.place (by omega) f.name f.arity;have c0:CS D (plF f 0) fl h0:=c0;obtain⟨h1,c1,q1,q2,q3,_⟩:=f50 c0 (by omega) 3 f.arity f.name;have c51:CP 51 [sV f.name,.int .i64 f.arity] (.int .i64 (ri 51 [sV f.name,.int .i64 f.arity])):=by
  rw [ha];obtain⟨k,q⟩:=f51 f.name.size (bT f.name.data.toList) a (by omega) ha2;exact vZ ⟨_,q,k,rfl⟩
 refine cP Tryz.func31 (by decide) q31.2 rfl rfl (cR c.le) ?_
 repeat' (first
  |(refine WLg.mk ?_;first
  |refine aa rfl rfl rfl rfl ?_|refine ab rfl rfl rfl rfl ?_|refine aA rfl rfl rfl rfl bx rfl ?_|refine au rfl rfl rfl (c1) (λ_ _ q=>q) .none rfl ?_|refine aE rfl rfl w0 rfl ?_)|apply ac|refine ae rfl ?_|(show WC _ _ _ _ _ (ci.seq (ci.seq _ (ci.cond (Opd.l 16) _ _)) _) _ _ _;refine aX (λl2 h2=>l2=fr31s f/\Gf D (plF f 0) (if again then fl++[flw (plF f 0) 3 f.name f.arity]else fl) h0 h2 2) ?_ ?_)|apply ai|apply ah|apply al|refine ak rfl (λht=>?_) (λht=>?_)|apply bG.norm|fail)
 ·exact .norm ⟨_,_,bU KH,rfl,(⟨q1,q2,by omega⟩:Gf D (plF f 0) _ h0 h1 2).eq (by(try simp only [Bool.not_eq_true',Bool.not_eq_false']at*)<;>first|(simp [*];done)|(simp_all [Bool.not_true];done))⟩
 ·exact .norm ⟨_,_,bU KH,rfl,((Gf.refl c0).up (m:=2) (by omega)).eq (by(try simp only [Bool.not_eq_true',Bool.not_eq_false']at*)<;>first|(simp [*];done)|(simp_all [Bool.not_true];done))⟩
 clear c1 q1 q2 q3 w0;rintro _ hs ⟨rfl,gs⟩;have ns:=gs.nx;obtain⟨h2,c2,q1,q2,q3,_⟩:=f50 gs.cs (by omega) 5 f.arity f.name
 repeat' (first
  |(refine WLg.mk ?_;first
  |refine aa rfl rfl rfl rfl ?_|refine ab rfl rfl rfl rfl ?_|refine aq rfl rfl rfl (c51) rfl ?_|refine au rfl rfl rfl (c2) (λ_ _ q=>q) .none rfl ?_)|apply ac|refine ae rfl ?_|(show WC _ _ _ _ _ (ci.seq (ci.seq _ (ci.cond (Opd.l 28) _ _)) _) _ _ _;refine aX (λl2 h2=>l2=fr31s f/\Gf D (plF f 0) (nA f again fl) h0 h2 4) ?_ ?_)|apply ai|apply ah|apply al|refine ak rfl (λht=>?_) (λht=>?_)|apply bG.norm|fail)
 ·exact .norm ⟨_,_,bU KH,rfl,((gs.trans (⟨q1,q2,by omega⟩:Gf D (plF f 0) _ hs h2 2)).up (by omega)).eq (by(try simp only [Bool.not_eq_true']at*)<;>first|(simp [nA, *];done)|(simp_all [nA];done))⟩
 ·exact .norm ⟨_,_,bU KH,rfl,(gs.up (m:=4) (by omega)).eq (by(try simp only [Bool.not_eq_false']at*)<;>first|(simp [nA, *];done)|(simp_all [nA];done))⟩
 clear c2 q1 q2 q3 gs ns;rintro _ hs ⟨rfl,gs⟩;have ns:=gs.nx
 repeat' (first
  |(refine WLg.mk ?_;first
  |refine aa rfl rfl rfl rfl ?_|refine ab rfl rfl rfl rfl ?_)|apply ac|refine ae rfl ?_|apply ai|apply ah|apply aj|apply bG.norm|fail)
 refine aw (bU (l:=fr31 f 0) KH) ?_;refine ax f.clauses.length (λi l h1=>l=fr31 f i/\(∃c,CS D ⟨f.name,f.arity,c⟩ (bZ (λi fl=>rL D f i fl) (nA f again fl) i) h1)/\KM 0 h h1/\h1.next<=h.next+4+40*bH (clL (f.clauses.take i))) ?_ (i:=0) (Nat.zero_le _) ⟨rfl,⟨_,gs.cs⟩,k0.trans gs.km,by omega⟩;clear gs ns;clear hs;rintro i _ ha hi ⟨rfl,⟨cc,csa⟩,kma,hnx⟩;have hi2:i<9223372036854775807:=by omega
 cases q:ltI (Int.ofNat i) (Int.ofNat f.clauses.length)with
 |false=>
  have hie:i=f.clauses.length:=by have:=ce q;omega
  repeat' (first
   |(refine WLg.mk ?_;first
   |refine aa rfl rfl rfl rfl ?_)|apply ac|refine ae rfl ?_|apply ai|apply ah|refine ak rfl (λht=>Nx ht (by with_reducible assumption)) (λht=>?_)|apply av|apply bG.norm|apply bG.exit|apply OnC.exit|fail)
  subst hie;rw [List.take_length]at hnx;exact⟨.inl rfl,_,rfl,kma.le,rfl,⟨_,csa⟩,kma,by omega⟩
 |true=>
  have hlt:=bL q;have hpre:=mD hlt;have hle:=kB f.clauses (i+1);have hcs:=fJ (bM f.clauses i);have hka:ha.next<900000000:=by omega
  obtain⟨hv,tr,wv,csv,kmv,nxv,bv,tv,_⟩:=csa.slot hka z4 (clO (bM f.clauses i)) rfl (by decide) rfl;obtain⟨hw,ww,csw,kmw,nxw,ow⟩:=csv.clause (by omega) (Int.ofNat (i+1));have csw:CS D (plF f i) _ hw:=csw;have l2:=csa.le;have bw:hw.blk ha.next=some (.cells 4 tr none false):=by rw [ow _ (by omega)];exact bv
  have r0:ROp.run (.load false 1) [.ptr ha.next 0] hw=some (sV (bM f.clauses i).name):=dw bw (tv 0 _ rfl) (by decide);have r1:ROp.run (.load false 1) [.ptr ha.next 1] hw=some (.lst (bM f.clauses i).pats.length 11 (exL (bM f.clauses i).pats)):=dw bw (tv 1 _ rfl) (by decide);have pa:POp.run (.bin .add) [.int .i64 (Int.ofNat i),.int .i64 1]=some (.int .i64 (Int.ofNat (i+1))):=by
   show some (V.int .i64 (cT .i64 (Int.add (Int.ofNat i) (Int.ofNat 1))))=_;rw [iU hi2]
  obtain⟨hx,cx,q1,q2,q3,qb⟩:=f50 csw (by omega) 4 (Int.ofNat (bM f.clauses i).pats.length) (bM f.clauses i).name;have gx:Gf D (plF f i) _ hw hx 2:=⟨q1,q2,by omega⟩
  have g0:=(Gf.refl csw).up (m:=2) (by omega);have bx2:=qb _ tr (by omega) bw;obtain⟨fli,hfli⟩:∃fli,fli=bZ (λi fl=>rL D f i fl) (nA f again fl) i:=⟨_,rfl⟩
  rw [<-hfli]at gx g0
  repeat' (first
   |(refine WLg.mk ?_;first
   |refine aa rfl rfl pa rfl ?_|refine aa rfl rfl rfl rfl ?_|refine aa rfl rfl (bN Hy) rfl ?_|refine ab rfl rfl r0 rfl ?_|refine ab rfl rfl r1 rfl ?_|refine ab rfl rfl rfl rfl ?_|refine ab rfl rfl (gj Hy) rfl ?_|refine aF (t:=ha.t) (k:=ha.next) rfl rfl rfl (cW hka) rfl ?_|refine au rfl rfl rfl (cx) (λ_ _ q=>q) .none rfl ?_|refine aE rfl rfl wv rfl ?_|refine aE rfl rfl ww rfl ?_)|apply ac|refine ae rfl ?_|refine ay rfl rfl ?_|refine az rfl (λht=>?_) (λht=>?_)|(show WC _ _ _ _ _ (ci.seq (ci.seq _ (ci.cond (Opd.l 61) _ _)) _) _ _ _;refine aX (λl2 h2=>l2=fr31c f i ha.next/\h2.blk ha.next=some (.cells 4 tr none false)/\Gf D (plF f i) (if nmB (bM f.clauses i).name f.name&&eqI (Int.ofNat (bM f.clauses i).pats.length) f.arity then fli else fli++[flw (plF f i) 4 (bM f.clauses i).name (Int.ofNat (bM f.clauses i).pats.length)]) hw h2 2) ?_ ?_)|apply ai|apply ah|apply aj|apply al|refine aD rfl ?_|refine ak rfl (λht=>?_) (λht=>Nx (by with_reducible assumption) ht)|refine ak rfl (λht=>?_) (λht=>?_)|apply bG.norm|fail)
  ·exact .norm ⟨_,_,bU KH,rfl,bx2,gx.eq (by(try simp only [Bool.not_eq_true']at*)<;>first|(simp [nmB, *];done)|(simp_all [nmB];done))⟩
  ·exact .norm ⟨_,_,bU KH,rfl,bx2,gx.eq (by(try simp only [Bool.not_eq_true',Bool.not_eq_false']at*)<;>first|(simp [nmB, *];done)|(simp_all [nmB];done))⟩
  ·exact .norm ⟨_,_,bU KH,rfl,bw,g0.eq (by(try simp only [Bool.not_eq_false']at*)<;>first|(simp [nmB, *];done)|(simp_all [nmB];done))⟩
  clear cx q1 q2 q3 qb gx g0 bx2 r0 r1 ww wv pa bv csv;rintro _ hy ⟨rfl,by2,gy⟩;obtain⟨fl3,hfl3⟩:∃fl3,fl3=(if nmB (bM f.clauses i).name f.name&&eqI (Int.ofNat (bM f.clauses i).pats.length) f.arity then fli else fli++[flw (plF f i) 4 (bM f.clauses i).name (Int.ofNat (bM f.clauses i).pats.length)]):=⟨_,rfl⟩
  rw [<-hfl3]at gy;have ny:=gy.nx;have ld4:ROp.run (.load true 4) [.ptr ha.next 0] hy=some (.agg (clO (bM f.clauses i))):=B3 by2 rfl tv;obtain⟨csm,som,kmm⟩:=gy.cs.newmap (by omega) [] true List.nodup_nil;have nxm:(⟨hy.t.put hy.next (some (.map (scE []) true)),Nat.succ hy.next⟩:H).next=hy.next+1:=rfl
  obtain⟨hu,cu,gu⟩:=f52 G3 (x:=bM f.clauses i) (rD (by omega)) py csm som (by simp only [szS,List.map_nil,List.sum_nil];omega) (by omega);have nu:=gu.nx;have kyl:=gy.km.le;have kh:KM 0 h hu:=(((((kma.trans kmv).trans kmw).trans gy.km).trans kmm).fresh (by have:=kma.le;omega) gu.km.toKMx)
  have csu:CS D (plF f i) (bZ (λi fl=>rL D f i fl) (nA f again fl) (i+1)) hu:=by
   show CS D (plF f i) (rL D f i (bZ (λi fl=>rL D f i fl) (nA f again fl) i)) hu;rw [rL,<-hfli,<-hfl3];exact gu.cs
  have pa:POp.run (.bin .add) [.int .i64 (Int.ofNat i),.int .i64 1]=some (.int .i64 (Int.ofNat (i+1))):=by
   show some (V.int .i64 (cT .i64 (Int.add (Int.ofNat i) (Int.ofNat 1))))=_;rw [iU hi2]
  repeat' (first
   |(refine WLg.mk ?_;first
   |refine aa rfl rfl pa rfl ?_|refine aa rfl rfl rfl rfl ?_|refine ab rfl rfl ld4 rfl ?_|refine aF (t:=hy.t) (k:=hy.next) rfl rfl rfl (cW (by omega)) rfl ?_|refine au rfl rfl rfl (cu) (λ_ _ q=>q) .none rfl ?_)|apply ac|refine ae rfl ?_|apply ah|apply bG.norm|fail)
  exact .norm ⟨_,_,bU KH,hlt,rfl,⟨_,csu⟩,kh,by omega⟩
end
section
abbrev Ky:=ByteArray×Int
abbrev Cn:=List (Ky×Int)
def dq:Cn->Ky->Int
 |[],_=>0
 |p ::l,k=>if k=p.1 then p.2 else dq l k
def jz:Cn->Ky->Int->Cn
 |[],k,v=>[(k,v)]
 |p ::l,k,v=>if k=p.1 then(k,v) ::l else p ::jz l k v
def rH:Cn->Ky->Option Nat
 |[],_=>none
 |p ::l,k=>if k=p.1 then some 0 else(rH l k).map (·+1)
noncomputable section
def kV(k:Ky):V:= .agg [sV k.1,.int .i64 k.2]
def cnE(l:Cn):List (V×V):=l.map λp=>(kV p.1,.int .i64 p.2)
abbrev Kc:Kk:= .agg [.s,.i]
end
theorem eC{a b:Int}:eqI a b=decide (a=b):=by rw [iL];rfl
theorem xk(h:H)(a b:Ky):fP h Kc (kV a) (kV b)=some (decide (a=b)):=by
 show ob (some (cV a.1.size (bT a.1.data.toList) b.1.size (bT b.1.data.toList))) (λc=>Bool.rec (motive:=λ_=>Option Bool) (some false) (ob (some (eqI a.2 b.2)) λc=>Bool.rec (motive:=λ_=>Option Bool) (some false) (some true) c) c)=_;rw [r8,eC];obtain⟨a1,a2⟩:=a;obtain⟨b1,b2⟩:=b
 by_cases q1:a1=b1
 ·by_cases q2:a2=b2
  ·subst q1 q2
   simp [ob]
  ·have e:decide (a2=b2)=false:=decide_eq_false q2
   rw [show decide ((a1,a2).1=(b1,b2).1)=true from decide_eq_true q1,show decide ((a1,a2).2=(b1,b2).2)=false from e,decide_eq_false (λk=>q2 (Prod.mk.inj k).2)];rfl
 ·rw [show decide ((a1,a2).1=(b1,b2).1)=false from decide_eq_false q1,decide_eq_false (λk=>q1 (Prod.mk.inj k).1)]
  rfl
theorem za(h:H)(k:Ky):∀l:Cn,∃r,dY h Kc (kV k) (cnE l)=some r/\gU false (.int .i64 0) r= .int .i64 (dq l k)
 |[]=>⟨none,rfl,rfl⟩
 |p ::l=>by
  obtain⟨r,q1,q2⟩:=za h k l;have e:∀x,dY h Kc (kV k) (cnE (p ::l))=x↔(ob (fP h Kc (kV k) (kV p.1)) λb=>Bool.rec (motive:=λ_=>Option (Option V)) (dY h Kc (kV k) (cnE l)) (some (some (.int .i64 p.2))) b)=x:=λx=>Iff.rfl
  by_cases q:k=p.1
  ·refine⟨some (.int .i64 p.2),(e _).2 ?_,?_⟩
   ·rw [xk,decide_eq_true q]
    rfl
   ·show V.int .i64 p.2= .int .i64 (if k=p.1 then p.2 else dq l k)
    rw [if_pos q]
  ·refine⟨r,(e _).2 ?_,?_⟩
   ·rw [xk,decide_eq_false q]
    exact q1
   ·show _=V.int .i64 (if k=p.1 then p.2 else dq l k)
    rw [if_neg q];exact q2
theorem wU(h:H)(k:Ky):∀l:Cn,vd h Kc (kV k) (cnE l)=some (rH l k)
 |[]=>rfl
 |p ::l=>by
  show(ob (fP h Kc (kV k) (kV p.1)) λb=>Bool.rec (motive:=λ_=>Option (Option Nat)) (ob (vd h Kc (kV k) (cnE l)) λr=>some (r.map (·+1))) (some (some 0)) b)=_;rw [xk,wU h k l,rH]
  by_cases q:k=p.1
  ·rw [decide_eq_true q,if_pos q]
   rfl
  ·rw [decide_eq_false q,if_neg q]
   rfl
theorem kx{h:H}{id:Nat}{l:Cn}{o:Bool}(b:h.blk id=some (.map (cnE l) o))(k:Ky):ROp.run (.lookup Kc false (.int .i64 0)) [.map id,kV k] h=some (.int .i64 (dq l k)):=by
 obtain⟨r,q1,q2⟩:=za h k l;show oif true (ob (ob (h.blk id) _) _)=_;rw [b];show ob (dY h Kc (kV k) (cnE l)) _=_;rw [q1];show some (gU false (.int .i64 0) r)=_;rw [q2]
theorem sf:∀{l:Cn} {k:Ky},rH l k=none->dq l k=0/\∀v,jz l k v=l++[(k,v)]
 |[],k,_=>⟨rfl,λ_=>rfl⟩
 |p ::l,k,h=>by
  rw [rH]at h
  split at h
  ·cases h
  ·rename_i q
   obtain⟨h1,h2⟩:=sf (l:=l) (k:=k) (by cases e:rH l k<;>rw [e]at h<;>first|rfl|cases h);exact⟨by rw [dq,if_neg q];exact h1,λv=>by rw [jz,if_neg q,h2];rfl⟩
theorem se:∀{l:Cn} {k:Ky} {j:Nat},rH l k=some j->l[j]? =some (k,dq l k)/\∀v,jz l k v=l.set j (k,v)
 |[],k,j,h=>by cases h
 |p ::l,k,j,h=>by
  rw [rH]at h
  split at h
  ·rename_i q
   cases h;obtain⟨a,b⟩:=p;have q:k=a:=q;subst q;exact⟨by rw [dq,if_pos rfl];rfl,λv=>by rw [jz,if_pos rfl];rfl⟩
  ·rename_i q
   cases e:rH l k with
   |none=>rw [e]at h;cases h
   |some i=>
    rw [e]at h;cases h;obtain⟨h1,h2⟩:=se (l:=l) (k:=k) (j:=i) e;exact⟨by rw [dq,if_neg q];simpa using h1,λv=>by rw [jz,if_neg q,h2];rfl⟩
theorem qM:∀{l:Cn} {k:Ky} {v:Int} {x:Ky},dq (jz l k v) x=if x=k then v else dq l x
 |[],k,v,x=>rfl
 |p ::l,k,v,x=>by
  rw [jz]
  split
  ·rename_i q
   show(if x=k then v else dq l x)=_
   by_cases e:x=k
   ·rw [if_pos e,if_pos e]
   ·rw [if_neg e,if_neg e,dq,if_neg (by rw [<-q];exact e)]
  ·rename_i q
   show(if x=p.1 then p.2 else dq (jz l k v) x)=_;rw [qM,dq]
   by_cases e:x=p.1
   ·rw [if_pos e,if_neg (by rw [e];exact λe2=>q e2.symm),if_pos e]
   ·rw [if_neg e,if_neg e]
theorem uh{h:H}{id:Nat}{l:Cn}(b:h.blk id=some (.map (cnE l) true))(hid:id<bR)(k:Ky)(v:Int):∃h1 h2 v0 j,EOp.run (.mapent Kc (.int .i64 0)) [.map id,kV k] h=some (.tup [v0,.int .i64 j],h1)/\ROp.run (.lookup Kc false (.int .i64 0)) [.map id,kV k] h1=some (.int .i64 (dq l k))/\EOp.run .entst [.map id,.int .i64 j,.int .i64 v] h1=some (cG,h2)/\
  h2.blk id=some (.map (cnE (jz l k v)) true)/\(∀i,i≠id->h2.blk i=h.blk i)/\h2.next=h.next:=by
 have ho:h.ord id=true:=by unfold H.ord;rw [b]
 have main:∀(es1:Cn) (j:Nat) (v0:V),es1[j]? =some (k,dq l k)->es1.set j (k,v)=jz l k v->es1=jz l k (dq l k)->EOp.run (.mapent Kc (.int .i64 0)) [.map id,kV k] h=some (.tup [v0,.int .i64 (Int.ofNat j)],⟨h.t.put id (some (.map (cnE es1) true)),h.next⟩)->
   ∃h1 h2 v0 j,EOp.run (.mapent Kc (.int .i64 0)) [.map id,kV k] h=some (.tup [v0,.int .i64 j],h1)/\ROp.run (.lookup Kc false (.int .i64 0)) [.map id,kV k] h1=some (.int .i64 (dq l k))/\EOp.run .entst [.map id,.int .i64 j,.int .i64 v] h1=some (cG,h2)/\
  h2.blk id=some (.map (cnE (jz l k v)) true)/\(∀i,i≠id->h2.blk i=h.blk i)/\h2.next=h.next:=λes1 j v0 q1 q2 q3 q4=>by
  obtain⟨h1,eh⟩:∃h1:H,h1=⟨h.t.put id (some (.map (cnE es1) true)),h.next⟩:=⟨_,rfl⟩
  rw [<-eh]at q4;have b1:∀i,h1.blk i=if i=id then some (.map (cnE es1) true)else h.blk i:=λi=>by rw [eh];exact fy hid
  have c1:h1.blk id=some (.map (cnE es1) true):=by rw [b1,if_pos rfl]
  have o1:h1.ord id=true:=by unfold H.ord;rw [c1]
  have hj:=(List.getElem?_eq_some_iff.1 q1).1;have b2:∀i,(⟨h1.t.put id (some (.map (cnE (jz l k v)) true)),h1.next⟩:H).blk i=if i=id then some (.map (cnE (jz l k v)) true)else h1.blk i:=λi=>fy hid
  refine⟨h1,⟨h1.t.put id (some (.map (cnE (jz l k v)) true)),h1.next⟩,v0,Int.ofNat j,q4,?_,?_,by rw [b2,if_pos rfl],λi hi=>by rw [b2,if_neg hi,b1,if_neg hi],by rw [eh]⟩
  ·have:=kx c1 k
   rw [q3,qM,if_pos rfl]at this;exact this
  ·show oif (h1.ord id) (ob (ob (h1.blk id) _) _)=_
   rw [o1,c1];show ob (oif (Nat.blt j (bY (cnE es1))) (some j)) (λj=>ob (d5 (cnE es1) j) λe=>some (cG,(⟨h1.t.put id (some (.map ((cnE es1).set j (e.1,V.int .i64 v)) true)),h1.next⟩:H)))=_;rw [@bV noE,ltb (show j<(cnE es1).length by rw [cnE,List.length_map];exact hj)];show ob (d5 (cnE es1) j) (λe=>some (cG,(⟨h1.t.put id (some (.map ((cnE es1).set j (e.1,V.int .i64 v)) true)),h1.next⟩:H)))=_;rw [@dD noE,show(cnE es1)[j]? =some (kV k,V.int .i64 (dq l k)) by rw [cnE,List.getElem?_map,q1];rfl];show some (cG,(⟨h1.t.put id (some (.map ((cnE es1).set j (kV k,V.int .i64 v)) true)),h1.next⟩:H))=_;rw [show(cnE es1).set j (kV k,V.int .i64 v)=cnE (jz l k v) by rw [<-q2,cnE,cnE,List.map_set]]
 cases e:rH l k with
 |none=>
  obtain⟨p1,p2⟩:=sf e;refine main (l++[(k,0)]) l.length (.int .i64 0) (by rw [p1];simp) (by rw [p2];simp) (by rw [p1,p2]) ?_;show oif (true&&h.ord id) (ob (ob (h.blk id) _) _)=_;rw [ho,b];show ob (vd h Kc (kV k) (cnE l)) _=_;rw [wU,e];show some (V.tup [.int .i64 0,.int .i64 (Int.ofNat (bY (cnE l)))],(⟨h.t.put id (some (.map (cnE l++[(kV k,.int .i64 0)]) true)),h.next⟩:H))=_;rw [@bV noE,cnE,List.length_map,cnE,List.map_append];rfl
 |some j=>
  obtain⟨p1,p2⟩:=se e;have hj:=(List.getElem?_eq_some_iff.1 p1).1;refine main (l.set j (k,dq l k)) j (.int .i64 (dq l k)) (by rw [List.getElem?_set_self hj]) (by rw [p2,List.set_set]) (by rw [p2]) ?_;show oif (true&&h.ord id) (ob (ob (h.blk id) _) _)=_;rw [ho,b];show ob (vd h Kc (kV k) (cnE l)) _=_;rw [wU,e];show ob (d5 (cnE l) j) (λe=>some (V.tup [e.2,.int .i64 (Int.ofNat j)],(⟨h.t.put id (some (.map ((cnE l).set j (kV k,e.2)) true)),h.next⟩:H)))=_;rw [@dD noE,show(cnE l)[j]? =some (kV k,V.int .i64 (dq l k)) by rw [cnE,List.getElem?_map,p1];rfl];show some (V.tup [.int .i64 (dq l k),.int .i64 (Int.ofNat j)],(⟨h.t.put id (some (.map ((cnE l).set j (kV k,V.int .i64 (dq l k))) true)),h.next⟩:H))=_;rw [show(cnE l).set j (kV k,V.int .i64 (dq l k))=cnE (l.set j (k,dq l k)) by rw [cnE,cnE,List.map_set]]
def nH(l:List Ky)(k:Ky):Nat:=(l.filter λq=>decide (q=k)).length
theorem sR(l:List Ky)(a k:Ky):nH (l++[a]) k=if k=a then nH l k+1 else nH l k:=by
 unfold nH;rw [List.filter_append,List.length_append]
 by_cases e:k=a
 ·subst e
  simp
 ·rw [if_neg e]
  simp [Ne.symm e]
theorem Eh(l:List Ky)(k:Ky):nH l k<=l.length:=List.length_filter_le _ _
def Cnt(l:Cn)(ks:List Ky):Prop:=∀k,dq l k=Int.ofNat (nH ks k)
theorem Cnt.nil:Cnt [] []:=λ_=>rfl
theorem Cnt.snoc{l:Cn}{ks:List Ky}(c:Cnt l ks)(hl:ks.length<1000000000)(k:Ky):Cnt (jz l k (cT .i64 (Int.add (dq l k) (Int.ofNat 1)))) (ks++[k]):=λx=>by
 have:=Eh ks k;rw [qM,sR]
 by_cases e:x=k
 ·subst e
  rw [if_pos rfl,if_pos rfl,c x,iU (by omega)]
 ·rw [if_neg e,if_neg e,c x]
end
section
noncomputable section
def kS(s:Sn):Ky:=(s.name,s.arity)
def iN(l:List Sn)(i:Nat):Bool:=decide (0<nH ((l.take i).map kS) (kS (dl l i)))
def ji(D:Df)(p:Pl)(s:Sn)(seen:Bool)(fl:List Fl):List Fl:=
 if D s.name s.arity then(if seen then fl++[flw p 1 s.name s.arity]else fl)else(if seen then fl++[flw p 1 s.name s.arity]else fl)++[flw p 2 s.name s.arity]
def lT(D:Df)(p:Pl)(l:List Sn)(fl:List Fl):List Fl:=bZ (λi fl=>ji D p (dl l i) (iN l i) fl) fl l.length
def fr30(l:List Sn)(km i:Nat):AL:=[(0,.ptr 2 0),(4,.map km),(8,.lst l.length 2 (snL l)),(9,.int .i64 (Int.ofNat l.length)),(10,.int .i64 (Int.ofNat i))]
def fr30b(l:List Sn)(km i:Nat):AL:=[(0,.ptr 2 0),(4,.map km),(6,.eptr (snO (dl l i)) 0),(8,.lst l.length 2 (snL l)),(9,.int .i64 (Int.ofNat l.length)),(10,.int .i64 (Int.ofNat i))]
end
theorem vo(n:Nat):ltI 0 (Int.ofNat n)=decide (0<n):=by
 show Nat.blt 0 n=_;rw [Bool.eq_iff_iff];simp [Nat.blt];omega
theorem CS.beside{D:Df}{p:Pl}{fl:List Fl}{h h':H}(c:CS D p fl h){k:Nat}{es:List (V×V)}{o:Bool}(b:h.blk k=some (.map es o))(hk:2<k)(hn:h'.next=h.next)(e:∀j,j≠k->h'.blk j=h.blk j):CS D p fl h'/\KMx k h h':=
 ⟨c.mono (Nat.le_of_eq hn.symm) λj _ q=>e j λq2=>by
  subst q2;rcases q with q|q
  ·omega
  ·exact q _ _ b,⟨Nat.le_of_eq hn.symm,λj es o _ hj q=>by rw [e j hj];exact q⟩⟩
set_option maxHeartbeats 1600000 in
theorem f30{D:Df}{p:Pl}{fl:List Fl}{h:H}(c:CS D p fl h)(l:List Sn)(hl:l.length<=6000000)(hk:h.next+1+4*l.length<300000000):∃h',CN 30 [.ptr 2 0,.lst l.length 2 (snL l)] h (.tup []) h'/\Gf D p (lT D p l fl) h h' (1+4*l.length):=by
 have c2:=c.le;have hkk:900000002<bR:=by unfold bR;omega
 obtain⟨cs0,so0,km0⟩:=c.newmap (by omega) [] true List.nodup_nil;have b0:(⟨h.t.put h.next (some (.map (scE []) true)),Nat.succ h.next⟩:H).blk h.next=some (.map (cnE []) true):=by rw [fy (by omega),if_pos rfl];rfl
 refine cP Tryz.func30 (by decide) cf30_ok rfl rfl (cR c.le) ?_
 repeat' (first
  |(refine WLg.mk ?_;first
  |refine aa rfl rfl rfl rfl ?_|refine aF (t:=h.t) (k:=h.next) rfl rfl rfl (cW (by omega)) rfl ?_)|apply ac|refine ae rfl ?_|apply ai|apply ah|apply aj|apply bG.norm|fail)
 refine aw (bU (l:=fr30 l h.next 0) KH) ?_;refine ax l.length (λi f h1=>f=fr30 l h.next i/\CS D p (bZ (λi fl=>ji D p (dl l i) (iN l i) fl) fl i) h1/\(∃cn,h1.blk h.next=some (.map (cnE cn) true)/\Cnt cn ((l.take i).map kS))/\KM 0 h h1/\h.next<h1.next/\h1.next<=h.next+1+4*i) ?_ (i:=0) (Nat.zero_le _) ⟨rfl,cs0,⟨[],b0,Cnt.nil⟩,km0,Nat.lt_succ_self _,Nat.le_refl _⟩;clear cs0 so0 km0 b0;rintro i _ ha hi ⟨rfl,csa,⟨cn,ba,ct⟩,kma,lta,nxa⟩;have hi2:i<9223372036854775807:=by omega
 cases q:ltI (Int.ofNat i) (Int.ofNat l.length)with
 |false=>
  have hie:i=l.length:=by have:=ce q;omega
  repeat' (first
   |(refine WLg.mk ?_;first
   |refine aa rfl rfl rfl rfl ?_)|apply ac|refine ae rfl ?_|apply ai|apply ah|refine ak rfl (λht=>Nx ht (by with_reducible assumption)) (λht=>?_)|apply av|apply bG.norm|apply bG.exit|apply OnC.exit|fail)
  subst hie;exact⟨.inl rfl,_,rfl,kma.le,rfl,csa,kma,by omega⟩
 |true=>
  have hlt:=bL q;have hka:ha.next<900000000:=by omega
  have pp:=wI (dl l i);have lk:=kx ba (kS (dl l i));have sn1:ltI 0 (dq cn (kS (dl l i)))=iN l i:=by rw [ct,vo];rfl
  obtain⟨h1,c1,q1,q2,q3,_⟩:=f50 csa (by omega) 1 (dl l i).arity (dl l i).name;obtain⟨fli,hfli⟩:∃fli,fli=bZ (λi fl=>ji D p (dl l i) (iN l i) fl) fl i:=⟨_,rfl⟩
  have g1:Gf D p (fli++[flw p 1 (dl l i).name (dl l i).arity]) ha h1 2:=⟨by rw [hfli];exact q1,q2,by omega⟩
  have g0:Gf D p fli ha ha 2:=(Gf.refl (by rw [hfli];exact csa)).up (by omega)
  repeat' (first
   |(refine WLg.mk ?_;first
   |refine aa rfl rfl rfl rfl ?_|refine aa rfl rfl (bN Hy) rfl ?_|refine ab rfl rfl (EO Hy) rfl ?_|refine ab rfl rfl (lk) rfl ?_|refine ab rfl rfl rfl rfl ?_|refine aC rfl rfl (cW hka) rfl rfl rfl rfl rfl rfl rfl rfl pp rfl rfl ?_|refine au rfl rfl rfl (c1) (λ_ _ q=>q) .none rfl ?_)|apply ac|refine ae rfl ?_|(show WC _ _ _ _ _ (ci.seq (ci.seq _ (ci.cond (Opd.l 17) _ _)) _) _ _ _;refine aX (λl2 h2=>l2=fr30b l h.next i/\Gf D p (if iN l i then fli++[flw p 1 (dl l i).name (dl l i).arity]else fli) ha h2 2) ?_ ?_)|apply ai|apply ah|apply aj|apply al|refine ak rfl (λht=>?_) (λht=>Nx (by with_reducible assumption) ht)|refine ak rfl (λht=>?_) (λht=>?_)|apply bG.norm|fail)
  ·exact .norm ⟨_,_,bU KH,rfl,g1.eq (by rw [if_pos (sn1.symm.trans Hy)])⟩
  ·exact .norm ⟨_,_,bU KH,rfl,g0.eq (by rw [if_neg (by rw [sn1.symm.trans (by assumption:ltI 0 (dq cn (kS (dl l i)))=false)];decide)])⟩
  clear c1 q1 q2 q3 g1 g0;rintro _ hb ⟨rfl,gb⟩;have nb:=gb.nx;have bb:=gb.km.mp h.next _ _ lta (by omega) ba
  obtain⟨h2,h3,v0,j,e1,e2,e3,b3,o3,n3⟩:=uh bb (by omega) (kS (dl l i)) (cT .i64 (Int.add (dq cn (kS (dl l i))) (Int.ofNat 1)));have lkb:=kx bb (kS (dl l i));obtain⟨cs3,km3⟩:=gb.cs.beside bb c2 n3 o3;have gbl:=gb.km.le
  repeat' (first
   |apply ai|fail)
  refine bh ?_
  repeat' (show WY _ _ _ _ _ _ _ _;first
   |refine bn (by repeat' (first|exact bF.nil|refine bF.first (lkb) ?_|refine bF.snd (lkb) ?_|refine bF.first (e2) ?_|refine bF.snd (e2) ?_|refine bF.two (lkb) (e2) ?_|refine bF.two (e2) (lkb) ?_|refine bF.any (λh=>rfl) ?_|refine bF.first rfl ?_)) ?_|refine aZ rfl rfl rfl rfl ?_|refine aM rfl rfl (lkb) rfl ?_|refine aM rfl rfl rfl rfl ?_|refine aS rfl rfl (e1) rfl ?_|refine aS rfl rfl (e3) rfl ?_|fail)
  obtain⟨de,od,bd,dd⟩:=cs3.b1;obtain⟨kd,lkd,ek⟩:=dd h3 1 od bd (dl l i).name (dl l i).arity;obtain⟨tr,v,f2,t0,t1,t2,t3,t4,gl⟩:=cs3.b2;have l3:ROp.run (.load false 1) [.ptr 2 3] h3=some (.map 1):=dw f2 t3 (by decide);obtain⟨h4,c4,p1,p2,p3,_⟩:=f50 cs3 (by omega) 2 (dl l i).arity (dl l i).name;have bb4:h4.blk h.next=some (.map (cnE (jz cn (kS (dl l i)) (cT .i64 (Int.add (dq cn (kS (dl l i))) (Int.ofNat 1))))) true):=p2.mp h.next _ _ (by omega) (by omega) b3
  have ct2:Cnt (jz cn (kS (dl l i)) (cT .i64 (Int.add (dq cn (kS (dl l i))) (Int.ofNat 1)))) ((l.take (i+1)).map kS):=by
   rw [uM hlt,List.map_append];exact ct.snoc (by rw [List.length_map,List.length_take];omega) _
  have kmb:KM 0 h h3:=(kma.trans gb.km).fresh (Nat.le_refl _) km3;have e5:ji D p (dl l i) (iN l i) fli=if D (dl l i).name (dl l i).arity then(if iN l i then fli++[flw p 1 (dl l i).name (dl l i).arity]else fli)else(if iN l i then fli++[flw p 1 (dl l i).name (dl l i).arity]else fli)++[flw p 2 (dl l i).name (dl l i).arity]:=rfl
  repeat' (first
   |apply ai|apply bG.norm|fail)
  refine bh ?_
  repeat' (show WY _ _ _ _ _ _ _ _;first
   |refine bn (by repeat' (first|exact bF.nil|refine bF.first (l3) ?_|refine bF.snd (l3) ?_|refine bF.first (lkd) ?_|refine bF.snd (lkd) ?_|refine bF.two (l3) (lkd) ?_|refine bF.two (lkd) (l3) ?_|refine bF.any (λh=>rfl) ?_|refine bF.first rfl ?_)) ?_|refine aZ rfl rfl rfl rfl ?_|refine aM rfl rfl (l3) rfl ?_|refine aM rfl rfl (lkd) rfl ?_|refine aM rfl rfl rfl rfl ?_|fail)
  repeat' (first
   |(refine WLg.mk ?_;first
   |refine aa rfl rfl rfl rfl ?_|refine ab rfl rfl rfl rfl ?_|refine au rfl rfl rfl (c4) (λ_ _ q=>q) .none rfl ?_)|apply ac|refine ae rfl ?_|apply ah|apply al|refine ak rfl (λht=>?_) (λht=>?_)|apply bG.norm|fail)
  ·have hd:D (dl l i).name (dl l i).arity=false:=by
    have:=(by assumption:eqI kd 0=true)
    rw [ek]at this
    simpa using this
   refine .norm ⟨_,_,bU KH,hlt,rfl,?_,⟨_,bb4,ct2⟩,kmb.trans p2,by omega,by omega⟩;show CS D p (ji D p (dl l i) (iN l i) (bZ (λi fl=>ji D p (dl l i) (iN l i) fl) fl i)) h4;rw [<-hfli,e5,if_neg (by rw [hd];decide)];exact p1
  ·have hd:D (dl l i).name (dl l i).arity=true:=by
    have:=(by assumption:eqI kd 0=false)
    rw [ek]at this
    simpa using this
   refine .norm ⟨_,_,bU KH,hlt,rfl,?_,⟨_,b3,ct2⟩,kmb,by omega,by omega⟩;show CS D p (ji D p (dl l i) (iN l i) (bZ (λi fl=>ji D p (dl l i) (iN l i) fl) fl i)) h3;rw [<-hfli,e5,if_pos hd];exact cs3
end
end Ev
end Go.Proofs.YtdfphfdnoobikaaGreatDoor
