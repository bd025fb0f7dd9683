/-
  The program:a closure on the expressions directly in a node,whatever it does.
-/
import Derived.Test.YtdfphfdnoobikaaGreatDoorLtSv1
namespace Go.Proofs.YtdfphfdnoobikaaGreatDoor
namespace Ev
section
noncomputable def smZ:Sm:= .mk false ex0 ex0
inductive Rk{α:Type}(C:α->H->Bool->H->Prop):List α->H->Bool->H->Prop
 |nil {h:H}:Rk C [] h true h
 |stop {y:α} {l:List α} {h h':H} (c:C y h false h'):Rk C (y ::l) h false h'
 |go {y:α} {l:List α} {h h1 h':H} {b:Bool} (c:C y h true h1) (k:Rk C l h1 b h'):Rk C (y ::l) h b h'
theorem Rk.app{α:Type}{C:α->H->Bool->H->Prop}:∀{a b:List α} {h h':H} {r:Bool},Rk C (a++b) h r h'->(∃h1,Rk C a h true h1/\Rk C b h1 r h')\/(r=false/\Rk C a h false h')
 |[],b,h,h',r,k=>.inl ⟨h,.nil,k⟩
 |y ::a,b,h,h',r,k=>by
  cases k with
  |stop c=>exact .inr ⟨rfl,.stop c⟩
  |go c k=>
   rcases Rk.app k with⟨h1,k1,k2⟩ | ⟨e,k1⟩
   ·exact .inl ⟨h1,.go c k1,k2⟩
   ·subst e
    exact .inr ⟨rfl,.go c k1⟩
structure CX(g:FuncId)(caps:List V)(v:V)(h:H)(b:Bool)(h':H):Prop where
 con:CN g (v ::caps) h (.bool b) h'
 le:h.next<=h'.next
 lt:Nat.blt h'.next bR=true
def CE(g:FuncId)(caps:List V)(y:Ex)(h:H)(b:Bool)(h':H):Prop:=CX g caps (.agg (exO y)) h b h'
structure Gr(h h':H):Prop where
 le:h.next<=h'.next
 lt:Nat.blt h'.next bR=true
theorem Gr.refl{h:H}(k:Nat.blt h.next bR=true):Gr h h:=⟨Nat.le_refl _,k⟩
theorem Gr.trans{a b c:H}(x:Gr a b)(y:Gr b c):Gr a c:=⟨Nat.le_trans x.le y.le,y.lt⟩
theorem CE.gr{g:FuncId}{caps:List V}{y:Ex}{h h':H}{b:Bool}(c:CE g caps y h b h'):Gr h h':=⟨CX.le c,CX.lt c⟩
theorem Rk.gr{α:Type}{C:α->H->Bool->H->Prop}(hc:∀y h b h',C y h b h'->Gr h h'):∀{l:List α} {h h':H} {r:Bool},Nat.blt h.next bR=true->Rk C l h r h'->Gr h h'
 |_,_,_,_,k,.nil=>.refl k
 |_,_,_,_,_,.stop c=>hc _ _ _ _ c
 |_,_,_,_,_,.go c k=>(hc _ _ _ _ c).trans (Rk.gr hc (hc _ _ _ _ c).lt k)
theorem jI{α:Type}{l:List α}{i:Nat}{d:α}(h:Nat.blt i l.length=true):l.drop i=(l[i]?).getD d ::l.drop (i+1):=by
 have h':=bL h;rw [List.drop_eq_getElem_cons h',List.getElem?_eq_getElem h'];rfl
theorem iC{α:Type}{l:List α}{i:Nat}(_:i<=l.length)(h:Nat.blt i l.length=false):l.drop i=[]:=by
 have:=ce h;rw [List.drop_eq_nil_iff];exact this
theorem eN{f:FuncId} {fn:Func} {cf:CF} {h h':H} {b:Bool} (hfn:Tryz.prog.funcs[f]? =some fn) (hnm:fn.name≠ "runtime.NumGoroutine") (hcf:bQ TP fn=some cf) {vs:List V} (hlen:vs.length=cf.params) {loc:AL} (hn:kP vs 0=some loc) (np:1 < h.next) (hle:h.next<=h'.next)
  (k:WC Tryz.prog TP (λid=>id<h.next/\¬noM id) ft 1 cf.code loc h (pv cf λv h1=>v= .bool b/\h1=h')):CN f vs h (.bool b) h':=by
 obtain⟨v,h1,c,rfl,rfl⟩:=ud (R:=λv h1=>v= .bool b/\h1=h') hfn hnm hcf hlen hn ⟨1,np,λq=>q,by decide⟩ (k.mono λx l h1 q=>⟨q.1,by
  obtain⟨l,k1,k2,k3⟩:=q.2;exact⟨l,k1,by rw [k3];exact hle,k2,k3⟩⟩)
 exact c
theorem ze{f:FuncId} {fn:Func} {cf:CF} {h h':H} {R:Int->Prop} (hfn:Tryz.prog.funcs[f]? =some fn) (hnm:fn.name≠ "runtime.NumGoroutine") (hcf:bQ TP fn=some cf) {vs:List V} (hlen:vs.length=cf.params) {loc:AL} (hn:kP vs 0=some loc) (np:1 < h.next) (hle:h.next<=h'.next)
  (k:WC Tryz.prog TP (λid=>id<h.next/\¬noM id) ft 1 cf.code loc h (pv cf λv h1=>(∃n,v= .int .i64 n/\R n)/\h1=h')):∃n,R n/\CN f vs h (.int .i64 n) h':=by
 obtain⟨v,h1,c,⟨n,rfl,r⟩,rfl⟩:=ud (R:=λv h1=>(∃n,v= .int .i64 n/\R n)/\h1=h') hfn hnm hcf hlen hn ⟨1,np,λq=>q,by decide⟩ (k.mono λx l h1 q=>⟨q.1,by
  obtain⟨l,k1,k2,k3⟩:=q.2;exact⟨l,k1,by rw [k3];exact hle,k2,k3⟩⟩)
 exact⟨n,r,c⟩
noncomputable section
def fr123(g:FuncId)(caps:List V)(l:List Ex)(i:Nat):AL:=[(0,.lst l.length 11 (exL l)),(1,.func (.func g) [] caps),(7,.int .i64 (Int.ofNat l.length)),(8,.int .i64 (Int.ofNat i))]
def fr110c(g:FuncId)(caps:List V)(l:List Sm)(i:Nat):AL:=[(0,.lst l.length 23 (smL l)),(1,.func (.func g) [] caps),(7,.int .i64 (Int.ofNat l.length)),(8,.int .i64 (Int.ofNat i))]
end
theorem f123c{g:FuncId}{caps:List V}{l:List Ex}(hl:l.length<9223372036854775807){h h':H}{b:Bool}(np:1<h.next)(hk:Nat.blt h.next bR=true)(k:Rk (λy h b h'=>CX g caps (.agg (exO y)) h (!b) h') l h b h'):
  ∃n,(!ltI n 0)= !b/\CN 123 [.lst l.length 11 (exL l),.func (.func g) [] caps] h (.int .i64 n) h':=by
 have gr:=k.gr (λy h b h' c=>⟨c.le,c.lt⟩) hk;refine ze (R:=λn=>(!ltI n 0)= !b) Tryz.func123 (by decide) H4.2 rfl rfl np gr.le ?_
 repeat' (first
  |(refine WLg.mk ?_;first
  |refine aa rfl rfl rfl rfl ?_)|apply ac|refine ae rfl ?_|apply ai|apply ah|apply aj|apply bG.norm|fail)
 refine aw (bU (l:=fr123 g caps l 0) KH) ?_;refine ax l.length (λi x h1=>x=fr123 g caps l i/\Rk (λy h b h'=>CX g caps (.agg (exO y)) h (!b) h') (l.drop i) h1 b h') ?_ (i:=0) (Nat.zero_le _) ⟨rfl,k⟩;rintro i _ h1 hi ⟨rfl,k⟩;have hi2:i<9223372036854775807:=by omega
 cases q:Nat.blt i l.length with
 |false=>
  rw [iC hi q]at k;cases k
  repeat' (first
   |(refine WLg.mk ?_;first
   |refine aa rfl rfl rfl rfl ?_|refine aa rfl rfl (bN Hy) rfl ?_|refine ab rfl rfl (dA Hy) rfl ?_)|apply ac|refine ae rfl ?_|apply ai|apply ah|apply aj|apply al|refine ak rfl (λht=>?_) (λht=>?_)|apply av|apply ap|apply bG.norm|apply bG.exit|apply OnC.exit|fail)
  all_goals first
   |exact absurd (q.symm.trans Hy) (by decide)|exact⟨.inr rfl,_,rfl,⟨_,rfl,rfl⟩,rfl⟩
 |true=>
  rw [jI (d:=ex0) q]at k;cases k with
  |stop c=>
   have c:=c.con
   repeat' (first
    |(refine WLg.mk ?_;first
    |refine aa rfl rfl rfl rfl ?_|refine aa rfl rfl (bN Hy) rfl ?_|refine ab rfl rfl (dA Hy) rfl ?_|refine au rfl rfl rfl (c) (λ_ _ q=>q) .none rfl ?_)|apply ac|refine ae rfl ?_|apply ai|apply ah|apply aj|apply al|refine aD rfl ?_|refine ak rfl (λht=>?_) (λht=>?_)|apply av|apply ap|apply bG.norm|apply bG.ret|apply bG.exit|apply OnC.ret|apply OnC.exit|fail)
   all_goals first
    |exact absurd (q.symm.trans Hy) (by decide)|exact⟨.inr rfl,_,rfl,⟨_,rfl,rfl⟩,rfl⟩
  |go c k=>
   have c:=c.con
   repeat' (first
    |(refine WLg.mk ?_;first
    |refine aa rfl rfl rfl rfl ?_|refine aa rfl rfl (bN Hy) rfl ?_|refine ab rfl rfl (dA Hy) rfl ?_|refine au rfl rfl rfl (c) (λ_ _ q=>q) .none rfl ?_)|apply ac|refine ae rfl ?_|apply ai|apply ah|apply aj|apply al|refine aB rfl ?_|refine ak rfl (λht=>?_) (λht=>?_)|apply av|apply ap|apply bG.norm|apply bG.exit|apply OnC.exit|fail)
   all_goals first
    |exact absurd (q.symm.trans Hy) (by decide)|exact .norm ⟨_,_,bU KH,bL q,rfl,k⟩
theorem f91c{g:FuncId}{caps:List V}{l:List Ex}(hl:l.length<9223372036854775807){h h':H}{b:Bool}(np:1<h.next)(hk:Nat.blt h.next bR=true)(k:Rk (λy h b h'=>CX g caps (.agg (exO y)) h (!b) h') l h b h'):
  CN 91 [.lst l.length 11 (exL l),.func (.func g) [] caps] h (.bool (!b)) h':=by
 have gr:=k.gr (λy h b h' c=>⟨c.le,c.lt⟩) hk;obtain⟨n,e,c⟩:=f123c hl np hk k;refine eN Tryz.func91 (by decide) q91.2 rfl rfl np gr.le ?_
 repeat' (first
  |(refine WLg.mk ?_;first
  |refine aa rfl rfl rfl rfl ?_|refine au rfl rfl rfl (c) (λ_ _ q=>q) .none rfl ?_)|apply ac|refine ae rfl ?_|apply ai|apply ah|apply ap|apply bG.norm|fail)
 exact⟨.inr rfl,_,rfl,by rw [<-e];rfl,rfl⟩
theorem f110c{g:FuncId}{caps:List V}{l:List Sm}(hl:l.length<9223372036854775807){h h':H}{b:Bool}(np:1<h.next)(hk:Nat.blt h.next bR=true)(k:Rk (λy h b h'=>CX g caps (.agg (smO y)) h (!b) h') l h b h'):
  ∃n,(!ltI n 0)= !b/\CN 110 [.lst l.length 23 (smL l),.func (.func g) [] caps] h (.int .i64 n) h':=by
 have gr:=k.gr (λy h b h' c=>⟨c.le,c.lt⟩) hk;refine ze (R:=λn=>(!ltI n 0)= !b) Tryz.func110 (by decide) FF.2 rfl rfl np gr.le ?_
 repeat' (first
  |(refine WLg.mk ?_;first
  |refine aa rfl rfl rfl rfl ?_)|apply ac|refine ae rfl ?_|apply ai|apply ah|apply aj|apply bG.norm|fail)
 refine aw (bU (l:=fr110c g caps l 0) KH) ?_;refine ax l.length (λi x h1=>x=fr110c g caps l i/\Rk (λy h b h'=>CX g caps (.agg (smO y)) h (!b) h') (l.drop i) h1 b h') ?_ (i:=0) (Nat.zero_le _) ⟨rfl,k⟩;rintro i _ h1 hi ⟨rfl,k⟩;have hi2:i<9223372036854775807:=by omega
 cases q:Nat.blt i l.length with
 |false=>
  rw [iC hi q]at k;cases k
  repeat' (first
   |(refine WLg.mk ?_;first
   |refine aa rfl rfl rfl rfl ?_|refine aa rfl rfl (bN Hy) rfl ?_|refine ab rfl rfl (gV Hy) rfl ?_)|apply ac|refine ae rfl ?_|apply ai|apply ah|apply aj|apply al|refine ak rfl (λht=>?_) (λht=>?_)|apply av|apply ap|apply bG.norm|apply bG.exit|apply OnC.exit|fail)
  all_goals first
   |exact absurd (q.symm.trans Hy) (by decide)|exact⟨.inr rfl,_,rfl,⟨_,rfl,rfl⟩,rfl⟩
 |true=>
  rw [jI (d:=smZ) q]at k;cases k with
  |stop c=>
   have c:=c.con
   repeat' (first
    |(refine WLg.mk ?_;first
    |refine aa rfl rfl rfl rfl ?_|refine aa rfl rfl (bN Hy) rfl ?_|refine ab rfl rfl (gV Hy) rfl ?_|refine au rfl rfl rfl (c) (λ_ _ q=>q) .none rfl ?_)|apply ac|refine ae rfl ?_|apply ai|apply ah|apply aj|apply al|refine aD rfl ?_|refine ak rfl (λht=>?_) (λht=>?_)|apply av|apply ap|apply bG.norm|apply bG.ret|apply bG.exit|apply OnC.ret|apply OnC.exit|fail)
   all_goals first
    |exact absurd (q.symm.trans Hy) (by decide)|exact⟨.inr rfl,_,rfl,⟨_,rfl,rfl⟩,rfl⟩
  |go c k=>
   have c:=c.con
   repeat' (first
    |(refine WLg.mk ?_;first
    |refine aa rfl rfl rfl rfl ?_|refine aa rfl rfl (bN Hy) rfl ?_|refine ab rfl rfl (gV Hy) rfl ?_|refine au rfl rfl rfl (c) (λ_ _ q=>q) .none rfl ?_)|apply ac|refine ae rfl ?_|apply ai|apply ah|apply aj|apply al|refine aB rfl ?_|refine ak rfl (λht=>?_) (λht=>?_)|apply av|apply ap|apply bG.norm|apply bG.exit|apply OnC.exit|fail)
   all_goals first
    |exact absurd (q.symm.trans Hy) (by decide)|exact .norm ⟨_,_,bU KH,bL q,rfl,k⟩
theorem f77c{g:FuncId}{caps:List V}{l:List Sm}(hl:l.length<9223372036854775807){h h':H}{b:Bool}(np:1<h.next)(hk:Nat.blt h.next bR=true)(k:Rk (λy h b h'=>CX g caps (.agg (smO y)) h (!b) h') l h b h'):
  CN 77 [.lst l.length 23 (smL l),.func (.func g) [] caps] h (.bool (!b)) h':=by
 have gr:=k.gr (λy h b h' c=>⟨c.le,c.lt⟩) hk;obtain⟨n,e,c⟩:=f110c hl np hk k;refine eN Tryz.func77 (by decide) q77.2 rfl rfl np gr.le ?_
 repeat' (first
  |(refine WLg.mk ?_;first
  |refine aa rfl rfl rfl rfl ?_|refine au rfl rfl rfl (c) (λ_ _ q=>q) .none rfl ?_)|apply ac|refine ae rfl ?_|apply ai|apply ah|apply ap|apply bG.norm|fail)
 exact⟨.inr rfl,_,rfl,by rw [<-e];rfl,rfl⟩
end
section
theorem eQ{M:Nat->Prop}{f:Fn}{a b:List V}(ha:∀v,v∈a->dg M v)(hb:∀v,v∈b->dg M v):dg M (.func f a b):=λE g g' u hg h=>by
 cases h with
 |func p q=>exact @VR.func E g' _ _ _ _ _ (li hg ha p) (li hg hb q)
theorem fh{M:Nat->Prop}{cs:List V}{o:Nat}(hc:∀v,v∈cs->dg M v):dg M (.eptr cs o):=λE g g' u hg h=>by
 cases h with
 |eptr e hx h=>exact @VR.eptr E g' _ _ _ _ _ _ e hx (li hg hc h)
theorem eI{M:Nat->Prop}{id o:Nat}(h:¬M id):dg M (.ptr id o):=λE g g' u hg k=>by
 cases k with
 |ptr e=>exact @VR.ptr E g' _ _ _ _ _ (hg _ _ h e)
theorem Ag{M:Nat->Prop}{k:IntKind}{n:Int}:dg M (.int k n):=(bP.flat rfl).free
theorem lj{M:Nat->Prop}{v:V}(h:dg M v):∀c,c∈[v]->dg M c:=λc hc=>by rw [List.mem_singleton.1 hc];exact h
section
variable {loc tmp loc' tmp':AL} {h h1:H} {l:List bS} {R:AL->H->Prop} {d:Dst} {args:List Opd} {gd:Option (Opd×Bool)} {lo hi:Nat} {P:Program} {T:Ty} {K:Nat->Prop} {call:cB}
theorem aN{x:V}(e0:bX ⟨loc,tmp⟩ gd=some true)(e1:evs ⟨loc,tmp⟩ args=some [x])(hx:cellsOf x=[x])(h1:cE x=true)(hf:dg (λid=>id=h.next) x)
  (e3:fA d (.eptr [x] 0) loc tmp=some (loc',tmp')) (k:WL P T K call l loc' tmp' h R):WL P T K call (⟨d,.a .box,args,gd,lo,hi⟩ ::l) loc tmp h R:=by
 refine bD (cs:=[x]) (mk:=λi=>.ptr i 0) e0 e1 ?_ (.inl ⟨rfl,rfl⟩) (by show 1<=bR;unfold bR;omega) (lj hf) e3 k;show ob (oif (cF (cellsOf x)) (oif (Nat.blt (bY (cellsOf x)) bR) (some (Blk.cells (bY (cellsOf x)) (cq (cellsOf x) 0 .e) none false)))) _=_;rw [hx];show ob (oif (Bool.rec (motive:=λ_=>Bool) false (cF []) (cE x)) _) _=_;rw [h1];rfl
end
theorem f92{g:FuncId}{caps:List V}{y:Ex}{h h':H}{b:Bool}(np:1<h.next)(c:CE g caps y h b h'):CX 92 [.eptr [.func (.func g) [] caps] 0] (.agg (exO y)) h (!b) h':=by
 refine⟨?_,c.gr.le,c.gr.lt⟩;have c:=CX.con c;refine eN Tryz.func92 (by decide) q92.2 rfl rfl np ‹CE g caps y h b h'›.gr.le ?_
 repeat' (first
  |(refine WLg.mk ?_;first
  |refine aa rfl rfl rfl rfl ?_|refine ab rfl rfl (show ROp.run (.load true 11) [.eptr (exO y) 0] _=some (.agg (exO y))from rfl) rfl ?_|refine ab rfl rfl rfl rfl ?_|refine aA rfl rfl RA rfl PB rfl ?_|refine au rfl rfl rfl (c) (λ_ _ q=>q) .none rfl ?_)|apply ac|refine ae rfl ?_|apply ai|apply ah|apply ap|apply bG.norm|fail)
 exact⟨.inr rfl,_,rfl,rfl,rfl⟩
theorem Rk.up{α:Type}{C C':α->H->Bool->H->Prop}(hg:∀y h b h',C y h b h'->Gr h h')(hc:∀y h b h',1<h.next->C y h b h'->C' y h b h'):∀{l:List α} {h h':H} {r:Bool},1<h.next->Rk C l h r h'->Rk C' l h r h'
 |_,_,_,_,_,.nil=>.nil
 |_,_,_,_,np,.stop c=>.stop (hc _ _ _ _ np c)
 |_,_,_,_,np,.go c k=>.go (hc _ _ _ _ np c) (Rk.up hg hc (Nat.lt_of_lt_of_le np (hg _ _ _ _ c).le) k)
theorem f90{g:FuncId}{caps:List V}{l:List Ex}(hl:l.length<9223372036854775807){h h':H}{b:Bool}(np:1<h.next)(hk:Nat.blt h.next bR=true)(k:Rk (CE g caps) l h b h'):
  CN 90 [.lst l.length 11 (exL l),.eptr [.func (.func g) [] caps] 0] h (.bool b) h':=by
 have gr:=k.gr (λy h b h' c=>c.gr) hk;have c:=f91c hl np hk (Rk.up (λ_ _ _ _ c=>c.gr) (λy h b h' np c=>f92 np c) np k);refine eN Tryz.func90 (by decide) q90.2 rfl rfl np gr.le ?_
 repeat' (first
  |(refine WLg.mk ?_;first
  |refine aa rfl rfl rfl rfl ?_|refine au rfl rfl rfl (c) (λ_ _ q=>q) .none rfl ?_)|apply ac|refine ae rfl ?_|apply ai|apply ah|apply ap|apply bG.norm|fail)
 exact⟨.inr rfl,_,rfl,by rw [Bool.not_not];rfl,rfl⟩
def smK(s:Sm):List Ex:=if s.isMatch then [s.pat,s.val]else [s.val]
theorem Rk.body{C:Ex->H->Bool->H->Prop}:∀{l:List Sm} {h h':H} {r:Bool},Rk C (df l) h r h'->Rk (λs=>Rk C (smK s)) l h r h'
 |[],_,_,_,k=>by cases k;exact .nil
 |s ::l,h,h',r,k=>by
  have k:Rk C (smK s++df l) h r h':=k;rcases k.app with⟨h1,k1,k2⟩ | ⟨rfl,k1⟩
  ·exact .go k1 (Rk.body k2)
  ·exact .stop k1
theorem f94{g:FuncId}{caps:List V}{s:Sm}{h h':H}{b:Bool}(np:1<h.next)(hk:Nat.blt h.next bR=true)(k:Rk (CE g caps) (smK s) h b h'):CX 94 [.eptr [.func (.func g) [] caps] 0] (.agg (smO s)) h (!b) h':=by
 have gr:=k.gr (λy h b h' c=>c.gr) hk;refine⟨?_,gr.le,gr.lt⟩;refine eN Tryz.func94 (by decide) q94.2 rfl rfl np gr.le ?_;unfold smK at k;cases q:s.isMatch with
 |false=>
  rw [q,if_neg (by decide)]at k;obtain c:CE g caps s.val h b h':=by
   cases k with
   |stop c=>exact c
   |go c k=>cases k;exact c
  have c:=CX.con c
  repeat' (first
   |(refine WLg.mk ?_;first
   |refine aa rfl rfl rfl rfl ?_|refine ab rfl rfl (show ROp.run (.load true 11) [.eptr (smO s) 12] _=some (.agg (exO s.val))from rfl) rfl ?_|refine ab rfl rfl rfl rfl ?_|refine aA rfl rfl RA rfl PB rfl ?_|refine au rfl rfl rfl (c) (λ_ _ q=>q) .none rfl ?_)|apply ac|refine ae rfl ?_|refine ay rfl rfl ?_|refine az rfl (λht=>?_) (λht=>?_)|apply ai|apply ah|apply ap|apply bG.norm|fail)
  all_goals first
   |exact absurd (q.symm.trans ht) (by decide)|exact⟨.inr rfl,_,rfl,by cases b<;>rfl,rfl⟩
 |true=>
  rw [q,if_pos rfl]at k;cases k with
  |stop c=>
   have c:=CX.con c
   repeat' (first
    |(refine WLg.mk ?_;first
    |refine aa rfl rfl rfl rfl ?_|refine ab rfl rfl (show ROp.run (.load false 1) [.eptr (smO s) 0] _=some (.bool true) by rw [<-q];rfl) rfl ?_|refine ab rfl rfl (show ROp.run (.load true 11) [.eptr (smO s) 1] _=some (.agg (exO s.pat))from rfl) rfl ?_|refine ab rfl rfl rfl rfl ?_|refine aA rfl rfl RA rfl PB rfl ?_|refine au rfl rfl rfl (c) (λ_ _ q=>q) .none rfl ?_)|apply ac|refine ae rfl ?_|refine ay rfl rfl ?_|apply ai|apply ah|apply ap|apply bG.norm|fail)
   all_goals first
    |exact absurd (q.symm.trans ht) (by decide)|exact⟨.inr rfl,_,rfl,rfl,rfl⟩
  |go c k=>
   rename_i h1
   obtain c2:CE g caps s.val h1 b h':=by
    cases k with
    |stop c=>exact c
    |go c k=>cases k;exact c
   have c:=CX.con c;have c2:=CX.con c2
   repeat' (first
    |(refine WLg.mk ?_;first
    |refine aa rfl rfl rfl rfl ?_|refine ab rfl rfl (show ROp.run (.load false 1) [.eptr (smO s) 0] _=some (.bool true) by rw [<-q];rfl) rfl ?_|refine ab rfl rfl (show ROp.run (.load true 11) [.eptr (smO s) 1] _=some (.agg (exO s.pat))from rfl) rfl ?_|refine ab rfl rfl (show ROp.run (.load true 11) [.eptr (smO s) 12] _=some (.agg (exO s.val))from rfl) rfl ?_|refine ab rfl rfl rfl rfl ?_|refine aA rfl rfl RA rfl PB rfl ?_|refine au rfl rfl rfl (c) (λ_ _ q=>q) .none rfl ?_|refine au rfl rfl rfl (c2) (λ_ _ q=>q) .none rfl ?_)|apply ac|refine ae rfl ?_|apply ai|apply ah|apply ap|apply bG.norm|fail)
   all_goals first
    |exact absurd (q.symm.trans ht) (by decide)|exact⟨.inr rfl,_,rfl,by cases b<;>rfl,rfl⟩
theorem f93{g:FuncId}{caps:List V}{l:List Sm}(hl:l.length<9223372036854775807){h h':H}{b:Bool}(np:1<h.next)(hk:Nat.blt h.next bR=true)(k:Rk (CE g caps) (df l) h b h'):
  CN 93 [.lst l.length 23 (smL l),.eptr [.func (.func g) [] caps] 0] h (.bool b) h':=by
 have gr:=k.gr (λy h b h' c=>c.gr) hk;have up:∀{l:List Sm} {h h':H} {r:Bool},1<h.next->Nat.blt h.next bR=true->Rk (λs=>Rk (CE g caps) (smK s)) l h r h'->Rk (λs h b h'=>CX 94 [.eptr [.func (.func g) [] caps] 0] (.agg (smO s)) h (!b) h') l h r h':=by
  intro l
  induction l with
  |nil=>intro h h' r _ _ k;cases k;exact .nil
  |cons s l ih=>
   intro h h' r np hk k;cases k with
   |stop c=>exact .stop (f94 np hk c)
   |go c k=>
    have gc:=c.gr (λy h b h' c=>c.gr) hk;exact .go (f94 np hk c) (ih (Nat.lt_of_lt_of_le np gc.le) gc.lt k)
 have c:=f77c hl np hk (up np hk k.body);refine eN Tryz.func93 (by decide) q93.2 rfl rfl np gr.le ?_
 repeat' (first
  |(refine WLg.mk ?_;first
  |refine aa rfl rfl rfl rfl ?_|refine au rfl rfl rfl (c) (λ_ _ q=>q) .none rfl ?_)|apply ac|refine ae rfl ?_|apply ai|apply ah|apply ap|apply bG.norm|fail)
 exact⟨.inr rfl,_,rfl,by rw [Bool.not_not];rfl,rfl⟩
end
section
noncomputable section
def clZ:Cl:= .mk ⟨#[]⟩ [] [] []
def fr47(g:FuncId)(caps:List V)(l:List Cl)(i:Nat):AL:=[(1,.func (.func g) [] caps),(15,.lst l.length 4 (clL l)),(16,.int .i64 (Int.ofNat l.length)),(17,.int .i64 (Int.ofNat i))]
def fr47p(g:FuncId)(caps:List V)(l:List Cl)(i m:Nat):AL:=[(1,.func (.func g) [] caps),(15,.lst l.length 4 (clL l)),(16,.int .i64 (Int.ofNat l.length)),(17,.int .i64 (Int.ofNat i)),(6,.eptr (clO (bM l i)) 0),
 (22,.lst (bM l i).pats.length 11 (exL (bM l i).pats)),(23,.int .i64 (Int.ofNat (bM l i).pats.length)),(24,.int .i64 (Int.ofNat m))]
def fr47g(g:FuncId)(caps:List V)(l:List Cl)(i m:Nat):AL:=[(1,.func (.func g) [] caps),(15,.lst l.length 4 (clL l)),(16,.int .i64 (Int.ofNat l.length)),(17,.int .i64 (Int.ofNat i)),(6,.eptr (clO (bM l i)) 0),
 (34,.lst (bM l i).guards.length 1 (gdL (bM l i).guards)),(35,.int .i64 (Int.ofNat (bM l i).guards.length)),(36,.int .i64 (Int.ofNat m))]
def fr47i(g:FuncId)(caps:List V)(l:List Cl)(i m k:Nat):AL:=[(1,.func (.func g) [] caps),(15,.lst l.length 4 (clL l)),(16,.int .i64 (Int.ofNat l.length)),(17,.int .i64 (Int.ofNat i)),(6,.eptr (clO (bM l i)) 0),
 (34,.lst (bM l i).guards.length 1 (gdL (bM l i).guards)),(35,.int .i64 (Int.ofNat (bM l i).guards.length)),(36,.int .i64 (Int.ofNat m)),
 (40,.lst (di (bM l i).guards m).length 11 (exL (di (bM l i).guards m))),(41,.int .i64 (Int.ofNat (di (bM l i).guards m).length)),(42,.int .i64 (Int.ofNat k))]
def fr47b(g:FuncId)(caps:List V)(l:List Cl)(i m:Nat):AL:=[(1,.func (.func g) [] caps),(15,.lst l.length 4 (clL l)),(16,.int .i64 (Int.ofNat l.length)),(17,.int .i64 (Int.ofNat i)),(6,.eptr (clO (bM l i)) 0),
 (53,.lst (bM l i).body.length 23 (smL (bM l i).body)),(54,.int .i64 (Int.ofNat (bM l i).body.length)),(55,.int .i64 (Int.ofNat m))]
end
set_option maxHeartbeats 8000000 in
theorem f47{g:FuncId}{caps:List V}{l:List Cl}(hl:bH (clL l)<=6000000){h h':H}{b:Bool}(np:1<h.next)(hk:Nat.blt h.next bR=true)(k:Rk (CE g caps) (clK l) h b h'):
  CN 47 [.lst l.length 4 (clL l),.func (.func g) [] caps] h (.bool b) h':=by
 have gr:=k.gr (λy h b h' c=>c.gr) hk;have hn:=eT l;refine eN Tryz.func47 (by decide) q47.2 rfl rfl np gr.le ?_
 repeat' (first
  |(refine WLg.mk ?_;first
  |refine aa rfl rfl rfl rfl ?_)|apply ac|refine ae rfl ?_|apply ai|apply ah|apply aj|apply bG.norm|fail)
 refine aw (bU (l:=fr47 g caps l 0) KH) ?_;refine ax l.length (λi x h1=>x=fr47 g caps l i/\Gr h h1/\Rk (CE g caps) (clK (l.drop i)) h1 b h') ?_ (i:=0) (Nat.zero_le _) ⟨rfl,.refl hk,k⟩;rintro i _ h1 hi ⟨rfl,gr1,k⟩;have hi2:i<9223372036854775807:=by omega
 have hk1:=gr1.lt;cases q:Nat.blt i l.length with
 |false=>
  rw [iC hi q]at k;cases k
  repeat' (first
   |(refine WLg.mk ?_;first
   |refine aa rfl rfl rfl rfl ?_|refine aa rfl rfl (bN Hy) rfl ?_)|apply ac|refine ae rfl ?_|apply ai|apply ah|apply aj|apply al|refine ak rfl (λht=>?_) (λht=>?_)|apply av|apply ap|apply bG.norm|apply bG.exit|apply OnC.exit|fail)
  all_goals first
   |exact absurd (q.symm.trans Hy) (by decide)|exact⟨.inr rfl,_,rfl,rfl,rfl⟩
 |true=>
  rw [jI (d:=clZ) q]at k;have k:Rk (CE g caps) (((bM l i).pats++(gdK (bM l i).guards++df (bM l i).body))++clK (l.drop (i+1))) h1 b h':=k;simp only [List.append_assoc]at k;have hlt:=bL q;have hle:=kc q;have hsz:=fJ (bM l i);have hp:=fX (bM l i).pats 6000000 (by omega);have hg0:=jF (bM l i).guards;have hb0:=gM (bM l i).body
  repeat' (first
   |(refine WLg.mk ?_;first
   |refine aa rfl rfl rfl rfl ?_|refine aa rfl rfl (bN Hy) rfl ?_|refine ab rfl rfl rfl rfl ?_|refine ab rfl rfl (gj Hy) rfl ?_|refine aC rfl rfl RA rfl rfl rfl rfl rfl rfl rfl RA PB rfl rfl ?_)|apply ac|refine ae rfl ?_|apply ai|apply ah|apply aj|apply al|refine ak rfl (λht=>?_) (λht=>?_)|apply av|apply ap|apply bG.norm|apply bG.exit|apply OnC.exit|fail)
  any_goals (first|exact absurd (q.symm.trans (show Nat.blt i l.length=true by assumption)) (by decide)|exact absurd (q.symm.trans (show Nat.blt i l.length=false by assumption)) (by decide)|fail)
  refine aw (bU (l:=fr47p g caps l i 0) KH) ?_;refine ax (bM l i).pats.length (λm x h2=>x=fr47p g caps l i m/\Gr h h2/\Rk (CE g caps) ((bM l i).pats.drop m++(gdK (bM l i).guards++(df (bM l i).body++clK (l.drop (i+1))))) h2 b h') ?_ (i:=0) (Nat.zero_le _) ⟨rfl,gr1,k⟩;clear k gr1 hk1 ht;rintro m _ h2 hm ⟨rfl,gr2,k⟩;have hm2:m<9223372036854775807:=by omega
  have hk2:=gr2.lt;cases qm:Nat.blt m (bM l i).pats.length with
  |true=>
   rw [jI (d:=ex0) qm]at k;cases k with
   |stop c=>
    have c:=CX.con c
    repeat' (first
     |(refine WLg.mk ?_;first
     |refine aa rfl rfl rfl rfl ?_|refine aa rfl rfl (bN Hy) rfl ?_|refine ab rfl rfl rfl rfl ?_|refine ab rfl rfl (dA Hy) rfl ?_|refine aC rfl rfl RA rfl rfl rfl rfl rfl rfl rfl RA PB rfl rfl ?_|refine au rfl rfl rfl (c) (λ_ _ q=>q) .none rfl ?_)|apply ac|refine ae rfl ?_|apply ai|apply ah|apply aj|apply al|refine aD rfl ?_|refine ak rfl (λht=>?_) (λht=>?_)|apply av|apply ap|apply bG.norm|apply bG.ret|apply bG.exit|apply OnC.ret|apply OnC.exit|fail)
    all_goals first
     |exact absurd (qm.symm.trans Hy) (by decide)|exact⟨.inr rfl,_,rfl,rfl,rfl⟩
   |go c k=>
    have g3:=gr2.trans c.gr;have c:=CX.con c
    repeat' (first
     |(refine WLg.mk ?_;first
     |refine aa rfl rfl rfl rfl ?_|refine aa rfl rfl (bN Hy) rfl ?_|refine ab rfl rfl rfl rfl ?_|refine ab rfl rfl (dA Hy) rfl ?_|refine aC rfl rfl RA rfl rfl rfl rfl rfl rfl rfl RA PB rfl rfl ?_|refine au rfl rfl rfl (c) (λ_ _ q=>q) .none rfl ?_)|apply ac|refine ae rfl ?_|apply ai|apply ah|apply aj|apply al|refine aB rfl ?_|refine ak rfl (λht=>?_) (λht=>?_)|apply av|apply bG.norm|apply bG.exit|apply OnC.exit|fail)
    all_goals first
     |exact absurd (qm.symm.trans Hy) (by decide)|exact .norm ⟨_,_,bU KH,bL qm,rfl,g3,k⟩
  |false=>
   rw [iC hm qm,List.nil_append]at k
   repeat' (first
    |(refine WLg.mk ?_;first
    |refine aa rfl rfl rfl rfl ?_|refine aa rfl rfl (bN Hy) rfl ?_|refine ab rfl rfl rfl rfl ?_)|apply ac|refine ae rfl ?_|apply ai|apply ah|apply aj|apply al|refine ak rfl (λht=>?_) (λht=>?_)|apply av|apply bG.norm|apply bG.exit|apply OnC.exit|fail)
   any_goals (first|exact absurd (qm.symm.trans (show Nat.blt m (bM l i).pats.length=true by assumption)) (by decide)|exact absurd (qm.symm.trans (show Nat.blt m (bM l i).pats.length=false by assumption)) (by decide)|fail)
   refine aw (bU (l:=fr47g g caps l i 0) KH) ?_;refine ax (bM l i).guards.length (λm x h2=>x=fr47g g caps l i m/\Gr h h2/\Rk (CE g caps) (gdK ((bM l i).guards.drop m)++(df (bM l i).body++clK (l.drop (i+1)))) h2 b h') ?_ (i:=0) (Nat.zero_le _) ⟨rfl,gr2,k⟩;clear k gr2 hk2 ht hm hm2 qm;rintro m _ h2 hm ⟨rfl,gr2,k⟩;have hm2:m<9223372036854775807:=by omega
   have hk2:=gr2.lt;cases qm:Nat.blt m (bM l i).guards.length with
   |true=>
    rw [jI (d:=[]) qm]at k;have k:Rk (CE g caps) ((di (bM l i).guards m++gdK ((bM l i).guards.drop (m+1)))++(df (bM l i).body++clK (l.drop (i+1)))) h2 b h':=k;simp only [List.append_assoc]at k;have hgle:=vJ qm;have hgl:=fX (di (bM l i).guards m) 6000000 (by omega)
    repeat' (first
     |(refine WLg.mk ?_;first
     |refine aa rfl rfl rfl rfl ?_|refine aa rfl rfl (bN Hy) rfl ?_|refine ab rfl rfl (dO (j:=0) (oY Hy) rfl _) rfl ?_|refine ab rfl rfl rfl rfl ?_)|apply ac|refine ae rfl ?_|apply ai|apply ah|apply aj|apply al|refine ak rfl (λht=>?_) (λht=>?_)|apply av|apply bG.norm|apply bG.exit|apply OnC.exit|fail)
    any_goals (first|exact absurd (qm.symm.trans (show Nat.blt m (bM l i).guards.length=true by assumption)) (by decide)|exact absurd (qm.symm.trans (show Nat.blt m (bM l i).guards.length=false by assumption)) (by decide)|fail)
    refine aw (bU (l:=fr47i g caps l i m 0) KH) ?_;refine ax (di (bM l i).guards m).length (λn x h2=>x=fr47i g caps l i m n/\Gr h h2/\Rk (CE g caps) ((di (bM l i).guards m).drop n++(gdK ((bM l i).guards.drop (m+1))++(df (bM l i).body++clK (l.drop (i+1))))) h2 b h') ?_ (i:=0) (Nat.zero_le _) ⟨rfl,gr2,k⟩;clear k gr2 hk2 ht;rintro n _ h2 hnl ⟨rfl,gr2,k⟩;have hn2:n<9223372036854775807:=by omega
    have hk2:=gr2.lt;cases qn:Nat.blt n (di (bM l i).guards m).length with
    |true=>
     rw [jI (d:=ex0) qn]at k;cases k with
     |stop c=>
      have c:=CX.con c
      repeat' (first
       |(refine WLg.mk ?_;first
       |refine aa rfl rfl rfl rfl ?_|refine aa rfl rfl (bN Hy) rfl ?_|refine ab rfl rfl rfl rfl ?_|refine ab rfl rfl (dA Hy) rfl ?_|refine aC rfl rfl RA rfl rfl rfl rfl rfl rfl rfl RA PB rfl rfl ?_|refine au rfl rfl rfl (c) (λ_ _ q=>q) .none rfl ?_)|apply ac|refine ae rfl ?_|apply ai|apply ah|apply aj|apply al|refine aD rfl ?_|refine ak rfl (λht=>?_) (λht=>?_)|apply av|apply ap|apply bG.norm|apply bG.ret|apply bG.exit|apply OnC.ret|apply OnC.exit|fail)
      all_goals first
       |exact absurd (qn.symm.trans Hy) (by decide)|exact⟨.inr rfl,_,rfl,rfl,rfl⟩
     |go c k=>
      have g3:=gr2.trans c.gr;have c:=CX.con c
      repeat' (first
       |(refine WLg.mk ?_;first
       |refine aa rfl rfl rfl rfl ?_|refine aa rfl rfl (bN Hy) rfl ?_|refine ab rfl rfl rfl rfl ?_|refine ab rfl rfl (dA Hy) rfl ?_|refine aC rfl rfl RA rfl rfl rfl rfl rfl rfl rfl RA PB rfl rfl ?_|refine au rfl rfl rfl (c) (λ_ _ q=>q) .none rfl ?_)|apply ac|refine ae rfl ?_|apply ai|apply ah|apply aj|apply al|refine aB rfl ?_|refine ak rfl (λht=>?_) (λht=>?_)|apply av|apply bG.norm|apply bG.exit|apply OnC.exit|fail)
      all_goals first
       |exact absurd (qn.symm.trans Hy) (by decide)|exact .norm ⟨_,_,bU KH,bL qn,rfl,g3,k⟩
    |false=>
     rw [iC hnl qn,List.nil_append]at k
     repeat' (first
      |(refine WLg.mk ?_;first
      |refine aa rfl rfl rfl rfl ?_|refine aa rfl rfl (bN Hy) rfl ?_)|apply ac|refine ae rfl ?_|apply ai|apply ah|apply aj|apply al|refine ak rfl (λht=>?_) (λht=>?_)|apply av|apply bG.norm|apply bG.exit|apply OnC.exit|fail)
     any_goals (first|exact absurd (qn.symm.trans (show Nat.blt n (di (bM l i).guards m).length=true by assumption)) (by decide)|exact absurd (qn.symm.trans (show Nat.blt n (di (bM l i).guards m).length=false by assumption)) (by decide)|fail)
     exact .norm ⟨_,_,bU KH,bL qm,rfl,gr2,k⟩
   |false=>
    rw [iC hm qm]at k;have k:Rk (CE g caps) (df (bM l i).body++clK (l.drop (i+1))) h2 b h':=k
    repeat' (first
     |(refine WLg.mk ?_;first
     |refine aa rfl rfl rfl rfl ?_|refine aa rfl rfl (bN Hy) rfl ?_|refine ab rfl rfl rfl rfl ?_)|apply ac|refine ae rfl ?_|apply ai|apply ah|apply aj|apply al|refine ak rfl (λht=>?_) (λht=>?_)|apply av|apply bG.norm|apply bG.exit|apply OnC.exit|fail)
    any_goals (first|exact absurd (qm.symm.trans (show Nat.blt m (bM l i).guards.length=true by assumption)) (by decide)|exact absurd (qm.symm.trans (show Nat.blt m (bM l i).guards.length=false by assumption)) (by decide)|fail)
    refine aw (bU (l:=fr47b g caps l i 0) KH) ?_;refine ax (bM l i).body.length (λm x h2=>x=fr47b g caps l i m/\Gr h h2/\Rk (CE g caps) (df ((bM l i).body.drop m)++clK (l.drop (i+1))) h2 b h') ?_ (i:=0) (Nat.zero_le _) ⟨rfl,gr2,k⟩;clear k gr2 hk2 ht hm hm2 qm;rintro m _ h2 hm ⟨rfl,gr2,k⟩;have hm2:m<9223372036854775807:=by omega
    have hk2:=gr2.lt;cases qm:Nat.blt m (bM l i).body.length with
    |false=>
     rw [iC hm qm]at k;have k:Rk (CE g caps) (clK (l.drop (i+1))) h2 b h':=k
     repeat' (first
      |(refine WLg.mk ?_;first
      |refine aa rfl rfl rfl rfl ?_|refine aa rfl rfl (bN Hy) rfl ?_)|apply ac|refine ae rfl ?_|apply ai|apply ah|apply aj|apply al|refine ak rfl (λht=>?_) (λht=>?_)|apply av|apply bG.norm|apply bG.exit|apply OnC.exit|fail)
     any_goals (first|exact absurd (qm.symm.trans (show Nat.blt m (bM l i).body.length=true by assumption)) (by decide)|exact absurd (qm.symm.trans (show Nat.blt m (bM l i).body.length=false by assumption)) (by decide)|fail)
     exact .norm ⟨_,_,bU KH,hlt,rfl,gr2,k⟩
    |true=>
     rw [jI (d:=smZ) qm]at k;have k:Rk (CE g caps) ((smK (cD (bM l i).body m)++df ((bM l i).body.drop (m+1)))++clK (l.drop (i+1))) h2 b h':=k;rw [List.append_assoc]at k;have tb:∀x,POp.run .mv [.bool x]=some (.bool x):=λx=>rfl;cases qs:(cD (bM l i).body m).isMatch with
     |false=>
      unfold smK at k;rw [qs,if_neg (by decide)]at k;cases k with
      |stop c=>
       have c:=CX.con c
       repeat' (first
        |(refine WLg.mk ?_;first
        |refine aa rfl rfl rfl rfl ?_|refine aa rfl rfl (bN Hy) rfl ?_|refine ab rfl rfl (show ROp.run (.load true 11) [.eptr (smO (cD (bM l i).body m)) 12] _=some (.agg (exO (cD (bM l i).body m).val))from rfl) rfl ?_|refine ab rfl rfl rfl rfl ?_|refine ab rfl rfl (gV Hy) rfl ?_|refine aC rfl rfl RA rfl rfl rfl rfl rfl rfl rfl RA PB rfl rfl ?_|refine au rfl rfl rfl (c) (λ_ _ q=>q) .none rfl ?_)|apply ac|refine ae rfl ?_|refine ay rfl rfl ?_|refine az rfl (λht=>?_) (λht=>?_)|apply ai|apply ah|apply aj|apply al|refine aD rfl ?_|refine ak rfl (λht=>?_) (λht=>?_)|apply av|apply ap|apply bG.norm|apply bG.ret|apply bG.exit|apply OnC.ret|apply OnC.exit|fail)
       all_goals first
        |exact absurd (qm.symm.trans Hy) (by decide)|exact absurd (qs.symm.trans Hy) (by decide)|exact⟨.inr rfl,_,rfl,rfl,rfl⟩
      |go c k=>
       have g3:=gr2.trans c.gr;have c:=CX.con c
       repeat' (first
        |(refine WLg.mk ?_;first
        |refine aa rfl rfl rfl rfl ?_|refine aa rfl rfl (bN Hy) rfl ?_|refine ab rfl rfl (show ROp.run (.load true 11) [.eptr (smO (cD (bM l i).body m)) 12] _=some (.agg (exO (cD (bM l i).body m).val))from rfl) rfl ?_|refine ab rfl rfl rfl rfl ?_|refine ab rfl rfl (gV Hy) rfl ?_|refine aC rfl rfl RA rfl rfl rfl rfl rfl rfl rfl RA PB rfl rfl ?_|refine au rfl rfl rfl (c) (λ_ _ q=>q) .none rfl ?_)|apply ac|refine ae rfl ?_|refine ay rfl rfl ?_|refine az rfl (λht=>?_) (λht=>?_)|apply ai|apply ah|apply aj|apply al|refine aB rfl ?_|refine ak rfl (λht=>?_) (λht=>?_)|apply av|apply bG.norm|apply bG.exit|apply OnC.exit|fail)
       all_goals first
        |exact absurd (qm.symm.trans Hy) (by decide)|exact absurd (qs.symm.trans Hy) (by decide)|exact .norm ⟨_,_,bU KH,bL qm,rfl,g3,k⟩
     |true=>
      unfold smK at k;rw [qs,if_pos rfl]at k;cases k with
      |stop c=>
       have c:=CX.con c
       repeat' (first
        |(refine WLg.mk ?_;first
        |refine aa rfl rfl rfl rfl ?_|refine aa rfl rfl (bN Hy) rfl ?_|refine ab rfl rfl (show ROp.run (.load true 11) [.eptr (smO (cD (bM l i).body m)) 1] _=some (.agg (exO (cD (bM l i).body m).pat))from rfl) rfl ?_|refine ab rfl rfl rfl rfl ?_|refine ab rfl rfl (gV Hy) rfl ?_|refine aC rfl rfl RA rfl rfl rfl rfl rfl rfl rfl RA PB rfl rfl ?_|refine au rfl rfl rfl (c) (λ_ _ q=>q) .none rfl ?_)|apply ac|refine ae rfl ?_|refine ay rfl rfl ?_|refine az rfl (λht=>?_) (λht=>?_)|apply ai|apply ah|apply aj|apply al|refine aD rfl ?_|refine ak rfl (λht=>?_) (λht=>?_)|apply av|apply ap|apply bG.norm|apply bG.ret|apply bG.exit|apply OnC.ret|apply OnC.exit|fail)
       all_goals first
        |exact absurd (qm.symm.trans Hy) (by decide)|exact absurd (qs.symm.trans Hy) (by decide)|exact⟨.inr rfl,_,rfl,rfl,rfl⟩
      |go c k=>
       cases k with
       |stop c2=>
        have c:=CX.con c;have c2:=CX.con c2
        repeat' (first
         |(refine WLg.mk ?_;first
         |refine aa rfl rfl rfl rfl ?_|refine aa rfl rfl (bN Hy) rfl ?_|refine ab rfl rfl (show ROp.run (.load true 11) [.eptr (smO (cD (bM l i).body m)) 1] _=some (.agg (exO (cD (bM l i).body m).pat))from rfl) rfl ?_|refine ab rfl rfl (show ROp.run (.load true 11) [.eptr (smO (cD (bM l i).body m)) 12] _=some (.agg (exO (cD (bM l i).body m).val))from rfl) rfl ?_|refine ab rfl rfl rfl rfl ?_|refine ab rfl rfl (gV Hy) rfl ?_|refine aC rfl rfl RA rfl rfl rfl rfl rfl rfl rfl RA PB rfl rfl ?_|refine au rfl rfl rfl (c) (λ_ _ q=>q) .none rfl ?_|refine au rfl rfl rfl (c2) (λ_ _ q=>q) .none rfl ?_)|apply ac|refine ae rfl ?_|refine ay rfl rfl ?_|refine az rfl (λht=>?_) (λht=>?_)|apply ai|apply ah|apply aj|apply al|refine aD rfl ?_|refine ak rfl (λht=>?_) (λht=>?_)|apply av|apply ap|apply bG.norm|apply bG.ret|apply bG.exit|apply OnC.ret|apply OnC.exit|fail)
        all_goals first
         |exact absurd (qm.symm.trans Hy) (by decide)|exact absurd (qs.symm.trans Hy) (by decide)|exact⟨.inr rfl,_,rfl,rfl,rfl⟩
       |go c2 k=>
        have g3:=(gr2.trans c.gr).trans c2.gr;have c:=CX.con c;have c2:=CX.con c2
        repeat' (first
         |(refine WLg.mk ?_;first
         |refine aa rfl rfl rfl rfl ?_|refine aa rfl rfl (bN Hy) rfl ?_|refine ab rfl rfl (show ROp.run (.load true 11) [.eptr (smO (cD (bM l i).body m)) 1] _=some (.agg (exO (cD (bM l i).body m).pat))from rfl) rfl ?_|refine ab rfl rfl (show ROp.run (.load true 11) [.eptr (smO (cD (bM l i).body m)) 12] _=some (.agg (exO (cD (bM l i).body m).val))from rfl) rfl ?_|refine ab rfl rfl rfl rfl ?_|refine ab rfl rfl (gV Hy) rfl ?_|refine aC rfl rfl RA rfl rfl rfl rfl rfl rfl rfl RA PB rfl rfl ?_|refine au rfl rfl rfl (c) (λ_ _ q=>q) .none rfl ?_|refine au rfl rfl rfl (c2) (λ_ _ q=>q) .none rfl ?_)|apply ac|refine ae rfl ?_|refine ay rfl rfl ?_|refine az rfl (λht=>?_) (λht=>?_)|apply ai|apply ah|apply aj|apply al|refine aB rfl ?_|refine ak rfl (λht=>?_) (λht=>?_)|apply av|apply bG.norm|apply bG.exit|apply OnC.exit|fail)
        all_goals first
         |exact absurd (qm.symm.trans Hy) (by decide)|exact absurd (qs.symm.trans Hy) (by decide)|exact .norm ⟨_,_,bU KH,bL qm,rfl,g3,k⟩
theorem f95{g:FuncId}{caps:List V}{l:List Cl}(hl:bH (clL l)<=6000000){h h':H}{b:Bool}(np:1<h.next)(hk:Nat.blt h.next bR=true)(k:Rk (CE g caps) (clK l) h b h'):
  CN 95 [.lst l.length 4 (clL l),.eptr [.func (.func g) [] caps] 0] h (.bool b) h':=by
 have gr:=k.gr (λy h b h' c=>c.gr) hk;have c:=f47 hl np hk k;refine eN Tryz.func95 (by decide) q95.2 rfl rfl np gr.le ?_
 repeat' (first
  |(refine WLg.mk ?_;first
  |refine aa rfl rfl rfl rfl ?_|refine ab rfl rfl rfl rfl ?_|refine au rfl rfl rfl (c) (λ_ _ q=>q) .none rfl ?_)|apply ac|refine ae rfl ?_|apply ai|apply ah|apply ap|apply bG.norm|fail)
 exact⟨.inr rfl,_,rfl,rfl,rfl⟩
end
section
def dt(x:Ex):List Ex:=if x.kind=17 then clK x.clauses++(x.items++df x.after)else mQ x.segs++(x.items++(df x.body++(clK x.clauses++(clK x.catches++df x.after))))
noncomputable section
def sgZ:Sg:= .mk 0 ⟨#[]⟩ ex0 ex0 false false false
def fr63(g:FuncId)(caps:List V)(x:Ex)(i:Nat):AL:=[(2,.eptr (exO x) 0),(3,.eptr [.func (.func g) [] caps] 0),(5,.func (.func 90) [] [.eptr [.func (.func g) [] caps] 0]),(6,.func (.func 93) [] [.eptr [.func (.func g) [] caps] 0]),(7,.func (.func 95) [] [.eptr [.func (.func g) [] caps] 0]),
 (33,.lst x.segs.length 27 (sgL x.segs)),(34,.int .i64 (Int.ofNat x.segs.length)),(35,.int .i64 (Int.ofNat i))]
end
set_option maxHeartbeats 8000000 in
theorem f63{g:FuncId}{caps:List V}{x:Ex}(hx:bH (exO x)<=6000000){h h':H}{b:Bool}(np:1<h.next)(hk:Nat.blt h.next bR=true)(hdv:dg (λid=>id=h.next) (.func (.func g) [] caps))(k:Rk (CE g caps) (dt x) h b h'):
  CN 63 [.agg (exO x),.func (.func g) [] caps] h (.bool b) h':=by
 have gr:=k.gr (λy h b h' c=>c.gr) hk;have hs:=dM x;have hi:=dy x.items;have hsg:=iR x.segs;have hb0:=gM x.body;have ha0:=gM x.after;have hi9:x.items.length<9223372036854775807:=by omega
 have hb9:x.body.length<9223372036854775807:=by omega
 have ha9:x.after.length<9223372036854775807:=by omega
 have hc9:bH (clL x.clauses)<=6000000:=by omega
 have hq9:bH (clL x.catches)<=6000000:=by omega
 refine eN Tryz.func63 (by decide) q63.2 rfl rfl np gr.le ?_;have gg:∀{l:List Ex} {h1 h2:H} {b:Bool},Gr h h1->Rk (CE g caps) l h1 b h2->Gr h h2:=λg1 k=>g1.trans (k.gr (λy h b h' c=>c.gr) g1.lt);have nx:∀{h1:H},Gr h h1->1<h1.next:=λg1=>Nat.lt_of_lt_of_le np g1.le
 have g0:Gr h h:= .refl hk;unfold dt at k
 by_cases hk17:x.kind=17
 ·rw [if_pos hk17]at k
  have e17:eqI x.kind 17=true:=by rw [hk17];rfl
  rcases k.app with⟨h1,k1,k⟩ | ⟨rfl,k1⟩
  ·have g1:=gg g0 k1
   have c1:=f95 hc9 np hk k1;rcases k.app with⟨h2,k2,k⟩ | ⟨rfl,k2⟩
   ·have g2:=gg g1 k2
    have c2:=f90 hi9 (nx g1) g1.lt k2;have c3:=f93 ha9 (nx g2) g2.lt k
    repeat' (first
     |(refine WLg.mk ?_;first
     |refine aa rfl rfl rfl rfl ?_|refine ab rfl rfl rfl rfl ?_|refine aN rfl rfl rfl rfl hdv rfl ?_|refine aA rfl rfl RA rfl PB rfl ?_|refine au rfl rfl rfl (c1) (λ_ _ q=>q) .none rfl ?_|refine au rfl rfl rfl (c2) (λ_ _ q=>q) .none rfl ?_|refine au rfl rfl rfl (c3) (λ_ _ q=>q) .none rfl ?_)|apply ac|refine ae rfl ?_|apply ai|apply ah|apply aj|apply al|refine ak rfl (λht=>?_) (λht=>?_)|apply ap|apply bG.norm|apply bG.ret|fail)
    any_goals (first|exact absurd (e17.symm.trans (show eqI x.kind 17=false by assumption)) (by decide)|fail)
    exact⟨.inr rfl,_,rfl,rfl,rfl⟩
   ·have c2:=f90 hi9 (nx g1) g1.lt k2
    repeat' (first
     |(refine WLg.mk ?_;first
     |refine aa rfl rfl rfl rfl ?_|refine ab rfl rfl rfl rfl ?_|refine aN rfl rfl rfl rfl hdv rfl ?_|refine aA rfl rfl RA rfl PB rfl ?_|refine au rfl rfl rfl (c1) (λ_ _ q=>q) .none rfl ?_|refine au rfl rfl rfl (c2) (λ_ _ q=>q) .none rfl ?_)|apply ac|refine ae rfl ?_|refine ay rfl rfl ?_|apply ai|apply ah|apply aj|apply al|refine ak rfl (λht=>?_) (λht=>?_)|apply ap|apply bG.norm|apply bG.ret|fail)
    any_goals (first|exact absurd (e17.symm.trans (show eqI x.kind 17=false by assumption)) (by decide)|fail)
    exact⟨.inr rfl,_,rfl,rfl,rfl⟩
  ·have c1:=f95 hc9 np hk k1
   repeat' (first
    |(refine WLg.mk ?_;first
    |refine aa rfl rfl rfl rfl ?_|refine ab rfl rfl rfl rfl ?_|refine aN rfl rfl rfl rfl hdv rfl ?_|refine aA rfl rfl RA rfl PB rfl ?_|refine au rfl rfl rfl (c1) (λ_ _ q=>q) .none rfl ?_)|apply ac|refine ae rfl ?_|refine ay rfl rfl ?_|apply ai|apply ah|apply aj|apply al|refine ak rfl (λht=>?_) (λht=>?_)|apply ap|apply bG.norm|apply bG.ret|fail)
   any_goals (first|exact absurd (e17.symm.trans (show eqI x.kind 17=false by assumption)) (by decide)|fail)
   exact⟨.inr rfl,_,rfl,rfl,rfl⟩
 ·rw [if_neg hk17]at k
  have e17:eqI x.kind 17=false:=by
   cases q:eqI x.kind 17 with
   |true=>exact absurd (nD q) hk17
   |false=>rfl
  repeat' (first
   |(refine WLg.mk ?_;first
   |refine aa rfl rfl rfl rfl ?_|refine ab rfl rfl rfl rfl ?_|refine aN rfl rfl rfl rfl hdv rfl ?_|refine aA rfl rfl RA rfl PB rfl ?_)|apply ac|refine ae rfl ?_|apply ai|apply ah|apply aj|apply al|refine ak rfl (λht=>?_) (λht=>?_)|apply bG.norm|fail)
  any_goals (first|exact absurd (e17.symm.trans (show eqI x.kind 17=true by assumption)) (by decide)|skip)
  refine aw (bU (l:=fr63 g caps x 0) KH) ?_;refine ax x.segs.length (λi l h1=>l=fr63 g caps x i/\Gr h h1/\Rk (CE g caps) (mQ (x.segs.drop i)++(x.items++(df x.body++(clK x.clauses++(clK x.catches++df x.after))))) h1 b h') ?_ (i:=0) (Nat.zero_le _) ⟨rfl,g0,k⟩;clear k;rintro i _ h1 hil ⟨rfl,g1,k⟩;have hi2:i<9223372036854775807:=by omega
  have hk1:=g1.lt;cases q:Nat.blt i x.segs.length with
  |false=>
   rw [iC hil q]at k;have k:Rk (CE g caps) (x.items++(df x.body++(clK x.clauses++(clK x.catches++df x.after)))) h1 b h':=k;rcases k.app with⟨h2,k1,k⟩ | ⟨rfl,k1⟩
   ·have g2:=gg g1 k1
    have c1:=f90 hi9 (nx g1) g1.lt k1;rcases k.app with⟨h3,k2,k⟩ | ⟨rfl,k2⟩
    ·have g3:=gg g2 k2
     have c2:=f93 hb9 (nx g2) g2.lt k2;rcases k.app with⟨h4,k3,k⟩ | ⟨rfl,k3⟩
     ·have g4:=gg g3 k3
      have c3:=f95 hc9 (nx g3) g3.lt k3;rcases k.app with⟨h5,k4,k⟩ | ⟨rfl,k4⟩
      ·have g5:=gg g4 k4
       have c4:=f95 hq9 (nx g4) g4.lt k4;have c5:=f93 ha9 (nx g5) g5.lt k
       repeat' (first
        |(refine WLg.mk ?_;first
        |refine aa rfl rfl rfl rfl ?_|refine aa rfl rfl (bN Hy) rfl ?_|refine ab rfl rfl rfl rfl ?_|refine au rfl rfl rfl (c1) (λ_ _ q=>q) .none rfl ?_|refine au rfl rfl rfl (c2) (λ_ _ q=>q) .none rfl ?_|refine au rfl rfl rfl (c3) (λ_ _ q=>q) .none rfl ?_|refine au rfl rfl rfl (c4) (λ_ _ q=>q) .none rfl ?_|refine au rfl rfl rfl (c5) (λ_ _ q=>q) .none rfl ?_)|apply ac|refine ae rfl ?_|apply ai|apply ah|apply aj|apply al|refine ak rfl (λht=>?_) (λht=>?_)|apply av|apply ap|apply bG.norm|apply bG.exit|apply OnC.exit|fail)
       any_goals (first|exact absurd (q.symm.trans (show Nat.blt i x.segs.length=true by assumption)) (by decide)|fail)
       exact⟨.inr rfl,_,rfl,rfl,rfl⟩
      ·have c4:=f95 hq9 (nx g4) g4.lt k4
       repeat' (first
        |(refine WLg.mk ?_;first
        |refine aa rfl rfl rfl rfl ?_|refine aa rfl rfl (bN Hy) rfl ?_|refine ab rfl rfl rfl rfl ?_|refine au rfl rfl rfl (c1) (λ_ _ q=>q) .none rfl ?_|refine au rfl rfl rfl (c2) (λ_ _ q=>q) .none rfl ?_|refine au rfl rfl rfl (c3) (λ_ _ q=>q) .none rfl ?_|refine au rfl rfl rfl (c4) (λ_ _ q=>q) .none rfl ?_)|apply ac|refine ae rfl ?_|refine ay rfl rfl ?_|apply ai|apply ah|apply aj|apply al|refine ak rfl (λht=>?_) (λht=>?_)|apply av|apply ap|apply bG.norm|apply bG.exit|apply OnC.exit|fail)
       any_goals (first|exact absurd (q.symm.trans (show Nat.blt i x.segs.length=true by assumption)) (by decide)|fail)
       exact⟨.inr rfl,_,rfl,rfl,rfl⟩
     ·have c3:=f95 hc9 (nx g3) g3.lt k3
      repeat' (first
       |(refine WLg.mk ?_;first
       |refine aa rfl rfl rfl rfl ?_|refine aa rfl rfl (bN Hy) rfl ?_|refine ab rfl rfl rfl rfl ?_|refine au rfl rfl rfl (c1) (λ_ _ q=>q) .none rfl ?_|refine au rfl rfl rfl (c2) (λ_ _ q=>q) .none rfl ?_|refine au rfl rfl rfl (c3) (λ_ _ q=>q) .none rfl ?_)|apply ac|refine ae rfl ?_|refine ay rfl rfl ?_|apply ai|apply ah|apply aj|apply al|refine ak rfl (λht=>?_) (λht=>?_)|apply av|apply ap|apply bG.norm|apply bG.exit|apply OnC.exit|fail)
      any_goals (first|exact absurd (q.symm.trans (show Nat.blt i x.segs.length=true by assumption)) (by decide)|fail)
      exact⟨.inr rfl,_,rfl,rfl,rfl⟩
    ·have c2:=f93 hb9 (nx g2) g2.lt k2
     repeat' (first
      |(refine WLg.mk ?_;first
      |refine aa rfl rfl rfl rfl ?_|refine aa rfl rfl (bN Hy) rfl ?_|refine ab rfl rfl rfl rfl ?_|refine au rfl rfl rfl (c1) (λ_ _ q=>q) .none rfl ?_|refine au rfl rfl rfl (c2) (λ_ _ q=>q) .none rfl ?_)|apply ac|refine ae rfl ?_|refine ay rfl rfl ?_|apply ai|apply ah|apply aj|apply al|refine ak rfl (λht=>?_) (λht=>?_)|apply av|apply ap|apply bG.norm|apply bG.exit|apply OnC.exit|fail)
     any_goals (first|exact absurd (q.symm.trans (show Nat.blt i x.segs.length=true by assumption)) (by decide)|fail)
     exact⟨.inr rfl,_,rfl,rfl,rfl⟩
   ·have c1:=f90 hi9 (nx g1) g1.lt k1
    repeat' (first
     |(refine WLg.mk ?_;first
     |refine aa rfl rfl rfl rfl ?_|refine aa rfl rfl (bN Hy) rfl ?_|refine ab rfl rfl rfl rfl ?_|refine au rfl rfl rfl (c1) (λ_ _ q=>q) .none rfl ?_)|apply ac|refine ae rfl ?_|refine ay rfl rfl ?_|apply ai|apply ah|apply aj|apply al|refine ak rfl (λht=>?_) (λht=>?_)|apply av|apply ap|apply bG.norm|apply bG.exit|apply OnC.exit|fail)
    any_goals (first|exact absurd (q.symm.trans (show Nat.blt i x.segs.length=true by assumption)) (by decide)|fail)
    exact⟨.inr rfl,_,rfl,rfl,rfl⟩
  |true=>
   rw [jI (d:=sgZ) q]at k;have k:Rk (CE g caps) ((((if(ck x.segs i).type=4 then []else [(ck x.segs i).val])++(if(ck x.segs i).sized then [(ck x.segs i).size]else []))++mQ (x.segs.drop (i+1)))++(x.items++(df x.body++(clK x.clauses++(clK x.catches++df x.after))))) h1 b h':=k;rw [List.append_assoc]at k
   by_cases t4:(ck x.segs i).type=4
   ·rw [if_pos t4]at k
    have z4:(!eqI (ck x.segs i).type 4)=false:=by rw [t4];rfl
    cases qs:(ck x.segs i).sized with
    |false=>
     rw [qs,if_neg (by decide)]at k;simp only [List.nil_append]at k;have g9:=g1
     repeat' (first
      |(refine WLg.mk ?_;first
      |refine aa rfl rfl rfl rfl ?_|refine aa rfl rfl (bN Hy) rfl ?_|refine ab rfl rfl (show ROp.run (.load true 11) [.eptr (sgO (ck x.segs i)) 2] _=some (.agg (exO (ck x.segs i).val))from rfl) rfl ?_|refine ab rfl rfl (show ROp.run (.load true 11) [.eptr (sgO (ck x.segs i)) 13] _=some (.agg (exO (ck x.segs i).size))from rfl) rfl ?_|refine ab rfl rfl rfl rfl ?_|refine ab rfl rfl (gh Hy) rfl ?_|refine aC rfl rfl RA rfl rfl rfl rfl rfl rfl rfl RA PB rfl rfl ?_)|apply ac|refine ae rfl ?_|refine ay rfl rfl ?_|refine az rfl (λht=>?_) (λht=>?_)|apply ai|apply ah|apply aj|apply al|refine aB rfl ?_|refine ak rfl (λht=>?_) (λht=>?_)|apply av|apply bG.norm|apply bG.exit|apply OnC.exit|fail)
     all_goals first
      |exact absurd (q.symm.trans (show Nat.blt i x.segs.length=false by assumption)) (by decide)|exact absurd (z4.symm.trans (show(!eqI (ck x.segs i).type 4)=true by assumption)) (by decide)|exact absurd (qs.symm.trans (show(ck x.segs i).sized=true by assumption)) (by decide)|exact .norm ⟨_,_,bU KH,bL q,rfl,g9,k⟩
    |true=>
     rw [qs,if_pos rfl]at k;simp only [List.nil_append,List.cons_append]at k;cases k with
     |stop c=>
      have c:=CX.con c
      repeat' (first
       |(refine WLg.mk ?_;first
       |refine aa rfl rfl rfl rfl ?_|refine aa rfl rfl (bN Hy) rfl ?_|refine ab rfl rfl (show ROp.run (.load true 11) [.eptr (sgO (ck x.segs i)) 2] _=some (.agg (exO (ck x.segs i).val))from rfl) rfl ?_|refine ab rfl rfl (show ROp.run (.load true 11) [.eptr (sgO (ck x.segs i)) 13] _=some (.agg (exO (ck x.segs i).size))from rfl) rfl ?_|refine ab rfl rfl rfl rfl ?_|refine ab rfl rfl (gh Hy) rfl ?_|refine aC rfl rfl RA rfl rfl rfl rfl rfl rfl rfl RA PB rfl rfl ?_|refine au rfl rfl rfl (c) (λ_ _ q=>q) .none rfl ?_)|apply ac|refine ae rfl ?_|refine ay rfl rfl ?_|refine az rfl (λht=>?_) (λht=>?_)|apply ai|apply ah|apply aj|apply al|refine aD rfl ?_|refine aB rfl ?_|refine ak rfl (λht=>?_) (λht=>?_)|apply av|apply ap|apply bG.norm|apply bG.ret|apply bG.exit|apply OnC.ret|apply OnC.exit|fail)
      all_goals first
       |exact absurd (q.symm.trans (show Nat.blt i x.segs.length=false by assumption)) (by decide)|exact absurd (z4.symm.trans (show(!eqI (ck x.segs i).type 4)=true by assumption)) (by decide)|exact absurd (qs.symm.trans (show(ck x.segs i).sized=false by assumption)) (by decide)|exact⟨.inr rfl,_,rfl,rfl,rfl⟩
     |go c k=>
      have g9:=g1.trans c.gr;have c:=CX.con c
      repeat' (first
       |(refine WLg.mk ?_;first
       |refine aa rfl rfl rfl rfl ?_|refine aa rfl rfl (bN Hy) rfl ?_|refine ab rfl rfl (show ROp.run (.load true 11) [.eptr (sgO (ck x.segs i)) 2] _=some (.agg (exO (ck x.segs i).val))from rfl) rfl ?_|refine ab rfl rfl (show ROp.run (.load true 11) [.eptr (sgO (ck x.segs i)) 13] _=some (.agg (exO (ck x.segs i).size))from rfl) rfl ?_|refine ab rfl rfl rfl rfl ?_|refine ab rfl rfl (gh Hy) rfl ?_|refine aC rfl rfl RA rfl rfl rfl rfl rfl rfl rfl RA PB rfl rfl ?_|refine au rfl rfl rfl (c) (λ_ _ q=>q) .none rfl ?_)|apply ac|refine ae rfl ?_|refine ay rfl rfl ?_|refine az rfl (λht=>?_) (λht=>?_)|apply ai|apply ah|apply aj|apply al|refine aB rfl ?_|refine ak rfl (λht=>?_) (λht=>?_)|apply av|apply bG.norm|apply bG.exit|apply OnC.exit|fail)
      all_goals first
       |exact absurd (q.symm.trans (show Nat.blt i x.segs.length=false by assumption)) (by decide)|exact absurd (z4.symm.trans (show(!eqI (ck x.segs i).type 4)=true by assumption)) (by decide)|exact absurd (qs.symm.trans (show(ck x.segs i).sized=false by assumption)) (by decide)|exact .norm ⟨_,_,bU KH,bL q,rfl,g9,k⟩
   ·rw [if_neg t4]at k
    have z4:(!eqI (ck x.segs i).type 4)=true:=by
     cases e:eqI (ck x.segs i).type 4 with
     |true=>exact absurd (nD e) t4
     |false=>rfl
    cases qs:(ck x.segs i).sized with
    |false=>
     rw [qs,if_neg (by decide)]at k;simp only [List.nil_append,List.cons_append]at k;cases k with
     |stop c=>
      have c:=CX.con c
      repeat' (first
       |(refine WLg.mk ?_;first
       |refine aa rfl rfl rfl rfl ?_|refine aa rfl rfl (bN Hy) rfl ?_|refine ab rfl rfl (show ROp.run (.load true 11) [.eptr (sgO (ck x.segs i)) 2] _=some (.agg (exO (ck x.segs i).val))from rfl) rfl ?_|refine ab rfl rfl (show ROp.run (.load true 11) [.eptr (sgO (ck x.segs i)) 13] _=some (.agg (exO (ck x.segs i).size))from rfl) rfl ?_|refine ab rfl rfl rfl rfl ?_|refine ab rfl rfl (gh Hy) rfl ?_|refine aC rfl rfl RA rfl rfl rfl rfl rfl rfl rfl RA PB rfl rfl ?_|refine au rfl rfl rfl (c) (λ_ _ q=>q) .none rfl ?_)|apply ac|refine ae rfl ?_|refine ay rfl rfl ?_|refine az rfl (λht=>?_) (λht=>?_)|apply ai|apply ah|apply aj|apply al|refine aD rfl ?_|refine aB rfl ?_|refine ak rfl (λht=>?_) (λht=>?_)|apply av|apply ap|apply bG.norm|apply bG.ret|apply bG.exit|apply OnC.ret|apply OnC.exit|fail)
      all_goals first
       |exact absurd (q.symm.trans (show Nat.blt i x.segs.length=false by assumption)) (by decide)|exact absurd (z4.symm.trans (show(!eqI (ck x.segs i).type 4)=false by assumption)) (by decide)|exact absurd (qs.symm.trans (show(ck x.segs i).sized=true by assumption)) (by decide)|exact⟨.inr rfl,_,rfl,rfl,rfl⟩
     |go c k=>
      have g9:=g1.trans c.gr;have c:=CX.con c
      repeat' (first
       |(refine WLg.mk ?_;first
       |refine aa rfl rfl rfl rfl ?_|refine aa rfl rfl (bN Hy) rfl ?_|refine ab rfl rfl (show ROp.run (.load true 11) [.eptr (sgO (ck x.segs i)) 2] _=some (.agg (exO (ck x.segs i).val))from rfl) rfl ?_|refine ab rfl rfl (show ROp.run (.load true 11) [.eptr (sgO (ck x.segs i)) 13] _=some (.agg (exO (ck x.segs i).size))from rfl) rfl ?_|refine ab rfl rfl rfl rfl ?_|refine ab rfl rfl (gh Hy) rfl ?_|refine aC rfl rfl RA rfl rfl rfl rfl rfl rfl rfl RA PB rfl rfl ?_|refine au rfl rfl rfl (c) (λ_ _ q=>q) .none rfl ?_)|apply ac|refine ae rfl ?_|refine ay rfl rfl ?_|refine az rfl (λht=>?_) (λht=>?_)|apply ai|apply ah|apply aj|apply al|refine aB rfl ?_|refine ak rfl (λht=>?_) (λht=>?_)|apply av|apply bG.norm|apply bG.exit|apply OnC.exit|fail)
      all_goals first
       |exact absurd (q.symm.trans (show Nat.blt i x.segs.length=false by assumption)) (by decide)|exact absurd (z4.symm.trans (show(!eqI (ck x.segs i).type 4)=false by assumption)) (by decide)|exact absurd (qs.symm.trans (show(ck x.segs i).sized=true by assumption)) (by decide)|exact .norm ⟨_,_,bU KH,bL q,rfl,g9,k⟩
    |true=>
     rw [qs,if_pos rfl]at k;simp only [List.nil_append,List.cons_append]at k;cases k with
     |stop c=>
      have c:=CX.con c
      repeat' (first
       |(refine WLg.mk ?_;first
       |refine aa rfl rfl rfl rfl ?_|refine aa rfl rfl (bN Hy) rfl ?_|refine ab rfl rfl (show ROp.run (.load true 11) [.eptr (sgO (ck x.segs i)) 2] _=some (.agg (exO (ck x.segs i).val))from rfl) rfl ?_|refine ab rfl rfl (show ROp.run (.load true 11) [.eptr (sgO (ck x.segs i)) 13] _=some (.agg (exO (ck x.segs i).size))from rfl) rfl ?_|refine ab rfl rfl rfl rfl ?_|refine ab rfl rfl (gh Hy) rfl ?_|refine aC rfl rfl RA rfl rfl rfl rfl rfl rfl rfl RA PB rfl rfl ?_|refine au rfl rfl rfl (c) (λ_ _ q=>q) .none rfl ?_)|apply ac|refine ae rfl ?_|refine ay rfl rfl ?_|refine az rfl (λht=>?_) (λht=>?_)|apply ai|apply ah|apply aj|apply al|refine aD rfl ?_|refine aB rfl ?_|refine ak rfl (λht=>?_) (λht=>?_)|apply av|apply ap|apply bG.norm|apply bG.ret|apply bG.exit|apply OnC.ret|apply OnC.exit|fail)
      all_goals first
       |exact absurd (q.symm.trans (show Nat.blt i x.segs.length=false by assumption)) (by decide)|exact absurd (z4.symm.trans (show(!eqI (ck x.segs i).type 4)=false by assumption)) (by decide)|exact absurd (qs.symm.trans (show(ck x.segs i).sized=false by assumption)) (by decide)|exact⟨.inr rfl,_,rfl,rfl,rfl⟩
     |go c k=>
      cases k with
      |stop c2=>
       have c:=CX.con c;have c2:=CX.con c2
       repeat' (first
        |(refine WLg.mk ?_;first
        |refine aa rfl rfl rfl rfl ?_|refine aa rfl rfl (bN Hy) rfl ?_|refine ab rfl rfl (show ROp.run (.load true 11) [.eptr (sgO (ck x.segs i)) 2] _=some (.agg (exO (ck x.segs i).val))from rfl) rfl ?_|refine ab rfl rfl (show ROp.run (.load true 11) [.eptr (sgO (ck x.segs i)) 13] _=some (.agg (exO (ck x.segs i).size))from rfl) rfl ?_|refine ab rfl rfl rfl rfl ?_|refine ab rfl rfl (gh Hy) rfl ?_|refine aC rfl rfl RA rfl rfl rfl rfl rfl rfl rfl RA PB rfl rfl ?_|refine au rfl rfl rfl (c) (λ_ _ q=>q) .none rfl ?_|refine au rfl rfl rfl (c2) (λ_ _ q=>q) .none rfl ?_)|apply ac|refine ae rfl ?_|refine ay rfl rfl ?_|refine az rfl (λht=>?_) (λht=>?_)|apply ai|apply ah|apply aj|apply al|refine aD rfl ?_|refine aB rfl ?_|refine ak rfl (λht=>?_) (λht=>?_)|apply av|apply ap|apply bG.norm|apply bG.ret|apply bG.exit|apply OnC.ret|apply OnC.exit|fail)
       all_goals first
        |exact absurd (q.symm.trans (show Nat.blt i x.segs.length=false by assumption)) (by decide)|exact absurd (z4.symm.trans (show(!eqI (ck x.segs i).type 4)=false by assumption)) (by decide)|exact absurd (qs.symm.trans (show(ck x.segs i).sized=false by assumption)) (by decide)|exact⟨.inr rfl,_,rfl,rfl,rfl⟩
      |go c2 k=>
       have g9:=(g1.trans c.gr).trans c2.gr;have c:=CX.con c;have c2:=CX.con c2
       repeat' (first
        |(refine WLg.mk ?_;first
        |refine aa rfl rfl rfl rfl ?_|refine aa rfl rfl (bN Hy) rfl ?_|refine ab rfl rfl (show ROp.run (.load true 11) [.eptr (sgO (ck x.segs i)) 2] _=some (.agg (exO (ck x.segs i).val))from rfl) rfl ?_|refine ab rfl rfl (show ROp.run (.load true 11) [.eptr (sgO (ck x.segs i)) 13] _=some (.agg (exO (ck x.segs i).size))from rfl) rfl ?_|refine ab rfl rfl rfl rfl ?_|refine ab rfl rfl (gh Hy) rfl ?_|refine aC rfl rfl RA rfl rfl rfl rfl rfl rfl rfl RA PB rfl rfl ?_|refine au rfl rfl rfl (c) (λ_ _ q=>q) .none rfl ?_|refine au rfl rfl rfl (c2) (λ_ _ q=>q) .none rfl ?_)|apply ac|refine ae rfl ?_|refine ay rfl rfl ?_|refine az rfl (λht=>?_) (λht=>?_)|apply ai|apply ah|apply aj|apply al|refine aB rfl ?_|refine ak rfl (λht=>?_) (λht=>?_)|apply av|apply bG.norm|apply bG.exit|apply OnC.exit|fail)
       all_goals first
        |exact absurd (q.symm.trans (show Nat.blt i x.segs.length=false by assumption)) (by decide)|exact absurd (z4.symm.trans (show(!eqI (ck x.segs i).type 4)=false by assumption)) (by decide)|exact absurd (qs.symm.trans (show(ck x.segs i).sized=false by assumption)) (by decide)|exact .norm ⟨_,_,bU KH,bL q,rfl,g9,k⟩
end
end Ev
end Go.Proofs.YtdfphfdnoobikaaGreatDoor
