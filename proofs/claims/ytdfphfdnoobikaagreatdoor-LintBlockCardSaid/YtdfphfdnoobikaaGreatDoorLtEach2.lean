/-
  The program:a closure on the expressions directly in a node (2).
-/
import Derived.Test.YtdfphfdnoobikaaGreatDoorLtSv2
namespace Go.Proofs.YtdfphfdnoobikaaGreatDoor
namespace Ev
section
theorem eO{M:Nat→Prop}{f:Fn}{a b:List V}(ha:∀v,v∈a→df M v)(hb:∀v,v∈b→df M v):df M (.func f a b):=fun E g g' u hg h=>by
 cases h with
 |func p q=>exact @VR.func E g' _ _ _ _ _ (ll hg ha p) (ll hg hb q)
theorem fm{M:Nat→Prop}{cs:List V}{o:Nat}(hc:∀v,v∈cs→df M v):df M (.eptr cs o):=fun E g g' u hg h=>by
 cases h with
 |eptr e hx h=>exact @VR.eptr E g' _ _ _ _ _ _ e hx (ll hg hc h)
theorem eC{M:Nat→Prop}{id o:Nat}(h:¬M id):df M (.ptr id o):=fun E g g' u hg k=>by
 cases k with
 |ptr e=>exact @VR.ptr E g' _ _ _ _ _ (hg _ _ h e)
theorem zv{M:Nat→Prop}{k:IntKind}{n:Int}:df M (.int k n):=(bN.flat rfl).free
theorem ls{M:Nat→Prop}{v:V}(h:df M v):∀c,c∈[v]→df M c:=fun c hc=>by rw [List.mem_singleton.1 hc];exact h
section
variable {loc tmp loc' tmp':AL} {h h1:H} {l:List bQ} {R:AL→H→Prop} {d:Dst} {args:List Opd} {gd:Option (Opd×Bool)} {lo hi:Nat} {P:Program} {T:Ty} {K:Nat→Prop} {call:cB}
theorem aP{x:V}(e0:bV ⟨loc,tmp⟩ gd=some true)(e1:evs ⟨loc,tmp⟩ args=some [x])(hx:cellsOf x=[x])(h1:cD x=true)(hf:df (fun id=>id=h.next) x)
  (e3:fK d (.eptr [x] 0) loc tmp=some (loc',tmp')) (k:WL P T K call l loc' tmp' h R):WL P T K call (⟨d,.a .box,args,gd,lo,hi⟩ ::l) loc tmp h R:=by
 refine bA (cs:=[x]) (mk:=fun i=>.ptr i 0) e0 e1 ?_ (.inl ⟨rfl,rfl⟩) (by show 1≤bP;unfold bP;omega) (ls hf) e3 k
 show ob (oif (cK (cellsOf x)) (oif (Nat.blt (bU (cellsOf x)) bP) (some (Blk.cells (bU (cellsOf x)) (cE (cellsOf x) 0 .e) none false)))) _=_
 rw [hx]
 show ob (oif (Bool.rec (motive:=fun _=>Bool) false (cK []) (cD x)) _) _=_
 rw [h1]
 rfl
end
theorem f92{g:FuncId}{caps:List V}{y:Ex}{h h':H}{b:Bool}(np:1<h.next)(c:CE g caps y h b h'):CX 92 [.eptr [.func (.func g) [] caps] 0] (.agg (exO y)) h (!b) h':=by
 refine⟨?_,c.gr.le,c.gr.lt⟩
 have c:=CX.con c
 refine eI Tryz.func92 (by decide) cf92_ok rfl rfl np ‹CE g caps y h b h'›.gr.le ?_
 repeat' (first
  |(refine WLg.mk ?_;first
  |refine aa rfl rfl rfl rfl ?_
  |refine ab rfl rfl (show ROp.run (.load true 11) [.eptr (exO y) 0] _=some (.agg (exO y))from rfl) rfl ?_
  |refine ab rfl rfl rfl rfl ?_
  |refine az rfl rfl RA rfl PB rfl ?_
  |refine am rfl rfl rfl (c) (fun _ _ q=>q) .none rfl ?_)
  |refine ah ?_|refine ac rfl ?_|refine ai ?_|refine ae ?_|refine ap ?_|refine bE.norm ?_|fail)
 exact⟨.inr rfl,_,rfl,rfl,rfl⟩
theorem Rk.up{α:Type}{C C':α→H→Bool→H→Prop}(hg:∀y h b h',C y h b h'→Gr h h')(hc:∀y h b h',1<h.next→C y h b h'→C' y h b h'):∀{l:List α} {h h':H} {r:Bool},1<h.next→Rk C l h r h'→Rk C' l h r h'
 |_,_,_,_,_,.nil=>.nil
 |_,_,_,_,np,.stop c=>.stop (hc _ _ _ _ np c)
 |_,_,_,_,np,.go c k=>.go (hc _ _ _ _ np c) (Rk.up hg hc (Nat.lt_of_lt_of_le np (hg _ _ _ _ c).le) k)
theorem f90{g:FuncId}{caps:List V}{l:List Ex}(hl:l.length<9223372036854775807){h h':H}{b:Bool}(np:1<h.next)(hk:Nat.blt h.next bP=true)(k:Rk (CE g caps) l h b h'):
  Con Tryz.prog TP noM 90 [.lst l.length 11 (exL l),.eptr [.func (.func g) [] caps] 0] h (.bool b) h':=by
 have gr:=k.gr (fun y h b h' c=>c.gr) hk
 have c:=f91c hl np hk (Rk.up (fun _ _ _ _ c=>c.gr) (fun y h b h' np c=>f92 np c) np k)
 refine eI Tryz.func90 (by decide) cf90_ok rfl rfl np gr.le ?_
 repeat' (first
  |(refine WLg.mk ?_;first
  |refine aa rfl rfl rfl rfl ?_|refine am rfl rfl rfl (c) (fun _ _ q=>q) .none rfl ?_)
  |refine ah ?_|refine ac rfl ?_|refine ai ?_|refine ae ?_|refine ap ?_|refine bE.norm ?_|fail)
 exact⟨.inr rfl,_,rfl,by rw [Bool.not_not];rfl,rfl⟩
def smK(s:Sm):List Ex:=if s.isMatch then [s.pat,s.val]else [s.val]
theorem Rk.body{C:Ex→H→Bool→H→Prop}:∀{l:List Sm} {h h':H} {r:Bool},Rk C (cR l) h r h'→Rk (fun s=>Rk C (smK s)) l h r h'
 |[],_,_,_,k=>by cases k;exact .nil
 |s ::l,h,h',r,k=>by
  have k:Rk C (smK s++cR l) h r h':=k
  rcases k.app with⟨h1,k1,k2⟩ | ⟨rfl,k1⟩
  ·exact .go k1 (Rk.body k2)
  ·exact .stop k1
theorem f94{g:FuncId}{caps:List V}{s:Sm}{h h':H}{b:Bool}(np:1<h.next)(hk:Nat.blt h.next bP=true)(k:Rk (CE g caps) (smK s) h b h'):CX 94 [.eptr [.func (.func g) [] caps] 0] (.agg (smO s)) h (!b) h':=by
 have gr:=k.gr (fun y h b h' c=>c.gr) hk
 refine⟨?_,gr.le,gr.lt⟩
 refine eI Tryz.func94 (by decide) cf94_ok rfl rfl np gr.le ?_
 unfold smK at k
 cases q:s.isMatch with
 |false=>
  rw [q,if_neg (by decide)]at k
  obtain c:CE g caps s.val h b h':=by
   cases k with
   |stop c=>exact c
   |go c k=>cases k;exact c
  have c:=CX.con c
  repeat' (first
   |(refine WLg.mk ?_;first
   |refine aa rfl rfl rfl rfl ?_
   |refine ab rfl rfl (show ROp.run (.load true 11) [.eptr (smO s) 12] _=some (.agg (exO s.val))from rfl) rfl ?_
   |refine ab rfl rfl rfl rfl ?_
   |refine az rfl rfl RA rfl PB rfl ?_
   |refine am rfl rfl rfl (c) (fun _ _ q=>q) .none rfl ?_)
   |refine ah ?_|refine ac rfl ?_|refine ax rfl rfl ?_|refine ay rfl (fun ht=>?_) (fun ht=>?_)|refine ai ?_
   |refine ae ?_|refine ap ?_|refine bE.norm ?_|fail)
  all_goals first
   |exact absurd (q.symm.trans ht) (by decide)
   |exact⟨.inr rfl,_,rfl,by cases b<;>rfl,rfl⟩
 |true=>
  rw [q,if_pos rfl]at k
  cases k with
  |stop c=>
   have c:=CX.con c
   repeat' (first
    |(refine WLg.mk ?_;first
    |refine aa rfl rfl rfl rfl ?_
    |refine ab rfl rfl (show ROp.run (.load false 1) [.eptr (smO s) 0] _=some (.bool true) by rw [←q];rfl) rfl ?_
    |refine ab rfl rfl (show ROp.run (.load true 11) [.eptr (smO s) 1] _=some (.agg (exO s.pat))from rfl) rfl ?_
    |refine ab rfl rfl rfl rfl ?_
    |refine az rfl rfl RA rfl PB rfl ?_
    |refine am rfl rfl rfl (c) (fun _ _ q=>q) .none rfl ?_)
    |refine ah ?_|refine ac rfl ?_|refine ax rfl rfl ?_|refine ai ?_|refine ae ?_|refine ap ?_|refine bE.norm ?_
    |fail)
   all_goals first
    |exact absurd (q.symm.trans ht) (by decide)
    |exact⟨.inr rfl,_,rfl,rfl,rfl⟩
  |go c k=>
   rename_i h1
   obtain c2:CE g caps s.val h1 b h':=by
    cases k with
    |stop c=>exact c
    |go c k=>cases k;exact c
   have c:=CX.con c
   have c2:=CX.con c2
   repeat' (first
    |(refine WLg.mk ?_;first
    |refine aa rfl rfl rfl rfl ?_
    |refine ab rfl rfl (show ROp.run (.load false 1) [.eptr (smO s) 0] _=some (.bool true) by rw [←q];rfl) rfl ?_
    |refine ab rfl rfl (show ROp.run (.load true 11) [.eptr (smO s) 1] _=some (.agg (exO s.pat))from rfl) rfl ?_
    |refine ab rfl rfl (show ROp.run (.load true 11) [.eptr (smO s) 12] _=some (.agg (exO s.val))from rfl) rfl ?_
    |refine ab rfl rfl rfl rfl ?_
    |refine az rfl rfl RA rfl PB rfl ?_
    |refine am rfl rfl rfl (c) (fun _ _ q=>q) .none rfl ?_|refine am rfl rfl rfl (c2) (fun _ _ q=>q) .none rfl ?_)
    |refine ah ?_|refine ac rfl ?_|refine ai ?_|refine ae ?_|refine ap ?_|refine bE.norm ?_|fail)
   all_goals first
    |exact absurd (q.symm.trans ht) (by decide)
    |exact⟨.inr rfl,_,rfl,by cases b<;>rfl,rfl⟩
theorem f93{g:FuncId}{caps:List V}{l:List Sm}(hl:l.length<9223372036854775807){h h':H}{b:Bool}(np:1<h.next)(hk:Nat.blt h.next bP=true)(k:Rk (CE g caps) (cR l) h b h'):
  Con Tryz.prog TP noM 93 [.lst l.length 23 (smL l),.eptr [.func (.func g) [] caps] 0] h (.bool b) h':=by
 have gr:=k.gr (fun y h b h' c=>c.gr) hk
 have up:∀{l:List Sm} {h h':H} {r:Bool},1<h.next→Nat.blt h.next bP=true→Rk (fun s=>Rk (CE g caps) (smK s)) l h r h'→Rk (fun s h b h'=>CX 94 [.eptr [.func (.func g) [] caps] 0] (.agg (smO s)) h (!b) h') l h r h':=by
  intro l
  induction l with
  |nil=>intro h h' r _ _ k;cases k;exact .nil
  |cons s l ih=>
   intro h h' r np hk k
   cases k with
   |stop c=>exact .stop (f94 np hk c)
   |go c k=>
    have gc:=c.gr (fun y h b h' c=>c.gr) hk
    exact .go (f94 np hk c) (ih (Nat.lt_of_lt_of_le np gc.le) gc.lt k)
 have c:=f77c hl np hk (up np hk k.body)
 refine eI Tryz.func93 (by decide) cf93_ok rfl rfl np gr.le ?_
 repeat' (first
  |(refine WLg.mk ?_;first
  |refine aa rfl rfl rfl rfl ?_|refine am rfl rfl rfl (c) (fun _ _ q=>q) .none rfl ?_)
  |refine ah ?_|refine ac rfl ?_|refine ai ?_|refine ae ?_|refine ap ?_|refine bE.norm ?_|fail)
 exact⟨.inr rfl,_,rfl,by rw [Bool.not_not];rfl,rfl⟩
end
section
noncomputable section
def clZ:Cl:= .mk ⟨#[]⟩ [] [] []
def fr47(g:FuncId)(caps:List V)(l:List Cl)(i:Nat):AL:=[(1,.func (.func g) [] caps),(15,.lst l.length 4 (clL l)),(16,.int .i64 (Int.ofNat l.length)),(17,.int .i64 (Int.ofNat i))]
def fr47p(g:FuncId)(caps:List V)(l:List Cl)(i m:Nat):AL:=[(1,.func (.func g) [] caps),(15,.lst l.length 4 (clL l)),(16,.int .i64 (Int.ofNat l.length)),(17,.int .i64 (Int.ofNat i)),(6,.eptr (clO (bL l i)) 0),
 (22,.lst (bL l i).pats.length 11 (exL (bL l i).pats)),(23,.int .i64 (Int.ofNat (bL l i).pats.length)),(24,.int .i64 (Int.ofNat m))]
def fr47g(g:FuncId)(caps:List V)(l:List Cl)(i m:Nat):AL:=[(1,.func (.func g) [] caps),(15,.lst l.length 4 (clL l)),(16,.int .i64 (Int.ofNat l.length)),(17,.int .i64 (Int.ofNat i)),(6,.eptr (clO (bL l i)) 0),
 (34,.lst (bL l i).guards.length 1 (gdL (bL l i).guards)),(35,.int .i64 (Int.ofNat (bL l i).guards.length)),(36,.int .i64 (Int.ofNat m))]
def fr47i(g:FuncId)(caps:List V)(l:List Cl)(i m k:Nat):AL:=[(1,.func (.func g) [] caps),(15,.lst l.length 4 (clL l)),(16,.int .i64 (Int.ofNat l.length)),(17,.int .i64 (Int.ofNat i)),(6,.eptr (clO (bL l i)) 0),
 (34,.lst (bL l i).guards.length 1 (gdL (bL l i).guards)),(35,.int .i64 (Int.ofNat (bL l i).guards.length)),(36,.int .i64 (Int.ofNat m)),
 (40,.lst (dm (bL l i).guards m).length 11 (exL (dm (bL l i).guards m))),(41,.int .i64 (Int.ofNat (dm (bL l i).guards m).length)),(42,.int .i64 (Int.ofNat k))]
def fr47b(g:FuncId)(caps:List V)(l:List Cl)(i m:Nat):AL:=[(1,.func (.func g) [] caps),(15,.lst l.length 4 (clL l)),(16,.int .i64 (Int.ofNat l.length)),(17,.int .i64 (Int.ofNat i)),(6,.eptr (clO (bL l i)) 0),
 (53,.lst (bL l i).body.length 23 (smL (bL l i).body)),(54,.int .i64 (Int.ofNat (bL l i).body.length)),(55,.int .i64 (Int.ofNat m))]
end
set_option maxHeartbeats 8000000 in
theorem f47{g:FuncId}{caps:List V}{l:List Cl}(hl:bF (clL l)≤6000000){h h':H}{b:Bool}(np:1<h.next)(hk:Nat.blt h.next bP=true)(k:Rk (CE g caps) (clK l) h b h'):
  Con Tryz.prog TP noM 47 [.lst l.length 4 (clL l),.func (.func g) [] caps] h (.bool b) h':=by
 have gr:=k.gr (fun y h b h' c=>c.gr) hk
 have hn:=eS l
 refine eI Tryz.func47 (by decide) cf47_ok rfl rfl np gr.le ?_
 repeat' (first
  |(refine WLg.mk ?_;first
  |refine aa rfl rfl rfl rfl ?_)
  |refine ah ?_|refine ac rfl ?_|refine ai ?_|refine ae ?_|refine aj ?_|refine bE.norm ?_|fail)
 refine av (bR (l:=fr47 g caps l 0) KH) ?_
 refine aw l.length (fun i x h1=>x=fr47 g caps l i∧Gr h h1∧Rk (CE g caps) (clK (l.drop i)) h1 b h') ?_ (i:=0) (Nat.zero_le _) ⟨rfl,.refl hk,k⟩
 rintro i _ h1 hi ⟨rfl,gr1,k⟩
 have hi2:i<9223372036854775807:=by omega
 have hk1:=gr1.lt
 cases q:Nat.blt i l.length with
 |false=>
  rw [iD hi q]at k
  cases k
  repeat' (first
   |(refine WLg.mk ?_;first
   |refine aa rfl rfl rfl rfl ?_|refine aa rfl rfl (bM Hy) rfl ?_)
   |refine ah ?_|refine ac rfl ?_|refine ai ?_|refine ae ?_|refine aj ?_|refine al ?_
   |refine ak rfl (fun ht=>?_) (fun ht=>?_)|refine au ?_|refine ap ?_|refine bE.norm ?_|refine bE.exit ?_
   |refine OnC.exit ?_|fail)
  all_goals first
   |exact absurd (q.symm.trans Hy) (by decide)
   |exact⟨.inr rfl,_,rfl,rfl,rfl⟩
 |true=>
  rw [jG (d:=clZ) q]at k
  have k:Rk (CE g caps) (((bL l i).pats++(gdK (bL l i).guards++cR (bL l i).body))++clK (l.drop (i+1))) h1 b h':=k
  simp only [List.append_assoc]at k
  have hlt:=bK q
  have hle:=jr q
  have hsz:=ff (bL l i)
  have hp:=fX (bL l i).pats 6000000 (by omega)
  have hg0:=ky (bL l i).guards
  have hb0:=gM (bL l i).body
  repeat' (first
   |(refine WLg.mk ?_;first
   |refine aa rfl rfl rfl rfl ?_|refine aa rfl rfl (bM Hy) rfl ?_|refine ab rfl rfl rfl rfl ?_
   |refine ab rfl rfl (gK Hy) rfl ?_
   |refine aA rfl rfl RA rfl rfl rfl rfl rfl rfl rfl RA PB rfl rfl ?_)
   |refine ah ?_|refine ac rfl ?_|refine ai ?_|refine ae ?_|refine aj ?_|refine al ?_
   |refine ak rfl (fun ht=>?_) (fun ht=>?_)|refine au ?_|refine ap ?_|refine bE.norm ?_|refine bE.exit ?_
   |refine OnC.exit ?_|fail)
  any_goals (first|exact absurd (q.symm.trans (show Nat.blt i l.length=true by assumption)) (by decide)|exact absurd (q.symm.trans (show Nat.blt i l.length=false by assumption)) (by decide)|fail)
  refine av (bR (l:=fr47p g caps l i 0) KH) ?_
  refine aw (bL l i).pats.length (fun m x h2=>x=fr47p g caps l i m∧Gr h h2∧Rk (CE g caps) ((bL l i).pats.drop m++(gdK (bL l i).guards++(cR (bL l i).body++clK (l.drop (i+1))))) h2 b h') ?_ (i:=0) (Nat.zero_le _) ⟨rfl,gr1,k⟩
  clear k gr1 hk1 ht
  rintro m _ h2 hm ⟨rfl,gr2,k⟩
  have hm2:m<9223372036854775807:=by omega
  have hk2:=gr2.lt
  cases qm:Nat.blt m (bL l i).pats.length with
  |true=>
   rw [jG (d:=ex0) qm]at k
   cases k with
   |stop c=>
    have c:=CX.con c
    repeat' (first
     |(refine WLg.mk ?_;first
     |refine aa rfl rfl rfl rfl ?_|refine aa rfl rfl (bM Hy) rfl ?_|refine ab rfl rfl rfl rfl ?_
     |refine ab rfl rfl (dv Hy) rfl ?_
     |refine aA rfl rfl RA rfl rfl rfl rfl rfl rfl rfl RA PB rfl rfl ?_
     |refine am rfl rfl rfl (c) (fun _ _ q=>q) .none rfl ?_)
     |refine ah ?_|refine ac rfl ?_|refine ai ?_|refine ae ?_|refine aj ?_|refine al ?_|refine aC rfl ?_
     |refine ak rfl (fun ht=>?_) (fun ht=>?_)|refine au ?_|refine ap ?_|refine bE.norm ?_|refine bE.ret ?_
     |refine bE.exit ?_|refine OnC.ret ?_|refine OnC.exit ?_|fail)
    all_goals first
     |exact absurd (qm.symm.trans Hy) (by decide)
     |exact⟨.inr rfl,_,rfl,rfl,rfl⟩
   |go c k=>
    have g3:=gr2.trans c.gr
    have c:=CX.con c
    repeat' (first
     |(refine WLg.mk ?_;first
     |refine aa rfl rfl rfl rfl ?_|refine aa rfl rfl (bM Hy) rfl ?_|refine ab rfl rfl rfl rfl ?_
     |refine ab rfl rfl (dv Hy) rfl ?_
     |refine aA rfl rfl RA rfl rfl rfl rfl rfl rfl rfl RA PB rfl rfl ?_
     |refine am rfl rfl rfl (c) (fun _ _ q=>q) .none rfl ?_)
     |refine ah ?_|refine ac rfl ?_|refine ai ?_|refine ae ?_|refine aj ?_|refine al ?_|refine aB rfl ?_
     |refine ak rfl (fun ht=>?_) (fun ht=>?_)|refine au ?_|refine bE.norm ?_|refine bE.exit ?_|refine OnC.exit ?_|fail)
    all_goals first
     |exact absurd (qm.symm.trans Hy) (by decide)
     |exact .norm ⟨_,_,bR KH,bK qm,rfl,g3,k⟩
  |false=>
   rw [iD hm qm,List.nil_append]at k
   repeat' (first
    |(refine WLg.mk ?_;first
    |refine aa rfl rfl rfl rfl ?_|refine aa rfl rfl (bM Hy) rfl ?_|refine ab rfl rfl rfl rfl ?_)
    |refine ah ?_|refine ac rfl ?_|refine ai ?_|refine ae ?_|refine aj ?_|refine al ?_
    |refine ak rfl (fun ht=>?_) (fun ht=>?_)|refine au ?_|refine bE.norm ?_|refine bE.exit ?_|refine OnC.exit ?_|fail)
   any_goals (first|exact absurd (qm.symm.trans (show Nat.blt m (bL l i).pats.length=true by assumption)) (by decide)|exact absurd (qm.symm.trans (show Nat.blt m (bL l i).pats.length=false by assumption)) (by decide)|fail)
   refine av (bR (l:=fr47g g caps l i 0) KH) ?_
   refine aw (bL l i).guards.length (fun m x h2=>x=fr47g g caps l i m∧Gr h h2∧Rk (CE g caps) (gdK ((bL l i).guards.drop m)++(cR (bL l i).body++clK (l.drop (i+1)))) h2 b h') ?_ (i:=0) (Nat.zero_le _) ⟨rfl,gr2,k⟩
   clear k gr2 hk2 ht hm hm2 qm
   rintro m _ h2 hm ⟨rfl,gr2,k⟩
   have hm2:m<9223372036854775807:=by omega
   have hk2:=gr2.lt
   cases qm:Nat.blt m (bL l i).guards.length with
   |true=>
    rw [jG (d:=[]) qm]at k
    have k:Rk (CE g caps) ((dm (bL l i).guards m++gdK ((bL l i).guards.drop (m+1)))++(cR (bL l i).body++clK (l.drop (i+1)))) h2 b h':=k
    simp only [List.append_assoc]at k
    have hgle:=yn qm
    have hgl:=fX (dm (bL l i).guards m) 6000000 (by omega)
    repeat' (first
     |(refine WLg.mk ?_;first
     |refine aa rfl rfl rfl rfl ?_|refine aa rfl rfl (bM Hy) rfl ?_
     |refine ab rfl rfl (d5 (j:=0) (qF Hy) rfl _) rfl ?_|refine ab rfl rfl rfl rfl ?_)
     |refine ah ?_|refine ac rfl ?_|refine ai ?_|refine ae ?_|refine aj ?_|refine al ?_
     |refine ak rfl (fun ht=>?_) (fun ht=>?_)|refine au ?_|refine bE.norm ?_|refine bE.exit ?_|refine OnC.exit ?_|fail)
    any_goals (first|exact absurd (qm.symm.trans (show Nat.blt m (bL l i).guards.length=true by assumption)) (by decide)|exact absurd (qm.symm.trans (show Nat.blt m (bL l i).guards.length=false by assumption)) (by decide)|fail)
    refine av (bR (l:=fr47i g caps l i m 0) KH) ?_
    refine aw (dm (bL l i).guards m).length (fun n x h2=>x=fr47i g caps l i m n∧Gr h h2∧Rk (CE g caps) ((dm (bL l i).guards m).drop n++(gdK ((bL l i).guards.drop (m+1))++(cR (bL l i).body++clK (l.drop (i+1))))) h2 b h') ?_ (i:=0) (Nat.zero_le _) ⟨rfl,gr2,k⟩
    clear k gr2 hk2 ht
    rintro n _ h2 hnl ⟨rfl,gr2,k⟩
    have hn2:n<9223372036854775807:=by omega
    have hk2:=gr2.lt
    cases qn:Nat.blt n (dm (bL l i).guards m).length with
    |true=>
     rw [jG (d:=ex0) qn]at k
     cases k with
     |stop c=>
      have c:=CX.con c
      repeat' (first
       |(refine WLg.mk ?_;first
       |refine aa rfl rfl rfl rfl ?_|refine aa rfl rfl (bM Hy) rfl ?_|refine ab rfl rfl rfl rfl ?_
       |refine ab rfl rfl (dv Hy) rfl ?_
       |refine aA rfl rfl RA rfl rfl rfl rfl rfl rfl rfl RA PB rfl rfl ?_
       |refine am rfl rfl rfl (c) (fun _ _ q=>q) .none rfl ?_)
       |refine ah ?_|refine ac rfl ?_|refine ai ?_|refine ae ?_|refine aj ?_|refine al ?_|refine aC rfl ?_
       |refine ak rfl (fun ht=>?_) (fun ht=>?_)|refine au ?_|refine ap ?_|refine bE.norm ?_|refine bE.ret ?_
       |refine bE.exit ?_|refine OnC.ret ?_|refine OnC.exit ?_|fail)
      all_goals first
       |exact absurd (qn.symm.trans Hy) (by decide)
       |exact⟨.inr rfl,_,rfl,rfl,rfl⟩
     |go c k=>
      have g3:=gr2.trans c.gr
      have c:=CX.con c
      repeat' (first
       |(refine WLg.mk ?_;first
       |refine aa rfl rfl rfl rfl ?_|refine aa rfl rfl (bM Hy) rfl ?_|refine ab rfl rfl rfl rfl ?_
       |refine ab rfl rfl (dv Hy) rfl ?_
       |refine aA rfl rfl RA rfl rfl rfl rfl rfl rfl rfl RA PB rfl rfl ?_
       |refine am rfl rfl rfl (c) (fun _ _ q=>q) .none rfl ?_)
       |refine ah ?_|refine ac rfl ?_|refine ai ?_|refine ae ?_|refine aj ?_|refine al ?_|refine aB rfl ?_
       |refine ak rfl (fun ht=>?_) (fun ht=>?_)|refine au ?_|refine bE.norm ?_|refine bE.exit ?_|refine OnC.exit ?_|fail)
      all_goals first
       |exact absurd (qn.symm.trans Hy) (by decide)
       |exact .norm ⟨_,_,bR KH,bK qn,rfl,g3,k⟩
    |false=>
     rw [iD hnl qn,List.nil_append]at k
     repeat' (first
      |(refine WLg.mk ?_;first
      |refine aa rfl rfl rfl rfl ?_|refine aa rfl rfl (bM Hy) rfl ?_)
      |refine ah ?_|refine ac rfl ?_|refine ai ?_|refine ae ?_|refine aj ?_|refine al ?_
      |refine ak rfl (fun ht=>?_) (fun ht=>?_)|refine au ?_|refine bE.norm ?_|refine bE.exit ?_|refine OnC.exit ?_|fail)
     any_goals (first|exact absurd (qn.symm.trans (show Nat.blt n (dm (bL l i).guards m).length=true by assumption)) (by decide)|exact absurd (qn.symm.trans (show Nat.blt n (dm (bL l i).guards m).length=false by assumption)) (by decide)|fail)
     exact .norm ⟨_,_,bR KH,bK qm,rfl,gr2,k⟩
   |false=>
    rw [iD hm qm]at k
    have k:Rk (CE g caps) (cR (bL l i).body++clK (l.drop (i+1))) h2 b h':=k
    repeat' (first
     |(refine WLg.mk ?_;first
     |refine aa rfl rfl rfl rfl ?_|refine aa rfl rfl (bM Hy) rfl ?_|refine ab rfl rfl rfl rfl ?_)
     |refine ah ?_|refine ac rfl ?_|refine ai ?_|refine ae ?_|refine aj ?_|refine al ?_
     |refine ak rfl (fun ht=>?_) (fun ht=>?_)|refine au ?_|refine bE.norm ?_|refine bE.exit ?_|refine OnC.exit ?_|fail)
    any_goals (first|exact absurd (qm.symm.trans (show Nat.blt m (bL l i).guards.length=true by assumption)) (by decide)|exact absurd (qm.symm.trans (show Nat.blt m (bL l i).guards.length=false by assumption)) (by decide)|fail)
    refine av (bR (l:=fr47b g caps l i 0) KH) ?_
    refine aw (bL l i).body.length (fun m x h2=>x=fr47b g caps l i m∧Gr h h2∧Rk (CE g caps) (cR ((bL l i).body.drop m)++clK (l.drop (i+1))) h2 b h') ?_ (i:=0) (Nat.zero_le _) ⟨rfl,gr2,k⟩
    clear k gr2 hk2 ht hm hm2 qm
    rintro m _ h2 hm ⟨rfl,gr2,k⟩
    have hm2:m<9223372036854775807:=by omega
    have hk2:=gr2.lt
    cases qm:Nat.blt m (bL l i).body.length with
    |false=>
     rw [iD hm qm]at k
     have k:Rk (CE g caps) (clK (l.drop (i+1))) h2 b h':=k
     repeat' (first
      |(refine WLg.mk ?_;first
      |refine aa rfl rfl rfl rfl ?_|refine aa rfl rfl (bM Hy) rfl ?_)
      |refine ah ?_|refine ac rfl ?_|refine ai ?_|refine ae ?_|refine aj ?_|refine al ?_
      |refine ak rfl (fun ht=>?_) (fun ht=>?_)|refine au ?_|refine bE.norm ?_|refine bE.exit ?_|refine OnC.exit ?_|fail)
     any_goals (first|exact absurd (qm.symm.trans (show Nat.blt m (bL l i).body.length=true by assumption)) (by decide)|exact absurd (qm.symm.trans (show Nat.blt m (bL l i).body.length=false by assumption)) (by decide)|fail)
     exact .norm ⟨_,_,bR KH,hlt,rfl,gr2,k⟩
    |true=>
     rw [jG (d:=smZ) qm]at k
     have k:Rk (CE g caps) ((smK (cC (bL l i).body m)++cR ((bL l i).body.drop (m+1)))++clK (l.drop (i+1))) h2 b h':=k
     rw [List.append_assoc]at k
     have tb:∀x,POp.run .mv [.bool x]=some (.bool x):=fun x=>rfl
     cases qs:(cC (bL l i).body m).isMatch with
     |false=>
      unfold smK at k
      rw [qs,if_neg (by decide)]at k
      cases k with
      |stop c=>
       have c:=CX.con c
       repeat' (first
        |(refine WLg.mk ?_;first
        |refine aa rfl rfl rfl rfl ?_|refine aa rfl rfl (bM Hy) rfl ?_
        |refine ab rfl rfl (show ROp.run (.load true 11) [.eptr (smO (cC (bL l i).body m)) 12] _=some (.agg (exO (cC (bL l i).body m).val))from rfl) rfl ?_
        |refine ab rfl rfl rfl rfl ?_|refine ab rfl rfl (gU Hy) rfl ?_
        |refine aA rfl rfl RA rfl rfl rfl rfl rfl rfl rfl RA PB rfl rfl ?_
        |refine am rfl rfl rfl (c) (fun _ _ q=>q) .none rfl ?_)
        |refine ah ?_|refine ac rfl ?_|refine ax rfl rfl ?_|refine ay rfl (fun ht=>?_) (fun ht=>?_)|refine ai ?_
        |refine ae ?_|refine aj ?_|refine al ?_|refine aC rfl ?_|refine ak rfl (fun ht=>?_) (fun ht=>?_)
        |refine au ?_|refine ap ?_|refine bE.norm ?_|refine bE.ret ?_|refine bE.exit ?_|refine OnC.ret ?_|refine OnC.exit ?_
        |fail)
       all_goals first
        |exact absurd (qm.symm.trans Hy) (by decide)
        |exact absurd (qs.symm.trans Hy) (by decide)
        |exact⟨.inr rfl,_,rfl,rfl,rfl⟩
      |go c k=>
       have g3:=gr2.trans c.gr
       have c:=CX.con c
       repeat' (first
        |(refine WLg.mk ?_;first
        |refine aa rfl rfl rfl rfl ?_|refine aa rfl rfl (bM Hy) rfl ?_
        |refine ab rfl rfl (show ROp.run (.load true 11) [.eptr (smO (cC (bL l i).body m)) 12] _=some (.agg (exO (cC (bL l i).body m).val))from rfl) rfl ?_
        |refine ab rfl rfl rfl rfl ?_|refine ab rfl rfl (gU Hy) rfl ?_
        |refine aA rfl rfl RA rfl rfl rfl rfl rfl rfl rfl RA PB rfl rfl ?_
        |refine am rfl rfl rfl (c) (fun _ _ q=>q) .none rfl ?_)
        |refine ah ?_|refine ac rfl ?_|refine ax rfl rfl ?_|refine ay rfl (fun ht=>?_) (fun ht=>?_)|refine ai ?_
        |refine ae ?_|refine aj ?_|refine al ?_|refine aB rfl ?_|refine ak rfl (fun ht=>?_) (fun ht=>?_)
        |refine au ?_|refine bE.norm ?_|refine bE.exit ?_|refine OnC.exit ?_|fail)
       all_goals first
        |exact absurd (qm.symm.trans Hy) (by decide)
        |exact absurd (qs.symm.trans Hy) (by decide)
        |exact .norm ⟨_,_,bR KH,bK qm,rfl,g3,k⟩
     |true=>
      unfold smK at k
      rw [qs,if_pos rfl]at k
      cases k with
      |stop c=>
       have c:=CX.con c
       repeat' (first
        |(refine WLg.mk ?_;first
        |refine aa rfl rfl rfl rfl ?_|refine aa rfl rfl (bM Hy) rfl ?_
        |refine ab rfl rfl (show ROp.run (.load true 11) [.eptr (smO (cC (bL l i).body m)) 1] _=some (.agg (exO (cC (bL l i).body m).pat))from rfl) rfl ?_
        |refine ab rfl rfl rfl rfl ?_|refine ab rfl rfl (gU Hy) rfl ?_
        |refine aA rfl rfl RA rfl rfl rfl rfl rfl rfl rfl RA PB rfl rfl ?_
        |refine am rfl rfl rfl (c) (fun _ _ q=>q) .none rfl ?_)
        |refine ah ?_|refine ac rfl ?_|refine ax rfl rfl ?_|refine ay rfl (fun ht=>?_) (fun ht=>?_)|refine ai ?_
        |refine ae ?_|refine aj ?_|refine al ?_|refine aC rfl ?_|refine ak rfl (fun ht=>?_) (fun ht=>?_)
        |refine au ?_|refine ap ?_|refine bE.norm ?_|refine bE.ret ?_|refine bE.exit ?_|refine OnC.ret ?_|refine OnC.exit ?_
        |fail)
       all_goals first
        |exact absurd (qm.symm.trans Hy) (by decide)
        |exact absurd (qs.symm.trans Hy) (by decide)
        |exact⟨.inr rfl,_,rfl,rfl,rfl⟩
      |go c k=>
       cases k with
       |stop c2=>
        have c:=CX.con c
        have c2:=CX.con c2
        repeat' (first
         |(refine WLg.mk ?_;first
         |refine aa rfl rfl rfl rfl ?_|refine aa rfl rfl (bM Hy) rfl ?_
         |refine ab rfl rfl (show ROp.run (.load true 11) [.eptr (smO (cC (bL l i).body m)) 1] _=some (.agg (exO (cC (bL l i).body m).pat))from rfl) rfl ?_
         |refine ab rfl rfl (show ROp.run (.load true 11) [.eptr (smO (cC (bL l i).body m)) 12] _=some (.agg (exO (cC (bL l i).body m).val))from rfl) rfl ?_
         |refine ab rfl rfl rfl rfl ?_|refine ab rfl rfl (gU Hy) rfl ?_
         |refine aA rfl rfl RA rfl rfl rfl rfl rfl rfl rfl RA PB rfl rfl ?_
         |refine am rfl rfl rfl (c) (fun _ _ q=>q) .none rfl ?_|refine am rfl rfl rfl (c2) (fun _ _ q=>q) .none rfl ?_)
         |refine ah ?_|refine ac rfl ?_|refine ax rfl rfl ?_|refine ay rfl (fun ht=>?_) (fun ht=>?_)|refine ai ?_
         |refine ae ?_|refine aj ?_|refine al ?_|refine aC rfl ?_|refine ak rfl (fun ht=>?_) (fun ht=>?_)
         |refine au ?_|refine ap ?_|refine bE.norm ?_|refine bE.ret ?_|refine bE.exit ?_|refine OnC.ret ?_|refine OnC.exit ?_
         |fail)
        all_goals first
         |exact absurd (qm.symm.trans Hy) (by decide)
         |exact absurd (qs.symm.trans Hy) (by decide)
         |exact⟨.inr rfl,_,rfl,rfl,rfl⟩
       |go c2 k=>
        have g3:=(gr2.trans c.gr).trans c2.gr
        have c:=CX.con c
        have c2:=CX.con c2
        repeat' (first
         |(refine WLg.mk ?_;first
         |refine aa rfl rfl rfl rfl ?_|refine aa rfl rfl (bM Hy) rfl ?_
         |refine ab rfl rfl (show ROp.run (.load true 11) [.eptr (smO (cC (bL l i).body m)) 1] _=some (.agg (exO (cC (bL l i).body m).pat))from rfl) rfl ?_
         |refine ab rfl rfl (show ROp.run (.load true 11) [.eptr (smO (cC (bL l i).body m)) 12] _=some (.agg (exO (cC (bL l i).body m).val))from rfl) rfl ?_
         |refine ab rfl rfl rfl rfl ?_|refine ab rfl rfl (gU Hy) rfl ?_
         |refine aA rfl rfl RA rfl rfl rfl rfl rfl rfl rfl RA PB rfl rfl ?_
         |refine am rfl rfl rfl (c) (fun _ _ q=>q) .none rfl ?_|refine am rfl rfl rfl (c2) (fun _ _ q=>q) .none rfl ?_)
         |refine ah ?_|refine ac rfl ?_|refine ax rfl rfl ?_|refine ay rfl (fun ht=>?_) (fun ht=>?_)|refine ai ?_
         |refine ae ?_|refine aj ?_|refine al ?_|refine aB rfl ?_|refine ak rfl (fun ht=>?_) (fun ht=>?_)
         |refine au ?_|refine bE.norm ?_|refine bE.exit ?_|refine OnC.exit ?_|fail)
        all_goals first
         |exact absurd (qm.symm.trans Hy) (by decide)
         |exact absurd (qs.symm.trans Hy) (by decide)
         |exact .norm ⟨_,_,bR KH,bK qm,rfl,g3,k⟩
theorem f95{g:FuncId}{caps:List V}{l:List Cl}(hl:bF (clL l)≤6000000){h h':H}{b:Bool}(np:1<h.next)(hk:Nat.blt h.next bP=true)(k:Rk (CE g caps) (clK l) h b h'):
  Con Tryz.prog TP noM 95 [.lst l.length 4 (clL l),.eptr [.func (.func g) [] caps] 0] h (.bool b) h':=by
 have gr:=k.gr (fun y h b h' c=>c.gr) hk
 have c:=f47 hl np hk k
 refine eI Tryz.func95 (by decide) cf95_ok rfl rfl np gr.le ?_
 repeat' (first
  |(refine WLg.mk ?_;first
  |refine aa rfl rfl rfl rfl ?_|refine ab rfl rfl rfl rfl ?_|refine am rfl rfl rfl (c) (fun _ _ q=>q) .none rfl ?_)
  |refine ah ?_|refine ac rfl ?_|refine ai ?_|refine ae ?_|refine ap ?_|refine bE.norm ?_|fail)
 exact⟨.inr rfl,_,rfl,rfl,rfl⟩
end
section
def dC(x:Ex):List Ex:=if x.kind=17 then clK x.clauses++(x.items++cR x.after)else mN x.segs++(x.items++(cR x.body++(clK x.clauses++(clK x.catches++cR x.after))))
noncomputable section
def sgZ:Sg:= .mk 0 ⟨#[]⟩ ex0 ex0 false false false
def fr63(g:FuncId)(caps:List V)(x:Ex)(i:Nat):AL:=[(2,.eptr (exO x) 0),(3,.eptr [.func (.func g) [] caps] 0),(5,.func (.func 90) [] [.eptr [.func (.func g) [] caps] 0]),(6,.func (.func 93) [] [.eptr [.func (.func g) [] caps] 0]),(7,.func (.func 95) [] [.eptr [.func (.func g) [] caps] 0]),
 (33,.lst x.segs.length 27 (sgL x.segs)),(34,.int .i64 (Int.ofNat x.segs.length)),(35,.int .i64 (Int.ofNat i))]
end
set_option maxHeartbeats 8000000 in
theorem f63{g:FuncId}{caps:List V}{x:Ex}(hx:bF (exO x)≤6000000){h h':H}{b:Bool}(np:1<h.next)(hk:Nat.blt h.next bP=true)(hdv:df (fun id=>id=h.next) (.func (.func g) [] caps))(k:Rk (CE g caps) (dC x) h b h'):
  Con Tryz.prog TP noM 63 [.agg (exO x),.func (.func g) [] caps] h (.bool b) h':=by
 have gr:=k.gr (fun y h b h' c=>c.gr) hk
 have hs:=dL x
 have hi:=dt x.items
 have hsg:=iQ x.segs
 have hb0:=gM x.body
 have ha0:=gM x.after
 have hi9:x.items.length<9223372036854775807:=by omega
 have hb9:x.body.length<9223372036854775807:=by omega
 have ha9:x.after.length<9223372036854775807:=by omega
 have hc9:bF (clL x.clauses)≤6000000:=by omega
 have hq9:bF (clL x.catches)≤6000000:=by omega
 refine eI Tryz.func63 (by decide) cf63_ok rfl rfl np gr.le ?_
 have gg:∀{l:List Ex} {h1 h2:H} {b:Bool},Gr h h1→Rk (CE g caps) l h1 b h2→Gr h h2:=fun g1 k=>g1.trans (k.gr (fun y h b h' c=>c.gr) g1.lt)
 have nx:∀{h1:H},Gr h h1→1<h1.next:=fun g1=>Nat.lt_of_lt_of_le np g1.le
 have g0:Gr h h:= .refl hk
 unfold dC at k
 by_cases hk17:x.kind=17
 ·rw [if_pos hk17]at k
  have e17:eqI x.kind 17=true:=by rw [hk17];rfl
  rcases k.app with⟨h1,k1,k⟩ | ⟨rfl,k1⟩
  ·have g1:=gg g0 k1
   have c1:=f95 hc9 np hk k1
   rcases k.app with⟨h2,k2,k⟩ | ⟨rfl,k2⟩
   ·have g2:=gg g1 k2
    have c2:=f90 hi9 (nx g1) g1.lt k2
    have c3:=f93 ha9 (nx g2) g2.lt k
    repeat' (first
     |(refine WLg.mk ?_;first
     |refine aa rfl rfl rfl rfl ?_|refine ab rfl rfl rfl rfl ?_|refine aP rfl rfl rfl rfl hdv rfl ?_
     |refine az rfl rfl RA rfl PB rfl ?_
     |refine am rfl rfl rfl (c1) (fun _ _ q=>q) .none rfl ?_|refine am rfl rfl rfl (c2) (fun _ _ q=>q) .none rfl ?_
     |refine am rfl rfl rfl (c3) (fun _ _ q=>q) .none rfl ?_)
     |refine ah ?_|refine ac rfl ?_|refine ai ?_|refine ae ?_|refine aj ?_|refine al ?_
     |refine ak rfl (fun ht=>?_) (fun ht=>?_)|refine ap ?_|refine bE.norm ?_|refine bE.ret ?_|fail)
    any_goals (first|exact absurd (e17.symm.trans (show eqI x.kind 17=false by assumption)) (by decide)|fail)
    exact⟨.inr rfl,_,rfl,rfl,rfl⟩
   ·have c2:=f90 hi9 (nx g1) g1.lt k2
    repeat' (first
     |(refine WLg.mk ?_;first
     |refine aa rfl rfl rfl rfl ?_|refine ab rfl rfl rfl rfl ?_|refine aP rfl rfl rfl rfl hdv rfl ?_
     |refine az rfl rfl RA rfl PB rfl ?_
     |refine am rfl rfl rfl (c1) (fun _ _ q=>q) .none rfl ?_|refine am rfl rfl rfl (c2) (fun _ _ q=>q) .none rfl ?_)
     |refine ah ?_|refine ac rfl ?_|refine ax rfl rfl ?_|refine ai ?_|refine ae ?_|refine aj ?_|refine al ?_
     |refine ak rfl (fun ht=>?_) (fun ht=>?_)|refine ap ?_|refine bE.norm ?_|refine bE.ret ?_|fail)
    any_goals (first|exact absurd (e17.symm.trans (show eqI x.kind 17=false by assumption)) (by decide)|fail)
    exact⟨.inr rfl,_,rfl,rfl,rfl⟩
  ·have c1:=f95 hc9 np hk k1
   repeat' (first
    |(refine WLg.mk ?_;first
    |refine aa rfl rfl rfl rfl ?_|refine ab rfl rfl rfl rfl ?_|refine aP rfl rfl rfl rfl hdv rfl ?_
    |refine az rfl rfl RA rfl PB rfl ?_
    |refine am rfl rfl rfl (c1) (fun _ _ q=>q) .none rfl ?_)
    |refine ah ?_|refine ac rfl ?_|refine ax rfl rfl ?_|refine ai ?_|refine ae ?_|refine aj ?_|refine al ?_
    |refine ak rfl (fun ht=>?_) (fun ht=>?_)|refine ap ?_|refine bE.norm ?_|refine bE.ret ?_|fail)
   any_goals (first|exact absurd (e17.symm.trans (show eqI x.kind 17=false by assumption)) (by decide)|fail)
   exact⟨.inr rfl,_,rfl,rfl,rfl⟩
 ·rw [if_neg hk17]at k
  have e17:eqI x.kind 17=false:=by
   cases q:eqI x.kind 17 with
   |true=>exact absurd (oP q) hk17
   |false=>rfl
  repeat' (first
   |(refine WLg.mk ?_;first
   |refine aa rfl rfl rfl rfl ?_|refine ab rfl rfl rfl rfl ?_|refine aP rfl rfl rfl rfl hdv rfl ?_
   |refine az rfl rfl RA rfl PB rfl ?_)
   |refine ah ?_|refine ac rfl ?_|refine ai ?_|refine ae ?_|refine aj ?_|refine al ?_
   |refine ak rfl (fun ht=>?_) (fun ht=>?_)|refine bE.norm ?_|fail)
  any_goals (first|exact absurd (e17.symm.trans (show eqI x.kind 17=true by assumption)) (by decide)|skip)
  refine av (bR (l:=fr63 g caps x 0) KH) ?_
  refine aw x.segs.length (fun i l h1=>l=fr63 g caps x i∧Gr h h1∧Rk (CE g caps) (mN (x.segs.drop i)++(x.items++(cR x.body++(clK x.clauses++(clK x.catches++cR x.after))))) h1 b h') ?_ (i:=0) (Nat.zero_le _) ⟨rfl,g0,k⟩
  clear k
  rintro i _ h1 hil ⟨rfl,g1,k⟩
  have hi2:i<9223372036854775807:=by omega
  have hk1:=g1.lt
  cases q:Nat.blt i x.segs.length with
  |false=>
   rw [iD hil q]at k
   have k:Rk (CE g caps) (x.items++(cR x.body++(clK x.clauses++(clK x.catches++cR x.after)))) h1 b h':=k
   rcases k.app with⟨h2,k1,k⟩ | ⟨rfl,k1⟩
   ·have g2:=gg g1 k1
    have c1:=f90 hi9 (nx g1) g1.lt k1
    rcases k.app with⟨h3,k2,k⟩ | ⟨rfl,k2⟩
    ·have g3:=gg g2 k2
     have c2:=f93 hb9 (nx g2) g2.lt k2
     rcases k.app with⟨h4,k3,k⟩ | ⟨rfl,k3⟩
     ·have g4:=gg g3 k3
      have c3:=f95 hc9 (nx g3) g3.lt k3
      rcases k.app with⟨h5,k4,k⟩ | ⟨rfl,k4⟩
      ·have g5:=gg g4 k4
       have c4:=f95 hq9 (nx g4) g4.lt k4
       have c5:=f93 ha9 (nx g5) g5.lt k
       repeat' (first
        |(refine WLg.mk ?_;first
        |refine aa rfl rfl rfl rfl ?_|refine aa rfl rfl (bM Hy) rfl ?_|refine ab rfl rfl rfl rfl ?_
        |refine am rfl rfl rfl (c1) (fun _ _ q=>q) .none rfl ?_|refine am rfl rfl rfl (c2) (fun _ _ q=>q) .none rfl ?_
        |refine am rfl rfl rfl (c3) (fun _ _ q=>q) .none rfl ?_|refine am rfl rfl rfl (c4) (fun _ _ q=>q) .none rfl ?_
        |refine am rfl rfl rfl (c5) (fun _ _ q=>q) .none rfl ?_)
        |refine ah ?_|refine ac rfl ?_|refine ai ?_|refine ae ?_|refine aj ?_|refine al ?_
        |refine ak rfl (fun ht=>?_) (fun ht=>?_)|refine au ?_|refine ap ?_|refine bE.norm ?_|refine bE.exit ?_
        |refine OnC.exit ?_|fail)
       any_goals (first|exact absurd (q.symm.trans (show Nat.blt i x.segs.length=true by assumption)) (by decide)|fail)
       exact⟨.inr rfl,_,rfl,rfl,rfl⟩
      ·have c4:=f95 hq9 (nx g4) g4.lt k4
       repeat' (first
        |(refine WLg.mk ?_;first
        |refine aa rfl rfl rfl rfl ?_|refine aa rfl rfl (bM Hy) rfl ?_|refine ab rfl rfl rfl rfl ?_
        |refine am rfl rfl rfl (c1) (fun _ _ q=>q) .none rfl ?_|refine am rfl rfl rfl (c2) (fun _ _ q=>q) .none rfl ?_
        |refine am rfl rfl rfl (c3) (fun _ _ q=>q) .none rfl ?_|refine am rfl rfl rfl (c4) (fun _ _ q=>q) .none rfl ?_)
        |refine ah ?_|refine ac rfl ?_|refine ax rfl rfl ?_|refine ai ?_|refine ae ?_|refine aj ?_|refine al ?_
        |refine ak rfl (fun ht=>?_) (fun ht=>?_)|refine au ?_|refine ap ?_|refine bE.norm ?_|refine bE.exit ?_
        |refine OnC.exit ?_|fail)
       any_goals (first|exact absurd (q.symm.trans (show Nat.blt i x.segs.length=true by assumption)) (by decide)|fail)
       exact⟨.inr rfl,_,rfl,rfl,rfl⟩
     ·have c3:=f95 hc9 (nx g3) g3.lt k3
      repeat' (first
       |(refine WLg.mk ?_;first
       |refine aa rfl rfl rfl rfl ?_|refine aa rfl rfl (bM Hy) rfl ?_|refine ab rfl rfl rfl rfl ?_
       |refine am rfl rfl rfl (c1) (fun _ _ q=>q) .none rfl ?_|refine am rfl rfl rfl (c2) (fun _ _ q=>q) .none rfl ?_
       |refine am rfl rfl rfl (c3) (fun _ _ q=>q) .none rfl ?_)
       |refine ah ?_|refine ac rfl ?_|refine ax rfl rfl ?_|refine ai ?_|refine ae ?_|refine aj ?_|refine al ?_
       |refine ak rfl (fun ht=>?_) (fun ht=>?_)|refine au ?_|refine ap ?_|refine bE.norm ?_|refine bE.exit ?_
       |refine OnC.exit ?_|fail)
      any_goals (first|exact absurd (q.symm.trans (show Nat.blt i x.segs.length=true by assumption)) (by decide)|fail)
      exact⟨.inr rfl,_,rfl,rfl,rfl⟩
    ·have c2:=f93 hb9 (nx g2) g2.lt k2
     repeat' (first
      |(refine WLg.mk ?_;first
      |refine aa rfl rfl rfl rfl ?_|refine aa rfl rfl (bM Hy) rfl ?_|refine ab rfl rfl rfl rfl ?_
      |refine am rfl rfl rfl (c1) (fun _ _ q=>q) .none rfl ?_|refine am rfl rfl rfl (c2) (fun _ _ q=>q) .none rfl ?_)
      |refine ah ?_|refine ac rfl ?_|refine ax rfl rfl ?_|refine ai ?_|refine ae ?_|refine aj ?_|refine al ?_
      |refine ak rfl (fun ht=>?_) (fun ht=>?_)|refine au ?_|refine ap ?_|refine bE.norm ?_|refine bE.exit ?_
      |refine OnC.exit ?_|fail)
     any_goals (first|exact absurd (q.symm.trans (show Nat.blt i x.segs.length=true by assumption)) (by decide)|fail)
     exact⟨.inr rfl,_,rfl,rfl,rfl⟩
   ·have c1:=f90 hi9 (nx g1) g1.lt k1
    repeat' (first
     |(refine WLg.mk ?_;first
     |refine aa rfl rfl rfl rfl ?_|refine aa rfl rfl (bM Hy) rfl ?_|refine ab rfl rfl rfl rfl ?_
     |refine am rfl rfl rfl (c1) (fun _ _ q=>q) .none rfl ?_)
     |refine ah ?_|refine ac rfl ?_|refine ax rfl rfl ?_|refine ai ?_|refine ae ?_|refine aj ?_|refine al ?_
     |refine ak rfl (fun ht=>?_) (fun ht=>?_)|refine au ?_|refine ap ?_|refine bE.norm ?_|refine bE.exit ?_
     |refine OnC.exit ?_|fail)
    any_goals (first|exact absurd (q.symm.trans (show Nat.blt i x.segs.length=true by assumption)) (by decide)|fail)
    exact⟨.inr rfl,_,rfl,rfl,rfl⟩
  |true=>
   rw [jG (d:=sgZ) q]at k
   have k:Rk (CE g caps) ((((if(ce x.segs i).type=4 then []else [(ce x.segs i).val])++(if(ce x.segs i).sized then [(ce x.segs i).size]else []))++mN (x.segs.drop (i+1)))++(x.items++(cR x.body++(clK x.clauses++(clK x.catches++cR x.after))))) h1 b h':=k
   rw [List.append_assoc]at k
   by_cases t4:(ce x.segs i).type=4
   ·rw [if_pos t4]at k
    have z4:(!eqI (ce x.segs i).type 4)=false:=by rw [t4];rfl
    cases qs:(ce x.segs i).sized with
    |false=>
     rw [qs,if_neg (by decide)]at k
     simp only [List.nil_append]at k
     have g9:=g1
     repeat' (first
      |(refine WLg.mk ?_;first
      |refine aa rfl rfl rfl rfl ?_|refine aa rfl rfl (bM Hy) rfl ?_
      |refine ab rfl rfl (show ROp.run (.load true 11) [.eptr (sgO (ce x.segs i)) 2] _=some (.agg (exO (ce x.segs i).val))from rfl) rfl ?_
      |refine ab rfl rfl (show ROp.run (.load true 11) [.eptr (sgO (ce x.segs i)) 13] _=some (.agg (exO (ce x.segs i).size))from rfl) rfl ?_
      |refine ab rfl rfl rfl rfl ?_|refine ab rfl rfl (gq Hy) rfl ?_
      |refine aA rfl rfl RA rfl rfl rfl rfl rfl rfl rfl RA PB rfl rfl ?_)
      |refine ah ?_|refine ac rfl ?_|refine ax rfl rfl ?_|refine ay rfl (fun ht=>?_) (fun ht=>?_)|refine ai ?_
      |refine ae ?_|refine aj ?_|refine al ?_|refine aB rfl ?_|refine ak rfl (fun ht=>?_) (fun ht=>?_)
      |refine au ?_|refine bE.norm ?_|refine bE.exit ?_|refine OnC.exit ?_|fail)
     all_goals first
      |exact absurd (q.symm.trans (show Nat.blt i x.segs.length=false by assumption)) (by decide)
      |exact absurd (z4.symm.trans (show(!eqI (ce x.segs i).type 4)=true by assumption)) (by decide)
      |exact absurd (qs.symm.trans (show(ce x.segs i).sized=true by assumption)) (by decide)
      |exact .norm ⟨_,_,bR KH,bK q,rfl,g9,k⟩
    |true=>
     rw [qs,if_pos rfl]at k
     simp only [List.nil_append,List.cons_append]at k
     cases k with
     |stop c=>
      have c:=CX.con c
      repeat' (first
       |(refine WLg.mk ?_;first
       |refine aa rfl rfl rfl rfl ?_|refine aa rfl rfl (bM Hy) rfl ?_
       |refine ab rfl rfl (show ROp.run (.load true 11) [.eptr (sgO (ce x.segs i)) 2] _=some (.agg (exO (ce x.segs i).val))from rfl) rfl ?_
       |refine ab rfl rfl (show ROp.run (.load true 11) [.eptr (sgO (ce x.segs i)) 13] _=some (.agg (exO (ce x.segs i).size))from rfl) rfl ?_
       |refine ab rfl rfl rfl rfl ?_|refine ab rfl rfl (gq Hy) rfl ?_
       |refine aA rfl rfl RA rfl rfl rfl rfl rfl rfl rfl RA PB rfl rfl ?_
       |refine am rfl rfl rfl (c) (fun _ _ q=>q) .none rfl ?_)
       |refine ah ?_|refine ac rfl ?_|refine ax rfl rfl ?_|refine ay rfl (fun ht=>?_) (fun ht=>?_)|refine ai ?_
       |refine ae ?_|refine aj ?_|refine al ?_|refine aC rfl ?_|refine aB rfl ?_
       |refine ak rfl (fun ht=>?_) (fun ht=>?_)|refine au ?_|refine ap ?_|refine bE.norm ?_|refine bE.ret ?_
       |refine bE.exit ?_|refine OnC.ret ?_|refine OnC.exit ?_|fail)
      all_goals first
       |exact absurd (q.symm.trans (show Nat.blt i x.segs.length=false by assumption)) (by decide)
       |exact absurd (z4.symm.trans (show(!eqI (ce x.segs i).type 4)=true by assumption)) (by decide)
       |exact absurd (qs.symm.trans (show(ce x.segs i).sized=false by assumption)) (by decide)
       |exact⟨.inr rfl,_,rfl,rfl,rfl⟩
     |go c k=>
      have g9:=g1.trans c.gr
      have c:=CX.con c
      repeat' (first
       |(refine WLg.mk ?_;first
       |refine aa rfl rfl rfl rfl ?_|refine aa rfl rfl (bM Hy) rfl ?_
       |refine ab rfl rfl (show ROp.run (.load true 11) [.eptr (sgO (ce x.segs i)) 2] _=some (.agg (exO (ce x.segs i).val))from rfl) rfl ?_
       |refine ab rfl rfl (show ROp.run (.load true 11) [.eptr (sgO (ce x.segs i)) 13] _=some (.agg (exO (ce x.segs i).size))from rfl) rfl ?_
       |refine ab rfl rfl rfl rfl ?_|refine ab rfl rfl (gq Hy) rfl ?_
       |refine aA rfl rfl RA rfl rfl rfl rfl rfl rfl rfl RA PB rfl rfl ?_
       |refine am rfl rfl rfl (c) (fun _ _ q=>q) .none rfl ?_)
       |refine ah ?_|refine ac rfl ?_|refine ax rfl rfl ?_|refine ay rfl (fun ht=>?_) (fun ht=>?_)|refine ai ?_
       |refine ae ?_|refine aj ?_|refine al ?_|refine aB rfl ?_|refine ak rfl (fun ht=>?_) (fun ht=>?_)
       |refine au ?_|refine bE.norm ?_|refine bE.exit ?_|refine OnC.exit ?_|fail)
      all_goals first
       |exact absurd (q.symm.trans (show Nat.blt i x.segs.length=false by assumption)) (by decide)
       |exact absurd (z4.symm.trans (show(!eqI (ce x.segs i).type 4)=true by assumption)) (by decide)
       |exact absurd (qs.symm.trans (show(ce x.segs i).sized=false by assumption)) (by decide)
       |exact .norm ⟨_,_,bR KH,bK q,rfl,g9,k⟩
   ·rw [if_neg t4]at k
    have z4:(!eqI (ce x.segs i).type 4)=true:=by
     cases e:eqI (ce x.segs i).type 4 with
     |true=>exact absurd (oP e) t4
     |false=>rfl
    cases qs:(ce x.segs i).sized with
    |false=>
     rw [qs,if_neg (by decide)]at k
     simp only [List.nil_append,List.cons_append]at k
     cases k with
     |stop c=>
      have c:=CX.con c
      repeat' (first
       |(refine WLg.mk ?_;first
       |refine aa rfl rfl rfl rfl ?_|refine aa rfl rfl (bM Hy) rfl ?_
       |refine ab rfl rfl (show ROp.run (.load true 11) [.eptr (sgO (ce x.segs i)) 2] _=some (.agg (exO (ce x.segs i).val))from rfl) rfl ?_
       |refine ab rfl rfl (show ROp.run (.load true 11) [.eptr (sgO (ce x.segs i)) 13] _=some (.agg (exO (ce x.segs i).size))from rfl) rfl ?_
       |refine ab rfl rfl rfl rfl ?_|refine ab rfl rfl (gq Hy) rfl ?_
       |refine aA rfl rfl RA rfl rfl rfl rfl rfl rfl rfl RA PB rfl rfl ?_
       |refine am rfl rfl rfl (c) (fun _ _ q=>q) .none rfl ?_)
       |refine ah ?_|refine ac rfl ?_|refine ax rfl rfl ?_|refine ay rfl (fun ht=>?_) (fun ht=>?_)|refine ai ?_
       |refine ae ?_|refine aj ?_|refine al ?_|refine aC rfl ?_|refine aB rfl ?_
       |refine ak rfl (fun ht=>?_) (fun ht=>?_)|refine au ?_|refine ap ?_|refine bE.norm ?_|refine bE.ret ?_
       |refine bE.exit ?_|refine OnC.ret ?_|refine OnC.exit ?_|fail)
      all_goals first
       |exact absurd (q.symm.trans (show Nat.blt i x.segs.length=false by assumption)) (by decide)
       |exact absurd (z4.symm.trans (show(!eqI (ce x.segs i).type 4)=false by assumption)) (by decide)
       |exact absurd (qs.symm.trans (show(ce x.segs i).sized=true by assumption)) (by decide)
       |exact⟨.inr rfl,_,rfl,rfl,rfl⟩
     |go c k=>
      have g9:=g1.trans c.gr
      have c:=CX.con c
      repeat' (first
       |(refine WLg.mk ?_;first
       |refine aa rfl rfl rfl rfl ?_|refine aa rfl rfl (bM Hy) rfl ?_
       |refine ab rfl rfl (show ROp.run (.load true 11) [.eptr (sgO (ce x.segs i)) 2] _=some (.agg (exO (ce x.segs i).val))from rfl) rfl ?_
       |refine ab rfl rfl (show ROp.run (.load true 11) [.eptr (sgO (ce x.segs i)) 13] _=some (.agg (exO (ce x.segs i).size))from rfl) rfl ?_
       |refine ab rfl rfl rfl rfl ?_|refine ab rfl rfl (gq Hy) rfl ?_
       |refine aA rfl rfl RA rfl rfl rfl rfl rfl rfl rfl RA PB rfl rfl ?_
       |refine am rfl rfl rfl (c) (fun _ _ q=>q) .none rfl ?_)
       |refine ah ?_|refine ac rfl ?_|refine ax rfl rfl ?_|refine ay rfl (fun ht=>?_) (fun ht=>?_)|refine ai ?_
       |refine ae ?_|refine aj ?_|refine al ?_|refine aB rfl ?_|refine ak rfl (fun ht=>?_) (fun ht=>?_)
       |refine au ?_|refine bE.norm ?_|refine bE.exit ?_|refine OnC.exit ?_|fail)
      all_goals first
       |exact absurd (q.symm.trans (show Nat.blt i x.segs.length=false by assumption)) (by decide)
       |exact absurd (z4.symm.trans (show(!eqI (ce x.segs i).type 4)=false by assumption)) (by decide)
       |exact absurd (qs.symm.trans (show(ce x.segs i).sized=true by assumption)) (by decide)
       |exact .norm ⟨_,_,bR KH,bK q,rfl,g9,k⟩
    |true=>
     rw [qs,if_pos rfl]at k
     simp only [List.nil_append,List.cons_append]at k
     cases k with
     |stop c=>
      have c:=CX.con c
      repeat' (first
       |(refine WLg.mk ?_;first
       |refine aa rfl rfl rfl rfl ?_|refine aa rfl rfl (bM Hy) rfl ?_
       |refine ab rfl rfl (show ROp.run (.load true 11) [.eptr (sgO (ce x.segs i)) 2] _=some (.agg (exO (ce x.segs i).val))from rfl) rfl ?_
       |refine ab rfl rfl (show ROp.run (.load true 11) [.eptr (sgO (ce x.segs i)) 13] _=some (.agg (exO (ce x.segs i).size))from rfl) rfl ?_
       |refine ab rfl rfl rfl rfl ?_|refine ab rfl rfl (gq Hy) rfl ?_
       |refine aA rfl rfl RA rfl rfl rfl rfl rfl rfl rfl RA PB rfl rfl ?_
       |refine am rfl rfl rfl (c) (fun _ _ q=>q) .none rfl ?_)
       |refine ah ?_|refine ac rfl ?_|refine ax rfl rfl ?_|refine ay rfl (fun ht=>?_) (fun ht=>?_)|refine ai ?_
       |refine ae ?_|refine aj ?_|refine al ?_|refine aC rfl ?_|refine aB rfl ?_
       |refine ak rfl (fun ht=>?_) (fun ht=>?_)|refine au ?_|refine ap ?_|refine bE.norm ?_|refine bE.ret ?_
       |refine bE.exit ?_|refine OnC.ret ?_|refine OnC.exit ?_|fail)
      all_goals first
       |exact absurd (q.symm.trans (show Nat.blt i x.segs.length=false by assumption)) (by decide)
       |exact absurd (z4.symm.trans (show(!eqI (ce x.segs i).type 4)=false by assumption)) (by decide)
       |exact absurd (qs.symm.trans (show(ce x.segs i).sized=false by assumption)) (by decide)
       |exact⟨.inr rfl,_,rfl,rfl,rfl⟩
     |go c k=>
      cases k with
      |stop c2=>
       have c:=CX.con c
       have c2:=CX.con c2
       repeat' (first
        |(refine WLg.mk ?_;first
        |refine aa rfl rfl rfl rfl ?_|refine aa rfl rfl (bM Hy) rfl ?_
        |refine ab rfl rfl (show ROp.run (.load true 11) [.eptr (sgO (ce x.segs i)) 2] _=some (.agg (exO (ce x.segs i).val))from rfl) rfl ?_
        |refine ab rfl rfl (show ROp.run (.load true 11) [.eptr (sgO (ce x.segs i)) 13] _=some (.agg (exO (ce x.segs i).size))from rfl) rfl ?_
        |refine ab rfl rfl rfl rfl ?_|refine ab rfl rfl (gq Hy) rfl ?_
        |refine aA rfl rfl RA rfl rfl rfl rfl rfl rfl rfl RA PB rfl rfl ?_
        |refine am rfl rfl rfl (c) (fun _ _ q=>q) .none rfl ?_|refine am rfl rfl rfl (c2) (fun _ _ q=>q) .none rfl ?_)
        |refine ah ?_|refine ac rfl ?_|refine ax rfl rfl ?_|refine ay rfl (fun ht=>?_) (fun ht=>?_)|refine ai ?_
        |refine ae ?_|refine aj ?_|refine al ?_|refine aC rfl ?_|refine aB rfl ?_
        |refine ak rfl (fun ht=>?_) (fun ht=>?_)|refine au ?_|refine ap ?_|refine bE.norm ?_|refine bE.ret ?_
        |refine bE.exit ?_|refine OnC.ret ?_|refine OnC.exit ?_|fail)
       all_goals first
        |exact absurd (q.symm.trans (show Nat.blt i x.segs.length=false by assumption)) (by decide)
        |exact absurd (z4.symm.trans (show(!eqI (ce x.segs i).type 4)=false by assumption)) (by decide)
        |exact absurd (qs.symm.trans (show(ce x.segs i).sized=false by assumption)) (by decide)
        |exact⟨.inr rfl,_,rfl,rfl,rfl⟩
      |go c2 k=>
       have g9:=(g1.trans c.gr).trans c2.gr
       have c:=CX.con c
       have c2:=CX.con c2
       repeat' (first
        |(refine WLg.mk ?_;first
        |refine aa rfl rfl rfl rfl ?_|refine aa rfl rfl (bM Hy) rfl ?_
        |refine ab rfl rfl (show ROp.run (.load true 11) [.eptr (sgO (ce x.segs i)) 2] _=some (.agg (exO (ce x.segs i).val))from rfl) rfl ?_
        |refine ab rfl rfl (show ROp.run (.load true 11) [.eptr (sgO (ce x.segs i)) 13] _=some (.agg (exO (ce x.segs i).size))from rfl) rfl ?_
        |refine ab rfl rfl rfl rfl ?_|refine ab rfl rfl (gq Hy) rfl ?_
        |refine aA rfl rfl RA rfl rfl rfl rfl rfl rfl rfl RA PB rfl rfl ?_
        |refine am rfl rfl rfl (c) (fun _ _ q=>q) .none rfl ?_|refine am rfl rfl rfl (c2) (fun _ _ q=>q) .none rfl ?_)
        |refine ah ?_|refine ac rfl ?_|refine ax rfl rfl ?_|refine ay rfl (fun ht=>?_) (fun ht=>?_)|refine ai ?_
        |refine ae ?_|refine aj ?_|refine al ?_|refine aB rfl ?_|refine ak rfl (fun ht=>?_) (fun ht=>?_)
        |refine au ?_|refine bE.norm ?_|refine bE.exit ?_|refine OnC.exit ?_|fail)
       all_goals first
        |exact absurd (q.symm.trans (show Nat.blt i x.segs.length=false by assumption)) (by decide)
        |exact absurd (z4.symm.trans (show(!eqI (ce x.segs i).type 4)=false by assumption)) (by decide)
        |exact absurd (qs.symm.trans (show(ce x.segs i).sized=false by assumption)) (by decide)
        |exact .norm ⟨_,_,bR KH,bK q,rfl,g9,k⟩
end
end Ev
end Go.Proofs.YtdfphfdnoobikaaGreatDoor
