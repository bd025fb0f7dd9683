/-
  The program's survey:the walk.
-/
import Derived.Test.YtdfphfdnoobikaaGreatDoorLtEach
namespace Go.Proofs.YtdfphfdnoobikaaGreatDoor
namespace Ev
section
theorem jg(x:Ex):bH (exL (dt x))+11<=bH (exO x):=by
 have h0:=dM x;have h1:=gE x.clauses;have h2:=gE x.catches;have h3:=gA x.body;have h4:=gA x.after;have h5:=mP x.segs;unfold dt
 split
 ·rw [dS,dS,cj,cj];omega
 ·rw [dS,dS,dS,dS,dS,cj,cj,cj,cj,cj];omega
theorem fp{x y:Ex}(h:y∈dt x):bH (exO y)<bH (exO x):=by
 have:=gR h;have:=jg x;omega
noncomputable section
def zB(l:List V):Bool:=zvB (.agg (.int .i64 0 ::l.tail))
def dc(x:Ex):Bool:=ndB x&&(zB (ndL x)&&((dt x).attach.map λy=>dc y.1).all id)
termination_by bH (exO x)
decreasing_by exact fp y.2
def wN(x:Ex):Nat:=1+((dt x).attach.map λy=>wN y.1).sum
termination_by bH (exO x)
decreasing_by exact fp y.2
def wF(x:Ex):Nat:=ndF x+((dt x).attach.map λy=>wF y.1).sum
termination_by bH (exO x)
decreasing_by exact fp y.2
def wL(d:Nat)(x:Ex):Bool:=ltI 60 (Int.ofNat d)||(ndG x||((dt x).attach.map λy=>wL (d+1) y.1).any id)
termination_by bH (exO x)
decreasing_by exact fp y.2
end
theorem i6(x:Ex):dc x=(ndB x&&(zB (ndL x)&&(dt x).all dc)):=by
 rw [dc,List.attach_map_val (l:=dt x) (f:=dc),List.all_map];rfl
theorem AS(x:Ex):wN x=1+((dt x).map wN).sum:=by
 rw [wN,List.attach_map_val (l:=dt x) (f:=wN)]
theorem AX(x:Ex):wF x=ndF x+((dt x).map wF).sum:=by
 rw [wF,List.attach_map_val (l:=dt x) (f:=wF)]
theorem AV(d:Nat)(x:Ex):wL d x=(ltI 60 (Int.ofNat d)||(ndG x||(dt x).any (wL (d+1)))):=by
 rw [wL,List.attach_map_val (l:=dt x) (f:=wL (d+1)),List.any_map];rfl
theorem F4{c:Bool}{a b:Nat}(h1:a<=1)(h2:b<=1):(if c then a else b)<=1:=by cases c<;>assumption
theorem BZ(x:Ex):ndF x<=1:=by
 have hc:ctF x<=1:=by unfold ctF;split<;>omega
 unfold ndF
 repeat' (first|exact hc|(refine F4 ?_ ?_)|exact Nat.zero_le _)
theorem AR(x:Ex):wN x<=bH (exO x):=by
 have key:∀n (x:Ex),bH (exO x)<=n->wN x<=bH (exO x):=by
  intro n
  induction n with
  |zero=>intro x h;have:=iK x;omega
  |succ n ih=>
   intro x h;rw [AS];have:=jM (f:=wN) (l:=dt x) λy hy=>ih y (by have:=fp hy;omega);have:=jg x;omega
 exact key _ x (Nat.le_refl _)
theorem AW(x:Ex):wF x<=bH (exO x):=by
 have key:∀n (x:Ex),bH (exO x)<=n->wF x<=bH (exO x):=by
  intro n
  induction n with
  |zero=>intro x h;have:=iK x;omega
  |succ n ih=>
   intro x h;rw [AX];have:=jM (f:=wF) (l:=dt x) λy hy=>ih y (by have:=fp hy;omega);have:=jg x;have:=BZ x;omega
 exact key _ x (Nat.le_refl _)
structure HSv(n f:Nat)(l:Bool)(h:H):Prop where
 b0:h.blk 0=some (.ro 256 dN)
 b1:∃tr,h.blk 1=some (.cells 3 tr none false)/\tr.get 0=some (.int .i64 (Int.ofNat n))/\tr.get 1=some (.int .i64 (Int.ofNat f))/\tr.get 2=some (.bool l)
 le:Nat.ble 2 h.next=true
 lt:Nat.blt h.next bR=true
theorem HSv.put{n f n' f':Nat}{l l':Bool}{h:H}(s:HSv n f l h):HSv n' f' l' ⟨h.t.put 1 (some (.cells 3 (cq (svC n' f' l') 0 .e) none false)),h.next⟩:=by
 have gb:∀j,(⟨h.t.put 1 (some (.cells 3 (cq (svC n' f' l') 0 .e) none false)),h.next⟩:H).blk j=if j=1 then some (.cells 3 (cq (svC n' f' l') 0 .e) none false)else h.blk j:=λj=>Tr.get_put h.t 1 j _ (by unfold bR;omega)
 exact⟨by rw [gb,if_neg (by decide)];exact s.b0,⟨_,by rw [gb,if_pos rfl],rfl,rfl,rfl⟩,s.le,s.lt⟩
def WK(s:Nat):Prop:=∀x,bH (exO x)<s->∀d n f l0,d+bH (exO x)<9000000000000000000->n+bH (exO x)<9000000000000000000->f+bH (exO x)<9000000000000000000->
 ∃n' f' l1,CN 49 [.ptr 1 0,.agg (exO x),.int .i64 (Int.ofNat d)] (svH n f l0) (.bool (dc x)) (svH n' f' l1)/\(dc x=true->n'=n+wN x/\f'=f+wF x/\l1=(l0||wL d x))
noncomputable def zi(d:Nat):List V:=[.eptr [.ptr 1 0] 0,.eptr [.int .i64 (Int.ofNat d)] 0]
theorem AQ{s:Nat}(W:WK s){x:Ex}(hx:bH (exO x)<s){d n f:Nat}{l0:Bool}(hd:d+bH (exO x)<9000000000000000000)(hn:n+bH (exO x)<9000000000000000000)(hf:f+bH (exO x)<9000000000000000000){h:H}(hs:HSv n f l0 h):
  ∃h' n' f' l1,CN 49 [.ptr 1 0,.agg (exO x),.int .i64 (Int.ofNat d)] h (.bool (dc x)) h'/\h'.next=h.next/\HSv n' f' l1 h'/\(dc x=true->n'=n+wN x/\f'=f+wF x/\l1=(l0||wL d x)):=by
 obtain⟨n',f',l1,c,o⟩:=W x hx d n f l0 hd hn hf;obtain⟨tr,e1,t0,t1,t2⟩:=hs.b1;exact⟨_,n',f',l1,Con.frameB (cs:=svC n f l0) (cs':=svC n' f' l1) c (yA n f l0 (bO (pxe x) (bO (.flat rfl) px0))) List.mem_cons_self (.flat rfl) (dQ _ _ _) (dQ _ _ _) rfl rfl hs.b0 e1 (gq t0 t1 t2) (Nat.le_of_ble_eq_true hs.le),rfl,hs.put,o⟩
theorem f64{s:Nat}(W:WK s){x:Ex}(hx:bH (exO x)<s){d n f:Nat}{l0:Bool}(hd:d+1+bH (exO x)<9000000000000000000)(hn:n+bH (exO x)<9000000000000000000)(hf:f+bH (exO x)<9000000000000000000){h:H}(hs:HSv n f l0 h):
  ∃h' n' f' l1,CE 64 (zi d) x h (dc x) h'/\HSv n' f' l1 h'/\(dc x=true->n'=n+wN x/\f'=f+wF x/\l1=(l0||wL (d+1) x)):=by
 obtain⟨h',n',f',l1,c,e,hs',o⟩:=AQ W hx hd hn hf hs;refine⟨h',n',f',l1,⟨?_,Nat.le_of_eq e.symm,hs'.lt⟩,hs',o⟩;rw [<-iU (by omega)]at c;refine eN Tryz.func64 (by decide) q64.2 rfl rfl (Nat.le_of_ble_eq_true hs.le) (Nat.le_of_eq e.symm) ?_
 repeat' (first
  |(refine WLg.mk ?_;first
  |refine aa rfl rfl rfl rfl ?_|refine ab rfl rfl (show ROp.run (.load true 11) [.eptr (exO x) 0] _=some (.agg (exO x))from rfl) rfl ?_|refine ab rfl rfl rfl rfl ?_|refine aA rfl rfl RA rfl PB rfl ?_|refine au rfl rfl rfl (c) (λ_ _ q=>q) .none rfl ?_)|apply ac|refine ae rfl ?_|apply ai|apply ah|apply ap|apply bG.norm|fail)
 exact⟨.inr rfl,_,rfl,rfl,rfl⟩
theorem EC{s:Nat}(W:WK s){d:Nat}:∀(L:List Ex),(∀y,y∈L->bH (exO y)<s)->d+1+bH (exL L)<9000000000000000000->∀{n f:Nat} {l0:Bool} {h:H},n+bH (exL L)<9000000000000000000->f+bH (exL L)<9000000000000000000->HSv n f l0 h->
  ∃h' n' f' l1,Rk (CE 64 (zi d)) L h (L.all dc) h'/\HSv n' f' l1 h'/\(L.all dc=true->n'=n+(L.map wN).sum/\f'=f+(L.map wF).sum/\l1=(l0||L.any (wL (d+1))))
 |[],_,_,n,f,l0,h,_,_,hs=>⟨h,n,f,l0,.nil,hs,λ_=>⟨rfl,rfl,by simp⟩⟩
 |y ::L,hy,hd,n,f,l0,h,hn,hf,hs=>by
  rw [cK,cj]at hd hn hf;obtain⟨h1,n1,f1,l1,c,hs1,o⟩:=f64 W (hy y List.mem_cons_self) (d:=d) (by omega) (by omega) (by omega) hs;rw [List.all_cons];cases q:dc y with
  |false=>
   rw [q]at c;exact⟨h1,n1,f1,l1,.stop c,hs1,λk=>by simp at k⟩
  |true=>
   rw [q]at c;obtain⟨rfl,rfl,rfl⟩:=o q;have:=AR y;have:=AW y;obtain⟨h2,n2,f2,l2,k,hs2,o2⟩:=EC W (d:=d) L (λz hz=>hy z (List.mem_cons_of_mem _ hz)) (by omega) (by omega) (by omega) hs1;refine⟨h2,n2,f2,l2,by rw [Bool.true_and];exact .go c k,hs2,λk=>?_⟩;rw [Bool.true_and]at k;obtain⟨rfl,rfl,rfl⟩:=o2 k;simp only [List.map_cons,List.sum_cons,List.any_cons,Nat.add_assoc,Bool.or_assoc,true_and]
theorem f61F(x:Ex)(hx:bH (exO x)<=6000000)(n f:Nat)(l0:Bool)(hf:f<9223372036854775807):
  ∃l1,(∀{h:H} {tr:Tr V},h.blk 0=some (.ro 256 dN)->h.blk 1=some (.cells 3 tr none false)->tr.get 0=some (.int .i64 (Int.ofNat n))->tr.get 1=some (.int .i64 (Int.ofNat f))->tr.get 2=some (.bool l0)->Nat.ble 2 h.next=true->
   CN 61 [.ptr 1 0,.agg (exO x)] h (.tup [.agg (ndL x),.bool (ndB x)]) ⟨h.t.put 1 (some (.cells 3 (cq (svC n (f+ndF x) l1) 0 .e) none false)),h.next⟩)/\(ndB x=true->l1=(l0||ndG x)):=by
 obtain⟨l1,c,o⟩:=f61 x hx n f l0 hf;refine⟨l1,λ{h tr} h0 h1 t0 t1 t2 hn=>?_,o⟩;have pl:bP (.agg (ndL x)):=(wY x).node.px;exact Con.frameB (cs:=svC n f l0) (cs':=svC n (f+ndF x) l1) c (yA n f l0 (bO (pxe x) px0)) List.mem_cons_self (.tup (bO pl (bO (.flat rfl) px0))) (dQ _ _ _) (dQ _ _ _) rfl rfl h0 h1 (gq t0 t1 t2) (Nat.le_of_ble_eq_true hn)
theorem Em{A:H->Bool->Prop}{P:H->Bool->H->Nat->Nat->Bool->Prop}(k:∀h l,A h l->∃h' n f l1,P h l h' n f l1):∃(nh:∀h l,A h l->H) (nn nf:∀h l,A h l->Nat) (nl:∀h l,A h l->Bool),∀h l a,P h l (nh h l a) (nn h l a) (nf h l a) (nl h l a):=by
 classical
 exact⟨λh l a=>Classical.choose (k h l a),λh l a=>Classical.choose (Classical.choose_spec (k h l a)),λh l a=>Classical.choose (Classical.choose_spec (Classical.choose_spec (k h l a))),λh l a=>Classical.choose (Classical.choose_spec (Classical.choose_spec (Classical.choose_spec (k h l a)))),λh l a=>Classical.choose_spec (Classical.choose_spec (Classical.choose_spec (Classical.choose_spec (k h l a))))⟩
theorem xA(d:Nat){k:Nat}(h:1<k):dg (λid=>id=k) (.func (.func 64) [] (zi d)):=eQ (λv hv=>by cases hv) λv hv=>by
 rcases List.mem_cons.1 hv with rfl|hv
 ·exact fh (lj (eI λq=>by omega))
 ·rw [List.mem_singleton.1 hv]
  exact fh (lj Ag)
theorem bB{P:Program}{T:Ty}{K:Nat->Prop}{call:cB}{n:Nat}{l:List bS}{loc loc':AL}{h h':H}{Q:X->AL->H->Prop}(k:∃s',fH call l ⟨⟨loc,[]⟩,h,[],[]⟩=some s'/\bF s'.cs (jb s'.hs [s'.h])/\s'.f.loc=loc'/\s'.h=h')(c:Q .norm loc' h'):WC P T K call n (.regD l) loc h Q:=by
 obtain⟨s',k1,k2,rfl,rfl⟩:=k;exact WC.regD ⟨s',k1,k2,c⟩
noncomputable section
def fr49(x:Ex)(d:Nat):AL:=[(0,.ptr 1 0),(1,.agg (exO x)),(2,.int .i64 (Int.ofNat d)),(3,.eptr [.ptr 1 0] 0),(4,.eptr (exO x) 0),(5,.eptr [.int .i64 (Int.ofNat d)] 0),(6,.bool false)]
def Fk(c:ci):ci:=match c with
 |.seq _ b=>b
 |c=>c
def Gn:ci:=Fk (Fk (Fk cf49.code))
end
set_option maxHeartbeats 16000000 in
theorem zF{s:Nat}(hs:s<=6000000)(W:WK s):WK (s+1):=by
 intro x hx d n f l0 hd hn hf;obtain⟨v,cs',c,n',f',l1,rfl,rfl,ok⟩:∃v cs',CN 49 [.ptr 1 0,.agg (exO x),.int .i64 (Int.ofNat d)] (svH n f l0) v (HB cs')/\∃n' f' l1,v= .bool (dc x)/\cs'=svC n' f' l1/\(dc x=true->n'=n+wN x/\f'=f+wF x/\l1=(l0||wL d x)):=by
  refine rn Tryz.func49 (by decide) q49.2 rfl rfl ?_;have hsz:=dM x;have hx6:bH (exO x)<=6000000:=by omega
  have hn1:n<9223372036854775807:=by omega
  have hks:=jg x;have hkl:∀y,y∈dt x->bH (exO y)<s:=λy hy=>by have:=fp hy;omega
  have hnf:=BZ x;obtain⟨a1,c1,o1⟩:=f61F x hx6 (n+1) f (l0||ltI 60 (Int.ofNat d)) (by omega);have hch:∀(h:H) (l:Bool),HSv (n+1) (f+ndF x) l h->∃h' n' f' l1,Rk (CE 64 (zi d)) (dt x) h ((dt x).all dc) h'/\HSv n' f' l1 h'/\((dt x).all dc=true->n'=n+1+((dt x).map wN).sum/\f'=f+ndF x+((dt x).map wF).sum/\l1=(l||(dt x).any (wL (d+1)))):=λh l hh=>EC W (d:=d) (dt x) hkl (by omega) (by omega) (by omega) hh;obtain⟨nh,nn,nf,nl,hP⟩:=Em hch;clear hch;have hsh:=wY x;have hz:zB (ndL x)=zvB (.agg (.int .i64 0 ::(ndL x).tail)):=rfl;generalize hL:ndL x=L at c1 hsh hz;cases hsh with
  |mk h1 h2 h3 h4 h5 h6=>
  rename_i k9 i9 m1 q1 m2 q2 l1 l2 l3 l4 l5 l6 w
  have hone:=jJ (k:=k9) (a:=i9) (n1:=m1) (c1:=q1) (n2:=m2) (c2:=q2) (w:=w) h1 h2 h3 h4 h5 h6;have p1:=h1.px;have p2:=h2.px;have p3:=h3.px;have p4:=h4.px;have p5:=h5.px;have p6:=h6.px;have g62:=f62z (Sh.mk (k:=0) (a:=i9) (n1:=m1) (c1:=q1) (n2:=m2) (c2:=q2) (w:=w) h1 h2 h3 h4 h5 h6).node;have hW1:ndB x=false->dc x=false:=λq=>by rw [i6,q];rfl
  have hW2:zvB (.agg [.int .i64 0,.int .i64 i9,.str m1 q1,.str m2 q2,l1,l2,l3,l4,l5,l6,.bool w])=false->dc x=false:=λq=>by
   have e:zB (ndL x)=false:=by rw [hL,hz];exact q
   rw [i6,e,Bool.false_and,Bool.and_false]
  have hF:∀h (hh:HSv (n+1) (f+ndF x) a1 h),ndB x=true->zvB (.agg [.int .i64 0,.int .i64 i9,.str m1 q1,.str m2 q2,l1,l2,l3,l4,l5,l6,.bool w])=true->(2<=(nh h a1 hh).next/\bP (.bool ((dt x).all dc))/\∃cs' tr ch,(∃n' f' l1,V.bool ((dt x).all dc)= .bool (dc x)/\cs'=svC n' f' l1/\(dc x=true->n'=n+wN x/\f'=f+wF x/\l1=(l0||wL d x)))/\(nh h a1 hh).blk 0=some (.ro 256 dN)/\(nh h a1 hh).blk 1=some (.cells (bY cs') tr none ch)/\(∀j v,cs'[j]? =some v->tr.get j=some v)/\(∀c,c∈cs'->bP c)/\Nat.ble (bY cs') bR=true):=λh hh k1 k2=>by
   obtain⟨_,⟨b0,⟨tr,e1,t0,t1,t2⟩,le,lt⟩,ok⟩:=hP h a1 hh;have e:zB (ndL x)=true:=by rw [hL,hz];exact k2
   have ew:dc x=(dt x).all dc:=by rw [i6,k1,e,Bool.true_and,Bool.true_and]
   refine⟨Nat.le_of_ble_eq_true le,.flat rfl,svC _ _ _,tr,false,⟨_,_,_,by rw [ew],rfl,λk=>?_⟩,b0,e1,gq t0 t1 t2,dQ _ _ _,rfl⟩;rw [ew]at k;obtain⟨q1,q2,q3⟩:=ok k;rw [AS,AX,AV,q1,q2,q3,o1 k1];exact⟨by omega,by omega,by simp only [Bool.or_assoc]⟩
  have fin:∀lz,lz=(l0||ltI 60 (Int.ofNat d))->WC Tryz.prog TP KB ft 1 Gn (fr49 x d) (HB [.int .i64 (cT .i64 (Int.add (Int.ofNat n) 1)),.int .i64 (Int.ofNat f),.bool lz]) (pv cf49 λv h'=>2<=h'.next/\bP v/\∃cs' tr ch,(∃n' f' l1,v= .bool (dc x)/\cs'=svC n' f' l1/\(dc x=true->n'=n+wN x/\f'=f+wF x/\l1=(l0||wL d x)))/\h'.blk 0=some (.ro 256 dN)/\h'.blk 1=some (.cells (bY cs') tr none ch)/\(∀j v,cs'[j]? =some v->tr.get j=some v)/\(∀c,c∈cs'->bP c)/\Nat.ble (bY cs') bR=true):=by
   rintro lz rfl;have c1':CN 61 [.ptr 1 0,.agg (exO x)] (HB [.int .i64 (cT .i64 (Int.add (Int.ofNat n) 1)),.int .i64 (Int.ofNat f),.bool (l0||ltI 60 (Int.ofNat d))]) _ (HB (svC (n+1) (f+ndF x) a1)):=c1 rfl rfl (dI hn1) rfl rfl rfl;clear c1
   repeat' (first
    |(refine WLg.mk ?_;first
    |refine aa rfl rfl rfl rfl ?_|refine ab rfl rfl rfl rfl ?_|refine aF rfl rfl rfl rfl rfl ?_|refine aL rfl rfl rfl rfl hone rfl rfl rfl rfl ?_|refine aQ rfl rfl rfl rfl rfl rfl rfl rfl rfl ?_|refine aq rfl rfl rfl (g62) rfl ?_|refine au rfl rfl rfl (c1') (λ_ _ q=>q) .none rfl ?_)|apply ac|refine ae rfl ?_|refine ay rfl rfl ?_|refine az rfl (λht=>?_) (λht=>?_)|apply ai|apply ah|apply ap|apply bG.norm|fail)
   ·refine⟨au rfl rfl rfl (f63 hx6 (Nat.le_of_ble_eq_true (n:=2) rfl) rfl (xA d (Nat.le_of_ble_eq_true (n:=2) rfl)) (hP _ a1 ⟨rfl,⟨_,rfl,rfl,rfl,rfl⟩,rfl,rfl⟩).1) (λ_ _ q=>q) .none rfl ?_⟩
    repeat' (first
     |(refine WLg.mk ?_;first
     |refine aa rfl rfl rfl rfl ?_)|apply ac|refine ae rfl ?_|apply ap|apply bG.norm|fail)
    rename_i t1
    exact⟨.inr rfl,_,rfl,hF _ _ t1 ht⟩
   ·exact⟨.inr rfl,_,rfl,Nat.le_of_ble_eq_true (n:=2) rfl,.flat rfl,svC (n+1) (f+ndF x) a1,_,_,⟨_,_,_,by rw [hW2 ht];rfl,rfl,λk=>by rw [hW2 ht]at k;cases k⟩,rfl,rfl,gq rfl rfl rfl,dQ _ _ _,rfl⟩
   ·exact⟨.inr rfl,_,rfl,Nat.le_of_ble_eq_true (n:=2) rfl,.flat rfl,svC (n+1) (f+ndF x) a1,_,_,⟨_,_,_,by rw [hW1 ht];rfl,rfl,λk=>by rw [hW1 ht]at k;cases k⟩,rfl,rfl,gq rfl rfl rfl,dQ _ _ _,rfl⟩
  cases l0
  all_goals skip
  ·skip
   repeat' (first
    |(refine WLg.mk ?_;first
    |refine aa rfl rfl rfl rfl ?_|refine ab rfl rfl rfl rfl ?_|refine aN rfl rfl rfl rfl (eI (show ¬(1:Nat)=2 by decide)) rfl ?_|refine aA rfl rfl RA rfl PB rfl ?_|refine aQ rfl rfl rfl rfl rfl rfl rfl rfl rfl ?_)|apply ac|refine ae rfl ?_|apply ai|apply ah|apply bG.norm|fail)
   refine bB (loc':=fr49 x d) (h':=HB [.int .i64 (cT .i64 (Int.add (Int.ofNat n) 1)),.int .i64 (Int.ofNat f),.bool (ltI 60 (Int.ofNat d))]) ⟨_,rfl,(by repeat' (first|exact bF.nil|refine bF.any (λh=>rfl) ?_|refine bF.first rfl ?_)),rfl,rfl⟩ (.norm (fin _ rfl))
  ·skip
   repeat' (first
    |(refine WLg.mk ?_;first
    |refine aa rfl rfl rfl rfl ?_|refine ab rfl rfl rfl rfl ?_|refine aN rfl rfl rfl rfl (eI (show ¬(1:Nat)=2 by decide)) rfl ?_|refine aA rfl rfl RA rfl PB rfl ?_|refine aQ rfl rfl rfl rfl rfl rfl rfl rfl rfl ?_)|apply ac|refine ae rfl ?_|apply ai|apply ah|apply bG.norm|fail)
   refine bB (loc':=fr49 x d) (h':=HB [.int .i64 (cT .i64 (Int.add (Int.ofNat n) 1)),.int .i64 (Int.ofNat f),.bool true]) ⟨_,rfl,(by repeat' (first|exact bF.nil|refine bF.any (λh=>rfl) ?_|refine bF.first rfl ?_)),rfl,rfl⟩ (.norm (fin _ rfl))
 exact⟨n',f',l1,c,ok⟩
theorem wy:∀s,s<=6000001->WK s
 |0,_=>λx hx=>by omega
 |s+1,hs=>zF (by omega) (wy s (by omega))
end
section
noncomputable section
def mZ(l:List Cl):Cl:=bM l 0
def okF(f:Fu):Bool:= !eqI (Int.ofNat f.clauses.length) 0&&(cV f.name.size (bT f.name.data.toList) (mZ f.clauses).name.size (bT (mZ f.clauses).name.data.toList)&&(eqI f.arity (Int.ofNat (mZ f.clauses).pats.length)&&(clB (-1) true f.clauses&&(clK f.clauses).all dc)))
def fN(f:Fu):Nat:=((clK f.clauses).map wN).sum
def fF(f:Fu):Nat:=((clK f.clauses).map wF).sum
def fL(f:Fu):Bool:=clG f.clauses||((clK f.clauses).any (wL 1)||ltI 4000 (Int.ofNat (fN f)))
def okS(s:Sn):Bool:=wdB s.name&&(!ltI s.arity 0 && !ltI 16 s.arity)
def yZ(m:Md):Bool:=(ltI 200 (Int.ofNat m.funcs.length)||ltI 200 (Int.ofNat m.exports.length))||m.funcs.any fL
def okM(m:Md):Bool:=(wdB m.name&&(!ltI m.vsn 1 && !ltI 2147483647 m.vsn))&&(m.exports.all okS&&(m.funcs.all okF&&(!yZ m&&(!ltI 20000 (Int.ofNat ((m.funcs.map fN).sum)) && !ltI 1000 (Int.ofNat ((m.funcs.map fF).sum))))))
end
theorem ET(f:Fu):fN f<=bH (fuO f):=by
 have h1:=jM (f:=wN) (l:=clK f.clauses) λy _=>AR y;have h2:=gE f.clauses;have h3:=j7 f;unfold fN;omega
theorem G2(f:Fu):fF f<=bH (fuO f):=by
 have h1:=jM (f:=wF) (l:=clK f.clauses) λy _=>AW y;have h2:=gE f.clauses;have h3:=j7 f;unfold fF;omega
section
variable {P:Program} {T:Ty} {K:Nat->Prop} {call:cB} {n:Nat}
variable {loc tmp loc' tmp':AL} {h h1:H} {l:List bS} {R:AL->H->Prop} {d:Dst} {args:List Opd} {gd:Option (Opd×Bool)} {lo hi:Nat}
theorem WL.fillF{d2:Dst}{args2:List Opd}{gd2:Option (Opd×Bool)}{lo2 hi2:Nat}{zero:List V}{n:Nat}{x:V}{loc1 tmp1 loc2 tmp2:AL}(e0:bX ⟨loc,tmp⟩ gd=some true)(e1:evs ⟨loc,tmp⟩ args=some [])(hk:Nat.blt h.next bR=true)(p1:fA d (.ptr h.next 0) loc tmp=some (loc1,tmp1))
  (e2:bX ⟨loc1,tmp1⟩ gd2=some true) (e3:evs ⟨loc1,tmp1⟩ args2=some [.ptr h.next 0,x]) (hn:Nat.beq (bY (cellsOf x)) n=true) (hz:Nat.beq (bY zero) n=true) (z1:cF zero=true) (z2:Nat.blt n bR=true) (ho:cF (cellsOf x)=true) (hp:∀c,c∈cellsOf x->dg (λid=>id=h.next) c)
  (p2:fA d (.eptr (cellsOf x) 0) loc tmp=some (loc',tmp')) (p3:fA d2 cG loc' tmp'=some (loc2,tmp2)) (k:WL P T K call l loc2 tmp2 h R):WL P T K call (⟨d,.a (.alloc zero),args,gd,lo,hi⟩ ::⟨d2,.e (.store n),args2,gd2,lo2,hi2⟩ ::l) loc tmp h R:=by
 have hk':=Nat.le_of_ble_eq_true hk;have hn':=Nat.eq_of_beq_eq_true hn;have hz':=Nat.eq_of_beq_eq_true hz;have z2':=Nat.le_of_ble_eq_true z2;rw [@bV noE]at hn' hz';have q1:(Dst.put ⟨loc,tmp⟩ (.ptr h.next 0) d)=⟨loc1,tmp1⟩:=fI p1;have q2:(Dst.put ⟨loc,tmp⟩ (.eptr (cellsOf x) 0) d)=⟨loc',tmp'⟩:=fI p2;have q3:(Dst.put ⟨loc',tmp'⟩ cG d2)=⟨loc2,tmp2⟩:=fI p3;have eb:(⟨h.t.put h.next (some (.cells zero.length (cq zero 0 .e) none false)),Nat.succ h.next⟩:H).blk h.next=some (.cells zero.length (cq zero 0 .e) none false):=by
  show(h.t.put h.next _).get h.next=_
  rw [Tr.get_put _ _ _ _ (by omega),if_pos rfl]
 obtain⟨h2,w1,w2,w3,cs2,w4,w5⟩:=kn (id:=h.next) (n:=zero.length) (by omega) (by omega) (cellsOf x) 0 ⟨h.t.put h.next (some (.cells zero.length (cq zero 0 .e) none false)),Nat.succ h.next⟩ _ eb ho (by omega);refine⟨WO.allocF (zero:=zero) (n:=n) (x:=x) (h2:=h2) (cs':=cs2) e0 rfl e1 ?_ (by omega) ?_ rfl ?_ w1 ?_ (λj v e=>?_) hn' hp ?_⟩
 ·show ob (oif (cF zero) (oif (Nat.blt (bY zero) bR) (some (Blk.cells (bY zero) (cq zero 0 .e) none false)))) _=_
  rw [z1,@bV noE,hz',z2];rfl
 ·show bX (Dst.put ⟨loc,tmp⟩ (.ptr h.next 0) d) gd2=_
  rw [q1];exact e2
 ·show evs (Dst.put ⟨loc,tmp⟩ (.ptr h.next 0) d) args2=_
  rw [q1];exact e3
 ·rw [w4,hn',hz']
 ·have hj:=(List.getElem?_eq_some_iff.1 e).1
  rw [w5,if_pos (by omega),Nat.sub_zero];exact e
 ·show WO P T K call l (Dst.put (Dst.put ⟨loc,tmp⟩ (.eptr (cellsOf x) 0) d) cG d2) h _
  rw [q2,q3];exact k.out
end
inductive kN(f:AL):AL->Prop
 |nil:kN f []
 |bx {t:Nat} {l:AL} (e:lk f t=some (.eptr [.ptr 1 0] 0)) (r:kN f l):kN f ((t,.eptr [.ptr 1 0] 0) ::l)
 |cons {t:Nat} {v:V} {l:AL} (e:lk f t=some v) (p:bP v) (r:kN f l):kN f ((t,v) ::l)
theorem kN.mem{U:Nat->Prop}(h1:U 1){f:AL}:∀{l:AL},kN f l->∀p,p∈l->∃v,lk f p.1=some v/\Rn U (λi=>i) (λ_=>none) p.2 v
 |_,.nil,p,h=>by cases h
 |_,.bx e r,p,h=>by
  rcases List.mem_cons.1 h with rfl|h
  ·exact⟨_,e,.eptr (.cons (@Rn.ptr _ (λi=>i) _ 1 0 h1) .nil)⟩
  ·exact kN.mem h1 r p h
 |_,.cons e q r,p,h=>by
  rcases List.mem_cons.1 h with rfl|h
  ·exact⟨_,e,.pure q⟩
  ·exact kN.mem h1 r p h
theorem KBX{f l:AL}(h:kN f l:=by repeat' (first|exact .nil|refine .bx rfl ?_|refine .cons rfl ?_ ?_|refine .cons (dI Hy) ?_ ?_|exact PX)):kN f l:=h
theorem E9{h:H}{cs:List V}{tr:Tr V}{ch:Bool}(hb:h.blk 0=some (.ro 256 dN))(hs:h.blk 1=some (.cells (bY cs) tr none ch))(hl:Nat.ble (bY cs) bR=true)(hc:∀j v,cs[j]? =some v->tr.get j=some v)(hp:∀c,c∈cs->bP c){f:F}{l:AL}(k:kN f.loc l){K:Nat->Prop}(hK:∀id,K id->id=0\/id=1):fG TP K f h ⟨l,[]⟩ (HB cs):=
 (vwB hb hs hl hc hp).view (λid h=>by rcases hK id h with rfl|rfl<;>exact⟨⟨_,rfl⟩,rfl⟩) (.inl λ_=>rfl) ⟨λp hp=>k.mem ⟨_,rfl⟩ p hp,λp hp=>by cases hp⟩
theorem f48{x:Ex}(hx:bH (exO x)<=6000000){n f:Nat}{l0:Bool}(hn:n+bH (exO x)<9000000000000000000)(hf:f+bH (exO x)<9000000000000000000){h:H}(hs:HSv n f l0 h):
  ∃h' n' f' l1,CE 48 [.eptr [.ptr 1 0] 0] x h (dc x) h'/\HSv n' f' l1 h'/\(dc x=true->n'=n+wN x/\f'=f+wF x/\l1=(l0||wL 1 x)):=by
 obtain⟨h',n',f',l1,c,e,hs',o⟩:=AQ (wy 6000001 (Nat.le_refl _)) (by omega) (d:=1) (by omega) hn hf hs;refine⟨h',n',f',l1,⟨?_,Nat.le_of_eq e.symm,hs'.lt⟩,hs',o⟩;refine eN Tryz.func48 (by decide) q48.2 rfl rfl (Nat.le_of_ble_eq_true hs.le) (Nat.le_of_eq e.symm) ?_
 repeat' (first
  |(refine WLg.mk ?_;first
  |refine aa rfl rfl rfl rfl ?_|refine ab rfl rfl (show ROp.run (.load true 11) [.eptr (exO x) 0] _=some (.agg (exO x))from rfl) rfl ?_|refine ab rfl rfl rfl rfl ?_|refine aA rfl rfl RA rfl PB rfl ?_|refine au rfl rfl rfl (c) (λ_ _ q=>q) .none rfl ?_)|apply ac|refine ae rfl ?_|apply ai|apply ah|apply ap|apply bG.norm|fail)
 exact⟨.inr rfl,_,rfl,rfl,rfl⟩
theorem AN:∀(L:List Ex),bH (exL L)<=6000000->∀{n f:Nat} {l0:Bool} {h:H},n+bH (exL L)<9000000000000000000->f+bH (exL L)<9000000000000000000->HSv n f l0 h->
  ∃h' n' f' l1,Rk (CE 48 [.eptr [.ptr 1 0] 0]) L h (L.all dc) h'/\HSv n' f' l1 h'/\(L.all dc=true->n'=n+(L.map wN).sum/\f'=f+(L.map wF).sum/\l1=(l0||L.any (wL 1)))
 |[],_,n,f,l0,h,_,_,hs=>⟨h,n,f,l0,.nil,hs,λ_=>⟨rfl,rfl,by simp⟩⟩
 |y ::L,hy,n,f,l0,h,hn,hf,hs=>by
  rw [cK,cj]at hy hn hf;obtain⟨h1,n1,f1,l1,c,hs1,o⟩:=f48 (x:=y) (by omega) (by omega) (by omega) hs;rw [List.all_cons];cases q:dc y with
  |false=>
   rw [q]at c;exact⟨h1,n1,f1,l1,.stop c,hs1,λk=>by simp at k⟩
  |true=>
   rw [q]at c;obtain⟨rfl,rfl,rfl⟩:=o q;have:=AR y;have:=AW y;obtain⟨h2,n2,f2,l2,k,hs2,o2⟩:=AN L (by omega) (by omega) (by omega) hs1;refine⟨h2,n2,f2,l2,by rw [Bool.true_and];exact .go c k,hs2,λk=>?_⟩;rw [Bool.true_and]at k;obtain⟨rfl,rfl,rfl⟩:=o2 k;simp only [List.map_cons,List.sum_cons,List.any_cons,Nat.add_assoc,Bool.or_assoc,true_and]
theorem f47W(l:List Cl)(hl:bH (clL l)<=6000000)(n f:Nat)(l0:Bool)(hn:n<8000000000000000000)(hf:f<8000000000000000000):
  ∃n' f' l1,CN 47 [.lst l.length 4 (clL l),.func (.func 48) [] [.eptr [.ptr 1 0] 0]] (HB (svC n f l0)) (.bool ((clK l).all dc)) (HB (svC n' f' l1))/\((clK l).all dc=true->n'=n+((clK l).map wN).sum/\f'=f+((clK l).map wF).sum/\l1=(l0||(clK l).any (wL 1))):=by
 have hs:=gE l;obtain⟨h',n',f',l1,k,⟨b0,⟨tr,e1,t0,t1,t2⟩,le,lt⟩,o⟩:=AN (clK l) (by omega) (n:=n) (f:=f) (l0:=l0) (h:=HB (svC n f l0)) (by omega) (by omega) ⟨rfl,⟨_,rfl,rfl,rfl,rfl⟩,rfl,rfl⟩;have c:=f47 hl (Nat.le_of_ble_eq_true (n:=2) rfl) rfl k;exact⟨n',f',l1,c.drop (.flat rfl) (Nat.le_refl _) (vwB b0 e1 rfl (gq t0 t1 t2) (dQ _ _ _)),o⟩
end
section
noncomputable section
def fr29e(m:Md)(i:Nat):AL:=[(1,.eptr (mdO m) 0),(24,.lst m.exports.length 2 (snL m.exports)),(25,.int .i64 (Int.ofNat m.exports.length)),(26,.int .i64 (Int.ofNat i))]
def fr29f(m:Md)(i:Nat):AL:=[(1,.eptr (mdO m) 0),(5,.eptr [.ptr 1 0] 0),(58,.lst m.funcs.length 3 (fuL m.funcs)),(59,.int .i64 (Int.ofNat m.funcs.length)),(60,.int .i64 (Int.ofNat i))]
def stN(l:List Fu):Nat:=(l.map fN).sum
def stF(l:List Fu):Nat:=(l.map fF).sum
def stL(m:Md)(l:List Fu):Bool:=(ltI 200 (Int.ofNat m.funcs.length)||ltI 200 (Int.ofNat m.exports.length))||l.any fL
end
theorem DJ{m:Md}{i:Nat}(h:i<m.exports.length)(k:okS (dl m.exports i)=false):okM m=false:=by
 have:m.exports.all okS=false:=by
  rw [Bool.eq_false_iff];intro q;have:=List.all_eq_true.1 q _ (mE (d:=sn0) (ltb h));have e:okS (dl m.exports i)=true:=this;rw [k]at e;cases e
 rw [okM,this];simp
theorem tE{m:Md}{i:Nat}(h:i<m.funcs.length)(k:okF (cI m.funcs i)=false):okM m=false:=by
 have:m.funcs.all okF=false:=by
  rw [Bool.eq_false_iff];intro q;have:=List.all_eq_true.1 q _ (mE (d:=fu0) (ltb h));have e:okF (cI m.funcs i)=true:=this;rw [k]at e;cases e
 rw [okM,this];simp
theorem jl{l:List Fu}{i:Nat}(h:i<l.length):l.take (i+1)=l.take i++[cI l i]:=by
 have e:=cO (d:=fu0) (ltb h);have:cI l i=l[i]:=by
  show(l[i]?).getD fu0=_;rw [List.getElem?_eq_getElem h];rfl
 rw [this,List.take_succ_eq_append_getElem h]
theorem uM{l:List Sn}{i:Nat}(h:i<l.length):l.take (i+1)=l.take i++[dl l i]:=by
 have:dl l i=l[i]:=by
  show(l[i]?).getD sn0=_;rw [List.getElem?_eq_getElem h];rfl
 rw [this,List.take_succ_eq_append_getElem h]
theorem Fh(l:List Fu):stN l<=bH (fuL l):=nq ET l
theorem Fi(l:List Fu):stF l<=bH (fuL l):=nq G2 l
theorem qX(l:List Fu)(i:Nat):bH (fuL (l.take i))<=bH (fuL l):=iQ (f:=fuO) (by rfl) (λ_ _=>rfl) l i
theorem uF{g:Fu->Nat}{l:List Fu}{i:Nat}(h:i<l.length):((l.take (i+1)).map g).sum=((l.take i).map g).sum+g (cI l i):=by
 rw [jl h,List.map_append,List.sum_append];simp
theorem uJ{l:List Fu}{i:Nat}(h:i<l.length):stN (l.take (i+1))=stN (l.take i)+fN (cI l i):=uF h
theorem uL{l:List Fu}{i:Nat}(h:i<l.length):stF (l.take (i+1))=stF (l.take i)+fF (cI l i):=uF h
theorem uK{m:Md}{i:Nat}(h:i<m.funcs.length):stL m (m.funcs.take (i+1))=(stL m (m.funcs.take i)||fL (cI m.funcs i)):=by
 unfold stL;rw [jl h,List.any_append,List.any_cons,List.any_nil,Bool.or_false,Bool.or_assoc,Bool.or_assoc,Bool.or_assoc]
theorem zC{a b:Nat}(h:a+b<9223372036854775808):cT .i64 (Int.sub (Int.ofNat (a+b)) (Int.ofNat a))=Int.ofNat b:=by
 have e:Int.sub (Int.ofNat (a+b)) (Int.ofNat a)=Int.add (Int.ofNat b) (Int.ofNat 0):=by
  show(Int.ofNat (a+b))-(Int.ofNat a)=Int.ofNat b+Int.ofNat 0;simp;omega
 rw [e,jP (by omega)];rfl
theorem yS{m:Md}(h1:(wdB m.name&&(!ltI m.vsn 1 && !ltI 2147483647 m.vsn))=true)(h2:m.exports.all okS=true)(h3:m.funcs.all okF=true):okM m=(!stL m m.funcs&&(!ltI 20000 (Int.ofNat (stN m.funcs)) && !ltI 1000 (Int.ofNat (stF m.funcs)))):=by
 unfold okM;rw [h1,h2,h3];rfl
set_option maxHeartbeats 16000000 in
theorem f29(m:Md)(hm:bH (mdO m)<=6000000):∃r,CP 29 [.agg (mdO m)] (.int .i64 r)/\eqI r 0=okM m:=by
 obtain⟨v,c,r,rfl,ok⟩:∃v,CP 29 [.agg (mdO m)] v/\∃r,v= .int .i64 r/\eqI r 0=okM m:=by
  refine dz Tryz.func29 (by decide) q29.2 rfl (bO (.agg (gS m)) px0) rfl ?_;have px:=gS m;have px2:bP (.eptr (mdO m) 0):= .eptr px;have hsz:=oV m;have c45:=f45 m.name.size (bT m.name.data.toList);have hn1:=te m.exports;have hn2:=nk m.funcs;have pS:bP (.lst m.exports.length 2 (snL m.exports)):=px _ (List.mem_cons_of_mem _ (List.mem_cons_of_mem _ List.mem_cons_self));have pF:bP (.lst m.funcs.length 3 (fuL m.funcs)):=px _ (List.mem_cons_of_mem _ (List.mem_cons_of_mem _ (List.mem_cons_of_mem _ List.mem_cons_self)))
  repeat' (first
   |(refine WLg.mk ?_;first
   |refine aa rfl rfl rfl rfl ?_|refine ab rfl rfl rfl rfl ?_|refine aA rfl rfl rfl rfl px rfl ?_|refine aq rfl rfl rfl (c45) rfl ?_)|apply ac|refine ae rfl ?_|refine ay rfl rfl ?_|refine az rfl (λht=>?_) (λht=>?_)|apply ai|apply ah|apply aj|apply al|refine aD rfl ?_|refine ak rfl (λht=>?_) (λht=>?_)|apply ap|apply bG.norm|apply bG.ret|fail)
  all_goals try (exact⟨.inr rfl,_,rfl,.flat rfl,_,rfl,by(try simp only [Bool.not_eq_true',Bool.not_eq_false']at*)<;>simp [okM,wdB,sV, *]<;>rfl⟩)
  have hA1:(wdB m.name&&(!ltI m.vsn 1 && !ltI 2147483647 m.vsn))=true:=by
   (try simp only [Bool.not_eq_false']at*)
   simp [wdB,sV, *]
  refine aw (cA (l:=fr29e m 0) KT rfl) ?_;refine ax m.exports.length (λi x h=>(x=fr29e m i/\(m.exports.take i).all okS=true)/\h=H0) ?_ (i:=0) (Nat.zero_le _) ⟨⟨rfl,rfl⟩,rfl⟩;clear c45;rintro i _ _ hi ⟨⟨rfl,seen⟩,rfl⟩;have hi2:i<9223372036854775807:=by omega
  have c45':=f45 (dl m.exports i).name.size (bT (dl m.exports i).name.data.toList);have pf:=wI (dl m.exports i)
  repeat' (first
   |(refine WLg.mk ?_;first
   |refine aa rfl rfl rfl rfl ?_|refine aa rfl rfl (bN Hy) rfl ?_|refine ab rfl rfl (EO Hy) rfl ?_|refine ab rfl rfl rfl rfl ?_|refine aC rfl rfl rfl rfl rfl rfl rfl rfl rfl rfl rfl pf rfl rfl ?_|refine WL.fillF rfl rfl rfl rfl rfl rfl rfl rfl rfl rfl rfl (lj (eI (show ¬(1:Nat)=2 by decide))) rfl rfl ?_|refine aF rfl rfl rfl rfl rfl ?_|refine aq rfl rfl rfl (c45') rfl ?_)|apply ac|refine ae rfl ?_|refine ay rfl rfl ?_|refine az rfl (λht=>?_) (λht=>?_)|apply ai|apply ah|apply aj|apply al|refine aD rfl ?_|refine ak rfl (λht=>?_) (λht=>?_)|apply av|apply ap|apply bG.norm|apply bG.ret|apply bG.exit|apply OnC.ret|apply OnC.exit|fail)
  all_goals first
   |exact⟨.inr rfl,_,rfl,.flat rfl,_,rfl,by rw [DJ (bL (by assumption:ltI (Int.ofNat i) (Int.ofNat m.exports.length)=true)) (by(try simp only [Bool.not_eq_true',Bool.not_eq_false']at*)<;>simp [okS,wdB,sV, *])]<;>rfl⟩
   |exact .norm ⟨_,_,cA KI rfl,bL Hy,⟨rfl,by
     have hlt:=bL (by assumption:ltI (Int.ofNat i) (Int.ofNat m.exports.length)=true);rw [uM hlt,List.all_append,seen,Bool.true_and,List.all_cons,List.all_nil,Bool.and_true]
     (try simp only [Bool.not_eq_false']at*)
     simp [okS,wdB,sV, *]⟩,rfl⟩
   |skip
  all_goals (
   have hie:i=m.exports.length:=by
    have:=ce (by assumption:ltI (Int.ofNat i) (Int.ofNat m.exports.length)=false);omega
   have hA2:m.exports.all okS=true:=by rw [hie,List.take_length]at seen;exact seen
   clear seen;have hz:stL m []=(ltI 200 (Int.ofNat m.funcs.length)||ltI 200 (Int.ofNat m.exports.length)):=by simp only [stL,List.any_nil,Bool.or_false]
   refine aw (E9 (l:=fr29f m 0) (cs:=svC 0 0 (stL m [])) rfl rfl rfl (gq rfl rfl (by first|(show some (V.bool _)=_;rw [hz,(by assumption:ltI 200 (Int.ofNat m.funcs.length)=true)];rfl)|(show some (V.bool _)=_;rw [hz,(by assumption:ltI 200 (Int.ofNat m.funcs.length)=false)];rfl))) (dQ _ _ _) KBX (λid h=>.inl h)) ?_;refine ax m.funcs.length (λi x h=>x=fr29f m i/\(m.funcs.take i).all okF=true/\h=HB (svC (stN (m.funcs.take i)) (stF (m.funcs.take i)) (stL m (m.funcs.take i)))) ?_ (i:=0) (Nat.zero_le _) ⟨rfl,rfl,rfl⟩;clear c45' pf hi2 hi hz
   rename_i hw0 hw1
   clear hw1;clear hie;clear i;rintro i _ _ hi ⟨rfl,seen,rfl⟩;have hi2:i<9223372036854775807:=by omega
   have pf:=oB (cI m.funcs i);have hcl:bH (clL (cI m.funcs i).clauses)<=6000000:=by
    by_cases q:i<m.funcs.length
    ·have:=sF (ltb q)
     have:=j7 (cI m.funcs i);omega
    ·have:cI m.funcs i=fu0:=by
      show(m.funcs[i]?).getD fu0=fu0;rw [List.getElem?_eq_none (by omega)];rfl
     rw [this];show bH (clL [])<=_;rw [clL];exact Nat.zero_le _
   have hN:=Fh (m.funcs.take i);have hF:=Fi (m.funcs.take i);have hT:=qX m.funcs i;obtain⟨a1,k46,o46⟩:=f46 (cI m.funcs i).clauses hcl (-1) true (stN (m.funcs.take i)) (stF (m.funcs.take i)) (stL m (m.funcs.take i));obtain⟨n',f',l1,k47,o47⟩:=f47W (cI m.funcs i).clauses hcl (stN (m.funcs.take i)) (stF (m.funcs.take i)) a1 (by omega) (by omega);cases l1
   ·skip
    repeat' (first
     |(refine WLg.mk ?_;first
     |refine aa rfl rfl rfl rfl ?_|refine aa rfl rfl (bN Hy) rfl ?_|refine ab rfl rfl (hO Hy) rfl ?_|refine ab rfl rfl rfl rfl ?_|refine aC rfl rfl rfl rfl rfl rfl rfl rfl rfl rfl rfl pf rfl rfl ?_|refine au rfl rfl rfl (k47) (λ_ _ q=>q) .none rfl ?_)
     |(show WX _ _ _ _ _ _ _ _ _ _;first
     |refine aW rfl rfl rfl ?_|refine aU rfl rfl rfl ?_|refine aI rfl rfl (bN (i:=0) (fD Hy)) rfl ?_|refine aI rfl rfl rfl rfl ?_|refine aG rfl rfl (et (i:=0) (fD Hy) rfl) rfl ?_|refine aG rfl rfl rfl rfl ?_|refine aR rfl rfl rfl (k46) .none rfl ?_|(fail_if_success refine WX.gt rfl ?_);refine aV rfl rfl rfl (λht=>?_) (λht=>?_)|refine aJ (by repeat' (first|exact bF.nil|refine bF.any (λh=>rfl) ?_|refine bF.first rfl ?_|refine bF.first (hO Hy) ?_|refine bF.snd (hO Hy) ?_|refine bF.any (λh=>hO Hy) ?_|refine bF.first (et (i:=0) (fD Hy) rfl) ?_|refine bF.snd (et (i:=0) (fD Hy) rfl) ?_|refine bF.any (λh=>et (i:=0) (fD Hy) rfl) ?_|refine bF.each (.cons rfl .nil) ?_|refine bF.each (.cons rfl (.cons rfl .nil)) ?_|refine bF.each (.cons rfl (.cons rfl (.cons rfl .nil))) ?_)) ?_)|apply ac|refine ae rfl ?_|refine ay rfl rfl ?_|refine az rfl (λht=>?_) (λht=>?_)|refine bB (h':=HB [.int .i64 (Int.ofNat n'),.int .i64 (Int.ofNat f'),.bool (ltI 4000 (cT .i64 (Int.sub (Int.ofNat n') (Int.ofNat (stN (m.funcs.take i))))))]) ⟨_,rfl,(by repeat' (first|exact bF.nil|refine bF.any (λh=>rfl) ?_|refine bF.first rfl ?_)),rfl,rfl⟩ ?_|apply ai|apply ah|apply aj|apply al|refine aD rfl ?_|refine ak rfl (λht=>?_) (λht=>?_)|apply av|apply ap|refine aK ?_|apply bG.norm|apply bG.ret|apply bG.exit|apply OnC.ret|apply OnC.exit|fail)
    all_goals first
     |exact⟨.inr rfl,_,rfl,.flat rfl,_,rfl,by rw [tE (bL (by assumption:ltI (Int.ofNat i) (Int.ofNat m.funcs.length)=true)) (by clear o46 o47<;>(try simp only [Bool.not_eq_true',Bool.not_eq_false']at*)<;>simp only [okF,mZ,Bool.not_true,Bool.not_false,Bool.false_and,Bool.and_false, *])]<;>rfl⟩
     |(have hie:i=m.funcs.length:=by
        have:=ce (by assumption:ltI (Int.ofNat i) (Int.ofNat m.funcs.length)=false);omega
       subst hie;simp only [List.take_length]at*;exact⟨.inr rfl,_,rfl,.flat rfl,_,rfl,by
        show _=okM m;rw [yS hA1 hA2 Hy]
        first
         |(rw [(by assumption:stL m m.funcs=true)];rfl)|(rw [(by assumption:stL m m.funcs=false),(by assumption:ltI 20000 (Int.ofNat (stN m.funcs))=true)];rfl)|(rw [(by assumption:stL m m.funcs=false),(by assumption:ltI 20000 (Int.ofNat (stN m.funcs))=false),(by assumption:ltI 1000 (Int.ofNat (stF m.funcs))=true)];rfl)|(rw [(by assumption:stL m m.funcs=false),(by assumption:ltI 20000 (Int.ofNat (stN m.funcs))=false),(by assumption:ltI 1000 (Int.ofNat (stF m.funcs))=false)];rfl)⟩)|skip
    refine OnC.norm ?_;have hlt:=bL (by assumption:ltI (Int.ofNat i) (Int.ofNat m.funcs.length)=true);have hok:okF (cI m.funcs i)=true:=by
     clear o46 o47
     (try simp only [Bool.not_eq_false']at*)
     simp only [okF,mZ,Bool.not_false,Bool.and_true, *]
    have e46:=o46 (by
     (try simp only [Bool.not_eq_false']at*)
     assumption)
    obtain⟨q1,q2,q3⟩:=o47 (by
     (try simp only [Bool.not_eq_false']at*)
     assumption)
    refine⟨_,_,E9 (l:=fr29f m (i+1)) (cs:=svC (stN (m.funcs.take (i+1))) (stF (m.funcs.take (i+1))) (stL m (m.funcs.take (i+1)))) rfl rfl rfl (gq ?_ ?_ ?_) (dQ _ _ _) KBX (λid h=>.inl h),hlt,rfl,?_,rfl⟩
    ·show some (V.int .i64 (Int.ofNat n'))=_
     rw [uJ hlt,q1];rfl
    ·show some (V.int .i64 (Int.ofNat f'))=_
     rw [uL hlt,q2];rfl
    ·first|(show some (V.bool (ltI 4000 (cT .i64 (Int.sub (Int.ofNat n') (Int.ofNat (stN (m.funcs.take i)))))))=some (V.bool (stL m (m.funcs.take (i+1))));rw [uK hlt,fL,<-Bool.or_assoc,<-Bool.or_assoc,<-e46,<-q3,q1,zC (by have:=ET (cI m.funcs i);have:=sF (ltb hlt);show _+fN (cI m.funcs i)<_;omega)];rfl)
    ·rw [jl hlt,List.all_append,seen,Bool.true_and,List.all_cons,List.all_nil,Bool.and_true]
     exact hok
   ·skip
    repeat' (first
     |(refine WLg.mk ?_;first
     |refine aa rfl rfl rfl rfl ?_|refine aa rfl rfl (bN Hy) rfl ?_|refine ab rfl rfl (hO Hy) rfl ?_|refine ab rfl rfl rfl rfl ?_|refine aC rfl rfl rfl rfl rfl rfl rfl rfl rfl rfl rfl pf rfl rfl ?_|refine au rfl rfl rfl (k47) (λ_ _ q=>q) .none rfl ?_)
     |(show WX _ _ _ _ _ _ _ _ _ _;first
     |refine aW rfl rfl rfl ?_|refine aU rfl rfl rfl ?_|refine aI rfl rfl (bN (i:=0) (fD Hy)) rfl ?_|refine aI rfl rfl rfl rfl ?_|refine aG rfl rfl (et (i:=0) (fD Hy) rfl) rfl ?_|refine aG rfl rfl rfl rfl ?_|refine aR rfl rfl rfl (k46) .none rfl ?_|(fail_if_success refine WX.gt rfl ?_);refine aV rfl rfl rfl (λht=>?_) (λht=>?_)|refine aJ (by repeat' (first|exact bF.nil|refine bF.any (λh=>rfl) ?_|refine bF.first rfl ?_|refine bF.first (hO Hy) ?_|refine bF.snd (hO Hy) ?_|refine bF.any (λh=>hO Hy) ?_|refine bF.first (et (i:=0) (fD Hy) rfl) ?_|refine bF.snd (et (i:=0) (fD Hy) rfl) ?_|refine bF.any (λh=>et (i:=0) (fD Hy) rfl) ?_|refine bF.each (.cons rfl .nil) ?_|refine bF.each (.cons rfl (.cons rfl .nil)) ?_|refine bF.each (.cons rfl (.cons rfl (.cons rfl .nil))) ?_)) ?_)|apply ac|refine ae rfl ?_|refine ay rfl rfl ?_|refine az rfl (λht=>?_) (λht=>?_)|refine bB (h':=HB [.int .i64 (Int.ofNat n'),.int .i64 (Int.ofNat f'),.bool true]) ⟨_,rfl,(by repeat' (first|exact bF.nil|refine bF.any (λh=>rfl) ?_|refine bF.first rfl ?_)),rfl,rfl⟩ ?_|apply ai|apply ah|apply aj|apply al|refine aD rfl ?_|refine ak rfl (λht=>?_) (λht=>?_)|apply av|apply ap|refine aK ?_|apply bG.norm|apply bG.ret|apply bG.exit|apply OnC.ret|apply OnC.exit|fail)
    all_goals first
     |exact⟨.inr rfl,_,rfl,.flat rfl,_,rfl,by rw [tE (bL (by assumption:ltI (Int.ofNat i) (Int.ofNat m.funcs.length)=true)) (by clear o46 o47<;>(try simp only [Bool.not_eq_true',Bool.not_eq_false']at*)<;>simp only [okF,mZ,Bool.not_true,Bool.not_false,Bool.false_and,Bool.and_false, *])]<;>rfl⟩
     |(have hie:i=m.funcs.length:=by
        have:=ce (by assumption:ltI (Int.ofNat i) (Int.ofNat m.funcs.length)=false);omega
       subst hie;simp only [List.take_length]at*;exact⟨.inr rfl,_,rfl,.flat rfl,_,rfl,by
        show _=okM m;rw [yS hA1 hA2 Hy]
        first
         |(rw [(by assumption:stL m m.funcs=true)];rfl)|(rw [(by assumption:stL m m.funcs=false),(by assumption:ltI 20000 (Int.ofNat (stN m.funcs))=true)];rfl)|(rw [(by assumption:stL m m.funcs=false),(by assumption:ltI 20000 (Int.ofNat (stN m.funcs))=false),(by assumption:ltI 1000 (Int.ofNat (stF m.funcs))=true)];rfl)|(rw [(by assumption:stL m m.funcs=false),(by assumption:ltI 20000 (Int.ofNat (stN m.funcs))=false),(by assumption:ltI 1000 (Int.ofNat (stF m.funcs))=false)];rfl)⟩)|skip
    refine OnC.norm ?_;have hlt:=bL (by assumption:ltI (Int.ofNat i) (Int.ofNat m.funcs.length)=true);have hok:okF (cI m.funcs i)=true:=by
     clear o46 o47
     (try simp only [Bool.not_eq_false']at*)
     simp only [okF,mZ,Bool.not_false,Bool.and_true, *]
    have e46:=o46 (by
     (try simp only [Bool.not_eq_false']at*)
     assumption)
    obtain⟨q1,q2,q3⟩:=o47 (by
     (try simp only [Bool.not_eq_false']at*)
     assumption)
    refine⟨_,_,E9 (l:=fr29f m (i+1)) (cs:=svC (stN (m.funcs.take (i+1))) (stF (m.funcs.take (i+1))) (stL m (m.funcs.take (i+1)))) rfl rfl rfl (gq ?_ ?_ ?_) (dQ _ _ _) KBX (λid h=>.inl h),hlt,rfl,?_,rfl⟩
    ·show some (V.int .i64 (Int.ofNat n'))=_
     rw [uJ hlt,q1];rfl
    ·show some (V.int .i64 (Int.ofNat f'))=_
     rw [uL hlt,q2];rfl
    ·first|(show some (V.bool true)=some (V.bool (stL m (m.funcs.take (i+1))));rw [uK hlt,fL,<-Bool.or_assoc,<-Bool.or_assoc,<-e46,<-q3];rfl)
    ·rw [jl hlt,List.all_append,seen,Bool.true_and,List.all_cons,List.all_nil,Bool.and_true]
     exact hok)
 exact⟨r,c,ok⟩
end
section
def At(cs:List V)(tr:Tr V):Prop:=∀j v,cs[j]? =some v->tr.get j=some v
inductive GL(es:Nat)(h:H):V->List V->Prop
 |none0:GL es h .nils []
 |full {b n:Nat} {tr:Tr V} {up:Option (Nat×Nat)} {ch:Bool} {cs:List V} (hb:h.blk b=some (.cells (n*es) tr up ch)) (hc:ch=false) (hn:0<n) (hl:cs.length=n*es) (at_:At cs tr) (lt:b<h.next):GL es h (.sl b 0 n 0 false es) cs
theorem fy{h:H}{id j:Nat}{x:Option Blk}{n:Nat}(hid:id<bR):(⟨h.t.put id x,n⟩:H).blk j=if j=id then x else h.blk j:=Tr.get_put h.t id j x hid
theorem dw{h:H}{id j n m:Nat}{tr:Tr V}{up:Option (Nat×Nat)}{ch:Bool}{v:V}(hb:h.blk id=some (.cells n tr up ch))(hv:tr.get j=some v)(hj:j<n):ROp.run (.load false m) [.ptr id j] h=some v:=by
 show ob (H.rd h id j 1) _=_;have:H.rd h id j 1=some [v]:=by
  show ob (ob (h.blk id) _) _=_;rw [hb];show oif (Nat.blt j n) (ob (tr.get j) _)=_;rw [hv,ltb hj];rfl
 rw [this];rfl
theorem lB{h:H}{id j n:Nat}{tr:Tr V}{v:V}(hb:h.blk id=some (.cells n tr none false))(hx:cellsOf v=[v])(ho:cE v=true)(hj:j<n):EOp.run (.store 1) [.ptr id j,v] h=some (cG,⟨h.t.put id (some (.cells n (tr.put j (some v)) none false)),h.next⟩):=by
 show oif (Nat.beq (bY (cellsOf v)) 1) (ob (H.wr id (cellsOf v) j h) λh=>some (cG,h))=_;rw [hx];show oif true (ob (ob (h.wr1 id j v) λh=>some h) λh=>some (cG,h))=_;have e1:h.wr1 id j v=some ⟨h.t.put id (some (.cells n (tr.put j (some v)) none false)),h.next⟩:=by
  show ob (h.blk id) _=_;rw [hb];show oif (!false) (oif (Nat.blt j n) (oif (cE v) (ob (mA 64 none j h) _)))=_;rw [ltb hj,ho];rfl
 rw [e1];rfl
theorem GL.appendX{es bytes m:Nat}{h:H}{v x:V}{cs xs:List V}(g:GL es h v cs)(hsrc:ip es none x h=some (m,xs))(hm:0<m)(hx:xs.length=m*es)(ho:cF xs=true)(hk:h.next+1<bR)(hcs:cs.length+xs.length<1000000000)(hby:∀n,cs.length=n*es->(n+m)*bytes<1099511627776)(hes:0<es):
  ∃n h',EOp.run (.append es bytes none) [v,x] h=some (.sl h.next 0 n 0 false es,h')/\GL es h' (.sl h.next 0 n 0 false es) (cs++xs)/\h'.next=h.next+1/\(∀id,id<h.next->(∀b n,v= .sl b 0 n 0 false es->id≠b)->h'.blk id=h.blk id):=by
 have hkk:1000000000<bR:=by unfold bR;omega
 cases g with
 |none0=>
  have hml:Nat.beq m 0=false:=by
   cases q:Nat.beq m 0 with
   |false=>rfl
   |true=>have:=Nat.eq_of_beq_eq_true q;omega
  have hb1:Nat.blt (Nat.mul m bytes) 1099511627776=true:=ltb (by have:=hby 0 (by simp);rw [Nat.zero_add]at this;exact this);refine⟨m,⟨h.t.put h.next (some (.cells xs.length (cq xs 0 .e) none false)),h.next+1⟩,?_,?_,rfl,λid hid _=>?_⟩
  ·show ob (ip es none x h) _=_
   rw [hsrc];show(Bool.rec (motive:=λ_=>Option (V×H)) (oif (Nat.blt (Nat.mul m bytes) 1099511627776) (ob (h.newCells xs none) λh'=>some (V.sl h.next 0 m 0 false es,h'))) (some (V.nils,h)) (Nat.beq m 0))=_;rw [hml,hb1];have:h.newCells xs none=some ⟨h.t.put h.next (some (.cells xs.length (cq xs 0 .e) none false)),h.next+1⟩:=by
    show oif (cF xs) (oif (Nat.blt (bY xs) bR) (oif (Nat.blt h.next bR) _))=_;rw [ho,@bV noE,ltb (by omega),ltb (by omega)];rfl
   rw [this];rfl
  ·rw [List.nil_append]
   refine .full (tr:=cq xs 0 .e) (up:=none) (ch:=false) (by rw [fy (by omega),if_pos rfl,hx]) rfl hm hx (λj v e=>?_) (by show h.next<h.next+1;omega);have hj:=(List.getElem?_eq_some_iff.1 e).1;rw [@cU noE xs 0 .e j (by omega),if_pos (by omega),Nat.sub_zero];exact e
  ·rw [fy (by omega),if_neg (by omega)]
 |@full b n tr up ch cs hb hc hn hl at_ lt=>
  subst hc;rw [hl]at hcs;have hb1:Nat.blt (Nat.mul (Nat.add n m) bytes) 1099511627776=true:=ltb (hby n hl);have hle:Nat.ble (Nat.add n m) (Nat.div (Nat.sub (n*es) 0) es)=false:=by
   rw [show Nat.sub (n*es) 0=n*es from Nat.sub_zero _,show Nat.div (n*es) es=n from Nat.mul_div_cancel _ hes];cases q:Nat.ble (Nat.add n m) n with
   |false=>rfl
   |true=>have:=Nat.le_of_ble_eq_true q;have:n+m<=n:=this;omega
  have hq:(Nat.beq (n*es) (Nat.mul n es)&&Nat.beq 0 0)=true:=by
   rw [show Nat.mul n es=n*es from rfl,Nat.beq_refl];rfl
  have hmul:(n+m)*es=n*es+xs.length:=by rw [Nat.add_mul,hx]
  have hbe:b≠h.next:=by omega
  refine⟨n+m,⟨(h.t.put b (some (.cells (n*es) tr up true))).put h.next (some (.cells (n*es+xs.length) (cq xs (n*es) tr) (some (b,0)) false)),h.next+1⟩,?_,?_,rfl,λid hid hnb=>?_⟩
  ·show ob (ip es none x h) _=_
   rw [hsrc];show oif (Nat.beq es es) (ob (H.cells h b) _)=_;have hcl:H.cells h b=some (n*es,tr):=by
    show ob (h.blk b) _=_;rw [hb];rfl
   rw [Nat.beq_refl,hcl];show(Bool.rec (motive:=λ_=>Option (V×H))
      (oif (Nat.beq (n*es) (Nat.mul n es)&&Nat.beq 0 0) (oif (Nat.blt (Nat.mul (Nat.add n m) bytes) 1099511627776)
       (ob (h.adopt b) λh=>ob (h.shareNew b 0 (n*es) tr xs) λh'=>some (V.sl h.next 0 (Nat.add n m) 0 false es,h'))))
      _ (Nat.ble (Nat.add n m) (Nat.div (Nat.sub (n*es) 0) es)):Option (V×H))=_
   rw [hle,hq,hb1];have had:h.adopt b=some ⟨h.t.put b (some (.cells (n*es) tr up true)),h.next⟩:=by
    show ob (h.blk b) _=_;rw [hb];rfl
   rw [had];show ob (oif (cF xs) (oif (Nat.blt (Nat.add (n*es) (bY xs)) bR) (oif (Nat.blt h.next bR) _))) _=_;rw [ho,@bV noE,show Nat.blt (Nat.add (n*es) xs.length) bR=true from ltb (show n*es+xs.length<bR by omega),show Nat.blt h.next bR=true from ltb (by omega)];rfl
  ·refine .full (tr:=cq xs (n*es) tr) (up:=some (b,0)) (ch:=false) (by show Tr.get _ _=_;rw [Tr.get_put _ _ _ _ (by omega),if_pos rfl,hmul]) rfl (by omega) (by rw [List.length_append,hl,hmul]) (λj v e=>?_) (by show h.next<h.next+1;omega)
   have hj:=(List.getElem?_eq_some_iff.1 e).1;rw [List.length_append,hl]at hj;rw [@cU noE xs _ _ j (by omega)]
   by_cases q:j<cs.length
   ·rw [if_neg (by omega)]
    rw [List.getElem?_append_left q]at e;exact at_ j v e
   ·rw [if_pos (by omega)]
    rw [List.getElem?_append_right (by omega),hl]at e;exact e
  ·show Tr.get _ _=_
   rw [Tr.get_put _ _ _ _ (by omega),if_neg (by omega),Tr.get_put _ _ _ _ (by omega),if_neg (hnb b n rfl)];rfl
theorem GL.appendG{es bytes m:Nat}{h:H}{v x:V}{cs xs:List V}(g:GL es h v cs)(hsrc:ip es none x h=some (m,xs))(hm:0<m)(hx:xs.length=m*es)(ho:cF xs=true)(hk:h.next+1<bR)(hcs:cs.length+xs.length<1000000000)(hby:∀n,cs.length=n*es->(n+m)*bytes<1099511627776)(hes:0<es):
  ∃v' h',EOp.run (.append es bytes none) [v,x] h=some (v',h')/\GL es h' v' (cs++xs)/\h'.next=h.next+1/\(∀id,id<h.next->(∀b n,v= .sl b 0 n 0 false es->id≠b)->h'.blk id=h.blk id):=by
 obtain⟨n,h',k⟩:=g.appendX hsrc hm hx ho hk hcs hby hes;exact⟨_,h',k⟩
theorem GL.append{es bytes m:Nat}{h:H}{v:V}{cs xs:List V}(g:GL es h v cs)(hm:0<m)(hx:xs.length=m*es)(ho:cF xs=true)(hk:h.next+1<bR)(hcs:cs.length+xs.length<1000000000)(hby:∀n,cs.length=n*es->(n+m)*bytes<1099511627776)(hes:0<es):
  ∃v' h',EOp.run (.append es bytes none) [v,.lst m es xs] h=some (v',h')/\GL es h' v' (cs++xs)/\h'.next=h.next+1/\(∀id,id<h.next->(∀b n,v= .sl b 0 n 0 false es->id≠b)->h'.blk id=h.blk id):=
 g.appendG (by
  show oif (Nat.beq es es) _=_;rw [Nat.beq_refl];rfl) hm hx ho hk hcs hby hes
end
end Ev
end Go.Proofs.YtdfphfdnoobikaaGreatDoor
