/-
  The program's survey:the walk.
-/
import Derived.Test.YtdfphfdnoobikaaGreatDoorLtEach2
namespace Go.Proofs.YtdfphfdnoobikaaGreatDoor
namespace Ev
section
theorem je(x:Ex):bF (exL (dC x))+11≤bF (exO x):=by
 have h0:=dL x
 have h1:=gH x.clauses
 have h2:=gH x.catches
 have h3:=gA x.body
 have h4:=gA x.after
 have h5:=mM x.segs
 unfold dC
 split
 ·rw [dT,dT,bY,bY];omega
 ·rw [dT,dT,dT,dT,dT,bY,bY,bY,bY,bY];omega
theorem eU{x y:Ex}(h:y∈dC x):bF (exO y)<bF (exO x):=by
 have:=gR h
 have:=je x
 omega
noncomputable section
def zB(l:List V):Bool:=zvB (.agg (.int .i64 0 ::l.tail))
def cQ(x:Ex):Bool:=ndB x&&(zB (ndL x)&&((dC x).attach.map fun y=>cQ y.1).all id)
termination_by bF (exO x)
decreasing_by exact eU y.2
def wN(x:Ex):Nat:=1+((dC x).attach.map fun y=>wN y.1).sum
termination_by bF (exO x)
decreasing_by exact eU y.2
def wF(x:Ex):Nat:=ndF x+((dC x).attach.map fun y=>wF y.1).sum
termination_by bF (exO x)
decreasing_by exact eU y.2
def wL(d:Nat)(x:Ex):Bool:=ltI 60 (Int.ofNat d)||(ndG x||((dC x).attach.map fun y=>wL (d+1) y.1).any id)
termination_by bF (exO x)
decreasing_by exact eU y.2
end
theorem jQ(x:Ex):cQ x=(ndB x&&(zB (ndL x)&&(dC x).all cQ)):=by
 rw [cQ,List.attach_map_val (l:=dC x) (f:=cQ),List.all_map]
 rfl
theorem Ab(x:Ex):wN x=1+((dC x).map wN).sum:=by
 rw [wN,List.attach_map_val (l:=dC x) (f:=wN)]
theorem Af(x:Ex):wF x=ndF x+((dC x).map wF).sum:=by
 rw [wF,List.attach_map_val (l:=dC x) (f:=wF)]
theorem xz(d:Nat)(x:Ex):wL d x=(ltI 60 (Int.ofNat d)||(ndG x||(dC x).any (wL (d+1)))):=by
 rw [wL,List.attach_map_val (l:=dC x) (f:=wL (d+1)),List.any_map]
 rfl
theorem ER{c:Bool}{a b:Nat}(h1:a≤1)(h2:b≤1):(if c then a else b)≤1:=by cases c<;>assumption
theorem A6(x:Ex):ndF x≤1:=by
 have hc:ctF x≤1:=by unfold ctF;split<;>omega
 unfold ndF
 repeat' (first|exact hc|(refine ER ?_ ?_)|exact Nat.zero_le _)
theorem Aa(x:Ex):wN x≤bF (exO x):=by
 have key:∀n (x:Ex),bF (exO x)≤n→wN x≤bF (exO x):=by
  intro n
  induction n with
  |zero=>intro x h;have:=hO x;omega
  |succ n ih=>
   intro x h
   rw [Ab]
   have:=jL (f:=wN) (l:=dC x) fun y hy=>ih y (by have:=eU hy;omega)
   have:=je x
   omega
 exact key _ x (Nat.le_refl _)
theorem Ae(x:Ex):wF x≤bF (exO x):=by
 have key:∀n (x:Ex),bF (exO x)≤n→wF x≤bF (exO x):=by
  intro n
  induction n with
  |zero=>intro x h;have:=hO x;omega
  |succ n ih=>
   intro x h
   rw [Af]
   have:=jL (f:=wF) (l:=dC x) fun y hy=>ih y (by have:=eU hy;omega)
   have:=je x
   have:=A6 x
   omega
 exact key _ x (Nat.le_refl _)
structure HSv(n f:Nat)(l:Bool)(h:H):Prop where
 b0:h.blk 0=some (.ro 256 dS)
 b1:∃tr,h.blk 1=some (.cells 3 tr none false)∧tr.get 0=some (.int .i64 (Int.ofNat n))∧tr.get 1=some (.int .i64 (Int.ofNat f))∧tr.get 2=some (.bool l)
 le:Nat.ble 2 h.next=true
 lt:Nat.blt h.next bP=true
theorem HSv.put{n f n' f':Nat}{l l':Bool}{h:H}(s:HSv n f l h):HSv n' f' l' ⟨h.t.put 1 (some (.cells 3 (cE (svC n' f' l') 0 .e) none false)),h.next⟩:=by
 have gb:∀j,(⟨h.t.put 1 (some (.cells 3 (cE (svC n' f' l') 0 .e) none false)),h.next⟩:H).blk j=if j=1 then some (.cells 3 (cE (svC n' f' l') 0 .e) none false)else h.blk j:=fun j=>Tr.get_put h.t 1 j _ (by unfold bP;omega)
 exact⟨by rw [gb,if_neg (by decide)];exact s.b0,⟨_,by rw [gb,if_pos rfl],rfl,rfl,rfl⟩,s.le,s.lt⟩
def WK(s:Nat):Prop:=∀x,bF (exO x)<s→∀d n f l0,d+bF (exO x)<9000000000000000000→n+bF (exO x)<9000000000000000000→f+bF (exO x)<9000000000000000000→
 ∃n' f' l1,Con Tryz.prog TP noM 49 [.ptr 1 0,.agg (exO x),.int .i64 (Int.ofNat d)] (svH n f l0) (.bool (cQ x)) (svH n' f' l1)∧(cQ x=true→n'=n+wN x∧f'=f+wF x∧l1=(l0||wL d x))
noncomputable def yG(d:Nat):List V:=[.eptr [.ptr 1 0] 0,.eptr [.int .i64 (Int.ofNat d)] 0]
theorem z8{s:Nat}(W:WK s){x:Ex}(hx:bF (exO x)<s){d n f:Nat}{l0:Bool}(hd:d+bF (exO x)<9000000000000000000)(hn:n+bF (exO x)<9000000000000000000)(hf:f+bF (exO x)<9000000000000000000){h:H}(hs:HSv n f l0 h):
  ∃h' n' f' l1,Con Tryz.prog TP noM 49 [.ptr 1 0,.agg (exO x),.int .i64 (Int.ofNat d)] h (.bool (cQ x)) h'∧h'.next=h.next∧HSv n' f' l1 h'∧(cQ x=true→n'=n+wN x∧f'=f+wF x∧l1=(l0||wL d x)):=by
 obtain⟨n',f',l1,c,o⟩:=W x hx d n f l0 hd hn hf
 obtain⟨tr,e1,t0,t1,t2⟩:=hs.b1
 exact⟨_,n',f',l1,Con.frameB (cs:=svC n f l0) (cs':=svC n' f' l1) c (xH n f l0 (bO (pxe x) (bO (.flat rfl) px0))) List.mem_cons_self (.flat rfl) (dN _ _ _) (dN _ _ _) rfl rfl hs.b0 e1 (gz t0 t1 t2) (Nat.le_of_ble_eq_true hs.le),rfl,hs.put,o⟩
theorem f64{s:Nat}(W:WK s){x:Ex}(hx:bF (exO x)<s){d n f:Nat}{l0:Bool}(hd:d+1+bF (exO x)<9000000000000000000)(hn:n+bF (exO x)<9000000000000000000)(hf:f+bF (exO x)<9000000000000000000){h:H}(hs:HSv n f l0 h):
  ∃h' n' f' l1,CE 64 (yG d) x h (cQ x) h'∧HSv n' f' l1 h'∧(cQ x=true→n'=n+wN x∧f'=f+wF x∧l1=(l0||wL (d+1) x)):=by
 obtain⟨h',n',f',l1,c,e,hs',o⟩:=z8 W hx hd hn hf hs
 refine⟨h',n',f',l1,⟨?_,Nat.le_of_eq e.symm,hs'.lt⟩,hs',o⟩
 rw [←iT (by omega)]at c
 refine eI Tryz.func64 (by decide) cf64_ok rfl rfl (Nat.le_of_ble_eq_true hs.le) (Nat.le_of_eq e.symm) ?_
 repeat' (first
  |(refine WLg.mk ?_;first
  |refine aa rfl rfl rfl rfl ?_
  |refine ab rfl rfl (show ROp.run (.load true 11) [.eptr (exO x) 0] _=some (.agg (exO x))from rfl) rfl ?_
  |refine ab rfl rfl rfl rfl ?_
  |refine az rfl rfl RA rfl PB rfl ?_
  |refine am rfl rfl rfl (c) (fun _ _ q=>q) .none rfl ?_)
  |refine ah ?_|refine ac rfl ?_|refine ai ?_|refine ae ?_|refine ap ?_|refine bE.norm ?_|fail)
 exact⟨.inr rfl,_,rfl,rfl,rfl⟩
theorem DE{s:Nat}(W:WK s){d:Nat}:∀(L:List Ex),(∀y,y∈L→bF (exO y)<s)→d+1+bF (exL L)<9000000000000000000→∀{n f:Nat} {l0:Bool} {h:H},n+bF (exL L)<9000000000000000000→f+bF (exL L)<9000000000000000000→HSv n f l0 h→
  ∃h' n' f' l1,Rk (CE 64 (yG d)) L h (L.all cQ) h'∧HSv n' f' l1 h'∧(L.all cQ=true→n'=n+(L.map wN).sum∧f'=f+(L.map wF).sum∧l1=(l0||L.any (wL (d+1))))
 |[],_,_,n,f,l0,h,_,_,hs=>⟨h,n,f,l0,.nil,hs,fun _=>⟨rfl,rfl,by simp⟩⟩
 |y ::L,hy,hd,n,f,l0,h,hn,hf,hs=>by
  rw [cN,bY]at hd hn hf
  obtain⟨h1,n1,f1,l1,c,hs1,o⟩:=f64 W (hy y List.mem_cons_self) (d:=d) (by omega) (by omega) (by omega) hs
  rw [List.all_cons]
  cases q:cQ y with
  |false=>
   rw [q]at c
   exact⟨h1,n1,f1,l1,.stop c,hs1,fun k=>by simp at k⟩
  |true=>
   rw [q]at c
   obtain⟨rfl,rfl,rfl⟩:=o q
   have:=Aa y
   have:=Ae y
   obtain⟨h2,n2,f2,l2,k,hs2,o2⟩:=DE W (d:=d) L (fun z hz=>hy z (List.mem_cons_of_mem _ hz)) (by omega) (by omega) (by omega) hs1
   refine⟨h2,n2,f2,l2,by rw [Bool.true_and];exact .go c k,hs2,fun k=>?_⟩
   rw [Bool.true_and]at k
   obtain⟨rfl,rfl,rfl⟩:=o2 k
   simp only [List.map_cons,List.sum_cons,List.any_cons,Nat.add_assoc,Bool.or_assoc,true_and]
theorem f61F(x:Ex)(hx:bF (exO x)≤6000000)(n f:Nat)(l0:Bool)(hf:f<9223372036854775807):
  ∃l1,(∀{h:H} {tr:Tr V},h.blk 0=some (.ro 256 dS)→h.blk 1=some (.cells 3 tr none false)→tr.get 0=some (.int .i64 (Int.ofNat n))→tr.get 1=some (.int .i64 (Int.ofNat f))→tr.get 2=some (.bool l0)→Nat.ble 2 h.next=true→
   Con Tryz.prog TP noM 61 [.ptr 1 0,.agg (exO x)] h (.tup [.agg (ndL x),.bool (ndB x)]) ⟨h.t.put 1 (some (.cells 3 (cE (svC n (f+ndF x) l1) 0 .e) none false)),h.next⟩)∧(ndB x=true→l1=(l0||ndG x)):=by
 obtain⟨l1,c,o⟩:=f61 x hx n f l0 hf
 refine⟨l1,fun{h tr} h0 h1 t0 t1 t2 hn=>?_,o⟩
 have pl:bN (.agg (ndL x)):=(v7 x).node.px
 exact Con.frameB (cs:=svC n f l0) (cs':=svC n (f+ndF x) l1) c (xH n f l0 (bO (pxe x) px0)) List.mem_cons_self (.tup (bO pl (bO (.flat rfl) px0))) (dN _ _ _) (dN _ _ _) rfl rfl h0 h1 (gz t0 t1 t2) (Nat.le_of_ble_eq_true hn)
theorem Dm{A:H→Bool→Prop}{P:H→Bool→H→Nat→Nat→Bool→Prop}(k:∀h l,A h l→∃h' n f l1,P h l h' n f l1):∃(nh:∀h l,A h l→H) (nn nf:∀h l,A h l→Nat) (nl:∀h l,A h l→Bool),∀h l a,P h l (nh h l a) (nn h l a) (nf h l a) (nl h l a):=by
 classical
 exact⟨fun h l a=>Classical.choose (k h l a),fun h l a=>Classical.choose (Classical.choose_spec (k h l a)),fun h l a=>Classical.choose (Classical.choose_spec (Classical.choose_spec (k h l a))),fun h l a=>Classical.choose (Classical.choose_spec (Classical.choose_spec (Classical.choose_spec (k h l a)))),fun h l a=>Classical.choose_spec (Classical.choose_spec (Classical.choose_spec (Classical.choose_spec (k h l a))))⟩
theorem wD(d:Nat){k:Nat}(h:1<k):df (fun id=>id=k) (.func (.func 64) [] (yG d)):=eO (fun v hv=>by cases hv) fun v hv=>by
 rcases List.mem_cons.1 hv with rfl|hv
 ·exact fm (ls (eC fun q=>by omega))
 ·rw [List.mem_singleton.1 hv]
  exact fm (ls zv)
theorem bz{P:Program}{T:Ty}{K:Nat→Prop}{call:cB}{n:Nat}{l:List bQ}{loc loc':AL}{h h':H}{Q:X→AL→H→Prop}(k:∃s',fG call l ⟨⟨loc,[]⟩,h,[],[]⟩=some s'∧bD s'.cs (i7 s'.hs [s'.h])∧s'.f.loc=loc'∧s'.h=h')(c:Q .norm loc' h'):WC P T K call n (.regD l) loc h Q:=by
 obtain⟨s',k1,k2,rfl,rfl⟩:=k
 exact WC.regD ⟨s',k1,k2,c⟩
noncomputable section
def fr49(x:Ex)(d:Nat):AL:=[(0,.ptr 1 0),(1,.agg (exO x)),(2,.int .i64 (Int.ofNat d)),(3,.eptr [.ptr 1 0] 0),(4,.eptr (exO x) 0),(5,.eptr [.int .i64 (Int.ofNat d)] 0),(6,.bool false)]
def Eh(c:bZ):bZ:=match c with
 |.seq _ b=>b
 |c=>c
def E8:bZ:=Eh (Eh (Eh cf49.code))
end
set_option maxHeartbeats 16000000 in
theorem yU{s:Nat}(hs:s≤6000000)(W:WK s):WK (s+1):=by
 intro x hx d n f l0 hd hn hf
 obtain⟨v,cs',c,n',f',l1,rfl,rfl,ok⟩:∃v cs',Con Tryz.prog TP noM 49 [.ptr 1 0,.agg (exO x),.int .i64 (Int.ofNat d)] (svH n f l0) v (HB cs')∧∃n' f' l1,v= .bool (cQ x)∧cs'=svC n' f' l1∧(cQ x=true→n'=n+wN x∧f'=f+wF x∧l1=(l0||wL d x)):=by
  refine qU Tryz.func49 (by decide) cf49_ok rfl rfl ?_
  have hsz:=dL x
  have hx6:bF (exO x)≤6000000:=by omega
  have hn1:n<9223372036854775807:=by omega
  have hks:=je x
  have hkl:∀y,y∈dC x→bF (exO y)<s:=fun y hy=>by have:=eU hy;omega
  have hnf:=A6 x
  obtain⟨a1,c1,o1⟩:=f61F x hx6 (n+1) f (l0||ltI 60 (Int.ofNat d)) (by omega)
  have hch:∀(h:H) (l:Bool),HSv (n+1) (f+ndF x) l h→∃h' n' f' l1,Rk (CE 64 (yG d)) (dC x) h ((dC x).all cQ) h'∧HSv n' f' l1 h'∧((dC x).all cQ=true→n'=n+1+((dC x).map wN).sum∧f'=f+ndF x+((dC x).map wF).sum∧l1=(l||(dC x).any (wL (d+1)))):=fun h l hh=>DE W (d:=d) (dC x) hkl (by omega) (by omega) (by omega) hh
  obtain⟨nh,nn,nf,nl,hP⟩:=Dm hch
  clear hch
  have hsh:=v7 x
  have hz:zB (ndL x)=zvB (.agg (.int .i64 0 ::(ndL x).tail)):=rfl
  generalize hL:ndL x=L at c1 hsh hz
  cases hsh with
  |mk h1 h2 h3 h4 h5 h6=>
  rename_i k9 i9 m1 q1 m2 q2 l1 l2 l3 l4 l5 l6 w
  have hone:=jH (k:=k9) (a:=i9) (n1:=m1) (c1:=q1) (n2:=m2) (c2:=q2) (w:=w) h1 h2 h3 h4 h5 h6
  have p1:=h1.px
  have p2:=h2.px
  have p3:=h3.px
  have p4:=h4.px
  have p5:=h5.px
  have p6:=h6.px
  have g62:=f62z (Sh.mk (k:=0) (a:=i9) (n1:=m1) (c1:=q1) (n2:=m2) (c2:=q2) (w:=w) h1 h2 h3 h4 h5 h6).node
  have hW1:ndB x=false→cQ x=false:=fun q=>by rw [jQ,q];rfl
  have hW2:zvB (.agg [.int .i64 0,.int .i64 i9,.str m1 q1,.str m2 q2,l1,l2,l3,l4,l5,l6,.bool w])=false→cQ x=false:=fun q=>by
   have e:zB (ndL x)=false:=by rw [hL,hz];exact q
   rw [jQ,e,Bool.false_and,Bool.and_false]
  have hF:∀h (hh:HSv (n+1) (f+ndF x) a1 h),ndB x=true→zvB (.agg [.int .i64 0,.int .i64 i9,.str m1 q1,.str m2 q2,l1,l2,l3,l4,l5,l6,.bool w])=true→(2≤(nh h a1 hh).next∧bN (.bool ((dC x).all cQ))∧∃cs' tr ch,(∃n' f' l1,V.bool ((dC x).all cQ)= .bool (cQ x)∧cs'=svC n' f' l1∧(cQ x=true→n'=n+wN x∧f'=f+wF x∧l1=(l0||wL d x)))∧(nh h a1 hh).blk 0=some (.ro 256 dS)∧(nh h a1 hh).blk 1=some (.cells (bU cs') tr none ch)∧(∀j v,cs'[j]? =some v→tr.get j=some v)∧(∀c,c∈cs'→bN c)∧Nat.ble (bU cs') bP=true):=fun h hh k1 k2=>by
   obtain⟨_,⟨b0,⟨tr,e1,t0,t1,t2⟩,le,lt⟩,ok⟩:=hP h a1 hh
   have e:zB (ndL x)=true:=by rw [hL,hz];exact k2
   have ew:cQ x=(dC x).all cQ:=by rw [jQ,k1,e,Bool.true_and,Bool.true_and]
   refine⟨Nat.le_of_ble_eq_true le,.flat rfl,svC _ _ _,tr,false,⟨_,_,_,by rw [ew],rfl,fun k=>?_⟩,b0,e1,gz t0 t1 t2,dN _ _ _,rfl⟩
   rw [ew]at k
   obtain⟨q1,q2,q3⟩:=ok k
   rw [Ab,Af,xz,q1,q2,q3,o1 k1]
   exact⟨by omega,by omega,by simp only [Bool.or_assoc]⟩
  have fin:∀lz,lz=(l0||ltI 60 (Int.ofNat d))→WC Tryz.prog TP KB eK 1 E8 (fr49 x d) (HB [.int .i64 (cZ .i64 (Int.add (Int.ofNat n) 1)),.int .i64 (Int.ofNat f),.bool lz]) (oX cf49 fun v h'=>2≤h'.next∧bN v∧∃cs' tr ch,(∃n' f' l1,v= .bool (cQ x)∧cs'=svC n' f' l1∧(cQ x=true→n'=n+wN x∧f'=f+wF x∧l1=(l0||wL d x)))∧h'.blk 0=some (.ro 256 dS)∧h'.blk 1=some (.cells (bU cs') tr none ch)∧(∀j v,cs'[j]? =some v→tr.get j=some v)∧(∀c,c∈cs'→bN c)∧Nat.ble (bU cs') bP=true):=by
   rintro lz rfl
   have c1':Con Tryz.prog TP noM 61 [.ptr 1 0,.agg (exO x)] (HB [.int .i64 (cZ .i64 (Int.add (Int.ofNat n) 1)),.int .i64 (Int.ofNat f),.bool (l0||ltI 60 (Int.ofNat d))]) _ (HB (svC (n+1) (f+ndF x) a1)):=c1 rfl rfl (dB hn1) rfl rfl rfl
   clear c1
   repeat' (first
    |(refine WLg.mk ?_;first
    |refine aa rfl rfl rfl rfl ?_|refine ab rfl rfl rfl rfl ?_|refine aE rfl rfl rfl rfl rfl ?_
    |refine aL rfl rfl rfl rfl hone rfl rfl rfl rfl ?_|refine aN rfl rfl rfl rfl rfl rfl rfl rfl rfl ?_
    |refine aq rfl rfl rfl (g62) rfl ?_|refine am rfl rfl rfl (c1') (fun _ _ q=>q) .none rfl ?_)
    |refine ah ?_|refine ac rfl ?_|refine ax rfl rfl ?_|refine ay rfl (fun ht=>?_) (fun ht=>?_)|refine ai ?_
    |refine ae ?_|refine ap ?_|refine bE.norm ?_|fail)
   ·refine⟨am rfl rfl rfl (f63 hx6 (Nat.le_of_ble_eq_true (n:=2) rfl) rfl (wD d (Nat.le_of_ble_eq_true (n:=2) rfl)) (hP _ a1 ⟨rfl,⟨_,rfl,rfl,rfl,rfl⟩,rfl,rfl⟩).1) (fun _ _ q=>q) .none rfl ?_⟩
    repeat' (first
     |(refine WLg.mk ?_;first
     |refine aa rfl rfl rfl rfl ?_)
     |refine ah ?_|refine ac rfl ?_|refine ap ?_|refine bE.norm ?_|fail)
    rename_i t1
    exact⟨.inr rfl,_,rfl,hF _ _ t1 ht⟩
   ·exact⟨.inr rfl,_,rfl,Nat.le_of_ble_eq_true (n:=2) rfl,.flat rfl,svC (n+1) (f+ndF x) a1,_,_,⟨_,_,_,by rw [hW2 ht];rfl,rfl,fun k=>by rw [hW2 ht]at k;cases k⟩,rfl,rfl,gz rfl rfl rfl,dN _ _ _,rfl⟩
   ·exact⟨.inr rfl,_,rfl,Nat.le_of_ble_eq_true (n:=2) rfl,.flat rfl,svC (n+1) (f+ndF x) a1,_,_,⟨_,_,_,by rw [hW1 ht];rfl,rfl,fun k=>by rw [hW1 ht]at k;cases k⟩,rfl,rfl,gz rfl rfl rfl,dN _ _ _,rfl⟩
  cases l0
  all_goals skip
  ·skip
   repeat' (first
    |(refine WLg.mk ?_;first
    |refine aa rfl rfl rfl rfl ?_|refine ab rfl rfl rfl rfl ?_|refine aP rfl rfl rfl rfl (eC (show ¬(1:Nat)=2 by decide)) rfl ?_
    |refine az rfl rfl RA rfl PB rfl ?_
    |refine aN rfl rfl rfl rfl rfl rfl rfl rfl rfl ?_)
    |refine ah ?_|refine ac rfl ?_|refine ai ?_|refine ae ?_|refine bE.norm ?_|fail)
   refine bz (loc':=fr49 x d) (h':=HB [.int .i64 (cZ .i64 (Int.add (Int.ofNat n) 1)),.int .i64 (Int.ofNat f),.bool (ltI 60 (Int.ofNat d))]) ⟨_,rfl,(by repeat' (first|exact bD.nil|refine bD.any (fun h=>rfl) ?_|refine bD.first rfl ?_)),rfl,rfl⟩ (.norm (fin _ rfl))
  ·skip
   repeat' (first
    |(refine WLg.mk ?_;first
    |refine aa rfl rfl rfl rfl ?_|refine ab rfl rfl rfl rfl ?_|refine aP rfl rfl rfl rfl (eC (show ¬(1:Nat)=2 by decide)) rfl ?_
    |refine az rfl rfl RA rfl PB rfl ?_
    |refine aN rfl rfl rfl rfl rfl rfl rfl rfl rfl ?_)
    |refine ah ?_|refine ac rfl ?_|refine ai ?_|refine ae ?_|refine bE.norm ?_|fail)
   refine bz (loc':=fr49 x d) (h':=HB [.int .i64 (cZ .i64 (Int.add (Int.ofNat n) 1)),.int .i64 (Int.ofNat f),.bool true]) ⟨_,rfl,(by repeat' (first|exact bD.nil|refine bD.any (fun h=>rfl) ?_|refine bD.first rfl ?_)),rfl,rfl⟩ (.norm (fin _ rfl))
 exact⟨n',f',l1,c,ok⟩
theorem vJ:∀s,s≤6000001→WK s
 |0,_=>fun x hx=>by omega
 |s+1,hs=>yU (by omega) (vJ s (by omega))
end
section
noncomputable section
def j9(l:List Cl):Cl:=bL l 0
def okF(f:Fu):Bool:= !eqI (Int.ofNat f.clauses.length) 0&&(dJ f.name.size (bT f.name.data.toList) (j9 f.clauses).name.size (bT (j9 f.clauses).name.data.toList)&&(eqI f.arity (Int.ofNat (j9 f.clauses).pats.length)&&(clB (-1) true f.clauses&&(clK f.clauses).all cQ)))
def fN(f:Fu):Nat:=((clK f.clauses).map wN).sum
def fF(f:Fu):Nat:=((clK f.clauses).map wF).sum
def fL(f:Fu):Bool:=clG f.clauses||((clK f.clauses).any (wL 1)||ltI 4000 (Int.ofNat (fN f)))
def okS(s:Sn):Bool:=wdB s.name&&(!ltI s.arity 0 && !ltI 16 s.arity)
def yh(m:Md):Bool:=(ltI 200 (Int.ofNat m.funcs.length)||ltI 200 (Int.ofNat m.exports.length))||m.funcs.any fL
def okM(m:Md):Bool:=(wdB m.name&&(!ltI m.vsn 1 && !ltI 2147483647 m.vsn))&&(m.exports.all okS&&(m.funcs.all okF&&(!yh m&&(!ltI 20000 (Int.ofNat ((m.funcs.map fN).sum)) && !ltI 1000 (Int.ofNat ((m.funcs.map fF).sum))))))
end
theorem DU(f:Fu):fN f≤bF (fuO f):=by
 have h1:=jL (f:=wN) (l:=clK f.clauses) fun y _=>Aa y
 have h2:=gH f.clauses
 have h3:=iN f
 unfold fN
 omega
theorem G0(f:Fu):fF f≤bF (fuO f):=by
 have h1:=jL (f:=wF) (l:=clK f.clauses) fun y _=>Ae y
 have h2:=gH f.clauses
 have h3:=iN f
 unfold fF
 omega
section
variable {P:Program} {T:Ty} {K:Nat→Prop} {call:cB} {n:Nat}
variable {loc tmp loc' tmp':AL} {h h1:H} {l:List bQ} {R:AL→H→Prop} {d:Dst} {args:List Opd} {gd:Option (Opd×Bool)} {lo hi:Nat}
theorem WL.fillF{d2:Dst}{args2:List Opd}{gd2:Option (Opd×Bool)}{lo2 hi2:Nat}{zero:List V}{n:Nat}{x:V}{loc1 tmp1 loc2 tmp2:AL}(e0:bV ⟨loc,tmp⟩ gd=some true)(e1:evs ⟨loc,tmp⟩ args=some [])(hk:Nat.blt h.next bP=true)(p1:fK d (.ptr h.next 0) loc tmp=some (loc1,tmp1))
  (e2:bV ⟨loc1,tmp1⟩ gd2=some true) (e3:evs ⟨loc1,tmp1⟩ args2=some [.ptr h.next 0,x]) (hn:Nat.beq (bU (cellsOf x)) n=true) (hz:Nat.beq (bU zero) n=true) (z1:cK zero=true) (z2:Nat.blt n bP=true) (ho:cK (cellsOf x)=true) (hp:∀c,c∈cellsOf x→df (fun id=>id=h.next) c)
  (p2:fK d (.eptr (cellsOf x) 0) loc tmp=some (loc',tmp')) (p3:fK d2 cF loc' tmp'=some (loc2,tmp2)) (k:WL P T K call l loc2 tmp2 h R):WL P T K call (⟨d,.a (.alloc zero),args,gd,lo,hi⟩ ::⟨d2,.e (.store n),args2,gd2,lo2,hi2⟩ ::l) loc tmp h R:=by
 have hk':=Nat.le_of_ble_eq_true hk
 have hn':=Nat.eq_of_beq_eq_true hn
 have hz':=Nat.eq_of_beq_eq_true hz
 have z2':=Nat.le_of_ble_eq_true z2
 rw [@bS noE]at hn' hz'
 have q1:(Dst.put ⟨loc,tmp⟩ (.ptr h.next 0) d)=⟨loc1,tmp1⟩:=fH p1
 have q2:(Dst.put ⟨loc,tmp⟩ (.eptr (cellsOf x) 0) d)=⟨loc',tmp'⟩:=fH p2
 have q3:(Dst.put ⟨loc',tmp'⟩ cF d2)=⟨loc2,tmp2⟩:=fH p3
 have eb:(⟨h.t.put h.next (some (.cells zero.length (cE zero 0 .e) none false)),Nat.succ h.next⟩:H).blk h.next=some (.cells zero.length (cE zero 0 .e) none false):=by
  show(h.t.put h.next _).get h.next=_
  rw [Tr.get_put _ _ _ _ (by omega),if_pos rfl]
 obtain⟨h2,w1,w2,w3,cs2,w4,w5⟩:=lC (id:=h.next) (n:=zero.length) (by omega) (by omega) (cellsOf x) 0 ⟨h.t.put h.next (some (.cells zero.length (cE zero 0 .e) none false)),Nat.succ h.next⟩ _ eb ho (by omega)
 refine⟨WO.allocF (zero:=zero) (n:=n) (x:=x) (h2:=h2) (cs':=cs2) e0 rfl e1 ?_ (by omega) ?_ rfl ?_ w1 ?_ (fun j v e=>?_) hn' hp ?_⟩
 ·show ob (oif (cK zero) (oif (Nat.blt (bU zero) bP) (some (Blk.cells (bU zero) (cE zero 0 .e) none false)))) _=_
  rw [z1,@bS noE,hz',z2]
  rfl
 ·show bV (Dst.put ⟨loc,tmp⟩ (.ptr h.next 0) d) gd2=_
  rw [q1]
  exact e2
 ·show evs (Dst.put ⟨loc,tmp⟩ (.ptr h.next 0) d) args2=_
  rw [q1]
  exact e3
 ·rw [w4,hn',hz']
 ·have hj:=(List.getElem?_eq_some_iff.1 e).1
  rw [w5,if_pos (by omega),Nat.sub_zero]
  exact e
 ·show WO P T K call l (Dst.put (Dst.put ⟨loc,tmp⟩ (.eptr (cellsOf x) 0) d) cF d2) h _
  rw [q2,q3]
  exact k.out
end
inductive kO(f:AL):AL→Prop
 |nil:kO f []
 |bx {t:Nat} {l:AL} (e:lk f t=some (.eptr [.ptr 1 0] 0)) (r:kO f l):kO f ((t,.eptr [.ptr 1 0] 0) ::l)
 |cons {t:Nat} {v:V} {l:AL} (e:lk f t=some v) (p:bN v) (r:kO f l):kO f ((t,v) ::l)
theorem kO.mem{U:Nat→Prop}(h1:U 1){f:AL}:∀{l:AL},kO f l→∀p,p∈l→∃v,lk f p.1=some v∧Rn U (fun i=>i) (fun _=>none) p.2 v
 |_,.nil,p,h=>by cases h
 |_,.bx e r,p,h=>by
  rcases List.mem_cons.1 h with rfl|h
  ·exact⟨_,e,.eptr (.cons (@Rn.ptr _ (fun i=>i) _ 1 0 h1) .nil)⟩
  ·exact kO.mem h1 r p h
 |_,.cons e q r,p,h=>by
  rcases List.mem_cons.1 h with rfl|h
  ·exact⟨_,e,.pure q⟩
  ·exact kO.mem h1 r p h
theorem KBX{f l:AL}(h:kO f l:=by repeat' (first|exact .nil|refine .bx rfl ?_|refine .cons rfl ?_ ?_|refine .cons (dB Hy) ?_ ?_|exact PX)):kO f l:=h
theorem D4{h:H}{cs:List V}{tr:Tr V}{ch:Bool}(hb:h.blk 0=some (.ro 256 dS))(hs:h.blk 1=some (.cells (bU cs) tr none ch))(hl:Nat.ble (bU cs) bP=true)(hc:∀j v,cs[j]? =some v→tr.get j=some v)(hp:∀c,c∈cs→bN c){f:F}{l:AL}(k:kO f.loc l){K:Nat→Prop}(hK:∀id,K id→id=0∨id=1):ft TP K f h ⟨l,[]⟩ (HB cs):=
 (vwB hb hs hl hc hp).view (fun id h=>by rcases hK id h with rfl|rfl<;>exact⟨⟨_,rfl⟩,rfl⟩) (.inl fun _=>rfl) ⟨fun p hp=>k.mem ⟨_,rfl⟩ p hp,fun p hp=>by cases hp⟩
theorem f48{x:Ex}(hx:bF (exO x)≤6000000){n f:Nat}{l0:Bool}(hn:n+bF (exO x)<9000000000000000000)(hf:f+bF (exO x)<9000000000000000000){h:H}(hs:HSv n f l0 h):
  ∃h' n' f' l1,CE 48 [.eptr [.ptr 1 0] 0] x h (cQ x) h'∧HSv n' f' l1 h'∧(cQ x=true→n'=n+wN x∧f'=f+wF x∧l1=(l0||wL 1 x)):=by
 obtain⟨h',n',f',l1,c,e,hs',o⟩:=z8 (vJ 6000001 (Nat.le_refl _)) (by omega) (d:=1) (by omega) hn hf hs
 refine⟨h',n',f',l1,⟨?_,Nat.le_of_eq e.symm,hs'.lt⟩,hs',o⟩
 refine eI Tryz.func48 (by decide) cf48_ok rfl rfl (Nat.le_of_ble_eq_true hs.le) (Nat.le_of_eq e.symm) ?_
 repeat' (first
  |(refine WLg.mk ?_;first
  |refine aa rfl rfl rfl rfl ?_
  |refine ab rfl rfl (show ROp.run (.load true 11) [.eptr (exO x) 0] _=some (.agg (exO x))from rfl) rfl ?_
  |refine ab rfl rfl rfl rfl ?_
  |refine az rfl rfl RA rfl PB rfl ?_
  |refine am rfl rfl rfl (c) (fun _ _ q=>q) .none rfl ?_)
  |refine ah ?_|refine ac rfl ?_|refine ai ?_|refine ae ?_|refine ap ?_|refine bE.norm ?_|fail)
 exact⟨.inr rfl,_,rfl,rfl,rfl⟩
theorem z6:∀(L:List Ex),bF (exL L)≤6000000→∀{n f:Nat} {l0:Bool} {h:H},n+bF (exL L)<9000000000000000000→f+bF (exL L)<9000000000000000000→HSv n f l0 h→
  ∃h' n' f' l1,Rk (CE 48 [.eptr [.ptr 1 0] 0]) L h (L.all cQ) h'∧HSv n' f' l1 h'∧(L.all cQ=true→n'=n+(L.map wN).sum∧f'=f+(L.map wF).sum∧l1=(l0||L.any (wL 1)))
 |[],_,n,f,l0,h,_,_,hs=>⟨h,n,f,l0,.nil,hs,fun _=>⟨rfl,rfl,by simp⟩⟩
 |y ::L,hy,n,f,l0,h,hn,hf,hs=>by
  rw [cN,bY]at hy hn hf
  obtain⟨h1,n1,f1,l1,c,hs1,o⟩:=f48 (x:=y) (by omega) (by omega) (by omega) hs
  rw [List.all_cons]
  cases q:cQ y with
  |false=>
   rw [q]at c
   exact⟨h1,n1,f1,l1,.stop c,hs1,fun k=>by simp at k⟩
  |true=>
   rw [q]at c
   obtain⟨rfl,rfl,rfl⟩:=o q
   have:=Aa y
   have:=Ae y
   obtain⟨h2,n2,f2,l2,k,hs2,o2⟩:=z6 L (by omega) (by omega) (by omega) hs1
   refine⟨h2,n2,f2,l2,by rw [Bool.true_and];exact .go c k,hs2,fun k=>?_⟩
   rw [Bool.true_and]at k
   obtain⟨rfl,rfl,rfl⟩:=o2 k
   simp only [List.map_cons,List.sum_cons,List.any_cons,Nat.add_assoc,Bool.or_assoc,true_and]
theorem f47W(l:List Cl)(hl:bF (clL l)≤6000000)(n f:Nat)(l0:Bool)(hn:n<8000000000000000000)(hf:f<8000000000000000000):
  ∃n' f' l1,Con Tryz.prog TP noM 47 [.lst l.length 4 (clL l),.func (.func 48) [] [.eptr [.ptr 1 0] 0]] (HB (svC n f l0)) (.bool ((clK l).all cQ)) (HB (svC n' f' l1))∧((clK l).all cQ=true→n'=n+((clK l).map wN).sum∧f'=f+((clK l).map wF).sum∧l1=(l0||(clK l).any (wL 1))):=by
 have hs:=gH l
 obtain⟨h',n',f',l1,k,⟨b0,⟨tr,e1,t0,t1,t2⟩,le,lt⟩,o⟩:=z6 (clK l) (by omega) (n:=n) (f:=f) (l0:=l0) (h:=HB (svC n f l0)) (by omega) (by omega) ⟨rfl,⟨_,rfl,rfl,rfl,rfl⟩,rfl,rfl⟩
 have c:=f47 hl (Nat.le_of_ble_eq_true (n:=2) rfl) rfl k
 exact⟨n',f',l1,c.drop (.flat rfl) (Nat.le_refl _) (vwB b0 e1 rfl (gz t0 t1 t2) (dN _ _ _)),o⟩
end
section
noncomputable section
def fr29e(m:Md)(i:Nat):AL:=[(1,.eptr (mdO m) 0),(24,.lst m.exports.length 2 (snL m.exports)),(25,.int .i64 (Int.ofNat m.exports.length)),(26,.int .i64 (Int.ofNat i))]
def fr29f(m:Md)(i:Nat):AL:=[(1,.eptr (mdO m) 0),(5,.eptr [.ptr 1 0] 0),(58,.lst m.funcs.length 3 (fuL m.funcs)),(59,.int .i64 (Int.ofNat m.funcs.length)),(60,.int .i64 (Int.ofNat i))]
def stN(l:List Fu):Nat:=(l.map fN).sum
def stF(l:List Fu):Nat:=(l.map fF).sum
def stL(m:Md)(l:List Fu):Bool:=(ltI 200 (Int.ofNat m.funcs.length)||ltI 200 (Int.ofNat m.exports.length))||l.any fL
end
theorem CL{m:Md}{i:Nat}(h:i<m.exports.length)(k:okS (dz m.exports i)=false):okM m=false:=by
 have:m.exports.all okS=false:=by
  rw [Bool.eq_false_iff]
  intro q
  have:=List.all_eq_true.1 q _ (ol (d:=sn0) (ltb h))
  have e:okS (dz m.exports i)=true:=this
  rw [k]at e
  cases e
 rw [okM,this]
 simp
theorem sT{m:Md}{i:Nat}(h:i<m.funcs.length)(k:okF (cJ m.funcs i)=false):okM m=false:=by
 have:m.funcs.all okF=false:=by
  rw [Bool.eq_false_iff]
  intro q
  have:=List.all_eq_true.1 q _ (ol (d:=fu0) (ltb h))
  have e:okF (cJ m.funcs i)=true:=this
  rw [k]at e
  cases e
 rw [okM,this]
 simp
theorem ji{l:List Fu}{i:Nat}(h:i<l.length):l.take (i+1)=l.take i++[cJ l i]:=by
 have e:=cV (d:=fu0) (ltb h)
 have:cJ l i=l[i]:=by
  show(l[i]?).getD fu0=_
  rw [List.getElem?_eq_getElem h]
  rfl
 rw [this,List.take_succ_eq_append_getElem h]
theorem ue{l:List Sn}{i:Nat}(h:i<l.length):l.take (i+1)=l.take i++[dz l i]:=by
 have:dz l i=l[i]:=by
  show(l[i]?).getD sn0=_
  rw [List.getElem?_eq_getElem h]
  rfl
 rw [this,List.take_succ_eq_append_getElem h]
theorem Ee(l:List Fu):stN l≤bF (fuL l):=mZ DU l
theorem Ef(l:List Fu):stF l≤bF (fuL l):=mZ G0 l
theorem qH(l:List Fu)(i:Nat):bF (fuL (l.take i))≤bF (fuL l):=ii (f:=fuO) (by rfl) (fun _ _=>rfl) l i
theorem t6{g:Fu→Nat}{l:List Fu}{i:Nat}(h:i<l.length):((l.take (i+1)).map g).sum=((l.take i).map g).sum+g (cJ l i):=by
 rw [ji h,List.map_append,List.sum_append]
 simp
theorem ub{l:List Fu}{i:Nat}(h:i<l.length):stN (l.take (i+1))=stN (l.take i)+fN (cJ l i):=t6 h
theorem ud{l:List Fu}{i:Nat}(h:i<l.length):stF (l.take (i+1))=stF (l.take i)+fF (cJ l i):=t6 h
theorem uc{m:Md}{i:Nat}(h:i<m.funcs.length):stL m (m.funcs.take (i+1))=(stL m (m.funcs.take i)||fL (cJ m.funcs i)):=by
 unfold stL
 rw [ji h,List.any_append,List.any_cons,List.any_nil,Bool.or_false,Bool.or_assoc,Bool.or_assoc,Bool.or_assoc]
theorem yR{a b:Nat}(h:a+b<9223372036854775808):cZ .i64 (Int.sub (Int.ofNat (a+b)) (Int.ofNat a))=Int.ofNat b:=by
 have e:Int.sub (Int.ofNat (a+b)) (Int.ofNat a)=Int.add (Int.ofNat b) (Int.ofNat 0):=by
  show(Int.ofNat (a+b))-(Int.ofNat a)=Int.ofNat b+Int.ofNat 0
  simp
  omega
 rw [e,mF (by omega)]
 rfl
theorem ya{m:Md}(h1:(wdB m.name&&(!ltI m.vsn 1 && !ltI 2147483647 m.vsn))=true)(h2:m.exports.all okS=true)(h3:m.funcs.all okF=true):okM m=(!stL m m.funcs&&(!ltI 20000 (Int.ofNat (stN m.funcs)) && !ltI 1000 (Int.ofNat (stF m.funcs)))):=by
 unfold okM
 rw [h1,h2,h3]
 rfl
set_option maxHeartbeats 16000000 in
theorem f29(m:Md)(hm:bF (mdO m)≤6000000):∃r,ck Tryz.prog TP 29 [.agg (mdO m)] (.int .i64 r)∧eqI r 0=okM m:=by
 obtain⟨v,c,r,rfl,ok⟩:∃v,ck Tryz.prog TP 29 [.agg (mdO m)] v∧∃r,v= .int .i64 r∧eqI r 0=okM m:=by
  refine cH Tryz.func29 (by decide) cf29_ok rfl (bO (.agg (fM m)) px0) rfl ?_
  have px:=fM m
  have px2:bN (.eptr (mdO m) 0):= .eptr px
  have hsz:=mU m
  have c45:=f45 m.name.size (bT m.name.data.toList)
  have hn1:=sH m.exports
  have hn2:=mY m.funcs
  have pS:bN (.lst m.exports.length 2 (snL m.exports)):=px _ (List.mem_cons_of_mem _ (List.mem_cons_of_mem _ List.mem_cons_self))
  have pF:bN (.lst m.funcs.length 3 (fuL m.funcs)):=px _ (List.mem_cons_of_mem _ (List.mem_cons_of_mem _ (List.mem_cons_of_mem _ List.mem_cons_self)))
  repeat' (first
   |(refine WLg.mk ?_;first
   |refine aa rfl rfl rfl rfl ?_|refine ab rfl rfl rfl rfl ?_|refine az rfl rfl rfl rfl px rfl ?_|refine aq rfl rfl rfl (c45) rfl ?_)
   |refine ah ?_|refine ac rfl ?_|refine ax rfl rfl ?_|refine ay rfl (fun ht=>?_) (fun ht=>?_)|refine ai ?_
   |refine ae ?_|refine aj ?_|refine al ?_|refine aC rfl ?_|refine ak rfl (fun ht=>?_) (fun ht=>?_)
   |refine ap ?_|refine bE.norm ?_|refine bE.ret ?_|fail)
  all_goals try (exact⟨.inr rfl,_,rfl,.flat rfl,_,rfl,by(try simp only [Bool.not_eq_true',Bool.not_eq_false']at*)<;>simp [okM,wdB,sV, *]<;>rfl⟩)
  have hA1:(wdB m.name&&(!ltI m.vsn 1 && !ltI 2147483647 m.vsn))=true:=by
   (try simp only [Bool.not_eq_false']at*)
   simp [wdB,sV, *]
  refine av (cy (l:=fr29e m 0) KT rfl) ?_
  refine aw m.exports.length (fun i x h=>(x=fr29e m i∧(m.exports.take i).all okS=true)∧h=H0) ?_ (i:=0) (Nat.zero_le _) ⟨⟨rfl,rfl⟩,rfl⟩
  clear c45
  rintro i _ _ hi ⟨⟨rfl,seen⟩,rfl⟩
  have hi2:i<9223372036854775807:=by omega
  have c45':=f45 (dz m.exports i).name.size (bT (dz m.exports i).name.data.toList)
  have pf:=vO (dz m.exports i)
  repeat' (first
   |(refine WLg.mk ?_;first
   |refine aa rfl rfl rfl rfl ?_|refine aa rfl rfl (bM Hy) rfl ?_|refine ab rfl rfl (DR Hy) rfl ?_
   |refine ab rfl rfl rfl rfl ?_|refine aA rfl rfl rfl rfl rfl rfl rfl rfl rfl rfl rfl pf rfl rfl ?_
   |refine WL.fillF rfl rfl rfl rfl rfl rfl rfl rfl rfl rfl rfl (ls (eC (show ¬(1:Nat)=2 by decide))) rfl rfl ?_
   |refine aE rfl rfl rfl rfl rfl ?_|refine aq rfl rfl rfl (c45') rfl ?_)
   |refine ah ?_|refine ac rfl ?_|refine ax rfl rfl ?_|refine ay rfl (fun ht=>?_) (fun ht=>?_)|refine ai ?_
   |refine ae ?_|refine aj ?_|refine al ?_|refine aC rfl ?_|refine ak rfl (fun ht=>?_) (fun ht=>?_)
   |refine au ?_|refine ap ?_|refine bE.norm ?_|refine bE.ret ?_|refine bE.exit ?_|refine OnC.ret ?_|refine OnC.exit ?_
   |fail)
  all_goals first
   |exact⟨.inr rfl,_,rfl,.flat rfl,_,rfl,by rw [CL (bK (by assumption:ltI (Int.ofNat i) (Int.ofNat m.exports.length)=true)) (by(try simp only [Bool.not_eq_true',Bool.not_eq_false']at*)<;>simp [okS,wdB,sV, *])]<;>rfl⟩
   |exact .norm ⟨_,_,cy KI rfl,bK Hy,⟨rfl,by
     have hlt:=bK (by assumption:ltI (Int.ofNat i) (Int.ofNat m.exports.length)=true)
     rw [ue hlt,List.all_append,seen,Bool.true_and,List.all_cons,List.all_nil,Bool.and_true]
     (try simp only [Bool.not_eq_false']at*)
     simp [okS,wdB,sV, *]⟩,rfl⟩
   |skip
  all_goals (
   have hie:i=m.exports.length:=by
    have:=ci (by assumption:ltI (Int.ofNat i) (Int.ofNat m.exports.length)=false)
    omega
   have hA2:m.exports.all okS=true:=by rw [hie,List.take_length]at seen;exact seen
   clear seen
   have hz:stL m []=(ltI 200 (Int.ofNat m.funcs.length)||ltI 200 (Int.ofNat m.exports.length)):=by simp only [stL,List.any_nil,Bool.or_false]
   refine av (D4 (l:=fr29f m 0) (cs:=svC 0 0 (stL m [])) rfl rfl rfl (gz rfl rfl (by first|(show some (V.bool _)=_;rw [hz,(by assumption:ltI 200 (Int.ofNat m.funcs.length)=true)];rfl)|(show some (V.bool _)=_;rw [hz,(by assumption:ltI 200 (Int.ofNat m.funcs.length)=false)];rfl))) (dN _ _ _) KBX (fun id h=>.inl h)) ?_
   refine aw m.funcs.length (fun i x h=>x=fr29f m i∧(m.funcs.take i).all okF=true∧h=HB (svC (stN (m.funcs.take i)) (stF (m.funcs.take i)) (stL m (m.funcs.take i)))) ?_ (i:=0) (Nat.zero_le _) ⟨rfl,rfl,rfl⟩
   clear c45' pf hi2 hi hz
   rename_i hw0 hw1
   clear hw1
   clear hie
   clear i
   rintro i _ _ hi ⟨rfl,seen,rfl⟩
   have hi2:i<9223372036854775807:=by omega
   have pf:=jj (cJ m.funcs i)
   have hcl:bF (clL (cJ m.funcs i).clauses)≤6000000:=by
    by_cases q:i<m.funcs.length
    ·have:=oK (ltb q)
     have:=iN (cJ m.funcs i)
     omega
    ·have:cJ m.funcs i=fu0:=by
      show(m.funcs[i]?).getD fu0=fu0
      rw [List.getElem?_eq_none (by omega)]
      rfl
     rw [this]
     show bF (clL [])≤_
     rw [clL]
     exact Nat.zero_le _
   have hN:=Ee (m.funcs.take i)
   have hF:=Ef (m.funcs.take i)
   have hT:=qH m.funcs i
   obtain⟨a1,k46,o46⟩:=f46 (cJ m.funcs i).clauses hcl (-1) true (stN (m.funcs.take i)) (stF (m.funcs.take i)) (stL m (m.funcs.take i))
   obtain⟨n',f',l1,k47,o47⟩:=f47W (cJ m.funcs i).clauses hcl (stN (m.funcs.take i)) (stF (m.funcs.take i)) a1 (by omega) (by omega)
   cases l1
   ·skip
    repeat' (first
     |(refine WLg.mk ?_;first
     |refine aa rfl rfl rfl rfl ?_|refine aa rfl rfl (bM Hy) rfl ?_|refine ab rfl rfl (jd Hy) rfl ?_
     |refine ab rfl rfl rfl rfl ?_|refine aA rfl rfl rfl rfl rfl rfl rfl rfl rfl rfl rfl pf rfl rfl ?_
     |refine am rfl rfl rfl (k47) (fun _ _ q=>q) .none rfl ?_)
     |(show WX _ _ _ _ _ _ _ _ _ _;first
     |refine aW rfl rfl rfl ?_|refine aU rfl rfl rfl ?_|refine aG rfl rfl (bM (i:=0) (gF Hy)) rfl ?_
     |refine aG rfl rfl rfl rfl ?_|refine aF rfl rfl (eP (i:=0) (gF Hy) rfl) rfl ?_|refine aF rfl rfl rfl rfl ?_
     |refine aR rfl rfl rfl (k46) .none rfl ?_
     |(fail_if_success refine WX.gt rfl ?_);refine aY rfl rfl rfl (fun ht=>?_) (fun ht=>?_)
     |refine aI (by repeat' (first|exact bD.nil|refine bD.any (fun h=>rfl) ?_|refine bD.first rfl ?_|refine bD.first (jd Hy) ?_|refine bD.snd (jd Hy) ?_|refine bD.any (fun h=>jd Hy) ?_|refine bD.first (eP (i:=0) (gF Hy) rfl) ?_|refine bD.snd (eP (i:=0) (gF Hy) rfl) ?_|refine bD.any (fun h=>eP (i:=0) (gF Hy) rfl) ?_|refine bD.each (.cons rfl .nil) ?_|refine bD.each (.cons rfl (.cons rfl .nil)) ?_|refine bD.each (.cons rfl (.cons rfl (.cons rfl .nil))) ?_)) ?_)
     |refine ah ?_|refine ac rfl ?_|refine ax rfl rfl ?_|refine ay rfl (fun ht=>?_) (fun ht=>?_)
     |refine bz (h':=HB [.int .i64 (Int.ofNat n'),.int .i64 (Int.ofNat f'),.bool (ltI 4000 (cZ .i64 (Int.sub (Int.ofNat n') (Int.ofNat (stN (m.funcs.take i))))))]) ⟨_,rfl,(by repeat' (first|exact bD.nil|refine bD.any (fun h=>rfl) ?_|refine bD.first rfl ?_)),rfl,rfl⟩ ?_
     |refine ai ?_|refine ae ?_|refine aj ?_|refine al ?_|refine aC rfl ?_
     |refine ak rfl (fun ht=>?_) (fun ht=>?_)|refine au ?_|refine ap ?_|refine aJ ?_|refine bE.norm ?_
     |refine bE.ret ?_|refine bE.exit ?_|refine OnC.ret ?_|refine OnC.exit ?_|fail)
    all_goals first
     |exact⟨.inr rfl,_,rfl,.flat rfl,_,rfl,by rw [sT (bK (by assumption:ltI (Int.ofNat i) (Int.ofNat m.funcs.length)=true)) (by clear o46 o47<;>(try simp only [Bool.not_eq_true',Bool.not_eq_false']at*)<;>simp only [okF,j9,Bool.not_true,Bool.not_false,Bool.false_and,Bool.and_false, *])]<;>rfl⟩
     |(have hie:i=m.funcs.length:=by
        have:=ci (by assumption:ltI (Int.ofNat i) (Int.ofNat m.funcs.length)=false)
        omega
       subst hie
       simp only [List.take_length]at*
       exact⟨.inr rfl,_,rfl,.flat rfl,_,rfl,by
        show _=okM m
        rw [ya hA1 hA2 Hy]
        first
         |(rw [(by assumption:stL m m.funcs=true)];rfl)
         |(rw [(by assumption:stL m m.funcs=false),(by assumption:ltI 20000 (Int.ofNat (stN m.funcs))=true)];rfl)
         |(rw [(by assumption:stL m m.funcs=false),(by assumption:ltI 20000 (Int.ofNat (stN m.funcs))=false),(by assumption:ltI 1000 (Int.ofNat (stF m.funcs))=true)];rfl)
         |(rw [(by assumption:stL m m.funcs=false),(by assumption:ltI 20000 (Int.ofNat (stN m.funcs))=false),(by assumption:ltI 1000 (Int.ofNat (stF m.funcs))=false)];rfl)⟩)
     |skip
    refine OnC.norm ?_
    have hlt:=bK (by assumption:ltI (Int.ofNat i) (Int.ofNat m.funcs.length)=true)
    have hok:okF (cJ m.funcs i)=true:=by
     clear o46 o47
     (try simp only [Bool.not_eq_false']at*)
     simp only [okF,j9,Bool.not_false,Bool.and_true, *]
    have e46:=o46 (by
     (try simp only [Bool.not_eq_false']at*)
     assumption)
    obtain⟨q1,q2,q3⟩:=o47 (by
     (try simp only [Bool.not_eq_false']at*)
     assumption)
    refine⟨_,_,D4 (l:=fr29f m (i+1)) (cs:=svC (stN (m.funcs.take (i+1))) (stF (m.funcs.take (i+1))) (stL m (m.funcs.take (i+1)))) rfl rfl rfl (gz ?_ ?_ ?_) (dN _ _ _) KBX (fun id h=>.inl h),hlt,rfl,?_,rfl⟩
    ·show some (V.int .i64 (Int.ofNat n'))=_
     rw [ub hlt,q1]
     rfl
    ·show some (V.int .i64 (Int.ofNat f'))=_
     rw [ud hlt,q2]
     rfl
    ·first|(show some (V.bool (ltI 4000 (cZ .i64 (Int.sub (Int.ofNat n') (Int.ofNat (stN (m.funcs.take i)))))))=some (V.bool (stL m (m.funcs.take (i+1))));rw [uc hlt,fL,←Bool.or_assoc,←Bool.or_assoc,←e46,←q3,q1,yR (by have:=DU (cJ m.funcs i);have:=oK (ltb hlt);show _+fN (cJ m.funcs i)<_;omega)];rfl)
    ·rw [ji hlt,List.all_append,seen,Bool.true_and,List.all_cons,List.all_nil,Bool.and_true]
     exact hok
   ·skip
    repeat' (first
     |(refine WLg.mk ?_;first
     |refine aa rfl rfl rfl rfl ?_|refine aa rfl rfl (bM Hy) rfl ?_|refine ab rfl rfl (jd Hy) rfl ?_
     |refine ab rfl rfl rfl rfl ?_|refine aA rfl rfl rfl rfl rfl rfl rfl rfl rfl rfl rfl pf rfl rfl ?_
     |refine am rfl rfl rfl (k47) (fun _ _ q=>q) .none rfl ?_)
     |(show WX _ _ _ _ _ _ _ _ _ _;first
     |refine aW rfl rfl rfl ?_|refine aU rfl rfl rfl ?_|refine aG rfl rfl (bM (i:=0) (gF Hy)) rfl ?_
     |refine aG rfl rfl rfl rfl ?_|refine aF rfl rfl (eP (i:=0) (gF Hy) rfl) rfl ?_|refine aF rfl rfl rfl rfl ?_
     |refine aR rfl rfl rfl (k46) .none rfl ?_
     |(fail_if_success refine WX.gt rfl ?_);refine aY rfl rfl rfl (fun ht=>?_) (fun ht=>?_)
     |refine aI (by repeat' (first|exact bD.nil|refine bD.any (fun h=>rfl) ?_|refine bD.first rfl ?_|refine bD.first (jd Hy) ?_|refine bD.snd (jd Hy) ?_|refine bD.any (fun h=>jd Hy) ?_|refine bD.first (eP (i:=0) (gF Hy) rfl) ?_|refine bD.snd (eP (i:=0) (gF Hy) rfl) ?_|refine bD.any (fun h=>eP (i:=0) (gF Hy) rfl) ?_|refine bD.each (.cons rfl .nil) ?_|refine bD.each (.cons rfl (.cons rfl .nil)) ?_|refine bD.each (.cons rfl (.cons rfl (.cons rfl .nil))) ?_)) ?_)
     |refine ah ?_|refine ac rfl ?_|refine ax rfl rfl ?_|refine ay rfl (fun ht=>?_) (fun ht=>?_)
     |refine bz (h':=HB [.int .i64 (Int.ofNat n'),.int .i64 (Int.ofNat f'),.bool true]) ⟨_,rfl,(by repeat' (first|exact bD.nil|refine bD.any (fun h=>rfl) ?_|refine bD.first rfl ?_)),rfl,rfl⟩ ?_
     |refine ai ?_|refine ae ?_|refine aj ?_|refine al ?_|refine aC rfl ?_
     |refine ak rfl (fun ht=>?_) (fun ht=>?_)|refine au ?_|refine ap ?_|refine aJ ?_|refine bE.norm ?_
     |refine bE.ret ?_|refine bE.exit ?_|refine OnC.ret ?_|refine OnC.exit ?_|fail)
    all_goals first
     |exact⟨.inr rfl,_,rfl,.flat rfl,_,rfl,by rw [sT (bK (by assumption:ltI (Int.ofNat i) (Int.ofNat m.funcs.length)=true)) (by clear o46 o47<;>(try simp only [Bool.not_eq_true',Bool.not_eq_false']at*)<;>simp only [okF,j9,Bool.not_true,Bool.not_false,Bool.false_and,Bool.and_false, *])]<;>rfl⟩
     |(have hie:i=m.funcs.length:=by
        have:=ci (by assumption:ltI (Int.ofNat i) (Int.ofNat m.funcs.length)=false)
        omega
       subst hie
       simp only [List.take_length]at*
       exact⟨.inr rfl,_,rfl,.flat rfl,_,rfl,by
        show _=okM m
        rw [ya hA1 hA2 Hy]
        first
         |(rw [(by assumption:stL m m.funcs=true)];rfl)
         |(rw [(by assumption:stL m m.funcs=false),(by assumption:ltI 20000 (Int.ofNat (stN m.funcs))=true)];rfl)
         |(rw [(by assumption:stL m m.funcs=false),(by assumption:ltI 20000 (Int.ofNat (stN m.funcs))=false),(by assumption:ltI 1000 (Int.ofNat (stF m.funcs))=true)];rfl)
         |(rw [(by assumption:stL m m.funcs=false),(by assumption:ltI 20000 (Int.ofNat (stN m.funcs))=false),(by assumption:ltI 1000 (Int.ofNat (stF m.funcs))=false)];rfl)⟩)
     |skip
    refine OnC.norm ?_
    have hlt:=bK (by assumption:ltI (Int.ofNat i) (Int.ofNat m.funcs.length)=true)
    have hok:okF (cJ m.funcs i)=true:=by
     clear o46 o47
     (try simp only [Bool.not_eq_false']at*)
     simp only [okF,j9,Bool.not_false,Bool.and_true, *]
    have e46:=o46 (by
     (try simp only [Bool.not_eq_false']at*)
     assumption)
    obtain⟨q1,q2,q3⟩:=o47 (by
     (try simp only [Bool.not_eq_false']at*)
     assumption)
    refine⟨_,_,D4 (l:=fr29f m (i+1)) (cs:=svC (stN (m.funcs.take (i+1))) (stF (m.funcs.take (i+1))) (stL m (m.funcs.take (i+1)))) rfl rfl rfl (gz ?_ ?_ ?_) (dN _ _ _) KBX (fun id h=>.inl h),hlt,rfl,?_,rfl⟩
    ·show some (V.int .i64 (Int.ofNat n'))=_
     rw [ub hlt,q1]
     rfl
    ·show some (V.int .i64 (Int.ofNat f'))=_
     rw [ud hlt,q2]
     rfl
    ·first|(show some (V.bool true)=some (V.bool (stL m (m.funcs.take (i+1))));rw [uc hlt,fL,←Bool.or_assoc,←Bool.or_assoc,←e46,←q3];rfl)
    ·rw [ji hlt,List.all_append,seen,Bool.true_and,List.all_cons,List.all_nil,Bool.and_true]
     exact hok)
 exact⟨r,c,ok⟩
end
section
def At(cs:List V)(tr:Tr V):Prop:=∀j v,cs[j]? =some v→tr.get j=some v
inductive GL(es:Nat)(h:H):V→List V→Prop
 |none0:GL es h .nils []
 |full {b n:Nat} {tr:Tr V} {up:Option (Nat×Nat)} {ch:Bool} {cs:List V} (hb:h.blk b=some (.cells (n*es) tr up ch)) (hc:ch=false) (hn:0<n) (hl:cs.length=n*es) (at_:At cs tr) (lt:b<h.next):GL es h (.sl b 0 n 0 false es) cs
theorem fE{h:H}{id j:Nat}{x:Option Blk}{n:Nat}(hid:id<bP):(⟨h.t.put id x,n⟩:H).blk j=if j=id then x else h.blk j:=Tr.get_put h.t id j x hid
theorem dq{h:H}{id j n m:Nat}{tr:Tr V}{up:Option (Nat×Nat)}{ch:Bool}{v:V}(hb:h.blk id=some (.cells n tr up ch))(hv:tr.get j=some v)(hj:j<n):ROp.run (.load false m) [.ptr id j] h=some v:=by
 show ob (H.rd h id j 1) _=_
 have:H.rd h id j 1=some [v]:=by
  show ob (ob (h.blk id) _) _=_
  rw [hb]
  show oif (Nat.blt j n) (ob (tr.get j) _)=_
  rw [hv,ltb hj]
  rfl
 rw [this]
 rfl
theorem lD{h:H}{id j n:Nat}{tr:Tr V}{v:V}(hb:h.blk id=some (.cells n tr none false))(hx:cellsOf v=[v])(ho:cD v=true)(hj:j<n):EOp.run (.store 1) [.ptr id j,v] h=some (cF,⟨h.t.put id (some (.cells n (tr.put j (some v)) none false)),h.next⟩):=by
 show oif (Nat.beq (bU (cellsOf v)) 1) (ob (H.wr id (cellsOf v) j h) fun h=>some (cF,h))=_
 rw [hx]
 show oif true (ob (ob (h.wr1 id j v) fun h=>some h) fun h=>some (cF,h))=_
 have e1:h.wr1 id j v=some ⟨h.t.put id (some (.cells n (tr.put j (some v)) none false)),h.next⟩:=by
  show ob (h.blk id) _=_
  rw [hb]
  show oif (!false) (oif (Nat.blt j n) (oif (cD v) (ob (my 64 none j h) _)))=_
  rw [ltb hj,ho]
  rfl
 rw [e1]
 rfl
theorem GL.appendX{es bytes m:Nat}{h:H}{v x:V}{cs xs:List V}(g:GL es h v cs)(hsrc:iq es none x h=some (m,xs))(hm:0<m)(hx:xs.length=m*es)(ho:cK xs=true)(hk:h.next+1<bP)(hcs:cs.length+xs.length<1000000000)(hby:∀n,cs.length=n*es→(n+m)*bytes<1099511627776)(hes:0<es):
  ∃n h',EOp.run (.append es bytes none) [v,x] h=some (.sl h.next 0 n 0 false es,h')∧GL es h' (.sl h.next 0 n 0 false es) (cs++xs)∧h'.next=h.next+1∧(∀id,id<h.next→(∀b n,v= .sl b 0 n 0 false es→id≠b)→h'.blk id=h.blk id):=by
 have hkk:1000000000<bP:=by unfold bP;omega
 cases g with
 |none0=>
  have hml:Nat.beq m 0=false:=by
   cases q:Nat.beq m 0 with
   |false=>rfl
   |true=>have:=Nat.eq_of_beq_eq_true q;omega
  have hb1:Nat.blt (Nat.mul m bytes) 1099511627776=true:=ltb (by have:=hby 0 (by simp);rw [Nat.zero_add]at this;exact this)
  refine⟨m,⟨h.t.put h.next (some (.cells xs.length (cE xs 0 .e) none false)),h.next+1⟩,?_,?_,rfl,fun id hid _=>?_⟩
  ·show ob (iq es none x h) _=_
   rw [hsrc]
   show(Bool.rec (motive:=fun _=>Option (V×H)) (oif (Nat.blt (Nat.mul m bytes) 1099511627776) (ob (h.newCells xs none) fun h'=>some (V.sl h.next 0 m 0 false es,h'))) (some (V.nils,h)) (Nat.beq m 0))=_
   rw [hml,hb1]
   have:h.newCells xs none=some ⟨h.t.put h.next (some (.cells xs.length (cE xs 0 .e) none false)),h.next+1⟩:=by
    show oif (cK xs) (oif (Nat.blt (bU xs) bP) (oif (Nat.blt h.next bP) _))=_
    rw [ho,@bS noE,ltb (by omega),ltb (by omega)]
    rfl
   rw [this]
   rfl
  ·rw [List.nil_append]
   refine .full (tr:=cE xs 0 .e) (up:=none) (ch:=false) (by rw [fE (by omega),if_pos rfl,hx]) rfl hm hx (fun j v e=>?_) (by show h.next<h.next+1;omega)
   have hj:=(List.getElem?_eq_some_iff.1 e).1
   rw [@cW noE xs 0 .e j (by omega),if_pos (by omega),Nat.sub_zero]
   exact e
  ·rw [fE (by omega),if_neg (by omega)]
 |@full b n tr up ch cs hb hc hn hl at_ lt=>
  subst hc
  rw [hl]at hcs
  have hb1:Nat.blt (Nat.mul (Nat.add n m) bytes) 1099511627776=true:=ltb (hby n hl)
  have hle:Nat.ble (Nat.add n m) (Nat.div (Nat.sub (n*es) 0) es)=false:=by
   rw [show Nat.sub (n*es) 0=n*es from Nat.sub_zero _,show Nat.div (n*es) es=n from Nat.mul_div_cancel _ hes]
   cases q:Nat.ble (Nat.add n m) n with
   |false=>rfl
   |true=>have:=Nat.le_of_ble_eq_true q;have:n+m≤n:=this;omega
  have hq:(Nat.beq (n*es) (Nat.mul n es)&&Nat.beq 0 0)=true:=by
   rw [show Nat.mul n es=n*es from rfl,Nat.beq_refl]
   rfl
  have hmul:(n+m)*es=n*es+xs.length:=by rw [Nat.add_mul,hx]
  have hbe:b≠h.next:=by omega
  refine⟨n+m,⟨(h.t.put b (some (.cells (n*es) tr up true))).put h.next (some (.cells (n*es+xs.length) (cE xs (n*es) tr) (some (b,0)) false)),h.next+1⟩,?_,?_,rfl,fun id hid hnb=>?_⟩
  ·show ob (iq es none x h) _=_
   rw [hsrc]
   show oif (Nat.beq es es) (ob (H.cells h b) _)=_
   have hcl:H.cells h b=some (n*es,tr):=by
    show ob (h.blk b) _=_
    rw [hb]
    rfl
   rw [Nat.beq_refl,hcl]
   show(Bool.rec (motive:=fun _=>Option (V×H))
      (oif (Nat.beq (n*es) (Nat.mul n es)&&Nat.beq 0 0) (oif (Nat.blt (Nat.mul (Nat.add n m) bytes) 1099511627776)
       (ob (h.adopt b) fun h=>ob (h.shareNew b 0 (n*es) tr xs) fun h'=>some (V.sl h.next 0 (Nat.add n m) 0 false es,h'))))
      _ (Nat.ble (Nat.add n m) (Nat.div (Nat.sub (n*es) 0) es)):Option (V×H))=_
   rw [hle,hq,hb1]
   have had:h.adopt b=some ⟨h.t.put b (some (.cells (n*es) tr up true)),h.next⟩:=by
    show ob (h.blk b) _=_
    rw [hb]
    rfl
   rw [had]
   show ob (oif (cK xs) (oif (Nat.blt (Nat.add (n*es) (bU xs)) bP) (oif (Nat.blt h.next bP) _))) _=_
   rw [ho,@bS noE,show Nat.blt (Nat.add (n*es) xs.length) bP=true from ltb (show n*es+xs.length<bP by omega),show Nat.blt h.next bP=true from ltb (by omega)]
   rfl
  ·refine .full (tr:=cE xs (n*es) tr) (up:=some (b,0)) (ch:=false) (by show Tr.get _ _=_;rw [Tr.get_put _ _ _ _ (by omega),if_pos rfl,hmul]) rfl (by omega) (by rw [List.length_append,hl,hmul]) (fun j v e=>?_) (by show h.next<h.next+1;omega)
   have hj:=(List.getElem?_eq_some_iff.1 e).1
   rw [List.length_append,hl]at hj
   rw [@cW noE xs _ _ j (by omega)]
   by_cases q:j<cs.length
   ·rw [if_neg (by omega)]
    rw [List.getElem?_append_left q]at e
    exact at_ j v e
   ·rw [if_pos (by omega)]
    rw [List.getElem?_append_right (by omega),hl]at e
    exact e
  ·show Tr.get _ _=_
   rw [Tr.get_put _ _ _ _ (by omega),if_neg (by omega),Tr.get_put _ _ _ _ (by omega),if_neg (hnb b n rfl)]
   rfl
theorem GL.appendG{es bytes m:Nat}{h:H}{v x:V}{cs xs:List V}(g:GL es h v cs)(hsrc:iq es none x h=some (m,xs))(hm:0<m)(hx:xs.length=m*es)(ho:cK xs=true)(hk:h.next+1<bP)(hcs:cs.length+xs.length<1000000000)(hby:∀n,cs.length=n*es→(n+m)*bytes<1099511627776)(hes:0<es):
  ∃v' h',EOp.run (.append es bytes none) [v,x] h=some (v',h')∧GL es h' v' (cs++xs)∧h'.next=h.next+1∧(∀id,id<h.next→(∀b n,v= .sl b 0 n 0 false es→id≠b)→h'.blk id=h.blk id):=by
 obtain⟨n,h',k⟩:=g.appendX hsrc hm hx ho hk hcs hby hes
 exact⟨_,h',k⟩
theorem GL.append{es bytes m:Nat}{h:H}{v:V}{cs xs:List V}(g:GL es h v cs)(hm:0<m)(hx:xs.length=m*es)(ho:cK xs=true)(hk:h.next+1<bP)(hcs:cs.length+xs.length<1000000000)(hby:∀n,cs.length=n*es→(n+m)*bytes<1099511627776)(hes:0<es):
  ∃v' h',EOp.run (.append es bytes none) [v,.lst m es xs] h=some (v',h')∧GL es h' v' (cs++xs)∧h'.next=h.next+1∧(∀id,id<h.next→(∀b n,v= .sl b 0 n 0 false es→id≠b)→h'.blk id=h.blk id):=
 g.appendG (by
  show oif (Nat.beq es es) _=_
  rw [Nat.beq_refl]
  rfl) hm hx ho hk hcs hby hes
end
end Ev
end Go.Proofs.YtdfphfdnoobikaaGreatDoor
