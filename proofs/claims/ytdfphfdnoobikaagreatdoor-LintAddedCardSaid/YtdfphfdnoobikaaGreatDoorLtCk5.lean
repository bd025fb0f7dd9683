/-
  The checker:expressions.
-/
import Derived.Test.YtdfphfdnoobikaaGreatDoorLtCk2
import Derived.Shelf.SlIter.Collect
import Derived.RangeFuncStops
import Derived.Maps.RangeRun
namespace Go.Proofs.YtdfphfdnoobikaaGreatDoor
namespace Ev
section
noncomputable section
def leS:List UInt8->List UInt8->Bool:=λa b=>decide (a<=b)
def gJ(s:Sc):List V:=((s.map λq=>q.1.data.toList).mergeSort leS).map td
def lU(x:Ex)(ss:List V):Int:=by
 classical exact if h:∃cs,nU cs/\CP 160 [.agg (exO x),.lst ss.length 1 ss] (.lst cs.length 1 cs)then Int.ofNat h.choose.length else 0
def FL(y:Cl):Sc:=bZ (λi s=>gK B6 (bW y.pats i) s) [] y.pats.length
def jf(s own:Sc):Sc:=s.filter λq=>!own.any λr=>decide (r.1=q.1)
def xj(E:XF)(p:Pl)(n:Int)(y:Cl)(sc:Sc)(fl:List Fl):List Fl:=
 qS E p y (jf sc (FL y)) (if eqI (Int.ofNat y.pats.length) n then fl else fl++[flw p 12 eB (Int.ofNat y.pats.length)])
def Ck(E:XF)(p:Pl)(x:Ex)(sc:Sc)(fl:List Fl):List Fl:=
 bZ (λi fl=>xj E p (Int.ofNat (bM x.clauses 0).pats.length) (bM x.clauses i) sc fl) (if ltI 200 (lU x (gJ sc))then fl++[flw p 13 eB (lU x (gJ sc))]else fl) x.clauses.length
def iM(D:Df)(E:XF)(p:Pl)(x:Ex)(sc:Sc)(fl:List Fl):List Fl:=
 if eqI x.kind 3 then wE p x sc fl else if eqI x.kind 4 then fl++[flw p 8 eB 0]else if eqI x.kind 8 then zn E p x.segs sc fl else if eqI x.kind 10 then zj D E p x sc fl
 else if eqI x.kind 13 then Ck E p x sc fl else if eqI x.kind 15 then kj E p x.body sc fl else if eqI x.kind 16 then rp E p x.clauses sc (lW E p x.items sc fl)
 else if eqI x.kind 17 then kj E p x.after sc (lW E p x.items sc (rp E p x.clauses sc fl))
 else if eqI x.kind 18 then kj E p x.after sc (rp E p x.catches sc (rp E p x.clauses sc (kj E p x.body sc fl)))else lW E p x.items sc fl
def lX(D:Df):Nat->XF
 |0=>λ_ _ _ fl=>fl
 |n+1=>iM D (lX D n)
def fnC(f:FuncId):V:= .func (.func f) [] []
def Eo:List (V×V):=[(.int .i64 3,fnC 102),(.int .i64 4,fnC 145),(.int .i64 8,fnC 146),(.int .i64 10,fnC 147),(.int .i64 13,fnC 148),(.int .i64 15,fnC 149),(.int .i64 16,fnC 150),(.int .i64 17,fnC 151),(.int .i64 18,fnC 152)]
def orR(b:Bool)(f:FuncId)(r:Option V):Option V:=Bool.rec (motive:=λ_=>Option V) r (some (fnC f)) b
def nJ(z:Int):Option V:=orR (eqI z 3) 102 (orR (eqI z 4) 145 (orR (eqI z 8) 146 (orR (eqI z 10) 147 (orR (eqI z 13) 148 (orR (eqI z 15) 149 (orR (eqI z 16) 150 (orR (eqI z 17) 151 (orR (eqI z 18) 152 none))))))))
end
theorem gQ{h:H}{z n:Int}{f:FuncId}{l:List (V×V)}{r:Option V}(k:dY h (.one .i) (.int .i64 z) l=some r):dY h (.one .i) (.int .i64 z) ((.int .i64 n,fnC f) ::l)=some (orR (eqI z n) f r):=by
 show(Bool.rec (motive:=λ_=>Option (Option V)) (dY h (.one .i) (.int .i64 z) l) (some (some (fnC f))) (eqI z n):Option (Option V))=_;cases eqI z n with
 |true=>rfl
 |false=>exact k
theorem wb{z:Int}{h1:H}{k:Nat}(b:h1.blk k=some (.map Eo true)):ROp.run (.lookup (.one .i) true .nilf) [.map k,.int .i64 z] h1=some (gU true .nilf (nJ z)):=by
 show oif true (ob (ob (h1.blk k) _) _)=_;rw [b];show ob (dY h1 (.one .i) (.int .i64 z) Eo) _=_;rw [show dY h1 (.one .i) (.int .i64 z) Eo=some (nJ z)from gQ (gQ (gQ (gQ (gQ (gQ (gQ (gQ (gQ rfl))))))))];rfl
theorem gT{h0 h1:H}{k:Nat}{es es':List (V×V)}{o:Bool}{kk:Kk}{key v:V}(b:h1.blk k=some (.map es o))(old:∀j,j≠k->h1.blk j=h0.blk j)(hp:mh h1 kk key v es=some es')(hs:eV kk key=true)(hk:k<bR):∃h2,EOp.run (.mapup kk) [.map k,key,v] h1=some (cG,h2)/\h2.next=h1.next/\h2.blk k=some (.map es' o)/\∀j,j≠k->h2.blk j=h0.blk j:=by
 have ho:h1.ord k=o:=by unfold H.ord;rw [b]
 have bl:∀j,(⟨h1.t.put k (some (.map es' (h1.ord k))),h1.next⟩:H).blk j=if j=k then some (.map es' (h1.ord k))else h1.blk j:=λj=>fy hk
 refine⟨⟨h1.t.put k (some (.map es' (h1.ord k))),h1.next⟩,?_,rfl,by rw [bl,if_pos rfl,ho],λj hj=>by rw [bl,if_neg hj];exact old j hj⟩;show oif (eV kk key) (ob (ob (h1.blk k) _) _)=_;rw [hs,b];show ob (mh h1 kk key v es) _=_;rw [hp];rfl
section
variable {D:Df} {E:XF} {t:Nat} {p:Pl} {fl:List Fl} {k:Nat} {sc:Sc} {h:H} {x:Ex}
theorem f128(c:CS D p fl h)(hk:h.next<300000000):∃h',CN 128 [] h (.map h.next) h'/\Gf D p fl h h' 1/\h'.blk h.next=some (.map Eo true)/\h'.next=h.next+1:=by
 have hkeys:900000002<bR:=by unfold bR;omega
 obtain⟨h0,e0⟩:∃h0:H,h0=⟨h.t.put h.next (some (.map [] true)),Nat.succ h.next⟩:=⟨_,rfl⟩
 have bl:∀j,h0.blk j=if j=h.next then some (.map [] true)else h.blk j:=λj=>by rw [e0];exact fy (by omega)
 have n0:h0.next=h.next+1:=by rw [e0]
 obtain⟨h1,u1,n1,b1,o1⟩:=gT (h0:=h0) (h1:=h0) (k:=h.next) (es:=[]) (o:=true) (kk:= .one .i) (key:= .int .i64 3) (v:=fnC 102) (by rw [bl,if_pos rfl]) (λ_ _=>rfl) rfl rfl (by omega);obtain⟨h2,u2,n2,b2,o2⟩:=gT (h0:=h0) (kk:= .one .i) (key:= .int .i64 4) (v:=fnC 145) b1 o1 rfl rfl (by omega);obtain⟨h3,u3,n3,b3,o3⟩:=gT (h0:=h0) (kk:= .one .i) (key:= .int .i64 8) (v:=fnC 146) b2 o2 rfl rfl (by omega);obtain⟨h4,u4,n4,b4,o4⟩:=gT (h0:=h0) (kk:= .one .i) (key:= .int .i64 10) (v:=fnC 147) b3 o3 rfl rfl (by omega);obtain⟨h5,u5,n5,b5,o5⟩:=gT (h0:=h0) (kk:= .one .i) (key:= .int .i64 13) (v:=fnC 148) b4 o4 rfl rfl (by omega);obtain⟨h6,u6,n6,b6,o6⟩:=gT (h0:=h0) (kk:= .one .i) (key:= .int .i64 15) (v:=fnC 149) b5 o5 rfl rfl (by omega);obtain⟨h7,u7,n7,b7,o7⟩:=gT (h0:=h0) (kk:= .one .i) (key:= .int .i64 16) (v:=fnC 150) b6 o6 rfl rfl (by omega);obtain⟨h8,u8,n8,b8,o8⟩:=gT (h0:=h0) (kk:= .one .i) (key:= .int .i64 17) (v:=fnC 151) b7 o7 rfl rfl (by omega);obtain⟨h9,u9,n9,b9,o9⟩:=gT (h0:=h0) (kk:= .one .i) (key:= .int .i64 18) (v:=fnC 152) b8 o8 rfl rfl (by omega);have nx:h9.next=h.next+1:=by omega
 have old:∀j,j<h.next->h9.blk j=h.blk j:=λj hj=>by rw [o9 j (by omega),bl,if_neg (by omega)]
 have g:Gf D p fl h h9 1:=⟨c.mono (by omega) λj hj _=>old j hj,KMx.k0 ⟨by omega,λj es o hj _ e=>by rw [old j hj];exact e⟩,by omega⟩
 subst e0;refine cP Tryz.func128 (by decide) H3.2 rfl rfl (cR c.le) ?_
 repeat' (first
  |(refine WLg.mk ?_;first
  |refine aa rfl rfl rfl rfl ?_|refine aF (t:=h.t) (k:=h.next) rfl rfl rfl (cW (by omega)) rfl ?_|refine aE rfl rfl u1 rfl ?_|refine aE rfl rfl u2 rfl ?_|refine aE rfl rfl u3 rfl ?_|refine aE rfl rfl u4 rfl ?_|refine aE rfl rfl u5 rfl ?_|refine aE rfl rfl u6 rfl ?_|refine aE rfl rfl u7 rfl ?_|refine aE rfl rfl u8 rfl ?_|refine aE rfl rfl u9 rfl ?_)|apply ac|refine ae rfl ?_|apply ai|apply ah|apply ap|apply bG.norm|fail)
 exact⟨.inr rfl,_,rfl,g.km.le,rfl,g,b9,nx⟩
theorem f104h{fn:FuncId}{fl':List Fl}{n:Nat}(c:CS D p fl h)(so:Sco h k sc)(hk:h.next+1<300000000)(e:nJ x.kind=some (fnC fn))(q:∀h1,CS D p fl h1->Sco h1 k sc->h1.next=h.next+1->∃h2,CN fn [.ptr 2 0,.agg (exO x),.map k] h1 (.tup []) h2/\Gf D p fl' h1 h2 n):∃h',CN 104 [.ptr 2 0,.agg (exO x),.map k] h (.tup []) h'/\Gf D p fl' h h' (1+n):=by
 obtain⟨h1,c1,g1,b1,n1⟩:=f128 c (by omega);obtain⟨h2,c2,g2⟩:=q h1 g1.cs (so.km0 g1.km) n1;have lk:=wb (z:=x.kind) b1;rw [e]at lk;have r:=g1.trans g2;refine cP Tryz.func104 (by decide) GO.2 rfl rfl (cR c.le) ?_
 repeat' (first
  |(refine WLg.mk ?_;first
  |refine aa rfl rfl rfl rfl ?_|refine ab rfl rfl rfl rfl ?_|refine aA rfl rfl RA rfl PB rfl ?_|refine au rfl rfl rfl (c2) (λ_ _ q=>q) .none rfl ?_)
  |(show WX _ _ _ _ _ _ _ _ _ _;first
  |refine aI rfl rfl rfl rfl ?_|refine aG rfl rfl (lk) rfl ?_|refine aG rfl rfl rfl rfl ?_|refine aR rfl rfl rfl (c1) .none rfl ?_|refine aJ (by repeat' (first|exact bF.nil|refine bF.any (λh=>rfl) ?_|refine bF.first rfl ?_|refine bF.first (lk) ?_|refine bF.snd (lk) ?_|refine bF.any (λh=>lk) ?_|refine bF.each (.cons rfl .nil) ?_|refine bF.each (.cons rfl (.cons rfl .nil)) ?_|refine bF.each (.cons rfl (.cons rfl (.cons rfl .nil))) ?_)) ?_)|apply ac|refine ae rfl ?_|apply ai|apply ah|refine aD rfl ?_|apply ap|refine aK ?_|apply bG.norm|apply bG.ret|fail)
 all_goals exact⟨.inr rfl,_,rfl,r.km.le,rfl,r⟩
theorem f104m(X:EX D E t)(hx:bH (exO x)<t+1)(ht6:t<=6000000)(c:CS D p fl h)(so:Sco h k sc)(hz:szS sc+bH (exO x)<=6000000)(hk:h.next+40*bH (exO x)<300000000)(e:nJ x.kind=none):∃h',CN 104 [.ptr 2 0,.agg (exO x),.map k] h (.tup []) h'/\Gf D p (lW E p x.items sc fl) h h' (40*bH (exO x)):=by
 have hsz:=dM x;obtain⟨h1,c1,g1,b1,n1⟩:=f128 c (by omega);obtain⟨h2,c2,g2⟩:=f129 X (l:=x.items) (by omega) (by omega) g1.cs (so.km0 g1.km) (by omega) (by omega);have lk:=wb (z:=x.kind) b1;rw [e]at lk;have r:=(g1.trans g2).up (m:=40*bH (exO x)) (by omega);refine cP Tryz.func104 (by decide) GO.2 rfl rfl (cR c.le) ?_
 repeat' (first
  |(refine WLg.mk ?_;first
  |refine aa rfl rfl rfl rfl ?_|refine ab rfl rfl rfl rfl ?_|refine aA rfl rfl RA rfl PB rfl ?_|refine au rfl rfl rfl (c2) (λ_ _ q=>q) .none rfl ?_)
  |(show WX _ _ _ _ _ _ _ _ _ _;first
  |refine aI rfl rfl rfl rfl ?_|refine aG rfl rfl (lk) rfl ?_|refine aG rfl rfl rfl rfl ?_|refine aR rfl rfl rfl (c1) .none rfl ?_|refine aJ (by repeat' (first|exact bF.nil|refine bF.any (λh=>rfl) ?_|refine bF.first rfl ?_|refine bF.first (lk) ?_|refine bF.snd (lk) ?_|refine bF.any (λh=>lk) ?_|refine bF.each (.cons rfl .nil) ?_|refine bF.each (.cons rfl (.cons rfl .nil)) ?_|refine bF.each (.cons rfl (.cons rfl (.cons rfl .nil))) ?_)) ?_)|apply ac|refine ae rfl ?_|apply ai|apply ah|apply al|refine aB rfl ?_|refine aK ?_|apply bG.norm|fail)
 all_goals exact⟨.inl rfl,_,rfl,r.km.le,rfl,r⟩
end
def FN(D:Df)(E:XF)(t:Nat):Prop:=∀x,bH (exO x)<t+1->∀{p:Pl} {fl:List Fl} {k:Nat} {sc:Sc} {h:H},CS D p fl h->Sco h k sc->szS sc+bH (exO x)<=6000000->h.next+40*bH (exO x)<300000001->∃h',CN 148 [.ptr 2 0,.agg (exO x),.map k] h (.tup []) h'/\Gf D p (Ck E p x sc fl) h h' (40*bH (exO x)-100)
theorem xF{D:Df}{E:XF}{t:Nat}(ht6:t<=6000000)(X:EX D E t)(Y:FN D E t):EX D (iM D E) (t+1):=by
 intro x hx p fl k sc h c so hz hk;have hsz:=iK x;have up:∀{fl':List Fl} {n:Nat},1+n<=40*bH (exO x)->(∃h',CN 104 [.ptr 2 0,.agg (exO x),.map k] h (.tup []) h'/\Gf D p fl' h h' (1+n))->iM D E p x sc fl=fl'->∃h',CN 104 [.ptr 2 0,.agg (exO x),.map k] h (.tup []) h'/\Gf D p (iM D E p x sc fl) h h' (40*bH (exO x)):=λhn q e=>by
  obtain⟨h',c1,g1⟩:=q;exact⟨h',c1,(g1.up hn).eq e⟩
 cases e3:eqI x.kind 3 with
 |true=>exact up (n:=2) (by omega) (f104h c so (by omega) (by rw [nJ,e3];rfl) λh1 c1 s1 n1=>f102 c1 s1 (by omega) x) (by simp [iM, *])
 |false=>
 cases e4:eqI x.kind 4 with
 |true=>exact up (n:=2) (by omega) (f104h c so (by omega) (by rw [nJ,e3,e4];rfl) λh1 c1 s1 n1=>f145 c1 (by omega)) (by simp [iM, *])
 |false=>
 cases e8:eqI x.kind 8 with
 |true=>exact up (n:=40*bH (exO x)-100) (by omega) (f104h c so (by omega) (by rw [nJ,e3,e4,e8];rfl) λh1 c1 s1 n1=>f146 X hx (by omega) c1 s1 hz (by omega)) (by simp [iM, *])
 |false=>
 cases e10:eqI x.kind 10 with
 |true=>exact up (n:=40*bH (exO x)-100) (by omega) (f104h c so (by omega) (by rw [nJ,e3,e4,e8,e10];rfl) λh1 c1 s1 n1=>f147 X hx ht6 c1 s1 hz (by omega)) (by simp [iM, *])
 |false=>
 cases e13:eqI x.kind 13 with
 |true=>exact up (n:=40*bH (exO x)-100) (by omega) (f104h c so (by omega) (by rw [nJ,e3,e4,e8,e10,e13];rfl) λh1 c1 s1 n1=>Y x hx c1 s1 hz (by omega)) (by simp [iM, *])
 |false=>
 cases e15:eqI x.kind 15 with
 |true=>exact up (n:=40*bH (exO x)-100) (by omega) (f104h c so (by omega) (by rw [nJ,e3,e4,e8,e10,e13,e15];rfl) λh1 c1 s1 n1=>f149 X hx ht6 c1 s1 hz (by omega)) (by simp [iM, *])
 |false=>
 cases e16:eqI x.kind 16 with
 |true=>exact up (n:=40*bH (exO x)-100) (by omega) (f104h c so (by omega) (by rw [nJ,e3,e4,e8,e10,e13,e15,e16];rfl) λh1 c1 s1 n1=>f150 X hx ht6 c1 s1 hz (by omega)) (by simp [iM, *])
 |false=>
 cases e17:eqI x.kind 17 with
 |true=>exact up (n:=40*bH (exO x)-100) (by omega) (f104h c so (by omega) (by rw [nJ,e3,e4,e8,e10,e13,e15,e16,e17];rfl) λh1 c1 s1 n1=>f151 X hx ht6 c1 s1 hz (by omega)) (by simp [iM, *])
 |false=>
 cases e18:eqI x.kind 18 with
 |true=>exact up (n:=40*bH (exO x)-100) (by omega) (f104h c so (by omega) (by rw [nJ,e3,e4,e8,e10,e13,e15,e16,e17,e18];rfl) λh1 c1 s1 n1=>f152 X hx ht6 c1 s1 hz (by omega)) (by simp [iM, *])
 |false=>
  obtain⟨h',c1,g1⟩:=f104m X hx ht6 c so hz hk (by rw [nJ,e3,e4,e8,e10,e13,e15,e16,e17,e18];rfl);exact⟨h',c1,g1.eq (by simp [iM, *])⟩
end
section
open Go.RowKit Go.Maps Go.Sort Go.Shelf Go.Lib
set_option maxRecDepth 100000 in
set_option maxHeartbeats 4000000 in
theorem Ab{P:Program}{ρ:Ren}(L:SlLaysZ.n10 P ρ){H:Type}(F:Fence)(n:Nat)(h10:F.fn (ρ.f 10))(hro:F.round=none)(hn:1<=n)(l Bm off b nn:Nat)(D0:DataW H){R:Value->Option (DataW H×List MemPlace)}(J Jx:List (List UInt8)->World->Prop)
  (hY:∀pre x W,J pre W->pre.length<Maps.size D0->YieldAt F (n-1) P l #[encStr x] W λe W'=>
   (e= .returned (.bool true)/\J (pre++[x]) W'/\KeepsWalks W W')\/(e= .returned (.bool false)/\Jx (pre++[x]) W'))
  (W:World) (hJ:AbidesFrom W.heap.size J) (hm:W.cell? ⟨Bm,off,none⟩=some (.map (some b))) (hown:W.ownsMap P (ρ.t 26) R b nn D0) (h0:J [] W):
  CallsIn F n P (ρ.f 10) #[.func (.yield l) #[] #[],.pointer (some ⟨Bm,off,none⟩)] W λe W'=>(∃v,e= .returned v)/\
   ((∃ss:List (List UInt8),(ss.Perm (strKeys D0)/\∀x,x∈ss↔has D0 (.string x)=true)/\J ss W')\/(∃pre:List (List UInt8),(pre.Nodup/\∀x∈pre,has D0 (.string x)=true)/\Jx pre W')):=by
 have mixed:=L.mixed;have t0:=L.t0;have a0:=L.a0;have z0:=L.z0;have v0:=L.v0;have t4:=L.t4;have a4:=L.a4;have z4:=L.z4;have v4:=L.v4;have t23:=L.t23;have a23:=L.a23;have z23:=L.z23;have v23:=L.v23;have t26:=L.t26;have a26:=L.a26;have z26:=L.z26;have v26:=L.v26;have t33:=L.t33;have a33:=L.a33;have z33:=L.z33;have v33:=L.v33;have u0:=run_underlying L.t0;have u4:=run_underlying L.t4;have u23:=run_underlying L.t23;have u26:=run_underlying L.t26;have u33:=run_underlying L.t33;obtain⟨_,_,FG⟩:=L.f10;refine callsIn_of_wp FG rfl h10 ?_ hro;simp only [SlBodyZ.n10_ntmps ρ,List.size_toArray,List.length_cons,List.length_nil,Nat.reduceAdd,Nat.reduceSub,Array.replicate_succ,Array.replicate_zero,List.push_toArray,List.append_toArray,List.nil_append,List.cons_append]
 gi_wp2_with (first
  |(gi_at_range;refine wpListIn_range_own _ rfl _ (ρ.t 23) rfl (ρ.t 26) (ρ.t 3) (string_keyed L.t26) L.t23 _ b nn _ rfl hown ?_;intro w0 hrg0 hg0 hs0)
  |gi_in)
 go_frame
 gi_loopw [3] (λ_ wr=>∃(left:Lit->Bool) (cnt:Nat) (ss:List (List UInt8)),wr.ranges P (ρ.t 26) R b W.heap.size nn D0 left cnt/\ss.length+cnt<=Maps.size D0/\Collected D0 left ss/\J ss wr)
  (λ_ wr=>wr.rangeLeft b W.heap.size)
 case atStart=>
  exact⟨_,_,[],hrg0,by simp,Collected.start D0,hJ [] W w0 none h0 hg0 (λr e=>by cases e)⟩
 case round=>
  obtain⟨left,cnt,ss,hrg,hcs,hC,hJs⟩:=hrel
  gi_wp2_with (first
   |(gi_at_next;refine wpListIn_next_ranges _ rfl _ rfl (ρ.t 26) (string_keyed L.t26) R encStr id (λkey kl hk=>by obtain⟨x,hx,_⟩:=Maps.keyOf_str L.t26 hk;exact⟨x,hx⟩) (λv _ _=>⟨v,rfl⟩) b W.heap.size nn _ _ _ rfl hrg ?_ ?_)
   |gi_in)
  ·
   intro hc0 hl0
   gi_wp2
   go_end0
   exact⟨⟨_,rfl⟩,.inl ⟨ss,⟨hC.perm hown (string_keyed L.t26) L.t26 hl0,λx=>by rw [hC.2 x,hl0];simp⟩,hJs⟩⟩
  ·
   intro x c kl yd yp w2 cnt2 hkey hlk hv hat hrg2 hlt hg2 hs2 hen;obtain⟨x',ex,rfl,_⟩:=Maps.keyOf_str L.t26 hkey;obtain rfl:x=x':=encStr_inj ex;have hJ2:J ss w2:=hJ ss wr w2 (some W.heap.size) hJs hg2 (λr e=>by cases e;exact⟨Nat.le_refl _,hrg.iter_walk⟩);obtain⟨fn,tmps,assign,body,hy,hR⟩:=hY ss x w2 hJ2 (by omega);clear hs2
   gi_wp2
   refine hR.mono ?_;have hC2:=hC.step hlk hat
   rintro e W3 (⟨rfl,hJ3,hk3⟩ | ⟨rfl,hJx3⟩)
   ·gi_wp2
    have hrg3:=hrg2.of_walks hk3
    go_roundw
    case rel=>exact⟨_,cnt2,ss++[x],hrg3,by simp;omega,hC2,hJ3⟩
    case measure=>rw [hrg3.left_eq,hrg.left_eq];exact hlt
   ·
    gi_wp2
    refine bodyPost_ret (results_none rfl _ _ _) rfl ?_;exact⟨⟨_,rfl⟩,.inr ⟨ss++[x],⟨hC2.1,λy hy=>((hC2.2 y).1 hy).1⟩,hJx3⟩⟩
theorem tP{P:Program}{ρ:Ren}(L:SlLaysZ.n10 P ρ){H:Type}(F:Fence)(n:Nat)(h10:F.fn (ρ.f 10))(hro:F.round=none)(hn:1<=n)(Bm off b nn:Nat)(D0:DataW H){R:Value->Option (DataW H×List MemPlace)}(w:World)(hBm:Bm<w.heap.size)
  (hm:w.cell? ⟨Bm,off,none⟩=some (.map (some b))) (hown:w.ownsMap P (ρ.t 26) R b nn D0):
  SeqGives F n P (ρ.f 10) #[.pointer (some ⟨Bm,off,none⟩)] encStr (λss=>ss.Perm (strKeys D0)/\∀x,x∈ss↔has D0 (.string x)=true) (Maps.size D0) w:=
 SeqStops.gives (Sp:=λpre=>pre.Nodup/\∀x∈pre,has D0 (.string x)=true) λl J Jx W hW hJ _ hY h0=>by
  have hown':W.ownsMap P (ρ.t 26) R b nn D0:=by
   have hbl:=hown.lt;obtain⟨es,clock,hb,Ft,hs,hD⟩:=hown;exact⟨es,clock,(hW.block b hbl).trans hb,Ft,hs,hD⟩
  exact Ab {L with} F n h10 hro hn l Bm off b nn D0 J Jx hY W hJ ((hW.cell (p:=⟨Bm,off,none⟩) hBm).trans hm) hown' h0
theorem Bg(m:Nat):AnyZ.SortsIn Tryz.prog Tryz.sorted161_ren Fence.wide m:=
 ⟨λblk off cap ss W hH hblk hsz=>callsIn_wide.2 (AnyM.slices_Sort_string Tryz.sort169 blk off cap ss W hH hblk hsz),
  λp cap W=>callsIn_wide.2 (AnyM.slices_Sort_string_none Tryz.sort169 p cap W)⟩
theorem Bh{H:Type}(Bm off b nn:Nat)(D0:DataW H)(R:Value->Option (DataW H×List MemPlace))(w:World)(hBm:Bm<w.heap.size)(hm:w.cell? ⟨Bm,off,none⟩=some (.map (some b)))(hown:w.ownsMap Tryz.prog 9 R b nn D0)(hmax:Maps.size D0<=maxLen)(hbytes:Maps.size D0*16<=140737488355328):
  CallsIn Fence.wide 5 Tryz.prog 161 #[.func (.func 170) #[] #[.pointer (some ⟨Bm,off,none⟩)]] w λe w'=>∃(v:Value) (ss:List (List UInt8)),e= .returned v/\(ss.Perm (strKeys D0)/\∀x,x∈ss↔has D0 (.string x)=true)/\
   w'.ownsRow w.heap.size 9 1 v ss.length ((ss.mergeSort (λx y=>decide (x<=y))).map encStr)/\(v= .slice none 0 0↔ss=[])/\Below w.heap.size w w':=by
 have hseq:=tP (ρ:=Tryz.keys162_ren) {Tryz.keys162 with} Fence.wide 2 trivial rfl (by omega) Bm off b nn D0 w hBm hm hown;exact AnyZ.sorted_in Tryz.sorted161 Fence.wide 5 trivial trivial trivial trivial rfl (by omega) (Bg _) (enters_of Tryz.func169 (by kernel_rfl) rfl) 170 #[.pointer (some ⟨Bm,off,none⟩)] trivial (enters_of Tryz.func170 (by kernel_rfl) rfl) _ _ hmax hbytes _ hseq
theorem B4{w:World}{m:Array MapEntry}{clock b:Nat}{l0:List (List UInt8)}(hw:w.heap[b]? =some (.map m clock))(hk:m.toList.map (·.key)=l0.map encStr)(hb:Bd m.toList clock)(hn:l0.Nodup)(hl:l0.length<=6000000)(hl2:∀l∈l0,l.length<=6000000):
  ∃D0:DataW Unit,w.ownsMap Tryz.prog 9 (λ_=>some (.nil,[])) b m.size D0/\(strKeys D0).Perm l0/\Maps.size D0=l0.length:=by
 have hlen:m.toList.length=l0.length:=by have:=congrArg List.length hk;simpa using this
 have key:∀x∈m.toList,∃l∈l0,x.key=encStr l:=λx hx=>by
  have:x.key∈m.toList.map (·.key):=List.mem_map.2 ⟨x,hx,rfl⟩;rw [hk]at this;obtain⟨l,h1,h2⟩:=List.mem_map.1 this;exact⟨l,h1,h2.symm⟩
 have u9:Tryz.prog.underlying 9=some .string:=by kernel_rfl
 have rdOf:∀x∈m.toList,∀l,l∈l0->x.key=encStr l->WideElems.rd Tryz.prog 9 (λ_=>some ((.nil:DataW Unit),[])) x=some (.string l,.nil):=λx _ l h1 h2=>by
  unfold WideElems.rd;rw [h2];have:keyOf Tryz.prog 9 (encStr l)=some (.string l):=by
   unfold encStr;rw [WideMaps.keyOf_string_mk u9 (by have:=hl2 l h1;unfold maxLen;simp [ByteArray.size];omega)]
  rw [this];rfl
 have hsz:m.size<=Go.maxLen:=by
  have:m.size=l0.length:=by rw [<-Array.length_toList];exact hlen
  unfold Go.maxLen;omega
 refine⟨_,⟨m,clock,hw,⟨hsz,⟨λx hx=>?_,?_,?_⟩,λx hx=>?_⟩,Nat.le_refl _,rfl⟩,?_,?_⟩
 ·exact hb.1 x hx
 ·exact hb.2
 ·rw [hk]
  exact List.pairwise_map.2 (hn.imp λhne e=>hne (encStr_inj e))
 ·obtain⟨l,h1,h2⟩:=key x hx
  exact⟨_,rdOf x hx l h1 h2⟩
 ·show(List.map (λp:Lit×DataW Unit=>Go.strOf p.1) _).Perm l0
  refine((WideShapes.sorted_perm _).map _).trans (List.Perm.of_eq ?_);rw [List.map_map];have:∀x∈m.toList,encStr (((λp:Lit×DataW Unit=>Go.strOf p.1) ∘ WideElems.rg Tryz.prog 9 (λ_=>some (.nil,[]))) x)=x.key:=λx hx=>by
   obtain⟨l,h1,h2⟩:=key x hx;have hg:WideElems.rg Tryz.prog 9 (λ_=>some ((.nil:DataW Unit),[])) x=(.string l,.nil):=by
    unfold WideElems.rg;rw [rdOf x hx l h1 h2];rfl
   rw [Function.comp_apply,hg,h2];rfl
  have h2:(m.toList.map ((λp:Lit×DataW Unit=>Go.strOf p.1) ∘ WideElems.rg Tryz.prog 9 (λ_=>some (.nil,[])))).map encStr=l0.map encStr:=by
   rw [<-hk,List.map_map];exact List.map_congr_left this
  exact(List.map_inj_right (λ_ _ e=>encStr_inj e)).1 h2
 ·show(List.foldr DataW.insert [] _).length=_
  rw [(WideShapes.sorted_perm _).length_eq,List.length_map,hlen]
theorem vy{_e:Env}{g:G}:∀{s:Sc} {us:List Value},@VRs _e g ((scE s).map (·.1)) us->us=(s.map λq=>q.1.data.toList).map encStr
 |[],_,.nil=>rfl
 |p ::l,_,.cons h t=>by
  rw [vy t];obtain⟨s,rfl,k1,k2⟩:=@mK _e g _ _ _ (show @VR _e g (.str p.1.size (bT p.1.data.toList)) _ from h);have hs:=oj (k1.trans Array.length_toList.symm) k2;show _=encStr p.1.data.toList ::_
  congr 1
  unfold encStr
  congr 1
  rw [<-hs]
theorem yB{_e:Env}{g:G}:∀l:List (List UInt8),@VRs _e g (l.map td) (l.map encStr)
 |[]=>.nil
 |a ::l=>.cons (by have:=@VR.str _e g ⟨a.toArray⟩;simpa [td,encStr,ByteArray.size]using this) (yB l)
theorem r7(s:Sc):(gJ s).length=s.length:=by
 unfold gJ;rw [List.length_map,(List.mergeSort_perm _ _).length_eq,List.length_map]
theorem xU{h:H}{k:Nat}{s:Sc}(so:Sco h k s)(hz:szS s<=6000000):CN 161 [.func (.func 170) [] [.eptr [.map k] 0]] h (.lst (gJ s).length 1 (gJ s)) h:=by
 obtain⟨o,hb⟩:=so.out;refine⟨λE g w us st hu=>?_⟩;cases hu with
 |cons h1 t1=>
 cases t1 with
 |nil=>
 cases h1 with
 |func ha hc=>
 cases ha with
 |nil=>
 cases hc with
 |cons h2 t2=>
 cases t2 with
 |nil=>
 cases h2 with
 |@eptr bb oo _ c _ xs hE hx hl=>
 cases hl with
 |cons p1 p2=>
 cases p2 with
 |nil=>
 cases p1
 rename_i mb o2 z2 hg
 obtain⟨⟨tt,hcell⟩,_⟩:=st.env hE;have hc0:=hx 0 _ rfl;rw [Nat.add_zero]at hc0;have hlt:bb<w.heap.size:=(Array.getElem?_eq_some_iff.1 hcell).1;have hcell2:w.cell? ⟨bb,oo+0,none⟩=some (.map (some mb)):=by
  simp [World.cell?,hcell,hc0]
 obtain⟨b',o3,z3,m,cl,j1,j2,j3,j4⟩:=@WR.blk E _ _ _ _ st.wr k _ _ hg hb;rw [hg]at j1;cases j1;have hk:=@vy E g s _ j3.1;have hl1:=tM s;have hnd:(s.map λq=>q.1.data.toList).Nodup:=by
  have:=so.nd;rw [List.Nodup,List.pairwise_map]at this ⊢;refine this.imp λhne e=>hne ?_
  rename_i a b
  cases ha:a.1;cases hb:b.1;rw [ha,hb]at e;exact congrArg ByteArray.mk (Array.toList_inj.1 e)
 obtain⟨D0,n1,n2,n3⟩:=B4 j2 hk j4.1 hnd (by rw [List.length_map];omega) (λl hl=>by
  obtain⟨q,hq,rfl⟩:=List.mem_map.1 hl;have:=yY hq;rw [Array.length_toList];show q.1.size<=_;omega)
 rw [List.length_map]at n3;have main:=Bh bb (oo+0) mb m.size D0 _ w hlt hcell2 n1 (by rw [n3];unfold Go.maxLen;omega) (by rw [n3];omega);refine⟨_,Tryz.func161,by decide,rfl,callsIn_wide.2 ((callsIn_wide.1 main).mono ?_)⟩;rintro e w' ⟨v,ss,rfl,⟨hp,_⟩,hrow,hnil,hB⟩;have hp:=hp.trans n2;have hsl:ss.length=s.length:=by rw [hp.length_eq,List.length_map]
 have hms:ss.mergeSort (λx y=>decide (x<=y))=(s.map λq=>q.1.data.toList).mergeSort leS:=mergeSort_of_perm hp;have stl:kL w w':=⟨hB.size,λb hb=>hB.block b hb,hB.os,hB.tape,hB.output⟩
 have fin:∀(E':En),E.le E'->(∀b c,E'.ro b=some c->E.ro b=some c\/w.heap.size<=b)->(∀b c,E'.ro b=some c->∃t:TypeId×(Nat×Nat),w'.heap[b]? =some (.cells c t.1 t.2))->fT TP noM E g h w E' g h w':=λE' m2 m3 m4=>
  ⟨m2,m3,λ_ _ _ e=>e,Nat.le_refl _,st.still m2 m3 m4 stl,stl.size,λb hb _=>stl.keep b hb,λid b o z e=>.inr ⟨id,o,z,e⟩,λp hp=>stl.keep _ (by
   obtain⟨⟨z,q⟩,_⟩:=st.pin p hp;exact st.lt q),stl.os,stl.tape,stl.output⟩
 have oldE:∀b c,E.ro b=some c->∃t:TypeId×(Nat×Nat),w'.heap[b]? =some (.cells c t.1 t.2):=λb c e=>by
  obtain⟨⟨t,q⟩,_⟩:=st.env e;exact⟨t,(stl.keep b (Array.getElem?_eq_some_iff.1 q).1).trans q⟩
 have hlen:=r7 s;obtain⟨r1,r2⟩:=hrow;rcases r2 with⟨rfl,r3⟩ | ⟨gb,cap,cur,rfl,c1,c2,c3,c4,c5,c6⟩
 ·have hs0:s=[]:=List.eq_nil_of_length_eq_zero (by omega)
  refine⟨E,g,_,rfl,?_,fin E E.le_refl (λ_ _ e=>.inl e) oldE⟩;have:gJ s=[]:=List.eq_nil_of_length_eq_zero (by rw [hlen,hs0];rfl);rw [this];exact @VR.lst0 E g 1
 ·let E':En:=⟨λb=>if b=gb then some cur else E.ro b⟩
  have hno:E.ro gb=none:=by
   cases q:E.ro gb with
   |none=>rfl
   |some c=>
    obtain⟨⟨t,q2⟩,_⟩:=st.env q;have:=(Array.getElem?_eq_some_iff.1 q2).1;omega
  have hle:E.le E':=λb c e=>by
   show(if b=gb then some cur else E.ro b)=some c;rw [if_neg (λq=>by rw [q,hno]at e;cases e)];exact e
  have hro:∀b c,E'.ro b=some c->(b=gb/\c=cur)\/E.ro b=some c:=λb c e=>by
   have e:(if b=gb then some cur else E.ro b)=some c:=e
   split at e
   ·rename_i q
    cases e;exact .inl ⟨q,rfl⟩
   ·exact .inr e
  refine⟨E',g,_,rfl,?_,fin E' hle (λb c e=>?_) (λb c e=>?_)⟩
  ·have c6:cur.toList.take (ss.length*1)=((s.map λq=>q.1.data.toList).mergeSort leS).map encStr:=by rw [c6];exact congrArg (List.map encStr) hms
   rw [hlen,<-hsl];have hv:@VRs E' g (gJ s) (((s.map λq=>q.1.data.toList).mergeSort leS).map encStr):=@yB E' g _;refine @VR.lst E' g _ _ gb 0 cap cur _ (((s.map λq=>q.1.data.toList).mergeSort leS).map encStr) (if_pos rfl) (λj u hj=>?_) (by rw [hlen,hsl,Nat.mul_one]) hv;rw [<-c6,List.getElem?_take]at hj
   split at hj
   ·rw [Nat.zero_add,<-Array.getElem?_toList];exact hj
   ·cases hj
  ·rcases hro b c e with⟨rfl,rfl⟩|e
   ·exact .inr c1
   ·exact .inl e
  ·rcases hro b c e with⟨rfl,rfl⟩|e
   ·exact⟨(_,0,0),c2⟩
   ·exact oldE b c e
end
section
section
variable [Env]
set_option linter.unusedSectionVars false
variable {P:Program} {T:Ty} {g:G} {ρ:Operand->Value} {h:H} {w:World}
theorem yh{m:List MapEntry}{k:Nat}(b:kR m k):(m.map (·.born)).Nodup:=b.dst.2
theorem vT(r:WR T g h w){x:Operand}{it km n:Nat}{es:List (V×V)}{seen:List Nat}(ha:VR g (.ptr it 0) (ρ x))(e1:h.blk it=some (.miter km (some (seen,n))))(e2:h.blk km=some (.map es true))(hn:es.length=n):
  ((∀i,i<n->i∈seen)/\Eff P T g h w ρ (.next x false) (.tup [.bool false]) h)\/
  ∃i e,i<n/\i∉seen/\es[i]? =some e/\Eff P T g h w ρ (.next x false) (.tup [.bool true,e.1,e.2]) ⟨h.t.put it (some (.miter km (some (seen++[i],n)))),h.next⟩:=by
 cases hx:ρ x<;>rw [hx]at ha<;>cases ha
 rename_i b o z hg
 obtain⟨b',z',bm,om,zm,since,sn,last,k1,k2,k3,k4⟩:=r.blk it _ _ hg e1;rw [hg]at k1;cases k1;obtain⟨rfl,hs1,hs2⟩:=k4;rw [hs1,hs2]at k3;obtain⟨b2,o2,z2,m,c,q1,q2,q3,q4⟩:=r.blk km _ _ k2 e2;rw [k2]at q1;cases q1;have hb:=q4.2 rfl;have hlen:es.length=m.toList.length:=by have:=q3.1.length;simpa using this
 have hold:∀x∈m.toList,x.born<n:=λx hx=>by
  have:=hb.dst.1 x hx;rw [hb.1]at this;omega
 have hc:c=n:=by rw [hb.1];omega
 rcases run_next_at (P:=P) w 0 b bm n n seen.toArray m c k3 q2 hold (Nat.le_refl _)with⟨h0,hrun⟩ | ⟨e,he,w1,hw1,hrun⟩
 ·left
  refine⟨λi hi=>?_,g,w,.tuple #[.bool false],.refl r,.tup (.cons (.bool _) .nil),λo' e'=>.inl ?_⟩
  ·have hm:i<m.toList.length:=by omega
   have hi2:m.toList[i]? =some m.toList[i]:=List.getElem?_eq_getElem hm;have hbi:=hb.2 i _ hi2;have hl:leftOf m seen.toArray=#[]:=Array.eq_empty_of_size_eq_zero h0;unfold leftOf at hl;rw [Array.filter_eq_empty_iff]at hl;have:=hl m.toList[i] (by rw [<-Array.mem_toList_iff];exact List.getElem_mem hm);rw [hbi]at this
   simpa using this
  ·have hr:(Instr.next (.pointer (some ⟨b,0,none⟩)) false o'.type).run P w= .ok (.tuple #[.bool false]) w:=hrun
   simp [execOp,e',hx,hr]
 ·right
  unfold leftOf at he;have he1:e∈m.toList:=by simp at he ⊢;exact he.1
  have he2:e.born∉seen:=by simp at he;exact he.2
  obtain⟨i,hi⟩:=List.mem_iff_getElem?.1 he1;have hil:i<m.toList.length:=(List.getElem?_eq_some_iff.1 hi).1;have hbi:=hb.2 i _ hi;obtain⟨p,hp⟩:∃p,es[i]? =some p:=⟨_,List.getElem?_eq_getElem (by omega)⟩
  obtain⟨u1,s1,s2⟩:=q3.1.get (i:=i) (v:=p.1) (by rw [List.getElem?_map,hp];rfl);obtain⟨u2,s3,s4⟩:=q3.2.get (i:=i) (v:=p.2) (by rw [List.getElem?_map,hp];rfl);rw [List.getElem?_map,hi]at s1 s3;cases s1;cases s3;have hh:w1.heap=w.heap/\w1.os=w.os/\w1.tape=w.tape/\w1.output=w.output:=by rcases hw1 with rfl|rfl<;>exact⟨rfl,rfl,rfl,rfl⟩
  have hblt:=r.lt _ _ _ _ hg;refine⟨i,p,by omega,by rw [<-hbi];exact he2,hp,g,ChangeMaps.setBlock w1 b (.mapIter (some bm) n (seen.toArray.push e.born) c),_,?_,.tup (.cons (.bool true) (.cons s2 (.cons s4 .nil))),λo' e'=>.inl ?_⟩
  ·have hset:∀j,(ChangeMaps.setBlock w1 b (.mapIter (some bm) n (seen.toArray.push e.born) c)).heap[j]? =if j=b then some (.mapIter (some bm) n (seen.toArray.push e.born) c)else w.heap[j]? :=λj=>by
    show(w1.heap.setIfInBounds b _)[j]? =_;rw [hh.1,Array.getElem?_setIfInBounds]
    by_cases q:b=j
    ·subst q
     rw [if_pos rfl,if_pos hblt,if_pos rfl]
    ·rw [if_neg q,if_neg (Ne.symm q)]
   refine Ext.upd r hg e1 rfl rfl rfl (λ_ _ h=>by cases h) (λj hj=>by rw [hset,if_neg hj]) (by show(w1.heap.setIfInBounds b _).size=_;rw [Array.size_setIfInBounds,hh.1]) hh.2.1 hh.2.2.1 hh.2.2.2 ⟨b,z,bm,om,zm,n,_,c,hg,k2,by rw [hset,if_pos rfl],by rw [hbi];simp,rfl,hc⟩
  ·have hr:(Instr.next (.pointer (some ⟨b,0,none⟩)) false o'.type).run P w= .ok (.tuple #[.bool true,e.key,e.val]) (ChangeMaps.setBlock w1 b (.mapIter (some bm) n (seen.toArray.push e.born) c)):=hrun
   simp [execOp,e',hx,hr]
theorem vU(r:WR T g h w){x:Operand}{it km n i:Nat}{es:List (V×V)}{e:V×V}{seen:List Nat}(ha:VR g (.ptr it 0) (ρ x))(e1:h.blk it=some (.miter km (some (seen++[i],n))))(e2:h.blk km=some (.map es true))(hn:es.length=n)(he:es[i]? =some e):
  Eff P T g h w ρ (.entry x) (.tup [e.1,e.2]) h:=by
 cases hx:ρ x<;>rw [hx]at ha<;>cases ha
 rename_i b o z hg
 obtain⟨b',z',bm,om,zm,since,sn,last,k1,k2,k3,k4⟩:=r.blk it _ _ hg e1;rw [hg]at k1;cases k1;obtain⟨rfl,hs1,hs2⟩:=k4;rw [hs1,hs2]at k3;obtain⟨b2,o2,z2,m,c,q1,q2,q3,q4⟩:=r.blk km _ _ k2 e2;rw [k2]at q1;cases q1;have hb:=q4.2 rfl;have hlen:es.length=m.toList.length:=by have:=q3.1.length;simpa using this
 have hc:c=n:=by rw [hb.1];omega
 have hil:i<m.toList.length:=by have:=(List.getElem?_eq_some_iff.1 he).1;omega
 have hi:m.toList[i]? =some m.toList[i]:=List.getElem?_eq_getElem hil;have hbi:=hb.2 i _ hi;obtain⟨u1,s1,s2⟩:=q3.1.get (i:=i) (v:=e.1) (by rw [List.getElem?_map,he];rfl);obtain⟨u2,s3,s4⟩:=q3.2.get (i:=i) (v:=e.2) (by rw [List.getElem?_map,he];rfl);rw [List.getElem?_map,hi]at s1 s3;cases s1;cases s3;refine⟨g,w,_,.refl r,.tup (.cons s2 (.cons s4 .nil)),λo' e'=>.inl ?_⟩;have hr:=run_entry_at (P:=P) w b bm n seen.toArray m c m.toList[i] (by rw [hbi,k3,hc];simp) q2 (List.getElem_mem hil) (yh hb);simp [execOp,e',hx,hr]
end
end
section
section
variable {P:Program} {T:Ty} {K:Nat->Prop}
def CQ(T:Ty)(K:Nat->Prop)(m N:Nat)(E0:En)(g0:G)(w0:World)(Q:X->F->H->Prop)(e:Exit)(a':Act)(w':World):Prop:=∃x f' h',Q x f' h'/\Dc T K m N E0 g0 w0 x f' h' e a' w'
structure SQ(P:Program)(T:Ty)(K:Nat->Prop)(cc:ci)(f:F)(h:H)(Q:X->F->H->Prop):Prop where
 out:∀m N E0 g0 w0 (c:Code),comp T m N c=some cc->∀(E:En) (g:G) (a:Act) (w:World),Sx T K E0 g0 w0 E g h w->@FR E g m N f a.tmps->dZ [] g w w0.heap.size a.defers->c.wpIn (fen none) 0 P (CQ T K m N E0 g0 w0 Q) a w
structure OQ(P:Program)(T:Ty)(K:Nat->Prop)(l:List bS)(f:F)(h:H)(R:F->H->Prop):Prop where
 out:∀m N (ops:Array Oper) (Q:Exit->Act->World->Prop) E0 g0 w0 (suf:List Oper) (k:Nat),(∀i,i<suf.length->ops[k+i]? =suf[i]?)->fK (eX T m N ops) suf=some l->∀(E:En) (g:G) (a:Act) (w:World),Sx T K E0 g0 w0 E g h w->@FR E g m N f a.tmps->dZ [] g w w0.heap.size a.defers->
  (∀f' h' E' g' a' w',R f' h'->Sx T K E0 g0 w0 E' g' h' w'->@FR E' g' m N f' a'.tmps->dZ [] g' w' w0.heap.size a'.defers->Q .normal a' w')->wpOpsIn (fen none) 0 P ops Q (List.range' k suf.length) a w
theorem SQ.sem{cc:ci}{f:F}{h:H}{x:X}{f':F}{h':H}(q:SQ P T K cc f h λx1 f1 h1=>x1=x/\fG T K f1 h1 f' h'):C8 P T K cc f h x f' h':=by
 intro m N E0 g0 w0 c hc E g a w s hf hM;refine wpIn_mono (q.out m N E0 g0 w0 c hc E g a w s hf hM) ?_;rintro e a1 w1 ⟨x1,f1,h1,⟨rfl,v⟩,E1,g1,y1,y2,y3,y4⟩;obtain⟨E2,g2,s2,f2,q2⟩:=v m N E0 g0 w0 E1 g1 w1 a1.tmps y1 y2;exact⟨E2,g2,s2,f2,y3.of q2,y4⟩
theorem SQ.seq{ca cb:ci}{f:F}{h:H}{Q:X->F->H->Prop}(q:SQ P T K ca f h λx f1 h1=>(x= .norm/\SQ P T K cb f1 h1 Q)\/(x≠.norm/\Q x f1 h1)):SQ P T K (.seq ca cb) f h Q:=by
 refine⟨λm N E0 g0 w0 c hc E g a w s hf hM=>?_⟩;obtain⟨c1,c2,rfl,h1,h2⟩:=@fV noE _ _ _ _ _ hc;refine wpIn_seq (wpIn_mono (q.out m N E0 g0 w0 _ h1 E g a w s hf hM) ?_);rintro e a1 w1 ⟨x,f1,hh1,y0,E1,g1,y1,y2,y3,y4⟩;rcases y0 with⟨rfl,q2⟩ | ⟨hx,q2⟩
 ·rw [@mF.norm_inv noE _ y4]
  exact q2.out m N E0 g0 w0 _ h2 E1 g1 a1 w1 y1 y2 y3
 ·cases e with
  |normal=>cases x<;>first|(cases y4;done)|exact absurd rfl hx
  |_=>exact⟨x,f1,hh1,q2,E1,g1,y1,y2,y3,y4⟩
theorem SQ.cond{o:Opd}{ca cb:ci}{f:F}{h:H}{Q:X->F->H->Prop}{t:Bool}(e:o.ev f=some (.bool t))(q1:t=true->SQ P T K ca f h Q)(q2:t=false->SQ P T K cb f h Q):SQ P T K (.cond o ca cb) f h Q:=by
 refine⟨λm N E0 g0 w0 c hc E g a w s hf hM=>?_⟩;obtain⟨o',c1,c2,rfl,h0,h1,h2⟩:=@fV noE _ _ _ _ _ hc;refine wpIn_cond (@VR.bool_inv E _ _ _ (@qA E T _ g _ w s.sit.glob o' _ _ a _ h0 e λt _ v hv=>hf.2 t v hv)) ?_;cases t with
 |true=>exact(q1 rfl).out m N E0 g0 w0 _ h1 E g a w s hf hM
 |false=>exact(q2 rfl).out m N E0 g0 w0 _ h2 E g a w s hf hM
theorem SQ.block{id:Nat}{cb:ci}{f:F}{h:H}{Q:X->F->H->Prop}(q:SQ P T K cb f h λx f1 h1=>Q (unX id x) f1 h1):SQ P T K (.block id cb) f h Q:=by
 refine⟨λm N E0 g0 w0 c hc E g a w s hf hM=>?_⟩;obtain⟨c1,rfl,h1⟩:=@fV noE _ _ _ _ _ hc;refine wpIn_block (wpIn_mono (q.out m N E0 g0 w0 _ h1 E g a w s hf hM) ?_);rintro e a1 w1 ⟨x,f1,hh1,y0,E1,g1,y1,y2,y3,y4⟩;cases x with
 |norm=>rw [@mF.norm_inv noE _ y4];exact⟨_,f1,hh1,y0,E1,g1,y1,y2,y3,trivial⟩
 |ret=>
  cases e<;>first|(cases y4;done)|skip
  exact⟨_,f1,hh1,y0,E1,g1,y1,y2,y3,trivial⟩
 |exit j=>
  cases e<;>first|(cases y4;done)|skip
  have y4:j=_:=y4;subst y4;show(if j=id then _ else _)
  by_cases q:j=id
  ·rw [if_pos q]
   exact⟨_,f1,hh1,y0,E1,g1,y1,y2,y3,by show mF (if j=id then _ else _) _;rw [if_pos q];trivial⟩
  ·rw [if_neg q]
   exact⟨_,f1,hh1,y0,E1,g1,y1,y2,y3,by show mF (if j=id then _ else _) _;rw [if_neg q];rfl⟩
theorem SQ.loop{cb:ci}{f:F}{h:H}{Q:X->F->H->Prop}(I:Nat->F->H->Prop)(rnd:∀k f h,I k f h->SQ P T K cb f h λx f1 h1=>(x= .norm/\∃j,j<k/\I j f1 h1)\/(x≠.norm/\Q x f1 h1)){k:Nat}(i:I k f h):SQ P T K (.loop cb) f h Q:=by
 refine⟨λm N E0 g0 w0 c hc E g a w s hf hM=>?_⟩;obtain⟨c1,rfl,h1⟩:=@fV noE _ _ _ _ _ hc;refine @nS noE P _ _ _ _ (λk a1 w1=>∃f1 h1 E1 g1,I k f1 h1/\Sx T K E0 g0 w0 E1 g1 h1 w1/\@FR E1 g1 m N f1 a1.tmps/\dZ [] g1 w1 w0.heap.size a1.defers) ?_ k _ _ ⟨_,_,E,g,i,s,hf,hM⟩;rintro k a1 w1 ⟨f1,h1',E1,g1,i1,x1,x2,x3⟩;refine wpIn_mono ((rnd k f1 h1' i1).out m N E0 g0 w0 _ h1 E1 g1 a1 w1 x1 x2 x3) ?_;rintro e a2 w2 ⟨x,f2,h2,y0,E2,g2,y1,y2,y3,y4⟩;rcases y0 with⟨rfl,j,hj,ij⟩ | ⟨hx,q2⟩
 ·rw [@mF.norm_inv noE _ y4]
  exact⟨j,hj,f2,h2,E2,g2,ij,y1,y2,y3⟩
 ·cases e with
  |normal=>cases x<;>first|(cases y4;done)|exact absurd rfl hx
  |_=>exact⟨x,f2,h2,q2,E2,g2,y1,y2,y3,y4⟩
theorem SQ.reg{l:List bS}{f:F}{h:H}{Q:X->F->H->Prop}(hb:ci.reg l≠rP)(q:OQ P T K l f h λf1 h1=>Q .norm (clr f1) h1):SQ P T K (.reg l) f h Q:=by
 refine⟨λm N E0 g0 w0 c hc E g a w s hf hM=>?_⟩;cases c with
 |region id ops d=>
  cases d with
  |false=>
   rw [@ka noE]at hc;rcases @d9 noE _ _ hc with hc|hb2
   case inr=>exact absurd hb2 hb
   obtain⟨cl,h1,h2⟩:=bE.1 hc;cases h2;refine wpIn_region ?_;rw [List.range_eq_range'];have hlen:ops.size=ops.toList.length:=by simp
   rw [hlen];exact q.out m N ops _ E0 g0 w0 ops.toList 0 (λi _=>by rw [Nat.zero_add,Array.getElem?_toList]) h1 E g a w s hf hM λf' h' E' g' a' w' x0 x1 x2 x3=>⟨_,_,_,x0,E',g',x1,@FR.clr E' _ _ _ _ _ x2,x3,trivial⟩
  |true=>
   rw [@iW noE]at hc;rcases @d9 noE _ _ hc with hc|hb2
   ·obtain⟨cl,h1,h2⟩:=bE.1 hc
    obtain⟨l,h3,h4⟩:=bE.1 h2;cases h4
   ·exact absurd hb2 hb
 |seq a b=>rw [@j9 noE]at hc;obtain⟨_,_,hc⟩:=bE.1 hc;obtain⟨_,_,hc⟩:=bE.1 hc;cases hc
 |cond o a b=>rw [@iY noE]at hc;obtain⟨_,_,hc⟩:=bE.1 hc;obtain⟨_,_,hc⟩:=bE.1 hc;obtain⟨_,_,hc⟩:=bE.1 hc;cases hc
 |block id a=>rw [@ie noE]at hc;obtain⟨_,_,hc⟩:=bE.1 hc;cases hc
 |loop a=>rw [@iX noE]at hc;obtain⟨_,_,hc⟩:=bE.1 hc;cases hc
 |rangeFunc f ps a b=>rw [@ic noE]at hc;obtain⟨_,_,hc⟩:=bE.1 hc;obtain⟨_,_,hc⟩:=bE.1 hc;obtain⟨_,_,hc⟩:=bE.1 hc;obtain⟨_,_,hc⟩:=bE.1 hc;cases hc
 |_=>(rw [comp]at hc<;>first|(intros;contradiction)|(cases hc;first|done|exact absurd rfl hb))
theorem SQ.skip{f:F}{h:H}{Q:X->F->H->Prop}{call:cB}(hT:cN P T)(hk:∀E:En,@dX E P T call)(hm:P.follows .mixedOrders=true)(q:Q .norm f h):SQ P T K .skip f h Q:=by
 refine⟨λm N E0 g0 w0 c hc E g a w s hf hM=>wpIn_mono (wB hT hk hm (n:=0) (.exec (call:=call) (x:= .norm) (f':=f) (h':=h) rfl) c hc E g a w s hf hM) ?_⟩;exact λe a1 w1 y=>⟨_,_,_,q,y⟩
theorem SQ.exit{id:Nat}{f:F}{h:H}{Q:X->F->H->Prop}{call:cB}(hT:cN P T)(hk:∀E:En,@dX E P T call)(hm:P.follows .mixedOrders=true)(q:Q (.exit id) f h):SQ P T K (.exit id) f h Q:=by
 refine⟨λm N E0 g0 w0 c hc E g a w s hf hM=>wpIn_mono (wB hT hk hm (n:=0) (.exec (call:=call) (x:= .exit id) (f':=f) (h':=h) rfl) c hc E g a w s hf hM) ?_⟩;exact λe a1 w1 y=>⟨_,_,_,q,y⟩
theorem OQ.nil{f:F}{h:H}{R:F->H->Prop}(r:R f h):OQ P T K [] f h R:=by
 refine⟨λm N ops Q E0 g0 w0 suf k hidx hc E g a w s hf hM hQ=>?_⟩;cases suf with
 |nil=>exact hQ f h E g a w r s hf hM
 |cons o suf=>
  rw [@d7 noE]at hc;obtain⟨co',h1,h2⟩:=bE.1 hc;obtain⟨cl',h3,h4⟩:=bE.1 h2;cases h4
theorem OQ.op{call:cB}(hT:cN P T)(hk:∀E:En,@dX E P T call){o:bS}{l:List bS}{f f1:F}{h h1:H}{R:F->H->Prop}(e:o.run call f h=some (f1,h1))(q:OQ P T K l f1 h1 R):OQ P T K (o ::l) f h R:=by
 refine⟨λm N ops Q E0 g0 w0 suf k0 hidx hc E g a w s hf hM hQ=>?_⟩;cases suf with
 |nil=>cases hc
 |cons o suf=>
  rw [@d7 noE]at hc;obtain⟨co',h1,h2⟩:=bE.1 hc;obtain⟨cl',h3,h4⟩:=bE.1 h2;cases h4;have hp:=@dm noE _ _ _ _ _ _ h1;have ho:ops[k0]? =some o:=by have:=hidx 0 (by simp);simpa using this
  have hidx':∀i,i<suf.length->ops[k0+1+i]? =suf[i]? :=λi hi=>by
   have:=hidx (i+1) (by simp;omega);rw [show k0+1+i=k0+(i+1) by omega]
   simpa using this
  rw [List.length_cons,List.range'_succ,wpOpsIn_cons];unfold wpOpIn;simp only [ho];rcases @oH noE _ _ _ _ _ e with⟨e1,e2⟩ | ⟨vs,v,h'',e1,e2,e3,e4⟩
  ·cases e2
   rw [@eW E _ _ _ g ops o _ hp _ a _ e1 (λt _ v hv=>hf.2 t v hv)];refine⟨λ_ _=>trivial,?_⟩;exact q.out m N ops Q E0 g0 w0 suf (k0+1) hidx' h3 E g _ w s (@FR.put E _ _ _ _ _ _ _ _ _ hf hp.dst (@fk E _)) (by rw [@dh noE];exact hM) hQ
  ·cases e4
   rw [@eW E _ _ _ g ops o _ hp _ a _ e1 (λt _ v hv=>hf.2 t v hv)];obtain⟨os,k1,k2⟩:=hp.op;refine @lF E P T hT call (hk E) g _ _ w s.sit.wr s.sit.glob o _ os a k1 vs v (@jp E T m g _ w s.sit.glob _ a _ _ _ k2 e2 λt _ v hv=>hf.2 t v hv) e3 _ _ _ λg1 w1 u x1 x2=>?_;have X:=fT.of (M:=noM) s.sit x1;exact q.out m N ops Q E0 g0 w0 suf (k0+1) hidx' h3 E g1 _ w1 (s.ext X λ_ _ q=>q) (@FR.put E _ _ _ _ _ _ _ _ _ (@FR.mono E _ _ (@Ext.le E _ _ _ _ _ _ _ x1) _ _ _ _ hf) hp.dst x2) (by rw [@dh noE];exact hM.extX X) hQ
theorem OQ.may{o:bS}{eo:EOp}{l:List bS}{f:F}{h:H}{vs:List V}{R:F->H->Prop}(eg:bX f o.guard=some true)(ev:evs f o.args=some vs)(ee:o.op= .e eo)
  (q:∀(E:En) (g:G) (w:World) (op:Op) (os:List Operand) (ρ:Operand->Value),bI T op=some (.e eo,os)->@WR E T g h w->@VRs E g vs (os.map ρ)->∃v h1,@Eff E P T g h w ρ op v h1/\OQ P T K l (o.dst.put f v) h1 R):OQ P T K (o ::l) f h R:=by
 refine⟨λm N ops Q E0 g0 w0 suf k0 hidx hc E g a w s hf hM hQ=>?_⟩;cases suf with
 |nil=>cases hc
 |cons o2 suf=>
  rw [@d7 noE]at hc;obtain⟨co',h1,h2⟩:=bE.1 hc;obtain⟨cl',h3,h4⟩:=bE.1 h2;cases h4;have hp:=@dm noE _ _ _ _ _ _ h1;have ho:ops[k0]? =some o2:=by have:=hidx 0 (by simp);simpa using this
  have hidx':∀i,i<suf.length->ops[k0+1+i]? =suf[i]? :=λi hi=>by
   have:=hidx (i+1) (by simp;omega);rw [show k0+1+i=k0+(i+1) by omega]
   simpa using this
  rw [List.length_cons,List.range'_succ,wpOpsIn_cons];unfold wpOpIn;simp only [ho];rw [@eW E _ _ _ g ops o2 _ hp _ a _ eg (λt _ v hv=>hf.2 t v hv)];obtain⟨os,k1,k2⟩:=hp.op;rw [ee]at k1;obtain⟨v,h5,⟨g1,w1,u,x1,x2,x3⟩,q2⟩:=q E g w o2.op os a.eval k1 s.sit.wr (@jp E T m g _ w s.sit.glob _ a _ _ _ k2 ev λt _ v hv=>hf.2 t v hv);have X:=fT.of (M:=noM) s.sit x1;have fin:∀u',@VR E g1 v u'->wpOpsIn (fen none) 0 P ops Q (List.range' (k0+1) suf.length) (a.put o2.dst u') w1:=λu' hu=>
   q2.out m N ops Q E0 g0 w0 suf (k0+1) hidx' h3 E g1 _ w1 (s.ext X λ_ _ q=>q) (@FR.put E _ _ _ _ _ _ _ _ _ (@FR.mono E _ _ (@Ext.le E _ _ _ _ _ _ _ x1) _ _ _ _ hf) hp.dst hu) (by rw [@dh noE];exact hM.extX X) hQ
  refine⟨λ_ _=>trivial,?_⟩;rw [Oper.semAt_eq _ _ _ (@fi noE _ _ _ _ k1)];rcases x3 o2 rfl with x4 | ⟨x4,hu⟩
  ·rw [x4,Oper.uponIn_value]
   exact fin u x2
  ·subst hu
   rw [x4,Oper.uponIn_skip];exact fin undef x2
end
end
section
section
variable [Env]
set_option linter.unusedSectionVars false
variable {P:Program} {T:Ty}
theorem v7{op:Op}{os:List Operand}(hc:bI T op=some (.e .nextM,os)):∃x,op= .next x false/\os=[x]:=by
 cases op
 case call c=>
  obtain⟨callee,args,argTypes⟩:=c;simp only [bI]at hc;cases callee with
  |value x=>
   cases x with
   |func f'=>cases hc
   |_=>cases hc
  |invoke r m=>cases hc
  |builtin b=>
   obtain⟨t,h1,h2⟩:=bE.1 hc;obtain⟨d,h3,h4⟩:=bE.1 h2;cases b
   case len=>cases d<;>cases h4
   case append=>
    cases d with
    |slice e=>
     obtain⟨n,_,a1⟩:=bE.1 h4;obtain⟨_,_,a2⟩:=bE.1 a1;obtain⟨_,_,a3⟩:=bE.1 a2;obtain⟨_,a4⟩:=bK.1 a3;obtain⟨_,_,a5⟩:=bE.1 a4;obtain⟨_,_,a6⟩:=bE.1 a5
     split at a6<;>cases a6
    |_=>cases h4
   case copy=>
    cases d with
    |slice e=>obtain⟨n,k1,a1⟩:=bE.1 h4;cases a1
    |_=>cases h4
   case clear=>
    cases d with
    |slice e=>
     obtain⟨n,k1,a1⟩:=bE.1 h4;obtain⟨z,k2,a2⟩:=bE.1 a1;cases a2
    |_=>cases h4
   case delete=>
    cases d with
    |map k e=>obtain⟨kk,k1,a1⟩:=bE.1 h4;cases a1
    |_=>cases h4
   all_goals (cases d<;>cases h4)
 case alloc t=>
  simp only [bI]at hc;obtain⟨z,h1,h⟩:=bE.1 hc;cases h
 case buildSlice t n ps=>
  simp only [bI]at hc;obtain⟨d,_,h⟩:=bE.1 hc;cases d with
  |slice e=>
   obtain⟨_,_,a1⟩:=bE.1 h;obtain⟨_,_,a2⟩:=bE.1 a1;obtain⟨_,a3⟩:=bK.1 a2;cases a3
  |_=>cases h
 case makeMap t r=>
  simp only [bI]at hc;obtain⟨d,_,h⟩:=bE.1 hc;cases d<;>cases h
 case makeSlice t l c=>
  simp only [bI]at hc;obtain⟨d,_,h⟩:=bE.1 hc;cases d with
  |slice e=>
   obtain⟨_,_,a1⟩:=bE.1 h;obtain⟨_,_,a2⟩:=bE.1 a1;obtain⟨_,_,a3⟩:=bE.1 a2;obtain⟨_,a4⟩:=bK.1 a3;cases a4
  |_=>cases h
 case range t x=>
  simp only [bI]at hc;obtain⟨d,_,h⟩:=bE.1 hc;cases d<;>cases h
 case load t x=>
  simp only [bI]at hc;obtain⟨b,h1,h2⟩:=bE.1 hc;obtain⟨n,h3,h4⟩:=bE.1 h2;cases h4
 case lookup t x k ok=>
  simp only [bI]at hc;obtain⟨d,h1,h2⟩:=bE.1 hc;cases d with
  |map kt e=>
   obtain⟨kk,h3,h4⟩:=bE.1 h2;obtain⟨z,h5,h6⟩:=bE.1 h4;cases h6
  |_=>cases h2
 case binOp op t x y t'=>
  have eq2:∀{neg cst:Bool} {d:TypeDesc},re T t neg cst d=some (.e .nextM)->False:=by
   intro neg cst d h2;cases d with
   |interface e=>obtain⟨h4,h5⟩:=bK.1 h2;cases h5
   |pointer e=>obtain⟨k,h4,h5⟩:=bE.1 h2;cases h5
   |struct fs=>obtain⟨k,h4,h5⟩:=bE.1 h2;cases h5
   |_=>cases h2
  cases op
  case eql=>
   simp only [bI]at hc;obtain⟨d,h1,h2⟩:=bE.1 hc;obtain⟨c,h3,h4⟩:=bE.1 h2;cases h4;exact(eq2 (neg:=false) h3).elim
  case neq=>
   simp only [bI]at hc;obtain⟨d,h1,h2⟩:=bE.1 hc;obtain⟨c,h3,h4⟩:=bE.1 h2;cases h4;exact(eq2 (neg:=true) h3).elim
  all_goals cases hc
 case build t ps=>
  simp only [bI]at hc;obtain⟨z,h1,h2⟩:=bE.1 hc;obtain⟨d,h3,h4⟩:=bE.1 h2;cases d with
  |struct fs=>
   obtain⟨pl,h5,h6⟩:=bE.1 h4;obtain⟨l,h7,h8⟩:=bE.1 h6;cases h8
  |array k e=>
   obtain⟨n,h5,h6⟩:=bE.1 h4;cases h6
  |_=>cases h4
 case convert s d x=>
  simp only [bI]at hc;obtain⟨a,h1,h2⟩:=bE.1 hc;obtain⟨b,h3,h4⟩:=bE.1 h2;cases a<;>cases b<;>first|(cases h4;done)|(cases(fj h4).1)
 case makeInterface t x=>
  simp only [bI]at hc;obtain⟨d,h1,h2⟩:=bE.1 hc;cases d<;>cases h2
 case makeFunc fn a b=>cases fn<;>cases hc
 case slice t x lo hi mx=>
  simp only [bI]at hc;obtain⟨d,_,h⟩:=bE.1 hc;cases d with
  |string=>cases h
  |slice e=>obtain⟨_,_,a1⟩:=bE.1 h;cases a1
  |array k e=>obtain⟨_,_,a1⟩:=bE.1 h;cases a1
  |_=>cases h
 case fieldAddr t x i=>
  simp only [bI]at hc;obtain⟨d,_,h⟩:=bE.1 hc;cases d with
  |struct fs=>
   obtain⟨_,_,a1⟩:=bE.1 h;obtain⟨_,_,a2⟩:=bE.1 a1;cases a2
  |_=>cases h
 case field t x i=>
  simp only [bI]at hc;obtain⟨d,_,h⟩:=bE.1 hc;cases d with
  |struct fs=>
   obtain⟨_,_,a1⟩:=bE.1 h;obtain⟨_,_,a2⟩:=bE.1 a1;obtain⟨_,_,a3⟩:=bE.1 a2;cases a3
  |_=>cases h
 case indexAddr t x i=>
  simp only [bI]at hc;obtain⟨d,_,h⟩:=bE.1 hc;cases d with
  |slice e=>obtain⟨_,_,a1⟩:=bE.1 h;cases a1
  |array k e=>obtain⟨_,_,a1⟩:=bE.1 h;cases a1
  |_=>cases h
 case index t x i=>
  simp only [bI]at hc;obtain⟨d,_,h⟩:=bE.1 hc;cases d with
  |string=>cases h
  |array k e=>
   obtain⟨_,_,a1⟩:=bE.1 h;obtain⟨_,_,a2⟩:=bE.1 a1;cases a2
  |_=>cases h
 case insert t m k x=>
  simp only [bI]at hc;obtain⟨d,_,h⟩:=bE.1 hc;cases d with
  |map k e=>
   obtain⟨_,_,a1⟩:=bE.1 h;cases a1
  |_=>cases h
 case mapEntry t m k=>
  simp only [bI]at hc;obtain⟨d,_,h⟩:=bE.1 hc;cases d with
  |map k e=>
   obtain⟨_,_,a1⟩:=bE.1 h;obtain⟨_,_,a2⟩:=bE.1 a1;cases a2
  |_=>cases h
 case mapUpdate t m k x=>
  simp only [bI]at hc;obtain⟨d,_,h⟩:=bE.1 hc;cases d with
  |map k e=>
   obtain⟨_,_,a1⟩:=bE.1 h;cases a1
  |_=>cases h
 case store t a x=>
  simp only [bI]at hc;obtain⟨_,h1,a1⟩:=bE.1 hc;cases a1
 case next x b=>
  cases b with
  |false=>cases hc;exact⟨x,rfl,rfl⟩
  |true=>cases hc
 all_goals cases hc
theorem uf{op:Op}{os:List Operand}(hc:bI T op=some (.e .entryM,os)):∃x,op= .entry x/\os=[x]:=by
 cases op
 case call c=>
  obtain⟨callee,args,argTypes⟩:=c;simp only [bI]at hc;cases callee with
  |value x=>
   cases x with
   |func f'=>cases hc
   |_=>cases hc
  |invoke r m=>cases hc
  |builtin b=>
   obtain⟨t,h1,h2⟩:=bE.1 hc;obtain⟨d,h3,h4⟩:=bE.1 h2;cases b
   case len=>cases d<;>cases h4
   case append=>
    cases d with
    |slice e=>
     obtain⟨n,_,a1⟩:=bE.1 h4;obtain⟨_,_,a2⟩:=bE.1 a1;obtain⟨_,_,a3⟩:=bE.1 a2;obtain⟨_,a4⟩:=bK.1 a3;obtain⟨_,_,a5⟩:=bE.1 a4;obtain⟨_,_,a6⟩:=bE.1 a5
     split at a6<;>cases a6
    |_=>cases h4
   case copy=>
    cases d with
    |slice e=>obtain⟨n,k1,a1⟩:=bE.1 h4;cases a1
    |_=>cases h4
   case clear=>
    cases d with
    |slice e=>
     obtain⟨n,k1,a1⟩:=bE.1 h4;obtain⟨z,k2,a2⟩:=bE.1 a1;cases a2
    |_=>cases h4
   case delete=>
    cases d with
    |map k e=>obtain⟨kk,k1,a1⟩:=bE.1 h4;cases a1
    |_=>cases h4
   all_goals (cases d<;>cases h4)
 case alloc t=>
  simp only [bI]at hc;obtain⟨z,h1,h⟩:=bE.1 hc;cases h
 case buildSlice t n ps=>
  simp only [bI]at hc;obtain⟨d,_,h⟩:=bE.1 hc;cases d with
  |slice e=>
   obtain⟨_,_,a1⟩:=bE.1 h;obtain⟨_,_,a2⟩:=bE.1 a1;obtain⟨_,a3⟩:=bK.1 a2;cases a3
  |_=>cases h
 case makeMap t r=>
  simp only [bI]at hc;obtain⟨d,_,h⟩:=bE.1 hc;cases d<;>cases h
 case makeSlice t l c=>
  simp only [bI]at hc;obtain⟨d,_,h⟩:=bE.1 hc;cases d with
  |slice e=>
   obtain⟨_,_,a1⟩:=bE.1 h;obtain⟨_,_,a2⟩:=bE.1 a1;obtain⟨_,_,a3⟩:=bE.1 a2;obtain⟨_,a4⟩:=bK.1 a3;cases a4
  |_=>cases h
 case range t x=>
  simp only [bI]at hc;obtain⟨d,_,h⟩:=bE.1 hc;cases d<;>cases h
 case load t x=>
  simp only [bI]at hc;obtain⟨b,h1,h2⟩:=bE.1 hc;obtain⟨n,h3,h4⟩:=bE.1 h2;cases h4
 case lookup t x k ok=>
  simp only [bI]at hc;obtain⟨d,h1,h2⟩:=bE.1 hc;cases d with
  |map kt e=>
   obtain⟨kk,h3,h4⟩:=bE.1 h2;obtain⟨z,h5,h6⟩:=bE.1 h4;cases h6
  |_=>cases h2
 case binOp op t x y t'=>
  have eq2:∀{neg cst:Bool} {d:TypeDesc},re T t neg cst d=some (.e .entryM)->False:=by
   intro neg cst d h2;cases d with
   |interface e=>obtain⟨h4,h5⟩:=bK.1 h2;cases h5
   |pointer e=>obtain⟨k,h4,h5⟩:=bE.1 h2;cases h5
   |struct fs=>obtain⟨k,h4,h5⟩:=bE.1 h2;cases h5
   |_=>cases h2
  cases op
  case eql=>
   simp only [bI]at hc;obtain⟨d,h1,h2⟩:=bE.1 hc;obtain⟨c,h3,h4⟩:=bE.1 h2;cases h4;exact(eq2 (neg:=false) h3).elim
  case neq=>
   simp only [bI]at hc;obtain⟨d,h1,h2⟩:=bE.1 hc;obtain⟨c,h3,h4⟩:=bE.1 h2;cases h4;exact(eq2 (neg:=true) h3).elim
  all_goals cases hc
 case build t ps=>
  simp only [bI]at hc;obtain⟨z,h1,h2⟩:=bE.1 hc;obtain⟨d,h3,h4⟩:=bE.1 h2;cases d with
  |struct fs=>
   obtain⟨pl,h5,h6⟩:=bE.1 h4;obtain⟨l,h7,h8⟩:=bE.1 h6;cases h8
  |array k e=>
   obtain⟨n,h5,h6⟩:=bE.1 h4;cases h6
  |_=>cases h4
 case convert s d x=>
  simp only [bI]at hc;obtain⟨a,h1,h2⟩:=bE.1 hc;obtain⟨b,h3,h4⟩:=bE.1 h2;cases a<;>cases b<;>first|(cases h4;done)|(cases(fj h4).1)
 case makeInterface t x=>
  simp only [bI]at hc;obtain⟨d,h1,h2⟩:=bE.1 hc;cases d<;>cases h2
 case makeFunc fn a b=>cases fn<;>cases hc
 case slice t x lo hi mx=>
  simp only [bI]at hc;obtain⟨d,_,h⟩:=bE.1 hc;cases d with
  |string=>cases h
  |slice e=>obtain⟨_,_,a1⟩:=bE.1 h;cases a1
  |array k e=>obtain⟨_,_,a1⟩:=bE.1 h;cases a1
  |_=>cases h
 case fieldAddr t x i=>
  simp only [bI]at hc;obtain⟨d,_,h⟩:=bE.1 hc;cases d with
  |struct fs=>
   obtain⟨_,_,a1⟩:=bE.1 h;obtain⟨_,_,a2⟩:=bE.1 a1;cases a2
  |_=>cases h
 case field t x i=>
  simp only [bI]at hc;obtain⟨d,_,h⟩:=bE.1 hc;cases d with
  |struct fs=>
   obtain⟨_,_,a1⟩:=bE.1 h;obtain⟨_,_,a2⟩:=bE.1 a1;obtain⟨_,_,a3⟩:=bE.1 a2;cases a3
  |_=>cases h
 case indexAddr t x i=>
  simp only [bI]at hc;obtain⟨d,_,h⟩:=bE.1 hc;cases d with
  |slice e=>obtain⟨_,_,a1⟩:=bE.1 h;cases a1
  |array k e=>obtain⟨_,_,a1⟩:=bE.1 h;cases a1
  |_=>cases h
 case index t x i=>
  simp only [bI]at hc;obtain⟨d,_,h⟩:=bE.1 hc;cases d with
  |string=>cases h
  |array k e=>
   obtain⟨_,_,a1⟩:=bE.1 h;obtain⟨_,_,a2⟩:=bE.1 a1;cases a2
  |_=>cases h
 case insert t m k x=>
  simp only [bI]at hc;obtain⟨d,_,h⟩:=bE.1 hc;cases d with
  |map k e=>
   obtain⟨_,_,a1⟩:=bE.1 h;cases a1
  |_=>cases h
 case mapEntry t m k=>
  simp only [bI]at hc;obtain⟨d,_,h⟩:=bE.1 hc;cases d with
  |map k e=>
   obtain⟨_,_,a1⟩:=bE.1 h;obtain⟨_,_,a2⟩:=bE.1 a1;cases a2
  |_=>cases h
 case mapUpdate t m k x=>
  simp only [bI]at hc;obtain⟨d,_,h⟩:=bE.1 hc;cases d with
  |map k e=>
   obtain⟨_,_,a1⟩:=bE.1 h;cases a1
  |_=>cases h
 case store t a x=>
  simp only [bI]at hc;obtain⟨_,h1,a1⟩:=bE.1 hc;cases a1
 case next x b=>cases b<;>cases hc
 case entry x=>cases hc;exact⟨x,rfl,rfl⟩
 all_goals cases hc
end
section
variable {P:Program} {T:Ty} {K:Nat->Prop}
theorem OQ.next{d:Dst}{x:Opd}{lo hi:Nat}{l:List bS}{f:F}{h:H}{R:F->H->Prop}{it km n:Nat}{es:List (V×V)}{seen:List Nat}(ev:evs f [x]=some [.ptr it 0])(e1:h.blk it=some (.miter km (some (seen,n))))(e2:h.blk km=some (.map es true))(hn:es.length=n)
  (q1:(∀i,i<n->i∈seen)->OQ P T K l (d.put f (.tup [.bool false])) h R)
  (q2:∀i e,i<n->i∉seen->es[i]? =some e->OQ P T K l (d.put f (.tup [.bool true,e.1,e.2])) ⟨h.t.put it (some (.miter km (some (seen++[i],n)))),h.next⟩ R):OQ P T K (⟨d,.e .nextM,[x],none,lo,hi⟩ ::l) f h R:=by
 refine OQ.may rfl ev rfl λE g w op os ρ hc r hv=>?_;obtain⟨y,rfl,rfl⟩:=@v7 E T _ _ hc;obtain⟨a,ha,hv1⟩:=@VRs.one E _ _ _ hv;cases ha;rcases @vT E P T g ρ h w r y it km n es seen hv1 e1 e2 hn with⟨k1,k2⟩ | ⟨i,e,k1,k2,k3,k4⟩
 ·exact⟨_,_,k2,q1 k1⟩
 ·exact⟨_,_,k4,q2 i e k1 k2 k3⟩
theorem OQ.entry{d:Dst}{x:Opd}{lo hi:Nat}{l:List bS}{f:F}{h:H}{R:F->H->Prop}{it km n i:Nat}{es:List (V×V)}{e:V×V}{seen:List Nat}(ev:evs f [x]=some [.ptr it 0])(e1:h.blk it=some (.miter km (some (seen++[i],n))))(e2:h.blk km=some (.map es true))(hn:es.length=n)(he:es[i]? =some e)
  (q:OQ P T K l (d.put f (.tup [e.1,e.2])) h R):OQ P T K (⟨d,.e .entryM,[x],none,lo,hi⟩ ::l) f h R:=by
 refine OQ.may rfl ev rfl λE g w op os ρ hc r hv=>?_;obtain⟨y,rfl,rfl⟩:=@uf E T _ _ hc;obtain⟨a,ha,hv1⟩:=@VRs.one E _ _ _ hv;cases ha;exact⟨_,_,@vU E P T g ρ h w r y it km n i es e seen hv1 e1 e2 hn he,q⟩
end
end
end Ev
end Go.Proofs.YtdfphfdnoobikaaGreatDoor
