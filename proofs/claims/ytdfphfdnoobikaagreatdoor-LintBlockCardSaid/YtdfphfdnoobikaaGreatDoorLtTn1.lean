/-
  The laws' own functions:same,with;lists that are frozen.
-/
import Derived.Test.YtdfphfdnoobikaaGreatDoorLtShown
import Derived.Test.YtdfphfdnoobikaaGreatDoorLtCnt
namespace Go.Proofs.YtdfphfdnoobikaaGreatDoor
namespace Ev
section
theorem GZ{l:List Fl}{i:Nat}{d:Fl}(h:Nat.blt i l.length=true):∃a b,flL l=a++(flO ((l[i]?).getD d)++b)∧a.length=Nat.mul i 6:=pG (f:=flO) (g:=flL) (n:=6) (fun _ _=>rfl) (fun _=>rfl) l i _ (cV h)
noncomputable section
def fl0:Fl:=⟨eB,0,0,0,eB,0⟩
def EW(l:List Fl)(i:Nat):Fl:=(l[i]?).getD fl0
end
theorem GY{l:List Fl}{i:Nat}(h:Nat.blt i l.length=true):eY (flL l) (Nat.mul i 6) (flO (EW l i)):=by obtain⟨a,b,e,k⟩:=GZ (d:=fl0) h;exact .of e k
theorem yj{l:List Fl}{i:Nat}{h:H}(hb:Nat.blt i l.length=true):ROp.run (.load true 6) [.eptr (flL l) (Nat.mul i 6)] h=some (.agg (flO (EW l i))):=fA (GY hb) h
theorem Hd(l:List Fl):bN (.lst l.length 6 (flL l)):= .lst (qI l)
theorem pT(n c:Nat):dJ n c n c=true:=by
 unfold dJ
 simp
theorem G3(x:Fl)(h:H):ROp.run (.eq (.agg [.s,.i,.i,.i,.s,.i]) true) [.agg (flO x),.agg (flO x)] h=some (.bool false):=by
 have e1:dJ x.fn.size (bT x.fn.data.toList) x.fn.size (bT x.fn.data.toList)=true:=pT _ _
 have e2:dJ x.name.size (bT x.name.data.toList) x.name.size (bT x.name.data.toList)=true:=pT _ _
 have i1:eqI x.ar x.ar=true:=by rw [gD];simp
 have i2:eqI x.cl x.cl=true:=by rw [gD];simp
 have i3:eqI x.code x.code=true:=by rw [gD];simp
 have i4:eqI x.n x.n=true:=by rw [gD];simp
 have key:fP h (.agg [.s,.i,.i,.i,.s,.i]) (.agg (flO x)) (.agg (flO x))=some true:=by
  show(ob (some (dJ x.fn.size (bT x.fn.data.toList) x.fn.size (bT x.fn.data.toList))) fun c=>Bool.rec (motive:=fun _=>Option Bool) (some false) (ob (some (eqI x.ar x.ar)) fun c=>Bool.rec (motive:=fun _=>Option Bool) (some false) (ob (some (eqI x.cl x.cl)) fun c=>Bool.rec (motive:=fun _=>Option Bool) (some false) (ob (some (eqI x.code x.code)) fun c=>Bool.rec (motive:=fun _=>Option Bool) (some false) (ob (some (dJ x.name.size (bT x.name.data.toList) x.name.size (bT x.name.data.toList))) fun c=>Bool.rec (motive:=fun _=>Option Bool) (some false) (ob (some (eqI x.n x.n)) fun c=>Bool.rec (motive:=fun _=>Option Bool) (some false) (some true) c) c) c) c) c) c)=some true
  rw [e1,e2,i1,i2,i3,i4]
  rfl
 show ob (fP h (.agg [.s,.i,.i,.i,.s,.i]) (.agg (flO x)) (.agg (flO x))) _=_
 rw [key]
 rfl
noncomputable section
def fr13(l:List Fl)(i:Nat):AL:=[(0,.lst l.length 6 (flL l)),(1,.lst l.length 6 (flL l)),(5,.int .i64 (Int.ofNat i))]
end
theorem f13(l:List Fl)(hl:l.length<9223372036854775807):ck Tryz.prog TP 13 [.lst l.length 6 (flL l),.lst l.length 6 (flL l)] (.bool true):=by
 obtain⟨v,c,rfl⟩:∃v,ck Tryz.prog TP 13 [.lst l.length 6 (flL l),.lst l.length 6 (flL l)] v∧v= .bool true:=by
  have pl:=Hd l
  refine cH Tryz.func13 (by decide) cf13_ok rfl (bO pl (bO pl px0)) rfl ?_
  repeat' (first
   |(refine WLg.mk ?_;first
   |refine aa rfl rfl rfl rfl ?_)
   |refine ah ?_|refine ac rfl ?_|refine ai ?_|refine ae ?_|refine aj ?_|refine al ?_
   |refine ak rfl (fun ht=>?_) (fun ht=>?_)|refine ap ?_|refine bE.norm ?_|refine bE.ret ?_|fail)
  ·exfalso
   have i4:eqI (Int.ofNat l.length) (Int.ofNat l.length)=true:=by rw [gD];simp
   rw [i4]at ht
   cases ht
  refine av (cy (l:=fr13 l 0) KT rfl) ?_
  refine aw l.length (fun i f h=>f=fr13 l i∧h=H0) ?_ (i:=0) (Nat.zero_le _) ⟨rfl,rfl⟩
  rintro i _ _ hi ⟨rfl,rfl⟩
  have hi2:i<9223372036854775807:=by omega
  have eqf:=G3 (EW l i) H0
  repeat' (first
   |(refine WLg.mk ?_;first
   |refine aa rfl rfl rfl rfl ?_)
   |(show WX _ _ _ _ _ _ _ _ _ _;first
   |refine aG rfl rfl rfl rfl ?_|refine aG rfl rfl (bM Hy) rfl ?_|refine aF rfl rfl (yj Hy) rfl ?_
   |refine aF rfl rfl (eqf) rfl ?_
   |refine aI (by repeat' (first|exact bD.nil|refine bD.any (fun h=>rfl) ?_|refine bD.first rfl ?_|refine bD.first (yj Hy) ?_|refine bD.snd (yj Hy) ?_|refine bD.any (fun h=>yj Hy) ?_|refine bD.first (eqf) ?_|refine bD.snd (eqf) ?_|refine bD.any (fun h=>eqf) ?_|refine bD.each (.cons rfl .nil) ?_|refine bD.each (.cons rfl (.cons rfl .nil)) ?_|refine bD.each (.cons rfl (.cons rfl (.cons rfl .nil))) ?_)) ?_)
   |refine ah ?_|refine ac rfl ?_|refine ai ?_|refine ae ?_|refine aj ?_|refine al ?_|refine aB rfl ?_
   |refine ak rfl (fun ht=>?_) (fun ht=>?_)|refine au ?_|refine ap ?_|refine aJ ?_|refine bE.norm ?_
   |refine bE.exit ?_|refine OnC.exit ?_|fail)
  ·exact .norm ⟨_,_,cy KI rfl,bK Hy,rfl,rfl⟩
  ·exact⟨.inr rfl,_,rfl,.flat rfl,rfl⟩
 exact c
theorem xc{f:FuncId} {fn:Func} {cf:CF} (k1:Tryz.prog.funcs[f]? =some fn) (k2:fn.name≠ "runtime.NumGoroutine") (k3:bG TP fn=some cf) {n:Nat} {vs:List V} {v:V} (hvs:∀v,v∈vs→bN v) (hv:bN v) (e:ob (enter eK n cf vs H0) (fun r=>some r.1)=some v):ck Tryz.prog TP f vs v:=by
 obtain⟨⟨v2,h'⟩,e0,q⟩:=bC.1 e
 cases q
 obtain⟨e1,e2⟩:=bJ.1 (show oif (Nat.beq (bU vs) cf.params) (ob (exec eK false n cf.code ⟨dE vs 0,[]⟩ H0) fun r=>
  match r.1 with
  |.exit _=>none
  |_=>ob (gj r.2.1 r.2.2 cf.results) fun l=>some (cX l,r.2.2))=some (v2,h')from e0)
 obtain⟨⟨x,f',h2⟩,e3,e4⟩:=bC.1 e2
 have hlen:vs.length=cf.params:=by rw [←@bS noE];exact Nat.eq_of_beq_eq_true e1
 have go:(x= .norm∨x= .ret)∧ob (gj f' h2 cf.results) (fun l=>some (cX l,h2))=some (v2,h'):=by
  cases x with
  |norm=>exact⟨.inl rfl,e4⟩
  |ret=>exact⟨.inr rfl,e4⟩
  |exit k=>cases e4
 obtain⟨hx,e5⟩:=go
 obtain⟨l,e6,e7⟩:=bC.1 e5
 cases e7
 exact(gN (K:=Kp) rm jt mixed k1 k2 k3 hlen (.exec e3) hx e6).conP jW hvs hv
theorem Fs(n1 c1:Nat)(v:Int)(n2 n3 n:Nat)(e f cs:List V):ob (enter eK 1 cf10 [.agg [.str n1 c1,.int .i64 v,.lst n2 2 e,.lst n3 3 f],.lst n 3 cs] H0) (fun r=>some r.1)=some (.agg [.str n1 c1,.int .i64 v,.lst n2 2 e,.lst n 3 cs]):=by kernel_rfl
theorem f10(m:Md)(l:List Fu):ck Tryz.prog TP 10 [.agg (mdO m),.lst l.length 3 (fuL l)] (.agg (mdO {m with funcs:=l})):=
 xc Tryz.func10 (by decide) cf10_ok (bO (.agg (fM m)) (bO (EB l) px0)) (.agg (fM _)) (Fs _ _ _ _ _ _ _ _ _)
theorem Ah{es:Nat}{h:H}{f:F}{t:Nat}{v:V}{cs:List V}{r:AL}(b0:h.blk 0=some (.ro 256 dS))(gl:GL es h v cs)(px:∀c,c∈cs→bN c)(e:lk f.loc t=some v)(kr:rk f.loc r)(n:Nat)(hn:cs.length=n*es)(he:0<es):ft TP Kp f h ⟨(t,.lst n es cs) ::r,[]⟩ H0:=by
 have u0:∀i,cI lp0 i→i=0:=fun i ⟨b,e⟩=>by
  cases i with
  |zero=>rfl
  |succ i=>cases e
 have dr:∀Z:Nat→Option (List V),(∀k cs,Z k=some cs→∃t up ch,h.blk k=some (.cells cs.length t up ch)∧∀j v,cs[j]? =some v→t.get j=some v)→(∀k cs,Z k=some cs→0≠k∧(∀d,¬Up h 0 k d)∧∀d,¬Up h k 0 d)→Vw TP h lp0 (fun i=>i) Z:=fun Z hz hu=>by
  refine⟨jW.len,fun i b' e=>?_,fun i j _ _ e=>e,fun i j d hi _=>?_,(fun k cs e _=>hz k cs e),fun k cs i e hi=>?_,fun q hq=>⟨rfl,jW.all q hq⟩⟩
  ·obtain rfl:=u0 i ⟨_,e⟩
   obtain rfl:Blk.ro 256 dS=b':=by cases e;rfl
   exact⟨_,b0,.ro fun j v e=>.flat (dW eD (by rw [fU];unfold bP;omega) e)⟩
  ·rw [u0 i hi]
   exact dF b0
  ·rw [u0 i hi]
   exact hu k cs e
 have fx:∀id,Kp id→cI lp0 id∧(fun i:Nat=>i) id=id:=fun id h=>by obtain rfl:id=0:=h;exact⟨⟨_,rfl⟩,rfl⟩
 cases gl with
 |none0=>
  obtain rfl:n=0:=by
   have:n*es=0:=hn.symm
   rcases Nat.mul_eq_zero.1 this with h|h
   ·exact h
   ·omega
  intro m N E0 g0 w0 E g w tmps s fr
  obtain⟨E1,g1,s1,fr1,k1⟩:=(dr (fun _=>none) (fun k cs e=>by cases e) (fun k cs e=>by cases e)).view fx (.inl fun _=>rfl) (f1:=f) (f':=⟨(t,.nils) ::r,[]⟩) ⟨fun p hp=>by
   rcases List.mem_cons.1 hp with rfl|hp
   ·exact⟨_,e,.pure (.flat rfl)⟩
   ·exact⟨_,(kr.mem p hp).1,.pure (kr.mem p hp).2⟩,fun p hp=>by cases hp⟩ m N E0 g0 w0 E g w tmps s fr
  refine⟨E1,g1,s1,⟨fr1.1,fun i v h=>?_⟩,k1⟩
  unfold rdn at h
  split at h
  ·rename_i hb
   have h:lk ((t,V.lst 0 es []) ::r) i=some v:=h
   by_cases q:t=i
   ·subst q
    have h2:lk ((t,V.lst 0 es []) ::r) t=some (V.lst 0 es []):=by rw [@dh noE,if_pos rfl]
    obtain rfl:V.lst 0 es []=v:=Option.some.inj (h2.symm.trans h)
    obtain⟨u,k1,k2⟩:=fr1.2 t .nils (by unfold rdn;rw [if_pos hb];show lk ((t,V.nils) ::r) t=_;rw [@dh noE,if_pos rfl])
    refine⟨u,k1,?_⟩
    cases k2
    exact @VR.lst0 E1 g1 es
   ·rw [@dh noE,if_neg q]at h
    exact fr1.2 i v (by unfold rdn;rw [if_pos hb];show lk ((t,V.nils) ::r) i=_;rw [@dh noE,if_neg q];exact h)
  ·cases h
 |@full b n' tr up ch cs hb hc hn' hl at_ lt=>
  obtain rfl:n=n':=Nat.eq_of_mul_eq_mul_right he (hn.symm.trans hl)
  intro m N E0 g0 w0 E g w tmps s fr
  have hne:0≠b:=fun q=>by rw [←q,b0]at hb;cases hb
  refine(dr (fun j=>if j=b then some cs else none) (fun k cs' e=>?_) (fun k cs' e=>?_)).view fx (.inr pn) (f1:=f) (f':=⟨(t,.lst n es cs) ::r,[]⟩) ⟨fun p hp=>?_,fun p hp=>by cases hp⟩ m N E0 g0 w0 E g w tmps s fr
  ·by_cases q:k=b
   ·subst q
    rw [if_pos rfl]at e
    cases e
    exact⟨_,_,_,by rw [hl];exact hb,fun i v hv=>at_ i v hv⟩
   ·rw [if_neg q]at e;cases e
  ·by_cases q:k=b
   ·subst q
    exact⟨hne,fun d=>dF b0,fun d u=>v6 s.sit.wr b0 u rfl⟩
   ·rw [if_neg q]at e;cases e
  ·rcases List.mem_cons.1 hp with rfl|hp
   ·exact⟨_,e,.fzs (k:=b) (by rw [if_pos rfl]) hl (RnL.pure px)⟩
   ·exact⟨_,(kr.mem p hp).1,.pure (kr.mem p hp).2⟩
theorem eN:∀l:List Fu,(fuL l).length=l.length*3
 |[]=>rfl
 |x ::l=>by
  show(fuO x++fuL l).length=_
  rw [List.length_append,eN l,List.length_cons]
  show 3+l.length*3=_
  omega
theorem yr:∀a b:List Fu,fuL (a++b)=fuL a++fuL b
 |[],b=>rfl
 |x ::a,b=>by
  show fuO x++fuL (a++b)=_
  rw [yr a b,←List.append_assoc]
  rfl
theorem C1(f:Fu):fuL [f]=fuO f:=List.append_nil _
end
section
theorem uF{E:En}{T:Ty}{g:G}{h:H}{w:World}(r:@WR E T g h w){i n:Nat}{tr:Tr V}{up:Option (Nat×Nat)}(e0:h.blk i=some (.cells n tr up false)){j l d:Nat}(u:Up h j l d):l=i→False:=by
 induction u with
 |one e k=>
  rintro rfl
  obtain⟨b',up',e',k',_⟩:=@WR.kids E _ _ _ _ r _ _ _ _ _ e k
  rw [e0]at e'
  cases e'
  cases k'
 |step e k u ih=>exact ih
theorem Fh{E:En}{T:Ty}{g:G}{h:H}{w:World}(r:@WR E T g h w){j l d:Nat}(u:Up h j l d):l<bP:=by
 induction u with
 |one e k=>
  obtain⟨b',up',e',k',_⟩:=@WR.kids E _ _ _ _ r _ _ _ _ _ e k
  exact Nat.lt_of_lt_of_le (@WR.top E _ _ _ _ r _ _ e') (@WR.bound E _ _ _ _ r)
 |step e k u ih=>exact ih
noncomputable section
def blG:Option (List V)→Option Blk
 |none=>none
 |some cs=>some (.cells (bU cs) (cE cs 0 .e) none false)
def lpG(L:List (Option (List V))):List (Option Blk):=some (.ro 256 dS) ::L.map blG
def HG(L:List (Option (List V)))(n:Nat):H:=⟨trO (lpG L) 0 .e,n⟩
def jM(ids:List Nat):Nat→Nat
 |0=>0
 |i+1=>(ids[i]?).getD 0
def jY:List V→Option (List V)
 |[]=>none
 |c ::cs=>some (c ::cs)
def jK(i es n:Nat):V:=match n with
 |0=>.nils
 |n+1=>.sl i 0 (n+1) 0 false es
end
theorem xC{L:List (Option (List V))}{i:Nat}(h:cI (lpG L) (i+1)):∃cs,L[i]? =some (some cs):=by
 obtain⟨b,e⟩:=h
 have e:(L.map blG)[i]? =some (some b):=e
 rw [List.getElem?_map]at e
 cases q:L[i]? with
 |none=>rw [q]at e;cases e
 |some o=>
  cases o with
  |none=>rw [q]at e;cases e
  |some cs=>exact⟨cs,rfl⟩
theorem jR{L:List (Option (List V))}{i:Nat}{cs:List V}(h:L[i]? =some (some cs)):cI (lpG L) (i+1):=by
 refine⟨.cells (bU cs) (cE cs 0 .e) none false,?_⟩
 show(L.map blG)[i]? =_
 rw [List.getElem?_map,h]
 rfl
inductive gW(h:H)(U:Nat→Prop)(ρ:Nat→Nat)(Z:Nat→Option (List V)):Nat→List (Option (List V))→Prop
 |nil {i:Nat}:gW h U ρ Z i []
 |none {i:Nat} {L:List (Option (List V))} (r:gW h U ρ Z (i+1) L):gW h U ρ Z i (none ::L)
 |some {i:Nat} {L:List (Option (List V))} {cs':List V} {tr:Tr V} {up:Option (Nat×Nat)} (hb:h.blk (ρ i)=some (.cells (bU cs') tr up false)) (hk:cs'.length≤bP) (at_:∀j v',cs'[j]? =some v'→∃v,tr.get j=some v∧Rn U ρ Z v' v) (r:gW h U ρ Z (i+1) L):gW h U ρ Z i (some cs' ::L)
theorem gW.get{h:H}{U:Nat→Prop}{ρ:Nat→Nat}{Z:Nat→Option (List V)}{i:Nat}{L:List (Option (List V))}(l:gW h U ρ Z i L):∀{k:Nat} {cs:List V},L[k]? =Option.some (Option.some cs)→∃tr up,h.blk (ρ (i+k))=Option.some (.cells (bU cs) tr up false)∧cs.length≤bP∧∀j v',cs[j]? =Option.some v'→∃v,tr.get j=Option.some v∧Rn U ρ Z v' v:=by
 induction l with
 |nil=>intro k cs e;simp at e
 |none r ih=>
  intro k cs e
  cases k with
  |zero=>simp at e
  |succ k=>
   have:=ih (k:=k) (by simpa using e)
   rwa [show ∀i:Nat,i+(k+1)=i+1+k by intro i;omega]
 |some hb hk at_ r ih=>
  intro k cs e
  cases k with
  |zero=>
   simp at e
   subst e
   exact⟨_,_,hb,hk,at_⟩
  |succ k=>
   have:=ih (k:=k) (by simpa using e)
   rwa [show ∀i:Nat,i+(k+1)=i+1+k by intro i;omega]
theorem AJ{ids:List Nat}(h:(0 ::ids).Nodup):∀{i j:Nat},i≤ids.length→j≤ids.length→jM ids i=jM ids j→i=j:=by
 have e:∀i,i≤ids.length→(0 ::ids)[i]? =some (jM ids i):=fun i hi=>by
  cases i with
  |zero=>rfl
  |succ i=>
   show ids[i]? =some ((ids[i]?).getD 0)
   rw [List.getElem?_eq_getElem (by omega)]
   rfl
 intro i j hi hj q
 have h1:=e i hi
 have h2:=e j hj
 rw [←q]at h2
 have l1:i<(0 ::ids).length:=by rw [List.length_cons];omega
 exact(List.getElem?_inj l1 h).1 (h1.trans h2.symm)
theorem tV{h:H}{f:F}{ids:List Nat}{L:List (Option (List V))}{Z:Nat→Option (List V)}{r:AL}{n:Nat}(hn:bU (lpG L)=n)(b0:h.blk 0=some (.ro 256 dS))(nd:(0 ::ids).Nodup)(hL:L.length≤ids.length)(hl:ids.length<1000)(live:gW h (cI (lpG L)) (jM ids) Z 1 L)
  (fz:∀k cs,Z k=some cs→k<bP→(∃tr up,h.blk k=some (.cells cs.length tr up false)∧∀j v,cs[j]? =some v→tr.get j=some v)∧k∉0 ::ids) (kr:∀p,p∈r→∃v,lk f.loc p.1=some v∧Rn (cI (lpG L)) (jM ids) Z p.2 v):ft TP Kp f h ⟨r,[]⟩ (HG L n):=by
 subst hn
 have hkk:1000<bP:=by unfold bP;omega
 have len:∀i,cI (lpG L) i→i≤ids.length:=fun i hi=>by
  cases i with
  |zero=>omega
  |succ i=>
   obtain⟨cs,e⟩:=xC hi
   have:=(List.getElem?_eq_some_iff.1 e).1
   omega
 have mem:∀i,i≤ids.length→jM ids i∈0 ::ids:=fun i hi=>by
  cases i with
  |zero=>exact List.mem_cons_self
  |succ i=>
   refine List.mem_cons_of_mem _ ?_
   show(ids[i]?).getD 0∈ids
   rw [List.getElem?_eq_getElem (by omega)]
   exact List.getElem_mem _
 intro m N E0 g0 w0 E g w tmps s fr
 have wr:=s.sit.wr
 have nu:∀i j d,cI (lpG L) j→¬Up h i (jM ids j) d:=fun i j d hj u=>by
  cases j with
  |zero=>exact v6 wr b0 u rfl
  |succ j=>
   obtain⟨cs,e⟩:=xC hj
   obtain⟨tr,up,k1,_⟩:=live.get e
   rw [Nat.add_comm 1 j]at k1
   exact uF wr k1 u rfl
 have V:Vw TP h (lpG L) (jM ids) Z:=by
  refine⟨?_,fun i b' e=>?_,fun i j hi hj q=>AJ nd (len i hi) (len j hj) q,fun i j d _ hj=>nu _ j d hj,fun k cs e hk=>?_,fun k cs i e hi=>⟨fun q=>?_,fun d u=>?_,fun d=>nu _ i d hi⟩,fun q hq=>?_⟩
  ·show(some (Blk.ro 256 dS) ::L.map blG).length≤bP
   rw [List.length_cons,List.length_map]
   omega
  ·cases i with
   |zero=>
    obtain rfl:Blk.ro 256 dS=b':=by cases e;rfl
    exact⟨_,b0,.ro fun j v e=>.flat (dW eD (by rw [fU];unfold bP;omega) e)⟩
   |succ i=>
    obtain⟨cs,e2⟩:=xC ⟨b',e⟩
    obtain⟨tr,up,k1,k2,k3⟩:=live.get e2
    rw [Nat.add_comm 1 i]at k1
    have e:(L.map blG)[i]? =some (some b'):=e
    rw [List.getElem?_map,e2]at e
    obtain rfl:Blk.cells (bU cs) (cE cs 0 .e) none false=b':=by cases e;rfl
    refine⟨_,k1,.cells fun j v hj e=>?_⟩
    rw [@bS noE]at hj
    rw [@cW noE cs 0 .e j (by omega),if_pos (by omega),Nat.sub_zero]at e
    exact k3 j v e
  ·obtain⟨⟨tr,up,k1,k2⟩,_⟩:=fz k cs e hk
   exact⟨tr,up,false,k1,k2⟩
  ·by_cases hk:k<bP
   ·exact(fz k cs e hk).2 (q▸mem i (len i hi))
   ·have h1:jM ids i<bP:=by
     cases i with
     |zero=>show 0<bP;omega
     |succ i=>
      obtain⟨cs,e⟩:=xC hi
      obtain⟨tr,up,k1,_⟩:=live.get e
      rw [Nat.add_comm 1 i]at k1
      exact Nat.lt_of_lt_of_le (@WR.top E TP g h w wr _ _ k1) (@WR.bound E TP g h w wr)
    omega
  ·have hk:=Fh wr u
   obtain⟨⟨tr,up,k1,_⟩,_⟩:=fz k cs e hk
   exact uF wr k1 u rfl
  ·have e:=jW.all q hq
   have hq':q.1=0:=by rw [ig]at hq;rw [List.mem_singleton.1 hq]
   rw [hq']at e ⊢
   exact⟨rfl,e⟩
 exact V.view (fun id h=>by obtain rfl:id=0:=h;exact⟨⟨_,rfl⟩,rfl⟩) (.inr pn) (f1:=f) (f':=⟨r,[]⟩) ⟨kr,fun p hp=>by cases hp⟩ m N E0 g0 w0 E g w tmps s fr
theorem glG{es i n:Nat}{h:H}{cs:List V}(hb:h.blk i=blG (jY cs))(hl:cs.length=n*es)(he:0<es)(hk:cs.length≤bP)(hn:i<h.next):GL es h (jK i es n) cs:=by
 cases cs with
 |nil=>
  obtain rfl:n=0:=by
   have:n*es=0:=hl.symm
   rcases Nat.mul_eq_zero.1 this with h|h
   ·exact h
   ·omega
  exact .none0
 |cons c cs=>
  cases n with
  |zero=>rw [Nat.zero_mul]at hl;cases hl
  |succ n=>
   have hb:h.blk i=some (.cells (bU (c ::cs)) (cE (c ::cs) 0 .e) none false):=hb
   rw [@bS noE,hl]at hb
   refine .full hb rfl (Nat.succ_pos n) hl (fun j v e=>?_) hn
   have hj:=(List.getElem?_eq_some_iff.1 e).1
   rw [@cW noE (c ::cs) 0 .e j (by omega),if_pos (by omega),Nat.sub_zero]
   exact e
theorem RnL.at{U:Nat→Prop}{ρ:Nat→Nat}{Z:Nat→Option (List V)}:∀{a b:List V},RnL U ρ Z a b→∀{j:Nat} {v':V},a[j]? =Option.some v'→∃v,b[j]? =Option.some v∧Rn U ρ Z v' v
 |_,_,.nil,j,v',e=>by simp at e
 |_,_,.cons h t,j,v',e=>by
  cases j with
  |zero=>
   simp at e
   subst e
   exact⟨_,rfl,h⟩
  |succ j=>exact RnL.at t (by simpa using e)
theorem RnL.app{U:Nat→Prop}{ρ:Nat→Nat}{Z:Nat→Option (List V)}:∀{a b a' b':List V},RnL U ρ Z a b→RnL U ρ Z a' b'→RnL U ρ Z (a++a') (b++b')
 |_,_,_,_,.nil,k=>k
 |_,_,_,_,.cons h t,k=>.cons h (RnL.app t k)
theorem gW.gl{h:H}{U:Nat→Prop}{ρ:Nat→Nat}{Z:Nat→Option (List V)}{i es:Nat}{L:List (Option (List V))}{v:V}{cs cs':List V}(g:GL es h v cs)(hv:∀b n,v= .sl b 0 n 0 false es→ρ i=b)(hr:RnL U ρ Z cs' cs)(hk:cs.length≤bP)(r:gW h U ρ Z (i+1) L):gW h U ρ Z i (jY cs' ::L):=by
 cases g with
 |none0=>cases hr;exact .none r
 |@full b n tr up ch cs hb hc hn hl at_ lt=>
  have el:=RnL.length hr
  cases cs' with
  |nil=>exact .none r
  |cons c cs'=>
   subst hc
   refine .some (cs':=c ::cs') (by rw [hv b n rfl,@bS noE,el,hl];exact hb) (by rw [el];exact hk) (fun j v' e=>?_) r
   obtain⟨v,e1,e2⟩:=RnL.at hr e
   exact⟨v,at_ j v e1,e2⟩
theorem gW.box{h:H}{U:Nat→Prop}{ρ:Nat→Nat}{Z:Nat→Option (List V)}{i b n:Nat}{L:List (Option (List V))}{tr:Tr V}{up:Option (Nat×Nat)}{cs':List V}(hb:h.blk b=Option.some (.cells n tr up false))(hi:ρ i=b)(hn:bU cs'=n)(hk:cs'.length≤bP)(at_:∀j v',cs'[j]? =Option.some v'→∃v,tr.get j=Option.some v∧Rn U ρ Z v' v)(r:gW h U ρ Z (i+1) L):gW h U ρ Z i (Option.some cs' ::L):= .some (by rw [hi,hn];exact hb) hk at_ r
theorem Rn.gl{h:H}{U:Nat→Prop}{ρ:Nat→Nat}{Z:Nat→Option (List V)}{i es n:Nat}{v:V}{cs:List V}(g:GL es h v cs)(hv:∀b n,v= .sl b 0 n 0 false es→ρ i=b)(hl:cs.length=n*es)(he:0<es)(hu:cs≠[]→U i):Rn U ρ Z (jK i es n) v:=by
 cases g with
 |none0=>
  obtain rfl:n=0:=by
   have:n*es=0:=hl.symm
   rcases Nat.mul_eq_zero.1 this with h|h
   ·exact h
   ·omega
  exact .pure (.flat rfl)
 |@full b n' tr up ch cs hb hc hn hl' at_ lt=>
  obtain rfl:n=n':=Nat.eq_of_mul_eq_mul_right he (hl.symm.trans hl')
  cases n with
  |zero=>omega
  |succ n=>
   have:=hv b (n+1) rfl
   subst this
   exact .sl (hu fun q=>by rw [q]at hl;rw [Nat.add_mul,Nat.one_mul]at hl;simp at hl;omega)
theorem Rn.glz{h:H}{U:Nat→Prop}{ρ:Nat→Nat}{Z:Nat→Option (List V)}{es n:Nat}{v:V}{cs cs' a:List V}(g:GL es h v cs)(hz:∀b n,v= .sl b 0 n 0 false es→Z b=some cs)(z0:Z bP=some a)(hl:cs.length=n*es)(he:0<es)(hr:RnL U ρ Z cs' cs):Rn U ρ Z (.lst n es cs') v:=by
 cases g with
 |none0=>
  obtain rfl:n=0:=by
   have:n*es=0:=hl.symm
   rcases Nat.mul_eq_zero.1 this with h|h
   ·exact h
   ·omega
  cases hr
  exact .nil0 z0
 |@full b n' tr up ch cs hb hc hn hl' at_ lt=>
  obtain rfl:n=n':=Nat.eq_of_mul_eq_mul_right he (hl.symm.trans hl')
  exact .fzs (hz b n rfl) hl hr
inductive ko(U:Nat→Prop)(ρ:Nat→Nat)(Z:Nat→Option (List V))(f:AL):AL→Prop
 |nil:ko U ρ Z f []
 |cons {t:Nat} {v v':V} {l:AL} (e:lk f t=some v) (p:Rn U ρ Z v' v) (r:ko U ρ Z f l):ko U ρ Z f ((t,v') ::l)
theorem ko.mem{U:Nat→Prop}{ρ:Nat→Nat}{Z:Nat→Option (List V)}{f:AL}:∀{l:AL},ko U ρ Z f l→∀p,p∈l→∃v,lk f p.1=some v∧Rn U ρ Z p.2 v
 |_,.nil,p,h=>by cases h
 |_,.cons e q r,p,h=>by
  rcases List.mem_cons.1 h with rfl|h
  ·exact⟨_,e,q⟩
  ·exact ko.mem r p h
def Zn:Nat→Option (List V):=fun k=>if k=bP then some []else none
theorem Dz:Zn bP=some []:=if_pos rfl
theorem yL{k:Nat}{cs:List V}{Q:Prop}(e:Zn k=some cs)(hk:k<bP):Q:=by
 unfold Zn at e
 rw [if_neg (by omega)]at e
 cases e
def Zo(b:Nat)(cs:List V):Nat→Option (List V):=fun k=>if k=b then jY cs else if k=bP then some []else none
theorem Dy{b:Nat}{cs:List V}(h:b<bP):Zo b cs bP=some []:=by
 unfold Zo
 rw [if_neg (by omega),if_pos rfl]
theorem Dx{b k:Nat}{cs cs':List V}(e:Zo b cs k=some cs')(hk:k<bP):k=b∧cs'=cs∧cs≠[]:=by
 unfold Zo at e
 by_cases q:k=b
 ·rw [if_pos q]at e
  cases cs with
  |nil=>cases e
  |cons c cs=>cases e;exact⟨q,rfl,by simp⟩
 ·rw [if_neg q,if_neg (by omega)]at e
  cases e
theorem G7{b:Nat}{c:V}{cs:List V}:Zo b (c ::cs) b=some (c ::cs):=if_pos rfl
theorem xq{U:Nat→Prop}{ρ:Nat→Nat}{Z:Nat→Option (List V)}{cs cs':List V}{tr:Tr V}(hr:RnL U ρ Z cs' cs)(h:∀j v,cs[j]? =some v→tr.get j=some v):∀j v',cs'[j]? =some v'→∃v,tr.get j=some v∧Rn U ρ Z v' v:=fun j v' e=>by
 obtain⟨v,e1,e2⟩:=RnL.at hr e
 exact⟨v,h j v e1,e2⟩
theorem pq{cs:List V}(h:cs.length≤bP):∀j v,cs[j]? =some v→(cE cs 0 .e).get j=some v:=fun j v e=>by
 have hj:=(List.getElem?_eq_some_iff.1 e).1
 rw [@cW noE cs 0 .e j (by omega),if_pos (by omega),Nat.sub_zero]
 exact e
end
section
theorem eZ{σ:Type}{f g:Nat→σ→σ}{s:σ}:∀{n:Nat},(∀i,i<n→∀s,f i s=g i s)→cj f s n=cj g s n
 |0,_=>rfl
 |n+1,h=>by
  show f n (cj f s n)=g n (cj g s n)
  rw [eZ fun i hi=>h i (by omega),h n (by omega)]
def AG(E E':XF)(t:Nat):Prop:=∀x,bF (exO x)<t→∀p s fl,E p x s fl=E' p x s fl
section
variable {E E':XF} {t:Nat} (A:AG E E' t)
include A
theorem BC{l:List Ex}(h:bF (exL l)<t)(p:Pl)(s:Sc)(fl:List Fl):lW E p l s fl=lW E' p l s fl:=eZ fun i hi fl=>A _ (by have:=sk (ltb hi);omega) p s fl
theorem Ck{s:Sm}(h:bF (smO s)<t)(p:Pl)(st:Sc×List Fl):gZ E p s st=gZ E' p s st:=by
 have hz:=lU s
 unfold gZ
 rw [A s.val (by omega),A s.val (by omega)]
theorem nB{l:List Sm}(h:bF (smL l)<t)(p:Pl)(s:Sc)(fl:List Fl):ju E p l s fl=ju E' p l s fl:=by
 unfold ju
 rw [eZ fun i hi st=>Ck A (by have:=xK (ltb hi);omega) p st]
theorem CZ{c:Cl}(h:bF (clO c)<t)(p:Pl)(st:Sc×List Fl):EQ E p c st=EQ E' p c st:=nB A (by have:=ff c;omega) p _ _
theorem yl{c:Cl}(h:bF (clO c)<t)(p:Pl)(s:Sc)(fl:List Fl):qB E p c s fl=qB E' p c s fl:=CZ A h p _
theorem yE{l:List Cl}(h:bF (clL l)<t)(p:Pl)(s:Sc)(fl:List Fl):qV E p l s fl=qV E' p l s fl:=eZ fun i hi fl=>yl A (by have:=jr (ltb hi);omega) p s fl
theorem B3{l:List Sg}(h:bF (sgL l)<t)(p:Pl)(s:Sc)(fl:List Fl):yJ E p l s fl=yJ E' p l s fl:=eZ fun i hi fl=>by
 have h1:=ul (ltb hi)
 have h2:=kJ (ce l i)
 unfold re
 rw [A _ (by omega),A _ (by omega)]
theorem CV{n:Int}{y:Cl}(h:bF (clO y)<t)(p:Pl)(s:Sc)(fl:List Fl):wi E p n y s fl=wi E' p n y s fl:=yl A h p _ _
theorem C0{x:Ex}(h:bF (clL x.clauses)<t)(p:Pl)(s:Sc)(fl:List Fl):Bt E p x s fl=Bt E' p x s fl:=eZ fun i hi fl=>CV A (by have:=jr (ltb hi);omega) p s fl
theorem Ao(D:Df):AG (ip D E) (ip D E') (t+1):=fun x hx p s fl=>by
 have hz:=dL x
 unfold ip vu
 simp only [BC A (show bF (exL x.items)<t by omega),B3 A (show bF (sgL x.segs)<t by omega),C0 A (show bF (clL x.clauses)<t by omega),nB A (show bF (smL x.body)<t by omega),nB A (show bF (smL x.after)<t by omega),yE A (show bF (clL x.clauses)<t by omega),yE A (show bF (clL x.catches)<t by omega)]
end
theorem qL(D:Df):∀n,AG (lX D n) (lX D (n+1)) n
 |0=>fun x hx=>by omega
 |n+1=>Ao (qL D n) D
noncomputable section
def mC(l:List Sm):Ex:= .mk 15 0 ⟨#[]⟩ ⟨#[]⟩ [] [] [] [] l [] false
def iS(l:List Sm):Sm:= .mk false ex0 (mC l)
def fD(c:Cl):Cl:= .mk c.name c.pats c.guards [iS c.body]
def dU(f:Fu):Fu:={f with clauses:=f.clauses.map fD}
def fJ(m:Md):Md:={m with funcs:=m.funcs.map dU}
end
theorem zE(D:Df)(p:Pl){l:List Sm}(hl:bF (smL l)≤5900000)(s:Sc)(fl:List Fl):lX D B6 p (mC l) s fl=ju (lX D B6) p l s fl:=by
 obtain⟨k,e,hk⟩:∃k,B6=k+1∧bF (smL l)<k:=⟨B6-1,by have:=yQ;omega,by have:=yQ;omega⟩
 rw [e]
 exact nB (qL D k) hk p s fl
theorem Bk(D:Df)(p:Pl){c:Cl}(hl:bF (smL c.body)≤5900000)(s:Sc)(fl:List Fl):qB (lX D B6) p (fD c) s fl=qB (lX D B6) p c s fl:=zE D p hl _ _
theorem B0{l:List Cl}{i:Nat}(h:i<l.length):bL (l.map fD) i=fD (bL l i):=by
 unfold bL
 rw [List.getElem?_map,List.getElem?_eq_getElem h]
 rfl
theorem Bw{l:List Fu}{i:Nat}(h:i<l.length):cJ (l.map dU) i=dU (cJ l i):=by
 unfold cJ
 rw [List.getElem?_map,List.getElem?_eq_getElem h]
 rfl
theorem BA(D:Df){f:Fu}(hf:bF (fuO f)≤5900000){i:Nat}(hi:i<f.clauses.length)(fl:List Fl):ry D (dU f) i fl=ry D f i fl:=by
 have h1:=jr (ltb hi)
 have h2:=ff (bL f.clauses i)
 have h3:=iN f
 have e:bL (dU f).clauses i=fD (bL f.clauses i):=B0 hi
 unfold ry
 rw [e,Bk D _ (by omega)]
 rfl
theorem C3(D:Df){f:Fu}(hf:bF (fuO f)≤5900000)(a:Bool)(fl:List Fl):fnF D (dU f) a fl=fnF D f a fl:=by
 have e:(dU f).clauses.length=f.clauses.length:=List.length_map ..
 unfold fnF
 rw [e]
 exact eZ fun i hi fl=>BA D hf hi fl
theorem uQ(l:List Fu):(l.map dU).map kF=l.map kF:=by
 rw [List.map_map]
 rfl
theorem Db(m:Md):dfM (fJ m)=dfM m:=by
 funext n a
 unfold dfM
 rw [show(fJ m).funcs.map kF=m.funcs.map kF from uQ _]
theorem zV{m:Md}(hm:bF (mdO m)≤5900000):sz (fJ m)=sz m:=by
 have hz:=mU m
 have e:(fJ m).funcs.length=m.funcs.length:=List.length_map ..
 unfold sz
 rw [Db,e]
 refine eZ fun i hi fl=>?_
 have h1:cJ (fJ m).funcs i=dU (cJ m.funcs i):=Bw hi
 have h2:kG (fJ m) i=kG m i:=by
  unfold kG
  rw [h1,show(fJ m).funcs.take i=(m.funcs.take i).map dU from(List.map_take ..).symm,uQ]
  rfl
 have h3:=oK (ltb hi)
 rw [h1,h2]
 exact C3 _ (by omega) _ _
end
section
theorem lz0{n es:Nat}{cs:List V}(h:lz (.lst n es cs)=true):n=0:=by
 have:eqI (Int.ofNat n) 0=true:=h
 rw [gD]at this
 have:=of_decide_eq_true this
 simpa using this
theorem nS{α:Type}{l:List α}{es:Nat}{cs:List V}(h:lz (.lst l.length es cs)=true):l=[]:=List.eq_nil_of_length_eq_zero (lz0 h)
theorem Ff{x:Ex}(h:zB (ndL x)=true):∀i v,1≤i→(ndL x)[i]? =some v→lz v=true:=by
 have sh:=v7 x
 unfold zB at h
 rw [sC]at h
 generalize ndL x=l at h sh
 cases sh with
 |mk h1 h2 h3 h4 h5 h6=>
  intro i v hi hv
  simp only [List.tail_cons,zq,Bool.and_eq_true]at h
  match i,hi,hv with
  |1,_,hv=>cases hv;rfl
  |2,_,hv=>cases hv;rfl
  |3,_,hv=>cases hv;rfl
  |4,_,hv=>cases hv;simp_all
  |5,_,hv=>cases hv;simp_all
  |6,_,hv=>cases hv;simp_all
  |7,_,hv=>cases hv;simp_all
  |8,_,hv=>cases hv;simp_all
  |9,_,hv=>cases hv;simp_all
  |10,_,hv=>cases hv;rfl
  |i+11,_,hv=>simp at hv
theorem G6{c:Prop}[Decidable c]{a b:List V}{v:Option V}(h1:c→a[5]? =v)(h2:¬c→b[5]? =v):(if c then a else b)[5]? =v:=by
 by_cases q:c
 ·rw [if_pos q]
  exact h1 q
 ·rw [if_neg q]
  exact h2 q
theorem CR{x:Ex}(h:x.kind≠8):(ndL x)[5]? =some (.lst x.segs.length 27 (sgL x.segs)):=by
 have h8:eqI x.kind 8=false:=by rw [gD];exact decide_eq_false h
 unfold ndL ctL
 rw [h8]
 repeat' (refine G6 (fun h=>?_) (fun h=>?_))
 all_goals first
  |rfl
  |exact absurd h Bool.false_ne_true
theorem CT{x:Ex}(h:x.kind=8):ndL x=(exO x).set 5 .nils:=by
 unfold ndL
 rw [h]
 rfl
theorem mw{x:Ex}(h:cQ x=true):dC x=bX x:=by
 rw [jQ,Bool.and_eq_true,Bool.and_eq_true]at h
 have z:=Ff h.2.1
 unfold dC bX
 by_cases q:x.kind=17
 ·rw [if_pos q,if_pos q,List.append_assoc]
 ·rw [if_neg q,if_neg q]
  by_cases q8:x.kind=8
  ·rw [if_pos q8]
   rw [CT q8]at z
   have e4:x.items=[]:=nS (z 4 _ (by decide) rfl)
   have e6:x.clauses=[]:=nS (z 6 _ (by decide) rfl)
   have e7:x.catches=[]:=nS (z 7 _ (by decide) rfl)
   have e8:x.body=[]:=nS (z 8 _ (by decide) rfl)
   have e9:x.after=[]:=nS (z 9 _ (by decide) rfl)
   rw [e4,e6,e7,e8,e9]
   simp [clK,cR]
  ·have e5:x.segs=[]:=nS (z 5 _ (by decide) (CR q8))
   rw [if_neg q8,e5]
   simp [mN,List.append_assoc]
theorem lE{x:Ex}(h:cQ x=true){y:Ex}(hy:y∈dC x):cQ y=true:=by
 rw [jQ,Bool.and_eq_true,Bool.and_eq_true]at h
 exact List.all_eq_true.1 h.2.2 y hy
theorem fj{α β:Type}{f g:α→β}:∀{l:List α},(∀y,y∈l→f y=g y)→l.map f=l.map g
 |[],_=>rfl
 |a ::l,h=>by rw [List.map_cons,List.map_cons,h a List.mem_cons_self,fj fun y hy=>h y (List.mem_cons_of_mem _ hy)]
theorem jv{α:Type}{f g:α→Bool}:∀{l:List α},(∀y,y∈l→f y=g y)→l.any f=l.any g
 |[],_=>rfl
 |a ::l,h=>by rw [List.any_cons,List.any_cons,h a List.mem_cons_self,jv fun y hy=>h y (List.mem_cons_of_mem _ hy)]
theorem Ac:∀(n:Nat) (x:Ex),bF (exO x)≤n→cQ x=true→wN x=cnt x
 |0,x,h,_=>by have:=hO x;omega
 |n+1,x,h,w=>by
  rw [Ab,xf,←mw w]
  rw [fj fun y hy=>Ac n y (by have:=eU hy;omega) (lE w hy)]
theorem EH(x:Ex):ndF x=if x.kind=13 then 1 else 0:=by
 by_cases q:x.kind=13
 ·unfold ndF ctF
  rw [q]
  rfl
 ·have q13:eqI x.kind 13=false:=by rw [gD];exact decide_eq_false q
  unfold ndF ctF
  rw [q13,if_neg q]
  simp
theorem vb{f:Ex→List Ex}:∀l:List Ex,(l.map f).flatten.length=(l.map fun y=>(f y).length).sum
 |[]=>rfl
 |a ::l=>by rw [List.map_cons,List.flatten_cons,List.length_append,vb l,List.map_cons,List.sum_cons]
theorem xA:∀(n:Nat) (x:Ex),bF (exO x)≤n→cQ x=true→wF x=(dK x).length
 |0,x,h,_=>by have:=hO x;omega
 |n+1,x,h,w=>by
  rw [Af,mX,←mw w,List.length_append,vb,EH]
  rw [fj (f:=wF) fun y hy=>xA n y (by have:=eU hy;omega) (lE w hy)]
  split<;>rfl
theorem Ba{f:Ex→Nat}:∀{l:List Ex} {a:Nat},a≤(l.map f).foldl max a∧∀y,y∈l→f y≤(l.map f).foldl max a
 |[],a=>⟨Nat.le_refl _,fun y h=>by cases h⟩
 |x ::l,a=>by
  have ih:=Ba (f:=f) (l:=l) (a:=max a (f x))
  refine⟨Nat.le_trans (Nat.le_max_left _ _) ih.1,fun y hy=>?_⟩
  rcases List.mem_cons.1 hy with rfl|hy
  ·exact Nat.le_trans (Nat.le_max_right _ _) ih.1
  ·exact ih.2 y hy
theorem pI{x y:Ex}(w:cQ x=true)(h:y∈dC x):dep y+1≤dep x:=by
 rw [mw w]at h
 have:=(Ba (f:=dep) (l:=bX x) (a:=0)).2 y h
 have:=tw x
 omega
theorem DO{d:Nat}(h:d≤60):ltI 60 (Int.ofNat d)=false:=by
 rw [fk]
 exact decide_eq_false (by
  have:(d:Int)≤60:=by omega
  show ¬(60:Int)<(d:Int)
  omega)
theorem Dc(x:Ex):1≤dep x:=by rw [tw];omega
theorem Ad:∀(n:Nat) (x:Ex),bF (exO x)≤n→cQ x=true→∀d d',d+dep x≤61→d'+dep x≤61→wL d x=wL d' x
 |0,x,h,_=>by have:=hO x;omega
 |n+1,x,h,w=>fun d d' k k'=>by
  have:=Dc x
  rw [xz,xz,DO (by omega),DO (by omega)]
  rw [jv fun y hy=>Ad n y (by have:=eU hy;omega) (lE w hy) (d+1) (d'+1) (by have:=pI w hy;omega) (by have:=pI w hy;omega)]
theorem lj(l:List Sm):dC (mC l)=cR l:=by
 unfold dC
 rw [if_neg (show ¬(mC l).kind=17 from(by decide:¬(15:Int)=17))]
 simp [mC,Ex.segs,Ex.items,Ex.body,Ex.clauses,Ex.catches,Ex.after,mN,clK,cR]
theorem D2(l:List Sm):zB (ndL (mC l))=true:=by
 unfold zB
 rw [sC]
 rfl
theorem z7(l:List Sm):cQ (mC l)=(ltI 0 (Int.ofNat l.length)&&(bdB l&&(cR l).all cQ)):=by
 rw [jQ,D2,lj,Bool.true_and,show ndB (mC l)=(ltI 0 (Int.ofNat l.length)&&bdB l)from rfl,Bool.and_assoc]
theorem D1:zvB (.agg (exO ex0))=true:=by
 rw [sC]
 rfl
theorem f78b(b:List Sm):ck Tryz.prog TP 78 [.agg (smO (iS b))] (.bool false):=by
 obtain⟨v,c,rfl⟩:∃v,ck Tryz.prog TP 78 [.agg (smO (iS b))] v∧v= .bool false:=by
  refine cH Tryz.func78 (by decide) cf78_ok rfl (bO (pxm (iS b)) px0) rfl ?_
  have c62:=f62z (yc ex0)
  rw [D1]at c62
  have hm:(iS b).isMatch=false:=rfl
  repeat' (first
   |(refine WLg.mk ?_;first
   |refine aa rfl rfl rfl rfl ?_
   |refine ab rfl rfl (show ROp.run (.load true 11) [.eptr (smO (iS b)) 1] _=some (.agg (exO ex0))from rfl) rfl ?_
   |refine ab rfl rfl rfl rfl ?_
   |refine az rfl rfl RA rfl PB rfl ?_
   |refine aq rfl rfl rfl (c62) rfl ?_)
   |refine ah ?_|refine ac rfl ?_|refine ai ?_|refine ae ?_|refine ap ?_|refine bE.norm ?_|fail)
  all_goals exact⟨.inr rfl,_,rfl,.flat rfl,rfl⟩
 exact c
theorem f110b(b:List Sm):ck Tryz.prog TP 110 [.lst 1 23 (smL [iS b]),.func (.func 78) [] []] (.int .i64 (-1)):=by
 obtain⟨v,c,rfl⟩:∃v,ck Tryz.prog TP 110 [.lst 1 23 (smL [iS b]),.func (.func 78) [] []] v∧v= .int .i64 (-1):=by
  refine cH Tryz.func110 (by decide) cf110_ok rfl (bO (pxM [iS b]) (bO (pxF 78) px0)) rfl ?_
  have pf:=pxF 78
  repeat' (first
   |(refine WLg.mk ?_;first
   |refine aa rfl rfl rfl rfl ?_)
   |refine ah ?_|refine ac rfl ?_|refine ai ?_|refine ae ?_|refine aj ?_|refine bE.norm ?_|fail)
  refine av (cy (l:=fr110 78 [iS b] 0) KT rfl) ?_
  refine aw 1 (fun i x h=>x=fr110 78 [iS b] i∧h=H0) ?_ (i:=0) (Nat.zero_le _) ⟨rfl,rfl⟩
  rintro i _ _ hi ⟨rfl,rfl⟩
  have hi2:i<9223372036854775807:=by omega
  cases i with
  |zero=>
   repeat' (first
    |(refine WLg.mk ?_;first
    |refine aa rfl rfl rfl rfl ?_|refine ab rfl rfl (gU (l:=[iS b]) (i:=0) rfl) rfl ?_|refine aq rfl rfl rfl (f78b b) rfl ?_)
    |refine ah ?_|refine ac rfl ?_|refine ai ?_|refine ae ?_|refine aj ?_|refine al ?_|refine aC rfl ?_
    |refine aB rfl ?_|refine bE.norm ?_|fail)
   all_goals exact .norm ⟨_,_,cy KI rfl,Nat.zero_lt_one,rfl,rfl⟩
  |succ i=>
   obtain rfl:i=0:=by omega
   repeat' (first
    |(refine WLg.mk ?_;first
    |refine aa rfl rfl rfl rfl ?_)
    |refine ah ?_|refine ac rfl ?_|refine ai ?_|refine ae ?_|refine aB rfl ?_|refine au ?_|refine ap ?_
    |refine bE.norm ?_|refine bE.exit ?_|refine OnC.exit ?_|fail)
   all_goals exact⟨.inr rfl,_,rfl,.flat rfl,rfl⟩
 exact c
theorem f60b(b:List Sm):ck Tryz.prog TP 60 [.lst 1 23 (smL [iS b])] (.bool true):=by
 have c77:ck Tryz.prog TP 77 [.lst 1 23 (smL [iS b]),.func (.func 78) [] []] (.bool false):=by
  obtain⟨v,c,rfl⟩:∃v,ck Tryz.prog TP 77 [.lst 1 23 (smL [iS b]),.func (.func 78) [] []] v∧v= .bool false:=by
   refine cH Tryz.func77 (by decide) cf77_ok rfl (bO (pxM [iS b]) (bO (pxF 78) px0)) rfl ?_
   repeat' (first
    |(refine WLg.mk ?_;first
    |refine aa rfl rfl rfl rfl ?_|refine aq rfl rfl rfl (f110b b) rfl ?_)
    |refine ah ?_|refine ac rfl ?_|refine ai ?_|refine ae ?_|refine ap ?_|refine bE.norm ?_|fail)
   all_goals exact⟨.inr rfl,_,rfl,.flat rfl,rfl⟩
  exact c
 obtain⟨v,c,rfl⟩:∃v,ck Tryz.prog TP 60 [.lst 1 23 (smL [iS b])] v∧v= .bool true:=by
  refine cH Tryz.func60 (by decide) cf60_ok rfl (bO (pxM [iS b]) px0) rfl ?_
  repeat' (first
   |(refine WLg.mk ?_;first
   |refine aa rfl rfl rfl rfl ?_|refine aq rfl rfl rfl (c77) rfl ?_)
   |refine ah ?_|refine ac rfl ?_|refine ai ?_|refine ae ?_|refine ap ?_|refine bE.norm ?_|fail)
  all_goals exact⟨.inr rfl,_,rfl,.flat rfl,rfl⟩
 exact c
theorem Dt(b:List Sm):bdB [iS b]=true:=CI (f60b b)
noncomputable def A4(c:Cl):Bool:=okC (-1) true c&&(c.pats++(gdK c.guards++cR c.body)).all cQ
theorem tI:∀l:List Cl,(clB (-1) true l&&(clK l).all cQ)=l.all A4
 |[]=>rfl
 |c ::l=>by
  have ih:=tI l
  unfold clB at ih ⊢
  rw [List.all_cons,List.all_cons,clK,List.all_append,←ih,A4]
  cases okC (-1) true c<;>cases(c.pats++(gdK c.guards++cR c.body)).all cQ<;>simp
theorem zd(n:Nat):eqI (Int.ofNat n) 0= !ltI 0 (Int.ofNat n):=by
 rw [gD,fk]
 cases n with
 |zero=>rfl
 |succ n=>
  simp
  omega
theorem A3(c:Cl):A4 (fD c)=A4 c:=by
 have e1:bdB (fD c).body=true:=Dt c.body
 have e2:cR (fD c).body=[mC c.body]:=rfl
 have e3:(fD c).pats=c.pats:=rfl
 have e4:(fD c).guards=c.guards:=rfl
 have e5:(fD c).name=c.name:=rfl
 have e6:eqI (Int.ofNat (fD c).body.length) 0=false:=rfl
 unfold A4 okC
 rw [e1,e2,e3,e4,e5,e6,List.all_append,List.all_append,List.all_append,List.all_append,List.all_cons,List.all_nil,z7,zd]
 cases ltI 0 (Int.ofNat c.body.length)<;>cases bdB c.body<;>cases(cR c.body).all cQ<;>cases c.pats.all cQ<;>cases(gdK c.guards).all cQ<;>simp
theorem vE{α:Type}{f:α→Bool}{g:α→α}(h:∀x,f (g x)=f x)(l:List α):(l.map g).all f=l.all f:=by
 rw [List.all_map]
 congr 1
 funext x
 exact h x
theorem r7(l:List Cl):(j9 (l.map fD)).name=(j9 l).name∧(j9 (l.map fD)).pats=(j9 l).pats:=by
 cases l<;>exact⟨rfl,rfl⟩
theorem pC(f:Fu):okF (dU f)=okF f:=by
 have e1:(dU f).clauses=f.clauses.map fD:=rfl
 have e2:(dU f).name=f.name:=rfl
 have e3:(dU f).arity=f.arity:=rfl
 unfold okF
 rw [tI,tI,e1,e2,e3,(r7 f.clauses).1,(r7 f.clauses).2,vE A3,List.length_map]
theorem qg{f:Fu}(h:okF f=true):∀y,y∈clK f.clauses→cQ y=true:=by
 unfold okF at h
 simp only [Bool.and_eq_true]at h
 exact fun y hy=>List.all_eq_true.1 h.2.2.2.2 y hy
theorem yw{f:Fu}(h:okF f=true):fN f=mn f:=by
 unfold fN mn
 rw [fj fun y hy=>Ac _ y (Nat.le_refl _) (qg h y hy)]
theorem BB{f:Fu}(h:okF f=true):fF f=fnn f:=by
 unfold fF fnn
 rw [fj fun y hy=>xA _ y (Nat.le_refl _) (qg h y hy)]
theorem Dl{l:List Cl}{c:Cl}{y:Ex}(hc:c∈l)(hy:y∈c.pats++(gdK c.guards++cR c.body)):y∈clK l:=by
 induction l with
 |nil=>cases hc
 |cons a l ih=>
  rw [clK]
  rcases List.mem_cons.1 hc with rfl|hc
  ·exact List.mem_append.2 (.inl hy)
  ·exact List.mem_append.2 (.inr (ih hc))
theorem tL{p:Ex→Bool}:∀l:List Cl,(clK l).any p=l.any fun c=>(c.pats++(gdK c.guards++cR c.body)).any p
 |[]=>rfl
 |c ::l=>by rw [clK,List.any_append,List.any_cons,tL l]
theorem nT{n b:Nat}(h:n≤b):ltI (Int.ofNat b) (Int.ofNat n)=false:=by
 rw [fk]
 exact decide_eq_false (by
  show ¬(b:Int)<(n:Int)
  omega)
theorem EY{f:Fu}(h:okF f=true)(h1:mn f≤4000)(h2:mn (dU f)≤4000)(d2:∀y,y∈clK (dU f).clauses→dep y≤60):fL (dU f)=fL f:=by
 have k:okF (dU f)=true:=(pC f).trans h
 have e1:clG (dU f).clauses=clG f.clauses:=by
  show clG (f.clauses.map fD)=_
  unfold clG
  rw [List.length_map,List.any_map]
  rfl
 have e2:(clK (dU f).clauses).any (wL 1)=(clK f.clauses).any (wL 1):=by
  show(clK (f.clauses.map fD)).any (wL 1)=_
  rw [tL,tL,List.any_map]
  refine jv fun c hc=>?_
  show(c.pats++(gdK c.guards++[mC c.body])).any (wL 1)=_
  have hb:mC c.body∈clK (dU f).clauses:=Dl (c:=fD c) (List.mem_map.2 ⟨c,hc,rfl⟩) (List.mem_append.2 (.inr (List.mem_append.2 (.inr List.mem_cons_self))))
  have wb:=qg k _ hb
  have db:=d2 _ hb
  rw [List.any_append,List.any_append,List.any_append,List.any_append,List.any_cons,List.any_nil,Bool.or_false,xz,lj,show ltI 60 (Int.ofNat 1)=false from rfl,show ndG (mC c.body)=false from rfl,Bool.false_or,Bool.false_or]
  rw [jv (f:=wL (1+1)) fun y hy=>Ad _ y (Nat.le_refl _) (lE wb (by rw [lj];exact hy)) 2 1 (by have:=pI wb (by rw [lj];exact hy);omega) (by have:=pI wb (by rw [lj];exact hy);omega)]
 unfold fL
 rw [e1,e2,yw h,yw k,show ltI 4000 (Int.ofNat (mn f))=false from nT h1,show ltI 4000 (Int.ofNat (mn (dU f)))=false from nT h2]
theorem CM{m:Md}(a:xx m 0)(b:xx (fJ m) 0):okM (fJ m)=okM m:=by
 obtain⟨a1,a2,a3⟩:=a rfl
 obtain⟨b1,b2,b3⟩:=b rfl
 have e1:(fJ m).funcs=m.funcs.map dU:=rfl
 have e2:(fJ m).exports=m.exports:=rfl
 have e3:(fJ m).name=m.name:=rfl
 have e4:(fJ m).vsn=m.vsn:=rfl
 rw [e1]at b1 b2 b3
 unfold okM
 rw [e1,e2,e3,e4,vE pC]
 cases q:m.funcs.all okF with
 |false=>simp
 |true=>
  have q1:∀f,f∈m.funcs→okF f=true:=fun f hf=>List.all_eq_true.1 q f hf
  have s1:m.funcs.map fN=m.funcs.map mn:=fj fun f hf=>yw (q1 f hf)
  have s2:m.funcs.map fF=m.funcs.map fnn:=fj fun f hf=>BB (q1 f hf)
  have s3:(m.funcs.map dU).map fN=(m.funcs.map dU).map mn:=fj fun f hf=>by
   obtain⟨g,hg,rfl⟩:=List.mem_map.1 hf
   exact yw ((pC g).trans (q1 g hg))
  have s4:(m.funcs.map dU).map fF=(m.funcs.map dU).map fnn:=fj fun f hf=>by
   obtain⟨g,hg,rfl⟩:=List.mem_map.1 hf
   exact BB ((pC g).trans (q1 g hg))
  have lg:yh (fJ m)=yh m:=by
   unfold yh
   rw [e1,e2,List.length_map,List.any_map]
   congr 1
   refine jv fun f hf=>?_
   have hb:=b1 (dU f) (List.mem_map.2 ⟨f,hf,rfl⟩)
   exact EY (q1 f hf) (a1 f hf).1 hb.1 hb.2
  rw [s1,s2,s3,s4,lg,show ltI 20000 (Int.ofNat (m.funcs.map mn).sum)=false from nT a2,show ltI 1000 (Int.ofNat (m.funcs.map fnn).sum)=false from nT a3,show ltI 20000 (Int.ofNat ((m.funcs.map dU).map mn).sum)=false from nT b2,show ltI 1000 (Int.ofNat ((m.funcs.map dU).map fnn).sum)=false from nT b3]
theorem zW{m:Md}(hm:bF (mdO m)≤5900000)(a:xx m 0)(b:xx (fJ m) 0):kQ (fJ m)=kQ m:=by
 unfold kQ
 rw [CM a b,zV hm]
end
section
theorem Dk(c:Cl):clL [c]=clO c:=by rw [eJ,clL,List.append_nil]
theorem yF:∀a b:List Cl,clL (a++b)=clL a++clL b
 |[],b=>by rw [clL];rfl
 |x ::a,b=>by rw [List.cons_append,eJ,eJ,yF a b,List.append_assoc]
theorem gG:∀l:List Cl,(clL l).length=l.length*4
 |[]=>by rw [clL];rfl
 |x ::l=>by
  rw [eJ,List.length_append,gG l,List.length_cons]
  show 4+l.length*4=_
  omega
theorem Ec:bF (exO ex0)=11:=by
 rw [dL]
 simp [ex0,Ex.name,Ex.text,Ex.items,Ex.segs,Ex.clauses,Ex.catches,Ex.body,Ex.after,exL,sgL,clL,smL,bF]
 try rfl
theorem Ci(l:List Sm):bF (exO (mC l))=11+bF (smL l):=by
 rw [dL]
 simp only [mC,Ex.name,Ex.text,Ex.items,Ex.segs,Ex.clauses,Ex.catches,Ex.body,Ex.after,exL,sgL,clL,smL,bF]
 have e:(⟨#[]⟩:ByteArray).size=0:=rfl
 omega
theorem Cj(c:Cl):bF (clO (fD c))=bF (clO c)+23:=by
 have e:bF (smL [iS c.body])=1+(11+(11+bF (smL c.body))):=by
  rw [gO,smL,List.append_nil,lU]
  show 1+(bF (exO ex0)+bF (exO (mC c.body)))=_
  rw [Ec,Ci]
 rw [ff,ff]
 show(c.name.size+1)+((1+bF (exL c.pats))+((1+bF (gdL c.guards))+(1+bF (smL [iS c.body]))))=_
 rw [e]
 omega
theorem tZ:∀l:List Cl,bF (clL (l.map fD))=bF (clL l)+23*l.length
 |[]=>rfl
 |c ::l=>by rw [List.map_cons,eJ,eJ,bY,bY,Cj,tZ l,List.length_cons];omega
theorem xG:∀l:List Fu,bF (fuL (l.map dU))=bF (fuL l)+23*ncl l
 |[]=>rfl
 |f ::l=>by
  have ih:=xG l
  have h1:bF (fuO (dU f))=bF (fuO f)+23*f.clauses.length:=by
   rw [iN,iN]
   show(f.name.size+1)+(1+(1+bF (clL (f.clauses.map fD))))=_
   rw [tZ]
   omega
  have h2:ncl (f ::l)=f.clauses.length+ncl l:=by
   unfold ncl
   rw [List.map_cons,List.sum_cons]
  show bF (fuO (dU f)++fuL (l.map dU))=bF (fuO f++fuL l)+_
  rw [bY,bY,ih,h1,h2]
  omega
theorem Ch(m:Md):bF (mdO (fJ m))=bF (mdO m)+23*ncl m.funcs:=by
 have h1:=mU m
 have h2:=mU (fJ m)
 have h3:bF (fuL (fJ m).funcs)=_:=xG m.funcs
 have h4:(fJ m).exports=m.exports:=rfl
 have h5:(fJ m).name=m.name:=rfl
 rw [h4,h5,h3]at h2
 omega
noncomputable section
def fr5a(m:Md)(i:Nat):AL:=[(1,.eptr (mdO m) 0),(3,jK 1 3 i),(4,.int .i64 (Int.ofNat i))]
def fr5b(m:Md)(i k:Nat):AL:=[(1,.eptr (mdO m) 0),(3,jK 1 3 i),(4,.int .i64 (Int.ofNat i)),(5,.ptr 2 0),(6,jK 3 4 k),(7,.int .i64 (Int.ofNat k))]
def fr5c(m:Md)(i n:Nat)(C:List V):AL:=[(1,.eptr (mdO m) 0),(3,jK 1 3 i),(4,.int .i64 (Int.ofNat i)),(5,.ptr 2 0),(6,.lst n 4 C)]
def H5a(l:List Fu):H:=HG [jY (fuL l)] 2
def H5b(l:List Fu)(f:Fu)(cs:List Cl):H:=HG [jY (fuL l),some (fuO f),jY (clL cs)] 4
def H5c(l:List Fu)(f:Fu):H:=HG [jY (fuL l),some (fuO f)] 3
def B1(b:List Sm):List V:= .bool false :: .int .i64 0 :: .int .i64 0 :: .str 0 0 :: .str 0 0 :: .nils :: .nils :: .nils :: .nils :: .nils :: .nils :: .bool false :: .int .i64 15 :: .int .i64 0 :: .str 0 0 :: .str 0 0 :: .nils :: .nils :: .nils :: .nils :: .lst b.length 23 (smL b) :: .nils :: .bool false ::[]
def xv(c:Cl):List V:=[sV c.name,.lst c.pats.length 11 (exL c.pats),.lst c.guards.length 1 (gdL c.guards),.lst 1 23 (B1 c.body)]
end
theorem Ct(b:List Sm):smL [iS b]= .bool false :: .int .i64 0 :: .int .i64 0 :: .str 0 0 :: .str 0 0 :: .lst 0 11 [] :: .lst 0 27 [] :: .lst 0 4 [] :: .lst 0 4 [] :: .lst 0 23 [] :: .lst 0 23 [] :: .bool false :: .int .i64 15 :: .int .i64 0 :: .str 0 0 :: .str 0 0 :: .lst 0 11 [] :: .lst 0 27 [] :: .lst 0 4 [] :: .lst 0 4 [] :: .lst b.length 23 (smL b) :: .lst 0 23 [] :: .bool false ::[]:=by
 rw [gO,smL]
 rfl
theorem Dr{U:Nat→Prop}{ρ:Nat→Nat}{Z:Nat→Option (List V)}{a:List V}(z:Z bP=some a)(b:List Sm):RnL U ρ Z (smL [iS b]) (B1 b):=by
 rw [Ct]
 unfold B1
 repeat' (first|exact .nil|refine .cons (.nil0 z) ?_|refine .cons (.pure (.flat rfl)) ?_|refine .cons (.pure (pxM _)) ?_)
theorem Dp{U:Nat→Prop}{ρ:Nat→Nat}{Z:Nat→Option (List V)}{a:List V}(z:Z bP=some a)(c:Cl):RnL U ρ Z (clO (fD c)) (xv c):=by
 show RnL U ρ Z [sV c.name,.lst c.pats.length 11 (exL c.pats),.lst c.guards.length 1 (gdL c.guards),.lst 1 23 (smL [iS c.body])] (xv c)
 exact .cons (.pure (.flat rfl)) (.cons (.pure (pxE _)) (.cons (.pure (pxG _)) (.cons (.lst (Dr z _)) .nil)))
theorem yX{l:List Fu}{i:Nat}(h:i<l.length):(l.take (i+1)).map dU=(l.take i).map dU++[dU (cJ l i)]:=by rw [ji h,List.map_append];rfl
theorem yY{l:List Cl}{i:Nat}(h:i<l.length):(l.take (i+1)).map fD=(l.take i).map fD++[fD (bL l i)]:=by rw [nt h,List.map_append];rfl
theorem xX(l:List Fu):∀c,c∈fuL l→bN c:=tp l
theorem DL(l:List Cl):∀c,c∈clL l→bN c:=fun c hc=>(lu _ c hc).x
theorem v5c{f:AL}{m:Md}{i n:Nat}{l:List Fu}{u:Fu}{cs:List Cl}{h:H}(e1:lk f 1=some (.eptr (mdO m) 0))(e3:lk f 3=some (jK 1 3 i))(e4:lk f 4=some (.int .i64 (Int.ofNat i)))(e5:lk f 5=some (.ptr 2 0))(e6:lk f 6=some (jK 3 4 n))(hh:h=H5b l u cs)
  (hl:l.length=i) (hn:cs.length=n) (hs:(fuL l).length≤100000000) (hs2:(clL cs).length≤100000000):ft TP Kp ⟨f,[]⟩ h ⟨fr5c m i n (clL cs),[]⟩ (H5c l u):=by
 subst hh
 have kk:100000000<bP:=by unfold bP;omega
 have g1:GL 3 (H5b l u cs) (jK 1 3 i) (fuL l):=glG rfl (by rw [eN,hl]) (by decide) (by omega) (Nat.le_of_ble_eq_true (n:=2) rfl)
 have g3:GL 4 (H5b l u cs) (jK 3 4 n) (clL cs):=glG rfl (by rw [gG,hn]) (by decide) (by omega) (Nat.le_of_ble_eq_true (n:=4) rfl)
 have z0:Zo 3 (clL cs) bP=some []:=Dy (by omega)
 have v1:∀b n,jK 1 3 i= .sl b 0 n 0 false 3→jM [1,2] 1=b:=fun b n q=>by cases i<;>cases q;rfl
 have v3:∀b k,jK 3 4 n= .sl b 0 k 0 false 4→Zo 3 (clL cs) b=some (clL cs):=fun b k q=>by
  cases n with
  |zero=>cases q
  |succ n=>
   cases q
   have:(clL cs).length≠0:=by rw [gG,hn];omega
   cases q2:clL cs with
   |nil=>rw [q2]at this;exact absurd rfl this
   |cons c cs=>exact G7
 refine tV (ids:=[1,2]) (L:=[jY (fuL l),some (fuO u)]) (Z:=Zo 3 (clL cs)) rfl rfl (by decide) (Nat.le_refl 2) (by decide) ?_ (fun k cs' e hk=>?_) (ko.mem ?_)
 ·refine gW.gl g1 v1 (.pure (xX l)) (by omega) (.box (b:=2) rfl rfl rfl (by show 3≤bP;omega) (xq (.pure (jj u)) (pq (by show 3≤bP;omega))) .nil)
 ·obtain⟨rfl,rfl,hne⟩:=Dx e hk
  refine⟨?_,by decide⟩
  cases q:clL cs with
  |nil=>exact absurd q hne
  |cons c cs'=>
   refine⟨cE (c ::cs') 0 .e,none,?_,pq (by rw [←q];omega)⟩
   show blG (jY (clL cs))=_
   rw [q]
   show some (Blk.cells (bU (c ::cs')) _ _ _)=_
   rw [@bS noE]
 ·exact .cons e1 (.pure (.eptr (fM m))) (.cons e3 (Rn.gl g1 v1 (by rw [eN,hl]) (by decide) fun q=>jR (i:=0) (cs:=fuL l) (by cases q2:fuL l with|nil=>exact absurd q2 q|cons c cs=>rfl)) (.cons e4 (.pure (.flat rfl)) (.cons e5 (.ptr (ρ:=jM [1,2]) (i:=2) (jR (i:=1) rfl)) (.cons e6 (Rn.glz g3 v3 z0 (by rw [gG,hn]) (by decide) (.pure (DL cs))) .nil))))
end
section
theorem rU{cs:List V}(h:cs≠[]):jY cs=some cs:=by
 cases cs with
 |nil=>exact absurd rfl h
 |cons c cs=>rfl
theorem fr5_F{m:Md}{i:Nat}{l:List Fu}{f r:AL}{Z:Nat→Option (List V)}{ids:List Nat}{L:List (Option (List V))}{v:V}{h:H}(e1:lk f 1=some (.eptr (mdO m) 0))(e3:lk f 3=some v)(g:GL 3 h v (fuL l))(hv:∀b n,v= .sl b 0 n 0 false 3→jM ids 1=b)(hl:l.length=i)(hL:L[0]? =some (jY (fuL l)))
  (z:Int) (e4:lk f 4=some (.int .i64 z)) (k:ko (cI (lpG L)) (jM ids) Z f r):ko (cI (lpG L)) (jM ids) Z f ((1,.eptr (mdO m) 0) ::(3,jK 1 3 i) ::(4,.int .i64 z) ::r):=
 .cons e1 (.pure (.eptr (fM m))) (.cons e3 (Rn.gl g hv (by rw [eN,hl]) (by decide) fun q=>jR (i:=0) (by rw [hL,rU q])) (.cons e4 (.pure (.flat rfl)) k))
theorem nI{i n b k es:Nat}{P:Prop}(h:jK i es n= .sl b 0 k 0 false es)(q:i=b→P):P:=by
 cases n with
 |zero=>cases h
 |succ n=>cases h;exact q rfl
theorem v5a{f:AL}{m:Md}{i:Nat}{l:List Fu}{u:Fu}{h:H}(e1:lk f 1=some (.eptr (mdO m) 0))(e3:lk f 3=some (jK 1 3 i))(e4:lk f 4=some (.int .i64 (Int.ofNat i)))(e5:lk f 5=some (.ptr 2 0))(e6:lk f 6=some .nils)(e7:lk f 7=some (.int .i64 0))
  (b0:h.blk 0=some (.ro 256 dS)) (b1:h.blk 1=blG (jY (fuL l))) (b2:h.blk 2=some (.cells 3 (cE (fuO u) 0 .e) none false)) (nx:1<h.next) (hl:l.length=i) (hs:(fuL l).length≤100000000):ft TP Kp ⟨f,[]⟩ h ⟨fr5b m i 0,[]⟩ (H5b l u []):=by
 have kk:100000000<bP:=by unfold bP;omega
 have g1:GL 3 h (jK 1 3 i) (fuL l):=glG b1 (by rw [eN,hl]) (by decide) (by omega) nx
 have v1:∀b n,jK 1 3 i= .sl b 0 n 0 false 3→jM [1,2,3] 1=b:=fun b n q=>nI q fun q=>q
 refine tV (ids:=[1,2,3]) (L:=[jY (fuL l),some (fuO u),jY (clL [])]) (Z:=Zn) rfl b0 (by decide) (Nat.le_refl 3) (by decide) ?_ (fun k cs' e hk=>yL e hk) (ko.mem ?_)
 ·exact gW.gl g1 v1 (.pure (xX l)) (by omega) (.box (b:=2) b2 rfl rfl (by show 3≤bP;omega) (xq (.pure (jj u)) (pq (by show 3≤bP;omega))) (.none .nil))
 ·exact fr5_F e1 e3 g1 v1 hl rfl _ e4 (.cons e5 (.ptr (ρ:=jM [1,2,3]) (i:=2) (jR (i:=1) rfl)) (.cons e6 (.pure (.flat rfl)) (.cons e7 (.pure (.flat rfl)) .nil)))
theorem v5b{f:AL}{m:Md}{i k n:Nat}{l:List Fu}{u:Fu}{cs:List Cl}{c:Cl}{h:H}(e1:lk f 1=some (.eptr (mdO m) 0))(e3:lk f 3=some (jK 1 3 i))(e4:lk f 4=some (.int .i64 (Int.ofNat i)))(e5:lk f 5=some (.ptr 2 0))(e6:lk f 6=some (.sl 5 0 n 0 false 4))(e7:lk f 7=some (.int .i64 (Int.ofNat (k+1))))
  (b0:h.blk 0=some (.ro 256 dS)) (b1:h.blk 1=blG (jY (fuL l))) (b2:h.blk 2=some (.cells 3 (cE (fuO u) 0 .e) none false)) (g3:GL 4 h (.sl 5 0 n 0 false 4) (clL cs++xv c)) (nx:1<h.next) (hl:l.length=i) (hk:cs.length=k) (hs:(fuL l).length≤100000000) (hs2:(clL cs).length≤100000000):ft TP Kp ⟨f,[]⟩ h ⟨fr5b m i (k+1),[]⟩ (H5b l u (cs++[fD c])):=by
 have kk:200000000<bP:=by unfold bP;omega
 have g1:GL 3 h (jK 1 3 i) (fuL l):=glG b1 (by rw [eN,hl]) (by decide) (by omega) nx
 have v1:∀b n,jK 1 3 i= .sl b 0 n 0 false 3→jM [1,2,5] 1=b:=fun b n q=>nI q fun q=>q
 have v3:∀b n',V.sl 5 0 n 0 false 4= .sl b 0 n' 0 false 4→jM [1,2,5] 3=b:=fun b n' q=>by cases q;rfl
 have ee:clL (cs++[fD c])=clL cs++clO (fD c):=by rw [yF,Dk]
 have hlen:(clL cs++xv c).length=(k+1)*4:=by
  rw [List.length_append,gG,hk]
  show k*4+4=_
  omega
 have rn:RnL (cI (lpG [jY (fuL l),some (fuO u),jY (clL (cs++[fD c]))])) (jM [1,2,5]) Zn (clL (cs++[fD c])) (clL cs++xv c):=by
  conv=>arg 4;rw [ee]
  exact RnL.app (.pure (DL cs)) (Dp Dz c)
 have ne:clL (cs++[fD c])≠[]:=fun q=>by
  have:=congrArg List.length q
  rw [gG,List.length_append]at this
  simp at this
 refine tV (ids:=[1,2,5]) (L:=[jY (fuL l),some (fuO u),jY (clL (cs++[fD c]))]) (Z:=Zn) rfl b0 (by decide) (Nat.le_refl 3) (by decide) ?_ (fun k cs' e hk=>yL e hk) (ko.mem ?_)
 ·refine gW.gl g1 v1 (.pure (xX l)) (by omega) (.box (b:=2) b2 rfl rfl (by show 3≤bP;omega) (xq (.pure (jj u)) (pq (by show 3≤bP;omega))) (gW.gl g3 v3 rn ?_ .nil))
  rw [List.length_append]
  show(clL cs).length+4≤bP
  omega
 ·exact fr5_F e1 e3 g1 v1 hl rfl _ e4 (.cons e5 (.ptr (ρ:=jM [1,2,5]) (i:=2) (jR (i:=1) rfl)) (.cons e6 (Rn.gl g3 v3 hlen (by decide) fun _=>jR (i:=2) (by rw [←rU ne];rfl)) (.cons e7 (.pure (.flat rfl)) .nil)))
theorem v5e{f:AL}{m:Md}{i n:Nat}{l:List Fu}{u:Fu}{h:H}(e1:lk f 1=some (.eptr (mdO m) 0))(e3:lk f 3=some (.sl 3 0 n 0 false 3))(e4:lk f 4=some (.int .i64 (Int.ofNat (i+1))))(b0:h.blk 0=some (.ro 256 dS))(g:GL 3 h (.sl 3 0 n 0 false 3) (fuL l++fuO u))(hl:l.length=i)(hs:(fuL l).length≤100000000):ft TP Kp ⟨f,[]⟩ h ⟨fr5a m (i+1),[]⟩ (H5a (l++[u])):=by
 have kk:200000000<bP:=by unfold bP;omega
 have v1:∀b n',V.sl 3 0 n 0 false 3= .sl b 0 n' 0 false 3→jM [3] 1=b:=fun b n' q=>by cases q;rfl
 have ee:fuL l++fuO u=fuL (l++[u]):=by rw [yr,C1]
 rw [ee]at g
 refine tV (ids:=[3]) (L:=[jY (fuL (l++[u]))]) (Z:=Zn) rfl b0 (by decide) (Nat.le_refl 1) (by decide) ?_ (fun k cs' e hk=>yL e hk) (ko.mem ?_)
 ·refine gW.gl g v1 (.pure (xX _)) ?_ .nil
  rw [←ee,List.length_append]
  show(fuL l).length+3≤bP
  omega
 ·exact fr5_F e1 e3 g v1 (by rw [List.length_append,hl];rfl) rfl _ e4 .nil
theorem v50{f:AL}{m:Md}(e1:lk f 1=some (.eptr (mdO m) 0))(e3:lk f 3=some .nils)(e4:lk f 4=some (.int .i64 0)):ft TP Kp ⟨f,[]⟩ H0 ⟨fr5a m 0,[]⟩ (H5a []):=
 tV (ids:=[1]) (L:=[none]) (Z:=Zn) rfl rfl (by decide) (Nat.le_refl 1) (by decide) (.none .nil) (fun k cs' e hk=>yL e hk) (ko.mem (.cons e1 (.pure (.eptr (fM m))) (.cons e3 (.pure (.flat rfl)) (.cons e4 (.pure (.flat rfl)) .nil))))
theorem WL.appG{d:Dst}{args:List Opd}{gd:Option (Opd×Bool)}{lo hi:Nat}{l:List bQ}{loc tmp:AL}{h:H}{K:Nat→Prop}{R:AL→H→Prop}{es bytes m:Nat}{v:V}{cs xs:List V}(e0:bV ⟨loc,tmp⟩ gd=some true)(e1:evs ⟨loc,tmp⟩ args=some [v,.lst m es xs])(g:GL es h v cs)(hm:0<m)(hx:xs.length=m*es)(ho:cK xs=true)(hk:h.next+1<bP)
  (hcs:cs.length+xs.length<1000000000) (hb:m*bytes+cs.length*bytes<1099511627776) (hes:0<es) (k:∀n h',GL es h' (.sl h.next 0 n 0 false es) (cs++xs)→h'.next=h.next+1→(∀id,id<h.next→(∀b n,v= .sl b 0 n 0 false es→id≠b)→h'.blk id=h.blk id)→∃loc' tmp',fK d (.sl h.next 0 n 0 false es) loc tmp=some (loc',tmp')∧WL Tryz.prog TP K eK l loc' tmp' h' R):
  WL Tryz.prog TP K eK (⟨d,.e (.append es bytes none),args,gd,lo,hi⟩ ::l) loc tmp h R:=by
 obtain⟨n,h',e,g',nx,kp⟩:=g.appendX (m:=m) (bytes:=bytes) (x:= .lst m es xs) (xs:=xs) (by
  show oif (Nat.beq es es) _=_
  rw [Nat.beq_refl]
  rfl) hm hx ho hk hcs (fun n q=>by
   have:n≤cs.length:=by rw [q];exact Nat.le_mul_of_pos_right _ hes
   have:n*bytes≤cs.length*bytes:=Nat.mul_le_mul_right _ this
   rw [Nat.add_mul]
   omega) hes
 obtain⟨loc',tmp',p,w⟩:=k n h' g' nx kp
 exact aD e0 e1 e p w
theorem yI(b:List Sm):∀c,c∈B1 b→bN c:=by
 unfold B1
 repeat' (first|exact px0|refine bO (.flat rfl) ?_|refine bO (pxM _) ?_)
theorem Dq(c:Cl):∀x,x∈xv c→bN x:=bO (.flat rfl) (bO (pxE _) (bO (pxG _) (bO (.lst (yI _)) px0)))
theorem v5f{f:AL}{m:Md}{l:List Fu}{h:H}(e1:lk f 1=some (.eptr (mdO m) 0))(e3:lk f 3=some (jK 1 3 l.length))(hh:h=H5a l)(hs:(fuL l).length≤100000000):ft TP Kp ⟨f,[]⟩ h ⟨[(3,.lst l.length 3 (fuL l)),(1,.eptr (mdO m) 0)],[]⟩ H0:=by
 subst hh
 exact Ah (t:=3) (es:=3) (cs:=fuL l) (r:=[(1,.eptr (mdO m) 0)]) rfl (glG (i:=1) rfl (eN l) (by decide) (by unfold bP;omega) (Nat.le_of_ble_eq_true (n:=2) rfl)) (tp _) e3 (.cons e1 (.eptr (fM m)) .nil) l.length (eN l) (by decide)
end
end Ev
end Go.Proofs.YtdfphfdnoobikaaGreatDoor
