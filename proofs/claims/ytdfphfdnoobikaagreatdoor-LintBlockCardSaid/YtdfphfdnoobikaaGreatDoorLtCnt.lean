/-
  Maps that count.
-/
import Derived.Test.YtdfphfdnoobikaaGreatDoorLtSem3
namespace Go.Proofs.YtdfphfdnoobikaaGreatDoor
namespace Ev
section
abbrev Ky:=ByteArray×Int
abbrev Cn:=List (Ky×Int)
def dl:Cn→Ky→Int
 |[],_=>0
 |p ::l,k=>if k=p.1 then p.2 else dl l k
def jz:Cn→Ky→Int→Cn
 |[],k,v=>[(k,v)]
 |p ::l,k,v=>if k=p.1 then(k,v) ::l else p ::jz l k v
def rt:Cn→Ky→Option Nat
 |[],_=>none
 |p ::l,k=>if k=p.1 then some 0 else(rt l k).map (·+1)
noncomputable section
def kV(k:Ky):V:= .agg [sV k.1,.int .i64 k.2]
def cnE(l:Cn):List (V×V):=l.map fun p=>(kV p.1,.int .i64 p.2)
abbrev Kc:Kk:= .agg [.s,.i]
end
theorem gD{a b:Int}:eqI a b=decide (a=b):=by rw [jo];rfl
theorem wj(h:H)(a b:Ky):fP h Kc (kV a) (kV b)=some (decide (a=b)):=by
 show ob (some (dJ a.1.size (bT a.1.data.toList) b.1.size (bT b.1.data.toList))) (fun c=>Bool.rec (motive:=fun _=>Option Bool) (some false) (ob (some (eqI a.2 b.2)) fun c=>Bool.rec (motive:=fun _=>Option Bool) (some false) (some true) c) c)=_
 rw [uq,gD]
 obtain⟨a1,a2⟩:=a
 obtain⟨b1,b2⟩:=b
 by_cases q1:a1=b1
 ·by_cases q2:a2=b2
  ·subst q1 q2
   simp [ob]
  ·have e:decide (a2=b2)=false:=decide_eq_false q2
   rw [show decide ((a1,a2).1=(b1,b2).1)=true from decide_eq_true q1,show decide ((a1,a2).2=(b1,b2).2)=false from e,decide_eq_false (fun k=>q2 (Prod.mk.inj k).2)]
   rfl
 ·rw [show decide ((a1,a2).1=(b1,b2).1)=false from decide_eq_false q1,decide_eq_false (fun k=>q1 (Prod.mk.inj k).1)]
  rfl
theorem yv(h:H)(k:Ky):∀l:Cn,∃r,fc h Kc (kV k) (cnE l)=some r∧gT false (.int .i64 0) r= .int .i64 (dl l k)
 |[]=>⟨none,rfl,rfl⟩
 |p ::l=>by
  obtain⟨r,q1,q2⟩:=yv h k l
  have e:∀x,fc h Kc (kV k) (cnE (p ::l))=x↔(ob (fP h Kc (kV k) (kV p.1)) fun b=>Bool.rec (motive:=fun _=>Option (Option V)) (fc h Kc (kV k) (cnE l)) (some (some (.int .i64 p.2))) b)=x:=fun x=>Iff.rfl
  by_cases q:k=p.1
  ·refine⟨some (.int .i64 p.2),(e _).2 ?_,?_⟩
   ·rw [wj,decide_eq_true q]
    rfl
   ·show V.int .i64 p.2= .int .i64 (if k=p.1 then p.2 else dl l k)
    rw [if_pos q]
  ·refine⟨r,(e _).2 ?_,?_⟩
   ·rw [wj,decide_eq_false q]
    exact q1
   ·show _=V.int .i64 (if k=p.1 then p.2 else dl l k)
    rw [if_neg q]
    exact q2
theorem vX(h:H)(k:Ky):∀l:Cn,uB h Kc (kV k) (cnE l)=some (rt l k)
 |[]=>rfl
 |p ::l=>by
  show(ob (fP h Kc (kV k) (kV p.1)) fun b=>Bool.rec (motive:=fun _=>Option (Option Nat)) (ob (uB h Kc (kV k) (cnE l)) fun r=>some (r.map (·+1))) (some (some 0)) b)=_
  rw [wj,vX h k l,rt]
  by_cases q:k=p.1
  ·rw [decide_eq_true q,if_pos q]
   rfl
  ·rw [decide_eq_false q,if_neg q]
   rfl
theorem kw{h:H}{id:Nat}{l:Cn}{o:Bool}(b:h.blk id=some (.map (cnE l) o))(k:Ky):ROp.run (.lookup Kc false (.int .i64 0)) [.map id,kV k] h=some (.int .i64 (dl l k)):=by
 obtain⟨r,q1,q2⟩:=yv h k l
 show oif true (ob (ob (h.blk id) _) _)=_
 rw [b]
 show ob (fc h Kc (kV k) (cnE l)) _=_
 rw [q1]
 show some (gT false (.int .i64 0) r)=_
 rw [q2]
theorem rP:∀{l:Cn} {k:Ky},rt l k=none→dl l k=0∧∀v,jz l k v=l++[(k,v)]
 |[],k,_=>⟨rfl,fun _=>rfl⟩
 |p ::l,k,h=>by
  rw [rt]at h
  split at h
  ·cases h
  ·rename_i q
   obtain⟨h1,h2⟩:=rP (l:=l) (k:=k) (by cases e:rt l k<;>rw [e]at h<;>first|rfl|cases h)
   exact⟨by rw [dl,if_neg q];exact h1,fun v=>by rw [jz,if_neg q,h2];rfl⟩
theorem rO:∀{l:Cn} {k:Ky} {j:Nat},rt l k=some j→l[j]? =some (k,dl l k)∧∀v,jz l k v=l.set j (k,v)
 |[],k,j,h=>by cases h
 |p ::l,k,j,h=>by
  rw [rt]at h
  split at h
  ·rename_i q
   cases h
   obtain⟨a,b⟩:=p
   have q:k=a:=q
   subst q
   exact⟨by rw [dl,if_pos rfl];rfl,fun v=>by rw [jz,if_pos rfl];rfl⟩
  ·rename_i q
   cases e:rt l k with
   |none=>rw [e]at h;cases h
   |some i=>
    rw [e]at h
    cases h
    obtain⟨h1,h2⟩:=rO (l:=l) (k:=k) (j:=i) e
    exact⟨by rw [dl,if_neg q];simpa using h1,fun v=>by rw [jz,if_neg q,h2];rfl⟩
theorem qx:∀{l:Cn} {k:Ky} {v:Int} {x:Ky},dl (jz l k v) x=if x=k then v else dl l x
 |[],k,v,x=>rfl
 |p ::l,k,v,x=>by
  rw [jz]
  split
  ·rename_i q
   show(if x=k then v else dl l x)=_
   by_cases e:x=k
   ·rw [if_pos e,if_pos e]
   ·rw [if_neg e,if_neg e,dl,if_neg (by rw [←q];exact e)]
  ·rename_i q
   show(if x=p.1 then p.2 else dl (jz l k v) x)=_
   rw [qx,dl]
   by_cases e:x=p.1
   ·rw [if_pos e,if_neg (by rw [e];exact fun e2=>q e2.symm),if_pos e]
   ·rw [if_neg e,if_neg e]
theorem tH{h:H}{id:Nat}{l:Cn}(b:h.blk id=some (.map (cnE l) true))(hid:id<bP)(k:Ky)(v:Int):∃h1 h2 v0 j,EOp.run (.mapent Kc (.int .i64 0)) [.map id,kV k] h=some (.tup [v0,.int .i64 j],h1)∧ROp.run (.lookup Kc false (.int .i64 0)) [.map id,kV k] h1=some (.int .i64 (dl l k))∧EOp.run .entst [.map id,.int .i64 j,.int .i64 v] h1=some (cF,h2)∧
  h2.blk id=some (.map (cnE (jz l k v)) true)∧(∀i,i≠id→h2.blk i=h.blk i)∧h2.next=h.next:=by
 have ho:h.ord id=true:=by unfold H.ord;rw [b]
 have main:∀(es1:Cn) (j:Nat) (v0:V),es1[j]? =some (k,dl l k)→es1.set j (k,v)=jz l k v→es1=jz l k (dl l k)→EOp.run (.mapent Kc (.int .i64 0)) [.map id,kV k] h=some (.tup [v0,.int .i64 (Int.ofNat j)],⟨h.t.put id (some (.map (cnE es1) true)),h.next⟩)→
   ∃h1 h2 v0 j,EOp.run (.mapent Kc (.int .i64 0)) [.map id,kV k] h=some (.tup [v0,.int .i64 j],h1)∧ROp.run (.lookup Kc false (.int .i64 0)) [.map id,kV k] h1=some (.int .i64 (dl l k))∧EOp.run .entst [.map id,.int .i64 j,.int .i64 v] h1=some (cF,h2)∧
  h2.blk id=some (.map (cnE (jz l k v)) true)∧(∀i,i≠id→h2.blk i=h.blk i)∧h2.next=h.next:=fun es1 j v0 q1 q2 q3 q4=>by
  obtain⟨h1,eh⟩:∃h1:H,h1=⟨h.t.put id (some (.map (cnE es1) true)),h.next⟩:=⟨_,rfl⟩
  rw [←eh]at q4
  have b1:∀i,h1.blk i=if i=id then some (.map (cnE es1) true)else h.blk i:=fun i=>by rw [eh];exact fE hid
  have c1:h1.blk id=some (.map (cnE es1) true):=by rw [b1,if_pos rfl]
  have o1:h1.ord id=true:=by unfold H.ord;rw [c1]
  have hj:=(List.getElem?_eq_some_iff.1 q1).1
  have b2:∀i,(⟨h1.t.put id (some (.map (cnE (jz l k v)) true)),h1.next⟩:H).blk i=if i=id then some (.map (cnE (jz l k v)) true)else h1.blk i:=fun i=>fE hid
  refine⟨h1,⟨h1.t.put id (some (.map (cnE (jz l k v)) true)),h1.next⟩,v0,Int.ofNat j,q4,?_,?_,by rw [b2,if_pos rfl],fun i hi=>by rw [b2,if_neg hi,b1,if_neg hi],by rw [eh]⟩
  ·have:=kw c1 k
   rw [q3,qx,if_pos rfl]at this
   exact this
  ·show oif (h1.ord id) (ob (ob (h1.blk id) _) _)=_
   rw [o1,c1]
   show ob (oif (Nat.blt j (bU (cnE es1))) (some j)) (fun j=>ob (d4 (cnE es1) j) fun e=>some (cF,(⟨h1.t.put id (some (.map ((cnE es1).set j (e.1,V.int .i64 v)) true)),h1.next⟩:H)))=_
   rw [@bS noE,ltb (show j<(cnE es1).length by rw [cnE,List.length_map];exact hj)]
   show ob (d4 (cnE es1) j) (fun e=>some (cF,(⟨h1.t.put id (some (.map ((cnE es1).set j (e.1,V.int .i64 v)) true)),h1.next⟩:H)))=_
   rw [@dA noE,show(cnE es1)[j]? =some (kV k,V.int .i64 (dl l k)) by rw [cnE,List.getElem?_map,q1];rfl]
   show some (cF,(⟨h1.t.put id (some (.map ((cnE es1).set j (kV k,V.int .i64 v)) true)),h1.next⟩:H))=_
   rw [show(cnE es1).set j (kV k,V.int .i64 v)=cnE (jz l k v) by rw [←q2,cnE,cnE,List.map_set]]
 cases e:rt l k with
 |none=>
  obtain⟨p1,p2⟩:=rP e
  refine main (l++[(k,0)]) l.length (.int .i64 0) (by rw [p1];simp) (by rw [p2];simp) (by rw [p1,p2]) ?_
  show oif (true&&h.ord id) (ob (ob (h.blk id) _) _)=_
  rw [ho,b]
  show ob (uB h Kc (kV k) (cnE l)) _=_
  rw [vX,e]
  show some (V.tup [.int .i64 0,.int .i64 (Int.ofNat (bU (cnE l)))],(⟨h.t.put id (some (.map (cnE l++[(kV k,.int .i64 0)]) true)),h.next⟩:H))=_
  rw [@bS noE,cnE,List.length_map,cnE,List.map_append]
  rfl
 |some j=>
  obtain⟨p1,p2⟩:=rO e
  have hj:=(List.getElem?_eq_some_iff.1 p1).1
  refine main (l.set j (k,dl l k)) j (.int .i64 (dl l k)) (by rw [List.getElem?_set_self hj]) (by rw [p2,List.set_set]) (by rw [p2]) ?_
  show oif (true&&h.ord id) (ob (ob (h.blk id) _) _)=_
  rw [ho,b]
  show ob (uB h Kc (kV k) (cnE l)) _=_
  rw [vX,e]
  show ob (d4 (cnE l) j) (fun e=>some (V.tup [e.2,.int .i64 (Int.ofNat j)],(⟨h.t.put id (some (.map ((cnE l).set j (kV k,e.2)) true)),h.next⟩:H)))=_
  rw [@dA noE,show(cnE l)[j]? =some (kV k,V.int .i64 (dl l k)) by rw [cnE,List.getElem?_map,p1];rfl]
  show some (V.tup [.int .i64 (dl l k),.int .i64 (Int.ofNat j)],(⟨h.t.put id (some (.map ((cnE l).set j (kV k,V.int .i64 (dl l k))) true)),h.next⟩:H))=_
  rw [show(cnE l).set j (kV k,V.int .i64 (dl l k))=cnE (l.set j (k,dl l k)) by rw [cnE,cnE,List.map_set]]
def pj(l:List Ky)(k:Ky):Nat:=(l.filter fun q=>decide (q=k)).length
theorem zU(l:List Ky)(a k:Ky):pj (l++[a]) k=if k=a then pj l k+1 else pj l k:=by
 unfold pj
 rw [List.filter_append,List.length_append]
 by_cases e:k=a
 ·subst e
  simp
 ·rw [if_neg e]
  simp [Ne.symm e]
theorem Dg(l:List Ky)(k:Ky):pj l k≤l.length:=List.length_filter_le _ _
def Cnt(l:Cn)(ks:List Ky):Prop:=∀k,dl l k=Int.ofNat (pj ks k)
theorem Cnt.nil:Cnt [] []:=fun _=>rfl
theorem Cnt.snoc{l:Cn}{ks:List Ky}(c:Cnt l ks)(hl:ks.length<1000000000)(k:Ky):Cnt (jz l k (cZ .i64 (Int.add (dl l k) (Int.ofNat 1)))) (ks++[k]):=fun x=>by
 have:=Dg ks k
 rw [qx,zU]
 by_cases e:x=k
 ·subst e
  rw [if_pos rfl,if_pos rfl,c x,iT (by omega)]
 ·rw [if_neg e,if_neg e,c x]
end
section
noncomputable section
def kS(s:Sn):Ky:=(s.name,s.arity)
def kK(l:List Sn)(i:Nat):Bool:=decide (0<pj ((l.take i).map kS) (kS (dz l i)))
def oJ(D:Df)(p:Pl)(s:Sn)(seen:Bool)(fl:List Fl):List Fl:=
 if D s.name s.arity then(if seen then fl++[flw p 1 s.name s.arity]else fl)else(if seen then fl++[flw p 1 s.name s.arity]else fl)++[flw p 2 s.name s.arity]
def ym(D:Df)(p:Pl)(l:List Sn)(fl:List Fl):List Fl:=cj (fun i fl=>oJ D p (dz l i) (kK l i) fl) fl l.length
def fr30(l:List Sn)(km i:Nat):AL:=[(0,.ptr 2 0),(4,.map km),(8,.lst l.length 2 (snL l)),(9,.int .i64 (Int.ofNat l.length)),(10,.int .i64 (Int.ofNat i))]
def fr30b(l:List Sn)(km i:Nat):AL:=[(0,.ptr 2 0),(4,.map km),(6,.eptr (snO (dz l i)) 0),(8,.lst l.length 2 (snL l)),(9,.int .i64 (Int.ofNat l.length)),(10,.int .i64 (Int.ofNat i))]
end
theorem uK(n:Nat):ltI 0 (Int.ofNat n)=decide (0<n):=by
 show Nat.blt 0 n=_
 rw [Bool.eq_iff_iff]
 simp [Nat.blt]
 omega
theorem CS.beside{D:Df}{p:Pl}{fl:List Fl}{h h':H}(c:CS D p fl h){k:Nat}{es:List (V×V)}{o:Bool}(b:h.blk k=some (.map es o))(hk:2<k)(hn:h'.next=h.next)(e:∀j,j≠k→h'.blk j=h.blk j):CS D p fl h'∧KMx k h h':=
 ⟨c.mono (Nat.le_of_eq hn.symm) fun j _ q=>e j fun q2=>by
  subst q2
  rcases q with q|q
  ·omega
  ·exact q _ _ b,⟨Nat.le_of_eq hn.symm,fun j es o _ hj q=>by rw [e j hj];exact q⟩⟩
set_option maxHeartbeats 1600000 in
theorem f30{D:Df}{p:Pl}{fl:List Fl}{h:H}(c:CS D p fl h)(l:List Sn)(hl:l.length≤6000000)(hk:h.next+1+4*l.length<300000000):∃h',Con Tryz.prog TP noM 30 [.ptr 2 0,.lst l.length 2 (snL l)] h (.tup []) h'∧Gf D p (ym D p l fl) h h' (1+4*l.length):=by
 have c2:=c.le
 have hkk:900000002<bP:=by unfold bP;omega
 obtain⟨cs0,so0,km0⟩:=c.newmap (by omega) [] true List.nodup_nil
 have b0:(⟨h.t.put h.next (some (.map (scE []) true)),Nat.succ h.next⟩:H).blk h.next=some (.map (cnE []) true):=by rw [fE (by omega),if_pos rfl];rfl
 refine cO Tryz.func30 (by decide) cf30_ok rfl rfl (cP c.le) ?_
 repeat' (first
  |(refine WLg.mk ?_;first
  |refine aa rfl rfl rfl rfl ?_|refine aE (t:=h.t) (k:=h.next) rfl rfl rfl (cT (by omega)) rfl ?_)
  |refine ah ?_|refine ac rfl ?_|refine ai ?_|refine ae ?_|refine aj ?_|refine bE.norm ?_|fail)
 refine av (bR (l:=fr30 l h.next 0) KH) ?_
 refine aw l.length (fun i f h1=>f=fr30 l h.next i∧CS D p (cj (fun i fl=>oJ D p (dz l i) (kK l i) fl) fl i) h1∧(∃cn,h1.blk h.next=some (.map (cnE cn) true)∧Cnt cn ((l.take i).map kS))∧KM 0 h h1∧h.next<h1.next∧h1.next≤h.next+1+4*i) ?_ (i:=0) (Nat.zero_le _) ⟨rfl,cs0,⟨[],b0,Cnt.nil⟩,km0,Nat.lt_succ_self _,Nat.le_refl _⟩
 clear cs0 so0 km0 b0
 rintro i _ ha hi ⟨rfl,csa,⟨cn,ba,ct⟩,kma,lta,nxa⟩
 have hi2:i<9223372036854775807:=by omega
 cases q:ltI (Int.ofNat i) (Int.ofNat l.length)with
 |false=>
  have hie:i=l.length:=by have:=ci q;omega
  repeat' (first
   |(refine WLg.mk ?_;first
   |refine aa rfl rfl rfl rfl ?_)
   |refine ah ?_|refine ac rfl ?_|refine ai ?_|refine ae ?_
   |refine ak rfl (fun ht=>(Bool.false_ne_true ((show _=false by with_reducible assumption).symm.trans ht)).elim) (fun ht=>?_)
   |refine au ?_|refine bE.norm ?_|refine bE.exit ?_|refine OnC.exit ?_|fail)
  subst hie
  exact⟨.inl rfl,_,rfl,kma.le,rfl,csa,kma,by omega⟩
 |true=>
  have hlt:=bK q
  have hka:ha.next<900000000:=by omega
  have pp:=vO (dz l i)
  have lk:=kw ba (kS (dz l i))
  have sn1:ltI 0 (dl cn (kS (dz l i)))=kK l i:=by rw [ct,uK];rfl
  obtain⟨h1,c1,q1,q2,q3,_⟩:=f50 csa (by omega) 1 (dz l i).arity (dz l i).name
  obtain⟨fli,hfli⟩:∃fli,fli=cj (fun i fl=>oJ D p (dz l i) (kK l i) fl) fl i:=⟨_,rfl⟩
  have g1:Gf D p (fli++[flw p 1 (dz l i).name (dz l i).arity]) ha h1 2:=⟨by rw [hfli];exact q1,q2,by omega⟩
  have g0:Gf D p fli ha ha 2:=(Gf.refl (by rw [hfli];exact csa)).up (by omega)
  repeat' (first
   |(refine WLg.mk ?_;first
   |refine aa rfl rfl rfl rfl ?_|refine aa rfl rfl (bM Hy) rfl ?_|refine ab rfl rfl (DR Hy) rfl ?_
   |refine ab rfl rfl (lk) rfl ?_|refine ab rfl rfl rfl rfl ?_|refine aA rfl rfl (cT hka) rfl rfl rfl rfl rfl rfl rfl rfl pp rfl rfl ?_
   |refine am rfl rfl rfl (c1) (fun _ _ q=>q) .none rfl ?_)
   |refine ah ?_|refine ac rfl ?_
   |(show WC _ _ _ _ _ (bZ.seq (bZ.seq _ (bZ.cond (Opd.l 17) _ _)) _) _ _ _;refine aT (fun l2 h2=>l2=fr30b l h.next i∧Gf D p (if kK l i then fli++[flw p 1 (dz l i).name (dz l i).arity]else fli) ha h2 2) ?_ ?_)
   |refine ai ?_|refine ae ?_|refine aj ?_|refine al ?_
   |refine ak rfl (fun ht=>?_) (fun ht=>(Bool.false_ne_true (ht.symm.trans (by with_reducible assumption))).elim)
   |refine ak rfl (fun ht=>?_) (fun ht=>?_)|refine bE.norm ?_|fail)
  ·exact .norm ⟨_,_,bR KH,rfl,g1.eq (by rw [if_pos (sn1.symm.trans Hy)])⟩
  ·exact .norm ⟨_,_,bR KH,rfl,g0.eq (by rw [if_neg (by rw [sn1.symm.trans (by assumption:ltI 0 (dl cn (kS (dz l i)))=false)];decide)])⟩
  clear c1 q1 q2 q3 g1 g0
  rintro _ hb ⟨rfl,gb⟩
  have nb:=gb.nx
  have bb:=gb.km.mp h.next _ _ lta (by omega) ba
  obtain⟨h2,h3,v0,j,e1,e2,e3,b3,o3,n3⟩:=tH bb (by omega) (kS (dz l i)) (cZ .i64 (Int.add (dl cn (kS (dz l i))) (Int.ofNat 1)))
  have lkb:=kw bb (kS (dz l i))
  obtain⟨cs3,km3⟩:=gb.cs.beside bb c2 n3 o3
  have gbl:=gb.km.le
  repeat' (first
   |refine ai ?_|fail)
  refine bh ?_
  repeat' (show WY _ _ _ _ _ _ _ _;first
   |refine bn (by repeat' (first|exact bD.nil|refine bD.first (lkb) ?_|refine bD.snd (lkb) ?_|refine bD.first (e2) ?_|refine bD.snd (e2) ?_|refine bD.two (lkb) (e2) ?_|refine bD.two (e2) (lkb) ?_|refine bD.any (fun h=>rfl) ?_|refine bD.first rfl ?_)) ?_
   |refine aZ rfl rfl rfl rfl ?_|refine aK rfl rfl (lkb) rfl ?_|refine aK rfl rfl rfl rfl ?_|refine aS rfl rfl (e1) rfl ?_
   |refine aS rfl rfl (e3) rfl ?_|fail)
  obtain⟨de,od,bd,dd⟩:=cs3.b1
  obtain⟨kd,lkd,ek⟩:=dd h3 1 od bd (dz l i).name (dz l i).arity
  obtain⟨tr,v,f2,t0,t1,t2,t3,t4,gl⟩:=cs3.b2
  have l3:ROp.run (.load false 1) [.ptr 2 3] h3=some (.map 1):=dq f2 t3 (by decide)
  obtain⟨h4,c4,p1,p2,p3,_⟩:=f50 cs3 (by omega) 2 (dz l i).arity (dz l i).name
  have bb4:h4.blk h.next=some (.map (cnE (jz cn (kS (dz l i)) (cZ .i64 (Int.add (dl cn (kS (dz l i))) (Int.ofNat 1))))) true):=p2.mp h.next _ _ (by omega) (by omega) b3
  have ct2:Cnt (jz cn (kS (dz l i)) (cZ .i64 (Int.add (dl cn (kS (dz l i))) (Int.ofNat 1)))) ((l.take (i+1)).map kS):=by
   rw [ue hlt,List.map_append]
   exact ct.snoc (by rw [List.length_map,List.length_take];omega) _
  have kmb:KM 0 h h3:=(kma.trans gb.km).fresh (Nat.le_refl _) km3
  have e5:oJ D p (dz l i) (kK l i) fli=if D (dz l i).name (dz l i).arity then(if kK l i then fli++[flw p 1 (dz l i).name (dz l i).arity]else fli)else(if kK l i then fli++[flw p 1 (dz l i).name (dz l i).arity]else fli)++[flw p 2 (dz l i).name (dz l i).arity]:=rfl
  repeat' (first
   |refine ai ?_|refine bE.norm ?_|fail)
  refine bh ?_
  repeat' (show WY _ _ _ _ _ _ _ _;first
   |refine bn (by repeat' (first|exact bD.nil|refine bD.first (l3) ?_|refine bD.snd (l3) ?_|refine bD.first (lkd) ?_|refine bD.snd (lkd) ?_|refine bD.two (l3) (lkd) ?_|refine bD.two (lkd) (l3) ?_|refine bD.any (fun h=>rfl) ?_|refine bD.first rfl ?_)) ?_
   |refine aZ rfl rfl rfl rfl ?_|refine aK rfl rfl (l3) rfl ?_|refine aK rfl rfl (lkd) rfl ?_|refine aK rfl rfl rfl rfl ?_|fail)
  repeat' (first
   |(refine WLg.mk ?_;first
   |refine aa rfl rfl rfl rfl ?_|refine ab rfl rfl rfl rfl ?_|refine am rfl rfl rfl (c4) (fun _ _ q=>q) .none rfl ?_)
   |refine ah ?_|refine ac rfl ?_|refine ae ?_|refine al ?_|refine ak rfl (fun ht=>?_) (fun ht=>?_)|refine bE.norm ?_
   |fail)
  ·have hd:D (dz l i).name (dz l i).arity=false:=by
    have:=(by assumption:eqI kd 0=true)
    rw [ek]at this
    simpa using this
   refine .norm ⟨_,_,bR KH,hlt,rfl,?_,⟨_,bb4,ct2⟩,kmb.trans p2,by omega,by omega⟩
   show CS D p (oJ D p (dz l i) (kK l i) (cj (fun i fl=>oJ D p (dz l i) (kK l i) fl) fl i)) h4
   rw [←hfli,e5,if_neg (by rw [hd];decide)]
   exact p1
  ·have hd:D (dz l i).name (dz l i).arity=true:=by
    have:=(by assumption:eqI kd 0=false)
    rw [ek]at this
    simpa using this
   refine .norm ⟨_,_,bR KH,hlt,rfl,?_,⟨_,b3,ct2⟩,kmb,by omega,by omega⟩
   show CS D p (oJ D p (dz l i) (kK l i) (cj (fun i fl=>oJ D p (dz l i) (kK l i) fl) fl i)) h3
   rw [←hfli,e5,if_pos hd]
   exact cs3
end
section
noncomputable section
def kF(f:Fu):Ky:=(f.name,f.arity)
def p0:Pl:=⟨eB,0,0⟩
def dfM(m:Md):Df:=fun n a=>decide (0<pj (m.funcs.map kF) (n,a))
def kG(m:Md)(i:Nat):Bool:=decide (0<pj ((m.funcs.take i).map kF) (kF (cJ m.funcs i)))
def sz(m:Md):List Fl:=cj (fun i fl=>fnF (dfM m) (cJ m.funcs i) (kG m i) fl) (ym (dfM m) p0 m.exports []) m.funcs.length
def kQ(m:Md):List Fl:=if okM m then sz m else []
def dfC(cn:Cn):Df:=fun n a=>!eqI (dl cn (n,a)) 0
def fr12a(m:Md)(i:Nat):AL:=[(1,.eptr (mdO m) 0),(3,.ptr 2 0),(17,.lst m.funcs.length 3 (fuL m.funcs)),(18,.int .i64 (Int.ofNat m.funcs.length)),(19,.int .i64 (Int.ofNat i))]
def fr12b(m:Md)(km i:Nat):AL:=[(3,.ptr 2 0),(6,.map km),(43,.lst m.funcs.length 3 (fuL m.funcs)),(44,.int .i64 (Int.ofNat m.funcs.length)),(45,.int .i64 (Int.ofNat i))]
def c5:List V:=[.str 0 0,.int .i64 0,.int .i64 0,.map 1,.nils]
def hC:H:=⟨(H0.t.put 1 (some (.map [] true))).put 2 (some (.cells 5 (cE c5 0 .e) none false)),Nat.succ 2⟩
end
theorem BP(cn:Cn):Fe (dfC cn) (cnE cn):=fun h id o b n i=>⟨dl cn (n,i),kw b (n,i),by rw [dfC,Bool.not_not]⟩
theorem E5{cn:Cn}{m:Md}(c:Cnt cn (m.funcs.map kF)):dfC cn=dfM m:=by
 funext n a
 rw [dfC,dfM,c,gD]
 by_cases q:0<pj (m.funcs.map kF) (n,a)
 ·rw [decide_eq_true q,decide_eq_false (fun e=>by
   have e:(pj (m.funcs.map kF) (n,a):Int)=0:=e
   omega)]
  rfl
 ·rw [decide_eq_false q,decide_eq_true (show Int.ofNat (pj (m.funcs.map kF) (n,a))=0 by rw [Nat.eq_zero_of_not_pos q];rfl)]
  rfl
theorem CS.redef{D D':Df}{p:Pl}{fl:List Fl}{h h':H}(c:CS D p fl h){de:List (V×V)}{o:Bool}(b:h'.blk 1=some (.map de o))(d:Fe D' de)(hn:h'.next=h.next)(e:∀j,j≠1→h'.blk j=h.blk j):CS D' p fl h':=by
 obtain⟨de0,o0,e1,dd⟩:=c.b1
 obtain⟨tr,v,e2,t0,t1,t2,t3,t4,gl⟩:=c.b2
 refine⟨by rw [e 0 (by decide)];exact c.b0,⟨de,o,b,d⟩,⟨tr,v,by rw [e 2 (by decide)];exact e2,t0,t1,t2,t3,t4,gl.mono (Nat.le_of_eq hn.symm) fun b n q lt=>e b fun q2=>?_⟩,by rw [hn];exact c.ln,by rw [hn];exact c.le⟩
 subst q2
 subst q
 cases gl with
 |full hb=>rw [e1]at hb;cases hb
theorem zc{m:Md}(h:okM m=true):∀i,i<m.funcs.length→okF (cJ m.funcs i)=true:=fun i hi=>by
 cases q:okF (cJ m.funcs i)with
 |true=>rfl
 |false=>rw [sT hi q]at h;cases h
theorem EE{f:Fu}(h:okF f=true):f.arity=Int.ofNat (j9 f.clauses).pats.length:=by
 unfold okF at h
 simp only [Bool.and_eq_true]at h
 have:=h.2.2.1
 rw [gD]at this
 exact of_decide_eq_true this
theorem Bo(l:List Cl):(j9 l).pats.length≤bF (clL l):=by
 cases l with
 |nil=>exact Nat.zero_le _
 |cons c l=>
  have h1:=mB (show 0<(c ::l).length by simp)
  have h2:=kB (c ::l) (0+1)
  have h3:=ff (bL (c ::l) 0)
  have h4:=dt (bL (c ::l) 0).pats
  show(bL (c ::l) 0).pats.length≤_
  omega
theorem BT:CS (dfC []) p0 [] hC:=⟨rfl,⟨_,true,rfl,BP []⟩,⟨_,.nils,rfl,rfl,rfl,rfl,rfl,rfl,.none0⟩,Nat.zero_le _,by decide⟩
set_option maxHeartbeats 3200000 in
theorem f12c{m:Md}(hm:bF (mdO m)≤6000000):ck Tryz.prog TP 12 [.agg (mdO m)] (.lst (kQ m).length 6 (flL (kQ m)))∧(kQ m).length≤135000000:=by
 have hsz:=mU m
 have hn1:=mY m.funcs
 have hn2:=sH m.exports
 have px:=fM m
 obtain⟨r,c29,e29⟩:=f29 m hm
 obtain⟨n,cs,⟨rfl,hlen⟩,q2,q3⟩:∃n cs,(cs=flL (kQ m)∧(kQ m).length≤135000000)∧cs.length=n*6∧ck Tryz.prog TP 12 [.agg (mdO m)] (.lst n 6 cs):=by
  refine yC (t:=2) (Q:=fun cs=>cs=flL (kQ m)∧(kQ m).length≤135000000) Tryz.func12 (by decide) cf12_ok rfl (bO (.agg px) px0) rfl rfl ?_
  repeat' (first
   |(refine WLg.mk ?_;first
   |refine aa rfl rfl rfl rfl ?_|refine ab rfl rfl rfl rfl ?_|refine az rfl rfl rfl rfl px rfl ?_
   |refine aE (t:=H0.t) (k:=1) (vs:=[]) (b:= .map [] true) (mk:=fun i=>.map i) rfl rfl rfl rfl rfl ?_
   |refine aE (t:=H0.t.put 1 (some (.map [] true))) (k:=2) (vs:=[.agg c5]) (b:= .cells 5 (cE c5 0 .e) none false) (mk:=fun i=>.ptr i 0) rfl rfl rfl rfl rfl ?_
   |refine aq rfl rfl rfl (c29) rfl ?_)
   |refine ah ?_|refine ac rfl ?_|refine ai ?_|refine ae ?_|refine aj ?_|refine al ?_
   |refine ak rfl (fun ht=>?_) (fun ht=>?_)|refine ap ?_|refine bE.norm ?_|refine bE.ret ?_|fail)
  ·have:okM m=false:=by rw [←e29];simpa using(by assumption:(!eqI r 0)=true)
   exact⟨.inr rfl,.nils,[],rfl,rfl,.none0,(fun c hc=>by cases hc),by rw [kQ,this];rfl,by rw [kQ,this];exact Nat.zero_le _⟩
  have hok:okM m=true:=by rw [←e29];simpa using(by assumption:(!eqI r 0)=false)
  have hofs:=zc hok
  refine av (bR (l:=fr12a m 0) KH) ?_
  change WC _ _ _ _ _ _ _ hC _
  refine aw m.funcs.length (fun i f h1=>f=fr12a m i∧∃cn,CS (dfC cn) p0 [] h1∧h1.blk 1=some (.map (cnE cn) true)∧Cnt cn ((m.funcs.take i).map kF)∧h1.next=3) ?_ (i:=0) (Nat.zero_le _) ⟨rfl,[],BT,rfl,Cnt.nil,rfl⟩
  rintro i _ ha hi ⟨rfl,cn,csa,ba,ct,nx⟩
  have hi2:i<9223372036854775807:=by omega
  cases q:ltI (Int.ofNat i) (Int.ofNat m.funcs.length)with
  |true=>
   have hlt:=bK q
   have pp:=jj (cJ m.funcs i)
   have lk:=kw ba (kF (cJ m.funcs i))
   obtain⟨tr,v,f2,t0,t1,t2,t3,t4,gl⟩:=csa.b2
   have l3:ROp.run (.load false 1) [.ptr 2 3] ha=some (.map 1):=dq f2 t3 (by decide)
   obtain⟨h2,h3,v0,j,e1,e2,e3,b3,o3,n3⟩:=tH ba (by unfold bP;omega) (kF (cJ m.funcs i)) (cZ .i64 (Int.add (dl cn (kF (cJ m.funcs i))) (Int.ofNat 1)))
   have cs3:=csa.redef b3 (BP _) n3 o3
   have ct2:Cnt (jz cn (kF (cJ m.funcs i)) (cZ .i64 (Int.add (dl cn (kF (cJ m.funcs i))) (Int.ofNat 1)))) ((m.funcs.take (i+1)).map kF):=by
    rw [ji hlt,List.map_append]
    exact ct.snoc (by rw [List.length_map,List.length_take];omega) _
   repeat' (first
    |(refine WLg.mk ?_;first
    |refine aa rfl rfl rfl rfl ?_|refine aa rfl rfl (bM Hy) rfl ?_|refine ab rfl rfl (jd Hy) rfl ?_
    |refine aA rfl rfl (cT (by omega)) rfl rfl rfl rfl rfl rfl rfl rfl pp rfl rfl ?_)
    |refine ah ?_|refine ac rfl ?_|refine ai ?_|refine ae ?_|refine aj ?_|refine al ?_
    |refine ak rfl (fun ht=>?_) (fun ht=>(Bool.false_ne_true (ht.symm.trans (by with_reducible assumption))).elim)
    |refine bE.norm ?_|fail)
   refine bh ?_
   repeat' (show WY _ _ _ _ _ _ _ _;first
    |refine bn (by repeat' (first|exact bD.nil|refine bD.first (l3) ?_|refine bD.snd (l3) ?_|refine bD.first (lk) ?_|refine bD.snd (lk) ?_|refine bD.first (e2) ?_|refine bD.snd (e2) ?_|refine bD.two (l3) (lk) ?_|refine bD.two (l3) (e2) ?_|refine bD.two (lk) (l3) ?_|refine bD.two (lk) (e2) ?_|refine bD.two (e2) (l3) ?_|refine bD.two (e2) (lk) ?_|refine bD.any (fun h=>rfl) ?_|refine bD.first rfl ?_)) ?_
    |refine aZ rfl rfl rfl rfl ?_|refine aK rfl rfl (l3) rfl ?_|refine aK rfl rfl (lk) rfl ?_|refine aK rfl rfl rfl rfl ?_
    |refine aS rfl rfl (e1) rfl ?_|refine aS rfl rfl (e3) rfl ?_|fail)
   repeat' (first
    |(refine WLg.mk ?_;first
    |refine aa rfl rfl rfl rfl ?_)
    |refine ah ?_|refine ac rfl ?_|refine ae ?_|refine bE.norm ?_|fail)
   exact .norm ⟨_,_,bR KH,hlt,rfl,_,cs3,b3,ct2,by omega⟩
  |false=>
   have hie:i=m.funcs.length:=by have:=ci q;omega
   subst hie
   rw [List.take_length]at ct
   rw [E5 ct]at csa
   obtain⟨hb,c30,gb⟩:=f30 csa m.exports (by omega) (by omega)
   have nb:=gb.nx
   obtain⟨csm,som,kmm⟩:=gb.cs.newmap (by omega) [] true List.nodup_nil
   have b0:(⟨hb.t.put hb.next (some (.map (scE []) true)),Nat.succ hb.next⟩:H).blk hb.next=some (.map (cnE []) true):=by rw [fE (by unfold bP;omega),if_pos rfl];rfl
   have gbl:=gb.km.le
   repeat' (first
    |(refine WLg.mk ?_;first
    |refine aa rfl rfl rfl rfl ?_|refine ab rfl rfl rfl rfl ?_|refine aE (t:=hb.t) (k:=hb.next) rfl rfl rfl (cT (by omega)) rfl ?_
    |refine am rfl rfl rfl (c30) (fun _ _ q=>q) .none rfl ?_)
    |refine ah ?_|refine ac rfl ?_|refine ai ?_|refine ae ?_|refine aj ?_
    |refine ak rfl (fun ht=>(Bool.false_ne_true ((show _=false by with_reducible assumption).symm.trans ht)).elim) (fun ht=>?_)
    |refine au ?_|refine bE.norm ?_|refine bE.exit ?_|refine OnC.exit ?_|fail)
   refine av (bR (l:=fr12b m hb.next 0) KH) ?_
   refine aw m.funcs.length (fun i f h1=>f=fr12b m hb.next i∧(∃p,CS (dfM m) p (cj (fun i fl=>fnF (dfM m) (cJ m.funcs i) (kG m i) fl) (ym (dfM m) p0 m.exports []) i) h1)∧(∃cn,h1.blk hb.next=some (.map (cnE cn) true)∧Cnt cn ((m.funcs.take i).map kF))∧hb.next<h1.next∧h1.next≤hb.next+1+40*bF (fuL (m.funcs.take i))) ?_ (i:=0) (Nat.zero_le _) ⟨rfl,⟨_,csm⟩,⟨[],b0,Cnt.nil⟩,Nat.lt_succ_self _,Nat.le_add_right _ _⟩
   have lbn:2<hb.next:=by omega
   have ubn:hb.next≤4+4*m.exports.length:=by omega
   clear csm som kmm b0 gb c30 csa ba ct nx hi hi2 q nb gbl
   rintro i _ ha hi ⟨rfl,⟨p,csa⟩,⟨cn,ba,ct⟩,lta,nxa⟩
   have hi2:i<9223372036854775807:=by omega
   have hle:=qH m.funcs i
   cases q:ltI (Int.ofNat i) (Int.ofNat m.funcs.length)with
   |false=>
    have hie:i=m.funcs.length:=by have:=ci q;omega
    obtain⟨tr,v,f2,t0,t1,t2,t3,t4,gl⟩:=csa.b2
    have l4:ROp.run (.load false 1) [.ptr 2 4] ha=some v:=dq f2 t4 (by decide)
    repeat' (first
     |(refine WLg.mk ?_;first
     |refine aa rfl rfl rfl rfl ?_|refine ab rfl rfl (l4) rfl ?_)
     |refine ah ?_|refine ac rfl ?_|refine ai ?_|refine ae ?_
     |refine ak rfl (fun ht=>(Bool.false_ne_true ((show _=false by with_reducible assumption).symm.trans ht)).elim) (fun ht=>?_)
     |refine au ?_|refine ap ?_|refine bE.norm ?_|refine bE.exit ?_|refine OnC.exit ?_|fail)
    subst hie
    have hln:2*(sz m).length≤ha.next:=csa.ln
    exact⟨.inr rfl,v,_,rfl,csa.b0,gl,qI _,by rw [kQ,hok];rfl,by rw [kQ,hok];show(sz m).length≤_;omega⟩
   |true=>
    have hlt:=bK q
    have hpre:=Bv hlt
    have hle2:=qH m.funcs (i+1)
    have pp:=jj (cJ m.funcs i)
    have pk:∀c,c∈[sV (cJ m.funcs i).name,V.int .i64 (cJ m.funcs i).arity]→bN c:=bO (.flat rfl) (bO (.flat rfl) px0)
    have har:=EE (hofs i hlt)
    have hhl:=Bo (cJ m.funcs i).clauses
    have hfs:=iN (cJ m.funcs i)
    have lk:=kw ba (kF (cJ m.funcs i))
    have ag:ltI 0 (dl cn (kF (cJ m.funcs i)))=kG m i:=by rw [ct,uK];rfl
    obtain⟨hu,c31,gu⟩:=f31 csa har (by omega) (by omega) (kG m i) (by omega)
    obtain⟨p',csu⟩:=gu.cs
    have nu:=gu.nx
    have gul:=gu.km.le
    have bu:=gu.km.mp hb.next _ _ lta (by omega) ba
    have lku:=kw bu (kF (cJ m.funcs i))
    obtain⟨h2,h3,v0,j,e1,e2,e3,b3,o3,n3⟩:=tH bu (by unfold bP;omega) (kF (cJ m.funcs i)) (cZ .i64 (Int.add (dl cn (kF (cJ m.funcs i))) (Int.ofNat 1)))
    obtain⟨cs3,km3⟩:=csu.beside bu lbn n3 o3
    have ct2:Cnt (jz cn (kF (cJ m.funcs i)) (cZ .i64 (Int.add (dl cn (kF (cJ m.funcs i))) (Int.ofNat 1)))) ((m.funcs.take (i+1)).map kF):=by
     rw [ji hlt,List.map_append]
     exact ct.snoc (by rw [List.length_map,List.length_take];omega) _
    rw [←ag]at c31
    repeat' (first
     |(refine WLg.mk ?_;first
     |refine aa rfl rfl rfl rfl ?_|refine aa rfl rfl (bM Hy) rfl ?_|refine ab rfl rfl (jd Hy) rfl ?_
     |refine ab rfl rfl rfl rfl ?_|refine aA rfl rfl (cT (by omega)) rfl rfl rfl rfl rfl rfl rfl rfl pp rfl rfl ?_
     |refine aA rfl rfl (cT (by omega)) rfl rfl rfl rfl rfl rfl rfl rfl pk rfl rfl ?_)
     |refine ah ?_|refine ac rfl ?_|refine ai ?_|refine ae ?_|refine aj ?_|refine al ?_
     |refine ak rfl (fun ht=>?_) (fun ht=>(Bool.false_ne_true (ht.symm.trans (by with_reducible assumption))).elim)
     |refine bE.norm ?_|fail)
    refine aJ ?_
    repeat' (first
     |(show WX _ _ _ _ _ _ _ _ _ _;first
     |refine aG rfl rfl rfl rfl ?_|refine aF rfl rfl (lk) rfl ?_|refine aF rfl rfl rfl rfl ?_|refine aR rfl rfl rfl (c31) .none rfl ?_
     |refine aI (by repeat' (first|exact bD.nil|refine bD.any (fun h=>rfl) ?_|refine bD.first rfl ?_|refine bD.first (lk) ?_|refine bD.snd (lk) ?_|refine bD.any (fun h=>lk) ?_|refine bD.each (.cons rfl .nil) ?_|refine bD.each (.cons rfl (.cons rfl .nil)) ?_|refine bD.each (.cons rfl (.cons rfl (.cons rfl .nil))) ?_)) ?_)
     |refine bE.norm ?_|fail)
    refine bh ?_
    repeat' (show WY _ _ _ _ _ _ _ _;first
     |refine bn (by repeat' (first|exact bD.nil|refine bD.first (lku) ?_|refine bD.snd (lku) ?_|refine bD.first (e2) ?_|refine bD.snd (e2) ?_|refine bD.two (lku) (e2) ?_|refine bD.two (e2) (lku) ?_|refine bD.any (fun h=>rfl) ?_|refine bD.first rfl ?_)) ?_
     |refine aZ rfl rfl rfl rfl ?_|refine aK rfl rfl (lku) rfl ?_|refine aK rfl rfl rfl rfl ?_|refine aS rfl rfl (e1) rfl ?_
     |refine aS rfl rfl (e3) rfl ?_|fail)
    repeat' (first
     |(refine WLg.mk ?_;first
     |refine aa rfl rfl rfl rfl ?_)
     |refine ah ?_|refine ac rfl ?_|refine ae ?_|refine bE.norm ?_|fail)
    refine .norm ⟨_,_,bR KH,hlt,rfl,⟨p',?_⟩,⟨_,b3,ct2⟩,by omega,by omega⟩
    show CS (dfM m) p' (fnF (dfM m) (cJ m.funcs i) (kG m i) (cj (fun i fl=>fnF (dfM m) (cJ m.funcs i) (kG m i) fl) (ym (dfM m) p0 m.exports []) i)) h3
    exact cs3
 rw [mz]at q2
 refine⟨?_,hlen⟩
 rw [show(kQ m).length=n by omega]
 exact q3
end
end Ev
end Go.Proofs.YtdfphfdnoobikaaGreatDoor
