/-
  LintBlock answers true of every module.
-/
import Derived.Test.YtdfphfdnoobikaaGreatDoorLtTn1
import Derived.Test.YtdfphfdnoobikaaGreatDoorLtMod
import Derived.ProofKit
import Derived.OpenShut
import Derived.Deep.Slices
import Derived.Deep.Fields
import Derived.ChangeSame
namespace Go.Proofs.YtdfphfdnoobikaaGreatDoor
namespace Ev
section
set_option maxHeartbeats 3200000 in
theorem f5(m:Md):ck Tryz.prog TP 5 [.agg (mdO m)] (.bool true):=by
 obtain⟨v,c,rfl⟩:∃v,ck Tryz.prog TP 5 [.agg (mdO m)] v∧v= .bool true:=by
  have px:=fM m
  have c7':=c7
  obtain⟨b,c8,hb⟩:=f8b m
  refine cH Tryz.func5 (by decide) cf5_ok rfl (bO (.agg px) px0) rfl ?_
  cases b with
  |false=>
   repeat' (first
    |(refine WLg.mk ?_;first
    |refine aa rfl rfl rfl rfl ?_|refine ab rfl rfl rfl rfl ?_|refine az rfl rfl rfl rfl px rfl ?_|refine aq rfl rfl rfl (c7') rfl ?_
    |refine aq rfl rfl rfl (c8) rfl ?_)
    |refine ah ?_|refine ac rfl ?_|refine ai ?_|refine ae ?_|refine al ?_|refine aC rfl ?_|refine aB rfl ?_
    |refine ap ?_|refine bE.norm ?_|refine bE.ret ?_|fail)
   exact⟨.inr rfl,_,rfl,.flat rfl,rfl⟩
  |true=>
  have hm:=hb rfl
  clear hb
  have hsz:=mU m
  have hn:=mY m.funcs
  repeat' (first
   |(refine WLg.mk ?_;first
   |refine aa rfl rfl rfl rfl ?_|refine ab rfl rfl rfl rfl ?_|refine az rfl rfl rfl rfl px rfl ?_|refine aq rfl rfl rfl (c7') rfl ?_
   |refine aq rfl rfl rfl (c8) rfl ?_)
   |refine ah ?_|refine ac rfl ?_|refine ai ?_|refine ae ?_|refine aj ?_|refine al ?_|refine aB rfl ?_
   |refine bE.norm ?_|fail)
  refine av (v50 (m:=m) rfl rfl rfl) ?_
  refine aw m.funcs.length (fun i f h=>f=fr5a m i∧h=H5a ((m.funcs.take i).map dU)) ?_ (i:=0) (Nat.zero_le _) ⟨rfl,rfl⟩
  rintro i _ _ hi ⟨rfl,rfl⟩
  have hi2:i<9223372036854775807:=by omega
  have hlen:((m.funcs.take i).map dU).length=i:=by rw [List.length_map,List.length_take];omega
  cases q:ltI (Int.ofNat i) (Int.ofNat m.funcs.length)with
  |true=>
   have hlt:=bK q
   have hcl:=oK (ltb hlt)
   have hfz:=iN (cJ m.funcs i)
   have hcn:=eS (cJ m.funcs i).clauses
   generalize hu:cJ m.funcs i=u at*
   have pu:=jj u
   repeat' (first
    |(refine WLg.mk ?_;first
    |refine aa rfl rfl rfl rfl ?_|refine aa rfl rfl (bM Hy) rfl ?_|refine ab rfl rfl (hu▸jd Hy) rfl ?_
    |refine ab rfl rfl rfl rfl ?_|refine aE rfl rfl rfl rfl rfl ?_|refine aL rfl rfl rfl rfl rfl rfl rfl rfl rfl ?_)
    |refine ah ?_|refine ac rfl ?_|refine ai ?_|refine ae ?_|refine aj ?_|refine al ?_
    |refine ak rfl (fun ht=>?_) (fun ht=>(Bool.false_ne_true (ht.symm.trans (by with_reducible assumption))).elim)
    |refine bE.norm ?_|fail)
   have hfs:=eN ((m.funcs.take i).map dU)
   generalize hF:(m.funcs.take i).map dU=F at*
   refine av (v5a (m:=m) (i:=i) (l:=F) (u:=u) rfl rfl rfl rfl rfl rfl rfl rfl rfl (Nat.le_of_ble_eq_true (n:=2) rfl) hlen (by omega)) ?_
   refine aw u.clauses.length (fun k f h=>f=fr5b m i k∧h=H5b F u ((u.clauses.take k).map fD)) ?_ (i:=0) (Nat.zero_le _) ⟨rfl,rfl⟩
   rintro k _ _ hk ⟨rfl,rfl⟩
   have hk2:k<9223372036854775807:=by omega
   have hclen:((u.clauses.take k).map fD).length=k:=by rw [List.length_map,List.length_take];omega
   have hcs:=gG ((u.clauses.take k).map fD)
   cases qk:ltI (Int.ofNat k) (Int.ofNat u.clauses.length)with
   |true=>
    have hkl:=bK qk
    have hcs2:=ii (f:=clO) (g:=clL) (by rw [clL]) eJ u.clauses k
    have hC:((u.clauses.take k).map fD).length≤5300000:=by omega
    generalize hC2:(u.clauses.take k).map fD=C at*
    repeat' (first
     |(refine WLg.mk ?_;first
     |refine aa rfl rfl rfl rfl ?_|refine aa rfl rfl (bM Hy) rfl ?_|refine ab rfl rfl rfl rfl ?_
     |refine ab rfl rfl (gK Hy) rfl ?_|refine aQ rfl rfl rfl rfl rfl rfl (yI (bL u.clauses k).body) rfl ?_
     |refine aQ rfl rfl rfl rfl rfl rfl (Dq (bL u.clauses k)) rfl ?_|refine aE rfl rfl rfl rfl rfl ?_
     |refine aN rfl rfl rfl rfl rfl rfl rfl rfl rfl ?_|refine aL rfl rfl rfl rfl rfl rfl rfl rfl rfl ?_)
     |refine ah ?_|refine ac rfl ?_|refine ai ?_|refine ae ?_|refine aj ?_|refine al ?_
     |refine ak rfl (fun ht=>?_) (fun ht=>(Bool.false_ne_true (ht.symm.trans (by with_reducible assumption))).elim)
     |refine bE.norm ?_|fail)
    refine WLg.mk (WL.appG (xs:=xv (bL u.clauses k)) rfl rfl (glG (i:=3) (cs:=clL C) rfl (by rw [hcs,hclen]) (by decide) (by unfold bP;omega) (Nat.le_of_ble_eq_true (n:=4) rfl)) (by decide) rfl rfl (by show 5+1<bP;unfold bP;omega) (by show(clL C).length+4<_;omega) (by omega) (by decide) fun n h' g' nx kp=>⟨_,_,rfl,?_⟩)
    repeat' (first
     |(refine WLg.mk ?_;first
     |refine aa rfl rfl rfl rfl ?_)
     |refine ah ?_|refine ac rfl ?_|refine ae ?_|refine bE.norm ?_|fail)
    have b0:=kp 0 (Nat.le_of_ble_eq_true (n:=1) rfl) fun b n q=>nI q fun q=>by omega
    have b1:=kp 1 (Nat.le_of_ble_eq_true (n:=2) rfl) fun b n q=>nI q fun q=>by omega
    have b2:=kp 2 (Nat.le_of_ble_eq_true (n:=3) rfl) fun b n q=>nI q fun q=>by omega
    refine .norm ⟨_,_,v5b (m:=m) (l:=F) (u:=u) (cs:=C) (c:=bL u.clauses k) rfl rfl rfl rfl rfl (dB hk2) b0 b1 b2 g' (by rw [nx];exact Nat.le_of_ble_eq_true (n:=2) rfl) hlen hclen (by omega) (by omega),hkl,rfl,?_⟩
    rw [yY hkl,hC2]
   |false=>
    have hke:k=u.clauses.length:=by have:=ci qk;omega
    have hC:(u.clauses.take k).map fD=(dU u).clauses:=by rw [hke,List.take_length];rfl
    have hk3:k=(dU u).clauses.length:=by rw [←hC];exact hclen.symm
    rw [hC]at hclen hcs ⊢
    subst hk3
    have pb:=jj (dU u)
    repeat' (first
     |(refine WLg.mk ?_;first
     |refine aa rfl rfl rfl rfl ?_|refine ab rfl rfl rfl rfl ?_|refine aQ (cs:=fuO (dU u)) rfl rfl rfl rfl rfl rfl pb rfl ?_
     |refine aN rfl rfl rfl rfl rfl rfl rfl rfl rfl ?_)
     |refine ah ?_|refine ac rfl ?_
     |(show WC _ _ _ _ _ (.reg (⟨.t 49,_,_,_,_,_⟩ ::_)) _ _ _;refine av (v5c (m:=m) (i:=i) (l:=F) (u:=u) (cs:=(dU u).clauses) rfl rfl rfl rfl rfl rfl hlen rfl (by omega) (by omega)) ?_)
     |refine ai ?_|refine ae ?_
     |refine ak rfl (fun ht=>(Bool.false_ne_true ((show _=false by with_reducible assumption).symm.trans ht)).elim) (fun ht=>?_)
     |refine au ?_|refine bE.norm ?_|refine bE.exit ?_|refine OnC.exit ?_|fail)
    refine WLg.mk (WL.appG (xs:=fuO (dU u)) rfl rfl (glG (i:=1) (cs:=fuL F) rfl (by rw [hfs,hlen]) (by decide) (by unfold bP;omega) (Nat.le_of_ble_eq_true (n:=2) rfl)) (by decide) rfl rfl (by show 3+1<bP;unfold bP;omega) (by show(fuL F).length+3<_;omega) (by omega) (by decide) fun n h' g' nx kp=>⟨_,_,rfl,?_⟩)
    repeat' (first
     |(refine WLg.mk ?_;first
     |refine aa rfl rfl rfl rfl ?_)
     |refine ah ?_|refine ac rfl ?_|refine ae ?_|refine bE.norm ?_|fail)
    have b0:=kp 0 (Nat.le_of_ble_eq_true (n:=1) rfl) fun b n q=>nI q fun q=>by omega
    refine .norm ⟨_,_,v5e (m:=m) (l:=F) (u:=dU u) rfl rfl (dB hi2) b0 g' hlen (by omega),hlt,rfl,?_⟩
    rw [yX hlt,hF,hu]
  |false=>
   have hie:i=m.funcs.length:=by have:=ci q;omega
   have hF:(m.funcs.take i).map dU=(fJ m).funcs:=by rw [hie,List.take_length];rfl
   rw [hF]at hlen ⊢
   have hs2:=Ch m
   have c10:ck Tryz.prog TP 10 [.agg (mdO m),.lst (fJ m).funcs.length 3 (fuL (fJ m).funcs)] (.agg (mdO (fJ m))):=f10 m (fJ m).funcs
   have pf:=EB (fJ m).funcs
   have pw:=fM (fJ m)
   have pxe:bN (.eptr (mdO m) 0):= .eptr px
   have hfl:=eN (fJ m).funcs
   subst hlen
   obtain⟨r1,c11,ok1⟩:=f11 m (by omega)
   obtain⟨r2,c11w,ok2⟩:=f11 (fJ m) (by omega)
   have law:r1=0→r2=0→kQ (fJ m)=kQ m:=fun e1 e2=>zW (by omega) (e1▸ok1) (e2▸ok2)
   have c12:=f12c (m:=m) (by omega)
   have c12w:=f12c (m:=fJ m) (by omega)
   obtain⟨c12,lm⟩:=c12
   obtain⟨c12w,lw⟩:=c12w
   have c13:=f13 (kQ m) (by omega)
   have hb1:(fuL (fJ m).funcs).length≤100000000:=by omega
   clear ok1 ok2 c8 hm
   cases q1:eqI r1 0 with
   |false=>
    have p1:(!eqI r1 0)=true:=by rw [q1];rfl
    repeat' (first
     |(refine WLg.mk ?_;first
     |refine aa rfl rfl rfl rfl ?_|refine ab rfl rfl rfl rfl ?_|refine aA rfl rfl rfl rfl rfl rfl rfl rfl rfl rfl rfl pw rfl rfl ?_
     |refine aq rfl rfl rfl (c10) rfl ?_|refine aq rfl rfl rfl (c11) rfl ?_)
     |refine ah ?_|refine ac rfl ?_|refine ax rfl rfl ?_
     |refine ay rfl (fun ht=>?_) (fun ht=>(Bool.false_ne_true (ht.symm.trans (by with_reducible assumption))).elim)
     |(show WC _ _ _ _ _ (.reg (⟨.t 55,_,_,_,_,_⟩ ::_)) _ _ _;refine av (v5f (m:=m) (l:=(fJ m).funcs) rfl rfl rfl hb1) ?_)
     |refine ai ?_|refine ae ?_|refine aC rfl ?_
     |refine ak rfl (fun ht=>(Bool.false_ne_true ((show _=false by with_reducible assumption).symm.trans ht)).elim) (fun ht=>?_)
     |refine au ?_|refine ap ?_|refine bE.norm ?_|refine bE.ret ?_|refine bE.exit ?_|refine OnC.exit ?_|fail)
    all_goals exact⟨.inr rfl,_,rfl,.flat rfl,rfl⟩
   |true=>
    have p1:(!eqI r1 0)=false:=by rw [q1];rfl
    cases q2:eqI r2 0 with
    |false=>
     have p2:(!eqI r2 0)=true:=by rw [q2];rfl
     repeat' (first
      |(refine WLg.mk ?_;first
      |refine aa rfl rfl rfl rfl ?_|refine ab rfl rfl rfl rfl ?_|refine aA rfl rfl rfl rfl rfl rfl rfl rfl rfl rfl rfl pw rfl rfl ?_
      |refine aq rfl rfl rfl (c10) rfl ?_|refine aq rfl rfl rfl (c11) rfl ?_|refine aq rfl rfl rfl (c11w) rfl ?_)
      |refine ah ?_|refine ac rfl ?_
      |refine ay rfl (fun ht=>(Bool.false_ne_true ((show _=false by with_reducible assumption).symm.trans ht)).elim) (fun ht=>?_)
      |(show WC _ _ _ _ _ (.reg (⟨.t 55,_,_,_,_,_⟩ ::_)) _ _ _;refine av (v5f (m:=m) (l:=(fJ m).funcs) rfl rfl rfl hb1) ?_)
      |refine ai ?_|refine ae ?_
      |refine ak rfl (fun ht=>?_) (fun ht=>(Bool.false_ne_true (ht.symm.trans (by with_reducible assumption))).elim)
      |refine ak rfl (fun ht=>(Bool.false_ne_true ((show _=false by with_reducible assumption).symm.trans ht)).elim) (fun ht=>?_)
      |refine au ?_|refine ap ?_|refine bE.norm ?_|refine bE.ret ?_|refine bE.exit ?_|refine OnC.exit ?_|fail)
     all_goals exact⟨.inr rfl,_,rfl,.flat rfl,rfl⟩
    |true=>
     have p2:(!eqI r2 0)=false:=by rw [q2];rfl
     rw [law (oP q1) (oP q2)]at c12w
     repeat' (first
      |(refine WLg.mk ?_;first
      |refine aa rfl rfl rfl rfl ?_|refine ab rfl rfl rfl rfl ?_|refine aA rfl rfl rfl rfl rfl rfl rfl rfl rfl rfl rfl pw rfl rfl ?_
      |refine aq rfl rfl rfl (c10) rfl ?_|refine aq rfl rfl rfl (c11) rfl ?_|refine aq rfl rfl rfl (c11w) rfl ?_)
      |(show WX _ _ _ _ _ _ _ _ _ _;first
      |refine aG rfl rfl rfl rfl ?_|refine aF rfl rfl rfl rfl ?_|refine aO rfl rfl rfl (c12) .none rfl ?_
      |refine aO rfl rfl rfl (c12w) .none rfl ?_|refine aO rfl rfl rfl (c13) .none rfl ?_
      |refine aI (by repeat' (first|exact bD.nil|refine bD.any (fun h=>rfl) ?_|refine bD.first rfl ?_|refine bD.each (.cons rfl .nil) ?_|refine bD.each (.cons rfl (.cons rfl .nil)) ?_|refine bD.each (.cons rfl (.cons rfl (.cons rfl .nil))) ?_)) ?_)
      |refine ah ?_|refine ac rfl ?_
      |refine ay rfl (fun ht=>(Bool.false_ne_true ((show _=false by with_reducible assumption).symm.trans ht)).elim) (fun ht=>?_)
      |(show WC _ _ _ _ _ (.reg (⟨.t 55,_,_,_,_,_⟩ ::_)) _ _ _;refine av (v5f (m:=m) (l:=(fJ m).funcs) rfl rfl rfl hb1) ?_)
      |refine ai ?_|refine ae ?_|refine al ?_
      |refine ak rfl (fun ht=>(Bool.false_ne_true ((show _=false by with_reducible assumption).symm.trans ht)).elim) (fun ht=>?_)
      |refine au ?_|refine ap ?_|refine aJ ?_|refine bE.norm ?_|refine bE.exit ?_|refine OnC.exit ?_|fail)
     all_goals exact⟨.inr rfl,_,rfl,.flat rfl,rfl⟩
 exact c
end
section
open Go.ChangeShapes Go.WideShapes Go.Deep
noncomputable section
def dG(W:World):En:=⟨fun b=>if b=0 then none else match W.heap[b]? with
 |some (.cells c _ _)=>some c
 |_=>none⟩
def g0:G:=et nog 0 (0,0,256)
end
theorem wS{W:World}{b:Nat}{c:Array Value}{t:TypeId}{s:Nat×Nat}(h0:b≠0)(h:W.heap[b]? =some (.cells c t s)):(dG W).ro b=some c:=by
 show(if b=0 then none else match W.heap[b]? with
  |some (.cells c _ _)=>some c
  |_=>none)=some c
 rw [if_neg h0,h]
theorem zL{W:World}{b:Nat}{c:Array Value}(h:(dG W).ro b=some c):b≠0∧∃t:TypeId×(Nat×Nat),W.heap[b]? =some (.cells c t.1 t.2):=by
 have h:(if b=0 then none else match W.heap[b]? with
  |some (.cells c _ _)=>some c
  |_=>none)=some c:=h
 split at h
 ·cases h
 ·rename_i h0
  refine⟨h0,?_⟩
  split at h
  ·rename_i c' t s q
   cases h
   exact⟨(t,s),q⟩
  ·cases h
def mE(W:World):Prop:=∃c t s,W.heap[0]? =some (.cells c t s)∧∀(j:Nat) u,c[j]? =some u→∃z,u=Value.int .u8 z
def vH(v:V):Prop:=∀(E:En) (g:G) (u:Value) (z:Int),@VR E g v u→u≠.int .u8 z
theorem A5(n:Int):vH (.int .i64 n):=fun E g u z h e=>by subst e;cases h
theorem vZ(n c:Nat):vH (.str n c):=fun E g u z h e=>by subst e;cases h
theorem CO(b:Bool):vH (.bool b):=fun E g u z h e=>by subst e;cases h
theorem EF(n es:Nat)(l:List V):vH (.lst n es l):=fun E g u z h e=>by subst e;cases h
theorem yi{α:Type}{P:Nat→α→Prop}:∀(n:Nat),(∀i,i<n→∃x,P i x)→∃l:List α,l.length=n∧∀i x,l[i]? =some x→P i x
 |0,_=>⟨[],rfl,fun i x h=>by simp at h⟩
 |n+1,h=>by
  obtain⟨l,hl,hp⟩:=yi n (fun i hi=>h i (by omega))
  obtain⟨x,hx⟩:=h n (by omega)
  refine⟨l++[x],by simp [hl],fun i y hy=>?_⟩
  rw [List.getElem?_append]at hy
  split at hy
  ·exact hp i y hy
  ·rename_i hge
   have:i-l.length=0:=by
    have:=(List.getElem?_eq_some_iff.1 hy).1
    simpa using this
   rw [this]at hy
   simp at hy
   subst hy
   rw [show i=n by omega]
   exact hx
section
variable {H:Type} {enc:TypeId×Value→H} {W:World} {spare:Nat→Bool} {held:Bool}
theorem xU{E:En}{g:G}{α:Type}{f:α→List V}{gl:List α→List V}(hn:gl []=[])(hc:∀a l,gl (a ::l)=f a++gl l){es:Nat}{c:Array Value}:∀(l:List α) (o:Nat),(∀i x,l[i]? =some x→∃cs':List Value,@VRs E g (f x) cs'∧cs'.length=es∧∀j,j<es→c[o+i*es+j]? =cs'[j]?)→@VRs E g (gl l) ((c.toList.drop o).take (l.length*es))
 |[],o,_=>by
  rw [hn]
  simp
  exact @VRs.nil E g
 |a ::l,o,h=>by
  obtain⟨cs',h1,h2,h3⟩:=h 0 a rfl
  have ih:=xU hn hc l (o+es) (fun i x hx=>by
   obtain⟨cs2,k1,k2,k3⟩:=h (i+1) x hx
   refine⟨cs2,k1,k2,fun j hj=>?_⟩
   rw [←k3 j hj]
   congr 1
   rw [Nat.add_mul]
   omega)
  rw [hc,List.length_cons,Nat.add_mul,Nat.one_mul,Nat.add_comm (l.length*es) es,List.take_add,List.drop_drop]
  have e:(c.toList.drop o).take es=cs':=by
   apply List.ext_getElem?
   intro j
   rw [List.getElem?_take]
   split
   ·rename_i hj
    rw [List.getElem?_drop,Array.getElem?_toList,←h3 j hj]
    congr 1
    omega
   ·rw [List.getElem?_eq_none (by omega)]
  rw [e]
  exact @VRs.append E g _ _ _ _ h1 ih
theorem ml(h0:mE W){α:Type}{f:α→List V}{gl:List α→List V}(hn:gl []=[])(hc:∀a l,gl (a ::l)=f a++gl l){t e es:Nat}(ht:Tryz.prog.underlying t=some (.slice e))(hes:Tryz.prog.cellsOf e=es)(hpos:0<es)(hfl:∀a,(f a).length=es)
  (first:∀a,∃v r,f a=v ::r∧vH v) {n:Nat} (k:∀m,m<n→∀(cs:List Value) x,cs.length=es→DataW.trod enc Tryz.prog W 0 spare held m e cs=some x→∃a,@VRs (dG W) g0 (f a) cs) {v:Value} {y:DataW H×List MemPlace}
  (h:DataW.trod enc Tryz.prog W 0 spare held n t [v]=some y):∃l,@VR (dG W) g0 (.lst l.length es (gl l)) v:=by
 rcases DataW.trod_slice ht h with⟨e1,_⟩ | ⟨a,len,cap,elems,rest,n',hn',hcs,_,hb,hl,hcap,hlen,hel,_,_⟩
 ·cases e1
  refine⟨[],?_⟩
  rw [hn]
  exact @VR.lst0 (dG W) g0 es
 obtain rfl:=(List.cons.inj hcs).1
 rcases Nat.eq_zero_or_pos len with rfl|hp
 ·refine⟨[],?_⟩
  rw [hn]
  exact @VR.lstz (dG W) g0 es cap a
 have one:∀i,i<len→∃x:α,∃cs':List Value,@VRs (dG W) g0 (f x) cs'∧cs'.length=es∧∀j,j<es→W.cell? (a.add (i*es+j))=cs'[j]? :=by
  intro i hi
  have h1:=hel i hi
  rw [List.getElem?_eq_getElem (by omega)]at h1
  obtain⟨cs',h2,h3⟩:=Option.bind_eq_some_iff.1 h1
  rw [hes]at h2
  obtain⟨_,h4,h5⟩:=World.cells?_some h2
  obtain⟨x,hx⟩:=k n' (by omega) cs' _ h4 h3
  refine⟨x,cs',hx,h4,fun j hj=>?_⟩
  rw [←h5 j hj,←Go.Deep.add_add]
 obtain⟨l,hll,hl2⟩:=yi (P:=fun i x=>∃cs':List Value,@VRs (dG W) g0 (f x) cs'∧cs'.length=es∧∀j,j<es→W.cell? (a.add (i*es+j))=cs'[j]?) len one
 obtain⟨x0,hx0⟩:∃x0,l[0]? =some x0:=⟨_,List.getElem?_eq_getElem (by omega)⟩
 obtain⟨cs0,v1,v2,v3⟩:=hl2 0 x0 hx0
 obtain⟨v,r,fe,nu⟩:=first x0
 rw [fe]at v1
 obtain⟨u0,hu0,hv0⟩:∃u0,cs0[0]? =some u0∧@VR (dG W) g0 v u0:=by
  cases v1 with
  |cons p q=>exact⟨_,rfl,p⟩
 have hc0:=v3 0 hpos
 rw [hu0]at hc0
 obtain⟨b,o,sp⟩:=a
 have hsp:sp=none:=by
  have:=World.cell?_spot hc0
  simpa [Addr.add]using this
 subst hsp
 have add:∀k,(Addr.mk b o none).add k=⟨b,o+k,none⟩:=fun k=>by
  unfold Addr.add;split
  ·rename_i e;rw [e];rfl
  ·rfl
 rw [add]at hc0
 obtain⟨c,tt,ss,hh⟩:∃c tt ss,W.heap[b]? =some (.cells c tt ss):=by
  cases q:W.heap[b]? with
  |none=>simp [World.cell?,q]at hc0
  |some ob=>cases ob<;>first|exact⟨_,_,_,rfl⟩|simp [World.cell?,q]at hc0
 have cell:∀k,W.cell? ⟨b,o+k,none⟩=c[o+k]? :=fun k=>by simp [World.cell?,hh]
 have hb0:b≠0:=by
  rintro rfl
  obtain⟨c',t',s',q1,q2⟩:=h0
  rw [hh]at q1
  cases q1
  rw [cell]at hc0
  obtain⟨z,hz⟩:=q2 _ _ hc0
  exact nu _ _ _ z hv0 hz
 have rows:=xU (E:=dG W) (g:=g0) hn hc (c:=c) l o (fun i x hx=>by
  obtain⟨cs',k1,k2,k3⟩:=hl2 i x hx
  refine⟨cs',k1,k2,fun j hj=>?_⟩
  rw [←k3 j hj,add,cell,Nat.add_assoc])
 refine⟨l,?_⟩
 have hgl:(gl l).length=l.length*es:=by
  clear hll hl2 hx0 rows
  induction l with
  |nil=>rw [hn];simp
  |cons a l ih=>rw [hc,List.length_append,ih,hfl,List.length_cons,Nat.add_mul];omega
 rw [←hll]
 refine @VR.lst (dG W) g0 _ es b o cap c _ _ (wS hb0 hh) (fun j u hj=>?_) hgl rows
 rw [List.getElem?_take]at hj
 split at hj
 ·rw [List.getElem?_drop,Array.getElem?_toList]at hj
  exact hj
 ·cases hj
end
theorem D5{E:En}{g:G}(s:ByteArray):@VR E g (sV s) (.string s):=@VR.str E g s
theorem c3:Tryz.prog.cellsOf 3=1:=by kernel_rfl
theorem c2:Tryz.prog.cellsOf 2=1:=by kernel_rfl
theorem c4:Tryz.prog.cellsOf 4=1:=by kernel_rfl
theorem c9:Tryz.prog.cellsOf 9=1:=by kernel_rfl
theorem c41:Tryz.prog.cellsOf 41=1:=by kernel_rfl
theorem c42:Tryz.prog.cellsOf 42=1:=by kernel_rfl
theorem c43:Tryz.prog.cellsOf 43=1:=by kernel_rfl
theorem c28:Tryz.prog.cellsOf 28=1:=by kernel_rfl
theorem c48:Tryz.prog.cellsOf 48=1:=by kernel_rfl
theorem c22:Tryz.prog.cellsOf 22=1:=by kernel_rfl
theorem c23:Tryz.prog.cellsOf 23=1:=by kernel_rfl
theorem c45:Tryz.prog.cellsOf 45=11:=by kernel_rfl
theorem c81:Tryz.prog.cellsOf 81=27:=by kernel_rfl
theorem c50:Tryz.prog.cellsOf 50=4:=by kernel_rfl
theorem c47:Tryz.prog.cellsOf 47=23:=by kernel_rfl
theorem c30:Tryz.prog.cellsOf 30=3:=by kernel_rfl
theorem c56:Tryz.prog.cellsOf 56=2:=by kernel_rfl
theorem c25:Tryz.prog.cellsOf 25=4:=by kernel_rfl
section
variable {H:Type} {enc:TypeId×Value→H} {W:World} {spare:Nat→Bool} {held:Bool}
abbrev Tr0(enc:TypeId×Value→H)(W:World)(spare:Nat→Bool)(held:Bool)(n t:Nat)(cs:List Value):Prop:=∃x,DataW.trod enc Tryz.prog W 0 spare held n t cs=some x
theorem g8{n t:Nat}{fs:Array Field}(ht:Tryz.prog.underlying t=some (.struct fs)){cs:List Value}(h:Tr0 enc W spare held n t cs):∃m,m<n∧cs.length=Tryz.prog.cellsOf t∧∀(i a off c:Nat),Tryz.prog.cellsOf a=c→(∃f:Field,fs[i]? =some f∧f.type=a∧f.offset=off)→Tr0 enc W spare held m a ((cs.drop off).take c):=by
 obtain⟨x,h⟩:=h
 obtain⟨xs,m,hm,_,hl,hxl,hf⟩:=DataW.trod_struct ht h
 refine⟨m,by omega,hl,fun i a off c hc ⟨f,hi,ha,ho⟩=>?_⟩
 subst ha ho hc
 have:=hf i f hi
 have hlt:=(Array.getElem?_eq_some_iff.1 hi).1
 rw [List.getElem?_eq_getElem (by omega)]at this
 exact⟨_,this⟩
theorem nV{n t:Nat}(ht:Tryz.prog.underlying t=some (.int .i64)){v:Value}(h:Tr0 enc W spare held n t [v]):∃z,@VR (dG W) g0 (.int .i64 z) v:=by
 obtain⟨x,h⟩:=h
 obtain⟨z,e,_⟩:=DataW.trod_int ht h
 cases e
 exact⟨z,@VR.int (dG W) g0 _ _⟩
theorem mf{n:Nat}{v:Value}(h:Tr0 enc W spare held n 9 [v]):∃s,@VR (dG W) g0 (sV s) v:=by
 obtain⟨x,h⟩:=h
 obtain⟨s,e,_⟩:=DataW.trod_string Tryz.underlying9 h
 cases e
 exact⟨s,D5 s⟩
theorem nA{n:Nat}{v:Value}(h:Tr0 enc W spare held n 4 [v]):∃b,@VR (dG W) g0 (.bool b) v:=by
 obtain⟨x,h⟩:=h
 obtain⟨b,e,_⟩:=DataW.trod_bool Tryz.underlying4 h
 cases e
 exact⟨b,@VR.bool (dG W) g0 _⟩
structure G8(enc:TypeId×Value→H)(W:World)(spare:Nat→Bool)(held:Bool)(n:Nat):Prop where
 ex:∀cs,Tr0 enc W spare held n 45 cs→∃x:Ex,@VRs (dG W) g0 (exO x) cs
 sg:∀cs,Tr0 enc W spare held n 81 cs→∃x:Sg,@VRs (dG W) g0 (sgO x) cs
 cl:∀cs,Tr0 enc W spare held n 50 cs→∃x:Cl,@VRs (dG W) g0 (clO x) cs
 sm:∀cs,Tr0 enc W spare held n 47 cs→∃x:Sm,@VRs (dG W) g0 (smO x) cs
section
variable (h0:mE W) {n:Nat} (k:∀m,m<n→G8 enc W spare held m)
include h0 k
theorem wI{v:Value}(h:Tr0 enc W spare held n 41 [v]):∃l:List Ex,@VR (dG W) g0 (.lst l.length 11 (exL l)) v:=by
 obtain⟨x,h⟩:=h
 exact ml h0 (f:=exO) (by rw [exL]) cN Tryz.underlying41 c45 (by decide) (fun _=>rfl) (fun a=>⟨_,_,rfl,A5 _⟩) (fun m hm cs y _ hy=>(k m hm).ex cs ⟨y,hy⟩) h
theorem Ep{v:Value}(h:Tr0 enc W spare held n 42 [v]):∃l:List Sg,@VR (dG W) g0 (.lst l.length 27 (sgL l)) v:=by
 obtain⟨x,h⟩:=h
 exact ml h0 (f:=sgO) (by rw [sgL]) i5 Tryz.underlying42 c81 (by decide) (fun _=>rfl) (fun a=>⟨_,_,rfl,A5 _⟩) (fun m hm cs y _ hy=>(k m hm).sg cs ⟨y,hy⟩) h
theorem xg{v:Value}(h:Tr0 enc W spare held n 28 [v]):∃l:List Cl,@VR (dG W) g0 (.lst l.length 4 (clL l)) v:=by
 obtain⟨x,h⟩:=h
 exact ml h0 (f:=clO) (by rw [clL]) eJ Tryz.underlying28 c50 (by decide) (fun _=>rfl) (fun a=>⟨_,_,rfl,vZ _ _⟩) (fun m hm cs y _ hy=>(k m hm).cl cs ⟨y,hy⟩) h
theorem vP{v:Value}(h:Tr0 enc W spare held n 43 [v]):∃l:List Sm,@VR (dG W) g0 (.lst l.length 23 (smL l)) v:=by
 obtain⟨x,h⟩:=h
 exact ml h0 (f:=smO) (by rw [smL]) gO Tryz.underlying43 c47 (by decide) (fun _=>rfl) (fun a=>⟨_,_,rfl,CO _⟩) (fun m hm cs y _ hy=>(k m hm).sm cs ⟨y,hy⟩) h
theorem ES{v:Value}(h:Tr0 enc W spare held n 48 [v]):∃l:List (List Ex),@VR (dG W) g0 (.lst l.length 1 (gdL l)) v:=by
 obtain⟨x,h⟩:=h
 refine ml h0 (f:=fun l:List Ex=>[V.lst l.length 11 (exL l)]) (by rw [gdL]) (fun a l=>by first|(rw [gdL];done)|(rw [gdL];rfl)) Tryz.underlying48 c41 (by decide) (fun _=>rfl) (fun a=>⟨_,_,rfl,EF _ _ _⟩) (fun m hm cs y hl hy=>?_) h
 obtain⟨v,rfl⟩:=List.length_eq_one_iff.1 hl
 obtain⟨l,hl⟩:=wI h0 (fun j hj=>k j (by omega)) ⟨y,hy⟩
 exact⟨l,@VRs.cons (dG W) g0 _ _ _ _ hl (@VRs.nil (dG W) g0)⟩
end
theorem vs1{E:En}{g:G}{v:V}{u:Value}{a:List V}{x:List Value}(h:@VR E g v u)(t:@VRs E g a x):@VRs E g (v ::a) (u ::x):=@VRs.cons E g _ _ _ _ h t
theorem vs0{E:En}{g:G}:@VRs E g [] []:=@VRs.nil E g
set_option maxRecDepth 100000 in
theorem Hf(h0:mE W)(n:Nat):G8 enc W spare held n:=by
 induction n using Nat.strongRecOn with
 |ind n ih=>
 refine⟨fun cs h=>?_,fun cs h=>?_,fun cs h=>?_,fun cs h=>?_⟩
 ·obtain⟨m,hm,hl,hf⟩:=g8 Tryz.underlying45 h
  have ih':=fun j (hj:j<m)=>ih j (by omega)
  match cs,hl.trans c45 with
  |[a0,a1,a2,a3,a4,a5,a6,a7,a8,a9,a10],_=>
  have q0:Tr0 enc W spare held m 3 [a0]:=hf 0 3 0 1 c3 ⟨_,rfl,rfl,rfl⟩
  have q1:Tr0 enc W spare held m 2 [a1]:=hf 1 2 1 1 c2 ⟨_,rfl,rfl,rfl⟩
  have q2:Tr0 enc W spare held m 9 [a2]:=hf 2 9 2 1 c9 ⟨_,rfl,rfl,rfl⟩
  have q3:Tr0 enc W spare held m 9 [a3]:=hf 3 9 3 1 c9 ⟨_,rfl,rfl,rfl⟩
  have q4:Tr0 enc W spare held m 41 [a4]:=hf 4 41 4 1 c41 ⟨_,rfl,rfl,rfl⟩
  have q5:Tr0 enc W spare held m 42 [a5]:=hf 5 42 5 1 c42 ⟨_,rfl,rfl,rfl⟩
  have q6:Tr0 enc W spare held m 28 [a6]:=hf 6 28 6 1 c28 ⟨_,rfl,rfl,rfl⟩
  have q7:Tr0 enc W spare held m 28 [a7]:=hf 7 28 7 1 c28 ⟨_,rfl,rfl,rfl⟩
  have q8:Tr0 enc W spare held m 43 [a8]:=hf 8 43 8 1 c43 ⟨_,rfl,rfl,rfl⟩
  have q9:Tr0 enc W spare held m 43 [a9]:=hf 9 43 9 1 c43 ⟨_,rfl,rfl,rfl⟩
  have q10:Tr0 enc W spare held m 4 [a10]:=hf 10 4 10 1 c4 ⟨_,rfl,rfl,rfl⟩
  obtain⟨x0,w0⟩:=nV Tryz.underlying3 q0
  obtain⟨x1,w1⟩:=nV Tryz.underlying2 q1
  obtain⟨x2,w2⟩:=mf q2
  obtain⟨x3,w3⟩:=mf q3
  obtain⟨x4,w4⟩:=wI h0 ih' q4
  obtain⟨x5,w5⟩:=Ep h0 ih' q5
  obtain⟨x6,w6⟩:=xg h0 ih' q6
  obtain⟨x7,w7⟩:=xg h0 ih' q7
  obtain⟨x8,w8⟩:=vP h0 ih' q8
  obtain⟨x9,w9⟩:=vP h0 ih' q9
  obtain⟨x10,w10⟩:=nA q10
  exact⟨.mk x0 x1 x2 x3 x4 x5 x6 x7 x8 x9 x10,vs1 w0 (vs1 w1 (vs1 w2 (vs1 w3 (vs1 w4 (vs1 w5 (vs1 w6 (vs1 w7 (vs1 w8 (vs1 w9 (vs1 w10 vs0))))))))))⟩
 ·obtain⟨m,hm,hl,hf⟩:=g8 Tryz.underlying81 h
  match cs,hl.trans c81 with
  |[a0,a1,a2,a3,a4,a5,a6,a7,a8,a9,a10,a11,a12,a13,a14,a15,a16,a17,a18,a19,a20,a21,a22,a23,a24,a25,a26],_=>
  have q0:Tr0 enc W spare held m 3 [a0]:=hf 0 3 0 1 c3 ⟨_,rfl,rfl,rfl⟩
  have q1:Tr0 enc W spare held m 9 [a1]:=hf 1 9 1 1 c9 ⟨_,rfl,rfl,rfl⟩
  have q2:Tr0 enc W spare held m 45 [a2,a3,a4,a5,a6,a7,a8,a9,a10,a11,a12]:=hf 2 45 2 11 c45 ⟨_,rfl,rfl,rfl⟩
  have q3:Tr0 enc W spare held m 45 [a13,a14,a15,a16,a17,a18,a19,a20,a21,a22,a23]:=hf 3 45 13 11 c45 ⟨_,rfl,rfl,rfl⟩
  have q4:Tr0 enc W spare held m 4 [a24]:=hf 4 4 24 1 c4 ⟨_,rfl,rfl,rfl⟩
  have q5:Tr0 enc W spare held m 4 [a25]:=hf 5 4 25 1 c4 ⟨_,rfl,rfl,rfl⟩
  have q6:Tr0 enc W spare held m 4 [a26]:=hf 6 4 26 1 c4 ⟨_,rfl,rfl,rfl⟩
  obtain⟨x0,w0⟩:=nV Tryz.underlying3 q0
  obtain⟨x1,w1⟩:=mf q1
  obtain⟨x2,w2⟩:=(ih m hm).ex _ q2
  obtain⟨x3,w3⟩:=(ih m hm).ex _ q3
  obtain⟨x4,w4⟩:=nA q4
  obtain⟨x5,w5⟩:=nA q5
  obtain⟨x6,w6⟩:=nA q6
  exact⟨.mk x0 x1 x2 x3 x4 x5 x6,vs1 w0 (vs1 w1 (@VRs.append (dG W) g0 _ _ _ _ w2 (@VRs.append (dG W) g0 _ _ _ _ w3 (vs1 w4 (vs1 w5 (vs1 w6 vs0))))))⟩
 ·obtain⟨m,hm,hl,hf⟩:=g8 Tryz.underlying50 h
  have ih':=fun j (hj:j<m)=>ih j (by omega)
  match cs,hl.trans c50 with
  |[a0,a1,a2,a3],_=>
  have q0:Tr0 enc W spare held m 9 [a0]:=hf 0 9 0 1 c9 ⟨_,rfl,rfl,rfl⟩
  have q1:Tr0 enc W spare held m 41 [a1]:=hf 1 41 1 1 c41 ⟨_,rfl,rfl,rfl⟩
  have q2:Tr0 enc W spare held m 48 [a2]:=hf 2 48 2 1 c48 ⟨_,rfl,rfl,rfl⟩
  have q3:Tr0 enc W spare held m 43 [a3]:=hf 3 43 3 1 c43 ⟨_,rfl,rfl,rfl⟩
  obtain⟨x0,w0⟩:=mf q0
  obtain⟨x1,w1⟩:=wI h0 ih' q1
  obtain⟨x2,w2⟩:=ES h0 ih' q2
  obtain⟨x3,w3⟩:=vP h0 ih' q3
  exact⟨.mk x0 x1 x2 x3,vs1 w0 (vs1 w1 (vs1 w2 (vs1 w3 vs0)))⟩
 ·obtain⟨m,hm,hl,hf⟩:=g8 Tryz.underlying47 h
  match cs,hl.trans c47 with
  |[a0,a1,a2,a3,a4,a5,a6,a7,a8,a9,a10,a11,a12,a13,a14,a15,a16,a17,a18,a19,a20,a21,a22],_=>
  have q0:Tr0 enc W spare held m 4 [a0]:=hf 0 4 0 1 c4 ⟨_,rfl,rfl,rfl⟩
  have q1:Tr0 enc W spare held m 45 [a1,a2,a3,a4,a5,a6,a7,a8,a9,a10,a11]:=hf 1 45 1 11 c45 ⟨_,rfl,rfl,rfl⟩
  have q2:Tr0 enc W spare held m 45 [a12,a13,a14,a15,a16,a17,a18,a19,a20,a21,a22]:=hf 2 45 12 11 c45 ⟨_,rfl,rfl,rfl⟩
  obtain⟨x0,w0⟩:=nA q0
  obtain⟨x1,w1⟩:=(ih m hm).ex _ q1
  obtain⟨x2,w2⟩:=(ih m hm).ex _ q2
  exact⟨.mk x0 x1 x2,vs1 w0 (@VRs.append (dG W) g0 _ _ _ _ w1 w2)⟩
set_option maxRecDepth 100000 in
theorem Eg(h0:mE W){n:Nat}{v:Value}(h:Tr0 enc W spare held n 22 [v]):∃l:List Sn,@VR (dG W) g0 (.lst l.length 2 (snL l)) v:=by
 obtain⟨x,h⟩:=h
 refine ml h0 (f:=snO) rfl (fun _ _=>rfl) Tryz.underlying22 c56 (by decide) (fun _=>rfl) (fun a=>⟨_,_,rfl,vZ _ _⟩) (fun m hm cs y hl hy=>?_) h
 obtain⟨j,_,_,hf⟩:=g8 Tryz.underlying56 ⟨y,hy⟩
 match cs,hl with
 |[a0,a1],_=>
 have q0:Tr0 enc W spare held j 9 [a0]:=hf 0 9 0 1 c9 ⟨_,rfl,rfl,rfl⟩
 have q1:Tr0 enc W spare held j 3 [a1]:=hf 1 3 1 1 c3 ⟨_,rfl,rfl,rfl⟩
 obtain⟨x0,w0⟩:=mf q0
 obtain⟨x1,w1⟩:=nV Tryz.underlying3 q1
 exact⟨⟨x0,x1⟩,vs1 w0 (vs1 w1 vs0)⟩
set_option maxRecDepth 100000 in
theorem ET(h0:mE W){n:Nat}{v:Value}(h:Tr0 enc W spare held n 23 [v]):∃l:List Fu,@VR (dG W) g0 (.lst l.length 3 (fuL l)) v:=by
 obtain⟨x,h⟩:=h
 refine ml h0 (f:=fuO) rfl (fun _ _=>rfl) Tryz.underlying23 c30 (by decide) (fun _=>rfl) (fun a=>⟨_,_,rfl,vZ _ _⟩) (fun m hm cs y hl hy=>?_) h
 obtain⟨j,_,_,hf⟩:=g8 Tryz.underlying30 ⟨y,hy⟩
 match cs,hl with
 |[a0,a1,a2],_=>
 have q0:Tr0 enc W spare held j 9 [a0]:=hf 0 9 0 1 c9 ⟨_,rfl,rfl,rfl⟩
 have q1:Tr0 enc W spare held j 3 [a1]:=hf 1 3 1 1 c3 ⟨_,rfl,rfl,rfl⟩
 have q2:Tr0 enc W spare held j 28 [a2]:=hf 2 28 2 1 c28 ⟨_,rfl,rfl,rfl⟩
 obtain⟨x0,w0⟩:=mf q0
 obtain⟨x1,w1⟩:=nV Tryz.underlying3 q1
 obtain⟨x2,w2⟩:=xg h0 (fun j _=>Hf h0 j) q2
 exact⟨⟨x0,x1,x2⟩,vs1 w0 (vs1 w1 (vs1 w2 vs0))⟩
set_option maxRecDepth 100000 in
theorem GV(h0:mE W){r:Reach}{b0:Nat}{v:Value}{d:DataW H}{p:List MemPlace}(hv:Value.okWide Tryz.prog W r b0 25 v)(h:DataW.Trod enc Tryz.prog W 0 spare held 25 v d p):∃m:Md,@VR (dG W) g0 (.agg (mdO m)) v:=by
 obtain⟨cs,rfl,hsz⟩:=okWide_struct Tryz.underlying25 hv
 obtain⟨l⟩:=cs
 obtain⟨n,hn⟩:=h
 obtain⟨j,_,hl,hf⟩:=g8 Tryz.underlying25 (⟨_,hn⟩:Tr0 enc W spare held n 25 _)
 match l,hsz.trans c25 with
 |[a0,a1,a2,a3],_=>
 have q0:Tr0 enc W spare held j 9 [a0]:=hf 0 9 0 1 c9 ⟨_,rfl,rfl,rfl⟩
 have q1:Tr0 enc W spare held j 2 [a1]:=hf 1 2 1 1 c2 ⟨_,rfl,rfl,rfl⟩
 have q2:Tr0 enc W spare held j 22 [a2]:=hf 2 22 2 1 c22 ⟨_,rfl,rfl,rfl⟩
 have q3:Tr0 enc W spare held j 23 [a3]:=hf 3 23 3 1 c23 ⟨_,rfl,rfl,rfl⟩
 obtain⟨x0,w0⟩:=mf q0
 obtain⟨x1,w1⟩:=nV Tryz.underlying2 q1
 obtain⟨x2,w2⟩:=Eg h0 q2
 obtain⟨x3,w3⟩:=ET h0 q3
 exact⟨⟨x0,x1,x2,x3⟩,@VR.agg (dG W) g0 _ _ (vs1 w0 (vs1 w1 (vs1 w2 (vs1 w3 vs0))))⟩
end
end
end Ev
end Go.Proofs.YtdfphfdnoobikaaGreatDoor
