/-
  The program's survey:clauses.
-/
import Derived.Test.YtdfphfdnoobikaaGreatDoorLtCount
namespace Go.Proofs.YtdfphfdnoobikaaGreatDoor
namespace Ev
section
noncomputable section
def svC(n f:Nat)(l:Bool):List V:=[.int .i64 (Int.ofNat n),.int .i64 (Int.ofNat f),.bool l]
def svH(n f:Nat)(l:Bool):H:=HB (svC n f l)
def wdB(s:ByteArray):Bool:=rb 45 [sV s]
def gdB(l:List (List Ex)):Bool:=rb 58 [.lst l.length 1 (gdL l),.func (.func 59) [] []]
def bdB(l:List Sm):Bool:=rb 60 [.lst l.length 23 (smL l)]
def okC(p:Int)(nm:Bool)(c:Cl):Bool:=
 !((!ltI p 0 && !eqI (Int.ofNat c.pats.length) p)||eqI (Int.ofNat c.body.length) 0||(nm && !wdB c.name)||(!nm && !dJ c.name.size (bT c.name.data.toList) 0 0)) && !(gdB c.guards || !bdB c.body)
def clB(p:Int)(nm:Bool)(l:List Cl):Bool:=l.all (okC p nm)
def lgC(c:Cl):Bool:=ltI 16 (Int.ofNat c.pats.length)
def clG(l:List Cl):Bool:=ltI 60 (Int.ofNat l.length)||l.any lgC
def fr46(l:List Cl)(p:Int)(nm:Bool)(i:Nat):AL:=[(0,.ptr 1 0),(2,.int .i64 p),(3,.bool nm),(23,.lst l.length 4 (clL l)),(24,.int .i64 (Int.ofNat l.length)),(25,.int .i64 (Int.ofNat i))]
end
theorem dN(n f:Nat)(l:Bool):∀v,v∈svC n f l→bN v:=bO (.flat rfl) (bO (.flat rfl) (bO (.flat rfl) px0))
theorem nt{l:List Cl}{i:Nat}(h:i<l.length):l.take (i+1)=l.take i++[bL l i]:=by
 have h1:l[i]? =some (bL l i):=cV (ltb h)
 rw [List.take_add_one,h1]
 rfl
theorem BX{l:List Cl}{i:Nat}(h:i<l.length):bL l i∈l:=ol (ltb h)
theorem pE{l:List Cl}{i:Nat}{l0 b lc:Bool}(h:i<l.length)(e:lc=(l0||(b||(l.take i).any lgC))):(l0||(b||(l.take (i+1)).any lgC))=(lc||lgC (bL l i)):=by
 rw [nt h,List.any_append,e]
 simp [Bool.or_assoc]
theorem DX{p:Int}{nm:Bool}{l:List Cl}{c:Cl}(h:c∈l)(k:okC p nm c=false):clB p nm l=false:=by
 cases q:clB p nm l with
 |false=>rfl
 |true=>
  have:=List.all_eq_true.1 q c h
  rw [k]at this
  cases this
set_option maxHeartbeats 8000000 in
theorem f46t(l:List Cl)(hl:bF (clL l)≤6000000)(p:Int)(n f:Nat)(l0:Bool):
  ∃l1,Con Tryz.prog TP noM 46 [.ptr 1 0,.lst l.length 4 (clL l),.int .i64 p,.bool true] (svH n f l0) (.bool (clB p true l)) (svH n f l1)∧(clB p true l=true→l1=(l0||clG l)):=by
 obtain⟨v,h',c,l1,rfl,rfl,ok⟩:∃v h',Con Tryz.prog TP noM 46 [.ptr 1 0,.lst l.length 4 (clL l),.int .i64 p,.bool true] (svH n f l0) v h'∧∃l1,v= .bool (clB p true l)∧h'=svH n f l1∧(clB p true l=true→l1=(l0||clG l)):=by
  refine pJ Tryz.func46 (by decide) cf46_ok rfl rfl ?_
  have hn:=eS l
  repeat' (first
   |(refine WLg.mk ?_;first
   |refine aa rfl rfl rfl rfl ?_|refine ab rfl rfl rfl rfl ?_|refine aN rfl rfl rfl rfl rfl rfl rfl rfl rfl ?_)
   |refine ah ?_|refine ac rfl ?_|refine ax rfl rfl ?_|refine ay rfl (fun ht=>?_) (fun ht=>?_)|refine ai ?_
   |refine ae ?_|refine aj ?_|refine bE.norm ?_|fail)
  all_goals (
   refine av (rF zY (l:=fr46 l p true 0) (cs:=svC n f (l0||ltI 60 (Int.ofNat l.length))) KS rfl rfl rfl (gz rfl rfl (by rw [ht];rfl)) (dN _ _ _)) ?_
   clear ht
   refine aw l.length (fun i x h=>(∃lc,lc=(l0||(ltI 60 (Int.ofNat l.length)||(l.take i).any lgC))∧x=fr46 l p true i∧h=svH n f lc)∧∀c,c∈l.take i→okC p true c=true) ?_ (i:=0) (Nat.zero_le _) ⟨⟨_,by simp,rfl,rfl⟩,fun c h=>by simp at h⟩
   rintro i _ _ hi ⟨⟨lc,hlc,rfl,rfl⟩,seen⟩
   have hi2:i<9223372036854775807:=by omega
   have g45:=f45 (bL l i).name.size (bT (bL l i).name.data.toList)
   have gsz:i<l.length→(bL l i).guards.length<9223372036854775807∧(bL l i).body.length<9223372036854775807:=fun h=>by
    have:=jr (ltb h)
    have:=ff (bL l i)
    have:=ky (bL l i).guards
    have:=gM (bL l i).body
    omega
   have g58:i<l.length→cS 58 [.lst (bL l i).guards.length 1 (gdL (bL l i).guards),.func (.func 59) [] []]:=fun h=>f58 _ (gsz h).1
   have g60:i<l.length→cS 60 [.lst (bL l i).body.length 23 (smL (bL l i).body)]:=fun h=>f60 _ (gsz h).2
   repeat' (first
    |(refine WLg.mk ?_;first
    |refine aa rfl rfl rfl rfl ?_|refine aa rfl rfl (bM Hy) rfl ?_|refine ab rfl rfl rfl rfl ?_
    |refine ab rfl rfl (gK Hy) rfl ?_
    |refine aA rfl rfl RA rfl rfl rfl rfl rfl rfl rfl RA PB rfl rfl ?_
    |refine aN rfl rfl rfl rfl rfl rfl rfl rfl rfl ?_|refine aq rfl rfl rfl (g45) rfl ?_
    |refine aq rfl rfl rfl (g58 (bK Hy)) rfl ?_|refine aq rfl rfl rfl (g60 (bK Hy)) rfl ?_)
    |refine ah ?_|refine ac rfl ?_|refine ax rfl rfl ?_|refine ay rfl (fun ht=>?_) (fun ht=>?_)|refine ai ?_
    |refine ae ?_|refine aj ?_|refine al ?_|refine aC rfl ?_|refine aB rfl ?_
    |refine ak rfl (fun ht=>?_) (fun ht=>?_)|refine au ?_|refine ap ?_|refine bE.norm ?_|refine bE.ret ?_
    |refine bE.exit ?_|refine OnC.ret ?_|refine OnC.exit ?_|fail)
   all_goals first
    |(refine OnC.norm ⟨_,_,rF zY (l:=fr46 l p true (i+1)) (cs:=svC n f (l0||(ltI 60 (Int.ofNat l.length)||(l.take (i+1)).any lgC))) KSI rfl rfl rfl (gz rfl rfl ?_) (dN _ _ _),bK Hy,⟨⟨_,rfl,rfl,rfl⟩,fun c hc=>?_⟩⟩
      ·have hlt:i<l.length:=bK Hy
       first
        |(rw [pE hlt hlc,(by assumption:lc=true)];rfl)
        |(rw [pE hlt hlc,(by assumption:lc=false)];rfl)
      ·have hlt:i<l.length:=bK Hy
       rw [nt hlt]at hc
       rcases List.mem_append.1 hc with hc|hc
       ·exact seen c hc
       ·rw [List.mem_singleton.1 hc]
        simp only [okC,wdB,gdB,bdB,sV,Bool.not_true,Bool.not_false,Bool.and_false,Bool.false_and,Bool.and_self,Bool.or_self, *])
    |(have hie:i=l.length:=by have:=ci (by assumption:ltI (Int.ofNat i) (Int.ofNat l.length)=false);omega
      rw [hie,List.take_length]at hlc seen
      exact⟨.inr rfl,_,rfl,Nat.le_refl _,lc,by rw [clB,List.all_eq_true.2 seen];rfl,rfl,fun _=>hlc⟩)
    |(have hno:okC p true (bL l i)=false:=by simp only [okC,wdB,gdB,bdB,sV,Bool.not_true,Bool.not_false,Bool.true_and,Bool.and_false,Bool.false_and,Bool.or_true,Bool.true_or,Bool.or_false,Bool.and_self,Bool.or_self, *]
      have hcb:=DX (BX (bK Hy)) hno
      first
       |exact⟨.inr rfl,_,rfl,Nat.le_refl _,true,congrArg V.bool hcb.symm,rfl,fun h=>by rw [hcb]at h;cases h⟩
       |exact⟨.inr rfl,_,rfl,Nat.le_refl _,ltI 16 (Int.ofNat (bL l i).pats.length),congrArg V.bool hcb.symm,rfl,fun h=>by rw [hcb]at h;cases h⟩)
    |fail)
 exact⟨l1,c,ok⟩
set_option maxHeartbeats 8000000 in
theorem f46f(l:List Cl)(hl:bF (clL l)≤6000000)(p:Int)(n f:Nat)(l0:Bool):
  ∃l1,Con Tryz.prog TP noM 46 [.ptr 1 0,.lst l.length 4 (clL l),.int .i64 p,.bool false] (svH n f l0) (.bool (clB p false l)) (svH n f l1)∧(clB p false l=true→l1=(l0||clG l)):=by
 obtain⟨v,h',c,l1,rfl,rfl,ok⟩:∃v h',Con Tryz.prog TP noM 46 [.ptr 1 0,.lst l.length 4 (clL l),.int .i64 p,.bool false] (svH n f l0) v h'∧∃l1,v= .bool (clB p false l)∧h'=svH n f l1∧(clB p false l=true→l1=(l0||clG l)):=by
  refine pJ Tryz.func46 (by decide) cf46_ok rfl rfl ?_
  have hn:=eS l
  repeat' (first
   |(refine WLg.mk ?_;first
   |refine aa rfl rfl rfl rfl ?_|refine ab rfl rfl rfl rfl ?_|refine aN rfl rfl rfl rfl rfl rfl rfl rfl rfl ?_)
   |refine ah ?_|refine ac rfl ?_|refine ax rfl rfl ?_|refine ay rfl (fun ht=>?_) (fun ht=>?_)|refine ai ?_
   |refine ae ?_|refine aj ?_|refine bE.norm ?_|fail)
  all_goals (
   refine av (rF zY (l:=fr46 l p false 0) (cs:=svC n f (l0||ltI 60 (Int.ofNat l.length))) KS rfl rfl rfl (gz rfl rfl (by rw [ht];rfl)) (dN _ _ _)) ?_
   clear ht
   refine aw l.length (fun i x h=>(∃lc,lc=(l0||(ltI 60 (Int.ofNat l.length)||(l.take i).any lgC))∧x=fr46 l p false i∧h=svH n f lc)∧∀c,c∈l.take i→okC p false c=true) ?_ (i:=0) (Nat.zero_le _) ⟨⟨_,by simp,rfl,rfl⟩,fun c h=>by simp at h⟩
   rintro i _ _ hi ⟨⟨lc,hlc,rfl,rfl⟩,seen⟩
   have hi2:i<9223372036854775807:=by omega
   have g45:=f45 (bL l i).name.size (bT (bL l i).name.data.toList)
   have gsz:i<l.length→(bL l i).guards.length<9223372036854775807∧(bL l i).body.length<9223372036854775807:=fun h=>by
    have:=jr (ltb h)
    have:=ff (bL l i)
    have:=ky (bL l i).guards
    have:=gM (bL l i).body
    omega
   have g58:i<l.length→cS 58 [.lst (bL l i).guards.length 1 (gdL (bL l i).guards),.func (.func 59) [] []]:=fun h=>f58 _ (gsz h).1
   have g60:i<l.length→cS 60 [.lst (bL l i).body.length 23 (smL (bL l i).body)]:=fun h=>f60 _ (gsz h).2
   repeat' (first
    |(refine WLg.mk ?_;first
    |refine aa rfl rfl rfl rfl ?_|refine aa rfl rfl (bM Hy) rfl ?_|refine ab rfl rfl rfl rfl ?_
    |refine ab rfl rfl (gK Hy) rfl ?_
    |refine aA rfl rfl RA rfl rfl rfl rfl rfl rfl rfl RA PB rfl rfl ?_
    |refine aN rfl rfl rfl rfl rfl rfl rfl rfl rfl ?_|refine aq rfl rfl rfl (g58 (bK Hy)) rfl ?_
    |refine aq rfl rfl rfl (g60 (bK Hy)) rfl ?_)
    |refine ah ?_|refine ac rfl ?_|refine ax rfl rfl ?_|refine ay rfl (fun ht=>?_) (fun ht=>?_)|refine ai ?_
    |refine ae ?_|refine aj ?_|refine al ?_|refine aC rfl ?_|refine ak rfl (fun ht=>?_) (fun ht=>?_)
    |refine au ?_|refine ap ?_|refine bE.norm ?_|refine bE.ret ?_|refine bE.exit ?_|refine OnC.ret ?_|refine OnC.exit ?_
    |fail)
   all_goals first
    |(refine OnC.norm ⟨_,_,rF zY (l:=fr46 l p false (i+1)) (cs:=svC n f (l0||(ltI 60 (Int.ofNat l.length)||(l.take (i+1)).any lgC))) KSI rfl rfl rfl (gz rfl rfl ?_) (dN _ _ _),bK Hy,⟨⟨_,rfl,rfl,rfl⟩,fun c hc=>?_⟩⟩
      ·have hlt:i<l.length:=bK Hy
       first
        |(rw [pE hlt hlc,(by assumption:lc=true)];rfl)
        |(rw [pE hlt hlc,(by assumption:lc=false)];rfl)
      ·have hlt:i<l.length:=bK Hy
       rw [nt hlt]at hc
       rcases List.mem_append.1 hc with hc|hc
       ·exact seen c hc
       ·rw [List.mem_singleton.1 hc]
        simp only [okC,wdB,gdB,bdB,sV,Bool.not_false,Bool.and_false,Bool.false_and,Bool.and_self,Bool.or_self, *])
    |(have hie:i=l.length:=by have:=ci (by assumption:ltI (Int.ofNat i) (Int.ofNat l.length)=false);omega
      rw [hie,List.take_length]at hlc seen
      exact⟨.inr rfl,_,rfl,Nat.le_refl _,lc,by rw [clB,List.all_eq_true.2 seen];rfl,rfl,fun _=>hlc⟩)
    |(have hno:okC p false (bL l i)=false:=by simp only [okC,wdB,gdB,bdB,sV,Bool.not_true,Bool.not_false,Bool.true_and,Bool.and_false,Bool.false_and,Bool.or_true,Bool.true_or,Bool.or_false,Bool.and_self,Bool.or_self, *]
      have hcb:=DX (BX (bK Hy)) hno
      first
       |exact⟨.inr rfl,_,rfl,Nat.le_refl _,true,congrArg V.bool hcb.symm,rfl,fun h=>by rw [hcb]at h;cases h⟩
       |exact⟨.inr rfl,_,rfl,Nat.le_refl _,ltI 16 (Int.ofNat (bL l i).pats.length),congrArg V.bool hcb.symm,rfl,fun h=>by rw [hcb]at h;cases h⟩)
    |fail)
 exact⟨l1,c,ok⟩
theorem f46(l:List Cl)(hl:bF (clL l)≤6000000)(p:Int)(nm:Bool)(n f:Nat)(l0:Bool):
  ∃l1,Con Tryz.prog TP noM 46 [.ptr 1 0,.lst l.length 4 (clL l),.int .i64 p,.bool nm] (svH n f l0) (.bool (clB p nm l)) (svH n f l1)∧(clB p nm l=true→l1=(l0||clG l)):=by
 cases nm with
 |true=>exact f46t l hl p n f l0
 |false=>exact f46f l hl p n f l0
end
section
theorem jA{cs:List V}(i:Nat):cI (lpB cs) i↔i<2:=by
 constructor
 ·rintro⟨b,e⟩
  match i,e with
  |0,_=>decide
  |1,_=>decide
  |i+2,e=>cases e
 ·intro h
  match i,h with
  |0,_=>exact⟨_,rfl⟩
  |1,_=>exact⟨_,rfl⟩
theorem vwB{h:H}{cs:List V}{tr:Tr V}{ch:Bool}(hb:h.blk 0=some (.ro 256 dS))(hs:h.blk 1=some (.cells (bU cs) tr none ch))(hl:Nat.ble (bU cs) bP=true)(hc:∀j v,cs[j]? =some v→tr.get j=some v)(hp:∀c,c∈cs→bN c):Vw TP h (lpB cs) (fun i=>i) (fun _=>none):=by
 have hk:2≤bP:=by unfold bP;omega
 have hl':cs.length≤bP:=by rw [←@bS noE];exact Nat.le_of_ble_eq_true hl
 have u:∀i,cI (lpB cs) i→i=0∨i=1:=fun i h=>by have:=(jA i).1 h;omega
 have noUp:∀i j d,cI (lpB cs) i→¬Up h i j d:=fun i j d hi=>by
  rcases u i hi with rfl|rfl
  ·exact dF hb
  ·intro q
   cases q with
   |one e' k'=>rw [hs]at e';cases e';cases k'
   |step e' k' _=>rw [hs]at e';cases e';cases k'
 refine⟨hk,fun i b' e=>?_,fun i j _ _ e=>e,fun i j d hi _=>noUp i j d hi,(fun k cs e=>by cases e),(fun k cs i e=>by cases e),fun q hq=>⟨rfl,?_⟩⟩
 ·rcases u i ⟨_,e⟩with rfl|rfl
  ·obtain rfl:Blk.ro 256 dS=b':=by cases e;rfl
   exact⟨_,hb,.ro fun j v e=>.flat (dW eD (by rw [fU];unfold bP;omega) e)⟩
  ·obtain rfl:Blk.cells (bU cs) (cE cs 0 .e) none false=b':=by cases e;rfl
   refine⟨_,hs,.cells fun j v hj e=>?_⟩
   rw [@bS noE]at hj
   rw [@cW noE cs 0 .e j (by omega),if_pos (by omega),Nat.sub_zero]at e
   exact⟨v,hc j v e,.pure (hp v (List.mem_of_getElem? e))⟩
 ·have e:=jW.all q hq
  have hq':q.1=0:=by rw [ig]at hq;rw [List.mem_singleton.1 hq]
  rw [hq']at e ⊢
  exact e
theorem Con.drop{f:FuncId}{h h1:H}{vs:List V}{v:V}{cs:List V}(c:Con Tryz.prog TP noM f vs h v h1)(hv:bN v)(hn:h.next≤2)(V:Vw TP h1 (lpB cs) (fun i=>i) (fun _=>none)):Con Tryz.prog TP noM f vs h v (HB cs):=by
 refine⟨fun E g w us s hu=>?_⟩
 obtain⟨fn,k1,k2,k3,k4⟩:=c.out E g w us s hu
 refine⟨fn,k1,k2,k3,k4.mono ?_⟩
 rintro e w' ⟨E',g',u,rfl,m1,m2⟩
 obtain⟨E2,g2,_,_,hE,s2,q1,q2,_⟩:=V.sit m2.sit
 obtain rfl:=hE fun _=>rfl
 refine⟨E2,g2,u,rfl,hv.vr u m1,m2.envl,m2.envn,fun id x hm e=>?_,hn,s2,m2.size,m2.keep,fun id b o z e=>?_,m2.pin,m2.os,m2.tape,m2.output⟩
 ·rw [q1 id ((jA id).2 (by have:=@WR.dom E _ _ _ _ s.wr _ _ e;omega))]
  exact m2.le id x hm e
 ·by_cases q:cI (lpB cs) id
  ·rw [q1 id q]at e;exact m2.fresh id b o z e
  ·rw [q2 id q]at e;cases e
theorem zw(b:Blk):yM noM b:=by
 have fv:∀v,df noM v:=fun v E g g' u hg h=>@VR.mono E g g' (fun id x=>hg id x (fun k=>k)) _ _ h
 cases b with
 |cells=>exact fun j v _=>fv v
 |ro=>exact fun j v _=>fv v
 |map=>exact fun e _=>⟨fv _,fv _⟩
 |siter=>trivial
 |dead=>trivial
 |loop=>exact fun id q=>q
 |miter=>exact fun id q=>q
theorem rN{E:En}{g:G}:∀{l:List V} {us:List Value},@VRs E g l us→V.ptr 1 0∈l→∃x,g 1=some x
 |[],_,_,h=>by cases h
 |v ::l,_,hr,h=>by
  cases hr with
  |cons a b=>
   rcases List.mem_cons.1 h with h|h
   ·subst h
    cases a with
    |ptr e=>exact⟨_,e⟩
   ·exact rN b h
theorem Con.frameB{f:FuncId}{vs:List V}{v:V}{cs cs':List V}(c:Con Tryz.prog TP noM f vs (HB cs) v (HB cs'))(hvs:RnL (cI (lpB cs)) (fun i=>i) (fun _=>none) vs vs)(hp:V.ptr 1 0∈vs)(hv:bN v)(h1:∀c,c∈cs→bN c)(h2:∀c,c∈cs'→bN c)(hl:Nat.ble (bU cs) bP=true)(hl2:Nat.ble (bU cs') bP=true)
  {h:H} {tr:Tr V} (hb:h.blk 0=some (.ro 256 dS)) (hs:h.blk 1=some (.cells (bU cs) tr none false)) (hc:∀j v,cs[j]? =some v→tr.get j=some v) (hn:2≤h.next):Con Tryz.prog TP noM f vs h v ⟨h.t.put 1 (some (.cells (bU cs') (cE cs' 0 .e) none false)),h.next⟩:=by
 have hl':cs.length≤bP:=by rw [←@bS noE];exact Nat.le_of_ble_eq_true hl
 have hl2':cs'.length≤bP:=by rw [←@bS noE];exact Nat.le_of_ble_eq_true hl2
 have gb:∀j,(⟨h.t.put 1 (some (.cells (bU cs') (cE cs' 0 .e) none false)),h.next⟩:H).blk j=if j=1 then some (.cells (bU cs') (cE cs' 0 .e) none false)else h.blk j:=fun j=>Tr.get_put h.t 1 j _ (by unfold bP;omega)
 have sm:oV Tryz.prog TP (fun i=>cI (lpB cs) i∧¬noM i) f (g7 (lpB cs)) vs (g7 (lpB cs')) v:=by
  intro E g w us s hu
  obtain⟨fn,k1,k2,k3,k4⟩:=c.out E g w us s hu
  refine⟨fn,k1,k2,k3,k4.mono ?_⟩
  rintro e w' ⟨E',g',u,rfl,m1,m2⟩
  refine⟨E',g',u,rfl,m1,m2.sit,m2.envl,fun b c e=>?_,fun id x _ e=>m2.le id x (fun q=>q) e,m2.size,m2.keep,m2.fresh,m2.pin,m2.os,m2.tape,m2.output⟩
  rcases m2.envn b c e with k|k
  ·exact .inl k
  ·exact .inr (.inl k)
 refine sm.con (Lc.loc (T:=TP) (mv:=noM) (l:=lpB cs) (l':=lpB cs') (ρ:=fun i=>i) ?_ hvs (.pure hv) (fun E g w us s hu i hi _=>?_) ⟨1,⟨⟨_,rfl⟩,fun q=>q⟩,fun p hp=>by rw [ig]at hp;rw [List.mem_singleton.1 hp];decide⟩)
 ·refine⟨vwB hb hs hl hc h1,fun i B hi e=>?_,fun i hi=>?_,rfl,fun i hi=>(jA i).2 ((jA i).1 hi),fun i hi _=>(jA i).2 ((jA i).1 hi),fun i hi=>hi.elim,fun i b e hr=>?_,fun i b B e1 e2=>?_,fun i b B e1 e2=>?_,fun i j _ _ e=>e,rfl,fun id ho=>?_,fun id b _ _=>zw b,fun i b' e=>?_⟩
  ·rcases (by have:=(jA i).1 hi;omega:i=0∨i=1)with rfl|rfl
   ·rw [hb]at e;cases e;exact .inl rfl
   ·rw [hs]at e;cases e;exact .inr rfl
  ·have:i<2:=hi
   show i<h.next
   omega
  ·rcases (by have:=(jA i).1 ⟨_,e⟩;omega:i=0∨i=1)with rfl|rfl
   ·exact⟨(0,0,256,dS),by rw [ig];exact List.mem_singleton.2 rfl,rfl⟩
   ·cases e;cases hr
  ·rcases (by have:=(jA i).1 ⟨_,e1⟩;omega:i=0∨i=1)with rfl|rfl
   ·cases e1;cases e2;rfl
   ·cases e1;cases e2;rfl
  ·rcases (by have:=(jA i).1 ⟨_,e1⟩;omega:i=0∨i=1)with rfl|rfl
   ·cases e1;rw [hb]at e2;cases e2;rfl
   ·cases e1;rw [hs]at e2;cases e2;rfl
  ·have h1:id≠1:=fun q=>ho 1 ((jA 1).2 (by decide)) q.symm
   rw [gb,if_neg h1]
  ·rcases (by have:=(jA i).1 ⟨_,e⟩;omega:i=0∨i=1)with rfl|rfl
   ·obtain rfl:Blk.ro 256 dS=b':=by cases e;rfl
    exact⟨_,by rw [gb,if_neg (by decide)];exact hb,.ro fun j v e=>.flat (dW eD (by rw [fU];unfold bP;omega) e)⟩
   ·obtain rfl:Blk.cells (bU cs') (cE cs' 0 .e) none false=b':=by cases e;rfl
    refine⟨_,by rw [gb,if_pos rfl],.cells fun j v hj e=>⟨v,e,.pure ?_⟩⟩
    rw [@bS noE]at hj
    rw [@cW noE cs' 0 .e j (by omega),if_pos (by omega),Nat.sub_zero]at e
    exact h2 v (List.mem_of_getElem? e)
 ·rcases (by have:=(jA i).1 hi;omega:i=0∨i=1)with rfl|rfl
  ·obtain⟨⟨z,q⟩,_⟩:=s.pin0
   exact⟨_,q⟩
  ·exact rN hu hp
theorem qU{f:FuncId} {fn:Func} {cf:CF} {cs:List V} (hfn:Tryz.prog.funcs[f]? =some fn) (hnm:fn.name≠ "runtime.NumGoroutine") (hcf:bG TP fn=some cf) {vs:List V} (hlen:vs.length=cf.params) {R:V→List V→Prop} {loc:AL} (hn:lQ vs 0=some loc)
  (k:WC Tryz.prog TP KB eK 1 cf.code loc (HB cs) (oX cf fun v h'=>2≤h'.next∧bN v∧∃cs' tr ch,R v cs'∧h'.blk 0=some (.ro 256 dS)∧h'.blk 1=some (.cells (bU cs') tr none ch)∧(∀j v,cs'[j]? =some v→tr.get j=some v)∧(∀c,c∈cs'→bN c)∧Nat.ble (bU cs') bP=true)):∃v cs',Con Tryz.prog TP noM f vs (HB cs) v (HB cs')∧R v cs':=by
 obtain⟨v,h',c,p,cs',tr,ch,q1,q2,q3,q4,q5,q6⟩:=pJ hfn hnm hcf hlen hn k
 exact⟨v,cs',c.drop p (Nat.le_refl _) (vwB q2 q3 q6 q4 q5),q1⟩
end
section
theorem xH(n f:Nat)(l0:Bool){vs:List V}(h:∀c,c∈vs→bN c):RnL (cI (lpB (svC n f l0))) (fun i=>i) (fun _=>none) (.ptr 1 0 ::vs) (.ptr 1 0 ::vs):= .cons (@Rn.ptr _ (fun i=>i) _ 1 0 ((jA 1).2 (by decide))) (RnL.pure h)
theorem f46F(l:List Cl)(hl:bF (clL l)≤6000000)(p:Int)(nm:Bool)(n f:Nat)(l0:Bool):
  ∃l1,(∀{h:H} {tr:Tr V},h.blk 0=some (.ro 256 dS)→h.blk 1=some (.cells 3 tr none false)→tr.get 0=some (.int .i64 (Int.ofNat n))→tr.get 1=some (.int .i64 (Int.ofNat f))→tr.get 2=some (.bool l0)→Nat.ble 2 h.next=true→
   Con Tryz.prog TP noM 46 [.ptr 1 0,.lst l.length 4 (clL l),.int .i64 p,.bool nm] h (.bool (clB p nm l)) ⟨h.t.put 1 (some (.cells 3 (cE (svC n f l1) 0 .e) none false)),h.next⟩)∧(clB p nm l=true→l1=(l0||clG l)):=by
 obtain⟨l1,c,o⟩:=f46 l hl p nm n f l0
 refine⟨l1,fun{h tr} h0 h1 t0 t1 t2 hn=>?_,o⟩
 exact Con.frameB (cs:=svC n f l0) (cs':=svC n f l1) c (xH n f l0 (bO (pxC l) (bO (.flat rfl) (bO (.flat rfl) px0)))) List.mem_cons_self (.flat rfl) (dN _ _ _) (dN _ _ _) rfl rfl h0 h1 (gz t0 t1 t2) (Nat.le_of_ble_eq_true hn)
noncomputable section
def ctL(x:Ex):List V:=
 if eqI x.kind 13 then(exO x).set 6 .nils
 else if eqI x.kind 15 then(exO x).set 8 .nils
 else if eqI x.kind 16 then((exO x).set 4 .nils).set 6 .nils
 else if eqI x.kind 17 then((((exO x).set 4 .nils).set 6 .nils).set 9 .nils).set 10 (.bool false)
 else if eqI x.kind 18 then(((((exO x).set 8 .nils).set 6 .nils).set 7 .nils).set 9 .nils).set 10 (.bool false)
 else exO x
def wR(x:Ex):Bool:=rf x.wait (ltI 0 (Int.ofNat x.after.length))
def ctB(x:Ex):Bool:=
 if eqI x.kind 13 then ltI 0 (Int.ofNat x.clauses.length)&&clB (-1) false x.clauses
 else if eqI x.kind 15 then ltI 0 (Int.ofNat x.body.length)&&bdB x.body
 else if eqI x.kind 16 then eqI (Int.ofNat x.items.length) 1&&ltI 0 (Int.ofNat x.clauses.length)&&clB 1 false x.clauses
 else if eqI x.kind 17 then
  if x.wait then clB 1 false x.clauses&&bdB x.after&&eqI (Int.ofNat x.items.length) 1&&ltI 0 (Int.ofNat x.after.length)
  else clB 1 false x.clauses&&bdB x.after&&eqI (Int.ofNat x.items.length) 0&&eqI (Int.ofNat x.after.length) 0&&ltI 0 (Int.ofNat x.clauses.length)
 else if eqI x.kind 18 then ltI 0 (Int.ofNat x.body.length)&&bdB x.body&&clB 1 false x.clauses&&clB 2 false x.catches&&bdB x.after&&wR x&&(x.wait||ltI 0 (Int.ofNat x.catches.length)) && !rb 114 [.lst x.catches.length 4 (clL x.catches),.func (.func 115) [] []]
 else false
def ctG(x:Ex):Bool:=
 if eqI x.kind 13 then clG x.clauses else if eqI x.kind 15 then false else if eqI x.kind 16 then clG x.clauses else if eqI x.kind 17 then clG x.clauses else if eqI x.kind 18 then clG x.clauses||clG x.catches else false
def ctF(x:Ex):Nat:=if eqI x.kind 13 then 1 else 0
end
theorem CK{nm:Bool}{l:List Cl}(h:clB 2 nm l=true):∀c,c∈l→0<c.pats.length:=fun c hc=>by
 have k:=List.all_eq_true.1 h c hc
 unfold okC at k
 simp only [Bool.and_eq_true,Bool.not_eq_true',Bool.or_eq_false_iff,Bool.and_eq_false_iff]at k
 rcases k.1.1.1.1 with q|q
 ·cases q
 ·have:=qr (a:=Int.ofNat c.pats.length) (b:=2) (by simpa using q)
  simp at this
  omega
set_option maxHeartbeats 16000000 in
theorem f82(x:Ex)(hx:bF (exO x)≤6000000)(n f:Nat)(l0:Bool)(hf:f<9223372036854775807):
  ∃l1,Con Tryz.prog TP noM 82 [.ptr 1 0,.agg (exO x)] (svH n f l0) (.tup [.agg (ctL x),.bool (ctB x)]) (svH n (f+ctF x) l1)∧(ctB x=true→l1=(l0||ctG x)):=by
 obtain⟨v,cs',c,rfl,l1,rfl,ok⟩:∃v cs',Con Tryz.prog TP noM 82 [.ptr 1 0,.agg (exO x)] (svH n f l0) v (HB cs')∧v= .tup [.agg (ctL x),.bool (ctB x)]∧∃l1,cs'=svC n (f+ctF x) l1∧(ctB x=true→l1=(l0||ctG x)):=by
  refine qU Tryz.func82 (by decide) cf82_ok rfl rfl ?_
  have hsz:=dL x
  have hb:=gM x.body
  have ha:=gM x.after
  have hc:=eS x.catches
  obtain⟨a13,c13,o13⟩:=f46F x.clauses (by omega) (-1) false n (f+1) l0
  obtain⟨a1,c1,o1⟩:=f46F x.clauses (by omega) 1 false n f l0
  obtain⟨a2,c2,o2⟩:=f46F x.catches (by omega) 2 false n f a1
  have g60:=f60 x.body (by omega)
  have g61:=f60 x.after (by omega)
  repeat' (first
   |(refine WLg.mk ?_;first
   |refine aa rfl rfl rfl rfl ?_|refine ab rfl rfl rfl rfl ?_
   |refine az rfl rfl RA rfl PB rfl ?_
   |refine aE rfl rfl rfl rfl rfl ?_|refine aN rfl rfl rfl rfl rfl rfl rfl rfl rfl ?_
   |refine aL rfl rfl rfl rfl rfl rfl rfl rfl rfl ?_|refine aq rfl rfl rfl (g60) rfl ?_|refine aq rfl rfl rfl (g61) rfl ?_
   |refine aq rfl rfl rfl (f114 x.catches (by omega) (CK Hy)) rfl ?_
   |refine am rfl rfl rfl (c13 rfl rfl rfl (dB hf) rfl rfl) (fun _ _ q=>q) .none rfl ?_
   |refine am rfl rfl rfl (c1 rfl rfl rfl rfl rfl rfl) (fun _ _ q=>q) .none rfl ?_
   |refine am rfl rfl rfl (c2 rfl rfl rfl rfl rfl rfl) (fun _ _ q=>q) .none rfl ?_)
   |refine ah ?_|refine ac rfl ?_|refine ax rfl rfl ?_|refine ay rfl (fun ht=>?_) (fun ht=>?_)|refine ai ?_
   |refine ae ?_|refine aj ?_|refine al ?_|refine ak rfl (fun ht=>?_) (fun ht=>?_)|refine ap ?_|refine bE.norm ?_
   |fail)
  all_goals (
   clear g60 g61 c13 c1 c2
   first
    |exact⟨.inr rfl,_,rfl,Nat.le_succ 2,(bN.tup (bO (.agg (by repeat' (first|exact px0|refine bO ?_ ?_|exact .flat rfl|exact pxE _|exact pxS _|exact pxC _|exact pxM _))) (bO (.flat rfl) px0))),svC n (f+1) a13,_,_,⟨(by simp only [ctL,ctB,bdB,Bool.true_and,Bool.and_true,Bool.false_and,Bool.and_false,Bool.or_true,Bool.true_or,Bool.false_or,Bool.and_self,Bool.or_self,if_true,if_false,Bool.false_eq_true, *]<;>rfl),a13,(by simp only [ctF,if_true,if_false,Bool.false_eq_true, *]<;>rfl),(fun h=>by
        simp only [ctB,bdB,Bool.true_and,Bool.and_true,Bool.false_and,Bool.and_false,Bool.or_true,Bool.true_or,Bool.false_or,Bool.and_self,Bool.or_self,if_true,if_false,Bool.false_eq_true, *]at h
        first|done|(exact absurd h (by decide))|(simp only [ctG,Bool.or_false,if_true,if_false,Bool.false_eq_true, *]<;>exact o13 (by first|assumption|exact h)))⟩,rfl,rfl,gz rfl (by first|rfl|exact dB hf) rfl,dN _ _ _,rfl⟩
    |exact⟨.inr rfl,_,rfl,Nat.le_succ 2,(bN.tup (bO (.agg (by repeat' (first|exact px0|refine bO ?_ ?_|exact .flat rfl|exact pxE _|exact pxS _|exact pxC _|exact pxM _))) (bO (.flat rfl) px0))),svC n (f+1) l0,_,_,⟨(by simp only [ctL,ctB,bdB,Bool.true_and,Bool.and_true,Bool.false_and,Bool.and_false,Bool.or_true,Bool.true_or,Bool.false_or,Bool.and_self,Bool.or_self,if_true,if_false,Bool.false_eq_true, *]<;>rfl),l0,(by simp only [ctF,if_true,if_false,Bool.false_eq_true, *]<;>rfl),(fun h=>by
        simp only [ctB,bdB,Bool.true_and,Bool.and_true,Bool.false_and,Bool.and_false,Bool.or_true,Bool.true_or,Bool.false_or,Bool.and_self,Bool.or_self,if_true,if_false,Bool.false_eq_true, *]at h
        first|done|(exact absurd h (by decide))|(simp only [ctG,Bool.or_false,if_true,if_false,Bool.false_eq_true, *]))⟩,rfl,rfl,gz rfl (by first|rfl|exact dB hf) rfl,dN _ _ _,rfl⟩
    |exact⟨.inr rfl,_,rfl,Nat.le_succ 2,(bN.tup (bO (.agg (by repeat' (first|exact px0|refine bO ?_ ?_|exact .flat rfl|exact pxE _|exact pxS _|exact pxC _|exact pxM _))) (bO (.flat rfl) px0))),svC n f l0,_,_,⟨(by simp only [ctL,ctB,bdB,Bool.true_and,Bool.and_true,Bool.false_and,Bool.and_false,Bool.or_true,Bool.true_or,Bool.false_or,Bool.and_self,Bool.or_self,if_true,if_false,Bool.false_eq_true, *]<;>rfl),l0,(by simp only [ctF,if_false,Bool.false_eq_true, *]<;>rfl),(fun h=>by
        simp only [ctB,bdB,Bool.true_and,Bool.and_true,Bool.false_and,Bool.and_false,Bool.or_true,Bool.true_or,Bool.false_or,Bool.and_self,Bool.or_self,if_true,if_false,Bool.false_eq_true, *]at h
        first|done|(exact absurd h (by decide))|(simp only [ctG,Bool.or_false,if_true,if_false,Bool.false_eq_true, *]))⟩,rfl,rfl,gz rfl (by first|rfl|exact dB hf) rfl,dN _ _ _,rfl⟩
    |exact⟨.inr rfl,_,rfl,Nat.le_succ 2,(bN.tup (bO (.agg (by repeat' (first|exact px0|refine bO ?_ ?_|exact .flat rfl|exact pxE _|exact pxS _|exact pxC _|exact pxM _))) (bO (.flat rfl) px0))),svC n f a1,_,_,⟨(by simp only [ctL,ctB,bdB,Bool.true_and,Bool.and_true,Bool.false_and,Bool.and_false,Bool.or_true,Bool.true_or,Bool.false_or,Bool.and_self,Bool.or_self,if_true,if_false,Bool.false_eq_true, *]<;>rfl),a1,(by simp only [ctF,if_false,Bool.false_eq_true, *]<;>rfl),(fun h=>by
        simp only [ctB,bdB,Bool.true_and,Bool.and_true,Bool.false_and,Bool.and_false,Bool.or_true,Bool.true_or,Bool.false_or,Bool.and_self,Bool.or_self,if_true,if_false,Bool.false_eq_true, *]at h
        first|done|(exact absurd h (by decide))|(simp only [ctG,if_true,if_false,Bool.false_eq_true, *]<;>exact o1 (by first|assumption|exact h)))⟩,rfl,rfl,gz rfl (by first|rfl|exact dB hf) rfl,dN _ _ _,rfl⟩
    |(have hb:wR x=true:=by assumption
      exact⟨.inr rfl,_,rfl,Nat.le_succ 2,(bN.tup (bO (.agg (by repeat' (first|exact px0|refine bO ?_ ?_|exact .flat rfl|exact pxE _|exact pxS _|exact pxC _|exact pxM _))) (bO (.flat rfl) px0))),svC n f a2,_,_,⟨(by simp only [ctL,ctB,bdB,Bool.true_and,Bool.and_true,Bool.false_and,Bool.and_false,Bool.or_true,Bool.true_or,Bool.and_self,Bool.or_self,if_true,if_false,Bool.false_eq_true, *]<;>rfl),a2,(by simp only [ctF,if_false,Bool.false_eq_true, *]<;>rfl),(fun h=>by
         simp only [ctB,bdB,Bool.true_and,Bool.and_true,Bool.false_and,Bool.and_false,Bool.or_true,Bool.true_or,Bool.and_self,Bool.or_self,if_true,if_false,Bool.false_eq_true, *]at h
         first|done|(exact absurd h (by decide))|(have e1:=o1 Hy;have e2:=o2 (by first|assumption|exact h);simp only [ctG,if_true,if_false,Bool.false_eq_true, *]<;>first|done|rw [Bool.or_assoc]|rw [e2,e1,Bool.or_assoc]))⟩,rfl,rfl,gz rfl (by first|rfl|exact dB hf) rfl,dN _ _ _,rfl⟩)
    |(have hb:wR x=false:=by assumption
      exact⟨.inr rfl,_,rfl,Nat.le_succ 2,(bN.tup (bO (.agg (by repeat' (first|exact px0|refine bO ?_ ?_|exact .flat rfl|exact pxE _|exact pxS _|exact pxC _|exact pxM _))) (bO (.flat rfl) px0))),svC n f a2,_,_,⟨(by simp only [ctL,ctB,bdB,Bool.true_and,Bool.and_true,Bool.false_and,Bool.and_false,Bool.and_self,if_true,if_false,Bool.false_eq_true, *]<;>rfl),a2,(by simp only [ctF,if_false,Bool.false_eq_true, *]<;>rfl),(fun h=>by
         simp only [ctB,bdB,Bool.true_and,Bool.and_true,Bool.false_and,Bool.and_false,Bool.and_self,if_true,if_false,Bool.false_eq_true, *]at h
         first|done|(exact absurd h (by decide))|(have e1:=o1 Hy;have e2:=o2 (by first|assumption|exact h);simp only [ctG,Bool.true_and,Bool.and_true,Bool.false_and,Bool.and_false,Bool.or_true,Bool.true_or,Bool.or_false,Bool.false_or,Bool.not_true,Bool.not_false,Bool.and_self,Bool.or_self,if_true,if_false,Bool.false_eq_true,reduceIte, *]<;>first|done|rw [Bool.or_assoc]|rw [e2,e1,Bool.or_assoc]))⟩,rfl,rfl,gz rfl (by first|rfl|exact dB hf) rfl,dN _ _ _,rfl⟩)
    |exact⟨.inr rfl,_,rfl,Nat.le_succ 2,(bN.tup (bO (.agg (by repeat' (first|exact px0|refine bO ?_ ?_|exact .flat rfl|exact pxE _|exact pxS _|exact pxC _|exact pxM _))) (bO (.flat rfl) px0))),svC n f a2,_,_,⟨(by simp only [ctL,ctB,bdB,Bool.true_and,Bool.and_true,Bool.false_and,Bool.and_false,Bool.and_self,if_true,if_false,Bool.false_eq_true, *]<;>rfl),a2,(by simp only [ctF,if_false,Bool.false_eq_true, *]<;>rfl),(fun h=>by
        simp only [ctB,bdB,Bool.true_and,Bool.and_true,Bool.false_and,Bool.and_false,Bool.and_self,if_true,if_false,Bool.false_eq_true, *]at h
        first|done|(exact absurd h (by decide))|(have e1:=o1 Hy;have e2:=o2 (by first|assumption|exact h);simp only [ctG,Bool.true_and,Bool.and_true,Bool.false_and,Bool.and_false,Bool.or_true,Bool.true_or,Bool.or_false,Bool.false_or,Bool.not_true,Bool.not_false,Bool.and_self,Bool.or_self,if_true,if_false,Bool.false_eq_true,reduceIte, *]<;>first|done|rw [Bool.or_assoc]|rw [e2,e1,Bool.or_assoc]))⟩,rfl,rfl,gz rfl (by first|rfl|exact dB hf) rfl,dN _ _ _,rfl⟩
    |fail)
 exact⟨l1,c,ok⟩
end
section
inductive Sh:List V→Prop
 |mk {k a:Int} {n1 c1 n2 c2:Nat} {l1 l2 l3 l4 l5 l6:V} {w:Bool} (h1:Lv l1) (h2:Lv l2) (h3:Lv l3) (h4:Lv l4) (h5:Lv l5) (h6:Lv l6):Sh [.int .i64 k,.int .i64 a,.str n1 c1,.str n2 c2,l1,l2,l3,l4,l5,l6,.bool w]
theorem Sh.node{l:List V}(h:Sh l):lZ (.agg l):=by
 cases h with
 |mk h1 h2 h3 h4 h5 h6=>exact .mk h1 h2 h3 h4 h5 h6
theorem lvE(l:List Ex):Lv (.lst l.length 11 (exL l)):= .lst (pxE l)
theorem lvS(l:List Sg):Lv (.lst l.length 27 (sgL l)):= .lst (pxS l)
theorem lvC(l:List Cl):Lv (.lst l.length 4 (clL l)):= .lst (pxC l)
theorem lvM(l:List Sm):Lv (.lst l.length 23 (smL l)):= .lst (pxM l)
theorem wZ(x:Ex):Sh (ctL x):=by
 unfold ctL
 repeat' split
 all_goals exact .mk (by first|exact .nils|exact lvE _) (by first|exact .nils|exact lvS _) (by first|exact .nils|exact lvC _) (by first|exact .nils|exact lvC _) (by first|exact .nils|exact lvM _) (by first|exact .nils|exact lvM _)
noncomputable section
def ndL(x:Ex):List V:=
 if eqI x.kind 1 then(exO x).set 1 (.int .i64 0)
 else if eqI x.kind 2 then(exO x).set 2 (.str 0 0)
 else if eqI x.kind 3 then(exO x).set 2 (.str 0 0)
 else if eqI x.kind 4 then exO x
 else if eqI x.kind 6 then exO x
 else if eqI x.kind 5 then(exO x).set 4 .nils
 else if eqI x.kind 7 then(exO x).set 4 .nils
 else if eqI x.kind 8 then(exO x).set 5 .nils
 else if eqI x.kind 9 then((exO x).set 2 (.str 0 0)).set 4 .nils
 else if eqI x.kind 10 then((exO x).set 2 (.str 0 0)).set 4 .nils
 else if eqI x.kind 11 then(exO x).set 4 .nils
 else if eqI x.kind 12 then(exO x).set 4 .nils
 else if eqI x.kind 14 then(((exO x).set 2 (.str 0 0)).set 3 (.str 0 0)).set 1 (.int .i64 0)
 else ctL x
def ndB(x:Ex):Bool:=
 if eqI x.kind 1 then true
 else if eqI x.kind 2 then wdB x.name
 else if eqI x.kind 3 then rb 79 [sV x.name]
 else if eqI x.kind 4 then true
 else if eqI x.kind 6 then true
 else if eqI x.kind 5 then true
 else if eqI x.kind 7 then !ltI (Int.ofNat x.items.length) 2
 else if eqI x.kind 8 then rb 80 [.lst x.segs.length 27 (sgL x.segs)]
 else if eqI x.kind 9 then rb 81 [sV x.name,.int .i64 (Int.ofNat x.items.length)]
 else if eqI x.kind 10 then wdB x.name
 else if eqI x.kind 11 then !ltI (Int.ofNat x.items.length) 2
 else if eqI x.kind 12 then !ltI (Int.ofNat x.items.length) 1
 else if eqI x.kind 14 then wdB x.name&&wdB x.text && !ltI x.int 0 && !ltI 16 x.int
 else ctB x
def ndG(x:Ex):Bool:=
 if eqI x.kind 1 then false
 else if eqI x.kind 2 then false
 else if eqI x.kind 3 then false
 else if eqI x.kind 4 then false
 else if eqI x.kind 6 then false
 else if eqI x.kind 5 then ltI 255 (Int.ofNat x.items.length)
 else if eqI x.kind 7 then false
 else if eqI x.kind 8 then ltI 60 (Int.ofNat x.segs.length)
 else if eqI x.kind 9 then false
 else if eqI x.kind 10 then ltI 16 (Int.ofNat x.items.length)
 else if eqI x.kind 11 then ltI 18 (Int.ofNat x.items.length)
 else if eqI x.kind 12 then ltI 17 (Int.ofNat x.items.length)
 else if eqI x.kind 14 then false
 else ctG x
def ndF(x:Ex):Nat:=
 if eqI x.kind 1 then 0
 else if eqI x.kind 2 then 0
 else if eqI x.kind 3 then 0
 else if eqI x.kind 4 then 0
 else if eqI x.kind 6 then 0
 else if eqI x.kind 5 then 0
 else if eqI x.kind 7 then 0
 else if eqI x.kind 8 then 0
 else if eqI x.kind 9 then 0
 else if eqI x.kind 10 then 0
 else if eqI x.kind 11 then 0
 else if eqI x.kind 12 then 0
 else if eqI x.kind 14 then 0
 else ctF x
end
theorem Fo{c:Bool}{a b:List V}(h1:Sh a)(h2:Sh b):Sh (if c then a else b):=by cases c<;>assumption
theorem v7(x:Ex):Sh (ndL x):=by
 unfold ndL
 repeat' (refine Fo ?_ ?_)
 all_goals first
  |exact wZ x
  |exact .mk (by first|exact .nils|exact lvE _) (by first|exact .nils|exact lvS _) (by first|exact .nils|exact lvC _) (by first|exact .nils|exact lvC _) (by first|exact .nils|exact lvM _) (by first|exact .nils|exact lvM _)
theorem f82F(x:Ex)(hx:bF (exO x)≤6000000)(n f:Nat)(l0:Bool)(hf:f<9223372036854775807):
  ∃l1,(∀{h:H} {tr:Tr V},h.blk 0=some (.ro 256 dS)→h.blk 1=some (.cells 3 tr none false)→tr.get 0=some (.int .i64 (Int.ofNat n))→tr.get 1=some (.int .i64 (Int.ofNat f))→tr.get 2=some (.bool l0)→Nat.ble 2 h.next=true→
   Con Tryz.prog TP noM 82 [.ptr 1 0,.agg (exO x)] h (.tup [.agg (ctL x),.bool (ctB x)]) ⟨h.t.put 1 (some (.cells 3 (cE (svC n (f+ctF x) l1) 0 .e) none false)),h.next⟩)∧(ctB x=true→l1=(l0||ctG x)):=by
 obtain⟨l1,c,o⟩:=f82 x hx n f l0 hf
 refine⟨l1,fun{h tr} h0 h1 t0 t1 t2 hn=>?_,o⟩
 have pl:bN (.agg (ctL x)):=(wZ x).node.px
 exact Con.frameB (cs:=svC n f l0) (cs':=svC n (f+ctF x) l1) c (xH n f l0 (bO (pxe x) px0)) List.mem_cons_self (.tup (bO pl (bO (.flat rfl) px0))) (dN _ _ _) (dN _ _ _) rfl rfl h0 h1 (gz t0 t1 t2) (Nat.le_of_ble_eq_true hn)
set_option maxHeartbeats 16000000 in
theorem f61(x:Ex)(hx:bF (exO x)≤6000000)(n f:Nat)(l0:Bool)(hf:f<9223372036854775807):
  ∃l1,Con Tryz.prog TP noM 61 [.ptr 1 0,.agg (exO x)] (svH n f l0) (.tup [.agg (ndL x),.bool (ndB x)]) (svH n (f+ndF x) l1)∧(ndB x=true→l1=(l0||ndG x)):=by
 obtain⟨v,cs',c,rfl,l1,rfl,ok⟩:∃v cs',Con Tryz.prog TP noM 61 [.ptr 1 0,.agg (exO x)] (svH n f l0) v (HB cs')∧v= .tup [.agg (ndL x),.bool (ndB x)]∧∃l1,cs'=svC n (f+ndF x) l1∧(ndB x=true→l1=(l0||ndG x)):=by
  refine qU Tryz.func61 (by decide) cf61_ok rfl rfl ?_
  have hsz:=dL x
  have hi:=dt x.items
  have hs:=iQ x.segs
  obtain⟨a2,c82,o82⟩:=f82F x hx n f l0 hf
  have hsh:=wZ x
  generalize hL:ctL x=L at c82 hsh
  cases hsh with
  |mk h1 h2 h3 h4 h5 h6=>
  rename_i k9 i9 n1 c1 n2 c2 l1 l2 l3 l4 l5 l6 w
  have hone:=jH (k:=k9) (a:=i9) (n1:=n1) (c1:=c1) (n2:=n2) (c2:=c2) (w:=w) h1 h2 h3 h4 h5 h6
  have p1:=h1.px
  have p2:=h2.px
  have p3:=h3.px
  have p4:=h4.px
  have p5:=h5.px
  have p6:=h6.px
  have g1:=f45 x.name.size (bT x.name.data.toList)
  have g2:=f45 x.text.size (bT x.text.data.toList)
  have g3:=f79s x.name (by omega)
  have g4:=f80 x.segs (by omega)
  have g5:=f81 x.name.size (bT x.name.data.toList) (Int.ofNat x.items.length)
  repeat' (first
   |(refine WLg.mk ?_;first
   |refine aa rfl rfl rfl rfl ?_|refine ab rfl rfl rfl rfl ?_
   |refine az rfl rfl RA rfl PB rfl ?_
   |refine aE rfl rfl rfl rfl rfl ?_|refine aL rfl rfl rfl rfl hone rfl rfl rfl rfl ?_
   |refine aN rfl rfl rfl rfl rfl rfl rfl rfl rfl ?_|refine aL rfl rfl rfl rfl rfl rfl rfl rfl rfl ?_
   |refine aq rfl rfl rfl (g1) rfl ?_|refine aq rfl rfl rfl (g2) rfl ?_|refine aq rfl rfl rfl (g3) rfl ?_
   |refine aq rfl rfl rfl (g4) rfl ?_|refine aq rfl rfl rfl (g5) rfl ?_
   |refine am rfl rfl rfl (c82 rfl rfl rfl rfl rfl rfl) (fun _ _ q=>q) .none rfl ?_)
   |refine ah ?_|refine ac rfl ?_|refine ax rfl rfl ?_|refine ay rfl (fun ht=>?_) (fun ht=>?_)|refine ai ?_
   |refine ae ?_|refine aj ?_|refine al ?_|refine ak rfl (fun ht=>?_) (fun ht=>?_)|refine ap ?_|refine bE.norm ?_
   |refine bE.ret ?_|fail)
  all_goals (
   clear g1 g2 g3 g4 g5 c82
   first
    |(exact absurd ((show eqI x.kind 4=true by assumption).symm.trans (show eqI x.kind 4=false by assumption)) (by decide))
    |exact⟨.inr rfl,_,rfl,Nat.le_succ 2,(bN.tup (bO (.agg (by repeat' (first|exact px0|refine bO ?_ ?_|exact .flat rfl|exact pxE _|exact pxS _|exact pxC _|exact pxM _|assumption))) (bO (.flat rfl) px0))),svC n f l0,_,_,⟨(by simp only [ndL,ndB,wdB,sV,Bool.true_and,Bool.false_and,Bool.and_false,Bool.and_self,if_true,if_false,Bool.false_eq_true, *]<;>rfl),l0,(by simp only [ndF,if_true,if_false,Bool.false_eq_true, *]<;>rfl),(fun h=>by
       first
        |(simp only [ndG,Bool.true_or,Bool.or_false,Bool.false_or,if_true,if_false,Bool.false_eq_true, *]<;>rfl)
        |(simp only [ndG,Bool.false_or,if_true,if_false,Bool.false_eq_true, *])
        |rfl)⟩,rfl,rfl,gz rfl rfl rfl,dN _ _ _,rfl⟩
    |exact⟨.inr rfl,_,rfl,Nat.le_succ 2,(bN.tup (bO (.agg (by repeat' (first|exact px0|refine bO ?_ ?_|exact .flat rfl|exact pxE _|exact pxS _|exact pxC _|exact pxM _|assumption))) (bO (.flat rfl) px0))),svC n f true,_,_,⟨(by simp only [ndL,ndB,wdB,sV,if_true,if_false,Bool.false_eq_true, *]<;>rfl),true,(by simp only [ndF,if_true,if_false,Bool.false_eq_true, *]<;>rfl),(fun h=>by
       first
        |(simp only [ndG,Bool.true_or,Bool.false_or,if_true,if_false,Bool.false_eq_true, *]<;>rfl)
        |(simp only [ndG,Bool.false_or,if_true,if_false,Bool.false_eq_true, *])
        |rfl)⟩,rfl,rfl,gz rfl rfl rfl,dN _ _ _,rfl⟩
    |exact⟨.inr rfl,_,rfl,Nat.le_succ 2,(bN.tup (bO (.agg (by repeat' (first|exact px0|refine bO ?_ ?_|exact .flat rfl|exact pxE _|exact pxS _|exact pxC _|exact pxM _|assumption))) (bO (.flat rfl) px0))),svC n f (ltI 255 (Int.ofNat x.items.length)),_,_,⟨(by simp only [ndL,ndB,wdB,sV,if_true,if_false,Bool.false_eq_true, *]<;>rfl),(ltI 255 (Int.ofNat x.items.length)),(by simp only [ndF,if_true,if_false,Bool.false_eq_true, *]<;>rfl),(fun h=>by
       first
        |(simp only [ndG,Bool.false_or,if_true,if_false,Bool.false_eq_true, *]<;>rfl)
        |(simp only [ndG,Bool.false_or,if_true,if_false,Bool.false_eq_true, *])
        |rfl)⟩,rfl,rfl,gz rfl rfl rfl,dN _ _ _,rfl⟩
    |exact⟨.inr rfl,_,rfl,Nat.le_succ 2,(bN.tup (bO (.agg (by repeat' (first|exact px0|refine bO ?_ ?_|exact .flat rfl|exact pxE _|exact pxS _|exact pxC _|exact pxM _|assumption))) (bO (.flat rfl) px0))),svC n f (ltI 60 (Int.ofNat x.segs.length)),_,_,⟨(by simp only [ndL,ndB,wdB,sV,if_true,if_false,Bool.false_eq_true, *]<;>rfl),(ltI 60 (Int.ofNat x.segs.length)),(by simp only [ndF,if_true,if_false,Bool.false_eq_true, *]<;>rfl),(fun h=>by
       first
        |(simp only [ndG,Bool.false_or,if_true,if_false,Bool.false_eq_true, *]<;>rfl)
        |(simp only [ndG,Bool.false_or,if_true,if_false,Bool.false_eq_true, *])
        |rfl)⟩,rfl,rfl,gz rfl rfl rfl,dN _ _ _,rfl⟩
    |exact⟨.inr rfl,_,rfl,Nat.le_succ 2,(bN.tup (bO (.agg (by repeat' (first|exact px0|refine bO ?_ ?_|exact .flat rfl|exact pxE _|exact pxS _|exact pxC _|exact pxM _|assumption))) (bO (.flat rfl) px0))),svC n f (ltI 16 (Int.ofNat x.items.length)),_,_,⟨(by simp only [ndL,ndB,wdB,sV,if_true,if_false,Bool.false_eq_true, *]<;>rfl),(ltI 16 (Int.ofNat x.items.length)),(by simp only [ndF,if_true,if_false,Bool.false_eq_true, *]<;>rfl),(fun h=>by
       first
        |(simp only [ndG,Bool.false_or,if_true,if_false,Bool.false_eq_true, *]<;>rfl)
        |(simp only [ndG,Bool.false_or,if_true,if_false,Bool.false_eq_true, *])
        |rfl)⟩,rfl,rfl,gz rfl rfl rfl,dN _ _ _,rfl⟩
    |exact⟨.inr rfl,_,rfl,Nat.le_succ 2,(bN.tup (bO (.agg (by repeat' (first|exact px0|refine bO ?_ ?_|exact .flat rfl|exact pxE _|exact pxS _|exact pxC _|exact pxM _|assumption))) (bO (.flat rfl) px0))),svC n f (ltI 18 (Int.ofNat x.items.length)),_,_,⟨(by simp only [ndL,ndB,wdB,sV,if_true,if_false,Bool.false_eq_true, *]<;>rfl),(ltI 18 (Int.ofNat x.items.length)),(by simp only [ndF,if_true,if_false,Bool.false_eq_true, *]<;>rfl),(fun h=>by
       first
        |(simp only [ndG,Bool.false_or,if_true,if_false,Bool.false_eq_true, *]<;>rfl)
        |(simp only [ndG,Bool.false_or,if_true,if_false,Bool.false_eq_true, *])
        |rfl)⟩,rfl,rfl,gz rfl rfl rfl,dN _ _ _,rfl⟩
    |exact⟨.inr rfl,_,rfl,Nat.le_succ 2,(bN.tup (bO (.agg (by repeat' (first|exact px0|refine bO ?_ ?_|exact .flat rfl|exact pxE _|exact pxS _|exact pxC _|exact pxM _|assumption))) (bO (.flat rfl) px0))),svC n f (ltI 17 (Int.ofNat x.items.length)),_,_,⟨(by simp only [ndL,ndB,wdB,sV,if_true,if_false,Bool.false_eq_true, *]<;>rfl),(ltI 17 (Int.ofNat x.items.length)),(by simp only [ndF,if_true,if_false,Bool.false_eq_true, *]<;>rfl),(fun h=>by
       first
        |(simp only [ndG,Bool.false_or,if_true,if_false,Bool.false_eq_true, *]<;>rfl)
        |(simp only [ndG,if_false,Bool.false_eq_true, *])
        |rfl)⟩,rfl,rfl,gz rfl rfl rfl,dN _ _ _,rfl⟩
    |exact⟨.inr rfl,_,rfl,Nat.le_succ 2,(bN.tup (bO (.agg (by repeat' (first|exact px0|refine bO ?_ ?_|exact .flat rfl|exact pxE _|exact pxS _|exact pxC _|exact pxM _|assumption))) (bO (.flat rfl) px0))),svC n (f+ctF x) a2,_,_,⟨(by simp only [ndL,ndB,wdB,sV,if_false,Bool.false_eq_true, *]<;>rfl),a2,(by simp only [ndF,if_false,Bool.false_eq_true, *]<;>rfl),(fun h=>by
       simp only [ndB,if_false,Bool.false_eq_true, *]at h
       simp only [ndG,if_false,Bool.false_eq_true, *]<;>exact o82 (by first|assumption|exact h))⟩,rfl,rfl,gz rfl rfl rfl,dN _ _ _,rfl⟩
    |fail)
 exact⟨l1,c,ok⟩
end
section
noncomputable def smZ:Sm:= .mk false ex0 ex0
inductive Rk{α:Type}(C:α→H→Bool→H→Prop):List α→H→Bool→H→Prop
 |nil {h:H}:Rk C [] h true h
 |stop {y:α} {l:List α} {h h':H} (c:C y h false h'):Rk C (y ::l) h false h'
 |go {y:α} {l:List α} {h h1 h':H} {b:Bool} (c:C y h true h1) (k:Rk C l h1 b h'):Rk C (y ::l) h b h'
theorem Rk.app{α:Type}{C:α→H→Bool→H→Prop}:∀{a b:List α} {h h':H} {r:Bool},Rk C (a++b) h r h'→(∃h1,Rk C a h true h1∧Rk C b h1 r h')∨(r=false∧Rk C a h false h')
 |[],b,h,h',r,k=>.inl ⟨h,.nil,k⟩
 |y ::a,b,h,h',r,k=>by
  cases k with
  |stop c=>exact .inr ⟨rfl,.stop c⟩
  |go c k=>
   rcases Rk.app k with⟨h1,k1,k2⟩ | ⟨e,k1⟩
   ·exact .inl ⟨h1,.go c k1,k2⟩
   ·subst e
    exact .inr ⟨rfl,.go c k1⟩
structure CX(g:FuncId)(caps:List V)(v:V)(h:H)(b:Bool)(h':H):Prop where
 con:Con Tryz.prog TP noM g (v ::caps) h (.bool b) h'
 le:h.next≤h'.next
 lt:Nat.blt h'.next bP=true
def CE(g:FuncId)(caps:List V)(y:Ex)(h:H)(b:Bool)(h':H):Prop:=CX g caps (.agg (exO y)) h b h'
structure Gr(h h':H):Prop where
 le:h.next≤h'.next
 lt:Nat.blt h'.next bP=true
theorem Gr.refl{h:H}(k:Nat.blt h.next bP=true):Gr h h:=⟨Nat.le_refl _,k⟩
theorem Gr.trans{a b c:H}(x:Gr a b)(y:Gr b c):Gr a c:=⟨Nat.le_trans x.le y.le,y.lt⟩
theorem CE.gr{g:FuncId}{caps:List V}{y:Ex}{h h':H}{b:Bool}(c:CE g caps y h b h'):Gr h h':=⟨CX.le c,CX.lt c⟩
theorem Rk.gr{α:Type}{C:α→H→Bool→H→Prop}(hc:∀y h b h',C y h b h'→Gr h h'):∀{l:List α} {h h':H} {r:Bool},Nat.blt h.next bP=true→Rk C l h r h'→Gr h h'
 |_,_,_,_,k,.nil=>.refl k
 |_,_,_,_,_,.stop c=>hc _ _ _ _ c
 |_,_,_,_,_,.go c k=>(hc _ _ _ _ c).trans (Rk.gr hc (hc _ _ _ _ c).lt k)
theorem jG{α:Type}{l:List α}{i:Nat}{d:α}(h:Nat.blt i l.length=true):l.drop i=(l[i]?).getD d ::l.drop (i+1):=by
 have h':=bK h
 rw [List.drop_eq_getElem_cons h',List.getElem?_eq_getElem h']
 rfl
theorem iD{α:Type}{l:List α}{i:Nat}(_:i≤l.length)(h:Nat.blt i l.length=false):l.drop i=[]:=by
 have:=ci h
 rw [List.drop_eq_nil_iff]
 exact this
theorem eI{f:FuncId} {fn:Func} {cf:CF} {h h':H} {b:Bool} (hfn:Tryz.prog.funcs[f]? =some fn) (hnm:fn.name≠ "runtime.NumGoroutine") (hcf:bG TP fn=some cf) {vs:List V} (hlen:vs.length=cf.params) {loc:AL} (hn:lQ vs 0=some loc) (np:1 < h.next) (hle:h.next≤h'.next)
  (k:WC Tryz.prog TP (fun id=>id<h.next∧¬noM id) eK 1 cf.code loc h (oX cf fun v h1=>v= .bool b∧h1=h')):Con Tryz.prog TP noM f vs h (.bool b) h':=by
 obtain⟨v,h1,c,rfl,rfl⟩:=tD (R:=fun v h1=>v= .bool b∧h1=h') hfn hnm hcf hlen hn ⟨1,np,fun q=>q,by decide⟩ (k.mono fun x l h1 q=>⟨q.1,by
  obtain⟨l,k1,k2,k3⟩:=q.2
  exact⟨l,k1,by rw [k3];exact hle,k2,k3⟩⟩)
 exact c
theorem yB{f:FuncId} {fn:Func} {cf:CF} {h h':H} {R:Int→Prop} (hfn:Tryz.prog.funcs[f]? =some fn) (hnm:fn.name≠ "runtime.NumGoroutine") (hcf:bG TP fn=some cf) {vs:List V} (hlen:vs.length=cf.params) {loc:AL} (hn:lQ vs 0=some loc) (np:1 < h.next) (hle:h.next≤h'.next)
  (k:WC Tryz.prog TP (fun id=>id<h.next∧¬noM id) eK 1 cf.code loc h (oX cf fun v h1=>(∃n,v= .int .i64 n∧R n)∧h1=h')):∃n,R n∧Con Tryz.prog TP noM f vs h (.int .i64 n) h':=by
 obtain⟨v,h1,c,⟨n,rfl,r⟩,rfl⟩:=tD (R:=fun v h1=>(∃n,v= .int .i64 n∧R n)∧h1=h') hfn hnm hcf hlen hn ⟨1,np,fun q=>q,by decide⟩ (k.mono fun x l h1 q=>⟨q.1,by
  obtain⟨l,k1,k2,k3⟩:=q.2
  exact⟨l,k1,by rw [k3];exact hle,k2,k3⟩⟩)
 exact⟨n,r,c⟩
noncomputable section
def fr123(g:FuncId)(caps:List V)(l:List Ex)(i:Nat):AL:=[(0,.lst l.length 11 (exL l)),(1,.func (.func g) [] caps),(7,.int .i64 (Int.ofNat l.length)),(8,.int .i64 (Int.ofNat i))]
def fr110c(g:FuncId)(caps:List V)(l:List Sm)(i:Nat):AL:=[(0,.lst l.length 23 (smL l)),(1,.func (.func g) [] caps),(7,.int .i64 (Int.ofNat l.length)),(8,.int .i64 (Int.ofNat i))]
end
theorem f123c{g:FuncId}{caps:List V}{l:List Ex}(hl:l.length<9223372036854775807){h h':H}{b:Bool}(np:1<h.next)(hk:Nat.blt h.next bP=true)(k:Rk (fun y h b h'=>CX g caps (.agg (exO y)) h (!b) h') l h b h'):
  ∃n,(!ltI n 0)= !b∧Con Tryz.prog TP noM 123 [.lst l.length 11 (exL l),.func (.func g) [] caps] h (.int .i64 n) h':=by
 have gr:=k.gr (fun y h b h' c=>⟨c.le,c.lt⟩) hk
 refine yB (R:=fun n=>(!ltI n 0)= !b) Tryz.func123 (by decide) cf123_ok rfl rfl np gr.le ?_
 repeat' (first
  |(refine WLg.mk ?_;first
  |refine aa rfl rfl rfl rfl ?_)
  |refine ah ?_|refine ac rfl ?_|refine ai ?_|refine ae ?_|refine aj ?_|refine bE.norm ?_|fail)
 refine av (bR (l:=fr123 g caps l 0) KH) ?_
 refine aw l.length (fun i x h1=>x=fr123 g caps l i∧Rk (fun y h b h'=>CX g caps (.agg (exO y)) h (!b) h') (l.drop i) h1 b h') ?_ (i:=0) (Nat.zero_le _) ⟨rfl,k⟩
 rintro i _ h1 hi ⟨rfl,k⟩
 have hi2:i<9223372036854775807:=by omega
 cases q:Nat.blt i l.length with
 |false=>
  rw [iD hi q]at k
  cases k
  repeat' (first
   |(refine WLg.mk ?_;first
   |refine aa rfl rfl rfl rfl ?_|refine aa rfl rfl (bM Hy) rfl ?_|refine ab rfl rfl (dv Hy) rfl ?_)
   |refine ah ?_|refine ac rfl ?_|refine ai ?_|refine ae ?_|refine aj ?_|refine al ?_
   |refine ak rfl (fun ht=>?_) (fun ht=>?_)|refine au ?_|refine ap ?_|refine bE.norm ?_|refine bE.exit ?_
   |refine OnC.exit ?_|fail)
  all_goals first
   |exact absurd (q.symm.trans Hy) (by decide)
   |exact⟨.inr rfl,_,rfl,⟨_,rfl,rfl⟩,rfl⟩
 |true=>
  rw [jG (d:=ex0) q]at k
  cases k with
  |stop c=>
   have c:=c.con
   repeat' (first
    |(refine WLg.mk ?_;first
    |refine aa rfl rfl rfl rfl ?_|refine aa rfl rfl (bM Hy) rfl ?_|refine ab rfl rfl (dv Hy) rfl ?_
    |refine am rfl rfl rfl (c) (fun _ _ q=>q) .none rfl ?_)
    |refine ah ?_|refine ac rfl ?_|refine ai ?_|refine ae ?_|refine aj ?_|refine al ?_|refine aC rfl ?_
    |refine ak rfl (fun ht=>?_) (fun ht=>?_)|refine au ?_|refine ap ?_|refine bE.norm ?_|refine bE.ret ?_
    |refine bE.exit ?_|refine OnC.ret ?_|refine OnC.exit ?_|fail)
   all_goals first
    |exact absurd (q.symm.trans Hy) (by decide)
    |exact⟨.inr rfl,_,rfl,⟨_,rfl,rfl⟩,rfl⟩
  |go c k=>
   have c:=c.con
   repeat' (first
    |(refine WLg.mk ?_;first
    |refine aa rfl rfl rfl rfl ?_|refine aa rfl rfl (bM Hy) rfl ?_|refine ab rfl rfl (dv Hy) rfl ?_
    |refine am rfl rfl rfl (c) (fun _ _ q=>q) .none rfl ?_)
    |refine ah ?_|refine ac rfl ?_|refine ai ?_|refine ae ?_|refine aj ?_|refine al ?_|refine aB rfl ?_
    |refine ak rfl (fun ht=>?_) (fun ht=>?_)|refine au ?_|refine ap ?_|refine bE.norm ?_|refine bE.exit ?_
    |refine OnC.exit ?_|fail)
   all_goals first
    |exact absurd (q.symm.trans Hy) (by decide)
    |exact .norm ⟨_,_,bR KH,bK q,rfl,k⟩
theorem f91c{g:FuncId}{caps:List V}{l:List Ex}(hl:l.length<9223372036854775807){h h':H}{b:Bool}(np:1<h.next)(hk:Nat.blt h.next bP=true)(k:Rk (fun y h b h'=>CX g caps (.agg (exO y)) h (!b) h') l h b h'):
  Con Tryz.prog TP noM 91 [.lst l.length 11 (exL l),.func (.func g) [] caps] h (.bool (!b)) h':=by
 have gr:=k.gr (fun y h b h' c=>⟨c.le,c.lt⟩) hk
 obtain⟨n,e,c⟩:=f123c hl np hk k
 refine eI Tryz.func91 (by decide) cf91_ok rfl rfl np gr.le ?_
 repeat' (first
  |(refine WLg.mk ?_;first
  |refine aa rfl rfl rfl rfl ?_|refine am rfl rfl rfl (c) (fun _ _ q=>q) .none rfl ?_)
  |refine ah ?_|refine ac rfl ?_|refine ai ?_|refine ae ?_|refine ap ?_|refine bE.norm ?_|fail)
 exact⟨.inr rfl,_,rfl,by rw [←e];rfl,rfl⟩
theorem f110c{g:FuncId}{caps:List V}{l:List Sm}(hl:l.length<9223372036854775807){h h':H}{b:Bool}(np:1<h.next)(hk:Nat.blt h.next bP=true)(k:Rk (fun y h b h'=>CX g caps (.agg (smO y)) h (!b) h') l h b h'):
  ∃n,(!ltI n 0)= !b∧Con Tryz.prog TP noM 110 [.lst l.length 23 (smL l),.func (.func g) [] caps] h (.int .i64 n) h':=by
 have gr:=k.gr (fun y h b h' c=>⟨c.le,c.lt⟩) hk
 refine yB (R:=fun n=>(!ltI n 0)= !b) Tryz.func110 (by decide) cf110_ok rfl rfl np gr.le ?_
 repeat' (first
  |(refine WLg.mk ?_;first
  |refine aa rfl rfl rfl rfl ?_)
  |refine ah ?_|refine ac rfl ?_|refine ai ?_|refine ae ?_|refine aj ?_|refine bE.norm ?_|fail)
 refine av (bR (l:=fr110c g caps l 0) KH) ?_
 refine aw l.length (fun i x h1=>x=fr110c g caps l i∧Rk (fun y h b h'=>CX g caps (.agg (smO y)) h (!b) h') (l.drop i) h1 b h') ?_ (i:=0) (Nat.zero_le _) ⟨rfl,k⟩
 rintro i _ h1 hi ⟨rfl,k⟩
 have hi2:i<9223372036854775807:=by omega
 cases q:Nat.blt i l.length with
 |false=>
  rw [iD hi q]at k
  cases k
  repeat' (first
   |(refine WLg.mk ?_;first
   |refine aa rfl rfl rfl rfl ?_|refine aa rfl rfl (bM Hy) rfl ?_|refine ab rfl rfl (gU Hy) rfl ?_)
   |refine ah ?_|refine ac rfl ?_|refine ai ?_|refine ae ?_|refine aj ?_|refine al ?_
   |refine ak rfl (fun ht=>?_) (fun ht=>?_)|refine au ?_|refine ap ?_|refine bE.norm ?_|refine bE.exit ?_
   |refine OnC.exit ?_|fail)
  all_goals first
   |exact absurd (q.symm.trans Hy) (by decide)
   |exact⟨.inr rfl,_,rfl,⟨_,rfl,rfl⟩,rfl⟩
 |true=>
  rw [jG (d:=smZ) q]at k
  cases k with
  |stop c=>
   have c:=c.con
   repeat' (first
    |(refine WLg.mk ?_;first
    |refine aa rfl rfl rfl rfl ?_|refine aa rfl rfl (bM Hy) rfl ?_|refine ab rfl rfl (gU Hy) rfl ?_
    |refine am rfl rfl rfl (c) (fun _ _ q=>q) .none rfl ?_)
    |refine ah ?_|refine ac rfl ?_|refine ai ?_|refine ae ?_|refine aj ?_|refine al ?_|refine aC rfl ?_
    |refine ak rfl (fun ht=>?_) (fun ht=>?_)|refine au ?_|refine ap ?_|refine bE.norm ?_|refine bE.ret ?_
    |refine bE.exit ?_|refine OnC.ret ?_|refine OnC.exit ?_|fail)
   all_goals first
    |exact absurd (q.symm.trans Hy) (by decide)
    |exact⟨.inr rfl,_,rfl,⟨_,rfl,rfl⟩,rfl⟩
  |go c k=>
   have c:=c.con
   repeat' (first
    |(refine WLg.mk ?_;first
    |refine aa rfl rfl rfl rfl ?_|refine aa rfl rfl (bM Hy) rfl ?_|refine ab rfl rfl (gU Hy) rfl ?_
    |refine am rfl rfl rfl (c) (fun _ _ q=>q) .none rfl ?_)
    |refine ah ?_|refine ac rfl ?_|refine ai ?_|refine ae ?_|refine aj ?_|refine al ?_|refine aB rfl ?_
    |refine ak rfl (fun ht=>?_) (fun ht=>?_)|refine au ?_|refine ap ?_|refine bE.norm ?_|refine bE.exit ?_
    |refine OnC.exit ?_|fail)
   all_goals first
    |exact absurd (q.symm.trans Hy) (by decide)
    |exact .norm ⟨_,_,bR KH,bK q,rfl,k⟩
theorem f77c{g:FuncId}{caps:List V}{l:List Sm}(hl:l.length<9223372036854775807){h h':H}{b:Bool}(np:1<h.next)(hk:Nat.blt h.next bP=true)(k:Rk (fun y h b h'=>CX g caps (.agg (smO y)) h (!b) h') l h b h'):
  Con Tryz.prog TP noM 77 [.lst l.length 23 (smL l),.func (.func g) [] caps] h (.bool (!b)) h':=by
 have gr:=k.gr (fun y h b h' c=>⟨c.le,c.lt⟩) hk
 obtain⟨n,e,c⟩:=f110c hl np hk k
 refine eI Tryz.func77 (by decide) cf77_ok rfl rfl np gr.le ?_
 repeat' (first
  |(refine WLg.mk ?_;first
  |refine aa rfl rfl rfl rfl ?_|refine am rfl rfl rfl (c) (fun _ _ q=>q) .none rfl ?_)
  |refine ah ?_|refine ac rfl ?_|refine ai ?_|refine ae ?_|refine ap ?_|refine bE.norm ?_|fail)
 exact⟨.inr rfl,_,rfl,by rw [←e];rfl,rfl⟩
end
end Ev
end Go.Proofs.YtdfphfdnoobikaaGreatDoor
