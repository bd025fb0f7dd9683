/-
  The seat's program:calls from ways through its code.
-/
import Derived.Test.YtdfphfdnoobikaaGreatDoorLtTab1
import Derived.Test.YtdfphfdnoobikaaGreatDoorEvWL
namespace Go.Proofs.YtdfphfdnoobikaaGreatDoor
namespace Ev
theorem Bt(P:Program)(pin:List (Nat×Nat×Nat×Tr V)):cL P ⟨P.info?,P.underlying,fun t=>!P.stoodInHeld t && !P.eqGuardType P.depth t,pin⟩:=⟨fun _ _ h=>h,fun _ _ h=>h,fun t h=>by
 have h:(!P.stoodInHeld t && !P.eqGuardType P.depth t)=true:=h
 simpa using h⟩
theorem qL:cL Tryz.prog TP:=Bt Tryz.prog _
theorem mixed:Tryz.prog.follows .mixedOrders=true:=by kernel_rfl
noncomputable section
def lp0:List (Option Blk):=[some (.ro 256 (cH tbl 0 .e))]
def H0:H:=⟨trO lp0 0 .e,1⟩
def Kp:Nat→Prop:=fun id=>id=0
end
theorem eM:tbl.all flat=true:=by kernel_rfl
theorem iB:TP.pin=[(0,0,256,dN)]:=rfl
theorem fX:tbl.length=256:=by rw [←@bS noE];kernel_rfl
theorem ef{l:List V}(h:l.all flat=true)(hl:l.length≤bR){j:Nat}{v:V}(e':(cH l 0 .e).get j=some v):flat v=true:=by
 rw [@df noE l 0 .e j (by omega)]at e'
 split at e'
 ·exact List.all_eq_true.1 h v (List.mem_of_getElem? e')
 ·cases e'
theorem BW{T:Ty}{n:Nat}{tr:Tr V}(hp:T.pin=[(0,0,n,tr)])(hf:∀j v,tr.get j=some v→flat v=true):Bo T [some (.ro n tr)]:=by
 refine⟨by show 1≤bR;unfold bR;omega,fun i b e=>?_,fun p h=>?_⟩
 ·cases i with
  |succ i=>cases e
  |zero=>
   cases e
   exact⟨(0,0,n,tr),by rw [hp];exact List.mem_singleton.2 rfl,rfl,rfl,fun j v e=>.flat (hf j v e)⟩
 ·rw [hp]at h
  rw [List.mem_singleton.1 h]
  rfl
theorem j6:Bo TP lp0:=BW iB fun j v e=>ef eM (by rw [fX];unfold bR;omega) e
theorem pn:Pn TP Kp:=fun _ h=>⟨(0,0,256,dN),by rw [iB];exact List.mem_singleton.2 rfl,h.symm⟩
mutual
def szV:V→Nat
 |.str n _=>n+1
 |.lst _ _ cs=>1+bF cs
 |.eptr cs _=>1+bF cs
 |.agg cs=>bF cs
 |_=>1
def bF:List V→Nat
 |[]=>0
 |v ::l=>szV v+bF l
end
theorem ce:∀a b:List V,bF (a++b)=bF a+bF b
 |[],b=>by rw [List.nil_append,bF,Nat.zero_add]
 |v ::a,b=>by rw [List.cons_append,bF,ce a b,bF,Nat.add_assoc]
theorem dR(x:Ex):bF (exO x)=1+(1+((x.name.size+1)+((x.text.size+1)+((1+bF (exL x.items))+((1+bF (sgL x.segs))+((1+bF (clL x.clauses))+((1+bF (clL x.catches))+((1+bF (smL x.body))+((1+bF (smL x.after))+1))))))))):=rfl
theorem fJ(c:Cl):bF (clO c)=(c.name.size+1)+((1+bF (exL c.pats))+((1+bF (gdL c.guards))+(1+bF (smL c.body)))):=rfl
theorem nS(s:Sm):bF (smO s)=1+(bF (exO s.pat)+bF (exO s.val)):=by
 show szV (.bool s.isMatch)+bF (exO s.pat++exO s.val)=_
 rw [ce]
 rfl
theorem kE(s:Sg):bF (sgO s)=1+((s.text.size+1)+(bF (exO s.val)+(bF (exO s.size)+3))):=by
 unfold sgO
 rw [bF,bF,ce,ce]
 simp [bF,szV,sV]
theorem FM{E1 E2:En}{g1 g2:G}{v:V}{u:Value}(hf:flat v=true)(h:@VR E1 g1 v u):@VR E2 g2 v u:=by
 cases v with
 |bool b=>cases h;exact @VR.bool E2 g2 b
 |int k n=>cases h;exact @VR.int E2 g2 k n
 |str n c=>cases h;exact @VR.str E2 g2 _
 |nilp=>cases h;exact @VR.nilp E2 g2
 |nils=>cases h;exact @VR.nils E2 g2
 |nilm=>cases h;exact @VR.nilm E2 g2
 |nilf=>cases h;exact @VR.nilf E2 g2
 |nili=>cases h;exact @VR.nili E2 g2
 |_=>cases hf
section
variable {U U':Nat→Prop} {ρ:Nat→Nat} {Z:Nat→Option (List V)} (hU:∀i,U i→U' i)
include hU
mutual
theorem Rn.used:∀{v' v:V},Rn U ρ Z v' v→Rn U' ρ Z v' v
 |_,_,.pure h=>.pure h
 |_,_,.ptr h=>.ptr (hU _ h)
 |_,_,.sl h=>.sl (hU _ h)
 |_,_,.map h=>.map (hU _ h)
 |_,_,.func a b=>.func (RnL.used a) (RnL.used b)
 |_,_,.agg a=>.agg (RnL.used a)
 |_,_,.tup a=>.tup (RnL.used a)
 |_,_,.lst a=>.lst (RnL.used a)
 |_,_,.eptr a=>.eptr (RnL.used a)
 |_,_,.fz k a=>.fz k (RnL.used a)
 |_,_,.fzs k l a=>.fzs k l (RnL.used a)
 |_,_,.nil0 k=>.nil0 k
theorem RnL.used:∀{v' v:List V},RnL U ρ Z v' v→RnL U' ρ Z v' v
 |_,_,.nil=>by
  have _a:=@hU
  exact .nil
 |_,_,.cons h t=>.cons (Rn.used h) (RnL.used t)
end
end
theorem RnL.each{U:Nat→Prop}{ρ:Nat→Nat}{Z:Nat→Option (List V)}{E E':En}{g g':G}(tr:∀v' v u,Rn U ρ Z v' v→@VR E g v u→@VR E' g' v' u):∀{a b:List V},RnL U ρ Z a b→∀{us:List Value},@VRs E g b us→@VRs E' g' a us
 |_,_,.nil,_,k=>by cases k;exact @VRs.nil E' g'
 |_,_,.cons h t,_,k=>by cases k with|cons p q=>exact @VRs.cons E' g' _ _ _ _ (tr _ _ _ h p) (RnL.each tr t q)
theorem DA{T:Ty}{n:Nat}{tr:Tr V}(hp:T.pin=[(0,0,n,tr)]){E:En}{g:G}{h:H}{w:World}(s:Sit T E g h w):(∃z,g 0=some (0,0,z))∧h.blk 0=some (.ro n tr):=
 s.pin (0,0,n,tr) (by rw [hp];exact List.mem_singleton.2 rfl)
theorem Sit.pin0{E:En}{g:G}{h:H}{w:World}(s:Sit TP E g h w):(∃z,g 0=some (0,0,z))∧h.blk 0=some (.ro 256 dN):=DA iB s
theorem cm.callZ{f:FuncId}{vs VS:List V}{v:V}(c:cm Tryz.prog TP f vs v)(hv:flat v=true){h:H}{Z:Nat→Option (List V)}(hr:RnL (fun i=>i=0) (fun i=>i) Z vs VS)
  (hz:∀k cs,Z k=some cs→∃t up ch,h.blk k=some (.cells cs.length t up ch)∧∀j v,cs[j]? =some v→t.get j=some v) {E:En} {g:G} {w:World} {us:List Value} (s:Sit TP E g h w) (hu:@VRs E g VS us):@kT E Tryz.prog TP f us g h w v h:=by
 have u0:∀i,cN lp0 i→i=0:=fun i ⟨b,e⟩=>by
  cases i with
  |zero=>rfl
  |succ i=>cases e
 obtain⟨⟨zz,p1⟩,p2⟩:=s.pin0
 have hb:h.blk 0=some (.ro 256 dN):=p2
 have noUp:∀{a b d},Up h a b d→b=0→False:=fun{a b d} u=>by
  induction u with
  |one e k=>
   rintro rfl
   obtain⟨b',up,n1,n2,_⟩:=@WR.kids E TP g h w s.wr _ _ _ _ _ e k
   rw [hb]at n1
   cases n1
   cases n2
  |step _ _ _ ih=>exact ih
 have V:Vw TP h lp0 (fun i=>i) Z:=by
  refine⟨j6.len,fun i b' e=>?_,fun i j _ _ e=>e,fun i j d hi _=>?_,(fun k cs e _=>hz k cs e),fun k cs i e hi=>?_,fun q hq=>⟨rfl,j6.all q hq⟩⟩
  ·obtain rfl:=u0 i ⟨_,e⟩
   obtain rfl:Blk.ro 256 dN=b':=by cases e;rfl
   exact⟨_,hb,.ro fun j v e=>.flat (ef eM (by rw [fX];unfold bR;omega) e)⟩
  ·rw [u0 i hi]
   exact dC hb
  ·obtain rfl:=u0 i hi
   refine⟨fun q=>?_,fun d=>dC hb,fun d u=>noUp u rfl⟩
   obtain⟨t,up,ch,k1,_⟩:=hz k cs e
   rw [←q]at k1
   have k1:h.blk 0=_:=k1
   rw [hb]at k1
   cases k1
 obtain⟨E',g',hE,hn,_,s',hg,hno,tr⟩:=V.sit s
 have hu':@VRs E' g' vs us:=RnL.each tr (RnL.used (fun i h=>⟨_,by rw [h];rfl⟩) hr) hu
 obtain⟨fn,k1,k2,k3,k4⟩:=c.out E' g' (gP lp0) w us s' hu'
 refine⟨fn,k1,k2,k3,k4.mono ?_⟩
 rintro e w' ⟨E'',u,rfl,m1,m2,m3,m4,m5⟩
 have s2:Sit TP E g h w':=s.still E.le_refl (fun _ _ e=>.inl e) (fun b c e=>m4 b c (m2 b c (hE b c e))) m5
 exact⟨g,u,rfl,FM hv m1,@Ext.mk E TP g h w g h w' (@G.le_refl g) (Nat.le_refl _) s2.wr (fun _ _ e=>⟨e,rfl⟩) m5.size (fun b hb _=>m5.keep b hb) (fun id b o z h1 h2=>by rw [h2]at h1;cases h1) (fun _ b _ _ _ _ e1 e2=>⟨e2,m5.keep b (s.lt e1)⟩) m5.os m5.tape m5.output⟩
def F7(f:FuncId)(vs:List V)(v:V):Prop:=
 if f=19∨f=38∨f=39 then ∃x m r,vs=[x,.int .i64 m]∧v= .int .i64 r∧r≤m∧-1≤r∧(0≤r→(szV x:Int)≤1+1000*(m-r))
 else if f=51 then ∃k,v= .int .i64 k
 else True
def Bp(f:FuncId)(VS:List V)(h:H)(vs:List V)(v:V):Prop:=
 cm Tryz.prog TP f vs v∧flat v=true∧F7 f vs v∧∃Z,RnL (fun i=>i=0) (fun i=>i) Z vs VS∧∀k cs,Z k=some cs→∃t up ch,h.blk k=some (.cells cs.length t up ch)∧∀j v,cs[j]? =some v→t.get j=some v
open Classical in
noncomputable def eS:cA:=fun c VS h=>match c with
 |.fn f=>if e:∃v vs,Bp f VS h vs v then some (e.choose,h)else none
 |.yld _=>none
theorem jk(E:En):@d9 E Tryz.prog TP eS:=by
 refine @d9.mk E _ _ _ (fun f VS h v h' e g w us r hG hu=>?_) (fun id vs h v h' e=>by cases e)
 unfold eS at e
 by_cases q:∃v vs,Bp f VS h vs v
 ·have e:=(dif_pos q).symm.trans e
  obtain⟨vs,c,hv,_,Z,hr,hz⟩:=q.choose_spec
  obtain⟨rfl,rfl⟩:=Prod.mk.inj (Option.some.inj e)
  exact c.callZ hv hr hz ⟨r,hG⟩ hu
 ·have e:=(dif_neg q).symm.trans e
  cases e
theorem oZ{f:FuncId} {fn:Func} {cf:CF} (hfn:Tryz.prog.funcs[f]? =some fn) (hnm:fn.name≠ "runtime.NumGoroutine") (hcf:bG TP fn=some cf) {vs:List V} (hlen:vs.length=cf.params) (hvs:∀v,v∈vs→bN v) {R:V→Prop}
  (k:W Tryz.prog TP Kp eS 1 cf.code ⟨dB vs 0,[]⟩ H0 fun x f1 h1=>(x= .norm∨x= .ret)∧∃l,fQ f1 h1 cf.results=some l∧bN (cV l)∧R (cV l)):∃v,cm Tryz.prog TP f vs v∧R v:=by
 obtain⟨x,f1,h1,k1,hx,l,k2,k3,k4⟩:=k
 exact⟨_,(gD qL jk mixed hfn hnm hcf hlen k1 hx k2).conP j6 hvs k3,k4⟩
noncomputable def rb(f:FuncId)(vs:List V):Bool:=by
 classical exact if cm Tryz.prog TP f vs (.bool true)then true else false
abbrev cQ(f:FuncId)(vs:List V):Prop:=cm Tryz.prog TP f vs (.bool (rb f vs))
theorem F6{f:FuncId}{vs:List V}(h:∃v,cm Tryz.prog TP f vs v∧∃b,v= .bool b):cQ f vs:=by
 obtain⟨v,c,b,rfl⟩:=h
 unfold cQ rb
 by_cases q:cm Tryz.prog TP f vs (.bool true)
 ·rw [if_pos q]
  exact q
 ·rw [if_neg q]
  cases b with
  |true=>exact absurd c q
  |false=>exact c
theorem ltb{i n:Nat}(h:i<n):Nat.blt i n=true:=by simp [Nat.blt];omega
theorem F3{i n:Nat}(h:¬i<n):Nat.blt i n=false:=by
 rw [Bool.eq_false_iff]
 intro q
 exact h (Nat.le_of_ble_eq_true q)
theorem cj{n m:Nat}(h:Nat.blt n m=false):m≤n:=by
 rcases Nat.lt_or_ge n m with k|k
 ·rw [ltb k]at h;cases h
 ·exact k
theorem tq{cf:CF}{vs:List V}{loc:AL}(hn:lu vs 0=some loc){Q:X→AL→H→Prop}(k:WC Tryz.prog TP Kp eS 1 cf.code loc H0 Q){Q':X→F→H→Prop}(hq:∀x l h,Q x l h→Q' x ⟨l,[]⟩ h):W Tryz.prog TP Kp eS 1 cf.code ⟨dB vs 0,[]⟩ H0 Q':=by
 rw [ml hn]
 refine W.mono k.out fun x f h q=>?_
 have:=hq x f.loc h q.2
 rw [←F.loc_eq q.1]at this
 exact this
def D6(cf:CF)(R:V→Prop)(x:X)(loc:AL)(h:H):Prop:=(x= .norm∨x= .ret)∧∃l,fQ ⟨loc,[]⟩ h cf.results=some l∧bN (cV l)∧R (cV l)
def isB(v:V):Prop:=∃b,v= .bool b
theorem cy{f:FuncId} {fn:Func} {cf:CF} (hfn:Tryz.prog.funcs[f]? =some fn) (hnm:fn.name≠ "runtime.NumGoroutine") (hcf:bG TP fn=some cf) {vs:List V} (hlen:vs.length=cf.params) (hvs:∀v,v∈vs→bN v) {loc:AL} (hn:lu vs 0=some loc)
  (k:WC Tryz.prog TP Kp eS 1 cf.code loc H0 (D6 cf isB)):cQ f vs:=F6 (oZ hfn hnm hcf hlen hvs (tq hn k fun x l h q=>q))
theorem cJ{f:FuncId} {fn:Func} {cf:CF} (hfn:Tryz.prog.funcs[f]? =some fn) (hnm:fn.name≠ "runtime.NumGoroutine") (hcf:bG TP fn=some cf) {vs:List V} (hlen:vs.length=cf.params) (hvs:∀v,v∈vs→bN v) {R:V→Prop} {loc:AL} (hn:lu vs 0=some loc)
  (k:WC Tryz.prog TP Kp eS 1 cf.code loc H0 (D6 cf R)):∃v,cm Tryz.prog TP f vs v∧R v:=oZ hfn hnm hcf hlen hvs (tq hn k fun x l h q=>q)
noncomputable def ri(f:FuncId)(vs:List V):Int:=by
 classical exact if cm Tryz.prog TP f vs (.int .i64 0)then 0 else if h:∃k,cm Tryz.prog TP f vs (.int .i64 k)then h.choose else 0
abbrev vi(f:FuncId)(vs:List V):Prop:=cm Tryz.prog TP f vs (.int .i64 (ri f vs))
def isI(v:V):Prop:=∃k,v= .int .i64 k
theorem uP{f:FuncId}{vs:List V}(h:∃v,cm Tryz.prog TP f vs v∧isI v):vi f vs:=by
 obtain⟨v,c,b,rfl⟩:=h
 have h:∃b,cm Tryz.prog TP f vs (.int .i64 b):=⟨b,c⟩
 unfold vi ri
 by_cases q:cm Tryz.prog TP f vs (.int .i64 0)
 ·rw [if_pos q]
  exact q
 ·rw [if_neg q,dif_pos h]
  exact h.choose_spec
def jF:List (Nat×Nat)→List V
 |[]=>[]
 |p ::l=>.str p.1 p.2 ::jF l
def BB(l:List (Nat×Nat))(i:Nat):Nat×Nat:=(l[i]?).getD (0,0)
theorem CI{l:List (Nat×Nat)}{i:Nat}(h:Nat.blt i l.length=true):eT (jF l) (Nat.mul i 1) [.str (BB l i).1 (BB l i).2]:=by
 have key:∀(l:List (Nat×Nat)) (i:Nat),i<l.length→∃a b,jF l=a++([.str (BB l i).1 (BB l i).2]++b)∧a.length=i:=by
  intro l
  induction l with
  |nil=>intro i h;simp at h
  |cons p l ih=>
   intro i h
   cases i with
   |zero=>exact⟨[],jF l,rfl,rfl⟩
   |succ i=>
    obtain⟨a,b,e,k⟩:=ih i (by simpa using h)
    exact⟨.str p.1 p.2 ::a,b,by rw [jF,e];rfl,by rw [List.length_cons,k]⟩
 obtain⟨a,b,e,k⟩:=key l i (Nat.le_of_ble_eq_true h)
 exact .of e (k.trans (Nat.mul_one i).symm)
theorem pxL(l:List (Nat×Nat)):bN (.lst l.length 1 (jF l)):= .lst fun c hc=>by
 induction l with
 |nil=>cases hc
 |cons p l ih=>
  rw [jF,List.mem_cons]at hc
  rcases hc with rfl|hc
  ·exact .flat rfl
  ·exact ih hc
theorem lh{n c i:Nat}{k:IntKind}(h:Nat.blt i n=true):POp.run .ixstr [.str n c,.int k (Int.ofNat i)]=some (.int .u8 (Int.ofNat (Nat.mod (Nat.shiftRight c (Nat.mul 8 i)) 256))):=by
 show ob (idx (Int.ofNat i) n) (fun m=>some (V.int .u8 (Int.ofNat (Nat.mod (Nat.shiftRight c (Nat.mul 8 m)) 256))))=_
 rw [Ax (Nat.le_of_ble_eq_true h)]
 rfl
theorem FW{n:Nat}(h:Nat.blt n 1=false):Nat.blt 0 n=true:=ltb (cj h)
theorem zL{n c:Nat}(h:Nat.blt n 1=false):POp.run (.slc .str true false false) [.str n c,.int .i64 1]=some (.str (Nat.sub n 1) (Nat.mod (Nat.shiftRight c (Nat.mul 8 1)) (Nat.shiftLeft 1 (Nat.mul 8 (Nat.sub n 1))))):=by
 have h1:Nat.ble 1 n=true:=ltb (cj h)
 show ob (oif (Nat.ble 1 n) (some 1)) (fun l=>some (V.str (Nat.sub n l) (Nat.mod (Nat.shiftRight c (Nat.mul 8 l)) (Nat.shiftLeft 1 (Nat.mul 8 (Nat.sub n l))))))=_
 rw [h1]
 rfl
theorem Ct{n a m b:Nat}(h:Nat.blt (Nat.add n m) 1099511627776=true):POp.run (.bin .add) [.str n a,.str m b]=some (.str (Nat.add n m) (Nat.add a (Nat.shiftLeft b (Nat.mul 8 n)))):=by
 show oif (Nat.blt (Nat.add n m) 1099511627776) (some (V.str (Nat.add n m) (Nat.add a (Nat.shiftLeft b (Nat.mul 8 n)))))=_
 rw [h]
 rfl
section
variable {P:Program} {T:Ty} {K:Nat→Prop} {call:cA} {n:Nat}
end
theorem bK{i n:Nat}(h:Nat.blt i n=true):i<n:=Nat.le_of_ble_eq_true h
theorem bM{es n i:Nat}{cs:List V}{k:IntKind}(h:Nat.blt i n=true):POp.run (.ixsl es) [.lst n es cs,.int k (Int.ofNat i)]=some (.eptr cs (Nat.mul i es)):=by
 show POp.run2 (.ixsl es) (.lst n es cs) (.int k (Int.ofNat i))=_
 exact DM (bK h)
noncomputable section
def ex0:Ex:= .mk 0 0 ⟨#[]⟩ ⟨#[]⟩ [] [] [] [] [] [] false
def bU(l:List Ex)(i:Nat):Ex:=(l[i]?).getD ex0
def cg(l:List Sg)(i:Nat):Sg:=(l[i]?).getD (.mk 0 ⟨#[]⟩ ex0 ex0 false false false)
def bL(l:List Cl)(i:Nat):Cl:=(l[i]?).getD (.mk ⟨#[]⟩ [] [] [])
def cB(l:List Sm)(i:Nat):Sm:=(l[i]?).getD (.mk false ex0 ex0)
def dh(l:List (List Ex))(i:Nat):List Ex:=(l[i]?).getD []
end
theorem cU{α:Type}{l:List α}{i:Nat}{d:α}(h:Nat.blt i l.length=true):l[i]? =some ((l[i]?).getD d):=by
 rw [List.getElem?_eq_getElem (bK h)]
 rfl
theorem nN{α:Type}{l:List α}{i:Nat}{d:α}(h:Nat.blt i l.length=true):(l[i]?).getD d∈l:=List.mem_of_getElem? (cU (d:=d) h)
theorem CY{l:List Ex}{i:Nat}(h:Nat.blt i l.length=true):eT (exL l) (Nat.mul i 11) (exO (bU l i)):=FT (cU h)
theorem xj{l:List Sg}{i:Nat}(h:Nat.blt i l.length=true):eT (sgL l) (Nat.mul i 27) (sgO (cg l i)):=Ef (cU h)
theorem CZ{l:List Cl}{i:Nat}(h:Nat.blt i l.length=true):eT (clL l) (Nat.mul i 4) (clO (bL l i)):=FV (cU h)
theorem xg{l:List Sm}{i:Nat}(h:Nat.blt i l.length=true):eT (smL l) (Nat.mul i 23) (smO (cB l i)):=Ed (cU h)
theorem qc{l:List (List Ex)}{i:Nat}(h:Nat.blt i l.length=true):eT (gdL l) (Nat.mul i 1) [.lst (dh l i).length 11 (exL (dh l i))]:=FL (cU h)
theorem nH{α:Type}:∀(k:Nat),jg k ([]:List α)=[]
 |0=>rfl
 |_+1=>rfl
theorem rT{α:Type}:∀(k j:Nat) (l:List α),jg (k+j) l=jg j (jg k l)
 |0,j,l=>by rw [Nat.zero_add];rfl
 |k+1,j,[]=>by rw [nH,nH,nH]
 |k+1,j,_ ::l=>by
  rw [show k+1+j=(k+j)+1 by omega]
  exact rT k j l
theorem nQ{α:Type}:∀(n:Nat) {l x:List α},gz n l=some x→∃b,l=x++b∧x.length=n
 |0,l,x,h=>by cases h;exact⟨l,rfl,rfl⟩
 |n+1,[],x,h=>by cases h
 |n+1,y ::l,x,h=>by
  obtain⟨r,h1,h2⟩:=bC.1 (show ob (gz n l) (fun r=>some (y ::r))=some x from h)
  cases h2
  obtain⟨b,e,k⟩:=nQ n h1
  exact⟨b,by rw [e];rfl,by rw [List.length_cons,k]⟩
theorem eT.sub{cs a y b:List V}{off:Nat}(e:eT cs off (a++(y++b))):eT cs (off+a.length) y:=by
 refine⟨?_,fun j v hv=>?_⟩
 ·obtain⟨r,k1,_⟩:=nQ _ e.whole
  rw [rT,k1,List.append_assoc,List.append_assoc,nI,mX]
 ·rw [Nat.add_assoc]
  exact e.one _ _ (by rw [pL];exact nt hv)
theorem Dq{cs:List V}{off:Nat}{s:Sg}(e:eT cs off (sgO s)):eT cs (off+2) (exO s.val):=eT.sub (a:=[.int .i64 s.type,sV s.text]) e
theorem BJ{cs:List V}{off:Nat}{s:Sg}(e:eT cs off (sgO s)):eT cs (off+13) (exO s.size):=by
 have:eT cs (off+2) (exO s.val++(exO s.size++[.bool s.sized,.bool s.signed,.bool s.little])):=by
  have:=eT.sub (a:=[.int .i64 s.type,sV s.text]) (y:=exO s.val++(exO s.size++[.bool s.sized,.bool s.signed,.bool s.little])) (b:=[]) (by rw [List.append_nil];exact e)
  exact this
 exact eT.sub (a:=exO s.val) this
theorem Dm{cs:List V}{off:Nat}{s:Sm}(e:eT cs off (smO s)):eT cs (off+1) (exO s.pat):=eT.sub (a:=[.bool s.isMatch]) (b:=exO s.val) e
theorem Dl{cs:List V}{off:Nat}{s:Sm}(e:eT cs off (smO s)):eT cs (off+12) (exO s.val):=eT.sub (a:= .bool s.isMatch ::exO s.pat) (b:=[]) (by rw [List.append_nil];exact e)
theorem pr{a x b cs:List V}(e:cs=a++(x++b)):bF x≤bF cs:=by rw [e,ce,ce];omega
theorem uI{l:List Ex}{i:Nat}(h:Nat.blt i l.length=true):bF (exO (bU l i))≤bF (exL l):=by obtain⟨a,b,e,_⟩:=wi l i _ (cU (d:=ex0) h);exact pr e
theorem xi{l:List Sg}{i:Nat}(h:Nat.blt i l.length=true):bF (sgO (cg l i))≤bF (sgL l):=by obtain⟨a,b,e,_⟩:=vz l i _ (cU h);exact pr e
theorem ku{l:List Cl}{i:Nat}(h:Nat.blt i l.length=true):bF (clO (bL l i))≤bF (clL l):=by obtain⟨a,b,e,_⟩:=wJ l i _ (cU h);exact pr e
theorem zH{l:List Sm}{i:Nat}(h:Nat.blt i l.length=true):bF (smO (cB l i))≤bF (smL l):=by obtain⟨a,b,e,_⟩:=vx l i _ (cU h);exact pr e
theorem xH{l:List (List Ex)}{i:Nat}(h:Nat.blt i l.length=true):1+bF (exL (dh l i))≤bF (gdL l):=by
 obtain⟨a,b,e,_⟩:=vY l i _ (cU (d:=[]) h)
 have:bF [V.lst (dh l i).length 11 (exL (dh l i))]≤bF (gdL l):=pr (a:=a) (b:=b) e
 simpa [bF,szV]using this
theorem kK{α:Type}{f:α→List V}{g:List α→List V}(hn:g []=[])(hc:∀a l,g (a ::l)=f a++g l)(hf:∀a,1≤bF (f a)):∀l:List α,l.length≤bF (g l)
 |[]=>by simp
 |a ::l=>by
  rw [hc,ce,List.length_cons]
  have:=kK hn hc hf l
  have:=hf a
  omega
theorem dq(l:List Ex):l.length≤bF (exL l):=kK (f:=exO) (by rw [exL]) cM (fun x=>by rw [dR];omega) l
theorem iG(l:List Sg):l.length≤bF (sgL l):=kK (f:=sgO) (by rw [sgL]) iQ (fun x=>by rw [kE];omega) l
theorem eZ(l:List Cl):l.length≤bF (clL l):=kK (f:=clO) (by rw [clL]) ji (fun x=>by rw [fJ];omega) l
theorem gC(l:List Sm):l.length≤bF (smL l):=kK (f:=smO) (by rw [smL]) iP (fun x=>by rw [nS];omega) l
theorem j9(l:List (List Ex)):l.length≤bF (gdL l):=kK (f:=fun x=>[V.lst x.length 11 (exL x)]) (by rw [gdL]) (fun a l=>by first|(rw [gdL];done)|(rw [gdL];rfl)) (fun x=>by simp [bF,szV]) l
theorem BF{l:List Sm}{i:Nat}(h:Nat.blt i l.length=true):eT (smL l) (Nat.add (Nat.mul i 23) 1) (exO (cB l i).pat):=Dm (xg h)
theorem BE{l:List Sm}{i:Nat}(h:Nat.blt i l.length=true):eT (smL l) (Nat.add (Nat.mul i 23) 12) (exO (cB l i).val):=Dl (xg h)
theorem BI{l:List Sg}{i:Nat}(h:Nat.blt i l.length=true):eT (sgL l) (Nat.add (Nat.mul i 27) 2) (exO (cg l i).val):=Dq (xj h)
theorem zM{l:List Sg}{i:Nat}(h:Nat.blt i l.length=true):eT (sgL l) (Nat.add (Nat.mul i 27) 13) (exO (cg l i).size):=BJ (xj h)
theorem dt{l:List Ex}{i:Nat}{h:H}(hb:Nat.blt i l.length=true):ROp.run (.load true 11) [.eptr (exL l) (Nat.mul i 11)] h=some (.agg (exO (bU l i))):=fg (CY hb) h
theorem kL{l:List Sg}{i k n:Nat}{v:V}{h:H}(hb:Nat.blt i l.length=true)(hv:dV (sgO (cg l i)) k=some v):ROp.run (.load false n) [.eptr (sgL l) (Nat.add (Nat.mul i 27) k)] h=some v:=dO (xj hb) hv h
theorem fR{l:List Sg}{i:Nat}{h:H}(hb:Nat.blt i l.length=true):ROp.run (.load true 27) [.eptr (sgL l) (Nat.mul i 27)] h=some (.agg (sgO (cg l i))):=fg (xj hb) h
theorem eJ{l:List Cl}{i k n:Nat}{v:V}{h:H}(hb:Nat.blt i l.length=true)(hv:dV (clO (bL l i)) k=some v):ROp.run (.load false n) [.eptr (clL l) (Nat.add (Nat.mul i 4) k)] h=some v:=dO (CZ hb) hv h
theorem gJ{l:List Cl}{i:Nat}{h:H}(hb:Nat.blt i l.length=true):ROp.run (.load true 4) [.eptr (clL l) (Nat.mul i 4)] h=some (.agg (clO (bL l i))):=fg (CZ hb) h
theorem oc{l:List Sm}{i k n:Nat}{v:V}{h:H}(hb:Nat.blt i l.length=true)(hv:dV (smO (cB l i)) k=some v):ROp.run (.load false n) [.eptr (smL l) (Nat.add (Nat.mul i 23) k)] h=some v:=dO (xg hb) hv h
theorem gQ{l:List Sm}{i:Nat}{h:H}(hb:Nat.blt i l.length=true):ROp.run (.load true 23) [.eptr (smL l) (Nat.mul i 23)] h=some (.agg (smO (cB l i))):=fg (xg hb) h
theorem eu{l:List Sm}{i k:Nat}{h:H}(hb:Nat.blt i l.length=true)(hk:Nat.beq k 1=true):ROp.run (.load true 11) [.eptr (smL l) (Nat.add (Nat.mul i 23) k)] h=some (.agg (exO (cB l i).pat)):=by
 rw [Nat.eq_of_beq_eq_true hk]
 exact fg (BF hb) h
theorem et{l:List Sm}{i k:Nat}{h:H}(hb:Nat.blt i l.length=true)(hk:Nat.beq k 12=true):ROp.run (.load true 11) [.eptr (smL l) (Nat.add (Nat.mul i 23) k)] h=some (.agg (exO (cB l i).val)):=by
 rw [Nat.eq_of_beq_eq_true hk]
 exact fg (BE hb) h
theorem eO{l:List Sg}{i k:Nat}{h:H}(hb:Nat.blt i l.length=true)(hk:Nat.beq k 2=true):ROp.run (.load true 11) [.eptr (sgL l) (Nat.add (Nat.mul i 27) k)] h=some (.agg (exO (cg l i).val)):=by
 rw [Nat.eq_of_beq_eq_true hk]
 exact fg (BI hb) h
theorem d3{l:List Sg}{i k:Nat}{h:H}(hb:Nat.blt i l.length=true)(hk:Nat.beq k 13=true):ROp.run (.load true 11) [.eptr (sgL l) (Nat.add (Nat.mul i 27) k)] h=some (.agg (exO (cg l i).size)):=by
 rw [Nat.eq_of_beq_eq_true hk]
 exact fg (zM hb) h
theorem qY{T:Ty}{K:Nat→Prop}{f f':F}{h:H}(h1:∀t v,lk f'.loc t=some v→lk f.loc t=some v)(h2:∀t v,lk f'.tmp t=some v→lk f.tmp t=some v):fV T K f h f' h:=by
 intro m N E0 g0 w0 E g w tmps s fr
 refine⟨E,g,s,⟨fr.1,fun t v e=>fr.2 t v ?_⟩,fun id b o z e=>⟨id,o,z,e⟩⟩
 unfold rdn at e ⊢
 split at e
 ·rename_i hb;rw [if_pos hb];exact h1 t v e
 ·rename_i hb;rw [if_neg hb];exact h2 t v e
inductive qJ(f:AL):AL→Prop
 |nil:qJ f []
 |cons {t:Nat} {v:V} {l:AL} (e:lk f t=some v) (p:bN v) (k:qJ f l):qJ f ((t,v) ::l)
theorem sF{i n:Nat}(h:Nat.blt i n=true)(hn:n<9223372036854775808):some (V.int .i64 (cR .i64 (Int.add (Int.ofNat i) 1)))=some (V.int .i64 (Int.ofNat (i+1))):=by
 have:=iI (i:=i) (by have:=Nat.le_of_ble_eq_true h;omega)
 show some (V.int .i64 (cR .i64 (Int.add (Int.ofNat i) (Int.ofNat 1))))=_
 rw [this]
theorem qJ.mem{f:AL}:∀{l:AL},qJ f l→∀p,p∈l→lk f p.1=some p.2∧bN p.2
 |_,.nil,p,h=>by cases h
 |_,.cons e q k,p,h=>by
  rcases List.mem_cons.1 h with rfl|h
  ·exact⟨e,q⟩
  ·exact k.mem p h
theorem cC{f:F}{h:H}{l:AL}(k:qJ f.loc l)(hb:h.blk 0=some (.ro 256 dN)):fV TP Kp f h ⟨l,[]⟩ H0:=by
 have u0:∀i,cN lp0 i→i=0:=fun i ⟨b,e⟩=>by
  cases i with
  |zero=>rfl
  |succ i=>cases e
 have V:Vw TP h lp0 (fun i=>i) (fun _=>none):=by
  refine⟨j6.len,fun i b' e=>?_,fun i j _ _ e=>e,fun i j d hi _=>?_,(fun k cs e=>by cases e),(fun k cs i e=>by cases e),fun q hq=>⟨rfl,j6.all q hq⟩⟩
  ·obtain rfl:=u0 i ⟨_,e⟩
   obtain rfl:Blk.ro 256 dN=b':=by cases e;rfl
   exact⟨_,hb,.ro fun j v e=>.flat (ef eM (by rw [fX];unfold bR;omega) e)⟩
  ·rw [u0 i hi]
   exact dC hb
 exact V.view (fun id h=>by obtain rfl:id=0:=h;exact⟨⟨_,rfl⟩,rfl⟩) (.inl fun _=>rfl) ⟨fun p hp=>⟨p.2,(k.mem p hp).1,.pure (k.mem p hp).2⟩,fun p hp=>by cases hp⟩
inductive lF(k:Nat)(cs:List V)(f:AL):AL→Prop
 |nil:lF k cs f []
 |fz {t off:Nat} {l:AL} (e:lk f t=some (.ptr k off)) (r:lF k cs f l):lF k cs f ((t,.eptr cs off) ::l)
 |cons {t:Nat} {v:V} {l:AL} (e:lk f t=some v) (p:bN v) (r:lF k cs f l):lF k cs f ((t,v) ::l)
theorem lF.mem{U:Nat→Prop}{k:Nat}{cs:List V}{f:AL}(hp:∀c,c∈cs→bN c):∀{l:AL},lF k cs f l→∀p,p∈l→∃v,lk f p.1=some v∧Rn U (fun i=>i) (fun j=>if j=k then some cs else none) p.2 v
 |_,.nil,p,h=>by cases h
 |_,.fz e r,p,h=>by
  rcases List.mem_cons.1 h with rfl|h
  ·exact⟨_,e,.fz (by rw [if_pos rfl]) (RnL.pure hp)⟩
  ·exact lF.mem hp r p h
 |_,.cons e q r,p,h=>by
  rcases List.mem_cons.1 h with rfl|h
  ·exact⟨_,e,.pure q⟩
  ·exact lF.mem hp r p h
theorem D9{f:F}{h:H}{l:AL}{k n:Nat}{cs:List V}(kz:lF k cs f.loc l)(hz:h.blk k=some (.cells n (cH cs 0 .e) none false))(hn:Nat.beq (bX cs) n=true)(hk:Nat.ble n bR=true)(hp:∀c,c∈cs→bN c)(hb:h.blk 0=some (.ro 256 dN)):fV TP Kp f h ⟨l,[]⟩ H0:=by
 have hn':cs.length=n:=by rw [←@bS noE];exact Nat.eq_of_beq_eq_true hn
 have hk':=Nat.le_of_ble_eq_true hk
 have u0:∀i,cN lp0 i→i=0:=fun i ⟨b,e⟩=>by
  cases i with
  |zero=>rfl
  |succ i=>cases e
 have hk0:k≠0:=fun q=>by rw [q,hb]at hz;cases hz
 have noUpK:∀{b d},¬Up h k b d:=fun u=>by
  cases u with
  |one e' k'=>rw [hz]at e';cases e';cases k'
  |step e' k' _=>rw [hz]at e';cases e';cases k'
 have V:Vw TP h lp0 (fun i=>i) (fun j=>if j=k then some cs else none):=by
  refine⟨j6.len,fun i b' e=>?_,fun i j _ _ e=>e,fun i j d hi _=>?_,fun j cs' e _=>?_,fun j cs' i e hi=>?_,fun q hq=>⟨rfl,j6.all q hq⟩⟩
  ·obtain rfl:=u0 i ⟨_,e⟩
   obtain rfl:Blk.ro 256 dN=b':=by cases e;rfl
   exact⟨_,hb,.ro fun j v e=>.flat (ef eM (by rw [fX];unfold bR;omega) e)⟩
  ·rw [u0 i hi]
   exact dC hb
  ·by_cases q:j=k
   ·subst q
    rw [if_pos rfl]at e
    cases e
    refine⟨_,_,_,by rw [hn'];exact hz,fun i v hv=>?_⟩
    have:=(List.getElem?_eq_some_iff.1 hv).1
    rw [@df noE cs 0 .e i (by omega),if_pos (by omega),Nat.sub_zero]
    exact hv
   ·rw [if_neg q]at e;cases e
  ·obtain rfl:=u0 i hi
   by_cases q:j=k
   ·subst q
    exact⟨fun q=>hk0 q.symm,fun d=>dC hb,fun d=>noUpK⟩
   ·rw [if_neg q]at e;cases e
 exact V.view (fun id h=>by obtain rfl:id=0:=h;exact⟨⟨_,rfl⟩,rfl⟩) (.inr pn) ⟨fun p h=>kz.mem hp p h,fun p hp=>by cases hp⟩
theorem pxE(l:List Ex):bN (.lst l.length 11 (exL l)):= .lst fun c hc=>(ig l c hc).x
theorem pxS(l:List Sg):bN (.lst l.length 27 (sgL l)):= .lst fun c hc=>(py l c hc).x
theorem pxC(l:List Cl):bN (.lst l.length 4 (clL l)):= .lst fun c hc=>(mO l c hc).x
theorem pxM(l:List Sm):bN (.lst l.length 23 (smL l)):= .lst fun c hc=>(kD l c hc).x
theorem pxG(l:List (List Ex)):bN (.lst l.length 1 (gdL l)):= .lst fun c hc=>(qd l c hc).x
theorem pxe(x:Ex):bN (.agg (exO x)):= .agg fun c hc=>(cY x c hc).x
theorem pxc(x:Cl):bN (.agg (clO x)):= .agg fun c hc=>(ik x c hc).x
theorem pxm(x:Sm):bN (.agg (smO x)):= .agg fun c hc=>(kC x c hc).x
theorem pxq(x:Ex):bN (.eptr (exO x) 0):= .eptr fun c hc=>(cY x c hc).x
theorem FD(x:Cl):bN (.eptr (clO x) 0):= .eptr fun c hc=>(ik x c hc).x
theorem ix2{es n:Nat}{cs:List V}{k:IntKind}(h:(!eqI (Int.ofNat n) 2)=false):POp.run (.ixsl es) [.lst n es cs,.int k 0]=some (.eptr cs (Nat.mul 0 es)):=by
 have:n=2:=by
  cases q:Nat.beq n 2 with
  |true=>exact Nat.eq_of_beq_eq_true q
  |false=>
   have h:(!Nat.beq n 2)=false:=h
   rw [q]at h
   cases h
 subst this
 exact bM (i:=0) rfl
theorem DU{l:List Ex}(h:(!eqI (Int.ofNat l.length) 2)=false):eT (exL l) (Nat.mul 0 11) (exO (bU l 0)):=by
 refine CY ?_
 cases q:Nat.beq l.length 2 with
 |true=>rw [Nat.eq_of_beq_eq_true q];rfl
 |false=>
  have h:(!Nat.beq l.length 2)=false:=h
  rw [q]at h
  cases h
theorem bO{v:V}{l:List V}(h1:bN v)(h2:∀c,c∈l→bN c):∀c,c∈v ::l→bN c:=fun c hc=>by
 rcases List.mem_cons.1 hc with rfl|h
 ·exact h1
 ·exact h2 c h
theorem px0:∀c,c∈([]:List V)→bN c:=fun c h=>by cases h
theorem Hy{p:Prop}(h:p:=by assumption):p:=h
theorem RA{p:Prop}(h:p:=by first|rfl|assumption):p:=h
theorem PX{v:V}(h:bN v:=by first|exact .flat rfl|exact pxE _|exact pxS _|exact pxC _|exact pxM _|exact pxG _|exact pxL _|exact pxe _|exact pxq _|exact pxqs _|exact FD _|exact pxqm _|exact pxs _|exact pxc _|exact pxm _|assumption):bN v:=h
theorem PB{cs:List V}(h:∀c,c∈cs→bN c:=by first|exact fun c hc=>(cY _ c hc).x|exact fun c hc=>(fO _ c hc).x|exact fun c hc=>(ik _ c hc).x|exact fun c hc=>(kC _ c hc).x|repeat' (first|exact px0|refine bO ?_ ?_|exact PX)):∀c,c∈cs→bN c:=h
theorem KT{f l:AL}(h:qJ f l:=by repeat' (first|exact .nil|refine .cons rfl ?_ ?_|refine .cons (sF (by assumption) (by assumption)) ?_ ?_|exact PX)):qJ f l:=h
end Ev
end Go.Proofs.YtdfphfdnoobikaaGreatDoor
