/-
  The seat's program:calls from ways through its code.
-/
import Derived.Test.YtdfphfdnoobikaaGreatDoorLtTab1
import Derived.Test.YtdfphfdnoobikaaGreatDoorEvWL
namespace Go.Proofs.YtdfphfdnoobikaaGreatDoor
namespace Ev
theorem Cd(P:Program)(pin:List (Nat×Nat×Nat×Tr V)):cM P ⟨P.info?,P.underlying,fun t=>!P.stoodInHeld t && !P.eqGuardType P.depth t,pin⟩:=⟨fun _ _ h=>h,fun _ _ h=>h,fun t h=>by
 have h:(!P.stoodInHeld t && !P.eqGuardType P.depth t)=true:=h
 simpa using h⟩
theorem rm:cM Tryz.prog TP:=Cd Tryz.prog _
theorem mixed:Tryz.prog.follows .mixedOrders=true:=by kernel_rfl
noncomputable section
def lp0:List (Option Blk):=[some (.ro 256 (cE tbl 0 .e))]
def H0:H:=⟨trO lp0 0 .e,1⟩
def Kp:Nat→Prop:=fun id=>id=0
end
theorem eD:tbl.all flat=true:=by kernel_rfl
theorem ig:TP.pin=[(0,0,256,dS)]:=rfl
theorem fU:tbl.length=256:=by rw [←@bS noE];kernel_rfl
theorem dW{l:List V}(h:l.all flat=true)(hl:l.length≤bP){j:Nat}{v:V}(e':(cE l 0 .e).get j=some v):flat v=true:=by
 rw [@cW noE l 0 .e j (by omega)]at e'
 split at e'
 ·exact List.all_eq_true.1 h v (List.mem_of_getElem? e')
 ·cases e'
theorem CJ{T:Ty}{n:Nat}{tr:Tr V}(hp:T.pin=[(0,0,n,tr)])(hf:∀j v,tr.get j=some v→flat v=true):B8 T [some (.ro n tr)]:=by
 refine⟨by show 1≤bP;unfold bP;omega,fun i b e=>?_,fun p h=>?_⟩
 ·cases i with
  |succ i=>cases e
  |zero=>
   cases e
   exact⟨(0,0,n,tr),by rw [hp];exact List.mem_singleton.2 rfl,rfl,rfl,fun j v e=>.flat (hf j v e)⟩
 ·rw [hp]at h
  rw [List.mem_singleton.1 h]
  rfl
theorem jW:B8 TP lp0:=CJ ig fun j v e=>dW eD (by rw [fU];unfold bP;omega) e
theorem pn:Pn TP Kp:=fun _ h=>⟨(0,0,256,dS),by rw [ig];exact List.mem_singleton.2 rfl,h.symm⟩
mutual
def szV:V→Nat
 |.str n _=>n+1
 |.lst _ _ cs=>1+bF cs
 |.eptr cs _=>1+bF cs
 |.agg cs=>bF cs
 |_=>1
def bF:List V→Nat
 |[]=>0
 |v ::l=>szV v+bF l
end
theorem bY:∀a b:List V,bF (a++b)=bF a+bF b
 |[],b=>by rw [List.nil_append,bF,Nat.zero_add]
 |v ::a,b=>by rw [List.cons_append,bF,bY a b,bF,Nat.add_assoc]
theorem dL(x:Ex):bF (exO x)=1+(1+((x.name.size+1)+((x.text.size+1)+((1+bF (exL x.items))+((1+bF (sgL x.segs))+((1+bF (clL x.clauses))+((1+bF (clL x.catches))+((1+bF (smL x.body))+((1+bF (smL x.after))+1))))))))):=rfl
theorem ff(c:Cl):bF (clO c)=(c.name.size+1)+((1+bF (exL c.pats))+((1+bF (gdL c.guards))+(1+bF (smL c.body)))):=rfl
theorem lU(s:Sm):bF (smO s)=1+(bF (exO s.pat)+bF (exO s.val)):=by
 show szV (.bool s.isMatch)+bF (exO s.pat++exO s.val)=_
 rw [bY]
 rfl
theorem kJ(s:Sg):bF (sgO s)=1+((s.text.size+1)+(bF (exO s.val)+(bF (exO s.size)+3))):=by
 unfold sgO
 rw [bF,bF,bY,bY]
 simp [bF,szV,sV]
theorem GX{E1 E2:En}{g1 g2:G}{v:V}{u:Value}(hf:flat v=true)(h:@VR E1 g1 v u):@VR E2 g2 v u:=by
 cases v with
 |bool b=>cases h;exact @VR.bool E2 g2 b
 |int k n=>cases h;exact @VR.int E2 g2 k n
 |str n c=>cases h;exact @VR.str E2 g2 _
 |nilp=>cases h;exact @VR.nilp E2 g2
 |nils=>cases h;exact @VR.nils E2 g2
 |nilm=>cases h;exact @VR.nilm E2 g2
 |nilf=>cases h;exact @VR.nilf E2 g2
 |nili=>cases h;exact @VR.nili E2 g2
 |_=>cases hf
section
variable {U U':Nat→Prop} {ρ:Nat→Nat} {Z:Nat→Option (List V)} (hU:∀i,U i→U' i)
include hU
mutual
theorem Rn.used:∀{v' v:V},Rn U ρ Z v' v→Rn U' ρ Z v' v
 |_,_,.pure h=>.pure h
 |_,_,.ptr h=>.ptr (hU _ h)
 |_,_,.sl h=>.sl (hU _ h)
 |_,_,.map h=>.map (hU _ h)
 |_,_,.func a b=>.func (RnL.used a) (RnL.used b)
 |_,_,.agg a=>.agg (RnL.used a)
 |_,_,.tup a=>.tup (RnL.used a)
 |_,_,.lst a=>.lst (RnL.used a)
 |_,_,.eptr a=>.eptr (RnL.used a)
 |_,_,.fz k a=>.fz k (RnL.used a)
 |_,_,.fzs k l a=>.fzs k l (RnL.used a)
 |_,_,.nil0 k=>.nil0 k
theorem RnL.used:∀{v' v:List V},RnL U ρ Z v' v→RnL U' ρ Z v' v
 |_,_,.nil=>by
  have _a:=@hU
  exact .nil
 |_,_,.cons h t=>.cons (Rn.used h) (RnL.used t)
end
end
theorem RnL.each{U:Nat→Prop}{ρ:Nat→Nat}{Z:Nat→Option (List V)}{E E':En}{g g':G}(tr:∀v' v u,Rn U ρ Z v' v→@VR E g v u→@VR E' g' v' u):∀{a b:List V},RnL U ρ Z a b→∀{us:List Value},@VRs E g b us→@VRs E' g' a us
 |_,_,.nil,_,k=>by cases k;exact @VRs.nil E' g'
 |_,_,.cons h t,_,k=>by cases k with|cons p q=>exact @VRs.cons E' g' _ _ _ _ (tr _ _ _ h p) (RnL.each tr t q)
theorem ED{T:Ty}{n:Nat}{tr:Tr V}(hp:T.pin=[(0,0,n,tr)]){E:En}{g:G}{h:H}{w:World}(s:Sit T E g h w):(∃z,g 0=some (0,0,z))∧h.blk 0=some (.ro n tr):=
 s.pin (0,0,n,tr) (by rw [hp];exact List.mem_singleton.2 rfl)
theorem Sit.pin0{E:En}{g:G}{h:H}{w:World}(s:Sit TP E g h w):(∃z,g 0=some (0,0,z))∧h.blk 0=some (.ro 256 dS):=ED ig s
theorem ck.callZ{f:FuncId}{vs VS:List V}{v:V}(c:ck Tryz.prog TP f vs v)(hv:flat v=true){h:H}{Z:Nat→Option (List V)}(hr:RnL (fun i=>i=0) (fun i=>i) Z vs VS)
  (hz:∀k cs,Z k=some cs→∃t up ch,h.blk k=some (.cells cs.length t up ch)∧∀j v,cs[j]? =some v→t.get j=some v) {E:En} {g:G} {w:World} {us:List Value} (s:Sit TP E g h w) (hu:@VRs E g VS us):@lB E Tryz.prog TP f us g h w v h:=by
 have u0:∀i,cI lp0 i→i=0:=fun i ⟨b,e⟩=>by
  cases i with
  |zero=>rfl
  |succ i=>cases e
 obtain⟨⟨zz,p1⟩,p2⟩:=s.pin0
 have hb:h.blk 0=some (.ro 256 dS):=p2
 have noUp:∀{a b d},Up h a b d→b=0→False:=fun{a b d} u=>by
  induction u with
  |one e k=>
   rintro rfl
   obtain⟨b',up,n1,n2,_⟩:=@WR.kids E TP g h w s.wr _ _ _ _ _ e k
   rw [hb]at n1
   cases n1
   cases n2
  |step _ _ _ ih=>exact ih
 have V:Vw TP h lp0 (fun i=>i) Z:=by
  refine⟨jW.len,fun i b' e=>?_,fun i j _ _ e=>e,fun i j d hi _=>?_,(fun k cs e _=>hz k cs e),fun k cs i e hi=>?_,fun q hq=>⟨rfl,jW.all q hq⟩⟩
  ·obtain rfl:=u0 i ⟨_,e⟩
   obtain rfl:Blk.ro 256 dS=b':=by cases e;rfl
   exact⟨_,hb,.ro fun j v e=>.flat (dW eD (by rw [fU];unfold bP;omega) e)⟩
  ·rw [u0 i hi]
   exact dF hb
  ·obtain rfl:=u0 i hi
   refine⟨fun q=>?_,fun d=>dF hb,fun d u=>noUp u rfl⟩
   obtain⟨t,up,ch,k1,_⟩:=hz k cs e
   rw [←q]at k1
   have k1:h.blk 0=_:=k1
   rw [hb]at k1
   cases k1
 obtain⟨E',g',hE,hn,_,s',hg,hno,tr⟩:=V.sit s
 have hu':@VRs E' g' vs us:=RnL.each tr (RnL.used (fun i h=>⟨_,by rw [h];rfl⟩) hr) hu
 obtain⟨fn,k1,k2,k3,k4⟩:=c.out E' g' (g7 lp0) w us s' hu'
 refine⟨fn,k1,k2,k3,k4.mono ?_⟩
 rintro e w' ⟨E'',u,rfl,m1,m2,m3,m4,m5⟩
 have s2:Sit TP E g h w':=s.still E.le_refl (fun _ _ e=>.inl e) (fun b c e=>m4 b c (m2 b c (hE b c e))) m5
 exact⟨g,u,rfl,GX hv m1,@Ext.mk E TP g h w g h w' (@G.le_refl g) (Nat.le_refl _) s2.wr (fun _ _ e=>⟨e,rfl⟩) m5.size (fun b hb _=>m5.keep b hb) (fun id b o z h1 h2=>by rw [h2]at h1;cases h1) (fun _ b _ _ _ _ e1 e2=>⟨e2,m5.keep b (s.lt e1)⟩) m5.os m5.tape m5.output⟩
def Hi(f:FuncId)(vs:List V)(v:V):Prop:=
 if f=19∨f=38∨f=39 then ∃x m r,vs=[x,.int .i64 m]∧v= .int .i64 r∧r≤m∧-1≤r∧(0≤r→(szV x:Int)≤1+1000*(m-r))
 else if f=51 then ∃k,v= .int .i64 k
 else True
def B9(f:FuncId)(VS:List V)(h:H)(vs:List V)(v:V):Prop:=
 ck Tryz.prog TP f vs v∧flat v=true∧Hi f vs v∧∃Z,RnL (fun i=>i=0) (fun i=>i) Z vs VS∧∀k cs,Z k=some cs→∃t up ch,h.blk k=some (.cells cs.length t up ch)∧∀j v,cs[j]? =some v→t.get j=some v
open Classical in
noncomputable def eK:cB:=fun c VS h=>match c with
 |.fn f=>if e:∃v vs,B9 f VS h vs v then some (e.choose,h)else none
 |.yld _=>none
theorem jt(E:En):@eu E Tryz.prog TP eK:=by
 refine @eu.mk E _ _ _ (fun f VS h v h' e g w us r hG hu=>?_) (fun id vs h v h' e=>by cases e)
 unfold eK at e
 by_cases q:∃v vs,B9 f VS h vs v
 ·have e:=(dif_pos q).symm.trans e
  obtain⟨vs,c,hv,_,Z,hr,hz⟩:=q.choose_spec
  obtain⟨rfl,rfl⟩:=Prod.mk.inj (Option.some.inj e)
  exact c.callZ hv hr hz ⟨r,hG⟩ hu
 ·have e:=(dif_neg q).symm.trans e
  cases e
theorem pK{f:FuncId} {fn:Func} {cf:CF} (hfn:Tryz.prog.funcs[f]? =some fn) (hnm:fn.name≠ "runtime.NumGoroutine") (hcf:bG TP fn=some cf) {vs:List V} (hlen:vs.length=cf.params) (hvs:∀v,v∈vs→bN v) {R:V→Prop}
  (k:W Tryz.prog TP Kp eK 1 cf.code ⟨dE vs 0,[]⟩ H0 fun x f1 h1=>(x= .norm∨x= .ret)∧∃l,gj f1 h1 cf.results=some l∧bN (cX l)∧R (cX l)):∃v,ck Tryz.prog TP f vs v∧R v:=by
 obtain⟨x,f1,h1,k1,hx,l,k2,k3,k4⟩:=k
 exact⟨_,(gN rm jt mixed hfn hnm hcf hlen k1 hx k2).conP jW hvs k3,k4⟩
noncomputable def rb(f:FuncId)(vs:List V):Bool:=by
 classical exact if ck Tryz.prog TP f vs (.bool true)then true else false
abbrev cS(f:FuncId)(vs:List V):Prop:=ck Tryz.prog TP f vs (.bool (rb f vs))
theorem Hh{f:FuncId}{vs:List V}(h:∃v,ck Tryz.prog TP f vs v∧∃b,v= .bool b):cS f vs:=by
 obtain⟨v,c,b,rfl⟩:=h
 unfold cS rb
 by_cases q:ck Tryz.prog TP f vs (.bool true)
 ·rw [if_pos q]
  exact q
 ·rw [if_neg q]
  cases b with
  |true=>exact absurd c q
  |false=>exact c
theorem CI{f:FuncId}{vs:List V}(h:ck Tryz.prog TP f vs (.bool true)):rb f vs=true:=if_pos h
theorem ltb{i n:Nat}(h:i<n):Nat.blt i n=true:=by simp [Nat.blt];omega
theorem He{i n:Nat}(h:¬i<n):Nat.blt i n=false:=by
 rw [Bool.eq_false_iff]
 intro q
 exact h (Nat.le_of_ble_eq_true q)
theorem ci{n m:Nat}(h:Nat.blt n m=false):m≤n:=by
 rcases Nat.lt_or_ge n m with k|k
 ·rw [ltb k]at h;cases h
 ·exact k
theorem tS{cf:CF}{vs:List V}{loc:AL}(hn:lQ vs 0=some loc){Q:X→AL→H→Prop}(k:WC Tryz.prog TP Kp eK 1 cf.code loc H0 Q){Q':X→F→H→Prop}(hq:∀x l h,Q x l h→Q' x ⟨l,[]⟩ h):W Tryz.prog TP Kp eK 1 cf.code ⟨dE vs 0,[]⟩ H0 Q':=by
 rw [mS hn]
 refine W.mono k.out fun x f h q=>?_
 have:=hq x f.loc h q.2
 rw [←F.loc_eq q.1]at this
 exact this
def Fc(cf:CF)(R:V→Prop)(x:X)(loc:AL)(h:H):Prop:=(x= .norm∨x= .ret)∧∃l,gj ⟨loc,[]⟩ h cf.results=some l∧bN (cX l)∧R (cX l)
def isB(v:V):Prop:=∃b,v= .bool b
theorem cA{f:FuncId} {fn:Func} {cf:CF} (hfn:Tryz.prog.funcs[f]? =some fn) (hnm:fn.name≠ "runtime.NumGoroutine") (hcf:bG TP fn=some cf) {vs:List V} (hlen:vs.length=cf.params) (hvs:∀v,v∈vs→bN v) {loc:AL} (hn:lQ vs 0=some loc)
  (k:WC Tryz.prog TP Kp eK 1 cf.code loc H0 (Fc cf isB)):cS f vs:=Hh (pK hfn hnm hcf hlen hvs (tS hn k fun x l h q=>q))
theorem cH{f:FuncId} {fn:Func} {cf:CF} (hfn:Tryz.prog.funcs[f]? =some fn) (hnm:fn.name≠ "runtime.NumGoroutine") (hcf:bG TP fn=some cf) {vs:List V} (hlen:vs.length=cf.params) (hvs:∀v,v∈vs→bN v) {R:V→Prop} {loc:AL} (hn:lQ vs 0=some loc)
  (k:WC Tryz.prog TP Kp eK 1 cf.code loc H0 (Fc cf R)):∃v,ck Tryz.prog TP f vs v∧R v:=pK hfn hnm hcf hlen hvs (tS hn k fun x l h q=>q)
noncomputable def ri(f:FuncId)(vs:List V):Int:=by
 classical exact if ck Tryz.prog TP f vs (.int .i64 0)then 0 else if h:∃k,ck Tryz.prog TP f vs (.int .i64 k)then h.choose else 0
abbrev vI(f:FuncId)(vs:List V):Prop:=ck Tryz.prog TP f vs (.int .i64 (ri f vs))
def isI(v:V):Prop:=∃k,v= .int .i64 k
theorem vm{f:FuncId}{vs:List V}(h:∃v,ck Tryz.prog TP f vs v∧isI v):vI f vs:=by
 obtain⟨v,c,b,rfl⟩:=h
 have h:∃b,ck Tryz.prog TP f vs (.int .i64 b):=⟨b,c⟩
 unfold vI ri
 by_cases q:ck Tryz.prog TP f vs (.int .i64 0)
 ·rw [if_pos q]
  exact q
 ·rw [if_neg q,dif_pos h]
  exact h.choose_spec
def jS:List (Nat×Nat)→List V
 |[]=>[]
 |p ::l=>.str p.1 p.2 ::jS l
def Co(l:List (Nat×Nat))(i:Nat):Nat×Nat:=(l[i]?).getD (0,0)
theorem DG{l:List (Nat×Nat)}{i:Nat}(h:Nat.blt i l.length=true):eY (jS l) (Nat.mul i 1) [.str (Co l i).1 (Co l i).2]:=by
 have key:∀(l:List (Nat×Nat)) (i:Nat),i<l.length→∃a b,jS l=a++([.str (Co l i).1 (Co l i).2]++b)∧a.length=i:=by
  intro l
  induction l with
  |nil=>intro i h;simp at h
  |cons p l ih=>
   intro i h
   cases i with
   |zero=>exact⟨[],jS l,rfl,rfl⟩
   |succ i=>
    obtain⟨a,b,e,k⟩:=ih i (by simpa using h)
    exact⟨.str p.1 p.2 ::a,b,by rw [jS,e];rfl,by rw [List.length_cons,k]⟩
 obtain⟨a,b,e,k⟩:=key l i (Nat.le_of_ble_eq_true h)
 exact .of e (k.trans (Nat.mul_one i).symm)
theorem pxL(l:List (Nat×Nat)):bN (.lst l.length 1 (jS l)):= .lst fun c hc=>by
 induction l with
 |nil=>cases hc
 |cons p l ih=>
  rw [jS,List.mem_cons]at hc
  rcases hc with rfl|hc
  ·exact .flat rfl
  ·exact ih hc
theorem lL{n c i:Nat}{k:IntKind}(h:Nat.blt i n=true):POp.run .ixstr [.str n c,.int k (Int.ofNat i)]=some (.int .u8 (Int.ofNat (Nat.mod (Nat.shiftRight c (Nat.mul 8 i)) 256))):=by
 show ob (idx (Int.ofNat i) n) (fun m=>some (V.int .u8 (Int.ofNat (Nat.mod (Nat.shiftRight c (Nat.mul 8 m)) 256))))=_
 rw [Bl (Nat.le_of_ble_eq_true h)]
 rfl
theorem G5{n:Nat}(h:Nat.blt n 1=false):Nat.blt 0 n=true:=ltb (ci h)
theorem Az{n c:Nat}(h:Nat.blt n 1=false):POp.run (.slc .str true false false) [.str n c,.int .i64 1]=some (.str (Nat.sub n 1) (Nat.mod (Nat.shiftRight c (Nat.mul 8 1)) (Nat.shiftLeft 1 (Nat.mul 8 (Nat.sub n 1))))):=by
 have h1:Nat.ble 1 n=true:=ltb (ci h)
 show ob (oif (Nat.ble 1 n) (some 1)) (fun l=>some (V.str (Nat.sub n l) (Nat.mod (Nat.shiftRight c (Nat.mul 8 l)) (Nat.shiftLeft 1 (Nat.mul 8 (Nat.sub n l))))))=_
 rw [h1]
 rfl
theorem Do{n a m b:Nat}(h:Nat.blt (Nat.add n m) 1099511627776=true):POp.run (.bin .add) [.str n a,.str m b]=some (.str (Nat.add n m) (Nat.add a (Nat.shiftLeft b (Nat.mul 8 n)))):=by
 show oif (Nat.blt (Nat.add n m) 1099511627776) (some (V.str (Nat.add n m) (Nat.add a (Nat.shiftLeft b (Nat.mul 8 n)))))=_
 rw [h]
 rfl
section
variable {P:Program} {T:Ty} {K:Nat→Prop} {call:cB} {n:Nat}
end
theorem bK{i n:Nat}(h:Nat.blt i n=true):i<n:=Nat.le_of_ble_eq_true h
theorem bM{es n i:Nat}{cs:List V}{k:IntKind}(h:Nat.blt i n=true):POp.run (.ixsl es) [.lst n es cs,.int k (Int.ofNat i)]=some (.eptr cs (Nat.mul i es)):=by
 show POp.run2 (.ixsl es) (.lst n es cs) (.int k (Int.ofNat i))=_
 exact EP (bK h)
noncomputable section
def ex0:Ex:= .mk 0 0 ⟨#[]⟩ ⟨#[]⟩ [] [] [] [] [] [] false
def bW(l:List Ex)(i:Nat):Ex:=(l[i]?).getD ex0
def ce(l:List Sg)(i:Nat):Sg:=(l[i]?).getD (.mk 0 ⟨#[]⟩ ex0 ex0 false false false)
def bL(l:List Cl)(i:Nat):Cl:=(l[i]?).getD (.mk ⟨#[]⟩ [] [] [])
def cC(l:List Sm)(i:Nat):Sm:=(l[i]?).getD (.mk false ex0 ex0)
def dm(l:List (List Ex))(i:Nat):List Ex:=(l[i]?).getD []
end
theorem cV{α:Type}{l:List α}{i:Nat}{d:α}(h:Nat.blt i l.length=true):l[i]? =some ((l[i]?).getD d):=by
 rw [List.getElem?_eq_getElem (bK h)]
 rfl
theorem ol{α:Type}{l:List α}{i:Nat}{d:α}(h:Nat.blt i l.length=true):(l[i]?).getD d∈l:=List.mem_of_getElem? (cV (d:=d) h)
theorem DV{l:List Ex}{i:Nat}(h:Nat.blt i l.length=true):eY (exL l) (Nat.mul i 11) (exO (bW l i)):=G2 (cV h)
theorem xN{l:List Sg}{i:Nat}(h:Nat.blt i l.length=true):eY (sgL l) (Nat.mul i 27) (sgO (ce l i)):=Fp (cV h)
theorem DW{l:List Cl}{i:Nat}(h:Nat.blt i l.length=true):eY (clL l) (Nat.mul i 4) (clO (bL l i)):=G4 (cV h)
theorem xL{l:List Sm}{i:Nat}(h:Nat.blt i l.length=true):eY (smL l) (Nat.mul i 23) (smO (cC l i)):=Fm (cV h)
theorem qF{l:List (List Ex)}{i:Nat}(h:Nat.blt i l.length=true):eY (gdL l) (Nat.mul i 1) [.lst (dm l i).length 11 (exL (dm l i))]:=GW (cV h)
theorem oc{α:Type}:∀(k:Nat),jp k ([]:List α)=[]
 |0=>rfl
 |_+1=>rfl
theorem su{α:Type}:∀(k j:Nat) (l:List α),jp (k+j) l=jp j (jp k l)
 |0,j,l=>by rw [Nat.zero_add];rfl
 |k+1,j,[]=>by rw [oc,oc,oc]
 |k+1,j,_ ::l=>by
  rw [show k+1+j=(k+j)+1 by omega]
  exact su k j l
theorem ou{α:Type}:∀(n:Nat) {l x:List α},gJ n l=some x→∃b,l=x++b∧x.length=n
 |0,l,x,h=>by cases h;exact⟨l,rfl,rfl⟩
 |n+1,[],x,h=>by cases h
 |n+1,y ::l,x,h=>by
  obtain⟨r,h1,h2⟩:=bC.1 (show ob (gJ n l) (fun r=>some (y ::r))=some x from h)
  cases h2
  obtain⟨b,e,k⟩:=ou n h1
  exact⟨b,by rw [e];rfl,by rw [List.length_cons,k]⟩
theorem eY.sub{cs a y b:List V}{off:Nat}(e:eY cs off (a++(y++b))):eY cs (off+a.length) y:=by
 refine⟨?_,fun j v hv=>?_⟩
 ·obtain⟨r,k1,_⟩:=ou _ e.whole
  rw [su,k1,List.append_assoc,List.append_assoc,og,nJ]
 ·rw [Nat.add_assoc]
  exact e.one _ _ (by rw [qi];exact nQ hv)
theorem Er{cs:List V}{off:Nat}{s:Sg}(e:eY cs off (sgO s)):eY cs (off+2) (exO s.val):=eY.sub (a:=[.int .i64 s.type,sV s.text]) e
theorem Cw{cs:List V}{off:Nat}{s:Sg}(e:eY cs off (sgO s)):eY cs (off+13) (exO s.size):=by
 have:eY cs (off+2) (exO s.val++(exO s.size++[.bool s.sized,.bool s.signed,.bool s.little])):=by
  have:=eY.sub (a:=[.int .i64 s.type,sV s.text]) (y:=exO s.val++(exO s.size++[.bool s.sized,.bool s.signed,.bool s.little])) (b:=[]) (by rw [List.append_nil];exact e)
  exact this
 exact eY.sub (a:=exO s.val) this
theorem El{cs:List V}{off:Nat}{s:Sm}(e:eY cs off (smO s)):eY cs (off+1) (exO s.pat):=eY.sub (a:=[.bool s.isMatch]) (b:=exO s.val) e
theorem Ej{cs:List V}{off:Nat}{s:Sm}(e:eY cs off (smO s)):eY cs (off+12) (exO s.val):=eY.sub (a:= .bool s.isMatch ::exO s.pat) (b:=[]) (by rw [List.append_nil];exact e)
theorem pR{a x b cs:List V}(e:cs=a++(x++b)):bF x≤bF cs:=by rw [e,bY,bY];omega
theorem sk{l:List Ex}{i:Nat}(h:Nat.blt i l.length=true):bF (exO (bW l i))≤bF (exL l):=by obtain⟨a,b,e,_⟩:=wO l i _ (cV (d:=ex0) h);exact pR e
theorem ul{l:List Sg}{i:Nat}(h:Nat.blt i l.length=true):bF (sgO (ce l i))≤bF (sgL l):=by obtain⟨a,b,e,_⟩:=vS l i _ (cV h);exact pR e
theorem jr{l:List Cl}{i:Nat}(h:Nat.blt i l.length=true):bF (clO (bL l i))≤bF (clL l):=by obtain⟨a,b,e,_⟩:=xj l i _ (cV h);exact pR e
theorem xK{l:List Sm}{i:Nat}(h:Nat.blt i l.length=true):bF (smO (cC l i))≤bF (smL l):=by obtain⟨a,b,e,_⟩:=vQ l i _ (cV h);exact pR e
theorem yn{l:List (List Ex)}{i:Nat}(h:Nat.blt i l.length=true):1+bF (exL (dm l i))≤bF (gdL l):=by
 obtain⟨a,b,e,_⟩:=wB l i _ (cV (d:=[]) h)
 have:bF [V.lst (dm l i).length 11 (exL (dm l i))]≤bF (gdL l):=pR (a:=a) (b:=b) e
 simpa [bF,szV]using this
theorem lh{α:Type}{f:α→List V}{g:List α→List V}(hn:g []=[])(hc:∀a l,g (a ::l)=f a++g l)(hf:∀a,1≤bF (f a)):∀l:List α,l.length≤bF (g l)
 |[]=>by simp
 |a ::l=>by
  rw [hc,bY,List.length_cons]
  have:=lh hn hc hf l
  have:=hf a
  omega
theorem dt(l:List Ex):l.length≤bF (exL l):=lh (f:=exO) (by rw [exL]) cN (fun x=>by rw [dL];omega) l
theorem iQ(l:List Sg):l.length≤bF (sgL l):=lh (f:=sgO) (by rw [sgL]) i5 (fun x=>by rw [kJ];omega) l
theorem eS(l:List Cl):l.length≤bF (clL l):=lh (f:=clO) (by rw [clL]) eJ (fun x=>by rw [ff];omega) l
theorem gM(l:List Sm):l.length≤bF (smL l):=lh (f:=smO) (by rw [smL]) gO (fun x=>by rw [lU];omega) l
theorem ky(l:List (List Ex)):l.length≤bF (gdL l):=lh (f:=fun x=>[V.lst x.length 11 (exL x)]) (by rw [gdL]) (fun a l=>by first|(rw [gdL];done)|(rw [gdL];rfl)) (fun x=>by simp [bF,szV]) l
theorem Cr{l:List Sm}{i:Nat}(h:Nat.blt i l.length=true):eY (smL l) (Nat.add (Nat.mul i 23) 1) (exO (cC l i).pat):=El (xL h)
theorem Cq{l:List Sm}{i:Nat}(h:Nat.blt i l.length=true):eY (smL l) (Nat.add (Nat.mul i 23) 12) (exO (cC l i).val):=Ej (xL h)
theorem Cv{l:List Sg}{i:Nat}(h:Nat.blt i l.length=true):eY (sgL l) (Nat.add (Nat.mul i 27) 2) (exO (ce l i).val):=Er (xN h)
theorem AA{l:List Sg}{i:Nat}(h:Nat.blt i l.length=true):eY (sgL l) (Nat.add (Nat.mul i 27) 13) (exO (ce l i).size):=Cw (xN h)
theorem dv{l:List Ex}{i:Nat}{h:H}(hb:Nat.blt i l.length=true):ROp.run (.load true 11) [.eptr (exL l) (Nat.mul i 11)] h=some (.agg (exO (bW l i))):=fA (DV hb) h
theorem li{l:List Sg}{i k n:Nat}{v:V}{h:H}(hb:Nat.blt i l.length=true)(hv:d4 (sgO (ce l i)) k=some v):ROp.run (.load false n) [.eptr (sgL l) (Nat.add (Nat.mul i 27) k)] h=some v:=d5 (xN hb) hv h
theorem gq{l:List Sg}{i:Nat}{h:H}(hb:Nat.blt i l.length=true):ROp.run (.load true 27) [.eptr (sgL l) (Nat.mul i 27)] h=some (.agg (sgO (ce l i))):=fA (xN hb) h
theorem eP{l:List Cl}{i k n:Nat}{v:V}{h:H}(hb:Nat.blt i l.length=true)(hv:d4 (clO (bL l i)) k=some v):ROp.run (.load false n) [.eptr (clL l) (Nat.add (Nat.mul i 4) k)] h=some v:=d5 (DW hb) hv h
theorem gK{l:List Cl}{i:Nat}{h:H}(hb:Nat.blt i l.length=true):ROp.run (.load true 4) [.eptr (clL l) (Nat.mul i 4)] h=some (.agg (clO (bL l i))):=fA (DW hb) h
theorem oH{l:List Sm}{i k n:Nat}{v:V}{h:H}(hb:Nat.blt i l.length=true)(hv:d4 (smO (cC l i)) k=some v):ROp.run (.load false n) [.eptr (smL l) (Nat.add (Nat.mul i 23) k)] h=some v:=d5 (xL hb) hv h
theorem gU{l:List Sm}{i:Nat}{h:H}(hb:Nat.blt i l.length=true):ROp.run (.load true 23) [.eptr (smL l) (Nat.mul i 23)] h=some (.agg (smO (cC l i))):=fA (xL hb) h
theorem eA{l:List Sm}{i k:Nat}{h:H}(hb:Nat.blt i l.length=true)(hk:Nat.beq k 1=true):ROp.run (.load true 11) [.eptr (smL l) (Nat.add (Nat.mul i 23) k)] h=some (.agg (exO (cC l i).pat)):=by
 rw [Nat.eq_of_beq_eq_true hk]
 exact fA (Cr hb) h
theorem ey{l:List Sm}{i k:Nat}{h:H}(hb:Nat.blt i l.length=true)(hk:Nat.beq k 12=true):ROp.run (.load true 11) [.eptr (smL l) (Nat.add (Nat.mul i 23) k)] h=some (.agg (exO (cC l i).val)):=by
 rw [Nat.eq_of_beq_eq_true hk]
 exact fA (Cq hb) h
theorem eT{l:List Sg}{i k:Nat}{h:H}(hb:Nat.blt i l.length=true)(hk:Nat.beq k 2=true):ROp.run (.load true 11) [.eptr (sgL l) (Nat.add (Nat.mul i 27) k)] h=some (.agg (exO (ce l i).val)):=by
 rw [Nat.eq_of_beq_eq_true hk]
 exact fA (Cv hb) h
theorem d7{l:List Sg}{i k:Nat}{h:H}(hb:Nat.blt i l.length=true)(hk:Nat.beq k 13=true):ROp.run (.load true 11) [.eptr (sgL l) (Nat.add (Nat.mul i 27) k)] h=some (.agg (exO (ce l i).size)):=by
 rw [Nat.eq_of_beq_eq_true hk]
 exact fA (AA hb) h
theorem rE{T:Ty}{K:Nat→Prop}{f f':F}{h:H}(h1:∀t v,lk f'.loc t=some v→lk f.loc t=some v)(h2:∀t v,lk f'.tmp t=some v→lk f.tmp t=some v):ft T K f h f' h:=by
 intro m N E0 g0 w0 E g w tmps s fr
 refine⟨E,g,s,⟨fr.1,fun t v e=>fr.2 t v ?_⟩,fun id b o z e=>⟨id,o,z,e⟩⟩
 unfold rdn at e ⊢
 split at e
 ·rename_i hb;rw [if_pos hb];exact h1 t v e
 ·rename_i hb;rw [if_neg hb];exact h2 t v e
inductive rk(f:AL):AL→Prop
 |nil:rk f []
 |cons {t:Nat} {v:V} {l:AL} (e:lk f t=some v) (p:bN v) (k:rk f l):rk f ((t,v) ::l)
theorem s9{i n:Nat}(h:Nat.blt i n=true)(hn:n<9223372036854775808):some (V.int .i64 (cZ .i64 (Int.add (Int.ofNat i) 1)))=some (V.int .i64 (Int.ofNat (i+1))):=by
 have:=iT (i:=i) (by have:=Nat.le_of_ble_eq_true h;omega)
 show some (V.int .i64 (cZ .i64 (Int.add (Int.ofNat i) (Int.ofNat 1))))=_
 rw [this]
theorem rk.mem{f:AL}:∀{l:AL},rk f l→∀p,p∈l→lk f p.1=some p.2∧bN p.2
 |_,.nil,p,h=>by cases h
 |_,.cons e q k,p,h=>by
  rcases List.mem_cons.1 h with rfl|h
  ·exact⟨e,q⟩
  ·exact k.mem p h
theorem cy{f:F}{h:H}{l:AL}(k:rk f.loc l)(hb:h.blk 0=some (.ro 256 dS)):ft TP Kp f h ⟨l,[]⟩ H0:=by
 have u0:∀i,cI lp0 i→i=0:=fun i ⟨b,e⟩=>by
  cases i with
  |zero=>rfl
  |succ i=>cases e
 have V:Vw TP h lp0 (fun i=>i) (fun _=>none):=by
  refine⟨jW.len,fun i b' e=>?_,fun i j _ _ e=>e,fun i j d hi _=>?_,(fun k cs e=>by cases e),(fun k cs i e=>by cases e),fun q hq=>⟨rfl,jW.all q hq⟩⟩
  ·obtain rfl:=u0 i ⟨_,e⟩
   obtain rfl:Blk.ro 256 dS=b':=by cases e;rfl
   exact⟨_,hb,.ro fun j v e=>.flat (dW eD (by rw [fU];unfold bP;omega) e)⟩
  ·rw [u0 i hi]
   exact dF hb
 exact V.view (fun id h=>by obtain rfl:id=0:=h;exact⟨⟨_,rfl⟩,rfl⟩) (.inl fun _=>rfl) ⟨fun p hp=>⟨p.2,(k.mem p hp).1,.pure (k.mem p hp).2⟩,fun p hp=>by cases hp⟩
inductive l8(k:Nat)(cs:List V)(f:AL):AL→Prop
 |nil:l8 k cs f []
 |fz {t off:Nat} {l:AL} (e:lk f t=some (.ptr k off)) (r:l8 k cs f l):l8 k cs f ((t,.eptr cs off) ::l)
 |cons {t:Nat} {v:V} {l:AL} (e:lk f t=some v) (p:bN v) (r:l8 k cs f l):l8 k cs f ((t,v) ::l)
theorem l8.mem{U:Nat→Prop}{k:Nat}{cs:List V}{f:AL}(hp:∀c,c∈cs→bN c):∀{l:AL},l8 k cs f l→∀p,p∈l→∃v,lk f p.1=some v∧Rn U (fun i=>i) (fun j=>if j=k then some cs else none) p.2 v
 |_,.nil,p,h=>by cases h
 |_,.fz e r,p,h=>by
  rcases List.mem_cons.1 h with rfl|h
  ·exact⟨_,e,.fz (by rw [if_pos rfl]) (RnL.pure hp)⟩
  ·exact l8.mem hp r p h
 |_,.cons e q r,p,h=>by
  rcases List.mem_cons.1 h with rfl|h
  ·exact⟨_,e,.pure q⟩
  ·exact l8.mem hp r p h
theorem Fg{f:F}{h:H}{l:AL}{k n:Nat}{cs:List V}(kz:l8 k cs f.loc l)(hz:h.blk k=some (.cells n (cE cs 0 .e) none false))(hn:Nat.beq (bU cs) n=true)(hk:Nat.ble n bP=true)(hp:∀c,c∈cs→bN c)(hb:h.blk 0=some (.ro 256 dS)):ft TP Kp f h ⟨l,[]⟩ H0:=by
 have hn':cs.length=n:=by rw [←@bS noE];exact Nat.eq_of_beq_eq_true hn
 have hk':=Nat.le_of_ble_eq_true hk
 have u0:∀i,cI lp0 i→i=0:=fun i ⟨b,e⟩=>by
  cases i with
  |zero=>rfl
  |succ i=>cases e
 have hk0:k≠0:=fun q=>by rw [q,hb]at hz;cases hz
 have noUpK:∀{b d},¬Up h k b d:=fun u=>by
  cases u with
  |one e' k'=>rw [hz]at e';cases e';cases k'
  |step e' k' _=>rw [hz]at e';cases e';cases k'
 have V:Vw TP h lp0 (fun i=>i) (fun j=>if j=k then some cs else none):=by
  refine⟨jW.len,fun i b' e=>?_,fun i j _ _ e=>e,fun i j d hi _=>?_,fun j cs' e _=>?_,fun j cs' i e hi=>?_,fun q hq=>⟨rfl,jW.all q hq⟩⟩
  ·obtain rfl:=u0 i ⟨_,e⟩
   obtain rfl:Blk.ro 256 dS=b':=by cases e;rfl
   exact⟨_,hb,.ro fun j v e=>.flat (dW eD (by rw [fU];unfold bP;omega) e)⟩
  ·rw [u0 i hi]
   exact dF hb
  ·by_cases q:j=k
   ·subst q
    rw [if_pos rfl]at e
    cases e
    refine⟨_,_,_,by rw [hn'];exact hz,fun i v hv=>?_⟩
    have:=(List.getElem?_eq_some_iff.1 hv).1
    rw [@cW noE cs 0 .e i (by omega),if_pos (by omega),Nat.sub_zero]
    exact hv
   ·rw [if_neg q]at e;cases e
  ·obtain rfl:=u0 i hi
   by_cases q:j=k
   ·subst q
    exact⟨fun q=>hk0 q.symm,fun d=>dF hb,fun d=>noUpK⟩
   ·rw [if_neg q]at e;cases e
 exact V.view (fun id h=>by obtain rfl:id=0:=h;exact⟨⟨_,rfl⟩,rfl⟩) (.inr pn) ⟨fun p h=>kz.mem hp p h,fun p hp=>by cases hp⟩
theorem pxE(l:List Ex):bN (.lst l.length 11 (exL l)):= .lst fun c hc=>(iC l c hc).x
theorem pxS(l:List Sg):bN (.lst l.length 27 (sgL l)):= .lst fun c hc=>(pW l c hc).x
theorem pxC(l:List Cl):bN (.lst l.length 4 (clL l)):= .lst fun c hc=>(lu l c hc).x
theorem pxM(l:List Sm):bN (.lst l.length 23 (smL l)):= .lst fun c hc=>(kU l c hc).x
theorem pxG(l:List (List Ex)):bN (.lst l.length 1 (gdL l)):= .lst fun c hc=>(qG l c hc).x
theorem pxe(x:Ex):bN (.agg (exO x)):= .agg fun c hc=>(dc x c hc).x
theorem pxc(x:Cl):bN (.agg (clO x)):= .agg fun c hc=>(iE x c hc).x
theorem pxm(x:Sm):bN (.agg (smO x)):= .agg fun c hc=>(kT x c hc).x
theorem pxq(x:Ex):bN (.eptr (exO x) 0):= .eptr fun c hc=>(dc x c hc).x
theorem GN(x:Cl):bN (.eptr (clO x) 0):= .eptr fun c hc=>(iE x c hc).x
theorem ix2{es n:Nat}{cs:List V}{k:IntKind}(h:(!eqI (Int.ofNat n) 2)=false):POp.run (.ixsl es) [.lst n es cs,.int k 0]=some (.eptr cs (Nat.mul 0 es)):=by
 have:n=2:=by
  cases q:Nat.beq n 2 with
  |true=>exact Nat.eq_of_beq_eq_true q
  |false=>
   have h:(!Nat.beq n 2)=false:=h
   rw [q]at h
   cases h
 subst this
 exact bM (i:=0) rfl
theorem EZ{l:List Ex}(h:(!eqI (Int.ofNat l.length) 2)=false):eY (exL l) (Nat.mul 0 11) (exO (bW l 0)):=by
 refine DV ?_
 cases q:Nat.beq l.length 2 with
 |true=>rw [Nat.eq_of_beq_eq_true q];rfl
 |false=>
  have h:(!Nat.beq l.length 2)=false:=h
  rw [q]at h
  cases h
theorem bO{v:V}{l:List V}(h1:bN v)(h2:∀c,c∈l→bN c):∀c,c∈v ::l→bN c:=fun c hc=>by
 rcases List.mem_cons.1 hc with rfl|h
 ·exact h1
 ·exact h2 c h
theorem px0:∀c,c∈([]:List V)→bN c:=fun c h=>by cases h
theorem Hy{p:Prop}(h:p:=by assumption):p:=h
theorem RA{p:Prop}(h:p:=by first|rfl|assumption):p:=h
theorem PX{v:V}(h:bN v:=by first|exact .flat rfl|exact pxE _|exact pxS _|exact pxC _|exact pxM _|exact pxG _|exact pxL _|exact pxe _|exact pxq _|exact pxqs _|exact GN _|exact pxqm _|exact pxs _|exact pxc _|exact pxm _|assumption):bN v:=h
theorem PB{cs:List V}(h:∀c,c∈cs→bN c:=by first|exact fun c hc=>(dc _ c hc).x|exact fun c hc=>(gf _ c hc).x|exact fun c hc=>(iE _ c hc).x|exact fun c hc=>(kT _ c hc).x|repeat' (first|exact px0|refine bO ?_ ?_|exact PX)):∀c,c∈cs→bN c:=h
theorem KT{f l:AL}(h:rk f l:=by repeat' (first|exact .nil|refine .cons rfl ?_ ?_|refine .cons (s9 (by assumption) (by assumption)) ?_ ?_|exact PX)):rk f l:=h
end Ev
end Go.Proofs.YtdfphfdnoobikaaGreatDoor
