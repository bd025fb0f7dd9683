/-
  The seat's program:calls from ways through its code.
-/
import Derived.Test.YtdfphfdnoobikaaGreatDoorLtTab1
import Derived.Test.YtdfphfdnoobikaaGreatDoorEvWL
namespace Go.Proofs.YtdfphfdnoobikaaGreatDoor
namespace Ev
theorem Nx{b:Bool}{P:Prop}(h:b=true)(k:b=false):P:=by rw [h] at k;cases k
theorem Dg(P:Program)(pin:List (Nat×Nat×Nat×Tr V)):cN P ⟨P.info?,P.underlying,λt=>!P.stoodInHeld t && !P.eqGuardType P.depth t,pin⟩:=⟨λ_ _ h=>h,λ_ _ h=>h,λt h=>by
 have h:(!P.stoodInHeld t && !P.eqGuardType P.depth t)=true:=h
 simpa using h⟩
theorem qc:cN Tryz.prog TP:=Dg Tryz.prog _
theorem mixed:Tryz.prog.follows .mixedOrders=true:=by kernel_rfl
noncomputable section
def lp0:List (Option Blk):=[some (.ro 256 (cq tbl 0 .e))]
def H0:H:=⟨trO lp0 0 .e,1⟩
def Kp:Nat->Prop:=λid=>id=0
end
theorem eJ:tbl.all flat=true:=by kernel_rfl
theorem ii:TP.pin=[(0,0,256,dN)]:=rfl
theorem fU:tbl.length=256:=by rw [<-@bV noE];kernel_rfl
theorem d3{l:List V}(h:l.all flat=true)(hl:l.length<=bR){j:Nat}{v:V}(e':(cq l 0 .e).get j=some v):flat v=true:=by
 rw [@cU noE l 0 .e j (by omega)]at e'
 split at e'
 ·exact List.all_eq_true.1 h v (List.mem_of_getElem? e')
 ·cases e'
theorem DG{T:Ty}{n:Nat}{tr:Tr V}(hp:T.pin=[(0,0,n,tr)])(hf:∀j v,tr.get j=some v->flat v=true):C9 T [some (.ro n tr)]:=by
 refine⟨by show 1<=bR;unfold bR;omega,λi b e=>?_,λp h=>?_⟩
 ·cases i with
  |succ i=>cases e
  |zero=>
   cases e;exact⟨(0,0,n,tr),by rw [hp];exact List.mem_singleton.2 rfl,rfl,rfl,λj v e=>.flat (hf j v e)⟩
 ·rw [hp]at h
  rw [List.mem_singleton.1 h];rfl
theorem jV:C9 TP lp0:=DG ii λj v e=>d3 eJ (by rw [fU];unfold bR;omega) e
theorem pn:Pn TP Kp:=λ_ h=>⟨(0,0,256,dN),by rw [ii];exact List.mem_singleton.2 rfl,h.symm⟩
mutual
def szV:V->Nat
 |.str n _=>n+1
 |.lst _ _ cs=>1+bH cs
 |.eptr cs _=>1+bH cs
 |.agg cs=>bH cs
 |_=>1
def bH:List V->Nat
 |[]=>0
 |v ::l=>szV v+bH l
end
theorem cj:∀a b:List V,bH (a++b)=bH a+bH b
 |[],b=>by rw [List.nil_append,bH,Nat.zero_add]
 |v ::a,b=>by rw [List.cons_append,bH,cj a b,bH,Nat.add_assoc]
theorem dM(x:Ex):bH (exO x)=1+(1+((x.name.size+1)+((x.text.size+1)+((1+bH (exL x.items))+((1+bH (sgL x.segs))+((1+bH (clL x.clauses))+((1+bH (clL x.catches))+((1+bH (smL x.body))+((1+bH (smL x.after))+1))))))))):=rfl
theorem fJ(c:Cl):bH (clO c)=(c.name.size+1)+((1+bH (exL c.pats))+((1+bH (gdL c.guards))+(1+bH (smL c.body)))):=rfl
theorem mN(s:Sm):bH (smO s)=1+(bH (exO s.pat)+bH (exO s.val)):=by
 show szV (.bool s.isMatch)+bH (exO s.pat++exO s.val)=_;rw [cj];rfl
theorem kU(s:Sg):bH (sgO s)=1+((s.text.size+1)+(bH (exO s.val)+(bH (exO s.size)+3))):=by
 unfold sgO;rw [bH,bH,cj,cj];simp [bH,szV,sV]
theorem G0{E1 E2:En}{g1 g2:G}{v:V}{u:Value}(hf:flat v=true)(h:@VR E1 g1 v u):@VR E2 g2 v u:=by
 cases v with
 |bool b=>cases h;exact @VR.bool E2 g2 b
 |int k n=>cases h;exact @VR.int E2 g2 k n
 |str n c=>cases h;exact @VR.str E2 g2 _
 |nilp=>cases h;exact @VR.nilp E2 g2
 |nils=>cases h;exact @VR.nils E2 g2
 |nilm=>cases h;exact @VR.nilm E2 g2
 |nilf=>cases h;exact @VR.nilf E2 g2
 |nili=>cases h;exact @VR.nili E2 g2
 |_=>cases hf
section
variable {U U':Nat->Prop} {ρ:Nat->Nat} {Z:Nat->Option (List V)} (hU:∀i,U i->U' i)
include hU
mutual
theorem Rn.used:∀{v' v:V},Rn U ρ Z v' v->Rn U' ρ Z v' v
 |_,_,.pure h=>.pure h
 |_,_,.ptr h=>.ptr (hU _ h)
 |_,_,.sl h=>.sl (hU _ h)
 |_,_,.map h=>.map (hU _ h)
 |_,_,.func a b=>.func (RnL.used a) (RnL.used b)
 |_,_,.agg a=>.agg (RnL.used a)
 |_,_,.tup a=>.tup (RnL.used a)
 |_,_,.lst a=>.lst (RnL.used a)
 |_,_,.eptr a=>.eptr (RnL.used a)
 |_,_,.fz k a=>.fz k (RnL.used a)
 |_,_,.fzs k l a=>.fzs k l (RnL.used a)
 |_,_,.nil0 k=>.nil0 k
theorem RnL.used:∀{v' v:List V},RnL U ρ Z v' v->RnL U' ρ Z v' v
 |_,_,.nil=>by
  have _a:=@hU;exact .nil
 |_,_,.cons h t=>.cons (Rn.used h) (RnL.used t)
end
end
theorem RnL.each{U:Nat->Prop}{ρ:Nat->Nat}{Z:Nat->Option (List V)}{E E':En}{g g':G}(tr:∀v' v u,Rn U ρ Z v' v->@VR E g v u->@VR E' g' v' u):∀{a b:List V},RnL U ρ Z a b->∀{us:List Value},@VRs E g b us->@VRs E' g' a us
 |_,_,.nil,_,k=>by cases k;exact @VRs.nil E' g'
 |_,_,.cons h t,_,k=>by cases k with|cons p q=>exact @VRs.cons E' g' _ _ _ _ (tr _ _ _ h p) (RnL.each tr t q)
theorem FK{T:Ty}{n:Nat}{tr:Tr V}(hp:T.pin=[(0,0,n,tr)]){E:En}{g:G}{h:H}{w:World}(s:Sit T E g h w):(∃z,g 0=some (0,0,z))/\h.blk 0=some (.ro n tr):=
 s.pin (0,0,n,tr) (by rw [hp];exact List.mem_singleton.2 rfl)
theorem Sit.pin0{E:En}{g:G}{h:H}{w:World}(s:Sit TP E g h w):(∃z,g 0=some (0,0,z))/\h.blk 0=some (.ro 256 dN):=FK ii s
theorem lx.callZ{f:FuncId}{vs VS:List V}{v:V}(c:lx Tryz.prog TP f vs v)(hv:flat v=true){h:H}{Z:Nat->Option (List V)}(hr:RnL (λi=>i=0) (λi=>i) Z vs VS)
  (hz:∀k cs,Z k=some cs->∃t up ch,h.blk k=some (.cells cs.length t up ch)/\∀j v,cs[j]? =some v->t.get j=some v) {E:En} {g:G} {w:World} {us:List Value} (s:Sit TP E g h w) (hu:@VRs E g VS us):@ly E Tryz.prog TP f us g h w v h:=by
 have u0:∀i,cL lp0 i->i=0:=λi ⟨b,e⟩=>by
  cases i with
  |zero=>rfl
  |succ i=>cases e
 obtain⟨⟨zz,p1⟩,p2⟩:=s.pin0;have hb:h.blk 0=some (.ro 256 dN):=p2;have noUp:∀{a b d},Up h a b d->b=0->False:=λ{a b d} u=>by
  induction u with
  |one e k=>
   rintro rfl;obtain⟨b',up,n1,n2,_⟩:=@WR.kids E TP g h w s.wr _ _ _ _ _ e k;rw [hb]at n1;cases n1;cases n2
  |step _ _ _ ih=>exact ih
 have V:Vw TP h lp0 (λi=>i) Z:=by
  refine⟨jV.len,λi b' e=>?_,λi j _ _ e=>e,λi j d hi _=>?_,(λk cs e _=>hz k cs e),λk cs i e hi=>?_,λq hq=>⟨rfl,jV.all q hq⟩⟩
  ·obtain rfl:=u0 i ⟨_,e⟩
   obtain rfl:Blk.ro 256 dN=b':=by cases e;rfl
   exact⟨_,hb,.ro λj v e=>.flat (d3 eJ (by rw [fU];unfold bR;omega) e)⟩
  ·rw [u0 i hi]
   exact dH hb
  ·obtain rfl:=u0 i hi
   refine⟨λq=>?_,λd=>dH hb,λd u=>noUp u rfl⟩;obtain⟨t,up,ch,k1,_⟩:=hz k cs e;rw [<-q]at k1;have k1:h.blk 0=_:=k1;rw [hb]at k1;cases k1
 obtain⟨E',g',hE,hn,_,s',hg,hno,tr⟩:=V.sit s;have hu':@VRs E' g' vs us:=RnL.each tr (RnL.used (λi h=>⟨_,by rw [h];rfl⟩) hr) hu;obtain⟨fn,k1,k2,k3,k4⟩:=c.out E' g' (g8 lp0) w us s' hu';refine⟨fn,k1,k2,k3,k4.mono ?_⟩;rintro e w' ⟨E'',u,rfl,m1,m2,m3,m4,m5⟩;have s2:Sit TP E g h w':=s.still E.le_refl (λ_ _ e=>.inl e) (λb c e=>m4 b c (m2 b c (hE b c e))) m5;exact⟨g,u,rfl,G0 hv m1,@Ext.mk E TP g h w g h w' (@G.le_refl g) (Nat.le_refl _) s2.wr (λ_ _ e=>⟨e,rfl⟩) m5.size (λb hb _=>m5.keep b hb) (λid b o z h1 h2=>by rw [h2]at h1;cases h1) (λ_ b _ _ _ _ e1 e2=>⟨e2,m5.keep b (s.lt e1)⟩) m5.os m5.tape m5.output⟩
def Ip(f:FuncId)(vs:List V)(v:V):Prop:=
 if f=19\/f=38\/f=39 then ∃x m r,vs=[x,.int .i64 m]/\v= .int .i64 r/\r<=m/\-1<=r/\(0<=r->(szV x:Int)<=1+1000*(m-r))
 else if f=51 then ∃k,v= .int .i64 k
 else True
def Da(f:FuncId)(VS:List V)(h:H)(vs:List V)(v:V):Prop:=
 lx Tryz.prog TP f vs v/\flat v=true/\Ip f vs v/\∃Z,RnL (λi=>i=0) (λi=>i) Z vs VS/\∀k cs,Z k=some cs->∃t up ch,h.blk k=some (.cells cs.length t up ch)/\∀j v,cs[j]? =some v->t.get j=some v
open Classical in
noncomputable def ft:cB:=λc VS h=>match c with
 |.fn f=>if e:∃v vs,Da f VS h vs v then some (e.choose,h)else none
 |.yld _=>none
theorem kf(E:En):@dX E Tryz.prog TP ft:=by
 refine @dX.mk E _ _ _ (λf VS h v h' e g w us r hG hu=>?_) (λid vs h v h' e=>by cases e);unfold ft at e
 by_cases q:∃v vs,Da f VS h vs v
 ·have e:=(dif_pos q).symm.trans e
  obtain⟨vs,c,hv,_,Z,hr,hz⟩:=q.choose_spec;obtain⟨rfl,rfl⟩:=Prod.mk.inj (Option.some.inj e);exact c.callZ hv hr hz ⟨r,hG⟩ hu
 ·have e:=(dif_neg q).symm.trans e
  cases e
theorem pV{f:FuncId} {fn:Func} {cf:CF} (hfn:Tryz.prog.funcs[f]? =some fn) (hnm:fn.name≠ "runtime.NumGoroutine") (hcf:bQ TP fn=some cf) {vs:List V} (hlen:vs.length=cf.params) (hvs:∀v,v∈vs->bP v) {R:V->Prop}
  (k:W Tryz.prog TP Kp ft 1 cf.code ⟨dG vs 0,[]⟩ H0 λx f1 h1=>(x= .norm\/x= .ret)/\∃l,gf f1 h1 cf.results=some l/\bP (cQ l)/\R (cQ l)):∃v,lx Tryz.prog TP f vs v/\R v:=by
 obtain⟨x,f1,h1,k1,hx,l,k2,k3,k4⟩:=k;exact⟨_,(gN qc kf mixed hfn hnm hcf hlen k1 hx k2).conP jV hvs k3,k4⟩
noncomputable def rb(f:FuncId)(vs:List V):Bool:=by
 classical exact if lx Tryz.prog TP f vs (.bool true)then true else false
abbrev db(f:FuncId)(vs:List V):Prop:=lx Tryz.prog TP f vs (.bool (rb f vs))
theorem Io{f:FuncId}{vs:List V}(h:∃v,lx Tryz.prog TP f vs v/\∃b,v= .bool b):db f vs:=by
 obtain⟨v,c,b,rfl⟩:=h;unfold db rb
 by_cases q:lx Tryz.prog TP f vs (.bool true)
 ·rw [if_pos q]
  exact q
 ·rw [if_neg q]
  cases b with
  |true=>exact absurd c q
  |false=>exact c
theorem tp{f:FuncId}{vs:List V}(h:lx Tryz.prog TP f vs (.bool true)):rb f vs=true:=if_pos h
theorem ltb{i n:Nat}(h:i<n):Nat.blt i n=true:=by simp [Nat.blt];omega
theorem Il{i n:Nat}(h:¬i<n):Nat.blt i n=false:=by
 rw [Bool.eq_false_iff];intro q;exact h (Nat.le_of_ble_eq_true q)
theorem ce{n m:Nat}(h:Nat.blt n m=false):m<=n:=by
 rcases Nat.lt_or_ge n m with k|k
 ·rw [ltb k]at h;cases h
 ·exact k
theorem uy{cf:CF}{vs:List V}{loc:AL}(hn:kP vs 0=some loc){Q:X->AL->H->Prop}(k:WC Tryz.prog TP Kp ft 1 cf.code loc H0 Q){Q':X->F->H->Prop}(hq:∀x l h,Q x l h->Q' x ⟨l,[]⟩ h):W Tryz.prog TP Kp ft 1 cf.code ⟨dG vs 0,[]⟩ H0 Q':=by
 rw [lH hn];refine W.mono k.out λx f h q=>?_;have:=hq x f.loc h q.2;rw [<-F.loc_eq q.1]at this;exact this
def Db(cf:CF)(R:V->Prop)(x:X)(loc:AL)(h:H):Prop:=(x= .norm\/x= .ret)/\∃l,gf ⟨loc,[]⟩ h cf.results=some l/\bP (cQ l)/\R (cQ l)
def isB(v:V):Prop:=∃b,v= .bool b
theorem cJ{f:FuncId} {fn:Func} {cf:CF} (hfn:Tryz.prog.funcs[f]? =some fn) (hnm:fn.name≠ "runtime.NumGoroutine") (hcf:bQ TP fn=some cf) {vs:List V} (hlen:vs.length=cf.params) (hvs:∀v,v∈vs->bP v) {loc:AL} (hn:kP vs 0=some loc)
  (k:WC Tryz.prog TP Kp ft 1 cf.code loc H0 (Db cf isB)):db f vs:=Io (pV hfn hnm hcf hlen hvs (uy hn k λx l h q=>q))
theorem dz{f:FuncId} {fn:Func} {cf:CF} (hfn:Tryz.prog.funcs[f]? =some fn) (hnm:fn.name≠ "runtime.NumGoroutine") (hcf:bQ TP fn=some cf) {vs:List V} (hlen:vs.length=cf.params) (hvs:∀v,v∈vs->bP v) {R:V->Prop} {loc:AL} (hn:kP vs 0=some loc)
  (k:WC Tryz.prog TP Kp ft 1 cf.code loc H0 (Db cf R)):∃v,lx Tryz.prog TP f vs v/\R v:=pV hfn hnm hcf hlen hvs (uy hn k λx l h q=>q)
theorem cS{f:FuncId} {fn:Func} {cf:CF} (hfn:Tryz.prog.funcs[f]? =some fn) (hnm:fn.name≠ "runtime.NumGoroutine") (hcf:bQ TP fn=some cf) {vs:List V} (hlen:vs.length=cf.params) (hvs:∀v,v∈vs->bP v) {w:V} {loc:AL} (hn:kP vs 0=some loc)
  (k:WC Tryz.prog TP Kp ft 1 cf.code loc H0 (Db cf λv=>v=w)):lx Tryz.prog TP f vs w:=by
 obtain⟨v,c,rfl⟩:=dz hfn hnm hcf hlen hvs hn k;exact c
abbrev CP:=lx Tryz.prog TP
abbrev CN:=Con Tryz.prog TP noM
noncomputable def ri(f:FuncId)(vs:List V):Int:=by
 classical exact if CP f vs (.int .i64 0)then 0 else if h:∃k,CP f vs (.int .i64 k)then h.choose else 0
abbrev wx(f:FuncId)(vs:List V):Prop:=CP f vs (.int .i64 (ri f vs))
def isI(v:V):Prop:=∃k,v= .int .i64 k
theorem vZ{f:FuncId}{vs:List V}(h:∃v,CP f vs v/\isI v):wx f vs:=by
 obtain⟨v,c,b,rfl⟩:=h;have h:∃b,CP f vs (.int .i64 b):=⟨b,c⟩
 unfold wx ri
 by_cases q:CP f vs (.int .i64 0)
 ·rw [if_pos q]
  exact q
 ·rw [if_neg q,dif_pos h]
  exact h.choose_spec
theorem DA{f:FuncId}{vs:List V}(h:CP f vs (.int .i64 0)):ri f vs=0:=if_pos h
def ko:List (Nat×Nat)->List V
 |[]=>[]
 |p ::l=>.str p.1 p.2 ::ko l
def rE(l:List (Nat×Nat))(i:Nat):Nat×Nat:=(l[i]?).getD (0,0)
theorem EF{l:List (Nat×Nat)}{i:Nat}(h:Nat.blt i l.length=true):eY (ko l) (Nat.mul i 1) [.str (rE l i).1 (rE l i).2]:=by
 have key:∀(l:List (Nat×Nat)) (i:Nat),i<l.length->∃a b,ko l=a++([.str (rE l i).1 (rE l i).2]++b)/\a.length=i:=by
  intro l
  induction l with
  |nil=>intro i h;simp at h
  |cons p l ih=>
   intro i h;cases i with
   |zero=>exact⟨[],ko l,rfl,rfl⟩
   |succ i=>
    obtain⟨a,b,e,k⟩:=ih i (by simpa using h);exact⟨.str p.1 p.2 ::a,b,by rw [ko,e];rfl,by rw [List.length_cons,k]⟩
 obtain⟨a,b,e,k⟩:=key l i (Nat.le_of_ble_eq_true h);exact .of e (k.trans (Nat.mul_one i).symm)
theorem pxL(l:List (Nat×Nat)):bP (.lst l.length 1 (ko l)):= .lst λc hc=>by
 induction l with
 |nil=>cases hc
 |cons p l ih=>
  rw [ko,List.mem_cons]at hc;rcases hc with rfl|hc
  ·exact .flat rfl
  ·exact ih hc
theorem lK{n c i:Nat}{k:IntKind}(h:Nat.blt i n=true):POp.run .ixstr [.str n c,.int k (Int.ofNat i)]=some (.int .u8 (Int.ofNat (Nat.mod (Nat.shiftRight c (Nat.mul 8 i)) 256))):=by
 show ob (idx (Int.ofNat i) n) (λm=>some (V.int .u8 (Int.ofNat (Nat.mod (Nat.shiftRight c (Nat.mul 8 m)) 256))))=_;rw [Cb (Nat.le_of_ble_eq_true h)];rfl
theorem G8{n:Nat}(h:Nat.blt n 1=false):Nat.blt 0 n=true:=ltb (ce h)
theorem Bu{n c:Nat}(h:Nat.blt n 1=false):POp.run (.slc .str true false false) [.str n c,.int .i64 1]=some (.str (Nat.sub n 1) (Nat.mod (Nat.shiftRight c (Nat.mul 8 1)) (Nat.shiftLeft 1 (Nat.mul 8 (Nat.sub n 1))))):=by
 have h1:Nat.ble 1 n=true:=ltb (ce h);show ob (oif (Nat.ble 1 n) (some 1)) (λl=>some (V.str (Nat.sub n l) (Nat.mod (Nat.shiftRight c (Nat.mul 8 l)) (Nat.shiftLeft 1 (Nat.mul 8 (Nat.sub n l))))))=_;rw [h1];rfl
theorem kC{n a m b:Nat}(h:Nat.blt (Nat.add n m) 1099511627776=true):POp.run (.bin .add) [.str n a,.str m b]=some (.str (Nat.add n m) (Nat.add a (Nat.shiftLeft b (Nat.mul 8 n)))):=by
 show oif (Nat.blt (Nat.add n m) 1099511627776) (some (V.str (Nat.add n m) (Nat.add a (Nat.shiftLeft b (Nat.mul 8 n)))))=_;rw [h];rfl
section
variable {P:Program} {T:Ty} {K:Nat->Prop} {call:cB} {n:Nat}
end
theorem bL{i n:Nat}(h:Nat.blt i n=true):i<n:=Nat.le_of_ble_eq_true h
theorem bN{es n i:Nat}{cs:List V}{k:IntKind}(h:Nat.blt i n=true):POp.run (.ixsl es) [.lst n es cs,.int k (Int.ofNat i)]=some (.eptr cs (Nat.mul i es)):=by
 show POp.run2 (.ixsl es) (.lst n es cs) (.int k (Int.ofNat i))=_;exact F3 (bL h)
noncomputable section
def ex0:Ex:= .mk 0 0 ⟨#[]⟩ ⟨#[]⟩ [] [] [] [] [] [] false
def bW(l:List Ex)(i:Nat):Ex:=(l[i]?).getD ex0
def ck(l:List Sg)(i:Nat):Sg:=(l[i]?).getD (.mk 0 ⟨#[]⟩ ex0 ex0 false false false)
def bM(l:List Cl)(i:Nat):Cl:=(l[i]?).getD (.mk ⟨#[]⟩ [] [] [])
def cD(l:List Sm)(i:Nat):Sm:=(l[i]?).getD (.mk false ex0 ex0)
def di(l:List (List Ex))(i:Nat):List Ex:=(l[i]?).getD []
end
theorem cO{α:Type}{l:List α}{i:Nat}{d:α}(h:Nat.blt i l.length=true):l[i]? =some ((l[i]?).getD d):=by
 rw [List.getElem?_eq_getElem (bL h)];rfl
theorem mE{α:Type}{l:List α}{i:Nat}{d:α}(h:Nat.blt i l.length=true):(l[i]?).getD d∈l:=List.mem_of_getElem? (cO (d:=d) h)
theorem EU{l:List Ex}{i:Nat}(h:Nat.blt i l.length=true):eY (exL l) (Nat.mul i 11) (exO (bW l i)):=G4 (cO h)
theorem yG{l:List Sg}{i:Nat}(h:Nat.blt i l.length=true):eY (sgL l) (Nat.mul i 27) (sgO (ck l i)):=GH (cO h)
theorem EW{l:List Cl}{i:Nat}(h:Nat.blt i l.length=true):eY (clL l) (Nat.mul i 4) (clO (bM l i)):=G7 (cO h)
theorem yD{l:List Sm}{i:Nat}(h:Nat.blt i l.length=true):eY (smL l) (Nat.mul i 23) (smO (cD l i)):=GF (cO h)
theorem oY{l:List (List Ex)}{i:Nat}(h:Nat.blt i l.length=true):eY (gdL l) (Nat.mul i 1) [.lst (di l i).length 11 (exL (di l i))]:=GZ (cO h)
theorem oF{α:Type}:∀(k:Nat),jr k ([]:List α)=[]
 |0=>rfl
 |_+1=>rfl
theorem sP{α:Type}:∀(k j:Nat) (l:List α),jr (k+j) l=jr j (jr k l)
 |0,j,l=>by rw [Nat.zero_add];rfl
 |k+1,j,[]=>by rw [oF,oF,oF]
 |k+1,j,_ ::l=>by
  rw [show k+1+j=(k+j)+1 by omega];exact sP k j l
theorem oN{α:Type}:∀(n:Nat) {l x:List α},gI n l=some x->∃b,l=x++b/\x.length=n
 |0,l,x,h=>by cases h;exact⟨l,rfl,rfl⟩
 |n+1,[],x,h=>by cases h
 |n+1,y ::l,x,h=>by
  obtain⟨r,h1,h2⟩:=bE.1 (show ob (gI n l) (λr=>some (y ::r))=some x from h);cases h2;obtain⟨b,e,k⟩:=oN n h1;exact⟨b,by rw [e];rfl,by rw [List.length_cons,k]⟩
theorem eY.sub{cs a y b:List V}{off:Nat}(e:eY cs off (a++(y++b))):eY cs (off+a.length) y:=by
 refine⟨?_,λj v hv=>?_⟩
 ·obtain⟨r,k1,_⟩:=oN _ e.whole
  rw [sP,k1,List.append_assoc,List.append_assoc,oG,nT]
 ·rw [Nat.add_assoc]
  exact e.one _ _ (by rw [qC];exact og hv)
theorem Fv{cs:List V}{off:Nat}{s:Sg}(e:eY cs off (sgO s)):eY cs (off+2) (exO s.val):=eY.sub (a:=[.int .i64 s.type,sV s.text]) e
theorem Dt{cs:List V}{off:Nat}{s:Sg}(e:eY cs off (sgO s)):eY cs (off+13) (exO s.size):=by
 have:eY cs (off+2) (exO s.val++(exO s.size++[.bool s.sized,.bool s.signed,.bool s.little])):=by
  have:=eY.sub (a:=[.int .i64 s.type,sV s.text]) (y:=exO s.val++(exO s.size++[.bool s.sized,.bool s.signed,.bool s.little])) (b:=[]) (by rw [List.append_nil];exact e);exact this
 exact eY.sub (a:=exO s.val) this
theorem Fp{cs:List V}{off:Nat}{s:Sm}(e:eY cs off (smO s)):eY cs (off+1) (exO s.pat):=eY.sub (a:=[.bool s.isMatch]) (b:=exO s.val) e
theorem Fo{cs:List V}{off:Nat}{s:Sm}(e:eY cs off (smO s)):eY cs (off+12) (exO s.val):=eY.sub (a:= .bool s.isMatch ::exO s.pat) (b:=[]) (by rw [List.append_nil];exact e)
theorem qf{a x b cs:List V}(e:cs=a++(x++b)):bH x<=bH cs:=by rw [e,cj,cj];omega
theorem vR{l:List Ex}{i:Nat}(h:Nat.blt i l.length=true):bH (exO (bW l i))<=bH (exL l):=by obtain⟨a,b,e,_⟩:=xI l i _ (cO (d:=ex0) h);exact qf e
theorem yF{l:List Sg}{i:Nat}(h:Nat.blt i l.length=true):bH (sgO (ck l i))<=bH (sgL l):=by obtain⟨a,b,e,_⟩:=wO l i _ (cO h);exact qf e
theorem kc{l:List Cl}{i:Nat}(h:Nat.blt i l.length=true):bH (clO (bM l i))<=bH (clL l):=by obtain⟨a,b,e,_⟩:=xZ l i _ (cO h);exact qf e
theorem Br{l:List Sm}{i:Nat}(h:Nat.blt i l.length=true):bH (smO (cD l i))<=bH (smL l):=by obtain⟨a,b,e,_⟩:=wK l i _ (cO h);exact qf e
theorem vJ{l:List (List Ex)}{i:Nat}(h:Nat.blt i l.length=true):1+bH (exL (di l i))<=bH (gdL l):=by
 obtain⟨a,b,e,_⟩:=xx l i _ (cO (d:=[]) h);have:bH [V.lst (di l i).length 11 (exL (di l i))]<=bH (gdL l):=qf (a:=a) (b:=b) e
 simpa [bH,szV]using this
theorem lf{α:Type}{f:α->List V}{g:List α->List V}(hn:g []=[])(hc:∀a l,g (a ::l)=f a++g l)(hf:∀a,1<=bH (f a)):∀l:List α,l.length<=bH (g l)
 |[]=>by simp
 |a ::l=>by
  rw [hc,cj,List.length_cons];have:=lf hn hc hf l;have:=hf a;omega
theorem dy(l:List Ex):l.length<=bH (exL l):=lf (f:=exO) (by rw [exL]) cK (λx=>by rw [dM];omega) l
theorem iR(l:List Sg):l.length<=bH (sgL l):=lf (f:=sgO) (by rw [sgL]) i7 (λx=>by rw [kU];omega) l
theorem eT(l:List Cl):l.length<=bH (clL l):=lf (f:=clO) (by rw [clL]) gW (λx=>by rw [fJ];omega) l
theorem gM(l:List Sm):l.length<=bH (smL l):=lf (f:=smO) (by rw [smL]) gO (λx=>by rw [mN];omega) l
theorem jF(l:List (List Ex)):l.length<=bH (gdL l):=lf (f:=λx=>[V.lst x.length 11 (exL x)]) (by rw [gdL]) (λa l=>by first|(rw [gdL];done)|(rw [gdL];rfl)) (λx=>by simp [bH,szV]) l
theorem Do{l:List Sm}{i:Nat}(h:Nat.blt i l.length=true):eY (smL l) (Nat.add (Nat.mul i 23) 1) (exO (cD l i).pat):=Fp (yD h)
theorem Dn{l:List Sm}{i:Nat}(h:Nat.blt i l.length=true):eY (smL l) (Nat.add (Nat.mul i 23) 12) (exO (cD l i).val):=Fo (yD h)
theorem Ds{l:List Sg}{i:Nat}(h:Nat.blt i l.length=true):eY (sgL l) (Nat.add (Nat.mul i 27) 2) (exO (ck l i).val):=Fv (yG h)
theorem Bv{l:List Sg}{i:Nat}(h:Nat.blt i l.length=true):eY (sgL l) (Nat.add (Nat.mul i 27) 13) (exO (ck l i).size):=Dt (yG h)
theorem dA{l:List Ex}{i:Nat}{h:H}(hb:Nat.blt i l.length=true):ROp.run (.load true 11) [.eptr (exL l) (Nat.mul i 11)] h=some (.agg (exO (bW l i))):=fm (EU hb) h
theorem lh{l:List Sg}{i k n:Nat}{v:V}{h:H}(hb:Nat.blt i l.length=true)(hv:d5 (sgO (ck l i)) k=some v):ROp.run (.load false n) [.eptr (sgL l) (Nat.add (Nat.mul i 27) k)] h=some v:=dO (yG hb) hv h
theorem gh{l:List Sg}{i:Nat}{h:H}(hb:Nat.blt i l.length=true):ROp.run (.load true 27) [.eptr (sgL l) (Nat.mul i 27)] h=some (.agg (sgO (ck l i))):=fm (yG hb) h
theorem et{l:List Cl}{i k n:Nat}{v:V}{h:H}(hb:Nat.blt i l.length=true)(hv:d5 (clO (bM l i)) k=some v):ROp.run (.load false n) [.eptr (clL l) (Nat.add (Nat.mul i 4) k)] h=some v:=dO (EW hb) hv h
theorem gj{l:List Cl}{i:Nat}{h:H}(hb:Nat.blt i l.length=true):ROp.run (.load true 4) [.eptr (clL l) (Nat.mul i 4)] h=some (.agg (clO (bM l i))):=fm (EW hb) h
theorem oW{l:List Sm}{i k n:Nat}{v:V}{h:H}(hb:Nat.blt i l.length=true)(hv:d5 (smO (cD l i)) k=some v):ROp.run (.load false n) [.eptr (smL l) (Nat.add (Nat.mul i 23) k)] h=some v:=dO (yD hb) hv h
theorem gV{l:List Sm}{i:Nat}{h:H}(hb:Nat.blt i l.length=true):ROp.run (.load true 23) [.eptr (smL l) (Nat.mul i 23)] h=some (.agg (smO (cD l i))):=fm (yD hb) h
theorem eH{l:List Sm}{i k:Nat}{h:H}(hb:Nat.blt i l.length=true)(hk:Nat.beq k 1=true):ROp.run (.load true 11) [.eptr (smL l) (Nat.add (Nat.mul i 23) k)] h=some (.agg (exO (cD l i).pat)):=by
 rw [Nat.eq_of_beq_eq_true hk];exact fm (Do hb) h
theorem eG{l:List Sm}{i k:Nat}{h:H}(hb:Nat.blt i l.length=true)(hk:Nat.beq k 12=true):ROp.run (.load true 11) [.eptr (smL l) (Nat.add (Nat.mul i 23) k)] h=some (.agg (exO (cD l i).val)):=by
 rw [Nat.eq_of_beq_eq_true hk];exact fm (Dn hb) h
theorem eU{l:List Sg}{i k:Nat}{h:H}(hb:Nat.blt i l.length=true)(hk:Nat.beq k 2=true):ROp.run (.load true 11) [.eptr (sgL l) (Nat.add (Nat.mul i 27) k)] h=some (.agg (exO (ck l i).val)):=by
 rw [Nat.eq_of_beq_eq_true hk];exact fm (Ds hb) h
theorem ef{l:List Sg}{i k:Nat}{h:H}(hb:Nat.blt i l.length=true)(hk:Nat.beq k 13=true):ROp.run (.load true 11) [.eptr (sgL l) (Nat.add (Nat.mul i 27) k)] h=some (.agg (exO (ck l i).size)):=by
 rw [Nat.eq_of_beq_eq_true hk];exact fm (Bv hb) h
theorem rU{T:Ty}{K:Nat->Prop}{f f':F}{h:H}(h1:∀t v,lk f'.loc t=some v->lk f.loc t=some v)(h2:∀t v,lk f'.tmp t=some v->lk f.tmp t=some v):fG T K f h f' h:=by
 intro m N E0 g0 w0 E g w tmps s fr;refine⟨E,g,s,⟨fr.1,λt v e=>fr.2 t v ?_⟩,λid b o z e=>⟨id,o,z,e⟩⟩;unfold rdn at e ⊢
 split at e
 ·rename_i hb;rw [if_pos hb];exact h1 t v e
 ·rename_i hb;rw [if_neg hb];exact h2 t v e
inductive rC(f:AL):AL->Prop
 |nil:rC f []
 |cons {t:Nat} {v:V} {l:AL} (e:lk f t=some v) (p:bP v) (k:rC f l):rC f ((t,v) ::l)
theorem pO{i n:Nat}(h:Nat.blt i n=true)(hn:n<9223372036854775808):some (V.int .i64 (cT .i64 (Int.add (Int.ofNat i) 1)))=some (V.int .i64 (Int.ofNat (i+1))):=by
 have:=iU (i:=i) (by have:=Nat.le_of_ble_eq_true h;omega);show some (V.int .i64 (cT .i64 (Int.add (Int.ofNat i) (Int.ofNat 1))))=_;rw [this]
theorem rC.mem{f:AL}:∀{l:AL},rC f l->∀p,p∈l->lk f p.1=some p.2/\bP p.2
 |_,.nil,p,h=>by cases h
 |_,.cons e q k,p,h=>by
  rcases List.mem_cons.1 h with rfl|h
  ·exact⟨e,q⟩
  ·exact k.mem p h
theorem cA{f:F}{h:H}{l:AL}(k:rC f.loc l)(hb:h.blk 0=some (.ro 256 dN)):fG TP Kp f h ⟨l,[]⟩ H0:=by
 have u0:∀i,cL lp0 i->i=0:=λi ⟨b,e⟩=>by
  cases i with
  |zero=>rfl
  |succ i=>cases e
 have V:Vw TP h lp0 (λi=>i) (λ_=>none):=by
  refine⟨jV.len,λi b' e=>?_,λi j _ _ e=>e,λi j d hi _=>?_,(λk cs e=>by cases e),(λk cs i e=>by cases e),λq hq=>⟨rfl,jV.all q hq⟩⟩
  ·obtain rfl:=u0 i ⟨_,e⟩
   obtain rfl:Blk.ro 256 dN=b':=by cases e;rfl
   exact⟨_,hb,.ro λj v e=>.flat (d3 eJ (by rw [fU];unfold bR;omega) e)⟩
  ·rw [u0 i hi]
   exact dH hb
 exact V.view (λid h=>by obtain rfl:id=0:=h;exact⟨⟨_,rfl⟩,rfl⟩) (.inl λ_=>rfl) ⟨λp hp=>⟨p.2,(k.mem p hp).1,.pure (k.mem p hp).2⟩,λp hp=>by cases hp⟩
inductive l8(k:Nat)(cs:List V)(f:AL):AL->Prop
 |nil:l8 k cs f []
 |fz {t off:Nat} {l:AL} (e:lk f t=some (.ptr k off)) (r:l8 k cs f l):l8 k cs f ((t,.eptr cs off) ::l)
 |cons {t:Nat} {v:V} {l:AL} (e:lk f t=some v) (p:bP v) (r:l8 k cs f l):l8 k cs f ((t,v) ::l)
theorem l8.mem{U:Nat->Prop}{k:Nat}{cs:List V}{f:AL}(hp:∀c,c∈cs->bP c):∀{l:AL},l8 k cs f l->∀p,p∈l->∃v,lk f p.1=some v/\Rn U (λi=>i) (λj=>if j=k then some cs else none) p.2 v
 |_,.nil,p,h=>by cases h
 |_,.fz e r,p,h=>by
  rcases List.mem_cons.1 h with rfl|h
  ·exact⟨_,e,.fz (by rw [if_pos rfl]) (RnL.pure hp)⟩
  ·exact l8.mem hp r p h
 |_,.cons e q r,p,h=>by
  rcases List.mem_cons.1 h with rfl|h
  ·exact⟨_,e,.pure q⟩
  ·exact l8.mem hp r p h
theorem ED{f:F}{h:H}{l:AL}{k n:Nat}{cs:List V}(kz:l8 k cs f.loc l)(hz:h.blk k=some (.cells n (cq cs 0 .e) none false))(hn:Nat.beq (bY cs) n=true)(hk:Nat.ble n bR=true)(hp:∀c,c∈cs->bP c)(hb:h.blk 0=some (.ro 256 dN)):fG TP Kp f h ⟨l,[]⟩ H0:=by
 have hn':cs.length=n:=by rw [<-@bV noE];exact Nat.eq_of_beq_eq_true hn
 have hk':=Nat.le_of_ble_eq_true hk;have u0:∀i,cL lp0 i->i=0:=λi ⟨b,e⟩=>by
  cases i with
  |zero=>rfl
  |succ i=>cases e
 have hk0:k≠0:=λq=>by rw [q,hb]at hz;cases hz
 have noUpK:∀{b d},¬Up h k b d:=λu=>by
  cases u with
  |one e' k'=>rw [hz]at e';cases e';cases k'
  |step e' k' _=>rw [hz]at e';cases e';cases k'
 have V:Vw TP h lp0 (λi=>i) (λj=>if j=k then some cs else none):=by
  refine⟨jV.len,λi b' e=>?_,λi j _ _ e=>e,λi j d hi _=>?_,λj cs' e _=>?_,λj cs' i e hi=>?_,λq hq=>⟨rfl,jV.all q hq⟩⟩
  ·obtain rfl:=u0 i ⟨_,e⟩
   obtain rfl:Blk.ro 256 dN=b':=by cases e;rfl
   exact⟨_,hb,.ro λj v e=>.flat (d3 eJ (by rw [fU];unfold bR;omega) e)⟩
  ·rw [u0 i hi]
   exact dH hb
  ·by_cases q:j=k
   ·subst q
    rw [if_pos rfl]at e;cases e;refine⟨_,_,_,by rw [hn'];exact hz,λi v hv=>?_⟩;have:=(List.getElem?_eq_some_iff.1 hv).1;rw [@cU noE cs 0 .e i (by omega),if_pos (by omega),Nat.sub_zero];exact hv
   ·rw [if_neg q]at e;cases e
  ·obtain rfl:=u0 i hi
   by_cases q:j=k
   ·subst q
    exact⟨λq=>hk0 q.symm,λd=>dH hb,λd=>noUpK⟩
   ·rw [if_neg q]at e;cases e
 exact V.view (λid h=>by obtain rfl:id=0:=h;exact⟨⟨_,rfl⟩,rfl⟩) (.inr pn) ⟨λp h=>kz.mem hp p h,λp hp=>by cases hp⟩
theorem pxE(l:List Ex):bP (.lst l.length 11 (exL l)):= .lst λc hc=>(iB l c hc).x
theorem pxS(l:List Sg):bP (.lst l.length 27 (sgL l)):= .lst λc hc=>(qq l c hc).x
theorem pxC(l:List Cl):bP (.lst l.length 4 (clL l)):= .lst λc hc=>(nI l c hc).x
theorem pxM(l:List Sm):bP (.lst l.length 23 (smL l)):= .lst λc hc=>(kT l c hc).x
theorem pxG(l:List (List Ex)):bP (.lst l.length 1 (gdL l)):= .lst λc hc=>(qW l c hc).x
theorem pxe(x:Ex):bP (.agg (exO x)):= .agg λc hc=>(cZ x c hc).x
theorem pxc(x:Cl):bP (.agg (clO x)):= .agg λc hc=>(gz x c hc).x
theorem pxm(x:Sm):bP (.agg (smO x)):= .agg λc hc=>(jT x c hc).x
theorem pxq(x:Ex):bP (.eptr (exO x) 0):= .eptr λc hc=>(cZ x c hc).x
theorem FH(x:Cl):bP (.eptr (clO x) 0):= .eptr λc hc=>(gz x c hc).x
theorem ix2{es n:Nat}{cs:List V}{k:IntKind}(h:(!eqI (Int.ofNat n) 2)=false):POp.run (.ixsl es) [.lst n es cs,.int k 0]=some (.eptr cs (Nat.mul 0 es)):=by
 have:n=2:=by
  cases q:Nat.beq n 2 with
  |true=>exact Nat.eq_of_beq_eq_true q
  |false=>
   have h:(!Nat.beq n 2)=false:=h;rw [q]at h;cases h
 subst this;exact bN (i:=0) rfl
theorem Ge{l:List Ex}(h:(!eqI (Int.ofNat l.length) 2)=false):eY (exL l) (Nat.mul 0 11) (exO (bW l 0)):=by
 refine EU ?_;cases q:Nat.beq l.length 2 with
 |true=>rw [Nat.eq_of_beq_eq_true q];rfl
 |false=>
  have h:(!Nat.beq l.length 2)=false:=h;rw [q]at h;cases h
theorem bO{v:V}{l:List V}(h1:bP v)(h2:∀c,c∈l->bP c):∀c,c∈v ::l->bP c:=λc hc=>by
 rcases List.mem_cons.1 hc with rfl|h
 ·exact h1
 ·exact h2 c h
theorem px0:∀c,c∈([]:List V)->bP c:=λc h=>by cases h
theorem Hy{p:Prop}(h:p:=by assumption):p:=h
theorem RA{p:Prop}(h:p:=by first|rfl|assumption):p:=h
theorem PX{v:V}(h:bP v:=by first|exact .flat rfl|exact pxE _|exact pxS _|exact pxC _|exact pxM _|exact pxG _|exact pxL _|exact pxe _|exact pxq _|exact pxqs _|exact FH _|exact pxqm _|exact pxs _|exact pxc _|exact pxm _|assumption):bP v:=h
theorem PB{cs:List V}(h:∀c,c∈cs->bP c:=by first|exact λc hc=>(cZ _ c hc).x|exact λc hc=>(fM _ c hc).x|exact λc hc=>(gz _ c hc).x|exact λc hc=>(jT _ c hc).x|repeat' (first|exact px0|refine bO ?_ ?_|exact PX)):∀c,c∈cs->bP c:=h
theorem KT{f l:AL}(h:rC f l:=by repeat' (first|exact .nil|refine .cons rfl ?_ ?_|refine .cons (pO (by assumption) (by assumption)) ?_ ?_|exact PX)):rC f l:=h
end Ev
end Go.Proofs.YtdfphfdnoobikaaGreatDoor
