/-
  The seat's program:calls from ways through its code.
-/
import Derived.Test.YtdfphfdnoobikaaGreatDoorLtTab1
import Derived.Test.YtdfphfdnoobikaaGreatDoorEvWL
namespace Go.Proofs.YtdfphfdnoobikaaGreatDoor
namespace Ev
theorem Nx{b:Bool}{P:Prop}(h:b=true)(k:b=false):P:=by rw [h] at k;cases k
theorem FY(P:Program)(pin:List (Nat×Nat×Nat×Tr V)):da P ⟨P.info?,P.underlying,λt=>!P.stoodInHeld t && !P.eqGuardType P.depth t,pin⟩:=⟨λ_ _ h=>h,λ_ _ h=>h,λt h=>by
 have h:(!P.stoodInHeld t && !P.eqGuardType P.depth t)=true:=h
 simpa using h⟩
theorem rF:da Tryz.prog TP:=FY Tryz.prog _
theorem mixed:Tryz.prog.follows .mixedOrders=true:=by kernel_rfl
noncomputable section
def lp0:List (Option Blk):=[some (.ro 256 (cM tbl 0 .e))]
def H0:H:=⟨trO lp0 0 .e,1⟩
def Kp:Nat->Prop:=λid=>id=0
end
theorem fD:tbl.all flat=true:=by kernel_rfl
theorem jv:TP.pin=[(0,0,256,d3)]:=rfl
theorem ig:tbl.length=256:=by rw [<-@cq noE];kernel_rfl
theorem eX{l:List V}(h:l.all flat=true)(b:l.length<=bZ){j:Nat}{v:V}(a:(cM l 0 .e).get j=some v):flat v=true:=by
 rw [@dz noE l 0 .e j (by omega)]at a
 split at a
 ·exact List.all_eq_true.1 h v (List.mem_of_getElem? a)
 ·cases a
theorem Gy{T:Ty}{n:Nat}{tr:Tr V}(a:T.pin=[(0,0,n,tr)])(c:∀j v,tr.get j=some v->flat v=true):FM T [some (.ro n tr)]:=by
 refine⟨by show 1<=bZ;unfold bZ;omega,λi b e=>?_,λp h=>?_⟩
 ·cases i with
  |succ i=>cases e
  |zero=>
   cases e;exact⟨(0,0,n,tr),by rw [a];exact List.mem_singleton.2 rfl,rfl,rfl,λj v e=>.flat (c j v e)⟩
 ·rw [a]at h
  rw [List.mem_singleton.1 h];rfl
theorem l8:FM TP lp0:=Gy jv λj v e=>eX fD (by rw [ig];unfold bZ;omega) e
theorem pn:Pn TP Kp:=λ_ h=>⟨(0,0,256,d3),by rw [jv];exact List.mem_singleton.2 rfl,h.symm⟩
mutual
def szV:V->Nat
 |.str n _=>n+1
 |.lst _ _ cs=>1+bS cs
 |.eptr cs _=>1+bS cs
 |.agg cs=>bS cs
 |_=>1
def bS:List V->Nat
 |[]=>0
 |v ::l=>szV v+bS l
end
theorem cy:∀a b:List V,bS (a++b)=bS a+bS b
 |[],b=>by rw [List.nil_append,bS,Nat.zero_add]
 |v ::a,b=>by rw [List.cons_append,bS,cy a b,bS,Nat.add_assoc]
theorem dZ(x:Ex):bS (exO x)=1+(1+((x.name.size+1)+((x.text.size+1)+((1+bS (exL x.items))+((1+bS (sgL x.segs))+((1+bS (clL x.clauses))+((1+bS (clL x.catches))+((1+bS (smL x.body))+((1+bS (smL x.after))+1))))))))):=rfl
theorem gM(c:Cl):bS (clO c)=(c.name.size+1)+((1+bS (exL c.pats))+((1+bS (gdL c.guards))+(1+bS (smL c.body)))):=rfl
theorem nj(s:Sm):bS (smO s)=1+(bS (exO s.pat)+bS (exO s.val)):=by
 show szV (.bool s.isMatch)+bS (exO s.pat++exO s.val)=_;rw [cy];rfl
theorem lR(s:Sg):bS (sgO s)=1+((s.text.size+1)+(bS (exO s.val)+(bS (exO s.size)+3))):=by
 unfold sgO;rw [bS,bS,cy,cy];simp [bS,szV,sV]
theorem Km{f a:En}{e d:G}{v:V}{u:Value}(g:flat v=true)(h:@VR f e v u):@VR a d v u:=by
 cases v with
 |bool b=>cases h;exact @VR.bool a d b
 |int k n=>cases h;exact @VR.int a d k n
 |str n c=>cases h;exact @VR.str a d _
 |nilp=>cases h;exact @VR.nilp a d
 |nils=>cases h;exact @VR.nils a d
 |nilm=>cases h;exact @VR.nilm a d
 |nilf=>cases h;exact @VR.nilf a d
 |nili=>cases h;exact @VR.nili a d
 |_=>cases g
section
variable {U U':Nat->Prop} {ρ:Nat->Nat} {Z:Nat->Option (List V)} (hU:∀i,U i->U' i)
include hU
mutual
theorem Rn.used:∀{v' v:V},Rn U ρ Z v' v->Rn U' ρ Z v' v
 |_,_,.pure h=>.pure h
 |_,_,.ptr h=>.ptr (hU _ h)
 |_,_,.sl h=>.sl (hU _ h)
 |_,_,.map h=>.map (hU _ h)
 |_,_,.func a b=>.func (RnL.used a) (RnL.used b)
 |_,_,.agg a=>.agg (RnL.used a)
 |_,_,.tup a=>.tup (RnL.used a)
 |_,_,.lst a=>.lst (RnL.used a)
 |_,_,.eptr a=>.eptr (RnL.used a)
 |_,_,.fz k a=>.fz k (RnL.used a)
 |_,_,.fzs k l a=>.fzs k l (RnL.used a)
 |_,_,.nil0 k=>.nil0 k
theorem RnL.used:∀{v' v:List V},RnL U ρ Z v' v->RnL U' ρ Z v' v
 |_,_,.nil=>by
  have _a:=@hU;exact .nil
 |_,_,.cons h t=>.cons (Rn.used h) (RnL.used t)
end
end
theorem RnL.each{U:Nat->Prop}{ρ:Nat->Nat}{Z:Nat->Option (List V)}{E E':En}{g g':G}(tr:∀v' v u,Rn U ρ Z v' v->@VR E g v u->@VR E' g' v' u):∀{a b:List V},RnL U ρ Z a b->∀{us:List Value},@VRs E g b us->@VRs E' g' a us
 |_,_,.nil,_,k=>by cases k;exact @VRs.nil E' g'
 |_,_,.cons h t,_,k=>by cases k with|cons p q=>exact @VRs.cons E' g' _ _ _ _ (tr _ _ _ h p) (RnL.each tr t q)
theorem IM{T:Ty}{n:Nat}{tr:Tr V}(hp:T.pin=[(0,0,n,tr)]){E:En}{g:G}{h:H}{w:World}(s:Sit T E g h w):(∃z,g 0=some (0,0,z))/\h.blk 0=some (.ro n tr):=
 s.pin (0,0,n,tr) (by rw [hp];exact List.mem_singleton.2 rfl)
theorem Sit.pin0{E:En}{g:G}{h:H}{w:World}(s:Sit TP E g h w):(∃z,g 0=some (0,0,z))/\h.blk 0=some (.ro 256 d3):=IM jv s
theorem la.callZ{f:FuncId}{vs A:List V}{v:V}(c:la Tryz.prog TP f vs v)(J:flat v=true){h:H}{Z:Nat->Option (List V)}(C:RnL (λi=>i=0) (λi=>i) Z vs A)
  (hz:∀k cs,Z k=some cs->∃t up ch,h.blk k=some (.cells cs.length t up ch)/\∀j v,cs[j]? =some v->t.get j=some v) {E:En} {g:G} {w:World} {us:List Value} (s:Sit TP E g h w) (M:@VRs E g A us):@nM E Tryz.prog TP f us g h w v h:=by
 have r:∀i,cY lp0 i->i=0:=λi ⟨b,e⟩=>by
  cases i with
  |zero=>rfl
  |succ i=>cases e
 obtain⟨⟨U,W⟩,I⟩:=s.pin0;have m:h.blk 0=some (.ro 256 d3):=I;have p:∀{a b d},Up h a b d->b=0->False:=λ{a b d} u=>by
  induction u with
  |one e k=>
   rintro rfl;obtain⟨y,up,n1,n2,_⟩:=@WR.kids E TP g h w s.wr _ _ _ _ _ e k;rw [m]at n1;cases n1;cases n2
  |step _ _ _ ih=>exact ih
 have V:Vw TP h lp0 (λi=>i) Z:=by
  refine⟨l8.len,λi y e=>?_,λi j _ _ e=>e,λi j d hi _=>?_,(λk cs e _=>hz k cs e),λk cs i e hi=>?_,λq N=>⟨rfl,l8.all q N⟩⟩
  ·obtain rfl:=r i ⟨_,e⟩
   obtain rfl:Blk.ro 256 d3=y:=by cases e;rfl
   exact⟨_,m,.ro λj v e=>.flat (eX fD (by rw [ig];unfold bZ;omega) e)⟩
  ·rw [r i hi]
   exact d9 m
  ·obtain rfl:=r i hi
   refine⟨λq=>?_,λd=>d9 m,λd u=>p u rfl⟩;obtain⟨t,up,ch,n,_⟩:=hz k cs e;rw [<-q]at n;have n:h.blk 0=_:=n;rw [m]at n;cases n
 obtain⟨E',g',hE,Y,_,s',hg,D,tr⟩:=V.sit s;have x:@VRs E' g' vs us:=RnL.each tr (RnL.used (λi h=>⟨_,by rw [h];rfl⟩) C) M;obtain⟨fn,n,L,O,F⟩:=c.out E' g' (jl lp0) w us s' x;refine⟨fn,n,L,O,F.mono ?_⟩;rintro e w' ⟨P,u,rfl,R,S,m3,T,l⟩;have B:Sit TP E g h w':=s.still E.le_refl (λ_ _ e=>.inl e) (λb c e=>T b c (S b c (hE b c e))) l;exact⟨g,u,rfl,Km J R,@Ext.mk E TP g h w g h w' (@G.le_refl g) (Nat.le_refl _) B.wr (λ_ _ e=>⟨e,rfl⟩) l.size (λb m _=>l.keep b m) (λid b o z h1 h2=>by rw [h2]at h1;cases h1) (λ_ b _ _ _ _ K Q=>⟨Q,l.keep b (s.lt K)⟩) l.os l.tape l.output⟩
def LV(f:FuncId)(vs:List V)(v:V):Prop:=
 if f=19\/f=38\/f=39 then ∃x m r,vs=[x,.int .i64 m]/\v= .int .i64 r/\r<=m/\-1<=r/\(0<=r->(szV x:Int)<=1+1000*(m-r))
 else if f=51 then ∃k,v= .int .i64 k
 else True
def FO(f:FuncId)(VS:List V)(h:H)(vs:List V)(v:V):Prop:=
 la Tryz.prog TP f vs v/\flat v=true/\LV f vs v/\∃Z,RnL (λi=>i=0) (λi=>i) Z vs VS/\∀k cs,Z k=some cs->∃t up ch,h.blk k=some (.cells cs.length t up ch)/\∀j v,cs[j]? =some v->t.get j=some v
open Classical in
noncomputable def ft:cN:=λc VS h=>match c with
 |.fn f=>if e:∃v vs,FO f VS h vs v then some (e.choose,h)else none
 |.yld _=>none
theorem jO(E:En):@fA E Tryz.prog TP ft:=by
 refine @fA.mk E _ _ _ (λf b h v h' e g w us r i d=>?_) (λid vs h v h' e=>by cases e);unfold ft at e
 by_cases q:∃v vs,FO f b h vs v
 ·have e:=(dif_pos q).symm.trans e
  obtain⟨vs,c,j,_,Z,a,hz⟩:=q.choose_spec;obtain⟨rfl,rfl⟩:=Prod.mk.inj (Option.some.inj e);exact c.callZ j a hz ⟨r,i⟩ d
 ·have e:=(dif_neg q).symm.trans e
  cases e
theorem sf{f:FuncId} {fn:Func} {cf:CF} (hfn:Tryz.prog.funcs[f]? =some fn) (hnm:fn.name≠ "runtime.NumGoroutine") (hcf:ci TP fn=some cf) {vs:List V} (hlen:vs.length=cf.params) (hvs:∀v,v∈vs->bY v) {R:V->Prop}
  (k:W Tryz.prog TP Kp ft 1 cf.code ⟨d8 vs 0,[]⟩ H0 λx f1 h1=>(x= .norm\/x= .ret)/\∃l,ip f1 h1 cf.results=some l/\bY (dq l)/\R (dq l)):∃v,la Tryz.prog TP f vs v/\R v:=by
 obtain⟨x,f1,h1,k1,hx,l,k2,k3,k4⟩:=k;exact⟨_,(ii rF jO mixed hfn hnm hcf hlen k1 hx k2).conP l8 hvs k3,k4⟩
noncomputable def rb(f:FuncId)(vs:List V):Bool:=by
 classical exact if la Tryz.prog TP f vs (.bool true)then true else false
abbrev jj(f:FuncId)(vs:List V):Prop:=la Tryz.prog TP f vs (.bool (rb f vs))
theorem Kw{f:FuncId}{vs:List V}(h:∃v,la Tryz.prog TP f vs v/\∃b,v= .bool b):jj f vs:=by
 obtain⟨v,c,b,rfl⟩:=h;unfold jj rb
 by_cases q:la Tryz.prog TP f vs (.bool true)
 ·rw [if_pos q]
  exact q
 ·rw [if_neg q]
  cases b with
  |true=>exact absurd c q
  |false=>exact c
theorem Gu{f:FuncId}{vs:List V}(h:la Tryz.prog TP f vs (.bool true)):rb f vs=true:=if_pos h
theorem ltb{i n:Nat}(h:i<n):Nat.blt i n=true:=by simp [Nat.blt];omega
theorem LT{i n:Nat}(h:¬i<n):Nat.blt i n=false:=by
 rw [Bool.eq_false_iff];intro q;exact h (Nat.le_of_ble_eq_true q)
theorem cC{n m:Nat}(h:Nat.blt n m=false):m<=n:=by
 rcases Nat.lt_or_ge n m with k|k
 ·rw [ltb k]at h;cases h
 ·exact k
theorem wY{a:CF}{vs:List V}{loc:AL}(b:mY vs 0=some loc){Q:X->AL->H->Prop}(k:WC Tryz.prog TP Kp ft 1 a.code loc H0 Q){Q':X->F->H->Prop}(c:∀x l h,Q x l h->Q' x ⟨l,[]⟩ h):W Tryz.prog TP Kp ft 1 a.code ⟨d8 vs 0,[]⟩ H0 Q':=by
 rw [pD b];refine W.mono k.out λx f h q=>?_;have:=c x f.loc h q.2;rw [<-F.loc_eq q.1]at this;exact this
def Hu(cf:CF)(R:V->Prop)(x:X)(loc:AL)(h:H):Prop:=(x= .norm\/x= .ret)/\∃l,ip ⟨loc,[]⟩ h cf.results=some l/\bY (dq l)/\R (dq l)
def isB(v:V):Prop:=∃b,v= .bool b
theorem eS{f:FuncId} {fn:Func} {cf:CF} (hfn:Tryz.prog.funcs[f]? =some fn) (hnm:fn.name≠ "runtime.NumGoroutine") (hcf:ci TP fn=some cf) {vs:List V} (hlen:vs.length=cf.params) (hvs:∀v,v∈vs->bY v) {loc:AL} (hn:mY vs 0=some loc)
  (k:WC Tryz.prog TP Kp ft 1 cf.code loc H0 (Hu cf isB)):jj f vs:=Kw (sf hfn hnm hcf hlen hvs (wY hn k λ_ _ _ q=>q))
theorem eF{f:FuncId} {fn:Func} {cf:CF} (hfn:Tryz.prog.funcs[f]? =some fn) (hnm:fn.name≠ "runtime.NumGoroutine") (hcf:ci TP fn=some cf) {vs:List V} (hlen:vs.length=cf.params) (hvs:∀v,v∈vs->bY v) {R:V->Prop} {loc:AL} (hn:mY vs 0=some loc)
  (k:WC Tryz.prog TP Kp ft 1 cf.code loc H0 (Hu cf R)):∃v,la Tryz.prog TP f vs v/\R v:=sf hfn hnm hcf hlen hvs (wY hn k λ_ _ _ q=>q)
theorem cR{f:FuncId} {fn:Func} {cf:CF} (hfn:Tryz.prog.funcs[f]? =some fn) (hnm:fn.name≠ "runtime.NumGoroutine") (hcf:ci TP fn=some cf) {vs:List V} (hlen:vs.length=cf.params) (hvs:∀v,v∈vs->bY v) {w:V} {loc:AL} (hn:mY vs 0=some loc)
  (k:WC Tryz.prog TP Kp ft 1 cf.code loc H0 (Hu cf λv=>v=w)):la Tryz.prog TP f vs w:=by
 obtain⟨v,c,rfl⟩:=eF hfn hnm hcf hlen hvs hn k;exact c
abbrev CP:=la Tryz.prog TP
abbrev CN:=Con Tryz.prog TP noM
noncomputable def ri(f:FuncId)(vs:List V):Int:=by
 classical exact if CP f vs (.int .i64 0)then 0 else if h:∃k,CP f vs (.int .i64 k)then h.choose else 0
abbrev FP(f:FuncId)(vs:List V):Prop:=CP f vs (.int .i64 (ri f vs))
def isI(v:V):Prop:=∃k,v= .int .i64 k
theorem Fq{f:FuncId}{vs:List V}(h:∃v,CP f vs v/\isI v):FP f vs:=by
 obtain⟨v,c,b,rfl⟩:=h;have h:∃b,CP f vs (.int .i64 b):=⟨b,c⟩
 unfold FP ri
 by_cases q:CP f vs (.int .i64 0)
 ·rw [if_pos q]
  exact q
 ·rw [if_neg q,dif_pos h]
  exact h.choose_spec
def my:List (Nat×Nat)->List V
 |[]=>[]
 |p ::l=>.str p.1 p.2 ::my l
def ul(l:List (Nat×Nat))(i:Nat):Nat×Nat:=(l[i]?).getD (0,0)
theorem HJ{l:List (Nat×Nat)}{i:Nat}(h:Nat.blt i l.length=true):gq (my l) (Nat.mul i 1) [.str (ul l i).1 (ul l i).2]:=by
 have key:∀(l:List (Nat×Nat)) (i:Nat),i<l.length->∃a b,my l=a++([.str (ul l i).1 (ul l i).2]++b)/\a.length=i:=by
  intro l
  induction l with
  |nil=>intro i h;simp at h
  |cons p l ih=>
   intro i h;cases i with
   |zero=>exact⟨[],my l,rfl,rfl⟩
   |succ i=>
    obtain⟨a,b,e,k⟩:=ih i (by simpa using h);exact⟨.str p.1 p.2 ::a,b,by rw [my,e];rfl,by rw [List.length_cons,k]⟩
 obtain⟨a,b,e,k⟩:=key l i (Nat.le_of_ble_eq_true h);exact .of e (k.trans (Nat.mul_one i).symm)
theorem pxL(l:List (Nat×Nat)):bY (.lst l.length 1 (my l)):= .lst λc hc=>by
 induction l with
 |nil=>cases hc
 |cons p l ih=>
  rw [my,List.mem_cons]at hc;rcases hc with rfl|hc
  ·exact .flat rfl
  ·exact ih hc
theorem jZ{n c i:Nat}{k:IntKind}(h:Nat.blt i n=true):POp.run .ixstr [.str n c,.int k (Int.ofNat i)]=some (.int .u8 (Int.ofNat (Nat.mod (Nat.shiftRight c (Nat.mul 8 i)) 256))):=by
 show ob (idx (Int.ofNat i) n) (λm=>some (V.int .u8 (Int.ofNat (Nat.mod (Nat.shiftRight c (Nat.mul 8 m)) 256))))=_;rw [EL (Nat.le_of_ble_eq_true h)];rfl
theorem Kz{n:Nat}(h:Nat.blt n 1=false):Nat.blt 0 n=true:=ltb (cC h)
theorem DR{n c:Nat}(h:Nat.blt n 1=false):POp.run (.slc .str true false false) [.str n c,.int .i64 1]=some (.str (Nat.sub n 1) (Nat.mod (Nat.shiftRight c (Nat.mul 8 1)) (Nat.shiftLeft 1 (Nat.mul 8 (Nat.sub n 1))))):=by
 have h1:Nat.ble 1 n=true:=ltb (cC h);show ob (oif (Nat.ble 1 n) (some 1)) (λl=>some (V.str (Nat.sub n l) (Nat.mod (Nat.shiftRight c (Nat.mul 8 l)) (Nat.shiftLeft 1 (Nat.mul 8 (Nat.sub n l))))))=_;rw [h1];rfl
theorem Hi{n a m b:Nat}(h:Nat.blt (Nat.add n m) 1099511627776=true):POp.run (.bin .add) [.str n a,.str m b]=some (.str (Nat.add n m) (Nat.add a (Nat.shiftLeft b (Nat.mul 8 n)))):=by
 show oif (Nat.blt (Nat.add n m) 1099511627776) (some (V.str (Nat.add n m) (Nat.add a (Nat.shiftLeft b (Nat.mul 8 n)))))=_;rw [h];rfl
section
variable {P:Program} {T:Ty} {K:Nat->Prop} {call:cN} {n:Nat}
end
theorem bX{i n:Nat}(h:Nat.blt i n=true):i<n:=Nat.le_of_ble_eq_true h
theorem ce{es n i:Nat}{cs:List V}{k:IntKind}(h:Nat.blt i n=true):POp.run (.ixsl es) [.lst n es cs,.int k (Int.ofNat i)]=some (.eptr cs (Nat.mul i es)):=by
 show POp.run2 (.ixsl es) (.lst n es cs) (.int k (Int.ofNat i))=_;exact I2 (bX h)
noncomputable section
def ex0:Ex:= .mk 0 0 ⟨#[]⟩ ⟨#[]⟩ [] [] [] [] [] [] false
def cE(l:List Ex)(i:Nat):Ex:=(l[i]?).getD ex0
def cG(l:List Sg)(i:Nat):Sg:=(l[i]?).getD (.mk 0 ⟨#[]⟩ ex0 ex0 false false false)
def bV(l:List Cl)(i:Nat):Cl:=(l[i]?).getD (.mk ⟨#[]⟩ [] [] [])
def cK(l:List Sm)(i:Nat):Sm:=(l[i]?).getD (.mk false ex0 ex0)
def dm(l:List (List Ex))(i:Nat):List Ex:=(l[i]?).getD []
end
theorem cP{α:Type}{l:List α}{i:Nat}{d:α}(h:Nat.blt i l.length=true):l[i]? =some ((l[i]?).getD d):=by
 rw [List.getElem?_eq_getElem (bX h)];rfl
theorem jf{α:Type}{l:List α}{i:Nat}{d:α}(h:Nat.blt i l.length=true):(l[i]?).getD d∈l:=List.mem_of_getElem? (cP (d:=d) h)
theorem H4{l:List Ex}{i:Nat}(h:Nat.blt i l.length=true):gq (exL l) (Nat.mul i 11) (exO (cE l i)):=Kt (cP h)
theorem A8{l:List Sg}{i:Nat}(h:Nat.blt i l.length=true):gq (sgL l) (Nat.mul i 27) (sgO (cG l i)):=JL (cP h)
theorem H5{l:List Cl}{i:Nat}(h:Nat.blt i l.length=true):gq (clL l) (Nat.mul i 4) (clO (bV l i)):=Kx (cP h)
theorem A5{l:List Sm}{i:Nat}(h:Nat.blt i l.length=true):gq (smL l) (Nat.mul i 23) (smO (cK l i)):=JH (cP h)
theorem nD{l:List (List Ex)}{i:Nat}(h:Nat.blt i l.length=true):gq (gdL l) (Nat.mul i 1) [.lst (dm l i).length 11 (exL (dm l i))]:=Ki (cP h)
theorem qM{α:Type}:∀(k:Nat),kN k ([]:List α)=[]
 |0=>rfl
 |_+1=>rfl
theorem vu{α:Type}:∀(k j:Nat) (l:List α),kN (k+j) l=kN j (kN k l)
 |0,j,l=>by rw [Nat.zero_add];rfl
 |k+1,j,[]=>by rw [qM,qM,qM]
 |k+1,j,_ ::l=>by
  rw [show k+1+j=(k+j)+1 by omega];exact vu k j l
theorem qW{α:Type}:∀(n:Nat) {l x:List α},iR n l=some x->∃b,l=x++b/\x.length=n
 |0,l,x,h=>by cases h;exact⟨l,rfl,rfl⟩
 |n+1,[],x,h=>by cases h
 |n+1,y ::l,x,h=>by
  obtain⟨r,h1,h2⟩:=bQ.1 (show ob (iR n l) (λr=>some (y ::r))=some x from h);cases h2;obtain⟨b,e,k⟩:=qW n h1;exact⟨b,by rw [e];rfl,by rw [List.length_cons,k]⟩
theorem gq.sub{cs a y b:List V}{off:Nat}(e:gq cs off (a++(y++b))):gq cs (off+a.length) y:=by
 refine⟨?_,λj v d=>?_⟩
 ·obtain⟨r,c,_⟩:=qW _ e.whole
  rw [vu,c,List.append_assoc,List.append_assoc,qN,qp]
 ·rw [Nat.add_assoc]
  exact e.one _ _ (by rw [sW];exact qA d)
theorem IA{cs:List V}{off:Nat}{s:Sg}(e:gq cs off (sgO s)):gq cs (off+2) (exO s.val):=gq.sub (a:=[.int .i64 s.type,sV s.text]) e
theorem Gd{cs:List V}{off:Nat}{s:Sg}(e:gq cs off (sgO s)):gq cs (off+13) (exO s.size):=by
 have:gq cs (off+2) (exO s.val++(exO s.size++[.bool s.sized,.bool s.signed,.bool s.little])):=by
  have:=gq.sub (a:=[.int .i64 s.type,sV s.text]) (y:=exO s.val++(exO s.size++[.bool s.sized,.bool s.signed,.bool s.little])) (b:=[]) (by rw [List.append_nil];exact e);exact this
 exact gq.sub (a:=exO s.val) this
theorem Iw{cs:List V}{off:Nat}{s:Sm}(e:gq cs off (smO s)):gq cs (off+1) (exO s.pat):=gq.sub (a:=[.bool s.isMatch]) (b:=exO s.val) e
theorem Iv{cs:List V}{off:Nat}{s:Sm}(e:gq cs off (smO s)):gq cs (off+12) (exO s.val):=gq.sub (a:= .bool s.isMatch ::exO s.pat) (b:=[]) (by rw [List.append_nil];exact e)
theorem sz{a x b cs:List V}(e:cs=a++(x++b)):bS x<=bS cs:=by rw [e,cy,cy];omega
theorem tJ{l:List Ex}{i:Nat}(h:Nat.blt i l.length=true):bS (exO (cE l i))<=bS (exL l):=by obtain⟨a,b,e,_⟩:=Ai l i _ (cP (d:=ex0) h);exact sz e
theorem DU{l:List Sg}{i:Nat}(h:Nat.blt i l.length=true):bS (sgO (cG l i))<=bS (sgL l):=by obtain⟨a,b,e,_⟩:=zl l i _ (cP h);exact sz e
theorem oh{l:List Cl}{i:Nat}(h:Nat.blt i l.length=true):bS (clO (bV l i))<=bS (clL l):=by obtain⟨a,b,e,_⟩:=AA l i _ (cP h);exact sz e
theorem DP{l:List Sm}{i:Nat}(h:Nat.blt i l.length=true):bS (smO (cK l i))<=bS (smL l):=by obtain⟨a,b,e,_⟩:=zi l i _ (cP h);exact sz e
theorem tq{l:List (List Ex)}{i:Nat}(h:Nat.blt i l.length=true):1+bS (exL (dm l i))<=bS (gdL l):=by
 obtain⟨a,b,e,_⟩:=z6 l i _ (cP (d:=[]) h);have:bS [V.lst (dm l i).length 11 (exL (dm l i))]<=bS (gdL l):=sz (a:=a) (b:=b) e
 simpa [bS,szV]using this
theorem nB{α:Type}{f:α->List V}{g:List α->List V}(hn:g []=[])(hc:∀a l,g (a ::l)=f a++g l)(hf:∀a,1<=bS (f a)):∀l:List α,l.length<=bS (g l)
 |[]=>by simp
 |a ::l=>by
  rw [hc,cy,List.length_cons];have:=nB hn hc hf l;have:=hf a;omega
theorem dT(l:List Ex):l.length<=bS (exL l):=nB (f:=exO) (by rw [exL]) cV (λx=>by rw [dZ];omega) l
theorem jW(l:List Sg):l.length<=bS (sgL l):=nB (f:=sgO) (by rw [sgL]) fI (λx=>by rw [lR];omega) l
theorem fR(l:List Cl):l.length<=bS (clL l):=nB (f:=clO) (by rw [clL]) fj (λx=>by rw [gM];omega) l
theorem iJ(l:List Sm):l.length<=bS (smL l):=nB (f:=smO) (by rw [smL]) fE (λx=>by rw [nj];omega) l
theorem j0(l:List (List Ex)):l.length<=bS (gdL l):=nB (f:=λx=>[V.lst x.length 11 (exL x)]) (by rw [gdL]) (λa l=>by first|(rw [gdL];done)|(rw [gdL];rfl)) (λx=>by simp [bS,szV]) l
theorem F9{l:List Sm}{i:Nat}(h:Nat.blt i l.length=true):gq (smL l) (Nat.add (Nat.mul i 23) 1) (exO (cK l i).pat):=Iw (A5 h)
theorem F8{l:List Sm}{i:Nat}(h:Nat.blt i l.length=true):gq (smL l) (Nat.add (Nat.mul i 23) 12) (exO (cK l i).val):=Iv (A5 h)
theorem Gc{l:List Sg}{i:Nat}(h:Nat.blt i l.length=true):gq (sgL l) (Nat.add (Nat.mul i 27) 2) (exO (cG l i).val):=IA (A8 h)
theorem DT{l:List Sg}{i:Nat}(h:Nat.blt i l.length=true):gq (sgL l) (Nat.add (Nat.mul i 27) 13) (exO (cG l i).size):=Gd (A8 h)
theorem dF{l:List Ex}{i:Nat}{h:H}(hb:Nat.blt i l.length=true):ROp.run (.load true 11) [.eptr (exL l) (Nat.mul i 11)] h=some (.agg (exO (cE l i))):=gJ (H4 hb) h
theorem iS{l:List Sg}{i k n:Nat}{v:V}{h:H}(hb:Nat.blt i l.length=true)(hv:ff (sgO (cG l i)) k=some v):ROp.run (.load false n) [.eptr (sgL l) (Nat.add (Nat.mul i 27) k)] h=some v:=dY (A8 hb) hv h
theorem fq{l:List Sg}{i:Nat}{h:H}(hb:Nat.blt i l.length=true):ROp.run (.load true 27) [.eptr (sgL l) (Nat.mul i 27)] h=some (.agg (sgO (cG l i))):=gJ (A8 hb) h
theorem dy{l:List Cl}{i k n:Nat}{v:V}{h:H}(hb:Nat.blt i l.length=true)(hv:ff (clO (bV l i)) k=some v):ROp.run (.load false n) [.eptr (clL l) (Nat.add (Nat.mul i 4) k)] h=some v:=dY (H5 hb) hv h
theorem eV{l:List Cl}{i:Nat}{h:H}(hb:Nat.blt i l.length=true):ROp.run (.load true 4) [.eptr (clL l) (Nat.mul i 4)] h=some (.agg (clO (bV l i))):=gJ (H5 hb) h
theorem jG{l:List Sm}{i k n:Nat}{v:V}{h:H}(hb:Nat.blt i l.length=true)(hv:ff (smO (cK l i)) k=some v):ROp.run (.load false n) [.eptr (smL l) (Nat.add (Nat.mul i 23) k)] h=some v:=dY (A5 hb) hv h
theorem fV{l:List Sm}{i:Nat}{h:H}(hb:Nat.blt i l.length=true):ROp.run (.load true 23) [.eptr (smL l) (Nat.mul i 23)] h=some (.agg (smO (cK l i))):=gJ (A5 hb) h
theorem dw{l:List Sm}{i k:Nat}{h:H}(b:Nat.blt i l.length=true)(a:Nat.beq k 1=true):ROp.run (.load true 11) [.eptr (smL l) (Nat.add (Nat.mul i 23) k)] h=some (.agg (exO (cK l i).pat)):=by
 rw [Nat.eq_of_beq_eq_true a];exact gJ (F9 b) h
theorem dv{l:List Sm}{i k:Nat}{h:H}(b:Nat.blt i l.length=true)(a:Nat.beq k 12=true):ROp.run (.load true 11) [.eptr (smL l) (Nat.add (Nat.mul i 23) k)] h=some (.agg (exO (cK l i).val)):=by
 rw [Nat.eq_of_beq_eq_true a];exact gJ (F8 b) h
theorem dC{l:List Sg}{i k:Nat}{h:H}(b:Nat.blt i l.length=true)(a:Nat.beq k 2=true):ROp.run (.load true 11) [.eptr (sgL l) (Nat.add (Nat.mul i 27) k)] h=some (.agg (exO (cG l i).val)):=by
 rw [Nat.eq_of_beq_eq_true a];exact gJ (Gc b) h
theorem dc{l:List Sg}{i k:Nat}{h:H}(b:Nat.blt i l.length=true)(a:Nat.beq k 13=true):ROp.run (.load true 11) [.eptr (sgL l) (Nat.add (Nat.mul i 27) k)] h=some (.agg (exO (cG l i).size)):=by
 rw [Nat.eq_of_beq_eq_true a];exact gJ (DT b) h
theorem uE{T:Ty}{K:Nat->Prop}{f f':F}{h:H}(h1:∀t v,lk f'.loc t=some v->lk f.loc t=some v)(h2:∀t v,lk f'.tmp t=some v->lk f.tmp t=some v):fy T K f h f' h:=by
 intro m N E0 g0 w0 E g w tmps s fr;refine⟨E,g,s,⟨fr.1,λt v e=>fr.2 t v ?_⟩,λid b o z e=>⟨id,o,z,e⟩⟩;unfold rdn at e ⊢
 split at e
 ·rename_i a;rw [if_pos a];exact h1 t v e
 ·rename_i a;rw [if_neg a];exact h2 t v e
inductive uf(f:AL):AL->Prop
 |nil:uf f []
 |cons {t:Nat} {v:V} {l:AL} (e:lk f t=some v) (p:bY v) (k:uf f l):uf f ((t,v) ::l)
theorem mG{i n:Nat}(h:Nat.blt i n=true)(a:n<9223372036854775808):some (V.int .i64 (dA .i64 (Int.add (Int.ofNat i) 1)))=some (V.int .i64 (Int.ofNat (i+1))):=by
 have:=j8 (i:=i) (by have:=Nat.le_of_ble_eq_true h;omega);show some (V.int .i64 (dA .i64 (Int.add (Int.ofNat i) (Int.ofNat 1))))=_;rw [this]
theorem uf.mem{f:AL}:∀{l:AL},uf f l->∀p,p∈l->lk f p.1=some p.2/\bY p.2
 |_,.nil,p,h=>by cases h
 |_,.cons e q k,p,h=>by
  rcases List.mem_cons.1 h with rfl|h
  ·exact⟨e,q⟩
  ·exact k.mem p h
theorem cS{f:F}{h:H}{l:AL}(k:uf f.loc l)(g:h.blk 0=some (.ro 256 d3)):fy TP Kp f h ⟨l,[]⟩ H0:=by
 have c:∀i,cY lp0 i->i=0:=λi ⟨b,e⟩=>by
  cases i with
  |zero=>rfl
  |succ i=>cases e
 have V:Vw TP h lp0 (λi=>i) (λ_=>none):=by
  refine⟨l8.len,λi m e=>?_,λi j _ _ e=>e,λi j d hi _=>?_,(λk cs e=>by cases e),(λk cs i e=>by cases e),λq n=>⟨rfl,l8.all q n⟩⟩
  ·obtain rfl:=c i ⟨_,e⟩
   obtain rfl:Blk.ro 256 d3=m:=by cases e;rfl
   exact⟨_,g,.ro λj v e=>.flat (eX fD (by rw [ig];unfold bZ;omega) e)⟩
  ·rw [c i hi]
   exact d9 g
 exact V.view (λid h=>by obtain rfl:id=0:=h;exact⟨⟨_,rfl⟩,rfl⟩) (.inl λ_=>rfl) ⟨λp a=>⟨p.2,(k.mem p a).1,.pure (k.mem p a).2⟩,λp a=>by cases a⟩
inductive ot(k:Nat)(cs:List V)(f:AL):AL->Prop
 |nil:ot k cs f []
 |fz {t off:Nat} {l:AL} (e:lk f t=some (.ptr k off)) (r:ot k cs f l):ot k cs f ((t,.eptr cs off) ::l)
 |cons {t:Nat} {v:V} {l:AL} (e:lk f t=some v) (p:bY v) (r:ot k cs f l):ot k cs f ((t,v) ::l)
theorem ot.mem{U:Nat->Prop}{k:Nat}{cs:List V}{f:AL}(hp:∀c,c∈cs->bY c):∀{l:AL},ot k cs f l->∀p,p∈l->∃v,lk f p.1=some v/\Rn U (λi=>i) (λj=>if j=k then some cs else none) p.2 v
 |_,.nil,p,h=>by cases h
 |_,.fz e r,p,h=>by
  rcases List.mem_cons.1 h with rfl|h
  ·exact⟨_,e,.fz (by rw [if_pos rfl]) (RnL.pure hp)⟩
  ·exact ot.mem hp r p h
 |_,.cons e q r,p,h=>by
  rcases List.mem_cons.1 h with rfl|h
  ·exact⟨_,e,.pure q⟩
  ·exact ot.mem hp r p h
theorem HE{f:F}{h:H}{l:AL}{k n:Nat}{cs:List V}(z:ot k cs f.loc l)(hz:h.blk k=some (.cells n (cM cs 0 .e) none false))(y:Nat.beq (cD cs) n=true)(x:Nat.ble n bZ=true)(r:∀c,c∈cs->bY c)(g:h.blk 0=some (.ro 256 d3)):fy TP Kp f h ⟨l,[]⟩ H0:=by
 have m:cs.length=n:=by rw [<-@cq noE];exact Nat.eq_of_beq_eq_true y
 have w:=Nat.le_of_ble_eq_true x;have o:∀i,cY lp0 i->i=0:=λi ⟨b,e⟩=>by
  cases i with
  |zero=>rfl
  |succ i=>cases e
 have s:k≠0:=λq=>by rw [q,g]at hz;cases hz
 have a:∀{b d},¬Up h k b d:=λu=>by
  cases u with
  |one e' k'=>rw [hz]at e';cases e';cases k'
  |step e' k' _=>rw [hz]at e';cases e';cases k'
 have V:Vw TP h lp0 (λi=>i) (λj=>if j=k then some cs else none):=by
  refine⟨l8.len,λi A e=>?_,λi j _ _ e=>e,λi j d hi _=>?_,λj cs' e _=>?_,λj cs' i e hi=>?_,λq B=>⟨rfl,l8.all q B⟩⟩
  ·obtain rfl:=o i ⟨_,e⟩
   obtain rfl:Blk.ro 256 d3=A:=by cases e;rfl
   exact⟨_,g,.ro λj v e=>.flat (eX fD (by rw [ig];unfold bZ;omega) e)⟩
  ·rw [o i hi]
   exact d9 g
  ·by_cases q:j=k
   ·subst q
    rw [if_pos rfl]at e;cases e;refine⟨_,_,_,by rw [m];exact hz,λi v t=>?_⟩;have:=(List.getElem?_eq_some_iff.1 t).1;rw [@dz noE cs 0 .e i (by omega),if_pos (by omega),Nat.sub_zero];exact t
   ·rw [if_neg q]at e;cases e
  ·obtain rfl:=o i hi
   by_cases q:j=k
   ·subst q
    exact⟨λq=>s q.symm,λd=>d9 g,λd=>a⟩
   ·rw [if_neg q]at e;cases e
 exact V.view (λid h=>by obtain rfl:id=0:=h;exact⟨⟨_,rfl⟩,rfl⟩) (.inr pn) ⟨λp h=>z.mem r p h,λp r=>by cases r⟩
theorem pxE(l:List Ex):bY (.lst l.length 11 (exL l)):= .lst λc hc=>(jb l c hc).x
theorem pxS(l:List Sg):bY (.lst l.length 27 (sgL l)):= .lst λc hc=>(ph l c hc).x
theorem pxC(l:List Cl):bY (.lst l.length 4 (clL l)):= .lst λc hc=>(kR l c hc).x
theorem pxM(l:List Sm):bY (.lst l.length 23 (smL l)):= .lst λc hc=>(lQ l c hc).x
theorem pxG(l:List (List Ex)):bY (.lst l.length 1 (gdL l)):= .lst λc hc=>(pK l c hc).x
theorem pxe(x:Ex):bY (.agg (exO x)):= .agg λc hc=>(dQ x c hc).x
theorem pxc(x:Cl):bY (.agg (clO x)):= .agg λc hc=>(hO x c hc).x
theorem pxm(x:Sm):bY (.agg (smO x)):= .agg λc hc=>(ko x c hc).x
theorem pxq(x:Ex):bY (.eptr (exO x) 0):= .eptr λc hc=>(dQ x c hc).x
theorem II(x:Cl):bY (.eptr (clO x) 0):= .eptr λc hc=>(hO x c hc).x
theorem ix2{es n:Nat}{cs:List V}{k:IntKind}(h:(!eqI (Int.ofNat n) 2)=false):POp.run (.ixsl es) [.lst n es cs,.int k 0]=some (.eptr cs (Nat.mul 0 es)):=by
 have:n=2:=by
  cases q:Nat.beq n 2 with
  |true=>exact Nat.eq_of_beq_eq_true q
  |false=>
   have h:(!Nat.beq n 2)=false:=h;rw [q]at h;cases h
 subst this;exact ce (i:=0) rfl
theorem Je{l:List Ex}(h:(!eqI (Int.ofNat l.length) 2)=false):gq (exL l) (Nat.mul 0 11) (exO (cE l 0)):=by
 refine H4 ?_;cases q:Nat.beq l.length 2 with
 |true=>rw [Nat.eq_of_beq_eq_true q];rfl
 |false=>
  have h:(!Nat.beq l.length 2)=false:=h;rw [q]at h;cases h
theorem cg{v:V}{l:List V}(h1:bY v)(h2:∀c,c∈l->bY c):∀c,c∈v ::l->bY c:=λc hc=>by
 rcases List.mem_cons.1 hc with rfl|h
 ·exact h1
 ·exact h2 c h
theorem px0:∀c,c∈([]:List V)->bY c:=λc h=>by cases h
theorem Hy{p:Prop}(h:p:=by assumption):p:=h
theorem RA{p:Prop}(h:p:=by first|rfl|assumption):p:=h
theorem PX{v:V}(h:bY v:=by first|exact .flat rfl|exact pxE _|exact pxS _|exact pxC _|exact pxM _|exact pxG _|exact pxL _|exact pxe _|exact pxq _|exact pxqs _|exact II _|exact pxqm _|exact pxs _|exact pxc _|exact pxm _|assumption):bY v:=h
theorem PB{cs:List V}(h:∀c,c∈cs->bY c:=by first|exact λc hc=>(dQ _ c hc).x|exact λc hc=>(fH _ c hc).x|exact λc hc=>(hO _ c hc).x|exact λc hc=>(ko _ c hc).x|repeat' (first|exact px0|refine cg ?_ ?_|exact PX)):∀c,c∈cs->bY c:=h
section
variable {P:Program} {T:Ty} {K:Nat->Prop} {call:cN} {loc tmp loc' tmp' loc1 tmp1 loc2 tmp2:AL} {h:H} {l:List cj} {R:AL->H->Prop} {d d2:Dst} {args args2:List Opd} {gd gd2:Option (Opd×Bool)} {lo hi lo2 hi2:Nat} {x:V} {zero:List V} {n:Nat}
theorem aE(k:WL P T K call l loc' tmp' h R)(b:cm ⟨loc,tmp⟩ gd=some true:=by exact rfl)(e1:evs ⟨loc,tmp⟩ args=some [x]:=by exact rfl)(h1:cU (cellsOf x)=true:=by exact RA)(h2:Nat.blt (cD (cellsOf x)) bZ=true:=by exact rfl)(hp:∀c,c∈cellsOf x->bY c:=by exact PB)(e3:d7 d (.eptr (cellsOf x) 0) loc tmp=some (loc',tmp'):=by exact rfl):WL P T K call (⟨d,.a .box,args,gd,lo,hi⟩ ::l) loc tmp h R:=aV b e1 h1 h2 hp e3 k
theorem aN(k:WL P T K call l loc2 tmp2 h R)(b:cm ⟨loc,tmp⟩ gd=some true:=by exact rfl)(e1:evs ⟨loc,tmp⟩ args=some []:=by exact rfl)(hk:Nat.blt h.next bZ=true:=by exact RA)(p1:d7 d (.ptr h.next 0) loc tmp=some (loc1,tmp1):=by exact rfl)(e2:cm ⟨loc1,tmp1⟩ gd2=some true:=by exact rfl)(e3:evs ⟨loc1,tmp1⟩ args2=some [.ptr h.next 0,x]:=by exact rfl)(hn:Nat.beq (cD (cellsOf x)) n=true:=by exact rfl)(hz:Nat.beq (cD zero) n=true:=by exact rfl)(z1:cU zero=true:=by exact rfl)(z2:Nat.blt n bZ=true:=by exact rfl)(ho:cU (cellsOf x)=true:=by exact RA)(hp:∀c,c∈cellsOf x->bY c:=by exact PB)
  (p2:d7 d (.eptr (cellsOf x) 0) loc tmp=some (loc',tmp'):=by exact rfl) (p3:d7 d2 cT loc' tmp'=some (loc2,tmp2):=by exact rfl):WL P T K call (⟨d,.a (.alloc zero),args,gd,lo,hi⟩ ::⟨d2,.e (.store n),args2,gd2,lo2,hi2⟩ ::l) loc tmp h R:=aJ b e1 hk p1 e2 e3 hn hz z1 z2 ho hp p2 p3 k
end
theorem KT{f l:AL}(h:uf f l:=by repeat' (first|exact .nil|refine .cons rfl ?_ ?_|refine .cons (mG (by assumption) (by assumption)) ?_ ?_|exact PX)):uf f l:=h
end Ev
end Go.Proofs.YtdfphfdnoobikaaGreatDoor
