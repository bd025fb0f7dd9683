/-
  LintAdded:the region that makes the module.
-/
import Derived.Test.YtdfphfdnoobikaaGreatDoorLtAd1
import Derived.Test.YtdfphfdnoobikaaGreatDoorLtSmall
import Derived.ProofKit
import Derived.OpenShut
import Derived.Deep.Slices
import Derived.Deep.Fields
import Derived.ChangeSame
namespace Go.Proofs.YtdfphfdnoobikaaGreatDoor
namespace Ev
section
noncomputable section
def EE:FuncId->Option CF:=A7 [(10,cf10)]
def oJ:cB:=ju mU EE 3
def BX(r:Option (V×H)):H:=match r with
 |some (_,h)=>h
 |none=>H0
def FM(r:Option (V×H)):Option V:=match r with
 |some (v,_)=>some v
 |none=>none
end
theorem BW{r:Option (V×H)}{v:V}(h:FM r=some v):r=some (v,BX r):=by
 cases r with
 |none=>cases h
 |some p=>
  obtain⟨a,b⟩:=p;have h:some a=some v:=h;cases h;rfl
theorem AE(E:En):@dX E Tryz.prog TP oJ:=@nK E Tryz.prog TP qc mixed mU EE (qy E) (mJ λp hp=>by rw [List.mem_singleton.1 hp];exact⟨_,Tryz.func10,by decide,q10.2⟩) 3
theorem CR{call:cB} (hc:∀E:En,@dX E Tryz.prog TP call) {f:FuncId} {fn:Func} {cf:CF} (hfn:Tryz.prog.funcs[f]? =some fn) (hnm:fn.name≠ "runtime.NumGoroutine") (hcf:bQ TP fn=some cf) {vs:List V} (hlen:vs.length=cf.params) (hvs:∀v,v∈vs->bP v) {R:V->Prop} {loc:AL} (hn:kP vs 0=some loc)
  (k:WC Tryz.prog TP Kp call 1 cf.code loc H0 (Db cf R)):∃v,CP f vs v/\R v:=by
 have w:W Tryz.prog TP Kp call 1 cf.code ⟨dG vs 0,[]⟩ H0 λx f1 h1=>(x= .norm\/x= .ret)/\∃l,gf f1 h1 cf.results=some l/\bP (cQ l)/\R (cQ l):=by
  rw [lH hn];refine W.mono k.out λx f h q=>?_;have q2:(x= .norm\/x= .ret)/\∃l,gf ⟨f.loc,[]⟩ h cf.results=some l/\bP (cQ l)/\R (cQ l):=q.2;rw [<-F.loc_eq q.1]at q2;exact q2
 obtain⟨x,f1,h1,k1,hx,l,k2,k3,k4⟩:=w;exact⟨_,(gN qc hc mixed hfn hnm hcf hlen k1 hx k2).conP jV hvs k3,k4⟩
section
variable {call:cB} {loc tmp loc' tmp':AL} {h h1:H} {hs:List H} {cs:List Tc} {l:List bS} {R:AL->H->Prop} {d:Dst} {args:List Opd} {gd:Option (Opd×Bool)} {lo hi:Nat} {vs:List V} {v:V}
theorem WY.k{f:FuncId}(e0:bX ⟨loc,tmp⟩ gd=some true)(e1:evs ⟨loc,tmp⟩ args=some vs)(e2:call (.fn f) vs h=some (v,h1))(e3:fA d v loc tmp=some (loc',tmp'))(k:WY call l loc' tmp' h1 (h ::hs) cs R):WY call (⟨d,.call f,args,gd,lo,hi⟩ ::l) loc tmp h hs cs R:=
 bp (mR (h1:=h1) e0 e1 e2 e3) k
theorem bC{ao:AOp}{t:Tr Blk}{k:Nat}{b:Blk}{mk:Nat->V}(e0:bX ⟨loc,tmp⟩ gd=some true)(e1:evs ⟨loc,tmp⟩ args=some vs)(er:ao.run vs=some (b,mk))(hk:Nat.blt k bR=true)
  (e3:fA d (mk k) loc tmp=some (loc',tmp')) (c:WY call l loc' tmp' ⟨t.put k (some b),k+1⟩ hs cs R):WY call (⟨d,.a ao,args,gd,lo,hi⟩ ::l) loc tmp ⟨t,k⟩ hs cs R:=WY.a (h:=⟨t,k⟩) e0 e1 er hk e3 c
end
noncomputable section
def fuX(b:ByteArray)(a:Nat):List V:=[sV b,.int .i64 (Int.ofNat a),.sl 2 0 1 1 true 4]
def mdX(m:Md)(q n:Nat):List V:=[sV m.name,.int .i64 m.vsn,.lst m.exports.length 2 (snL m.exports),.sl q 0 n 0 false 3]
def uq(b:ByteArray)(a:Nat):Option Blk:=some (.cells 4 (cq (clO (jN b a)) 0 .e) none false)
def pH(b:ByteArray)(a:Nat):Option Blk:=some (.cells 3 (cq (fuX b a) 0 .e) none false)
def Gu:Option Blk:=some (.cells 4 (cq [.str 0 0,.int .i64 0,.nils,.nils] 0 .e) none false)
def T4(b2 b3:Option Blk):Tr Blk:=(((H0.t.put 1 (some (.cells 0 (cq [] 0 .e) none false))).put 2 b2).put 3 b3).put 4 Gu
end
structure E5(b2:Option Blk)(bq:Option Blk)(q:Nat)(h:H):Prop where
 b0:h.blk 0=some (.ro 256 dN)
 b2:h.blk 2=b2
 b4:h.blk 4=Gu
 bq:h.blk q=bq
theorem FB(n1 c1:Nat)(v:Int)(n2 n3:Nat)(e f:List V)(k:Nat)(b2 b3 b5:Option Blk):
  FM (oJ (.fn 10) [.agg [.str n1 c1,.int .i64 v,.lst n2 2 e,.lst n3 3 f],.sl 5 0 k 0 false 3] ⟨(T4 b2 b3).put 5 b5,6⟩)=some (.agg [.str n1 c1,.int .i64 v,.lst n2 2 e,.sl 5 0 k 0 false 3]):=by kernel_rfl
theorem BB(n1 c1:Nat)(v:Int)(n2 n3:Nat)(e f:List V)(k:Nat)(b2 b3 b5:Option Blk):
  E5 b2 b5 5 (BX (oJ (.fn 10) [.agg [.str n1 c1,.int .i64 v,.lst n2 2 e,.lst n3 3 f],.sl 5 0 k 0 false 3] ⟨(T4 b2 b3).put 5 b5,6⟩)):=⟨by kernel_rfl,by kernel_rfl,by kernel_rfl,by kernel_rfl⟩
theorem FA(n1 c1:Nat)(v:Int)(n2 n3:Nat)(e f:List V)(k:Nat)(b2 b3 b5 b5' b6:Option Blk):
  FM (oJ (.fn 10) [.agg [.str n1 c1,.int .i64 v,.lst n2 2 e,.lst n3 3 f],.sl 6 0 k 0 false 3] ⟨(((T4 b2 b3).put 5 b5).put 5 b5').put 6 b6,7⟩)=some (.agg [.str n1 c1,.int .i64 v,.lst n2 2 e,.sl 6 0 k 0 false 3]):=by kernel_rfl
theorem BA(n1 c1:Nat)(v:Int)(n2 n3:Nat)(e f:List V)(k:Nat)(b2 b3 b5 b5' b6:Option Blk):
  E5 b2 b6 6 (BX (oJ (.fn 10) [.agg [.str n1 c1,.int .i64 v,.lst n2 2 e,.lst n3 3 f],.sl 6 0 k 0 false 3] ⟨(((T4 b2 b3).put 5 b5).put 5 b5').put 6 b6,7⟩)):=⟨by kernel_rfl,by kernel_rfl,by kernel_rfl,by kernel_rfl⟩
theorem yj{a b:List V}(h:cF a=true)(k:cF b=true):cF (a++b)=true:=by
 induction a with
 |nil=>exact k
 |cons v a ih=>
  have h:(Bool.rec (motive:=λ_=>Bool) false (cF a) (cE v):Bool)=true:=h;rw [cC]at h
  split at h
  ·rename_i q
   show(Bool.rec (motive:=λ_=>Bool) false (cF (a++b)) (cE v):Bool)=true;rw [q];exact ih h
  ·cases h
theorem vK:∀l:List Fu,cF (fuL l)=true
 |[]=>rfl
 |f ::l=>yj (a:=fuO f) rfl (vK l)
theorem AI{n:Nat}{F:List V}(hn:0<n)(hl:F.length<1000000000)(hb:n*48<1099511627776)(ho:cF F=true)(b2 b3:Option Blk):EOp.run (.append 3 48 none) [.sl 1 0 0 0 true 3,.lst n 3 F] ⟨T4 b2 b3,5⟩=some (.sl 5 0 n 0 false 3,⟨(T4 b2 b3).put 5 (some (.cells F.length (cq F 0 .e) none false)),6⟩):=by
 have kk:1000000000<bR:=by unfold bR;omega
 have h1:Nat.ble (Nat.add 0 n) 0=false:=by
  cases n with
  |zero=>omega
  |succ n=>rfl
 have h2:Nat.blt (Nat.mul (Nat.add 0 n) 48) 1099511627776=true:=ltb (by show(0+n)*48<_;omega);show(Bool.rec (motive:=λ_=>Option (V×H)) (oif (Nat.blt (Nat.mul (Nat.add 0 n) 48) 1099511627776) (ob (H.newCells ⟨T4 b2 b3,5⟩ ([]++F) none) λh'=>some (V.sl 5 0 (Nat.add 0 n) 0 false 3,h'))) _ (Nat.ble (Nat.add 0 n) 0):Option (V×H))=_;rw [h1,h2];have:H.newCells ⟨T4 b2 b3,5⟩ ([]++F) none=some ⟨(T4 b2 b3).put 5 (some (.cells F.length (cq F 0 .e) none false)),6⟩:=by
  show oif (cF F) (oif (Nat.blt (bY F) bR) (oif (Nat.blt 5 bR) (some (H.mk ((T4 b2 b3).put 5 (some (.cells (bY F) (cq F 0 .e) none false))) 6))))=_;rw [ho,@bV noE,ltb (by omega),ltb (by omega)];rfl
 rw [this];show some (V.sl 5 0 (0+n) 0 false 3,_)=_;rw [Nat.zero_add]
theorem C7{n:Nat}{F:List V}(hn:0<n)(hF:F.length=n*3)(hl:F.length<1000000000)(_:n*48<1099511627776)(b:ByteArray)(a:Nat)(b2:Option Blk):EOp.run (.append 3 48 none) [.sl 5 0 n 0 false 3,.sl 3 0 1 1 true 3] ⟨(T4 b2 (pH b a)).put 5 (some (.cells F.length (cq F 0 .e) none false)),6⟩=some (.sl 6 0 (n+1) 0 false 3,⟨(((T4 b2 (pH b a)).put 5 (some (.cells F.length (cq F 0 .e) none false))).put 5 (some (.cells (n*3) (cq F 0 .e) none true))).put 6 (some (.cells (n*3+3) (cq (fuX b a) (n*3) (cq F 0 .e)) (some (5,0)) false)),7⟩):=by
 have kk:1000000010<bR:=by unfold bR;omega
 rw [hF]at hl ⊢;have h1:Nat.ble (Nat.add n 1) (Nat.div (Nat.sub (n*3) 0) 3)=false:=by
  rw [show Nat.sub (n*3) 0=n*3 from Nat.sub_zero _,show Nat.div (n*3) 3=n from Nat.mul_div_cancel _ (by decide)];cases q:Nat.ble (Nat.add n 1) n with
  |false=>rfl
  |true=>have:=Nat.le_of_ble_eq_true q;have:n+1<=n:=this;omega
 have h2:Nat.blt (Nat.mul (Nat.add n 1) 48) 1099511627776=true:=ltb (by show(n+1)*48<_;omega);have h3:(Nat.beq (n*3) (Nat.mul n 3)&&Nat.beq 0 0)=true:=by
  rw [show Nat.mul n 3=n*3 from rfl,Nat.beq_refl];rfl
 show(Bool.rec (motive:=λ_=>Option (V×H))
  (oif (Nat.beq (n*3) (Nat.mul n 3)&&Nat.beq 0 0) (oif (Nat.blt (Nat.mul (Nat.add n 1) 48) 1099511627776)
   (ob (H.shareNew ⟨((T4 b2 (pH b a)).put 5 (some (.cells (n*3) (cq F 0 .e) none false))).put 5 (some (.cells (n*3) (cq F 0 .e) none true)),6⟩ 5 0 (n*3) (cq F 0 .e) (fuX b a)) λh'=>some (V.sl 6 0 (Nat.add n 1) 0 false 3,h'))))
  _ (Nat.ble (Nat.add n 1) (Nat.div (Nat.sub (n*3) 0) 3)):Option (V×H))=_
 rw [h1,h2,h3];show ob (oif true (oif (Nat.blt (Nat.add (n*3) 3) bR) (oif (Nat.blt 6 bR) _))) _=_;rw [show Nat.blt (Nat.add (n*3) 3) bR=true from ltb (show n*3+3<bR by omega),show Nat.blt 6 bR=true from ltb (by omega)];rfl
theorem AH(b2 b3:Option Blk):EOp.run (.append 3 48 none) [.sl 1 0 0 0 true 3,.lst 0 3 []] ⟨T4 b2 b3,5⟩=some (.sl 1 0 0 0 true 3,⟨T4 b2 b3,5⟩):=by kernel_rfl
theorem AG(b2:Option Blk)(b:ByteArray)(a:Nat):EOp.run (.append 3 48 none) [.sl 1 0 0 0 true 3,.sl 3 0 1 1 true 3] ⟨T4 b2 (pH b a),5⟩=some (.sl 5 0 1 0 false 3,⟨(T4 b2 (pH b a)).put 5 (some (.cells 3 (cq (fuX b a) 0 .e) none false)),6⟩):=by kernel_rfl
theorem Bc{h:H}(b4:h.blk 4=Gu)(cs:List V)(hc:cs.length=4)(ho:cF cs=true):∃h2,EOp.run (.store 4) [.ptr 4 0,.agg cs] h=some (cG,h2)/\(∀j,j≠4->h2.blk j=h.blk j)/\∃tr,h2.blk 4=some (.cells 4 tr none false)/\∀j v,cs[j]? =some v->tr.get j=some v:=by
 obtain⟨h2,w1,w2,w3,tr,w4,w5⟩:=kn (id:=4) (n:=4) (by unfold bR;omega) (by unfold bR;omega) cs 0 h _ b4 ho (by omega);refine⟨h2,?_,w3,tr,w4,λj v e=>?_⟩
 ·show oif (Nat.beq (bY cs) 4) (ob (H.wr 4 cs 0 h) λh=>some (cG,h))=_
  rw [@bV noE,hc,w1];rfl
 ·have hj:=(List.getElem?_eq_some_iff.1 e).1
  rw [w5,if_pos (by omega),Nat.sub_zero];exact e
noncomputable section
def Z4d(b:ByteArray)(a:Nat)(m:Md)(q n:Nat)(F:List V):Nat->Option (List V):=λk=>if k=2 then some (clO (jN b a))else if k=4 then some (mdX m q n)else if k=q then some F else none
end
theorem v4d{f:AL}{m:Md}{b:ByteArray}{a q:Nat}{h:H}{tr tq:Tr V}{up:Option (Nat×Nat)}(e1:lk f 1=some (sV b))(e2:lk f 2=some (.int .i64 (Int.ofNat a)))(e3:lk f 3=some (.eptr (mdO m) 0))(e9:lk f 9=some (.ptr 4 0))(b0:h.blk 0=some (.ro 256 dN))(b2:h.blk 2=uq b a)(b4:h.blk 4=some (.cells 4 tr none false))(t4:∀j v,(mdX m q (m.funcs.length+1))[j]? =some v->tr.get j=some v)
  (bq:h.blk q=some (.cells (m.funcs.length*3+3) tq up false)) (tq':∀j v,(fuL m.funcs++fuX b a)[j]? =some v->tq.get j=some v) (hq:4<q) (_:m.funcs.length<=10000000):fG TP Kp ⟨f,[]⟩ h ⟨fr4d m b a,[]⟩ H0:=by
 have kk:100000000<bR:=by unfold bR;omega
 have hl:(fuL m.funcs++fuX b a).length=(m.funcs.length+1)*3:=by
  rw [List.length_append,mz];show m.funcs.length*3+3=_;omega
 have z2:Z4d b a m q (m.funcs.length+1) (fuL m.funcs++fuX b a) 2=some (clO (jN b a)):=if_pos rfl;have z4:Z4d b a m q (m.funcs.length+1) (fuL m.funcs++fuX b a) 4=some (mdX m q (m.funcs.length+1)):=by unfold Z4d;rw [if_neg (by decide),if_pos rfl]
 have zq:Z4d b a m q (m.funcs.length+1) (fuL m.funcs++fuX b a) q=some (fuL m.funcs++fuX b a):=by unfold Z4d;rw [if_neg (by omega),if_neg (by omega),if_pos rfl]
 have pc:∀c,c∈clO (jN b a)->bP c:=λc hc=>(gz _ c hc).x;refine A4 (ids:=[]) (L:=[]) (n:=1) (Z:=Z4d b a m q (m.funcs.length+1) (fuL m.funcs++fuX b a)) rfl b0 (by decide) (Nat.le_refl 0) (by decide) .nil (λk cs' e hk=>?_) (nR.mem ?_)
 ·unfold Z4d at e
  by_cases q1:k=2
  ·subst q1
   rw [if_pos rfl]at e;cases e;exact⟨⟨_,none,b2,mI (by show 4<=bR;omega)⟩,by simp⟩
  ·rw [if_neg q1]at e
   by_cases q2:k=4
   ·subst q2
    rw [if_pos rfl]at e;cases e;exact⟨⟨tr,none,b4,t4⟩,by simp⟩
   ·rw [if_neg q2]at e
    by_cases q3:k=q
    ·subst q3
     rw [if_pos rfl]at e;cases e;exact⟨⟨tq,up,by rw [hl,show(m.funcs.length+1)*3=m.funcs.length*3+3 by omega];exact bq,tq'⟩,by simp;omega⟩
    ·rw [if_neg q3]at e
     cases e
 ·refine .cons e1 (.pure (.flat rfl)) (.cons e2 (.pure (.flat rfl)) (.cons e3 (.pure (.eptr (gS m))) (.cons e9 (.fz (k:=4) z4 ?_) .nil)))
  have e:mdO (eD m b a)=[sV m.name,.int .i64 m.vsn,.lst m.exports.length 2 (snL m.exports),.lst (m.funcs.length+1) 3 (fuL (m.funcs++[eZ b a]))]:=by
   show [sV m.name,.int .i64 m.vsn,.lst m.exports.length 2 (snL m.exports),V.lst (m.funcs++[eZ b a]).length 3 (fuL (m.funcs++[eZ b a]))]=_;rw [List.length_append];rfl
  rw [e,t6,y8];refine .cons (.pure (.flat rfl)) (.cons (.pure (.flat rfl)) (.cons (.pure (GQ _)) (.cons (.fzs (k:=q) zq hl (RnL.app (.pure (xz _)) ?_)) .nil)));show RnL _ _ _ [sV b,.int .i64 (Int.ofNat a),.lst 1 4 (clL [jN b a])] (fuX b a);rw [gW,clL,List.append_nil];exact .cons (.pure (.flat rfl)) (.cons (.pure (.flat rfl)) (.cons (.fzs (k:=2) z2 rfl (.pure pc)) .nil))
set_option maxHeartbeats 400000 in
theorem DC(m:Md)(b:ByteArray)(a:Nat)(hm:m.funcs.length<=10000000):∃v52 h5 q h6 h8 h9 tr tq up,
  EOp.run (.append 3 48 none) [.sl 1 0 0 0 true 3,.lst m.funcs.length 3 (fuL m.funcs)] ⟨T4 (uq b a) (pH b a),5⟩=some (v52,h5)/\
  EOp.run (.append 3 48 none) [v52,.sl 3 0 1 1 true 3] h5=some (.sl q 0 (m.funcs.length+1) 0 false 3,h6)/\
  oJ (.fn 10) [.agg (mdO m),.sl q 0 (m.funcs.length+1) 0 false 3] h6=some (.agg (mdX m q (m.funcs.length+1)),h8)/\
  EOp.run (.store 4) [.ptr 4 0,.agg (mdX m q (m.funcs.length+1))] h8=some (cG,h9)/\
  h9.blk 0=some (.ro 256 dN)/\h9.blk 2=uq b a/\h9.blk 4=some (.cells 4 tr none false)/\(∀j v,(mdX m q (m.funcs.length+1))[j]? =some v->tr.get j=some v)/\
  h9.blk q=some (.cells (m.funcs.length*3+3) tq up false)/\(∀j v,(fuL m.funcs++fuX b a)[j]? =some v->tq.get j=some v)/\4<q:=by
 have kk:100000000<bR:=by unfold bR;omega
 rcases Nat.eq_zero_or_pos m.funcs.length with h0|h0
 ·obtain⟨nm,vsn,exs,fs⟩:=m
  obtain rfl:fs=[]:=List.eq_nil_of_length_eq_zero h0;have am:=BB nm.size (bT nm.data.toList) vsn exs.length 0 (snL exs) [] 1 (uq b a) (pH b a) (some (.cells 3 (cq (fuX b a) 0 .e) none false));have cv:=BW (FB nm.size (bT nm.data.toList) vsn exs.length 0 (snL exs) [] 1 (uq b a) (pH b a) (some (.cells 3 (cq (fuX b a) 0 .e) none false)));generalize BX _=h8 at am cv;obtain⟨h9,e61,k,tr,b4,t4⟩:=Bc am.b4 (mdX ⟨nm,vsn,exs,[]⟩ 5 1) rfl rfl;exact⟨.sl 1 0 0 0 true 3,⟨T4 (uq b a) (pH b a),5⟩,5,⟨(T4 (uq b a) (pH b a)).put 5 (some (.cells 3 (cq (fuX b a) 0 .e) none false)),6⟩,h8,h9,tr,cq (fuX b a) 0 .e,none,AH _ _,AG _ _ _,cv,e61,(k 0 (by decide)).trans am.b0,(k 2 (by decide)).trans am.b2,b4,t4,(k 5 (by decide)).trans am.bq,mI (by show 3<=bR;omega),by decide⟩
 ·have hF:=mz m.funcs
  have am:=BA m.name.size (bT m.name.data.toList) m.vsn m.exports.length m.funcs.length (snL m.exports) (fuL m.funcs) (m.funcs.length+1) (uq b a) (pH b a) (some (.cells (fuL m.funcs).length (cq (fuL m.funcs) 0 .e) none false)) (some (.cells (m.funcs.length*3) (cq (fuL m.funcs) 0 .e) none true)) (some (.cells (m.funcs.length*3+3) (cq (fuX b a) (m.funcs.length*3) (cq (fuL m.funcs) 0 .e)) (some (5,0)) false));have cv:=BW (FA m.name.size (bT m.name.data.toList) m.vsn m.exports.length m.funcs.length (snL m.exports) (fuL m.funcs) (m.funcs.length+1) (uq b a) (pH b a) (some (.cells (fuL m.funcs).length (cq (fuL m.funcs) 0 .e) none false)) (some (.cells (m.funcs.length*3) (cq (fuL m.funcs) 0 .e) none true)) (some (.cells (m.funcs.length*3+3) (cq (fuX b a) (m.funcs.length*3) (cq (fuL m.funcs) 0 .e)) (some (5,0)) false)));generalize BX _=h8 at am cv;obtain⟨h9,e61,k,tr,b4,t4⟩:=Bc am.b4 (mdX m 6 (m.funcs.length+1)) rfl rfl;refine⟨_,_,6,_,h8,h9,tr,_,_,AI h0 (by omega) (by omega) (vK _) _ _,C7 h0 hF (by omega) (by omega) b a _,cv,e61,(k 0 (by decide)).trans am.b0,(k 2 (by decide)).trans am.b2,b4,t4,(k 6 (by decide)).trans am.bq,λj v e=>?_,by decide⟩;have hj:=(List.getElem?_eq_some_iff.1 e).1;rw [List.length_append,hF]at hj;have hj:j<m.funcs.length*3+3:=hj;rw [@cU noE (fuX b a) _ _ j (by show m.funcs.length*3+3<=bR;omega)]
  by_cases q:j<m.funcs.length*3
  ·rw [if_neg (by omega)]
   rw [List.getElem?_append_left (by omega)]at e;exact mI (by omega) j v e
  ·rw [if_pos (by constructor;omega;exact hj)]
   rw [List.getElem?_append_right (by omega),hF]at e;exact e
end
section
noncomputable section
def fr4e(m:Md)(b:ByteArray)(a i:Nat):AL:=[(1,sV b),(2,.int .i64 (Int.ofNat a)),(3,.eptr (mdO m) 0),(9,.eptr (mdO (eD m b a)) 0),(10,.int .i64 (Int.ofNat i))]
def fr4f(own:List Fl)(m:Md)(b:ByteArray)(a:Nat)(v:V)(k:Nat):AL:=[(1,sV b),(2,.int .i64 (Int.ofNat a)),(9,.eptr (mdO (eD m b a)) 0),(11,v),(12,.lst own.length 6 (flL own)),(13,.int .i64 (Int.ofNat k))]
end
theorem yz:∀a,bH (exL (List.replicate a gF))=11*a
 |0=>by rw [List.replicate_zero,exL];rfl
 |a+1=>by
  have e:bH (exO gF)=11:=by
   rw [dM];simp only [gF,Ex.name,Ex.text,Ex.items,Ex.segs,Ex.clauses,Ex.catches,Ex.body,Ex.after,exL,sgL,clL,smL,bH];have e:(⟨#[]⟩:ByteArray).size=0:=rfl;omega
  rw [List.replicate_succ,cK,cj,e,yz a];omega
theorem Dj(m:Md)(b:ByteArray)(a:Nat):bH (mdO (eD m b a))=bH (mdO m)+(2*b.size+11*a+30):=by
 have h1:=oV m;have h2:=oV (eD m b a);have e1:bH (smL [oh])=23:=by
  rw [gO,smL,List.append_nil,mN];have e2:bH (exO oh.val)=11:=by
   rw [dM];simp only [oh,Sm.val,vl,Ex.name,Ex.text,Ex.items,Ex.segs,Ex.clauses,Ex.catches,Ex.body,Ex.after,exL,sgL,clL,smL,bH];have e:(⟨#[]⟩:ByteArray).size=0:=rfl;omega
  have e3:bH (exO oh.pat)=11:=by
   rw [dM];simp only [oh,Sm.pat,ex0,Ex.name,Ex.text,Ex.items,Ex.segs,Ex.clauses,Ex.catches,Ex.body,Ex.after,exL,sgL,clL,smL,bH];have e:(⟨#[]⟩:ByteArray).size=0:=rfl;omega
  omega
 have e4:bH (fuO (eZ b a))=2*b.size+11*a+30:=by
  rw [j7];show(b.size+1)+(1+(1+bH (clL [jN b a])))=_;rw [gW,clL,List.append_nil,fJ];show(b.size+1)+(1+(1+((b.size+1)+((1+bH (exL (List.replicate a gF)))+((1+bH (gdL []))+(1+bH (smL [oh])))))))=_;rw [yz,e1,gdL];simp only [bH];omega
 have h3:bH (fuL (eD m b a).funcs)=bH (fuL m.funcs)+(2*b.size+11*a+30):=by
  show bH (fuL (m.funcs++[eZ b a]))=_;rw [t6,y8,cj,e4]
 have h4:(eD m b a).exports=m.exports:=rfl;have h5:(eD m b a).name=m.name:=rfl;rw [h4,h5,h3]at h2;omega
theorem zJ{own:List Fl}{p:Fl->Bool}{k:Nat}(h:k<own.length):(own.take (k+1)).filter p=if p (oC own k)then(own.take k).filter p++[oC own k]else(own.take k).filter p:=by
 rw [D2 h,List.filter_append];cases q:p (oC own k)<;>simp [q]
set_option maxHeartbeats 3200000 in
theorem f4(m:Md)(b:ByteArray)(z:Int):CP 4 [.agg (mdO m),sV b,.int .i64 z] (.bool true):=by
 obtain⟨v,c,rfl⟩:∃v,CP 4 [.agg (mdO m),sV b,.int .i64 z] v/\v= .bool true:=by
  have px:=gS m;have c7':=c7;obtain⟨bb,c8,hb⟩:=f8b m;refine CR AE Tryz.func4 (by decide) q4.2 rfl (bO (.agg px) (bO (.flat rfl) (bO (.flat rfl) px0))) rfl ?_;cases bb with
  |false=>
   repeat' (first
    |(refine WLg.mk ?_;first
    |refine aa rfl rfl rfl rfl ?_|refine ab rfl rfl rfl rfl ?_|refine aA rfl rfl rfl rfl px rfl ?_|refine aq rfl rfl rfl (c7') rfl ?_|refine aq rfl rfl rfl (c8) rfl ?_)|apply ac|refine ae rfl ?_|refine ay rfl rfl ?_|apply ai|apply ah|apply al|refine aD rfl ?_|refine aB rfl ?_|apply ap|apply bG.norm|apply bG.ret|fail)
   all_goals exact⟨.inr rfl,_,rfl,.flat rfl,rfl⟩
  |true=>
  cases q1:ltI 100 (Int.ofNat b.size)with
  |true=>
   repeat' (first
    |(refine WLg.mk ?_;first
    |refine aa rfl rfl rfl rfl ?_|refine ab rfl rfl rfl rfl ?_|refine aA rfl rfl rfl rfl px rfl ?_|refine aq rfl rfl rfl (c7') rfl ?_|refine aq rfl rfl rfl (c8) rfl ?_)|apply ac|refine ae rfl ?_|refine ay rfl rfl ?_|refine az rfl (λht=>?_) (λht=>Nx (by with_reducible assumption) ht)|apply ai|apply ah|apply al|refine aD rfl ?_|refine aB rfl ?_|apply ap|apply bG.norm|apply bG.ret|fail)
   all_goals exact⟨.inr rfl,_,rfl,.flat rfl,rfl⟩
  |false=>
  cases q2:ltI z 0 with
  |true=>
   repeat' (first
    |(refine WLg.mk ?_;first
    |refine aa rfl rfl rfl rfl ?_|refine ab rfl rfl rfl rfl ?_|refine aA rfl rfl rfl rfl px rfl ?_|refine aq rfl rfl rfl (c7') rfl ?_|refine aq rfl rfl rfl (c8) rfl ?_)|apply ac|refine ae rfl ?_|refine ay rfl rfl ?_|refine az rfl (λht=>?_) (λht=>Nx (by with_reducible assumption) ht)|refine az rfl (λht=>Nx ht (by with_reducible assumption)) (λht=>?_)|apply ai|apply ah|apply al|refine aD rfl ?_|refine aB rfl ?_|apply ap|apply bG.norm|apply bG.ret|fail)
   all_goals exact⟨.inr rfl,_,rfl,.flat rfl,rfl⟩
  |false=>
  cases q3:ltI 16 z with
  |true=>
   repeat' (first
    |(refine WLg.mk ?_;first
    |refine aa rfl rfl rfl rfl ?_|refine ab rfl rfl rfl rfl ?_|refine aA rfl rfl rfl rfl px rfl ?_|refine aq rfl rfl rfl (c7') rfl ?_|refine aq rfl rfl rfl (c8) rfl ?_)|apply ac|refine ae rfl ?_|refine az rfl (λht=>Nx ht (by with_reducible assumption)) (λht=>?_)|apply ai|apply ah|apply al|refine aB rfl ?_|refine ak rfl (λht=>?_) (λht=>Nx (by with_reducible assumption) ht)|apply ap|apply bG.norm|apply bG.ret|fail)
   all_goals exact⟨.inr rfl,_,rfl,.flat rfl,rfl⟩
  |false=>
  obtain⟨a,rfl⟩:∃a:Nat,z=Int.ofNat a:=by
   rw [fC]at q2;have:=of_decide_eq_false q2;exact⟨z.toNat,(Int.toNat_of_nonneg (by omega)).symm⟩
  have ha:a<=16:=ce q3;have hbs:b.size<=100:=ce q1;have hm:=hb rfl;clear hb;have hsz:=oV m;have hn:=nk m.funcs
  repeat' (first
   |(refine WLg.mk ?_;first
   |refine aa rfl rfl rfl rfl ?_|refine ab rfl rfl rfl rfl ?_|refine aA rfl rfl rfl rfl px rfl ?_|refine aP rfl rfl rfl rfl rfl rfl yW rfl ?_|refine aF rfl rfl rfl rfl rfl ?_|refine aL rfl rfl rfl rfl rfl rfl rfl rfl rfl ?_|refine aq rfl rfl rfl (c7') rfl ?_|refine aq rfl rfl rfl (c8) rfl ?_)|apply ac|refine ae rfl ?_|refine az rfl (λht=>Nx ht (by with_reducible assumption)) (λht=>?_)|apply ai|apply ah|apply aj|apply al|refine aB rfl ?_|refine ak rfl (λht=>Nx ht (by with_reducible assumption)) (λht=>?_)|apply bG.norm|fail)
  refine aw (v4b (m:=m) (b:=b) (a:=a) (j:=0) (q:=2) (v:= .nils) rfl rfl rfl rfl rfl rfl rfl rfl rfl rfl rfl .none0 (λb n q=>by cases q) (by decide) (by decide)) ?_;refine ax a (λj f h=>f=fr4a m b a j/\h=H4a b j) ?_ (i:=0) (Nat.zero_le _) ⟨rfl,rfl⟩;rintro j _ _ hj ⟨rfl,rfl⟩;have kk:100000000<bR:=by unfold bR;omega
  have hj2:j<9223372036854775807:=by omega
  have hal:=iH j;cases qj:ltI (Int.ofNat j) (Int.ofNat a)with
  |true=>
   have hjl:=bL qj
   repeat' (first
    |(refine WLg.mk ?_;first
    |refine aa rfl rfl rfl rfl ?_|refine ab rfl rfl rfl rfl ?_|refine aP rfl rfl rfl rfl rfl rfl zp rfl ?_)|apply ac|refine ae rfl ?_|apply ai|apply ah|apply aj|apply al|refine ak rfl (λht=>?_) (λht=>Nx (by with_reducible assumption) ht)|apply bG.norm|fail)
   refine WLg.mk (WL.appG (xs:=wj) rfl rfl (glG (i:=2) (cs:=lQ j) rfl hal (by decide) (by omega) (Nat.le_of_ble_eq_true (n:=3) rfl)) (by decide) rfl rfl (by show 3+1<bR;omega) (by show(lQ j).length+11<_;omega) (by omega) (by decide) λn h' g' nx kp=>⟨_,_,rfl,?_⟩);have b0:=kp 0 (Nat.le_of_ble_eq_true (n:=1) rfl) λb n q=>wC q λq=>by omega
   have b1:h'.t.get 1=some (.cells 4 (cq (yg b j) 0 .e) none false):=kp 1 (Nat.le_of_ble_eq_true (n:=2) rfl) λb n q=>wC q λq=>by omega
   repeat' (first
    |(refine WLg.mk ?_;first
    |refine aa rfl rfl rfl rfl ?_|refine aQ (t:=h'.t) (k:=h'.next) rfl rfl b1 rfl rfl rfl rfl rfl rfl ?_)|apply ac|refine ae rfl ?_|apply ah|apply bG.norm|fail)
   have p0:∀X k i,(⟨h'.t.put 1 X,k⟩:H).blk i=if i=1 then X else h'.blk i:=λX k i=>fy (h:=h') (by omega)
   refine .norm ⟨_,_,v4b (m:=m) (b:=b) (a:=a) (j:=j+1) (q:=3) (v:= .sl 3 0 n 0 false 11) rfl rfl rfl rfl (dI hj2) ((p0 _ _ 0).trans b0) (p0 _ _ 1) rfl rfl rfl rfl (g'.mono (Nat.le_refl _) λb' n' q _=>?_) (λb' n' q=>by cases q;rfl) (by decide) (by omega),hjl,rfl,rfl⟩;cases q;exact p0 _ _ 3
  |false=>
   obtain rfl:j=a:=by have:=ce qj;omega
   repeat' (first
    |(refine WLg.mk ?_;first
    |refine aa rfl rfl rfl rfl ?_)|apply ac|refine ae rfl ?_|apply ai|apply ah|refine ak rfl (λht=>Nx ht (by with_reducible assumption)) (λht=>?_)|apply av|apply bG.norm|apply bG.exit|apply OnC.exit|fail)
   refine aw (v4c (m:=m) (b:=b) (a:=j) rfl rfl rfl rfl rfl (by omega)) ?_;obtain⟨v52,h5,q,h6,h8,h9,tr,tq,up,e52,e59,c60,e61,r0,r2,r4,t4,rq,tq',hq⟩:=DC m b j (by omega);refine bh ?_
   repeat' (show WY _ _ _ _ _ _ _ _;first
    |refine bn (by repeat' (first|exact bF.nil|refine bF.any (λh=>rfl) ?_)) ?_|refine aZ rfl rfl rfl rfl ?_|refine aM rfl rfl rfl rfl ?_|refine aS rfl rfl e52 rfl ?_|refine aS rfl rfl e59 rfl ?_|refine WY.k rfl rfl c60 rfl ?_|refine aS rfl rfl e61 rfl ?_|refine bC (t:=H0.t) (k:=1) (b:= .cells 0 (cq [] 0 .e) none false) (mk:=λi=>.sl i 0 0 0 true 3) rfl rfl rfl rfl rfl ?_|refine bC (k:=2) (b:= .cells 4 (cq (clO (jN b j)) 0 .e) none false) (mk:=λi=>.sl i 0 1 1 true 4) rfl rfl rfl rfl rfl ?_|refine bC (k:=3) (b:= .cells 3 (cq (fuX b j) 0 .e) none false) (mk:=λi=>.sl i 0 1 1 true 3) rfl rfl rfl rfl rfl ?_|refine bC (k:=4) (b:= .cells 4 (cq [.str 0 0,.int .i64 0,.nils,.nils] 0 .e) none false) (mk:=λi=>.ptr i 0) rfl rfl rfl rfl rfl ?_)
   apply bG.norm;refine aw (v4d (m:=m) (b:=b) (a:=j) rfl rfl rfl rfl r0 r2 r4 t4 rq tq' hq (by omega)) ?_;clear e52 e59 c60 e61 r0 r2 r4 t4 rq tq' hq v52 h5 h6 h8 h9 tr tq up q hal qj ht hj c8 q1 q2 q3;have pw:=gS (eD m b j);have px2:bP (.eptr (mdO m) 0):= .eptr px;have px3:bP (.eptr (mdO (eD m b j)) 0):= .eptr pw;have hsw:=Dj m b j;obtain⟨r1,c11,ok1⟩:=f11 m (by omega);obtain⟨r2,c11w,ok2⟩:=f11 (eD m b j) (by omega);obtain⟨r3,c14,ok3⟩:=Ej b j hbs ha;cases z1:eqI r1 0 with
   |false=>
    have p1:(!eqI r1 0)=true:=by rw [z1];rfl
    repeat' (first
     |(refine WLg.mk ?_;first
     |refine aa rfl rfl rfl rfl ?_|refine ab rfl rfl rfl rfl ?_|refine aq rfl rfl rfl (c11) rfl ?_)|apply ac|refine ae rfl ?_|refine ay rfl rfl ?_|refine az rfl (λht=>?_) (λht=>Nx (by with_reducible assumption) ht)|apply ai|apply ah|refine aD rfl ?_|apply ap|apply bG.norm|apply bG.ret|fail)
    all_goals exact⟨.inr rfl,_,rfl,.flat rfl,rfl⟩
   |true=>
   have p1:(!eqI r1 0)=false:=by rw [z1];rfl
   cases z2:eqI r2 0 with
   |false=>
    have p2:(!eqI r2 0)=true:=by rw [z2];rfl
    repeat' (first
     |(refine WLg.mk ?_;first
     |refine aa rfl rfl rfl rfl ?_|refine ab rfl rfl rfl rfl ?_|refine aq rfl rfl rfl (c11) rfl ?_|refine aq rfl rfl rfl (c11w) rfl ?_)|apply ac|refine ae rfl ?_|refine ay rfl rfl ?_|refine az rfl (λht=>?_) (λht=>Nx (by with_reducible assumption) ht)|refine az rfl (λht=>Nx ht (by with_reducible assumption)) (λht=>?_)|apply ai|apply ah|refine aD rfl ?_|apply ap|apply bG.norm|apply bG.ret|fail)
    all_goals exact⟨.inr rfl,_,rfl,.flat rfl,rfl⟩
   |true=>
   have p2:(!eqI r2 0)=false:=by rw [z2];rfl
   cases z3:eqI r3 0 with
   |false=>
    have p3:(!eqI r3 0)=true:=by rw [z3];rfl
    repeat' (first
     |(refine WLg.mk ?_;first
     |refine aa rfl rfl rfl rfl ?_|refine ab rfl rfl rfl rfl ?_|refine aq rfl rfl rfl (c11) rfl ?_|refine aq rfl rfl rfl (c11w) rfl ?_|refine aq rfl rfl rfl (c14) rfl ?_)|apply ac|refine ae rfl ?_|refine az rfl (λht=>Nx ht (by with_reducible assumption)) (λht=>?_)|apply ai|apply ah|refine ak rfl (λht=>?_) (λht=>Nx (by with_reducible assumption) ht)|apply ap|apply bG.norm|apply bG.ret|fail)
    all_goals exact⟨.inr rfl,_,rfl,.flat rfl,rfl⟩
   |true=>
   have p3:(!eqI r3 0)=false:=by rw [z3];rfl
   obtain rfl:=nD z1;obtain rfl:=nD z2;have hcz:=ok3 (nD z3)
   repeat' (first
    |(refine WLg.mk ?_;first
    |refine aa rfl rfl rfl rfl ?_|refine ab rfl rfl rfl rfl ?_|refine aq rfl rfl rfl (c11) rfl ?_|refine aq rfl rfl rfl (c11w) rfl ?_|refine aq rfl rfl rfl (c14) rfl ?_)|apply ac|refine ae rfl ?_|apply ai|apply ah|apply aj|apply al|refine ak rfl (λht=>Nx ht (by with_reducible assumption)) (λht=>?_)|apply bG.norm|fail)
   refine aw (cA (l:=fr4e m b j 0) KT rfl) ?_;refine ax m.funcs.length (λi f h=>(f=fr4e m b j i/\∀f,f∈m.funcs.take i->kF f≠(b,Int.ofNat j))/\h=H0) ?_ (i:=0) (Nat.zero_le _) ⟨⟨rfl,λf hf=>by simp at hf⟩,rfl⟩;clear c11 c11w c14 p1 p2 p3 z1 z2 z3;rintro i _ _ hi ⟨⟨rfl,seen⟩,rfl⟩;have hi2:i<9223372036854775807:=by omega
   cases qi:ltI (Int.ofNat i) (Int.ofNat m.funcs.length)with
   |true=>
    have hlt:=bL qi;have nx:kF (cI m.funcs i)≠(b,Int.ofNat j)->∀f,f∈m.funcs.take (i+1)->kF f≠(b,Int.ofNat j):=λne f hf=>by
     rw [jl hlt]at hf;rcases List.mem_append.1 hf with hf|hf
     ·exact seen f hf
     ·rw [List.mem_singleton.1 hf]
      exact ne
    cases s1:cV (cI m.funcs i).name.size (bT (cI m.funcs i).name.data.toList) b.size (bT b.data.toList)with
    |false=>
     have nx:=nx λe=>by
      have e1:(cI m.funcs i).name=b:=(Prod.mk.inj e).1;rw [e1,kq]at s1;cases s1
     repeat' (first
      |(refine WLg.mk ?_;first
      |refine aa rfl rfl rfl rfl ?_|refine aa rfl rfl (bN Hy) rfl ?_|refine ab rfl rfl (vt Hy rfl) rfl ?_|refine ab rfl rfl rfl rfl ?_)|apply ac|refine ae rfl ?_|refine ay rfl rfl ?_|refine az rfl (λht=>Nx ht (by with_reducible assumption)) (λht=>?_)|apply ai|apply ah|apply aj|apply al|refine aB rfl ?_|refine ak rfl (λht=>?_) (λht=>Nx (by with_reducible assumption) ht)|apply bG.norm|fail)
     all_goals exact .norm ⟨_,_,cA KI rfl,hlt,⟨rfl,nx⟩,rfl⟩
    |true=>
     cases s2:eqI (cI m.funcs i).arity (Int.ofNat j)with
     |false=>
      have nx:=nx λe=>by
       have e1:(cI m.funcs i).arity=Int.ofNat j:=(Prod.mk.inj e).2;rw [e1,eC,decide_eq_true rfl]at s2;cases s2
      repeat' (first
       |(refine WLg.mk ?_;first
       |refine aa rfl rfl rfl rfl ?_|refine aa rfl rfl (bN Hy) rfl ?_|refine ab rfl rfl (vt Hy rfl) rfl ?_|refine ab rfl rfl rfl rfl ?_)|apply ac|refine ae rfl ?_|refine az rfl (λht=>?_) (λht=>Nx (by with_reducible assumption) ht)|apply ai|apply ah|apply aj|apply al|refine ak rfl (λht=>?_) (λht=>Nx (by with_reducible assumption) ht)|refine ak rfl (λht=>Nx ht (by with_reducible assumption)) (λht=>?_)|apply bG.norm|fail)
      all_goals exact .norm ⟨_,_,cA KI rfl,hlt,⟨rfl,nx⟩,rfl⟩
     |true=>
      repeat' (first
       |(refine WLg.mk ?_;first
       |refine aa rfl rfl rfl rfl ?_|refine aa rfl rfl (bN Hy) rfl ?_|refine ab rfl rfl (vt Hy rfl) rfl ?_|refine ab rfl rfl rfl rfl ?_)|apply ac|refine ae rfl ?_|refine az rfl (λht=>?_) (λht=>Nx (by with_reducible assumption) ht)|apply ai|apply ah|apply aj|apply al|refine ak rfl (λht=>?_) (λht=>Nx (by with_reducible assumption) ht)|apply ap|apply bG.norm|apply bG.ret|apply OnC.ret|fail)
      all_goals exact⟨.inr rfl,_,rfl,.flat rfl,rfl⟩
   |false=>
    have hie:i=m.funcs.length:=by have:=ce qi;omega
    rw [hie,List.take_length]at seen;have law:=AJ ha hcz seen ok1 ok2;obtain⟨c12,lm⟩:=f12c (m:=m) (by omega);have c12w:=f12 (m:=eD m b j) (by omega);rw [law]at c12w;clear law ok1 ok2 ok3 hcz seen hie;generalize hown:kQ m=own at*;have ho:own.length<9223372036854775807:=by omega
    have pxo:bP (.lst own.length 6 (flL own)):=FI own
    repeat' (first
     |(refine WLg.mk ?_;first
     |refine aa rfl rfl rfl rfl ?_|refine ab rfl rfl rfl rfl ?_|refine aq rfl rfl rfl (c12) rfl ?_)|apply ac|refine ae rfl ?_|apply ai|apply ah|apply aj|refine ak rfl (λht=>Nx ht (by with_reducible assumption)) (λht=>?_)|apply av|apply bG.norm|apply bG.exit|apply OnC.exit|fail)
    refine aw (bU (l:=fr4f own m b j .nils 0) KH) ?_;refine ax own.length (λk f h=>∃v,f=fr4f own m b j v k/\GL 6 h v (flL ((own.take k).filter (dK b j)))/\h.blk 0=some (.ro 256 dN)/\0<h.next/\h.next<=k+1) ?_ (i:=0) (Nat.zero_le _) ⟨.nils,rfl,.none0,rfl,Nat.succ_pos _,Nat.le_refl _⟩;clear hi hi2 qi;rintro k _ hb hk ⟨v,rfl,gl,b0,n0,nx⟩;have hk2:k<9223372036854775807:=by omega
    cases qk:ltI (Int.ofNat k) (Int.ofNat own.length)with
    |true=>
     have hkl:=bL qk;have pp:=Gc (oC own k);have st:=zJ (p:=dK b j) hkl;have hfl:=(List.filter_sublist (p:=dK b j) (l:=own.take k)).length_le;rw [List.length_take]at hfl;obtain⟨v',h',e1,e2,e3,e4⟩:=gl.flaw (by omega) (by omega) (oC own k);have yes:dK b j (oC own k)=true->GL 6 h' v' (flL ((own.take (k+1)).filter (dK b j))):=λq=>by
      rw [st,q,if_pos rfl];exact e2
     have no:dK b j (oC own k)=false->GL 6 hb v (flL ((own.take (k+1)).filter (dK b j))):=λq=>by
      rw [st,q,if_neg Bool.false_ne_true];exact gl
     repeat' (first
      |(refine WLg.mk ?_;first
      |refine aa rfl rfl rfl rfl ?_|refine aa rfl rfl (bN Hy) rfl ?_|refine ab rfl rfl (GY Hy rfl) rfl ?_|refine ab rfl rfl (vx Hy) rfl ?_|refine aP rfl rfl rfl rfl rfl rfl pp rfl ?_|refine aE rfl rfl (e1) rfl ?_)|apply ac|refine ae rfl ?_|refine ay rfl rfl ?_|refine az rfl (λht=>?_) (λht=>?_)|apply ai|apply ah|apply aj|apply al|refine aD rfl ?_|refine ak rfl (λht=>?_) (λht=>Nx (by with_reducible assumption) ht)|refine ak rfl (λht=>?_) (λht=>?_)|apply bG.norm|fail)
     all_goals first
      |exact .norm ⟨_,_,bU KH,hkl,v',rfl,yes (by unfold dK nmB;simp only [Bool.false_and,Bool.and_true,Bool.and_false,Bool.true_or,Bool.or_true,Bool.or_false, *]),e4 b0 n0,by omega,by omega⟩|exact .norm ⟨_,_,bU KH,hkl,v,rfl,no (by unfold dK nmB;simp only [Bool.false_and,Bool.and_false,Bool.or_false, *]),b0,n0,by omega⟩
    |false=>
     obtain rfl:k=own.length:=by have:=ce qk;omega
     rw [List.take_length]at gl;have hfl:=(List.filter_sublist (p:=dK b j) (l:=own)).length_le;generalize hw:own.filter (dK b j)=w at*;have c13:=f13 w (by omega);have vw:∀{f:AL},lk f 9=some (.eptr (mdO (eD m b j)) 0)->lk f 11=some v->fG TP Kp ⟨f,[]⟩ hb ⟨(11,.lst w.length 6 (flL w)) ::[(9,.eptr (mdO (eD m b j)) 0)],[]⟩ H0:=λe9 e11=>A2 (t:=11) (r:=[(9,.eptr (mdO (eD m b j)) 0)]) b0 gl (nt _) e11 (.cons e9 px3 .nil) w.length (jn _) (by decide);have pxw:bP (.lst w.length 6 (flL w)):=FI w
     repeat' (first
      |(refine WLg.mk ?_;first
      |refine aa rfl rfl rfl rfl ?_|refine ab rfl rfl rfl rfl ?_|refine aq rfl rfl rfl (c12w) rfl ?_|refine aq rfl rfl rfl (c13) rfl ?_)|apply ac|refine ae rfl ?_|(show WC _ _ _ _ _ (.reg (⟨.t 147,_,_,_,_,_⟩ ::_)) _ _ _;refine aw (vw rfl rfl) ?_)|apply ai|apply ah|refine ak rfl (λht=>Nx ht (by with_reducible assumption)) (λht=>?_)|apply av|apply ap|apply bG.norm|apply bG.exit|apply OnC.exit|fail)
     all_goals exact⟨.inr rfl,_,rfl,.flat rfl,rfl⟩
 exact c
end
section
open Go.ChangeShapes Go.WideShapes Go.Deep
noncomputable section
def dE(W:World):En:=⟨λb=>if b=0 then none else match W.heap[b]? with
 |some (.cells c _ _)=>some c
 |_=>none⟩
def g0:G:=eF nog 0 (0,0,256)
end
theorem xM{W:World}{b:Nat}{c:Array Value}{t:TypeId}{s:Nat×Nat}(h0:b≠0)(h:W.heap[b]? =some (.cells c t s)):(dE W).ro b=some c:=by
 show(if b=0 then none else match W.heap[b]? with
  |some (.cells c _ _)=>some c
  |_=>none)=some c
 rw [if_neg h0,h]
theorem Av{W:World}{b:Nat}{c:Array Value}(h:(dE W).ro b=some c):b≠0/\∃t:TypeId×(Nat×Nat),W.heap[b]? =some (.cells c t.1 t.2):=by
 have h:(if b=0 then none else match W.heap[b]? with
  |some (.cells c _ _)=>some c
  |_=>none)=some c:=h
 split at h
 ·cases h
 ·rename_i h0
  refine⟨h0,?_⟩
  split at h
  ·rename_i c' t s q
   cases h;exact⟨(t,s),q⟩
  ·cases h
def mG(W:World):Prop:=∃c t s,W.heap[0]? =some (.cells c t s)/\∀(j:Nat) u,c[j]? =some u->∃z,u=Value.int .u8 z
def wu(v:V):Prop:=∀(E:En) (g:G) (u:Value) (z:Int),@VR E g v u->u≠.int .u8 z
theorem BY(n:Int):wu (.int .i64 n):=λE g u z h e=>by subst e;cases h
theorem wW(n c:Nat):wu (.str n c):=λE g u z h e=>by subst e;cases h
theorem DM(b:Bool):wu (.bool b):=λE g u z h e=>by subst e;cases h
theorem FP(n es:Nat)(l:List V):wu (.lst n es l):=λE g u z h e=>by subst e;cases h
theorem y5{α:Type}{P:Nat->α->Prop}:∀(n:Nat),(∀i,i<n->∃x,P i x)->∃l:List α,l.length=n/\∀i x,l[i]? =some x->P i x
 |0,_=>⟨[],rfl,λi x h=>by simp at h⟩
 |n+1,h=>by
  obtain⟨l,hl,hp⟩:=y5 n (λi hi=>h i (by omega));obtain⟨x,hx⟩:=h n (by omega);refine⟨l++[x],by simp [hl],λi y hy=>?_⟩;rw [List.getElem?_append]at hy
  split at hy
  ·exact hp i y hy
  ·rename_i hge
   have:i-l.length=0:=by
    have:=(List.getElem?_eq_some_iff.1 hy).1
    simpa using this
   rw [this]at hy;simp at hy;subst hy;rw [show i=n by omega];exact hx
section
variable {H:Type} {enc:TypeId×Value->H} {W:World} {spare:Nat->Bool} {held:Bool}
theorem yN{E:En}{g:G}{α:Type}{f:α->List V}{gl:List α->List V}(hn:gl []=[])(hc:∀a l,gl (a ::l)=f a++gl l){es:Nat}{c:Array Value}:∀(l:List α) (o:Nat),(∀i x,l[i]? =some x->∃cs':List Value,@VRs E g (f x) cs'/\cs'.length=es/\∀j,j<es->c[o+i*es+j]? =cs'[j]?)->@VRs E g (gl l) ((c.toList.drop o).take (l.length*es))
 |[],o,_=>by
  rw [hn];simp;exact @VRs.nil E g
 |a ::l,o,h=>by
  obtain⟨cs',h1,h2,h3⟩:=h 0 a rfl;have ih:=yN hn hc l (o+es) (λi x hx=>by
   obtain⟨cs2,k1,k2,k3⟩:=h (i+1) x hx;refine⟨cs2,k1,k2,λj hj=>?_⟩;rw [<-k3 j hj]
   congr 1
   rw [Nat.add_mul];omega)
  rw [hc,List.length_cons,Nat.add_mul,Nat.one_mul,Nat.add_comm (l.length*es) es,List.take_add,List.drop_drop];have e:(c.toList.drop o).take es=cs':=by
   apply List.ext_getElem?;intro j;rw [List.getElem?_take]
   split
   ·rename_i hj
    rw [List.getElem?_drop,Array.getElem?_toList,<-h3 j hj]
    congr 1
    omega
   ·rw [List.getElem?_eq_none (by omega)]
  rw [e];exact @VRs.append E g _ _ _ _ h1 ih
theorem mr(h0:mG W){α:Type}{f:α->List V}{gl:List α->List V}(hn:gl []=[])(hc:∀a l,gl (a ::l)=f a++gl l){t e es:Nat}(ht:Tryz.prog.underlying t=some (.slice e))(hes:Tryz.prog.cellsOf e=es)(hpos:0<es)(hfl:∀a,(f a).length=es)
  (first:∀a,∃v r,f a=v ::r/\wu v) {n:Nat} (k:∀m,m<n->∀(cs:List Value) x,cs.length=es->DataW.trod enc Tryz.prog W 0 spare held m e cs=some x->∃a,@VRs (dE W) g0 (f a) cs) {v:Value} {y:DataW H×List MemPlace}
  (h:DataW.trod enc Tryz.prog W 0 spare held n t [v]=some y):∃l,@VR (dE W) g0 (.lst l.length es (gl l)) v:=by
 rcases DataW.trod_slice ht h with⟨e1,_⟩ | ⟨a,len,cap,elems,rest,n',hn',hcs,_,hb,hl,hcap,hlen,hel,_,_⟩
 ·cases e1
  refine⟨[],?_⟩;rw [hn];exact @VR.lst0 (dE W) g0 es
 obtain rfl:=(List.cons.inj hcs).1;rcases Nat.eq_zero_or_pos len with rfl|hp
 ·refine⟨[],?_⟩
  rw [hn];exact @VR.lstz (dE W) g0 es cap a
 have one:∀i,i<len->∃x:α,∃cs':List Value,@VRs (dE W) g0 (f x) cs'/\cs'.length=es/\∀j,j<es->W.cell? (a.add (i*es+j))=cs'[j]? :=by
  intro i hi;have h1:=hel i hi;rw [List.getElem?_eq_getElem (by omega)]at h1;obtain⟨cs',h2,h3⟩:=Option.bind_eq_some_iff.1 h1;rw [hes]at h2;obtain⟨_,h4,h5⟩:=World.cells?_some h2;obtain⟨x,hx⟩:=k n' (by omega) cs' _ h4 h3;refine⟨x,cs',hx,h4,λj hj=>?_⟩;rw [<-h5 j hj,<-Go.Deep.add_add]
 obtain⟨l,hll,hl2⟩:=y5 (P:=λi x=>∃cs':List Value,@VRs (dE W) g0 (f x) cs'/\cs'.length=es/\∀j,j<es->W.cell? (a.add (i*es+j))=cs'[j]?) len one;obtain⟨x0,hx0⟩:∃x0,l[0]? =some x0:=⟨_,List.getElem?_eq_getElem (by omega)⟩
 obtain⟨cs0,v1,v2,v3⟩:=hl2 0 x0 hx0;obtain⟨v,r,fe,nu⟩:=first x0
 rw [fe]at v1;obtain⟨u0,hu0,hv0⟩:∃u0,cs0[0]? =some u0/\@VR (dE W) g0 v u0:=by
  cases v1 with
  |cons p q=>exact⟨_,rfl,p⟩
 have hc0:=v3 0 hpos;rw [hu0]at hc0;obtain⟨b,o,sp⟩:=a;have hsp:sp=none:=by
  have:=World.cell?_spot hc0
  simpa [Addr.add]using this
 subst hsp;have add:∀k,(Addr.mk b o none).add k=⟨b,o+k,none⟩:=λk=>by
  unfold Addr.add;split
  ·rename_i e;rw [e];rfl
  ·rfl
 rw [add]at hc0;obtain⟨c,tt,ss,hh⟩:∃c tt ss,W.heap[b]? =some (.cells c tt ss):=by
  cases q:W.heap[b]? with
  |none=>simp [World.cell?,q]at hc0
  |some ob=>cases ob<;>first|exact⟨_,_,_,rfl⟩|simp [World.cell?,q]at hc0
 have cell:∀k,W.cell? ⟨b,o+k,none⟩=c[o+k]? :=λk=>by simp [World.cell?,hh]
 have hb0:b≠0:=by
  rintro rfl;obtain⟨c',t',s',q1,q2⟩:=h0;rw [hh]at q1;cases q1;rw [cell]at hc0;obtain⟨z,hz⟩:=q2 _ _ hc0;exact nu _ _ _ z hv0 hz
 have rows:=yN (E:=dE W) (g:=g0) hn hc (c:=c) l o (λi x hx=>by
  obtain⟨cs',k1,k2,k3⟩:=hl2 i x hx;refine⟨cs',k1,k2,λj hj=>?_⟩;rw [<-k3 j hj,add,cell,Nat.add_assoc])
 refine⟨l,?_⟩;have hgl:(gl l).length=l.length*es:=by
  clear hll hl2 hx0 rows
  induction l with
  |nil=>rw [hn];simp
  |cons a l ih=>rw [hc,List.length_append,ih,hfl,List.length_cons,Nat.add_mul];omega
 rw [<-hll];refine @VR.lst (dE W) g0 _ es b o cap c _ _ (xM hb0 hh) (λj u hj=>?_) hgl rows;rw [List.getElem?_take]at hj
 split at hj
 ·rw [List.getElem?_drop,Array.getElem?_toList]at hj
  exact hj
 ·cases hj
end
theorem AY{E:En}{g:G}(s:ByteArray):@VR E g (sV s) (.string s):=@VR.str E g s
theorem c3:Tryz.prog.cellsOf 3=1:=by kernel_rfl
theorem c2:Tryz.prog.cellsOf 2=1:=by kernel_rfl
theorem c4:Tryz.prog.cellsOf 4=1:=by kernel_rfl
theorem c9:Tryz.prog.cellsOf 9=1:=by kernel_rfl
theorem c41:Tryz.prog.cellsOf 41=1:=by kernel_rfl
theorem c42:Tryz.prog.cellsOf 42=1:=by kernel_rfl
theorem c43:Tryz.prog.cellsOf 43=1:=by kernel_rfl
theorem c28:Tryz.prog.cellsOf 28=1:=by kernel_rfl
theorem c48:Tryz.prog.cellsOf 48=1:=by kernel_rfl
theorem c22:Tryz.prog.cellsOf 22=1:=by kernel_rfl
theorem c23:Tryz.prog.cellsOf 23=1:=by kernel_rfl
theorem c45:Tryz.prog.cellsOf 45=11:=by kernel_rfl
theorem c81:Tryz.prog.cellsOf 81=27:=by kernel_rfl
theorem c50:Tryz.prog.cellsOf 50=4:=by kernel_rfl
theorem c47:Tryz.prog.cellsOf 47=23:=by kernel_rfl
theorem c30:Tryz.prog.cellsOf 30=3:=by kernel_rfl
theorem c56:Tryz.prog.cellsOf 56=2:=by kernel_rfl
theorem c25:Tryz.prog.cellsOf 25=4:=by kernel_rfl
section
variable {H:Type} {enc:TypeId×Value->H} {W:World} {spare:Nat->Bool} {held:Bool}
abbrev Tr0(enc:TypeId×Value->H)(W:World)(spare:Nat->Bool)(held:Bool)(n t:Nat)(cs:List Value):Prop:=∃x,DataW.trod enc Tryz.prog W 0 spare held n t cs=some x
theorem ib{n t:Nat}{fs:Array Field}(ht:Tryz.prog.underlying t=some (.struct fs)){cs:List Value}(h:Tr0 enc W spare held n t cs):∃m,m<n/\cs.length=Tryz.prog.cellsOf t/\∀(i a off c:Nat),Tryz.prog.cellsOf a=c->(∃f:Field,fs[i]? =some f/\f.type=a/\f.offset=off)->Tr0 enc W spare held m a ((cs.drop off).take c):=by
 obtain⟨x,h⟩:=h;obtain⟨xs,m,hm,_,hl,hxl,hf⟩:=DataW.trod_struct ht h;refine⟨m,by omega,hl,λi a off c hc ⟨f,hi,ha,ho⟩=>?_⟩;subst ha ho hc;have:=hf i f hi;have hlt:=(Array.getElem?_eq_some_iff.1 hi).1;rw [List.getElem?_eq_getElem (by omega)]at this;exact⟨_,this⟩
theorem ot{n t:Nat}(ht:Tryz.prog.underlying t=some (.int .i64)){v:Value}(h:Tr0 enc W spare held n t [v]):∃z,@VR (dE W) g0 (.int .i64 z) v:=by
 obtain⟨x,h⟩:=h;obtain⟨z,e,_⟩:=DataW.trod_int ht h;cases e;exact⟨z,@VR.int (dE W) g0 _ _⟩
theorem mg{n:Nat}{v:Value}(h:Tr0 enc W spare held n 9 [v]):∃s,@VR (dE W) g0 (sV s) v:=by
 obtain⟨x,h⟩:=h;obtain⟨s,e,_⟩:=DataW.trod_string Tryz.underlying9 h;cases e;exact⟨s,AY s⟩
theorem nM{n:Nat}{v:Value}(h:Tr0 enc W spare held n 4 [v]):∃b,@VR (dE W) g0 (.bool b) v:=by
 obtain⟨x,h⟩:=h;obtain⟨b,e,_⟩:=DataW.trod_bool Tryz.underlying4 h;cases e;exact⟨b,@VR.bool (dE W) g0 _⟩
structure Hb(enc:TypeId×Value->H)(W:World)(spare:Nat->Bool)(held:Bool)(n:Nat):Prop where
 ex:∀cs,Tr0 enc W spare held n 45 cs->∃x:Ex,@VRs (dE W) g0 (exO x) cs
 sg:∀cs,Tr0 enc W spare held n 81 cs->∃x:Sg,@VRs (dE W) g0 (sgO x) cs
 cl:∀cs,Tr0 enc W spare held n 50 cs->∃x:Cl,@VRs (dE W) g0 (clO x) cs
 sm:∀cs,Tr0 enc W spare held n 47 cs->∃x:Sm,@VRs (dE W) g0 (smO x) cs
section
variable (h0:mG W) {n:Nat} (k:∀m,m<n->Hb enc W spare held m)
include h0 k
theorem xE{v:Value}(h:Tr0 enc W spare held n 41 [v]):∃l:List Ex,@VR (dE W) g0 (.lst l.length 11 (exL l)) v:=by
 obtain⟨x,h⟩:=h;exact mr h0 (f:=exO) (by rw [exL]) cK Tryz.underlying41 c45 (by decide) (λ_=>rfl) (λa=>⟨_,_,rfl,BY _⟩) (λm hm cs y _ hy=>(k m hm).ex cs ⟨y,hy⟩) h
theorem Fs{v:Value}(h:Tr0 enc W spare held n 42 [v]):∃l:List Sg,@VR (dE W) g0 (.lst l.length 27 (sgL l)) v:=by
 obtain⟨x,h⟩:=h;exact mr h0 (f:=sgO) (by rw [sgL]) i7 Tryz.underlying42 c81 (by decide) (λ_=>rfl) (λa=>⟨_,_,rfl,BY _⟩) (λm hm cs y _ hy=>(k m hm).sg cs ⟨y,hy⟩) h
theorem xW{v:Value}(h:Tr0 enc W spare held n 28 [v]):∃l:List Cl,@VR (dE W) g0 (.lst l.length 4 (clL l)) v:=by
 obtain⟨x,h⟩:=h;exact mr h0 (f:=clO) (by rw [clL]) gW Tryz.underlying28 c50 (by decide) (λ_=>rfl) (λa=>⟨_,_,rfl,wW _ _⟩) (λm hm cs y _ hy=>(k m hm).cl cs ⟨y,hy⟩) h
theorem wJ{v:Value}(h:Tr0 enc W spare held n 43 [v]):∃l:List Sm,@VR (dE W) g0 (.lst l.length 23 (smL l)) v:=by
 obtain⟨x,h⟩:=h;exact mr h0 (f:=smO) (by rw [smL]) gO Tryz.underlying43 c47 (by decide) (λ_=>rfl) (λa=>⟨_,_,rfl,DM _⟩) (λm hm cs y _ hy=>(k m hm).sm cs ⟨y,hy⟩) h
theorem F5{v:Value}(h:Tr0 enc W spare held n 48 [v]):∃l:List (List Ex),@VR (dE W) g0 (.lst l.length 1 (gdL l)) v:=by
 obtain⟨x,h⟩:=h;refine mr h0 (f:=λl:List Ex=>[V.lst l.length 11 (exL l)]) (by rw [gdL]) (λa l=>by first|(rw [gdL];done)|(rw [gdL];rfl)) Tryz.underlying48 c41 (by decide) (λ_=>rfl) (λa=>⟨_,_,rfl,FP _ _ _⟩) (λm hm cs y hl hy=>?_) h;obtain⟨v,rfl⟩:=List.length_eq_one_iff.1 hl;obtain⟨l,hl⟩:=xE h0 (λj hj=>k j (by omega)) ⟨y,hy⟩;exact⟨l,@VRs.cons (dE W) g0 _ _ _ _ hl (@VRs.nil (dE W) g0)⟩
end
theorem vs1{E:En}{g:G}{v:V}{u:Value}{a:List V}{x:List Value}(h:@VR E g v u)(t:@VRs E g a x):@VRs E g (v ::a) (u ::x):=@VRs.cons E g _ _ _ _ h t
theorem vs0{E:En}{g:G}:@VRs E g [] []:=@VRs.nil E g
set_option maxRecDepth 100000 in
theorem Im(h0:mG W)(n:Nat):Hb enc W spare held n:=by
 induction n using Nat.strongRecOn with
 |ind n ih=>
 refine⟨λcs h=>?_,λcs h=>?_,λcs h=>?_,λcs h=>?_⟩
 ·obtain⟨m,hm,hl,hf⟩:=ib Tryz.underlying45 h
  have ih':=λj (hj:j<m)=>ih j (by omega)
  match cs,hl.trans c45 with
  |[a0,a1,a2,a3,a4,a5,a6,a7,a8,a9,a10],_=>
  have q0:Tr0 enc W spare held m 3 [a0]:=hf 0 3 0 1 c3 ⟨_,rfl,rfl,rfl⟩;have q1:Tr0 enc W spare held m 2 [a1]:=hf 1 2 1 1 c2 ⟨_,rfl,rfl,rfl⟩;have q2:Tr0 enc W spare held m 9 [a2]:=hf 2 9 2 1 c9 ⟨_,rfl,rfl,rfl⟩;have q3:Tr0 enc W spare held m 9 [a3]:=hf 3 9 3 1 c9 ⟨_,rfl,rfl,rfl⟩;have q4:Tr0 enc W spare held m 41 [a4]:=hf 4 41 4 1 c41 ⟨_,rfl,rfl,rfl⟩;have q5:Tr0 enc W spare held m 42 [a5]:=hf 5 42 5 1 c42 ⟨_,rfl,rfl,rfl⟩;have q6:Tr0 enc W spare held m 28 [a6]:=hf 6 28 6 1 c28 ⟨_,rfl,rfl,rfl⟩;have q7:Tr0 enc W spare held m 28 [a7]:=hf 7 28 7 1 c28 ⟨_,rfl,rfl,rfl⟩;have q8:Tr0 enc W spare held m 43 [a8]:=hf 8 43 8 1 c43 ⟨_,rfl,rfl,rfl⟩;have q9:Tr0 enc W spare held m 43 [a9]:=hf 9 43 9 1 c43 ⟨_,rfl,rfl,rfl⟩;have q10:Tr0 enc W spare held m 4 [a10]:=hf 10 4 10 1 c4 ⟨_,rfl,rfl,rfl⟩;obtain⟨x0,w0⟩:=ot Tryz.underlying3 q0;obtain⟨x1,w1⟩:=ot Tryz.underlying2 q1;obtain⟨x2,w2⟩:=mg q2;obtain⟨x3,w3⟩:=mg q3;obtain⟨x4,w4⟩:=xE h0 ih' q4;obtain⟨x5,w5⟩:=Fs h0 ih' q5;obtain⟨x6,w6⟩:=xW h0 ih' q6;obtain⟨x7,w7⟩:=xW h0 ih' q7;obtain⟨x8,w8⟩:=wJ h0 ih' q8;obtain⟨x9,w9⟩:=wJ h0 ih' q9;obtain⟨x10,w10⟩:=nM q10;exact⟨.mk x0 x1 x2 x3 x4 x5 x6 x7 x8 x9 x10,vs1 w0 (vs1 w1 (vs1 w2 (vs1 w3 (vs1 w4 (vs1 w5 (vs1 w6 (vs1 w7 (vs1 w8 (vs1 w9 (vs1 w10 vs0))))))))))⟩
 ·obtain⟨m,hm,hl,hf⟩:=ib Tryz.underlying81 h
  match cs,hl.trans c81 with
  |[a0,a1,a2,a3,a4,a5,a6,a7,a8,a9,a10,a11,a12,a13,a14,a15,a16,a17,a18,a19,a20,a21,a22,a23,a24,a25,a26],_=>
  have q0:Tr0 enc W spare held m 3 [a0]:=hf 0 3 0 1 c3 ⟨_,rfl,rfl,rfl⟩;have q1:Tr0 enc W spare held m 9 [a1]:=hf 1 9 1 1 c9 ⟨_,rfl,rfl,rfl⟩;have q2:Tr0 enc W spare held m 45 [a2,a3,a4,a5,a6,a7,a8,a9,a10,a11,a12]:=hf 2 45 2 11 c45 ⟨_,rfl,rfl,rfl⟩;have q3:Tr0 enc W spare held m 45 [a13,a14,a15,a16,a17,a18,a19,a20,a21,a22,a23]:=hf 3 45 13 11 c45 ⟨_,rfl,rfl,rfl⟩;have q4:Tr0 enc W spare held m 4 [a24]:=hf 4 4 24 1 c4 ⟨_,rfl,rfl,rfl⟩;have q5:Tr0 enc W spare held m 4 [a25]:=hf 5 4 25 1 c4 ⟨_,rfl,rfl,rfl⟩;have q6:Tr0 enc W spare held m 4 [a26]:=hf 6 4 26 1 c4 ⟨_,rfl,rfl,rfl⟩;obtain⟨x0,w0⟩:=ot Tryz.underlying3 q0;obtain⟨x1,w1⟩:=mg q1;obtain⟨x2,w2⟩:=(ih m hm).ex _ q2;obtain⟨x3,w3⟩:=(ih m hm).ex _ q3;obtain⟨x4,w4⟩:=nM q4;obtain⟨x5,w5⟩:=nM q5;obtain⟨x6,w6⟩:=nM q6;exact⟨.mk x0 x1 x2 x3 x4 x5 x6,vs1 w0 (vs1 w1 (@VRs.append (dE W) g0 _ _ _ _ w2 (@VRs.append (dE W) g0 _ _ _ _ w3 (vs1 w4 (vs1 w5 (vs1 w6 vs0))))))⟩
 ·obtain⟨m,hm,hl,hf⟩:=ib Tryz.underlying50 h
  have ih':=λj (hj:j<m)=>ih j (by omega)
  match cs,hl.trans c50 with
  |[a0,a1,a2,a3],_=>
  have q0:Tr0 enc W spare held m 9 [a0]:=hf 0 9 0 1 c9 ⟨_,rfl,rfl,rfl⟩;have q1:Tr0 enc W spare held m 41 [a1]:=hf 1 41 1 1 c41 ⟨_,rfl,rfl,rfl⟩;have q2:Tr0 enc W spare held m 48 [a2]:=hf 2 48 2 1 c48 ⟨_,rfl,rfl,rfl⟩;have q3:Tr0 enc W spare held m 43 [a3]:=hf 3 43 3 1 c43 ⟨_,rfl,rfl,rfl⟩;obtain⟨x0,w0⟩:=mg q0;obtain⟨x1,w1⟩:=xE h0 ih' q1;obtain⟨x2,w2⟩:=F5 h0 ih' q2;obtain⟨x3,w3⟩:=wJ h0 ih' q3;exact⟨.mk x0 x1 x2 x3,vs1 w0 (vs1 w1 (vs1 w2 (vs1 w3 vs0)))⟩
 ·obtain⟨m,hm,hl,hf⟩:=ib Tryz.underlying47 h
  match cs,hl.trans c47 with
  |[a0,a1,a2,a3,a4,a5,a6,a7,a8,a9,a10,a11,a12,a13,a14,a15,a16,a17,a18,a19,a20,a21,a22],_=>
  have q0:Tr0 enc W spare held m 4 [a0]:=hf 0 4 0 1 c4 ⟨_,rfl,rfl,rfl⟩;have q1:Tr0 enc W spare held m 45 [a1,a2,a3,a4,a5,a6,a7,a8,a9,a10,a11]:=hf 1 45 1 11 c45 ⟨_,rfl,rfl,rfl⟩;have q2:Tr0 enc W spare held m 45 [a12,a13,a14,a15,a16,a17,a18,a19,a20,a21,a22]:=hf 2 45 12 11 c45 ⟨_,rfl,rfl,rfl⟩;obtain⟨x0,w0⟩:=nM q0;obtain⟨x1,w1⟩:=(ih m hm).ex _ q1;obtain⟨x2,w2⟩:=(ih m hm).ex _ q2;exact⟨.mk x0 x1 x2,vs1 w0 (@VRs.append (dE W) g0 _ _ _ _ w1 w2)⟩
set_option maxRecDepth 100000 in
theorem Fj(h0:mG W){n:Nat}{v:Value}(h:Tr0 enc W spare held n 22 [v]):∃l:List Sn,@VR (dE W) g0 (.lst l.length 2 (snL l)) v:=by
 obtain⟨x,h⟩:=h;refine mr h0 (f:=snO) rfl (λ_ _=>rfl) Tryz.underlying22 c56 (by decide) (λ_=>rfl) (λa=>⟨_,_,rfl,wW _ _⟩) (λm hm cs y hl hy=>?_) h;obtain⟨j,_,_,hf⟩:=ib Tryz.underlying56 ⟨y,hy⟩
 match cs,hl with
 |[a0,a1],_=>
 have q0:Tr0 enc W spare held j 9 [a0]:=hf 0 9 0 1 c9 ⟨_,rfl,rfl,rfl⟩;have q1:Tr0 enc W spare held j 3 [a1]:=hf 1 3 1 1 c3 ⟨_,rfl,rfl,rfl⟩;obtain⟨x0,w0⟩:=mg q0;obtain⟨x1,w1⟩:=ot Tryz.underlying3 q1;exact⟨⟨x0,x1⟩,vs1 w0 (vs1 w1 vs0)⟩
set_option maxRecDepth 100000 in
theorem F6(h0:mG W){n:Nat}{v:Value}(h:Tr0 enc W spare held n 23 [v]):∃l:List Fu,@VR (dE W) g0 (.lst l.length 3 (fuL l)) v:=by
 obtain⟨x,h⟩:=h;refine mr h0 (f:=fuO) rfl (λ_ _=>rfl) Tryz.underlying23 c30 (by decide) (λ_=>rfl) (λa=>⟨_,_,rfl,wW _ _⟩) (λm hm cs y hl hy=>?_) h;obtain⟨j,_,_,hf⟩:=ib Tryz.underlying30 ⟨y,hy⟩
 match cs,hl with
 |[a0,a1,a2],_=>
 have q0:Tr0 enc W spare held j 9 [a0]:=hf 0 9 0 1 c9 ⟨_,rfl,rfl,rfl⟩;have q1:Tr0 enc W spare held j 3 [a1]:=hf 1 3 1 1 c3 ⟨_,rfl,rfl,rfl⟩;have q2:Tr0 enc W spare held j 28 [a2]:=hf 2 28 2 1 c28 ⟨_,rfl,rfl,rfl⟩;obtain⟨x0,w0⟩:=mg q0;obtain⟨x1,w1⟩:=ot Tryz.underlying3 q1;obtain⟨x2,w2⟩:=xW h0 (λj _=>Im h0 j) q2;exact⟨⟨x0,x1,x2⟩,vs1 w0 (vs1 w1 (vs1 w2 vs0))⟩
set_option maxRecDepth 100000 in
theorem GX(h0:mG W){r:Reach}{b0:Nat}{v:Value}{d:DataW H}{p:List MemPlace}(hv:Value.okWide Tryz.prog W r b0 25 v)(h:DataW.Trod enc Tryz.prog W 0 spare held 25 v d p):∃m:Md,@VR (dE W) g0 (.agg (mdO m)) v:=by
 obtain⟨cs,rfl,hsz⟩:=okWide_struct Tryz.underlying25 hv;obtain⟨l⟩:=cs;obtain⟨n,hn⟩:=h;obtain⟨j,_,hl,hf⟩:=ib Tryz.underlying25 (⟨_,hn⟩:Tr0 enc W spare held n 25 _)
 match l,hsz.trans c25 with
 |[a0,a1,a2,a3],_=>
 have q0:Tr0 enc W spare held j 9 [a0]:=hf 0 9 0 1 c9 ⟨_,rfl,rfl,rfl⟩;have q1:Tr0 enc W spare held j 2 [a1]:=hf 1 2 1 1 c2 ⟨_,rfl,rfl,rfl⟩;have q2:Tr0 enc W spare held j 22 [a2]:=hf 2 22 2 1 c22 ⟨_,rfl,rfl,rfl⟩;have q3:Tr0 enc W spare held j 23 [a3]:=hf 3 23 3 1 c23 ⟨_,rfl,rfl,rfl⟩;obtain⟨x0,w0⟩:=mg q0;obtain⟨x1,w1⟩:=ot Tryz.underlying2 q1;obtain⟨x2,w2⟩:=Fj h0 q2;obtain⟨x3,w3⟩:=F6 h0 q3;exact⟨⟨x0,x1,x2,x3⟩,@VR.agg (dE W) g0 _ _ (vs1 w0 (vs1 w1 (vs1 w2 (vs1 w3 vs0))))⟩
end
end
end Ev
end Go.Proofs.YtdfphfdnoobikaaGreatDoor
