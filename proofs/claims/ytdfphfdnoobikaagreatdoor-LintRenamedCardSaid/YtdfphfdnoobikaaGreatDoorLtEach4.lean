/-
  The program:a closure on the expressions directly in a node (3).
-/
import Derived.Test.YtdfphfdnoobikaaGreatDoorLtSv3
import Derived.Test.YtdfphfdnoobikaaGreatDoorLtRefC
namespace Go.Proofs.YtdfphfdnoobikaaGreatDoor
namespace Ev
section
def df(x:Ex):List Ex:=if x.kind=17 then clK x.clauses++(x.items++cI x.after)else fX x.segs++(x.items++(cI x.body++(clK x.clauses++(clK x.catches++cI x.after))))
noncomputable section
def sgZ:Sg:= .mk 0 ⟨#[]⟩ ex0 ex0 false false false
def fr63(g:FuncId)(caps:List V)(x:Ex)(i:Nat):AL:=[(2,.eptr (exO x) 0),(3,.eptr [.func (.func g) [] caps] 0),(5,.func (.func 90) [] [.eptr [.func (.func g) [] caps] 0]),(6,.func (.func 93) [] [.eptr [.func (.func g) [] caps] 0]),(7,.func (.func 95) [] [.eptr [.func (.func g) [] caps] 0]),
 (33,.lst x.segs.length 27 (sgL x.segs)),(34,.int .i64 (Int.ofNat x.segs.length)),(35,.int .i64 (Int.ofNat i))]
end
set_option maxHeartbeats 8000000 in
theorem f63{g:FuncId}{f:List V}{x:Ex}(K:bS (exO x)<=6000000){h h':H}{b:Bool}(np:1<h.next)(C:Nat.blt h.next bZ=true)(o:dG (λid=>id=h.next) (.func (.func g) [] f))(k:Rk (CE g f) (df x) h b h'):
  CN 63 [.agg (exO x),.func (.func g) [] f] h (.bool b) h':=by
 have gr:=k.gr (λy h b h' c=>c.gr) C;have hs:=dZ x;have hi:=dT x.items;have G:=jW x.segs;have F:=iJ x.body;have J:=iJ x.after;have p:x.items.length<9223372036854775807:=by omega
 have B:x.body.length<9223372036854775807:=by omega
 have A:x.after.length<9223372036854775807:=by omega
 have r:bS (clL x.clauses)<=6000000:=by omega
 have z:bS (clL x.catches)<=6000000:=by omega
 refine fP Tryz.func63 (by decide) q63.2 rfl rfl np gr.le ?_;have u:∀{l:List Ex} {h1 h2:H} {b:Bool},Gr h h1->Rk (CE g f) l h1 b h2->Gr h h2:=λj k=>j.trans (k.gr (λy h b h' c=>c.gr) j.lt);have nx:∀{h1:H},Gr h h1->1<h1.next:=λj=>Nat.lt_of_lt_of_le np j.le
 have g0:Gr h h:= .refl C;unfold df at k
 by_cases hk17:x.kind=17
 ·rw [if_pos hk17]at k
  have n:eqI x.kind 17=true:=by rw [hk17];rfl
  rcases k.app with⟨h1,k1,k⟩ | ⟨rfl,k1⟩
  ·have j:=u g0 k1
   have c1:=f95 r np C k1;rcases k.app with⟨h2,k2,k⟩ | ⟨rfl,k2⟩
   ·have s:=u j k2
    have c2:=f90 p (nx j) j.lt k2;have c3:=f93 A (nx s) s.lt k
    repeat' (first
     |apply ab|apply ae|apply aa|apply ai|apply ak|refine ah rfl (λa=>?_) (λa=>?_)|apply am|apply thN|refine ac ?_|refine au ?_|refine aY rfl rfl rfl rfl o rfl ?_|refine aE ?_|refine aw c1 ?_|refine aw c2 ?_|refine aw c3 ?_|apply thR)
    any_goals (first|exact Nr n|fail)
    exact⟨.inr rfl,_,rfl,rfl,rfl⟩
   ·have c2:=f90 p (nx j) j.lt k2
    repeat' (first
     |(refine WLg.mk ?_;first
     |refine ac ?_|refine au ?_|refine aY rfl rfl rfl rfl o rfl ?_|refine aE ?_|refine aw c1 ?_|refine aw c2 ?_)|apply ab|refine aj rfl ?_|refine aB rfl rfl ?_|apply ae|apply aa|apply ai|apply ak|refine ah rfl (λa=>?_) (λa=>?_)|apply am|apply thN|apply thR|fail)
    any_goals (first|exact Nr n|fail)
    exact⟨.inr rfl,_,rfl,rfl,rfl⟩
  ·have c1:=f95 r np C k1
   repeat' (first
    |(refine WLg.mk ?_;first
    |refine ac ?_|refine au ?_|refine aY rfl rfl rfl rfl o rfl ?_|refine aE ?_|refine aw c1 ?_)|apply ab|refine aj rfl ?_|refine aB rfl rfl ?_|apply ae|apply aa|apply ai|apply ak|refine ah rfl (λa=>?_) (λa=>?_)|apply am|apply thN|apply thR|fail)
   any_goals (first|exact Nr n|fail)
   exact⟨.inr rfl,_,rfl,rfl,rfl⟩
 ·rw [if_neg hk17]at k
  have n:eqI x.kind 17=false:=by
   cases q:eqI x.kind 17 with
   |true=>exact absurd (iF q) hk17
   |false=>rfl
  repeat' (first
   |apply ab|apply ae|apply aa|apply ai|apply ak|refine ah rfl (λa=>?_) (λa=>?_)|refine ac ?_|refine au ?_|refine aY rfl rfl rfl rfl o rfl ?_|refine aE ?_|apply thN)
  any_goals (first|exact Nq n|skip)
  refine az (cA (l:=fr63 g f x 0) KH) ?_;refine aA x.segs.length (λi l h1=>l=fr63 g f x i/\Gr h h1/\Rk (CE g f) (fX (x.segs.drop i)++(x.items++(cI x.body++(clK x.clauses++(clK x.catches++cI x.after))))) h1 b h') ?_ (i:=0) (Nat.zero_le _) ⟨rfl,g0,k⟩;clear k;rintro i _ h1 D ⟨rfl,j,k⟩;have hi2:i<9223372036854775807:=by omega
  have I:=j.lt;cases q:Nat.blt i x.segs.length with
  |false=>
   rw [jK D q]at k;have k:Rk (CE g f) (x.items++(cI x.body++(clK x.clauses++(clK x.catches++cI x.after)))) h1 b h':=k;rcases k.app with⟨h2,k1,k⟩ | ⟨rfl,k1⟩
   ·have s:=u j k1
    have c1:=f90 p (nx j) j.lt k1;rcases k.app with⟨h3,k2,k⟩ | ⟨rfl,k2⟩
    ·have v:=u s k2
     have c2:=f93 B (nx s) s.lt k2;rcases k.app with⟨h4,k3,k⟩ | ⟨rfl,k3⟩
     ·have w:=u v k3
      have c3:=f95 r (nx v) v.lt k3;rcases k.app with⟨h5,k4,k⟩ | ⟨rfl,k4⟩
      ·have E:=u w k4
       have c4:=f95 z (nx w) w.lt k4;have c5:=f93 A (nx E) E.lt k
       repeat' (first
        |apply ab|apply ae|apply aa|apply ai|apply ak|refine ah rfl (λa=>?_) (λa=>?_)|apply ax|apply am|apply thN|apply thE|refine ac ?_|refine av rfl rfl (ce Hy) rfl ?_|refine au ?_|refine aw c1 ?_|refine aw c2 ?_|refine aw c3 ?_|refine aw c4 ?_|refine aw c5 ?_|apply onE)
       any_goals (first|exact Nq q|fail)
       exact⟨.inr rfl,_,rfl,rfl,rfl⟩
      ·have c4:=f95 z (nx w) w.lt k4
       repeat' (first
        |(refine WLg.mk ?_;first
        |refine ac ?_|refine av rfl rfl (ce Hy) rfl ?_|refine au ?_|refine aw c1 ?_|refine aw c2 ?_|refine aw c3 ?_|refine aw c4 ?_)|apply ab|refine aj rfl ?_|refine aB rfl rfl ?_|apply ae|apply aa|apply ai|apply ak|refine ah rfl (λa=>?_) (λa=>?_)|apply ax|apply am|apply thN|apply thE|apply onE|fail)
       any_goals (first|exact Nq q|fail)
       exact⟨.inr rfl,_,rfl,rfl,rfl⟩
     ·have c3:=f95 r (nx v) v.lt k3
      repeat' (first
       |(refine WLg.mk ?_;first
       |refine ac ?_|refine av rfl rfl (ce Hy) rfl ?_|refine au ?_|refine aw c1 ?_|refine aw c2 ?_|refine aw c3 ?_)|apply ab|refine aj rfl ?_|refine aB rfl rfl ?_|apply ae|apply aa|apply ai|apply ak|refine ah rfl (λa=>?_) (λa=>?_)|apply ax|apply am|apply thN|apply thE|apply onE|fail)
      any_goals (first|exact Nq q|fail)
      exact⟨.inr rfl,_,rfl,rfl,rfl⟩
    ·have c2:=f93 B (nx s) s.lt k2
     repeat' (first
      |(refine WLg.mk ?_;first
      |refine ac ?_|refine av rfl rfl (ce Hy) rfl ?_|refine au ?_|refine aw c1 ?_|refine aw c2 ?_)|apply ab|refine aj rfl ?_|refine aB rfl rfl ?_|apply ae|apply aa|apply ai|apply ak|refine ah rfl (λa=>?_) (λa=>?_)|apply ax|apply am|apply thN|apply thE|apply onE|fail)
     any_goals (first|exact Nq q|fail)
     exact⟨.inr rfl,_,rfl,rfl,rfl⟩
   ·have c1:=f90 p (nx j) j.lt k1
    repeat' (first
     |(refine WLg.mk ?_;first
     |refine ac ?_|refine av rfl rfl (ce Hy) rfl ?_|refine au ?_|refine aw c1 ?_)|apply ab|refine aj rfl ?_|refine aB rfl rfl ?_|apply ae|apply aa|apply ai|apply ak|refine ah rfl (λa=>?_) (λa=>?_)|apply ax|apply am|apply thN|apply thE|apply onE|fail)
    any_goals (first|exact Nq q|fail)
    exact⟨.inr rfl,_,rfl,rfl,rfl⟩
  |true=>
   rw [lB (d:=sgZ) q]at k;have k:Rk (CE g f) ((((if(cG x.segs i).type=4 then []else [(cG x.segs i).val])++(if(cG x.segs i).sized then [(cG x.segs i).size]else []))++fX (x.segs.drop (i+1)))++(x.items++(cI x.body++(clK x.clauses++(clK x.catches++cI x.after))))) h1 b h':=k;rw [List.append_assoc]at k
   by_cases t4:(cG x.segs i).type=4
   ·rw [if_pos t4]at k
    have z4:(!eqI (cG x.segs i).type 4)=false:=by rw [t4];rfl
    cases m:(cG x.segs i).sized with
    |false=>
     rw [m,if_neg (by decide)]at k;simp only [List.nil_append]at k;have t:=j
     repeat' (first
      |(refine WLg.mk ?_;first
      |refine ac ?_|refine av rfl rfl (ce Hy) rfl ?_|refine aG (show ROp.run (.load true 11) [.eptr (sgO (cG x.segs i)) 2] _=some (.agg (exO (cG x.segs i).val))from rfl) ?_|refine aG (show ROp.run (.load true 11) [.eptr (sgO (cG x.segs i)) 13] _=some (.agg (exO (cG x.segs i).size))from rfl) ?_|refine au ?_|refine ap rfl rfl (fq Hy) rfl ?_|refine aN ?_)|apply ab|refine aj rfl ?_|refine aB rfl rfl ?_|refine aC rfl (λa=>?_) (λa=>?_)|apply ae|apply aa|apply ai|apply ak|refine aD rfl ?_|refine ah rfl (λa=>?_) (λa=>?_)|apply ax|apply thN|apply thE|apply onE|fail)
     all_goals first
      |exact Nr q|exact Nq z4|exact Nq m|exact .norm ⟨_,_,cA KH,bX q,rfl,t,k⟩
    |true=>
     rw [m,if_pos rfl]at k;simp only [List.nil_append,List.cons_append]at k;cases k with
     |stop c=>
      have c:=CX.con c
      repeat' (first
       |(refine WLg.mk ?_;first
       |refine ac ?_|refine av rfl rfl (ce Hy) rfl ?_|refine aG (show ROp.run (.load true 11) [.eptr (sgO (cG x.segs i)) 2] _=some (.agg (exO (cG x.segs i).val))from rfl) ?_|refine aG (show ROp.run (.load true 11) [.eptr (sgO (cG x.segs i)) 13] _=some (.agg (exO (cG x.segs i).size))from rfl) ?_|refine au ?_|refine ap rfl rfl (fq Hy) rfl ?_|refine aN ?_|refine aw c ?_)|apply ab|refine aj rfl ?_|refine aB rfl rfl ?_|refine aC rfl (λa=>?_) (λa=>?_)|apply ae|apply aa|apply ai|apply ak|refine aF rfl ?_|refine aD rfl ?_|refine ah rfl (λa=>?_) (λa=>?_)|apply ax|apply am|apply thN|apply thR|apply thE|apply onR|apply onE|fail)
      all_goals first
       |exact Nr q|exact Nq z4|exact Nr m|exact⟨.inr rfl,_,rfl,rfl,rfl⟩
     |go c k=>
      have t:=j.trans c.gr;have c:=CX.con c
      repeat' (first
       |(refine WLg.mk ?_;first
       |refine ac ?_|refine av rfl rfl (ce Hy) rfl ?_|refine aG (show ROp.run (.load true 11) [.eptr (sgO (cG x.segs i)) 2] _=some (.agg (exO (cG x.segs i).val))from rfl) ?_|refine aG (show ROp.run (.load true 11) [.eptr (sgO (cG x.segs i)) 13] _=some (.agg (exO (cG x.segs i).size))from rfl) ?_|refine au ?_|refine ap rfl rfl (fq Hy) rfl ?_|refine aN ?_|refine aw c ?_)|apply ab|refine aj rfl ?_|refine aB rfl rfl ?_|refine aC rfl (λa=>?_) (λa=>?_)|apply ae|apply aa|apply ai|apply ak|refine aD rfl ?_|refine ah rfl (λa=>?_) (λa=>?_)|apply ax|apply thN|apply thE|apply onE|fail)
      all_goals first
       |exact Nr q|exact Nq z4|exact Nr m|exact .norm ⟨_,_,cA KH,bX q,rfl,t,k⟩
   ·rw [if_neg t4]at k
    have z4:(!eqI (cG x.segs i).type 4)=true:=by
     cases e:eqI (cG x.segs i).type 4 with
     |true=>exact absurd (iF e) t4
     |false=>rfl
    cases m:(cG x.segs i).sized with
    |false=>
     rw [m,if_neg (by decide)]at k;simp only [List.nil_append,List.cons_append]at k;cases k with
     |stop c=>
      have c:=CX.con c
      repeat' (first
       |(refine WLg.mk ?_;first
       |refine ac ?_|refine av rfl rfl (ce Hy) rfl ?_|refine aG (show ROp.run (.load true 11) [.eptr (sgO (cG x.segs i)) 2] _=some (.agg (exO (cG x.segs i).val))from rfl) ?_|refine aG (show ROp.run (.load true 11) [.eptr (sgO (cG x.segs i)) 13] _=some (.agg (exO (cG x.segs i).size))from rfl) ?_|refine au ?_|refine ap rfl rfl (fq Hy) rfl ?_|refine aN ?_|refine aw c ?_)|apply ab|refine aj rfl ?_|refine aB rfl rfl ?_|refine aC rfl (λa=>?_) (λa=>?_)|apply ae|apply aa|apply ai|apply ak|refine aF rfl ?_|refine aD rfl ?_|refine ah rfl (λa=>?_) (λa=>?_)|apply ax|apply am|apply thN|apply thR|apply thE|apply onR|apply onE|fail)
      all_goals first
       |exact Nr q|exact Nr z4|exact Nq m|exact⟨.inr rfl,_,rfl,rfl,rfl⟩
     |go c k=>
      have t:=j.trans c.gr;have c:=CX.con c
      repeat' (first
       |(refine WLg.mk ?_;first
       |refine ac ?_|refine av rfl rfl (ce Hy) rfl ?_|refine aG (show ROp.run (.load true 11) [.eptr (sgO (cG x.segs i)) 2] _=some (.agg (exO (cG x.segs i).val))from rfl) ?_|refine aG (show ROp.run (.load true 11) [.eptr (sgO (cG x.segs i)) 13] _=some (.agg (exO (cG x.segs i).size))from rfl) ?_|refine au ?_|refine ap rfl rfl (fq Hy) rfl ?_|refine aN ?_|refine aw c ?_)|apply ab|refine aj rfl ?_|refine aB rfl rfl ?_|refine aC rfl (λa=>?_) (λa=>?_)|apply ae|apply aa|apply ai|apply ak|refine aD rfl ?_|refine ah rfl (λa=>?_) (λa=>?_)|apply ax|apply thN|apply thE|apply onE|fail)
      all_goals first
       |exact Nr q|exact Nr z4|exact Nq m|exact .norm ⟨_,_,cA KH,bX q,rfl,t,k⟩
    |true=>
     rw [m,if_pos rfl]at k;simp only [List.nil_append,List.cons_append]at k;cases k with
     |stop c=>
      have c:=CX.con c
      repeat' (first
       |(refine WLg.mk ?_;first
       |refine ac ?_|refine av rfl rfl (ce Hy) rfl ?_|refine aG (show ROp.run (.load true 11) [.eptr (sgO (cG x.segs i)) 2] _=some (.agg (exO (cG x.segs i).val))from rfl) ?_|refine aG (show ROp.run (.load true 11) [.eptr (sgO (cG x.segs i)) 13] _=some (.agg (exO (cG x.segs i).size))from rfl) ?_|refine au ?_|refine ap rfl rfl (fq Hy) rfl ?_|refine aN ?_|refine aw c ?_)|apply ab|refine aj rfl ?_|refine aB rfl rfl ?_|refine aC rfl (λa=>?_) (λa=>?_)|apply ae|apply aa|apply ai|apply ak|refine aF rfl ?_|refine aD rfl ?_|refine ah rfl (λa=>?_) (λa=>?_)|apply ax|apply am|apply thN|apply thR|apply thE|apply onR|apply onE|fail)
      all_goals first
       |exact Nr q|exact Nr z4|exact Nr m|exact⟨.inr rfl,_,rfl,rfl,rfl⟩
     |go c k=>
      cases k with
      |stop c2=>
       have c:=CX.con c;have c2:=CX.con c2
       repeat' (first
        |(refine WLg.mk ?_;first
        |refine ac ?_|refine av rfl rfl (ce Hy) rfl ?_|refine aG (show ROp.run (.load true 11) [.eptr (sgO (cG x.segs i)) 2] _=some (.agg (exO (cG x.segs i).val))from rfl) ?_|refine aG (show ROp.run (.load true 11) [.eptr (sgO (cG x.segs i)) 13] _=some (.agg (exO (cG x.segs i).size))from rfl) ?_|refine au ?_|refine ap rfl rfl (fq Hy) rfl ?_|refine aN ?_|refine aw c ?_|refine aw c2 ?_)|apply ab|refine aj rfl ?_|refine aB rfl rfl ?_|refine aC rfl (λa=>?_) (λa=>?_)|apply ae|apply aa|apply ai|apply ak|refine aF rfl ?_|refine aD rfl ?_|refine ah rfl (λa=>?_) (λa=>?_)|apply ax|apply am|apply thN|apply thR|apply thE|apply onR|apply onE|fail)
       all_goals first
        |exact Nr q|exact Nr z4|exact Nr m|exact⟨.inr rfl,_,rfl,rfl,rfl⟩
      |go c2 k=>
       have t:=(j.trans c.gr).trans c2.gr;have c:=CX.con c;have c2:=CX.con c2
       repeat' (first
        |(refine WLg.mk ?_;first
        |refine ac ?_|refine av rfl rfl (ce Hy) rfl ?_|refine aG (show ROp.run (.load true 11) [.eptr (sgO (cG x.segs i)) 2] _=some (.agg (exO (cG x.segs i).val))from rfl) ?_|refine aG (show ROp.run (.load true 11) [.eptr (sgO (cG x.segs i)) 13] _=some (.agg (exO (cG x.segs i).size))from rfl) ?_|refine au ?_|refine ap rfl rfl (fq Hy) rfl ?_|refine aN ?_|refine aw c ?_|refine aw c2 ?_)|apply ab|refine aj rfl ?_|refine aB rfl rfl ?_|refine aC rfl (λa=>?_) (λa=>?_)|apply ae|apply aa|apply ai|apply ak|refine aD rfl ?_|refine ah rfl (λa=>?_) (λa=>?_)|apply ax|apply thN|apply thE|apply onE|fail)
       all_goals first
        |exact Nr q|exact Nr z4|exact Nr m|exact .norm ⟨_,_,cA KH,bX q,rfl,t,k⟩
end
section
theorem kC(x:Ex):bS (exL (df x))+11<=bS (exO x):=by
 have h0:=dZ x;have h1:=iP x.clauses;have h2:=iP x.catches;have a:=ib x.body;have b:=ib x.after;have c:=pj x.segs;unfold df
 split
 ·rw [eO,eO,cy,cy];omega
 ·rw [eO,eO,eO,eO,eO,cy,cy,cy,cy,cy];omega
theorem fg{x y:Ex}(h:y∈df x):bS (exO y)<bS (exO x):=by
 have:=jo h;have:=kC x;omega
noncomputable section
def zB(l:List V):Bool:=zvB (.agg (.int .i64 0 ::l.tail))
def dn(x:Ex):Bool:=ndB x&&(zB (ndL x)&&((df x).attach.map λy=>dn y.1).all id)
termination_by bS (exO x)
decreasing_by exact fg y.2
def wN(x:Ex):Nat:=1+((df x).attach.map λy=>wN y.1).sum
termination_by bS (exO x)
decreasing_by exact fg y.2
def wF(x:Ex):Nat:=ndF x+((df x).attach.map λy=>wF y.1).sum
termination_by bS (exO x)
decreasing_by exact fg y.2
def wL(d:Nat)(x:Ex):Bool:=ltI 60 (Int.ofNat d)||(ndG x||((df x).attach.map λy=>wL (d+1) y.1).any id)
termination_by bS (exO x)
decreasing_by exact fg y.2
end
theorem lM(x:Ex):dn x=(ndB x&&(zB (ndL x)&&(df x).all dn)):=by
 rw [dn,List.attach_map_val (l:=df x) (f:=dn),List.all_map];rfl
theorem AP(x:Ex):wN x=1+((df x).map wN).sum:=by
 rw [wN,List.attach_map_val (l:=df x) (f:=wN)]
theorem AQ(x:Ex):wF x=ndF x+((df x).map wF).sum:=by
 rw [wF,List.attach_map_val (l:=df x) (f:=wF)]
theorem Dv(d:Nat)(x:Ex):wL d x=(ltI 60 (Int.ofNat d)||(ndG x||(df x).any (wL (d+1)))):=by
 rw [wL,List.attach_map_val (l:=df x) (f:=wL (d+1)),List.any_map];rfl
theorem I4{c:Bool}{a b:Nat}(h1:a<=1)(h2:b<=1):(if c then a else b)<=1:=by cases c<;>assumption
theorem Et(x:Ex):ndF x<=1:=by
 have hc:ctF x<=1:=by unfold ctF;split<;>omega
 unfold ndF
 repeat' (first|exact hc|(refine I4 ?_ ?_)|exact Nat.zero_le _)
theorem Du(x:Ex):wN x<=bS (exO x):=by
 have key:∀n (x:Ex),bS (exO x)<=n->wN x<=bS (exO x):=by
  intro n
  induction n with
  |zero=>intro x h;have:=iM x;omega
  |succ n ih=>
   intro x h;rw [AP];have:=lG (f:=wN) (l:=df x) λy a=>ih y (by have:=fg a;omega);have:=kC x;omega
 exact key _ x (Nat.le_refl _)
theorem Dw(x:Ex):wF x<=bS (exO x):=by
 have key:∀n (x:Ex),bS (exO x)<=n->wF x<=bS (exO x):=by
  intro n
  induction n with
  |zero=>intro x h;have:=iM x;omega
  |succ n ih=>
   intro x h;rw [AQ];have:=lG (f:=wF) (l:=df x) λy a=>ih y (by have:=fg a;omega);have:=kC x;have:=Et x;omega
 exact key _ x (Nat.le_refl _)
structure HSv(n f:Nat)(l:Bool)(h:H):Prop where
 b0:h.blk 0=some (.ro 256 d3)
 b1:∃tr,h.blk 1=some (.cells 3 tr none false)/\tr.get 0=some (.int .i64 (Int.ofNat n))/\tr.get 1=some (.int .i64 (Int.ofNat f))/\tr.get 2=some (.bool l)
 le:Nat.ble 2 h.next=true
 lt:Nat.blt h.next bZ=true
theorem HSv.put{n f n' f':Nat}{l l':Bool}{h:H}(s:HSv n f l h):HSv n' f' l' ⟨h.t.put 1 (some (.cells 3 (cM (svC n' f' l') 0 .e) none false)),h.next⟩:=by
 have a:∀j,(⟨h.t.put 1 (some (.cells 3 (cM (svC n' f' l') 0 .e) none false)),h.next⟩:H).blk j=if j=1 then some (.cells 3 (cM (svC n' f' l') 0 .e) none false)else h.blk j:=λj=>Tr.get_put h.t 1 j _ (by unfold bZ;omega)
 exact⟨by rw [a,if_neg (by decide)];exact s.b0,⟨_,by rw [a,if_pos rfl],rfl,rfl,rfl⟩,s.le,s.lt⟩
def WK(s:Nat):Prop:=∀x,bS (exO x)<s->∀d n f l0,d+bS (exO x)<9000000000000000000->n+bS (exO x)<9000000000000000000->f+bS (exO x)<9000000000000000000->
 ∃n' f' l1,CN 49 [.ptr 1 0,.agg (exO x),.int .i64 (Int.ofNat d)] (svH n f l0) (.bool (dn x)) (svH n' f' l1)/\(dn x=true->n'=n+wN x/\f'=f+wF x/\l1=(l0||wL d x))
noncomputable def BX(d:Nat):List V:=[.eptr [.ptr 1 0] 0,.eptr [.int .i64 (Int.ofNat d)] 0]
theorem Dt{s:Nat}(W:WK s){x:Ex}(g:bS (exO x)<s){d n f:Nat}{l0:Bool}(hd:d+bS (exO x)<9000000000000000000)(a:n+bS (exO x)<9000000000000000000)(b:f+bS (exO x)<9000000000000000000){h:H}(hs:HSv n f l0 h):
  ∃h' n' f' l1,CN 49 [.ptr 1 0,.agg (exO x),.int .i64 (Int.ofNat d)] h (.bool (dn x)) h'/\h'.next=h.next/\HSv n' f' l1 h'/\(dn x=true->n'=n+wN x/\f'=f+wF x/\l1=(l0||wL d x)):=by
 obtain⟨n',f',l1,c,o⟩:=W x g d n f l0 hd a b;obtain⟨tr,i,t0,e,t2⟩:=hs.b1;exact⟨_,n',f',l1,Con.frameB (cs:=svC n f l0) (cs':=svC n' f' l1) c (AZ n f l0 (cg (pxe x) (cg (.flat rfl) px0))) List.mem_cons_self (.flat rfl) (eM _ _ _) (eM _ _ _) rfl rfl hs.b0 i (ik t0 e t2) (Nat.le_of_ble_eq_true hs.le),rfl,hs.put,o⟩
theorem f64{s:Nat}(W:WK s){x:Ex}(i:bS (exO x)<s){d n f:Nat}{l0:Bool}(hd:d+1+bS (exO x)<9000000000000000000)(b:n+bS (exO x)<9000000000000000000)(g:f+bS (exO x)<9000000000000000000){h:H}(hs:HSv n f l0 h):
  ∃h' n' f' l1,CE 64 (BX d) x h (dn x) h'/\HSv n' f' l1 h'/\(dn x=true->n'=n+wN x/\f'=f+wF x/\l1=(l0||wL (d+1) x)):=by
 obtain⟨h',n',f',l1,c,e,a,o⟩:=Dt W i hd b g hs;refine⟨h',n',f',l1,⟨?_,Nat.le_of_eq e.symm,a.lt⟩,a,o⟩;rw [<-j8 (by omega)]at c;refine fP Tryz.func64 (by decide) q64.2 rfl rfl (Nat.le_of_ble_eq_true hs.le) (Nat.le_of_eq e.symm) ?_
 repeat' (first
  |apply ab|apply ae|apply aa|apply am|refine ac ?_|refine aG (show ROp.run (.load true 11) [.eptr (exO x) 0] _=some (.agg (exO x))from rfl) ?_|refine au ?_|refine aE ?_|refine aw c ?_|apply thN)
 exact⟨.inr rfl,_,rfl,rfl,rfl⟩
theorem Hz{s:Nat}(W:WK s){d:Nat}:∀(L:List Ex),(∀y,y∈L->bS (exO y)<s)->d+1+bS (exL L)<9000000000000000000->∀{n f:Nat} {l0:Bool} {h:H},n+bS (exL L)<9000000000000000000->f+bS (exL L)<9000000000000000000->HSv n f l0 h->
  ∃h' n' f' l1,Rk (CE 64 (BX d)) L h (L.all dn) h'/\HSv n' f' l1 h'/\(L.all dn=true->n'=n+(L.map wN).sum/\f'=f+(L.map wF).sum/\l1=(l0||L.any (wL (d+1))))
 |[],_,_,n,f,l0,h,_,_,hs=>⟨h,n,f,l0,.nil,hs,λ_=>⟨rfl,rfl,by simp⟩⟩
 |y ::L,hy,hd,n,f,l0,h,hn,hf,hs=>by
  rw [cV,cy]at hd hn hf;obtain⟨h1,n1,f1,l1,c,hs1,o⟩:=f64 W (hy y List.mem_cons_self) (d:=d) (by omega) (by omega) (by omega) hs;rw [List.all_cons];cases q:dn y with
  |false=>
   rw [q]at c;exact⟨h1,n1,f1,l1,.stop c,hs1,λk=>by simp at k⟩
  |true=>
   rw [q]at c;obtain⟨rfl,rfl,rfl⟩:=o q;have:=Du y;have:=Dw y;obtain⟨h2,n2,f2,l2,k,hs2,o2⟩:=Hz W (d:=d) L (λz hz=>hy z (List.mem_cons_of_mem _ hz)) (by omega) (by omega) (by omega) hs1;refine⟨h2,n2,f2,l2,by rw [Bool.true_and];exact .go c k,hs2,λk=>?_⟩;rw [Bool.true_and]at k;obtain⟨rfl,rfl,rfl⟩:=o2 k;simp only [List.map_cons,List.sum_cons,List.any_cons,Nat.add_assoc,Bool.or_assoc,true_and]
theorem f61F(x:Ex)(d:bS (exO x)<=6000000)(n f:Nat)(l0:Bool)(b:f<9223372036854775807):
  ∃l1,(∀{h:H} {tr:Tr V},h.blk 0=some (.ro 256 d3)->h.blk 1=some (.cells 3 tr none false)->tr.get 0=some (.int .i64 (Int.ofNat n))->tr.get 1=some (.int .i64 (Int.ofNat f))->tr.get 2=some (.bool l0)->Nat.ble 2 h.next=true->
   CN 61 [.ptr 1 0,.agg (exO x)] h (.tup [.agg (ndL x),.bool (ndB x)]) ⟨h.t.put 1 (some (.cells 3 (cM (svC n (f+ndF x) l1) 0 .e) none false)),h.next⟩)/\(ndB x=true->l1=(l0||ndG x)):=by
 obtain⟨l1,c,o⟩:=f61 x d n f l0 b;refine⟨l1,λ{h tr} h0 h1 t0 t1 t2 hn=>?_,o⟩;have a:bY (.agg (ndL x)):=(zE x).node.px;exact Con.frameB (cs:=svC n f l0) (cs':=svC n (f+ndF x) l1) c (AZ n f l0 (cg (pxe x) px0)) List.mem_cons_self (.tup (cg a (cg (.flat rfl) px0))) (eM _ _ _) (eM _ _ _) rfl rfl h0 h1 (ik t0 t1 t2) (Nat.le_of_ble_eq_true hn)
theorem Hg{A:H->Bool->Prop}{P:H->Bool->H->Nat->Nat->Bool->Prop}(k:∀h l,A h l->∃h' n f l1,P h l h' n f l1):∃(b:∀h l,A h l->H) (d c:∀h l,A h l->Nat) (e:∀h l,A h l->Bool),∀h l a,P h l (b h l a) (d h l a) (c h l a) (e h l a):=by
 classical
 exact⟨λh l a=>Classical.choose (k h l a),λh l a=>Classical.choose (Classical.choose_spec (k h l a)),λh l a=>Classical.choose (Classical.choose_spec (Classical.choose_spec (k h l a))),λh l a=>Classical.choose (Classical.choose_spec (Classical.choose_spec (Classical.choose_spec (k h l a)))),λh l a=>Classical.choose_spec (Classical.choose_spec (Classical.choose_spec (Classical.choose_spec (k h l a))))⟩
theorem Aa(d:Nat){k:Nat}(h:1<k):dG (λid=>id=k) (.func (.func 64) [] (BX d)):=fU (λv hv=>by cases hv) λv hv=>by
 rcases List.mem_cons.1 hv with rfl|hv
 ·exact gE (nG (fC λq=>by omega))
 ·rw [List.mem_singleton.1 hv]
  exact gE (nG CZ)
theorem bK{P:Program}{T:Ty}{K:Nat->Prop}{call:cN}{n:Nat}{l:List cj}{loc loc':AL}{h h':H}{Q:X->AL->H->Prop}(k:∃s',gS call l ⟨⟨loc,[]⟩,h,[],[]⟩=some s'/\bR s'.cs (jP s'.hs [s'.h])/\s'.f.loc=loc'/\s'.h=h')(c:Q .norm loc' h'):WC P T K call n (.regD l) loc h Q:=by
 obtain⟨s',b,a,rfl,rfl⟩:=k;exact WC.regD ⟨s',b,a,c⟩
noncomputable section
def fr49(x:Ex)(d:Nat):AL:=[(0,.ptr 1 0),(1,.agg (exO x)),(2,.int .i64 (Int.ofNat d)),(3,.eptr [.ptr 1 0] 0),(4,.eptr (exO x) 0),(5,.eptr [.int .i64 (Int.ofNat d)] 0),(6,.bool false)]
def It(c:cF):cF:=match c with
 |.seq _ b=>b
 |c=>c
def Jk:cF:=It (It (It cf49.code))
end
set_option maxHeartbeats 16000000 in
theorem Cd{s:Nat}(hs:s<=6000000)(W:WK s):WK (s+1):=by
 intro x hx d n f l0 hd hn hf;obtain⟨v,cs',c,n',f',b,rfl,rfl,ok⟩:∃v cs',CN 49 [.ptr 1 0,.agg (exO x),.int .i64 (Int.ofNat d)] (svH n f l0) v (HB cs')/\∃n' f' b,v= .bool (dn x)/\cs'=svC n' f' b/\(dn x=true->n'=n+wN x/\f'=f+wF x/\b=(l0||wL d x)):=by
  refine tT Tryz.func49 (by decide) q49.2 rfl rfl ?_;have a0:=dZ x;have B:bS (exO x)<=6000000:=by omega
  have G:n<9223372036854775807:=by omega
  have a2:=kC x;have J:∀y,y∈df x->bS (exO y)<s:=λy hy=>by have:=fg hy;omega
  have Z:=Et x;obtain⟨g,c1,o1⟩:=f61F x B (n+1) f (l0||ltI 60 (Int.ofNat d)) (by omega);have p:∀(h:H) (l:Bool),HSv (n+1) (f+ndF x) l h->∃h' n' f' b,Rk (CE 64 (BX d)) (df x) h ((df x).all dn) h'/\HSv n' f' b h'/\((df x).all dn=true->n'=n+1+((df x).map wN).sum/\f'=f+ndF x+((df x).map wF).sum/\b=(l||(df x).any (wL (d+1)))):=λh l hh=>Hz W (d:=d) (df x) J (by omega) (by omega) (by omega) hh;obtain⟨I,nn,nf,nl,U⟩:=Hg p;clear p;have r:=zE x;have hz:zB (ndL x)=zvB (.agg (.int .i64 0 ::(ndL x).tail)):=rfl;generalize Q:ndL x=L at c1 r hz;cases r with
  |mk h1 h2 h3 h4 h5 h6=>
  rename_i k9 C D m E o b T R Y O N w
  have z:=lD (k:=k9) (a:=C) (n1:=D) (c1:=m) (n2:=E) (c2:=o) (w:=w) h1 h2 h3 h4 h5 h6;have p1:=h1.px;have p2:=h2.px;have p3:=h3.px;have p4:=h4.px;have p5:=h5.px;have p6:=h6.px;have K:=f62z (Sh.mk (k:=0) (a:=C) (n1:=D) (c1:=m) (n2:=E) (c2:=o) (w:=w) h1 h2 h3 h4 h5 h6).node;have t:ndB x=false->dn x=false:=λq=>by rw [lM,q];rfl
  have A:zvB (.agg [.int .i64 0,.int .i64 C,.str D m,.str E o,b,T,R,Y,O,N,.bool w])=false->dn x=false:=λq=>by
   have e:zB (ndL x)=false:=by rw [Q,hz];exact q
   rw [lM,e,Bool.false_and,Bool.and_false]
  have hF:∀h (hh:HSv (n+1) (f+ndF x) g h),ndB x=true->zvB (.agg [.int .i64 0,.int .i64 C,.str D m,.str E o,b,T,R,Y,O,N,.bool w])=true->(2<=(I h g hh).next/\bY (.bool ((df x).all dn))/\∃cs' tr ch,(∃n' f' b,V.bool ((df x).all dn)= .bool (dn x)/\cs'=svC n' f' b/\(dn x=true->n'=n+wN x/\f'=f+wF x/\b=(l0||wL d x)))/\(I h g hh).blk 0=some (.ro 256 d3)/\(I h g hh).blk 1=some (.cells (cD cs') tr none ch)/\(∀j v,cs'[j]? =some v->tr.get j=some v)/\(∀c,c∈cs'->bY c)/\Nat.ble (cD cs') bZ=true):=λh hh S k2=>by
   obtain⟨_,⟨b0,⟨tr,e1,t0,F,t2⟩,le,lt⟩,ok⟩:=U h g hh;have e:zB (ndL x)=true:=by rw [Q,hz];exact k2
   have P:dn x=(df x).all dn:=by rw [lM,S,e,Bool.true_and,Bool.true_and]
   refine⟨Nat.le_of_ble_eq_true le,.flat rfl,svC _ _ _,tr,false,⟨_,_,_,by rw [P],rfl,λk=>?_⟩,b0,e1,ik t0 F t2,eM _ _ _,rfl⟩;rw [P]at k;obtain⟨m,o,q3⟩:=ok k;rw [AP,AQ,Dv,m,o,q3,o1 S];exact⟨by omega,by omega,by simp only [Bool.or_assoc]⟩
  have u:∀lz,lz=(l0||ltI 60 (Int.ofNat d))->WC Tryz.prog TP KB ft 1 Jk (fr49 x d) (HB [.int .i64 (dA .i64 (Int.add (Int.ofNat n) 1)),.int .i64 (Int.ofNat f),.bool lz]) (qf cf49 λv h'=>2<=h'.next/\bY v/\∃cs' tr ch,(∃n' f' b,v= .bool (dn x)/\cs'=svC n' f' b/\(dn x=true->n'=n+wN x/\f'=f+wF x/\b=(l0||wL d x)))/\h'.blk 0=some (.ro 256 d3)/\h'.blk 1=some (.cells (cD cs') tr none ch)/\(∀j v,cs'[j]? =some v->tr.get j=some v)/\(∀c,c∈cs'->bY c)/\Nat.ble (cD cs') bZ=true):=by
   rintro lz rfl;have M:CN 61 [.ptr 1 0,.agg (exO x)] (HB [.int .i64 (dA .i64 (Int.add (Int.ofNat n) 1)),.int .i64 (Int.ofNat f),.bool (l0||ltI 60 (Int.ofNat d))]) _ (HB (svC (n+1) (f+ndF x) g)):=c1 rfl rfl (dj G) rfl rfl rfl;clear c1
   repeat' (first
    |(refine WLg.mk ?_;first
    |refine ac ?_|refine au ?_|refine aI rfl rfl rfl rfl rfl ?_|refine aS rfl rfl rfl rfl z rfl rfl rfl rfl ?_|refine aT rfl rfl rfl rfl rfl rfl rfl rfl rfl ?_|refine ay K ?_|refine aw M ?_)|apply ab|refine aj rfl ?_|refine aB rfl rfl ?_|refine aC rfl (λi=>?_) (λi=>?_)|apply ae|apply aa|apply am|apply thN|fail)
   ·refine⟨aw (f63 B (Nat.le_of_ble_eq_true (n:=2) rfl) rfl (Aa d (Nat.le_of_ble_eq_true (n:=2) rfl)) (U _ g ⟨rfl,⟨_,rfl,rfl,rfl,rfl⟩,rfl,rfl⟩).1) ?_⟩
    repeat' (first
     |apply ab|apply am|refine ac ?_|apply thN)
    rename_i F
    exact⟨.inr rfl,_,rfl,hF _ _ F i⟩
   ·exact⟨.inr rfl,_,rfl,Nat.le_of_ble_eq_true (n:=2) rfl,.flat rfl,svC (n+1) (f+ndF x) g,_,_,⟨_,_,_,by rw [A i];rfl,rfl,λk=>by rw [A i]at k;cases k⟩,rfl,rfl,ik rfl rfl rfl,eM _ _ _,rfl⟩
   ·exact⟨.inr rfl,_,rfl,Nat.le_of_ble_eq_true (n:=2) rfl,.flat rfl,svC (n+1) (f+ndF x) g,_,_,⟨_,_,_,by rw [t i];rfl,rfl,λk=>by rw [t i]at k;cases k⟩,rfl,rfl,ik rfl rfl rfl,eM _ _ _,rfl⟩
  cases l0
  all_goals skip
  ·skip
   repeat' (first
    |apply ab|apply ae|apply aa|refine ac ?_|refine au ?_|refine aY rfl rfl rfl rfl (fC (show ¬(1:Nat)=2 by decide)) rfl ?_|refine aE ?_|refine aT rfl rfl rfl rfl rfl rfl rfl rfl rfl ?_|apply thN)
   refine bK (loc':=fr49 x d) (h':=HB [.int .i64 (dA .i64 (Int.add (Int.ofNat n) 1)),.int .i64 (Int.ofNat f),.bool (ltI 60 (Int.ofNat d))]) ⟨_,rfl,(by repeat' (first|exact bR.nil|refine bR.any (λh=>rfl) ?_|refine bR.first rfl ?_)),rfl,rfl⟩ (.norm (u _ rfl))
  ·skip
   repeat' (first
    |apply ab|apply ae|apply aa|refine ac ?_|refine au ?_|refine aY rfl rfl rfl rfl (fC (show ¬(1:Nat)=2 by decide)) rfl ?_|refine aE ?_|refine aT rfl rfl rfl rfl rfl rfl rfl rfl rfl ?_|apply thN)
   refine bK (loc':=fr49 x d) (h':=HB [.int .i64 (dA .i64 (Int.add (Int.ofNat n) 1)),.int .i64 (Int.ofNat f),.bool true]) ⟨_,rfl,(by repeat' (first|exact bR.nil|refine bR.any (λh=>rfl) ?_|refine bR.first rfl ?_)),rfl,rfl⟩ (.norm (u _ rfl))
 exact⟨n',f',b,c,ok⟩
theorem y7:∀s,s<=6000001->WK s
 |0,_=>λx hx=>by omega
 |s+1,hs=>Cd (by omega) (y7 s (by omega))
end
section
noncomputable section
def pI(l:List Cl):Cl:=bV l 0
def okF(f:Fu):Bool:= !eqI (Int.ofNat f.clauses.length) 0&&(cJ f.name.size (ck f.name.data.toList) (pI f.clauses).name.size (ck (pI f.clauses).name.data.toList)&&(eqI f.arity (Int.ofNat (pI f.clauses).pats.length)&&(clB (-1) true f.clauses&&(clK f.clauses).all dn)))
def fN(f:Fu):Nat:=((clK f.clauses).map wN).sum
def fF(f:Fu):Nat:=((clK f.clauses).map wF).sum
def fL(f:Fu):Bool:=clG f.clauses||((clK f.clauses).any (wL 1)||ltI 4000 (Int.ofNat (fN f)))
def okS(s:Sn):Bool:=wdB s.name&&(!ltI s.arity 0 && !ltI 16 s.arity)
def HU(m:Md):Bool:=(ltI 200 (Int.ofNat m.funcs.length)||ltI 200 (Int.ofNat m.exports.length))||m.funcs.any fL
def okM(m:Md):Bool:=(wdB m.name&&(!ltI m.vsn 1 && !ltI 2147483647 m.vsn))&&(m.exports.all okS&&(m.funcs.all okF&&(!HU m&&(!ltI 20000 (Int.ofNat ((m.funcs.map fN).sum)) && !ltI 1000 (Int.ofNat ((m.funcs.map fF).sum))))))
end
theorem H3(f:Fu):fN f<=bS (fuO f):=by
 have h1:=lG (f:=wN) (l:=clK f.clauses) λy _=>Du y;have h2:=iP f.clauses;have a:=jJ f;unfold fN;omega
theorem Kq(f:Fu):fF f<=bS (fuO f):=by
 have h1:=lG (f:=wF) (l:=clK f.clauses) λy _=>Dw y;have h2:=iP f.clauses;have a:=jJ f;unfold fF;omega
section
variable {P:Program} {T:Ty} {K:Nat->Prop} {call:cN} {n:Nat}
variable {loc tmp loc' tmp':AL} {h h1:H} {l:List cj} {R:AL->H->Prop} {d:Dst} {args:List Opd} {gd:Option (Opd×Bool)} {lo hi:Nat}
theorem WL.fillF{d2:Dst}{args2:List Opd}{gd2:Option (Opd×Bool)}{lo2 hi2:Nat}{zero:List V}{n:Nat}{x:V}{loc1 tmp1 loc2 tmp2:AL}(r:cm ⟨loc,tmp⟩ gd=some true)(u:evs ⟨loc,tmp⟩ args=some [])(A:Nat.blt h.next bZ=true)(z:d7 d (.ptr h.next 0) loc tmp=some (loc1,tmp1))
  (G:cm ⟨loc1,tmp1⟩ gd2=some true) (D:evs ⟨loc1,tmp1⟩ args2=some [.ptr h.next 0,x]) (B:Nat.beq (cD (cellsOf x)) n=true) (hz:Nat.beq (cD zero) n=true) (z1:cU zero=true) (z2:Nat.blt n bZ=true) (ho:cU (cellsOf x)=true) (p:∀c,c∈cellsOf x->dG (λid=>id=h.next) c)
  (q:d7 d (.eptr (cellsOf x) 0) loc tmp=some (loc',tmp')) (E:d7 d2 cT loc' tmp'=some (loc2,tmp2)) (k:WL P T K call l loc2 tmp2 h R):WL P T K call (⟨d,.a (.alloc zero),args,gd,lo,hi⟩ ::⟨d2,.e (.store n),args2,gd2,lo2,hi2⟩ ::l) loc tmp h R:=by
 have m:=Nat.le_of_ble_eq_true A;have b:=Nat.eq_of_beq_eq_true B;have f:=Nat.eq_of_beq_eq_true hz;have w:=Nat.le_of_ble_eq_true z2;rw [@cq noE]at b f;have i:(Dst.put ⟨loc,tmp⟩ (.ptr h.next 0) d)=⟨loc1,tmp1⟩:=gB z;have s:(Dst.put ⟨loc,tmp⟩ (.eptr (cellsOf x) 0) d)=⟨loc',tmp'⟩:=gB q;have q3:(Dst.put ⟨loc',tmp'⟩ cT d2)=⟨loc2,tmp2⟩:=gB E;have y:(⟨h.t.put h.next (some (.cells zero.length (cM zero 0 .e) none false)),Nat.succ h.next⟩:H).blk h.next=some (.cells zero.length (cM zero 0 .e) none false):=by
  show(h.t.put h.next _).get h.next=_
  rw [Tr.get_put _ _ _ _ (by omega),if_pos rfl]
 obtain⟨h2,F,L,J,g,C,o⟩:=mw (id:=h.next) (n:=zero.length) (by omega) (by omega) (cellsOf x) 0 ⟨h.t.put h.next (some (.cells zero.length (cM zero 0 .e) none false)),Nat.succ h.next⟩ _ y ho (by omega);refine⟨WO.allocF (zero:=zero) (n:=n) (x:=x) (h2:=h2) (cs':=g) r rfl u ?_ (by omega) ?_ rfl ?_ F ?_ (λj v e=>?_) b p ?_⟩
 ·show ob (oif (cU zero) (oif (Nat.blt (cD zero) bZ) (some (Blk.cells (cD zero) (cM zero 0 .e) none false)))) _=_
  rw [z1,@cq noE,f,z2];rfl
 ·show cm (Dst.put ⟨loc,tmp⟩ (.ptr h.next 0) d) gd2=_
  rw [i];exact G
 ·show evs (Dst.put ⟨loc,tmp⟩ (.ptr h.next 0) d) args2=_
  rw [i];exact D
 ·rw [C,b,f]
 ·have I:=(List.getElem?_eq_some_iff.1 e).1
  rw [o,if_pos (by omega),Nat.sub_zero];exact e
 ·show WO P T K call l (Dst.put (Dst.put ⟨loc,tmp⟩ (.eptr (cellsOf x) 0) d) cT d2) h _
  rw [s,q3];exact k.out
end
inductive mW(f:AL):AL->Prop
 |nil:mW f []
 |bx {t:Nat} {l:AL} (e:lk f t=some (.eptr [.ptr 1 0] 0)) (r:mW f l):mW f ((t,.eptr [.ptr 1 0] 0) ::l)
 |cons {t:Nat} {v:V} {l:AL} (e:lk f t=some v) (p:bY v) (r:mW f l):mW f ((t,v) ::l)
theorem mW.mem{U:Nat->Prop}(h1:U 1){f:AL}:∀{l:AL},mW f l->∀p,p∈l->∃v,lk f p.1=some v/\Rn U (λi=>i) (λ_=>none) p.2 v
 |_,.nil,p,h=>by cases h
 |_,.bx e r,p,h=>by
  rcases List.mem_cons.1 h with rfl|h
  ·exact⟨_,e,.eptr (.cons (@Rn.ptr _ (λi=>i) _ 1 0 h1) .nil)⟩
  ·exact mW.mem h1 r p h
 |_,.cons e q r,p,h=>by
  rcases List.mem_cons.1 h with rfl|h
  ·exact⟨_,e,.pure q⟩
  ·exact mW.mem h1 r p h
theorem KBX{f l:AL}(h:mW f l:=by repeat' (first|exact .nil|refine .bx rfl ?_|refine .cons rfl ?_ ?_|refine .cons (dj Hy) ?_ ?_|exact PX)):mW f l:=h
theorem If{h:H}{cs:List V}{tr:Tr V}{ch:Bool}(hb:h.blk 0=some (.ro 256 d3))(hs:h.blk 1=some (.cells (cD cs) tr none ch))(hl:Nat.ble (cD cs) bZ=true)(hc:∀j v,cs[j]? =some v->tr.get j=some v)(hp:∀c,c∈cs->bY c){f:F}{l:AL}(k:mW f.loc l){K:Nat->Prop}(hK:∀id,K id->id=0\/id=1):fy TP K f h ⟨l,[]⟩ (HB cs):=
 (vwB hb hs hl hc hp).view (λid h=>by rcases hK id h with rfl|rfl<;>exact⟨⟨_,rfl⟩,rfl⟩) (.inl λ_=>rfl) ⟨λp hp=>k.mem ⟨_,rfl⟩ p hp,λp hp=>by cases hp⟩
theorem f48{x:Ex}(i:bS (exO x)<=6000000){n f:Nat}{l0:Bool}(b:n+bS (exO x)<9000000000000000000)(g:f+bS (exO x)<9000000000000000000){h:H}(hs:HSv n f l0 h):
  ∃h' n' f' l1,CE 48 [.eptr [.ptr 1 0] 0] x h (dn x) h'/\HSv n' f' l1 h'/\(dn x=true->n'=n+wN x/\f'=f+wF x/\l1=(l0||wL 1 x)):=by
 obtain⟨h',n',f',l1,c,e,a,o⟩:=Dt (y7 6000001 (Nat.le_refl _)) (by omega) (d:=1) (by omega) b g hs;refine⟨h',n',f',l1,⟨?_,Nat.le_of_eq e.symm,a.lt⟩,a,o⟩;refine fP Tryz.func48 (by decide) q48.2 rfl rfl (Nat.le_of_ble_eq_true hs.le) (Nat.le_of_eq e.symm) ?_
 repeat' (first
  |apply ab|apply ae|apply aa|apply am|refine ac ?_|refine aG (show ROp.run (.load true 11) [.eptr (exO x) 0] _=some (.agg (exO x))from rfl) ?_|refine au ?_|refine aE ?_|refine aw c ?_|apply thN)
 exact⟨.inr rfl,_,rfl,rfl,rfl⟩
theorem Ds:∀(L:List Ex),bS (exL L)<=6000000->∀{n f:Nat} {l0:Bool} {h:H},n+bS (exL L)<9000000000000000000->f+bS (exL L)<9000000000000000000->HSv n f l0 h->
  ∃h' n' f' l1,Rk (CE 48 [.eptr [.ptr 1 0] 0]) L h (L.all dn) h'/\HSv n' f' l1 h'/\(L.all dn=true->n'=n+(L.map wN).sum/\f'=f+(L.map wF).sum/\l1=(l0||L.any (wL 1)))
 |[],_,n,f,l0,h,_,_,hs=>⟨h,n,f,l0,.nil,hs,λ_=>⟨rfl,rfl,by simp⟩⟩
 |y ::L,hy,n,f,l0,h,hn,hf,hs=>by
  rw [cV,cy]at hy hn hf;obtain⟨h1,n1,f1,l1,c,hs1,o⟩:=f48 (x:=y) (by omega) (by omega) (by omega) hs;rw [List.all_cons];cases q:dn y with
  |false=>
   rw [q]at c;exact⟨h1,n1,f1,l1,.stop c,hs1,λk=>by simp at k⟩
  |true=>
   rw [q]at c;obtain⟨rfl,rfl,rfl⟩:=o q;have:=Du y;have:=Dw y;obtain⟨h2,n2,f2,l2,k,hs2,o2⟩:=Ds L (by omega) (by omega) (by omega) hs1;refine⟨h2,n2,f2,l2,by rw [Bool.true_and];exact .go c k,hs2,λk=>?_⟩;rw [Bool.true_and]at k;obtain⟨rfl,rfl,rfl⟩:=o2 k;simp only [List.map_cons,List.sum_cons,List.any_cons,Nat.add_assoc,Bool.or_assoc,true_and]
theorem f47W(l:List Cl)(b:bS (clL l)<=6000000)(n f:Nat)(l0:Bool)(e:n<8000000000000000000)(g:f<8000000000000000000):
  ∃n' f' l1,CN 47 [.lst l.length 4 (clL l),.func (.func 48) [] [.eptr [.ptr 1 0] 0]] (HB (svC n f l0)) (.bool ((clK l).all dn)) (HB (svC n' f' l1))/\((clK l).all dn=true->n'=n+((clK l).map wN).sum/\f'=f+((clK l).map wF).sum/\l1=(l0||(clK l).any (wL 1))):=by
 have hs:=iP l;obtain⟨h',n',f',l1,k,⟨b0,⟨tr,d,t0,a,t2⟩,le,lt⟩,o⟩:=Ds (clK l) (by omega) (n:=n) (f:=f) (l0:=l0) (h:=HB (svC n f l0)) (by omega) (by omega) ⟨rfl,⟨_,rfl,rfl,rfl,rfl⟩,rfl,rfl⟩;have c:=f47 b (Nat.le_of_ble_eq_true (n:=2) rfl) rfl k;exact⟨n',f',l1,c.drop (.flat rfl) (Nat.le_refl _) (vwB b0 d rfl (ik t0 a t2) (eM _ _ _)),o⟩
end
section
noncomputable section
def fr29e(m:Md)(i:Nat):AL:=[(1,.eptr (mdO m) 0),(24,.lst m.exports.length 2 (snL m.exports)),(25,.int .i64 (Int.ofNat m.exports.length)),(26,.int .i64 (Int.ofNat i))]
def fr29f(m:Md)(i:Nat):AL:=[(1,.eptr (mdO m) 0),(5,.eptr [.ptr 1 0] 0),(58,.lst m.funcs.length 3 (fuL m.funcs)),(59,.int .i64 (Int.ofNat m.funcs.length)),(60,.int .i64 (Int.ofNat i))]
def stN(l:List Fu):Nat:=(l.map fN).sum
def stF(l:List Fu):Nat:=(l.map fF).sum
def stL(m:Md)(l:List Fu):Bool:=(ltI 200 (Int.ofNat m.funcs.length)||ltI 200 (Int.ofNat m.exports.length))||l.any fL
end
theorem GB{m:Md}{i:Nat}(h:i<m.exports.length)(k:okS (dU m.exports i)=false):okM m=false:=by
 have:m.exports.all okS=false:=by
  rw [Bool.eq_false_iff];intro q;have:=List.all_eq_true.1 q _ (jf (d:=sn0) (ltb h));have e:okS (dU m.exports i)=true:=this;rw [k]at e;cases e
 rw [okM,this];simp
theorem vW{m:Md}{i:Nat}(h:i<m.funcs.length)(k:okF (cX m.funcs i)=false):okM m=false:=by
 have:m.funcs.all okF=false:=by
  rw [Bool.eq_false_iff];intro q;have:=List.all_eq_true.1 q _ (jf (d:=fu0) (ltb h));have e:okF (cX m.funcs i)=true:=this;rw [k]at e;cases e
 rw [okM,this];simp
theorem kH{l:List Fu}{i:Nat}(h:i<l.length):l.take (i+1)=l.take i++[cX l i]:=by
 have e:=cP (d:=fu0) (ltb h);have:cX l i=l[i]:=by
  show(l[i]?).getD fu0=_;rw [List.getElem?_eq_getElem h];rfl
 rw [this,List.take_succ_eq_append_getElem h]
theorem xx{l:List Sn}{i:Nat}(h:i<l.length):l.take (i+1)=l.take i++[dU l i]:=by
 have:dU l i=l[i]:=by
  show(l[i]?).getD sn0=_;rw [List.getElem?_eq_getElem h];rfl
 rw [this,List.take_succ_eq_append_getElem h]
theorem Ip(l:List Fu):stN l<=bS (fuL l):=pM H3 l
theorem Iq(l:List Fu):stF l<=bS (fuL l):=pM Kq l
theorem tC(l:List Fu)(i:Nat):bS (fuL (l.take i))<=bS (fuL l):=jV (f:=fuO) (by rfl) (λ_ _=>rfl) l i
theorem xm{g:Fu->Nat}{l:List Fu}{i:Nat}(h:i<l.length):((l.take (i+1)).map g).sum=((l.take i).map g).sum+g (cX l i):=by
 rw [kH h,List.map_append,List.sum_append];simp
theorem xu{l:List Fu}{i:Nat}(h:i<l.length):stN (l.take (i+1))=stN (l.take i)+fN (cX l i):=xm h
theorem xw{l:List Fu}{i:Nat}(h:i<l.length):stF (l.take (i+1))=stF (l.take i)+fF (cX l i):=xm h
theorem xv{m:Md}{i:Nat}(h:i<m.funcs.length):stL m (m.funcs.take (i+1))=(stL m (m.funcs.take i)||fL (cX m.funcs i)):=by
 unfold stL;rw [kH h,List.any_append,List.any_cons,List.any_nil,Bool.or_false,Bool.or_assoc,Bool.or_assoc,Bool.or_assoc]
theorem Ca{a b:Nat}(h:a+b<9223372036854775808):dA .i64 (Int.sub (Int.ofNat (a+b)) (Int.ofNat a))=Int.ofNat b:=by
 have e:Int.sub (Int.ofNat (a+b)) (Int.ofNat a)=Int.add (Int.ofNat b) (Int.ofNat 0):=by
  show(Int.ofNat (a+b))-(Int.ofNat a)=Int.ofNat b+Int.ofNat 0;simp;omega
 rw [e,oU (by omega)];rfl
theorem Bs{m:Md}(h1:(wdB m.name&&(!ltI m.vsn 1 && !ltI 2147483647 m.vsn))=true)(h2:m.exports.all okS=true)(a:m.funcs.all okF=true):okM m=(!stL m m.funcs&&(!ltI 20000 (Int.ofNat (stN m.funcs)) && !ltI 1000 (Int.ofNat (stF m.funcs)))):=by
 unfold okM;rw [h1,h2,a];rfl
set_option maxHeartbeats 16000000 in
theorem f29(m:Md)(M:bS (mdO m)<=6000000):∃r,CP 29 [.agg (mdO m)] (.int .i64 r)/\eqI r 0=okM m:=by
 obtain⟨v,c,r,rfl,ok⟩:∃v,CP 29 [.agg (mdO m)] v/\∃r,v= .int .i64 r/\eqI r 0=okM m:=by
  refine eF Tryz.func29 (by decide) q29.2 rfl (cg (.agg (gY m)) px0) rfl ?_;have px:=gY m;have B:bY (.eptr (mdO m) 0):= .eptr px;have A:=pG m;have c45:=f45 m.name.size (ck m.name.data.toList);have D:=vH m.exports;have C:=pL m.funcs;have K:bY (.lst m.exports.length 2 (snL m.exports)):=px _ (List.mem_cons_of_mem _ (List.mem_cons_of_mem _ List.mem_cons_self));have L:bY (.lst m.funcs.length 3 (fuL m.funcs)):=px _ (List.mem_cons_of_mem _ (List.mem_cons_of_mem _ (List.mem_cons_of_mem _ List.mem_cons_self)))
  repeat' (first
   |(refine WLg.mk ?_;first
   |refine ac ?_|refine au ?_|refine aV rfl rfl rfl rfl px rfl ?_|refine ay c45 ?_)|apply ab|refine aj rfl ?_|refine aB rfl rfl ?_|refine aC rfl (λb=>?_) (λb=>?_)|apply ae|apply aa|apply ai|apply ak|refine aF rfl ?_|refine ah rfl (λb=>?_) (λb=>?_)|apply am|apply thN|apply thR|fail)
  all_goals try (exact⟨.inr rfl,_,rfl,.flat rfl,_,rfl,by(try simp only [Bool.not_eq_true',Bool.not_eq_false']at*)<;>simp [okM,wdB,sV, *]<;>rfl⟩)
  have t:(wdB m.name&&(!ltI m.vsn 1 && !ltI 2147483647 m.vsn))=true:=by
   (try simp only [Bool.not_eq_false']at*)
   simp [wdB,sV, *]
  refine az (cS (l:=fr29e m 0) KT rfl) ?_;refine aA m.exports.length (λi x h=>(x=fr29e m i/\(m.exports.take i).all okS=true)/\h=H0) ?_ (i:=0) (Nat.zero_le _) ⟨⟨rfl,rfl⟩,rfl⟩;clear c45;rintro i _ _ hi ⟨⟨rfl,seen⟩,rfl⟩;have hi2:i<9223372036854775807:=by omega
  have g:=f45 (dU m.exports i).name.size (ck (dU m.exports i).name.data.toList);have p:=zg (dU m.exports i)
  repeat' (first
   |(refine WLg.mk ?_;first
   |refine ac ?_|refine av rfl rfl (ce Hy) rfl ?_|refine ap rfl rfl (HX Hy) rfl ?_|refine au ?_|refine aJ rfl rfl rfl rfl rfl rfl rfl rfl rfl rfl rfl p rfl rfl ?_|refine WL.fillF rfl rfl rfl rfl rfl rfl rfl rfl rfl rfl rfl (nG (fC (show ¬(1:Nat)=2 by decide))) rfl rfl ?_|refine aI rfl rfl rfl rfl rfl ?_|refine ay g ?_)|apply ab|refine aj rfl ?_|refine aB rfl rfl ?_|refine aC rfl (λb=>?_) (λb=>?_)|apply ae|apply aa|apply ai|apply ak|refine aF rfl ?_|refine ah rfl (λb=>?_) (λb=>?_)|apply ax|apply am|apply thN|apply thR|apply thE|apply onR|apply onE|fail)
  all_goals first
   |exact⟨.inr rfl,_,rfl,.flat rfl,_,rfl,by rw [GB (bX (by assumption:ltI (Int.ofNat i) (Int.ofNat m.exports.length)=true)) (by(try simp only [Bool.not_eq_true',Bool.not_eq_false']at*)<;>simp [okS,wdB,sV, *])]<;>rfl⟩
   |exact .norm ⟨_,_,cS KI rfl,bX Hy,⟨rfl,by
     have a:=bX (by assumption:ltI (Int.ofNat i) (Int.ofNat m.exports.length)=true);rw [xx a,List.all_append,seen,Bool.true_and,List.all_cons,List.all_nil,Bool.and_true]
     (try simp only [Bool.not_eq_false']at*)
     simp [okS,wdB,sV, *]⟩,rfl⟩
   |skip
  all_goals (
   have e:i=m.exports.length:=by
    have:=cC (by assumption:ltI (Int.ofNat i) (Int.ofNat m.exports.length)=false);omega
   have s:m.exports.all okS=true:=by rw [e,List.take_length]at seen;exact seen
   clear seen;have hz:stL m []=(ltI 200 (Int.ofNat m.funcs.length)||ltI 200 (Int.ofNat m.exports.length)):=by simp only [stL,List.any_nil,Bool.or_false]
   refine az (If (l:=fr29f m 0) (cs:=svC 0 0 (stL m [])) rfl rfl rfl (ik rfl rfl (by first|(show some (V.bool _)=_;rw [hz,(by assumption:ltI 200 (Int.ofNat m.funcs.length)=true)];rfl)|(show some (V.bool _)=_;rw [hz,(by assumption:ltI 200 (Int.ofNat m.funcs.length)=false)];rfl))) (eM _ _ _) KBX (λid h=>.inl h)) ?_;refine aA m.funcs.length (λi x h=>x=fr29f m i/\(m.funcs.take i).all okF=true/\h=HB (svC (stN (m.funcs.take i)) (stF (m.funcs.take i)) (stL m (m.funcs.take i)))) ?_ (i:=0) (Nat.zero_le _) ⟨rfl,rfl,rfl⟩;clear g p hi2 hi hz
   rename_i F y
   clear y;clear e;clear i;rintro i _ _ hi ⟨rfl,seen,rfl⟩;have hi2:i<9223372036854775807:=by omega
   have p:=oM (cX m.funcs i);have o:bS (clL (cX m.funcs i).clauses)<=6000000:=by
    by_cases q:i<m.funcs.length
    ·have:=rn (ltb q)
     have:=jJ (cX m.funcs i);omega
    ·have:cX m.funcs i=fu0:=by
      show(m.funcs[i]?).getD fu0=fu0;rw [List.getElem?_eq_none (by omega)];rfl
     rw [this];show bS (clL [])<=_;rw [clL];exact Nat.zero_le _
   have I:=Ip (m.funcs.take i);have J:=Iq (m.funcs.take i);have O:=tC m.funcs i;obtain⟨E,n,d⟩:=f46 (cX m.funcs i).clauses o (-1) true (stN (m.funcs.take i)) (stF (m.funcs.take i)) (stL m (m.funcs.take i));obtain⟨n',f',G,u,f⟩:=f47W (cX m.funcs i).clauses o (stN (m.funcs.take i)) (stF (m.funcs.take i)) E (by omega) (by omega);cases G
   ·skip
    repeat' (first
     |(refine WLg.mk ?_;first
     |refine ac ?_|refine av rfl rfl (ce Hy) rfl ?_|refine ap rfl rfl (i7 Hy) rfl ?_|refine au ?_|refine aJ rfl rfl rfl rfl rfl rfl rfl rfl rfl rfl rfl p rfl rfl ?_|refine aw u ?_)
     |(show WX _ _ _ _ _ _ _ _ _ _;first
     |refine bn rfl rfl rfl ?_|refine bt rfl rfl rfl ?_|refine aU rfl rfl (ce (i:=0) (gR Hy)) rfl ?_|refine aH ?_|refine aQ rfl rfl (dy (i:=0) (gR Hy) rfl) rfl ?_|refine aM ?_|refine bh rfl rfl rfl (n) .none rfl ?_|(fail_if_success refine WX.gt rfl ?_);refine bp rfl rfl rfl (λb=>?_) (λb=>?_)|refine aO (by repeat' (first|exact bR.nil|refine bR.any (λh=>rfl) ?_|refine bR.first rfl ?_|refine bR.first (i7 Hy) ?_|refine bR.snd (i7 Hy) ?_|refine bR.any (λh=>i7 Hy) ?_|refine bR.first (dy (i:=0) (gR Hy) rfl) ?_|refine bR.snd (dy (i:=0) (gR Hy) rfl) ?_|refine bR.any (λh=>dy (i:=0) (gR Hy) rfl) ?_|refine bR.each (.cons rfl .nil) ?_|refine bR.each (.cons rfl (.cons rfl .nil)) ?_|refine bR.each (.cons rfl (.cons rfl (.cons rfl .nil))) ?_)) ?_)|apply ab|refine aj rfl ?_|refine aB rfl rfl ?_|refine aC rfl (λb=>?_) (λb=>?_)|refine bK (h':=HB [.int .i64 (Int.ofNat n'),.int .i64 (Int.ofNat f'),.bool (ltI 4000 (dA .i64 (Int.sub (Int.ofNat n') (Int.ofNat (stN (m.funcs.take i))))))]) ⟨_,rfl,(by repeat' (first|exact bR.nil|refine bR.any (λh=>rfl) ?_|refine bR.first rfl ?_)),rfl,rfl⟩ ?_|apply ae|apply aa|apply ai|apply ak|refine aF rfl ?_|refine ah rfl (λb=>?_) (λb=>?_)|apply ax|apply am|refine aP ?_|apply thN|apply thR|apply thE|apply onR|apply onE|fail)
    all_goals first
     |exact⟨.inr rfl,_,rfl,.flat rfl,_,rfl,by rw [vW (bX (by assumption:ltI (Int.ofNat i) (Int.ofNat m.funcs.length)=true)) (by clear d f<;>(try simp only [Bool.not_eq_true',Bool.not_eq_false']at*)<;>simp only [okF,pI,Bool.not_true,Bool.not_false,Bool.false_and,Bool.and_false, *])]<;>rfl⟩
     |(have e:i=m.funcs.length:=by
        have:=cC (by assumption:ltI (Int.ofNat i) (Int.ofNat m.funcs.length)=false);omega
       subst e;simp only [List.take_length]at*;exact⟨.inr rfl,_,rfl,.flat rfl,_,rfl,by
        show _=okM m;rw [Bs t s Hy]
        first
         |(rw [(by assumption:stL m m.funcs=true)];rfl)|(rw [(by assumption:stL m m.funcs=false),(by assumption:ltI 20000 (Int.ofNat (stN m.funcs))=true)];rfl)|(rw [(by assumption:stL m m.funcs=false),(by assumption:ltI 20000 (Int.ofNat (stN m.funcs))=false),(by assumption:ltI 1000 (Int.ofNat (stF m.funcs))=true)];rfl)|(rw [(by assumption:stL m m.funcs=false),(by assumption:ltI 20000 (Int.ofNat (stN m.funcs))=false),(by assumption:ltI 1000 (Int.ofNat (stF m.funcs))=false)];rfl)⟩)|skip
    refine OnC.norm ?_;have a:=bX (by assumption:ltI (Int.ofNat i) (Int.ofNat m.funcs.length)=true);have k:okF (cX m.funcs i)=true:=by
     clear d f
     (try simp only [Bool.not_eq_false']at*)
     simp only [okF,pI,Bool.not_false,Bool.and_true, *]
    have j:=d (by
     (try simp only [Bool.not_eq_false']at*)
     assumption)
    obtain⟨w,z,q3⟩:=f (by
     (try simp only [Bool.not_eq_false']at*)
     assumption)
    refine⟨_,_,If (l:=fr29f m (i+1)) (cs:=svC (stN (m.funcs.take (i+1))) (stF (m.funcs.take (i+1))) (stL m (m.funcs.take (i+1)))) rfl rfl rfl (ik ?_ ?_ ?_) (eM _ _ _) KBX (λid h=>.inl h),a,rfl,?_,rfl⟩
    ·show some (V.int .i64 (Int.ofNat n'))=_
     rw [xu a,w];rfl
    ·show some (V.int .i64 (Int.ofNat f'))=_
     rw [xw a,z];rfl
    ·first|(show some (V.bool (ltI 4000 (dA .i64 (Int.sub (Int.ofNat n') (Int.ofNat (stN (m.funcs.take i)))))))=some (V.bool (stL m (m.funcs.take (i+1))));rw [xv a,fL,<-Bool.or_assoc,<-Bool.or_assoc,<-j,<-q3,w,Ca (by have:=H3 (cX m.funcs i);have:=rn (ltb a);show _+fN (cX m.funcs i)<_;omega)];rfl)
    ·rw [kH a,List.all_append,seen,Bool.true_and,List.all_cons,List.all_nil,Bool.and_true]
     exact k
   ·skip
    repeat' (first
     |(refine WLg.mk ?_;first
     |refine ac ?_|refine av rfl rfl (ce Hy) rfl ?_|refine ap rfl rfl (i7 Hy) rfl ?_|refine au ?_|refine aJ rfl rfl rfl rfl rfl rfl rfl rfl rfl rfl rfl p rfl rfl ?_|refine aw u ?_)
     |(show WX _ _ _ _ _ _ _ _ _ _;first
     |refine bn rfl rfl rfl ?_|refine bt rfl rfl rfl ?_|refine aU rfl rfl (ce (i:=0) (gR Hy)) rfl ?_|refine aH ?_|refine aQ rfl rfl (dy (i:=0) (gR Hy) rfl) rfl ?_|refine aM ?_|refine bh rfl rfl rfl (n) .none rfl ?_|(fail_if_success refine WX.gt rfl ?_);refine bp rfl rfl rfl (λb=>?_) (λb=>?_)|refine aO (by repeat' (first|exact bR.nil|refine bR.any (λh=>rfl) ?_|refine bR.first rfl ?_|refine bR.first (i7 Hy) ?_|refine bR.snd (i7 Hy) ?_|refine bR.any (λh=>i7 Hy) ?_|refine bR.first (dy (i:=0) (gR Hy) rfl) ?_|refine bR.snd (dy (i:=0) (gR Hy) rfl) ?_|refine bR.any (λh=>dy (i:=0) (gR Hy) rfl) ?_|refine bR.each (.cons rfl .nil) ?_|refine bR.each (.cons rfl (.cons rfl .nil)) ?_|refine bR.each (.cons rfl (.cons rfl (.cons rfl .nil))) ?_)) ?_)|apply ab|refine aj rfl ?_|refine aB rfl rfl ?_|refine aC rfl (λb=>?_) (λb=>?_)|refine bK (h':=HB [.int .i64 (Int.ofNat n'),.int .i64 (Int.ofNat f'),.bool true]) ⟨_,rfl,(by repeat' (first|exact bR.nil|refine bR.any (λh=>rfl) ?_|refine bR.first rfl ?_)),rfl,rfl⟩ ?_|apply ae|apply aa|apply ai|apply ak|refine aF rfl ?_|refine ah rfl (λb=>?_) (λb=>?_)|apply ax|apply am|refine aP ?_|apply thN|apply thR|apply thE|apply onR|apply onE|fail)
    all_goals first
     |exact⟨.inr rfl,_,rfl,.flat rfl,_,rfl,by rw [vW (bX (by assumption:ltI (Int.ofNat i) (Int.ofNat m.funcs.length)=true)) (by clear d f<;>(try simp only [Bool.not_eq_true',Bool.not_eq_false']at*)<;>simp only [okF,pI,Bool.not_true,Bool.not_false,Bool.false_and,Bool.and_false, *])]<;>rfl⟩
     |(have e:i=m.funcs.length:=by
        have:=cC (by assumption:ltI (Int.ofNat i) (Int.ofNat m.funcs.length)=false);omega
       subst e;simp only [List.take_length]at*;exact⟨.inr rfl,_,rfl,.flat rfl,_,rfl,by
        show _=okM m;rw [Bs t s Hy]
        first
         |(rw [(by assumption:stL m m.funcs=true)];rfl)|(rw [(by assumption:stL m m.funcs=false),(by assumption:ltI 20000 (Int.ofNat (stN m.funcs))=true)];rfl)|(rw [(by assumption:stL m m.funcs=false),(by assumption:ltI 20000 (Int.ofNat (stN m.funcs))=false),(by assumption:ltI 1000 (Int.ofNat (stF m.funcs))=true)];rfl)|(rw [(by assumption:stL m m.funcs=false),(by assumption:ltI 20000 (Int.ofNat (stN m.funcs))=false),(by assumption:ltI 1000 (Int.ofNat (stF m.funcs))=false)];rfl)⟩)|skip
    refine OnC.norm ?_;have a:=bX (by assumption:ltI (Int.ofNat i) (Int.ofNat m.funcs.length)=true);have k:okF (cX m.funcs i)=true:=by
     clear d f
     (try simp only [Bool.not_eq_false']at*)
     simp only [okF,pI,Bool.not_false,Bool.and_true, *]
    have j:=d (by
     (try simp only [Bool.not_eq_false']at*)
     assumption)
    obtain⟨w,z,q3⟩:=f (by
     (try simp only [Bool.not_eq_false']at*)
     assumption)
    refine⟨_,_,If (l:=fr29f m (i+1)) (cs:=svC (stN (m.funcs.take (i+1))) (stF (m.funcs.take (i+1))) (stL m (m.funcs.take (i+1)))) rfl rfl rfl (ik ?_ ?_ ?_) (eM _ _ _) KBX (λid h=>.inl h),a,rfl,?_,rfl⟩
    ·show some (V.int .i64 (Int.ofNat n'))=_
     rw [xu a,w];rfl
    ·show some (V.int .i64 (Int.ofNat f'))=_
     rw [xw a,z];rfl
    ·first|(show some (V.bool true)=some (V.bool (stL m (m.funcs.take (i+1))));rw [xv a,fL,<-Bool.or_assoc,<-Bool.or_assoc,<-j,<-q3];rfl)
    ·rw [kH a,List.all_append,seen,Bool.true_and,List.all_cons,List.all_nil,Bool.and_true]
     exact k)
 exact⟨r,c,ok⟩
end
section
theorem tP{a b:Int}:eqI a b=decide (a=b):=by rw [jc];rfl
theorem lz0{n es:Nat}{cs:List V}(h:lz (.lst n es cs)=true):n=0:=by
 have:eqI (Int.ofNat n) 0=true:=h;rw [tP]at this;have:=of_decide_eq_true this
 simpa using this
theorem kB{α:Type}{l:List α}{es:Nat}{cs:List V}(h:lz (.lst l.length es cs)=true):l=[]:=List.eq_nil_of_length_eq_zero (lz0 h)
theorem Dq{x:Ex}(h:zB (ndL x)=true):∀i v,1<=i->(ndL x)[i]? =some v->lz v=true:=by
 have b:=zE x;unfold zB at h;rw [sr]at h;generalize ndL x=l at h b;cases b with
 |mk h1 h2 h3 h4 h5 h6=>
  intro i v hi a;simp only [List.tail_cons,zq,Bool.and_eq_true]at h
  match i,hi,a with
  |1,_,a=>cases a;rfl
  |2,_,a=>cases a;rfl
  |3,_,a=>cases a;rfl
  |4,_,a=>cases a;simp_all
  |5,_,a=>cases a;simp_all
  |6,_,a=>cases a;simp_all
  |7,_,a=>cases a;simp_all
  |8,_,a=>cases a;simp_all
  |9,_,a=>cases a;simp_all
  |10,_,a=>cases a;rfl
  |i+11,_,a=>simp at a
theorem kA{α β:Type}{f g:α->β}:∀{l:List α},(∀y,y∈l->f y=g y)->l.map f=l.map g
 |[],_=>rfl
 |a ::l,h=>by rw [List.map_cons,List.map_cons,h a List.mem_cons_self,kA λy hy=>h y (List.mem_cons_of_mem _ hy)]
theorem oR{α:Type}{f g:α->Bool}:∀{l:List α},(∀y,y∈l->f y=g y)->l.any f=l.any g
 |[],_=>rfl
 |a ::l,h=>by rw [List.any_cons,List.any_cons,h a List.mem_cons_self,oR λy hy=>h y (List.mem_cons_of_mem _ hy)]
theorem Eu(x:Ex):ndF x=if x.kind=13 then 1 else 0:=by
 by_cases q:x.kind=13
 ·unfold ndF ctF
  rw [q];rfl
 ·have a:eqI x.kind 13=false:=by rw [tP];exact decide_eq_false q
  unfold ndF ctF;rw [a,if_neg q];simp
end
end Ev
end Go.Proofs.YtdfphfdnoobikaaGreatDoor
