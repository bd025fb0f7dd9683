/-
  The program's survey:constructs.
-/
import Derived.Test.YtdfphfdnoobikaaGreatDoorLtRefC
namespace Go.Proofs.YtdfphfdnoobikaaGreatDoor
namespace Ev
section
theorem AZ(n f:Nat)(l0:Bool){vs:List V}(h:∀c,c∈vs->bY c):RnL (cY (lpB (svC n f l0))) (λi=>i) (λ_=>none) (.ptr 1 0 ::vs) (.ptr 1 0 ::vs):= .cons (@Rn.ptr _ (λi=>i) _ 1 0 ((lf 1).2 (by decide))) (RnL.pure h)
theorem f46F(l:List Cl)(b:bS (clL l)<=6000000)(p:Int)(a:Bool)(n f:Nat)(l0:Bool):
  ∃l1,(∀{h:H} {tr:Tr V},h.blk 0=some (.ro 256 d3)->h.blk 1=some (.cells 3 tr none false)->tr.get 0=some (.int .i64 (Int.ofNat n))->tr.get 1=some (.int .i64 (Int.ofNat f))->tr.get 2=some (.bool l0)->Nat.ble 2 h.next=true->
   CN 46 [.ptr 1 0,.lst l.length 4 (clL l),.int .i64 p,.bool a] h (.bool (clB p a l)) ⟨h.t.put 1 (some (.cells 3 (cM (svC n f l1) 0 .e) none false)),h.next⟩)/\(clB p a l=true->l1=(l0||clG l)):=by
 obtain⟨l1,c,o⟩:=f46 l b p a n f l0;refine⟨l1,λ{h tr} h0 h1 t0 t1 t2 hn=>?_,o⟩;exact Con.frameB (cs:=svC n f l0) (cs':=svC n f l1) c (AZ n f l0 (cg (pxC l) (cg (.flat rfl) (cg (.flat rfl) px0)))) List.mem_cons_self (.flat rfl) (eM _ _ _) (eM _ _ _) rfl rfl h0 h1 (ik t0 t1 t2) (Nat.le_of_ble_eq_true hn)
noncomputable section
def ctL(x:Ex):List V:=
 if eqI x.kind 13 then(exO x).set 6 .nils
 else if eqI x.kind 15 then(exO x).set 8 .nils
 else if eqI x.kind 16 then((exO x).set 4 .nils).set 6 .nils
 else if eqI x.kind 17 then((((exO x).set 4 .nils).set 6 .nils).set 9 .nils).set 10 (.bool false)
 else if eqI x.kind 18 then(((((exO x).set 8 .nils).set 6 .nils).set 7 .nils).set 9 .nils).set 10 (.bool false)
 else exO x
def tL(x:Ex):Bool:=oQ x.wait (ltI 0 (Int.ofNat x.after.length))
def ctB(x:Ex):Bool:=
 if eqI x.kind 13 then ltI 0 (Int.ofNat x.clauses.length)&&clB (-1) false x.clauses
 else if eqI x.kind 15 then ltI 0 (Int.ofNat x.body.length)&&bdB x.body
 else if eqI x.kind 16 then eqI (Int.ofNat x.items.length) 1&&ltI 0 (Int.ofNat x.clauses.length)&&clB 1 false x.clauses
 else if eqI x.kind 17 then
  if x.wait then clB 1 false x.clauses&&bdB x.after&&eqI (Int.ofNat x.items.length) 1&&ltI 0 (Int.ofNat x.after.length)
  else clB 1 false x.clauses&&bdB x.after&&eqI (Int.ofNat x.items.length) 0&&eqI (Int.ofNat x.after.length) 0&&ltI 0 (Int.ofNat x.clauses.length)
 else if eqI x.kind 18 then ltI 0 (Int.ofNat x.body.length)&&bdB x.body&&clB 1 false x.clauses&&clB 2 false x.catches&&bdB x.after&&tL x&&(x.wait||ltI 0 (Int.ofNat x.catches.length)) && !x.catches.any odC
 else false
def ctG(x:Ex):Bool:=
 if eqI x.kind 13 then clG x.clauses else if eqI x.kind 15 then false else if eqI x.kind 16 then clG x.clauses else if eqI x.kind 17 then clG x.clauses else if eqI x.kind 18 then clG x.clauses||clG x.catches else false
def ctF(x:Ex):Nat:=if eqI x.kind 13 then 1 else 0
end
theorem Gz{nm:Bool}{l:List Cl}(h:clB 2 nm l=true):∀c,c∈l->0<c.pats.length:=λc hc=>by
 have k:=List.all_eq_true.1 h c hc;unfold okC at k;simp only [Bool.and_eq_true,Bool.not_eq_true',Bool.or_eq_false_iff,Bool.and_eq_false_iff]at k;rcases k.1.1.1.1 with q|q
 ·cases q
 ·have:=sY (a:=Int.ofNat c.pats.length) (b:=2) (by simpa using q)
  simp at this;omega
set_option maxHeartbeats 16000000 in
theorem f82(x:Ex)(t:bS (exO x)<=6000000)(n f:Nat)(l0:Bool)(a:f<9223372036854775807):
  ∃l1,CN 82 [.ptr 1 0,.agg (exO x)] (svH n f l0) (.tup [.agg (ctL x),.bool (ctB x)]) (svH n (f+ctF x) l1)/\(ctB x=true->l1=(l0||ctG x)):=by
 obtain⟨v,cs',c,rfl,l1,rfl,ok⟩:∃v cs',CN 82 [.ptr 1 0,.agg (exO x)] (svH n f l0) v (HB cs')/\v= .tup [.agg (ctL x),.bool (ctB x)]/\∃l1,cs'=svC n (f+ctF x) l1/\(ctB x=true->l1=(l0||ctG x)):=by
  refine tT Tryz.func82 (by decide) q82.2 rfl rfl ?_;have r:=dZ x;have q:=iJ x.body;have s:=iJ x.after;have hc:=fR x.catches;obtain⟨d,g,p⟩:=f46F x.clauses (by omega) (-1) false n (f+1) l0;obtain⟨l,c1,o1⟩:=f46F x.clauses (by omega) 1 false n f l0;obtain⟨b,c2,m⟩:=f46F x.catches (by omega) 2 false n f l;have i:=f60 x.body (by omega);have e:=f60 x.after (by omega)
  repeat' (first
   |(refine WLg.mk ?_;first
   |refine ac ?_|refine au ?_|refine aE ?_|refine aI rfl rfl rfl rfl rfl ?_|refine aT rfl rfl rfl rfl rfl rfl rfl rfl rfl ?_|refine aS rfl rfl rfl rfl rfl rfl rfl rfl rfl ?_|refine ay i ?_|refine ay e ?_|refine aL rfl rfl rfl (f114 x.catches (by omega) (Gz Hy)) rfl ?_|refine aw (g rfl rfl rfl (dj a) rfl rfl) ?_|refine aw (c1 rfl rfl rfl rfl rfl rfl) ?_|refine aw (c2 rfl rfl rfl rfl rfl rfl) ?_)|apply ab|refine aj rfl ?_|refine aB rfl rfl ?_|refine aC rfl (λo=>?_) (λo=>?_)|apply ae|apply aa|apply ai|apply ak|refine ah rfl (λo=>?_) (λo=>?_)|apply am|apply thN|fail)
  all_goals (
   clear i e g c1 c2
   first
    |exact⟨.inr rfl,_,rfl,Nat.le_succ 2,(bY.tup (cg (.agg (by repeat' (first|exact px0|refine cg ?_ ?_|exact .flat rfl|exact pxE _|exact pxS _|exact pxC _|exact pxM _))) (cg (.flat rfl) px0))),svC n (f+1) d,_,_,⟨(by simp only [ctL,ctB,Bool.true_and,Bool.and_true,Bool.false_and,Bool.and_false,Bool.or_true,Bool.true_or,Bool.false_or,Bool.and_self,Bool.or_self,if_true,if_false,Bool.false_eq_true, *]<;>rfl),d,(by simp only [ctF,if_true,if_false,Bool.false_eq_true, *]<;>rfl),(λh=>by
        simp only [ctB,Bool.true_and,Bool.and_true,Bool.false_and,Bool.and_false,Bool.or_true,Bool.true_or,Bool.false_or,Bool.and_self,Bool.or_self,if_true,if_false,Bool.false_eq_true, *]at h
        first|done|(exact absurd h (by decide))|(simp only [ctG,Bool.or_false,if_true,if_false,Bool.false_eq_true, *]<;>exact p (by first|assumption|exact h)))⟩,rfl,rfl,ik rfl (by first|rfl|exact dj a) rfl,eM _ _ _,rfl⟩
    |exact⟨.inr rfl,_,rfl,Nat.le_succ 2,(bY.tup (cg (.agg (by repeat' (first|exact px0|refine cg ?_ ?_|exact .flat rfl|exact pxE _|exact pxS _|exact pxC _|exact pxM _))) (cg (.flat rfl) px0))),svC n (f+1) l0,_,_,⟨(by simp only [ctL,ctB,Bool.true_and,Bool.and_true,Bool.false_and,Bool.and_false,Bool.or_true,Bool.true_or,Bool.false_or,Bool.and_self,Bool.or_self,if_true,if_false,Bool.false_eq_true, *]<;>rfl),l0,(by simp only [ctF,if_true,if_false,Bool.false_eq_true, *]<;>rfl),(λh=>by
        simp only [ctB,Bool.true_and,Bool.and_true,Bool.false_and,Bool.and_false,Bool.or_true,Bool.true_or,Bool.false_or,Bool.and_self,Bool.or_self,if_true,if_false,Bool.false_eq_true, *]at h
        first|done|(exact absurd h (by decide))|(simp only [ctG,Bool.or_false,if_true,if_false,Bool.false_eq_true, *]))⟩,rfl,rfl,ik rfl (by first|rfl|exact dj a) rfl,eM _ _ _,rfl⟩
    |exact⟨.inr rfl,_,rfl,Nat.le_succ 2,(bY.tup (cg (.agg (by repeat' (first|exact px0|refine cg ?_ ?_|exact .flat rfl|exact pxE _|exact pxS _|exact pxC _|exact pxM _))) (cg (.flat rfl) px0))),svC n f l0,_,_,⟨(by simp only [ctL,ctB,Bool.true_and,Bool.and_true,Bool.false_and,Bool.and_false,Bool.or_true,Bool.true_or,Bool.false_or,Bool.and_self,Bool.or_self,if_true,if_false,Bool.false_eq_true, *]<;>rfl),l0,(by simp only [ctF,if_false,Bool.false_eq_true, *]<;>rfl),(λh=>by
        simp only [ctB,Bool.true_and,Bool.and_true,Bool.false_and,Bool.and_false,Bool.or_true,Bool.true_or,Bool.false_or,Bool.and_self,Bool.or_self,if_true,if_false,Bool.false_eq_true, *]at h
        first|done|(exact absurd h (by decide))|(simp only [ctG,Bool.or_false,if_true,if_false,Bool.false_eq_true, *]))⟩,rfl,rfl,ik rfl (by first|rfl|exact dj a) rfl,eM _ _ _,rfl⟩
    |exact⟨.inr rfl,_,rfl,Nat.le_succ 2,(bY.tup (cg (.agg (by repeat' (first|exact px0|refine cg ?_ ?_|exact .flat rfl|exact pxE _|exact pxS _|exact pxC _|exact pxM _))) (cg (.flat rfl) px0))),svC n f l,_,_,⟨(by simp only [ctL,ctB,Bool.true_and,Bool.and_true,Bool.false_and,Bool.and_false,Bool.or_true,Bool.true_or,Bool.false_or,Bool.and_self,Bool.or_self,if_true,if_false,Bool.false_eq_true, *]<;>rfl),l,(by simp only [ctF,if_false,Bool.false_eq_true, *]<;>rfl),(λh=>by
        simp only [ctB,Bool.true_and,Bool.and_true,Bool.false_and,Bool.and_false,Bool.or_true,Bool.true_or,Bool.false_or,Bool.and_self,Bool.or_self,if_true,if_false,Bool.false_eq_true, *]at h
        first|done|(exact absurd h (by decide))|(simp only [ctG,if_true,if_false,Bool.false_eq_true, *]<;>exact o1 (by first|assumption|exact h)))⟩,rfl,rfl,ik rfl (by first|rfl|exact dj a) rfl,eM _ _ _,rfl⟩
    |(have q:tL x=true:=by assumption
      exact⟨.inr rfl,_,rfl,Nat.le_succ 2,(bY.tup (cg (.agg (by repeat' (first|exact px0|refine cg ?_ ?_|exact .flat rfl|exact pxE _|exact pxS _|exact pxC _|exact pxM _))) (cg (.flat rfl) px0))),svC n f b,_,_,⟨(by simp only [ctL,ctB,Bool.true_and,Bool.and_true,Bool.false_and,Bool.and_false,Bool.or_true,Bool.true_or,Bool.and_self,Bool.or_self,if_true,if_false,Bool.false_eq_true, *]<;>rfl),b,(by simp only [ctF,if_false,Bool.false_eq_true, *]<;>rfl),(λh=>by
         simp only [ctB,Bool.true_and,Bool.and_true,Bool.false_and,Bool.and_false,Bool.or_true,Bool.true_or,Bool.and_self,Bool.or_self,if_true,if_false,Bool.false_eq_true, *]at h
         first|done|(exact absurd h (by decide))|(have k:=o1 Hy;have j:=m (by first|assumption|exact h);simp only [ctG,if_true,if_false,Bool.false_eq_true, *]<;>first|done|rw [Bool.or_assoc]|rw [j,k,Bool.or_assoc]))⟩,rfl,rfl,ik rfl (by first|rfl|exact dj a) rfl,eM _ _ _,rfl⟩)
    |(have q:tL x=false:=by assumption
      exact⟨.inr rfl,_,rfl,Nat.le_succ 2,(bY.tup (cg (.agg (by repeat' (first|exact px0|refine cg ?_ ?_|exact .flat rfl|exact pxE _|exact pxS _|exact pxC _|exact pxM _))) (cg (.flat rfl) px0))),svC n f b,_,_,⟨(by simp only [ctL,ctB,Bool.true_and,Bool.and_true,Bool.false_and,Bool.and_false,Bool.and_self,if_true,if_false,Bool.false_eq_true, *]<;>rfl),b,(by simp only [ctF,if_false,Bool.false_eq_true, *]<;>rfl),(λh=>by
         simp only [ctB,Bool.true_and,Bool.and_true,Bool.false_and,Bool.and_false,Bool.and_self,if_true,if_false,Bool.false_eq_true, *]at h
         first|done|(exact absurd h (by decide))|(have k:=o1 Hy;have j:=m (by first|assumption|exact h);simp only [ctG,Bool.true_and,Bool.and_true,Bool.false_and,Bool.and_false,Bool.or_true,Bool.true_or,Bool.or_false,Bool.false_or,Bool.not_true,Bool.not_false,Bool.and_self,Bool.or_self,if_true,if_false,Bool.false_eq_true,reduceIte, *]<;>first|done|rw [Bool.or_assoc]|rw [j,k,Bool.or_assoc]))⟩,rfl,rfl,ik rfl (by first|rfl|exact dj a) rfl,eM _ _ _,rfl⟩)
    |exact⟨.inr rfl,_,rfl,Nat.le_succ 2,(bY.tup (cg (.agg (by repeat' (first|exact px0|refine cg ?_ ?_|exact .flat rfl|exact pxE _|exact pxS _|exact pxC _|exact pxM _))) (cg (.flat rfl) px0))),svC n f b,_,_,⟨(by simp only [ctL,ctB,Bool.true_and,Bool.and_true,Bool.false_and,Bool.and_false,Bool.and_self,if_true,if_false,Bool.false_eq_true, *]<;>rfl),b,(by simp only [ctF,if_false,Bool.false_eq_true, *]<;>rfl),(λh=>by
        simp only [ctB,Bool.true_and,Bool.and_true,Bool.false_and,Bool.and_false,Bool.and_self,if_true,if_false,Bool.false_eq_true, *]at h
        first|done|(exact absurd h (by decide))|(have k:=o1 Hy;have j:=m (by first|assumption|exact h);simp only [ctG,Bool.true_and,Bool.and_true,Bool.false_and,Bool.and_false,Bool.or_true,Bool.true_or,Bool.or_false,Bool.false_or,Bool.not_true,Bool.not_false,Bool.and_self,Bool.or_self,if_true,if_false,Bool.false_eq_true,reduceIte, *]<;>first|done|rw [Bool.or_assoc]|rw [j,k,Bool.or_assoc]))⟩,rfl,rfl,ik rfl (by first|rfl|exact dj a) rfl,eM _ _ _,rfl⟩
    |fail)
 exact⟨l1,c,ok⟩
end
section
inductive Sh:List V->Prop
 |mk {k a:Int} {n1 c1 n2 c2:Nat} {l1 l2 l3 l4 l5 l6:V} {w:Bool} (h1:Lv l1) (h2:Lv l2) (h3:Lv l3) (h4:Lv l4) (h5:Lv l5) (h6:Lv l6):Sh [.int .i64 k,.int .i64 a,.str n1 c1,.str n2 c2,l1,l2,l3,l4,l5,l6,.bool w]
theorem Sh.node{l:List V}(h:Sh l):oq (.agg l):=by
 cases h with
 |mk h1 h2 h3 h4 h5 h6=>exact .mk h1 h2 h3 h4 h5 h6
theorem lvE(l:List Ex):Lv (.lst l.length 11 (exL l)):= .lst (pxE l)
theorem lvS(l:List Sg):Lv (.lst l.length 27 (sgL l)):= .lst (pxS l)
theorem lvC(l:List Cl):Lv (.lst l.length 4 (clL l)):= .lst (pxC l)
theorem lvM(l:List Sm):Lv (.lst l.length 23 (smL l)):= .lst (pxM l)
theorem Au(x:Ex):Sh (ctL x):=by
 unfold ctL
 repeat' split
 all_goals exact .mk (by first|exact .nils|exact lvE _) (by first|exact .nils|exact lvS _) (by first|exact .nils|exact lvC _) (by first|exact .nils|exact lvC _) (by first|exact .nils|exact lvM _) (by first|exact .nils|exact lvM _)
noncomputable section
def ndL(x:Ex):List V:=
 if eqI x.kind 1 then(exO x).set 1 (.int .i64 0)
 else if eqI x.kind 2 then(exO x).set 2 (.str 0 0)
 else if eqI x.kind 3 then(exO x).set 2 (.str 0 0)
 else if eqI x.kind 4 then exO x
 else if eqI x.kind 6 then exO x
 else if eqI x.kind 5 then(exO x).set 4 .nils
 else if eqI x.kind 7 then(exO x).set 4 .nils
 else if eqI x.kind 8 then(exO x).set 5 .nils
 else if eqI x.kind 9 then((exO x).set 2 (.str 0 0)).set 4 .nils
 else if eqI x.kind 10 then((exO x).set 2 (.str 0 0)).set 4 .nils
 else if eqI x.kind 11 then(exO x).set 4 .nils
 else if eqI x.kind 12 then(exO x).set 4 .nils
 else if eqI x.kind 14 then(((exO x).set 2 (.str 0 0)).set 3 (.str 0 0)).set 1 (.int .i64 0)
 else ctL x
def ndB(x:Ex):Bool:=
 if eqI x.kind 1 then true
 else if eqI x.kind 2 then wdB x.name
 else if eqI x.kind 3 then rb 79 [sV x.name]
 else if eqI x.kind 4 then true
 else if eqI x.kind 6 then true
 else if eqI x.kind 5 then true
 else if eqI x.kind 7 then !ltI (Int.ofNat x.items.length) 2
 else if eqI x.kind 8 then sgB x.segs
 else if eqI x.kind 9 then rb 81 [sV x.name,.int .i64 (Int.ofNat x.items.length)]
 else if eqI x.kind 10 then wdB x.name
 else if eqI x.kind 11 then !ltI (Int.ofNat x.items.length) 2
 else if eqI x.kind 12 then !ltI (Int.ofNat x.items.length) 1
 else if eqI x.kind 14 then wdB x.name&&wdB x.text && !ltI x.int 0 && !ltI 16 x.int
 else ctB x
def ndG(x:Ex):Bool:=
 if eqI x.kind 1 then false
 else if eqI x.kind 2 then false
 else if eqI x.kind 3 then false
 else if eqI x.kind 4 then false
 else if eqI x.kind 6 then false
 else if eqI x.kind 5 then ltI 255 (Int.ofNat x.items.length)
 else if eqI x.kind 7 then false
 else if eqI x.kind 8 then ltI 60 (Int.ofNat x.segs.length)
 else if eqI x.kind 9 then false
 else if eqI x.kind 10 then ltI 16 (Int.ofNat x.items.length)
 else if eqI x.kind 11 then ltI 18 (Int.ofNat x.items.length)
 else if eqI x.kind 12 then ltI 17 (Int.ofNat x.items.length)
 else if eqI x.kind 14 then false
 else ctG x
def ndF(x:Ex):Nat:=
 if eqI x.kind 1 then 0
 else if eqI x.kind 2 then 0
 else if eqI x.kind 3 then 0
 else if eqI x.kind 4 then 0
 else if eqI x.kind 6 then 0
 else if eqI x.kind 5 then 0
 else if eqI x.kind 7 then 0
 else if eqI x.kind 8 then 0
 else if eqI x.kind 9 then 0
 else if eqI x.kind 10 then 0
 else if eqI x.kind 11 then 0
 else if eqI x.kind 12 then 0
 else if eqI x.kind 14 then 0
 else ctF x
end
theorem JJ{c:Bool}{a b:List V}(h1:Sh a)(h2:Sh b):Sh (if c then a else b):=by cases c<;>assumption
theorem zE(x:Ex):Sh (ndL x):=by
 unfold ndL
 repeat' (refine JJ ?_ ?_)
 all_goals first
  |exact Au x|exact .mk (by first|exact .nils|exact lvE _) (by first|exact .nils|exact lvS _) (by first|exact .nils|exact lvC _) (by first|exact .nils|exact lvC _) (by first|exact .nils|exact lvM _) (by first|exact .nils|exact lvM _)
theorem f82F(x:Ex)(d:bS (exO x)<=6000000)(n f:Nat)(l0:Bool)(b:f<9223372036854775807):
  ∃l1,(∀{h:H} {tr:Tr V},h.blk 0=some (.ro 256 d3)->h.blk 1=some (.cells 3 tr none false)->tr.get 0=some (.int .i64 (Int.ofNat n))->tr.get 1=some (.int .i64 (Int.ofNat f))->tr.get 2=some (.bool l0)->Nat.ble 2 h.next=true->
   CN 82 [.ptr 1 0,.agg (exO x)] h (.tup [.agg (ctL x),.bool (ctB x)]) ⟨h.t.put 1 (some (.cells 3 (cM (svC n (f+ctF x) l1) 0 .e) none false)),h.next⟩)/\(ctB x=true->l1=(l0||ctG x)):=by
 obtain⟨l1,c,o⟩:=f82 x d n f l0 b;refine⟨l1,λ{h tr} h0 h1 t0 t1 t2 hn=>?_,o⟩;have a:bY (.agg (ctL x)):=(Au x).node.px;exact Con.frameB (cs:=svC n f l0) (cs':=svC n (f+ctF x) l1) c (AZ n f l0 (cg (pxe x) px0)) List.mem_cons_self (.tup (cg a (cg (.flat rfl) px0))) (eM _ _ _) (eM _ _ _) rfl rfl h0 h1 (ik t0 t1 t2) (Nat.le_of_ble_eq_true hn)
set_option maxHeartbeats 16000000 in
theorem f61(x:Ex)(y:bS (exO x)<=6000000)(n f:Nat)(l0:Bool)(u:f<9223372036854775807):
  ∃l1,CN 61 [.ptr 1 0,.agg (exO x)] (svH n f l0) (.tup [.agg (ndL x),.bool (ndB x)]) (svH n (f+ndF x) l1)/\(ndB x=true->l1=(l0||ndG x)):=by
 obtain⟨v,cs',c,rfl,l1,rfl,ok⟩:∃v cs',CN 61 [.ptr 1 0,.agg (exO x)] (svH n f l0) v (HB cs')/\v= .tup [.agg (ndL x),.bool (ndB x)]/\∃l1,cs'=svC n (f+ndF x) l1/\(ndB x=true->l1=(l0||ndG x)):=by
  refine tT Tryz.func61 (by decide) q61.2 rfl rfl ?_;have s:=dZ x;have hi:=dT x.items;have hs:=jW x.segs;obtain⟨j,b,g⟩:=f82F x y n f l0 u;have d:=Au x;generalize E:ctL x=L at b d;cases d with
  |mk h1 h2 h3 h4 h5 h6=>
  rename_i r t n1 c1 n2 c2 l1 K G M C B w
  have e:=lD (k:=r) (a:=t) (n1:=n1) (c1:=c1) (n2:=n2) (c2:=c2) (w:=w) h1 h2 h3 h4 h5 h6;have F:=h1.px;have D:=h2.px;have I:=h3.px;have J:=h4.px;have z:=h5.px;have A:=h6.px;have q:=f45 x.name.size (ck x.name.data.toList);have p:=f45 x.text.size (ck x.text.data.toList);have l:=f79s x.name (by omega);have m:=f80 x.segs (by omega);have o:=f81 x.name.size (ck x.name.data.toList) (Int.ofNat x.items.length)
  repeat' (first
   |(refine WLg.mk ?_;first
   |refine ac ?_|refine au ?_|refine aE ?_|refine aI rfl rfl rfl rfl rfl ?_|refine aS rfl rfl rfl rfl e rfl rfl rfl rfl ?_|refine aT rfl rfl rfl rfl rfl rfl rfl rfl rfl ?_|refine aS rfl rfl rfl rfl rfl rfl rfl rfl rfl ?_|refine ay q ?_|refine ay p ?_|refine ay l ?_|refine ay m ?_|refine ay o ?_|refine aw (b rfl rfl rfl rfl rfl rfl) ?_)|apply ab|refine aj rfl ?_|refine aB rfl rfl ?_|refine aC rfl (λi=>?_) (λi=>?_)|apply ae|apply aa|apply ai|apply ak|refine ah rfl (λi=>?_) (λi=>?_)|apply am|apply thN|apply thR|fail)
  all_goals (
   clear q p l m o b
   first
    |(exact absurd ((show eqI x.kind 4=true by assumption).symm.trans (show eqI x.kind 4=false by assumption)) (by decide))
    |exact⟨.inr rfl,_,rfl,Nat.le_succ 2,(bY.tup (cg (.agg (by repeat' (first|exact px0|refine cg ?_ ?_|exact .flat rfl|exact pxE _|exact pxS _|exact pxC _|exact pxM _|assumption))) (cg (.flat rfl) px0))),svC n f l0,_,_,⟨(by simp only [ndL,ndB,wdB,sV,Bool.true_and,Bool.false_and,Bool.and_false,Bool.and_self,if_true,if_false,Bool.false_eq_true, *]<;>rfl),l0,(by simp only [ndF,if_true,if_false,Bool.false_eq_true, *]<;>rfl),(λh=>by
       first
        |(simp only [ndG,Bool.true_or,Bool.or_false,Bool.false_or,if_true,if_false,Bool.false_eq_true, *]<;>rfl)|(simp only [ndG,Bool.false_or,if_true,if_false,Bool.false_eq_true, *])|rfl)⟩,rfl,rfl,ik rfl rfl rfl,eM _ _ _,rfl⟩
    |exact⟨.inr rfl,_,rfl,Nat.le_succ 2,(bY.tup (cg (.agg (by repeat' (first|exact px0|refine cg ?_ ?_|exact .flat rfl|exact pxE _|exact pxS _|exact pxC _|exact pxM _|assumption))) (cg (.flat rfl) px0))),svC n f true,_,_,⟨(by simp only [ndL,ndB,wdB,sV,if_true,if_false,Bool.false_eq_true, *]<;>rfl),true,(by simp only [ndF,if_true,if_false,Bool.false_eq_true, *]<;>rfl),(λh=>by
       first
        |(simp only [ndG,Bool.true_or,Bool.false_or,if_true,if_false,Bool.false_eq_true, *]<;>rfl)|(simp only [ndG,Bool.false_or,if_true,if_false,Bool.false_eq_true, *])|rfl)⟩,rfl,rfl,ik rfl rfl rfl,eM _ _ _,rfl⟩
    |exact⟨.inr rfl,_,rfl,Nat.le_succ 2,(bY.tup (cg (.agg (by repeat' (first|exact px0|refine cg ?_ ?_|exact .flat rfl|exact pxE _|exact pxS _|exact pxC _|exact pxM _|assumption))) (cg (.flat rfl) px0))),svC n f (ltI 255 (Int.ofNat x.items.length)),_,_,⟨(by simp only [ndL,ndB,wdB,sV,if_true,if_false,Bool.false_eq_true, *]<;>rfl),(ltI 255 (Int.ofNat x.items.length)),(by simp only [ndF,if_true,if_false,Bool.false_eq_true, *]<;>rfl),(λh=>by
       first
        |(simp only [ndG,Bool.false_or,if_true,if_false,Bool.false_eq_true, *]<;>rfl)|(simp only [ndG,Bool.false_or,if_true,if_false,Bool.false_eq_true, *])|rfl)⟩,rfl,rfl,ik rfl rfl rfl,eM _ _ _,rfl⟩
    |exact⟨.inr rfl,_,rfl,Nat.le_succ 2,(bY.tup (cg (.agg (by repeat' (first|exact px0|refine cg ?_ ?_|exact .flat rfl|exact pxE _|exact pxS _|exact pxC _|exact pxM _|assumption))) (cg (.flat rfl) px0))),svC n f (ltI 60 (Int.ofNat x.segs.length)),_,_,⟨(by simp only [ndL,ndB,wdB,sV,if_true,if_false,Bool.false_eq_true, *]<;>rfl),(ltI 60 (Int.ofNat x.segs.length)),(by simp only [ndF,if_true,if_false,Bool.false_eq_true, *]<;>rfl),(λh=>by
       first
        |(simp only [ndG,Bool.false_or,if_true,if_false,Bool.false_eq_true, *]<;>rfl)|(simp only [ndG,Bool.false_or,if_true,if_false,Bool.false_eq_true, *])|rfl)⟩,rfl,rfl,ik rfl rfl rfl,eM _ _ _,rfl⟩
    |exact⟨.inr rfl,_,rfl,Nat.le_succ 2,(bY.tup (cg (.agg (by repeat' (first|exact px0|refine cg ?_ ?_|exact .flat rfl|exact pxE _|exact pxS _|exact pxC _|exact pxM _|assumption))) (cg (.flat rfl) px0))),svC n f (ltI 16 (Int.ofNat x.items.length)),_,_,⟨(by simp only [ndL,ndB,wdB,sV,if_true,if_false,Bool.false_eq_true, *]<;>rfl),(ltI 16 (Int.ofNat x.items.length)),(by simp only [ndF,if_true,if_false,Bool.false_eq_true, *]<;>rfl),(λh=>by
       first
        |(simp only [ndG,Bool.false_or,if_true,if_false,Bool.false_eq_true, *]<;>rfl)|(simp only [ndG,Bool.false_or,if_true,if_false,Bool.false_eq_true, *])|rfl)⟩,rfl,rfl,ik rfl rfl rfl,eM _ _ _,rfl⟩
    |exact⟨.inr rfl,_,rfl,Nat.le_succ 2,(bY.tup (cg (.agg (by repeat' (first|exact px0|refine cg ?_ ?_|exact .flat rfl|exact pxE _|exact pxS _|exact pxC _|exact pxM _|assumption))) (cg (.flat rfl) px0))),svC n f (ltI 18 (Int.ofNat x.items.length)),_,_,⟨(by simp only [ndL,ndB,wdB,sV,if_true,if_false,Bool.false_eq_true, *]<;>rfl),(ltI 18 (Int.ofNat x.items.length)),(by simp only [ndF,if_true,if_false,Bool.false_eq_true, *]<;>rfl),(λh=>by
       first
        |(simp only [ndG,Bool.false_or,if_true,if_false,Bool.false_eq_true, *]<;>rfl)|(simp only [ndG,Bool.false_or,if_true,if_false,Bool.false_eq_true, *])|rfl)⟩,rfl,rfl,ik rfl rfl rfl,eM _ _ _,rfl⟩
    |exact⟨.inr rfl,_,rfl,Nat.le_succ 2,(bY.tup (cg (.agg (by repeat' (first|exact px0|refine cg ?_ ?_|exact .flat rfl|exact pxE _|exact pxS _|exact pxC _|exact pxM _|assumption))) (cg (.flat rfl) px0))),svC n f (ltI 17 (Int.ofNat x.items.length)),_,_,⟨(by simp only [ndL,ndB,wdB,sV,if_true,if_false,Bool.false_eq_true, *]<;>rfl),(ltI 17 (Int.ofNat x.items.length)),(by simp only [ndF,if_true,if_false,Bool.false_eq_true, *]<;>rfl),(λh=>by
       first
        |(simp only [ndG,Bool.false_or,if_true,if_false,Bool.false_eq_true, *]<;>rfl)|(simp only [ndG,if_false,Bool.false_eq_true, *])|rfl)⟩,rfl,rfl,ik rfl rfl rfl,eM _ _ _,rfl⟩
    |exact⟨.inr rfl,_,rfl,Nat.le_succ 2,(bY.tup (cg (.agg (by repeat' (first|exact px0|refine cg ?_ ?_|exact .flat rfl|exact pxE _|exact pxS _|exact pxC _|exact pxM _|assumption))) (cg (.flat rfl) px0))),svC n (f+ctF x) j,_,_,⟨(by simp only [ndL,ndB,wdB,sV,if_false,Bool.false_eq_true, *]<;>rfl),j,(by simp only [ndF,if_false,Bool.false_eq_true, *]<;>rfl),(λh=>by
       simp only [ndB,if_false,Bool.false_eq_true, *]at h;simp only [ndG,if_false,Bool.false_eq_true, *]<;>exact g (by first|assumption|exact h))⟩,rfl,rfl,ik rfl rfl rfl,eM _ _ _,rfl⟩
    |fail)
 exact⟨l1,c,ok⟩
end
section
noncomputable def smZ:Sm:= .mk false ex0 ex0
inductive Rk{α:Type}(C:α->H->Bool->H->Prop):List α->H->Bool->H->Prop
 |nil {h:H}:Rk C [] h true h
 |stop {y:α} {l:List α} {h h':H} (c:C y h false h'):Rk C (y ::l) h false h'
 |go {y:α} {l:List α} {h h1 h':H} {b:Bool} (c:C y h true h1) (k:Rk C l h1 b h'):Rk C (y ::l) h b h'
theorem Rk.app{α:Type}{C:α->H->Bool->H->Prop}:∀{a b:List α} {h h':H} {r:Bool},Rk C (a++b) h r h'->(∃h1,Rk C a h true h1/\Rk C b h1 r h')\/(r=false/\Rk C a h false h')
 |[],b,h,h',r,k=>.inl ⟨h,.nil,k⟩
 |y ::a,b,h,h',r,k=>by
  cases k with
  |stop c=>exact .inr ⟨rfl,.stop c⟩
  |go c k=>
   rcases Rk.app k with⟨h1,k1,k2⟩ | ⟨e,k1⟩
   ·exact .inl ⟨h1,.go c k1,k2⟩
   ·subst e
    exact .inr ⟨rfl,.go c k1⟩
structure CX(g:FuncId)(caps:List V)(v:V)(h:H)(b:Bool)(h':H):Prop where
 con:CN g (v ::caps) h (.bool b) h'
 le:h.next<=h'.next
 lt:Nat.blt h'.next bZ=true
def CE(g:FuncId)(caps:List V)(y:Ex)(h:H)(b:Bool)(h':H):Prop:=CX g caps (.agg (exO y)) h b h'
structure Gr(h h':H):Prop where
 le:h.next<=h'.next
 lt:Nat.blt h'.next bZ=true
theorem Gr.refl{h:H}(k:Nat.blt h.next bZ=true):Gr h h:=⟨Nat.le_refl _,k⟩
theorem Gr.trans{a b c:H}(x:Gr a b)(y:Gr b c):Gr a c:=⟨Nat.le_trans x.le y.le,y.lt⟩
theorem CE.gr{g:FuncId}{caps:List V}{y:Ex}{h h':H}{b:Bool}(c:CE g caps y h b h'):Gr h h':=⟨CX.le c,CX.lt c⟩
theorem Rk.gr{α:Type}{C:α->H->Bool->H->Prop}(hc:∀y h b h',C y h b h'->Gr h h'):∀{l:List α} {h h':H} {r:Bool},Nat.blt h.next bZ=true->Rk C l h r h'->Gr h h'
 |_,_,_,_,k,.nil=>.refl k
 |_,_,_,_,_,.stop c=>hc _ _ _ _ c
 |_,_,_,_,_,.go c k=>(hc _ _ _ _ c).trans (Rk.gr hc (hc _ _ _ _ c).lt k)
theorem lB{α:Type}{l:List α}{i:Nat}{d:α}(h:Nat.blt i l.length=true):l.drop i=(l[i]?).getD d ::l.drop (i+1):=by
 have h':=bX h;rw [List.drop_eq_getElem_cons h',List.getElem?_eq_getElem h'];rfl
theorem jK{α:Type}{l:List α}{i:Nat}(_:i<=l.length)(h:Nat.blt i l.length=false):l.drop i=[]:=by
 have:=cC h;rw [List.drop_eq_nil_iff];exact this
theorem fP{f:FuncId} {fn:Func} {cf:CF} {h h':H} {b:Bool} (hfn:Tryz.prog.funcs[f]? =some fn) (hnm:fn.name≠ "runtime.NumGoroutine") (hcf:ci TP fn=some cf) {vs:List V} (hlen:vs.length=cf.params) {loc:AL} (hn:mY vs 0=some loc) (np:1 < h.next) (hle:h.next<=h'.next)
  (k:WC Tryz.prog TP (λid=>id<h.next/\¬noM id) ft 1 cf.code loc h (qf cf λv h1=>v= .bool b/\h1=h')):CN f vs h (.bool b) h':=by
 obtain⟨v,h1,c,rfl,rfl⟩:=wD (R:=λv h1=>v= .bool b/\h1=h') hfn hnm hcf hlen hn ⟨1,np,λq=>q,by decide⟩ (k.mono λx l h1 q=>⟨q.1,by
  obtain⟨l,k1,k2,k3⟩:=q.2;exact⟨l,k1,by rw [k3];exact hle,k2,k3⟩⟩)
 exact c
theorem BS{f:FuncId} {fn:Func} {cf:CF} {h h':H} {R:Int->Prop} (hfn:Tryz.prog.funcs[f]? =some fn) (hnm:fn.name≠ "runtime.NumGoroutine") (hcf:ci TP fn=some cf) {vs:List V} (hlen:vs.length=cf.params) {loc:AL} (hn:mY vs 0=some loc) (np:1 < h.next) (hle:h.next<=h'.next)
  (k:WC Tryz.prog TP (λid=>id<h.next/\¬noM id) ft 1 cf.code loc h (qf cf λv h1=>(∃n,v= .int .i64 n/\R n)/\h1=h')):∃n,R n/\CN f vs h (.int .i64 n) h':=by
 obtain⟨v,h1,c,⟨n,rfl,r⟩,rfl⟩:=wD (R:=λv h1=>(∃n,v= .int .i64 n/\R n)/\h1=h') hfn hnm hcf hlen hn ⟨1,np,λq=>q,by decide⟩ (k.mono λx l h1 q=>⟨q.1,by
  obtain⟨l,k1,k2,k3⟩:=q.2;exact⟨l,k1,by rw [k3];exact hle,k2,k3⟩⟩)
 exact⟨n,r,c⟩
noncomputable section
def fr123(g:FuncId)(caps:List V)(l:List Ex)(i:Nat):AL:=[(0,.lst l.length 11 (exL l)),(1,.func (.func g) [] caps),(7,.int .i64 (Int.ofNat l.length)),(8,.int .i64 (Int.ofNat i))]
def fr110c(g:FuncId)(caps:List V)(l:List Sm)(i:Nat):AL:=[(0,.lst l.length 23 (smL l)),(1,.func (.func g) [] caps),(7,.int .i64 (Int.ofNat l.length)),(8,.int .i64 (Int.ofNat i))]
end
theorem f123c{g:FuncId}{a:List V}{l:List Ex}(j:l.length<9223372036854775807){h h':H}{b:Bool}(np:1<h.next)(f:Nat.blt h.next bZ=true)(k:Rk (λy h b h'=>CX g a (.agg (exO y)) h (!b) h') l h b h'):
  ∃n,(!ltI n 0)= !b/\CN 123 [.lst l.length 11 (exL l),.func (.func g) [] a] h (.int .i64 n) h':=by
 have gr:=k.gr (λy h b h' c=>⟨c.le,c.lt⟩) f;refine BS (R:=λn=>(!ltI n 0)= !b) Tryz.func123 (by decide) Lz.2 rfl rfl np gr.le ?_
 repeat' (first
  |apply ab|apply ae|apply aa|apply ai|refine ac ?_|apply thN)
 refine az (cA (l:=fr123 g a l 0) KH) ?_;refine aA l.length (λi x h1=>x=fr123 g a l i/\Rk (λy h b h'=>CX g a (.agg (exO y)) h (!b) h') (l.drop i) h1 b h') ?_ (i:=0) (Nat.zero_le _) ⟨rfl,k⟩;rintro i _ h1 hi ⟨rfl,k⟩;have hi2:i<9223372036854775807:=by omega
 cases q:Nat.blt i l.length with
 |false=>
  rw [jK hi q]at k;cases k
  repeat' (first
   |apply ab|apply ae|apply aa|apply ai|apply ak|refine ah rfl (λe=>?_) (λe=>?_)|apply ax|apply am|apply thN|apply thE|refine ac ?_|refine av rfl rfl (ce Hy) rfl ?_|refine ap rfl rfl (dF Hy) rfl ?_|apply onE)
  all_goals first
   |exact absurd (q.symm.trans Hy) (by decide)|exact⟨.inr rfl,_,rfl,⟨_,rfl,rfl⟩,rfl⟩
 |true=>
  rw [lB (d:=ex0) q]at k;cases k with
  |stop c=>
   have c:=c.con
   repeat' (first
    |apply ab|apply ae|apply aa|apply ai|apply ak|refine aF rfl ?_|refine ah rfl (λe=>?_) (λe=>?_)|apply ax|apply am|apply thN|apply thR|apply thE|apply onR|refine ac ?_|refine av rfl rfl (ce Hy) rfl ?_|refine ap rfl rfl (dF Hy) rfl ?_|refine aw c ?_|apply onE)
   all_goals first
    |exact absurd (q.symm.trans Hy) (by decide)|exact⟨.inr rfl,_,rfl,⟨_,rfl,rfl⟩,rfl⟩
  |go c k=>
   have c:=c.con
   repeat' (first
    |apply ab|apply ae|apply aa|apply ai|apply ak|refine aD rfl ?_|refine ah rfl (λe=>?_) (λe=>?_)|apply ax|apply am|apply thN|apply thE|refine ac ?_|refine av rfl rfl (ce Hy) rfl ?_|refine ap rfl rfl (dF Hy) rfl ?_|refine aw c ?_|apply onE)
   all_goals first
    |exact absurd (q.symm.trans Hy) (by decide)|exact .norm ⟨_,_,cA KH,bX q,rfl,k⟩
theorem f91c{g:FuncId}{a:List V}{l:List Ex}(f:l.length<9223372036854775807){h h':H}{b:Bool}(np:1<h.next)(d:Nat.blt h.next bZ=true)(k:Rk (λy h b h'=>CX g a (.agg (exO y)) h (!b) h') l h b h'):
  CN 91 [.lst l.length 11 (exL l),.func (.func g) [] a] h (.bool (!b)) h':=by
 have gr:=k.gr (λy h b h' c=>⟨c.le,c.lt⟩) d;obtain⟨n,e,c⟩:=f123c f np d k;refine fP Tryz.func91 (by decide) q91.2 rfl rfl np gr.le ?_
 repeat' (first
  |apply ab|apply ae|apply aa|apply am|refine ac ?_|refine aw c ?_|apply thN)
 exact⟨.inr rfl,_,rfl,by rw [<-e];rfl,rfl⟩
theorem f110c{g:FuncId}{a:List V}{l:List Sm}(j:l.length<9223372036854775807){h h':H}{b:Bool}(np:1<h.next)(f:Nat.blt h.next bZ=true)(k:Rk (λy h b h'=>CX g a (.agg (smO y)) h (!b) h') l h b h'):
  ∃n,(!ltI n 0)= !b/\CN 110 [.lst l.length 23 (smL l),.func (.func g) [] a] h (.int .i64 n) h':=by
 have gr:=k.gr (λy h b h' c=>⟨c.le,c.lt⟩) f;refine BS (R:=λn=>(!ltI n 0)= !b) Tryz.func110 (by decide) JZ.2 rfl rfl np gr.le ?_
 repeat' (first
  |apply ab|apply ae|apply aa|apply ai|refine ac ?_|apply thN)
 refine az (cA (l:=fr110c g a l 0) KH) ?_;refine aA l.length (λi x h1=>x=fr110c g a l i/\Rk (λy h b h'=>CX g a (.agg (smO y)) h (!b) h') (l.drop i) h1 b h') ?_ (i:=0) (Nat.zero_le _) ⟨rfl,k⟩;rintro i _ h1 hi ⟨rfl,k⟩;have hi2:i<9223372036854775807:=by omega
 cases q:Nat.blt i l.length with
 |false=>
  rw [jK hi q]at k;cases k
  repeat' (first
   |apply ab|apply ae|apply aa|apply ai|apply ak|refine ah rfl (λe=>?_) (λe=>?_)|apply ax|apply am|apply thN|apply thE|refine ac ?_|refine av rfl rfl (ce Hy) rfl ?_|refine ap rfl rfl (fV Hy) rfl ?_|apply onE)
  all_goals first
   |exact absurd (q.symm.trans Hy) (by decide)|exact⟨.inr rfl,_,rfl,⟨_,rfl,rfl⟩,rfl⟩
 |true=>
  rw [lB (d:=smZ) q]at k;cases k with
  |stop c=>
   have c:=c.con
   repeat' (first
    |apply ab|apply ae|apply aa|apply ai|apply ak|refine aF rfl ?_|refine ah rfl (λe=>?_) (λe=>?_)|apply ax|apply am|apply thN|apply thR|apply thE|apply onR|refine ac ?_|refine av rfl rfl (ce Hy) rfl ?_|refine ap rfl rfl (fV Hy) rfl ?_|refine aw c ?_|apply onE)
   all_goals first
    |exact absurd (q.symm.trans Hy) (by decide)|exact⟨.inr rfl,_,rfl,⟨_,rfl,rfl⟩,rfl⟩
  |go c k=>
   have c:=c.con
   repeat' (first
    |apply ab|apply ae|apply aa|apply ai|apply ak|refine aD rfl ?_|refine ah rfl (λe=>?_) (λe=>?_)|apply ax|apply am|apply thN|apply thE|refine ac ?_|refine av rfl rfl (ce Hy) rfl ?_|refine ap rfl rfl (fV Hy) rfl ?_|refine aw c ?_|apply onE)
   all_goals first
    |exact absurd (q.symm.trans Hy) (by decide)|exact .norm ⟨_,_,cA KH,bX q,rfl,k⟩
theorem f77c{g:FuncId}{a:List V}{l:List Sm}(f:l.length<9223372036854775807){h h':H}{b:Bool}(np:1<h.next)(d:Nat.blt h.next bZ=true)(k:Rk (λy h b h'=>CX g a (.agg (smO y)) h (!b) h') l h b h'):
  CN 77 [.lst l.length 23 (smL l),.func (.func g) [] a] h (.bool (!b)) h':=by
 have gr:=k.gr (λy h b h' c=>⟨c.le,c.lt⟩) d;obtain⟨n,e,c⟩:=f110c f np d k;refine fP Tryz.func77 (by decide) q77.2 rfl rfl np gr.le ?_
 repeat' (first
  |apply ab|apply ae|apply aa|apply am|refine ac ?_|refine aw c ?_|apply thN)
 exact⟨.inr rfl,_,rfl,by rw [<-e];rfl,rfl⟩
end
section
theorem fU{M:Nat->Prop}{f:Fn}{a b:List V}(ha:∀v,v∈a->dG M v)(hb:∀v,v∈b->dG M v):dG M (.func f a b):=λE g g' u hg h=>by
 cases h with
 |func p q=>exact @VR.func E g' _ _ _ _ _ (nF hg ha p) (nF hg hb q)
theorem gE{M:Nat->Prop}{cs:List V}{o:Nat}(hc:∀v,v∈cs->dG M v):dG M (.eptr cs o):=λE g g' u hg h=>by
 cases h with
 |eptr e hx h=>exact @VR.eptr E g' _ _ _ _ _ _ e hx (nF hg hc h)
theorem fC{M:Nat->Prop}{id o:Nat}(h:¬M id):dG M (.ptr id o):=λE g g' u hg k=>by
 cases k with
 |ptr e=>exact @VR.ptr E g' _ _ _ _ _ (hg _ _ h e)
theorem CZ{M:Nat->Prop}{k:IntKind}{n:Int}:dG M (.int k n):=(bY.flat rfl).free
theorem nG{M:Nat->Prop}{v:V}(h:dG M v):∀c,c∈[v]->dG M c:=λc hc=>by rw [List.mem_singleton.1 hc];exact h
section
variable {loc tmp loc' tmp':AL} {h h1:H} {l:List cj} {R:AL->H->Prop} {d:Dst} {args:List Opd} {gd:Option (Opd×Bool)} {lo hi:Nat} {P:Program} {T:Ty} {K:Nat->Prop} {call:cN}
theorem aY{x:V}(c:cm ⟨loc,tmp⟩ gd=some true)(j:evs ⟨loc,tmp⟩ args=some [x])(f:cellsOf x=[x])(h1:cQ x=true)(g:dG (λid=>id=h.next) x)
  (b:d7 d (.eptr [x] 0) loc tmp=some (loc',tmp')) (k:WL P T K call l loc' tmp' h R):WL P T K call (⟨d,.a .box,args,gd,lo,hi⟩ ::l) loc tmp h R:=by
 refine bP (cs:=[x]) (mk:=λi=>.ptr i 0) c j ?_ (.inl ⟨rfl,rfl⟩) (by show 1<=bZ;unfold bZ;omega) (nG g) b k;show ob (oif (cU (cellsOf x)) (oif (Nat.blt (cD (cellsOf x)) bZ) (some (Blk.cells (cD (cellsOf x)) (cM (cellsOf x) 0 .e) none false)))) _=_;rw [f];show ob (oif (Bool.rec (motive:=λ_=>Bool) false (cU []) (cQ x)) _) _=_;rw [h1];rfl
end
theorem f92{g:FuncId}{a:List V}{y:Ex}{h h':H}{b:Bool}(np:1<h.next)(c:CE g a y h b h'):CX 92 [.eptr [.func (.func g) [] a] 0] (.agg (exO y)) h (!b) h':=by
 refine⟨?_,c.gr.le,c.gr.lt⟩;have c:=CX.con c;refine fP Tryz.func92 (by decide) q92.2 rfl rfl np ‹CE g a y h b h'›.gr.le ?_
 repeat' (first
  |apply ab|apply ae|apply aa|apply am|refine ac ?_|refine aG (show ROp.run (.load true 11) [.eptr (exO y) 0] _=some (.agg (exO y))from rfl) ?_|refine au ?_|refine aE ?_|refine aw c ?_|apply thN)
 exact⟨.inr rfl,_,rfl,rfl,rfl⟩
theorem Rk.up{α:Type}{C C':α->H->Bool->H->Prop}(hg:∀y h b h',C y h b h'->Gr h h')(hc:∀y h b h',1<h.next->C y h b h'->C' y h b h'):∀{l:List α} {h h':H} {r:Bool},1<h.next->Rk C l h r h'->Rk C' l h r h'
 |_,_,_,_,_,.nil=>.nil
 |_,_,_,_,np,.stop c=>.stop (hc _ _ _ _ np c)
 |_,_,_,_,np,.go c k=>.go (hc _ _ _ _ np c) (Rk.up hg hc (Nat.lt_of_lt_of_le np (hg _ _ _ _ c).le) k)
theorem f90{g:FuncId}{a:List V}{l:List Ex}(e:l.length<9223372036854775807){h h':H}{b:Bool}(np:1<h.next)(d:Nat.blt h.next bZ=true)(k:Rk (CE g a) l h b h'):
  CN 90 [.lst l.length 11 (exL l),.eptr [.func (.func g) [] a] 0] h (.bool b) h':=by
 have gr:=k.gr (λy h b h' c=>c.gr) d;have c:=f91c e np d (Rk.up (λ_ _ _ _ c=>c.gr) (λy h b h' np c=>f92 np c) np k);refine fP Tryz.func90 (by decide) q90.2 rfl rfl np gr.le ?_
 repeat' (first
  |apply ab|apply ae|apply aa|apply am|refine ac ?_|refine aw c ?_|apply thN)
 exact⟨.inr rfl,_,rfl,by rw [Bool.not_not];rfl,rfl⟩
def smK(s:Sm):List Ex:=if s.isMatch then [s.pat,s.val]else [s.val]
theorem Rk.body{C:Ex->H->Bool->H->Prop}:∀{l:List Sm} {h h':H} {r:Bool},Rk C (cI l) h r h'->Rk (λs=>Rk C (smK s)) l h r h'
 |[],_,_,_,k=>by cases k;exact .nil
 |s ::l,h,h',r,k=>by
  have k:Rk C (smK s++cI l) h r h':=k;rcases k.app with⟨h1,k1,k2⟩ | ⟨rfl,k1⟩
  ·exact .go k1 (Rk.body k2)
  ·exact .stop k1
theorem f94{g:FuncId}{a:List V}{s:Sm}{h h':H}{b:Bool}(np:1<h.next)(e:Nat.blt h.next bZ=true)(k:Rk (CE g a) (smK s) h b h'):CX 94 [.eptr [.func (.func g) [] a] 0] (.agg (smO s)) h (!b) h':=by
 have gr:=k.gr (λy h b h' c=>c.gr) e;refine⟨?_,gr.le,gr.lt⟩;refine fP Tryz.func94 (by decide) q94.2 rfl rfl np gr.le ?_;unfold smK at k;cases q:s.isMatch with
 |false=>
  rw [q,if_neg (by decide)]at k;obtain c:CE g a s.val h b h':=by
   cases k with
   |stop c=>exact c
   |go c k=>cases k;exact c
  have c:=CX.con c
  repeat' (first
   |(refine WLg.mk ?_;first
   |refine ac ?_|refine aG (show ROp.run (.load true 11) [.eptr (smO s) 12] _=some (.agg (exO s.val))from rfl) ?_|refine au ?_|refine aE ?_|refine aw c ?_)|apply ab|refine aj rfl ?_|refine aB rfl rfl ?_|refine aC rfl (λd=>?_) (λd=>?_)|apply ae|apply aa|apply am|apply thN|fail)
  all_goals first
   |exact absurd (q.symm.trans d) (by decide)|exact⟨.inr rfl,_,rfl,by cases b<;>rfl,rfl⟩
 |true=>
  rw [q,if_pos rfl]at k;cases k with
  |stop c=>
   have c:=CX.con c
   repeat' (first
    |(refine WLg.mk ?_;first
    |refine ac ?_|refine ap rfl rfl (show ROp.run (.load false 1) [.eptr (smO s) 0] _=some (.bool true) by rw [<-q];rfl) rfl ?_|refine aG (show ROp.run (.load true 11) [.eptr (smO s) 1] _=some (.agg (exO s.pat))from rfl) ?_|refine au ?_|refine aE ?_|refine aw c ?_)|apply ab|refine aj rfl ?_|refine aB rfl rfl ?_|apply ae|apply aa|apply am|apply thN|fail)
   all_goals first
    |exact absurd (q.symm.trans d) (by decide)|exact⟨.inr rfl,_,rfl,rfl,rfl⟩
  |go c k=>
   rename_i h1
   obtain c2:CE g a s.val h1 b h':=by
    cases k with
    |stop c=>exact c
    |go c k=>cases k;exact c
   have c:=CX.con c;have c2:=CX.con c2
   repeat' (first
    |apply ab|apply ae|apply aa|apply am|refine ac ?_|refine ap rfl rfl (show ROp.run (.load false 1) [.eptr (smO s) 0] _=some (.bool true) by rw [<-q];rfl) rfl ?_|refine aG (show ROp.run (.load true 11) [.eptr (smO s) 1] _=some (.agg (exO s.pat))from rfl) ?_|refine aG (show ROp.run (.load true 11) [.eptr (smO s) 12] _=some (.agg (exO s.val))from rfl) ?_|refine au ?_|refine aE ?_|refine aw c ?_|refine aw c2 ?_|apply thN)
   all_goals first
    |exact absurd (q.symm.trans d) (by decide)|exact⟨.inr rfl,_,rfl,by cases b<;>rfl,rfl⟩
theorem f93{g:FuncId}{a:List V}{l:List Sm}(f:l.length<9223372036854775807){h h':H}{b:Bool}(np:1<h.next)(d:Nat.blt h.next bZ=true)(k:Rk (CE g a) (cI l) h b h'):
  CN 93 [.lst l.length 23 (smL l),.eptr [.func (.func g) [] a] 0] h (.bool b) h':=by
 have gr:=k.gr (λy h b h' c=>c.gr) d;have up:∀{l:List Sm} {h h':H} {r:Bool},1<h.next->Nat.blt h.next bZ=true->Rk (λs=>Rk (CE g a) (smK s)) l h r h'->Rk (λs h b h'=>CX 94 [.eptr [.func (.func g) [] a] 0] (.agg (smO s)) h (!b) h') l h r h':=by
  intro l
  induction l with
  |nil=>intro h h' r _ _ k;cases k;exact .nil
  |cons s l ih=>
   intro h h' r np d k;cases k with
   |stop c=>exact .stop (f94 np d c)
   |go c k=>
    have e:=c.gr (λy h b h' c=>c.gr) d;exact .go (f94 np d c) (ih (Nat.lt_of_lt_of_le np e.le) e.lt k)
 have c:=f77c f np d (up np d k.body);refine fP Tryz.func93 (by decide) q93.2 rfl rfl np gr.le ?_
 repeat' (first
  |apply ab|apply ae|apply aa|apply am|refine ac ?_|refine aw c ?_|apply thN)
 exact⟨.inr rfl,_,rfl,by rw [Bool.not_not];rfl,rfl⟩
end
section
noncomputable section
def clZ:Cl:= .mk ⟨#[]⟩ [] [] []
def fr47(g:FuncId)(caps:List V)(l:List Cl)(i:Nat):AL:=[(1,.func (.func g) [] caps),(15,.lst l.length 4 (clL l)),(16,.int .i64 (Int.ofNat l.length)),(17,.int .i64 (Int.ofNat i))]
def fr47p(g:FuncId)(caps:List V)(l:List Cl)(i m:Nat):AL:=[(1,.func (.func g) [] caps),(15,.lst l.length 4 (clL l)),(16,.int .i64 (Int.ofNat l.length)),(17,.int .i64 (Int.ofNat i)),(6,.eptr (clO (bV l i)) 0),
 (22,.lst (bV l i).pats.length 11 (exL (bV l i).pats)),(23,.int .i64 (Int.ofNat (bV l i).pats.length)),(24,.int .i64 (Int.ofNat m))]
def fr47g(g:FuncId)(caps:List V)(l:List Cl)(i m:Nat):AL:=[(1,.func (.func g) [] caps),(15,.lst l.length 4 (clL l)),(16,.int .i64 (Int.ofNat l.length)),(17,.int .i64 (Int.ofNat i)),(6,.eptr (clO (bV l i)) 0),
 (34,.lst (bV l i).guards.length 1 (gdL (bV l i).guards)),(35,.int .i64 (Int.ofNat (bV l i).guards.length)),(36,.int .i64 (Int.ofNat m))]
def fr47i(g:FuncId)(caps:List V)(l:List Cl)(i m k:Nat):AL:=[(1,.func (.func g) [] caps),(15,.lst l.length 4 (clL l)),(16,.int .i64 (Int.ofNat l.length)),(17,.int .i64 (Int.ofNat i)),(6,.eptr (clO (bV l i)) 0),
 (34,.lst (bV l i).guards.length 1 (gdL (bV l i).guards)),(35,.int .i64 (Int.ofNat (bV l i).guards.length)),(36,.int .i64 (Int.ofNat m)),
 (40,.lst (dm (bV l i).guards m).length 11 (exL (dm (bV l i).guards m))),(41,.int .i64 (Int.ofNat (dm (bV l i).guards m).length)),(42,.int .i64 (Int.ofNat k))]
def fr47b(g:FuncId)(caps:List V)(l:List Cl)(i m:Nat):AL:=[(1,.func (.func g) [] caps),(15,.lst l.length 4 (clL l)),(16,.int .i64 (Int.ofNat l.length)),(17,.int .i64 (Int.ofNat i)),(6,.eptr (clO (bV l i)) 0),
 (53,.lst (bV l i).body.length 23 (smL (bV l i).body)),(54,.int .i64 (Int.ofNat (bV l i).body.length)),(55,.int .i64 (Int.ofNat m))]
end
set_option maxHeartbeats 8000000 in
theorem f47{g:FuncId}{a:List V}{l:List Cl}(N:bS (clL l)<=6000000){h h':H}{b:Bool}(np:1<h.next)(C:Nat.blt h.next bZ=true)(k:Rk (CE g a) (clK l) h b h'):
  CN 47 [.lst l.length 4 (clL l),.func (.func g) [] a] h (.bool b) h':=by
 have gr:=k.gr (λy h b h' c=>c.gr) C;have M:=fR l;refine fP Tryz.func47 (by decide) q47.2 rfl rfl np gr.le ?_
 repeat' (first
  |apply ab|apply ae|apply aa|apply ai|refine ac ?_|apply thN)
 refine az (cA (l:=fr47 g a l 0) KH) ?_;refine aA l.length (λi x h1=>x=fr47 g a l i/\Gr h h1/\Rk (CE g a) (clK (l.drop i)) h1 b h') ?_ (i:=0) (Nat.zero_le _) ⟨rfl,.refl C,k⟩;rintro i _ h1 hi ⟨rfl,t,k⟩;have hi2:i<9223372036854775807:=by omega
 have z:=t.lt;cases q:Nat.blt i l.length with
 |false=>
  rw [jK hi q]at k;cases k
  repeat' (first
   |apply ab|apply ae|apply aa|apply ai|apply ak|refine ah rfl (λe=>?_) (λe=>?_)|apply ax|apply am|apply thN|apply thE|refine ac ?_|refine av rfl rfl (ce Hy) rfl ?_|apply onE)
  all_goals first
   |exact absurd (q.symm.trans Hy) (by decide)|exact⟨.inr rfl,_,rfl,rfl,rfl⟩
 |true=>
  rw [lB (d:=clZ) q]at k;have k:Rk (CE g a) (((bV l i).pats++(gdK (bV l i).guards++cI (bV l i).body))++clK (l.drop (i+1))) h1 b h':=k;simp only [List.append_assoc]at k;have w:=bX q;have J:=oh q;have E:=gM (bV l i);have L:=iA (bV l i).pats 6000000 (by omega);have I:=j0 (bV l i).guards;have D:=iJ (bV l i).body
  repeat' (first
   |apply ab|apply ae|apply aa|apply ai|apply ak|refine ah rfl (λe=>?_) (λe=>?_)|apply ax|apply am|apply thN|apply thE|refine ac ?_|refine av rfl rfl (ce Hy) rfl ?_|refine au ?_|refine ap rfl rfl (eV Hy) rfl ?_|refine aN ?_|apply onE)
  any_goals (first|exact Nq q|exact Nr q|fail)
  refine az (cA (l:=fr47p g a l i 0) KH) ?_;refine aA (bV l i).pats.length (λm x h2=>x=fr47p g a l i m/\Gr h h2/\Rk (CE g a) ((bV l i).pats.drop m++(gdK (bV l i).guards++(cI (bV l i).body++clK (l.drop (i+1))))) h2 b h') ?_ (i:=0) (Nat.zero_le _) ⟨rfl,t,k⟩;clear k t z e;rintro m _ h2 v ⟨rfl,f,k⟩;have r:m<9223372036854775807:=by omega
  have p:=f.lt;cases o:Nat.blt m (bV l i).pats.length with
  |true=>
   rw [lB (d:=ex0) o]at k;cases k with
   |stop c=>
    have c:=CX.con c
    repeat' (first
     |apply ab|apply ae|apply aa|apply ai|apply ak|refine aF rfl ?_|refine ah rfl (λe=>?_) (λe=>?_)|apply ax|apply am|apply thN|apply thR|apply thE|apply onR|refine ac ?_|refine av rfl rfl (ce Hy) rfl ?_|refine au ?_|refine ap rfl rfl (dF Hy) rfl ?_|refine aN ?_|refine aw c ?_|apply onE)
    all_goals first
     |exact absurd (o.symm.trans Hy) (by decide)|exact⟨.inr rfl,_,rfl,rfl,rfl⟩
   |go c k=>
    have s:=f.trans c.gr;have c:=CX.con c
    repeat' (first
     |apply ab|apply ae|apply aa|apply ai|apply ak|refine aD rfl ?_|refine ah rfl (λe=>?_) (λe=>?_)|apply ax|apply thN|apply thE|refine ac ?_|refine av rfl rfl (ce Hy) rfl ?_|refine au ?_|refine ap rfl rfl (dF Hy) rfl ?_|refine aN ?_|refine aw c ?_|apply onE)
    all_goals first
     |exact absurd (o.symm.trans Hy) (by decide)|exact .norm ⟨_,_,cA KH,bX o,rfl,s,k⟩
  |false=>
   rw [jK v o,List.nil_append]at k
   repeat' (first
    |apply ab|apply ae|apply aa|apply ai|apply ak|refine ah rfl (λe=>?_) (λe=>?_)|apply ax|apply thN|apply thE|refine ac ?_|refine av rfl rfl (ce Hy) rfl ?_|refine au ?_|apply onE)
   any_goals (first|exact Nq o|exact Nr o|fail)
   refine az (cA (l:=fr47g g a l i 0) KH) ?_;refine aA (bV l i).guards.length (λm x h2=>x=fr47g g a l i m/\Gr h h2/\Rk (CE g a) (gdK ((bV l i).guards.drop m)++(cI (bV l i).body++clK (l.drop (i+1)))) h2 b h') ?_ (i:=0) (Nat.zero_le _) ⟨rfl,f,k⟩;clear k f p e v r o;rintro m _ h2 v ⟨rfl,f,k⟩;have r:m<9223372036854775807:=by omega
   have p:=f.lt;cases o:Nat.blt m (bV l i).guards.length with
   |true=>
    rw [lB (d:=[]) o]at k;have k:Rk (CE g a) ((dm (bV l i).guards m++gdK ((bV l i).guards.drop (m+1)))++(cI (bV l i).body++clK (l.drop (i+1)))) h2 b h':=k;simp only [List.append_assoc]at k;have B:=tq o;have F:=iA (dm (bV l i).guards m) 6000000 (by omega)
    repeat' (first
     |apply ab|apply ae|apply aa|apply ai|apply ak|refine ah rfl (λe=>?_) (λe=>?_)|apply ax|apply thN|apply thE|refine ac ?_|refine av rfl rfl (ce Hy) rfl ?_|refine ap rfl rfl (dY (j:=0) (nD Hy) rfl _) rfl ?_|refine au ?_|apply onE)
    any_goals (first|exact Nq o|exact Nr o|fail)
    refine az (cA (l:=fr47i g a l i m 0) KH) ?_;refine aA (dm (bV l i).guards m).length (λn x h2=>x=fr47i g a l i m n/\Gr h h2/\Rk (CE g a) ((dm (bV l i).guards m).drop n++(gdK ((bV l i).guards.drop (m+1))++(cI (bV l i).body++clK (l.drop (i+1))))) h2 b h') ?_ (i:=0) (Nat.zero_le _) ⟨rfl,f,k⟩;clear k f p e;rintro n _ h2 A ⟨rfl,f,k⟩;have G:n<9223372036854775807:=by omega
    have p:=f.lt;cases qn:Nat.blt n (dm (bV l i).guards m).length with
    |true=>
     rw [lB (d:=ex0) qn]at k;cases k with
     |stop c=>
      have c:=CX.con c
      repeat' (first
       |apply ab|apply ae|apply aa|apply ai|apply ak|refine aF rfl ?_|refine ah rfl (λe=>?_) (λe=>?_)|apply ax|apply am|apply thN|apply thR|apply thE|apply onR|refine ac ?_|refine av rfl rfl (ce Hy) rfl ?_|refine au ?_|refine ap rfl rfl (dF Hy) rfl ?_|refine aN ?_|refine aw c ?_|apply onE)
      all_goals first
       |exact absurd (qn.symm.trans Hy) (by decide)|exact⟨.inr rfl,_,rfl,rfl,rfl⟩
     |go c k=>
      have s:=f.trans c.gr;have c:=CX.con c
      repeat' (first
       |apply ab|apply ae|apply aa|apply ai|apply ak|refine aD rfl ?_|refine ah rfl (λe=>?_) (λe=>?_)|apply ax|apply thN|apply thE|refine ac ?_|refine av rfl rfl (ce Hy) rfl ?_|refine au ?_|refine ap rfl rfl (dF Hy) rfl ?_|refine aN ?_|refine aw c ?_|apply onE)
      all_goals first
       |exact absurd (qn.symm.trans Hy) (by decide)|exact .norm ⟨_,_,cA KH,bX qn,rfl,s,k⟩
    |false=>
     rw [jK A qn,List.nil_append]at k
     repeat' (first
      |apply ab|apply ae|apply aa|apply ai|apply ak|refine ah rfl (λe=>?_) (λe=>?_)|apply ax|apply thN|apply thE|refine ac ?_|refine av rfl rfl (ce Hy) rfl ?_|apply onE)
     any_goals (first|exact Nq qn|exact Nr qn|fail)
     exact .norm ⟨_,_,cA KH,bX o,rfl,f,k⟩
   |false=>
    rw [jK v o]at k;have k:Rk (CE g a) (cI (bV l i).body++clK (l.drop (i+1))) h2 b h':=k
    repeat' (first
     |apply ab|apply ae|apply aa|apply ai|apply ak|refine ah rfl (λe=>?_) (λe=>?_)|apply ax|apply thN|apply thE|refine ac ?_|refine av rfl rfl (ce Hy) rfl ?_|refine au ?_|apply onE)
    any_goals (first|exact Nq o|exact Nr o|fail)
    refine az (cA (l:=fr47b g a l i 0) KH) ?_;refine aA (bV l i).body.length (λm x h2=>x=fr47b g a l i m/\Gr h h2/\Rk (CE g a) (cI ((bV l i).body.drop m)++clK (l.drop (i+1))) h2 b h') ?_ (i:=0) (Nat.zero_le _) ⟨rfl,f,k⟩;clear k f p e v r o;rintro m _ h2 v ⟨rfl,f,k⟩;have r:m<9223372036854775807:=by omega
    have p:=f.lt;cases o:Nat.blt m (bV l i).body.length with
    |false=>
     rw [jK v o]at k;have k:Rk (CE g a) (clK (l.drop (i+1))) h2 b h':=k
     repeat' (first
      |apply ab|apply ae|apply aa|apply ai|apply ak|refine ah rfl (λe=>?_) (λe=>?_)|apply ax|apply thN|apply thE|refine ac ?_|refine av rfl rfl (ce Hy) rfl ?_|apply onE)
     any_goals (first|exact Nq o|exact Nr o|fail)
     exact .norm ⟨_,_,cA KH,w,rfl,f,k⟩
    |true=>
     rw [lB (d:=smZ) o]at k;have k:Rk (CE g a) ((smK (cK (bV l i).body m)++cI ((bV l i).body.drop (m+1)))++clK (l.drop (i+1))) h2 b h':=k;rw [List.append_assoc]at k;have K:∀x,POp.run .mv [.bool x]=some (.bool x):=λx=>rfl;cases u:(cK (bV l i).body m).isMatch with
     |false=>
      unfold smK at k;rw [u,if_neg (by decide)]at k;cases k with
      |stop c=>
       have c:=CX.con c
       repeat' (first
        |(refine WLg.mk ?_;first
        |refine ac ?_|refine av rfl rfl (ce Hy) rfl ?_|refine aG (show ROp.run (.load true 11) [.eptr (smO (cK (bV l i).body m)) 12] _=some (.agg (exO (cK (bV l i).body m).val))from rfl) ?_|refine au ?_|refine ap rfl rfl (fV Hy) rfl ?_|refine aN ?_|refine aw c ?_)|apply ab|refine aj rfl ?_|refine aB rfl rfl ?_|refine aC rfl (λe=>?_) (λe=>?_)|apply ae|apply aa|apply ai|apply ak|refine aF rfl ?_|refine ah rfl (λe=>?_) (λe=>?_)|apply ax|apply am|apply thN|apply thR|apply thE|apply onR|apply onE|fail)
       all_goals first
        |exact absurd (o.symm.trans Hy) (by decide)|exact absurd (u.symm.trans Hy) (by decide)|exact⟨.inr rfl,_,rfl,rfl,rfl⟩
      |go c k=>
       have s:=f.trans c.gr;have c:=CX.con c
       repeat' (first
        |(refine WLg.mk ?_;first
        |refine ac ?_|refine av rfl rfl (ce Hy) rfl ?_|refine aG (show ROp.run (.load true 11) [.eptr (smO (cK (bV l i).body m)) 12] _=some (.agg (exO (cK (bV l i).body m).val))from rfl) ?_|refine au ?_|refine ap rfl rfl (fV Hy) rfl ?_|refine aN ?_|refine aw c ?_)|apply ab|refine aj rfl ?_|refine aB rfl rfl ?_|refine aC rfl (λe=>?_) (λe=>?_)|apply ae|apply aa|apply ai|apply ak|refine aD rfl ?_|refine ah rfl (λe=>?_) (λe=>?_)|apply ax|apply thN|apply thE|apply onE|fail)
       all_goals first
        |exact absurd (o.symm.trans Hy) (by decide)|exact absurd (u.symm.trans Hy) (by decide)|exact .norm ⟨_,_,cA KH,bX o,rfl,s,k⟩
     |true=>
      unfold smK at k;rw [u,if_pos rfl]at k;cases k with
      |stop c=>
       have c:=CX.con c
       repeat' (first
        |(refine WLg.mk ?_;first
        |refine ac ?_|refine av rfl rfl (ce Hy) rfl ?_|refine aG (show ROp.run (.load true 11) [.eptr (smO (cK (bV l i).body m)) 1] _=some (.agg (exO (cK (bV l i).body m).pat))from rfl) ?_|refine au ?_|refine ap rfl rfl (fV Hy) rfl ?_|refine aN ?_|refine aw c ?_)|apply ab|refine aj rfl ?_|refine aB rfl rfl ?_|refine aC rfl (λe=>?_) (λe=>?_)|apply ae|apply aa|apply ai|apply ak|refine aF rfl ?_|refine ah rfl (λe=>?_) (λe=>?_)|apply ax|apply am|apply thN|apply thR|apply thE|apply onR|apply onE|fail)
       all_goals first
        |exact absurd (o.symm.trans Hy) (by decide)|exact absurd (u.symm.trans Hy) (by decide)|exact⟨.inr rfl,_,rfl,rfl,rfl⟩
      |go c k=>
       cases k with
       |stop c2=>
        have c:=CX.con c;have c2:=CX.con c2
        repeat' (first
         |(refine WLg.mk ?_;first
         |refine ac ?_|refine av rfl rfl (ce Hy) rfl ?_|refine aG (show ROp.run (.load true 11) [.eptr (smO (cK (bV l i).body m)) 1] _=some (.agg (exO (cK (bV l i).body m).pat))from rfl) ?_|refine aG (show ROp.run (.load true 11) [.eptr (smO (cK (bV l i).body m)) 12] _=some (.agg (exO (cK (bV l i).body m).val))from rfl) ?_|refine au ?_|refine ap rfl rfl (fV Hy) rfl ?_|refine aN ?_|refine aw c ?_|refine aw c2 ?_)|apply ab|refine aj rfl ?_|refine aB rfl rfl ?_|refine aC rfl (λe=>?_) (λe=>?_)|apply ae|apply aa|apply ai|apply ak|refine aF rfl ?_|refine ah rfl (λe=>?_) (λe=>?_)|apply ax|apply am|apply thN|apply thR|apply thE|apply onR|apply onE|fail)
        all_goals first
         |exact absurd (o.symm.trans Hy) (by decide)|exact absurd (u.symm.trans Hy) (by decide)|exact⟨.inr rfl,_,rfl,rfl,rfl⟩
       |go c2 k=>
        have s:=(f.trans c.gr).trans c2.gr;have c:=CX.con c;have c2:=CX.con c2
        repeat' (first
         |(refine WLg.mk ?_;first
         |refine ac ?_|refine av rfl rfl (ce Hy) rfl ?_|refine aG (show ROp.run (.load true 11) [.eptr (smO (cK (bV l i).body m)) 1] _=some (.agg (exO (cK (bV l i).body m).pat))from rfl) ?_|refine aG (show ROp.run (.load true 11) [.eptr (smO (cK (bV l i).body m)) 12] _=some (.agg (exO (cK (bV l i).body m).val))from rfl) ?_|refine au ?_|refine ap rfl rfl (fV Hy) rfl ?_|refine aN ?_|refine aw c ?_|refine aw c2 ?_)|apply ab|refine aj rfl ?_|refine aB rfl rfl ?_|refine aC rfl (λe=>?_) (λe=>?_)|apply ae|apply aa|apply ai|apply ak|refine aD rfl ?_|refine ah rfl (λe=>?_) (λe=>?_)|apply ax|apply thN|apply thE|apply onE|fail)
        all_goals first
         |exact absurd (o.symm.trans Hy) (by decide)|exact absurd (u.symm.trans Hy) (by decide)|exact .norm ⟨_,_,cA KH,bX o,rfl,s,k⟩
theorem f95{g:FuncId}{a:List V}{l:List Cl}(e:bS (clL l)<=6000000){h h':H}{b:Bool}(np:1<h.next)(d:Nat.blt h.next bZ=true)(k:Rk (CE g a) (clK l) h b h'):
  CN 95 [.lst l.length 4 (clL l),.eptr [.func (.func g) [] a] 0] h (.bool b) h':=by
 have gr:=k.gr (λy h b h' c=>c.gr) d;have c:=f47 e np d k;refine fP Tryz.func95 (by decide) q95.2 rfl rfl np gr.le ?_
 repeat' (first
  |apply ab|apply ae|apply aa|apply am|refine ac ?_|refine au ?_|refine aw c ?_|apply thN)
 exact⟨.inr rfl,_,rfl,rfl,rfl⟩
end
end Ev
end Go.Proofs.YtdfphfdnoobikaaGreatDoor
