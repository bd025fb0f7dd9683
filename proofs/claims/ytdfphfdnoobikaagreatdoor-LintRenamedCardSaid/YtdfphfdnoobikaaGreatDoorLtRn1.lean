/-
  A module whose variables are renamed.
-/
import Derived.Test.YtdfphfdnoobikaaGreatDoorLtEach4
namespace Go.Proofs.YtdfphfdnoobikaaGreatDoor
namespace Ev
section
def qn(s:ByteArray):ByteArray:=s.push 81
noncomputable section
mutual
def ren:Ex->Ex
 |.mk k n nm tx l g c h bd af wt=>.mk k n (if eqI k 3 then qn nm else nm) tx (eH l) (gX g) (dD c) (dD h) (fm bd) (fm af) wt
def dB:Sg->Sg
 |.mk t tx x y a b c=>.mk t tx (ren x) (ren y) a b c
def eU:Cl->Cl
 |.mk nm l g bd=>.mk nm (eH l) (iU g) (fm bd)
def iq:Sm->Sm
 |.mk m x y=>.mk m (ren x) (ren y)
def eH:List Ex->List Ex
 |[]=>[]
 |x ::l=>ren x ::eH l
def gX:List Sg->List Sg
 |[]=>[]
 |x ::l=>dB x ::gX l
def dD:List Cl->List Cl
 |[]=>[]
 |x ::l=>eU x ::dD l
def fm:List Sm->List Sm
 |[]=>[]
 |x ::l=>iq x ::fm l
def iU:List (List Ex)->List (List Ex)
 |[]=>[]
 |x ::l=>eH x ::iU l
end
def eL(f:Fu):Fu:=⟨f.name,f.arity,dD f.clauses⟩
def eT(m:Md):Md:={m with funcs:=m.funcs.map eL}
end
theorem iW:∀l,eH l=l.map ren
 |[]=>by rw [eH];rfl
 |x ::l=>by rw [eH,iW l];rfl
theorem lV:∀l,gX l=l.map dB
 |[]=>by rw [gX];rfl
 |x ::l=>by rw [gX,lV l];rfl
theorem jC:∀l,dD l=l.map eU
 |[]=>by rw [dD];rfl
 |x ::l=>by rw [dD,jC l];rfl
theorem lW:∀l,fm l=l.map iq
 |[]=>by rw [fm];rfl
 |x ::l=>by rw [fm,lW l];rfl
theorem lX:∀l,iU l=l.map eH
 |[]=>by rw [iU];rfl
 |x ::l=>by rw [iU,lX l];rfl
section
variable (x:Ex)
theorem di:(ren x).kind=x.kind:=by cases x;rw [ren];rfl
theorem pq:(ren x).int=x.int:=by cases x;rw [ren];rfl
theorem iD:(ren x).name=if eqI x.kind 3 then qn x.name else x.name:=by cases x;rw [ren];rfl
theorem lU:(ren x).text=x.text:=by cases x;rw [ren];rfl
theorem dO:(ren x).items=eH x.items:=by cases x;rw [ren];rfl
theorem fY:(ren x).segs=gX x.segs:=by cases x;rw [ren];rfl
theorem dP:(ren x).clauses=dD x.clauses:=by cases x;rw [ren];rfl
theorem eG:(ren x).catches=dD x.catches:=by cases x;rw [ren];rfl
theorem iE:(ren x).body=fm x.body:=by cases x;rw [ren];rfl
theorem gQ:(ren x).after=fm x.after:=by cases x;rw [ren];rfl
theorem lT:(ren x).wait=x.wait:=by cases x;rw [ren];rfl
end
section
variable (s:Sg)
theorem lh:(dB s).type=s.type:=by cases s;rw [dB];rfl
theorem vN:(dB s).text=s.text:=by cases s;rw [dB];rfl
theorem nr:(dB s).val=ren s.val:=by cases s;rw [dB];rfl
theorem mB:(dB s).size=ren s.size:=by cases s;rw [dB];rfl
theorem lS:(dB s).sized=s.sized:=by cases s;rw [dB];rfl
theorem uN:(dB s).signed=s.signed:=by cases s;rw [dB];rfl
theorem uO:(dB s).little=s.little:=by cases s;rw [dB];rfl
end
section
variable (c:Cl)
theorem pA:(eU c).name=c.name:=by cases c;rw [eU];rfl
theorem gT:(eU c).pats=eH c.pats:=by cases c;rw [eU];rfl
theorem j9:(eU c).guards=iU c.guards:=by cases c;rw [eU];rfl
theorem nS:(eU c).body=fm c.body:=by cases c;rw [eU];rfl
end
section
variable (s:Sm)
theorem nt:(iq s).isMatch=s.isMatch:=by cases s;rw [iq];rfl
theorem qt:(iq s).pat=ren s.pat:=by cases s;rw [iq];rfl
theorem sL:(iq s).val=ren s.val:=by cases s;rw [iq];rfl
end
theorem cZ(l:List Ex):(eH l).length=l.length:=by rw [iW,List.length_map]
theorem gH(l:List Sg):(gX l).length=l.length:=by rw [lV,List.length_map]
theorem d5(l:List Cl):(dD l).length=l.length:=by rw [jC,List.length_map]
theorem fK(l:List Sm):(fm l).length=l.length:=by rw [lW,List.length_map]
theorem pr(l:List (List Ex)):(iU l).length=l.length:=by rw [lX,List.length_map]
theorem kf:∀l,cI (fm l)=(cI l).map ren
 |[]=>by rw [fm];rfl
 |s ::l=>by
  rw [fm];show(if(iq s).isMatch then [(iq s).pat,(iq s).val]else [(iq s).val])++cI (fm l)=((if s.isMatch then [s.pat,s.val]else [s.val])++cI l).map ren;rw [kf l,nt,qt,sL,List.map_append]
  split<;>rfl
theorem BF:∀l,gdK (iU l)=(gdK l).map ren
 |[]=>by rw [iU];rfl
 |g ::l=>by
  rw [iU];show eH g++gdK (iU l)=(g++gdK l).map ren;rw [BF l,iW,List.map_append]
theorem jd:∀l,clK (dD l)=(clK l).map ren
 |[]=>by rw [dD];rfl
 |c ::l=>by
  rw [dD];show((eU c).pats++(gdK (eU c).guards++cI (eU c).body))++clK (dD l)=((c.pats++(gdK c.guards++cI c.body))++clK l).map ren;rw [jd l,gT,j9,nS,BF,kf,iW];simp only [List.map_append]
theorem sJ:∀l,fX (gX l)=(fX l).map ren
 |[]=>by rw [gX];rfl
 |s ::l=>by
  rw [gX];show((if(dB s).type=4 then []else [(dB s).val])++(if(dB s).sized then [(dB s).size]else []))++fX (gX l)=(((if s.type=4 then []else [s.val])++(if s.sized then [s.size]else []))++fX l).map ren;rw [sJ l,lh,nr,lS,mB];simp only [List.map_append]
  congr 2
  ·split<;>rfl
  ·split<;>rfl
theorem jH(x:Ex):df (ren x)=(df x).map ren:=by
 unfold df;rw [di,dP,eG,dO,gQ,iE,fY,jd,jd,kf,kf,sJ,iW]
 split<;>simp only [List.map_append]
end
section
theorem y6(x:Ex):zvB (.agg (exO (ren x)))=zvB (.agg (exO x)):=by
 rw [sr];show(eqI (ren x).kind 0&&(eqI (ren x).int 0&&(cJ (ren x).name.size (ck (ren x).name.data.toList) 0 0&&(cJ (ren x).text.size (ck (ren x).text.data.toList) 0 0&&(oQ (ren x).wait false&&(eqI (Int.ofNat (ren x).items.length) 0&&(eqI (Int.ofNat (ren x).segs.length) 0&&(eqI (Int.ofNat (ren x).clauses.length) 0&&(eqI (Int.ofNat (ren x).catches.length) 0&&(eqI (Int.ofNat (ren x).body.length) 0&&eqI (Int.ofNat (ren x).after.length) 0))))))))))=(eqI x.kind 0&&(eqI x.int 0&&(cJ x.name.size (ck x.name.data.toList) 0 0&&(cJ x.text.size (ck x.text.data.toList) 0 0&&(oQ x.wait false&&(eqI (Int.ofNat x.items.length) 0&&(eqI (Int.ofNat x.segs.length) 0&&(eqI (Int.ofNat x.clauses.length) 0&&(eqI (Int.ofNat x.catches.length) 0&&(eqI (Int.ofNat x.body.length) 0&&eqI (Int.ofNat x.after.length) 0))))))))))
 rw [di,pq,iD,lU,lT,dO,fY,dP,eG,iE,gQ,cZ,gH,d5,d5,fK,fK];cases q:eqI x.kind 0 with
 |false=>rfl
 |true=>
  rw [if_neg (by rw [iF q];decide)]
theorem qd{α:Type}{P:α->Bool}{f:α->α}(h:∀x,P (f x)=P x):∀l:List α,(l.map f).any P=l.any P
 |[]=>rfl
 |x ::l=>by rw [List.map_cons,List.any_cons,List.any_cons,h,qd h l]
theorem wS{α:Type}{P:α->Bool}{f:α->α}(h:∀x,P (f x)=P x):∀l:List α,(l.map f).all P=l.all P
 |[]=>rfl
 |x ::l=>by rw [List.map_cons,List.all_cons,List.all_cons,h,wS h l]
theorem FH(s:Sm):uy (iq s)=uy s:=by
 unfold uy;rw [nt,qt,y6]
theorem wQ(l:List Sm):bdB (fm l)=bdB l:=by
 unfold bdB;rw [lW,qd FH]
theorem GX(l:List (List Ex)):gdB (iU l)=gdB l:=by
 unfold gdB;rw [lX];refine qd (λg=>?_) l;unfold noG;rw [cZ]
theorem GC(s:Sg):okG (dB s)=okG s:=by
 unfold okG;rw [lS,mB,nr,lh,vN,uN,uO,y6,y6]
theorem Gg(l:List Sg):sgB (gX l)=sgB l:=by
 unfold sgB;rw [lV,wS GC]
theorem Gp:ren ex0=ex0:=by
 unfold ex0;rw [ren,eH,gX,dD,fm,if_neg (by decide)]
theorem gL(l:List Ex)(i:Nat):cE (eH l) i=ren (cE l i):=by
 unfold cE;rw [iW];rw [List.getElem?_map];cases l[i]? with
 |none=>exact Gp.symm
 |some x=>rfl
theorem Fs(x:Ex):Dl (ren x)=Dl x:=by
 unfold Dl;rw [di,iD];cases q:eqI x.kind 3 with
 |true=>rfl
 |false=>rw [if_neg (by decide)]
theorem GG(c:Cl):odC (eU c)=odC c:=by
 unfold odC;rw [gT,gL,Fs]
theorem GE(p:Int)(a:Bool)(c:Cl):okC p a (eU c)=okC p a c:=by
 unfold okC;rw [gT,j9,nS,pA,cZ,fK,GX,wQ]
theorem si(p:Int)(a:Bool)(l:List Cl):clB p a (dD l)=clB p a l:=by
 unfold clB;rw [jC,wS (GE p a)]
theorem wK(l:List Cl):clG (dD l)=clG l:=by
 unfold clG;rw [d5,jC,qd λc=>?_];unfold lgC;rw [gT,cZ]
theorem Ha(x:Ex):ctB (ren x)=ctB x:=by
 unfold ctB tL;rw [di,dP,eG,dO,iE,gQ,lT,d5,d5,cZ,fK,fK,si,si,si,wQ,wQ,jC x.catches,qd GG]
theorem G9(x:Ex):ctG (ren x)=ctG x:=by
 unfold ctG;rw [di,dP,eG,wK,wK]
theorem GJ(x:Ex):ndG (ren x)=ndG x:=by
 unfold ndG;rw [di,dO,fY,cZ,gH,G9]
theorem GK(x:Ex):ndF (ren x)=ndF x:=by
 rw [Eu,Eu,di]
theorem GM{x:Ex}(h:eqI x.kind 3=true->rb 79 [sV x.name]=true/\rb 79 [sV (qn x.name)]=true):ndB (ren x)=ndB x:=by
 unfold ndB;rw [di,dO,fY,iD,lU,pq,cZ,Gg,Ha];cases q:eqI x.kind 3 with
 |false=>simp only [Bool.false_eq_true,if_false]
 |true=>
  obtain⟨h1,h2⟩:=h q;rw [iF q,if_pos rfl,h1,h2];rfl
theorem zQ{c:Prop}[Decidable c]{a b e d:List V}(h1:c->zB a=zB e)(h2:¬c->zB b=zB d):zB (if c then a else b)=zB (if c then e else d):=by
 by_cases q:c
 ·rw [if_pos q,if_pos q]
  exact h1 q
 ·rw [if_neg q,if_neg q]
  exact h2 q
theorem Ie(x:Ex):zB (ndL (ren x))=zB (ndL x):=by
 cases q:eqI x.kind 3 with
 |true=>
  have e:=iF q;unfold ndL;rw [di,e];show zB ((exO (ren x)).set 2 (.str 0 0))=zB ((exO x).set 2 (.str 0 0));unfold zB;rw [sr];simp only [exO,sV,List.set_cons_zero,List.set_cons_succ,List.tail_cons,zq,lz,pq,lU,lT,dO,fY,dP,eG,iE,gQ,cZ,gH,d5,fK]
 |false=>
  have a:(ren x).name=x.name:=by rw [iD,q];rfl
  unfold ndL ctL;rw [di]
  repeat' (refine zQ (λ_=>?_) (λ_=>?_))
  all_goals (unfold zB;rw [sr];simp only [exO,sV,List.set_cons_zero,List.set_cons_succ,List.tail_cons,zq,lz,a,pq,lU,lT,dO,fY,dP,eG,iE,gQ,cZ,gH,d5,fK])
theorem Bz{α:Type}{l:List α}(h:eqI (Int.ofNat l.length) 0=true):l=[]:=List.eq_nil_of_length_eq_zero (by
 have:=iF h;have:Int.ofNat l.length=Int.ofNat 0:=this;exact Int.ofNat.inj this)
theorem EC{α:Type}{l:List α}(h:oQ false (ltI 0 (Int.ofNat l.length))=true):l=[]:=by
 cases q:ltI 0 (Int.ofNat l.length)with
 |true=>rw [q]at h;cases h
 |false=>
  have:=cC (show Nat.blt 0 l.length=false from q);exact List.eq_nil_of_length_eq_zero (by omega)
theorem nX{x:Ex}{n:Int}(h2:zB (ndL x)=true)(k:x.kind=n)(b:n=1\/n=2\/n=3\/n=4\/n=5\/n=6\/n=7\/n=8\/n=9\/n=10\/n=11\/n=12\/n=13\/n=14\/n=15\/n=16):∀y,y∈df x->y∈wkE x:=by
 have z:=Dq h2;intro y a;unfold df at a;unfold wkE;rcases b with rfl|rfl|rfl|rfl|rfl|rfl|rfl|rfl|rfl|rfl|rfl|rfl|rfl|rfl|rfl|rfl
 all_goals
  rw [k]at a ⊢
  replace a:y∈fX x.segs++(x.items++(cI x.body++(clK x.clauses++(clK x.catches++cI x.after)))):=a
  try rw [show x.items=[]from kB (z 4 _ (by decide) (by unfold ndL ctL;rw [k];rfl))]at a
  try rw [show x.segs=[]from kB (z 5 _ (by decide) (by unfold ndL ctL;rw [k];rfl))]at a
  try rw [show x.clauses=[]from kB (z 6 _ (by decide) (by unfold ndL ctL;rw [k];rfl))]at a
  try rw [show x.catches=[]from kB (z 7 _ (by decide) (by unfold ndL ctL;rw [k];rfl))]at a
  try rw [show x.body=[]from kB (z 8 _ (by decide) (by unfold ndL ctL;rw [k];rfl))]at a
  try rw [show x.after=[]from kB (z 9 _ (by decide) (by unfold ndL ctL;rw [k];rfl))]at a
  first|(simp [jc,fX,clK,cI]at a;done)|simpa [jc,fX,clK,cI]using a
theorem Kf{x:Ex}(h1:ndB x=true)(h2:zB (ndL x)=true)(k:x.kind=17):∀y,y∈df x->y∈wkE x:=by
 have z:=Dq h2;have f:x.segs=[]:=kB (z 5 _ (by decide) (by unfold ndL ctL;rw [k];rfl));have e:x.catches=[]:=kB (z 7 _ (by decide) (by unfold ndL ctL;rw [k];rfl));have g:x.body=[]:=kB (z 8 _ (by decide) (by unfold ndL ctL;rw [k];rfl));have w:x.wait=false->x.items=[]/\x.after=[]:=λd=>by
  unfold ndB ctB at h1;rw [k,d]at h1;have h1:(clB 1 false x.clauses&&bdB x.after&&eqI (Int.ofNat x.items.length) 0&&eqI (Int.ofNat x.after.length) 0&&ltI 0 (Int.ofNat x.clauses.length))=true:=h1;simp only [Bool.and_eq_true]at h1;exact⟨Bz h1.1.1.2,Bz h1.1.2⟩
 intro y c;unfold df at c;unfold wkE;rw [k]at c ⊢;have c:y∈clK x.clauses++(x.items++cI x.after):=c;show y∈(if x.wait then x.items++cI x.after else [])++clK x.clauses;cases d:x.wait with
 |true=>simp only [List.mem_append,if_true]at c ⊢;exact c.symm
 |false=>
  obtain⟨a,b⟩:=w d;rw [a,b]at c
  simpa [cI]using c
theorem Ke{x:Ex}(h1:ndB x=true)(h2:zB (ndL x)=true)(k:x.kind=18):∀y,y∈df x->y∈wkE x:=by
 have z:=Dq h2;have d:x.items=[]:=kB (z 4 _ (by decide) (by unfold ndL ctL;rw [k];rfl));have c:x.segs=[]:=kB (z 5 _ (by decide) (by unfold ndL ctL;rw [k];rfl));have w:x.wait=false->x.after=[]:=λb=>by
  unfold ndB ctB tL at h1;rw [k,b]at h1;have h1:(ltI 0 (Int.ofNat x.body.length)&&bdB x.body&&clB 1 false x.clauses&&clB 2 false x.catches&&bdB x.after&&oQ false (ltI 0 (Int.ofNat x.after.length))&&(false||ltI 0 (Int.ofNat x.catches.length)) && !x.catches.any odC)=true:=h1;simp only [Bool.and_eq_true]at h1;exact EC h1.1.1.2
 intro y a;unfold df at a;unfold wkE;rw [k]at a ⊢;have a:y∈fX x.segs++(x.items++(cI x.body++(clK x.clauses++(clK x.catches++cI x.after)))):=a;rw [d,c]at a;show y∈((if x.wait then cI x.after else [])++cI x.body)++(clK x.clauses++clK x.catches);cases b:x.wait with
 |true=>
  simp only [List.mem_append,if_true,fX,List.nil_append]at a ⊢;rcases a with h|h|h|h
  ·exact .inl (.inr h)
  ·exact .inr (.inl h)
  ·exact .inr (.inr h)
  ·exact .inl (.inl h)
 |false=>
  rw [w b]at a;simp only [List.mem_append,fX,cI,List.nil_append,List.append_nil]at a ⊢;rcases a with h|h|h
  ·exact .inl (.inr h)
  ·exact .inr (.inl h)
  ·exact .inr (.inr h)
theorem GU{x:Ex}(h1:ndB x=true)(h2:zB (ndL x)=true):∀y,y∈df x->y∈wkE x:=by
 by_cases k1:x.kind=1
 ·exact nX h2 k1 (by simp)
 by_cases k2:x.kind=2
 ·exact nX h2 k2 (by simp)
 by_cases k3:x.kind=3
 ·exact nX h2 k3 (by simp)
 by_cases k4:x.kind=4
 ·exact nX h2 k4 (by simp)
 by_cases k5:x.kind=5
 ·exact nX h2 k5 (by simp)
 by_cases k6:x.kind=6
 ·exact nX h2 k6 (by simp)
 by_cases k7:x.kind=7
 ·exact nX h2 k7 (by simp)
 by_cases k8:x.kind=8
 ·exact nX h2 k8 (by simp)
 by_cases k9:x.kind=9
 ·exact nX h2 k9 (by simp)
 by_cases k10:x.kind=10
 ·exact nX h2 k10 (by simp)
 by_cases k11:x.kind=11
 ·exact nX h2 k11 (by simp)
 by_cases k12:x.kind=12
 ·exact nX h2 k12 (by simp)
 by_cases k13:x.kind=13
 ·exact nX h2 k13 (by simp)
 by_cases k14:x.kind=14
 ·exact nX h2 k14 (by simp)
 by_cases k15:x.kind=15
 ·exact nX h2 k15 (by simp)
 by_cases k16:x.kind=16
 ·exact nX h2 k16 (by simp)
 by_cases k17:x.kind=17
 ·exact Kf h1 h2 k17
 by_cases k18:x.kind=18
 ·exact Ke h1 h2 k18
 exfalso;have f:∀{j:Int},x.kind≠j->eqI x.kind j=false:=λh=>by rw [tP];exact decide_eq_false h
 unfold ndB ctB at h1;rw [f k1,f k2,f k3,f k4,f k5,f k6,f k7,f k8,f k9,f k10,f k11,f k12,f k13,f k14,f k15,f k16,f k17,f k18]at h1;cases h1
theorem FV(x:Ex):wkE (ren x)=(wkE x).map ren:=by
 unfold wkE;rw [di,dP,eG,dO,gQ,iE,fY,lT,jd,jd,kf,kf,sJ,iW]
 repeat' (first|rfl|split)
 all_goals first|rfl|simp only [List.map_append,List.map_nil]
theorem HD{b:ByteArray}(h:vnB b=true):rb 79 [sV b]=true:=Gu (f79v h (by
 have:=sZ b.data.toList;rw [Array.length_toList]at this;rw [Nat.pow_mul];exact this))
theorem dV.name{x:Ex}(h:dV x)(k:eqI x.kind 3=true):vnB x.name=true:=by
 cases h with
 |mk v _=>exact v k
theorem dV.kid{x y:Ex}(h:dV x)(k:y∈wkE x):dV y:=by
 cases h with
 |mk _ v=>exact v y k
theorem wZ:∀(n:Nat) (x:Ex),bS (exO x)<=n->dV x->dV (ren x)->dn (ren x)=dn x
 |0,x,h,_,_=>by have:=iM x;omega
 |n+1,x,h,v,w=>by
  have hb:ndB (ren x)=ndB x:=GM λk=>⟨HD (v.name k),by
   have:=w.name (by rw [di];exact k);rw [iD,if_pos k]at this;exact HD this⟩
  rw [lM,lM,hb,Ie,jH];cases q1:ndB x with
  |false=>rfl
  |true=>
   cases q2:zB (ndL x)with
   |false=>rfl
   |true=>
    have kw:=GU q1 q2;have e:∀l:List Ex,(∀y,y∈l->dn (ren y)=dn y)->(l.map ren).all dn=l.all dn:=λl=>by
     induction l with
     |nil=>intro _;rfl
     |cons y l ih=>intro hy;rw [List.map_cons,List.all_cons,List.all_cons,hy y List.mem_cons_self,ih λz hz=>hy z (List.mem_cons_of_mem _ hz)]
    rw [e _ λy hy=>wZ n y (by have:=fg hy;omega) (v.kid (kw y hy)) (w.kid (by rw [FV];exact List.mem_map_of_mem (kw y hy)))]
theorem za:∀(n:Nat) (x:Ex),bS (exO x)<=n->wN (ren x)=wN x
 |0,x,h=>by have:=iM x;omega
 |n+1,x,h=>by
  rw [AP,AP,jH,List.map_map];rw [kA (f:=wN ∘ ren) (g:=wN) λy hy=>za n y (by have:=fg hy;omega)]
theorem zc:∀(n:Nat) (x:Ex),bS (exO x)<=n->wF (ren x)=wF x
 |0,x,h=>by have:=iM x;omega
 |n+1,x,h=>by
  rw [AQ,AQ,jH,List.map_map,GK];rw [kA (f:=wF ∘ ren) (g:=wF) λy hy=>zc n y (by have:=fg hy;omega)]
theorem zb:∀(n:Nat) (x:Ex),bS (exO x)<=n->∀d,wL d (ren x)=wL d x
 |0,x,h=>by have:=iM x;omega
 |n+1,x,h=>λd=>by
  rw [Dv,Dv,jH,GJ,List.any_map];rw [oR (f:=wL (d+1) ∘ ren) (g:=wL (d+1)) λy hy=>zb n y (by have:=fg hy;omega) (d+1)]
theorem kT(l:List Cl)(i:Nat):bV (dD l) i=eU (bV l i):=by
 unfold bV;rw [jC,List.getElem?_map];cases l[i]? with
 |none=>
  show(_:Cl)=eU (.mk _ _ _ _);rw [eU,eH,iU,fm];rfl
 |some x=>rfl
theorem yX{P:Ex->Bool}:∀l:List Ex,(∀y,y∈l->P (ren y)=P y)->(l.map ren).all P=l.all P
 |[],_=>rfl
 |y ::l,h=>by rw [List.map_cons,List.all_cons,List.all_cons,h y List.mem_cons_self,yX l λz hz=>h z (List.mem_cons_of_mem _ hz)]
theorem GD{f:Fu}(v:∀y,y∈clK f.clauses->dV y)(w:∀y,y∈clK (eL f).clauses->dV y):okF (eL f)=okF f:=by
 have w:∀y,y∈clK (dD f.clauses)->dV y:=w;rw [jd]at w;show(!eqI (Int.ofNat (dD f.clauses).length) 0&&(cJ f.name.size (ck f.name.data.toList) (bV (dD f.clauses) 0).name.size (ck (bV (dD f.clauses) 0).name.data.toList)&&(eqI f.arity (Int.ofNat (bV (dD f.clauses) 0).pats.length)&&(clB (-1) true (dD f.clauses)&&(clK (dD f.clauses)).all dn))))=(!eqI (Int.ofNat f.clauses.length) 0&&(cJ f.name.size (ck f.name.data.toList) (bV f.clauses 0).name.size (ck (bV f.clauses 0).name.data.toList)&&(eqI f.arity (Int.ofNat (bV f.clauses 0).pats.length)&&(clB (-1) true f.clauses&&(clK f.clauses).all dn))))
 rw [d5,kT,pA,gT,cZ,si,jd,yX _ λy a=>wZ _ y (Nat.le_refl _) (v y a) (w _ (List.mem_map_of_mem a))]
theorem E4(f:Fu):fN (eL f)=fN f:=by
 show((clK (dD f.clauses)).map wN).sum=((clK f.clauses).map wN).sum;rw [jd,List.map_map,kA (f:=wN ∘ ren) (g:=wN) λy _=>za _ y (Nat.le_refl _)]
theorem Jd(f:Fu):fF (eL f)=fF f:=by
 show((clK (dD f.clauses)).map wF).sum=((clK f.clauses).map wF).sum;rw [jd,List.map_map,kA (f:=wF ∘ ren) (g:=wF) λy _=>zc _ y (Nat.le_refl _)]
theorem Jc(f:Fu):fL (eL f)=fL f:=by
 have e:=E4 f;unfold fL;rw [e];show(clG (dD f.clauses)||((clK (dD f.clauses)).any (wL 1)||ltI 4000 (Int.ofNat (fN f))))=_;rw [wK,jd,List.any_map,oR (f:=wL 1 ∘ ren) (g:=wL 1) λy _=>zb _ y (Nat.le_refl _) 1]
theorem uc{P:Fu->Bool}:∀l:List Fu,(∀f,f∈l->P (eL f)=P f)->(l.map eL).all P=l.all P
 |[],_=>rfl
 |y ::l,h=>by rw [List.map_cons,List.all_cons,List.all_cons,h y List.mem_cons_self,uc l λz hz=>h z (List.mem_cons_of_mem _ hz)]
theorem GA{m:Md}(a:AM m 0)(b:AM (eT m) 0):okM (eT m)=okM m:=by
 have e:=(a rfl).2.2.2.1;have h:=(b rfl).2.2.2.1;have j:(m.funcs.map eL).all okF=m.funcs.all okF:=uc _ λf c=>GD (e f c).2 (h (eL f) (List.mem_map_of_mem (f:=eL) c)).2;have g:(m.funcs.map eL).any fL=m.funcs.any fL:=by
  rw [List.any_map];exact congrArg (λp=>m.funcs.any p) (funext Jc)
 have d:((m.funcs.map eL).map fN).sum=(m.funcs.map fN).sum:=by rw [List.map_map];exact congrArg (λp=>(m.funcs.map p).sum) (funext E4)
 have i:((m.funcs.map eL).map fF).sum=(m.funcs.map fF).sum:=by rw [List.map_map];exact congrArg (λp=>(m.funcs.map p).sum) (funext Jd)
 unfold okM HU;show((wdB m.name&&(!ltI m.vsn 1 && !ltI 2147483647 m.vsn))&&(m.exports.all okS&&((m.funcs.map eL).all okF&&(!((ltI 200 (Int.ofNat (m.funcs.map eL).length)||ltI 200 (Int.ofNat m.exports.length))||(m.funcs.map eL).any fL)&&(!ltI 20000 (Int.ofNat (((m.funcs.map eL).map fN).sum)) && !ltI 1000 (Int.ofNat (((m.funcs.map eL).map fF).sum)))))))=_;rw [j,g,d,i,List.length_map]
end
section
def At(cs:List V)(tr:Tr V):Prop:=∀j v,cs[j]? =some v->tr.get j=some v
inductive GL(es:Nat)(h:H):V->List V->Prop
 |none0:GL es h .nils []
 |full {b n:Nat} {tr:Tr V} {up:Option (Nat×Nat)} {ch:Bool} {cs:List V} (hb:h.blk b=some (.cells (n*es) tr up ch)) (hc:ch=false) (hn:0<n) (hl:cs.length=n*es) (at_:At cs tr) (lt:b<h.next):GL es h (.sl b 0 n 0 false es) cs
theorem gO{h:H}{id j:Nat}{x:Option Blk}{n:Nat}(hid:id<bZ):(⟨h.t.put id x,n⟩:H).blk j=if j=id then x else h.blk j:=Tr.get_put h.t id j x hid
theorem dI{h:H}{id j n m:Nat}{tr:Tr V}{up:Option (Nat×Nat)}{ch:Bool}{v:V}(a:h.blk id=some (.cells n tr up ch))(b:tr.get j=some v)(c:j<n):ROp.run (.load false m) [.ptr id j] h=some v:=by
 show ob (H.rd h id j 1) _=_;have:H.rd h id j 1=some [v]:=by
  show ob (ob (h.blk id) _) _=_;rw [a];show oif (Nat.blt j n) (ob (tr.get j) _)=_;rw [b,ltb c];rfl
 rw [this];rfl
theorem iH{h:H}{id j n:Nat}{tr:Tr V}{v:V}(a:h.blk id=some (.cells n tr none false))(b:cellsOf v=[v])(ho:cQ v=true)(c:j<n):EOp.run (.store 1) [.ptr id j,v] h=some (cT,⟨h.t.put id (some (.cells n (tr.put j (some v)) none false)),h.next⟩):=by
 show oif (Nat.beq (cD (cellsOf v)) 1) (ob (H.wr id (cellsOf v) j h) λh=>some (cT,h))=_;rw [b];show oif true (ob (ob (h.wr1 id j v) λh=>some h) λh=>some (cT,h))=_;have d:h.wr1 id j v=some ⟨h.t.put id (some (.cells n (tr.put j (some v)) none false)),h.next⟩:=by
  show ob (h.blk id) _=_;rw [a];show oif (!false) (oif (Nat.blt j n) (oif (cQ v) (ob (oN 64 none j h) _)))=_;rw [ltb c,ho];rfl
 rw [d];rfl
theorem GL.appendX{es bytes m:Nat}{h:H}{v x:V}{cs xs:List V}(g:GL es h v cs)(a:jB es none x h=some (m,xs))(B:0<m)(l:xs.length=m*es)(ho:cU xs=true)(D:h.next+1<bZ)(p:cs.length+xs.length<1000000000)(f:∀n,cs.length=n*es->(n+m)*bytes<1099511627776)(k:0<es):
  ∃n h',EOp.run (.append es bytes none) [v,x] h=some (.sl h.next 0 n 0 false es,h')/\GL es h' (.sl h.next 0 n 0 false es) (cs++xs)/\h'.next=h.next+1/\(∀id,id<h.next->(∀b n,v= .sl b 0 n 0 false es->id≠b)->h'.blk id=h.blk id):=by
 have z:1000000000<bZ:=by unfold bZ;omega
 cases g with
 |none0=>
  have w:Nat.beq m 0=false:=by
   cases q:Nat.beq m 0 with
   |false=>rfl
   |true=>have:=Nat.eq_of_beq_eq_true q;omega
  have d:Nat.blt (Nat.mul m bytes) 1099511627776=true:=ltb (by have:=f 0 (by simp);rw [Nat.zero_add]at this;exact this);refine⟨m,⟨h.t.put h.next (some (.cells xs.length (cM xs 0 .e) none false)),h.next+1⟩,?_,?_,rfl,λid s _=>?_⟩
  ·show ob (jB es none x h) _=_
   rw [a];show(Bool.rec (motive:=λ_=>Option (V×H)) (oif (Nat.blt (Nat.mul m bytes) 1099511627776) (ob (h.newCells xs none) λh'=>some (V.sl h.next 0 m 0 false es,h'))) (some (V.nils,h)) (Nat.beq m 0))=_;rw [w,d];have:h.newCells xs none=some ⟨h.t.put h.next (some (.cells xs.length (cM xs 0 .e) none false)),h.next+1⟩:=by
    show oif (cU xs) (oif (Nat.blt (cD xs) bZ) (oif (Nat.blt h.next bZ) _))=_;rw [ho,@cq noE,ltb (by omega),ltb (by omega)];rfl
   rw [this];rfl
  ·rw [List.nil_append]
   refine .full (tr:=cM xs 0 .e) (up:=none) (ch:=false) (by rw [gO (by omega),if_pos rfl,l]) rfl B l (λj v e=>?_) (by show h.next<h.next+1;omega);have y:=(List.getElem?_eq_some_iff.1 e).1;rw [@dz noE xs 0 .e j (by omega),if_pos (by omega),Nat.sub_zero];exact e
  ·rw [gO (by omega),if_neg (by omega)]
 |@full b n tr up ch cs hb hc hn hl at_ lt=>
  subst hc;rw [hl]at p;have d:Nat.blt (Nat.mul (Nat.add n m) bytes) 1099511627776=true:=ltb (f n hl);have u:Nat.ble (Nat.add n m) (Nat.div (Nat.sub (n*es) 0) es)=false:=by
   rw [show Nat.sub (n*es) 0=n*es from Nat.sub_zero _,show Nat.div (n*es) es=n from Nat.mul_div_cancel _ k];cases q:Nat.ble (Nat.add n m) n with
   |false=>rfl
   |true=>have:=Nat.le_of_ble_eq_true q;have:n+m<=n:=this;omega
  have C:(Nat.beq (n*es) (Nat.mul n es)&&Nat.beq 0 0)=true:=by
   rw [show Nat.mul n es=n*es from rfl,Nat.beq_refl];rfl
  have c:(n+m)*es=n*es+xs.length:=by rw [Nat.add_mul,l]
  have A:b≠h.next:=by omega
  refine⟨n+m,⟨(h.t.put b (some (.cells (n*es) tr up true))).put h.next (some (.cells (n*es+xs.length) (cM xs (n*es) tr) (some (b,0)) false)),h.next+1⟩,?_,?_,rfl,λid s o=>?_⟩
  ·show ob (jB es none x h) _=_
   rw [a];show oif (Nat.beq es es) (ob (H.cells h b) _)=_;have r:H.cells h b=some (n*es,tr):=by
    show ob (h.blk b) _=_;rw [hb];rfl
   rw [Nat.beq_refl,r];show(Bool.rec (motive:=λ_=>Option (V×H))
      (oif (Nat.beq (n*es) (Nat.mul n es)&&Nat.beq 0 0) (oif (Nat.blt (Nat.mul (Nat.add n m) bytes) 1099511627776)
       (ob (h.adopt b) λh=>ob (h.shareNew b 0 (n*es) tr xs) λh'=>some (V.sl h.next 0 (Nat.add n m) 0 false es,h'))))
      _ (Nat.ble (Nat.add n m) (Nat.div (Nat.sub (n*es) 0) es)):Option (V×H))=_
   rw [u,C,d];have i:h.adopt b=some ⟨h.t.put b (some (.cells (n*es) tr up true)),h.next⟩:=by
    show ob (h.blk b) _=_;rw [hb];rfl
   rw [i];show ob (oif (cU xs) (oif (Nat.blt (Nat.add (n*es) (cD xs)) bZ) (oif (Nat.blt h.next bZ) _))) _=_;rw [ho,@cq noE,show Nat.blt (Nat.add (n*es) xs.length) bZ=true from ltb (show n*es+xs.length<bZ by omega),show Nat.blt h.next bZ=true from ltb (by omega)];rfl
  ·refine .full (tr:=cM xs (n*es) tr) (up:=some (b,0)) (ch:=false) (by show Tr.get _ _=_;rw [Tr.get_put _ _ _ _ (by omega),if_pos rfl,c]) rfl (by omega) (by rw [List.length_append,hl,c]) (λj v e=>?_) (by show h.next<h.next+1;omega)
   have y:=(List.getElem?_eq_some_iff.1 e).1;rw [List.length_append,hl]at y;rw [@dz noE xs _ _ j (by omega)]
   by_cases q:j<cs.length
   ·rw [if_neg (by omega)]
    rw [List.getElem?_append_left q]at e;exact at_ j v e
   ·rw [if_pos (by omega)]
    rw [List.getElem?_append_right (by omega),hl]at e;exact e
  ·show Tr.get _ _=_
   rw [Tr.get_put _ _ _ _ (by omega),if_neg (by omega),Tr.get_put _ _ _ _ (by omega),if_neg (o b n rfl)];rfl
theorem GL.appendG{es bytes m:Nat}{h:H}{v x:V}{cs xs:List V}(g:GL es h v cs)(a:jB es none x h=some (m,xs))(j:0<m)(i:xs.length=m*es)(ho:cU xs=true)(f:h.next+1<bZ)(e:cs.length+xs.length<1000000000)(c:∀n,cs.length=n*es->(n+m)*bytes<1099511627776)(d:0<es):
  ∃v' h',EOp.run (.append es bytes none) [v,x] h=some (v',h')/\GL es h' v' (cs++xs)/\h'.next=h.next+1/\(∀id,id<h.next->(∀b n,v= .sl b 0 n 0 false es->id≠b)->h'.blk id=h.blk id):=by
 obtain⟨n,h',k⟩:=g.appendX a j i ho f e c d;exact⟨_,h',k⟩
theorem GL.append{es bytes m:Nat}{h:H}{v:V}{cs xs:List V}(g:GL es h v cs)(hm:0<m)(hx:xs.length=m*es)(ho:cU xs=true)(hk:h.next+1<bZ)(hcs:cs.length+xs.length<1000000000)(hby:∀n,cs.length=n*es->(n+m)*bytes<1099511627776)(hes:0<es):
  ∃v' h',EOp.run (.append es bytes none) [v,.lst m es xs] h=some (v',h')/\GL es h' v' (cs++xs)/\h'.next=h.next+1/\(∀id,id<h.next->(∀b n,v= .sl b 0 n 0 false es->id≠b)->h'.blk id=h.blk id):=
 g.appendG (by
  show oif (Nat.beq es es) _=_;rw [Nat.beq_refl];rfl) hm hx ho hk hcs hby hes
end
section
theorem Fm{M:Nat->Prop} {f:FuncId} {fn:Func} {cf:CF} {h h':H} {R:V->Prop} (hfn:Tryz.prog.funcs[f]? =some fn) (hnm:fn.name≠ "runtime.NumGoroutine") (hcf:ci TP fn=some cf) {vs:List V} (hlen:vs.length=cf.params) {loc:AL} (hn:mY vs 0=some loc) (np:∃id,id < h.next/\¬M id/\id≠0) (hle:h.next<=h'.next)
  (k:WC Tryz.prog TP (λid=>id<h.next/\¬M id) ft 1 cf.code loc h (qf cf λv h1=>R v/\h1=h')):∃v,R v/\Con Tryz.prog TP M f vs h v h':=by
 obtain⟨v,h1,c,r,rfl⟩:=wD (R:=λv h1=>R v/\h1=h') hfn hnm hcf hlen hn np (k.mono λx l h1 q=>⟨q.1,by
  obtain⟨l,k1,k2,k3⟩:=q.2;exact⟨l,k1,by rw [k3];exact hle,k2,k3⟩⟩)
 exact⟨v,r,c⟩
theorem dh{M:Nat->Prop} {f:FuncId} {fn:Func} {cf:CF} {h:H} {v:V} {Q:H->Prop} (hfn:Tryz.prog.funcs[f]? =some fn) (hnm:fn.name≠ "runtime.NumGoroutine") (hcf:ci TP fn=some cf) {vs:List V} (hlen:vs.length=cf.params) {loc:AL} (hn:mY vs 0=some loc) (np:∃id,id < h.next/\¬M id/\id≠0)
  (k:WC Tryz.prog TP (λid=>id<h.next/\¬M id) ft 1 cf.code loc h (qf cf λv1 h1=>h.next<=h1.next/\v1=v/\Q h1)):∃h',Con Tryz.prog TP M f vs h v h'/\Q h':=by
 obtain⟨v1,h1,c,rfl,q⟩:=wD (R:=λv1 h1=>v1=v/\Q h1) hfn hnm hcf hlen hn np k;exact⟨h1,c,q⟩
def HY(v:V):Prop:=∃n c,v= .str n c
def xn(cs:List V):Prop:=∀c,c∈cs->HY c
noncomputable def B6:Nat:=Classical.choose (⟨6000001,rfl⟩:∃n:Nat,n=6000001)
theorem Id:B6=6000001:=Classical.choose_spec (⟨6000001,rfl⟩:∃n:Nat,n=6000001)
theorem kY:B6<=6000001:=Nat.le_of_eq Id
theorem mr{n:Nat}(h:n<=6000000):n<B6:=by rw [Id];omega
def cB{σ:Type}(f:Nat->σ->σ)(s:σ):Nat->σ
 |0=>s
 |i+1=>f i (cB f s i)
abbrev Dp:=Nat->Nat->Bool
noncomputable section
def eqV(n c:Nat):V->Bool
 |.str m d=>cJ n c m d
 |_=>false
def gZ(cs:List V)(n c:Nat):Bool:=cs.any (eqV n c)
def eqB:V->Bool
 |.bool b=>b
 |_=>false
def lkE:List (V×V)->Nat->Nat->Bool
 |[],_,_=>false
 |p ::es,n,c=>if eqV n c p.1 then eqB p.2 else lkE es n c
def qu(o d:Dp)(n c:Nat)(cs:List V):List V:=if d n c then cs else if o n c then(if gZ cs n c then cs else cs++[.str n c])else cs
def fr137m(v:V)(n c len i:Nat):AL:=[(0,v),(1,.str n c),(7,.int .i64 (Int.ofNat len)),(8,.int .i64 (Int.ofNat i))]
end
theorem EO{cs:List V}{i n c n2 c2:Nat}(a:cs[i]? =some (.str n2 c2))(k:gZ (cs.take i) n c=false)(e:cJ n c n2 c2=false):gZ (cs.take (i+1)) n c=false:=by
 rw [List.take_add_one,a];show(cs.take i++[V.str n2 c2]).any (eqV n c)=false;rw [List.any_append,show(cs.take i).any (eqV n c)=false from k];show(cJ n c n2 c2||false)=false;rw [e];rfl
theorem GV{cs:List V}{i n c n2 c2:Nat}(hx:cs[i]? =some (.str n2 c2))(e:cJ n c n2 c2=true):gZ cs n c=true:=List.any_eq_true.2 ⟨_,List.mem_of_getElem? hx,e⟩
theorem f137m{h:H}{v:V}{cs:List V}(g:GL 1 h v cs)(hs:xn cs)(np:1<h.next)(s:cs.length<1000000000)(n c:Nat):∃r,(∃k,r= .int .i64 k/\ltI k 0= !gZ cs n c)/\CN 137 [v,.str n c] h r h:=by
 refine Fm (h':=h) (R:=λr=>∃k,r= .int .i64 k/\ltI k 0= !gZ cs n c) Tryz.func137 (by decide) JV.2 rfl rfl ⟨1,np,λq=>q,by decide⟩ (Nat.le_refl _) ?_;cases g with
 |none0=>
  repeat' (first
   |apply ab|apply ae|apply aa|apply ai|refine ac ?_|apply thN)
  refine az (cA (l:=fr137m .nils n c 0 0) KH) ?_;refine aA 0 (λi x h1=>x=fr137m .nils n c 0 i/\h1=h) ?_ (i:=0) (Nat.zero_le _) ⟨rfl,rfl⟩;rintro i _ _ hi ⟨rfl,rfl⟩;obtain rfl:i=0:=by omega
  repeat' (first
   |apply ab|apply ae|apply aa|refine aD rfl ?_|apply ax|apply am|apply thN|apply thE|refine ac ?_|apply onE)
  exact⟨.inr rfl,_,rfl,⟨_,rfl,rfl⟩,rfl⟩
 |@full b m tr up ch cs hb hc hn hl2 at_ lt=>
  rw [Nat.mul_one]at hl2
  repeat' (first
   |apply ab|apply ae|apply aa|apply ai|refine ac ?_|apply thN)
  refine az (cA (l:=fr137m (.sl b 0 m 0 false 1) n c m 0) KH) ?_;refine aA m (λi x h1=>x=fr137m (.sl b 0 m 0 false 1) n c m i/\h1=h/\gZ (cs.take i) n c=false) ?_ (i:=0) (Nat.zero_le _) ⟨rfl,rfl,rfl⟩;rintro i _ h1 hi ⟨rfl,e,j⟩;rw [e];clear e h1;have hi2:i<9223372036854775807:=by omega
  cases q:Nat.blt i m with
  |false=>
   have o:i=cs.length:=by have:=cC q;omega
   rw [o,List.take_length]at j
   repeat' (first
    |apply ab|apply ae|apply aa|apply ai|apply ak|refine ah rfl (λd=>?_) (λd=>?_)|apply ax|apply am|apply thN|apply thE|refine ac ?_|apply onE)
   any_goals (first|exact Nq q|skip)
   exact⟨.inr rfl,_,rfl,⟨_,rfl,by rw [j];rfl⟩,rfl⟩
  |true=>
   have f:=bX q;obtain⟨x,a⟩:∃x,cs[i]? =some x:=⟨_,List.getElem?_eq_getElem (by omega)⟩
   obtain⟨n2,c2,rfl⟩:=hs x (List.mem_of_getElem? a);have p:POp.run (.ixsl 1) [.sl b 0 m 0 false 1,.int .i64 (Int.ofNat i)]=some (.ptr b i):=by
    show oif (Nat.beq 1 1) (ob (oif (Nat.blt i m) (some i)) λk=>some (V.ptr b (Nat.add 0 (Nat.mul k 1))))=_;rw [q];show some (V.ptr b (0+i*1))=_;rw [Nat.zero_add,Nat.mul_one]
   have ld:ROp.run (.load false 1) [.ptr b i] h=some (.str n2 c2):=dI hb (at_ i _ a) (by omega)
   repeat' (first
    |apply ab|apply ae|apply aa|apply ai|apply ak|refine ah rfl (λd=>?_) (λd=>?_)|apply ax|apply am|apply thN|apply thR|apply thE|apply onR|refine bE p ?_|refine ac ?_|refine aG ld ?_|apply onE)
   all_goals first
    |exact Nr q|exact⟨.inr rfl,_,rfl,⟨_,rfl,by rw [GV (n:=n) (c:=c) a Hy];rfl⟩,rfl⟩|exact .norm ⟨_,_,cA KH,f,rfl,rfl,EO a j Hy⟩
theorem f113m{h:H}{v:V}{cs:List V}(g:GL 1 h v cs)(hs:xn cs)(np:1<h.next)(b:cs.length<1000000000)(n c:Nat):CN 113 [v,.str n c] h (.bool (gZ cs n c)) h:=by
 obtain⟨r,⟨k,rfl,e⟩,a⟩:=f137m g hs np b n c;obtain⟨v,rfl,c⟩:∃r,r= .bool (gZ cs n c)/\CN 113 [v,.str n c] h r h:=by
  refine Fm (h':=h) (R:=λr=>r= .bool (gZ cs n c)) Tryz.func113 (by decide) JY.2 rfl rfl ⟨1,np,λq=>q,by decide⟩ (Nat.le_refl _) ?_
  repeat' (first
   |apply ab|apply ae|apply aa|apply am|refine ac ?_|refine aw a ?_|apply thN)
  exact⟨.inr rfl,_,rfl,by show V.bool (!ltI k 0)=_;rw [e,Bool.not_not],rfl⟩
 exact c
def xG(es:List (V×V)):Prop:=∀e,e∈es->HY e.1/\∃b,e.2= .bool b
theorem BJ{n c:Nat}:∀{es:List (V×V)},xG es->∃r,(∀h,gz h (.one .s) (.str n c) es=some r)/\i6 false (.bool false) r= .bool (lkE es n c)
 |[],_=>⟨none,λ_=>rfl,rfl⟩
 |p ::es,k=>by
  obtain⟨r,q1,q2⟩:=BJ (n:=n) (c:=c) (es:=es) λe he=>k e (List.mem_cons_of_mem _ he);obtain⟨⟨m,d,e1⟩,z,e2⟩:=k p List.mem_cons_self;obtain⟨a,b⟩:=p;subst e1;cases q:cJ n c m d with
  |false=>
   refine⟨r,λh=>?_,?_⟩
   ·show ob (some (cJ n c m d)) (λb'=>Bool.rec (motive:=λ_=>Option (Option V)) (gz h (.one .s) (.str n c) es) (some (some b)) b')=_
    rw [q];exact q1 h
   ·rw [q2]
    show _=V.bool (if cJ n c m d then eqB b else lkE es n c);rw [q,if_neg (by decide)]
  |true=>
   refine⟨some b,λh=>?_,?_⟩
   ·show ob (some (cJ n c m d)) (λb'=>Bool.rec (motive:=λ_=>Option (Option V)) (gz h (.one .s) (.str n c) es) (some (some b)) b')=_
    rw [q];rfl
   ·show _=V.bool (if cJ n c m d then eqB b else lkE es n c)
    rw [q,if_pos rfl];have e2:b= .bool z:=e2;rw [e2];rfl
theorem Bf{es:List (V×V)}(k:xG es)(n c:Nat):∀(h:H) (id:Nat) (o:Bool),h.blk id=some (.map es o)->ROp.run (.lookup (.one .s) false (.bool false)) [.map id,.str n c] h=some (.bool (lkE es n c)):=by
 obtain⟨r,b,a⟩:=BJ (n:=n) (c:=c) k;intro h id o e;show oif true (ob (ob (h.blk id) _) _)=_;rw [e];show ob (gz h (.one .s) (.str n c) es) _=_;rw [b,<-a];rfl
structure Scp(sc:V)(d:Dp):Prop where
 px:bY sc
 out:∃g caps,sc= .func (.func g) [] caps/\∀n c,CP g (.str n c ::caps) (.bool (d n c))
structure FsI(es:List (V×V))(cs:List V)(h:H):Prop where
 map:xG es
 b0:h.blk 0=some (.ro 256 d3)
 b1:∃o,h.blk 1=some (.map es o)
 b2:∃tr v,h.blk 2=some (.cells 2 tr none false)/\tr.get 0=some (.map 1)/\tr.get 1=some v/\GL 1 h v cs/\xn cs/\cs.length<=h.next
 le:2<h.next
structure mX(h:H)(id:Nat)(v:V):Prop where
 lo:2<id
 hi:id<h.next
 out:∃tr,h.blk id=some (.cells 1 tr none false)/\tr.get 0=some v
 fn:∃f a b,v= .func f a b
structure Kb(h h':H):Prop where
 le:h.next<=h'.next
 bx:∀id v,mX h id v->mX h' id v
theorem Kb.refl(h:H):Kb h h:=⟨Nat.le_refl _,λ_ _ k=>k⟩
theorem Kb.trans{a b c:H}(x:Kb a b)(y:Kb b c):Kb a c:=⟨Nat.le_trans x.le y.le,λid v k=>y.bx id v (x.bx id v k)⟩
theorem FsI.eq{es:List (V×V)}{cs cs':List V}{h:H}(s:FsI es cs h)(e:cs=cs'):FsI es cs' h:=e▸s
theorem FsI.add{es:List (V×V)}{cs:List V}{h:H}(s:FsI es cs h)(J:h.next<900000000){v:V}{tr:Tr V}(G:h.blk 2=some (.cells 2 tr none false))(t0:tr.get 0=some (.map 1))(g:GL 1 h v cs)(hs:xn cs)(M:cs.length<=h.next)(n c:Nat):
  ∃v' h1 h2,EOp.run (.append 1 16 none) [v,.lst 1 1 [.str n c]] h=some (v',h1)/\EOp.run (.store 1) [.ptr 2 1,v'] h1=some (cT,h2)/\FsI es (cs++[.str n c]) h2/\Kb h h2/\h2.next=h.next+1:=by
 have t:900000002<bZ:=by unfold bZ;omega
 obtain⟨v',h1,e,g',F,fr⟩:=g.append (bytes:=16) (m:=1) (xs:=[.str n c]) (by decide) rfl rfl (by omega) (by simp only [List.length_singleton];omega) (λk J=>by omega) (by decide);obtain⟨zs,hz⟩:∃zs,zs=cs++[V.str n c]:=⟨_,rfl⟩
 rw [<-hz]at g' ⊢;have p:∀b m,v= .sl b 0 m 0 false 1->∃tr up,h.blk b=some (.cells m tr up false)/\∃n c,tr.get 0=some (.str n c):=λb m q=>by
  subst q;cases g with
  |full p hc hn hl2 at_ lt=>
   subst hc;rw [Nat.mul_one]at p hl2;obtain⟨x,l⟩:∃x,cs[0]? =some x:=⟨_,List.getElem?_eq_getElem (by omega)⟩
   obtain⟨n2,c2,rfl⟩:=hs x (List.mem_of_getElem? l);exact⟨_,_,p,n2,c2,at_ 0 _ l⟩
 have E:h1.blk 2=some (.cells 2 tr none false):=by
  rw [fr 2 s.le (λb m q k=>?_)]
  ·exact G
  ·subst k
   obtain⟨i,up,d,n2,c2,r⟩:=p 2 m q;rw [G]at d;cases d;rw [t0]at r;cases r
 have D:cellsOf v'=[v']/\cQ v'=true:=by cases g'<;>exact⟨rfl,rfl⟩
 have w:=iH (j:=1) E D.1 D.2 (by decide);refine⟨v',h1,_,e,w,⟨s.map,?_,?_,⟨tr.put 1 (some v'),v',?_,?_,?_,?_,?_,?_⟩,?_⟩,⟨?_,λid x k=>?_⟩,F⟩
 ·rw [gO (by omega),if_neg (by decide),fr 0 (by have:=s.le;omega) (λb m q k=>?_)]
  ·exact s.b0
  ·subst k
   obtain⟨i,up,d,_⟩:=p 0 m q;rw [s.b0]at d;cases d
 ·obtain⟨o,B⟩:=s.b1
  refine⟨o,?_⟩;rw [gO (by omega),if_neg (by decide),fr 1 (by have:=s.le;omega) (λb m q k=>?_)]
  ·exact B
  ·subst k
   obtain⟨i,up,d,_⟩:=p 1 m q;rw [B]at d;cases d
 ·rw [gO (by omega),if_pos rfl]
 ·rw [Tr.get_put _ _ _ _ (by omega),if_neg (by decide)]
  exact t0
 ·rw [Tr.get_put _ _ _ _ (by omega),if_pos rfl]
 ·cases g' with
  |none0=>exact .none0
  |full hb2 hc hn hl2 at_ lt=>
   rename_i b2 n2 i y z
   refine .full (tr:=i) (up:=y) (ch:=z) ?_ hc hn hl2 at_ lt;rw [gO (by omega),if_neg (λk=>?_)]
   ·exact hb2
   ·subst k
    rw [E,Nat.mul_one]at hb2;cases hb2;obtain⟨x,l⟩:∃x,zs[0]? =some x:=⟨_,List.getElem?_eq_getElem (by omega)⟩
    have q:=at_ 0 x l;rw [t0]at q;cases q;have:=List.mem_of_getElem? l;rw [hz]at this;rcases List.mem_append.1 this with m|m
    ·obtain⟨_,_,q⟩:=hs _ m
     cases q
    ·cases List.mem_singleton.1 m
 ·intro x l
  rw [hz]at l;rcases List.mem_append.1 l with m|m
  ·exact hs x m
  ·exact⟨_,_,List.mem_singleton.1 m⟩
 ·show zs.length<=h1.next
  rw [hz,List.length_append,F];simp only [List.length_singleton];omega
 ·show 2<h1.next
  have:=s.le;omega
 ·show h.next<=h1.next
  omega
 ·obtain⟨lo,hi,⟨u,d,r⟩,f,a,b,rfl⟩:=k
  refine⟨lo,by show id<h1.next;omega,⟨u,?_,r⟩,f,a,b,rfl⟩;rw [gO (by omega),if_neg (by omega),fr id hi (λK m q k=>?_)]
  ·exact d
  ·subst k
   obtain⟨I,up,C,L,c4,A⟩:=p id m q;rw [d]at C;cases C;rw [r]at A;cases A
theorem f184{es:List (V×V)}{zs:List V}{h:H}(s:FsI es zs h)(p:h.next<900000000){sc:V}{d:Dp}(b:Scp sc d)(n c:Nat):∃h',CN 184 [.ptr 2 0,.str n c,sc] h (.tup []) h'/\(FsI es (qu (lkE es) d n c zs) h'/\Kb h h'/\h'.next<=h.next+1):=by
 obtain⟨px,g,j,rfl,cs⟩:=b;have cs:=cs n c;obtain⟨o,m⟩:=s.b1;obtain⟨tr,v,f,t0,l,gl,hs,u⟩:=s.b2;have lk:=Bf s.map n c h 1 o m;have l0:ROp.run (.load false 1) [.ptr 2 0] h=some (.map 1):=dI f t0 (by decide);have w:ROp.run (.load false 1) [.ptr 2 1] h=some v:=dI f l (by decide);have a:=f113m gl hs (by have:=s.le;omega) (by omega) n c;obtain⟨x,h1,h2,r,t,k,i,n2⟩:=s.add p f t0 gl hs u n c;refine dh Tryz.func184 (by decide) KZ.2 rfl rfl ⟨1,by have:=s.le;omega,λq=>q,by decide⟩ ?_
 repeat' (first
  |(refine WLg.mk ?_;first
  |refine ac ?_|refine aG lk ?_|refine aG l0 ?_|refine aG w ?_|refine aX rfl rfl rfl rfl rfl rfl PB rfl ?_|refine ay cs ?_|refine aw a ?_|refine aK rfl rfl r rfl ?_|refine aK rfl rfl t rfl ?_)|apply ab|refine aj rfl ?_|refine aB rfl rfl ?_|refine aC rfl (λe=>?_) (λe=>?_)|apply ae|apply aa|apply ak|refine aD rfl ?_|refine ah rfl (λe=>?_) (λe=>?_)|apply thN|fail)
 all_goals first
  |exact⟨.inl rfl,_,rfl,Nat.le_refl _,rfl,s.eq (by(try simp only [Bool.not_eq_true',Bool.not_eq_false']at*)<;>first|(simp [qu, *];done)|(simp_all [qu];done)),.refl h,Nat.le_succ _⟩|exact⟨.inl rfl,_,rfl,i.le,rfl,k.eq (by(try simp only [Bool.not_eq_true']at*)<;>first|(simp [qu, *];done)|(simp_all [qu];done)),i,Nat.le_of_eq n2⟩
end
section
theorem f167(n c:Nat):CP 167 [.str n c] (.bool false):=by
 refine cR Tryz.func167 (by decide) La.2 rfl (cg (.flat rfl) px0) rfl ?_
 repeat' (first
  |apply ab|apply ae|apply aa|apply am|refine ac ?_|apply thN)
 exact⟨.inr rfl,_,rfl,.flat rfl,rfl⟩
theorem KL:Scp (.func (.func 167) [] []) λ_ _=>false:=⟨pxF 167,167,[],rfl,λn c=>f167 n c⟩
noncomputable section
def Jt(sc:V)(n c:Nat):V:= .func (.func 183) [] [.eptr [.str n c] 0,.eptr [sc] 0]
def uh(d:Dp)(n c:Nat):Dp:=λm e=>if cJ m e n c then true else d m e
def szD(o d:Dp):Nat->Ex->List V->List V
 |0,_,cs=>cs
 |n+1,x,cs=>(df x).foldl (λcs y=>szD o d n y cs) (if eqI x.kind 3 then qu o d x.name.size (ck x.name.data.toList) cs else cs)
end
theorem IE{sc:V}{d:Dp}(h:Scp sc d)(n c:Nat):Scp (Jt sc n c) (uh d n c):=by
 obtain⟨px,g,a,rfl,cs⟩:=h;have b:bY (.eptr [.str n c] 0):= .eptr (cg (.flat rfl) px0);have f:bY (.eptr [.func (.func g) [] a] 0):= .eptr (cg px px0);refine⟨.func px0 (cg b (cg f px0)),183,_,rfl,λm e=>?_⟩;have c2:=cs m e;refine cR Tryz.func183 (by decide) K0.2 rfl (cg (.flat rfl) (cg b (cg f px0))) rfl ?_
 repeat' (first
  |(refine WLg.mk ?_;first
  |refine ac ?_|refine au ?_|refine ay c2 ?_)|apply ab|refine aj rfl ?_|refine aB rfl rfl ?_|refine aC rfl (λi=>?_) (λi=>?_)|apply ae|apply aa|apply am|apply thN|fail)
 all_goals exact⟨.inr rfl,_,rfl,.flat rfl,congrArg V.bool (by(try simp only [Bool.not_eq_true',Bool.not_eq_false']at*)<;>first|(simp [uh, *];done)|(simp_all [uh];done))⟩
theorem f173{sc:V}{d:Dp}(h:Scp sc d)(n c:Nat):CP 173 [sc,.str n c] (Jt sc n c):=by
 have b:=(IE h n c).px;obtain⟨px,g,a,rfl,cs⟩:=h;refine cR Tryz.func173 (by decide) K7.2 rfl (cg px (cg (.flat rfl) px0)) rfl ?_
 repeat' (first
  |apply ab|apply ae|apply aa|apply am|refine ac ?_|refine aE ?_|apply thN)
 exact⟨.inr rfl,_,rfl,b,rfl⟩
theorem tj{S:Type}{C:Ex->H->Bool->H->Prop}{Inv:S->H->Prop}{F:S->Ex->S}:∀(L:List Ex),(∀y,y∈L->∀s h,Inv s h->h.next+4*bS (exO y)<900000000->∃h',C y h true h'/\Inv (F s y) h'/\h'.next<=h.next+4*bS (exO y))->∀s h,Inv s h->h.next+4*bS (exL L)<900000000->∃h',Rk C L h true h'/\Inv (L.foldl F s) h'/\h'.next<=h.next+4*bS (exL L)
 |[],_,s,h,i,_=>⟨h,.nil,i,Nat.le_add_right _ _⟩
 |y ::L,k,s,h,i,hb=>by
  rw [cV,cy]at hb ⊢;obtain⟨h1,c,i1,n1⟩:=k y List.mem_cons_self s h i (by omega);obtain⟨h2,r,i2,n2⟩:=tj L (λz hz=>k z (List.mem_cons_of_mem _ hz)) _ h1 i1 (by omega);exact⟨h2,.go c r,i2,by omega⟩
structure Fd(es:List (V×V))(cs:List V)(h h':H)(n:Nat):Prop where
 fs:FsI es cs h'
 kb:Kb h h'
 nx:h'.next<=h.next+n
theorem Fd.eq{es:List (V×V)}{cs cs':List V}{h h':H}{n:Nat}(x:Fd es cs h h' n)(e:cs=cs'):Fd es cs' h h' n:=e▸x
def SZ(es:List (V×V))(s:Nat):Prop:=∀x,bS (exO x)<s->∀h sc d cs,FsI es cs h->Scp sc d->h.next+4*bS (exO x)<900000000->∃h',CN 177 [.ptr 2 0,.agg (exO x),sc] h (.tup []) h'/\Fd es (szD (lkE es) d s x cs) h h' (4*bS (exO x))
theorem dE{n:Nat}(h:n<900000000):Nat.blt n bZ=true:=ltb (by unfold bZ;omega)
theorem f185{es:List (V×V)}{s:Nat}(Z:SZ es s){y:Ex}(i:bS (exO y)<s){h:H}{sc:V}{d:Dp}{zs:List V}(fs:FsI es zs h)(a:Scp sc d)(e:h.next+4*bS (exO y)<900000000):∃h',CE 185 [.eptr [.ptr 2 0] 0,.eptr [sc] 0] y h true h'/\Fd es (szD (lkE es) d s y zs) h h' (4*bS (exO y)):=by
 obtain⟨h',c,f⟩:=Z y i h sc d zs fs a e;refine⟨h',⟨?_,f.kb.le,dE (by have:=f.nx;omega)⟩,f⟩;obtain⟨px,g,b,rfl,cs⟩:=a;refine fP Tryz.func185 (by decide) KY.2 rfl rfl (by have:=fs.le;omega) f.kb.le ?_
 repeat' (first
  |apply ab|apply ae|apply aa|apply am|refine ac ?_|refine aG (show ROp.run (.load true 11) [.eptr (exO y) 0] _=some (.agg (exO y))from rfl) ?_|refine au ?_|refine aE ?_|refine aw c ?_|apply thN)
 exact⟨.inr rfl,_,rfl,rfl,rfl⟩
theorem dl{h:H}(k:2<h.next):∃id,id<h.next/\¬noM id/\id≠0:=⟨1,by omega,λq=>q,by decide⟩
theorem zj{es:List (V×V)}{s:Nat}(hs:s<=6000000)(Z:SZ es s):SZ es (s+1):=by
 intro x I h sc d zs fs a J;have E:=kC x;have o:=iM x;have np:=dl fs.le;have l:bS (exO x)<=6000000:=by omega
 have run:∀cs h1,FsI es cs h1->Kb h h1->h1.next<=h.next+1->∃h',CN 63 [.agg (exO x),.func (.func 185) [] [.eptr [.ptr 2 0] 0,.eptr [sc] 0]] h1 (.bool true) h'/\Fd es ((df x).foldl (λcs y=>szD (lkE es) d s y cs) cs) h h' (4*bS (exO x)):=by
  intro cs h1 b k n1;obtain⟨h',r,⟨z,t⟩,n2⟩:=tj (C:=CE 185 [.eptr [.ptr 2 0] 0,.eptr [sc] 0]) (Inv:=λcs h'=>FsI es cs h'/\Kb h h') (F:=λcs y=>szD (lkE es) d s y cs) (df x) (λy u cs h2 i j=>by
   obtain⟨h',c,f⟩:=f185 Z (by have:=fg u;omega) i.1 a j;exact⟨h',c,⟨f.fs,i.2.trans f.kb⟩,f.nx⟩) cs h1 ⟨b,k⟩ (by omega)
  exact⟨h',f63 l (by have:=b.le;omega) (dE (by omega)) (fU (λv e=>by cases e) λv e=>by
   rcases List.mem_cons.1 e with rfl|e
   ·exact gE (nG (fC λq=>by have:=b.le;omega))
   ·rw [List.mem_singleton.1 e]
    exact gE (nG a.px.free)) r,z,t,by omega⟩
 obtain⟨h1,c1,p,k,n1⟩:=f184 fs (by omega) a x.name.size (ck x.name.data.toList);obtain⟨G,D,fa⟩:=run _ h fs (.refl h) (by omega);obtain⟨B,w,n⟩:=run _ h1 p k n1;obtain⟨px,g,m,rfl,cs⟩:=a;have bx:dG (λid=>id=h.next) (.ptr 2 0):=fC λq=>by have:=fs.le;omega
 refine dh Tryz.func177 (by decide) K3.2 rfl rfl np ?_
 repeat' (first
  |apply ab|apply ae|apply aa|apply ak|refine ah rfl (λA=>?_) (λA=>?_)|refine ac ?_|refine au ?_|refine aY rfl rfl rfl rfl bx rfl ?_|refine aE ?_|refine aw c1 ?_|refine aw D ?_|refine aw w ?_|apply thN)
 all_goals first
  |exact⟨.inl rfl,_,rfl,n.kb.le,rfl,n.eq (by(try simp only [Bool.not_eq_true',Bool.not_eq_false']at*)<;>first|(simp [szD, *];done)|(simp_all [szD];done))⟩|exact⟨.inl rfl,_,rfl,fa.kb.le,rfl,fa.eq (by(try simp only [Bool.not_eq_true',Bool.not_eq_false']at*)<;>first|(simp [szD, *];done)|(simp_all [szD];done))⟩
theorem qq(es:List (V×V)):∀s,s<=6000001->SZ es s
 |0,_=>λx hx=>by omega
 |s+1,hs=>zj (by omega) (qq es s (by omega))
end
section
noncomputable abbrev fnV(g:FuncId)(caps:List V):V:= .func (.func g) [] caps
structure VC{S:Type}(Inv:S->H->Prop)(oF:Nat->Nat->S->S)(zF:Ex->S->S)(go:FuncId)(co:List V)(gs:FuncId)(cz:List V):Prop where
 occ:∀st h n c,Inv st h->h.next+1<900000000->∃h',CN go (.str n c ::co) h (.tup []) h'/\Inv (oF n c st) h'/\h.next<=h'.next/\h'.next<=h.next+1
 siz:∀y,bS (exO y)<=6000000->∀st h,Inv st h->h.next+4*bS (exO y)<900000000->∃h',CN gs (.agg (exO y) ::cz) h (.tup []) h'/\Inv (zF y st) h'/\h.next<=h'.next/\h'.next<=h.next+4*bS (exO y)
 fo:∀st h,Inv st h->dG (λid=>id=h.next) (fnV go co)
 fz:∀st h,Inv st h->dG (λid=>id=h.next) (fnV gs cz)
 np:∀st h,Inv st h->2<h.next
noncomputable section
def sgV{S:Type}(zF:Ex->S->S)(R:Ex->S->S)(g:Sg)(st:S):S:=
 if g.sized then zF g.size (if eqI g.type 4 then st else R g.val st)else if eqI g.type 4 then st else R g.val st
def vaD{S:Type}(oF:Nat->Nat->S->S)(zF:Ex->S->S):Nat->Ex->S->S
 |0,_,st=>st
 |n+1,x,st=>if eqI x.kind 3 then oF x.name.size (ck x.name.data.toList) st else if eqI x.kind 8 then cB (λi st=>sgV zF (vaD oF zF n) (cG x.segs i) st) st x.segs.length else(df x).foldl (λst y=>vaD oF zF n y st) st
end
def VRn{S:Type}(Inv:S->H->Prop)(oF:Nat->Nat->S->S)(zF:Ex->S->S)(go:FuncId)(co:List V)(gs:FuncId)(cz:List V)(s:Nat):Prop:=∀x,bS (exO x)<s->∀st h,Inv st h->h.next+4*bS (exO x)<900000000->∃h',CN 171 [.agg (exO x),fnV go co,fnV gs cz] h (.tup []) h'/\Inv (vaD oF zF s x st) h'/\h.next<=h'.next/\h'.next<=h.next+4*bS (exO x)
noncomputable section
def wM(go:FuncId)(co:List V)(gs:FuncId)(cz:List V):List V:=[.eptr [fnV go co] 0,.eptr [fnV gs cz] 0]
def fr171(go:FuncId)(co:List V)(gs:FuncId)(cz:List V)(x:Ex)(i:Nat):AL:=[(3,.eptr (exO x) 0),(4,.eptr [fnV go co] 0),(5,.eptr [fnV gs cz] 0),(22,.lst x.segs.length 27 (sgL x.segs)),(23,.int .i64 (Int.ofNat x.segs.length)),(24,.int .i64 (Int.ofNat i))]
end
section
variable {S:Type} {Inv:S->H->Prop} {oF:Nat->Nat->S->S} {zF:Ex->S->S} {go:FuncId} {co:List V} {gs:FuncId} {cz:List V}
theorem f182(d:VC Inv oF zF go co gs cz){s:Nat}(R:VRn Inv oF zF go co gs cz s){y:Ex}(e:bS (exO y)<s){st:S}{h:H}(i:Inv st h)(b:h.next+4*bS (exO y)<900000000):∃h',CE 182 (wM go co gs cz) y h true h'/\Inv (vaD oF zF s y st) h'/\h'.next<=h.next+4*bS (exO y):=by
 obtain⟨h',c,a,le,nx⟩:=R y e st h i b;refine⟨h',⟨?_,le,dE (by omega)⟩,a,nx⟩;refine fP Tryz.func182 (by decide) K1.2 rfl rfl (by have:=d.np _ h i;omega) le ?_
 repeat' (first
  |(refine WLg.mk ?_;first
  |refine ac ?_|refine ap rfl rfl (show ROp.run (.load true 11) [.eptr (exO y) 0] _=some (.agg (exO y))from rfl) rfl ?_|refine au ?_|refine aE ?_|refine aw c ?_)|apply ab|refine aj rfl ?_|apply ae|apply aa|apply am|apply thN|fail)
 exact⟨.inr rfl,_,rfl,rfl,rfl⟩
set_option maxHeartbeats 6400000 in
theorem Cf(d:VC Inv oF zF go co gs cz){s:Nat}(hs:s<=6000000)(R:VRn Inv oF zF go co gs cz s):VRn Inv oF zF go co gs cz (s+1):=by
 intro x hx st h f hb;have hk:=kC x;have V:=dZ x;have E:bS (exO x)<=6000000:=by omega
 have h2:=d.np _ h f;have np:=dl h2;have fo:=d.fo _ h f;have fz:=d.fz _ h f;obtain⟨h1,c1,K,j,T⟩:=d.occ st h x.name.size (ck x.name.data.toList) f (by omega);obtain⟨h3,c3,G,o,u⟩:∃h',CN 63 [.agg (exO x),fnV 182 (wM go co gs cz)] h (.bool true) h'/\Inv ((df x).foldl (λst y=>vaD oF zF s y st) st) h'/\h.next<=h'.next/\h'.next<=h.next+4*bS (exO x):=by
  obtain⟨h',r,M,n2⟩:=tj (C:=CE 182 (wM go co gs cz)) (Inv:=Inv) (F:=λst y=>vaD oF zF s y st) (df x) (λy Z st h2 i w=>f182 d R (by have:=fg Z;omega) i w) st h f (by omega);have g:=r.gr (λy h b h' c=>c.gr) (dE (by omega));exact⟨h',f63 E (by omega) (dE (by omega)) (fU (λv e=>by cases e) λv e=>by
   rcases List.mem_cons.1 e with rfl|e
   ·exact gE (nG fo)
   ·rw [List.mem_singleton.1 e]
    exact gE (nG fz)) r,M,g.le,by omega⟩
 have hn:=jW x.segs;refine dh Tryz.func171 (by decide) K9.2 rfl rfl np ?_
 repeat' (first
  |(refine WLg.mk ?_;first
  |refine ac ?_|refine au ?_|refine aY rfl rfl rfl rfl fo rfl ?_|refine aY rfl rfl rfl rfl fz rfl ?_|refine aE ?_|refine aw c1 ?_|refine aw c3 ?_)|apply ab|refine aj rfl ?_|apply ae|apply aa|apply ai|refine ah rfl (λn=>?_) (λn=>?_)|apply thN|fail)
 ·exact⟨.inl rfl,_,rfl,j,rfl,by rw [vaD,if_pos (by with_reducible assumption)];exact K,j,by omega⟩
 ·refine az (cA (l:=fr171 go co gs cz x 0) KH) ?_
  refine aA x.segs.length (λk l h1=>l=fr171 go co gs cz x k/\Inv (cB (λi st=>sgV zF (vaD oF zF s) (cG x.segs i) st) st k) h1/\h.next<=h1.next/\h1.next<=h.next+4*bS (sgL (x.segs.take k))) ?_ (i:=0) (Nat.zero_le _) ⟨rfl,f,Nat.le_refl _,Nat.le_add_right _ _⟩;clear c1 c3 K G;rintro k _ z P ⟨rfl,m,p,D⟩;have hi2:k<9223372036854775807:=by omega
  have A:z.next<900000000:=by have:=pe x.segs k;omega
  cases q:Nat.blt k x.segs.length with
  |false=>
   have t:k=x.segs.length:=by have:=cC q;omega
   repeat' (first
    |(refine WLg.mk ?_;first
    |refine ac ?_|refine av rfl rfl (ce Hy) rfl ?_)|apply ab|refine aj rfl ?_|apply ae|apply aa|apply ai|apply ak|refine ah rfl (λn=>?_) (λn=>?_)|apply ax|apply thN|apply thE|apply onE|fail)
   any_goals (first|exact Nq q|skip)
   rw [t,List.take_length]at D;rw [t]at m;exact⟨.inl rfl,_,rfl,p,rfl,by rw [vaD,if_neg (by rw [(by with_reducible assumption:eqI x.kind 3=false)];decide),if_pos (by with_reducible assumption)];exact m,p,by omega⟩
  |true=>
   have a:=bX q;have I:=sI a;have U:=pe x.segs (k+1);have W:=lR (cG x.segs k);obtain⟨e,cv,J,lev,a0⟩:=R (cG x.segs k).val (by omega) _ z m (by omega);obtain⟨hw,cw,N,Y,S⟩:=d.siz (cG x.segs k).size (by omega) _ e J (by omega);obtain⟨hu,Q,O,L,a1⟩:=d.siz (cG x.segs k).size (by omega) _ z m (by omega);have B:∀c,c∈sgO (cG x.segs k)->bY c:=λc hc=>(fH _ c hc).x
   repeat' (first
    |(refine WLg.mk ?_;first
    |refine ac ?_|refine av rfl rfl (ce Hy) rfl ?_|refine ap rfl rfl (show ROp.run (.load true 11) [.eptr (sgO (cG x.segs k)) 2] _=some (.agg (exO (cG x.segs k).val))from rfl) rfl ?_|refine ap rfl rfl (show ROp.run (.load true 11) [.eptr (sgO (cG x.segs k)) 13] _=some (.agg (exO (cG x.segs k).size))from rfl) rfl ?_|refine au ?_|refine ap rfl rfl (fq Hy) rfl ?_|refine aJ rfl rfl (dE A) rfl rfl rfl rfl rfl rfl rfl rfl B rfl rfl ?_|refine aw cv ?_|refine aw cw ?_|refine aw Q ?_)|apply ab|refine aj rfl ?_|apply ae|apply aa|apply ai|apply ak|refine ah rfl (λn=>?_) (λn=>?_)|apply ax|apply thN|apply thE|apply onE|fail)
   all_goals first
    |exact .norm ⟨_,_,cA KH,a,rfl,cast (congrArg (Inv · _) (by(try simp only [Bool.not_eq_true',Bool.not_eq_false']at*)<;>first|(simp [cB,sgV, *];done)|(simp_all [cB,sgV];done))) N,by omega,by omega⟩|exact .norm ⟨_,_,cA KH,a,rfl,cast (congrArg (Inv · _) (by(try simp only [Bool.not_eq_true',Bool.not_eq_false']at*)<;>first|(simp [cB,sgV, *];done)|(simp_all [cB,sgV];done))) J,by omega,by omega⟩|exact .norm ⟨_,_,cA KH,a,rfl,cast (congrArg (Inv · _) (by(try simp only [Bool.not_eq_false']at*)<;>first|(simp [cB,sgV, *];done)|(simp_all [cB,sgV];done))) O,by omega,by omega⟩|exact .norm ⟨_,_,cA KH,a,rfl,cast (congrArg (Inv · _) (by(try simp only [Bool.not_eq_false']at*)<;>first|(simp [cB,sgV, *];done)|(simp_all [cB,sgV];done))) m,by omega,by omega⟩|exact Nr q
 ·exact⟨.inl rfl,_,rfl,o,rfl,by rw [vaD,if_neg (by rw [(by with_reducible assumption:eqI x.kind 3=false)];decide),if_neg (by rw [(by with_reducible assumption:eqI x.kind 8=false)];decide)];exact G,o,u⟩
theorem oW(vc:VC Inv oF zF go co gs cz):∀s,s<=6000001->VRn Inv oF zF go co gs cz s
 |0,_=>λx hx=>by omega
 |s+1,hs=>Cf vc (by omega) (oW vc s (by omega))
end
end
end Ev
end Go.Proofs.YtdfphfdnoobikaaGreatDoor
