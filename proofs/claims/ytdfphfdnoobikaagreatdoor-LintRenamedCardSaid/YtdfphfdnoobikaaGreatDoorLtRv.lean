/-
  The reference:in what it takes all variables' names are Kh.
-/
import Derived.Test.YtdfphfdnoobikaaGreatDoorLtLex2
import Derived.Test.YtdfphfdnoobikaaGreatDoorLtStr
import Derived.Test.YtdfphfdnoobikaaGreatDoorLtMod
namespace Go.Proofs.YtdfphfdnoobikaaGreatDoor
namespace Ev
section
noncomputable def wkE(x:Ex):List Ex:=
 if eqI x.kind 8 then fX x.segs else if eqI x.kind 13 then clK x.clauses else if eqI x.kind 15 then cI x.body else if eqI x.kind 16 then x.items++clK x.clauses
 else if eqI x.kind 17 then(if x.wait then x.items++cI x.after else [])++clK x.clauses else if eqI x.kind 18 then((if x.wait then cI x.after else [])++cI x.body)++(clK x.clauses++clK x.catches)
 else if eqI x.kind 5||(eqI x.kind 7||(eqI x.kind 9||(eqI x.kind 10||(eqI x.kind 11||eqI x.kind 12))))then x.items else []
noncomputable def vnB(b:ByteArray):Bool:=vnC b.size (ck b.data.toList)
inductive dV:Ex->Prop
 |mk {x:Ex} (v:eqI x.kind 3=true->vnB x.name=true) (k:∀y,y∈wkE x->dV y):dV x
def VB(f:FuncId)(vs:List V)(P:Prop):Prop:=∃b,CP f vs (.bool b)/\(b=true->P)
theorem VB.and{f:FuncId}{vs:List V}{P Q:Prop}:VB f vs P->VB f vs Q->VB f vs (P/\Q)
 |⟨true,_,k⟩,⟨b,c,k'⟩=>⟨b,c,λh=>⟨k rfl,k' h⟩⟩
 |⟨false,c,_⟩,_=>⟨false,c,λh=>by cases h⟩
structure KD(s:Nat):Prop where
 ex:∀x,bS (exO x)<s->VB 73 [.agg (exO x)] (dV x)
 all:∀l:List Ex,bS (exL l)<s->VB 54 [.lst l.length 11 (exL l)] (∀y,y∈l->dV y)
 body:∀l:List Sm,bS (smL l)<s->VB 55 [.lst l.length 23 (smL l)] (∀y,y∈cI l->dV y)
 cls:∀(l:List Cl) (p:Int) (b:Bool),bS (clL l)<s->VB 41 [.lst l.length 4 (clL l),.int .i64 p,.bool b] (∀y,y∈clK l->dV y)
 segs:∀l:List Sg,bS (sgL l)<s->VB 107 [.lst l.length 27 (sgL l)] (∀y,y∈fX l->dV y)
theorem uF{f:FuncId} {fn:Func} {cf:CF} {P:Prop} (hfn:Tryz.prog.funcs[f]? =some fn) (hnm:fn.name≠ "runtime.NumGoroutine") (hcf:ci TP fn=some cf) {vs:List V} (hlen:vs.length=cf.params) (hvs:∀v,v∈vs->bY v) {loc:AL} (hn:mY vs 0=some loc)
  (k:WC Tryz.prog TP Kp ft 1 cf.code loc H0 (Hu cf λv=>∃b,v= .bool b/\(b=true->P))):VB f vs P:=by
 obtain⟨v,c,b,rfl,ok⟩:=eF hfn hnm hcf hlen hvs hn k;exact⟨b,c,ok⟩
theorem Ig{x:Ex}(k:eqI x.kind 3=true)(h:vnB x.name=true):dV x:= .mk (λ_=>h) λy hy=>by
 unfold wkE at hy;rw [iF k]at hy;cases hy
theorem FW{x:Ex}{j:Int}(k:eqI x.kind j=true)(b:j=1\/j=2\/j=4\/j=6\/j=14):dV x:=by
 refine .mk (λq=>?_) λy a=>?_
 ·rw [iF k]at q
  rcases b with rfl|rfl|rfl|rfl|rfl<;>cases q
 ·unfold wkE at a
  rw [iF k]at a;rcases b with rfl|rfl|rfl|rfl|rfl<;>cases a
theorem Dx{x:Ex}{j:Int}(k:eqI x.kind j=true)(b:j=5\/j=7\/j=9\/j=10\/j=11\/j=12)(h:∀y,y∈x.items->dV y):dV x:=by
 refine .mk (λq=>?_) λy a=>h y ?_
 ·rw [iF k]at q
  rcases b with rfl|rfl|rfl|rfl|rfl|rfl<;>cases q
 ·unfold wkE at a
  rw [iF k]at a;rcases b with rfl|rfl|rfl|rfl|rfl|rfl<;>exact a
theorem uC{x:Ex}{j:Int}{l:List Ex}(k:eqI x.kind j=true)(hj:eqI j 3=false)(e:x.kind=j->wkE x=l)(h:∀y,y∈l->dV y):dV x:=
 .mk (λq=>by rw [iF k,hj]at q;cases q) λy hy=>h y (e (iF k)▸hy)
theorem KF{x:Ex}(k:eqI x.kind 8=true)(h:∀y,y∈fX x.segs->dV y):dV x:=uC k rfl (λe=>by unfold wkE;rw [e];rfl) h
theorem Jy{x:Ex}(k:eqI x.kind 13=true)(h:∀y,y∈clK x.clauses->dV y):dV x:=uC k rfl (λe=>by unfold wkE;rw [e];rfl) h
theorem Jw{x:Ex}(k:eqI x.kind 15=true)(h:∀y,y∈cI x.body->dV y):dV x:=uC k rfl (λe=>by unfold wkE;rw [e];rfl) h
theorem J7{b:Bool}(h:(!b)=true):b=false:=by cases b with|false=>rfl|true=>cases h
theorem jp{α:Type}{a b:List α}{P:α->Prop}(ha:∀y,y∈a->P y)(hb:∀y,y∈b->P y):∀y,y∈a++b->P y:=λy hy=>by
 rcases List.mem_append.1 hy with h|h
 ·exact ha y h
 ·exact hb y h
theorem qE{α:Type}{P:α->Prop}:∀y,y∈([]:List α)->P y:=λy hy=>by cases hy
theorem Jv{x:Ex}(k:eqI x.kind 16=true)(h1:∀y,y∈x.items->dV y)(h2:∀y,y∈clK x.clauses->dV y):dV x:=uC k rfl (λe=>by unfold wkE;rw [e];rfl) (jp h1 h2)
theorem HC{x:Ex}(k:eqI x.kind 17=true)(h:x.wait=false\/(∀y,y∈x.items->dV y)/\∀y,y∈cI x.after->dV y)(h2:∀y,y∈clK x.clauses->dV y):dV x:=by
 refine uC (l:=(if x.wait then x.items++cI x.after else [])++clK x.clauses) k rfl (λe=>by unfold wkE;rw [e];rfl) (jp ?_ h2);rcases h with h|h
 ·rw [h]
  exact qE
 ·split
  ·exact jp h.1 h.2
  ·exact qE
theorem Ju{x:Ex}(k:eqI x.kind 18=true)(h:x.wait=false\/∀y,y∈cI x.after->dV y)(h1:∀y,y∈cI x.body->dV y)(h2:∀y,y∈clK x.clauses->dV y)(a:∀y,y∈clK x.catches->dV y):dV x:=by
 refine uC (l:=((if x.wait then cI x.after else [])++cI x.body)++(clK x.clauses++clK x.catches)) k rfl (λe=>by unfold wkE;rw [e];rfl) (jp (jp ?_ h1) (jp h2 a));rcases h with h|h
 ·rw [h]
  exact qE
 ·split
  ·exact h
  ·exact qE
theorem Ho{α:Type}{P:α->Prop}{l:List α}{i:Nat}{a:α}(e:l[i]? =some a)(seen:∀y,y∈l.take i->P y)(h:P a):∀y,y∈l.take (i+1)->P y:=λy hy=>by
 rw [List.take_add_one,e]at hy;rcases List.mem_append.1 hy with hy|hy
 ·exact seen y hy
 ·have:y=a:=by simpa using hy
  rw [this];exact h
theorem vC:∀a b:List Sm,cI (a++b)=cI a++cI b
 |[],_=>rfl
 |x ::a,b=>by
  show(if x.isMatch then [x.pat,x.val]else [x.val])++cI (a++b)=((if x.isMatch then [x.pat,x.val]else [x.val])++cI a)++cI b;rw [vC a b,List.append_assoc]
theorem Dm{P:Ex->Prop}{l:List Sm}{i:Nat}{a:Sm}(e:l[i]? =some a)(seen:∀y,y∈cI (l.take i)->P y)(h1:a.isMatch=false\/P a.pat)(h2:P a.val):∀y,y∈cI (l.take (i+1))->P y:=by
 rw [List.take_add_one,e,vC];refine jp seen ?_;show ∀y,y∈(if a.isMatch then [a.pat,a.val]else [a.val])++[]->P y;rw [List.append_nil];intro y b
 split at b
 ·rename_i c
  rcases List.mem_cons.1 b with rfl|b
  ·rcases h1 with h|h
   ·rw [c]at h;cases h
   ·exact h
  ·rw [List.mem_singleton.1 b]
   exact h2
 ·rw [List.mem_singleton.1 b]
  exact h2
theorem xF:∀a b:List Sg,fX (a++b)=fX a++fX b
 |[],_=>rfl
 |x ::a,b=>by
  show((if x.type=4 then []else [x.val])++(if x.sized then [x.size]else []))++fX (a++b)=(((if x.type=4 then []else [x.val])++(if x.sized then [x.size]else []))++fX a)++fX b;rw [xF a b,List.append_assoc,List.append_assoc,List.append_assoc]
theorem DX{P:Ex->Prop}{l:List Sg}{i:Nat}{a:Sg}(e:l[i]? =some a)(seen:∀y,y∈fX (l.take i)->P y)(h1:eqI a.type 4=true\/P a.val)(h2:a.sized=false\/P a.size):∀y,y∈fX (l.take (i+1))->P y:=by
 rw [List.take_add_one,e,xF];refine jp seen ?_;show ∀y,y∈((if a.type=4 then []else [a.val])++(if a.sized then [a.size]else []))++[]->P y;rw [List.append_nil];refine jp ?_ ?_
 ·split
  ·exact qE
  ·rename_i h
   intro y b;rw [List.mem_singleton.1 b];exact h1.resolve_left λq=>h (iF q)
 ·split
  ·rename_i h
   intro y b;rw [List.mem_singleton.1 b];exact h2.resolve_left λq=>by rw [h]at q;cases q
  ·exact qE
theorem BG:∀a b:List (List Ex),gdK (a++b)=gdK a++gdK b
 |[],_=>rfl
 |x ::a,b=>by
  show x++gdK (a++b)=(x++gdK a)++gdK b;rw [BG a b,List.append_assoc]
theorem BW:∀a b:List Cl,clK (a++b)=clK a++clK b
 |[],_=>rfl
 |x ::a,b=>by
  show(x.pats++(gdK x.guards++cI x.body))++clK (a++b)=((x.pats++(gdK x.guards++cI x.body))++clK a)++clK b;rw [BW a b,<-List.append_assoc]
theorem GW{P:Ex->Prop}{l:List (List Ex)}{i:Nat}{a:List Ex}(e:l[i]? =some a)(seen:∀y,y∈gdK (l.take i)->P y)(h:∀y,y∈a->P y):∀y,y∈gdK (l.take (i+1))->P y:=by
 rw [List.take_add_one,e,BG];refine jp seen ?_;show ∀y,y∈a++[]->P y;rw [List.append_nil];exact h
theorem He{P:Ex->Prop}{l:List Cl}{i:Nat}{a:Cl}(e:l[i]? =some a)(seen:∀y,y∈clK (l.take i)->P y)(h1:∀y,y∈a.pats->P y)(h2:∀y,y∈gdK a.guards->P y)(b:∀y,y∈cI a.body->P y):∀y,y∈clK (l.take (i+1))->P y:=by
 rw [List.take_add_one,e,BW];refine jp seen ?_;show ∀y,y∈(a.pats++(gdK a.guards++cI a.body))++[]->P y;rw [List.append_nil];exact jp h1 (jp h2 b)
section
variable {s:Nat} (R:KD s) (hs:s<9223372036854775807)
include R hs
set_option maxHeartbeats 4000000 in
theorem Cr(x:Ex)(q:bS (exO x)<s+1):VB 109 [.agg (exO x)] (dV x):=by
 have hz:=dZ x;obtain⟨b1,k,e⟩:=R.all x.items (by omega);obtain⟨b2,n,m⟩:=R.body x.body (by omega);obtain⟨b3,g,d⟩:=R.body x.after (by omega);obtain⟨u,c41,c⟩:=R.cls x.clauses 1 false (by omega);obtain⟨p,j,f⟩:=R.cls x.catches 2 false (by omega);have r:x.catches.length<9223372036854775808:=by have:=fR x.catches;omega
 refine uF Tryz.func109 (by decide) LI.2 rfl (cg (pxe _) px0) rfl ?_
 repeat' (first
  |(refine WLg.mk ?_;first
  |refine ac ?_|refine au ?_|refine aE ?_|refine ay k ?_|refine ay g ?_|refine ay c41 ?_)|apply ab|refine aj rfl ?_|refine aB rfl rfl ?_|refine aC rfl (λa=>?_) (λa=>Nf a)|refine aC rfl (λa=>Nt a) (λa=>?_)|refine aC rfl (λa=>?_) (λa=>?_)|apply ae|apply aa|apply ai|apply ak|refine aF rfl ?_|refine aD rfl ?_|refine ah rfl (λa=>?_) (λa=>Nf a)|refine ah rfl (λa=>Nt a) (λa=>?_)|refine ah rfl (λa=>?_) (λa=>?_)|apply am|apply thN|apply thR|fail)
 all_goals first
  |exact⟨.inr rfl,_,rfl,.flat rfl,false,rfl,λh=>by cases h⟩|exact⟨.inr rfl,_,rfl,.flat rfl,_,rfl,λh=>Jv Hy (e Hy) (c h)⟩|exact⟨.inr rfl,_,rfl,.flat rfl,_,rfl,λh=>HC Hy (.inl Hy) (c h)⟩|exact⟨.inr rfl,_,rfl,.flat rfl,_,rfl,λh=>HC Hy (.inr ⟨e (by first|assumption|exact oc Hy),d (by first|assumption|exact oc Hy)⟩) (c h)⟩|skip
 all_goals have o:x.wait=false\/∀y,y∈cI x.after->dV y:=by first|exact .inl Hy|exact .inr (d (oc Hy))
 all_goals refine az (cS (l:=fr109 x 0) KT rfl) ?_
 all_goals refine aA x.catches.length (λi x' h=>x'=fr109 x i/\h=H0) ?_ (i:=0) (Nat.zero_le _) ⟨rfl,rfl⟩
 all_goals rintro i _ _ hi ⟨rfl,rfl⟩
 repeat' (first
  |(refine WLg.mk ?_;first
  |refine ac ?_|refine av rfl rfl (ce Hy) rfl ?_|refine av rfl rfl (ix2 Hy) rfl ?_|refine ap rfl rfl (gJ (Je Hy) _) rfl ?_|refine au ?_|refine ap rfl rfl (dy Hy rfl) rfl ?_|refine ay (f131 _) ?_|refine ay n ?_|refine ay c41 ?_|refine ay j ?_)|apply ab|refine aj rfl ?_|refine aB rfl rfl ?_|refine aC rfl (λa=>?_) (λa=>?_)|refine bz (t:=138) (λb=>rfl) ?_ (λb=>?_)|apply ae|apply aa|apply ai|apply ak|refine ah rfl (λa=>?_) (λa=>?_)|apply ax|apply am|apply thN|apply thR|apply thE|apply onR|apply onE|exact⟨⟨_,rfl⟩,rfl⟩|fail)
 all_goals first
  |exact .norm ⟨_,_,cS KT rfl,bX Hy,rfl,rfl⟩|exact⟨.inr rfl,_,rfl,.flat rfl,false,rfl,λh=>by cases h⟩|exact⟨.inr rfl,_,rfl,.flat rfl,_,rfl,λh=>Ju Hy o (m Hy) (c Hy) (f h)⟩
set_option maxHeartbeats 4000000 in
theorem Gq(x:Ex)(u:bS (exO x)<s+1):VB 73 [.agg (exO x)] (dV x):=by
 have hz:=dZ x;obtain⟨v,j,t⟩:=f105 x;have l:=f74 t;have y:=t.px;have q:=f40 x.name.size (ck x.name.data.toList) (by omega);have e:=f40 x.text.size (ck x.text.data.toList) (by omega);obtain⟨z,f,i⟩:=f106v x.name.size (ck x.name.data.toList) (by omega);obtain⟨b1,m,p⟩:=R.all x.items (by omega);obtain⟨b2,d,g⟩:=R.segs x.segs (by omega);have b:=f108 x.name.size (ck x.name.data.toList) (Int.ofNat x.items.length);obtain⟨b3,c41,o⟩:=R.cls x.clauses (-1) false (by omega);obtain⟨A,r,n⟩:=R.body x.body (by omega);obtain⟨w,k,c⟩:=Cr R hs x u;refine uF Tryz.func73 (by decide) q73.2 rfl (cg (pxe _) px0) rfl ?_
 repeat' (first
  |(refine WLg.mk ?_;first
  |refine ac ?_|refine au ?_|refine aE ?_|refine ay j ?_|refine ay l ?_|refine ay q ?_|refine ay e ?_|refine ay f ?_|refine ay m ?_|refine ay d ?_|refine ay b ?_|refine ay c41 ?_|refine ay r ?_|refine ay k ?_)|apply ab|refine aj rfl ?_|refine aB rfl rfl ?_|refine aC rfl (λa=>?_) (λa=>?_)|apply ae|apply aa|apply ai|apply ak|refine ah rfl (λa=>?_) (λa=>Nf a)|refine ah rfl (λa=>?_) (λa=>?_)|apply am|apply thN|apply thR|fail)
 all_goals first
  |exact⟨.inr rfl,_,rfl,.flat rfl,false,rfl,λh=>by cases h⟩|exact⟨.inr rfl,_,rfl,.flat rfl,_,rfl,λh=>FW Hy (by decide)⟩|exact⟨.inr rfl,_,rfl,.flat rfl,_,rfl,λh=>Ig Hy (i h)⟩|exact⟨.inr rfl,_,rfl,.flat rfl,_,rfl,λh=>Dx Hy (by decide) (p h)⟩|exact⟨.inr rfl,_,rfl,.flat rfl,_,rfl,λh=>KF Hy (g h)⟩|exact⟨.inr rfl,_,rfl,.flat rfl,_,rfl,λh=>Jy Hy (o h)⟩|exact⟨.inr rfl,_,rfl,.flat rfl,_,rfl,λh=>Jw Hy (n h)⟩|exact⟨.inr rfl,_,rfl,.flat rfl,_,rfl,c⟩
theorem D9(hE:∀x,bS (exO x)<s+1->VB 73 [.agg (exO x)] (dV x))(l:List Ex)(j:bS (exL l)<s+1):VB 54 [.lst l.length 11 (exL l)] (∀y,y∈l->dV y):=by
 have g:=@R;have k:l.length<9223372036854775808:=by have:=dT l;omega
 refine uF Tryz.func54 (by decide) q54.2 rfl (cg (pxE l) px0) rfl ?_
 repeat' (first
  |apply ab|apply ae|apply aa|apply ai|refine ac ?_|apply thN)
 refine az (cS (l:=fr54 l 0) KT rfl) ?_;refine aA l.length (λi x h=>(x=fr54 l i/\∀y,y∈l.take i->dV y)/\h=H0) ?_ (i:=0) (Nat.zero_le _) ⟨⟨rfl,λc hc=>by simp at hc⟩,rfl⟩;rintro i _ _ hi ⟨⟨rfl,seen⟩,rfl⟩;cases q:ltI (Int.ofNat i) (Int.ofNat l.length)with
 |false=>
  have f:i=l.length:=by have:=cC q;omega
  rw [f,List.take_length]at seen
  repeat' (first
   |apply ab|apply ae|apply aa|refine ah rfl (λa=>Nt a) (λa=>?_)|apply ax|apply am|apply thN|apply thE|refine ac ?_|apply onE)
  exact⟨.inr rfl,_,rfl,.flat rfl,true,rfl,λ_=>seen⟩
 |true=>
  obtain⟨b,d,e⟩:=hE (cE l i) (by have:=tJ q;omega);cases b with
  |false=>
   repeat' (first
    |apply ab|apply ae|apply aa|apply ai|apply ak|refine aF rfl ?_|refine ah rfl (λa=>?_) (λa=>Nf a)|apply am|apply thN|apply thR|refine ac ?_|refine av rfl rfl (ce Hy) rfl ?_|refine ap rfl rfl (dF Hy) rfl ?_|refine ay d ?_|apply onR)
   all_goals exact⟨.inr rfl,_,rfl,.flat rfl,false,rfl,λh=>by cases h⟩
  |true=>
   have nx:∀y,y∈l.take (i+1)->dV y:=Ho (cP q) seen (e rfl)
   repeat' (first
    |apply ab|apply ae|apply aa|apply ai|apply ak|refine aD rfl ?_|refine ah rfl (λa=>?_) (λa=>Nf a)|refine ac ?_|refine av rfl rfl (ce Hy) rfl ?_|refine ap rfl rfl (dF Hy) rfl ?_|refine ay d ?_|apply thN)
   all_goals exact .norm ⟨_,_,cS KT rfl,bX q,⟨rfl,nx⟩,rfl⟩
set_option maxHeartbeats 2000000 in
theorem Cs(l:List Sm)(k:bS (smL l)<s+1):VB 55 [.lst l.length 23 (smL l)] (∀y,y∈cI l->dV y):=by
 have f:l.length<9223372036854775808:=by have:=iJ l;omega
 refine uF Tryz.func55 (by decide) q55.2 rfl (cg (pxM l) px0) rfl ?_
 repeat' (first
  |apply ab|apply ae|apply aa|apply ai|refine ac ?_|apply thN)
 refine az (cS (l:=fr55 l 0) KT rfl) ?_;refine aA l.length (λi x h=>(x=fr55 l i/\∀y,y∈cI (l.take i)->dV y)/\h=H0) ?_ (i:=0) (Nat.zero_le _) ⟨⟨rfl,λc hc=>by simp [cI]at hc⟩,rfl⟩;rintro i _ _ hi ⟨⟨rfl,seen⟩,rfl⟩;cases q:ltI (Int.ofNat i) (Int.ofNat l.length)with
 |false=>
  have b:i=l.length:=by have:=cC q;omega
  rw [b,List.take_length]at seen
  repeat' (first
   |apply ab|apply ae|apply aa|refine ah rfl (λa=>Nt a) (λa=>?_)|apply ax|apply am|apply thN|apply thE|refine ac ?_|apply onE)
  exact⟨.inr rfl,_,rfl,.flat rfl,_,rfl,λ_=>seen⟩
 |true=>
  have j:=DP q;have e:=nj (cK l i);obtain⟨b1,c1,h1⟩:=R.ex (cK l i).pat (by omega)
  obtain⟨b2,c2,h2⟩:=R.ex (cK l i).val (by omega);have nx:((cK l i).isMatch=false\/b1=true)->b2=true->∀y,y∈cI (l.take (i+1))->dV y:=λg d=>Dm (cP q) seen (g.imp id h1) (h2 d)
  repeat' (first
   |(refine WLg.mk ?_;first
   |refine ac ?_|refine av rfl rfl (ce Hy) rfl ?_|refine aG (dw q rfl) ?_|refine aG (dv q rfl) ?_|refine aG (jG q rfl) ?_|refine ay c1 ?_|refine ay c2 ?_|refine ay (f74 (pE _)) ?_)|apply ab|refine aj rfl ?_|refine aB rfl rfl ?_|refine aC rfl (λa=>?_) (λa=>?_)|apply ae|apply aa|apply ai|apply ak|refine aF rfl ?_|refine ah rfl (λa=>?_) (λa=>Nf a)|refine ah rfl (λa=>?_) (λa=>?_)|apply am|apply thN|apply thR|apply onR|fail)
  any_goals (first|exact Nt q|skip)
  all_goals first
   |exact⟨.inr rfl,_,rfl,.flat rfl,false,rfl,λh=>by cases h⟩|exact .norm ⟨_,_,cS (by exact .cons rfl (pxM _) (.cons rfl (.flat rfl) (.cons (mG q f) (.flat rfl) .nil))) rfl,bX q,⟨rfl,nx (by first|exact .inl (by with_reducible assumption)|exact .inr (oc (by with_reducible assumption))|exact .inr (by with_reducible assumption)) (by first|with_reducible assumption|exact oc (by with_reducible assumption))⟩,rfl⟩|skip
set_option maxHeartbeats 4000000 in
theorem Cq(l:List Sg)(o:bS (sgL l)<s+1):VB 107 [.lst l.length 27 (sgL l)] (∀y,y∈fX l->dV y):=by
 have j:l.length<9223372036854775808:=by have:=jW l;omega
 refine uF Tryz.func107 (by decide) LK.2 rfl (cg (pxS l) px0) rfl ?_
 repeat' (first
  |apply ab|apply ae|apply aa|apply ai|refine ac ?_|apply thN)
 refine az (cS (l:=fr107 l 0) KT rfl) ?_;refine aA l.length (λi x h=>(x=fr107 l i/\∀y,y∈fX (l.take i)->dV y)/\h=H0) ?_ (i:=0) (Nat.zero_le _) ⟨⟨rfl,λc hc=>by simp [fX]at hc⟩,rfl⟩;rintro i _ _ hi ⟨⟨rfl,seen⟩,rfl⟩;cases q:ltI (Int.ofNat i) (Int.ofNat l.length)with
 |false=>
  have d:i=l.length:=by have:=cC q;omega
  rw [d,List.take_length]at seen
  repeat' (first
   |apply ab|apply ae|apply aa|refine ah rfl (λa=>Nt a) (λa=>?_)|apply ax|apply am|apply thN|apply thE|refine ac ?_|apply onE)
  exact⟨.inr rfl,_,rfl,.flat rfl,_,rfl,λ_=>seen⟩
 |true=>
  have m:=DU q;have g:=lR (cG l i);obtain⟨b1,c1,h1⟩:=R.ex (cG l i).val (by omega);obtain⟨b2,c2,h2⟩:=R.ex (cG l i).size (by omega);obtain⟨n,c5⟩:∃b,CP 130 [sV (cG l i).text] (.bool b):=⟨_,f130 (cG l i).text.size (ck (cG l i).text.data.toList) (by omega)⟩
  obtain⟨b3,c3⟩:∃b,CP 74 [.agg (exO (cG l i).val)] (.bool b):=⟨_,f74 (pE _)⟩
  obtain⟨p,c4⟩:∃b,CP 74 [.agg (exO (cG l i).size)] (.bool b):=⟨_,f74 (pE _)⟩
  have nx:(eqI (cG l i).type 4=true\/b1=true)->((cG l i).sized=false\/b2=true)->∀y,y∈fX (l.take (i+1))->dV y:=λk e=>DX (cP q) seen (k.imp id h1) (e.imp id h2);have f:∀c,c∈sgO (cG l i)->bY c:=λc hc=>(fH _ c hc).x
  repeat' (first
   |(refine WLg.mk ?_;first
   |refine ac ?_|refine av rfl rfl (ce Hy) rfl ?_|refine au ?_|refine ap rfl rfl (fq Hy) rfl ?_|refine aI rfl rfl rfl rfl rfl ?_|refine aS rfl rfl rfl rfl rfl rfl rfl rfl rfl ?_|refine ay c1 ?_|refine ay c2 ?_|refine ay c3 ?_|refine ay c4 ?_|refine ay c5 ?_)|apply ab|refine aj rfl ?_|refine aB rfl rfl ?_|refine aC rfl (λa=>?_) (λa=>Nf a)|refine aC rfl (λa=>Nt a) (λa=>?_)|refine aC rfl (λa=>?_) (λa=>?_)|apply ae|apply aa|apply ai|apply ak|refine aF rfl ?_|refine aD rfl ?_|refine ah rfl (λa=>?_) (λa=>Nf a)|refine ah rfl (λa=>?_) (λa=>?_)|apply ax|apply am|apply thN|apply thR|apply thE|apply onR|fail)
  any_goals (first|exact Nt q|skip)
  all_goals first
   |exact⟨.inr rfl,_,rfl,.flat rfl,false,rfl,λh=>by cases h⟩|exact .norm ⟨_,_,cS (by exact .cons rfl (pxS _) (.cons rfl (.flat rfl) (.cons (mG q j) (.flat rfl) .nil))) rfl,bX q,⟨rfl,nx (by first|exact .inl (by with_reducible assumption)|exact .inr (oc (by with_reducible assumption))|exact .inr (by with_reducible assumption)) (by first|exact .inl (by with_reducible assumption)|exact .inl (J7 (by with_reducible assumption))|exact .inr (oc (by with_reducible assumption))|exact .inr (by with_reducible assumption))⟩,rfl⟩|skip
set_option maxHeartbeats 4000000 in
theorem D8(l:List Cl)(p:Int)(g:Bool)(J:bS (clL l)<s+1):VB 41 [.lst l.length 4 (clL l),.int .i64 p,.bool g] (∀y,y∈clK l->dV y):=by
 have K:l.length<9223372036854775808:=by have:=fR l;omega
 refine uF Tryz.func41 (by decide) q41.2 rfl (cg (pxC l) (cg (.flat rfl) (cg (.flat rfl) px0))) rfl ?_
 repeat' (first
  |apply ab|apply ae|apply aa|apply ai|refine ac ?_|apply thN)
 refine az (cS (l:=fr41 l p g 0) KT rfl) ?_;refine aA l.length (λi x h=>(x=fr41 l p g i/\∀y,y∈clK (l.take i)->dV y)/\h=H0) ?_ (i:=0) (Nat.zero_le _) ⟨⟨rfl,λc hc=>by simp [clK]at hc⟩,rfl⟩;rintro i _ _ hi ⟨⟨rfl,seen⟩,rfl⟩;cases q:ltI (Int.ofNat i) (Int.ofNat l.length)with
 |false=>
  have w:i=l.length:=by have:=cC q;omega
  rw [w,List.take_length]at seen
  repeat' (first
   |apply ab|apply ae|apply aa|refine ah rfl (λa=>Nt a) (λa=>?_)|apply ax|apply am|apply thN|apply thE|refine ac ?_|apply onE)
  exact⟨.inr rfl,_,rfl,.flat rfl,true,rfl,λ_=>seen⟩
 |true=>
  have u:=bX q;have G:=oh q;have C:=gM (bV l i);have B:=j0 (bV l i).guards;have A:(bV l i).guards.length<9223372036854775808:=by omega
  obtain⟨b0,f⟩:∃b,CP 40 [sV (bV l i).name] (.bool b):=⟨_,f40 (bV l i).name.size (ck (bV l i).name.data.toList) (by omega)⟩
  obtain⟨b1,e,v⟩:=R.all (bV l i).pats (by omega);obtain⟨b2,n,r⟩:=R.body (bV l i).body (by omega);have E:∀c,c∈clO (bV l i)->bY c:=λc hc=>(hO _ c hc).x;cases b1 with
  |false=>
   repeat' (first
    |(refine WLg.mk ?_;first
    |refine ac ?_|refine av rfl rfl (ce Hy) rfl ?_|refine au ?_|refine ap rfl rfl (eV Hy) rfl ?_|refine aI rfl rfl rfl rfl rfl ?_|refine aS rfl rfl rfl rfl rfl rfl rfl rfl rfl ?_|refine ay f ?_|refine ay e ?_)|apply ab|refine aj rfl ?_|refine aB rfl rfl ?_|refine aC rfl (λa=>?_) (λa=>?_)|apply ae|apply aa|apply ai|apply ak|refine aF rfl ?_|refine ah rfl (λa=>?_) (λa=>Nf a)|apply am|apply thN|apply thR|apply onR|fail)
   all_goals exact⟨.inr rfl,_,rfl,.flat rfl,false,rfl,λh=>by cases h⟩
  |true=>
  cases b2 with
  |false=>
   repeat' (first
    |(refine WLg.mk ?_;first
    |refine ac ?_|refine av rfl rfl (ce Hy) rfl ?_|refine au ?_|refine ap rfl rfl (eV Hy) rfl ?_|refine aI rfl rfl rfl rfl rfl ?_|refine aS rfl rfl rfl rfl rfl rfl rfl rfl rfl ?_|refine ay f ?_|refine ay e ?_|refine ay n ?_)|apply ab|refine aj rfl ?_|refine aB rfl rfl ?_|refine aC rfl (λa=>?_) (λa=>?_)|apply ae|apply aa|apply ai|apply ak|refine aF rfl ?_|refine ah rfl (λa=>?_) (λa=>Nf a)|apply am|apply thN|apply thR|apply onR|fail)
   all_goals exact⟨.inr rfl,_,rfl,.flat rfl,false,rfl,λh=>by cases h⟩
  |true=>
  have nx:(∀y,y∈gdK (bV l i).guards->dV y)->∀y,y∈clK (l.take (i+1))->dV y:=λk=>He (cP q) seen (v rfl) k (r rfl)
  repeat' (first
   |(refine WLg.mk ?_;first
   |refine ac ?_|refine av rfl rfl (ce Hy) rfl ?_|refine au ?_|refine ap rfl rfl (eV Hy) rfl ?_|refine aI rfl rfl rfl rfl rfl ?_|refine aS rfl rfl rfl rfl rfl rfl rfl rfl rfl ?_|refine ay f ?_|refine ay e ?_|refine ay n ?_)|apply ab|refine aj rfl ?_|refine aB rfl rfl ?_|refine aC rfl (λa=>?_) (λa=>?_)|refine bz (t:=58) (λb=>rfl) ?_ (λb=>?_)|apply ae|apply aa|apply ai|apply ak|refine ah rfl (λa=>?_) (λa=>Nf a)|refine ah rfl (λa=>?_) (λa=>?_)|apply am|apply thN|apply thR|apply onR|exact⟨⟨_,rfl⟩,rfl⟩|fail)
  ·exact⟨.inr rfl,_,rfl,.flat rfl,false,rfl,λh=>by cases h⟩
  refine az (HE (k:=1) (cs:=clO (bV l i)) (l:=fr41' l p g i 0) (by repeat' (first|exact .nil|refine .fz rfl ?_|refine .cons rfl ?_ ?_|refine .cons (mG Hy Hy) ?_ ?_|exact .flat rfl|exact pxE _|exact pxS _|exact pxC _|exact pxM _|exact pxG _|exact pxL _|exact pxe _|exact pxq _|exact pxqs _|exact II _|exact pxqm _|exact pxs _|exact pxc _|exact pxm _|assumption)) rfl rfl rfl (by first|exact λc hc=>(dQ _ c hc).x|exact λc hc=>(fH _ c hc).x|exact λc hc=>(hO _ c hc).x|exact λc hc=>(ko _ c hc).x) rfl) ?_;refine aA (bV l i).guards.length (λk x h=>(x=fr41' l p g i k/\∀y,y∈gdK ((bV l i).guards.take k)->dV y)/\h=H0) ?_ (i:=0) (Nat.zero_le _) ⟨⟨rfl,λc hc=>by simp [gdK]at hc⟩,rfl⟩;rintro k _ _ I ⟨⟨rfl,gs⟩,rfl⟩;cases o:ltI (Int.ofNat k) (Int.ofNat (bV l i).guards.length)with
  |false=>
   have z:k=(bV l i).guards.length:=by have:=cC o;omega
   rw [z,List.take_length]at gs
   repeat' (first
    |apply ab|apply ae|apply aa|refine ah rfl (λa=>Nt a) (λa=>?_)|apply ax|apply thN|apply thE|refine ac ?_|refine au ?_|apply onE)
   all_goals exact .norm ⟨_,_,cS KT rfl,u,⟨rfl,nx gs⟩,rfl⟩
  |true=>
   have D:=tq o;obtain⟨b3,d,m⟩:=R.all (dm (bV l i).guards k) (by omega);cases b3 with
   |false=>
    repeat' (first
     |(refine WLg.mk ?_;first
     |refine ac ?_|refine av rfl rfl (ce Hy) rfl ?_|refine au ?_|refine ap rfl rfl (dY (j:=0) (nD Hy) rfl _) rfl ?_|refine ay d ?_)|apply ab|refine aj rfl ?_|refine aB rfl rfl ?_|refine aC rfl (λa=>?_) (λa=>?_)|apply ae|apply aa|apply ai|apply ak|refine aF rfl ?_|refine ah rfl (λa=>?_) (λa=>Nf a)|apply am|apply thN|apply thR|apply onR|fail)
    all_goals exact⟨.inr rfl,_,rfl,.flat rfl,false,rfl,λh=>by cases h⟩
   |true=>
    have F:∀y,y∈gdK ((bV l i).guards.take (k+1))->dV y:=GW (cP o) gs (m rfl)
    repeat' (first
     |(refine WLg.mk ?_;first
     |refine ac ?_|refine av rfl rfl (ce Hy) rfl ?_|refine au ?_|refine ap rfl rfl (dY (j:=0) (nD Hy) rfl _) rfl ?_|refine ay d ?_)|apply ab|refine aj rfl ?_|refine aB rfl rfl ?_|refine aC rfl (λa=>?_) (λa=>?_)|apply ae|apply aa|apply ai|apply ak|refine aF rfl ?_|refine aD rfl ?_|refine ah rfl (λa=>?_) (λa=>Nf a)|apply am|apply thN|apply thR|apply onR|fail)
    all_goals first
     |exact⟨.inr rfl,_,rfl,.flat rfl,false,rfl,λh=>by cases h⟩|exact .norm ⟨_,_,cS KT rfl,bX o,⟨rfl,F⟩,rfl⟩
end
theorem vQ:∀s,s<9223372036854775807->KD s
 |0,_=>⟨λ_ h=>absurd h (by omega),λ_ h=>absurd h (by omega),λ_ h=>absurd h (by omega),λ_ _ _ h=>absurd h (by omega),λ_ h=>absurd h (by omega)⟩
 |s+1,hs=>by
  have R:=vQ s (by omega);have hE:=Gq R (by omega);exact⟨hE,D9 R (by omega) hE,Cs R (by omega),D8 R (by omega),Cq R (by omega)⟩
end
section
theorem oU{a b:Nat}(h:a+b<9223372036854775808):dA .i64 (Int.add (Int.ofNat a) (Int.ofNat b))=Int.ofNat (a+b):=by
 show(Bool.rec (motive:=λ_=>Int) (lL .i64 (Nat.mod (a+b) (iL .i64))) (Int.ofNat (a+b)) (Nat.blt (a+b) (jI .i64)):Int)=Int.ofNat (a+b)
 rw [show Nat.blt (a+b) (jI .i64)=true by simp [Nat.blt,jI];omega]
theorem zM{a b:Nat}(h:a+b<9223372036854775808):some (V.int .i64 (dA .i64 (Int.add (Int.ofNat a) (Int.ofNat b))))=some (V.int .i64 (Int.ofNat (a+b))):=by rw [oU h]
theorem nP{l:List Ex}{i:Nat}(h:i<l.length):l.take (i+1)=l.take i++[cE l i]:=by
 have:=cP (d:=ex0) (ltb h);rw [List.take_add_one,this];rfl
theorem ls(l:List Ex)(i:Nat):bS (exL (l.take i))<=bS (exL l):=jV (by rw [exL]) cV l i
theorem jy{l:List Ex}{i:Nat}(h:i<l.length):cE l i∈l:=jf (d:=ex0) (ltb h)
noncomputable section
def fr25(l:List Ex)(a i:Nat):AL:=[(0,.lst l.length 11 (exL l)),(3,.int .i64 (Int.ofNat a)),(4,.int .i64 (Int.ofNat i))]
end
structure Rc(s:Nat):Prop where
 many:∀l,bS (exL l)<s->CP 25 [.lst l.length 11 (exL l)] (.int .i64 (Int.ofNat (l.map cnt).sum))
 count:∀x,bS (exO x)<s->CP 43 [.agg (exO x)] (.int .i64 (Int.ofNat (cnt x)))
theorem xN{s:Nat}(R:Rc s)(hs:s<=6000000)(x:Ex)(d:bS (exO x)<s+1):CP 43 [.agg (exO x)] (.int .i64 (Int.ofNat (cnt x))):=by
 refine cR Tryz.func43 (by decide) q43.2 rfl (cg (pxe x) px0) rfl ?_;have b:=jF x;have a:=f44 x (by omega);have c25:=R.many (parts x) (by omega);have hc:=Fr x;have c:=wH x
 repeat' (first
  |apply ab|apply ae|apply aa|apply am|refine ac ?_|refine au ?_|refine aE ?_|refine ay a ?_|refine ay c25 ?_|apply thN)
 refine⟨.inr rfl,_,rfl,.flat rfl,?_⟩;have:=@oU ((parts x).map cnt).sum 1 (by omega);rw [hc,Nat.add_comm 1];exact congrArg (V.int .i64) this
set_option maxHeartbeats 2000000 in
theorem Gt{s:Nat}(hc:∀x,bS (exO x)<s+1->CP 43 [.agg (exO x)] (.int .i64 (Int.ofNat (cnt x))))(hs:s<=6000000)(l:List Ex)(e:bS (exL l)<s+1):CP 25 [.lst l.length 11 (exL l)] (.int .i64 (Int.ofNat (l.map cnt).sum)):=by
 refine cR Tryz.func25 (by decide) q25.2 rfl (cg (pxE l) px0) rfl ?_;have d:=dT l
 repeat' (first
  |apply ab|apply ae|apply aa|apply ai|refine ac ?_|apply thN)
 refine az (cS (l:=fr25 l 0 0) KT rfl) ?_;refine aA l.length (λi x h=>x=fr25 l ((l.take i).map cnt).sum i/\h=H0) ?_ (i:=0) (Nat.zero_le _) ⟨rfl,rfl⟩;rintro i _ _ hi ⟨rfl,rfl⟩;have hi2:i<9223372036854775807:=by omega
 have c43:i<l.length->CP 43 [.agg (exO (cE l i))] (.int .i64 (Int.ofNat (cnt (cE l i)))):=λh=>hc _ (by have:=jo (jy h);omega)
 repeat' (first
  |apply ab|apply ae|apply aa|apply ai|apply ak|refine ah rfl (λb=>?_) (λb=>?_)|apply ax|apply am|apply thN|apply thE|refine ac ?_|refine av rfl rfl (ce Hy) rfl ?_|refine ap rfl rfl (dF Hy) rfl ?_|refine aL rfl rfl rfl (c43 (bX Hy)) rfl ?_|apply onE)
 ·have a:=bX b
  have h1:((l.take i).map cnt).sum+cnt (cE l i)<9223372036854775808:=by
   have:=lG (f:=cnt) (l:=l.take i) λy _=>wH y;have:=ls l i;have:=wH (cE l i);have:=jo (jy a);omega
  refine .norm ⟨_,_,cS (l:=fr25 l (((l.take i).map cnt).sum+cnt (cE l i)) (i+1)) (.cons rfl (pxE l) (.cons (zM h1) (.flat rfl) (.cons (dj hi2) (.flat rfl) .nil))) rfl,a,?_,rfl⟩;rw [nP a,List.map_append,List.sum_append];simp [fr25]
 ·have c:i=l.length:=by have:=cC b;omega
  refine⟨.inr rfl,_,rfl,.flat rfl,?_⟩;rw [c,List.take_length];rfl
theorem Eb:∀s,s<=6000001->Rc s
 |0,_=>⟨λ_ h=>absurd h (by omega),λ_ h=>absurd h (by omega)⟩
 |s+1,hs=>⟨λl hl=>Gt (λx hx=>xN (Eb s (by omega)) (by omega) x hx) (by omega) l hl,λx hx=>xN (Eb s (by omega)) (by omega) x hx⟩
theorem f25(l:List Ex)(hl:bS (exL l)<=6000000):CP 25 [.lst l.length 11 (exL l)] (.int .i64 (Int.ofNat (l.map cnt).sum)):=(Eb 6000001 (Nat.le_refl _)).many l (by omega)
noncomputable section
def fr27(x:Ex)(a i:Nat):AL:=[(3,.int .i64 (Int.ofNat a)),(4,.lst (parts x).length 11 (exL (parts x))),(5,.int .i64 (Int.ofNat i))]
end
theorem Ez(a b:Nat):POp.run .maxs [.int .i64 (Int.ofNat a),.int .i64 (Int.ofNat b)]=some (.int .i64 (Int.ofNat (max a b))):=by
 show ob (some (V.int .i64 (Bool.rec (motive:=λ_=>Int) (Int.ofNat a) (Int.ofNat b) (ltI (Int.ofNat a) (Int.ofNat b))))) some=_;show some (V.int .i64 (Bool.rec (motive:=λ_=>Int) (Int.ofNat a) (Int.ofNat b) (Nat.blt a b)))=_
 by_cases h:a<b
 ·rw [ltb h,Nat.max_eq_right (Nat.le_of_lt h)]
 ·rw [LT h,Nat.max_eq_left (by omega)]
set_option maxHeartbeats 2000000 in
theorem f27:∀s,s<=6000001->∀x,bS (exO x)<s->CP 27 [.agg (exO x)] (.int .i64 (Int.ofNat (dep x)))
 |0,_,_,h=>absurd h (by omega)
 |s+1,hs,x,hx=>by
  have ih:=f27 s (by omega);refine cR Tryz.func27 (by decide) q27.2 rfl (cg (pxe x) px0) rfl ?_;have hp:=jF x;have c44:=f44 x (by omega);have hn:=dT (parts x)
  repeat' (first
   |apply ab|apply ae|apply aa|apply ai|refine ac ?_|refine au ?_|refine aE ?_|refine ay c44 ?_|apply thN)
  refine az (cS (l:=fr27 x 0 0) KT rfl) ?_;refine aA (parts x).length (λi y h=>y=fr27 x (((parts x).take i).map dep |>.foldl max 0) i/\h=H0) ?_ (i:=0) (Nat.zero_le _) ⟨rfl,rfl⟩;rintro i _ _ hi ⟨rfl,rfl⟩;have hi2:i<9223372036854775807:=by omega
  have d:i<(parts x).length->CP 27 [.agg (exO (cE (parts x) i))] (.int .i64 (Int.ofNat (dep (cE (parts x) i)))):=λh=>ih _ (by have:=jo (jy h);omega)
  repeat' (first
   |apply ab|apply ae|apply aa|apply ai|apply ak|refine ah rfl (λc=>?_) (λc=>?_)|apply ax|apply am|apply thN|apply thE|refine bE (Ez _ _) ?_|refine ac ?_|refine av rfl rfl (ce Hy) rfl ?_|refine ap rfl rfl (dF Hy) rfl ?_|refine aL rfl rfl rfl (d (bX Hy)) rfl ?_|apply onE)
  ·have a:=bX c
   refine .norm ⟨_,_,cS (l:=fr27 x (max (((parts x).take i).map dep |>.foldl max 0) (dep (cE (parts x) i))) (i+1)) (.cons rfl (.flat rfl) (.cons rfl (pxE _) (.cons (dj hi2) (.flat rfl) .nil))) rfl,a,?_,rfl⟩;rw [nP a,List.map_append,List.foldl_append];rfl
  ·have b:i=(parts x).length:=by have:=cC c;omega
   refine⟨.inr rfl,_,rfl,.flat rfl,?_⟩;rw [b,List.take_length];have hd:=Fh x;have e:=Ji x;have:=@oU (((parts x).map dep).foldl max 0) 1 (by omega);rw [hd,Nat.add_comm 1];exact congrArg (V.int .i64) this
def eJ(x:Ex):List Ex:=(if x.kind=13 then [x]else [])++((parts x).attach.map λy=>eJ y.1).flatten
termination_by bS (exO x)
decreasing_by exact l9 y.2
theorem tz(x:Ex):eJ x=(if x.kind=13 then [x]else [])++((parts x).map eJ).flatten:=by
 rw [eJ,List.attach_map_val (l:=parts x) (f:=eJ)]
theorem pN{f:Ex->List Ex}:∀{l:List Ex},(∀y,y∈l->(f y).length<=bS (exO y))->(l.map f).flatten.length<=bS (exL l)
 |[],_=>by simp
 |a ::l,h=>by
  have h1:=h a List.mem_cons_self;have h2:=pN (l:=l) λy hy=>h y (List.mem_cons_of_mem _ hy);rw [cV,cy,List.map_cons,List.flatten_cons,List.length_append];omega
theorem kG(x:Ex):(eJ x).length<=bS (exO x):=by
 have key:∀n (x:Ex),bS (exO x)<=n->(eJ x).length<=bS (exO x):=by
  intro n
  induction n with
  |zero=>intro x h;have:=iM x;omega
  |succ n ih=>
   intro x h;rw [tz];have:=pN (f:=eJ) (l:=parts x) λy a=>ih y (by have:=l9 a;omega);have:=jF x;rw [List.length_append]
   split
   ·simp only [List.length_cons,List.length_nil];omega
   ·simp only [List.length_nil];omega
 exact key _ x (Nat.le_refl _)
noncomputable section
def fr26(x:Ex)(xs:List Ex)(i:Nat):AL:=[(3,oA xs),(4,.lst (parts x).length 11 (exL (parts x))),(5,.int .i64 (Int.ofNat i))]
def fr28(x:Ex)(i:Nat):AL:=[(4,.lst (parts x).length 11 (exL (parts x))),(5,.int .i64 (Int.ofNat i))]
end
set_option maxHeartbeats 4000000 in
theorem f26:∀s,s<=6000001->∀x,bS (exO x)<s->CP 26 [.agg (exO x)] (.lst (eJ x).length 11 (exL (eJ x)))
 |0,_,_,h=>absurd h (by omega)
 |s+1,hs,x,hx=>by
  have ih:=f26 s (by omega);obtain⟨xs,rfl,c⟩:∃xs,xs=eJ x/\CP 26 [.agg (exO x)] (.lst xs.length 11 (exL xs)):=by
   refine pR Tryz.func26 (by decide) q26.2 rfl (cg (pxe x) px0) rfl rfl ?_;have p:=jF x;have n:=f44 x (by omega);have o:=dT (parts x)
   repeat' (first
    |apply ab|apply ae|apply aa|apply ai|apply ak|refine ah rfl (λe=>?_) (λe=>?_)|refine ac ?_|refine au ?_|refine aX (cs:=exO x++[]) rfl rfl rfl rfl rfl rfl (j6 x) rfl ?_|refine aE ?_|refine ay n ?_|refine bF (xs:=[]) (y:=x) rfl rfl (by decide) KP KP rfl ?_|apply thN)
   ·have k:(if x.kind=13 then [x]else [])=[]++[x]:=by rw [if_pos (iF e)];rfl
    refine az (cA (l:=fr26 x ([]++[x]) 0) KH) ?_;refine aA (parts x).length (λi y h=>∃xs,xs=([]++[x])++(((parts x).take i).map eJ).flatten/\y=fr26 x xs i/\h=HA xs) ?_ (i:=0) (Nat.zero_le _) ⟨_,by simp,rfl,rfl⟩;rintro i _ _ hi ⟨xs,a,rfl,rfl⟩;have hi2:i<9223372036854775807:=by omega
    have m:xs.length<=6000000:=by
     have h1:=pN (f:=eJ) (l:=(parts x).take i) λy _=>kG y;have h2:=ls (parts x) i;rw [a,List.length_append];simp only [List.length_append,List.length_cons,List.length_nil];omega
    have g:i<(parts x).length->xs.length+(eJ (cE (parts x) i)).length<=50000000:=λh=>by have:=jo (jy h);have:=kG (cE (parts x) i);omega
    have d:i<(parts x).length->CP 26 [.agg (exO (cE (parts x) i))] (.lst (eJ (cE (parts x) i)).length 11 (exL (eJ (cE (parts x) i)))):=λh=>ih _ (by have:=jo (jy h);omega)
    repeat' (first
     |apply ab|apply ae|apply aa|apply ai|apply ak|refine ah rfl (λe=>?_) (λe=>?_)|apply ax|apply am|apply thN|apply thE|refine ac ?_|refine av rfl rfl (ce Hy) rfl ?_|refine ap rfl rfl (dF Hy) rfl ?_|refine aL rfl rfl rfl (d (bX Hy)) rfl ?_|refine aZ (ys:=eJ (cE (parts x) i)) rfl rfl (g (bX Hy)) KP KP rfl ?_|apply onE)
    ·have b:=bX (by assumption:ltI (Int.ofNat i) (Int.ofNat (parts x).length)=true)
     exact .norm ⟨_,_,cA KH,b,_,by rw [nP b,List.map_append,List.flatten_append,a];simp,rfl,rfl⟩
    ·have j:i=(parts x).length:=by have:=cC (by assumption:ltI (Int.ofNat i) (Int.ofNat (parts x).length)=false);omega
     exact⟨.inr rfl,_,by rw [tz,k,a,j,List.take_length],rfl,rfl,by omega⟩
   ·have k:(if x.kind=13 then [x]else [])=[]:=by rw [if_neg (vq e)]
    refine az (cA (l:=fr26 x ([]) 0) KH) ?_;refine aA (parts x).length (λi y h=>∃xs,xs=([])++(((parts x).take i).map eJ).flatten/\y=fr26 x xs i/\h=HA xs) ?_ (i:=0) (Nat.zero_le _) ⟨_,by simp,rfl,rfl⟩;rintro i _ _ hi ⟨xs,a,rfl,rfl⟩;have hi2:i<9223372036854775807:=by omega
    have m:xs.length<=6000000:=by
     have h1:=pN (f:=eJ) (l:=(parts x).take i) λy _=>kG y;have h2:=ls (parts x) i;rw [a,List.length_append];simp only [List.length_nil];omega
    have g:i<(parts x).length->xs.length+(eJ (cE (parts x) i)).length<=50000000:=λh=>by have:=jo (jy h);have:=kG (cE (parts x) i);omega
    have d:i<(parts x).length->CP 26 [.agg (exO (cE (parts x) i))] (.lst (eJ (cE (parts x) i)).length 11 (exL (eJ (cE (parts x) i)))):=λh=>ih _ (by have:=jo (jy h);omega)
    repeat' (first
     |apply ab|apply ae|apply aa|apply ai|apply ak|refine ah rfl (λe=>?_) (λe=>?_)|apply ax|apply am|apply thN|apply thE|refine ac ?_|refine av rfl rfl (ce Hy) rfl ?_|refine ap rfl rfl (dF Hy) rfl ?_|refine aL rfl rfl rfl (d (bX Hy)) rfl ?_|refine aZ (ys:=eJ (cE (parts x) i)) rfl rfl (g (bX Hy)) KP KP rfl ?_|apply onE)
    ·have b:=bX (by assumption:ltI (Int.ofNat i) (Int.ofNat (parts x).length)=true)
     exact .norm ⟨_,_,cA KH,b,_,by rw [nP b,List.map_append,List.flatten_append,a];simp,rfl,rfl⟩
    ·have j:i=(parts x).length:=by have:=cC (by assumption:ltI (Int.ofNat i) (Int.ofNat (parts x).length)=false);omega
     exact⟨.inr rfl,_,by rw [tz,k,a,j,List.take_length],rfl,rfl,by omega⟩
  exact c
set_option maxHeartbeats 4000000 in
theorem f28:∀s,s<=6000001->∀x,bS (exO x)<s->jj 28 [.agg (exO x)]
 |0,_,_,h=>absurd h (by omega)
 |s+1,hs,x,hx=>by
  have ih:=f28 s (by omega);refine eS Tryz.func28 (by decide) q28.2 rfl (cg (pxe x) px0) rfl ?_;have hp:=jF x;have hsz:=dZ x;have c44:=f44 x (by omega);have hn:=dT (parts x);have g1:=f24 x.clauses (by have:=fR x.clauses;omega);have g2:=f24 x.catches (by have:=fR x.catches;omega)
  repeat' (first
   |(refine WLg.mk ?_;first
   |refine ac ?_|refine au ?_|refine aE ?_|refine ay c44 ?_|refine ay g1 ?_|refine ay g2 ?_)|apply ab|refine aj rfl ?_|refine aB rfl rfl ?_|refine aC rfl (λht=>?_) (λht=>?_)|refine bz (t:=46) (λb=>rfl) ?_ (λb=>?_)|apply ae|apply aa|apply ai|apply ak|refine ah rfl (λht=>?_) (λht=>?_)|apply am|apply thN|apply thR|exact⟨⟨_,rfl⟩,rfl⟩|exact⟨.inr rfl,_,rfl,.flat rfl,_,rfl⟩|fail)
  all_goals (
   refine az (cS (l:=fr28 x 0) KT rfl) ?_;refine aA (parts x).length (λi y h=>y=fr28 x i/\h=H0) ?_ (i:=0) (Nat.zero_le _) ⟨rfl,rfl⟩;rintro i _ _ hi ⟨rfl,rfl⟩;have hi2:i<9223372036854775807:=by omega
   have c28:i<(parts x).length->jj 28 [.agg (exO (cE (parts x) i))]:=λh=>ih _ (by have:=jo (jy h);omega)
   repeat' (first
    |apply ab|apply ae|apply aa|apply ai|apply ak|refine ah rfl (λht=>?_) (λht=>?_)|apply ax|apply am|apply thN|apply thR|apply thE|apply onR|apply onE|refine ac ?_|refine av rfl rfl (ce Hy) rfl ?_|refine ap rfl rfl (dF Hy) rfl ?_|refine aL rfl rfl rfl (c28 (bX Hy)) rfl ?_|exact⟨.inr rfl,_,rfl,.flat rfl,_,rfl⟩|fail)
   all_goals exact .norm ⟨_,_,cS KI rfl,bX Hy,rfl,rfl⟩)
end
end Ev
end Go.Proofs.YtdfphfdnoobikaaGreatDoor
