/-
  Views of a way;calls in a small part of the memory.
-/
import Derived.Test.YtdfphfdnoobikaaGreatDoorEvFill
import Derived.Test.YtdfphfdnoobikaaGreatDoorEvExec
namespace Go.Proofs.YtdfphfdnoobikaaGreatDoor
namespace Ev
section
section
variable {P:Program} {T:Ty}
def FrN(U:Nat->Prop)(ρ:Nat->Nat)(Z:Nat->Option (List V))(f' f:F):Prop:=
 (∀p,p∈f'.loc->∃v,lk f.loc p.1=some v/\Rn U ρ Z p.2 v)/\∀p,p∈f'.tmp->∃v,lk f.tmp p.1=some v/\Rn U ρ Z p.2 v
theorem Vw.view{K:Nat->Prop}{h1:H}{l:List (Option Blk)}{ρ:Nat->Nat}{Z:Nat->Option (List V)}(V:Vw T h1 l ρ Z)(fix:∀id,K id->cL l id/\ρ id=id)(hZ:(∀k,Z k=none)\/Pn T K){f1 f':F}(hf:FrN (cL l) ρ Z f' f1):fG T K f1 h1 f' (g8 l):=by
 intro m N E0 g0 w0 E g w tmps s fr;obtain⟨E',g',hE,hn,hE0,s',hg,hno,tr⟩:=V.sit s.sit;have rng:∀id b o z,g' id=some (b,o,z)->∃i o' z',g i=some (b,o',z'):=λid b o z e=>by
  by_cases h:cL l id
  ·rw [hg id h]at e;exact⟨_,_,_,e⟩
  ·rw [hno id h]at e;cases e
 refine⟨E',g',⟨s',E0.le_trans s.envl hE,λb c e=>?_,λid x hk e=>?_,s.size,s.keep,λid b o z e=>?_,s.pin,s.os,s.tape,s.output⟩,⟨fr.1,λt v e=>?_⟩,rng⟩
 ·rcases hZ with hZ|hZ
  ·rw [hE0 hZ]at e
   exact s.envn b c e
  rcases hn b c e with k | ⟨id,o,z,k⟩
  ·exact s.envn b c k
  ·rcases s.inv id b o z k with q | ⟨i,o',z',q⟩
   ·exact .inr (.inl q)
   ·exact .inr (.inr ⟨hZ,i,o',z',q⟩)
 ·obtain⟨q1,q2⟩:=fix id hk
  rw [hg id q1,q2];exact s.fix id x hk e
 ·obtain⟨i,o',z',q⟩:=rng id b o z e
  exact s.inv i b o' z' q
 ·unfold rdn at e
  split at e
  ·rename_i hb
   obtain⟨v0,k1,k2⟩:=hf.1 _ (@ky noE _ _ _ e);obtain⟨u,q1,q2⟩:=fr.2 t v0 (by unfold rdn;rw [if_pos hb];exact k1);exact⟨u,q1,tr _ _ _ k2 q2⟩
  ·rename_i hb
   obtain⟨v0,k1,k2⟩:=hf.2 _ (@ky noE _ _ _ e);obtain⟨u,q1,q2⟩:=fr.2 t v0 (by unfold rdn;rw [if_neg hb];exact k1);exact⟨u,q1,tr _ _ _ k2 q2⟩
def pr(P:Program)(T:Ty)(K:Nat->Prop)(f:FuncId)(hs:H)(vs:List V)(hs':H)(v:V):Prop:=
 ∀E g w us,Sit T E g hs w->@VRs E g vs us->∃fn,P.funcs[f]? =some fn/\fn.name≠ "runtime.NumGoroutine"/\fn.body.isNone=false/\
  CallsIn Fence.wide 0 P f us.toArray w λe w'=>∃E' g' u,e= .returned u/\@VR E' g' v u/\Sx T K E g w E' g' hs' w'
def Loc(T:Ty)(K M:Nat->Prop)(hs hs':H)(vs:List V)(v:V)(h h':H)(VS:List V)(vr:V):Prop:=
 ∀E g w us,Sit T E g h w->@VRs E g VS us->∃gs,Sit T E gs hs w/\@VRs E gs vs us/\∀E' gs' w' u,Sx T K E gs w E' gs' hs' w'->@VR E' gs' v u->∃g',fT T M E g h w E' g' h' w'/\@VR E' g' vr u
theorem pr.con{K M:Nat->Prop}{f:FuncId}{hs hs':H}{vs:List V}{v:V}(c:pr P T K f hs vs hs' v){h h':H}{VS:List V}{vr:V}(L:Loc T K M hs hs' vs v h h' VS vr):Con P T M f VS h vr h':=by
 refine⟨λE g w us s hu=>?_⟩;obtain⟨gs,s0,hu0,back⟩:=L E g w us s hu;obtain⟨fn,k1,k2,k3,k4⟩:=c E gs w us s0 hu0;refine⟨fn,k1,k2,k3,k4.mono ?_⟩;rintro e w' ⟨E',gs',u,rfl,m1,m2⟩;obtain⟨g',n1,n2⟩:=back E' gs' w' u m2 m1;exact⟨E',g',u,rfl,n2,n1⟩
theorem Sx.put{K:Nat->Prop}{E0 E:En}{g0 g:G}{w0:World}{h:H}{w:World}(s:Sx T K E0 g0 w0 E g h w){r:Nat}(o:Obj)(h1:w0.heap.size<=r)(h2:∀id o z,g id≠some (r,o,z))(h3:w.heap[r]? =some (.deferred (some []))):Sx T K E0 g0 w0 E g h (w.putObj r o):=by
 have hne:∀{id b o z},g id=some (b,o,z)->b≠r:=λhg e=>h2 _ _ _ (e▸hg);have wr:=s.sit.wr;have r':@WR E T g h (w.putObj r o):=by
  cases wr with
  |mk a b c d e f k x=>
   refine @WR.mk E T g h (w.putObj r o) a b c (λid b o' z q=>by rw [World.putObj_size];exact d _ _ _ _ q) (λid y b e1 e2=>?_) f k x;obtain⟨b',o',z⟩:=y;exact @BR.move E _ _ _ _ _ _ _ _ _ e1 (World.putObj_heap_other (hne e1)) (e _ _ _ e1 e2)
 refine⟨Sit.mk' r' s.sit.pin λb c e=>?_,s.envl,s.envn,s.fix,by rw [World.putObj_size];exact s.size,λb hb hn=>?_,s.inv,λp hp=>?_,s.os,s.tape,s.output⟩
 ·obtain⟨⟨t,k1⟩,k2⟩:=s.sit.env e
  refine⟨⟨t,?_⟩,k2⟩;rw [World.putObj_heap_other (λe=>by rw [e,h3]at k1;cases k1)];exact k1
 ·rw [World.putObj_heap_other (by omega)]
  exact s.keep b hb hn
 ·obtain⟨⟨z,k⟩,_⟩:=s.sit.pin p hp
  rw [World.putObj_heap_other (hne k)];exact s.pin p hp
theorem sx{K:Nat->Prop}{fn:Func}{tmps:Array Value}{E0 E:En}{g0 g:G}{h:H}{w0:World}{R:Ending->World->Prop}(hR:∀w,Sx T K E0 g0 w0 E g h w->∃u,(results fn tmps).run P w= .ok u w/\R (.returned u) w):∀{rs:List Nat} {w:World},rs.Nodup->(∀r∈rs,w0.heap.size<=r/\r<w.heap.size/\(∀id o z,g id≠some (r,o,z))/\w.heap[r]? =some (.deferred (some [])))->
  Sx T K E0 g0 w0 E g h w->LeavesInM Fence.wide 0 P fn tmps R (rs.map kY) .returning w
 |[],w,_,_,x=>by
  obtain⟨u,h1,h2⟩:=hR w x;exact⟨u,h1,h2⟩
 |r ::rs,w,hn,hm,x=>by
  rw [List.nodup_cons]at hn;obtain⟨k1,k2,k3,k4⟩:=hm r List.mem_cons_self;refine⟨(λe=>by cases e),.inl ⟨r,_,rfl,run_takeDeferred k4,sx hR hn.2 (λs hs=>?_) (x.put _ k1 k3 k4)⟩⟩;obtain⟨q1,q2,q3,q4⟩:=hm s (List.mem_cons_of_mem _ hs);have hne:s≠r:=λe=>hn.1 (e▸hs);exact⟨q1,by rw [World.putObj_size];exact q2,q3,by rw [World.putObj_heap_other hne];exact q4⟩
theorem gN(hT:cN P T) {call:cB} (hk:∀E:En,@dX E P T call) (hm:P.follows .mixedOrders=true) {n:Nat} {f:FuncId} {fn:Func} {cf:CF} {K:Nat->Prop} {hs hs':H} (hfn:P.funcs[f]? =some fn) (hnm:fn.name≠ "runtime.NumGoroutine") (hcf:bQ T fn=some cf)
  {vs:List V} {x:X} {f1:F} {l:List V} (hlen:vs.length=cf.params) (hr:Way P T K call n cf.code ⟨dG vs 0,[]⟩ hs x f1 hs') (hx:x= .norm\/x= .ret) (hl:gf f1 hs' cf.results=some l):pr P T K f hs vs hs' (cQ l):=by
 intro E gs w us s0 hu0;obtain⟨c,e1,e2⟩:=bE.1 (show ob fn.body _=some cf from hcf);obtain⟨e3,e4⟩:=bK.1 e2;obtain⟨cc,e5,e6⟩:=bE.1 e4;obtain⟨rs,e7,e8⟩:=bE.1 e6;cases e8;refine⟨fn,hfn,hnm,by rw [e1];rfl,?_⟩;generalize hmm:iI c (fn.results.toList.foldl (λm r=>match r with | .tmp t=>eA m t | .cell t _=>eA m t) ((List.range (fn.params.size+fn.nfree)).foldl eA 0))=m at e5 e7;have e7':fK (BF T m) fn.results.toList=some rs:=e7;have hlen':=@VRs.length E _ _ _ hu0;have k1':vs.length=fn.params.size+fn.nfree:=hlen;have e3':fn.params.size+fn.nfree<=fn.ntmps:=by simpa using e3
 have hF:@FR E gs m fn.ntmps ⟨dG vs 0,[]⟩ (us.toArray++Array.replicate (fn.ntmps-us.toArray.size) undef):=by
  refine⟨by simp;omega,λt x e=>?_⟩;unfold rdn at e
  split at e
  ·have e:lk (dG vs 0) t=some x:=e
   rw [@la noE,if_pos (Nat.zero_le _)]at e;obtain⟨u,m1,m2⟩:=@VRs.get E _ _ _ _ _ hu0 e;refine⟨u,?_,m2⟩;have ht:t<us.length:=by
    rcases Nat.lt_or_ge t us.length with k|k
    ·exact k
    ·rw [List.getElem?_eq_none (by omega)]at m1;cases m1
   rw [Array.getElem?_append_left (by simpa using ht)]
   simpa using m1
  ·cases e
 refine callsIn_of_wp_marks hfn e1 trivial ?_;refine wpIn_mono (wB hT hk hm hr c e5 E gs ⟨us.toArray++Array.replicate (fn.ntmps-us.toArray.size) undef,[]⟩ w (Sx.refl s0) hF (@dZ.nil noE _ _ _ _)) ?_;rintro e a' w' ⟨E',g',y1,y2,y3,y4⟩;have leave:LeavesInM Fence.wide 0 P fn a'.tmps (λe w'=>∃E' g' u,e= .returned u/\@VR E' g' (cQ l) u/\Sx T K E gs w E' g' hs' w') a'.defers .returning w':=by
  obtain⟨ms,p1,p2,p3⟩:=y3;rw [p1,List.append_nil];refine sx (λw2 s=>?_) p2 p3 y1;obtain⟨u,q1,q2⟩:=@qv E' P T m _ hT g' f1 _ w2 _ fn y2 s.sit.wr (@gY.env E' _ _ _ _ s.sit.glob) rs _ e7' hl;exact⟨u,q2,E',g',u,rfl,q1,s⟩
 rcases hx with rfl|rfl
 ·rw [@mF.norm_inv noE _ y4];exact leave
 ·cases e<;>first|(cases y4;done)|skip
  exact leave
structure lx(P:Program)(T:Ty)(f:FuncId)(vs:List V)(v:V):Prop where
 out:∀E g h w us,Sit T E g h w->@VRs E g vs us->∃fn,P.funcs[f]? =some fn/\fn.name≠ "runtime.NumGoroutine"/\fn.body.isNone=false/\
  CallsIn Fence.wide 0 P f us.toArray w λe w'=>∃E' u,e= .returned u/\@VR E' g v u/\En.le E E'/\(∀b c,E'.ro b=some c->E.ro b=some c\/w.heap.size<=b)/\(∀b c,E'.ro b=some c->∃t:TypeId×(Nat×Nat),w'.heap[b]? =some (.cells c t.1 t.2))/\kL w w'
structure C9(T:Ty)(lp:List (Option Blk)):Prop where
 len:lp.length<=bR
 only:∀i b,lp[i]? =some (some b)->∃p,p∈T.pin/\p.1=i/\b= .ro p.2.2.1 p.2.2.2/\∀j v,p.2.2.2.get j=some v->bP v
 all:∀p,p∈T.pin->lp[p.1]? =some (some (.ro p.2.2.1 p.2.2.2))
theorem dH{h:H}{i j d n:Nat}{cs:Tr V}(e:h.blk i=some (.ro n cs)):¬Up h i j d:=λu=>by
 cases u with
 |one e' k'=>rw [e]at e';cases e';cases k'
 |step e' k' _=>rw [e]at e';cases e';cases k'
theorem C9.vw{lp:List (Option Blk)}(p:C9 T lp){E:En}{g:G}{h:H}{w:World}(s:Sit T E g h w):Vw T h lp (λi=>i) (λ_=>none):=by
 have one:∀i,cL lp i->∃n cs,h.blk i=some (.ro n cs):=λi ⟨b,hb⟩=>by
  obtain⟨q,q1,rfl,rfl,_⟩:=p.only i b hb;exact⟨_,_,(s.pin q q1).2⟩
 refine⟨p.len,λi b' e=>?_,λi j _ _ e=>e,λi j d hi _=>?_,(λk cs e=>by cases e),(λk cs i e=>by cases e),λq hq=>⟨rfl,p.all q hq⟩⟩
 ·obtain⟨q,q1,rfl,rfl,q2⟩:=p.only i b' e
  exact⟨_,(s.pin q q1).2,.ro q2⟩
 ·obtain⟨n,cs,e⟩:=one i hi
  exact dH e
theorem pr.conP{K:Nat->Prop}{f:FuncId}{lp:List (Option Blk)}{hs':H}{vs:List V}{v:V}(p:C9 T lp)(c:pr P T K f (g8 lp) vs hs' v)(hvs:∀v,v∈vs->bP v)(hv:bP v):lx P T f vs v:=by
 refine⟨λE g h w us s hu=>?_⟩;obtain⟨E1,gs,_,_,hE,s0,hg,hn,tr⟩:=(p.vw s).sit s;obtain rfl:=hE λ_=>rfl;have hu0:@VRs E1 gs vs us:=@gP E1 g gs _ _ (λv hm u k=>(hvs v hm).vr u k) hu;obtain⟨fn,k1,k2,k3,k4⟩:=c E1 gs w us s0 hu0;refine⟨fn,k1,k2,k3,k4.mono ?_⟩;rintro e w' ⟨E',gs',u,rfl,m1,x⟩;have hpin:∀id b o z,gs id=some (b,o,z)->∃q,q∈T.pin/\q.1=id/\b=q.2.1:=λid b o z e=>by
  by_cases q:cL lp id
  ·obtain⟨bb,hb⟩:=q
   obtain⟨q,q1,rfl,rfl,_⟩:=p.only id bb hb;obtain⟨⟨z',q2⟩,_⟩:=s0.pin q q1;rw [q2]at e;cases e;exact⟨q,q1,rfl,rfl⟩
  ·rw [hn id q]at e;cases e
 refine⟨E',u,rfl,hv.vr u m1,x.envl,λb c e=>?_,λb c e=>(x.sit.env e).1,⟨x.size,λb hb=>?_,x.os,x.tape,x.output⟩⟩
 ·rcases x.envn b c e with q|q | ⟨_,id,o,z,q⟩
  ·exact .inl q
  ·exact .inr q
  ·exfalso
   obtain⟨p1,q1,rfl,rfl⟩:=hpin id b o z q;obtain⟨⟨z',q2⟩,_⟩:=x.sit.pin p1 q1;exact(x.sit.env e).2 _ _ _ q2
 ·by_cases q:∃id o z,gs id=some (b,o,z)
  ·obtain⟨id,o,z,q⟩:=q
   obtain⟨p1,q1,rfl,rfl⟩:=hpin id b o z q;exact x.pin p1 q1
  ·exact x.keep b hb λid o z e=>q ⟨id,o,z,e⟩
theorem Sit.still{E E':En}{g:G}{h:H}{w w':World}(s:Sit T E g h w)(hE:E.le E')(hn:∀b c,E'.ro b=some c->E.ro b=some c\/w.heap.size<=b)(ho:∀b c,E'.ro b=some c->∃t:TypeId×(Nat×Nat),w'.heap[b]? =some (.cells c t.1 t.2))(k:kL w w'):Sit T E' g h w':=by
 have r:=(WR.env hE s.wr)
 refine Sit.mk' ?_ s.pin λb c e=>⟨ho b c e,λid o z q=>?_⟩
 ·cases r with
  |mk a b c d e f k' x=>
   exact @WR.mk E' T g h w' a b c (λid b o z q=>Nat.lt_of_lt_of_le (d _ _ _ _ q) k.size) (λid y b e1 e2=>by
    obtain⟨b',o',z⟩:=y;exact @BR.move E' _ _ _ _ _ _ _ _ _ e1 (k.keep _ (d _ _ _ _ e1)) (e _ _ _ e1 e2)) f k' x
 ·rcases hn b c e with k1|k1
  ·exact(s.env k1).2 id o z q
  ·exact absurd (s.lt q) (by omega)
theorem lx.con{f:FuncId}{vs:List V}{v:V}(c:lx P T f vs v)(h:H)(M:Nat->Prop):Con P T M f vs h v h:=by
 refine⟨λE g w us s hu=>?_⟩;obtain⟨fn,k1,k2,k3,k4⟩:=c.out E g h w us s hu;refine⟨fn,k1,k2,k3,k4.mono ?_⟩;rintro e w' ⟨E',u,rfl,m1,m2,m3,m4,m5⟩;exact⟨E',g,u,rfl,m1,m2,m3,λ_ _ _ e=>e,Nat.le_refl _,s.still m2 m3 m4 m5,m5.size,λb hb _=>m5.keep b hb,λid b o z e=>.inr ⟨id,o,z,e⟩,λp hp=>m5.keep _ (by
  obtain⟨⟨z,q⟩,_⟩:=s.pin p hp;exact s.lt q),m5.os,m5.tape,m5.output⟩
end
end
section
section
variable {P:Program} {T:Ty}
section
variable {U:Nat->Prop} {ρ:Nat->Nat} {E:En} {g g':G} (hg:∀i x,U i->g i=some x->g' (ρ i)=some x)
include hg
mutual
theorem Rn.back:∀{v' v:V},Rn U ρ (λ_=>none) v' v->∀u,@VR E g v' u->@VR E g' v u
 |_,_,.pure h,u,k=>h.vr u k
 |_,_,.ptr h,u,k=>by cases k with|ptr e=>exact @VR.ptr E g' _ _ _ _ _ (hg _ _ h e)
 |_,_,.sl h,u,k=>by
  cases k with
  |slx e=>exact @VR.slx E g' _ _ _ _ _ _ _ _ (hg _ _ h e)
  |sli e a b=>exact @VR.sli E g' _ _ _ _ _ _ _ _ _ (hg _ _ h e) a b
  |sl0 e a=>exact @VR.sl0 E g' _ _ _ _ _ _ _ _ (hg _ _ h e) a
  |slx0 e=>exact @VR.slx0 E g' _ _ _ _ _ _ _ (hg _ _ h e)
 |_,_,.map h,u,k=>by cases k with|map e=>exact @VR.map E g' _ _ _ _ (hg _ _ h e)
 |_,_,.func ha hb,u,k=>by cases k with|func p q=>exact @VR.func E g' _ _ _ _ _ (RnL.back ha _ p) (RnL.back hb _ q)
 |_,_,.agg ha,u,k=>by cases k with|agg p=>exact @VR.agg E g' _ _ (RnL.back ha _ p)
 |_,_,.tup ha,u,k=>by cases k with|tup p=>exact @VR.tup E g' _ _ (RnL.back ha _ p)
 |_,_,.lst ha,u,k=>by
  cases k with
  |lst e hx hl h=>exact @VR.lst E g' _ _ _ _ _ _ _ _ e hx (by rw [<-RnL.length ha];exact hl) (RnL.back ha _ h)
  |lst0=>cases ha;exact @VR.lst0 E g' _
  |lstz=>cases ha;exact @VR.lstz E g' _ _ _
 |_,_,.eptr ha,u,k=>by cases k with|eptr e hx h=>exact @VR.eptr E g' _ _ _ _ _ _ e hx (RnL.back ha _ h)
 |_,_,.fz hk ha,u,k=>by cases hk
 |_,_,.fzs hk hl ha,u,k=>by cases hk
 |_,_,.nil0 hk,u,k=>by cases hk
theorem RnL.back:∀{v' v:List V},RnL U ρ (λ_=>none) v' v->∀u,@VRs E g v' u->@VRs E g' v u
 |_,_,.nil,u,k=>by
  have _a:=@hg;cases k;exact @VRs.nil E g'
 |_,_,.cons h t,u,k=>by cases k with|cons p q=>exact @VRs.cons E g' _ _ _ _ (Rn.back h _ p) (RnL.back t _ q)
end
end
theorem Rn.one'{U:Nat->Prop}{ρ:Nat->Nat}{v v':V}(h:Rn U ρ (λ_=>none) v v')(k:cE v=true):cE v'=true:=by
 cases h<;>first|rfl|exact k|cases k
inductive Bb(U:Nat->Prop)(ρ:Nat->Nat):Blk->Blk->Prop
 |cells {n:Nat} {cs' cs:Tr V} (h:∀j v,j<n->cs.get j=some v->∃v',cs'.get j=some v'/\Rn U ρ (λ_=>none) v' v):Bb U ρ (.cells n cs' none false) (.cells n cs none false)
 |ro {n:Nat} {cs:Tr V} (h:∀j v,cs.get j=some v->bP v):Bb U ρ (.ro n cs) (.ro n cs)
 |map {es' es:List (V×V)} {o:Bool} (hk:RnL U ρ (λ_=>none) (es'.map (·.1)) (es.map (·.1))) (hv:RnL U ρ (λ_=>none) (es'.map (·.2)) (es.map (·.2))):Bb U ρ (.map es' o) (.map es o)
def qN(b:Blk):Prop:=b.kin=none\/b.kin=some (none,false)
theorem Bb.lone{U:Nat->Prop}{ρ:Nat->Nat}{b B:Blk}(h:Bb U ρ b B):qN b/\qN B/\b.isRo=B.isRo/\b.kin=B.kin/\b.live=true/\B.live=true:=by
 cases h
 ·exact⟨.inr rfl,.inr rfl,rfl,rfl,rfl,rfl⟩
 ·exact⟨.inl rfl,.inl rfl,rfl,rfl,rfl,rfl⟩
 ·exact⟨.inl rfl,.inl rfl,rfl,rfl,rfl,rfl⟩
theorem qN.up{h:H}{i j d:Nat}{b:Blk}(e:h.blk i=some b)(k:qN b):¬Up h i j d:=λu=>by
 cases u with
 |one e' k'=>rw [e]at e';cases e';rcases k with q|q<;>rw [q]at k'<;>cases k'
 |step e' k' _=>rw [e]at e';cases e';rcases k with q|q<;>rw [q]at k'<;>cases k'
def zv(M:Nat->Prop)(b:Blk):Prop:=match b with
 |.cells _ cs _ _=>∀j v,cs.get j=some v->dg M v
 |.ro _ cs=>∀j v,cs.get j=some v->dg M v
 |.map es _=>∀e,e∈es->dg M e.1/\dg M e.2
 |.siter _ _ _=>True
 |.dead=>True
 |_=>∀id,¬M id
theorem li{M:Nat->Prop}{E:En}{g g':G}(hg:∀id x,¬M id->g id=some x->g' id=some x){l:List V}{us:List Value}(hf:∀v,v∈l->dg M v)(h:@VRs E g l us):@VRs E g' l us:=@gP E g g' _ _ (λv hv u k=>hf v hv E g g' u hg k) h
theorem zv.br{M:Nat->Prop}{E:En}{g g':G}(hg:∀id x,¬M id->g id=some x->g' id=some x){w:World}{id:Nat}{b:Blk}(hf:zv M b)(hid:¬M id)(h:@BR E T g w id b):@BR E T g' w id b:=by
 have hc:∀{n cs},(∀j v,cs.get j=some v->dg M v)->@Cells E g w id n cs->@Cells E g' w id n cs:=λ{n cs} hf h=>by
  obtain⟨b,o,z,c,t,h1,h2,h3,h4,h5,h6⟩:=h;refine⟨b,o,z,c,t,hg _ _ hid h1,h2,h3,h4,h5,λj v hj hv=>?_⟩;obtain⟨u,k1,k2,k3⟩:=h6 j v hj hv;exact⟨u,k1,hf j v hv E g g' u hg k2,k3⟩
 cases b with
 |cells=>exact hc hf h
 |ro=>exact hc hf h
 |map es=>
  obtain⟨b,o,z,m,k,h1,h2,h3,h4⟩:=h;refine⟨b,o,z,m,k,hg _ _ hid h1,h2,⟨li hg (λv hv=>?_) h3.1,li hg (λv hv=>?_) h3.2⟩,h4⟩
  ·obtain⟨e,he,rfl⟩:=List.mem_map.1 hv
   exact(hf e he).1
  ·obtain⟨e,he,rfl⟩:=List.mem_map.1 hv
   exact(hf e he).2
 |siter=>obtain⟨b,o,z,s,h1,h2⟩:=h;exact⟨b,o,z,s,hg _ _ hid h1,h2⟩
 |dead=>trivial
 |loop=>exact @BR.mono E T g g' (λid x=>hg id x (hf id)) _ _ _ h
 |miter=>exact @BR.mono E T g g' (λid x=>hg id x (hf id)) _ _ _ h
structure Lc(T:Ty)(mv:Nat->Prop)(h h':H)(l l':List (Option Blk))(ρ:Nat->Nat):Prop where
 vw:Vw T h l ρ (λ_=>none)
 lone:∀i B,cL l i->h.blk (ρ i)=some B->qN B
 lt:∀i,i<l.length->ρ i<h.next
 len:l'.length=l.length
 keep:∀i,cL l i->cL l' i
 new:∀i,cL l' i->¬mv i->cL l i
 moved:∀i,mv i->ρ i=i/\i<l.length/\(∀j,j<l.length->ρ j=i->j=i)/\(¬cL l i->h.blk i=none)/\∀b:Blk,l'[i]? =some (some b)->b.isRo=false
 ro:∀(i:Nat) (b:Blk),l[i]? =some (some b)->b.isRo=true->∃p,p∈T.pin/\p.1=i
 pinr:∀(i:Nat) (b B:Blk),l'[i]? =some (some b)->l[i]? =some (some B)->b.isRo=B.isRo
 kin:∀(i:Nat) (b B:Blk),l'[i]? =some (some b)->h.blk (ρ i)=some B->b.kin=B.kin
 inj:∀i j,i<l.length->j<l.length->ρ i=ρ j->i=j
 next:h'.next=h.next
 out:∀id,(∀i,cL l' i->ρ i≠id)->h'.blk id=h.blk id
 free:∀id b,(∀i,cL l' i->ρ i≠id)->h.blk id=some b->zv mv b
 back:∀i b',l'[i]? =some (some b')->∃B',h'.blk (ρ i)=some B'/\Bb (cL l') ρ b' B'
theorem Lc.loc{mv:Nat->Prop}{h h':H}{l l':List (Option Blk)}{ρ:Nat->Nat}(L:Lc T mv h h' l l' ρ){vs VS:List V}{v vr:V}(hvs:RnL (cL l) ρ (λ_=>none) vs VS)(hv:Rn (cL l') ρ (λ_=>none) v vr)
  (named:∀(E:En) (g:G) (w:World) (us:List Value),Sit T E g h w->@VRs E g VS us->∀i,cL l i->¬mv i->∃x,g (ρ i)=some x) (np:∃i,(cL l i/\¬mv i)/\∀p,p∈T.pin->p.1≠i):Loc T (λi=>cL l i/\¬mv i) mv (g8 l) (g8 l') vs v h h' VS vr:=by
 classical
 intro E g w us s hu;have nm:=named E g w us s hu;obtain⟨E1,gs,_,_,hE,s0,hg,hn,tr⟩:=L.vw.sit s;obtain rfl:=hE λ_=>rfl;have hlen':l'.length<=bR:=by rw [L.len];exact L.vw.len
 have ult:∀{i},cL l i->i<l.length:=λ⟨b,e⟩=>(List.getElem?_eq_some_iff.1 e).1;have ult':∀{i},cL l' i->i<l.length:=λ⟨b,e⟩=>L.len▸(List.getElem?_eq_some_iff.1 e).1;have hgs:∀i x,gs i=some x->cL l i/\g (ρ i)=some x:=λi x e=>by
  by_cases q:cL l i
  ·rw [hg i q]at e;exact⟨q,e⟩
  ·rw [hn i q]at e;cases e
 refine⟨gs,s0,RnL.vr (E:=E1) (E':=E1) (g:=g) (g':=gs) (λi x hi e=>(hg i hi).trans e) E1.le_refl (λk cs e=>by cases e) hvs us hu,?_⟩;intro E' gs' w' u x hu'
 let g':G:=λid=>if mv id then gs' id else g id
 have gm:∀{id},mv id->g' id=gs' id:=λh=>if_pos h;have gn:∀{id},¬mv id->g' id=g id:=λh=>if_neg h;have mvi:∀{i},i<l.length->mv (ρ i)->mv i:=λ{i} hi q=>by
  have:=(L.moved _ q).2.2.1 i hi rfl;rw [<-this]at q;exact q
 have fix:∀i y,cL l i->¬mv i->g (ρ i)=some y->gs' i=some y:=λi y hi hm e=>x.fix i y ⟨hi,hm⟩ ((hg i hi).trans e);have bk:∀i y,cL l' i->gs' i=some y->g' (ρ i)=some y:=λi y hi e=>by
  by_cases hm:mv i
  ·rw [(L.moved i hm).1,gm hm];exact e
  ·rw [gn λq=>hm (mvi (ult' hi) q)]
   obtain⟨z,hz⟩:=nm i (L.new i hi hm) hm;have:=fix i z (L.new i hi hm) hm hz;rw [this]at e;cases e;exact hz
 have inn:∀i y,cL l' i->g' (ρ i)=some y->gs' i=some y:=λi y hi e=>by
  by_cases hm:mv i
  ·rw [(L.moved i hm).1,gm hm]at e;exact e
  ·rw [gn λq=>hm (mvi (ult' hi) q)]at e
   exact fix i y (L.new i hi hm) hm e
 have sm:∀{i b},l'[i]? =some (some b)->(g8 l').blk i=some b:=λe=>(ff hlen').2 e;have outm:∀{id b},(∀i,cL l' i->ρ i≠id)->h'.blk id=some b->¬mv id:=λ{id b} ho e hm=>by
  rw [L.out id ho]at e;obtain⟨m1,m2,m3,m4,_⟩:=L.moved id hm
  by_cases q:cL l id
  ·exact ho id (L.keep id q) m1
  ·rw [m4 q]at e;cases e
 have same:∀{id b o z bi},(∀i,cL l' i->ρ i≠id)->g id=some (b,o,z)->h.blk id=some bi->bi.live=true->w'.heap[b]? =w.heap[b]? :=by
  intro id b o z bi ho e hb hl
  by_cases q:∃i o' z',gs i=some (b,o',z')
  ·obtain⟨i,o',z',q⟩:=q
   obtain⟨hi,q⟩:=hgs _ _ q;have hi':=hi;obtain⟨bb,hbb⟩:=hi';obtain⟨B,k1,k2⟩:=L.vw.blk i bb hbb;rcases @WR.mates E1 T g h w s.wr id (ρ i) b o z o' z' bi B (λk=>ho i (L.keep i hi) k.symm) e q hb k1 hl k2.live.1 with⟨d,u,_⟩ | ⟨d,u,_⟩ | ⟨q1,q2⟩
   ·exfalso
    have key:∀{a c d},Up h a c d->c=ρ i->False:=λ{a c d} u=>by
     induction u with
     |one e1 k1'=>
      rintro rfl;obtain⟨b',up,n1,n2,_⟩:=@WR.kids E1 T g h w s.wr _ _ _ _ _ e1 k1';rw [k1]at n1;cases n1;rcases L.lone i B hi k1 with q|q<;>rw [q]at n2<;>cases n2
     |step _ _ _ ih=>exact ih
    exact key u rfl
   ·exact absurd u ((L.lone i B hi k1).up k1)
   ·obtain⟨p,p1,rfl⟩:=L.ro i bb hbb (k2.live.2.2.1.trans q2)
    obtain⟨⟨z2,p2⟩,_⟩:=s.pin p p1;rw [(L.vw.pin p p1).1,p2]at q;cases q;exact x.pin p p1
  ·exact x.keep b (s.lt e) λi o' z' k=>q ⟨i,o',z',k⟩
 have kin':Kin h h':=λi b k q1 q2=>by
  by_cases hi:∃a,cL l' a/\ρ a=i
  ·obtain⟨a,⟨ba,ha⟩,rfl⟩:=hi
   obtain⟨B',k1,k2⟩:=L.back a ba ha;exact⟨B',k1,by rw [<-k2.lone.2.2.2.1,L.kin a ba b ha q1];exact q2⟩
  ·exact⟨b,by rw [L.out i λa ha e=>hi ⟨a,ha,e⟩];exact q1,q2⟩
 have upkin:∀{a c d},Up h' a c d->(∃i,cL l' i/\ρ i=a)->False:=λ{a c d} u ⟨i,⟨bi,hi⟩,e⟩=>by
  subst e;obtain⟨B',k1,k2⟩:=L.back i bi hi;exact k2.lone.2.1.up k1 u
 have outg:∀{id b o z bi},(∀i,cL l' i->ρ i≠id)->g' id=some (b,o,z)->h'.blk id=some bi->g id=some (b,o,z)/\h.blk id=some bi:=λ{id b o z bi} ho e1 e2=>by
  rw [gn (outm ho e2)]at e1;rw [L.out id ho]at e2;exact⟨e1,e2⟩
 have cross:∀{id b o z bi a o' z' ba},(∀i,cL l' i->ρ i≠id)->g id=some (b,o,z)->h.blk id=some bi->bi.live=true->l'[a]? =some (some ba)->gs' a=some (b,o',z')->bi.isRo=true/\ba.isRo=true:=by
  intro id b o z bi a o' z' ba ho e1 e2 hl hba ha;have old:∀c,cL l c->g (ρ c)=some (b,o',z')\/(∃o2 z2,g (ρ c)=some (b,o2,z2))->bi.isRo=true/\∃bc,l[c]? =some (some bc)/\bc.isRo=true:=by
   intro c hc hgc;obtain⟨o2,z2,hgc⟩:∃o2 z2,g (ρ c)=some (b,o2,z2):=by rcases hgc with q|q;exact⟨_,_,q⟩;exact q
   have hc':=hc;obtain⟨bc,hbc⟩:=hc';obtain⟨B,k1,k2⟩:=L.vw.blk c bc hbc;rcases @WR.mates E1 T g h w s.wr id (ρ c) b o z o2 z2 bi B (λk=>ho c (L.keep c hc) k.symm) e1 hgc e2 k1 hl k2.live.1 with⟨d,u,_⟩ | ⟨d,u,_⟩ | ⟨q1,q2⟩
   ·exfalso
    have key:∀{a c' d},Up h a c' d->c'=ρ c->False:=λ{a c' d} u=>by
     induction u with
     |one e1 k1'=>
      rintro rfl;obtain⟨b',up,n1,n2,_⟩:=@WR.kids E1 T g h w s.wr _ _ _ _ _ e1 k1';rw [k1]at n1;cases n1;rcases L.lone c B hc k1 with q|q<;>rw [q]at n2<;>cases n2
     |step _ _ _ ih=>exact ih
    exact key u rfl
   ·exact absurd u ((L.lone c B hc k1).up k1)
   ·exact⟨q1,bc,hbc,k2.live.2.2.1.trans q2⟩
  by_cases hm:mv a
  ·rcases x.inv a b o' z' ha with q | ⟨c,o2,z2,q⟩
   ·exact absurd (s.lt e1) (by omega)
   ·obtain⟨hc,q⟩:=hgs _ _ q
    obtain⟨k1,bc,k2,k3⟩:=old c hc (.inr ⟨_,_,q⟩);exfalso;obtain⟨p,p1,rfl⟩:=L.ro c bc k2 k3;obtain⟨⟨z3,p2⟩,p3⟩:=x.sit.pin p p1;obtain⟨⟨z4,p4⟩,_⟩:=s.pin p p1;rw [(L.vw.pin p p1).1,p4]at q;cases q;have hne:a≠p.1:=λe=>by
     have:=(L.moved a hm).2.2.2.2 ba hba;rw [e,(ff hlen').1 p3]at hba;cases hba;cases this
    rcases @WR.mates E' T gs' (g8 l') w' x.sit.wr a p.1 _ o' z' 0 z3 ba _ hne ha p2 (sm hba) p3 (by
      obtain⟨B',n1,n2⟩:=L.back a ba hba;exact n2.lone.2.2.2.2.1) rfl with⟨d,u,_⟩ | ⟨d,u,_⟩ | ⟨q1,_⟩
    ·obtain⟨B',n1,n2⟩:=L.back a ba hba
     exact n2.lone.1.up (sm hba) u
    ·exact dH p3 u
    ·rw [(L.moved a hm).2.2.2.2 ba hba]at q1;cases q1
  ·have hua:=L.new a ⟨ba,hba⟩ hm
   obtain⟨y,hy⟩:=nm a hua hm;have:=fix a y hua hm hy;rw [ha]at this;cases this;obtain⟨k1,bc,k2,k3⟩:=old a hua (.inl hy);exact⟨k1,(L.pinr a ba bc hba k2).trans k3⟩
 have par:∀{i b j d ch},h'.blk i=some b->b.kin=some (some (j,d),ch)->(∀a,cL l' a->ρ a≠i)/\∃b' up,h.blk j=some b'/\b'.kin=some (up,true)/\(g i≠none->g j≠none)/\h'.blk j=some b'/\¬mv j:=by
  intro i b j d ch e1 e2;have ho:∀a,cL l' a->ρ a≠i:=λa ⟨ba,ha⟩ e=>by
   subst e;obtain⟨A,a1,a2⟩:=L.back a ba ha;rw [a1]at e1;cases e1;rcases a2.lone.2.1 with q|q<;>rw [q]at e2<;>cases e2
  have e1':=e1;rw [L.out i ho]at e1';obtain⟨b',up,k1,k2,k3⟩:=@WR.kids E1 T g h w s.wr i b j d ch e1' e2;have hol:∀a,cL l a->ρ a≠j:=λa ha e=>by
   subst e;rcases L.lone a b' ha k1 with q|q<;>rw [q]at k2<;>cases k2
  have hmj:¬mv j:=λhm=>by
   by_cases q:cL l j
   ·exact hol j q (L.moved j hm).1
   ·rw [(L.moved j hm).2.2.2.1 q]at k1;cases k1
  have hoj:∀a,cL l' a->ρ a≠j:=λa ha e=>by
   by_cases q:mv a
   ·rw [(L.moved a q).1]at e;exact hmj (e▸q)
   ·exact hol a (L.new a ha q) e
  exact⟨ho,b',up,k1,k2,k3,(L.out j hoj).trans k1,hmj⟩
 have wr:@WR E' T g' h' w':=by
  have r:=s.wr;refine @WR.mk E' T g' h' w' (by rw [L.next];exact @WR.bound E1 _ _ _ _ r) (λid b e=>?_) (λid y e=>?_) (λid b o z e=>?_) (λid y b e1 e2=>?_) (λi j b o z o' z' bi bj hij e1 e2 e3 e4 l1 l2=>?_) (λi b j d ch e1 e2=>?_) (λi b j d ch b' e1 e2 e3=>?_)
  ·rw [L.next]
   by_cases hi:∃a,cL l' a/\ρ a=id
   ·obtain⟨a,ha,rfl⟩:=hi
    exact L.lt a (ult' ha)
   ·rw [L.out id λa ha e=>hi ⟨a,ha,e⟩]at e
    exact @WR.top E1 _ _ _ _ r _ _ e
  ·rw [L.next]
   by_cases hm:mv id
   ·rw [<-(L.moved id hm).1];exact L.lt id (L.moved id hm).2.1
   ·rw [gn hm]at e;exact @WR.dom E1 _ _ _ _ r _ _ e
  ·by_cases hm:mv id
   ·rw [gm hm]at e;exact x.sit.lt e
   ·rw [gn hm]at e;exact Nat.lt_of_lt_of_le (s.lt e) x.size
  ·by_cases hi:∃a,cL l' a/\ρ a=id
   ·obtain⟨a,⟨ba,ha⟩,rfl⟩:=hi
    obtain⟨B',k1,k2⟩:=L.back a ba ha;rw [k1]at e2;cases e2;have hb:=@WR.blk E' T gs' (g8 l') w' x.sit.wr a y ba (inn a y ⟨ba,ha⟩ e1) (sm ha);cases k2 with
    |cells hc=>
     obtain⟨b,o,z,c,t,q1,q2,q3,q4,q5,q6⟩:=(hb:@Cells E' gs' w' _ _ _)
     refine⟨b,o,z,c,t,bk a _ ⟨_,ha⟩ q1,q2,q3,q4,q5,λj v hj hv=>?_⟩;obtain⟨v',m1,m2⟩:=hc j v hj hv;obtain⟨u,n1,n2,n3⟩:=q6 j v' hj m1;exact⟨u,n1,m2.back (λi y hi e=>bk i y hi e) u n2,m2.one' n3⟩
    |ro hc=>
     obtain⟨b,o,z,c,t,q1,q2,q3,q4,q5,q6⟩:=(hb:@Cells E' gs' w' _ _ _)
     refine⟨b,o,z,c,t,bk a _ ⟨_,ha⟩ q1,q2,q3,q4,q5,λj v hj hv=>?_⟩;obtain⟨u,n1,n2,n3⟩:=q6 j v hj hv;exact⟨u,n1,(hc j v hv).vr u n2,n3⟩
    |map hk hv=>
     obtain⟨b,o,z,m,q,q1,q2,q3,q4⟩:=hb;exact⟨b,o,z,m,q,bk a _ ⟨_,ha⟩ q1,q2,⟨hk.back (λi y hi e=>bk i y hi e) _ q3.1,hv.back (λi y hi e=>bk i y hi e) _ q3.2⟩,q4⟩
   ·have ho:∀i,cL l' i->ρ i≠id:=λa ha e=>hi ⟨a,ha,e⟩
    obtain⟨b0,o0,z0⟩:=y;obtain⟨k1,k2⟩:=outg ho e1 e2;cases hl:b.live with
    |false=>cases b<;>first|trivial|cases hl
    |true=>
     exact(L.free id b ho k2).br (λid y hm e=>(gn hm).trans e) (outm ho e2) (@BR.move E' _ _ _ _ _ _ _ _ _ k1 (same ho k1 k2 hl) (BR.env x.envl (@WR.blk E1 T g h w r _ _ _ k1 k2)))
  ·by_cases hi:∃a,cL l' a/\ρ a=i
   ·obtain⟨a,⟨ba,ha⟩,rfl⟩:=hi
    obtain⟨A,a1,a2⟩:=L.back a ba ha;rw [a1]at e3;cases e3;have ga:=inn a _ ⟨ba,ha⟩ e1
    by_cases hj:∃c,cL l' c/\ρ c=j
    ·obtain⟨c,⟨bc,hc⟩,rfl⟩:=hj
     obtain⟨C,c1,c2⟩:=L.back c bc hc;rw [c1]at e4;cases e4;have gc:=inn c _ ⟨bc,hc⟩ e2;rcases @WR.mates E' T gs' (g8 l') w' x.sit.wr a c b o z o' z' ba bc (λq=>hij (by rw [q])) ga gc (sm ha) (sm hc) a2.lone.2.2.2.2.1 c2.lone.2.2.2.2.1 with⟨d,u,_⟩ | ⟨d,u,_⟩ | ⟨q1,q2⟩
     ·exact absurd u (a2.lone.1.up (sm ha))
     ·exact absurd u (c2.lone.1.up (sm hc))
     ·exact .inr (.inr ⟨a2.lone.2.2.1▸q1,c2.lone.2.2.1▸q2⟩)
    ·have ho:∀i,cL l' i->ρ i≠j:=λa ha e=>hj ⟨a,ha,e⟩
     obtain⟨k1,k2⟩:=outg ho e2 e4;obtain⟨q1,q2⟩:=cross ho k1 k2 l2 ha ga;exact .inr (.inr ⟨a2.lone.2.2.1▸q2,q1⟩)
   ·have ho:∀a,cL l' a->ρ a≠i:=λa ha e=>hi ⟨a,ha,e⟩
    obtain⟨k1,k2⟩:=outg ho e1 e3
    by_cases hj:∃c,cL l' c/\ρ c=j
    ·obtain⟨c,⟨bc,hc⟩,rfl⟩:=hj
     obtain⟨C,c1,c2⟩:=L.back c bc hc;rw [c1]at e4;cases e4;obtain⟨q1,q2⟩:=cross ho k1 k2 l1 hc (inn c _ ⟨bc,hc⟩ e2);exact .inr (.inr ⟨q1,c2.lone.2.2.1▸q2⟩)
    ·have ho':∀a,cL l' a->ρ a≠j:=λa ha e=>hj ⟨a,ha,e⟩
     obtain⟨k3,k4⟩:=outg ho' e2 e4;rcases @WR.mates E1 T g h w r i j b o z o' z' bi bj hij k1 k3 k2 k4 l1 l2 with⟨d,u,q⟩ | ⟨d,u,q⟩|q
     ·exact .inl ⟨d,@Up.kin noE _ _ kin' _ _ _ u,q⟩
     ·exact .inr (.inl ⟨d,@Up.kin noE _ _ kin' _ _ _ u,q⟩)
     ·exact .inr (.inr q)
  ·obtain⟨k1,b',up,p1,p2,p3,p4,p5⟩:=par e1 e2
   exact⟨b',up,p4,p2,λhne=>by
    rw [gn p5];rw [gn (outm k1 e1)]at hne;exact p3 hne⟩
  ·obtain⟨k1,b2,up,p1,p2,p3,p4,p5⟩:=par e1 e2
   rw [p4]at e3;cases e3;rw [L.out i k1]at e1;exact @WR.ext E1 T g h w r i b j d ch _ e1 e2 p1
 refine⟨g',⟨x.envl,λb c e=>?_,λid y hm e=>(gn hm).trans e,Nat.le_of_eq L.next.symm,Sit.mk' wr (λp hp=>?_) (λb c e=>⟨(x.sit.env e).1,λid o z q=>?_⟩),x.size,λb hb hno=>x.keep b hb λid o z e=>hno _ _ _ (hgs _ _ e).2,λid b o z e=>?_,x.pin,x.os,x.tape,x.output⟩,hv.back (λi y hi e=>bk i y hi e) u hu'⟩
 ·rcases x.envn b c e with q|q | ⟨k,_⟩
  ·exact .inl q
  ·exact .inr q
  ·obtain⟨i,q1,q2⟩:=np
   obtain⟨p,q3,q4⟩:=k i q1;exact absurd q4 (q2 p q3)
 ·obtain⟨⟨z,q1⟩,q2⟩:=x.sit.pin p hp
  have q3:=(ff hlen').1 q2;obtain⟨B',m1,m2⟩:=L.back _ _ q3;rw [(L.vw.pin p hp).1]at m1;refine⟨⟨z,?_⟩,?_⟩
  ·have:=bk p.1 _ ⟨_,q3⟩ q1
   rw [(L.vw.pin p hp).1]at this;exact this
  ·rw [m1]
   cases m2;rfl
 ·by_cases hm:mv id
  ·rw [gm hm]at q;exact(x.sit.env e).2 _ _ _ q
  ·rw [gn hm]at q
   rcases x.envn b c e with k|k | ⟨k,_⟩
   ·exact(s.env k).2 _ _ _ q
   ·exact absurd (s.lt q) (by omega)
   ·obtain⟨i,q1,q2⟩:=np
    obtain⟨p,q3,q4⟩:=k i q1;exact absurd q4 (q2 p q3)
 ·by_cases hm:mv id
  ·rw [gm hm]at e
   rcases x.inv id b o z e with q | ⟨i,o',z',q⟩
   ·exact .inl q
   ·exact .inr ⟨_,_,_,(hgs _ _ q).2⟩
  ·rw [gn hm]at e
   exact .inr ⟨id,o,z,e⟩
end
end
section
section
variable {P:Program} {T:Ty} {K:Nat->Prop} {call:cB} {n:Nat}
def WO(P:Program)(T:Ty)(K:Nat->Prop)(call:cB)(l:List bS)(f:F)(h:H)(R:F->H->Prop):Prop:=∃f' h',gH P T K call l f h f' h'/\R f' h'
def W(P:Program)(T:Ty)(K:Nat->Prop)(call:cB)(n:Nat)(c:ci)(f:F)(h:H)(Q:X->F->H->Prop):Prop:=∃x f' h',Way P T K call n c f h x f' h'/\Q x f' h'
def It(P:Program)(T:Ty)(K:Nat->Prop)(call:cB)(n:Nat)(c:ci)(Q:X->F->H->Prop)(x:X)(f:F)(h:H):Prop:=match x with
 |.norm=>W P T K call n c f h Q
 |x=>Q x f h
theorem WO.nil{f:F}{h:H}{R:F->H->Prop}(k:R f h):WO P T K call [] f h R:=⟨f,h,.nil,k⟩
theorem bA{o:bS}{l:List bS}{f f1:F}{h h1:H}{R:F->H->Prop}(e:o.run call f h=some (f1,h1))(k:WO P T K call l f1 h1 R):WO P T K call (o ::l) f h R:=by
 obtain⟨f',h',k1,k2⟩:=k;exact⟨f',h',.op e k1,k2⟩
theorem bt{l:List bS}{f f1:F}{h h1:H}{R:F->H->Prop}(e:fG T K f h f1 h1)(k:WO P T K call l f1 h1 R):WO P T K call l f h R:=by
 obtain⟨f',h',k1,k2⟩:=k;exact⟨f',h',.view e k1,k2⟩
theorem WO.con{o:bS}{l:List bS}{f:F}{h h1:H}{M:Nat->Prop}{vs vs':List V}{fn:FuncId}{v:V}{R:F->H->Prop}(eg:bX f o.guard=some true)(ev:evs f o.args=some vs)(ec:gX o.op vs=some (fn,vs'))
  (c:Con P T M fn vs' h v h1) (hK:∀id,K id->¬M id) (hf:gZ M f) (k:WO P T K call l (o.dst.put f v) h1 R):WO P T K call (o ::l) f h R:=by
 obtain⟨f',h',k1,k2⟩:=k;exact⟨f',h',.con eg ev ec c hK hf k1,k2⟩
theorem WO.mkF{o:bS}{l:List bS}{f:F}{h:H}{ao:AOp}{vs cs:List V}{mk:Nat->V}{v:V}{R:F->H->Prop}(eg:bX f o.guard=some true)(ev:evs f o.args=some vs)(eo:o.op= .a ao)(er:ao.run vs=some (.cells cs.length (cq cs 0 .e) none false,mk))
  (hz:Frz cs mk v) (hl:cs.length<=bR) (hf:∀c,c∈cs->dg (λid=>id=h.next) c) (k:WO P T K call l (o.dst.put f v) h R):WO P T K call (o ::l) f h R:=by
 obtain⟨f',h',k1,k2⟩:=k;exact⟨f',h',.mkF eg ev eo er hz hl hf k1,k2⟩
theorem WO.allocF{o1 o2:bS}{l:List bS}{f:F}{h:H}{zero:List V}{n:Nat}{x:V}{h2:H}{cs':Tr V}{R:F->H->Prop}(eg1:bX f o1.guard=some true)(eo1:o1.op= .a (.alloc zero))(ev1:evs f o1.args=some [])
  (er:(AOp.alloc zero).run []=some (.cells zero.length (cq zero 0 .e) none false,λi=>.ptr i 0)) (hk:h.next<bR) (eg2:bX (o1.dst.put f (.ptr h.next 0)) o2.guard=some true) (eo2:o2.op= .e (.store n)) (ev2:evs (o1.dst.put f (.ptr h.next 0)) o2.args=some [.ptr h.next 0,x])
  (hw:H.wr h.next (cellsOf x) 0 ⟨h.t.put h.next (some (.cells zero.length (cq zero 0 .e) none false)),Nat.succ h.next⟩=some h2) (hb:h2.blk h.next=some (.cells (cellsOf x).length cs' none false)) (hcs:∀j v,(cellsOf x)[j]? =some v->cs'.get j=some v)
  (hl:(cellsOf x).length=n) (hf:∀c,c∈cellsOf x->dg (λid=>id=h.next) c) (k:WO P T K call l (o2.dst.put (o1.dst.put f (.eptr (cellsOf x) 0)) cG) h R):WO P T K call (o1 ::o2 ::l) f h R:=by
 obtain⟨f',h',k1,k2⟩:=k;exact⟨f',h',.allocF eg1 eo1 ev1 er hk eg2 eo2 ev2 hw hb hcs hl hf k1,k2⟩
theorem W.mono{c:ci}{f:F}{h:H}{Q Q':X->F->H->Prop}(k:W P T K call n c f h Q)(hq:∀x f h,Q x f h->Q' x f h):W P T K call n c f h Q':=by
 obtain⟨x,f',h',k1,k2⟩:=k;exact⟨x,f',h',k1,hq _ _ _ k2⟩
theorem W.exec{c:ci}{f f':F}{h h':H}{x:X}{Q:X->F->H->Prop}(e:exec call false n c f h=some (x,f',h'))(k:Q x f' h'):W P T K call n c f h Q:=⟨x,f',h',.exec e,k⟩
theorem W.cond{o:Opd}{a b:ci}{f:F}{h:H}{Q:X->F->H->Prop}{t:Bool}(e:o.ev f=some (.bool t))(k1:t=true->W P T K call n a f h Q)(k2:t=false->W P T K call n b f h Q):W P T K call n (.cond o a b) f h Q:=by
 cases t with
 |true=>
  obtain⟨x,f',h',q1,q2⟩:=k1 rfl;exact⟨x,f',h',.cond (t:=true) e q1,q2⟩
 |false=>
  obtain⟨x,f',h',q1,q2⟩:=k2 rfl;exact⟨x,f',h',.cond (t:=false) e q1,q2⟩
theorem W.block{id:Nat}{c:ci}{f:F}{h:H}{Q:X->F->H->Prop}(k:W P T K call n c f h λx=>Q (unX id x)):W P T K call n (.block id c) f h Q:=by
 obtain⟨x,f',h',k1,k2⟩:=k;exact⟨_,f',h',.block k1,k2⟩
theorem W.view{c:ci}{f f1:F}{h h1:H}{Q:X->F->H->Prop}(e:fG T K f h f1 h1)(k:W P T K call n c f1 h1 Q):W P T K call n c f h Q:=by
 obtain⟨x,f',h',k1,k2⟩:=k;exact⟨x,f',h',.view e k1,k2⟩
theorem W.sem{c:ci}{f:F}{h:H}{x:X}{f':F}{h':H}{Q:X->F->H->Prop}(e:C8 P T K c f h x f' h')(k:Q x f' h'):W P T K call n c f h Q:=⟨x,f',h',.sem e,k⟩
theorem W.viewX{c:ci}{f:F}{h:H}{Q:X->F->H->Prop}(k:W P T K call n c f h λx f1 h1=>∃f' h',fG T K f1 h1 f' h'/\Q x f' h'):W P T K call n c f h Q:=by
 obtain⟨x,f1,h1,k1,f',h',k2,k3⟩:=k;exact⟨x,f',h',.viewX k1 k2,k3⟩
def WD(call:cB)(l:List bS)(s:St)(R:St->Prop):Prop:=∃s',fH call l s=some s'/\R s'
theorem W.regD{l:List bS}{f:F}{h:H}{Q:X->F->H->Prop}(k:WD call l ⟨f,h,[],[]⟩ λs=>bF s.cs (jb s.hs [s.h])/\Q .norm (clr s.f) s.h):W P T K call n (.regD l) f h Q:=by
 obtain⟨s,k1,k2,k3⟩:=k;exact⟨_,_,_,.regD k1 k2,k3⟩
theorem W.regX{M:Nat->Prop}{l:List bS}{f:F}{h:H}{Q:X->F->H->Prop}(hf:gZ M f)(hK:∀id,K id->¬M id)(k:∃s,wq P T M l ⟨f,h,[],[]⟩ s/\bF s.cs (jb s.hs [s.h])/\Q .norm (clr s.f) s.h):W P T K call n (.regD l) f h Q:=by
 obtain⟨s,k1,k2,k3⟩:=k;exact⟨_,_,_,.regX k1 k2 hf hK,k3⟩
theorem bF.nil{hs:List H}:bF [] hs:=λc hc=>by cases hc
theorem bF.cons{c:Tc}{cs:List Tc}{hs:List H}(k:∀h,h∈hs->c.op.run c.vs h=some c.v)(t:bF cs hs):bF (c ::cs) hs:=λx hx j h e h1 h2=>by
 rcases List.mem_cons.1 hx with rfl|hx
 ·exact k h (List.mem_of_getElem? e)
 ·exact t x hx j h e h1 h2
theorem bF.any{o:ROp}{vs:List V}{v:V}{lo hi:Nat}{cs:List Tc}{hs:List H}(k:∀h,o.run vs h=some v)(t:bF cs hs):bF (⟨o,vs,v,lo,hi⟩ ::cs) hs:= .cons (λh _=>k h) t
theorem bF.first{o:ROp}{vs:List V}{v:V}{lo:Nat}{cs:List Tc}{h:H}{hs:List H}(k:o.run vs h=some v)(t:bF cs (h ::hs)):bF (⟨o,vs,v,lo,0⟩ ::cs) (h ::hs):=λx hx j h' e h1 h2=>by
 rcases List.mem_cons.1 hx with rfl|hx
 ·obtain rfl:j=0:=Nat.le_zero.1 h2
  cases e;exact k
 ·exact t x hx j h' e h1 h2
inductive im(P:Program)(T:Ty)(K:Nat->Prop)(call:cB)(n:Nat)(c:ci):Nat->F->H->X->F->H->Prop
 |last {f:F} {h:H} {x:X} {f':F} {h':H} (k:Way P T K call n c f h x f' h') (hx:x≠.norm):im P T K call n c 0 f h x f' h'
 |more {f:F} {h:H} {f1:F} {h1:H} {x:X} {f':F} {h':H} {j:Nat} (k:Way P T K call n c f h .norm f1 h1) (r:im P T K call n c j f1 h1 x f' h'):im P T K call n c (j+1) f h x f' h'
theorem im.way{c:ci}{k:Nat}{f:F}{h:H}{x:X}{f':F}{h':H}(r:im P T K call n c k f h x f' h'):Way P T K call n (.loop c) f h x f' h':=by
 have one:∀k f1 h1,im P T K call n c k f1 h1 x f' h'->∃q:X×F×H,Way P T K call n c f1 h1 q.1 q.2.1 q.2.2/\(q.1= .norm->∃j,j<k/\im P T K call n c j q.2.1 q.2.2 x f' h')/\(q.1≠.norm->q=(x,f',h')):=by
  intro k f1 h1 r;cases r with
  |last k hx=>exact⟨(x,f',h'),k,λe=>absurd e hx,λ_=>rfl⟩
  |more k r=>exact⟨(.norm,_,_),k,λ_=>⟨_,Nat.lt_succ_self _,r⟩,λe=>absurd rfl e⟩
 classical
 refine .loop (λk f1 h1=>im P T K call n c k f1 h1 x f' h') (λk f1 h1=>if e:∃q:X×F×H,Way P T K call n c f1 h1 q.1 q.2.1 q.2.2/\(q.1= .norm->∃j,j<k/\im P T K call n c j q.2.1 q.2.2 x f' h')/\(q.1≠.norm->q=(x,f',h'))then e.choose else(x,f',h')) k r ?_ ?_ ?_
 ·intro k f1 h1 i
  rw [dif_pos (one k f1 h1 i)];exact(one k f1 h1 i).choose_spec.1
 ·intro k f1 h1 i
  rw [dif_pos (one k f1 h1 i)];exact(one k f1 h1 i).choose_spec.2.1
 ·intro k f1 h1 i
  rw [dif_pos (one k f1 h1 i)];exact(one k f1 h1 i).choose_spec.2.2
def FC(T:Ty)(K:Nat->Prop)(I:Nat->F->H->Prop)(k:Nat)(Q:X->F->H->Prop)(x:X)(f:F)(h:H):Prop:=match x with
 |.norm=>∃f' h',fG T K f h f' h'/\∃j,j<k/\I j f' h'
 |x=>Q x f h
theorem W.loop{c:ci}{Q:X->F->H->Prop}(I:Nat->F->H->Prop)(rnd:∀k f h,I k f h->W P T K call n c f h (FC T K I k Q)):∀{k f h},I k f h->W P T K call n (.loop c) f h Q:=by
 have key:∀k f h,I k f h->∃j x f' h',im P T K call n c j f h x f' h'/\Q x f' h':=by
  intro k
  induction k using Nat.strongRecOn with
  |ind k ih=>
   intro f h i;obtain⟨x,f1,h1,k1,k2⟩:=rnd k f h i;cases x with
   |norm=>
    obtain⟨f2,h2,v,j,hj,ij⟩:=(k2:∃f' h',fG T K f1 h1 f' h'/\∃j,j<k/\I j f' h')
    obtain⟨j',x,f',h',q1,q2⟩:=ih j hj f2 h2 ij;exact⟨j'+1,x,f',h',.more (.viewX k1 v) q1,q2⟩
   |_=>exact⟨0,_,f1,h1,.last k1 (λe=>by cases e),k2⟩
 intro k f h i;obtain⟨j,x,f',h',q1,q2⟩:=key k f h i;exact⟨x,f',h',q1.way,q2⟩
theorem W.count{c:ci}{Q:X->F->H->Prop}(m:Nat)(I:Nat->F->H->Prop)(rnd:∀i f h,i<=m->I i f h->W P T K call n c f h (λx f h=>match x with
  |.norm=>∃f' h',fG T K f h f' h'/\i<m/\I (i+1) f' h'
  |x=>Q x f h)) {i:Nat} {f:F} {h:H} (hi:i<=m) (k:I i f h):W P T K call n (.loop c) f h Q:=by
 refine W.loop (λk f h=>∃i,i<=m/\k=m-i/\I i f h) ?_ (k:=m-i) ⟨i,hi,rfl,k⟩;rintro k f h ⟨i,hi,rfl,k⟩;refine(rnd i f h hi k).mono λx f h q=>?_;cases x with
 |norm=>
  obtain⟨f',h',v,hlt,k'⟩:=(q:∃f' h',fG T K f h f' h'/\i<m/\I (i+1) f' h')
  exact⟨f',h',v,m-(i+1),by omega,i+1,hlt,rfl,k'⟩
 |_=>exact q
end
end
end Ev
end Go.Proofs.YtdfphfdnoobikaaGreatDoor
