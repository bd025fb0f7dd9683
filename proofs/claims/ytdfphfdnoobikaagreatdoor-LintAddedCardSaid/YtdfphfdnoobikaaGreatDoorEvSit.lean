/-
  Situations:what stands for the memory,in an environment that may grow;what calls and ways may do to it.
-/
import Derived.Test.YtdfphfdnoobikaaGreatDoorEvExec
namespace Go.Proofs.YtdfphfdnoobikaaGreatDoor
namespace Ev
section
section
variable {P:Program} {T:Ty} {m N:Nat}
def noE:En:=⟨λ_=>none⟩
structure Sit(T:Ty)(E:En)(g:G)(h:H)(w:World):Prop where
 wr:@WR E T g h w
 glob:@gY E T g h w
theorem Sit.lt{E:En}{g:G}{h:H}{w:World}(s:Sit T E g h w){id b o z:Nat}(e:g id=some (b,o,z)):b<w.heap.size:=@WR.lt E _ _ _ _ s.wr _ _ _ _ e
theorem Sit.env{E:En}{g:G}{h:H}{w:World}(s:Sit T E g h w){b:Nat}{c:Array Value}(e:E.ro b=some c):(∃t:TypeId×(Nat×Nat),w.heap[b]? =some (.cells c t.1 t.2))/\∀id o z,g id≠some (b,o,z):=@gY.env E _ _ _ _ s.glob b c e
theorem Sit.pin{E:En}{g:G}{h:H}{w:World}(s:Sit T E g h w):∀p,p∈T.pin->(∃z,g p.1=some (p.2.1,0,z))/\h.blk p.1=some (.ro p.2.2.1 p.2.2.2):=@gY.pin E _ _ _ _ s.glob
theorem Sit.mk'{E:En}{g:G}{h:H}{w:World}(r:@WR E T g h w)(p:∀p,p∈T.pin->(∃z,g p.1=some (p.2.1,0,z))/\h.blk p.1=some (.ro p.2.2.1 p.2.2.2))
  (e:∀b c,E.ro b=some c->(∃t:TypeId×(Nat×Nat),w.heap[b]? =some (.cells c t.1 t.2))/\∀id o z,g id≠some (b,o,z)):Sit T E g h w:=⟨r,@gY.mk E T g h w p e⟩
structure fT(T:Ty)(M:Nat->Prop)(E:En)(g:G)(h:H)(w:World)(E':En)(g':G)(h':H)(w':World):Prop where
 envl:E.le E'
 envn:∀b c,E'.ro b=some c->E.ro b=some c\/w.heap.size<=b
 le:∀id x,¬M id->g id=some x->g' id=some x
 next:h.next<=h'.next
 sit:Sit T E' g' h' w'
 size:w.heap.size<=w'.heap.size
 keep:∀b,b<w.heap.size->(∀id o z,g id≠some (b,o,z))->w'.heap[b]? =w.heap[b]?
 fresh:∀id b o z,g' id=some (b,o,z)->w.heap.size<=b\/∃i o' z',g i=some (b,o',z')
 pin:∀p,p∈T.pin->w'.heap[p.2.1]? =w.heap[p.2.1]?
 os:w'.os=w.os
 tape:w'.tape=w.tape
 output:w'.output=w.output
theorem fT.refl{M:Nat->Prop}{E:En}{g:G}{h:H}{w:World}(s:Sit T E g h w):fT T M E g h w E g h w:=
 ⟨E.le_refl,λ_ _ h=>.inl h,λ_ _ _ h=>h,Nat.le_refl _,s,Nat.le_refl _,λ_ _ _=>rfl,λid b o z e=>.inr ⟨id,o,z,e⟩,λ_ _=>rfl,rfl,rfl,rfl⟩
theorem Sit.ext{E:En}{g g':G}{h h':H}{w w':World}(s:Sit T E g h w)(x:@Ext E T g h w g' h' w'):Sit T E g' h' w':=
 ⟨@Ext.wr E _ _ _ _ _ _ _ x,@gY.ext E _ _ _ _ _ _ _ s.glob x⟩
theorem fT.of{M:Nat->Prop}{E:En}{g g':G}{h h':H}{w w':World}(s:Sit T E g h w)(x:@Ext E T g h w g' h' w'):fT T M E g h w E g' h' w':=by
 refine⟨E.le_refl,λ_ _ h=>.inl h,λid y _=>@Ext.le E _ _ _ _ _ _ _ x id y,@Ext.next E _ _ _ _ _ _ _ x,s.ext x,@Ext.size E _ _ _ _ _ _ _ x,@Ext.keep E _ _ _ _ _ _ _ x,λid b o z e=>?_,λp hp=>?_,@Ext.os E _ _ _ _ _ _ _ x,@Ext.tape E _ _ _ _ _ _ _ x,@Ext.output E _ _ _ _ _ _ _ x⟩
 ·cases k:g id with
  |none=>exact @Ext.fresh E _ _ _ _ _ _ _ x id b o z e k
  |some y=>rw [@Ext.le E _ _ _ _ _ _ _ x id y k]at e;cases e;exact .inr ⟨id,o,z,k⟩
 ·obtain⟨⟨z,k1⟩,k2⟩:=s.pin p hp
  exact(@Ext.ro E _ _ _ _ _ _ _ x _ _ _ _ _ _ k1 k2).2
def Pn(T:Ty)(K:Nat->Prop):Prop:=∀id,K id->∃p,p∈T.pin/\p.1=id
structure Sx(T:Ty)(K:Nat->Prop)(E0:En)(g0:G)(w0:World)(E:En)(g:G)(h:H)(w:World):Prop where
 sit:Sit T E g h w
 envl:E0.le E
 envn:∀b c,E.ro b=some c->E0.ro b=some c\/w0.heap.size<=b\/(Pn T K/\∃id o z,g0 id=some (b,o,z))
 fix:∀id x,K id->g0 id=some x->g id=some x
 size:w0.heap.size<=w.heap.size
 keep:∀b,b<w0.heap.size->(∀id o z,g0 id≠some (b,o,z))->w.heap[b]? =w0.heap[b]?
 inv:∀id b o z,g id=some (b,o,z)->w0.heap.size<=b\/∃i o' z',g0 i=some (b,o',z')
 pin:∀p,p∈T.pin->w.heap[p.2.1]? =w0.heap[p.2.1]?
 os:w.os=w0.os
 tape:w.tape=w0.tape
 output:w.output=w0.output
theorem Sx.refl{K:Nat->Prop}{E:En}{g:G}{h:H}{w:World}(s:Sit T E g h w):Sx T K E g w E g h w:=
 ⟨s,E.le_refl,λ_ _ h=>.inl h,λ_ _ _ h=>h,Nat.le_refl _,λ_ _ _=>rfl,λid b o z e=>.inr ⟨id,o,z,e⟩,λ_ _=>rfl,rfl,rfl,rfl⟩
theorem Sx.ext{K M:Nat->Prop}{E0 E E':En}{g0 g g':G}{h h':H}{w0 w w':World}(s:Sx T K E0 g0 w0 E g h w)(x:fT T M E g h w E' g' h' w')(hM:∀id,K id->¬M id):Sx T K E0 g0 w0 E' g' h' w':=by
 refine⟨x.sit,E0.le_trans s.envl x.envl,λb c e=>?_,λid y hk e=>x.le id y (hM id hk) (s.fix id y hk e),Nat.le_trans s.size x.size,λb hb hn=>?_,λid b o z e=>?_,λp hp=>(x.pin p hp).trans (s.pin p hp),x.os.trans s.os,x.tape.trans s.tape,x.output.trans s.output⟩
 ·rcases x.envn b c e with k|k
  ·exact s.envn b c k
  ·exact .inr (.inl (Nat.le_trans s.size k))
 ·refine(x.keep b (Nat.lt_of_lt_of_le hb s.size) λid o z e=>?_).trans (s.keep b hb hn)
  rcases s.inv id b o z e with k | ⟨i,o',z',k⟩
  ·omega
  ·exact hn i o' z' k
 ·rcases x.fresh id b o z e with k | ⟨i,o',z',k⟩
  ·exact .inl (Nat.le_trans s.size k)
  ·exact s.inv i b o' z' k
structure Con(P:Program)(T:Ty)(M:Nat->Prop)(f:FuncId)(vs:List V)(h:H)(v:V)(h':H):Prop where
 out:∀E g w us,Sit T E g h w->@VRs E g vs us->∃fn,P.funcs[f]? =some fn/\fn.name≠ "runtime.NumGoroutine"/\fn.body.isNone=false/\
  CallsIn Fence.wide 0 P f us.toArray w λe w'=>∃E' g' u,e= .returned u/\@VR E' g' v u/\fT T M E g h w E' g' h' w'
def fG(T:Ty)(K:Nat->Prop)(f1:F)(h1:H)(f':F)(h':H):Prop:=
 ∀m N E0 g0 w0 E g w tmps,Sx T K E0 g0 w0 E g h1 w->@FR E g m N f1 tmps->∃E' g',Sx T K E0 g0 w0 E' g' h' w/\@FR E' g' m N f' tmps/\∀id b o z,g' id=some (b,o,z)->∃i o' z',g i=some (b,o',z')
def dg(M:Nat->Prop)(v:V):Prop:=∀(E:En) g g' u,(∀id x,¬M id->g id=some x->g' id=some x)->@VR E g v u->@VR E g' v u
def gZ(M:Nat->Prop)(f:F):Prop:=∀p,p∈f.loc\/p∈f.tmp->dg M p.2
theorem gZ.fr{M:Nat->Prop}{f:F}(hf:gZ M f){E:En}{g g':G}(hg:∀id x,¬M id->g id=some x->g' id=some x){tmps:Array Value}(h:@FR E g m N f tmps):@FR E g' m N f tmps:=by
 refine⟨h.1,λt v e=>?_⟩;obtain⟨u,h1,h2⟩:=h.2 t v e;refine⟨u,h1,?_⟩;unfold rdn at e
 split at e
 ·exact hf _ (.inl (@ky noE _ _ _ e)) E g g' u hg h2
 ·exact hf _ (.inr (@ky noE _ _ _ e)) E g g' u hg h2
def noM:Nat->Prop:=λ_=>False
theorem gZ.none{f:F}:gZ noM f:=λp _ E g g' u hg h=>@VR.mono E g g' (λid x=>hg id x (λk=>k)) _ _ h
def gX(o:COp)(vs:List V):Option (FuncId×List V):=
 match o,vs with
 |.call g,vs=>some (g,vs)
 |.callv,.func (.func g) first captured ::args=>some (g,first++(args++captured))
 |_,_=>none
def Frz(cs:List V)(mk:Nat->V)(v:V):Prop:=(mk=(λi=>.ptr i 0)/\v= .eptr cs 0)\/∃n es,mk=(λi=>.sl i 0 n n true es)/\cs.length=n*es/\v= .lst n es cs
inductive gH(P:Program)(T:Ty)(K:Nat->Prop)(call:cB):List bS->F->H->F->H->Prop
 |nil {f:F} {h:H}:gH P T K call [] f h f h
 |op {o:bS} {l:List bS} {f:F} {h:H} {f1:F} {h1:H} {f':F} {h':H} (e:o.run call f h=some (f1,h1)) (k:gH P T K call l f1 h1 f' h'):gH P T K call (o ::l) f h f' h'
 |con {o:bS} {l:List bS} {f:F} {h:H} {f':F} {h':H} {M:Nat->Prop} {vs vs':List V} {fn:FuncId} {v:V} {h1:H} (eg:bX f o.guard=some true) (ev:evs f o.args=some vs) (ec:gX o.op vs=some (fn,vs'))
   (c:Con P T M fn vs' h v h1) (hK:∀id,K id->¬M id) (hf:gZ M f) (k:gH P T K call l (o.dst.put f v) h1 f' h'):gH P T K call (o ::l) f h f' h'
 |mkF {o:bS} {l:List bS} {f:F} {h:H} {f':F} {h':H} {ao:AOp} {vs cs:List V} {mk:Nat->V} {v:V} (eg:bX f o.guard=some true) (ev:evs f o.args=some vs) (eo:o.op= .a ao) (er:ao.run vs=some (.cells cs.length (cq cs 0 .e) none false,mk))
   (hz:Frz cs mk v) (hl:cs.length<=bR) (hf:∀c,c∈cs->dg (λid=>id=h.next) c) (k:gH P T K call l (o.dst.put f v) h f' h'):gH P T K call (o ::l) f h f' h'
 |allocF {o1 o2:bS} {l:List bS} {f:F} {h:H} {f':F} {h':H} {zero:List V} {n:Nat} {x:V} {h2:H} {cs':Tr V} (eg1:bX f o1.guard=some true) (eo1:o1.op= .a (.alloc zero)) (ev1:evs f o1.args=some [])
   (er:(AOp.alloc zero).run []=some (.cells zero.length (cq zero 0 .e) none false,λi=>.ptr i 0)) (hk:h.next<bR) (eg2:bX (o1.dst.put f (.ptr h.next 0)) o2.guard=some true) (eo2:o2.op= .e (.store n)) (ev2:evs (o1.dst.put f (.ptr h.next 0)) o2.args=some [.ptr h.next 0,x])
   (hw:H.wr h.next (cellsOf x) 0 ⟨h.t.put h.next (some (.cells zero.length (cq zero 0 .e) none false)),Nat.succ h.next⟩=some h2) (hb:h2.blk h.next=some (.cells (cellsOf x).length cs' none false)) (hcs:∀j v,(cellsOf x)[j]? =some v->cs'.get j=some v)
   (hl:(cellsOf x).length=n) (hf:∀c,c∈cellsOf x->dg (λid=>id=h.next) c) (k:gH P T K call l (o2.dst.put (o1.dst.put f (.eptr (cellsOf x) 0)) cG) h f' h'):gH P T K call (o1 ::o2 ::l) f h f' h'
 |view {l:List bS} {f:F} {h:H} {f1:F} {h1:H} {f':F} {h':H} (e:fG T K f h f1 h1) (k:gH P T K call l f1 h1 f' h'):gH P T K call l f h f' h'
inductive DoX(P:Program)(T:Ty)(M:Nat->Prop)(co:bS)(vs:List V)(s:St)(v:V)(s':St):Prop
 |p {o:POp} (eo:co.op= .p o) (e:o.run vs=some v) (eh:s'.h=s.h) (ec:s'.cs=s.cs):DoX P T M co vs s v s'
 |r {o:ROp} (eo:co.op= .r o) (e:o.run vs s.h=some v) (eh:s'.h=s.h) (ec:s'.cs=⟨o,vs,v,co.lo,co.hi⟩ ::s.cs):DoX P T M co vs s v s'
 |mkF {ao:AOp} {cs:List V} {mk:Nat->V} (eo:co.op= .a ao) (er:ao.run vs=some (.cells cs.length (cq cs 0 .e) none false,mk)) (hz:Frz cs mk v) (hl:cs.length<=bR) (hf:∀M c,c∈cs->dg M c) (eh:s'.h=s.h) (ec:s'.cs=s.cs):DoX P T M co vs s v s'
 |con {vs':List V} {fn:FuncId} (he:isE co.op=true) (e:gX co.op vs=some (fn,vs')) (c:Con P T M fn vs' s.h v s'.h) (hf:gZ M s.f) (ec:s'.cs=s.cs):DoX P T M co vs s v s'
structure nP(P:Program)(T:Ty)(M:Nat->Prop)(co:bS)(s:St)(v:V)(s':St):Prop where
 f:s'.f=co.dst.put s.f v
 hs:s'.hs=if isE co.op=true then s.h ::s.hs else s.hs
 main:(bX s.f co.guard=some false/\v=cG/\s'.h=s.h/\s'.cs=s.cs)\/∃vs,bX s.f co.guard=some true/\evs s.f co.args=some vs/\DoX P T M co vs s v s'
inductive wq(P:Program)(T:Ty)(M:Nat->Prop):List bS->St->St->Prop
 |nil {s:St}:wq P T M [] s s
 |cons {co:bS} {l:List bS} {s s1 s':St} {v:V} (st:nP P T M co s v s1) (k:wq P T M l s1 s'):wq P T M (co ::l) s s'
def Dc(T:Ty)(K:Nat->Prop)(m N:Nat)(E0:En)(g0:G)(w0:World)(x:X)(f':F)(h':H)(e:Exit)(a':Act)(w':World):Prop:=
 ∃E' g',Sx T K E0 g0 w0 E' g' h' w'/\@FR E' g' m N f' a'.tmps/\dZ [] g' w' w0.heap.size a'.defers/\mF x e
def C8(P:Program)(T:Ty)(K:Nat->Prop)(cc:ci)(f:F)(h:H)(x:X)(f':F)(h':H):Prop:=
 ∀m N E0 g0 w0 (c:Code),comp T m N c=some cc->∀(E:En) (g:G) (a:Act) (w:World),Sx T K E0 g0 w0 E g h w->@FR E g m N f a.tmps->dZ [] g w w0.heap.size a.defers->c.wpIn (fen none) 0 P (Dc T K m N E0 g0 w0 x f' h') a w
inductive Way(P:Program)(T:Ty)(K:Nat->Prop)(call:cB)(n:Nat):ci->F->H->X->F->H->Prop
 |exec {c:ci} {f:F} {h:H} {x:X} {f':F} {h':H} (e:exec call false n c f h=some (x,f',h')):Way P T K call n c f h x f' h'
 |reg {ops:List bS} {f:F} {h:H} {f':F} {h':H} (k:gH P T K call ops f h f' h'):Way P T K call n (.reg ops) f h .norm (clr f') h'
 |regD {ops:List bS} {f:F} {h:H} {s:St} (e:fH call ops ⟨f,h,[],[]⟩=some s) (hc:bF s.cs (jb s.hs [s.h])):Way P T K call n (.regD ops) f h .norm (clr s.f) s.h
 |regX {ops:List bS} {f:F} {h:H} {s:St} {M:Nat->Prop} (e:wq P T M ops ⟨f,h,[],[]⟩ s) (hc:bF s.cs (jb s.hs [s.h])) (hf:gZ M f) (hK:∀id,K id->¬M id):Way P T K call n (.regD ops) f h .norm (clr s.f) s.h
 |seq {a b:ci} {f:F} {h:H} {f1:F} {h1:H} {x:X} {f':F} {h':H} (k1:Way P T K call n a f h .norm f1 h1) (k2:Way P T K call n b f1 h1 x f' h'):Way P T K call n (.seq a b) f h x f' h'
 |seqX {a b:ci} {f:F} {h:H} {x:X} {f':F} {h':H} (k1:Way P T K call n a f h x f' h') (hx:x≠.norm):Way P T K call n (.seq a b) f h x f' h'
 |cond {o:Opd} {a b:ci} {f:F} {h:H} {x:X} {f':F} {h':H} {t:Bool} (e:o.ev f=some (.bool t)) (k:Way P T K call n (if t then a else b) f h x f' h'):Way P T K call n (.cond o a b) f h x f' h'
 |block {id:Nat} {c:ci} {f:F} {h:H} {x:X} {f':F} {h':H} (k:Way P T K call n c f h x f' h'):Way P T K call n (.block id c) f h (unX id x) f' h'
 |loop {c:ci} {f:F} {h:H} {x:X} {f':F} {h':H} (I:Nat->F->H->Prop) (nx:Nat->F->H->X×F×H) (k:Nat) (i:I k f h)
   (rnd:∀k f1 h1,I k f1 h1->Way P T K call n c f1 h1 (nx k f1 h1).1 (nx k f1 h1).2.1 (nx k f1 h1).2.2)
   (more:∀k f1 h1,I k f1 h1->(nx k f1 h1).1= .norm->∃j,j<k/\I j (nx k f1 h1).2.1 (nx k f1 h1).2.2)
   (last:∀k f1 h1,I k f1 h1->(nx k f1 h1).1≠.norm->nx k f1 h1=(x,f',h')):Way P T K call n (.loop c) f h x f' h'
 |view {c:ci} {f:F} {h:H} {f1:F} {h1:H} {x:X} {f':F} {h':H} (e:fG T K f h f1 h1) (k:Way P T K call n c f1 h1 x f' h'):Way P T K call n c f h x f' h'
 |sem {c:ci} {f:F} {h:H} {x:X} {f':F} {h':H} (e:C8 P T K c f h x f' h'):Way P T K call n c f h x f' h'
 |viewX {c:ci} {f:F} {h:H} {f1:F} {h1:H} {x:X} {f':F} {h':H} (k:Way P T K call n c f h x f1 h1) (e:fG T K f1 h1 f' h'):Way P T K call n c f h x f' h'
end
end
section
section
variable {P:Program} {T:Ty} {m N:Nat}
theorem dZ.of{g g':G}{w:World}{B:Nat}{ds:List Deferred}(k:dZ [] g w B ds)(hg:∀id b o z,g' id=some (b,o,z)->∃i o' z',g i=some (b,o',z')):dZ [] g' w B ds:=by
 obtain⟨rs,h1,h2,h3⟩:=k;refine⟨rs,h1,h2,λr hr=>?_⟩;obtain⟨a,b,c,d⟩:=h3 r hr;refine⟨a,b,λid o z e=>?_,d⟩;obtain⟨i,o',z',q⟩:=hg id r o z e;exact c i o' z' q
theorem dZ.extX{M:Nat->Prop}{E E':En}{g g':G}{h h':H}{w w':World}{B:Nat}{ds:List Deferred}(x:fT T M E g h w E' g' h' w')(k:dZ [] g w B ds):dZ [] g' w' B ds:=by
 obtain⟨rs,h1,h2,h3⟩:=k;refine⟨rs,h1,h2,λr hr=>?_⟩;obtain⟨k1,k2,k3,k4⟩:=h3 r hr;refine⟨k1,Nat.lt_of_lt_of_le k2 x.size,λid o z e=>?_,(x.keep r k2 k3).trans k4⟩;rcases x.fresh id r o z e with h | ⟨i,o',z',h⟩
 ·omega
 ·exact k3 i o' z' h
theorem uI{M:Nat->Prop}{E:En}{g:G}{h h1:H}{w:World}(s:Sit T E g h w){o:Oper}{co:COp}{os:List Operand}{a:Act}(hc:bI T o.op=some (co,os)){vs vs':List V}{fn:FuncId}{v:V}(hv:@VRs E g vs (os.map a.eval))
  (ec:gX co vs=some (fn,vs')) (c:Con P T M fn vs' h v h1) {rd:Option Nat} {KK:Act->World->Prop} {Q:Exit->Act->World->Prop} (hK:∀E' g' w' u,fT T M E g h w E' g' h1 w'->@VR E' g' v u->KK (a.put o.dst u) w'):o.wpIn (fen rd) 0 P a w KK Q:=by
 refine⟨λ_ _=>trivial,?_⟩;rw [Oper.semAt_eq _ _ _ (@fi noE _ _ _ _ hc)];cases co with
 |call f=>
  obtain⟨rfl,rfl⟩:f=fn/\vs=vs':=by cases ec;exact⟨rfl,rfl⟩
  obtain⟨args,at',he,ho⟩:∃args at',o.op= .call ⟨.value (.func f),args,at'⟩/\os=args.toList:=by
   exact @ph noE _ _ _ _ hc
  subst ho;obtain⟨fn',k1,k2,k3,k4⟩:=c.out E g w _ s hv;have hrun:(execOp a.eval o).run P w= .ok (.enter f (args.map a.eval)) w:=by
   have hb:¬fn'.body=none:=λe=>by rw [e]at k3;cases k3
   simp [execOp,he,resolve,Act.eval,Deferred.ofValue,invoke,callFunc,k1,k2,hb]
  have ha:(args.toList.map a.eval).toArray=args.map a.eval:=by apply Array.ext';simp
  rw [ha]at k4;rw [hrun,Oper.uponIn_enter];refine⟨@iV noE rd,@iF noE _ _ _ _ _ _ (k4.mono ?_)⟩;rintro e w' ⟨E',g',u,rfl,hu,hx⟩;exact hK E' g' w' u hx hu
 |callv=>
  obtain⟨x,args,at',he,ho⟩:∃x args at',o.op= .call ⟨.value x,args,at'⟩/\os=x ::args.toList:=by
   exact @nG noE _ _ _ hc
  subst ho;cases vs with
  |nil=>cases ec
  |cons fv vs=>
  have hv':@VRs E g (fv ::vs) (a.eval x ::args.toList.map a.eval):=by simpa using hv
  obtain⟨hf,hvs⟩:@VR E g fv (a.eval x)/\@VRs E g vs (args.toList.map a.eval):=by
   generalize a.eval x=y at hv';cases hv'
   rename_i k1 k2
   exact⟨k1,k2⟩
  cases fv<;>first|(cases ec;done)|skip
  rename_i f first captured
  cases f<;>first|(cases ec;done)|skip
  rename_i f
  obtain⟨rfl,rfl⟩:f=fn/\first++(vs++captured)=vs':=by cases ec;exact⟨rfl,rfl⟩
  generalize hfu:a.eval x=fu at hf;cases hf
  rename_i xs ys ha hb
  obtain⟨fn',k1,k2,k3,k4⟩:=c.out E g w _ s (@VRs.append E g _ _ _ _ ha (@VRs.append E g _ _ _ _ hvs hb));have hrun:(execOp a.eval o).run P w= .ok (.enter f (xs++(args.toList.map a.eval++ys)).toArray) w:=by
   have he':xs.toArray++(args.map a.eval)++ys.toArray=(xs++(args.toList.map a.eval++ys)).toArray:=by apply Array.ext';simp
   have hb:¬fn'.body=none:=λe=>by rw [e]at k3;cases k3
   simp [execOp,he,resolve,hfu,Deferred.ofValue,invoke,callFunc,k1,k2,hb]
  rw [hrun,Oper.uponIn_enter];refine⟨@iV noE rd,@iF noE _ _ _ _ _ _ (k4.mono ?_)⟩;rintro e w' ⟨E',g',u,rfl,hu,hx⟩;exact hK E' g' w' u hx hu
 |_=>cases ec
theorem uH(hT:cN P T){E:En}{g:G}{h:H}{w:World}(s:Sit T E g h w){o:Oper}{ao:AOp}{os:List Operand}{a:Act}(hc:bI T o.op=some (.a ao,os)){vs cs:List V}(hv:@VRs E g vs (os.map a.eval)){mk:Nat->V}{v:V}
  (er:ao.run vs=some (.cells cs.length (cq cs 0 .e) none false,mk)) (hz:Frz cs mk v) (hl:cs.length<=bR) (hf:∀c,c∈cs->dg (λid=>id=h.next) c) {rd:Option Nat} {KK:Act->World->Prop} {Q:Exit->Act->World->Prop} (hK:∀E' w' u,fT T noM E g h w E' g h w'->@VR E' g v u->KK (a.put o.dst u) w'):o.wpIn (fen rd) 0 P a w KK Q:=by
 classical
 refine⟨λ_ _=>trivial,?_⟩;rw [Oper.semAt_eq _ _ _ (@fi noE _ _ _ _ hc)];have hm:=@Ez E P T g a.eval hT _ _ _ hc _ _ _ hv er;obtain⟨obj,z,val,m1,m2,m3⟩:=@kM.make E _ _ _ _ _ _ _ hm;have hnone:g h.next=none:=by
  cases e:g h.next with
  |none=>rfl
  |some x=>exact absurd (@WR.dom E _ _ _ _ s.wr _ _ e) (by omega)
 have hle:=@eS noE g _ (w.heap.size,0,z) hnone;have hval:=m2 _ _ _ hle (@cm noE _ _ _);have hbr:=m3 _ (w.alloc obj) _ _ hle (@cm noE _ _ _) (@da noE w obj);obtain⟨b,o',z',c,t,k1,k2,k3,k4,k5,k6⟩:=(hbr:@Cells E (eF g h.next (w.heap.size,0,z)) (w.alloc obj) h.next _ _)
 rw [@cm noE]at k1;cases k1;have hno:E.ro w.heap.size=none:=by
  cases e:E.ro w.heap.size with
  |none=>rfl
  |some c=>
   obtain⟨⟨t,q⟩,_⟩:=s.env e;have:=(Array.getElem?_eq_some_iff.1 q).1;omega
 let E':En:=⟨λb=>if b=w.heap.size then some c else E.ro b⟩
 have hE:E.le E':=λb c' e=>by
  show(if b=w.heap.size then some c else E.ro b)=some c';rw [if_neg (λq=>by rw [q,hno]at e;cases e),e]
 have hEn:E'.ro w.heap.size=some c:=if_pos rfl;have hEo:∀b c',E'.ro b=some c'->b=w.heap.size/\c'=c\/E.ro b=some c':=λb c' e=>by
  have e:(if b=w.heap.size then some c else E.ro b)=some c':=e
  by_cases q:b=w.heap.size
  ·rw [if_pos q]at e;cases e;exact .inl ⟨q,rfl⟩
  ·rw [if_neg q]at e;exact .inr e
 have hcs:∀j x,cs[j]? =some x->∃u,c[0+j]? =some u/\@VR E g x u:=λj x e=>by
  have hj:=(List.getElem?_eq_some_iff.1 e).1;obtain⟨u,q1,q2,_⟩:=k6 j x hj (by rw [@cU noE cs 0 .e j (by omega),if_pos (by omega),Nat.sub_zero];exact e);refine⟨u,q1,hf x (List.mem_of_getElem? e) E _ g u (λid y hn hy=>?_) q2⟩;have:eF g h.next (w.heap.size,0,z) id=g id:=by unfold eF;rw [if_neg hn]
  rwa [this]at hy
 have hxs:∃xs,@VRs E g cs xs/\∀j u,xs[j]? =some u->c[0+j]? =some u:=by
  have:∀(l:List V) (k:Nat),(∀j x,l[j]? =some x->∃u,c[k+j]? =some u/\@VR E g x u)->∃xs,@VRs E g l xs/\∀j u,xs[j]? =some u->c[k+j]? =some u:=by
   intro l
   induction l with
   |nil=>exact λk _=>⟨[],@VRs.nil E g,λj u e=>by simp at e⟩
   |cons v l ih=>
    intro k h;obtain⟨u,h1,h2⟩:=h 0 v (by simp);obtain⟨xs,k1,k2⟩:=ih (k+1) λj v e=>by
     obtain⟨u,q1,q2⟩:=h (j+1) v (by simpa using e);exact⟨u,by rw [show k+1+j=k+(j+1) by omega];exact q1,q2⟩
    refine⟨u ::xs,@VRs.cons E g _ _ _ _ h2 k1,λj y e=>?_⟩;cases j with
    |zero=>simp at e;subst e;exact h1
    |succ j=>rw [show k+(j+1)=k+1+j by omega];exact k2 j y (by simpa using e)
  exact this cs 0 hcs
 obtain⟨xs,x1,x2⟩:=hxs;have hvr:@VR E' g v (val w.heap.size):=by
  generalize val w.heap.size=vv at hval;rcases hz with⟨rfl,rfl⟩ | ⟨n,es,rfl,hn,rfl⟩
  ·cases hval with
   |ptr e=>
    rw [@cm noE]at e;cases e;exact @VR.eptr E' g _ _ _ _ _ _ hEn x2 (x1.env hE)
  ·cases hval with
   |slx e=>
    rw [@cm noE]at e;cases e;exact @VR.lst E' g _ _ _ _ _ _ _ _ hEn x2 hn (x1.env hE)
   |slx0 e=>
    rw [@cm noE]at e;cases e;obtain rfl:=List.length_eq_zero_iff.1 (hn.trans (Nat.zero_mul _));cases x1;exact @VR.lst E' g _ _ _ _ _ c _ [] hEn (λj u e=>by simp at e) (by simp) (@VRs.nil E' g)
 have hkeep:∀b,b<w.heap.size->(w.alloc obj).heap[b]? =w.heap[b]? :=λb hb=>by
  show(w.heap.push obj)[b]? =_;rw [Array.getElem?_push,if_neg (by omega)]
 have hsize:(w.alloc obj).heap.size=w.heap.size+1:=by show(w.heap.push obj).size=_;rw [Array.size_push]
 rw [m1 w o rfl,Oper.uponIn_value];refine hK E' _ _ ⟨hE,λb c' e=>?_,λ_ _ _ e=>e,Nat.le_refl _,Sit.mk' ?_ s.pin (λb c' e=>?_),by rw [hsize];omega,λb hb _=>hkeep b hb,λid b o z e=>.inr ⟨id,o,z,e⟩,λp hp=>hkeep _ (by
  obtain⟨⟨z,q⟩,_⟩:=s.pin p hp;exact s.lt q),rfl,rfl,rfl⟩ hvr
 ·rcases hEo b c' e with⟨q,_⟩|q
  ·exact .inr (by omega)
  ·exact .inl q
 ·have r:=WR.env hE s.wr
  cases r with
  |mk a b c d e f k' x=>
   exact @WR.mk E' T g h _ a b c (λid b o z q=>by rw [hsize];exact Nat.lt_succ_of_lt (d _ _ _ _ q)) (λid y b e1 e2=>by
    obtain⟨b',o',z⟩:=y;exact @BR.move E' _ _ _ _ _ _ _ _ _ e1 (hkeep _ (d _ _ _ _ e1)) (e _ _ _ e1 e2)) f k' x
 ·rcases hEo b c' e with⟨rfl,rfl⟩|q
  ·exact⟨⟨(t,0,0),k2⟩,λid o z q=>absurd (s.lt q) (by omega)⟩
  ·obtain⟨⟨t,q1⟩,q2⟩:=s.env q
   exact⟨⟨t,(hkeep _ (Array.getElem?_eq_some_iff.1 q1).1).trans q1⟩,q2⟩
end
end
section
section
variable {P:Program} {T:Ty} {M:Nat->Prop} {m N:Nat}
theorem fT.trans{E0 E E':En}{g0 g g':G}{h0 h h':H}{w0 w w':World}(a:fT T M E0 g0 h0 w0 E g h w)(b:fT T M E g h w E' g' h' w'):fT T M E0 g0 h0 w0 E' g' h' w':=by
 refine⟨E0.le_trans a.envl b.envl,λx c e=>?_,λid y hm e=>b.le id y hm (a.le id y hm e),Nat.le_trans a.next b.next,b.sit,Nat.le_trans a.size b.size,λx hx hn=>?_,λid x o z e=>?_,λp hp=>(b.pin p hp).trans (a.pin p hp),b.os.trans a.os,b.tape.trans a.tape,b.output.trans a.output⟩
 ·rcases b.envn x c e with k|k
  ·exact a.envn x c k
  ·exact .inr (Nat.le_trans a.size k)
 ·refine(b.keep x (Nat.lt_of_lt_of_le hx a.size) λid o z e=>?_).trans (a.keep x hx hn)
  rcases a.fresh id x o z e with k | ⟨i,o',z',k⟩
  ·omega
  ·exact hn i o' z' k
 ·rcases b.fresh id x o z e with k | ⟨i,o',z',k⟩
  ·exact .inl (Nat.le_trans a.size k)
  ·exact a.fresh i x o' z' k
theorem fT.wk{M':Nat->Prop}(hM:∀id,M' id->M id){E E':En}{g g':G}{h h':H}{w w':World}(x:fT T M' E g h w E' g' h' w'):fT T M E g h w E' g' h' w':=
 ⟨x.envl,x.envn,λid y hm e=>x.le id y (λk=>hm (hM id k)) e,x.next,x.sit,x.size,x.keep,x.fresh,x.pin,x.os,x.tape,x.output⟩
inductive cX(P:Program)(T:Ty)(M:Nat->Prop)(cl:List bS)(hi:Nat->Nat):Nat->St->List Ent->St->Prop
 |nil {k:Nat} {s:St}:cX P T M cl hi k s [] s
 |cons {i k:Nat} {s s' sn:St} {c:bS} {v:V} {tr:List Ent} (hc:cl[i]? =some c) (st:nP P T M {c with lo:=k,hi:=hi i} s v s')
   (t:cX P T M cl hi (if isE c.op=true then k+1 else k) s' tr sn):cX P T M cl hi k s (⟨i,k,v,s⟩ ::tr) sn
theorem rX{cl:List bS}{hi:Nat->Nat}:∀{ord:List Nat} {k:Nat} {l:List bS} {s sn:St},qt cl hi ord k=some l->wq P T M l s sn->∃tr,cX P T M cl hi k s tr sn/\tr.map (·.i)=ord
 |[],k,l,s,sn,h,hr=>by
  cases h;cases hr;exact⟨[],.nil,rfl⟩
 |i ::ord,k,l,s,sn,h,hr=>by
  rw [@qr noE]at h;obtain⟨c,h1,h2⟩:=bE.1 h;obtain⟨r,h3,h4⟩:=bE.1 h2;cases h4;rw [@dD noE]at h1;cases hr with
  |cons hst h6=>
  obtain⟨tr,k1,k2⟩:=rX h3 h6;exact⟨_,.cons h1 hst k1,by simp [k2]⟩
theorem cX.split{cl:List bS}{hi:Nat->Nat}:∀{A B:List Ent} {k:Nat} {s sn:St},cX P T M cl hi k s (A++B) sn->∃s',cX P T M cl hi k s A s'/\cX P T M cl hi (k+nE cl A) s' B sn
 |[],B,k,s,sn,h=>⟨s,.nil,h⟩
 |e ::A,B,k,s,sn,h=>by
  cases h with
  |cons hc st t=>
   rename_i i s1 c v
   obtain⟨s',k1,k2⟩:=cX.split (A:=A) t;refine⟨s',.cons hc st k1,?_⟩;have:(if isE c.op=true then k+1 else k)+nE cl A=k+nE cl (⟨i,k,v,s⟩ ::A):=by
    unfold nE;rw [List.filter_cons,@dW noE _ _ _ hc]
    split<;>simp<;>omega
   rw [<-this];exact k2
theorem cX.append{cl:List bS}{hi:Nat->Nat}:∀{A B:List Ent} {k:Nat} {s s' sn:St},cX P T M cl hi k s A s'->cX P T M cl hi (k+nE cl A) s' B sn->cX P T M cl hi k s (A++B) sn
 |[],B,k,s,s',sn,h,h'=>by cases h;exact h'
 |e ::A,B,k,s,s',sn,h,h'=>by
  cases h with
  |cons hc st t=>
   rename_i i s1 c v
   have:(if isE c.op=true then k+1 else k)+nE cl A=k+nE cl (⟨i,k,v,s⟩ ::A):=by
    unfold nE;rw [List.filter_cons,@dW noE _ _ _ hc]
    split<;>simp<;>omega
   rw [<-this]at h';exact .cons hc st (cX.append t h')
theorem cX.head{cl:List bS}{hi:Nat->Nat}{k:Nat}{s sn:St}{e:Ent}{B:List Ent}(h:cX P T M cl hi k s (e ::B) sn):e.s=s/\e.k=k/\∃c s',cl[e.i]? =some c/\nP P T M {c with lo:=k,hi:=hi e.i} s e.v s'/\cX P T M cl hi (if isE c.op=true then k+1 else k) s' B sn:=by
 cases h with
 |cons hc st t=>exact⟨rfl,rfl,_,_,hc,st,t⟩
theorem cX.names{ops:Array Oper}{cl:List bS}{hi:Nat->Nat}(hcl:∀(i:Nat) c,cl[i]? =some c->∃o,ops[i]? =some o/\jK T m N ops o c):∀{tr:List Ent} {k:Nat} {s sn:St},cX P T M cl hi k s tr sn->
  (∀t,(∀e∈tr,(ops[e.i]?).bind (·.dst)≠some t)->rdn m sn.f t=rdn m s.f t)/\
  ∀A e B,tr=A++e ::B->∀t,(ops[e.i]?).bind (·.dst)=some t->(∀e'∈B,(ops[e'.i]?).bind (·.dst)≠some t)->rdn m sn.f t=some e.v
 |[],k,s,sn,h=>by
  cases h;exact⟨λ_ _=>rfl,λA e B h=>by simp at h⟩
 |x ::tr,k,s,sn,h=>by
  cases h with
  |cons hc st t=>
   rename_i i s' c v
   obtain⟨o,ho,hp⟩:=hcl i c hc;obtain⟨k1,k2⟩:=cX.names hcl t;have hput:∀t,rdn m s'.f t=if o.dst=some t then some v else rdn m s.f t:=λt=>by
    rw [st.f];exact @tn noE _ _ _ _ hp.dst s.f v t
   refine⟨λt ht=>?_,λA e B he t hd hB=>?_⟩
   ·rw [k1 t λe he=>ht e (List.mem_cons_of_mem _ he),hput,if_neg]
    have:=ht _ List.mem_cons_self;simp only [ho,Option.bind_some]at this;exact this
   ·cases A with
    |nil=>
     simp only [List.nil_append,List.cons.injEq]at he;obtain⟨rfl,rfl⟩:=he;rw [k1 t hB,hput,if_pos];simp only [ho,Option.bind_some]at hd;exact hd
    |cons y A=>
     simp only [List.cons_append,List.cons.injEq]at he;exact k2 A e B he.2 t hd hB
theorem cX.hs{cl:List bS}{hi:Nat->Nat}:∀{tr:List Ent} {k:Nat} {s sn:St},cX P T M cl hi k s tr sn->sn.hs=((tr.filter λe=>dB cl e.i).map (·.s.h)).reverse++s.hs
 |[],k,s,sn,h=>by cases h;rfl
 |x ::tr,k,s,sn,h=>by
  cases h with
  |cons hc st t=>
   rename_i i s' c v
   rw [cX.hs t,st.hs,List.filter_cons,@dW noE _ _ _ hc];show _++(if isE c.op=true then s.h ::s.hs else s.hs)=_
   by_cases hE:isE c.op=true
   ·simp [hE]
   ·simp [hE]
theorem nP.cs{c:bS}{s s':St}{v:V}(st:nP P T M c s v s'):∀q∈s.cs,q∈s'.cs:=by
 intro q hq;rcases st.main with⟨_,_,_,h4⟩ | ⟨vs,_,_,d⟩
 ·rw [h4];exact hq
 ·cases d with
  |p eo e eh ec=>rw [ec];exact hq
  |r eo e eh ec=>rw [ec];exact List.mem_cons_of_mem _ hq
  |mkF eo er hz hl hf eh ec=>rw [ec];exact hq
  |con he e c hf ec=>rw [ec];exact hq
theorem cX.cs{cl:List bS}{hi:Nat->Nat}:∀{tr:List Ent} {k:Nat} {s sn:St},cX P T M cl hi k s tr sn->∀c∈s.cs,c∈sn.cs
 |[],k,s,sn,h=>by cases h;exact λ_ h=>h
 |x ::tr,k,s,sn,h=>by
  cases h with
  |cons hc st t=>exact λq hq=>cX.cs t q (st.cs q hq)
theorem nP.same{c:bS}{s s':St}{v:V}(st:nP P T M c s v s')(hE:isE c.op=false):s'.h=s.h:=by
 rcases st.main with⟨_,_,h3,_⟩ | ⟨vs,_,_,d⟩
 ·exact h3
 ·cases d with
  |p eo e eh ec=>exact eh
  |r eo e eh ec=>exact eh
  |mkF eo er hz hl hf eh ec=>exact eh
  |con he e c hf ec=>rw [hE]at he;cases he
theorem Fy{cl:List bS}{hi:Nat->Nat}:∀{B:List Ent} {k:Nat} {s sn:St},cX P T M cl hi k s B sn->∃S B' s',B=S++B'/\cX P T M cl hi k s S s'/\cX P T M cl hi k s' B' sn/\
  (∀e B'',B'=e ::B''->dB cl e.i=true)/\(∀e∈S,dB cl e.i=false)/\s'.h=s.h
 |[],k,s,sn,h=>by
  cases h;exact⟨[],[],s,rfl,.nil,.nil,by simp,by simp,rfl⟩
 |e ::B,k,s,sn,h=>by
  obtain⟨rfl,rfl,c,s1,hc,st,t⟩:=h.head;have hEc:=@dW noE _ _ _ hc
  by_cases hE:isE c.op=true
  ·refine⟨[],e ::B,e.s,rfl,.nil,h,λe' B'' he=>?_,by simp,rfl⟩
   cases he;rw [hEc];exact hE
  ·have hE':isE c.op=false:=by simpa using hE
   have t0:=t;rw [if_neg hE]at t;obtain⟨S,B',s',q1,q2,q3,q4,q5,q6⟩:=Fy t;refine⟨e ::S,B',s',by rw [q1];rfl,.cons hc st (by rw [if_neg hE];exact q2),q3,q4,λy hy=>?_,q6.trans (st.same hE')⟩;rcases List.mem_cons.1 hy with h|h
   ·rw [h,hEc];exact hE'
   ·exact q5 y h
end
section
variable {P:Program} {T:Ty} {M:Nat->Prop} {m N:Nat}
structure lw(P:Program)(T:Ty)(M:Nat->Prop)(m N:Nat)(ops:Array Oper)(cl:List bS)(hi:Nat->Nat)(bs:List Nat)(s0:St)(tr:List Ent)(sn:St)(E0:En)(g0:G)(a0:Act)(w0:World)
  (listed:Array Bool) (a:Act) (w:World) (E:En) (g:G) (A B:List Ent) (sA:St):Prop where
 tr:tr=A++B
 tA:cX P T M cl hi 0 s0 A sA
 tB:cX P T M cl hi (nE cl A) sA B sn
 bnd:∀e B',B=e ::B'->dB cl e.i=true
 ext:fT T M E0 g0 s0.h w0 E g sA.h w
 size:listed.size=ops.size
 inA:∀i,listed.getD i false=true->∃e∈A,e.i=i
 es:∀e∈A,dB cl e.i=true->listed.getD e.i false=true
 closed:∀i,listed.getD i false=true->∀j,bit (cH bs i) j=true->listed.getD j false=true
 tsize:a.tmps.size=N
 old:∀t,(∀i,listed.getD i false=true->(ops[i]?).bind (·.dst)≠some t)->a.tmps[t]? =a0.tmps[t]?
 new:∀e∈A,listed.getD e.i false=true->∀t,(ops[e.i]?).bind (·.dst)=some t->∃u,a.tmps[t]? =some u/\@VR E g e.v u
 defers:a.defers=a0.defers
section
variable {ops:Array Oper} {cl:List bS} {hi:Nat->Nat} {bs ord:List Nat} {s0 sn:St} {tr:List Ent} {E0:En} {g0:G} {a0:Act} {w0:World} {listed:Array Bool} {a:Act} {w:World} {E:En} {g:G} {A B:List Ent} {sA:St}
theorem lw.tmps(hst:fR T ops bs)(I:lw P T M m N ops cl hi bs s0 tr sn E0 g0 a0 w0 listed a w E g A B sA){i:Nat}{o:Oper}(ho:ops[i]? =some o){d:Dst}(hd:dst m N o.dst=some d){u:Value}{E':En}{g':G}
  (hv:∀e∈A,∀t,(ops[e.i]?).bind (·.dst)=some t->∀x,@VR E g e.v x->@VR E' g' e.v x):
  (∀t,(∀j,(listed.setIfInBounds i true).getD j false=true->(ops[j]?).bind (·.dst)≠some t)->(a.put o.dst u).tmps[t]? =a0.tmps[t]?)/\
  (∀e∈A,(listed.setIfInBounds i true).getD e.i false=true->e.i≠i->∀t,(ops[e.i]?).bind (·.dst)=some t->∃x,(a.put o.dst u).tmps[t]? =some x/\@VR E' g' e.v x)/\
  (∀t,o.dst=some t->(a.put o.dst u).tmps[t]? =some u):=by
 have hi:i<listed.size:=by
  rw [I.size];rcases Nat.lt_or_ge i ops.size with k|k
  ·exact k
  ·rw [Array.getElem?_eq_none k]at ho;cases ho
 refine⟨λt ht=>?_,λe he hle hne t hdt=>?_,λt hdt=>?_⟩
 ·rw [@jd noE,if_neg]
  ·refine I.old t λj hj=>ht j ?_
   rw [@cY noE _ _ _ hi]
   split
   ·rfl
   ·exact hj
  ·intro hx
   have:=ht i (by rw [@cY noE _ _ _ hi,if_pos rfl]);rw [ho]at this;exact this hx.1
 ·rw [@cY noE _ _ _ hi,if_neg hne]at hle
  obtain⟨x,k1,k2⟩:=I.new e he hle t hdt;refine⟨x,?_,hv e he t hdt x k2⟩;rw [@jd noE,if_neg]
  ·exact k1
  ·intro hx
   obtain⟨p,hp,hpd⟩:∃p,ops[e.i]? =some p/\p.dst=some t:=by
    cases hpp:ops[e.i]? with
    |none=>rw [hpp]at hdt;cases hdt
    |some p=>rw [hpp]at hdt;exact⟨p,rfl,hdt⟩
   have hmem:t∈dF T ops o:=by
    unfold dF;rw [hx.1];simp
   exact(hst.names i e.i o p t (λh=>hne h.symm) ho hp hpd hmem).2 hx.1
 ·rw [@jd noE,if_pos]
  refine⟨hdt,?_⟩;rw [I.tsize];rw [hdt]at hd;exact @xR noE _ _ _ _ hd
theorem lw.held(hst:fR T ops bs)(hor:iP ops cl bs ord)(hcl:∀(i:Nat) c,cl[i]? =some c->∃o,ops[i]? =some o/\jK T m N ops o c)(hmap:tr.map (·.i)=ord)
  (I:lw P T M m N ops cl hi bs s0 tr sn E0 g0 a0 w0 listed a w E g A B sA) {x:Ent} (hx:x∈A) {t:Nat} (hxd:(ops[x.i]?).bind (·.dst)=some t):rdn m sA.f t=some x.v:=by
 obtain⟨s,r,e1⟩:=List.append_of_mem hx;refine(I.tA.names hcl).2 s x r e1 t hxd λy hy hyd=>?_;obtain⟨p,hp,hpd⟩:∃p:Oper,ops[x.i]? =some p/\p.dst=some t:=by
  cases hpp:ops[x.i]? with
  |none=>rw [hpp]at hxd;cases hxd
  |some p=>rw [hpp]at hxd;exact⟨p,rfl,hxd⟩
 obtain⟨q,hq,hqd⟩:∃p:Oper,ops[y.i]? =some p/\p.dst=some t:=by
  cases hpp:ops[y.i]? with
  |none=>rw [hpp]at hyd;cases hyd
  |some p=>rw [hpp]at hyd;exact⟨p,rfl,hyd⟩
 have hxy:x.i≠y.i:=by
  intro h;obtain⟨r1,r2,rfl⟩:=List.append_of_mem hy;have:=(hor.pre (s.map (·.i)++x.i ::r1.map (·.i)) y.i (r2.map (·.i)++B.map (·.i)) (by rw [<-hmap,I.tr,e1];simp)).2.1;exact this (by rw [<-h];simp)
 have hmem:t∈dF T ops p:=by
  unfold dF;rw [hpd];simp
 exact(hst.names x.i y.i p q t hxy hp hq hqd hmem).2 hpd
theorem qx{f:F}(hf:gZ M f){t:Nat}{v:V}(e:rdn m f t=some v):dg M v:=by
 unfold rdn at e
 split at e
 ·exact hf _ (.inl (@ky noE _ _ _ e))
 ·exact hf _ (.inr (@ky noE _ _ _ e))
theorem lw.reads(hst:fR T ops bs)(hor:iP ops cl bs ord)(hcl:∀(i:Nat) c,cl[i]? =some c->∃o,ops[i]? =some o/\jK T m N ops o c)(hmap:tr.map (·.i)=ord)(F0:@FR E0 g0 m N s0.f a0.tmps)(hf0:gZ M s0.f)
  (I:lw P T M m N ops cl hi bs s0 tr sn E0 g0 a0 w0 listed a w E g A B sA) {e:Ent} {A0 A1:List Ent} (hA:tr=A0++e ::A1) (t0:cX P T M cl hi 0 s0 A0 e.s) {o:Oper} (ho:ops[e.i]? =some o)
  (hl:listed.getD e.i false=false) (hbef:∀j,bit (cH bs e.i) j=true->listed.getD j false=true):
  ∀t∈dF T ops o,∀v,rdn m e.s.f t=some v->∃u,a.tmps[t]? =some u/\@VR E g v u:=by
 intro t ht v hv;have hord:ord=(A0.map (·.i))++e.i ::(A1.map (·.i)):=by rw [<-hmap,hA];simp
 obtain⟨p1,p2,p3⟩:=hor.pre _ _ _ hord;obtain⟨n1,n2⟩:=t0.names hcl;have dstOf:∀j:Nat,(ops[j]?).bind (λx:Oper=>x.dst)=some t->∃p:Oper,ops[j]? =some p/\p.dst=some t:=by
  intro j hj;cases hpp:ops[j]? with
  |none=>rw [hpp]at hj;cases hj
  |some p=>rw [hpp]at hj;exact⟨p,rfl,hj⟩
 have notBehind:∀x∈A0,bit (cH bs x.i) e.i=true->False:=by
  intro x hx hb;obtain⟨s,r,rfl⟩:=List.append_of_mem hx;have:=(hor.pre (s.map (·.i)) x.i (r.map (·.i)++e.i ::A1.map (·.i)) (by rw [hord];simp)).1 e.i hb;exact p2 (by rw [List.map_append,List.mem_append];exact .inl this)
 by_cases hw:∃x∈A0,(ops[x.i]?).bind (·.dst)=some t
 ·obtain⟨x,hx,hxd⟩:=hw
  obtain⟨p,hp,hpd⟩:=dstOf x.i hxd;obtain⟨s,r,rfl⟩:=List.append_of_mem hx;have hne:e.i≠x.i:=λh=>p2 (by rw [h,List.map_append,List.map_cons];simp);have hrd:rdn m e.s.f t=some x.v:=by
   refine n2 s x r rfl t hxd λy hy hyd=>?_;obtain⟨q,hq,hqd⟩:=dstOf y.i hyd;have hxy:x.i≠y.i:=by
    intro h;obtain⟨r1,r2,rfl⟩:=List.append_of_mem hy;have:=(hor.pre (s.map (·.i)++x.i ::r1.map (·.i)) y.i (r2.map (·.i)++e.i ::A1.map (·.i)) (by rw [hord];simp)).2.1;exact this (by rw [<-h];simp)
   have hmem:t∈dF T ops p:=by
    unfold dF;rw [hpd];simp
   exact(hst.names x.i y.i p q t hxy hp hq hqd hmem).2 hpd
  rw [hrd]at hv;cases hv;have hb:bit (cH bs e.i) x.i=true:=by
   rcases (hst.names e.i x.i o p t hne ho hp hpd ht).1 with q|q
   ·exact q
   ·exact(notBehind x hx q).elim
  have hlx:=hbef _ hb;obtain⟨y,hy,hyx⟩:=I.inA _ hlx;have hyx':y=x:=@ey noE _ _ _ _ _ hor hmap _ _ (by rw [I.tr];exact List.mem_append_left _ hy) (by rw [hA];exact List.mem_append_left _ (by simp)) hyx;rw [hyx']at hy;exact I.new x hy hlx t hxd
 ·have hrd:rdn m e.s.f t=rdn m s0.f t:=n1 t λx hx hd=>hw ⟨x,hx,hd⟩
  rw [hrd]at hv;obtain⟨u,k1,k2⟩:=F0.2 t v hv;refine⟨u,?_,qx hf0 hv E g0 g u I.ext.le (k2.env I.ext.envl)⟩;rw [I.old t λj hj hd=>?_]
  ·exact k1
  ·obtain⟨p,hp,hpd⟩:=dstOf j hd
   have hne:e.i≠j:=by
    intro h;rw [<-h,hl]at hj;cases hj
   rcases (hst.names e.i j o p t hne ho hp hpd ht).1 with q|q
   ·have:=p1 j q
    rw [List.mem_map]at this;obtain⟨x,hx,rfl⟩:=this;exact hw ⟨x,hx,hd⟩
   ·have:=I.closed j hj e.i q
    rw [hl]at this;cases this
theorem lw.same(hst:fR T ops bs)(hor:iP ops cl bs ord)(hmap:tr.map (·.i)=ord)(I:lw P T M m N ops cl hi bs s0 tr sn E0 g0 a0 w0 listed a w E g A B sA){e:Ent}(he:e∈A){o:Oper}(ho:ops[e.i]? =some o)(hl:listed.getD e.i false=false)
  (hbef:∀j,bit (cH bs e.i) j=true->listed.getD j false=true) {d:Dst} (hd:dst m N o.dst=some d) {u:Value} {E':En} {g':G} {w':World} (x:fT T noM E g sA.h w E' g' sA.h w') (hv:@VR E' g' e.v u):
  lw P T M m N ops cl hi bs s0 tr sn E0 g0 a0 w0 (listed.setIfInBounds e.i true) (a.put o.dst u) w' E' g' A B sA:=by
 have hlt:=@iJ noE _ _ _ ho;have hle:g.le g':=λid y e=>x.le id y (λk=>k) e;obtain⟨t1,t2,t3⟩:=I.tmps (u:=u) hst ho hd (λe _ t _ y k=>(@VR.mono E' g g' hle _ _ (k.env x.envl)));refine⟨I.tr,I.tA,I.tB,I.bnd,I.ext.trans (x.wk λ_ k=>k.elim),by simp [I.size],λi hi=>?_,λy hy hE=>?_,@js noE _ _ _ _ _ I.size ho I.closed hbef,by rw [@jU noE];exact I.tsize,t1,λy hy hly t hdt=>?_,(@dh noE _ _ _).trans I.defers⟩
 ·rw [@cY noE _ _ _ (by rw [I.size];exact hlt)]at hi
  split at hi
  ·rename_i h;exact⟨e,he,h.symm⟩
  ·exact I.inA i hi
 ·rw [@cY noE _ _ _ (by rw [I.size];exact hlt)]
  split
  ·rfl
  ·exact I.es y hy hE
 ·by_cases hye:y.i=e.i
  ·have hyx:y=e:=@ey noE _ _ _ _ _ hor hmap _ _ (by rw [I.tr];exact List.mem_append_left _ hy) (by rw [I.tr];exact List.mem_append_left _ he) hye
   subst hyx;rw [ho]at hdt;exact⟨u,t3 t hdt,hv⟩
  ·exact t2 y hy hly hye t hdt
theorem lw.write(hst:fR T ops bs)(hor:iP ops cl bs ord)(hcl:∀(i:Nat) c,cl[i]? =some c->∃o,ops[i]? =some o/\jK T m N ops o c)(hmap:tr.map (·.i)=ord){e:Ent}{B':List Ent}(I:lw P T M m N ops cl hi bs s0 tr sn E0 g0 a0 w0 listed a w E g A (e ::B') sA)(hE:dB cl e.i=true){o:Oper}(ho:ops[e.i]? =some o)(hl:listed.getD e.i false=false)
  (hbef:∀j,bit (cH bs e.i) j=true->listed.getD j false=true) {d:Dst} (hd:dst m N o.dst=some d) {c:bS} {s1:St} (hc:cl[e.i]? =some c) (hs:e.s=sA) (hst1:nP P T M {c with lo:=nE cl A,hi:=hi e.i} sA e.v s1)
  (ht:cX P T M cl hi (if isE c.op=true then nE cl A+1 else nE cl A) s1 B' sn) (hek:e.k=nE cl A) {u:Value} {E':En} {g':G} {w':World} (x:fT T M E g sA.h w E' g' s1.h w') (hv:@VR E' g' e.v u) (hfr:(∀id x,g id=some x->g' id=some x)\/gZ M sA.f):
  ∃A' B'' sA',lw P T M m N ops cl hi bs s0 tr sn E0 g0 a0 w0 (listed.setIfInBounds e.i true) (a.put o.dst u) w' E' g' A' B'' sA':=by
 have hlt:=@iJ noE _ _ _ ho;obtain⟨t1,t2,t3⟩:=I.tmps (u:=u) hst ho hd (E':=E') (g':=g') (λy hy t hdt z k=>by
  rcases hfr with q|q
  ·exact @VR.mono E' g g' q _ _ (k.env x.envl)
  ·exact qx q (I.held hst hor hcl hmap hy hdt) E' g g' z x.le (k.env x.envl))
 obtain⟨S,B'',s',q1,q2,q3,q4,q5,q6⟩:=Fy ht;have hEc:isE c.op=true:=by rw [<-@dW noE _ _ _ hc];exact hE
 have hnE:nE cl (A++e ::S)=nE cl A+1:=by
  unfold nE;rw [List.filter_append,List.filter_cons,if_pos hE];have:S.filter (λe=>dB cl e.i)=[]:=by
   rw [List.filter_eq_nil_iff];intro y hy;rw [q5 y hy];decide
  rw [this];simp
 have he:e=⟨e.i,nE cl A,e.v,sA⟩:=by
  obtain⟨i,k,v,s⟩:=e;simp only at hs hek;rw [hs,hek]
 have htr:tr=(A++e ::S)++B'':=by rw [I.tr,q1];simp
 have hA1:cX P T M cl hi 0 s0 (A++e ::S) s':=by
  refine cX.append I.tA ?_;rw [he];rw [Nat.zero_add];exact .cons hc hst1 q2
 have hnew:∀y∈A++e ::S,y∈A\/y=e\/y∈S:=by
  intro y hy;rcases List.mem_append.1 hy with h|h
  ·exact .inl h
  ·rcases List.mem_cons.1 h with h|h
   ·exact .inr (.inl h)
   ·exact .inr (.inr h)
 have hord:ord=A.map (·.i)++e.i ::(S++B'').map (·.i):=by rw [<-hmap,I.tr,q1];simp
 have behind:∀y∈S,(listed.setIfInBounds e.i true).getD y.i false=false:=by
  intro y hy;have hyT:y∈tr:=by rw [htr];simp [hy]
  have heT:e∈tr:=by rw [htr];simp
  rw [@cY noE _ _ _ (by rw [I.size];exact hlt),if_neg]
  ·cases hly:listed.getD y.i false with
   |false=>rfl
   |true=>
    obtain⟨z,hz,hzy⟩:=I.inA _ hly;have hzy':z=y:=@ey noE _ _ _ _ _ hor hmap _ _ (by rw [htr];simp [hz]) hyT hzy;subst hzy';obtain⟨s1',s2',rfl⟩:=List.append_of_mem hy;have:=(hor.pre (A.map (·.i)++e.i ::s1'.map (·.i)) z.i (s2'.map (·.i)++B''.map (·.i)) (by rw [hord];simp)).2.1;exact(this (List.mem_append_left _ (List.mem_map.2 ⟨z,hz,rfl⟩))).elim
  ·intro h
   have:=@ey noE _ _ _ _ _ hor hmap _ _ hyT heT h;subst this;rw [q5 y hy]at hE;cases hE
 refine⟨A++e ::S,B'',s',htr,hA1,by rw [hnE];rw [if_pos hEc]at q3;exact q3,q4,by rw [q6];exact I.ext.trans x,by simp [I.size],λi hi=>?_,λy hy hEy=>?_,@js noE _ _ _ _ _ I.size ho I.closed hbef,by rw [@jU noE];exact I.tsize,t1,λy hy hly t hdt=>?_,(@dh noE _ _ _).trans I.defers⟩
 ·rw [@cY noE _ _ _ (by rw [I.size];exact hlt)]at hi
  split at hi
  ·rename_i h;exact⟨e,by simp,h.symm⟩
  ·obtain⟨y,hy,hyi⟩:=I.inA i hi
   exact⟨y,by simp [hy],hyi⟩
 ·rw [@cY noE _ _ _ (by rw [I.size];exact hlt)]
  split
  ·rfl
  ·rename_i hne
   rcases hnew y hy with h|h|h
   ·exact I.es y h hEy
   ·exact absurd (by rw [h]) hne
   ·rw [q5 y h]at hEy;cases hEy
 ·rcases hnew y hy with h|h|h
  ·by_cases hye:y.i=e.i
   ·have hyT:y∈tr:=by rw [htr];simp [h]
    have:y=e:=@ey noE _ _ _ _ _ hor hmap _ _ hyT (by rw [htr];simp) hye;subst this;rw [ho]at hdt;exact⟨u,t3 t hdt,hv⟩
   ·exact t2 y h hly hye t hdt
  ·subst h
   rw [ho]at hdt;exact⟨u,t3 t hdt,hv⟩
  ·rw [behind y h]at hly;cases hly
theorem FV(hor:iP ops cl bs ord)(hmap:tr.map (·.i)=ord)(hcl:∀(i:Nat) c,cl[i]? =some c->∃o,ops[i]? =some o/\jK T m N ops o c)(I:lw P T M m N ops cl (pD ops cl bs) bs s0 tr sn E0 g0 a0 w0 listed a w E g A B sA){i:Nat}(hl:listed.getD i false=false):nE cl A<=pD ops cl bs i:=by
 unfold nE;show _<=bY _;rw [@bV noE];have h1:(A.filter λe=>dB cl e.i).length=((A.filter λe=>dB cl e.i).map (·.i)).length:=by simp
 rw [h1];refine @pI noE _ _ ?_ λx hx=>?_
 ·have hnd:∀(pre l post:List Ent),tr=pre++l++post->(l.map (·.i)).Nodup:=by
   intro pre l
   induction l generalizing pre with
   |nil=>intro post _;exact List.nodup_nil
   |cons e l ih=>
    intro post he;rw [List.map_cons,List.nodup_cons];refine⟨λhm=>?_,ih (pre++[e]) post (by rw [he];simp)⟩;rw [List.mem_map]at hm;obtain⟨y,hy,hye⟩:=hm;obtain⟨s1,s2,rfl⟩:=List.append_of_mem hy;have:=(hor.pre (pre.map (·.i)++e.i ::s1.map (·.i)) y.i (s2.map (·.i)++post.map (·.i)) (by rw [<-hmap,he];simp)).2.1;exact this (by rw [hye];simp)
  have:=hnd [] A B (by rw [I.tr];simp);exact List.Sublist.nodup (List.Sublist.map _ List.filter_sublist) this
 ·rw [List.mem_map]at hx
  obtain⟨y,hy,rfl⟩:=hx;rw [List.mem_filter]at hy;rw [List.mem_filter,List.mem_filter,List.mem_range];refine⟨⟨?_,hy.2⟩,?_⟩
  ·have:∃c,cl[y.i]? =some c:=by
    cases hc:cl[y.i]? with
    |some c=>exact⟨c,rfl⟩
    |none=>
     have:=hy.2;unfold dB at this;rw [@dD noE,hc]at this;cases this
   obtain⟨c,hc⟩:=this;obtain⟨o,ho,_⟩:=hcl _ _ hc;exact @iJ noE _ _ _ ho
  ·have:=I.es y hy.1 hy.2
   cases hb:bit (cH bs y.i) i with
   |false=>rfl
   |true=>
    have:=I.closed _ this _ hb;rw [hl]at this;cases this
theorem lw.done(hor:iP ops cl bs ord)(hmap:tr.map (·.i)=ord)(hcl:∀(i:Nat) c,cl[i]? =some c->∃o,ops[i]? =some o/\jK T m N ops o c)(hst:fR T ops bs)(F0:@FR E0 g0 m N s0.f a0.tmps)(hf0:gZ M s0.f)
  (I:lw P T M m N ops cl hi bs s0 tr sn E0 g0 a0 w0 listed a w E g A B sA) (hall:∀i,i<ops.size->listed.getD i false=true):fT T M E0 g0 s0.h w0 E g sn.h w/\@FR E g m N sn.f a.tmps/\a.defers=a0.defers:=by
 have hB:B=[]:=by
  cases hB:B with
  |nil=>rfl
  |cons e B'=>
   have htr:=I.tr;rw [hB]at htr;have hE:=I.bnd e B' hB;have hc:∃c,cl[e.i]? =some c:=by
    cases hc:cl[e.i]? with
    |some c=>exact⟨c,rfl⟩
    |none=>
     unfold dB at hE;rw [@dD noE,hc]at hE;cases hE
   obtain⟨c,hc⟩:=hc;obtain⟨o,ho,_⟩:=hcl _ _ hc;obtain⟨x,hx,hxe⟩:=I.inA e.i (hall _ (@iJ noE _ _ _ ho));have:=(hor.pre (A.map (·.i)) e.i (B'.map (·.i)) (by rw [<-hmap,htr];simp)).2.1;exact(this (by rw [<-hxe];exact List.mem_map.2 ⟨x,hx,rfl⟩)).elim
 have hs:sA=sn:=by
  have:=I.tB;rw [hB]at this;cases this;rfl
 subst hs;refine⟨I.ext,⟨I.tsize,λt v hv=>?_⟩,I.defers⟩;obtain⟨n1,n2⟩:=I.tA.names hcl;have listedA:∀e∈A,listed.getD e.i false=true:=by
  intro e he;obtain⟨s1,s2,e1⟩:=List.append_of_mem he;obtain⟨s',_,k2⟩:=cX.split (A:=s1) (B:=e ::s2) (by rw [<-e1];exact I.tA);obtain⟨_,_,c,_,hc,_,_⟩:=k2.head;obtain⟨o,ho,_⟩:=hcl _ _ hc;exact hall _ (@iJ noE _ _ _ ho)
 by_cases hw:∃x∈A,(ops[x.i]?).bind (λo:Oper=>o.dst)=some t
 ·obtain⟨x,hx,hxd⟩:=hw
  have hrd:=I.held hst hor hcl hmap hx hxd;rw [hrd]at hv;cases hv;exact I.new x hx (listedA x hx) t hxd
 ·rw [n1 t λx hx hd=>hw ⟨x,hx,hd⟩]at hv
  obtain⟨u,k1,k2⟩:=F0.2 t v hv;refine⟨u,?_,qx hf0 hv E g0 g u I.ext.le (k2.env I.ext.envl)⟩;rw [I.old t λj hj hd=>?_]
  ·exact k1
  ·obtain⟨x,hx,rfl⟩:=I.inA j hj
   exact hw ⟨x,hx,hd⟩
theorem FQ(E:En):@dX E P T (λ_ _ _=>none):=@dX.mk E _ _ _ (λf vs h v h' e=>by cases e) (λid vs h v h' e=>by cases e)
theorem vW(hT:cN P T)(hcl0:fK (eX T m N ops) ops.toList=some cl)(hst:fR T ops bs)(hor:iP ops cl bs ord)(hmap:tr.map (·.i)=ord)(htr:cX P T M cl (pD ops cl bs) 0 s0 tr sn)
  (hs0:s0.hs=[]) (hchk:bF sn.cs (jb sn.hs [sn.h])) (F0:@FR E0 g0 m N s0.f a0.tmps) (hf0:gZ M s0.f) {Q:Exit->Act->World->Prop}
  (hQ:∀E' g' a' w',fT T M E0 g0 s0.h w0 E' g' sn.h w'->@FR E' g' m N sn.f a'.tmps->a'.defers=a0.defers->Q .normal a' w'):∀(fuel:Nat) (listed:Array Bool) (a:Act) (w:World) (E:En) (g:G) (A B:List Ent) (sA:St),
  lw P T M m N ops cl (pD ops cl bs) bs s0 tr sn E0 g0 a0 w0 listed a w E g A B sA->left ops listed<=fuel->wpAnyIn (fen none) 0 P .any ops Q fuel listed a w:=by
 have hcl:∀(i:Nat) c,cl[i]? =some c->∃o,ops[i]? =some o/\jK T m N ops o c:=by
  intro i c hc;obtain⟨hlen,hall⟩:=@lI noE _ _ _ _ _ hcl0;have hi:i<ops.toList.length:=by
   rw [<-hlen];rcases Nat.lt_or_ge i cl.length with k|k
   ·exact k
   ·rw [List.getElem?_eq_none k]at hc;cases hc
  obtain⟨b,h1,h2⟩:=hall i _ (List.getElem?_eq_getElem hi);rw [hc]at h1;cases h1;exact⟨_,by rw [<-Array.getElem?_toList];exact List.getElem?_eq_getElem hi,@dm noE _ _ _ _ _ _ h2⟩
 intro fuel
 induction fuel with
 |zero=>
  intro listed a w E g A B sA I hf;have hall:=@sw noE _ _ (Nat.le_zero.1 hf);refine⟨?_,?_⟩
  ·unfold Region.ready
   rw [List.filter_eq_nil_iff];intro i hi;rw [List.mem_range]at hi;have:=hall i hi;rw [Array.getD_eq_getD_getElem?,Array.getElem?_eq_getElem (by rw [I.size];exact hi)]at this;rw [Array.getD_eq_getD_getElem?,Array.getElem?_eq_getElem (by rw [I.size];exact hi)];simp only [Option.getD_some]at this ⊢;rw [this];simp
  ·obtain⟨x1,x2,x3⟩:=I.done hor hmap hcl hst F0 hf0 hall
   exact hQ _ _ _ _ x1 x2 x3
 |succ fuel ih=>
  intro listed a w E g A B sA I hf;refine⟨λhn=>?_,λi hi=>?_⟩
  ·obtain⟨x1,x2,x3⟩:=I.done hor hmap hcl hst F0 hf0 (@sa noE _ _ _ _ hst I.size hn)
   exact hQ _ _ _ _ x1 x2 x3
  ·obtain⟨hlt,hl,o,ho,hedge⟩:=@sb noE _ _ _ I.size hi
   have hbef:∀j,bit (cH bs i) j=true->listed.getD j false=true:=by
    intro j hj;obtain⟨e,he,hb,h⟩:=hst.before i o ho j hj;rcases h with rfl|h
    ·exact hedge e he hb
    ·exact I.closed _ (hedge e he hb) _ h
   have hleft:left ops (listed.setIfInBounds i true)<=fuel:=by
    have:=@vq noE _ _ _ I.size hlt hl;omega
   obtain⟨e,heT,rfl⟩:∃e∈tr,e.i=i:=by
    have:=hor.all i hlt;rw [<-hmap,List.mem_map]at this;exact this
   obtain⟨A0,A1,hA⟩:=List.append_of_mem heT;obtain⟨s',t0,t1⟩:=cX.split (A:=A0) (B:=e ::A1) (by rw [<-hA];exact htr);obtain⟨hes,hek,c,s1,hc,st,t2⟩:=t1.head;rw [<-hes]at t0;rw [Nat.zero_add]at hek st t2;have hreads:=I.reads hst hor hcl hmap F0 hf0 hA t0 ho hl hbef;obtain⟨o',ho',hp⟩:=hcl _ _ hc;rw [ho]at ho';cases ho';have hsit:=I.ext.sit;have hguard:∀{b:Bool},bX e.s.f c.guard=some b->Region.wanted o (yielded ops a.tmps)=b:=λhg=>@eW E _ _ _ g _ _ _ hp _ _ _ hg (λt ht v hv=>hreads t (by
    obtain⟨gi,gw,h1,h2⟩:=ht;unfold dF;rw [h1];simp [h2]) v hv)
   have hargs:∀{vs:List V} {os:List Operand},bI T o.op=some (c.op,os)->fK (opd T m) os=some c.args->evs e.s.f c.args=some vs->@VRs E g vs (os.map a.eval):=λh1 h2 h3=>@jp E T m g _ w hsit.glob _ a _ _ _ h2 h3 λt ht v hv=>hreads t (by
    unfold dF;rw [h1];refine List.mem_append_right _ (List.mem_append_left _ ?_);exact List.mem_filterMap.2 ⟨.tmp t,ht,rfl⟩) v hv
   unfold wpOpIn;simp only [ho]
   by_cases hE:dB cl e.i=true
   ·have hEc:isE c.op=true:=by rw [<-@dW noE _ _ _ hc];exact hE
    have hB:∃B',B=e ::B':=by
     have hnA:e∉A:=λh=>by
      have:=I.es e h hE;rw [hl]at this;cases this
     have heB:e∈B:=by
      rw [I.tr]at heT;exact(List.mem_append.1 heT).resolve_left hnA
     cases hBB:B with
     |nil=>rw [hBB]at heB;cases heB
     |cons b B'=>
      rw [hBB]at heB;rcases List.mem_cons.1 heB with h|h
      ·exact⟨B',by rw [h]⟩
      ·have hb:=I.bnd b B' hBB
       obtain⟨s1',s2',rfl⟩:=List.append_of_mem h;have htr':tr=(A++b ::s1')++e ::s2':=by rw [I.tr,hBB];simp
       have hbl:=hbef _ ((hor.pre ((A++b ::s1').map (·.i)) e.i (s2'.map (·.i)) (by rw [<-hmap,htr'];simp)).2.2 b.i (List.mem_map.2 ⟨b,by simp,rfl⟩) hb);obtain⟨y,hy,hyb⟩:=I.inA _ hbl;have:=(hor.pre (A.map (·.i)) b.i ((s1'++e ::s2').map (·.i)) (by rw [<-hmap,I.tr,hBB];simp)).2.1;exact(this (by rw [<-hyb];exact List.mem_map.2 ⟨y,hy,rfl⟩)).elim
    obtain⟨B',rfl⟩:=hB;obtain⟨hes2,hek2,c',s1',hc',st',t2'⟩:=I.tB.head;rw [hc]at hc';cases hc';rcases st'.main with⟨h1,h2,h3,h4⟩ | ⟨vs,h1,h2,dx⟩
    ·rw [hguard (by rw [hes2];exact h1)]
     refine⟨λ_ _=>trivial,?_⟩;obtain⟨A',B'',sA',I'⟩:=I.write (u:=undef) hst hor hcl hmap hE ho hl hbef hp.dst hc hes2 st' t2' hek2 (by rw [h3];exact .refl hsit) (by rw [h2];exact @fk E g) (.inl λ_ _ k=>k);exact ih _ _ _ _ _ _ _ _ I' hleft
    ·rw [hguard (by rw [hes2];exact h1)]
     obtain⟨os,k1,k2⟩:=hp.op;cases dx with
     |p eo=>have eo:c.op=_:=eo;rw [eo]at hEc;cases hEc
     |r eo=>have eo:c.op=_:=eo;rw [eo]at hEc;cases hEc
     |mkF eo=>have eo:c.op=_:=eo;rw [eo]at hEc;cases hEc
     |con he ec cn hfr ecs=>
      refine uI hsit k1 (hargs k1 k2 (by rw [hes2];exact h2)) ec cn λE' g' w' u x1 x2=>?_;obtain⟨A',B'',sA',I'⟩:=I.write hst hor hcl hmap hE ho hl hbef hp.dst hc hes2 st' t2' hek2 x1 x2 (.inr hfr);exact ih _ _ _ _ _ _ _ _ I' hleft
   ·have heA:e∈A:=by
     rw [I.tr]at heT;rcases List.mem_append.1 heT with h|h
     ·exact h
     ·cases hBB:B with
      |nil=>rw [hBB]at h;cases h
      |cons b B'=>
       rw [hBB]at h;have hb:=I.bnd b B' hBB;rcases List.mem_cons.1 h with h|h
       ·rw [h]at hE;exact absurd hb hE
       ·obtain⟨s1',s2',rfl⟩:=List.append_of_mem h
        have htr':tr=(A++b ::s1')++e ::s2':=by rw [I.tr,hBB];simp
        have hbl:=hbef _ ((hor.pre ((A++b ::s1').map (·.i)) e.i (s2'.map (·.i)) (by rw [<-hmap,htr'];simp)).2.2 b.i (List.mem_map.2 ⟨b,by simp,rfl⟩) hb);obtain⟨y,hy,hyb⟩:=I.inA _ hbl;have:=(hor.pre (A.map (·.i)) b.i ((s1'++e ::s2').map (·.i)) (by rw [<-hmap,I.tr,hBB];simp)).2.1;exact(this (by rw [<-hyb];exact List.mem_map.2 ⟨y,hy,rfl⟩)).elim
    have hEc:isE c.op=false:=by rw [<-@dW noE _ _ _ hc];simpa using hE
    rcases st.main with⟨h1,h2,h3,h4⟩ | ⟨vs,h1,h2,dx⟩
    ·rw [hguard (by rw [hes];exact h1)]
     refine⟨λ_ _=>trivial,?_⟩;exact ih _ _ _ _ _ _ _ _ (I.same hst hor hmap heA ho hl hbef hp.dst (.refl hsit) (by rw [h2];exact @fk E g)) hleft
    ·rw [hguard (by rw [hes];exact h1)]
     obtain⟨os,k1,k2⟩:=hp.op;have hv:=hargs k1 k2 (by rw [hes];exact h2);have iO:c.op.run (λ_ _ _=>none) vs sA.h=some (e.v,sA.h)->o.wpIn (fen none) 0 P a w (wpAnyIn (fen none) 0 P .any ops Q fuel (listed.setIfInBounds e.i true)) Q:=λhrun=>
      @lF E P T hT _ (FQ E) g _ _ w hsit.wr hsit.glob o _ os a k1 vs _ hv hrun _ _ _ λg' w' u x1 x2=>ih _ _ _ _ _ _ _ _ (I.same hst hor hmap heA ho hl hbef hp.dst (fT.of hsit x1) x2) hleft
     cases dx with
     |@p po eo er eh ecs=>
      have eo:c.op= .p po:=eo;refine iO ?_;rw [eo];show ob (po.run vs) (λv=>some (v,sA.h))=_;rw [er];rfl
     |@r ro eo er eh ecs=>
      have eo:c.op= .r ro:=eo;refine iO ?_;rw [eo];show ob (ro.run vs sA.h) (λv=>some (v,sA.h))=_;have hmem:(⟨ro,vs,e.v,nE cl A0,pD ops cl bs e.i⟩:Tc)∈sn.cs:=t2.cs _ (by rw [ecs];exact List.mem_cons_self);have hrd:=hchk _ hmem;have hhs:=htr.hs;rw [hs0,List.append_nil,I.tr]at hhs;have hat:(jb sn.hs [sn.h])[nE cl A]? =some sA.h:=by
       rw [@tj noE,hhs,List.reverse_reverse,List.filter_append,List.map_append];have hlen:((A.filter λe=>dB cl e.i).map λe=>e.s.h).length=nE cl A:=by simp [nE]
       rw [List.append_assoc,List.getElem?_append_right (by rw [hlen];exact Nat.le_refl _),hlen,Nat.sub_self];cases hBB:B with
       |nil=>
        have:=I.tB;rw [hBB]at this;cases this;rfl
       |cons b B'=>
        have hb:=I.bnd b B' hBB;have:=I.tB;rw [hBB]at this;obtain⟨q1,_⟩:=this.head;rw [List.filter_cons,if_pos hb,List.map_cons,q1];rfl
      have hlo:nE cl A0<=nE cl A:=by
       obtain⟨z1,z2,rfl⟩:=List.append_of_mem heA;have hA0:A0=z1:=by
        refine @mi noE A0 A1 z1 (z2++B) e (by rw [<-hA,I.tr];simp) (λh=>?_) λh=>?_
        ·have:=(hor.pre (z1.map (·.i)) e.i ((z2++B).map (·.i)) (by rw [<-hmap,I.tr];simp)).2.1
         exact this (List.mem_map.2 ⟨e,h,rfl⟩)
        ·have:=(hor.pre (A0.map (·.i)) e.i (A1.map (·.i)) (by rw [<-hmap,hA];simp)).2.1
         exact this (List.mem_map.2 ⟨e,h,rfl⟩)
       subst hA0;simp [nE,List.filter_append]
      have:=hrd (nE cl A) _ hat hlo (FV hor hmap hcl I hl);simp only at this;rw [this];rfl
     |@mkF ao cs mk eo er hz hln hfr eh ecs=>
      have eo:c.op= .a ao:=eo;rw [eo]at k1;refine uH hT hsit k1 hv er hz hln (hfr _) λE' w' u x1 x2=>?_;exact ih _ _ _ _ _ _ _ _ (I.same hst hor hmap heA ho hl hbef hp.dst x1 x2) hleft
     |con he=>have he:isE c.op=true:=he;rw [hEc]at he;cases he
end
theorem CB(hT:cN P T)(hm:P.follows .mixedOrders=true){ops:Array Oper}{cl:List bS}{id:Nat}{l:List bS}(hcl:fK (eX T m N ops) ops.toList=some cl)(hd:sQ T cl ops=some l){f0:F}{h0:H}{s:St}(hr:wq P T M l ⟨f0,h0,[],[]⟩ s)(hchk:bF s.cs (jb s.hs [s.h]))
  {E:En} {g:G} {a:Act} {w:World} (st:Sit T E g h0 w) (F0:@FR E g m N f0 a.tmps) (hf0:gZ M f0) {Q:Exit->Act->World->Prop}
  (hQ:∀E' g' a' w',fT T M E g h0 w E' g' s.h w'->@FR E' g' m N s.f a'.tmps->a'.defers=a.defers->Q .normal a' w'):(Code.region id ops true).wpIn (fen none) 0 P Q a w:=by
 obtain⟨bs,ord,hst,hor,hlh⟩:=@v8 noE _ _ _ _ hd;obtain⟨tr,htr,hmap⟩:=rX hlh hr;refine wpIn_region_any hm ?_;have r1:@WR E T g h0 {w with drawn:=w.drawn+1}:=@WR.drew1 E _ _ _ _ st.wr;have s1:Sit T E g h0 {w with drawn:=w.drawn+1}:=Sit.mk' r1 st.pin λb c e=>st.env e;obtain⟨S,B',s',q1,q2,q3,q4,q5,q6⟩:=Fy htr;have hx0:fT T M E g h0 w E g h0 {w with drawn:=w.drawn+1}:=⟨E.le_refl,λ_ _ h=>.inl h,λ_ _ _ h=>h,Nat.le_refl _,s1,Nat.le_refl _,λ_ _ _=>rfl,λid b o z e=>.inr ⟨id,o,z,e⟩,λ_ _=>rfl,rfl,rfl,rfl⟩
 have getD0:∀i,(Array.replicate ops.size false).getD i false=false:=by
  intro i;rw [Array.getD_eq_getD_getElem?,Array.getElem?_replicate]
  split<;>rfl
 have hnE:nE cl S=0:=by
  unfold nE;rw [List.length_eq_zero_iff,List.filter_eq_nil_iff];intro y hy;rw [q5 y hy];decide
 have q6':s'.h=h0:=q6;have I:lw P T M m N ops cl (pD ops cl bs) bs ⟨f0,h0,[],[]⟩ tr s E g a w (Array.replicate ops.size false) a {w with drawn:=w.drawn+1} E g S B' s':=
  ⟨q1,q2,by rw [hnE];exact q3,q4,by rw [q6'];exact hx0,by simp,(λi hi=>by rw [getD0]at hi;cases hi),(λe he hE=>by rw [q5 e he]at hE;cases hE),(λi hi=>by rw [getD0]at hi;cases hi),F0.1,λ_ _=>rfl,(λe _ hl=>by rw [getD0]at hl;cases hl),rfl⟩
 refine vW hT hcl hst hor hmap htr rfl hchk F0 hf0 hQ ops.size _ a _ E g S B' s' I ?_;unfold left;refine Nat.le_trans (List.length_filter_le _ _) ?_;simp
end
end
end Ev
end Go.Proofs.YtdfphfdnoobikaaGreatDoor
