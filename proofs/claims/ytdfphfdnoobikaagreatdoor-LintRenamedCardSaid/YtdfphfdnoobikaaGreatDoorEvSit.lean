/-
  Situations:what stands for the memory,in an environment that may grow;what calls and ways may do to it.
-/
import Derived.Test.YtdfphfdnoobikaaGreatDoorEvExec
namespace Go.Proofs.YtdfphfdnoobikaaGreatDoor
namespace Ev
section
section
variable {P:Program} {T:Ty} {m N:Nat}
def noE:En:=⟨λ_=>none⟩
structure Sit(T:Ty)(E:En)(g:G)(h:H)(w:World):Prop where
 wr:@WR E T g h w
 glob:@jg E T g h w
theorem Sit.lt{E:En}{g:G}{h:H}{w:World}(s:Sit T E g h w){id b o z:Nat}(e:g id=some (b,o,z)):b<w.heap.size:=@WR.lt E _ _ _ _ s.wr _ _ _ _ e
theorem Sit.env{E:En}{g:G}{h:H}{w:World}(s:Sit T E g h w){b:Nat}{c:Array Value}(e:E.ro b=some c):(∃t:TypeId×(Nat×Nat),w.heap[b]? =some (.cells c t.1 t.2))/\∀id o z,g id≠some (b,o,z):=@jg.env E _ _ _ _ s.glob b c e
theorem Sit.pin{E:En}{g:G}{h:H}{w:World}(s:Sit T E g h w):∀p,p∈T.pin->(∃z,g p.1=some (p.2.1,0,z))/\h.blk p.1=some (.ro p.2.2.1 p.2.2.2):=@jg.pin E _ _ _ _ s.glob
theorem Sit.mk'{E:En}{g:G}{h:H}{w:World}(r:@WR E T g h w)(p:∀p,p∈T.pin->(∃z,g p.1=some (p.2.1,0,z))/\h.blk p.1=some (.ro p.2.2.1 p.2.2.2))
  (e:∀b c,E.ro b=some c->(∃t:TypeId×(Nat×Nat),w.heap[b]? =some (.cells c t.1 t.2))/\∀id o z,g id≠some (b,o,z)):Sit T E g h w:=⟨r,@jg.mk E T g h w p e⟩
structure gj(T:Ty)(M:Nat->Prop)(E:En)(g:G)(h:H)(w:World)(E':En)(g':G)(h':H)(w':World):Prop where
 envl:E.le E'
 envn:∀b c,E'.ro b=some c->E.ro b=some c\/w.heap.size<=b
 le:∀id x,¬M id->g id=some x->g' id=some x
 next:h.next<=h'.next
 sit:Sit T E' g' h' w'
 size:w.heap.size<=w'.heap.size
 keep:∀b,b<w.heap.size->(∀id o z,g id≠some (b,o,z))->w'.heap[b]? =w.heap[b]?
 fresh:∀id b o z,g' id=some (b,o,z)->w.heap.size<=b\/∃i o' z',g i=some (b,o',z')
 pin:∀p,p∈T.pin->w'.heap[p.2.1]? =w.heap[p.2.1]?
 os:w'.os=w.os
 tape:w'.tape=w.tape
 output:w'.output=w.output
theorem gj.refl{M:Nat->Prop}{E:En}{g:G}{h:H}{w:World}(s:Sit T E g h w):gj T M E g h w E g h w:=
 ⟨E.le_refl,λ_ _ h=>.inl h,λ_ _ _ h=>h,Nat.le_refl _,s,Nat.le_refl _,λ_ _ _=>rfl,λid _ o z e=>.inr ⟨id,o,z,e⟩,λ_ _=>rfl,rfl,rfl,rfl⟩
theorem Sit.ext{E:En}{g g':G}{h h':H}{w w':World}(s:Sit T E g h w)(x:@Ext E T g h w g' h' w'):Sit T E g' h' w':=
 ⟨@Ext.wr E _ _ _ _ _ _ _ x,@jg.ext E _ _ _ _ _ _ _ s.glob x⟩
theorem gj.of{M:Nat->Prop}{E:En}{g g':G}{h h':H}{w w':World}(s:Sit T E g h w)(x:@Ext E T g h w g' h' w'):gj T M E g h w E g' h' w':=by
 refine⟨E.le_refl,λ_ _ h=>.inl h,λid y _=>@Ext.le E _ _ _ _ _ _ _ x id y,@Ext.next E _ _ _ _ _ _ _ x,s.ext x,@Ext.size E _ _ _ _ _ _ _ x,@Ext.keep E _ _ _ _ _ _ _ x,λid b o z e=>?_,λp c=>?_,@Ext.os E _ _ _ _ _ _ _ x,@Ext.tape E _ _ _ _ _ _ _ x,@Ext.output E _ _ _ _ _ _ _ x⟩
 ·cases k:g id with
  |none=>exact @Ext.fresh E _ _ _ _ _ _ _ x id b o z e k
  |some y=>rw [@Ext.le E _ _ _ _ _ _ _ x id y k]at e;cases e;exact .inr ⟨id,o,z,k⟩
 ·obtain⟨⟨z,d⟩,a⟩:=s.pin p c
  exact(@Ext.ro E _ _ _ _ _ _ _ x _ _ _ _ _ _ d a).2
def Pn(T:Ty)(K:Nat->Prop):Prop:=∀id,K id->∃p,p∈T.pin/\p.1=id
structure Sx(T:Ty)(K:Nat->Prop)(E0:En)(g0:G)(w0:World)(E:En)(g:G)(h:H)(w:World):Prop where
 sit:Sit T E g h w
 envl:E0.le E
 envn:∀b c,E.ro b=some c->E0.ro b=some c\/w0.heap.size<=b\/(Pn T K/\∃id o z,g0 id=some (b,o,z))
 fix:∀id x,K id->g0 id=some x->g id=some x
 size:w0.heap.size<=w.heap.size
 keep:∀b,b<w0.heap.size->(∀id o z,g0 id≠some (b,o,z))->w.heap[b]? =w0.heap[b]?
 inv:∀id b o z,g id=some (b,o,z)->w0.heap.size<=b\/∃i o' z',g0 i=some (b,o',z')
 pin:∀p,p∈T.pin->w.heap[p.2.1]? =w0.heap[p.2.1]?
 os:w.os=w0.os
 tape:w.tape=w0.tape
 output:w.output=w0.output
theorem Sx.refl{K:Nat->Prop}{E:En}{g:G}{h:H}{w:World}(s:Sit T E g h w):Sx T K E g w E g h w:=
 ⟨s,E.le_refl,λ_ _ h=>.inl h,λ_ _ _ h=>h,Nat.le_refl _,λ_ _ _=>rfl,λid _ o z e=>.inr ⟨id,o,z,e⟩,λ_ _=>rfl,rfl,rfl,rfl⟩
theorem Sx.ext{K M:Nat->Prop}{E0 E E':En}{g0 g g':G}{h h':H}{w0 w w':World}(s:Sx T K E0 g0 w0 E g h w)(x:gj T M E g h w E' g' h' w')(l:∀id,K id->¬M id):Sx T K E0 g0 w0 E' g' h' w':=by
 refine⟨x.sit,E0.le_trans s.envl x.envl,λb c e=>?_,λid y a e=>x.le id y (l id a) (s.fix id y a e),Nat.le_trans s.size x.size,λb j d=>?_,λid b o z e=>?_,λp f=>(x.pin p f).trans (s.pin p f),x.os.trans s.os,x.tape.trans s.tape,x.output.trans s.output⟩
 ·rcases x.envn b c e with k|k
  ·exact s.envn b c k
  ·exact .inr (.inl (Nat.le_trans s.size k))
 ·refine(x.keep b (Nat.lt_of_lt_of_le j s.size) λid o z e=>?_).trans (s.keep b j d)
  rcases s.inv id b o z e with k | ⟨i,o',z',k⟩
  ·omega
  ·exact d i o' z' k
 ·rcases x.fresh id b o z e with k | ⟨i,o',z',k⟩
  ·exact .inl (Nat.le_trans s.size k)
  ·exact s.inv i b o' z' k
structure Con(P:Program)(T:Ty)(M:Nat->Prop)(f:FuncId)(vs:List V)(h:H)(v:V)(h':H):Prop where
 out:∀E g w us,Sit T E g h w->@VRs E g vs us->∃fn,P.funcs[f]? =some fn/\fn.name≠ "runtime.NumGoroutine"/\fn.body.isNone=false/\
  CallsIn Fence.wide 0 P f us.toArray w λe w'=>∃E' g' u,e= .returned u/\@VR E' g' v u/\gj T M E g h w E' g' h' w'
theorem Sit.still{E E':En}{g:G}{h:H}{w w':World}(s:Sit T E g h w)(hE:E.le E')(j:∀b c,E'.ro b=some c->E.ro b=some c\/w.heap.size<=b)(ho:∀b c,E'.ro b=some c->∃t:TypeId×(Nat×Nat),w'.heap[b]? =some (.cells c t.1 t.2))(k:mV w w'):Sit T E' g h w':=by
 have r:=(WR.env hE s.wr)
 refine Sit.mk' ?_ s.pin λb c e=>⟨ho b c e,λid o z q=>?_⟩
 ·cases r with
  |mk a b c d e f k' x=>
   exact @WR.mk E' T g h w' a b c (λid b o z q=>Nat.lt_of_lt_of_le (d _ _ _ _ q) k.size) (λid y b i l=>by
    obtain⟨m,o',z⟩:=y;exact @BR.move E' _ _ _ _ _ _ _ _ _ i (k.keep _ (d _ _ _ _ i)) (e _ _ _ i l)) f k' x
 ·rcases j b c e with k1|k1
  ·exact(s.env k1).2 id o z q
  ·exact absurd (s.lt q) (by omega)
structure la(P:Program)(T:Ty)(f:FuncId)(vs:List V)(v:V):Prop where
 out:∀E g h w us,Sit T E g h w->@VRs E g vs us->∃fn,P.funcs[f]? =some fn/\fn.name≠ "runtime.NumGoroutine"/\fn.body.isNone=false/\
  CallsIn Fence.wide 0 P f us.toArray w λe w'=>∃E' u,e= .returned u/\@VR E' g v u/\En.le E E'/\(∀b c,E'.ro b=some c->E.ro b=some c\/w.heap.size<=b)/\(∀b c,E'.ro b=some c->∃t:TypeId×(Nat×Nat),w'.heap[b]? =some (.cells c t.1 t.2))/\mV w w'
def fy(T:Ty)(K:Nat->Prop)(f1:F)(h1:H)(f':F)(h':H):Prop:=
 ∀m N E0 g0 w0 E g w tmps,Sx T K E0 g0 w0 E g h1 w->@FR E g m N f1 tmps->∃E' g',Sx T K E0 g0 w0 E' g' h' w/\@FR E' g' m N f' tmps/\∀id b o z,g' id=some (b,o,z)->∃i o' z',g i=some (b,o',z')
def dG(M:Nat->Prop)(v:V):Prop:=∀(E:En) g g' u,(∀id x,¬M id->g id=some x->g' id=some x)->@VR E g v u->@VR E g' v u
def jh(M:Nat->Prop)(f:F):Prop:=∀p,p∈f.loc\/p∈f.tmp->dG M p.2
theorem jh.fr{M:Nat->Prop}{f:F}(a:jh M f){E:En}{g g':G}(hg:∀id x,¬M id->g id=some x->g' id=some x){tmps:Array Value}(h:@FR E g m N f tmps):@FR E g' m N f tmps:=by
 refine⟨h.1,λt v e=>?_⟩;obtain⟨u,h1,h2⟩:=h.2 t v e;refine⟨u,h1,?_⟩;unfold rdn at e
 split at e
 ·exact a _ (.inl (@mH noE _ _ _ e)) E g g' u hg h2
 ·exact a _ (.inr (@mH noE _ _ _ e)) E g g' u hg h2
def noM:Nat->Prop:=λ_=>False
theorem jh.none{f:F}:jh noM f:=λ_ _ E g g' _ hg h=>@VR.mono E g g' (λid x=>hg id x (λk=>k)) _ _ h
def ey(o:COp)(vs:List V):Option (FuncId×List V):=
 match o,vs with
 |.call g,vs=>some (g,vs)
 |.callv,.func (.func g) first captured ::args=>some (g,first++(args++captured))
 |_,_=>none
def Frz(cs:List V)(mk:Nat->V)(v:V):Prop:=(mk=(λi=>.ptr i 0)/\v= .eptr cs 0)\/∃n es,mk=(λi=>.sl i 0 n n true es)/\cs.length=n*es/\v= .lst n es cs
inductive iQ(P:Program)(T:Ty)(K:Nat->Prop)(call:cN):List cj->F->H->F->H->Prop
 |nil {f:F} {h:H}:iQ P T K call [] f h f h
 |op {o:cj} {l:List cj} {f:F} {h:H} {f1:F} {h1:H} {f':F} {h':H} (e:o.run call f h=some (f1,h1)) (k:iQ P T K call l f1 h1 f' h'):iQ P T K call (o ::l) f h f' h'
 |con {o:cj} {l:List cj} {f:F} {h:H} {f':F} {h':H} {M:Nat->Prop} {vs vs':List V} {fn:FuncId} {v:V} {h1:H} (eg:cm f o.guard=some true) (ev:evs f o.args=some vs) (ec:ey o.op vs=some (fn,vs'))
   (c:Con P T M fn vs' h v h1) (hK:∀id,K id->¬M id) (hf:jh M f) (k:iQ P T K call l (o.dst.put f v) h1 f' h'):iQ P T K call (o ::l) f h f' h'
 |mkF {o:cj} {l:List cj} {f:F} {h:H} {f':F} {h':H} {ao:AOp} {vs cs:List V} {mk:Nat->V} {v:V} (eg:cm f o.guard=some true) (ev:evs f o.args=some vs) (eo:o.op= .a ao) (er:ao.run vs=some (.cells cs.length (cM cs 0 .e) none false,mk))
   (hz:Frz cs mk v) (hl:cs.length<=bZ) (hf:∀c,c∈cs->dG (λid=>id=h.next) c) (k:iQ P T K call l (o.dst.put f v) h f' h'):iQ P T K call (o ::l) f h f' h'
 |allocF {o1 o2:cj} {l:List cj} {f:F} {h:H} {f':F} {h':H} {zero:List V} {n:Nat} {x:V} {h2:H} {cs':Tr V} (eg1:cm f o1.guard=some true) (eo1:o1.op= .a (.alloc zero)) (ev1:evs f o1.args=some [])
   (er:(AOp.alloc zero).run []=some (.cells zero.length (cM zero 0 .e) none false,λi=>.ptr i 0)) (hk:h.next<bZ) (eg2:cm (o1.dst.put f (.ptr h.next 0)) o2.guard=some true) (eo2:o2.op= .e (.store n)) (ev2:evs (o1.dst.put f (.ptr h.next 0)) o2.args=some [.ptr h.next 0,x])
   (hw:H.wr h.next (cellsOf x) 0 ⟨h.t.put h.next (some (.cells zero.length (cM zero 0 .e) none false)),Nat.succ h.next⟩=some h2) (hb:h2.blk h.next=some (.cells (cellsOf x).length cs' none false)) (hcs:∀j v,(cellsOf x)[j]? =some v->cs'.get j=some v)
   (hl:(cellsOf x).length=n) (hf:∀c,c∈cellsOf x->dG (λid=>id=h.next) c) (k:iQ P T K call l (o2.dst.put (o1.dst.put f (.eptr (cellsOf x) 0)) cT) h f' h'):iQ P T K call (o1 ::o2 ::l) f h f' h'
 |view {l:List cj} {f:F} {h:H} {f1:F} {h1:H} {f':F} {h':H} (e:fy T K f h f1 h1) (k:iQ P T K call l f1 h1 f' h'):iQ P T K call l f h f' h'
inductive DoX(P:Program)(T:Ty)(M:Nat->Prop)(pk:Option (Nat×Nat))(co:cj)(vs:List V)(s:St)(v:V)(s':St):Prop
 |p {o:POp} (eo:co.op= .p o) (e:o.run vs=some v) (eh:s'.h=s.h) (ec:s'.cs=s.cs):DoX P T M pk co vs s v s'
 |r {o:ROp} (eo:co.op= .r o) (e:o.run vs s.h=some v) (eh:s'.h=s.h) (ec:s'.cs=⟨o,vs,v,co.lo,co.hi⟩ ::s.cs):DoX P T M pk co vs s v s'
 |mkF {ao:AOp} {cs:List V} {mk:Nat->V} (eo:co.op= .a ao) (er:ao.run vs=some (.cells cs.length (cM cs 0 .e) none false,mk)) (hz:Frz cs mk v) (hl:cs.length<=bZ) (hf:∀M c,c∈cs->dG M c) (eh:s'.h=s.h) (ec:s'.cs=s.cs):DoX P T M pk co vs s v s'
 |con {vs':List V} {fn:FuncId} (he:isE co.op=true) (e:ey co.op vs=some (fn,vs')) (c:Con P T M fn vs' s.h v s'.h) (hf:jh M s.f) (ec:s'.cs=s.cs) (hJ:pk=none):DoX P T M pk co vs s v s'
 |w (he:isE co.op=true) (e:co.op.run (λ_ _ _=>none) vs s.h=some (v,s'.h)) (ec:s'.cs=s.cs) (hJ:∀k J,pk=some (k,J)->J<=co.lo):DoX P T M pk co vs s v s'
 |pc {vs':List V} {fn:FuncId} (he:isE co.op=true) (e:ey co.op vs=some (fn,vs')) (c:la P T fn vs' v) (eh:s'.h=s.h) (ec:s'.cs=s.cs):DoX P T M pk co vs s v s'
 |al {zero:List V} {b:Blk} {mk:Nat->V} {k J:Nat} (hpk:pk=some (k,J)) (eo:co.op= .a (.alloc zero)) (er:(AOp.alloc zero).run []=some (b,mk)) (ev:v=mk k) (ea:vs=[]) (hb:s.h.blk k=some b) (hkin:b.kin=some (none,false)) (hJ:co.hi<=J) (eh:s'.h=s.h) (ec:s'.cs=s.cs):DoX P T M pk co vs s v s'
structure ol(P:Program)(T:Ty)(M:Nat->Prop)(pk:Option (Nat×Nat))(co:cj)(s:St)(v:V)(s':St):Prop where
 f:s'.f=co.dst.put s.f v
 hs:s'.hs=if isE co.op=true then s.h ::s.hs else s.hs
 main:(cm s.f co.guard=some false/\v=cT/\s'.h=s.h/\s'.cs=s.cs)\/∃vs,cm s.f co.guard=some true/\evs s.f co.args=some vs/\DoX P T M pk co vs s v s'
inductive wT(P:Program)(T:Ty)(M:Nat->Prop)(pk:Option (Nat×Nat)):List cj->St->St->Prop
 |nil {s:St}:wT P T M pk [] s s
 |cons {co:cj} {l:List cj} {s s1 s':St} {v:V} (st:ol P T M pk co s v s1) (k:wT P T M pk l s1 s'):wT P T M pk (co ::l) s s'
def FQ(T:Ty)(K:Nat->Prop)(m N:Nat)(E0:En)(g0:G)(w0:World)(x:X)(f':F)(h':H)(e:Exit)(a':Act)(w':World):Prop:=
 ∃E' g',Sx T K E0 g0 w0 E' g' h' w'/\@FR E' g' m N f' a'.tmps/\eW [] g' w' w0.heap.size a'.defers/\oS x e
def FL(P:Program)(T:Ty)(K:Nat->Prop)(cc:cF)(f:F)(h:H)(x:X)(f':F)(h':H):Prop:=
 ∀m N E0 g0 w0 (c:Code),eu T m N c=some cc->∀(E:En) (g:G) (a:Act) (w:World),Sx T K E0 g0 w0 E g h w->@FR E g m N f a.tmps->eW [] g w w0.heap.size a.defers->c.wpIn (fen none) 0 P (FQ T K m N E0 g0 w0 x f' h') a w
inductive Way(P:Program)(T:Ty)(K:Nat->Prop)(call:cN)(n:Nat):cF->F->H->X->F->H->Prop
 |exec {c:cF} {f:F} {h:H} {x:X} {f':F} {h':H} (e:exec call false n c f h=some (x,f',h')):Way P T K call n c f h x f' h'
 |reg {ops:List cj} {f:F} {h:H} {f':F} {h':H} (k:iQ P T K call ops f h f' h'):Way P T K call n (.reg ops) f h .norm (clr f') h'
 |regD {ops:List cj} {f:F} {h:H} {s:St} (e:gS call ops ⟨f,h,[],[]⟩=some s) (hc:bR s.cs (jP s.hs [s.h])):Way P T K call n (.regD ops) f h .norm (clr s.f) s.h
 |regX {ops:List cj} {f:F} {h:H} {s:St} {M:Nat->Prop} (e:wT P T M none ops ⟨f,h,[],[]⟩ s) (hc:bR s.cs (jP s.hs [s.h])) (hf:jh M f) (hK:∀id,K id->¬M id):Way P T K call n (.regD ops) f h .norm (clr s.f) s.h
 |seq {a b:cF} {f:F} {h:H} {f1:F} {h1:H} {x:X} {f':F} {h':H} (k1:Way P T K call n a f h .norm f1 h1) (k2:Way P T K call n b f1 h1 x f' h'):Way P T K call n (.seq a b) f h x f' h'
 |seqX {a b:cF} {f:F} {h:H} {x:X} {f':F} {h':H} (k1:Way P T K call n a f h x f' h') (hx:x≠.norm):Way P T K call n (.seq a b) f h x f' h'
 |cond {o:Opd} {a b:cF} {f:F} {h:H} {x:X} {f':F} {h':H} {t:Bool} (e:o.ev f=some (.bool t)) (k:Way P T K call n (if t then a else b) f h x f' h'):Way P T K call n (.cond o a b) f h x f' h'
 |block {id:Nat} {c:cF} {f:F} {h:H} {x:X} {f':F} {h':H} (k:Way P T K call n c f h x f' h'):Way P T K call n (.block id c) f h (unX id x) f' h'
 |loop {c:cF} {f:F} {h:H} {x:X} {f':F} {h':H} (I:Nat->F->H->Prop) (nx:Nat->F->H->X×F×H) (k:Nat) (i:I k f h)
   (rnd:∀k f1 h1,I k f1 h1->Way P T K call n c f1 h1 (nx k f1 h1).1 (nx k f1 h1).2.1 (nx k f1 h1).2.2)
   (more:∀k f1 h1,I k f1 h1->(nx k f1 h1).1= .norm->∃j,j<k/\I j (nx k f1 h1).2.1 (nx k f1 h1).2.2)
   (last:∀k f1 h1,I k f1 h1->(nx k f1 h1).1≠.norm->nx k f1 h1=(x,f',h')):Way P T K call n (.loop c) f h x f' h'
 |view {c:cF} {f:F} {h:H} {f1:F} {h1:H} {x:X} {f':F} {h':H} (e:fy T K f h f1 h1) (k:Way P T K call n c f1 h1 x f' h'):Way P T K call n c f h x f' h'
 |sem {c:cF} {f:F} {h:H} {x:X} {f':F} {h':H} (e:FL P T K c f h x f' h'):Way P T K call n c f h x f' h'
 |viewX {c:cF} {f:F} {h:H} {f1:F} {h1:H} {x:X} {f':F} {h':H} (k:Way P T K call n c f h x f1 h1) (e:fy T K f1 h1 f' h'):Way P T K call n c f h x f' h'
end
end
section
section
variable {P:Program} {T:Ty} {m N:Nat}
theorem eW.of{g g':G}{w:World}{B:Nat}{f:List Deferred}(k:eW [] g w B f)(hg:∀id b o z,g' id=some (b,o,z)->∃i o' z',g i=some (b,o',z')):eW [] g' w B f:=by
 obtain⟨j,h1,h2,l⟩:=k;refine⟨j,h1,h2,λr h=>?_⟩;obtain⟨a,b,c,d⟩:=l r h;refine⟨a,b,λid o z e=>?_,d⟩;obtain⟨i,o',z',q⟩:=hg id r o z e;exact c i o' z' q
theorem eW.extX{M:Nat->Prop}{E E':En}{g g':G}{h h':H}{w w':World}{B:Nat}{c:List Deferred}(x:gj T M E g h w E' g' h' w')(k:eW [] g w B c):eW [] g' w' B c:=by
 obtain⟨f,h1,h2,j⟩:=k;refine⟨f,h1,h2,λr d=>?_⟩;obtain⟨m,a,b,l⟩:=j r d;refine⟨m,Nat.lt_of_lt_of_le a x.size,λid o z e=>?_,(x.keep r a b).trans l⟩;rcases x.fresh id r o z e with h | ⟨i,o',z',h⟩
 ·omega
 ·exact b i o' z' h
theorem uL{E:En}{g:G}{w:World}{o:Oper}{co:COp}{os:List Operand}{a:Act}(hc:bT T o.op=some (co,os)){vs vs':List V}{fn:FuncId}(hv:@VRs E g vs (os.map a.eval))
  (ec:ey co vs=some (fn,vs')) {R:Value->World->Prop} (c:∀us,@VRs E g vs' us->∃fn',P.funcs[fn]? =some fn'/\fn'.name≠ "runtime.NumGoroutine"/\fn'.body.isNone=false/\CallsIn Fence.wide 0 P fn us.toArray w λe w'=>∃u,e= .returned u/\R u w') {rd:Option Nat} {KK:Act->World->Prop} {Q:Exit->Act->World->Prop} (hK:∀u w',R u w'->KK (a.put o.dst u) w'):o.wpIn (fen rd) 0 P a w KK Q:=by
 refine⟨λ_ _=>trivial,?_⟩;rw [Oper.semAt_eq _ _ _ (@fQ noE _ _ _ _ hc)];cases co with
 |call f=>
  obtain⟨rfl,rfl⟩:f=fn/\vs=vs':=by cases ec;exact⟨rfl,rfl⟩
  obtain⟨args,at',he,ho⟩:∃args at',o.op= .call ⟨.value (.func f),args,at'⟩/\os=args.toList:=by
   exact @rv noE _ _ _ _ hc
  subst ho;obtain⟨fn',k1,k2,k3,k4⟩:=c _ hv;have hrun:(execOp a.eval o).run P w= .ok (.enter f (args.map a.eval)) w:=by
   have hb:¬fn'.body=none:=λe=>by rw [e]at k3;cases k3
   simp [execOp,he,resolve,Act.eval,Deferred.ofValue,invoke,callFunc,k1,k2,hb]
  have ha:(args.toList.map a.eval).toArray=args.map a.eval:=by apply Array.ext';simp
  rw [ha]at k4;rw [hrun,Oper.uponIn_enter];refine⟨@kc noE rd,@jN noE _ _ _ _ _ _ (k4.mono ?_)⟩;rintro e w' ⟨u,rfl,hu⟩;exact hK u w' hu
 |callv=>
  obtain⟨x,args,at',he,ho⟩:∃x args at',o.op= .call ⟨.value x,args,at'⟩/\os=x ::args.toList:=by
   exact @pT noE _ _ _ hc
  subst ho;cases vs with
  |nil=>cases ec
  |cons fv vs=>
  have hv':@VRs E g (fv ::vs) (a.eval x ::args.toList.map a.eval):=by simpa using hv
  obtain⟨hf,hvs⟩:@VR E g fv (a.eval x)/\@VRs E g vs (args.toList.map a.eval):=by
   generalize a.eval x=y at hv';cases hv'
   rename_i k1 k2
   exact⟨k1,k2⟩
  cases fv<;>first|(cases ec;done)|skip
  rename_i f first captured
  cases f<;>first|(cases ec;done)|skip
  rename_i f
  obtain⟨rfl,rfl⟩:f=fn/\first++(vs++captured)=vs':=by cases ec;exact⟨rfl,rfl⟩
  generalize hfu:a.eval x=fu at hf;cases hf
  rename_i xs ys ha hb
  obtain⟨fn',k1,k2,k3,k4⟩:=c _ (@VRs.append E g _ _ _ _ ha (@VRs.append E g _ _ _ _ hvs hb));have hrun:(execOp a.eval o).run P w= .ok (.enter f (xs++(args.toList.map a.eval++ys)).toArray) w:=by
   have he':xs.toArray++(args.map a.eval)++ys.toArray=(xs++(args.toList.map a.eval++ys)).toArray:=by apply Array.ext';simp
   have hb:¬fn'.body=none:=λe=>by rw [e]at k3;cases k3
   simp [execOp,he,resolve,hfu,Deferred.ofValue,invoke,callFunc,k1,k2,hb]
  rw [hrun,Oper.uponIn_enter];refine⟨@kc noE rd,@jN noE _ _ _ _ _ _ (k4.mono ?_)⟩;rintro e w' ⟨u,rfl,hu⟩;exact hK u w' hu
 |_=>cases ec
theorem xr{M:Nat->Prop}{E:En}{g:G}{h h1:H}{w:World}(s:Sit T E g h w){o:Oper}{co:COp}{os:List Operand}{a:Act}(hc:bT T o.op=some (co,os)){vs vs':List V}{fn:FuncId}{v:V}(hv:@VRs E g vs (os.map a.eval))
  (ec:ey co vs=some (fn,vs')) (c:Con P T M fn vs' h v h1) {rd:Option Nat} {KK:Act->World->Prop} {Q:Exit->Act->World->Prop} (hK:∀E' g' w' u,gj T M E g h w E' g' h1 w'->@VR E' g' v u->KK (a.put o.dst u) w'):o.wpIn (fen rd) 0 P a w KK Q:=
 uL (R:=λu w'=>∃E' g',@VR E' g' v u/\gj T M E g h w E' g' h1 w') hc hv ec (λus hu=>by
  obtain⟨fn',k1,k2,k3,k4⟩:=c.out E g w us s hu;refine⟨fn',k1,k2,k3,k4.mono ?_⟩;rintro e w' ⟨E',g',u,rfl,q⟩;exact⟨u,rfl,E',g',q⟩) λu w' q=>by
  obtain⟨E',g',q1,q2⟩:=q;exact hK E' g' w' u q2 q1
theorem F4{E:En}{g:G}{h:H}{w:World}(s:Sit T E g h w){o:Oper}{co:COp}{os:List Operand}{a:Act}(hc:bT T o.op=some (co,os)){vs vs':List V}{fn:FuncId}{v:V}(hv:@VRs E g vs (os.map a.eval))
  (ec:ey co vs=some (fn,vs')) (c:la P T fn vs' v) {rd:Option Nat} {KK:Act->World->Prop} {Q:Exit->Act->World->Prop} (hK:∀E' w' u,gj T noM E g h w E' g h w'->@VR E' g v u->KK (a.put o.dst u) w'):o.wpIn (fen rd) 0 P a w KK Q:=
 uL (R:=λu w'=>∃E',@VR E' g v u/\gj T noM E g h w E' g h w') hc hv ec (λus hu=>by
  obtain⟨fn',k1,k2,k3,k4⟩:=c.out E g h w us s hu;refine⟨fn',k1,k2,k3,k4.mono ?_⟩;rintro e w' ⟨E',u,rfl,m1,m2,m3,m4,m5⟩;exact⟨u,rfl,E',m1,m2,m3,λ_ _ _ e=>e,Nat.le_refl _,s.still m2 m3 m4 m5,m5.size,λb hb _=>m5.keep b hb,λid b o z e=>.inr ⟨id,o,z,e⟩,λp hp=>m5.keep _ (by
   obtain⟨⟨z,q⟩,_⟩:=s.pin p hp;exact s.lt q),m5.os,m5.tape,m5.output⟩) λu w' q=>by
  obtain⟨E',q1,q2⟩:=q;exact hK E' w' u q2 q1
theorem F6(hT:da P T){E:En}{g:G}{h:H}{w:World}(s:Sit T E g h w){o:Oper}{S:AOp}{os:List Operand}{a:Act}(hc:bT T o.op=some (.a S,os))(hv:@VRs E g [] (os.map a.eval)){mk:Nat->V}{b:Blk}{k:Nat}
  (er:S.run []=some (b,mk)) (hg:g k=none) (Y:k<h.next) (D:h.blk k=some b) (F:b.kin=some (none,false)) {rd:Option Nat} {W:Act->World->Prop} {Q:Exit->Act->World->Prop} (hK:∀g' w' u,gj T noM E g h w E g' h w'->@VR E g' (mk k) u->W (a.put o.dst u) w'):o.wpIn (fen rd) 0 P a w W Q:=by
 refine⟨λ_ _=>trivial,?_⟩;rw [Oper.semAt_eq _ _ _ (@fQ noE _ _ _ _ hc)];have hm:=@FU E P T g a.eval hT _ _ _ hc _ _ _ hv er;obtain⟨v,z,val,m1,m2,m3⟩:=@ml.make E _ _ _ _ _ _ _ hm;have A:=@fO noE g _ (w.heap.size,0,z) hg;have L:=m2 _ _ _ A (@cH noE _ _ _);have O:=m3 _ (w.alloc v) _ _ A (@cH noE _ _ _) (@dt noE w v);have f:∀b,b<w.heap.size->(w.alloc v).heap[b]? =w.heap[b]? :=λb D=>by
  show(w.heap.push v)[b]? =_;rw [Array.getElem?_push,if_neg (by omega)]
 have l:(w.alloc v).heap.size=w.heap.size+1:=by show(w.heap.push v).size=_;rw [Array.size_push]
 have B:∀{j},j≠k->fp g k (w.heap.size,0,z) j=g j:=λhj=>@dK noE g k _ _ hj;have sm:=@cH noE g k (w.heap.size,0,z);rw [m1 w o rfl,Oper.uponIn_value];refine hK _ _ _ ⟨E.le_refl,λ_ _ e=>.inl e,λid x _ e=>A id x e,Nat.le_refl _,Sit.mk' ?_ (λp M=>?_) λb c e=>?_,by rw [l];omega,λb D _=>f b D,λid b o z e=>?_,λp M=>f _ (by
  obtain⟨⟨z,q⟩,_⟩:=s.pin p M;exact s.lt q),rfl,rfl,rfl⟩ L
 ·have r:=s.wr
  have Z:=@WR.lt E _ _ _ _ s.wr;cases r with
  |mk r1 r2 r3 r4 r5 r6 r7 r8=>
   refine @WR.mk E T _ h _ r1 r2 (λid x q=>?_) (λid K o z q=>?_) (λid y K m n=>?_) (λi j K o z o' J bi bj I m n e3 e4 e5 e6=>?_) (λi K j d ch m n=>?_) r8
   ·by_cases C:id=k
    ·rw [C];exact Y
    ·rw [B C]at q;exact r3 id x q
   ·by_cases C:id=k
    ·rw [C,sm]at q;cases q;rw [l];omega
    ·rw [B C]at q;rw [l];exact Nat.lt_succ_of_lt (r4 _ _ _ _ q)
   ·by_cases C:id=k
    ·subst C
     rw [D]at n;cases n;exact O
    ·rw [B C]at m
     obtain⟨b2,o2,z2⟩:=y;exact @BR.mono E T _ _ A _ _ _ (@BR.move E _ _ _ _ _ _ _ _ _ m (f _ (r4 _ _ _ _ m)) (r5 _ _ _ m n))
   ·by_cases qi:i=k
    ·rw [qi,sm]at m
     cases m;rw [B (λq=>I (qi.trans q.symm))]at n;exact absurd (r4 _ _ _ _ n) (Nat.lt_irrefl _)
    ·rw [B qi]at m
     by_cases qj:j=k
     ·rw [qj,sm]at n
      cases n;exact absurd (r4 _ _ _ _ m) (Nat.lt_irrefl _)
     ·rw [B qj]at n
      exact r6 i j K o z o' J bi bj I m n e3 e4 e5 e6
   ·by_cases qi:i=k
    ·rw [qi,D]at m
     cases m;rw [F]at n;cases n
    ·obtain⟨b2,up,R,N,k3⟩:=r7 i K j d ch m n
     refine⟨b2,up,R,N,λq=>?_⟩;rw [B qi]at q
     by_cases qj:j=k
     ·rw [qj,sm]
      exact λq=>by cases q
     ·rw [B qj]
      exact k3 q
 ·obtain⟨⟨J,R⟩,N⟩:=s.pin p M
  exact⟨⟨J,A _ _ R⟩,N⟩
 ·obtain⟨⟨t,U⟩,C⟩:=s.env e
  have D:=(Array.getElem?_eq_some_iff.1 U).1;refine⟨⟨t,(f b D).trans U⟩,λid o J q=>?_⟩
  by_cases q3:id=k
  ·rw [q3,sm]at q;cases q;exact absurd D (Nat.lt_irrefl _)
  ·rw [B q3]at q;exact C id o J q
 ·by_cases q3:id=k
  ·rw [q3,sm]at e;cases e;exact .inl (Nat.le_refl _)
  ·rw [B q3]at e;exact .inr ⟨id,o,z,e⟩
theorem xq(hT:da P T){E:En}{g:G}{h:H}{w:World}(s:Sit T E g h w){o:Oper}{ao:AOp}{os:List Operand}{a:Act}(hc:bT T o.op=some (.a ao,os)){vs cs:List V}(hv:@VRs E g vs (os.map a.eval)){mk:Nat->V}{v:V}
  (er:ao.run vs=some (.cells cs.length (cM cs 0 .e) none false,mk)) (hz:Frz cs mk v) (hl:cs.length<=bZ) (hf:∀c,c∈cs->dG (λid=>id=h.next) c) {rd:Option Nat} {KK:Act->World->Prop} {Q:Exit->Act->World->Prop} (hK:∀E' w' u,gj T noM E g h w E' g h w'->@VR E' g v u->KK (a.put o.dst u) w'):o.wpIn (fen rd) 0 P a w KK Q:=by
 classical
 refine⟨λ_ _=>trivial,?_⟩;rw [Oper.semAt_eq _ _ _ (@fQ noE _ _ _ _ hc)];have hm:=@FU E P T g a.eval hT _ _ _ hc _ _ _ hv er;obtain⟨m,z,val,m1,m2,m3⟩:=@ml.make E _ _ _ _ _ _ _ hm;have C:g h.next=none:=by
  cases e:g h.next with
  |none=>rfl
  |some x=>exact absurd (@WR.dom E _ _ _ _ s.wr _ _ e) (by omega)
 have I:=@fO noE g _ (w.heap.size,0,z) C;have B:=m2 _ _ _ I (@cH noE _ _ _);have W:=m3 _ (w.alloc m) _ _ I (@cH noE _ _ _) (@dt noE w m);obtain⟨b,o',z',c,t,M,S,k3,k4,k5,k6⟩:=(W:@Cells E (fp g h.next (w.heap.size,0,z)) (w.alloc m) h.next _ _)
 rw [@cH noE]at M;cases M;have Z:E.ro w.heap.size=none:=by
  cases e:E.ro w.heap.size with
  |none=>rfl
  |some c=>
   obtain⟨⟨t,q⟩,_⟩:=s.env e;have:=(Array.getElem?_eq_some_iff.1 q).1;omega
 let E':En:=⟨λb=>if b=w.heap.size then some c else E.ro b⟩
 have hE:E.le E':=λb c' e=>by
  show(if b=w.heap.size then some c else E.ro b)=some c';rw [if_neg (λq=>by rw [q,Z]at e;cases e),e]
 have D:E'.ro w.heap.size=some c:=if_pos rfl;have K:∀b c',E'.ro b=some c'->b=w.heap.size/\c'=c\/E.ro b=some c':=λb c' e=>by
  have e:(if b=w.heap.size then some c else E.ro b)=some c':=e
  by_cases q:b=w.heap.size
  ·rw [if_pos q]at e;cases e;exact .inl ⟨q,rfl⟩
  ·rw [if_neg q]at e;exact .inr e
 have Y:∀j x,cs[j]? =some x->∃u,c[0+j]? =some u/\@VR E g x u:=λj x e=>by
  have hj:=(List.getElem?_eq_some_iff.1 e).1;obtain⟨u,F,J,_⟩:=k6 j x hj (by rw [@dz noE cs 0 .e j (by omega),if_pos (by omega),Nat.sub_zero];exact e);refine⟨u,F,hf x (List.mem_of_getElem? e) E _ g u (λid y L hy=>?_) J⟩;have:fp g h.next (w.heap.size,0,z) id=g id:=by unfold fp;rw [if_neg L]
  rwa [this]at hy
 have O:∃xs,@VRs E g cs xs/\∀j u,xs[j]? =some u->c[0+j]? =some u:=by
  have:∀(l:List V) (k:Nat),(∀j x,l[j]? =some x->∃u,c[k+j]? =some u/\@VR E g x u)->∃xs,@VRs E g l xs/\∀j u,xs[j]? =some u->c[k+j]? =some u:=by
   intro l
   induction l with
   |nil=>exact λk _=>⟨[],@VRs.nil E g,λj u e=>by simp at e⟩
   |cons v l ih=>
    intro k h;obtain⟨u,h1,h2⟩:=h 0 v (by simp);obtain⟨xs,M,S⟩:=ih (k+1) λj v e=>by
     obtain⟨u,F,J⟩:=h (j+1) v (by simpa using e);exact⟨u,by rw [show k+1+j=k+(j+1) by omega];exact F,J⟩
    refine⟨u ::xs,@VRs.cons E g _ _ _ _ h2 M,λj y e=>?_⟩;cases j with
    |zero=>simp at e;subst e;exact h1
    |succ j=>rw [show k+(j+1)=k+1+j by omega];exact S j y (by simpa using e)
  exact this cs 0 Y
 obtain⟨xs,U,x2⟩:=O;have a0:@VR E' g v (val w.heap.size):=by
  generalize val w.heap.size=vv at B;rcases hz with⟨rfl,rfl⟩ | ⟨n,es,rfl,L,rfl⟩
  ·cases B with
   |ptr e=>
    rw [@cH noE]at e;cases e;exact @VR.eptr E' g _ _ _ _ _ _ D x2 (U.env hE)
  ·cases B with
   |slx e=>
    rw [@cH noE]at e;cases e;exact @VR.lst E' g _ _ _ _ _ _ _ _ D x2 L (U.env hE)
   |slx0 e=>
    rw [@cH noE]at e;cases e;obtain rfl:=List.length_eq_zero_iff.1 (L.trans (Nat.zero_mul _));cases U;exact @VR.lst E' g _ _ _ _ _ c _ [] D (λj u e=>by simp at e) (by simp) (@VRs.nil E' g)
 have i:∀b,b<w.heap.size->(w.alloc m).heap[b]? =w.heap[b]? :=λb hb=>by
  show(w.heap.push m)[b]? =_;rw [Array.getElem?_push,if_neg (by omega)]
 have A:(w.alloc m).heap.size=w.heap.size+1:=by show(w.heap.push m).size=_;rw [Array.size_push]
 rw [m1 w o rfl,Oper.uponIn_value];refine hK E' _ _ ⟨hE,λb c' e=>?_,λ_ _ _ e=>e,Nat.le_refl _,Sit.mk' ?_ s.pin (λb c' e=>?_),by rw [A];omega,λb hb _=>i b hb,λid b o z e=>.inr ⟨id,o,z,e⟩,λp hp=>i _ (by
  obtain⟨⟨z,q⟩,_⟩:=s.pin p hp;exact s.lt q),rfl,rfl,rfl⟩ a0
 ·rcases K b c' e with⟨q,_⟩|q
  ·exact .inr (by omega)
  ·exact .inl q
 ·have r:=WR.env hE s.wr
  cases r with
  |mk a b c d e f k' x=>
   exact @WR.mk E' T g h _ a b c (λid b o z q=>by rw [A];exact Nat.lt_succ_of_lt (d _ _ _ _ q)) (λid y b R e2=>by
    obtain⟨b',o',z⟩:=y;exact @BR.move E' _ _ _ _ _ _ _ _ _ R (i _ (d _ _ _ _ R)) (e _ _ _ R e2)) f k' x
 ·rcases K b c' e with⟨rfl,rfl⟩|q
  ·exact⟨⟨(t,0,0),S⟩,λid o z q=>absurd (s.lt q) (by omega)⟩
  ·obtain⟨⟨t,F⟩,J⟩:=s.env q
   exact⟨⟨t,(i _ (Array.getElem?_eq_some_iff.1 F).1).trans F⟩,J⟩
end
end
end Ev
end Go.Proofs.YtdfphfdnoobikaaGreatDoor
