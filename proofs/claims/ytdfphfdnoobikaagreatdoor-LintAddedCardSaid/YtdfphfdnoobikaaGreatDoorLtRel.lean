/-
  The checker's law:flaws are only added,at the place;what changes with the functions that are defined.
-/
import Derived.Test.YtdfphfdnoobikaaGreatDoorLtChkM
import Derived.Test.YtdfphfdnoobikaaGreatDoorLtShown
namespace Go.Proofs.YtdfphfdnoobikaaGreatDoor
namespace Ev
section
structure AtP(p:Pl)(x:Fl):Prop where
 fn:x.fn=p.name
 ar:x.ar=p.ar
 cl:x.cl=p.cl
theorem AtP.flw{p:Pl}{c:Int}{b:ByteArray}{n:Int}:AtP p (flw p c b n):=⟨rfl,rfl,rfl⟩
structure RR(R:List Fl->List Fl->Prop):Prop where
 nil:R [] []
 app:∀{a a' b b'},R a a'->R b b'->R (a++b) (a'++b')
 one:∀x:Fl,x.code≠2->x.code≠6->R [x] [x]
def RL(R:List Fl->List Fl->Prop)(p:Pl)(g g':List Fl->List Fl):Prop:=∃xs ys,(∀x,x∈xs->AtP p x)/\R xs ys/\(∀fl,g fl=fl++xs)/\∀fl,g' fl=fl++ys
def RS(R:List Fl->List Fl->Prop)(p:Pl)(g g':Sc×List Fl->Sc×List Fl):Prop:=∀s,∃s' xs ys,(∀x,x∈xs->AtP p x)/\R xs ys/\(∀fl,g (s,fl)=(s',fl++xs))/\∀fl,g' (s,fl)=(s',fl++ys)
def RX(R:List Fl->List Fl->Prop)(E E':XF):Prop:=∀p x s,RL R p (E p x s) (E' p x s)
section
variable {R:List Fl->List Fl->Prop} {p:Pl} (c:RR R)
include c
theorem RL.same:RL R p (λfl=>fl) (λfl=>fl):=⟨[],[],(λ_ h=>by cases h),c.nil,λfl=>(List.append_nil fl).symm,λfl=>(List.append_nil fl).symm⟩
theorem RL.add{k:Int}{b:ByteArray}{n:Int}(h2:k≠2:=by decide)(h6:k≠6:=by decide):RL R p (λfl=>fl++[flw p k b n]) (λfl=>fl++[flw p k b n]):=⟨_,_,λx h=>by rw [List.mem_singleton.1 h];exact .flw,c.one _ h2 h6,λfl=>rfl,λfl=>rfl⟩
theorem RL.comp{g g' h h':List Fl->List Fl}(a:RL R p g g')(b:RL R p h h'):RL R p (λfl=>h (g fl)) (λfl=>h' (g' fl)):=by
 obtain⟨xs,ys,a1,a2,a3,a4⟩:=a;obtain⟨xs2,ys2,b1,b2,b3,b4⟩:=b;refine⟨xs++xs2,ys++ys2,λx hx=>?_,c.app a2 b2,λfl=>by show h (g fl)=_;rw [a3,b3,List.append_assoc],λfl=>by show h' (g' fl)=_;rw [a4,b4,List.append_assoc]⟩;rcases List.mem_append.1 hx with hx|hx
 ·exact a1 x hx
 ·exact b1 x hx
omit c in
theorem RL.bif{b:Bool}{g g' h h':List Fl->List Fl}(x:RL R p g g')(y:RL R p h h'):RL R p (λfl=>if b then g fl else h fl) (λfl=>if b then g' fl else h' fl):=by
 cases b with
 |true=>exact x
 |false=>exact y
theorem RL.loop{f f':Nat->List Fl->List Fl}(n:Nat)(h:∀i,RL R p (f i) (f' i)):RL R p (λfl=>bZ f fl n) (λfl=>bZ f' fl n):=by
 induction n with
 |zero=>exact RL.same c
 |succ n ih=>exact RL.comp c ih (h n)
theorem RS.same:RS R p (λst=>st) (λst=>st):=λs=>⟨s,[],[],(λ_ h=>by cases h),c.nil,λfl=>by rw [List.append_nil],λfl=>by rw [List.append_nil]⟩
theorem RS.loop{f f':Nat->Sc×List Fl->Sc×List Fl}(n:Nat)(h:∀i,RS R p (f i) (f' i)):RS R p (λst=>bZ f st n) (λst=>bZ f' st n):=by
 induction n with
 |zero=>exact RS.same c
 |succ n ih=>
  intro s;obtain⟨s1,xs,ys,a1,a2,a3,a4⟩:=ih s;obtain⟨s2,xs2,ys2,b1,b2,b3,b4⟩:=h n s1;refine⟨s2,xs++xs2,ys++ys2,λx hx=>?_,c.app a2 b2,λfl=>?_,λfl=>?_⟩
  ·rcases List.mem_append.1 hx with hx|hx
   ·exact a1 x hx
   ·exact b1 x hx
  ·show f n (bZ f (s,fl) n)=_
   rw [show bZ f (s,fl) n=_ from a3 fl,b3,List.append_assoc]
  ·show f' n (bZ f' (s,fl) n)=_
   rw [show bZ f' (s,fl) n=_ from a4 fl,b4,List.append_assoc]
theorem RS.then{G G':Sc×List Fl->Sc×List Fl}{e e':Sc->List Fl->List Fl}(h:RS R p G G')(k:∀s,RL R p (e s) (e' s))(s:Sc):RL R p (λfl=>e (G (s,fl)).1 (G (s,fl)).2) (λfl=>e' (G' (s,fl)).1 (G' (s,fl)).2):=by
 obtain⟨s1,xs,ys,a1,a2,a3,a4⟩:=h s;obtain⟨xs2,ys2,b1,b2,b3,b4⟩:=k s1;refine⟨xs++xs2,ys++ys2,λx hx=>?_,c.app a2 b2,λfl=>by show e (G (s,fl)).1 (G (s,fl)).2=_;rw [a3];show e s1 (fl++xs)=_;rw [b3,List.append_assoc],λfl=>by show e' (G' (s,fl)).1 (G' (s,fl)).2=_;rw [a4];show e' s1 (fl++ys)=_;rw [b4,List.append_assoc]⟩;rcases List.mem_append.1 hx with hx|hx
 ·exact a1 x hx
 ·exact b1 x hx
omit c in
theorem RS.of{G G':Sc×List Fl->Sc×List Fl}(t:Sc->Sc)(e e':Sc->List Fl->List Fl)(h:∀s fl,G (s,fl)=(t s,e s fl))(h':∀s fl,G' (s,fl)=(t s,e' s fl))(k:∀s,RL R p (e s) (e' s)):RS R p G G':=λs=>by
 obtain⟨xs,ys,b1,b2,b3,b4⟩:=k s;exact⟨t s,xs,ys,b1,b2,λfl=>by rw [h,b3],λfl=>by rw [h',b4]⟩
theorem yu(x:Ex)(s:Sc):RL R p (wE p x s) (wE p x s):=RL.bif (RL.add c) (RL.same c)
theorem Dv(g:Sg)(last:Bool):RS R p (nW p g last) (nW p g last):=by
 refine RS.of (λs=>iG g s) _ _ (λs fl=>rfl) (λs fl=>rfl) λs=>?_;have h1:RL R p (λfl=>if oK g then fl else fl++[flw p 9 eB 0]) (λfl=>if oK g then fl else fl++[flw p 9 eB 0]):=RL.bif (RL.same c) (RL.add c);exact RL.bif (b:=(g.sized&&(!eqI g.size.kind 1&&(!eqI g.size.kind 3||eqI (kJ s g.size.name) 0)))||(!g.sized&&(!last&&(eqI g.type 2||eqI g.type 3)))) (RL.comp c h1 (RL.add c (k:=11) (b:=eB) (n:=0)):) h1
theorem tC:∀(n:Nat) (x:Ex),RS R p (dU p n x) (dU p n x)
 |0,x=>RS.same c
 |n+1,x=>by
  have e:dU p (n+1) x=λst=>if eqI x.kind 5||eqI x.kind 7 then bZ (λi st=>dU p n (bW x.items i) st) st x.items.length
   else if eqI x.kind 8 then bZ (λi st=>nW p (ck x.segs i) (sz x.segs i) st) st x.segs.length
   else(gK B6 x st.1,if rb 17 [.agg (exO x)]then st.2 else st.2++[flw p 9 eB 0]):=rfl
  rw [e];cases eqI x.kind 5||eqI x.kind 7 with
  |true=>exact RS.loop c _ λi=>tC n _
  |false=>
   cases eqI x.kind 8 with
   |true=>exact RS.loop c _ λi=>Dv c _ _
   |false=>exact RS.of (λs=>gK B6 x s) _ _ (λs fl=>rfl) (λs fl=>rfl) λs=>RL.bif (RL.same c) (RL.add c)
theorem sC:∀(n:Nat) (x:Ex) (s:Sc),RL R p (fE p n x s) (fE p n x s)
 |0,x,s=>RL.same c
 |n+1,x,s=>RL.bif (yu c x s) (RL.bif (RL.add c) (RL.bif (RL.loop c _ λi=>sC n _ s) (RL.add c)))
section
variable {E E':XF} (X:RX R E E')
include X
theorem Dk(s:Sm):RS R p (g7 E p s) (g7 E' p s):=by
 unfold g7;cases s.isMatch with
 |true=>
  intro sc;obtain⟨s1,xs,ys,a1,a2,a3,a4⟩:=tC (p:=p) c B6 s.pat sc;obtain⟨xs2,ys2,b1,b2,b3,b4⟩:=X p s.val sc;refine⟨s1,xs++xs2,ys++ys2,λx hx=>?_,c.app a2 b2,λfl=>?_,λfl=>?_⟩
  ·rcases List.mem_append.1 hx with hx|hx
   ·exact a1 x hx
   ·exact b1 x hx
  ·show((dU p B6 s.pat (sc,fl)).1,E p s.val sc (dU p B6 s.pat (sc,fl)).2)=_
   rw [a3];show(s1,E p s.val sc (fl++xs))=_;rw [b3,List.append_assoc]
  ·show((dU p B6 s.pat (sc,fl)).1,E' p s.val sc (dU p B6 s.pat (sc,fl)).2)=_
   rw [a4];show(s1,E' p s.val sc (fl++ys))=_;rw [b4,List.append_assoc]
 |false=>exact RS.of (λs=>s) _ _ (λs fl=>rfl) (λs fl=>rfl) λsc=>X p s.val sc
theorem ls(l:List Sm)(s:Sc):RL R p (kj E p l s) (kj E' p l s):=RS.then (e:=λ_ fl=>fl) (e':=λ_ fl=>fl) c (RS.loop c l.length λi=>Dk c X (cD l i)) (λ_=>RL.same c) s
theorem tQ(k:Cl)(s:Sc):RL R p (qS E p k s) (qS E' p k s):=
 RS.then (e:=λs fl=>DW E p k (s,fl)) (e':=λs fl=>DW E' p k (s,fl)) c (RS.loop c k.pats.length λi=>tC c B6 (bW k.pats i)) (λs=>(RL.comp c (RL.loop c k.guards.length λi=>RL.loop c (di k.guards i).length λj=>sC c B6 (bW (di k.guards i) j) s) (ls c X k.body s):)) s
theorem pW(l:List Cl)(s:Sc):RL R p (rp E p l s) (rp E' p l s):=RL.loop c _ λi=>tQ c X (bM l i) s
theorem nB(l:List Ex)(s:Sc):RL R p (lW E p l s) (lW E' p l s):=RL.loop c _ λi=>X p (bW l i) s
theorem C4(l:List Sg)(s:Sc):RL R p (zn E p l s) (zn E' p l s):=RL.loop c _ λi=>by
 have h1:RL R p (λfl=>if eqI (ck l i).type 4 then fl else E p (ck l i).val s fl) (λfl=>if eqI (ck l i).type 4 then fl else E' p (ck l i).val s fl):=RL.bif (RL.same c) (X p _ s);exact RL.bif (RL.comp c h1 (X p (ck l i).size s):) h1
theorem DS(n:Int)(y:Cl)(s:Sc):RL R p (xj E p n y s) (xj E' p n y s):=by
 have h1:RL R p (λfl=>if eqI (Int.ofNat y.pats.length) n then fl else fl++[flw p 12 eB (Int.ofNat y.pats.length)]) (λfl=>if eqI (Int.ofNat y.pats.length) n then fl else fl++[flw p 12 eB (Int.ofNat y.pats.length)]):=RL.bif (RL.same c) (RL.add c);exact(RL.comp c h1 (tQ c X y (jf s (FL y))):)
theorem DY(x:Ex)(s:Sc):RL R p (Ck E p x s) (Ck E' p x s):=by
 have h1:RL R p (λfl=>if ltI 200 (lU x (gJ s))then fl++[flw p 13 eB (lU x (gJ s))]else fl) (λfl=>if ltI 200 (lU x (gJ s))then fl++[flw p 13 eB (lU x (gJ s))]else fl):=RL.bif (RL.add c) (RL.same c);exact(RL.comp c h1 (RL.loop c x.clauses.length λi=>DS c X (Int.ofNat (bM x.clauses 0).pats.length) (bM x.clauses i) s):)
end
variable {D D':Df} (hC:∀(p:Pl) (nm:ByteArray) (n:Nat),RL R p (λfl=>if !D nm (Int.ofNat n)&&eqI (mC nm n) 0 then fl++[flw p 6 nm (Int.ofNat n)]else fl) (λfl=>if !D' nm (Int.ofNat n)&&eqI (mC nm n) 0 then fl++[flw p 6 nm (Int.ofNat n)]else fl))
include hC
theorem Bf{E E':XF}(X:RX R E E'):RX R (iM D E) (iM D' E'):=λp x s=>
 RL.bif (yu c x s) (RL.bif (RL.add c) (RL.bif (C4 c X _ s) (RL.bif (RL.comp c (hC p x.name x.items.length) (nB c X x.items s):) (RL.bif (DY c X x s) (RL.bif (ls c X _ s)
  (RL.bif (RL.comp c (nB c X x.items s) (pW c X x.clauses s):) (RL.bif (RL.comp c (RL.comp c (pW c X x.clauses s) (nB c X x.items s)) (ls c X x.after s):)
   (RL.bif (RL.comp c (RL.comp c (RL.comp c (ls c X x.body s) (pW c X x.clauses s)) (pW c X x.catches s)) (ls c X x.after s):) (nB c X _ s)))))))))
theorem vQ:∀n:Nat,RX R (lX D n) (lX D' n)
 |0=>λp x s=>RL.same c
 |n+1=>Bf c hC (vQ n)
theorem D7(f:Fu)(i:Nat):RL R (plF f i) (rL D f i) (rL D' f i):=by
 have h1:RL R (plF f i) (λfl=>if nmB (bM f.clauses i).name f.name&&eqI (Int.ofNat (bM f.clauses i).pats.length) f.arity then fl else fl++[flw (plF f i) 4 (bM f.clauses i).name (Int.ofNat (bM f.clauses i).pats.length)]) (λfl=>if nmB (bM f.clauses i).name f.name&&eqI (Int.ofNat (bM f.clauses i).pats.length) f.arity then fl else fl++[flw (plF f i) 4 (bM f.clauses i).name (Int.ofNat (bM f.clauses i).pats.length)]):=RL.bif (RL.same c) (RL.add c);exact(RL.comp c h1 (tQ c (vQ c hC B6) (bM f.clauses i) []):)
end
structure AtF(f:Fu)(x:Fl):Prop where
 fn:x.fn=f.name
 ar:x.ar=f.arity
 cl:0<x.cl
def RF(R:List Fl->List Fl->Prop)(f:Fu)(g g':List Fl->List Fl):Prop:=∃xs ys,(∀x,x∈xs->AtF f x)/\R xs ys/\(∀fl,g fl=fl++xs)/\∀fl,g' fl=fl++ys
section
variable {R:List Fl->List Fl->Prop} (c:RR R)
theorem RL.rf{f:Fu}{i:Nat}{g g':List Fl->List Fl}(h:RL R (plF f i) g g'):RF R f g g':=by
 obtain⟨xs,ys,a1,a2,a3,a4⟩:=h;refine⟨xs,ys,λx hx=>⟨(a1 x hx).fn,(a1 x hx).ar,?_⟩,a2,a3,a4⟩;rw [(a1 x hx).cl];show(0:Int)<Int.ofNat (i+1)
 exact Int.ofNat_lt.2 (Nat.succ_pos i)
include c
theorem RF.comp{f:Fu}{g g' h h':List Fl->List Fl}(a:RF R f g g')(b:RF R f h h'):RF R f (λfl=>h (g fl)) (λfl=>h' (g' fl)):=by
 obtain⟨xs,ys,a1,a2,a3,a4⟩:=a;obtain⟨xs2,ys2,b1,b2,b3,b4⟩:=b;refine⟨xs++xs2,ys++ys2,λx hx=>?_,c.app a2 b2,λfl=>by show h (g fl)=_;rw [a3,b3,List.append_assoc],λfl=>by show h' (g' fl)=_;rw [a4,b4,List.append_assoc]⟩;rcases List.mem_append.1 hx with hx|hx
 ·exact a1 x hx
 ·exact b1 x hx
theorem RF.loop{f:Fu}{k k':Nat->List Fl->List Fl}(n:Nat)(h:∀i,RF R f (k i) (k' i)):RF R f (λfl=>bZ k fl n) (λfl=>bZ k' fl n):=by
 induction n with
 |zero=>exact(RL.same (p:=plF f 0) c).rf
 |succ n ih=>exact RF.comp c ih (h n)
theorem D6(f:Fu)(a:Bool):RL R (plF f 0) (nA f a) (nA f a):=by
 have h1:RL R (plF f 0) (λfl=>if a then fl++[flw (plF f 0) 3 f.name f.arity]else fl) (λfl=>if a then fl++[flw (plF f 0) 3 f.name f.arity]else fl):=RL.bif (RL.add c) (RL.same c);exact RL.bif h1 (RL.comp c h1 (RL.add c (k:=5) (b:=f.name) (n:=f.arity)):)
theorem Gb{D D':Df}(hC:∀(p:Pl) (nm:ByteArray) (n:Nat),RL R p (λfl=>if !D nm (Int.ofNat n)&&eqI (mC nm n) 0 then fl++[flw p 6 nm (Int.ofNat n)]else fl) (λfl=>if !D' nm (Int.ofNat n)&&eqI (mC nm n) 0 then fl++[flw p 6 nm (Int.ofNat n)]else fl))(f:Fu)(a:Bool):RF R f (fnF D f a) (fnF D' f a):=
 (RF.comp c (D6 c f a).rf (RF.loop c f.clauses.length λi=>(D7 c hC f i).rf):)
end
end
section
theorem G1{l:List Fl}{i:Nat}{d:Fl}(h:Nat.blt i l.length=true):∃a b,flL l=a++(flO ((l[i]?).getD d)++b)/\a.length=Nat.mul i 6:=pQ (f:=flO) (g:=flL) (n:=6) (λ_ _=>rfl) (λ_=>rfl) l i _ (cO h)
noncomputable section
def fl0:Fl:=⟨eB,0,0,0,eB,0⟩
def oC(l:List Fl)(i:Nat):Fl:=(l[i]?).getD fl0
end
theorem ES{l:List Fl}{i:Nat}(h:Nat.blt i l.length=true):eY (flL l) (Nat.mul i 6) (flO (oC l i)):=by obtain⟨a,b,e,k⟩:=G1 (d:=fl0) h;exact .of e k
theorem GY{l:List Fl}{i k n:Nat}{v:V}{h:H}(hb:Nat.blt i l.length=true)(hv:d5 (flO (oC l i)) k=some v):ROp.run (.load false n) [.eptr (flL l) (Nat.add (Nat.mul i 6) k)] h=some v:=dO (ES hb) hv h
theorem vx{l:List Fl}{i:Nat}{h:H}(hb:Nat.blt i l.length=true):ROp.run (.load true 6) [.eptr (flL l) (Nat.mul i 6)] h=some (.agg (flO (oC l i))):=fm (ES hb) h
theorem D2{l:List Fl}{i:Nat}(h:i<l.length):l.take (i+1)=l.take i++[oC l i]:=by
 have:oC l i=l[i]:=by
  show(l[i]?).getD fl0=_;rw [List.getElem?_eq_getElem h];rfl
 rw [this,List.take_succ_eq_append_getElem h]
theorem FI(l:List Fl):bP (.lst l.length 6 (flL l)):= .lst (nt l)
theorem Gc(f:Fl):∀c,c∈flO f->bP c:=bO (.flat rfl) (bO (.flat rfl) (bO (.flat rfl) (bO (.flat rfl) (bO (.flat rfl) (bO (.flat rfl) px0)))))
theorem kq(n c:Nat):cV n c n c=true:=by
 unfold cV;simp
theorem G5(x:Fl)(h:H):ROp.run (.eq (.agg [.s,.i,.i,.i,.s,.i]) true) [.agg (flO x),.agg (flO x)] h=some (.bool false):=by
 have e1:cV x.fn.size (bT x.fn.data.toList) x.fn.size (bT x.fn.data.toList)=true:=kq _ _;have e2:cV x.name.size (bT x.name.data.toList) x.name.size (bT x.name.data.toList)=true:=kq _ _;have i1:eqI x.ar x.ar=true:=by rw [eC];simp
 have i2:eqI x.cl x.cl=true:=by rw [eC];simp
 have i3:eqI x.code x.code=true:=by rw [eC];simp
 have i4:eqI x.n x.n=true:=by rw [eC];simp
 have key:fP h (.agg [.s,.i,.i,.i,.s,.i]) (.agg (flO x)) (.agg (flO x))=some true:=by
  show(ob (some (cV x.fn.size (bT x.fn.data.toList) x.fn.size (bT x.fn.data.toList))) λc=>Bool.rec (motive:=λ_=>Option Bool) (some false) (ob (some (eqI x.ar x.ar)) λc=>Bool.rec (motive:=λ_=>Option Bool) (some false) (ob (some (eqI x.cl x.cl)) λc=>Bool.rec (motive:=λ_=>Option Bool) (some false) (ob (some (eqI x.code x.code)) λc=>Bool.rec (motive:=λ_=>Option Bool) (some false) (ob (some (cV x.name.size (bT x.name.data.toList) x.name.size (bT x.name.data.toList))) λc=>Bool.rec (motive:=λ_=>Option Bool) (some false) (ob (some (eqI x.n x.n)) λc=>Bool.rec (motive:=λ_=>Option Bool) (some false) (some true) c) c) c) c) c) c)=some true;rw [e1,e2,i1,i2,i3,i4];rfl
 show ob (fP h (.agg [.s,.i,.i,.i,.s,.i]) (.agg (flO x)) (.agg (flO x))) _=_;rw [key];rfl
noncomputable section
def fr13(l:List Fl)(i:Nat):AL:=[(0,.lst l.length 6 (flL l)),(1,.lst l.length 6 (flL l)),(5,.int .i64 (Int.ofNat i))]
end
theorem f13(l:List Fl)(hl:l.length<9223372036854775807):CP 13 [.lst l.length 6 (flL l),.lst l.length 6 (flL l)] (.bool true):=by
 have pl:=FI l;refine cS Tryz.func13 (by decide) cf13_ok rfl (bO pl (bO pl px0)) rfl ?_
 repeat' (first
  |(refine WLg.mk ?_;first
  |refine aa rfl rfl rfl rfl ?_)|apply ac|refine ae rfl ?_|apply ai|apply ah|apply aj|apply al|refine ak rfl (λht=>?_) (λht=>?_)|apply ap|apply bG.norm|apply bG.ret|fail)
 ·exfalso
  have i4:eqI (Int.ofNat l.length) (Int.ofNat l.length)=true:=by rw [eC];simp
  rw [i4]at ht;cases ht
 refine aw (cA (l:=fr13 l 0) KT rfl) ?_;refine ax l.length (λi f h=>f=fr13 l i/\h=H0) ?_ (i:=0) (Nat.zero_le _) ⟨rfl,rfl⟩;rintro i _ _ hi ⟨rfl,rfl⟩;have hi2:i<9223372036854775807:=by omega
 have eqf:=G5 (oC l i) H0
 repeat' (first
  |(refine WLg.mk ?_;first
  |refine aa rfl rfl rfl rfl ?_)
  |(show WX _ _ _ _ _ _ _ _ _ _;first
  |refine aI rfl rfl rfl rfl ?_|refine aI rfl rfl (bN Hy) rfl ?_|refine aG rfl rfl (vx Hy) rfl ?_|refine aG rfl rfl (eqf) rfl ?_|refine aJ (by repeat' (first|exact bF.nil|refine bF.any (λh=>rfl) ?_|refine bF.first rfl ?_|refine bF.first (vx Hy) ?_|refine bF.snd (vx Hy) ?_|refine bF.any (λh=>vx Hy) ?_|refine bF.first (eqf) ?_|refine bF.snd (eqf) ?_|refine bF.any (λh=>eqf) ?_|refine bF.each (.cons rfl .nil) ?_|refine bF.each (.cons rfl (.cons rfl .nil)) ?_|refine bF.each (.cons rfl (.cons rfl (.cons rfl .nil))) ?_)) ?_)|apply ac|refine ae rfl ?_|apply ai|apply ah|apply aj|apply al|refine aB rfl ?_|refine ak rfl (λht=>?_) (λht=>?_)|apply av|apply ap|refine aK ?_|apply bG.norm|apply bG.exit|apply OnC.exit|fail)
 ·exact .norm ⟨_,_,cA KI rfl,bL Hy,rfl,rfl⟩
 ·exact⟨.inr rfl,_,rfl,.flat rfl,rfl⟩
theorem A2{es:Nat}{h:H}{f:F}{t:Nat}{v:V}{cs:List V}{r:AL}(b0:h.blk 0=some (.ro 256 dN))(gl:GL es h v cs)(px:∀c,c∈cs->bP c)(e:lk f.loc t=some v)(kr:rC f.loc r)(n:Nat)(hn:cs.length=n*es)(he:0<es):fG TP Kp f h ⟨(t,.lst n es cs) ::r,[]⟩ H0:=by
 have u0:∀i,cL lp0 i->i=0:=λi ⟨b,e⟩=>by
  cases i with
  |zero=>rfl
  |succ i=>cases e
 have dr:∀Z:Nat->Option (List V),(∀k cs,Z k=some cs->∃t up ch,h.blk k=some (.cells cs.length t up ch)/\∀j v,cs[j]? =some v->t.get j=some v)->(∀k cs,Z k=some cs->0≠k/\(∀d,¬Up h 0 k d)/\∀d,¬Up h k 0 d)->Vw TP h lp0 (λi=>i) Z:=λZ hz hu=>by
  refine⟨jV.len,λi b' e=>?_,λi j _ _ e=>e,λi j d hi _=>?_,(λk cs e _=>hz k cs e),λk cs i e hi=>?_,λq hq=>⟨rfl,jV.all q hq⟩⟩
  ·obtain rfl:=u0 i ⟨_,e⟩
   obtain rfl:Blk.ro 256 dN=b':=by cases e;rfl
   exact⟨_,b0,.ro λj v e=>.flat (d3 eJ (by rw [fU];unfold bR;omega) e)⟩
  ·rw [u0 i hi]
   exact dH b0
  ·rw [u0 i hi]
   exact hu k cs e
 have fx:∀id,Kp id->cL lp0 id/\(λi:Nat=>i) id=id:=λid h=>by obtain rfl:id=0:=h;exact⟨⟨_,rfl⟩,rfl⟩
 cases gl with
 |none0=>
  obtain rfl:n=0:=by
   have:n*es=0:=hn.symm;rcases Nat.mul_eq_zero.1 this with h|h
   ·exact h
   ·omega
  intro m N E0 g0 w0 E g w tmps s fr;obtain⟨E1,g1,s1,fr1,k1⟩:=(dr (λ_=>none) (λk cs e=>by cases e) (λk cs e=>by cases e)).view fx (.inl λ_=>rfl) (f1:=f) (f':=⟨(t,.nils) ::r,[]⟩) ⟨λp hp=>by
   rcases List.mem_cons.1 hp with rfl|hp
   ·exact⟨_,e,.pure (.flat rfl)⟩
   ·exact⟨_,(kr.mem p hp).1,.pure (kr.mem p hp).2⟩,λp hp=>by cases hp⟩ m N E0 g0 w0 E g w tmps s fr
  refine⟨E1,g1,s1,⟨fr1.1,λi v h=>?_⟩,k1⟩;unfold rdn at h
  split at h
  ·rename_i hb
   have h:lk ((t,V.lst 0 es []) ::r) i=some v:=h
   by_cases q:t=i
   ·subst q
    have h2:lk ((t,V.lst 0 es []) ::r) t=some (V.lst 0 es []):=by rw [@dj noE,if_pos rfl]
    obtain rfl:V.lst 0 es []=v:=Option.some.inj (h2.symm.trans h);obtain⟨u,k1,k2⟩:=fr1.2 t .nils (by unfold rdn;rw [if_pos hb];show lk ((t,V.nils) ::r) t=_;rw [@dj noE,if_pos rfl]);refine⟨u,k1,?_⟩;cases k2;exact @VR.lst0 E1 g1 es
   ·rw [@dj noE,if_neg q]at h
    exact fr1.2 i v (by unfold rdn;rw [if_pos hb];show lk ((t,V.nils) ::r) i=_;rw [@dj noE,if_neg q];exact h)
  ·cases h
 |@full b n' tr up ch cs hb hc hn' hl at_ lt=>
  obtain rfl:n=n':=Nat.eq_of_mul_eq_mul_right he (hn.symm.trans hl);intro m N E0 g0 w0 E g w tmps s fr;have hne:0≠b:=λq=>by rw [<-q,b0]at hb;cases hb
  refine(dr (λj=>if j=b then some cs else none) (λk cs' e=>?_) (λk cs' e=>?_)).view fx (.inr pn) (f1:=f) (f':=⟨(t,.lst n es cs) ::r,[]⟩) ⟨λp hp=>?_,λp hp=>by cases hp⟩ m N E0 g0 w0 E g w tmps s fr
  ·by_cases q:k=b
   ·subst q
    rw [if_pos rfl]at e;cases e;exact⟨_,_,_,by rw [hl];exact hb,λi v hv=>at_ i v hv⟩
   ·rw [if_neg q]at e;cases e
  ·by_cases q:k=b
   ·subst q
    exact⟨hne,λd=>dH b0,λd u=>wX s.sit.wr b0 u rfl⟩
   ·rw [if_neg q]at e;cases e
  ·rcases List.mem_cons.1 hp with rfl|hp
   ·exact⟨_,e,.fzs (k:=b) (by rw [if_pos rfl]) hl (RnL.pure px)⟩
   ·exact⟨_,(kr.mem p hp).1,.pure (kr.mem p hp).2⟩
theorem mz:∀l:List Fu,(fuL l).length=l.length*3
 |[]=>rfl
 |x ::l=>by
  show(fuO x++fuL l).length=_;rw [List.length_append,mz l,List.length_cons];show 3+l.length*3=_;omega
theorem t6:∀a b:List Fu,fuL (a++b)=fuL a++fuL b
 |[],b=>rfl
 |x ::a,b=>by
  show fuO x++fuL (a++b)=_;rw [t6 a b,<-List.append_assoc];rfl
theorem y8(f:Fu):fuL [f]=fuO f:=List.append_nil _
theorem D3(f:Fl):flL [f]=flO f:=List.append_nil _
theorem GL.flaw{h:H}{v:V}{l:List Fl}(g:GL 6 h v (flL l))(hl:l.length<=135000000)(hk:h.next<=300000000)(x:Fl):∃v' h',EOp.run (.append 6 64 none) [v,.lst 1 6 (flO x)] h=some (v',h')/\GL 6 h' v' (flL (l++[x]))/\h'.next=h.next+1/\(h.blk 0=some (.ro 256 dN)->0<h.next->h'.blk 0=some (.ro 256 dN)):=by
 have e6:=jn l;obtain⟨v',h',e1,e2,e3,e4⟩:=g.append (m:=1) (bytes:=64) (xs:=flO x) (by decide) rfl rfl (by unfold bR;omega) (by rw [e6];show l.length*6+6<_;omega) (λn q=>by omega) (by decide);refine⟨v',h',e1,by rw [t7,D3];exact e2,e3,λb0 h0=>?_⟩;rw [e4 0 h0 λb n q q2=>?_]
 ·exact b0
 ·subst q q2
  cases g with
  |full hb=>rw [b0]at hb;cases hb
end
section
theorem vj{E:En}{T:Ty}{g:G}{h:H}{w:World}(r:@WR E T g h w){i n:Nat}{tr:Tr V}{up:Option (Nat×Nat)}(e0:h.blk i=some (.cells n tr up false)){j l d:Nat}(u:Up h j l d):l=i->False:=by
 induction u with
 |one e k=>
  rintro rfl;obtain⟨b',up',e',k',_⟩:=@WR.kids E _ _ _ _ r _ _ _ _ _ e k;rw [e0]at e';cases e';cases k'
 |step e k u ih=>exact ih
theorem GB{E:En}{T:Ty}{g:G}{h:H}{w:World}(r:@WR E T g h w){j l d:Nat}(u:Up h j l d):l<bR:=by
 induction u with
 |one e k=>
  obtain⟨b',up',e',k',_⟩:=@WR.kids E _ _ _ _ r _ _ _ _ _ e k;exact Nat.lt_of_lt_of_le (@WR.top E _ _ _ _ r _ _ e') (@WR.bound E _ _ _ _ r)
 |step e k u ih=>exact ih
noncomputable section
def blG:Option (List V)->Option Blk
 |none=>none
 |some cs=>some (.cells (bY cs) (cq cs 0 .e) none false)
def lpG(L:List (Option (List V))):List (Option Blk):=some (.ro 256 dN) ::L.map blG
def HG(L:List (Option (List V)))(n:Nat):H:=⟨trO (lpG L) 0 .e,n⟩
def nX(ids:List Nat):Nat->Nat
 |0=>0
 |i+1=>(ids[i]?).getD 0
def vf:List V->Option (List V)
 |[]=>none
 |c ::cs=>some (c ::cs)
def wD(i es n:Nat):V:=match n with
 |0=>.nils
 |n+1=>.sl i 0 (n+1) 0 false es
end
theorem yt{L:List (Option (List V))}{i:Nat}(h:cL (lpG L) (i+1)):∃cs,L[i]? =some (some cs):=by
 obtain⟨b,e⟩:=h;have e:(L.map blG)[i]? =some (some b):=e;rw [List.getElem?_map]at e;cases q:L[i]? with
 |none=>rw [q]at e;cases e
 |some o=>
  cases o with
  |none=>rw [q]at e;cases e
  |some cs=>exact⟨cs,rfl⟩
theorem uB{L:List (Option (List V))}{i:Nat}{cs:List V}(h:L[i]? =some (some cs)):cL (lpG L) (i+1):=by
 refine⟨.cells (bY cs) (cq cs 0 .e) none false,?_⟩;show(L.map blG)[i]? =_;rw [List.getElem?_map,h];rfl
inductive jv(h:H)(U:Nat->Prop)(ρ:Nat->Nat)(Z:Nat->Option (List V)):Nat->List (Option (List V))->Prop
 |nil {i:Nat}:jv h U ρ Z i []
 |none {i:Nat} {L:List (Option (List V))} (r:jv h U ρ Z (i+1) L):jv h U ρ Z i (none ::L)
 |some {i:Nat} {L:List (Option (List V))} {cs':List V} {tr:Tr V} {up:Option (Nat×Nat)} (hb:h.blk (ρ i)=some (.cells (bY cs') tr up false)) (hk:cs'.length<=bR) (at_:∀j v',cs'[j]? =some v'->∃v,tr.get j=some v/\Rn U ρ Z v' v) (r:jv h U ρ Z (i+1) L):jv h U ρ Z i (some cs' ::L)
theorem jv.get{h:H}{U:Nat->Prop}{ρ:Nat->Nat}{Z:Nat->Option (List V)}{i:Nat}{L:List (Option (List V))}(l:jv h U ρ Z i L):∀{k:Nat} {cs:List V},L[k]? =Option.some (Option.some cs)->∃tr up,h.blk (ρ (i+k))=Option.some (.cells (bY cs) tr up false)/\cs.length<=bR/\∀j v',cs[j]? =Option.some v'->∃v,tr.get j=Option.some v/\Rn U ρ Z v' v:=by
 induction l with
 |nil=>intro k cs e;simp at e
 |none r ih=>
  intro k cs e;cases k with
  |zero=>simp at e
  |succ k=>
   have:=ih (k:=k) (by simpa using e)
   rwa [show ∀i:Nat,i+(k+1)=i+1+k by intro i;omega]
 |some hb hk at_ r ih=>
  intro k cs e;cases k with
  |zero=>
   simp at e;subst e;exact⟨_,_,hb,hk,at_⟩
  |succ k=>
   have:=ih (k:=k) (by simpa using e)
   rwa [show ∀i:Nat,i+(k+1)=i+1+k by intro i;omega]
theorem BE{ids:List Nat}(h:(0 ::ids).Nodup):∀{i j:Nat},i<=ids.length->j<=ids.length->nX ids i=nX ids j->i=j:=by
 have e:∀i,i<=ids.length->(0 ::ids)[i]? =some (nX ids i):=λi hi=>by
  cases i with
  |zero=>rfl
  |succ i=>
   show ids[i]? =some ((ids[i]?).getD 0);rw [List.getElem?_eq_getElem (by omega)];rfl
 intro i j hi hj q;have h1:=e i hi;have h2:=e j hj;rw [<-q]at h2;have l1:i<(0 ::ids).length:=by rw [List.length_cons];omega
 exact(List.getElem?_inj l1 h).1 (h1.trans h2.symm)
theorem A4{h:H}{f:F}{ids:List Nat}{L:List (Option (List V))}{Z:Nat->Option (List V)}{r:AL}{n:Nat}(hn:bY (lpG L)=n)(b0:h.blk 0=some (.ro 256 dN))(nd:(0 ::ids).Nodup)(hL:L.length<=ids.length)(hl:ids.length<1000)(live:jv h (cL (lpG L)) (nX ids) Z 1 L)
  (fz:∀k cs,Z k=some cs->k<bR->(∃tr up,h.blk k=some (.cells cs.length tr up false)/\∀j v,cs[j]? =some v->tr.get j=some v)/\k∉0 ::ids) (kr:∀p,p∈r->∃v,lk f.loc p.1=some v/\Rn (cL (lpG L)) (nX ids) Z p.2 v):fG TP Kp f h ⟨r,[]⟩ (HG L n):=by
 subst hn;have hkk:1000<bR:=by unfold bR;omega
 have len:∀i,cL (lpG L) i->i<=ids.length:=λi hi=>by
  cases i with
  |zero=>omega
  |succ i=>
   obtain⟨cs,e⟩:=yt hi;have:=(List.getElem?_eq_some_iff.1 e).1;omega
 have mem:∀i,i<=ids.length->nX ids i∈0 ::ids:=λi hi=>by
  cases i with
  |zero=>exact List.mem_cons_self
  |succ i=>
   refine List.mem_cons_of_mem _ ?_;show(ids[i]?).getD 0∈ids;rw [List.getElem?_eq_getElem (by omega)];exact List.getElem_mem _
 intro m N E0 g0 w0 E g w tmps s fr;have wr:=s.sit.wr;have nu:∀i j d,cL (lpG L) j->¬Up h i (nX ids j) d:=λi j d hj u=>by
  cases j with
  |zero=>exact wX wr b0 u rfl
  |succ j=>
   obtain⟨cs,e⟩:=yt hj;obtain⟨tr,up,k1,_⟩:=live.get e;rw [Nat.add_comm 1 j]at k1;exact vj wr k1 u rfl
 have V:Vw TP h (lpG L) (nX ids) Z:=by
  refine⟨?_,λi b' e=>?_,λi j hi hj q=>BE nd (len i hi) (len j hj) q,λi j d _ hj=>nu _ j d hj,λk cs e hk=>?_,λk cs i e hi=>⟨λq=>?_,λd u=>?_,λd=>nu _ i d hi⟩,λq hq=>?_⟩
  ·show(some (Blk.ro 256 dN) ::L.map blG).length<=bR
   rw [List.length_cons,List.length_map];omega
  ·cases i with
   |zero=>
    obtain rfl:Blk.ro 256 dN=b':=by cases e;rfl
    exact⟨_,b0,.ro λj v e=>.flat (d3 eJ (by rw [fU];unfold bR;omega) e)⟩
   |succ i=>
    obtain⟨cs,e2⟩:=yt ⟨b',e⟩;obtain⟨tr,up,k1,k2,k3⟩:=live.get e2;rw [Nat.add_comm 1 i]at k1;have e:(L.map blG)[i]? =some (some b'):=e;rw [List.getElem?_map,e2]at e;obtain rfl:Blk.cells (bY cs) (cq cs 0 .e) none false=b':=by cases e;rfl
    refine⟨_,k1,.cells λj v hj e=>?_⟩;rw [@bV noE]at hj;rw [@cU noE cs 0 .e j (by omega),if_pos (by omega),Nat.sub_zero]at e;exact k3 j v e
  ·obtain⟨⟨tr,up,k1,k2⟩,_⟩:=fz k cs e hk
   exact⟨tr,up,false,k1,k2⟩
  ·by_cases hk:k<bR
   ·exact(fz k cs e hk).2 (q▸mem i (len i hi))
   ·have h1:nX ids i<bR:=by
     cases i with
     |zero=>show 0<bR;omega
     |succ i=>
      obtain⟨cs,e⟩:=yt hi;obtain⟨tr,up,k1,_⟩:=live.get e;rw [Nat.add_comm 1 i]at k1;exact Nat.lt_of_lt_of_le (@WR.top E TP g h w wr _ _ k1) (@WR.bound E TP g h w wr)
    omega
  ·have hk:=GB wr u
   obtain⟨⟨tr,up,k1,_⟩,_⟩:=fz k cs e hk;exact vj wr k1 u rfl
  ·have e:=jV.all q hq
   have hq':q.1=0:=by rw [ii]at hq;rw [List.mem_singleton.1 hq]
   rw [hq']at e ⊢;exact⟨rfl,e⟩
 exact V.view (λid h=>by obtain rfl:id=0:=h;exact⟨⟨_,rfl⟩,rfl⟩) (.inr pn) (f1:=f) (f':=⟨r,[]⟩) ⟨kr,λp hp=>by cases hp⟩ m N E0 g0 w0 E g w tmps s fr
theorem glG{es i n:Nat}{h:H}{cs:List V}(hb:h.blk i=blG (vf cs))(hl:cs.length=n*es)(he:0<es)(hk:cs.length<=bR)(hn:i<h.next):GL es h (wD i es n) cs:=by
 cases cs with
 |nil=>
  obtain rfl:n=0:=by
   have:n*es=0:=hl.symm;rcases Nat.mul_eq_zero.1 this with h|h
   ·exact h
   ·omega
  exact .none0
 |cons c cs=>
  cases n with
  |zero=>rw [Nat.zero_mul]at hl;cases hl
  |succ n=>
   have hb:h.blk i=some (.cells (bY (c ::cs)) (cq (c ::cs) 0 .e) none false):=hb;rw [@bV noE,hl]at hb;refine .full hb rfl (Nat.succ_pos n) hl (λj v e=>?_) hn;have hj:=(List.getElem?_eq_some_iff.1 e).1;rw [@cU noE (c ::cs) 0 .e j (by omega),if_pos (by omega),Nat.sub_zero];exact e
theorem RnL.at{U:Nat->Prop}{ρ:Nat->Nat}{Z:Nat->Option (List V)}:∀{a b:List V},RnL U ρ Z a b->∀{j:Nat} {v':V},a[j]? =Option.some v'->∃v,b[j]? =Option.some v/\Rn U ρ Z v' v
 |_,_,.nil,j,v',e=>by simp at e
 |_,_,.cons h t,j,v',e=>by
  cases j with
  |zero=>
   simp at e;subst e;exact⟨_,rfl,h⟩
  |succ j=>exact RnL.at t (by simpa using e)
theorem RnL.app{U:Nat->Prop}{ρ:Nat->Nat}{Z:Nat->Option (List V)}:∀{a b a' b':List V},RnL U ρ Z a b->RnL U ρ Z a' b'->RnL U ρ Z (a++a') (b++b')
 |_,_,_,_,.nil,k=>k
 |_,_,_,_,.cons h t,k=>.cons h (RnL.app t k)
theorem jv.gl{h:H}{U:Nat->Prop}{ρ:Nat->Nat}{Z:Nat->Option (List V)}{i es:Nat}{L:List (Option (List V))}{v:V}{cs cs':List V}(g:GL es h v cs)(hv:∀b n,v= .sl b 0 n 0 false es->ρ i=b)(hr:RnL U ρ Z cs' cs)(hk:cs.length<=bR)(r:jv h U ρ Z (i+1) L):jv h U ρ Z i (vf cs' ::L):=by
 cases g with
 |none0=>cases hr;exact .none r
 |@full b n tr up ch cs hb hc hn hl at_ lt=>
  have el:=RnL.length hr;cases cs' with
  |nil=>exact .none r
  |cons c cs'=>
   subst hc;refine .some (cs':=c ::cs') (by rw [hv b n rfl,@bV noE,el,hl];exact hb) (by rw [el];exact hk) (λj v' e=>?_) r;obtain⟨v,e1,e2⟩:=RnL.at hr e;exact⟨v,at_ j v e1,e2⟩
theorem jv.box{h:H}{U:Nat->Prop}{ρ:Nat->Nat}{Z:Nat->Option (List V)}{i b n:Nat}{L:List (Option (List V))}{tr:Tr V}{up:Option (Nat×Nat)}{cs':List V}(hb:h.blk b=Option.some (.cells n tr up false))(hi:ρ i=b)(hn:bY cs'=n)(hk:cs'.length<=bR)(at_:∀j v',cs'[j]? =Option.some v'->∃v,tr.get j=Option.some v/\Rn U ρ Z v' v)(r:jv h U ρ Z (i+1) L):jv h U ρ Z i (Option.some cs' ::L):= .some (by rw [hi,hn];exact hb) hk at_ r
theorem Rn.gl{h:H}{U:Nat->Prop}{ρ:Nat->Nat}{Z:Nat->Option (List V)}{i es n:Nat}{v:V}{cs:List V}(g:GL es h v cs)(hv:∀b n,v= .sl b 0 n 0 false es->ρ i=b)(hl:cs.length=n*es)(he:0<es)(hu:cs≠[]->U i):Rn U ρ Z (wD i es n) v:=by
 cases g with
 |none0=>
  obtain rfl:n=0:=by
   have:n*es=0:=hl.symm;rcases Nat.mul_eq_zero.1 this with h|h
   ·exact h
   ·omega
  exact .pure (.flat rfl)
 |@full b n' tr up ch cs hb hc hn hl' at_ lt=>
  obtain rfl:n=n':=Nat.eq_of_mul_eq_mul_right he (hl.symm.trans hl');cases n with
  |zero=>omega
  |succ n=>
   have:=hv b (n+1) rfl;subst this;exact .sl (hu λq=>by rw [q]at hl;rw [Nat.add_mul,Nat.one_mul]at hl;simp at hl;omega)
theorem Rn.glz{h:H}{U:Nat->Prop}{ρ:Nat->Nat}{Z:Nat->Option (List V)}{es n:Nat}{v:V}{cs cs' a:List V}(g:GL es h v cs)(hz:∀b n,v= .sl b 0 n 0 false es->Z b=some cs)(z0:Z bR=some a)(hl:cs.length=n*es)(he:0<es)(hr:RnL U ρ Z cs' cs):Rn U ρ Z (.lst n es cs') v:=by
 cases g with
 |none0=>
  obtain rfl:n=0:=by
   have:n*es=0:=hl.symm;rcases Nat.mul_eq_zero.1 this with h|h
   ·exact h
   ·omega
  cases hr;exact .nil0 z0
 |@full b n' tr up ch cs hb hc hn hl' at_ lt=>
  obtain rfl:n=n':=Nat.eq_of_mul_eq_mul_right he (hl.symm.trans hl');exact .fzs (hz b n rfl) hl hr
inductive nR(U:Nat->Prop)(ρ:Nat->Nat)(Z:Nat->Option (List V))(f:AL):AL->Prop
 |nil:nR U ρ Z f []
 |cons {t:Nat} {v v':V} {l:AL} (e:lk f t=some v) (p:Rn U ρ Z v' v) (r:nR U ρ Z f l):nR U ρ Z f ((t,v') ::l)
theorem nR.mem{U:Nat->Prop}{ρ:Nat->Nat}{Z:Nat->Option (List V)}{f:AL}:∀{l:AL},nR U ρ Z f l->∀p,p∈l->∃v,lk f p.1=some v/\Rn U ρ Z p.2 v
 |_,.nil,p,h=>by cases h
 |_,.cons e q r,p,h=>by
  rcases List.mem_cons.1 h with rfl|h
  ·exact⟨_,e,q⟩
  ·exact nR.mem r p h
def Zn:Nat->Option (List V):=λk=>if k=bR then some []else none
theorem Ha{k:Nat}{cs:List V}{Q:Prop}(e:Zn k=some cs)(hk:k<bR):Q:=by
 unfold Zn at e;rw [if_neg (by omega)]at e;cases e
theorem Gt{U:Nat->Prop}{ρ:Nat->Nat}{Z:Nat->Option (List V)}{cs cs':List V}{tr:Tr V}(hr:RnL U ρ Z cs' cs)(h:∀j v,cs[j]? =some v->tr.get j=some v):∀j v',cs'[j]? =some v'->∃v,tr.get j=some v/\Rn U ρ Z v' v:=λj v' e=>by
 obtain⟨v,e1,e2⟩:=RnL.at hr e;exact⟨v,h j v e1,e2⟩
theorem mI{cs:List V}(h:cs.length<=bR):∀j v,cs[j]? =some v->(cq cs 0 .e).get j=some v:=λj v e=>by
 have hj:=(List.getElem?_eq_some_iff.1 e).1;rw [@cU noE cs 0 .e j (by omega),if_pos (by omega),Nat.sub_zero];exact e
theorem sr{cs:List V}(h:cs≠[]):vf cs=some cs:=by
 cases cs with
 |nil=>exact absurd rfl h
 |cons c cs=>rfl
theorem wC{i n b k es:Nat}{P:Prop}(h:wD i es n= .sl b 0 k 0 false es)(q:i=b->P):P:=by
 cases n with
 |zero=>cases h
 |succ n=>cases h;exact q rfl
theorem WL.appG{call:cB}{d:Dst}{args:List Opd}{gd:Option (Opd×Bool)}{lo hi:Nat}{l:List bS}{loc tmp:AL}{h:H}{K:Nat->Prop}{R:AL->H->Prop}{es bytes m:Nat}{v:V}{cs xs:List V}(e0:bX ⟨loc,tmp⟩ gd=some true)(e1:evs ⟨loc,tmp⟩ args=some [v,.lst m es xs])(g:GL es h v cs)(hm:0<m)(hx:xs.length=m*es)(ho:cF xs=true)(hk:h.next+1<bR)
  (hcs:cs.length+xs.length<1000000000) (hb:m*bytes+cs.length*bytes<1099511627776) (hes:0<es) (k:∀n h',GL es h' (.sl h.next 0 n 0 false es) (cs++xs)->h'.next=h.next+1->(∀id,id<h.next->(∀b n,v= .sl b 0 n 0 false es->id≠b)->h'.blk id=h.blk id)->∃loc' tmp',fA d (.sl h.next 0 n 0 false es) loc tmp=some (loc',tmp')/\WL Tryz.prog TP K call l loc' tmp' h' R):
  WL Tryz.prog TP K call (⟨d,.e (.append es bytes none),args,gd,lo,hi⟩ ::l) loc tmp h R:=by
 obtain⟨n,h',e,g',nx,kp⟩:=g.appendX (m:=m) (bytes:=bytes) (x:= .lst m es xs) (xs:=xs) (by
  show oif (Nat.beq es es) _=_;rw [Nat.beq_refl];rfl) hm hx ho hk hcs (λn q=>by
   have:n<=cs.length:=by rw [q];exact Nat.le_mul_of_pos_right _ hes
   have:n*bytes<=cs.length*bytes:=Nat.mul_le_mul_right _ this;rw [Nat.add_mul];omega) hes
 obtain⟨loc',tmp',p,w⟩:=k n h' g' nx kp;exact aE e0 e1 e p w
end
section
theorem lz0{n es:Nat}{cs:List V}(h:lz (.lst n es cs)=true):n=0:=by
 have:eqI (Int.ofNat n) 0=true:=h;rw [eC]at this;have:=of_decide_eq_true this
 simpa using this
theorem ol{α:Type}{l:List α}{es:Nat}{cs:List V}(h:lz (.lst l.length es cs)=true):l=[]:=List.eq_nil_of_length_eq_zero (lz0 h)
theorem Gz{x:Ex}(h:zB (ndL x)=true):∀i v,1<=i->(ndL x)[i]? =some v->lz v=true:=by
 have sh:=wY x;unfold zB at h;rw [pZ]at h;generalize ndL x=l at h sh;cases sh with
 |mk h1 h2 h3 h4 h5 h6=>
  intro i v hi hv;simp only [List.tail_cons,zq,Bool.and_eq_true]at h
  match i,hi,hv with
  |1,_,hv=>cases hv;rfl
  |2,_,hv=>cases hv;rfl
  |3,_,hv=>cases hv;rfl
  |4,_,hv=>cases hv;simp_all
  |5,_,hv=>cases hv;simp_all
  |6,_,hv=>cases hv;simp_all
  |7,_,hv=>cases hv;simp_all
  |8,_,hv=>cases hv;simp_all
  |9,_,hv=>cases hv;simp_all
  |10,_,hv=>cases hv;rfl
  |i+11,_,hv=>simp at hv
theorem G9{c:Prop}[Decidable c]{a b:List V}{v:Option V}(h1:c->a[5]? =v)(h2:¬c->b[5]? =v):(if c then a else b)[5]? =v:=by
 by_cases q:c
 ·rw [if_pos q]
  exact h1 q
 ·rw [if_neg q]
  exact h2 q
theorem DP{x:Ex}(h:x.kind≠8):(ndL x)[5]? =some (.lst x.segs.length 27 (sgL x.segs)):=by
 have h8:eqI x.kind 8=false:=by rw [eC];exact decide_eq_false h
 unfold ndL ctL;rw [h8]
 repeat' (refine G9 (λh=>?_) (λh=>?_))
 all_goals first
  |rfl|exact absurd h Bool.false_ne_true
theorem DQ{x:Ex}(h:x.kind=8):ndL x=(exO x).set 5 .nils:=by
 unfold ndL;rw [h];rfl
theorem qQ{x:Ex}(h:dc x=true):dt x=cg x:=by
 rw [i6,Bool.and_eq_true,Bool.and_eq_true]at h;have z:=Gz h.2.1;unfold dt cg
 by_cases q:x.kind=17
 ·rw [if_pos q,if_pos q,List.append_assoc]
 ·rw [if_neg q,if_neg q]
  by_cases q8:x.kind=8
  ·rw [if_pos q8]
   rw [DQ q8]at z;have e4:x.items=[]:=ol (z 4 _ (by decide) rfl);have e6:x.clauses=[]:=ol (z 6 _ (by decide) rfl);have e7:x.catches=[]:=ol (z 7 _ (by decide) rfl);have e8:x.body=[]:=ol (z 8 _ (by decide) rfl);have e9:x.after=[]:=ol (z 9 _ (by decide) rfl);rw [e4,e6,e7,e8,e9];simp [clK,df]
  ·have e5:x.segs=[]:=ol (z 5 _ (by decide) (DP q8))
   rw [if_neg q8,e5];simp [mQ,List.append_assoc]
theorem rT{x:Ex}(h:dc x=true){y:Ex}(hy:y∈dt x):dc y=true:=by
 rw [i6,Bool.and_eq_true,Bool.and_eq_true]at h;exact List.all_eq_true.1 h.2.2 y hy
theorem fg{α β:Type}{f g:α->β}:∀{l:List α},(∀y,y∈l->f y=g y)->l.map f=l.map g
 |[],_=>rfl
 |a ::l,h=>by rw [List.map_cons,List.map_cons,h a List.mem_cons_self,fg λy hy=>h y (List.mem_cons_of_mem _ hy)]
theorem AU:∀(n:Nat) (x:Ex),bH (exO x)<=n->dc x=true->wN x=cnt x
 |0,x,h,_=>by have:=iK x;omega
 |n+1,x,h,w=>by
  rw [AS,xV,<-qQ w];rw [fg λy hy=>AU n y (by have:=fp hy;omega) (rT w hy)]
theorem FU(x:Ex):ndF x=if x.kind=13 then 1 else 0:=by
 by_cases q:x.kind=13
 ·unfold ndF ctF
  rw [q];rfl
 ·have q13:eqI x.kind 13=false:=by rw [eC];exact decide_eq_false q
  unfold ndF ctF;rw [q13,if_neg q];simp
theorem vM{f:Ex->List Ex}:∀l:List Ex,(l.map f).flatten.length=(l.map λy=>(f y).length).sum
 |[]=>rfl
 |a ::l=>by rw [List.map_cons,List.flatten_cons,List.length_append,vM l,List.map_cons,List.sum_cons]
theorem yr:∀(n:Nat) (x:Ex),bH (exO x)<=n->dc x=true->wF x=(dL x).length
 |0,x,h,_=>by have:=iK x;omega
 |n+1,x,h,w=>by
  rw [AX,nj,<-qQ w,List.length_append,vM,FU];rw [fg (f:=wF) λy hy=>yr n y (by have:=fp hy;omega) (rT w hy)]
  split<;>rfl
theorem E6:zvB (.agg (exO ex0))=true:=by
 rw [pZ];rfl
theorem f78b{s:Sm}(hm:s.isMatch=false)(hp:s.pat=ex0):CP 78 [.agg (smO s)] (.bool false):=by
 obtain⟨m,p,e⟩:=s;obtain rfl:m=false:=hm;obtain rfl:p=ex0:=hp;refine cS Tryz.func78 (by decide) q78.2 rfl (bO (pxm (.mk false ex0 e)) px0) rfl ?_;have c62:=f62z (yV ex0);rw [E6]at c62
 repeat' (first
  |(refine WLg.mk ?_;first
  |refine aa rfl rfl rfl rfl ?_|refine ab rfl rfl (show ROp.run (.load true 11) [.eptr (smO (.mk false ex0 e)) 1] _=some (.agg (exO ex0))from rfl) rfl ?_|refine ab rfl rfl rfl rfl ?_|refine aA rfl rfl RA rfl PB rfl ?_|refine aq rfl rfl rfl (c62) rfl ?_)|apply ac|refine ae rfl ?_|apply ai|apply ah|apply ap|apply bG.norm|fail)
 all_goals exact⟨.inr rfl,_,rfl,.flat rfl,rfl⟩
theorem f110b{s:Sm}(hm:s.isMatch=false)(hp:s.pat=ex0):CP 110 [.lst 1 23 (smL [s]),.func (.func 78) [] []] (.int .i64 (-1)):=by
 refine cS Tryz.func110 (by decide) FF.2 rfl (bO (pxM [s]) (bO (pxF 78) px0)) rfl ?_;have pf:=pxF 78
 repeat' (first
  |(refine WLg.mk ?_;first
  |refine aa rfl rfl rfl rfl ?_)|apply ac|refine ae rfl ?_|apply ai|apply ah|apply aj|apply bG.norm|fail)
 refine aw (cA (l:=fr110 78 [s] 0) KT rfl) ?_;refine ax 1 (λi x h=>x=fr110 78 [s] i/\h=H0) ?_ (i:=0) (Nat.zero_le _) ⟨rfl,rfl⟩;rintro i _ _ hi ⟨rfl,rfl⟩;have hi2:i<9223372036854775807:=by omega
 cases i with
 |zero=>
  repeat' (first
   |(refine WLg.mk ?_;first
   |refine aa rfl rfl rfl rfl ?_|refine ab rfl rfl (gV (l:=[s]) (i:=0) rfl) rfl ?_|refine aq rfl rfl rfl (f78b hm hp) rfl ?_)|apply ac|refine ae rfl ?_|apply ai|apply ah|apply aj|apply al|refine aD rfl ?_|refine aB rfl ?_|apply bG.norm|fail)
  all_goals exact .norm ⟨_,_,cA KI rfl,Nat.zero_lt_one,rfl,rfl⟩
 |succ i=>
  obtain rfl:i=0:=by omega
  repeat' (first
   |(refine WLg.mk ?_;first
   |refine aa rfl rfl rfl rfl ?_)|apply ac|refine ae rfl ?_|apply ai|apply ah|refine aB rfl ?_|apply av|apply ap|apply bG.norm|apply bG.exit|apply OnC.exit|fail)
  all_goals exact⟨.inr rfl,_,rfl,.flat rfl,rfl⟩
theorem f60b{s:Sm}(hm:s.isMatch=false)(hp:s.pat=ex0):CP 60 [.lst 1 23 (smL [s])] (.bool true):=by
 have c77:CP 77 [.lst 1 23 (smL [s]),.func (.func 78) [] []] (.bool false):=by
  refine cS Tryz.func77 (by decide) q77.2 rfl (bO (pxM [s]) (bO (pxF 78) px0)) rfl ?_
  repeat' (first
   |(refine WLg.mk ?_;first
   |refine aa rfl rfl rfl rfl ?_|refine aq rfl rfl rfl (f110b hm hp) rfl ?_)|apply ac|refine ae rfl ?_|apply ai|apply ah|apply ap|apply bG.norm|fail)
  all_goals exact⟨.inr rfl,_,rfl,.flat rfl,rfl⟩
 refine cS Tryz.func60 (by decide) q60.2 rfl (bO (pxM [s]) px0) rfl ?_
 repeat' (first
  |(refine WLg.mk ?_;first
  |refine aa rfl rfl rfl rfl ?_|refine aq rfl rfl rfl (c77) rfl ?_)|apply ac|refine ae rfl ?_|apply ai|apply ah|apply ap|apply bG.norm|fail)
 all_goals exact⟨.inr rfl,_,rfl,.flat rfl,rfl⟩
theorem Er{s:Sm}(hm:s.isMatch=false)(hp:s.pat=ex0):bdB [s]=true:=tp (f60b hm hp)
theorem vh{f:Fu}(h:okF f=true):∀y,y∈clK f.clauses->dc y=true:=by
 unfold okF at h;simp only [Bool.and_eq_true]at h;exact λy hy=>List.all_eq_true.1 h.2.2.2.2 y hy
theorem Cs{f:Fu}(h:okF f=true):fN f=mn f:=by
 unfold fN mn;rw [fg λy hy=>AU _ y (Nat.le_refl _) (vh h y hy)]
theorem Ct{f:Fu}(h:okF f=true):fF f=fnn f:=by
 unfold fF fnn;rw [fg λy hy=>yr _ y (Nat.le_refl _) (vh h y hy)]
theorem kZ{n b:Nat}(h:n<=b):ltI (Int.ofNat b) (Int.ofNat n)=false:=by
 rw [fC];exact decide_eq_false (by
  show ¬(b:Int)<(n:Int);omega)
end
end Ev
end Go.Proofs.YtdfphfdnoobikaaGreatDoor
