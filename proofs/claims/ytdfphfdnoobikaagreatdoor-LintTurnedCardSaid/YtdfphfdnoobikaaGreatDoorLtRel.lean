/-
  The checker's law:flaws are only added,at the place;what changes with the functions that are defined.
  The laws' own functions:same,with;lists that are frozen.
  LintTurned:the walk.
  LintTurned:the plain law.
-/
import Derived.Test.YtdfphfdnoobikaaGreatDoorLtCnt
import Derived.Test.YtdfphfdnoobikaaGreatDoorLtShown
namespace Go.Proofs.YtdfphfdnoobikaaGreatDoor
namespace Ev
section
structure AtP(p:Pl)(x:Fl):Prop where
 fn:x.fn=p.name
 ar:x.ar=p.ar
 cl:x.cl=p.cl
theorem AtP.flw{p:Pl}{c:Int}{b:ByteArray}{n:Int}:AtP p (flw p c b n):=⟨rfl,rfl,rfl⟩
structure RR(R:List Fl→List Fl→Prop):Prop where
 nil:R [] []
 app:∀{a a' b b'},R a a'→R b b'→R (a++b) (a'++b')
 one:∀x:Fl,x.code≠2→x.code≠6→R [x] [x]
def RL(R:List Fl→List Fl→Prop)(p:Pl)(g g':List Fl→List Fl):Prop:=∃xs ys,(∀x,x∈xs→AtP p x)∧R xs ys∧(∀fl,g fl=fl++xs)∧∀fl,g' fl=fl++ys
def RS(R:List Fl→List Fl→Prop)(p:Pl)(g g':Sc×List Fl→Sc×List Fl):Prop:=∀s,∃s' xs ys,(∀x,x∈xs→AtP p x)∧R xs ys∧(∀fl,g (s,fl)=(s',fl++xs))∧∀fl,g' (s,fl)=(s',fl++ys)
def RX(R:List Fl→List Fl→Prop)(E E':XF):Prop:=∀p x s,RL R p (E p x s) (E' p x s)
section
variable {R:List Fl→List Fl→Prop} {p:Pl} (c:RR R)
include c
theorem RL.same:RL R p (fun fl=>fl) (fun fl=>fl):=⟨[],[],(fun _ h=>by cases h),c.nil,fun fl=>(List.append_nil fl).symm,fun fl=>(List.append_nil fl).symm⟩
theorem RL.add{k:Int}{b:ByteArray}{n:Int}(h2:k≠2:=by decide)(h6:k≠6:=by decide):RL R p (fun fl=>fl++[flw p k b n]) (fun fl=>fl++[flw p k b n]):=⟨_,_,fun x h=>by rw [List.mem_singleton.1 h];exact .flw,c.one _ h2 h6,fun fl=>rfl,fun fl=>rfl⟩
theorem RL.comp{g g' h h':List Fl→List Fl}(a:RL R p g g')(b:RL R p h h'):RL R p (fun fl=>h (g fl)) (fun fl=>h' (g' fl)):=by
 obtain⟨xs,ys,a1,a2,a3,a4⟩:=a
 obtain⟨xs2,ys2,b1,b2,b3,b4⟩:=b
 refine⟨xs++xs2,ys++ys2,fun x hx=>?_,c.app a2 b2,fun fl=>by show h (g fl)=_;rw [a3,b3,List.append_assoc],fun fl=>by show h' (g' fl)=_;rw [a4,b4,List.append_assoc]⟩
 rcases List.mem_append.1 hx with hx|hx
 ·exact a1 x hx
 ·exact b1 x hx
omit c in
theorem RL.bif{b:Bool}{g g' h h':List Fl→List Fl}(x:RL R p g g')(y:RL R p h h'):RL R p (fun fl=>if b then g fl else h fl) (fun fl=>if b then g' fl else h' fl):=by
 cases b with
 |true=>exact x
 |false=>exact y
theorem RL.loop{f f':Nat→List Fl→List Fl}(n:Nat)(h:∀i,RL R p (f i) (f' i)):RL R p (fun fl=>bW f fl n) (fun fl=>bW f' fl n):=by
 induction n with
 |zero=>exact RL.same c
 |succ n ih=>exact RL.comp c ih (h n)
theorem RS.same:RS R p (fun st=>st) (fun st=>st):=fun s=>⟨s,[],[],(fun _ h=>by cases h),c.nil,fun fl=>by rw [List.append_nil],fun fl=>by rw [List.append_nil]⟩
theorem RS.loop{f f':Nat→Sc×List Fl→Sc×List Fl}(n:Nat)(h:∀i,RS R p (f i) (f' i)):RS R p (fun st=>bW f st n) (fun st=>bW f' st n):=by
 induction n with
 |zero=>exact RS.same c
 |succ n ih=>
  intro s
  obtain⟨s1,xs,ys,a1,a2,a3,a4⟩:=ih s
  obtain⟨s2,xs2,ys2,b1,b2,b3,b4⟩:=h n s1
  refine⟨s2,xs++xs2,ys++ys2,fun x hx=>?_,c.app a2 b2,fun fl=>?_,fun fl=>?_⟩
  ·rcases List.mem_append.1 hx with hx|hx
   ·exact a1 x hx
   ·exact b1 x hx
  ·show f n (bW f (s,fl) n)=_
   rw [show bW f (s,fl) n=_ from a3 fl,b3,List.append_assoc]
  ·show f' n (bW f' (s,fl) n)=_
   rw [show bW f' (s,fl) n=_ from a4 fl,b4,List.append_assoc]
theorem RS.then{G G':Sc×List Fl→Sc×List Fl}{e e':Sc→List Fl→List Fl}(h:RS R p G G')(k:∀s,RL R p (e s) (e' s))(s:Sc):RL R p (fun fl=>e (G (s,fl)).1 (G (s,fl)).2) (fun fl=>e' (G' (s,fl)).1 (G' (s,fl)).2):=by
 obtain⟨s1,xs,ys,a1,a2,a3,a4⟩:=h s
 obtain⟨xs2,ys2,b1,b2,b3,b4⟩:=k s1
 refine⟨xs++xs2,ys++ys2,fun x hx=>?_,c.app a2 b2,fun fl=>by show e (G (s,fl)).1 (G (s,fl)).2=_;rw [a3];show e s1 (fl++xs)=_;rw [b3,List.append_assoc],fun fl=>by show e' (G' (s,fl)).1 (G' (s,fl)).2=_;rw [a4];show e' s1 (fl++ys)=_;rw [b4,List.append_assoc]⟩
 rcases List.mem_append.1 hx with hx|hx
 ·exact a1 x hx
 ·exact b1 x hx
omit c in
theorem RS.of{G G':Sc×List Fl→Sc×List Fl}(t:Sc→Sc)(e e':Sc→List Fl→List Fl)(h:∀s fl,G (s,fl)=(t s,e s fl))(h':∀s fl,G' (s,fl)=(t s,e' s fl))(k:∀s,RL R p (e s) (e' s)):RS R p G G':=fun s=>by
 obtain⟨xs,ys,b1,b2,b3,b4⟩:=k s
 exact⟨t s,xs,ys,b1,b2,fun fl=>by rw [h,b3],fun fl=>by rw [h',b4]⟩
theorem wW(x:Ex)(s:Sc):RL R p (vm p x s) (vm p x s):=RL.bif (RL.add c) (RL.same c)
theorem BL(g:Sg)(last:Bool):RS R p (ni p g last) (ni p g last):=by
 refine RS.of (fun s=>iq g s) _ _ (fun s fl=>rfl) (fun s fl=>rfl) fun s=>?_
 have h1:RL R p (fun fl=>if nM g then fl else fl++[flw p 9 eB 0]) (fun fl=>if nM g then fl else fl++[flw p 9 eB 0]):=RL.bif (RL.same c) (RL.add c)
 exact RL.bif (b:=(g.sized&&(!eqI g.size.kind 1&&(!eqI g.size.kind 3||eqI (kp s g.size.name) 0)))||(!g.sized&&(!last&&(eqI g.type 2||eqI g.type 3)))) (RL.comp c h1 (RL.add c (k:=11) (b:=eB) (n:=0)):) h1
theorem sv:∀(n:Nat) (x:Ex),RS R p (dY p n x) (dY p n x)
 |0,x=>RS.same c
 |n+1,x=>by
  have e:dY p (n+1) x=fun st=>if eqI x.kind 5||eqI x.kind 7 then bW (fun i st=>dY p n (bU x.items i) st) st x.items.length
   else if eqI x.kind 8 then bW (fun i st=>ni p (cg x.segs i) (rE x.segs i) st) st x.segs.length
   else(gL B6 x st.1,if rb 17 [.agg (exO x)]then st.2 else st.2++[flw p 9 eB 0]):=rfl
  rw [e]
  cases eqI x.kind 5||eqI x.kind 7 with
  |true=>exact RS.loop c _ fun i=>sv n _
  |false=>
   cases eqI x.kind 8 with
   |true=>exact RS.loop c _ fun i=>BL c _ _
   |false=>exact RS.of (fun s=>gL B6 x s) _ _ (fun s fl=>rfl) (fun s fl=>rfl) fun s=>RL.bif (RL.same c) (RL.add c)
theorem rG:∀(n:Nat) (x:Ex) (s:Sc),RL R p (fj p n x s) (fj p n x s)
 |0,x,s=>RL.same c
 |n+1,x,s=>RL.bif (wW c x s) (RL.bif (RL.add c) (RL.bif (RL.loop c _ fun i=>rG n _ s) (RL.add c)))
section
variable {E E':XF} (X:RX R E E')
include X
theorem Bz(s:Sm):RS R p (gO E p s) (gO E' p s):=by
 unfold gO
 cases s.isMatch with
 |true=>
  intro sc
  obtain⟨s1,xs,ys,a1,a2,a3,a4⟩:=sv (p:=p) c B6 s.pat sc
  obtain⟨xs2,ys2,b1,b2,b3,b4⟩:=X p s.val sc
  refine⟨s1,xs++xs2,ys++ys2,fun x hx=>?_,c.app a2 b2,fun fl=>?_,fun fl=>?_⟩
  ·rcases List.mem_append.1 hx with hx|hx
   ·exact a1 x hx
   ·exact b1 x hx
  ·show((dY p B6 s.pat (sc,fl)).1,E p s.val sc (dY p B6 s.pat (sc,fl)).2)=_
   rw [a3]
   show(s1,E p s.val sc (fl++xs))=_
   rw [b3,List.append_assoc]
  ·show((dY p B6 s.pat (sc,fl)).1,E' p s.val sc (dY p B6 s.pat (sc,fl)).2)=_
   rw [a4]
   show(s1,E' p s.val sc (fl++ys))=_
   rw [b4,List.append_assoc]
 |false=>exact RS.of (fun s=>s) _ _ (fun s fl=>rfl) (fun s fl=>rfl) fun sc=>X p s.val sc
theorem kP(l:List Sm)(s:Sc):RL R p (jX E p l s) (jX E' p l s):=RS.then (e:=fun _ fl=>fl) (e':=fun _ fl=>fl) c (RS.loop c l.length fun i=>Bz c X (cB l i)) (fun _=>RL.same c) s
theorem sI(k:Cl)(s:Sc):RL R p (sJ E p k s) (sJ E' p k s):=
 RS.then (e:=fun s fl=>DN E p k (s,fl)) (e':=fun s fl=>DN E' p k (s,fl)) c (RS.loop c k.pats.length fun i=>sv c B6 (bU k.pats i)) (fun s=>(RL.comp c (RL.loop c k.guards.length fun i=>RL.loop c (dh k.guards i).length fun j=>rG c B6 (bU (dh k.guards i) j) s) (kP c X k.body s):)) s
theorem pb(l:List Cl)(s:Sc):RL R p (qz E p l s) (qz E' p l s):=RL.loop c _ fun i=>sI c X (bL l i) s
theorem mI(l:List Ex)(s:Sc):RL R p (lC E p l s) (lC E' p l s):=RL.loop c _ fun i=>X p (bU l i) s
theorem Bf(l:List Sg)(s:Sc):RL R p (ya E p l s) (ya E' p l s):=RL.loop c _ fun i=>by
 have h1:RL R p (fun fl=>if eqI (cg l i).type 4 then fl else E p (cg l i).val s fl) (fun fl=>if eqI (cg l i).type 4 then fl else E' p (cg l i).val s fl):=RL.bif (RL.same c) (X p _ s)
 exact RL.bif (RL.comp c h1 (X p (cg l i).size s):) h1
theorem B4(n:Int)(y:Cl)(s:Sc):RL R p (vO E p n y s) (vO E' p n y s):=by
 have h1:RL R p (fun fl=>if eqI (Int.ofNat y.pats.length) n then fl else fl++[flw p 12 eB (Int.ofNat y.pats.length)]) (fun fl=>if eqI (Int.ofNat y.pats.length) n then fl else fl++[flw p 12 eB (Int.ofNat y.pats.length)]):=RL.bif (RL.same c) (RL.add c)
 exact(RL.comp c h1 (sI c X y (iX s (DB y))):)
theorem B8(x:Ex)(s:Sc):RL R p (AD E p x s) (AD E' p x s):=by
 have h1:RL R p (fun fl=>if ltI 200 (lA x (gA s))then fl++[flw p 13 eB (lA x (gA s))]else fl) (fun fl=>if ltI 200 (lA x (gA s))then fl++[flw p 13 eB (lA x (gA s))]else fl):=RL.bif (RL.add c) (RL.same c)
 exact(RL.comp c h1 (RL.loop c x.clauses.length fun i=>B4 c X (Int.ofNat (bL x.clauses 0).pats.length) (bL x.clauses i) s):)
end
variable {D D':Df} (hC:∀(p:Pl) (nm:ByteArray) (n:Nat),RL R p (fun fl=>if !D nm (Int.ofNat n)&&eqI (zc nm n) 0 then fl++[flw p 6 nm (Int.ofNat n)]else fl) (fun fl=>if !D' nm (Int.ofNat n)&&eqI (zc nm n) 0 then fl++[flw p 6 nm (Int.ofNat n)]else fl))
include hC
theorem zx{E E':XF}(X:RX R E E'):RX R (iC D E) (iC D' E'):=fun p x s=>
 RL.bif (wW c x s) (RL.bif (RL.add c) (RL.bif (Bf c X _ s) (RL.bif (RL.comp c (hC p x.name x.items.length) (mI c X x.items s):) (RL.bif (B8 c X x s) (RL.bif (kP c X _ s)
  (RL.bif (RL.comp c (mI c X x.items s) (pb c X x.clauses s):) (RL.bif (RL.comp c (RL.comp c (pb c X x.clauses s) (mI c X x.items s)) (kP c X x.after s):)
   (RL.bif (RL.comp c (RL.comp c (RL.comp c (kP c X x.body s) (pb c X x.clauses s)) (pb c X x.catches s)) (kP c X x.after s):) (mI c X _ s)))))))))
theorem uH:∀n:Nat,RX R (rP D n) (rP D' n)
 |0=>fun p x s=>RL.same c
 |n+1=>zx c hC (uH n)
theorem xO(f:Fu)(i:Nat):RL R (plF f i) (oM D f i) (oM D' f i):=by
 have h1:RL R (plF f i) (fun fl=>if nmB (bL f.clauses i).name f.name&&eqI (Int.ofNat (bL f.clauses i).pats.length) f.arity then fl else fl++[flw (plF f i) 4 (bL f.clauses i).name (Int.ofNat (bL f.clauses i).pats.length)]) (fun fl=>if nmB (bL f.clauses i).name f.name&&eqI (Int.ofNat (bL f.clauses i).pats.length) f.arity then fl else fl++[flw (plF f i) 4 (bL f.clauses i).name (Int.ofNat (bL f.clauses i).pats.length)]):=RL.bif (RL.same c) (RL.add c)
 exact(RL.comp c h1 (sI c (uH c hC B6) (bL f.clauses i) []):)
end
structure AtF(f:Fu)(x:Fl):Prop where
 fn:x.fn=f.name
 ar:x.ar=f.arity
 cl:0<x.cl
def RF(R:List Fl→List Fl→Prop)(f:Fu)(g g':List Fl→List Fl):Prop:=∃xs ys,(∀x,x∈xs→AtF f x)∧R xs ys∧(∀fl,g fl=fl++xs)∧∀fl,g' fl=fl++ys
section
variable {R:List Fl→List Fl→Prop} (c:RR R)
theorem RL.rf{f:Fu}{i:Nat}{g g':List Fl→List Fl}(h:RL R (plF f i) g g'):RF R f g g':=by
 obtain⟨xs,ys,a1,a2,a3,a4⟩:=h
 refine⟨xs,ys,fun x hx=>⟨(a1 x hx).fn,(a1 x hx).ar,?_⟩,a2,a3,a4⟩
 rw [(a1 x hx).cl]
 show(0:Int)<Int.ofNat (i+1)
 exact Int.ofNat_lt.2 (Nat.succ_pos i)
include c
theorem RF.comp{f:Fu}{g g' h h':List Fl→List Fl}(a:RF R f g g')(b:RF R f h h'):RF R f (fun fl=>h (g fl)) (fun fl=>h' (g' fl)):=by
 obtain⟨xs,ys,a1,a2,a3,a4⟩:=a
 obtain⟨xs2,ys2,b1,b2,b3,b4⟩:=b
 refine⟨xs++xs2,ys++ys2,fun x hx=>?_,c.app a2 b2,fun fl=>by show h (g fl)=_;rw [a3,b3,List.append_assoc],fun fl=>by show h' (g' fl)=_;rw [a4,b4,List.append_assoc]⟩
 rcases List.mem_append.1 hx with hx|hx
 ·exact a1 x hx
 ·exact b1 x hx
theorem RF.loop{f:Fu}{k k':Nat→List Fl→List Fl}(n:Nat)(h:∀i,RF R f (k i) (k' i)):RF R f (fun fl=>bW k fl n) (fun fl=>bW k' fl n):=by
 induction n with
 |zero=>exact(RL.same (p:=plF f 0) c).rf
 |succ n ih=>exact RF.comp c ih (h n)
theorem Cf(f:Fu)(a:Bool):RL R (plF f 0) (mH f a) (mH f a):=by
 have h1:RL R (plF f 0) (fun fl=>if a then fl++[flw (plF f 0) 3 f.name f.arity]else fl) (fun fl=>if a then fl++[flw (plF f 0) 3 f.name f.arity]else fl):=RL.bif (RL.add c) (RL.same c)
 exact RL.bif h1 (RL.comp c h1 (RL.add c (k:=5) (b:=f.name) (n:=f.arity)):)
theorem DT{D D':Df}(hC:∀(p:Pl) (nm:ByteArray) (n:Nat),RL R p (fun fl=>if !D nm (Int.ofNat n)&&eqI (zc nm n) 0 then fl++[flw p 6 nm (Int.ofNat n)]else fl) (fun fl=>if !D' nm (Int.ofNat n)&&eqI (zc nm n) 0 then fl++[flw p 6 nm (Int.ofNat n)]else fl))(f:Fu)(a:Bool):RF R f (fnF D f a) (fnF D' f a):=
 (RF.comp c (Cf c f a).rf (RF.loop c f.clauses.length fun i=>(xO c hC f i).rf):)
end
end
section
theorem FO{l:List Fl}{i:Nat}{d:Fl}(h:Nat.blt i l.length=true):∃a b,flL l=a++(flO ((l[i]?).getD d)++b)∧a.length=Nat.mul i 6:=oW (f:=flO) (g:=flL) (n:=6) (fun _ _=>rfl) (fun _=>rfl) l i _ (cU h)
noncomputable section
def fl0:Fl:=⟨eB,0,0,0,eB,0⟩
def jQ(l:List Fl)(i:Nat):Fl:=(l[i]?).getD fl0
end
theorem CV{l:List Fl}{i:Nat}(h:Nat.blt i l.length=true):eT (flL l) (Nat.mul i 6) (flO (jQ l i)):=by obtain⟨a,b,e,k⟩:=FO (d:=fl0) h;exact .of e k
theorem pW{l:List Fl}{i k n:Nat}{v:V}{h:H}(hb:Nat.blt i l.length=true)(hv:dV (flO (jQ l i)) k=some v):ROp.run (.load false n) [.eptr (flL l) (Nat.add (Nat.mul i 6) k)] h=some v:=dO (CV hb) hv h
theorem my{l:List Fl}{i:Nat}{h:H}(hb:Nat.blt i l.length=true):ROp.run (.load true 6) [.eptr (flL l) (Nat.mul i 6)] h=some (.agg (flO (jQ l i))):=fg (CV hb) h
theorem xL{l:List Fl}{i:Nat}(h:i<l.length):l.take (i+1)=l.take i++[jQ l i]:=by
 have:jQ l i=l[i]:=by
  show(l[i]?).getD fl0=_
  rw [List.getElem?_eq_getElem h]
  rfl
 rw [this,List.take_succ_eq_append_getElem h]
theorem Dy(l:List Fl):bN (.lst l.length 6 (flL l)):= .lst (mF l)
theorem AK(f:Fl):∀c,c∈flO f→bN c:=bO (.flat rfl) (bO (.flat rfl) (bO (.flat rfl) (bO (.flat rfl) (bO (.flat rfl) (bO (.flat rfl) px0)))))
theorem pt(n c:Nat):dA n c n c=true:=by
 unfold dA
 simp
theorem FU(x:Fl)(h:H):ROp.run (.eq (.agg [.s,.i,.i,.i,.s,.i]) true) [.agg (flO x),.agg (flO x)] h=some (.bool false):=by
 have e1:dA x.fn.size (bT x.fn.data.toList) x.fn.size (bT x.fn.data.toList)=true:=pt _ _
 have e2:dA x.name.size (bT x.name.data.toList) x.name.size (bT x.name.data.toList)=true:=pt _ _
 have i1:eqI x.ar x.ar=true:=by rw [fZ];simp
 have i2:eqI x.cl x.cl=true:=by rw [fZ];simp
 have i3:eqI x.code x.code=true:=by rw [fZ];simp
 have i4:eqI x.n x.n=true:=by rw [fZ];simp
 have key:fy h (.agg [.s,.i,.i,.i,.s,.i]) (.agg (flO x)) (.agg (flO x))=some true:=by
  show(ob (some (dA x.fn.size (bT x.fn.data.toList) x.fn.size (bT x.fn.data.toList))) fun c=>Bool.rec (motive:=fun _=>Option Bool) (some false) (ob (some (eqI x.ar x.ar)) fun c=>Bool.rec (motive:=fun _=>Option Bool) (some false) (ob (some (eqI x.cl x.cl)) fun c=>Bool.rec (motive:=fun _=>Option Bool) (some false) (ob (some (eqI x.code x.code)) fun c=>Bool.rec (motive:=fun _=>Option Bool) (some false) (ob (some (dA x.name.size (bT x.name.data.toList) x.name.size (bT x.name.data.toList))) fun c=>Bool.rec (motive:=fun _=>Option Bool) (some false) (ob (some (eqI x.n x.n)) fun c=>Bool.rec (motive:=fun _=>Option Bool) (some false) (some true) c) c) c) c) c) c)=some true
  rw [e1,e2,i1,i2,i3,i4]
  rfl
 show ob (fy h (.agg [.s,.i,.i,.i,.s,.i]) (.agg (flO x)) (.agg (flO x))) _=_
 rw [key]
 rfl
noncomputable section
def fr13(l:List Fl)(i:Nat):AL:=[(0,.lst l.length 6 (flL l)),(1,.lst l.length 6 (flL l)),(5,.int .i64 (Int.ofNat i))]
end
theorem f13(l:List Fl)(hl:l.length<9223372036854775807):cm Tryz.prog TP 13 [.lst l.length 6 (flL l),.lst l.length 6 (flL l)] (.bool true):=by
 obtain⟨v,c,rfl⟩:∃v,cm Tryz.prog TP 13 [.lst l.length 6 (flL l),.lst l.length 6 (flL l)] v∧v= .bool true:=by
  have pl:=Dy l
  refine cJ Tryz.func13 (by decide) cf13_ok rfl (bO pl (bO pl px0)) rfl ?_
  repeat' (first
   |(refine WLg.mk ?_;first
   |refine aa rfl rfl rfl rfl ?_)
   |refine ae ?_|refine ac rfl ?_|refine ai ?_|refine ah ?_|refine aj ?_|refine al ?_
   |refine ak rfl (fun ht=>?_) (fun ht=>?_)|refine ap ?_|refine bE.norm ?_|refine bE.ret ?_|fail)
  ·exfalso
   have i4:eqI (Int.ofNat l.length) (Int.ofNat l.length)=true:=by rw [fZ];simp
   rw [i4]at ht
   cases ht
  refine av (cC (l:=fr13 l 0) KT rfl) ?_
  refine aw l.length (fun i f h=>f=fr13 l i∧h=H0) ?_ (i:=0) (Nat.zero_le _) ⟨rfl,rfl⟩
  rintro i _ _ hi ⟨rfl,rfl⟩
  have hi2:i<9223372036854775807:=by omega
  have eqf:=FU (jQ l i) H0
  repeat' (first
   |(refine WLg.mk ?_;first
   |refine aa rfl rfl rfl rfl ?_)
   |(show WX _ _ _ _ _ _ _ _ _ _;first
   |refine aG rfl rfl rfl rfl ?_|refine aG rfl rfl (bM Hy) rfl ?_|refine aE rfl rfl (my Hy) rfl ?_
   |refine aE rfl rfl (eqf) rfl ?_
   |refine aI (by repeat' (first|exact bD.nil|refine bD.any (fun h=>rfl) ?_|refine bD.first rfl ?_|refine bD.first (my Hy) ?_|refine bD.snd (my Hy) ?_|refine bD.any (fun h=>my Hy) ?_|refine bD.first (eqf) ?_|refine bD.snd (eqf) ?_|refine bD.any (fun h=>eqf) ?_|refine bD.each (.cons rfl .nil) ?_|refine bD.each (.cons rfl (.cons rfl .nil)) ?_|refine bD.each (.cons rfl (.cons rfl (.cons rfl .nil))) ?_)) ?_)
   |refine ae ?_|refine ac rfl ?_|refine ai ?_|refine ah ?_|refine aj ?_|refine al ?_|refine aB rfl ?_
   |refine ak rfl (fun ht=>?_) (fun ht=>?_)|refine au ?_|refine ap ?_|refine aJ ?_|refine bE.norm ?_
   |refine bE.exit ?_|refine OnC.exit ?_|fail)
  ·exact .norm ⟨_,_,cC KI rfl,bK Hy,rfl,rfl⟩
  ·exact⟨.inr rfl,_,rfl,.flat rfl,rfl⟩
 exact c
theorem wE{f:FuncId} {fn:Func} {cf:CF} (k1:Tryz.prog.funcs[f]? =some fn) (k2:fn.name≠ "runtime.NumGoroutine") (k3:bG TP fn=some cf) {n:Nat} {vs:List V} {v:V} (hvs:∀v,v∈vs→bN v) (hv:bN v) (e:ob (enter eS n cf vs H0) (fun r=>some r.1)=some v):cm Tryz.prog TP f vs v:=by
 obtain⟨⟨v2,h'⟩,e0,q⟩:=bC.1 e
 cases q
 obtain⟨e1,e2⟩:=bJ.1 (show oif (Nat.beq (bX vs) cf.params) (ob (exec eS false n cf.code ⟨dB vs 0,[]⟩ H0) fun r=>
  match r.1 with
  |.exit _=>none
  |_=>ob (fQ r.2.1 r.2.2 cf.results) fun l=>some (cV l,r.2.2))=some (v2,h')from e0)
 obtain⟨⟨x,f',h2⟩,e3,e4⟩:=bC.1 e2
 have hlen:vs.length=cf.params:=by rw [←@bS noE];exact Nat.eq_of_beq_eq_true e1
 have go:(x= .norm∨x= .ret)∧ob (fQ f' h2 cf.results) (fun l=>some (cV l,h2))=some (v2,h'):=by
  cases x with
  |norm=>exact⟨.inl rfl,e4⟩
  |ret=>exact⟨.inr rfl,e4⟩
  |exit k=>cases e4
 obtain⟨hx,e5⟩:=go
 obtain⟨l,e6,e7⟩:=bC.1 e5
 cases e7
 exact(gD (K:=Kp) qL jk mixed k1 k2 k3 hlen (.exec e3) hx e6).conP j6 hvs hv
theorem Ei(n1 c1:Nat)(v:Int)(n2 n3 n:Nat)(e f cs:List V):ob (enter eS 1 cf10 [.agg [.str n1 c1,.int .i64 v,.lst n2 2 e,.lst n3 3 f],.lst n 3 cs] H0) (fun r=>some r.1)=some (.agg [.str n1 c1,.int .i64 v,.lst n2 2 e,.lst n 3 cs]):=by kernel_rfl
theorem f10(m:Md)(l:List Fu):cm Tryz.prog TP 10 [.agg (mdO m),.lst l.length 3 (fuL l)] (.agg (mdO {m with funcs:=l})):=
 wE Tryz.func10 (by decide) cf10_ok (bO (.agg (ir m)) (bO (BV l) px0)) (.agg (ir _)) (Ei _ _ _ _ _ _ _ _ _)
theorem tw{es:Nat}{h:H}{f:F}{t:Nat}{v:V}{cs:List V}{r:AL}(b0:h.blk 0=some (.ro 256 dN))(gl:GL es h v cs)(px:∀c,c∈cs→bN c)(e:lk f.loc t=some v)(kr:qJ f.loc r)(n:Nat)(hn:cs.length=n*es)(he:0<es):fV TP Kp f h ⟨(t,.lst n es cs) ::r,[]⟩ H0:=by
 have u0:∀i,cN lp0 i→i=0:=fun i ⟨b,e⟩=>by
  cases i with
  |zero=>rfl
  |succ i=>cases e
 have dr:∀Z:Nat→Option (List V),(∀k cs,Z k=some cs→∃t up ch,h.blk k=some (.cells cs.length t up ch)∧∀j v,cs[j]? =some v→t.get j=some v)→(∀k cs,Z k=some cs→0≠k∧(∀d,¬Up h 0 k d)∧∀d,¬Up h k 0 d)→Vw TP h lp0 (fun i=>i) Z:=fun Z hz hu=>by
  refine⟨j6.len,fun i b' e=>?_,fun i j _ _ e=>e,fun i j d hi _=>?_,(fun k cs e _=>hz k cs e),fun k cs i e hi=>?_,fun q hq=>⟨rfl,j6.all q hq⟩⟩
  ·obtain rfl:=u0 i ⟨_,e⟩
   obtain rfl:Blk.ro 256 dN=b':=by cases e;rfl
   exact⟨_,b0,.ro fun j v e=>.flat (ef eM (by rw [fX];unfold bR;omega) e)⟩
  ·rw [u0 i hi]
   exact dC b0
  ·rw [u0 i hi]
   exact hu k cs e
 have fx:∀id,Kp id→cN lp0 id∧(fun i:Nat=>i) id=id:=fun id h=>by obtain rfl:id=0:=h;exact⟨⟨_,rfl⟩,rfl⟩
 cases gl with
 |none0=>
  obtain rfl:n=0:=by
   have:n*es=0:=hn.symm
   rcases Nat.mul_eq_zero.1 this with h|h
   ·exact h
   ·omega
  intro m N E0 g0 w0 E g w tmps s fr
  obtain⟨E1,g1,s1,fr1,k1⟩:=(dr (fun _=>none) (fun k cs e=>by cases e) (fun k cs e=>by cases e)).view fx (.inl fun _=>rfl) (f1:=f) (f':=⟨(t,.nils) ::r,[]⟩) ⟨fun p hp=>by
   rcases List.mem_cons.1 hp with rfl|hp
   ·exact⟨_,e,.pure (.flat rfl)⟩
   ·exact⟨_,(kr.mem p hp).1,.pure (kr.mem p hp).2⟩,fun p hp=>by cases hp⟩ m N E0 g0 w0 E g w tmps s fr
  refine⟨E1,g1,s1,⟨fr1.1,fun i v h=>?_⟩,k1⟩
  unfold rdn at h
  split at h
  ·rename_i hb
   have h:lk ((t,V.lst 0 es []) ::r) i=some v:=h
   by_cases q:t=i
   ·subst q
    have h2:lk ((t,V.lst 0 es []) ::r) t=some (V.lst 0 es []):=by rw [@db noE,if_pos rfl]
    obtain rfl:V.lst 0 es []=v:=Option.some.inj (h2.symm.trans h)
    obtain⟨u,k1,k2⟩:=fr1.2 t .nils (by unfold rdn;rw [if_pos hb];show lk ((t,V.nils) ::r) t=_;rw [@db noE,if_pos rfl])
    refine⟨u,k1,?_⟩
    cases k2
    exact @VR.lst0 E1 g1 es
   ·rw [@db noE,if_neg q]at h
    exact fr1.2 i v (by unfold rdn;rw [if_pos hb];show lk ((t,V.nils) ::r) i=_;rw [@db noE,if_neg q];exact h)
  ·cases h
 |@full b n' tr up ch cs hb hc hn' hl at_ lt=>
  obtain rfl:n=n':=Nat.eq_of_mul_eq_mul_right he (hn.symm.trans hl)
  intro m N E0 g0 w0 E g w tmps s fr
  have hne:0≠b:=fun q=>by rw [←q,b0]at hb;cases hb
  refine(dr (fun j=>if j=b then some cs else none) (fun k cs' e=>?_) (fun k cs' e=>?_)).view fx (.inr pn) (f1:=f) (f':=⟨(t,.lst n es cs) ::r,[]⟩) ⟨fun p hp=>?_,fun p hp=>by cases hp⟩ m N E0 g0 w0 E g w tmps s fr
  ·by_cases q:k=b
   ·subst q
    rw [if_pos rfl]at e
    cases e
    exact⟨_,_,_,by rw [hl];exact hb,fun i v hv=>at_ i v hv⟩
   ·rw [if_neg q]at e;cases e
  ·by_cases q:k=b
   ·subst q
    exact⟨hne,fun d=>dC b0,fun d u=>Ak s.sit.wr b0 u rfl⟩
   ·rw [if_neg q]at e;cases e
  ·rcases List.mem_cons.1 hp with rfl|hp
   ·exact⟨_,e,.fzs (k:=b) (by rw [if_pos rfl]) hl (RnL.pure px)⟩
   ·exact⟨_,(kr.mem p hp).1,.pure (kr.mem p hp).2⟩
theorem lT:∀l:List Fu,(fuL l).length=l.length*3
 |[]=>rfl
 |x ::l=>by
  show(fuO x++fuL l).length=_
  rw [List.length_append,lT l,List.length_cons]
  show 3+l.length*3=_
  omega
theorem sT:∀a b:List Fu,fuL (a++b)=fuL a++fuL b
 |[],b=>rfl
 |x ::a,b=>by
  show fuO x++fuL (a++b)=_
  rw [sT a b,←List.append_assoc]
  rfl
theorem B9(f:Fu):fuL [f]=fuO f:=List.append_nil _
theorem Cc(f:Fl):flL [f]=flO f:=List.append_nil _
theorem GL.flaw{h:H}{v:V}{l:List Fl}(g:GL 6 h v (flL l))(hl:l.length≤135000000)(hk:h.next≤300000000)(x:Fl):∃v' h',EOp.run (.append 6 64 none) [v,.lst 1 6 (flO x)] h=some (v',h')∧GL 6 h' v' (flL (l++[x]))∧h'.next=h.next+1∧(h.blk 0=some (.ro 256 dN)→0<h.next→h'.blk 0=some (.ro 256 dN)):=by
 have e6:=jb l
 obtain⟨v',h',e1,e2,e3,e4⟩:=g.append (m:=1) (bytes:=64) (xs:=flO x) (by decide) rfl rfl (by unfold bR;omega) (by rw [e6];show l.length*6+6<_;omega) (fun n q=>by omega) (by decide)
 refine⟨v',h',e1,by rw [sU,Cc];exact e2,e3,fun b0 h0=>?_⟩
 rw [e4 0 h0 fun b n q q2=>?_]
 ·exact b0
 ·subst q q2
  cases g with
  |full hb=>rw [b0]at hb;cases hb
theorem GL.fun1{h:H}{v:V}{l:List Fu}(g:GL 3 h v (fuL l))(hl:l.length≤6000000)(hk:h.next≤200000000)(x:Fu):∃v' h',EOp.run (.append 3 48 none) [v,.lst 1 3 (fuO x)] h=some (v',h')∧GL 3 h' v' (fuL (l++[x]))∧h'.next=h.next+1∧(h.blk 0=some (.ro 256 dN)→0<h.next→h'.blk 0=some (.ro 256 dN)):=by
 have e6:=lT l
 obtain⟨v',h',e1,e2,e3,e4⟩:=g.append (m:=1) (bytes:=48) (xs:=fuO x) (by decide) rfl rfl (by unfold bR;omega) (by rw [e6];show l.length*3+3<_;omega) (fun n q=>by omega) (by decide)
 refine⟨v',h',e1,by rw [sT,B9];exact e2,e3,fun b0 h0=>?_⟩
 rw [e4 0 h0 fun b n q q2=>?_]
 ·exact b0
 ·subst q q2
  cases g with
  |full hb=>rw [b0]at hb;cases hb
end
section
noncomputable section
def p0B(x:Fl):Bool:=eqI x.cl 0
def pTB(f:Fu)(x:Fl):Bool:=ltI 0 x.cl&&(dA x.fn.size (bT x.fn.data.toList) f.name.size (bT f.name.data.toList)&&eqI x.ar f.arity)
def gZ(own:List Fl)(l:List Fu):List Fl:=own.filter p0B++l.flatMap fun f=>own.filter (pTB f)
def iS(m:Md):Md:={m with funcs:=m.funcs.reverse}
def fr6a(m:Md)(v:V)(z:Int):AL:=[(1,.eptr (mdO m) 0),(3,v),(4,.int .i64 z)]
def fr6r(m:Md):AL:=[(1,.eptr (mdO m) 0)]
def lsF(l:List Fl):V:= .lst l.length 6 (flL l)
def fr6b(own w:List Fl)(rv:List Fu)(v:V)(i:Nat):AL:=[(3,.lst rv.length 3 (fuL rv)),(5,lsF own),(6,lsF w),(7,v),(8,.int .i64 (Int.ofNat i))]
def fr6c(own w:List Fl)(rv:List Fu)(v:V)(i:Nat):AL:=[(3,.lst rv.length 3 (fuL rv)),(5,lsF own),(6,lsF w),(7,v),(9,.int .i64 (Int.ofNat i))]
def fr6d(own w:List Fl)(rv:List Fu)(v:V)(i k:Nat):AL:=[(3,.lst rv.length 3 (fuL rv)),(5,lsF own),(6,lsF w),(7,v),(9,.int .i64 (Int.ofNat i)),(10,.int .i64 (Int.ofNat k))]
def fr6e(own w:List Fl)(rv:List Fu)(i:Nat):AL:=[(3,.lst rv.length 3 (fuL rv)),(5,lsF own),(6,lsF w),(9,.int .i64 (Int.ofNat i))]
def jo(own:List Fl)(rv:List Fu)(j k:Nat):List Fl:=(own.filter p0B++(rv.take j).flatMap fun f=>own.filter (pTB f))++(own.take k).filter (pTB (cD rv j))
end
theorem AG{l:List Fu}{j k:Nat}(h:k+j+1=l.length):cD l.reverse j=cD l k:=by
 show(l.reverse[j]?).getD fu0=(l[k]?).getD fu0
 rw [List.getElem?_reverse (by omega),show l.length-1-j=k by omega]
theorem By(l:List Fu):bF (fuL l.reverse)=bF (fuL l):=by
 induction l with
 |nil=>rfl
 |cons a l ih=>
  rw [List.reverse_cons,sT,ce,ih]
  show _+bF (fuO a++[])=bF (fuO a++fuL l)
  rw [List.append_nil,ce]
  omega
theorem Bx(m:Md):bF (mdO (iS m))=bF (mdO m):=by
 have h1:=nZ m
 have h2:=nZ (iS m)
 have h3:bF (fuL (iS m).funcs)=bF (fuL m.funcs):=By m.funcs
 have h4:(iS m).exports=m.exports:=rfl
 have h5:(iS m).name=m.name:=rfl
 rw [h4,h5]at h2
 omega
theorem Cy{own:List Fl}{rv:List Fu}{j k:Nat}(hj:j<rv.length):(jo own rv j k).length≤(gZ own rv).length:=by
 have e:rv=rv.take j++(cD rv j ::rv.drop (j+1)):=by
  have h1:=fh hj
  have h2:=List.take_append_drop (j+1) rv
  rw [h1,List.append_assoc]at h2
  exact h2.symm
 have s:((own.take k).filter (pTB (cD rv j))).length≤(own.filter (pTB (cD rv j))).length:=((List.take_sublist k own).filter _).length_le
 have w:(gZ own rv).length=(own.filter p0B).length+(((rv.take j).flatMap fun f=>own.filter (pTB f)).length+((own.filter (pTB (cD rv j))).length+((rv.drop (j+1)).flatMap fun f=>own.filter (pTB f)).length)):=by
  unfold gZ
  rw [List.length_append]
  conv=>lhs;rw [e]
  rw [List.flatMap_append,List.flatMap_cons,List.length_append,List.length_append]
 unfold jo
 rw [List.length_append,List.length_append,w]
 omega
theorem Bk{own:List Fl}{rv:List Fu}:jo own rv rv.length 0=gZ own rv:=by
 unfold jo gZ
 rw [List.take_length,List.take_zero,List.filter_nil,List.append_nil]
theorem zf{own:List Fl}{rv:List Fu}{j:Nat}(hj:j<rv.length):jo own rv j own.length=jo own rv (j+1) 0:=by
 unfold jo
 rw [List.take_length,List.take_zero,List.filter_nil,List.append_nil,fh hj,List.flatMap_append,List.append_assoc]
 simp
theorem ze{own:List Fl}{rv:List Fu}{j k:Nat}(hk:k<own.length):jo own rv j (k+1)=if pTB (cD rv j) (jQ own k)then jo own rv j k++[jQ own k]else jo own rv j k:=by
 unfold jo
 rw [xL hk,List.filter_append]
 cases q:pTB (cD rv j) (jQ own k)<;>simp [q]
theorem wT{n:Nat}(h:n<9223372036854775808):cR .i64 (Int.sub (Int.ofNat n) (Int.ofNat 1))=(n:Int)-1:=by
 cases n with
 |zero=>exact zh (m:=0) (by omega) (by omega)
 |succ k=>
  rw [Nat.add_comm k 1,qW (by omega)]
  show(k:Int)=((1+k:Nat):Int)-1
  omega
set_option maxHeartbeats 3200000 in
theorem f6(m:Md)(law:(∀x,x∈jD m→x.code≠3)→jD (iS m)=gZ (jD m) m.funcs.reverse):cm Tryz.prog TP 6 [.agg (mdO m)] (.bool true):=by
 obtain⟨v,c,rfl⟩:∃v,cm Tryz.prog TP 6 [.agg (mdO m)] v∧v= .bool true:=by
  have px:=ir m
  have c7':=c7
  obtain⟨b,c8,hb⟩:=f8 m
  refine cJ Tryz.func6 (by decide) cf6_ok rfl (bO (.agg px) px0) rfl ?_
  cases b with
  |false=>
   repeat' (first
    |(refine WLg.mk ?_;first
    |refine aa rfl rfl rfl rfl ?_|refine ab rfl rfl rfl rfl ?_|refine az rfl rfl rfl rfl px rfl ?_|refine aq rfl rfl rfl (c7') rfl ?_
    |refine aq rfl rfl rfl (c8) rfl ?_)
    |refine ae ?_|refine ac rfl ?_|refine ax rfl rfl ?_|refine ai ?_|refine ah ?_|refine al ?_|refine aC rfl ?_
    |refine aB rfl ?_|refine ap ?_|refine bE.norm ?_|refine bE.ret ?_|fail)
   exact⟨.inr rfl,_,rfl,.flat rfl,rfl⟩
  |true=>
  have hm:=hb rfl
  clear hb
  obtain⟨r,c11,_⟩:=f11 m hm
  have hsz:=nZ m
  have hn:=mC m.funcs
  repeat' (first
   |(refine WLg.mk ?_;first
   |refine aa rfl rfl rfl rfl ?_|refine ab rfl rfl rfl rfl ?_|refine az rfl rfl rfl rfl px rfl ?_|refine aq rfl rfl rfl (c7') rfl ?_
   |refine aq rfl rfl rfl (c8) rfl ?_|refine aq rfl rfl rfl (c11) rfl ?_)
   |refine ae ?_|refine ac rfl ?_|refine ai ?_|refine ah ?_|refine aj ?_|refine al ?_|refine aB rfl ?_
   |refine ak rfl (fun ht=>?_) (fun ht=>?_)|refine ap ?_|refine bE.norm ?_|refine bE.ret ?_|fail)
  ·exact⟨.inr rfl,_,rfl,.flat rfl,rfl⟩
  have q0:fuL (m.funcs.reverse.take 0)=[]:=rfl
  refine av (bP (l:=fr6a m .nils (cR .i64 (Int.sub (Int.ofNat m.funcs.length) (Int.ofNat 1)))) KH) ?_
  refine aw m.funcs.length (fun j f h=>∃v z,f=fr6a m v z∧z=(m.funcs.length:Int)-1-(j:Int)∧GL 3 h v (fuL (m.funcs.reverse.take j))∧h.blk 0=some (.ro 256 dN)∧h.next=j+1) ?_ (i:=0) (Nat.zero_le _) ⟨.nils,_,rfl,by rw [wT (by omega)];omega,.none0,rfl,rfl⟩
  rintro j _ ha hj ⟨v,z,rfl,hz,gl,b0,nx⟩
  cases q:ltI z 0 with
  |false=>
   rw [eN]at q
   have q1:¬z<0:=of_decide_eq_false q
   obtain⟨k,hk⟩:∃k:Nat,z=Int.ofNat k:=⟨z.toNat,(Int.toNat_of_nonneg (by omega)).symm⟩
   subst hk
   have hz:(k:Int)=(m.funcs.length:Int)-1-(j:Int):=hz
   have hjn:j<m.funcs.reverse.length:=by rw [List.length_reverse];omega
   have hkb:Nat.blt k m.funcs.length=true:=ltb (by omega)
   have pp:=lS (cD m.funcs k)
   obtain⟨v',h',e1,e2,e3,e4⟩:=gl.fun1 (by rw [List.length_take];omega) (by omega) (cD m.funcs k)
   rw [←AG (show k+j+1=m.funcs.length by omega),←fh hjn]at e2
   have hge:(!ltI (Int.ofNat k) 0)=true:=by rw [eN,decide_eq_false q1];rfl
   repeat' (first
    |(refine WLg.mk ?_;first
    |refine aa rfl rfl rfl rfl ?_|refine aa rfl rfl (bM Hy) rfl ?_|refine ab rfl rfl (iY Hy) rfl ?_
    |refine ab rfl rfl rfl rfl ?_|refine aO rfl rfl rfl rfl rfl rfl pp rfl ?_|refine aD rfl rfl (e1) rfl ?_)
    |refine ae ?_|refine ac rfl ?_|refine ai ?_|refine ah ?_|refine aj ?_|refine al ?_|refine aC rfl ?_
    |refine bE.norm ?_|fail)
   exact .norm ⟨_,_,bP KH,by omega,v',cR .i64 (Int.sub (Int.ofNat k) (Int.ofNat 1)),rfl,by rw [wT (by omega)];omega,e2,e4 b0 (by omega),by omega⟩
  |true=>
   have hge:(!ltI z 0)=false:=by rw [q];rfl
   rw [eN]at q
   have q1:z<0:=of_decide_eq_true q
   obtain rfl:j=m.funcs.length:=by omega
   rw [←List.length_reverse,List.take_length]at gl
   have c12:=f12c hm
   have c12w:=f12c (m:=iS m) (by rw [Bx];exact hm)
   have c10:cm Tryz.prog TP 10 [.agg (mdO m),.lst m.funcs.reverse.length 3 (fuL m.funcs.reverse)] (.agg (mdO (iS m))):=f10 m m.funcs.reverse
   have px3:=BV m.funcs.reverse
   have pxe:bN (.eptr (mdO m) 0):= .eptr px
   obtain⟨c12,lm⟩:=c12
   obtain⟨c12w,lw⟩:=c12w
   repeat' (first
    |(refine WLg.mk ?_;first
    |refine aa rfl rfl rfl rfl ?_)
    |refine ae ?_|refine ac rfl ?_|refine ai ?_|refine ah ?_
    |refine ak rfl (fun ht=>(Bool.false_ne_true ((show _=false by with_reducible assumption).symm.trans ht)).elim) (fun ht=>?_)
    |refine au ?_|refine bE.norm ?_|refine bE.exit ?_|refine OnC.exit ?_|fail)
   refine av (tw (t:=3) (r:=fr6r m) b0 gl (v6 _) rfl KT m.funcs.reverse.length (lT _) (by decide)) ?_
   generalize hown:jD m=own at*
   generalize hw:jD (iS m)=w at*
   generalize hrv:m.funcs.reverse=rv at*
   have ho:own.length<9223372036854775807:=by omega
   have hrl:rv.length≤6000000:=by rw [←hrv,List.length_reverse];omega
   clear nx gl b0 c8 c11 px3 hge q q1 hz
   repeat' (first
    |(refine WLg.mk ?_;first
    |refine aa rfl rfl rfl rfl ?_)
    |(show WX _ _ _ _ _ _ _ _ _ _;first
    |refine aG rfl rfl rfl rfl ?_|refine aE rfl rfl rfl rfl ?_|refine aL rfl rfl rfl (c12) .none rfl ?_
    |refine aL rfl rfl rfl (c10) .none rfl ?_|refine aL rfl rfl rfl (c12w) .none rfl ?_
    |refine aI (by repeat' (first|exact bD.nil|refine bD.any (fun h=>rfl) ?_|refine bD.first rfl ?_|refine bD.each (.cons rfl .nil) ?_|refine bD.each (.cons rfl (.cons rfl .nil)) ?_|refine bD.each (.cons rfl (.cons rfl (.cons rfl .nil))) ?_)) ?_)
    |refine ae ?_|refine ac rfl ?_|refine ai ?_|refine ah ?_|refine aj ?_|refine aJ ?_|refine bE.norm ?_|fail)
   refine av (bP (l:=fr6b own w rv .nils 0) KH) ?_
   refine aw own.length (fun i f h=>∃v,f=fr6b own w rv v i∧GL 6 h v (flL ((own.take i).filter p0B))∧h.blk 0=some (.ro 256 dN)∧0<h.next∧h.next≤i+1∧∀x,x∈own.take i→x.code≠3) ?_ (i:=0) (Nat.zero_le _) ⟨.nils,rfl,.none0,rfl,Nat.succ_pos _,Nat.le_refl _,fun x hx=>by cases hx⟩
   rintro i _ hb hi ⟨v,rfl,gl,b0,n0,nx,no3⟩
   have hi2:i<9223372036854775807:=by omega
   cases q:ltI (Int.ofNat i) (Int.ofNat own.length)with
   |true=>
    have hlt:=bK q
    have pp:=AK (jQ own i)
    have st:=xL hlt
    cases q3:eqI (jQ own i).code 3 with
    |true=>
     repeat' (first
      |(refine WLg.mk ?_;first
      |refine aa rfl rfl rfl rfl ?_|refine aa rfl rfl (bM Hy) rfl ?_|refine ab rfl rfl (pW Hy rfl) rfl ?_)
      |refine ae ?_|refine ac rfl ?_|refine ai ?_|refine ah ?_|refine aj ?_|refine al ?_
      |refine ak rfl (fun ht=>?_) (fun ht=>(Bool.false_ne_true (ht.symm.trans (by with_reducible assumption))).elim)
      |refine ap ?_|refine bE.norm ?_|refine bE.ret ?_|refine OnC.ret ?_|fail)
     exact⟨.inr rfl,_,rfl,.flat rfl,rfl⟩
    |false=>
     have no3':∀x,x∈own.take (i+1)→x.code≠3:=fun x hx=>by
      rw [st]at hx
      rcases List.mem_append.1 hx with hx|hx
      ·exact no3 x hx
      ·rw [List.mem_singleton.1 hx]
       rw [fZ]at q3
       exact of_decide_eq_false q3
     cases q0:eqI (jQ own i).cl 0 with
     |true=>
      have fl':(own.take (i+1)).filter p0B=(own.take i).filter p0B++[jQ own i]:=by
       rw [st,List.filter_append]
       have:p0B (jQ own i)=true:=q0
       simp [this]
      have hfl:=(List.filter_sublist (p:=p0B) (l:=own.take i)).length_le
      rw [List.length_take]at hfl
      obtain⟨v',h',e1,e2,e3,e4⟩:=gl.flaw (by omega) (by omega) (jQ own i)
      rw [←fl']at e2
      repeat' (first
       |(refine WLg.mk ?_;first
       |refine aa rfl rfl rfl rfl ?_|refine aa rfl rfl (bM Hy) rfl ?_|refine ab rfl rfl (pW Hy rfl) rfl ?_
       |refine ab rfl rfl (my Hy) rfl ?_|refine aO rfl rfl rfl rfl rfl rfl pp rfl ?_|refine aD rfl rfl (e1) rfl ?_)
       |refine ae ?_|refine ac rfl ?_|refine ai ?_|refine ah ?_|refine aj ?_|refine al ?_
       |refine ak rfl (fun ht=>?_) (fun ht=>(Bool.false_ne_true (ht.symm.trans (by with_reducible assumption))).elim)
       |refine ak rfl (fun ht=>(Bool.false_ne_true ((show _=false by with_reducible assumption).symm.trans ht)).elim) (fun ht=>?_)
       |refine bE.norm ?_|fail)
      exact .norm ⟨_,_,bP KH,hlt,v',rfl,e2,e4 b0 n0,by omega,by omega,no3'⟩
     |false=>
      have fl':(own.take (i+1)).filter p0B=(own.take i).filter p0B:=by
       rw [st,List.filter_append]
       have:p0B (jQ own i)=false:=q0
       simp [this]
      rw [←fl']at gl
      repeat' (first
       |(refine WLg.mk ?_;first
       |refine aa rfl rfl rfl rfl ?_|refine aa rfl rfl (bM Hy) rfl ?_|refine ab rfl rfl (pW Hy rfl) rfl ?_)
       |refine ae ?_|refine ac rfl ?_|refine ai ?_|refine ah ?_|refine aj ?_|refine al ?_
       |refine ak rfl (fun ht=>?_) (fun ht=>(Bool.false_ne_true (ht.symm.trans (by with_reducible assumption))).elim)
       |refine ak rfl (fun ht=>(Bool.false_ne_true ((show _=false by with_reducible assumption).symm.trans ht)).elim) (fun ht=>?_)
       |refine bE.norm ?_|fail)
      exact .norm ⟨_,_,bP KH,hlt,v,rfl,gl,b0,n0,by omega,no3'⟩
   |false=>
    obtain rfl:i=own.length:=by have:=cj q;omega
    rw [List.take_length]at gl no3
    have lw':=law no3
    subst lw'
    have g0:jo own rv 0 0=own.filter p0B:=by simp [jo]
    have hfl:=(List.filter_sublist (p:=p0B) (l:=own)).length_le
    rw [←g0]at gl
    have hfl2:(own.filter p0B).length≤own.length:=hfl
    repeat' (first
     |(refine WLg.mk ?_;first
     |refine aa rfl rfl rfl rfl ?_)
     |refine ae ?_|refine ac rfl ?_|refine ai ?_|refine ah ?_|refine aj ?_
     |refine ak rfl (fun ht=>(Bool.false_ne_true ((show _=false by with_reducible assumption).symm.trans ht)).elim) (fun ht=>?_)
     |refine au ?_|refine bE.norm ?_|refine bE.exit ?_|refine OnC.exit ?_|fail)
    refine av (bP (l:=fr6c own (gZ own rv) rv v 0) KH) ?_
    refine aw rv.length (fun j f h=>∃v,f=fr6c own (gZ own rv) rv v j∧GL 6 h v (flL (jo own rv j 0))∧h.blk 0=some (.ro 256 dN)∧0<h.next∧h.next≤own.length+(jo own rv j 0).length+1) ?_ (i:=0) (Nat.zero_le _) ⟨v,rfl,gl,b0,n0,by omega⟩
    clear q gl b0 n0 nx no3 hi hi2 hfl g0
    rintro j _ hb hj ⟨v,rfl,gl,b0,n0,nx⟩
    have hj2:j<9223372036854775807:=by omega
    cases q:ltI (Int.ofNat j) (Int.ofNat rv.length)with
    |true=>
     have hjl:=bK q
     repeat' (first
      |(refine WLg.mk ?_;first
      |refine aa rfl rfl rfl rfl ?_)
      |refine ae ?_|refine ac rfl ?_|refine ai ?_|refine ah ?_|refine aj ?_|refine al ?_
      |refine ak rfl (fun ht=>?_) (fun ht=>(Bool.false_ne_true (ht.symm.trans (by with_reducible assumption))).elim)
      |refine bE.norm ?_|fail)
     refine av (bP (l:=fr6d own (gZ own rv) rv v j 0) KH) ?_
     refine aw own.length (fun k f h=>∃v,f=fr6d own (gZ own rv) rv v j k∧GL 6 h v (flL (jo own rv j k))∧h.blk 0=some (.ro 256 dN)∧0<h.next∧h.next≤own.length+(jo own rv j k).length+1) ?_ (i:=0) (Nat.zero_le _) ⟨v,rfl,gl,b0,n0,nx⟩
     clear gl b0 n0 nx
     rintro k _ hb hk ⟨v,rfl,gl,b0,n0,nx⟩
     have hk2:k<9223372036854775807:=by omega
     cases qk:ltI (Int.ofNat k) (Int.ofNat own.length)with
     |true=>
      have hkl:=bK qk
      have hjb:=ltb hjl
      have st:=ze (rv:=rv) (j:=j) hkl
      have pp:=AK (jQ own k)
      have hle:=Cy (own:=own) (k:=k) hjl
      obtain⟨v',h',e1,e2,e3,e4⟩:=gl.flaw (by omega) (by omega) (jQ own k)
      have yes:pTB (cD rv j) (jQ own k)=true→GL 6 h' v' (flL (jo own rv j (k+1)))∧h'.next≤own.length+(jo own rv j (k+1)).length+1:=fun q=>by
       rw [q,if_pos rfl]at st
       rw [st,List.length_append]
       exact⟨e2,by rw [e3];show hb.next+1≤own.length+((jo own rv j k).length+1)+1;omega⟩
      have no:pTB (cD rv j) (jQ own k)=false→GL 6 hb v (flL (jo own rv j (k+1)))∧hb.next≤own.length+(jo own rv j (k+1)).length+1:=fun q=>by
       rw [q,if_neg Bool.false_ne_true]at st
       rw [st]
       exact⟨gl,nx⟩
      repeat' (first
       |(refine WLg.mk ?_;first
       |refine aa rfl rfl rfl rfl ?_|refine aa rfl rfl (bM Hy) rfl ?_|refine ab rfl rfl (my Hy) rfl ?_
       |refine aO rfl rfl rfl rfl rfl rfl pp rfl ?_|refine aD rfl rfl (e1) rfl ?_)
       |(show WX _ _ _ _ _ _ _ _ _ _;first
       |refine aU rfl rfl rfl ?_|refine aG rfl rfl rfl rfl ?_|refine aG rfl rfl (bM Hy) rfl ?_
       |refine aE rfl rfl (pW Hy rfl) rfl ?_|refine aE rfl rfl (rD Hy rfl) rfl ?_
       |(fail_if_success refine WX.gt rfl ?_);refine aT rfl rfl rfl (fun ht=>?_) (fun ht=>?_)
       |refine aI (by repeat' (first|exact bD.nil|refine bD.any (fun h=>rfl) ?_|refine bD.first rfl ?_|refine bD.first (pW Hy rfl) ?_|refine bD.snd (pW Hy rfl) ?_|refine bD.any (fun h=>pW Hy rfl) ?_|refine bD.first (rD Hy rfl) ?_|refine bD.snd (rD Hy rfl) ?_|refine bD.any (fun h=>rD Hy rfl) ?_|refine bD.first (my Hy) ?_|refine bD.snd (my Hy) ?_|refine bD.any (fun h=>my Hy) ?_|refine bD.each (.cons rfl .nil) ?_|refine bD.each (.cons rfl (.cons rfl .nil)) ?_|refine bD.each (.cons rfl (.cons rfl (.cons rfl .nil))) ?_)) ?_)
       |refine ae ?_|refine ac rfl ?_|refine ai ?_|refine ah ?_|refine aj ?_|refine al ?_|refine aB rfl ?_
       |refine ak rfl (fun ht=>?_) (fun ht=>(Bool.false_ne_true (ht.symm.trans (by with_reducible assumption))).elim)
       |refine ak rfl (fun ht=>?_) (fun ht=>?_)|refine aJ ?_|refine bE.norm ?_|fail)
      ·obtain⟨y1,y2⟩:=yes (by unfold pTB;simp [*])
       exact .norm ⟨_,_,bP KH,hkl,v',rfl,y1,e4 b0 n0,by omega,y2⟩
      all_goals (
       obtain⟨y1,y2⟩:=no (by unfold pTB;simp [*])
       exact .norm ⟨_,_,bP KH,hkl,v,rfl,y1,b0,n0,y2⟩)
     |false=>
      obtain rfl:k=own.length:=by have:=cj qk;omega
      rw [zf hjl]at gl nx
      repeat' (first
       |(refine WLg.mk ?_;first
       |refine aa rfl rfl rfl rfl ?_)
       |refine ae ?_|refine ac rfl ?_|refine ai ?_|refine ah ?_
       |refine ak rfl (fun ht=>(Bool.false_ne_true ((show _=false by with_reducible assumption).symm.trans ht)).elim) (fun ht=>?_)
       |refine au ?_|refine bE.norm ?_|refine bE.exit ?_|refine OnC.exit ?_|fail)
      exact .norm ⟨_,_,bP KH,hjl,v,rfl,gl,b0,n0,nx⟩
    |false=>
     obtain rfl:j=rv.length:=by have:=cj q;omega
     rw [Bk]at gl
     have c13:=f13 (gZ own rv) (by omega)
     have pxo:bN (lsF own):=Dy _
     have pxw:bN (lsF (gZ own rv)):=Dy _
     have pxr:=BV rv
     refine av (tw (t:=7) (r:=fr6e own (gZ own rv) rv rv.length) b0 gl (mF _) rfl KT (gZ own rv).length (jb _) (by decide)) ?_
     repeat' (first
      |(refine WLg.mk ?_;first
      |refine aa rfl rfl rfl rfl ?_|refine aq rfl rfl rfl (c13) rfl ?_)
      |refine ae ?_|refine ac rfl ?_|refine ai ?_|refine ah ?_
      |refine ak rfl (fun ht=>(Bool.false_ne_true ((show _=false by with_reducible assumption).symm.trans ht)).elim) (fun ht=>?_)
      |refine au ?_|refine ap ?_|refine bE.norm ?_|refine bE.exit ?_|refine OnC.exit ?_|fail)
     exact⟨.inr rfl,_,rfl,.flat rfl,rfl⟩
 exact c
end
section
theorem zU:RR (fun a b:List Fl=>a=b):=⟨rfl,fun h k=>by rw [h,k],fun _ _ _=>rfl⟩
theorem xJ(D:Df)(f:Fu)(a:Bool):∃xs,(∀x,x∈xs→AtF f x)∧∀fl,fnF D f a fl=fl++xs:=by
 obtain⟨xs,ys,h1,h2,h3,h4⟩:=DT zU (D:=D) (D':=D) (fun p nm n=>RL.bif ⟨_,_,fun x h=>by rw [List.mem_singleton.1 h];exact .flw,rfl,fun fl=>rfl,fun fl=>rfl⟩ (RL.same zU)) f a
 exact⟨xs,h1,h3⟩
noncomputable section
def fnX(D:Df)(f:Fu)(a:Bool):List Fl:=fnF D f a []
def mz(D:Df)(l:List Sn):List Fl:=ur D p0 l []
end
theorem v8(D:Df)(f:Fu)(a:Bool):∀x,x∈fnX D f a→AtF f x:=by
 obtain⟨xs,h1,h2⟩:=xJ D f a
 unfold fnX
 rw [h2,List.nil_append]
 exact h1
theorem xK(D:Df)(f:Fu)(a:Bool)(fl:List Fl):fnF D f a fl=fl++fnX D f a:=by
 obtain⟨xs,h1,h2⟩:=xJ D f a
 unfold fnX
 rw [h2,h2,List.nil_append]
theorem uq(D:Df)(l:List Sn):∀x,x∈mz D l→x.cl=0:=by
 have key:∀n,∀x,x∈bW (fun i fl=>jP D p0 (dg l i) (g8 l i) fl) [] n→x.cl=0:=by
  intro n
  induction n with
  |zero=>intro x hx;cases hx
  |succ n ih=>
   intro x hx
   have hx:x∈jP D p0 (dg l n) (g8 l n) (bW (fun i fl=>jP D p0 (dg l i) (g8 l i) fl) [] n):=hx
   generalize bW (fun i fl=>jP D p0 (dg l i) (g8 l i) fl) [] n=fl at ih hx
   have h1:∀x,x∈(if g8 l n then fl++[flw p0 1 (dg l n).name (dg l n).arity]else fl)→x.cl=0:=by
    intro x hx
    split at hx
    ·rcases List.mem_append.1 hx with hx|hx
     ·exact ih x hx
     ·rw [List.mem_singleton.1 hx]
      rfl
    ·exact ih x hx
   unfold jP at hx
   split at hx
   ·exact h1 x hx
   ·rcases List.mem_append.1 hx with hx|hx
    ·exact h1 x hx
    ·rw [List.mem_singleton.1 hx]
     rfl
 exact key _
theorem nL(D:Df)(l:List Fu)(a:Nat→Bool)(s:List Fl):∀n,n≤l.length→(∀i,i<n→a i=false)→bW (fun i fl=>fnF D (cD l i) (a i) fl) s n=s++(l.take n).flatMap fun f=>fnX D f false
 |0,_,_=>by simp [bW]
 |n+1,hn,h=>by
  show fnF D (cD l n) (a n) (bW (fun i fl=>fnF D (cD l i) (a i) fl) s n)=_
  rw [nL D l a s n (by omega) fun i hi=>h i (by omega),xK,h n (by omega),fh (by omega),List.flatMap_append,List.append_assoc]
  simp
theorem uV(D:Df)(l:List Fu)(a:Nat→Bool)(s:List Fl){i:Nat}{x:Fl}(hx:x∈fnX D (cD l i) (a i)):∀n,i<n→x∈bW (fun i fl=>fnF D (cD l i) (a i) fl) s n
 |0,h=>by omega
 |n+1,h=>by
  show x∈fnF D (cD l n) (a n) _
  rw [xK]
  by_cases q:i=n
  ·subst q
   exact List.mem_append.2 (.inr hx)
  ·exact List.mem_append.2 (.inl (uV D l a s hx n (by omega)))
theorem yP(D:Df)(f:Fu):∃x,x∈fnX D f true∧x.code=3:=by
 have hom:RF (fun a b:List Fl=>a=b) f (fun fl=>bW (fun i fl=>oM D f i fl) fl f.clauses.length) (fun fl=>bW (fun i fl=>oM D f i fl) fl f.clauses.length):=RF.loop zU _ fun i=>(xO zU (D:=D) (D':=D) (fun p nm n=>RL.bif ⟨_,_,fun x h=>by rw [List.mem_singleton.1 h];exact .flw,rfl,fun fl=>rfl,fun fl=>rfl⟩ (RL.same zU)) f i).rf
 obtain⟨xs,ys,_,_,h3,_⟩:=hom
 refine⟨flw (plF f 0) 3 f.name f.arity,?_,rfl⟩
 show _∈(fun fl=>bW (fun i fl=>oM D f i fl) fl f.clauses.length) (mH f true [])
 rw [h3]
 refine List.mem_append.2 (.inl ?_)
 unfold mH
 split
 ·exact List.mem_append.2 (.inr (List.mem_singleton.2 rfl))
 ·exact List.mem_append.2 (.inl (List.mem_append.2 (.inr (List.mem_singleton.2 rfl))))
theorem mM{l:List Ky}{k:Ky}:0<mN l k↔k∈l:=by
 unfold mN
 rw [List.length_pos_iff_exists_mem]
 constructor
 ·rintro⟨x,hx⟩
  obtain⟨h1,h2⟩:=List.mem_filter.1 hx
  have:=of_decide_eq_true h2
  exact this▸h1
 ·exact fun h=>⟨k,List.mem_filter.2 ⟨h,decide_eq_true rfl⟩⟩
theorem ve{m:Md}(h:∀i,i<m.funcs.length→gV m i=false):(m.funcs.map kF).Nodup:=by
 have key:∀n,n≤m.funcs.length→((m.funcs.take n).map kF).Nodup:=by
  intro n
  induction n with
  |zero=>intro _;simp
  |succ n ih=>
   intro hn
   have hlt:n<m.funcs.length:=by omega
   rw [fh hlt,List.map_append,List.nodup_append]
   refine⟨ih (by omega),by simp,fun a ha b hb=>?_⟩
   have hb:b=kF (cD m.funcs n):=by simpa using hb
   subst hb
   rintro rfl
   have:=h n hlt
   unfold gV at this
   have:=of_decide_eq_false this
   exact this (mM.2 ha)
 have:=key m.funcs.length (Nat.le_refl _)
 rwa [List.take_length]at this
theorem ub{m:Md}(h:(m.funcs.map kF).Nodup):∀i,i<m.funcs.length→gV m i=false:=by
 intro i hi
 refine decide_eq_false fun q=>?_
 have q:=mM.1 q
 have e:m.funcs.map kF=(m.funcs.take (i+1)).map kF++(m.funcs.drop (i+1)).map kF:=by rw [←List.map_append,List.take_append_drop]
 rw [e,fh hi,List.map_append]at h
 have h:=(List.nodup_append.1 h).1
 exact(List.nodup_append.1 h).2.2 _ q (kF (cD m.funcs i)) (by simp) rfl
theorem xR(m:Md):dfM (iS m)=dfM m:=by
 funext n a
 unfold dfM
 congr 1
 rw [eq_iff_iff,mM,mM]
 show _∈m.funcs.reverse.map kF↔_
 rw [List.map_reverse,List.mem_reverse]
theorem yD(m:Md):xE (iS m)=xE m:=by
 unfold xE iS
 simp
theorem BY(m:Md):okM (iS m)=okM m:=by
 unfold okM
 rw [yD]
 unfold iS
 simp [List.map_reverse,List.sum_reverse]
theorem sw{f:Fu}{x:Fl}:pTB f x=true↔0<x.cl∧x.fn=f.name∧x.ar=f.arity:=by
 unfold pTB
 rw [Bool.and_eq_true,Bool.and_eq_true,eN,rj,fZ]
 simp
theorem qh{D:Df}:∀{l:List Fu},(l.map kF).Nodup→∀{f:Fu},f∈l→(l.flatMap fun f=>fnX D f false).filter (pTB f)=fnX D f false
 |[],_,f,hf=>by cases hf
 |a ::l,hn,f,hf=>by
  rw [List.map_cons,List.nodup_cons]at hn
  rw [List.flatMap_cons,List.filter_append]
  have other:∀g:Fu,kF g≠kF f→(fnX D g false).filter (pTB f)=[]:=fun g hg=>by
   rw [List.filter_eq_nil_iff]
   intro x hx hp
   have h1:=v8 D g false x hx
   obtain⟨_,h2,h3⟩:=sw.1 hp
   exact hg (by unfold kF;rw [←h1.fn,←h1.ar,h2,h3])
  have own:(fnX D f false).filter (pTB f)=fnX D f false:=by
   rw [List.filter_eq_self]
   intro x hx
   have h1:=v8 D f false x hx
   exact sw.2 ⟨h1.cl,h1.fn,h1.ar⟩
  by_cases e:kF a=kF f
  ·have hno:(l.flatMap fun f=>fnX D f false).filter (pTB f)=[]:=by
    rw [List.filter_flatMap]
    rw [List.flatMap_eq_nil_iff]
    intro g hg
    exact other g fun q=>hn.1 (by rw [e,←q];exact List.mem_map.2 ⟨g,hg,rfl⟩)
   rw [hno,List.append_nil]
   rcases List.mem_cons.1 hf with rfl|hf
   ·exact own
   ·exact absurd (List.mem_map.2 ⟨f,hf,e.symm⟩) hn.1
  ·rw [other a e,List.nil_append]
   refine qh hn.2 ?_
   rcases List.mem_cons.1 hf with rfl|hf
   ·exact absurd rfl e
   ·exact hf
theorem vn(m:Md)(no3:∀x,x∈jD m→x.code≠3):jD (iS m)=gZ (jD m) m.funcs.reverse:=by
 unfold jD at no3 ⊢
 rw [BY]
 cases hok:okM m with
 |false=>simp [gZ]
 |true=>
  rw [if_pos rfl,if_pos rfl]
  rw [hok,if_pos rfl]at no3
  have hag:∀i,i<m.funcs.length→gV m i=false:=by
   intro i hi
   cases q:gV m i with
   |false=>rfl
   |true=>
    obtain⟨x,h1,h2⟩:=yP (dfM m) (cD m.funcs i)
    rw [←q]at h1
    exact absurd h2 (no3 x (uV _ _ _ _ h1 _ hi))
  have hnd:=ve hag
  have hnr:((iS m).funcs.map kF).Nodup:=by
   show(m.funcs.reverse.map kF).Nodup
   rw [List.map_reverse]
   exact List.pairwise_reverse.2 (hnd.imp fun h=>Ne.symm h)
  have hagr:=ub hnr
  have e1:rY m=mz (dfM m) m.exports++m.funcs.flatMap fun f=>fnX (dfM m) f false:=by
   have:=nL (dfM m) m.funcs (gV m) (mz (dfM m) m.exports) m.funcs.length (Nat.le_refl _) hag
   rw [List.take_length]at this
   exact this
  have e2:rY (iS m)=mz (dfM m) m.exports++m.funcs.reverse.flatMap fun f=>fnX (dfM m) f false:=by
   have:=nL (dfM (iS m)) (iS m).funcs (gV (iS m)) (mz (dfM (iS m)) (iS m).exports) (iS m).funcs.length (Nat.le_refl _) hagr
   rw [List.take_length,xR]at this
   unfold rY
   rw [xR]
   exact this
  rw [e1,e2]
  unfold gZ
  have hh:(mz (dfM m) m.exports).filter p0B=mz (dfM m) m.exports:=by
   rw [List.filter_eq_self]
   intro x hx
   unfold p0B
   rw [fZ]
   exact decide_eq_true (uq _ _ x hx)
  have hf:(m.funcs.flatMap fun f=>fnX (dfM m) f false).filter p0B=[]:=by
   rw [List.filter_eq_nil_iff]
   intro x hx hp
   obtain⟨f,_,hx⟩:=List.mem_flatMap.1 hx
   have:=(v8 _ _ _ x hx).cl
   unfold p0B at hp
   rw [fZ]at hp
   have:=of_decide_eq_true hp
   omega
  rw [List.filter_append,hh,hf,List.append_nil]
  congr 1
  have key:∀l:List Fu,(∀f,f∈l→f∈m.funcs)→(l.flatMap fun f=>fnX (dfM m) f false)=l.flatMap fun f=>(mz (dfM m) m.exports++m.funcs.flatMap fun f=>fnX (dfM m) f false).filter (pTB f):=by
   intro l
   induction l with
   |nil=>intro _;rfl
   |cons a l ih=>
    intro h
    rw [List.flatMap_cons,List.flatMap_cons,ih fun f hf=>h f (List.mem_cons_of_mem _ hf),List.filter_append,qh hnd (h a List.mem_cons_self)]
    have:(mz (dfM m) m.exports).filter (pTB a)=[]:=by
     rw [List.filter_eq_nil_iff]
     intro x hx hp
     have:=uq _ _ x hx
     have:=(sw.1 hp).1
     omega
    rw [this,List.nil_append]
  exact key _ fun f hf=>List.mem_reverse.1 hf
theorem vo(m:Md):cm Tryz.prog TP 6 [.agg (mdO m)] (.bool true):=f6 m (vn m)
end
end Ev
end Go.Proofs.YtdfphfdnoobikaaGreatDoor
