/-
  The checker:flaws are found;scopes are cloned.
-/
import Derived.Test.YtdfphfdnoobikaaGreatDoorLtFind8
namespace Go.Proofs.YtdfphfdnoobikaaGreatDoor
namespace Ev
section
open Go.Shelf
theorem CS.upd{D:Df}{p p':Pl}{fl:List Fl}{h h':H}(c:CS D p fl h){tr:Tr V}{v:V}(a:h'.next=h.next)(e:∀j,h'.blk j=if j=2 then some (.cells 5 tr none false)else h.blk j)(t0:tr.get 0=some (sV p'.name))(i:tr.get 1=some (.int .i64 p'.ar))(t2:tr.get 2=some (.int .i64 p'.cl))(l:tr.get 3=some (.map 1))(t4:tr.get 4=some v)(gl:GL 6 h v (flL fl)):CS D p' fl h'/\KM 0 h h':=by
 obtain⟨m,o,r,g⟩:=c.b1;obtain⟨k,v0,f,_⟩:=c.b2;refine⟨⟨by rw [e,if_neg (by decide)];exact c.b0,⟨m,o,by rw [e,if_neg (by decide)];exact r,g⟩,⟨tr,v,by rw [e,if_pos rfl],t0,i,t2,l,t4,gl.mono (Nat.le_of_eq a.symm) λb n q lt=>?_⟩,by rw [a];exact c.ln,by rw [a];exact c.le⟩,KMx.k0 ⟨Nat.le_of_eq a.symm,λj es o _ _ d=>by rw [e,if_neg (λq=>by rw [q,f]at d;cases d)];exact d⟩⟩;rw [e,if_neg];rintro rfl;subst q;cases gl with
 |full hb hc hn2=>
  rw [f]at hb;have:(5:Nat)=n*6:=by injection hb with hb;injection hb
  omega
theorem CS.place{D:Df}{p:Pl}{fl:List Fl}{h:H}(c:CS D p fl h)(_:h.next<900000000)(n:ByteArray)(a:Int):∃h',EOp.run (.store 3) [.ptr 2 0,.agg [sV n,.int .i64 a,.int .i64 1]] h=some (cT,h')/\CS D ⟨n,a,1⟩ fl h'/\KM 0 h h'/\h'.next=h.next:=by
 have d:900000002<bZ:=by unfold bZ;omega
 obtain⟨tr,v,l,t0,s,t2,k,t4,gl⟩:=c.b2;obtain⟨h',m,e,f,g,i,b⟩:=mw (id:=2) (n:=5) (by omega) (by omega) [sV n,.int .i64 a,.int .i64 1] 0 h tr l rfl (by simp);obtain⟨r,o⟩:=c.upd (p':=⟨n,a,1⟩) e (λj=>by
  by_cases q:j=2
  ·rw [if_pos q,q,i]
  ·rw [if_neg q,f j q]) (by rw [b];rfl) (by rw [b];rfl) (by rw [b];rfl) (by rw [b];exact k) (by rw [b];exact t4) gl
 refine⟨h',?_,r,o,e⟩;show oif true (ob (H.wr 2 [sV n,.int .i64 a,.int .i64 1] 0 h) λh=>some (cT,h))=_;rw [m];rfl
theorem CS.clause{D:Df}{p:Pl}{fl:List Fl}{h:H}(c:CS D p fl h)(_:h.next<900000000)(a:Int):∃h',EOp.run (.store 1) [.ptr 2 2,.int .i64 a] h=some (cT,h')/\CS D ⟨p.name,p.ar,a⟩ fl h'/\KM 0 h h'/\h'.next=h.next/\∀j,j≠2->h'.blk j=h.blk j:=by
 have b:900000002<bZ:=by unfold bZ;omega
 obtain⟨tr,v,e,t0,d,t2,f,t4,gl⟩:=c.b2;have g:∀j,(tr.put 2 (some (V.int .i64 a))).get j=if j=2 then some (V.int .i64 a)else tr.get j:=λj=>Tr.get_put _ _ _ _ (by omega)
 obtain⟨l,i⟩:=c.upd (p':=⟨p.name,p.ar,a⟩) (h':=⟨h.t.put 2 (some (.cells 5 (tr.put 2 (some (.int .i64 a))) none false)),h.next⟩) (tr:=tr.put 2 (some (.int .i64 a))) rfl (λj=>gO (by omega)) (by rw [g];exact t0) (by rw [g];exact d) (by rw [g];rfl) (by rw [g];exact f) (by rw [g];exact t4) gl;exact⟨_,iH e rfl rfl (by decide),l,i,rfl,λj k=>by rw [gO (by omega),if_neg k]⟩
theorem f50{D:Df}{p:Pl}{fl:List Fl}{h:H}(c:CS D p fl h)(P:h.next+2<300000000)(code n:Int)(name:ByteArray):∃h',CN 50 [.ptr 2 0,.int .i64 code,sV name,.int .i64 n] h (.tup []) h'/\CS D p (fl++[flw p code name n]) h'/\KM 0 h h'/\h'.next=h.next+2/\∀j tr,j<h.next->h.blk j=some (.cells 4 tr none false)->h'.blk j=some (.cells 4 tr none false):=by
 have K:900000002<bZ:=by unfold bZ;omega
 obtain⟨V,o,O,W⟩:=c.b1;obtain⟨tr,v,E,t0,M,t2,U,t4,gl⟩:=c.b2;have c2:=c.le;have cl:=c.ln;have l0:ROp.run (.load false 1) [.ptr 2 0] h=some (sV p.name):=dI E t0 (by decide);have d:ROp.run (.load false 1) [.ptr 2 1] h=some (.int .i64 p.ar):=dI E M (by decide);have f:ROp.run (.load false 1) [.ptr 2 2] h=some (.int .i64 p.cl):=dI E t2 (by decide);have i:ROp.run (.load false 1) [.ptr 2 4] h=some v:=dI E t4 (by decide);obtain⟨h1,F⟩:∃h1:H,h1=⟨h.t.put h.next (some (.cells 6 (cM (flO (flw p code name n)) 0 .e) none false)),Nat.succ h.next⟩:=⟨_,rfl⟩
 have Q:∀j,h1.blk j=if j=h.next then some (.cells 6 (cM (flO (flw p code name n)) 0 .e) none false)else h.blk j:=λj=>by rw [F];exact gO (by omega)
 have n1:h1.next=h.next+1:=by rw [F]
 have old:∀j,j<h.next->h1.blk j=h.blk j:=λj G=>by rw [Q,if_neg (by omega)]
 have N:jB 6 none (.sl h.next 0 1 1 true 6) h1=some (1,flO (flw p code name n)):=by
  show oif true (ob (H.rd h1 h.next 0 6) λl=>some (1,l))=_;have:H.rd h1 h.next 0 6=some (flO (flw p code name n)):=by
   show ob (ob (h1.blk h.next) _) _=_;rw [Q,if_pos rfl];rfl
  rw [this];rfl
 have S:GL 6 h1 v (flL fl):=gl.mono (by omega) λb m q lt=>old b lt;have L:=fh fl;obtain⟨A,h2,ea,J,n2,fr⟩:=S.appendG (bytes:=64) N (by decide) rfl rfl (by omega) (by show(flL fl).length+6<_;omega) (λk P=>by rw [L]at P;omega) (by decide);have Z:∀b m,v= .sl b 0 m 0 false 6->∃tr up,h1.blk b=some (.cells (m*6) tr up false):=λb m q=>by
  subst q;cases S with
  |full hb hc hn hl at_ lt=>subst hc;exact⟨_,_,hb⟩
 have B:∀j,j<h.next->(∀m tr up,h.blk j≠some (.cells (m*6) tr up false))->h2.blk j=h.blk j:=λj G q=>by
  rw [fr j (by omega) (λb m e k=>?_),old j G];subst k;obtain⟨tr,up,z⟩:=Z j m e;rw [old j G]at z;exact q _ _ _ z
 have T:h2.blk 2=some (.cells 5 tr none false):=by
  rw [B 2 c2 (λm tr up q=>?_),E];rw [E]at q;have:(5:Nat)=m*6:=by injection q with q;injection q
  omega
 have R:cellsOf A=[A]/\cQ A=true:=by
  generalize flL fl++flO (flw p code name n)=zs at J;cases J<;>exact⟨rfl,rfl⟩
 have w:=iH (j:=4) T R.1 R.2 (by decide);have g:∀j,(tr.put 4 (some A)).get j=if j=4 then some A else tr.get j:=λj=>Tr.get_put _ _ _ _ (by omega)
 have c1:CS D p (fl++[flw p code name n]) ⟨h2.t.put 2 (some (.cells 5 (tr.put 4 (some A)) none false)),h2.next⟩/\KM 0 h ⟨h2.t.put 2 (some (.cells 5 (tr.put 4 (some A)) none false)),h2.next⟩:=by
  have C:∀j,(⟨h2.t.put 2 (some (.cells 5 (tr.put 4 (some A)) none false)),h2.next⟩:H).blk j=if j=2 then some (.cells 5 (tr.put 4 (some A)) none false)else h2.blk j:=λj=>gO (by omega)
  refine⟨⟨?_,⟨V,o,?_,W⟩,⟨_,A,by rw [C,if_pos rfl],by rw [g];exact t0,by rw [g];exact M,by rw [g];exact t2,by rw [g];exact U,by rw [g];rfl,?_⟩,?_,?_⟩,KMx.k0 ⟨?_,λj es o G _ y=>?_⟩⟩
  ·rw [C,if_neg (by decide),B 0 (by omega) (λm tr up q=>by rw [c.b0]at q;cases q)]
   exact c.b0
  ·rw [C,if_neg (by decide),B 1 (by omega) (λm tr up q=>by rw [O]at q;cases q)]
   exact O
  ·rw [pO]
   show GL 6 _ A (flL fl++(flO (flw p code name n)++[]));rw [List.append_nil];refine J.mono (Nat.le_refl _) λb m q lt=>?_;rw [C,if_neg];rintro rfl;subst q;cases J with
   |full hb hc hn hl at_ lt=>
    rw [T]at hb;have:(5:Nat)=m*6:=by injection hb with hb;injection hb
    omega
  ·show 2*(fl++[flw p code name n]).length<=h2.next
   rw [List.length_append,n2,n1];simp only [List.length_singleton];omega
  ·show 2<h2.next
   omega
  ·show h.next<=h2.next
   omega
  ·rw [C,if_neg (λq=>by rw [q,E]at y;cases y),B j G (λm tr up q=>by rw [y]at q;cases q)]
   exact y
 have I:h1.blk 2=some (.cells 5 tr none false):=by rw [old 2 c2];exact E
 have r:ROp.run (.load false 1) [.ptr 2 0] h1=some (sV p.name):=dI I t0 (by decide);have s:ROp.run (.load false 1) [.ptr 2 1] h1=some (.int .i64 p.ar):=dI I M (by decide);have x:ROp.run (.load false 1) [.ptr 2 2] h1=some (.int .i64 p.cl):=dI I t2 (by decide);have u:ROp.run (.load false 1) [.ptr 2 4] h1=some v:=dI I t4 (by decide);subst F;refine dh Tryz.func50 (by decide) q50.2 rfl rfl (dl c2) ?_;refine bJ ?_;have a0:=dE (show h.next<900000000 by omega)
 repeat' (show WY _ _ _ _ _ _ _ _;first
  |refine bI (by repeat' (first|exact bR.nil|refine bR.first (l0) ?_|refine bR.snd (l0) ?_|refine bR.first (d) ?_|refine bR.snd (d) ?_|refine bR.first (f) ?_|refine bR.snd (f) ?_|refine bR.first (i) ?_|refine bR.snd (i) ?_|refine bR.first (r) ?_|refine bR.snd (r) ?_|refine bR.first (s) ?_|refine bR.snd (s) ?_|refine bR.first (x) ?_|refine bR.snd (x) ?_|refine bR.first (u) ?_|refine bR.snd (u) ?_|refine bR.two (l0) (d) ?_|refine bR.two (l0) (f) ?_|refine bR.two (l0) (i) ?_|refine bR.two (l0) (r) ?_|refine bR.two (l0) (s) ?_|refine bR.two (l0) (x) ?_|refine bR.two (l0) (u) ?_|refine bR.two (d) (l0) ?_|refine bR.two (d) (f) ?_|refine bR.two (d) (i) ?_|refine bR.two (d) (r) ?_|refine bR.two (d) (s) ?_|refine bR.two (d) (x) ?_|refine bR.two (d) (u) ?_|refine bR.two (f) (l0) ?_|refine bR.two (f) (d) ?_|refine bR.two (f) (i) ?_|refine bR.two (f) (r) ?_|refine bR.two (f) (s) ?_|refine bR.two (f) (x) ?_|refine bR.two (f) (u) ?_|refine bR.two (i) (l0) ?_|refine bR.two (i) (d) ?_|refine bR.two (i) (f) ?_|refine bR.two (i) (r) ?_|refine bR.two (i) (s) ?_|refine bR.two (i) (x) ?_|refine bR.two (i) (u) ?_|refine bR.two (r) (l0) ?_|refine bR.two (r) (d) ?_|refine bR.two (r) (f) ?_|refine bR.two (r) (i) ?_|refine bR.two (r) (s) ?_|refine bR.two (r) (x) ?_|refine bR.two (r) (u) ?_|refine bR.two (s) (l0) ?_|refine bR.two (s) (d) ?_|refine bR.two (s) (f) ?_|refine bR.two (s) (i) ?_|refine bR.two (s) (r) ?_|refine bR.two (s) (x) ?_|refine bR.two (s) (u) ?_|refine bR.two (x) (l0) ?_|refine bR.two (x) (d) ?_|refine bR.two (x) (f) ?_|refine bR.two (x) (i) ?_|refine bR.two (x) (r) ?_|refine bR.two (x) (s) ?_|refine bR.two (x) (u) ?_|refine bR.two (u) (l0) ?_|refine bR.two (u) (d) ?_|refine bR.two (u) (f) ?_|refine bR.two (u) (i) ?_|refine bR.two (u) (r) ?_|refine bR.two (u) (s) ?_|refine bR.two (u) (x) ?_|refine bR.any (λh=>rfl) ?_|refine bR.first rfl ?_)) ?_|refine bG rfl rfl rfl rfl ?_|refine aW rfl rfl (l0) rfl ?_|refine aW rfl rfl (d) rfl ?_|refine aW rfl rfl (f) rfl ?_|refine aW rfl rfl (i) rfl ?_|refine bB rfl rfl (ea) rfl ?_|refine bB rfl rfl (w) rfl ?_|refine WY.a rfl rfl rfl RA rfl ?_|fail)
 refine⟨.inl rfl,_,rfl,c1.2.le,rfl,c1.1,c1.2,by show h2.next=_;rw [n2],λj Y G y=>?_⟩;rw [gO (show 2<bZ by omega),if_neg (λq=>by
  rw [q,E]at y;have:(5:Nat)=4:=by injection y with y;injection y
  omega),B j G (λm tr up q=>by
  rw [y]at q;have:(4:Nat)=m*6:=by injection q with q;injection q
  omega)]
 exact y
section
variable [Env]
set_option linter.unusedSectionVars false
theorem vy{g:G}{h:H}{w:World}(r:WR TP g h w){k:Nat}{es:List (V×V)}{o:Bool}(p:h.blk k=some (.map es o))(i:Nat.blt h.next bZ=true){us:List Value}(s:VRs g [.map k] us):Calls Tryz.prog 103 us.toArray w λe w'=>∃g' u,e= .returned u/\VR g' (.map h.next) u/\Ext TP g h w g' ⟨h.t.put h.next (some (.map es o)),Nat.succ h.next⟩ w':=by
 cases s with
 |cons h1 t1=>
 cases t1 with
 |nil=>
 cases h1
 rename_i b o' z hg
 obtain⟨B,v,A,m,c,f,l,q3,j⟩:=r.blk k _ _ hg p;rw [hg]at f;cases f;have d:=dt w (.map m c);have a:g h.next=none:=by
  cases q:g h.next with
  |none=>rfl
  |some y=>exact absurd (r.dom _ _ q) (by omega)
 have n:h.new (.map es o)=some ⟨h.t.put h.next (some (.map es o)),Nat.succ h.next⟩:=by
  show oif (Nat.blt h.next bZ) _=_;rw [i];rfl
 have x:=Ext.new (z:=0) r (o:= .map m c) n (.inl rfl) ⟨w.heap.size,0,0,m,c,cH _ _ _,d,q3.mono (fO _ a),j⟩;refine(AnyW.maps_Clone Tryz.cloneM b m c w l).mono ?_;rintro e w' ⟨rfl,rfl⟩;exact⟨_,_,rfl,.map (cH _ _ _),x⟩
end
theorem Dj{h:H}{k:Nat}{es:List (V×V)}{o:Bool}(d:h.blk k=some (.map es o))(b:Nat.blt h.next bZ=true):CN 103 [.map k] h (.map h.next) ⟨h.t.put h.next (some (.map es o)),Nat.succ h.next⟩:=by
 refine⟨λE g w us s a=>⟨_,Tryz.func103,by decide,rfl,callsIn_wide.2 ((@vy E g h w s.wr k es o d b us a).mono ?_)⟩⟩;rintro e w' ⟨g',u,f,c,q3⟩;exact⟨E,g',u,f,c,gj.of s q3⟩
theorem f103{D:Df}{p:Pl}{fl:List Fl}{h:H}(c:CS D p fl h){k:Nat}{s:Sc}(sc:Sco h k s)(a:h.next<900000000):∃h',CN 103 [.map k] h (.map h.next) h'/\CS D p fl h'/\Sco h' h.next s/\KM 0 h h'/\h'.next=h.next+1:=by
 obtain⟨o,e⟩:=sc.out;obtain⟨d,b,q3⟩:=c.newmap a s o sc.nd;exact⟨_,Dj e (dE a),d,b,q3,rfl⟩
theorem zp{tr:Tr V}{n:Nat}:∀(l:List V) (off:Nat),off+l.length<=n->(∀j v,l[j]? =some v->tr.get (off+j)=some v)->lH tr n l.length off=some l
 |[],off,_,_=>rfl
 |v ::l,off,h,k=>by
  rw [List.length_cons]at h;show oif (Nat.blt off n) (ob (tr.get off) λv=>ob (lH tr n l.length (Nat.succ off)) λr=>some (v ::r))=_;rw [ltb (by omega),show tr.get off=some v from k 0 v rfl,zp l (off+1) (by omega) λj v e=>by
   rw [show off+1+j=off+(j+1) by omega];exact k (j+1) v (by simpa using e)]
  rfl
theorem CS.slot{D:Df}{p:Pl}{fl:List Fl}{h:H}(c:CS D p fl h)(q:h.next<900000000)(zero xs:List V)(m:xs.length=zero.length)(hz:zero.length<=1000)(ho:cU xs=true):
  ∃h2 tr,EOp.run (.store zero.length) [.ptr h.next 0,.agg xs] ⟨h.t.put h.next (some (.cells zero.length (cM zero 0 .e) none false)),Nat.succ h.next⟩=some (cT,h2)/\CS D p fl h2/\KM 0 h h2/\h2.next=h.next+1/\h2.blk h.next=some (.cells zero.length tr none false)/\(∀j v,xs[j]? =some v->tr.get j=some v)/\∀j,j<h.next->h2.blk j=h.blk j:=by
 have b:900000002<bZ:=by unfold bZ;omega
 have d:∀j,(⟨h.t.put h.next (some (.cells zero.length (cM zero 0 .e) none false)),Nat.succ h.next⟩:H).blk j=if j=h.next then some (.cells zero.length (cM zero 0 .e) none false)else h.blk j:=λj=>gO (by omega)
 obtain⟨h2,l,i,f,tr,k,g⟩:=mw (id:=h.next) (n:=zero.length) (by omega) (by omega) xs 0 ⟨h.t.put h.next (some (.cells zero.length (cM zero 0 .e) none false)),Nat.succ h.next⟩ _ (by rw [d,if_pos rfl]) ho (by omega);have old:∀j,j<h.next->h2.blk j=h.blk j:=λj a=>by rw [f j (by omega),d,if_neg (by omega)]
 have nx:h2.next=h.next+1:=i
 refine⟨h2,tr,?_,c.mono (by omega) λj a _=>old j a,KMx.k0 ⟨by omega,λj es o a _ e=>by rw [old j a];exact e⟩,nx,k,λj v e=>?_,old⟩
 ·show oif (Nat.beq (cD xs) zero.length) (ob (H.wr h.next xs 0 _) λh=>some (cT,h))=_
  rw [@cq noE,m,Nat.beq_refl,l];rfl
 ·have a:=(List.getElem?_eq_some_iff.1 e).1
  rw [g,if_pos (by omega),Nat.sub_zero];exact e
theorem ED{h:H}{id n:Nat}{tr:Tr V}{up:Option (Nat×Nat)}{ch:Bool}{xs:List V}(a:h.blk id=some (.cells n tr up ch))(b:xs.length=n)(c:∀j v,xs[j]? =some v->tr.get j=some v):ROp.run (.load true n) [.ptr id 0] h=some (.agg xs):=by
 show ob (ob (ob (h.blk id) _) _) _=_;rw [a];show ob (lH tr n n 0) _=_;have:=zp (tr:=tr) (n:=n) xs 0 (by omega) λj v e=>by rw [Nat.zero_add];exact c j v e
 rw [b]at this;rw [this];rfl
end
section
noncomputable section
def je(g:Sg)(s:Sc):Sc:=if(rN g && !eqI g.type 4)&&eqI g.val.kind 3 then nJ s g.val.name else s
def iT:Nat->Ex->Sc->Sc
 |0,_,s=>s
 |n+1,x,s=>if eqI x.kind 3 then nJ s x.name else if eqI x.kind 5||eqI x.kind 7 then cB (λi s=>iT n (cE x.items i) s) s x.items.length else if eqI x.kind 8 then cB (λi s=>je (cG x.segs i) s) s x.segs.length else s
def xg(p:Pl)(x:Ex)(s:Sc)(fl:List Fl):List Fl:=if eqI (i5 s x.name) 0 then fl++[flw p 7 x.name 0]else fl
end
structure Gf(D:Df)(p:Pl)(fl:List Fl)(h0 h:H)(n:Nat):Prop where
 cs:CS D p fl h
 km:KM 0 h0 h
 nx:h.next<=h0.next+n
structure Gs(D:Df)(p:Pl)(fl:List Fl)(k:Nat)(s:Sc)(h0 h:H)(n:Nat):Prop where
 cs:CS D p fl h
 so:Sco h k s
 km:KM k h0 h
 nx:h.next<=h0.next+n
section
variable {D:Df} {p:Pl} {fl fl':List Fl} {k:Nat} {s s':Sc} {a b c:H} {n m:Nat}
theorem Gf.refl(x:CS D p fl a):Gf D p fl a a 0:=⟨x,.refl a,Nat.le_refl _⟩
theorem Gf.trans(x:Gf D p fl a b n)(y:Gf D p fl' b c m):Gf D p fl' a c (n+m):=⟨y.cs,x.km.trans y.km,by have:=x.nx;have:=y.nx;omega⟩
theorem Gf.up(x:Gf D p fl a b n)(h:n<=m):Gf D p fl a b m:=⟨x.cs,x.km,Nat.le_trans x.nx (Nat.add_le_add_left h _)⟩
theorem Gf.eq(x:Gf D p fl a b n)(e:fl'=fl):Gf D p fl' a b n:=e▸x
theorem Gs.refl(x:CS D p fl a)(y:Sco a k s):Gs D p fl k s a a 0:=⟨x,y,.refl a,Nat.le_refl _⟩
theorem Gs.trans(x:Gs D p fl k s a b n)(y:Gs D p fl' k s' b c m):Gs D p fl' k s' a c (n+m):=⟨y.cs,y.so,x.km.trans y.km,by have:=x.nx;have:=y.nx;omega⟩
theorem Gs.up(x:Gs D p fl k s a b n)(h:n<=m):Gs D p fl k s a b m:=⟨x.cs,x.so,x.km,Nat.le_trans x.nx (Nat.add_le_add_left h _)⟩
theorem Gs.eq(x:Gs D p fl k s a b n)(e1:fl'=fl)(e2:s'=s):Gs D p fl' k s' a b n:=e1▸e2▸x
theorem Gf.gs(x:Gf D p fl' a b n)(y:CS D p fl a)(z:Sco a k s):Gs D p fl' k s a b n:=⟨x.cs,z.km0 x.km,x.km.to y.b0 z.hi,x.nx⟩
end
section
variable {D:Df} {p:Pl} {fl:List Fl} {k:Nat} {sc:Sc} {h:H}
theorem f102(c:CS D p fl h)(so:Sco h k sc)(b:h.next+2<300000000)(x:Ex):∃h',CN 102 [.ptr 2 0,.agg (exO x),.map k] h (.tup []) h'/\Gf D p (xg p x sc fl) h h' 2:=by
 have lk:=so.look x.name;obtain⟨h1,c1,f,d,q3,_⟩:=f50 c b 7 0 x.name;have a:Gf D p (fl++[flw p 7 x.name 0]) h h1 2:=⟨f,d,by omega⟩
 have g0:Gf D p fl h h 2:=(Gf.refl c).up (by omega);refine dh Tryz.func102 (by decide) LN.2 rfl rfl (dl c.le) ?_
 repeat' (first
  |(refine WLg.mk ?_;first
  |refine ac ?_|refine ap rfl rfl lk rfl ?_|refine au ?_|refine aE ?_|refine aw c1 ?_)|apply ab|refine aj rfl ?_|apply ae|apply aa|apply ak|refine ah rfl (λe=>?_) (λe=>?_)|apply thN|fail)
 all_goals first
  |exact⟨.inl rfl,_,rfl,a.km.le,rfl,a.eq (by simp [xg, *])⟩|exact⟨.inl rfl,_,rfl,g0.km.le,rfl,g0.eq (by simp [xg, *])⟩
noncomputable section
def fr101(x:Ex)(k i:Nat):AL:=[(1,.map k),(21,.lst x.items.length 11 (exL x.items)),(22,.int .i64 (Int.ofNat x.items.length)),(23,.int .i64 (Int.ofNat i))]
def fr101g(l:List V)(n k i:Nat):AL:=[(1,.map k),(34,.lst n 27 l),(35,.int .i64 (Int.ofNat n)),(36,.int .i64 (Int.ofNat i))]
end
def BD(t:Nat):Prop:=∀x,bS (exO x)<t->∀{D:Df} {p:Pl} {fl:List Fl} {k:Nat} {sc:Sc} {h:H},CS D p fl h->Sco h k sc->h.next<300000000->∃h',CN 101 [.agg (exO x),.map k] h (.tup []) h'/\Gs D p fl k (iT t x sc) h h' 0
set_option maxHeartbeats 6400000 in
theorem Do{t:Nat}(I:t<=6000000)(B:BD t):BD (t+1):=by
 intro x M D p fl k sc h c so K;have E:=dZ x;have np:=dl c.le;have L:=dT x.items;have G:=jW x.segs;have lk:=so.look x.name;obtain⟨h1,j,m,g,q3,A⟩:=c.bump so (by omega) x.name;have o:Gs D p fl k (nJ sc x.name) h h1 0:=⟨m,g,q3,by omega⟩
 have g0:=Gs.refl c so;refine dh Tryz.func101 (by decide) J1.2 rfl rfl np ?_
 repeat' (first
  |(refine WLg.mk ?_;first
  |refine ac ?_|refine ap rfl rfl lk rfl ?_|refine au ?_|refine aE ?_|refine aK rfl rfl j rfl ?_)|apply ab|refine aj rfl ?_|apply ae|apply aa|apply ai|apply ak|refine ah rfl (λa=>?_) (λa=>Nf a)|refine ah rfl (λa=>?_) (λa=>?_)|apply thN|fail)
 ·exact⟨.inl rfl,_,rfl,o.km.le,rfl,o.eq rfl (by simp [iT, *])⟩
 iterate 2
  ·refine az (cA (l:=fr101 x k 0) KH) ?_
   refine aA x.items.length (λi l h1=>l=fr101 x k i/\Gs D p fl k (cB (λi s=>iT t (cE x.items i) s) sc i) h h1 0) ?_ (i:=0) (Nat.zero_le _) ⟨rfl,g0⟩;clear j m g q3 A o lk;rintro i _ n hi ⟨rfl,b⟩;have hi2:i<9223372036854775807:=by omega
   have u:=b.nx;cases q:ltI (Int.ofNat i) (Int.ofNat x.items.length)with
   |false=>
    have f:i=x.items.length:=by have:=cC q;omega
    repeat' (first
     |(refine WLg.mk ?_;first
     |refine ac ?_)|apply ab|refine aj rfl ?_|apply ae|apply aa|refine ah rfl (λa=>Nt a) (λa=>?_)|apply ax|apply thN|apply thE|apply onE|fail)
    exact⟨.inl rfl,_,rfl,b.km.le,rfl,(f▸b).eq rfl (by simp [iT, *])⟩
   |true=>
    have d:=bX q;have J:=tJ q;have e:n.next<900000000:=by omega
    have r:∀v,v∈exO (cE x.items i)->bY v:=λv y=>(dQ _ v y).x;obtain⟨C,F,w⟩:=B (cE x.items i) (by omega) b.cs b.so (by omega)
    repeat' (first
     |(refine WLg.mk ?_;first
     |refine ac ?_|refine av rfl rfl (ce Hy) rfl ?_|refine ap rfl rfl (show ROp.run (.load true 11) [.eptr (exO (cE x.items i)) 0] _=some (.agg (exO (cE x.items i)))from rfl) rfl ?_|refine ap rfl rfl (dF Hy) rfl ?_|refine aJ rfl rfl (dE e) rfl rfl rfl rfl rfl rfl rfl rfl r rfl rfl ?_|refine aw F ?_)|apply ab|refine aj rfl ?_|apply ae|apply aa|apply ai|apply ak|refine ah rfl (λa=>?_) (λa=>Nf a)|apply thN|fail)
    exact .norm ⟨_,_,cA KH,d,rfl,b.trans w⟩
 ·refine az (cA (l:=fr101g (sgL x.segs) x.segs.length k 0) KH) ?_
  refine aA x.segs.length (λi l h1=>l=fr101g (sgL x.segs) x.segs.length k i/\Gs D p fl k (cB (λi s=>je (cG x.segs i) s) sc i) h h1 0) ?_ (i:=0) (Nat.zero_le _) ⟨rfl,g0⟩;clear j m g q3 A o lk;rintro i _ n hi ⟨rfl,b⟩;have hi2:i<9223372036854775807:=by omega
  have u:=b.nx;cases q:ltI (Int.ofNat i) (Int.ofNat x.segs.length)with
  |false=>
   have f:i=x.segs.length:=by have:=cC q;omega
   repeat' (first
    |(refine WLg.mk ?_;first
    |refine ac ?_)|apply ab|refine aj rfl ?_|apply ae|apply aa|refine ah rfl (λa=>Nt a) (λa=>?_)|apply ax|apply thN|apply thE|apply onE|fail)
   exact⟨.inl rfl,_,rfl,b.km.le,rfl,(f▸b).eq rfl (by simp [iT, *])⟩
  |true=>
   have d:=bX q;have e:n.next<900000000:=by omega
   have r:∀v,v∈sgO (cG x.segs i)->bY v:=λv y=>(fH _ v y).x;have z:=f36 (cG x.segs i);have lk:=b.so.look (cG x.segs i).val.name;obtain⟨C,j,m,g,q3,A⟩:=b.cs.bump b.so (by omega) (cG x.segs i).val.name;have w:Gs D p fl k (nJ _ (cG x.segs i).val.name) n C 0:=⟨m,g,q3,by omega⟩
   repeat' (first
    |(refine WLg.mk ?_;first
    |refine ac ?_|refine av rfl rfl (ce Hy) rfl ?_|refine ap rfl rfl (show ROp.run (.load true 27) [.eptr (sgO (cG x.segs i)) 0] _=some (.agg (sgO (cG x.segs i)))from rfl) rfl ?_|refine ap rfl rfl lk rfl ?_|refine au ?_|refine ap rfl rfl (fq Hy) rfl ?_|refine aJ rfl rfl (dE e) rfl rfl rfl rfl rfl rfl rfl rfl r rfl rfl ?_|refine ay z ?_|refine aK rfl rfl j rfl ?_)|apply ab|refine aj rfl ?_|refine aB rfl rfl ?_|refine aC rfl (λa=>?_) (λa=>?_)|apply ae|apply aa|apply ai|apply ak|refine aD rfl ?_|refine ah rfl (λa=>?_) (λa=>Nf a)|refine ah rfl (λa=>?_) (λa=>?_)|apply thN|fail)
   all_goals first
    |exact .norm ⟨_,_,cA KH,d,rfl,(b.trans w).eq rfl (by simp [cB,je, *])⟩|exact .norm ⟨_,_,cA KH,d,rfl,b.eq rfl (by simp [cB,je, *])⟩
 ·exact⟨.inl rfl,_,rfl,g0.km.le,rfl,g0.eq rfl (by simp [iT, *])⟩
theorem p9:∀t,t<=6000001->BD t
 |0,_=>λx hx=>by omega
 |t+1,hs=>Do (by omega) (p9 t (by omega))
end
end
section
noncomputable section
def z27:List V:= .int .i64 0 :: .str 0 0 ::(AN++(AN++[.bool false,.bool false,.bool false]))
def eB:ByteArray:=⟨#[]⟩
def bsO(g:Sg):List V:=[.int .i64 8,.int .i64 0,.str 0 0,.str 0 0,.nils,.lst 1 27 (sgO g),.nils,.nils,.nils,.nils,.bool false]
def rG(p:Pl)(g:Sg)(last:Bool)(st:Sc×List Fl):Sc×List Fl:=
 (je g st.1,if(g.sized&&(!eqI g.size.kind 1&&(!eqI g.size.kind 3||eqI (i5 st.1 g.size.name) 0)))||(!g.sized&&(!last&&(eqI g.type 2||eqI g.type 3)))
  then(if rN g then st.2 else st.2++[flw p 9 eB 0])++[flw p 11 eB 0]else if rN g then st.2 else st.2++[flw p 9 eB 0])
def rk(l:List Sg)(i:Nat):Bool:=eqI (Int.ofNat i) (dA .i64 (Int.sub (Int.ofNat l.length) (Int.ofNat 1)))
def gI(p:Pl):Nat->Ex->Sc×List Fl->Sc×List Fl
 |0,_,st=>st
 |n+1,x,st=>if eqI x.kind 5||eqI x.kind 7 then cB (λi st=>gI p n (cE x.items i) st) st x.items.length
  else if eqI x.kind 8 then cB (λi st=>rG p (cG x.segs i) (rk x.segs i) st) st x.segs.length
  else(iT B6 x st.1,if zy x then st.2 else st.2++[flw p 9 eB 0])
def gD(p:Pl):Nat->Ex->Sc->List Fl->List Fl
 |0,_,_,fl=>fl
 |n+1,x,s,fl=>if eqI x.kind 3 then xg p x s fl else if eqI x.kind 4 then fl++[flw p 8 eB 0]else if CR x then cB (λi fl=>gD p n (cE x.items i) s fl) fl x.items.length else fl++[flw p 10 eB 0]
end
section
variable {D:Df} {p:Pl} {fl:List Fl} {k:Nat} {sc:Sc} {h:H}
theorem f50g(c:CS D p fl h)(a:h.next+2<300000000)(code:Int):∃h',CN 50 [.ptr 2 0,.int .i64 code,.str 0 0,.int .i64 0] h (.tup []) h'/\Gf D p (fl++[flw p code eB 0]) h h' 2:=by
 obtain⟨h1,c1,d,b,q3,_⟩:=f50 c a code 0 eB;exact⟨h1,c1,d,b,by omega⟩
set_option maxHeartbeats 6400000 in
theorem f101s(c:CS D p fl h)(so:Sco h k sc)(w:h.next<300000000)(g:Sg):∃h',CN 101 [.agg (bsO g),.map k] h (.tup []) h'/\Gs D p fl k (je g sc) h h' 0:=by
 have g0:=Gs.refl c so;have px:∀v,v∈bsO g->bY v:=cg (.flat rfl) (cg (.flat rfl) (cg (.flat rfl) (cg (.flat rfl) (cg (.flat rfl) (cg (.lst λc hc=>(fH _ c hc).x) (cg (.flat rfl) (cg (.flat rfl) (cg (.flat rfl) (cg (.flat rfl) (cg (.flat rfl) px0))))))))));refine dh Tryz.func101 (by decide) J1.2 rfl rfl (dl c.le) ?_
 repeat' (first
  |(refine WLg.mk ?_;first
  |refine ac ?_|refine au ?_|refine aV rfl rfl rfl rfl px rfl ?_)|apply ab|refine aj rfl ?_|apply ae|apply aa|apply ai|refine aF rfl ?_|refine aD rfl ?_|apply thN|fail)
 refine az (cA (l:=fr101g (sgO g) 1 k 0) KH) ?_;refine aA 1 (λi l h1=>l=fr101g (sgO g) 1 k i/\Gs D p fl k (cB (λ_ s=>je g s) sc i) h h1 0) ?_ (i:=0) (Nat.zero_le _) ⟨rfl,g0⟩;rintro i _ f hi ⟨rfl,a⟩;have n:=a.nx;cases i with
 |succ i=>
  obtain rfl:i=0:=by omega
  repeat' (first
   |(refine WLg.mk ?_;first
   |refine ac ?_)|apply ab|refine aj rfl ?_|apply ae|apply aa|refine aD rfl ?_|apply ax|apply thN|apply thE|apply onE|fail)
  exact⟨.inl rfl,_,rfl,a.km.le,rfl,a⟩
 |zero=>
  have b:f.next<900000000:=by omega
  have m:∀v,v∈sgO g->bY v:=λv t=>(fH _ v t).x;have e:=f36 g;have lk:=a.so.look g.val.name;obtain⟨o,j,u,r,q3,y⟩:=a.cs.bump a.so (by omega) g.val.name;have q:Gs D p fl k (nJ _ g.val.name) f o 0:=⟨u,r,q3,by omega⟩
  repeat' (first
   |(refine WLg.mk ?_;first
   |refine ac ?_|refine ap rfl rfl (show ROp.run (.load true 27) [.eptr (sgO g) 0] _=some (.agg (sgO g))from rfl) rfl ?_|refine ap rfl rfl lk rfl ?_|refine au ?_|refine aJ rfl rfl (dE b) rfl rfl rfl rfl rfl rfl rfl rfl m rfl rfl ?_|refine ay e ?_|refine aK rfl rfl j rfl ?_)|apply ab|refine aj rfl ?_|refine aB rfl rfl ?_|refine aC rfl (λd=>?_) (λd=>?_)|apply ae|apply aa|apply ai|apply ak|refine aF rfl ?_|refine aD rfl ?_|refine ah rfl (λd=>?_) (λd=>?_)|apply thN|fail)
  all_goals first
   |exact .norm ⟨_,_,cA KH,Nat.zero_lt_one,rfl,(a.trans q).eq rfl (by simp [cB,je, *])⟩|exact .norm ⟨_,_,cA KH,Nat.zero_lt_one,rfl,a.eq rfl (by simp [cB,je, *])⟩
set_option maxHeartbeats 6400000 in
theorem f100(c:CS D p fl h)(so:Sco h k sc)(I:h.next+4<300000000)(g:Sg)(last:Bool):∃h',CN 100 [.ptr 2 0,.agg (sgO g),.map k,.bool last] h (.tup []) h'/\Gs D p (rG p g last (sc,fl)).2 k (rG p g last (sc,fl)).1 h h' 4:=by
 have g0:Gf D p fl h h 0:= .refl c;obtain⟨J,F,b⟩:=f50g c (by omega) 9;have u:=b.nx;have a:=so.km0 b.km;obtain⟨K,E,f⟩:=f50g c (by omega) 11;have z:=f.nx;obtain⟨hc,A,e⟩:=f50g b.cs (by omega) 11;have nc:=e.nx;have lk:=so.look g.size.name;have j:=a.look g.size.name;obtain⟨h1,b1,m⟩:=f101s c so (by omega) g;obtain⟨h2,b2,l⟩:=f101s b.cs a (by omega) g;obtain⟨y,b3,n⟩:=f101s f.cs (so.km0 f.km) (by omega) g;obtain⟨G,C,o⟩:=f101s e.cs (a.km0 e.km) (by omega) g;have q:Gs D p fl k (je g sc) h h1 4:=m.up (by omega);have s:Gs D p (fl++[flw p 9 eB 0]) k (je g sc) h h2 4:=((b.gs c so).trans l).up (by omega);have r:Gs D p (fl++[flw p 11 eB 0]) k (je g sc) h y 4:=((f.gs c so).trans n).up (by omega);have t:Gs D p ((fl++[flw p 9 eB 0])++[flw p 11 eB 0]) k (je g sc) h G 4:=(((b.trans e).gs c so).trans o).up (by omega);have w:∀v,v∈sgO g->bY v:=λv B=>(fH _ v B).x;have i:=f36 g;clear g0 b f e u z nc a m l n o;refine dh Tryz.func100 (by decide) LO.2 rfl rfl (dl c.le) ?_
 repeat' (first
  |(refine WLg.mk ?_;first
  |refine ac ?_|refine ap rfl rfl (show ROp.run (.load true 27) [.eptr (sgO g) 0] _=some (.agg (sgO g))from rfl) rfl ?_|refine ap rfl rfl lk rfl ?_|refine ap rfl rfl j rfl ?_|refine au ?_|refine aX (cs:=sgO g) rfl rfl rfl rfl rfl rfl w rfl ?_|refine aE ?_|refine ay i ?_|refine aw F ?_|refine aw E ?_|refine aw A ?_|refine aw b1 ?_|refine aw b2 ?_|refine aw b3 ?_|refine aw C ?_)|apply ab|refine aj rfl ?_|refine aB rfl rfl ?_|refine aC rfl (λd=>?_) (λd=>?_)|apply ae|apply aa|apply ai|apply ak|refine aF rfl ?_|refine aD rfl ?_|refine ah rfl (λd=>?_) (λd=>Nf d)|refine ah rfl (λd=>?_) (λd=>?_)|apply thN|fail)
 all_goals first
  |exact⟨.inl rfl,_,rfl,q.km.le,rfl,q.eq (by(try simp only [Bool.not_eq_true',Bool.not_eq_false']at*)<;>first|(simp [rG, *];done)|(simp_all [];done)) rfl⟩|exact⟨.inl rfl,_,rfl,s.km.le,rfl,s.eq (by(try simp only [Bool.not_eq_true',Bool.not_eq_false']at*)<;>first|(simp [rG, *];done)|(simp_all [];done)) rfl⟩|exact⟨.inl rfl,_,rfl,r.km.le,rfl,r.eq (by(try simp only [Bool.not_eq_true',Bool.not_eq_false']at*)<;>first|(simp [rG, *];done)|(simp_all [];done)) rfl⟩|exact⟨.inl rfl,_,rfl,t.km.le,rfl,t.eq (by(try simp only [Bool.not_eq_true',Bool.not_eq_false']at*)<;>first|(simp [rG, *];done)|(simp_all [];done)) rfl⟩
noncomputable section
def fr68(x:Ex)(k i:Nat):AL:=[(0,.ptr 2 0),(2,.map k),(24,.lst x.items.length 11 (exL x.items)),(25,.int .i64 (Int.ofNat x.items.length)),(26,.int .i64 (Int.ofNat i))]
def fr68g(x:Ex)(k i:Nat):AL:=[(0,.ptr 2 0),(2,.map k),(4,.eptr (exO x) 0),(38,.lst x.segs.length 27 (sgL x.segs)),(39,.int .i64 (Int.ofNat x.segs.length)),(40,.int .i64 (Int.ofNat i))]
end
def PT(t:Nat):Prop:=∀x,bS (exO x)<t->∀{D:Df} {p:Pl} {fl:List Fl} {k:Nat} {sc:Sc} {h:H},CS D p fl h->Sco h k sc->h.next+8*bS (exO x)<300000000->∃h',CN 68 [.ptr 2 0,.agg (exO x),.map k] h (.tup []) h'/\Gs D p (gI p t x (sc,fl)).2 k (gI p t x (sc,fl)).1 h h' (8*bS (exO x))
set_option maxHeartbeats 4000000 in
theorem Cw{t:Nat}(T:t<=6000000)(B:PT t):PT (t+1):=by
 intro x hx D p fl k sc h c so Y;have J:=dZ x;have np:=dl c.le;have Z:=dT x.items;have P:=jW x.segs;have g0:=Gs.refl c so;obtain⟨f,E,a⟩:=f50g c (by omega) 9;have W:=a.nx;obtain⟨h1,b1,z⟩:=p9 B6 kY x (mr (by omega)) c so (by omega);obtain⟨h2,b2,w⟩:=p9 B6 kY x (mr (by omega)) a.cs (so.km0 a.km) (by omega);have s:Gs D p fl k (iT B6 x sc) h h1 (8*bS (exO x)):=z.up (by omega);have u:Gs D p (fl++[flw p 9 eB 0]) k (iT B6 x sc) h h2 (8*bS (exO x)):=((a.gs c so).trans w).up (by omega);have g:eqI x.kind 5=false->eqI x.kind 7=false->eqI x.kind 8=false->CP 17 [.agg (exO x)] (.bool (zy x)):=λO N M=>f17 O N M;refine dh Tryz.func68 (by decide) q68.2 rfl rfl np ?_
 repeat' (first
  |(refine WLg.mk ?_;first
  |refine ac ?_|refine ap rfl rfl (show ROp.run (.load true 11) [.eptr (exO x) 0] _=some (.agg (exO x))from rfl) rfl ?_|refine au ?_|refine aE ?_|refine aL rfl rfl rfl (g (by with_reducible assumption) (by with_reducible assumption) (by with_reducible assumption)) rfl ?_|refine aw E ?_|refine aw b1 ?_|refine aw b2 ?_)|apply ab|refine aj rfl ?_|apply ae|apply aa|apply ai|apply ak|refine ah rfl (λb=>?_) (λb=>Nf b)|refine ah rfl (λb=>?_) (λb=>?_)|apply thN|fail)
 iterate 2
  ·refine az (cA (l:=fr68 x k 0) KH) ?_
   refine aA x.items.length (λi l h1=>l=fr68 x k i/\Gs D p (cB (λi st=>gI p t (cE x.items i) st) (sc,fl) i).2 k (cB (λi st=>gI p t (cE x.items i) st) (sc,fl) i).1 h h1 (8*bS (exL (x.items.take i)))) ?_ (i:=0) (Nat.zero_le _) ⟨rfl,g0.up (Nat.zero_le _)⟩;clear E a b1 z b2 w s u g;rintro i _ f hi ⟨rfl,a⟩;have hi2:i<9223372036854775807:=by omega
   have y:=a.nx;cases q:ltI (Int.ofNat i) (Int.ofNat x.items.length)with
   |false=>
    have j:i=x.items.length:=by have:=cC q;omega
    repeat' (first
     |(refine WLg.mk ?_;first
     |refine ac ?_)|apply ab|refine aj rfl ?_|apply ae|apply aa|refine ah rfl (λb=>Nt b) (λb=>?_)|apply ax|apply thN|apply thE|apply onE|fail)
    subst j;rw [List.take_length]at a;exact⟨.inl rfl,_,rfl,a.km.le,rfl,(a.up (by omega)).eq (by(try simp only [Bool.not_eq_true',Bool.not_eq_false']at*)<;>first|(simp [gI, *];done)|(simp_all [gI];done)) (by(try simp only [Bool.not_eq_true',Bool.not_eq_false']at*)<;>first|(simp [gI, *];done)|(simp_all [gI];done))⟩
   |true=>
    have d:=bX q;have r:=ja d;have F:=gK x.items (i+1);have e:f.next<900000000:=by omega
    have I:∀v,v∈exO (cE x.items i)->bY v:=λv m=>(dQ _ v m).x;obtain⟨R,A,C⟩:=B (cE x.items i) (by omega) a.cs a.so (by omega)
    repeat' (first
     |(refine WLg.mk ?_;first
     |refine ac ?_|refine av rfl rfl (ce Hy) rfl ?_|refine ap rfl rfl (show ROp.run (.load true 11) [.eptr (exO (cE x.items i)) 0] _=some (.agg (exO (cE x.items i)))from rfl) rfl ?_|refine ap rfl rfl (dF Hy) rfl ?_|refine aJ rfl rfl (dE e) rfl rfl rfl rfl rfl rfl rfl rfl I rfl rfl ?_|refine aw A ?_)|apply ab|refine aj rfl ?_|apply ae|apply aa|apply ai|apply ak|refine ah rfl (λb=>?_) (λb=>Nf b)|apply thN|fail)
    exact .norm ⟨_,_,cA KH,d,rfl,(a.trans C).up (by omega)⟩
 ·refine az (cA (l:=fr68g x k 0) KH) ?_
  refine aA x.segs.length (λi l h1=>l=fr68g x k i/\Gs D p (cB (λi st=>rG p (cG x.segs i) (rk x.segs i) st) (sc,fl) i).2 k (cB (λi st=>rG p (cG x.segs i) (rk x.segs i) st) (sc,fl) i).1 h h1 (8*bS (sgL (x.segs.take i)))) ?_ (i:=0) (Nat.zero_le _) ⟨rfl,g0.up (Nat.zero_le _)⟩;clear E a b1 z b2 w s u g;rintro i _ f hi ⟨rfl,a⟩;have hi2:i<9223372036854775807:=by omega
  have y:=a.nx;cases q:ltI (Int.ofNat i) (Int.ofNat x.segs.length)with
  |false=>
   have j:i=x.segs.length:=by have:=cC q;omega
   repeat' (first
    |(refine WLg.mk ?_;first
    |refine ac ?_)|apply ab|refine aj rfl ?_|apply ae|apply aa|refine ah rfl (λb=>Nt b) (λb=>?_)|apply ax|apply thN|apply thE|apply onE|fail)
   subst j;rw [List.take_length]at a;exact⟨.inl rfl,_,rfl,a.km.le,rfl,(a.up (by omega)).eq (by(try simp only [Bool.not_eq_true',Bool.not_eq_false']at*)<;>first|(simp [gI, *];done)|(simp_all [gI];done)) (by(try simp only [Bool.not_eq_true',Bool.not_eq_false']at*)<;>first|(simp [gI, *];done)|(simp_all [gI];done))⟩
  |true=>
   have d:=bX q;have r:=sI d;have F:=pe x.segs (i+1);have K:=lR (cG x.segs i);have e:f.next<900000000:=by omega
   have I:∀v,v∈sgO (cG x.segs i)->bY v:=λv m=>(fH _ v m).x;obtain⟨m,tr,V,o,n,U,Q,S,_⟩:=a.cs.slot e z27 (sgO (cG x.segs i)) rfl (by decide) rfl;have G:ROp.run (.load true 27) [.ptr f.next 0] m=some (.agg (sgO (cG x.segs i))):=ED Q rfl S;have L:Gf D p _ f m 1:=⟨o,n,by omega⟩
   obtain⟨R,A,C⟩:=f100 o (a.so.km0 n) (by omega) (cG x.segs i) (rk x.segs i)
   repeat' (first
    |(refine WLg.mk ?_;first
    |refine ac ?_|refine av rfl rfl (ce Hy) rfl ?_|refine ap rfl rfl G rfl ?_|refine au ?_|refine ap rfl rfl (fq Hy) rfl ?_|refine aI (t:=f.t) (k:=f.next) rfl rfl rfl (dE e) rfl ?_|refine aw A ?_|refine aK rfl rfl V rfl ?_)|apply ab|refine aj rfl ?_|apply ae|apply aa|apply ai|apply ak|refine ah rfl (λb=>?_) (λb=>Nf b)|apply thN|fail)
   exact .norm ⟨_,_,cA KH,d,rfl,((a.trans (L.gs a.cs a.so)).trans C).up (by omega)⟩
 all_goals first
  |exact⟨.inl rfl,_,rfl,s.km.le,rfl,s.eq (by(try simp only [Bool.not_eq_false']at*)<;>first|(simp [gI, *];done)|(simp_all [gI];done)) (by(try simp only [Bool.not_eq_false']at*)<;>first|(simp [gI, *];done)|(simp_all [gI];done))⟩|exact⟨.inl rfl,_,rfl,u.km.le,rfl,u.eq (by(try simp only [Bool.not_eq_true']at*)<;>first|(simp [gI, *];done)|(simp_all [gI];done)) (by(try simp only [Bool.not_eq_true']at*)<;>first|(simp [gI, *];done)|(simp_all [gI];done))⟩
theorem vU:∀t,t<=6000001->PT t
 |0,_=>λx hx=>by omega
 |t+1,hs=>Cw (by omega) (vU t (by omega))
noncomputable section
def fr69(x:Ex)(k i:Nat):AL:=[(0,.ptr 2 0),(2,.map k),(9,.lst x.items.length 11 (exL x.items)),(10,.int .i64 (Int.ofNat x.items.length)),(11,.int .i64 (Int.ofNat i))]
end
def GT(t:Nat):Prop:=∀x,bS (exO x)<t->∀{D:Df} {p:Pl} {fl:List Fl} {k:Nat} {sc:Sc} {h:H},CS D p fl h->Sco h k sc->h.next+8*bS (exO x)<300000000->∃h',CN 69 [.ptr 2 0,.agg (exO x),.map k] h (.tup []) h'/\Gf D p (gD p t x sc fl) h h' (8*bS (exO x))
set_option maxHeartbeats 6400000 in
theorem zU{t:Nat}(I:t<=6000000)(B:GT t):GT (t+1):=by
 intro x O D p fl k sc h c so L;have A:=dZ x;have np:=dl c.le;have N:=dT x.items;have g0:=Gf.refl c;obtain⟨h1,c1,w⟩:=f102 c so (by omega) x;obtain⟨h2,c2,s⟩:=f50g c (by omega) 8;obtain⟨K,c3,r⟩:=f50g c (by omega) 10;have g:=w.up (m:=8*bS (exO x)) (by omega);have n:=s.up (m:=8*bS (exO x)) (by omega);have j:=r.up (m:=8*bS (exO x)) (by omega);have e:=f37 x (by omega);refine dh Tryz.func69 (by decide) q69.2 rfl rfl np ?_
 repeat' (first
  |(refine WLg.mk ?_;first
  |refine ac ?_|refine ap rfl rfl (show ROp.run (.load true 11) [.eptr (exO x) 0] _=some (.agg (exO x))from rfl) rfl ?_|refine au ?_|refine aE ?_|refine ay e ?_|refine aw c1 ?_|refine aw c2 ?_|refine aw c3 ?_)|apply ab|refine aj rfl ?_|apply ae|apply aa|apply ai|refine ah rfl (λa=>?_) (λa=>?_)|apply thN|fail)
 ·exact⟨.inl rfl,_,rfl,g.km.le,rfl,g.eq (by(try simp only [Bool.not_eq_true',Bool.not_eq_false']at*)<;>first|(simp [gD, *];done)|(simp_all [gD];done))⟩
 ·exact⟨.inl rfl,_,rfl,n.km.le,rfl,n.eq (by(try simp only [Bool.not_eq_true',Bool.not_eq_false']at*)<;>first|(simp [gD, *];done)|(simp_all [gD];done))⟩
 ·exact⟨.inl rfl,_,rfl,j.km.le,rfl,j.eq (by(try simp only [Bool.not_eq_true']at*)<;>first|(simp [gD, *];done)|(simp_all [gD];done))⟩
 ·refine az (cA (l:=fr69 x k 0) KH) ?_
  refine aA x.items.length (λi l h1=>l=fr69 x k i/\Gf D p (cB (λi fl=>gD p t (cE x.items i) sc fl) fl i) h h1 (8*bS (exL (x.items.take i)))) ?_ (i:=0) (Nat.zero_le _) ⟨rfl,g0.up (Nat.zero_le _)⟩;clear c1 w c2 s c3 r g n j e;rintro i _ G hi ⟨rfl,b⟩;have hi2:i<9223372036854775807:=by omega
  have z:=b.nx;cases q:ltI (Int.ofNat i) (Int.ofNat x.items.length)with
  |false=>
   have o:i=x.items.length:=by have:=cC q;omega
   repeat' (first
    |(refine WLg.mk ?_;first
    |refine ac ?_)|apply ab|refine aj rfl ?_|apply ae|apply aa|refine ah rfl (λa=>Nt a) (λa=>?_)|apply ax|apply thN|apply thE|apply onE|fail)
   subst o;rw [List.take_length]at b;exact⟨.inl rfl,_,rfl,b.km.le,rfl,(b.up (by omega)).eq (by(try simp only [Bool.not_eq_false']at*)<;>first|(simp [gD, *];done)|(simp_all [gD];done))⟩
  |true=>
   have d:=bX q;have u:=ja d;have J:=gK x.items (i+1);have f:G.next<900000000:=by omega
   have y:∀v,v∈exO (cE x.items i)->bY v:=λv F=>(dQ _ v F).x;obtain⟨M,C,E⟩:=B (cE x.items i) (by omega) b.cs (so.km0 b.km) (by omega)
   repeat' (first
    |(refine WLg.mk ?_;first
    |refine ac ?_|refine av rfl rfl (ce Hy) rfl ?_|refine ap rfl rfl (show ROp.run (.load true 11) [.eptr (exO (cE x.items i)) 0] _=some (.agg (exO (cE x.items i)))from rfl) rfl ?_|refine ap rfl rfl (dF Hy) rfl ?_|refine aJ rfl rfl (dE f) rfl rfl rfl rfl rfl rfl rfl rfl y rfl rfl ?_|refine aw C ?_)|apply ab|refine aj rfl ?_|apply ae|apply aa|apply ai|apply ak|refine ah rfl (λa=>?_) (λa=>Nf a)|apply thN|fail)
   exact .norm ⟨_,_,cA KH,d,rfl,(b.trans E).up (by omega)⟩
theorem vi:∀t,t<=6000001->GT t
 |0,_=>λx hx=>by omega
 |t+1,hs=>zU (by omega) (vi t (by omega))
theorem rY{l:List Ex}{σ:Type}{g:σ->Nat}{f:Nat->σ->σ}{s:σ}(k:∀i s,i<l.length->g (f i s)<=g s+bS (exO (cE l i))):∀n,n<=l.length->g (cB f s n)<=g s+bS (exL (l.take n))
 |0,_=>Nat.le_add_right _ _
 |n+1,h=>by
  have:=rY (s:=s) k n (by omega);have:=k n (cB f s n) (by omega);have:=ja (show n<l.length by omega);show g (f n (cB f s n))<=_;omega
theorem v8{l:List Sg}{σ:Type}{g:σ->Nat}{f:Nat->σ->σ}{s:σ}(k:∀i s,i<l.length->g (f i s)<=g s+bS (sgO (cG l i))):∀n,n<=l.length->g (cB f s n)<=g s+bS (sgL (l.take n))
 |0,_=>Nat.le_add_right _ _
 |n+1,h=>by
  have:=v8 (s:=s) k n (by omega);have:=k n (cB f s n) (by omega);have:=sI (show n<l.length by omega);show g (f n (cB f s n))<=_;omega
theorem yT(g:Sg)(s:Sc):szS (je g s)<=szS s+bS (sgO g):=by
 have h1:=lR g;have h2:=dZ g.val;have a:=zv (b:=g.val.name) (v:=dA .i64 (Int.add (i5 s g.val.name) (Int.ofNat 1))) (s:=s);rw [je]
 split
 ·rw [nJ]
  omega
 ·omega
theorem B1:∀(n:Nat) (x:Ex) (s:Sc),szS (iT n x s)<=szS s+bS (exO x)
 |0,x,s=>Nat.le_add_right _ _
 |n+1,x,s=>by
  have h1:=dZ x;rw [iT]
  split
  ·have h3:=zv (b:=x.name) (v:=dA .i64 (Int.add (i5 s x.name) (Int.ofNat 1))) (s:=s)
   rw [nJ];omega
  ·split
   ·have:=rY (g:=szS) (l:=x.items) (f:=λi s=>iT n (cE x.items i) s) (s:=s) (λi s _=>B1 n _ s) x.items.length (Nat.le_refl _)
    rw [List.take_length]at this;omega
   ·split
    ·have:=v8 (g:=szS) (l:=x.segs) (f:=λi s=>je (cG x.segs i) s) (s:=s) (λi s _=>yT _ s) x.segs.length (Nat.le_refl _)
     rw [List.take_length]at this;omega
    ·omega
theorem vT(p:Pl):∀(n:Nat) (x:Ex) (st:Sc×List Fl),szS (gI p n x st).1<=szS st.1+bS (exO x)
 |0,x,s=>Nat.le_add_right _ _
 |n+1,x,st=>by
  have h1:=dZ x;rw [gI]
  split
  ·have:=rY (g:=λst:Sc×List Fl=>szS st.1) (l:=x.items) (f:=λi st=>gI p n (cE x.items i) st) (s:=st) (λi s _=>vT p n _ s) x.items.length (Nat.le_refl _)
   rw [List.take_length]at this;exact Nat.le_trans this (by omega)
  ·split
   ·have:=v8 (g:=λst:Sc×List Fl=>szS st.1) (l:=x.segs) (f:=λi st=>rG p (cG x.segs i) (rk x.segs i) st) (s:=st) (λi s _=>yT _ s.1) x.segs.length (Nat.le_refl _)
    rw [List.take_length]at this;exact Nat.le_trans this (by omega)
   ·exact B1 _ _ _
end
end
end Ev
end Go.Proofs.YtdfphfdnoobikaaGreatDoor
