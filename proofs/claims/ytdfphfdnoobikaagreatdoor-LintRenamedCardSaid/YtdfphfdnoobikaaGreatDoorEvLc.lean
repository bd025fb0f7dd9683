/-
  A small memory in a great one:some blocks are written,one may be moved.
-/
import Derived.Test.YtdfphfdnoobikaaGreatDoorEvWay
import Derived.Test.YtdfphfdnoobikaaGreatDoorEvExec
namespace Go.Proofs.YtdfphfdnoobikaaGreatDoor
namespace Ev
section
section
variable {P:Program} {T:Ty}
section
variable {U:Nat->Prop} {ρ:Nat->Nat} {E:En} {g g':G} (hg:∀i x,U i->g i=some x->g' (ρ i)=some x)
include hg
mutual
theorem Rn.back:∀{v' v:V},Rn U ρ (λ_=>none) v' v->∀u,@VR E g v' u->@VR E g' v u
 |_,_,.pure h,u,k=>h.vr u k
 |_,_,.ptr h,u,k=>by cases k with|ptr e=>exact @VR.ptr E g' _ _ _ _ _ (hg _ _ h e)
 |_,_,.sl h,u,k=>by
  cases k with
  |slx e=>exact @VR.slx E g' _ _ _ _ _ _ _ _ (hg _ _ h e)
  |sli e a b=>exact @VR.sli E g' _ _ _ _ _ _ _ _ _ (hg _ _ h e) a b
  |sl0 e a=>exact @VR.sl0 E g' _ _ _ _ _ _ _ _ (hg _ _ h e) a
  |slx0 e=>exact @VR.slx0 E g' _ _ _ _ _ _ _ (hg _ _ h e)
 |_,_,.map h,u,k=>by cases k with|map e=>exact @VR.map E g' _ _ _ _ (hg _ _ h e)
 |_,_,.func ha hb,u,k=>by cases k with|func p q=>exact @VR.func E g' _ _ _ _ _ (RnL.back ha _ p) (RnL.back hb _ q)
 |_,_,.agg ha,u,k=>by cases k with|agg p=>exact @VR.agg E g' _ _ (RnL.back ha _ p)
 |_,_,.tup ha,u,k=>by cases k with|tup p=>exact @VR.tup E g' _ _ (RnL.back ha _ p)
 |_,_,.lst ha,u,k=>by
  cases k with
  |lst e hx hl h=>exact @VR.lst E g' _ _ _ _ _ _ _ _ e hx (by rw [<-RnL.length ha];exact hl) (RnL.back ha _ h)
  |lst0=>cases ha;exact @VR.lst0 E g' _
  |lstz=>cases ha;exact @VR.lstz E g' _ _ _
 |_,_,.eptr ha,u,k=>by cases k with|eptr e hx h=>exact @VR.eptr E g' _ _ _ _ _ _ e hx (RnL.back ha _ h)
 |_,_,.fz hk ha,u,k=>by cases hk
 |_,_,.fzs hk hl ha,u,k=>by cases hk
 |_,_,.nil0 hk,u,k=>by cases hk
theorem RnL.back:∀{v' v:List V},RnL U ρ (λ_=>none) v' v->∀u,@VRs E g v' u->@VRs E g' v u
 |_,_,.nil,u,k=>by
  have _a:=@hg;cases k;exact @VRs.nil E g'
 |_,_,.cons h t,u,k=>by cases k with|cons p q=>exact @VRs.cons E g' _ _ _ _ (Rn.back h _ p) (RnL.back t _ q)
end
end
theorem Rn.one'{U:Nat->Prop}{ρ:Nat->Nat}{v a:V}(h:Rn U ρ (λ_=>none) v a)(k:cQ v=true):cQ a=true:=by
 cases h<;>first|rfl|exact k|cases k
inductive Bb(U:Nat->Prop)(ρ:Nat->Nat):Blk->Blk->Prop
 |cells {n:Nat} {cs' cs:Tr V} (h:∀j v,j<n->cs.get j=some v->∃v',cs'.get j=some v'/\Rn U ρ (λ_=>none) v' v):Bb U ρ (.cells n cs' none false) (.cells n cs none false)
 |ro {n:Nat} {cs:Tr V} (h:∀j v,cs.get j=some v->bY v):Bb U ρ (.ro n cs) (.ro n cs)
 |map {es' es:List (V×V)} {o:Bool} (hk:RnL U ρ (λ_=>none) (es'.map (·.1)) (es.map (·.1))) (hv:RnL U ρ (λ_=>none) (es'.map (·.2)) (es.map (·.2))):Bb U ρ (.map es' o) (.map es o)
def tg(b:Blk):Prop:=b.kin=none\/b.kin=some (none,false)
theorem Bb.lone{U:Nat->Prop}{ρ:Nat->Nat}{b B:Blk}(h:Bb U ρ b B):tg b/\tg B/\b.isRo=B.isRo/\b.kin=B.kin/\b.live=true/\B.live=true:=by
 cases h
 ·exact⟨.inr rfl,.inr rfl,rfl,rfl,rfl,rfl⟩
 ·exact⟨.inl rfl,.inl rfl,rfl,rfl,rfl,rfl⟩
 ·exact⟨.inl rfl,.inl rfl,rfl,rfl,rfl,rfl⟩
theorem tg.up{h:H}{i j d:Nat}{b:Blk}(e:h.blk i=some b)(k:tg b):¬Up h i j d:=λu=>by
 cases u with
 |one e' k'=>rw [e]at e';cases e';rcases k with q|q<;>rw [q]at k'<;>cases k'
 |step e' k' _=>rw [e]at e';cases e';rcases k with q|q<;>rw [q]at k'<;>cases k'
def B5(M:Nat->Prop)(b:Blk):Prop:=match b with
 |.cells _ cs _ _=>∀j v,cs.get j=some v->dG M v
 |.ro _ cs=>∀j v,cs.get j=some v->dG M v
 |.map es _=>∀e,e∈es->dG M e.1/\dG M e.2
 |.siter _ _ _=>True
 |.dead=>True
 |_=>∀id,¬M id
theorem nF{M:Nat->Prop}{E:En}{g g':G}(hg:∀id x,¬M id->g id=some x->g' id=some x){l:List V}{us:List Value}(hf:∀v,v∈l->dG M v)(h:@VRs E g l us):@VRs E g' l us:=@iX E g g' _ _ (λv hv u k=>hf v hv E g g' u hg k) h
theorem B5.br{M:Nat->Prop}{E:En}{g g':G}(hg:∀id x,¬M id->g id=some x->g' id=some x){w:World}{id:Nat}{b:Blk}(a:B5 M b)(d:¬M id)(h:@BR E T g w id b):@BR E T g' w id b:=by
 have hc:∀{n cs},(∀j v,cs.get j=some v->dG M v)->@Cells E g w id n cs->@Cells E g' w id n cs:=λ{n cs} a h=>by
  obtain⟨b,o,z,c,t,h1,h2,i,p,C,q⟩:=h;refine⟨b,o,z,c,t,hg _ _ d h1,h2,i,p,C,λj v r f=>?_⟩;obtain⟨u,B,y,A⟩:=q j v r f;exact⟨u,B,a j v f E g g' u hg y,A⟩
 cases b with
 |cells=>exact hc a h
 |ro=>exact hc a h
 |map es=>
  obtain⟨b,o,z,m,k,h1,h2,i,p⟩:=h;refine⟨b,o,z,m,k,hg _ _ d h1,h2,⟨nF hg (λv f=>?_) i.1,nF hg (λv f=>?_) i.2⟩,p⟩
  ·obtain⟨e,l,rfl⟩:=List.mem_map.1 f
   exact(a e l).1
  ·obtain⟨e,l,rfl⟩:=List.mem_map.1 f
   exact(a e l).2
 |siter=>obtain⟨b,o,z,s,h1,h2⟩:=h;exact⟨b,o,z,s,hg _ _ d h1,h2⟩
 |dead=>trivial
 |loop=>exact @BR.mono E T g g' (λid x=>hg id x (a id)) _ _ _ h
 |miter=>exact @BR.mono E T g g' (λid x=>hg id x (a id)) _ _ _ h
structure Lc(T:Ty)(mv:Nat->Prop)(h h':H)(l l':List (Option Blk))(ρ:Nat->Nat):Prop where
 vw:Vw T h l ρ (λ_=>none)
 lone:∀i B,cY l i->h.blk (ρ i)=some B->tg B
 lt:∀i,i<l.length->ρ i<h.next
 len:l'.length=l.length
 keep:∀i,cY l i->cY l' i
 new:∀i,cY l' i->¬mv i->cY l i
 moved:∀i,mv i->ρ i=i/\i<l.length/\(∀j,j<l.length->ρ j=i->j=i)/\(¬cY l i->h.blk i=none)/\∀b:Blk,l'[i]? =some (some b)->b.isRo=false
 ro:∀(i:Nat) (b:Blk),l[i]? =some (some b)->b.isRo=true->∃p,p∈T.pin/\p.1=i
 pinr:∀(i:Nat) (b B:Blk),l'[i]? =some (some b)->l[i]? =some (some B)->b.isRo=B.isRo
 kin:∀(i:Nat) (b B:Blk),l'[i]? =some (some b)->h.blk (ρ i)=some B->b.kin=B.kin
 inj:∀i j,i<l.length->j<l.length->ρ i=ρ j->i=j
 next:h'.next=h.next
 out:∀id,(∀i,cY l' i->ρ i≠id)->h'.blk id=h.blk id
 free:∀id b,(∀i,cY l' i->ρ i≠id)->h.blk id=some b->B5 mv b
 back:∀i b',l'[i]? =some (some b')->∃B',h'.blk (ρ i)=some B'/\Bb (cY l') ρ b' B'
theorem Lc.loc{mv:Nat->Prop}{h h':H}{l l':List (Option Blk)}{ρ:Nat->Nat}(L:Lc T mv h h' l l' ρ){vs VS:List V}{v vr:V}(d1:RnL (cY l) ρ (λ_=>none) vs VS)(hv:Rn (cY l') ρ (λ_=>none) v vr)
  (b1:∀(E:En) (g:G) (w:World) (us:List Value),Sit T E g h w->@VRs E g VS us->∀i,cY l i->¬mv i->∃x,g (ρ i)=some x) (np:∃i,(cY l i/\¬mv i)/\∀p,p∈T.pin->p.1≠i):Loc T (λi=>cY l i/\¬mv i) mv (jl l) (jl l') vs v h h' VS vr:=by
 classical
 intro E g w us s hu;have nm:=b1 E g w us s hu;obtain⟨Y,gs,_,_,hE,s0,hg,hn,tr⟩:=L.vw.sit s;obtain rfl:=hE λ_=>rfl;have W:l'.length<=bZ:=by rw [L.len];exact L.vw.len
 have e7:∀{i},cY l i->i<l.length:=λ⟨b,e⟩=>(List.getElem?_eq_some_iff.1 e).1;have a4:∀{i},cY l' i->i<l.length:=λ⟨b,e⟩=>L.len▸(List.getElem?_eq_some_iff.1 e).1;have a6:∀i x,gs i=some x->cY l i/\g (ρ i)=some x:=λi x e=>by
  by_cases q:cY l i
  ·rw [hg i q]at e;exact⟨q,e⟩
  ·rw [hn i q]at e;cases e
 refine⟨gs,s0,RnL.vr (E:=Y) (E':=Y) (g:=g) (g':=gs) (λi x hi e=>(hg i hi).trans e) Y.le_refl (λk cs e=>by cases e) d1 us hu,?_⟩;intro E' O w' u x d6
 let g':G:=λid=>if mv id then O id else g id
 have gm:∀{id},mv id->g' id=O id:=λh=>if_pos h;have gn:∀{id},¬mv id->g' id=g id:=λh=>if_neg h;have b5:∀{i},i<l.length->mv (ρ i)->mv i:=λ{i} hi q=>by
  have:=(L.moved _ q).2.2.1 i hi rfl;rw [<-this]at q;exact q
 have fix:∀i y,cY l i->¬mv i->g (ρ i)=some y->O i=some y:=λi y hi f e=>x.fix i y ⟨hi,f⟩ ((hg i hi).trans e);have bk:∀i y,cY l' i->O i=some y->g' (ρ i)=some y:=λi y hi e=>by
  by_cases f:mv i
  ·rw [(L.moved i f).1,gm f];exact e
  ·rw [gn λq=>f (b5 (a4 hi) q)]
   obtain⟨z,hz⟩:=nm i (L.new i hi f) f;have:=fix i z (L.new i hi f) f hz;rw [this]at e;cases e;exact hz
 have a7:∀i y,cY l' i->g' (ρ i)=some y->O i=some y:=λi y hi e=>by
  by_cases f:mv i
  ·rw [(L.moved i f).1,gm f]at e;exact e
  ·rw [gn λq=>f (b5 (a4 hi) q)]at e
   exact fix i y (L.new i hi f) f e
 have sm:∀{i b},l'[i]? =some (some b)->(jl l').blk i=some b:=λe=>(gC W).2 e;have a3:∀{id b},(∀i,cY l' i->ρ i≠id)->h'.blk id=some b->¬mv id:=λ{id b} ho e f=>by
  rw [L.out id ho]at e;obtain⟨m1,m2,m3,m4,_⟩:=L.moved id f
  by_cases q:cY l id
  ·exact ho id (L.keep id q) m1
  ·rw [m4 q]at e;cases e
 have same:∀{id b o z R},(∀i,cY l' i->ρ i≠id)->g id=some (b,o,z)->h.blk id=some R->R.live=true->w'.heap[b]? =w.heap[b]? :=by
  intro id b o z R ho e hb hl
  by_cases q:∃i o' U,gs i=some (b,o',U)
  ·obtain⟨i,o',U,q⟩:=q
   obtain⟨hi,q⟩:=a6 _ _ q;have e6:=hi;obtain⟨bb,b6⟩:=e6;obtain⟨B,D,F⟩:=L.vw.blk i bb b6;rcases @WR.mates Y T g h w s.wr id (ρ i) b o z o' U R B (λk=>ho i (L.keep i hi) k.symm) e q hb D hl F.live.1 with⟨d,u,_⟩ | ⟨d,u,_⟩ | ⟨J,M⟩
   ·exfalso
    have key:∀{a c d},Up h a c d->c=ρ i->False:=λ{a c d} u=>by
     induction u with
     |one I k1'=>
      rintro rfl;obtain⟨b',up,n1,n2,_⟩:=@WR.kids Y T g h w s.wr _ _ _ _ _ I k1';rw [D]at n1;cases n1;rcases L.lone i B hi D with q|q<;>rw [q]at n2<;>cases n2
     |step _ _ _ ih=>exact ih
    exact key u rfl
   ·exact absurd u ((L.lone i B hi D).up D)
   ·obtain⟨p,p1,rfl⟩:=L.ro i bb b6 (F.live.2.2.1.trans M)
    obtain⟨⟨z2,p2⟩,_⟩:=s.pin p p1;rw [(L.vw.pin p p1).1,p2]at q;cases q;exact x.pin p p1
  ·exact x.keep b (s.lt e) λi o' U k=>q ⟨i,o',U,k⟩
 have a8:Kin h h':=λi b k J M=>by
  by_cases hi:∃a,cY l' a/\ρ a=i
  ·obtain⟨a,⟨P,n⟩,rfl⟩:=hi
   obtain⟨B',D,F⟩:=L.back a P n;exact⟨B',D,by rw [<-F.lone.2.2.2.1,L.kin a P b n J];exact M⟩
  ·exact⟨b,by rw [L.out i λa n e=>hi ⟨a,n,e⟩];exact J,M⟩
 have d0:∀{a c d},Up h' a c d->(∃i,cY l' i/\ρ i=a)->False:=λ{a c d} u ⟨i,⟨R,hi⟩,e⟩=>by
  subst e;obtain⟨B',D,F⟩:=L.back i R hi;exact F.lone.2.1.up D u
 have Z:∀{id b o z R},(∀i,cY l' i->ρ i≠id)->g' id=some (b,o,z)->h'.blk id=some R->g id=some (b,o,z)/\h.blk id=some R:=λ{id b o z R} ho I K=>by
  rw [gn (a3 ho K)]at I;rw [L.out id ho]at K;exact⟨I,K⟩
 have a0:∀{id b o z R a o' U P},(∀i,cY l' i->ρ i≠id)->g id=some (b,o,z)->h.blk id=some R->R.live=true->l'[a]? =some (some P)->O a=some (b,o',U)->R.isRo=true/\P.isRo=true:=by
  intro id b o z R a o' U P ho I K hl Q n;have old:∀c,cY l c->g (ρ c)=some (b,o',U)\/(∃o2 z2,g (ρ c)=some (b,o2,z2))->R.isRo=true/\∃S,l[c]? =some (some S)/\S.isRo=true:=by
   intro c hc b3;obtain⟨o2,z2,b3⟩:∃o2 z2,g (ρ c)=some (b,o2,z2):=by rcases b3 with q|q;exact⟨_,_,q⟩;exact q
   have d2:=hc;obtain⟨S,b7⟩:=d2;obtain⟨B,D,F⟩:=L.vw.blk c S b7;rcases @WR.mates Y T g h w s.wr id (ρ c) b o z o2 z2 R B (λk=>ho c (L.keep c hc) k.symm) I b3 K D hl F.live.1 with⟨d,u,_⟩ | ⟨d,u,_⟩ | ⟨J,M⟩
   ·exfalso
    have key:∀{a c' d},Up h a c' d->c'=ρ c->False:=λ{a c' d} u=>by
     induction u with
     |one I k1'=>
      rintro rfl;obtain⟨b',up,n1,n2,_⟩:=@WR.kids Y T g h w s.wr _ _ _ _ _ I k1';rw [D]at n1;cases n1;rcases L.lone c B hc D with q|q<;>rw [q]at n2<;>cases n2
     |step _ _ _ ih=>exact ih
    exact key u rfl
   ·exact absurd u ((L.lone c B hc D).up D)
   ·exact⟨J,S,b7,F.live.2.2.1.trans M⟩
  by_cases f:mv a
  ·rcases x.inv a b o' U n with q | ⟨c,o2,z2,q⟩
   ·exact absurd (s.lt I) (by omega)
   ·obtain⟨hc,q⟩:=a6 _ _ q
    obtain⟨D,S,F,k3⟩:=old c hc (.inr ⟨_,_,q⟩);exfalso;obtain⟨p,p1,rfl⟩:=L.ro c S F k3;obtain⟨⟨z3,p2⟩,p3⟩:=x.sit.pin p p1;obtain⟨⟨z4,p4⟩,_⟩:=s.pin p p1;rw [(L.vw.pin p p1).1,p4]at q;cases q;have a5:a≠p.1:=λe=>by
     have:=(L.moved a f).2.2.2.2 P Q;rw [e,(gC W).1 p3]at Q;cases Q;cases this
    rcases @WR.mates E' T O (jl l') w' x.sit.wr a p.1 _ o' U 0 z3 P _ a5 n p2 (sm Q) p3 (by
      obtain⟨B',n1,n2⟩:=L.back a P Q;exact n2.lone.2.2.2.2.1) rfl with⟨d,u,_⟩ | ⟨d,u,_⟩ | ⟨J,_⟩
    ·obtain⟨B',n1,n2⟩:=L.back a P Q
     exact n2.lone.1.up (sm Q) u
    ·exact d9 p3 u
    ·rw [(L.moved a f).2.2.2.2 P Q]at J;cases J
  ·have a9:=L.new a ⟨P,Q⟩ f
   obtain⟨y,hy⟩:=nm a a9 f;have:=fix a y a9 f hy;rw [n]at this;cases this;obtain⟨D,S,F,k3⟩:=old a a9 (.inl hy);exact⟨D,(L.pinr a P S Q F).trans k3⟩
 have b8:∀{i b j d ch},h'.blk i=some b->b.kin=some (some (j,d),ch)->(∀a,cY l' a->ρ a≠i)/\∃b' up,h.blk j=some b'/\b'.kin=some (up,true)/\(g i≠none->g j≠none)/\h'.blk j=some b'/\¬mv j:=by
  intro i b j d ch I K;have ho:∀a,cY l' a->ρ a≠i:=λa ⟨P,n⟩ e=>by
   subst e;obtain⟨A,a1,a2⟩:=L.back a P n;rw [a1]at I;cases I;rcases a2.lone.2.1 with q|q<;>rw [q]at K<;>cases K
  have b9:=I;rw [L.out i ho]at b9;obtain⟨b',up,D,F,k3⟩:=@WR.kids Y T g h w s.wr i b j d ch b9 K;have c0:∀a,cY l a->ρ a≠j:=λa n e=>by
   subst e;rcases L.lone a b' n D with q|q<;>rw [q]at F<;>cases F
  have c6:¬mv j:=λf=>by
   by_cases q:cY l j
   ·exact c0 j q (L.moved j f).1
   ·rw [(L.moved j f).2.2.2.1 q]at D;cases D
  have c8:∀a,cY l' a->ρ a≠j:=λa n e=>by
   by_cases q:mv a
   ·rw [(L.moved a q).1]at e;exact c6 (e▸q)
   ·exact c0 a (L.new a n q) e
  exact⟨ho,b',up,D,F,k3,(L.out j c8).trans D,c6⟩
 have wr:@WR E' T g' h' w':=by
  have r:=s.wr;refine @WR.mk E' T g' h' w' (by rw [L.next];exact @WR.bound Y _ _ _ _ r) (λid b e=>?_) (λid y e=>?_) (λid b o z e=>?_) (λid y b I K=>?_) (λi j b o z o' U R bj b4 I K e3 e4 l1 l2=>?_) (λi b j d ch I K=>?_) (λi b j d ch b' I K e3=>?_)
  ·rw [L.next]
   by_cases hi:∃a,cY l' a/\ρ a=id
   ·obtain⟨a,n,rfl⟩:=hi
    exact L.lt a (a4 n)
   ·rw [L.out id λa n e=>hi ⟨a,n,e⟩]at e
    exact @WR.top Y _ _ _ _ r _ _ e
  ·rw [L.next]
   by_cases f:mv id
   ·rw [<-(L.moved id f).1];exact L.lt id (L.moved id f).2.1
   ·rw [gn f]at e;exact @WR.dom Y _ _ _ _ r _ _ e
  ·by_cases f:mv id
   ·rw [gm f]at e;exact x.sit.lt e
   ·rw [gn f]at e;exact Nat.lt_of_lt_of_le (s.lt e) x.size
  ·by_cases hi:∃a,cY l' a/\ρ a=id
   ·obtain⟨a,⟨P,n⟩,rfl⟩:=hi
    obtain⟨B',D,F⟩:=L.back a P n;rw [D]at K;cases K;have hb:=@WR.blk E' T O (jl l') w' x.sit.wr a y P (a7 a y ⟨P,n⟩ I) (sm n);cases F with
    |cells hc=>
     obtain⟨b,o,z,c,t,J,M,q3,q4,q5,q6⟩:=(hb:@Cells E' O w' _ _ _)
     refine⟨b,o,z,c,t,bk a _ ⟨_,n⟩ J,M,q3,q4,q5,λj v hj hv=>?_⟩;obtain⟨v',m1,m2⟩:=hc j v hj hv;obtain⟨u,n1,n2,n3⟩:=q6 j v' hj m1;exact⟨u,n1,m2.back (λi y hi e=>bk i y hi e) u n2,m2.one' n3⟩
    |ro hc=>
     obtain⟨b,o,z,c,t,J,M,q3,q4,q5,q6⟩:=(hb:@Cells E' O w' _ _ _)
     refine⟨b,o,z,c,t,bk a _ ⟨_,n⟩ J,M,q3,q4,q5,λj v hj hv=>?_⟩;obtain⟨u,n1,n2,n3⟩:=q6 j v hj hv;exact⟨u,n1,(hc j v hv).vr u n2,n3⟩
    |map hk hv=>
     obtain⟨b,o,z,m,q,J,M,q3,q4⟩:=hb;exact⟨b,o,z,m,q,bk a _ ⟨_,n⟩ J,M,⟨hk.back (λi y hi e=>bk i y hi e) _ q3.1,hv.back (λi y hi e=>bk i y hi e) _ q3.2⟩,q4⟩
   ·have ho:∀i,cY l' i->ρ i≠id:=λa n e=>hi ⟨a,n,e⟩
    obtain⟨b0,o0,z0⟩:=y;obtain⟨D,F⟩:=Z ho I K;cases hl:b.live with
    |false=>cases b<;>first|trivial|cases hl
    |true=>
     exact(L.free id b ho F).br (λid y f e=>(gn f).trans e) (a3 ho K) (@BR.move E' _ _ _ _ _ _ _ _ _ D (same ho D F hl) (BR.env x.envl (@WR.blk Y T g h w r _ _ _ D F)))
  ·by_cases hi:∃a,cY l' a/\ρ a=i
   ·obtain⟨a,⟨P,n⟩,rfl⟩:=hi
    obtain⟨A,a1,a2⟩:=L.back a P n;rw [a1]at e3;cases e3;have ga:=a7 a _ ⟨P,n⟩ I
    by_cases hj:∃c,cY l' c/\ρ c=j
    ·obtain⟨c,⟨S,hc⟩,rfl⟩:=hj
     obtain⟨C,c1,c2⟩:=L.back c S hc;rw [c1]at e4;cases e4;have gc:=a7 c _ ⟨S,hc⟩ K;rcases @WR.mates E' T O (jl l') w' x.sit.wr a c b o z o' U P S (λq=>b4 (by rw [q])) ga gc (sm n) (sm hc) a2.lone.2.2.2.2.1 c2.lone.2.2.2.2.1 with⟨d,u,_⟩ | ⟨d,u,_⟩ | ⟨J,M⟩
     ·exact absurd u (a2.lone.1.up (sm n))
     ·exact absurd u (c2.lone.1.up (sm hc))
     ·exact .inr (.inr ⟨a2.lone.2.2.1▸J,c2.lone.2.2.1▸M⟩)
    ·have ho:∀i,cY l' i->ρ i≠j:=λa n e=>hj ⟨a,n,e⟩
     obtain⟨D,F⟩:=Z ho K e4;obtain⟨J,M⟩:=a0 ho D F l2 n ga;exact .inr (.inr ⟨a2.lone.2.2.1▸M,J⟩)
   ·have ho:∀a,cY l' a->ρ a≠i:=λa n e=>hi ⟨a,n,e⟩
    obtain⟨D,F⟩:=Z ho I e3
    by_cases hj:∃c,cY l' c/\ρ c=j
    ·obtain⟨c,⟨S,hc⟩,rfl⟩:=hj
     obtain⟨C,c1,c2⟩:=L.back c S hc;rw [c1]at e4;cases e4;obtain⟨J,M⟩:=a0 ho D F l1 hc (a7 c _ ⟨S,hc⟩ K);exact .inr (.inr ⟨J,c2.lone.2.2.1▸M⟩)
    ·have e5:∀a,cY l' a->ρ a≠j:=λa n e=>hj ⟨a,n,e⟩
     obtain⟨k3,k4⟩:=Z e5 K e4;rcases @WR.mates Y T g h w r i j b o z o' U R bj b4 D k3 F k4 l1 l2 with⟨d,u,q⟩ | ⟨d,u,q⟩|q
     ·exact .inl ⟨d,@Up.kin noE _ _ a8 _ _ _ u,q⟩
     ·exact .inr (.inl ⟨d,@Up.kin noE _ _ a8 _ _ _ u,q⟩)
     ·exact .inr (.inr q)
  ·obtain⟨D,b',up,p1,p2,p3,p4,p5⟩:=b8 I K
   exact⟨b',up,p4,p2,λa5=>by
    rw [gn p5];rw [gn (a3 D I)]at a5;exact p3 a5⟩
  ·obtain⟨D,b2,up,p1,p2,p3,p4,p5⟩:=b8 I K
   rw [p4]at e3;cases e3;rw [L.out i D]at I;exact @WR.ext Y T g h w r i b j d ch _ I K p1
 refine⟨g',⟨x.envl,λb c e=>?_,λid y f e=>(gn f).trans e,Nat.le_of_eq L.next.symm,Sit.mk' wr (λp hp=>?_) (λb c e=>⟨(x.sit.env e).1,λid o z q=>?_⟩),x.size,λb hb e0=>x.keep b hb λid o z e=>e0 _ _ _ (a6 _ _ e).2,λid b o z e=>?_,x.pin,x.os,x.tape,x.output⟩,hv.back (λi y hi e=>bk i y hi e) u d6⟩
 ·rcases x.envn b c e with q|q | ⟨k,_⟩
  ·exact .inl q
  ·exact .inr q
  ·obtain⟨i,J,M⟩:=np
   obtain⟨p,q3,q4⟩:=k i J;exact absurd q4 (M p q3)
 ·obtain⟨⟨z,J⟩,M⟩:=x.sit.pin p hp
  have q3:=(gC W).1 M;obtain⟨B',m1,m2⟩:=L.back _ _ q3;rw [(L.vw.pin p hp).1]at m1;refine⟨⟨z,?_⟩,?_⟩
  ·have:=bk p.1 _ ⟨_,q3⟩ J
   rw [(L.vw.pin p hp).1]at this;exact this
  ·rw [m1]
   cases m2;rfl
 ·by_cases f:mv id
  ·rw [gm f]at q;exact(x.sit.env e).2 _ _ _ q
  ·rw [gn f]at q
   rcases x.envn b c e with k|k | ⟨k,_⟩
   ·exact(s.env k).2 _ _ _ q
   ·exact absurd (s.lt q) (by omega)
   ·obtain⟨i,J,M⟩:=np
    obtain⟨p,q3,q4⟩:=k i J;exact absurd q4 (M p q3)
 ·by_cases f:mv id
  ·rw [gm f]at e
   rcases x.inv id b o z e with q | ⟨i,o',U,q⟩
   ·exact .inl q
   ·exact .inr ⟨_,_,_,(a6 _ _ q).2⟩
  ·rw [gn f]at e
   exact .inr ⟨id,o,z,e⟩
end
end
section
section
variable {P:Program} {T:Ty} {K:Nat->Prop} {call:cN} {n:Nat}
def WO(P:Program)(T:Ty)(K:Nat->Prop)(call:cN)(l:List cj)(f:F)(h:H)(R:F->H->Prop):Prop:=∃f' h',iQ P T K call l f h f' h'/\R f' h'
def W(P:Program)(T:Ty)(K:Nat->Prop)(call:cN)(n:Nat)(c:cF)(f:F)(h:H)(Q:X->F->H->Prop):Prop:=∃x f' h',Way P T K call n c f h x f' h'/\Q x f' h'
def LZ(P:Program)(T:Ty)(K:Nat->Prop)(call:cN)(n:Nat)(c:cF)(Q:X->F->H->Prop)(x:X)(f:F)(h:H):Prop:=match x with
 |.norm=>W P T K call n c f h Q
 |x=>Q x f h
theorem WO.nil{f:F}{h:H}{R:F->H->Prop}(k:R f h):WO P T K call [] f h R:=⟨f,h,.nil,k⟩
theorem bL{o:cj}{l:List cj}{f f1:F}{h h1:H}{R:F->H->Prop}(e:o.run call f h=some (f1,h1))(k:WO P T K call l f1 h1 R):WO P T K call (o ::l) f h R:=by
 obtain⟨f',h',b,a⟩:=k;exact⟨f',h',.op e b,a⟩
theorem bN{l:List cj}{f f1:F}{h h1:H}{R:F->H->Prop}(e:fy T K f h f1 h1)(k:WO P T K call l f1 h1 R):WO P T K call l f h R:=by
 obtain⟨f',h',b,a⟩:=k;exact⟨f',h',.view e b,a⟩
theorem WO.con{o:cj}{l:List cj}{f:F}{h h1:H}{M:Nat->Prop}{vs vs':List V}{fn:FuncId}{v:V}{R:F->H->Prop}(i:cm f o.guard=some true)(ev:evs f o.args=some vs)(g:ey o.op vs=some (fn,vs'))
  (c:Con P T M fn vs' h v h1) (d:∀id,K id->¬M id) (b:jh M f) (k:WO P T K call l (o.dst.put f v) h1 R):WO P T K call (o ::l) f h R:=by
 obtain⟨f',h',e,a⟩:=k;exact⟨f',h',.con i ev g c d b e,a⟩
theorem WO.mkF{o:cj}{l:List cj}{f:F}{h:H}{b:AOp}{vs cs:List V}{mk:Nat->V}{v:V}{R:F->H->Prop}(p:cm f o.guard=some true)(ev:evs f o.args=some vs)(i:o.op= .a b)(g:b.run vs=some (.cells cs.length (cM cs 0 .e) none false,mk))
  (hz:Frz cs mk v) (m:cs.length<=bZ) (j:∀c,c∈cs->dG (λid=>id=h.next) c) (k:WO P T K call l (o.dst.put f v) h R):WO P T K call (o ::l) f h R:=by
 obtain⟨f',h',n,d⟩:=k;exact⟨f',h',.mkF p ev i g hz m j n,d⟩
theorem WO.allocF{o1 b:cj}{l:List cj}{f:F}{h:H}{zero:List V}{n:Nat}{x:V}{h2:H}{cs':Tr V}{R:F->H->Prop}(o:cm f o1.guard=some true)(q:o1.op= .a (.alloc zero))(ev1:evs f o1.args=some [])
  (s:(AOp.alloc zero).run []=some (.cells zero.length (cM zero 0 .e) none false,λi=>.ptr i 0)) (u:h.next<bZ) (d:cm (o1.dst.put f (.ptr h.next 0)) b.guard=some true) (g:b.op= .e (.store n)) (m:evs (o1.dst.put f (.ptr h.next 0)) b.args=some [.ptr h.next 0,x])
  (y:H.wr h.next (cellsOf x) 0 ⟨h.t.put h.next (some (.cells zero.length (cM zero 0 .e) none false)),Nat.succ h.next⟩=some h2) (z:h2.blk h.next=some (.cells (cellsOf x).length cs' none false)) (p:∀j v,(cellsOf x)[j]? =some v->cs'.get j=some v)
  (A:(cellsOf x).length=n) (w:∀c,c∈cellsOf x->dG (λid=>id=h.next) c) (k:WO P T K call l (b.dst.put (o1.dst.put f (.eptr (cellsOf x) 0)) cT) h R):WO P T K call (o1 ::b ::l) f h R:=by
 obtain⟨f',h',B,r⟩:=k;exact⟨f',h',.allocF o q ev1 s u d g m y z p A w B,r⟩
theorem W.mono{c:cF}{f:F}{h:H}{Q Q':X->F->H->Prop}(k:W P T K call n c f h Q)(d:∀x f h,Q x f h->Q' x f h):W P T K call n c f h Q':=by
 obtain⟨x,f',h',b,a⟩:=k;exact⟨x,f',h',b,d _ _ _ a⟩
theorem W.exec{c:cF}{f f':F}{h h':H}{x:X}{Q:X->F->H->Prop}(e:exec call false n c f h=some (x,f',h'))(k:Q x f' h'):W P T K call n c f h Q:=⟨x,f',h',.exec e,k⟩
theorem W.cond{o:Opd}{a b:cF}{f:F}{h:H}{Q:X->F->H->Prop}{t:Bool}(e:o.ev f=some (.bool t))(i:t=true->W P T K call n a f h Q)(g:t=false->W P T K call n b f h Q):W P T K call n (.cond o a b) f h Q:=by
 cases t with
 |true=>
  obtain⟨x,f',h',d,c⟩:=i rfl;exact⟨x,f',h',.cond (t:=true) e d,c⟩
 |false=>
  obtain⟨x,f',h',d,c⟩:=g rfl;exact⟨x,f',h',.cond (t:=false) e d,c⟩
theorem W.block{id:Nat}{c:cF}{f:F}{h:H}{Q:X->F->H->Prop}(k:W P T K call n c f h λx=>Q (unX id x)):W P T K call n (.block id c) f h Q:=by
 obtain⟨x,f',h',b,a⟩:=k;exact⟨_,f',h',.block b,a⟩
theorem W.view{c:cF}{f f1:F}{h h1:H}{Q:X->F->H->Prop}(e:fy T K f h f1 h1)(k:W P T K call n c f1 h1 Q):W P T K call n c f h Q:=by
 obtain⟨x,f',h',b,a⟩:=k;exact⟨x,f',h',.view e b,a⟩
theorem W.sem{c:cF}{f:F}{h:H}{x:X}{f':F}{h':H}{Q:X->F->H->Prop}(e:FL P T K c f h x f' h')(k:Q x f' h'):W P T K call n c f h Q:=⟨x,f',h',.sem e,k⟩
theorem W.viewX{c:cF}{f:F}{h:H}{Q:X->F->H->Prop}(k:W P T K call n c f h λx f1 h1=>∃f' h',fy T K f1 h1 f' h'/\Q x f' h'):W P T K call n c f h Q:=by
 obtain⟨x,f1,h1,d,f',h',a,b⟩:=k;exact⟨x,f',h',.viewX d a,b⟩
def WD(call:cN)(l:List cj)(s:St)(R:St->Prop):Prop:=∃s',gS call l s=some s'/\R s'
theorem W.regD{l:List cj}{f:F}{h:H}{Q:X->F->H->Prop}(k:WD call l ⟨f,h,[],[]⟩ λs=>bR s.cs (jP s.hs [s.h])/\Q .norm (clr s.f) s.h):W P T K call n (.regD l) f h Q:=by
 obtain⟨s,c,a,b⟩:=k;exact⟨_,_,_,.regD c a,b⟩
theorem W.regX{M:Nat->Prop}{l:List cj}{f:F}{h:H}{Q:X->F->H->Prop}(d:jh M f)(e:∀id,K id->¬M id)(k:∃s,wT P T M none l ⟨f,h,[],[]⟩ s/\bR s.cs (jP s.hs [s.h])/\Q .norm (clr s.f) s.h):W P T K call n (.regD l) f h Q:=by
 obtain⟨s,c,a,b⟩:=k;exact⟨_,_,_,.regX c a d e,b⟩
theorem bR.nil{hs:List H}:bR [] hs:=λc hc=>by cases hc
theorem bR.cons{c:Tc}{cs:List Tc}{hs:List H}(k:∀h,h∈hs->c.op.run c.vs h=some c.v)(t:bR cs hs):bR (c ::cs) hs:=λx hx j h e h1 h2=>by
 rcases List.mem_cons.1 hx with rfl|hx
 ·exact k h (List.mem_of_getElem? e)
 ·exact t x hx j h e h1 h2
theorem bR.any{o:ROp}{vs:List V}{v:V}{lo hi:Nat}{cs:List Tc}{hs:List H}(k:∀h,o.run vs h=some v)(t:bR cs hs):bR (⟨o,vs,v,lo,hi⟩ ::cs) hs:= .cons (λh _=>k h) t
theorem bR.first{o:ROp}{vs:List V}{v:V}{lo:Nat}{cs:List Tc}{h:H}{hs:List H}(k:o.run vs h=some v)(t:bR cs (h ::hs)):bR (⟨o,vs,v,lo,0⟩ ::cs) (h ::hs):=λx hx j h' e h1 h2=>by
 rcases List.mem_cons.1 hx with rfl|hx
 ·obtain rfl:j=0:=Nat.le_zero.1 h2
  cases e;exact k
 ·exact t x hx j h' e h1 h2
inductive jz(P:Program)(T:Ty)(K:Nat->Prop)(call:cN)(n:Nat)(c:cF):Nat->F->H->X->F->H->Prop
 |last {f:F} {h:H} {x:X} {f':F} {h':H} (k:Way P T K call n c f h x f' h') (hx:x≠.norm):jz P T K call n c 0 f h x f' h'
 |more {f:F} {h:H} {f1:F} {h1:H} {x:X} {f':F} {h':H} {j:Nat} (k:Way P T K call n c f h .norm f1 h1) (r:jz P T K call n c j f1 h1 x f' h'):jz P T K call n c (j+1) f h x f' h'
theorem jz.way{c:cF}{k:Nat}{f:F}{h:H}{x:X}{f':F}{h':H}(r:jz P T K call n c k f h x f' h'):Way P T K call n (.loop c) f h x f' h':=by
 have one:∀k f1 h1,jz P T K call n c k f1 h1 x f' h'->∃q:X×F×H,Way P T K call n c f1 h1 q.1 q.2.1 q.2.2/\(q.1= .norm->∃j,j<k/\jz P T K call n c j q.2.1 q.2.2 x f' h')/\(q.1≠.norm->q=(x,f',h')):=by
  intro k f1 h1 r;cases r with
  |last k hx=>exact⟨(x,f',h'),k,λe=>absurd e hx,λ_=>rfl⟩
  |more k r=>exact⟨(.norm,_,_),k,λ_=>⟨_,Nat.lt_succ_self _,r⟩,λe=>absurd rfl e⟩
 classical
 refine .loop (λk f1 h1=>jz P T K call n c k f1 h1 x f' h') (λk f1 h1=>if e:∃q:X×F×H,Way P T K call n c f1 h1 q.1 q.2.1 q.2.2/\(q.1= .norm->∃j,j<k/\jz P T K call n c j q.2.1 q.2.2 x f' h')/\(q.1≠.norm->q=(x,f',h'))then e.choose else(x,f',h')) k r ?_ ?_ ?_
 ·intro k f1 h1 i
  rw [dif_pos (one k f1 h1 i)];exact(one k f1 h1 i).choose_spec.1
 ·intro k f1 h1 i
  rw [dif_pos (one k f1 h1 i)];exact(one k f1 h1 i).choose_spec.2.1
 ·intro k f1 h1 i
  rw [dif_pos (one k f1 h1 i)];exact(one k f1 h1 i).choose_spec.2.2
def IF(T:Ty)(K:Nat->Prop)(I:Nat->F->H->Prop)(k:Nat)(Q:X->F->H->Prop)(x:X)(f:F)(h:H):Prop:=match x with
 |.norm=>∃f' h',fy T K f h f' h'/\∃j,j<k/\I j f' h'
 |x=>Q x f h
theorem W.loop{c:cF}{Q:X->F->H->Prop}(I:Nat->F->H->Prop)(a:∀k f h,I k f h->W P T K call n c f h (IF T K I k Q)):∀{k f h},I k f h->W P T K call n (.loop c) f h Q:=by
 have key:∀k f h,I k f h->∃j x f' h',jz P T K call n c j f h x f' h'/\Q x f' h':=by
  intro k
  induction k using Nat.strongRecOn with
  |ind k ih=>
   intro f h i;obtain⟨x,f1,h1,l,g⟩:=a k f h i;cases x with
   |norm=>
    obtain⟨m,h2,v,j,o,q⟩:=(g:∃f' h',fy T K f1 h1 f' h'/\∃j,j<k/\I j f' h')
    obtain⟨p,x,f',h',d,b⟩:=ih j o m h2 q;exact⟨p+1,x,f',h',.more (.viewX l v) d,b⟩
   |_=>exact⟨0,_,f1,h1,.last l (λe=>by cases e),g⟩
 intro k f h i;obtain⟨j,x,f',h',d,b⟩:=key k f h i;exact⟨x,f',h',d.way,b⟩
theorem W.count{c:cF}{Q:X->F->H->Prop}(m:Nat)(I:Nat->F->H->Prop)(a:∀i f h,i<=m->I i f h->W P T K call n c f h (λx f h=>match x with
  |.norm=>∃f' h',fy T K f h f' h'/\i<m/\I (i+1) f' h'
  |x=>Q x f h)) {i:Nat} {f:F} {h:H} (hi:i<=m) (k:I i f h):W P T K call n (.loop c) f h Q:=by
 refine W.loop (λk f h=>∃i,i<=m/\k=m-i/\I i f h) ?_ (k:=m-i) ⟨i,hi,rfl,k⟩;rintro k f h ⟨i,hi,rfl,k⟩;refine(a i f h hi k).mono λx f h q=>?_;cases x with
 |norm=>
  obtain⟨f',h',v,b,k'⟩:=(q:∃f' h',fy T K f h f' h'/\i<m/\I (i+1) f' h')
  exact⟨f',h',v,m-(i+1),by omega,i+1,b,rfl,k'⟩
 |_=>exact q
end
end
end Ev
end Go.Proofs.YtdfphfdnoobikaaGreatDoor
