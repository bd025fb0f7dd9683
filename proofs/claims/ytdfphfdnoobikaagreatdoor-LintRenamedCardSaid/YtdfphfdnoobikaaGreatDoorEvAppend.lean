/-
  Append.
-/
import Derived.Test.YtdfphfdnoobikaaGreatDoorEvEff
import Derived.Laws.CopyRow
namespace Go.Proofs.YtdfphfdnoobikaaGreatDoor
namespace Ev
variable [Env]
set_option linter.unusedSectionVars false
section
variable {P:Program} {T:Ty} {g:G} {ρ:Operand->Value} {h:H} {w:World}
theorem WR.drew1(r:WR T g h w):WR T g h w.drew:=by
 refine⟨r.bound,r.top,r.dom,r.lt,λid x b a c=>?_,r.mates,r.kids,r.ext⟩;obtain⟨d,o,z⟩:=x;exact BR.move a rfl (r.blk _ _ _ a c)
def Src(P:Program)(T:Ty)(t2:TypeId)(e:TypeId)(n:Nat)(x:Value)(m:Nat)(us:List Value)(w:World):Prop:=
 us.length=m*n/\((∃e',T.under t2=some (.slice e')/\(∀w,(Builtin.lenOf x).run P w= .ok m w)/\(Builtin.firstCells n m x).run P w= .ok us.toArray w/\(Builtin.firstCells n m x).run P w.drew= .ok us.toArray w.drew)\/
  (T.under t2=some (.int .i64)/\x= .int .i64 m/\m<1048576/\∃zu i,(∀w,(zeroValue e).run P w= .ok zu w)/\T.info e=some i/\i.bytes<1048576/\us=(Builtin.zeroCells zu.cells m).toList))
theorem rz(c:da P T){t e t2:TypeId}{n:Nat}{g:Array TypeId}{ty:TypeId}{base:Option Addr}{sLen sCap m:Nat}{x:Value}{us:List Value}(h0:g[0]? =some t)(h1:T.under t=some (.slice e))(l:im T e=some n)(h2:g[1]? =some t2)
  (hs:Src P T t2 e n x m us w) (b:sLen+m<=sCap) {w':World} (o:∀a,base=some a->(storeCells (a.add (sLen*n)) us).run P w= .ok () w') (h:base=none->w'=w):
  (Builtin.append_ g ty #[.slice base sLen sCap,x]).run P w= .ok (.slice base (sLen+m) sCap) w':=by
 obtain⟨d,hs⟩:=hs;rcases hs with⟨e',k1,k2,k3,_⟩ | ⟨k1,rfl,k2,zu,i,k3,k4,k5,k6⟩
 ·cases base with
  |none=>
   cases h rfl;simp [Builtin.append_,h0,h2,bU c h1,bU c k1,cL c l,k2,k3,b]
  |some a=>
   have:=o a rfl;simp [Builtin.append_,h0,h2,bU c h1,bU c k1,cL c l,k2,k3,b,this]
 ·have p:IntKind.i64.wrap (m:Int)=m:=by unfold IntKind.wrap;simp [IntKind.bits,IntKind.signed];omega
  have j:¬(m:Int)<0:=by omega
  have f:¬((m:Int)*(i.bytes:Int) > 281474976710656):=by
   have r:m*i.bytes<=1048576*1048576:=Nat.mul_le_mul (by omega) (by omega);have:((m*i.bytes:Nat):Int)<=1099511627776:=by omega
   rw [Int.natCast_mul]at this;omega
  have k:((2:Int) ^ 48)=281474976710656:=by decide
  have q:(if m*n=0 then(pure #[]:Sem (Array Value))else do pure (Builtin.zeroCells (<-zeroValue e).cells m)).run P w= .ok us.toArray w:=by
   by_cases hz:m*n=0
   ·rw [if_pos hz,List.eq_nil_of_length_eq_zero (d.trans hz)]
    simp
   ·rw [if_neg hz]
    simp [k3,k6]
  cases base with
  |none=>
   cases h rfl;simp [Builtin.append_,h0,h2,bU c h1,bU c k1,cL c l,asInt,asIntOf,p,j,fT c k4,k,f,b];intro _;simp [k3]
  |some a=>
   have:=o a rfl;simp [Builtin.append_,h0,h2,bU c h1,bU c k1,cL c l,asInt,asIntOf,p,j,fT c k4,k,f,b]
   split
   ·rename_i hz
    rw [List.eq_nil_of_length_eq_zero (d.trans hz)]at this;simp [this]
   ·simp [k3,<-k6,this]
theorem vj(need:Nat):∀k c,c<=2*need+768->Builtin.growBy need k c<=2*need+768
 |0,c,h=>h
 |k+1,c,h=>by
  unfold Builtin.growBy
  split
  ·exact h
  ·exact vj need k _ (by omega)
theorem rI{need cap:Nat}(h:cap<need):Builtin.nextslicecap need cap<=2*need+768:=by
 unfold Builtin.nextslicecap
 split
 ·omega
 ·split
  ·omega
  ·exact vj need 4 cap (by omega)
theorem rA(f:da P T){t e t2:TypeId}{n:Nat}{j:Array TypeId}{ty:TypeId}{base:Option Addr}{sLen sCap m:Nat}{x:Value}{us old:List Value}{A:Value}{i:TypeInfo}(h0:j[0]? =some t)(h1:T.under t=some (.slice e))(E:im T e=some n)(h2:j[1]? =some t2)
  (hs:Src P T t2 e n x m us w) (b:¬sLen+m<=sCap) (c:(Builtin.firstCells n sLen (.slice base sLen sCap)).run P w.drew= .ok old.toArray w.drew) (l:∀w,(zeroValue e).run P w= .ok A w) (hi:T.info e=some i) (r:0<i.bytes) (F:i.bytes<1048576)
  (s:(sLen+m)*i.bytes<1099511627776):
  ∃newCap,sLen+m<=newCap/\(Builtin.append_ j ty #[.slice base sLen sCap,x]).run P w=
   .ok (.slice (some ⟨w.heap.size,0,none⟩) (sLen+m) newCap) (w.drew.alloc (.cells (old.toArray++us.toArray++Builtin.zeroCells A.cells (newCap-(sLen+m))) e)):=by
 obtain⟨p,hs⟩:=hs;have B:sLen+m<1099511627776:=Nat.lt_of_le_of_lt (Nat.le_mul_of_pos_right _ r) s;have o:¬(9223372036854775807<(sLen:Int)+(m:Int)):=by omega
 have d:¬281474976710656<Builtin.nextslicecap (sLen+m) sCap*i.bytes:=by
  have k:=rI (need:=sLen+m) (cap:=sCap) (by omega);have v:Builtin.nextslicecap (sLen+m) sCap*i.bytes<=(2*(sLen+m)+768)*i.bytes:=Nat.mul_le_mul_right _ k;rw [Nat.add_mul,Nat.mul_assoc]at v;omega
 have u:2 ^ 48=281474976710656:=by decide
 have q:((2:Int) ^ 48)=281474976710656:=by decide
 refine⟨sLen+m+w.tape w.drawn (.appendCap (sLen+m) sCap e)%(2 ^ 63-(sLen+m)),by omega,?_⟩;have a:(Question.appendCap (sLen+m) sCap e).forced=false:=rfl;generalize z:sLen+m+w.tape w.drawn (.appendCap (sLen+m) sCap e)%(2 ^ 63-(sLen+m))=nc;have g:(Question.appendCap (sLen+m) sCap e).cut (w.tape w.drawn (Question.appendCap (sLen+m) sCap e))=nc:=z;rcases hs with⟨e',k1,v,_,k3⟩ | ⟨k1,rfl,v,zu',i',k3,k4,k5,k6⟩
 ·simp [Builtin.append_,h0,h2,bU f h1,bU f k1,cL f E,v,b,fT f hi,u,d,a,g,k3,c,l,newRow,Nat.ne_of_gt r]
  congr 2
  apply Array.ext';simp
 ·have G:IntKind.i64.wrap (m:Int)=m:=by unfold IntKind.wrap;simp [IntKind.bits,IntKind.signed];omega
  have C:¬(m:Int)<0:=by omega
  rw [hi]at k4;cases k4;have h:¬((m:Int)*(i.bytes:Int) > 281474976710656):=by
   have I:m*i.bytes<=1048576*1048576:=Nat.mul_le_mul (by omega) (by omega);have:((m*i.bytes:Nat):Int)<=1099511627776:=by omega
   rw [Int.natCast_mul]at this;omega
  simp [Builtin.append_,h0,h2,bU f h1,bU f k1,cL f E,asInt,asIntOf,G,C,fT f hi,u,q,h,b,o,d,a,g,c,newRow,l];have y:zu'=A:=by
   have D:=k3 w;rw [l w]at D;cases D;rfl
  subst y
  split
  ·rename_i h0
   rw [List.eq_nil_of_length_eq_zero (p.trans h0)];simp
  ·rw [k6]
   congr 3
   apply Array.ext';simp
theorem vE{z:List V}{zs:Array Value}(hz:VRs g z zs.toList)(n:Nat):VRs g (ku z n) (Builtin.zeroCells zs n).toList:=by
 have:=Bo hz n
 simpa [Builtin.zeroCells]using this
theorem F7(E:da P T)(r:WR T g h w)(hE:lF g w){e t2:TypeId}{n:Nat}{z:V}{i:TypeInfo}{q:TypeDesc}{zs:Option (List V)}{a:V}{x:Value}{p:Nat×List V}(hz:iV T e=some z)(l:(cellsOf z).length=n)(hi:T.info e=some i)(j:i.bytes<1048576)
  (t:T.under t2=some q) (f:(∃e',q= .slice e'/\zs=none)\/(q= .int .i64/\zs=some (cellsOf z))) (v:VR g a x) (b:jB n zs a h=some p):∃us,VRs g p.2 us/\Src P T t2 e n x p.1 us w:=by
 rcases f with⟨e',rfl,rfl⟩ | ⟨rfl,rfl⟩
 ·obtain⟨us,D,A,C,u⟩:=zf (P:=P) r hE v b
  have d:=u w rfl p.1 (Nat.le_refl _);have c:=u w.drew rfl p.1 (Nat.le_refl _);rw [List.take_of_length_le (by omega)]at d c;exact⟨us,D,A,.inl ⟨e',t,C,d,c⟩⟩
 ·obtain⟨B,s,o⟩:=iB (g:=g) E hz
  cases a with
  |int k m=>
   cases k<;>first|(cases b;done)|skip
   cases m with
   |negSucc m=>cases b
   |ofNat m=>
    obtain⟨d,c⟩:=bW.1 (show oif (Nat.blt m 1048576) (some (m,ku (cellsOf z) m))=some p from b);cases c;have hc:=gN s;have y:=hc.length;refine⟨_,vE hc m,?_,.inr ⟨t,v.int_inv,by simpa using d,B,i,o,hi,j,rfl⟩⟩;simp [Builtin.zeroCells]at y ⊢;rw [<-y,l]
  |_=>cases b
theorem xZ{l:List V}{us:List Value}{g':G}{w':World}{id b o z:Nat}{c:Array Value}{t:TypeId}{up:Option (Nat×Nat)}{ch:Bool}(h1:cU l=true)(m:l.length<bZ)(h:VRs g' l us)(d:g' id=some (b,o,z))(g:w'.heap[b]? =some (.cells c t (0,0)))
  (hs:c.size=o+z) (hz:l.length<=z) (hc:∀(j:Nat) (u:Value),us[j]? =some u->c[o+j]? =some u):BR T g' w' id (.cells (cD l) (cM l 0 .e) up ch):=by
 refine⟨b,o,z,c,t,d,g,hs,by rw [cq];exact hz,by rw [cq];omega,λj v i a=>?_⟩;rw [dz l 0 _ j (by omega)]at a;rw [cq]at i;rw [if_pos (by omega)]at a;simp only [Nat.sub_zero]at a;obtain⟨u,k,f⟩:=h.get a;exact⟨u,hc j u k,f,mO h1 v (List.mem_of_getElem? a)⟩
theorem Ext.drew1{g':G}{h':H}{w':World}(x:Ext T g h w.drew g' h' w'):Ext T g h w g' h' w':=
 ⟨x.le,x.next,x.wr,x.un,x.size,x.keep,x.fresh,x.ro,x.os,x.tape,x.output⟩
theorem yi(r:WR T g h w){l:List V}{us rest:List Value}{h':H}{e n nc need:Nat}(q:VRs g l us)(f:us.length=need*n)(v:h.newCells l none=some h')(s:rest.length=(nc-need)*n)(d:need<=nc):
  ∃g',Ext T g h w g' h' (w.drew.alloc (.cells (us++rest).toArray e))/\VR g' (.sl h.next 0 need 0 false n) (.slice (some ⟨w.heap.size,0,none⟩) need nc):=by
 obtain⟨h1,h2⟩:=bW.1 v;obtain⟨p,y⟩:=bW.1 h2;rw [cq]at p;have hz:us.length+rest.length=nc*n:=by
  rw [f,s,<-Nat.add_mul,Nat.add_sub_cancel' d]
 have A:=q.length;have a:g h.next=none:=by
  cases e:g h.next with
  |none=>rfl
  |some x=>exact absurd (r.dom _ _ e) (by omega)
 have m:g.le (fp g h.next (w.drew.heap.size,0,nc*n)):=fO _ a;refine⟨fp g h.next (w.heap.size,0,nc*n),(Ext.new (z:=nc*n) r.drew1 y (.inr rfl) ?_).drew1,?_⟩
 ·refine xZ (b:=w.drew.heap.size) (o:=0) (z:=nc*n) (c:=(us++rest).toArray) (t:=e) h1 (by simpa using p) (q.mono m) (cH _ _ _) (dt _ _) (by simp;omega) (by omega) λj u i=>?_
  simp only [Nat.zero_add,List.getElem?_toArray];rw [List.getElem?_append_left]
  ·exact i
  ·rcases Nat.lt_or_ge j us.length with k|k
   ·exact k
   ·rw [List.getElem?_eq_none k]at i;cases i
 ·refine VR.sli (o:=0) (off:=0) (cH _ _ _) (by omega) d
theorem Up.kin2{h h':H}(k:∀i b x ch,h.blk i=some b->b.kin=some (some x,ch)->∃b' ch',h'.blk i=some b'/\b'.kin=some (some x,ch')){i j d:Nat}(u:Up h i j d):Up h' i j d:=by
 induction u with
 |one e k1=>obtain⟨b',ch',a,k'⟩:=k _ _ _ _ e k1;exact .one a k'
 |step e k1 _ ih=>obtain⟨b',ch',a,k'⟩:=k _ _ _ _ e k1;exact .step a k' ih
theorem WR.child(r:WR T g h w){w':World}{id b o z n n' off b1 o1 z1:Nat}{cs cs':Tr V}{up:Option (Nat×Nat)}(hg:g id=some (b,o,z))(G:h.blk id=some (.cells n cs up false))(hk:h.next<bZ)(a3:n<=off+n')
  (hw:∀j x k,g j=some x->h.blk j=some k->BR T g w' j k) (a1:w.heap.size<=w'.heap.size) (a4:b1<w'.heap.size) (a2:(b1=b/\o1=o+off)\/w.heap.size<=b1)
  (Q:BR T (fp g h.next (b1,o1,z1)) w' h.next (.cells n' cs' (some (id,off)) false)):
  WR T (fp g h.next (b1,o1,z1)) ⟨(h.t.put id (some (.cells n cs up true))).put h.next (some (.cells n' cs' (some (id,off)) false)),Nat.succ h.next⟩ w'/\
  ∀j,(⟨(h.t.put id (some (.cells n cs up true))).put h.next (some (.cells n' cs' (some (id,off)) false)),Nat.succ h.next⟩:H).blk j=if j=h.next then some (.cells n' cs' (some (id,off)) false)else if j=id then some (.cells n cs up true)else h.blk j:=by
 have a6:=r.dom _ _ hg;generalize hh:(⟨(h.t.put id (some (.cells n cs up true))).put h.next (some (.cells n' cs' (some (id,off)) false)),Nat.succ h.next⟩:H)=hx;have s:hx.next=h.next+1:=by rw [<-hh]
 have a:∀j,hx.blk j=if j=h.next then some (.cells n' cs' (some (id,off)) false)else if j=id then some (.cells n cs up true)else h.blk j:=by
  intro j;rw [<-hh];show((h.t.put id (some (.cells n cs up true))).put h.next (some (.cells n' cs' (some (id,off)) false))).get j=_;rw [Tr.get_put _ _ _ _ hk]
  by_cases h1:j=h.next
  ·rw [if_pos h1,if_pos h1]
  ·rw [if_neg h1,if_neg h1,Tr.get_put _ _ _ _ (by omega)]
   rfl
 clear hh;have J:g h.next=none:=by
  cases e:g h.next with
  |none=>rfl
  |some x=>exact absurd (r.dom _ _ e) (by omega)
 have P:g.le (fp g h.next (b1,o1,z1)):=fO _ J;have c:∀{i:Nat} {x:Nat×Nat×Nat},fp g h.next (b1,o1,z1) i=some x->(i=h.next/\x=(b1,o1,z1))\/(i≠h.next/\g i=some x):=by
  intro i x e
  by_cases h1:i=h.next
  ·subst h1;rw [cH]at e;exact .inl ⟨rfl,(Option.some.inj e).symm⟩
  ·rw [dK _ h1]at e;exact .inr ⟨h1,e⟩
 have old:∀{i:Nat} {k:Blk},i≠h.next->hx.blk i=some k->∃k',h.blk i=some k'/\k'.live=k.live/\k'.len=k.len/\(∀x ch,k.kin=some (x,ch)->∃p,k'.kin=some (x,p))/\(i≠id->k'=k):=by
  intro i k hi e;rw [a,if_neg hi]at e
  by_cases h1:i=id
  ·subst h1
   rw [if_pos rfl]at e;cases e;exact⟨_,G,rfl,rfl,λx ch E=>⟨false,by cases E;rfl⟩,λh=>absurd rfl h⟩
  ·rw [if_neg h1]at e
   exact⟨k,e,rfl,rfl,λx ch E=>⟨ch,E⟩,λ_=>rfl⟩
 have kin2:∀i b x ch,h.blk i=some b->b.kin=some (some x,ch)->∃D p,hx.blk i=some D/\D.kin=some (some x,p):=by
  intro i D x ch f m;have hi:=r.top _ _ f;rw [a,if_neg (by omega)]
  by_cases h1:i=id
  ·subst h1
   rw [G]at f;cases f;rw [if_pos rfl];exact⟨_,true,rfl,by cases m;rfl⟩
  ·rw [if_neg h1]
   exact⟨D,ch,f,m⟩
 have C:Up hx h.next id off:= .one (by rw [a,if_pos rfl]) rfl
 have y:∀{j d},Up h id j d->Up hx h.next j (d+off):=λu=>.step (by rw [a,if_pos rfl]) rfl (u.kin2 kin2)
 have B:∀{j M z2:Nat} {W:Blk},j≠h.next->g j=some (b1,M,z2)->hx.blk j=some W->W.live=true->∃d,Up hx h.next j d/\o1=M+d:=by
  intro j M z2 W hj f m Z;obtain⟨k',v,K,_,_,_⟩:=old hj m;rcases a2 with⟨rfl,ho⟩|hf
  ·by_cases h1:j=id
   ·subst h1
    rw [hg]at f;cases f;exact⟨off,C,ho⟩
   ·rcases r.mates id j b1 o z M z2 _ k' (λh=>h1 h.symm) hg f G v rfl (K.trans Z)with⟨d,u,e⟩ | ⟨d,u,e⟩ | ⟨x1,_⟩
    ·exact⟨d+off,y u,by omega⟩
    ·obtain⟨q,a5,R,U⟩:=r.last u
     rw [G]at R;cases R;cases U
    ·cases x1
  ·have:=r.lt _ _ _ _ f
   omega
 refine⟨⟨by omega,λi k e=>?_,λi x e=>?_,λi D o' z' e=>?_,λi x k f m=>?_,λi j D M z2 o3 z3 bi W N f m F e4 l1 Z=>?_,λi q j d ch f m=>?_,λi q j d ch S f m F=>?_⟩,a⟩
 ·rw [s]
  by_cases h1:i=h.next
  ·omega
  ·obtain⟨k',v,_⟩:=old h1 e
   have:=r.top _ _ v;omega
 ·rw [s]
  rcases c e with⟨rfl,_⟩ | ⟨_,e⟩
  ·omega
  ·have:=r.dom _ _ e;omega
 ·rcases c e with⟨_,e⟩ | ⟨_,e⟩
  ·cases e;exact a4
  ·have:=r.lt _ _ _ _ e;omega
 ·rcases c f with⟨rfl,e⟩ | ⟨h1,e⟩
  ·rw [a,if_pos rfl]at m
   cases m;exact Q
  ·rw [a,if_neg h1]at m
   by_cases h2:i=id
   ·subst h2
    rw [if_pos rfl]at m;cases m;have q:=hw i x _ e G;exact(show BR T g w' i (.cells n cs up true)from q).mono P
   ·rw [if_neg h2]at m
    exact(hw _ _ _ e m).mono P
 ·rcases c f with⟨rfl,x1⟩ | ⟨n1,R⟩<;>rcases c m with⟨rfl,x2⟩ | ⟨n2,U⟩
  ·exact absurd rfl N
  ·cases x1
   exact .inl (B n2 U e4 Z)
  ·cases x2
   exact .inr (.inl (B n1 R F l1))
  ·obtain⟨L,v,K,_⟩:=old n1 F
   obtain⟨Y,I,A,_⟩:=old n2 e4;rcases r.mates i j D M z2 o3 z3 L Y N R U v I (K.trans l1) (A.trans Z)with⟨d,u,e⟩ | ⟨d,u,e⟩ | ⟨x1,x2⟩
   ·exact .inl ⟨d,u.kin2 kin2,e⟩
   ·exact .inr (.inl ⟨d,u.kin2 kin2,e⟩)
   ·have ne:∀{l:Nat} {q S:Blk},l≠h.next->h.blk l=some q->q.isRo=true->hx.blk l=some S->S.isRo=true:=by
     intro l q S g0 g1 g2 g3;rw [a,if_neg g0]at g3
     by_cases hl:l=id
     ·subst hl
      rw [G]at g1;cases g1;cases g2
     ·rw [if_neg hl,g1]at g3
      cases g3;exact g2
    exact .inr (.inr ⟨ne n1 v x1 F,ne n2 I x2 e4⟩)
 ·by_cases h1:i=h.next
  ·subst h1
   rw [a,if_pos rfl]at f;cases f;cases m;refine⟨_,up,by rw [a,if_neg (by omega),if_pos rfl],rfl,λ_=>?_⟩;rw [dK _ (by omega),hg];exact λh=>by cases h
  ·obtain⟨L,v,_,_,K,_⟩:=old h1 f
   obtain⟨p,I⟩:=K _ _ m;obtain⟨Y,O,A,m5,m6⟩:=r.kids i L j d p v I;have hj:j≠id:=by
    intro h2;subst h2;rw [G]at A;cases A;cases m5
   have a0:=r.top _ _ A;refine⟨Y,O,by rw [a,if_neg (by omega),if_neg hj];exact A,m5,λh2=>?_⟩;rw [dK _ h1]at h2;rw [dK _ (by omega)];exact m6 h2
 ·by_cases h1:i=h.next
  ·subst h1
   rw [a,if_pos rfl]at f;cases f;cases m;rw [a,if_neg (by omega),if_pos rfl]at F;cases F;exact a3
  ·obtain⟨L,v,_,m7,K,_⟩:=old h1 f
   obtain⟨p,I⟩:=K _ _ m;obtain⟨Y,O,A,m5,m6⟩:=r.kids i L j d p v I;have a0:=r.top _ _ A;obtain⟨q3,m8,_,m9,_⟩:=old (by omega) F;have:=r.ext i L j d p q3 v I m8;omega
theorem WR.upExt(r:WR T g h w){i j d:Nat}(u:Up h i j d):∀bi bj,h.blk i=some bi->h.blk j=some bj->bj.len<=d+bi.len:=by
 induction u with
 |one e k=>
  intro bi bj a b;rw [e]at a;cases a;exact r.ext _ _ _ _ _ _ e k b
 |step e k u ih=>
  intro bi bj a b;rw [e]at a;cases a;obtain⟨q,up,c,_,_⟩:=r.kids _ _ _ _ _ e k;have:=ih q bj c b;have:=r.ext _ _ _ _ _ _ e k c;omega
theorem kq{w:World}{b j:Nat}(c:Array Value)(h:j≠b):(w.setRow b c).heap[j]? =w.heap[j]? :=by
 unfold World.setRow;rw [Array.getElem?_modify,if_neg (λe=>h e.symm)]
theorem nk{w:World}{b:Nat}(c:Array Value):(w.setRow b c).heap.size=w.heap.size:=by
 simp [World.setRow]
theorem ud{g:G}:∀{l:List V} {us:List Value},VRs g l us->cU l=true->∀u∈us,u.oneCell'=true
 |_,_,.nil,_,u,hu=>by cases hu
 |_,_,.cons hv ht,ha,u,hu=>by
  rename_i v x l us
  have ha:Bool.rec (motive:=λ_=>Bool) false (cU l) (cQ v)=true:=ha;rw [cO]at ha
  split at ha
  ·rename_i hx
   cases hu with
   |head=>exact oI hv hx
   |tail _ hu=>exact ud ht ha u hu
  ·cases ha
theorem qZ{l:List V}{us:List Value}{g':G}{w':World}{id b o z a:Nat}{c:Array Value}{t:TypeId}{cs:Tr V}{up:Option (Nat×Nat)}{ch:Bool}(h1:cU l=true)(i:a+l.length<bZ)(n:VRs g' l us)(g:g' id=some (b,o,z))(m:w'.heap[b]? =some (.cells c t (0,0)))
  (hs:c.size=o+z) (hz:a+l.length<=z) (e:∀j v,j<a->cs.get j=some v->∃u,c[o+j]? =some u/\VR g' v u/\cQ v=true) (hc:∀(j:Nat) (u:Value),us[j]? =some u->c[o+(a+j)]? =some u):BR T g' w' id (.cells (Nat.add a (cD l)) (cM l a cs) up ch):=by
 refine⟨b,o,z,c,t,g,m,hs,by rw [cq];exact hz,by rw [cq];exact Nat.le_of_lt i,λj v f d=>?_⟩;rw [dz l a cs j (by omega)]at d
 by_cases hn:a<=j
 ·rw [cq]at f
  have f:j<a+l.length:=f;rw [if_pos ⟨hn,f⟩]at d;obtain⟨u,p,k⟩:=n.get d;refine⟨u,?_,k,mO h1 v (List.mem_of_getElem? d)⟩;have:=hc _ u p;rw [show o+(a+(j-a))=o+j by omega]at this;exact this
 ·rw [if_neg (λh=>hn h.1)]at d
  exact e j v (by omega) d
theorem Cy(r:WR T g h w){id b o z B off len m n c:Nat}{cs:Tr V}{up:Option (Nat×Nat)}{l:List V}{us:List Value}{ha h':H}(hg:g id=some (b,o,z))(A:h.blk id=some (.cells B cs up false))(b4:B=off+len*n)(hc:off+c*n=z)(C:len+m<=c)
  (a4:off=0) (hl:VRs g l us) (a3:us.length=m*n) (a:h.adopt id=some ha) (S:ha.shareNew id off B cs l=some h'):
  ∃g' w',Ext T g h w g' h' w'/\(storeCells ((⟨b,o+off,none⟩:Addr).add (len*n)) us).run P w= .ok () w'/\VR g' (.sl h.next 0 (len+m) 0 false n) (.slice (some ⟨b,o+off,none⟩) (len+m) c):=by
 have a2:ha=⟨h.t.put id (some (.cells B cs up true)),h.next⟩:=by
  unfold H.adopt at a;rw [A]at a;cases a;rfl
 subst a2;obtain⟨q1,q2⟩:=bW.1 S;obtain⟨q3,q4⟩:=bW.1 q2;obtain⟨q5,q6⟩:=bW.1 q4;cases q6;have hk:h.next<bZ:=by simpa using q5
 rw [cq]at q3;have Y:B+l.length<bZ:=by simpa using q3
 have a9:=hl.length;obtain⟨b',o',z',s,t,k1,Z,k3,k4,k5,k6⟩:=r.blk id _ _ hg A;rw [hg]at k1;cases k1;have a7:len*n+m*n<=c*n:=by rw [<-Nat.add_mul];exact Nat.mul_le_mul_right _ C
 have Q:(⟨b,o+off,none⟩:Addr).add (len*n)=⟨b,o+off+len*n,none⟩:=by simp [Addr.add]
 have M:=run_storeCells_at (P:=P) b (o+off+len*n) t us 0 s w Z (by omega) (ud hl q1);simp only [Nat.add_zero]at M;generalize K:(s.toList.take (o+off+len*n)++us++s.toList.drop (o+off+len*n+us.length)).toArray=nc at M;have a6:nc.size=o+z:=by rw [<-K];simp;omega
 have F:∀j,j<o+off+len*n->nc[j]? =s[j]? :=by
  intro j f;rw [<-K];simp only [List.getElem?_toArray,List.append_assoc];rw [List.getElem?_append_left (by simp;omega),List.getElem?_take,if_pos f];simp
 have J:∀(j:Nat) (u:Value),us[j]? =some u->nc[o+off+len*n+j]? =some u:=by
  intro j u f;have b5:j<us.length:=by
   rcases Nat.lt_or_ge j us.length with k|k
   ·exact k
   ·rw [List.getElem?_eq_none k]at f;cases f
  rw [<-K];simp only [List.getElem?_toArray,List.append_assoc];rw [List.getElem?_append_right (by simp;omega)];have:(List.take (o+off+len*n) s.toList).length=o+off+len*n:=by simp;omega
  rw [this,List.getElem?_append_left (by omega),show o+off+len*n+j-(o+off+len*n)=j by omega];exact f
 have y:=setRow_heap w b s nc t (0,0) Z;have a0:=r.lt _ _ _ _ hg;have O:g h.next=none:=by
  cases e:g h.next with
  |none=>rfl
  |some x=>exact absurd (r.dom _ _ e) (by omega)
 have N:g.le (fp g h.next (b,o+off,z-off)):=fO _ O;have a5:=r.top _ _ A;obtain⟨wr,G⟩:=WR.child (w':=w.setRow b nc) (n':=Nat.add B (cD l)) (cs':=cM l B cs) (off:=off) (b1:=b) (o1:=o+off) (z1:=z-off) r hg A hk (by
   show B<=off+(B+cD l);omega) (λj x k i p=>by
   obtain⟨b2,o2,z2⟩:=x
   by_cases hb2:b2=b
   ·subst hb2
    cases lq:k.live with
    |false=>cases k<;>first|trivial|cases lq
    |true=>
     have keep:∀{n2:Nat} {E:Tr V},Cells g w j n2 E->o2+n2<=o+B->Cells g (w.setRow b2 nc) j n2 E:=by
      intro n2 E hC a8;obtain⟨b3,o3,z3,c3,t3,p1,p2,p3,p4,p5,p6⟩:=hC;rw [i]at p1;cases p1;rw [Z]at p2;cases p2;refine⟨b2,o2,z2,nc,t,i,y,by omega,p4,p5,λq v hq hv=>?_⟩;obtain⟨u,D,I,W⟩:=p6 q v hq hv;exact⟨u,by rw [F _ (by omega)];exact D,I,W⟩
     by_cases f:j=id
     ·subst f
      rw [A]at p;cases p;rw [hg]at i;cases i;exact keep (r.blk _ _ _ hg A) (Nat.le_refl _)
     ·rcases r.mates id j b2 o z o2 z2 _ k (λh=>f h.symm) hg i A p rfl lq with⟨d,u,e⟩ | ⟨d,u,e⟩ | ⟨x1,_⟩
      ·have L:=r.upExt u _ _ A p
       obtain⟨q,U,D,I⟩:=r.last u;rw [p]at D;cases D;cases k with
       |cells n2 E up2 ch2=>exact keep (r.blk _ _ _ i p) (by simp only [Blk.len]at L;omega)
       |_=>cases I
      ·obtain⟨q,U,D,I⟩:=r.last u
       rw [A]at D;cases D;cases I
      ·cases x1
   ·exact BR.move i (kq nc hb2) (r.blk _ _ _ i p)) (Nat.le_of_eq (nk nc).symm) (by rw [nk];exact a0) (.inl ⟨rfl,rfl⟩) (by
   refine qZ (us:=us) (z:=z-off) q1 Y (hl.mono N) (cH _ _ _) y (by omega) (by omega) (λj v f hv=>?_) λj u f=>?_
   ·obtain⟨u,D,I,W⟩:=k6 j v f hv
    refine⟨u,?_,I.mono N,W⟩;rw [F _ (by omega),show o+off+j=o+j by omega];exact D
   ·have:=J _ u f
    rw [show o+off+(B+j)=o+off+len*n+j by omega];exact this)
 refine⟨fp g h.next (b,o+off,z-off),w.setRow b nc,⟨N,Nat.le_succ _,wr,λj f e=>⟨by rw [dK _ (by omega)];exact e,?_⟩,Nat.le_of_eq (nk nc).symm,λk b0 hn=>kq nc (λe=>hn id o z (e▸hg)),λj k o' z' i p=>?_,λj k o' z' n' cs' i p=>?_,rfl,rfl,rfl⟩,by rw [Q];exact M,?_⟩
 ·have L:=G j
  rw [if_neg (by omega),if_neg (λe'=>by rw [e',hg]at e;cases e)]at L;exact L
 ·by_cases f:j=h.next
  ·subst f
   rw [cH]at i;cases i;exact .inr ⟨id,o,z,hg⟩
  ·rw [dK _ f,p]at i
   cases i
 ·have f:=r.dom _ _ i
  have R:j≠id:=λe'=>by rw [e',A]at p;cases p
  have L:=G j;rw [if_neg (by omega),if_neg R]at L;refine⟨L.trans p,kq nc λa1=>?_⟩;subst a1;exact r.lone R i hg p A rfl rfl (.inl rfl) (.inr rfl)
 ·have:=VR.sli (g:=fp g h.next (b,o+off,z-off)) (id:=h.next) (off:=0) (len:=len+m) (cap:=0) (es:=n) (c:=c) (cH _ _ _) (by omega) C
  simpa using this
theorem Cz(r:WR T g h w){id b o z f off len m n nc:Nat}{e:TypeId}{cs:Tr V}{up:Option (Nat×Nat)}{l:List V}{us rest:List Value}{ous:List Value}{K h':H}(hg:g id=some (b,o,z))(E:h.blk id=some (.cells f cs up false))(U:f=off+len*n)
  (O:off=0) (N:∀j v,j<f->cs.get j=some v->∃u,ous[j]? =some u/\VR g v u/\cQ v=true) (G:ous.length=len*n) (Q:VRs g l us) (A:us.length=m*n) (a:h.adopt id=some K) (D:K.shareNew id off f cs l=some h') (S:rest.length=(nc-(len+m))*n) (B:len+m<=nc):
  ∃g',Ext T g h w g' h' (w.drew.alloc (.cells (ous++us++rest).toArray e))/\VR g' (.sl h.next 0 (len+m) 0 false n) (.slice (some ⟨w.heap.size,0,none⟩) (len+m) nc):=by
 have M:K=⟨h.t.put id (some (.cells f cs up true)),h.next⟩:=by
  unfold H.adopt at a;rw [E]at a;cases a;rfl
 subst M;obtain⟨q1,q2⟩:=bW.1 D;obtain⟨q3,q4⟩:=bW.1 q2;obtain⟨q5,Z⟩:=bW.1 q4;cases Z;have hk:h.next<bZ:=by simpa using q5
 rw [cq]at q3;have I:f+l.length<bZ:=by simpa using q3
 have q:g h.next=none:=by
  cases e:g h.next with
  |none=>rfl
  |some x=>exact absurd (r.dom _ _ e) (by omega)
 have y:g.le (fp g h.next (w.heap.size,0,nc*n)):=fO _ q;have P:=r.top _ _ E;have hz:(ous++us).length+rest.length=nc*n:=by
  rw [List.length_append,G,A,S,<-Nat.add_mul,<-Nat.add_mul,Nat.add_sub_cancel' B]
 have a0:=Q.length;obtain⟨wr,p⟩:=WR.child (w':=w.drew.alloc (.cells (ous++us++rest).toArray e)) (n':=Nat.add f (cD l)) (cs':=cM l f cs) (off:=off) (b1:=w.heap.size) (o1:=0) (z1:=nc*n) r hg E hk (by
   show f<=off+(f+cD l);omega) (λj x k d s=>by
   obtain⟨b2,o2,z2⟩:=x;exact BR.move d (eQ (w:=w.drew) (r.lt _ _ _ _ d)) (r.drew1.blk _ _ _ d s)) (by rw [World.size_alloc];exact Nat.le_succ _) (by rw [World.size_alloc];exact Nat.lt_succ_self _) (.inr (Nat.le_refl _)) (by
   refine qZ (us:=us) (b:=w.drew.heap.size) (o:=0) (z:=nc*n) (c:=(ous++us++rest).toArray) (t:=e) q1 I (Q.mono y) (cH _ _ _) (dt _ _) (by simp at hz ⊢;omega) (by
     rw [List.length_append]at hz;omega) (λj v i hv=>?_) λj u i=>?_
   ·obtain⟨u,W,R,s3⟩:=N j v i hv
    refine⟨u,?_,R.mono y,s3⟩;simp only [Nat.zero_add,List.getElem?_toArray,List.append_assoc];rw [List.getElem?_append_left (by omega)];exact W
   ·have Y:j<us.length:=by
     rcases Nat.lt_or_ge j us.length with k|k
     ·exact k
     ·rw [List.getElem?_eq_none k]at i;cases i
    simp only [Nat.zero_add,List.getElem?_toArray,List.append_assoc];rw [List.getElem?_append_right (by omega),List.getElem?_append_left (by omega),show f+j-ous.length=j by omega];exact i)
 refine⟨fp g h.next (w.heap.size,0,nc*n),⟨y,Nat.le_succ _,wr,λj i e=>⟨by rw [dK _ (by omega)];exact e,?_⟩,by rw [World.size_alloc];exact Nat.le_succ _,λk F hn=>eQ (w:=w.drew) F,λj k o' z' d s=>?_,λj k o' z' n' cs' d s=>?_,rfl,rfl,rfl⟩,?_⟩
 ·have C:=p j
  rw [if_neg (by omega),if_neg (λJ=>by rw [J,hg]at e;cases e)]at C;exact C
 ·by_cases i:j=h.next
  ·subst i
   rw [cH]at d;cases d;exact .inl (Nat.le_refl _)
  ·rw [dK _ i,s]at d
   cases d
 ·have i:=r.dom _ _ d
  have L:j≠id:=λJ=>by rw [J,E]at s;cases s
  have C:=p j;rw [if_neg (by omega),if_neg L]at C;exact⟨C.trans s,eQ (w:=w.drew) (r.lt _ _ _ _ d)⟩
 ·exact VR.sli (o:=0) (off:=0) (cH _ _ _) (by omega) B
theorem iC{args:Array Operand}{a:Array TypeId}{x y:Operand}{u:Value}{w':World}(c:args.map ρ=#[ρ x,ρ y])(b:∀ty,(Builtin.append_ a ty #[ρ x,ρ y]).run P w= .ok u w'):AK P ρ w (.call ⟨.builtin .append,args,a⟩) u w':=by
 intro o e
 left
 simp [execOp,e,resolve,invoke,builtin,c,b]
theorem A7{id off len cap es:Nat}{u:Value}(h:VR g (.sl id off len cap true es) u):
  (∃b o z,g id=some (b,o,z)/\u= .slice (some ⟨b,o+off,none⟩) len cap)\/(len=0/\cap=0/\∃b o z p,g id=some (b,o,z)/\u= .slice (some ⟨b,p,none⟩) 0 0):=by
 cases h with
 |slx hg=>exact .inl ⟨_,_,_,hg,rfl⟩
 |slx0 hg=>exact .inr ⟨rfl,rfl,_,_,_,_,hg,rfl⟩
theorem Ff{a off c n need z:Nat}(b:0<n)(hc:off+c*n=z)(hz:a<=z)(h:need<=(a-off)/n):need<=c:=by
 refine Nat.le_trans h ?_;have h1:a-off<=c*n:=by omega
 calc(a-off)/n<=(c*n)/n:=Nat.div_le_div_right h1
  _=c:=Nat.mul_div_cancel c b
theorem Fe{a off n need z:Nat}(hz:a<=z)(ho:z<=off)(h:need<=(a-off)/n):need=0:=by
 have:a-off=0:=by omega
 rw [this,Nat.zero_div]at h;omega
theorem tQ(hT:da P T)(r:WR T g h w)(hE:lF g w){t e t2:TypeId}{n:Nat}{z:V}{i:TypeInfo}{du:TypeDesc}{zs:Option (List V)}{args:Array Operand}{B:Array TypeId}{vs:List V}{v:V}{h':H}(h0:B[0]? =some t)(h1:T.under t=some (.slice e))(hn:jE T e=some n)
  (hi:T.info e=some i) (hz:iV T e=some z) (b7:(cellsOf z).length=n) (b9:0<i.bytes) (a6:i.bytes<1048576) (h2:B[1]? =some t2) (h3:T.under t2=some du) (c8:(∃e',du= .slice e'/\zs=none)\/(du= .int .i64/\zs=some (cellsOf z)))
  (hv:VRs g vs (args.toList.map ρ)) (hr:EOp.run (.append n i.bytes zs) vs h=some (v,h')):Eff P T g h w ρ (.call ⟨.builtin .append,args,B⟩) v h':=by
 obtain⟨s,x,rfl⟩:∃d x,vs=[d,x]:=by
  cases vs with
  |nil=>cases hr
  |cons d vs=>cases vs with
   |nil=>cases hr
   |cons x vs=>cases vs with
    |nil=>exact⟨d,x,rfl⟩
    |cons y vs=>cases hr
 obtain⟨xo,yo,ha,hs,hx⟩:=ua hv rfl;obtain⟨a2,hp⟩:=eY hn;obtain⟨zu,f1,b3⟩:=iB (g:=g) hT hz;have d0:=(gN f1).length;have f0:zu.cells.size=n:=by simpa [b7]using d0.symm
 have I:∀k,(Builtin.zeroCells zu.cells k).toList.length=k*n:=λk=>by simp [Builtin.zeroCells,f0]
 obtain⟨p,e1,e2⟩:=bQ.1 (show ob (jB n zs x h) _=some (v,h')from hr);obtain⟨us,O,C⟩:=F7 (t2:=t2) hT r hE hz b7 hi a6 h3 c8 hx e1;have Z:=C.1;cases s with
 |nils=>
  have b2:ρ xo= .slice none 0 0:=by cases d6:ρ xo<;>rw [d6]at hs<;>cases hs;rfl
  simp only [cO]at e2
  by_cases hp0:p.1=0
  ·rw [if_pos (by simp [hp0])]at e2
   cases e2;refine⟨g,w,.slice none 0 0,.refl r,.nils,iC ha λty=>?_⟩;rw [b2];have:=rz (base:=none) (sLen:=0) (sCap:=0) (ty:=ty) hT h0 h1 a2 h2 C (by omega) (w':=w) (λa h=>by cases h) (λ_=>rfl);rw [hp0]at this;exact this
  ·rw [if_neg (by simpa using hp0)]at e2
   obtain⟨R,e4⟩:=bW.1 e2;obtain⟨a5,e5,e6⟩:=bQ.1 e4;cases e6;have A:(0+p.1)*i.bytes<1099511627776:=by simpa [lI]using R
   obtain⟨nc,F,G⟩:∃newCap,0+p.1<=newCap/\∀ty,(Builtin.append_ B ty #[.slice none 0 0,ρ yo]).run P w= .ok (.slice (some ⟨w.heap.size,0,none⟩) (0+p.1) newCap) (w.drew.alloc (.cells (#[]++us.toArray++Builtin.zeroCells zu.cells (newCap-(0+p.1))) e)):=by
    obtain⟨nc,F,G⟩:=rA (old:=[]) (base:=none) (sLen:=0) (sCap:=0) (ty:=0) hT h0 h1 a2 h2 C (by omega) (by simp [Builtin.firstCells]) b3 hi b9 a6 A;exact⟨nc,F,λty=>G⟩
   obtain⟨g',M,S⟩:=yi (rest:=(Builtin.zeroCells zu.cells (nc-(0+p.1))).toList) (nc:=nc) (need:=0+p.1) (n:=n) (e:=e) r O (by rw [Z,Nat.zero_add]) e5 (I _) F;refine⟨g',_,_,M,by simpa using S,iC ha λty=>?_⟩;rw [b2,G ty]
   congr 3
   ·simp
   ·apply Array.ext'
    simp
 |sl id off len cap ex es'=>
  obtain⟨q1,q2⟩:=bW.1 e2;obtain⟨pc,q3,q4⟩:=bQ.1 q2;obtain rfl:n=es':=by simpa using q1
  simp only [cO]at q4;have a0:∀{q:Option Addr} {sCap:Nat},ρ xo= .slice q len sCap->¬len+p.1<=sCap->(len+p.1)*i.bytes<1099511627776->∀{ous:List Value},ous.length=len*n->(∀J:World,J.heap=w.heap->(Builtin.firstCells n len (.slice q len sCap)).run P J= .ok ous.toArray J)->
    ∃nc,len+p.1<=nc/\∀ty,(Builtin.append_ B ty #[ρ xo,ρ yo]).run P w= .ok (.slice (some ⟨w.heap.size,0,none⟩) (len+p.1) nc) (w.drew.alloc (.cells (ous++us++(Builtin.zeroCells zu.cells (nc-(len+p.1))).toList).toArray e)):=by
   intro q sCap m W A ous f2 hf;obtain⟨nc,F,G⟩:=rA (old:=ous) (base:=q) (sLen:=len) (sCap:=sCap) (ty:=0) hT h0 h1 a2 h2 C W (hf w.drew rfl) b3 hi b9 a6 A;refine⟨nc,F,λty=>?_⟩;rw [m];refine Eq.trans (show _=_ from G) ?_
   congr 3
   apply Array.ext';simp
  have b0:∀{old:List V},h.rd id off (len*n)=some old->∀{q:Option Addr} {sCap:Nat},ρ xo= .slice q len sCap->∃ous,VRs g old ous/\ous.length=len*n/\∀J:World,J.heap=w.heap->(Builtin.firstCells n len (.slice q len sCap)).run P J= .ok ous.toArray J:=by
   intro old d2 q sCap m;have:lP n (.sl id off len cap ex n) h=some (len,old):=by
    show oif (Nat.beq n n) (ob (h.rd id off (Nat.mul len n)) λl=>some (len,l))=_;rw [lI,d2];simp [oif,ob]
   obtain⟨ous,F,G,k3,k4⟩:=zf (P:=P) r hE hs this;refine⟨ous,F,G,λJ hw=>?_⟩;have:=k4 J hw len (Nat.le_refl _);rw [<-G,List.take_length]at this;rw [<-m];exact this
  have K:∀{q:Option Addr} {sCap:Nat} {w':World},ρ xo= .slice q len sCap->len+p.1<=sCap->(∀a,q=some a->(storeCells (a.add (len*n)) us).run P w= .ok () w')->(q=none->w'=w)->
    AK P ρ w (.call ⟨.builtin .append,args,B⟩) (.slice q (len+p.1) sCap) w':=by
   intro q sCap w' m W d1 b5;refine iC ha λty=>?_;rw [m];exact rz hT h0 h1 a2 h2 C W d1 b5
  have D:p.1=0->p.2=[]/\us=[]:=by
   intro h0;have a1:us=[]:=List.eq_nil_of_length_eq_zero (by rw [Z,h0,Nat.zero_mul]);subst a1;exact⟨List.eq_nil_of_length_eq_zero O.length,rfl⟩
  by_cases hroom:Nat.ble (Nat.add len p.1) (if ex=true then cap else Nat.div (Nat.sub pc.1 off) n)=true
  ·
   rw [if_pos hroom]at q4;obtain⟨a5,R,e4⟩:=bQ.1 q4;cases e4;rw [rJ,lI]at R;have f:len+p.1<=if ex=true then cap else(pc.1-off)/n:=by simpa [J8,xW]using hroom
   have place:∀{b o z c:Nat},g id=some (b,o,z)->ρ xo= .slice (some ⟨b,o+off,none⟩) len c->len+p.1<=c->∃w',Ext T g h w g h' w'/\AK P ρ w (.call ⟨.builtin .append,args,B⟩) (.slice (some ⟨b,o+off,none⟩) (len+p.1) c) w':=by
    intro b o z c hg m hc;obtain⟨w',M,s1⟩:=wX (P:=P) (i:=off+len*n) (k:=0) r hg O R;refine⟨w',M,K m hc (λa ha=>?_) (λh=>by cases h)⟩;cases ha;have Y:(⟨b,o+off,none⟩:Addr).add (len*n)=⟨b,o+(off+len*n),none⟩:=by simp [Addr.add,Nat.add_assoc]
    rw [Y];exact s1
   cases ex with
   |true=>
    rw [if_pos rfl]at f;rcases A7 hs with⟨b,o,z,hg,m⟩ | ⟨rfl,rfl,b,o,z,pp,hg,m⟩
    ·obtain⟨w',M,S⟩:=place hg m f
     exact⟨g,w',_,M,.slx hg,S⟩
    ·obtain⟨a8,a1⟩:=D (by omega)
     rw [a8]at R;cases R;refine⟨g,w,_,.refl r,?_,K m (by omega) (λa _=>by rw [a1];simp [storeCells]) (λh=>by cases h)⟩;rw [rJ,show 0+p.1=0 by omega];exact .slx0 hg
   |false=>
    rw [if_neg (by decide)]at f;have b8:∀{b o z:Nat},g id=some (b,o,z)->pc.1<=z:=by
     intro b o z hg;obtain⟨_,_,z',_,_,F,_,_,k4,_⟩:=vz r hg q3;rw [hg]at F;cases F;exact k4
    rcases hs.sli_inv with⟨b,o,z,c,hg,hc,hl,m⟩ | ⟨b,o,z,q,hg,rfl,hzo,m⟩
    ·have Q:=Ff hp hc (b8 hg) f
     obtain⟨w',M,S⟩:=place hg m Q;exact⟨g,w',_,M,.sli hg hc Q,S⟩
    ·have f4:=Fe (b8 hg) hzo f
     obtain⟨a8,a1⟩:=D (by omega);rw [a8]at R;cases R;refine⟨g,w,_,.refl r,?_,K m (by omega) (λa _=>by rw [a1];simp [storeCells]) (λh=>by cases h)⟩;rw [rJ,show 0+p.1=0 by omega];exact .sl0 hg hzo
  ·rw [if_neg hroom]at q4
   have f:¬len+p.1<=if ex=true then cap else(pc.1-off)/n:=by simpa [J8,xW]using hroom
   by_cases hex:ex=true
   ·
    rw [if_pos hex]at q4;subst hex;rw [if_pos rfl]at f;obtain⟨R,e4⟩:=bW.1 q4;obtain⟨old,e5,e6⟩:=bQ.1 e4;obtain⟨a5,e7,e8⟩:=bQ.1 e6;cases e8;have A:(len+p.1)*i.bytes<1099511627776:=by simpa [lI,rJ]using R
    have E:∀{q:Option Addr},ρ xo= .slice q len cap->Eff P T g h w ρ (.call ⟨.builtin .append,args,B⟩) (.sl h.next 0 (len+p.1) 0 false n) h':=by
     intro q m;obtain⟨ous,F,G,k3⟩:=b0 e5 m;obtain⟨nc,m1,m2⟩:=a0 m f A G k3;obtain⟨g',M,S⟩:=yi (rest:=(Builtin.zeroCells zu.cells (nc-(len+p.1))).toList) (nc:=nc) (need:=len+p.1) (n:=n) (e:=e) r (F.append O) (by rw [List.length_append,G,Z,Nat.add_mul]) e7 (I _) m1;exact⟨g',_,_,M,S,iC ha m2⟩
    rcases A7 hs with⟨b,o,z,hg,m⟩ | ⟨rfl,rfl,b,o,z,pp,hg,m⟩
    ·exact E m
    ·exact E m
   ·
    rw [if_neg hex]at q4;have b4:ex=false:=by simpa using hex
    subst b4;rw [if_neg (by decide)]at f;obtain⟨b1,R⟩:=bW.1 q4;obtain⟨e4,e7⟩:=bW.1 R;obtain⟨c1,e8,e9⟩:=bQ.1 e7;obtain⟨a5,b6,e0⟩:=bQ.1 e9;cases e0;have A:(len+p.1)*i.bytes<1099511627776:=by simpa [lI,rJ]using e4
    rw [Bool.and_eq_true]at b1;have U:off=0:=by simpa using b1.2
    have a9:pc.1=off+len*n:=by
     have:pc.1=len*n:=by simpa [lI]using b1.1
     omega
    obtain⟨up,L⟩:∃up,h.blk id=some (.cells pc.1 pc.2 up false):=by
     unfold H.cells at q3;obtain⟨bb,y1,y2⟩:=bQ.1 q3;have:=e8;unfold H.adopt at this;rw [y1]at this;cases bb with
     |cells n0 cs0 up0 ch0=>
      cases y2;obtain⟨c6,_⟩:=bW.1 (show oif (!ch0) _=some c1 from this);have:ch0=false:=by simpa using c6
      subst this;exact⟨up0,y1⟩
     |_=>cases this
    have a7:c1.next=h.next:=by
     have:=e8;unfold H.adopt at this;rw [L]at this;cases this;rfl
    have E:∀{q:Option Addr} {c b o z:Nat},g id=some (b,o,z)->ρ xo= .slice q len c->¬len+p.1<=c->∀{ous:List Value},ous.length=len*n->(∀j v,j<pc.1->pc.2.get j=some v->∃u,ous[j]? =some u/\VR g v u/\cQ v=true)->
      (∀J:World,J.heap=w.heap->(Builtin.firstCells n len (.slice q len c)).run P J= .ok ous.toArray J)->Eff P T g h w ρ (.call ⟨.builtin .append,args,B⟩) (.sl h.next 0 (len+p.1) 0 false n) h':=by
     intro q c b o z hg m hc ous G F k3;obtain⟨nc,m1,m2⟩:=a0 m hc A G k3;obtain⟨g',M,S⟩:=Cz (e:=e) (rest:=(Builtin.zeroCells zu.cells (nc-(len+p.1))).toList) (nc:=nc) r hg L a9 U F G O Z e8 b6 (I _) m1;exact⟨g',_,_,M,S,iC ha m2⟩
    rw [a7];rcases hs.sli_inv with⟨b,o,z,c,hg,hc,hl,m⟩ | ⟨b,o,z,q,hg,rfl,hzo,m⟩
    ·by_cases Q:len+p.1<=c
     ·obtain⟨g',w',M,s1,S⟩:=Cy (P:=P) r hg L a9 hc Q U O Z e8 b6
      exact⟨g',w',_,M,S,K m Q (λa ha=>by cases ha;exact s1) (λh=>by cases h)⟩
     ·obtain⟨b',o',z',a3,t',F,G,k3,k4,k5,k6⟩:=r.blk id _ _ hg L
      rw [hg]at F;cases F;have c0:∀j,((a3.toList.drop o).take (len*n))[j]? =if j<len*n then a3[o+j]? else none:=λj=>by
       rw [List.getElem?_take]
       split
       ·rw [List.getElem?_drop,Array.getElem?_toList]
       ·rfl
      have a4:((a3.toList.drop o).take (len*n)).length=len*n:=by
       rw [List.length_take,List.length_drop,Array.length_toList];omega
      refine E hg m Q (ous:=(a3.toList.drop o).take (len*n)) a4 (λj v hj hv=>?_) (λJ hw=>fJ a4 λj u hj=>?_)
      ·obtain⟨u,s1,s2,s3⟩:=k6 j v hj hv
       exact⟨u,by rw [c0,if_pos (by omega)];exact s1,s2,s3⟩
      ·rw [c0]at hj
       split at hj
       ·have Y:(⟨b,o+off,none⟩:Addr).add j=⟨b,o+off+j,none⟩:=by simp [Addr.add]
        rw [Y,show o+off+j=o+j by omega];simp [World.cell?,hw,G,hj]
       ·cases hj
    ·refine E hg m (λh0=>f (Nat.le_trans h0 (Nat.zero_le _))) (ous:=[]) (by simp) (λj v hj _=>?_) (λJ hw=>?_)
     ·rw [a9,U]at hj
      omega
     ·exact fJ (by simp) λj u hj=>by simp at hj
 |_=>cases e2
end
end Ev
end Go.Proofs.YtdfphfdnoobikaaGreatDoor
