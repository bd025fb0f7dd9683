/-
  Operations that write memory:stores,copies,cleared slices,maps,strings that are ranged over.
-/
import Derived.Test.YtdfphfdnoobikaaGreatDoorEvAlloc
import Derived.Laws.RangeString
namespace Go.Proofs.YtdfphfdnoobikaaGreatDoor
namespace Ev
variable [Env]
set_option linter.unusedSectionVars false
section
variable {P:Program} {T:Ty} {g:G} {ρ:Operand->Value} {h:H} {w:World}
def AK(P:Program)(ρ:Operand->Value)(w:World)(op:Op)(u:Value)(w':World):Prop:=
 ∀o:Oper,o.op=op->(execOp ρ o).run P w= .ok (.value u) w'\/((execOp ρ o).run P w= .ok .skip w'/\u=undef)
def Eff(P:Program)(T:Ty)(g:G)(h:H)(w:World)(ρ:Operand->Value)(op:Op)(v:V)(h':H):Prop:=
 ∃g' w' u,Ext T g h w g' h' w'/\VR g' v u/\AK P ρ w op u w'
theorem gG:VR g cT undef:=VR.tup .nil
theorem AO(id:Nat)(v:V)(l:List V)(i:Nat)(h:H):H.wr id (v ::l) i h=ob (h.wr1 id i v) λh=>H.wr id l (i+1) h:=rfl
theorem uK{w:World}{a:Addr}{v x:Value}(h1:v.oneCell'=true)(h2:w.cell? a=some x)(b:w.frozen? a=false):(store a v).run P w= .ok () (w.setCell a v):=by
 cases v<;>first|(simp [store,Sem.run,h2,b];done)|cases h1
theorem wX:∀{l:List V} {us:List Value} {i k:Nat} {h h':H} {w:World} {id b o z:Nat},WR T g h w->g id=some (b,o,z)->VRs g l us->H.wr id l (i+k) h=some h'->
  ∃w',Ext T g h w g h' w'/\(storeCells ⟨b,o+i,none⟩ us k).run P w= .ok () w'
 |[],_,i,k,h,h',w,id,b,o,z,r,hg,hl,e=>by
  cases hl;cases e;exact⟨w,.refl r,by simp [storeCells]⟩
 |v ::l,_,i,k,h,h',w,id,b,o,z,r,hg,hl,e=>by
  cases hl with
  |cons hv ht=>
   rename_i u us
   rw [AO]at e;obtain⟨h1,e1,e2⟩:=bQ.1 e;obtain⟨x1,⟨c,hc⟩,hf⟩:=Ext.wr1 r e1 hg hv;have hone:cQ v=true:=by
    unfold H.wr1 at e1;obtain⟨m,_,d⟩:=bQ.1 e1;cases m with
    |cells n cs up ch=>
     obtain⟨_,j⟩:=bW.1 d;obtain⟨_,p⟩:=bW.1 j;exact(bW.1 p).1
    |_=>cases d
   obtain⟨w',f,h2⟩:=wX (i:=i) (k:=k+1) x1.wr hg ht e2;refine⟨w',x1.trans f,?_⟩;have a:(⟨b,o+(i+k),none⟩:Addr)=(⟨b,o+i,none⟩:Addr).add k:=by simp [Addr.add,Nat.add_assoc]
   rw [a]at hc hf h2;simp only [storeCells,Sem.run_bind,uK (oI hv hone) hc hf,Result.andThen_ok];rw [<-a]at h2 ⊢;exact h2
theorem Dc(C:da P T)(r:WR T g h w){t:TypeId}{n:Nat}{x y:Operand}{a b v:V}{h':H}(m:im T t=some n)(e:VR g a (ρ x))(A:VR g b (ρ y))(d:EOp.run (.store n) [a,b] h=some (v,h')):
  Eff P T g h w ρ (.store t x y) v h':=by
 cases a with
 |ptr id off=>
  obtain⟨j,s⟩:=bW.1 (show oif (Nat.beq (cD (cellsOf b)) n) (ob (H.wr id (cellsOf b) off h) λh=>some (cT,h))=some (v,h')from d);obtain⟨h1,p,D⟩:=bQ.1 s;cases D;cases f:ρ x<;>rw [f]at e<;>cases e
  rename_i E o z hg
  have hc:=gN A;obtain⟨w',l,B⟩:=wX (P:=P) (i:=off) (k:=0) r hg hc p;have c:=hc.length;rw [cq]at j;have u:(cellsOf b).length=n:=by simpa using j
  refine⟨g,w',undef,l,gG,λo' q=>.inr ⟨?_,rfl⟩⟩;have hs:¬(ρ y).cells.size≠n:=by simp only [ne_eq,Decidable.not_not];simp at c;omega
  simp only [execOp,q,f,Instr.storeAt,Instr.sureAddr,storeVar,Sem.run_bind,Sem.run_pure,Result.andThen_ok,cL C m];rw [if_neg hs];simp [B]
 |_=>cases d
theorem fJ{a:Addr}{len cap n es:Nat}{us:List Value}(b:us.length=n*es)(hc:∀(j:Nat) (u:Value),us[j]? =some u->w.cell? (a.add j)=some u):
  (Builtin.firstCells es n (.slice (some a) len cap)).run P w= .ok us.toArray w:=by
 simp only [Builtin.firstCells];rw [<-b];exact run_loadCells_list w a us hc
theorem zf(r:WR T g h w)(hE:lF g w){es:Nat}{a:V}{u:Value}{p:Nat×List V}(y:VR g a u)(e:lP es a h=some p):
  ∃us:List Value,VRs g p.2 us/\us.length=p.1*es/\(∀w,(Builtin.lenOf u).run P w= .ok p.1 w)/\
   ∀w2:World,w2.heap=w.heap->∀k,k<=p.1->(Builtin.firstCells es k u).run P w2= .ok (us.take (k*es)).toArray w2:=by
 cases a with
 |nils=>
  cases e;cases y;refine⟨[],.nil,by simp,λw=>by simp [Builtin.lenOf],λw2 _ k _=>by simp [Builtin.firstCells]⟩
 |sl id off len cap ex es'=>
  obtain⟨E,B⟩:=bW.1 (show oif (Nat.beq es es') (ob (h.rd id off (Nat.mul len es)) λl=>some (len,l))=some p from e);obtain⟨l,v,L⟩:=bQ.1 B;cases L;have main:∀{b o z:Nat} {u:Value},g id=some (b,o,z)->(∃c,u= .slice (some ⟨b,o+off,none⟩) len c)->∃us:List Value,VRs g l us/\us.length=len*es/\(∀w,(Builtin.lenOf u).run P w= .ok len w)/\
   ∀w2:World,w2.heap=w.heap->∀k,k<=len->(Builtin.firstCells es k u).run P w2= .ok (us.take (k*es)).toArray w2:=by
   intro b o z u hg G;obtain⟨c,rfl⟩:=G;obtain⟨us,K,x,I,_⟩:=Bp r hg v;have f:∀j,(⟨b,o+off,none⟩:Addr).add j=⟨b,o+off+j,none⟩:=λj=>by simp [Addr.add]
   rw [lI]at x;refine⟨us,K,x,λw=>by simp [Builtin.lenOf],λw2 s k i=>fJ ?_ λj u d=>?_⟩
   ·rw [List.length_take,x,Nat.min_eq_left (Nat.mul_le_mul_right es i)]
   ·rw [f]
    have A:∀q,w2.cell? q=w.cell? q:=λq=>by simp [World.cell?,s]
    rw [A];refine I j u ?_;rw [List.getElem?_take]at d
    split at d
    ·exact d
    ·cases d
  have empty:∀{b p:Nat},len=0->∃us:List Value,VRs g l us/\us.length=0*es/\(∀w,(Builtin.lenOf (.slice (some ⟨b,p,none⟩) 0 0)).run P w= .ok 0 w)/\
   ∀w2:World,w2.heap=w.heap->∀k,k<=0->(Builtin.firstCells es k (.slice (some ⟨b,p,none⟩) 0 0)).run P w2= .ok (us.take (k*es)).toArray w2:=by
   intro b p h0;subst h0;have C:l=[]:=by
    rw [lI,Nat.zero_mul]at v;unfold H.rd at v;obtain⟨q,_,J⟩:=bQ.1 v;cases J;rfl
   subst C;refine⟨[],.nil,by simp,λw=>by simp [Builtin.lenOf],λw2 s k i=>fJ ?_ λj u d=>?_⟩
   ·rw [show k=0 by omega];simp
   ·simp at d
  cases y with
  |slx hg=>exact main hg ⟨_,rfl⟩
  |sli hg hc C=>exact main hg ⟨_,rfl⟩
  |sl0 hg _=>exact empty rfl
  |slx0 hg=>exact empty rfl
 |lst n es' cs=>
  obtain⟨E,B⟩:=bW.1 (show oif (Nat.beq es es') (some (n,cs))=some p from e);cases B;have F:es=es':=by simpa using E
  subst F;cases y with
  |lst hEb hxs C hvs=>
   rename_i b o cap c xs
   obtain⟨⟨t,M⟩,_⟩:=hE b c hEb;have D:=hvs.length;have m:xs.length=n*es:=by omega
   refine⟨xs,hvs,m,λw=>by simp [Builtin.lenOf],λw2 s k i=>fJ ?_ λj u d=>?_⟩
   ·rw [List.length_take,m,Nat.min_eq_left (Nat.mul_le_mul_right es i)]
   ·rw [List.getElem?_take]at d
    split at d
    ·have f:(⟨b,o,none⟩:Addr).add j=⟨b,o+j,none⟩:=by
      simp only [Addr.add]
      split
      ·rename_i q;subst q;rfl
      ·rfl
     rw [f];simp [World.cell?,s,M,hxs j u d]
    ·cases d
  |lst0=>exact⟨[],.nil,by simp,λw=>by simp [Builtin.lenOf],λw2 _ k _=>by simp [Builtin.firstCells]⟩
  |lstz=>exact⟨[],.nil,by simp,λw=>by simp [Builtin.lenOf],λw2 _ k i=>by
    obtain rfl:k=0:=Nat.le_zero.1 i;simp [Builtin.firstCells,loadCells];rfl⟩
 |_=>cases e
theorem ua{args:Array Operand}{vs:List V}{a b:V}(f:VRs g vs (args.toList.map ρ))(h:vs=[a,b]):∃x y,args.map ρ=#[ρ x,ρ y]/\VR g a (ρ x)/\VR g b (ρ y):=by
 subst h;have c:=f.length;simp at c;cases d:args.toList with
 |nil=>rw [<-Array.length_toList,d]at c;cases c
 |cons x l=>cases l with
  |nil=>rw [<-Array.length_toList,d]at c;simp at c
  |cons y l=>cases l with
   |cons z l=>rw [<-Array.length_toList,d]at c;simp at c
   |nil=>
    rw [d]at f;obtain⟨p,q,e,h1,h2⟩:=f.two;cases e;exact⟨x,y,by apply Array.ext';simp [d],h1,h2⟩
theorem FI{args:Array Operand}{vs:List V}{a:V}(d:VRs g vs (args.toList.map ρ))(h:vs=[a]):∃x,args.map ρ=#[ρ x]/\VR g a (ρ x):=by
 subst h;have b:=d.length;simp at b;cases c:args.toList with
 |nil=>rw [<-Array.length_toList,c]at b;cases b
 |cons x l=>cases l with
  |cons y l=>rw [<-Array.length_toList,c]at b;simp at b
  |nil=>
   rw [c]at d;obtain⟨p,e,h1⟩:=d.one;cases e;exact⟨x,by apply Array.ext';simp [c],h1⟩
theorem xC{id off len cap es:Nat}{ex:Bool}{u:Value}(h:VR g (.sl id off len cap ex es) u):
  (∃b o z c,g id=some (b,o,z)/\u= .slice (some ⟨b,o+off,none⟩) len c)\/(len=0/\∃b o z p,g id=some (b,o,z)/\u= .slice (some ⟨b,p,none⟩) 0 0):=by
 cases h with
 |slx hg=>exact .inl ⟨_,_,_,_,hg,rfl⟩
 |sli hg hc hl=>exact .inl ⟨_,_,_,_,hg,rfl⟩
 |sl0 hg _=>exact .inr ⟨rfl,_,_,_,_,hg,rfl⟩
 |slx0 hg=>exact .inr ⟨rfl,_,_,_,_,hg,rfl⟩
theorem Fb(m:da P T)(r:WR T g h w)(hE:lF g w){t e:TypeId}{n:Nat}{args:Array Operand}{f:Array TypeId}{vs:List V}{v:V}{h':H}(h0:f[0]? =some t)(h1:T.under t=some (.slice e))(S:jE T e=some n)
  (N:VRs g vs (args.toList.map ρ)) (s:EOp.run (.copy n) vs h=some (v,h')):Eff P T g h w ρ (.call ⟨.builtin .copy,args,f⟩) v h':=by
 obtain⟨d,x,rfl⟩:∃d x,vs=[d,x]:=by
  cases vs with
  |nil=>cases s
  |cons d vs=>cases vs with
   |nil=>cases s
   |cons x vs=>cases vs with
    |nil=>exact⟨d,x,rfl⟩
    |cons y vs=>cases s
 obtain⟨E,O,I,hd,W⟩:=ua N rfl;have a:=(eY S).1;obtain⟨p,Q,K⟩:=bQ.1 (show ob (lP n x h) (λp=>match d with
  |.nils=>some (.int .i64 (Int.ofNat 0),h)
  |.sl id off len _ _ es'=>oif (Nat.beq n es') (ob (iR (Nat.mul (Nat.min p.1 len) n) p.2) λl=>ob (H.wr id l off h) λh=>some (.int .i64 (Int.ofNat (Nat.min p.1 len)),h))
  |_=>none)=some (v,h')from s)
 obtain⟨us,k1,k2,J,L⟩:=zf (P:=P) r hE W Q;have zero:∀{u:Value},u=ρ E->(∃q c,u= .slice q 0 c)->AK P ρ w (.call ⟨.builtin .copy,args,f⟩) (.int .i64 (Int.ofNat 0)) w:=by
  intro u j C o B;obtain⟨q,c,C⟩:=C;have A:(Builtin.firstCells n 0 (ρ O)).run P w= .ok #[] w:=by
   rw [L w rfl 0 (Nat.zero_le _)];simp
  left
  cases q with
  |none=>simp [execOp,B,resolve,invoke,builtin,I,Builtin.copy_,<-j,C,h0,bU m h1,J,cL m a,A,goInt]
  |some q=>simp [execOp,B,resolve,invoke,builtin,I,Builtin.copy_,<-j,C,h0,bU m h1,J,cL m a,A,goInt,storeCells]
 cases d with
 |nils=>
  cases K;have D:ρ E= .slice none 0 0:=by cases G:ρ E<;>rw [G]at hd<;>cases hd;rfl
  exact⟨g,w,_,.refl r,.int .i64 _,zero rfl ⟨none,0,D⟩⟩
 |sl id off len cap ex es'=>
  obtain⟨_,Y⟩:=bW.1 K;obtain⟨l,e4,U⟩:=bQ.1 Y;obtain⟨h2,F,Z⟩:=bQ.1 U;cases Z;obtain⟨rfl,a0⟩:=oC e4;rw [lI,GI]at*;rcases xC hd with⟨b,o,z,c,hg,j⟩ | ⟨rfl,b,o,z,q,hg,j⟩
  ·have hl:=k1.take (min p.1 len*n)
   obtain⟨w',R,M⟩:=wX (P:=P) (i:=off) (k:=0) r hg hl F;refine⟨g,w',_,R,.int .i64 _,λo' B=>.inl ?_⟩;have A:=L w rfl (min p.1 len) (Nat.min_le_left _ _);simp [execOp,B,resolve,invoke,builtin,I,Builtin.copy_,j,h0,bU m h1,J,cL m a,GI,A,M,goInt]
  ·simp only [Nat.min_zero,Nat.zero_mul,List.take_zero]at F ⊢
   cases F;exact⟨g,w,_,.refl r,.int .i64 _,zero rfl ⟨_,0,j⟩⟩
 |_=>cases K
theorem D7(n:Nat):ku [] n=[]:=by
 induction n with
 |zero=>rfl
 |succ n ih=>rw [uQ,ih];rfl
theorem Bo{z:List V}{zs:Array Value}(hz:VRs g z zs.toList)(n:Nat):VRs g (ku z n) ((List.range (n*zs.size)).map λi=>zs[i%zs.size]!):=by
 rcases Nat.eq_zero_or_pos zs.size with h0|hp
 ·have b:=hz.length
  have a:z.length=0:=by simpa [h0]using b
  rw [List.eq_nil_of_length_eq_zero a,D7,h0];simp only [Nat.mul_zero,List.range_zero,List.map_nil];exact .nil
 ·exact vP hz hp n
theorem Dh(B:da P T)(r:WR T g h w){t e:TypeId}{z:V}{args:Array Operand}{f:Array TypeId}{vs:List V}{v:V}{h':H}(h0:f[0]? =some t)(h1:T.under t=some (.slice e))(hz:iV T e=some z)
  (F:VRs g vs (args.toList.map ρ)) (l:EOp.run (.clear (cellsOf z)) vs h=some (v,h')):Eff P T g h w ρ (.call ⟨.builtin .clear,args,f⟩) v h':=by
 obtain⟨d,rfl⟩:∃d,vs=[d]:=by
  cases vs with
  |nil=>cases l
  |cons d vs=>cases vs with
   |nil=>exact⟨d,rfl⟩
   |cons y vs=>cases d<;>cases l
 obtain⟨s,D,hd⟩:=FI F rfl;obtain⟨L,C,x⟩:=iB (g:=g) B hz;have a:∀{q:Option Addr} {c:Nat},ρ s= .slice q 0 c->AK P ρ w (.call ⟨.builtin .clear,args,f⟩) (.tuple #[]) w:=by
  intro q c j o p
  left
  cases q<;>simp [execOp,p,resolve,invoke,builtin,D,Builtin.clear_,j,h0,bU B h1]
 cases d with
 |nils=>
  cases l;have n:ρ s= .slice none 0 0:=by cases u:ρ s<;>rw [u]at hd<;>cases hd;rfl
  exact⟨g,w,_,.refl r,VR.tup .nil,a n⟩
 |sl id off len cap ex es=>
  obtain⟨K,I⟩:=bW.1 (show oif (Nat.beq (cD (cellsOf z)) es) (ob (H.wr id (ku (cellsOf z) len) off h) λh=>some (.tup [],h))=some (v,h')from l);obtain⟨h2,A,J⟩:=bQ.1 I;cases J;rcases xC hd with⟨b,o,zz,c,hg,j⟩ | ⟨rfl,b,o,zz,q,hg,j⟩
  ·cases len with
   |zero=>
    cases A;exact⟨g,w,_,.refl r,VR.tup .nil,a j⟩
   |succ len=>
    have hc:=gN C;have m:=Bo hc (len+1);obtain⟨w',G,E⟩:=wX (P:=P) (i:=off) (k:=0) r hg m A;refine⟨g,w',_,G,VR.tup .nil,λo' p=>.inl ?_⟩;simp [execOp,p,resolve,invoke,builtin,D,Builtin.clear_,j,h0,bU B h1,x,Builtin.zeroCells,E]
  ·cases A
   exact⟨g,w,_,.refl r,VR.tup .nil,a j⟩
 |_=>cases l
theorem rl{w:World}{b:Nat}{o x:Obj}(h:w.heap[b]? =some x):(w.heap.setIfInBounds b o)[b]? =some o:=by
 have a:b<w.heap.size:=by
  rcases Nat.lt_or_ge b w.heap.size with k|k
  ·exact k
  ·rw [Array.getElem?_eq_none k]at h;cases h
 rw [Array.getElem?_setIfInBounds_self_of_lt a]
theorem vA:∀l:List UInt8,mM l.length (ck l)=l
 |[]=>rfl
 |b ::l=>by
  show UInt8.ofNat (Nat.mod (ck (b ::l)) 256) ::mM l.length (Nat.div (ck (b ::l)) 256)=b ::l;have h1:ck (b ::l)=b.toNat+256*ck l:=rfl;have hb:b.toNat<256:=b.toNat_lt;have h2:Nat.mod (ck (b ::l)) 256=b.toNat:=by
   show ck (b ::l)%256=_;rw [h1];omega
  have a:Nat.div (ck (b ::l)) 256=ck l:=by
   show ck (b ::l)/256=_;rw [h1];omega
  rw [h2,a,vA l];simp
theorem G8(s:ByteArray)(a:Nat)(b:a<s.size):Utf8.decode s a=mh s.size (ck s.data.toList) a:=by
 unfold mh;have c:ck s.data.toList/256 ^ a%256=s[a].toNat:=vd (by simp [ByteArray.getElem_eq_getElem_data,<-ByteArray.size_data]);rw [vX,CB,lI,Cv,c,cO]
 split
 ·rename_i e
  exact decode_ascii s a b (by simpa using e)
 ·have:mM s.size (ck s.data.toList)=s.data.toList:=by
   have:=vA s.data.toList
   rwa [Array.length_toList]at this
  rw [this]
theorem Dd(r:WR T g h w){x:Operand}{a v:V}{h':H}(p:VR g a (ρ x))(i:EOp.run .nextS [a] h=some (v,h')):Eff P T g h w ρ (.next x true) v h':=by
 cases a with
 |ptr id off=>
  cases off with
  |succ off=>cases i
  |zero=>
   obtain⟨k,A,e⟩:=bQ.1 (show ob (h.blk id) (λb=>match b with
    |.siter n c pos=>Bool.rec (motive:=λ_=>Option (V×H)) (some (.tup [.bool false],h))
      (some (.tup [.bool true,.int .i64 (Int.ofNat pos),.int .i32 (Int.ofNat (mh n c pos).1)],⟨h.t.put id (some (.siter n c (Nat.add pos (mh n c pos).2))),h.next⟩)) (Nat.blt pos n)
    |_=>none)=some (v,h')from i)
   cases k with
   |siter n c pos=>
    simp only [cO]at e;cases l:ρ x<;>rw [l]at p<;>cases p
    rename_i b o z hg
    obtain⟨E,o',D,s,y,f,q,u,C⟩:=r.blk id _ _ hg A;rw [hg]at y;cases y;subst C
    by_cases hp:pos<n
    ·rw [if_pos (by simpa using hp)]at e
     cases e;have d:pos<s.size:=by omega
     have hd:Utf8.decode s pos=mh n c pos:=by rw [<-q,<-u,G8 s pos d]
     refine⟨g,{w with heap:=w.heap.setIfInBounds b (.stringIter s (pos+(mh n c pos).2))},_,?_,.tup (.cons (.bool true) (.cons (.int _ _) (.cons (.int _ _) .nil))),λo' m=>.inl ?_⟩
     ·refine Ext.upd r hg A rfl rfl rfl (λ_ _ h=>by cases h) (λj B=>?_) (by simp) rfl rfl rfl ⟨b,0,z,s,hg,rl f,q,u,rfl⟩
      simp [Array.getElem?_setIfInBounds_ne (Ne.symm B)]
     ·simp [execOp,m,l,Instr.next,getObj,setObj,Sem.run,f,d,hd,goInt]
    ·rw [if_neg (by simpa using hp)]at e
     cases e;refine⟨g,w,_,.refl r,.tup (.cons (.bool false) .nil),λo' m=>.inl ?_⟩;have d:¬pos<s.size:=by omega
     simp [execOp,m,l,Instr.next,getObj,Sem.run,f,d]
   |_=>cases e
 |_=>cases i
noncomputable def qx(h:H)(kk:Kk)(k:V):List (V×V)->Option (Option Nat)
 |[]=>some none
 |e ::tl=>ob (g7 h kk k e.1) λb=>if b=true then some (some 0)else ob (qx h kk k tl) λr=>some (r.map (·+1))
theorem Cu(h:H)(kk:Kk)(k v:V)(e:V×V)(a:List (V×V)):oG h kk k v (e ::a)=ob (g7 h kk k e.1) λb=>if b=true then some ((k,v) ::a)else ob (oG h kk k v a) λr=>some (e ::r):=by
 show ob (g7 h kk k e.1) (λb=>Bool.rec (motive:=λ_=>Option (List (V×V))) (ob (oG h kk k v a) λr=>some (e ::r)) (some ((k,v) ::a)) b)=_;simp only [cO]
theorem Di(h:H)(kk:Kk)(k:V)(e:V×V)(a:List (V×V)):wC h kk k (e ::a)=ob (g7 h kk k e.1) λb=>if b=true then some a else ob (wC h kk k a) λr=>some (e ::r):=by
 show ob (g7 h kk k e.1) (λb=>Bool.rec (motive:=λ_=>Option (List (V×V))) (ob (wC h kk k a) λr=>some (e ::r)) (some a) b)=_;simp only [cO]
theorem xP{kk:Kk}{k v:V}:∀{es es':List (V×V)},oG h kk k v es=some es'->∃p,qx h kk k es=some p/\es'=(match p with|none=>es++[(k,v)]|some j=>es.set j (k,v))
 |[],es',e=>by cases e;exact⟨none,rfl,rfl⟩
 |x ::tl,es',e=>by
  rw [Cu]at e;obtain⟨b,e1,e2⟩:=bQ.1 e;cases b with
  |true=>cases e2;exact⟨some 0,by simp [qx,e1,Bt],rfl⟩
  |false=>
   obtain⟨r,e3,e4⟩:=bQ.1 e2;cases e4;obtain⟨p,k1,k2⟩:=xP e3;refine⟨p.map (·+1),by simp [qx,e1,Bt,k1],?_⟩;cases p<;>simp [k2]
theorem yH{kk:Kk}{k:V}:∀{es es':List (V×V)},wC h kk k es=some es'->∃p,qx h kk k es=some p/\es'=(match p with|none=>es|some j=>es.eraseIdx j)
 |[],es',e=>by cases e;exact⟨none,rfl,rfl⟩
 |x ::tl,es',e=>by
  rw [Di]at e;obtain⟨b,e1,e2⟩:=bQ.1 e;cases b with
  |true=>cases e2;exact⟨some 0,by simp [qx,e1,Bt],rfl⟩
  |false=>
   obtain⟨r,e3,e4⟩:=bQ.1 e2;cases e4;obtain⟨p,k1,k2⟩:=yH e3;refine⟨p.map (·+1),by simp [qx,e1,Bt,k1],?_⟩;cases p<;>simp [k2]
theorem IL(A:da P T)(r:WR T g h w){t:TypeId}{d:TypeDesc}{kk:Kk}{x:V}{a:Value}(h1:T.under t=some d)(v:kD T t=some kk)(y:VR g x a):
  ∀(es:List (V×V)) (m:List MapEntry) (i:Nat) (p:Option Nat),qT g es m->qx h kk x es=some p->∃q,(Instr.findAsking t a m i).run P w= .ok q w/\(∀q',Instr.findNow d a m i=some q'->q'=q)/\
   (match p with|none=>q=none|some j=>∃e ke,m[j]? =some e/\q=some (i+j,e.val)/\es[j]? =some ke/\g7 h kk x ke.1=some true/\VR g ke.1 e.key):=by
 intro es
 induction es with
 |nil=>
  intro m i l o n;cases n;cases m with
  |nil=>exact⟨none,by simp [Instr.findAsking],(λq' e=>by simp [Instr.findNow]at e;exact e.symm),rfl⟩
  |cons=>have:=o.1.length;simp at this
 |cons e es ih=>
  intro m i l o n;cases m with
  |nil=>have:=o.1.length;simp at this
  |cons f m=>
   simp only [qx]at n;obtain⟨b,h2,B⟩:=bQ.1 n;obtain⟨u,z⟩:=o;cases u with
   |cons hk1 ht1=>cases z with
    |cons hv1 hv2=>
     have k:=tN A r v y hk1 h2;cases b with
     |true=>
      cases B;refine⟨_,by simp [Instr.findAsking,k],λq' c=>?_,f,e,rfl,rfl,rfl,h2,hk1⟩;simp only [Instr.findNow]at c;cases hs:Instr.sameNow d a f.key with
      |none=>rw [hs]at c;cases c
      |some s=>
       rw [mA A h1 v y hk1 h2 hs]at hs;rw [hs]at c;exact(Option.some.inj c).symm
     |false=>
      obtain⟨p,G,L⟩:=bQ.1 (show ob (qx h kk x es) (λr=>some (r.map (·+1)))=some l from B);cases L;obtain⟨q,E,f3,C⟩:=ih m (i+1) p ⟨ht1,hv2⟩ G;refine⟨q,by simp [Instr.findAsking,k,E],λq' c=>?_,?_⟩
      ·simp only [Instr.findNow]at c
       cases hs:Instr.sameNow d a f.key with
       |none=>rw [hs]at c;cases c
       |some s=>
        rw [mA A h1 v y hk1 h2 hs]at hs;rw [hs]at c;exact f3 q' c
      ·cases p with
       |none=>exact C
       |some j=>
        obtain⟨c,ke,F,I,K,J,D⟩:=C;exact⟨c,ke,by simpa using F,by rw [I];simp;omega,by simpa using K,J,D⟩
theorem qw(b:da P T)(r:WR T g h w){t:TypeId}{d:TypeDesc}{kk:Kk}{x:V}{a:Value}{es:List (V×V)}{m:List MapEntry}{p:Option Nat}(h1:T.under t=some d)(c:kD T t=some kk)(i:VR g x a)(n:qT g es m)
  (f:qx h kk x es=some p):∃q,(Instr.findKey t a m).run P w= .ok q w/\
   (match p with|none=>q=none|some j=>∃e ke,m[j]? =some e/\q=some (j,e.val)/\es[j]? =some ke/\g7 h kk x ke.1=some true/\VR g ke.1 e.key):=by
 obtain⟨q,f1,l,f3⟩:=IL b r h1 c i es m 0 p n f;refine⟨q,?_,?_⟩
 ·simp only [Instr.findKey,Sem.run_bind,bU b h1,Result.andThen_ok]
  cases k:Instr.findNow d a m 0 with
  |none=>exact f1
  |some q'=>rw [l q' k];rfl
 ·cases p with
  |none=>exact f3
  |some j=>simpa using f3
theorem HN{k:Pk}{x y:V}{a b:Value}(f:VR g x a)(i:VR g y b)(c:eq1 h k x y=some true)(n:Nat):Instr.sameBits n b a=true:=by
 cases k<;>cases x<;>cases y<;>first|(cases c;done)|skip
 ·obtain⟨u,m⟩:=bW.1 c
  rw [f.int_inv,i.int_inv];rw [jc]at m;simp only [Option.some.injEq,beq_iff_eq]at m;rw [tO]at u;subst u m;cases n<;>simp [Instr.sameBits]
 ·cases f
  cases i;have c:=Option.some.inj c;rw [eN,eN,lO]at c
  rename_i s s' _
  have:s=s':=by
   obtain⟨⟨p⟩⟩:=s;obtain⟨⟨q⟩⟩:=s';simp at c;simp [c]
  subst this;have hs:(s==s)=true:=by
   obtain⟨p⟩:=s;show(p==p)=true;simp
  cases n<;>simp [Instr.sameBits,hs]
 ·rw [f.bool_inv,i.bool_inv]
  have c:=Option.some.inj c;rw [mN]at c;simp at c;subst c;cases n<;>simp [Instr.sameBits]
 ·cases f
  cases i;cases n<;>simp [Instr.sameBits]
 ·cases f
  cases i
  rename_i j o1 l t b1 z1 v o b2 z2 w e
  have d:(Bool.rec (motive:=λ_=>Option Bool) (oif (h.alone j) (oif (h.alone l) (some false))) (some (Nat.beq o1 t)) (Nat.beq j l))=some true:=c;clear c;rw [cO]at d;have c:=d;clear d
  split at c
  ·rename_i hi
   have r:j=l:=by simpa using hi
   subst r;have ho:o1=t:=by simpa using c
   subst ho;rw [o]at e;cases e;cases n<;>simp [Instr.sameBits]
  ·obtain⟨_,c⟩:=bW.1 c
   obtain⟨_,c⟩:=bW.1 c;cases c
theorem Gh{d:List Pk}:∀{xs ys:List V} {b bs:List Value},VRs g xs b->VRs g ys bs->eqL h d xs ys=some true->∀n,((bs.zip b).all λp=>Instr.sameBits n p.1 p.2)=true/\bs.length=b.length:=by
 induction d with
 |nil=>
  intro xs ys b bs e f a n;cases xs with
  |cons x xs=>cases a
  |nil=>cases ys with
   |cons y ys=>cases a
   |nil=>cases e;cases f;exact⟨rfl,rfl⟩
 |cons k d ih=>
  intro xs ys b bs e f a n;cases xs with
  |nil=>cases a
  |cons x xs=>cases ys with
   |nil=>cases a
   |cons y ys=>
    cases e with
    |cons hx hxs=>cases f with
     |cons hy hys=>
      obtain⟨c,m,i⟩:=bQ.1 (show ob (eq1 h k x y) (λc=>Bool.rec (motive:=λ_=>Option Bool) (some false) (eqL h d xs ys) c)=some true from a);cases c with
      |false=>cases i
      |true=>
       obtain⟨j,l⟩:=ih hxs hys i n;exact⟨by simp only [List.zip_cons_cons,List.all_cons,Bool.and_eq_true];exact⟨HN hx hy m n,j⟩,by simp [l]⟩
theorem Bg{k:Kk}{x y:V}{a b:Value}(d:VR g x a)(c:VR g y b)(e:g7 h k x y=some true)(n:Nat):Instr.sameBits (n+1) b a=true:=by
 cases k with
 |one k=>exact HN d c e _
 |agg ks=>
  cases x<;>first|(cases e;done)|skip
  cases y<;>first|(cases e;done)|skip
  cases d with
  |agg d=>cases c with
   |agg c=>
    obtain⟨f,i⟩:=Gh d c e n;simp only [Instr.sameBits,Bool.and_eq_true];refine⟨by simp [i],?_⟩;exact f
theorem pH{id:Nat}{u:Value}(h:VR g (.map id) u):∃b o z,g id=some (b,o,z)/\u= .map (some b):=by
 cases h with
 |map hg=>exact⟨_,_,_,hg,rfl⟩
theorem VRs.setL:∀{a:List V} {x:List Value} {v:V} {u:Value} (j:Nat),VRs g a x->VR g v u->VRs g (a.set j v) (x.set j u)
 |_,_,_,_,_,.nil,_=>.nil
 |_,_,_,_,0,.cons _ t,k=>.cons k t
 |_,_,_,_,j+1,.cons h t,k=>.cons h (VRs.setL j t k)
theorem VRs.eraseL:∀{a:List V} {x:List Value} (j:Nat),VRs g a x->VRs g (a.eraseIdx j) (x.eraseIdx j)
 |_,_,_,.nil=>.nil
 |_,_,0,.cons _ t=>t
 |_,_,j+1,.cons h t=>.cons h (VRs.eraseL j t)
theorem ma{α β:Type}(f:α->β):∀(l:List α) (j:Nat),(l.eraseIdx j).map f=(l.map f).eraseIdx j
 |[],_=>by simp
 |_ ::_,0=>by simp
 |a ::l,j+1=>by simp [ma f l j]
theorem fc{w:World}{b:Nat}{m:Array MapEntry}{c:Nat}(o:Obj)(a:w.heap[b]? =some (.map m c)):(setObj b o).run P w= .ok () {w with heap:=w.heap.setIfInBounds b o}:=by
 simp [setObj,Sem.run,a]
theorem mJ(r:WR T g h w){id b o z:Nat}{es d:List (V×V)}{m m':Array MapEntry}{c c':Nat}(hg:g id=some (b,o,z)){od a:Bool}(k:h.blk id=some (.map es od))(f:w.heap[b]? =some (.map m c))(l:qT g d m'.toList)(e:B9 a m'.toList c'):
  Ext T g h w g ⟨h.t.put id (some (.map d a)),h.next⟩ {w with heap:=w.heap.setIfInBounds b (.map m' c')}:=by
 refine Ext.upd r hg k rfl rfl rfl (λ_ _ h=>by cases h) (λj i=>?_) (by simp) rfl rfl rfl ⟨b,o,z,m',c',hg,rl f,l,e⟩;simp [Array.getElem?_setIfInBounds_ne (Ne.symm i)]
theorem vt(I:da P T)(r:WR T g h w){t K e:TypeId}{kk:Kk}{x y z:Operand}{a b c v:V}{h':H}(h1:T.under t=some (.map K e))(G:kD T K=some kk)(Z:VR g a (ρ x))(F:VR g b (ρ y))(hc:VR g c (ρ z))
  (M:EOp.run (.mapup kk) [a,b,c] h=some (v,h')):∃g' w',Ext T g h w g' h' w'/\VR g' v undef/\(Instr.mapUpdate t (ρ x) (ρ y) (ρ z)).run P w= .ok () w':=by
 cases a with
 |map id=>
  obtain⟨U,Y⟩:=bW.1 (show(oif (fZ kk b) <| ob (h.entries id) λes=>ob (oG h kk b c es) λes=>some (cT,(⟨h.t.put id (some (.map es (h.ord id))),h.next⟩:H)))=some (v,h')from M);obtain⟨es,e2,e3⟩:=bQ.1 Y;obtain⟨a0,e4,e5⟩:=bQ.1 e3;cases e5;obtain⟨bb,o,zz,hg,O⟩:=pH Z;obtain⟨m,cl,A,f,od,s,n,l⟩:=g8 r hg e2;obtain⟨p,S,rfl⟩:=xP e4;obtain⟨d,hd,_⟩:∃d,T.under K=some d/\True:=by
   unfold kD at G;obtain⟨d,h2,_⟩:=bQ.1 G;exact⟨d,h2,trivial⟩
  obtain⟨q,Q,B⟩:=qw I r hd G F f S;have E:=jL (w:=w) I G F U false;cases p with
  |none=>
   subst B;refine⟨g,_,mJ (m':=m.push {key:=ρ y,val:=ρ z,born:=cl}) (c':=cl+1) r hg s A ?_ ?_,gG,?_⟩
   ·simp only [Array.toList_push]
    exact⟨by simpa using f.1.append (.cons F .nil),by simpa using f.2.append (.cons hc .nil)⟩
   ·refine⟨by rw [Array.toList_push];exact l.1.push rfl,λho=>?_⟩
    rw [Array.toList_push];exact(l.2 (n▸ho)).push rfl
   ·simp [O,Instr.mapUpdate,bU I h1,db A,E,Q,fc _ A]
  |some j=>
   obtain⟨J,ke,D,rfl,m3,m4,R⟩:=B;have u:=Bg F R m4 9999;have C:m[j]? =some J:=by simpa using D
   have L:(m.modify j λe=>{e with key:=ρ y,val:=ρ z}).toList=m.toList.set j {J with key:=ρ y,val:=ρ z}:=by
     apply List.ext_getElem?;intro i;rw [Array.getElem?_toList,Array.getElem?_modify,List.getElem?_set]
     by_cases hij:j=i
     ·subst hij
      have:j<m.toList.length:=by
       rcases Nat.lt_or_ge j m.toList.length with k|k
       ·exact k
       ·rw [List.getElem?_eq_none k]at D;cases D
      have N:j<m.size:=by simpa using this
      have W:m[j]=J:=by
       have:=C;rw [Array.getElem?_eq_getElem N]at this;exact Option.some.inj this
      simp [N,W]
     ·simp [hij]
   refine⟨g,_,mJ (m':=m.modify j λe=>{e with key:=ρ y,val:=ρ z}) (c':=cl) r hg s A ?_ ?_,gG,?_⟩
   ·rw [L]
    refine⟨?_,?_⟩
    ·rw [List.map_set,List.map_set]
     exact VRs.setL j f.1 F
    ·rw [List.map_set,List.map_set]
     exact VRs.setL j f.2 hc
   ·refine⟨by rw [L];exact l.1.set D rfl,λho=>?_⟩
    rw [L];exact(l.2 (n▸ho)).set D rfl
   ·simp [O,Instr.mapUpdate,bU I h1,db A,E,Q,fc _ A,Instr.keyThatStays,u,C]
 |_=>cases M
theorem Aq(B:da P T)(r:WR T g h w){t D e:TypeId}{kk:Kk}{args:Array Operand}{s:Array TypeId}{vs:List V}{v:V}{h':H}(h0:s[0]? =some t)(h1:T.under t=some (.map D e))(A:kD T D=some kk)
  (L:VRs g vs (args.toList.map ρ)) (l:EOp.run (.delete kk) vs h=some (v,h')):Eff P T g h w ρ (.call ⟨.builtin .delete,args,s⟩) v h':=by
 obtain⟨a,b,rfl⟩:∃d x,vs=[d,x]:=by
  cases vs with
  |nil=>cases l
  |cons d vs=>cases vs with
   |nil=>cases d<;>cases l
   |cons x vs=>cases vs with
    |nil=>exact⟨d,x,rfl⟩
    |cons y vs=>cases d<;>cases l
 obtain⟨x,y,c,O,F⟩:=ua L rfl;cases a with
 |map id=>
  obtain⟨K,N⟩:=bW.1 (show(oif (fZ kk b) <| ob (h.entries id) λes=>ob (wC h kk b es) λes=>some ((V.tup [],⟨h.t.put id (some (.map es false)),h.next⟩):V×H))=some (v,h')from l);obtain⟨es,S,R⟩:=bQ.1 N;obtain⟨Y,W,Q⟩:=bQ.1 R;cases Q;obtain⟨bb,o,zz,hg,E⟩:=pH O;obtain⟨m,cl,k,f,od,i,G,u⟩:=g8 r hg S;obtain⟨p,J,rfl⟩:=yH W;obtain⟨d,hd,_⟩:∃d,T.under D=some d/\True:=by
   unfold kD at A;obtain⟨d,h2,_⟩:=bQ.1 A;exact⟨d,h2,trivial⟩
  obtain⟨q,I,n⟩:=qw B r hd A F f J;have z:=jL (w:=w) B A F K (m.isEmpty);cases p with
  |none=>
   subst n;refine⟨g,_,_,mJ (m':=m) (c':=cl) r hg i k f ⟨u.1,λe=>by cases e⟩,.tup .nil,λo' C=>.inl ?_⟩;simp [execOp,C,resolve,invoke,builtin,c,h0,E,Builtin.delete_,bU B h1,db k,z,I,fc _ k]
  |some j=>
   obtain⟨M,ke,m1,rfl,Z,m4,m5⟩:=n;refine⟨g,_,_,mJ (m':=m.eraseIdxIfInBounds j) (c':=cl) r hg i k ?_ ⟨by rw [show(m.eraseIdxIfInBounds j).toList=m.toList.eraseIdx j by simp];exact u.1.erase j,λe=>by cases e⟩,.tup .nil,λo' C=>.inl ?_⟩
   ·have U:(m.eraseIdxIfInBounds j).toList=m.toList.eraseIdx j:=by simp
    rw [U];refine⟨?_,?_⟩
    ·rw [ma,ma]
     exact VRs.eraseL j f.1
    ·rw [ma,ma]
     exact VRs.eraseL j f.2
   ·simp [execOp,C,resolve,invoke,builtin,c,h0,E,Builtin.delete_,bU B h1,db k,z,I,fc _ k]
 |_=>cases l
theorem Bq(h:H)(kk:Kk)(k:V):∀es,xR h kk k es=qx h kk k es
 |[]=>rfl
 |e ::tl=>by
  show ob (g7 h kk k e.1) (λb=>Bool.rec (motive:=λ_=>Option (Option Nat)) (ob (xR h kk k tl) λr=>some (r.map (·+1))) (some (some 0)) b)=_;rw [Bq h kk k tl];simp only [cO,qx]
theorem tc{m:Array MapEntry}{j:Nat}{e:MapEntry}(f:MapEntry->MapEntry)(h:m.toList[j]? =some e):(m.modify j f).toList=m.toList.set j (f e):=by
 have a:m[j]? =some e:=by simpa using h
 apply List.ext_getElem?;intro i;rw [Array.getElem?_toList,Array.getElem?_modify,List.getElem?_set]
 by_cases hij:j=i
 ·subst hij
  have b:j<m.size:=by
   rcases Nat.lt_or_ge j m.size with k|k
   ·exact k
   ·rw [Array.getElem?_eq_none k]at a;cases a
  have c:m[j]=e:=by
   rw [Array.getElem?_eq_getElem b]at a;exact Option.some.inj a
  simp [b,c]
 ·simp [hij]
theorem Ap(G:da P T)(r:WR T g h w){t N e:TypeId}{kk:Kk}{x y:Operand}{z a b v:V}{h':H}(h1:T.under t=some (.map N e))(J:kD T N=some kk)(hz:iV T e=some z)(ha:VR g a (ρ x))(E:VR g b (ρ y))
  (S:EOp.run (.mapent kk z) [a,b] h=some (v,h')):∃g' w' u,Ext T g h w g' h' w'/\VR g' v u/\(Instr.mapEntry t (ρ x) (ρ y)).run P w= .ok u w':=by
 cases a with
 |map id=>
  obtain⟨I,e1⟩:=bW.1 (show(oif (fZ kk b&&h.ord id) <| ob (h.entries id) λes=>ob (xR h kk b es) λp=>Option.rec (motive:=λ_=>Option (V×H))
   (some (.tup [z,.int .i64 (Int.ofNat (cD es))],⟨h.t.put id (some (.map (es++[(b,z)]) true)),h.next⟩))
   (λj=>ob (ff es j) λe=>some (.tup [e.2,.int .i64 (Int.ofNat j)],⟨h.t.put id (some (.map (es.set j (b,e.2)) true)),h.next⟩)) p)=some (v,h')from S)
  obtain⟨es,e2,e3⟩:=bQ.1 e1;obtain⟨p,W,Z⟩:=bQ.1 e3;rw [Bool.and_eq_true]at I;obtain⟨I,eo⟩:=I;obtain⟨bb,o,zz,hg,hx⟩:=pH ha;obtain⟨m,cl,n,c,od,k,F,f⟩:=g8 r hg e2;have f:=f.2 (F▸eo);rw [Bq]at W;obtain⟨d,hd,_⟩:∃d,T.under N=some d/\True:=by
   unfold kD at J;obtain⟨d,h2,_⟩:=bQ.1 J;exact⟨d,h2,trivial⟩
  obtain⟨q,hq,s⟩:=qw G r hd J E c W;have D:=jL (w:=w) G J E I false;have A:es.length=m.size:=by have:=c.1.length;simpa using this
  cases p with
  |none=>
   subst s;cases Z;obtain⟨Y,B,M⟩:=iB (g:=g) G hz;refine⟨g,_,.tuple #[Y,.int .i64 (Int.ofNat (cD es))],mJ (m':=m.push {key:=ρ y,val:=Y,born:=cl}) (c':=cl+1) r hg k n ?_ ?_,.tup (.cons B (.cons (.int _ _) .nil)),?_⟩
   ·simp only [Array.toList_push]
    exact⟨by simpa using c.1.append (.cons E .nil),by simpa using c.2.append (.cons B .nil)⟩
   ·rw [Array.toList_push]
    exact(f.push rfl).o
   ·have L:(goInt cl:Value)= .int .i64 (Int.ofNat (cD es)):=by
     rw [cq,A];have:=f.1;simp only [Array.length_toList]at this;rw [this];rfl
    simp [hx,Instr.mapEntry,bU G h1,db n,D,hq,fc _ n,M,L]
  |some j=>
   obtain⟨K,ke,C,rfl,m3,m4,m5⟩:=s;obtain⟨a0,n1,n2⟩:=bQ.1 Z;cases n2;rw [dS,m3]at n1;cases n1;have l:=Bg E m5 m4 9999;have O:m[j]? =some K:=by simpa using C
   have hl:=tc (λe=>{e with key:=ρ y}) C;obtain⟨uv,U,R⟩:=c.2.get (i:=j) (v:=ke.2) (by rw [List.getElem?_map,m3];rfl);rw [List.getElem?_map,C]at U;cases U;have Q:=f.2 j K C;refine⟨g,_,.tuple #[K.val,.int .i64 (Int.ofNat j)],mJ (m':=m.modify j λe=>{e with key:=ρ y}) (c':=cl) r hg k n ?_ ?_,.tup (.cons R (.cons (.int _ _) .nil)),?_⟩
   ·rw [hl]
    refine⟨?_,?_⟩
    ·rw [List.map_set,List.map_set]
     exact VRs.setL j c.1 E
    ·rw [List.map_set,List.map_set]
     exact VRs.setL j c.2 R
   ·rw [hl]
    exact mZ.o (f.set C rfl)
   ·simp [hx,Instr.mapEntry,bU G h1,db n,D,hq,fc _ n,Instr.keyThatStays,l,O,Q,goInt]
 |_=>cases S
theorem Dg(r:WR T g h w){t:TypeId}{x y z:Operand}{a b c v:V}{h':H}(O:VR g a (ρ x))(W:VR g b (ρ y))(hc:VR g c (ρ z))
  (u:EOp.run .entst [a,b,c] h=some (v,h')):∃g' w',Ext T g h w g' h' w'/\VR g' v undef/\(Instr.entryStore t (ρ x) (ρ y) (ρ z)).run P w= .ok () w':=by
 cases a with
 |map id=>
  cases b with
  |int k s=>
   obtain⟨M,L⟩:=bW.1 (show(oif (h.ord id) <| ob (h.entries id) λes=>ob (idx s (cD es)) λj=>ob (ff es j) λe=>some (cT,(⟨h.t.put id (some (.map (es.set j (e.1,c)) true)),h.next⟩:H)))=some (v,h')from u);obtain⟨es,U,S⟩:=bQ.1 L;obtain⟨j,K,Y⟩:=bQ.1 S;obtain⟨N,n1,Q⟩:=bQ.1 Y;cases Q;obtain⟨bb,o,Z,hg,R⟩:=pH O;obtain⟨m,cl,B,f,od,p,l,d⟩:=g8 r hg U;have d:=d.2 (l▸M);have hs:=mf K;rw [cq]at hs;have E:es.length=m.size:=by have:=f.1.length;simpa using this
   obtain⟨rfl,J⟩:=hs;have n:j<m.size:=by omega
   have q:m.toList[j]? =some m[j]:=by simp [n]
   rw [dS]at n1;have F:=tc (λe=>{e with val:=ρ z}) q;obtain⟨uk,D,G⟩:=f.1.get (i:=j) (v:=N.1) (by rw [List.getElem?_map,n1];rfl);rw [List.getElem?_map,q]at D;cases D;refine⟨g,_,mJ (m':=m.modify j λe=>{e with val:=ρ z}) (c':=cl) r hg p B ?_ ?_,gG,?_⟩
   ·rw [F]
    refine⟨?_,?_⟩
    ·rw [List.map_set,List.map_set]
     exact VRs.setL j f.1 G
    ·rw [List.map_set,List.map_set]
     exact VRs.setL j f.2 hc
   ·rw [F]
    exact mZ.o (d.set q rfl)
   ·have A:=W.int_inv
    have I:m.findIdx? (λe=>(e.born:Int)==Int.ofNat j)=some j:=by
     rw [Array.findIdx?_eq_some_iff_getElem];refine⟨n,?_,λi hi=>?_⟩
     ·have:=d.2 j m[j] q
      rw [this];exact beq_self_eq_true _
     ·have C:i<m.size:=by omega
      have:=d.2 i m[i] (by simp [C]);rw [this];simp;omega
    simp [R,A,Instr.entryStore,db B,asInt,asIntOf];rw [show m.findIdx? (λe=>(e.born:Int)==(j:Int))=some j from I];simp [fc _ B]
  |_=>cases u
 |_=>cases u
theorem Ao(I:da P T)(r:WR T g h w){t C e:TypeId}{x:Operand}{a v:V}{h':H}(h1:T.under t=some (.map C e))(B:VR g a (ρ x))(k:EOp.run .rangeM [a] h=some (v,h')):Eff P T g h w ρ (.range t x) v h':=by
 cases a with
 |map id=>
  obtain⟨es,A,F⟩:=bQ.1 (show(ob (h.entries id) λes=>ob (h.new (.miter id (Bool.rec (motive:=λ_=>Option (List Nat×Nat)) none (some ([],cD es)) (h.ord id)))) λh'=>some (V.ptr h.next 0,h'))=some (v,h')from k);obtain⟨h2,E,J⟩:=bQ.1 F;cases J;obtain⟨l,o,s,hg,D⟩:=pH B;obtain⟨m,cl,G,d,od,p,c,f⟩:=g8 r hg A;have j:StM (Bool.rec (motive:=λ_=>Option (List Nat×Nat)) none (some ([],cD es)) (h.ord id)) cl #[] cl:=by
   cases q:h.ord id with
   |false=>exact rfl
   |true=>
    have n:=f.2 (c▸q);have b:es.length=m.toList.length:=by have:=d.1.length;simpa using this
    exact⟨rfl,by rw [cq,b];exact n.1,by rw [cq,b];exact n.1⟩
  have u:=r.lt _ _ _ _ hg;have i:id≠h.next:=by have:=r.dom _ _ hg;omega
  refine⟨_,w.alloc (.mapIter (some l) cl #[] cl),.pointer (some ⟨w.heap.size,0,none⟩),Ext.new (z:=0) r E (.inl rfl) ⟨w.heap.size,0,l,o,s,cl,#[],cl,cH _ _ _,by rw [dK _ i];exact hg,dt _ _,j⟩,VR.ptr (off:=0) (cH _ _ _),λo' y=>.inl ?_⟩;simp [execOp,y,Instr.range,bU I h1,D,db G]
 |_=>cases k
theorem De(r:WR T g h w){x:Operand}{a v:V}{h':H}(q:VR g a (ρ x))(i:EOp.run .nextM [a] h=some (v,h')):Eff P T g h w ρ (.next x false) v h':=by
 cases a with
 |ptr id off=>
  cases off with
  |succ off=>cases i
  |zero=>
   obtain⟨k,D,c⟩:=bQ.1 (show ob (h.blk id) (λb=>match b with
    |.miter m (some ([],_))=>ob (h.entries m) λes=>fW es (some (.tup [.bool false],h)) λ_ _=>none
    |.miter m none=>ob (h.entries m) λes=>fW es (some (.tup [.bool false],h)) λ_ _=>none
    |_=>none)=some (v,h')from i)
   cases k with
   |miter m st=>
    have c:ob (h.entries m) (λes=>fW es (some (.tup [.bool false],h)) λ_ _=>none)=some (v,h')/\∀since seen last,StM st since seen last->seen=#[]:=by
     rcases st with _ | ⟨_ | ⟨a,l⟩,n⟩
     ·exact⟨c,λ_ _ _ k=>k⟩
     ·exact⟨c,λ_ _ _ k=>k.1⟩
     ·cases c
    obtain⟨c,d⟩:=c;obtain⟨es,F,A⟩:=bQ.1 c;cases es with
    |cons y l=>cases A
    |nil=>
     cases A;cases t:ρ x<;>rw [t]at q<;>cases q
     rename_i b o z hg
     obtain⟨M,L,I,K,O,s,sn,l,u,E,G,B⟩:=r.blk id _ _ hg D;rw [hg]at u;cases u;obtain rfl:=d _ _ _ B;obtain⟨p,cl,J,j,_⟩:=g8 r E F;have e:p=#[]:=by
      have:=j.1.length;have h0:p.toList.length=0:=by simpa using this.symm
      exact Array.eq_empty_of_size_eq_zero (by simpa using h0)
     subst e;refine⟨g,w,.tuple #[.bool false],.refl r,.tup (.cons (.bool _) .nil),λo' C=>.inl ?_⟩;have f:(getObj b).run P w= .ok (.mapIter (some I) s #[] l) w:=by simp [getObj,Sem.run,G]
     simp [execOp,C,Instr.next,t,f,db J,Question.forced]
   |_=>cases c
 |_=>cases i
end
end Ev
end Go.Proofs.YtdfphfdnoobikaaGreatDoor
