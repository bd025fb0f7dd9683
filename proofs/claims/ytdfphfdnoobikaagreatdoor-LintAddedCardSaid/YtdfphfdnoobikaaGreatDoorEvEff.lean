/-
  Operations that write memory:stores,copies,cleared slices,maps,strings that are ranged over.
-/
import Derived.Test.YtdfphfdnoobikaaGreatDoorEvAlloc
import Derived.Laws.RangeString
namespace Go.Proofs.YtdfphfdnoobikaaGreatDoor
namespace Ev
variable [Env]
set_option linter.unusedSectionVars false
section
variable {P:Program} {T:Ty} {g:G} {ρ:Operand->Value} {h:H} {w:World}
def yk(P:Program)(ρ:Operand->Value)(w:World)(op:Op)(u:Value)(w':World):Prop:=
 ∀o:Oper,o.op=op->(execOp ρ o).run P w= .ok (.value u) w'\/((execOp ρ o).run P w= .ok .skip w'/\u=undef)
def Eff(P:Program)(T:Ty)(g:G)(h:H)(w:World)(ρ:Operand->Value)(op:Op)(v:V)(h':H):Prop:=
 ∃g' w' u,Ext T g h w g' h' w'/\VR g' v u/\yk P ρ w op u w'
theorem fk:VR g cG undef:=VR.tup .nil
theorem yn(id:Nat)(v:V)(l:List V)(i:Nat)(h:H):H.wr id (v ::l) i h=ob (h.wr1 id i v) λh=>H.wr id l (i+1) h:=rfl
theorem rZ{w:World}{a:Addr}{v x:Value}(h1:v.oneCell'=true)(h2:w.cell? a=some x)(h3:w.frozen? a=false):(store a v).run P w= .ok () (w.setCell a v):=by
 cases v<;>first|(simp [store,Sem.run,h2,h3];done)|cases h1
theorem uw:∀{l:List V} {us:List Value} {i k:Nat} {h h':H} {w:World} {id b o z:Nat},WR T g h w->g id=some (b,o,z)->VRs g l us->H.wr id l (i+k) h=some h'->
  ∃w',Ext T g h w g h' w'/\(storeCells ⟨b,o+i,none⟩ us k).run P w= .ok () w'
 |[],_,i,k,h,h',w,id,b,o,z,r,hg,hl,e=>by
  cases hl;cases e;exact⟨w,.refl r,by simp [storeCells]⟩
 |v ::l,_,i,k,h,h',w,id,b,o,z,r,hg,hl,e=>by
  cases hl with
  |cons hv ht=>
   rename_i u us
   rw [yn]at e;obtain⟨h1,e1,e2⟩:=bE.1 e;obtain⟨x1,⟨c,hc⟩,hf⟩:=Ext.wr1 r e1 hg hv;have hone:cE v=true:=by
    unfold H.wr1 at e1;obtain⟨b',_,e4⟩:=bE.1 e1;cases b' with
    |cells n cs up ch=>
     obtain⟨_,e5⟩:=bK.1 e4;obtain⟨_,e6⟩:=bK.1 e5;exact(bK.1 e6).1
    |_=>cases e4
   obtain⟨w',x2,h2⟩:=uw (i:=i) (k:=k+1) x1.wr hg ht e2;refine⟨w',x1.trans x2,?_⟩;have ha:(⟨b,o+(i+k),none⟩:Addr)=(⟨b,o+i,none⟩:Addr).add k:=by simp [Addr.add,Nat.add_assoc]
   rw [ha]at hc hf h2;simp only [storeCells,Sem.run_bind,rZ (mj hv hone) hc hf,Result.andThen_ok];rw [<-ha]at h2 ⊢;exact h2
theorem Aw(hT:cN P T)(r:WR T g h w){t:TypeId}{n:Nat}{x y:Operand}{a b v:V}{h':H}(hn:fW T t=some n)(ha:VR g a (ρ x))(hb:VR g b (ρ y))(hr:EOp.run (.store n) [a,b] h=some (v,h')):
  Eff P T g h w ρ (.store t x y) v h':=by
 cases a with
 |ptr id off=>
  obtain⟨e1,e2⟩:=bK.1 (show oif (Nat.beq (bY (cellsOf b)) n) (ob (H.wr id (cellsOf b) off h) λh=>some (cG,h))=some (v,h')from hr);obtain⟨h1,e3,e4⟩:=bE.1 e2;cases e4;cases hx:ρ x<;>rw [hx]at ha<;>cases ha
  rename_i b' o z hg
  have hc:=fq hb;obtain⟨w',x1,k1⟩:=uw (P:=P) (i:=off) (k:=0) r hg hc e3;have hlen:=hc.length;rw [bV]at e1;have e1':(cellsOf b).length=n:=by simpa using e1
  refine⟨g,w',undef,x1,fk,λo' e'=>.inr ⟨?_,rfl⟩⟩;have hs:¬(ρ y).cells.size≠n:=by simp only [ne_eq,Decidable.not_not];simp at hlen;omega
  simp only [execOp,e',hx,Instr.storeAt,Instr.sureAddr,storeVar,Sem.run_bind,Sem.run_pure,Result.andThen_ok,cy hT hn];rw [if_neg hs];simp [k1]
 |_=>cases hr
theorem eL{a:Addr}{len cap n es:Nat}{us:List Value}(hl:us.length=n*es)(hc:∀(j:Nat) (u:Value),us[j]? =some u->w.cell? (a.add j)=some u):
  (Builtin.firstCells es n (.slice (some a) len cap)).run P w= .ok us.toArray w:=by
 simp only [Builtin.firstCells];rw [<-hl];exact run_loadCells_list w a us hc
theorem wH(r:WR T g h w)(hE:jL g w){es:Nat}{a:V}{u:Value}{p:Nat×List V}(ha:VR g a u)(e:jS es a h=some p):
  ∃us:List Value,VRs g p.2 us/\us.length=p.1*es/\(∀w,(Builtin.lenOf u).run P w= .ok p.1 w)/\
   ∀w2:World,w2.heap=w.heap->∀k,k<=p.1->(Builtin.firstCells es k u).run P w2= .ok (us.take (k*es)).toArray w2:=by
 cases a with
 |nils=>
  cases e;cases ha;refine⟨[],.nil,by simp,λw=>by simp [Builtin.lenOf],λw2 _ k _=>by simp [Builtin.firstCells]⟩
 |sl id off len cap ex es'=>
  obtain⟨e1,e2⟩:=bK.1 (show oif (Nat.beq es es') (ob (h.rd id off (Nat.mul len es)) λl=>some (len,l))=some p from e);obtain⟨l,e3,e4⟩:=bE.1 e2;cases e4;have main:∀{b o z:Nat} {u:Value},g id=some (b,o,z)->(∃c,u= .slice (some ⟨b,o+off,none⟩) len c)->∃us:List Value,VRs g l us/\us.length=len*es/\(∀w,(Builtin.lenOf u).run P w= .ok len w)/\
   ∀w2:World,w2.heap=w.heap->∀k,k<=len->(Builtin.firstCells es k u).run P w2= .ok (us.take (k*es)).toArray w2:=by
   intro b o z u hg hu;obtain⟨c,rfl⟩:=hu;obtain⟨us,k1,k2,k3,_⟩:=yP r hg e3;have hadd:∀j,(⟨b,o+off,none⟩:Addr).add j=⟨b,o+off+j,none⟩:=λj=>by simp [Addr.add]
   rw [jX]at k2;refine⟨us,k1,k2,λw=>by simp [Builtin.lenOf],λw2 hw k hk=>eL ?_ λj u hj=>?_⟩
   ·rw [List.length_take,k2,Nat.min_eq_left (Nat.mul_le_mul_right es hk)]
   ·rw [hadd]
    have hcw:∀q,w2.cell? q=w.cell? q:=λq=>by simp [World.cell?,hw]
    rw [hcw];refine k3 j u ?_;rw [List.getElem?_take]at hj
    split at hj
    ·exact hj
    ·cases hj
  have empty:∀{b p:Nat},len=0->∃us:List Value,VRs g l us/\us.length=0*es/\(∀w,(Builtin.lenOf (.slice (some ⟨b,p,none⟩) 0 0)).run P w= .ok 0 w)/\
   ∀w2:World,w2.heap=w.heap->∀k,k<=0->(Builtin.firstCells es k (.slice (some ⟨b,p,none⟩) 0 0)).run P w2= .ok (us.take (k*es)).toArray w2:=by
   intro b p h0;subst h0;have hl:l=[]:=by
    rw [jX,Nat.zero_mul]at e3;unfold H.rd at e3;obtain⟨q,_,m2⟩:=bE.1 e3;cases m2;rfl
   subst hl;refine⟨[],.nil,by simp,λw=>by simp [Builtin.lenOf],λw2 hw k hk=>eL ?_ λj u hj=>?_⟩
   ·rw [show k=0 by omega];simp
   ·simp at hj
  cases ha with
  |slx hg=>exact main hg ⟨_,rfl⟩
  |sli hg hc hl=>exact main hg ⟨_,rfl⟩
  |sl0 hg _=>exact empty rfl
  |slx0 hg=>exact empty rfl
 |lst n es' cs=>
  obtain⟨e1,e2⟩:=bK.1 (show oif (Nat.beq es es') (some (n,cs))=some p from e);cases e2;have he:es=es':=by simpa using e1
  subst he;cases ha with
  |lst hEb hxs hl hvs=>
   rename_i b o cap c xs
   obtain⟨⟨t,q1⟩,_⟩:=hE b c hEb;have hlen:=hvs.length;have hxl:xs.length=n*es:=by omega
   refine⟨xs,hvs,hxl,λw=>by simp [Builtin.lenOf],λw2 hw k hk=>eL ?_ λj u hj=>?_⟩
   ·rw [List.length_take,hxl,Nat.min_eq_left (Nat.mul_le_mul_right es hk)]
   ·rw [List.getElem?_take]at hj
    split at hj
    ·have hadd:(⟨b,o,none⟩:Addr).add j=⟨b,o+j,none⟩:=by
      simp only [Addr.add]
      split
      ·rename_i q;subst q;rfl
      ·rfl
     rw [hadd];simp [World.cell?,hw,q1,hxs j u hj]
    ·cases hj
  |lst0=>exact⟨[],.nil,by simp,λw=>by simp [Builtin.lenOf],λw2 _ k _=>by simp [Builtin.firstCells]⟩
  |lstz=>exact⟨[],.nil,by simp,λw=>by simp [Builtin.lenOf],λw2 _ k hk=>by
    obtain rfl:k=0:=Nat.le_zero.1 hk;simp [Builtin.firstCells,loadCells];rfl⟩
 |_=>cases e
theorem rA{args:Array Operand}{vs:List V}{a b:V}(hv:VRs g vs (args.toList.map ρ))(h:vs=[a,b]):∃x y,args.map ρ=#[ρ x,ρ y]/\VR g a (ρ x)/\VR g b (ρ y):=by
 subst h;have hl:=hv.length;simp at hl;cases ha:args.toList with
 |nil=>rw [<-Array.length_toList,ha]at hl;cases hl
 |cons x l=>cases l with
  |nil=>rw [<-Array.length_toList,ha]at hl;simp at hl
  |cons y l=>cases l with
   |cons z l=>rw [<-Array.length_toList,ha]at hl;simp at hl
   |nil=>
    rw [ha]at hv;obtain⟨p,q,e,h1,h2⟩:=hv.two;cases e;exact⟨x,y,by apply Array.ext';simp [ha],h1,h2⟩
theorem C6{args:Array Operand}{vs:List V}{a:V}(hv:VRs g vs (args.toList.map ρ))(h:vs=[a]):∃x,args.map ρ=#[ρ x]/\VR g a (ρ x):=by
 subst h;have hl:=hv.length;simp at hl;cases ha:args.toList with
 |nil=>rw [<-Array.length_toList,ha]at hl;cases hl
 |cons x l=>cases l with
  |cons y l=>rw [<-Array.length_toList,ha]at hl;simp at hl
  |nil=>
   rw [ha]at hv;obtain⟨p,e,h1⟩:=hv.one;cases e;exact⟨x,by apply Array.ext';simp [ha],h1⟩
theorem uP{id off len cap es:Nat}{ex:Bool}{u:Value}(h:VR g (.sl id off len cap ex es) u):
  (∃b o z c,g id=some (b,o,z)/\u= .slice (some ⟨b,o+off,none⟩) len c)\/(len=0/\∃b o z p,g id=some (b,o,z)/\u= .slice (some ⟨b,p,none⟩) 0 0):=by
 cases h with
 |slx hg=>exact .inl ⟨_,_,_,_,hg,rfl⟩
 |sli hg hc hl=>exact .inl ⟨_,_,_,_,hg,rfl⟩
 |sl0 hg _=>exact .inr ⟨rfl,_,_,_,_,hg,rfl⟩
 |slx0 hg=>exact .inr ⟨rfl,_,_,_,_,hg,rfl⟩
theorem CA(hT:cN P T)(r:WR T g h w)(hE:jL g w){t e:TypeId}{n:Nat}{args:Array Operand}{at':Array TypeId}{vs:List V}{v:V}{h':H}(h0:at'[0]? =some t)(h1:T.under t=some (.slice e))(hn:ir T e=some n)
  (hv:VRs g vs (args.toList.map ρ)) (hr:EOp.run (.copy n) vs h=some (v,h')):Eff P T g h w ρ (.call ⟨.builtin .copy,args,at'⟩) v h':=by
 obtain⟨d,x,rfl⟩:∃d x,vs=[d,x]:=by
  cases vs with
  |nil=>cases hr
  |cons d vs=>cases vs with
   |nil=>cases hr
   |cons x vs=>cases vs with
    |nil=>exact⟨d,x,rfl⟩
    |cons y vs=>cases hr
 obtain⟨xo,yo,ha,hd,hx⟩:=rA hv rfl;have hsz:=(d4 hn).1;obtain⟨p,e1,e2⟩:=bE.1 (show ob (jS n x h) (λp=>match d with
  |.nils=>some (.int .i64 (Int.ofNat 0),h)
  |.sl id off len _ _ es'=>oif (Nat.beq n es') (ob (gI (Nat.mul (Nat.min p.1 len) n) p.2) λl=>ob (H.wr id l off h) λh=>some (.int .i64 (Int.ofNat (Nat.min p.1 len)),h))
  |_=>none)=some (v,h')from hr)
 obtain⟨us,k1,k2,k3,k4⟩:=wH (P:=P) r hE hx e1;have zero:∀{u:Value},u=ρ xo->(∃q c,u= .slice q 0 c)->yk P ρ w (.call ⟨.builtin .copy,args,at'⟩) (.int .i64 (Int.ofNat 0)) w:=by
  intro u hu hq o e';obtain⟨q,c,hq⟩:=hq;have hf:(Builtin.firstCells n 0 (ρ yo)).run P w= .ok #[] w:=by
   rw [k4 w rfl 0 (Nat.zero_le _)];simp
  left
  cases q with
  |none=>simp [execOp,e',resolve,invoke,builtin,ha,Builtin.copy_,<-hu,hq,h0,bJ hT h1,k3,cy hT hsz,hf,goInt]
  |some q=>simp [execOp,e',resolve,invoke,builtin,ha,Builtin.copy_,<-hu,hq,h0,bJ hT h1,k3,cy hT hsz,hf,goInt,storeCells]
 cases d with
 |nils=>
  cases e2;have hd':ρ xo= .slice none 0 0:=by cases hx':ρ xo<;>rw [hx']at hd<;>cases hd;rfl
  exact⟨g,w,_,.refl r,.int .i64 _,zero rfl ⟨none,0,hd'⟩⟩
 |sl id off len cap ex es'=>
  obtain⟨_,e3⟩:=bK.1 e2;obtain⟨l,e4,e5⟩:=bE.1 e3;obtain⟨h2,e6,e7⟩:=bE.1 e5;cases e7;obtain⟨rfl,hle⟩:=mf e4;rw [jX,DN]at*;rcases uP hd with⟨b,o,z,c,hg,hu⟩ | ⟨rfl,b,o,z,q,hg,hu⟩
  ·have hl:=k1.take (min p.1 len*n)
   obtain⟨w',x1,s1⟩:=uw (P:=P) (i:=off) (k:=0) r hg hl e6;refine⟨g,w',_,x1,.int .i64 _,λo' e'=>.inl ?_⟩;have hf:=k4 w rfl (min p.1 len) (Nat.min_le_left _ _);simp [execOp,e',resolve,invoke,builtin,ha,Builtin.copy_,hu,h0,bJ hT h1,k3,cy hT hsz,DN,hf,s1,goInt]
  ·simp only [Nat.min_zero,Nat.zero_mul,List.take_zero]at e6 ⊢
   cases e6;exact⟨g,w,_,.refl r,.int .i64 _,zero rfl ⟨_,0,hu⟩⟩
 |_=>cases e2
theorem BG(n:Nat):jy [] n=[]:=by
 induction n with
 |zero=>rfl
 |succ n ih=>rw [r9,ih];rfl
theorem yO{z:List V}{zs:Array Value}(hz:VRs g z zs.toList)(n:Nat):VRs g (jy z n) ((List.range (n*zs.size)).map λi=>zs[i%zs.size]!):=by
 rcases Nat.eq_zero_or_pos zs.size with h0|hp
 ·have hl:=hz.length
  have hl':z.length=0:=by simpa [h0]using hl
  rw [List.eq_nil_of_length_eq_zero hl',BG,h0];simp only [Nat.mul_zero,List.range_zero,List.map_nil];exact .nil
 ·exact tm hz hp n
theorem AA(hT:cN P T)(r:WR T g h w){t e:TypeId}{z:V}{args:Array Operand}{at':Array TypeId}{vs:List V}{v:V}{h':H}(h0:at'[0]? =some t)(h1:T.under t=some (.slice e))(hz:gL T e=some z)
  (hv:VRs g vs (args.toList.map ρ)) (hr:EOp.run (.clear (cellsOf z)) vs h=some (v,h')):Eff P T g h w ρ (.call ⟨.builtin .clear,args,at'⟩) v h':=by
 obtain⟨d,rfl⟩:∃d,vs=[d]:=by
  cases vs with
  |nil=>cases hr
  |cons d vs=>cases vs with
   |nil=>exact⟨d,rfl⟩
   |cons y vs=>cases d<;>cases hr
 obtain⟨xo,ha,hd⟩:=C6 hv rfl;obtain⟨zu,hzu,hzr⟩:=fY (g:=g) hT hz;have nothing:∀{q:Option Addr} {c:Nat},ρ xo= .slice q 0 c->yk P ρ w (.call ⟨.builtin .clear,args,at'⟩) (.tuple #[]) w:=by
  intro q c hu o e'
  left
  cases q<;>simp [execOp,e',resolve,invoke,builtin,ha,Builtin.clear_,hu,h0,bJ hT h1]
 cases d with
 |nils=>
  cases hr;have hd':ρ xo= .slice none 0 0:=by cases hx':ρ xo<;>rw [hx']at hd<;>cases hd;rfl
  exact⟨g,w,_,.refl r,VR.tup .nil,nothing hd'⟩
 |sl id off len cap ex es=>
  obtain⟨e1,e2⟩:=bK.1 (show oif (Nat.beq (bY (cellsOf z)) es) (ob (H.wr id (jy (cellsOf z) len) off h) λh=>some (.tup [],h))=some (v,h')from hr);obtain⟨h2,e3,e4⟩:=bE.1 e2;cases e4;rcases uP hd with⟨b,o,zz,c,hg,hu⟩ | ⟨rfl,b,o,zz,q,hg,hu⟩
  ·cases len with
   |zero=>
    cases e3;exact⟨g,w,_,.refl r,VR.tup .nil,nothing hu⟩
   |succ len=>
    have hc:=fq hzu;have hrep:=yO hc (len+1);obtain⟨w',x1,s1⟩:=uw (P:=P) (i:=off) (k:=0) r hg hrep e3;refine⟨g,w',_,x1,VR.tup .nil,λo' e'=>.inl ?_⟩;simp [execOp,e',resolve,invoke,builtin,ha,Builtin.clear_,hu,h0,bJ hT h1,hzr,Builtin.zeroCells,s1]
  ·cases e3
   exact⟨g,w,_,.refl r,VR.tup .nil,nothing hu⟩
 |_=>cases hr
theorem oX{w:World}{b:Nat}{o x:Obj}(h:w.heap[b]? =some x):(w.heap.setIfInBounds b o)[b]? =some o:=by
 have hb:b<w.heap.size:=by
  rcases Nat.lt_or_ge b w.heap.size with k|k
  ·exact k
  ·rw [Array.getElem?_eq_none k]at h;cases h
 rw [Array.getElem?_setIfInBounds_self_of_lt hb]
theorem sU:∀l:List UInt8,kD l.length (bT l)=l
 |[]=>rfl
 |b ::l=>by
  show UInt8.ofNat (Nat.mod (bT (b ::l)) 256) ::kD l.length (Nat.div (bT (b ::l)) 256)=b ::l;have h1:bT (b ::l)=b.toNat+256*bT l:=rfl;have hb:b.toNat<256:=b.toNat_lt;have h2:Nat.mod (bT (b ::l)) 256=b.toNat:=by
   show bT (b ::l)%256=_;rw [h1];omega
  have h3:Nat.div (bT (b ::l)) 256=bT l:=by
   show bT (b ::l)/256=_;rw [h1];omega
  rw [h2,h3,sU l];simp
theorem Ee(s:ByteArray)(pos:Nat)(hp:pos<s.size):Utf8.decode s pos=jA s.size (bT s.data.toList) pos:=by
 unfold jA;have hb:bT s.data.toList/256 ^ pos%256=s[pos].toNat:=sv (by simp [ByteArray.getElem_eq_getElem_data,<-ByteArray.size_data]);rw [tF,zW,jX,BT,hb,cC]
 split
 ·rename_i e
  exact decode_ascii s pos hp (by simpa using e)
 ·have:kD s.size (bT s.data.toList)=s.data.toList:=by
   have:=sU s.data.toList
   rwa [Array.length_toList]at this
  rw [this]
theorem Ax(r:WR T g h w){x:Operand}{a v:V}{h':H}(ha:VR g a (ρ x))(hr:EOp.run .nextS [a] h=some (v,h')):Eff P T g h w ρ (.next x true) v h':=by
 cases a with
 |ptr id off=>
  cases off with
  |succ off=>cases hr
  |zero=>
   obtain⟨k,e1,e2⟩:=bE.1 (show ob (h.blk id) (λb=>match b with
    |.siter n c pos=>Bool.rec (motive:=λ_=>Option (V×H)) (some (.tup [.bool false],h))
      (some (.tup [.bool true,.int .i64 (Int.ofNat pos),.int .i32 (Int.ofNat (jA n c pos).1)],⟨h.t.put id (some (.siter n c (Nat.add pos (jA n c pos).2))),h.next⟩)) (Nat.blt pos n)
    |_=>none)=some (v,h')from hr)
   cases k with
   |siter n c pos=>
    simp only [cC]at e2;cases hx:ρ x<;>rw [hx]at ha<;>cases ha
    rename_i b o z hg
    obtain⟨b',o',z',s,k1,k2,k3,k4,k5⟩:=r.blk id _ _ hg e1;rw [hg]at k1;cases k1;subst k5
    by_cases hp:pos<n
    ·rw [if_pos (by simpa using hp)]at e2
     cases e2;have hp':pos<s.size:=by omega
     have hd:Utf8.decode s pos=jA n c pos:=by rw [<-k3,<-k4,Ee s pos hp']
     refine⟨g,{w with heap:=w.heap.setIfInBounds b (.stringIter s (pos+(jA n c pos).2))},_,?_,.tup (.cons (.bool true) (.cons (.int _ _) (.cons (.int _ _) .nil))),λo' e'=>.inl ?_⟩
     ·refine Ext.upd r hg e1 rfl rfl rfl (λ_ _ h=>by cases h) (λj hj=>?_) (by simp) rfl rfl rfl ⟨b,0,z,s,hg,oX k2,k3,k4,rfl⟩
      simp [Array.getElem?_setIfInBounds_ne (Ne.symm hj)]
     ·simp [execOp,e',hx,Instr.next,getObj,setObj,Sem.run,k2,hp',hd,goInt]
    ·rw [if_neg (by simpa using hp)]at e2
     cases e2;refine⟨g,w,_,.refl r,.tup (.cons (.bool false) .nil),λo' e'=>.inl ?_⟩;have hp':¬pos<s.size:=by omega
     simp [execOp,e',hx,Instr.next,getObj,Sem.run,k2,hp']
   |_=>cases e2
 |_=>cases hr
noncomputable def nZ(h:H)(kk:Kk)(k:V):List (V×V)->Option (Option Nat)
 |[]=>some none
 |e ::tl=>ob (fP h kk k e.1) λb=>if b=true then some (some 0)else ob (nZ h kk k tl) λr=>some (r.map (·+1))
theorem zQ(h:H)(kk:Kk)(k v:V)(e:V×V)(tl:List (V×V)):mh h kk k v (e ::tl)=ob (fP h kk k e.1) λb=>if b=true then some ((k,v) ::tl)else ob (mh h kk k v tl) λr=>some (e ::r):=by
 show ob (fP h kk k e.1) (λb=>Bool.rec (motive:=λ_=>Option (List (V×V))) (ob (mh h kk k v tl) λr=>some (e ::r)) (some ((k,v) ::tl)) b)=_;simp only [cC]
theorem AB(h:H)(kk:Kk)(k:V)(e:V×V)(tl:List (V×V)):uc h kk k (e ::tl)=ob (fP h kk k e.1) λb=>if b=true then some tl else ob (uc h kk k tl) λr=>some (e ::r):=by
 show ob (fP h kk k e.1) (λb=>Bool.rec (motive:=λ_=>Option (List (V×V))) (ob (uc h kk k tl) λr=>some (e ::r)) (some tl) b)=_;simp only [cC]
theorem va{kk:Kk}{k v:V}:∀{es es':List (V×V)},mh h kk k v es=some es'->∃p,nZ h kk k es=some p/\es'=(match p with|none=>es++[(k,v)]|some j=>es.set j (k,v))
 |[],es',e=>by cases e;exact⟨none,rfl,rfl⟩
 |x ::tl,es',e=>by
  rw [zQ]at e;obtain⟨b,e1,e2⟩:=bE.1 e;cases b with
  |true=>cases e2;exact⟨some 0,by simp [nZ,e1,yU],rfl⟩
  |false=>
   obtain⟨r,e3,e4⟩:=bE.1 e2;cases e4;obtain⟨p,k1,k2⟩:=va e3;refine⟨p.map (·+1),by simp [nZ,e1,yU,k1],?_⟩;cases p<;>simp [k2]
theorem vX{kk:Kk}{k:V}:∀{es es':List (V×V)},uc h kk k es=some es'->∃p,nZ h kk k es=some p/\es'=(match p with|none=>es|some j=>es.eraseIdx j)
 |[],es',e=>by cases e;exact⟨none,rfl,rfl⟩
 |x ::tl,es',e=>by
  rw [AB]at e;obtain⟨b,e1,e2⟩:=bE.1 e;cases b with
  |true=>cases e2;exact⟨some 0,by simp [nZ,e1,yU],rfl⟩
  |false=>
   obtain⟨r,e3,e4⟩:=bE.1 e2;cases e4;obtain⟨p,k1,k2⟩:=vX e3;refine⟨p.map (·+1),by simp [nZ,e1,yU,k1],?_⟩;cases p<;>simp [k2]
theorem FJ(hT:cN P T)(r:WR T g h w){t:TypeId}{d:TypeDesc}{kk:Kk}{x:V}{a:Value}(h1:T.under t=some d)(hk:jh T t=some kk)(ha:VR g x a):
  ∀(es:List (V×V)) (m:List MapEntry) (i:Nat) (p:Option Nat),oM g es m->nZ h kk x es=some p->∃q,(Instr.findAsking t a m i).run P w= .ok q w/\(∀q',Instr.findNow d a m i=some q'->q'=q)/\
   (match p with|none=>q=none|some j=>∃e ke,m[j]? =some e/\q=some (i+j,e.val)/\es[j]? =some ke/\fP h kk x ke.1=some true/\VR g ke.1 e.key):=by
 intro es
 induction es with
 |nil=>
  intro m i res hm hr;cases hr;cases m with
  |nil=>exact⟨none,by simp [Instr.findAsking],(λq' e=>by simp [Instr.findNow]at e;exact e.symm),rfl⟩
  |cons=>have:=hm.1.length;simp at this
 |cons e es ih=>
  intro m i res hm hr;cases m with
  |nil=>have:=hm.1.length;simp at this
  |cons f m=>
   simp only [nZ]at hr;obtain⟨b,h2,h3⟩:=bE.1 hr;obtain⟨hm1,hm2⟩:=hm;cases hm1 with
   |cons hk1 ht1=>cases hm2 with
    |cons hv1 hv2=>
     have heq:=rh hT r hk ha hk1 h2;cases b with
     |true=>
      cases h3;refine⟨_,by simp [Instr.findAsking,heq],λq' e'=>?_,f,e,rfl,rfl,rfl,h2,hk1⟩;simp only [Instr.findNow]at e';cases hs:Instr.sameNow d a f.key with
      |none=>rw [hs]at e';cases e'
      |some s=>
       rw [ku hT h1 hk ha hk1 h2 hs]at hs;rw [hs]at e';exact(Option.some.inj e').symm
     |false=>
      obtain⟨p,h4,h5⟩:=bE.1 (show ob (nZ h kk x es) (λr=>some (r.map (·+1)))=some res from h3);cases h5;obtain⟨q,f2,f3,f4⟩:=ih m (i+1) p ⟨ht1,hv2⟩ h4;refine⟨q,by simp [Instr.findAsking,heq,f2],λq' e'=>?_,?_⟩
      ·simp only [Instr.findNow]at e'
       cases hs:Instr.sameNow d a f.key with
       |none=>rw [hs]at e';cases e'
       |some s=>
        rw [ku hT h1 hk ha hk1 h2 hs]at hs;rw [hs]at e';exact f3 q' e'
      ·cases p with
       |none=>exact f4
       |some j=>
        obtain⟨e',ke,m1,m2,m3,m4,m5⟩:=f4;exact⟨e',ke,by simpa using m1,by rw [m2];simp;omega,by simpa using m3,m4,m5⟩
theorem nY(hT:cN P T)(r:WR T g h w){t:TypeId}{d:TypeDesc}{kk:Kk}{x:V}{a:Value}{es:List (V×V)}{m:List MapEntry}{p:Option Nat}(h1:T.under t=some d)(hk:jh T t=some kk)(ha:VR g x a)(hm:oM g es m)
  (hr:nZ h kk x es=some p):∃q,(Instr.findKey t a m).run P w= .ok q w/\
   (match p with|none=>q=none|some j=>∃e ke,m[j]? =some e/\q=some (j,e.val)/\es[j]? =some ke/\fP h kk x ke.1=some true/\VR g ke.1 e.key):=by
 obtain⟨q,f1,f2,f3⟩:=FJ hT r h1 hk ha es m 0 p hm hr;refine⟨q,?_,?_⟩
 ·simp only [Instr.findKey,Sem.run_bind,bJ hT h1,Result.andThen_ok]
  cases hn:Instr.findNow d a m 0 with
  |none=>exact f1
  |some q'=>rw [f2 q' hn];rfl
 ·cases p with
  |none=>exact f3
  |some j=>simpa using f3
theorem EJ{k:Pk}{x y:V}{a b:Value}(ha:VR g x a)(hb:VR g y b)(he:eq1 h k x y=some true)(n:Nat):Instr.sameBits n b a=true:=by
 cases k<;>cases x<;>cases y<;>first|(cases he;done)|skip
 ·obtain⟨e1,e2⟩:=bK.1 he
  rw [ha.int_inv,hb.int_inv];rw [iL]at e2;simp only [Option.some.injEq,beq_iff_eq]at e2;rw [rj]at e1;subst e1 e2;cases n<;>simp [Instr.sameBits]
 ·cases ha
  cases hb;have he:=Option.some.inj he;rw [dR,dR,jR]at he
  rename_i s s' _
  have:s=s':=by
   obtain⟨⟨p⟩⟩:=s;obtain⟨⟨q⟩⟩:=s';simp at he;simp [he]
  subst this;have hs:(s==s)=true:=by
   obtain⟨p⟩:=s;show(p==p)=true;simp
  cases n<;>simp [Instr.sameBits,hs]
 ·rw [ha.bool_inv,hb.bool_inv]
  have he:=Option.some.inj he;rw [kE]at he;simp at he;subst he;cases n<;>simp [Instr.sameBits]
 ·cases ha
  cases hb;cases n<;>simp [Instr.sameBits]
 ·cases ha
  cases hb
  rename_i i1 o1 i2 o2 b1 z1 zz1 hg1 b2 z2 zz2 hg2
  have he':(Bool.rec (motive:=λ_=>Option Bool) (oif (h.alone i1) (oif (h.alone i2) (some false))) (some (Nat.beq o1 o2)) (Nat.beq i1 i2))=some true:=he;clear he;rw [cC]at he';have he:=he';clear he'
  split at he
  ·rename_i hi
   have hi':i1=i2:=by simpa using hi
   subst hi';have ho:o1=o2:=by simpa using he
   subst ho;rw [hg1]at hg2;cases hg2;cases n<;>simp [Instr.sameBits]
  ·obtain⟨_,he⟩:=bK.1 he
   obtain⟨_,he⟩:=bK.1 he;cases he
theorem Dw{ks:List Pk}:∀{xs ys:List V} {as bs:List Value},VRs g xs as->VRs g ys bs->eqL h ks xs ys=some true->∀n,((bs.zip as).all λp=>Instr.sameBits n p.1 p.2)=true/\bs.length=as.length:=by
 induction ks with
 |nil=>
  intro xs ys as bs ha hb he n;cases xs with
  |cons x xs=>cases he
  |nil=>cases ys with
   |cons y ys=>cases he
   |nil=>cases ha;cases hb;exact⟨rfl,rfl⟩
 |cons k ks ih=>
  intro xs ys as bs ha hb he n;cases xs with
  |nil=>cases he
  |cons x xs=>cases ys with
   |nil=>cases he
   |cons y ys=>
    cases ha with
    |cons hx hxs=>cases hb with
     |cons hy hys=>
      obtain⟨c,e1,e2⟩:=bE.1 (show ob (eq1 h k x y) (λc=>Bool.rec (motive:=λ_=>Option Bool) (some false) (eqL h ks xs ys) c)=some true from he);cases c with
      |false=>cases e2
      |true=>
       obtain⟨m1,m2⟩:=ih hxs hys e2 n;exact⟨by simp only [List.zip_cons_cons,List.all_cons,Bool.and_eq_true];exact⟨EJ hx hy e1 n,m1⟩,by simp [m2]⟩
theorem yL{k:Kk}{x y:V}{a b:Value}(ha:VR g x a)(hb:VR g y b)(he:fP h k x y=some true)(n:Nat):Instr.sameBits (n+1) b a=true:=by
 cases k with
 |one k=>exact EJ ha hb he _
 |agg ks=>
  cases x<;>first|(cases he;done)|skip
  cases y<;>first|(cases he;done)|skip
  cases ha with
  |agg ha=>cases hb with
   |agg hb=>
    obtain⟨m1,m2⟩:=Dw ha hb he n;simp only [Instr.sameBits,Bool.and_eq_true];refine⟨by simp [m2],?_⟩;exact m1
theorem mY{id:Nat}{u:Value}(h:VR g (.map id) u):∃b o z,g id=some (b,o,z)/\u= .map (some b):=by
 cases h with
 |map hg=>exact⟨_,_,_,hg,rfl⟩
theorem VRs.setL:∀{a:List V} {x:List Value} {v:V} {u:Value} (j:Nat),VRs g a x->VR g v u->VRs g (a.set j v) (x.set j u)
 |_,_,_,_,_,.nil,_=>.nil
 |_,_,_,_,0,.cons h t,k=>.cons k t
 |_,_,_,_,j+1,.cons h t,k=>.cons h (VRs.setL j t k)
theorem VRs.eraseL:∀{a:List V} {x:List Value} (j:Nat),VRs g a x->VRs g (a.eraseIdx j) (x.eraseIdx j)
 |_,_,_,.nil=>.nil
 |_,_,0,.cons h t=>t
 |_,_,j+1,.cons h t=>.cons h (VRs.eraseL j t)
theorem jY{α β:Type}(f:α->β):∀(l:List α) (j:Nat),(l.eraseIdx j).map f=(l.map f).eraseIdx j
 |[],_=>by simp
 |_ ::_,0=>by simp
 |a ::l,j+1=>by simp [jY f l j]
theorem d8{w:World}{b:Nat}{m:Array MapEntry}{c:Nat}(o:Obj)(hb:w.heap[b]? =some (.map m c)):(setObj b o).run P w= .ok () {w with heap:=w.heap.setIfInBounds b o}:=by
 simp [setObj,Sem.run,hb]
theorem kA(r:WR T g h w){id b o z:Nat}{es es':List (V×V)}{m m':Array MapEntry}{c c':Nat}(hg:g id=some (b,o,z)){od od':Bool}(he:h.blk id=some (.map es od))(hb:w.heap[b]? =some (.map m c))(hm:oM g es' m'.toList)(hn:zy od' m'.toList c'):
  Ext T g h w g ⟨h.t.put id (some (.map es' od')),h.next⟩ {w with heap:=w.heap.setIfInBounds b (.map m' c')}:=by
 refine Ext.upd r hg he rfl rfl rfl (λ_ _ h=>by cases h) (λj hj=>?_) (by simp) rfl rfl rfl ⟨b,o,z,m',c',hg,oX hb,hm,hn⟩;simp [Array.getElem?_setIfInBounds_ne (Ne.symm hj)]
theorem sO(hT:cN P T)(r:WR T g h w){t kt e:TypeId}{kk:Kk}{x y z:Operand}{a b c v:V}{h':H}(h1:T.under t=some (.map kt e))(hk:jh T kt=some kk)(ha:VR g a (ρ x))(hb:VR g b (ρ y))(hc:VR g c (ρ z))
  (hr:EOp.run (.mapup kk) [a,b,c] h=some (v,h')):∃g' w',Ext T g h w g' h' w'/\VR g' v undef/\(Instr.mapUpdate t (ρ x) (ρ y) (ρ z)).run P w= .ok () w':=by
 cases a with
 |map id=>
  obtain⟨e0,e1⟩:=bK.1 (show(oif (eV kk b) <| ob (h.entries id) λes=>ob (mh h kk b c es) λes=>some (cG,(⟨h.t.put id (some (.map es (h.ord id))),h.next⟩:H)))=some (v,h')from hr);obtain⟨es,e2,e3⟩:=bE.1 e1;obtain⟨es',e4,e5⟩:=bE.1 e3;cases e5;obtain⟨bb,o,zz,hg,hx⟩:=mY ha;obtain⟨m,cl,hm,hen,od,hblk,hord,hbn⟩:=fQ r hg e2;obtain⟨p,hp,rfl⟩:=va e4;obtain⟨d,hd,_⟩:∃d,T.under kt=some d/\True:=by
   unfold jh at hk;obtain⟨d,h2,_⟩:=bE.1 hk;exact⟨d,h2,trivial⟩
  obtain⟨q,hq,hq'⟩:=nY hT r hd hk hb hen hp;have hck:=iD (w:=w) hT hk hb e0 false;cases p with
  |none=>
   subst hq';refine⟨g,_,kA (m':=m.push {key:=ρ y,val:=ρ z,born:=cl}) (c':=cl+1) r hg hblk hm ?_ ?_,fk,?_⟩
   ·simp only [Array.toList_push]
    exact⟨by simpa using hen.1.append (.cons hb .nil),by simpa using hen.2.append (.cons hc .nil)⟩
   ·refine⟨by rw [Array.toList_push];exact hbn.1.push rfl,λho=>?_⟩
    rw [Array.toList_push];exact(hbn.2 (hord▸ho)).push rfl
   ·simp [hx,Instr.mapUpdate,bJ hT h1,cM hm,hck,hq,d8 _ hm]
  |some j=>
   obtain⟨e',ke,m1,rfl,m3,m4,m5⟩:=hq';have hsame:=yL hb m5 m4 9999;have m1':m[j]? =some e':=by simpa using m1
   have hl:(m.modify j λe=>{e with key:=ρ y,val:=ρ z}).toList=m.toList.set j {e' with key:=ρ y,val:=ρ z}:=by
     apply List.ext_getElem?;intro i;rw [Array.getElem?_toList,Array.getElem?_modify,List.getElem?_set]
     by_cases hij:j=i
     ·subst hij
      have:j<m.toList.length:=by
       rcases Nat.lt_or_ge j m.toList.length with k|k
       ·exact k
       ·rw [List.getElem?_eq_none k]at m1;cases m1
      have hj:j<m.size:=by simpa using this
      have he:m[j]=e':=by
       have:=m1';rw [Array.getElem?_eq_getElem hj]at this;exact Option.some.inj this
      simp [hj,he]
     ·simp [hij]
   refine⟨g,_,kA (m':=m.modify j λe=>{e with key:=ρ y,val:=ρ z}) (c':=cl) r hg hblk hm ?_ ?_,fk,?_⟩
   ·rw [hl]
    refine⟨?_,?_⟩
    ·rw [List.map_set,List.map_set]
     exact VRs.setL j hen.1 hb
    ·rw [List.map_set,List.map_set]
     exact VRs.setL j hen.2 hc
   ·refine⟨by rw [hl];exact hbn.1.set m1 rfl,λho=>?_⟩
    rw [hl];exact(hbn.2 (hord▸ho)).set m1 rfl
   ·simp [hx,Instr.mapUpdate,bJ hT h1,cM hm,hck,hq,d8 _ hm,Instr.keyThatStays,hsame,m1']
 |_=>cases hr
theorem xQ(hT:cN P T)(r:WR T g h w){t kt e:TypeId}{kk:Kk}{args:Array Operand}{at':Array TypeId}{vs:List V}{v:V}{h':H}(h0:at'[0]? =some t)(h1:T.under t=some (.map kt e))(hk:jh T kt=some kk)
  (hv:VRs g vs (args.toList.map ρ)) (hr:EOp.run (.delete kk) vs h=some (v,h')):Eff P T g h w ρ (.call ⟨.builtin .delete,args,at'⟩) v h':=by
 obtain⟨a,b,rfl⟩:∃d x,vs=[d,x]:=by
  cases vs with
  |nil=>cases hr
  |cons d vs=>cases vs with
   |nil=>cases d<;>cases hr
   |cons x vs=>cases vs with
    |nil=>exact⟨d,x,rfl⟩
    |cons y vs=>cases d<;>cases hr
 obtain⟨x,y,hargs,ha,hb⟩:=rA hv rfl;cases a with
 |map id=>
  obtain⟨e0,e1⟩:=bK.1 (show(oif (eV kk b) <| ob (h.entries id) λes=>ob (uc h kk b es) λes=>some ((V.tup [],⟨h.t.put id (some (.map es false)),h.next⟩):V×H))=some (v,h')from hr);obtain⟨es,e2,e3⟩:=bE.1 e1;obtain⟨es',e4,e5⟩:=bE.1 e3;cases e5;obtain⟨bb,o,zz,hg,hx⟩:=mY ha;obtain⟨m,cl,hm,hen,od,hblk,hord,hbn⟩:=fQ r hg e2;obtain⟨p,hp,rfl⟩:=vX e4;obtain⟨d,hd,_⟩:∃d,T.under kt=some d/\True:=by
   unfold jh at hk;obtain⟨d,h2,_⟩:=bE.1 hk;exact⟨d,h2,trivial⟩
  obtain⟨q,hq,hq'⟩:=nY hT r hd hk hb hen hp;have hck:=iD (w:=w) hT hk hb e0 (m.isEmpty);cases p with
  |none=>
   subst hq';refine⟨g,_,_,kA (m':=m) (c':=cl) r hg hblk hm hen ⟨hbn.1,λe=>by cases e⟩,.tup .nil,λo' e'=>.inl ?_⟩;simp [execOp,e',resolve,invoke,builtin,hargs,h0,hx,Builtin.delete_,bJ hT h1,cM hm,hck,hq,d8 _ hm]
  |some j=>
   obtain⟨e'',ke,m1,rfl,m3,m4,m5⟩:=hq';refine⟨g,_,_,kA (m':=m.eraseIdxIfInBounds j) (c':=cl) r hg hblk hm ?_ ⟨by rw [show(m.eraseIdxIfInBounds j).toList=m.toList.eraseIdx j by simp];exact hbn.1.erase j,λe=>by cases e⟩,.tup .nil,λo' e'=>.inl ?_⟩
   ·have hl:(m.eraseIdxIfInBounds j).toList=m.toList.eraseIdx j:=by simp
    rw [hl];refine⟨?_,?_⟩
    ·rw [jY,jY]
     exact VRs.eraseL j hen.1
    ·rw [jY,jY]
     exact VRs.eraseL j hen.2
   ·simp [execOp,e',resolve,invoke,builtin,hargs,h0,hx,Builtin.delete_,bJ hT h1,cM hm,hck,hq,d8 _ hm]
 |_=>cases hr
theorem yQ(h:H)(kk:Kk)(k:V):∀es,vd h kk k es=nZ h kk k es
 |[]=>rfl
 |e ::tl=>by
  show ob (fP h kk k e.1) (λb=>Bool.rec (motive:=λ_=>Option (Option Nat)) (ob (vd h kk k tl) λr=>some (r.map (·+1))) (some (some 0)) b)=_;rw [yQ h kk k tl];simp only [cC,nZ]
theorem qJ{m:Array MapEntry}{j:Nat}{e:MapEntry}(f:MapEntry->MapEntry)(h:m.toList[j]? =some e):(m.modify j f).toList=m.toList.set j (f e):=by
 have m1':m[j]? =some e:=by simpa using h
 apply List.ext_getElem?;intro i;rw [Array.getElem?_toList,Array.getElem?_modify,List.getElem?_set]
 by_cases hij:j=i
 ·subst hij
  have hj:j<m.size:=by
   rcases Nat.lt_or_ge j m.size with k|k
   ·exact k
   ·rw [Array.getElem?_eq_none k]at m1';cases m1'
  have he:m[j]=e:=by
   rw [Array.getElem?_eq_getElem hj]at m1';exact Option.some.inj m1'
  simp [hj,he]
 ·simp [hij]
theorem xP(hT:cN P T)(r:WR T g h w){t kt e:TypeId}{kk:Kk}{x y:Operand}{z a b v:V}{h':H}(h1:T.under t=some (.map kt e))(hk:jh T kt=some kk)(hz:gL T e=some z)(ha:VR g a (ρ x))(hb:VR g b (ρ y))
  (hr:EOp.run (.mapent kk z) [a,b] h=some (v,h')):∃g' w' u,Ext T g h w g' h' w'/\VR g' v u/\(Instr.mapEntry t (ρ x) (ρ y)).run P w= .ok u w':=by
 cases a with
 |map id=>
  obtain⟨e0,e1⟩:=bK.1 (show(oif (eV kk b&&h.ord id) <| ob (h.entries id) λes=>ob (vd h kk b es) λp=>Option.rec (motive:=λ_=>Option (V×H))
   (some (.tup [z,.int .i64 (Int.ofNat (bY es))],⟨h.t.put id (some (.map (es++[(b,z)]) true)),h.next⟩))
   (λj=>ob (d5 es j) λe=>some (.tup [e.2,.int .i64 (Int.ofNat j)],⟨h.t.put id (some (.map (es.set j (b,e.2)) true)),h.next⟩)) p)=some (v,h')from hr)
  obtain⟨es,e2,e3⟩:=bE.1 e1;obtain⟨p,hp,e5⟩:=bE.1 e3;rw [Bool.and_eq_true]at e0;obtain⟨e0,eo⟩:=e0;obtain⟨bb,o,zz,hg,hx⟩:=mY ha;obtain⟨m,cl,hm,hen,od,hblk,hord,hbn⟩:=fQ r hg e2;have hbn:=hbn.2 (hord▸eo);rw [yQ]at hp;obtain⟨d,hd,_⟩:∃d,T.under kt=some d/\True:=by
   unfold jh at hk;obtain⟨d,h2,_⟩:=bE.1 hk;exact⟨d,h2,trivial⟩
  obtain⟨q,hq,hq'⟩:=nY hT r hd hk hb hen hp;have hck:=iD (w:=w) hT hk hb e0 false;have hlen:es.length=m.size:=by have:=hen.1.length;simpa using this
  cases p with
  |none=>
   subst hq';cases e5;obtain⟨zu,hzr,hzu⟩:=fY (g:=g) hT hz;refine⟨g,_,.tuple #[zu,.int .i64 (Int.ofNat (bY es))],kA (m':=m.push {key:=ρ y,val:=zu,born:=cl}) (c':=cl+1) r hg hblk hm ?_ ?_,.tup (.cons hzr (.cons (.int _ _) .nil)),?_⟩
   ·simp only [Array.toList_push]
    exact⟨by simpa using hen.1.append (.cons hb .nil),by simpa using hen.2.append (.cons hzr .nil)⟩
   ·rw [Array.toList_push]
    exact(hbn.push rfl).o
   ·have hcl:(goInt cl:Value)= .int .i64 (Int.ofNat (bY es)):=by
     rw [bV,hlen];have:=hbn.1;simp only [Array.length_toList]at this;rw [this];rfl
    simp [hx,Instr.mapEntry,bJ hT h1,cM hm,hck,hq,d8 _ hm,hzu,hcl]
  |some j=>
   obtain⟨e',ke,m1,rfl,m3,m4,m5⟩:=hq';obtain⟨ke',n1,n2⟩:=bE.1 e5;cases n2;rw [dD,m3]at n1;cases n1;have hsame:=yL hb m5 m4 9999;have m1':m[j]? =some e':=by simpa using m1
   have hl:=qJ (λe=>{e with key:=ρ y}) m1;obtain⟨uv,s1,s2⟩:=hen.2.get (i:=j) (v:=ke.2) (by rw [List.getElem?_map,m3];rfl);rw [List.getElem?_map,m1]at s1;cases s1;have hbj:=hbn.2 j e' m1;refine⟨g,_,.tuple #[e'.val,.int .i64 (Int.ofNat j)],kA (m':=m.modify j λe=>{e with key:=ρ y}) (c':=cl) r hg hblk hm ?_ ?_,.tup (.cons s2 (.cons (.int _ _) .nil)),?_⟩
   ·rw [hl]
    refine⟨?_,?_⟩
    ·rw [List.map_set,List.map_set]
     exact VRs.setL j hen.1 hb
    ·rw [List.map_set,List.map_set]
     exact VRs.setL j hen.2 s2
   ·rw [hl]
    exact kR.o (hbn.set m1 rfl)
   ·simp [hx,Instr.mapEntry,bJ hT h1,cM hm,hck,hq,d8 _ hm,Instr.keyThatStays,hsame,m1',hbj,goInt]
 |_=>cases hr
theorem Az(r:WR T g h w){t:TypeId}{x y z:Operand}{a b c v:V}{h':H}(ha:VR g a (ρ x))(hb:VR g b (ρ y))(hc:VR g c (ρ z))
  (hr:EOp.run .entst [a,b,c] h=some (v,h')):∃g' w',Ext T g h w g' h' w'/\VR g' v undef/\(Instr.entryStore t (ρ x) (ρ y) (ρ z)).run P w= .ok () w':=by
 cases a with
 |map id=>
  cases b with
  |int k s=>
   obtain⟨eo,e1⟩:=bK.1 (show(oif (h.ord id) <| ob (h.entries id) λes=>ob (idx s (bY es)) λj=>ob (d5 es j) λe=>some (cG,(⟨h.t.put id (some (.map (es.set j (e.1,c)) true)),h.next⟩:H)))=some (v,h')from hr);obtain⟨es,e2,e3⟩:=bE.1 e1;obtain⟨j,hj,e4⟩:=bE.1 e3;obtain⟨ke,n1,e5⟩:=bE.1 e4;cases e5;obtain⟨bb,o,zz,hg,hx⟩:=mY ha;obtain⟨m,cl,hm,hen,od,hblk,hord,hbn⟩:=fQ r hg e2;have hbn:=hbn.2 (hord▸eo);have hs:=j6 hj;rw [bV]at hs;have hlen:es.length=m.size:=by have:=hen.1.length;simpa using this
   obtain⟨rfl,hlt⟩:=hs;have hjm:j<m.size:=by omega
   have m1:m.toList[j]? =some m[j]:=by simp [hjm]
   rw [dD]at n1;have hl:=qJ (λe=>{e with val:=ρ z}) m1;obtain⟨uk,s1,s2⟩:=hen.1.get (i:=j) (v:=ke.1) (by rw [List.getElem?_map,n1];rfl);rw [List.getElem?_map,m1]at s1;cases s1;refine⟨g,_,kA (m':=m.modify j λe=>{e with val:=ρ z}) (c':=cl) r hg hblk hm ?_ ?_,fk,?_⟩
   ·rw [hl]
    refine⟨?_,?_⟩
    ·rw [List.map_set,List.map_set]
     exact VRs.setL j hen.1 s2
    ·rw [List.map_set,List.map_set]
     exact VRs.setL j hen.2 hc
   ·rw [hl]
    exact kR.o (hbn.set m1 rfl)
   ·have hb':=hb.int_inv
    have hf:m.findIdx? (λe=>(e.born:Int)==Int.ofNat j)=some j:=by
     rw [Array.findIdx?_eq_some_iff_getElem];refine⟨hjm,?_,λi hi=>?_⟩
     ·have:=hbn.2 j m[j] m1
      rw [this];exact beq_self_eq_true _
     ·have hi':i<m.size:=by omega
      have:=hbn.2 i m[i] (by simp [hi']);rw [this];simp;omega
    simp [hx,hb',Instr.entryStore,cM hm,asInt,asIntOf];rw [show m.findIdx? (λe=>(e.born:Int)==(j:Int))=some j from hf];simp [d8 _ hm]
  |_=>cases hr
 |_=>cases hr
theorem xO(hT:cN P T)(r:WR T g h w){t kt e:TypeId}{x:Operand}{a v:V}{h':H}(h1:T.under t=some (.map kt e))(ha:VR g a (ρ x))(hr:EOp.run .rangeM [a] h=some (v,h')):Eff P T g h w ρ (.range t x) v h':=by
 cases a with
 |map id=>
  obtain⟨es,e1,e2⟩:=bE.1 (show(ob (h.entries id) λes=>ob (h.new (.miter id (Bool.rec (motive:=λ_=>Option (List Nat×Nat)) none (some ([],bY es)) (h.ord id)))) λh'=>some (V.ptr h.next 0,h'))=some (v,h')from hr);obtain⟨h2,e3,e4⟩:=bE.1 e2;cases e4;obtain⟨bb,o,zz,hg,hx⟩:=mY ha;obtain⟨m,cl,hm,hen,od,hblk,hord,hbn⟩:=fQ r hg e1;have hst:StM (Bool.rec (motive:=λ_=>Option (List Nat×Nat)) none (some ([],bY es)) (h.ord id)) cl #[] cl:=by
   cases q:h.ord id with
   |false=>exact rfl
   |true=>
    have hb:=hbn.2 (hord▸q);have hlen:es.length=m.toList.length:=by have:=hen.1.length;simpa using this
    exact⟨rfl,by rw [bV,hlen];exact hb.1,by rw [bV,hlen];exact hb.1⟩
  have hlt:=r.lt _ _ _ _ hg;have hne:id≠h.next:=by have:=r.dom _ _ hg;omega
  refine⟨_,w.alloc (.mapIter (some bb) cl #[] cl),.pointer (some ⟨w.heap.size,0,none⟩),Ext.new (z:=0) r e3 (.inl rfl) ⟨w.heap.size,0,bb,o,zz,cl,#[],cl,cm _ _ _,by rw [dn _ hne];exact hg,da _ _,hst⟩,VR.ptr (off:=0) (cm _ _ _),λo' e'=>.inl ?_⟩;simp [execOp,e',Instr.range,bJ hT h1,hx,cM hm]
 |_=>cases hr
theorem Ay(r:WR T g h w){x:Operand}{a v:V}{h':H}(ha:VR g a (ρ x))(hr:EOp.run .nextM [a] h=some (v,h')):Eff P T g h w ρ (.next x false) v h':=by
 cases a with
 |ptr id off=>
  cases off with
  |succ off=>cases hr
  |zero=>
   obtain⟨k,e1,e2⟩:=bE.1 (show ob (h.blk id) (λb=>match b with
    |.miter m (some ([],_))=>ob (h.entries m) λes=>eR es (some (.tup [.bool false],h)) λ_ _=>none
    |.miter m none=>ob (h.entries m) λes=>eR es (some (.tup [.bool false],h)) λ_ _=>none
    |_=>none)=some (v,h')from hr)
   cases k with
   |miter m st=>
    have e2:ob (h.entries m) (λes=>eR es (some (.tup [.bool false],h)) λ_ _=>none)=some (v,h')/\∀since seen last,StM st since seen last->seen=#[]:=by
     rcases st with _ | ⟨_ | ⟨a,l⟩,n⟩
     ·exact⟨e2,λ_ _ _ k=>k⟩
     ·exact⟨e2,λ_ _ _ k=>k.1⟩
     ·cases e2
    obtain⟨e2,hseen⟩:=e2;obtain⟨es,e3,e4⟩:=bE.1 e2;cases es with
    |cons y l=>cases e4
    |nil=>
     cases e4;cases hx:ρ x<;>rw [hx]at ha<;>cases ha
     rename_i b o z hg
     obtain⟨b',z',bm,om,zm,s,sn,l,k1,k2,k3,k4⟩:=r.blk id _ _ hg e1;rw [hg]at k1;cases k1;obtain rfl:=hseen _ _ _ k4;obtain⟨mm,cl,hm,hen,_⟩:=fQ r k2 e3;have hnil:mm=#[]:=by
      have:=hen.1.length;have h0:mm.toList.length=0:=by simpa using this.symm
      exact Array.eq_empty_of_size_eq_zero (by simpa using h0)
     subst hnil;refine⟨g,w,.tuple #[.bool false],.refl r,.tup (.cons (.bool _) .nil),λo' e'=>.inl ?_⟩;have hob:(getObj b).run P w= .ok (.mapIter (some bm) s #[] l) w:=by simp [getObj,Sem.run,k3]
     simp [execOp,e',Instr.next,hx,hob,cM hm,Question.forced]
   |_=>cases e2
 |_=>cases hr
end
end Ev
end Go.Proofs.YtdfphfdnoobikaaGreatDoor
