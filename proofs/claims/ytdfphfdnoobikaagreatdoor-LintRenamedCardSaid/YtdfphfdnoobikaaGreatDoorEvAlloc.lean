/-
  Operations that make a new block.
-/
import Derived.Test.YtdfphfdnoobikaaGreatDoorEvPure2
namespace Go.Proofs.YtdfphfdnoobikaaGreatDoor
namespace Ev
variable [Env]
set_option linter.unusedSectionVars false
section
variable {P:Program} {T:Ty} {g:G} {ρ:Operand->Value}
theorem dz:∀(l:List V) (i:Nat) (t:Tr V) (j:Nat),i+l.length<=bZ->(cM l i t).get j=if i<=j/\j<i+l.length then l[j-i]? else t.get j
 |[],i,t,j,_=>by
  rw [if_neg (by simp only [List.length_nil];omega)];rfl
 |v ::l,i,t,j,h=>by
  simp only [List.length_cons]at h;show(cM l (i+1) (t.put i (some v))).get j=_;rw [dz l (i+1) _ j (by omega),Tr.get_put t i j _ (by omega)];simp only [List.length_cons]
  by_cases h1:j=i
  ·subst h1
   rw [if_neg (by omega),if_pos rfl,if_pos (by omega)];simp
  ·by_cases h2:i+1<=j/\j<i+1+l.length
   ·rw [if_pos h2,if_pos (by omega)]
    rw [show j-i=(j-(i+1))+1 by omega,List.getElem?_cons_succ]
   ·rw [if_neg h2,if_neg h1,if_neg (by omega)]
theorem mO:∀{l:List V},cU l=true->∀v,v∈l->cQ v=true
 |[],_,v,h=>by cases h
 |x ::l,ha,v,h=>by
  have ha:Bool.rec (motive:=λ_=>Bool) false (cU l) (cQ x)=true:=ha;rw [cO]at ha
  split at ha
  ·rename_i hx
   cases h with
   |head=>exact hx
   |tail _ h=>exact mO ha v h
  ·cases ha
structure ml(P:Program)(T:Ty)(g:G)(ρ:Operand->Value)(op:Op)(blk:Blk)(mk:Nat->V):Prop where
 kin:blk.kin=none\/blk.kin=some (none,false)
 live:blk.live=true
 ro:∀n cs,blk≠.ro n cs
 make:∃(obj:Obj) (z:Nat) (val:Nat->Value),(∀(w:World) (o:Oper),o.op=op->(execOp ρ o).run P w= .ok (.value (val w.heap.size)) (w.alloc obj))/\
  (∀(g':G) (id b:Nat),g.le g'->g' id=some (b,0,z)->VR g' (mk id) (val b))/\
  (∀(g':G) (w':World) (id b:Nat),g.le g'->g' id=some (b,0,z)->w'.heap[b]? =some obj->BR T g' w' id blk)
theorem jM{l:List V}{blk:Blk}{us:List Value}(h:VRs g l us)(m:dR l=some blk):
  (blk.kin=some (none,false)/\blk.live=true/\∀n cs,blk≠.ro n cs)/\∀(t:TypeId) (g':G) (w':World) (id b:Nat),g.le g'->g' id=some (b,0,us.length)->w'.heap[b]? =some (.cells us.toArray t (0,0))->BR T g' w' id blk:=by
 obtain⟨h1,h2⟩:=bW.1 m;obtain⟨d,o⟩:=bW.1 h2;cases o;rw [cq]at d;have r:l.length<bZ:=by simpa using d
 refine⟨⟨rfl,rfl,λ_ _ e=>by cases e⟩,λt g' w' id b hg c k=>?_⟩;have f:=h.length;refine⟨b,0,us.length,us.toArray,t,c,k,by simp,by rw [cq];omega,by rw [cq];omega,λj v p a=>?_⟩;rw [dz l 0 _ j (by omega)]at a;rw [cq]at p;rw [if_pos (by omega)]at a;simp only [Nat.sub_zero]at a;obtain⟨u,q,i⟩:=(h.mono hg).get a;exact⟨u,by simpa using q,i,mO h1 v (List.mem_of_getElem? a)⟩
theorem ya(p:da P T){t:TypeId}{z:V}{blk:Blk}(hz:iV T t=some z)(m:dR (cellsOf z)=some blk):ml P T g ρ (.alloc t) blk (λi=>.ptr i 0):=by
 obtain⟨f,d,c⟩:=iB (g:=g) p hz;obtain⟨⟨n,h,k⟩,l⟩:=jM (T:=T) (gN d) m;refine⟨.inr n,h,k,.cells f.cells t,f.cells.toList.length,λb=>.pointer (some ⟨b,0,none⟩),λw o e=>?_,λg' id b hg a=>?_,λg' w' id b hg a j=>l t g' w' id b hg a (by simpa using j)⟩
 ·simp [execOp,e,Instr.alloc,c,newVar,newRow]
 ·exact .ptr (off:=0) a
theorem CJ{t:TypeId}{x:Operand}{v:V}{blk:Blk}(l:VR g v (ρ x))(j:dR (cellsOf v)=some blk):ml P T g ρ (.box t x) blk (λi=>.ptr i 0):=by
 obtain⟨⟨k,c,f⟩,h⟩:=jM (T:=T) (gN l) j;refine⟨.inr k,c,f,.cells (ρ x).cells t,(ρ x).cells.toList.length,λb=>.pointer (some ⟨b,0,none⟩),λw o e=>?_,λg' id b hg a=>?_,λg' w' id b hg a d=>h t g' w' id b hg a (by simpa using d)⟩
 ·simp [execOp,e,Instr.box,newVar,newRow]
 ·exact .ptr (off:=0) a
theorem CI{t:TypeId}{blk:Blk}(c:blk= .map [] true):ml P T g ρ (.makeMap t none) blk (λi=>.map i):=by
 subst c;refine⟨.inl rfl,rfl,(λ_ _ e=>by cases e),.map #[] 0,0,λb=>.map (some b),λw o e=>?_,λg' id b hg a=>.map a,λg' w' id b hg a d=>⟨b,0,0,#[],0,a,d,⟨.nil,.nil⟩,mZ.nil.o⟩⟩;simp [execOp,e,Instr.makeMap]
theorem v6(j:da P T){t:TypeId}{x:Operand}{n c:Nat}(h1:T.under t=some .string)(f:VR g (.str n c) (ρ x)):ml P T g ρ (.range t x) (.siter n c 0) (λi=>.ptr i 0):=by
 cases d:ρ x<;>rw [d]at f<;>cases f
 rename_i s
 refine⟨.inl rfl,rfl,(λ_ _ e=>by cases e),.stringIter s 0,0,λb=>.pointer (some ⟨b,0,none⟩),λw o e=>?_,λg' id b hg a=>.ptr (off:=0) a,λg' w' id b hg a h=>⟨b,0,0,s,a,h,rfl,rfl,rfl⟩⟩;simp [execOp,e,d,Instr.range,bU j h1]
theorem uQ(z:List V)(n:Nat):ku z (n+1)=z++ku z n:=rfl
theorem vP{z:List V}{zs:Array Value}(hz:VRs g z zs.toList)(a:0<zs.size):∀n:Nat,VRs g (ku z n) ((List.range (n*zs.size)).map λi=>zs[i%zs.size]!)
 |0=>by
  rw [Nat.zero_mul];exact VRs.nil
 |n+1=>by
  have ih:=vP hz a n;rw [uQ,show(n+1)*zs.size=zs.size+n*zs.size by rw [Nat.add_mul];omega,List.range_add,List.map_append];refine VRs.append ?_ ?_
  ·have:(List.range zs.size).map (λi=>zs[i%zs.size]!)=zs.toList:=by
    apply List.ext_getElem
    ·simp
    ·intro i h1 h2
     simp at h1;simp [Nat.mod_eq_of_lt h1,h1]
   rw [this];exact hz
  ·rw [List.map_map]
   have:((λi=>zs[i%zs.size]!) ∘ λx=>zs.size+x)=λi=>zs[i%zs.size]! :=by
    funext x
    simp
   rw [this];exact ih
theorem v7(u:da P T){t e:TypeId}{n len:Nat}{z:V}{j:Array (Nat×Operand)}{vs cs:List V}{blk:Blk}(h1:T.under t=some (.slice e))(E:jE T e=some n)(hz:iV T e=some z)(N:len*n<1048576)
  (hs:(cellsOf z).length=n) (x:VRs g vs ((j.toList.map (·.2)).map ρ)) (A:jT (j.toList.map λp=>(Nat.mul p.1 n,n)) vs (ku (cellsOf z) len)=some cs) (J:dR cs=some blk):
  ml P T g ρ (.buildSlice t len j) blk (λi=>.sl i 0 len len true n):=by
 obtain⟨d,v,m⟩:=iB (g:=g) u hz;obtain⟨k,M⟩:=eY E;have hc:=gN v;have l:=hc.length;simp at l;have a:=vP hc (by omega) len;rw [List.map_map]at x;obtain⟨h,s,D⟩:=pP (place:=λi=>some (i*n,n)) (zs:=(Array.range (len*n)).map λi=>d.cells[i%d.cells.size]!) (λi p q C y=>by
  rw [List.getElem?_map,C]at y
  simpa using y) (by simp) x (by rw [show d.cells.size=n by omega]at a;simpa [show d.cells.size=n by omega]using a) A
 obtain⟨⟨G,I,L⟩,K⟩:=jM (T:=T) D J;refine⟨.inr G,I,L,.cells h e,h.toList.length,λb=>.slice (some ⟨b,0,none⟩) len len,λw o B=>?_,λg' id b hg c=>.slx (off:=0) c,λg' w' id b hg c F=>K e g' w' id b hg c (by simpa using F)⟩;have f:¬len*n > 2 ^ 24:=by omega
 simp only [execOp,B,Instr.buildSlice,Sem.run_bind,bU u h1,Result.andThen_ok,cL u k]
 by_cases h0:len*n=0
 ·have r:(Array.range (len*n)).map (λi=>d.cells[i%d.cells.size]!)=(Array.range (len*n)).map (λ_=>default):=by rw [h0];simp
  rw [if_neg f,if_pos h0];rw [r]at s;simp [s,newRow]
 ·rw [if_neg f,if_neg h0]
  simp [m,s,newRow]
theorem CH(m:da P T){t e:TypeId}{n l c:Nat}{z:V}{i:TypeInfo}{x y:Operand}{blk:Blk}(h1:T.under t=some (.slice e))(K:jE T e=some n)(hz:iV T e=some z)(hi:T.info e=some i)
  (hs:(cellsOf z).length=n) (L:VR g (.int .i64 (Int.ofNat l)) (ρ x)) (I:VR g (.int .i64 (Int.ofNat c)) (ρ y)) (N:l<=c) (p:c*i.bytes<1099511627776) (hc:c<1099511627776) (S:dR (ku (cellsOf z) c)=some blk):
  ml P T g ρ (.makeSlice t x y) blk (λk=>.sl k 0 l c true n):=by
 obtain⟨a,C,u⟩:=iB (g:=g) m hz;obtain⟨f,Z⟩:=eY K;have j:=gN C;have r:=j.length;simp at r;have B:a.cells.size=n:=by omega
 have h:=vP j (by omega) c;obtain⟨⟨O,R,Y⟩,W⟩:=jM (T:=T) h S;refine⟨.inr O,R,Y,.cells ((Array.range (c*n)).map λi=>a.cells[i%a.cells.size]!) e,((List.range (c*a.cells.size)).map λi=>a.cells[i%a.cells.size]!).length,λb=>.slice (some ⟨b,0,none⟩) l c,λw o G=>?_,λg' id b hg d=>.slx (off:=0) d,λg' w' id b hg d M=>W e g' w' id b hg d ?_⟩
 ·have Q:IntKind.i64.wrap (l:Int)=l:=by unfold IntKind.wrap;simp [IntKind.bits,IntKind.signed];omega
  have U:IntKind.i64.wrap (c:Int)=c:=by unfold IntKind.wrap;simp [IntKind.bits,IntKind.signed];omega
  have s:=L.int_inv;have q:=I.int_inv;have D:¬((i.bytes:Int)*(c:Int) > 281474976710656):=by
   have:((c*i.bytes:Nat):Int)<1099511627776:=Int.ofNat_lt.2 p;rw [Int.natCast_mul,Int.mul_comm]at this;omega
  have A:((2:Int) ^ 48)=281474976710656:=by decide
  have E:¬(l:Int) > (c:Int):=by omega
  have F:¬(l:Int)<0:=by omega
  have J:¬(c:Int)<0:=by omega
  simp only [execOp,G,s,q,Instr.makeSlice,Sem.run_bind,bU m h1,Result.andThen_ok,asInt,asIntOf,Sem.run_pure,fT m hi,Int.ofNat_eq_natCast,Q,U,A];rw [if_neg (by simp;omega)]
  by_cases h0:c*n=0
  ·have v:(Array.range (c*n)).map (λi=>a.cells[i%a.cells.size]!)=#[]:=by rw [h0];simp
   rw [v];simp [cL m f,h0,newRow,Array.range_zero']
  ·simp [cL m f,h0,u,newRow]
 ·rw [M]
  congr 2
  apply Array.ext';simp [B]
theorem zK(j:da P T){t k e:TypeId}{x:Operand}{d:IntKind}{n:Int}(h1:T.under t=some (.map k e))(f:VR g (.int d n) (ρ x)):ml P T g ρ (.makeMap t (some x)) (.map [] true) (λi=>.map i):=by
 refine⟨.inl rfl,rfl,(λ_ _ e=>by cases e),.map #[] 0,0,λb=>.map (some b),λw o e=>?_,λg' id b hg a=>.map a,λg' w' id b hg a h=>⟨b,0,0,#[],0,a,h,⟨.nil,.nil⟩,mZ.nil.o⟩⟩;have c:=f.int_inv;simp [execOp,e,Instr.makeMap,bU j h1,c,asInt,asIntOf]
theorem FU(F:da P T){op:Op}{G:AOp}{os:List Operand}(hc:bT T op=some (.a G,os)){vs:List V}{blk:Blk}{mk:Nat->V}(w:VRs g vs (os.map ρ))(u:G.run vs=some (blk,mk)):ml P T g ρ op blk mk:=by
 cases op
 case alloc t=>
  simp only [bT]at hc;obtain⟨z,h1,h⟩:=bQ.1 hc;cases h;cases w;obtain⟨b,h2,o⟩:=bQ.1 (show ob (dR (cellsOf z)) (λb=>some (b,λi=>V.ptr i 0))=some (blk,mk)from u);cases o;exact ya F h1 h2
 case box t x=>
  cases hc;obtain⟨a,rfl,h⟩:=w.one;obtain⟨b,h2,o⟩:=bQ.1 (show ob (dR (cellsOf a)) (λb=>some (b,λi=>V.ptr i 0))=some (blk,mk)from u);cases o;exact CJ h h2
 case buildSlice t n ps=>
  simp only [bT]at hc;obtain⟨d,h0,h⟩:=bQ.1 hc;cases d with
  |slice e=>
   obtain⟨es,h1,j⟩:=bQ.1 h;obtain⟨z,h2,q⟩:=bQ.1 j;obtain⟨o,A⟩:=bW.1 q;cases A;obtain⟨cs,f,a4⟩:=bQ.1 (show ob (jT (ps.toList.map λp=>(Nat.mul p.1 es,es)) vs (ku (cellsOf z) n)) (λcs=>ob (dR cs) λb=>some (b,λi=>V.sl i 0 n n true es))=some (blk,mk)from u);obtain⟨b,v,I⟩:=bQ.1 a4;cases I;simp only [Bool.and_eq_true,Nat.blt_eq,Nat.beq_eq,cq,lI]at o;exact v7 F h0 h1 h2 o.1 o.2 w f v
  |_=>cases h
 case makeMap t r=>
  simp only [bT]at hc;obtain⟨d,h0,h⟩:=bQ.1 hc;cases d with
  |map k e=>
   cases h;cases r with
   |none=>cases w;cases u;exact CI rfl
   |some x=>
    obtain⟨a,rfl,h⟩:=w.one;cases a<;>cases u;exact zK F h0 h
  |_=>cases h
 case makeSlice t l c=>
  simp only [bT]at hc;obtain⟨d,h0,h⟩:=bQ.1 hc;cases d with
  |slice e=>
   obtain⟨n,h1,j⟩:=bQ.1 h;obtain⟨z,h2,q⟩:=bQ.1 j;obtain⟨i,o,A⟩:=bQ.1 q;obtain⟨f,a4⟩:=bW.1 A;cases a4;obtain⟨x,y,rfl,U,O⟩:=w.two;rw [cq]at f;have C:(cellsOf z).length=n:=by simpa using f
   cases x<;>try cases u
   rename_i Y n1
   cases Y<;>try cases u
   cases y<;>try cases u
   rename_i Q n2
   cases Q<;>try cases u
   cases n1<;>try cases u
   cases n2<;>try cases u
   rename_i l' c'
   obtain⟨Z,M⟩:=bW.1 (show oif (Nat.ble l' c') (oif (Nat.blt (Nat.mul c' i.bytes) 1099511627776) (oif (Nat.blt c' 1099511627776) (ob (dR (ku (cellsOf z) c')) λb=>some (b,λi=>V.sl i 0 l' c' true (cD (cellsOf z))))))=some (blk,mk)from u);obtain⟨q3,W⟩:=bW.1 M;obtain⟨R,K⟩:=bW.1 W;obtain⟨b,S,q8⟩:=bQ.1 K;cases q8;rw [cq,C];exact CH F h0 h1 h2 o C U O (by simpa using Z) (by simpa [lI]using q3) (by simpa using R) S
  |_=>cases h
 case range t x=>
  simp only [bT]at hc;obtain⟨d,h0,h⟩:=bQ.1 hc;cases d with
  |string=>
   cases h;obtain⟨a,rfl,h⟩:=w.one;cases a<;>cases u;exact v6 F h0 h
  |_=>cases h
 case load t x=>
  simp only [bT]at hc;obtain⟨b,h1,h2⟩:=bQ.1 hc;obtain⟨n,o,f⟩:=bQ.1 h2;cases f
 case lookup t x k ok=>
  simp only [bT]at hc;obtain⟨d,h1,h2⟩:=bQ.1 hc;cases d with
  |map kt e=>
   obtain⟨kk,o,f⟩:=bQ.1 h2;obtain⟨z,v,B⟩:=bQ.1 f;cases B
  |_=>cases h2
 case binOp op t x y t'=>
  have E:∀{neg D:Bool} {d:TypeDesc},tM T t neg D d=some (.a G)->False:=by
   intro neg D d h2;cases d with
   |interface e=>obtain⟨f,v⟩:=bW.1 h2;cases v
   |pointer e=>obtain⟨k,f,v⟩:=bQ.1 h2;cases v
   |struct fs=>obtain⟨k,f,v⟩:=bQ.1 h2;cases v
   |_=>cases h2
  cases op
  case eql=>
   simp only [bT]at hc;obtain⟨d,h1,h2⟩:=bQ.1 hc;obtain⟨c,o,f⟩:=bQ.1 h2;cases f;exact(E (neg:=false) o).elim
  case neq=>
   simp only [bT]at hc;obtain⟨d,h1,h2⟩:=bQ.1 hc;obtain⟨c,o,f⟩:=bQ.1 h2;cases f;exact(E (neg:=true) o).elim
  all_goals cases hc
 case call c=>
  obtain⟨callee,args,argTypes⟩:=c;simp only [bT]at hc;cases callee with
  |value x=>cases x<;>cases hc
  |invoke r m=>cases hc
  |builtin b=>
   obtain⟨t,h1,h2⟩:=bQ.1 hc;obtain⟨d,o,f⟩:=bQ.1 h2;cases b
   case len=>
    cases d with
    |map k e=>cases f
    |_=>cases f
   case append=>
    cases d with
    |slice e=>
     obtain⟨n,_,j⟩:=bQ.1 f;obtain⟨_,_,q⟩:=bQ.1 j;obtain⟨_,_,A⟩:=bQ.1 q;obtain⟨_,a4⟩:=bW.1 A;obtain⟨_,_,I⟩:=bQ.1 a4;obtain⟨_,_,J⟩:=bQ.1 I
     split at J<;>cases J
    |_=>cases f
   case copy=>
    cases d with
    |slice e=>
     obtain⟨n,_,j⟩:=bQ.1 f;cases j
    |_=>cases f
   case clear=>
    cases d with
    |slice e=>
     obtain⟨n,_,j⟩:=bQ.1 f;obtain⟨_,_,q⟩:=bQ.1 j;cases q
    |_=>cases f
   case delete=>
    cases d with
    |map k e=>
     obtain⟨_,_,j⟩:=bQ.1 f;cases j
    |_=>cases f
   all_goals (cases d<;>cases f)
 case build t ps=>
  simp only [bT]at hc;obtain⟨z,h1,h2⟩:=bQ.1 hc;obtain⟨d,o,f⟩:=bQ.1 h2;cases d with
  |struct fs=>
   obtain⟨pl,v,B⟩:=bQ.1 f;obtain⟨l,h7,L⟩:=bQ.1 B;cases L
  |array k e=>
   obtain⟨n,v,B⟩:=bQ.1 f;cases B
  |_=>cases f
 case insert t m k x=>
  simp only [bT]at hc;obtain⟨d,_,h⟩:=bQ.1 hc;cases d with
  |map k e=>
   obtain⟨_,_,j⟩:=bQ.1 h;cases j
  |_=>cases h
 case mapEntry t m k=>
  simp only [bT]at hc;obtain⟨d,_,h⟩:=bQ.1 hc;cases d with
  |map k e=>
   obtain⟨_,_,j⟩:=bQ.1 h;obtain⟨_,_,q⟩:=bQ.1 j;cases q
  |_=>cases h
 case mapUpdate t m k x=>
  simp only [bT]at hc;obtain⟨d,_,h⟩:=bQ.1 hc;cases d with
  |map k e=>
   obtain⟨_,_,j⟩:=bQ.1 h;cases j
  |_=>cases h
 case store t a x=>
  simp only [bT]at hc;obtain⟨_,_,j⟩:=bQ.1 hc;cases j
 case convert s d x=>
  simp only [bT]at hc;obtain⟨a,h1,h2⟩:=bQ.1 hc;obtain⟨b,o,f⟩:=bQ.1 h2;cases a<;>cases b<;>first|(cases f;done)|(cases(gF f).1)
 case makeInterface t x=>
  simp only [bT]at hc;obtain⟨d,h1,h2⟩:=bQ.1 hc;cases d<;>cases h2
 case makeFunc fn a b=>cases fn<;>cases hc
 case slice t x lo hi mx=>
  simp only [bT]at hc;obtain⟨d,_,h⟩:=bQ.1 hc;cases d with
  |string=>cases h
  |slice e=>obtain⟨_,_,j⟩:=bQ.1 h;cases j
  |array k e=>obtain⟨_,_,j⟩:=bQ.1 h;cases j
  |_=>cases h
 case fieldAddr t x i=>
  simp only [bT]at hc;obtain⟨d,_,h⟩:=bQ.1 hc;cases d with
  |struct fs=>
   obtain⟨_,_,j⟩:=bQ.1 h;obtain⟨_,_,q⟩:=bQ.1 j;cases q
  |_=>cases h
 case field t x i=>
  simp only [bT]at hc;obtain⟨d,_,h⟩:=bQ.1 hc;cases d with
  |struct fs=>
   obtain⟨_,_,j⟩:=bQ.1 h;obtain⟨_,_,q⟩:=bQ.1 j;obtain⟨_,_,A⟩:=bQ.1 q;cases A
  |_=>cases h
 case indexAddr t x i=>
  simp only [bT]at hc;obtain⟨d,_,h⟩:=bQ.1 hc;cases d with
  |slice e=>obtain⟨_,_,j⟩:=bQ.1 h;cases j
  |array k e=>obtain⟨_,_,j⟩:=bQ.1 h;cases j
  |_=>cases h
 case index t x i=>
  simp only [bT]at hc;obtain⟨d,_,h⟩:=bQ.1 hc;cases d with
  |string=>cases h
  |array k e=>
   obtain⟨_,_,j⟩:=bQ.1 h;obtain⟨_,_,q⟩:=bQ.1 j;cases q
  |_=>cases h
 case next x b=>cases b<;>cases hc
 all_goals cases hc
end
end Ev
end Go.Proofs.YtdfphfdnoobikaaGreatDoor
