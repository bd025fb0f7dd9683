/-
  Code whose way is not known beforehand:what it may do(for the range over a map).
-/
import Derived.Test.YtdfphfdnoobikaaGreatDoorLtCk3
import Derived.Maps.RangeRun
namespace Go.Proofs.YtdfphfdnoobikaaGreatDoor
namespace Ev
section
section
variable [Env]
set_option linter.unusedSectionVars false
variable {P:Program} {T:Ty} {g:G} {ρ:Operand->Value} {h:H} {w:World}
theorem AG{m:List MapEntry}{k:Nat}(b:mZ m k):(m.map (·.born)).Nodup:=b.dst.2
theorem yC(r:WR T g h w){x:Operand}{it km n:Nat}{es:List (V×V)}{seen:List Nat}(O:VR g (.ptr it 0) (ρ x))(N:h.blk it=some (.miter km (some (seen,n))))(e2:h.blk km=some (.map es true))(hn:es.length=n):
  ((∀i,i<n->i∈seen)/\Eff P T g h w ρ (.next x false) (.tup [.bool false]) h)\/
  ∃i e,i<n/\i∉seen/\es[i]? =some e/\Eff P T g h w ρ (.next x false) (.tup [.bool true,e.1,e.2]) ⟨h.t.put it (some (.miter km (some (seen++[i],n)))),h.next⟩:=by
 cases l:ρ x<;>rw [l]at O<;>cases O
 rename_i b o z hg
 obtain⟨b',z',f,Y,zm,B,sn,last,R,F,Q,k4⟩:=r.blk it _ _ hg N;rw [hg]at R;cases R;obtain⟨rfl,A,J⟩:=k4;rw [A,J]at Q;obtain⟨b2,o2,z2,m,c,U,q2,q3,q4⟩:=r.blk km _ _ F e2;rw [F]at U;cases U;have s:=q4.2 rfl;have L:es.length=m.toList.length:=by have:=q3.1.length;simpa using this
 have k:∀x∈m.toList,x.born<n:=λx l=>by
  have:=s.dst.1 x l;rw [s.1]at this;omega
 have hc:c=n:=by rw [s.1];omega
 rcases run_next_at (P:=P) w 0 b f n n seen.toArray m c Q q2 k (Nat.le_refl _)with⟨h0,hrun⟩ | ⟨e,he,w1,hw1,hrun⟩
 ·left
  refine⟨λi hi=>?_,g,w,.tuple #[.bool false],.refl r,.tup (.cons (.bool _) .nil),λo' D=>.inl ?_⟩
  ·have S:i<m.toList.length:=by omega
   have hi2:m.toList[i]? =some m.toList[i]:=List.getElem?_eq_getElem S;have a:=s.2 i _ hi2;have I:leftOf m seen.toArray=#[]:=Array.eq_empty_of_size_eq_zero h0;unfold leftOf at I;rw [Array.filter_eq_empty_iff]at I;have:=I m.toList[i] (by rw [<-Array.mem_toList_iff];exact List.getElem_mem S);rw [a]at this
   simpa using this
  ·have y:(Instr.next (.pointer (some ⟨b,0,none⟩)) false o'.type).run P w= .ok (.tuple #[.bool false]) w:=hrun
   simp [execOp,D,l,y]
 ·right
  unfold leftOf at he;have E:e∈m.toList:=by simp at he ⊢;exact he.1
  have G:e.born∉seen:=by simp at he;exact he.2
  obtain⟨i,hi⟩:=List.mem_iff_getElem?.1 E;have Z:i<m.toList.length:=(List.getElem?_eq_some_iff.1 hi).1;have a:=s.2 i _ hi;obtain⟨p,C⟩:∃p,es[i]? =some p:=⟨_,List.getElem?_eq_getElem (by omega)⟩
  obtain⟨u1,K,W⟩:=q3.1.get (i:=i) (v:=p.1) (by rw [List.getElem?_map,C];rfl);obtain⟨u2,M,s4⟩:=q3.2.get (i:=i) (v:=p.2) (by rw [List.getElem?_map,C];rfl);rw [List.getElem?_map,hi]at K M;cases K;cases M;have hh:w1.heap=w.heap/\w1.os=w.os/\w1.tape=w.tape/\w1.output=w.output:=by rcases hw1 with rfl|rfl<;>exact⟨rfl,rfl,rfl,rfl⟩
  have u:=r.lt _ _ _ _ hg;refine⟨i,p,by omega,by rw [<-a];exact G,C,g,ChangeMaps.setBlock w1 b (.mapIter (some f) n (seen.toArray.push e.born) c),_,?_,.tup (.cons (.bool true) (.cons W (.cons s4 .nil))),λo' D=>.inl ?_⟩
  ·have d:∀j,(ChangeMaps.setBlock w1 b (.mapIter (some f) n (seen.toArray.push e.born) c)).heap[j]? =if j=b then some (.mapIter (some f) n (seen.toArray.push e.born) c)else w.heap[j]? :=λj=>by
    show(w1.heap.setIfInBounds b _)[j]? =_;rw [hh.1,Array.getElem?_setIfInBounds]
    by_cases q:b=j
    ·subst q
     rw [if_pos rfl,if_pos u,if_pos rfl]
    ·rw [if_neg q,if_neg (Ne.symm q)]
   refine Ext.upd r hg N rfl rfl rfl (λ_ _ h=>by cases h) (λj hj=>by rw [d,if_neg hj]) (by show(w1.heap.setIfInBounds b _).size=_;rw [Array.size_setIfInBounds,hh.1]) hh.2.1 hh.2.2.1 hh.2.2.2 ⟨b,z,f,Y,zm,n,_,c,hg,F,by rw [d,if_pos rfl],by rw [a];simp,rfl,hc⟩
  ·have y:(Instr.next (.pointer (some ⟨b,0,none⟩)) false o'.type).run P w= .ok (.tuple #[.bool true,e.key,e.val]) (ChangeMaps.setBlock w1 b (.mapIter (some f) n (seen.toArray.push e.born) c)):=hrun
   simp [execOp,D,l,y]
theorem yD(r:WR T g h w){x:Operand}{it km n i:Nat}{es:List (V×V)}{e:V×V}{seen:List Nat}(y:VR g (.ptr it 0) (ρ x))(L:h.blk it=some (.miter km (some (seen++[i],n))))(O:h.blk km=some (.map es true))(Z:es.length=n)(k:es[i]? =some e):
  Eff P T g h w ρ (.entry x) (.tup [e.1,e.2]) h:=by
 cases A:ρ x<;>rw [A]at y<;>cases y
 rename_i b o z hg
 obtain⟨W,U,Q,R,zm,j,sn,last,C,u,B,G⟩:=r.blk it _ _ hg L;rw [hg]at C;cases C;obtain⟨rfl,f,p⟩:=G;rw [f,p]at B;obtain⟨b2,S,z2,m,c,D,J,q3,M⟩:=r.blk km _ _ u O;rw [u]at D;cases D;have l:=M.2 rfl;have s:es.length=m.toList.length:=by have:=q3.1.length;simpa using this
 have hc:c=n:=by rw [l.1];omega
 have a:i<m.toList.length:=by have:=(List.getElem?_eq_some_iff.1 k).1;omega
 have hi:m.toList[i]? =some m.toList[i]:=List.getElem?_eq_getElem a;have d:=l.2 i _ hi;obtain⟨u1,q,E⟩:=q3.1.get (i:=i) (v:=e.1) (by rw [List.getElem?_map,k];rfl);obtain⟨Y,t,K⟩:=q3.2.get (i:=i) (v:=e.2) (by rw [List.getElem?_map,k];rfl);rw [List.getElem?_map,hi]at q t;cases q;cases t;refine⟨g,w,_,.refl r,.tup (.cons E (.cons K .nil)),λo' I=>.inl ?_⟩;have F:=run_entry_at (P:=P) w b Q n seen.toArray m c m.toList[i] (by rw [d,B,hc];simp) J (List.getElem_mem a) (AG l);simp [execOp,I,A,F]
end
end
section
section
variable {P:Program} {T:Ty} {K:Nat->Prop}
def CQ(T:Ty)(K:Nat->Prop)(m N:Nat)(E0:En)(g0:G)(w0:World)(Q:X->F->H->Prop)(e:Exit)(a':Act)(w':World):Prop:=∃x f' h',Q x f' h'/\FQ T K m N E0 g0 w0 x f' h' e a' w'
structure SQ(P:Program)(T:Ty)(K:Nat->Prop)(cc:cF)(f:F)(h:H)(Q:X->F->H->Prop):Prop where
 out:∀m N E0 g0 w0 (c:Code),eu T m N c=some cc->∀(E:En) (g:G) (a:Act) (w:World),Sx T K E0 g0 w0 E g h w->@FR E g m N f a.tmps->eW [] g w w0.heap.size a.defers->c.wpIn (fen none) 0 P (CQ T K m N E0 g0 w0 Q) a w
structure OQ(P:Program)(T:Ty)(K:Nat->Prop)(l:List cj)(f:F)(h:H)(R:F->H->Prop):Prop where
 out:∀m N (ops:Array Oper) (Q:Exit->Act->World->Prop) E0 g0 w0 (suf:List Oper) (k:Nat),(∀i,i<suf.length->ops[k+i]? =suf[i]?)->gU (gh T m N ops) suf=some l->∀(E:En) (g:G) (a:Act) (w:World),Sx T K E0 g0 w0 E g h w->@FR E g m N f a.tmps->eW [] g w w0.heap.size a.defers->
  (∀f' h' E' g' a' w',R f' h'->Sx T K E0 g0 w0 E' g' h' w'->@FR E' g' m N f' a'.tmps->eW [] g' w' w0.heap.size a'.defers->Q .normal a' w')->wpOpsIn (fen none) 0 P ops Q (List.range' k suf.length) a w
theorem SQ.sem{b:cF}{f:F}{h:H}{x:X}{f':F}{h':H}(q:SQ P T K b f h λx1 f1 h1=>x1=x/\fy T K f1 h1 f' h'):FL P T K b f h x f' h':=by
 intro m N E0 g0 w0 c hc E g a w s l i;refine wpIn_mono (q.out m N E0 g0 w0 c hc E g a w s l i) ?_;rintro e r z ⟨x1,f1,h1,⟨rfl,v⟩,p,y,j,B,k,o⟩;obtain⟨t,u,d,A,n⟩:=v m N E0 g0 w0 p y z r.tmps j B;exact⟨t,u,d,A,k.of n,o⟩
theorem SQ.seq{o k:cF}{f:F}{h:H}{Q:X->F->H->Prop}(q:SQ P T K o f h λx f1 h1=>(x= .norm/\SQ P T K k f1 h1 Q)\/(x≠.norm/\Q x f1 h1)):SQ P T K (.seq o k) f h Q:=by
 refine⟨λm N E0 g0 w0 c hc E g a w s t r=>?_⟩;obtain⟨c1,c2,rfl,h1,h2⟩:=@il noE _ _ _ _ _ hc;refine wpIn_seq (wpIn_mono (q.out m N E0 g0 w0 _ h1 E g a w s t r) ?_);rintro e u y ⟨x,f1,d,v,l,n,i,p,j,b⟩;rcases v with⟨rfl,q2⟩ | ⟨hx,q2⟩
 ·rw [@oS.norm_inv noE _ b]
  exact q2.out m N E0 g0 w0 _ h2 l n u y i p j
 ·cases e with
  |normal=>cases x<;>first|(cases b;done)|exact absurd rfl hx
  |_=>exact⟨x,f1,d,q2,l,n,i,p,j,b⟩
theorem SQ.cond{o:Opd}{j d:cF}{f:F}{h:H}{Q:X->F->H->Prop}{t:Bool}(e:o.ev f=some (.bool t))(n:t=true->SQ P T K j f h Q)(k:t=false->SQ P T K d f h Q):SQ P T K (.cond o j d) f h Q:=by
 refine⟨λm N E0 g0 w0 c hc E g a w s b i=>?_⟩;obtain⟨o',c1,c2,rfl,h0,h1,h2⟩:=@il noE _ _ _ _ _ hc;refine wpIn_cond (@VR.bool_inv E _ _ _ (@sS E T _ g _ w s.sit.glob o' _ _ a _ h0 e λt _ v l=>b.2 t v l)) ?_;cases t with
 |true=>exact(n rfl).out m N E0 g0 w0 _ h1 E g a w s b i
 |false=>exact(k rfl).out m N E0 g0 w0 _ h2 E g a w s b i
theorem SQ.block{id:Nat}{r:cF}{f:F}{h:H}{Q:X->F->H->Prop}(q:SQ P T K r f h λx f1 h1=>Q (unX id x) f1 h1):SQ P T K (.block id r) f h Q:=by
 refine⟨λm N E0 g0 w0 c hc E g a w s u t=>?_⟩;obtain⟨c1,rfl,h1⟩:=@il noE _ _ _ _ _ hc;refine wpIn_block (wpIn_mono (q.out m N E0 g0 w0 _ h1 E g a w s u t) ?_);rintro e v y ⟨x,f1,b,n,l,o,i,p,k,d⟩;cases x with
 |norm=>rw [@oS.norm_inv noE _ d];exact⟨_,f1,b,n,l,o,i,p,k,trivial⟩
 |ret=>
  cases e<;>first|(cases d;done)|skip
  exact⟨_,f1,b,n,l,o,i,p,k,trivial⟩
 |exit j=>
  cases e<;>first|(cases d;done)|skip
  have d:j=_:=d;subst d;show(if j=id then _ else _)
  by_cases q:j=id
  ·rw [if_pos q]
   exact⟨_,f1,b,n,l,o,i,p,k,by show oS (if j=id then _ else _) _;rw [if_pos q];trivial⟩
  ·rw [if_neg q]
   exact⟨_,f1,b,n,l,o,i,p,k,by show oS (if j=id then _ else _) _;rw [if_neg q];rfl⟩
theorem SQ.loop{u:cF}{f:F}{h:H}{Q:X->F->H->Prop}(I:Nat->F->H->Prop)(p:∀k f h,I k f h->SQ P T K u f h λx f1 h1=>(x= .norm/\∃j,j<k/\I j f1 h1)\/(x≠.norm/\Q x f1 h1)){k:Nat}(i:I k f h):SQ P T K (.loop u) f h Q:=by
 refine⟨λm N E0 g0 w0 c hc E g a w s D B=>?_⟩;obtain⟨c1,rfl,h1⟩:=@il noE _ _ _ _ _ hc;refine @qg noE P _ _ _ _ (λk l n=>∃f1 h1 d b,I k f1 h1/\Sx T K E0 g0 w0 d b h1 n/\@FR d b m N f1 l.tmps/\eW [] b n w0.heap.size l.defers) ?_ k _ _ ⟨_,_,E,g,i,s,D,B⟩;rintro k l n ⟨f1,q,d,b,L,J,C,G⟩;refine wpIn_mono ((p k f1 q L).out m N E0 g0 w0 _ h1 d b l n J C G) ?_;rintro e O R ⟨x,z,h2,M,v,y,r,A,t,o⟩;rcases M with⟨rfl,j,hj,ij⟩ | ⟨hx,q2⟩
 ·rw [@oS.norm_inv noE _ o]
  exact⟨j,hj,z,h2,v,y,ij,r,A,t⟩
 ·cases e with
  |normal=>cases x<;>first|(cases o;done)|exact absurd rfl hx
  |_=>exact⟨x,z,h2,q2,v,y,r,A,t,o⟩
theorem SQ.reg{l:List cj}{f:F}{h:H}{Q:X->F->H->Prop}(j:cF.reg l≠rO)(q:OQ P T K l f h λf1 h1=>Q .norm (clr f1) h1):SQ P T K (.reg l) f h Q:=by
 refine⟨λm N E0 g0 w0 c hc E g a w s p k=>?_⟩;cases c with
 |region id ops d=>
  cases d with
  |false=>
   rw [@kP noE]at hc;rcases @eA noE _ _ hc with hc|hb2
   case inr=>exact absurd hb2 j
   obtain⟨cl,h1,h2⟩:=bQ.1 hc;cases h2;refine wpIn_region ?_;rw [List.range_eq_range'];have e:ops.size=ops.toList.length:=by simp
   rw [e];exact q.out m N ops _ E0 g0 w0 ops.toList 0 (λi _=>by rw [Nat.zero_add,Array.getElem?_toList]) h1 E g a w s p k λf' h' E' g' x w' u t n r=>⟨_,_,_,u,E',g',t,@FR.clr E' _ _ _ _ _ n,r,trivial⟩
  |true=>
   rw [@jr noE]at hc;rcases @eA noE _ _ hc with hc|hb2
   ·obtain⟨cl,h1,h2⟩:=bQ.1 hc
    obtain⟨l,y,v⟩:=bQ.1 h2;cases v
   ·exact absurd hb2 j
 |seq a b=>rw [@kO noE]at hc;obtain⟨_,_,hc⟩:=bQ.1 hc;obtain⟨_,_,hc⟩:=bQ.1 hc;cases hc
 |cond o a b=>rw [@jt noE]at hc;obtain⟨_,_,hc⟩:=bQ.1 hc;obtain⟨_,_,hc⟩:=bQ.1 hc;obtain⟨_,_,hc⟩:=bQ.1 hc;cases hc
 |block id a=>rw [@iO noE]at hc;obtain⟨_,_,hc⟩:=bQ.1 hc;cases hc
 |loop a=>rw [@js noE]at hc;obtain⟨_,_,hc⟩:=bQ.1 hc;cases hc
 |rangeFunc f ps a b=>rw [@iN noE]at hc;obtain⟨_,_,hc⟩:=bQ.1 hc;obtain⟨_,_,hc⟩:=bQ.1 hc;obtain⟨_,_,hc⟩:=bQ.1 hc;obtain⟨_,_,hc⟩:=bQ.1 hc;cases hc
 |_=>(rw [eu]at hc<;>first|(intros;contradiction)|(cases hc;first|done|exact absurd rfl j))
theorem SQ.skip{f:F}{h:H}{Q:X->F->H->Prop}{call:cN}(k:da P T)(d:∀E:En,@fA E P T call)(j:P.follows .mixedOrders=true)(q:Q .norm f h):SQ P T K .skip f h Q:=by
 refine⟨λm N E0 g0 w0 c hc E g a w s i b=>wpIn_mono (y9 k d j (n:=0) (.exec (call:=call) (x:= .norm) (f':=f) (h':=h) rfl) c hc E g a w s i b) ?_⟩;exact λe l o y=>⟨_,_,_,q,y⟩
theorem SQ.exit{id:Nat}{f:F}{h:H}{Q:X->F->H->Prop}{call:cN}(k:da P T)(d:∀E:En,@fA E P T call)(j:P.follows .mixedOrders=true)(q:Q (.exit id) f h):SQ P T K (.exit id) f h Q:=by
 refine⟨λm N E0 g0 w0 c hc E g a w s i b=>wpIn_mono (y9 k d j (n:=0) (.exec (call:=call) (x:= .exit id) (f':=f) (h':=h) rfl) c hc E g a w s i b) ?_⟩;exact λe l o y=>⟨_,_,_,q,y⟩
theorem OQ.nil{f:F}{h:H}{R:F->H->Prop}(r:R f h):OQ P T K [] f h R:=by
 refine⟨λm N ops Q E0 g0 w0 b k c hc E g a w s e d i=>?_⟩;cases b with
 |nil=>exact i f h E g a w r s e d
 |cons o b=>
  rw [@eZ noE]at hc;obtain⟨n,h1,h2⟩:=bQ.1 hc;obtain⟨l,p,j⟩:=bQ.1 h2;cases j
theorem OQ.op{call:cN}(O:da P T)(D:∀E:En,@fA E P T call){o:cj}{l:List cj}{f f1:F}{h h1:H}{R:F->H->Prop}(e:o.run call f h=some (f1,h1))(q:OQ P T K l f1 h1 R):OQ P T K (o ::l) f h R:=by
 refine⟨λm N ops Q E0 g0 w0 b k0 d hc E g a w s j p y=>?_⟩;cases b with
 |nil=>cases hc
 |cons o b=>
  rw [@eZ noE]at hc;obtain⟨B,h1,h2⟩:=bQ.1 hc;obtain⟨A,r,J⟩:=bQ.1 h2;cases J;have k:=@dM noE _ _ _ _ _ _ h1;have ho:ops[k0]? =some o:=by have:=d 0 (by simp);simpa using this
  have c:∀i,i<b.length->ops[k0+1+i]? =b[i]? :=λi hi=>by
   have:=d (i+1) (by simp;omega);rw [show k0+1+i=k0+(i+1) by omega]
   simpa using this
  rw [List.length_cons,List.range'_succ,wpOpsIn_cons];unfold wpOpIn;simp only [ho];rcases @qO noE _ _ _ _ _ e with⟨e1,e2⟩ | ⟨vs,v,h'',e1,e2,e3,e4⟩
  ·cases e2
   rw [@gf E _ _ _ g ops o _ k _ a _ e1 (λt _ v n=>j.2 t v n)];refine⟨λ_ _=>trivial,?_⟩;exact q.out m N ops Q E0 g0 w0 b (k0+1) c r E g _ w s (@FR.put E _ _ _ _ _ _ _ _ _ j k.dst (@gG E _)) (by rw [@dH noE];exact p) y
  ·cases e4
   rw [@gf E _ _ _ g ops o _ k _ a _ e1 (λt _ v n=>j.2 t v n)];obtain⟨os,L,C⟩:=k.op;refine @mz E P T O call (D E) g _ _ w s.sit.wr s.sit.glob o _ os a L vs v (@kL E T m g _ w s.sit.glob _ a _ _ _ C e2 λt _ v n=>j.2 t v n) e3 _ _ _ λG I u x z=>?_;have X:=gj.of (M:=noM) s.sit x;exact q.out m N ops Q E0 g0 w0 b (k0+1) c r E G _ I (s.ext X λ_ _ q=>q) (@FR.put E _ _ _ _ _ _ _ _ _ (@FR.mono E _ _ (@Ext.le E _ _ _ _ _ _ _ x) _ _ _ _ j) k.dst z) (by rw [@dH noE];exact p.extX X) y
theorem OQ.may{o:cj}{A:EOp}{l:List cj}{f:F}{h:H}{vs:List V}{R:F->H->Prop}(eg:cm f o.guard=some true)(ev:evs f o.args=some vs)(Y:o.op= .e A)
  (q:∀(E:En) (g:G) (w:World) (op:Op) (os:List Operand) (ρ:Operand->Value),bT T op=some (.e A,os)->@WR E T g h w->@VRs E g vs (os.map ρ)->∃v h1,@Eff E P T g h w ρ op v h1/\OQ P T K l (o.dst.put f v) h1 R):OQ P T K (o ::l) f h R:=by
 refine⟨λm N ops Q E0 g0 w0 b k0 c hc E g a w s k I Z=>?_⟩;cases b with
 |nil=>cases hc
 |cons o2 b=>
  rw [@eZ noE]at hc;obtain⟨S,h1,h2⟩:=bQ.1 hc;obtain⟨O,J,h4⟩:=bQ.1 h2;cases h4;have n:=@dM noE _ _ _ _ _ _ h1;have ho:ops[k0]? =some o2:=by have:=c 0 (by simp);simpa using this
  have d:∀i,i<b.length->ops[k0+1+i]? =b[i]? :=λi hi=>by
   have:=c (i+1) (by simp;omega);rw [show k0+1+i=k0+(i+1) by omega]
   simpa using this
  rw [List.length_cons,List.range'_succ,wpOpsIn_cons];unfold wpOpIn;simp only [ho];rw [@gf E _ _ _ g ops o2 _ n _ a _ eg (λt _ v p=>k.2 t v p)];obtain⟨os,y,U⟩:=n.op;rw [Y]at y;obtain⟨v,h5,⟨C,D,u,B,z,W⟩,L⟩:=q E g w o2.op os a.eval y s.sit.wr (@kL E T m g _ w s.sit.glob _ a _ _ _ U ev λt _ v p=>k.2 t v p);have X:=gj.of (M:=noM) s.sit B;have j:∀r,@VR E C v r->wpOpsIn (fen none) 0 P ops Q (List.range' (k0+1) b.length) (a.put o2.dst r) D:=λr x=>
   L.out m N ops Q E0 g0 w0 b (k0+1) d J E C _ D (s.ext X λ_ _ q=>q) (@FR.put E _ _ _ _ _ _ _ _ _ (@FR.mono E _ _ (@Ext.le E _ _ _ _ _ _ _ B) _ _ _ _ k) n.dst x) (by rw [@dH noE];exact I.extX X) Z
  refine⟨λ_ _=>trivial,?_⟩;rw [Oper.semAt_eq _ _ _ (@fQ noE _ _ _ _ y)];rcases W o2 rfl with x4 | ⟨x4,x⟩
  ·rw [x4,Oper.uponIn_value]
   exact j u z
  ·subst x
   rw [x4,Oper.uponIn_skip];exact j undef z
end
end
section
section
variable [Env]
set_option linter.unusedSectionVars false
variable {P:Program} {T:Ty}
theorem yJ{op:Op}{os:List Operand}(hc:bT T op=some (.e .nextM,os)):∃x,op= .next x false/\os=[x]:=by
 cases op
 case call c=>
  obtain⟨callee,args,argTypes⟩:=c;simp only [bT]at hc;cases callee with
  |value x=>
   cases x with
   |func f'=>cases hc
   |_=>cases hc
  |invoke r m=>cases hc
  |builtin b=>
   obtain⟨t,h1,h2⟩:=bQ.1 hc;obtain⟨d,o,g⟩:=bQ.1 h2;cases b
   case len=>cases d<;>cases g
   case append=>
    cases d with
    |slice e=>
     obtain⟨n,_,f⟩:=bQ.1 g;obtain⟨_,_,j⟩:=bQ.1 f;obtain⟨_,_,q⟩:=bQ.1 j;obtain⟨_,a4⟩:=bW.1 q;obtain⟨_,_,D⟩:=bQ.1 a4;obtain⟨_,_,A⟩:=bQ.1 D
     split at A<;>cases A
    |_=>cases g
   case copy=>
    cases d with
    |slice e=>obtain⟨n,B,f⟩:=bQ.1 g;cases f
    |_=>cases g
   case clear=>
    cases d with
    |slice e=>
     obtain⟨n,B,f⟩:=bQ.1 g;obtain⟨z,F,j⟩:=bQ.1 f;cases j
    |_=>cases g
   case delete=>
    cases d with
    |map k e=>obtain⟨kk,B,f⟩:=bQ.1 g;cases f
    |_=>cases g
   all_goals (cases d<;>cases g)
 case alloc t=>
  simp only [bT]at hc;obtain⟨z,h1,h⟩:=bQ.1 hc;cases h
 case buildSlice t n ps=>
  simp only [bT]at hc;obtain⟨d,_,h⟩:=bQ.1 hc;cases d with
  |slice e=>
   obtain⟨_,_,f⟩:=bQ.1 h;obtain⟨_,_,j⟩:=bQ.1 f;obtain⟨_,q⟩:=bW.1 j;cases q
  |_=>cases h
 case makeMap t r=>
  simp only [bT]at hc;obtain⟨d,_,h⟩:=bQ.1 hc;cases d<;>cases h
 case makeSlice t l c=>
  simp only [bT]at hc;obtain⟨d,_,h⟩:=bQ.1 hc;cases d with
  |slice e=>
   obtain⟨_,_,f⟩:=bQ.1 h;obtain⟨_,_,j⟩:=bQ.1 f;obtain⟨_,_,q⟩:=bQ.1 j;obtain⟨_,a4⟩:=bW.1 q;cases a4
  |_=>cases h
 case range t x=>
  simp only [bT]at hc;obtain⟨d,_,h⟩:=bQ.1 hc;cases d<;>cases h
 case load t x=>
  simp only [bT]at hc;obtain⟨b,h1,h2⟩:=bQ.1 hc;obtain⟨n,o,g⟩:=bQ.1 h2;cases g
 case lookup t x k ok=>
  simp only [bT]at hc;obtain⟨d,h1,h2⟩:=bQ.1 hc;cases d with
  |map kt e=>
   obtain⟨kk,o,g⟩:=bQ.1 h2;obtain⟨z,p,u⟩:=bQ.1 g;cases u
  |_=>cases h2
 case binOp op t x y t'=>
  have w:∀{neg v:Bool} {d:TypeDesc},tM T t neg v d=some (.e .nextM)->False:=by
   intro neg v d h2;cases d with
   |interface e=>obtain⟨g,p⟩:=bW.1 h2;cases p
   |pointer e=>obtain⟨k,g,p⟩:=bQ.1 h2;cases p
   |struct fs=>obtain⟨k,g,p⟩:=bQ.1 h2;cases p
   |_=>cases h2
  cases op
  case eql=>
   simp only [bT]at hc;obtain⟨d,h1,h2⟩:=bQ.1 hc;obtain⟨c,o,g⟩:=bQ.1 h2;cases g;exact(w (neg:=false) o).elim
  case neq=>
   simp only [bT]at hc;obtain⟨d,h1,h2⟩:=bQ.1 hc;obtain⟨c,o,g⟩:=bQ.1 h2;cases g;exact(w (neg:=true) o).elim
  all_goals cases hc
 case build t ps=>
  simp only [bT]at hc;obtain⟨z,h1,h2⟩:=bQ.1 hc;obtain⟨d,o,g⟩:=bQ.1 h2;cases d with
  |struct fs=>
   obtain⟨G,p,u⟩:=bQ.1 g;obtain⟨l,E,C⟩:=bQ.1 u;cases C
  |array k e=>
   obtain⟨n,p,u⟩:=bQ.1 g;cases u
  |_=>cases g
 case convert s d x=>
  simp only [bT]at hc;obtain⟨a,h1,h2⟩:=bQ.1 hc;obtain⟨b,o,g⟩:=bQ.1 h2;cases a<;>cases b<;>first|(cases g;done)|(cases(gF g).1)
 case makeInterface t x=>
  simp only [bT]at hc;obtain⟨d,h1,h2⟩:=bQ.1 hc;cases d<;>cases h2
 case makeFunc fn a b=>cases fn<;>cases hc
 case slice t x lo hi mx=>
  simp only [bT]at hc;obtain⟨d,_,h⟩:=bQ.1 hc;cases d with
  |string=>cases h
  |slice e=>obtain⟨_,_,f⟩:=bQ.1 h;cases f
  |array k e=>obtain⟨_,_,f⟩:=bQ.1 h;cases f
  |_=>cases h
 case fieldAddr t x i=>
  simp only [bT]at hc;obtain⟨d,_,h⟩:=bQ.1 hc;cases d with
  |struct fs=>
   obtain⟨_,_,f⟩:=bQ.1 h;obtain⟨_,_,j⟩:=bQ.1 f;cases j
  |_=>cases h
 case field t x i=>
  simp only [bT]at hc;obtain⟨d,_,h⟩:=bQ.1 hc;cases d with
  |struct fs=>
   obtain⟨_,_,f⟩:=bQ.1 h;obtain⟨_,_,j⟩:=bQ.1 f;obtain⟨_,_,q⟩:=bQ.1 j;cases q
  |_=>cases h
 case indexAddr t x i=>
  simp only [bT]at hc;obtain⟨d,_,h⟩:=bQ.1 hc;cases d with
  |slice e=>obtain⟨_,_,f⟩:=bQ.1 h;cases f
  |array k e=>obtain⟨_,_,f⟩:=bQ.1 h;cases f
  |_=>cases h
 case index t x i=>
  simp only [bT]at hc;obtain⟨d,_,h⟩:=bQ.1 hc;cases d with
  |string=>cases h
  |array k e=>
   obtain⟨_,_,f⟩:=bQ.1 h;obtain⟨_,_,j⟩:=bQ.1 f;cases j
  |_=>cases h
 case insert t m k x=>
  simp only [bT]at hc;obtain⟨d,_,h⟩:=bQ.1 hc;cases d with
  |map k e=>
   obtain⟨_,_,f⟩:=bQ.1 h;cases f
  |_=>cases h
 case mapEntry t m k=>
  simp only [bT]at hc;obtain⟨d,_,h⟩:=bQ.1 hc;cases d with
  |map k e=>
   obtain⟨_,_,f⟩:=bQ.1 h;obtain⟨_,_,j⟩:=bQ.1 f;cases j
  |_=>cases h
 case mapUpdate t m k x=>
  simp only [bT]at hc;obtain⟨d,_,h⟩:=bQ.1 hc;cases d with
  |map k e=>
   obtain⟨_,_,f⟩:=bQ.1 h;cases f
  |_=>cases h
 case store t a x=>
  simp only [bT]at hc;obtain⟨_,h1,f⟩:=bQ.1 hc;cases f
 case next x b=>
  cases b with
  |false=>cases hc;exact⟨x,rfl,rfl⟩
  |true=>cases hc
 all_goals cases hc
theorem wG{op:Op}{os:List Operand}(hc:bT T op=some (.e .entryM,os)):∃x,op= .entry x/\os=[x]:=by
 cases op
 case call c=>
  obtain⟨callee,args,argTypes⟩:=c;simp only [bT]at hc;cases callee with
  |value x=>
   cases x with
   |func f'=>cases hc
   |_=>cases hc
  |invoke r m=>cases hc
  |builtin b=>
   obtain⟨t,h1,h2⟩:=bQ.1 hc;obtain⟨d,o,g⟩:=bQ.1 h2;cases b
   case len=>cases d<;>cases g
   case append=>
    cases d with
    |slice e=>
     obtain⟨n,_,f⟩:=bQ.1 g;obtain⟨_,_,j⟩:=bQ.1 f;obtain⟨_,_,q⟩:=bQ.1 j;obtain⟨_,a4⟩:=bW.1 q;obtain⟨_,_,D⟩:=bQ.1 a4;obtain⟨_,_,A⟩:=bQ.1 D
     split at A<;>cases A
    |_=>cases g
   case copy=>
    cases d with
    |slice e=>obtain⟨n,B,f⟩:=bQ.1 g;cases f
    |_=>cases g
   case clear=>
    cases d with
    |slice e=>
     obtain⟨n,B,f⟩:=bQ.1 g;obtain⟨z,F,j⟩:=bQ.1 f;cases j
    |_=>cases g
   case delete=>
    cases d with
    |map k e=>obtain⟨kk,B,f⟩:=bQ.1 g;cases f
    |_=>cases g
   all_goals (cases d<;>cases g)
 case alloc t=>
  simp only [bT]at hc;obtain⟨z,h1,h⟩:=bQ.1 hc;cases h
 case buildSlice t n ps=>
  simp only [bT]at hc;obtain⟨d,_,h⟩:=bQ.1 hc;cases d with
  |slice e=>
   obtain⟨_,_,f⟩:=bQ.1 h;obtain⟨_,_,j⟩:=bQ.1 f;obtain⟨_,q⟩:=bW.1 j;cases q
  |_=>cases h
 case makeMap t r=>
  simp only [bT]at hc;obtain⟨d,_,h⟩:=bQ.1 hc;cases d<;>cases h
 case makeSlice t l c=>
  simp only [bT]at hc;obtain⟨d,_,h⟩:=bQ.1 hc;cases d with
  |slice e=>
   obtain⟨_,_,f⟩:=bQ.1 h;obtain⟨_,_,j⟩:=bQ.1 f;obtain⟨_,_,q⟩:=bQ.1 j;obtain⟨_,a4⟩:=bW.1 q;cases a4
  |_=>cases h
 case range t x=>
  simp only [bT]at hc;obtain⟨d,_,h⟩:=bQ.1 hc;cases d<;>cases h
 case load t x=>
  simp only [bT]at hc;obtain⟨b,h1,h2⟩:=bQ.1 hc;obtain⟨n,o,g⟩:=bQ.1 h2;cases g
 case lookup t x k ok=>
  simp only [bT]at hc;obtain⟨d,h1,h2⟩:=bQ.1 hc;cases d with
  |map kt e=>
   obtain⟨kk,o,g⟩:=bQ.1 h2;obtain⟨z,p,u⟩:=bQ.1 g;cases u
  |_=>cases h2
 case binOp op t x y t'=>
  have w:∀{neg v:Bool} {d:TypeDesc},tM T t neg v d=some (.e .entryM)->False:=by
   intro neg v d h2;cases d with
   |interface e=>obtain⟨g,p⟩:=bW.1 h2;cases p
   |pointer e=>obtain⟨k,g,p⟩:=bQ.1 h2;cases p
   |struct fs=>obtain⟨k,g,p⟩:=bQ.1 h2;cases p
   |_=>cases h2
  cases op
  case eql=>
   simp only [bT]at hc;obtain⟨d,h1,h2⟩:=bQ.1 hc;obtain⟨c,o,g⟩:=bQ.1 h2;cases g;exact(w (neg:=false) o).elim
  case neq=>
   simp only [bT]at hc;obtain⟨d,h1,h2⟩:=bQ.1 hc;obtain⟨c,o,g⟩:=bQ.1 h2;cases g;exact(w (neg:=true) o).elim
  all_goals cases hc
 case build t ps=>
  simp only [bT]at hc;obtain⟨z,h1,h2⟩:=bQ.1 hc;obtain⟨d,o,g⟩:=bQ.1 h2;cases d with
  |struct fs=>
   obtain⟨G,p,u⟩:=bQ.1 g;obtain⟨l,E,C⟩:=bQ.1 u;cases C
  |array k e=>
   obtain⟨n,p,u⟩:=bQ.1 g;cases u
  |_=>cases g
 case convert s d x=>
  simp only [bT]at hc;obtain⟨a,h1,h2⟩:=bQ.1 hc;obtain⟨b,o,g⟩:=bQ.1 h2;cases a<;>cases b<;>first|(cases g;done)|(cases(gF g).1)
 case makeInterface t x=>
  simp only [bT]at hc;obtain⟨d,h1,h2⟩:=bQ.1 hc;cases d<;>cases h2
 case makeFunc fn a b=>cases fn<;>cases hc
 case slice t x lo hi mx=>
  simp only [bT]at hc;obtain⟨d,_,h⟩:=bQ.1 hc;cases d with
  |string=>cases h
  |slice e=>obtain⟨_,_,f⟩:=bQ.1 h;cases f
  |array k e=>obtain⟨_,_,f⟩:=bQ.1 h;cases f
  |_=>cases h
 case fieldAddr t x i=>
  simp only [bT]at hc;obtain⟨d,_,h⟩:=bQ.1 hc;cases d with
  |struct fs=>
   obtain⟨_,_,f⟩:=bQ.1 h;obtain⟨_,_,j⟩:=bQ.1 f;cases j
  |_=>cases h
 case field t x i=>
  simp only [bT]at hc;obtain⟨d,_,h⟩:=bQ.1 hc;cases d with
  |struct fs=>
   obtain⟨_,_,f⟩:=bQ.1 h;obtain⟨_,_,j⟩:=bQ.1 f;obtain⟨_,_,q⟩:=bQ.1 j;cases q
  |_=>cases h
 case indexAddr t x i=>
  simp only [bT]at hc;obtain⟨d,_,h⟩:=bQ.1 hc;cases d with
  |slice e=>obtain⟨_,_,f⟩:=bQ.1 h;cases f
  |array k e=>obtain⟨_,_,f⟩:=bQ.1 h;cases f
  |_=>cases h
 case index t x i=>
  simp only [bT]at hc;obtain⟨d,_,h⟩:=bQ.1 hc;cases d with
  |string=>cases h
  |array k e=>
   obtain⟨_,_,f⟩:=bQ.1 h;obtain⟨_,_,j⟩:=bQ.1 f;cases j
  |_=>cases h
 case insert t m k x=>
  simp only [bT]at hc;obtain⟨d,_,h⟩:=bQ.1 hc;cases d with
  |map k e=>
   obtain⟨_,_,f⟩:=bQ.1 h;cases f
  |_=>cases h
 case mapEntry t m k=>
  simp only [bT]at hc;obtain⟨d,_,h⟩:=bQ.1 hc;cases d with
  |map k e=>
   obtain⟨_,_,f⟩:=bQ.1 h;obtain⟨_,_,j⟩:=bQ.1 f;cases j
  |_=>cases h
 case mapUpdate t m k x=>
  simp only [bT]at hc;obtain⟨d,_,h⟩:=bQ.1 hc;cases d with
  |map k e=>
   obtain⟨_,_,f⟩:=bQ.1 h;cases f
  |_=>cases h
 case store t a x=>
  simp only [bT]at hc;obtain⟨_,h1,f⟩:=bQ.1 hc;cases f
 case next x b=>cases b<;>cases hc
 case entry x=>cases hc;exact⟨x,rfl,rfl⟩
 all_goals cases hc
end
section
variable {P:Program} {T:Ty} {K:Nat->Prop}
theorem OQ.next{d:Dst}{x:Opd}{lo hi:Nat}{l:List cj}{f:F}{h:H}{R:F->H->Prop}{it km n:Nat}{es:List (V×V)}{seen:List Nat}(ev:evs f [x]=some [.ptr it 0])(p:h.blk it=some (.miter km (some (seen,n))))(k:h.blk km=some (.map es true))(j:es.length=n)
  (m:(∀i,i<n->i∈seen)->OQ P T K l (d.put f (.tup [.bool false])) h R)
  (o:∀i e,i<n->i∉seen->es[i]? =some e->OQ P T K l (d.put f (.tup [.bool true,e.1,e.2])) ⟨h.t.put it (some (.miter km (some (seen++[i],n)))),h.next⟩ R):OQ P T K (⟨d,.e .nextM,[x],none,lo,hi⟩ ::l) f h R:=by
 refine OQ.may rfl ev rfl λE g w op os ρ hc r hv=>?_;obtain⟨y,rfl,rfl⟩:=@yJ E T _ _ hc;obtain⟨a,c,b⟩:=@VRs.one E _ _ _ hv;cases c;rcases @yC E P T g ρ h w r y it km n es seen b p k j with⟨k1,k2⟩ | ⟨i,e,k1,k2,k3,k4⟩
 ·exact⟨_,_,k2,m k1⟩
 ·exact⟨_,_,k4,o i e k1 k2 k3⟩
theorem OQ.entry{d:Dst}{x:Opd}{lo hi:Nat}{l:List cj}{f:F}{h:H}{R:F->H->Prop}{it km n i:Nat}{es:List (V×V)}{e:V×V}{seen:List Nat}(ev:evs f [x]=some [.ptr it 0])(o:h.blk it=some (.miter km (some (seen++[i],n))))(k:h.blk km=some (.map es true))(j:es.length=n)(m:es[i]? =some e)
  (q:OQ P T K l (d.put f (.tup [e.1,e.2])) h R):OQ P T K (⟨d,.e .entryM,[x],none,lo,hi⟩ ::l) f h R:=by
 refine OQ.may rfl ev rfl λE g w op os ρ hc r hv=>?_;obtain⟨y,rfl,rfl⟩:=@wG E T _ _ hc;obtain⟨a,c,b⟩:=@VRs.one E _ _ _ hv;cases c;exact⟨_,_,@yD E P T g ρ h w r y it km n i es e seen b o k j m,q⟩
end
end
section
theorem Cb{E:En}{T:Ty}{g:G}{h1 h2:H}{w:World}(r:@WR E T g h1 w){it ki:Nat}{es:List (V×V)}{o:Bool}{m:Nat}{st:Option (List Nat×Nat)}(N:h2.next=h1.next)(e:∀j,h2.blk j=if j=it then some .dead else if j=ki then some (.map es false)else h1.blk j)
  (hi:h1.blk it=some (.miter m st)) (y:h1.blk ki=some (.map es o)):@WR E T g h2 w:=by
 have M:it≠ki:=λq=>by rw [q,y]at hi;cases hi
 have h:∀i b k,h2.blk i=some b->b.kin=some k->h1.blk i=some b:=λi b k a p=>by
  rw [e]at a
  split at a
  ·cases a;cases p
  ·split at a
   ·cases a;cases p
   ·exact a
 have kin2:∀i b k,h1.blk i=some b->b.kin=some k->h2.blk i=some b:=λi b k a p=>by
  rw [e,if_neg (λq=>by rw [q,hi]at a;cases a;cases p),if_neg (λq=>by rw [q,y]at a;cases a;cases p)];exact a
 have up:∀{i j d},Up h1 i j d->Up h2 i j d:=λu=>by
  induction u with
  |one a f=>exact .one (kin2 _ _ _ a f) f
  |step a f _ ih=>exact .step (kin2 _ _ _ a f) f ih
 have live:∀i b,h2.blk i=some b->b.live=true->∃s,h1.blk i=some s/\s.live=true/\s.isRo=b.isRo:=λi b a p=>by
  rw [e]at a
  split at a
  ·cases a;cases p
  ·split at a
   ·rename_i q
    cases a;exact⟨.map es o,by rw [q];exact y,rfl,rfl⟩
   ·exact⟨b,a,p,rfl⟩
 cases r with
 |mk a1 a2 a3 a4 a5 a6 a7 a8=>
  refine @WR.mk E T g h2 w (by omega) (λid b q=>?_) (λid x q=>by have:=a3 id x q;omega) a4 (λid x b l c=>?_) (λi j b o z o' I R S A l c q3 P L F=>?_) (λi b j d ch l c=>?_) (λi b j d ch s l c q3=>?_)
  ·rw [N]
   rw [e]at q
   split at q
   ·rename_i c
    rw [c];exact a2 _ _ hi
   ·split at q
    ·rename_i c
     rw [c];exact a2 _ _ y
    ·exact a2 _ _ q
  ·rw [e]at c
   split at c
   ·cases c
    trivial
   ·split at c
    ·rename_i q3
     cases c;subst q3;obtain⟨b1,o1,z1,Q,c1,f,n,t,C⟩:=a5 id x _ l y;exact⟨b1,o1,z1,Q,c1,f,n,t,C.1,λq=>by cases q⟩
    ·exact a5 id x b l c
  ·obtain⟨D,f,n,t⟩:=live i R q3 L
   obtain⟨B,C,J,K⟩:=live j S P F;rcases a6 i j b o z o' I D B A l c f C n J with⟨d,u,q⟩ | ⟨d,u,q⟩ | ⟨q,q'⟩
   ·exact .inl ⟨d,up u,q⟩
   ·exact .inr (.inl ⟨d,up u,q⟩)
   ·exact .inr (.inr ⟨t▸q,K▸q'⟩)
  ·obtain⟨s,v,f,n,t⟩:=a7 i b j d ch (h _ _ _ l c) c
   exact⟨s,v,kin2 _ _ _ f n,n,t⟩
  ·obtain⟨O,v,f,n,t⟩:=a7 i b j d ch (h _ _ _ l c) c
   have:=kin2 _ _ _ f n;rw [q3]at this;cases this;exact a8 i b j d ch s (h _ _ _ l c) c f
theorem xf{K:Nat->Prop}{f f':F}{h1 h2:H}{it ki:Nat}{es:List (V×V)}{o:Bool}{m:Nat}{st:Option (List Nat×Nat)}(i:h2.next=h1.next)(e:∀j,h2.blk j=if j=it then some .dead else if j=ki then some (.map es false)else h1.blk j)
  (hi:h1.blk it=some (.miter m st)) (d:h1.blk ki=some (.map es o)) (f1:∀t v,lk f'.loc t=some v->lk f.loc t=some v) (k:∀t v,lk f'.tmp t=some v->lk f.tmp t=some v):fy TP K f h1 f' h2:=by
 intro n N E0 g0 w0 E g w tmps s fr;refine⟨E,g,⟨?_,s.envl,s.envn,s.fix,s.size,s.keep,s.inv,s.pin,s.os,s.tape,s.output⟩,⟨fr.1,λt v e=>fr.2 t v ?_⟩,λid b o z e=>⟨id,o,z,e⟩⟩
 ·refine Sit.mk' (Cb s.sit.wr i e hi d) (λp h=>?_) λb c q=>s.sit.env q
  obtain⟨l,a⟩:=s.sit.pin p h;refine⟨l,?_⟩;rw [e,if_neg (λq=>by rw [q,hi]at a;cases a),if_neg (λq=>by rw [q,d]at a;cases a)];exact a
 ·unfold rdn at e ⊢
  split at e
  ·rename_i q
   rw [if_pos q];exact f1 t v e
  ·rename_i q
   rw [if_neg q];exact k t v e
noncomputable section
def Hc:cF:= .loop (.seq (.reg [⟨.t 63,.e (.nextM),[.l 62],none,0,0⟩,⟨.l 64,.p (.ext 0),[.t 63],none,0,0⟩])
 (.seq (.cond (.l 64) .skip
 (.exit 4))
 (.block 5 (.seq (.reg [⟨.t 65,.e (.entryM),[.l 62],none,0,0⟩,⟨.t 66,.p (.ext 0),[.t 65],none,0,0⟩,⟨.l 14,.p (.mv),[.t 66],none,0,0⟩])
 (.reg [⟨.t 67,.p (.mv),[.l 10],none,0,0⟩,⟨.t 68,.p (.mv),[.l 14],none,0,0⟩,⟨.no,.e (.delete (.one .s)),[.t 67,.t 68],none,0,0⟩])))))
end
theorem Be:∀(s:Sc) (i:Nat),(scE s)[i]? =(s[i]?).map λp=>(sV p.1,V.int .i64 p.2)
 |[],i=>by simp [scE]
 |p ::l,0=>rfl
 |p ::l,i+1=>by
  show(scE l)[i]? =_;rw [Be l i];simp
theorem rT:∀s:Sc,(scE s).length=s.length
 |[]=>rfl
 |_ ::l=>congrArg (·+1) (rT l)
def md(own:Sc)(seen:List Nat)(s:Sc):Sc:=s.filter λq=>!seen.any λi=>decide ((own[i]?).map (·.1)=some q.1)
theorem CK(own s:Sc):md own [] s=s:=by simp [md]
theorem zO{own s:Sc}{seen:List Nat}{i:Nat}{p:ByteArray×Int}(a:own[i]? =some p)(nd:(s.map (·.1)).Nodup):wB (md own seen s) p.1=md own (seen++[i]) s:=by
 unfold md;rw [Fj (vo nd),List.filter_filter]
 congr 1
 funext q
 rw [List.any_append,List.any_cons,List.any_nil,Bool.or_false,a];simp only [Option.map_some,Option.some.injEq]
 by_cases e:p.1=q.1
 ·simp [e]
 ·simp [e,Ne.symm e]
theorem CL{own s:Sc}{seen:List Nat}(h:∀i,i<own.length->i∈seen):md own seen s=jn s own:=by
 unfold md jn
 congr 1
 funext q
 congr 1
 rw [Bool.eq_iff_iff,List.any_eq_true,List.any_eq_true];constructor
 ·rintro⟨i,_,e⟩
  obtain⟨r,b,a⟩:=Option.map_eq_some_iff.1 (of_decide_eq_true e);exact⟨r,List.mem_of_getElem? b,by simp [a]⟩
 ·rintro⟨r,b,a⟩
  obtain⟨i,hi⟩:=List.mem_iff_getElem?.1 b;exact⟨i,h i (List.getElem?_eq_some_iff.1 hi).1,by rw [hi];simp [of_decide_eq_true a]⟩
def DD(n:Nat)(seen:List Nat):Nat:=((List.range n).filter λi=>!seen.contains i).length
theorem E3{p q:Nat->Bool}:∀l:List Nat,(∀a,a∈l->q a=true->p a=true)->(l.filter q).length<=(l.filter p).length
 |[],_=>Nat.le_refl _
 |a ::l,h=>by
  have ih:=E3 l λb hb=>h b (List.mem_cons_of_mem _ hb);rw [List.filter_cons,List.filter_cons];cases hq:q a with
  |true=>
   rw [h a List.mem_cons_self hq,if_pos rfl,if_pos rfl,List.length_cons,List.length_cons];omega
  |false=>
   rw [if_neg (by simp)]
   split
   ·rw [List.length_cons]
    omega
   ·exact ih
theorem EZ{p q:Nat->Bool}{i:Nat}(hp:p i=true)(hq:q i=false):∀l:List Nat,(∀a,a∈l->q a=true->p a=true)->i∈l->(l.filter q).length<(l.filter p).length
 |[],_,k=>by cases k
 |a ::l,h,k=>by
  have le:=E3 l λb hb=>h b (List.mem_cons_of_mem _ hb);rw [List.filter_cons,List.filter_cons]
  by_cases e:a=i
  ·rw [e,hp,hq,if_pos rfl,if_neg (by simp),List.length_cons]
   omega
  ·have ih:=EZ hp hq l (λb hb=>h b (List.mem_cons_of_mem _ hb)) (by
    rcases List.mem_cons.1 k with k|k
    ·exact absurd k.symm e
    ·exact k)
   cases hq2:q a with
   |true=>
    rw [h a List.mem_cons_self hq2,if_pos rfl,if_pos rfl,List.length_cons,List.length_cons];omega
   |false=>
    rw [if_neg (by simp)]
    split
    ·rw [List.length_cons]
     omega
    ·exact ih
theorem FZ{n i:Nat}{seen:List Nat}(h:i<n)(k:i∉seen):DD n (seen++[i])<DD n seen:=
 EZ (by simpa using k) (by simp) _ (λa _ q=>by
  simp at q ⊢;exact q.1) (List.mem_range.2 h)
section
variable {K:Nat->Prop}
theorem OQ.op'{d:Dst}{o:COp}{args:List Opd}{lo hi:Nat}{l:List cj}{f:F}{h h1:H}{vs:List V}{v:V}{R:F->H->Prop}(a:evs f args=some vs)(b:o.run ft vs h=some (v,h1))(q:OQ Tryz.prog TP K l (d.put f v) h1 R):OQ Tryz.prog TP K (⟨d,o,args,none,lo,hi⟩ ::l) f h R:=by
 refine OQ.op rF jO ?_ q;show ob (some true) _=_;show ob (evs f args) _=_;rw [a];show ob (o.run ft vs h) _=_;rw [b];rfl
theorem ev1{f:F}{x:Opd}{v:V}(e:x.ev f=some v):evs f [x]=some [v]:=by
 show ob (x.ev f) _=_;rw [e];rfl
set_option maxHeartbeats 800000 in
theorem IC{fr:AL}{h:H}{it ki km:Nat}{sc own:Sc}{o:Bool}(B:lk fr 62=some (.ptr it 0))(z:lk fr 10=some (.map ki))(x:lk fr 64=none)(C:lk fr 14=none)
  (u:h.blk it=some (.miter km (some ([],own.length)))) (Q:h.blk km=some (.map (scE own) true)) (P:h.blk ki=some (.map (scE sc) o)) (A:ki≠km) (l:it<bZ) (g:ki<bZ) (nd:(sc.map (·.1)).Nodup):
  FL Tryz.prog TP K Hc ⟨fr,[]⟩ h (.exit 4) ⟨fr,[]⟩ ⟨(h.t.put ki (some (.map (scE (jn sc own)) false))).put it (some .dead),h.next⟩:=by
 have w:it≠ki:=λq=>by rw [q,P]at u;cases u
 have m:it≠km:=λq=>by rw [q,Q]at u;cases u
 have S:∀j,(⟨(h.t.put ki (some (.map (scE (jn sc own)) false))).put it (some .dead),h.next⟩:H).blk j=if j=it then some .dead else if j=ki then some (.map (scE (jn sc own)) false)else h.blk j:=λj=>by
  show Tr.get _ _=_;rw [Tr.get_put _ _ _ _ l]
  split
  ·rfl
  ·exact gO (h:=h) (n:=h.next) g
 refine SQ.sem (SQ.loop (λk f h1=>∃loc seen o1,f=⟨loc,[]⟩/\k=DD own.length seen/\(∀t v,lk fr t=some v->lk loc t=some v)/\h1.next=h.next/\h1.blk it=some (.miter km (some (seen,own.length)))/\h1.blk ki=some (.map (scE (md own seen sc)) o1)/\∀j,j≠it->j≠ki->h1.blk j=h.blk j) ?_ (k:=DD own.length []) ⟨fr,[],o,rfl,rfl,λ_ _ e=>e,rfl,u,by rw [CK];exact P,λ_ _ _=>rfl⟩);rintro k f h1 ⟨loc,seen,o1,rfl,rfl,y,nx,O,F,J⟩;have M:h1.blk km=some (.map (scE own) true):=by rw [J km (Ne.symm m) (Ne.symm A)];exact Q
 have r:=y 62 _ B;have L:=y 10 _ z;refine SQ.seq (SQ.reg (λq=>by cases q) ?_);refine OQ.next (n:=own.length) (ev1 r) O M (rT own) (λall=>?_) (λi e hi hs D=>?_)
 ·refine OQ.op' (vs:=[.tup [.bool false]]) (v:= .bool false) (h1:=h1) rfl rfl (OQ.nil ?_)
  refine .inl ⟨rfl,SQ.seq (SQ.cond (t:=false) (by show lk (upd loc 64 (.bool false)) 64=_;rw [@oL noE,if_pos rfl]) (λq=>by cases q) λ_=>SQ.exit rF jO mixed (.inr ⟨(λq=>by cases q),.inr ⟨(λq=>by cases q),?_⟩⟩))⟩;rw [CL all]at F;refine⟨rfl,xf nx.symm (λj=>?_) O F (λt v q=>?_) (λt v q=>by cases q)⟩
  ·rw [S]
   split
   ·rfl
   ·rename_i d
    split
    ·rfl
    ·rename_i c
     exact(J j d c).symm
  ·have q:lk fr t=some v:=q
   show lk (upd loc 64 (.bool false)) t=some v;rw [@oL noE,if_neg (λe=>by rw [e,x]at q;cases q)];exact y t v q
 ·obtain⟨p,R,rfl⟩:∃p,own[i]? =some p/\e=(sV p.1,V.int .i64 p.2):=by
   rw [Be]at D;obtain⟨p,d,c⟩:=Option.map_eq_some_iff.1 D;exact⟨p,d,c.symm⟩
  obtain⟨h2,b⟩:∃h2:H,h2=⟨h1.t.put it (some (.miter km (some (seen++[i],own.length)))),h1.next⟩:=⟨_,rfl⟩
  have b2:∀j,h2.blk j=if j=it then some (.miter km (some (seen++[i],own.length)))else h1.blk j:=λj=>by rw [b];exact gO l
  rw [<-b];refine OQ.op' (vs:=[.tup [.bool true,sV p.1,.int .i64 p.2]]) (v:= .bool true) (h1:=h2) rfl rfl (OQ.nil ?_);refine .inl ⟨rfl,SQ.seq (SQ.cond (t:=true) (by show lk (upd loc 64 (.bool true)) 64=_;rw [@oL noE,if_pos rfl]) (λ_=>SQ.skip rF jO mixed (.inl ⟨rfl,?_⟩)) λq=>by cases q)⟩;have loc2:∀t v,t≠64->lk loc t=some v->lk (upd loc 64 (.bool true)) t=some v:=λt v G e=>by rw [@oL noE,if_neg G];exact e
  refine SQ.block (SQ.seq (SQ.reg (λq=>by cases q) ?_));refine OQ.entry (n:=own.length) (i:=i) (seen:=seen) (e:=(sV p.1,V.int .i64 p.2)) (ev1 (loc2 62 _ (by decide) r)) (by rw [b2,if_pos rfl]) (by rw [b2,if_neg (Ne.symm m)];exact M) (rT own) D ?_;refine OQ.op' (vs:=[.tup [sV p.1,.int .i64 p.2]]) (v:=sV p.1) (h1:=h2) rfl rfl ?_;refine OQ.op' (vs:=[sV p.1]) (v:=sV p.1) (h1:=h2) rfl rfl (OQ.nil (.inl ⟨rfl,?_⟩));have a:∀t v,t≠64->t≠14->lk loc t=some v->lk (upd (upd loc 64 (.bool true)) 14 (sV p.1)) t=some v:=λt v G I e=>by rw [@oL noE,if_neg I];exact loc2 t v G e
  have b3:h2.blk ki=some (.map (scE (md own seen sc)) o1):=by rw [b2,if_neg (Ne.symm w)];exact F
  refine SQ.reg (λq=>by cases q) ?_;refine OQ.op' (vs:=[.map ki]) (v:= .map ki) (h1:=h2) (ev1 (a 10 _ (by decide) (by decide) L)) rfl ?_;refine OQ.op' (vs:=[sV p.1]) (v:=sV p.1) (h1:=h2) (ev1 (by show lk (upd (upd loc 64 (.bool true)) 14 (sV p.1)) 14=_;rw [@oL noE,if_pos rfl])) rfl ?_;refine OQ.op' (vs:=[.map ki,sV p.1]) (v:= .tup []) (h1:=⟨h2.t.put ki (some (.map (scE (wB (md own seen sc) p.1)) false)),h2.next⟩) rfl ?_ (OQ.nil ?_)
  ·show oif true (ob (ob (h2.blk ki) _) _)=_
   rw [b3];show ob (wC h2 (.one .s) (sV p.1) (scE (md own seen sc))) _=_;rw [Fi];rfl
  ·have E:∀j,(⟨h2.t.put ki (some (.map (scE (wB (md own seen sc) p.1)) false)),h2.next⟩:H).blk j=if j=ki then some (.map (scE (wB (md own seen sc) p.1)) false)else h2.blk j:=λj=>gO g
   refine .inl ⟨rfl,DD own.length (seen++[i]),FZ hi hs,_,seen++[i],false,rfl,rfl,λt v q=>a t v (λe=>by rw [e,x]at q;cases q) (λe=>by rw [e,C]at q;cases q) (y t v q),by rw [b];exact nx,by rw [E,if_neg w,b2,if_pos rfl],by rw [E,if_pos rfl,zO R nd],λj d c=>by rw [E,if_neg c,b2,if_neg d];exact J j d c⟩
end
end
section
theorem EY{x:Ex}(a:bS (exO x)<=6000000){s:Sc}(hs:s.length<=6000000):∃n cs,Int.ofNat n=rp x (jk s)/\CP 160 [.agg (exO x),.lst (jk s).length 1 (jk s)] (.lst n 1 cs):=by
 have st:xn (jk s):=λc hc=>by
  obtain⟨l,_,rfl⟩:=List.mem_map.1 hc;exact⟨_,_,rfl⟩
 exact⟨_,_,rfl,f160 a st (by rw [uM];exact hs)⟩
theorem CY{M:Nat->Prop}{id:Nat}(h:¬M id):dG M (.map id):=λE g g' u hg k=>by
 cases k with
 |map e=>exact @VR.map E g' _ _ _ _ (hg _ _ h e)
theorem f162{h:H}{k:Nat}(np:2<h.next)(a:k<h.next):CN 162 [.map k] h (.func (.func 170) [] [.eptr [.map k] 0]) h:=by
 have bx:dG (λid=>id=h.next) (.map k):=CY λq=>by omega
 obtain⟨h',c,rfl⟩:∃h',CN 162 [.map k] h (.func (.func 170) [] [.eptr [.map k] 0]) h'/\h'=h:=by
  refine dh Tryz.func162 (by decide) Lg.2 rfl rfl (dl np) ?_
  repeat' (first
   |(refine WLg.mk ?_;first
   |refine ac ?_|refine aY (x:= .map k) rfl rfl rfl rfl bx rfl ?_)|apply ab|refine aj rfl ?_|apply ae|apply aa|apply am|apply thN|fail)
  exact⟨.inr rfl,_,rfl,Nat.le_refl _,rfl,rfl⟩
 exact c
noncomputable section
def fr148s(x:Ex)(k:Nat):AL:=[(0,.ptr 2 0),(2,.map k),(4,.eptr (exO x) 0)]
def fr148(x:Ex)(k i:Nat):AL:=[(0,.ptr 2 0),(2,.map k),(4,.eptr (exO x) 0),(27,.lst x.clauses.length 4 (clL x.clauses)),(28,.int .i64 (Int.ofNat x.clauses.length)),(29,.int .i64 (Int.ofNat i))]
def fr148b(x:Ex)(k i:Nat):AL:=[(0,.ptr 2 0),(2,.map k),(4,.eptr (exO x) 0),(8,.eptr (clO (bV x.clauses i)) 0),(27,.lst x.clauses.length 4 (clL x.clauses)),(28,.int .i64 (Int.ofNat x.clauses.length)),(29,.int .i64 (Int.ofNat i))]
def fr148c(x:Ex)(k i ki km j:Nat):AL:=[(0,.ptr 2 0),(2,.map k),(4,.eptr (exO x) 0),(8,.eptr (clO (bV x.clauses i)) 0),(10,.map ki),(11,.map km),(27,.lst x.clauses.length 4 (clL x.clauses)),(28,.int .i64 (Int.ofNat x.clauses.length)),(29,.int .i64 (Int.ofNat i)),
 (51,.lst (bV x.clauses i).pats.length 11 (exL (bV x.clauses i).pats)),(52,.int .i64 (Int.ofNat (bV x.clauses i).pats.length)),(53,.int .i64 (Int.ofNat j))]
def fr148d(x:Ex)(k i ki it:Nat):AL:=[(0,.ptr 2 0),(2,.map k),(4,.eptr (exO x) 0),(8,.eptr (clO (bV x.clauses i)) 0),(10,.map ki),(27,.lst x.clauses.length 4 (clL x.clauses)),(28,.int .i64 (Int.ofNat x.clauses.length)),(29,.int .i64 (Int.ofNat i)),(62,.ptr it 0)]
end
theorem f50e{D:Df}{p:Pl}{fl:List Fl}{h:H}(c:CS D p fl h)(a:h.next+2<300000000)(code n:Int):∃h',CN 50 [.ptr 2 0,.int .i64 code,.str 0 0,.int .i64 n] h (.tup []) h'/\Gf D p (fl++[flw p code eB n]) h h' 2:=by
 obtain⟨h1,c1,d,b,q3,_⟩:=f50 c a code n eB;exact⟨h1,c1,d,b,by omega⟩
set_option maxHeartbeats 6400000 in
theorem ET{D:Df}{E:XF}{t:Nat}(e5:t<=6000000)(X:EX D E t):FN D E t:=by
 intro x hx p fl k sc h c so hz hk;have b8:=dZ x;have b9:=fR x.clauses;have e3:=wd sc;obtain⟨n,cs,hn,P⟩:=EY (x:=x) (by omega) (s:=sc) (by omega);have F:=f162 c.le so.hi;have C:=Av so (by omega);obtain⟨h1,c1,g1⟩:=f50e c (by omega) 13 (Int.ofNat n);have g0:=(Gf.refl c).up (m:=2) (by omega);obtain⟨fl0,w⟩:∃fl0,fl0=(if ltI 200 (rp x (jk sc))then fl++[flw p 13 eB (rp x (jk sc))]else fl):=⟨_,rfl⟩
 refine dh Tryz.func148 (by decide) Lo.2 rfl rfl (dl c.le) ?_
 repeat' (first
  |(refine WLg.mk ?_;first
  |refine ac ?_|refine aE ?_|refine aw c1 ?_)
  |(show WX _ _ _ _ _ _ _ _ _ _;first
  |refine aH ?_|refine aM ?_|refine aR P ?_|refine bh rfl rfl rfl (F) .none rfl ?_|refine bh rfl rfl rfl (C) .none rfl ?_|refine aO (by repeat' (first|exact bR.nil|refine bR.any (λh=>rfl) ?_|refine bR.first rfl ?_|refine bR.each (.cons rfl .nil) ?_|refine bR.each (.cons rfl (.cons rfl .nil)) ?_|refine bR.each (.cons rfl (.cons rfl (.cons rfl .nil))) ?_)) ?_)|apply ab|refine aj rfl ?_|(show WC _ _ _ _ _ (cF.seq (cF.seq _ (cF.seq _ (cF.cond (Opd.l 22) _ _))) _) _ _ _;refine bD (λl2 h2=>l2=fr148s x k/\Gf D p fl0 h h2 2) ?_ ?_)|apply ae|apply aa|apply ak|refine ah rfl (λb=>?_) (λb=>?_)|refine aP ?_|apply thN|fail)
 ·exact .norm ⟨_,_,cA KH,rfl,g1.eq (by rw [w,<-hn,if_pos Hy])⟩
 ·exact .norm ⟨_,_,cA KH,rfl,g0.eq (by rw [w,<-hn,if_neg (by rw [(by assumption:ltI 200 (Int.ofNat n)=false)];decide)])⟩
 clear P F C c1 g1 g0;rintro _ hs ⟨rfl,gs⟩
 repeat' (first
  |(refine WLg.mk ?_;first
  |refine ac ?_|refine au ?_)|apply ab|refine aj rfl ?_|apply ae|apply aa|apply ai|apply thN|fail)
 refine az (cA (l:=fr148 x k 0) KH) ?_;refine aA x.clauses.length (λi f h1=>f=fr148 x k i/\Gf D p (cB (λi g=>CM E p (Int.ofNat (bV x.clauses 0).pats.length) (bV x.clauses i) sc g) fl0 i) h h1 (2+40*bS (clL (x.clauses.take i)))) ?_ (i:=0) (Nat.zero_le _) ⟨rfl,gs.up (by omega)⟩;clear gs;clear hs;rintro i _ ha hi ⟨rfl,B⟩;have hi2:i<9223372036854775807:=by omega
 have c6:=B.nx;cases q:ltI (Int.ofNat i) (Int.ofNat x.clauses.length)with
 |false=>
  have a3:i=x.clauses.length:=by have:=cC q;omega
  repeat' (first
   |(refine WLg.mk ?_;first
   |refine ac ?_)|apply ab|refine aj rfl ?_|apply ae|apply aa|refine ah rfl (λb=>Nt b) (λb=>?_)|apply ax|apply thN|apply thE|apply onE|fail)
  subst a3;rw [List.take_length]at B;exact⟨.inl rfl,_,rfl,B.km.le,rfl,(B.up (by omega)).eq (by rw [CW,w])⟩
 |true=>
  have W:=bX q;have U:Nat.blt 0 x.clauses.length=true:=ltb (by omega);have b3:=oO W;have e1:=mL x.clauses (i+1);have e0:=gM (bV x.clauses i);have d1:=dT (bV x.clauses i).pats;have a9:ha.next<900000000:=by omega
  have pp:∀v,v∈clO (bV x.clauses i)->bY v:=λv hv=>(hO _ v hv).x;obtain⟨h2,c2,g2⟩:=f50e B.cs (by omega) 12 (Int.ofNat (bV x.clauses i).pats.length);have r0:=(Gf.refl B.cs).up (m:=2) (by omega);obtain⟨d,I⟩:∃d,d=cB (λi g=>CM E p (Int.ofNat (bV x.clauses 0).pats.length) (bV x.clauses i) sc g) fl0 i:=⟨_,rfl⟩
  rw [<-I]at B g2 r0
  repeat' (first
   |(refine WLg.mk ?_;first
   |refine av rfl rfl (ce (i:=0) U) rfl ?_|refine ac ?_|refine av rfl rfl (ce Hy) rfl ?_|refine ap rfl rfl (dy (i:=0) U rfl) rfl ?_|refine au ?_|refine ap rfl rfl (eV Hy) rfl ?_|refine aJ rfl rfl (dE a9) rfl rfl rfl rfl rfl rfl rfl rfl pp rfl rfl ?_|refine aw c2 ?_)|apply ab|refine aj rfl ?_|(show WC _ _ _ _ _ (cF.seq (cF.seq _ (cF.seq _ (cF.cond (Opd.l 43) _ _))) _) _ _ _;refine bD (λl2 h2=>l2=fr148b x k i/\Gf D p (if eqI (Int.ofNat (bV x.clauses i).pats.length) (Int.ofNat (bV x.clauses 0).pats.length)then d else d++[flw p 12 eB (Int.ofNat (bV x.clauses i).pats.length)]) ha h2 2) ?_ ?_)|apply ae|apply aa|apply ai|apply ak|refine ah rfl (λb=>?_) (λb=>Nf b)|refine ah rfl (λb=>?_) (λb=>?_)|apply thN|fail)
  ·exact .norm ⟨_,_,cA KH,rfl,g2.eq (by(try simp only [Bool.not_eq_true']at*)<;>first|(simp [*];done)|(simp_all [];done))⟩
  ·exact .norm ⟨_,_,cA KH,rfl,r0.eq (by(try simp only [Bool.not_eq_false']at*)<;>first|(simp [*];done)|(simp_all [];done))⟩
  clear c2 g2 r0;rintro _ z ⟨rfl,Y⟩;obtain⟨u,J⟩:∃u,u=(if eqI (Int.ofNat (bV x.clauses i).pats.length) (Int.ofNat (bV x.clauses 0).pats.length)then d else d++[flw p 12 eB (Int.ofNat (bV x.clauses i).pats.length)]):=⟨_,rfl⟩
  rw [<-J]at Y;have nb:=Y.nx;have a5:=so.km0 (B.km.trans Y.km);obtain⟨hc,cc,a1,a2,b2,b7⟩:=f103 Y.cs a5 (by omega);obtain⟨T,a0,Q⟩:=a1.newmap (by omega) [] true List.nodup_nil
  repeat' (first
   |(refine WLg.mk ?_;first
   |refine ac ?_|refine au ?_|refine aI (t:=hc.t) (k:=hc.next) rfl rfl rfl (dE (by omega)) rfl ?_|refine aw cc ?_)|apply ab|refine aj rfl ?_|apply ae|apply aa|apply ai|apply thN|fail)
  refine az (cA (l:=fr148c x k i z.next hc.next 0) KH) ?_;have M:∃es,(⟨hc.t.put hc.next (some (.map (scE []) true)),Nat.succ hc.next⟩:H).blk hc.next=some (.map es true):=⟨_,by rw [gO (by unfold bZ;omega),if_pos rfl]⟩
  have a4:(⟨hc.t.put hc.next (some (.map (scE []) true)),Nat.succ hc.next⟩:H).next=hc.next+1:=rfl
  change WC _ _ _ _ _ _ _ (⟨hc.t.put hc.next (some (.map (scE []) true)),Nat.succ hc.next⟩:H) _
  generalize (⟨hc.t.put hc.next (some (.map (scE []) true)),Nat.succ hc.next⟩:H)=hd at T a0 Q M a4 ⊢;refine aA (bV x.clauses i).pats.length (λj f h1=>f=fr148c x k i z.next hc.next j/\Gs D p u hc.next (cB (λj s=>iT B6 (cE (bV x.clauses i).pats j) s) [] j) hd h1 0) ?_ (i:=0) (Nat.zero_le _) ⟨rfl,Gs.refl T a0⟩;rintro j _ a hj ⟨rfl,e⟩;have c8:j<9223372036854775807:=by omega
  have c0:=e.nx;cases qj:ltI (Int.ofNat j) (Int.ofNat (bV x.clauses i).pats.length)with
  |true=>
   have L:=bX qj;have b5:=ja L;have b4:=gK (bV x.clauses i).pats (j+1);have a6:a.next<900000000:=by omega
   have pp:∀v,v∈exO (cE (bV x.clauses i).pats j)->bY v:=λv hv=>(dQ _ v hv).x;obtain⟨hu,cu,Z⟩:=p9 B6 kY (cE (bV x.clauses i).pats j) (mr (by omega)) e.cs e.so (by omega)
   repeat' (first
    |(refine WLg.mk ?_;first
    |refine ac ?_|refine av rfl rfl (ce Hy) rfl ?_|refine ap rfl rfl (show ROp.run (.load true 11) [.eptr (exO (cE (bV x.clauses i).pats j)) 0] _=some (.agg (exO (cE (bV x.clauses i).pats j)))from rfl) rfl ?_|refine ap rfl rfl (dF Hy) rfl ?_|refine aJ rfl rfl (dE a6) rfl rfl rfl rfl rfl rfl rfl rfl pp rfl rfl ?_|refine aw cu ?_)|apply ab|refine aj rfl ?_|apply ae|apply aa|apply ai|apply ak|refine ah rfl (λb=>?_) (λb=>Nf b)|apply thN|fail)
   exact .norm ⟨_,_,cA KH,L,rfl,e.trans Z⟩
  |false=>
   have a7:j=(bV x.clauses i).pats.length:=by have:=cC qj;omega
   subst a7;obtain⟨own,G⟩:∃own,own=El (bV x.clauses i):=⟨_,rfl⟩
   have e:Gs D p u hc.next own hd a 0:=by rw [G];exact e
   have oe:a.blk hc.next=some (.map (scE own) true):=by
    obtain⟨o1,k1⟩:=e.so.out;obtain⟨es,k2⟩:=M;obtain⟨e4,k3⟩:=e.km.od (by have:=e.so.lo;omega) es k2;rw [k1]at k3;cases k3;exact k1
   have e2:=e.so.hi;have d0:=e.so.lo;have y:Sco a z.next sc:=(a2.km0 Q).km e.km.toKMx (by omega)
   obtain⟨oi,bi⟩:=y.out;have d2:900000002<bZ:=by unfold bZ;omega
   have V:EOp.run .rangeM [.map hc.next] a=some (.ptr a.next 0,⟨a.t.put a.next (some (.miter hc.next (some ([],own.length)))),Nat.succ a.next⟩):=by
    show ob (ob (a.blk hc.next) _) _=_;rw [oe];show ob (H.new a (.miter hc.next (Bool.rec (motive:=λ_=>Option (List Nat×Nat)) none (some ([],cD (scE own))) (a.ord hc.next)))) _=_;rw [show a.ord hc.next=true by unfold H.ord;rw [oe],@cq noE,rT];show ob (oif (Nat.blt a.next bZ) _) _=_;rw [dE (by omega)];rfl
   obtain⟨A,R⟩:∃A:H,A=⟨a.t.put a.next (some (.miter hc.next (some ([],own.length)))),Nat.succ a.next⟩:=⟨_,rfl⟩
   have bf:∀j,A.blk j=if j=a.next then some (.miter hc.next (some ([],own.length)))else a.blk j:=λj=>by rw [R];exact gO (by omega)
   have nf:A.next=a.next+1:=by rw [R]
   rw [<-R]at V;have sm:=IC (K:=λid=>id<h.next/\¬noM id) (fr:=fr148d x k i z.next a.next) (h:=A) (it:=a.next) (ki:=z.next) (km:=hc.next) (sc:=sc) (own:=own) (o:=oi) rfl rfl rfl rfl (by rw [bf,if_pos rfl]) (by rw [bf,if_neg (by omega)];exact oe) (by rw [bf,if_neg (by omega)];exact bi) (by omega) (by omega) (by omega) so.nd;obtain⟨hg,S⟩:∃hg:H,hg=⟨(A.t.put z.next (some (.map (scE (jn sc own)) false))).put a.next (some .dead),A.next⟩:=⟨_,rfl⟩
   rw [<-S]at sm;have bg:∀j,hg.blk j=if j=a.next then some .dead else if j=z.next then some (.map (scE (jn sc own)) false)else A.blk j:=λj=>by
    rw [S];show Tr.get _ _=_;rw [Tr.get_put _ _ _ _ (by omega)]
    split
    ·rfl
    ·exact gO (h:=A) (n:=A.next) (by omega)
   have ng:hg.next=a.next+1:=by rw [S];exact nf
   have old:∀j,j<a.next->j≠z.next->hg.blk j=a.blk j:=λj q1 O=>by rw [bg,if_neg (by omega),if_neg O,bf,if_neg (by omega)]
   have a8:CS D p u hg:=e.cs.mono (by omega) λj q1 O=>old j q1 λq3=>by
    subst q3;rcases O with O|O
    ·have:=y.lo;omega
    ·exact O _ _ bi
   have b1:Sco hg z.next (jn sc own):=⟨y.lo,by have:=y.hi;omega,vo so.nd,false,by rw [bg,if_neg (by have:=y.hi;omega),if_pos rfl]⟩
   have b0:KMx z.next a hg:=⟨by omega,λj es o q1 O q3=>by rw [old j q1 O];exact q3⟩
   have b6:szS (jn sc own)<=szS sc:=vn;obtain⟨hu,cu,Z⟩:=f52 X (x:=bV x.clauses i) (by omega) (by omega) a8 b1 (by omega) (by omega);have nu:=Z.nx;have kb:=B.km.trans Y.km;have d6:=kb.le;have kh:KM 0 h hu:=((((kb.trans b2).trans Q).fresh (by omega) e.km.toKMx).fresh (by omega) b0).fresh (by omega) Z.km.toKMx;have r:Gf D p (CM E p (Int.ofNat (bV x.clauses 0).pats.length) (bV x.clauses i) sc d) h hu (2+40*bS (clL (x.clauses.take (i+1)))):=⟨by
    rw [CM,<-J,<-G];exact Z.cs,kh,by omega⟩
   rw [I]at r
   repeat' (first
    |(refine WLg.mk ?_;first
    |refine ac ?_|refine aK rfl rfl V rfl ?_)|apply ab|refine aj rfl ?_|apply ae|apply aa|apply ai|refine ah rfl (λb=>Nt b) (λb=>?_)|apply ax|apply thN|apply thE|apply onE|fail)
   refine az (cA (l:=fr148d x k i z.next a.next) KH) ?_;refine WC.sem sm ?_
   repeat' (first
    |(refine WLg.mk ?_;first
    |refine ac ?_|refine ap rfl rfl (show ROp.run (.load true 4) [.eptr (clO (bV x.clauses i)) 0] _=some (.agg (clO (bV x.clauses i)))from rfl) rfl ?_|refine aw cu ?_)|apply ab|refine aj rfl ?_|apply aa|apply thN|fail)
   exact .norm ⟨_,_,cA KH,W,rfl,r⟩
end
end Ev
end Go.Proofs.YtdfphfdnoobikaaGreatDoor
