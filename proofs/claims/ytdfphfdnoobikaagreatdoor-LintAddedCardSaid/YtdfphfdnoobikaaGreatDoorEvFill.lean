/-
  A new variable that is filled at once and only read from then on.
-/
import Derived.Test.YtdfphfdnoobikaaGreatDoorEvSit
namespace Go.Proofs.YtdfphfdnoobikaaGreatDoor
namespace Ev
section
section
variable [Env]
set_option linter.unusedSectionVars false
variable {P:Program} {T:Ty} {g:G} {ρ:Operand->Value} {h:H} {w:World}
theorem ue{op:Op}{n:Nat}{os:List Operand}(hc:bI T op=some (.e (.store n),os)):∃t x y,op= .store t x y/\os=[x,y]/\fW T t=some n:=by
 cases op
 case call c=>
  obtain⟨callee,args,argTypes⟩:=c;simp only [bI]at hc;cases callee with
  |value x=>
   cases x with
   |func f'=>cases hc
   |_=>cases hc
  |invoke r m=>cases hc
  |builtin b=>
   obtain⟨t,h1,h2⟩:=bE.1 hc;obtain⟨d,h3,h4⟩:=bE.1 h2;cases b
   case len=>cases d<;>cases h4
   case append=>
    cases d with
    |slice e=>
     obtain⟨n,_,a1⟩:=bE.1 h4;obtain⟨_,_,a2⟩:=bE.1 a1;obtain⟨_,_,a3⟩:=bE.1 a2;obtain⟨_,a4⟩:=bK.1 a3;obtain⟨_,_,a5⟩:=bE.1 a4;obtain⟨_,_,a6⟩:=bE.1 a5
     split at a6<;>cases a6
    |_=>cases h4
   case copy=>
    cases d with
    |slice e=>obtain⟨n,k1,a1⟩:=bE.1 h4;cases a1
    |_=>cases h4
   case clear=>
    cases d with
    |slice e=>
     obtain⟨n,k1,a1⟩:=bE.1 h4;obtain⟨z,k2,a2⟩:=bE.1 a1;cases a2
    |_=>cases h4
   case delete=>
    cases d with
    |map k e=>obtain⟨kk,k1,a1⟩:=bE.1 h4;cases a1
    |_=>cases h4
   all_goals (cases d<;>cases h4)
 case alloc t=>
  simp only [bI]at hc;obtain⟨z,h1,h⟩:=bE.1 hc;cases h
 case buildSlice t n ps=>
  simp only [bI]at hc;obtain⟨d,_,h⟩:=bE.1 hc;cases d with
  |slice e=>
   obtain⟨_,_,a1⟩:=bE.1 h;obtain⟨_,_,a2⟩:=bE.1 a1;obtain⟨_,a3⟩:=bK.1 a2;cases a3
  |_=>cases h
 case makeMap t r=>
  simp only [bI]at hc;obtain⟨d,_,h⟩:=bE.1 hc;cases d<;>cases h
 case makeSlice t l c=>
  simp only [bI]at hc;obtain⟨d,_,h⟩:=bE.1 hc;cases d with
  |slice e=>
   obtain⟨_,_,a1⟩:=bE.1 h;obtain⟨_,_,a2⟩:=bE.1 a1;obtain⟨_,_,a3⟩:=bE.1 a2;obtain⟨_,a4⟩:=bK.1 a3;cases a4
  |_=>cases h
 case range t x=>
  simp only [bI]at hc;obtain⟨d,_,h⟩:=bE.1 hc;cases d<;>cases h
 case load t x=>
  simp only [bI]at hc;obtain⟨b,h1,h2⟩:=bE.1 hc;obtain⟨n,h3,h4⟩:=bE.1 h2;cases h4
 case lookup t x k ok=>
  simp only [bI]at hc;obtain⟨d,h1,h2⟩:=bE.1 hc;cases d with
  |map kt e=>
   obtain⟨kk,h3,h4⟩:=bE.1 h2;obtain⟨z,h5,h6⟩:=bE.1 h4;cases h6
  |_=>cases h2
 case binOp op t x y t'=>
  have eq2:∀{neg cst:Bool} {d:TypeDesc},re T t neg cst d=some (.e (.store n))->False:=by
   intro neg cst d h2;cases d with
   |interface e=>obtain⟨h4,h5⟩:=bK.1 h2;cases h5
   |pointer e=>obtain⟨k,h4,h5⟩:=bE.1 h2;cases h5
   |struct fs=>obtain⟨k,h4,h5⟩:=bE.1 h2;cases h5
   |_=>cases h2
  cases op
  case eql=>
   simp only [bI]at hc;obtain⟨d,h1,h2⟩:=bE.1 hc;obtain⟨c,h3,h4⟩:=bE.1 h2;cases h4;exact(eq2 (neg:=false) h3).elim
  case neq=>
   simp only [bI]at hc;obtain⟨d,h1,h2⟩:=bE.1 hc;obtain⟨c,h3,h4⟩:=bE.1 h2;cases h4;exact(eq2 (neg:=true) h3).elim
  all_goals cases hc
 case build t ps=>
  simp only [bI]at hc;obtain⟨z,h1,h2⟩:=bE.1 hc;obtain⟨d,h3,h4⟩:=bE.1 h2;cases d with
  |struct fs=>
   obtain⟨pl,h5,h6⟩:=bE.1 h4;obtain⟨l,h7,h8⟩:=bE.1 h6;cases h8
  |array k e=>
   obtain⟨n,h5,h6⟩:=bE.1 h4;cases h6
  |_=>cases h4
 case convert s d x=>
  simp only [bI]at hc;obtain⟨a,h1,h2⟩:=bE.1 hc;obtain⟨b,h3,h4⟩:=bE.1 h2;cases a<;>cases b<;>first|(cases h4;done)|(cases(fj h4).1)
 case makeInterface t x=>
  simp only [bI]at hc;obtain⟨d,h1,h2⟩:=bE.1 hc;cases d<;>cases h2
 case makeFunc fn a b=>cases fn<;>cases hc
 case slice t x lo hi mx=>
  simp only [bI]at hc;obtain⟨d,_,h⟩:=bE.1 hc;cases d with
  |string=>cases h
  |slice e=>obtain⟨_,_,a1⟩:=bE.1 h;cases a1
  |array k e=>obtain⟨_,_,a1⟩:=bE.1 h;cases a1
  |_=>cases h
 case fieldAddr t x i=>
  simp only [bI]at hc;obtain⟨d,_,h⟩:=bE.1 hc;cases d with
  |struct fs=>
   obtain⟨_,_,a1⟩:=bE.1 h;obtain⟨_,_,a2⟩:=bE.1 a1;cases a2
  |_=>cases h
 case field t x i=>
  simp only [bI]at hc;obtain⟨d,_,h⟩:=bE.1 hc;cases d with
  |struct fs=>
   obtain⟨_,_,a1⟩:=bE.1 h;obtain⟨_,_,a2⟩:=bE.1 a1;obtain⟨_,_,a3⟩:=bE.1 a2;cases a3
  |_=>cases h
 case indexAddr t x i=>
  simp only [bI]at hc;obtain⟨d,_,h⟩:=bE.1 hc;cases d with
  |slice e=>obtain⟨_,_,a1⟩:=bE.1 h;cases a1
  |array k e=>obtain⟨_,_,a1⟩:=bE.1 h;cases a1
  |_=>cases h
 case index t x i=>
  simp only [bI]at hc;obtain⟨d,_,h⟩:=bE.1 hc;cases d with
  |string=>cases h
  |array k e=>
   obtain⟨_,_,a1⟩:=bE.1 h;obtain⟨_,_,a2⟩:=bE.1 a1;cases a2
  |_=>cases h
 case insert t m k x=>
  simp only [bI]at hc;obtain⟨d,_,h⟩:=bE.1 hc;cases d with
  |map k e=>
   obtain⟨_,_,a1⟩:=bE.1 h;cases a1
  |_=>cases h
 case mapEntry t m k=>
  simp only [bI]at hc;obtain⟨d,_,h⟩:=bE.1 hc;cases d with
  |map k e=>
   obtain⟨_,_,a1⟩:=bE.1 h;obtain⟨_,_,a2⟩:=bE.1 a1;cases a2
  |_=>cases h
 case mapUpdate t m k x=>
  simp only [bI]at hc;obtain⟨d,_,h⟩:=bE.1 hc;cases d with
  |map k e=>
   obtain⟨_,_,a1⟩:=bE.1 h;cases a1
  |_=>cases h
 case store t a x=>
  simp only [bI]at hc;obtain⟨_,h1,a1⟩:=bE.1 hc;cases a1;exact⟨t,a,x,rfl,rfl,h1⟩
 case next x b=>cases b<;>cases hc
 all_goals cases hc
theorem AM:∀{l:List V} {us:List Value} {i k:Nat} {h h':H} {w:World} {id b o z:Nat},WR T g h w->g id=some (b,o,z)->VRs g l us->H.wr id l (i+k) h=some h'->
  ∃w',Ext T g h w g h' w'/\(storeCells ⟨b,o+i,none⟩ us k).run P w= .ok () w'/\∀j,j≠b->w'.heap[j]? =w.heap[j]?
 |[],_,i,k,h,h',w,id,b,o,z,r,hg,hl,e=>by
  cases hl;cases e;exact⟨w,.refl r,by simp [storeCells],λ_ _=>rfl⟩
 |v ::l,_,i,k,h,h',w,id,b,o,z,r,hg,hl,e=>by
  cases hl with
  |cons hv ht=>
   rename_i u us
   rw [yn]at e;obtain⟨h1,e1,e2⟩:=bE.1 e;obtain⟨x1,⟨c,hc⟩,hf⟩:=Ext.wr1 r e1 hg hv;have hone:cE v=true:=by
    unfold H.wr1 at e1;obtain⟨b',_,e4⟩:=bE.1 e1;cases b' with
    |cells n cs up ch=>
     obtain⟨_,e5⟩:=bK.1 e4;obtain⟨_,e6⟩:=bK.1 e5;exact(bK.1 e6).1
    |_=>cases e4
   obtain⟨w',x2,h2,h3⟩:=AM (i:=i) (k:=k+1) x1.wr hg ht e2;refine⟨w',x1.trans x2,?_,λj hj=>(h3 j hj).trans (gC _ hj)⟩;have ha:(⟨b,o+(i+k),none⟩:Addr)=(⟨b,o+i,none⟩:Addr).add k:=by simp [Addr.add,Nat.add_assoc]
   rw [ha]at hc hf h2;simp only [storeCells,Sem.run_bind,rZ (mj hv hone) hc hf,Result.andThen_ok];rw [<-ha]at h2 ⊢;exact h2
theorem xN(hT:cN P T)(r:WR T g h w){t:TypeId}{n:Nat}{x y:Operand}{id:Nat}{b:V}{h':H}(hn:fW T t=some n)(ha:VR g (.ptr id 0) (ρ x))(hb:VR g b (ρ y))(hl:(cellsOf b).length=n)(e3:H.wr id (cellsOf b) 0 h=some h'):
  ∃w' b' o z,g id=some (b',o,z)/\Ext T g h w g h' w'/\yk P ρ w (.store t x y) undef w'/\∀j,j≠b'->w'.heap[j]? =w.heap[j]? :=by
 cases hx:ρ x<;>rw [hx]at ha<;>cases ha
 rename_i b' o z hg
 have hc:=fq hb;obtain⟨w',x1,k1,k2⟩:=AM (P:=P) (i:=0) (k:=0) r hg hc e3;have hlen:=hc.length;refine⟨w',b',o,z,hg,x1,λo' e'=>.inr ⟨?_,rfl⟩,k2⟩;have hs:¬(ρ y).cells.size≠n:=by simp only [ne_eq,Decidable.not_not];simp at hlen;omega
 simp only [execOp,e',hx,Instr.storeAt,Instr.sureAddr,storeVar,Sem.run_bind,Sem.run_pure,Result.andThen_ok,cy hT hn];rw [if_neg hs];simp only [Nat.add_zero]at k1 ⊢;simp [k1]
end
section
variable {P:Program} {T:Ty} {m N:Nat}
theorem Be(hT:cN P T){E:En}{g:G}{h:H}{w:World}(s:Sit T E g h w){o:Oper}{zero:List V}{os:List Operand}{a:Act}(hc:bI T o.op=some (.a (.alloc zero),os))(hv:@VRs E g [] (os.map a.eval))
  (er:(AOp.alloc zero).run []=some (.cells zero.length (cq zero 0 .e) none false,λi=>.ptr i 0)) (hk:h.next<bR) {KK:Act->World->Prop} {Q:Exit->Act->World->Prop}
  (hK:∀obj z u,@WR E T (eF g h.next (w.heap.size,0,z)) ⟨h.t.put h.next (some (.cells zero.length (cq zero 0 .e) none false)),Nat.succ h.next⟩ (w.alloc obj)->@VR E (eF g h.next (w.heap.size,0,z)) (.ptr h.next 0) u->u= .pointer (some ⟨w.heap.size,0,none⟩)->KK (a.put o.dst u) (w.alloc obj)):o.wpIn (fen none) 0 P a w KK Q:=by
 refine⟨λ_ _=>trivial,?_⟩;rw [Oper.semAt_eq _ _ _ (@fi noE _ _ _ _ hc)];have hm:=@Ez E P T g a.eval hT _ _ _ hc _ _ _ hv er;obtain⟨obj,z,val,m1,m2,m3⟩:=@kM.make E _ _ _ _ _ _ _ hm;have hnone:g h.next=none:=by
  cases e:g h.next with
  |none=>rfl
  |some x=>exact absurd (@WR.dom E _ _ _ _ s.wr _ _ e) (by omega)
 have hle:=@eS noE g _ (w.heap.size,0,z) hnone;have hval:=m2 _ _ _ hle (@cm noE _ _ _);have hbr:=m3 _ (w.alloc obj) _ _ hle (@cm noE _ _ _) (@da noE w obj);have hnew:h.new (.cells zero.length (cq zero 0 .e) none false)=some ⟨h.t.put h.next (some (.cells zero.length (cq zero 0 .e) none false)),Nat.succ h.next⟩:=by
  show oif (Nat.blt h.next bR) _=_;rw [show Nat.blt h.next bR=true by simp [Nat.blt];omega];rfl
 rw [m1 w o rfl,Oper.uponIn_value];refine hK obj z _ (@Ext.wr E _ _ _ _ _ _ _ (@Ext.new E T g h _ w s.wr _ _ _ hnew (@kM.kin E _ _ _ _ _ _ _ hm) hbr)) hval ?_;generalize val w.heap.size=vv at hval;cases hval with
 |ptr e=>
  rw [@cm noE]at e;cases e;rfl
theorem D5{E:En}{g:G}{h:H}{w:World}(s:Sit T E g h w){obj:Obj}{z:Nat}{h1 h2:H}{w2:World}(x:@Ext E T (eF g h.next (w.heap.size,0,z)) h1 (w.alloc obj) (eF g h.next (w.heap.size,0,z)) h2 w2)(keep2:∀j,j≠w.heap.size->w2.heap[j]? =(w.alloc obj).heap[j]?)
  {cs:List V} {cs':Tr V} (hb:h2.blk h.next=some (.cells cs.length cs' none false)) (hcs:∀j v,cs[j]? =some v->cs'.get j=some v) (hf:∀c,c∈cs->dg (λid=>id=h.next) c):
  ∃E',fT T noM E g h w E' g h w2/\@VR E' g (.eptr cs 0) (.pointer (some ⟨w.heap.size,0,none⟩)):=by
 classical
 obtain⟨b,o',z',c,t,k1,k2,k3,k4,k5,k6⟩:=(@WR.blk E T _ _ _ (@Ext.wr E _ _ _ _ _ _ _ x) _ _ _ (@cm noE _ _ _) hb:@Cells E (eF g h.next (w.heap.size,0,z)) w2 h.next _ _)
 rw [@cm noE]at k1;cases k1;have hno:E.ro w.heap.size=none:=by
  cases e:E.ro w.heap.size with
  |none=>rfl
  |some c=>
   obtain⟨⟨t,q⟩,_⟩:=s.env e;have:=(Array.getElem?_eq_some_iff.1 q).1;omega
 let E':En:=⟨λb=>if b=w.heap.size then some c else E.ro b⟩
 have hE:E.le E':=λb c' e=>by
  show(if b=w.heap.size then some c else E.ro b)=some c';rw [if_neg (λq=>by rw [q,hno]at e;cases e),e]
 have hEn:E'.ro w.heap.size=some c:=if_pos rfl;have hEo:∀b c',E'.ro b=some c'->b=w.heap.size/\c'=c\/E.ro b=some c':=λb c' e=>by
  have e:(if b=w.heap.size then some c else E.ro b)=some c':=e
  by_cases q:b=w.heap.size
  ·rw [if_pos q]at e;cases e;exact .inl ⟨q,rfl⟩
  ·rw [if_neg q]at e;exact .inr e
 have hcs':∀j x,cs[j]? =some x->∃u,c[0+j]? =some u/\@VR E g x u:=λj x e=>by
  have hj:=(List.getElem?_eq_some_iff.1 e).1;obtain⟨u,q1,q2,_⟩:=k6 j x hj (hcs j x e);refine⟨u,q1,hf x (List.mem_of_getElem? e) E _ g u (λid y hn hy=>?_) q2⟩;have:eF g h.next (w.heap.size,0,z) id=g id:=by unfold eF;rw [if_neg hn]
  rwa [this]at hy
 have hxs:∃xs,@VRs E g cs xs/\∀j u,xs[j]? =some u->c[0+j]? =some u:=by
  have:∀(l:List V) (k:Nat),(∀j x,l[j]? =some x->∃u,c[k+j]? =some u/\@VR E g x u)->∃xs,@VRs E g l xs/\∀j u,xs[j]? =some u->c[k+j]? =some u:=by
   intro l
   induction l with
   |nil=>exact λk _=>⟨[],@VRs.nil E g,λj u e=>by simp at e⟩
   |cons v l ih=>
    intro k h;obtain⟨u,h1,h2⟩:=h 0 v (by simp);obtain⟨xs,k1,k2⟩:=ih (k+1) λj v e=>by
     obtain⟨u,q1,q2⟩:=h (j+1) v (by simpa using e);exact⟨u,by rw [show k+1+j=k+(j+1) by omega];exact q1,q2⟩
    refine⟨u ::xs,@VRs.cons E g _ _ _ _ h2 k1,λj y e=>?_⟩;cases j with
    |zero=>simp at e;subst e;exact h1
    |succ j=>rw [show k+(j+1)=k+1+j by omega];exact k2 j y (by simpa using e)
  exact this cs 0 hcs'
 obtain⟨xs,x1,x2⟩:=hxs;have hsz:(w.alloc obj).heap.size=w.heap.size+1:=by show(w.heap.push obj).size=_;rw [Array.size_push]
 have hsize:w.heap.size+1<=w2.heap.size:=hsz ▸ @Ext.size E _ _ _ _ _ _ _ x;have hkeep:∀b,b<w.heap.size->w2.heap[b]? =w.heap[b]? :=λb hb=>by
  rw [keep2 b (by omega)];show(w.heap.push obj)[b]? =_;rw [Array.getElem?_push,if_neg (by omega)]
 refine⟨E',⟨hE,λb c' e=>?_,λ_ _ _ e=>e,Nat.le_refl _,Sit.mk' ?_ s.pin (λb c' e=>?_),by omega,λb hb _=>hkeep b hb,λid b o z e=>.inr ⟨id,o,z,e⟩,λp hp=>hkeep _ (by
  obtain⟨⟨z,q⟩,_⟩:=s.pin p hp;exact s.lt q),(by have:=@Ext.os E _ _ _ _ _ _ _ x;exact this),(by have:=@Ext.tape E _ _ _ _ _ _ _ x;exact this),(by have:=@Ext.output E _ _ _ _ _ _ _ x;exact this)⟩,@VR.eptr E' g _ _ _ _ _ _ hEn x2 (x1.env hE)⟩
 ·rcases hEo b c' e with⟨q,_⟩|q
  ·exact .inr (by omega)
  ·exact .inl q
 ·have r:=WR.env hE s.wr
  cases r with
  |mk a b c d e f k' x=>
   exact @WR.mk E' T g h _ a b c (λid b o z q=>by have:=d _ _ _ _ q;omega) (λid y b e1 e2=>by
    obtain⟨b',o',z⟩:=y;exact @BR.move E' _ _ _ _ _ _ _ _ _ e1 (hkeep _ (d _ _ _ _ e1)) (e _ _ _ e1 e2)) f k' x
 ·rcases hEo b c' e with⟨rfl,rfl⟩|q
  ·exact⟨⟨(t,0,0),k2⟩,λid o z q=>absurd (s.lt q) (by omega)⟩
  ·obtain⟨⟨t,q1⟩,q2⟩:=s.env q
   exact⟨⟨t,(hkeep _ (Array.getElem?_eq_some_iff.1 q1).1).trans q1⟩,q2⟩
end
end
section
section
variable {P:Program} {T:Ty} {m N:Nat}
theorem ma{K:Nat->Prop}{call:cB}{l:List bS}{f f':F}{h h':H}(k:gH P T K call l f h f' h'):ci.reg l=rP->False:=by
 induction k with
 |nil=>intro hb;cases hb
 |op e k ih=>intro hb;cases hb;cases e
 |con eg ev ec=>intro hb;cases hb;cases ec
 |mkF eg ev eo=>intro hb;cases hb;cases eo
 |allocF=>intro hb;cases hb
 |view e k ih=>exact ih
theorem zE(hT:cN P T){call:cB}(hk:∀E:En,@dX E P T call){ops:Array Oper}{Q:Exit->Act->World->Prop}{K:Nat->Prop}{E0:En}{g0:G}{w0:World}{cl:List bS}{f f':F}{h h':H}(r:gH P T K call cl f h f' h'):
  ∀(suf:List Oper) (k:Nat),(∀i,i<suf.length->ops[k+i]? =suf[i]?)->fK (eX T m N ops) suf=some cl->∀(E:En) (g:G) (a:Act) (w:World),Sx T K E0 g0 w0 E g h w->@FR E g m N f a.tmps->dZ [] g w w0.heap.size a.defers->
  (∀E' g' a' w',Sx T K E0 g0 w0 E' g' h' w'->@FR E' g' m N f' a'.tmps->dZ [] g' w' w0.heap.size a'.defers->Q .normal a' w')->wpOpsIn (fen none) 0 P ops Q (List.range' k suf.length) a w:=by
 induction r with
 |nil=>
  intro suf k hidx hc E g a w s hf hM hQ;cases suf with
  |nil=>exact hQ E g a w s hf hM
  |cons o suf=>
   rw [@d7 noE]at hc;obtain⟨co',h1,h2⟩:=bE.1 hc;obtain⟨cl',h3,h4⟩:=bE.1 h2;cases h4
 |view e k ih=>
  intro suf k0 hidx hc E g a w s hf hM hQ;obtain⟨E1,g1,s1,f1,q1⟩:=e m N E0 g0 w0 E g w a.tmps s hf;exact ih suf k0 hidx hc E1 g1 a w s1 f1 (hM.of q1) hQ
 |op e k ih=>
  intro suf k0 hidx hc E g a w s hf hM hQ;cases suf with
  |nil=>cases hc
  |cons o suf=>
   rw [@d7 noE]at hc;obtain⟨co',h1,h2⟩:=bE.1 hc;obtain⟨cl',h3,h4⟩:=bE.1 h2;cases h4;have hp:=@dm noE _ _ _ _ _ _ h1;have ho:ops[k0]? =some o:=by have:=hidx 0 (by simp);simpa using this
   have hidx':∀i,i<suf.length->ops[k0+1+i]? =suf[i]? :=λi hi=>by
    have:=hidx (i+1) (by simp;omega);rw [show k0+1+i=k0+(i+1) by omega]
    simpa using this
   rw [List.length_cons,List.range'_succ,wpOpsIn_cons];unfold wpOpIn;simp only [ho];rcases @oH noE _ _ _ _ _ e with⟨e1,e2⟩ | ⟨vs,v,h'',e1,e2,e3,e4⟩
   ·cases e2
    rw [@eW E _ _ _ g ops o _ hp _ a _ e1 (λt _ v hv=>hf.2 t v hv)];refine⟨λ_ _=>trivial,?_⟩;exact ih suf (k0+1) hidx' h3 E g _ w s (@FR.put E _ _ _ _ _ _ _ _ _ hf hp.dst (@fk E _)) (by rw [@dh noE];exact hM) hQ
   ·cases e4
    rw [@eW E _ _ _ g ops o _ hp _ a _ e1 (λt _ v hv=>hf.2 t v hv)];obtain⟨os,k1,k2⟩:=hp.op;refine @lF E P T hT call (hk E) g _ _ w s.sit.wr s.sit.glob o _ os a k1 vs v (@jp E T m g _ w s.sit.glob _ a _ _ _ k2 e2 λt _ v hv=>hf.2 t v hv) e3 _ _ _ λg1 w1 u x1 x2=>?_;have X:=fT.of (M:=noM) s.sit x1;exact ih suf (k0+1) hidx' h3 E g1 _ w1 (s.ext X λ_ _ q=>q) (@FR.put E _ _ _ _ _ _ _ _ _ (@FR.mono E _ _ (@Ext.le E _ _ _ _ _ _ _ x1) _ _ _ _ hf) hp.dst x2) (by rw [@dh noE];exact hM.extX X) hQ
 |@con co cl0 f h f' h' M vs vs' fnn v h1 eg ev ec c hK hfr k ih=>
  intro suf k0 hidx hc E g a w s hf hM hQ;cases suf with
  |nil=>cases hc
  |cons o suf=>
   rw [@d7 noE]at hc;obtain⟨co',h1,h2⟩:=bE.1 hc;obtain⟨cl',h3,h4⟩:=bE.1 h2;cases h4;have hp:=@dm noE _ _ _ _ _ _ h1;have ho:ops[k0]? =some o:=by have:=hidx 0 (by simp);simpa using this
   have hidx':∀i,i<suf.length->ops[k0+1+i]? =suf[i]? :=λi hi=>by
    have:=hidx (i+1) (by simp;omega);rw [show k0+1+i=k0+(i+1) by omega]
    simpa using this
   rw [List.length_cons,List.range'_succ,wpOpsIn_cons];unfold wpOpIn;simp only [ho];rw [@eW E _ _ _ g ops o _ hp _ a _ eg (λt _ v hv=>hf.2 t v hv)];obtain⟨os,k1,k2⟩:=hp.op;refine uI s.sit k1 (@jp E T m g _ w s.sit.glob _ a _ _ _ k2 ev λt _ v hv=>hf.2 t v hv) ec c λE1 g1 w1 u x1 x2=>?_;exact ih suf (k0+1) hidx' h3 E1 g1 _ w1 (s.ext x1 hK) (@FR.put E1 _ _ _ _ _ _ _ _ _ (hfr.fr x1.le (hf.env x1.envl)) hp.dst x2) (by rw [@dh noE];exact hM.extX x1) hQ
 |@mkF co cl0 f h f' h' ao vs cs mk v eg ev eo er hz hl hfr k ih=>
  intro suf k0 hidx hc E g a w s hf hM hQ;cases suf with
  |nil=>cases hc
  |cons o suf=>
   rw [@d7 noE]at hc;obtain⟨co',h1,h2⟩:=bE.1 hc;obtain⟨cl',h3,h4⟩:=bE.1 h2;cases h4;have hp:=@dm noE _ _ _ _ _ _ h1;have ho:ops[k0]? =some o:=by have:=hidx 0 (by simp);simpa using this
   have hidx':∀i,i<suf.length->ops[k0+1+i]? =suf[i]? :=λi hi=>by
    have:=hidx (i+1) (by simp;omega);rw [show k0+1+i=k0+(i+1) by omega]
    simpa using this
   rw [List.length_cons,List.range'_succ,wpOpsIn_cons];unfold wpOpIn;simp only [ho];rw [@eW E _ _ _ g ops o _ hp _ a _ eg (λt _ v hv=>hf.2 t v hv)];obtain⟨os,k1,k2⟩:=hp.op;rw [eo]at k1;refine uH hT s.sit k1 (@jp E T m g _ w s.sit.glob _ a _ _ _ k2 ev λt _ v hv=>hf.2 t v hv) er hz hl hfr λE1 w1 u x1 x2=>?_;exact ih suf (k0+1) hidx' h3 E1 g _ w1 (s.ext x1 λ_ _ q=>q) (@FR.put E1 _ _ _ _ _ _ _ _ _ (hf.env x1.envl) hp.dst x2) (by rw [@dh noE];exact hM.extX x1) hQ
 |@allocF co1 co2 cl0 f h f' h' zero n x h2 cs' eg1 eo1 ev1 er hk1 eg2 eo2 ev2 hw hb hcs hl hfr k ih=>
  intro suf k0 hidx hc E g a w s hf hM hQ;cases suf with
  |nil=>cases hc
  |cons o1 suf=>
  rw [@d7 noE]at hc;obtain⟨co',h1,hc2⟩:=bE.1 hc;obtain⟨cl',h3,h4⟩:=bE.1 hc2;cases h4;cases suf with
  |nil=>cases h3
  |cons o2 suf=>
  rw [@d7 noE]at h3;obtain⟨co'',h5,hc3⟩:=bE.1 h3;obtain⟨cl'',h6,h7⟩:=bE.1 hc3;cases h7;have hp1:=@dm noE _ _ _ _ _ _ h1;have hp2:=@dm noE _ _ _ _ _ _ h5;have ho1:ops[k0]? =some o1:=by have:=hidx 0 (by simp);simpa using this
  have ho2:ops[k0+1]? =some o2:=by have:=hidx 1 (by simp);simpa using this
  have hidx':∀i,i<suf.length->ops[k0+1+1+i]? =suf[i]? :=λi hi=>by
   have:=hidx (i+2) (by simp;omega);rw [show k0+1+1+i=k0+(i+2) by omega]
   simpa using this
  rw [List.length_cons,List.length_cons,List.range'_succ,List.range'_succ,wpOpsIn_cons];unfold wpOpIn;simp only [ho1];rw [@eW E _ _ _ g ops o1 _ hp1 _ a _ eg1 (λt _ v hv=>hf.2 t v hv)];obtain⟨os1,k1,k2⟩:=hp1.op;rw [eo1]at k1;refine Be hT s.sit k1 (@jp E T m g _ w s.sit.glob _ a _ _ _ k2 ev1 λt _ v hv=>hf.2 t v hv) er hk1 λobj z u r1 hu hue=>?_;have hnone:g h.next=none:=by
   cases e:g h.next with
   |none=>rfl
   |some x=>exact absurd (@WR.dom E _ _ _ _ s.sit.wr _ _ e) (by omega)
  have hle:=@eS noE g _ (w.heap.size,0,z) hnone;have glob1:@gY E T (eF g h.next (w.heap.size,0,z)) ⟨h.t.put h.next (some (.cells zero.length (cq zero 0 .e) none false)),Nat.succ h.next⟩ (w.alloc obj):=by
   refine @gY.mk E _ _ _ _ (λp hp=>?_) λb c e=>?_
   ·obtain⟨⟨z',q1⟩,q2⟩:=s.sit.pin p hp
    refine⟨⟨z',hle _ _ q1⟩,?_⟩;have hne:p.1≠h.next:=λq=>by rw [q,hnone]at q1;cases q1
    show(h.t.put h.next _).get p.1=_;rw [Tr.get_put _ _ _ _ hk1,if_neg hne];exact q2
   ·obtain⟨⟨t,q1⟩,q2⟩:=s.sit.env e
    have hlt:=(Array.getElem?_eq_some_iff.1 q1).1;refine⟨⟨t,?_⟩,λid o z' q=>?_⟩
    ·show(w.heap.push obj)[b]? =_
     rw [Array.getElem?_push,if_neg (by omega)];exact q1
    ·unfold eF at q
     split at q
     ·cases q;omega
     ·exact q2 _ _ _ q
  have hf1:@FR E (eF g h.next (w.heap.size,0,z)) m N (co1.dst.put f (.ptr h.next 0)) (a.put o1.dst u).tmps:=@FR.put E _ _ _ _ _ _ _ _ _ (@FR.mono E _ _ hle _ _ _ _ hf) hp1.dst hu;rw [wpOpsIn_cons];unfold wpOpIn;simp only [ho2];rw [@eW E _ _ _ _ ops o2 _ hp2 _ (a.put o1.dst u) _ eg2 (λt _ v hv=>hf1.2 t v hv)];obtain⟨os2,k3,k4⟩:=hp2.op;rw [eo2]at k3;obtain⟨t,ox,oy,e1,e2,e3⟩:=@ue noE _ _ _ _ k3;subst e2;have hv2:=@jp E T m _ _ _ glob1 _ (a.put o1.dst u) _ _ _ k4 ev2 λt _ v hv=>hf1.2 t v hv;obtain⟨q1,q2,hvv,hv1,hv3⟩:=@VRs.two E _ _ _ _ hv2;cases hvv;obtain⟨w2,b',o',z',y1,y2,y3,y4⟩:=@xN E P T _ (a.put o1.dst u).eval _ _ hT r1 t n ox oy h.next x h2 e3 hv1 hv3 hl hw
  rw [@cm noE]at y1;cases y1;obtain⟨E',X,hz⟩:=D5 s.sit y2 y4 hb hcs hfr;refine⟨λ_ _=>trivial,?_⟩;rw [Oper.semAt_eq _ _ _ (@fi noE _ _ _ _ k3)];have fin:wpOpsIn (fen none) 0 P ops Q (List.range' (k0+1+1) suf.length) ((a.put o1.dst u).put o2.dst undef) w2:=by
   subst hue;exact ih suf (k0+1+1) hidx' h6 E' g _ w2 (s.ext X λ_ _ q=>q) (@FR.put E' _ _ _ _ _ _ _ _ _ (@FR.put E' _ _ _ _ _ _ _ _ _ (hf.env X.envl) hp1.dst hz) hp2.dst (@fk E' g)) (by rw [@dh noE,@dh noE];exact hM.extX X) hQ
  rcases y3 o2 e1 with q | ⟨q,_⟩
  ·rw [q,Oper.uponIn_value]
   exact fin
  ·rw [q,Oper.uponIn_skip]
   exact fin
theorem wB(hT:cN P T){call:cB}(hk:∀E:En,@dX E P T call)(hm:P.follows .mixedOrders=true){n:Nat}{K:Nat->Prop}{E0:En}{g0:G}{w0:World}{cc:ci}{f:F}{h:H}{x:X}{f':F}{h':H}(r:Way P T K call n cc f h x f' h'):
  ∀(c:Code),comp T m N c=some cc->∀(E:En) (g:G) (a:Act) (w:World),Sx T K E0 g0 w0 E g h w->@FR E g m N f a.tmps->dZ [] g w w0.heap.size a.defers->c.wpIn (fen none) 0 P (Dc T K m N E0 g0 w0 x f' h') a w:=by
 induction r with
 |exec e=>
  intro c hc E g a w s hf hM;refine wpIn_mono (@pR E P T m N [] hT call (hk E) hm n none c _ hc _ _ _ _ _ e g a w w0.heap.size s.sit.wr s.sit.glob hf (λ_=>hM) s.size) ?_;rintro e a' w' ⟨g',y1,y2,y3,y4⟩;exact⟨E,g',s.ext (fT.of (M:=noM) s.sit y1) λ_ _ q=>q,y2,y3 rfl,y4⟩
 |reg k=>
  intro c hc E g a w s hf hM;cases c with
  |region id ops d=>
   cases d with
   |false=>
    rw [@ka noE]at hc;rcases @d9 noE _ _ hc with hc|hb
    case inr=>exact(ma k hb).elim
    obtain⟨cl,h1,h2⟩:=bE.1 hc;cases h2;refine wpIn_region ?_;rw [List.range_eq_range'];have hlen:ops.size=ops.toList.length:=by simp
    rw [hlen];exact zE hT hk k ops.toList 0 (λi _=>by rw [Nat.zero_add,Array.getElem?_toList]) h1 E g a w s hf hM λE' g' a' w' x1 x2 x3=>⟨E',g',x1,@FR.clr E' _ _ _ _ _ x2,x3,trivial⟩
   |true=>
    rw [@iW noE]at hc;rcases @d9 noE _ _ hc with hc|hb
    ·obtain⟨cl,h1,h2⟩:=bE.1 hc
     obtain⟨l,h3,h4⟩:=bE.1 h2;cases h4
    ·exact(ma k hb).elim
  |seq a b=>rw [@j9 noE]at hc;obtain⟨_,_,hc⟩:=bE.1 hc;obtain⟨_,_,hc⟩:=bE.1 hc;cases hc
  |cond o a b=>rw [@iY noE]at hc;obtain⟨_,_,hc⟩:=bE.1 hc;obtain⟨_,_,hc⟩:=bE.1 hc;obtain⟨_,_,hc⟩:=bE.1 hc;cases hc
  |block id a=>rw [@ie noE]at hc;obtain⟨_,_,hc⟩:=bE.1 hc;cases hc
  |loop a=>rw [@iX noE]at hc;obtain⟨_,_,hc⟩:=bE.1 hc;cases hc
  |rangeFunc f ps a b=>rw [@ic noE]at hc;obtain⟨_,_,hc⟩:=bE.1 hc;obtain⟨_,_,hc⟩:=bE.1 hc;obtain⟨_,_,hc⟩:=bE.1 hc;obtain⟨_,_,hc⟩:=bE.1 hc;cases hc
  |_=>(rw [comp]at hc<;>first|(intros;contradiction)|(cases hc;first|done|exact(ma k rfl).elim))
 |regD e hck=>
  intro c hc E g a w s hf hM;cases c with
  |region id ops d=>
   cases d with
   |true=>
    rw [@iW noE]at hc;rcases @d9 noE _ _ hc with hc|hb
    ·obtain⟨cl,h1,h2⟩:=bE.1 hc
     obtain⟨l,h3,h4⟩:=bE.1 h2;cases h4;refine @vV E P T m N call ops cl hT (hk E) hm id _ h1 h3 _ _ _ e hck g a w s.sit.wr s.sit.glob hf _ _ λg' a' w' x1 x2 x3=>⟨E,g',s.ext (fT.of (M:=noM) s.sit x1) λ_ _ q=>q,@FR.clr E _ _ _ _ _ x2,?_,trivial⟩
     rw [x3];exact hM.extX (fT.of (M:=noM) s.sit x1)
    ·unfold rP at hb;cases hb
   |false=>
    rw [@ka noE]at hc;rcases @d9 noE _ _ hc with hc|hb
    ·obtain⟨cl,h1,h2⟩:=bE.1 hc
     cases h2
    ·unfold rP at hb;cases hb
  |seq a b=>rw [@j9 noE]at hc;obtain⟨_,_,hc⟩:=bE.1 hc;obtain⟨_,_,hc⟩:=bE.1 hc;cases hc
  |cond o a b=>rw [@iY noE]at hc;obtain⟨_,_,hc⟩:=bE.1 hc;obtain⟨_,_,hc⟩:=bE.1 hc;obtain⟨_,_,hc⟩:=bE.1 hc;cases hc
  |block id a=>rw [@ie noE]at hc;obtain⟨_,_,hc⟩:=bE.1 hc;cases hc
  |loop a=>rw [@iX noE]at hc;obtain⟨_,_,hc⟩:=bE.1 hc;cases hc
  |rangeFunc f ps a b=>rw [@ic noE]at hc;obtain⟨_,_,hc⟩:=bE.1 hc;obtain⟨_,_,hc⟩:=bE.1 hc;obtain⟨_,_,hc⟩:=bE.1 hc;obtain⟨_,_,hc⟩:=bE.1 hc;cases hc
  |_=>(rw [comp]at hc<;>first|(intros;contradiction)|(cases hc;done))
 |regX hr hck hf0 hK=>
  intro c hc E g a w s hf hM;cases c with
  |region id ops d=>
   cases d with
   |true=>
    rw [@iW noE]at hc;rcases @d9 noE _ _ hc with hc|hb
    ·obtain⟨cl,h1,h2⟩:=bE.1 hc
     obtain⟨l,h3,h4⟩:=bE.1 h2;cases h4;refine CB hT hm h1 h3 hr hck s.sit hf hf0 λE' g' a' w' x1 x2 x3=>⟨E',g',s.ext x1 hK,@FR.clr E' _ _ _ _ _ x2,?_,trivial⟩
     rw [x3];exact hM.extX x1
    ·unfold rP at hb;cases hb
   |false=>
    rw [@ka noE]at hc;rcases @d9 noE _ _ hc with hc|hb
    ·obtain⟨cl,h1,h2⟩:=bE.1 hc
     cases h2
    ·unfold rP at hb;cases hb
  |seq a b=>rw [@j9 noE]at hc;obtain⟨_,_,hc⟩:=bE.1 hc;obtain⟨_,_,hc⟩:=bE.1 hc;cases hc
  |cond o a b=>rw [@iY noE]at hc;obtain⟨_,_,hc⟩:=bE.1 hc;obtain⟨_,_,hc⟩:=bE.1 hc;obtain⟨_,_,hc⟩:=bE.1 hc;cases hc
  |block id a=>rw [@ie noE]at hc;obtain⟨_,_,hc⟩:=bE.1 hc;cases hc
  |loop a=>rw [@iX noE]at hc;obtain⟨_,_,hc⟩:=bE.1 hc;cases hc
  |rangeFunc f ps a b=>rw [@ic noE]at hc;obtain⟨_,_,hc⟩:=bE.1 hc;obtain⟨_,_,hc⟩:=bE.1 hc;obtain⟨_,_,hc⟩:=bE.1 hc;obtain⟨_,_,hc⟩:=bE.1 hc;cases hc
  |_=>(rw [comp]at hc<;>first|(intros;contradiction)|(cases hc;done))
 |seq k1 k2 ih1 ih2=>
  intro c hc E g a w s hf hM;obtain⟨c1,c2,rfl,h1,h2⟩:=@fV noE _ _ _ _ _ hc;refine wpIn_seq (wpIn_mono (ih1 _ h1 E g a w s hf hM) ?_);rintro e a1 w1 ⟨E1,g1,y1,y2,y3,y4⟩;rw [@mF.norm_inv noE _ y4];exact ih2 _ h2 E1 g1 a1 w1 y1 y2 y3
 |seqX k1 hx ih=>
  intro c hc E g a w s hf hM;obtain⟨c1,c2,rfl,h1,h2⟩:=@fV noE _ _ _ _ _ hc;refine wpIn_seq (wpIn_mono (ih _ h1 E g a w s hf hM) ?_);rintro e a1 w1 ⟨E1,g1,y1,y2,y3,y4⟩;cases e with
  |normal=>rename_i x _ _;cases x<;>first|(cases y4;done)|exact absurd rfl hx
  |_=>exact⟨E1,g1,y1,y2,y3,y4⟩
 |cond e k ih=>
  intro c hc E g a w s hf hM;obtain⟨o',c1,c2,rfl,h0,h1,h2⟩:=@fV noE _ _ _ _ _ hc
  rename_i t
  refine wpIn_cond (@VR.bool_inv E _ _ _ (@qA E T _ g _ w s.sit.glob o' _ _ a _ h0 e λt _ v hv=>hf.2 t v hv)) ?_;cases t with
  |true=>exact ih _ h1 E g a w s hf hM
  |false=>exact ih _ h2 E g a w s hf hM
 |@block id cb f1 h1f x f1' h1' k ih=>
  intro c hc E g a w s hf hM;obtain⟨c1,rfl,h1⟩:=@fV noE _ _ _ _ _ hc;refine wpIn_block (wpIn_mono (ih _ h1 E g a w s hf hM) ?_);rintro e a1 w1 ⟨E1,g1,y1,y2,y3,y4⟩;cases x with
  |norm=>rw [@mF.norm_inv noE _ y4];exact⟨E1,g1,y1,y2,y3,trivial⟩
  |ret=>
   cases e<;>first|(cases y4;done)|skip
   exact⟨E1,g1,y1,y2,y3,trivial⟩
  |exit j=>
   cases e<;>first|(cases y4;done)|skip
   have y4:j=_:=y4;subst y4;show(if j=id then _ else _)
   by_cases q:j=id
   ·rw [if_pos q]
    exact⟨E1,g1,y1,y2,y3,by show mF (if j=id then _ else _) _;rw [if_pos q];trivial⟩
   ·rw [if_neg q]
    exact⟨E1,g1,y1,y2,y3,by show mF (if j=id then _ else _) _;rw [if_neg q];rfl⟩
 |loop I nx k i rnd more last ih=>
  intro c hc E g a w s hf hM;obtain⟨c1,rfl,h1⟩:=@fV noE _ _ _ _ _ hc;refine @nS noE P _ _ _ _ (λk a1 w1=>∃f1 h1 E1 g1,I k f1 h1/\Sx T K E0 g0 w0 E1 g1 h1 w1/\@FR E1 g1 m N f1 a1.tmps/\dZ [] g1 w1 w0.heap.size a1.defers) ?_ k _ _ ⟨_,_,E,g,i,s,hf,hM⟩;rintro k a1 w1 ⟨f1,h1',E1,g1,i1,x1,x2,x3⟩;refine wpIn_mono (ih k f1 h1' i1 _ h1 E1 g1 a1 w1 x1 x2 x3) ?_;rintro e a2 w2 ⟨E2,g2,y1,y2,y3,y4⟩;cases e with
  |normal=>
   have e0:(nx k f1 h1').1= .norm:=by cases q:(nx k f1 h1').1<;>rw [q]at y4<;>first|rfl|cases y4
   obtain⟨j,hj,ij⟩:=more k f1 h1' i1 e0;exact⟨j,hj,_,_,E2,g2,ij,y1,y2,y3⟩
  |_=>
   have e0:(nx k f1 h1').1≠.norm:=λq=>by rw [q]at y4;cases y4
   have e1:=last k f1 h1' i1 e0;rw [e1]at y1 y2 y4;exact⟨E2,g2,y1,y2,y3,y4⟩
 |view e k ih=>
  intro c hc E g a w s hf hM;obtain⟨E1,g1,s1,f1,q1⟩:=e m N E0 g0 w0 E g w a.tmps s hf;exact ih c hc E1 g1 a w s1 f1 (hM.of q1)
 |sem e=>
  intro c hc E g a w s hf hM;exact e _ _ _ _ _ c hc E g a w s hf hM
 |viewX k e ih=>
  intro c hc E g a w s hf hM;refine wpIn_mono (ih c hc E g a w s hf hM) ?_;rintro x1 a1 w1 ⟨E1,g1,y1,y2,y3,y4⟩;obtain⟨E2,g2,s2,f2,q2⟩:=e m N E0 g0 w0 E1 g1 w1 a1.tmps y1 y2;exact⟨E2,g2,s2,f2,y3.of q2,y4⟩
end
end
section
inductive bP:V->Prop
 |flat {v:V} (h:flat v=true):bP v
 |lst {n es:Nat} {cs:List V} (h:∀c,c∈cs->bP c):bP (.lst n es cs)
 |eptr {off:Nat} {cs:List V} (h:∀c,c∈cs->bP c):bP (.eptr cs off)
 |agg {cs:List V} (h:∀c,c∈cs->bP c):bP (.agg cs)
 |tup {cs:List V} (h:∀c,c∈cs->bP c):bP (.tup cs)
 |func {f:FuncId} {a b:List V} (ha:∀c,c∈a->bP c) (hb:∀c,c∈b->bP c):bP (.func (.func f) a b)
theorem fS.x{v:V}(h:fS v):bP v:=by
 induction h with
 |flat h=>exact .flat h
 |lst _ ih=>exact .lst ih
 |agg _ ih=>exact .agg ih
 |tup _ ih=>exact .tup ih
theorem bP.vr{E:En}{g g':G}{v:V}(hp:bP v):∀u,@VR E g v u->@VR E g' v u:=by
 induction hp with
 |flat h=>exact λu k=>@D1 E _ _ _ _ h k
 |lst _ ih=>
  intro u k;cases k with
  |lst hE hx h hl=>exact @VR.lst E _ _ _ _ _ _ _ _ _ hE hx h (@gP E _ _ _ _ ih hl)
  |lst0=>exact @VR.lst0 E _ _
  |lstz=>exact @VR.lstz E _ _ _ _
 |eptr _ ih=>
  intro u k;cases k with
  |eptr hE hx hl=>exact @VR.eptr E _ _ _ _ _ _ _ hE hx (@gP E _ _ _ _ ih hl)
 |agg _ ih=>intro u k;cases k with|agg h=>exact @VR.agg E _ _ _ (@gP E _ _ _ _ ih h)
 |tup _ ih=>intro u k;cases k with|tup h=>exact @VR.tup E _ _ _ (@gP E _ _ _ _ ih h)
 |func _ _ iha ihb=>intro u k;cases k with|func ha hb=>exact @VR.func E _ _ _ _ _ _ (@gP E _ _ _ _ iha ha) (@gP E _ _ _ _ ihb hb)
theorem bP.free{M:Nat->Prop}{v:V}(h:bP v):dg M v:=λ_ _ _ u _ k=>h.vr u k
mutual
inductive Rn(U:Nat->Prop)(ρ:Nat->Nat)(Z:Nat->Option (List V)):V->V->Prop
 |pure {v:V} (h:bP v):Rn U ρ Z v v
 |ptr {i off:Nat} (h:U i):Rn U ρ Z (.ptr i off) (.ptr (ρ i) off)
 |sl {i off len cap es:Nat} {ex:Bool} (h:U i):Rn U ρ Z (.sl i off len cap ex es) (.sl (ρ i) off len cap ex es)
 |map {i:Nat} (h:U i):Rn U ρ Z (.map i) (.map (ρ i))
 |func {f:FuncId} {a b a' b':List V} (ha:RnL U ρ Z a a') (hb:RnL U ρ Z b b'):Rn U ρ Z (.func (.func f) a b) (.func (.func f) a' b')
 |agg {a a':List V} (ha:RnL U ρ Z a a'):Rn U ρ Z (.agg a) (.agg a')
 |tup {a a':List V} (ha:RnL U ρ Z a a'):Rn U ρ Z (.tup a) (.tup a')
 |lst {n es:Nat} {a a':List V} (ha:RnL U ρ Z a a'):Rn U ρ Z (.lst n es a) (.lst n es a')
 |eptr {off:Nat} {a a':List V} (ha:RnL U ρ Z a a'):Rn U ρ Z (.eptr a off) (.eptr a' off)
 |fz {k off:Nat} {a a':List V} (hz:Z k=some a') (ha:RnL U ρ Z a a'):Rn U ρ Z (.eptr a off) (.ptr k off)
 |fzs {k len cap es:Nat} {ex:Bool} {a a':List V} (hz:Z k=some a') (hl:a'.length=len*es) (ha:RnL U ρ Z a a'):Rn U ρ Z (.lst len es a) (.sl k 0 len cap ex es)
 |nil0 {es:Nat} {a:List V} (hz:Z bR=some a):Rn U ρ Z (.lst 0 es []) .nils
inductive RnL(U:Nat->Prop)(ρ:Nat->Nat)(Z:Nat->Option (List V)):List V->List V->Prop
 |nil:RnL U ρ Z [] []
 |cons {v v':V} {a a':List V} (h:Rn U ρ Z v v') (t:RnL U ρ Z a a'):RnL U ρ Z (v ::a) (v' ::a')
end
section
variable {U:Nat->Prop} {ρ:Nat->Nat} {Z:Nat->Option (List V)}
theorem RnL.length:∀{a a':List V},RnL U ρ Z a a'->a.length=a'.length
 |_,_,.nil=>rfl
 |_,_,.cons _ t=>congrArg (·+1) (RnL.length t)
theorem RnL.pure:∀{a:List V},(∀c,c∈a->bP c)->RnL U ρ Z a a
 |[],_=>.nil
 |c ::_,h=>.cons (.pure (h c List.mem_cons_self)) (RnL.pure λx hx=>h x (List.mem_cons_of_mem _ hx))
theorem Rn.one{v v':V}(h:Rn U ρ Z v v')(k:cE v'=true):cE v=true:=by
 cases h<;>first|rfl|exact k|cases k
theorem lC{E:En}{g:G}{c:Array Value}:∀{cs:List V} {o:Nat},(∀j v,cs[j]? =some v->∃u,c[o+j]? =some u/\@VR E g v u)->∃xs,@VRs E g cs xs/\∀j u,xs[j]? =some u->c[o+j]? =some u
 |[],o,_=>⟨[],@VRs.nil E g,λj u e=>by simp at e⟩
 |v ::cs,o,h=>by
  obtain⟨u,h1,h2⟩:=h 0 v (by simp);obtain⟨xs,k1,k2⟩:=lC (cs:=cs) (o:=o+1) λj v e=>by
   obtain⟨u,q1,q2⟩:=h (j+1) v (by simpa using e);exact⟨u,by rw [show o+1+j=o+(j+1) by omega];exact q1,q2⟩
  refine⟨u ::xs,@VRs.cons E g _ _ _ _ h2 k1,λj y e=>?_⟩;cases j with
  |zero=>simp at e;subst e;exact h1
  |succ j=>rw [show o+(j+1)=o+1+j by omega];exact k2 j y (by simpa using e)
section
variable {E E':En} {g g':G} (hg:∀i x,U i->g (ρ i)=some x->g' i=some x) (hE:E.le E')
 (hz:∀k cs,Z k=some cs->∀b o z,g k=some (b,o,z)->∃c,E'.ro b=some c/\∀j v,cs[j]? =some v->∃u,c[o+j]? =some u/\@VR E g v u)
include hg hE hz
mutual
theorem Rn.vr:∀{v' v:V},Rn U ρ Z v' v->∀u,@VR E g v u->@VR E' g' v' u
 |_,_,.pure h,u,k=>(h.vr u k).env hE
 |_,_,.ptr h,u,k=>by cases k with|ptr e=>exact @VR.ptr E' g' _ _ _ _ _ (hg _ _ h e)
 |_,_,.sl h,u,k=>by
  cases k with
  |slx e=>exact @VR.slx E' g' _ _ _ _ _ _ _ _ (hg _ _ h e)
  |sli e a b=>exact @VR.sli E' g' _ _ _ _ _ _ _ _ _ (hg _ _ h e) a b
  |sl0 e a=>exact @VR.sl0 E' g' _ _ _ _ _ _ _ _ (hg _ _ h e) a
  |slx0 e=>exact @VR.slx0 E' g' _ _ _ _ _ _ _ (hg _ _ h e)
 |_,_,.map h,u,k=>by cases k with|map e=>exact @VR.map E' g' _ _ _ _ (hg _ _ h e)
 |_,_,.func ha hb,u,k=>by cases k with|func p q=>exact @VR.func E' g' _ _ _ _ _ (RnL.vr ha _ p) (RnL.vr hb _ q)
 |_,_,.agg ha,u,k=>by cases k with|agg p=>exact @VR.agg E' g' _ _ (RnL.vr ha _ p)
 |_,_,.tup ha,u,k=>by cases k with|tup p=>exact @VR.tup E' g' _ _ (RnL.vr ha _ p)
 |_,_,.lst ha,u,k=>by
  cases k with
  |lst e hx hl h=>exact @VR.lst E' g' _ _ _ _ _ _ _ _ (hE _ _ e) hx (by rw [RnL.length ha];exact hl) (RnL.vr ha _ h)
  |lst0=>cases ha;exact @VR.lst0 E' g' _
  |lstz=>cases ha;exact @VR.lstz E' g' _ _ _
 |_,_,.eptr ha,u,k=>by cases k with|eptr e hx h=>exact @VR.eptr E' g' _ _ _ _ _ _ (hE _ _ e) hx (RnL.vr ha _ h)
 |_,_,.fz hk ha,u,k=>by
  cases k with
  |ptr e=>
   obtain⟨c,q1,q2⟩:=hz _ _ hk _ _ _ e;obtain⟨xs,p1,p2⟩:=lC q2;exact @VR.eptr E' g' _ _ _ _ _ _ q1 p2 (RnL.vr ha _ p1)
 |_,_,.fzs hk hl ha,u,k=>by
  cases k with
  |slx e=>
   obtain⟨c,q1,q2⟩:=hz _ _ hk _ _ _ e;obtain⟨xs,p1,p2⟩:=lC q2;exact @VR.lst E' g' _ _ _ _ _ _ _ _ q1 p2 (by rw [RnL.length ha];exact hl) (RnL.vr ha _ p1)
  |sli e a b=>
   obtain⟨c,q1,q2⟩:=hz _ _ hk _ _ _ e;obtain⟨xs,p1,p2⟩:=lC q2;exact @VR.lst E' g' _ _ _ _ _ _ _ _ q1 p2 (by rw [RnL.length ha];exact hl) (RnL.vr ha _ p1)
  |sl0 e a=>
   obtain⟨c,q1,q2⟩:=hz _ _ hk _ _ _ e;obtain rfl:=List.length_eq_zero_iff.1 (hl.trans (Nat.zero_mul _));cases ha;exact @VR.lst E' g' _ _ _ _ _ c _ [] q1 (λj u e=>by simp at e) (by simp) (@VRs.nil E' g')
  |slx0 e=>
   obtain⟨c,q1,q2⟩:=hz _ _ hk _ _ _ e;obtain rfl:=List.length_eq_zero_iff.1 (hl.trans (Nat.zero_mul _));cases ha;exact @VR.lst E' g' _ _ _ _ _ c _ [] q1 (λj u e=>by simp at e) (by simp) (@VRs.nil E' g')
 |_,_,.nil0 _,u,k=>by cases k;exact @VR.lst0 E' g' _
theorem RnL.vr:∀{v' v:List V},RnL U ρ Z v' v->∀u,@VRs E g v u->@VRs E' g' v' u
 |_,_,.nil,u,k=>by
  have _a:=@hg;have _b:=@hE;have _c:=@hz;cases k;exact @VRs.nil E' g'
 |_,_,.cons h t,u,k=>by cases k with|cons p q=>exact @VRs.cons E' g' _ _ _ _ (Rn.vr h _ p) (RnL.vr t _ q)
end
end
end
noncomputable section
def trO(l:List (Option Blk)):Nat->Tr Blk->Tr Blk:=
 List.rec (motive:=λ_=>Nat->Tr Blk->Tr Blk) (λ_ t=>t) (λv _ ih i t=>ih (Nat.succ i) (t.put i v)) l
def g8(l:List (Option Blk)):H:=⟨trO l 0 .e,bY l⟩
end
theorem yv:∀(l:List (Option Blk)) (i:Nat) (t:Tr Blk) (j:Nat),i+l.length<=bR->(trO l i t).get j=if i<=j/\j<i+l.length then(l[j-i]?).join else t.get j
 |[],i,t,j,_=>by
  show t.get j=_;rw [if_neg (by simp only [List.length_nil];omega)]
 |v ::l,i,t,j,h=>by
  rw [List.length_cons]at h;show(trO l (i+1) (t.put i v)).get j=_;rw [yv l (i+1) _ j (by omega),Tr.get_put _ _ _ _ (by omega),List.length_cons]
  by_cases h1:j=i
  ·subst h1
   rw [if_neg (by omega),if_pos rfl,if_pos (by omega),Nat.sub_self];cases v<;>rfl
  ·rw [if_neg h1]
   by_cases h2:i<=j/\j<i+(l.length+1)
   ·rw [if_pos h2,if_pos (by omega),show j-i=(j-(i+1))+1 by omega,List.getElem?_cons_succ]
   ·rw [if_neg h2,if_neg (by omega)]
theorem zY{l:List (Option Blk)}(h:l.length<=bR)(i:Nat):(g8 l).blk i=(l[i]?).join:=by
 show(trO l 0 .e).get i=_;rw [yv l 0 _ i (by omega),Nat.sub_zero]
 by_cases q:i<l.length
 ·rw [if_pos (by omega)]
 ·rw [if_neg (by omega),List.getElem?_eq_none (by omega)]
  rfl
theorem ml(l:List (Option Blk)):(g8 l).next=l.length:=@bV noE _ l
theorem ff{l:List (Option Blk)}(h:l.length<=bR){i:Nat}{b:Blk}:(g8 l).blk i=some b↔l[i]? =some (some b):=by
 rw [zY h];cases l[i]? with
 |none=>simp
 |some o=>cases o<;>simp
def cL(l:List (Option Blk))(i:Nat):Prop:=∃b,l[i]? =some (some b)
inductive Bn(U:Nat->Prop)(ρ:Nat->Nat)(Z:Nat->Option (List V)):Blk->Blk->Prop
 |cells {n:Nat} {cs' cs:Tr V} {up:Option (Nat×Nat)} {ch:Bool} (h:∀j v',j<n->cs'.get j=some v'->∃v,cs.get j=some v/\Rn U ρ Z v' v):Bn U ρ Z (.cells n cs' none false) (.cells n cs up ch)
 |ro {n:Nat} {cs:Tr V} (h:∀j v,cs.get j=some v->bP v):Bn U ρ Z (.ro n cs) (.ro n cs)
 |map {es' es:List (V×V)} {o' o:Bool} (hk:RnL U ρ Z (es'.map (·.1)) (es.map (·.1))) (hv:RnL U ρ Z (es'.map (·.2)) (es.map (·.2))) (ho:o'=true->o=true):Bn U ρ Z (.map es' o') (.map es o)
 |siter {n c pos:Nat}:Bn U ρ Z (.siter n c pos) (.siter n c pos)
theorem Bn.live{U:Nat->Prop}{ρ:Nat->Nat}{Z:Nat->Option (List V)}{b B:Blk}(h:Bn U ρ Z b B):B.live=true/\b.live=true/\b.isRo=B.isRo/\(b.kin=none\/b.kin=some (none,false)):=by
 cases h
 ·exact⟨rfl,rfl,rfl,.inr rfl⟩
 ·exact⟨rfl,rfl,rfl,.inl rfl⟩
 ·exact⟨rfl,rfl,rfl,.inl rfl⟩
 ·exact⟨rfl,rfl,rfl,.inl rfl⟩
structure Vw(T:Ty)(h1:H)(l:List (Option Blk))(ρ:Nat->Nat)(Z:Nat->Option (List V)):Prop where
 len:l.length<=bR
 blk:∀i b',l[i]? =some (some b')->∃B,h1.blk (ρ i)=some B/\Bn (cL l) ρ Z b' B
 inj:∀i j,cL l i->cL l j->ρ i=ρ j->i=j
 up:∀i j d,cL l i->cL l j->¬Up h1 (ρ i) (ρ j) d
 fz:∀k cs,Z k=some cs->k<bR->∃t up ch,h1.blk k=some (.cells cs.length t up ch)/\∀j v,cs[j]? =some v->t.get j=some v
 fzu:∀k cs i,Z k=some cs->cL l i->ρ i≠k/\(∀d,¬Up h1 (ρ i) k d)/\∀d,¬Up h1 k (ρ i) d
 pin:∀p,p∈T.pin->ρ p.1=p.1/\l[p.1]? =some (some (.ro p.2.2.1 p.2.2.2))
open Classical in
theorem Vw.sit{T:Ty}{h1:H}{l:List (Option Blk)}{ρ:Nat->Nat}{Z:Nat->Option (List V)}(V:Vw T h1 l ρ Z){E:En}{g:G}{w:World}(s:Sit T E g h1 w):
  ∃(E':En) (g':G),E.le E'/\(∀b c,E'.ro b=some c->E.ro b=some c\/∃id o z,g id=some (b,o,z))/\((∀k,Z k=none)->E'=E)/\Sit T E' g' (g8 l) w/\(∀i,cL l i->g' i=g (ρ i))/\(∀i,¬cL l i->g' i=none)/\
   ∀v' v u,Rn (cL l) ρ Z v' v->@VR E g v u->@VR E' g' v' u:=by
 have r:=s.wr;have hkk:∀k x,g k=some x->k<bR:=λk x e=>Nat.lt_of_lt_of_le (@WR.dom E T g h1 w r _ _ e) (@WR.bound E T g h1 w r)
 let E':En:=⟨λb=>match E.ro b with
  |some c=>some c
  |none=>if ∃k cs o z,Z k=some cs/\g k=some (b,o,z)then(match w.heap[b]? with|some (.cells c _ _)=>some c | _=>none)else none⟩
 let g':G:=λi=>if cL l i then g (ρ i)else none
 have hE:E.le E':=λb c e=>by
  show(match E.ro b with|some c=>some c|none=>_)=some c;rw [e]
 have hg:∀i,cL l i->g' i=g (ρ i):=λi h=>if_pos h;have hn:∀i,¬cL l i->g' i=none:=λi h=>if_neg h;have hgs:∀i x,g' i=some x->cL l i/\g (ρ i)=some x:=λi x e=>by
  by_cases h:cL l i
  ·rw [hg i h]at e;exact⟨h,e⟩
  ·rw [hn i h]at e;cases e
 have hnew:∀b c,E'.ro b=some c->E.ro b=some c\/∃k cs o z t,Z k=some cs/\g k=some (b,o,z)/\w.heap[b]? =some (.cells c t (0,0)):=by
  intro b c e;have e:(match E.ro b with|some c=>some c|none=>if ∃k cs o z,Z k=some cs/\g k=some (b,o,z)then(match w.heap[b]? with|some (.cells c _ _)=>some c | _=>none)else none)=some c:=e;cases e0:E.ro b with
  |some c'=>rw [e0]at e;exact .inl e
  |none=>
   rw [e0]at e;have e:(if ∃k cs o z,Z k=some cs/\g k=some (b,o,z)then(match w.heap[b]? with|some (.cells c _ _)=>some c | _=>none)else none)=some c:=e
   by_cases q:∃k cs o z,Z k=some cs/\g k=some (b,o,z)
   ·rw [if_pos q]at e
    obtain⟨k,cs,o,z,q1,q2⟩:=q;obtain⟨t,up,ch,p1,p2⟩:=V.fz k cs q1 (hkk k _ q2);obtain⟨b',o',z',c',ty,k1,k2,_⟩:=(@WR.blk E T g h1 w r k _ _ q2 p1:@Cells E g w k _ t)
    rw [q2]at k1;cases k1;rw [k2]at e;cases e;exact .inr ⟨k,cs,o,z,ty,q1,q2,k2⟩
   ·rw [if_neg q]at e;cases e
 have hz:∀k cs,Z k=some cs->∀b o z,g k=some (b,o,z)->∃c,E'.ro b=some c/\∀j v,cs[j]? =some v->∃u,c[o+j]? =some u/\@VR E g v u:=by
  intro k cs hk b o z hgk;obtain⟨t,up,ch,p1,p2⟩:=V.fz k cs hk (hkk k _ hgk);obtain⟨b',o',z',c,ty,k1,k2,k3,k4,k5,k6⟩:=(@WR.blk E T g h1 w r k _ _ hgk p1:@Cells E g w k _ t)
  rw [hgk]at k1;cases k1;refine⟨c,?_,λj v e=>?_⟩
  ·show(match E.ro b with|some c=>some c|none=>if ∃k cs o z,Z k=some cs/\g k=some (b,o,z)then(match w.heap[b]? with|some (.cells c _ _)=>some c | _=>none)else none)=some c
   cases e0:E.ro b with
   |some c'=>exact absurd hgk ((s.env e0).2 k o z)
   |none=>
    show(if ∃k cs o z,Z k=some cs/\g k=some (b,o,z)then _ else none)=_;rw [if_pos ⟨k,cs,o,z,hk,hgk⟩,k2]
  ·obtain⟨u,m1,m2,_⟩:=k6 j v (List.getElem?_eq_some_iff.1 e).1 (p2 j v e)
   exact⟨u,m1,m2⟩
 have tr:∀v' v u,Rn (cL l) ρ Z v' v->@VR E g v u->@VR E' g' v' u:=λv' v u h k=>Rn.vr (λi x hi e=>(hg i hi).trans e) hE hz h u k;have trL:∀v' v u,RnL (cL l) ρ Z v' v->@VRs E g v u->@VRs E' g' v' u:=λv' v u h k=>RnL.vr (λi x hi e=>(hg i hi).trans e) hE hz h u k;have lone:∀{i:Nat} {b:Blk},(g8 l).blk i=some b->b.kin=none\/b.kin=some (none,false):=λ{i b} e=>by
  obtain⟨B,_,k⟩:=V.blk i b ((ff V.len).1 e);exact k.live.2.2.2
 have wr:@WR E' T g' (g8 l) w:=by
  refine @WR.mk E' T g' (g8 l) w (by rw [ml];exact V.len) (λid b e=>?_) (λid x e=>?_) (λid b o z e=>?_) (λid x b e1 e2=>?_) (λi j b o z o' z' bi bj hij e1 e2 e3 e4 l1 l2=>?_) (λi b j d ch e1 e2=>?_) (λi b j d ch b' e1 e2 _=>?_)
  ·rw [ml]
   exact(List.getElem?_eq_some_iff.1 ((ff V.len).1 e)).1
  ·obtain⟨⟨b,hb⟩,_⟩:=hgs _ _ e
   rw [ml];exact(List.getElem?_eq_some_iff.1 hb).1
  ·exact s.lt (hgs _ _ e).2
  ·obtain⟨hu,e1⟩:=hgs _ _ e1
   obtain⟨B,k1,k2⟩:=V.blk id b ((ff V.len).1 e2);have hb:=@WR.blk E T g h1 w r _ _ _ e1 k1;cases k2 with
   |cells h=>
    obtain⟨b,o,z,c,t,q1,q2,q3,q4,q5,q6⟩:=(hb:@Cells E g w _ _ _)
    refine⟨b,o,z,c,t,(hg id hu).trans q1,q2,q3,q4,q5,λj v' hj hv=>?_⟩;obtain⟨v,m1,m2⟩:=h j v' hj hv;obtain⟨u,n1,n2,n3⟩:=q6 j v hj m1;exact⟨u,n1,tr _ _ _ m2 n2,m2.one n3⟩
   |ro h=>
    obtain⟨b,o,z,c,t,q1,q2,q3,q4,q5,q6⟩:=(hb:@Cells E g w _ _ _)
    refine⟨b,o,z,c,t,(hg id hu).trans q1,q2,q3,q4,q5,λj v hj hv=>?_⟩;obtain⟨u,n1,n2,n3⟩:=q6 j v hj hv;exact⟨u,n1,tr _ _ _ (.pure (h j v hv)) n2,n3⟩
   |map hk hv ho=>
    obtain⟨b,o,z,m,q,q1,q2,q3,q4⟩:=hb;exact⟨b,o,z,m,q,(hg id hu).trans q1,q2,⟨trL _ _ _ hk q3.1,trL _ _ _ hv q3.2⟩,q4.1,λh=>q4.2 (ho h)⟩
   |siter=>
    obtain⟨b,o,z,s,q1,q2⟩:=hb;exact⟨b,o,z,s,(hg id hu).trans q1,q2⟩
  ·obtain⟨ui,e1⟩:=hgs _ _ e1
   obtain⟨uj,e2⟩:=hgs _ _ e2;obtain⟨Bi,k1,k2⟩:=V.blk i bi ((ff V.len).1 e3);obtain⟨Bj,k3,k4⟩:=V.blk j bj ((ff V.len).1 e4);rcases @WR.mates E T g h1 w r (ρ i) (ρ j) b o z o' z' Bi Bj (λq=>hij (V.inj i j ui uj q)) e1 e2 k1 k3 k2.live.1 k4.live.1 with⟨d,u,_⟩ | ⟨d,u,_⟩ | ⟨q1,q2⟩
   ·exact absurd u (V.up i j d ui uj)
   ·exact absurd u (V.up j i d uj ui)
   ·exact .inr (.inr ⟨k2.live.2.2.1.trans q1,k4.live.2.2.1.trans q2⟩)
  ·rcases lone e1 with q|q<;>rw [q]at e2<;>cases e2
  ·rcases lone e1 with q|q<;>rw [q]at e2<;>cases e2
 refine⟨E',g',hE,λb c e=>?_,λhZ=>?_,Sit.mk' wr (λp hp=>?_) (λb c e=>?_),hg,hn,tr⟩
 ·rcases hnew b c e with k | ⟨k,cs,o,z,t,_,k2,_⟩
  ·exact .inl k
  ·exact .inr ⟨k,o,z,k2⟩
 ·show(⟨_⟩:Env)=E
  have:(λb=>match E.ro b with
   |some c=>some c
   |none=>if ∃k cs o z,Z k=some cs/\g k=some (b,o,z)then(match w.heap[b]? with|some (.cells c _ _)=>some c | _=>none)else none)=E.ro:=by
   funext b
   cases E.ro b with
   |some c=>rfl
   |none=>exact if_neg λ⟨k,cs,o,z,q,_⟩=>by rw [hZ k]at q;cases q
  exact congrArg Env.mk this
 ·obtain⟨k1,k2⟩:=V.pin p hp
  obtain⟨⟨z,m1⟩,m2⟩:=s.pin p hp;exact⟨⟨z,by rw [hg _ ⟨_,k2⟩,k1];exact m1⟩,(ff V.len).2 k2⟩
 ·rcases hnew b c e with k | ⟨k,cs,o,z,t,k1,k2,k3⟩
  ·exact⟨(s.env k).1,λid o z q=>(s.env k).2 _ _ _ (hgs _ _ q).2⟩
  ·refine⟨⟨(t,0,0),k3⟩,λid o' z' q=>?_⟩
   obtain⟨hu,q⟩:=hgs _ _ q;obtain⟨t,up,ch,p1,p2⟩:=V.fz k cs k1 (hkk k _ k2);obtain⟨n1,n2,n3⟩:=V.fzu k cs id k1 hu;have hu':=hu;obtain⟨bb,hbb⟩:=hu';obtain⟨B,m1,m2⟩:=V.blk id bb hbb;rcases @WR.mates E T g h1 w r (ρ id) k b o' z' o z B _ n1 q k2 m1 p1 m2.live.1 rfl with⟨d,u,_⟩ | ⟨d,u,_⟩ | ⟨_,q2⟩
   ·exact n2 d u
   ·exact n3 d u
   ·cases q2
end
end Ev
end Go.Proofs.YtdfphfdnoobikaaGreatDoor
