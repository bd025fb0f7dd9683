/-
  Tries;what it means that an abstract value and memory stand for the model's.
-/
import Derived.Test.YtdfphfdnoobikaaGreatDoorEvDef
import Derived.Laws.World
import Derived.Control
namespace Go.Proofs.YtdfphfdnoobikaaGreatDoor
namespace Ev
section
theorem Tr.getP_e{α:Type}(p:Nat):(Tr.e:Tr α).getP p=none:=rfl
theorem Tr.getP_n{α:Type}(l:Tr α)(v:Option α)(r:Tr α)(p:Nat):(Tr.n l v r).getP p=if p=1 then v else if p%2=1 then r.getP (p/2)else l.getP (p/2):=by
 show Bool.rec (motive:=λ_=>Option α) (Bool.rec (motive:=λ_=>Option α) (l.getP (p/2)) (r.getP (p/2)) (Nat.beq (p%2) 1)) v (Nat.beq p 1)=_;simp only [cO,Nat.beq_eq]
theorem Tr.getP_parts{α:Type}(t:Tr α)(p:Nat):t.getP p=if p=1 then t.val else if p%2=1 then t.right.getP (p/2)else t.left.getP (p/2):=by
 cases t with
 |e=>simp [Tr.val,Tr.left,Tr.right,Tr.getP_e]
 |n l v r=>exact Tr.getP_n l v r p
theorem Tr.setF_succ{α:Type}(x:Option α)(f:Nat)(t:Tr α)(p:Nat):Tr.setF x (f+1) t p=
  if p=1 then .n t.left x t.right else if p%2=1 then .n t.left t.val (Tr.setF x f t.right (p/2))else .n (Tr.setF x f t.left (p/2)) t.val t.right:=by
 cases t with
 |e=>
  show Bool.rec (motive:=λ_=>Tr α) (Bool.rec (motive:=λ_=>Tr α) (.n (Tr.setF x f .e (p/2)) none .e) (.n .e none (Tr.setF x f .e (p/2))) (Nat.beq (p%2) 1)) (.n .e x .e) (Nat.beq p 1)=_;simp only [cO,Nat.beq_eq];rfl
 |n l v r=>
  show Bool.rec (motive:=λ_=>Tr α) (Bool.rec (motive:=λ_=>Tr α) (.n (Tr.setF x f l (p/2)) v r) (.n l v (Tr.setF x f r (p/2))) (Nat.beq (p%2) 1)) (.n l x r) (Nat.beq p 1)=_;simp only [cO,Nat.beq_eq];rfl
theorem Tr.getP_setF{α:Type}(x:Option α):∀(f:Nat) (t:Tr α) (p q:Nat),1<=p->p<2 ^ f->1<=q->(Tr.setF x f t p).getP q=if q=p then x else t.getP q:=by
 intro f
 induction f with
 |zero=>intro t p q h1 h2 _;omega
 |succ f ih=>
  intro t p q h1 h2 b;rw [Tr.setF_succ,Tr.getP_parts t q];have a:p<2 ^ f*2:=by rw [<-Nat.pow_succ];exact h2
  by_cases p1:p=1
  ·rw [if_pos p1,Tr.getP_n]
   by_cases q1:q=1
   ·simp [q1,p1]
   ·have:¬q=p:=by omega
    simp [q1,this]
  ·rw [if_neg p1]
   by_cases po:p%2=1
   ·rw [if_pos po,Tr.getP_n]
    by_cases q1:q=1
    ·have:¬q=p:=by omega
     simp [q1];omega
    ·by_cases qo:q%2=1
     ·rw [ih t.right (p/2) (q/2) (by omega) (by omega) (by omega)]
      by_cases e:q=p
      ·subst e
       simp [q1,qo]
      ·have:¬q/2=p/2:=by omega
       simp [q1,qo,e,this]
     ·have:¬q=p:=λe=>qo (e▸po)
      simp [q1,qo,this]
   ·rw [if_neg po,Tr.getP_n]
    by_cases q1:q=1
    ·have:¬q=p:=by omega
     simp [q1];omega
    ·by_cases qo:q%2=1
     ·have:¬q=p:=λe=>po (e▸qo)
      simp [q1,qo,this]
     ·rw [ih t.left (p/2) (q/2) (by omega) (by omega) (by omega)]
      by_cases e:q=p
      ·subst e
       simp [q1,qo]
      ·have:¬q/2=p/2:=by omega
       simp [q1,qo,e,this]
theorem Tr.get_put{α:Type}(t:Tr α)(k j:Nat)(x:Option α)(a:k<bZ):(t.put k x).get j=if j=k then x else t.get j:=by
 unfold Tr.get Tr.put;rw [Tr.getP_setF x 30 t _ _ (by omega) (by unfold bZ at a;omega) (by omega)];simp only [Nat.succ.injEq]
abbrev G:=Nat->Option (Nat×Nat×Nat)
def G.le(g g':G):Prop:=∀id x,g id=some x->g' id=some x
theorem G.le_refl(g:G):g.le g:=λ_ _ h=>h
theorem G.le_trans{a b c:G}(h:a.le b)(k:b.le c):a.le c:=λid x e=>k id x (h id x e)
class Env where
 ro:Nat->Option (Array Value)
variable [Env]
set_option linter.unusedSectionVars false
mutual
inductive VR(g:G):V->Value->Prop
 |bool (b:Bool):VR g (.bool b) (.bool b)
 |int (k:IntKind) (n:Int):VR g (.int k n) (.int k n)
 |str (s:ByteArray):VR g (.str s.size (ck s.data.toList)) (.string s)
 |nilp:VR g .nilp (.pointer none)
 |ptr {id off b o z:Nat} (h:g id=some (b,o,z)):VR g (.ptr id off) (.pointer (some ⟨b,o+off,none⟩))
 |nils:VR g .nils (.slice none 0 0)
 |slx {id off len cap es b o z:Nat} (h:g id=some (b,o,z)):VR g (.sl id off len cap true es) (.slice (some ⟨b,o+off,none⟩) len cap)
 |sli {id off len cap es b o z c:Nat} (h:g id=some (b,o,z)) (hc:off+c*es=z) (hl:len<=c):VR g (.sl id off len cap false es) (.slice (some ⟨b,o+off,none⟩) len c)
 |sl0 {id off cap es b o z p:Nat} (h:g id=some (b,o,z)) (hz:z<=off):VR g (.sl id off 0 cap false es) (.slice (some ⟨b,p,none⟩) 0 0)
 |slx0 {id off es b o z p:Nat} (h:g id=some (b,o,z)):VR g (.sl id off 0 0 true es) (.slice (some ⟨b,p,none⟩) 0 0)
 |nilm:VR g .nilm (.map none)
 |map {id b o z:Nat} (h:g id=some (b,o,z)):VR g (.map id) (.map (some b))
 |func {f:FuncId} {a b:List V} {x y:List Value} (ha:VRs g a x) (hb:VRs g b y):VR g (.func (.func f) a b) (.func (.func f) x.toArray y.toArray)
 |yld {id b o z:Nat} (h:g id=some (b,o,z)):VR g (.yld id) (.func (.yield b) #[] #[])
 |nilf:VR g .nilf .nilFunc
 |iface {t:TypeId} {v:V} {u:Value} (h:VR g v u):VR g (.iface t v) (.iface t u)
 |nili:VR g .nili .nilIface
 |agg {a:List V} {x:List Value} (h:VRs g a x):VR g (.agg a) (.agg x.toArray)
 |tup {a:List V} {x:List Value} (h:VRs g a x):VR g (.tup a) (.tuple x.toArray)
 |lst {n es b o cap:Nat} {c:Array Value} {cells:List V} {xs:List Value} (hE:Env.ro b=some c) (hx:∀j u,xs[j]? =some u->c[o+j]? =some u) (hl:cells.length=n*es) (h:VRs g cells xs):VR g (.lst n es cells) (.slice (some ⟨b,o,none⟩) n cap)
 |lst0 {es:Nat}:VR g (.lst 0 es []) (.slice none 0 0)
 |lstz {es cap:Nat} {a:Addr}:VR g (.lst 0 es []) (.slice (some a) 0 cap)
 |eptr {b o off:Nat} {c:Array Value} {cells:List V} {xs:List Value} (hE:Env.ro b=some c) (hx:∀j u,xs[j]? =some u->c[o+j]? =some u) (h:VRs g cells xs):VR g (.eptr cells off) (.pointer (some ⟨b,o+off,none⟩))
inductive VRs(g:G):List V->List Value->Prop
 |nil:VRs g [] []
 |cons {v:V} {u:Value} {a:List V} {x:List Value} (h:VR g v u) (t:VRs g a x):VRs g (v ::a) (u ::x)
end
mutual
theorem VR.mono{g g':G}(hg:g.le g'):∀{v:V} {u:Value},VR g v u->VR g' v u
 |_,_,.bool b=>.bool b
 |_,_,.int k n=>.int k n
 |_,_,.str s=>.str s
 |_,_,.nilp=>.nilp
 |_,_,.ptr h=>.ptr (hg _ _ h)
 |_,_,.nils=>.nils
 |_,_,.slx h=>.slx (hg _ _ h)
 |_,_,.sli h hc hl=>.sli (hg _ _ h) hc hl
 |_,_,.sl0 h hz=>.sl0 (hg _ _ h) hz
 |_,_,.slx0 h=>.slx0 (hg _ _ h)
 |_,_,.nilm=>.nilm
 |_,_,.map h=>.map (hg _ _ h)
 |_,_,.func ha hb=>.func (VRs.mono hg ha) (VRs.mono hg hb)
 |_,_,.yld h=>.yld (hg _ _ h)
 |_,_,.nilf=>.nilf
 |_,_,.iface h=>.iface (VR.mono hg h)
 |_,_,.nili=>.nili
 |_,_,.agg h=>.agg (VRs.mono hg h)
 |_,_,.tup h=>.tup (VRs.mono hg h)
 |_,_,.lst hE hx hl h=>.lst hE hx hl (VRs.mono hg h)
 |_,_,.lst0=>.lst0
 |_,_,.lstz=>.lstz
 |_,_,.eptr hE hx h=>.eptr hE hx (VRs.mono hg h)
theorem VRs.mono{g g':G}(hg:g.le g'):∀{v:List V} {u:List Value},VRs g v u->VRs g' v u
 |_,_,.nil=>.nil
 |_,_,.cons h t=>.cons (VR.mono hg h) (VRs.mono hg t)
end
theorem VRs.length{g:G}:∀{a:List V} {x:List Value},VRs g a x->a.length=x.length
 |_,_,.nil=>rfl
 |_,_,.cons _ t=>by simp [VRs.length t]
theorem VRs.append{g:G}:∀{a b:List V} {x y:List Value},VRs g a x->VRs g b y->VRs g (a++b) (x++y)
 |_,_,_,_,.nil,k=>k
 |_,_,_,_,.cons h t,k=>.cons h (VRs.append t k)
theorem VRs.get{g:G}:∀{a:List V} {x:List Value} {i:Nat} {v:V},VRs g a x->a[i]? =some v->∃u,x[i]? =some u/\VR g v u
 |_,_,_,_,.nil,h=>by simp at h
 |_,_,0,_,.cons h _,e=>by simp at e;subst e;exact⟨_,rfl,h⟩
 |_,_,i+1,_,.cons _ t,e=>by
  obtain⟨u,h1,h2⟩:=VRs.get (i:=i) t (by simpa using e);exact⟨u,by simpa using h1,h2⟩
theorem cq{α:Type}(l:List α):cD l=l.length:=by
 induction l with
 |nil=>rfl
 |cons a l ih=>show Nat.succ (cD l)=_;rw [ih];rfl
noncomputable def rdn(m:Nat)(f:F)(t:Nat):Option V:=if bit m t=true then lk f.loc t else lk f.tmp t
def FR(g:G)(m N:Nat)(f:F)(tmps:Array Value):Prop:=tmps.size=N/\∀t v,rdn m f t=some v->∃u,tmps[t]? =some u/\VR g v u
theorem FR.mono{g g':G}(hg:g.le g'){m N:Nat}{f:F}{tmps:Array Value}(h:FR g m N f tmps):FR g' m N f tmps:=
 ⟨h.1,λt v e=>let⟨u,h1,h2⟩:=h.2 t v e;⟨u,h1,h2.mono hg⟩⟩
def qT(g:G)(es:List (V×V))(m:List MapEntry):Prop:=VRs g (es.map (·.1)) (m.map (·.key))/\VRs g (es.map (·.2)) (m.map (·.val))
theorem qT.mono{g g':G}(hg:g.le g'){es:List (V×V)}{m:List MapEntry}(h:qT g es m):qT g' es m:=⟨h.1.mono hg,h.2.mono hg⟩
def mZ(m:List MapEntry)(k:Nat):Prop:=k=m.length/\∀(i:Nat) (e:MapEntry),m[i]? =some e->e.born=i
theorem mZ.nil:mZ [] 0:=⟨rfl,λi e h=>by simp at h⟩
theorem mZ.push{m:List MapEntry}{k:Nat}(h:mZ m k){e:MapEntry}(b:e.born=k):mZ (m++[e]) (k+1):=by
 refine⟨by simp [h.1],λi x a=>?_⟩
 by_cases hi:i<m.length
 ·rw [List.getElem?_append_left hi]at a;exact h.2 i x a
 ·rw [List.getElem?_append_right (by omega)]at a
  have:i-m.length=0:=by
   rcases Nat.eq_zero_or_pos (i-m.length)with h0|h0
   ·exact h0
   ·rw [List.getElem?_eq_none (by simp only [List.length_cons,List.length_nil];omega)]at a;cases a
  rw [this]at a;simp at a;subst a;rw [b,h.1];omega
theorem mZ.set{m:List MapEntry}{k:Nat}(h:mZ m k){j:Nat}{e b:MapEntry}(h1:m[j]? =some e)(h2:b.born=e.born):mZ (m.set j b) k:=by
 refine⟨by simp [h.1],λi x a=>?_⟩;rw [List.getElem?_set]at a
 by_cases hj:j=i
 ·subst hj
  have c:j<m.length:=by
   rcases Nat.lt_or_ge j m.length with q|q
   ·exact q
   ·rw [List.getElem?_eq_none q]at h1;cases h1
  simp [c]at a;subst a;rw [h2];exact h.2 _ _ h1
 ·simp only [if_neg hj]at a
  exact h.2 i x a
def Bd(m:List MapEntry)(k:Nat):Prop:=(∀e,e∈m->e.born<k)/\(m.map (·.born)).Nodup
theorem Bd.push{m:List MapEntry}{k:Nat}(h:Bd m k){e:MapEntry}(g:e.born=k):Bd (m++[e]) (k+1):=by
 refine⟨λx c=>?_,?_⟩
 ·rcases List.mem_append.1 c with q|q
  ·exact Nat.lt_succ_of_lt (h.1 x q)
  ·rw [List.mem_singleton.1 q,g]
   exact Nat.lt_succ_self k
 ·rw [List.map_append,List.nodup_append]
  refine⟨h.2,by simp,λa f b d i=>?_⟩;obtain⟨x,c,rfl⟩:=List.mem_map.1 f;have:=h.1 x c;have d:b=e.born:=by simpa using d
  omega
theorem Bd.set{m:List MapEntry}{k:Nat}(h:Bd m k){j:Nat}{e b:MapEntry}(h1:m[j]? =some e)(h2:b.born=e.born):Bd (m.set j b) k:=by
 have a:(m.set j b).map (·.born)=m.map (·.born):=by
  rw [List.map_set,h2];refine List.ext_getElem? λi=>?_;rw [List.getElem?_set]
  split
  ·rename_i q
   subst q
   split
   ·rw [List.getElem?_map,h1];rfl
   ·rename_i q
    rw [List.getElem?_eq_none (by omega)]
  ·rfl
 refine⟨λx d=>?_,by rw [a];exact h.2⟩;have:x.born∈(m.set j b).map (·.born):=List.mem_map.2 ⟨x,d,rfl⟩;rw [a]at this;obtain⟨y,c,q⟩:=List.mem_map.1 this;have:=h.1 y c;have q:y.born=x.born:=q;omega
theorem Bd.erase{m:List MapEntry}{k:Nat}(h:Bd m k)(j:Nat):Bd (m.eraseIdx j) k:=by
 refine⟨λx a=>h.1 x (List.mem_of_mem_eraseIdx a),?_⟩;exact((List.eraseIdx_sublist m j).map (·.born)).nodup h.2
theorem mZ.dst{m:List MapEntry}{k:Nat}(h:mZ m k):Bd m k:=by
 refine⟨λe a=>?_,?_⟩
 ·obtain⟨i,hi⟩:=List.mem_iff_getElem?.1 a
  rw [h.2 i e hi,h.1];exact(List.getElem?_eq_some_iff.1 hi).1
 ·have:m.map (·.born)=List.range m.length:=by
   refine List.ext_getElem? λi=>?_;rw [List.getElem?_map];cases hi:m[i]? with
   |none=>
    rw [List.getElem?_eq_none (by simpa using List.getElem?_eq_none_iff.1 hi)];rfl
   |some e=>
    rw [List.getElem?_range (List.getElem?_eq_some_iff.1 hi).1];show some e.born=_;rw [h.2 i e hi]
  rw [this];exact List.nodup_range
def B9(ord:Bool)(m:List MapEntry)(k:Nat):Prop:=Bd m k/\(ord=true->mZ m k)
theorem mZ.o{ord:Bool}{m:List MapEntry}{k:Nat}(h:mZ m k):B9 ord m k:=⟨h.dst,λ_=>h⟩
def Io:LoopState->Nat
 |.ready=>0
 |.busy=>1
 |.done=>2
 |.exhausted=>3
def EH:Option X->Option (Option Code)
 |none=>some none
 |some (.exit k)=>some (some (.exit k))
 |some .ret=>some (some .ret)
 |some .norm=>none
def Cells(g:G)(w:World)(id n:Nat)(cs:Tr V):Prop:=
 ∃b o z c t,g id=some (b,o,z)/\w.heap[b]? =some (.cells c t (0,0))/\c.size=o+z/\n<=z/\n<=bZ/\
  ∀j v,j<n->cs.get j=some v->∃u,c[o+j]? =some u/\VR g v u/\cQ v=true
def StM(st:Option (List Nat×Nat))(since:Nat)(seen:Array Nat)(last:Nat):Prop:=
 match st with
 |none=>seen=#[]
 |some (l,n)=>seen=l.toArray/\since=n/\last=n
def BR(T:Ty)(g:G)(w:World)(id:Nat):Blk->Prop
 |.cells n cs _ _=>Cells g w id n cs
 |.ro n cs=>Cells g w id n cs
 |.map es ord=>∃b o z m k,g id=some (b,o,z)/\w.heap[b]? =some (.map m k)/\qT g es m.toList/\B9 ord m.toList k
 |.siter n c pos=>∃b o z s,g id=some (b,o,z)/\w.heap[b]? =some (.stringIter s pos)/\s.size=n/\ck s.data.toList=c/\o=0
 |.loop st f ps assign body j=>∃b o z l m N,g id=some (b,o,z)/\w.heap[b]? =some (.loop l)/\Io l.state=st/\EH j=some l.pending/\FR g m N f l.tmps/\
   gU (λt=>dst m N (some t)) l.params.toList=some ps/\eu T m N l.assign=some assign/\eu T m N l.body=some body
 |.dead=>True
 |.miter m st=>∃b z bm om zm since seen last,g id=some (b,0,z)/\g m=some (bm,om,zm)/\w.heap[b]? =some (.mapIter (some bm) since seen last)/\StM st since seen last
theorem Cells.mono{g g':G}(hg:g.le g'){w:World}{id n:Nat}{cs:Tr V}(h:Cells g w id n cs):Cells g' w id n cs:=by
 obtain⟨b,o,z,c,t,h1,h2,e,i,p,a⟩:=h;refine⟨b,o,z,c,t,hg _ _ h1,h2,e,i,p,λj v k l=>?_⟩;obtain⟨u,m,d,f⟩:=a j v k l;exact⟨u,m,d.mono hg,f⟩
theorem BR.mono{T:Ty}{g g':G}(hg:g.le g'){w:World}{id:Nat}{b:Blk}(h:BR T g w id b):BR T g' w id b:=by
 cases b with
 |cells=>exact Cells.mono hg h
 |ro=>exact Cells.mono hg h
 |map es=>obtain⟨b,o,z,m,k,h1,h2,a,c⟩:=h;exact⟨b,o,z,m,k,hg _ _ h1,h2,a.mono hg,c⟩
 |siter=>obtain⟨b,o,z,s,h1,h2⟩:=h;exact⟨b,o,z,s,hg _ _ h1,h2⟩
 |loop=>obtain⟨b,o,z,l,m,N,h1,h2,a,c,j,d⟩:=h;exact⟨b,o,z,l,m,N,hg _ _ h1,h2,a,c,j.mono hg,d⟩
 |dead=>trivial
 |miter m=>obtain⟨b,z,i,e,f,s,sn,l,h1,h2,a⟩:=h;exact⟨b,z,i,e,f,s,sn,l,hg _ _ h1,hg _ _ h2,a⟩
theorem BR.move{T:Ty}{g:G}{w w':World}{id b o z:Nat}{k:Blk}(hg:g id=some (b,o,z))(e:w'.heap[b]? =w.heap[b]?)(h:BR T g w id k):BR T g w' id k:=by
 cases k with
 |cells|ro=>
  obtain⟨d,o',a,c,t,h1,h2⟩:=h;obtain⟨rfl,rfl,rfl⟩:b=d/\o=o'/\z=a:=by rw [hg]at h1;simpa using h1
  exact⟨b,o,z,c,t,h1,e.trans h2.1,h2.2⟩
 |map=>
  obtain⟨d,o',a,m,c,h1,h2⟩:=h;obtain⟨rfl,rfl,rfl⟩:b=d/\o=o'/\z=a:=by rw [hg]at h1;simpa using h1
  exact⟨b,o,z,m,c,h1,e.trans h2.1,h2.2⟩
 |siter=>
  obtain⟨d,o',a,s,h1,h2⟩:=h;obtain⟨rfl,rfl,rfl⟩:b=d/\o=o'/\z=a:=by rw [hg]at h1;simpa using h1
  exact⟨b,o,z,s,h1,e.trans h2.1,h2.2⟩
 |loop=>
  obtain⟨d,o',a,l,m,N,h1,h2⟩:=h;obtain⟨rfl,rfl,rfl⟩:b=d/\o=o'/\z=a:=by rw [hg]at h1;simpa using h1
  exact⟨b,o,z,l,m,N,h1,e.trans h2.1,h2.2⟩
 |dead=>trivial
 |miter=>
  obtain⟨d,a,n,i,j,s,sn,l,h1,h2,f⟩:=h;obtain⟨rfl,rfl,rfl⟩:b=d/\o=0/\z=a:=by rw [hg]at h1;simpa using h1
  exact⟨b,z,n,i,j,s,sn,l,hg,h2,e.trans f.1,f.2⟩
def Blk.kin:Blk->Option (Option (Nat×Nat)×Bool)
 |.cells _ _ up ch=>some (up,ch)
 |_=>none
inductive Up(h:H):Nat->Nat->Nat->Prop
 |one {i j d:Nat} {b:Blk} {ch:Bool} (e:h.blk i=some b) (k:b.kin=some (some (j,d),ch)):Up h i j d
 |step {i j l d d':Nat} {b:Blk} {ch:Bool} (e:h.blk i=some b) (k:b.kin=some (some (j,d),ch)) (u:Up h j l d'):Up h i l (d'+d)
def Kin(h h':H):Prop:=∀i b k,h.blk i=some b->b.kin=some k->∃b',h'.blk i=some b'/\b'.kin=some k
theorem Up.kin{h h':H}(k:Kin h h'){i j d:Nat}(u:Up h i j d):Up h' i j d:=by
 induction u with
 |one e k1=>obtain⟨b,a,k'⟩:=k _ _ _ e k1;exact .one a k'
 |step e k1 _ ih=>obtain⟨b,a,k'⟩:=k _ _ _ e k1;exact .step a k' ih
def Blk.len:Blk->Nat
 |.cells n _ _ _=>n
 |_=>0
def Blk.live:Blk->Bool
 |.dead=>false
 |_=>true
def Blk.isRo:Blk->Bool
 |.ro _ _=>true
 |_=>false
theorem Blk.isRo_kin{b:Blk}(h:b.isRo=true):b.kin=none:=by cases b<;>first|rfl|cases h
structure WR(T:Ty)(g:G)(h:H)(w:World):Prop where
 bound:h.next<=bZ
 top:∀id b,h.blk id=some b->id<h.next
 dom:∀id x,g id=some x->id<h.next
 lt:∀id b o z,g id=some (b,o,z)->b<w.heap.size
 blk:∀id x b,g id=some x->h.blk id=some b->BR T g w id b
 mates:∀i j b o z o' z' bi bj,i≠j->g i=some (b,o,z)->g j=some (b,o',z')->h.blk i=some bi->h.blk j=some bj->bi.live=true->bj.live=true->
  (∃d,Up h i j d/\o=o'+d)\/(∃d,Up h j i d/\o'=o+d)\/(bi.isRo=true/\bj.isRo=true)
 kids:∀i b j d ch,h.blk i=some b->b.kin=some (some (j,d),ch)->∃b' up,h.blk j=some b'/\b'.kin=some (up,true)/\(g i≠none->g j≠none)
 ext:∀i b j d ch b',h.blk i=some b->b.kin=some (some (j,d),ch)->h.blk j=some b'->b'.len<=d+b.len
structure Ext(T:Ty)(g:G)(h:H)(w:World)(g':G)(h':H)(w':World):Prop where
 le:g.le g'
 next:h.next<=h'.next
 wr:WR T g' h' w'
 un:∀id,id<h.next->g id=none->g' id=none/\h'.blk id=h.blk id
 size:w.heap.size<=w'.heap.size
 keep:∀b,b<w.heap.size->(∀id o z,g id≠some (b,o,z))->w'.heap[b]? =w.heap[b]?
 fresh:∀id b o z,g' id=some (b,o,z)->g id=none->w.heap.size<=b\/∃i o' z',g i=some (b,o',z')
 ro:∀id b o z n cs,g id=some (b,o,z)->h.blk id=some (.ro n cs)->h'.blk id=some (.ro n cs)/\w'.heap[b]? =w.heap[b]?
 os:w'.os=w.os
 tape:w'.tape=w.tape
 output:w'.output=w.output
theorem Ext.refl{T:Ty}{g:G}{h:H}{w:World}(k:WR T g h w):Ext T g h w g h w:=
 ⟨g.le_refl,Nat.le_refl _,k,λ_ _ e=>⟨e,rfl⟩,Nat.le_refl _,λ_ _ _=>rfl,(λid b o z h1 h2=>by rw [h2]at h1;cases h1),λ_ _ _ _ _ _ _ e=>⟨e,rfl⟩,rfl,rfl,rfl⟩
theorem Ext.trans{T:Ty}{d l w:G}{h1 h2 v:H}{A y t:World}(a:Ext T d h1 A l h2 y)(b:Ext T l h2 y w v t):Ext T d h1 A w v t:=by
 refine⟨G.le_trans a.le b.le,Nat.le_trans a.next b.next,b.wr,λid hi e=>?_,Nat.le_trans a.size b.size,λk u j=>?_,λid k o z m c=>?_,λid k o z n cs e B=>?_,b.os.trans a.os,b.tape.trans a.tape,b.output.trans a.output⟩
 ·obtain⟨s,f⟩:=a.un id hi e
  obtain⟨p,q⟩:=b.un id (Nat.lt_of_lt_of_le hi a.next) s;exact⟨p,q.trans f⟩
 ·refine(b.keep k (Nat.lt_of_lt_of_le u a.size) λid o z e=>?_).trans (a.keep k u j)
  cases c:d id with
  |some x=>rw [a.le _ _ c]at e;obtain rfl:=Option.some.inj e;exact j _ _ _ c
  |none=>
   rcases a.fresh id k o z e c with h | ⟨i,o',z',h⟩
   ·omega
   ·exact j _ _ _ h
 ·cases r:l id with
  |some x=>
   rw [b.le _ _ r]at m;obtain rfl:=Option.some.inj m;exact a.fresh id k o z r c
  |none=>
   rcases b.fresh id k o z m r with h | ⟨i,o',z',h⟩
   ·exact .inl (Nat.le_trans a.size h)
   ·cases g:d i with
    |none=>exact a.fresh i k o' z' h g
    |some x=>rw [a.le _ _ g]at h;obtain rfl:=Option.some.inj h;exact .inr ⟨i,o',z',g⟩
 ·obtain⟨s,f⟩:=a.ro id k o z n cs e B
  obtain⟨p,q⟩:=b.ro id k o z n cs (a.le _ _ e) s;exact⟨p,q.trans f⟩
def lF(g:G)(w:World):Prop:=∀b c,Env.ro b=some c->(∃t:TypeId×(Nat×Nat),w.heap[b]? =some (.cells c t.1 t.2))/\∀id o z,g id≠some (b,o,z)
theorem lF.ext{T:Ty}{g g':G}{h h':H}{w w':World}(k:lF g w)(x:Ext T g h w g' h' w'):lF g' w':=λb c hE=>by
 obtain⟨⟨t,h1⟩,h2⟩:=k b c hE;have hlt:b<w.heap.size:=(Array.getElem?_eq_some_iff.1 h1).1;refine⟨⟨t,(x.keep b hlt h2).trans h1⟩,λid o z e=>?_⟩;cases hg:g id with
 |some y=>rw [x.le _ _ hg]at e;cases e;exact h2 id o z hg
 |none=>
  rcases x.fresh id b o z e hg with q | ⟨i,o',z',q⟩
  ·omega
  ·exact h2 i o' z' q
end
section
variable [Env]
set_option linter.unusedSectionVars false
theorem sk(h:H)(id j n:Nat)(b:Blk)(hk:id<bZ):(⟨h.t.put id (some b),n⟩:H).blk j=if j=id then some b else h.blk j:=Tr.get_put h.t id j (some b) hk
def fp(g:G)(id:Nat)(x:Nat×Nat×Nat):G:=λj=>if j=id then some x else g j
theorem cH(g:G)(id:Nat)(x:Nat×Nat×Nat):fp g id x id=some x:=by simp [fp]
theorem dK{g:G}{id j:Nat}(x:Nat×Nat×Nat)(h:j≠id):fp g id x j=g j:=by simp [fp,h]
theorem fO{g:G}{id:Nat}(x:Nat×Nat×Nat)(h:g id=none):g.le (fp g id x):=by
 intro j y e
 by_cases hj:j=id
 ·subst hj;rw [h]at e;cases e
 ·rw [dK x hj];exact e
theorem Up.first{h:H}{i j d:Nat}(u:Up h i j d):∃b x ch,h.blk i=some b/\b.kin=some (some x,ch):=by
 cases u with
 |one e k=>exact⟨_,_,_,e,k⟩
 |step e k _=>exact⟨_,_,_,e,k⟩
theorem WR.last{T:Ty}{g:G}{h:H}{w:World}(r:WR T g h w){i j d:Nat}(u:Up h i j d):∃b up,h.blk j=some b/\b.kin=some (up,true):=by
 induction u with
 |one e k=>obtain⟨b,up,h1,h2,_⟩:=r.kids _ _ _ _ _ e k;exact⟨b,up,h1,h2⟩
 |step _ _ _ ih=>exact ih
theorem WR.placed{T:Ty}{g:G}{h:H}{w:World}(r:WR T g h w){i j d:Nat}(u:Up h i j d)(hi:g i≠none):g j≠none:=by
 induction u with
 |one e k=>obtain⟨b,up,_,_,a⟩:=r.kids _ _ _ _ _ e k;exact a hi
 |step e k _ ih=>obtain⟨b,up,_,_,a⟩:=r.kids _ _ _ _ _ e k;exact ih (a hi)
theorem WR.add{T:Ty}{g:G}{h h':H}{w:World}(r:WR T g h w){b:Blk}(B:h.new b=some h')(l:b.kin=none\/b.kin=some (none,false)):
  WR T g h' w/\h'.next=h.next+1/\(∀j,h'.blk j=if j=h.next then some b else h.blk j)/\g h.next=none:=by
 unfold H.new at B;obtain⟨h1,h2⟩:=bW.1 B;obtain rfl:=(Option.some.inj h2).symm;have A:h.next<bZ:=by simpa using h1
 have a:∀j,(⟨h.t.put h.next (some b),Nat.succ h.next⟩:H).blk j=if j=h.next then some b else h.blk j:=λj=>sk h h.next j _ b A
 have m:g h.next=none:=by
  cases e:g h.next with
  |none=>rfl
  |some x=>exact absurd (r.dom _ _ e) (by omega)
 have old:∀{i:Nat} {x:Nat×Nat×Nat} {k:Blk},g i=some x->(⟨h.t.put h.next (some b),Nat.succ h.next⟩:H).blk i=some k->h.blk i=some k:=by
  intro i x k c f;rw [a,if_neg (by have:=r.dom _ _ c;omega)]at f;exact f
 have kin:Kin h ⟨h.t.put h.next (some b),Nat.succ h.next⟩:=λL v k e k'=>⟨v,by rw [a,if_neg (by have:=r.top _ _ e;omega)];exact e,k'⟩
 refine⟨⟨A,λid k e=>?_,λid x e=>Nat.lt_succ_of_lt (r.dom id x e),r.lt,λid x k c f=>r.blk id x k c (old c f),λi j n o z o' D F I s c f p K E J=>?_,λi k j d ch c f=>?_,λi k j d ch k' c f p=>?_⟩,rfl,a,m⟩
 ·rw [a]at e
  by_cases hi:id=h.next
  ·subst hi;exact Nat.lt_succ_self _
  ·rw [if_neg hi]at e;exact Nat.lt_succ_of_lt (r.top _ _ e)
 ·rcases r.mates i j n o z o' D F I s c f (old c p) (old f K) E J with⟨d,u,e⟩ | ⟨d,u,e⟩|x1
  ·exact .inl ⟨d,u.kin kin,e⟩
  ·exact .inr (.inl ⟨d,u.kin kin,e⟩)
  ·exact .inr (.inr x1)
 ·rw [a]at c
  by_cases hi:i=h.next
  ·rw [if_pos hi]at c
   obtain rfl:=Option.some.inj c;rcases l with l|l<;>rw [l]at f<;>cases f
  ·rw [if_neg hi]at c
   obtain⟨n,up,q,y,C⟩:=r.kids i k j d ch c f;exact⟨n,up,by rw [a,if_neg (by have:=r.top _ _ q;omega)];exact q,y,C⟩
 ·rw [a]at c
  by_cases hi:i=h.next
  ·rw [if_pos hi]at c
   obtain rfl:=Option.some.inj c;rcases l with l|l<;>rw [l]at f<;>cases f
  ·rw [if_neg hi]at c
   obtain⟨n,up,q,y,C⟩:=r.kids i k j d ch c f;rw [a,if_neg (by have:=r.top _ _ q;omega)]at p;exact r.ext i k j d ch k' c f p
theorem eQ{w:World}{o:Obj}{b:Nat}(h:b<w.heap.size):(w.alloc o).heap[b]? =w.heap[b]? :=by
 show(w.heap.push o)[b]? =_;rw [Array.getElem?_push,if_neg (by omega)]
theorem dt(w:World)(o:Obj):(w.alloc o).heap[w.heap.size]? =some o:=by
 show(w.heap.push o)[w.heap.size]? =_;simp
theorem WR.place{T:Ty}{g:G}{h:H}{w:World}(r:WR T g h w){id z:Nat}{b:Blk}{o:Obj}(hi:id<h.next)(hg:g id=none)(v:h.blk id=some b)(l:b.kin=none\/b.kin=some (none,false))
  (y:BR T (fp g id (w.heap.size,0,z)) (w.alloc o) id b):WR T (fp g id (w.heap.size,0,z)) h (w.alloc o):=by
 have le:=fO (w.heap.size,0,z) hg;have a:∀{i:Nat} {x:Nat×Nat×Nat},fp g id (w.heap.size,0,z) i=some x->(i=id/\x=(w.heap.size,0,z))\/(i≠id/\g i=some x):=by
  intro i x e
  by_cases h1:i=id
  ·subst h1;rw [cH]at e;exact .inl ⟨rfl,(Option.some.inj e).symm⟩
  ·rw [dK _ h1]at e;exact .inr ⟨h1,e⟩
 refine⟨r.bound,r.top,λi x e=>?_,λi n o' B e=>?_,λi x k f c=>?_,λi j n o1 z1 A z2 E F m f c D J C I=>?_,λi q j d ch f c=>?_,r.ext⟩
 ·rcases a e with⟨rfl,_⟩ | ⟨_,e⟩
  ·exact hi
  ·exact r.dom _ _ e
 ·rw [World.size_alloc]
  rcases a e with⟨_,e⟩ | ⟨_,e⟩
  ·cases e;omega
  ·have:=r.lt _ _ _ _ e;omega
 ·rcases a f with⟨rfl,_⟩ | ⟨_,e⟩
  ·rw [v]at c;obtain rfl:=Option.some.inj c;exact y
  ·obtain⟨n,o',B⟩:=x
   exact BR.move f (eQ (r.lt _ _ _ _ e)) ((r.blk _ _ _ e c).mono le)
 ·rcases a f with⟨rfl,x1⟩ | ⟨_,s⟩<;>rcases a c with⟨rfl,x2⟩ | ⟨_,p⟩
  ·exact absurd rfl m
  ·cases x1;have:=r.lt _ _ _ _ p;omega
  ·cases x2;have:=r.lt _ _ _ _ s;omega
  ·exact r.mates i j n o1 z1 A z2 E F m s p D J C I
 ·obtain⟨n,up,s,p,u⟩:=r.kids i q j d ch f c
  refine⟨n,up,s,p,λh1=>?_⟩;have:i≠id:=by
   intro h2;subst h2;rw [v]at f;cases f;rcases l with h|h<;>rw [h]at c<;>cases c
  rw [dK _ this]at h1;intro t
  by_cases h4:j=id
  ·subst h4;exact u h1 hg
  ·rw [dK _ h4]at t;exact u h1 t
theorem Ext.new{T:Ty}{g:G}{h h':H}{w:World}(r:WR T g h w){b:Blk}{o:Obj}{z:Nat}(m:h.new b=some h')(f:b.kin=none\/b.kin=some (none,false))
  (l:BR T (fp g h.next (w.heap.size,0,z)) (w.alloc o) h.next b):Ext T g h w (fp g h.next (w.heap.size,0,z)) h' (w.alloc o):=by
 obtain⟨i,t,c,d⟩:=r.add m f;have b1:h'.blk h.next=some b:=by rw [c,if_pos rfl]
 have p:=i.place (by omega) d b1 f l;refine⟨fO _ d,by omega,p,λid hi e=>⟨by rw [dK _ (by omega)];exact e,by rw [c,if_neg (by omega)]⟩,by rw [World.size_alloc];omega,λk j _=>eQ j,λid k o' q e s=>?_,λid k o' q n cs e a=>⟨by rw [c,if_neg (by have:=r.dom _ _ e;omega)];exact a,eQ (r.lt _ _ _ _ e)⟩,rfl,rfl,rfl⟩
 by_cases h1:id=h.next
 ·subst h1;rw [cH]at e;cases e;exact .inl (Nat.le_refl _)
 ·rw [dK _ h1,s]at e;cases e
theorem WR.lone{T:Ty}{g:G}{h:H}{w:World}(r:WR T g h w){i j b o z o' n:Nat}{c k:Blk}(l:i≠j)(y:g i=some (b,o,z))(s:g j=some (b,o',n))
  (m:h.blk i=some c) (A:h.blk j=some k) (v:c.live=true) (t:k.live=true) (a:c.kin=none\/c.kin=some (none,false)) (p:c.isRo=false\/k.isRo=false):False:=by
 rcases r.mates i j b o z o' n c k l y s m A v t with⟨d,u,_⟩ | ⟨d,u,_⟩ | ⟨x1,x2⟩
 ·obtain⟨q,x,ch,f,e⟩:=u.first
  rw [m]at f;obtain rfl:=Option.some.inj f;rcases a with a|a<;>rw [a]at e<;>cases e
 ·obtain⟨q,up,f,e⟩:=r.last u
  rw [m]at f;obtain rfl:=Option.some.inj f;rcases a with a|a<;>rw [a]at e<;>cases e
 ·rcases p with h|h
  ·rw [x1]at h;cases h
  ·rw [x2]at h;cases h
theorem Ext.upd{T:Ty}{g:G}{h:H}{w w':World}(r:WR T g h w){id b o z:Nat}{k k':Blk}(B:g id=some (b,o,z))(v:h.blk id=some k)(l:k.live=true)
  (J:k.kin=none) (F:k'.kin=none) (A:∀n cs,k≠.ro n cs) (O:∀j,j≠b->w'.heap[j]? =w.heap[j]?) (hs:w'.heap.size=w.heap.size) (ho:w'.os=w.os) (ht:w'.tape=w.tape) (Y:w'.output=w.output)
  (V:BR T g w' id k'):Ext T g h w g ⟨h.t.put id (some k'),h.next⟩ w':=by
 have m:k.isRo=false:=by
  cases k with
  |ro n cs=>exact absurd rfl (A n cs)
  |_=>rfl
 have hi:id<bZ:=Nat.lt_of_lt_of_le (r.dom _ _ B) r.bound;have a:∀j,(⟨h.t.put id (some k'),h.next⟩:H).blk j=if j=id then some k' else h.blk j:=λj=>sk h id j _ k' hi
 have kin:Kin h ⟨h.t.put id (some k'),h.next⟩:=λi s q e p=>by
  refine⟨s,?_,p⟩;rw [a,if_neg]
  ·exact e
  ·intro h1
   subst h1;rw [v]at e;obtain rfl:=Option.some.inj e;rw [J]at p;cases p
 have old:∀{i:Nat} {q:Blk},(⟨h.t.put id (some k'),h.next⟩:H).blk i=some q->q.live=true->∃p,h.blk i=some p/\p.live=true:=by
  intro i q e I;rw [a]at e
  by_cases h1:i=id
  ·subst h1;exact⟨k,v,l⟩
  ·rw [if_neg h1]at e;exact⟨q,e,I⟩
 have wr:WR T g ⟨h.t.put id (some k'),h.next⟩ w':=by
  refine⟨r.bound,λi q e=>?_,r.dom,λi s o' M e=>by rw [hs];exact r.lt _ _ _ _ e,λi x q c f=>?_,λi j s o1 z1 o2 z2 bi bj L c f D U l1 l2=>?_,λi q j d ch c f=>?_,λi q j d ch p c f D=>?_⟩
  ·rw [a]at e
   by_cases h1:i=id
   ·subst h1;exact r.dom _ _ B
   ·rw [if_neg h1]at e;exact r.top _ _ e
  ·rw [a]at f
   by_cases h1:i=id
   ·subst h1;rw [if_pos rfl]at f;obtain rfl:=Option.some.inj f;exact V
   ·rw [if_neg h1]at f
    obtain⟨s,o',M⟩:=x
    by_cases hb:s=b
    ·subst hb
     cases I:q.live with
     |true=>exact(r.lone (λh2=>h1 h2.symm) B c v f l I (.inl J) (.inl m)).elim
     |false=>cases q<;>first|trivial|cases I
    ·exact BR.move c (O _ hb) (r.blk _ _ _ c f)
  ·obtain⟨q1,y,E⟩:=old D l1
   obtain⟨q2,K,Q⟩:=old U l2;rcases r.mates i j s o1 z1 o2 z2 q1 q2 L c f y K E Q with⟨d,u,e⟩ | ⟨d,u,e⟩ | ⟨x1,x2⟩
   ·exact .inl ⟨d,u.kin kin,e⟩
   ·exact .inr (.inl ⟨d,u.kin kin,e⟩)
   ·have S:∀{l:Nat} {q p:Blk},h.blk l=some q->q.isRo=true->(⟨h.t.put id (some k'),h.next⟩:H).blk l=some p->p.isRo=true:=by
     intro l q p f1 P f3;rw [a]at f3
     by_cases h1:l=id
     ·subst h1
      rw [v]at f1;cases f1;rw [m]at P;cases P
     ·rw [if_neg h1,f1]at f3
      cases f3;exact P
    exact .inr (.inr ⟨S y x1 D,S K x2 U⟩)
  ·rw [a]at c
   by_cases h1:i=id
   ·subst h1;rw [if_pos rfl]at c;obtain rfl:=Option.some.inj c;rw [F]at f;cases f
   ·rw [if_neg h1]at c
    obtain⟨s,up,y,E,W⟩:=r.kids i q j d ch c f;obtain⟨R,K,Q⟩:=kin _ _ _ y E;exact⟨R,up,K,Q,W⟩
  ·rw [a]at c
   by_cases h1:i=id
   ·subst h1;rw [if_pos rfl]at c;obtain rfl:=Option.some.inj c;rw [F]at f;cases f
   ·rw [if_neg h1]at c
    rw [a]at D
    by_cases h2:j=id
    ·subst h2
     obtain⟨s,up,y,E,_⟩:=r.kids i q j d ch c f;rw [v]at y;obtain rfl:=Option.some.inj y;rw [J]at E;cases E
    ·rw [if_neg h2]at D
     exact r.ext i q j d ch p c f D
 refine⟨g.le_refl,Nat.le_refl _,wr,λi h1 e=>⟨e,?_⟩,Nat.le_of_eq hs.symm,λj _ Z=>O j λh1=>Z id o z (h1▸B),(λi s o' M h1 h2=>by rw [h2]at h1;cases h1),λi s o' M n cs e C=>⟨?_,O s λh1=>?_⟩,ho,ht,Y⟩
 ·rw [a,if_neg]
  intro h2;subst h2;rw [B]at e;cases e
 ·rw [a,if_neg]
  ·exact C
  ·intro h2;subst h2;rw [v]at C;exact A n cs (Option.some.inj C)
 ·subst h1
  by_cases h2:i=id
  ·subst h2;rw [v]at C;exact A n cs (Option.some.inj C)
  ·exact r.lone (λh3=>h2 h3.symm) B e v C l rfl (.inl J) (.inl m)
end
section
variable [Env]
set_option linter.unusedSectionVars false
def mP(h h':H):Prop:=h'.next=h.next/\∀j,h'.blk j=h.blk j\/
 ∃n cs cs' up ch,h.blk j=some (.cells n cs up ch)/\h'.blk j=some (.cells n cs' up ch)/\∀q v,cs'.get q=some v->cs.get q=some v
theorem mP.refl(h:H):mP h h:=⟨rfl,λ_=>.inl rfl⟩
theorem mP.trans{a b c:H}(h:mP a b)(k:mP b c):mP a c:=by
 refine⟨k.1.trans h.1,λj=>?_⟩;rcases h.2 j with e1 | ⟨n,cs,cs',up,ch,e1,e2,e3⟩
 ·rcases k.2 j with e4 | ⟨n,cs,cs',up,ch,e4,e5,e6⟩
  ·exact .inl (e4.trans e1)
  ·exact .inr ⟨n,cs,cs',up,ch,e1▸e4,e5,e6⟩
 ·rcases k.2 j with e4 | ⟨n',cs1,cs2,up',ch',e4,e5,e6⟩
  ·exact .inr ⟨n,cs,cs',up,ch,e1,e4.trans e2,e3⟩
  ·rw [e2]at e4
   cases e4;exact .inr ⟨n,cs,cs2,up,ch,e1,e5,λq v d=>e3 q v (e6 q v d)⟩
theorem mP.kin{h h':H}(l:mP h h'):Kin h h':=by
 intro i b k a c;rcases l.2 i with e | ⟨n,cs,cs',up,ch,e3,e4,_⟩
 ·exact⟨b,e.trans a,c⟩
 ·rw [e3]at a
  cases a;exact⟨_,e4,c⟩
theorem mP.back{h h':H}(l:mP h h'){i:Nat}{b:Blk}(e:h'.blk i=some b):∃b',h.blk i=some b'/\b'.kin=b.kin/\b'.live=b.live/\b'.len=b.len:=by
 rcases l.2 i with k | ⟨n,cs,cs',up,ch,e3,e4,_⟩
 ·exact⟨b,k▸e,rfl,rfl,rfl⟩
 ·rw [e4]at e
  cases e;exact⟨_,e3,rfl,rfl,rfl⟩
theorem mP.isRo{h h':H}(l:mP h h'){i:Nat}{b a:Blk}(e:h.blk i=some b)(d:b.isRo=true)(c:h'.blk i=some a):a.isRo=true:=by
 rcases l.2 i with k | ⟨n,cs,cs',up,ch,k1,k2,_⟩
 ·rw [k,e]at c
  cases c;exact d
 ·rw [e]at k1
  cases k1;cases d
theorem mP.wr{T:Ty}{g:G}{h h':H}{w:World}(l:mP h h')(r:WR T g h w):WR T g h' w:=by
 refine⟨l.1▸r.bound,λid b e=>?_,λid x e=>l.1▸r.dom id x e,r.lt,λid x b f a=>?_,λi j b o z o' F W Y B f a m y L V=>?_,λi b j d ch f a=>?_,λi b j d ch I f a m=>?_⟩
 ·obtain⟨I,J,_⟩:=l.back e
  exact l.1▸r.top _ _ J
 ·rcases l.2 id with k | ⟨n,cs,cs',up,ch,m,y,e5⟩
  ·exact r.blk id x b f (k▸a)
  ·rw [y]at a
   cases a;obtain⟨b,o,z,c,t,U,P,S,K,O,Q⟩:=r.blk id x _ f m;exact⟨b,o,z,c,t,U,P,S,K,O,λj v M N=>Q j v M (e5 j v N)⟩
 ·obtain⟨b1,p,s,D,_⟩:=l.back m
  obtain⟨b2,q,A,C,_⟩:=l.back y;rcases r.mates i j b o z o' F b1 b2 B f a p q (D.trans L) (C.trans V)with⟨d,u,e⟩ | ⟨d,u,e⟩ | ⟨x1,x2⟩
  ·exact .inl ⟨d,u.kin l.kin,e⟩
  ·exact .inr (.inl ⟨d,u.kin l.kin,e⟩)
  ·exact .inr (.inr ⟨l.isRo p x1 m,l.isRo q x2 y⟩)
 ·obtain⟨b1,p,s,D⟩:=l.back f
  obtain⟨b2,up,q,A,R⟩:=r.kids i b1 j d ch p (s.trans a);obtain⟨b3,C,E⟩:=l.kin _ _ _ q A;exact⟨b3,up,C,E,R⟩
 ·obtain⟨b1,p,s,_,D⟩:=l.back f
  obtain⟨b2,q,_,_,A⟩:=l.back m;have:=r.ext i b1 j d ch b2 p (s.trans a) q;omega
def wV(h:H)(j q:Nat):Prop:=∀n cs up ch,h.blk j=some (.cells n cs up ch)->cs.get q=none
theorem wV.less{h h':H}(l:mP h h'){j q:Nat}(k:wV h j q):wV h' j q:=by
 intro n cs up ch e;rcases l.2 j with e1 | ⟨n',cs1,cs2,up',ch',e1,e2,e3⟩
 ·exact k n cs up ch (e1▸e)
 ·rw [e2]at e
  cases e;have:=k _ _ _ _ e1;cases a:cs.get q with
  |none=>rfl
  |some v=>rw [e3 q v a]at this;cases this
theorem rq(up:Option (Nat×Nat))(i:Nat)(h:H):oN 0 up i h=Option.rec (motive:=λ_=>Option H) (some h) (λ_=>none) up:=rfl
theorem rr(f:Nat)(up:Option (Nat×Nat))(i:Nat)(h:H):oN (f+1) up i h=Option.rec (motive:=λ_=>Option H) (some h)
   (λp=>ob (h.blk p.1) λb=>match b with
    |.cells n cs up' child=>oif (Nat.blt (Nat.add p.2 i) bZ) <| oN f up' (Nat.add p.2 i) ⟨h.t.put p.1 (some (.cells n (cs.put (Nat.add p.2 i) none) up' child)),h.next⟩
    |.dead=>some h
    |_=>none) up:=rfl
theorem C1(f:Nat):∀(up:Option (Nat×Nat)) (i:Nat) (h h':H),(∀j b,h.blk j=some b->j<bZ)->oN f up i h=some h'->
  mP h h'/\(∀p d,up=some (p,d)->wV h' p (d+i)/\∀j e,Up h p j e->wV h' j (e+d+i))/\
  ∀j,(∀p d,up=some (p,d)->j≠p/\∀e,¬Up h p j e)->h'.blk j=h.blk j:=by
 induction f with
 |zero=>
  intro up i h h' _ e;cases up with
  |none=>rw [rq]at e;cases e;exact⟨.refl _,(λ_ _ k=>by cases k),λ_ _=>rfl⟩
  |some p=>rw [rq]at e;cases e
 |succ f ih=>
  intro up i h h' I e;cases up with
  |none=>rw [rr]at e;cases e;exact⟨.refl _,(λ_ _ k=>by cases k),λ_ _=>rfl⟩
  |some pd=>
   obtain⟨p,m⟩:=pd;rw [rr]at e;obtain⟨b,o,r⟩:=bQ.1 e;clear e;simp only []at o r;cases b with
   |cells n cs up' ch=>
    obtain⟨Q,K⟩:=bW.1 r;clear r;have G:m+i<bZ:=by simpa using Q
    have N:=I _ _ o;generalize hc:(⟨h.t.put p (some (.cells n (cs.put (Nat.add m i) none) up' ch)),h.next⟩:H)=hx at K;have g:∀j,hx.blk j=if j=p then some (.cells n (cs.put (m+i) none) up' ch)else h.blk j:=λj=>by rw [<-hc];exact sk h p j _ _ N
    have s:hx.next=h.next:=by rw [<-hc]
    clear hc;have z:mP h hx:=by
     refine⟨s,λj=>?_⟩
     by_cases w:j=p
     ·subst w
      refine .inr ⟨n,cs,_,up',ch,o,by rw [g,if_pos rfl],λq v A=>?_⟩;rw [Tr.get_put cs _ _ _ G]at A
      split at A
      ·cases A
      ·exact A
     ·exact .inl (by rw [g,if_neg w])
    have S:wV hx p (m+i):=by
     intro n' cs' F L c;rw [g,if_pos rfl]at c;cases c;rw [Tr.get_put cs _ _ _ G,if_pos rfl]
    obtain⟨J,P,R⟩:=ih _ _ _ _ (λj b c=>by
     obtain⟨E,B,_⟩:=z.back c;exact I _ _ B) K
    have step:∀{q d':Nat},up'=some (q,d')->wV h' q (d'+(m+i))/\∀j e,Up h q j e->wV h' j (e+d'+(m+i)):=λc=>by
     obtain⟨T,U⟩:=P _ _ c;exact⟨T,λj e u=>U j e (u.kin z.kin)⟩
    have l:Kin hx h:=by
     intro j b k f1 V;obtain⟨E,f3,O,_⟩:=z.back f1;exact⟨E,f3,O.trans V⟩
    refine⟨z.trans J,λp' d C=>?_,λj w=>?_⟩
    ·cases C
     refine⟨S.less J,λj x u=>?_⟩;cases u with
     |one c k5=>
      rw [o]at c;cases c;simp only [Blk.kin,Option.some.injEq,Prod.mk.injEq]at k5;have:=(step k5.1).1
      rwa [<-Nat.add_assoc]at this
     |step c k5 u5=>
      rw [o]at c;cases c;simp only [Blk.kin,Option.some.injEq,Prod.mk.injEq]at k5;have:=(step k5.1).2 _ _ u5;rw [<-Nat.add_assoc]at this
      rwa [show ∀a b:Nat,a+b+m+i=a+b+m+i from λ_ _=>rfl]at this
    ·obtain⟨M,D⟩:=w p m rfl
     rw [R j λq d' c=>?_,g,if_neg M];subst c;refine⟨λh1=>?_,λe u=>?_⟩
     ·subst h1
      exact D _ (.one o rfl)
     ·exact D _ (.step o rfl (u.kin l))
   |dead=>
    cases r;refine⟨.refl _,λp' d C=>?_,λ_ _=>rfl⟩;cases C;refine⟨λn cs up ch c=>(by rw [o]at c;cases c),λj x u=>?_⟩;obtain⟨b,y,ch,c,B⟩:=u.first
    rw [o]at c;cases c;cases B
   |ro=>cases r
   |map=>cases r
   |siter=>cases r
   |loop=>cases r
   |miter=>cases r
theorem oI{g:G}{v:V}{u:Value}(h:VR g v u)(k:cQ v=true):u.oneCell'=true:=by
 cases h<;>first|rfl|cases k
theorem wf{w:World}{b o:Nat}{c:Array Value}{t:TypeId}{fz:Nat×Nat}(u:Value)(h:w.heap[b]? =some (.cells c t fz)):
  (w.setCell ⟨b,o,none⟩ u).heap[b]? =some (.cells (c.setIfInBounds o u) t fz):=by
 show(w.heap.modify b _)[b]? =_;rw [Array.getElem?_modify,if_pos rfl,h];rfl
theorem iK{w:World}{b o j:Nat}(u:Value)(h:j≠b):(w.setCell ⟨b,o,none⟩ u).heap[j]? =w.heap[j]? :=by
 simp only [World.setCell];rw [Array.getElem?_modify,if_neg (λe=>h e.symm)]
theorem Ext.wr1{T:Ty}{g:G}{h h':H}{w:World}(r:WR T g h w){id i b o z:Nat}{v:V}{u:Value}(e:h.wr1 id i v=some h')(I:g id=some (b,o,z))(hv:VR g v u):
  Ext T g h w g h' (w.setCell ⟨b,o+i,none⟩ u)/\(∃x,w.cell? ⟨b,o+i,none⟩=some x)/\w.frozen? ⟨b,o+i,none⟩=false:=by
 unfold H.wr1 at e;obtain⟨k,E,e2⟩:=bQ.1 e;cases k with
 |cells n cs up ch=>
  simp only []at e2;obtain⟨hc,e3⟩:=bW.1 e2;obtain⟨a6,e4⟩:=bW.1 e3;obtain⟨Y,e5⟩:=bW.1 e4;obtain⟨h1,e6,e7⟩:=bQ.1 e5;cases e7;have a0:ch=false:=by simpa using hc
  subst a0;have a7:i<n:=by simpa using a6
  have a4:id<bZ:=Nat.lt_of_lt_of_le (r.dom _ _ I) r.bound;obtain⟨less,M,same⟩:=C1 64 up i h h1 (λj b e=>Nat.lt_of_lt_of_le (r.top _ _ e) r.bound) e6;obtain⟨K,o',R,c,t,k1,Z,k3,k4,k5,k6⟩:=r.blk id _ _ I E;rw [I]at k1;cases k1;have Q:∃x,c[o+i]? =some x:=⟨_,Array.getElem?_eq_getElem (by omega)⟩
  have hw:=wf (o:=o+i) u Z;have r1:=less.wr r;have a:∀j,(⟨h1.t.put id (some (.cells n (cs.put i (some v)) up false)),h1.next⟩:H).blk j=if j=id then some (.cells n (cs.put i (some v)) up false)else h1.blk j:=λj=>sk h1 id j _ _ a4
  have kin:Kin h1 ⟨h1.t.put id (some (.cells n (cs.put i (some v)) up false)),h1.next⟩:=by
   intro j q k f1 s
   by_cases y:j=id
   ·subst y
    obtain⟨D,A,J,_⟩:=less.back f1;rw [E]at A;cases A;exact⟨.cells n (cs.put i (some v)) up false,by rw [a,if_pos rfl],J.trans s⟩
   ·exact⟨q,by rw [a,if_neg y];exact f1,s⟩
  have old:∀{j:Nat} {q:Blk},(⟨h1.t.put id (some (.cells n (cs.put i (some v)) up false)),h1.next⟩:H).blk j=some q->∃D,h.blk j=some D/\D.kin=q.kin/\D.live=q.live/\D.len=q.len:=by
   intro j q f;rw [a]at f
   by_cases y:j=id
   ·subst y
    rw [if_pos rfl]at f;cases f;exact⟨_,E,rfl,rfl,rfl⟩
   ·rw [if_neg y]at f
    exact less.back f
  have wr:WR T g ⟨h1.t.put id (some (.cells n (cs.put i (some v)) up false)),h1.next⟩ (w.setCell ⟨b,o+i,none⟩ u):=by
   refine⟨r1.bound,λj q f=>?_,r1.dom,λj K o' R f=>?_,λj x q f1 s=>?_,λj l K o1 z1 o2 z2 bj bl a3 f1 s f3 f4 l1 l2=>?_,λj q l d ch f1 s=>?_,λj q l d ch D f1 s f3=>?_⟩
   ·obtain⟨D,A,_⟩:=old f
    exact less.1▸r.top _ _ A
   ·rw [World.size_setCell];exact r.lt _ _ _ _ f
   ·obtain⟨K,o',R⟩:=x
    by_cases y:j=id
    ·subst y
     rw [a,if_pos rfl]at s;cases s;rw [I]at f1;cases f1;refine⟨b,o,z,_,t,I,hw,by rw [Array.size_setIfInBounds];exact k3,k4,k5,λq x hq B=>?_⟩;rw [Tr.get_put cs i q _ (by omega)]at B
     by_cases hqi:q=i
     ·subst hqi
      rw [if_pos rfl]at B;cases B;exact⟨u,by rw [Array.getElem?_setIfInBounds_self_of_lt (by omega)],hv,Y⟩
     ·rw [if_neg hqi]at B
      obtain⟨x',A,J,P⟩:=k6 q x hq B;exact⟨x',by rw [Array.getElem?_setIfInBounds_ne (by omega)];exact A,J,P⟩
    ·rw [a,if_neg y]at s
     by_cases hb:K=b
     ·subst hb
      cases lq:q.live with
      |false=>cases q<;>first|trivial|cases lq
      |true=>
       obtain⟨D,A,J,P,_⟩:=less.back s;rcases r.mates id j K o z o' R _ D (λh=>y h.symm) I f1 E A rfl (P.trans lq)with⟨d,C,ed⟩ | ⟨d,C,ed⟩ | ⟨x1,_⟩
       ·have O:wV h1 j (d+i):=by
         cases C with
         |one f5 f6=>
          rw [E]at f5;cases f5;simp only [Blk.kin,Option.some.injEq,Prod.mk.injEq]at f6;exact(M _ _ f6.1).1
         |step f5 f6 f7=>
          rw [E]at f5;cases f5;simp only [Blk.kin,Option.some.injEq,Prod.mk.injEq]at f6;exact(M _ _ f6.1).2 _ _ f7
        obtain⟨bq,a5,F,L⟩:=r.last C;rw [A]at F;cases F;cases q with
        |cells n' cs' up'' ch'=>
         obtain⟨b2,o2,z2,c2,t2,p1,p2,p3,p4,p5,p6⟩:=r1.blk j _ _ f1 s;rw [f1]at p1;cases p1;rw [Z]at p2;cases p2;refine⟨K,o',R,_,t,f1,hw,by rw [Array.size_setIfInBounds];exact p3,p4,p5,λq x hq B=>?_⟩;obtain⟨x',S,m7,m8⟩:=p6 q x hq B;have W:q≠d+i:=by
          intro a1;subst a1;rw [O _ _ _ _ s]at B;cases B
         exact⟨x',by rw [Array.getElem?_setIfInBounds_ne (by omega)];exact S,m7,m8⟩
        |_=>rw [J]at L;cases L
       ·obtain⟨bq,a5,F,L⟩:=r.last C
        rw [E]at F;cases F;cases L
       ·cases x1
     ·exact BR.move f1 (iK u hb) (r1.blk _ _ _ f1 s)
   ·obtain⟨U,A,J,P,_⟩:=old f3
    obtain⟨q2,F,L,S,_⟩:=old f4;rcases r.mates j l K o1 z1 o2 z2 U q2 a3 f1 s A F (P.trans l1) (S.trans l2)with⟨d,u,e⟩ | ⟨d,u,e⟩ | ⟨x1,x2⟩
    ·exact .inl ⟨d,(u.kin less.kin).kin kin,e⟩
    ·exact .inr (.inl ⟨d,(u.kin less.kin).kin kin,e⟩)
    ·have ne:∀{x:Nat} {q D:Blk},h.blk x=some q->q.isRo=true->(⟨h1.t.put id (some (.cells n (cs.put i (some v)) up false)),h1.next⟩:H).blk x=some D->D.isRo=true:=by
      intro x q D g1 g2 g3;rw [a]at g3
      by_cases B:x=id
      ·subst B
       rw [E]at g1;cases g1;cases g2
      ·rw [if_neg B]at g3
       exact less.isRo g1 g2 g3
     exact .inr (.inr ⟨ne A x1 f3,ne F x2 f4⟩)
   ·obtain⟨U,A,J,P,_⟩:=old f1
    obtain⟨q2,C,F,L,a2⟩:=r.kids j U l d ch A (J.trans s);obtain⟨q3,S,m7⟩:=less.kin _ _ _ F L;obtain⟨q4,m8,m9⟩:=kin _ _ _ S m7;exact⟨q4,C,m8,m9,a2⟩
   ·obtain⟨U,A,J,_,P⟩:=old f1
    obtain⟨q2,F,_,_,L⟩:=old f3;have:=r.ext j U l d ch q2 A (J.trans s) F;omega
  refine⟨⟨g.le_refl,Nat.le_of_eq less.1.symm,wr,λj y f=>⟨f,?_⟩,by rw [World.size_setCell];exact Nat.le_refl _,λj _ hn=>iK u λy=>hn id o z (y▸I),(λj K o' R f1 s=>by rw [s]at f1;cases f1),λj K o' R n' cs' f1 s=>?_,rfl,rfl,rfl⟩,?_,?_⟩
  ·have W:j≠id:=by
    intro h2;subst h2;rw [I]at f;cases f
   rw [a,if_neg W];refine same j λp d ep=>?_;subst ep;refine⟨λh2=>?_,λe u=>?_⟩
   ·subst h2
    exact r.placed (.one E rfl) (by rw [I];exact λh=>by cases h) f
   ·exact r.placed (.step E rfl u) (by rw [I];exact λh=>by cases h) f
  ·have y:j≠id:=by
    intro y;subst y;rw [E]at s;cases s
   have f3:h1.blk j=some (.ro n' cs'):=by
    rcases less.2 j with m | ⟨_,_,_,_,_,m,_⟩
    ·exact m.trans s
    ·rw [s]at m;cases m
   refine⟨by rw [a,if_neg y];exact f3,iK u λhb=>?_⟩;subst hb;exact r.lone y f1 I s E rfl rfl (.inl rfl) (.inr rfl)
  ·obtain⟨x,B⟩:=Q
   exact⟨x,by simp [World.cell?,Z,B]⟩
  ·simp [World.frozen?,Z]
 |_=>cases e2
end
end Ev
end Go.Proofs.YtdfphfdnoobikaaGreatDoor
