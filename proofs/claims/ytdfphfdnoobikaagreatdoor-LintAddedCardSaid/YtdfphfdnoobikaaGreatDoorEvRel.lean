/-
  Tries;what it means that an abstract value and memory stand for the model's.
-/
import Derived.Test.YtdfphfdnoobikaaGreatDoorEvDef
import Derived.Laws.World
import Derived.Control
namespace Go.Proofs.YtdfphfdnoobikaaGreatDoor
namespace Ev
section
theorem Tr.getP_e{α:Type}(p:Nat):(Tr.e:Tr α).getP p=none:=rfl
theorem Tr.getP_n{α:Type}(l:Tr α)(v:Option α)(r:Tr α)(p:Nat):(Tr.n l v r).getP p=if p=1 then v else if p%2=1 then r.getP (p/2)else l.getP (p/2):=by
 show Bool.rec (motive:=λ_=>Option α) (Bool.rec (motive:=λ_=>Option α) (l.getP (p/2)) (r.getP (p/2)) (Nat.beq (p%2) 1)) v (Nat.beq p 1)=_;simp only [cC,Nat.beq_eq]
theorem Tr.getP_parts{α:Type}(t:Tr α)(p:Nat):t.getP p=if p=1 then t.val else if p%2=1 then t.right.getP (p/2)else t.left.getP (p/2):=by
 cases t with
 |e=>simp [Tr.val,Tr.left,Tr.right,Tr.getP_e]
 |n l v r=>exact Tr.getP_n l v r p
theorem Tr.setF_succ{α:Type}(x:Option α)(f:Nat)(t:Tr α)(p:Nat):Tr.setF x (f+1) t p=
  if p=1 then .n t.left x t.right else if p%2=1 then .n t.left t.val (Tr.setF x f t.right (p/2))else .n (Tr.setF x f t.left (p/2)) t.val t.right:=by
 cases t with
 |e=>
  show Bool.rec (motive:=λ_=>Tr α) (Bool.rec (motive:=λ_=>Tr α) (.n (Tr.setF x f .e (p/2)) none .e) (.n .e none (Tr.setF x f .e (p/2))) (Nat.beq (p%2) 1)) (.n .e x .e) (Nat.beq p 1)=_;simp only [cC,Nat.beq_eq];rfl
 |n l v r=>
  show Bool.rec (motive:=λ_=>Tr α) (Bool.rec (motive:=λ_=>Tr α) (.n (Tr.setF x f l (p/2)) v r) (.n l v (Tr.setF x f r (p/2))) (Nat.beq (p%2) 1)) (.n l x r) (Nat.beq p 1)=_;simp only [cC,Nat.beq_eq];rfl
theorem Tr.getP_setF{α:Type}(x:Option α):∀(f:Nat) (t:Tr α) (p q:Nat),1<=p->p<2 ^ f->1<=q->(Tr.setF x f t p).getP q=if q=p then x else t.getP q:=by
 intro f
 induction f with
 |zero=>intro t p q h1 h2 _;omega
 |succ f ih=>
  intro t p q h1 h2 h3;rw [Tr.setF_succ,Tr.getP_parts t q];have h4:p<2 ^ f*2:=by rw [<-Nat.pow_succ];exact h2
  by_cases p1:p=1
  ·rw [if_pos p1,Tr.getP_n]
   by_cases q1:q=1
   ·simp [q1,p1]
   ·have:¬q=p:=by omega
    simp [q1,this]
  ·rw [if_neg p1]
   by_cases po:p%2=1
   ·rw [if_pos po,Tr.getP_n]
    by_cases q1:q=1
    ·have:¬q=p:=by omega
     simp [q1];omega
    ·by_cases qo:q%2=1
     ·rw [ih t.right (p/2) (q/2) (by omega) (by omega) (by omega)]
      by_cases e:q=p
      ·subst e
       simp [q1,qo]
      ·have:¬q/2=p/2:=by omega
       simp [q1,qo,e,this]
     ·have:¬q=p:=λe=>qo (e▸po)
      simp [q1,qo,this]
   ·rw [if_neg po,Tr.getP_n]
    by_cases q1:q=1
    ·have:¬q=p:=by omega
     simp [q1];omega
    ·by_cases qo:q%2=1
     ·have:¬q=p:=λe=>po (e▸qo)
      simp [q1,qo,this]
     ·rw [ih t.left (p/2) (q/2) (by omega) (by omega) (by omega)]
      by_cases e:q=p
      ·subst e
       simp [q1,qo]
      ·have:¬q/2=p/2:=by omega
       simp [q1,qo,e,this]
theorem Tr.get_put{α:Type}(t:Tr α)(k j:Nat)(x:Option α)(hk:k<bR):(t.put k x).get j=if j=k then x else t.get j:=by
 unfold Tr.get Tr.put;rw [Tr.getP_setF x 30 t _ _ (by omega) (by unfold bR at hk;omega) (by omega)];simp only [Nat.succ.injEq]
abbrev G:=Nat->Option (Nat×Nat×Nat)
def G.le(g g':G):Prop:=∀id x,g id=some x->g' id=some x
theorem G.le_refl(g:G):g.le g:=λ_ _ h=>h
theorem G.le_trans{a b c:G}(h:a.le b)(k:b.le c):a.le c:=λid x e=>k id x (h id x e)
class Env where
 ro:Nat->Option (Array Value)
variable [Env]
set_option linter.unusedSectionVars false
mutual
inductive VR(g:G):V->Value->Prop
 |bool (b:Bool):VR g (.bool b) (.bool b)
 |int (k:IntKind) (n:Int):VR g (.int k n) (.int k n)
 |str (s:ByteArray):VR g (.str s.size (bT s.data.toList)) (.string s)
 |nilp:VR g .nilp (.pointer none)
 |ptr {id off b o z:Nat} (h:g id=some (b,o,z)):VR g (.ptr id off) (.pointer (some ⟨b,o+off,none⟩))
 |nils:VR g .nils (.slice none 0 0)
 |slx {id off len cap es b o z:Nat} (h:g id=some (b,o,z)):VR g (.sl id off len cap true es) (.slice (some ⟨b,o+off,none⟩) len cap)
 |sli {id off len cap es b o z c:Nat} (h:g id=some (b,o,z)) (hc:off+c*es=z) (hl:len<=c):VR g (.sl id off len cap false es) (.slice (some ⟨b,o+off,none⟩) len c)
 |sl0 {id off cap es b o z p:Nat} (h:g id=some (b,o,z)) (hz:z<=off):VR g (.sl id off 0 cap false es) (.slice (some ⟨b,p,none⟩) 0 0)
 |slx0 {id off es b o z p:Nat} (h:g id=some (b,o,z)):VR g (.sl id off 0 0 true es) (.slice (some ⟨b,p,none⟩) 0 0)
 |nilm:VR g .nilm (.map none)
 |map {id b o z:Nat} (h:g id=some (b,o,z)):VR g (.map id) (.map (some b))
 |func {f:FuncId} {a b:List V} {x y:List Value} (ha:VRs g a x) (hb:VRs g b y):VR g (.func (.func f) a b) (.func (.func f) x.toArray y.toArray)
 |yld {id b o z:Nat} (h:g id=some (b,o,z)):VR g (.yld id) (.func (.yield b) #[] #[])
 |nilf:VR g .nilf .nilFunc
 |iface {t:TypeId} {v:V} {u:Value} (h:VR g v u):VR g (.iface t v) (.iface t u)
 |nili:VR g .nili .nilIface
 |agg {a:List V} {x:List Value} (h:VRs g a x):VR g (.agg a) (.agg x.toArray)
 |tup {a:List V} {x:List Value} (h:VRs g a x):VR g (.tup a) (.tuple x.toArray)
 |lst {n es b o cap:Nat} {c:Array Value} {cells:List V} {xs:List Value} (hE:Env.ro b=some c) (hx:∀j u,xs[j]? =some u->c[o+j]? =some u) (hl:cells.length=n*es) (h:VRs g cells xs):VR g (.lst n es cells) (.slice (some ⟨b,o,none⟩) n cap)
 |lst0 {es:Nat}:VR g (.lst 0 es []) (.slice none 0 0)
 |lstz {es cap:Nat} {a:Addr}:VR g (.lst 0 es []) (.slice (some a) 0 cap)
 |eptr {b o off:Nat} {c:Array Value} {cells:List V} {xs:List Value} (hE:Env.ro b=some c) (hx:∀j u,xs[j]? =some u->c[o+j]? =some u) (h:VRs g cells xs):VR g (.eptr cells off) (.pointer (some ⟨b,o+off,none⟩))
inductive VRs(g:G):List V->List Value->Prop
 |nil:VRs g [] []
 |cons {v:V} {u:Value} {a:List V} {x:List Value} (h:VR g v u) (t:VRs g a x):VRs g (v ::a) (u ::x)
end
mutual
theorem VR.mono{g g':G}(hg:g.le g'):∀{v:V} {u:Value},VR g v u->VR g' v u
 |_,_,.bool b=>.bool b
 |_,_,.int k n=>.int k n
 |_,_,.str s=>.str s
 |_,_,.nilp=>.nilp
 |_,_,.ptr h=>.ptr (hg _ _ h)
 |_,_,.nils=>.nils
 |_,_,.slx h=>.slx (hg _ _ h)
 |_,_,.sli h hc hl=>.sli (hg _ _ h) hc hl
 |_,_,.sl0 h hz=>.sl0 (hg _ _ h) hz
 |_,_,.slx0 h=>.slx0 (hg _ _ h)
 |_,_,.nilm=>.nilm
 |_,_,.map h=>.map (hg _ _ h)
 |_,_,.func ha hb=>.func (VRs.mono hg ha) (VRs.mono hg hb)
 |_,_,.yld h=>.yld (hg _ _ h)
 |_,_,.nilf=>.nilf
 |_,_,.iface h=>.iface (VR.mono hg h)
 |_,_,.nili=>.nili
 |_,_,.agg h=>.agg (VRs.mono hg h)
 |_,_,.tup h=>.tup (VRs.mono hg h)
 |_,_,.lst hE hx hl h=>.lst hE hx hl (VRs.mono hg h)
 |_,_,.lst0=>.lst0
 |_,_,.lstz=>.lstz
 |_,_,.eptr hE hx h=>.eptr hE hx (VRs.mono hg h)
theorem VRs.mono{g g':G}(hg:g.le g'):∀{v:List V} {u:List Value},VRs g v u->VRs g' v u
 |_,_,.nil=>.nil
 |_,_,.cons h t=>.cons (VR.mono hg h) (VRs.mono hg t)
end
theorem VRs.length{g:G}:∀{a:List V} {x:List Value},VRs g a x->a.length=x.length
 |_,_,.nil=>rfl
 |_,_,.cons _ t=>by simp [VRs.length t]
theorem VRs.append{g:G}:∀{a b:List V} {x y:List Value},VRs g a x->VRs g b y->VRs g (a++b) (x++y)
 |_,_,_,_,.nil,k=>k
 |_,_,_,_,.cons h t,k=>.cons h (VRs.append t k)
theorem VRs.get{g:G}:∀{a:List V} {x:List Value} {i:Nat} {v:V},VRs g a x->a[i]? =some v->∃u,x[i]? =some u/\VR g v u
 |_,_,_,_,.nil,h=>by simp at h
 |_,_,0,_,.cons h _,e=>by simp at e;subst e;exact⟨_,rfl,h⟩
 |_,_,i+1,_,.cons _ t,e=>by
  obtain⟨u,h1,h2⟩:=VRs.get (i:=i) t (by simpa using e);exact⟨u,by simpa using h1,h2⟩
theorem bV{α:Type}(l:List α):bY l=l.length:=by
 induction l with
 |nil=>rfl
 |cons a l ih=>show Nat.succ (bY l)=_;rw [ih];rfl
noncomputable def rdn(m:Nat)(f:F)(t:Nat):Option V:=if bit m t=true then lk f.loc t else lk f.tmp t
def FR(g:G)(m N:Nat)(f:F)(tmps:Array Value):Prop:=tmps.size=N/\∀t v,rdn m f t=some v->∃u,tmps[t]? =some u/\VR g v u
theorem FR.mono{g g':G}(hg:g.le g'){m N:Nat}{f:F}{tmps:Array Value}(h:FR g m N f tmps):FR g' m N f tmps:=
 ⟨h.1,λt v e=>let⟨u,h1,h2⟩:=h.2 t v e;⟨u,h1,h2.mono hg⟩⟩
def oM(g:G)(es:List (V×V))(m:List MapEntry):Prop:=VRs g (es.map (·.1)) (m.map (·.key))/\VRs g (es.map (·.2)) (m.map (·.val))
theorem oM.mono{g g':G}(hg:g.le g'){es:List (V×V)}{m:List MapEntry}(h:oM g es m):oM g' es m:=⟨h.1.mono hg,h.2.mono hg⟩
def kR(m:List MapEntry)(k:Nat):Prop:=k=m.length/\∀(i:Nat) (e:MapEntry),m[i]? =some e->e.born=i
theorem kR.nil:kR [] 0:=⟨rfl,λi e h=>by simp at h⟩
theorem kR.push{m:List MapEntry}{k:Nat}(h:kR m k){e:MapEntry}(he:e.born=k):kR (m++[e]) (k+1):=by
 refine⟨by simp [h.1],λi x hx=>?_⟩
 by_cases hi:i<m.length
 ·rw [List.getElem?_append_left hi]at hx;exact h.2 i x hx
 ·rw [List.getElem?_append_right (by omega)]at hx
  have:i-m.length=0:=by
   rcases Nat.eq_zero_or_pos (i-m.length)with h0|h0
   ·exact h0
   ·rw [List.getElem?_eq_none (by simp only [List.length_cons,List.length_nil];omega)]at hx;cases hx
  rw [this]at hx;simp at hx;subst hx;rw [he,h.1];omega
theorem kR.set{m:List MapEntry}{k:Nat}(h:kR m k){j:Nat}{e e':MapEntry}(h1:m[j]? =some e)(h2:e'.born=e.born):kR (m.set j e') k:=by
 refine⟨by simp [h.1],λi x hx=>?_⟩;rw [List.getElem?_set]at hx
 by_cases hj:j=i
 ·subst hj
  have hl:j<m.length:=by
   rcases Nat.lt_or_ge j m.length with q|q
   ·exact q
   ·rw [List.getElem?_eq_none q]at h1;cases h1
  simp [hl]at hx;subst hx;rw [h2];exact h.2 _ _ h1
 ·simp only [if_neg hj]at hx
  exact h.2 i x hx
def Bd(m:List MapEntry)(k:Nat):Prop:=(∀e,e∈m->e.born<k)/\(m.map (·.born)).Nodup
theorem Bd.push{m:List MapEntry}{k:Nat}(h:Bd m k){e:MapEntry}(he:e.born=k):Bd (m++[e]) (k+1):=by
 refine⟨λx hx=>?_,?_⟩
 ·rcases List.mem_append.1 hx with q|q
  ·exact Nat.lt_succ_of_lt (h.1 x q)
  ·rw [List.mem_singleton.1 q,he]
   exact Nat.lt_succ_self k
 ·rw [List.map_append,List.nodup_append]
  refine⟨h.2,by simp,λa ha b hb e'=>?_⟩;obtain⟨x,hx,rfl⟩:=List.mem_map.1 ha;have:=h.1 x hx;have hb:b=e.born:=by simpa using hb
  omega
theorem Bd.set{m:List MapEntry}{k:Nat}(h:Bd m k){j:Nat}{e e':MapEntry}(h1:m[j]? =some e)(h2:e'.born=e.born):Bd (m.set j e') k:=by
 have hmap:(m.set j e').map (·.born)=m.map (·.born):=by
  rw [List.map_set,h2];refine List.ext_getElem? λi=>?_;rw [List.getElem?_set]
  split
  ·rename_i q
   subst q
   split
   ·rw [List.getElem?_map,h1];rfl
   ·rename_i q
    rw [List.getElem?_eq_none (by omega)]
  ·rfl
 refine⟨λx hx=>?_,by rw [hmap];exact h.2⟩;have:x.born∈(m.set j e').map (·.born):=List.mem_map.2 ⟨x,hx,rfl⟩;rw [hmap]at this;obtain⟨y,hy,q⟩:=List.mem_map.1 this;have:=h.1 y hy;have q:y.born=x.born:=q;omega
theorem Bd.erase{m:List MapEntry}{k:Nat}(h:Bd m k)(j:Nat):Bd (m.eraseIdx j) k:=by
 refine⟨λx hx=>h.1 x (List.mem_of_mem_eraseIdx hx),?_⟩;exact((List.eraseIdx_sublist m j).map (·.born)).nodup h.2
theorem kR.dst{m:List MapEntry}{k:Nat}(h:kR m k):Bd m k:=by
 refine⟨λe he=>?_,?_⟩
 ·obtain⟨i,hi⟩:=List.mem_iff_getElem?.1 he
  rw [h.2 i e hi,h.1];exact(List.getElem?_eq_some_iff.1 hi).1
 ·have:m.map (·.born)=List.range m.length:=by
   refine List.ext_getElem? λi=>?_;rw [List.getElem?_map];cases hi:m[i]? with
   |none=>
    rw [List.getElem?_eq_none (by simpa using List.getElem?_eq_none_iff.1 hi)];rfl
   |some e=>
    rw [List.getElem?_range (List.getElem?_eq_some_iff.1 hi).1];show some e.born=_;rw [h.2 i e hi]
  rw [this];exact List.nodup_range
def zy(ord:Bool)(m:List MapEntry)(k:Nat):Prop:=Bd m k/\(ord=true->kR m k)
theorem kR.o{ord:Bool}{m:List MapEntry}{k:Nat}(h:kR m k):zy ord m k:=⟨h.dst,λ_=>h⟩
def Fg:LoopState->Nat
 |.ready=>0
 |.busy=>1
 |.done=>2
 |.exhausted=>3
def B5:Option X->Option (Option Code)
 |none=>some none
 |some (.exit k)=>some (some (.exit k))
 |some .ret=>some (some .ret)
 |some .norm=>none
def Cells(g:G)(w:World)(id n:Nat)(cs:Tr V):Prop:=
 ∃b o z c t,g id=some (b,o,z)/\w.heap[b]? =some (.cells c t (0,0))/\c.size=o+z/\n<=z/\n<=bR/\
  ∀j v,j<n->cs.get j=some v->∃u,c[o+j]? =some u/\VR g v u/\cE v=true
def StM(st:Option (List Nat×Nat))(since:Nat)(seen:Array Nat)(last:Nat):Prop:=
 match st with
 |none=>seen=#[]
 |some (l,n)=>seen=l.toArray/\since=n/\last=n
def BR(T:Ty)(g:G)(w:World)(id:Nat):Blk->Prop
 |.cells n cs _ _=>Cells g w id n cs
 |.ro n cs=>Cells g w id n cs
 |.map es ord=>∃b o z m k,g id=some (b,o,z)/\w.heap[b]? =some (.map m k)/\oM g es m.toList/\zy ord m.toList k
 |.siter n c pos=>∃b o z s,g id=some (b,o,z)/\w.heap[b]? =some (.stringIter s pos)/\s.size=n/\bT s.data.toList=c/\o=0
 |.loop st f ps assign body j=>∃b o z l m N,g id=some (b,o,z)/\w.heap[b]? =some (.loop l)/\Fg l.state=st/\B5 j=some l.pending/\FR g m N f l.tmps/\
   fK (λt=>dst m N (some t)) l.params.toList=some ps/\comp T m N l.assign=some assign/\comp T m N l.body=some body
 |.dead=>True
 |.miter m st=>∃b z bm om zm since seen last,g id=some (b,0,z)/\g m=some (bm,om,zm)/\w.heap[b]? =some (.mapIter (some bm) since seen last)/\StM st since seen last
theorem Cells.mono{g g':G}(hg:g.le g'){w:World}{id n:Nat}{cs:Tr V}(h:Cells g w id n cs):Cells g' w id n cs:=by
 obtain⟨b,o,z,c,t,h1,h2,h3,h4,h5,h6⟩:=h;refine⟨b,o,z,c,t,hg _ _ h1,h2,h3,h4,h5,λj v hj hv=>?_⟩;obtain⟨u,k1,k2,k3⟩:=h6 j v hj hv;exact⟨u,k1,k2.mono hg,k3⟩
theorem BR.mono{T:Ty}{g g':G}(hg:g.le g'){w:World}{id:Nat}{b:Blk}(h:BR T g w id b):BR T g' w id b:=by
 cases b with
 |cells=>exact Cells.mono hg h
 |ro=>exact Cells.mono hg h
 |map es=>obtain⟨b,o,z,m,k,h1,h2,h3,h4⟩:=h;exact⟨b,o,z,m,k,hg _ _ h1,h2,h3.mono hg,h4⟩
 |siter=>obtain⟨b,o,z,s,h1,h2⟩:=h;exact⟨b,o,z,s,hg _ _ h1,h2⟩
 |loop=>obtain⟨b,o,z,l,m,N,h1,h2,h3,h4,h5,h6⟩:=h;exact⟨b,o,z,l,m,N,hg _ _ h1,h2,h3,h4,h5.mono hg,h6⟩
 |dead=>trivial
 |miter m=>obtain⟨b,z,bm,om,zm,s,sn,l,h1,h2,h3⟩:=h;exact⟨b,z,bm,om,zm,s,sn,l,hg _ _ h1,hg _ _ h2,h3⟩
theorem BR.move{T:Ty}{g:G}{w w':World}{id b o z:Nat}{k:Blk}(hg:g id=some (b,o,z))(hw:w'.heap[b]? =w.heap[b]?)(h:BR T g w id k):BR T g w' id k:=by
 cases k with
 |cells|ro=>
  obtain⟨b',o',z',c,t,h1,h2⟩:=h;obtain⟨rfl,rfl,rfl⟩:b=b'/\o=o'/\z=z':=by rw [hg]at h1;simpa using h1
  exact⟨b,o,z,c,t,h1,hw.trans h2.1,h2.2⟩
 |map=>
  obtain⟨b',o',z',m,c,h1,h2⟩:=h;obtain⟨rfl,rfl,rfl⟩:b=b'/\o=o'/\z=z':=by rw [hg]at h1;simpa using h1
  exact⟨b,o,z,m,c,h1,hw.trans h2.1,h2.2⟩
 |siter=>
  obtain⟨b',o',z',s,h1,h2⟩:=h;obtain⟨rfl,rfl,rfl⟩:b=b'/\o=o'/\z=z':=by rw [hg]at h1;simpa using h1
  exact⟨b,o,z,s,h1,hw.trans h2.1,h2.2⟩
 |loop=>
  obtain⟨b',o',z',l,m,N,h1,h2⟩:=h;obtain⟨rfl,rfl,rfl⟩:b=b'/\o=o'/\z=z':=by rw [hg]at h1;simpa using h1
  exact⟨b,o,z,l,m,N,h1,hw.trans h2.1,h2.2⟩
 |dead=>trivial
 |miter=>
  obtain⟨b',z',bm,om,zm,s,sn,l,h1,h2,h3⟩:=h;obtain⟨rfl,rfl,rfl⟩:b=b'/\o=0/\z=z':=by rw [hg]at h1;simpa using h1
  exact⟨b,z,bm,om,zm,s,sn,l,hg,h2,hw.trans h3.1,h3.2⟩
def Blk.kin:Blk->Option (Option (Nat×Nat)×Bool)
 |.cells _ _ up ch=>some (up,ch)
 |_=>none
inductive Up(h:H):Nat->Nat->Nat->Prop
 |one {i j d:Nat} {b:Blk} {ch:Bool} (e:h.blk i=some b) (k:b.kin=some (some (j,d),ch)):Up h i j d
 |step {i j l d d':Nat} {b:Blk} {ch:Bool} (e:h.blk i=some b) (k:b.kin=some (some (j,d),ch)) (u:Up h j l d'):Up h i l (d'+d)
def Kin(h h':H):Prop:=∀i b k,h.blk i=some b->b.kin=some k->∃b',h'.blk i=some b'/\b'.kin=some k
theorem Up.kin{h h':H}(k:Kin h h'){i j d:Nat}(u:Up h i j d):Up h' i j d:=by
 induction u with
 |one e k1=>obtain⟨b',e',k'⟩:=k _ _ _ e k1;exact .one e' k'
 |step e k1 _ ih=>obtain⟨b',e',k'⟩:=k _ _ _ e k1;exact .step e' k' ih
def Blk.len:Blk->Nat
 |.cells n _ _ _=>n
 |_=>0
def Blk.live:Blk->Bool
 |.dead=>false
 |_=>true
def Blk.isRo:Blk->Bool
 |.ro _ _=>true
 |_=>false
theorem Blk.isRo_kin{b:Blk}(h:b.isRo=true):b.kin=none:=by cases b<;>first|rfl|cases h
structure WR(T:Ty)(g:G)(h:H)(w:World):Prop where
 bound:h.next<=bR
 top:∀id b,h.blk id=some b->id<h.next
 dom:∀id x,g id=some x->id<h.next
 lt:∀id b o z,g id=some (b,o,z)->b<w.heap.size
 blk:∀id x b,g id=some x->h.blk id=some b->BR T g w id b
 mates:∀i j b o z o' z' bi bj,i≠j->g i=some (b,o,z)->g j=some (b,o',z')->h.blk i=some bi->h.blk j=some bj->bi.live=true->bj.live=true->
  (∃d,Up h i j d/\o=o'+d)\/(∃d,Up h j i d/\o'=o+d)\/(bi.isRo=true/\bj.isRo=true)
 kids:∀i b j d ch,h.blk i=some b->b.kin=some (some (j,d),ch)->∃b' up,h.blk j=some b'/\b'.kin=some (up,true)/\(g i≠none->g j≠none)
 ext:∀i b j d ch b',h.blk i=some b->b.kin=some (some (j,d),ch)->h.blk j=some b'->b'.len<=d+b.len
structure Ext(T:Ty)(g:G)(h:H)(w:World)(g':G)(h':H)(w':World):Prop where
 le:g.le g'
 next:h.next<=h'.next
 wr:WR T g' h' w'
 un:∀id,id<h.next->g id=none->g' id=none/\h'.blk id=h.blk id
 size:w.heap.size<=w'.heap.size
 keep:∀b,b<w.heap.size->(∀id o z,g id≠some (b,o,z))->w'.heap[b]? =w.heap[b]?
 fresh:∀id b o z,g' id=some (b,o,z)->g id=none->w.heap.size<=b\/∃i o' z',g i=some (b,o',z')
 ro:∀id b o z n cs,g id=some (b,o,z)->h.blk id=some (.ro n cs)->h'.blk id=some (.ro n cs)/\w'.heap[b]? =w.heap[b]?
 os:w'.os=w.os
 tape:w'.tape=w.tape
 output:w'.output=w.output
theorem Ext.refl{T:Ty}{g:G}{h:H}{w:World}(k:WR T g h w):Ext T g h w g h w:=
 ⟨g.le_refl,Nat.le_refl _,k,λ_ _ e=>⟨e,rfl⟩,Nat.le_refl _,λ_ _ _=>rfl,(λid b o z h1 h2=>by rw [h2]at h1;cases h1),λ_ _ _ _ _ _ _ e=>⟨e,rfl⟩,rfl,rfl,rfl⟩
theorem Ext.trans{T:Ty}{g1 g2 g3:G}{h1 h2 h3:H}{w1 w2 w3:World}(a:Ext T g1 h1 w1 g2 h2 w2)(b:Ext T g2 h2 w2 g3 h3 w3):Ext T g1 h1 w1 g3 h3 w3:=by
 refine⟨G.le_trans a.le b.le,Nat.le_trans a.next b.next,b.wr,λid hi e=>?_,Nat.le_trans a.size b.size,λk hk hn=>?_,λid k o z e3 e1=>?_,λid k o z n cs e hb=>?_,b.os.trans a.os,b.tape.trans a.tape,b.output.trans a.output⟩
 ·obtain⟨k1,k2⟩:=a.un id hi e
  obtain⟨k3,k4⟩:=b.un id (Nat.lt_of_lt_of_le hi a.next) k1;exact⟨k3,k4.trans k2⟩
 ·refine(b.keep k (Nat.lt_of_lt_of_le hk a.size) λid o z e=>?_).trans (a.keep k hk hn)
  cases e1:g1 id with
  |some x=>rw [a.le _ _ e1]at e;obtain rfl:=Option.some.inj e;exact hn _ _ _ e1
  |none=>
   rcases a.fresh id k o z e e1 with h | ⟨i,o',z',h⟩
   ·omega
   ·exact hn _ _ _ h
 ·cases e2:g2 id with
  |some x=>
   rw [b.le _ _ e2]at e3;obtain rfl:=Option.some.inj e3;exact a.fresh id k o z e2 e1
  |none=>
   rcases b.fresh id k o z e3 e2 with h | ⟨i,o',z',h⟩
   ·exact .inl (Nat.le_trans a.size h)
   ·cases ei:g1 i with
    |none=>exact a.fresh i k o' z' h ei
    |some x=>rw [a.le _ _ ei]at h;obtain rfl:=Option.some.inj h;exact .inr ⟨i,o',z',ei⟩
 ·obtain⟨k1,k2⟩:=a.ro id k o z n cs e hb
  obtain⟨k3,k4⟩:=b.ro id k o z n cs (a.le _ _ e) k1;exact⟨k3,k4.trans k2⟩
def jL(g:G)(w:World):Prop:=∀b c,Env.ro b=some c->(∃t:TypeId×(Nat×Nat),w.heap[b]? =some (.cells c t.1 t.2))/\∀id o z,g id≠some (b,o,z)
theorem jL.ext{T:Ty}{g g':G}{h h':H}{w w':World}(k:jL g w)(x:Ext T g h w g' h' w'):jL g' w':=λb c hE=>by
 obtain⟨⟨t,h1⟩,h2⟩:=k b c hE;have hlt:b<w.heap.size:=(Array.getElem?_eq_some_iff.1 h1).1;refine⟨⟨t,(x.keep b hlt h2).trans h1⟩,λid o z e=>?_⟩;cases hg:g id with
 |some y=>rw [x.le _ _ hg]at e;cases e;exact h2 id o z hg
 |none=>
  rcases x.fresh id b o z e hg with q | ⟨i,o',z',q⟩
  ·omega
  ·exact h2 i o' z' q
end
section
variable [Env]
set_option linter.unusedSectionVars false
theorem pX(h:H)(id j n:Nat)(b:Blk)(hk:id<bR):(⟨h.t.put id (some b),n⟩:H).blk j=if j=id then some b else h.blk j:=Tr.get_put h.t id j (some b) hk
def eF(g:G)(id:Nat)(x:Nat×Nat×Nat):G:=λj=>if j=id then some x else g j
theorem cm(g:G)(id:Nat)(x:Nat×Nat×Nat):eF g id x id=some x:=by simp [eF]
theorem dn{g:G}{id j:Nat}(x:Nat×Nat×Nat)(h:j≠id):eF g id x j=g j:=by simp [eF,h]
theorem eS{g:G}{id:Nat}(x:Nat×Nat×Nat)(h:g id=none):g.le (eF g id x):=by
 intro j y e
 by_cases hj:j=id
 ·subst hj;rw [h]at e;cases e
 ·rw [dn x hj];exact e
theorem Up.first{h:H}{i j d:Nat}(u:Up h i j d):∃b x ch,h.blk i=some b/\b.kin=some (some x,ch):=by
 cases u with
 |one e k=>exact⟨_,_,_,e,k⟩
 |step e k _=>exact⟨_,_,_,e,k⟩
theorem WR.last{T:Ty}{g:G}{h:H}{w:World}(r:WR T g h w){i j d:Nat}(u:Up h i j d):∃b up,h.blk j=some b/\b.kin=some (up,true):=by
 induction u with
 |one e k=>obtain⟨b,up,h1,h2,_⟩:=r.kids _ _ _ _ _ e k;exact⟨b,up,h1,h2⟩
 |step _ _ _ ih=>exact ih
theorem WR.placed{T:Ty}{g:G}{h:H}{w:World}(r:WR T g h w){i j d:Nat}(u:Up h i j d)(hi:g i≠none):g j≠none:=by
 induction u with
 |one e k=>obtain⟨b,up,_,_,h3⟩:=r.kids _ _ _ _ _ e k;exact h3 hi
 |step e k _ ih=>obtain⟨b,up,_,_,h3⟩:=r.kids _ _ _ _ _ e k;exact ih (h3 hi)
theorem WR.add{T:Ty}{g:G}{h h':H}{w:World}(r:WR T g h w){b:Blk}(hn:h.new b=some h')(hb:b.kin=none\/b.kin=some (none,false)):
  WR T g h' w/\h'.next=h.next+1/\(∀j,h'.blk j=if j=h.next then some b else h.blk j)/\g h.next=none:=by
 unfold H.new at hn;obtain⟨h1,h2⟩:=bK.1 hn;obtain rfl:=(Option.some.inj h2).symm;have hk:h.next<bR:=by simpa using h1
 have hblk:∀j,(⟨h.t.put h.next (some b),Nat.succ h.next⟩:H).blk j=if j=h.next then some b else h.blk j:=λj=>pX h h.next j _ b hk
 have hnone:g h.next=none:=by
  cases e:g h.next with
  |none=>rfl
  |some x=>exact absurd (r.dom _ _ e) (by omega)
 have old:∀{i:Nat} {x:Nat×Nat×Nat} {k:Blk},g i=some x->(⟨h.t.put h.next (some b),Nat.succ h.next⟩:H).blk i=some k->h.blk i=some k:=by
  intro i x k e1 e2;rw [hblk,if_neg (by have:=r.dom _ _ e1;omega)]at e2;exact e2
 have kin:Kin h ⟨h.t.put h.next (some b),Nat.succ h.next⟩:=λi' b'' k e k'=>⟨b'',by rw [hblk,if_neg (by have:=r.top _ _ e;omega)];exact e,k'⟩
 refine⟨⟨hk,λid k e=>?_,λid x e=>Nat.lt_succ_of_lt (r.dom id x e),r.lt,λid x k e1 e2=>r.blk id x k e1 (old e1 e2),λi j b' o z o' z' bi bj hij e1 e2 e3 e4 l1 l2=>?_,λi k j d ch e1 e2=>?_,λi k j d ch k' e1 e2 e3=>?_⟩,rfl,hblk,hnone⟩
 ·rw [hblk]at e
  by_cases hi:id=h.next
  ·subst hi;exact Nat.lt_succ_self _
  ·rw [if_neg hi]at e;exact Nat.lt_succ_of_lt (r.top _ _ e)
 ·rcases r.mates i j b' o z o' z' bi bj hij e1 e2 (old e1 e3) (old e2 e4) l1 l2 with⟨d,u,e⟩ | ⟨d,u,e⟩|x1
  ·exact .inl ⟨d,u.kin kin,e⟩
  ·exact .inr (.inl ⟨d,u.kin kin,e⟩)
  ·exact .inr (.inr x1)
 ·rw [hblk]at e1
  by_cases hi:i=h.next
  ·rw [if_pos hi]at e1
   obtain rfl:=Option.some.inj e1;rcases hb with hb|hb<;>rw [hb]at e2<;>cases e2
  ·rw [if_neg hi]at e1
   obtain⟨b',up,k1,k2,k3⟩:=r.kids i k j d ch e1 e2;exact⟨b',up,by rw [hblk,if_neg (by have:=r.top _ _ k1;omega)];exact k1,k2,k3⟩
 ·rw [hblk]at e1
  by_cases hi:i=h.next
  ·rw [if_pos hi]at e1
   obtain rfl:=Option.some.inj e1;rcases hb with hb|hb<;>rw [hb]at e2<;>cases e2
  ·rw [if_neg hi]at e1
   obtain⟨b',up,k1,k2,k3⟩:=r.kids i k j d ch e1 e2;rw [hblk,if_neg (by have:=r.top _ _ k1;omega)]at e3;exact r.ext i k j d ch k' e1 e2 e3
theorem dV{w:World}{o:Obj}{b:Nat}(h:b<w.heap.size):(w.alloc o).heap[b]? =w.heap[b]? :=by
 show(w.heap.push o)[b]? =_;rw [Array.getElem?_push,if_neg (by omega)]
theorem da(w:World)(o:Obj):(w.alloc o).heap[w.heap.size]? =some o:=by
 show(w.heap.push o)[w.heap.size]? =_;simp
theorem WR.place{T:Ty}{g:G}{h:H}{w:World}(r:WR T g h w){id z:Nat}{b:Blk}{o:Obj}(hi:id<h.next)(hg:g id=none)(hb:h.blk id=some b)(hkin:b.kin=none\/b.kin=some (none,false))
  (hr:BR T (eF g id (w.heap.size,0,z)) (w.alloc o) id b):WR T (eF g id (w.heap.size,0,z)) h (w.alloc o):=by
 have le:=eS (w.heap.size,0,z) hg;have cases':∀{i:Nat} {x:Nat×Nat×Nat},eF g id (w.heap.size,0,z) i=some x->(i=id/\x=(w.heap.size,0,z))\/(i≠id/\g i=some x):=by
  intro i x e
  by_cases h1:i=id
  ·subst h1;rw [cm]at e;exact .inl ⟨rfl,(Option.some.inj e).symm⟩
  ·rw [dn _ h1]at e;exact .inr ⟨h1,e⟩
 refine⟨r.bound,r.top,λi x e=>?_,λi b' o' z' e=>?_,λi x k e1 e2=>?_,λi j b' o1 z1 o2 z2 bi bj hij e1 e2 e3 e4 l1 l2=>?_,λi q j d ch e1 e2=>?_,r.ext⟩
 ·rcases cases' e with⟨rfl,_⟩ | ⟨_,e⟩
  ·exact hi
  ·exact r.dom _ _ e
 ·rw [World.size_alloc]
  rcases cases' e with⟨_,e⟩ | ⟨_,e⟩
  ·cases e;omega
  ·have:=r.lt _ _ _ _ e;omega
 ·rcases cases' e1 with⟨rfl,_⟩ | ⟨_,e⟩
  ·rw [hb]at e2;obtain rfl:=Option.some.inj e2;exact hr
  ·obtain⟨b',o',z'⟩:=x
   exact BR.move e1 (dV (r.lt _ _ _ _ e)) ((r.blk _ _ _ e e2).mono le)
 ·rcases cases' e1 with⟨rfl,x1⟩ | ⟨_,k1⟩<;>rcases cases' e2 with⟨rfl,x2⟩ | ⟨_,k2⟩
  ·exact absurd rfl hij
  ·cases x1;have:=r.lt _ _ _ _ k2;omega
  ·cases x2;have:=r.lt _ _ _ _ k1;omega
  ·exact r.mates i j b' o1 z1 o2 z2 bi bj hij k1 k2 e3 e4 l1 l2
 ·obtain⟨b',up,k1,k2,k3⟩:=r.kids i q j d ch e1 e2
  refine⟨b',up,k1,k2,λh1=>?_⟩;have:i≠id:=by
   intro h2;subst h2;rw [hb]at e1;cases e1;rcases hkin with h|h<;>rw [h]at e2<;>cases e2
  rw [dn _ this]at h1;intro h3
  by_cases h4:j=id
  ·subst h4;exact k3 h1 hg
  ·rw [dn _ h4]at h3;exact k3 h1 h3
theorem Ext.new{T:Ty}{g:G}{h h':H}{w:World}(r:WR T g h w){b:Blk}{o:Obj}{z:Nat}(hn:h.new b=some h')(hb:b.kin=none\/b.kin=some (none,false))
  (hr:BR T (eF g h.next (w.heap.size,0,z)) (w.alloc o) h.next b):Ext T g h w (eF g h.next (w.heap.size,0,z)) h' (w.alloc o):=by
 obtain⟨r1,e1,e2,e3⟩:=r.add hn hb;have b1:h'.blk h.next=some b:=by rw [e2,if_pos rfl]
 have r2:=r1.place (by omega) e3 b1 hb hr;refine⟨eS _ e3,by omega,r2,λid hi e=>⟨by rw [dn _ (by omega)];exact e,by rw [e2,if_neg (by omega)]⟩,by rw [World.size_alloc];omega,λk hk _=>dV hk,λid k o' z' e e0=>?_,λid k o' z' n cs e hb'=>⟨by rw [e2,if_neg (by have:=r.dom _ _ e;omega)];exact hb',dV (r.lt _ _ _ _ e)⟩,rfl,rfl,rfl⟩
 by_cases h1:id=h.next
 ·subst h1;rw [cm]at e;cases e;exact .inl (Nat.le_refl _)
 ·rw [dn _ h1,e0]at e;cases e
theorem WR.lone{T:Ty}{g:G}{h:H}{w:World}(r:WR T g h w){i j b o z o' z':Nat}{bi bj:Blk}(hij:i≠j)(e1:g i=some (b,o,z))(e2:g j=some (b,o',z'))
  (e3:h.blk i=some bi) (e4:h.blk j=some bj) (l1:bi.live=true) (l2:bj.live=true) (hk:bi.kin=none\/bi.kin=some (none,false)) (hr:bi.isRo=false\/bj.isRo=false):False:=by
 rcases r.mates i j b o z o' z' bi bj hij e1 e2 e3 e4 l1 l2 with⟨d,u,_⟩ | ⟨d,u,_⟩ | ⟨x1,x2⟩
 ·obtain⟨b',x,ch,k1,k2⟩:=u.first
  rw [e3]at k1;obtain rfl:=Option.some.inj k1;rcases hk with hk|hk<;>rw [hk]at k2<;>cases k2
 ·obtain⟨b',up,k1,k2⟩:=r.last u
  rw [e3]at k1;obtain rfl:=Option.some.inj k1;rcases hk with hk|hk<;>rw [hk]at k2<;>cases k2
 ·rcases hr with h|h
  ·rw [x1]at h;cases h
  ·rw [x2]at h;cases h
theorem Ext.upd{T:Ty}{g:G}{h:H}{w w':World}(r:WR T g h w){id b o z:Nat}{k k':Blk}(e1:g id=some (b,o,z))(e2:h.blk id=some k)(l:k.live=true)
  (hk:k.kin=none) (hk':k'.kin=none) (hro:∀n cs,k≠.ro n cs) (hw:∀j,j≠b->w'.heap[j]? =w.heap[j]?) (hs:w'.heap.size=w.heap.size) (ho:w'.os=w.os) (ht:w'.tape=w.tape) (hp:w'.output=w.output)
  (hr:BR T g w' id k'):Ext T g h w g ⟨h.t.put id (some k'),h.next⟩ w':=by
 have notRo:k.isRo=false:=by
  cases k with
  |ro n cs=>exact absurd rfl (hro n cs)
  |_=>rfl
 have hi:id<bR:=Nat.lt_of_lt_of_le (r.dom _ _ e1) r.bound;have hblk:∀j,(⟨h.t.put id (some k'),h.next⟩:H).blk j=if j=id then some k' else h.blk j:=λj=>pX h id j _ k' hi
 have kin:Kin h ⟨h.t.put id (some k'),h.next⟩:=λi b' q e q'=>by
  refine⟨b',?_,q'⟩;rw [hblk,if_neg]
  ·exact e
  ·intro h1
   subst h1;rw [e2]at e;obtain rfl:=Option.some.inj e;rw [hk]at q';cases q'
 have old:∀{i:Nat} {q:Blk},(⟨h.t.put id (some k'),h.next⟩:H).blk i=some q->q.live=true->∃q',h.blk i=some q'/\q'.live=true:=by
  intro i q e lq;rw [hblk]at e
  by_cases h1:i=id
  ·subst h1;exact⟨k,e2,l⟩
  ·rw [if_neg h1]at e;exact⟨q,e,lq⟩
 have wr:WR T g ⟨h.t.put id (some k'),h.next⟩ w':=by
  refine⟨r.bound,λi q e=>?_,r.dom,λi b' o' z' e=>by rw [hs];exact r.lt _ _ _ _ e,λi x q e3 e4=>?_,λi j b' o1 z1 o2 z2 bi bj hij e3 e4 e5 e6 l1 l2=>?_,λi q j d ch e3 e4=>?_,λi q j d ch q' e3 e4 e5=>?_⟩
  ·rw [hblk]at e
   by_cases h1:i=id
   ·subst h1;exact r.dom _ _ e1
   ·rw [if_neg h1]at e;exact r.top _ _ e
  ·rw [hblk]at e4
   by_cases h1:i=id
   ·subst h1;rw [if_pos rfl]at e4;obtain rfl:=Option.some.inj e4;exact hr
   ·rw [if_neg h1]at e4
    obtain⟨b',o',z'⟩:=x
    by_cases hb:b'=b
    ·subst hb
     cases lq:q.live with
     |true=>exact(r.lone (λh2=>h1 h2.symm) e1 e3 e2 e4 l lq (.inl hk) (.inl notRo)).elim
     |false=>cases q<;>first|trivial|cases lq
    ·exact BR.move e3 (hw _ hb) (r.blk _ _ _ e3 e4)
  ·obtain⟨q1,m1,m2⟩:=old e5 l1
   obtain⟨q2,m3,m4⟩:=old e6 l2;rcases r.mates i j b' o1 z1 o2 z2 q1 q2 hij e3 e4 m1 m3 m2 m4 with⟨d,u,e⟩ | ⟨d,u,e⟩ | ⟨x1,x2⟩
   ·exact .inl ⟨d,u.kin kin,e⟩
   ·exact .inr (.inl ⟨d,u.kin kin,e⟩)
   ·have ne:∀{l:Nat} {q q':Blk},h.blk l=some q->q.isRo=true->(⟨h.t.put id (some k'),h.next⟩:H).blk l=some q'->q'.isRo=true:=by
     intro l q q' f1 f2 f3;rw [hblk]at f3
     by_cases h1:l=id
     ·subst h1
      rw [e2]at f1;cases f1;rw [notRo]at f2;cases f2
     ·rw [if_neg h1,f1]at f3
      cases f3;exact f2
    exact .inr (.inr ⟨ne m1 x1 e5,ne m3 x2 e6⟩)
  ·rw [hblk]at e3
   by_cases h1:i=id
   ·subst h1;rw [if_pos rfl]at e3;obtain rfl:=Option.some.inj e3;rw [hk']at e4;cases e4
   ·rw [if_neg h1]at e3
    obtain⟨b',up,m1,m2,m0⟩:=r.kids i q j d ch e3 e4;obtain⟨b'',m3,m4⟩:=kin _ _ _ m1 m2;exact⟨b'',up,m3,m4,m0⟩
  ·rw [hblk]at e3
   by_cases h1:i=id
   ·subst h1;rw [if_pos rfl]at e3;obtain rfl:=Option.some.inj e3;rw [hk']at e4;cases e4
   ·rw [if_neg h1]at e3
    rw [hblk]at e5
    by_cases h2:j=id
    ·subst h2
     obtain⟨b',up,m1,m2,_⟩:=r.kids i q j d ch e3 e4;rw [e2]at m1;obtain rfl:=Option.some.inj m1;rw [hk]at m2;cases m2
    ·rw [if_neg h2]at e5
     exact r.ext i q j d ch q' e3 e4 e5
 refine⟨g.le_refl,Nat.le_refl _,wr,λi h1 e=>⟨e,?_⟩,Nat.le_of_eq hs.symm,λj _ hn=>hw j λh1=>hn id o z (h1▸e1),(λi b' o' z' h1 h2=>by rw [h2]at h1;cases h1),λi b' o' z' n cs e e'=>⟨?_,hw b' λh1=>?_⟩,ho,ht,hp⟩
 ·rw [hblk,if_neg]
  intro h2;subst h2;rw [e1]at e;cases e
 ·rw [hblk,if_neg]
  ·exact e'
  ·intro h2;subst h2;rw [e2]at e';exact hro n cs (Option.some.inj e')
 ·subst h1
  by_cases h2:i=id
  ·subst h2;rw [e2]at e';exact hro n cs (Option.some.inj e')
  ·exact r.lone (λh3=>h2 h3.symm) e1 e e2 e' l rfl (.inl hk) (.inl notRo)
end
section
variable [Env]
set_option linter.unusedSectionVars false
def kH(h h':H):Prop:=h'.next=h.next/\∀j,h'.blk j=h.blk j\/
 ∃n cs cs' up ch,h.blk j=some (.cells n cs up ch)/\h'.blk j=some (.cells n cs' up ch)/\∀q v,cs'.get q=some v->cs.get q=some v
theorem kH.refl(h:H):kH h h:=⟨rfl,λ_=>.inl rfl⟩
theorem kH.trans{a b c:H}(h:kH a b)(k:kH b c):kH a c:=by
 refine⟨k.1.trans h.1,λj=>?_⟩;rcases h.2 j with e1 | ⟨n,cs,cs',up,ch,e1,e2,e3⟩
 ·rcases k.2 j with e4 | ⟨n,cs,cs',up,ch,e4,e5,e6⟩
  ·exact .inl (e4.trans e1)
  ·exact .inr ⟨n,cs,cs',up,ch,e1▸e4,e5,e6⟩
 ·rcases k.2 j with e4 | ⟨n',cs1,cs2,up',ch',e4,e5,e6⟩
  ·exact .inr ⟨n,cs,cs',up,ch,e1,e4.trans e2,e3⟩
  ·rw [e2]at e4
   cases e4;exact .inr ⟨n,cs,cs2,up,ch,e1,e5,λq v hq=>e3 q v (e6 q v hq)⟩
theorem kH.kin{h h':H}(l:kH h h'):Kin h h':=by
 intro i b k e1 e2;rcases l.2 i with e | ⟨n,cs,cs',up,ch,e3,e4,_⟩
 ·exact⟨b,e.trans e1,e2⟩
 ·rw [e3]at e1
  cases e1;exact⟨_,e4,e2⟩
theorem kH.back{h h':H}(l:kH h h'){i:Nat}{b:Blk}(e:h'.blk i=some b):∃b',h.blk i=some b'/\b'.kin=b.kin/\b'.live=b.live/\b'.len=b.len:=by
 rcases l.2 i with k | ⟨n,cs,cs',up,ch,e3,e4,_⟩
 ·exact⟨b,k▸e,rfl,rfl,rfl⟩
 ·rw [e4]at e
  cases e;exact⟨_,e3,rfl,rfl,rfl⟩
theorem kH.isRo{h h':H}(l:kH h h'){i:Nat}{b b':Blk}(e1:h.blk i=some b)(e2:b.isRo=true)(e3:h'.blk i=some b'):b'.isRo=true:=by
 rcases l.2 i with k | ⟨n,cs,cs',up,ch,k1,k2,_⟩
 ·rw [k,e1]at e3
  cases e3;exact e2
 ·rw [e1]at k1
  cases k1;cases e2
theorem kH.wr{T:Ty}{g:G}{h h':H}{w:World}(l:kH h h')(r:WR T g h w):WR T g h' w:=by
 refine⟨l.1▸r.bound,λid b e=>?_,λid x e=>l.1▸r.dom id x e,r.lt,λid x b e1 e2=>?_,λi j b o z o' z' bi bj hij e1 e2 e3 e4 l1 l2=>?_,λi b j d ch e1 e2=>?_,λi b j d ch b' e1 e2 e3=>?_⟩
 ·obtain⟨b',e',_⟩:=l.back e
  exact l.1▸r.top _ _ e'
 ·rcases l.2 id with k | ⟨n,cs,cs',up,ch,e3,e4,e5⟩
  ·exact r.blk id x b e1 (k▸e2)
  ·rw [e4]at e2
   cases e2;obtain⟨b,o,z,c,t,k1,k2,k3,k4,k5,k6⟩:=r.blk id x _ e1 e3;exact⟨b,o,z,c,t,k1,k2,k3,k4,k5,λj v hj hv=>k6 j v hj (e5 j v hv)⟩
 ·obtain⟨b1,m1,m2,m3,_⟩:=l.back e3
  obtain⟨b2,m4,m5,m6,_⟩:=l.back e4;rcases r.mates i j b o z o' z' b1 b2 hij e1 e2 m1 m4 (m3.trans l1) (m6.trans l2)with⟨d,u,e⟩ | ⟨d,u,e⟩ | ⟨x1,x2⟩
  ·exact .inl ⟨d,u.kin l.kin,e⟩
  ·exact .inr (.inl ⟨d,u.kin l.kin,e⟩)
  ·exact .inr (.inr ⟨l.isRo m1 x1 e3,l.isRo m4 x2 e4⟩)
 ·obtain⟨b1,m1,m2,m3⟩:=l.back e1
  obtain⟨b2,up,m4,m5,m8⟩:=r.kids i b1 j d ch m1 (m2.trans e2);obtain⟨b3,m6,m7⟩:=l.kin _ _ _ m4 m5;exact⟨b3,up,m6,m7,m8⟩
 ·obtain⟨b1,m1,m2,_,m3⟩:=l.back e1
  obtain⟨b2,m4,_,_,m5⟩:=l.back e3;have:=r.ext i b1 j d ch b2 m1 (m2.trans e2) m4;omega
def ut(h:H)(j q:Nat):Prop:=∀n cs up ch,h.blk j=some (.cells n cs up ch)->cs.get q=none
theorem ut.less{h h':H}(l:kH h h'){j q:Nat}(k:ut h j q):ut h' j q:=by
 intro n cs up ch e;rcases l.2 j with e1 | ⟨n',cs1,cs2,up',ch',e1,e2,e3⟩
 ·exact k n cs up ch (e1▸e)
 ·rw [e2]at e
  cases e;have:=k _ _ _ _ e1;cases hq:cs.get q with
  |none=>rfl
  |some v=>rw [e3 q v hq]at this;cases this
theorem oZ(up:Option (Nat×Nat))(i:Nat)(h:H):mA 0 up i h=Option.rec (motive:=λ_=>Option H) (some h) (λ_=>none) up:=rfl
theorem pb(f:Nat)(up:Option (Nat×Nat))(i:Nat)(h:H):mA (f+1) up i h=Option.rec (motive:=λ_=>Option H) (some h)
   (λp=>ob (h.blk p.1) λb=>match b with
    |.cells n cs up' child=>oif (Nat.blt (Nat.add p.2 i) bR) <| mA f up' (Nat.add p.2 i) ⟨h.t.put p.1 (some (.cells n (cs.put (Nat.add p.2 i) none) up' child)),h.next⟩
    |.dead=>some h
    |_=>none) up:=rfl
theorem Ai(f:Nat):∀(up:Option (Nat×Nat)) (i:Nat) (h h':H),(∀j b,h.blk j=some b->j<bR)->mA f up i h=some h'->
  kH h h'/\(∀p d,up=some (p,d)->ut h' p (d+i)/\∀j e,Up h p j e->ut h' j (e+d+i))/\
  ∀j,(∀p d,up=some (p,d)->j≠p/\∀e,¬Up h p j e)->h'.blk j=h.blk j:=by
 induction f with
 |zero=>
  intro up i h h' _ e;cases up with
  |none=>rw [oZ]at e;cases e;exact⟨.refl _,(λ_ _ k=>by cases k),λ_ _=>rfl⟩
  |some p=>rw [oZ]at e;cases e
 |succ f ih=>
  intro up i h h' hb e;cases up with
  |none=>rw [pb]at e;cases e;exact⟨.refl _,(λ_ _ k=>by cases k),λ_ _=>rfl⟩
  |some pd=>
   obtain⟨p,dp⟩:=pd;rw [pb]at e;obtain⟨b,e1,e2⟩:=bE.1 e;clear e;simp only []at e1 e2;cases b with
   |cells n cs up' ch=>
    obtain⟨e3,e4⟩:=bK.1 e2;clear e2;have hk:dp+i<bR:=by simpa using e3
    have hp:=hb _ _ e1;generalize hc:(⟨h.t.put p (some (.cells n (cs.put (Nat.add dp i) none) up' ch)),h.next⟩:H)=hx at e4;have hblk:∀j,hx.blk j=if j=p then some (.cells n (cs.put (dp+i) none) up' ch)else h.blk j:=λj=>by rw [<-hc];exact pX h p j _ _ hp
    have hnext:hx.next=h.next:=by rw [<-hc]
    clear hc;have l1:kH h hx:=by
     refine⟨hnext,λj=>?_⟩
     by_cases hj:j=p
     ·subst hj
      refine .inr ⟨n,cs,_,up',ch,e1,by rw [hblk,if_pos rfl],λq v hq=>?_⟩;rw [Tr.get_put cs _ _ _ hk]at hq
      split at hq
      ·cases hq
      ·exact hq
     ·exact .inl (by rw [hblk,if_neg hj])
    have g1:ut hx p (dp+i):=by
     intro n' cs' up'' ch' e5;rw [hblk,if_pos rfl]at e5;cases e5;rw [Tr.get_put cs _ _ _ hk,if_pos rfl]
    obtain⟨l2,k2,k3⟩:=ih _ _ _ _ (λj b e5=>by
     obtain⟨b',e6,_⟩:=l1.back e5;exact hb _ _ e6) e4
    have step:∀{q d':Nat},up'=some (q,d')->ut h' q (d'+(dp+i))/\∀j e,Up h q j e->ut h' j (e+d'+(dp+i)):=λe5=>by
     obtain⟨m1,m2⟩:=k2 _ _ e5;exact⟨m1,λj e u=>m2 j e (u.kin l1.kin)⟩
    have kinback:Kin hx h:=by
     intro j b k f1 f2;obtain⟨b',f3,f4,_⟩:=l1.back f1;exact⟨b',f3,f4.trans f2⟩
    refine⟨l1.trans l2,λp' d ep=>?_,λj hj=>?_⟩
    ·cases ep
     refine⟨g1.less l2,λj x u=>?_⟩;cases u with
     |one e5 k5=>
      rw [e1]at e5;cases e5;simp only [Blk.kin,Option.some.injEq,Prod.mk.injEq]at k5;have:=(step k5.1).1
      rwa [<-Nat.add_assoc]at this
     |step e5 k5 u5=>
      rw [e1]at e5;cases e5;simp only [Blk.kin,Option.some.injEq,Prod.mk.injEq]at k5;have:=(step k5.1).2 _ _ u5;rw [<-Nat.add_assoc]at this
      rwa [show ∀a b:Nat,a+b+dp+i=a+b+dp+i from λ_ _=>rfl]at this
    ·obtain⟨j1,j2⟩:=hj p dp rfl
     rw [k3 j λq d' e5=>?_,hblk,if_neg j1];subst e5;refine⟨λh1=>?_,λe u=>?_⟩
     ·subst h1
      exact j2 _ (.one e1 rfl)
     ·exact j2 _ (.step e1 rfl (u.kin kinback))
   |dead=>
    cases e2;refine⟨.refl _,λp' d ep=>?_,λ_ _=>rfl⟩;cases ep;refine⟨λn cs up ch e5=>(by rw [e1]at e5;cases e5),λj x u=>?_⟩;obtain⟨b,y,ch,e5,e6⟩:=u.first
    rw [e1]at e5;cases e5;cases e6
   |ro=>cases e2
   |map=>cases e2
   |siter=>cases e2
   |loop=>cases e2
   |miter=>cases e2
theorem mj{g:G}{v:V}{u:Value}(h:VR g v u)(k:cE v=true):u.oneCell'=true:=by
 cases h<;>first|rfl|cases k
theorem tR{w:World}{b o:Nat}{c:Array Value}{t:TypeId}{fz:Nat×Nat}(u:Value)(h:w.heap[b]? =some (.cells c t fz)):
  (w.setCell ⟨b,o,none⟩ u).heap[b]? =some (.cells (c.setIfInBounds o u) t fz):=by
 show(w.heap.modify b _)[b]? =_;rw [Array.getElem?_modify,if_pos rfl,h];rfl
theorem gC{w:World}{b o j:Nat}(u:Value)(h:j≠b):(w.setCell ⟨b,o,none⟩ u).heap[j]? =w.heap[j]? :=by
 simp only [World.setCell];rw [Array.getElem?_modify,if_neg (λe=>h e.symm)]
theorem Ext.wr1{T:Ty}{g:G}{h h':H}{w:World}(r:WR T g h w){id i b o z:Nat}{v:V}{u:Value}(e:h.wr1 id i v=some h')(eg:g id=some (b,o,z))(hv:VR g v u):
  Ext T g h w g h' (w.setCell ⟨b,o+i,none⟩ u)/\(∃x,w.cell? ⟨b,o+i,none⟩=some x)/\w.frozen? ⟨b,o+i,none⟩=false:=by
 unfold H.wr1 at e;obtain⟨k,e1,e2⟩:=bE.1 e;cases k with
 |cells n cs up ch=>
  simp only []at e2;obtain⟨hc,e3⟩:=bK.1 e2;obtain⟨hin,e4⟩:=bK.1 e3;obtain⟨hone,e5⟩:=bK.1 e4;obtain⟨h1,e6,e7⟩:=bE.1 e5;cases e7;have hch:ch=false:=by simpa using hc
  subst hch;have hlt:i<n:=by simpa using hin
  have hid:id<bR:=Nat.lt_of_lt_of_le (r.dom _ _ eg) r.bound;obtain⟨less,gone,same⟩:=Ai 64 up i h h1 (λj b e=>Nat.lt_of_lt_of_le (r.top _ _ e) r.bound) e6;obtain⟨b',o',z',c,t,k1,k2,k3,k4,k5,k6⟩:=r.blk id _ _ eg e1;rw [eg]at k1;cases k1;have hcell:∃x,c[o+i]? =some x:=⟨_,Array.getElem?_eq_getElem (by omega)⟩
  have hw:=tR (o:=o+i) u k2;have r1:=less.wr r;have hblk:∀j,(⟨h1.t.put id (some (.cells n (cs.put i (some v)) up false)),h1.next⟩:H).blk j=if j=id then some (.cells n (cs.put i (some v)) up false)else h1.blk j:=λj=>pX h1 id j _ _ hid
  have kin:Kin h1 ⟨h1.t.put id (some (.cells n (cs.put i (some v)) up false)),h1.next⟩:=by
   intro j q k f1 f2
   by_cases hj:j=id
   ·subst hj
    obtain⟨q',m1,m2,_⟩:=less.back f1;rw [e1]at m1;cases m1;exact⟨.cells n (cs.put i (some v)) up false,by rw [hblk,if_pos rfl],m2.trans f2⟩
   ·exact⟨q,by rw [hblk,if_neg hj];exact f1,f2⟩
  have old:∀{j:Nat} {q:Blk},(⟨h1.t.put id (some (.cells n (cs.put i (some v)) up false)),h1.next⟩:H).blk j=some q->∃q',h.blk j=some q'/\q'.kin=q.kin/\q'.live=q.live/\q'.len=q.len:=by
   intro j q f;rw [hblk]at f
   by_cases hj:j=id
   ·subst hj
    rw [if_pos rfl]at f;cases f;exact⟨_,e1,rfl,rfl,rfl⟩
   ·rw [if_neg hj]at f
    exact less.back f
  have wr:WR T g ⟨h1.t.put id (some (.cells n (cs.put i (some v)) up false)),h1.next⟩ (w.setCell ⟨b,o+i,none⟩ u):=by
   refine⟨r1.bound,λj q f=>?_,r1.dom,λj b' o' z' f=>?_,λj x q f1 f2=>?_,λj l b' o1 z1 o2 z2 bj bl hjl f1 f2 f3 f4 l1 l2=>?_,λj q l d ch f1 f2=>?_,λj q l d ch q' f1 f2 f3=>?_⟩
   ·obtain⟨q',m1,_⟩:=old f
    exact less.1▸r.top _ _ m1
   ·rw [World.size_setCell];exact r.lt _ _ _ _ f
   ·obtain⟨b',o',z'⟩:=x
    by_cases hj:j=id
    ·subst hj
     rw [hblk,if_pos rfl]at f2;cases f2;rw [eg]at f1;cases f1;refine⟨b,o,z,_,t,eg,hw,by rw [Array.size_setIfInBounds];exact k3,k4,k5,λq x hq hx=>?_⟩;rw [Tr.get_put cs i q _ (by omega)]at hx
     by_cases hqi:q=i
     ·subst hqi
      rw [if_pos rfl]at hx;cases hx;exact⟨u,by rw [Array.getElem?_setIfInBounds_self_of_lt (by omega)],hv,hone⟩
     ·rw [if_neg hqi]at hx
      obtain⟨x',m1,m2,m3⟩:=k6 q x hq hx;exact⟨x',by rw [Array.getElem?_setIfInBounds_ne (by omega)];exact m1,m2,m3⟩
    ·rw [hblk,if_neg hj]at f2
     by_cases hb:b'=b
     ·subst hb
      cases lq:q.live with
      |false=>cases q<;>first|trivial|cases lq
      |true=>
       obtain⟨q',m1,m2,m3,_⟩:=less.back f2;rcases r.mates id j b' o z o' z' _ q' (λh=>hj h.symm) eg f1 e1 m1 rfl (m3.trans lq)with⟨d,up',ed⟩ | ⟨d,up',ed⟩ | ⟨x1,_⟩
       ·have hgone:ut h1 j (d+i):=by
         cases up' with
         |one f5 f6=>
          rw [e1]at f5;cases f5;simp only [Blk.kin,Option.some.injEq,Prod.mk.injEq]at f6;exact(gone _ _ f6.1).1
         |step f5 f6 f7=>
          rw [e1]at f5;cases f5;simp only [Blk.kin,Option.some.injEq,Prod.mk.injEq]at f6;exact(gone _ _ f6.1).2 _ _ f7
        obtain⟨bq,upq,m4,m5⟩:=r.last up';rw [m1]at m4;cases m4;cases q with
        |cells n' cs' up'' ch'=>
         obtain⟨b2,o2,z2,c2,t2,p1,p2,p3,p4,p5,p6⟩:=r1.blk j _ _ f1 f2;rw [f1]at p1;cases p1;rw [k2]at p2;cases p2;refine⟨b',o',z',_,t,f1,hw,by rw [Array.size_setIfInBounds];exact p3,p4,p5,λq x hq hx=>?_⟩;obtain⟨x',m6,m7,m8⟩:=p6 q x hq hx;have hne:q≠d+i:=by
          intro hq2;subst hq2;rw [hgone _ _ _ _ f2]at hx;cases hx
         exact⟨x',by rw [Array.getElem?_setIfInBounds_ne (by omega)];exact m6,m7,m8⟩
        |_=>rw [m2]at m5;cases m5
       ·obtain⟨bq,upq,m4,m5⟩:=r.last up'
        rw [e1]at m4;cases m4;cases m5
       ·cases x1
     ·exact BR.move f1 (gC u hb) (r1.blk _ _ _ f1 f2)
   ·obtain⟨q1,m1,m2,m3,_⟩:=old f3
    obtain⟨q2,m4,m5,m6,_⟩:=old f4;rcases r.mates j l b' o1 z1 o2 z2 q1 q2 hjl f1 f2 m1 m4 (m3.trans l1) (m6.trans l2)with⟨d,u,e⟩ | ⟨d,u,e⟩ | ⟨x1,x2⟩
    ·exact .inl ⟨d,(u.kin less.kin).kin kin,e⟩
    ·exact .inr (.inl ⟨d,(u.kin less.kin).kin kin,e⟩)
    ·have ne:∀{x:Nat} {q q':Blk},h.blk x=some q->q.isRo=true->(⟨h1.t.put id (some (.cells n (cs.put i (some v)) up false)),h1.next⟩:H).blk x=some q'->q'.isRo=true:=by
      intro x q q' g1 g2 g3;rw [hblk]at g3
      by_cases hx:x=id
      ·subst hx
       rw [e1]at g1;cases g1;cases g2
      ·rw [if_neg hx]at g3
       exact less.isRo g1 g2 g3
     exact .inr (.inr ⟨ne m1 x1 f3,ne m4 x2 f4⟩)
   ·obtain⟨q1,m1,m2,m3,_⟩:=old f1
    obtain⟨q2,up',m4,m5,m10⟩:=r.kids j q1 l d ch m1 (m2.trans f2);obtain⟨q3,m6,m7⟩:=less.kin _ _ _ m4 m5;obtain⟨q4,m8,m9⟩:=kin _ _ _ m6 m7;exact⟨q4,up',m8,m9,m10⟩
   ·obtain⟨q1,m1,m2,_,m3⟩:=old f1
    obtain⟨q2,m4,_,_,m5⟩:=old f3;have:=r.ext j q1 l d ch q2 m1 (m2.trans f2) m4;omega
  refine⟨⟨g.le_refl,Nat.le_of_eq less.1.symm,wr,λj hj f=>⟨f,?_⟩,by rw [World.size_setCell];exact Nat.le_refl _,λj _ hn=>gC u λhj=>hn id o z (hj▸eg),(λj b' o' z' f1 f2=>by rw [f2]at f1;cases f1),λj b' o' z' n' cs' f1 f2=>?_,rfl,rfl,rfl⟩,?_,?_⟩
  ·have hne:j≠id:=by
    intro h2;subst h2;rw [eg]at f;cases f
   rw [hblk,if_neg hne];refine same j λp d ep=>?_;subst ep;refine⟨λh2=>?_,λe u=>?_⟩
   ·subst h2
    exact r.placed (.one e1 rfl) (by rw [eg];exact λh=>by cases h) f
   ·exact r.placed (.step e1 rfl u) (by rw [eg];exact λh=>by cases h) f
  ·have hj:j≠id:=by
    intro hj;subst hj;rw [e1]at f2;cases f2
   have f3:h1.blk j=some (.ro n' cs'):=by
    rcases less.2 j with m | ⟨_,_,_,_,_,m,_⟩
    ·exact m.trans f2
    ·rw [f2]at m;cases m
   refine⟨by rw [hblk,if_neg hj];exact f3,gC u λhb=>?_⟩;subst hb;exact r.lone hj f1 eg f2 e1 rfl rfl (.inl rfl) (.inr rfl)
  ·obtain⟨x,hx⟩:=hcell
   exact⟨x,by simp [World.cell?,k2,hx]⟩
  ·simp [World.frozen?,k2]
 |_=>cases e2
end
end Ev
end Go.Proofs.YtdfphfdnoobikaaGreatDoor
