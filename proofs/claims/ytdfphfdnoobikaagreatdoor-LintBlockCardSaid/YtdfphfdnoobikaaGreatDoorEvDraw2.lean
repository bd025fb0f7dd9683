/-
  The run of a region in the order that was chosen,step by step.
-/
import Derived.Test.YtdfphfdnoobikaaGreatDoorEvOps
namespace Go.Proofs.YtdfphfdnoobikaaGreatDoor
namespace Ev
section
variable [Env]
set_option linter.unusedSectionVars false
section
variable {P:Program} {T:Ty} {m N:Nat}
structure DA(call:cB)(co:bQ)(s:St)(v:V)(s':St):Prop where
 f:s'.f=co.dst.put s.f v
 hs:s'.hs=if isE co.op=true then s.h ::s.hs else s.hs
 main:(bV s.f co.guard=some false∧v=cF∧s'.h=s.h∧s'.cs=s.cs)∨
  ∃vs,bV s.f co.guard=some true∧evs s.f co.args=some vs∧co.op.run call vs s.h=some (v,s'.h)∧(∀q,co.op= .r q→s'.cs=⟨q,vs,v,co.lo,co.hi⟩ ::s.cs)∧((∀q,co.op≠.r q)→s'.cs=s.cs)
theorem Cm{call:cB}{co:bQ}{s s':St}(h:co.runD call s=some s'):∃v,DA call co s v s':=by
 obtain⟨b,h1,h2⟩:=bC.1 (show ob (bV s.f co.guard) _=some s' from h)
 have hhs:∀(a b:List H),(Bool.rec (motive:=fun _=>List H) a b (isE co.op))=if isE co.op=true then b else a:=fun a b=>cq _ _ _
 cases b with
 |false=>
  cases h2
  exact⟨cF,rfl,hhs _ _,.inl ⟨h1,rfl,rfl,rfl⟩⟩
 |true=>
  obtain⟨vs,h3,h4⟩:=bC.1 h2
  obtain⟨r,h5,h6⟩:=bC.1 h4
  cases h6
  refine⟨r.1,rfl,hhs _ _,.inr ⟨vs,h1,h3,h5,fun q hq=>?_,fun hq=>?_⟩⟩
  ·rw [hq]
  ·cases hc:co.op with
   |r q=>exact absurd hc (hq q)
   |_=>rfl
structure Ent where
 i:Nat
 k:Nat
 v:V
 s:St
inductive dy(call:cB)(cl:List bQ)(hi:Nat→Nat):Nat→St→List Ent→St→Prop
 |nil {k:Nat} {s:St}:dy call cl hi k s [] s
 |cons {i k:Nat} {s s' sn:St} {c:bQ} {v:V} {tr:List Ent} (hc:cl[i]? =some c) (st:DA call {c with lo:=k,hi:=hi i} s v s')
   (t:dy call cl hi (if isE c.op=true then k+1 else k) s' tr sn):dy call cl hi k s (⟨i,k,v,s⟩ ::tr) sn
theorem pX(cl:List bQ)(hi:Nat→Nat)(i:Nat)(l:List Nat)(k:Nat):pY cl hi (i ::l) k=ob (d4 cl i) fun c=>ob (pY cl hi l (if isE c.op=true then k+1 else k)) fun r=>some ({c with lo:=k,hi:=hi i} ::r):=by
 show ob (d4 cl i) (fun c=>ob (pY cl hi l (Bool.rec (motive:=fun _=>Nat) k (Nat.succ k) (isE c.op))) fun r=>some ({c with lo:=k,hi:=hi i} ::r))=_
 simp only [cq,Nat.succ_eq_add_one]
theorem tW{call:cB}{cl:List bQ}{hi:Nat→Nat}:∀{ord:List Nat} {k:Nat} {l:List bQ} {s sn:St},pY cl hi ord k=some l→fG call l s=some sn→∃tr,dy call cl hi k s tr sn∧tr.map (·.i)=ord
 |[],k,l,s,sn,h,hr=>by
  cases h
  cases hr
  exact⟨[],.nil,rfl⟩
 |i ::ord,k,l,s,sn,h,hr=>by
  rw [pX]at h
  obtain⟨c,h1,h2⟩:=bC.1 h
  obtain⟨r,h3,h4⟩:=bC.1 h2
  cases h4
  rw [dA]at h1
  obtain⟨s',h5,h6⟩:=bC.1 (show ob (bQ.runD call {c with lo:=k,hi:=hi i} s) (fG call r)=some sn from hr)
  obtain⟨v,hst⟩:=Cm h5
  obtain⟨tr,k1,k2⟩:=tW h3 h6
  exact⟨_,.cons h1 hst k1,by simp [k2]⟩
noncomputable def nE(cl:List bQ)(l:List Ent):Nat:=(l.filter fun e=>dw cl e.i).length
theorem dR{cl:List bQ}{i:Nat}{c:bQ}(h:cl[i]? =some c):dw cl i=isE c.op:=by
 unfold dw
 rw [dA,h]
theorem dy.split{call:cB}{cl:List bQ}{hi:Nat→Nat}:∀{A B:List Ent} {k:Nat} {s sn:St},dy call cl hi k s (A++B) sn→∃s',dy call cl hi k s A s'∧dy call cl hi (k+nE cl A) s' B sn
 |[],B,k,s,sn,h=>⟨s,.nil,h⟩
 |e ::A,B,k,s,sn,h=>by
  cases h with
  |cons hc st t=>
   rename_i i s1 c v
   obtain⟨s',k1,k2⟩:=dy.split (A:=A) t
   refine⟨s',.cons hc st k1,?_⟩
   have:(if isE c.op=true then k+1 else k)+nE cl A=k+nE cl (⟨i,k,v,s⟩ ::A):=by
    unfold nE
    rw [List.filter_cons,dR hc]
    split<;>simp<;>omega
   rw [←this]
   exact k2
theorem dy.append{call:cB}{cl:List bQ}{hi:Nat→Nat}:∀{A B:List Ent} {k:Nat} {s s' sn:St},dy call cl hi k s A s'→dy call cl hi (k+nE cl A) s' B sn→dy call cl hi k s (A++B) sn
 |[],B,k,s,s',sn,h,h'=>by cases h;exact h'
 |e ::A,B,k,s,s',sn,h,h'=>by
  cases h with
  |cons hc st t=>
   rename_i i s1 c v
   have:(if isE c.op=true then k+1 else k)+nE cl A=k+nE cl (⟨i,k,v,s⟩ ::A):=by
    unfold nE
    rw [List.filter_cons,dR hc]
    split<;>simp<;>omega
   rw [←this]at h'
   exact .cons hc st (dy.append t h')
theorem dy.head{call:cB}{cl:List bQ}{hi:Nat→Nat}{k:Nat}{s sn:St}{e:Ent}{B:List Ent}(h:dy call cl hi k s (e ::B) sn):e.s=s∧e.k=k∧∃c s',cl[e.i]? =some c∧DA call {c with lo:=k,hi:=hi e.i} s e.v s'∧dy call cl hi (if isE c.op=true then k+1 else k) s' B sn:=by
 cases h with
 |cons hc st t=>exact⟨rfl,rfl,_,_,hc,st,t⟩
theorem dy.names{call:cB}{ops:Array Oper}{cl:List bQ}{hi:Nat→Nat}(hcl:∀(i:Nat) c,cl[i]? =some c→∃o,ops[i]? =some o∧jI T m N ops o c):∀{tr:List Ent} {k:Nat} {s sn:St},dy call cl hi k s tr sn→
  (∀t,(∀e∈tr,(ops[e.i]?).bind (·.dst)≠some t)→rdn m sn.f t=rdn m s.f t)∧
  ∀A e B,tr=A++e ::B→∀t,(ops[e.i]?).bind (·.dst)=some t→(∀e'∈B,(ops[e'.i]?).bind (·.dst)≠some t)→rdn m sn.f t=some e.v
 |[],k,s,sn,h=>by
  cases h
  exact⟨fun _ _=>rfl,fun A e B h=>by simp at h⟩
 |x ::tr,k,s,sn,h=>by
  cases h with
  |cons hc st t=>
   rename_i i s' c v
   obtain⟨o,ho,hp⟩:=hcl i c hc
   obtain⟨k1,k2⟩:=dy.names hcl t
   have hput:∀t,rdn m s'.f t=if o.dst=some t then some v else rdn m s.f t:=fun t=>by
    rw [st.f]
    exact sO hp.dst s.f v t
   refine⟨fun t ht=>?_,fun A e B he t hd hB=>?_⟩
   ·rw [k1 t fun e he=>ht e (List.mem_cons_of_mem _ he),hput,if_neg]
    have:=ht _ List.mem_cons_self
    simp only [ho,Option.bind_some]at this
    exact this
   ·cases A with
    |nil=>
     simp only [List.nil_append,List.cons.injEq]at he
     obtain⟨rfl,rfl⟩:=he
     rw [k1 t hB,hput,if_pos]
     simp only [ho,Option.bind_some]at hd
     exact hd
    |cons y A=>
     simp only [List.cons_append,List.cons.injEq]at he
     exact k2 A e B he.2 t hd hB
theorem dy.hs{call:cB}{cl:List bQ}{hi:Nat→Nat}:∀{tr:List Ent} {k:Nat} {s sn:St},dy call cl hi k s tr sn→sn.hs=((tr.filter fun e=>dw cl e.i).map (·.s.h)).reverse++s.hs
 |[],k,s,sn,h=>by cases h;rfl
 |x ::tr,k,s,sn,h=>by
  cases h with
  |cons hc st t=>
   rename_i i s' c v
   rw [dy.hs t,st.hs,List.filter_cons,dR hc]
   show _++(if isE c.op=true then s.h ::s.hs else s.hs)=_
   by_cases hE:isE c.op=true
   ·simp [hE]
   ·simp [hE]
theorem dy.cs{call:cB}{cl:List bQ}{hi:Nat→Nat}:∀{tr:List Ent} {k:Nat} {s sn:St},dy call cl hi k s tr sn→∀c∈s.cs,c∈sn.cs
 |[],k,s,sn,h=>by cases h;exact fun _ h=>h
 |x ::tr,k,s,sn,h=>by
  cases h with
  |cons hc st t=>
   rename_i i s' c v
   intro q hq
   refine dy.cs t q ?_
   rcases st.main with⟨_,_,_,h4⟩ | ⟨vs,_,_,_,h4,h5⟩
   ·rw [h4];exact hq
   ·cases hop:c.op with
    |r ro=>rw [h4 ro hop];exact List.mem_cons_of_mem _ hq
    |_=>rw [h5 (fun q e=>by have e:c.op= .r q:=e;rw [hop]at e;cases e)];exact hq
theorem kX{r:V→V→Bool}(hr:∀x y,r x y=true→x=y):∀{a b:List V},(List.rec (motive:=fun _=>List V→Bool) (fun l=>eQ l true fun _ _=>false)
    (fun u _ q l=>eQ l false fun v tl=>Bool.rec (motive:=fun _=>Bool) false (q tl) (r u v)) a:List V→Bool) b=true→a=b
 |[],[],_=>rfl
 |[],_ ::_,h=>by cases h
 |_ ::_,[],h=>by cases h
 |u ::a,v ::b,h=>by
  have h:Bool.rec (motive:=fun _=>Bool) false ((List.rec (motive:=fun _=>List V→Bool) (fun l=>eQ l true fun _ _=>false)
    (fun u _ q l=>eQ l false fun v tl=>Bool.rec (motive:=fun _=>Bool) false (q tl) (r u v)) a:List V→Bool) b) (r u v)=true:=h
  rw [cq]at h
  split at h
  ·rename_i h1
   rw [hr _ _ h1,kX hr h]
  ·cases h
theorem uo:∀(n:Nat) (x y:V),AC n x y=true→x=y
 |0,x,y,h=>by cases h
 |n+1,x,y,h=>by
  have ih:=uo n
  cases x with
  |lst n es cs=>cases y<;>cases h
  |eptr cs off=>cases y<;>cases h
  |bool b=>cases y with
   |bool c=>
    have h:rf b c=true:=h
    rw [kD]at h
    simp at h
    rw [h]
   |_=>cases h
  |int k a=>cases y with
   |int k' a'=>
    have h:(eqK k k'&&eqI a a')=true:=h
    rw [jo,Bool.and_eq_true,qQ]at h
    obtain⟨h1,h2⟩:=h
    rw [h1,eq_of_beq h2]
   |_=>cases h
  |str a b=>cases y with
   |str a' b'=>
    have h:Bool.rec (motive:=fun _=>Bool) false (Nat.beq b b') (Nat.beq a a')=true:=h
    rw [cq]at h
    split at h
    ·rename_i h1
     rw [Nat.eq_of_beq_eq_true h1,Nat.eq_of_beq_eq_true h]
    ·cases h
   |_=>cases h
  |nilp=>cases y with
   |nilp=>rfl
   |_=>cases h
  |ptr a b=>cases y with
   |ptr a' b'=>
    have h:(Nat.beq a a'&&Nat.beq b b')=true:=h
    simp only [Bool.and_eq_true,Nat.beq_eq]at h
    rw [h.1,h.2]
   |_=>cases h
  |nils=>cases y with
   |nils=>rfl
   |_=>cases h
  |sl a b c d e f=>cases y with
   |sl a' b' c' d' e' f'=>
    have h:(Nat.beq a a'&&Nat.beq b b'&&Nat.beq c c'&&Nat.beq d d'&&rf e e'&&Nat.beq f f')=true:=h
    rw [kD]at h
    simp only [Bool.and_eq_true,Nat.beq_eq,beq_iff_eq]at h
    obtain⟨⟨⟨⟨⟨h1,h2⟩,h3⟩,h4⟩,h5⟩,h6⟩:=h
    rw [h1,h2,h3,h4,h5,h6]
   |_=>cases h
  |nilm=>cases y with
   |nilm=>rfl
   |_=>cases h
  |map a=>cases y with
   |map a'=>
    have h:Nat.beq a a'=true:=h
    rw [Nat.beq_eq]at h
    rw [h]
   |_=>cases h
  |func fn a b=>cases fn with
   |func f=>cases y with
    |func fn' a' b'=>cases fn' with
     |func f'=>
      have h:(Nat.beq f f'&&_&&_)=true:=h
      simp only [Bool.and_eq_true,Nat.beq_eq]at h
      obtain⟨⟨h1,h2⟩,h3⟩:=h
      rw [h1,kX ih h2,kX ih h3]
     |_=>cases h
    |_=>cases h
   |_=>cases y<;>cases h
  |yld a=>cases y with
   |yld a'=>
    have h:Nat.beq a a'=true:=h
    rw [Nat.beq_eq]at h
    rw [h]
   |_=>cases h
  |nilf=>cases y with
   |nilf=>rfl
   |_=>cases h
  |iface t a=>cases y with
   |iface t' a'=>
    have h:(Nat.beq t t'&&AC n a a')=true:=h
    simp only [Bool.and_eq_true,Nat.beq_eq]at h
    rw [h.1,ih _ _ h.2]
   |_=>cases h
  |nili=>cases y with
   |nili=>rfl
   |_=>cases h
  |agg a=>cases y with
   |agg b=>rw [kX ih h]
   |_=>cases h
  |tup a=>cases y with
   |tup b=>rw [kX ih h]
   |_=>cases h
theorem vU{c:Tc}{h:H}(k:mP c h=true):c.op.run c.vs h=some c.v:=by
 unfold mP at k
 cases e:c.op.run c.vs h with
 |none=>rw [e]at k;cases k
 |some v=>
  rw [e]at k
  rw [uo 20 v c.v k]
theorem oC{c:Tc}:∀{hs:List H} {i:Nat},ja c i hs=true→∀j h,hs[j]? =some h→c.lo≤i+j→i+j≤c.hi→mP c h=true
 |[],i,_,j,h,e,_,_=>by simp at e
 |x ::hs,i,k,j,h,e,h1,h2=>by
  have k:Bool.rec (motive:=fun _=>Bool) (Bool.rec (motive:=fun _=>Bool) false (ja c (i+1) hs) (mP c x)) (ja c (i+1) hs) (Nat.blt i c.lo||Nat.blt c.hi i)=true:=k
  rw [cq,cq]at k
  cases j with
  |zero=>
   simp at e
   subst e
   rw [if_neg]at k
   ·split at k
    ·assumption
    ·cases k
   ·simp
    omega
  |succ j=>
   have hr:ja c (i+1) hs=true:=by
    split at k
    ·exact k
    ·split at k
     ·exact k
     ·cases k
   exact oC hr j h (by simpa using e) (by omega) (by omega)
theorem oR{hs:List H}:∀{cs:List Tc},js cs hs=true→∀c∈cs,ja c 0 hs=true
 |[],_,c,h=>by cases h
 |x ::cs,k,c,h=>by
  have k:Bool.rec (motive:=fun _=>Bool) false (js cs hs) (ja x 0 hs)=true:=k
  rw [cq]at k
  split at k
  ·rename_i hx
   cases h with
   |head=>exact hx
   |tail _ h=>exact oR k c h
  ·cases k
def bD(cs:List Tc)(hs:List H):Prop:=∀c∈cs,∀j h,hs[j]? =some h→c.lo≤j→j≤c.hi→c.op.run c.vs h=some c.v
theorem xm{cs:List Tc}{hs:List H}(k:js cs hs=true):bD cs hs:=fun c hc j h e h1 h2=>
 vU (oC (oR k c hc) j h e (by omega) (by omega))
theorem vV(o:bQ)(l:List bQ):iM (o ::l)=COp.rec (motive:=fun _=>Bool) (fun _=>iM l) (fun _=>iM l) (fun _=>false) (fun _=>false) (fun _=>false) false o.op:=rfl
theorem lY{call:cB}{h:H}:∀{l:List bQ} {s s':St},iM l=true→fG call l s=some s'→s.h=h→s.hs=[]→(∀c∈s.cs,c.op.run c.vs h=some c.v)→s'.h=h∧s'.hs=[]∧∀c∈s'.cs,c.op.run c.vs h=some c.v
 |[],s,s',_,e,h1,h2,h3=>by cases e;exact⟨h1,h2,h3⟩
 |o ::l,s,s',q,e,h1,h2,h3=>by
  have e:ob (o.runD call s) (fG call l)=some s':=e
  obtain⟨s1,e1,e2⟩:=bC.1 e
  rw [vV]at q
  unfold bQ.runD at e1
  obtain⟨b,_,e3⟩:=bC.1 e1
  have main:iM l=true∧s1.h=h∧s1.hs=[]∧∀c∈s1.cs,c.op.run c.vs h=some c.v:=by
   obtain⟨d,op,args,gd,lo,hi⟩:=o
   cases op with
   |p po=>
    refine⟨q,?_⟩
    cases b with
    |false=>cases e3;exact⟨h1,h2,h3⟩
    |true=>
     obtain⟨vs,_,e4⟩:=bC.1 e3
     obtain⟨r,e5,e6⟩:=bC.1 e4
     obtain⟨v,_,e7⟩:=bC.1 (show ob (po.run vs) (fun v=>some (v,s.h))=some r from e5)
     cases e7
     cases e6
     exact⟨h1,h2,h3⟩
   |r ro=>
    refine⟨q,?_⟩
    cases b with
    |false=>cases e3;exact⟨h1,h2,h3⟩
    |true=>
     obtain⟨vs,_,e4⟩:=bC.1 e3
     obtain⟨r,e5,e6⟩:=bC.1 e4
     obtain⟨v,e8,e7⟩:=bC.1 (show ob (ro.run vs s.h) (fun v=>some (v,s.h))=some r from e5)
     cases e7
     cases e6
     refine⟨h1,h2,fun c hc=>?_⟩
     cases hc with
     |head=>rw [←h1];exact e8
     |tail _ hc=>exact h3 c hc
   |_=>cases q
  exact lY main.1 e2 main.2.1 main.2.2.1 main.2.2.2
theorem xk{call:cB}{l:List bQ}{f:F}{h:H}{s:St}(e:fG call l ⟨f,h,[],[]⟩=some s)(k:(Bool.rec (motive:=fun _=>Bool) (js s.cs (i7 s.hs [s.h])) true (iM l):Bool)=true):bD s.cs (i7 s.hs [s.h]):=by
 cases q:iM l with
 |false=>rw [q]at k;exact xm k
 |true=>
  obtain⟨h1,h2,h3⟩:=lY q e rfl rfl (fun c hc=>by cases hc)
  intro c hc j x e _ _
  rw [h2,h1]at e
  have e:([h]:List H)[j]? =some x:=e
  have:x=h:=by simpa using List.mem_of_getElem? e
  rw [this]
  exact h3 c hc
theorem sM{α:Type}:∀(l r:List α),i7 l r=l.reverse++r
 |[],r=>rfl
 |x ::l,r=>by
  show i7 l (x ::r)=_
  rw [sM l]
  simp
theorem pr:∀{l l':List Nat},l.Nodup→(∀x∈l,x∈l')→l.length≤l'.length
 |[],_,_,_=>Nat.zero_le _
 |x ::l,l',hn,hs=>by
  have hx:=hs x List.mem_cons_self
  rw [List.nodup_cons]at hn
  have:=pr (l:=l) (l':=l'.erase x) hn.2 fun y hy=>by
   have hne:y≠x:=fun e=>hn.1 (e▸hy)
   exact(List.mem_erase_of_ne hne).2 (hs y (List.mem_cons_of_mem _ hy))
  rw [List.length_erase_of_mem hx]at this
  have:0<l'.length:=List.length_pos_of_mem hx
  simp only [List.length_cons]
  omega
end
end
section
variable [Env]
set_option linter.unusedSectionVars false
section
variable {P:Program} {T:Ty} {m N:Nat}
def nG(cl:List bQ)(e:Ent)(blk:Blk):Prop:=
 ∃c ao vs mk,cl[e.i]? =some c∧c.op= .a ao∧bV e.s.f c.guard=some true∧evs e.s.f c.args=some vs∧ao.run vs=some (blk,mk)∧e.v=mk e.s.h.next
theorem iR{l:List V}{blk:Blk}(h:dn l=some blk):blk.kin=some (none,false):=by
 obtain⟨_,h2⟩:=bJ.1 h
 obtain⟨_,h4⟩:=bJ.1 h2
 cases h4
 rfl
theorem Dw{ao:AOp}{vs:List V}{blk:Blk}{mk:Nat→V}(h:ao.run vs=some (blk,mk)):blk.kin=none∨blk.kin=some (none,false):=by
 cases ao with
 |alloc cs=>
  cases vs with
  |nil=>
   obtain⟨b,k1,k2⟩:=bC.1 (show ob (dn cs) (fun b=>some (b,fun i=>V.ptr i 0))=some (blk,mk)from h)
   cases k2
   exact .inr (iR k1)
  |cons=>cases h
 |box=>
  cases vs with
  |nil=>cases h
  |cons x vs=>cases vs with
   |nil=>
    obtain⟨b,k1,k2⟩:=bC.1 (show ob (dn (cellsOf x)) (fun b=>some (b,fun i=>V.ptr i 0))=some (blk,mk)from h)
    cases k2
    exact .inr (iR k1)
   |cons=>cases h
 |bslice z ln es ps=>
  obtain⟨cs,k1,k2⟩:=bC.1 (show ob (jl ps vs (jy z ln)) (fun cs=>ob (dn cs) fun b=>some (b,fun i=>V.sl i 0 ln ln true es))=some (blk,mk)from h)
  obtain⟨b,k3,k4⟩:=bC.1 k2
  cases k4
  exact .inr (iR k3)
 |mkm r=>
  cases r with
  |false=>cases vs with
   |nil=>cases h;exact .inl rfl
   |cons=>cases h
  |true=>cases vs with
   |nil=>cases h
   |cons x vs=>cases vs with
    |nil=>cases x<;>cases h;exact .inl rfl
    |cons=>cases x<;>cases h
 |mks z bytes=>
  cases vs with
  |nil=>cases h
  |cons x vs=>cases vs with
   |nil=>cases x<;>first|(cases h;done)|(rename_i k _;cases k<;>cases h)
   |cons y vs=>cases vs with
    |cons=>cases x<;>first|(cases h;done)|(rename_i k _;cases k<;>first|(cases h;done)|(cases y<;>first|(cases h;done)|(rename_i k _;cases k<;>cases h)))
    |nil=>
     cases x<;>try (cases h;done)
     rename_i k1 n1
     cases k1<;>try (cases h;done)
     cases y<;>try (cases h;done)
     rename_i k2 n2
     cases k2<;>try (cases h;done)
     cases n1<;>try (cases h;done)
     cases n2<;>try (cases h;done)
     rename_i l' c'
     obtain⟨q1,q2⟩:=bJ.1 (show oif (Nat.ble l' c') (oif (Nat.blt (Nat.mul c' bytes) 1099511627776) (oif (Nat.blt c' 1099511627776) (ob (dn (jy z c')) fun b=>some (b,fun i=>V.sl i 0 l' c' true (bU z)))))=some (blk,mk)from h)
     obtain⟨q3,q4⟩:=bJ.1 q2
     obtain⟨q5,q6⟩:=bJ.1 q4
     obtain⟨b,q7,q8⟩:=bC.1 q6
     cases q8
     exact .inr (iR q7)
 |rangeS=>
  cases vs with
  |nil=>cases h
  |cons x vs=>cases vs with
   |nil=>cases x<;>cases h;exact .inl rfl
   |cons=>cases x<;>cases h
theorem Ext.mem{g0 g:G}{h0 h h':H}{w0 w:World}(x:Ext T g0 h0 w0 g h w)(r:WR T g h' w)(hn:h.next≤h'.next)(hb:∀id,id<h.next→h'.blk id=h.blk id):Ext T g0 h0 w0 g h' w:=by
 refine⟨x.le,Nat.le_trans x.next hn,r,fun id hi e=>?_,x.size,x.keep,x.fresh,fun id b o z n cs e1 e2=>?_,x.os,x.tape,x.output⟩
 ·obtain⟨k1,k2⟩:=x.un id hi e
  exact⟨k1,(hb id (Nat.lt_of_lt_of_le hi x.next)).trans k2⟩
 ·obtain⟨k1,k2⟩:=x.ro id b o z n cs e1 e2
  exact⟨(hb id (x.wr.top _ _ k1)).trans k1,k2⟩
theorem sL{call:cB}{cl:List bQ}{hi:Nat→Nat}:∀{B:List Ent} {k:Nat} {s sn:St},dy call cl hi k s B sn→∀{g:G} {w:World},WR T g s.h w→∃S B' s',B=S++B'∧dy call cl hi k s S s'∧dy call cl hi k s' B' sn∧
  (∀e B'',B'=e ::B''→dw cl e.i=true)∧(∀e∈S,dw cl e.i=false)∧WR T g s'.h w∧s.h.next≤s'.h.next∧(∀id,id<s.h.next→s'.h.blk id=s.h.blk id)∧
  (∀e∈S,∀blk,nG cl e blk→s.h.next≤e.s.h.next∧e.s.h.next<s'.h.next∧s'.h.blk e.s.h.next=some blk)∧
  (∀e∈S,∀e'∈S,∀b b',nG cl e b→nG cl e' b'→e.s.h.next=e'.s.h.next→e=e')
 |[],k,s,sn,h,g,w,r=>by
  cases h
  exact⟨[],[],s,rfl,.nil,.nil,by simp,by simp,r,Nat.le_refl _,fun _ _=>rfl,by simp,by simp⟩
 |e ::B,k,s,sn,h,g,w,r=>by
  obtain⟨rfl,rfl,c,s1,hc,st,t⟩:=h.head
  have hEc:=dR hc
  by_cases hE:isE c.op=true
  ·refine⟨[],e ::B,e.s,rfl,.nil,h,fun e' B'' he=>?_,by simp,r,Nat.le_refl _,fun _ _=>rfl,by simp,by simp⟩
   cases he
   rw [hEc]
   exact hE
  ·rw [if_neg hE]at t
   have hmem:(s1.h=e.s.h∧∀blk,¬nG cl e blk)∨∃blk,e.s.h.new blk=some s1.h∧(blk.kin=none∨blk.kin=some (none,false))∧∀blk',nG cl e blk'→blk'=blk:=by
    rcases st.main with⟨h1,h2,h3,h4⟩ | ⟨vs,h1,h2,h3,h4,h5⟩
    ·refine .inl ⟨h3,fun blk hm=>?_⟩
     obtain⟨c',ao,vs',mk,m1,m2,m3,_⟩:=hm
     rw [hc]at m1
     cases m1
     have h1:bV e.s.f c.guard=some false:=h1
     rw [h1]at m3
     cases m3
    ·have hrun:c.op.run call vs e.s.h=some (e.v,s1.h):=h3
     have hev:evs e.s.f c.args=some vs:=h2
     have other:(∀ao,c.op≠.a ao)→∀blk,¬nG cl e blk:=by
      intro hn blk hm
      obtain⟨c',ao,vs',mk,m1,m2,_⟩:=hm
      rw [hc]at m1
      cases m1
      exact hn ao m2
     cases hop:c.op with
     |p o=>
      rw [hop]at hrun
      obtain⟨u,k1,k2⟩:=bC.1 (show ob (o.run vs) (fun v=>some (v,e.s.h))=some (e.v,s1.h)from hrun)
      exact .inl ⟨(Prod.mk.inj (Option.some.inj k2)).2.symm,other fun ao he=>by rw [hop]at he;cases he⟩
     |r o=>
      rw [hop]at hrun
      obtain⟨u,k1,k2⟩:=bC.1 (show ob (o.run vs e.s.h) (fun v=>some (v,e.s.h))=some (e.v,s1.h)from hrun)
      exact .inl ⟨(Prod.mk.inj (Option.some.inj k2)).2.symm,other fun ao he=>by rw [hop]at he;cases he⟩
     |a ao=>
      rw [hop]at hrun
      obtain⟨p,k1,k2⟩:=bC.1 (show ob (ao.run vs) (fun r=>ob (e.s.h.new r.1) fun h'=>some (r.2 e.s.h.next,h'))=some (e.v,s1.h)from hrun)
      obtain⟨h',k3,k4⟩:=bC.1 k2
      have k5:h'=s1.h:=(Prod.mk.inj (Option.some.inj k4)).2
      refine .inr ⟨p.1,k5▸k3,Dw (blk:=p.1) (mk:=p.2) k1,fun blk' hm=>?_⟩
      obtain⟨c',ao',vs',mk,m1,m2,m3,m4,m5,_⟩:=hm
      rw [hc]at m1
      cases m1
      rw [hop]at m2
      cases m2
      rw [hev]at m4
      cases m4
      rw [k1]at m5
      have:=Option.some.inj m5
      rw [this]
     |e o=>rw [hop]at hE;exact absurd rfl hE
     |call f=>rw [hop]at hE;exact absurd rfl hE
     |callv=>rw [hop]at hE;exact absurd rfl hE
   rcases hmem with⟨hs,hnm⟩ | ⟨blk,hnew,hkin,hone⟩
   ·obtain⟨S,B',s',q1,q2,q3,q4,q5,q6,q7,q8,q9,q10⟩:=sL t (g:=g) (w:=w) (by rw [hs];exact r)
    rw [hs]at q7 q8 q9
    refine⟨e ::S,B',s',by rw [q1];rfl,dy.cons hc st (by rw [if_neg hE];exact q2),q3,q4,fun x hx=>?_,q6,q7,q8,fun x hx blk hm=>?_,fun x hx y hy b b' hm hm' he=>?_⟩
    ·cases hx with
     |head=>rw [hEc];simpa using hE
     |tail _ hx=>exact q5 x hx
    ·cases hx with
     |head=>exact absurd hm (hnm blk)
     |tail _ hx=>exact q9 x hx blk hm
    ·cases hx with
     |head=>exact absurd hm (hnm b)
     |tail _ hx=>
      cases hy with
      |head=>exact absurd hm' (hnm b')
      |tail _ hy=>exact q10 x hx y hy b b' hm hm' he
   ·obtain⟨r1,n1,n2,n3⟩:=r.add hnew hkin
    obtain⟨S,B',s',q1,q2,q3,q4,q5,q6,q7,q8,q9,q10⟩:=sL t (g:=g) (w:=w) r1
    have hown:s'.h.blk e.s.h.next=some blk:=by rw [q8 _ (by omega),n2,if_pos rfl]
    refine⟨e ::S,B',s',by rw [q1];rfl,dy.cons hc st (by rw [if_neg hE];exact q2),q3,q4,fun x hx=>?_,q6,by omega,fun id hid=>?_,fun x hx blk' hm=>?_,fun x hx y hy b b' hm hm' he=>?_⟩
    ·cases hx with
     |head=>rw [hEc];simpa using hE
     |tail _ hx=>exact q5 x hx
    ·rw [q8 id (by omega),n2,if_neg (by omega)]
    ·cases hx with
     |head=>
      rw [hone blk' hm]
      exact⟨Nat.le_refl _,by omega,hown⟩
     |tail _ hx=>
      obtain⟨z1,z2,z3⟩:=q9 x hx blk' hm
      exact⟨by omega,z2,z3⟩
    ·cases hx with
     |head=>
      cases hy with
      |head=>rfl
      |tail _ hy=>
       obtain⟨z1,_,_⟩:=q9 y hy b' hm'
       omega
     |tail _ hx=>
      cases hy with
      |head=>
       obtain⟨z1,_,_⟩:=q9 x hx b hm
       omega
      |tail _ hy=>exact q10 x hx y hy b b' hm hm' he
end
end
section
variable [Env]
set_option linter.unusedSectionVars false
section
variable {P:Program} {T:Ty} {m N:Nat}
structure Inv(T:Ty)(m N:Nat)(call:cB)(ops:Array Oper)(cl:List bQ)(hi:Nat→Nat)(bs:List Nat)(s0:St)(tr:List Ent)(sn:St)(g0:G)(a0:Act)(w0:World)
  (listed:Array Bool) (a:Act) (w:World) (g:G) (A B:List Ent) (sA:St):Prop where
 tr:tr=A++B
 tA:dy call cl hi 0 s0 A sA
 tB:dy call cl hi (nE cl A) sA B sn
 bnd:∀e B',B=e ::B'→dw cl e.i=true
 wr:WR T g sA.h w
 ext:Ext T g0 s0.h w0 g sA.h w
 size:listed.size=ops.size
 inA:∀i,listed.getD i false=true→∃e∈A,e.i=i
 es:∀e∈A,dw cl e.i=true→listed.getD e.i false=true
 closed:∀i,listed.getD i false=true→∀j,bit (cG bs i) j=true→listed.getD j false=true
 tsize:a.tmps.size=N
 old:∀t,(∀i,listed.getD i false=true→(ops[i]?).bind (·.dst)≠some t)→a.tmps[t]? =a0.tmps[t]?
 new:∀e∈A,listed.getD e.i false=true→∀t,(ops[e.i]?).bind (·.dst)=some t→∃u,a.tmps[t]? =some u∧VR g e.v u
 made:∀e∈A,∀blk,nG cl e blk→listed.getD e.i false=false→g e.s.h.next=none∧sA.h.blk e.s.h.next=some blk∧s0.h.next≤e.s.h.next
 ids:∀e∈A,∀blk,nG cl e blk→e.s.h.next<sA.h.next
 dist:∀e∈A,∀e'∈A,∀b b',nG cl e b→nG cl e' b'→e.s.h.next=e'.s.h.next→e=e'
 defers:a.defers=a0.defers
theorem cY(l:Array Bool)(i j:Nat)(h:i<l.size):(l.setIfInBounds i true).getD j false=if j=i then true else l.getD j false:=by
 rw [Array.getD_eq_getD_getElem?,Array.getD_eq_getD_getElem?,Array.getElem?_setIfInBounds]
 by_cases e:i=j
 ·subst e
  simp [h]
 ·rw [if_neg e,if_neg (fun h=>e h.symm)]
theorem rM{ops:Array Oper}{listed:Array Bool}{i:Nat}(hs:listed.size=ops.size)(h:i∈Region.ready .any ops listed):i<ops.size∧listed.getD i false=false∧∃o,ops[i]? =some o∧∀e∈o.after.toList,ie e=true→listed.getD e.on false=true:=by
 unfold Region.ready at h
 rw [List.mem_filter,List.mem_range]at h
 obtain⟨h1,h2⟩:=h
 rw [Bool.and_eq_true]at h2
 have ho:ops[i]? =some ops[i]:=Array.getElem?_eq_getElem h1
 refine⟨h1,?_,ops[i],ho,fun e he hb=>?_⟩
 ·have:=h2.1
  rw [Array.getD_eq_getD_getElem?,Array.getElem?_eq_getElem (by omega)]at this ⊢
  simpa using this
 ·have:=h2.2
  rw [ho]at this
  simp only [Option.map_some,Option.getD_some,Array.all_eq_true_iff_forall_mem]at this
  have k:=this e (by simpa using he)
  rw [vA,hb]at k
  simpa using k
theorem rL{ops:Array Oper}{bs:List Nat}{listed:Array Bool}(hst:fR T ops bs)(hs:listed.size=ops.size)(h:Region.ready .any ops listed=[]):∀i,i<ops.size→listed.getD i false=true:=by
 intro i
 induction i using Nat.strongRecOn with
 |_ i ih=>
  intro hi
  cases hl:listed.getD i false with
  |true=>rfl
  |false=>
   have ho:ops[i]? =some ops[i]:=Array.getElem?_eq_getElem hi
   have:i∈Region.ready .any ops listed:=by
    unfold Region.ready
    rw [List.mem_filter,List.mem_range]
    refine⟨hi,?_⟩
    rw [Bool.and_eq_true]
    refine⟨?_,?_⟩
    ·rw [Array.getD_eq_getD_getElem?,Array.getElem?_eq_getElem (by omega)]at hl ⊢
     simpa using hl
    ·rw [ho]
     simp only [Option.map_some,Option.getD_some,Array.all_eq_true_iff_forall_mem]
     intro e he
     rw [vA]
     cases hb:ie e with
     |false=>rfl
     |true=>
      have hlt:=hst.back i _ ho e (by simpa using he) hb
      simpa using ih e.on hlt (by omega)
   rw [h]at this
   cases this
def left(ops:Array Oper)(listed:Array Bool):Nat:=((List.range ops.size).filter fun i=>!listed.getD i false).length
theorem uM{ops:Array Oper}{listed:Array Bool}{i:Nat}(hs:listed.size=ops.size)(hi:i<ops.size)(hl:listed.getD i false=false):left ops (listed.setIfInBounds i true)+1≤left ops listed:=by
 unfold left
 have h1:(((List.range ops.size).filter fun j=>!(listed.setIfInBounds i true).getD j false).length+1)=(i ::((List.range ops.size).filter fun j=>!(listed.setIfInBounds i true).getD j false)).length:=rfl
 rw [h1]
 refine pr ?_ fun x hx=>?_
 ·rw [List.nodup_cons]
  refine⟨fun h=>?_,List.nodup_range.filter _⟩
  rw [List.mem_filter,cY _ _ _ (by omega)]at h
  simp at h
 ·rw [List.mem_filter,List.mem_range]
  cases hx with
  |head=>exact⟨hi,by simp [hl]⟩
  |tail _ hx=>
   have hx:x∈(List.range ops.size).filter fun j=>!(listed.setIfInBounds i true).getD j false:=hx
   rw [List.mem_filter,List.mem_range,cY _ _ _ (by omega)]at hx
   obtain⟨h2,h3⟩:=hx
   refine⟨h2,?_⟩
   split at h3
   ·cases h3
   ·exact h3
theorem rX{ops:Array Oper}{listed:Array Bool}(h:left ops listed=0):∀i,i<ops.size→listed.getD i false=true:=by
 intro i hi
 have h:=List.eq_nil_of_length_eq_zero h
 cases hl:listed.getD i false with
 |true=>rfl
 |false=>
  have:i∈(List.range ops.size).filter fun i=>!listed.getD i false:=by
   rw [List.mem_filter,List.mem_range]
   exact⟨hi,by rw [hl];rfl⟩
  rw [h]at this
  cases this
section
variable {call:cB} {ops:Array Oper} {cl:List bQ} {hi:Nat→Nat} {bs ord:List Nat} {s0 sn:St} {tr:List Ent} {g0:G} {a0:Act} {w0:World} {listed:Array Bool} {a:Act} {w:World} {g:G} {A B:List Ent} {sA:St}
theorem Inv.tmps(hst:fR T ops bs)(I:Inv T m N call ops cl hi bs s0 tr sn g0 a0 w0 listed a w g A B sA){i:Nat}{o:Oper}(ho:ops[i]? =some o){d:Dst}(hd:dst m N o.dst=some d){u:Value}{g':G}(hg:g.le g'):
  (∀t,(∀j,(listed.setIfInBounds i true).getD j false=true→(ops[j]?).bind (·.dst)≠some t)→(a.put o.dst u).tmps[t]? =a0.tmps[t]?)∧
  (∀e∈A,(listed.setIfInBounds i true).getD e.i false=true→e.i≠i→∀t,(ops[e.i]?).bind (·.dst)=some t→∃x,(a.put o.dst u).tmps[t]? =some x∧VR g' e.v x)∧
  (∀t,o.dst=some t→(a.put o.dst u).tmps[t]? =some u):=by
 have hi:i<listed.size:=by
  rw [I.size]
  rcases Nat.lt_or_ge i ops.size with k|k
  ·exact k
  ·rw [Array.getElem?_eq_none k]at ho;cases ho
 refine⟨fun t ht=>?_,fun e he hle hne t hdt=>?_,fun t hdt=>?_⟩
 ·rw [jb,if_neg]
  ·refine I.old t fun j hj=>ht j ?_
   rw [cY _ _ _ hi]
   split
   ·rfl
   ·exact hj
  ·intro hx
   have:=ht i (by rw [cY _ _ _ hi,if_pos rfl])
   rw [ho]at this
   exact this hx.1
 ·rw [cY _ _ _ hi,if_neg hne]at hle
  obtain⟨x,k1,k2⟩:=I.new e he hle t hdt
  refine⟨x,?_,k2.mono hg⟩
  rw [jb,if_neg]
  ·exact k1
  ·intro hx
   obtain⟨p,hp,hpd⟩:∃p,ops[e.i]? =some p∧p.dst=some t:=by
    cases hpp:ops[e.i]? with
    |none=>rw [hpp]at hdt;cases hdt
    |some p=>rw [hpp]at hdt;exact⟨p,rfl,hdt⟩
   have hmem:t∈dD T ops o:=by
    unfold dD
    rw [hx.1]
    simp
   exact(hst.names i e.i o p t (fun h=>hne h.symm) ho hp hpd hmem).2 hx.1
 ·rw [jb,if_pos]
  refine⟨hdt,?_⟩
  rw [I.tsize]
  rw [hdt]at hd
  exact wX hd
theorem d9(hor:iP ops cl bs ord)(hmap:tr.map (·.i)=ord){x y:Ent}(hx:x∈tr)(hy:y∈tr)(h:x.i=y.i):x=y:=by
 obtain⟨s1,s2,e1⟩:=List.append_of_mem hx
 rw [e1]at hy
 have ho:ord=s1.map (·.i)++x.i ::s2.map (·.i):=by rw [←hmap,e1];simp
 rcases List.mem_append.1 hy with k|k
 ·have:=(hor.pre _ _ _ ho).2.1
  rw [List.mem_map]at this
  exact(this ⟨y,k,h.symm⟩).elim
 ·rcases List.mem_cons.1 k with k|k
  ·exact k.symm
  ·obtain⟨z1,z2,rfl⟩:=List.append_of_mem k
   have:=(hor.pre (s1.map (·.i)++x.i ::z1.map (·.i)) y.i (z2.map (·.i)) (by rw [ho];simp)).2.1
   exact(this (by rw [h];simp)).elim
theorem Inv.reads(hst:fR T ops bs)(hor:iP ops cl bs ord)(hcl:∀(i:Nat) c,cl[i]? =some c→∃o,ops[i]? =some o∧jI T m N ops o c)(hmap:tr.map (·.i)=ord)(F0:FR g0 m N s0.f a0.tmps)
  (I:Inv T m N call ops cl hi bs s0 tr sn g0 a0 w0 listed a w g A B sA) {e:Ent} {A0 A1:List Ent} (hA:tr=A0++e ::A1) (t0:dy call cl hi 0 s0 A0 e.s) {o:Oper} (ho:ops[e.i]? =some o)
  (hl:listed.getD e.i false=false) (hbef:∀j,bit (cG bs e.i) j=true→listed.getD j false=true):
  ∀t∈dD T ops o,∀v,rdn m e.s.f t=some v→∃u,a.tmps[t]? =some u∧VR g v u:=by
 intro t ht v hv
 have hord:ord=(A0.map (·.i))++e.i ::(A1.map (·.i)):=by rw [←hmap,hA];simp
 obtain⟨p1,p2,p3⟩:=hor.pre _ _ _ hord
 obtain⟨n1,n2⟩:=t0.names hcl
 have dstOf:∀j:Nat,(ops[j]?).bind (fun x:Oper=>x.dst)=some t→∃p:Oper,ops[j]? =some p∧p.dst=some t:=by
  intro j hj
  cases hpp:ops[j]? with
  |none=>rw [hpp]at hj;cases hj
  |some p=>rw [hpp]at hj;exact⟨p,rfl,hj⟩
 have notBehind:∀x∈A0,bit (cG bs x.i) e.i=true→False:=by
  intro x hx hb
  obtain⟨s,r,rfl⟩:=List.append_of_mem hx
  have:=(hor.pre (s.map (·.i)) x.i (r.map (·.i)++e.i ::A1.map (·.i)) (by rw [hord];simp)).1 e.i hb
  exact p2 (by rw [List.map_append,List.mem_append];exact .inl this)
 by_cases hw:∃x∈A0,(ops[x.i]?).bind (·.dst)=some t
 ·obtain⟨x,hx,hxd⟩:=hw
  obtain⟨p,hp,hpd⟩:=dstOf x.i hxd
  obtain⟨s,r,rfl⟩:=List.append_of_mem hx
  have hne:e.i≠x.i:=fun h=>p2 (by rw [h,List.map_append,List.map_cons];simp)
  have hrd:rdn m e.s.f t=some x.v:=by
   refine n2 s x r rfl t hxd fun y hy hyd=>?_
   obtain⟨q,hq,hqd⟩:=dstOf y.i hyd
   have hxy:x.i≠y.i:=by
    intro h
    obtain⟨r1,r2,rfl⟩:=List.append_of_mem hy
    have:=(hor.pre (s.map (·.i)++x.i ::r1.map (·.i)) y.i (r2.map (·.i)++e.i ::A1.map (·.i)) (by rw [hord];simp)).2.1
    exact this (by rw [←h];simp)
   have hmem:t∈dD T ops p:=by
    unfold dD
    rw [hpd]
    simp
   exact(hst.names x.i y.i p q t hxy hp hq hqd hmem).2 hpd
  rw [hrd]at hv
  cases hv
  have hb:bit (cG bs e.i) x.i=true:=by
   rcases (hst.names e.i x.i o p t hne ho hp hpd ht).1 with q|q
   ·exact q
   ·exact(notBehind x hx q).elim
  have hlx:=hbef _ hb
  obtain⟨y,hy,hyx⟩:=I.inA _ hlx
  have hyx':y=x:=d9 hor hmap (by rw [I.tr];exact List.mem_append_left _ hy) (by rw [hA];exact List.mem_append_left _ (by simp)) hyx
  rw [hyx']at hy
  exact I.new x hy hlx t hxd
 ·have hrd:rdn m e.s.f t=rdn m s0.f t:=n1 t fun x hx hd=>hw ⟨x,hx,hd⟩
  rw [hrd]at hv
  obtain⟨u,k1,k2⟩:=F0.2 t v hv
  refine⟨u,?_,k2.mono I.ext.le⟩
  rw [I.old t fun j hj hd=>?_]
  ·exact k1
  ·obtain⟨p,hp,hpd⟩:=dstOf j hd
   have hne:e.i≠j:=by
    intro h
    rw [←h,hl]at hj
    cases hj
   rcases (hst.names e.i j o p t hne ho hp hpd ht).1 with q|q
   ·have:=p1 j q
    rw [List.mem_map]at this
    obtain⟨x,hx,rfl⟩:=this
    exact hw ⟨x,hx,hd⟩
   ·have:=I.closed j hj e.i q
    rw [hl]at this
    cases this
end
end
end
section
variable [Env]
set_option linter.unusedSectionVars false
section
variable {P:Program} {T:Ty} {m N:Nat}
variable {call:cB} {ops:Array Oper} {cl:List bQ} {hi:Nat→Nat} {bs ord:List Nat} {s0 sn:St} {tr:List Ent} {g0:G} {a0:Act} {w0:World} {listed:Array Bool} {a:Act} {w:World} {g:G} {A B:List Ent} {sA:St}
theorem iK{o:Oper}{i:Nat}(h:ops[i]? =some o):i<ops.size:=by
 rcases Nat.lt_or_ge i ops.size with k|k
 ·exact k
 ·rw [Array.getElem?_eq_none k]at h;cases h
theorem jq{o:Oper}{i:Nat}(hs:listed.size=ops.size)(ho:ops[i]? =some o)(hc:∀i,listed.getD i false=true→∀j,bit (cG bs i) j=true→listed.getD j false=true)
  (hbef:∀j,bit (cG bs i) j=true→listed.getD j false=true):∀k,(listed.setIfInBounds i true).getD k false=true→∀j,bit (cG bs k) j=true→(listed.setIfInBounds i true).getD j false=true:=by
 intro k hk j hj
 have hi:=iK ho
 rw [cY _ _ _ (by omega)]at hk ⊢
 split
 ·rfl
 ·split at hk
  ·rename_i h
   subst h
   exact hbef j hj
  ·exact hc k hk j hj
theorem Inv.same(hst:fR T ops bs)(hor:iP ops cl bs ord)(hmap:tr.map (·.i)=ord)(I:Inv T m N call ops cl hi bs s0 tr sn g0 a0 w0 listed a w g A B sA){e:Ent}(he:e∈A){o:Oper}(ho:ops[e.i]? =some o)(hl:listed.getD e.i false=false)
  (hbef:∀j,bit (cG bs e.i) j=true→listed.getD j false=true) {d:Dst} (hd:dst m N o.dst=some d) {u:Value} {g':G} {w':World} (x:Ext T g sA.h w g' sA.h w') (hv:VR g' e.v u):
  Inv T m N call ops cl hi bs s0 tr sn g0 a0 w0 (listed.setIfInBounds e.i true) (a.put o.dst u) w' g' A B sA:=by
 have hlt:=iK ho
 obtain⟨t1,t2,t3⟩:=I.tmps (u:=u) hst ho hd x.le
 refine⟨I.tr,I.tA,I.tB,I.bnd,x.wr,I.ext.trans x,by simp [I.size],fun i hi=>?_,fun y hy hE=>?_,jq I.size ho I.closed hbef,by rw [jV];exact I.tsize,t1,fun y hy hly t hdt=>?_,fun y hy blk hm hly=>?_,I.ids,I.dist,(dg _ _ _).trans I.defers⟩
 ·rw [cY _ _ _ (by rw [I.size];exact hlt)]at hi
  split at hi
  ·rename_i h;exact⟨e,he,h.symm⟩
  ·exact I.inA i hi
 ·rw [cY _ _ _ (by rw [I.size];exact hlt)]
  split
  ·rfl
  ·exact I.es y hy hE
 ·by_cases hye:y.i=e.i
  ·have hyx:y=e:=d9 hor hmap (by rw [I.tr];exact List.mem_append_left _ hy) (by rw [I.tr];exact List.mem_append_left _ he) hye
   subst hyx
   rw [ho]at hdt
   exact⟨u,t3 t hdt,hv⟩
  ·exact t2 y hy hly hye t hdt
 ·rw [cY _ _ _ (by rw [I.size];exact hlt)]at hly
  split at hly
  ·cases hly
  ·obtain⟨k1,k2,k3⟩:=I.made y hy blk hm hly
   obtain⟨k4,k5⟩:=x.un _ (I.ids y hy blk hm) k1
   exact⟨k4,k2,k3⟩
theorem Ext.place{h0 h:H}(x:Ext T g0 h0 w0 g h w){id z:Nat}{o:Obj}(hid:h0.next≤id)(hn:g id=none)(r:WR T (et g id (w.heap.size,0,z)) h (w.alloc o)):Ext T g0 h0 w0 (et g id (w.heap.size,0,z)) h (w.alloc o):=by
 refine⟨G.le_trans x.le (eR _ hn),x.next,r,fun i hi e=>?_,?_,fun b hb hu=>?_,fun i b o' z' e1 e2=>?_,fun i b o' z' n cs e1 e2=>?_,x.os,x.tape,x.output⟩
 ·obtain⟨k1,k2⟩:=x.un i hi e
  exact⟨by rw [dk _ (by omega)];exact k1,k2⟩
 ·rw [World.size_alloc];have:=x.size;omega
 ·rw [dQ (by have:=x.size;omega)]
  exact x.keep b hb hu
 ·by_cases hi:i=id
  ·subst hi
   rw [cg]at e1
   cases e1
   exact .inl x.size
  ·rw [dk _ hi]at e1
   exact x.fresh i b o' z' e1 e2
 ·obtain⟨k1,k2⟩:=x.ro i b o' z' n cs e1 e2
  exact⟨k1,by rw [dQ (x.wr.lt _ _ _ _ (x.le _ _ e1))];exact k2⟩
theorem Inv.make(hst:fR T ops bs)(hor:iP ops cl bs ord)(hmap:tr.map (·.i)=ord)(I:Inv T m N call ops cl hi bs s0 tr sn g0 a0 w0 listed a w g A B sA){e:Ent}(he:e∈A){o:Oper}(ho:ops[e.i]? =some o)(hl:listed.getD e.i false=false)
  (hbef:∀j,bit (cG bs e.i) j=true→listed.getD j false=true) {d:Dst} (hd:dst m N o.dst=some d) {blk:Blk} (hm:nG cl e blk) {mk:Nat→V} {ρ:Operand→Value} {op:Op} (hmk:kN P T g ρ op blk mk) (hv:e.v=mk e.s.h.next):
  ∃(obj:Obj) (val:Nat→Value) (g':G),(∀(w:World) (o:Oper),o.op=op→(execOp ρ o).run P w= .ok (.value (val w.heap.size)) (w.alloc obj))∧
   Inv T m N call ops cl hi bs s0 tr sn g0 a0 w0 (listed.setIfInBounds e.i true) (a.put o.dst (val w.heap.size)) (w.alloc obj) g' A B sA:=by
 have hlt:=iK ho
 obtain⟨obj,z,val,m1,m2,m3⟩:=hmk.make
 obtain⟨k1,k2,k3⟩:=I.made e he blk hm hl
 have kid:=I.ids e he blk hm
 have hle:=eR (g:=g) (w.heap.size,0,z) k1
 have r':=I.wr.place (z:=z) (o:=obj) kid k1 k2 hmk.kin (m3 _ _ _ _ hle (cg _ _ _) (da w obj))
 obtain⟨t1,t2,t3⟩:=I.tmps (u:=val w.heap.size) hst ho hd hle
 refine⟨obj,val,_,m1,I.tr,I.tA,I.tB,I.bnd,r',I.ext.place k3 k1 r',by simp [I.size],fun i hi=>?_,fun y hy hE=>?_,jq I.size ho I.closed hbef,by rw [jV];exact I.tsize,t1,fun y hy hly t hdt=>?_,fun y hy blk' hm' hly=>?_,I.ids,I.dist,(dg _ _ _).trans I.defers⟩
 ·rw [cY _ _ _ (by rw [I.size];exact hlt)]at hi
  split at hi
  ·rename_i h;exact⟨e,he,h.symm⟩
  ·exact I.inA i hi
 ·rw [cY _ _ _ (by rw [I.size];exact hlt)]
  split
  ·rfl
  ·exact I.es y hy hE
 ·by_cases hye:y.i=e.i
  ·have hyx:y=e:=d9 hor hmap (by rw [I.tr];exact List.mem_append_left _ hy) (by rw [I.tr];exact List.mem_append_left _ he) hye
   subst hyx
   rw [ho]at hdt
   exact⟨_,t3 t hdt,by rw [hv];exact m2 _ _ _ hle (cg _ _ _)⟩
  ·exact t2 y hy hly hye t hdt
 ·rw [cY _ _ _ (by rw [I.size];exact hlt)]at hly
  split at hly
  ·cases hly
  ·rename_i hne
   obtain⟨q1,q2,q3⟩:=I.made y hy blk' hm' hly
   refine⟨?_,q2,q3⟩
   rw [dk]
   ·exact q1
   ·intro h
    exact hne (by rw [I.dist y hy e he blk' blk hm' hm h])
theorem Inv.write(hst:fR T ops bs)(hor:iP ops cl bs ord)(hmap:tr.map (·.i)=ord){e:Ent}{B':List Ent}(I:Inv T m N call ops cl hi bs s0 tr sn g0 a0 w0 listed a w g A (e ::B') sA)(hE:dw cl e.i=true){o:Oper}(ho:ops[e.i]? =some o)(hl:listed.getD e.i false=false)
  (hbef:∀j,bit (cG bs e.i) j=true→listed.getD j false=true) {d:Dst} (hd:dst m N o.dst=some d) {c:bQ} {s1:St} (hc:cl[e.i]? =some c) (hs:e.s=sA) (hst1:DA call {c with lo:=nE cl A,hi:=hi e.i} sA e.v s1)
  (ht:dy call cl hi (if isE c.op=true then nE cl A+1 else nE cl A) s1 B' sn) (hek:e.k=nE cl A) {u:Value} {g':G} {w':World} (x:Ext T g sA.h w g' s1.h w') (hv:VR g' e.v u) (hnm:∀blk,¬nG cl e blk):
  ∃A' B'' sA',Inv T m N call ops cl hi bs s0 tr sn g0 a0 w0 (listed.setIfInBounds e.i true) (a.put o.dst u) w' g' A' B'' sA':=by
 have hlt:=iK ho
 obtain⟨t1,t2,t3⟩:=I.tmps (u:=u) hst ho hd x.le
 obtain⟨S,B'',s',q1,q2,q3,q4,q5,q6,q7,q8,q9,q10⟩:=sL ht x.wr
 have hEc:isE c.op=true:=by rw [←dR hc];exact hE
 have hnE:nE cl (A++e ::S)=nE cl A+1:=by
  unfold nE
  rw [List.filter_append,List.filter_cons,if_pos hE]
  have:S.filter (fun e=>dw cl e.i)=[]:=by
   rw [List.filter_eq_nil_iff]
   intro y hy
   rw [q5 y hy]
   decide
  rw [this]
  simp
 have he:e=⟨e.i,nE cl A,e.v,sA⟩:=by
  obtain⟨i,k,v,s⟩:=e
  simp only at hs hek
  rw [hs,hek]
 have htr:tr=(A++e ::S)++B'':=by rw [I.tr,q1];simp
 have hA1:dy call cl hi 0 s0 (A++e ::S) s':=by
  refine dy.append I.tA ?_
  rw [he]
  rw [Nat.zero_add]
  exact .cons hc hst1 q2
 have hnew:∀y∈A++e ::S,y∈A∨y=e∨y∈S:=by
  intro y hy
  rcases List.mem_append.1 hy with h|h
  ·exact .inl h
  ·rcases List.mem_cons.1 h with h|h
   ·exact .inr (.inl h)
   ·exact .inr (.inr h)
 have hord:ord=A.map (·.i)++e.i ::(S++B'').map (·.i):=by rw [←hmap,I.tr,q1];simp
 have behind:∀y∈S,(listed.setIfInBounds e.i true).getD y.i false=false:=by
  intro y hy
  have hyT:y∈tr:=by rw [htr];simp [hy]
  have heT:e∈tr:=by rw [htr];simp
  rw [cY _ _ _ (by rw [I.size];exact hlt),if_neg]
  ·cases hly:listed.getD y.i false with
   |false=>rfl
   |true=>
    obtain⟨z,hz,hzy⟩:=I.inA _ hly
    have hzy':z=y:=d9 hor hmap (by rw [htr];simp [hz]) hyT hzy
    subst hzy'
    obtain⟨s1',s2',rfl⟩:=List.append_of_mem hy
    have:=(hor.pre (A.map (·.i)++e.i ::s1'.map (·.i)) z.i (s2'.map (·.i)++B''.map (·.i)) (by rw [hord];simp)).2.1
    exact(this (List.mem_append_left _ (List.mem_map.2 ⟨z,hz,rfl⟩))).elim
  ·intro h
   have:=d9 hor hmap hyT heT h
   subst this
   rw [q5 y hy]at hE
   cases hE
 have hmono:sA.h.next≤s'.h.next:=Nat.le_trans x.next q7
 refine⟨A++e ::S,B'',s',htr,hA1,by rw [hnE];rw [if_pos hEc]at q3;exact q3,q4,q6,(I.ext.trans x).mem q6 q7 q8,by simp [I.size],fun i hi=>?_,fun y hy hEy=>?_,jq I.size ho I.closed hbef,by rw [jV];exact I.tsize,t1,fun y hy hly t hdt=>?_,fun y hy blk hm hly=>?_,fun y hy blk hm=>?_,fun y hy z hz b b' hm hm' hyz=>?_,(dg _ _ _).trans I.defers⟩
 ·rw [cY _ _ _ (by rw [I.size];exact hlt)]at hi
  split at hi
  ·rename_i h;exact⟨e,by simp,h.symm⟩
  ·obtain⟨y,hy,hyi⟩:=I.inA i hi
   exact⟨y,by simp [hy],hyi⟩
 ·rw [cY _ _ _ (by rw [I.size];exact hlt)]
  split
  ·rfl
  ·rename_i hne
   rcases hnew y hy with h|h|h
   ·exact I.es y h hEy
   ·exact absurd (by rw [h]) hne
   ·rw [q5 y h]at hEy;cases hEy
 ·rcases hnew y hy with h|h|h
  ·by_cases hye:y.i=e.i
   ·have hyT:y∈tr:=by rw [htr];simp [h]
    have:y=e:=d9 hor hmap hyT (by rw [htr];simp) hye
    subst this
    rw [ho]at hdt
    exact⟨u,t3 t hdt,hv⟩
   ·exact t2 y h hly hye t hdt
  ·subst h
   rw [ho]at hdt
   exact⟨u,t3 t hdt,hv⟩
  ·rw [behind y h]at hly;cases hly
 ·rcases hnew y hy with h|h|h
  ·rw [cY _ _ _ (by rw [I.size];exact hlt)]at hly
   split at hly
   ·cases hly
   ·obtain⟨k1,k2,k3⟩:=I.made y h blk hm hly
    have kid:=I.ids y h blk hm
    obtain⟨k4,k5⟩:=x.un _ kid k1
    exact⟨k4,by rw [q8 _ (Nat.lt_of_lt_of_le kid x.next),k5];exact k2,k3⟩
  ·subst h
   exact absurd hm (hnm blk)
  ·obtain⟨z1,z2,z3⟩:=q9 y h blk hm
   refine⟨?_,z3,Nat.le_trans I.ext.next (Nat.le_trans x.next z1)⟩
   cases hg:g' y.s.h.next with
   |none=>rfl
   |some p=>exact absurd (x.wr.dom _ _ hg) (by omega)
 ·rcases hnew y hy with h|h|h
  ·exact Nat.lt_of_lt_of_le (I.ids y h blk hm) hmono
  ·subst h;exact absurd hm (hnm blk)
  ·exact(q9 y h blk hm).2.1
 ·rcases hnew y hy with h|h|h
  ·rcases hnew z hz with h'|h'|h'
   ·exact I.dist y h z h' b b' hm hm' hyz
   ·subst h';exact absurd hm' (hnm b')
   ·have k1:=I.ids y h b hm
    have k2:=(q9 z h' b' hm').1
    have:=x.next
    omega
  ·subst h;exact absurd hm (hnm b)
  ·rcases hnew z hz with h'|h'|h'
   ·have k1:=I.ids z h' b' hm'
    have k2:=(q9 y h b hm).1
    have:=x.next
    omega
   ·subst h';exact absurd hm' (hnm b')
   ·exact q10 y h z h' b b' hm hm' hyz
end
end
end Ev
end Go.Proofs.YtdfphfdnoobikaaGreatDoor
