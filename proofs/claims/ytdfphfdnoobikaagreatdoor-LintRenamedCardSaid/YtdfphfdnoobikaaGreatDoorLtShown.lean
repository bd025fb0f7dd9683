/-
  shown,run by the kernel.
-/
import Derived.Test.YtdfphfdnoobikaaGreatDoorLtChk
namespace Go.Proofs.YtdfphfdnoobikaaGreatDoor
namespace Ev
noncomputable section
def Az(vs:List V)(h:H):Option (V×H):=match vs with
 |[.map k]=>ob (h.blk k) λb=>match b with
  |.map es o=>ob (h.new (.map es o)) λh'=>some (.map h.next,h')
  |_=>none
 |_=>none
def qP(vs:List V)(h:H):Option (V×H):=match vs with
 |[.str n c,.str m d]=>oif (Nat.beq m 1) (some (.bool (zT n c d),h))
 |_=>none
def HQ(f:FuncId):Option (List V->H->Option (V×H)):=Bool.rec (motive:=λ_=>Option (List V->H->Option (V×H))) (Bool.rec (motive:=λ_=>Option (List V->H->Option (V×H))) (sQ f) (some qP) (Nat.beq f 65)) (some Az) (Nat.beq f 103)
end
theorem Ay{E:En}{g:G}{h:H}{w:World}{us:List Value}{vs:List V}{v:V}{h':H}(e:Az vs h=some (v,h'))(r:@WR E TP g h w)(i:@VRs E g vs us):@nM E Tryz.prog TP 103 us g h w v h':=by
 cases i with
 |nil=>cases e
 |cons h1 t1=>
 rename_i x m _ _
 cases t1 with
 |cons _ _=>cases x<;>cases e
 |nil=>
 cases x<;>first|(cases e;done)|skip
 rename_i k
 obtain⟨b,l,a⟩:=bQ.1 (show ob (h.blk k) _=some (v,h')from e);cases b<;>first|(cases a;done)|skip
 rename_i es o
 obtain⟨h2,f,j⟩:=bQ.1 (show ob (h.new (.map es o)) _=some (v,h')from a);obtain⟨c,d⟩:=bW.1 (show oif (Nat.blt h.next bZ) (some ⟨h.t.put h.next (some (.map es o)),Nat.succ h.next⟩)=some h2 from f);cases d;cases j;exact @vS E 103 _ Tryz.func103 (by decide) rfl _ _ _ _ _ _ (@vy E g h w r k es o l c _ (@VRs.cons E g _ _ _ _ h1 (@VRs.nil E g)))
theorem ux{E:En}{g:G}{h:H}{w:World}{us:List Value}{vs:List V}{v:V}{h':H}(e:qP vs h=some (v,h'))(r:@WR E TP g h w)(k:@VRs E g vs us):@nM E Tryz.prog TP 65 us g h w v h':=by
 cases k with
 |nil=>cases e
 |cons x1 t1=>
 rename_i a p _ _
 cases t1 with
 |nil=>cases a<;>cases e
 |cons x2 t2=>
 rename_i b t _ _
 cases t2 with
 |cons _ _=>cases a<;>cases b<;>cases e
 |nil=>
 cases a<;>first|(cases e;done)|skip
 cases b<;>first|(cases e;done)|skip
 rename_i n c m d
 obtain⟨l,i⟩:=bW.1 (show oif (Nat.beq m 1) (some (V.bool (zT n c d),h))=some (v,h')from e);cases i;obtain rfl:=Nat.eq_of_beq_eq_true l;obtain⟨s,rfl,rfl,rfl⟩:=oX x1;obtain⟨q,rfl,j,rfl⟩:=oX x2;obtain⟨c,hc⟩:=List.length_eq_one_iff.1 j;have o:q=⟨#[c]⟩:=by
  cases q with
  |mk d=>
   have:d=#[c]:=Array.toList_inj.1 hc;rw [this]
 have key:=lJ c s.data.toList;have f:zT s.data.toList.length (ck s.data.toList) (ck q.data.toList)=decide (0<=Lib.indexByte s.data.toList c):=by
  rw [wg,key,hc];simp [eC,va]
 refine @vS E 65 _ Tryz.func65 (by decide) rfl _ _ _ _ _ _ ?_;rw [f,o];refine(Tryz.strings_Contains_one s c w).mono ?_;rintro e w' ⟨rfl,rfl⟩;exact⟨g,_,rfl,@VR.bool E g _,@Ext.refl E TP g h w' r⟩
theorem Ej(E:En):@wU E Tryz.prog TP HQ:=by
 intro f p e vs h v h' b g w us r c a;have e:(Bool.rec (motive:=λ_=>Option (List V->H->Option (V×H))) (Bool.rec (motive:=λ_=>Option (List V->H->Option (V×H))) (sQ f) (some qP) (Nat.beq f 65)) (some Az) (Nat.beq f 103):Option (List V->H->Option (V×H)))=some p:=e;rw [cO]at e
 split at e
 ·rename_i q
  cases e;rw [Nat.eq_of_beq_eq_true q];exact Ay b r a
 rw [cO]at e
 split at e
 ·rename_i q
  cases e;rw [Nat.eq_of_beq_eq_true q];exact ux b r a
 ·exact xQ E f p e vs h v h' b g w us r c a
noncomputable section
def Im:FuncId->Option CF:=λf=>ob (Tryz.prog.funcs[f]?) λfn=>oif (!(fn.name== "runtime.NumGoroutine")) (ci TP fn)
def KN:Option (V×H):=mi HQ Im 80 (.fn 7) [] H0
def BB(r:Option (V×H)):Bool:=match r with
 |some (.bool true,_)=>true
 |_=>false
end
theorem F1:yY Tryz.prog TP Im:=by
 intro f cf e;obtain⟨fn,e1,e2⟩:=bQ.1 (show ob (Tryz.prog.funcs[f]?) (λfn=>oif (!(fn.name== "runtime.NumGoroutine")) (ci TP fn))=some cf from e);obtain⟨e3,e4⟩:=bW.1 e2;exact⟨fn,e1,λq=>by rw [q]at e3;simp at e3,e4⟩
theorem Gl:BB KN=true:=by kernel_rfl
theorem Fo{tab:FuncId->Option CF}(m:yY Tryz.prog TP tab){a:FuncId->Option (List V->H->Option (V×H))}(o:∀E:En,@wU E Tryz.prog TP a){n:Nat}{f:FuncId}{b:CF}(j:tab f=some b)(d:a f=none){vs:List V}{h':H}{v:V}(h:∀v,v∈vs->bY v)(p:bY v)(e:mi a tab (n+1) (.fn f) vs H0=some (v,h')):CP f vs v:=by
 have e:(Option.rec (motive:=λ_=>Option (V×H)) (ob (tab f) λb=>enter (mi a tab n) 1000000 b vs H0) (λg=>Option.rec (motive:=λ_=>Option (V×H)) (ob (tab f) λb=>enter (mi a tab n) 1000000 b vs H0) some (g vs H0)) (a f):Option (V×H))=some (v,h'):=e;rw [d,j]at e;generalize 1000000=N at e;obtain⟨s,B⟩:=bW.1 (show oif (Nat.beq (cD vs) b.params) (ob (exec (mi a tab n) false N b.code ⟨d8 vs 0,[]⟩ H0) λr=>
  match r.1 with
  |.exit _=>none
  |_=>ob (ip r.2.1 r.2.2 b.results) λl=>some (dq l,r.2.2))=some (v,h')from e)
 obtain⟨⟨x,f',h2⟩,y,i⟩:=bQ.1 B;obtain⟨fn,C,t,z⟩:=m f b j;have c:vs.length=b.params:=by rw [<-@cq noE];exact Nat.eq_of_beq_eq_true s
 have go:(x= .norm\/x= .ret)/\ob (ip f' h2 b.results) (λl=>some (dq l,h2))=some (v,h'):=by
  cases x with
  |norm=>exact⟨.inl rfl,i⟩
  |ret=>exact⟨.inr rfl,i⟩
  |exit k=>cases i
 obtain⟨w,u⟩:=go;obtain⟨l,q,A⟩:=bQ.1 u;cases A;exact(ii (K:=Kp) rF (λE=>@tX E Tryz.prog TP rF mixed a tab (o E) m n) mixed C t z c (.exec y) w q).conP l8 h p
theorem Il:(Im 7).isSome=true:=by kernel_rfl
theorem c7:CP 7 [] (.bool true):=by
 have k:=Gl;unfold BB at k
 split at k
 ·rename_i h' e
  obtain⟨b,a⟩:=Option.isSome_iff_exists.1 Il;exact Fo F1 Ej (n:=79) (f:=7) a rfl (λ_ q=>by cases q) (.flat rfl) e
 ·cases k
end Ev
end Go.Proofs.YtdfphfdnoobikaaGreatDoor
