/-
  shown,run by the kernel.
-/
import Derived.Test.YtdfphfdnoobikaaGreatDoorLtChkM
namespace Go.Proofs.YtdfphfdnoobikaaGreatDoor
namespace Ev
noncomputable section
def xY(vs:List V)(h:H):Option (V×H):=match vs with
 |[.map k]=>ob (h.blk k) λb=>match b with
  |.map es o=>ob (h.new (.map es o)) λh'=>some (.map h.next,h')
  |_=>none
 |_=>none
def oI(vs:List V)(h:H):Option (V×H):=match vs with
 |[.str n c,.str m d]=>oif (Nat.beq m 1) (some (.bool (xn n c d),h))
 |_=>none
def BS(f:FuncId):Option (List V->H->Option (V×H)):=Bool.rec (motive:=λ_=>Option (List V->H->Option (V×H))) (Bool.rec (motive:=λ_=>Option (List V->H->Option (V×H))) (mU f) (some oI) (Nat.beq f 65)) (some xY) (Nat.beq f 103)
end
theorem xX{E:En}{g:G}{h:H}{w:World}{us:List Value}{vs:List V}{v:V}{h':H}(e:xY vs h=some (v,h'))(r:@WR E TP g h w)(hv:@VRs E g vs us):@ly E Tryz.prog TP 103 us g h w v h':=by
 cases hv with
 |nil=>cases e
 |cons h1 t1=>
 rename_i x u1 _ _
 cases t1 with
 |cons _ _=>cases x<;>cases e
 |nil=>
 cases x<;>first|(cases e;done)|skip
 rename_i k
 obtain⟨b,e1,e2⟩:=bE.1 (show ob (h.blk k) _=some (v,h')from e);cases b<;>first|(cases e2;done)|skip
 rename_i es o
 obtain⟨h2,e3,e4⟩:=bE.1 (show ob (h.new (.map es o)) _=some (v,h')from e2);obtain⟨hn,e5⟩:=bK.1 (show oif (Nat.blt h.next bR) (some ⟨h.t.put h.next (some (.map es o)),Nat.succ h.next⟩)=some h2 from e3);cases e5;cases e4;exact @tu E 103 _ Tryz.func103 (by decide) rfl _ _ _ _ _ _ (@sS E g h w r k es o e1 hn _ (@VRs.cons E g _ _ _ _ h1 (@VRs.nil E g)))
theorem rM{E:En}{g:G}{h:H}{w:World}{us:List Value}{vs:List V}{v:V}{h':H}(e:oI vs h=some (v,h'))(r:@WR E TP g h w)(hv:@VRs E g vs us):@ly E Tryz.prog TP 65 us g h w v h':=by
 cases hv with
 |nil=>cases e
 |cons x1 t1=>
 rename_i a1 u1 _ _
 cases t1 with
 |nil=>cases a1<;>cases e
 |cons x2 t2=>
 rename_i a2 u2 _ _
 cases t2 with
 |cons _ _=>cases a1<;>cases a2<;>cases e
 |nil=>
 cases a1<;>first|(cases e;done)|skip
 cases a2<;>first|(cases e;done)|skip
 rename_i n c m d
 obtain⟨e1,e2⟩:=bK.1 (show oif (Nat.beq m 1) (some (V.bool (xn n c d),h))=some (v,h')from e);cases e2;obtain rfl:=Nat.eq_of_beq_eq_true e1;obtain⟨s,rfl,rfl,rfl⟩:=mK x1;obtain⟨q,rfl,k1,rfl⟩:=mK x2;obtain⟨c,hc⟩:=List.length_eq_one_iff.1 k1;have hq:q=⟨#[c]⟩:=by
  cases q with
  |mk d=>
   have:d=#[c]:=Array.toList_inj.1 hc;rw [this]
 have key:=jO c s.data.toList;have hb:xn s.data.toList.length (bT s.data.toList) (bT q.data.toList)=decide (0<=Lib.indexByte s.data.toList c):=by
  rw [tS,key,hc];simp [dJ,su]
 refine @tu E 65 _ Tryz.func65 (by decide) rfl _ _ _ _ _ _ ?_;rw [hb,hq];refine(Tryz.strings_Contains_one s c w).mono ?_;rintro e w' ⟨rfl,rfl⟩;exact⟨g,_,rfl,@VR.bool E g _,@Ext.refl E TP g h w' r⟩
theorem vb(E:En):@ur E Tryz.prog TP BS:=by
 intro f p e vs h v h' e1 g w us r hG hv;have e:(Bool.rec (motive:=λ_=>Option (List V->H->Option (V×H))) (Bool.rec (motive:=λ_=>Option (List V->H->Option (V×H))) (mU f) (some oI) (Nat.beq f 65)) (some xY) (Nat.beq f 103):Option (List V->H->Option (V×H)))=some p:=e;rw [cC]at e
 split at e
 ·rename_i q
  cases e;rw [Nat.eq_of_beq_eq_true q];exact xX e1 r hv
 rw [cC]at e
 split at e
 ·rename_i q
  cases e;rw [Nat.eq_of_beq_eq_true q];exact rM e1 r hv
 ·exact qy E f p e vs h v h' e1 g w us r hG hv
noncomputable section
def A6:FuncId->Option CF:=λf=>ob (Tryz.prog.funcs[f]?) λfn=>oif (!(fn.name== "runtime.NumGoroutine")) (bQ TP fn)
def He:Option (V×H):=ju BS A6 80 (.fn 7) [] H0
def y6(r:Option (V×H)):Bool:=match r with
 |some (.bool true,_)=>true
 |_=>false
end
theorem yy:wp Tryz.prog TP A6:=by
 intro f cf e;obtain⟨fn,e1,e2⟩:=bE.1 (show ob (Tryz.prog.funcs[f]?) (λfn=>oif (!(fn.name== "runtime.NumGoroutine")) (bQ TP fn))=some cf from e);obtain⟨e3,e4⟩:=bK.1 e2;exact⟨fn,e1,λq=>by rw [q]at e3;simp at e3,e4⟩
theorem Dz:y6 He=true:=by kernel_rfl
theorem vY{tab:FuncId->Option CF}(ht:wp Tryz.prog TP tab){prim:FuncId->Option (List V->H->Option (V×H))}(hp:∀E:En,@ur E Tryz.prog TP prim){n:Nat}{f:FuncId}{cf:CF}(hf:tab f=some cf)(hno:prim f=none){vs:List V}{h':H}{v:V}(hvs:∀v,v∈vs->bP v)(hv:bP v)(e:ju prim tab (n+1) (.fn f) vs H0=some (v,h')):CP f vs v:=by
 have e:(Option.rec (motive:=λ_=>Option (V×H)) (ob (tab f) λcf=>enter (ju prim tab n) 1000000 cf vs H0) (λg=>Option.rec (motive:=λ_=>Option (V×H)) (ob (tab f) λcf=>enter (ju prim tab n) 1000000 cf vs H0) some (g vs H0)) (prim f):Option (V×H))=some (v,h'):=e;rw [hno,hf]at e;generalize 1000000=N at e;obtain⟨e1,e2⟩:=bK.1 (show oif (Nat.beq (bY vs) cf.params) (ob (exec (ju prim tab n) false N cf.code ⟨dG vs 0,[]⟩ H0) λr=>
  match r.1 with
  |.exit _=>none
  |_=>ob (gf r.2.1 r.2.2 cf.results) λl=>some (cQ l,r.2.2))=some (v,h')from e)
 obtain⟨⟨x,f',h2⟩,e3,e4⟩:=bE.1 e2;obtain⟨fn,k1,k2,k3⟩:=ht f cf hf;have hlen:vs.length=cf.params:=by rw [<-@bV noE];exact Nat.eq_of_beq_eq_true e1
 have go:(x= .norm\/x= .ret)/\ob (gf f' h2 cf.results) (λl=>some (cQ l,h2))=some (v,h'):=by
  cases x with
  |norm=>exact⟨.inl rfl,e4⟩
  |ret=>exact⟨.inr rfl,e4⟩
  |exit k=>cases e4
 obtain⟨hx,e5⟩:=go;obtain⟨l,e6,e7⟩:=bE.1 e5;cases e7;exact(gN (K:=Kp) qc (λE=>@nK E Tryz.prog TP qc mixed prim tab (hp E) ht n) mixed k1 k2 k3 hlen (.exec e3) hx e6).conP jV hvs hv
theorem Fe:(A6 7).isSome=true:=by kernel_rfl
theorem c7:CP 7 [] (.bool true):=by
 have k:=Dz;unfold y6 at k
 split at k
 ·rename_i h' e
  obtain⟨cf,hcf⟩:=Option.isSome_iff_exists.1 Fe;exact vY yy vb (n:=79) (f:=7) hcf rfl (λ_ q=>by cases q) (.flat rfl) e
 ·cases k
end Ev
end Go.Proofs.YtdfphfdnoobikaaGreatDoor
