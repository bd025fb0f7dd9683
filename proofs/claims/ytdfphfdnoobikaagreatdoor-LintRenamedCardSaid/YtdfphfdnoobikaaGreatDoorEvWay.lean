/-
  Ways are what the model does.
-/
import Derived.Test.YtdfphfdnoobikaaGreatDoorEvDrawX
namespace Go.Proofs.YtdfphfdnoobikaaGreatDoor
namespace Ev
section
section
variable {P:Program} {T:Ty} {m N:Nat}
theorem ou{K:Nat->Prop}{call:cN}{l:List cj}{f f':F}{h h':H}(k:iQ P T K call l f h f' h'):cF.reg l=rO->False:=by
 induction k with
 |nil=>intro a;cases a
 |op e k ih=>intro a;cases a;cases e
 |con eg ev ec=>intro a;cases a;cases ec
 |mkF eg ev eo=>intro a;cases a;cases eo
 |allocF=>intro a;cases a
 |view e k ih=>exact ih
theorem Cc(hT:da P T){call:cN}(hk:∀E:En,@fA E P T call){ops:Array Oper}{Q:Exit->Act->World->Prop}{K:Nat->Prop}{E0:En}{g0:G}{w0:World}{cl:List cj}{f f':F}{h h':H}(r:iQ P T K call cl f h f' h'):
  ∀(d:List Oper) (k:Nat),(∀i,i<d.length->ops[k+i]? =d[i]?)->gU (gh T m N ops) d=some cl->∀(E:En) (g:G) (a:Act) (w:World),Sx T K E0 g0 w0 E g h w->@FR E g m N f a.tmps->eW [] g w w0.heap.size a.defers->
  (∀E' g' a' w',Sx T K E0 g0 w0 E' g' h' w'->@FR E' g' m N f' a'.tmps->eW [] g' w' w0.heap.size a'.defers->Q .normal a' w')->wpOpsIn (fen none) 0 P ops Q (List.range' k d.length) a w:=by
 induction r with
 |nil=>
  intro d k j hc E g a w s y C D;cases d with
  |nil=>exact D E g a w s y C
  |cons o d=>
   rw [@eZ noE]at hc;obtain⟨R,h1,h2⟩:=bQ.1 hc;obtain⟨V,J,S⟩:=bQ.1 h2;cases S
 |view e k ih=>
  intro d k0 j hc E g a w s y C D;obtain⟨E1,g1,s1,f1,U⟩:=e m N E0 g0 w0 E g w a.tmps s y;exact ih d k0 j hc E1 g1 a w s1 f1 (C.of U) D
 |op e k ih=>
  intro d k0 j hc E g a w s y C D;cases d with
  |nil=>cases hc
  |cons o d=>
   rw [@eZ noE]at hc;obtain⟨R,h1,h2⟩:=bQ.1 hc;obtain⟨V,J,S⟩:=bQ.1 h2;cases S;have B:=@dM noE _ _ _ _ _ _ h1;have ho:ops[k0]? =some o:=by have:=j 0 (by simp);simpa using this
   have l:∀i,i<d.length->ops[k0+1+i]? =d[i]? :=λi hi=>by
    have:=j (i+1) (by simp;omega);rw [show k0+1+i=k0+(i+1) by omega]
    simpa using this
   rw [List.length_cons,List.range'_succ,wpOpsIn_cons];unfold wpOpIn;simp only [ho];rcases @qO noE _ _ _ _ _ e with⟨e1,e2⟩ | ⟨vs,v,h'',e1,e2,e3,e4⟩
   ·cases e2
    rw [@gf E _ _ _ g ops o _ B _ a _ e1 (λt _ v A=>y.2 t v A)];refine⟨λ_ _=>trivial,?_⟩;exact ih d (k0+1) l J E g _ w s (@FR.put E _ _ _ _ _ _ _ _ _ y B.dst (@gG E _)) (by rw [@dH noE];exact C) D
   ·cases e4
    rw [@gf E _ _ _ g ops o _ B _ a _ e1 (λt _ v A=>y.2 t v A)];obtain⟨os,W,Z⟩:=B.op;refine @mz E P T hT call (hk E) g _ _ w s.sit.wr s.sit.glob o _ os a W vs v (@kL E T m g _ w s.sit.glob _ a _ _ _ Z e2 λt _ v A=>y.2 t v A) e3 _ _ _ λg1 w1 u I x2=>?_;have X:=gj.of (M:=noM) s.sit I;exact ih d (k0+1) l J E g1 _ w1 (s.ext X λ_ _ q=>q) (@FR.put E _ _ _ _ _ _ _ _ _ (@FR.mono E _ _ (@Ext.le E _ _ _ _ _ _ _ I) _ _ _ _ y) B.dst x2) (by rw [@dH noE];exact C.extX X) D
 |@con co cl0 f h f' h' M vs vs' fnn v h1 eg ev ec c hK hfr k ih=>
  intro d k0 j hc E g a w s y C D;cases d with
  |nil=>cases hc
  |cons o d=>
   rw [@eZ noE]at hc;obtain⟨R,h1,h2⟩:=bQ.1 hc;obtain⟨V,J,S⟩:=bQ.1 h2;cases S;have B:=@dM noE _ _ _ _ _ _ h1;have ho:ops[k0]? =some o:=by have:=j 0 (by simp);simpa using this
   have l:∀i,i<d.length->ops[k0+1+i]? =d[i]? :=λi hi=>by
    have:=j (i+1) (by simp;omega);rw [show k0+1+i=k0+(i+1) by omega]
    simpa using this
   rw [List.length_cons,List.range'_succ,wpOpsIn_cons];unfold wpOpIn;simp only [ho];rw [@gf E _ _ _ g ops o _ B _ a _ eg (λt _ v A=>y.2 t v A)];obtain⟨os,W,Z⟩:=B.op;refine xr s.sit W (@kL E T m g _ w s.sit.glob _ a _ _ _ Z ev λt _ v A=>y.2 t v A) ec c λE1 g1 w1 u I x2=>?_;exact ih d (k0+1) l J E1 g1 _ w1 (s.ext I hK) (@FR.put E1 _ _ _ _ _ _ _ _ _ (hfr.fr I.le (y.env I.envl)) B.dst x2) (by rw [@dH noE];exact C.extX I) D
 |@mkF co cl0 f h f' h' ao vs cs mk v eg ev eo er hz hl hfr k ih=>
  intro d k0 j hc E g a w s y C D;cases d with
  |nil=>cases hc
  |cons o d=>
   rw [@eZ noE]at hc;obtain⟨R,h1,h2⟩:=bQ.1 hc;obtain⟨V,J,S⟩:=bQ.1 h2;cases S;have B:=@dM noE _ _ _ _ _ _ h1;have ho:ops[k0]? =some o:=by have:=j 0 (by simp);simpa using this
   have l:∀i,i<d.length->ops[k0+1+i]? =d[i]? :=λi hi=>by
    have:=j (i+1) (by simp;omega);rw [show k0+1+i=k0+(i+1) by omega]
    simpa using this
   rw [List.length_cons,List.range'_succ,wpOpsIn_cons];unfold wpOpIn;simp only [ho];rw [@gf E _ _ _ g ops o _ B _ a _ eg (λt _ v A=>y.2 t v A)];obtain⟨os,W,Z⟩:=B.op;rw [eo]at W;refine xq hT s.sit W (@kL E T m g _ w s.sit.glob _ a _ _ _ Z ev λt _ v A=>y.2 t v A) er hz hl hfr λE1 w1 u I x2=>?_;exact ih d (k0+1) l J E1 g _ w1 (s.ext I λ_ _ q=>q) (@FR.put E1 _ _ _ _ _ _ _ _ _ (y.env I.envl) B.dst x2) (by rw [@dH noE];exact C.extX I) D
 |@allocF co1 co2 cl0 f h f' h' zero n x h2 cs' eg1 eo1 ev1 er hk1 eg2 eo2 ev2 hw hb hcs hl hfr k ih=>
  intro d k0 j hc E g a w s y C D;cases d with
  |nil=>cases hc
  |cons o1 d=>
  rw [@eZ noE]at hc;obtain⟨R,h1,a5⟩:=bQ.1 hc;obtain⟨V,J,S⟩:=bQ.1 a5;cases S;cases d with
  |nil=>cases J
  |cons o2 d=>
  rw [@eZ noE]at J;obtain⟨b6,h5,a6⟩:=bQ.1 J;obtain⟨b5,h6,h7⟩:=bQ.1 a6;cases h7;have O:=@dM noE _ _ _ _ _ _ h1;have a0:=@dM noE _ _ _ _ _ _ h5;have a7:ops[k0]? =some o1:=by have:=j 0 (by simp);simpa using this
  have b1:ops[k0+1]? =some o2:=by have:=j 1 (by simp);simpa using this
  have l:∀i,i<d.length->ops[k0+1+1+i]? =d[i]? :=λi hi=>by
   have:=j (i+2) (by simp;omega);rw [show k0+1+1+i=k0+(i+2) by omega]
   simpa using this
  rw [List.length_cons,List.length_cons,List.range'_succ,List.range'_succ,wpOpsIn_cons];unfold wpOpIn;simp only [a7];rw [@gf E _ _ _ g ops o1 _ O _ a _ eg1 (λt _ v A=>y.2 t v A)];obtain⟨b9,W,Z⟩:=O.op;rw [eo1]at W;refine DH hT s.sit W (@kL E T m g _ w s.sit.glob _ a _ _ _ Z ev1 λt _ v A=>y.2 t v A) er hk1 λa1 z u r1 hu a8=>?_;have L:g h.next=none:=by
   cases e:g h.next with
   |none=>rfl
   |some x=>exact absurd (@WR.dom E _ _ _ _ s.sit.wr _ _ e) (by omega)
  have a3:=@fO noE g _ (w.heap.size,0,z) L;have Y:@jg E T (fp g h.next (w.heap.size,0,z)) ⟨h.t.put h.next (some (.cells zero.length (cM zero 0 .e) none false)),Nat.succ h.next⟩ (w.alloc a1):=by
   refine @jg.mk E _ _ _ _ (λp B=>?_) λb c e=>?_
   ·obtain⟨⟨z',U⟩,q2⟩:=s.sit.pin p B
    refine⟨⟨z',a3 _ _ U⟩,?_⟩;have b4:p.1≠h.next:=λq=>by rw [q,L]at U;cases U
    show(h.t.put h.next _).get p.1=_;rw [Tr.get_put _ _ _ _ hk1,if_neg b4];exact q2
   ·obtain⟨⟨t,U⟩,q2⟩:=s.sit.env e
    have b7:=(Array.getElem?_eq_some_iff.1 U).1;refine⟨⟨t,?_⟩,λid o z' q=>?_⟩
    ·show(w.heap.push a1)[b]? =_
     rw [Array.getElem?_push,if_neg (by omega)];exact U
    ·unfold fp at q
     split at q
     ·cases q;omega
     ·exact q2 _ _ _ q
  have a4:@FR E (fp g h.next (w.heap.size,0,z)) m N (co1.dst.put f (.ptr h.next 0)) (a.put o1.dst u).tmps:=@FR.put E _ _ _ _ _ _ _ _ _ (@FR.mono E _ _ a3 _ _ _ _ y) O.dst hu;rw [wpOpsIn_cons];unfold wpOpIn;simp only [b1];rw [@gf E _ _ _ _ ops o2 _ a0 _ (a.put o1.dst u) _ eg2 (λt _ v A=>a4.2 t v A)];obtain⟨b8,k3,k4⟩:=a0.op;rw [eo2]at k3;obtain⟨t,ox,oy,e1,e2,e3⟩:=@wE noE _ _ _ _ k3;subst e2;have b2:=@kL E T m _ _ _ Y _ (a.put o1.dst u) _ _ _ k4 ev2 λt _ v A=>a4.2 t v A;obtain⟨U,q2,a9,b3,b0⟩:=@VRs.two E _ _ _ _ b2;cases a9;obtain⟨w2,b',o',z',y1,y2,y3,y4⟩:=@Am E P T _ (a.put o1.dst u).eval _ _ hT r1 t n ox oy h.next x h2 e3 b3 b0 hl hw
  rw [@cH noE]at y1;cases y1;obtain⟨E',X,hz⟩:=G3 s.sit y2 y4 hb hcs hfr;refine⟨λ_ _=>trivial,?_⟩;rw [Oper.semAt_eq _ _ _ (@fQ noE _ _ _ _ k3)];have a2:wpOpsIn (fen none) 0 P ops Q (List.range' (k0+1+1) d.length) ((a.put o1.dst u).put o2.dst undef) w2:=by
   subst a8;exact ih d (k0+1+1) l h6 E' g _ w2 (s.ext X λ_ _ q=>q) (@FR.put E' _ _ _ _ _ _ _ _ _ (@FR.put E' _ _ _ _ _ _ _ _ _ (y.env X.envl) O.dst hz) a0.dst (@gG E' g)) (by rw [@dH noE,@dH noE];exact C.extX X) D
  rcases y3 o2 e1 with q | ⟨q,_⟩
  ·rw [q,Oper.uponIn_value]
   exact a2
  ·rw [q,Oper.uponIn_skip]
   exact a2
theorem y9(hT:da P T){call:cN}(hk:∀E:En,@fA E P T call)(hm:P.follows .mixedOrders=true){n:Nat}{K:Nat->Prop}{E0:En}{g0:G}{w0:World}{cc:cF}{f:F}{h:H}{x:X}{f':F}{h':H}(r:Way P T K call n cc f h x f' h'):
  ∀(c:Code),eu T m N c=some cc->∀(E:En) (g:G) (a:Act) (w:World),Sx T K E0 g0 w0 E g h w->@FR E g m N f a.tmps->eW [] g w w0.heap.size a.defers->c.wpIn (fen none) 0 P (FQ T K m N E0 g0 w0 x f' h') a w:=by
 induction r with
 |exec e=>
  intro c hc E g a w s p u;refine wpIn_mono (@se E P T m N [] hT call (hk E) hm n none c _ hc _ _ _ _ _ e g a w w0.heap.size s.sit.wr s.sit.glob p (λ_=>u) s.size) ?_;rintro e a' w' ⟨g',B,C,D,y⟩;exact⟨E,g',s.ext (gj.of (M:=noM) s.sit B) λ_ _ q=>q,C,D rfl,y⟩
 |reg k=>
  intro c hc E g a w s p u;cases c with
  |region id ops d=>
   cases d with
   |false=>
    rw [@kP noE]at hc;rcases @eA noE _ _ hc with hc|hb
    case inr=>exact(ou k hb).elim
    obtain⟨cl,h1,h2⟩:=bQ.1 hc;cases h2;refine wpIn_region ?_;rw [List.range_eq_range'];have V:ops.size=ops.toList.length:=by simp
    rw [V];exact Cc hT hk k ops.toList 0 (λi _=>by rw [Nat.zero_add,Array.getElem?_toList]) h1 E g a w s p u λE' g' a' w' O S U=>⟨E',g',O,@FR.clr E' _ _ _ _ _ S,U,trivial⟩
   |true=>
    rw [@jr noE]at hc;rcases @eA noE _ _ hc with hc|hb
    ·obtain⟨cl,h1,h2⟩:=bQ.1 hc
     obtain⟨l,Z,W⟩:=bQ.1 h2;cases W
    ·exact(ou k hb).elim
  |seq a b=>rw [@kO noE]at hc;obtain⟨_,_,hc⟩:=bQ.1 hc;obtain⟨_,_,hc⟩:=bQ.1 hc;cases hc
  |cond o a b=>rw [@jt noE]at hc;obtain⟨_,_,hc⟩:=bQ.1 hc;obtain⟨_,_,hc⟩:=bQ.1 hc;obtain⟨_,_,hc⟩:=bQ.1 hc;cases hc
  |block id a=>rw [@iO noE]at hc;obtain⟨_,_,hc⟩:=bQ.1 hc;cases hc
  |loop a=>rw [@js noE]at hc;obtain⟨_,_,hc⟩:=bQ.1 hc;cases hc
  |rangeFunc f ps a b=>rw [@iN noE]at hc;obtain⟨_,_,hc⟩:=bQ.1 hc;obtain⟨_,_,hc⟩:=bQ.1 hc;obtain⟨_,_,hc⟩:=bQ.1 hc;obtain⟨_,_,hc⟩:=bQ.1 hc;cases hc
  |_=>(rw [eu]at hc<;>first|(intros;contradiction)|(cases hc;first|done|exact(ou k rfl).elim))
 |regD e hck=>
  intro c hc E g a w s p u;cases c with
  |region id ops d=>
   cases d with
   |true=>
    rw [@jr noE]at hc;rcases @eA noE _ _ hc with hc|hb
    ·obtain⟨cl,h1,h2⟩:=bQ.1 hc
     obtain⟨l,Z,W⟩:=bQ.1 h2;cases W;refine @yE E P T m N call ops cl hT (hk E) hm id _ h1 Z _ _ _ e hck g a w s.sit.wr s.sit.glob p _ _ λg' a' w' O S U=>⟨E,g',s.ext (gj.of (M:=noM) s.sit O) λ_ _ q=>q,@FR.clr E _ _ _ _ _ S,?_,trivial⟩
     rw [U];exact u.extX (gj.of (M:=noM) s.sit O)
    ·unfold rO at hb;cases hb
   |false=>
    rw [@kP noE]at hc;rcases @eA noE _ _ hc with hc|hb
    ·obtain⟨cl,h1,h2⟩:=bQ.1 hc
     cases h2
    ·unfold rO at hb;cases hb
  |seq a b=>rw [@kO noE]at hc;obtain⟨_,_,hc⟩:=bQ.1 hc;obtain⟨_,_,hc⟩:=bQ.1 hc;cases hc
  |cond o a b=>rw [@jt noE]at hc;obtain⟨_,_,hc⟩:=bQ.1 hc;obtain⟨_,_,hc⟩:=bQ.1 hc;obtain⟨_,_,hc⟩:=bQ.1 hc;cases hc
  |block id a=>rw [@iO noE]at hc;obtain⟨_,_,hc⟩:=bQ.1 hc;cases hc
  |loop a=>rw [@js noE]at hc;obtain⟨_,_,hc⟩:=bQ.1 hc;cases hc
  |rangeFunc f ps a b=>rw [@iN noE]at hc;obtain⟨_,_,hc⟩:=bQ.1 hc;obtain⟨_,_,hc⟩:=bQ.1 hc;obtain⟨_,_,hc⟩:=bQ.1 hc;obtain⟨_,_,hc⟩:=bQ.1 hc;cases hc
  |_=>(rw [eu]at hc<;>first|(intros;contradiction)|(cases hc;done))
 |regX hr hck hf0 hK=>
  intro c hc E g a w s p u;cases c with
  |region id ops d=>
   cases d with
   |true=>
    rw [@jr noE]at hc;rcases @eA noE _ _ hc with hc|hb
    ·obtain⟨cl,h1,h2⟩:=bQ.1 hc
     obtain⟨l,Z,W⟩:=bQ.1 h2;cases W;refine yG hT hm (λq=>absurd rfl q) h1 Z hr hck s.sit p hf0 (λk J q=>by cases q) λE' g' a' w' O S U=>⟨E',g',s.ext O hK,@FR.clr E' _ _ _ _ _ S,?_,trivial⟩
     rw [U];exact u.extX O
    ·unfold rO at hb;cases hb
   |false=>
    rw [@kP noE]at hc;rcases @eA noE _ _ hc with hc|hb
    ·obtain⟨cl,h1,h2⟩:=bQ.1 hc
     cases h2
    ·unfold rO at hb;cases hb
  |seq a b=>rw [@kO noE]at hc;obtain⟨_,_,hc⟩:=bQ.1 hc;obtain⟨_,_,hc⟩:=bQ.1 hc;cases hc
  |cond o a b=>rw [@jt noE]at hc;obtain⟨_,_,hc⟩:=bQ.1 hc;obtain⟨_,_,hc⟩:=bQ.1 hc;obtain⟨_,_,hc⟩:=bQ.1 hc;cases hc
  |block id a=>rw [@iO noE]at hc;obtain⟨_,_,hc⟩:=bQ.1 hc;cases hc
  |loop a=>rw [@js noE]at hc;obtain⟨_,_,hc⟩:=bQ.1 hc;cases hc
  |rangeFunc f ps a b=>rw [@iN noE]at hc;obtain⟨_,_,hc⟩:=bQ.1 hc;obtain⟨_,_,hc⟩:=bQ.1 hc;obtain⟨_,_,hc⟩:=bQ.1 hc;obtain⟨_,_,hc⟩:=bQ.1 hc;cases hc
  |_=>(rw [eu]at hc<;>first|(intros;contradiction)|(cases hc;done))
 |seq k1 k2 ih1 ih2=>
  intro c hc E g a w s p u;obtain⟨c1,c2,rfl,h1,h2⟩:=@il noE _ _ _ _ _ hc;refine wpIn_seq (wpIn_mono (ih1 _ h1 E g a w s p u) ?_);rintro e Q R ⟨A,z,B,C,D,y⟩;rw [@oS.norm_inv noE _ y];exact ih2 _ h2 A z Q R B C D
 |seqX k1 hx ih=>
  intro c hc E g a w s p u;obtain⟨c1,c2,rfl,h1,h2⟩:=@il noE _ _ _ _ _ hc;refine wpIn_seq (wpIn_mono (ih _ h1 E g a w s p u) ?_);rintro e Q R ⟨A,z,B,C,D,y⟩;cases e with
  |normal=>rename_i x _ _;cases x<;>first|(cases y;done)|exact absurd rfl hx
  |_=>exact⟨A,z,B,C,D,y⟩
 |cond e k ih=>
  intro c hc E g a w s p u;obtain⟨o',c1,c2,rfl,h0,h1,h2⟩:=@il noE _ _ _ _ _ hc
  rename_i t
  refine wpIn_cond (@VR.bool_inv E _ _ _ (@sS E T _ g _ w s.sit.glob o' _ _ a _ h0 e λt _ v hv=>p.2 t v hv)) ?_;cases t with
  |true=>exact ih _ h1 E g a w s p u
  |false=>exact ih _ h2 E g a w s p u
 |@block id cb f1 h1f x f1' L k ih=>
  intro c hc E g a w s p u;obtain⟨c1,rfl,h1⟩:=@il noE _ _ _ _ _ hc;refine wpIn_block (wpIn_mono (ih _ h1 E g a w s p u) ?_);rintro e Q R ⟨A,z,B,C,D,y⟩;cases x with
  |norm=>rw [@oS.norm_inv noE _ y];exact⟨A,z,B,C,D,trivial⟩
  |ret=>
   cases e<;>first|(cases y;done)|skip
   exact⟨A,z,B,C,D,trivial⟩
  |exit j=>
   cases e<;>first|(cases y;done)|skip
   have y:j=_:=y;subst y;show(if j=id then _ else _)
   by_cases q:j=id
   ·rw [if_pos q]
    exact⟨A,z,B,C,D,by show oS (if j=id then _ else _) _;rw [if_pos q];trivial⟩
   ·rw [if_neg q]
    exact⟨A,z,B,C,D,by show oS (if j=id then _ else _) _;rw [if_neg q];rfl⟩
 |loop I nx k i rnd more last ih=>
  intro c hc E g a w s p u;obtain⟨c1,rfl,h1⟩:=@il noE _ _ _ _ _ hc;refine @qg noE P _ _ _ _ (λk Q R=>∃f1 h1 A z,I k f1 h1/\Sx T K E0 g0 w0 A z h1 R/\@FR A z m N f1 Q.tmps/\eW [] z R w0.heap.size Q.defers) ?_ k _ _ ⟨_,_,E,g,i,s,p,u⟩;rintro k Q R ⟨f1,L,A,z,i1,O,S,U⟩;refine wpIn_mono (ih k f1 L i1 _ h1 A z Q R O S U) ?_;rintro e a2 w2 ⟨Y,g2,B,C,D,y⟩;cases e with
  |normal=>
   have e0:(nx k f1 L).1= .norm:=by cases q:(nx k f1 L).1<;>rw [q]at y<;>first|rfl|cases y
   obtain⟨j,hj,ij⟩:=more k f1 L i1 e0;exact⟨j,hj,_,_,Y,g2,ij,B,C,D⟩
  |_=>
   have e0:(nx k f1 L).1≠.norm:=λq=>by rw [q]at y;cases y
   have e1:=last k f1 L i1 e0;rw [e1]at B C y;exact⟨Y,g2,B,C,D,y⟩
 |view e k ih=>
  intro c hc E g a w s p u;obtain⟨A,z,s1,f1,q1⟩:=e m N E0 g0 w0 E g w a.tmps s p;exact ih c hc A z a w s1 f1 (u.of q1)
 |sem e=>
  intro c hc E g a w s p u;exact e _ _ _ _ _ c hc E g a w s p u
 |viewX k e ih=>
  intro c hc E g a w s p u;refine wpIn_mono (ih c hc E g a w s p u) ?_;rintro O Q R ⟨A,z,B,C,D,y⟩;obtain⟨Y,g2,s2,f2,q2⟩:=e m N E0 g0 w0 A z R Q.tmps B C;exact⟨Y,g2,s2,f2,D.of q2,y⟩
end
end
section
inductive bY:V->Prop
 |flat {v:V} (h:flat v=true):bY v
 |lst {n es:Nat} {cs:List V} (h:∀c,c∈cs->bY c):bY (.lst n es cs)
 |eptr {off:Nat} {cs:List V} (h:∀c,c∈cs->bY c):bY (.eptr cs off)
 |agg {cs:List V} (h:∀c,c∈cs->bY c):bY (.agg cs)
 |tup {cs:List V} (h:∀c,c∈cs->bY c):bY (.tup cs)
 |func {f:FuncId} {a b:List V} (ha:∀c,c∈a->bY c) (hb:∀c,c∈b->bY c):bY (.func (.func f) a b)
theorem ie.x{v:V}(h:ie v):bY v:=by
 induction h with
 |flat h=>exact .flat h
 |lst _ ih=>exact .lst ih
 |agg _ ih=>exact .agg ih
 |tup _ ih=>exact .tup ih
theorem bY.vr{E:En}{g g':G}{v:V}(a:bY v):∀u,@VR E g v u->@VR E g' v u:=by
 induction a with
 |flat h=>exact λu k=>@G0 E _ _ _ _ h k
 |lst _ ih=>
  intro u k;cases k with
  |lst hE hx h hl=>exact @VR.lst E _ _ _ _ _ _ _ _ _ hE hx h (@iX E _ _ _ _ ih hl)
  |lst0=>exact @VR.lst0 E _ _
  |lstz=>exact @VR.lstz E _ _ _ _
 |eptr _ ih=>
  intro u k;cases k with
  |eptr hE hx hl=>exact @VR.eptr E _ _ _ _ _ _ _ hE hx (@iX E _ _ _ _ ih hl)
 |agg _ ih=>intro u k;cases k with|agg h=>exact @VR.agg E _ _ _ (@iX E _ _ _ _ ih h)
 |tup _ ih=>intro u k;cases k with|tup h=>exact @VR.tup E _ _ _ (@iX E _ _ _ _ ih h)
 |func _ _ iha ihb=>intro u k;cases k with|func ha hb=>exact @VR.func E _ _ _ _ _ _ (@iX E _ _ _ _ iha ha) (@iX E _ _ _ _ ihb hb)
theorem bY.free{M:Nat->Prop}{v:V}(h:bY v):dG M v:=λ_ _ _ u _ k=>h.vr u k
mutual
inductive Rn(U:Nat->Prop)(ρ:Nat->Nat)(Z:Nat->Option (List V)):V->V->Prop
 |pure {v:V} (h:bY v):Rn U ρ Z v v
 |ptr {i off:Nat} (h:U i):Rn U ρ Z (.ptr i off) (.ptr (ρ i) off)
 |sl {i off len cap es:Nat} {ex:Bool} (h:U i):Rn U ρ Z (.sl i off len cap ex es) (.sl (ρ i) off len cap ex es)
 |map {i:Nat} (h:U i):Rn U ρ Z (.map i) (.map (ρ i))
 |func {f:FuncId} {a b a' b':List V} (ha:RnL U ρ Z a a') (hb:RnL U ρ Z b b'):Rn U ρ Z (.func (.func f) a b) (.func (.func f) a' b')
 |agg {a a':List V} (ha:RnL U ρ Z a a'):Rn U ρ Z (.agg a) (.agg a')
 |tup {a a':List V} (ha:RnL U ρ Z a a'):Rn U ρ Z (.tup a) (.tup a')
 |lst {n es:Nat} {a a':List V} (ha:RnL U ρ Z a a'):Rn U ρ Z (.lst n es a) (.lst n es a')
 |eptr {off:Nat} {a a':List V} (ha:RnL U ρ Z a a'):Rn U ρ Z (.eptr a off) (.eptr a' off)
 |fz {k off:Nat} {a a':List V} (hz:Z k=some a') (ha:RnL U ρ Z a a'):Rn U ρ Z (.eptr a off) (.ptr k off)
 |fzs {k len cap es:Nat} {ex:Bool} {a a':List V} (hz:Z k=some a') (hl:a'.length=len*es) (ha:RnL U ρ Z a a'):Rn U ρ Z (.lst len es a) (.sl k 0 len cap ex es)
 |nil0 {es:Nat} {a:List V} (hz:Z bZ=some a):Rn U ρ Z (.lst 0 es []) .nils
inductive RnL(U:Nat->Prop)(ρ:Nat->Nat)(Z:Nat->Option (List V)):List V->List V->Prop
 |nil:RnL U ρ Z [] []
 |cons {v v':V} {a a':List V} (h:Rn U ρ Z v v') (t:RnL U ρ Z a a'):RnL U ρ Z (v ::a) (v' ::a')
end
section
variable {U:Nat->Prop} {ρ:Nat->Nat} {Z:Nat->Option (List V)}
theorem RnL.length:∀{a a':List V},RnL U ρ Z a a'->a.length=a'.length
 |_,_,.nil=>rfl
 |_,_,.cons _ t=>congrArg (·+1) (RnL.length t)
theorem RnL.pure:∀{a:List V},(∀c,c∈a->bY c)->RnL U ρ Z a a
 |[],_=>.nil
 |c ::_,h=>.cons (.pure (h c List.mem_cons_self)) (RnL.pure λx hx=>h x (List.mem_cons_of_mem _ hx))
theorem Rn.one{v a:V}(h:Rn U ρ Z v a)(k:cQ a=true):cQ v=true:=by
 cases h<;>first|rfl|exact k|cases k
theorem nN{E:En}{g:G}{c:Array Value}:∀{cs:List V} {o:Nat},(∀j v,cs[j]? =some v->∃u,c[o+j]? =some u/\@VR E g v u)->∃xs,@VRs E g cs xs/\∀j u,xs[j]? =some u->c[o+j]? =some u
 |[],o,_=>⟨[],@VRs.nil E g,λj u e=>by simp at e⟩
 |v ::cs,o,h=>by
  obtain⟨u,h1,h2⟩:=h 0 v (by simp);obtain⟨xs,k1,k2⟩:=nN (cs:=cs) (o:=o+1) λj v e=>by
   obtain⟨u,q1,q2⟩:=h (j+1) v (by simpa using e);exact⟨u,by rw [show o+1+j=o+(j+1) by omega];exact q1,q2⟩
  refine⟨u ::xs,@VRs.cons E g _ _ _ _ h2 k1,λj y e=>?_⟩;cases j with
  |zero=>simp at e;subst e;exact h1
  |succ j=>rw [show o+(j+1)=o+1+j by omega];exact k2 j y (by simpa using e)
section
variable {E E':En} {g g':G} (hg:∀i x,U i->g (ρ i)=some x->g' i=some x) (hE:E.le E')
 (hz:∀k cs,Z k=some cs->∀b o z,g k=some (b,o,z)->∃c,E'.ro b=some c/\∀j v,cs[j]? =some v->∃u,c[o+j]? =some u/\@VR E g v u)
include hg hE hz
mutual
theorem Rn.vr:∀{v' v:V},Rn U ρ Z v' v->∀u,@VR E g v u->@VR E' g' v' u
 |_,_,.pure h,u,k=>(h.vr u k).env hE
 |_,_,.ptr h,u,k=>by cases k with|ptr e=>exact @VR.ptr E' g' _ _ _ _ _ (hg _ _ h e)
 |_,_,.sl h,u,k=>by
  cases k with
  |slx e=>exact @VR.slx E' g' _ _ _ _ _ _ _ _ (hg _ _ h e)
  |sli e a b=>exact @VR.sli E' g' _ _ _ _ _ _ _ _ _ (hg _ _ h e) a b
  |sl0 e a=>exact @VR.sl0 E' g' _ _ _ _ _ _ _ _ (hg _ _ h e) a
  |slx0 e=>exact @VR.slx0 E' g' _ _ _ _ _ _ _ (hg _ _ h e)
 |_,_,.map h,u,k=>by cases k with|map e=>exact @VR.map E' g' _ _ _ _ (hg _ _ h e)
 |_,_,.func ha hb,u,k=>by cases k with|func p q=>exact @VR.func E' g' _ _ _ _ _ (RnL.vr ha _ p) (RnL.vr hb _ q)
 |_,_,.agg ha,u,k=>by cases k with|agg p=>exact @VR.agg E' g' _ _ (RnL.vr ha _ p)
 |_,_,.tup ha,u,k=>by cases k with|tup p=>exact @VR.tup E' g' _ _ (RnL.vr ha _ p)
 |_,_,.lst ha,u,k=>by
  cases k with
  |lst e hx hl h=>exact @VR.lst E' g' _ _ _ _ _ _ _ _ (hE _ _ e) hx (by rw [RnL.length ha];exact hl) (RnL.vr ha _ h)
  |lst0=>cases ha;exact @VR.lst0 E' g' _
  |lstz=>cases ha;exact @VR.lstz E' g' _ _ _
 |_,_,.eptr ha,u,k=>by cases k with|eptr e hx h=>exact @VR.eptr E' g' _ _ _ _ _ _ (hE _ _ e) hx (RnL.vr ha _ h)
 |_,_,.fz hk ha,u,k=>by
  cases k with
  |ptr e=>
   obtain⟨c,q1,q2⟩:=hz _ _ hk _ _ _ e;obtain⟨xs,p1,p2⟩:=nN q2;exact @VR.eptr E' g' _ _ _ _ _ _ q1 p2 (RnL.vr ha _ p1)
 |_,_,.fzs hk hl ha,u,k=>by
  cases k with
  |slx e=>
   obtain⟨c,q1,q2⟩:=hz _ _ hk _ _ _ e;obtain⟨xs,p1,p2⟩:=nN q2;exact @VR.lst E' g' _ _ _ _ _ _ _ _ q1 p2 (by rw [RnL.length ha];exact hl) (RnL.vr ha _ p1)
  |sli e a b=>
   obtain⟨c,q1,q2⟩:=hz _ _ hk _ _ _ e;obtain⟨xs,p1,p2⟩:=nN q2;exact @VR.lst E' g' _ _ _ _ _ _ _ _ q1 p2 (by rw [RnL.length ha];exact hl) (RnL.vr ha _ p1)
  |sl0 e a=>
   obtain⟨c,q1,q2⟩:=hz _ _ hk _ _ _ e;obtain rfl:=List.length_eq_zero_iff.1 (hl.trans (Nat.zero_mul _));cases ha;exact @VR.lst E' g' _ _ _ _ _ c _ [] q1 (λj u e=>by simp at e) (by simp) (@VRs.nil E' g')
  |slx0 e=>
   obtain⟨c,q1,q2⟩:=hz _ _ hk _ _ _ e;obtain rfl:=List.length_eq_zero_iff.1 (hl.trans (Nat.zero_mul _));cases ha;exact @VR.lst E' g' _ _ _ _ _ c _ [] q1 (λj u e=>by simp at e) (by simp) (@VRs.nil E' g')
 |_,_,.nil0 _,u,k=>by cases k;exact @VR.lst0 E' g' _
theorem RnL.vr:∀{v' v:List V},RnL U ρ Z v' v->∀u,@VRs E g v u->@VRs E' g' v' u
 |_,_,.nil,u,k=>by
  have _a:=@hg;have _b:=@hE;have _c:=@hz;cases k;exact @VRs.nil E' g'
 |_,_,.cons h t,u,k=>by cases k with|cons p q=>exact @VRs.cons E' g' _ _ _ _ (Rn.vr h _ p) (RnL.vr t _ q)
end
end
end
noncomputable section
def trO(l:List (Option Blk)):Nat->Tr Blk->Tr Blk:=
 List.rec (motive:=λ_=>Nat->Tr Blk->Tr Blk) (λ_ t=>t) (λv _ ih i t=>ih (Nat.succ i) (t.put i v)) l
def jl(l:List (Option Blk)):H:=⟨trO l 0 .e,cD l⟩
end
theorem AU:∀(l:List (Option Blk)) (i:Nat) (t:Tr Blk) (j:Nat),i+l.length<=bZ->(trO l i t).get j=if i<=j/\j<i+l.length then(l[j-i]?).join else t.get j
 |[],i,t,j,_=>by
  show t.get j=_;rw [if_neg (by simp only [List.length_nil];omega)]
 |v ::l,i,t,j,h=>by
  rw [List.length_cons]at h;show(trO l (i+1) (t.put i v)).get j=_;rw [AU l (i+1) _ j (by omega),Tr.get_put _ _ _ _ (by omega),List.length_cons]
  by_cases h1:j=i
  ·subst h1
   rw [if_neg (by omega),if_pos rfl,if_pos (by omega),Nat.sub_self];cases v<;>rfl
  ·rw [if_neg h1]
   by_cases h2:i<=j/\j<i+(l.length+1)
   ·rw [if_pos h2,if_pos (by omega),show j-i=(j-(i+1))+1 by omega,List.getElem?_cons_succ]
   ·rw [if_neg h2,if_neg (by omega)]
theorem CG{l:List (Option Blk)}(h:l.length<=bZ)(i:Nat):(jl l).blk i=(l[i]?).join:=by
 show(trO l 0 .e).get i=_;rw [AU l 0 _ i (by omega),Nat.sub_zero]
 by_cases q:i<l.length
 ·rw [if_pos (by omega)]
 ·rw [if_neg (by omega),List.getElem?_eq_none (by omega)]
  rfl
theorem oJ(l:List (Option Blk)):(jl l).next=l.length:=@cq noE _ l
theorem gC{l:List (Option Blk)}(h:l.length<=bZ){i:Nat}{b:Blk}:(jl l).blk i=some b↔l[i]? =some (some b):=by
 rw [CG h];cases l[i]? with
 |none=>simp
 |some o=>cases o<;>simp
def cY(l:List (Option Blk))(i:Nat):Prop:=∃b,l[i]? =some (some b)
inductive Bn(U:Nat->Prop)(ρ:Nat->Nat)(Z:Nat->Option (List V)):Blk->Blk->Prop
 |cells {n:Nat} {cs' cs:Tr V} {up:Option (Nat×Nat)} {ch:Bool} (h:∀j v',j<n->cs'.get j=some v'->∃v,cs.get j=some v/\Rn U ρ Z v' v):Bn U ρ Z (.cells n cs' none false) (.cells n cs up ch)
 |ro {n:Nat} {cs:Tr V} (h:∀j v,cs.get j=some v->bY v):Bn U ρ Z (.ro n cs) (.ro n cs)
 |map {es' es:List (V×V)} {o' o:Bool} (hk:RnL U ρ Z (es'.map (·.1)) (es.map (·.1))) (hv:RnL U ρ Z (es'.map (·.2)) (es.map (·.2))) (ho:o'=true->o=true):Bn U ρ Z (.map es' o') (.map es o)
 |siter {n c pos:Nat}:Bn U ρ Z (.siter n c pos) (.siter n c pos)
theorem Bn.live{U:Nat->Prop}{ρ:Nat->Nat}{Z:Nat->Option (List V)}{b B:Blk}(h:Bn U ρ Z b B):B.live=true/\b.live=true/\b.isRo=B.isRo/\(b.kin=none\/b.kin=some (none,false)):=by
 cases h
 ·exact⟨rfl,rfl,rfl,.inr rfl⟩
 ·exact⟨rfl,rfl,rfl,.inl rfl⟩
 ·exact⟨rfl,rfl,rfl,.inl rfl⟩
 ·exact⟨rfl,rfl,rfl,.inl rfl⟩
structure Vw(T:Ty)(h1:H)(l:List (Option Blk))(ρ:Nat->Nat)(Z:Nat->Option (List V)):Prop where
 len:l.length<=bZ
 blk:∀i b',l[i]? =some (some b')->∃B,h1.blk (ρ i)=some B/\Bn (cY l) ρ Z b' B
 inj:∀i j,cY l i->cY l j->ρ i=ρ j->i=j
 up:∀i j d,cY l i->cY l j->¬Up h1 (ρ i) (ρ j) d
 fz:∀k cs,Z k=some cs->k<bZ->∃t up ch,h1.blk k=some (.cells cs.length t up ch)/\∀j v,cs[j]? =some v->t.get j=some v
 fzu:∀k cs i,Z k=some cs->cY l i->ρ i≠k/\(∀d,¬Up h1 (ρ i) k d)/\∀d,¬Up h1 k (ρ i) d
 pin:∀p,p∈T.pin->ρ p.1=p.1/\l[p.1]? =some (some (.ro p.2.2.1 p.2.2.2))
open Classical in
theorem Vw.sit{T:Ty}{h1:H}{l:List (Option Blk)}{ρ:Nat->Nat}{Z:Nat->Option (List V)}(V:Vw T h1 l ρ Z){E:En}{g:G}{w:World}(s:Sit T E g h1 w):
  ∃(E':En) (g':G),E.le E'/\(∀b c,E'.ro b=some c->E.ro b=some c\/∃id o z,g id=some (b,o,z))/\((∀k,Z k=none)->E'=E)/\Sit T E' g' (jl l) w/\(∀i,cY l i->g' i=g (ρ i))/\(∀i,¬cY l i->g' i=none)/\
   ∀v' v u,Rn (cY l) ρ Z v' v->@VR E g v u->@VR E' g' v' u:=by
 have r:=s.wr;have K:∀k x,g k=some x->k<bZ:=λk x e=>Nat.lt_of_lt_of_le (@WR.dom E T g h1 w r _ _ e) (@WR.bound E T g h1 w r)
 let E':En:=⟨λb=>match E.ro b with
  |some c=>some c
  |none=>if ∃k cs o z,Z k=some cs/\g k=some (b,o,z)then(match w.heap[b]? with|some (.cells c _ _)=>some c | _=>none)else none⟩
 let g':G:=λi=>if cY l i then g (ρ i)else none
 have hE:E.le E':=λb c e=>by
  show(match E.ro b with|some c=>some c|none=>_)=some c;rw [e]
 have hg:∀i,cY l i->g' i=g (ρ i):=λi h=>if_pos h;have hn:∀i,¬cY l i->g' i=none:=λi h=>if_neg h;have n:∀i x,g' i=some x->cY l i/\g (ρ i)=some x:=λi x e=>by
  by_cases h:cY l i
  ·rw [hg i h]at e;exact⟨h,e⟩
  ·rw [hn i h]at e;cases e
 have I:∀b c,E'.ro b=some c->E.ro b=some c\/∃k cs o z t,Z k=some cs/\g k=some (b,o,z)/\w.heap[b]? =some (.cells c t (0,0)):=by
  intro b c e;have e:(match E.ro b with|some c=>some c|none=>if ∃k cs o z,Z k=some cs/\g k=some (b,o,z)then(match w.heap[b]? with|some (.cells c _ _)=>some c | _=>none)else none)=some c:=e;cases e0:E.ro b with
  |some c'=>rw [e0]at e;exact .inl e
  |none=>
   rw [e0]at e;have e:(if ∃k cs o z,Z k=some cs/\g k=some (b,o,z)then(match w.heap[b]? with|some (.cells c _ _)=>some c | _=>none)else none)=some c:=e
   by_cases q:∃k cs o z,Z k=some cs/\g k=some (b,o,z)
   ·rw [if_pos q]at e
    obtain⟨k,cs,o,z,A,f⟩:=q;obtain⟨t,up,ch,U,p2⟩:=V.fz k cs A (K k _ f);obtain⟨b',o',R,c',ty,y,a,_⟩:=(@WR.blk E T g h1 w r k _ _ f U:@Cells E g w k _ t)
    rw [f]at y;cases y;rw [a]at e;cases e;exact .inr ⟨k,cs,o,z,ty,A,f,a⟩
   ·rw [if_neg q]at e;cases e
 have hz:∀k cs,Z k=some cs->∀b o z,g k=some (b,o,z)->∃c,E'.ro b=some c/\∀j v,cs[j]? =some v->∃u,c[o+j]? =some u/\@VR E g v u:=by
  intro k cs Y b o z C;obtain⟨t,up,ch,U,p2⟩:=V.fz k cs Y (K k _ C);obtain⟨b',o',R,c,ty,y,a,k3,k4,k5,k6⟩:=(@WR.blk E T g h1 w r k _ _ C U:@Cells E g w k _ t)
  rw [C]at y;cases y;refine⟨c,?_,λj v e=>?_⟩
  ·show(match E.ro b with|some c=>some c|none=>if ∃k cs o z,Z k=some cs/\g k=some (b,o,z)then(match w.heap[b]? with|some (.cells c _ _)=>some c | _=>none)else none)=some c
   cases e0:E.ro b with
   |some c'=>exact absurd C ((s.env e0).2 k o z)
   |none=>
    show(if ∃k cs o z,Z k=some cs/\g k=some (b,o,z)then _ else none)=_;rw [if_pos ⟨k,cs,o,z,Y,C⟩,a]
  ·obtain⟨u,L,M,_⟩:=k6 j v (List.getElem?_eq_some_iff.1 e).1 (p2 j v e)
   exact⟨u,L,M⟩
 have tr:∀v' v u,Rn (cY l) ρ Z v' v->@VR E g v u->@VR E' g' v' u:=λv' v u h k=>Rn.vr (λi x hi e=>(hg i hi).trans e) hE hz h u k;have S:∀v' v u,RnL (cY l) ρ Z v' v->@VRs E g v u->@VRs E' g' v' u:=λv' v u h k=>RnL.vr (λi x hi e=>(hg i hi).trans e) hE hz h u k;have lone:∀{i:Nat} {b:Blk},(jl l).blk i=some b->b.kin=none\/b.kin=some (none,false):=λ{i b} e=>by
  obtain⟨B,_,k⟩:=V.blk i b ((gC V.len).1 e);exact k.live.2.2.2
 have wr:@WR E' T g' (jl l) w:=by
  refine @WR.mk E' T g' (jl l) w (by rw [oJ];exact V.len) (λid b e=>?_) (λid x e=>?_) (λid b o z e=>?_) (λid x b D F=>?_) (λi j b o z o' R bi bj a0 D F e3 e4 l1 l2=>?_) (λi b j d ch D F=>?_) (λi b j d ch b' D F _=>?_)
  ·rw [oJ]
   exact(List.getElem?_eq_some_iff.1 ((gC V.len).1 e)).1
  ·obtain⟨⟨b,P⟩,_⟩:=n _ _ e
   rw [oJ];exact(List.getElem?_eq_some_iff.1 P).1
  ·exact s.lt (n _ _ e).2
  ·obtain⟨J,D⟩:=n _ _ D
   obtain⟨B,y,a⟩:=V.blk id b ((gC V.len).1 F);have P:=@WR.blk E T g h1 w r _ _ _ D y;cases a with
   |cells h=>
    obtain⟨b,o,z,c,t,A,f,q3,O,q5,q6⟩:=(P:@Cells E g w _ _ _)
    refine⟨b,o,z,c,t,(hg id J).trans A,f,q3,O,q5,λj v' hj Q=>?_⟩;obtain⟨v,L,M⟩:=h j v' hj Q;obtain⟨u,n1,n2,W⟩:=q6 j v hj L;exact⟨u,n1,tr _ _ _ M n2,M.one W⟩
   |ro h=>
    obtain⟨b,o,z,c,t,A,f,q3,O,q5,q6⟩:=(P:@Cells E g w _ _ _)
    refine⟨b,o,z,c,t,(hg id J).trans A,f,q3,O,q5,λj v hj Q=>?_⟩;obtain⟨u,n1,n2,W⟩:=q6 j v hj Q;exact⟨u,n1,tr _ _ _ (.pure (h j v Q)) n2,W⟩
   |map Y Q ho=>
    obtain⟨b,o,z,m,q,A,f,q3,O⟩:=P;exact⟨b,o,z,m,q,(hg id J).trans A,f,⟨S _ _ _ Y q3.1,S _ _ _ Q q3.2⟩,O.1,λh=>O.2 (ho h)⟩
   |siter=>
    obtain⟨b,o,z,s,A,f⟩:=P;exact⟨b,o,z,s,(hg id J).trans A,f⟩
  ·obtain⟨ui,D⟩:=n _ _ D
   obtain⟨uj,F⟩:=n _ _ F;obtain⟨Bi,y,a⟩:=V.blk i bi ((gC V.len).1 e3);obtain⟨Bj,k3,k4⟩:=V.blk j bj ((gC V.len).1 e4);rcases @WR.mates E T g h1 w r (ρ i) (ρ j) b o z o' R Bi Bj (λq=>a0 (V.inj i j ui uj q)) D F y k3 a.live.1 k4.live.1 with⟨d,u,_⟩ | ⟨d,u,_⟩ | ⟨A,f⟩
   ·exact absurd u (V.up i j d ui uj)
   ·exact absurd u (V.up j i d uj ui)
   ·exact .inr (.inr ⟨a.live.2.2.1.trans A,k4.live.2.2.1.trans f⟩)
  ·rcases lone D with q|q<;>rw [q]at F<;>cases F
  ·rcases lone D with q|q<;>rw [q]at F<;>cases F
 refine⟨E',g',hE,λb c e=>?_,λhZ=>?_,Sit.mk' wr (λp hp=>?_) (λb c e=>?_),hg,hn,tr⟩
 ·rcases I b c e with k | ⟨k,cs,o,z,t,_,a,_⟩
  ·exact .inl k
  ·exact .inr ⟨k,o,z,a⟩
 ·show(⟨_⟩:Env)=E
  have:(λb=>match E.ro b with
   |some c=>some c
   |none=>if ∃k cs o z,Z k=some cs/\g k=some (b,o,z)then(match w.heap[b]? with|some (.cells c _ _)=>some c | _=>none)else none)=E.ro:=by
   funext b
   cases E.ro b with
   |some c=>rfl
   |none=>exact if_neg λ⟨k,cs,o,z,q,_⟩=>by rw [hZ k]at q;cases q
  exact congrArg Env.mk this
 ·obtain⟨y,a⟩:=V.pin p hp
  obtain⟨⟨z,L⟩,M⟩:=s.pin p hp;exact⟨⟨z,by rw [hg _ ⟨_,a⟩,y];exact L⟩,(gC V.len).2 a⟩
 ·rcases I b c e with k | ⟨k,cs,o,z,t,y,a,k3⟩
  ·exact⟨(s.env k).1,λid o z q=>(s.env k).2 _ _ _ (n _ _ q).2⟩
  ·refine⟨⟨(t,0,0),k3⟩,λid o' R q=>?_⟩
   obtain⟨J,q⟩:=n _ _ q;obtain⟨t,up,ch,U,p2⟩:=V.fz k cs y (K k _ a);obtain⟨n1,n2,W⟩:=V.fzu k cs id y J;have a1:=J;obtain⟨bb,a2⟩:=a1;obtain⟨B,L,M⟩:=V.blk id bb a2;rcases @WR.mates E T g h1 w r (ρ id) k b o' R o z B _ n1 q a L U M.live.1 rfl with⟨d,u,_⟩ | ⟨d,u,_⟩ | ⟨_,f⟩
   ·exact n2 d u
   ·exact W d u
   ·cases f
end
section
section
variable {P:Program} {T:Ty}
def FrN(U:Nat->Prop)(ρ:Nat->Nat)(Z:Nat->Option (List V))(f' f:F):Prop:=
 (∀p,p∈f'.loc->∃v,lk f.loc p.1=some v/\Rn U ρ Z p.2 v)/\∀p,p∈f'.tmp->∃v,lk f.tmp p.1=some v/\Rn U ρ Z p.2 v
theorem Vw.view{K:Nat->Prop}{h1:H}{l:List (Option Blk)}{ρ:Nat->Nat}{Z:Nat->Option (List V)}(V:Vw T h1 l ρ Z)(fix:∀id,K id->cY l id/\ρ id=id)(j:(∀k,Z k=none)\/Pn T K){f1 f':F}(C:FrN (cY l) ρ Z f' f1):fy T K f1 h1 f' (jl l):=by
 intro m N E0 g0 w0 E g w tmps s fr;obtain⟨E',g',hE,G,y,s',hg,p,tr⟩:=V.sit s.sit;have d:∀id b o z,g' id=some (b,o,z)->∃i o' a,g i=some (b,o',a):=λid b o z e=>by
  by_cases h:cY l id
  ·rw [hg id h]at e;exact⟨_,_,_,e⟩
  ·rw [p id h]at e;cases e
 refine⟨E',g',⟨s',E0.le_trans s.envl hE,λb c e=>?_,λid x D e=>?_,s.size,s.keep,λid b o z e=>?_,s.pin,s.os,s.tape,s.output⟩,⟨fr.1,λt v e=>?_⟩,d⟩
 ·rcases j with j|j
  ·rw [y j]at e
   exact s.envn b c e
  rcases G b c e with k | ⟨id,o,z,k⟩
  ·exact s.envn b c k
  ·rcases s.inv id b o z k with q | ⟨i,o',a,q⟩
   ·exact .inr (.inl q)
   ·exact .inr (.inr ⟨j,i,o',a,q⟩)
 ·obtain⟨n,f⟩:=fix id D
  rw [hg id n,f];exact s.fix id x D e
 ·obtain⟨i,o',a,q⟩:=d id b o z e
  exact s.inv i b o' a q
 ·unfold rdn at e
  split at e
  ·rename_i A
   obtain⟨v0,B,r⟩:=C.1 _ (@mH noE _ _ _ e);obtain⟨u,n,f⟩:=fr.2 t v0 (by unfold rdn;rw [if_pos A];exact B);exact⟨u,n,tr _ _ _ r f⟩
  ·rename_i A
   obtain⟨v0,B,r⟩:=C.2 _ (@mH noE _ _ _ e);obtain⟨u,n,f⟩:=fr.2 t v0 (by unfold rdn;rw [if_neg A];exact B);exact⟨u,n,tr _ _ _ r f⟩
def rD(P:Program)(T:Ty)(K:Nat->Prop)(f:FuncId)(hs:H)(vs:List V)(hs':H)(v:V):Prop:=
 ∀E g w us,Sit T E g hs w->@VRs E g vs us->∃fn,P.funcs[f]? =some fn/\fn.name≠ "runtime.NumGoroutine"/\fn.body.isNone=false/\
  CallsIn Fence.wide 0 P f us.toArray w λe w'=>∃E' g' u,e= .returned u/\@VR E' g' v u/\Sx T K E g w E' g' hs' w'
def Loc(T:Ty)(K M:Nat->Prop)(hs hs':H)(vs:List V)(v:V)(h h':H)(VS:List V)(vr:V):Prop:=
 ∀E g w us,Sit T E g h w->@VRs E g VS us->∃gs,Sit T E gs hs w/\@VRs E gs vs us/\∀E' gs' w' u,Sx T K E gs w E' gs' hs' w'->@VR E' gs' v u->∃g',gj T M E g h w E' g' h' w'/\@VR E' g' vr u
theorem rD.con{K M:Nat->Prop}{f:FuncId}{hs a:H}{vs:List V}{v:V}(c:rD P T K f hs vs a v){h h':H}{i:List V}{vr:V}(L:Loc T K M hs a vs v h h' i vr):Con P T M f i h vr h':=by
 refine⟨λE g w us s l=>?_⟩;obtain⟨gs,s0,d,back⟩:=L E g w us s l;obtain⟨fn,p,k,m,j⟩:=c E gs w us s0 d;refine⟨fn,p,k,m,j.mono ?_⟩;rintro e w' ⟨E',b,u,rfl,n,o⟩;obtain⟨g',n1,n2⟩:=back E' b w' u o n;exact⟨E',g',u,rfl,n2,n1⟩
theorem Sx.put{K:Nat->Prop}{E0 E:En}{g0 g:G}{w0:World}{h:H}{w:World}(s:Sx T K E0 g0 w0 E g h w){r:Nat}(o:Obj)(h1:w0.heap.size<=r)(h2:∀id o z,g id≠some (r,o,z))(n:w.heap[r]? =some (.deferred (some []))):Sx T K E0 g0 w0 E g h (w.putObj r o):=by
 have i:∀{id b o z},g id=some (b,o,z)->b≠r:=λhg e=>h2 _ _ _ (e▸hg);have wr:=s.sit.wr;have A:@WR E T g h (w.putObj r o):=by
  cases wr with
  |mk a b c d e f k x=>
   refine @WR.mk E T g h (w.putObj r o) a b c (λid b o' z q=>by rw [World.putObj_size];exact d _ _ _ _ q) (λid y b j B=>?_) f k x;obtain⟨D,o',z⟩:=y;exact @BR.move E _ _ _ _ _ _ _ _ _ j (World.putObj_heap_other (i j)) (e _ _ _ j B)
 refine⟨Sit.mk' A s.sit.pin λb c e=>?_,s.envl,s.envn,s.fix,by rw [World.putObj_size];exact s.size,λb C v=>?_,s.inv,λp m=>?_,s.os,s.tape,s.output⟩
 ·obtain⟨⟨t,l⟩,u⟩:=s.sit.env e
  refine⟨⟨t,?_⟩,u⟩;rw [World.putObj_heap_other (λe=>by rw [e,n]at l;cases l)];exact l
 ·rw [World.putObj_heap_other (by omega)]
  exact s.keep b C v
 ·obtain⟨⟨z,k⟩,_⟩:=s.sit.pin p m
  rw [World.putObj_heap_other (i k)];exact s.pin p m
theorem vg{K:Nat->Prop}{fn:Func}{tmps:Array Value}{E0 E:En}{g0 g:G}{h:H}{w0:World}{R:Ending->World->Prop}(hR:∀w,Sx T K E0 g0 w0 E g h w->∃u,(results fn tmps).run P w= .ok u w/\R (.returned u) w):∀{rs:List Nat} {w:World},rs.Nodup->(∀r∈rs,w0.heap.size<=r/\r<w.heap.size/\(∀id o z,g id≠some (r,o,z))/\w.heap[r]? =some (.deferred (some [])))->
  Sx T K E0 g0 w0 E g h w->LeavesInM Fence.wide 0 P fn tmps R (rs.map nw) .returning w
 |[],w,_,_,x=>by
  obtain⟨u,h1,h2⟩:=hR w x;exact⟨u,h1,h2⟩
 |r ::rs,w,hn,hm,x=>by
  rw [List.nodup_cons]at hn;obtain⟨k1,k2,k3,k4⟩:=hm r List.mem_cons_self;refine⟨(λe=>by cases e),.inl ⟨r,_,rfl,run_takeDeferred k4,vg hR hn.2 (λs hs=>?_) (x.put _ k1 k3 k4)⟩⟩;obtain⟨q1,q2,q3,q4⟩:=hm s (List.mem_cons_of_mem _ hs);have hne:s≠r:=λe=>hn.1 (e▸hs);exact⟨q1,by rw [World.putObj_size];exact q2,q3,by rw [World.putObj_heap_other hne];exact q4⟩
theorem ii(hT:da P T) {call:cN} (hk:∀E:En,@fA E P T call) (hm:P.follows .mixedOrders=true) {n:Nat} {f:FuncId} {fn:Func} {cf:CF} {K:Nat->Prop} {hs hs':H} (hfn:P.funcs[f]? =some fn) (hnm:fn.name≠ "runtime.NumGoroutine") (hcf:ci T fn=some cf)
  {vs:List V} {x:X} {f1:F} {l:List V} (hlen:vs.length=cf.params) (hr:Way P T K call n cf.code ⟨d8 vs 0,[]⟩ hs x f1 hs') (hx:x= .norm\/x= .ret) (hl:ip f1 hs' cf.results=some l):rD P T K f hs vs hs' (dq l):=by
 intro E gs w us s0 hu0;obtain⟨c,e1,e2⟩:=bQ.1 (show ob fn.body _=some cf from hcf);obtain⟨e3,e4⟩:=bW.1 e2;obtain⟨cc,e5,e6⟩:=bQ.1 e4;obtain⟨rs,e7,e8⟩:=bQ.1 e6;cases e8;refine⟨fn,hfn,hnm,by rw [e1];rfl,?_⟩;generalize hmm:jQ c (fn.results.toList.foldl (λm r=>match r with | .tmp t=>fk m t | .cell t _=>fk m t) ((List.range (fn.params.size+fn.nfree)).foldl fk 0))=m at e5 e7;have e7':gU (D6 T m) fn.results.toList=some rs:=e7;have hlen':=@VRs.length E _ _ _ hu0;have k1':vs.length=fn.params.size+fn.nfree:=hlen;have e3':fn.params.size+fn.nfree<=fn.ntmps:=by simpa using e3
 have hF:@FR E gs m fn.ntmps ⟨d8 vs 0,[]⟩ (us.toArray++Array.replicate (fn.ntmps-us.toArray.size) undef):=by
  refine⟨by simp;omega,λt x e=>?_⟩;unfold rdn at e
  split at e
  ·have e:lk (d8 vs 0) t=some x:=e
   rw [@nA noE,if_pos (Nat.zero_le _)]at e;obtain⟨u,m1,m2⟩:=@VRs.get E _ _ _ _ _ hu0 e;refine⟨u,?_,m2⟩;have ht:t<us.length:=by
    rcases Nat.lt_or_ge t us.length with k|k
    ·exact k
    ·rw [List.getElem?_eq_none (by omega)]at m1;cases m1
   rw [Array.getElem?_append_left (by simpa using ht)]
   simpa using m1
  ·cases e
 refine callsIn_of_wp_marks hfn e1 trivial ?_;refine wpIn_mono (y9 hT hk hm hr c e5 E gs ⟨us.toArray++Array.replicate (fn.ntmps-us.toArray.size) undef,[]⟩ w (Sx.refl s0) hF (@eW.nil noE _ _ _ _)) ?_;rintro e a' w' ⟨E',g',y1,y2,y3,y4⟩;have leave:LeavesInM Fence.wide 0 P fn a'.tmps (λe w'=>∃E' g' u,e= .returned u/\@VR E' g' (dq l) u/\Sx T K E gs w E' g' hs' w') a'.defers .returning w':=by
  obtain⟨ms,p1,p2,p3⟩:=y3;rw [p1,List.append_nil];refine vg (λw2 s=>?_) p2 p3 y1;obtain⟨u,q1,q2⟩:=@sM E' P T m _ hT g' f1 _ w2 _ fn y2 s.sit.wr (@jg.env E' _ _ _ _ s.sit.glob) rs _ e7' hl;exact⟨u,q2,E',g',u,rfl,q1,s⟩
 rcases hx with rfl|rfl
 ·rw [@oS.norm_inv noE _ y4];exact leave
 ·cases e<;>first|(cases y4;done)|skip
  exact leave
structure FM(T:Ty)(lp:List (Option Blk)):Prop where
 len:lp.length<=bZ
 only:∀i b,lp[i]? =some (some b)->∃p,p∈T.pin/\p.1=i/\b= .ro p.2.2.1 p.2.2.2/\∀j v,p.2.2.2.get j=some v->bY v
 all:∀p,p∈T.pin->lp[p.1]? =some (some (.ro p.2.2.1 p.2.2.2))
theorem d9{h:H}{i j d n:Nat}{cs:Tr V}(e:h.blk i=some (.ro n cs)):¬Up h i j d:=λu=>by
 cases u with
 |one e' k'=>rw [e]at e';cases e';cases k'
 |step e' k' _=>rw [e]at e';cases e';cases k'
theorem FM.vw{a:List (Option Blk)}(p:FM T a){E:En}{g:G}{h:H}{w:World}(s:Sit T E g h w):Vw T h a (λi=>i) (λ_=>none):=by
 have one:∀i,cY a i->∃n cs,h.blk i=some (.ro n cs):=λi ⟨b,l⟩=>by
  obtain⟨q,c,rfl,rfl,_⟩:=p.only i b l;exact⟨_,_,(s.pin q c).2⟩
 refine⟨p.len,λi f e=>?_,λi j _ _ e=>e,λi j d hi _=>?_,(λk cs e=>by cases e),(λk cs i e=>by cases e),λq o=>⟨rfl,p.all q o⟩⟩
 ·obtain⟨q,c,rfl,rfl,m⟩:=p.only i f e
  exact⟨_,(s.pin q c).2,.ro m⟩
 ·obtain⟨n,cs,e⟩:=one i hi
  exact d9 e
theorem rD.conP{K:Nat->Prop}{f:FuncId}{r:List (Option Blk)}{j:H}{vs:List V}{v:V}(p:FM T r)(c:rD P T K f (jl r) vs j v)(n:∀v,v∈vs->bY v)(D:bY v):la P T f vs v:=by
 refine⟨λE g h w us s I=>?_⟩;obtain⟨m,gs,_,_,hE,s0,hg,G,tr⟩:=(p.vw s).sit s;obtain rfl:=hE λ_=>rfl;have y:@VRs m gs vs us:=@iX m g gs _ _ (λv O u k=>(n v O).vr u k) I;obtain⟨fn,N,F,L,C⟩:=c m gs w us s0 y;refine⟨fn,N,F,L,C.mono ?_⟩;rintro e w' ⟨E',J,u,rfl,M,x⟩;have a:∀id b o z,gs id=some (b,o,z)->∃q,q∈T.pin/\q.1=id/\b=q.2.1:=λid b o z e=>by
  by_cases q:cY r id
  ·obtain⟨A,t⟩:=q
   obtain⟨q,d,rfl,rfl,_⟩:=p.only id A t;obtain⟨⟨B,i⟩,_⟩:=s0.pin q d;rw [i]at e;cases e;exact⟨q,d,rfl,rfl⟩
  ·rw [G id q]at e;cases e
 refine⟨E',u,rfl,D.vr u M,x.envl,λb c e=>?_,λb c e=>(x.sit.env e).1,⟨x.size,λb t=>?_,x.os,x.tape,x.output⟩⟩
 ·rcases x.envn b c e with q|q | ⟨_,id,o,z,q⟩
  ·exact .inl q
  ·exact .inr q
  ·exfalso
   obtain⟨l,d,rfl,rfl⟩:=a id b o z q;obtain⟨⟨B,i⟩,_⟩:=x.sit.pin l d;exact(x.sit.env e).2 _ _ _ i
 ·by_cases q:∃id o z,gs id=some (b,o,z)
  ·obtain⟨id,o,z,q⟩:=q
   obtain⟨l,d,rfl,rfl⟩:=a id b o z q;exact x.pin l d
  ·exact x.keep b t λid o z e=>q ⟨id,o,z,e⟩
theorem la.con{f:FuncId}{vs:List V}{v:V}(c:la P T f vs v)(h:H)(M:Nat->Prop):Con P T M f vs h v h:=by
 refine⟨λE g w us s k=>?_⟩;obtain⟨fn,x,j,l,m⟩:=c.out E g h w us s k;refine⟨fn,x,j,l,m.mono ?_⟩;rintro e w' ⟨E',u,rfl,r,d,i,y,a⟩;exact⟨E',g,u,rfl,r,d,i,λ_ _ _ e=>e,Nat.le_refl _,s.still d i y a,a.size,λb t _=>a.keep b t,λid b o z e=>.inr ⟨id,o,z,e⟩,λp n=>a.keep _ (by
  obtain⟨⟨z,q⟩,_⟩:=s.pin p n;exact s.lt q),a.os,a.tape,a.output⟩
end
end
end Ev
end Go.Proofs.YtdfphfdnoobikaaGreatDoor
