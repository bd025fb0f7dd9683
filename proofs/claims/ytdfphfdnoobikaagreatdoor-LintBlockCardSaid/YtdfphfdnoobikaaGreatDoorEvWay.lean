/-
  Ways are what the model does.
-/
import Derived.Test.YtdfphfdnoobikaaGreatDoorEvDrawX
namespace Go.Proofs.YtdfphfdnoobikaaGreatDoor
namespace Ev
section
section
variable {P:Program} {T:Ty} {m N:Nat}
theorem l9{K:Nat→Prop}{call:cB}{l:List bQ}{f f':F}{h h':H}(k:gI P T K call l f h f' h'):bZ.reg l=rA→False:=by
 induction k with
 |nil=>intro hb;cases hb
 |op e k ih=>intro hb;cases hb;cases e
 |con eg ev ec=>intro hb;cases hb;cases ec
 |mkF eg ev eo=>intro hb;cases hb;cases eo
 |allocF=>intro hb;cases hb
 |view e k ih=>exact ih
theorem yT(hT:cM P T){call:cB}(hk:∀E:En,@eu E P T call){ops:Array Oper}{Q:Exit→Act→World→Prop}{K:Nat→Prop}{E0:En}{g0:G}{w0:World}{cl:List bQ}{f f':F}{h h':H}(r:gI P T K call cl f h f' h'):
  ∀(suf:List Oper) (k:Nat),(∀i,i<suf.length→ops[k+i]? =suf[i]?)→fI (eX T m N ops) suf=some cl→∀(E:En) (g:G) (a:Act) (w:World),Sx T K E0 g0 w0 E g h w→@FR E g m N f a.tmps→dV [] g w w0.heap.size a.defers→
  (∀E' g' a' w',Sx T K E0 g0 w0 E' g' h' w'→@FR E' g' m N f' a'.tmps→dV [] g' w' w0.heap.size a'.defers→Q .normal a' w')→wpOpsIn (fen none) 0 P ops Q (List.range' k suf.length) a w:=by
 induction r with
 |nil=>
  intro suf k hidx hc E g a w s hf hM hQ
  cases suf with
  |nil=>exact hQ E g a w s hf hM
  |cons o suf=>
   rw [@dY noE]at hc
   obtain⟨co',h1,h2⟩:=bC.1 hc
   obtain⟨cl',h3,h4⟩:=bC.1 h2
   cases h4
 |view e k ih=>
  intro suf k0 hidx hc E g a w s hf hM hQ
  obtain⟨E1,g1,s1,f1,q1⟩:=e m N E0 g0 w0 E g w a.tmps s hf
  exact ih suf k0 hidx hc E1 g1 a w s1 f1 (hM.of q1) hQ
 |op e k ih=>
  intro suf k0 hidx hc E g a w s hf hM hQ
  cases suf with
  |nil=>cases hc
  |cons o suf=>
   rw [@dY noE]at hc
   obtain⟨co',h1,h2⟩:=bC.1 hc
   obtain⟨cl',h3,h4⟩:=bC.1 h2
   cases h4
   have hp:=@dj noE _ _ _ _ _ _ h1
   have ho:ops[k0]? =some o:=by have:=hidx 0 (by simp);simpa using this
   have hidx':∀i,i<suf.length→ops[k0+1+i]? =suf[i]? :=fun i hi=>by
    have:=hidx (i+1) (by simp;omega)
    rw [show k0+1+i=k0+(i+1) by omega]
    simpa using this
   rw [List.length_cons,List.range'_succ,wpOpsIn_cons]
   unfold wpOpIn
   simp only [ho]
   rcases @oh noE _ _ _ _ _ e with⟨e1,e2⟩ | ⟨vs,v,h'',e1,e2,e3,e4⟩
   ·cases e2
    rw [@eW E _ _ _ g ops o _ hp _ a _ e1 (fun t _ v hv=>hf.2 t v hv)]
    refine⟨fun _ _=>trivial,?_⟩
    exact ih suf (k0+1) hidx' h3 E g _ w s (@FR.put E _ _ _ _ _ _ _ _ _ hf hp.dst (@fy E _)) (by rw [@dg noE];exact hM) hQ
   ·cases e4
    rw [@eW E _ _ _ g ops o _ hp _ a _ e1 (fun t _ v hv=>hf.2 t v hv)]
    obtain⟨os,k1,k2⟩:=hp.op
    refine @lI E P T hT call (hk E) g _ _ w s.sit.wr s.sit.glob o _ os a k1 vs v (@jm E T m g _ w s.sit.glob _ a _ _ _ k2 e2 fun t _ v hv=>hf.2 t v hv) e3 _ _ _ fun g1 w1 u x1 x2=>?_
    have X:=fT.of (M:=noM) s.sit x1
    exact ih suf (k0+1) hidx' h3 E g1 _ w1 (s.ext X fun _ _ q=>q) (@FR.put E _ _ _ _ _ _ _ _ _ (@FR.mono E _ _ (@Ext.le E _ _ _ _ _ _ _ x1) _ _ _ _ hf) hp.dst x2) (by rw [@dg noE];exact hM.extX X) hQ
 |@con co cl0 f h f' h' M vs vs' fnn v h1 eg ev ec c hK hfr k ih=>
  intro suf k0 hidx hc E g a w s hf hM hQ
  cases suf with
  |nil=>cases hc
  |cons o suf=>
   rw [@dY noE]at hc
   obtain⟨co',h1,h2⟩:=bC.1 hc
   obtain⟨cl',h3,h4⟩:=bC.1 h2
   cases h4
   have hp:=@dj noE _ _ _ _ _ _ h1
   have ho:ops[k0]? =some o:=by have:=hidx 0 (by simp);simpa using this
   have hidx':∀i,i<suf.length→ops[k0+1+i]? =suf[i]? :=fun i hi=>by
    have:=hidx (i+1) (by simp;omega)
    rw [show k0+1+i=k0+(i+1) by omega]
    simpa using this
   rw [List.length_cons,List.range'_succ,wpOpsIn_cons]
   unfold wpOpIn
   simp only [ho]
   rw [@eW E _ _ _ g ops o _ hp _ a _ eg (fun t _ v hv=>hf.2 t v hv)]
   obtain⟨os,k1,k2⟩:=hp.op
   refine ua s.sit k1 (@jm E T m g _ w s.sit.glob _ a _ _ _ k2 ev fun t _ v hv=>hf.2 t v hv) ec c fun E1 g1 w1 u x1 x2=>?_
   exact ih suf (k0+1) hidx' h3 E1 g1 _ w1 (s.ext x1 hK) (@FR.put E1 _ _ _ _ _ _ _ _ _ (hfr.fr x1.le (hf.env x1.envl)) hp.dst x2) (by rw [@dg noE];exact hM.extX x1) hQ
 |@mkF co cl0 f h f' h' ao vs cs mk v eg ev eo er hz hl hfr k ih=>
  intro suf k0 hidx hc E g a w s hf hM hQ
  cases suf with
  |nil=>cases hc
  |cons o suf=>
   rw [@dY noE]at hc
   obtain⟨co',h1,h2⟩:=bC.1 hc
   obtain⟨cl',h3,h4⟩:=bC.1 h2
   cases h4
   have hp:=@dj noE _ _ _ _ _ _ h1
   have ho:ops[k0]? =some o:=by have:=hidx 0 (by simp);simpa using this
   have hidx':∀i,i<suf.length→ops[k0+1+i]? =suf[i]? :=fun i hi=>by
    have:=hidx (i+1) (by simp;omega)
    rw [show k0+1+i=k0+(i+1) by omega]
    simpa using this
   rw [List.length_cons,List.range'_succ,wpOpsIn_cons]
   unfold wpOpIn
   simp only [ho]
   rw [@eW E _ _ _ g ops o _ hp _ a _ eg (fun t _ v hv=>hf.2 t v hv)]
   obtain⟨os,k1,k2⟩:=hp.op
   rw [eo]at k1
   refine t8 hT s.sit k1 (@jm E T m g _ w s.sit.glob _ a _ _ _ k2 ev fun t _ v hv=>hf.2 t v hv) er hz hl hfr fun E1 w1 u x1 x2=>?_
   exact ih suf (k0+1) hidx' h3 E1 g _ w1 (s.ext x1 fun _ _ q=>q) (@FR.put E1 _ _ _ _ _ _ _ _ _ (hf.env x1.envl) hp.dst x2) (by rw [@dg noE];exact hM.extX x1) hQ
 |@allocF co1 co2 cl0 f h f' h' zero n x h2 cs' eg1 eo1 ev1 er hk1 eg2 eo2 ev2 hw hb hcs hl hfr k ih=>
  intro suf k0 hidx hc E g a w s hf hM hQ
  cases suf with
  |nil=>cases hc
  |cons o1 suf=>
  rw [@dY noE]at hc
  obtain⟨co',h1,hc2⟩:=bC.1 hc
  obtain⟨cl',h3,h4⟩:=bC.1 hc2
  cases h4
  cases suf with
  |nil=>cases h3
  |cons o2 suf=>
  rw [@dY noE]at h3
  obtain⟨co'',h5,hc3⟩:=bC.1 h3
  obtain⟨cl'',h6,h7⟩:=bC.1 hc3
  cases h7
  have hp1:=@dj noE _ _ _ _ _ _ h1
  have hp2:=@dj noE _ _ _ _ _ _ h5
  have ho1:ops[k0]? =some o1:=by have:=hidx 0 (by simp);simpa using this
  have ho2:ops[k0+1]? =some o2:=by have:=hidx 1 (by simp);simpa using this
  have hidx':∀i,i<suf.length→ops[k0+1+1+i]? =suf[i]? :=fun i hi=>by
   have:=hidx (i+2) (by simp;omega)
   rw [show k0+1+1+i=k0+(i+2) by omega]
   simpa using this
  rw [List.length_cons,List.length_cons,List.range'_succ,List.range'_succ,wpOpsIn_cons]
  unfold wpOpIn
  simp only [ho1]
  rw [@eW E _ _ _ g ops o1 _ hp1 _ a _ eg1 (fun t _ v hv=>hf.2 t v hv)]
  obtain⟨os1,k1,k2⟩:=hp1.op
  rw [eo1]at k1
  refine Am hT s.sit k1 (@jm E T m g _ w s.sit.glob _ a _ _ _ k2 ev1 fun t _ v hv=>hf.2 t v hv) er hk1 fun obj z u r1 hu hue=>?_
  have hnone:g h.next=none:=by
   cases e:g h.next with
   |none=>rfl
   |some x=>exact absurd (@WR.dom E _ _ _ _ s.sit.wr _ _ e) (by omega)
  have hle:=@eR noE g _ (w.heap.size,0,z) hnone
  have glob1:@gX E T (et g h.next (w.heap.size,0,z)) ⟨h.t.put h.next (some (.cells zero.length (cE zero 0 .e) none false)),Nat.succ h.next⟩ (w.alloc obj):=by
   refine @gX.mk E _ _ _ _ (fun p hp=>?_) fun b c e=>?_
   ·obtain⟨⟨z',q1⟩,q2⟩:=s.sit.pin p hp
    refine⟨⟨z',hle _ _ q1⟩,?_⟩
    have hne:p.1≠h.next:=fun q=>by rw [q,hnone]at q1;cases q1
    show(h.t.put h.next _).get p.1=_
    rw [Tr.get_put _ _ _ _ hk1,if_neg hne]
    exact q2
   ·obtain⟨⟨t,q1⟩,q2⟩:=s.sit.env e
    have hlt:=(Array.getElem?_eq_some_iff.1 q1).1
    refine⟨⟨t,?_⟩,fun id o z' q=>?_⟩
    ·show(w.heap.push obj)[b]? =_
     rw [Array.getElem?_push,if_neg (by omega)]
     exact q1
    ·unfold et at q
     split at q
     ·cases q;omega
     ·exact q2 _ _ _ q
  have hf1:@FR E (et g h.next (w.heap.size,0,z)) m N (co1.dst.put f (.ptr h.next 0)) (a.put o1.dst u).tmps:=@FR.put E _ _ _ _ _ _ _ _ _ (@FR.mono E _ _ hle _ _ _ _ hf) hp1.dst hu
  rw [wpOpsIn_cons]
  unfold wpOpIn
  simp only [ho2]
  rw [@eW E _ _ _ _ ops o2 _ hp2 _ (a.put o1.dst u) _ eg2 (fun t _ v hv=>hf1.2 t v hv)]
  obtain⟨os2,k3,k4⟩:=hp2.op
  rw [eo2]at k3
  obtain⟨t,ox,oy,e1,e2,e3⟩:=@tE noE _ _ _ _ k3
  subst e2
  have hv2:=@jm E T m _ _ _ glob1 _ (a.put o1.dst u) _ _ _ k4 ev2 fun t _ v hv=>hf1.2 t v hv
  obtain⟨q1,q2,hvv,hv1,hv3⟩:=@VRs.two E _ _ _ _ hv2
  cases hvv
  obtain⟨w2,b',o',z',y1,y2,y3,y4⟩:=@wT E P T _ (a.put o1.dst u).eval _ _ hT r1 t n ox oy h.next x h2 e3 hv1 hv3 hl hw
  rw [@cg noE]at y1
  cases y1
  obtain⟨E',X,hz⟩:=C6 s.sit y2 y4 hb hcs hfr
  refine⟨fun _ _=>trivial,?_⟩
  rw [Oper.semAt_eq _ _ _ (@fp noE _ _ _ _ k3)]
  have fin:wpOpsIn (fen none) 0 P ops Q (List.range' (k0+1+1) suf.length) ((a.put o1.dst u).put o2.dst undef) w2:=by
   subst hue
   exact ih suf (k0+1+1) hidx' h6 E' g _ w2 (s.ext X fun _ _ q=>q) (@FR.put E' _ _ _ _ _ _ _ _ _ (@FR.put E' _ _ _ _ _ _ _ _ _ (hf.env X.envl) hp1.dst hz) hp2.dst (@fy E' g)) (by rw [@dg noE,@dg noE];exact hM.extX X) hQ
  rcases y3 o2 e1 with q | ⟨q,_⟩
  ·rw [q,Oper.uponIn_value]
   exact fin
  ·rw [q,Oper.uponIn_skip]
   exact fin
theorem vL(hT:cM P T){call:cB}(hk:∀E:En,@eu E P T call)(hm:P.follows .mixedOrders=true){n:Nat}{K:Nat→Prop}{E0:En}{g0:G}{w0:World}{cc:bZ}{f:F}{h:H}{x:X}{f':F}{h':H}(r:Way P T K call n cc f h x f' h'):
  ∀(c:Code),dI T m N c=some cc→∀(E:En) (g:G) (a:Act) (w:World),Sx T K E0 g0 w0 E g h w→@FR E g m N f a.tmps→dV [] g w w0.heap.size a.defers→c.wpIn (fen none) 0 P (Ca T K m N E0 g0 w0 x f' h') a w:=by
 induction r with
 |exec e=>
  intro c hc E g a w s hf hM
  refine wpIn_mono (@pH E P T m N [] hT call (hk E) hm n none c _ hc _ _ _ _ _ e g a w w0.heap.size s.sit.wr s.sit.glob hf (fun _=>hM) s.size) ?_
  rintro e a' w' ⟨g',y1,y2,y3,y4⟩
  exact⟨E,g',s.ext (fT.of (M:=noM) s.sit y1) fun _ _ q=>q,y2,y3 rfl,y4⟩
 |reg k=>
  intro c hc E g a w s hf hM
  cases c with
  |region id ops d=>
   cases d with
   |false=>
    rw [@kg noE]at hc
    rcases @d3 noE _ _ hc with hc|hb
    case inr=>exact(l9 k hb).elim
    obtain⟨cl,h1,h2⟩:=bC.1 hc
    cases h2
    refine wpIn_region ?_
    rw [List.range_eq_range']
    have hlen:ops.size=ops.toList.length:=by simp
    rw [hlen]
    exact yT hT hk k ops.toList 0 (fun i _=>by rw [Nat.zero_add,Array.getElem?_toList]) h1 E g a w s hf hM fun E' g' a' w' x1 x2 x3=>⟨E',g',x1,@FR.clr E' _ _ _ _ _ x2,x3,trivial⟩
   |true=>
    rw [@iV noE]at hc
    rcases @d3 noE _ _ hc with hc|hb
    ·obtain⟨cl,h1,h2⟩:=bC.1 hc
     obtain⟨l,h3,h4⟩:=bC.1 h2
     cases h4
    ·exact(l9 k hb).elim
  |seq a b=>rw [@kf noE]at hc;obtain⟨_,_,hc⟩:=bC.1 hc;obtain⟨_,_,hc⟩:=bC.1 hc;cases hc
  |cond o a b=>rw [@iX noE]at hc;obtain⟨_,_,hc⟩:=bC.1 hc;obtain⟨_,_,hc⟩:=bC.1 hc;obtain⟨_,_,hc⟩:=bC.1 hc;cases hc
  |block id a=>rw [@ic noE]at hc;obtain⟨_,_,hc⟩:=bC.1 hc;cases hc
  |loop a=>rw [@iW noE]at hc;obtain⟨_,_,hc⟩:=bC.1 hc;cases hc
  |rangeFunc f ps a b=>rw [@ib noE]at hc;obtain⟨_,_,hc⟩:=bC.1 hc;obtain⟨_,_,hc⟩:=bC.1 hc;obtain⟨_,_,hc⟩:=bC.1 hc;obtain⟨_,_,hc⟩:=bC.1 hc;cases hc
  |_=>(rw [dI]at hc<;>first|(intros;contradiction)|(cases hc;first|done|exact(l9 k rfl).elim))
 |regD e hck=>
  intro c hc E g a w s hf hM
  cases c with
  |region id ops d=>
   cases d with
   |true=>
    rw [@iV noE]at hc
    rcases @d3 noE _ _ hc with hc|hb
    ·obtain⟨cl,h1,h2⟩:=bC.1 hc
     obtain⟨l,h3,h4⟩:=bC.1 h2
     cases h4
     refine @vj E P T m N call ops cl hT (hk E) hm id _ h1 h3 _ _ _ e hck g a w s.sit.wr s.sit.glob hf _ _ fun g' a' w' x1 x2 x3=>⟨E,g',s.ext (fT.of (M:=noM) s.sit x1) fun _ _ q=>q,@FR.clr E _ _ _ _ _ x2,?_,trivial⟩
     rw [x3]
     exact hM.extX (fT.of (M:=noM) s.sit x1)
    ·unfold rA at hb;cases hb
   |false=>
    rw [@kg noE]at hc
    rcases @d3 noE _ _ hc with hc|hb
    ·obtain⟨cl,h1,h2⟩:=bC.1 hc
     cases h2
    ·unfold rA at hb;cases hb
  |seq a b=>rw [@kf noE]at hc;obtain⟨_,_,hc⟩:=bC.1 hc;obtain⟨_,_,hc⟩:=bC.1 hc;cases hc
  |cond o a b=>rw [@iX noE]at hc;obtain⟨_,_,hc⟩:=bC.1 hc;obtain⟨_,_,hc⟩:=bC.1 hc;obtain⟨_,_,hc⟩:=bC.1 hc;cases hc
  |block id a=>rw [@ic noE]at hc;obtain⟨_,_,hc⟩:=bC.1 hc;cases hc
  |loop a=>rw [@iW noE]at hc;obtain⟨_,_,hc⟩:=bC.1 hc;cases hc
  |rangeFunc f ps a b=>rw [@ib noE]at hc;obtain⟨_,_,hc⟩:=bC.1 hc;obtain⟨_,_,hc⟩:=bC.1 hc;obtain⟨_,_,hc⟩:=bC.1 hc;obtain⟨_,_,hc⟩:=bC.1 hc;cases hc
  |_=>(rw [dI]at hc<;>first|(intros;contradiction)|(cases hc;done))
 |regX hr hck hf0 hK=>
  intro c hc E g a w s hf hM
  cases c with
  |region id ops d=>
   cases d with
   |true=>
    rw [@iV noE]at hc
    rcases @d3 noE _ _ hc with hc|hb
    ·obtain⟨cl,h1,h2⟩:=bC.1 hc
     obtain⟨l,h3,h4⟩:=bC.1 h2
     cases h4
     refine BL hT hm h1 h3 hr hck s.sit hf hf0 fun E' g' a' w' x1 x2 x3=>⟨E',g',s.ext x1 hK,@FR.clr E' _ _ _ _ _ x2,?_,trivial⟩
     rw [x3]
     exact hM.extX x1
    ·unfold rA at hb;cases hb
   |false=>
    rw [@kg noE]at hc
    rcases @d3 noE _ _ hc with hc|hb
    ·obtain⟨cl,h1,h2⟩:=bC.1 hc
     cases h2
    ·unfold rA at hb;cases hb
  |seq a b=>rw [@kf noE]at hc;obtain⟨_,_,hc⟩:=bC.1 hc;obtain⟨_,_,hc⟩:=bC.1 hc;cases hc
  |cond o a b=>rw [@iX noE]at hc;obtain⟨_,_,hc⟩:=bC.1 hc;obtain⟨_,_,hc⟩:=bC.1 hc;obtain⟨_,_,hc⟩:=bC.1 hc;cases hc
  |block id a=>rw [@ic noE]at hc;obtain⟨_,_,hc⟩:=bC.1 hc;cases hc
  |loop a=>rw [@iW noE]at hc;obtain⟨_,_,hc⟩:=bC.1 hc;cases hc
  |rangeFunc f ps a b=>rw [@ib noE]at hc;obtain⟨_,_,hc⟩:=bC.1 hc;obtain⟨_,_,hc⟩:=bC.1 hc;obtain⟨_,_,hc⟩:=bC.1 hc;obtain⟨_,_,hc⟩:=bC.1 hc;cases hc
  |_=>(rw [dI]at hc<;>first|(intros;contradiction)|(cases hc;done))
 |seq k1 k2 ih1 ih2=>
  intro c hc E g a w s hf hM
  obtain⟨c1,c2,rfl,h1,h2⟩:=@fV noE _ _ _ _ _ hc
  refine wpIn_seq (wpIn_mono (ih1 _ h1 E g a w s hf hM) ?_)
  rintro e a1 w1 ⟨E1,g1,y1,y2,y3,y4⟩
  rw [@mD.norm_inv noE _ y4]
  exact ih2 _ h2 E1 g1 a1 w1 y1 y2 y3
 |seqX k1 hx ih=>
  intro c hc E g a w s hf hM
  obtain⟨c1,c2,rfl,h1,h2⟩:=@fV noE _ _ _ _ _ hc
  refine wpIn_seq (wpIn_mono (ih _ h1 E g a w s hf hM) ?_)
  rintro e a1 w1 ⟨E1,g1,y1,y2,y3,y4⟩
  cases e with
  |normal=>rename_i x _ _;cases x<;>first|(cases y4;done)|exact absurd rfl hx
  |_=>exact⟨E1,g1,y1,y2,y3,y4⟩
 |cond e k ih=>
  intro c hc E g a w s hf hM
  obtain⟨o',c1,c2,rfl,h0,h1,h2⟩:=@fV noE _ _ _ _ _ hc
  rename_i t
  refine wpIn_cond (@VR.bool_inv E _ _ _ (@qf E T _ g _ w s.sit.glob o' _ _ a _ h0 e fun t _ v hv=>hf.2 t v hv)) ?_
  cases t with
  |true=>exact ih _ h1 E g a w s hf hM
  |false=>exact ih _ h2 E g a w s hf hM
 |@block id cb f1 h1f x f1' h1' k ih=>
  intro c hc E g a w s hf hM
  obtain⟨c1,rfl,h1⟩:=@fV noE _ _ _ _ _ hc
  refine wpIn_block (wpIn_mono (ih _ h1 E g a w s hf hM) ?_)
  rintro e a1 w1 ⟨E1,g1,y1,y2,y3,y4⟩
  cases x with
  |norm=>rw [@mD.norm_inv noE _ y4];exact⟨E1,g1,y1,y2,y3,trivial⟩
  |ret=>
   cases e<;>first|(cases y4;done)|skip
   exact⟨E1,g1,y1,y2,y3,trivial⟩
  |exit j=>
   cases e<;>first|(cases y4;done)|skip
   have y4:j=_:=y4
   subst y4
   show(if j=id then _ else _)
   by_cases q:j=id
   ·rw [if_pos q]
    exact⟨E1,g1,y1,y2,y3,by show mD (if j=id then _ else _) _;rw [if_pos q];trivial⟩
   ·rw [if_neg q]
    exact⟨E1,g1,y1,y2,y3,by show mD (if j=id then _ else _) _;rw [if_neg q];rfl⟩
 |loop I nx k i rnd more last ih=>
  intro c hc E g a w s hf hM
  obtain⟨c1,rfl,h1⟩:=@fV noE _ _ _ _ _ hc
  refine @nH noE P _ _ _ _ (fun k a1 w1=>∃f1 h1 E1 g1,I k f1 h1∧Sx T K E0 g0 w0 E1 g1 h1 w1∧@FR E1 g1 m N f1 a1.tmps∧dV [] g1 w1 w0.heap.size a1.defers) ?_ k _ _ ⟨_,_,E,g,i,s,hf,hM⟩
  rintro k a1 w1 ⟨f1,h1',E1,g1,i1,x1,x2,x3⟩
  refine wpIn_mono (ih k f1 h1' i1 _ h1 E1 g1 a1 w1 x1 x2 x3) ?_
  rintro e a2 w2 ⟨E2,g2,y1,y2,y3,y4⟩
  cases e with
  |normal=>
   have e0:(nx k f1 h1').1= .norm:=by cases q:(nx k f1 h1').1<;>rw [q]at y4<;>first|rfl|cases y4
   obtain⟨j,hj,ij⟩:=more k f1 h1' i1 e0
   exact⟨j,hj,_,_,E2,g2,ij,y1,y2,y3⟩
  |_=>
   have e0:(nx k f1 h1').1≠.norm:=fun q=>by rw [q]at y4;cases y4
   have e1:=last k f1 h1' i1 e0
   rw [e1]at y1 y2 y4
   exact⟨E2,g2,y1,y2,y3,y4⟩
 |view e k ih=>
  intro c hc E g a w s hf hM
  obtain⟨E1,g1,s1,f1,q1⟩:=e m N E0 g0 w0 E g w a.tmps s hf
  exact ih c hc E1 g1 a w s1 f1 (hM.of q1)
 |sem e=>
  intro c hc E g a w s hf hM
  exact e _ _ _ _ _ c hc E g a w s hf hM
 |viewX k e ih=>
  intro c hc E g a w s hf hM
  refine wpIn_mono (ih c hc E g a w s hf hM) ?_
  rintro x1 a1 w1 ⟨E1,g1,y1,y2,y3,y4⟩
  obtain⟨E2,g2,s2,f2,q2⟩:=e m N E0 g0 w0 E1 g1 w1 a1.tmps y1 y2
  exact⟨E2,g2,s2,f2,y3.of q2,y4⟩
end
end
section
inductive bN:V→Prop
 |flat {v:V} (h:flat v=true):bN v
 |lst {n es:Nat} {cs:List V} (h:∀c,c∈cs→bN c):bN (.lst n es cs)
 |eptr {off:Nat} {cs:List V} (h:∀c,c∈cs→bN c):bN (.eptr cs off)
 |agg {cs:List V} (h:∀c,c∈cs→bN c):bN (.agg cs)
 |tup {cs:List V} (h:∀c,c∈cs→bN c):bN (.tup cs)
 |func {f:FuncId} {a b:List V} (ha:∀c,c∈a→bN c) (hb:∀c,c∈b→bN c):bN (.func (.func f) a b)
theorem fS.x{v:V}(h:fS v):bN v:=by
 induction h with
 |flat h=>exact .flat h
 |lst _ ih=>exact .lst ih
 |agg _ ih=>exact .agg ih
 |tup _ ih=>exact .tup ih
theorem bN.vr{E:En}{g g':G}{v:V}(hp:bN v):∀u,@VR E g v u→@VR E g' v u:=by
 induction hp with
 |flat h=>exact fun u k=>@C4 E _ _ _ _ h k
 |lst _ ih=>
  intro u k
  cases k with
  |lst hE hx h hl=>exact @VR.lst E _ _ _ _ _ _ _ _ _ hE hx h (@gP E _ _ _ _ ih hl)
  |lst0=>exact @VR.lst0 E _ _
  |lstz=>exact @VR.lstz E _ _ _ _
 |eptr _ ih=>
  intro u k
  cases k with
  |eptr hE hx hl=>exact @VR.eptr E _ _ _ _ _ _ _ hE hx (@gP E _ _ _ _ ih hl)
 |agg _ ih=>intro u k;cases k with|agg h=>exact @VR.agg E _ _ _ (@gP E _ _ _ _ ih h)
 |tup _ ih=>intro u k;cases k with|tup h=>exact @VR.tup E _ _ _ (@gP E _ _ _ _ ih h)
 |func _ _ iha ihb=>intro u k;cases k with|func ha hb=>exact @VR.func E _ _ _ _ _ _ (@gP E _ _ _ _ iha ha) (@gP E _ _ _ _ ihb hb)
theorem bN.free{M:Nat→Prop}{v:V}(h:bN v):df M v:=fun _ _ _ u _ k=>h.vr u k
mutual
inductive Rn(U:Nat→Prop)(ρ:Nat→Nat)(Z:Nat→Option (List V)):V→V→Prop
 |pure {v:V} (h:bN v):Rn U ρ Z v v
 |ptr {i off:Nat} (h:U i):Rn U ρ Z (.ptr i off) (.ptr (ρ i) off)
 |sl {i off len cap es:Nat} {ex:Bool} (h:U i):Rn U ρ Z (.sl i off len cap ex es) (.sl (ρ i) off len cap ex es)
 |map {i:Nat} (h:U i):Rn U ρ Z (.map i) (.map (ρ i))
 |func {f:FuncId} {a b a' b':List V} (ha:RnL U ρ Z a a') (hb:RnL U ρ Z b b'):Rn U ρ Z (.func (.func f) a b) (.func (.func f) a' b')
 |agg {a a':List V} (ha:RnL U ρ Z a a'):Rn U ρ Z (.agg a) (.agg a')
 |tup {a a':List V} (ha:RnL U ρ Z a a'):Rn U ρ Z (.tup a) (.tup a')
 |lst {n es:Nat} {a a':List V} (ha:RnL U ρ Z a a'):Rn U ρ Z (.lst n es a) (.lst n es a')
 |eptr {off:Nat} {a a':List V} (ha:RnL U ρ Z a a'):Rn U ρ Z (.eptr a off) (.eptr a' off)
 |fz {k off:Nat} {a a':List V} (hz:Z k=some a') (ha:RnL U ρ Z a a'):Rn U ρ Z (.eptr a off) (.ptr k off)
 |fzs {k len cap es:Nat} {ex:Bool} {a a':List V} (hz:Z k=some a') (hl:a'.length=len*es) (ha:RnL U ρ Z a a'):Rn U ρ Z (.lst len es a) (.sl k 0 len cap ex es)
 |nil0 {es:Nat} {a:List V} (hz:Z bP=some a):Rn U ρ Z (.lst 0 es []) .nils
inductive RnL(U:Nat→Prop)(ρ:Nat→Nat)(Z:Nat→Option (List V)):List V→List V→Prop
 |nil:RnL U ρ Z [] []
 |cons {v v':V} {a a':List V} (h:Rn U ρ Z v v') (t:RnL U ρ Z a a'):RnL U ρ Z (v ::a) (v' ::a')
end
section
variable {U:Nat→Prop} {ρ:Nat→Nat} {Z:Nat→Option (List V)}
theorem RnL.length:∀{a a':List V},RnL U ρ Z a a'→a.length=a'.length
 |_,_,.nil=>rfl
 |_,_,.cons _ t=>congrArg (·+1) (RnL.length t)
theorem RnL.pure:∀{a:List V},(∀c,c∈a→bN c)→RnL U ρ Z a a
 |[],_=>.nil
 |c ::_,h=>.cons (.pure (h c List.mem_cons_self)) (RnL.pure fun x hx=>h x (List.mem_cons_of_mem _ hx))
theorem Rn.one{v v':V}(h:Rn U ρ Z v v')(k:cD v'=true):cD v=true:=by
 cases h<;>first|rfl|exact k|cases k
theorem lF{E:En}{g:G}{c:Array Value}:∀{cs:List V} {o:Nat},(∀j v,cs[j]? =some v→∃u,c[o+j]? =some u∧@VR E g v u)→∃xs,@VRs E g cs xs∧∀j u,xs[j]? =some u→c[o+j]? =some u
 |[],o,_=>⟨[],@VRs.nil E g,fun j u e=>by simp at e⟩
 |v ::cs,o,h=>by
  obtain⟨u,h1,h2⟩:=h 0 v (by simp)
  obtain⟨xs,k1,k2⟩:=lF (cs:=cs) (o:=o+1) fun j v e=>by
   obtain⟨u,q1,q2⟩:=h (j+1) v (by simpa using e)
   exact⟨u,by rw [show o+1+j=o+(j+1) by omega];exact q1,q2⟩
  refine⟨u ::xs,@VRs.cons E g _ _ _ _ h2 k1,fun j y e=>?_⟩
  cases j with
  |zero=>simp at e;subst e;exact h1
  |succ j=>rw [show o+(j+1)=o+1+j by omega];exact k2 j y (by simpa using e)
section
variable {E E':En} {g g':G} (hg:∀i x,U i→g (ρ i)=some x→g' i=some x) (hE:E.le E')
 (hz:∀k cs,Z k=some cs→∀b o z,g k=some (b,o,z)→∃c,E'.ro b=some c∧∀j v,cs[j]? =some v→∃u,c[o+j]? =some u∧@VR E g v u)
include hg hE hz
mutual
theorem Rn.vr:∀{v' v:V},Rn U ρ Z v' v→∀u,@VR E g v u→@VR E' g' v' u
 |_,_,.pure h,u,k=>(h.vr u k).env hE
 |_,_,.ptr h,u,k=>by cases k with|ptr e=>exact @VR.ptr E' g' _ _ _ _ _ (hg _ _ h e)
 |_,_,.sl h,u,k=>by
  cases k with
  |slx e=>exact @VR.slx E' g' _ _ _ _ _ _ _ _ (hg _ _ h e)
  |sli e a b=>exact @VR.sli E' g' _ _ _ _ _ _ _ _ _ (hg _ _ h e) a b
  |sl0 e a=>exact @VR.sl0 E' g' _ _ _ _ _ _ _ _ (hg _ _ h e) a
  |slx0 e=>exact @VR.slx0 E' g' _ _ _ _ _ _ _ (hg _ _ h e)
 |_,_,.map h,u,k=>by cases k with|map e=>exact @VR.map E' g' _ _ _ _ (hg _ _ h e)
 |_,_,.func ha hb,u,k=>by cases k with|func p q=>exact @VR.func E' g' _ _ _ _ _ (RnL.vr ha _ p) (RnL.vr hb _ q)
 |_,_,.agg ha,u,k=>by cases k with|agg p=>exact @VR.agg E' g' _ _ (RnL.vr ha _ p)
 |_,_,.tup ha,u,k=>by cases k with|tup p=>exact @VR.tup E' g' _ _ (RnL.vr ha _ p)
 |_,_,.lst ha,u,k=>by
  cases k with
  |lst e hx hl h=>exact @VR.lst E' g' _ _ _ _ _ _ _ _ (hE _ _ e) hx (by rw [RnL.length ha];exact hl) (RnL.vr ha _ h)
  |lst0=>cases ha;exact @VR.lst0 E' g' _
  |lstz=>cases ha;exact @VR.lstz E' g' _ _ _
 |_,_,.eptr ha,u,k=>by cases k with|eptr e hx h=>exact @VR.eptr E' g' _ _ _ _ _ _ (hE _ _ e) hx (RnL.vr ha _ h)
 |_,_,.fz hk ha,u,k=>by
  cases k with
  |ptr e=>
   obtain⟨c,q1,q2⟩:=hz _ _ hk _ _ _ e
   obtain⟨xs,p1,p2⟩:=lF q2
   exact @VR.eptr E' g' _ _ _ _ _ _ q1 p2 (RnL.vr ha _ p1)
 |_,_,.fzs hk hl ha,u,k=>by
  cases k with
  |slx e=>
   obtain⟨c,q1,q2⟩:=hz _ _ hk _ _ _ e
   obtain⟨xs,p1,p2⟩:=lF q2
   exact @VR.lst E' g' _ _ _ _ _ _ _ _ q1 p2 (by rw [RnL.length ha];exact hl) (RnL.vr ha _ p1)
  |sli e a b=>
   obtain⟨c,q1,q2⟩:=hz _ _ hk _ _ _ e
   obtain⟨xs,p1,p2⟩:=lF q2
   exact @VR.lst E' g' _ _ _ _ _ _ _ _ q1 p2 (by rw [RnL.length ha];exact hl) (RnL.vr ha _ p1)
  |sl0 e a=>
   obtain⟨c,q1,q2⟩:=hz _ _ hk _ _ _ e
   obtain rfl:=List.length_eq_zero_iff.1 (hl.trans (Nat.zero_mul _))
   cases ha
   exact @VR.lst E' g' _ _ _ _ _ c _ [] q1 (fun j u e=>by simp at e) (by simp) (@VRs.nil E' g')
  |slx0 e=>
   obtain⟨c,q1,q2⟩:=hz _ _ hk _ _ _ e
   obtain rfl:=List.length_eq_zero_iff.1 (hl.trans (Nat.zero_mul _))
   cases ha
   exact @VR.lst E' g' _ _ _ _ _ c _ [] q1 (fun j u e=>by simp at e) (by simp) (@VRs.nil E' g')
 |_,_,.nil0 _,u,k=>by cases k;exact @VR.lst0 E' g' _
theorem RnL.vr:∀{v' v:List V},RnL U ρ Z v' v→∀u,@VRs E g v u→@VRs E' g' v' u
 |_,_,.nil,u,k=>by
  have _a:=@hg
  have _b:=@hE
  have _c:=@hz
  cases k
  exact @VRs.nil E' g'
 |_,_,.cons h t,u,k=>by cases k with|cons p q=>exact @VRs.cons E' g' _ _ _ _ (Rn.vr h _ p) (RnL.vr t _ q)
end
end
end
noncomputable section
def trO(l:List (Option Blk)):Nat→Tr Blk→Tr Blk:=
 List.rec (motive:=fun _=>Nat→Tr Blk→Tr Blk) (fun _ t=>t) (fun v _ ih i t=>ih (Nat.succ i) (t.put i v)) l
def g7(l:List (Option Blk)):H:=⟨trO l 0 .e,bU l⟩
end
theorem xD:∀(l:List (Option Blk)) (i:Nat) (t:Tr Blk) (j:Nat),i+l.length≤bP→(trO l i t).get j=if i≤j∧j<i+l.length then(l[j-i]?).join else t.get j
 |[],i,t,j,_=>by
  show t.get j=_
  rw [if_neg (by simp only [List.length_nil];omega)]
 |v ::l,i,t,j,h=>by
  rw [List.length_cons]at h
  show(trO l (i+1) (t.put i v)).get j=_
  rw [xD l (i+1) _ j (by omega),Tr.get_put _ _ _ _ (by omega),List.length_cons]
  by_cases h1:j=i
  ·subst h1
   rw [if_neg (by omega),if_pos rfl,if_pos (by omega),Nat.sub_self]
   cases v<;>rfl
  ·rw [if_neg h1]
   by_cases h2:i≤j∧j<i+(l.length+1)
   ·rw [if_pos h2,if_pos (by omega),show j-i=(j-(i+1))+1 by omega,List.getElem?_cons_succ]
   ·rw [if_neg h2,if_neg (by omega)]
theorem zf{l:List (Option Blk)}(h:l.length≤bP)(i:Nat):(g7 l).blk i=(l[i]?).join:=by
 show(trO l 0 .e).get i=_
 rw [xD l 0 _ i (by omega),Nat.sub_zero]
 by_cases q:i<l.length
 ·rw [if_pos (by omega)]
 ·rw [if_neg (by omega),List.getElem?_eq_none (by omega)]
  rfl
theorem mj(l:List (Option Blk)):(g7 l).next=l.length:=@bS noE _ l
theorem fi{l:List (Option Blk)}(h:l.length≤bP){i:Nat}{b:Blk}:(g7 l).blk i=some b↔l[i]? =some (some b):=by
 rw [zf h]
 cases l[i]? with
 |none=>simp
 |some o=>cases o<;>simp
def cI(l:List (Option Blk))(i:Nat):Prop:=∃b,l[i]? =some (some b)
inductive Bn(U:Nat→Prop)(ρ:Nat→Nat)(Z:Nat→Option (List V)):Blk→Blk→Prop
 |cells {n:Nat} {cs' cs:Tr V} {up:Option (Nat×Nat)} {ch:Bool} (h:∀j v',j<n→cs'.get j=some v'→∃v,cs.get j=some v∧Rn U ρ Z v' v):Bn U ρ Z (.cells n cs' none false) (.cells n cs up ch)
 |ro {n:Nat} {cs:Tr V} (h:∀j v,cs.get j=some v→bN v):Bn U ρ Z (.ro n cs) (.ro n cs)
 |map {es' es:List (V×V)} {o' o:Bool} (hk:RnL U ρ Z (es'.map (·.1)) (es.map (·.1))) (hv:RnL U ρ Z (es'.map (·.2)) (es.map (·.2))) (ho:o'=true→o=true):Bn U ρ Z (.map es' o') (.map es o)
 |siter {n c pos:Nat}:Bn U ρ Z (.siter n c pos) (.siter n c pos)
theorem Bn.live{U:Nat→Prop}{ρ:Nat→Nat}{Z:Nat→Option (List V)}{b B:Blk}(h:Bn U ρ Z b B):B.live=true∧b.live=true∧b.isRo=B.isRo∧(b.kin=none∨b.kin=some (none,false)):=by
 cases h
 ·exact⟨rfl,rfl,rfl,.inr rfl⟩
 ·exact⟨rfl,rfl,rfl,.inl rfl⟩
 ·exact⟨rfl,rfl,rfl,.inl rfl⟩
 ·exact⟨rfl,rfl,rfl,.inl rfl⟩
structure Vw(T:Ty)(h1:H)(l:List (Option Blk))(ρ:Nat→Nat)(Z:Nat→Option (List V)):Prop where
 len:l.length≤bP
 blk:∀i b',l[i]? =some (some b')→∃B,h1.blk (ρ i)=some B∧Bn (cI l) ρ Z b' B
 inj:∀i j,cI l i→cI l j→ρ i=ρ j→i=j
 up:∀i j d,cI l i→cI l j→¬Up h1 (ρ i) (ρ j) d
 fz:∀k cs,Z k=some cs→k<bP→∃t up ch,h1.blk k=some (.cells cs.length t up ch)∧∀j v,cs[j]? =some v→t.get j=some v
 fzu:∀k cs i,Z k=some cs→cI l i→ρ i≠k∧(∀d,¬Up h1 (ρ i) k d)∧∀d,¬Up h1 k (ρ i) d
 pin:∀p,p∈T.pin→ρ p.1=p.1∧l[p.1]? =some (some (.ro p.2.2.1 p.2.2.2))
open Classical in
theorem Vw.sit{T:Ty}{h1:H}{l:List (Option Blk)}{ρ:Nat→Nat}{Z:Nat→Option (List V)}(V:Vw T h1 l ρ Z){E:En}{g:G}{w:World}(s:Sit T E g h1 w):
  ∃(E':En) (g':G),E.le E'∧(∀b c,E'.ro b=some c→E.ro b=some c∨∃id o z,g id=some (b,o,z))∧((∀k,Z k=none)→E'=E)∧Sit T E' g' (g7 l) w∧(∀i,cI l i→g' i=g (ρ i))∧(∀i,¬cI l i→g' i=none)∧
   ∀v' v u,Rn (cI l) ρ Z v' v→@VR E g v u→@VR E' g' v' u:=by
 have r:=s.wr
 have hkk:∀k x,g k=some x→k<bP:=fun k x e=>Nat.lt_of_lt_of_le (@WR.dom E T g h1 w r _ _ e) (@WR.bound E T g h1 w r)
 let E':En:=⟨fun b=>match E.ro b with
  |some c=>some c
  |none=>if ∃k cs o z,Z k=some cs∧g k=some (b,o,z)then(match w.heap[b]? with|some (.cells c _ _)=>some c | _=>none)else none⟩
 let g':G:=fun i=>if cI l i then g (ρ i)else none
 have hE:E.le E':=fun b c e=>by
  show(match E.ro b with|some c=>some c|none=>_)=some c
  rw [e]
 have hg:∀i,cI l i→g' i=g (ρ i):=fun i h=>if_pos h
 have hn:∀i,¬cI l i→g' i=none:=fun i h=>if_neg h
 have hgs:∀i x,g' i=some x→cI l i∧g (ρ i)=some x:=fun i x e=>by
  by_cases h:cI l i
  ·rw [hg i h]at e;exact⟨h,e⟩
  ·rw [hn i h]at e;cases e
 have hnew:∀b c,E'.ro b=some c→E.ro b=some c∨∃k cs o z t,Z k=some cs∧g k=some (b,o,z)∧w.heap[b]? =some (.cells c t (0,0)):=by
  intro b c e
  have e:(match E.ro b with|some c=>some c|none=>if ∃k cs o z,Z k=some cs∧g k=some (b,o,z)then(match w.heap[b]? with|some (.cells c _ _)=>some c | _=>none)else none)=some c:=e
  cases e0:E.ro b with
  |some c'=>rw [e0]at e;exact .inl e
  |none=>
   rw [e0]at e
   have e:(if ∃k cs o z,Z k=some cs∧g k=some (b,o,z)then(match w.heap[b]? with|some (.cells c _ _)=>some c | _=>none)else none)=some c:=e
   by_cases q:∃k cs o z,Z k=some cs∧g k=some (b,o,z)
   ·rw [if_pos q]at e
    obtain⟨k,cs,o,z,q1,q2⟩:=q
    obtain⟨t,up,ch,p1,p2⟩:=V.fz k cs q1 (hkk k _ q2)
    obtain⟨b',o',z',c',ty,k1,k2,_⟩:=(@WR.blk E T g h1 w r k _ _ q2 p1:@Cells E g w k _ t)
    rw [q2]at k1
    cases k1
    rw [k2]at e
    cases e
    exact .inr ⟨k,cs,o,z,ty,q1,q2,k2⟩
   ·rw [if_neg q]at e;cases e
 have hz:∀k cs,Z k=some cs→∀b o z,g k=some (b,o,z)→∃c,E'.ro b=some c∧∀j v,cs[j]? =some v→∃u,c[o+j]? =some u∧@VR E g v u:=by
  intro k cs hk b o z hgk
  obtain⟨t,up,ch,p1,p2⟩:=V.fz k cs hk (hkk k _ hgk)
  obtain⟨b',o',z',c,ty,k1,k2,k3,k4,k5,k6⟩:=(@WR.blk E T g h1 w r k _ _ hgk p1:@Cells E g w k _ t)
  rw [hgk]at k1
  cases k1
  refine⟨c,?_,fun j v e=>?_⟩
  ·show(match E.ro b with|some c=>some c|none=>if ∃k cs o z,Z k=some cs∧g k=some (b,o,z)then(match w.heap[b]? with|some (.cells c _ _)=>some c | _=>none)else none)=some c
   cases e0:E.ro b with
   |some c'=>exact absurd hgk ((s.env e0).2 k o z)
   |none=>
    show(if ∃k cs o z,Z k=some cs∧g k=some (b,o,z)then _ else none)=_
    rw [if_pos ⟨k,cs,o,z,hk,hgk⟩,k2]
  ·obtain⟨u,m1,m2,_⟩:=k6 j v (List.getElem?_eq_some_iff.1 e).1 (p2 j v e)
   exact⟨u,m1,m2⟩
 have tr:∀v' v u,Rn (cI l) ρ Z v' v→@VR E g v u→@VR E' g' v' u:=fun v' v u h k=>Rn.vr (fun i x hi e=>(hg i hi).trans e) hE hz h u k
 have trL:∀v' v u,RnL (cI l) ρ Z v' v→@VRs E g v u→@VRs E' g' v' u:=fun v' v u h k=>RnL.vr (fun i x hi e=>(hg i hi).trans e) hE hz h u k
 have lone:∀{i:Nat} {b:Blk},(g7 l).blk i=some b→b.kin=none∨b.kin=some (none,false):=fun{i b} e=>by
  obtain⟨B,_,k⟩:=V.blk i b ((fi V.len).1 e)
  exact k.live.2.2.2
 have wr:@WR E' T g' (g7 l) w:=by
  refine @WR.mk E' T g' (g7 l) w (by rw [mj];exact V.len) (fun id b e=>?_) (fun id x e=>?_) (fun id b o z e=>?_) (fun id x b e1 e2=>?_) (fun i j b o z o' z' bi bj hij e1 e2 e3 e4 l1 l2=>?_) (fun i b j d ch e1 e2=>?_) (fun i b j d ch b' e1 e2 _=>?_)
  ·rw [mj]
   exact(List.getElem?_eq_some_iff.1 ((fi V.len).1 e)).1
  ·obtain⟨⟨b,hb⟩,_⟩:=hgs _ _ e
   rw [mj]
   exact(List.getElem?_eq_some_iff.1 hb).1
  ·exact s.lt (hgs _ _ e).2
  ·obtain⟨hu,e1⟩:=hgs _ _ e1
   obtain⟨B,k1,k2⟩:=V.blk id b ((fi V.len).1 e2)
   have hb:=@WR.blk E T g h1 w r _ _ _ e1 k1
   cases k2 with
   |cells h=>
    obtain⟨b,o,z,c,t,q1,q2,q3,q4,q5,q6⟩:=(hb:@Cells E g w _ _ _)
    refine⟨b,o,z,c,t,(hg id hu).trans q1,q2,q3,q4,q5,fun j v' hj hv=>?_⟩
    obtain⟨v,m1,m2⟩:=h j v' hj hv
    obtain⟨u,n1,n2,n3⟩:=q6 j v hj m1
    exact⟨u,n1,tr _ _ _ m2 n2,m2.one n3⟩
   |ro h=>
    obtain⟨b,o,z,c,t,q1,q2,q3,q4,q5,q6⟩:=(hb:@Cells E g w _ _ _)
    refine⟨b,o,z,c,t,(hg id hu).trans q1,q2,q3,q4,q5,fun j v hj hv=>?_⟩
    obtain⟨u,n1,n2,n3⟩:=q6 j v hj hv
    exact⟨u,n1,tr _ _ _ (.pure (h j v hv)) n2,n3⟩
   |map hk hv ho=>
    obtain⟨b,o,z,m,q,q1,q2,q3,q4⟩:=hb
    exact⟨b,o,z,m,q,(hg id hu).trans q1,q2,⟨trL _ _ _ hk q3.1,trL _ _ _ hv q3.2⟩,q4.1,fun h=>q4.2 (ho h)⟩
   |siter=>
    obtain⟨b,o,z,s,q1,q2⟩:=hb
    exact⟨b,o,z,s,(hg id hu).trans q1,q2⟩
  ·obtain⟨ui,e1⟩:=hgs _ _ e1
   obtain⟨uj,e2⟩:=hgs _ _ e2
   obtain⟨Bi,k1,k2⟩:=V.blk i bi ((fi V.len).1 e3)
   obtain⟨Bj,k3,k4⟩:=V.blk j bj ((fi V.len).1 e4)
   rcases @WR.mates E T g h1 w r (ρ i) (ρ j) b o z o' z' Bi Bj (fun q=>hij (V.inj i j ui uj q)) e1 e2 k1 k3 k2.live.1 k4.live.1 with⟨d,u,_⟩ | ⟨d,u,_⟩ | ⟨q1,q2⟩
   ·exact absurd u (V.up i j d ui uj)
   ·exact absurd u (V.up j i d uj ui)
   ·exact .inr (.inr ⟨k2.live.2.2.1.trans q1,k4.live.2.2.1.trans q2⟩)
  ·rcases lone e1 with q|q<;>rw [q]at e2<;>cases e2
  ·rcases lone e1 with q|q<;>rw [q]at e2<;>cases e2
 refine⟨E',g',hE,fun b c e=>?_,fun hZ=>?_,Sit.mk' wr (fun p hp=>?_) (fun b c e=>?_),hg,hn,tr⟩
 ·rcases hnew b c e with k | ⟨k,cs,o,z,t,_,k2,_⟩
  ·exact .inl k
  ·exact .inr ⟨k,o,z,k2⟩
 ·show(⟨_⟩:Env)=E
  have:(fun b=>match E.ro b with
   |some c=>some c
   |none=>if ∃k cs o z,Z k=some cs∧g k=some (b,o,z)then(match w.heap[b]? with|some (.cells c _ _)=>some c | _=>none)else none)=E.ro:=by
   funext b
   cases E.ro b with
   |some c=>rfl
   |none=>exact if_neg fun⟨k,cs,o,z,q,_⟩=>by rw [hZ k]at q;cases q
  exact congrArg Env.mk this
 ·obtain⟨k1,k2⟩:=V.pin p hp
  obtain⟨⟨z,m1⟩,m2⟩:=s.pin p hp
  exact⟨⟨z,by rw [hg _ ⟨_,k2⟩,k1];exact m1⟩,(fi V.len).2 k2⟩
 ·rcases hnew b c e with k | ⟨k,cs,o,z,t,k1,k2,k3⟩
  ·exact⟨(s.env k).1,fun id o z q=>(s.env k).2 _ _ _ (hgs _ _ q).2⟩
  ·refine⟨⟨(t,0,0),k3⟩,fun id o' z' q=>?_⟩
   obtain⟨hu,q⟩:=hgs _ _ q
   obtain⟨t,up,ch,p1,p2⟩:=V.fz k cs k1 (hkk k _ k2)
   obtain⟨n1,n2,n3⟩:=V.fzu k cs id k1 hu
   have hu':=hu
   obtain⟨bb,hbb⟩:=hu'
   obtain⟨B,m1,m2⟩:=V.blk id bb hbb
   rcases @WR.mates E T g h1 w r (ρ id) k b o' z' o z B _ n1 q k2 m1 p1 m2.live.1 rfl with⟨d,u,_⟩ | ⟨d,u,_⟩ | ⟨_,q2⟩
   ·exact n2 d u
   ·exact n3 d u
   ·cases q2
end
section
section
variable {P:Program} {T:Ty}
def FrN(U:Nat→Prop)(ρ:Nat→Nat)(Z:Nat→Option (List V))(f' f:F):Prop:=
 (∀p,p∈f'.loc→∃v,lk f.loc p.1=some v∧Rn U ρ Z p.2 v)∧∀p,p∈f'.tmp→∃v,lk f.tmp p.1=some v∧Rn U ρ Z p.2 v
theorem Vw.view{K:Nat→Prop}{h1:H}{l:List (Option Blk)}{ρ:Nat→Nat}{Z:Nat→Option (List V)}(V:Vw T h1 l ρ Z)(fix:∀id,K id→cI l id∧ρ id=id)(hZ:(∀k,Z k=none)∨Pn T K){f1 f':F}(hf:FrN (cI l) ρ Z f' f1):ft T K f1 h1 f' (g7 l):=by
 intro m N E0 g0 w0 E g w tmps s fr
 obtain⟨E',g',hE,hn,hE0,s',hg,hno,tr⟩:=V.sit s.sit
 have rng:∀id b o z,g' id=some (b,o,z)→∃i o' z',g i=some (b,o',z'):=fun id b o z e=>by
  by_cases h:cI l id
  ·rw [hg id h]at e;exact⟨_,_,_,e⟩
  ·rw [hno id h]at e;cases e
 refine⟨E',g',⟨s',E0.le_trans s.envl hE,fun b c e=>?_,fun id x hk e=>?_,s.size,s.keep,fun id b o z e=>?_,s.pin,s.os,s.tape,s.output⟩,⟨fr.1,fun t v e=>?_⟩,rng⟩
 ·rcases hZ with hZ|hZ
  ·rw [hE0 hZ]at e
   exact s.envn b c e
  rcases hn b c e with k | ⟨id,o,z,k⟩
  ·exact s.envn b c k
  ·rcases s.inv id b o z k with q | ⟨i,o',z',q⟩
   ·exact .inr (.inl q)
   ·exact .inr (.inr ⟨hZ,i,o',z',q⟩)
 ·obtain⟨q1,q2⟩:=fix id hk
  rw [hg id q1,q2]
  exact s.fix id x hk e
 ·obtain⟨i,o',z',q⟩:=rng id b o z e
  exact s.inv i b o' z' q
 ·unfold rdn at e
  split at e
  ·rename_i hb
   obtain⟨v0,k1,k2⟩:=hf.1 _ (@kx noE _ _ _ e)
   obtain⟨u,q1,q2⟩:=fr.2 t v0 (by unfold rdn;rw [if_pos hb];exact k1)
   exact⟨u,q1,tr _ _ _ k2 q2⟩
  ·rename_i hb
   obtain⟨v0,k1,k2⟩:=hf.2 _ (@kx noE _ _ _ e)
   obtain⟨u,q1,q2⟩:=fr.2 t v0 (by unfold rdn;rw [if_neg hb];exact k1)
   exact⟨u,q1,tr _ _ _ k2 q2⟩
def oV(P:Program)(T:Ty)(K:Nat→Prop)(f:FuncId)(hs:H)(vs:List V)(hs':H)(v:V):Prop:=
 ∀E g w us,Sit T E g hs w→@VRs E g vs us→∃fn,P.funcs[f]? =some fn∧fn.name≠ "runtime.NumGoroutine"∧fn.body.isNone=false∧
  CallsIn Fence.wide 0 P f us.toArray w fun e w'=>∃E' g' u,e= .returned u∧@VR E' g' v u∧Sx T K E g w E' g' hs' w'
def Loc(T:Ty)(K M:Nat→Prop)(hs hs':H)(vs:List V)(v:V)(h h':H)(VS:List V)(vr:V):Prop:=
 ∀E g w us,Sit T E g h w→@VRs E g VS us→∃gs,Sit T E gs hs w∧@VRs E gs vs us∧∀E' gs' w' u,Sx T K E gs w E' gs' hs' w'→@VR E' gs' v u→∃g',fT T M E g h w E' g' h' w'∧@VR E' g' vr u
theorem oV.con{K M:Nat→Prop}{f:FuncId}{hs hs':H}{vs:List V}{v:V}(c:oV P T K f hs vs hs' v){h h':H}{VS:List V}{vr:V}(L:Loc T K M hs hs' vs v h h' VS vr):Con P T M f VS h vr h':=by
 refine⟨fun E g w us s hu=>?_⟩
 obtain⟨gs,s0,hu0,back⟩:=L E g w us s hu
 obtain⟨fn,k1,k2,k3,k4⟩:=c E gs w us s0 hu0
 refine⟨fn,k1,k2,k3,k4.mono ?_⟩
 rintro e w' ⟨E',gs',u,rfl,m1,m2⟩
 obtain⟨g',n1,n2⟩:=back E' gs' w' u m2 m1
 exact⟨E',g',u,rfl,n2,n1⟩
theorem Sx.put{K:Nat→Prop}{E0 E:En}{g0 g:G}{w0:World}{h:H}{w:World}(s:Sx T K E0 g0 w0 E g h w){r:Nat}(o:Obj)(h1:w0.heap.size≤r)(h2:∀id o z,g id≠some (r,o,z))(h3:w.heap[r]? =some (.deferred (some []))):Sx T K E0 g0 w0 E g h (w.putObj r o):=by
 have hne:∀{id b o z},g id=some (b,o,z)→b≠r:=fun hg e=>h2 _ _ _ (e▸hg)
 have wr:=s.sit.wr
 have r':@WR E T g h (w.putObj r o):=by
  cases wr with
  |mk a b c d e f k x=>
   refine @WR.mk E T g h (w.putObj r o) a b c (fun id b o' z q=>by rw [World.putObj_size];exact d _ _ _ _ q) (fun id y b e1 e2=>?_) f k x
   obtain⟨b',o',z⟩:=y
   exact @BR.move E _ _ _ _ _ _ _ _ _ e1 (World.putObj_heap_other (hne e1)) (e _ _ _ e1 e2)
 refine⟨Sit.mk' r' s.sit.pin fun b c e=>?_,s.envl,s.envn,s.fix,by rw [World.putObj_size];exact s.size,fun b hb hn=>?_,s.inv,fun p hp=>?_,s.os,s.tape,s.output⟩
 ·obtain⟨⟨t,k1⟩,k2⟩:=s.sit.env e
  refine⟨⟨t,?_⟩,k2⟩
  rw [World.putObj_heap_other (fun e=>by rw [e,h3]at k1;cases k1)]
  exact k1
 ·rw [World.putObj_heap_other (by omega)]
  exact s.keep b hb hn
 ·obtain⟨⟨z,k⟩,_⟩:=s.sit.pin p hp
  rw [World.putObj_heap_other (hne k)]
  exact s.pin p hp
theorem rY{K:Nat→Prop}{fn:Func}{tmps:Array Value}{E0 E:En}{g0 g:G}{h:H}{w0:World}{R:Ending→World→Prop}(hR:∀w,Sx T K E0 g0 w0 E g h w→∃u,(results fn tmps).run P w= .ok u w∧R (.returned u) w):∀{rs:List Nat} {w:World},rs.Nodup→(∀r∈rs,w0.heap.size≤r∧r<w.heap.size∧(∀id o z,g id≠some (r,o,z))∧w.heap[r]? =some (.deferred (some [])))→
  Sx T K E0 g0 w0 E g h w→LeavesInM Fence.wide 0 P fn tmps R (rs.map kY) .returning w
 |[],w,_,_,x=>by
  obtain⟨u,h1,h2⟩:=hR w x
  exact⟨u,h1,h2⟩
 |r ::rs,w,hn,hm,x=>by
  rw [List.nodup_cons]at hn
  obtain⟨k1,k2,k3,k4⟩:=hm r List.mem_cons_self
  refine⟨(fun e=>by cases e),.inl ⟨r,_,rfl,run_takeDeferred k4,rY hR hn.2 (fun s hs=>?_) (x.put _ k1 k3 k4)⟩⟩
  obtain⟨q1,q2,q3,q4⟩:=hm s (List.mem_cons_of_mem _ hs)
  have hne:s≠r:=fun e=>hn.1 (e▸hs)
  exact⟨q1,by rw [World.putObj_size];exact q2,q3,by rw [World.putObj_heap_other hne];exact q4⟩
theorem gN(hT:cM P T) {call:cB} (hk:∀E:En,@eu E P T call) (hm:P.follows .mixedOrders=true) {n:Nat} {f:FuncId} {fn:Func} {cf:CF} {K:Nat→Prop} {hs hs':H} (hfn:P.funcs[f]? =some fn) (hnm:fn.name≠ "runtime.NumGoroutine") (hcf:bG T fn=some cf)
  {vs:List V} {x:X} {f1:F} {l:List V} (hlen:vs.length=cf.params) (hr:Way P T K call n cf.code ⟨dE vs 0,[]⟩ hs x f1 hs') (hx:x= .norm∨x= .ret) (hl:gj f1 hs' cf.results=some l):oV P T K f hs vs hs' (cX l):=by
 intro E gs w us s0 hu0
 obtain⟨c,e1,e2⟩:=bC.1 (show ob fn.body _=some cf from hcf)
 obtain⟨e3,e4⟩:=bJ.1 e2
 obtain⟨cc,e5,e6⟩:=bC.1 e4
 obtain⟨rs,e7,e8⟩:=bC.1 e6
 cases e8
 refine⟨fn,hfn,hnm,by rw [e1];rfl,?_⟩
 generalize hmm:iJ c (fn.results.toList.foldl (fun m r=>match r with | .tmp t=>ef m t | .cell t _=>ef m t) ((List.range (fn.params.size+fn.nfree)).foldl ef 0))=m at e5 e7
 have e7':fI (AK T m) fn.results.toList=some rs:=e7
 have hlen':=@VRs.length E _ _ _ hu0
 have k1':vs.length=fn.params.size+fn.nfree:=hlen
 have e3':fn.params.size+fn.nfree≤fn.ntmps:=by simpa using e3
 have hF:@FR E gs m fn.ntmps ⟨dE vs 0,[]⟩ (us.toArray++Array.replicate (fn.ntmps-us.toArray.size) undef):=by
  refine⟨by simp;omega,fun t x e=>?_⟩
  unfold rdn at e
  split at e
  ·have e:lk (dE vs 0) t=some x:=e
   rw [@la noE,if_pos (Nat.zero_le _)]at e
   obtain⟨u,m1,m2⟩:=@VRs.get E _ _ _ _ _ hu0 e
   refine⟨u,?_,m2⟩
   have ht:t<us.length:=by
    rcases Nat.lt_or_ge t us.length with k|k
    ·exact k
    ·rw [List.getElem?_eq_none (by omega)]at m1;cases m1
   rw [Array.getElem?_append_left (by simpa using ht)]
   simpa using m1
  ·cases e
 refine callsIn_of_wp_marks hfn e1 trivial ?_
 refine wpIn_mono (vL hT hk hm hr c e5 E gs ⟨us.toArray++Array.replicate (fn.ntmps-us.toArray.size) undef,[]⟩ w (Sx.refl s0) hF (@dV.nil noE _ _ _ _)) ?_
 rintro e a' w' ⟨E',g',y1,y2,y3,y4⟩
 have leave:LeavesInM Fence.wide 0 P fn a'.tmps (fun e w'=>∃E' g' u,e= .returned u∧@VR E' g' (cX l) u∧Sx T K E gs w E' g' hs' w') a'.defers .returning w':=by
  obtain⟨ms,p1,p2,p3⟩:=y3
  rw [p1,List.append_nil]
  refine rY (fun w2 s=>?_) p2 p3 y1
  obtain⟨u,q1,q2⟩:=@p9 E' P T m _ hT g' f1 _ w2 _ fn y2 s.sit.wr (@gX.env E' _ _ _ _ s.sit.glob) rs _ e7' hl
  exact⟨u,q2,E',g',u,rfl,q1,s⟩
 rcases hx with rfl|rfl
 ·rw [@mD.norm_inv noE _ y4];exact leave
 ·cases e<;>first|(cases y4;done)|skip
  exact leave
structure ck(P:Program)(T:Ty)(f:FuncId)(vs:List V)(v:V):Prop where
 out:∀E g h w us,Sit T E g h w→@VRs E g vs us→∃fn,P.funcs[f]? =some fn∧fn.name≠ "runtime.NumGoroutine"∧fn.body.isNone=false∧
  CallsIn Fence.wide 0 P f us.toArray w fun e w'=>∃E' u,e= .returned u∧@VR E' g v u∧En.le E E'∧(∀b c,E'.ro b=some c→E.ro b=some c∨w.heap.size≤b)∧(∀b c,E'.ro b=some c→∃t:TypeId×(Nat×Nat),w'.heap[b]? =some (.cells c t.1 t.2))∧kM w w'
structure B8(T:Ty)(lp:List (Option Blk)):Prop where
 len:lp.length≤bP
 only:∀i b,lp[i]? =some (some b)→∃p,p∈T.pin∧p.1=i∧b= .ro p.2.2.1 p.2.2.2∧∀j v,p.2.2.2.get j=some v→bN v
 all:∀p,p∈T.pin→lp[p.1]? =some (some (.ro p.2.2.1 p.2.2.2))
theorem dF{h:H}{i j d n:Nat}{cs:Tr V}(e:h.blk i=some (.ro n cs)):¬Up h i j d:=fun u=>by
 cases u with
 |one e' k'=>rw [e]at e';cases e';cases k'
 |step e' k' _=>rw [e]at e';cases e';cases k'
theorem B8.vw{lp:List (Option Blk)}(p:B8 T lp){E:En}{g:G}{h:H}{w:World}(s:Sit T E g h w):Vw T h lp (fun i=>i) (fun _=>none):=by
 have one:∀i,cI lp i→∃n cs,h.blk i=some (.ro n cs):=fun i ⟨b,hb⟩=>by
  obtain⟨q,q1,rfl,rfl,_⟩:=p.only i b hb
  exact⟨_,_,(s.pin q q1).2⟩
 refine⟨p.len,fun i b' e=>?_,fun i j _ _ e=>e,fun i j d hi _=>?_,(fun k cs e=>by cases e),(fun k cs i e=>by cases e),fun q hq=>⟨rfl,p.all q hq⟩⟩
 ·obtain⟨q,q1,rfl,rfl,q2⟩:=p.only i b' e
  exact⟨_,(s.pin q q1).2,.ro q2⟩
 ·obtain⟨n,cs,e⟩:=one i hi
  exact dF e
theorem oV.conP{K:Nat→Prop}{f:FuncId}{lp:List (Option Blk)}{hs':H}{vs:List V}{v:V}(p:B8 T lp)(c:oV P T K f (g7 lp) vs hs' v)(hvs:∀v,v∈vs→bN v)(hv:bN v):ck P T f vs v:=by
 refine⟨fun E g h w us s hu=>?_⟩
 obtain⟨E1,gs,_,_,hE,s0,hg,hn,tr⟩:=(p.vw s).sit s
 obtain rfl:=hE fun _=>rfl
 have hu0:@VRs E1 gs vs us:=@gP E1 g gs _ _ (fun v hm u k=>(hvs v hm).vr u k) hu
 obtain⟨fn,k1,k2,k3,k4⟩:=c E1 gs w us s0 hu0
 refine⟨fn,k1,k2,k3,k4.mono ?_⟩
 rintro e w' ⟨E',gs',u,rfl,m1,x⟩
 have hpin:∀id b o z,gs id=some (b,o,z)→∃q,q∈T.pin∧q.1=id∧b=q.2.1:=fun id b o z e=>by
  by_cases q:cI lp id
  ·obtain⟨bb,hb⟩:=q
   obtain⟨q,q1,rfl,rfl,_⟩:=p.only id bb hb
   obtain⟨⟨z',q2⟩,_⟩:=s0.pin q q1
   rw [q2]at e
   cases e
   exact⟨q,q1,rfl,rfl⟩
  ·rw [hn id q]at e;cases e
 refine⟨E',u,rfl,hv.vr u m1,x.envl,fun b c e=>?_,fun b c e=>(x.sit.env e).1,⟨x.size,fun b hb=>?_,x.os,x.tape,x.output⟩⟩
 ·rcases x.envn b c e with q|q | ⟨_,id,o,z,q⟩
  ·exact .inl q
  ·exact .inr q
  ·exfalso
   obtain⟨p1,q1,rfl,rfl⟩:=hpin id b o z q
   obtain⟨⟨z',q2⟩,_⟩:=x.sit.pin p1 q1
   exact(x.sit.env e).2 _ _ _ q2
 ·by_cases q:∃id o z,gs id=some (b,o,z)
  ·obtain⟨id,o,z,q⟩:=q
   obtain⟨p1,q1,rfl,rfl⟩:=hpin id b o z q
   exact x.pin p1 q1
  ·exact x.keep b hb fun id o z e=>q ⟨id,o,z,e⟩
theorem Sit.still{E E':En}{g:G}{h:H}{w w':World}(s:Sit T E g h w)(hE:E.le E')(hn:∀b c,E'.ro b=some c→E.ro b=some c∨w.heap.size≤b)(ho:∀b c,E'.ro b=some c→∃t:TypeId×(Nat×Nat),w'.heap[b]? =some (.cells c t.1 t.2))(k:kM w w'):Sit T E' g h w':=by
 have r:=(WR.env hE s.wr)
 refine Sit.mk' ?_ s.pin fun b c e=>⟨ho b c e,fun id o z q=>?_⟩
 ·cases r with
  |mk a b c d e f k' x=>
   exact @WR.mk E' T g h w' a b c (fun id b o z q=>Nat.lt_of_lt_of_le (d _ _ _ _ q) k.size) (fun id y b e1 e2=>by
    obtain⟨b',o',z⟩:=y
    exact @BR.move E' _ _ _ _ _ _ _ _ _ e1 (k.keep _ (d _ _ _ _ e1)) (e _ _ _ e1 e2)) f k' x
 ·rcases hn b c e with k1|k1
  ·exact(s.env k1).2 id o z q
  ·exact absurd (s.lt q) (by omega)
theorem ck.con{f:FuncId}{vs:List V}{v:V}(c:ck P T f vs v)(h:H)(M:Nat→Prop):Con P T M f vs h v h:=by
 refine⟨fun E g w us s hu=>?_⟩
 obtain⟨fn,k1,k2,k3,k4⟩:=c.out E g h w us s hu
 refine⟨fn,k1,k2,k3,k4.mono ?_⟩
 rintro e w' ⟨E',u,rfl,m1,m2,m3,m4,m5⟩
 exact⟨E',g,u,rfl,m1,m2,m3,fun _ _ _ e=>e,Nat.le_refl _,s.still m2 m3 m4 m5,m5.size,fun b hb _=>m5.keep b hb,fun id b o z e=>.inr ⟨id,o,z,e⟩,fun p hp=>m5.keep _ (by
  obtain⟨⟨z,q⟩,_⟩:=s.pin p hp
  exact s.lt q),m5.os,m5.tape,m5.output⟩
end
end
end Ev
end Go.Proofs.YtdfphfdnoobikaaGreatDoor
