/-
  strings.Fields of the texts that the program cuts.
-/
import Derived.Test.YtdfphfdnoobikaaGreatDoorLtStr
namespace Go.Proofs.YtdfphfdnoobikaaGreatDoor
namespace Ev
section
open Go.Shelf
section
variable [Env]
set_option linter.unusedSectionVars false
theorem tu{f:FuncId} {fn:Func} (h1:Tryz.prog.funcs[f]? =some fn) (h2:(fn.name== "runtime.NumGoroutine")=false) (h3:fn.body.isNone=false) {us:List Value} {g:G} {h:H} {w:World} {v:V} {h':H}
  (c:Calls Tryz.prog f us.toArray w (rQ TP g h w v h')):ly Tryz.prog TP f us g h w v h':=
 ⟨fn,h1,beq_eq_false_iff_ne.1 h2,h3,callsIn_wide.2 c⟩
noncomputable section
def td(l:List UInt8):V:= .str l.length (bT l)
def xD:List (List UInt8):=[kD 115 3962018864413014948754648656006502432093592997329216410804218722331684167459064326731363241603392931701660348028516868103884579128723922804055349770158965106607581632881660418770906343041889274360206442574388062685891706774567976215249495650238158067786189234758106247192667745,kD 211 2643788049237875746027353956421256579877879755938887535316951059759369592555717365339016263365027618501812524394041916456107630935882219539062654111784106688242807265108499006909579367619711043370541396788490473410751723451644814999429197375349848118121197291676110575868848611747558760119856467310971821053183838999261785706908127509286587510957382674167142064579141726276195335717799002842036464030059972223758517794073400569462703278420382076657222687305171158147755303688062608438613618907131909108626281,kD 130 2309567611550875277204994674161353649923820728840937906004022259955814384767430420713629540289955323346488897252243258610309243515909333067562535498886036825999362825657067591809416156955820597497462137324242345962628091659841284438982893644934511546577333868034346565100900555615209792057877126969041213629687155,kD 326 23432797193871199407333496422669012367299329756827031624297655228348896489652091995020903033051514005582240654107251283804193553897754980763464707855962905347494948165397241680072134641162834970075957098854109284145689297344697482720779276625903820634785204952066235328051174553452503356106246011490484894671724025188345757335091502307861111567946691652232448241457647053841496573471555992490563340102516511656375177173333262957809226356687276663106690246514868571292902185291786131212997716888408723455673227194122100111222777000526364432920838613382261280238070156172435011051979694305378415251427278940642021762430988511956155483968407454369334577920402672521885831115680086389877854951673720855015018618345684868760042338146632436122985681635754182370565935330268791689787050389619,kD 15 265770033204623512752161048958627937]
def ua(n c:Nat)(l:List (List UInt8)):Option (List V):=List.rec (motive:=λ_=>Option (List V)) none (λa _ ih=>Bool.rec (motive:=λ_=>Option (List V)) ih (some ((Lib.fields a).map td)) (Nat.beq n (bY a)&&Nat.beq c (bT a))) l
def t8(vs:List V)(h:H):Option (V×H):=
 eR vs none λx t=>eR t (match x with
  |.str n c=>ob (ua n c xD) λl=>ob (dv l) λb=>ob (h.new b) λh'=>some (.sl h.next 0 (bY l) (bY l) true 1,h')
  |_=>none) λ_ _=>none
end
theorem pg{n c:Nat}{r:List V}:∀{l:List (List UInt8)},ua n c l=some r->∃a,a∈l/\n=a.length/\c=bT a/\r=(Lib.fields a).map td
 |[],e=>by cases e
 |a ::l,e=>by
  have e:(Bool.rec (motive:=λ_=>Option (List V)) (ua n c l) (some ((Lib.fields a).map td)) (Nat.beq n (bY a)&&Nat.beq c (bT a)):Option (List V))=some r:=e;rw [cC]at e
  split at e
  ·rename_i q
   cases e;simp only [Bool.and_eq_true,Nat.beq_eq,bV]at q;exact⟨a,List.mem_cons_self,q.1,q.2,rfl⟩
  ·obtain⟨a',k1,k2⟩:=pg e
   exact⟨a',List.mem_cons_of_mem _ k1,k2⟩
theorem Al:xD.all (λl=>l.all (λb=>Nat.blt b.toNat 128)&&Nat.ble (bY l) 10000)=true:=by kernel_rfl
theorem Ba{g:G}{n c:Nat}{u:Value}(h:VR g (.str n c) u):∃s:ByteArray,u= .string s/\s.data.toList.length=n/\bT s.data.toList=c:=by
 cases h;exact⟨_,rfl,Array.length_toList,rfl⟩
theorem Fc:∀c,c<256->tbl[c]? =some (.int .u8 (if Lib.isSp (UInt8.ofNat c)then 1 else 0)):=by
 have h:(List.range 256).all (λc=>match tbl[c]? with|some (.int .u8 n)=>n==(if Lib.isSp (UInt8.ofNat c)then(1:Int)else 0) | _=>false)=true:=by kernel_rfl
 intro c hc;have:=List.all_eq_true.1 h c (List.mem_range.2 hc)
 split at this
 ·rename_i n e
  rw [e];have k:n=if Lib.isSp (UInt8.ofNat c)then(1:Int)else 0:=by simpa using this
  rw [k]
 ·cases this
set_option maxRecDepth 100000 in
theorem zK{g:G}{h:H}{w:World}(r:WR TP g h w)(hG:gY TP g h w):∀c:Nat,c<256->w.cell? ⟨0,c,none⟩=some (.int .u8 (if Lib.isSp (UInt8.ofNat c)then 1 else 0)):=by
 intro c hc;obtain⟨⟨z,hz⟩,hb⟩:=hG.pin (0,0,256,cq tbl 0 .e) (by rw [ii];exact List.mem_singleton.2 rfl);have hz:g 0=some (0,0,z):=hz;have hb:h.blk 0=some (.ro 256 (cq tbl 0 .e)):=hb;obtain⟨b',o',z',cs,t,k1,k2,k3,k4,k5,k6⟩:=r.blk 0 _ _ hz hb;rw [hz]at k1;cases k1;have hlen:tbl.length=256:=by kernel_rfl
 have hv:(cq tbl 0 .e).get c=some (.int .u8 (if Lib.isSp (UInt8.ofNat c)then 1 else 0)):=by
  rw [cU tbl 0 .e c (by rw [hlen];decide),if_pos (by omega)];exact Fc c hc
 obtain⟨u,m1,m2,_⟩:=k6 c _ hc hv;rw [m2.int_inv]at m1;rw [Nat.zero_add]at m1;simp [World.cell?,k2,m1]
theorem yC{g:G}:∀l:List (List UInt8),VRs g (l.map td) (l.map λl=>Value.string ⟨l.toArray⟩)
 |[]=>.nil
 |a ::l=>.cons (by have:=VR.str (g:=g) ⟨a.toArray⟩;simpa [td,ByteArray.size]using this) (yC l)
set_option maxRecDepth 100000 in
theorem Ak:∀vs h v h',t8 vs h=some (v,h')->∀g w us,WR TP g h w->gY TP g h w->VRs g vs us->ly Tryz.prog TP 98 us g h w v h':=by
 intro vs h v h' e g w us r hG hv;cases hv with
 |nil=>cases e
 |cons h1 t1=>
 cases t1 with
 |cons _ _=>cases e
 |nil=>
 rename_i x u1
 cases x<;>first|(cases e;done)|skip
 rename_i n c
 obtain⟨l,e1,e2⟩:=bE.1 (show ob (ua n c xD) (λl=>ob (dv l) λb=>ob (h.new b) λh'=>some (V.sl h.next 0 (bY l) (bY l) true 1,h'))=some (v,h')from e);obtain⟨b,e3,e4⟩:=bE.1 e2;obtain⟨h2,e5,e6⟩:=bE.1 e4;cases e6;obtain⟨l0,q1,rfl,rfl,rfl⟩:=pg e1;have q2:=List.all_eq_true.1 Al l0 q1;simp only [Bool.and_eq_true]at q2;obtain⟨ha,hl⟩:=q2;have hl:l0.length<=10000:=by rw [<-bV];exact Nat.le_of_ble_eq_true hl
 obtain⟨s,rfl,k1,k2⟩:=Ba h1;have hs:=oj k1 k2;have hvs:=yC (g:=g) (Lib.fields l0);obtain⟨⟨m1,m2,m3⟩,m4⟩:=iE (T:=TP) hvs e3;refine tu Tryz.func98 (by decide) rfl ?_;have c:=Any.strings_Fields_core Tryz.lays157 (by kernel_rfl) s w (by rw [ByteArray.size,<-Array.length_toList,k1];omega) (by rw [hs];intro j b hb;have:=List.all_eq_true.1 ha b (List.mem_of_getElem? hb);exact Nat.le_of_ble_eq_true this) (zK r hG);rw [hs]at c;refine c.mono ?_;rintro e w' ⟨rfl,rfl⟩;have hnone:g h.next=none:=by
  cases q:g h.next with
  |none=>rfl
  |some y=>exact absurd (r.dom _ _ q) (by omega)
 have hlen:bY ((Lib.fields l0).map td)=(Lib.fields l0).length:=by rw [bV,List.length_map]
 have x:=Ext.new (z:=(Lib.fields l0).length) r (o:= .cells ((Lib.fields l0).map λl=>Value.string ⟨l.toArray⟩).toArray 9) e5 (.inr m1)
  (m4 9 _ _ h.next w.heap.size (eS _ hnone) (by rw [cm];simp) (da _ _))
 rw [hlen];exact⟨_,_,rfl,.slx (off:=0) (cm _ _ _),x⟩
end
noncomputable def mU:FuncId->Option (List V->H->Option (V×H)):=λf=>Bool.rec (motive:=λ_=>Option (List V->H->Option (V×H))) none (some t8) (Nat.beq f 98)
theorem qy(E:En):@ur E Tryz.prog TP mU:=by
 intro f p e vs h v h' e1 g w us r hG hv;have e:(Bool.rec (motive:=λ_=>Option (List V->H->Option (V×H))) none (some t8) (Nat.beq f 98):Option (List V->H->Option (V×H)))=some p:=e;rw [cC]at e
 split at e
 ·rename_i q
  cases e;rw [Nat.eq_of_beq_eq_true q];exact @Ak E vs h v h' e1 g w us r hG hv
 ·cases e
end
section
noncomputable section
def xn(n:Nat):Nat->Nat->Bool:=Nat.rec (motive:=λ_=>Nat->Nat->Bool) (λ_ _=>false) (λ_ ih c x=>Bool.rec (motive:=λ_=>Bool) (ih (Nat.div c 256) x) true (Nat.beq (Nat.mod c 256) x)) n
def A7(l:List (Nat×CF))(f:FuncId):Option CF:=List.rec (motive:=λ_=>Option CF) none (λp _ ih=>Bool.rec (motive:=λ_=>Option CF) ih (some p.2) (Nat.beq p.1 f)) l
end
theorem tS(x:Nat):∀l:List UInt8,xn l.length (bT l) x=l.any λb=>b.toNat==x
 |[]=>rfl
 |b ::l=>by
  show(Bool.rec (motive:=λ_=>Bool) (xn l.length (bT (b ::l)/256) x) true (Nat.beq (bT (b ::l)%256) x):Bool)=_;have d1:bT (b ::l)%256=b.toNat:=by have:=b.toNat_lt;rw [dJ];omega
  have d2:bT (b ::l)/256=bT l:=by have:=b.toNat_lt;rw [dJ];omega
  rw [d1,d2,tS x l,cC,List.any_cons]
  by_cases e:b.toNat=x
  ·simp [e]
  ·have:Nat.beq b.toNat x=false:=by
    cases q:Nat.beq b.toNat x with
    |false=>rfl
    |true=>exact absurd (Nat.eq_of_beq_eq_true q) e
   simp [this,e]
theorem jO(c:UInt8):∀l:List UInt8,decide (0<=Lib.indexByte l c)=l.any λb=>b.toNat==c.toNat
 |[]=>rfl
 |b ::l=>by
  have ih:=jO c l;have hge:=Lib.indexByte_ge l c;rw [List.any_cons,<-ih]
  by_cases e:b=c
  ·subst e;simp [Lib.indexByte]
  ·have e1:(b==c)=false:=by simpa using e
   have e2:(b.toNat==c.toNat)=false:=by simpa using λk=>e (UInt8.toNat_inj.1 k)
   rw [e2,Bool.false_or];simp only [Lib.indexByte,e1]
   by_cases k:Lib.indexByte l c= -1
   ·simp [k]
   ·have k2:(Lib.indexByte l c== -1)=false:=by simpa using k
    simp only [k2]
    congr 1
    simp;omega
theorem mK{E:En}{g:G}{n c:Nat}{u:Value}(h:@VR E g (.str n c) u):∃s:ByteArray,u= .string s/\s.data.toList.length=n/\bT s.data.toList=c:=by
 cases h;exact⟨_,rfl,Array.length_toList,rfl⟩
theorem CT{f:FuncId} {fn:Func} (h1:Tryz.prog.funcs[f]? =some fn) (h2:(fn.name== "runtime.NumGoroutine")=false) (h3:fn.body.isNone=false) {vs:List V} {v:V}
  (k:∀(E:En) (g:G) (w:World) (us:List Value),@VRs E g vs us->∃u,@VR E g v u/\Calls Tryz.prog f us.toArray w λe w'=>e= .returned u/\w'=w):CP f vs v:=by
 refine⟨λE g h w us s hu=>?_⟩;obtain⟨u,k1,k2⟩:=k E g w us hu;refine⟨fn,h1,beq_eq_false_iff_ne.1 h2,h3,callsIn_wide.2 (k2.mono ?_)⟩;rintro e w' ⟨rfl,rfl⟩;exact⟨E,u,rfl,k1,E.le_refl,λ_ _ h=>.inl h,λb c e=>(s.env e).1,@kL.refl noE w'⟩
theorem f65(n c d:Nat):CP 65 [.str n c,.str 1 d] (.bool (xn n c d)):=by
 refine CT Tryz.func65 (by decide) rfl λE g w us hu=>?_;cases hu with
 |cons x1 t1=>
 cases t1 with
 |cons x2 t2=>
 cases t2;obtain⟨s,rfl,rfl,rfl⟩:=mK x1;obtain⟨q,rfl,k1,rfl⟩:=mK x2;obtain⟨c,hc⟩:=List.length_eq_one_iff.1 k1;have hq:q=⟨#[c]⟩:=by
  cases q with
  |mk d=>
   have:d=#[c]:=Array.toList_inj.1 hc;rw [this]
 have key:=jO c s.data.toList;have hb:xn s.data.toList.length (bT s.data.toList) (bT q.data.toList)=decide (0<=Lib.indexByte s.data.toList c):=by
  rw [tS,key,hc];simp [dJ,su]
 refine⟨.bool _,@VR.bool E g _,?_⟩;rw [hb,hq];exact Tryz.strings_Contains_one s c w
theorem pU{tab:FuncId->Option CF}(ht:wp Tryz.prog TP tab){n:Nat}{f:FuncId}{vs:List V}{h h':H}{v:V}(e:ju mU tab n (.fn f) vs h=some (v,h')):CN f vs h v h':=by
 refine⟨λE g w us s hu=>?_⟩;have ok:=@nK E Tryz.prog TP qc mixed mU tab (qy E) ht n;obtain⟨fn,k1,k2,k3,k4⟩:=@dX.fn E _ _ _ ok f vs h v h' e g w us s.wr s.glob hu;refine⟨fn,k1,k2,k3,k4.mono ?_⟩;rintro e w' ⟨g',u,rfl,m1,m2⟩;exact⟨E,g',u,rfl,m1,fT.of s m2⟩
noncomputable section
def A8:FuncId->Option CF:=A7 [(75,cf75)]
def EK:Option (V×H):=ju mU A8 3 (.fn 75) [] H0
def xm(v:V):Bool:=match v with
 |.int .i64 _=>true
 |_=>false
def B7(v:V):Bool:=match v with
 |.str _ _=>true
 |_=>false
def oP(es:List (V×V)):Bool:=List.rec (motive:=λ_=>Bool) true (λe _ ih=>B7 e.1&&(xm e.2&&ih)) es
def xc(r:Option (V×H)):Bool:=Option.rec (motive:=λ_=>Bool) false (λp=>match p.1 with
 |.map id=>match p.2.blk id with
  |some (.map es _)=>oP es
  |_=>false
 |_=>false) r
end
theorem mJ{l:List (Nat×CF)} (h:∀p,p∈l->∃fn,Tryz.prog.funcs[p.1]? =some fn/\fn.name≠ "runtime.NumGoroutine"/\bQ TP fn=some p.2):wp Tryz.prog TP (A7 l):=by
 intro f cf e
 induction l with
 |nil=>cases e
 |cons p l ih=>
  have e:(Bool.rec (motive:=λ_=>Option CF) (A7 l f) (some p.2) (Nat.beq p.1 f):Option CF)=some cf:=e;rw [cC]at e
  split at e
  ·rename_i q
   cases e;rw [<-Nat.eq_of_beq_eq_true q];exact h p List.mem_cons_self
  ·exact ih (λq hq=>h q (List.mem_cons_of_mem _ hq)) e
theorem uT:xc EK=true:=by kernel_rfl
theorem jD{r:Option (V×H)}(h:xc r=true):∃id h' es o,r=some (.map id,h')/\h'.blk id=some (.map es o)/\oP es=true:=by
 cases r with
 |none=>cases h
 |some p=>
  obtain⟨v,h'⟩:=p;cases v<;>first|(cases h;done)|skip
  rename_i id
  have h:(match h'.blk id with
   |some (.map es _)=>oP es
   |_=>false)=true:=h
  split at h
  ·rename_i es o e
   exact⟨id,h',es,o,rfl,e,h⟩
  ·cases h
theorem qh{h:H}{id n c:Nat}{es:List (V×V)}{o:Bool}(e:h.blk id=some (.map es o))(k:oP es=true):∃i,ROp.run (.lookup (.one .s) false (.int .i64 0)) [.map id,.str n c] h=some (.int .i64 i):=by
 have key:∀es:List (V×V),oP es=true->∃r,dY h (.one .s) (.str n c) es=some r/\∀v,r=some v->xm v=true:=by
  intro es
  induction es with
  |nil=>exact λ_=>⟨none,rfl,λv e=>by cases e⟩
  |cons p es ih=>
   intro k;have k:(B7 p.1&&(xm p.2&&oP es))=true:=k;simp only [Bool.and_eq_true]at k;obtain⟨k1,k2,k3⟩:=k;obtain⟨r,q1,q2⟩:=ih k3;obtain⟨a,b⟩:=p;cases a<;>first|(cases k1;done)|skip
   rename_i m d
   show ∃r,ob (some (cV n c m d)) (λb'=>Bool.rec (motive:=λ_=>Option (Option V)) (dY h (.one .s) (.str n c) es) (some (some b)) b')=some r/\_;cases cV n c m d with
   |false=>exact⟨r,q1,q2⟩
   |true=>exact⟨some b,rfl,λv e=>by cases e;exact k2⟩
 obtain⟨r,q1,q2⟩:=key es k;have q:ROp.run (.lookup (.one .s) false (.int .i64 0)) [.map id,.str n c] h=some (gU false (.int .i64 0) r):=by
  show oif true (ob (ob (h.blk id) _) _)=_;rw [e];show ob (dY h (.one .s) (.str n c) es) _=_;rw [q1];rfl
 rw [q];cases r with
 |none=>exact⟨0,rfl⟩
 |some v=>
  have:=q2 v rfl;cases v<;>first|(cases this;done)|skip
  rename_i kd i
  cases kd<;>first|(cases this;done)|skip
  exact⟨i,rfl⟩
theorem c75:∃id h' es o,CN 75 [] H0 (.map id) h'/\h'.blk id=some (.map es o)/\oP es=true:=by
 obtain⟨id,h',es,o,e,k1,k2⟩:=jD uT;refine⟨id,h',es,o,pU (tab:=A8) (mJ λp hp=>?_) (n:=3) e,k1,k2⟩;simp only [List.mem_cons,List.not_mem_nil,or_false]at hp;subst hp;exact⟨_,Tryz.func75,by decide,q75.2⟩
set_option maxHeartbeats 2000000 in
theorem f57(n c:Nat):db 57 [.str n c]:=by
 refine cJ Tryz.func57 (by decide) q57.2 rfl (bO (.flat rfl) px0) rfl ?_;obtain⟨id,h',es,o,c75,k1,k2⟩:=c75;obtain⟨i,hi⟩:=qh (n:=n) (c:=c) k1 k2
 repeat' (first
  |(refine WLg.mk ?_;first
  |refine aa rfl rfl rfl rfl ?_|refine ab rfl rfl hi rfl ?_|refine au rfl rfl rfl (c75) (λ_ _ q=>q) .none rfl ?_)|apply ac|refine ae rfl ?_|apply ai|apply ah|apply ap|apply bG.norm|exact⟨.inr rfl,_,rfl,.flat rfl,_,rfl⟩|fail)
theorem f45(n c:Nat):db 45 [.str n c]:=by
 refine cJ Tryz.func45 (by decide) q45.2 rfl (bO (.flat rfl) px0) rfl ?_
 repeat' (first
  |(refine WLg.mk ?_;first
  |refine aa rfl rfl rfl rfl ?_|refine aq rfl rfl rfl (f56 _ _) rfl ?_|refine aq rfl rfl rfl (f57 _ _) rfl ?_)|apply ac|refine ae rfl ?_|refine ay rfl rfl ?_|refine az rfl (λht=>?_) (λht=>?_)|apply ai|apply ah|apply ap|apply bG.norm|exact⟨.inr rfl,_,rfl,.flat rfl,_,rfl⟩|fail)
end
section
noncomputable section
def lpB(cs:List V):List (Option Blk):=[some (.ro 256 dN),some (.cells (bY cs) (cq cs 0 .e) none false)]
def HB(cs:List V):H:=⟨trO (lpB cs) 0 .e,2⟩
def KB:Nat->Prop:=λid=>id<2
end
theorem rW{K:Nat->Prop}(hK:∀id,K id->id=0\/id=1){f:F}{h:H}{l:AL}{cs:List V}{tr:Tr V}{ch:Bool}(k:jw f.loc l)(hb:h.blk 0=some (.ro 256 dN))(hs:h.blk 1=some (.cells (bY cs) tr none ch))(hl:Nat.ble (bY cs) bR=true)(hc:∀j v,cs[j]? =some v->tr.get j=some v)(hp:∀c,c∈cs->bP c):fG TP K f h ⟨l,[]⟩ (HB cs):=by
 have hk:2<=bR:=by unfold bR;omega
 have hl':cs.length<=bR:=by rw [<-@bV noE];exact Nat.le_of_ble_eq_true hl
 have u:∀i,cL (lpB cs) i->i=0\/i=1:=λi ⟨b,e⟩=>by
  cases i with
  |zero=>exact .inl rfl
  |succ i=>cases i with
   |zero=>exact .inr rfl
   |succ i=>cases e
 have noUp:∀i j d,cL (lpB cs) i->¬Up h i j d:=λi j d hi=>by
  rcases u i hi with rfl|rfl
  ·exact dH hb
  ·intro q
   cases q with
   |one e' k'=>rw [hs]at e';cases e';cases k'
   |step e' k' _=>rw [hs]at e';cases e';cases k'
 have V:Vw TP h (lpB cs) (λi=>i) (λ_=>none):=by
  refine⟨hk,λi b' e=>?_,λi j _ _ e=>e,λi j d hi _=>noUp i j d hi,(λk cs e=>by cases e),(λk cs i e=>by cases e),λq hq=>⟨rfl,?_⟩⟩
  ·rcases u i ⟨_,e⟩with rfl|rfl
   ·obtain rfl:Blk.ro 256 dN=b':=by cases e;rfl
    exact⟨_,hb,.ro λj v e=>.flat (d3 eJ (by rw [fU];unfold bR;omega) e)⟩
   ·obtain rfl:Blk.cells (bY cs) (cq cs 0 .e) none false=b':=by cases e;rfl
    refine⟨_,hs,.cells λj v hj e=>?_⟩;rw [@bV noE]at hj;rw [@cU noE cs 0 .e j (by omega),if_pos (by omega),Nat.sub_zero]at e;exact⟨v,hc j v e,.pure (hp v (List.mem_of_getElem? e))⟩
  ·have e:=jV.all q hq
   have hq':q.1=0:=by rw [ii]at hq;rw [List.mem_singleton.1 hq]
   rw [hq']at e ⊢;exact e
 exact V.view (λid h=>by rcases hK id h with rfl|rfl<;>exact⟨⟨_,rfl⟩,rfl⟩) (.inl λ_=>rfl) ⟨λp hp=>k.mem ⟨_,rfl⟩ p hp,λp hp=>by cases hp⟩
theorem gq{tr:Tr V}{a b c:V}(h0:tr.get 0=some a)(h1:tr.get 1=some b)(h2:tr.get 2=some c):∀j v,[a,b,c][j]? =some v->tr.get j=some v
 |0,_,e=>h0.trans e
 |1,_,e=>h1.trans e
 |2,_,e=>h2.trans e
 |j+3,_,e=>by simp at e
theorem AK:∀id,KB id->id=0\/id=1:=λid h=>by
 have h:id<2:=h;omega
theorem pr.con0{f:FuncId}{h h':H}{vs:List V}{v:V}{K M:Nat->Prop}(c:pr Tryz.prog TP K f h vs h' v)(hK:∀id,id<h.next->¬M id->K id)(np:∃id,K id/\id≠0)(hn:h.next<=h'.next):Con Tryz.prog TP M f vs h v h':=by
 refine⟨λE g w us s hu=>?_⟩;obtain⟨fn,k1,k2,k3,k4⟩:=c E g w us s hu;refine⟨fn,k1,k2,k3,k4.mono ?_⟩;rintro e w' ⟨E',g',u,rfl,m1,m2⟩;refine⟨E',g',u,rfl,m1,m2.envl,λb c e=>?_,λid x hm e=>m2.fix id x (hK id (@WR.dom E _ _ _ _ s.wr _ _ e) hm) e,hn,m2.sit,m2.size,m2.keep,m2.inv,m2.pin,m2.os,m2.tape,m2.output⟩;rcases m2.envn b c e with k|k | ⟨k,_⟩
 ·exact .inl k
 ·exact .inr k
 ·obtain⟨id,q1,q2⟩:=np
  obtain⟨p,p1,p2⟩:=k id q1;rw [ii]at p1;rw [List.mem_singleton.1 p1]at p2;exact absurd p2.symm q2
theorem rS{K:Nat->Prop}{cf:CF}{vs:List V}{loc:AL}{h:H}(hn:kP vs 0=some loc){Q:X->AL->H->Prop}(k:WC Tryz.prog TP K ft 1 cf.code loc h Q){Q':X->F->H->Prop}(hq:∀x l h,Q x l h->Q' x ⟨l,[]⟩ h):W Tryz.prog TP K ft 1 cf.code ⟨dG vs 0,[]⟩ h Q':=by
 rw [lH hn];refine W.mono k.out λx f h q=>?_;have:=hq x f.loc h q.2;rw [<-F.loc_eq q.1]at this;exact this
def pv(cf:CF)(R:V->H->Prop)(x:X)(loc:AL)(h:H):Prop:=(x= .norm\/x= .ret)/\∃l,gf ⟨loc,[]⟩ h cf.results=some l/\R (cQ l) h
theorem ud{M:Nat->Prop} {f:FuncId} {fn:Func} {cf:CF} {h:H} (hfn:Tryz.prog.funcs[f]? =some fn) (hnm:fn.name≠ "runtime.NumGoroutine") (hcf:bQ TP fn=some cf) {vs:List V} (hlen:vs.length=cf.params) {R:V->H->Prop} {loc:AL} (hn:kP vs 0=some loc) (np:∃id,id < h.next/\¬M id/\id≠0)
  (k:WC Tryz.prog TP (λid=>id<h.next/\¬M id) ft 1 cf.code loc h (pv cf λv h'=>h.next<=h'.next/\R v h')):∃v h',Con Tryz.prog TP M f vs h v h'/\R v h':=by
 obtain⟨x,f1,h1,k1,k2,l,k3,k4,k5⟩:=rS (Q':=λx f1 h1=>(x= .norm\/x= .ret)/\∃l,gf f1 h1 cf.results=some l/\h.next<=h1.next/\R (cQ l) h1) hn k λx l h q=>q;obtain⟨id,p1,p2,p3⟩:=np;exact⟨_,_,(gN qc kf mixed hfn hnm hcf hlen k1 k2 k3).con0 (λid h1 h2=>⟨h1,h2⟩) ⟨id,⟨p1,p2⟩,p3⟩ k4,k5⟩
theorem pT{f:FuncId} {fn:Func} {cf:CF} {cs:List V} (hfn:Tryz.prog.funcs[f]? =some fn) (hnm:fn.name≠ "runtime.NumGoroutine") (hcf:bQ TP fn=some cf) {vs:List V} (hlen:vs.length=cf.params) {R:V->H->Prop} {loc:AL} (hn:kP vs 0=some loc)
  (k:WC Tryz.prog TP KB ft 1 cf.code loc (HB cs) (pv cf λv h'=>2<=h'.next/\R v h')):∃v h',CN f vs (HB cs) v h'/\R v h':=by
 obtain⟨x,f1,h1,k1,k2,l,k3,k4,k5⟩:=rS (Q':=λx f1 h1=>(x= .norm\/x= .ret)/\∃l,gf f1 h1 cf.results=some l/\2<=h1.next/\R (cQ l) h1) hn k λx l h q=>q;exact⟨_,_,(gN qc kf mixed hfn hnm hcf hlen k1 k2 k3).con0 (λid h1 _=>h1) ⟨1,Nat.lt_succ_self 1,by decide⟩ k4,k5⟩
theorem f153(x:Int):db 153 [.int .u8 x]:=by
 refine cJ Tryz.func153 (by decide) HL.2 rfl (bO (.flat rfl) px0) rfl ?_
 repeat' (first
  |(refine WLg.mk ?_;first
  |refine aa rfl rfl rfl rfl ?_)|apply ac|refine ae rfl ?_|refine ay rfl rfl ?_|refine az rfl (λht=>?_) (λht=>?_)|apply ai|apply ah|apply ap|apply bG.norm|exact⟨.inr rfl,_,rfl,.flat rfl,_,rfl⟩|fail)
theorem f154(x:Int):db 154 [.int .u8 x]:=by
 refine cJ Tryz.func154 (by decide) HK.2 rfl (bO (.flat rfl) px0) rfl ?_
 repeat' (first
  |(refine WLg.mk ?_;first
  |refine aa rfl rfl rfl rfl ?_)|apply ac|refine ae rfl ?_|refine ay rfl rfl ?_|refine az rfl (λht=>?_) (λht=>?_)|apply ai|apply ah|apply ap|apply bG.norm|exact⟨.inr rfl,_,rfl,.flat rfl,_,rfl⟩|fail)
theorem f133(x:Int):db 133 [.int .u8 x]:=by
 refine cJ Tryz.func133 (by decide) HX.2 rfl (bO (.flat rfl) px0) rfl ?_
 repeat' (first
  |(refine WLg.mk ?_;first
  |refine aa rfl rfl rfl rfl ?_|refine aq rfl rfl rfl (f153 _) rfl ?_|refine aq rfl rfl rfl (f154 _) rfl ?_)|apply ac|refine ae rfl ?_|refine ay rfl rfl ?_|refine az rfl (λht=>?_) (λht=>?_)|apply ai|apply ah|apply ap|apply bG.norm|exact⟨.inr rfl,_,rfl,.flat rfl,_,rfl⟩|fail)
noncomputable section
def scC(n c pos:Nat):List V:=[.str n c,.int .i64 (Int.ofNat pos),.nilm]
def fr132:AL:=[(0,.ptr 1 0),(1,.func (.func 133) [] []),(5,.int .i64 0)]
end
theorem EI(n c pos:Nat):∀v,v∈scC n c pos->bP v:=bO (.flat rfl) (bO (.flat rfl) (bO (.flat rfl) px0))
theorem GR:bP (.func (.func 133) [] []):= .func px0 px0
theorem Bt{n c pos:Nat}(h:pos<=n):POp.run (.slc .str true true false) [.str n c,.int .i64 0,.int .i64 (Int.ofNat pos)]=some (.str (Nat.sub pos 0) (Nat.mod (Nat.shiftRight c (Nat.mul 8 0)) (Nat.shiftLeft 1 (Nat.mul 8 (Nat.sub pos 0))))):=by
 have h1:Nat.ble pos n=true:=by simp [Nat.ble_eq];exact h
 have h0:Nat.ble 0 pos=true:=by cases pos<;>rfl
 show ob (oif (Nat.ble pos n) (some pos)) (λh=>ob (oif (Nat.ble 0 h) (some 0)) λl=>some (V.str (Nat.sub h l) (Nat.mod (Nat.shiftRight c (Nat.mul 8 l)) (Nat.shiftLeft 1 (Nat.mul 8 (Nat.sub h l))))))=_;rw [h1];show ob (oif (Nat.ble 0 pos) (some 0)) (λl=>some (V.str (Nat.sub pos l) (Nat.mod (Nat.shiftRight c (Nat.mul 8 l)) (Nat.shiftLeft 1 (Nat.mul 8 (Nat.sub pos l))))))=_;rw [h0];rfl
set_option maxHeartbeats 2000000 in
theorem f132(n c:Nat)(hn:n<9223372036854775808):∃n' c' pos,CN 132 [.ptr 1 0,.func (.func 133) [] []] (HB (scC n c 0)) (.str n' c') (HB (scC n c pos)):=by
 have px:=GR;obtain⟨v,h',k,n',c',pos,rfl,rfl⟩:∃v h',CN 132 [.ptr 1 0,.func (.func 133) [] []] (HB (scC n c 0)) v h'/\∃n' c' pos,v= .str n' c'/\h'=HB (scC n c pos):=by
  refine pT Tryz.func132 (by decide) HY.2 rfl rfl ?_
  repeat' (first
   |(refine WLg.mk ?_;first
   |refine aa rfl rfl rfl rfl ?_|refine ab rfl rfl rfl rfl ?_)|apply ac|refine ae rfl ?_|apply ai|apply ah|apply aj|apply bG.norm|fail)
  refine aw (rW AK (l:=fr132) (cs:=scC n c 0) KS rfl rfl rfl (gq rfl rfl rfl) (EI n c 0)) ?_;refine ax n (λi x h=>x=fr132/\h=HB (scC n c i)) ?_ (i:=0) (Nat.zero_le _) ⟨rfl,rfl⟩;rintro i _ _ hi ⟨rfl,rfl⟩
  repeat' (first
   |(refine WLg.mk ?_;first
   |refine aa rfl rfl rfl rfl ?_|refine ab rfl rfl rfl rfl ?_|refine aQ rfl rfl rfl rfl rfl rfl rfl rfl rfl ?_)
   |(show WX _ _ _ _ _ _ _ _ _ _;first
   |refine aW rfl rfl rfl ?_|refine aU rfl rfl rfl ?_|refine aI rfl rfl (Bt hi) rfl ?_|refine aI rfl rfl rfl rfl ?_|refine aI rfl rfl (lK Hy) rfl ?_|refine aG rfl rfl rfl rfl ?_|refine aT rfl rfl rfl (f133 _) .none rfl ?_|(fail_if_success refine WX.gt rfl ?_);refine aV rfl rfl rfl (λht=>?_) (λht=>?_)|refine aJ (by repeat' (first|exact bF.nil|refine bF.any (λh=>rfl) ?_|refine bF.first rfl ?_|refine bF.first (dA Hy) ?_|refine bF.snd (dA Hy) ?_|refine bF.any (λh=>dA Hy) ?_|refine bF.first (gh Hy) ?_|refine bF.snd (gh Hy) ?_|refine bF.any (λh=>gh Hy) ?_|refine bF.first (gj Hy) ?_|refine bF.snd (gj Hy) ?_|refine bF.any (λh=>gj Hy) ?_|refine bF.first (gV Hy) ?_|refine bF.snd (gV Hy) ?_|refine bF.any (λh=>gV Hy) ?_|refine bF.first (ld_ex Hy rfl) ?_|refine bF.snd (ld_ex Hy rfl) ?_|refine bF.any (λh=>ld_ex Hy rfl) ?_|refine bF.first (lh Hy rfl) ?_|refine bF.snd (lh Hy rfl) ?_|refine bF.any (λh=>lh Hy rfl) ?_|refine bF.first (et Hy rfl) ?_|refine bF.snd (et Hy rfl) ?_|refine bF.any (λh=>et Hy rfl) ?_|refine bF.first (oW Hy rfl) ?_|refine bF.snd (oW Hy rfl) ?_|refine bF.any (λh=>oW Hy rfl) ?_|refine bF.first (eU Hy rfl) ?_|refine bF.snd (eU Hy rfl) ?_|refine bF.any (λh=>eU Hy rfl) ?_|refine bF.first (ef Hy rfl) ?_|refine bF.snd (ef Hy rfl) ?_|refine bF.any (λh=>ef Hy rfl) ?_|refine bF.first (eH Hy rfl) ?_|refine bF.snd (eH Hy rfl) ?_|refine bF.any (λh=>eH Hy rfl) ?_|refine bF.first (eG Hy rfl) ?_|refine bF.snd (eG Hy rfl) ?_|refine bF.any (λh=>eG Hy rfl) ?_|refine bF.each (.cons rfl .nil) ?_|refine bF.each (.cons rfl (.cons rfl .nil)) ?_|refine bF.each (.cons rfl (.cons rfl (.cons rfl .nil))) ?_)) ?_)|apply ac|refine ae rfl ?_|apply ai|apply ah|apply aj|apply al|refine aB rfl ?_|refine ak rfl (λht=>?_) (λht=>?_)|apply av|apply ap|refine aK ?_|apply bG.norm|apply bG.exit|apply OnC.exit|fail)
  ·have hb:=bL (by assumption:ltI (Int.ofNat i) (Int.ofNat n)=true)
   exact .norm ⟨_,_,rW AK (cs:=scC n c (i+1)) KS rfl rfl rfl (gq rfl (pO Hy hn) rfl) (EI n c (i+1)),hb,rfl,rfl⟩
  ·exact⟨.inr rfl,_,rfl,Nat.le_refl _,_,_,_,rfl,rfl⟩
  ·exact⟨.inr rfl,_,rfl,Nat.le_refl _,_,_,_,rfl,rfl⟩
 exact⟨_,_,_,k⟩
theorem f135(x:Int):db 135 [.int .i32 x]:=by
 refine cJ Tryz.func135 (by decide) HV.2 rfl (bO (.flat rfl) px0) rfl ?_
 repeat' (first
  |(refine WLg.mk ?_;first
  |refine aa rfl rfl rfl rfl ?_)|apply ac|refine ae rfl ?_|refine ay rfl rfl ?_|refine az rfl (λht=>?_) (λht=>?_)|apply ai|apply ah|apply ap|apply bG.norm|exact⟨.inr rfl,_,rfl,.flat rfl,_,rfl⟩|fail)
noncomputable section
def fr164(n c:Nat):AL:=[(1,.func (.func 135) [] []),(2,.bool true),(10,.ptr 1 0)]
end
theorem BN:bP (.func (.func 135) [] []):= .func px0 px0
set_option maxHeartbeats 2000000 in
theorem f164(n c:Nat):wx 164 [.str n c,.func (.func 135) [] [],.bool true]:=by
 have px:=BN;refine vZ (dz Tryz.func164 (by decide) HE.2 rfl (bO (.flat rfl) (bO px (bO (.flat rfl) px0))) rfl ?_)
 repeat' (first
  |(refine WLg.mk ?_;first
  |refine aa rfl rfl rfl rfl ?_|refine aF rfl rfl rfl rfl rfl ?_)|apply ac|refine ae rfl ?_|apply ai|apply ah|apply aj|apply bG.norm|fail)
 refine aw (rV (l:=fr164 n c) KS rfl rfl) ?_;refine bz (λk x h=>∃pos,k=n-pos/\x=fr164 n c/\h=HS n c pos) ?_ (k:=n-0) ⟨0,rfl,rfl,rfl⟩;rintro _ _ _ ⟨pos,rfl,rfl,rfl⟩;cases hb:Nat.blt pos n with
 |false=>
  repeat' (first
   |(refine WLg.mk ?_;first
   |refine aa rfl rfl rfl rfl ?_|refine aE rfl rfl (qE hb) rfl ?_)|apply ac|refine ae rfl ?_|apply ai|apply ah|refine aB rfl ?_|apply av|apply ap|apply bG.norm|apply bG.exit|apply OnC.exit|exact⟨.inr rfl,_,rfl,.flat rfl,_,rfl⟩|fail)
 |true=>
  repeat' (first
   |(refine WLg.mk ?_;first
   |refine aa rfl rfl rfl rfl ?_|refine aq rfl rfl rfl (f135 _) rfl ?_|refine aE rfl rfl (tH hb) rfl ?_)|apply ac|refine ae rfl ?_|apply ai|apply ah|apply aj|apply al|refine aD rfl ?_|refine ak rfl (λht=>?_) (λht=>?_)|apply ap|apply bG.norm|apply bG.ret|apply OnC.ret|exact⟨.inr rfl,_,rfl,.flat rfl,_,rfl⟩|fail)
  all_goals exact .norm ⟨_,_,rV KS rfl rfl,n-(pos+(jA n c pos).2),by have:=bL hb;have:=zd n c pos;omega,pos+(jA n c pos).2,rfl,rfl,rfl⟩
theorem f155(n c:Nat):wx 155 [.str n c,.func (.func 135) [] []]:=by
 refine vZ (dz Tryz.func155 (by decide) HJ.2 rfl (bO (.flat rfl) (bO BN px0)) rfl ?_)
 repeat' (first
  |(refine WLg.mk ?_;first
  |refine aa rfl rfl rfl rfl ?_|refine aq rfl rfl rfl (f164 _ _) rfl ?_)|apply ac|refine ae rfl ?_|apply ai|apply ah|apply ap|apply bG.norm|exact⟨.inr rfl,_,rfl,.flat rfl,_,rfl⟩|fail)
theorem f134(n c:Nat):db 134 [.str n c,.func (.func 135) [] []]:=by
 refine cJ Tryz.func134 (by decide) HW.2 rfl (bO (.flat rfl) (bO BN px0)) rfl ?_
 repeat' (first
  |(refine WLg.mk ?_;first
  |refine aa rfl rfl rfl rfl ?_|refine aq rfl rfl rfl (f155 _ _) rfl ?_)|apply ac|refine ae rfl ?_|apply ai|apply ah|apply ap|apply bG.norm|exact⟨.inr rfl,_,rfl,.flat rfl,_,rfl⟩|fail)
noncomputable section
def tkC(k n c:Nat):List V:=[.int .i64 (Int.ofNat k),.str n c,.int .u64 0,.int .i64 0]
end
theorem yw(k n c:Nat):∀v,v∈tkC k n c->bP v:=bO (.flat rfl) (bO (.flat rfl) (bO (.flat rfl) (bO (.flat rfl) px0)))
set_option maxHeartbeats 2000000 in
theorem f111s(n c:Nat):db 111 [.agg (tkC 4 n c)]:=by
 refine cJ Tryz.func111 (by decide) GN.2 rfl (bO (.agg (yw 4 n c)) px0) rfl ?_;have px:=yw 4 n c
 repeat' (first
  |(refine WLg.mk ?_;first
  |refine aa rfl rfl rfl rfl ?_|refine ab rfl rfl rfl rfl ?_|refine aA rfl rfl rfl rfl px rfl ?_|refine aq rfl rfl rfl (f134 _ _) rfl ?_)|apply ac|refine ae rfl ?_|apply ai|apply ah|apply aj|apply al|refine aD rfl ?_|refine aB rfl ?_|apply ap|apply bG.norm|apply bG.ret|exact⟨.inr rfl,_,rfl,.flat rfl,_,rfl⟩|fail)
end
section
set_option maxHeartbeats 4000000 in
theorem f111v(n c:Nat)(hn:n<9223372036854775808)(h0:cV n c 0 0=false->Nat.blt 0 n=true):db 111 [.agg (tkC 2 n c)]:=by
 refine cJ Tryz.func111 (by decide) GN.2 rfl (bO (.agg (yw 2 n c)) px0) rfl ?_;have px:=yw 2 n c;obtain⟨n',c',pos,c132⟩:=f132 n c hn;have h1:(!cV n c 0 0)=true->Nat.blt 0 n=true:=λh=>h0 (by cases q:cV n c 0 0 with|true=>rw [q]at h;cases h|false=>rfl)
 repeat' (first
  |(refine WLg.mk ?_;first
  |refine aa rfl rfl rfl rfl ?_|refine ab rfl rfl rfl rfl ?_|refine aA rfl rfl rfl rfl px rfl ?_|refine aF rfl rfl rfl rfl rfl ?_|refine aL rfl rfl rfl rfl rfl rfl rfl rfl rfl ?_)
  |(show WX _ _ _ _ _ _ _ _ _ _;first
  |refine aW rfl rfl rfl ?_|refine aU rfl rfl rfl ?_|refine aI rfl rfl (lK (i:=0) (h1 Hy)) rfl ?_|refine aI rfl rfl rfl rfl ?_|refine aG rfl rfl rfl rfl ?_|refine aR rfl rfl rfl (c132) .none rfl ?_|(fail_if_success refine WX.gt rfl ?_);refine aV rfl rfl rfl (λht=>?_) (λht=>?_)|refine aJ (by repeat' (first|exact bF.nil|refine bF.any (λh=>rfl) ?_|refine bF.first rfl ?_|refine bF.first (dA Hy) ?_|refine bF.snd (dA Hy) ?_|refine bF.any (λh=>dA Hy) ?_|refine bF.first (gh Hy) ?_|refine bF.snd (gh Hy) ?_|refine bF.any (λh=>gh Hy) ?_|refine bF.first (gj Hy) ?_|refine bF.snd (gj Hy) ?_|refine bF.any (λh=>gj Hy) ?_|refine bF.first (gV Hy) ?_|refine bF.snd (gV Hy) ?_|refine bF.any (λh=>gV Hy) ?_|refine bF.first (ld_ex Hy rfl) ?_|refine bF.snd (ld_ex Hy rfl) ?_|refine bF.any (λh=>ld_ex Hy rfl) ?_|refine bF.first (lh Hy rfl) ?_|refine bF.snd (lh Hy rfl) ?_|refine bF.any (λh=>lh Hy rfl) ?_|refine bF.first (et Hy rfl) ?_|refine bF.snd (et Hy rfl) ?_|refine bF.any (λh=>et Hy rfl) ?_|refine bF.first (oW Hy rfl) ?_|refine bF.snd (oW Hy rfl) ?_|refine bF.any (λh=>oW Hy rfl) ?_|refine bF.first (eU Hy rfl) ?_|refine bF.snd (eU Hy rfl) ?_|refine bF.any (λh=>eU Hy rfl) ?_|refine bF.first (ef Hy rfl) ?_|refine bF.snd (ef Hy rfl) ?_|refine bF.any (λh=>ef Hy rfl) ?_|refine bF.first (eH Hy rfl) ?_|refine bF.snd (eH Hy rfl) ?_|refine bF.any (λh=>eH Hy rfl) ?_|refine bF.first (eG Hy rfl) ?_|refine bF.snd (eG Hy rfl) ?_|refine bF.any (λh=>eG Hy rfl) ?_|refine bF.each (.cons rfl .nil) ?_|refine bF.each (.cons rfl (.cons rfl .nil)) ?_|refine bF.each (.cons rfl (.cons rfl (.cons rfl .nil))) ?_)) ?_)|apply ac|refine ae rfl ?_|apply ai|apply ah|apply aj|apply al|refine aD rfl ?_|refine aB rfl ?_|apply ap|refine aK ?_|apply bG.norm|apply bG.ret|exact⟨.inr rfl,_,rfl,.flat rfl,_,rfl⟩|fail)
theorem f79(n c:Nat)(hn:n<9223372036854775808)(h0:cV n c 0 0=false->Nat.blt 0 n=true):db 79 [.str n c]:=by
 refine cJ Tryz.func79 (by decide) q79.2 rfl (bO (.flat rfl) px0) rfl ?_
 repeat' (first
  |(refine WLg.mk ?_;first
  |refine aa rfl rfl rfl rfl ?_|refine aq rfl rfl rfl (f111v n c hn h0) rfl ?_)|apply ac|refine ae rfl ?_|refine ay rfl rfl ?_|refine az rfl (λht=>?_) (λht=>?_)|apply ai|apply ah|apply ap|apply bG.norm|exact⟨.inr rfl,_,rfl,.flat rfl,_,rfl⟩|fail)
theorem Hc(s:ByteArray):cV s.size (bT s.data.toList) 0 0=false->Nat.blt 0 s.size=true:=by
 intro h;refine ltb ?_;rcases Nat.eq_zero_or_pos s.size with q|q
 ·have hl:s.data.toList=[]:=by
   have:s.data.toList.length=0:=by rw [Array.length_toList];exact q
   exact List.length_eq_zero_iff.1 this
  rw [hl,q]at h;cases h
 ·exact q
theorem f79s(s:ByteArray)(hn:s.size<9223372036854775808):db 79 [sV s]:=f79 _ _ hn (Hc s)
end
section
theorem Gp{c:Nat}{i:Nat}(h0:0<i):∀{k},rN c k=true->i<k->chB (byN c i)=true:=by
 intro k h q;cases e:chB (byN c i)with
 |true=>rfl
 |false=>rw [yc h0 e q]at h;cases h
theorem C0{x:Nat}(h:chB x=true):x<128:=by
 cases q:Nat.blt x 128 with
 |true=>exact bL q
 |false=>
  exfalso;have hx:=ce q;have l:∀k:Nat,k<128->ltI (Int.ofNat k) (Int.ofNat x)=true:=λk hk=>ltb (by omega);have e:∀k:Nat,k<128->eqI (Int.ofNat x) (Int.ofNat k)=false:=λk hk=>by
   cases q:eqI (Int.ofNat x) (Int.ofNat k)with
   |false=>rfl
   |true=>
    rw [iL]at q;have:Int.ofNat x=Int.ofNat k:=by simpa using q
    have:=Int.ofNat.inj this;omega
  unfold chB loB at h;rw [show ltI 122 (Int.ofNat x)=true from l 122 (by decide),show ltI 90 (Int.ofNat x)=true from l 90 (by decide),show ltI 57 (Int.ofNat x)=true from l 57 (by decide),show eqI (Int.ofNat x) 95=false from e 95 (by decide),show eqI (Int.ofNat x) 64=false from e 64 (by decide)]at h;simp at h
theorem zX{n c:Nat}(h:nmC n c=true):ltI (Int.ofNat n) 1=false/\ltI 32 (Int.ofNat n)=false/\loB (byN c 0)=true/\rN c n=true:=by
 unfold nmC at h;simp only [Bool.and_eq_true,Bool.not_eq_true']at h;exact⟨h.1,h.2.1,h.2.2.1,h.2.2.2⟩
set_option maxHeartbeats 2000000 in
theorem f56t{n c:Nat}(h:nmC n c=true):CP 56 [.str n c] (.bool true):=by
 obtain⟨p1,p2,p3,p4⟩:=zX h;refine cS Tryz.func56 (by decide) q56.2 rfl (bO (.flat rfl) px0) rfl ?_;have hn0:cV n c 0 0=false:=by
  have:=ce (show Nat.blt n 1=false from p1);cases n with
  |zero=>omega
  |succ n=>rfl
 repeat' (first
  |(refine WLg.mk ?_;first
  |refine aa rfl rfl rfl rfl ?_|refine aF rfl rfl rfl rfl rfl ?_)|apply ac|refine ae rfl ?_|refine az rfl (λht=>Nx ht (by with_reducible assumption)) (λht=>?_)|apply ai|apply ah|apply aj|apply al|refine ak rfl (λht=>Nx ht (by with_reducible assumption)) (λht=>?_)|apply bG.norm|fail)
 refine aw (rV (l:=fr56 n c) KS rfl rfl) ?_;refine bz (λk x h=>∃pos,k=n-pos/\x=fr56 n c/\h=HS n c pos) ?_ (k:=n-0) ⟨0,rfl,rfl,rfl⟩;rintro _ _ _ ⟨pos,rfl,rfl,rfl⟩;cases hb:Nat.blt pos n with
 |false=>
  repeat' (first
   |(refine WLg.mk ?_;first
   |refine aa rfl rfl rfl rfl ?_|refine aE rfl rfl (qE hb) rfl ?_)|apply ac|refine ae rfl ?_|apply ai|apply ah|refine aB rfl ?_|apply av|apply ap|apply bG.norm|apply bG.exit|apply OnC.exit|fail)
  exact⟨.inr rfl,_,rfl,.flat rfl,rfl⟩
 |true=>
  have hlt:=bL hb;have hx:chB (byN c pos)=true:=by
   cases pos with
   |zero=>unfold chB;rw [p3];rfl
   |succ pos=>exact Gp (Nat.succ_pos _) p4 hlt
  have hd:jA n c pos=(byN c pos,1):=by
   unfold jA;rw [show Nat.blt (Nat.mod (Nat.shiftRight c (Nat.mul 8 pos)) 256) 128=true from ltb (C0 hx)];rfl
  have nx:=tH (n:=n) (c:=c) hb;rw [hd]at nx;have hz:ltI 0 (Int.ofNat pos)=false->loB (byN c pos)=true:=λq=>by
   have:=ce (show Nat.blt 0 pos=false from q);obtain rfl:pos=0:=by omega
   exact p3
  repeat' (first
   |(refine WLg.mk ?_;first
   |refine aa rfl rfl rfl rfl ?_|refine aE rfl rfl nx rfl ?_)|apply ac|refine ae rfl ?_|refine ay rfl rfl ?_|refine az rfl (λht=>?_) (λht=>?_)|apply ai|apply ah|apply aj|apply al|refine aD rfl ?_|refine aB rfl ?_|refine ak rfl (λht=>?_) (λht=>?_)|apply ap|apply bG.norm|apply bG.ret|apply OnC.ret|fail)
  all_goals first
   |exact .norm ⟨_,_,rV KS rfl rfl,n-(pos+1),by omega,pos+1,rfl,rfl,rfl⟩|skip
  all_goals (
   exfalso;have hz':ltI 0 (Int.ofNat pos)=true\/loB (byN c pos)=true:=by
    cases q:ltI 0 (Int.ofNat pos)with
    |true=>exact .inl rfl
    |false=>exact .inr (hz q)
   clear hz;clear nx hd;unfold chB loB at hx;unfold loB at hz' p3;simp only [Bool.not_eq_true',Bool.not_eq_false']at*;generalize Int.ofNat (byN c pos)=X at*;generalize Int.ofNat pos=Y at*;simp [*]at hx hz')
noncomputable section
def Gh:List (V×V):=match EK with
 |some (.map id,h)=>match h.blk id with
  |some (.map es _)=>es
  |_=>[]
 |_=>[]
def yq(p:V×V):Bool:=match p.1 with
 |.str n c=>inL lS n c
 |_=>false
end
theorem Eb:Gh.all yq=true:=by kernel_rfl
theorem sI{h:H}{n c:Nat}(no:inL lS n c=false):∀es:List (V×V),es.all yq=true->dY h (.one .s) (.str n c) es=some none
 |[],_=>rfl
 |(x,y) ::es,k=>by
  rw [List.all_cons,Bool.and_eq_true]at k;have ih:=sI (h:=h) no es k.2;have k1:yq (x,y)=true:=k.1;cases x<;>first|(cases k1;done)|skip
  rename_i m d
  have k1:inL lS m d=true:=k1;show ob (some (cV n c m d)) (λb'=>Bool.rec (motive:=λ_=>Option (Option V)) (dY h (.one .s) (.str n c) es) (some (some y)) b')=_;cases z:cV n c m d with
  |false=>exact ih
  |true=>
   exfalso;have z:Bool.rec (motive:=λ_=>Bool) false (Nat.beq c d) (Nat.beq n m)=true:=z;cases q:Nat.beq n m with
   |false=>rw [q]at z;cases z
   |true=>
    rw [q]at z;have e1:=Nat.eq_of_beq_eq_true q;have e2:=Nat.eq_of_beq_eq_true z;subst e1 e2;rw [no]at k1;cases k1
theorem f57n{n c:Nat}(no:inL lS n c=false):CP 57 [.str n c] (.bool false):=by
 obtain⟨id,h',es,o,c75,k1,hes⟩:∃id h' es o,CN 75 [] H0 (.map id) h'/\h'.blk id=some (.map es o)/\es.all yq=true:=by
  obtain⟨id,h',es,o,e,k1,k2⟩:=jD uT;have he:Gh=es:=by
   unfold Gh;rw [e];show(match h'.blk id with
    |some (.map es _)=>es
    |_=>[])=es
   rw [k1]
  refine⟨id,h',es,o,pU (tab:=A8) (mJ λp hp=>?_) (n:=3) e,k1,he▸Eb⟩;simp only [List.mem_cons,List.not_mem_nil,or_false]at hp;subst hp;exact⟨_,Tryz.func75,by decide,q75.2⟩
 have nf:=sI (h:=h') no es hes;refine cS Tryz.func57 (by decide) q57.2 rfl (bO (.flat rfl) px0) rfl ?_;have hi:ROp.run (.lookup (.one .s) false (.int .i64 0)) [.map id,.str n c] h'=some (.int .i64 0):=by
  show oif true (ob (ob (h'.blk id) _) _)=_;rw [k1];show ob (dY h' (.one .s) (.str n c) es) _=_;rw [nf];rfl
 repeat' (first
  |(refine WLg.mk ?_;first
  |refine aa rfl rfl rfl rfl ?_|refine ab rfl rfl hi rfl ?_|refine au rfl rfl rfl (c75) (λ_ _ q=>q) .none rfl ?_)|apply ac|refine ae rfl ?_|apply ai|apply ah|apply ap|apply bG.norm|fail)
 all_goals exact⟨.inr rfl,_,rfl,.flat rfl,rfl⟩
theorem f45t{n c:Nat}(h:nmV n c=true):CP 45 [.str n c] (.bool true):=by
 unfold nmV at h;rw [Bool.and_eq_true,Bool.not_eq_true']at h;have c56:=f56t h.1;have c57:=f57n h.2;refine cS Tryz.func45 (by decide) q45.2 rfl (bO (.flat rfl) px0) rfl ?_
 repeat' (first
  |(refine WLg.mk ?_;first
  |refine aa rfl rfl rfl rfl ?_|refine aq rfl rfl rfl (c56) rfl ?_|refine aq rfl rfl rfl (c57) rfl ?_)|apply ac|refine ae rfl ?_|apply ai|apply ah|apply ap|apply bG.norm|fail)
 all_goals exact⟨.inr rfl,_,rfl,.flat rfl,rfl⟩
end
end Ev
end Go.Proofs.YtdfphfdnoobikaaGreatDoor
