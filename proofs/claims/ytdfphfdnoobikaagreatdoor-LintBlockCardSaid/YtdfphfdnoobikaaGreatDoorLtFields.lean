/-
  strings.Fields of the texts that the program cuts.
-/
import Derived.Test.YtdfphfdnoobikaaGreatDoorLtStr
namespace Go.Proofs.YtdfphfdnoobikaaGreatDoor
namespace Ev
section
open Go.Shelf
section
variable [Env]
set_option linter.unusedSectionVars false
theorem sP{f:FuncId} {fn:Func} (h1:Tryz.prog.funcs[f]? =some fn) (h2:(fn.name== "runtime.NumGoroutine")=false) (h3:fn.body.isNone=false) {us:List Value} {g:G} {h:H} {w:World} {v:V} {h':H}
  (c:Calls Tryz.prog f us.toArray w (rB TP g h w v h')):lB Tryz.prog TP f us g h w v h':=
 ⟨fn,h1,beq_eq_false_iff_ne.1 h2,h3,callsIn_wide.2 c⟩
noncomputable section
def sG(l:List UInt8):V:= .str l.length (bT l)
def wH:List (List UInt8):=[kC 115 3962018864413014948754648656006502432093592997329216410804218722331684167459064326731363241603392931701660348028516868103884579128723922804055349770158965106607581632881660418770906343041889274360206442574388062685891706774567976215249495650238158067786189234758106247192667745,kC 211 2643788049237875746027353956421256579877879755938887535316951059759369592555717365339016263365027618501812524394041916456107630935882219539062654111784106688242807265108499006909579367619711043370541396788490473410751723451644814999429197375349848118121197291676110575868848611747558760119856467310971821053183838999261785706908127509286587510957382674167142064579141726276195335717799002842036464030059972223758517794073400569462703278420382076657222687305171158147755303688062608438613618907131909108626281,kC 130 2309567611550875277204994674161353649923820728840937906004022259955814384767430420713629540289955323346488897252243258610309243515909333067562535498886036825999362825657067591809416156955820597497462137324242345962628091659841284438982893644934511546577333868034346565100900555615209792057877126969041213629687155,kC 326 23432797193871199407333496422669012367299329756827031624297655228348896489652091995020903033051514005582240654107251283804193553897754980763464707855962905347494948165397241680072134641162834970075957098854109284145689297344697482720779276625903820634785204952066235328051174553452503356106246011490484894671724025188345757335091502307861111567946691652232448241457647053841496573471555992490563340102516511656375177173333262957809226356687276663106690246514868571292902185291786131212997716888408723455673227194122100111222777000526364432920838613382261280238070156172435011051979694305378415251427278940642021762430988511956155483968407454369334577920402672521885831115680086389877854951673720855015018618345684868760042338146632436122985681635754182370565935330268791689787050389619,kC 15 265770033204623512752161048958627937]
def tu(n c:Nat)(l:List (List UInt8)):Option (List V):=List.rec (motive:=fun _=>Option (List V)) none (fun a _ ih=>Bool.rec (motive:=fun _=>Option (List V)) ih (some ((Lib.fields a).map sG)) (Nat.beq n (bU a)&&Nat.beq c (bT a))) l
def tq(vs:List V)(h:H):Option (V×H):=
 eQ vs none fun x t=>eQ t (match x with
  |.str n c=>ob (tu n c wH) fun l=>ob (dn l) fun b=>ob (h.new b) fun h'=>some (.sl h.next 0 (bU l) (bU l) true 1,h')
  |_=>none) fun _ _=>none
end
theorem oO{n c:Nat}{r:List V}:∀{l:List (List UInt8)},tu n c l=some r→∃a,a∈l∧n=a.length∧c=bT a∧r=(Lib.fields a).map sG
 |[],e=>by cases e
 |a ::l,e=>by
  have e:(Bool.rec (motive:=fun _=>Option (List V)) (tu n c l) (some ((Lib.fields a).map sG)) (Nat.beq n (bU a)&&Nat.beq c (bT a)):Option (List V))=some r:=e
  rw [cq]at e
  split at e
  ·rename_i q
   cases e
   simp only [Bool.and_eq_true,Nat.beq_eq,bS]at q
   exact⟨a,List.mem_cons_self,q.1,q.2,rfl⟩
  ·obtain⟨a',k1,k2⟩:=oO e
   exact⟨a',List.mem_cons_of_mem _ k1,k2⟩
theorem zC:wH.all (fun l=>l.all (fun b=>Nat.blt b.toNat 128)&&Nat.ble (bU l) 10000)=true:=by kernel_rfl
theorem Al{g:G}{n c:Nat}{u:Value}(h:VR g (.str n c) u):∃s:ByteArray,u= .string s∧s.data.toList.length=n∧bT s.data.toList=c:=by
 cases h
 exact⟨_,rfl,Array.length_toList,rfl⟩
theorem D8:∀c,c<256→tbl[c]? =some (.int .u8 (if Lib.isSp (UInt8.ofNat c)then 1 else 0)):=by
 have h:(List.range 256).all (fun c=>match tbl[c]? with|some (.int .u8 n)=>n==(if Lib.isSp (UInt8.ofNat c)then(1:Int)else 0) | _=>false)=true:=by kernel_rfl
 intro c hc
 have:=List.all_eq_true.1 h c (List.mem_range.2 hc)
 split at this
 ·rename_i n e
  rw [e]
  have k:n=if Lib.isSp (UInt8.ofNat c)then(1:Int)else 0:=by simpa using this
  rw [k]
 ·cases this
set_option maxRecDepth 100000 in
theorem yZ{g:G}{h:H}{w:World}(r:WR TP g h w)(hG:gX TP g h w):∀c:Nat,c<256→w.cell? ⟨0,c,none⟩=some (.int .u8 (if Lib.isSp (UInt8.ofNat c)then 1 else 0)):=by
 intro c hc
 obtain⟨⟨z,hz⟩,hb⟩:=hG.pin (0,0,256,cE tbl 0 .e) (by rw [ig];exact List.mem_singleton.2 rfl)
 have hz:g 0=some (0,0,z):=hz
 have hb:h.blk 0=some (.ro 256 (cE tbl 0 .e)):=hb
 obtain⟨b',o',z',cs,t,k1,k2,k3,k4,k5,k6⟩:=r.blk 0 _ _ hz hb
 rw [hz]at k1
 cases k1
 have hlen:tbl.length=256:=by kernel_rfl
 have hv:(cE tbl 0 .e).get c=some (.int .u8 (if Lib.isSp (UInt8.ofNat c)then 1 else 0)):=by
  rw [cW tbl 0 .e c (by rw [hlen];decide),if_pos (by omega)]
  exact D8 c hc
 obtain⟨u,m1,m2,_⟩:=k6 c _ hc hv
 rw [m2.int_inv]at m1
 rw [Nat.zero_add]at m1
 simp [World.cell?,k2,m1]
theorem xJ{g:G}:∀l:List (List UInt8),VRs g (l.map sG) (l.map fun l=>Value.string ⟨l.toArray⟩)
 |[]=>.nil
 |a ::l=>.cons (by have:=VR.str (g:=g) ⟨a.toArray⟩;simpa [sG,ByteArray.size]using this) (xJ l)
set_option maxRecDepth 100000 in
theorem zA:∀vs h v h',tq vs h=some (v,h')→∀g w us,WR TP g h w→gX TP g h w→VRs g vs us→lB Tryz.prog TP 98 us g h w v h':=by
 intro vs h v h' e g w us r hG hv
 cases hv with
 |nil=>cases e
 |cons h1 t1=>
 cases t1 with
 |cons _ _=>cases e
 |nil=>
 rename_i x u1
 cases x<;>first|(cases e;done)|skip
 rename_i n c
 obtain⟨l,e1,e2⟩:=bC.1 (show ob (tu n c wH) (fun l=>ob (dn l) fun b=>ob (h.new b) fun h'=>some (V.sl h.next 0 (bU l) (bU l) true 1,h'))=some (v,h')from e)
 obtain⟨b,e3,e4⟩:=bC.1 e2
 obtain⟨h2,e5,e6⟩:=bC.1 e4
 cases e6
 obtain⟨l0,q1,rfl,rfl,rfl⟩:=oO e1
 have q2:=List.all_eq_true.1 zC l0 q1
 simp only [Bool.and_eq_true]at q2
 obtain⟨ha,hl⟩:=q2
 have hl:l0.length≤10000:=by rw [←bS];exact Nat.le_of_ble_eq_true hl
 obtain⟨s,rfl,k1,k2⟩:=Al h1
 have hs:=nR k1 k2
 have hvs:=xJ (g:=g) (Lib.fields l0)
 obtain⟨⟨m1,m2,m3⟩,m4⟩:=iG (T:=TP) hvs e3
 refine sP Tryz.func98 (by decide) rfl ?_
 have c:=Any.strings_Fields_core Tryz.lays157 (by kernel_rfl) s w (by rw [ByteArray.size,←Array.length_toList,k1];omega) (by rw [hs];intro j b hb;have:=List.all_eq_true.1 ha b (List.mem_of_getElem? hb);exact Nat.le_of_ble_eq_true this) (yZ r hG)
 rw [hs]at c
 refine c.mono ?_
 rintro e w' ⟨rfl,rfl⟩
 have hnone:g h.next=none:=by
  cases q:g h.next with
  |none=>rfl
  |some y=>exact absurd (r.dom _ _ q) (by omega)
 have hlen:bU ((Lib.fields l0).map sG)=(Lib.fields l0).length:=by rw [bS,List.length_map]
 have x:=Ext.new (z:=(Lib.fields l0).length) r (o:= .cells ((Lib.fields l0).map fun l=>Value.string ⟨l.toArray⟩).toArray 9) e5 (.inr m1)
  (m4 9 _ _ h.next w.heap.size (eR _ hnone) (by rw [cg];simp) (da _ _))
 rw [hlen]
 exact⟨_,_,rfl,.slx (off:=0) (cg _ _ _),x⟩
end
noncomputable def qd:FuncId→Option (List V→H→Option (V×H)):=fun f=>Bool.rec (motive:=fun _=>Option (List V→H→Option (V×H))) none (some tq) (Nat.beq f 98)
theorem uA(E:En):@tM E Tryz.prog TP qd:=by
 intro f p e vs h v h' e1 g w us r hG hv
 have e:(Bool.rec (motive:=fun _=>Option (List V→H→Option (V×H))) none (some tq) (Nat.beq f 98):Option (List V→H→Option (V×H)))=some p:=e
 rw [cq]at e
 split at e
 ·rename_i q
  cases e
  rw [Nat.eq_of_beq_eq_true q]
  exact @zA E vs h v h' e1 g w us r hG hv
 ·cases e
end
section
noncomputable section
def wo(n:Nat):Nat→Nat→Bool:=Nat.rec (motive:=fun _=>Nat→Nat→Bool) (fun _ _=>false) (fun _ ih c x=>Bool.rec (motive:=fun _=>Bool) (ih (Nat.div c 256) x) true (Nat.beq (Nat.mod c 256) x)) n
def Cg(l:List (Nat×CF))(f:FuncId):Option CF:=List.rec (motive:=fun _=>Option CF) none (fun p _ ih=>Bool.rec (motive:=fun _=>Option CF) ih (some p.2) (Nat.beq p.1 f)) l
end
theorem tf(x:Nat):∀l:List UInt8,wo l.length (bT l) x=l.any fun b=>b.toNat==x
 |[]=>rfl
 |b ::l=>by
  show(Bool.rec (motive:=fun _=>Bool) (wo l.length (bT (b ::l)/256) x) true (Nat.beq (bT (b ::l)%256) x):Bool)=_
  have d1:bT (b ::l)%256=b.toNat:=by have:=b.toNat_lt;rw [dH];omega
  have d2:bT (b ::l)/256=bT l:=by have:=b.toNat_lt;rw [dH];omega
  rw [d1,d2,tf x l,cq,List.any_cons]
  by_cases e:b.toNat=x
  ·simp [e]
  ·have:Nat.beq b.toNat x=false:=by
    cases q:Nat.beq b.toNat x with
    |false=>rfl
    |true=>exact absurd (Nat.eq_of_beq_eq_true q) e
   simp [this,e]
theorem jO(c:UInt8):∀l:List UInt8,decide (0≤Lib.indexByte l c)=l.any fun b=>b.toNat==c.toNat
 |[]=>rfl
 |b ::l=>by
  have ih:=jO c l
  have hge:=Lib.indexByte_ge l c
  rw [List.any_cons,←ih]
  by_cases e:b=c
  ·subst e;simp [Lib.indexByte]
  ·have e1:(b==c)=false:=by simpa using e
   have e2:(b.toNat==c.toNat)=false:=by simpa using fun k=>e (UInt8.toNat_inj.1 k)
   rw [e2,Bool.false_or]
   simp only [Lib.indexByte,e1]
   by_cases k:Lib.indexByte l c= -1
   ·simp [k]
   ·have k2:(Lib.indexByte l c== -1)=false:=by simpa using k
    simp only [k2]
    congr 1
    simp
    omega
theorem mI{E:En}{g:G}{n c:Nat}{u:Value}(h:@VR E g (.str n c) u):∃s:ByteArray,u= .string s∧s.data.toList.length=n∧bT s.data.toList=c:=by
 cases h
 exact⟨_,rfl,Array.length_toList,rfl⟩
theorem BW{f:FuncId} {fn:Func} (h1:Tryz.prog.funcs[f]? =some fn) (h2:(fn.name== "runtime.NumGoroutine")=false) (h3:fn.body.isNone=false) {vs:List V} {v:V}
  (k:∀(E:En) (g:G) (w:World) (us:List Value),@VRs E g vs us→∃u,@VR E g v u∧Calls Tryz.prog f us.toArray w fun e w'=>e= .returned u∧w'=w):ck Tryz.prog TP f vs v:=by
 refine⟨fun E g h w us s hu=>?_⟩
 obtain⟨u,k1,k2⟩:=k E g w us hu
 refine⟨fn,h1,beq_eq_false_iff_ne.1 h2,h3,callsIn_wide.2 (k2.mono ?_)⟩
 rintro e w' ⟨rfl,rfl⟩
 exact⟨E,u,rfl,k1,E.le_refl,fun _ _ h=>.inl h,fun b c e=>(s.env e).1,@kM.refl noE w'⟩
theorem f65(n c d:Nat):ck Tryz.prog TP 65 [.str n c,.str 1 d] (.bool (wo n c d)):=by
 refine BW Tryz.func65 (by decide) rfl fun E g w us hu=>?_
 cases hu with
 |cons x1 t1=>
 cases t1 with
 |cons x2 t2=>
 cases t2
 obtain⟨s,rfl,rfl,rfl⟩:=mI x1
 obtain⟨q,rfl,k1,rfl⟩:=mI x2
 obtain⟨c,hc⟩:=List.length_eq_one_iff.1 k1
 have hq:q=⟨#[c]⟩:=by
  cases q with
  |mk d=>
   have:d=#[c]:=Array.toList_inj.1 hc
   rw [this]
 have key:=jO c s.data.toList
 have hb:wo s.data.toList.length (bT s.data.toList) (bT q.data.toList)=decide (0≤Lib.indexByte s.data.toList c):=by
  rw [tf,key,hc]
  simp [dH,rV]
 refine⟨.bool _,@VR.bool E g _,?_⟩
 rw [hb,hq]
 exact Tryz.strings_Contains_one s c w
theorem yA{tab:FuncId→Option CF}(ht:vF Tryz.prog TP tab){n:Nat}{f:FuncId}{vs:List V}{h h':H}{v:V}(e:kj qd tab n (.fn f) vs h=some (v,h')):Con Tryz.prog TP noM f vs h v h':=by
 refine⟨fun E g w us s hu=>?_⟩
 have ok:=@qX E Tryz.prog TP rm mixed qd tab (uA E) ht n
 obtain⟨fn,k1,k2,k3,k4⟩:=@eu.fn E _ _ _ ok f vs h v h' e g w us s.wr s.glob hu
 refine⟨fn,k1,k2,k3,k4.mono ?_⟩
 rintro e w' ⟨g',u,rfl,m1,m2⟩
 exact⟨E,g',u,rfl,m1,fT.of s m2⟩
noncomputable section
def DF:FuncId→Option CF:=Cg [(75,cf75)]
def Fq:Option (V×H):=kj qd DF 3 (.fn 75) [] H0
def wn(v:V):Bool:=match v with
 |.int .i64 _=>true
 |_=>false
def Bg(v:V):Bool:=match v with
 |.str _ _=>true
 |_=>false
def oA(es:List (V×V)):Bool:=List.rec (motive:=fun _=>Bool) true (fun e _ ih=>Bg e.1&&(wn e.2&&ih)) es
def wd(r:Option (V×H)):Bool:=Option.rec (motive:=fun _=>Bool) false (fun p=>match p.1 with
 |.map id=>match p.2.blk id with
  |some (.map es _)=>oA es
  |_=>false
 |_=>false) r
end
theorem xF{l:List (Nat×CF)} (h:∀p,p∈l→∃fn,Tryz.prog.funcs[p.1]? =some fn∧fn.name≠ "runtime.NumGoroutine"∧bG TP fn=some p.2):vF Tryz.prog TP (Cg l):=by
 intro f cf e
 induction l with
 |nil=>cases e
 |cons p l ih=>
  have e:(Bool.rec (motive:=fun _=>Option CF) (Cg l f) (some p.2) (Nat.beq p.1 f):Option CF)=some cf:=e
  rw [cq]at e
  split at e
  ·rename_i q
   cases e
   rw [←Nat.eq_of_beq_eq_true q]
   exact h p List.mem_cons_self
  ·exact ih (fun q hq=>h q (List.mem_cons_of_mem _ hq)) e
theorem AF:wd Fq=true:=by kernel_rfl
theorem oG{r:Option (V×H)}(h:wd r=true):∃id h' es o,r=some (.map id,h')∧h'.blk id=some (.map es o)∧oA es=true:=by
 cases r with
 |none=>cases h
 |some p=>
  obtain⟨v,h'⟩:=p
  cases v<;>first|(cases h;done)|skip
  rename_i id
  have h:(match h'.blk id with
   |some (.map es _)=>oA es
   |_=>false)=true:=h
  split at h
  ·rename_i es o e
   exact⟨id,h',es,o,rfl,e,h⟩
  ·cases h
theorem pU{h:H}{id n c:Nat}{es:List (V×V)}{o:Bool}(e:h.blk id=some (.map es o))(k:oA es=true):∃i,ROp.run (.lookup (.one .s) false (.int .i64 0)) [.map id,.str n c] h=some (.int .i64 i):=by
 have key:∀es:List (V×V),oA es=true→∃r,fc h (.one .s) (.str n c) es=some r∧∀v,r=some v→wn v=true:=by
  intro es
  induction es with
  |nil=>exact fun _=>⟨none,rfl,fun v e=>by cases e⟩
  |cons p es ih=>
   intro k
   have k:(Bg p.1&&(wn p.2&&oA es))=true:=k
   simp only [Bool.and_eq_true]at k
   obtain⟨k1,k2,k3⟩:=k
   obtain⟨r,q1,q2⟩:=ih k3
   obtain⟨a,b⟩:=p
   cases a<;>first|(cases k1;done)|skip
   rename_i m d
   show ∃r,ob (some (dJ n c m d)) (fun b'=>Bool.rec (motive:=fun _=>Option (Option V)) (fc h (.one .s) (.str n c) es) (some (some b)) b')=some r∧_
   cases dJ n c m d with
   |false=>exact⟨r,q1,q2⟩
   |true=>exact⟨some b,rfl,fun v e=>by cases e;exact k2⟩
 obtain⟨r,q1,q2⟩:=key es k
 have q:ROp.run (.lookup (.one .s) false (.int .i64 0)) [.map id,.str n c] h=some (gT false (.int .i64 0) r):=by
  show oif true (ob (ob (h.blk id) _) _)=_
  rw [e]
  show ob (fc h (.one .s) (.str n c) es) _=_
  rw [q1]
  rfl
 rw [q]
 cases r with
 |none=>exact⟨0,rfl⟩
 |some v=>
  have:=q2 v rfl
  cases v<;>first|(cases this;done)|skip
  rename_i kd i
  cases kd<;>first|(cases this;done)|skip
  exact⟨i,rfl⟩
theorem c75:∃id h' es o,Con Tryz.prog TP noM 75 [] H0 (.map id) h'∧h'.blk id=some (.map es o)∧oA es=true:=by
 obtain⟨id,h',es,o,e,k1,k2⟩:=oG AF
 refine⟨id,h',es,o,yA (tab:=DF) (xF fun p hp=>?_) (n:=3) e,k1,k2⟩
 simp only [List.mem_cons,List.not_mem_nil,or_false]at hp
 subst hp
 exact⟨_,Tryz.func75,by decide,cf75_ok⟩
set_option maxHeartbeats 2000000 in
theorem f57(n c:Nat):cS 57 [.str n c]:=by
 refine cA Tryz.func57 (by decide) cf57_ok rfl (bO (.flat rfl) px0) rfl ?_
 obtain⟨id,h',es,o,c75,k1,k2⟩:=c75
 obtain⟨i,hi⟩:=pU (n:=n) (c:=c) k1 k2
 repeat' (first
  |(refine WLg.mk ?_;first
  |refine aa rfl rfl rfl rfl ?_|refine ab rfl rfl hi rfl ?_|refine am rfl rfl rfl (c75) (fun _ _ q=>q) .none rfl ?_)
  |refine ah ?_|refine ac rfl ?_|refine ai ?_|refine ae ?_|refine ap ?_|refine bE.norm ?_
  |exact⟨.inr rfl,_,rfl,.flat rfl,_,rfl⟩|fail)
theorem f45(n c:Nat):cS 45 [.str n c]:=by
 refine cA Tryz.func45 (by decide) cf45_ok rfl (bO (.flat rfl) px0) rfl ?_
 repeat' (first
  |(refine WLg.mk ?_;first
  |refine aa rfl rfl rfl rfl ?_|refine aq rfl rfl rfl (f56 _ _) rfl ?_|refine aq rfl rfl rfl (f57 _ _) rfl ?_)
  |refine ah ?_|refine ac rfl ?_|refine ax rfl rfl ?_|refine ay rfl (fun ht=>?_) (fun ht=>?_)|refine ai ?_
  |refine ae ?_|refine ap ?_|refine bE.norm ?_|exact⟨.inr rfl,_,rfl,.flat rfl,_,rfl⟩|fail)
end
section
noncomputable section
def lpB(cs:List V):List (Option Blk):=[some (.ro 256 dS),some (.cells (bU cs) (cE cs 0 .e) none false)]
def HB(cs:List V):H:=⟨trO (lpB cs) 0 .e,2⟩
def KB:Nat→Prop:=fun id=>id<2
end
theorem rF{K:Nat→Prop}(hK:∀id,K id→id=0∨id=1){f:F}{h:H}{l:AL}{cs:List V}{tr:Tr V}{ch:Bool}(k:jw f.loc l)(hb:h.blk 0=some (.ro 256 dS))(hs:h.blk 1=some (.cells (bU cs) tr none ch))(hl:Nat.ble (bU cs) bP=true)(hc:∀j v,cs[j]? =some v→tr.get j=some v)(hp:∀c,c∈cs→bN c):ft TP K f h ⟨l,[]⟩ (HB cs):=by
 have hk:2≤bP:=by unfold bP;omega
 have hl':cs.length≤bP:=by rw [←@bS noE];exact Nat.le_of_ble_eq_true hl
 have u:∀i,cI (lpB cs) i→i=0∨i=1:=fun i ⟨b,e⟩=>by
  cases i with
  |zero=>exact .inl rfl
  |succ i=>cases i with
   |zero=>exact .inr rfl
   |succ i=>cases e
 have noUp:∀i j d,cI (lpB cs) i→¬Up h i j d:=fun i j d hi=>by
  rcases u i hi with rfl|rfl
  ·exact dF hb
  ·intro q
   cases q with
   |one e' k'=>rw [hs]at e';cases e';cases k'
   |step e' k' _=>rw [hs]at e';cases e';cases k'
 have V:Vw TP h (lpB cs) (fun i=>i) (fun _=>none):=by
  refine⟨hk,fun i b' e=>?_,fun i j _ _ e=>e,fun i j d hi _=>noUp i j d hi,(fun k cs e=>by cases e),(fun k cs i e=>by cases e),fun q hq=>⟨rfl,?_⟩⟩
  ·rcases u i ⟨_,e⟩with rfl|rfl
   ·obtain rfl:Blk.ro 256 dS=b':=by cases e;rfl
    exact⟨_,hb,.ro fun j v e=>.flat (dW eD (by rw [fU];unfold bP;omega) e)⟩
   ·obtain rfl:Blk.cells (bU cs) (cE cs 0 .e) none false=b':=by cases e;rfl
    refine⟨_,hs,.cells fun j v hj e=>?_⟩
    rw [@bS noE]at hj
    rw [@cW noE cs 0 .e j (by omega),if_pos (by omega),Nat.sub_zero]at e
    exact⟨v,hc j v e,.pure (hp v (List.mem_of_getElem? e))⟩
  ·have e:=jW.all q hq
   have hq':q.1=0:=by rw [ig]at hq;rw [List.mem_singleton.1 hq]
   rw [hq']at e ⊢
   exact e
 exact V.view (fun id h=>by rcases hK id h with rfl|rfl<;>exact⟨⟨_,rfl⟩,rfl⟩) (.inl fun _=>rfl) ⟨fun p hp=>k.mem ⟨_,rfl⟩ p hp,fun p hp=>by cases hp⟩
theorem gz{tr:Tr V}{a b c:V}(h0:tr.get 0=some a)(h1:tr.get 1=some b)(h2:tr.get 2=some c):∀j v,[a,b,c][j]? =some v→tr.get j=some v
 |0,_,e=>h0.trans e
 |1,_,e=>h1.trans e
 |2,_,e=>h2.trans e
 |j+3,_,e=>by simp at e
theorem zY:∀id,KB id→id=0∨id=1:=fun id h=>by
 have h:id<2:=h
 omega
theorem oV.con0{f:FuncId}{h h':H}{vs:List V}{v:V}{K M:Nat→Prop}(c:oV Tryz.prog TP K f h vs h' v)(hK:∀id,id<h.next→¬M id→K id)(np:∃id,K id∧id≠0)(hn:h.next≤h'.next):Con Tryz.prog TP M f vs h v h':=by
 refine⟨fun E g w us s hu=>?_⟩
 obtain⟨fn,k1,k2,k3,k4⟩:=c E g w us s hu
 refine⟨fn,k1,k2,k3,k4.mono ?_⟩
 rintro e w' ⟨E',g',u,rfl,m1,m2⟩
 refine⟨E',g',u,rfl,m1,m2.envl,fun b c e=>?_,fun id x hm e=>m2.fix id x (hK id (@WR.dom E _ _ _ _ s.wr _ _ e) hm) e,hn,m2.sit,m2.size,m2.keep,m2.inv,m2.pin,m2.os,m2.tape,m2.output⟩
 rcases m2.envn b c e with k|k | ⟨k,_⟩
 ·exact .inl k
 ·exact .inr k
 ·obtain⟨id,q1,q2⟩:=np
  obtain⟨p,p1,p2⟩:=k id q1
  rw [ig]at p1
  rw [List.mem_singleton.1 p1]at p2
  exact absurd p2.symm q2
theorem rD{K:Nat→Prop}{cf:CF}{vs:List V}{loc:AL}{h:H}(hn:lQ vs 0=some loc){Q:X→AL→H→Prop}(k:WC Tryz.prog TP K eK 1 cf.code loc h Q){Q':X→F→H→Prop}(hq:∀x l h,Q x l h→Q' x ⟨l,[]⟩ h):W Tryz.prog TP K eK 1 cf.code ⟨dE vs 0,[]⟩ h Q':=by
 rw [mS hn]
 refine W.mono k.out fun x f h q=>?_
 have:=hq x f.loc h q.2
 rw [←F.loc_eq q.1]at this
 exact this
def oX(cf:CF)(R:V→H→Prop)(x:X)(loc:AL)(h:H):Prop:=(x= .norm∨x= .ret)∧∃l,gj ⟨loc,[]⟩ h cf.results=some l∧R (cX l) h
theorem tD{M:Nat→Prop} {f:FuncId} {fn:Func} {cf:CF} {h:H} (hfn:Tryz.prog.funcs[f]? =some fn) (hnm:fn.name≠ "runtime.NumGoroutine") (hcf:bG TP fn=some cf) {vs:List V} (hlen:vs.length=cf.params) {R:V→H→Prop} {loc:AL} (hn:lQ vs 0=some loc) (np:∃id,id < h.next∧¬M id∧id≠0)
  (k:WC Tryz.prog TP (fun id=>id<h.next∧¬M id) eK 1 cf.code loc h (oX cf fun v h'=>h.next≤h'.next∧R v h')):∃v h',Con Tryz.prog TP M f vs h v h'∧R v h':=by
 obtain⟨x,f1,h1,k1,k2,l,k3,k4,k5⟩:=rD (Q':=fun x f1 h1=>(x= .norm∨x= .ret)∧∃l,gj f1 h1 cf.results=some l∧h.next≤h1.next∧R (cX l) h1) hn k fun x l h q=>q
 obtain⟨id,p1,p2,p3⟩:=np
 exact⟨_,_,(gN rm jt mixed hfn hnm hcf hlen k1 k2 k3).con0 (fun id h1 h2=>⟨h1,h2⟩) ⟨id,⟨p1,p2⟩,p3⟩ k4,k5⟩
theorem pJ{f:FuncId} {fn:Func} {cf:CF} {cs:List V} (hfn:Tryz.prog.funcs[f]? =some fn) (hnm:fn.name≠ "runtime.NumGoroutine") (hcf:bG TP fn=some cf) {vs:List V} (hlen:vs.length=cf.params) {R:V→H→Prop} {loc:AL} (hn:lQ vs 0=some loc)
  (k:WC Tryz.prog TP KB eK 1 cf.code loc (HB cs) (oX cf fun v h'=>2≤h'.next∧R v h')):∃v h',Con Tryz.prog TP noM f vs (HB cs) v h'∧R v h':=by
 obtain⟨x,f1,h1,k1,k2,l,k3,k4,k5⟩:=rD (Q':=fun x f1 h1=>(x= .norm∨x= .ret)∧∃l,gj f1 h1 cf.results=some l∧2≤h1.next∧R (cX l) h1) hn k fun x l h q=>q
 exact⟨_,_,(gN rm jt mixed hfn hnm hcf hlen k1 k2 k3).con0 (fun id h1 _=>h1) ⟨1,Nat.lt_succ_self 1,by decide⟩ k4,k5⟩
theorem f153(x:Int):cS 153 [.int .u8 x]:=by
 refine cA Tryz.func153 (by decide) cf153_ok rfl (bO (.flat rfl) px0) rfl ?_
 repeat' (first
  |(refine WLg.mk ?_;first
  |refine aa rfl rfl rfl rfl ?_)
  |refine ah ?_|refine ac rfl ?_|refine ax rfl rfl ?_|refine ay rfl (fun ht=>?_) (fun ht=>?_)|refine ai ?_
  |refine ae ?_|refine ap ?_|refine bE.norm ?_|exact⟨.inr rfl,_,rfl,.flat rfl,_,rfl⟩|fail)
theorem f154(x:Int):cS 154 [.int .u8 x]:=by
 refine cA Tryz.func154 (by decide) cf154_ok rfl (bO (.flat rfl) px0) rfl ?_
 repeat' (first
  |(refine WLg.mk ?_;first
  |refine aa rfl rfl rfl rfl ?_)
  |refine ah ?_|refine ac rfl ?_|refine ax rfl rfl ?_|refine ay rfl (fun ht=>?_) (fun ht=>?_)|refine ai ?_
  |refine ae ?_|refine ap ?_|refine bE.norm ?_|exact⟨.inr rfl,_,rfl,.flat rfl,_,rfl⟩|fail)
theorem f133(x:Int):cS 133 [.int .u8 x]:=by
 refine cA Tryz.func133 (by decide) cf133_ok rfl (bO (.flat rfl) px0) rfl ?_
 repeat' (first
  |(refine WLg.mk ?_;first
  |refine aa rfl rfl rfl rfl ?_|refine aq rfl rfl rfl (f153 _) rfl ?_|refine aq rfl rfl rfl (f154 _) rfl ?_)
  |refine ah ?_|refine ac rfl ?_|refine ax rfl rfl ?_|refine ay rfl (fun ht=>?_) (fun ht=>?_)|refine ai ?_
  |refine ae ?_|refine ap ?_|refine bE.norm ?_|exact⟨.inr rfl,_,rfl,.flat rfl,_,rfl⟩|fail)
noncomputable section
def scC(n c pos:Nat):List V:=[.str n c,.int .i64 (Int.ofNat pos),.nilm]
def fr132:AL:=[(0,.ptr 1 0),(1,.func (.func 133) [] []),(5,.int .i64 0)]
end
theorem DJ(n c pos:Nat):∀v,v∈scC n c pos→bN v:=bO (.flat rfl) (bO (.flat rfl) (bO (.flat rfl) px0))
theorem GO:bN (.func (.func 133) [] []):= .func px0 px0
theorem Ay{n c pos:Nat}(h:pos≤n):POp.run (.slc .str true true false) [.str n c,.int .i64 0,.int .i64 (Int.ofNat pos)]=some (.str (Nat.sub pos 0) (Nat.mod (Nat.shiftRight c (Nat.mul 8 0)) (Nat.shiftLeft 1 (Nat.mul 8 (Nat.sub pos 0))))):=by
 have h1:Nat.ble pos n=true:=by simp [Nat.ble_eq];exact h
 have h0:Nat.ble 0 pos=true:=by cases pos<;>rfl
 show ob (oif (Nat.ble pos n) (some pos)) (fun h=>ob (oif (Nat.ble 0 h) (some 0)) fun l=>some (V.str (Nat.sub h l) (Nat.mod (Nat.shiftRight c (Nat.mul 8 l)) (Nat.shiftLeft 1 (Nat.mul 8 (Nat.sub h l))))))=_
 rw [h1]
 show ob (oif (Nat.ble 0 pos) (some 0)) (fun l=>some (V.str (Nat.sub pos l) (Nat.mod (Nat.shiftRight c (Nat.mul 8 l)) (Nat.shiftLeft 1 (Nat.mul 8 (Nat.sub pos l))))))=_
 rw [h0]
 rfl
set_option maxHeartbeats 2000000 in
theorem f132(n c:Nat)(hn:n<9223372036854775808):∃n' c' pos,Con Tryz.prog TP noM 132 [.ptr 1 0,.func (.func 133) [] []] (HB (scC n c 0)) (.str n' c') (HB (scC n c pos)):=by
 have px:=GO
 obtain⟨v,h',k,n',c',pos,rfl,rfl⟩:∃v h',Con Tryz.prog TP noM 132 [.ptr 1 0,.func (.func 133) [] []] (HB (scC n c 0)) v h'∧∃n' c' pos,v= .str n' c'∧h'=HB (scC n c pos):=by
  refine pJ Tryz.func132 (by decide) cf132_ok rfl rfl ?_
  repeat' (first
   |(refine WLg.mk ?_;first
   |refine aa rfl rfl rfl rfl ?_|refine ab rfl rfl rfl rfl ?_)
   |refine ah ?_|refine ac rfl ?_|refine ai ?_|refine ae ?_|refine aj ?_|refine bE.norm ?_|fail)
  refine av (rF zY (l:=fr132) (cs:=scC n c 0) KS rfl rfl rfl (gz rfl rfl rfl) (DJ n c 0)) ?_
  refine aw n (fun i x h=>x=fr132∧h=HB (scC n c i)) ?_ (i:=0) (Nat.zero_le _) ⟨rfl,rfl⟩
  rintro i _ _ hi ⟨rfl,rfl⟩
  repeat' (first
   |(refine WLg.mk ?_;first
   |refine aa rfl rfl rfl rfl ?_|refine ab rfl rfl rfl rfl ?_|refine aN rfl rfl rfl rfl rfl rfl rfl rfl rfl ?_)
   |(show WX _ _ _ _ _ _ _ _ _ _;first
   |refine aW rfl rfl rfl ?_|refine aU rfl rfl rfl ?_|refine aG rfl rfl (Ay hi) rfl ?_|refine aG rfl rfl rfl rfl ?_
   |refine aG rfl rfl (lL Hy) rfl ?_|refine aF rfl rfl rfl rfl ?_|refine aO rfl rfl rfl (f133 _) .none rfl ?_
   |(fail_if_success refine WX.gt rfl ?_);refine aY rfl rfl rfl (fun ht=>?_) (fun ht=>?_)
   |refine aI (by repeat' (first|exact bD.nil|refine bD.any (fun h=>rfl) ?_|refine bD.first rfl ?_|refine bD.first (dv Hy) ?_|refine bD.snd (dv Hy) ?_|refine bD.any (fun h=>dv Hy) ?_|refine bD.first (gq Hy) ?_|refine bD.snd (gq Hy) ?_|refine bD.any (fun h=>gq Hy) ?_|refine bD.first (gK Hy) ?_|refine bD.snd (gK Hy) ?_|refine bD.any (fun h=>gK Hy) ?_|refine bD.first (gU Hy) ?_|refine bD.snd (gU Hy) ?_|refine bD.any (fun h=>gU Hy) ?_|refine bD.first (ld_ex Hy rfl) ?_|refine bD.snd (ld_ex Hy rfl) ?_|refine bD.any (fun h=>ld_ex Hy rfl) ?_|refine bD.first (li Hy rfl) ?_|refine bD.snd (li Hy rfl) ?_|refine bD.any (fun h=>li Hy rfl) ?_|refine bD.first (eP Hy rfl) ?_|refine bD.snd (eP Hy rfl) ?_|refine bD.any (fun h=>eP Hy rfl) ?_|refine bD.first (oH Hy rfl) ?_|refine bD.snd (oH Hy rfl) ?_|refine bD.any (fun h=>oH Hy rfl) ?_|refine bD.first (eT Hy rfl) ?_|refine bD.snd (eT Hy rfl) ?_|refine bD.any (fun h=>eT Hy rfl) ?_|refine bD.first (d7 Hy rfl) ?_|refine bD.snd (d7 Hy rfl) ?_|refine bD.any (fun h=>d7 Hy rfl) ?_|refine bD.first (eA Hy rfl) ?_|refine bD.snd (eA Hy rfl) ?_|refine bD.any (fun h=>eA Hy rfl) ?_|refine bD.first (ey Hy rfl) ?_|refine bD.snd (ey Hy rfl) ?_|refine bD.any (fun h=>ey Hy rfl) ?_|refine bD.each (.cons rfl .nil) ?_|refine bD.each (.cons rfl (.cons rfl .nil)) ?_|refine bD.each (.cons rfl (.cons rfl (.cons rfl .nil))) ?_)) ?_)
   |refine ah ?_|refine ac rfl ?_|refine ai ?_|refine ae ?_|refine aj ?_|refine al ?_|refine aB rfl ?_
   |refine ak rfl (fun ht=>?_) (fun ht=>?_)|refine au ?_|refine ap ?_|refine aJ ?_|refine bE.norm ?_
   |refine bE.exit ?_|refine OnC.exit ?_|fail)
  ·have hb:=bK (by assumption:ltI (Int.ofNat i) (Int.ofNat n)=true)
   exact .norm ⟨_,_,rF zY (cs:=scC n c (i+1)) KS rfl rfl rfl (gz rfl (s9 Hy hn) rfl) (DJ n c (i+1)),hb,rfl,rfl⟩
  ·exact⟨.inr rfl,_,rfl,Nat.le_refl _,_,_,_,rfl,rfl⟩
  ·exact⟨.inr rfl,_,rfl,Nat.le_refl _,_,_,_,rfl,rfl⟩
 exact⟨_,_,_,k⟩
theorem f135(x:Int):cS 135 [.int .i32 x]:=by
 refine cA Tryz.func135 (by decide) cf135_ok rfl (bO (.flat rfl) px0) rfl ?_
 repeat' (first
  |(refine WLg.mk ?_;first
  |refine aa rfl rfl rfl rfl ?_)
  |refine ah ?_|refine ac rfl ?_|refine ax rfl rfl ?_|refine ay rfl (fun ht=>?_) (fun ht=>?_)|refine ai ?_
  |refine ae ?_|refine ap ?_|refine bE.norm ?_|exact⟨.inr rfl,_,rfl,.flat rfl,_,rfl⟩|fail)
noncomputable section
def fr164(n c:Nat):AL:=[(1,.func (.func 135) [] []),(2,.bool true),(10,.ptr 1 0)]
end
theorem AU:bN (.func (.func 135) [] []):= .func px0 px0
set_option maxHeartbeats 2000000 in
theorem f164(n c:Nat):vI 164 [.str n c,.func (.func 135) [] [],.bool true]:=by
 have px:=AU
 refine vm (cH Tryz.func164 (by decide) cf164_ok rfl (bO (.flat rfl) (bO px (bO (.flat rfl) px0))) rfl ?_)
 repeat' (first
  |(refine WLg.mk ?_;first
  |refine aa rfl rfl rfl rfl ?_|refine aE rfl rfl rfl rfl rfl ?_)
  |refine ah ?_|refine ac rfl ?_|refine ai ?_|refine ae ?_|refine aj ?_|refine bE.norm ?_|fail)
 refine av (xB (l:=fr164 n c) KS rfl rfl) ?_
 refine bB (fun k x h=>∃pos,k=n-pos∧x=fr164 n c∧h=HS n c pos) ?_ (k:=n-0) ⟨0,rfl,rfl,rfl⟩
 rintro _ _ _ ⟨pos,rfl,rfl,rfl⟩
 cases hb:Nat.blt pos n with
 |false=>
  repeat' (first
   |(refine WLg.mk ?_;first
   |refine aa rfl rfl rfl rfl ?_|refine aD rfl rfl (uG hb) rfl ?_)
   |refine ah ?_|refine ac rfl ?_|refine ai ?_|refine ae ?_|refine aB rfl ?_|refine au ?_|refine ap ?_
   |refine bE.norm ?_|refine bE.exit ?_|refine OnC.exit ?_|exact⟨.inr rfl,_,rfl,.flat rfl,_,rfl⟩|fail)
 |true=>
  repeat' (first
   |(refine WLg.mk ?_;first
   |refine aa rfl rfl rfl rfl ?_|refine aq rfl rfl rfl (f135 _) rfl ?_|refine aD rfl rfl (ye hb) rfl ?_)
   |refine ah ?_|refine ac rfl ?_|refine ai ?_|refine ae ?_|refine aj ?_|refine al ?_|refine aC rfl ?_
   |refine ak rfl (fun ht=>?_) (fun ht=>?_)|refine ap ?_|refine bE.norm ?_|refine bE.ret ?_|refine OnC.ret ?_
   |exact⟨.inr rfl,_,rfl,.flat rfl,_,rfl⟩|fail)
  all_goals exact .norm ⟨_,_,xB KS rfl rfl,n-(pos+(kc n c pos).2),by have:=bK hb;have:=yz n c pos;omega,pos+(kc n c pos).2,rfl,rfl,rfl⟩
theorem f155(n c:Nat):vI 155 [.str n c,.func (.func 135) [] []]:=by
 refine vm (cH Tryz.func155 (by decide) cf155_ok rfl (bO (.flat rfl) (bO AU px0)) rfl ?_)
 repeat' (first
  |(refine WLg.mk ?_;first
  |refine aa rfl rfl rfl rfl ?_|refine aq rfl rfl rfl (f164 _ _) rfl ?_)
  |refine ah ?_|refine ac rfl ?_|refine ai ?_|refine ae ?_|refine ap ?_|refine bE.norm ?_
  |exact⟨.inr rfl,_,rfl,.flat rfl,_,rfl⟩|fail)
theorem f134(n c:Nat):cS 134 [.str n c,.func (.func 135) [] []]:=by
 refine cA Tryz.func134 (by decide) cf134_ok rfl (bO (.flat rfl) (bO AU px0)) rfl ?_
 repeat' (first
  |(refine WLg.mk ?_;first
  |refine aa rfl rfl rfl rfl ?_|refine aq rfl rfl rfl (f155 _ _) rfl ?_)
  |refine ah ?_|refine ac rfl ?_|refine ai ?_|refine ae ?_|refine ap ?_|refine bE.norm ?_
  |exact⟨.inr rfl,_,rfl,.flat rfl,_,rfl⟩|fail)
noncomputable section
def tkC(k n c:Nat):List V:=[.int .i64 (Int.ofNat k),.str n c,.int .u64 0,.int .i64 0]
end
theorem xE(k n c:Nat):∀v,v∈tkC k n c→bN v:=bO (.flat rfl) (bO (.flat rfl) (bO (.flat rfl) (bO (.flat rfl) px0)))
set_option maxHeartbeats 2000000 in
theorem f111s(n c:Nat):cS 111 [.agg (tkC 4 n c)]:=by
 refine cA Tryz.func111 (by decide) cf111_ok rfl (bO (.agg (xE 4 n c)) px0) rfl ?_
 have px:=xE 4 n c
 repeat' (first
  |(refine WLg.mk ?_;first
  |refine aa rfl rfl rfl rfl ?_|refine ab rfl rfl rfl rfl ?_|refine az rfl rfl rfl rfl px rfl ?_
  |refine aq rfl rfl rfl (f134 _ _) rfl ?_)
  |refine ah ?_|refine ac rfl ?_|refine ai ?_|refine ae ?_|refine aj ?_|refine al ?_|refine aC rfl ?_
  |refine aB rfl ?_|refine ap ?_|refine bE.norm ?_|refine bE.ret ?_|exact⟨.inr rfl,_,rfl,.flat rfl,_,rfl⟩|fail)
end
section
set_option maxHeartbeats 4000000 in
theorem f111v(n c:Nat)(hn:n<9223372036854775808)(h0:dJ n c 0 0=false→Nat.blt 0 n=true):cS 111 [.agg (tkC 2 n c)]:=by
 refine cA Tryz.func111 (by decide) cf111_ok rfl (bO (.agg (xE 2 n c)) px0) rfl ?_
 have px:=xE 2 n c
 obtain⟨n',c',pos,c132⟩:=f132 n c hn
 have h1:(!dJ n c 0 0)=true→Nat.blt 0 n=true:=fun h=>h0 (by cases q:dJ n c 0 0 with|true=>rw [q]at h;cases h|false=>rfl)
 repeat' (first
  |(refine WLg.mk ?_;first
  |refine aa rfl rfl rfl rfl ?_|refine ab rfl rfl rfl rfl ?_|refine az rfl rfl rfl rfl px rfl ?_|refine aE rfl rfl rfl rfl rfl ?_
  |refine aL rfl rfl rfl rfl rfl rfl rfl rfl rfl ?_)
  |(show WX _ _ _ _ _ _ _ _ _ _;first
  |refine aW rfl rfl rfl ?_|refine aU rfl rfl rfl ?_|refine aG rfl rfl (lL (i:=0) (h1 Hy)) rfl ?_
  |refine aG rfl rfl rfl rfl ?_|refine aF rfl rfl rfl rfl ?_|refine aR rfl rfl rfl (c132) .none rfl ?_
  |(fail_if_success refine WX.gt rfl ?_);refine aY rfl rfl rfl (fun ht=>?_) (fun ht=>?_)
  |refine aI (by repeat' (first|exact bD.nil|refine bD.any (fun h=>rfl) ?_|refine bD.first rfl ?_|refine bD.first (dv Hy) ?_|refine bD.snd (dv Hy) ?_|refine bD.any (fun h=>dv Hy) ?_|refine bD.first (gq Hy) ?_|refine bD.snd (gq Hy) ?_|refine bD.any (fun h=>gq Hy) ?_|refine bD.first (gK Hy) ?_|refine bD.snd (gK Hy) ?_|refine bD.any (fun h=>gK Hy) ?_|refine bD.first (gU Hy) ?_|refine bD.snd (gU Hy) ?_|refine bD.any (fun h=>gU Hy) ?_|refine bD.first (ld_ex Hy rfl) ?_|refine bD.snd (ld_ex Hy rfl) ?_|refine bD.any (fun h=>ld_ex Hy rfl) ?_|refine bD.first (li Hy rfl) ?_|refine bD.snd (li Hy rfl) ?_|refine bD.any (fun h=>li Hy rfl) ?_|refine bD.first (eP Hy rfl) ?_|refine bD.snd (eP Hy rfl) ?_|refine bD.any (fun h=>eP Hy rfl) ?_|refine bD.first (oH Hy rfl) ?_|refine bD.snd (oH Hy rfl) ?_|refine bD.any (fun h=>oH Hy rfl) ?_|refine bD.first (eT Hy rfl) ?_|refine bD.snd (eT Hy rfl) ?_|refine bD.any (fun h=>eT Hy rfl) ?_|refine bD.first (d7 Hy rfl) ?_|refine bD.snd (d7 Hy rfl) ?_|refine bD.any (fun h=>d7 Hy rfl) ?_|refine bD.first (eA Hy rfl) ?_|refine bD.snd (eA Hy rfl) ?_|refine bD.any (fun h=>eA Hy rfl) ?_|refine bD.first (ey Hy rfl) ?_|refine bD.snd (ey Hy rfl) ?_|refine bD.any (fun h=>ey Hy rfl) ?_|refine bD.each (.cons rfl .nil) ?_|refine bD.each (.cons rfl (.cons rfl .nil)) ?_|refine bD.each (.cons rfl (.cons rfl (.cons rfl .nil))) ?_)) ?_)
  |refine ah ?_|refine ac rfl ?_|refine ai ?_|refine ae ?_|refine aj ?_|refine al ?_|refine aC rfl ?_
  |refine aB rfl ?_|refine ap ?_|refine aJ ?_|refine bE.norm ?_|refine bE.ret ?_
  |exact⟨.inr rfl,_,rfl,.flat rfl,_,rfl⟩|fail)
theorem f79(n c:Nat)(hn:n<9223372036854775808)(h0:dJ n c 0 0=false→Nat.blt 0 n=true):cS 79 [.str n c]:=by
 refine cA Tryz.func79 (by decide) cf79_ok rfl (bO (.flat rfl) px0) rfl ?_
 repeat' (first
  |(refine WLg.mk ?_;first
  |refine aa rfl rfl rfl rfl ?_|refine aq rfl rfl rfl (f111v n c hn h0) rfl ?_)
  |refine ah ?_|refine ac rfl ?_|refine ax rfl rfl ?_|refine ay rfl (fun ht=>?_) (fun ht=>?_)|refine ai ?_
  |refine ae ?_|refine ap ?_|refine bE.norm ?_|exact⟨.inr rfl,_,rfl,.flat rfl,_,rfl⟩|fail)
theorem G9(s:ByteArray):dJ s.size (bT s.data.toList) 0 0=false→Nat.blt 0 s.size=true:=by
 intro h
 refine ltb ?_
 rcases Nat.eq_zero_or_pos s.size with q|q
 ·have hl:s.data.toList=[]:=by
   have:s.data.toList.length=0:=by rw [Array.length_toList];exact q
   exact List.length_eq_zero_iff.1 this
  rw [hl,q]at h
  cases h
 ·exact q
theorem f79s(s:ByteArray)(hn:s.size<9223372036854775808):cS 79 [sV s]:=f79 _ _ hn (G9 s)
end
section
def OkR(size:Nat)(m r:Int):Prop:=r≤m∧-1≤r∧(0≤r→(size:Int)≤1000*(m-r))
noncomputable section
def fr38(l:List Ex)(cur:Int)(i:Nat):AL:=[(0,.lst l.length 11 (exL l)),(1,.int .i64 cur),(4,.int .i64 0),(5,.int .i64 (Int.ofNat i))]
def fr38s(l:List Ex)(x:Ex)(cur:Int)(i k:Nat):AL:=[(0,.lst l.length 11 (exL l)),(1,.int .i64 cur),(4,.int .i64 0),(5,.int .i64 (Int.ofNat i)),(6,.eptr (exO x) 0),(7,.int .i64 (Int.ofNat k))]
def fr39(l:List Sm)(cur:Int)(i:Nat):AL:=[(0,.lst l.length 23 (smL l)),(1,.int .i64 cur),(4,.int .i64 0),(5,.int .i64 (Int.ofNat i))]
def fr19(l:List Cl)(cur:Int)(i:Nat):AL:=[(0,.lst l.length 4 (clL l)),(1,.int .i64 cur),(4,.int .i64 0),(5,.int .i64 (Int.ofNat i))]
def fr19g(l:List Cl)(cur:Int)(i k:Nat):AL:=[(0,.lst l.length 4 (clL l)),(1,.int .i64 cur),(4,.int .i64 0),(5,.int .i64 (Int.ofNat i)),(6,.int .i64 (Int.ofNat k))]
end
theorem DC{m:Int}(h1: -1≤m)(h2:m≤4000):cZ .i64 (Int.sub m 1)=m-1:=by
 have key:∀n:Nat,n<4010→cZ .i64 (Int.ofNat n-5)=Int.ofNat n-5:=by
  intro n hn
  rcases Nat.lt_or_ge n 5 with h|h
  ·have:n=0∨n=1∨n=2∨n=3∨n=4:=by omega
   rcases this with rfl|rfl|rfl|rfl|rfl<;>rfl
  ·have e:Int.ofNat n-5=Int.ofNat (n-5):=by simp;omega
   rw [e]
   show(Bool.rec (motive:=fun _=>Int) (jP .i64 (Nat.mod (n-5) (gE .i64))) (Int.ofNat (n-5)) (Nat.blt (n-5) (iB .i64)):Int)=_
   rw [show Nat.blt (n-5) (iB .i64)=true by simp [Nat.blt,iB];omega]
 have:=key (m+4).toNat (by omega)
 have e:Int.ofNat (m+4).toNat-5=m-1:=by simp;omega
 rw [e]at this
 exact this
theorem ir{α:Type}{f:α→List V}{g:List α→List V}(hn:g []=[])(hc:∀a l,g (a ::l)=f a++g l):∀(l:List α) (i:Nat) (x:α),l[i]? =some x→bF (g (l.take (i+1)))=bF (g (l.take i))+bF (f x)
 |[],i,x,h=>by simp at h
 |a ::l,0,x,h=>by
  simp at h
  subst h
  simp only [List.take_succ_cons,List.take_zero]
  rw [hc,hn,List.append_nil]
  simp [bF]
 |a ::l,i+1,x,h=>by
  have:=ir hn hc l i x (by simpa using h)
  rw [List.take_succ_cons,List.take_succ_cons,hc,hc,bY,bY,this,Nat.add_assoc]
theorem fO{l:List Ex}{i:Nat}(h:i<l.length):bF (exL (l.take (i+1)))=bF (exL (l.take i))+bF (exO (bW l i)):=ir (by rw [exL]) cN l i _ (cV (d:=ex0) (ltb h))
theorem pV{l:List Sg}{i:Nat}(h:i<l.length):bF (sgL (l.take (i+1)))=bF (sgL (l.take i))+bF (sgO (ce l i)):=ir (by rw [sgL]) i5 l i _ (cV (ltb h))
theorem mB{l:List Cl}{i:Nat}(h:i<l.length):bF (clL (l.take (i+1)))=bF (clL (l.take i))+bF (clO (bL l i)):=ir (by rw [clL]) eJ l i _ (cV (ltb h))
theorem sJ{l:List Sm}{i:Nat}(h:i<l.length):bF (smL (l.take (i+1)))=bF (smL (l.take i))+bF (smO (cC l i)):=ir (by rw [smL]) gO l i _ (cV (ltb h))
theorem wA{l:List (List Ex)}{i:Nat}(h:i<l.length):bF (gdL (l.take (i+1)))=bF (gdL (l.take i))+(1+bF (exL (dm l i))):=by
 have:=ir (g:=gdL) (f:=fun x=>[V.lst x.length 11 (exL x)]) (by rw [gdL]) (fun a l=>by first|(rw [gdL];done)|(rw [gdL];rfl)) l i _ (cV (d:=[]) (ltb h))
 rw [this]
 simp [bF,szV]
 rfl
theorem BG(x y:Ex):exL [x,y]=exO x++(exO y++[]):=by rw [cN,cN,exL]
theorem yy(x y:Ex):∀c,c∈exO x++(exO y++[])→bN c:=by
 rw [←BG]
 exact fun c hc=>(iC _ c hc).x
theorem dB{i:Nat}(h:i<9223372036854775807):some (V.int .i64 (cZ .i64 (Int.add (Int.ofNat i) 1)))=some (V.int .i64 (Int.ofNat (i+1))):=by
 show some (V.int .i64 (cZ .i64 (Int.add (Int.ofNat i) (Int.ofNat 1))))=_
 rw [iT h]
theorem KI{f l:AL}(h:rk f l:=by repeat' (first|exact .nil|refine .cons rfl ?_ ?_|refine .cons (dB Hy) ?_ ?_|exact PX)):rk f l:=h
theorem KSI{f l:AL}(h:jw f l:=by repeat' (first|exact .nil|refine .it rfl ?_|refine .cons rfl ?_ ?_|refine .cons (dB Hy) ?_ ?_|exact PX)):jw f l:=h
theorem qw{a:Int}(h:(!ltI a 0)=false):¬0≤a:=by
 rw [fk]at h
 simp at h
 omega
theorem E3{α:Type}[Inhabited α]{p:Prop}{Q:α→Prop}(h:p→∃r,Q r):∃r,p→Q r:=by
 classical
 by_cases k:p
 ·obtain⟨r,q⟩:=h k
  exact⟨r,fun _=>q⟩
 ·exact⟨default,fun q=>absurd q k⟩
theorem pB{c:Nat}{m:Int}(h: -1≤m):OkR c m (-1):=⟨h,Int.le_refl _,fun q=>by omega⟩
theorem jg{a:Int}(h:(!ltI a 0)=true):0≤a:=by
 rw [fk]at h
 simp at h
 exact h
theorem mR{n i:Nat}{m cur:Int}{g:Nat→Nat}{c:Nat}(hg:¬(i<n∧0≤cur))(hi:i≤n)(q1: -1≤cur)(q2:(i:Int)≤m-cur)(q3:0≤cur→(g i:Int)≤1000*(m-cur))(he:g n=c):OkR c m cur:=
 ⟨by omega,q1,fun h=>by
  have:i=n:=by omega
  subst this
  rw [←he]
  exact q3 h⟩
structure Sz(s:Nat):Prop where
 ex:∀l,bF (exL l)<s→∀m:Int,-1≤m→m≤4000→∃r,ck Tryz.prog TP 38 [.lst l.length 11 (exL l),.int .i64 m] (.int .i64 r)∧OkR (bF (exL l)+350*l.length) m r
 cl:∀l,bF (clL l)<s→∀m:Int,-1≤m→m≤4000→∃r,ck Tryz.prog TP 19 [.lst l.length 4 (clL l),.int .i64 m] (.int .i64 r)∧OkR (bF (clL l)+500*l.length) m r
 sm:∀l,bF (smL l)<s→∀m:Int,-1≤m→m≤4000→∃r,ck Tryz.prog TP 39 [.lst l.length 23 (smL l),.int .i64 m] (.int .i64 r)∧OkR (bF (smL l)) m r
theorem Sz.one{s:Nat}(R:Sz s){p:Prop}(l:List Ex)(m:Int)(h:p→bF (exL l)<s∧0≤m∧m≤4000):∃r,p→ck Tryz.prog TP 38 [.lst l.length 11 (exL l),.int .i64 (cZ .i64 (Int.sub m 1))] (.int .i64 r)∧OkR (bF (exL l)+350*l.length) (m-1) r:=by
 refine E3 fun k=>?_
 obtain⟨k1,k2,k3⟩:=h k
 rw [DC (by omega) (by omega)]
 exact R.ex l k1 (m-1) (by omega) (by omega)
theorem Sz.two{s:Nat}(R:Sz s){p:Prop}(x y:Ex)(m:Int)(h:p→bF (exO x)+bF (exO y)<s∧0≤m∧m≤4000):∃r,p→ck Tryz.prog TP 38 [.lst 2 11 (exO x++(exO y++[])),.int .i64 m] (.int .i64 r)∧OkR (bF (exO x)+bF (exO y)+700) m r:=by
 refine E3 fun k=>?_
 obtain⟨k1,k2,k3⟩:=h k
 have e2:bF (exL [x,y])=bF (exO x)+bF (exO y):=by rw [cN,cN,exL,bY,bY,bF,Nat.add_zero]
 have:=R.ex [x,y] (by rw [e2];omega) m (by omega) (by omega)
 rw [BG,show bF (exO x++(exO y++[]))=bF (exO x)+bF (exO y) by rw [←BG];exact e2]at this
 exact this
theorem j7{n:Nat}(h:ltI 300 (Int.ofNat n)=false):n≤300:=by
 rw [fk]at h
 simp at h
 omega
set_option maxHeartbeats 2000000 in
theorem Au{s:Nat}(R:Sz s)(l:List Sm)(hl:bF (smL l)<s+1)(m:Int)(h1: -1≤m)(h2:m≤4000):∃r,ck Tryz.prog TP 39 [.lst l.length 23 (smL l),.int .i64 m] (.int .i64 r)∧OkR (bF (smL l)) m r:=by
 obtain⟨v,c,r,rfl,ok⟩:∃v,ck Tryz.prog TP 39 [.lst l.length 23 (smL l),.int .i64 m] v∧∃r,v= .int .i64 r∧OkR (bF (smL l)) m r:=by
  refine cH Tryz.func39 (by decide) cf39_ok rfl (bO (pxM l) (bO (.flat rfl) px0)) rfl ?_
  repeat' (first
   |(refine WLg.mk ?_;first
   |refine aa rfl rfl rfl rfl ?_)
   |refine ah ?_|refine ac rfl ?_|refine ai ?_|refine ae ?_|refine aj ?_|refine bE.norm ?_|fail)
  refine av (cy (l:=fr39 l m 0) KT rfl) ?_
  refine aw l.length (fun i x h=>(∃cur:Int,x=fr39 l cur i∧-1≤cur∧(i:Int)≤m-cur∧(0≤cur→(bF (smL (l.take i)):Int)≤1000*(m-cur)))∧h=H0) ?_ (i:=0) (Nat.zero_le _) ⟨⟨m,rfl,h1,by simp,fun _=>by simp [smL,bF]⟩,rfl⟩
  rintro i _ _ hi ⟨⟨cur,rfl,q1,q2,q3⟩,rfl⟩
  by_cases hg:i<l.length∧0≤cur
  ·obtain⟨hlt,h0⟩:=hg
   have hle:=xK (ltb hlt)
   have hsz:=lU (cC l i)
   have hpre:=sJ hlt
   have hi2:i<9223372036854775807:=by omega
   have e2:bF (exL [(cC l i).pat,(cC l i).val])=bF (exO (cC l i).pat)+bF (exO (cC l i).val):=by rw [cN,cN,exL,bY,bY,bF,Nat.add_zero]
   obtain⟨r1,c1,o1,o2,o3⟩:=R.ex [(cC l i).pat,(cC l i).val] (by rw [e2];omega) cur (by omega) (by omega)
   simp only [List.length_cons,List.length_nil]at o3
   have hk:r1≤cur-1:=by
    rcases (by omega:r1= -1∨0≤r1)with q|q
    ·omega
    ·have:=o3 q;omega
   rw [BG]at c1
   have px:=yy (cC l i).pat (cC l i).val
   repeat' (first
    |(refine WLg.mk ?_;first
    |refine aa rfl rfl rfl rfl ?_)
    |(show WX _ _ _ _ _ _ _ _ _ _;first
    |refine aG rfl rfl rfl rfl ?_|refine aG rfl rfl (bM Hy) rfl ?_|refine aF rfl rfl (eA Hy rfl) rfl ?_
    |refine aF rfl rfl (ey Hy rfl) rfl ?_
    |refine WX.bsl (cl:=exO (cC l i).pat++(exO (cC l i).val++[])) rfl rfl rfl rfl rfl rfl px rfl ?_
    |refine aO rfl rfl rfl (c1) .none rfl ?_
    |refine aI (by repeat' (first|exact bD.nil|refine bD.any (fun h=>rfl) ?_|refine bD.first rfl ?_|refine bD.first (eA Hy rfl) ?_|refine bD.snd (eA Hy rfl) ?_|refine bD.any (fun h=>eA Hy rfl) ?_|refine bD.first (ey Hy rfl) ?_|refine bD.snd (ey Hy rfl) ?_|refine bD.any (fun h=>ey Hy rfl) ?_|refine bD.each (.cons rfl .nil) ?_|refine bD.each (.cons rfl (.cons rfl .nil)) ?_|refine bD.each (.cons rfl (.cons rfl (.cons rfl .nil))) ?_)) ?_)
    |refine ah ?_|refine ac rfl ?_|refine ax rfl rfl ?_|refine ay rfl (fun ht=>?_) (fun ht=>?_)|refine ai ?_
    |refine ae ?_|refine aj ?_|refine al ?_|refine aB rfl ?_|refine ak rfl (fun ht=>?_) (fun ht=>?_)
    |refine au ?_|refine ap ?_|refine aJ ?_|refine bE.norm ?_|refine bE.exit ?_|refine OnC.exit ?_|fail)
   ·exact .norm ⟨_,_,cy KI rfl,hlt,⟨r1,rfl,o2,by omega,fun h=>by have:=o3 h;omega⟩,rfl⟩
   ·rw [fk]at ht;simp at ht;omega
   ·have:=ci ht;omega
  ·skip
   repeat' (first
    |(refine WLg.mk ?_;first
    |refine aa rfl rfl rfl rfl ?_)
    |refine ah ?_|refine ac rfl ?_|refine ax rfl rfl ?_|refine ay rfl (fun ht=>?_) (fun ht=>?_)|refine ai ?_
    |refine ae ?_|refine aj ?_|refine al ?_|refine aB rfl ?_|refine ak rfl (fun ht=>?_) (fun ht=>?_)
    |refine au ?_|refine ap ?_|refine bE.norm ?_|refine bE.exit ?_|refine OnC.exit ?_|fail)
   all_goals first
    |exact absurd ⟨bK Hy,jg Hy⟩ hg
    |exact⟨.inr rfl,_,rfl,.flat rfl,cur,rfl,mR (g:=fun i=>bF (smL (l.take i))) hg hi q1 q2 q3 (by rw [List.take_length])⟩
 exact⟨r,c,ok⟩
set_option maxHeartbeats 4000000 in
theorem Aw{s:Nat}(R:Sz s)(l:List Cl)(hl:bF (clL l)<s+1)(m:Int)(h1: -1≤m)(h2:m≤4000):∃r,ck Tryz.prog TP 19 [.lst l.length 4 (clL l),.int .i64 m] (.int .i64 r)∧OkR (bF (clL l)+500*l.length) m r:=by
 obtain⟨v,c,r,rfl,ok⟩:∃v,ck Tryz.prog TP 19 [.lst l.length 4 (clL l),.int .i64 m] v∧∃r,v= .int .i64 r∧OkR (bF (clL l)+500*l.length) m r:=by
  refine cH Tryz.func19 (by decide) cf19_ok rfl (bO (pxC l) (bO (.flat rfl) px0)) rfl ?_
  repeat' (first
   |(refine WLg.mk ?_;first
   |refine aa rfl rfl rfl rfl ?_)
   |refine ah ?_|refine ac rfl ?_|refine ai ?_|refine ae ?_|refine aj ?_|refine bE.norm ?_|fail)
  refine av (cy (l:=fr19 l m 0) KT rfl) ?_
  refine aw l.length (fun i x h=>(∃cur:Int,x=fr19 l cur i∧-1≤cur∧(i:Int)≤m-cur∧(0≤cur→(bF (clL (l.take i))+500*i:Int)≤1000*(m-cur)))∧h=H0) ?_ (i:=0) (Nat.zero_le _) ⟨⟨m,rfl,h1,by simp,fun _=>by simp [clL,bF]⟩,rfl⟩
  rintro i _ _ hi ⟨⟨cur,rfl,q1,q2,q3⟩,rfl⟩
  obtain⟨r1,hr⟩:=R.one (p:=i<l.length∧0≤cur) (bL l i).pats cur fun h=>by
   have hle:=jr (ltb h.1)
   have hsz:=ff (bL l i)
   omega
  repeat' (first
   |(refine WLg.mk ?_;first
   |refine aa rfl rfl rfl rfl ?_|refine aa rfl rfl (bM Hy) rfl ?_|refine ab rfl rfl (eP Hy rfl) rfl ?_
   |refine aq rfl rfl rfl ((hr ⟨bK Hy,jg Hy⟩).1) rfl ?_)
   |refine ah ?_|refine ac rfl ?_|refine ax rfl rfl ?_|refine ay rfl (fun ht=>?_) (fun ht=>?_)|refine ai ?_
   |refine ae ?_|refine aj ?_|refine al ?_|refine aB rfl ?_|refine ak rfl (fun ht=>?_) (fun ht=>?_)
   |refine au ?_|refine ap ?_|refine bE.norm ?_|refine bE.ret ?_|refine bE.exit ?_|refine OnC.ret ?_|refine OnC.exit ?_
   |fail)
  ·exact⟨.inr rfl,_,rfl,.flat rfl,-1,rfl,pB h1⟩
  ·have hlt:=bK (by assumption:ltI (Int.ofNat i) (Int.ofNat l.length)=true)
   have h0:=jg (by assumption:(!ltI cur 0)=true)
   have hnm:ltI 300 (Int.ofNat (bL l i).name.size)=false:=by assumption
   rw [fk]at hnm
   have hnm:(bL l i).name.size≤300:=by simp at hnm;omega
   have hb:=ltb hlt
   have hle:=jr hb
   have hsz:=ff (bL l i)
   have hpre:=mB hlt
   obtain⟨o1,o2,o3⟩:=(hr ⟨hlt,h0⟩).2
   have hi2:i<9223372036854775807:=by omega
   clear hr
   refine av (cy (l:=fr19g l r1 i 0) KT rfl) ?_
   refine aw (bL l i).guards.length (fun k x h=>(∃cur2:Int,x=fr19g l cur2 i k∧-1≤cur2∧(k:Int)≤r1-cur2∧(0≤cur2→(bF (gdL ((bL l i).guards.take k)):Int)≤1000*(r1-cur2)))∧h=H0) ?_ (i:=0) (Nat.zero_le _) ⟨⟨r1,rfl,o2,by simp,fun _=>by simp [gdL,bF]⟩,rfl⟩
   rintro k _ _ hk ⟨⟨cur2,rfl,p1,p2,p3⟩,rfl⟩
   have hk2:k<9223372036854775807:=by omega
   obtain⟨r2,hr2⟩:=R.one (p:=k<(bL l i).guards.length∧0≤cur2) (dm (bL l i).guards k) cur2 fun h=>by
    have hg:=yn (ltb h.1)
    omega
   obtain⟨r3,c3,o31,o32,o33⟩:=R.sm (bL l i).body (by omega) cur2 (by omega) (by omega)
   repeat' (first
    |(refine WLg.mk ?_;first
    |refine aa rfl rfl rfl rfl ?_|refine aa rfl rfl (bM Hy) rfl ?_|refine ab rfl rfl (eP hb rfl) rfl ?_
    |refine ab rfl rfl (d5 (j:=0) (qF Hy) rfl _) rfl ?_
    |refine aq rfl rfl rfl ((hr2 ⟨bK Hy,jg Hy⟩).1) rfl ?_
    |refine aq rfl rfl rfl (c3) rfl ?_)
    |refine ah ?_|refine ac rfl ?_|refine ax rfl rfl ?_|refine ay rfl (fun ht=>?_) (fun ht=>?_)|refine ai ?_
    |refine ae ?_|refine aj ?_|refine al ?_|refine aB rfl ?_|refine ak rfl (fun ht=>?_) (fun ht=>?_)
    |refine au ?_|refine bE.norm ?_|refine bE.exit ?_|refine OnC.exit ?_|fail)
   ·have hklt:=bK (by assumption:ltI (Int.ofNat k) (Int.ofNat (bL l i).guards.length)=true)
    obtain⟨o21,o22,o23⟩:=(hr2 ⟨hklt,jg Hy⟩).2
    have hgp:=wA hklt
    exact .norm ⟨_,_,cy KI rfl,hklt,⟨r2,rfl,o22,by omega,fun h=>by have:=o23 h;have:=p3 (by omega);omega⟩,rfl⟩
   ·have hc:¬0≤cur2:=qw Hy
    exact .norm ⟨_,_,cy KI rfl,hlt,⟨r3,rfl,o32,by omega,fun h=>by omega⟩,rfl⟩
   ·have hk3:k=(bL l i).guards.length:=by have:=ci (by assumption:ltI (Int.ofNat k) (Int.ofNat (bL l i).guards.length)=false);omega
    rw [hk3,List.take_length]at p3
    exact .norm ⟨_,_,cy KI rfl,hlt,⟨r3,rfl,o32,by omega,fun h=>by have:=o33 h;have:=p3 (by omega);have:=o3 (by omega);have:=q3 (by omega);omega⟩,rfl⟩
  ·have hc:¬0≤cur:=qw Hy
   exact⟨.inr rfl,_,rfl,.flat rfl,cur,rfl,mR (g:=fun i=>bF (clL (l.take i))+500*i) (fun q=>hc q.2) hi q1 q2 (fun q=>by have:=q3 q;omega) (by rw [List.take_length])⟩
  ·have hc:=ci (by assumption:ltI (Int.ofNat i) (Int.ofNat l.length)=false)
   exact⟨.inr rfl,_,rfl,.flat rfl,cur,rfl,mR (g:=fun i=>bF (clL (l.take i))+500*i) (fun q=>by have:=q.1;omega) hi q1 q2 (fun q=>by have:=q3 q;omega) (by rw [List.take_length])⟩
 exact⟨r,c,ok⟩
set_option maxHeartbeats 4000000 in
theorem Av{s:Nat}(R:Sz s)(l:List Ex)(hl:bF (exL l)<s+1)(m:Int)(h1: -1≤m)(h2:m≤4000):∃r,ck Tryz.prog TP 38 [.lst l.length 11 (exL l),.int .i64 m] (.int .i64 r)∧OkR (bF (exL l)+350*l.length) m r:=by
 obtain⟨v,c,r,rfl,ok⟩:∃v,ck Tryz.prog TP 38 [.lst l.length 11 (exL l),.int .i64 m] v∧∃r,v= .int .i64 r∧OkR (bF (exL l)+350*l.length) m r:=by
  refine cH Tryz.func38 (by decide) cf38_ok rfl (bO (pxE l) (bO (.flat rfl) px0)) rfl ?_
  repeat' (first
   |(refine WLg.mk ?_;first
   |refine aa rfl rfl rfl rfl ?_)
   |refine ah ?_|refine ac rfl ?_|refine ai ?_|refine ae ?_|refine aj ?_|refine bE.norm ?_|fail)
  refine av (cy (l:=fr38 l m 0) KT rfl) ?_
  refine aw l.length (fun i x h=>(∃cur:Int,x=fr38 l cur i∧-1≤cur∧(i:Int)≤m-cur∧(0≤cur→(bF (exL (l.take i))+350*i:Int)≤1000*(m-cur)))∧h=H0) ?_ (i:=0) (Nat.zero_le _) ⟨⟨m,rfl,h1,by simp,fun _=>by simp [exL,bF]⟩,rfl⟩
  rintro i _ _ hi ⟨⟨cur,rfl,q1,q2,q3⟩,rfl⟩
  obtain⟨r1,hr⟩:=R.one (p:=i<l.length∧0≤cur) (bW l i).items cur fun h=>by
   have hle:=sk (ltb h.1)
   have hsz:=dL (bW l i)
   omega
  repeat' (first
   |(refine WLg.mk ?_;first
   |refine aa rfl rfl rfl rfl ?_|refine aa rfl rfl (bM Hy) rfl ?_|refine ab rfl rfl rfl rfl ?_
   |refine ab rfl rfl (dv Hy) rfl ?_
   |refine aA rfl rfl RA rfl rfl rfl rfl rfl rfl rfl RA PB rfl rfl ?_
   |refine aq rfl rfl rfl ((hr ⟨bK Hy,jg Hy⟩).1) rfl ?_)
   |refine ah ?_|refine ac rfl ?_|refine ax rfl rfl ?_|refine ay rfl (fun ht=>?_) (fun ht=>?_)|refine ai ?_
   |refine ae ?_|refine aj ?_|refine al ?_|refine aC rfl ?_|refine aB rfl ?_
   |refine ak rfl (fun ht=>?_) (fun ht=>?_)|refine au ?_|refine ap ?_|refine bE.norm ?_|refine bE.ret ?_
   |refine bE.exit ?_|refine OnC.ret ?_|refine OnC.exit ?_|fail)
  ·exact⟨.inr rfl,_,rfl,.flat rfl,-1,rfl,pB h1⟩
  ·exact⟨.inr rfl,_,rfl,.flat rfl,-1,rfl,pB h1⟩
  ·have hlt:=bK (by assumption:ltI (Int.ofNat i) (Int.ofNat l.length)=true)
   have h0:=jg (by assumption:(!ltI cur 0)=true)
   have hnm:=j7 (by assumption:ltI 300 (Int.ofNat (bW l i).name.size)=false)
   have htx:=j7 (by assumption:ltI 300 (Int.ofNat (bW l i).text.size)=false)
   have hb:=ltb hlt
   have hle:=sk hb
   have hsz:=dL (bW l i)
   have hpre:=fO hlt
   obtain⟨o1,o2,o3⟩:=(hr ⟨hlt,h0⟩).2
   have hi2:i<9223372036854775807:=by omega
   clear hr
   refine av (cy (l:=fr38s l (bW l i) r1 i 0) KT rfl) ?_
   refine aw (bW l i).segs.length (fun k x h=>(∃cur2:Int,x=fr38s l (bW l i) cur2 i k∧-1≤cur2∧(k:Int)≤r1-cur2∧(0≤cur2→(bF (sgL ((bW l i).segs.take k)):Int)≤1000*(r1-cur2)))∧h=H0) ?_ (i:=0) (Nat.zero_le _) ⟨⟨r1,rfl,o2,by simp,fun _=>by simp [sgL,bF]⟩,rfl⟩
   rintro k _ _ hk ⟨⟨cur2,rfl,p1,p2,p3⟩,rfl⟩
   have hk2:k<9223372036854775807:=by omega
   obtain⟨r2,hr2⟩:=R.two (p:=k<(bW l i).segs.length∧0≤cur2) (ce (bW l i).segs k).val (ce (bW l i).segs k).size cur2 fun h=>by
    have:=ul (ltb h.1)
    have:=kJ (ce (bW l i).segs k)
    omega
   have px:=yy (ce (bW l i).segs k).val (ce (bW l i).segs k).size
   obtain⟨r3,c3,o31,o32,o33⟩:=R.cl (bW l i).clauses (by omega) cur2 (by omega) (by omega)
   obtain⟨r4,c4,o41,o42,o43⟩:=R.cl (bW l i).catches (by omega) r3 (by omega) (by omega)
   obtain⟨r5,c5,o51,o52,o53⟩:=R.sm (bW l i).body (by omega) r4 (by omega) (by omega)
   obtain⟨r6,c6,o61,o62,o63⟩:=R.sm (bW l i).after (by omega) r5 (by omega) (by omega)
   repeat' (first
    |(refine WLg.mk ?_;first
    |refine aa rfl rfl rfl rfl ?_|refine aa rfl rfl (bM Hy) rfl ?_|refine ab rfl rfl (li Hy rfl) rfl ?_
    |refine ab rfl rfl rfl rfl ?_)
    |(show WX _ _ _ _ _ _ _ _ _ _;first
    |refine aG rfl rfl rfl rfl ?_|refine aG rfl rfl (bM Hy) rfl ?_|refine aF rfl rfl (eT Hy rfl) rfl ?_
    |refine aF rfl rfl (d7 Hy rfl) rfl ?_|refine aF rfl rfl rfl rfl ?_
    |refine WX.bsl (cl:=exO (ce (bW l i).segs k).val++(exO (ce (bW l i).segs k).size++[])) rfl rfl rfl rfl rfl rfl px rfl ?_
    |refine aO rfl rfl rfl ((hr2 ⟨bK Hy,jg Hy⟩).1) .none rfl ?_
    |refine aO rfl rfl rfl (c3) .none rfl ?_|refine aO rfl rfl rfl (c4) .none rfl ?_|refine aO rfl rfl rfl (c5) .none rfl ?_
    |refine aO rfl rfl rfl (c6) .none rfl ?_
    |refine aI (by repeat' (first|exact bD.nil|refine bD.any (fun h=>rfl) ?_|refine bD.first rfl ?_|refine bD.first (eT Hy rfl) ?_|refine bD.snd (eT Hy rfl) ?_|refine bD.any (fun h=>eT Hy rfl) ?_|refine bD.first (d7 Hy rfl) ?_|refine bD.snd (d7 Hy rfl) ?_|refine bD.any (fun h=>d7 Hy rfl) ?_|refine bD.first (li Hy rfl) ?_|refine bD.snd (li Hy rfl) ?_|refine bD.any (fun h=>li Hy rfl) ?_|refine bD.each (.cons rfl .nil) ?_|refine bD.each (.cons rfl (.cons rfl .nil)) ?_|refine bD.each (.cons rfl (.cons rfl (.cons rfl .nil))) ?_)) ?_)
    |refine ah ?_|refine ac rfl ?_|refine ax rfl rfl ?_|refine ay rfl (fun ht=>?_) (fun ht=>?_)|refine ai ?_
    |refine ae ?_|refine aj ?_|refine al ?_|refine aB rfl ?_|refine ak rfl (fun ht=>?_) (fun ht=>?_)
    |refine au ?_|refine ap ?_|refine aJ ?_|refine bE.norm ?_|refine bE.ret ?_|refine bE.exit ?_|refine OnC.ret ?_
    |refine OnC.exit ?_|fail)
   ·exact⟨.inr rfl,_,rfl,.flat rfl,-1,rfl,pB h1⟩
   ·rename_i hA hB
    have hklt:=bK hA
    obtain⟨o21,o22,o23⟩:=(hr2 ⟨hklt,jg hB⟩).2
    have htk:=j7 ht
    have hgp:=pV hklt
    have hgz:=kJ (ce (bW l i).segs k)
    have hk1:r2≤cur2-1:=by
     rcases (by omega:r2= -1∨0≤r2)with q|q
     ·have:=jg hB;omega
     ·have:=o23 q;omega
    exact .norm ⟨_,_,cy KI rfl,hklt,⟨r2,rfl,o22,by omega,fun h=>by have:=o23 h;have:=p3 (by omega);omega⟩,rfl⟩
   ·have hc:¬0≤cur2:=qw ht
    exact .norm ⟨_,_,cy KI rfl,hlt,⟨r6,rfl,o62,by omega,fun h=>by omega⟩,rfl⟩
   ·have hk3:k=(bW l i).segs.length:=by have:=ci ht;omega
    rw [hk3,List.take_length]at p3
    exact .norm ⟨_,_,cy KI rfl,hlt,⟨r6,rfl,o62,by omega,fun h=>by have:=o63 h;have:=o53 (by omega);have:=o43 (by omega);have:=o33 (by omega);have:=p3 (by omega);have:=o3 (by omega);have:=q3 (by omega);omega⟩,rfl⟩
  ·have hc:¬0≤cur:=qw Hy
   exact⟨.inr rfl,_,rfl,.flat rfl,cur,rfl,mR (g:=fun i=>bF (exL (l.take i))+350*i) (fun q=>hc q.2) hi q1 q2 (fun q=>by have:=q3 q;omega) (by rw [List.take_length])⟩
  ·have hc:=ci (by assumption:ltI (Int.ofNat i) (Int.ofNat l.length)=false)
   exact⟨.inr rfl,_,rfl,.flat rfl,cur,rfl,mR (g:=fun i=>bF (exL (l.take i))+350*i) (fun q=>by have:=q.1;omega) hi q1 q2 (fun q=>by have:=q3 q;omega) (by rw [List.take_length])⟩
 exact⟨r,c,ok⟩
theorem mK:∀s,Sz s
 |0=>⟨fun _ h=>absurd h (by omega),fun _ h=>absurd h (by omega),fun _ h=>absurd h (by omega)⟩
 |s+1=>⟨fun l hl m h1 h2=>Av (mK s) l hl m h1 h2,fun l hl m h1 h2=>Aw (mK s) l hl m h1 h2,fun l hl m h1 h2=>Au (mK s) l hl m h1 h2⟩
end
end Ev
end Go.Proofs.YtdfphfdnoobikaaGreatDoor
