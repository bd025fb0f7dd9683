/-
  All operations that only compute.
-/
import Derived.Test.YtdfphfdnoobikaaGreatDoorEvPure
import Derived.Laws.Cells
import Derived.Laws.StructEq
import Derived.Laws.BytesArg
namespace Go.Proofs.YtdfphfdnoobikaaGreatDoor
namespace Ev
section
variable [Env]
set_option linter.unusedSectionVars false
section
variable {P:Program} {T:Ty} {g:G} {ρ:Operand->Value}
theorem Bh{o:POp}{v r:V}(h:POp.run o [v]=some r)(h1:∀z p,o≠.build z p)(h2:∀f n,o≠.mkf f n)(e:∀k a b c,o≠.slc k a b c)(d:o≠.mins)(g:o≠.maxs):POp.run1 o v=some r:=by
 cases o<;>first|exact absurd rfl (h1 _ _)|exact absurd rfl (h2 _ _)|exact absurd rfl (e _ _ _ _)|exact absurd rfl d|exact absurd rfl g|exact h|(cases v<;>cases h)
theorem Da{k:Ek}(c:k≠.i){a b:V}{u:Value}{r:Bool}(h:VR g a u)(d:eqD k a b=some r):
  (∀cs,u≠.agg cs)/\u≠.nilIface/\(∀k a,u≠.int k a)/\(∀s,u≠.string s)/\(∀k a,u≠.float k a)/\(∀k a b,u≠.complex k a b):=by
 cases h<;>first
  |(refine⟨?_,?_,?_,?_,?_,?_⟩<;>intros<;>intro e<;>cases e;done)|(cases k<;>first|exact absurd rfl c|(cases b<;>cases d))
theorem nU(E:da P T){k:Ek}{neg:Bool}{t G:TypeId}{d:TypeDesc}{x y:Operand}{a b v:V}(h1:T.under t=some d)
  (hd:(d= .bool/\k= .b)\/(∃e,d= .slice e/\k= .s)\/(∃p e,d= .map p e/\k= .m)\/(∃p q z,d= .func p q z/\k= .f))
  (c:VR g a (ρ x)) (i:VR g b (ρ y)) (l:POp.run2 (.eqd k neg) a b=some v):∃u,VR g v u/\eK P ρ (.binOp (Bool.rec (motive:=λ_=>BinOp) .eql .neq neg) t x y G) u:=by
 obtain⟨r,h2,o⟩:=bQ.1 (show ob (eqD k a b) (λr=>some (.bool (Bool.rec (motive:=λ_=>Bool) r (!r) neg)))=some v from l);cases o;refine⟨_,.bool _,?_⟩;have h:=E.under _ _ h1;have D:∀w,(Op.equal t (ρ x) (ρ y)).run P w= .ok r w:=by
  intro w;rcases hd with⟨rfl,rfl⟩ | ⟨e,rfl,rfl⟩ | ⟨p,e,rfl,rfl⟩ | ⟨p,q,z,rfl,rfl⟩
  ·cases a<;>cases b<;>cases h2
   rw [c.bool_inv,i.bool_inv,mN];exact Ak h _ _ w
  ·exact yB h c i h2 w
  ·exact C9 h c i h2 w
  ·exact Aj h c i h2 w
 obtain⟨A,j,C,F,B,n⟩:=Da (by rcases hd with⟨_,rfl⟩ | ⟨_,_,rfl⟩ | ⟨_,_,_,rfl⟩ | ⟨_,_,_,_,rfl⟩<;>intro e<;>cases e) c h2;exact vk (lA A j) C F B n D
theorem CU(B:da P T){neg:Bool}{t m:TypeId}{z:Array (String×TypeId)}{x y:Operand}{a b v:V}(h1:T.under t=some (.interface z))(j:(isC x||isC y)=true)
  (f:VR g a (ρ x)) (h:VR g b (ρ y)) (n:POp.run2 (.eqd .i neg) a b=some v):∃u,VR g v u/\eK P ρ (.binOp (Bool.rec (motive:=λ_=>BinOp) .eql .neq neg) t x y m) u:=by
 obtain⟨r,h2,s⟩:=bQ.1 (show ob (eqD .i a b) (λr=>some (.bool (Bool.rec (motive:=λ_=>Bool) r (!r) neg)))=some v from n);cases s;refine⟨_,.bool _,?_⟩;have o:=B.under _ _ h1;have k:∀(op:BinOp) (p q:Value),(∀cs,p≠.agg cs)->eqGuard op t x y p q=pure ():=by
  intro op p q c;cases p<;>first|exact absurd rfl (c _)|(cases op<;>rfl)|skip
  cases q<;>first|(cases op<;>rfl)|skip
  cases x<;>cases y<;>first|(cases j;done)|(cases op<;>rfl)
 have main:∀{p q:Value},ρ x=p->ρ y=q->VR g a p->VR g b q->eK P ρ (.binOp (Bool.rec (motive:=λ_=>BinOp) .eql .neq neg) t x y m) (.bool (Bool.rec (motive:=λ_=>Bool) r (!r) neg)):=by
  intro p q c l f h;have A:∀w,(Op.equal t (ρ x) (ρ y)).run P w= .ok r w:=by
   intro w;obtain⟨d,e⟩:=kM t (ρ x) (ρ y);rw [e,c,l];clear e c l;cases f<;>cases h<;>simp [eqD]at h2<;>subst h2<;>simp [Op.equalIn,run_underlying o]
  refine vk ?_ ?_ ?_ ?_ ?_ A
  ·rw [c,l]
   refine k _ _ _ ?_;cases f<;>cases h<;>simp [eqD]at h2<;>intros<;>intro hh<;>cases hh
  all_goals (rw [c];cases f<;>cases h<;>simp [eqD]at h2<;>intros<;>intro hh<;>cases hh)
 exact main rfl rfl f h
theorem LX(G:da P T){op:Op}{po:POp}{os:List Operand}(hc:bT T op=some (.p po,os)){vs:List V}{v:V}(E:VRs g vs (os.map ρ))(A:po.run vs=some v):∃u,VR g v u/\eK P ρ op u:=by
 cases op
 case move x=>
  cases hc;obtain⟨a,rfl,h⟩:=E.one;cases A;exact zX h
 case assign x=>
  cases hc;obtain⟨a,rfl,h⟩:=E.one;cases A;exact wp h
 case pick c a b=>
  cases hc;obtain⟨x,y,z,rfl,h1,h2,D⟩:=E.three;cases x<;>cases A;exact zW h1 h2 D
 case build t ps=>
  simp only [bT]at hc;obtain⟨z,h1,h2⟩:=bQ.1 hc;obtain⟨d,D,B⟩:=bQ.1 h2;cases d with
  |struct fs=>
   obtain⟨pl,L,Y⟩:=bQ.1 B;obtain⟨l,h7,h8⟩:=bQ.1 Y;cases h8;obtain⟨cs,h9,a7⟩:=bQ.1 (show ob (jT l vs (cellsOf z)) (λcs=>some (.agg cs))=some v from A);cases a7;exact pJ G h1 D L h7 E h9
  |array k e=>
   obtain⟨n,L,Y⟩:=bQ.1 B;cases Y;obtain⟨cs,h9,a7⟩:=bQ.1 (show ob (jT (ps.toList.map λp=>(Nat.mul p.1 n,n)) vs (cellsOf z)) (λcs=>some (.agg cs))=some v from A);cases a7;exact qI G h1 D L E h9
  |_=>cases B
 case nilCheck x=>
  cases hc;obtain⟨a,rfl,h⟩:=E.one;exact tm h A
 case unOp op t x=>
  cases hc;obtain⟨a,rfl,h⟩:=E.one;exact zV h A
 case binOp op t x y t'=>
  have a8:∀{neg:Bool} {d:TypeDesc},T.under t=some d->tM T t neg (isC x||isC y) d=some (.p po)->os=[x,y]->∃u,VR g v u/\eK P ρ (.binOp (Bool.rec (motive:=λ_=>BinOp) .eql .neq neg) t x y t') u:=by
   intro neg d h1 h2 D;subst D;obtain⟨a,b,rfl,C,I⟩:=E.two;cases d with
   |int k=>cases h2;exact qJ C I A
   |string=>cases h2;exact qJ C I A
   |interface e=>obtain⟨B,L⟩:=bW.1 h2;cases L;exact CU G h1 B C I A
   |bool=>cases h2;exact nU G h1 (.inl ⟨rfl,rfl⟩) C I A
   |slice e=>cases h2;exact nU G h1 (.inr (.inl ⟨e,rfl,rfl⟩)) C I A
   |map p e=>cases h2;exact nU G h1 (.inr (.inr (.inl ⟨p,e,rfl,rfl⟩))) C I A
   |func p q z=>cases h2;exact nU G h1 (.inr (.inr (.inr ⟨p,q,z,rfl,rfl⟩))) C I A
   |pointer e=>obtain⟨n,_,L⟩:=bQ.1 h2;cases L
   |struct fs=>obtain⟨n,_,L⟩:=bQ.1 h2;cases L
   |_=>cases h2
  cases op
  case eql=>
   simp only [bT]at hc;obtain⟨d,h1,h2⟩:=bQ.1 hc;obtain⟨c,D,B⟩:=bQ.1 h2;cases B;exact a8 (neg:=false) h1 D rfl
  case neq=>
   simp only [bT]at hc;obtain⟨d,h1,h2⟩:=bQ.1 hc;obtain⟨c,D,B⟩:=bQ.1 h2;cases B;exact a8 (neg:=true) h1 D rfl
  all_goals
   cases hc;obtain⟨a,b,rfl,C,I⟩:=E.two;exact qJ C I A
 case convert s d x=>
  simp only [bT]at hc;obtain⟨a,h1,h2⟩:=bQ.1 hc;obtain⟨b,D,B⟩:=bQ.1 h2;have hI:∀k,a= .int k->∃k',b= .int k':=by
   intro k e;subst e;cases b<;>first|exact⟨_,rfl⟩|cases B
  cases a with
  |int k=>
   obtain⟨k',rfl⟩:=hI k rfl;cases B;obtain⟨x',rfl,h⟩:=E.one;exact yj G h1 D h (by cases x'<;>first|exact A|cases A)
  |string=>
   cases b with
   |string=>
    cases B;obtain⟨x',rfl,h⟩:=E.one;cases x' with
    |str n c=>
     cases A;exact yk G h1 D h (by cases hx:ρ x<;>rw [hx]at h<;>cases h;exact⟨_,rfl⟩)
    |_=>cases A
   |_=>cases B
  |_=>cases b<;>first|(cases B;done)|(cases(gF B).1)
 case makeInterface t x=>
  simp only [bT]at hc;obtain⟨d,h1,h2⟩:=bQ.1 hc;have hd:∀m,d≠.interface m:=by intro m e;subst e;cases h2
  have:(COp.p (.mki t),[x])=(COp.p po,os):=by cases d<;>first|exact absurd rfl (hd _)|exact Option.some.inj h2
  cases this;obtain⟨a,rfl,h⟩:=E.one;have e:v= .iface t a:=by
   have:POp.run1 (.mki t) a=some v:=Bh A (by intros;intro e;cases e) (by intros;intro e;cases e) (by intros;intro e;cases e) (by intro e;cases e) (by intro e;cases e);cases a<;>cases this<;>rfl
  subst e;exact nY G h1 hd h
 case makeFunc fn first captured=>
  cases fn with
  |func f=>
   cases hc;obtain⟨a,h1,h2⟩:=bQ.1 (show ob (iR first.size vs) _=some v from A);cases h2;exact tn E h1
  |_=>cases hc
 case extract x i=>
  cases hc;obtain⟨a,rfl,h⟩:=E.one;cases a<;>first|exact uu h A|cases A
 case slice t x lo hi mx=>
  simp only [bT]at hc;obtain⟨d,h1,h2⟩:=bQ.1 hc;have main:∀k,po= .slc k lo.isSome hi.isSome mx.isSome->os=x ::(pB lo++pB hi++pB mx)->
    (∀a lv J mv,VR g a (ρ x)->OV g lv (lo.map ρ)->OV g J (hi.map ρ)->OV g mv (mx.map ρ)->(mv≠none->J≠none)->xB k a lv J mv=some v->∃u,VR g v u/\eK P ρ (.slice t x lo hi mx) u)->∃u,VR g v u/\eK P ρ (.slice t x lo hi mx) u:=by
   intro k S W K;subst S W;cases E with
   |cons C ht=>
    rename_i a tl
    obtain⟨q1,q2⟩:=bW.1 (show oif (!mx.isSome||hi.isSome) _=some v from A);obtain⟨p,k1,k2⟩:=bQ.1 q2;obtain⟨q,k3,k4⟩:=bQ.1 k2;obtain⟨r,k5,k6⟩:=bQ.1 k4;obtain⟨lv,t1⟩:=p;obtain⟨J,t2⟩:=q;obtain⟨mv,t3⟩:=r;rw [List.append_assoc]at ht;obtain⟨o1,b0⟩:=sX ht k1;obtain⟨Z,b2⟩:=sX b0 k3;obtain⟨o3,b3⟩:=sX (rest:=[]) (by simpa using b2) k5;refine K a lv J mv C o1 Z o3 ?_ k6;intro hm hh;subst hh;cases mx with
    |none=>cases o3;exact hm rfl
    |some _=>cases hi with
     |none=>cases q1
     |some _=>cases Z
  cases d with
  |string=>
   cases h2;refine main .str rfl rfl λa lv J mv C o1 Z o3 o4 R=>?_;cases a with
   |str n c=>
    cases mv with
    |none=>
     have:mx=none:=by
      cases mx with
      |none=>rfl
      |some _=>cases o3
     subst this;exact wh G h1 C o1 Z R
    |some _=>cases R
   |_=>cases R
  |slice e=>
   obtain⟨n,D,B⟩:=bQ.1 h2;cases B;exact main (.sl n) rfl rfl λa lv J mv C o1 Z o3 o4 R=>yl G h1 D C o1 Z o3 o4 R
  |array k e=>
   obtain⟨n,D,B⟩:=bQ.1 h2;cases B;refine main (.arr k n) rfl rfl λa lv J mv C o1 Z o3 o4 R=>?_;cases a with
   |ptr id off=>exact wi G h1 D C o1 Z o3 o4 R
   |_=>cases R
  |_=>cases h2
 case fieldAddr t x i=>
  simp only [bT]at hc;obtain⟨d,h1,h2⟩:=bQ.1 hc;cases d with
  |struct fs=>
   obtain⟨f,D,B⟩:=bQ.1 h2;obtain⟨n,L,Y⟩:=bQ.1 B;cases Y;obtain⟨a,rfl,h⟩:=E.one;cases a<;>cases A
   ·exact rK G h1 D L h
   ·exact qH G h1 D L h
  |_=>cases h2
 case field t x i=>
  simp only [bT]at hc;obtain⟨d,h1,h2⟩:=bQ.1 hc;cases d with
  |struct fs=>
   obtain⟨f,D,B⟩:=bQ.1 h2;obtain⟨b,L,Y⟩:=bQ.1 B;obtain⟨n,h7,h8⟩:=bQ.1 Y;cases h8;obtain⟨a,rfl,h⟩:=E.one;cases a<;>first|exact yr G h1 D L h7 h A|cases A
  |_=>cases h2
 case indexAddr t x i=>
  simp only [bT]at hc;obtain⟨d,h1,h2⟩:=bQ.1 hc;cases d with
  |slice e=>
   obtain⟨n,D,B⟩:=bQ.1 h2;cases B;obtain⟨a,b,rfl,C,I⟩:=E.two;cases a with
   |sl id off ln cap ex es=>
    cases b with
    |int k m=>
     obtain⟨q1,q2⟩:=bW.1 (show oif (Nat.beq n es) _=some v from A);obtain rfl:n=es:=by simpa using q1
     obtain⟨j,q3,U⟩:=bQ.1 q2;cases U;exact zY G h1 D C I q3
    |_=>cases A
   |lst ln es cs=>
    cases b with
    |int k m=>
     obtain⟨q1,q2⟩:=bW.1 (show oif (Nat.beq n es) _=some v from A);obtain rfl:n=es:=by simpa using q1
     obtain⟨j,q3,U⟩:=bQ.1 q2;cases U;exact yn G h1 D C I q3
    |_=>cases A
   |_=>cases A
  |array k e=>
   obtain⟨n,D,B⟩:=bQ.1 h2;cases B;obtain⟨a,b,rfl,C,I⟩:=E.two;cases a with
   |ptr id off=>
    cases b with
    |int k' m=>
     obtain⟨j,q3,U⟩:=bQ.1 (show ob (idx m k) _=some v from A);cases U;exact wo G h1 D C I q3
    |_=>cases A
   |_=>cases A
  |_=>cases h2
 case index t x i=>
  simp only [bT]at hc;obtain⟨d,h1,h2⟩:=bQ.1 hc;cases d with
  |string=>
   cases h2;obtain⟨a,b,rfl,C,I⟩:=E.two;cases a with
   |str ln c=>
    cases b with
    |int k' m=>
     obtain⟨j,q3,U⟩:=bQ.1 (show ob (idx m ln) _=some v from A);cases U;exact ym G h1 C I q3
    |_=>cases A
   |_=>cases A
  |array k e=>
   obtain⟨n,D,B⟩:=bQ.1 h2;obtain⟨ag,L,Y⟩:=bQ.1 B;cases Y;obtain⟨a,b,rfl,C,I⟩:=E.two;cases a with
   |agg cs=>
    cases b with
    |int k' m=>
     obtain⟨j,q3,U⟩:=bQ.1 (show ob (idx m k) _=some v from A);exact yq G h1 (eY D).1 L C I q3 U
    |_=>cases A
   |_=>cases A
  |_=>cases h2
 case call c=>
  obtain⟨callee,args,argTypes⟩:=c;simp only [bT]at hc;cases callee with
  |value x=>cases x<;>cases hc
  |invoke r m=>cases hc
  |builtin b=>
   obtain⟨t,h1,h2⟩:=bQ.1 hc;obtain⟨d,D,B⟩:=bQ.1 h2;have b1:argTypes[0]? =some t:=by rw [dS]at h1;simpa using h1
   have a0:∀{u:Value},(∀(ty:TypeId) (cs:Array Bool) (w:World),(builtin b argTypes ty cs (args.map ρ)).run P w= .ok (.value u) w)->eK P ρ (.call ⟨.builtin b,args,argTypes⟩) u:=by
    intro u h w o e;simp [execOp,e,resolve,invoke,h]
   have O:∀{k:Lk},b= .len->po= .leng k->os=args.toList->((d= .string/\k= .str)\/(∃e,d= .slice e/\k= .sl)\/(∃n e,d= .array n e/\k= .const n))->∃u,VR g v u/\eK P ρ (.call ⟨.builtin b,args,argTypes⟩) u:=by
    intro k S W e3 R;subst S W e3;have a9:∃a,vs=[a]:=by
     cases vs with
     |nil=>cases A
     |cons a vs=>cases vs with
      |nil=>exact⟨a,rfl⟩
      |cons b vs=>cases vs with
       |nil=>cases A
       |cons c vs=>cases a<;>cases A
    obtain⟨a,rfl⟩:=a9;obtain⟨x,hx⟩:∃x,args.toList=[x]:=by
     have:=E.length;simp at this;cases C:args.toList with
     |nil=>rw [<-Array.length_toList,C]at this;cases this
     |cons x l=>cases l with
      |nil=>exact⟨x,rfl⟩
      |cons y l=>rw [<-Array.length_toList,C]at this;simp at this
    rw [hx]at E;obtain⟨a',e,h⟩:=E.one;cases e;obtain⟨u,k1,k2⟩:=CT G b1 D R h (Bh A (by intros;intro e;cases e) (by intros;intro e;cases e) (by intros;intro e;cases e) (by intro e;cases e) (by intro e;cases e));have C:args.map ρ=#[ρ x]:=by apply Array.ext';simp [hx]
    exact⟨u,k1,a0 λty cs w=>by simp [builtin,C,k2]⟩
   have Q:∀{a:V} {l:List V},vs=a ::l->os=args.toList->∃x xs,args.map ρ=(x ::xs).toArray/\VR g a x/\VRs g l xs:=by
    intro a l S W;subst S W;cases C:args.toList.map ρ with
    |nil=>rw [C]at E;cases E
    |cons x xs=>
     rw [C]at E;cases E with
     |cons h t=>exact⟨x,xs,by apply Array.ext';simp [C],h,t⟩
   cases b
   case len=>
    cases d<;>first
     |(cases B;exact O rfl rfl rfl (.inl ⟨rfl,rfl⟩))|(cases B;exact O rfl rfl rfl (.inr (.inl ⟨_,rfl,rfl⟩)))|(cases B;exact O rfl rfl rfl (.inr (.inr ⟨_,_,rfl,rfl⟩)))
     |cases B
   case min=>
    cases d<;>cases B;cases vs with
    |nil=>cases A
    |cons a l=>
     obtain⟨x,xs,S,W,e3⟩:=Q rfl rfl;obtain⟨u,k1,k2⟩:=vl (P:=P) e3 W (show rt min2 l a=some v by cases a<;>first|exact A|(cases l<;>first|exact A|skip));exact⟨u,k1,a0 λty cs w=>by simp [builtin,S,Builtin.min_,k2]⟩
   case max=>
    cases d<;>cases B;cases vs with
    |nil=>cases A
    |cons a l=>
     obtain⟨x,xs,S,W,e3⟩:=Q rfl rfl;obtain⟨u,k1,k2⟩:=vm (P:=P) e3 W (show rt max2 l a=some v by cases a<;>first|exact A|(cases l<;>first|exact A|skip));exact⟨u,k1,a0 λty cs w=>by simp [builtin,S,Builtin.max_,k2]⟩
   case append=>
    cases d with
    |slice e=>
     obtain⟨n,_,F⟩:=bQ.1 B;obtain⟨_,_,M⟩:=bQ.1 F;obtain⟨_,_,a3⟩:=bQ.1 M;obtain⟨_,a4⟩:=bW.1 a3;obtain⟨_,_,a5⟩:=bQ.1 a4;obtain⟨_,_,a6⟩:=bQ.1 a5
     split at a6<;>cases a6
    |_=>cases B
   case copy=>
    cases d with
    |slice e=>
     obtain⟨n,_,F⟩:=bQ.1 B;cases F
    |_=>cases B
   case clear=>
    cases d with
    |slice e=>
     obtain⟨n,_,F⟩:=bQ.1 B;obtain⟨_,_,M⟩:=bQ.1 F;cases M
    |_=>cases B
   case delete=>
    cases d with
    |map k e=>
     obtain⟨_,_,F⟩:=bQ.1 B;cases F
    |_=>cases B
   all_goals (cases d<;>cases B)
 case alloc t=>
  simp only [bT]at hc;obtain⟨_,_,h⟩:=bQ.1 hc;cases h
 case buildSlice t n ps=>
  simp only [bT]at hc;obtain⟨d,_,h⟩:=bQ.1 hc;cases d with
  |slice e=>
   obtain⟨_,_,F⟩:=bQ.1 h;obtain⟨_,_,M⟩:=bQ.1 F;obtain⟨_,a3⟩:=bW.1 M;cases a3
  |_=>cases h
 case load t a=>
  simp only [bT]at hc;obtain⟨_,_,F⟩:=bQ.1 hc;obtain⟨_,_,M⟩:=bQ.1 F;cases M
 case store t a x=>
  simp only [bT]at hc;obtain⟨_,_,F⟩:=bQ.1 hc;cases F
 case makeMap t r=>
  simp only [bT]at hc;obtain⟨d,_,h⟩:=bQ.1 hc;cases d<;>cases h
 case makeSlice t l c=>
  simp only [bT]at hc;obtain⟨d,_,h⟩:=bQ.1 hc;cases d with
  |slice e=>
   obtain⟨_,_,F⟩:=bQ.1 h;obtain⟨_,_,M⟩:=bQ.1 F;obtain⟨_,_,a3⟩:=bQ.1 M;obtain⟨_,a4⟩:=bW.1 a3;cases a4
  |_=>cases h
 case lookup t x k ok=>
  simp only [bT]at hc;obtain⟨d,_,h⟩:=bQ.1 hc;cases d with
  |map k e=>
   obtain⟨_,_,F⟩:=bQ.1 h;obtain⟨_,_,M⟩:=bQ.1 F;cases M
  |_=>cases h
 case insert t m k x=>
  simp only [bT]at hc;obtain⟨d,_,h⟩:=bQ.1 hc;cases d with
  |map k e=>
   obtain⟨_,_,F⟩:=bQ.1 h;cases F
  |_=>cases h
 case mapEntry t m k=>
  simp only [bT]at hc;obtain⟨d,_,h⟩:=bQ.1 hc;cases d with
  |map k e=>
   obtain⟨_,_,F⟩:=bQ.1 h;obtain⟨_,_,M⟩:=bQ.1 F;cases M
  |_=>cases h
 case mapUpdate t m k x=>
  simp only [bT]at hc;obtain⟨d,_,h⟩:=bQ.1 hc;cases d with
  |map k e=>
   obtain⟨_,_,F⟩:=bQ.1 h;cases F
  |_=>cases h
 case range t x=>
  simp only [bT]at hc;obtain⟨d,_,h⟩:=bQ.1 hc;cases d<;>cases h
 case next x b=>cases b<;>cases hc
 all_goals cases hc
end
end
section
variable [Env]
set_option linter.unusedSectionVars false
section
variable {P:Program} {T:Ty} {g:G} {ρ:Operand->Value} {h:H} {w:World}
def mQ(P:Program)(ρ:Operand->Value)(w:World)(op:Op)(u:Value):Prop:=∀o:Oper,o.op=op->(execOp ρ o).run P w= .ok (.value u) w
theorem vz(r:WR T g h w){id:Nat}{x:Nat×Nat×Nat}{p:Nat×Tr V}(hg:g id=some x)(hc:h.cells id=some p):Cells g w id p.1 p.2:=by
 unfold H.cells at hc;obtain⟨b,h1,h2⟩:=bQ.1 hc;cases b with
 |cells n cs up ch=>cases h2;exact r.blk id x _ hg h1
 |ro n cs=>cases h2;exact r.blk id x _ hg h1
 |_=>cases h2
theorem xM(cs:Tr V)(n k off:Nat):lH cs n (k+1) off=oif (Nat.blt off n) (ob (cs.get off) λv=>ob (lH cs n k (off+1)) λr=>some (v ::r)):=rfl
theorem Ct{o n:Nat}{c:Array Value}{cs:Tr V}(hc:∀j v,j<n->cs.get j=some v->∃u,c[o+j]? =some u/\VR g v u/\cQ v=true):
  ∀(k off:Nat) (l:List V),lH cs n k off=some l->∃us,VRs g l us/\us.length=k/\(∀j u,us[j]? =some u->c[o+off+j]? =some u)/\(∀v,v∈l->cQ v=true)/\(0<k->off+k<=n):=by
 intro k
 induction k with
 |zero=>intro off l e;cases e;exact⟨[],.nil,rfl,by simp,by simp,by omega⟩
 |succ k ih=>
  intro off l e;rw [xM]at e;obtain⟨h1,h2⟩:=bW.1 e;obtain⟨v,m,s⟩:=bQ.1 h2;obtain⟨r,A,f⟩:=bQ.1 s;cases f;have d:off<n:=by simpa using h1
  obtain⟨u,w,h,p⟩:=hc off v d m;obtain⟨us,q,t,z,y,i⟩:=ih (off+1) r A;refine⟨u ::us,.cons h q,by simp [t],λj x a=>?_,λx a=>?_,λ_=>?_⟩
  ·cases j with
   |zero=>simp at a;subst a;simpa using w
   |succ j=>rw [show o+off+(j+1)=o+(off+1)+j by omega];exact z j x (by simpa using a)
  ·cases a with
   |head=>exact p
   |tail _ a=>exact y x a
  ·by_cases hk:0<k
   ·have:=i hk;omega
   ·omega
theorem Bp(r:WR T g h w){id off k b o z:Nat}{l:List V}(hg:g id=some (b,o,z))(e:h.rd id off k=some l):
  ∃us,VRs g l us/\us.length=k/\(∀j u,us[j]? =some u->w.cell? ⟨b,o+off+j,none⟩=some u)/\(∀v,v∈l->cQ v=true):=by
 unfold H.rd at e;obtain⟨p,h1,h2⟩:=bQ.1 e;obtain⟨y,o',x,c,t,a,d,A,B,C,f⟩:=vz r hg h1;rw [hg]at a;cases a;obtain⟨us,i,m,s,q,_⟩:=Ct f k off l h2;exact⟨us,i,m,λj u n=>by simp [World.cell?,d,s j u n],q⟩
theorem VR.eptr_inv{g:G}{cs:List V}{off:Nat}{u:Value}(h:VR g (.eptr cs off) u):∃b o c xs,Env.ro b=some c/\(∀j u,xs[j]? =some u->c[o+j]? =some u)/\VRs g cs xs/\u= .pointer (some ⟨b,o+off,none⟩):=by
 cases h with
 |eptr hE hj hc=>exact⟨_,_,_,_,hE,hj,hc,rfl⟩
theorem uJ{g:G}:∀(n:Nat) {l r:List V} {xs:List Value},VRs g l xs->iR n l=some r->∃us:List Value,VRs g r us/\us.length=n/\∀(j:Nat) (u:Value),us[j]? =some u->xs[j]? =some u
 |0,_,_,_,_,e=>by cases e;exact⟨[],.nil,rfl,λj u h=>by simp at h⟩
 |n+1,_,_,_,.nil,e=>by cases e
 |n+1,_,_,_,.cons a t,e=>by
  obtain⟨q,e1,e2⟩:=bQ.1 (show ob (iR n _) _=some _ from e);cases e2;obtain⟨us,h1,h2,h3⟩:=uJ n t e1;refine⟨_ ::us,.cons a h1,by simp [h2],λj u h=>?_⟩;cases j with
  |zero=>simpa using h
  |succ j=>simpa using h3 j u (by simpa using h)
theorem xj{g:G}{n off:Nat}{cs l:List V}{xs:List Value}(h:VRs g cs xs)(e:iR n (kN off cs)=some l):∃us:List Value,VRs g l us/\us.length=n/\∀(j:Nat) (u:Value),us[j]? =some u->xs[off+j]? =some u:=by
 rw [tR]at e;obtain⟨us,h1,h2,b⟩:=uJ n (h.drop off) e;exact⟨us,h1,h2,λj u a=>by have:=b j u a;rwa [List.getElem?_drop]at this⟩
theorem tp(q:da P T)(r:WR T g h w)(hE:lF g w){t:TypeId}{a:Bool}{n:Nat}{x:Operand}{vs:List V}{v:V}(h1:qR T t=some a)(h2:im T t=some n)(L:VRs g vs [ρ x])(f:ROp.run (.load a n) vs h=some v):
  ∃u,VR g v u/\(loadVar t (match ρ x with | .pointer (some p)=>p | _=>default)).run P w= .ok u w/\mQ P ρ w (.load t x) u:=by
 obtain⟨y,rfl,D⟩:=L.one;have main:∀{id off:Nat},y= .ptr id off->∃b o z,g id=some (b,o,z)/\ρ x= .pointer (some ⟨b,o+off,none⟩):=by
  intro id off e;subst e;cases d:ρ x<;>rw [d]at D<;>cases D;exact⟨_,_,_,‹_›,rfl⟩
 cases a with
 |false=>
  cases y with
  |ptr id off=>
   obtain⟨b,o,z,hg,d⟩:=main rfl;obtain⟨l,A,m⟩:=bQ.1 (show ob (h.rd id off 1) (λl=>ff l 0)=some v from f);obtain⟨us,B,E,C,_⟩:=Bp r hg A;rw [dS]at m;obtain⟨u,K,G⟩:=B.get m;have hc:=C 0 u K;simp only [Nat.add_zero]at hc;have run:(loadVar t ⟨b,o+off,none⟩).run P w= .ok u w:=by simp [loadVar,gA q h1,hc]
   refine⟨u,G,by rw [d];exact run,λo' k=>?_⟩;simp [execOp,k,d,Instr.loadAt,Instr.sureAddr,run]
  |eptr cs off=>
   obtain⟨b,o,c,xs,J,s,hc,d⟩:=D.eptr_inv;obtain⟨⟨N,I⟩,_⟩:=hE b c J;have f:ff cs off=some v:=f;rw [dS]at f;obtain⟨u,K,G⟩:=hc.get f;have i:w.cell? ⟨b,o+off,none⟩=some u:=by simp [World.cell?,I,s off u K]
   have run:(loadVar t ⟨b,o+off,none⟩).run P w= .ok u w:=by simp [loadVar,gA q h1,i]
   refine⟨u,G,by rw [d];exact run,λo' k=>?_⟩;simp [execOp,k,d,Instr.loadAt,Instr.sureAddr,run]
  |_=>cases f
 |true=>
  cases y with
  |ptr id off=>
   obtain⟨b,o,z,hg,d⟩:=main rfl;obtain⟨l,A,m⟩:=bQ.1 (show ob (h.rd id off n) (λl=>some (.agg l))=some v from f);cases m;obtain⟨us,B,E,C,_⟩:=Bp r hg A;have hc:∀j u,us[j]? =some u->w.cell? ((⟨b,o+off,none⟩:Addr).add j)=some u:=by
    intro j u s;rw [Addr.add_lit];exact C j u s
   have run:(loadVar t ⟨b,o+off,none⟩).run P w= .ok (.agg us.toArray) w:=by
    have:=run_loadCells_list (P:=P) (w:=w) ⟨b,o+off,none⟩ us hc;rw [E]at this;simp [loadVar,gA q h1,cL q h2,this]
   refine⟨_,.agg B,by rw [d];exact run,λo' k=>?_⟩;simp [execOp,k,d,Instr.loadAt,Instr.sureAddr,run]
  |eptr cs off=>
   obtain⟨b,o,c,xs,J,s,hc,d⟩:=D.eptr_inv;obtain⟨⟨N,I⟩,_⟩:=hE b c J;obtain⟨l,A,m⟩:=bQ.1 (show ob (iR n (kN off cs)) (λl=>some (.agg l))=some v from f);cases m;obtain⟨us,B,E,C⟩:=xj hc A;have F:∀j u,us[j]? =some u->w.cell? ((⟨b,o+off,none⟩:Addr).add j)=some u:=by
    intro j u M;rw [Addr.add_lit];have:=s (off+j) u (C j u M);rw [<-Nat.add_assoc]at this;simp [World.cell?,I,this]
   have run:(loadVar t ⟨b,o+off,none⟩).run P w= .ok (.agg us.toArray) w:=by
    have:=run_loadCells_list (P:=P) (w:=w) ⟨b,o+off,none⟩ us F;rw [E]at this;simp [loadVar,gA q h1,cL q h2,this]
   refine⟨_,.agg B,by rw [d];exact run,λo' k=>?_⟩;simp [execOp,k,d,Instr.loadAt,Instr.sureAddr,run]
  |_=>cases f
theorem yW(r:WR T g h w){id b o z:Nat}(hg:g id=some (b,o,z))(a:h.alone id=true):∃k c t,h.blk id=some k/\k.live=true/\k.kin=some (none,false)/\w.heap[b]? =some (.cells c t (0,0)):=by
 unfold H.alone at a;cases d:h.blk id with
 |none=>rw [d]at a;cases a
 |some k=>
  rw [d]at a;cases k with
  |cells n cs up ch=>
   cases up with
   |some _=>cases a
   |none=>cases ch with
    |true=>cases a
    |false=>
     obtain⟨i,o',j,c,t,e,f,_⟩:=r.blk id _ _ hg d;rw [hg]at e;cases e;exact⟨_,c,t,rfl,rfl,rfl,f⟩
  |_=>cases a
theorem um{a b:Addr}(c:a.block=b.block):(sameAddr a b).run P w= .ok (a==b) w:=by
 simp [sameAddr,c]
theorem uo{a b:Addr}{c c':Array Value}{t d:TypeId}(j:a.block≠b.block)(h1:w.heap[a.block]? =some (.cells c t (0,0)))(h2:w.heap[b.block]? =some (.cells c' d (0,0))):(sameAddr a b).run P w= .ok false w:=by
 have f1:∀o,w.frozen? ⟨a.block,o,none⟩=false:=λo=>by simp [World.frozen?,h1]
 have i:∀o,w.frozen? ⟨b.block,o,none⟩=false:=λo=>by simp [World.frozen?,h2]
 have h:w.frozen? a=false:=by simp [World.frozen?,h1]
 have g:w.frozen? b=false:=by simp [World.frozen?,h2]
 have f:w.shape? a.block=some (t,c.size):=by simp [World.shape?,h1]
 have e:w.shape? b.block=some (d,c'.size):=by simp [World.shape?,h2]
 simp [sameAddr,j,h,noView,viewAt,f,e,mayBeOne,stringish,g,f1,i]
set_option maxHeartbeats 1000000 in
theorem E9(G:da P T)(r:WR T g h w){t:TypeId}{k:Pk}{x y:V}{a b:Value}{e:Bool}(J:mD T t=some k)(v:VR g x a)(s:VR g y b)(c:eq1 h k x y=some e)(d:Nat):(Op.equalIn (d+1) t a b).run P w= .ok e w:=by
 obtain⟨u,h1,h2⟩:=bQ.1 J;have A:=G.under _ _ h1;unfold eq1 at c
 split at c
 ·obtain⟨E,D⟩:=bW.1 c
  cases D;obtain rfl:=tO.1 E;rw [v.int_inv,s.int_inv,jc];cases u<;>first|(cases h2;done)|exact run_equalIn_int w d t _ _ _ _ A|(obtain⟨_,_,p⟩:=bQ.1 h2;cases p)
 ·cases c
  cases v;cases s;rw [eN,eN,lO];cases u<;>first|(cases h2;done)|(rw [run_equalIn_string w d t _ _ A,toList_eq,toList_eq])|(obtain⟨_,_,p⟩:=bQ.1 h2;cases p)
 ·cases c
  rw [v.bool_inv,s.bool_inv,mN];cases u<;>first|(cases h2;done)|exact run_equalIn_bool w d t _ _ A|(obtain⟨_,_,p⟩:=bQ.1 h2;cases p)
 ·cases c
  cases v;cases s;cases u<;>first|(cases h2;done)|(simp [Op.equalIn,run_underlying A];done)
 ·cases c
  cases v;cases s;cases u<;>first|(cases h2;done)|(simp [Op.equalIn,run_underlying A];done)
 ·cases c
  cases v;cases s;cases u<;>first|(cases h2;done)|(simp [Op.equalIn,run_underlying A];done)
 ·rename_i i off j m
  cases u with
  |pointer el=>
   obtain⟨n,p,h4⟩:=bQ.1 h2;obtain⟨hs,W⟩:=eY p;have K:¬n=0:=by omega
   cases v;cases s
   rename_i b o z hg F o' S l
   have main:∀q,(sameAddr ⟨b,o+off,none⟩ ⟨F,o'+m,none⟩).run P w= .ok q w->(Op.equalIn (d+1) t (.pointer (some ⟨b,o+off,none⟩)) (.pointer (some ⟨F,o'+m,none⟩))).run P w= .ok q w:=by
    intro q R;simp [Op.equalIn,run_underlying A,cL G hs,K,R]
   rw [cO]at c
   split at c
   ·rename_i f
    obtain rfl:i=j:=by simpa using f
    cases c;rw [hg]at l;cases l;rw [main _ (um rfl)]
    congr 1
    apply Bool.eq_iff_iff.2;simp
   ·rename_i f
    have f:i≠j:=by simpa using f
    obtain⟨E,D⟩:=bW.1 c;obtain⟨q3,M⟩:=bW.1 D;cases M;obtain⟨k1,c1,U,N,O,C,Q⟩:=yW r hg E;obtain⟨Z,c2,t2,n1,n2,Y,I⟩:=yW r l q3;refine main _ (uo ?_ Q I);intro B;simp only at B;subst B;exact r.lone f hg l N n1 O n2 (.inr C) (.inl (by cases L:Blk.isRo _ with|false=>rfl|true=>rw [Blk.isRo_kin L]at C;cases C))
  |_=>cases h2
 ·cases c
theorem sR{t:TypeId}{k:Pk}(a:mD T t=some k):qR T t=some false:=by
 obtain⟨d,h1,h2⟩:=bQ.1 a;unfold qR;rw [h1];cases d<;>first|rfl|cases h2
theorem og{f:Field} {fs:List Field} {i:Nat} {ks:List Pk} (h:kI T (f ::fs) i=some ks):f.offset=i/\f.name≠ "_"/\∃k ks',mD T f.type=some k/\kI T fs (i+1)=some ks'/\ks=k ::ks':=by
 obtain⟨h1,h2⟩:=bW.1 (show oif (Nat.beq f.offset i && !(f.name== "_")) (ob (mD T f.type) λk=>ob (kI T fs (i+1)) λks=>some (k ::ks))=some ks from h);obtain⟨k,h3,h4⟩:=bQ.1 h2;obtain⟨ks',h5,h6⟩:=bQ.1 h4;cases h6;simp at h1;exact⟨h1.1,h1.2,k,ks',h3,h5,rfl⟩
theorem Jg(s:da P T)(r:WR T g h w)(d:Nat)(X Y:List Value):∀(fs:List Field) (i:Nat) (o:List Pk) (j bs:List V) (e:Bool),kI T fs i=some o->VRs g j (X.drop i)->VRs g bs (Y.drop i)->eqL h o j bs=some e->
  (Op.eqFields (d+1) X.toArray Y.toArray fs).run P w= .ok e w:=by
 intro fs
 induction fs with
 |nil=>
  intro i o j bs e h1 h2 p m;cases h1;cases j with
  |nil=>cases bs with
   |nil=>cases m;simp [Op.eqFields]
   |cons=>cases m
  |cons=>cases m
 |cons f fs ih=>
  intro i o j bs e h1 h2 p m;obtain⟨rfl,I,k,n,x,B,rfl⟩:=og h1;cases j with
  |nil=>cases m
  |cons a j=>cases bs with
   |nil=>cases m
   |cons b bs=>
    obtain⟨c,K,y⟩:=bQ.1 (show ob (eq1 h k a b) (λc=>Bool.rec (motive:=λ_=>Option Bool) (some false) (eqL h n j bs) c)=some e from m);generalize z:X.drop f.offset=X' at h2;generalize A:Y.drop f.offset=Y' at p;cases h2 with
    |cons ha ta=>cases p with
     |cons hb tb=>
      rename_i u us v vs
      have G:X[f.offset]? =some u:=by have:=congrArg (λl=>l[0]?) z;simpa using this
      have D:Y[f.offset]? =some v:=by have:=congrArg (λl=>l[0]?) A;simpa using this
      have C:X.drop (f.offset+1)=us:=by have:=congrArg List.tail z;simpa using this
      have J:Y.drop (f.offset+1)=vs:=by have:=congrArg List.tail A;simpa using this
      have t:=sR x;have F:∀w,(Go.part f.type X.toArray f.offset).run P w= .ok u w:=λw=>by simp [Go.part,gA s t,G]
      have E:∀w,(Go.part f.type Y.toArray f.offset).run P w= .ok v w:=λw=>by simp [Go.part,gA s t,D]
      have q:=E9 s r x ha hb K d;simp only [Op.eqFields];rw [if_pos I];simp only [Sem.run_bind,F,E,Result.andThen_ok,q];cases c with
      |false=>cases y;simp
      |true=>
       have:=ih (f.offset+1) n j bs e B (C▸ta) (J▸tb) y
       simpa using this
theorem tN(j:da P T)(r:WR T g h w){t:TypeId}{k:Kk}{x y:V}{a b:Value}{e:Bool}(u:kD T t=some k)(n:VR g x a)(q:VR g y b)(i:g7 h k x y=some e):(Op.equal t a b).run P w= .ok e w:=by
 obtain⟨d,h1,h2⟩:=bQ.1 u;have o:=j.under _ _ h1;have one:∀{k':Pk},mD T t=some k'->k= .one k'->(Op.equal t a b).run P w= .ok e w:=by
  intro k' c f;subst f;exact E9 j r c n q (by cases x<;>cases y<;>exact i) 9999
 cases d with
 |struct fs=>
  obtain⟨c,f⟩:=bW.1 h2;obtain⟨v,z,s⟩:=bQ.1 f;cases s;cases x with
  |agg xs=>cases y with
   |agg ys=>
    cases n;cases q
    rename_i us m vs l
    have p:P.fieldsOf t=fs:=by simp [Program.fieldsOf,o]
    show(Op.equalIn (9999+1) t _ _).run P w=_;rw [run_equalIn_agg w 9999 t _ _ (by rw [p];exact o) (j.free t c).1,p];exact Jg j r 9998 us vs fs.toList 0 v xs ys e z (by simpa using m) (by simpa using l) i
   |_=>cases i
  |_=>cases i
 |_=>
  obtain⟨k',c,f⟩:=bQ.1 h2;exact one c (Option.some.inj f).symm
theorem qC{t:TypeId}{d:TypeDesc}{k:Kk}(h1:T.under t=some d)(g:kD T t=some k):(∃fs ks,d= .struct fs/\k= .agg ks/\T.free t=true)\/((∀fs,d≠.struct fs)/\∃q,k= .one q/\mD T t=some q):=by
 obtain⟨d',h2,b⟩:=bQ.1 g;rw [h1]at h2;cases h2;cases d with
 |struct fs=>
  obtain⟨h,a⟩:=bW.1 b;obtain⟨ks,c,f⟩:=bQ.1 a;cases f;exact .inl ⟨fs,ks,rfl,rfl,h⟩
 |_=>
  obtain⟨k',a,c⟩:=bQ.1 b;cases c;exact .inr ⟨(by intro fs e;cases e),k',rfl,a⟩
theorem yt(A:da P T)(r:WR T g h w){neg:Bool}{t F:TypeId}{d:TypeDesc}{k:Kk}{x y:Operand}{a b v:V}(h1:T.under t=some d)(hd:(∃e,d= .pointer e)\/∃fs,d= .struct fs)(z:kD T t=some k)
  (i:VR g a (ρ x)) (p:VR g b (ρ y)) (C:ROp.run (.eq k neg) [a,b] h=some v):∃u,VR g v u/\mQ P ρ w (.binOp (Bool.rec (motive:=λ_=>BinOp) .eql .neq neg) t x y F) u:=by
 obtain⟨e,h2,D⟩:=bQ.1 (show ob (g7 h k a b) (λe=>some (.bool (Bool.rec (motive:=λ_=>Bool) e (!e) neg)))=some v from C);cases D;have n:=tN A r z i p h2;refine⟨_,.bool _,λo s=>?_⟩;have bin:∀{u q:Value},ρ x=u->ρ y=q->((∃c,u= .pointer c)\/(∃c c',u= .agg c/\q= .agg c'))->(binOp (Bool.rec (motive:=λ_=>BinOp) .eql .neq neg) t (ρ x) (ρ y)).run P w= .ok (.bool (Bool.rec (motive:=λ_=>Bool) e (!e) neg)) w:=by
  intro u q m G hc;rw [m,G]at n ⊢;rcases hc with⟨c,rfl⟩ | ⟨c,c',rfl,rfl⟩
  ·cases neg<;>cases q<;>simp [binOp,n]
  ·cases neg<;>simp [binOp,n]
 rcases qC h1 z with⟨fs,ks,rfl,rfl,hf⟩ | ⟨hn,pk,rfl,m⟩
 ·cases a with
  |agg as=>cases b with
   |agg bs=>
    cases f:ρ x<;>rw [f]at i<;>cases i;cases j:ρ y<;>rw [j]at p<;>cases p;have:=bin f j (.inr ⟨_,_,rfl,rfl⟩);rw [f,j]at this;simp only [execOp,s,f,j,Sem.run_bind];rw [run_eqGuard_agg w _ t x y _ _ (A.free t hf).2];simp [this]
   |_=>cases h2
  |_=>cases h2
 ·have l:∃c,ρ x= .pointer c:=by
   rcases hd with⟨el,rfl⟩ | ⟨fs,rfl⟩
   ·obtain⟨d',B,E⟩:=bQ.1 m
    rw [h1]at B;cases B;obtain⟨_,_,q3⟩:=bQ.1 E;cases q3;cases a<;>first
     |(cases f:ρ x<;>rw [f]at i<;>cases i<;>exact⟨_,rfl⟩)|(cases b<;>cases h2)
   ·exact absurd rfl (hn fs)
  obtain⟨c,f⟩:=l;have:=bin f rfl (.inl ⟨c,rfl⟩);simp only [execOp,s,Sem.run_bind];rw [lA (by rw [f];intro cs h;cases h) (by rw [f];intro h;cases h)];simp [this]
theorem g8(r:WR T g h w){id b o z:Nat}{es:List (V×V)}(hg:g id=some (b,o,z))(a:h.entries id=some es):∃m c,w.heap[b]? =some (.map m c)/\qT g es m.toList/\∃od,h.blk id=some (.map es od)/\h.ord id=od/\B9 od m.toList c:=by
 unfold H.entries at a;obtain⟨k,h1,h2⟩:=bQ.1 a;cases k with
 |map es' od=>
  cases h2;obtain⟨l,o',j,m,c,d,e,f,i⟩:=r.blk id _ _ hg h1;rw [hg]at d;cases d;exact⟨m,c,e,f,od,h1,by unfold H.ord;rw [h1],i⟩
 |_=>cases h2
theorem db{b:Nat}{m:Array MapEntry}{c:Nat}(a:w.heap[b]? =some (.map m c)):(getObj b).run P w= .ok (.map m c) w:=by
 simp [getObj,Sem.run,a]
theorem wn(n:da P T)(r:WR T g h w){x:Operand}{t k e:TypeId}{d:Array TypeId}{a v:V}(h0:d[0]? =some t)(h1:T.under t=some (.map k e))(f:VR g a (ρ x))(i:ROp.run .lenMap [a] h=some v):
  ∃u,VR g v u/\∀ty:TypeId,(Builtin.len_ d ty #[ρ x]).run P w= .ok u w:=by
 cases a with
 |nilm=>
  cases i;cases j:ρ x<;>rw [j]at f<;>cases f;exact⟨_,.int .i64 _,λty=>by simp [Builtin.len_,h0,bU n h1,goInt]⟩
 |map id=>
  obtain⟨es,h2,q⟩:=bQ.1 (show ob (h.entries id) (λes=>some (.int .i64 (Int.ofNat (cD es))))=some v from i);cases q;cases j:ρ x<;>rw [j]at f<;>cases f
  rename_i b o z hg
  obtain⟨m,c,s,p,_⟩:=g8 r hg h2;refine⟨_,.int .i64 _,λty=>?_⟩;have l:=p.1.length;simp at l;simp [Builtin.len_,h0,bU n h1,goInt,db s,cq,l]
 |_=>cases i
theorem mA(s:da P T){t:TypeId}{d:TypeDesc}{k:Kk}{x y:V}{a b:Value}{e l:Bool}(h1:T.under t=some d)(n:kD T t=some k)(i:VR g x a)(j:VR g y b)(o:g7 h k x y=some e)(hs:Instr.sameNow d a b=some l):l=e:=by
 have _:=s;rcases qC h1 n with⟨fs,ks,rfl,rfl,hf⟩ | ⟨hn,q,rfl,hp⟩
 ·cases a<;>cases b<;>cases hs
 ·obtain⟨d',m,f⟩:=bQ.1 hp
  rw [h1]at m;cases m;have c:eq1 h q x y=some e:=by cases x<;>cases y<;>exact o
  cases d with
  |int kd=>
   cases f;cases x<;>cases y<;>try (cases c;done)
   obtain⟨p,r⟩:=bW.1 c;cases r;obtain rfl:=tO.1 p;rw [i.int_inv,j.int_inv]at hs;simp [Instr.sameNow]at hs;rw [jc,<-hs]
  |string=>
   cases f;cases x<;>cases y<;>try (cases c;done)
   cases c;cases i;cases j;simp [Instr.sameNow]at hs;rw [eN,eN,lO,<-hs,beq_toListBytes,toList_eq,toList_eq]
  |bool=>
   cases f;cases x<;>cases y<;>try (cases c;done)
   cases c;rw [i.bool_inv,j.bool_inv]at hs;simp [Instr.sameNow]at hs;rw [mN,<-hs]
  |pointer el=>cases a<;>cases b<;>cases hs
  |_=>cases f
inductive B7(g:G):Option V->Nat->Option (Nat×Value)->Prop
 |none {i:Nat}:B7 g none i none
 |some {v:V} {u:Value} {i j:Nat} (h:VR g v u) (hj:i<=j):B7 g (some v) i (some (j,u))
theorem Ac(kk:Kk)(k:V)(e:V×V)(es:List (V×V)):gz h kk k (e ::es)=ob (g7 h kk k e.1) λb=>Bool.rec (motive:=λ_=>Option (Option V)) (gz h kk k es) (some (some e.2)) b:=rfl
theorem G2(y:da P T)(r:WR T g h w){t:TypeId}{d:TypeDesc}{kk:Kk}{x:V}{a:Value}(h1:T.under t=some d)(o:kD T t=some kk)(p:VR g x a):
  ∀(es:List (V×V)) (m:List MapEntry) (i:Nat) (j:Option V),qT g es m->gz h kk x es=some j->∃q,B7 g j i q/\(Instr.findAsking t a m i).run P w= .ok q w/\∀q',Instr.findNow d a m i=some q'->q'=q:=by
 intro es
 induction es with
 |nil=>
  intro m i j n l;cases l;cases m with
  |nil=>exact⟨_,.none,by simp [Instr.findAsking],λq' e=>by simp [Instr.findNow]at e;exact e.symm⟩
  |cons=>have:=n.1.length;simp at this
 |cons e es ih=>
  intro m i j n l;cases m with
  |nil=>have:=n.1.length;simp at this
  |cons f m=>
   rw [Ac]at l;obtain⟨b,h2,z⟩:=bQ.1 l;obtain⟨v,u⟩:=n;cases v with
   |cons hk1 ht1=>cases u with
    |cons hv1 hv2=>
     have k:=tN y r o p hk1 h2;cases b with
     |true=>
      cases z;refine⟨_,.some hv1 (Nat.le_refl i),by simp [Instr.findAsking,k],λq' c=>?_⟩;simp only [Instr.findNow]at c;cases hs:Instr.sameNow d a f.key with
      |none=>rw [hs]at c;cases c
      |some s=>
       rw [mA y h1 o p hk1 h2 hs]at hs;rw [hs]at c;exact(Option.some.inj c).symm
     |false=>
      obtain⟨q,f1,A,f3⟩:=ih m (i+1) j ⟨ht1,hv2⟩ z;refine⟨q,?_,by simp [Instr.findAsking,k,A],λq' c=>?_⟩
      ·cases f1 with
       |none=>exact .none
       |some h hj=>exact .some h (by omega)
      ·simp only [Instr.findNow]at c
       cases hs:Instr.sameNow d a f.key with
       |none=>rw [hs]at c;cases c
       |some s=>
        rw [mA y h1 o p hk1 h2 hs]at hs;rw [hs]at c;exact f3 q' c
theorem tF(c:da P T)(r:WR T g h w){t:TypeId}{d:TypeDesc}{kk:Kk}{x:V}{a:Value}{es:List (V×V)}{m:List MapEntry}{b:Option V}(h1:T.under t=some d)(e:kD T t=some kk)(i:VR g x a)(l:qT g es m)
  (f:gz h kk x es=some b):∃q,B7 g b 0 q/\(Instr.findKey t a m).run P w= .ok q w:=by
 obtain⟨q,f1,k,f3⟩:=G2 c r h1 e i es m 0 b l f;refine⟨q,f1,?_⟩;simp only [Instr.findKey,Sem.run_bind,bU c h1,Result.andThen_ok];cases j:Instr.findNow d a m 0 with
 |none=>exact k
 |some q'=>rw [f3 q' j];rfl
theorem nI(b:da P T){t:TypeId}{k:Pk}(a:mD T t=some k)(e:Bool)(n:Nat)(v:Value):(Instr.checkKey e (n+1) t v).run P w= .ok () w:=by
 obtain⟨d,h1,h2⟩:=bQ.1 a;cases d<;>first|(cases h2;done)|(cases v<;>simp [Instr.checkKey,bU b h1])
theorem tW(hT:da P T)(e:Bool)(n:Nat)(X:List Value):∀(fs:List Field) (i:Nat) (ks:List Pk),kI T fs i=some ks->i+ks.length<=X.length->
  (forIn (m:=Sem) fs PUnit.unit λf (_:PUnit)=>if f.name≠ "_" then do let __do_lift <-Go.part f.type X.toArray f.offset;Instr.checkKey e (n+1) f.type __do_lift;pure (ForInStep.yield PUnit.unit)else pure (ForInStep.yield PUnit.unit)).run P w= .ok PUnit.unit w:=by
 intro fs
 induction fs with
 |nil=>intro i ks h _;simp
 |cons f fs ih=>
  intro i ks h hl;obtain⟨rfl,hn,k,ks',h5,h6,rfl⟩:=og h;simp only [List.length_cons]at hl;have p1:(Go.part f.type X.toArray f.offset).run P w= .ok X[f.offset] w:=by
   have:X[f.offset]? =some X[f.offset]:=List.getElem?_eq_getElem (by omega);simp [Go.part,gA hT (sR h5),this]
  rw [List.forIn_cons];simp only [if_pos hn,Sem.run_bind,p1,Result.andThen_ok,nI hT h5,Sem.run_pure];exact ih (f.offset+1) ks' h6 (by omega)
theorem rM(b:da P T){t:TypeId}{fs:Array Field}{a:List Pk}{us:List Value}(h1:T.under t=some (.struct fs))(c:kI T fs.toList 0=some a)(d:a.length<=us.length)(e:Bool)(n:Nat):(Instr.checkKey e (n+1+1) t (.agg us.toArray)).run P w= .ok () w:=by
 have:=tW (w:=w) b e n us fs.toList 0 a c (by omega);rw [Array.forIn_toList]at this;rw [Instr.checkKey];simp only [Sem.run_bind,bU b h1,Result.andThen_ok];rw [this];rfl
theorem jL(i:da P T){t:TypeId}{kk:Kk}{x:V}{a:Value}(b:kD T t=some kk)(k:VR g x a)(f:fZ kk x=true)(e:Bool):(Instr.checkKey e 10000 t a).run P w= .ok () w:=by
 obtain⟨d,h1,_⟩:=bQ.1 b;rcases qC h1 b with⟨fs,ks,rfl,rfl,hf⟩ | ⟨hn,pk,rfl,hp⟩
 ·obtain⟨d',h,m⟩:=bQ.1 b
  rw [h1]at h;cases h;obtain⟨_,p⟩:=bW.1 m;obtain⟨l,o,j⟩:=bQ.1 p;cases j;cases x with
  |agg xs=>
   cases k
   rename_i us c
   have q:ks.length=xs.length:=by
    have:Nat.beq (cD ks) (cD xs)=true:=f
    simpa [cq]using this
   have n:=c.length;exact rM i h1 o (by omega) e 9998
  |_=>cases f
 ·exact nI i hp e 9999 a
theorem wj(j:da P T)(r:WR T g h w){t K e:TypeId}{kk:Kk}{ok:Bool}{z:V}{x y:Operand}{a b v:V}(h1:T.under t=some (.map K e))(p:kD T K=some kk)(hz:iV T e=some z)
  (s:VR g a (ρ x)) (A:VR g b (ρ y)) (C:ROp.run (.lookup kk ok z) [a,b] h=some v):∃u,VR g v u/\mQ P ρ w (.lookup t x y ok) u:=by
 obtain⟨J,l,k⟩:=iB (g:=g) j hz;obtain⟨d,hd,_⟩:=bQ.1 p;cases a with
 |nilm=>
  obtain⟨G,D⟩:=bW.1 (show oif (fZ kk b) (some (i6 ok z none))=some v from C);cases D;have i:ρ x= .map none:=by cases i:ρ x<;>rw [i]at s<;>cases s;rfl
  obtain⟨q,f1,n⟩:=tF j r hd p A (es:=[]) (m:=[]) ⟨.nil,.nil⟩ rfl;have hc:=λE=>jL (w:=w) j p A G E;cases f1;cases ok with
  |false=>exact⟨J,l,λo f=>by simp [execOp,f,i,Instr.lookup,bU j h1,hc,n,k]⟩
  |true=>exact⟨_,.tup (.cons l (.cons (.bool false) .nil)),λo f=>by simp [execOp,f,i,Instr.lookup,bU j h1,hc,n,k]⟩
 |map id=>
  obtain⟨G,D⟩:=bW.1 (show oif (fZ kk b) (ob (h.entries id) λes=>ob (gz h kk b es) λr=>some (i6 ok z r))=some v from C);obtain⟨es,q3,Q⟩:=bQ.1 D;obtain⟨M,O,L⟩:=bQ.1 Q;cases L;obtain⟨F,o,I,hg,i⟩:∃F o I,g id=some (F,o,I)/\ρ x= .map (some F):=by
   cases i:ρ x<;>rw [i]at s<;>cases s;exact⟨_,_,_,‹_›,rfl⟩
  obtain⟨m,c,B,N,_⟩:=g8 r hg q3;obtain⟨q,f1,n⟩:=tF j r hd p A N O;have hc:=λE=>jL (w:=w) j p A G E;cases f1 with
  |none=>
   cases ok with
   |false=>exact⟨J,l,λo f=>by simp [execOp,f,i,Instr.lookup,bU j h1,db B,hc,n,k]⟩
   |true=>exact⟨_,.tup (.cons l (.cons (.bool false) .nil)),λo f=>by simp [execOp,f,i,Instr.lookup,bU j h1,db B,hc,n,k]⟩
  |some hvu _=>
   cases ok with
   |false=>exact⟨_,hvu,λo f=>by simp [execOp,f,i,Instr.lookup,bU j h1,db B,hc,n]⟩
   |true=>exact⟨_,.tup (.cons hvu (.cons (.bool true) .nil)),λo f=>by simp [execOp,f,i,Instr.lookup,bU j h1,db B,hc,n]⟩
 |_=>cases C
theorem wO(v:V)(l:List V):jw (v ::l)=match v with
  |.int .u8 n=>Int.rec (motive:=λ_=>Option Nat) (λm=>ob (jw l) λr=>some (Nat.add (Nat.mod m 256) (Nat.mul 256 r))) (λ_=>none) n
  |_=>none:=rfl
theorem tZ:∀{l:List V} {us:List Value} {c:Nat},VRs g l us->jw l=some c->∃xs:List Int,us=xs.map (Value.int .u8)/\ck (strOfNums xs).data.toList=c
 |[],_,_,.nil,e=>by cases e;exact⟨[],rfl,rfl⟩
 |v ::l,_,_,.cons h t,e=>by
  rw [wO]at e;cases v with
  |int k n=>
   cases k with
   |u8=>
    cases n with
    |ofNat m=>
     obtain⟨r,e1,e2⟩:=bQ.1 (show ob (jw l) (λr=>some (Nat.add (Nat.mod m 256) (Nat.mul 256 r)))=some _ from e);cases e2;obtain⟨xs,k1,k2⟩:=tZ t e1;have:=h.int_inv;subst this;refine⟨Int.ofNat m ::xs,by rw [k1];rfl,?_⟩;rw [strOfNums_data]at k2 ⊢;show(UInt8.ofNat (Int.ofNat m).toNat).toNat+256*ck (xs.map λn=>UInt8.ofNat n.toNat)=_;rw [k2];simp;rfl
    |negSucc m=>cases e
   |_=>cases e
  |_=>cases e
theorem CV(j:da P T)(r:WR T g h w){s d e:TypeId}{x:Operand}{vs:List V}{v:V}(h1:T.under s=some (.slice e))(h2:T.under e=some (.int .u8))(B:T.under d=some .string)(I:VRs g vs [ρ x])(A:ROp.run .b2s vs h=some v):
  ∃u,VR g v u/\mQ P ρ w (.convert s d x) u:=by
 obtain⟨y,rfl,q⟩:=I.one;cases y with
 |nils=>
  cases A;cases f:ρ x<;>rw [f]at q<;>cases q;refine⟨.string ByteArray.empty,.str ByteArray.empty,λo m=>?_⟩;simp [execOp,m,f,run_convert_bytes_nil w s e (j.under _ _ h1) (j.under _ _ h2) 0 0 d (j.under _ _ B)]
 |sl id off len cap ex es=>
  obtain⟨M,G⟩:=bW.1 (show oif (Nat.beq es 1) (ob (h.rd id off len) λl=>ob (jw l) λc=>some (.str len c))=some v from A);obtain⟨l,q3,J⟩:=bQ.1 G;obtain⟨c,D,F⟩:=bQ.1 J;cases F;have n:∀{b o z a:Nat},g id=some (b,o,z)->ρ x= .slice (some ⟨b,o+off,none⟩) len a->∃u,VR g (.str len c) u/\mQ P ρ w (.convert s d x) u:=by
   intro b o z a hg f;obtain⟨us,K,L,E,_⟩:=Bp r hg q3;obtain⟨xs,n1,n2⟩:=tZ K D;have t:xs.length=len:=by rw [<-L,n1];simp
   have hs:(strOfNums xs).size=len:=by rw [strOfNums_size,t]
   refine⟨.string (strOfNums xs),?_,λo' m=>?_⟩
   ·have:=VR.str (g:=g) (strOfNums xs)
    rwa [hs,n2]at this
   ·have:=run_convert_bytes_arg (P:=P) w s e (j.under _ _ h1) (j.under _ _ h2) b (o+off) len a xs t (λi hi=>by
     have C:i<xs.length:=by omega
     refine E i _ ?_;rw [n1];simp [List.getD,List.getElem?_eq_getElem C]) d (j.under _ _ B)
    simp [execOp,m,f,this]
  cases f:ρ x<;>rw [f]at q<;>cases q
  ·exact n ‹_› f
  ·exact n ‹_› f
  all_goals
   refine⟨.string ByteArray.empty,?_,λo m=>?_⟩
   ·have t:l=[]:=by
     have:h.rd id off 0=some l:=q3;unfold H.rd at this;obtain⟨p,_,k⟩:=bQ.1 this;cases k;rfl
    subst t;cases D;exact .str ByteArray.empty
   ·have key:=λb p:Nat=>run_convert_bytes_arg (P:=P) w s e (j.under _ _ h1) (j.under _ _ h2) b p 0 0 [] rfl (λi hi=>absurd hi (Nat.not_lt_zero _)) d (j.under _ _ B)
    simp [execOp,m,f,key];rfl
 |_=>cases A
end
end
section
variable [Env]
set_option linter.unusedSectionVars false
section
variable {P:Program} {T:Ty} {g:G} {ρ:Operand->Value} {h:H} {w:World}
theorem LW(F:da P T)(r:WR T g h w)(hE:lF g w){op:Op}{ro:ROp}{os:List Operand}(hc:bT T op=some (.r ro,os)){vs:List V}{v:V}(D:VRs g vs (os.map ρ))(C:ro.run vs h=some v):∃u,VR g v u/\mQ P ρ w op u:=by
 cases op
 case load t x=>
  simp only [bT]at hc;obtain⟨b,h1,h2⟩:=bQ.1 hc;obtain⟨n,q,j⟩:=bQ.1 h2;cases j;obtain⟨u,O,_,k3⟩:=tp F r hE h1 q D C;exact⟨u,O,k3⟩
 case binOp op t x y t'=>
  have J:∀{neg I:Bool} {d:TypeDesc},T.under t=some d->tM T t neg I d=some (.r ro)->os=[x,y]->∃u,VR g v u/\mQ P ρ w (.binOp (Bool.rec (motive:=λ_=>BinOp) .eql .neq neg) t x y t') u:=by
   intro neg I d h1 h2 q;subst q;obtain⟨a,b,rfl,A,L⟩:=D.two;cases d with
   |interface e=>obtain⟨j,B⟩:=bW.1 h2;cases B
   |pointer e=>obtain⟨k,j,B⟩:=bQ.1 h2;cases B;exact yt F r h1 (.inl ⟨_,rfl⟩) j A L C
   |struct fs=>obtain⟨k,j,B⟩:=bQ.1 h2;cases B;exact yt F r h1 (.inr ⟨_,rfl⟩) j A L C
   |_=>cases h2
  cases op
  case eql=>
   simp only [bT]at hc;obtain⟨d,h1,h2⟩:=bQ.1 hc;obtain⟨c,q,j⟩:=bQ.1 h2;cases j;exact J (neg:=false) h1 q rfl
  case neq=>
   simp only [bT]at hc;obtain⟨d,h1,h2⟩:=bQ.1 hc;obtain⟨c,q,j⟩:=bQ.1 h2;cases j;exact J (neg:=true) h1 q rfl
  all_goals cases hc
 case lookup t x k ok=>
  simp only [bT]at hc;obtain⟨d,h1,h2⟩:=bQ.1 hc;cases d with
  |map kt e=>
   obtain⟨kk,q,j⟩:=bQ.1 h2;obtain⟨z,B,G⟩:=bQ.1 j;cases G;obtain⟨a,b,rfl,A,L⟩:=D.two;exact wj F r h1 q B A L C
  |_=>cases h2
 case call c=>
  obtain⟨callee,args,argTypes⟩:=c;simp only [bT]at hc;cases callee with
  |value x=>cases x<;>cases hc
  |invoke r m=>cases hc
  |builtin b=>
   obtain⟨t,h1,h2⟩:=bQ.1 hc;obtain⟨d,q,j⟩:=bQ.1 h2;have M:argTypes[0]? =some t:=by rw [dS]at h1;simpa using h1
   cases b
   case len=>
    cases d with
    |map k e=>
     cases j;have K:∃a,vs=[a]:=by
      cases vs with
      |nil=>cases C
      |cons a vs=>cases vs with
       |nil=>exact⟨a,rfl⟩
       |cons b vs=>cases a<;>cases C
     obtain⟨a,rfl⟩:=K;obtain⟨x,R⟩:∃x,args.toList=[x]:=by
      have:=D.length;simp at this;cases A:args.toList with
      |nil=>rw [<-Array.length_toList,A]at this;cases this
      |cons x l=>cases l with
       |nil=>exact⟨x,rfl⟩
       |cons y l=>rw [<-Array.length_toList,A]at this;simp at this
     rw [R]at D;obtain⟨a',U,h⟩:=D.one;cases U;obtain⟨u,O,Y⟩:=wn F r M q h C;have A:args.map ρ=#[ρ x]:=by apply Array.ext';simp [R]
     exact⟨u,O,λo e=>by simp [execOp,e,resolve,invoke,builtin,A,Y]⟩
    |_=>cases j
   case append=>
    cases d with
    |slice e=>
     obtain⟨n,_,f⟩:=bQ.1 j;obtain⟨_,_,p⟩:=bQ.1 f;obtain⟨_,_,E⟩:=bQ.1 p;obtain⟨_,a4⟩:=bW.1 E;obtain⟨_,_,Z⟩:=bQ.1 a4;obtain⟨_,_,Q⟩:=bQ.1 Z
     split at Q<;>cases Q
    |_=>cases j
   case copy=>
    cases d with
    |slice e=>
     obtain⟨n,_,f⟩:=bQ.1 j;cases f
    |_=>cases j
   case clear=>
    cases d with
    |slice e=>
     obtain⟨n,_,f⟩:=bQ.1 j;obtain⟨_,_,p⟩:=bQ.1 f;cases p
    |_=>cases j
   case delete=>
    cases d with
    |map k e=>
     obtain⟨_,_,f⟩:=bQ.1 j;cases f
    |_=>cases j
   all_goals (cases d<;>cases j)
 case alloc t=>
  simp only [bT]at hc;obtain⟨_,_,h⟩:=bQ.1 hc;cases h
 case build t ps=>
  simp only [bT]at hc;obtain⟨z,h1,h2⟩:=bQ.1 hc;obtain⟨d,q,j⟩:=bQ.1 h2;cases d with
  |struct fs=>
   obtain⟨pl,B,G⟩:=bQ.1 j;obtain⟨l,h7,S⟩:=bQ.1 G;cases S
  |array k e=>
   obtain⟨n,B,G⟩:=bQ.1 j;cases G
  |_=>cases j
 case buildSlice t n ps=>
  simp only [bT]at hc;obtain⟨d,_,h⟩:=bQ.1 hc;cases d with
  |slice e=>
   obtain⟨_,_,f⟩:=bQ.1 h;obtain⟨_,_,p⟩:=bQ.1 f;obtain⟨_,E⟩:=bW.1 p;cases E
  |_=>cases h
 case insert t m k x=>
  simp only [bT]at hc;obtain⟨d,_,h⟩:=bQ.1 hc;cases d with
  |map k e=>
   obtain⟨_,_,f⟩:=bQ.1 h;cases f
  |_=>cases h
 case mapEntry t m k=>
  simp only [bT]at hc;obtain⟨d,_,h⟩:=bQ.1 hc;cases d with
  |map k e=>
   obtain⟨_,_,f⟩:=bQ.1 h;obtain⟨_,_,p⟩:=bQ.1 f;cases p
  |_=>cases h
 case mapUpdate t m k x=>
  simp only [bT]at hc;obtain⟨d,_,h⟩:=bQ.1 hc;cases d with
  |map k e=>
   obtain⟨_,_,f⟩:=bQ.1 h;cases f
  |_=>cases h
 case store t a x=>
  simp only [bT]at hc;obtain⟨_,_,f⟩:=bQ.1 hc;cases f
 case convert s d x=>
  simp only [bT]at hc;obtain⟨a,h1,h2⟩:=bQ.1 hc;obtain⟨b,q,j⟩:=bQ.1 h2;cases a with
  |slice e=>
   cases b with
   |string=>
    obtain⟨W,rfl,e2,e3⟩:=gF j;cases W;exact CV F r h1 e2 q D C
   |_=>cases j
  |_=>cases b<;>cases j
 case makeInterface t x=>
  simp only [bT]at hc;obtain⟨d,h1,h2⟩:=bQ.1 hc;cases d<;>cases h2
 case makeFunc fn a b=>cases fn<;>cases hc
 case makeMap t r=>
  simp only [bT]at hc;obtain⟨d,_,h⟩:=bQ.1 hc;cases d<;>cases h
 case makeSlice t l c=>
  simp only [bT]at hc;obtain⟨d,_,h⟩:=bQ.1 hc;cases d with
  |slice e=>
   obtain⟨_,_,f⟩:=bQ.1 h;obtain⟨_,_,p⟩:=bQ.1 f;obtain⟨_,_,E⟩:=bQ.1 p;obtain⟨_,a4⟩:=bW.1 E;cases a4
  |_=>cases h
 case slice t x lo hi mx=>
  simp only [bT]at hc;obtain⟨d,_,h⟩:=bQ.1 hc;cases d with
  |string=>cases h
  |slice e=>obtain⟨_,_,f⟩:=bQ.1 h;cases f
  |array k e=>obtain⟨_,_,f⟩:=bQ.1 h;cases f
  |_=>cases h
 case fieldAddr t x i=>
  simp only [bT]at hc;obtain⟨d,_,h⟩:=bQ.1 hc;cases d with
  |struct fs=>
   obtain⟨_,_,f⟩:=bQ.1 h;obtain⟨_,_,p⟩:=bQ.1 f;cases p
  |_=>cases h
 case field t x i=>
  simp only [bT]at hc;obtain⟨d,_,h⟩:=bQ.1 hc;cases d with
  |struct fs=>
   obtain⟨_,_,f⟩:=bQ.1 h;obtain⟨_,_,p⟩:=bQ.1 f;obtain⟨_,_,E⟩:=bQ.1 p;cases E
  |_=>cases h
 case indexAddr t x i=>
  simp only [bT]at hc;obtain⟨d,_,h⟩:=bQ.1 hc;cases d with
  |slice e=>obtain⟨_,_,f⟩:=bQ.1 h;cases f
  |array k e=>obtain⟨_,_,f⟩:=bQ.1 h;cases f
  |_=>cases h
 case index t x i=>
  simp only [bT]at hc;obtain⟨d,_,h⟩:=bQ.1 hc;cases d with
  |string=>cases h
  |array k e=>
   obtain⟨_,_,f⟩:=bQ.1 h;obtain⟨_,_,p⟩:=bQ.1 f;cases p
  |_=>cases h
 case range t x=>
  simp only [bT]at hc;obtain⟨d,_,h⟩:=bQ.1 hc;cases d<;>cases h
 case next x b=>cases b<;>cases hc
 all_goals cases hc
end
end
end Ev
end Go.Proofs.YtdfphfdnoobikaaGreatDoor
