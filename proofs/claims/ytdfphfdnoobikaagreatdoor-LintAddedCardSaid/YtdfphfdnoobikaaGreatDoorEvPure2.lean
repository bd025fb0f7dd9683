/-
  All operations that only compute.
-/
import Derived.Test.YtdfphfdnoobikaaGreatDoorEvPure
import Derived.Laws.Cells
import Derived.Laws.StructEq
import Derived.Laws.BytesArg
namespace Go.Proofs.YtdfphfdnoobikaaGreatDoor
namespace Ev
section
variable [Env]
set_option linter.unusedSectionVars false
section
variable {P:Program} {T:Ty} {g:G} {ρ:Operand->Value}
theorem yM{o:POp}{v r:V}(h:POp.run o [v]=some r)(h1:∀z p,o≠.build z p)(h2:∀f n,o≠.mkf f n)(h3:∀k a b c,o≠.slc k a b c)(h4:o≠.mins)(h5:o≠.maxs):POp.run1 o v=some r:=by
 cases o<;>first|exact absurd rfl (h1 _ _)|exact absurd rfl (h2 _ _)|exact absurd rfl (h3 _ _ _ _)|exact absurd rfl h4|exact absurd rfl h5|exact h|(cases v<;>cases h)
theorem Au{k:Ek}(hk:k≠.i){a b:V}{u:Value}{r:Bool}(h:VR g a u)(hr:eqD k a b=some r):
  (∀cs,u≠.agg cs)/\u≠.nilIface/\(∀k a,u≠.int k a)/\(∀s,u≠.string s)/\(∀k a,u≠.float k a)/\(∀k a b,u≠.complex k a b):=by
 cases h<;>first
  |(refine⟨?_,?_,?_,?_,?_,?_⟩<;>intros<;>intro e<;>cases e;done)|(cases k<;>first|exact absurd rfl hk|(cases b<;>cases hr))
theorem lL(hT:cN P T){k:Ek}{neg:Bool}{t t':TypeId}{d:TypeDesc}{x y:Operand}{a b v:V}(h1:T.under t=some d)
  (hd:(d= .bool/\k= .b)\/(∃e,d= .slice e/\k= .s)\/(∃p e,d= .map p e/\k= .m)\/(∃p q z,d= .func p q z/\k= .f))
  (ha:VR g a (ρ x)) (hb:VR g b (ρ y)) (hr:POp.run2 (.eqd k neg) a b=some v):∃u,VR g v u/\dP P ρ (.binOp (Bool.rec (motive:=λ_=>BinOp) .eql .neq neg) t x y t') u:=by
 obtain⟨r,h2,h3⟩:=bE.1 (show ob (eqD k a b) (λr=>some (.bool (Bool.rec (motive:=λ_=>Bool) r (!r) neg)))=some v from hr);cases h3;refine⟨_,.bool _,?_⟩;have hu:=hT.under _ _ h1;have he:∀w,(Op.equal t (ρ x) (ρ y)).run P w= .ok r w:=by
  intro w;rcases hd with⟨rfl,rfl⟩ | ⟨e,rfl,rfl⟩ | ⟨p,e,rfl,rfl⟩ | ⟨p,q,z,rfl,rfl⟩
  ·cases a<;>cases b<;>cases h2
   rw [ha.bool_inv,hb.bool_inv,kE];exact xK hu _ _ w
  ·exact vS hu ha hb h2 w
  ·exact As hu ha hb h2 w
  ·exact xJ hu ha hb h2 w
 obtain⟨s1,s2,s3,s4,s5,s6⟩:=Au (by rcases hd with⟨_,rfl⟩ | ⟨_,_,rfl⟩ | ⟨_,_,_,rfl⟩ | ⟨_,_,_,_,rfl⟩<;>intro e<;>cases e) ha h2;exact sE (jH s1 s2) s3 s4 s5 s6 he
theorem Ad(hT:cN P T){neg:Bool}{t t':TypeId}{ms:Array (String×TypeId)}{x y:Operand}{a b v:V}(h1:T.under t=some (.interface ms))(hxy:(isC x||isC y)=true)
  (ha:VR g a (ρ x)) (hb:VR g b (ρ y)) (hr:POp.run2 (.eqd .i neg) a b=some v):∃u,VR g v u/\dP P ρ (.binOp (Bool.rec (motive:=λ_=>BinOp) .eql .neq neg) t x y t') u:=by
 obtain⟨r,h2,h3⟩:=bE.1 (show ob (eqD .i a b) (λr=>some (.bool (Bool.rec (motive:=λ_=>Bool) r (!r) neg)))=some v from hr);cases h3;refine⟨_,.bool _,?_⟩;have hu:=hT.under _ _ h1;have hgd:∀(op:BinOp) (p q:Value),(∀cs,p≠.agg cs)->eqGuard op t x y p q=pure ():=by
  intro op p q hp;cases p<;>first|exact absurd rfl (hp _)|(cases op<;>rfl)|skip
  cases q<;>first|(cases op<;>rfl)|skip
  cases x<;>cases y<;>first|(cases hxy;done)|(cases op<;>rfl)
 have main:∀{p q:Value},ρ x=p->ρ y=q->VR g a p->VR g b q->dP P ρ (.binOp (Bool.rec (motive:=λ_=>BinOp) .eql .neq neg) t x y t') (.bool (Bool.rec (motive:=λ_=>Bool) r (!r) neg)):=by
  intro p q hp hq ha hb;have he:∀w,(Op.equal t (ρ x) (ρ y)).run P w= .ok r w:=by
   intro w;obtain⟨d,e⟩:=jq t (ρ x) (ρ y);rw [e,hp,hq];clear e hp hq;cases ha<;>cases hb<;>simp [eqD]at h2<;>subst h2<;>simp [Op.equalIn,run_underlying hu]
  refine sE ?_ ?_ ?_ ?_ ?_ he
  ·rw [hp,hq]
   refine hgd _ _ _ ?_;cases ha<;>cases hb<;>simp [eqD]at h2<;>intros<;>intro hh<;>cases hh
  all_goals (rw [hp];cases ha<;>cases hb<;>simp [eqD]at h2<;>intros<;>intro hh<;>cases hh)
 exact main rfl rfl ha hb
theorem Ir(hT:cN P T){op:Op}{po:POp}{os:List Operand}(hc:bI T op=some (.p po,os)){vs:List V}{v:V}(hv:VRs g vs (os.map ρ))(hr:po.run vs=some v):∃u,VR g v u/\dP P ρ op u:=by
 cases op
 case move x=>
  cases hc;obtain⟨a,rfl,h⟩:=hv.one;cases hr;exact xu h
 case assign x=>
  cases hc;obtain⟨a,rfl,h⟩:=hv.one;cases hr;exact tY h
 case pick c a b=>
  cases hc;obtain⟨x,y,z,rfl,h1,h2,h3⟩:=hv.three;cases x<;>cases hr;exact xr h1 h2 h3
 case build t ps=>
  simp only [bI]at hc;obtain⟨z,h1,h2⟩:=bE.1 hc;obtain⟨d,h3,h4⟩:=bE.1 h2;cases d with
  |struct fs=>
   obtain⟨pl,h5,h6⟩:=bE.1 h4;obtain⟨l,h7,h8⟩:=bE.1 h6;cases h8;obtain⟨cs,h9,h10⟩:=bE.1 (show ob (jo l vs (cellsOf z)) (λcs=>some (.agg cs))=some v from hr);cases h10;exact ni hT h1 h3 h5 h7 hv h9
  |array k e=>
   obtain⟨n,h5,h6⟩:=bE.1 h4;cases h6;obtain⟨cs,h9,h10⟩:=bE.1 (show ob (jo (ps.toList.map λp=>(Nat.mul p.1 n,n)) vs (cellsOf z)) (λcs=>some (.agg cs))=some v from hr);cases h10;exact oz hT h1 h3 h5 hv h9
  |_=>cases h4
 case nilCheck x=>
  cases hc;obtain⟨a,rfl,h⟩:=hv.one;exact qT h hr
 case unOp op t x=>
  cases hc;obtain⟨a,rfl,h⟩:=hv.one;exact xq h hr
 case binOp op t x y t'=>
  have eq2:∀{neg:Bool} {d:TypeDesc},T.under t=some d->re T t neg (isC x||isC y) d=some (.p po)->os=[x,y]->∃u,VR g v u/\dP P ρ (.binOp (Bool.rec (motive:=λ_=>BinOp) .eql .neq neg) t x y t') u:=by
   intro neg d h1 h2 h3;subst h3;obtain⟨a,b,rfl,ha,hb⟩:=hv.two;cases d with
   |int k=>cases h2;exact oA ha hb hr
   |string=>cases h2;exact oA ha hb hr
   |interface e=>obtain⟨h4,h5⟩:=bK.1 h2;cases h5;exact Ad hT h1 h4 ha hb hr
   |bool=>cases h2;exact lL hT h1 (.inl ⟨rfl,rfl⟩) ha hb hr
   |slice e=>cases h2;exact lL hT h1 (.inr (.inl ⟨e,rfl,rfl⟩)) ha hb hr
   |map p e=>cases h2;exact lL hT h1 (.inr (.inr (.inl ⟨p,e,rfl,rfl⟩))) ha hb hr
   |func p q z=>cases h2;exact lL hT h1 (.inr (.inr (.inr ⟨p,q,z,rfl,rfl⟩))) ha hb hr
   |pointer e=>obtain⟨n,_,h5⟩:=bE.1 h2;cases h5
   |struct fs=>obtain⟨n,_,h5⟩:=bE.1 h2;cases h5
   |_=>cases h2
  cases op
  case eql=>
   simp only [bI]at hc;obtain⟨d,h1,h2⟩:=bE.1 hc;obtain⟨c,h3,h4⟩:=bE.1 h2;cases h4;exact eq2 (neg:=false) h1 h3 rfl
  case neq=>
   simp only [bI]at hc;obtain⟨d,h1,h2⟩:=bE.1 hc;obtain⟨c,h3,h4⟩:=bE.1 h2;cases h4;exact eq2 (neg:=true) h1 h3 rfl
  all_goals
   cases hc;obtain⟨a,b,rfl,ha,hb⟩:=hv.two;exact oA ha hb hr
 case convert s d x=>
  simp only [bI]at hc;obtain⟨a,h1,h2⟩:=bE.1 hc;obtain⟨b,h3,h4⟩:=bE.1 h2;have hI:∀k,a= .int k->∃k',b= .int k':=by
   intro k e;subst e;cases b<;>first|exact⟨_,rfl⟩|cases h4
  cases a with
  |int k=>
   obtain⟨k',rfl⟩:=hI k rfl;cases h4;obtain⟨x',rfl,h⟩:=hv.one;exact vB hT h1 h3 h (by cases x'<;>first|exact hr|cases hr)
  |string=>
   cases b with
   |string=>
    cases h4;obtain⟨x',rfl,h⟩:=hv.one;cases x' with
    |str n c=>
     cases hr;exact vC hT h1 h3 h (by cases hx:ρ x<;>rw [hx]at h<;>cases h;exact⟨_,rfl⟩)
    |_=>cases hr
   |_=>cases h4
  |_=>cases b<;>first|(cases h4;done)|(cases(fj h4).1)
 case makeInterface t x=>
  simp only [bI]at hc;obtain⟨d,h1,h2⟩:=bE.1 hc;have hd:∀m,d≠.interface m:=by intro m e;subst e;cases h2
  have:(COp.p (.mki t),[x])=(COp.p po,os):=by cases d<;>first|exact absurd rfl (hd _)|exact Option.some.inj h2
  cases this;obtain⟨a,rfl,h⟩:=hv.one;have e:v= .iface t a:=by
   have:POp.run1 (.mki t) a=some v:=yM hr (by intros;intro e;cases e) (by intros;intro e;cases e) (by intros;intro e;cases e) (by intro e;cases e) (by intro e;cases e);cases a<;>cases this<;>rfl
  subst e;exact lP hT h1 hd h
 case makeFunc fn first captured=>
  cases fn with
  |func f=>
   cases hc;obtain⟨a,h1,h2⟩:=bE.1 (show ob (gI first.size vs) _=some v from hr);cases h2;exact qU hv h1
  |_=>cases hc
 case extract x i=>
  cases hc;obtain⟨a,rfl,h⟩:=hv.one;cases a<;>first|exact rK h hr|cases hr
 case slice t x lo hi mx=>
  simp only [bI]at hc;obtain⟨d,h1,h2⟩:=bE.1 hc;have main:∀k,po= .slc k lo.isSome hi.isSome mx.isSome->os=x ::(mV lo++mV hi++mV mx)->
    (∀a lv hv' mv,VR g a (ρ x)->OV g lv (lo.map ρ)->OV g hv' (hi.map ρ)->OV g mv (mx.map ρ)->(mv≠none->hv'≠none)->uO k a lv hv' mv=some v->∃u,VR g v u/\dP P ρ (.slice t x lo hi mx) u)->∃u,VR g v u/\dP P ρ (.slice t x lo hi mx) u:=by
   intro k e1 e2 K;subst e1 e2;cases hv with
   |cons ha ht=>
    rename_i a tl
    obtain⟨q1,q2⟩:=bK.1 (show oif (!mx.isSome||hi.isSome) _=some v from hr);obtain⟨p,k1,k2⟩:=bE.1 q2;obtain⟨q,k3,k4⟩:=bE.1 k2;obtain⟨r,k5,k6⟩:=bE.1 k4;obtain⟨lv,t1⟩:=p;obtain⟨hv',t2⟩:=q;obtain⟨mv,t3⟩:=r;rw [List.append_assoc]at ht;obtain⟨o1,ht1⟩:=qF ht k1;obtain⟨o2,ht2⟩:=qF ht1 k3;obtain⟨o3,ht3⟩:=qF (rest:=[]) (by simpa using ht2) k5;refine K a lv hv' mv ha o1 o2 o3 ?_ k6;intro hm hh;subst hh;cases mx with
    |none=>cases o3;exact hm rfl
    |some _=>cases hi with
     |none=>cases q1
     |some _=>cases o2
  cases d with
  |string=>
   cases h2;refine main .str rfl rfl λa lv hv' mv ha o1 o2 o3 o4 hk=>?_;cases a with
   |str n c=>
    cases mv with
    |none=>
     have:mx=none:=by
      cases mx with
      |none=>rfl
      |some _=>cases o3
     subst this;exact tT hT h1 ha o1 o2 hk
    |some _=>cases hk
   |_=>cases hk
  |slice e=>
   obtain⟨n,h3,h4⟩:=bE.1 h2;cases h4;exact main (.sl n) rfl rfl λa lv hv' mv ha o1 o2 o3 o4 hk=>vD hT h1 h3 ha o1 o2 o3 o4 hk
  |array k e=>
   obtain⟨n,h3,h4⟩:=bE.1 h2;cases h4;refine main (.arr k n) rfl rfl λa lv hv' mv ha o1 o2 o3 o4 hk=>?_;cases a with
   |ptr id off=>exact tU hT h1 h3 ha o1 o2 o3 o4 hk
   |_=>cases hk
  |_=>cases h2
 case fieldAddr t x i=>
  simp only [bI]at hc;obtain⟨d,h1,h2⟩:=bE.1 hc;cases d with
  |struct fs=>
   obtain⟨f,h3,h4⟩:=bE.1 h2;obtain⟨n,h5,h6⟩:=bE.1 h4;cases h6;obtain⟨a,rfl,h⟩:=hv.one;cases a<;>cases hr
   ·exact pE hT h1 h3 h5 h
   ·exact ou hT h1 h3 h5 h
  |_=>cases h2
 case field t x i=>
  simp only [bI]at hc;obtain⟨d,h1,h2⟩:=bE.1 hc;cases d with
  |struct fs=>
   obtain⟨f,h3,h4⟩:=bE.1 h2;obtain⟨b,h5,h6⟩:=bE.1 h4;obtain⟨n,h7,h8⟩:=bE.1 h6;cases h8;obtain⟨a,rfl,h⟩:=hv.one;cases a<;>first|exact vH hT h1 h3 h5 h7 h hr|cases hr
  |_=>cases h2
 case indexAddr t x i=>
  simp only [bI]at hc;obtain⟨d,h1,h2⟩:=bE.1 hc;cases d with
  |slice e=>
   obtain⟨n,h3,h4⟩:=bE.1 h2;cases h4;obtain⟨a,b,rfl,ha,hb⟩:=hv.two;cases a with
   |sl id off ln cap ex es=>
    cases b with
    |int k m=>
     obtain⟨q1,q2⟩:=bK.1 (show oif (Nat.beq n es) _=some v from hr);obtain rfl:n=es:=by simpa using q1
     obtain⟨j,q3,q4⟩:=bE.1 q2;cases q4;exact xv hT h1 h3 ha hb q3
    |_=>cases hr
   |lst ln es cs=>
    cases b with
    |int k m=>
     obtain⟨q1,q2⟩:=bK.1 (show oif (Nat.beq n es) _=some v from hr);obtain rfl:n=es:=by simpa using q1
     obtain⟨j,q3,q4⟩:=bE.1 q2;cases q4;exact vF hT h1 h3 ha hb q3
    |_=>cases hr
   |_=>cases hr
  |array k e=>
   obtain⟨n,h3,h4⟩:=bE.1 h2;cases h4;obtain⟨a,b,rfl,ha,hb⟩:=hv.two;cases a with
   |ptr id off=>
    cases b with
    |int k' m=>
     obtain⟨j,q3,q4⟩:=bE.1 (show ob (idx m k) _=some v from hr);cases q4;exact tX hT h1 h3 ha hb q3
    |_=>cases hr
   |_=>cases hr
  |_=>cases h2
 case index t x i=>
  simp only [bI]at hc;obtain⟨d,h1,h2⟩:=bE.1 hc;cases d with
  |string=>
   cases h2;obtain⟨a,b,rfl,ha,hb⟩:=hv.two;cases a with
   |str ln c=>
    cases b with
    |int k' m=>
     obtain⟨j,q3,q4⟩:=bE.1 (show ob (idx m ln) _=some v from hr);cases q4;exact vE hT h1 ha hb q3
    |_=>cases hr
   |_=>cases hr
  |array k e=>
   obtain⟨n,h3,h4⟩:=bE.1 h2;obtain⟨ag,h5,h6⟩:=bE.1 h4;cases h6;obtain⟨a,b,rfl,ha,hb⟩:=hv.two;cases a with
   |agg cs=>
    cases b with
    |int k' m=>
     obtain⟨j,q3,q4⟩:=bE.1 (show ob (idx m k) _=some v from hr);exact vG hT h1 (d4 h3).1 h5 ha hb q3 q4
    |_=>cases hr
   |_=>cases hr
  |_=>cases h2
 case call c=>
  obtain⟨callee,args,argTypes⟩:=c;simp only [bI]at hc;cases callee with
  |value x=>cases x<;>cases hc
  |invoke r m=>cases hc
  |builtin b=>
   obtain⟨t,h1,h2⟩:=bE.1 hc;obtain⟨d,h3,h4⟩:=bE.1 h2;have h1':argTypes[0]? =some t:=by rw [dD]at h1;simpa using h1
   have fin:∀{u:Value},(∀(ty:TypeId) (cs:Array Bool) (w:World),(builtin b argTypes ty cs (args.map ρ)).run P w= .ok (.value u) w)->dP P ρ (.call ⟨.builtin b,args,argTypes⟩) u:=by
    intro u h w o e;simp [execOp,e,resolve,invoke,h]
   have lens:∀{k:Lk},b= .len->po= .leng k->os=args.toList->((d= .string/\k= .str)\/(∃e,d= .slice e/\k= .sl)\/(∃n e,d= .array n e/\k= .const n))->∃u,VR g v u/\dP P ρ (.call ⟨.builtin b,args,argTypes⟩) u:=by
    intro k e1 e2 e3 hk;subst e1 e2 e3;have hone:∃a,vs=[a]:=by
     cases vs with
     |nil=>cases hr
     |cons a vs=>cases vs with
      |nil=>exact⟨a,rfl⟩
      |cons b vs=>cases vs with
       |nil=>cases hr
       |cons c vs=>cases a<;>cases hr
    obtain⟨a,rfl⟩:=hone;obtain⟨x,hx⟩:∃x,args.toList=[x]:=by
     have:=hv.length;simp at this;cases ha:args.toList with
     |nil=>rw [<-Array.length_toList,ha]at this;cases this
     |cons x l=>cases l with
      |nil=>exact⟨x,rfl⟩
      |cons y l=>rw [<-Array.length_toList,ha]at this;simp at this
    rw [hx]at hv;obtain⟨a',e,h⟩:=hv.one;cases e;obtain⟨u,k1,k2⟩:=Ac hT h1' h3 hk h (yM hr (by intros;intro e;cases e) (by intros;intro e;cases e) (by intros;intro e;cases e) (by intro e;cases e) (by intro e;cases e));have ha:args.map ρ=#[ρ x]:=by apply Array.ext';simp [hx]
    exact⟨u,k1,fin λty cs w=>by simp [builtin,ha,k2]⟩
   have folds:∀{a:V} {l:List V},vs=a ::l->os=args.toList->∃x xs,args.map ρ=(x ::xs).toArray/\VR g a x/\VRs g l xs:=by
    intro a l e1 e2;subst e1 e2;cases ha:args.toList.map ρ with
    |nil=>rw [ha]at hv;cases hv
    |cons x xs=>
     rw [ha]at hv;cases hv with
     |cons h t=>exact⟨x,xs,by apply Array.ext';simp [ha],h,t⟩
   cases b
   case len=>
    cases d<;>first
     |(cases h4;exact lens rfl rfl rfl (.inl ⟨rfl,rfl⟩))|(cases h4;exact lens rfl rfl rfl (.inr (.inl ⟨_,rfl,rfl⟩)))|(cases h4;exact lens rfl rfl rfl (.inr (.inr ⟨_,_,rfl,rfl⟩)))
     |cases h4
   case min=>
    cases d<;>cases h4;cases vs with
    |nil=>cases hr
    |cons a l=>
     obtain⟨x,xs,e1,e2,e3⟩:=folds rfl rfl;obtain⟨u,k1,k2⟩:=sG (P:=P) e3 e2 (show pe min2 l a=some v by cases a<;>first|exact hr|(cases l<;>first|exact hr|skip));exact⟨u,k1,fin λty cs w=>by simp [builtin,e1,Builtin.min_,k2]⟩
   case max=>
    cases d<;>cases h4;cases vs with
    |nil=>cases hr
    |cons a l=>
     obtain⟨x,xs,e1,e2,e3⟩:=folds rfl rfl;obtain⟨u,k1,k2⟩:=sH (P:=P) e3 e2 (show pe max2 l a=some v by cases a<;>first|exact hr|(cases l<;>first|exact hr|skip));exact⟨u,k1,fin λty cs w=>by simp [builtin,e1,Builtin.max_,k2]⟩
   case append=>
    cases d with
    |slice e=>
     obtain⟨n,_,a1⟩:=bE.1 h4;obtain⟨_,_,a2⟩:=bE.1 a1;obtain⟨_,_,a3⟩:=bE.1 a2;obtain⟨_,a4⟩:=bK.1 a3;obtain⟨_,_,a5⟩:=bE.1 a4;obtain⟨_,_,a6⟩:=bE.1 a5
     split at a6<;>cases a6
    |_=>cases h4
   case copy=>
    cases d with
    |slice e=>
     obtain⟨n,_,a1⟩:=bE.1 h4;cases a1
    |_=>cases h4
   case clear=>
    cases d with
    |slice e=>
     obtain⟨n,_,a1⟩:=bE.1 h4;obtain⟨_,_,a2⟩:=bE.1 a1;cases a2
    |_=>cases h4
   case delete=>
    cases d with
    |map k e=>
     obtain⟨_,_,a1⟩:=bE.1 h4;cases a1
    |_=>cases h4
   all_goals (cases d<;>cases h4)
 case alloc t=>
  simp only [bI]at hc;obtain⟨_,_,h⟩:=bE.1 hc;cases h
 case buildSlice t n ps=>
  simp only [bI]at hc;obtain⟨d,_,h⟩:=bE.1 hc;cases d with
  |slice e=>
   obtain⟨_,_,a1⟩:=bE.1 h;obtain⟨_,_,a2⟩:=bE.1 a1;obtain⟨_,a3⟩:=bK.1 a2;cases a3
  |_=>cases h
 case load t a=>
  simp only [bI]at hc;obtain⟨_,_,a1⟩:=bE.1 hc;obtain⟨_,_,a2⟩:=bE.1 a1;cases a2
 case store t a x=>
  simp only [bI]at hc;obtain⟨_,_,a1⟩:=bE.1 hc;cases a1
 case makeMap t r=>
  simp only [bI]at hc;obtain⟨d,_,h⟩:=bE.1 hc;cases d<;>cases h
 case makeSlice t l c=>
  simp only [bI]at hc;obtain⟨d,_,h⟩:=bE.1 hc;cases d with
  |slice e=>
   obtain⟨_,_,a1⟩:=bE.1 h;obtain⟨_,_,a2⟩:=bE.1 a1;obtain⟨_,_,a3⟩:=bE.1 a2;obtain⟨_,a4⟩:=bK.1 a3;cases a4
  |_=>cases h
 case lookup t x k ok=>
  simp only [bI]at hc;obtain⟨d,_,h⟩:=bE.1 hc;cases d with
  |map k e=>
   obtain⟨_,_,a1⟩:=bE.1 h;obtain⟨_,_,a2⟩:=bE.1 a1;cases a2
  |_=>cases h
 case insert t m k x=>
  simp only [bI]at hc;obtain⟨d,_,h⟩:=bE.1 hc;cases d with
  |map k e=>
   obtain⟨_,_,a1⟩:=bE.1 h;cases a1
  |_=>cases h
 case mapEntry t m k=>
  simp only [bI]at hc;obtain⟨d,_,h⟩:=bE.1 hc;cases d with
  |map k e=>
   obtain⟨_,_,a1⟩:=bE.1 h;obtain⟨_,_,a2⟩:=bE.1 a1;cases a2
  |_=>cases h
 case mapUpdate t m k x=>
  simp only [bI]at hc;obtain⟨d,_,h⟩:=bE.1 hc;cases d with
  |map k e=>
   obtain⟨_,_,a1⟩:=bE.1 h;cases a1
  |_=>cases h
 case range t x=>
  simp only [bI]at hc;obtain⟨d,_,h⟩:=bE.1 hc;cases d<;>cases h
 case next x b=>cases b<;>cases hc
 all_goals cases hc
end
end
section
variable [Env]
set_option linter.unusedSectionVars false
section
variable {P:Program} {T:Ty} {g:G} {ρ:Operand->Value} {h:H} {w:World}
def kI(P:Program)(ρ:Operand->Value)(w:World)(op:Op)(u:Value):Prop:=∀o:Oper,o.op=op->(execOp ρ o).run P w= .ok (.value u) w
theorem sT(r:WR T g h w){id:Nat}{x:Nat×Nat×Nat}{p:Nat×Tr V}(hg:g id=some x)(hc:h.cells id=some p):Cells g w id p.1 p.2:=by
 unfold H.cells at hc;obtain⟨b,h1,h2⟩:=bE.1 hc;cases b with
 |cells n cs up ch=>cases h2;exact r.blk id x _ hg h1
 |ro n cs=>cases h2;exact r.blk id x _ hg h1
 |_=>cases h2
theorem uX(cs:Tr V)(n k off:Nat):kv cs n (k+1) off=oif (Nat.blt off n) (ob (cs.get off) λv=>ob (kv cs n k (off+1)) λr=>some (v ::r)):=rfl
theorem zO{b o n:Nat}{c:Array Value}{cs:Tr V}(hc:∀j v,j<n->cs.get j=some v->∃u,c[o+j]? =some u/\VR g v u/\cE v=true):
  ∀(k off:Nat) (l:List V),kv cs n k off=some l->∃us,VRs g l us/\us.length=k/\(∀j u,us[j]? =some u->c[o+off+j]? =some u)/\(∀v,v∈l->cE v=true)/\(0<k->off+k<=n):=by
 intro k
 induction k with
 |zero=>intro off l e;cases e;exact⟨[],.nil,rfl,by simp,by simp,by omega⟩
 |succ k ih=>
  intro off l e;rw [uX]at e;obtain⟨h1,h2⟩:=bK.1 e;obtain⟨v,h3,h4⟩:=bE.1 h2;obtain⟨r,h5,h6⟩:=bE.1 h4;cases h6;have hlt:off<n:=by simpa using h1
  obtain⟨u,k1,k2,k3⟩:=hc off v hlt h3;obtain⟨us,m1,m2,m3,m4,m5⟩:=ih (off+1) r h5;refine⟨u ::us,.cons k2 m1,by simp [m2],λj x hx=>?_,λx hx=>?_,λ_=>?_⟩
  ·cases j with
   |zero=>simp at hx;subst hx;simpa using k1
   |succ j=>rw [show o+off+(j+1)=o+(off+1)+j by omega];exact m3 j x (by simpa using hx)
  ·cases hx with
   |head=>exact k3
   |tail _ hx=>exact m4 x hx
  ·by_cases hk:0<k
   ·have:=m5 hk;omega
   ·omega
theorem yP(r:WR T g h w){id off k b o z:Nat}{l:List V}(hg:g id=some (b,o,z))(e:h.rd id off k=some l):
  ∃us,VRs g l us/\us.length=k/\(∀j u,us[j]? =some u->w.cell? ⟨b,o+off+j,none⟩=some u)/\(∀v,v∈l->cE v=true):=by
 unfold H.rd at e;obtain⟨p,h1,h2⟩:=bE.1 e;obtain⟨b',o',z',c,t,k1,k2,k3,k4,k5,k6⟩:=sT r hg h1;rw [hg]at k1;cases k1;obtain⟨us,m1,m2,m3,m4,_⟩:=zO (b:=b) k6 k off l h2;exact⟨us,m1,m2,λj u hj=>by simp [World.cell?,k2,m3 j u hj],m4⟩
theorem VR.eptr_inv{g:G}{cs:List V}{off:Nat}{u:Value}(h:VR g (.eptr cs off) u):∃b o c xs,Env.ro b=some c/\(∀j u,xs[j]? =some u->c[o+j]? =some u)/\VRs g cs xs/\u= .pointer (some ⟨b,o+off,none⟩):=by
 cases h with
 |eptr hE hj hc=>exact⟨_,_,_,_,hE,hj,hc,rfl⟩
theorem rY{g:G}:∀(n:Nat) {l r:List V} {xs:List Value},VRs g l xs->gI n l=some r->∃us:List Value,VRs g r us/\us.length=n/\∀(j:Nat) (u:Value),us[j]? =some u->xs[j]? =some u
 |0,_,_,_,_,e=>by cases e;exact⟨[],.nil,rfl,λj u h=>by simp at h⟩
 |n+1,_,_,_,.nil,e=>by cases e
 |n+1,_,_,_,.cons a t,e=>by
  obtain⟨q,e1,e2⟩:=bE.1 (show ob (gI n _) _=some _ from e);cases e2;obtain⟨us,h1,h2,h3⟩:=rY n t e1;refine⟨_ ::us,.cons a h1,by simp [h2],λj u h=>?_⟩;cases j with
  |zero=>simpa using h
  |succ j=>simpa using h3 j u (by simpa using h)
theorem uE{g:G}{n off:Nat}{cs l:List V}{xs:List Value}(h:VRs g cs xs)(e:gI n (jr off cs)=some l):∃us:List Value,VRs g l us/\us.length=n/\∀(j:Nat) (u:Value),us[j]? =some u->xs[off+j]? =some u:=by
 rw [rl]at e;obtain⟨us,h1,h2,h3⟩:=rY n (h.drop off) e;exact⟨us,h1,h2,λj u hu=>by have:=h3 j u hu;rwa [List.getElem?_drop]at this⟩
theorem qV(hT:cN P T)(r:WR T g h w)(hE:jL g w){t:TypeId}{a:Bool}{n:Nat}{x:Operand}{vs:List V}{v:V}(h1:oL T t=some a)(h2:fW T t=some n)(hv:VRs g vs [ρ x])(hr:ROp.run (.load a n) vs h=some v):
  ∃u,VR g v u/\(loadVar t (match ρ x with | .pointer (some p)=>p | _=>default)).run P w= .ok u w/\kI P ρ w (.load t x) u:=by
 obtain⟨y,rfl,hy⟩:=hv.one;have main:∀{id off:Nat},y= .ptr id off->∃b o z,g id=some (b,o,z)/\ρ x= .pointer (some ⟨b,o+off,none⟩):=by
  intro id off e;subst e;cases hx:ρ x<;>rw [hx]at hy<;>cases hy;exact⟨_,_,_,‹_›,rfl⟩
 cases a with
 |false=>
  cases y with
  |ptr id off=>
   obtain⟨b,o,z,hg,hx⟩:=main rfl;obtain⟨l,e1,e2⟩:=bE.1 (show ob (h.rd id off 1) (λl=>d5 l 0)=some v from hr);obtain⟨us,m1,m2,m3,_⟩:=yP r hg e1;rw [dD]at e2;obtain⟨u,k1,k2⟩:=m1.get e2;have hc:=m3 0 u k1;simp only [Nat.add_zero]at hc;have run:(loadVar t ⟨b,o+off,none⟩).run P w= .ok u w:=by simp [loadVar,fc hT h1,hc]
   refine⟨u,k2,by rw [hx];exact run,λo' e'=>?_⟩;simp [execOp,e',hx,Instr.loadAt,Instr.sureAddr,run]
  |eptr cs off=>
   obtain⟨b,o,c,xs,hb,hj,hc,hx⟩:=hy.eptr_inv;obtain⟨⟨t',hw⟩,_⟩:=hE b c hb;have hr:d5 cs off=some v:=hr;rw [dD]at hr;obtain⟨u,k1,k2⟩:=hc.get hr;have hcell:w.cell? ⟨b,o+off,none⟩=some u:=by simp [World.cell?,hw,hj off u k1]
   have run:(loadVar t ⟨b,o+off,none⟩).run P w= .ok u w:=by simp [loadVar,fc hT h1,hcell]
   refine⟨u,k2,by rw [hx];exact run,λo' e'=>?_⟩;simp [execOp,e',hx,Instr.loadAt,Instr.sureAddr,run]
  |_=>cases hr
 |true=>
  cases y with
  |ptr id off=>
   obtain⟨b,o,z,hg,hx⟩:=main rfl;obtain⟨l,e1,e2⟩:=bE.1 (show ob (h.rd id off n) (λl=>some (.agg l))=some v from hr);cases e2;obtain⟨us,m1,m2,m3,_⟩:=yP r hg e1;have hc:∀j u,us[j]? =some u->w.cell? ((⟨b,o+off,none⟩:Addr).add j)=some u:=by
    intro j u hj;rw [Addr.add_lit];exact m3 j u hj
   have run:(loadVar t ⟨b,o+off,none⟩).run P w= .ok (.agg us.toArray) w:=by
    have:=run_loadCells_list (P:=P) (w:=w) ⟨b,o+off,none⟩ us hc;rw [m2]at this;simp [loadVar,fc hT h1,cy hT h2,this]
   refine⟨_,.agg m1,by rw [hx];exact run,λo' e'=>?_⟩;simp [execOp,e',hx,Instr.loadAt,Instr.sureAddr,run]
  |eptr cs off=>
   obtain⟨b,o,c,xs,hb,hj,hc,hx⟩:=hy.eptr_inv;obtain⟨⟨t',hw⟩,_⟩:=hE b c hb;obtain⟨l,e1,e2⟩:=bE.1 (show ob (gI n (jr off cs)) (λl=>some (.agg l))=some v from hr);cases e2;obtain⟨us,m1,m2,m3⟩:=uE hc e1;have hcl:∀j u,us[j]? =some u->w.cell? ((⟨b,o+off,none⟩:Addr).add j)=some u:=by
    intro j u hu;rw [Addr.add_lit];have:=hj (off+j) u (m3 j u hu);rw [<-Nat.add_assoc]at this;simp [World.cell?,hw,this]
   have run:(loadVar t ⟨b,o+off,none⟩).run P w= .ok (.agg us.toArray) w:=by
    have:=run_loadCells_list (P:=P) (w:=w) ⟨b,o+off,none⟩ us hcl;rw [m2]at this;simp [loadVar,fc hT h1,cy hT h2,this]
   refine⟨_,.agg m1,by rw [hx];exact run,λo' e'=>?_⟩;simp [execOp,e',hx,Instr.loadAt,Instr.sureAddr,run]
  |_=>cases hr
theorem wo(r:WR T g h w){id b o z:Nat}(hg:g id=some (b,o,z))(ha:h.alone id=true):∃k c t,h.blk id=some k/\k.live=true/\k.kin=some (none,false)/\w.heap[b]? =some (.cells c t (0,0)):=by
 unfold H.alone at ha;cases hb:h.blk id with
 |none=>rw [hb]at ha;cases ha
 |some k=>
  rw [hb]at ha;cases k with
  |cells n cs up ch=>
   cases up with
   |some _=>cases ha
   |none=>cases ch with
    |true=>cases ha
    |false=>
     obtain⟨b',o',z',c,t,k1,k2,_⟩:=r.blk id _ _ hg hb;rw [hg]at k1;cases k1;exact⟨_,c,t,rfl,rfl,rfl,k2⟩
  |_=>cases ha
theorem rF{a b:Addr}(hb:a.block=b.block):(sameAddr a b).run P w= .ok (a==b) w:=by
 simp [sameAddr,hb]
theorem rG{a b:Addr}{c c':Array Value}{t t':TypeId}(hb:a.block≠b.block)(h1:w.heap[a.block]? =some (.cells c t (0,0)))(h2:w.heap[b.block]? =some (.cells c' t' (0,0))):(sameAddr a b).run P w= .ok false w:=by
 have f1:∀o,w.frozen? ⟨a.block,o,none⟩=false:=λo=>by simp [World.frozen?,h1]
 have f2:∀o,w.frozen? ⟨b.block,o,none⟩=false:=λo=>by simp [World.frozen?,h2]
 have g1:w.frozen? a=false:=by simp [World.frozen?,h1]
 have g2:w.frozen? b=false:=by simp [World.frozen?,h2]
 have s1:w.shape? a.block=some (t,c.size):=by simp [World.shape?,h1]
 have s2:w.shape? b.block=some (t',c'.size):=by simp [World.shape?,h2]
 simp [sameAddr,hb,g1,noView,viewAt,s1,s2,mayBeOne,stringish,g2,f1,f2]
set_option maxHeartbeats 1000000 in
theorem Cy(hT:cN P T)(r:WR T g h w){t:TypeId}{k:Pk}{x y:V}{a b:Value}{e:Bool}(hk:kw T t=some k)(ha:VR g x a)(hb:VR g y b)(hr:eq1 h k x y=some e)(d:Nat):(Op.equalIn (d+1) t a b).run P w= .ok e w:=by
 obtain⟨ds,h1,h2⟩:=bE.1 hk;have hu:=hT.under _ _ h1;unfold eq1 at hr
 split at hr
 ·obtain⟨q1,q2⟩:=bK.1 hr
  cases q2;obtain rfl:=rj.1 q1;rw [ha.int_inv,hb.int_inv,iL];cases ds<;>first|(cases h2;done)|exact run_equalIn_int w d t _ _ _ _ hu|(obtain⟨_,_,h3⟩:=bE.1 h2;cases h3)
 ·cases hr
  cases ha;cases hb;rw [dR,dR,jR];cases ds<;>first|(cases h2;done)|(rw [run_equalIn_string w d t _ _ hu,toList_eq,toList_eq])|(obtain⟨_,_,h3⟩:=bE.1 h2;cases h3)
 ·cases hr
  rw [ha.bool_inv,hb.bool_inv,kE];cases ds<;>first|(cases h2;done)|exact run_equalIn_bool w d t _ _ hu|(obtain⟨_,_,h3⟩:=bE.1 h2;cases h3)
 ·cases hr
  cases ha;cases hb;cases ds<;>first|(cases h2;done)|(simp [Op.equalIn,run_underlying hu];done)
 ·cases hr
  cases ha;cases hb;cases ds<;>first|(cases h2;done)|(simp [Op.equalIn,run_underlying hu];done)
 ·cases hr
  cases ha;cases hb;cases ds<;>first|(cases h2;done)|(simp [Op.equalIn,run_underlying hu];done)
 ·rename_i i off j off'
  cases ds with
  |pointer el=>
   obtain⟨n,h3,h4⟩:=bE.1 h2;obtain⟨hs,hp⟩:=d4 h3;have hn:¬n=0:=by omega
   cases ha;cases hb
   rename_i b o z hg b' o' z' hg'
   have main:∀q,(sameAddr ⟨b,o+off,none⟩ ⟨b',o'+off',none⟩).run P w= .ok q w->(Op.equalIn (d+1) t (.pointer (some ⟨b,o+off,none⟩)) (.pointer (some ⟨b',o'+off',none⟩))).run P w= .ok q w:=by
    intro q hq;simp [Op.equalIn,run_underlying hu,cy hT hs,hn,hq]
   rw [cC]at hr
   split at hr
   ·rename_i hij
    obtain rfl:i=j:=by simpa using hij
    cases hr;rw [hg]at hg';cases hg';rw [main _ (rF rfl)]
    congr 1
    apply Bool.eq_iff_iff.2;simp
   ·rename_i hij
    have hij:i≠j:=by simpa using hij
    obtain⟨q1,q2⟩:=bK.1 hr;obtain⟨q3,q4⟩:=bK.1 q2;cases q4;obtain⟨k1,c1,t1,m1,m2,m3,m4⟩:=wo r hg q1;obtain⟨k2,c2,t2,n1,n2,n3,n4⟩:=wo r hg' q3;refine main _ (rG ?_ m4 n4);intro hbb;simp only at hbb;subst hbb;exact r.lone hij hg hg' m1 n1 m2 n2 (.inr m3) (.inl (by cases hx:Blk.isRo _ with|false=>rfl|true=>rw [Blk.isRo_kin hx]at m3;cases m3))
  |_=>cases h2
 ·cases hr
theorem qz{t:TypeId}{k:Pk}(hk:kw T t=some k):oL T t=some false:=by
 obtain⟨d,h1,h2⟩:=bE.1 hk;unfold oL;rw [h1];cases d<;>first|rfl|cases h2
theorem lV{f:Field} {fs:List Field} {i:Nat} {ks:List Pk} (h:jm T (f ::fs) i=some ks):f.offset=i/\f.name≠ "_"/\∃k ks',kw T f.type=some k/\jm T fs (i+1)=some ks'/\ks=k ::ks':=by
 obtain⟨h1,h2⟩:=bK.1 (show oif (Nat.beq f.offset i && !(f.name== "_")) (ob (kw T f.type) λk=>ob (jm T fs (i+1)) λks=>some (k ::ks))=some ks from h);obtain⟨k,h3,h4⟩:=bE.1 h2;obtain⟨ks',h5,h6⟩:=bE.1 h4;cases h6;simp at h1;exact⟨h1.1,h1.2,k,ks',h3,h5,rfl⟩
theorem Gi(hT:cN P T)(r:WR T g h w)(d:Nat)(X Y:List Value):∀(fs:List Field) (i:Nat) (ks:List Pk) (as bs:List V) (e:Bool),jm T fs i=some ks->VRs g as (X.drop i)->VRs g bs (Y.drop i)->eqL h ks as bs=some e->
  (Op.eqFields (d+1) X.toArray Y.toArray fs).run P w= .ok e w:=by
 intro fs
 induction fs with
 |nil=>
  intro i ks as bs e h1 h2 h3 h4;cases h1;cases as with
  |nil=>cases bs with
   |nil=>cases h4;simp [Op.eqFields]
   |cons=>cases h4
  |cons=>cases h4
 |cons f fs ih=>
  intro i ks as bs e h1 h2 h3 h4;obtain⟨rfl,hn,k,ks',h5,h6,rfl⟩:=lV h1;cases as with
  |nil=>cases h4
  |cons a as=>cases bs with
   |nil=>cases h4
   |cons b bs=>
    obtain⟨c,q1,q2⟩:=bE.1 (show ob (eq1 h k a b) (λc=>Bool.rec (motive:=λ_=>Option Bool) (some false) (eqL h ks' as bs) c)=some e from h4);generalize hX:X.drop f.offset=X' at h2;generalize hY:Y.drop f.offset=Y' at h3;cases h2 with
    |cons ha ta=>cases h3 with
     |cons hb tb=>
      rename_i u us v vs
      have x1:X[f.offset]? =some u:=by have:=congrArg (λl=>l[0]?) hX;simpa using this
      have y1:Y[f.offset]? =some v:=by have:=congrArg (λl=>l[0]?) hY;simpa using this
      have x2:X.drop (f.offset+1)=us:=by have:=congrArg List.tail hX;simpa using this
      have y2:Y.drop (f.offset+1)=vs:=by have:=congrArg List.tail hY;simpa using this
      have ag:=qz h5;have p1:∀w,(Go.part f.type X.toArray f.offset).run P w= .ok u w:=λw=>by simp [Go.part,fc hT ag,x1]
      have p2:∀w,(Go.part f.type Y.toArray f.offset).run P w= .ok v w:=λw=>by simp [Go.part,fc hT ag,y1]
      have q:=Cy hT r h5 ha hb q1 d;simp only [Op.eqFields];rw [if_pos hn];simp only [Sem.run_bind,p1,p2,Result.andThen_ok,q];cases c with
      |false=>cases q2;simp
      |true=>
       have:=ih (f.offset+1) ks' as bs e h6 (x2▸ta) (y2▸tb) q2
       simpa using this
theorem rh(hT:cN P T)(r:WR T g h w){t:TypeId}{k:Kk}{x y:V}{a b:Value}{e:Bool}(hk:jh T t=some k)(ha:VR g x a)(hb:VR g y b)(hr:fP h k x y=some e):(Op.equal t a b).run P w= .ok e w:=by
 obtain⟨d,h1,h2⟩:=bE.1 hk;have hu:=hT.under _ _ h1;have one:∀{k':Pk},kw T t=some k'->k= .one k'->(Op.equal t a b).run P w= .ok e w:=by
  intro k' h3 h4;subst h4;exact Cy hT r h3 ha hb (by cases x<;>cases y<;>exact hr) 9999
 cases d with
 |struct fs=>
  obtain⟨h3,h4⟩:=bK.1 h2;obtain⟨ks,h5,h6⟩:=bE.1 h4;cases h6;cases x with
  |agg xs=>cases y with
   |agg ys=>
    cases ha;cases hb
    rename_i us hus vs hvs
    have hf:P.fieldsOf t=fs:=by simp [Program.fieldsOf,hu]
    show(Op.equalIn (9999+1) t _ _).run P w=_;rw [run_equalIn_agg w 9999 t _ _ (by rw [hf];exact hu) (hT.free t h3).1,hf];exact Gi hT r 9998 us vs fs.toList 0 ks xs ys e h5 (by simpa using hus) (by simpa using hvs) hr
   |_=>cases hr
  |_=>cases hr
 |_=>
  obtain⟨k',h3,h4⟩:=bE.1 h2;exact one h3 (Option.some.inj h4).symm
theorem oq{t:TypeId}{d:TypeDesc}{k:Kk}(h1:T.under t=some d)(hk:jh T t=some k):(∃fs ks,d= .struct fs/\k= .agg ks/\T.free t=true)\/((∀fs,d≠.struct fs)/\∃q,k= .one q/\kw T t=some q):=by
 obtain⟨d',h2,h3⟩:=bE.1 hk;rw [h1]at h2;cases h2;cases d with
 |struct fs=>
  obtain⟨hf,h4⟩:=bK.1 h3;obtain⟨ks,h5,h6⟩:=bE.1 h4;cases h6;exact .inl ⟨fs,ks,rfl,rfl,hf⟩
 |_=>
  obtain⟨k',h4,h5⟩:=bE.1 h3;cases h5;exact .inr ⟨(by intro fs e;cases e),k',rfl,h4⟩
theorem vI(hT:cN P T)(r:WR T g h w){neg:Bool}{t t':TypeId}{d:TypeDesc}{k:Kk}{x y:Operand}{a b v:V}(h1:T.under t=some d)(hd:(∃e,d= .pointer e)\/∃fs,d= .struct fs)(hk:jh T t=some k)
  (ha:VR g a (ρ x)) (hb:VR g b (ρ y)) (hr:ROp.run (.eq k neg) [a,b] h=some v):∃u,VR g v u/\kI P ρ w (.binOp (Bool.rec (motive:=λ_=>BinOp) .eql .neq neg) t x y t') u:=by
 obtain⟨e,h2,h3⟩:=bE.1 (show ob (fP h k a b) (λe=>some (.bool (Bool.rec (motive:=λ_=>Bool) e (!e) neg)))=some v from hr);cases h3;have he:=rh hT r hk ha hb h2;refine⟨_,.bool _,λo e'=>?_⟩;have bin:∀{u q:Value},ρ x=u->ρ y=q->((∃c,u= .pointer c)\/(∃c c',u= .agg c/\q= .agg c'))->(binOp (Bool.rec (motive:=λ_=>BinOp) .eql .neq neg) t (ρ x) (ρ y)).run P w= .ok (.bool (Bool.rec (motive:=λ_=>Bool) e (!e) neg)) w:=by
  intro u q hp hq hc;rw [hp,hq]at he ⊢;rcases hc with⟨c,rfl⟩ | ⟨c,c',rfl,rfl⟩
  ·cases neg<;>cases q<;>simp [binOp,he]
  ·cases neg<;>simp [binOp,he]
 rcases oq h1 hk with⟨fs,ks,rfl,rfl,hf⟩ | ⟨hn,pk,rfl,hp⟩
 ·cases a with
  |agg as=>cases b with
   |agg bs=>
    cases hx:ρ x<;>rw [hx]at ha<;>cases ha;cases hy:ρ y<;>rw [hy]at hb<;>cases hb;have:=bin hx hy (.inr ⟨_,_,rfl,rfl⟩);rw [hx,hy]at this;simp only [execOp,e',hx,hy,Sem.run_bind];rw [run_eqGuard_agg w _ t x y _ _ (hT.free t hf).2];simp [this]
   |_=>cases h2
  |_=>cases h2
 ·have hpt:∃c,ρ x= .pointer c:=by
   rcases hd with⟨el,rfl⟩ | ⟨fs,rfl⟩
   ·obtain⟨d',q1,q2⟩:=bE.1 hp
    rw [h1]at q1;cases q1;obtain⟨_,_,q3⟩:=bE.1 q2;cases q3;cases a<;>first
     |(cases hx:ρ x<;>rw [hx]at ha<;>cases ha<;>exact⟨_,rfl⟩)|(cases b<;>cases h2)
   ·exact absurd rfl (hn fs)
  obtain⟨c,hx⟩:=hpt;have:=bin hx rfl (.inl ⟨c,rfl⟩);simp only [execOp,e',Sem.run_bind];rw [jH (by rw [hx];intro cs h;cases h) (by rw [hx];intro h;cases h)];simp [this]
theorem fQ(r:WR T g h w){id b o z:Nat}{es:List (V×V)}(hg:g id=some (b,o,z))(he:h.entries id=some es):∃m c,w.heap[b]? =some (.map m c)/\oM g es m.toList/\∃od,h.blk id=some (.map es od)/\h.ord id=od/\zy od m.toList c:=by
 unfold H.entries at he;obtain⟨k,h1,h2⟩:=bE.1 he;cases k with
 |map es' od=>
  cases h2;obtain⟨b',o',z',m,c,k1,k2,k3,k4⟩:=r.blk id _ _ hg h1;rw [hg]at k1;cases k1;exact⟨m,c,k2,k3,od,h1,by unfold H.ord;rw [h1],k4⟩
 |_=>cases h2
theorem cM{b:Nat}{m:Array MapEntry}{c:Nat}(hb:w.heap[b]? =some (.map m c)):(getObj b).run P w= .ok (.map m c) w:=by
 simp [getObj,Sem.run,hb]
theorem tW(hT:cN P T)(r:WR T g h w){x:Operand}{t k e:TypeId}{at':Array TypeId}{a v:V}(h0:at'[0]? =some t)(h1:T.under t=some (.map k e))(ha:VR g a (ρ x))(hr:ROp.run .lenMap [a] h=some v):
  ∃u,VR g v u/\∀ty:TypeId,(Builtin.len_ at' ty #[ρ x]).run P w= .ok u w:=by
 cases a with
 |nilm=>
  cases hr;cases hx:ρ x<;>rw [hx]at ha<;>cases ha;exact⟨_,.int .i64 _,λty=>by simp [Builtin.len_,h0,bJ hT h1,goInt]⟩
 |map id=>
  obtain⟨es,h2,h3⟩:=bE.1 (show ob (h.entries id) (λes=>some (.int .i64 (Int.ofNat (bY es))))=some v from hr);cases h3;cases hx:ρ x<;>rw [hx]at ha<;>cases ha
  rename_i b o z hg
  obtain⟨m,c,k1,k2,_⟩:=fQ r hg h2;refine⟨_,.int .i64 _,λty=>?_⟩;have hl:=k2.1.length;simp at hl;simp [Builtin.len_,h0,bJ hT h1,goInt,cM k1,bV,hl]
 |_=>cases hr
theorem ku(hT:cN P T){t:TypeId}{d:TypeDesc}{k:Kk}{x y:V}{a b:Value}{e e':Bool}(h1:T.under t=some d)(hk:jh T t=some k)(ha:VR g x a)(hb:VR g y b)(hr:fP h k x y=some e)(hs:Instr.sameNow d a b=some e'):e'=e:=by
 have _:=hT;rcases oq h1 hk with⟨fs,ks,rfl,rfl,hf⟩ | ⟨hn,q,rfl,hp⟩
 ·cases a<;>cases b<;>cases hs
 ·obtain⟨d',q1,q2⟩:=bE.1 hp
  rw [h1]at q1;cases q1;have hr':eq1 h q x y=some e:=by cases x<;>cases y<;>exact hr
  cases d with
  |int kd=>
   cases q2;cases x<;>cases y<;>try (cases hr';done)
   obtain⟨m1,m2⟩:=bK.1 hr';cases m2;obtain rfl:=rj.1 m1;rw [ha.int_inv,hb.int_inv]at hs;simp [Instr.sameNow]at hs;rw [iL,<-hs]
  |string=>
   cases q2;cases x<;>cases y<;>try (cases hr';done)
   cases hr';cases ha;cases hb;simp [Instr.sameNow]at hs;rw [dR,dR,jR,<-hs,beq_toListBytes,toList_eq,toList_eq]
  |bool=>
   cases q2;cases x<;>cases y<;>try (cases hr';done)
   cases hr';rw [ha.bool_inv,hb.bool_inv]at hs;simp [Instr.sameNow]at hs;rw [kE,<-hs]
  |pointer el=>cases a<;>cases b<;>cases hs
  |_=>cases q2
inductive zw(g:G):Option V->Nat->Option (Nat×Value)->Prop
 |none {i:Nat}:zw g none i none
 |some {v:V} {u:Value} {i j:Nat} (h:VR g v u) (hj:i<=j):zw g (some v) i (some (j,u))
theorem xC(kk:Kk)(k:V)(e:V×V)(es:List (V×V)):dY h kk k (e ::es)=ob (fP h kk k e.1) λb=>Bool.rec (motive:=λ_=>Option (Option V)) (dY h kk k es) (some (some e.2)) b:=rfl
theorem D4(hT:cN P T)(r:WR T g h w){t:TypeId}{d:TypeDesc}{kk:Kk}{x:V}{a:Value}(h1:T.under t=some d)(hk:jh T t=some kk)(ha:VR g x a):
  ∀(es:List (V×V)) (m:List MapEntry) (i:Nat) (res:Option V),oM g es m->dY h kk x es=some res->∃q,zw g res i q/\(Instr.findAsking t a m i).run P w= .ok q w/\∀q',Instr.findNow d a m i=some q'->q'=q:=by
 intro es
 induction es with
 |nil=>
  intro m i res hm hr;cases hr;cases m with
  |nil=>exact⟨_,.none,by simp [Instr.findAsking],λq' e=>by simp [Instr.findNow]at e;exact e.symm⟩
  |cons=>have:=hm.1.length;simp at this
 |cons e es ih=>
  intro m i res hm hr;cases m with
  |nil=>have:=hm.1.length;simp at this
  |cons f m=>
   rw [xC]at hr;obtain⟨b,h2,h3⟩:=bE.1 hr;obtain⟨hm1,hm2⟩:=hm;cases hm1 with
   |cons hk1 ht1=>cases hm2 with
    |cons hv1 hv2=>
     have heq:=rh hT r hk ha hk1 h2;cases b with
     |true=>
      cases h3;refine⟨_,.some hv1 (Nat.le_refl i),by simp [Instr.findAsking,heq],λq' e'=>?_⟩;simp only [Instr.findNow]at e';cases hs:Instr.sameNow d a f.key with
      |none=>rw [hs]at e';cases e'
      |some s=>
       rw [ku hT h1 hk ha hk1 h2 hs]at hs;rw [hs]at e';exact(Option.some.inj e').symm
     |false=>
      obtain⟨q,f1,f2,f3⟩:=ih m (i+1) res ⟨ht1,hv2⟩ h3;refine⟨q,?_,by simp [Instr.findAsking,heq,f2],λq' e'=>?_⟩
      ·cases f1 with
       |none=>exact .none
       |some h hj=>exact .some h (by omega)
      ·simp only [Instr.findNow]at e'
       cases hs:Instr.sameNow d a f.key with
       |none=>rw [hs]at e';cases e'
       |some s=>
        rw [ku hT h1 hk ha hk1 h2 hs]at hs;rw [hs]at e';exact f3 q' e'
theorem qY(hT:cN P T)(r:WR T g h w){t:TypeId}{d:TypeDesc}{kk:Kk}{x:V}{a:Value}{es:List (V×V)}{m:List MapEntry}{res:Option V}(h1:T.under t=some d)(hk:jh T t=some kk)(ha:VR g x a)(hm:oM g es m)
  (hr:dY h kk x es=some res):∃q,zw g res 0 q/\(Instr.findKey t a m).run P w= .ok q w:=by
 obtain⟨q,f1,f2,f3⟩:=D4 hT r h1 hk ha es m 0 res hm hr;refine⟨q,f1,?_⟩;simp only [Instr.findKey,Sem.run_bind,bJ hT h1,Result.andThen_ok];cases hn:Instr.findNow d a m 0 with
 |none=>exact f2
 |some q'=>rw [f3 q' hn];rfl
theorem ll(hT:cN P T){t:TypeId}{k:Pk}(hk:kw T t=some k)(e:Bool)(n:Nat)(v:Value):(Instr.checkKey e (n+1) t v).run P w= .ok () w:=by
 obtain⟨d,h1,h2⟩:=bE.1 hk;cases d<;>first|(cases h2;done)|(cases v<;>simp [Instr.checkKey,bJ hT h1])
theorem rt(hT:cN P T)(e:Bool)(n:Nat)(X:List Value):∀(fs:List Field) (i:Nat) (ks:List Pk),jm T fs i=some ks->i+ks.length<=X.length->
  (forIn (m:=Sem) fs PUnit.unit λf (_:PUnit)=>if f.name≠ "_" then do let __do_lift <-Go.part f.type X.toArray f.offset;Instr.checkKey e (n+1) f.type __do_lift;pure (ForInStep.yield PUnit.unit)else pure (ForInStep.yield PUnit.unit)).run P w= .ok PUnit.unit w:=by
 intro fs
 induction fs with
 |nil=>intro i ks h _;simp
 |cons f fs ih=>
  intro i ks h hl;obtain⟨rfl,hn,k,ks',h5,h6,rfl⟩:=lV h;simp only [List.length_cons]at hl;have p1:(Go.part f.type X.toArray f.offset).run P w= .ok X[f.offset] w:=by
   have:X[f.offset]? =some X[f.offset]:=List.getElem?_eq_getElem (by omega);simp [Go.part,fc hT (qz h5),this]
  rw [List.forIn_cons];simp only [if_pos hn,Sem.run_bind,p1,Result.andThen_ok,ll hT h5,Sem.run_pure];exact ih (f.offset+1) ks' h6 (by omega)
theorem pG(hT:cN P T){t:TypeId}{fs:Array Field}{ks:List Pk}{us:List Value}(h1:T.under t=some (.struct fs))(hk:jm T fs.toList 0=some ks)(hl:ks.length<=us.length)(e:Bool)(n:Nat):(Instr.checkKey e (n+1+1) t (.agg us.toArray)).run P w= .ok () w:=by
 have:=rt (w:=w) hT e n us fs.toList 0 ks hk (by omega);rw [Array.forIn_toList]at this;rw [Instr.checkKey];simp only [Sem.run_bind,bJ hT h1,Result.andThen_ok];rw [this];rfl
theorem iD(hT:cN P T){t:TypeId}{kk:Kk}{x:V}{a:Value}(hk:jh T t=some kk)(ha:VR g x a)(hr:eV kk x=true)(e:Bool):(Instr.checkKey e 10000 t a).run P w= .ok () w:=by
 obtain⟨d,h1,_⟩:=bE.1 hk;rcases oq h1 hk with⟨fs,ks,rfl,rfl,hf⟩ | ⟨hn,pk,rfl,hp⟩
 ·obtain⟨d',m1,m2⟩:=bE.1 hk
  rw [h1]at m1;cases m1;obtain⟨_,m3⟩:=bK.1 m2;obtain⟨ks',m4,m5⟩:=bE.1 m3;cases m5;cases x with
  |agg xs=>
   cases ha
   rename_i us hus
   have hl:ks.length=xs.length:=by
    have:Nat.beq (bY ks) (bY xs)=true:=hr
    simpa [bV]using this
   have hl2:=hus.length;exact pG hT h1 m4 (by omega) e 9998
  |_=>cases hr
 ·exact ll hT hp e 9999 a
theorem tV(hT:cN P T)(r:WR T g h w){t kt e:TypeId}{kk:Kk}{ok:Bool}{z:V}{x y:Operand}{a b v:V}(h1:T.under t=some (.map kt e))(hk:jh T kt=some kk)(hz:gL T e=some z)
  (ha:VR g a (ρ x)) (hb:VR g b (ρ y)) (hr:ROp.run (.lookup kk ok z) [a,b] h=some v):∃u,VR g v u/\kI P ρ w (.lookup t x y ok) u:=by
 obtain⟨zu,hzu,hzr⟩:=fY (g:=g) hT hz;obtain⟨d,hd,_⟩:=bE.1 hk;cases a with
 |nilm=>
  obtain⟨q1,q2⟩:=bK.1 (show oif (eV kk b) (some (gU ok z none))=some v from hr);cases q2;have hx:ρ x= .map none:=by cases hx:ρ x<;>rw [hx]at ha<;>cases ha;rfl
  obtain⟨q,f1,f2⟩:=qY hT r hd hk hb (es:=[]) (m:=[]) ⟨.nil,.nil⟩ rfl;have hc:=λem=>iD (w:=w) hT hk hb q1 em;cases f1;cases ok with
  |false=>exact⟨zu,hzu,λo e'=>by simp [execOp,e',hx,Instr.lookup,bJ hT h1,hc,f2,hzr]⟩
  |true=>exact⟨_,.tup (.cons hzu (.cons (.bool false) .nil)),λo e'=>by simp [execOp,e',hx,Instr.lookup,bJ hT h1,hc,f2,hzr]⟩
 |map id=>
  obtain⟨q1,q2⟩:=bK.1 (show oif (eV kk b) (ob (h.entries id) λes=>ob (dY h kk b es) λr=>some (gU ok z r))=some v from hr);obtain⟨es,q3,q4⟩:=bE.1 q2;obtain⟨res,q5,q6⟩:=bE.1 q4;cases q6;obtain⟨bl,o,zz,hg,hx⟩:∃bl o zz,g id=some (bl,o,zz)/\ρ x= .map (some bl):=by
   cases hx:ρ x<;>rw [hx]at ha<;>cases ha;exact⟨_,_,_,‹_›,rfl⟩
  obtain⟨m,c,k1,k2,_⟩:=fQ r hg q3;obtain⟨q,f1,f2⟩:=qY hT r hd hk hb k2 q5;have hc:=λem=>iD (w:=w) hT hk hb q1 em;cases f1 with
  |none=>
   cases ok with
   |false=>exact⟨zu,hzu,λo e'=>by simp [execOp,e',hx,Instr.lookup,bJ hT h1,cM k1,hc,f2,hzr]⟩
   |true=>exact⟨_,.tup (.cons hzu (.cons (.bool false) .nil)),λo e'=>by simp [execOp,e',hx,Instr.lookup,bJ hT h1,cM k1,hc,f2,hzr]⟩
  |some hvu _=>
   cases ok with
   |false=>exact⟨_,hvu,λo e'=>by simp [execOp,e',hx,Instr.lookup,bJ hT h1,cM k1,hc,f2]⟩
   |true=>exact⟨_,.tup (.cons hvu (.cons (.bool true) .nil)),λo e'=>by simp [execOp,e',hx,Instr.lookup,bJ hT h1,cM k1,hc,f2]⟩
 |_=>cases hr
theorem uo(v:V)(l:List V):ik (v ::l)=match v with
  |.int .u8 n=>Int.rec (motive:=λ_=>Option Nat) (λm=>ob (ik l) λr=>some (Nat.add (Nat.mod m 256) (Nat.mul 256 r))) (λ_=>none) n
  |_=>none:=rfl
theorem ru:∀{l:List V} {us:List Value} {c:Nat},VRs g l us->ik l=some c->∃xs:List Int,us=xs.map (Value.int .u8)/\bT (strOfNums xs).data.toList=c
 |[],_,_,.nil,e=>by cases e;exact⟨[],rfl,rfl⟩
 |v ::l,_,_,.cons h t,e=>by
  rw [uo]at e;cases v with
  |int k n=>
   cases k with
   |u8=>
    cases n with
    |ofNat m=>
     obtain⟨r,e1,e2⟩:=bE.1 (show ob (ik l) (λr=>some (Nat.add (Nat.mod m 256) (Nat.mul 256 r)))=some _ from e);cases e2;obtain⟨xs,k1,k2⟩:=ru t e1;have:=h.int_inv;subst this;refine⟨Int.ofNat m ::xs,by rw [k1];rfl,?_⟩;rw [strOfNums_data]at k2 ⊢;show(UInt8.ofNat (Int.ofNat m).toNat).toNat+256*bT (xs.map λn=>UInt8.ofNat n.toNat)=_;rw [k2];simp;rfl
    |negSucc m=>cases e
   |_=>cases e
  |_=>cases e
theorem Ae(hT:cN P T)(r:WR T g h w){s d e:TypeId}{x:Operand}{vs:List V}{v:V}(h1:T.under s=some (.slice e))(h2:T.under e=some (.int .u8))(h3:T.under d=some .string)(hv:VRs g vs [ρ x])(hr:ROp.run .b2s vs h=some v):
  ∃u,VR g v u/\kI P ρ w (.convert s d x) u:=by
 obtain⟨y,rfl,hy⟩:=hv.one;cases y with
 |nils=>
  cases hr;cases hx:ρ x<;>rw [hx]at hy<;>cases hy;refine⟨.string ByteArray.empty,.str ByteArray.empty,λo e'=>?_⟩;simp [execOp,e',hx,run_convert_bytes_nil w s e (hT.under _ _ h1) (hT.under _ _ h2) 0 0 d (hT.under _ _ h3)]
 |sl id off len cap ex es=>
  obtain⟨q1,q2⟩:=bK.1 (show oif (Nat.beq es 1) (ob (h.rd id off len) λl=>ob (ik l) λc=>some (.str len c))=some v from hr);obtain⟨l,q3,q4⟩:=bE.1 q2;obtain⟨c,q5,q6⟩:=bE.1 q4;cases q6;have fin:∀{b o z len':Nat},g id=some (b,o,z)->ρ x= .slice (some ⟨b,o+off,none⟩) len len'->∃u,VR g (.str len c) u/\kI P ρ w (.convert s d x) u:=by
   intro b o z len' hg hx;obtain⟨us,m1,m2,m3,_⟩:=yP r hg q3;obtain⟨xs,n1,n2⟩:=ru m1 q5;have hl:xs.length=len:=by rw [<-m2,n1];simp
   have hs:(strOfNums xs).size=len:=by rw [strOfNums_size,hl]
   refine⟨.string (strOfNums xs),?_,λo' e'=>?_⟩
   ·have:=VR.str (g:=g) (strOfNums xs)
    rwa [hs,n2]at this
   ·have:=run_convert_bytes_arg (P:=P) w s e (hT.under _ _ h1) (hT.under _ _ h2) b (o+off) len len' xs hl (λi hi=>by
     have hi':i<xs.length:=by omega
     refine m3 i _ ?_;rw [n1];simp [List.getD,List.getElem?_eq_getElem hi']) d (hT.under _ _ h3)
    simp [execOp,e',hx,this]
  cases hx:ρ x<;>rw [hx]at hy<;>cases hy
  ·exact fin ‹_› hx
  ·exact fin ‹_› hx
  all_goals
   refine⟨.string ByteArray.empty,?_,λo e'=>?_⟩
   ·have hl:l=[]:=by
     have:h.rd id off 0=some l:=q3;unfold H.rd at this;obtain⟨p,_,k⟩:=bE.1 this;cases k;rfl
    subst hl;cases q5;exact .str ByteArray.empty
   ·have key:=λb p:Nat=>run_convert_bytes_arg (P:=P) w s e (hT.under _ _ h1) (hT.under _ _ h2) b p 0 0 [] rfl (λi hi=>absurd hi (Nat.not_lt_zero _)) d (hT.under _ _ h3)
    simp [execOp,e',hx,key];rfl
 |_=>cases hr
end
end
section
variable [Env]
set_option linter.unusedSectionVars false
section
variable {P:Program} {T:Ty} {g:G} {ρ:Operand->Value} {h:H} {w:World}
theorem Iq(hT:cN P T)(r:WR T g h w)(hE:jL g w){op:Op}{ro:ROp}{os:List Operand}(hc:bI T op=some (.r ro,os)){vs:List V}{v:V}(hv:VRs g vs (os.map ρ))(hr:ro.run vs h=some v):∃u,VR g v u/\kI P ρ w op u:=by
 cases op
 case load t x=>
  simp only [bI]at hc;obtain⟨b,h1,h2⟩:=bE.1 hc;obtain⟨n,h3,h4⟩:=bE.1 h2;cases h4;obtain⟨u,k1,_,k3⟩:=qV hT r hE h1 h3 hv hr;exact⟨u,k1,k3⟩
 case binOp op t x y t'=>
  have eq2:∀{neg cst:Bool} {d:TypeDesc},T.under t=some d->re T t neg cst d=some (.r ro)->os=[x,y]->∃u,VR g v u/\kI P ρ w (.binOp (Bool.rec (motive:=λ_=>BinOp) .eql .neq neg) t x y t') u:=by
   intro neg cst d h1 h2 h3;subst h3;obtain⟨a,b,rfl,ha,hb⟩:=hv.two;cases d with
   |interface e=>obtain⟨h4,h5⟩:=bK.1 h2;cases h5
   |pointer e=>obtain⟨k,h4,h5⟩:=bE.1 h2;cases h5;exact vI hT r h1 (.inl ⟨_,rfl⟩) h4 ha hb hr
   |struct fs=>obtain⟨k,h4,h5⟩:=bE.1 h2;cases h5;exact vI hT r h1 (.inr ⟨_,rfl⟩) h4 ha hb hr
   |_=>cases h2
  cases op
  case eql=>
   simp only [bI]at hc;obtain⟨d,h1,h2⟩:=bE.1 hc;obtain⟨c,h3,h4⟩:=bE.1 h2;cases h4;exact eq2 (neg:=false) h1 h3 rfl
  case neq=>
   simp only [bI]at hc;obtain⟨d,h1,h2⟩:=bE.1 hc;obtain⟨c,h3,h4⟩:=bE.1 h2;cases h4;exact eq2 (neg:=true) h1 h3 rfl
  all_goals cases hc
 case lookup t x k ok=>
  simp only [bI]at hc;obtain⟨d,h1,h2⟩:=bE.1 hc;cases d with
  |map kt e=>
   obtain⟨kk,h3,h4⟩:=bE.1 h2;obtain⟨z,h5,h6⟩:=bE.1 h4;cases h6;obtain⟨a,b,rfl,ha,hb⟩:=hv.two;exact tV hT r h1 h3 h5 ha hb hr
  |_=>cases h2
 case call c=>
  obtain⟨callee,args,argTypes⟩:=c;simp only [bI]at hc;cases callee with
  |value x=>cases x<;>cases hc
  |invoke r m=>cases hc
  |builtin b=>
   obtain⟨t,h1,h2⟩:=bE.1 hc;obtain⟨d,h3,h4⟩:=bE.1 h2;have h1':argTypes[0]? =some t:=by rw [dD]at h1;simpa using h1
   cases b
   case len=>
    cases d with
    |map k e=>
     cases h4;have hone:∃a,vs=[a]:=by
      cases vs with
      |nil=>cases hr
      |cons a vs=>cases vs with
       |nil=>exact⟨a,rfl⟩
       |cons b vs=>cases a<;>cases hr
     obtain⟨a,rfl⟩:=hone;obtain⟨x,hx⟩:∃x,args.toList=[x]:=by
      have:=hv.length;simp at this;cases ha:args.toList with
      |nil=>rw [<-Array.length_toList,ha]at this;cases this
      |cons x l=>cases l with
       |nil=>exact⟨x,rfl⟩
       |cons y l=>rw [<-Array.length_toList,ha]at this;simp at this
     rw [hx]at hv;obtain⟨a',e',h⟩:=hv.one;cases e';obtain⟨u,k1,k2⟩:=tW hT r h1' h3 h hr;have ha:args.map ρ=#[ρ x]:=by apply Array.ext';simp [hx]
     exact⟨u,k1,λo e=>by simp [execOp,e,resolve,invoke,builtin,ha,k2]⟩
    |_=>cases h4
   case append=>
    cases d with
    |slice e=>
     obtain⟨n,_,a1⟩:=bE.1 h4;obtain⟨_,_,a2⟩:=bE.1 a1;obtain⟨_,_,a3⟩:=bE.1 a2;obtain⟨_,a4⟩:=bK.1 a3;obtain⟨_,_,a5⟩:=bE.1 a4;obtain⟨_,_,a6⟩:=bE.1 a5
     split at a6<;>cases a6
    |_=>cases h4
   case copy=>
    cases d with
    |slice e=>
     obtain⟨n,_,a1⟩:=bE.1 h4;cases a1
    |_=>cases h4
   case clear=>
    cases d with
    |slice e=>
     obtain⟨n,_,a1⟩:=bE.1 h4;obtain⟨_,_,a2⟩:=bE.1 a1;cases a2
    |_=>cases h4
   case delete=>
    cases d with
    |map k e=>
     obtain⟨_,_,a1⟩:=bE.1 h4;cases a1
    |_=>cases h4
   all_goals (cases d<;>cases h4)
 case alloc t=>
  simp only [bI]at hc;obtain⟨_,_,h⟩:=bE.1 hc;cases h
 case build t ps=>
  simp only [bI]at hc;obtain⟨z,h1,h2⟩:=bE.1 hc;obtain⟨d,h3,h4⟩:=bE.1 h2;cases d with
  |struct fs=>
   obtain⟨pl,h5,h6⟩:=bE.1 h4;obtain⟨l,h7,h8⟩:=bE.1 h6;cases h8
  |array k e=>
   obtain⟨n,h5,h6⟩:=bE.1 h4;cases h6
  |_=>cases h4
 case buildSlice t n ps=>
  simp only [bI]at hc;obtain⟨d,_,h⟩:=bE.1 hc;cases d with
  |slice e=>
   obtain⟨_,_,a1⟩:=bE.1 h;obtain⟨_,_,a2⟩:=bE.1 a1;obtain⟨_,a3⟩:=bK.1 a2;cases a3
  |_=>cases h
 case insert t m k x=>
  simp only [bI]at hc;obtain⟨d,_,h⟩:=bE.1 hc;cases d with
  |map k e=>
   obtain⟨_,_,a1⟩:=bE.1 h;cases a1
  |_=>cases h
 case mapEntry t m k=>
  simp only [bI]at hc;obtain⟨d,_,h⟩:=bE.1 hc;cases d with
  |map k e=>
   obtain⟨_,_,a1⟩:=bE.1 h;obtain⟨_,_,a2⟩:=bE.1 a1;cases a2
  |_=>cases h
 case mapUpdate t m k x=>
  simp only [bI]at hc;obtain⟨d,_,h⟩:=bE.1 hc;cases d with
  |map k e=>
   obtain⟨_,_,a1⟩:=bE.1 h;cases a1
  |_=>cases h
 case store t a x=>
  simp only [bI]at hc;obtain⟨_,_,a1⟩:=bE.1 hc;cases a1
 case convert s d x=>
  simp only [bI]at hc;obtain⟨a,h1,h2⟩:=bE.1 hc;obtain⟨b,h3,h4⟩:=bE.1 h2;cases a with
  |slice e=>
   cases b with
   |string=>
    obtain⟨e1,rfl,e2,e3⟩:=fj h4;cases e1;exact Ae hT r h1 e2 h3 hv hr
   |_=>cases h4
  |_=>cases b<;>cases h4
 case makeInterface t x=>
  simp only [bI]at hc;obtain⟨d,h1,h2⟩:=bE.1 hc;cases d<;>cases h2
 case makeFunc fn a b=>cases fn<;>cases hc
 case makeMap t r=>
  simp only [bI]at hc;obtain⟨d,_,h⟩:=bE.1 hc;cases d<;>cases h
 case makeSlice t l c=>
  simp only [bI]at hc;obtain⟨d,_,h⟩:=bE.1 hc;cases d with
  |slice e=>
   obtain⟨_,_,a1⟩:=bE.1 h;obtain⟨_,_,a2⟩:=bE.1 a1;obtain⟨_,_,a3⟩:=bE.1 a2;obtain⟨_,a4⟩:=bK.1 a3;cases a4
  |_=>cases h
 case slice t x lo hi mx=>
  simp only [bI]at hc;obtain⟨d,_,h⟩:=bE.1 hc;cases d with
  |string=>cases h
  |slice e=>obtain⟨_,_,a1⟩:=bE.1 h;cases a1
  |array k e=>obtain⟨_,_,a1⟩:=bE.1 h;cases a1
  |_=>cases h
 case fieldAddr t x i=>
  simp only [bI]at hc;obtain⟨d,_,h⟩:=bE.1 hc;cases d with
  |struct fs=>
   obtain⟨_,_,a1⟩:=bE.1 h;obtain⟨_,_,a2⟩:=bE.1 a1;cases a2
  |_=>cases h
 case field t x i=>
  simp only [bI]at hc;obtain⟨d,_,h⟩:=bE.1 hc;cases d with
  |struct fs=>
   obtain⟨_,_,a1⟩:=bE.1 h;obtain⟨_,_,a2⟩:=bE.1 a1;obtain⟨_,_,a3⟩:=bE.1 a2;cases a3
  |_=>cases h
 case indexAddr t x i=>
  simp only [bI]at hc;obtain⟨d,_,h⟩:=bE.1 hc;cases d with
  |slice e=>obtain⟨_,_,a1⟩:=bE.1 h;cases a1
  |array k e=>obtain⟨_,_,a1⟩:=bE.1 h;cases a1
  |_=>cases h
 case index t x i=>
  simp only [bI]at hc;obtain⟨d,_,h⟩:=bE.1 hc;cases d with
  |string=>cases h
  |array k e=>
   obtain⟨_,_,a1⟩:=bE.1 h;obtain⟨_,_,a2⟩:=bE.1 a1;cases a2
  |_=>cases h
 case range t x=>
  simp only [bI]at hc;obtain⟨d,_,h⟩:=bE.1 hc;cases d<;>cases h
 case next x b=>cases b<;>cases hc
 all_goals cases hc
end
end
end Ev
end Go.Proofs.YtdfphfdnoobikaaGreatDoor
