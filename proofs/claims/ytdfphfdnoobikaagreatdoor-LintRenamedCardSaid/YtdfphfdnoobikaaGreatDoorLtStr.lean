/-
  Functions of strings.
-/
import Derived.Test.YtdfphfdnoobikaaGreatDoorLtBase
import Derived.Test.YtdfphfdnoobikaaGreatDoorLtTab2
import Derived.Test.YtdfphfdnoobikaaGreatDoorLtTab3
import Derived.Shelf.SlGeneric
import Derived.Ground.MpProg
import Derived.Ground.SlmcProg
import Derived.Ground.SlgmProg
import Derived.Ground.GgzProg
import Derived.Shelf.Strings.Search1
import Derived.Shelf.Strings.Search2
import Derived.Shelf.Strings.Search3
import Derived.Shelf.Strings.Fields
import Derived.Shelf.Slices.Turned
import Derived.Shelf.SlMaps.Clone
import Derived.Shelf.SlIter.Nil
import Derived.Shelf.SortM.Plain
import Derived.Shelf.SortM.SortNone
import Derived.Test.YtdfphfdnoobikaaGreatDoorProg
namespace Go.Proofs.YtdfphfdnoobikaaGreatDoor
namespace Ev
section
noncomputable section
def fr32(n c i:Nat):AL:=[(0,.str n c),(2,.bool false),(3,.int .i64 (Int.ofNat i))]
def byN(c i:Nat):Nat:=Nat.mod (Nat.shiftRight c (Nat.mul 8 i)) 256
def loB(x:Nat):Bool:= !ltI (Int.ofNat x) 97 && !ltI 122 (Int.ofNat x)
def chB(x:Nat):Bool:=loB x||((!ltI (Int.ofNat x) 65 && !ltI 90 (Int.ofNat x))||((!ltI (Int.ofNat x) 48 && !ltI 57 (Int.ofNat x))||(eqI (Int.ofNat x) 95||eqI (Int.ofNat x) 64)))
def oP(c:Nat):Nat->Bool
 |0=>true
 |k+1=>oP c k&&(Nat.beq k 0||chB (byN c k))
def nmC(n c:Nat):Bool:= !ltI (Int.ofNat n) 1&&(!ltI 32 (Int.ofNat n)&&(loB (byN c 0)&&oP c n))
end
theorem AD{c:Nat}{i:Nat}(h0:0<i)(h:chB (byN c i)=false):∀{k},i<k->oP c k=false
 |0,q=>by omega
 |k+1,q=>by
  unfold oP
  by_cases e:i=k
  ·subst e
   cases i with
   |zero=>omega
   |succ i=>
    rw [h];cases oP c (i+1)<;>rfl
  ·rw [AD h0 h (k:=k) (by omega),Bool.false_and]
set_option maxHeartbeats 4000000 in
theorem f32(n c:Nat)(e:n<9223372036854775808):CP 32 [.str n c] (.bool (nmC n c)):=by
 refine cR Tryz.func32 (by decide) q32.2 rfl (cg (.flat rfl) px0) rfl ?_
 repeat' (first
  |(refine WLg.mk ?_;first
  |refine ac ?_|refine av rfl rfl (jZ (Kz Hy)) rfl ?_)|apply ab|refine aj rfl ?_|refine aB rfl rfl ?_|refine aC rfl (λb=>?_) (λb=>?_)|apply ae|apply aa|apply ai|apply ak|refine aF rfl ?_|refine ah rfl (λb=>?_) (λb=>?_)|apply am|apply thN|apply thR|fail)
 ·exact⟨.inr rfl,_,rfl,.flat rfl,by simp only [nmC,Bool.not_true,Bool.false_and, *]<;>rfl⟩
 ·exact⟨.inr rfl,_,rfl,.flat rfl,by simp only [nmC,Bool.not_true,Bool.false_and,Bool.and_false, *]<;>rfl⟩
 ·exact⟨.inr rfl,_,rfl,.flat rfl,by simp only [nmC,loB,byN,Bool.not_true,Bool.false_and,Bool.and_false, *]<;>rfl⟩
 ·exact⟨.inr rfl,_,rfl,.flat rfl,by simp only [nmC,loB,byN,Bool.not_true,Bool.false_and,Bool.and_false, *]<;>rfl⟩
 have a:nmC n c=oP c n:=by simp only [nmC,loB,byN,Bool.not_false,Bool.true_and, *]
 have d:1<=n:=cC Hy;refine az (cS (l:=fr32 n c 1) KT rfl) ?_;refine aA n (λi l h=>(l=fr32 n c i/\1<=i/\oP c i=true)/\h=H0) ?_ (i:=1) d ⟨⟨rfl,Nat.le_refl _,rfl⟩,rfl⟩;rintro i _ _ hi ⟨⟨rfl,h1,ok⟩,rfl⟩;have hz:Nat.beq i 0=false:=by cases i with|zero=>omega|succ i=>rfl
 repeat' (first
  |(refine WLg.mk ?_;first
  |refine ac ?_|refine av rfl rfl (jZ Hy) rfl ?_)|apply ab|refine aj rfl ?_|refine aB rfl rfl ?_|refine aC rfl (λb=>?_) (λb=>?_)|apply ae|apply aa|apply ai|apply ak|refine aD rfl ?_|refine ah rfl (λb=>?_) (λb=>?_)|apply ax|apply am|apply thN|apply thR|apply thE|apply onR|apply onE|fail)
 all_goals (try simp only [Bool.not_not,Bool.not_eq_true',Bool.not_eq_false']at*)
 all_goals first
  |exact .norm ⟨_,_,cS KT rfl,bX Hy,⟨rfl,by omega,by simp only [oP,chB,loB,byN,Bool.not_true,Bool.not_false,Bool.and_true,Bool.true_or,Bool.or_true,Bool.false_and,Bool.and_false, *]⟩,rfl⟩|exact⟨.inr rfl,_,rfl,.flat rfl,by rw [a,AD (i:=i) h1 (by simp only [chB,loB,byN,Bool.not_true,Bool.not_false,Bool.or_false,Bool.false_and,Bool.and_false, *]) (bX Hy)];rfl⟩|exact⟨.inr rfl,_,rfl,.flat rfl,by rw [a,show n=i by have:=cC (by assumption:Nat.blt i n=false);omega,ok];rfl⟩
end
section
noncomputable section
def uB:List (Nat×Nat):=[(5,491328398945),(3,6581857),(7,31370631742516833),(4,1684955490),(5,474214786402),(4,1953459810),(3,7499618),(3,7107426),(3,7500642),(4,1919907938),(4,1702060387),(5,448345170275),(3,7760228),(3,6581861),(3,7239014),(3,7630702),(2,26223),(2,29295),(6,111546414232175),(7,28559167692432754),(3,7169394),(3,7959156),(4,1852139639),(3,7499640)]
def fr71(n c:Nat)(l:List (Nat×Nat))(i:Nat):AL:=[(0,.str n c),(1,.lst l.length 1 (my l)),(4,.bool false),(5,.int .i64 (Int.ofNat i))]
def fr130(n c i:Nat):AL:=[(0,.str n c),(2,.bool false),(3,.int .i64 (Int.ofNat i))]
def fr24(l:List Cl)(i:Nat):AL:=[(0,.lst l.length 4 (clL l)),(2,.bool false),(3,.int .i64 (Int.ofNat i))]
end
noncomputable def inL(l:List (Nat×Nat))(n c:Nat):Bool:=l.any λw=>cJ w.1 w.2 n c
theorem EJ{l:List (Nat×Nat)}{n c i:Nat}(h:i<l.length):inL (l.take (i+1)) n c=(inL (l.take i) n c||cJ (ul l i).1 (ul l i).2 n c):=by
 have:l[i]? =some (ul l i):=cP (ltb h);unfold inL;rw [List.take_add_one,this,List.any_append];simp
theorem EK{l:List (Nat×Nat)}{n c i:Nat}(h:i<l.length)(e:cJ (ul l i).1 (ul l i).2 n c=true):inL l n c=true:=
 List.any_eq_true.2 ⟨ul l i,jf (d:=(0,0)) (ltb h),e⟩
theorem f71(n c:Nat)(l:List (Nat×Nat))(a:l.length<9223372036854775808):CP 71 [.str n c,.lst l.length 1 (my l)] (.bool (inL l n c)):=by
 refine cR Tryz.func71 (by decide) q71.2 rfl (cg (.flat rfl) (cg (pxL _) px0)) rfl ?_
 repeat' (first
  |apply ab|apply ae|apply aa|apply ai|refine ac ?_|apply thN)
 refine az (cS (l:=fr71 n c l 0) KT rfl) ?_;refine aA l.length (λi x h=>(x=fr71 n c l i/\inL (l.take i) n c=false)/\h=H0) ?_ (i:=0) (Nat.zero_le _) ⟨⟨rfl,rfl⟩,rfl⟩;rintro i _ _ hi ⟨⟨rfl,no⟩,rfl⟩
 repeat' (first
  |apply ab|apply ae|apply aa|apply ai|apply ak|refine ah rfl (λb=>?_) (λb=>?_)|apply ax|apply am|apply thN|apply thR|apply thE|apply onR|refine ac ?_|refine av rfl rfl (ce Hy) rfl ?_|refine ap rfl rfl (dY (j:=0) (HJ Hy) rfl _) rfl ?_|apply onE)
 all_goals first
  |exact⟨.inr rfl,_,rfl,.flat rfl,by rw [EK (bX Hy) Hy];rfl⟩|exact .norm ⟨_,_,cS KT rfl,bX Hy,⟨rfl,by rw [EJ (bX Hy),no];assumption⟩,rfl⟩
  |exact⟨.inr rfl,_,rfl,.flat rfl,by
    have a:i=l.length:=by have:=cC (by assumption:Nat.blt i l.length=false);omega
    rw [a,List.take_length]at no;rw [no];rfl⟩
theorem f72:CP 72 [] (.lst 24 1 (my uB)):=by
 refine cR Tryz.func72 (by decide) q72.2 rfl px0 rfl ?_
 repeat' (first
  |apply ab|apply ae|apply aa|apply am|apply thN|refine ac ?_|refine aX rfl rfl rfl rfl rfl rfl PB rfl ?_|exact⟨.inr rfl,_,rfl,pxL uB,rfl⟩|fail)
theorem f53(n c:Nat):CP 53 [.str n c] (.bool (inL uB n c)):=by
 refine cR Tryz.func53 (by decide) q53.2 rfl (cg (.flat rfl) px0) rfl ?_;have a:=f71 n c uB (by decide)
 repeat' (first
  |apply ab|apply ae|apply aa|apply am|refine ac ?_|refine ay f72 ?_|refine ay a ?_|apply thN)
 exact⟨.inr rfl,_,rfl,.flat rfl,rfl⟩
noncomputable def nmV(n c:Nat):Bool:=nmC n c && !inL uB n c
theorem f40(n c:Nat)(a:n<9223372036854775808):CP 40 [.str n c] (.bool (nmV n c)):=by
 refine cR Tryz.func40 (by decide) q40.2 rfl (cg (.flat rfl) px0) rfl ?_
 repeat' (first
  |(refine WLg.mk ?_;first
  |refine ac ?_|refine ay (f32 _ _ a) ?_|refine ay (f53 _ _) ?_)|apply ab|refine aj rfl ?_|refine aB rfl rfl ?_|refine aC rfl (λb=>?_) (λb=>?_)|apply ae|apply aa|apply am|apply thN|fail)
 all_goals exact⟨.inr rfl,_,rfl,.flat rfl,by unfold nmV;simp only [Bool.true_and,Bool.false_and, *];rfl⟩
theorem f130(n c:Nat)(b:n<9223372036854775808):jj 130 [.str n c]:=by
 refine eS Tryz.func130 (by decide) Lw.2 rfl (cg (.flat rfl) px0) rfl ?_
 repeat' (first
  |apply ab|apply ae|apply aa|apply ai|refine ac ?_|apply thN)
 refine az (cS (l:=fr130 n c 0) KT rfl) ?_;refine aA n (λi x h=>x=fr130 n c i/\h=H0) ?_ (i:=0) (Nat.zero_le _) ⟨rfl,rfl⟩;rintro i _ _ hi ⟨rfl,rfl⟩
 repeat' (first
  |(refine WLg.mk ?_;first
  |refine ac ?_|refine av rfl rfl (jZ Hy) rfl ?_)|apply ab|refine aj rfl ?_|refine aB rfl rfl ?_|refine aC rfl (λa=>?_) (λa=>?_)|apply ae|apply aa|apply ai|apply ak|refine aF rfl ?_|refine aD rfl ?_|refine ah rfl (λa=>?_) (λa=>?_)|apply ax|apply am|apply thN|apply thR|apply thE|apply onR|apply onE|exact⟨.inr rfl,_,rfl,.flat rfl,_,rfl⟩|fail)
 all_goals exact .norm ⟨_,_,cS KT rfl,bX Hy,rfl,rfl⟩
theorem f24(l:List Cl)(b:l.length<9223372036854775808):jj 24 [.lst l.length 4 (clL l)]:=by
 refine eS Tryz.func24 (by decide) q24.2 rfl (cg (pxC _) px0) rfl ?_
 repeat' (first
  |apply ab|apply ae|apply aa|apply ai|refine ac ?_|apply thN)
 refine az (cS (l:=fr24 l 0) KT rfl) ?_;refine aA l.length (λi x h=>x=fr24 l i/\h=H0) ?_ (i:=0) (Nat.zero_le _) ⟨rfl,rfl⟩;rintro i _ _ hi ⟨rfl,rfl⟩
 repeat' (first
  |apply ab|apply ae|apply aa|apply ai|apply ak|refine ah rfl (λa=>?_) (λa=>?_)|apply ax|apply am|apply thN|apply thR|apply thE|apply onR|apply onE|refine ac ?_|refine av rfl rfl (ce Hy) rfl ?_|refine ap rfl rfl (dy Hy rfl) rfl ?_|exact⟨.inr rfl,_,rfl,.flat rfl,_,rfl⟩|fail)
 all_goals exact .norm ⟨_,_,cS KT rfl,bX Hy,rfl,rfl⟩
theorem f131(x:Ex):jj 131 [.agg (exO x)]:=by
 refine eS Tryz.func131 (by decide) Lu.2 rfl (cg (pxe _) px0) rfl ?_
 repeat' (first
  |(refine WLg.mk ?_;first
  |refine ac ?_|refine au ?_|refine aE ?_)|apply ab|refine aj rfl ?_|refine aB rfl rfl ?_|refine aC rfl (λa=>?_) (λa=>?_)|apply ae|apply aa|apply am|apply thN|exact⟨.inr rfl,_,rfl,.flat rfl,_,rfl⟩|fail)
set_option maxHeartbeats 4000000 in
theorem f108(n c:Nat)(k:Int):jj 108 [.str n c,.int .i64 k]:=by
 refine eS Tryz.func108 (by decide) LJ.2 rfl (cg (.flat rfl) (cg (.flat rfl) px0)) rfl ?_
 repeat' (first
  |(refine WLg.mk ?_;first
  |refine ac ?_)|apply ab|refine aj rfl ?_|refine aB rfl rfl ?_|refine aC rfl (λa=>?_) (λa=>?_)|apply ae|apply aa|apply ai|apply ak|refine ah rfl (λa=>?_) (λa=>?_)|apply am|apply thN|apply thR|exact⟨.inr rfl,_,rfl,.flat rfl,_,rfl⟩|fail)
end
section
inductive Lv:V->Prop
 |nils:Lv .nils
 |lst {n es:Nat} {cs:List V} (h:bY (.lst n es cs)):Lv (.lst n es cs)
theorem Lv.px{v:V}(h:Lv v):bY v:=by
 cases h with
 |nils=>exact .flat rfl
 |lst h=>exact h
theorem Lv.one{v:V}(h:Lv v):cQ v=true:=by cases h<;>rfl
theorem Lv.len{v:V}(h:Lv v):∃k,POp.run (.leng .sl) [v]=some (.int .i64 (Int.ofNat k)):=by
 cases h with
 |nils=>exact⟨0,rfl⟩
 |lst h=>exact⟨_,rfl⟩
inductive oq:V->Prop
 |mk {k a:Int} {n1 c1 n2 c2:Nat} {l1 l2 l3 l4 l5 l6:V} {w:Bool} (h1:Lv l1) (h2:Lv l2) (h3:Lv l3) (h4:Lv l4) (h5:Lv l5) (h6:Lv l6):oq (.agg [.int .i64 k,.int .i64 a,.str n1 c1,.str n2 c2,l1,l2,l3,l4,l5,l6,.bool w])
theorem oq.px{v:V}(h:oq v):bY v:=by
 cases h with
 |mk h1 h2 h3 h4 h5 h6=>exact .agg (cg (.flat rfl) (cg (.flat rfl) (cg (.flat rfl) (cg (.flat rfl) (cg h1.px (cg h2.px (cg h3.px (cg h4.px (cg h5.px (cg h6.px (cg (.flat rfl) px0)))))))))))
set_option maxHeartbeats 4000000 in
theorem f105(x:Ex):∃v,CP 105 [.agg (exO x)] v/\oq v:=by
 refine eF Tryz.func105 (by decide) LM.2 rfl (cg (pxe _) px0) rfl ?_;have hE:∀l:List Ex,Lv (.lst l.length 11 (exL l)):=λl=>.lst (pxE l);have a:∀l:List Sg,Lv (.lst l.length 27 (sgL l)):=λl=>.lst (pxS l);have hC:∀l:List Cl,Lv (.lst l.length 4 (clL l)):=λl=>.lst (pxC l);have b:∀l:List Sm,Lv (.lst l.length 23 (smL l)):=λl=>.lst (pxM l)
 repeat' (first
  |apply ab|apply ae|apply aa|apply ai|apply ak|refine ah rfl (λc=>?_) (λc=>?_)|apply am|apply thN|refine ac ?_|refine au ?_|refine aI rfl rfl rfl rfl rfl ?_|refine aT rfl rfl rfl rfl rfl rfl rfl rfl rfl ?_|refine aS rfl rfl rfl rfl rfl rfl rfl rfl rfl ?_|exact⟨.inr rfl,_,rfl,oq.px (.mk (by first|exact .nils|exact hE _|exact a _|exact hC _|exact b _) (by first|exact .nils|exact hE _|exact a _|exact hC _|exact b _) (by first|exact .nils|exact hE _|exact a _|exact hC _|exact b _) (by first|exact .nils|exact hE _|exact a _|exact hC _|exact b _) (by first|exact .nils|exact hE _|exact a _|exact hC _|exact b _) (by first|exact .nils|exact hE _|exact a _|exact hC _|exact b _)),.mk (by first|exact .nils|exact hE _|exact a _|exact hC _|exact b _) (by first|exact .nils|exact hE _|exact a _|exact hC _|exact b _) (by first|exact .nils|exact hE _|exact a _|exact hC _|exact b _) (by first|exact .nils|exact hE _|exact a _|exact hC _|exact b _) (by first|exact .nils|exact hE _|exact a _|exact hC _|exact b _) (by first|exact .nils|exact hE _|exact a _|exact hC _|exact b _)⟩|fail)
theorem lD{k a:Int}{n1 c1 n2 c2:Nat}{g f c i d b:V}{w:Bool}(h1:Lv g)(h2:Lv f)(m:Lv c)(o:Lv i)(p:Lv d)(j:Lv b):cU (cellsOf (.agg [.int .i64 k,.int .i64 a,.str n1 c1,.str n2 c2,g,f,c,i,d,b,.bool w]))=true:=by
 have key:∀l:List V,(∀v,v∈l->cQ v=true)->cU l=true:=by
  intro l
  induction l with
  |nil=>intro _;rfl
  |cons v l ih=>
   intro h;show(Bool.rec (motive:=λ_=>Bool) false (cU l) (cQ v):Bool)=true;rw [h v List.mem_cons_self];exact ih λx n=>h x (List.mem_cons_of_mem _ n)
 refine key _ λv e=>?_;simp only [cellsOf,List.mem_cons,List.not_mem_nil,or_false]at e;rcases e with rfl|rfl|rfl|rfl|rfl|rfl|rfl|rfl|rfl|rfl|rfl
 ·rfl
 ·rfl
 ·rfl
 ·rfl
 ·exact h1.one
 ·exact h2.one
 ·exact m.one
 ·exact o.one
 ·exact p.one
 ·exact j.one
 ·rfl
set_option maxHeartbeats 4000000 in
theorem f74{v:V}(b:oq v):jj 74 [v]:=by
 have c:=b.px;cases b with
 |mk h1 h2 h3 h4 h5 h6=>
  refine eS Tryz.func74 (by decide) q74.2 rfl (cg c px0) rfl ?_
  rename_i k a n1 c1 n2 c2 E C s D h g w
  have r:=lD (k:=k) (a:=a) (n1:=n1) (c1:=c1) (n2:=n2) (c2:=c2) (w:=w) h1 h2 h3 h4 h5 h6;have q:=h1.px;have i:=h2.px;have x:=h3.px;have B:=h4.px;have e:=h5.px;have f:=h6.px;obtain⟨A,m⟩:=h1.len;obtain⟨o,z⟩:=h2.len;obtain⟨y,u⟩:=h3.len;obtain⟨j,F⟩:=h4.len;obtain⟨n,t⟩:=h5.len;obtain⟨p,l⟩:=h6.len
  repeat' (first
   |(refine WLg.mk ?_;first
   |refine ac ?_|refine av rfl rfl Hy rfl ?_|refine au ?_|refine aE ?_)|apply ab|refine aj rfl ?_|refine aB rfl rfl ?_|refine aC rfl (λd=>?_) (λd=>?_)|apply ae|apply aa|apply am|apply thN|exact⟨.inr rfl,_,rfl,.flat rfl,_,rfl⟩|fail)
end
section
theorem pE(x:Ex):oq (.agg (exO x)):= .mk (.lst (pxE _)) (.lst (pxS _)) (.lst (pxC _)) (.lst (pxC _)) (.lst (pxM _)) (.lst (pxM _))
noncomputable section
def fr54(l:List Ex)(i:Nat):AL:=[(0,.lst l.length 11 (exL l)),(2,.bool false),(3,.int .i64 (Int.ofNat i))]
def fr55(l:List Sm)(i:Nat):AL:=[(0,.lst l.length 23 (smL l)),(2,.bool false),(3,.int .i64 (Int.ofNat i))]
def fr107(l:List Sg)(i:Nat):AL:=[(0,.lst l.length 27 (sgL l)),(2,.bool false),(3,.int .i64 (Int.ofNat i))]
def fr41(l:List Cl)(p:Int)(b:Bool)(i:Nat):AL:=[(0,.lst l.length 4 (clL l)),(1,.int .i64 p),(2,.bool b),(6,.bool false),(7,.int .i64 (Int.ofNat i))]
def fr41'(l:List Cl)(p:Int)(b:Bool)(i k:Nat):AL:=[(0,.lst l.length 4 (clL l)),(1,.int .i64 p),(2,.bool b),(6,.bool false),(7,.int .i64 (Int.ofNat i)),(8,.eptr (clO (bV l i)) 0),(9,.int .i64 (Int.ofNat k))]
def fr109(x:Ex)(i:Nat):AL:=[(0,.agg (exO x)),(1,.eptr (exO x) 0),(2,.bool false),(3,.int .i64 (Int.ofNat i))]
end
end
section
noncomputable section
def fr137(l:List (Nat×Nat))(n c i:Nat):AL:=[(0,.lst l.length 1 (my l)),(1,.str n c),(4,.int .i64 0),(7,.int .i64 (Int.ofNat l.length)),(8,.int .i64 (Int.ofNat i))]
def I1:List (Nat×Nat):=[(1,33)]
def I0:List (Nat×Nat):=[(6,111546414232175)]
def IZ:List (Nat×Nat):=[(7,31370631742516833)]
def IY:List (Nat×Nat):=[(3,4012605),(3,4009789),(1,60),(2,15421),(1,62),(2,15678)]
def IX:List (Nat×Nat):=[(2,11051)]
def IW:List (Nat×Nat):=[(1,43),(1,45),(3,7499618),(4,1919907938),(3,7107426),(3,7500642),(2,29295),(3,7499640)]
def lev:List V:=[.lst I1.length 1 (my I1),.bool true,.bool false,.lst I0.length 1 (my I0),.bool false,.bool false,.lst IZ.length 1 (my IZ),.bool false,.bool false,.lst IY.length 1 (my IY),.bool false,.bool true,.lst IX.length 1 (my IX),.bool true,.bool false,.lst IW.length 1 (my IW),.bool false,.bool false]
def fr81(n c:Nat)(k:Int)(i:Nat):AL:=[(0,.str n c),(1,.int .i64 k),(4,.bool false),(29,.agg lev),(30,.int .i64 (Int.ofNat i))]
end
theorem f137(l:List (Nat×Nat))(b:l.length<9223372036854775808)(n c:Nat):FP 137 [.lst l.length 1 (my l),.str n c]:=by
 refine Fq (eF Tryz.func137 (by decide) JV.2 rfl (cg (pxL _) (cg (.flat rfl) px0)) rfl ?_)
 repeat' (first
  |apply ab|apply ae|apply aa|apply ai|refine ac ?_|apply thN)
 refine az (cS (l:=fr137 l n c 0) KT rfl) ?_;refine aA l.length (λi x h=>x=fr137 l n c i/\h=H0) ?_ (i:=0) (Nat.zero_le _) ⟨rfl,rfl⟩;rintro i _ _ hi ⟨rfl,rfl⟩
 repeat' (first
  |apply ab|apply ae|apply aa|apply ai|apply ak|refine ah rfl (λa=>?_) (λa=>?_)|apply ax|apply am|apply thN|apply thR|apply thE|apply onR|apply onE|refine ac ?_|refine av rfl rfl (ce Hy) rfl ?_|refine ap rfl rfl (dY (j:=0) (HJ Hy) rfl _) rfl ?_|exact⟨.inr rfl,_,rfl,.flat rfl,_,rfl⟩|fail)
 all_goals exact .norm ⟨_,_,cS KT rfl,bX Hy,rfl,rfl⟩
theorem f113(l:List (Nat×Nat))(a:l.length<9223372036854775808)(n c:Nat):jj 113 [.lst l.length 1 (my l),.str n c]:=by
 refine eS Tryz.func113 (by decide) JY.2 rfl (cg (pxL _) (cg (.flat rfl) px0)) rfl ?_
 repeat' (first
  |apply ab|apply ae|apply aa|apply am|apply thN|refine ac ?_|refine ay (f137 l a n c) ?_|exact⟨.inr rfl,_,rfl,.flat rfl,_,rfl⟩|fail)
theorem EB:∀c,c∈lev->bY c:=by
 unfold lev
 repeat' (first|exact px0|refine cg ?_ ?_|exact pxL _|exact .flat rfl)
theorem f112:CP 112 [] (.agg lev):=by
 refine cR Tryz.func112 (by decide) LH.2 rfl px0 rfl ?_
 repeat' (first
  |apply ab|apply ae|apply aa|apply am|apply thN|refine ac ?_|refine aX rfl rfl rfl rfl rfl rfl PB rfl ?_|refine aI rfl rfl rfl rfl rfl ?_|refine aS rfl rfl rfl rfl rfl rfl rfl rfl rfl ?_|exact⟨.inr rfl,_,rfl,.agg EB,rfl⟩|fail)
set_option maxHeartbeats 2000000 in
theorem f81(n c:Nat)(k:Int):jj 81 [.str n c,.int .i64 k]:=by
 refine eS Tryz.func81 (by decide) q81.2 rfl (cg (.flat rfl) (cg (.flat rfl) px0)) rfl ?_;have d:bY (.agg lev):= .agg EB;have b:=f113 I1 (by decide) n c;have c1:=f113 I0 (by decide) n c;have c2:=f113 IZ (by decide) n c;have c3:=f113 IY (by decide) n c;have c4:=f113 IX (by decide) n c;have c5:=f113 IW (by decide) n c
 repeat' (first
  |(refine WLg.mk ?_;first
  |refine ac ?_|refine ay f112 ?_)|apply ab|refine aj rfl ?_|refine aB rfl rfl ?_|refine aC rfl (λa=>?_) (λa=>?_)|apply ae|apply aa|apply ai|apply ak|refine ah rfl (λa=>?_) (λa=>?_)|apply am|apply thN|apply thR|exact⟨.inr rfl,_,rfl,.flat rfl,_,rfl⟩|fail)
 all_goals first|(exfalso;simp_all;done)|skip
 refine az (cS (l:=fr81 n c k 0) KT rfl) ?_;refine aA 6 (λi x h=>x=fr81 n c k i/\h=H0) ?_ (i:=0) (Nat.zero_le _) ⟨rfl,rfl⟩;rintro i _ _ hi ⟨rfl,rfl⟩;rcases (by omega:i=0\/i=1\/i=2\/i=3\/i=4\/i=5\/i=6)with rfl|rfl|rfl|rfl|rfl|rfl|rfl
 repeat' (first
  |apply ab|apply ae|apply aa|apply ai|apply ak|refine aF rfl ?_|refine aD rfl ?_|refine ah rfl (λa=>?_) (λa=>?_)|apply ax|apply am|apply thN|apply thR|apply thE|apply onR|apply onE|refine ac ?_|refine au ?_|refine aI rfl rfl rfl rfl rfl ?_|refine aS rfl rfl rfl rfl rfl rfl rfl rfl rfl ?_|refine ay b ?_|refine ay c1 ?_|refine ay c2 ?_|refine ay c3 ?_|refine ay c4 ?_|refine ay c5 ?_|exact⟨.inr rfl,_,rfl,.flat rfl,_,rfl⟩|fail)
 all_goals exact .norm ⟨_,_,cS KT rfl,by omega,rfl,rfl⟩
end
section
noncomputable section
def lpS(n c pos:Nat):List (Option Blk):=[some (.ro 256 d3),some (.siter n c pos)]
def HS(n c pos:Nat):H:=⟨trO (lpS n c pos) 0 .e,2⟩
end
inductive kX(f:AL):AL->Prop
 |nil:kX f []
 |it {t off:Nat} {l:AL} (e:lk f t=some (.ptr 1 off)) (r:kX f l):kX f ((t,.ptr 1 off) ::l)
 |cons {t:Nat} {v:V} {l:AL} (e:lk f t=some v) (p:bY v) (r:kX f l):kX f ((t,v) ::l)
theorem kX.mem{U:Nat->Prop}(h1:U 1){f:AL}:∀{l:AL},kX f l->∀p,p∈l->∃v,lk f p.1=some v/\Rn U (λi=>i) (λ_=>none) p.2 v
 |_,.nil,p,h=>by cases h
 |_,.it e r,p,h=>by
  rcases List.mem_cons.1 h with rfl|h
  ·exact⟨_,e,.ptr h1⟩
  ·exact kX.mem h1 r p h
 |_,.cons e q r,p,h=>by
  rcases List.mem_cons.1 h with rfl|h
  ·exact⟨_,e,.pure q⟩
  ·exact kX.mem h1 r p h
theorem KS{f l:AL}(h:kX f l:=by repeat' (first|exact .nil|refine .it rfl ?_|refine .cons rfl ?_ ?_|exact PX)):kX f l:=h
theorem AR{f:F}{h:H}{l:AL}{n c a:Nat}(k:kX f.loc l)(t:h.blk 0=some (.ro 256 d3))(hs:h.blk 1=some (.siter n c a)):fy TP Kp f h ⟨l,[]⟩ (HS n c a):=by
 have w:2<=bZ:=by unfold bZ;omega
 have u:∀i,cY (lpS n c a) i->i=0\/i=1:=λi ⟨b,e⟩=>by
  cases i with
  |zero=>exact .inl rfl
  |succ i=>cases i with
   |zero=>exact .inr rfl
   |succ i=>cases e
 have g:∀i j d,cY (lpS n c a) i->¬Up h i j d:=λi j d hi=>by
  rcases u i hi with rfl|rfl
  ·exact d9 t
  ·intro q
   cases q with
   |one e' k'=>rw [hs]at e';cases e';cases k'
   |step e' k' _=>rw [hs]at e';cases e';cases k'
 have V:Vw TP h (lpS n c a) (λi=>i) (λ_=>none):=by
  refine⟨w,λi s e=>?_,λi j _ _ e=>e,λi j d hi _=>g i j d hi,(λk cs e=>by cases e),(λk cs i e=>by cases e),λq o=>⟨rfl,?_⟩⟩
  ·rcases u i ⟨_,e⟩with rfl|rfl
   ·obtain rfl:Blk.ro 256 d3=s:=by cases e;rfl
    exact⟨_,t,.ro λj v e=>.flat (eX fD (by rw [ig];unfold bZ;omega) e)⟩
   ·obtain rfl:Blk.siter n c a=s:=by cases e;rfl
    exact⟨_,hs,.siter⟩
  ·have e:=l8.all q o
   have m:q.1=0:=by rw [jv]at o;rw [List.mem_singleton.1 o]
   rw [m]at e ⊢;exact e
 exact V.view (λid h=>by obtain rfl:id=0:=h;exact⟨⟨_,rfl⟩,rfl⟩) (.inl λ_=>rfl) ⟨λp r=>k.mem ⟨_,rfl⟩ p r,λp r=>by cases r⟩
theorem Bu{n c a:Nat}(h:Nat.blt a n=true):EOp.run .nextS [.ptr 1 0] (HS n c a)=some (.tup [.bool true,.int .i64 (Int.ofNat a),.int .i32 (Int.ofNat (mh n c a).1)],⟨(HS n c a).t.put 1 (some (.siter n c (Nat.add a (mh n c a).2))),2⟩):=by
 show(Bool.rec (motive:=λ_=>Option (V×H)) (some (.tup [.bool false],HS n c a)) (some (.tup [.bool true,.int .i64 (Int.ofNat a),.int .i32 (Int.ofNat (mh n c a).1)],⟨(HS n c a).t.put 1 (some (.siter n c (Nat.add a (mh n c a).2))),2⟩)) (Nat.blt a n):Option (V×H))=_;rw [h]
theorem xY{n c a:Nat}(h:Nat.blt a n=false):EOp.run .nextS [.ptr 1 0] (HS n c a)=some (.tup [.bool false],HS n c a):=by
 show(Bool.rec (motive:=λ_=>Option (V×H)) (some (.tup [.bool false],HS n c a)) (some (.tup [.bool true,.int .i64 (Int.ofNat a),.int .i32 (Int.ofNat (mh n c a).1)],⟨(HS n c a).t.put 1 (some (.siter n c (Nat.add a (mh n c a).2))),2⟩)) (Nat.blt a n):Option (V×H))=_;rw [h]
theorem BP(n c a:Nat):1<=(mh n c a).2:=by
 unfold mh;rw [cO]
 split
 ·exact Nat.le_refl 1
 ·unfold Utf8.decode
  simp only
  repeat' split
  all_goals simp
noncomputable def fr56(n c:Nat):AL:=[(0,.str n c),(2,.bool false),(13,.ptr 1 0)]
set_option maxHeartbeats 2000000 in
theorem f56(n c:Nat):jj 56 [.str n c]:=by
 refine eS Tryz.func56 (by decide) q56.2 rfl (cg (.flat rfl) px0) rfl ?_
 repeat' (first
  |(refine WLg.mk ?_;first
  |refine ac ?_|refine aI rfl rfl rfl rfl rfl ?_)|apply ab|refine aj rfl ?_|refine aB rfl rfl ?_|refine aC rfl (λd=>?_) (λd=>?_)|refine bz (t:=11) (λb=>rfl) ?_ (λb=>?_)|apply ae|apply aa|apply ai|apply ak|refine ah rfl (λd=>?_) (λd=>?_)|apply am|apply thN|apply thR|exact⟨⟨_,rfl⟩,rfl⟩|exact⟨.inr rfl,_,rfl,.flat rfl,_,rfl⟩|fail)
 refine az (AR (l:=fr56 n c) KS rfl rfl) ?_;refine bO (λk x h=>∃a,k=n-a/\x=fr56 n c/\h=HS n c a) ?_ (k:=n-0) ⟨0,rfl,rfl,rfl⟩;rintro _ _ _ ⟨a,rfl,rfl,rfl⟩;cases e:Nat.blt a n with
 |false=>
  repeat' (first
   |apply ab|apply ae|apply aa|refine aD rfl ?_|apply ax|apply am|apply thN|apply thE|apply onE|refine ac ?_|refine aK rfl rfl (xY e) rfl ?_|exact⟨.inr rfl,_,rfl,.flat rfl,_,rfl⟩|fail)
 |true=>
  repeat' (first
   |(refine WLg.mk ?_;first
   |refine ac ?_|refine aK rfl rfl (Bu e) rfl ?_)|apply ab|refine aj rfl ?_|refine aB rfl rfl ?_|refine aC rfl (λd=>?_) (λd=>?_)|refine bz (t:=25) (λb=>rfl) ?_ (λb=>?_)|apply ae|apply aa|apply ai|apply ak|refine aF rfl ?_|refine aD rfl ?_|refine ah rfl (λd=>?_) (λd=>?_)|apply am|apply thN|apply thR|apply onR|exact⟨⟨_,rfl⟩,rfl⟩|exact⟨.inr rfl,_,rfl,.flat rfl,_,rfl⟩|fail)
  all_goals exact .norm ⟨_,_,AR KS rfl rfl,n-(a+(mh n c a).2),by have:=bX e;have:=BP n c a;omega,a+(mh n c a).2,rfl,rfl,rfl⟩
end
end Ev
end Go.Proofs.YtdfphfdnoobikaaGreatDoor
namespace Go.Proofs
open Go.Shelf
def Tryz.lays144_ren:Go.Shelf.Ren:=⟨fun | 144=>65 | 143=>96 | 219=>124 | 217=>140 | 225=>141 | 224=>142 | 267=>143 | 266=>156 | 314=>157|n=>n,fun | 9=>9 | 4=>4 | 3=>3 | 5=>5 | 46=>164 | 146=>173 | 51=>168|n=>n,fun | 1=>1|n=>n⟩
theorem Tryz.lays144:Go.Proofs.Lays.n144 Tryz.prog Tryz.lays144_ren:={
 mixed:=by kernel_rfl
 f143:=Tryz.func96.trans (congrArg some (by kernel_rfl))
 f144:=Tryz.func65.trans (congrArg some (by kernel_rfl))
 f217:=Tryz.func140.trans (congrArg some (by kernel_rfl))
 f219:=Tryz.func124.trans (congrArg some (by kernel_rfl))
 f224:=Tryz.func142.trans (congrArg some (by kernel_rfl))
 f225:=Tryz.func141.trans (congrArg some (by kernel_rfl))
 f266:=Tryz.func156.trans (congrArg some (by kernel_rfl))
 f267:=Tryz.func143.trans (congrArg some (by kernel_rfl))
 f314:=Tryz.func157.trans (congrArg some (by kernel_rfl))
 t3:=Tryz.underlying3
 a3:=Tryz.isAgg3
 z3:=Tryz.sizeOf3
 v3:=Tryz.zeroValue3
 t4:=Tryz.underlying4
 a4:=Tryz.isAgg4
 z4:=Tryz.sizeOf4
 v4:=Tryz.zeroValue4
 t5:=Tryz.underlying5
 a5:=Tryz.isAgg5
 z5:=Tryz.sizeOf5
 v5:=Tryz.zeroValue5
 t9:=Tryz.underlying9
 a9:=Tryz.isAgg9
 z9:=Tryz.sizeOf9
 v9:=Tryz.zeroValue9
 t46:=Tryz.underlying164
 a46:=Tryz.isAgg164
 z46:=Tryz.sizeOf164
 v46:=Tryz.zeroValue164
 t51:=Tryz.underlying168
 a51:=Tryz.isAgg168
 z51:=Tryz.sizeOf168
 v51:=Tryz.zeroValue168
 t146:=Tryz.underlying173
 a146:=Tryz.isAgg173
 z146:=Tryz.sizeOf173
 v146:=Tryz.zeroValue173
 g1:=by kernel_rfl}
open Go.RowKit Go.Lib in
theorem Tryz.strings_Contains_one(s:ByteArray)(c:UInt8)(w:World):
  Calls Tryz.prog 65 #[.string s,.string ⟨#[c]⟩] w λe w'=>e= .returned (.bool (decide (0<=Lib.indexByte s.data.toList c)))/\w'=w:=Any.strings_Contains_one Tryz.lays144 s c w
def Tryz.lays157_ren:Go.Shelf.Ren:=⟨fun | 157=>98 | 229=>125 | 199=>126 | 261=>144 | 311=>158 | 312=>159|n=>n,fun | 9=>9 | 31=>109 | 3=>3 | 5=>5 | 4=>4 | 119=>145 | 0=>0 | 40=>147 | 152=>165 | 21=>21 | 154=>167 | 51=>168 | 141=>170 | 196=>178 | 193=>175 | 198=>181 | 49=>179 | 194=>176 | 201=>184 | 226=>193 | 46=>164 | 227=>194|n=>n,fun | 0=>0 | 6=>2|n=>n⟩
theorem Tryz.lays157:Go.Proofs.Lays.n157 Tryz.prog Tryz.lays157_ren:={
 mixed:=by kernel_rfl
 f157:=Tryz.func98.trans (congrArg some (by kernel_rfl))
 f199:=Tryz.func126.trans (congrArg some (by kernel_rfl))
 f229:=Tryz.func125.trans (congrArg some (by kernel_rfl))
 f261:=Tryz.func144.trans (congrArg some (by kernel_rfl))
 f311:=Tryz.func158.trans (congrArg some (by kernel_rfl))
 f312:=Tryz.func159.trans (congrArg some (by kernel_rfl))
 t0:=Tryz.underlying0
 a0:=Tryz.isAgg0
 z0:=Tryz.sizeOf0
 v0:=Tryz.zeroValue0
 t3:=Tryz.underlying3
 a3:=Tryz.isAgg3
 z3:=Tryz.sizeOf3
 v3:=Tryz.zeroValue3
 t4:=Tryz.underlying4
 a4:=Tryz.isAgg4
 z4:=Tryz.sizeOf4
 v4:=Tryz.zeroValue4
 t5:=Tryz.underlying5
 a5:=Tryz.isAgg5
 z5:=Tryz.sizeOf5
 v5:=Tryz.zeroValue5
 t9:=Tryz.underlying9
 a9:=Tryz.isAgg9
 z9:=Tryz.sizeOf9
 v9:=Tryz.zeroValue9
 t21:=Tryz.underlying21
 a21:=Tryz.isAgg21
 z21:=Tryz.sizeOf21
 v21:=Tryz.zeroValue21
 t31:=Tryz.underlying109
 a31:=Tryz.isAgg109
 z31:=Tryz.sizeOf109
 v31:=Tryz.zeroValue109
 t40:=Tryz.underlying147
 a40:=Tryz.isAgg147
 z40:=Tryz.sizeOf147
 v40:=Tryz.zeroValue147
 t46:=Tryz.underlying164
 a46:=Tryz.isAgg164
 z46:=Tryz.sizeOf164
 v46:=Tryz.zeroValue164
 t49:=Tryz.underlying179
 a49:=Tryz.isAgg179
 z49:=Tryz.sizeOf179
 v49:=Tryz.zeroValue179
 t51:=Tryz.underlying168
 a51:=Tryz.isAgg168
 z51:=Tryz.sizeOf168
 v51:=Tryz.zeroValue168
 t119:=Tryz.underlying145
 a119:=Tryz.isAgg145
 z119:=Tryz.sizeOf145
 t141:=Tryz.underlying170
 a141:=Tryz.isAgg170
 z141:=Tryz.sizeOf170
 v141:=Tryz.zeroValue170
 t152:=Tryz.underlying165
 a152:=Tryz.isAgg165
 z152:=Tryz.sizeOf165
 v152:=Tryz.zeroValue165
 t154:=Tryz.underlying167
 a154:=Tryz.isAgg167
 z154:=Tryz.sizeOf167
 v154:=Tryz.zeroValue167
 t193:=Tryz.underlying175
 a193:=Tryz.isAgg175
 z193:=Tryz.sizeOf175
 v193:=Tryz.zeroValue175
 t194:=Tryz.underlying176
 a194:=Tryz.isAgg176
 z194:=Tryz.sizeOf176
 v194:=Tryz.zeroValue176
 t196:=Tryz.underlying178
 a196:=Tryz.isAgg178
 z196:=Tryz.sizeOf178
 v196:=Tryz.zeroValue178
 t198:=Tryz.underlying181
 a198:=Tryz.isAgg181
 z198:=Tryz.sizeOf181
 v198:=Tryz.zeroValue181
 t201:=Tryz.underlying184
 a201:=Tryz.isAgg184
 z201:=Tryz.sizeOf184
 v201:=Tryz.zeroValue184
 t226:=Tryz.underlying193
 a226:=Tryz.isAgg193
 z226:=Tryz.sizeOf193
 v226:=Tryz.zeroValue193
 t227:=Tryz.underlying194
 a227:=Tryz.isAgg194
 z227:=Tryz.sizeOf194
 v227:=Tryz.zeroValue194
 g0:=by kernel_rfl
 g6:=by kernel_rfl}
def Tryz.laysSlM6_f169_ren:Go.Shelf.Ren:=⟨fun | 6=>169 | 8=>181 | 9=>180 | 19=>197 | 20=>198 | 21=>188 | 22=>189 | 23=>190 | 24=>191 | 25=>192 | 26=>193 | 27=>194 | 28=>195 | 29=>196 | 36=>202 | 31=>203 | 32=>204 | 37=>205 | 38=>206 | 39=>207 | 41=>210|n=>n,fun | 27=>109 | 29=>9 | 3=>3 | 32=>164 | 26=>109 | 0=>0 | 44=>168 | 46=>127 | 4=>4 | 36=>216 | 35=>215 | 41=>220 | 5=>5 | 9=>9 | 53=>225 | 57=>229 | 63=>231 | 64=>232|n=>n,fun|n=>n⟩
def Tryz.cloneM_ren:Go.Shelf.Ren:=⟨fun | 5=>103 | 7=>127|n=>n,fun | 23=>96 | 25=>9 | 3=>3 | 4=>4 | 20=>20|n=>n,fun|n=>n⟩
theorem Tryz.cloneM:Go.Proofs.SlLaysW.n5 Tryz.prog Tryz.cloneM_ren:={
 mixed:=by kernel_rfl
 f5:=⟨Tryz.f103.name,by decide,Tryz.func103.trans (congrArg some (by kernel_rfl))⟩
 f7:=Tryz.func127.trans (congrArg some (by kernel_rfl))
 t4:=Tryz.underlying4
 a4:=Tryz.isAgg4
 z4:=Tryz.sizeOf4
 v4:=Tryz.zeroValue4
 t20:=Tryz.underlying20
 a20:=Tryz.isAgg20
 z20:=Tryz.sizeOf20
 v20:=Tryz.zeroValue20
 t23:=Tryz.underlying96
 a23:=Tryz.isAgg96
 z23:=Tryz.sizeOf96
 v23:=Tryz.zeroValue96}
def Tryz.keys162_ren:Go.Shelf.Ren:=⟨fun | 7=>162 | 10=>170|n=>n,fun | 23=>96 | 26=>9 | 3=>3 | 28=>189 | 0=>0 | 27=>188 | 33=>75 | 4=>4|n=>n,fun|n=>n⟩
theorem Tryz.keys162:Go.Proofs.SlLaysZ.n7 Tryz.prog Tryz.keys162_ren:={
 mixed:=by kernel_rfl
 f7:=⟨Tryz.f162.name,by decide,Tryz.func162.trans (congrArg some (by kernel_rfl))⟩
 f10:=⟨Tryz.f170.name,by decide,Tryz.func170.trans (congrArg some (by kernel_rfl))⟩
 t0:=Tryz.underlying0
 a0:=Tryz.isAgg0
 z0:=Tryz.sizeOf0
 v0:=Tryz.zeroValue0
 t4:=Tryz.underlying4
 a4:=Tryz.isAgg4
 z4:=Tryz.sizeOf4
 v4:=Tryz.zeroValue4
 t23:=Tryz.underlying96
 a23:=Tryz.isAgg96
 z23:=Tryz.sizeOf96
 v23:=Tryz.zeroValue96
 t26:=Tryz.underlying9
 a26:=Tryz.isAgg9
 z26:=Tryz.sizeOf9
 v26:=Tryz.zeroValue9
 t27:=Tryz.underlying188
 a27:=Tryz.isAgg188
 z27:=Tryz.sizeOf188
 v27:=Tryz.zeroValue188
 t28:=Tryz.underlying189
 a28:=Tryz.isAgg189
 z28:=Tryz.sizeOf189
 v28:=Tryz.zeroValue189
 t33:=Tryz.underlying75
 a33:=Tryz.isAgg75
 z33:=Tryz.sizeOf75
 v33:=Tryz.zeroValue75}
def Tryz.sorted161_ren:Go.Shelf.Ren:=⟨fun | 6=>161 | 8=>168 | 9=>169 | 11=>179 | 13=>181 | 12=>180 | 23=>197 | 24=>198 | 14=>188 | 15=>189 | 16=>190 | 17=>191 | 18=>192 | 19=>193 | 20=>194 | 21=>195 | 22=>196 | 25=>202 | 26=>203 | 27=>204 | 28=>205 | 29=>206 | 30=>207 | 31=>210|n=>n,fun | 26=>9 | 28=>189 | 24=>109 | 0=>0 | 3=>3 | 37=>164 | 48=>168 | 50=>127 | 4=>4 | 40=>216 | 39=>215 | 45=>220 | 5=>5 | 9=>9 | 51=>225 | 55=>229 | 57=>231 | 58=>232 | 33=>75|n=>n,fun|n=>n⟩
theorem Tryz.sorted161:Go.Proofs.SlLaysZ.n6 Tryz.prog Tryz.sorted161_ren:={
 mixed:=by kernel_rfl
 f6:=⟨Tryz.f161.name,by decide,Tryz.func161.trans (congrArg some (by kernel_rfl))⟩
 f8:=⟨Tryz.f168.name,by decide,Tryz.func168.trans (congrArg some (by kernel_rfl))⟩
 f11:=⟨Tryz.f179.name,by decide,Tryz.func179.trans (congrArg some (by kernel_rfl))⟩
 t0:=Tryz.underlying0
 a0:=Tryz.isAgg0
 z0:=Tryz.sizeOf0
 v0:=Tryz.zeroValue0
 t24:=Tryz.underlying109
 a24:=Tryz.isAgg109
 z24:=Tryz.sizeOf109
 v24:=Tryz.zeroValue109
 t26:=Tryz.underlying9
 a26:=Tryz.isAgg9
 z26:=Tryz.sizeOf9
 v26:=Tryz.zeroValue9
 t28:=Tryz.underlying189
 a28:=Tryz.isAgg189
 z28:=Tryz.sizeOf189
 v28:=Tryz.zeroValue189
 i26:=by kernel_rfl}
def Tryz.sort169_ren:Go.Shelf.Ren:=⟨fun | 6=>169 | 8=>181 | 9=>180 | 19=>197 | 20=>198 | 21=>188 | 22=>189 | 23=>190 | 24=>191 | 25=>192 | 26=>193 | 27=>194 | 28=>195 | 29=>196 | 36=>202 | 31=>203 | 32=>204 | 37=>205 | 38=>206 | 39=>207 | 41=>210|n=>n,fun | 27=>109 | 29=>9 | 3=>3 | 32=>164 | 26=>109 | 0=>0 | 44=>168 | 46=>127 | 4=>4 | 36=>216 | 35=>215 | 41=>220 | 5=>5 | 9=>9 | 53=>225 | 57=>229 | 63=>231 | 64=>232|n=>n,fun|n=>n⟩
theorem Tryz.sort169:Go.Proofs.SlLaysM.n6 Tryz.prog Tryz.sort169_ren:={
 mixed:=by kernel_rfl
 f6:=⟨Tryz.f169.name,by decide,Tryz.func169.trans (congrArg some (by kernel_rfl))⟩
 f8:=Tryz.func181.trans (congrArg some (by kernel_rfl))
 f9:=⟨Tryz.f180.name,by decide,Tryz.func180.trans (congrArg some (by kernel_rfl))⟩
 f19:=Tryz.func197.trans (congrArg some (by kernel_rfl))
 f20:=Tryz.func198.trans (congrArg some (by kernel_rfl))
 f21:=⟨Tryz.f188.name,by decide,Tryz.func188.trans (congrArg some (by kernel_rfl))⟩
 f22:=⟨Tryz.f189.name,by decide,Tryz.func189.trans (congrArg some (by kernel_rfl))⟩
 f23:=⟨Tryz.f190.name,by decide,Tryz.func190.trans (congrArg some (by kernel_rfl))⟩
 f24:=⟨Tryz.f191.name,by decide,Tryz.func191.trans (congrArg some (by kernel_rfl))⟩
 f25:=⟨Tryz.f192.name,by decide,Tryz.func192.trans (congrArg some (by kernel_rfl))⟩
 f26:=⟨Tryz.f193.name,by decide,Tryz.func193.trans (congrArg some (by kernel_rfl))⟩
 f27:=⟨Tryz.f194.name,by decide,Tryz.func194.trans (congrArg some (by kernel_rfl))⟩
 f28:=⟨Tryz.f195.name,by decide,Tryz.func195.trans (congrArg some (by kernel_rfl))⟩
 f29:=⟨Tryz.f196.name,by decide,Tryz.func196.trans (congrArg some (by kernel_rfl))⟩
 f31:=Tryz.func203.trans (congrArg some (by kernel_rfl))
 f32:=Tryz.func204.trans (congrArg some (by kernel_rfl))
 f36:=⟨Tryz.f202.name,by decide,Tryz.func202.trans (congrArg some (by kernel_rfl))⟩
 f37:=⟨Tryz.f205.name,by decide,Tryz.func205.trans (congrArg some (by kernel_rfl))⟩
 f38:=⟨Tryz.f206.name,by decide,Tryz.func206.trans (congrArg some (by kernel_rfl))⟩
 f39:=⟨Tryz.f207.name,by decide,Tryz.func207.trans (congrArg some (by kernel_rfl))⟩
 f41:=⟨Tryz.f210.name,by decide,Tryz.func210.trans (congrArg some (by kernel_rfl))⟩
 t0:=Tryz.underlying0
 a0:=Tryz.isAgg0
 z0:=Tryz.sizeOf0
 v0:=Tryz.zeroValue0
 t3:=Tryz.underlying3
 a3:=Tryz.isAgg3
 z3:=Tryz.sizeOf3
 v3:=Tryz.zeroValue3
 t4:=Tryz.underlying4
 a4:=Tryz.isAgg4
 z4:=Tryz.sizeOf4
 v4:=Tryz.zeroValue4
 t5:=Tryz.underlying5
 a5:=Tryz.isAgg5
 z5:=Tryz.sizeOf5
 v5:=Tryz.zeroValue5
 t9:=Tryz.underlying9
 a9:=Tryz.isAgg9
 z9:=Tryz.sizeOf9
 v9:=Tryz.zeroValue9
 t26:=Tryz.underlying109
 a26:=Tryz.isAgg109
 z26:=Tryz.sizeOf109
 v26:=Tryz.zeroValue109
 t27:=Tryz.underlying109
 a27:=Tryz.isAgg109
 z27:=Tryz.sizeOf109
 v27:=Tryz.zeroValue109
 t29:=Tryz.underlying9
 a29:=Tryz.isAgg9
 z29:=Tryz.sizeOf9
 v29:=Tryz.zeroValue9
 t32:=Tryz.underlying164
 a32:=Tryz.isAgg164
 z32:=Tryz.sizeOf164
 v32:=Tryz.zeroValue164
 t35:=Tryz.underlying215
 a35:=Tryz.isAgg215
 z35:=Tryz.sizeOf215
 v35:=Tryz.zeroValue215
 t36:=Tryz.underlying216
 a36:=Tryz.isAgg216
 z36:=Tryz.sizeOf216
 v36:=Tryz.zeroValue216
 t41:=Tryz.underlying220
 a41:=Tryz.isAgg220
 z41:=Tryz.sizeOf220
 v41:=Tryz.zeroValue220
 t44:=Tryz.underlying168
 a44:=Tryz.isAgg168
 z44:=Tryz.sizeOf168
 v44:=Tryz.zeroValue168
 t46:=Tryz.underlying127
 a46:=Tryz.isAgg127
 z46:=Tryz.sizeOf127
 v46:=Tryz.zeroValue127
 t53:=Tryz.underlying225
 a53:=Tryz.isAgg225
 z53:=Tryz.sizeOf225
 v53:=Tryz.zeroValue225
 t57:=Tryz.underlying229
 a57:=Tryz.isAgg229
 z57:=Tryz.sizeOf229
 v57:=Tryz.zeroValue229
 t63:=Tryz.underlying231
 a63:=Tryz.isAgg231
 z63:=Tryz.sizeOf231
 v63:=Tryz.zeroValue231
 t64:=Tryz.underlying232
 a64:=Tryz.isAgg232
 z64:=Tryz.sizeOf232
 v64:=Tryz.zeroValue232}
end Go.Proofs
namespace Go.Proofs.YtdfphfdnoobikaaGreatDoor
namespace Ev
section
open Go.Shelf
section
variable [Env]
set_option linter.unusedSectionVars false
theorem vS{f:FuncId} {fn:Func} (h1:Tryz.prog.funcs[f]? =some fn) (h2:(fn.name== "runtime.NumGoroutine")=false) (h3:fn.body.isNone=false) {us:List Value} {g:G} {h:H} {w:World} {v:V} {h':H}
  (c:Calls Tryz.prog f us.toArray w (uz TP g h w v h')):nM Tryz.prog TP f us g h w v h':=
 ⟨fn,h1,beq_eq_false_iff_ne.1 h2,h3,callsIn_wide.2 c⟩
noncomputable section
def ni(l:List UInt8):V:= .str l.length (ck l)
def Ad:List (List UInt8):=[mM 115 3962018864413014948754648656006502432093592997329216410804218722331684167459064326731363241603392931701660348028516868103884579128723922804055349770158965106607581632881660418770906343041889274360206442574388062685891706774567976215249495650238158067786189234758106247192667745,mM 211 2643788049237875746027353956421256579877879755938887535316951059759369592555717365339016263365027618501812524394041916456107630935882219539062654111784106688242807265108499006909579367619711043370541396788490473410751723451644814999429197375349848118121197291676110575868848611747558760119856467310971821053183838999261785706908127509286587510957382674167142064579141726276195335717799002842036464030059972223758517794073400569462703278420382076657222687305171158147755303688062608438613618907131909108626281,mM 130 2309567611550875277204994674161353649923820728840937906004022259955814384767430420713629540289955323346488897252243258610309243515909333067562535498886036825999362825657067591809416156955820597497462137324242345962628091659841284438982893644934511546577333868034346565100900555615209792057877126969041213629687155,mM 326 23432797193871199407333496422669012367299329756827031624297655228348896489652091995020903033051514005582240654107251283804193553897754980763464707855962905347494948165397241680072134641162834970075957098854109284145689297344697482720779276625903820634785204952066235328051174553452503356106246011490484894671724025188345757335091502307861111567946691652232448241457647053841496573471555992490563340102516511656375177173333262957809226356687276663106690246514868571292902185291786131212997716888408723455673227194122100111222777000526364432920838613382261280238070156172435011051979694305378415251427278940642021762430988511956155483968407454369334577920402672521885831115680086389877854951673720855015018618345684868760042338146632436122985681635754182370565935330268791689787050389619,mM 15 265770033204623512752161048958627937]
def wy(n c:Nat)(l:List (List UInt8)):Option (List V):=List.rec (motive:=λ_=>Option (List V)) none (λa _ ih=>Bool.rec (motive:=λ_=>Option (List V)) ih (some ((Lib.fields a).map ni)) (Nat.beq n (cD a)&&Nat.beq c (ck a))) l
def wx(vs:List V)(h:H):Option (V×H):=
 fW vs none λx t=>fW t (match x with
  |.str n c=>ob (wy n c Ad) λl=>ob (dR l) λb=>ob (h.new b) λh'=>some (.sl h.next 0 (cD l) (cD l) true 1,h')
  |_=>none) λ_ _=>none
end
theorem ru{n c:Nat}{r:List V}:∀{l:List (List UInt8)},wy n c l=some r->∃a,a∈l/\n=a.length/\c=ck a/\r=(Lib.fields a).map ni
 |[],e=>by cases e
 |a ::l,e=>by
  have e:(Bool.rec (motive:=λ_=>Option (List V)) (wy n c l) (some ((Lib.fields a).map ni)) (Nat.beq n (cD a)&&Nat.beq c (ck a)):Option (List V))=some r:=e;rw [cO]at e
  split at e
  ·rename_i q
   cases e;simp only [Bool.and_eq_true,Nat.beq_eq,cq]at q;exact⟨a,List.mem_cons_self,q.1,q.2,rfl⟩
  ·obtain⟨a',k1,k2⟩:=ru e
   exact⟨a',List.mem_cons_of_mem _ k1,k2⟩
theorem C4:Ad.all (λl=>l.all (λb=>Nat.blt b.toNat 128)&&Nat.ble (cD l) 10000)=true:=by kernel_rfl
theorem DG{g:G}{n c:Nat}{u:Value}(h:VR g (.str n c) u):∃s:ByteArray,u= .string s/\s.data.toList.length=n/\ck s.data.toList=c:=by
 cases h;exact⟨_,rfl,Array.length_toList,rfl⟩
theorem Ik:∀c,c<256->tbl[c]? =some (.int .u8 (if Lib.isSp (UInt8.ofNat c)then 1 else 0)):=by
 have h:(List.range 256).all (λc=>match tbl[c]? with|some (.int .u8 n)=>n==(if Lib.isSp (UInt8.ofNat c)then(1:Int)else 0) | _=>false)=true:=by kernel_rfl
 intro c hc;have:=List.all_eq_true.1 h c (List.mem_range.2 hc)
 split at this
 ·rename_i n e
  rw [e];have k:n=if Lib.isSp (UInt8.ofNat c)then(1:Int)else 0:=by simpa using this
  rw [k]
 ·cases this
set_option maxRecDepth 100000 in
theorem Ch{g:G}{h:H}{w:World}(r:WR TP g h w)(k:jg TP g h w):∀c:Nat,c<256->w.cell? ⟨0,c,none⟩=some (.int .u8 (if Lib.isSp (UInt8.ofNat c)then 1 else 0)):=by
 intro c hc;obtain⟨⟨z,hz⟩,b⟩:=k.pin (0,0,256,cM tbl 0 .e) (by rw [jv];exact List.mem_singleton.2 rfl);have hz:g 0=some (0,0,z):=hz;have b:h.blk 0=some (.ro 256 (cM tbl 0 .e)):=b;obtain⟨o,o',n,cs,t,f,i,q,p,s,j⟩:=r.blk 0 _ _ hz b;rw [hz]at f;cases f;have a:tbl.length=256:=by kernel_rfl
 have m:(cM tbl 0 .e).get c=some (.int .u8 (if Lib.isSp (UInt8.ofNat c)then 1 else 0)):=by
  rw [dz tbl 0 .e c (by rw [a];decide),if_pos (by omega)];exact Ik c hc
 obtain⟨u,d,l,_⟩:=j c _ hc m;rw [l.int_inv]at d;rw [Nat.zero_add]at d;simp [World.cell?,i,d]
theorem A3{g:G}:∀l:List (List UInt8),VRs g (l.map ni) (l.map λl=>Value.string ⟨l.toArray⟩)
 |[]=>.nil
 |a ::l=>.cons (by have:=VR.str (g:=g) ⟨a.toArray⟩;simpa [ni,ByteArray.size]using this) (A3 l)
set_option maxRecDepth 100000 in
theorem C3:∀vs h v h',wx vs h=some (v,h')->∀g w us,WR TP g h w->jg TP g h w->VRs g vs us->nM Tryz.prog TP 98 us g h w v h':=by
 intro vs h v h' e g w us r p t;cases t with
 |nil=>cases e
 |cons h1 t1=>
 cases t1 with
 |cons _ _=>cases e
 |nil=>
 rename_i x N
 cases x<;>first|(cases e;done)|skip
 rename_i n c
 obtain⟨l,A,F⟩:=bQ.1 (show ob (wy n c Ad) (λl=>ob (dR l) λb=>ob (h.new b) λh'=>some (V.sl h.next 0 (cD l) (cD l) true 1,h'))=some (v,h')from e);obtain⟨b,E,K⟩:=bQ.1 F;obtain⟨h2,D,u⟩:=bQ.1 K;cases u;obtain⟨l0,L,rfl,rfl,rfl⟩:=ru A;have i:=List.all_eq_true.1 C4 l0 L;simp only [Bool.and_eq_true]at i;obtain⟨C,k⟩:=i;have k:l0.length<=10000:=by rw [<-cq];exact Nat.le_of_ble_eq_true k
 obtain⟨s,rfl,m,B⟩:=DG h1;have hs:=qB m B;have f:=A3 (g:=g) (Lib.fields l0);obtain⟨⟨G,O,M⟩,J⟩:=jM (T:=TP) f E;refine vS Tryz.func98 (by decide) rfl ?_;have c:=Any.strings_Fields_core Tryz.lays157 (by kernel_rfl) s w (by rw [ByteArray.size,<-Array.length_toList,m];omega) (by rw [hs];intro j b I;have:=List.all_eq_true.1 C b (List.mem_of_getElem? I);exact Nat.le_of_ble_eq_true this) (Ch r p);rw [hs]at c;refine c.mono ?_;rintro e w' ⟨rfl,rfl⟩;have a:g h.next=none:=by
  cases q:g h.next with
  |none=>rfl
  |some y=>exact absurd (r.dom _ _ q) (by omega)
 have d:cD ((Lib.fields l0).map ni)=(Lib.fields l0).length:=by rw [cq,List.length_map]
 have x:=Ext.new (z:=(Lib.fields l0).length) r (o:= .cells ((Lib.fields l0).map λl=>Value.string ⟨l.toArray⟩).toArray 9) D (.inr G)
  (J 9 _ _ h.next w.heap.size (fO _ a) (by rw [cH];simp) (dt _ _))
 rw [d];exact⟨_,_,rfl,.slx (off:=0) (cH _ _ _),x⟩
end
noncomputable def sQ:FuncId->Option (List V->H->Option (V×H)):=λf=>Bool.rec (motive:=λ_=>Option (List V->H->Option (V×H))) none (some wx) (Nat.beq f 98)
theorem xQ(E:En):@wU E Tryz.prog TP sQ:=by
 intro f p e vs h v h' c g w us r a b;have e:(Bool.rec (motive:=λ_=>Option (List V->H->Option (V×H))) none (some wx) (Nat.beq f 98):Option (List V->H->Option (V×H)))=some p:=e;rw [cO]at e
 split at e
 ·rename_i q
  cases e;rw [Nat.eq_of_beq_eq_true q];exact @C3 E vs h v h' c g w us r a b
 ·cases e
end
section
noncomputable section
def zT(n:Nat):Nat->Nat->Bool:=Nat.rec (motive:=λ_=>Nat->Nat->Bool) (λ_ _=>false) (λ_ ih c x=>Bool.rec (motive:=λ_=>Bool) (ih (Nat.div c 256) x) true (Nat.beq (Nat.mod c 256) x)) n
def F2(l:List (Nat×CF))(f:FuncId):Option CF:=List.rec (motive:=λ_=>Option CF) none (λp _ ih=>Bool.rec (motive:=λ_=>Option CF) ih (some p.2) (Nat.beq p.1 f)) l
end
theorem wg(x:Nat):∀l:List UInt8,zT l.length (ck l) x=l.any λb=>b.toNat==x
 |[]=>rfl
 |b ::l=>by
  show(Bool.rec (motive:=λ_=>Bool) (zT l.length (ck (b ::l)/256) x) true (Nat.beq (ck (b ::l)%256) x):Bool)=_;have d1:ck (b ::l)%256=b.toNat:=by have:=b.toNat_lt;rw [eC];omega
  have d2:ck (b ::l)/256=ck l:=by have:=b.toNat_lt;rw [eC];omega
  rw [d1,d2,wg x l,cO,List.any_cons]
  by_cases e:b.toNat=x
  ·simp [e]
  ·have:Nat.beq b.toNat x=false:=by
    cases q:Nat.beq b.toNat x with
    |false=>rfl
    |true=>exact absurd (Nat.eq_of_beq_eq_true q) e
   simp [this,e]
theorem lJ(c:UInt8):∀l:List UInt8,decide (0<=Lib.indexByte l c)=l.any λb=>b.toNat==c.toNat
 |[]=>rfl
 |b ::l=>by
  have ih:=lJ c l;have hge:=Lib.indexByte_ge l c;rw [List.any_cons,<-ih]
  by_cases e:b=c
  ·subst e;simp [Lib.indexByte]
  ·have e1:(b==c)=false:=by simpa using e
   have d:(b.toNat==c.toNat)=false:=by simpa using λk=>e (UInt8.toNat_inj.1 k)
   rw [d,Bool.false_or];simp only [Lib.indexByte,e1]
   by_cases k:Lib.indexByte l c= -1
   ·simp [k]
   ·have a:(Lib.indexByte l c== -1)=false:=by simpa using k
    simp only [a]
    congr 1
    simp;omega
theorem oX{E:En}{g:G}{n c:Nat}{u:Value}(h:@VR E g (.str n c) u):∃s:ByteArray,u= .string s/\s.data.toList.length=n/\ck s.data.toList=c:=by
 cases h;exact⟨_,rfl,Array.length_toList,rfl⟩
theorem Fp{f:FuncId} {fn:Func} (h1:Tryz.prog.funcs[f]? =some fn) (h2:(fn.name== "runtime.NumGoroutine")=false) (h3:fn.body.isNone=false) {vs:List V} {v:V}
  (k:∀(E:En) (g:G) (w:World) (us:List Value),@VRs E g vs us->∃u,@VR E g v u/\Calls Tryz.prog f us.toArray w λe w'=>e= .returned u/\w'=w):CP f vs v:=by
 refine⟨λE g h w us s hu=>?_⟩;obtain⟨u,k1,k2⟩:=k E g w us hu;refine⟨fn,h1,beq_eq_false_iff_ne.1 h2,h3,callsIn_wide.2 (k2.mono ?_)⟩;rintro e w' ⟨rfl,rfl⟩;exact⟨E,u,rfl,k1,E.le_refl,λ_ _ h=>.inl h,λb c e=>(s.env e).1,@mV.refl noE w'⟩
theorem f65(n c d:Nat):CP 65 [.str n c,.str 1 d] (.bool (zT n c d)):=by
 refine Fp Tryz.func65 (by decide) rfl λE g w us b=>?_;cases b with
 |cons x1 t1=>
 cases t1 with
 |cons x2 t2=>
 cases t2;obtain⟨s,rfl,rfl,rfl⟩:=oX x1;obtain⟨q,rfl,e,rfl⟩:=oX x2;obtain⟨c,hc⟩:=List.length_eq_one_iff.1 e;have f:q=⟨#[c]⟩:=by
  cases q with
  |mk d=>
   have:d=#[c]:=Array.toList_inj.1 hc;rw [this]
 have key:=lJ c s.data.toList;have a:zT s.data.toList.length (ck s.data.toList) (ck q.data.toList)=decide (0<=Lib.indexByte s.data.toList c):=by
  rw [wg,key,hc];simp [eC,va]
 refine⟨.bool _,@VR.bool E g _,?_⟩;rw [a,f];exact Tryz.strings_Contains_one s c w
theorem BQ{tab:FuncId->Option CF}(c:yY Tryz.prog TP tab){n:Nat}{f:FuncId}{vs:List V}{h h':H}{v:V}(e:mi sQ tab n (.fn f) vs h=some (v,h')):CN f vs h v h':=by
 refine⟨λE g w us s b=>?_⟩;have ok:=@tX E Tryz.prog TP rF mixed sQ tab (xQ E) c n;obtain⟨fn,l,a,d,i⟩:=@fA.fn E _ _ _ ok f vs h v h' e g w us s.wr s.glob b;refine⟨fn,l,a,d,i.mono ?_⟩;rintro e w' ⟨g',u,rfl,j,k⟩;exact⟨E,g',u,rfl,j,gj.of s k⟩
noncomputable section
def HI:FuncId->Option CF:=F2 [(75,cf75)]
def JO:Option (V×H):=mi sQ HI 3 (.fn 75) [] H0
def zR(v:V):Bool:=match v with
 |.int .i64 _=>true
 |_=>false
def EI(v:V):Bool:=match v with
 |.str _ _=>true
 |_=>false
def qY(es:List (V×V)):Bool:=List.rec (motive:=λ_=>Bool) true (λe _ ih=>EI e.1&&(zR e.2&&ih)) es
def zJ(r:Option (V×H)):Bool:=Option.rec (motive:=λ_=>Bool) false (λp=>match p.1 with
 |.map id=>match p.2.blk id with
  |some (.map es _)=>qY es
  |_=>false
 |_=>false) r
end
theorem AV{l:List (Nat×CF)} (h:∀p,p∈l->∃fn,Tryz.prog.funcs[p.1]? =some fn/\fn.name≠ "runtime.NumGoroutine"/\ci TP fn=some p.2):yY Tryz.prog TP (F2 l):=by
 intro f cf e
 induction l with
 |nil=>cases e
 |cons p l ih=>
  have e:(Bool.rec (motive:=λ_=>Option CF) (F2 l f) (some p.2) (Nat.beq p.1 f):Option CF)=some cf:=e;rw [cO]at e
  split at e
  ·rename_i q
   cases e;rw [<-Nat.eq_of_beq_eq_true q];exact h p List.mem_cons_self
  ·exact ih (λq hq=>h q (List.mem_cons_of_mem _ hq)) e
theorem D2:zJ JO=true:=by kernel_rfl
theorem rj{r:Option (V×H)}(h:zJ r=true):∃id h' es o,r=some (.map id,h')/\h'.blk id=some (.map es o)/\qY es=true:=by
 cases r with
 |none=>cases h
 |some p=>
  obtain⟨v,h'⟩:=p;cases v<;>first|(cases h;done)|skip
  rename_i id
  have h:(match h'.blk id with
   |some (.map es _)=>qY es
   |_=>false)=true:=h
  split at h
  ·rename_i es o e
   exact⟨id,h',es,o,rfl,e,h⟩
  ·cases h
theorem sH{h:H}{id n c:Nat}{es:List (V×V)}{o:Bool}(e:h.blk id=some (.map es o))(k:qY es=true):∃i,ROp.run (.lookup (.one .s) false (.int .i64 0)) [.map id,.str n c] h=some (.int .i64 i):=by
 have key:∀es:List (V×V),qY es=true->∃r,gz h (.one .s) (.str n c) es=some r/\∀v,r=some v->zR v=true:=by
  intro es
  induction es with
  |nil=>exact λ_=>⟨none,rfl,λv e=>by cases e⟩
  |cons p es ih=>
   intro k;have k:(EI p.1&&(zR p.2&&qY es))=true:=k;simp only [Bool.and_eq_true]at k;obtain⟨w,j,u⟩:=k;obtain⟨r,g,f⟩:=ih u;obtain⟨a,b⟩:=p;cases a<;>first|(cases w;done)|skip
   rename_i m d
   show ∃r,ob (some (cJ n c m d)) (λt=>Bool.rec (motive:=λ_=>Option (Option V)) (gz h (.one .s) (.str n c) es) (some (some b)) t)=some r/\_;cases cJ n c m d with
   |false=>exact⟨r,g,f⟩
   |true=>exact⟨some b,rfl,λv e=>by cases e;exact j⟩
 obtain⟨r,g,f⟩:=key es k;have q:ROp.run (.lookup (.one .s) false (.int .i64 0)) [.map id,.str n c] h=some (i6 false (.int .i64 0) r):=by
  show oif true (ob (ob (h.blk id) _) _)=_;rw [e];show ob (gz h (.one .s) (.str n c) es) _=_;rw [g];rfl
 rw [q];cases r with
 |none=>exact⟨0,rfl⟩
 |some v=>
  have:=f v rfl;cases v<;>first|(cases this;done)|skip
  rename_i l i
  cases l<;>first|(cases this;done)|skip
  exact⟨i,rfl⟩
theorem c75:∃id h' es o,CN 75 [] H0 (.map id) h'/\h'.blk id=some (.map es o)/\qY es=true:=by
 obtain⟨id,h',es,o,e,c,b⟩:=rj D2;refine⟨id,h',es,o,BQ (tab:=HI) (AV λp a=>?_) (n:=3) e,c,b⟩;simp only [List.mem_cons,List.not_mem_nil,or_false]at a;subst a;exact⟨_,Tryz.func75,by decide,q75.2⟩
set_option maxHeartbeats 2000000 in
theorem f57(n c:Nat):jj 57 [.str n c]:=by
 refine eS Tryz.func57 (by decide) q57.2 rfl (cg (.flat rfl) px0) rfl ?_;obtain⟨id,h',es,o,c75,b,a⟩:=c75;obtain⟨i,hi⟩:=sH (n:=n) (c:=c) b a
 repeat' (first
  |apply ab|apply ae|apply aa|apply am|apply thN|refine ac ?_|refine aG hi ?_|refine aw c75 ?_|exact⟨.inr rfl,_,rfl,.flat rfl,_,rfl⟩|fail)
theorem f45(n c:Nat):jj 45 [.str n c]:=by
 refine eS Tryz.func45 (by decide) q45.2 rfl (cg (.flat rfl) px0) rfl ?_
 repeat' (first
  |(refine WLg.mk ?_;first
  |refine ac ?_|refine ay (f56 _ _) ?_|refine ay (f57 _ _) ?_)|apply ab|refine aj rfl ?_|refine aB rfl rfl ?_|refine aC rfl (λa=>?_) (λa=>?_)|apply ae|apply aa|apply am|apply thN|exact⟨.inr rfl,_,rfl,.flat rfl,_,rfl⟩|fail)
end
end Ev
end Go.Proofs.YtdfphfdnoobikaaGreatDoor
