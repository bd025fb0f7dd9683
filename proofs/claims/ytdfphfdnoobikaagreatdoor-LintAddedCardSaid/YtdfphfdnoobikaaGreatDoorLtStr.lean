/-
  Functions of strings.
-/
import Derived.Test.YtdfphfdnoobikaaGreatDoorLtBase
import Derived.Test.YtdfphfdnoobikaaGreatDoorLtTab2
import Derived.Test.YtdfphfdnoobikaaGreatDoorLtTab3
import Derived.Shelf.SlGeneric
import Derived.Ground.MpProg
import Derived.Ground.SlmcProg
import Derived.Ground.SlgmProg
import Derived.Ground.GgzProg
import Derived.Shelf.Strings.Search1
import Derived.Shelf.Strings.Search2
import Derived.Shelf.Strings.Search3
import Derived.Shelf.Strings.Fields
import Derived.Shelf.Slices.Turned
import Derived.Shelf.SlMaps.Clone
import Derived.Shelf.SlIter.Nil
import Derived.Shelf.SortM.Plain
import Derived.Shelf.SortM.SortNone
import Derived.Test.YtdfphfdnoobikaaGreatDoorProg
namespace Go.Proofs.YtdfphfdnoobikaaGreatDoor
namespace Ev
section
noncomputable section
def fr32(n c i:Nat):AL:=[(0,.str n c),(2,.bool false),(3,.int .i64 (Int.ofNat i))]
def byN(c i:Nat):Nat:=Nat.mod (Nat.shiftRight c (Nat.mul 8 i)) 256
def loB(x:Nat):Bool:= !ltI (Int.ofNat x) 97 && !ltI 122 (Int.ofNat x)
def chB(x:Nat):Bool:=loB x||((!ltI (Int.ofNat x) 65 && !ltI 90 (Int.ofNat x))||((!ltI (Int.ofNat x) 48 && !ltI 57 (Int.ofNat x))||(eqI (Int.ofNat x) 95||eqI (Int.ofNat x) 64)))
def rN(c:Nat):Nat->Bool
 |0=>true
 |k+1=>rN c k&&(Nat.beq k 0||chB (byN c k))
def nmC(n c:Nat):Bool:= !ltI (Int.ofNat n) 1&&(!ltI 32 (Int.ofNat n)&&(loB (byN c 0)&&rN c n))
end
theorem yc{c:Nat}{i:Nat}(h0:0<i)(h:chB (byN c i)=false):∀{k},i<k->rN c k=false
 |0,q=>by omega
 |k+1,q=>by
  unfold rN
  by_cases e:i=k
  ·subst e
   cases i with
   |zero=>omega
   |succ i=>
    rw [h];cases rN c (i+1)<;>rfl
  ·rw [yc h0 h (k:=k) (by omega),Bool.false_and]
set_option maxHeartbeats 4000000 in
theorem f32(n c:Nat)(hn:n<9223372036854775808):CP 32 [.str n c] (.bool (nmC n c)):=by
 refine cS Tryz.func32 (by decide) q32.2 rfl (bO (.flat rfl) px0) rfl ?_
 repeat' (first
  |(refine WLg.mk ?_;first
  |refine aa rfl rfl rfl rfl ?_|refine aa rfl rfl (lK (G8 Hy)) rfl ?_)|apply ac|refine ae rfl ?_|refine ay rfl rfl ?_|refine az rfl (λht=>?_) (λht=>?_)|apply ai|apply ah|apply aj|apply al|refine aD rfl ?_|refine ak rfl (λht=>?_) (λht=>?_)|apply ap|apply bG.norm|apply bG.ret|fail)
 ·exact⟨.inr rfl,_,rfl,.flat rfl,by simp only [nmC,Bool.not_true,Bool.false_and, *]<;>rfl⟩
 ·exact⟨.inr rfl,_,rfl,.flat rfl,by simp only [nmC,Bool.not_true,Bool.false_and,Bool.and_false, *]<;>rfl⟩
 ·exact⟨.inr rfl,_,rfl,.flat rfl,by simp only [nmC,loB,byN,Bool.not_true,Bool.false_and,Bool.and_false, *]<;>rfl⟩
 ·exact⟨.inr rfl,_,rfl,.flat rfl,by simp only [nmC,loB,byN,Bool.not_true,Bool.false_and,Bool.and_false, *]<;>rfl⟩
 have hfst:nmC n c=rN c n:=by simp only [nmC,loB,byN,Bool.not_false,Bool.true_and, *]
 have h1n:1<=n:=ce Hy;refine aw (cA (l:=fr32 n c 1) KT rfl) ?_;refine ax n (λi l h=>(l=fr32 n c i/\1<=i/\rN c i=true)/\h=H0) ?_ (i:=1) h1n ⟨⟨rfl,Nat.le_refl _,rfl⟩,rfl⟩;rintro i _ _ hi ⟨⟨rfl,h1,ok⟩,rfl⟩;have hz:Nat.beq i 0=false:=by cases i with|zero=>omega|succ i=>rfl
 repeat' (first
  |(refine WLg.mk ?_;first
  |refine aa rfl rfl rfl rfl ?_|refine aa rfl rfl (lK Hy) rfl ?_)|apply ac|refine ae rfl ?_|refine ay rfl rfl ?_|refine az rfl (λht=>?_) (λht=>?_)|apply ai|apply ah|apply aj|apply al|refine aB rfl ?_|refine ak rfl (λht=>?_) (λht=>?_)|apply av|apply ap|apply bG.norm|apply bG.ret|apply bG.exit|apply OnC.ret|apply OnC.exit|fail)
 all_goals (try simp only [Bool.not_not,Bool.not_eq_true',Bool.not_eq_false']at*)
 all_goals first
  |exact .norm ⟨_,_,cA KT rfl,bL Hy,⟨rfl,by omega,by simp only [rN,chB,loB,byN,Bool.not_true,Bool.not_false,Bool.and_true,Bool.true_or,Bool.or_true,Bool.false_and,Bool.and_false, *]⟩,rfl⟩|exact⟨.inr rfl,_,rfl,.flat rfl,by rw [hfst,yc (i:=i) h1 (by simp only [chB,loB,byN,Bool.not_true,Bool.not_false,Bool.or_false,Bool.false_and,Bool.and_false, *]) (bL Hy)];rfl⟩|exact⟨.inr rfl,_,rfl,.flat rfl,by rw [hfst,show n=i by have:=ce (by assumption:Nat.blt i n=false);omega,ok];rfl⟩
end
section
noncomputable section
def lS:List (Nat×Nat):=[(5,491328398945),(3,6581857),(7,31370631742516833),(4,1684955490),(5,474214786402),(4,1953459810),(3,7499618),(3,7107426),(3,7500642),(4,1919907938),(4,1702060387),(5,448345170275),(3,7760228),(3,6581861),(3,7239014),(3,7630702),(2,26223),(2,29295),(6,111546414232175),(7,28559167692432754),(3,7169394),(3,7959156),(4,1852139639),(3,7499640)]
def fr71(n c:Nat)(l:List (Nat×Nat))(i:Nat):AL:=[(0,.str n c),(1,.lst l.length 1 (ko l)),(4,.bool false),(5,.int .i64 (Int.ofNat i))]
def fr130(n c i:Nat):AL:=[(0,.str n c),(2,.bool false),(3,.int .i64 (Int.ofNat i))]
def fr24(l:List Cl)(i:Nat):AL:=[(0,.lst l.length 4 (clL l)),(2,.bool false),(3,.int .i64 (Int.ofNat i))]
end
noncomputable def inL(l:List (Nat×Nat))(n c:Nat):Bool:=l.any λw=>cV w.1 w.2 n c
theorem B9{l:List (Nat×Nat)}{n c i:Nat}(h:i<l.length):inL (l.take (i+1)) n c=(inL (l.take i) n c||cV (rE l i).1 (rE l i).2 n c):=by
 have:l[i]? =some (rE l i):=cO (ltb h);unfold inL;rw [List.take_add_one,this,List.any_append];simp
theorem Ca{l:List (Nat×Nat)}{n c i:Nat}(h:i<l.length)(e:cV (rE l i).1 (rE l i).2 n c=true):inL l n c=true:=
 List.any_eq_true.2 ⟨rE l i,mE (d:=(0,0)) (ltb h),e⟩
theorem f71(n c:Nat)(l:List (Nat×Nat))(hl:l.length<9223372036854775808):CP 71 [.str n c,.lst l.length 1 (ko l)] (.bool (inL l n c)):=by
 refine cS Tryz.func71 (by decide) q71.2 rfl (bO (.flat rfl) (bO (pxL _) px0)) rfl ?_
 repeat' (first
  |(refine WLg.mk ?_;first
  |refine aa rfl rfl rfl rfl ?_)|apply ac|refine ae rfl ?_|apply ai|apply ah|apply aj|apply bG.norm|fail)
 refine aw (cA (l:=fr71 n c l 0) KT rfl) ?_;refine ax l.length (λi x h=>(x=fr71 n c l i/\inL (l.take i) n c=false)/\h=H0) ?_ (i:=0) (Nat.zero_le _) ⟨⟨rfl,rfl⟩,rfl⟩;rintro i _ _ hi ⟨⟨rfl,no⟩,rfl⟩
 repeat' (first
  |(refine WLg.mk ?_;first
  |refine aa rfl rfl rfl rfl ?_|refine aa rfl rfl (bN Hy) rfl ?_|refine ab rfl rfl (dO (j:=0) (EF Hy) rfl _) rfl ?_)|apply ac|refine ae rfl ?_|apply ai|apply ah|apply aj|apply al|refine ak rfl (λht=>?_) (λht=>?_)|apply av|apply ap|apply bG.norm|apply bG.ret|apply bG.exit|apply OnC.ret|apply OnC.exit|fail)
 all_goals first
  |exact⟨.inr rfl,_,rfl,.flat rfl,by rw [Ca (bL Hy) Hy];rfl⟩|exact .norm ⟨_,_,cA KT rfl,bL Hy,⟨rfl,by rw [B9 (bL Hy),no];assumption⟩,rfl⟩
  |exact⟨.inr rfl,_,rfl,.flat rfl,by
    have hl:i=l.length:=by have:=ce (by assumption:Nat.blt i l.length=false);omega
    rw [hl,List.take_length]at no;rw [no];rfl⟩
theorem f72:CP 72 [] (.lst 24 1 (ko lS)):=by
 refine cS Tryz.func72 (by decide) q72.2 rfl px0 rfl ?_
 repeat' (first
  |(refine WLg.mk ?_;first
  |refine aa rfl rfl rfl rfl ?_|refine aP rfl rfl rfl rfl rfl rfl PB rfl ?_)|apply ac|refine ae rfl ?_|apply ai|apply ah|apply ap|apply bG.norm|exact⟨.inr rfl,_,rfl,pxL lS,rfl⟩|fail)
theorem f53(n c:Nat):CP 53 [.str n c] (.bool (inL lS n c)):=by
 refine cS Tryz.func53 (by decide) q53.2 rfl (bO (.flat rfl) px0) rfl ?_;have c71:=f71 n c lS (by decide)
 repeat' (first
  |(refine WLg.mk ?_;first
  |refine aa rfl rfl rfl rfl ?_|refine aq rfl rfl rfl (f72) rfl ?_|refine aq rfl rfl rfl (c71) rfl ?_)|apply ac|refine ae rfl ?_|apply ai|apply ah|apply ap|apply bG.norm|fail)
 exact⟨.inr rfl,_,rfl,.flat rfl,rfl⟩
noncomputable def nmV(n c:Nat):Bool:=nmC n c && !inL lS n c
theorem f40(n c:Nat)(hn:n<9223372036854775808):CP 40 [.str n c] (.bool (nmV n c)):=by
 refine cS Tryz.func40 (by decide) q40.2 rfl (bO (.flat rfl) px0) rfl ?_
 repeat' (first
  |(refine WLg.mk ?_;first
  |refine aa rfl rfl rfl rfl ?_|refine aq rfl rfl rfl (f32 _ _ hn) rfl ?_|refine aq rfl rfl rfl (f53 _ _) rfl ?_)|apply ac|refine ae rfl ?_|refine ay rfl rfl ?_|refine az rfl (λht=>?_) (λht=>?_)|apply ai|apply ah|apply ap|apply bG.norm|fail)
 all_goals exact⟨.inr rfl,_,rfl,.flat rfl,by unfold nmV;simp only [Bool.true_and,Bool.false_and, *];rfl⟩
theorem f130(n c:Nat)(hn:n<9223372036854775808):db 130 [.str n c]:=by
 refine cJ Tryz.func130 (by decide) H1.2 rfl (bO (.flat rfl) px0) rfl ?_
 repeat' (first
  |(refine WLg.mk ?_;first
  |refine aa rfl rfl rfl rfl ?_)|apply ac|refine ae rfl ?_|apply ai|apply ah|apply aj|apply bG.norm|fail)
 refine aw (cA (l:=fr130 n c 0) KT rfl) ?_;refine ax n (λi x h=>x=fr130 n c i/\h=H0) ?_ (i:=0) (Nat.zero_le _) ⟨rfl,rfl⟩;rintro i _ _ hi ⟨rfl,rfl⟩
 repeat' (first
  |(refine WLg.mk ?_;first
  |refine aa rfl rfl rfl rfl ?_|refine aa rfl rfl (lK Hy) rfl ?_)|apply ac|refine ae rfl ?_|refine ay rfl rfl ?_|refine az rfl (λht=>?_) (λht=>?_)|apply ai|apply ah|apply aj|apply al|refine aD rfl ?_|refine aB rfl ?_|refine ak rfl (λht=>?_) (λht=>?_)|apply av|apply ap|apply bG.norm|apply bG.ret|apply bG.exit|apply OnC.ret|apply OnC.exit|exact⟨.inr rfl,_,rfl,.flat rfl,_,rfl⟩|fail)
 all_goals exact .norm ⟨_,_,cA KT rfl,bL Hy,rfl,rfl⟩
theorem f24(l:List Cl)(hl:l.length<9223372036854775808):db 24 [.lst l.length 4 (clL l)]:=by
 refine cJ Tryz.func24 (by decide) q24.2 rfl (bO (pxC _) px0) rfl ?_
 repeat' (first
  |(refine WLg.mk ?_;first
  |refine aa rfl rfl rfl rfl ?_)|apply ac|refine ae rfl ?_|apply ai|apply ah|apply aj|apply bG.norm|fail)
 refine aw (cA (l:=fr24 l 0) KT rfl) ?_;refine ax l.length (λi x h=>x=fr24 l i/\h=H0) ?_ (i:=0) (Nat.zero_le _) ⟨rfl,rfl⟩;rintro i _ _ hi ⟨rfl,rfl⟩
 repeat' (first
  |(refine WLg.mk ?_;first
  |refine aa rfl rfl rfl rfl ?_|refine aa rfl rfl (bN Hy) rfl ?_|refine ab rfl rfl (et Hy rfl) rfl ?_)|apply ac|refine ae rfl ?_|apply ai|apply ah|apply aj|apply al|refine ak rfl (λht=>?_) (λht=>?_)|apply av|apply ap|apply bG.norm|apply bG.ret|apply bG.exit|apply OnC.ret|apply OnC.exit|exact⟨.inr rfl,_,rfl,.flat rfl,_,rfl⟩|fail)
 all_goals exact .norm ⟨_,_,cA KT rfl,bL Hy,rfl,rfl⟩
theorem f131(x:Ex):db 131 [.agg (exO x)]:=by
 refine cJ Tryz.func131 (by decide) HZ.2 rfl (bO (pxe _) px0) rfl ?_
 repeat' (first
  |(refine WLg.mk ?_;first
  |refine aa rfl rfl rfl rfl ?_|refine ab rfl rfl rfl rfl ?_|refine aA rfl rfl RA rfl PB rfl ?_)|apply ac|refine ae rfl ?_|refine ay rfl rfl ?_|refine az rfl (λht=>?_) (λht=>?_)|apply ai|apply ah|apply ap|apply bG.norm|exact⟨.inr rfl,_,rfl,.flat rfl,_,rfl⟩|fail)
set_option maxHeartbeats 4000000 in
theorem f106(n c:Nat)(hn:n<9223372036854775808):db 106 [.str n c]:=by
 refine cJ Tryz.func106 (by decide) Ig.2 rfl (bO (.flat rfl) px0) rfl ?_;have cat:Nat.blt n 1=false->Nat.blt 32 n=false->Nat.blt (Nat.add 1 (Nat.sub n 1)) 1099511627776=true:=λh1 h2=>ltb (by have:=ce h1;have:=ce h2;simp only [Nat.add_eq,Nat.sub_eq];omega);have small:Nat.blt n 1=false->Nat.blt 32 n=false->Nat.add 1 (Nat.sub n 1)<9223372036854775808:=λh1 h2=>by have:=ce h1;have:=ce h2;simp only [Nat.add_eq,Nat.sub_eq];omega
 repeat' (first
  |(refine WLg.mk ?_;first
  |refine aa rfl rfl rfl rfl ?_|refine aa rfl rfl (lK (G8 Hy)) rfl ?_|refine aa rfl rfl (Bu Hy) rfl ?_|refine aa rfl rfl (kC (cat Hy Hy)) rfl ?_|refine aq rfl rfl rfl (f32 _ _ (small Hy Hy)) rfl ?_)|apply ac|refine ae rfl ?_|refine ay rfl rfl ?_|refine az rfl (λht=>?_) (λht=>?_)|apply ai|apply ah|apply al|refine aD rfl ?_|refine aB rfl ?_|refine ak rfl (λht=>?_) (λht=>?_)|apply ap|apply bG.norm|apply bG.ret|exact⟨.inr rfl,_,rfl,.flat rfl,_,rfl⟩|fail)
set_option maxHeartbeats 4000000 in
theorem f108(n c:Nat)(k:Int):db 108 [.str n c,.int .i64 k]:=by
 refine cJ Tryz.func108 (by decide) Ie.2 rfl (bO (.flat rfl) (bO (.flat rfl) px0)) rfl ?_
 repeat' (first
  |(refine WLg.mk ?_;first
  |refine aa rfl rfl rfl rfl ?_)|apply ac|refine ae rfl ?_|refine ay rfl rfl ?_|refine az rfl (λht=>?_) (λht=>?_)|apply ai|apply ah|apply aj|apply al|refine ak rfl (λht=>?_) (λht=>?_)|apply ap|apply bG.norm|apply bG.ret|exact⟨.inr rfl,_,rfl,.flat rfl,_,rfl⟩|fail)
end
section
inductive Lv:V->Prop
 |nils:Lv .nils
 |lst {n es:Nat} {cs:List V} (h:bP (.lst n es cs)):Lv (.lst n es cs)
theorem Lv.px{v:V}(h:Lv v):bP v:=by
 cases h with
 |nils=>exact .flat rfl
 |lst h=>exact h
theorem Lv.one{v:V}(h:Lv v):cE v=true:=by cases h<;>rfl
theorem Lv.len{v:V}(h:Lv v):∃k,POp.run (.leng .sl) [v]=some (.int .i64 (Int.ofNat k)):=by
 cases h with
 |nils=>exact⟨0,rfl⟩
 |lst h=>exact⟨_,rfl⟩
inductive lZ:V->Prop
 |mk {k a:Int} {n1 c1 n2 c2:Nat} {l1 l2 l3 l4 l5 l6:V} {w:Bool} (h1:Lv l1) (h2:Lv l2) (h3:Lv l3) (h4:Lv l4) (h5:Lv l5) (h6:Lv l6):lZ (.agg [.int .i64 k,.int .i64 a,.str n1 c1,.str n2 c2,l1,l2,l3,l4,l5,l6,.bool w])
theorem lZ.px{v:V}(h:lZ v):bP v:=by
 cases h with
 |mk h1 h2 h3 h4 h5 h6=>exact .agg (bO (.flat rfl) (bO (.flat rfl) (bO (.flat rfl) (bO (.flat rfl) (bO h1.px (bO h2.px (bO h3.px (bO h4.px (bO h5.px (bO h6.px (bO (.flat rfl) px0)))))))))))
set_option maxHeartbeats 4000000 in
theorem f105(x:Ex):∃v,CP 105 [.agg (exO x)] v/\lZ v:=by
 refine dz Tryz.func105 (by decide) Ih.2 rfl (bO (pxe _) px0) rfl ?_;have hE:∀l:List Ex,Lv (.lst l.length 11 (exL l)):=λl=>.lst (pxE l);have hS:∀l:List Sg,Lv (.lst l.length 27 (sgL l)):=λl=>.lst (pxS l);have hC:∀l:List Cl,Lv (.lst l.length 4 (clL l)):=λl=>.lst (pxC l);have hM:∀l:List Sm,Lv (.lst l.length 23 (smL l)):=λl=>.lst (pxM l)
 repeat' (first
  |(refine WLg.mk ?_;first
  |refine aa rfl rfl rfl rfl ?_|refine ab rfl rfl rfl rfl ?_|refine aF rfl rfl rfl rfl rfl ?_|refine aQ rfl rfl rfl rfl rfl rfl rfl rfl rfl ?_|refine aL rfl rfl rfl rfl rfl rfl rfl rfl rfl ?_)|apply ac|refine ae rfl ?_|apply ai|apply ah|apply aj|apply al|refine ak rfl (λht=>?_) (λht=>?_)|apply ap|apply bG.norm|exact⟨.inr rfl,_,rfl,lZ.px (.mk (by first|exact .nils|exact hE _|exact hS _|exact hC _|exact hM _) (by first|exact .nils|exact hE _|exact hS _|exact hC _|exact hM _) (by first|exact .nils|exact hE _|exact hS _|exact hC _|exact hM _) (by first|exact .nils|exact hE _|exact hS _|exact hC _|exact hM _) (by first|exact .nils|exact hE _|exact hS _|exact hC _|exact hM _) (by first|exact .nils|exact hE _|exact hS _|exact hC _|exact hM _)),.mk (by first|exact .nils|exact hE _|exact hS _|exact hC _|exact hM _) (by first|exact .nils|exact hE _|exact hS _|exact hC _|exact hM _) (by first|exact .nils|exact hE _|exact hS _|exact hC _|exact hM _) (by first|exact .nils|exact hE _|exact hS _|exact hC _|exact hM _) (by first|exact .nils|exact hE _|exact hS _|exact hC _|exact hM _) (by first|exact .nils|exact hE _|exact hS _|exact hC _|exact hM _)⟩|fail)
theorem jJ{k a:Int}{n1 c1 n2 c2:Nat}{l1 l2 l3 l4 l5 l6:V}{w:Bool}(h1:Lv l1)(h2:Lv l2)(h3:Lv l3)(h4:Lv l4)(h5:Lv l5)(h6:Lv l6):cF (cellsOf (.agg [.int .i64 k,.int .i64 a,.str n1 c1,.str n2 c2,l1,l2,l3,l4,l5,l6,.bool w]))=true:=by
 have key:∀l:List V,(∀v,v∈l->cE v=true)->cF l=true:=by
  intro l
  induction l with
  |nil=>intro _;rfl
  |cons v l ih=>
   intro h;show(Bool.rec (motive:=λ_=>Bool) false (cF l) (cE v):Bool)=true;rw [h v List.mem_cons_self];exact ih λx hx=>h x (List.mem_cons_of_mem _ hx)
 refine key _ λv hv=>?_;simp only [cellsOf,List.mem_cons,List.not_mem_nil,or_false]at hv;rcases hv with rfl|rfl|rfl|rfl|rfl|rfl|rfl|rfl|rfl|rfl|rfl
 ·rfl
 ·rfl
 ·rfl
 ·rfl
 ·exact h1.one
 ·exact h2.one
 ·exact h3.one
 ·exact h4.one
 ·exact h5.one
 ·exact h6.one
 ·rfl
set_option maxHeartbeats 4000000 in
theorem f74{v:V}(hv:lZ v):db 74 [v]:=by
 have hp:=hv.px;cases hv with
 |mk h1 h2 h3 h4 h5 h6=>
  refine cJ Tryz.func74 (by decide) q74.2 rfl (bO hp px0) rfl ?_
  rename_i k a n1 c1 n2 c2 l1 l2 l3 l4 l5 l6 w
  have ha:=jJ (k:=k) (a:=a) (n1:=n1) (c1:=c1) (n2:=n2) (c2:=c2) (w:=w) h1 h2 h3 h4 h5 h6;have p1:=h1.px;have p2:=h2.px;have p3:=h3.px;have p4:=h4.px;have p5:=h5.px;have p6:=h6.px;obtain⟨k1,e1⟩:=h1.len;obtain⟨k2,e2⟩:=h2.len;obtain⟨k3,e3⟩:=h3.len;obtain⟨k4,e4⟩:=h4.len;obtain⟨k5,e5⟩:=h5.len;obtain⟨k6,e6⟩:=h6.len
  repeat' (first
   |(refine WLg.mk ?_;first
   |refine aa rfl rfl rfl rfl ?_|refine aa rfl rfl Hy rfl ?_|refine ab rfl rfl rfl rfl ?_|refine aA rfl rfl RA rfl PB rfl ?_)|apply ac|refine ae rfl ?_|refine ay rfl rfl ?_|refine az rfl (λht=>?_) (λht=>?_)|apply ai|apply ah|apply ap|apply bG.norm|exact⟨.inr rfl,_,rfl,.flat rfl,_,rfl⟩|fail)
end
section
theorem qD(x:Ex):lZ (.agg (exO x)):= .mk (.lst (pxE _)) (.lst (pxS _)) (.lst (pxC _)) (.lst (pxC _)) (.lst (pxM _)) (.lst (pxM _))
noncomputable section
def fr54(l:List Ex)(i:Nat):AL:=[(0,.lst l.length 11 (exL l)),(2,.bool false),(3,.int .i64 (Int.ofNat i))]
def fr55(l:List Sm)(i:Nat):AL:=[(0,.lst l.length 23 (smL l)),(2,.bool false),(3,.int .i64 (Int.ofNat i))]
def fr107(l:List Sg)(i:Nat):AL:=[(0,.lst l.length 27 (sgL l)),(2,.bool false),(3,.int .i64 (Int.ofNat i))]
def fr41(l:List Cl)(p:Int)(b:Bool)(i:Nat):AL:=[(0,.lst l.length 4 (clL l)),(1,.int .i64 p),(2,.bool b),(6,.bool false),(7,.int .i64 (Int.ofNat i))]
def fr41'(l:List Cl)(p:Int)(b:Bool)(i k:Nat):AL:=[(0,.lst l.length 4 (clL l)),(1,.int .i64 p),(2,.bool b),(6,.bool false),(7,.int .i64 (Int.ofNat i)),(8,.eptr (clO (bM l i)) 0),(9,.int .i64 (Int.ofNat k))]
def fr109(x:Ex)(i:Nat):AL:=[(0,.agg (exO x)),(1,.eptr (exO x) 0),(2,.bool false),(3,.int .i64 (Int.ofNat i))]
end
structure Ref(s:Nat):Prop where
 ex:∀x,bH (exO x)<s->db 73 [.agg (exO x)]
 all:∀l:List Ex,bH (exL l)<s->db 54 [.lst l.length 11 (exL l)]
 body:∀l:List Sm,bH (smL l)<s->db 55 [.lst l.length 23 (smL l)]
 cls:∀(l:List Cl) (p:Int) (b:Bool),bH (clL l)<s->db 41 [.lst l.length 4 (clL l),.int .i64 p,.bool b]
 segs:∀l:List Sg,bH (sgL l)<s->db 107 [.lst l.length 27 (sgL l)]
section
variable {s:Nat} (R:Ref s) (hs:s<9223372036854775807)
include R hs
set_option maxHeartbeats 4000000 in
theorem BJ(x:Ex)(hx:bH (exO x)<s+1):db 109 [.agg (exO x)]:=by
 have hz:=dM x;refine cJ Tryz.func109 (by decide) Id.2 rfl (bO (pxe _) px0) rfl ?_;have c54:=R.all x.items (by omega);have c55:=R.body x.body (by omega);have c55':=R.body x.after (by omega);have c41:=R.cls x.clauses 1 false (by omega);have c41':=R.cls x.catches 2 false (by omega);have hl:x.catches.length<9223372036854775808:=by have:=eT x.catches;omega
 repeat' (first
  |(refine WLg.mk ?_;first
  |refine aa rfl rfl rfl rfl ?_|refine ab rfl rfl rfl rfl ?_|refine aA rfl rfl RA rfl PB rfl ?_|refine aq rfl rfl rfl (c54) rfl ?_|refine aq rfl rfl rfl (c55') rfl ?_|refine aq rfl rfl rfl (c41) rfl ?_)|apply ac|refine ae rfl ?_|refine ay rfl rfl ?_|refine az rfl (λht=>?_) (λht=>?_)|refine aH (t:=66) (λb=>rfl) ?_ (λb=>?_)|refine aH (t:=111) (λb=>rfl) ?_ (λb=>?_)|apply ai|apply ah|apply aj|apply al|refine ak rfl (λht=>?_) (λht=>?_)|apply ap|apply bG.norm|apply bG.ret|exact⟨⟨_,rfl⟩,rfl⟩|exact⟨.inr rfl,_,rfl,.flat rfl,_,rfl⟩|fail)
 all_goals refine aw (cA (l:=fr109 x 0) KT rfl) ?_
 all_goals refine ax x.catches.length (λi x' h=>x'=fr109 x i/\h=H0) ?_ (i:=0) (Nat.zero_le _) ⟨rfl,rfl⟩
 all_goals rintro i _ _ hi ⟨rfl,rfl⟩
 repeat' (first
  |(refine WLg.mk ?_;first
  |refine aa rfl rfl rfl rfl ?_|refine aa rfl rfl (bN Hy) rfl ?_|refine aa rfl rfl (ix2 Hy) rfl ?_|refine ab rfl rfl (fm (Ge Hy) _) rfl ?_|refine ab rfl rfl rfl rfl ?_|refine ab rfl rfl (et Hy rfl) rfl ?_|refine aq rfl rfl rfl (f131 _) rfl ?_|refine aq rfl rfl rfl (c55) rfl ?_|refine aq rfl rfl rfl (c41) rfl ?_|refine aq rfl rfl rfl (c41') rfl ?_)|apply ac|refine ae rfl ?_|refine ay rfl rfl ?_|refine az rfl (λht=>?_) (λht=>?_)|refine aH (t:=138) (λb=>rfl) ?_ (λb=>?_)|apply ai|apply ah|apply aj|apply al|refine ak rfl (λht=>?_) (λht=>?_)|apply av|apply ap|apply bG.norm|apply bG.ret|apply bG.exit|apply OnC.ret|apply OnC.exit|exact⟨⟨_,rfl⟩,rfl⟩|exact⟨.inr rfl,_,rfl,.flat rfl,_,rfl⟩|fail)
 all_goals exact .norm ⟨_,_,cA KT rfl,bL Hy,rfl,rfl⟩
set_option maxHeartbeats 4000000 in
theorem FE(x:Ex)(hx:bH (exO x)<s+1):db 73 [.agg (exO x)]:=by
 have hz:=dM x;refine cJ Tryz.func73 (by decide) q73.2 rfl (bO (pxe _) px0) rfl ?_;obtain⟨v,c105,hv⟩:=f105 x;have c74:=f74 hv;have hp:=hv.px;have c40:=f40 x.name.size (bT x.name.data.toList) (by omega);have c40':=f40 x.text.size (bT x.text.data.toList) (by omega);have c106:=f106 x.name.size (bT x.name.data.toList) (by omega);have c54:=R.all x.items (by omega);have c107:=R.segs x.segs (by omega);have c108:=f108 x.name.size (bT x.name.data.toList) (Int.ofNat x.items.length);have c41:=R.cls x.clauses (-1) false (by omega);have c55:=R.body x.body (by omega);have c109:=BJ R hs x hx
 repeat' (first
  |(refine WLg.mk ?_;first
  |refine aa rfl rfl rfl rfl ?_|refine ab rfl rfl rfl rfl ?_|refine aA rfl rfl RA rfl PB rfl ?_|refine aq rfl rfl rfl (c105) rfl ?_|refine aq rfl rfl rfl (c74) rfl ?_|refine aq rfl rfl rfl (c40) rfl ?_|refine aq rfl rfl rfl (c40') rfl ?_|refine aq rfl rfl rfl (c106) rfl ?_|refine aq rfl rfl rfl (c54) rfl ?_|refine aq rfl rfl rfl (c107) rfl ?_|refine aq rfl rfl rfl (c108) rfl ?_|refine aq rfl rfl rfl (c41) rfl ?_|refine aq rfl rfl rfl (c55) rfl ?_|refine aq rfl rfl rfl (c109) rfl ?_)|apply ac|refine ae rfl ?_|refine ay rfl rfl ?_|refine az rfl (λht=>?_) (λht=>?_)|apply ai|apply ah|apply aj|apply al|refine ak rfl (λht=>?_) (λht=>?_)|apply ap|apply bG.norm|apply bG.ret|exact⟨.inr rfl,_,rfl,.flat rfl,_,rfl⟩|fail)
theorem DE(hE:∀x,bH (exO x)<s+1->db 73 [.agg (exO x)])(l:List Ex)(hx:bH (exL l)<s+1):db 54 [.lst l.length 11 (exL l)]:=by
 have _a:=@R;have hl:l.length<9223372036854775808:=by have:=dy l;omega
 refine cJ Tryz.func54 (by decide) q54.2 rfl (bO (pxE l) px0) rfl ?_;have c73:∀i,Nat.blt i l.length=true->db 73 [.agg (exO (bW l i))]:=λi h=>hE _ (by have:=vR h;omega)
 repeat' (first
  |(refine WLg.mk ?_;first
  |refine aa rfl rfl rfl rfl ?_)|apply ac|refine ae rfl ?_|apply ai|apply ah|apply aj|apply bG.norm|fail)
 refine aw (cA (l:=fr54 l 0) KT rfl) ?_;refine ax l.length (λi x h=>x=fr54 l i/\h=H0) ?_ (i:=0) (Nat.zero_le _) ⟨rfl,rfl⟩;rintro i _ _ hi ⟨rfl,rfl⟩
 repeat' (first
  |(refine WLg.mk ?_;first
  |refine aa rfl rfl rfl rfl ?_|refine aa rfl rfl (bN Hy) rfl ?_|refine ab rfl rfl (dA Hy) rfl ?_|refine aq rfl rfl rfl (c73 _ Hy) rfl ?_)|apply ac|refine ae rfl ?_|apply ai|apply ah|apply aj|apply al|refine ak rfl (λht=>?_) (λht=>?_)|apply av|apply ap|apply bG.norm|apply bG.ret|apply bG.exit|apply OnC.ret|apply OnC.exit|exact⟨.inr rfl,_,rfl,.flat rfl,_,rfl⟩|fail)
 all_goals exact .norm ⟨_,_,cA KT rfl,bL Hy,rfl,rfl⟩
set_option maxHeartbeats 4000000 in
theorem DD(l:List Cl)(p:Int)(nm:Bool)(hx:bH (clL l)<s+1):db 41 [.lst l.length 4 (clL l),.int .i64 p,.bool nm]:=by
 have hl:l.length<9223372036854775808:=by have:=eT l;omega
 refine cJ Tryz.func41 (by decide) q41.2 rfl (bO (pxC l) (bO (.flat rfl) (bO (.flat rfl) px0))) rfl ?_;have c40:∀i,Nat.blt i l.length=true->CP 40 [sV (bM l i).name] (.bool (nmV (bM l i).name.size (bT (bM l i).name.data.toList))):=λi h=>f40 _ _ (by have:=kc h;have:=fJ (bM l i);omega);have c54:∀i,Nat.blt i l.length=true->db 54 [.lst (bM l i).pats.length 11 (exL (bM l i).pats)]:=λi h=>R.all _ (by have:=kc h;have:=fJ (bM l i);omega);have c55:∀i,Nat.blt i l.length=true->db 55 [.lst (bM l i).body.length 23 (smL (bM l i).body)]:=λi h=>R.body _ (by have:=kc h;have:=fJ (bM l i);omega);have c54g:∀i k,Nat.blt i l.length=true->Nat.blt k (bM l i).guards.length=true->db 54 [.lst (di (bM l i).guards k).length 11 (exL (di (bM l i).guards k))]:=λi k h h'=>R.all _ (by have:=kc h;have:=fJ (bM l i);have:=vJ h';omega);have hlg:∀i,Nat.blt i l.length=true->(bM l i).guards.length<9223372036854775808:=λi h=>by have:=kc h;have:=fJ (bM l i);have:=jF (bM l i).guards;omega
 repeat' (first
  |(refine WLg.mk ?_;first
  |refine aa rfl rfl rfl rfl ?_)|apply ac|refine ae rfl ?_|apply ai|apply ah|apply aj|apply bG.norm|fail)
 refine aw (cA (l:=fr41 l p nm 0) KT rfl) ?_;refine ax l.length (λi x h=>x=fr41 l p nm i/\h=H0) ?_ (i:=0) (Nat.zero_le _) ⟨rfl,rfl⟩;rintro i _ _ hi ⟨rfl,rfl⟩
 repeat' (first
  |(refine WLg.mk ?_;first
  |refine aa rfl rfl rfl rfl ?_|refine aa rfl rfl (bN Hy) rfl ?_|refine ab rfl rfl rfl rfl ?_|refine ab rfl rfl (gj Hy) rfl ?_|refine aF rfl rfl rfl rfl rfl ?_|refine aL rfl rfl rfl rfl rfl rfl rfl rfl rfl ?_|refine aq rfl rfl rfl (c40 _ Hy) rfl ?_|refine aq rfl rfl rfl (c54 _ Hy) rfl ?_|refine aq rfl rfl rfl (c55 _ Hy) rfl ?_)|apply ac|refine ae rfl ?_|refine ay rfl rfl ?_|refine az rfl (λht=>?_) (λht=>?_)|refine aH (t:=58) (λb=>rfl) ?_ (λb=>?_)|apply ai|apply ah|apply aj|apply al|refine ak rfl (λht=>?_) (λht=>?_)|apply av|apply ap|apply bG.norm|apply bG.ret|apply bG.exit|apply OnC.ret|apply OnC.exit|exact⟨⟨_,rfl⟩,rfl⟩|exact⟨.inr rfl,_,rfl,.flat rfl,_,rfl⟩|fail)
 have hlg':=hlg i Hy;refine aw (ED (k:=1) (cs:=clO (bM l i)) (l:=fr41' l p nm i 0) (by repeat' (first|exact .nil|refine .fz rfl ?_|refine .cons rfl ?_ ?_|refine .cons (pO Hy Hy) ?_ ?_|exact .flat rfl|exact pxE _|exact pxS _|exact pxC _|exact pxM _|exact pxG _|exact pxL _|exact pxe _|exact pxq _|exact pxqs _|exact FH _|exact pxqm _|exact pxs _|exact pxc _|exact pxm _|assumption)) rfl rfl rfl (by first|exact λc hc=>(cZ _ c hc).x|exact λc hc=>(fM _ c hc).x|exact λc hc=>(gz _ c hc).x|exact λc hc=>(jT _ c hc).x) rfl) ?_;refine ax (bM l i).guards.length (λk x h=>x=fr41' l p nm i k/\h=H0) ?_ (i:=0) (Nat.zero_le _) ⟨rfl,rfl⟩;rintro k _ _ hk ⟨rfl,rfl⟩
 repeat' (first
  |(refine WLg.mk ?_;first
  |refine aa rfl rfl rfl rfl ?_|refine aa rfl rfl (bN Hy) rfl ?_|refine ab rfl rfl rfl rfl ?_|refine ab rfl rfl (dO (j:=0) (oY Hy) rfl _) rfl ?_|refine aq rfl rfl rfl (c54g _ _ Hy Hy) rfl ?_)|apply ac|refine ae rfl ?_|refine ay rfl rfl ?_|refine az rfl (λht=>?_) (λht=>?_)|refine aH (t:=81) (λb=>rfl) ?_ (λb=>?_)|apply ai|apply ah|apply aj|apply al|refine ak rfl (λht=>?_) (λht=>?_)|apply av|apply ap|apply bG.norm|apply bG.ret|apply bG.exit|apply OnC.ret|apply OnC.exit|exact⟨⟨_,rfl⟩,rfl⟩|exact⟨.inr rfl,_,rfl,.flat rfl,_,rfl⟩|fail)
 all_goals first|exact .norm ⟨_,_,cA KT rfl,bL Hy,rfl,rfl⟩|skip
end
end
section
section
variable {s:Nat} (R:Ref s) (hs:s<9223372036854775807)
include R hs
set_option maxHeartbeats 2000000 in
theorem BK(l:List Sm)(hx:bH (smL l)<s+1):db 55 [.lst l.length 23 (smL l)]:=by
 have hl:l.length<9223372036854775808:=by have:=gM l;omega
 refine cJ Tryz.func55 (by decide) q55.2 rfl (bO (pxM l) px0) rfl ?_;have c73:∀i,Nat.blt i l.length=true->db 73 [.agg (exO (cD l i).pat)]:=λi h=>R.ex _ (by have:=Br h;have:=mN (cD l i);omega);have c73':∀i,Nat.blt i l.length=true->db 73 [.agg (exO (cD l i).val)]:=λi h=>R.ex _ (by have:=Br h;have:=mN (cD l i);omega)
 repeat' (first
  |(refine WLg.mk ?_;first
  |refine aa rfl rfl rfl rfl ?_)|apply ac|refine ae rfl ?_|apply ai|apply ah|apply aj|apply bG.norm|fail)
 refine aw (cA (l:=fr55 l 0) KT rfl) ?_;refine ax l.length (λi x h=>x=fr55 l i/\h=H0) ?_ (i:=0) (Nat.zero_le _) ⟨rfl,rfl⟩;rintro i _ _ hi ⟨rfl,rfl⟩
 repeat' (first
  |(refine WLg.mk ?_;first
  |refine aa rfl rfl rfl rfl ?_|refine aa rfl rfl (bN Hy) rfl ?_|refine ab rfl rfl (eH Hy rfl) rfl ?_|refine ab rfl rfl (eG Hy rfl) rfl ?_|refine ab rfl rfl (oW Hy rfl) rfl ?_|refine aq rfl rfl rfl (c73 _ Hy) rfl ?_|refine aq rfl rfl rfl (c73' _ Hy) rfl ?_|refine aq rfl rfl rfl (f74 (qD _)) rfl ?_)|apply ac|refine ae rfl ?_|refine ay rfl rfl ?_|refine az rfl (λht=>?_) (λht=>?_)|refine aH (t:=49) (λb=>rfl) ?_ (λb=>?_)|apply ai|apply ah|apply aj|apply al|refine ak rfl (λht=>?_) (λht=>?_)|apply av|apply ap|apply bG.norm|apply bG.ret|apply bG.exit|apply OnC.ret|apply OnC.exit|exact⟨⟨_,rfl⟩,rfl⟩|exact⟨.inr rfl,_,rfl,.flat rfl,_,rfl⟩|fail)
 all_goals exact .norm ⟨_,_,cA KT rfl,bL Hy,rfl,rfl⟩
set_option maxHeartbeats 2000000 in
theorem BH(l:List Sg)(hx:bH (sgL l)<s+1):db 107 [.lst l.length 27 (sgL l)]:=by
 have hl:l.length<9223372036854775808:=by have:=iR l;omega
 refine cJ Tryz.func107 (by decide) If.2 rfl (bO (pxS l) px0) rfl ?_;have c73:∀i,Nat.blt i l.length=true->db 73 [.agg (exO (ck l i).val)]:=λi h=>R.ex _ (by have:=yF h;have:=kU (ck l i);omega);have c73':∀i,Nat.blt i l.length=true->db 73 [.agg (exO (ck l i).size)]:=λi h=>R.ex _ (by have:=yF h;have:=kU (ck l i);omega);have c130:∀i,Nat.blt i l.length=true->db 130 [sV (ck l i).text]:=λi h=>f130 _ _ (by have:=yF h;have:=kU (ck l i);omega)
 repeat' (first
  |(refine WLg.mk ?_;first
  |refine aa rfl rfl rfl rfl ?_)|apply ac|refine ae rfl ?_|apply ai|apply ah|apply aj|apply bG.norm|fail)
 refine aw (cA (l:=fr107 l 0) KT rfl) ?_;refine ax l.length (λi x h=>x=fr107 l i/\h=H0) ?_ (i:=0) (Nat.zero_le _) ⟨rfl,rfl⟩;rintro i _ _ hi ⟨rfl,rfl⟩
 repeat' (first
  |(refine WLg.mk ?_;first
  |refine aa rfl rfl rfl rfl ?_|refine aa rfl rfl (bN Hy) rfl ?_|refine ab rfl rfl rfl rfl ?_|refine ab rfl rfl (gh Hy) rfl ?_|refine aF rfl rfl rfl rfl rfl ?_|refine aL rfl rfl rfl rfl rfl rfl rfl rfl rfl ?_|refine aq rfl rfl rfl (c73 _ Hy) rfl ?_|refine aq rfl rfl rfl (c73' _ Hy) rfl ?_|refine aq rfl rfl rfl (c130 _ Hy) rfl ?_|refine aq rfl rfl rfl (f74 (qD _)) rfl ?_)|apply ac|refine ae rfl ?_|refine ay rfl rfl ?_|refine az rfl (λht=>?_) (λht=>?_)|refine aH (t:=45) (λb=>rfl) ?_ (λb=>?_)|refine aH (t:=69) (λb=>rfl) ?_ (λb=>?_)|refine aH (t:=101) (λb=>rfl) ?_ (λb=>?_)|apply ai|apply ah|apply aj|apply al|refine ak rfl (λht=>?_) (λht=>?_)|apply av|apply ap|apply bG.norm|apply bG.ret|apply bG.exit|apply OnC.ret|apply OnC.exit|exact⟨⟨_,rfl⟩,rfl⟩|exact⟨.inr rfl,_,rfl,.flat rfl,_,rfl⟩|fail)
 all_goals exact .norm ⟨_,_,cA KT rfl,bL Hy,rfl,rfl⟩
end
theorem BI:∀s,s<9223372036854775807->Ref s
 |0,_=>⟨λ_ h=>absurd h (by omega),λ_ h=>absurd h (by omega),λ_ h=>absurd h (by omega),λ_ _ _ h=>absurd h (by omega),λ_ h=>absurd h (by omega)⟩
 |s+1,hs=>by
  have R:=BI s (by omega);have hE:=FE R (by omega);exact⟨hE,DE R (by omega) hE,BK R (by omega),DD R (by omega),BH R (by omega)⟩
end
section
noncomputable section
def fr137(l:List (Nat×Nat))(n c i:Nat):AL:=[(0,.lst l.length 1 (ko l)),(1,.str n c),(4,.int .i64 0),(7,.int .i64 (Int.ofNat l.length)),(8,.int .i64 (Int.ofNat i))]
def F2:List (Nat×Nat):=[(1,33)]
def F1:List (Nat×Nat):=[(6,111546414232175)]
def FZ:List (Nat×Nat):=[(7,31370631742516833)]
def FY:List (Nat×Nat):=[(3,4012605),(3,4009789),(1,60),(2,15421),(1,62),(2,15678)]
def FX:List (Nat×Nat):=[(2,11051)]
def FW:List (Nat×Nat):=[(1,43),(1,45),(3,7499618),(4,1919907938),(3,7107426),(3,7500642),(2,29295),(3,7499640)]
def lev:List V:=[.lst F2.length 1 (ko F2),.bool true,.bool false,.lst F1.length 1 (ko F1),.bool false,.bool false,.lst FZ.length 1 (ko FZ),.bool false,.bool false,.lst FY.length 1 (ko FY),.bool false,.bool true,.lst FX.length 1 (ko FX),.bool true,.bool false,.lst FW.length 1 (ko FW),.bool false,.bool false]
def fr81(n c:Nat)(k:Int)(i:Nat):AL:=[(0,.str n c),(1,.int .i64 k),(4,.bool false),(29,.agg lev),(30,.int .i64 (Int.ofNat i))]
end
theorem f137(l:List (Nat×Nat))(hl:l.length<9223372036854775808)(n c:Nat):wx 137 [.lst l.length 1 (ko l),.str n c]:=by
 refine vZ (dz Tryz.func137 (by decide) GK.2 rfl (bO (pxL _) (bO (.flat rfl) px0)) rfl ?_)
 repeat' (first
  |(refine WLg.mk ?_;first
  |refine aa rfl rfl rfl rfl ?_)|apply ac|refine ae rfl ?_|apply ai|apply ah|apply aj|apply bG.norm|fail)
 refine aw (cA (l:=fr137 l n c 0) KT rfl) ?_;refine ax l.length (λi x h=>x=fr137 l n c i/\h=H0) ?_ (i:=0) (Nat.zero_le _) ⟨rfl,rfl⟩;rintro i _ _ hi ⟨rfl,rfl⟩
 repeat' (first
  |(refine WLg.mk ?_;first
  |refine aa rfl rfl rfl rfl ?_|refine aa rfl rfl (bN Hy) rfl ?_|refine ab rfl rfl (dO (j:=0) (EF Hy) rfl _) rfl ?_)|apply ac|refine ae rfl ?_|apply ai|apply ah|apply aj|apply al|refine ak rfl (λht=>?_) (λht=>?_)|apply av|apply ap|apply bG.norm|apply bG.ret|apply bG.exit|apply OnC.ret|apply OnC.exit|exact⟨.inr rfl,_,rfl,.flat rfl,_,rfl⟩|fail)
 all_goals exact .norm ⟨_,_,cA KT rfl,bL Hy,rfl,rfl⟩
theorem f113(l:List (Nat×Nat))(hl:l.length<9223372036854775808)(n c:Nat):db 113 [.lst l.length 1 (ko l),.str n c]:=by
 refine cJ Tryz.func113 (by decide) GM.2 rfl (bO (pxL _) (bO (.flat rfl) px0)) rfl ?_
 repeat' (first
  |(refine WLg.mk ?_;first
  |refine aa rfl rfl rfl rfl ?_|refine aq rfl rfl rfl (f137 l hl n c) rfl ?_)|apply ac|refine ae rfl ?_|apply ai|apply ah|apply ap|apply bG.norm|exact⟨.inr rfl,_,rfl,.flat rfl,_,rfl⟩|fail)
theorem B2:∀c,c∈lev->bP c:=by
 unfold lev
 repeat' (first|exact px0|refine bO ?_ ?_|exact pxL _|exact .flat rfl)
theorem f112:CP 112 [] (.agg lev):=by
 refine cS Tryz.func112 (by decide) Ic.2 rfl px0 rfl ?_
 repeat' (first
  |(refine WLg.mk ?_;first
  |refine aa rfl rfl rfl rfl ?_|refine aP rfl rfl rfl rfl rfl rfl PB rfl ?_|refine aF rfl rfl rfl rfl rfl ?_|refine aL rfl rfl rfl rfl rfl rfl rfl rfl rfl ?_)|apply ac|refine ae rfl ?_|apply ai|apply ah|apply ap|apply bG.norm|exact⟨.inr rfl,_,rfl,.agg B2,rfl⟩|fail)
set_option maxHeartbeats 2000000 in
theorem f81(n c:Nat)(k:Int):db 81 [.str n c,.int .i64 k]:=by
 refine cJ Tryz.func81 (by decide) q81.2 rfl (bO (.flat rfl) (bO (.flat rfl) px0)) rfl ?_;have pl:bP (.agg lev):= .agg B2;have c0:=f113 F2 (by decide) n c;have c1:=f113 F1 (by decide) n c;have c2:=f113 FZ (by decide) n c;have c3:=f113 FY (by decide) n c;have c4:=f113 FX (by decide) n c;have c5:=f113 FW (by decide) n c
 repeat' (first
  |(refine WLg.mk ?_;first
  |refine aa rfl rfl rfl rfl ?_|refine aq rfl rfl rfl (f112) rfl ?_)|apply ac|refine ae rfl ?_|refine ay rfl rfl ?_|refine az rfl (λht=>?_) (λht=>?_)|apply ai|apply ah|apply aj|apply al|refine ak rfl (λht=>?_) (λht=>?_)|apply ap|apply bG.norm|apply bG.ret|exact⟨.inr rfl,_,rfl,.flat rfl,_,rfl⟩|fail)
 all_goals first|(exfalso;simp_all;done)|skip
 refine aw (cA (l:=fr81 n c k 0) KT rfl) ?_;refine ax 6 (λi x h=>x=fr81 n c k i/\h=H0) ?_ (i:=0) (Nat.zero_le _) ⟨rfl,rfl⟩;rintro i _ _ hi ⟨rfl,rfl⟩;rcases (by omega:i=0\/i=1\/i=2\/i=3\/i=4\/i=5\/i=6)with rfl|rfl|rfl|rfl|rfl|rfl|rfl
 repeat' (first
  |(refine WLg.mk ?_;first
  |refine aa rfl rfl rfl rfl ?_|refine ab rfl rfl rfl rfl ?_|refine aF rfl rfl rfl rfl rfl ?_|refine aL rfl rfl rfl rfl rfl rfl rfl rfl rfl ?_|refine aq rfl rfl rfl (c0) rfl ?_|refine aq rfl rfl rfl (c1) rfl ?_|refine aq rfl rfl rfl (c2) rfl ?_|refine aq rfl rfl rfl (c3) rfl ?_|refine aq rfl rfl rfl (c4) rfl ?_|refine aq rfl rfl rfl (c5) rfl ?_)|apply ac|refine ae rfl ?_|apply ai|apply ah|apply aj|apply al|refine aD rfl ?_|refine aB rfl ?_|refine ak rfl (λht=>?_) (λht=>?_)|apply av|apply ap|apply bG.norm|apply bG.ret|apply bG.exit|apply OnC.ret|apply OnC.exit|exact⟨.inr rfl,_,rfl,.flat rfl,_,rfl⟩|fail)
 all_goals exact .norm ⟨_,_,cA KT rfl,by omega,rfl,rfl⟩
end
section
noncomputable section
def lpS(n c pos:Nat):List (Option Blk):=[some (.ro 256 dN),some (.siter n c pos)]
def HS(n c pos:Nat):H:=⟨trO (lpS n c pos) 0 .e,2⟩
end
inductive jw(f:AL):AL->Prop
 |nil:jw f []
 |it {t off:Nat} {l:AL} (e:lk f t=some (.ptr 1 off)) (r:jw f l):jw f ((t,.ptr 1 off) ::l)
 |cons {t:Nat} {v:V} {l:AL} (e:lk f t=some v) (p:bP v) (r:jw f l):jw f ((t,v) ::l)
theorem jw.mem{U:Nat->Prop}(h1:U 1){f:AL}:∀{l:AL},jw f l->∀p,p∈l->∃v,lk f p.1=some v/\Rn U (λi=>i) (λ_=>none) p.2 v
 |_,.nil,p,h=>by cases h
 |_,.it e r,p,h=>by
  rcases List.mem_cons.1 h with rfl|h
  ·exact⟨_,e,.ptr h1⟩
  ·exact jw.mem h1 r p h
 |_,.cons e q r,p,h=>by
  rcases List.mem_cons.1 h with rfl|h
  ·exact⟨_,e,.pure q⟩
  ·exact jw.mem h1 r p h
theorem KS{f l:AL}(h:jw f l:=by repeat' (first|exact .nil|refine .it rfl ?_|refine .cons rfl ?_ ?_|exact PX)):jw f l:=h
theorem rV{f:F}{h:H}{l:AL}{n c pos:Nat}(k:jw f.loc l)(hb:h.blk 0=some (.ro 256 dN))(hs:h.blk 1=some (.siter n c pos)):fG TP Kp f h ⟨l,[]⟩ (HS n c pos):=by
 have hk:2<=bR:=by unfold bR;omega
 have u:∀i,cL (lpS n c pos) i->i=0\/i=1:=λi ⟨b,e⟩=>by
  cases i with
  |zero=>exact .inl rfl
  |succ i=>cases i with
   |zero=>exact .inr rfl
   |succ i=>cases e
 have noUp:∀i j d,cL (lpS n c pos) i->¬Up h i j d:=λi j d hi=>by
  rcases u i hi with rfl|rfl
  ·exact dH hb
  ·intro q
   cases q with
   |one e' k'=>rw [hs]at e';cases e';cases k'
   |step e' k' _=>rw [hs]at e';cases e';cases k'
 have V:Vw TP h (lpS n c pos) (λi=>i) (λ_=>none):=by
  refine⟨hk,λi b' e=>?_,λi j _ _ e=>e,λi j d hi _=>noUp i j d hi,(λk cs e=>by cases e),(λk cs i e=>by cases e),λq hq=>⟨rfl,?_⟩⟩
  ·rcases u i ⟨_,e⟩with rfl|rfl
   ·obtain rfl:Blk.ro 256 dN=b':=by cases e;rfl
    exact⟨_,hb,.ro λj v e=>.flat (d3 eJ (by rw [fU];unfold bR;omega) e)⟩
   ·obtain rfl:Blk.siter n c pos=b':=by cases e;rfl
    exact⟨_,hs,.siter⟩
  ·have e:=jV.all q hq
   have hq':q.1=0:=by rw [ii]at hq;rw [List.mem_singleton.1 hq]
   rw [hq']at e ⊢;exact e
 exact V.view (λid h=>by obtain rfl:id=0:=h;exact⟨⟨_,rfl⟩,rfl⟩) (.inl λ_=>rfl) ⟨λp hp=>k.mem ⟨_,rfl⟩ p hp,λp hp=>by cases hp⟩
theorem tH{n c pos:Nat}(h:Nat.blt pos n=true):EOp.run .nextS [.ptr 1 0] (HS n c pos)=some (.tup [.bool true,.int .i64 (Int.ofNat pos),.int .i32 (Int.ofNat (jA n c pos).1)],⟨(HS n c pos).t.put 1 (some (.siter n c (Nat.add pos (jA n c pos).2))),2⟩):=by
 show(Bool.rec (motive:=λ_=>Option (V×H)) (some (.tup [.bool false],HS n c pos)) (some (.tup [.bool true,.int .i64 (Int.ofNat pos),.int .i32 (Int.ofNat (jA n c pos).1)],⟨(HS n c pos).t.put 1 (some (.siter n c (Nat.add pos (jA n c pos).2))),2⟩)) (Nat.blt pos n):Option (V×H))=_;rw [h]
theorem qE{n c pos:Nat}(h:Nat.blt pos n=false):EOp.run .nextS [.ptr 1 0] (HS n c pos)=some (.tup [.bool false],HS n c pos):=by
 show(Bool.rec (motive:=λ_=>Option (V×H)) (some (.tup [.bool false],HS n c pos)) (some (.tup [.bool true,.int .i64 (Int.ofNat pos),.int .i32 (Int.ofNat (jA n c pos).1)],⟨(HS n c pos).t.put 1 (some (.siter n c (Nat.add pos (jA n c pos).2))),2⟩)) (Nat.blt pos n):Option (V×H))=_;rw [h]
theorem zd(n c pos:Nat):1<=(jA n c pos).2:=by
 unfold jA;rw [cC]
 split
 ·exact Nat.le_refl 1
 ·unfold Utf8.decode
  simp only
  repeat' split
  all_goals simp
noncomputable def fr56(n c:Nat):AL:=[(0,.str n c),(2,.bool false),(13,.ptr 1 0)]
set_option maxHeartbeats 2000000 in
theorem f56(n c:Nat):db 56 [.str n c]:=by
 refine cJ Tryz.func56 (by decide) q56.2 rfl (bO (.flat rfl) px0) rfl ?_
 repeat' (first
  |(refine WLg.mk ?_;first
  |refine aa rfl rfl rfl rfl ?_|refine aF rfl rfl rfl rfl rfl ?_)|apply ac|refine ae rfl ?_|refine ay rfl rfl ?_|refine az rfl (λht=>?_) (λht=>?_)|refine aH (t:=11) (λb=>rfl) ?_ (λb=>?_)|apply ai|apply ah|apply aj|apply al|refine ak rfl (λht=>?_) (λht=>?_)|apply ap|apply bG.norm|apply bG.ret|exact⟨⟨_,rfl⟩,rfl⟩|exact⟨.inr rfl,_,rfl,.flat rfl,_,rfl⟩|fail)
 refine aw (rV (l:=fr56 n c) KS rfl rfl) ?_;refine bz (λk x h=>∃pos,k=n-pos/\x=fr56 n c/\h=HS n c pos) ?_ (k:=n-0) ⟨0,rfl,rfl,rfl⟩;rintro _ _ _ ⟨pos,rfl,rfl,rfl⟩;cases hb:Nat.blt pos n with
 |false=>
  repeat' (first
   |(refine WLg.mk ?_;first
   |refine aa rfl rfl rfl rfl ?_|refine aE rfl rfl (qE hb) rfl ?_)|apply ac|refine ae rfl ?_|apply ai|apply ah|refine aB rfl ?_|apply av|apply ap|apply bG.norm|apply bG.exit|apply OnC.exit|exact⟨.inr rfl,_,rfl,.flat rfl,_,rfl⟩|fail)
 |true=>
  repeat' (first
   |(refine WLg.mk ?_;first
   |refine aa rfl rfl rfl rfl ?_|refine aE rfl rfl (tH hb) rfl ?_)|apply ac|refine ae rfl ?_|refine ay rfl rfl ?_|refine az rfl (λht=>?_) (λht=>?_)|refine aH (t:=25) (λb=>rfl) ?_ (λb=>?_)|apply ai|apply ah|apply aj|apply al|refine aD rfl ?_|refine aB rfl ?_|refine ak rfl (λht=>?_) (λht=>?_)|apply ap|apply bG.norm|apply bG.ret|apply OnC.ret|exact⟨⟨_,rfl⟩,rfl⟩|exact⟨.inr rfl,_,rfl,.flat rfl,_,rfl⟩|fail)
  all_goals exact .norm ⟨_,_,rV KS rfl rfl,n-(pos+(jA n c pos).2),by have:=bL hb;have:=zd n c pos;omega,pos+(jA n c pos).2,rfl,rfl,rfl⟩
end
end Ev
end Go.Proofs.YtdfphfdnoobikaaGreatDoor
namespace Go.Proofs
open Go.Shelf
def Tryz.lays144_ren:Go.Shelf.Ren:=⟨fun | 144=>65 | 143=>96 | 219=>124 | 217=>140 | 225=>141 | 224=>142 | 267=>143 | 266=>156 | 314=>157|n=>n,fun | 9=>9 | 4=>4 | 3=>3 | 5=>5 | 46=>164 | 146=>173 | 51=>168|n=>n,fun | 1=>1|n=>n⟩
theorem Tryz.lays144:Go.Proofs.Lays.n144 Tryz.prog Tryz.lays144_ren:={
 mixed:=by kernel_rfl
 f143:=Tryz.func96.trans (congrArg some (by kernel_rfl))
 f144:=Tryz.func65.trans (congrArg some (by kernel_rfl))
 f217:=Tryz.func140.trans (congrArg some (by kernel_rfl))
 f219:=Tryz.func124.trans (congrArg some (by kernel_rfl))
 f224:=Tryz.func142.trans (congrArg some (by kernel_rfl))
 f225:=Tryz.func141.trans (congrArg some (by kernel_rfl))
 f266:=Tryz.func156.trans (congrArg some (by kernel_rfl))
 f267:=Tryz.func143.trans (congrArg some (by kernel_rfl))
 f314:=Tryz.func157.trans (congrArg some (by kernel_rfl))
 t3:=Tryz.underlying3
 a3:=Tryz.isAgg3
 z3:=Tryz.sizeOf3
 v3:=Tryz.zeroValue3
 t4:=Tryz.underlying4
 a4:=Tryz.isAgg4
 z4:=Tryz.sizeOf4
 v4:=Tryz.zeroValue4
 t5:=Tryz.underlying5
 a5:=Tryz.isAgg5
 z5:=Tryz.sizeOf5
 v5:=Tryz.zeroValue5
 t9:=Tryz.underlying9
 a9:=Tryz.isAgg9
 z9:=Tryz.sizeOf9
 v9:=Tryz.zeroValue9
 t46:=Tryz.underlying164
 a46:=Tryz.isAgg164
 z46:=Tryz.sizeOf164
 v46:=Tryz.zeroValue164
 t51:=Tryz.underlying168
 a51:=Tryz.isAgg168
 z51:=Tryz.sizeOf168
 v51:=Tryz.zeroValue168
 t146:=Tryz.underlying173
 a146:=Tryz.isAgg173
 z146:=Tryz.sizeOf173
 v146:=Tryz.zeroValue173
 g1:=by kernel_rfl}
open Go.RowKit Go.Lib in
theorem Tryz.strings_Contains_one(s:ByteArray)(c:UInt8)(w:World):
  Calls Tryz.prog 65 #[.string s,.string ⟨#[c]⟩] w λe w'=>e= .returned (.bool (decide (0<=Lib.indexByte s.data.toList c)))/\w'=w:=Any.strings_Contains_one Tryz.lays144 s c w
def Tryz.lays157_ren:Go.Shelf.Ren:=⟨fun | 157=>98 | 229=>125 | 199=>126 | 261=>144 | 311=>158 | 312=>159|n=>n,fun | 9=>9 | 31=>109 | 3=>3 | 5=>5 | 4=>4 | 119=>145 | 0=>0 | 40=>147 | 152=>165 | 21=>21 | 154=>167 | 51=>168 | 141=>170 | 196=>178 | 193=>175 | 198=>181 | 49=>179 | 194=>176 | 201=>184 | 226=>193 | 46=>164 | 227=>194|n=>n,fun | 0=>0 | 6=>2|n=>n⟩
theorem Tryz.lays157:Go.Proofs.Lays.n157 Tryz.prog Tryz.lays157_ren:={
 mixed:=by kernel_rfl
 f157:=Tryz.func98.trans (congrArg some (by kernel_rfl))
 f199:=Tryz.func126.trans (congrArg some (by kernel_rfl))
 f229:=Tryz.func125.trans (congrArg some (by kernel_rfl))
 f261:=Tryz.func144.trans (congrArg some (by kernel_rfl))
 f311:=Tryz.func158.trans (congrArg some (by kernel_rfl))
 f312:=Tryz.func159.trans (congrArg some (by kernel_rfl))
 t0:=Tryz.underlying0
 a0:=Tryz.isAgg0
 z0:=Tryz.sizeOf0
 v0:=Tryz.zeroValue0
 t3:=Tryz.underlying3
 a3:=Tryz.isAgg3
 z3:=Tryz.sizeOf3
 v3:=Tryz.zeroValue3
 t4:=Tryz.underlying4
 a4:=Tryz.isAgg4
 z4:=Tryz.sizeOf4
 v4:=Tryz.zeroValue4
 t5:=Tryz.underlying5
 a5:=Tryz.isAgg5
 z5:=Tryz.sizeOf5
 v5:=Tryz.zeroValue5
 t9:=Tryz.underlying9
 a9:=Tryz.isAgg9
 z9:=Tryz.sizeOf9
 v9:=Tryz.zeroValue9
 t21:=Tryz.underlying21
 a21:=Tryz.isAgg21
 z21:=Tryz.sizeOf21
 v21:=Tryz.zeroValue21
 t31:=Tryz.underlying109
 a31:=Tryz.isAgg109
 z31:=Tryz.sizeOf109
 v31:=Tryz.zeroValue109
 t40:=Tryz.underlying147
 a40:=Tryz.isAgg147
 z40:=Tryz.sizeOf147
 v40:=Tryz.zeroValue147
 t46:=Tryz.underlying164
 a46:=Tryz.isAgg164
 z46:=Tryz.sizeOf164
 v46:=Tryz.zeroValue164
 t49:=Tryz.underlying179
 a49:=Tryz.isAgg179
 z49:=Tryz.sizeOf179
 v49:=Tryz.zeroValue179
 t51:=Tryz.underlying168
 a51:=Tryz.isAgg168
 z51:=Tryz.sizeOf168
 v51:=Tryz.zeroValue168
 t119:=Tryz.underlying145
 a119:=Tryz.isAgg145
 z119:=Tryz.sizeOf145
 t141:=Tryz.underlying170
 a141:=Tryz.isAgg170
 z141:=Tryz.sizeOf170
 v141:=Tryz.zeroValue170
 t152:=Tryz.underlying165
 a152:=Tryz.isAgg165
 z152:=Tryz.sizeOf165
 v152:=Tryz.zeroValue165
 t154:=Tryz.underlying167
 a154:=Tryz.isAgg167
 z154:=Tryz.sizeOf167
 v154:=Tryz.zeroValue167
 t193:=Tryz.underlying175
 a193:=Tryz.isAgg175
 z193:=Tryz.sizeOf175
 v193:=Tryz.zeroValue175
 t194:=Tryz.underlying176
 a194:=Tryz.isAgg176
 z194:=Tryz.sizeOf176
 v194:=Tryz.zeroValue176
 t196:=Tryz.underlying178
 a196:=Tryz.isAgg178
 z196:=Tryz.sizeOf178
 v196:=Tryz.zeroValue178
 t198:=Tryz.underlying181
 a198:=Tryz.isAgg181
 z198:=Tryz.sizeOf181
 v198:=Tryz.zeroValue181
 t201:=Tryz.underlying184
 a201:=Tryz.isAgg184
 z201:=Tryz.sizeOf184
 v201:=Tryz.zeroValue184
 t226:=Tryz.underlying193
 a226:=Tryz.isAgg193
 z226:=Tryz.sizeOf193
 v226:=Tryz.zeroValue193
 t227:=Tryz.underlying194
 a227:=Tryz.isAgg194
 z227:=Tryz.sizeOf194
 v227:=Tryz.zeroValue194
 g0:=by kernel_rfl
 g6:=by kernel_rfl}
def Tryz.laysSlM6_f169_ren:Go.Shelf.Ren:=⟨fun | 6=>169 | 8=>181 | 9=>180 | 19=>197 | 20=>198 | 21=>188 | 22=>189 | 23=>190 | 24=>191 | 25=>192 | 26=>193 | 27=>194 | 28=>195 | 29=>196 | 36=>202 | 31=>203 | 32=>204 | 37=>205 | 38=>206 | 39=>207 | 41=>210|n=>n,fun | 27=>109 | 29=>9 | 3=>3 | 32=>164 | 26=>109 | 0=>0 | 44=>168 | 46=>127 | 4=>4 | 36=>216 | 35=>215 | 41=>220 | 5=>5 | 9=>9 | 53=>225 | 57=>229 | 63=>231 | 64=>232|n=>n,fun|n=>n⟩
def Tryz.cloneM_ren:Go.Shelf.Ren:=⟨fun | 5=>103 | 7=>127|n=>n,fun | 23=>96 | 25=>9 | 3=>3 | 4=>4 | 20=>20|n=>n,fun|n=>n⟩
theorem Tryz.cloneM:Go.Proofs.SlLaysW.n5 Tryz.prog Tryz.cloneM_ren:={
 mixed:=by kernel_rfl
 f5:=⟨Tryz.f103.name,by decide,Tryz.func103.trans (congrArg some (by kernel_rfl))⟩
 f7:=Tryz.func127.trans (congrArg some (by kernel_rfl))
 t4:=Tryz.underlying4
 a4:=Tryz.isAgg4
 z4:=Tryz.sizeOf4
 v4:=Tryz.zeroValue4
 t20:=Tryz.underlying20
 a20:=Tryz.isAgg20
 z20:=Tryz.sizeOf20
 v20:=Tryz.zeroValue20
 t23:=Tryz.underlying96
 a23:=Tryz.isAgg96
 z23:=Tryz.sizeOf96
 v23:=Tryz.zeroValue96}
def Tryz.keys162_ren:Go.Shelf.Ren:=⟨fun | 7=>162 | 10=>170|n=>n,fun | 23=>96 | 26=>9 | 3=>3 | 28=>189 | 0=>0 | 27=>188 | 33=>75 | 4=>4|n=>n,fun|n=>n⟩
theorem Tryz.keys162:Go.Proofs.SlLaysZ.n7 Tryz.prog Tryz.keys162_ren:={
 mixed:=by kernel_rfl
 f7:=⟨Tryz.f162.name,by decide,Tryz.func162.trans (congrArg some (by kernel_rfl))⟩
 f10:=⟨Tryz.f170.name,by decide,Tryz.func170.trans (congrArg some (by kernel_rfl))⟩
 t0:=Tryz.underlying0
 a0:=Tryz.isAgg0
 z0:=Tryz.sizeOf0
 v0:=Tryz.zeroValue0
 t4:=Tryz.underlying4
 a4:=Tryz.isAgg4
 z4:=Tryz.sizeOf4
 v4:=Tryz.zeroValue4
 t23:=Tryz.underlying96
 a23:=Tryz.isAgg96
 z23:=Tryz.sizeOf96
 v23:=Tryz.zeroValue96
 t26:=Tryz.underlying9
 a26:=Tryz.isAgg9
 z26:=Tryz.sizeOf9
 v26:=Tryz.zeroValue9
 t27:=Tryz.underlying188
 a27:=Tryz.isAgg188
 z27:=Tryz.sizeOf188
 v27:=Tryz.zeroValue188
 t28:=Tryz.underlying189
 a28:=Tryz.isAgg189
 z28:=Tryz.sizeOf189
 v28:=Tryz.zeroValue189
 t33:=Tryz.underlying75
 a33:=Tryz.isAgg75
 z33:=Tryz.sizeOf75
 v33:=Tryz.zeroValue75}
def Tryz.sorted161_ren:Go.Shelf.Ren:=⟨fun | 6=>161 | 8=>168 | 9=>169 | 11=>179 | 13=>181 | 12=>180 | 23=>197 | 24=>198 | 14=>188 | 15=>189 | 16=>190 | 17=>191 | 18=>192 | 19=>193 | 20=>194 | 21=>195 | 22=>196 | 25=>202 | 26=>203 | 27=>204 | 28=>205 | 29=>206 | 30=>207 | 31=>210|n=>n,fun | 26=>9 | 28=>189 | 24=>109 | 0=>0 | 3=>3 | 37=>164 | 48=>168 | 50=>127 | 4=>4 | 40=>216 | 39=>215 | 45=>220 | 5=>5 | 9=>9 | 51=>225 | 55=>229 | 57=>231 | 58=>232 | 33=>75|n=>n,fun|n=>n⟩
theorem Tryz.sorted161:Go.Proofs.SlLaysZ.n6 Tryz.prog Tryz.sorted161_ren:={
 mixed:=by kernel_rfl
 f6:=⟨Tryz.f161.name,by decide,Tryz.func161.trans (congrArg some (by kernel_rfl))⟩
 f8:=⟨Tryz.f168.name,by decide,Tryz.func168.trans (congrArg some (by kernel_rfl))⟩
 f11:=⟨Tryz.f179.name,by decide,Tryz.func179.trans (congrArg some (by kernel_rfl))⟩
 t0:=Tryz.underlying0
 a0:=Tryz.isAgg0
 z0:=Tryz.sizeOf0
 v0:=Tryz.zeroValue0
 t24:=Tryz.underlying109
 a24:=Tryz.isAgg109
 z24:=Tryz.sizeOf109
 v24:=Tryz.zeroValue109
 t26:=Tryz.underlying9
 a26:=Tryz.isAgg9
 z26:=Tryz.sizeOf9
 v26:=Tryz.zeroValue9
 t28:=Tryz.underlying189
 a28:=Tryz.isAgg189
 z28:=Tryz.sizeOf189
 v28:=Tryz.zeroValue189
 i26:=by kernel_rfl}
def Tryz.sort169_ren:Go.Shelf.Ren:=⟨fun | 6=>169 | 8=>181 | 9=>180 | 19=>197 | 20=>198 | 21=>188 | 22=>189 | 23=>190 | 24=>191 | 25=>192 | 26=>193 | 27=>194 | 28=>195 | 29=>196 | 36=>202 | 31=>203 | 32=>204 | 37=>205 | 38=>206 | 39=>207 | 41=>210|n=>n,fun | 27=>109 | 29=>9 | 3=>3 | 32=>164 | 26=>109 | 0=>0 | 44=>168 | 46=>127 | 4=>4 | 36=>216 | 35=>215 | 41=>220 | 5=>5 | 9=>9 | 53=>225 | 57=>229 | 63=>231 | 64=>232|n=>n,fun|n=>n⟩
theorem Tryz.sort169:Go.Proofs.SlLaysM.n6 Tryz.prog Tryz.sort169_ren:={
 mixed:=by kernel_rfl
 f6:=⟨Tryz.f169.name,by decide,Tryz.func169.trans (congrArg some (by kernel_rfl))⟩
 f8:=Tryz.func181.trans (congrArg some (by kernel_rfl))
 f9:=⟨Tryz.f180.name,by decide,Tryz.func180.trans (congrArg some (by kernel_rfl))⟩
 f19:=Tryz.func197.trans (congrArg some (by kernel_rfl))
 f20:=Tryz.func198.trans (congrArg some (by kernel_rfl))
 f21:=⟨Tryz.f188.name,by decide,Tryz.func188.trans (congrArg some (by kernel_rfl))⟩
 f22:=⟨Tryz.f189.name,by decide,Tryz.func189.trans (congrArg some (by kernel_rfl))⟩
 f23:=⟨Tryz.f190.name,by decide,Tryz.func190.trans (congrArg some (by kernel_rfl))⟩
 f24:=⟨Tryz.f191.name,by decide,Tryz.func191.trans (congrArg some (by kernel_rfl))⟩
 f25:=⟨Tryz.f192.name,by decide,Tryz.func192.trans (congrArg some (by kernel_rfl))⟩
 f26:=⟨Tryz.f193.name,by decide,Tryz.func193.trans (congrArg some (by kernel_rfl))⟩
 f27:=⟨Tryz.f194.name,by decide,Tryz.func194.trans (congrArg some (by kernel_rfl))⟩
 f28:=⟨Tryz.f195.name,by decide,Tryz.func195.trans (congrArg some (by kernel_rfl))⟩
 f29:=⟨Tryz.f196.name,by decide,Tryz.func196.trans (congrArg some (by kernel_rfl))⟩
 f31:=Tryz.func203.trans (congrArg some (by kernel_rfl))
 f32:=Tryz.func204.trans (congrArg some (by kernel_rfl))
 f36:=⟨Tryz.f202.name,by decide,Tryz.func202.trans (congrArg some (by kernel_rfl))⟩
 f37:=⟨Tryz.f205.name,by decide,Tryz.func205.trans (congrArg some (by kernel_rfl))⟩
 f38:=⟨Tryz.f206.name,by decide,Tryz.func206.trans (congrArg some (by kernel_rfl))⟩
 f39:=⟨Tryz.f207.name,by decide,Tryz.func207.trans (congrArg some (by kernel_rfl))⟩
 f41:=⟨Tryz.f210.name,by decide,Tryz.func210.trans (congrArg some (by kernel_rfl))⟩
 t0:=Tryz.underlying0
 a0:=Tryz.isAgg0
 z0:=Tryz.sizeOf0
 v0:=Tryz.zeroValue0
 t3:=Tryz.underlying3
 a3:=Tryz.isAgg3
 z3:=Tryz.sizeOf3
 v3:=Tryz.zeroValue3
 t4:=Tryz.underlying4
 a4:=Tryz.isAgg4
 z4:=Tryz.sizeOf4
 v4:=Tryz.zeroValue4
 t5:=Tryz.underlying5
 a5:=Tryz.isAgg5
 z5:=Tryz.sizeOf5
 v5:=Tryz.zeroValue5
 t9:=Tryz.underlying9
 a9:=Tryz.isAgg9
 z9:=Tryz.sizeOf9
 v9:=Tryz.zeroValue9
 t26:=Tryz.underlying109
 a26:=Tryz.isAgg109
 z26:=Tryz.sizeOf109
 v26:=Tryz.zeroValue109
 t27:=Tryz.underlying109
 a27:=Tryz.isAgg109
 z27:=Tryz.sizeOf109
 v27:=Tryz.zeroValue109
 t29:=Tryz.underlying9
 a29:=Tryz.isAgg9
 z29:=Tryz.sizeOf9
 v29:=Tryz.zeroValue9
 t32:=Tryz.underlying164
 a32:=Tryz.isAgg164
 z32:=Tryz.sizeOf164
 v32:=Tryz.zeroValue164
 t35:=Tryz.underlying215
 a35:=Tryz.isAgg215
 z35:=Tryz.sizeOf215
 v35:=Tryz.zeroValue215
 t36:=Tryz.underlying216
 a36:=Tryz.isAgg216
 z36:=Tryz.sizeOf216
 v36:=Tryz.zeroValue216
 t41:=Tryz.underlying220
 a41:=Tryz.isAgg220
 z41:=Tryz.sizeOf220
 v41:=Tryz.zeroValue220
 t44:=Tryz.underlying168
 a44:=Tryz.isAgg168
 z44:=Tryz.sizeOf168
 v44:=Tryz.zeroValue168
 t46:=Tryz.underlying127
 a46:=Tryz.isAgg127
 z46:=Tryz.sizeOf127
 v46:=Tryz.zeroValue127
 t53:=Tryz.underlying225
 a53:=Tryz.isAgg225
 z53:=Tryz.sizeOf225
 v53:=Tryz.zeroValue225
 t57:=Tryz.underlying229
 a57:=Tryz.isAgg229
 z57:=Tryz.sizeOf229
 v57:=Tryz.zeroValue229
 t63:=Tryz.underlying231
 a63:=Tryz.isAgg231
 z63:=Tryz.sizeOf231
 v63:=Tryz.zeroValue231
 t64:=Tryz.underlying232
 a64:=Tryz.isAgg232
 z64:=Tryz.sizeOf232
 v64:=Tryz.zeroValue232}
end Go.Proofs
