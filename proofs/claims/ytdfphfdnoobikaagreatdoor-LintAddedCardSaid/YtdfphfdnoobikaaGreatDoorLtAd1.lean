/-
  The builtins by name and arity:the program's table,and what the reference says of them.
-/
import Derived.Test.YtdfphfdnoobikaaGreatDoorLtShown
import Derived.Test.YtdfphfdnoobikaaGreatDoorLtTab4
import Derived.Test.YtdfphfdnoobikaaGreatDoorLtRel
import Derived.Test.YtdfphfdnoobikaaGreatDoorLtFields
namespace Go.Proofs.YtdfphfdnoobikaaGreatDoor
namespace Ev
section
noncomputable section
def zL:List (Nat×Nat×Nat):=[
 (10,540220350687760336515945,1),(7,30803318101996393,1),(10,521256955629630297961321,1),(8,7308339945081369449,1),
 (6,110404019647337,1),(6,112585896588137,1),(7,32777993925391209,1),(7,32497618292536169,1),
 (8,8315180351699776361,1),(6,121450507760489,1),(6,121450507760489,2),(7,32772479204551781,2),
 (4,1702521203,1),(2,25704,1),(2,27764,1),(6,114849160783212,1),
 (8,7312272889233041762,1),(9,1871941859643407759714,1),(3,7561825,1),(3,7235949,2),
 (3,7889261,2),(4,1718379891,0),(4,1701080942,0),(4,1701080942,1),
 (10,549830962470273420649843,3),(7,32777993925390196,1),(8,7308339945081368436,1),(8,8315180351699775348,1),
 (10,544943659528996443353702,1),(7,28555907813500274,1),(6,125779768599917,2),(4,1953656691,1),
 (4,1801675120,1),(6,118074580692597,1),(5,491496043109,1),(4,1953069157,1),
 (5,512970877044,1),(5,435727982962,2),(5,474449277043,1),(5,474449277043,3),
 (10,507329952066759609643123,1),(10,507329952066759609643123,3),(13,9066504095997030813336250445939,1),(13,9066504095997030813336250445939,3),
 (7,32777976897693042,4),(4,1802398060,1),(6,118121959288437,1),(7,32210693120749421,1),
 (9,2110959984361434080612,1),(4,1953069157,2),(4,1885434484,1),(8,8751735916104086128,1),
 (8,8243122732010005874,2),(10,540221291365007744986741,1),(7,32485506753587319,1),(10,540221287697002577945971,3),
 (6,119182715674979,1),(8,7378429318565421421,0),(5,461229747299,0),(3,7954803,1),
 (5,495622319982,0),(5,448345170295,1),(7,29382749080481397,1),(7,33607046949658996,1),
 (7,32780222795506036,3),(7,32762591954755956,2),(7,30510779256168820,2),(8,8392569430326010228,2),
 (8,7312272889231860084,1),(8,8101820030085390708,1),(5,521510350945,2),(5,521510350945,3)]
def inW(n c a:Nat):Bool:=zL.any λe=>Nat.beq e.1 n&&(Nat.beq e.2.1 c&&Nat.beq e.2.2 a)
def my(n c t:Nat):Nat:=Nat.add (Nat.add c (Nat.shiftLeft 47 (Nat.mul 8 n))) (Nat.shiftLeft t (Nat.mul 8 (Nat.add n 1)))
def EP(x:V)(e:Nat×Nat×Nat):Bool:=match x with
 |.str n c=>Nat.beq n (e.1+2)&&Nat.beq c (my e.1 e.2.1 (48+e.2.2))
 |_=>false
def tO:List (V×V)->List (Nat×Nat×Nat)->Bool
 |[],[]=>true
 |p ::es,e ::l=>EP p.1 e&&tO es l
 |_,_=>false
def Ar:List (V×V):=match EL with
 |some (.map id,h)=>match h.blk id with
  |some (.map es _)=>es
  |_=>[]
 |_=>[]
def wOk(e:Nat×Nat×Nat):Bool:=Nat.blt e.2.1 (256 ^ e.1)&&Nat.blt e.2.2 10
end
theorem Ec:tO Ar zL=true:=by kernel_rfl
theorem yx:zL.all wOk=true:=by kernel_rfl
noncomputable def txN(a:Nat):Nat:=if a<10 then 1 else 2
noncomputable def txC(a:Nat):Nat:=if a<10 then 48+a else 49+256*(48+(a-10))
theorem Dr(a n:Nat):Nat.shiftLeft a (Nat.mul 8 n)=a*256 ^ n:=by
 show a <<< (8*n)=_;rw [Nat.shiftLeft_eq,Nat.pow_mul]
theorem DU{n c a m d b:Nat}(hc:c<256 ^ n)(hd:d<256 ^ m)(h1:n+1+txN a=m+2)(h2:my n c (txC a)=my m d (48+b)):n=m/\c=d/\a=b:=by
 unfold my at h2;rw [Dr,Dr,Dr,Dr]at h2;have h2:c+47*256 ^ n+txC a*256 ^ (n+1)=d+47*256 ^ m+(48+b)*256 ^ (m+1):=h2;unfold txN at h1;unfold txC at h2
 by_cases q:a<10
 ·rw [if_pos q]at h1 h2
  obtain rfl:n=m:=by omega
  rw [Nat.pow_succ]at h2;have hk:0<256 ^ n:=Nat.pow_pos (by decide);generalize 256 ^ n=K at*;have e1:(48+a)*(K*256)=((48+a)*256)*K:=by rw [Nat.mul_comm K 256,Nat.mul_assoc]
  have e2:(48+b)*(K*256)=((48+b)*256)*K:=by rw [Nat.mul_comm K 256,Nat.mul_assoc]
  rw [e1,e2,Nat.add_assoc,Nat.add_assoc,<-Nat.add_mul,<-Nat.add_mul]at h2;have k1:=congrArg (· / K) h2;have k2:=congrArg (· % K) h2;simp only [Nat.add_mul_div_right _ _ hk,Nat.add_mul_mod_self_right,Nat.div_eq_of_lt hc,Nat.div_eq_of_lt hd,Nat.mod_eq_of_lt hc,Nat.mod_eq_of_lt hd]at k1 k2;exact⟨rfl,k2,by omega⟩
 ·rw [if_neg q]at h1 h2
  obtain rfl:m=n+1:=by omega
  exfalso;have hk:0<256 ^ (n+1):=Nat.pow_pos (by decide);have hs:256 ^ (n+1+1)=256*256 ^ (n+1):=by rw [Nat.pow_succ,Nat.mul_comm]
  have hs0:256 ^ (n+1)=256*256 ^ n:=by rw [Nat.pow_succ,Nat.mul_comm]
  rw [hs]at h2;have l1:c+47*256 ^ n<256 ^ (n+1):=by omega
  generalize c+47*256 ^ n=L at*;generalize 256 ^ (n+1)=K at*;have e2:(48+b)*(256*K)=((48+b)*256)*K:=by rw [Nat.mul_assoc]
  rw [e2,Nat.add_assoc,<-Nat.add_mul]at h2;have k1:=congrArg (· / K) h2;simp only [Nat.add_mul_div_right _ _ hk,Nat.div_eq_of_lt l1,Nat.div_eq_of_lt hd]at k1;omega
theorem sJ{h:H}{n c a:Nat}(hc:c<256 ^ n)(ha:a<=16):∀(es:List (V×V)) (l:List (Nat×Nat×Nat)),tO es l=true->l.all wOk=true->(l.any λe=>Nat.beq e.1 n&&(Nat.beq e.2.1 c&&Nat.beq e.2.2 a))=false->dY h (.one .s) (.str (n+1+txN a) (my n c (txC a))) es=some none
 |[],[],_,_,_=>rfl
 |[],_ ::_,k,_,_=>by cases k
 |_ ::_,[],k,_,_=>by cases k
 |(x,y) ::es,e ::l,k,w,q=>by
  rw [List.all_cons,Bool.and_eq_true]at w;rw [List.any_cons,Bool.or_eq_false_iff]at q;obtain⟨k1,k2⟩:=Bool.and_eq_true_iff.1 (show(EP x e&&tO es l)=true from k);have ih:=sJ (h:=h) hc ha es l k2 w.2 q.2;cases x<;>first|(cases k1;done)|skip
  rename_i m d
  obtain⟨k3,k4⟩:=Bool.and_eq_true_iff.1 k1;obtain rfl:=Nat.eq_of_beq_eq_true k3;obtain rfl:=Nat.eq_of_beq_eq_true k4;obtain⟨w1,w2⟩:=Bool.and_eq_true_iff.1 w.1;have w1:=bL w1;have w2:=bL w2;show ob (some (cV (n+1+txN a) (my n c (txC a)) (e.1+2) (my e.1 e.2.1 (48+e.2.2)))) (λb'=>Bool.rec (motive:=λ_=>Option (Option V)) (dY h (.one .s) (.str (n+1+txN a) (my n c (txC a))) es) (some (some y)) b')=_;have ne:cV (n+1+txN a) (my n c (txC a)) (e.1+2) (my e.1 e.2.1 (48+e.2.2))=false:=by
   cases z:cV (n+1+txN a) (my n c (txC a)) (e.1+2) (my e.1 e.2.1 (48+e.2.2))with
   |false=>rfl
   |true=>
    exfalso;have z:(Nat.beq (n+1+txN a) (e.1+2)&&Nat.beq (my n c (txC a)) (my e.1 e.2.1 (48+e.2.2)))=true:=by
     unfold cV at z;cases y:Nat.beq (n+1+txN a) (e.1+2)with
     |false=>rw [y]at z;cases z
     |true=>rw [y]at z;exact z
    obtain⟨z1,z2⟩:=Bool.and_eq_true_iff.1 z;obtain⟨r1,r2,r3⟩:=DU hc w1 (Nat.eq_of_beq_eq_true z1) (Nat.eq_of_beq_eq_true z2);have q1:=q.1;rw [<-r1,<-r2,<-r3,Nat.beq_refl,Nat.beq_refl,Nat.beq_refl]at q1;cases q1
  rw [ne];exact ih
def sX(p:Nat->Bool):Nat->Bool
 |0=>false
 |k+1=>sX p k||p k
theorem wn{p:Nat->Bool}{i:Nat}(h:p i=true):∀{k},i<k->sX p k=true
 |0,q=>by omega
 |k+1,q=>by
  unfold sX
  by_cases e:i=k
  ·subst e
   rw [h,Bool.or_true]
  ·rw [wn h (k:=k) (by omega),Bool.true_or]
noncomputable section
def A9(c m i:Nat):Nat:=Nat.mod (Nat.shiftRight c (Nat.mul 8 i)) (Nat.shiftLeft 1 (Nat.mul 8 m))
def Cf(n c m d:Nat):Bool:=sX (λi=>Nat.beq (A9 c m i) d) (n+1-m)
def rJ:Nat->Nat×Nat
 |1=>(213,113402427610176461432293832947784893512510666039736985089845986308516977993830974357469547347216937417142484162772369790326056357419290927491939736322017104315635344925085980535582705064634880178229519211240581850548020015560001000999081050645100672996740309739726876966658428405855550252172097395636901513725235814832971941035749231194695083117865015057263602077804465893373968591162379344121311967905983243671486803619614167559166975307370012461037754909587979447430597343130601532372660324430991825653281810720)
 |2=>(132,97104164589524077652438471327109077367184534134559372612682870737934645994400098881638266412526480462108307957926987668841255814339737800130990722651986041782549518350694545861114155161125956959307963892852535389207831928687539712319427256637913967006252079117116382999450303301117394892845044307034404380528766972704)
 |3=>(328,1005121056834894543422997781993098398926057731796322835955660311566788937476491719323450083467278686561480116351918469730048134798657933291705258475491400379508536976953713963191809959642329377624655489394069788099527738605251886650857491454704985706056656872495456720592866571205699034003974117329312595482756326180551085729642316886881362191084781618996367170758690190457835353956124286582748669950126718822187443457119475819211568291122106133779907693275175677822699599574395037665513438221035494517337289823233297200834280830833729672029002093334382054135588176213392044003766499729382241934117791070216700468546643036740353970117124238047036843407984644400499077628858335883255226530865115146499406969526836848025085252347421169655840720027571199483022658782744364793673286289825231648)
 |4=>(17,10957072869970414450092540666349991518496)
 |_=>(1,32)
def ux(n c a:Nat):Nat:=Nat.add (Nat.add (Nat.add (Nat.add 32 (Nat.shiftLeft c (Nat.mul 8 1))) (Nat.shiftLeft 47 (Nat.mul 8 (Nat.add 1 n)))) (Nat.shiftLeft (48+a) (Nat.mul 8 (Nat.add (Nat.add 1 n) 1)))) (Nat.shiftLeft 32 (Nat.mul 8 (Nat.add (Nat.add (Nat.add 1 n) 1) 1)))
def ul(e:Nat×Nat×Nat)(k:Nat):Bool:=Cf (rJ k).1 (rJ k).2 (1+e.1+1+1+1) (ux e.1 e.2.1 e.2.2)
def EV(e:Nat×Nat×Nat):Bool:=ul e 1||(ul e 2||(ul e 3||ul e 4))
end
theorem CU:zL.all EV=true:=by kernel_rfl
theorem FT:(zL.all λe=>nmC e.1 e.2.1)=true:=by kernel_rfl
end
section
theorem Ef{n c i m:Nat}(h:i+m<=n):POp.run (.slc .str true true false) [.str n c,.int .i64 (Int.ofNat i),.int .i64 (Int.ofNat (i+m))]=some (.str m (A9 c m i)):=by
 show ob (oif (Nat.ble (i+m) n) (some (i+m))) (λh=>ob (oif (Nat.ble i h) (some i)) λl=>some (V.str (Nat.sub h l) (Nat.mod (Nat.shiftRight c (Nat.mul 8 l)) (Nat.shiftLeft 1 (Nat.mul 8 (Nat.sub h l))))))=_;rw [Nat.ble_eq_true_of_le h];show ob (oif (Nat.ble i (i+m)) (some i)) _=_;rw [Nat.ble_eq_true_of_le (Nat.le_add_right i m)];show some (V.str (Nat.sub (i+m) i) (Nat.mod (Nat.shiftRight c (Nat.mul 8 i)) (Nat.shiftLeft 1 (Nat.mul 8 (Nat.sub (i+m) i)))))=_;rw [show Nat.sub (i+m) i=m from Nat.add_sub_cancel_left ..];rfl
theorem qg{m x y:Nat}:cV m x m y=Nat.beq x y:=by
 unfold cV;rw [Nat.beq_refl]
noncomputable section
def fr33(n c m d i:Nat):AL:=[(0,.str n c),(1,.str m d),(4,.bool false),(5,.int .i64 (Int.ofNat i))]
def fr14(w x i:Nat):AL:=[(5,.str w x),(6,.int .i64 (Int.ofNat (i+1)))]
end
theorem f33(n c m d:Nat)(hn:n<1000000000)(hm:m<1000000000):CP 33 [.str n c,.str m d] (.bool (Cf n c m d)):=by
 refine cS Tryz.func33 (by decide) q33.2 rfl (bO (.flat rfl) (bO (.flat rfl) px0)) rfl ?_
 repeat' (first
  |(refine WLg.mk ?_;first
  |refine aa rfl rfl rfl rfl ?_)|apply ac|refine ae rfl ?_|apply ai|apply ah|apply aj|apply bG.norm|fail)
 refine aw (cA (l:=fr33 n c m d 0) KT rfl) ?_;refine ax (n+1-m) (λi x h=>(x=fr33 n c m d i/\sX (λi=>Nat.beq (A9 c m i) d) i=false)/\h=H0) ?_ (i:=0) (Nat.zero_le _) ⟨⟨rfl,rfl⟩,rfl⟩;rintro i _ _ hi ⟨⟨rfl,no⟩,rfl⟩;have hi2:i<9223372036854775807:=by omega
 have e1:POp.run (.bin .add) [.int .i64 (Int.ofNat i),.int .i64 (Int.ofNat m)]=some (.int .i64 (Int.ofNat (i+m))):=by
  show some (V.int .i64 (cT .i64 (Int.add (Int.ofNat i) (Int.ofNat m))))=_;rw [jP (by omega)]
 cases q:ltI (Int.ofNat n) (Int.ofNat (i+m))with
 |true=>
  have hq:=bL q;have q':(!ltI (Int.ofNat n) (Int.ofNat (i+m)))=false:=by rw [q];rfl
  repeat' (first
   |(refine WLg.mk ?_;first
   |refine aa rfl rfl e1 rfl ?_|refine aa rfl rfl rfl rfl ?_)|apply ac|refine ae rfl ?_|apply ai|apply ah|refine ak rfl (λht=>Nx ht (by with_reducible assumption)) (λht=>?_)|apply av|apply ap|apply bG.norm|apply bG.exit|apply OnC.exit|fail)
  exact⟨.inr rfl,_,rfl,.flat rfl,by unfold Cf;rw [show n+1-m=i by omega,no];rfl⟩
 |false=>
  have hq:=ce q;have q':(!ltI (Int.ofNat n) (Int.ofNat (i+m)))=true:=by rw [q];rfl
  have e2:=Ef (c:=c) hq;cases z:cV m (A9 c m i) m d with
  |true=>
   repeat' (first
    |(refine WLg.mk ?_;first
    |refine aa rfl rfl e1 rfl ?_|refine aa rfl rfl e2 rfl ?_|refine aa rfl rfl rfl rfl ?_)|apply ac|refine ae rfl ?_|apply ai|apply ah|apply aj|apply al|refine ak rfl (λht=>?_) (λht=>Nx (by with_reducible assumption) ht)|apply ap|apply bG.norm|apply bG.ret|apply OnC.ret|fail)
   rw [qg]at z;exact⟨.inr rfl,_,rfl,.flat rfl,by unfold Cf;rw [wn (p:=λi=>Nat.beq (A9 c m i) d) (i:=i) z (by omega)];rfl⟩
  |false=>
   repeat' (first
    |(refine WLg.mk ?_;first
    |refine aa rfl rfl e1 rfl ?_|refine aa rfl rfl e2 rfl ?_|refine aa rfl rfl rfl rfl ?_)|apply ac|refine ae rfl ?_|apply ai|apply ah|apply aj|apply al|refine ak rfl (λht=>?_) (λht=>Nx (by with_reducible assumption) ht)|refine ak rfl (λht=>Nx ht (by with_reducible assumption)) (λht=>?_)|apply bG.norm|fail)
   rw [qg]at z;exact .norm ⟨_,_,cA KI rfl,by omega,⟨rfl,by unfold sX;rw [no];exact z⟩,rfl⟩
theorem f34:∀i,i<4->CP 34 [.int .i64 (Int.ofNat (i+1))] (.str (rJ (i+1)).1 (rJ (i+1)).2):=by
 intro i hi;have key:∀z n c,(z=1\/z=2\/z=3\/z=4)->rJ z=(n,c)->CP 34 [.int .i64 (Int.ofNat z)] (.str n c):=by
  intro z n c hz e;refine cS Tryz.func34 (by decide) q34.2 rfl (bO (.flat rfl) px0) rfl ?_;rcases hz with rfl|rfl|rfl|rfl<;>cases e
  all_goals skip
  ·skip
   repeat' (first
    |(refine WLg.mk ?_;first
    |refine aa rfl rfl rfl rfl ?_)|apply ac|refine ae rfl ?_|apply ai|apply ah|apply aj|refine aD rfl ?_|apply ap|apply bG.norm|apply bG.ret|fail)
   all_goals exact⟨.inr rfl,_,rfl,.flat rfl,rfl⟩
  ·skip
   repeat' (first
    |(refine WLg.mk ?_;first
    |refine aa rfl rfl rfl rfl ?_)|apply ac|refine ae rfl ?_|apply ai|apply ah|apply aj|refine aD rfl ?_|refine aB rfl ?_|apply ap|apply bG.norm|apply bG.ret|fail)
   all_goals exact⟨.inr rfl,_,rfl,.flat rfl,rfl⟩
  ·skip
   repeat' (first
    |(refine WLg.mk ?_;first
    |refine aa rfl rfl rfl rfl ?_)|apply ac|refine ae rfl ?_|apply ai|apply ah|apply aj|refine aD rfl ?_|refine aB rfl ?_|apply ap|apply bG.norm|apply bG.ret|fail)
   all_goals exact⟨.inr rfl,_,rfl,.flat rfl,rfl⟩
  ·skip
   repeat' (first
    |(refine WLg.mk ?_;first
    |refine aa rfl rfl rfl rfl ?_)|apply ac|refine ae rfl ?_|apply ai|apply ah|apply aj|refine aD rfl ?_|refine aB rfl ?_|apply ap|apply bG.norm|apply bG.ret|fail)
   all_goals exact⟨.inr rfl,_,rfl,.flat rfl,rfl⟩
 exact key (i+1) _ _ (by omega) rfl
theorem f14(n c a:Nat)(hn:n<1000)(ha:a<1000):∃r,CP 14 [.str n c,.int .i64 (Int.ofNat a)] (.int .i64 r)/\(r=0->nmC n c=true->a<=9->∀k,k<4->ul (n,c,a) (k+1)=false):=by
 obtain⟨v,k,r,rfl,ok⟩:∃v,CP 14 [.str n c,.int .i64 (Int.ofNat a)] v/\∃r,v= .int .i64 r/\(r=0->nmC n c=true->a<=9->∀k,k<4->ul (n,c,a) (k+1)=false):=by
  refine dz Tryz.func14 (by decide) q14.2 rfl (bO (.flat rfl) (bO (.flat rfl) px0)) rfl ?_;have c32:=f32 n c (by omega);have e1:POp.run (.bin .add) [.int .i64 48,.int .i64 (Int.ofNat a)]=some (.int .i64 (Int.ofNat (48+a))):=by
   show some (V.int .i64 (cT .i64 (Int.add (Int.ofNat 48) (Int.ofNat a))))=_;rw [jP (by omega)]
  have l9:ltI 9 (Int.ofNat a)=false->a<=9:=λq=>ce q;have e2:ltI 9 (Int.ofNat a)=false->POp.run (.toInt .u8) [.int .i64 (Int.ofNat (48+a))]=some (.int .u8 (Int.ofNat (48+a))):=λq=>by
   have:=l9 q;show some (V.int .u8 (cT .u8 (Int.ofNat (48+a))))=_;rw [lA (ltb (show 48+a<256 by omega))]
  have e3:ltI 9 (Int.ofNat a)=false->ROp.run .b2s [.sl 1 0 1 1 true 1] ⟨H0.t.put 1 (some (.cells 1 (cq [.int .u8 (Int.ofNat (48+a))] 0 .e) none false)),2⟩=some (.str 1 (48+a)):=λq=>by
   have:=l9 q;show ob (some (Nat.add (Nat.mod (48+a) 256) (Nat.mul 256 0))) (λc=>some (V.str 1 c))=_;rw [show Nat.mod (48+a) 256=48+a from Nat.mod_eq_of_lt (by omega)];rfl
  have k1:=@kC 1 32 n c (ltb (by show 1+n<_;omega));have k2:=@kC (1+n) (Nat.add 32 (Nat.shiftLeft c (Nat.mul 8 1))) 1 47 (ltb (by show 1+n+1<_;omega));have k3:=@kC (1+n+1) (Nat.add (Nat.add 32 (Nat.shiftLeft c (Nat.mul 8 1))) (Nat.shiftLeft 47 (Nat.mul 8 (Nat.add 1 n)))) 1 (48+a) (ltb (by show 1+n+1+1<_;omega));have k4:=@kC (1+n+1+1) (Nat.add (Nat.add (Nat.add 32 (Nat.shiftLeft c (Nat.mul 8 1))) (Nat.shiftLeft 47 (Nat.mul 8 (Nat.add 1 n)))) (Nat.shiftLeft (48+a) (Nat.mul 8 (Nat.add (Nat.add 1 n) 1)))) 1 32 (ltb (by show 1+n+1+1+1<_;omega))
  repeat' (first
   |(refine WLg.mk ?_;first
   |refine aa rfl rfl e1 rfl ?_|refine aa rfl rfl (e2 Hy) rfl ?_|refine aa rfl rfl k1 rfl ?_|refine aa rfl rfl k2 rfl ?_|refine aa rfl rfl k3 rfl ?_|refine aa rfl rfl k4 rfl ?_|refine aa rfl rfl rfl rfl ?_|refine ab rfl rfl (e3 Hy) rfl ?_|refine aF (t:=H0.t) (k:=1) rfl rfl rfl rfl rfl ?_|refine aq rfl rfl rfl (c32) rfl ?_)|apply ac|refine ae rfl ?_|refine ay rfl rfl ?_|refine az rfl (λht=>?_) (λht=>?_)|apply ai|apply ah|apply aj|apply al|refine aD rfl ?_|refine ak rfl (λht=>?_) (λht=>?_)|apply ap|apply bG.norm|apply bG.ret|fail)
  ·exact⟨.inr rfl,_,rfl,.flat rfl,0,rfl,λ_ q=>by simp [q]at*⟩
  ·exact⟨.inr rfl,_,rfl,.flat rfl,0,rfl,λ_ _ q=>by have:=bL (show Nat.blt 9 a=true from by assumption);omega⟩
  have ha9:=l9 Hy;refine aw (cA (l:=fr14 (1+n+1+1+1) (ux n c a) 0) KT rfl) ?_;refine ax 4 (λi x h=>(x=fr14 (1+n+1+1+1) (ux n c a) i/\∀k,k<i->ul (n,c,a) (k+1)=false)/\h=H0) ?_ (i:=0) (Nat.zero_le _) ⟨⟨rfl,λk q=>by omega⟩,rfl⟩;rintro i _ _ hi ⟨⟨rfl,no⟩,rfl⟩;have hi2:i+1<9223372036854775807:=by omega
  cases q:ltI 4 (Int.ofNat (i+1))with
  |true=>
   have hq:4<i+1:=bL q;have q':(!ltI 4 (Int.ofNat (i+1)))=false:=by rw [q];rfl
   repeat' (first
    |(refine WLg.mk ?_;first
    |refine aa rfl rfl rfl rfl ?_)|apply ac|refine ae rfl ?_|apply ai|apply ah|refine ak rfl (λht=>Nx ht (by with_reducible assumption)) (λht=>?_)|apply av|apply ap|apply bG.norm|apply bG.exit|apply OnC.exit|fail)
   exact⟨.inr rfl,_,rfl,.flat rfl,0,rfl,λ_ _ _ k hk=>no k (by omega)⟩
  |false=>
   have hq:i+1<=4:=ce q;have q':(!ltI 4 (Int.ofNat (i+1)))=true:=by rw [q];rfl
   have c34:=f34 i (by omega);have hb:(rJ (i+1)).1<1000000000:=by
    rcases (by omega:i=0\/i=1\/i=2\/i=3)with rfl|rfl|rfl|rfl<;>decide
   have c33:=f33 (rJ (i+1)).1 (rJ (i+1)).2 (1+n+1+1+1) (ux n c a) hb (by omega);have e5:Cf (rJ (i+1)).1 (rJ (i+1)).2 (1+n+1+1+1) (ux n c a)=ul (n,c,a) (i+1):=rfl;rw [e5]at c33;cases z:ul (n,c,a) (i+1)with
   |true=>
    repeat' (first
     |(refine WLg.mk ?_;first
     |refine aa rfl rfl rfl rfl ?_|refine aq rfl rfl rfl (c33) rfl ?_|refine aq rfl rfl rfl (c34) rfl ?_)|apply ac|refine ae rfl ?_|apply ai|apply ah|apply aj|apply al|refine ak rfl (λht=>?_) (λht=>Nx (by with_reducible assumption) ht)|apply ap|apply bG.norm|apply bG.ret|apply OnC.ret|fail)
    exact⟨.inr rfl,_,rfl,.flat rfl,_,rfl,λq=>by simp at q;omega⟩
   |false=>
    repeat' (first
     |(refine WLg.mk ?_;first
     |refine aa rfl rfl rfl rfl ?_|refine aq rfl rfl rfl (c33) rfl ?_|refine aq rfl rfl rfl (c34) rfl ?_)|apply ac|refine ae rfl ?_|apply ai|apply ah|apply aj|apply al|refine ak rfl (λht=>?_) (λht=>Nx (by with_reducible assumption) ht)|refine ak rfl (λht=>Nx ht (by with_reducible assumption)) (λht=>?_)|apply bG.norm|fail)
    exact .norm ⟨_,_,cA KI rfl,by omega,⟨rfl,λk hk=>by rcases (by omega:k<i\/k=i)with q|rfl;exact no k q;exact z⟩,rfl⟩
 exact⟨r,k,ok⟩
end
section
noncomputable section
def GI(a:Nat):Option (V×H):=ju BS A6 40 (.fn 67) [.int .i64 (Int.ofNat a)] H0
def EZ(a:Nat):Bool:=match GI a with
 |some (.str n c,_)=>Nat.beq n (txN a)&&Nat.beq c (txC a)
 |_=>false
end
theorem CZ:(List.range 17).all EZ=true:=by kernel_rfl
theorem Di:(A6 67).isSome=true:=by kernel_rfl
theorem f67s(a:Nat)(ha:a<=16):CP 67 [.int .i64 (Int.ofNat a)] (.str (txN a) (txC a)):=by
 have k:=List.all_eq_true.1 CZ a (List.mem_range.2 (by omega));unfold EZ at k
 split at k
 ·rename_i n c h' e
  obtain⟨k1,k2⟩:=Bool.and_eq_true_iff.1 k;obtain⟨cf,hcf⟩:=Option.isSome_iff_exists.1 Di;rw [<-Nat.eq_of_beq_eq_true k1,<-Nat.eq_of_beq_eq_true k2];exact vY yy vb (n:=39) (f:=67) hcf rfl (bO (.flat rfl) px0) (.flat rfl) e
 ·cases k
theorem c66e:∃id h' o,CN 66 [] H0 (.map id) h'/\h'.blk id=some (.map Ar o):=by
 obtain⟨id,h',es,o,e,k1,k2⟩:=jD uU;have he:Ar=es:=by
  unfold Ar;rw [e];show(match h'.blk id with
   |some (.map es _)=>es
   |_=>[])=es
  rw [k1]
 refine⟨id,h',o,pU (mJ λp hp=>?_) e,by rw [he];exact k1⟩;rcases List.mem_cons.1 hp with rfl|hp
 ·exact⟨_,Tryz.func66,by decide,q66.2⟩
 ·rw [List.mem_singleton.1 hp]
  exact⟨_,Tryz.func97,by decide,q97.2⟩
theorem f51z(n c a:Nat)(hn:n<1000)(hc:c<256 ^ n)(ha:a<=16)(no:inW n c a=false):CP 51 [.str n c,.int .i64 (Int.ofNat a)] (.int .i64 0):=by
 have c67:=f67s a ha;obtain⟨id,h',o,c66,k1⟩:=c66e;have nf:=sJ (h:=h') hc ha Ar zL Ec yx no;generalize Ar=es at k1 nf;have ht:txN a<=2:=by unfold txN;split<;>omega
 have e1:POp.run (.bin .lss) [.int .i64 (Int.ofNat a),.int .i64 0]=some (.bool false):=rfl;refine cS Tryz.func51 (by decide) q51.2 rfl (bO (.flat rfl) (bO (.flat rfl) px0)) rfl ?_;have c65:=f65 n c (bT [47]);have e2:=@kC n c 1 47 (ltb (by show n+1<_;omega));have e3:=@kC (Nat.add n 1) (Nat.add c (Nat.shiftLeft 47 (Nat.mul 8 n))) (txN a) (txC a) (ltb (by show n+1+txN a<_;omega));have hi:ROp.run (.lookup (.one .s) false (.int .i64 0)) [.map id,.str (Nat.add (Nat.add n 1) (txN a)) (Nat.add (Nat.add c (Nat.shiftLeft 47 (Nat.mul 8 n))) (Nat.shiftLeft (txC a) (Nat.mul 8 (Nat.add n 1))))] h'=some (.int .i64 0):=by
  show oif true (ob (ob (h'.blk id) _) _)=_;rw [k1];show ob (dY h' (.one .s) (.str (n+1+txN a) (my n c (txC a))) es) _=_;rw [nf];rfl
 repeat' (first
  |(refine WLg.mk ?_;first
  |refine aa rfl rfl e1 rfl ?_|refine aa rfl rfl e2 rfl ?_|refine aa rfl rfl e3 rfl ?_|refine aa rfl rfl rfl rfl ?_|refine ab rfl rfl hi rfl ?_|refine aq rfl rfl rfl (c65) rfl ?_|refine aq rfl rfl rfl (c67) rfl ?_|refine au rfl rfl rfl (c66) (λ_ _ q=>q) .none rfl ?_)|apply ac|refine ae rfl ?_|apply ai|apply ah|apply al|refine ak rfl (λht=>?_) (λht=>?_)|apply ap|apply bG.norm|apply bG.ret|fail)
 all_goals exact⟨.inr rfl,_,rfl,.flat rfl,rfl⟩
theorem Ej(b:ByteArray)(a:Nat)(hb:b.size<=100)(ha:a<=16):∃r,CP 14 [sV b,.int .i64 (Int.ofNat a)] (.int .i64 r)/\(r=0->mC b a=0):=by
 obtain⟨r,k,ok⟩:=f14 b.size (bT b.data.toList) a (by omega) (by omega);refine⟨r,k,λh=>?_⟩;cases q:inW b.size (bT b.data.toList) a with
 |true=>
  exfalso;obtain⟨e,he,q⟩:=List.any_eq_true.1 q;obtain⟨q1,q2⟩:=Bool.and_eq_true_iff.1 q;obtain⟨q2,q3⟩:=Bool.and_eq_true_iff.1 q2;have q1:=Nat.eq_of_beq_eq_true q1;have q2:=Nat.eq_of_beq_eq_true q2;have q3:=Nat.eq_of_beq_eq_true q3;have w:=List.all_eq_true.1 yx e he;have w2:=bL (Bool.and_eq_true_iff.1 w).2;have t:nmC e.1 e.2.1=true:=List.all_eq_true.1 FT e he;have z:=List.all_eq_true.1 CU e he;rw [<-q1,<-q2,<-q3]at ok;have no:=ok h t (by omega);unfold EV at z;rw [no 0 (by omega),no 1 (by omega),no 2 (by omega),no 3 (by omega)]at z;cases z
 |false=>
  refine DA (f51z b.size (bT b.data.toList) a (by omega) ?_ ha q);have:=qH b.data.toList
  rwa [Array.length_toList]at this
end
section
noncomputable section
def gF:Ex:= .mk 4 0 ⟨#[]⟩ ⟨#[]⟩ [] [] [] [] [] [] false
def vl:Ex:= .mk 6 0 ⟨#[]⟩ ⟨#[]⟩ [] [] [] [] [] [] false
def oh:Sm:= .mk false ex0 vl
def jN(b:ByteArray)(a:Nat):Cl:= .mk b (List.replicate a gF) [] [oh]
def eZ(b:ByteArray)(a:Nat):Fu:=⟨b,Int.ofNat a,[jN b a]⟩
def eD(m:Md)(b:ByteArray)(a:Nat):Md:={m with funcs:=m.funcs++[eZ b a]}
def dK(b:ByteArray)(a:Nat)(x:Fl):Bool:=((!eqI x.code 2 && !eqI x.code 6) || !nmB x.name b) || !eqI x.n (Int.ofNat a)
end
theorem DX:gdB []=false:=by
 refine zP ?_;obtain⟨v,c,rfl⟩:∃v,CP 58 [.lst 0 1 (gdL []),.func (.func 59) [] []] v/\v= .bool false:=by
  have c76:CP 76 [.lst 0 1 (gdL []),.func (.func 59) [] []] (.int .i64 (-1)):=by
   obtain⟨v,c,rfl⟩:∃v,CP 76 [.lst 0 1 (gdL []),.func (.func 59) [] []] v/\v= .int .i64 (-1):=by
    refine dz Tryz.func76 (by decide) q76.2 rfl (bO (pxG []) (bO (pxF 59) px0)) rfl ?_;have pf:=pxF 59
    repeat' (first
     |(refine WLg.mk ?_;first
     |refine aa rfl rfl rfl rfl ?_)|apply ac|refine ae rfl ?_|apply ai|apply ah|apply aj|apply bG.norm|fail)
    refine aw (cA (l:=fr76 59 [] 0) KT rfl) ?_;refine ax 0 (λi x h=>x=fr76 59 [] i/\h=H0) ?_ (i:=0) (Nat.zero_le _) ⟨rfl,rfl⟩;rintro i _ _ hi ⟨rfl,rfl⟩;obtain rfl:i=0:=by omega
    repeat' (first
     |(refine WLg.mk ?_;first
     |refine aa rfl rfl rfl rfl ?_)|apply ac|refine ae rfl ?_|apply ai|apply ah|refine aB rfl ?_|apply av|apply ap|apply bG.norm|apply bG.exit|apply OnC.exit|fail)
    all_goals exact⟨.inr rfl,_,rfl,.flat rfl,rfl⟩
   exact c
  refine dz Tryz.func58 (by decide) q58.2 rfl (bO (pxG []) (bO (pxF 59) px0)) rfl ?_
  repeat' (first
   |(refine WLg.mk ?_;first
   |refine aa rfl rfl rfl rfl ?_|refine aq rfl rfl rfl (c76) rfl ?_)|apply ac|refine ae rfl ?_|apply ai|apply ah|apply ap|apply bG.norm|fail)
  all_goals exact⟨.inr rfl,_,rfl,.flat rfl,rfl⟩
 exact c
theorem lJ{k:Int}(h:k≠17):dt (.mk k 0 ⟨#[]⟩ ⟨#[]⟩ [] [] [] [] [] [] false)=[]:=by
 unfold dt;rw [if_neg (show ¬(Ex.mk k 0 ⟨#[]⟩ ⟨#[]⟩ [] [] [] [] [] [] false).kind=17 from h)];simp [Ex.segs,Ex.items,Ex.body,Ex.clauses,Ex.catches,Ex.after,mQ,clK,df]
theorem AP:dc gF=true:=by
 rw [i6,show dt gF=[]from lJ (by decide)];unfold zB;rw [pZ];rfl
theorem AO:dc vl=true:=by
 rw [i6,show dt vl=[]from lJ (by decide)];unfold zB;rw [pZ];rfl
theorem E8:wL 1 gF=false:=by
 rw [AV,show dt gF=[]from lJ (by decide)];rfl
theorem E7:wL 1 vl=false:=by
 rw [AV,show dt vl=[]from lJ (by decide)];rfl
theorem zh(b:ByteArray)(a:Nat):clK (eZ b a).clauses=List.replicate a gF++[vl]:=by
 show clK [jN b a]=_;rw [clK,clK];show(List.replicate a gF++(gdK []++df [oh]))++[]=_;rw [List.append_nil];rfl
theorem yT{b:ByteArray}{a:Nat}(h:nmV b.size (bT b.data.toList)=true):okF (eZ b a)=true:=by
 have w:wdB b=true:=tp (f45t h);have e1:(clK (eZ b a).clauses).all dc=true:=by
  rw [zh,List.all_append,List.all_cons,List.all_nil,AO,Bool.and_true,Bool.and_true];exact List.all_eq_true.2 λx hx=>by rw [List.eq_of_mem_replicate hx];exact AP
 have e2:okC (-1) true (jN b a)=true:=by
  unfold okC;rw [show(jN b a).name=b from rfl,show(jN b a).guards=[]from rfl,show(jN b a).body=[oh]from rfl,DX,Er (s:=oh) rfl rfl,w];rfl
 have e3:clB (-1) true (eZ b a).clauses=true:=by
  show [jN b a].all (okC (-1) true)=true;rw [List.all_cons,e2];rfl
 unfold okF;rw [e1,e3];show(!eqI (Int.ofNat 1) 0&&(cV b.size (bT b.data.toList) b.size (bT b.data.toList)&&(eqI (Int.ofNat a) (Int.ofNat (List.replicate a gF).length)&&(true&&true))))=true;rw [kq,List.length_replicate];have:eqI (Int.ofNat a) (Int.ofNat a)=true:=by rw [eC];simp
 rw [this];rfl
theorem Gd{b:ByteArray}{a:Nat}(h:nmV b.size (bT b.data.toList)=true)(ha:a<=16)(hm:mn (eZ b a)<=4000):fL (eZ b a)=false:=by
 have e1:clG (eZ b a).clauses=false:=by
  show(ltI 60 (Int.ofNat 1)||([jN b a].any lgC))=false;rw [List.any_cons,List.any_nil,Bool.or_false];show(false||ltI 16 (Int.ofNat (List.replicate a gF).length))=false;rw [List.length_replicate,Bool.false_or];exact kZ ha
 have e2:(clK (eZ b a).clauses).any (wL 1)=false:=by
  rw [zh,List.any_append,List.any_cons,List.any_nil,E7,Bool.or_false,Bool.or_false,List.any_eq_false];intro x hx;rw [List.eq_of_mem_replicate hx,E8];exact Bool.false_ne_true
 unfold fL;rw [e1,e2,Cs (yT h),show ltI 4000 (Int.ofNat (mn (eZ b a)))=false from kZ hm];rfl
theorem DK{m:Md}{b:ByteArray}{a:Nat}(ha:a<=16)(x:yl m 0)(y:yl (eD m b a) 0):okM (eD m b a)=okM m:=by
 obtain⟨a1,a2,a3,_,a5⟩:=x rfl;obtain⟨b1,b2,b3,b4,b5⟩:=y rfl;have e1:(eD m b a).funcs=m.funcs++[eZ b a]:=rfl;have e2:(eD m b a).exports=m.exports:=rfl;have e3:(eD m b a).name=m.name:=rfl;have e4:(eD m b a).vsn=m.vsn:=rfl;have hin:eZ b a∈(eD m b a).funcs:=by rw [e1];simp
 have nv:nmV b.size (bT b.data.toList)=true:=b4 (eZ b a) hin (jN b a) List.mem_cons_self;have ok:=yT (a:=a) nv;rw [e1]at b1 b2 b3 b5;unfold okM;rw [e1,e2,e3,e4,List.all_append,List.all_cons,List.all_nil,ok,Bool.and_true,Bool.and_true];cases q:m.funcs.all okF with
 |false=>simp
 |true=>
  have q1:∀f,f∈m.funcs->okF f=true:=λf hf=>List.all_eq_true.1 q f hf;have q2:∀f,f∈m.funcs++[eZ b a]->okF f=true:=λf hf=>by
   rcases List.mem_append.1 hf with hf|hf
   ·exact q1 f hf
   ·rw [List.mem_singleton.1 hf];exact ok
  have s1:m.funcs.map fN=m.funcs.map mn:=fg λf hf=>Cs (q1 f hf);have s2:m.funcs.map fF=m.funcs.map fnn:=fg λf hf=>Ct (q1 f hf);have s3:(m.funcs++[eZ b a]).map fN=(m.funcs++[eZ b a]).map mn:=fg λf hf=>Cs (q2 f hf);have s4:(m.funcs++[eZ b a]).map fF=(m.funcs++[eZ b a]).map fnn:=fg λf hf=>Ct (q2 f hf);have lg:yZ (eD m b a)=yZ m:=by
   unfold yZ;rw [e1,e2,List.any_append,List.any_cons,List.any_nil,Gd nv ha (b1 _ hin).1,Bool.or_false,Bool.or_false,show ltI 200 (Int.ofNat (m.funcs++[eZ b a]).length)=false from kZ b5,show ltI 200 (Int.ofNat m.funcs.length)=false from kZ a5]
  rw [s1,s2,s3,s4,lg,show ltI 20000 (Int.ofNat (m.funcs.map mn).sum)=false from kZ a2,show ltI 1000 (Int.ofNat (m.funcs.map fnn).sum)=false from kZ a3,show ltI 20000 (Int.ofNat ((m.funcs++[eZ b a]).map mn).sum)=false from kZ b2,show ltI 1000 (Int.ofNat ((m.funcs++[eZ b a]).map fnn).sum)=false from kZ b3]
theorem AD{l:List Ky}{k:Ky}(h:0<nH l k):k∈l:=by
 unfold nH at h;rw [List.length_pos_iff_exists_mem]at h;obtain⟨x,hx⟩:=h;obtain⟨h1,h2⟩:=List.mem_filter.1 hx;exact of_decide_eq_true h2▸h1
theorem tG{x y:ByteArray}:nmB x y=true↔x=y:=by
 unfold nmB;rw [r8];simp
section
variable {m:Md} {b:ByteArray} {a:Nat}
theorem wP(b:ByteArray)(a:Nat):RR (λxs ys=>ys=xs.filter (dK b a)):=⟨rfl,λh k=>by rw [h,k,List.filter_append],λx h2 h6=>by
 have:dK b a x=true:=by
  unfold dK;rw [eC,eC,decide_eq_false h2,decide_eq_false h6];rfl
 rw [List.filter_cons,this];rfl⟩
theorem CH(nm:ByteArray)(n:Int):dfM (eD m b a) nm n=(dfM m nm n||decide ((nm,n)=(b,Int.ofNat a))):=by
 unfold dfM;rw [show(eD m b a).funcs.map kF=m.funcs.map kF++[(b,Int.ofNat a)] by show(m.funcs++[eZ b a]).map kF=_;rw [List.map_append];rfl,sR]
 by_cases q:(nm,n)=(b,Int.ofNat a)
 ·rw [if_pos q,decide_eq_true (Nat.succ_pos _),decide_eq_true q,Bool.or_true]
 ·rw [if_neg q,decide_eq_false q,Bool.or_false]
theorem vz{p:Pl}{k:Int}(hk:k=2\/k=6):dK b a (flw p k b (Int.ofNat a))=false:=by
 unfold dK;rw [show(flw p k b (Int.ofNat a)).code=k from rfl,show(flw p k b (Int.ofNat a)).name=b from rfl,show(flw p k b (Int.ofNat a)).n=Int.ofNat a from rfl,tG.2 rfl];rcases hk with rfl|rfl<;>simp [eC]
theorem qR{p:Pl}{k:Int}{nm:ByteArray}{n:Int}(h:(nm,n)≠(b,Int.ofNat a)):dK b a (flw p k nm n)=true:=by
 unfold dK;rw [show(flw p k nm n).name=nm from rfl,show(flw p k nm n).n=n from rfl];cases q:nmB nm b with
 |false=>simp
 |true=>
  have e:=tG.1 q;have:n≠Int.ofNat a:=λe2=>h (by rw [e,e2]);rw [show eqI n (Int.ofNat a)=false by rw [eC];exact decide_eq_false this];simp
theorem C1(p:Pl)(nm:ByteArray)(n:Nat):RL (λxs ys=>ys=xs.filter (dK b a)) p (λfl=>if !dfM m nm (Int.ofNat n)&&eqI (mC nm n) 0 then fl++[flw p 6 nm (Int.ofNat n)]else fl) (λfl=>if !dfM (eD m b a) nm (Int.ofNat n)&&eqI (mC nm n) 0 then fl++[flw p 6 nm (Int.ofNat n)]else fl):=by
 rw [CH];have own:∀x,x∈[flw p 6 nm (Int.ofNat n)]->AtP p x:=λx h=>by rw [List.mem_singleton.1 h];exact .flw
 by_cases q:(nm,Int.ofNat n)=(b,Int.ofNat a)
 ·rw [decide_eq_true q,Bool.or_true,Bool.not_true,Bool.false_and]
  cases(!dfM m nm (Int.ofNat n)&&eqI (mC nm n) 0)with
  |false=>exact RL.same (wP b a)
  |true=>
   refine⟨_,[],own,?_,λfl=>rfl,λfl=>(List.append_nil fl).symm⟩;obtain⟨q1,q2⟩:=Prod.mk.inj q;show []=[flw p 6 nm (Int.ofNat n)].filter (dK b a);rw [q1,q2,List.filter_cons,vz (.inr rfl)];rfl
 ·rw [decide_eq_false q,Bool.or_false]
  cases(!dfM m nm (Int.ofNat n)&&eqI (mC nm n) 0)with
  |false=>exact RL.same (wP b a)
  |true=>
   refine⟨_,_,own,?_,λfl=>rfl,λfl=>rfl⟩;show [flw p 6 nm (Int.ofNat n)]=[flw p 6 nm (Int.ofNat n)].filter (dK b a);rw [List.filter_cons,qR q];rfl
theorem Ce(s:Sn)(seen:Bool)(xs:List Fl):ji (dfM (eD m b a)) p0 s seen (xs.filter (dK b a))=(ji (dfM m) p0 s seen xs).filter (dK b a):=by
 have h1:(if seen then xs++[flw p0 1 s.name s.arity]else xs).filter (dK b a)=if seen then xs.filter (dK b a)++[flw p0 1 s.name s.arity]else xs.filter (dK b a):=by
  cases seen with
  |false=>rfl
  |true=>
   rw [if_pos rfl,if_pos rfl,List.filter_append];have:dK b a (flw p0 1 s.name s.arity)=true:=by
    unfold dK;rw [show(flw p0 1 s.name s.arity).code=1 from rfl];rfl
   rw [List.filter_cons,this];rfl
 unfold ji;rw [CH,<-h1]
 by_cases q:(s.name,s.arity)=(b,Int.ofNat a)
 ·rw [decide_eq_true q,Bool.or_true,if_pos rfl]
  obtain⟨q1,q2⟩:=Prod.mk.inj q;cases dfM m s.name s.arity with
  |true=>rfl
  |false=>
   rw [if_neg Bool.false_ne_true,List.filter_append,q1,q2,List.filter_cons,vz (.inl rfl)];simp
 ·rw [decide_eq_false q,Bool.or_false]
  cases dfM m s.name s.arity with
  |true=>rfl
  |false=>
   rw [if_neg Bool.false_ne_true,if_neg Bool.false_ne_true,List.filter_append,List.filter_cons,qR q];rfl
theorem Cd(l:List Sn):lT (dfM (eD m b a)) p0 l []=(lT (dfM m) p0 l []).filter (dK b a):=by
 unfold lT;have key:∀n,bZ (λi fl=>ji (dfM (eD m b a)) p0 (dl l i) (iN l i) fl) [] n=(bZ (λi fl=>ji (dfM m) p0 (dl l i) (iN l i) fl) [] n).filter (dK b a):=by
  intro n
  induction n with
  |zero=>rfl
  |succ n ih=>
   show ji _ p0 (dl l n) (iN l n) (bZ _ [] n)=(ji _ p0 (dl l n) (iN l n) (bZ _ [] n)).filter _;rw [ih,Ce]
 exact key _
theorem Ga(f:Fu)(ag:Bool)(xs:List Fl):fnF (dfM (eD m b a)) f ag (xs.filter (dK b a))=(fnF (dfM m) f ag xs).filter (dK b a):=by
 obtain⟨us,ys,_,h2,h3,h4⟩:=Gb (wP b a) (D:=dfM m) (D':=dfM (eD m b a)) C1 f ag;rw [h3,h4,h2,List.filter_append]
theorem DI:rb 17 [.agg (exO gF)]=true:=by
 refine tp ?_;obtain⟨v,c,rfl⟩:∃v,CP 17 [.agg (exO gF)] v/\v= .bool true:=by
  refine dz Tryz.func17 (by decide) q17.2 rfl (bO (pxe gF) px0) rfl ?_
  repeat' (first
   |(refine WLg.mk ?_;first
   |refine aa rfl rfl rfl rfl ?_|refine ab rfl rfl rfl rfl ?_|refine aA rfl rfl RA rfl PB rfl ?_)|apply ac|refine ae rfl ?_|apply ai|apply ah|apply aj|apply al|refine aD rfl ?_|refine aB rfl ?_|apply ap|apply bG.norm|apply bG.ret|fail)
  all_goals exact⟨.inr rfl,_,rfl,.flat rfl,rfl⟩
 exact c
theorem BV(p:Pl)(st:Sc×List Fl):dU p B6 gF st=st:=by
 obtain⟨k,e⟩:∃k,B6=k+1:=⟨B6-1,by have:=zA;omega⟩
 rw [e];show(gK B6 gF st.1,if rb 17 [.agg (exO gF)]then st.2 else st.2++[flw p 9 eB 0])=st;rw [DI,e];rfl
theorem DV(D:Df)(p:Pl)(fl:List Fl):qS (lX D B6) p (jN b a) [] fl=fl:=by
 have h1:∀n st,n<=a->bZ (λi st=>dU p B6 (bW (List.replicate a gF) i) st) st n=st:=by
  intro n st hn
  induction n with
  |zero=>rfl
  |succ n ih=>
   show dU p B6 (bW (List.replicate a gF) n) (bZ _ st n)=st;rw [ih (by omega)];have:bW (List.replicate a gF) n=gF:=by
    unfold bW;rw [List.getElem?_replicate,if_pos (by omega)];rfl
   rw [this,BV]
 show DW (lX D B6) p (jN b a) (bZ (λi st=>dU p B6 (bW (List.replicate a gF) i) st) ([],fl) (List.replicate a gF).length)=fl;rw [List.length_replicate,h1 a _ (Nat.le_refl _)];obtain⟨k,e⟩:∃k,B6=k+1:=⟨B6-1,by have:=zA;omega⟩
 show lX D B6 p vl [] fl=fl;rw [e];rfl
theorem F9(D:Df)(hc:mC b a=0)(fl:List Fl):fnF D (eZ b a) false fl=fl:=by
 show rL D (eZ b a) 0 (nA (eZ b a) false fl)=fl;have h1:nA (eZ b a) false fl=fl:=by
  show(if eqI (mC b a) 0 then(if false then _ else fl)else _)=fl;rw [hc];rfl
 rw [h1];show qS (lX D B6) (plF (eZ b a) 0) (jN b a) [] (if nmB b b&&eqI (Int.ofNat (List.replicate a gF).length) (Int.ofNat a)then fl else _)=fl;rw [tG.2 rfl,List.length_replicate,show eqI (Int.ofNat a) (Int.ofNat a)=true by rw [eC];simp];exact DV D _ fl
theorem C2(hc:mC b a=0)(hno:∀f,f∈m.funcs->kF f≠(b,Int.ofNat a)):sW (eD m b a)=(sW m).filter (dK b a):=by
 have e1:(eD m b a).funcs=m.funcs++[eZ b a]:=rfl;have e2:(eD m b a).exports=m.exports:=rfl;have at1:∀i,i<m.funcs.length->cI (m.funcs++[eZ b a]) i=cI m.funcs i:=λi hi=>by
  unfold cI;rw [List.getElem?_append_left hi]
 have tk:∀i,i<=m.funcs.length->(m.funcs++[eZ b a]).take i=m.funcs.take i:=λi hi=>by
  rw [List.take_append_of_le_length hi]
 have ag1:∀i,i<m.funcs.length->gG (eD m b a) i=gG m i:=λi hi=>by
  unfold gG;rw [e1,tk i (by omega),at1 i hi]
 have atl:cI (m.funcs++[eZ b a]) m.funcs.length=eZ b a:=by
  unfold cI;rw [List.getElem?_append_right (Nat.le_refl _),Nat.sub_self];rfl
 have agl:gG (eD m b a) m.funcs.length=false:=by
  unfold gG;rw [e1,tk _ (Nat.le_refl _),List.take_length,atl];refine decide_eq_false λh=>?_;obtain⟨f,hf,q⟩:=List.mem_map.1 (AD h);exact hno f hf q
 unfold sW;rw [e1,e2,List.length_append];show fnF (dfM (eD m b a)) (cI (m.funcs++[eZ b a]) m.funcs.length) (gG (eD m b a) m.funcs.length) (bZ (λi fl=>fnF (dfM (eD m b a)) (cI (m.funcs++[eZ b a]) i) (gG (eD m b a) i) fl) (lT (dfM (eD m b a)) p0 m.exports []) m.funcs.length)=_;rw [atl,agl,F9 _ hc,Cd];have key:∀n,n<=m.funcs.length->bZ (λi fl=>fnF (dfM (eD m b a)) (cI (m.funcs++[eZ b a]) i) (gG (eD m b a) i) fl) ((lT (dfM m) p0 m.exports []).filter (dK b a)) n=(bZ (λi fl=>fnF (dfM m) (cI m.funcs i) (gG m i) fl) (lT (dfM m) p0 m.exports []) n).filter (dK b a):=by
  intro n hn
  induction n with
  |zero=>rfl
  |succ n ih=>
   show fnF _ _ _ (bZ _ _ n)=(fnF _ _ _ (bZ _ _ n)).filter _;rw [ih (by omega),at1 n (by omega),ag1 n (by omega),Ga]
 exact key _ (Nat.le_refl _)
theorem AJ(ha:a<=16)(hc:mC b a=0)(hno:∀f,f∈m.funcs->kF f≠(b,Int.ofNat a))(x:yl m 0)(y:yl (eD m b a) 0):kQ (eD m b a)=(kQ m).filter (dK b a):=by
 unfold kQ;rw [DK ha x y,C2 hc hno];cases okM m<;>rfl
end
end
section
noncomputable section
def wj:List V:= .int .i64 4 :: .int .i64 0 :: .str 0 0 :: .str 0 0 :: .nils :: .nils :: .nils :: .nils :: .nils :: .nils :: .bool false ::[]
def lQ:Nat->List V
 |0=>[]
 |j+1=>lQ j++wj
def vk:List V:= .bool false :: .int .i64 0 :: .int .i64 0 :: .str 0 0 :: .str 0 0 :: .nils :: .nils :: .nils :: .nils :: .nils :: .nils :: .bool false :: .int .i64 6 :: .int .i64 0 :: .str 0 0 :: .str 0 0 :: .nils :: .nils :: .nils :: .nils :: .nils :: .nils :: .bool false ::[]
def yg(b:ByteArray)(j:Nat):List V:=[sV b,wD 2 11 j,.nils,.lst 1 23 vk]
def fr4a(m:Md)(b:ByteArray)(a j:Nat):AL:=[(1,sV b),(2,.int .i64 (Int.ofNat a)),(3,.eptr (mdO m) 0),(7,.ptr 1 0),(8,.int .i64 (Int.ofNat j))]
def fr4c(m:Md)(b:ByteArray)(a:Nat):AL:=[(1,sV b),(2,.int .i64 (Int.ofNat a)),(3,.eptr (mdO m) 0),(7,.eptr (clO (jN b a)) 0)]
def fr4d(m:Md)(b:ByteArray)(a:Nat):AL:=[(1,sV b),(2,.int .i64 (Int.ofNat a)),(3,.eptr (mdO m) 0),(9,.eptr (mdO (eD m b a)) 0)]
def H4a(b:ByteArray)(j:Nat):H:=HG [some (yg b j),vf (lQ j)] 3
def Z4(b:ByteArray)(a:Nat):Nat->Option (List V):=λk=>if k=1 then some (yg b a)else if k=2 then vf (lQ a)else if k=bR then some []else none
end
theorem zp:∀c,c∈wj->bP c:=by
 unfold wj
 repeat' (first|exact px0|refine bO (.flat rfl) ?_)
theorem yW:∀c,c∈vk->bP c:=by
 unfold vk
 repeat' (first|exact px0|refine bO (.flat rfl) ?_)
theorem zt:∀j,∀c,c∈lQ j->bP c
 |0,c,h=>by cases h
 |j+1,c,h=>by
  rcases List.mem_append.1 h with h|h
  ·exact zt j c h
  ·exact zp c h
theorem iH:∀j,(lQ j).length=j*11
 |0=>rfl
 |j+1=>by
  show(lQ j++wj).length=_;rw [List.length_append,iH j,Nat.add_mul];rfl
section
variable {U:Nat->Prop} {ρ:Nat->Nat} {Z:Nat->Option (List V)} {s:List V} (z:Z bR=some s)
include z
theorem Ew:RnL U ρ Z (exO gF) wj:=by
 show RnL U ρ Z (.int .i64 4 :: .int .i64 0 :: .str 0 0 :: .str 0 0 :: .lst 0 11 [] :: .lst 0 27 [] :: .lst 0 4 [] :: .lst 0 4 [] :: .lst 0 23 [] :: .lst 0 23 [] :: .bool false ::[]) wj;unfold wj
 repeat' (first|exact .nil|refine .cons (.nil0 z) ?_|refine .cons (.pure (.flat rfl)) ?_)
theorem zr:∀a,RnL U ρ Z (exL (List.replicate a gF)) (lQ a)
 |0=>by
  rw [List.replicate_zero,exL];exact .nil
 |a+1=>by
  rw [List.replicate_succ',dS,cK,exL,List.append_nil];exact RnL.app (zr a) (Ew z)
theorem DO:RnL U ρ Z (smL [oh]) vk:=by
 rw [gO,smL];show RnL U ρ Z (.bool false :: .int .i64 0 :: .int .i64 0 :: .str 0 0 :: .str 0 0 :: .lst 0 11 [] :: .lst 0 27 [] :: .lst 0 4 [] :: .lst 0 4 [] :: .lst 0 23 [] :: .lst 0 23 [] :: .bool false :: .int .i64 6 :: .int .i64 0 :: .str 0 0 :: .str 0 0 :: .lst 0 11 [] :: .lst 0 27 [] :: .lst 0 4 [] :: .lst 0 4 [] :: .lst 0 23 [] :: .lst 0 23 [] :: .bool false ::[]) vk;unfold vk
 repeat' (first|exact .nil|refine .cons (.nil0 z) ?_|refine .cons (.pure (.flat rfl)) ?_)
end
theorem v4b{f:AL}{m:Md}{b:ByteArray}{a j q:Nat}{h:H}{tr:Tr V}{v:V}(e1:lk f 1=some (sV b))(e2:lk f 2=some (.int .i64 (Int.ofNat a)))(e3:lk f 3=some (.eptr (mdO m) 0))(e7:lk f 7=some (.ptr 1 0))(e8:lk f 8=some (.int .i64 (Int.ofNat j)))
  (b0:h.blk 0=some (.ro 256 dN)) (b1:h.blk 1=some (.cells 4 tr none false)) (t0:tr.get 0=some (sV b)) (t1:tr.get 1=some v) (t2:tr.get 2=some .nils) (t3:tr.get 3=some (.lst 1 23 vk)) (g:GL 11 h v (lQ j)) (hv:∀b n,v= .sl b 0 n 0 false 11->b=q) (hq:1<q) (hj:j<=1000):fG TP Kp ⟨f,[]⟩ h ⟨fr4a m b a j,[]⟩ (H4a b j):=by
 have kk:100000<bR:=by unfold bR;omega
 have hl:=iH j;have v2:∀b n,v= .sl b 0 n 0 false 11->nX [1,q] 2=b:=λb n e=>(hv b n e).symm;have rv:Rn (cL (lpG [some (yg b j),vf (lQ j)])) (nX [1,q]) Zn (wD 2 11 j) v:=Rn.gl g v2 hl (by decide) λne=>uB (i:=1) (by rw [sr ne];rfl);refine A4 (ids:=[1,q]) (L:=[some (yg b j),vf (lQ j)]) (Z:=Zn) rfl b0 (by simp;omega) (Nat.le_refl 2) (show 2<1000 by decide) ?_ (λk cs' e hk=>Ha e hk) (nR.mem ?_)
 ·refine .box (b:=1) b1 rfl rfl (by show 4<=bR;omega) (Gt (cs:=[sV b,v,.nils,.lst 1 23 vk]) (.cons (.pure (.flat rfl)) (.cons rv (.cons (.pure (.flat rfl)) (.cons (.pure (.lst yW)) .nil)))) λi v' e=>?_) (jv.gl g v2 (.pure (zt j)) (by omega) .nil)
  match i,e with
  |0,e=>cases e;exact t0
  |1,e=>cases e;exact t1
  |2,e=>cases e;exact t2
  |3,e=>cases e;exact t3
  |i+4,e=>cases e
 ·exact .cons e1 (.pure (.flat rfl)) (.cons e2 (.pure (.flat rfl)) (.cons e3 (.pure (.eptr (gS m))) (.cons e7 (.ptr (ρ:=nX [1,q]) (i:=1) (uB (i:=0) rfl)) (.cons e8 (.pure (.flat rfl)) .nil))))
theorem v4c{f:AL}{m:Md}{b:ByteArray}{a:Nat}{h:H}(e1:lk f 1=some (sV b))(e2:lk f 2=some (.int .i64 (Int.ofNat a)))(e3:lk f 3=some (.eptr (mdO m) 0))(e7:lk f 7=some (.ptr 1 0))(hh:h=H4a b a)(ha:a<=1000):fG TP Kp ⟨f,[]⟩ h ⟨fr4c m b a,[]⟩ H0:=by
 subst hh;have kk:100000<bR:=by unfold bR;omega
 have hl:=iH a;have z0:Z4 b a bR=some []:=by unfold Z4;rw [if_neg (by omega),if_neg (by omega),if_pos rfl]
 have z1:Z4 b a 1=some (yg b a):=if_pos rfl;have g:GL 11 (H4a b a) (wD 2 11 a) (lQ a):=glG rfl hl (by decide) (by omega) (Nat.le_of_ble_eq_true (n:=3) rfl);have z2:∀b' n,wD 2 11 a= .sl b' 0 n 0 false 11->Z4 b a b'=some (lQ a):=λb' n e=>by
  refine wC e λq=>?_;subst q;cases a with
  |zero=>cases e
  |succ a=>
   unfold Z4;rw [if_neg (by decide),if_pos rfl];exact sr λq=>by have:=congrArg List.length q;rw [iH]at this;simp at this
 refine A4 (ids:=[]) (L:=[]) (n:=1) (Z:=Z4 b a) rfl rfl (by decide) (Nat.le_refl 0) (by decide) .nil (λk cs' e hk=>?_) (nR.mem ?_)
 ·unfold Z4 at e
  by_cases q1:k=1
  ·subst q1
   rw [if_pos rfl]at e;cases e;exact⟨⟨cq (yg b a) 0 .e,none,rfl,mI (by show 4<=bR;omega)⟩,by simp⟩
  ·rw [if_neg q1]at e
   by_cases q2:k=2
   ·subst q2
    rw [if_pos rfl]at e;cases q:lQ a with
    |nil=>rw [q]at e;cases e
    |cons c cs=>
     rw [q]at e;cases e;refine⟨⟨cq (c ::cs) 0 .e,none,?_,mI (by rw [<-q];omega)⟩,by simp⟩;show blG (vf (lQ a))=_;rw [q];show some (Blk.cells (bY (c ::cs)) _ _ _)=_;rw [@bV noE]
   ·rw [if_neg q2,if_neg (by omega)]at e
    cases e
 ·refine .cons e1 (.pure (.flat rfl)) (.cons e2 (.pure (.flat rfl)) (.cons e3 (.pure (.eptr (gS m))) (.cons e7 (.fz (k:=1) z1 ?_) .nil)))
  have p:=Rn.glz (U:=cL (lpG [])) (ρ:=nX []) g z2 z0 hl (by decide) (zr z0 a);have e:clO (jN b a)=[sV b,.lst a 11 (exL (List.replicate a gF)),.lst 0 1 [],.lst 1 23 (smL [oh])]:=by
   show [sV b,V.lst (List.replicate a gF).length 11 (exL (List.replicate a gF)),.lst 0 1 (gdL []),.lst 1 23 (smL [oh])]=_;rw [List.length_replicate,gdL]
  rw [e];exact .cons (.pure (.flat rfl)) (.cons p (.cons (.nil0 z0) (.cons (.lst (DO z0)) .nil)))
end
end Ev
end Go.Proofs.YtdfphfdnoobikaaGreatDoor
