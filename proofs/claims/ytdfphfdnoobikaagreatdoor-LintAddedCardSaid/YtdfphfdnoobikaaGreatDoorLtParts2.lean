/-
  The reference:cg.
-/
import Derived.Test.YtdfphfdnoobikaaGreatDoorLtSmall
namespace Go.Proofs.YtdfphfdnoobikaaGreatDoor
namespace Ev
section
def cg(x:Ex):List Ex:=
 if x.kind=17 then clK x.clauses++x.items++df x.after
 else if x.kind=8 then mQ x.segs
 else x.items++df x.body++clK x.clauses++clK x.catches++df x.after
theorem nD{a b:Int}(h:eqI a b=true):a=b:=by rw [iL]at h;simpa using h
theorem sN{a b:Int}(h:eqI a b=false):a≠b:=by rw [iL]at h;simpa using h
theorem EM{a b:Int}(h:(!eqI a b)=true):a≠b:=sN (by cases q:eqI a b with|true=>rw [q]at h;cases h|false=>rfl)
theorem qG{a b:Int}(h:(!eqI a b)=false):a=b:=nD (by cases q:eqI a b with|true=>rfl|false=>rw [q]at h;cases h)
noncomputable section
def fr44(x:Ex)(xs:List Ex)(i:Nat):AL:=[(1,.eptr (exO x) 0),(3,md xs),(4,.int .i64 (Int.ofNat i))]
end
set_option maxHeartbeats 4000000 in
theorem f44(x:Ex)(hx:bH (exO x)<=6000000):CP 44 [.agg (exO x)] (.lst (cg x).length 11 (exL (cg x))):=by
 obtain⟨xs,rfl,c⟩:∃xs,xs=cg x/\CP 44 [.agg (exO x)] (.lst xs.length 11 (exL xs)):=by
  refine nF Tryz.func44 (by decide) q44.2 rfl (bO (pxe x) px0) rfl rfl ?_;have hsz:=dM x;have g1:(clK x.clauses).length<=6000000:=fX _ _ (by have:=gE x.clauses;omega);have g2:(clK x.catches).length<=6000000:=fX _ _ (by have:=gE x.catches;omega);have g3:(df x.body).length<=6000000:=fX _ _ (by have:=gA x.body;omega);have g4:(df x.after).length<=6000000:=fX _ _ (by have:=gA x.after;omega);have g5:x.items.length<=6000000:=fX _ _ (by omega);have c1:=f23 x.clauses (by omega);have c2:=f23 x.catches (by omega);have c3:=f42 x.body (by omega);have c4:=f42 x.after (by omega)
  repeat' (first
   |(refine WLg.mk ?_;first
   |refine aa rfl rfl rfl rfl ?_|refine ab rfl rfl rfl rfl ?_|refine aA rfl rfl RA rfl PB rfl ?_|refine aq rfl rfl rfl (c1) rfl ?_|refine aq rfl rfl rfl (c2) rfl ?_|refine aq rfl rfl rfl (c3) rfl ?_|refine aq rfl rfl rfl (c4) rfl ?_|refine aO (xs:=[]) (ys:=clK x.clauses) rfl rfl (by simp;omega) KP KP rfl ?_|refine aO (xs:=[]) (ys:=x.items) rfl rfl (by simp;omega) KP KP rfl ?_|refine aO (ys:=x.items) rfl rfl (by simp only [List.length_append,List.length_nil];omega) KP KP rfl ?_|refine aO (ys:=df x.after) rfl rfl (by simp only [List.length_append,List.length_nil];omega) KP KP rfl ?_|refine aO (ys:=df x.body) rfl rfl (by simp only [List.length_append,List.length_nil];omega) KP KP rfl ?_|refine aO (ys:=clK x.clauses) rfl rfl (by simp only [List.length_append,List.length_nil];omega) KP KP rfl ?_|refine aO (ys:=clK x.catches) rfl rfl (by simp only [List.length_append,List.length_nil];omega) KP KP rfl ?_)|apply ac|refine ae rfl ?_|apply ai|apply ah|apply aj|apply al|refine ak rfl (λht=>?_) (λht=>?_)|apply ap|apply bG.norm|apply bG.ret|fail)
  ·have hk:=nD ht
   refine⟨.inr rfl,_,?_,rfl,rfl,by simp only [List.length_append,List.length_nil];omega⟩;rw [cg,if_pos hk,List.nil_append]
  ·rename_i ht17
   have hk:=sN ht17;have hk8:=nD ht;have hs:=fX (mQ x.segs) 6000000 (by have:=mP x.segs;omega);have hn:=iR x.segs;refine aw (bU (l:=fr44 x [] 0) KH) ?_;refine ax x.segs.length (λi y h=>∃xs,xs=mQ (x.segs.take i)/\y=fr44 x xs i/\h=HA xs) ?_ (i:=0) (Nat.zero_le _) ⟨[],rfl,rfl,rfl⟩;rintro i _ _ hi ⟨xs,hxs,rfl,rfl⟩;have hi2:i<9223372036854775807:=by omega
   have hxl:xs.length<=6000000:=by
    have h1:=mP (x.segs.take i);have h2:=mO x.segs i;rw [<-hxs]at h1;exact fX _ _ (by omega)
   repeat' (first
    |(refine WLg.mk ?_;first
    |refine aa rfl rfl rfl rfl ?_|refine aa rfl rfl (bN Hy) rfl ?_|refine ab rfl rfl (eU Hy rfl) rfl ?_|refine ab rfl rfl (ef Hy rfl) rfl ?_|refine ab rfl rfl (lh Hy rfl) rfl ?_|refine ab rfl rfl rfl rfl ?_|refine aP (cs:=exO (ck x.segs i).val++[]) rfl rfl rfl rfl rfl rfl (nC (ck x.segs i).val) rfl ?_|refine aP (cs:=exO (ck x.segs i).size++[]) rfl rfl rfl rfl rfl rfl (nC (ck x.segs i).size) rfl ?_|refine aY (y:=(ck x.segs i).val) rfl rfl (by omega) KP KP rfl ?_|refine aY (y:=(ck x.segs i).size) rfl rfl (by omega) KP KP rfl ?_|refine aY (y:=(ck x.segs i).size) rfl rfl (by simp only [List.length_append,List.length_cons,List.length_nil];omega) KP KP rfl ?_)|apply ac|refine ae rfl ?_|apply ai|apply ah|apply aj|apply al|refine ak rfl (λht=>?_) (λht=>?_)|apply av|apply ap|apply bG.norm|apply bG.ret|apply bG.exit|apply OnC.exit|fail)
   ·rename_i hA hB
    have hlt:=bL hA;exact .norm ⟨_,_,bU KH,hlt,_,by rw [lG hlt,if_neg (EM hB),if_pos ht,hxs,List.append_assoc],rfl,rfl⟩
   ·rename_i hA hB
    have hlt:=bL hA;exact .norm ⟨_,_,bU KH,hlt,_,by rw [lG hlt,if_neg (EM hB),if_neg (by rw [ht];decide),hxs,List.append_nil],rfl,rfl⟩
   ·rename_i hA hB
    have hlt:=bL hA;exact .norm ⟨_,_,bU KH,hlt,_,by rw [lG hlt,if_pos (qG hB),if_pos ht,hxs,List.nil_append],rfl,rfl⟩
   ·rename_i hA hB
    have hlt:=bL hA;exact .norm ⟨_,_,bU KH,hlt,_,by rw [lG hlt,if_pos (qG hB),if_neg (by rw [ht];decide),hxs,List.append_nil,List.append_nil],rfl,rfl⟩
   ·have hie:i=x.segs.length:=by have:=ce ht;omega
    exact⟨.inr rfl,_,by rw [cg,if_neg hk,if_pos hk8,hxs,hie,List.take_length],rfl,rfl,by omega⟩
  ·rename_i ht17
   have hk:=sN ht17;have hk8:=sN ht;refine⟨.inr rfl,_,?_,rfl,rfl,by simp only [List.length_append,List.length_nil];omega⟩;rw [cg,if_neg hk,if_neg hk8,List.nil_append]
 exact c
theorem iy(x:Ex):bH (exL (cg x))+11<=bH (exO x):=by
 have hsz:=dM x;have h1:=gE x.clauses;have h2:=gE x.catches;have h3:=gA x.body;have h4:=gA x.after;have h5:=mP x.segs;unfold cg
 split
 ·simp only [dS,cj];omega
 ·split
  ·omega
  ·simp only [dS,cj];omega
theorem gR{l:List Ex}{y:Ex}(h:y∈l):bH (exO y)<=bH (exL l):=by
 induction l with
 |nil=>cases h
 |cons a l ih=>
  rw [cK,cj];rcases List.mem_cons.1 h with rfl|h
  ·omega
  ·have:=ih h;omega
theorem jW{x y:Ex}(h:y∈cg x):bH (exO y)<bH (exO x):=by
 have:=gR h;have:=iy x;omega
def cnt(x:Ex):Nat:=1+((cg x).attach.map λy=>cnt y.1).sum
termination_by bH (exO x)
decreasing_by exact jW y.2
def dep(x:Ex):Nat:=1+((cg x).attach.map λy=>dep y.1).foldl max 0
termination_by bH (exO x)
decreasing_by exact jW y.2
theorem xV(x:Ex):cnt x=1+((cg x).map cnt).sum:=by
 rw [cnt,List.attach_map_val (l:=cg x) (f:=cnt)]
theorem CJ(x:Ex):dep x=1+((cg x).map dep).foldl max 0:=by
 rw [dep,List.attach_map_val (l:=cg x) (f:=dep)]
theorem jM{f:Ex->Nat}:∀{l:List Ex},(∀y,y∈l->f y<=bH (exO y))->(l.map f).sum<=bH (exL l)
 |[],_=>by simp
 |a ::l,h=>by
  have h1:=h a List.mem_cons_self;have h2:=jM (l:=l) λy hy=>h y (List.mem_cons_of_mem _ hy);rw [cK,cj,List.map_cons,List.sum_cons];omega
theorem ug(x:Ex):cnt x<=bH (exO x):=by
 have key:∀n (x:Ex),bH (exO x)<=n->cnt x<=bH (exO x):=by
  intro n
  induction n with
  |zero=>intro x h;have:=iK x;omega
  |succ n ih=>
   intro x h;rw [xV];have:=jM (f:=cnt) (l:=cg x) λy hy=>ih y (by have:=jW hy;omega);have:=iy x;omega
 exact key _ x (Nat.le_refl _)
theorem max_le{f:Ex->Nat}{b:Nat}:∀{l:List Ex} {a:Nat},a<=b->(∀y,y∈l->f y<=b)->(l.map f).foldl max a<=b
 |[],a,h,_=>h
 |x ::l,a,h,k=>max_le (l:=l) (Nat.max_le.2 ⟨h,k x List.mem_cons_self⟩) λy hy=>k y (List.mem_cons_of_mem _ hy)
theorem Gk(x:Ex):dep x<=bH (exO x):=by
 have key:∀n (x:Ex),bH (exO x)<=n->dep x<=bH (exO x):=by
  intro n
  induction n with
  |zero=>intro x h;have:=iK x;omega
  |succ n ih=>
   intro x h;rw [CJ];have:=iy x;have:=max_le (f:=dep) (l:=cg x) (a:=0) (b:=bH (exO x)-11) (Nat.zero_le _) λy hy=>by
    have h1:=ih y (by have:=jW hy;omega);have h2:=gR hy;omega
   have:=iK x;omega
 exact key _ x (Nat.le_refl _)
end
section
theorem jP{a b:Nat}(h:a+b<9223372036854775808):cT .i64 (Int.add (Int.ofNat a) (Int.ofNat b))=Int.ofNat (a+b):=by
 show(Bool.rec (motive:=λ_=>Int) (jQ .i64 (Nat.mod (a+b) (gD .i64))) (Int.ofNat (a+b)) (Nat.blt (a+b) (iA .i64)):Int)=Int.ofNat (a+b)
 rw [show Nat.blt (a+b) (iA .i64)=true by simp [Nat.blt,iA];omega]
theorem xh{a b:Nat}(h:a+b<9223372036854775808):some (V.int .i64 (cT .i64 (Int.add (Int.ofNat a) (Int.ofNat b))))=some (V.int .i64 (Int.ofNat (a+b))):=by rw [jP h]
theorem lE{l:List Ex}{i:Nat}(h:i<l.length):l.take (i+1)=l.take i++[bW l i]:=by
 have:=cO (d:=ex0) (ltb h);rw [List.take_add_one,this];rfl
theorem jG(l:List Ex)(i:Nat):bH (exL (l.take i))<=bH (exL l):=iQ (by rw [exL]) cK l i
theorem il{l:List Ex}{i:Nat}(h:i<l.length):bW l i∈l:=mE (d:=ex0) (ltb h)
noncomputable section
def fr25(l:List Ex)(a i:Nat):AL:=[(0,.lst l.length 11 (exL l)),(3,.int .i64 (Int.ofNat a)),(4,.int .i64 (Int.ofNat i))]
end
structure Rc(s:Nat):Prop where
 many:∀l,bH (exL l)<s->CP 25 [.lst l.length 11 (exL l)] (.int .i64 (Int.ofNat (l.map cnt).sum))
 count:∀x,bH (exO x)<s->CP 43 [.agg (exO x)] (.int .i64 (Int.ofNat (cnt x)))
theorem uY{s:Nat}(R:Rc s)(hs:s<=6000000)(x:Ex)(hx:bH (exO x)<s+1):CP 43 [.agg (exO x)] (.int .i64 (Int.ofNat (cnt x))):=by
 refine cS Tryz.func43 (by decide) q43.2 rfl (bO (pxe x) px0) rfl ?_;have hp:=iy x;have c44:=f44 x (by omega);have c25:=R.many (cg x) (by omega);have hc:=xV x;have hl:=ug x
 repeat' (first
  |(refine WLg.mk ?_;first
  |refine aa rfl rfl rfl rfl ?_|refine ab rfl rfl rfl rfl ?_|refine aA rfl rfl RA rfl PB rfl ?_|refine aq rfl rfl rfl (c44) rfl ?_|refine aq rfl rfl rfl (c25) rfl ?_)|apply ac|refine ae rfl ?_|apply ai|apply ah|apply ap|apply bG.norm|fail)
 refine⟨.inr rfl,_,rfl,.flat rfl,?_⟩;have:=@jP ((cg x).map cnt).sum 1 (by omega);rw [hc,Nat.add_comm 1];exact congrArg (V.int .i64) this
set_option maxHeartbeats 2000000 in
theorem DF{s:Nat}(hc:∀x,bH (exO x)<s+1->CP 43 [.agg (exO x)] (.int .i64 (Int.ofNat (cnt x))))(hs:s<=6000000)(l:List Ex)(hl:bH (exL l)<s+1):CP 25 [.lst l.length 11 (exL l)] (.int .i64 (Int.ofNat (l.map cnt).sum)):=by
 refine cS Tryz.func25 (by decide) q25.2 rfl (bO (pxE l) px0) rfl ?_;have hn:=dy l
 repeat' (first
  |(refine WLg.mk ?_;first
  |refine aa rfl rfl rfl rfl ?_)|apply ac|refine ae rfl ?_|apply ai|apply ah|apply aj|apply bG.norm|fail)
 refine aw (cA (l:=fr25 l 0 0) KT rfl) ?_;refine ax l.length (λi x h=>x=fr25 l ((l.take i).map cnt).sum i/\h=H0) ?_ (i:=0) (Nat.zero_le _) ⟨rfl,rfl⟩;rintro i _ _ hi ⟨rfl,rfl⟩;have hi2:i<9223372036854775807:=by omega
 have c43:i<l.length->CP 43 [.agg (exO (bW l i))] (.int .i64 (Int.ofNat (cnt (bW l i)))):=λh=>hc _ (by have:=gR (il h);omega)
 repeat' (first
  |(refine WLg.mk ?_;first
  |refine aa rfl rfl rfl rfl ?_|refine aa rfl rfl (bN Hy) rfl ?_|refine ab rfl rfl (dA Hy) rfl ?_|refine aq rfl rfl rfl (c43 (bL Hy)) rfl ?_)|apply ac|refine ae rfl ?_|apply ai|apply ah|apply aj|apply al|refine ak rfl (λht=>?_) (λht=>?_)|apply av|apply ap|apply bG.norm|apply bG.exit|apply OnC.exit|fail)
 ·have hlt:=bL ht
  have h1:((l.take i).map cnt).sum+cnt (bW l i)<9223372036854775808:=by
   have:=jM (f:=cnt) (l:=l.take i) λy _=>ug y;have:=jG l i;have:=ug (bW l i);have:=gR (il hlt);omega
  refine .norm ⟨_,_,cA (l:=fr25 l (((l.take i).map cnt).sum+cnt (bW l i)) (i+1)) (.cons rfl (pxE l) (.cons (xh h1) (.flat rfl) (.cons (dI hi2) (.flat rfl) .nil))) rfl,hlt,?_,rfl⟩;rw [lE hlt,List.map_append,List.sum_append];simp [fr25]
 ·have hie:i=l.length:=by have:=ce ht;omega
  refine⟨.inr rfl,_,rfl,.flat rfl,?_⟩;rw [hie,List.take_length];rfl
theorem BM:∀s,s<=6000001->Rc s
 |0,_=>⟨λ_ h=>absurd h (by omega),λ_ h=>absurd h (by omega)⟩
 |s+1,hs=>⟨λl hl=>DF (λx hx=>uY (BM s (by omega)) (by omega) x hx) (by omega) l hl,λx hx=>uY (BM s (by omega)) (by omega) x hx⟩
theorem f25(l:List Ex)(hl:bH (exL l)<=6000000):CP 25 [.lst l.length 11 (exL l)] (.int .i64 (Int.ofNat (l.map cnt).sum)):=(BM 6000001 (Nat.le_refl _)).many l (by omega)
noncomputable section
def fr27(x:Ex)(a i:Nat):AL:=[(3,.int .i64 (Int.ofNat a)),(4,.lst (cg x).length 11 (exL (cg x))),(5,.int .i64 (Int.ofNat i))]
end
theorem B0(a b:Nat):POp.run .maxs [.int .i64 (Int.ofNat a),.int .i64 (Int.ofNat b)]=some (.int .i64 (Int.ofNat (max a b))):=by
 show ob (some (V.int .i64 (Bool.rec (motive:=λ_=>Int) (Int.ofNat a) (Int.ofNat b) (ltI (Int.ofNat a) (Int.ofNat b))))) some=_;show some (V.int .i64 (Bool.rec (motive:=λ_=>Int) (Int.ofNat a) (Int.ofNat b) (Nat.blt a b)))=_
 by_cases h:a<b
 ·rw [ltb h,Nat.max_eq_right (Nat.le_of_lt h)]
 ·rw [Il h,Nat.max_eq_left (by omega)]
set_option maxHeartbeats 2000000 in
theorem f27:∀s,s<=6000001->∀x,bH (exO x)<s->CP 27 [.agg (exO x)] (.int .i64 (Int.ofNat (dep x)))
 |0,_,_,h=>absurd h (by omega)
 |s+1,hs,x,hx=>by
  have ih:=f27 s (by omega);refine cS Tryz.func27 (by decide) q27.2 rfl (bO (pxe x) px0) rfl ?_;have hp:=iy x;have c44:=f44 x (by omega);have hn:=dy (cg x)
  repeat' (first
   |(refine WLg.mk ?_;first
   |refine aa rfl rfl rfl rfl ?_|refine ab rfl rfl rfl rfl ?_|refine aA rfl rfl RA rfl PB rfl ?_|refine aq rfl rfl rfl (c44) rfl ?_)|apply ac|refine ae rfl ?_|apply ai|apply ah|apply aj|apply bG.norm|fail)
  refine aw (cA (l:=fr27 x 0 0) KT rfl) ?_;refine ax (cg x).length (λi y h=>y=fr27 x (((cg x).take i).map dep |>.foldl max 0) i/\h=H0) ?_ (i:=0) (Nat.zero_le _) ⟨rfl,rfl⟩;rintro i _ _ hi ⟨rfl,rfl⟩;have hi2:i<9223372036854775807:=by omega
  have c27:i<(cg x).length->CP 27 [.agg (exO (bW (cg x) i))] (.int .i64 (Int.ofNat (dep (bW (cg x) i)))):=λh=>ih _ (by have:=gR (il h);omega)
  repeat' (first
   |(refine WLg.mk ?_;first
   |refine aa rfl rfl (B0 _ _) rfl ?_|refine aa rfl rfl rfl rfl ?_|refine aa rfl rfl (bN Hy) rfl ?_|refine ab rfl rfl (dA Hy) rfl ?_|refine aq rfl rfl rfl (c27 (bL Hy)) rfl ?_)|apply ac|refine ae rfl ?_|apply ai|apply ah|apply aj|apply al|refine ak rfl (λht=>?_) (λht=>?_)|apply av|apply ap|apply bG.norm|apply bG.exit|apply OnC.exit|fail)
  ·have hlt:=bL ht
   refine .norm ⟨_,_,cA (l:=fr27 x (max (((cg x).take i).map dep |>.foldl max 0) (dep (bW (cg x) i))) (i+1)) (.cons rfl (.flat rfl) (.cons rfl (pxE _) (.cons (dI hi2) (.flat rfl) .nil))) rfl,hlt,?_,rfl⟩;rw [lE hlt,List.map_append,List.foldl_append];rfl
  ·have hie:i=(cg x).length:=by have:=ce ht;omega
   refine⟨.inr rfl,_,rfl,.flat rfl,?_⟩;rw [hie,List.take_length];have hd:=CJ x;have hl:=Gk x;have:=@jP (((cg x).map dep).foldl max 0) 1 (by omega);rw [hd,Nat.add_comm 1];exact congrArg (V.int .i64) this
def dL(x:Ex):List Ex:=(if x.kind=13 then [x]else [])++((cg x).attach.map λy=>dL y.1).flatten
termination_by bH (exO x)
decreasing_by exact jW y.2
theorem nj(x:Ex):dL x=(if x.kind=13 then [x]else [])++((cg x).map dL).flatten:=by
 rw [dL,List.attach_map_val (l:=cg x) (f:=dL)]
theorem nr{f:Ex->List Ex}:∀{l:List Ex},(∀y,y∈l->(f y).length<=bH (exO y))->(l.map f).flatten.length<=bH (exL l)
 |[],_=>by simp
 |a ::l,h=>by
  have h1:=h a List.mem_cons_self;have h2:=nr (l:=l) λy hy=>h y (List.mem_cons_of_mem _ hy);rw [cK,cj,List.map_cons,List.flatten_cons,List.length_append];omega
theorem jk(x:Ex):(dL x).length<=bH (exO x):=by
 have key:∀n (x:Ex),bH (exO x)<=n->(dL x).length<=bH (exO x):=by
  intro n
  induction n with
  |zero=>intro x h;have:=iK x;omega
  |succ n ih=>
   intro x h;rw [nj];have:=nr (f:=dL) (l:=cg x) λy hy=>ih y (by have:=jW hy;omega);have:=iy x;rw [List.length_append]
   split
   ·simp only [List.length_cons,List.length_nil];omega
   ·simp only [List.length_nil];omega
 exact key _ x (Nat.le_refl _)
noncomputable section
def fr26(x:Ex)(xs:List Ex)(i:Nat):AL:=[(3,md xs),(4,.lst (cg x).length 11 (exL (cg x))),(5,.int .i64 (Int.ofNat i))]
def fr28(x:Ex)(i:Nat):AL:=[(4,.lst (cg x).length 11 (exL (cg x))),(5,.int .i64 (Int.ofNat i))]
end
set_option maxHeartbeats 4000000 in
theorem f26:∀s,s<=6000001->∀x,bH (exO x)<s->CP 26 [.agg (exO x)] (.lst (dL x).length 11 (exL (dL x)))
 |0,_,_,h=>absurd h (by omega)
 |s+1,hs,x,hx=>by
  have ih:=f26 s (by omega);obtain⟨xs,rfl,c⟩:∃xs,xs=dL x/\CP 26 [.agg (exO x)] (.lst xs.length 11 (exL xs)):=by
   refine nF Tryz.func26 (by decide) q26.2 rfl (bO (pxe x) px0) rfl rfl ?_;have hp:=iy x;have c44:=f44 x (by omega);have hn:=dy (cg x)
   repeat' (first
    |(refine WLg.mk ?_;first
    |refine aa rfl rfl rfl rfl ?_|refine ab rfl rfl rfl rfl ?_|refine aP (cs:=exO x++[]) rfl rfl rfl rfl rfl rfl (nC x) rfl ?_|refine aA rfl rfl RA rfl PB rfl ?_|refine aq rfl rfl rfl (c44) rfl ?_|refine aY (xs:=[]) (y:=x) rfl rfl (by decide) KP KP rfl ?_)|apply ac|refine ae rfl ?_|apply ai|apply ah|apply aj|apply al|refine ak rfl (λht=>?_) (λht=>?_)|apply bG.norm|fail)
   ·have hk:(if x.kind=13 then [x]else [])=[]++[x]:=by rw [if_pos (nD ht)];rfl
    refine aw (bU (l:=fr26 x ([]++[x]) 0) KH) ?_;refine ax (cg x).length (λi y h=>∃xs,xs=([]++[x])++(((cg x).take i).map dL).flatten/\y=fr26 x xs i/\h=HA xs) ?_ (i:=0) (Nat.zero_le _) ⟨_,by simp,rfl,rfl⟩;rintro i _ _ hi ⟨xs,hxs,rfl,rfl⟩;have hi2:i<9223372036854775807:=by omega
    have hxl:xs.length<=6000000:=by
     have h1:=nr (f:=dL) (l:=(cg x).take i) λy _=>jk y;have h2:=jG (cg x) i;rw [hxs,List.length_append];simp only [List.length_append,List.length_cons,List.length_nil];omega
    have hxn:i<(cg x).length->xs.length+(dL (bW (cg x) i)).length<=50000000:=λh=>by have:=gR (il h);have:=jk (bW (cg x) i);omega
    have c26:i<(cg x).length->CP 26 [.agg (exO (bW (cg x) i))] (.lst (dL (bW (cg x) i)).length 11 (exL (dL (bW (cg x) i)))):=λh=>ih _ (by have:=gR (il h);omega)
    repeat' (first
     |(refine WLg.mk ?_;first
     |refine aa rfl rfl rfl rfl ?_|refine aa rfl rfl (bN Hy) rfl ?_|refine ab rfl rfl (dA Hy) rfl ?_|refine aq rfl rfl rfl (c26 (bL Hy)) rfl ?_|refine aO (ys:=dL (bW (cg x) i)) rfl rfl (hxn (bL Hy)) KP KP rfl ?_)|apply ac|refine ae rfl ?_|apply ai|apply ah|apply aj|apply al|refine ak rfl (λht=>?_) (λht=>?_)|apply av|apply ap|apply bG.norm|apply bG.exit|apply OnC.exit|fail)
    ·have hlt:=bL (by assumption:ltI (Int.ofNat i) (Int.ofNat (cg x).length)=true)
     exact .norm ⟨_,_,bU KH,hlt,_,by rw [lE hlt,List.map_append,List.flatten_append,hxs];simp,rfl,rfl⟩
    ·have hie:i=(cg x).length:=by have:=ce (by assumption:ltI (Int.ofNat i) (Int.ofNat (cg x).length)=false);omega
     exact⟨.inr rfl,_,by rw [nj,hk,hxs,hie,List.take_length],rfl,rfl,by omega⟩
   ·have hk:(if x.kind=13 then [x]else [])=[]:=by rw [if_neg (sN ht)]
    refine aw (bU (l:=fr26 x ([]) 0) KH) ?_;refine ax (cg x).length (λi y h=>∃xs,xs=([])++(((cg x).take i).map dL).flatten/\y=fr26 x xs i/\h=HA xs) ?_ (i:=0) (Nat.zero_le _) ⟨_,by simp,rfl,rfl⟩;rintro i _ _ hi ⟨xs,hxs,rfl,rfl⟩;have hi2:i<9223372036854775807:=by omega
    have hxl:xs.length<=6000000:=by
     have h1:=nr (f:=dL) (l:=(cg x).take i) λy _=>jk y;have h2:=jG (cg x) i;rw [hxs,List.length_append];simp only [List.length_nil];omega
    have hxn:i<(cg x).length->xs.length+(dL (bW (cg x) i)).length<=50000000:=λh=>by have:=gR (il h);have:=jk (bW (cg x) i);omega
    have c26:i<(cg x).length->CP 26 [.agg (exO (bW (cg x) i))] (.lst (dL (bW (cg x) i)).length 11 (exL (dL (bW (cg x) i)))):=λh=>ih _ (by have:=gR (il h);omega)
    repeat' (first
     |(refine WLg.mk ?_;first
     |refine aa rfl rfl rfl rfl ?_|refine aa rfl rfl (bN Hy) rfl ?_|refine ab rfl rfl (dA Hy) rfl ?_|refine aq rfl rfl rfl (c26 (bL Hy)) rfl ?_|refine aO (ys:=dL (bW (cg x) i)) rfl rfl (hxn (bL Hy)) KP KP rfl ?_)|apply ac|refine ae rfl ?_|apply ai|apply ah|apply aj|apply al|refine ak rfl (λht=>?_) (λht=>?_)|apply av|apply ap|apply bG.norm|apply bG.exit|apply OnC.exit|fail)
    ·have hlt:=bL (by assumption:ltI (Int.ofNat i) (Int.ofNat (cg x).length)=true)
     exact .norm ⟨_,_,bU KH,hlt,_,by rw [lE hlt,List.map_append,List.flatten_append,hxs];simp,rfl,rfl⟩
    ·have hie:i=(cg x).length:=by have:=ce (by assumption:ltI (Int.ofNat i) (Int.ofNat (cg x).length)=false);omega
     exact⟨.inr rfl,_,by rw [nj,hk,hxs,hie,List.take_length],rfl,rfl,by omega⟩
  exact c
set_option maxHeartbeats 4000000 in
theorem f28:∀s,s<=6000001->∀x,bH (exO x)<s->db 28 [.agg (exO x)]
 |0,_,_,h=>absurd h (by omega)
 |s+1,hs,x,hx=>by
  have ih:=f28 s (by omega);refine cJ Tryz.func28 (by decide) q28.2 rfl (bO (pxe x) px0) rfl ?_;have hp:=iy x;have hsz:=dM x;have c44:=f44 x (by omega);have hn:=dy (cg x);have g1:=f24 x.clauses (by have:=eT x.clauses;omega);have g2:=f24 x.catches (by have:=eT x.catches;omega)
  repeat' (first
   |(refine WLg.mk ?_;first
   |refine aa rfl rfl rfl rfl ?_|refine ab rfl rfl rfl rfl ?_|refine aA rfl rfl RA rfl PB rfl ?_|refine aq rfl rfl rfl (c44) rfl ?_|refine aq rfl rfl rfl (g1) rfl ?_|refine aq rfl rfl rfl (g2) rfl ?_)|apply ac|refine ae rfl ?_|refine ay rfl rfl ?_|refine az rfl (λht=>?_) (λht=>?_)|refine aH (t:=46) (λb=>rfl) ?_ (λb=>?_)|apply ai|apply ah|apply aj|apply al|refine ak rfl (λht=>?_) (λht=>?_)|apply ap|apply bG.norm|apply bG.ret|exact⟨⟨_,rfl⟩,rfl⟩|exact⟨.inr rfl,_,rfl,.flat rfl,_,rfl⟩|fail)
  all_goals (
   refine aw (cA (l:=fr28 x 0) KT rfl) ?_;refine ax (cg x).length (λi y h=>y=fr28 x i/\h=H0) ?_ (i:=0) (Nat.zero_le _) ⟨rfl,rfl⟩;rintro i _ _ hi ⟨rfl,rfl⟩;have hi2:i<9223372036854775807:=by omega
   have c28:i<(cg x).length->db 28 [.agg (exO (bW (cg x) i))]:=λh=>ih _ (by have:=gR (il h);omega)
   repeat' (first
    |(refine WLg.mk ?_;first
    |refine aa rfl rfl rfl rfl ?_|refine aa rfl rfl (bN Hy) rfl ?_|refine ab rfl rfl (dA Hy) rfl ?_|refine aq rfl rfl rfl (c28 (bL Hy)) rfl ?_)|apply ac|refine ae rfl ?_|apply ai|apply ah|apply aj|apply al|refine ak rfl (λht=>?_) (λht=>?_)|apply av|apply ap|apply bG.norm|apply bG.ret|apply bG.exit|apply OnC.ret|apply OnC.exit|exact⟨.inr rfl,_,rfl,.flat rfl,_,rfl⟩|fail)
   all_goals exact .norm ⟨_,_,cA KI rfl,bL Hy,rfl,rfl⟩)
end
section
noncomputable section
def fr22(m:Md)(i:Nat):AL:=[(1,.eptr (mdO m) 0),(3,.int .i64 (Int.ofNat i))]
def fr22f(m:Md)(i:Nat):AL:=[(1,.eptr (mdO m) 0),(4,.int .i64 (Int.ofNat i))]
end
theorem fD{n:Nat}(h:eqI (Int.ofNat n) 0=false):Nat.blt 0 n=true:=by
 have:=sN h;exact ltb (by
  have:Int.ofNat n≠0:=this;simp at this;omega)
def NmC(l:List Cl):Prop:=∀c,c∈l->nmV c.name.size (bT c.name.data.toList)=true
def NmF(l:List Fu):Prop:=∀f,f∈l->NmC f.clauses
set_option maxHeartbeats 4000000 in
theorem f41n(l:List Cl)(hx:bH (clL l)<=6000000):∃b,CP 41 [.lst l.length 4 (clL l),.int .i64 (-1),.bool true] (.bool b)/\(b=true->NmC l):=by
 have R:=BI 6000001 (by omega);have hl:l.length<9223372036854775808:=by have:=eT l;omega
 obtain⟨v,k,b,rfl,ok⟩:∃v,CP 41 [.lst l.length 4 (clL l),.int .i64 (-1),.bool true] v/\∃b,v= .bool b/\(b=true->NmC l):=by
  refine dz Tryz.func41 (by decide) q41.2 rfl (bO (pxC l) (bO (.flat rfl) (bO (.flat rfl) px0))) rfl ?_
  repeat' (first
   |(refine WLg.mk ?_;first
   |refine aa rfl rfl rfl rfl ?_)|apply ac|refine ae rfl ?_|apply ai|apply ah|apply aj|apply bG.norm|fail)
  refine aw (cA (l:=fr41 l (-1) true 0) KT rfl) ?_;refine ax l.length (λi x h=>(x=fr41 l (-1) true i/\NmC (l.take i))/\h=H0) ?_ (i:=0) (Nat.zero_le _) ⟨⟨rfl,λc hc=>by simp at hc⟩,rfl⟩;rintro i _ _ hi ⟨⟨rfl,seen⟩,rfl⟩;cases q:ltI (Int.ofNat i) (Int.ofNat l.length)with
  |false=>
   have hie:i=l.length:=by have:=ce q;omega
   rw [hie,List.take_length]at seen
   repeat' (first
    |(refine WLg.mk ?_;first
    |refine aa rfl rfl rfl rfl ?_)|apply ac|refine ae rfl ?_|apply ai|apply ah|refine ak rfl (λht=>Nx ht (by with_reducible assumption)) (λht=>?_)|apply av|apply ap|apply bG.norm|apply bG.exit|apply OnC.exit|fail)
   exact⟨.inr rfl,_,rfl,.flat rfl,true,rfl,λ_=>seen⟩
  |true=>
   have hlt:=bL q;have hle:=kc q;have hcz:=fJ (bM l i);have hgl:=jF (bM l i).guards;have hlg':(bM l i).guards.length<9223372036854775808:=by omega
   have c40:=f40 (bM l i).name.size (bT (bM l i).name.data.toList) (by omega);have c54:=R.all (bM l i).pats (by omega);have c55:=R.body (bM l i).body (by omega);have c54g:∀k,Nat.blt k (bM l i).guards.length=true->db 54 [.lst (di (bM l i).guards k).length 11 (exL (di (bM l i).guards k))]:=λk h=>R.all _ (by have:=vJ h;omega);cases z:nmV (bM l i).name.size (bT (bM l i).name.data.toList)with
   |false=>
    rw [z]at c40
    repeat' (first
     |(refine WLg.mk ?_;first
     |refine aa rfl rfl rfl rfl ?_|refine aa rfl rfl (bN Hy) rfl ?_|refine ab rfl rfl rfl rfl ?_|refine ab rfl rfl (gj Hy) rfl ?_|refine aF rfl rfl rfl rfl rfl ?_|refine aL rfl rfl rfl rfl rfl rfl rfl rfl rfl ?_|refine aq rfl rfl rfl (c40) rfl ?_)|apply ac|refine ae rfl ?_|refine ay rfl rfl ?_|apply ai|apply ah|apply aj|apply al|refine aD rfl ?_|refine ak rfl (λht=>?_) (λht=>Nx (by with_reducible assumption) ht)|apply ap|apply bG.norm|apply bG.ret|apply OnC.ret|fail)
    all_goals exact⟨.inr rfl,_,rfl,.flat rfl,false,rfl,λh=>by cases h⟩
   |true=>
    rw [z]at c40;have nx:NmC (l.take (i+1)):=λc hc=>by
     rw [List.take_add_one,show l[i]? =some (bM l i)from cO q]at hc;rcases List.mem_append.1 hc with hc|hc
     ·exact seen c hc
     ·have:c=bM l i:=by simpa using hc
      rw [this];exact z
    repeat' (first
     |(refine WLg.mk ?_;first
     |refine aa rfl rfl rfl rfl ?_|refine aa rfl rfl (bN Hy) rfl ?_|refine ab rfl rfl rfl rfl ?_|refine ab rfl rfl (gj Hy) rfl ?_|refine aF rfl rfl rfl rfl rfl ?_|refine aL rfl rfl rfl rfl rfl rfl rfl rfl rfl ?_|refine aq rfl rfl rfl (c40) rfl ?_|refine aq rfl rfl rfl (c54) rfl ?_|refine aq rfl rfl rfl (c55) rfl ?_)|apply ac|refine ae rfl ?_|refine ay rfl rfl ?_|refine az rfl (λht=>?_) (λht=>?_)|refine aH (t:=58) (λb=>rfl) ?_ (λb=>?_)|apply ai|apply ah|apply aj|apply al|refine ak rfl (λht=>?_) (λht=>Nx (by with_reducible assumption) ht)|refine ak rfl (λht=>?_) (λht=>?_)|apply ap|apply bG.norm|apply bG.ret|apply OnC.ret|exact⟨⟨_,rfl⟩,rfl⟩|fail)
    ·exact⟨.inr rfl,_,rfl,.flat rfl,false,rfl,λh=>by cases h⟩
    refine aw (ED (k:=1) (cs:=clO (bM l i)) (l:=fr41' l (-1) true i 0) (by repeat' (first|exact .nil|refine .fz rfl ?_|refine .cons rfl ?_ ?_|refine .cons (pO Hy Hy) ?_ ?_|exact .flat rfl|exact pxE _|exact pxS _|exact pxC _|exact pxM _|exact pxG _|exact pxL _|exact pxe _|exact pxq _|exact pxqs _|exact FH _|exact pxqm _|exact pxs _|exact pxc _|exact pxm _|assumption)) rfl rfl rfl (by first|exact λc hc=>(cZ _ c hc).x|exact λc hc=>(fM _ c hc).x|exact λc hc=>(gz _ c hc).x|exact λc hc=>(jT _ c hc).x) rfl) ?_;refine ax (bM l i).guards.length (λk x h=>x=fr41' l (-1) true i k/\h=H0) ?_ (i:=0) (Nat.zero_le _) ⟨rfl,rfl⟩;rintro k _ _ hk ⟨rfl,rfl⟩
    repeat' (first
     |(refine WLg.mk ?_;first
     |refine aa rfl rfl rfl rfl ?_|refine aa rfl rfl (bN Hy) rfl ?_|refine ab rfl rfl rfl rfl ?_|refine ab rfl rfl (dO (j:=0) (oY Hy) rfl _) rfl ?_|refine aq rfl rfl rfl (c54g _ Hy) rfl ?_)|apply ac|refine ae rfl ?_|refine ay rfl rfl ?_|refine az rfl (λht=>?_) (λht=>?_)|refine aH (t:=81) (λb=>rfl) ?_ (λb=>?_)|apply ai|apply ah|apply aj|apply al|refine ak rfl (λht=>?_) (λht=>?_)|apply av|apply ap|apply bG.norm|apply bG.ret|apply bG.exit|apply OnC.ret|apply OnC.exit|exact⟨⟨_,rfl⟩,rfl⟩|fail)
    all_goals first
     |exact⟨.inr rfl,_,rfl,.flat rfl,false,rfl,λh=>by cases h⟩|exact .norm ⟨_,_,cA KT rfl,bL Hy,rfl,rfl⟩|exact .norm ⟨_,_,cA KT rfl,hlt,⟨rfl,nx⟩,rfl⟩
 exact⟨b,k,ok⟩
set_option maxHeartbeats 4000000 in
theorem f22(m:Md)(hm:bH (mdO m)<=6000000):∃b,CP 22 [.agg (mdO m)] (.bool b)/\(b=true->NmF m.funcs):=by
 obtain⟨v,k,b,rfl,ok⟩:∃v,CP 22 [.agg (mdO m)] v/\∃b,v= .bool b/\(b=true->NmF m.funcs):=by
  refine dz Tryz.func22 (by decide) q22.2 rfl (bO (.agg (gS m)) px0) rfl ?_;have px:=gS m;have px2:bP (.eptr (mdO m) 0):= .eptr px;have hsz:=oV m;have c40:=f40 m.name.size (bT m.name.data.toList) (by omega);have hn1:=te m.exports;have hn2:=nk m.funcs
  repeat' (first
   |(refine WLg.mk ?_;first
   |refine aa rfl rfl rfl rfl ?_|refine ab rfl rfl rfl rfl ?_|refine aA rfl rfl rfl rfl px rfl ?_|refine aq rfl rfl rfl (c40) rfl ?_)|apply ac|refine ae rfl ?_|refine ay rfl rfl ?_|refine az rfl (λht=>?_) (λht=>?_)|refine aH (t:=19) (λb=>rfl) ?_ (λb=>?_)|apply ai|apply ah|apply aj|apply al|refine ak rfl (λht=>?_) (λht=>?_)|apply ap|apply bG.norm|apply bG.ret|exact⟨⟨_,rfl⟩,rfl⟩|fail)
  ·exact⟨.inr rfl,_,rfl,.flat rfl,false,rfl,λh=>by cases h⟩
  refine aw (cA (l:=fr22 m 0) KT rfl) ?_;refine ax m.exports.length (λi x h=>x=fr22 m i/\h=H0) ?_ (i:=0) (Nat.zero_le _) ⟨rfl,rfl⟩;rintro i _ _ hi ⟨rfl,rfl⟩;have hi2:i<9223372036854775807:=by omega
  have c40':i<m.exports.length->CP 40 [sV (dl m.exports i).name] (.bool (nmV (dl m.exports i).name.size (bT (dl m.exports i).name.data.toList))):=λh=>f40 _ _ (by have:=GE (ltb h);have:=Bk (dl m.exports i);omega)
  repeat' (first
   |(refine WLg.mk ?_;first
   |refine aa rfl rfl rfl rfl ?_|refine aa rfl rfl (bN Hy) rfl ?_|refine ab rfl rfl (EN Hy rfl) rfl ?_|refine ab rfl rfl rfl rfl ?_|refine aq rfl rfl rfl (c40' (bL Hy)) rfl ?_)|apply ac|refine ae rfl ?_|refine ay rfl rfl ?_|refine az rfl (λht=>?_) (λht=>?_)|refine aH (t:=52) (λb=>rfl) ?_ (λb=>?_)|apply ai|apply ah|apply aj|apply al|refine ak rfl (λht=>?_) (λht=>?_)|apply av|apply ap|apply bG.norm|apply bG.ret|apply bG.exit|apply OnC.ret|apply OnC.exit|exact⟨⟨_,rfl⟩,rfl⟩|fail)
  ·exact⟨.inr rfl,_,rfl,.flat rfl,false,rfl,λh=>by cases h⟩
  ·exact .norm ⟨_,_,cA KI rfl,bL Hy,rfl,rfl⟩
  ·refine aw (cA (l:=fr22f m 0) KT rfl) ?_
   refine ax m.funcs.length (λi x h=>(x=fr22f m i/\NmF (m.funcs.take i))/\h=H0) ?_ (i:=0) (Nat.zero_le _) ⟨⟨rfl,λf hf=>by simp at hf⟩,rfl⟩;clear hi hi2 c40' ht;rintro i _ _ hi ⟨⟨rfl,seen⟩,rfl⟩;have hi2:i<9223372036854775807:=by omega
   cases q:ltI (Int.ofNat i) (Int.ofNat m.funcs.length)with
   |false=>
    have hie:i=m.funcs.length:=by have:=ce q;omega
    rw [hie,List.take_length]at seen
    repeat' (first
     |(refine WLg.mk ?_;first
     |refine aa rfl rfl rfl rfl ?_|refine ab rfl rfl rfl rfl ?_)|apply ac|refine ae rfl ?_|apply ai|apply ah|refine ak rfl (λht=>Nx ht (by with_reducible assumption)) (λht=>?_)|apply av|apply ap|apply bG.norm|apply bG.exit|apply OnC.exit|fail)
    exact⟨.inr rfl,_,rfl,.flat rfl,true,rfl,λ_=>seen⟩
   |true=>
    have hlt:=bL q;obtain⟨b,c41,nm⟩:=f41n (cI m.funcs i).clauses (by have:=sF (ltb hlt);have:=j7 (cI m.funcs i);omega);have pf:=oB (cI m.funcs i);cases b with
    |false=>
     repeat' (first
      |(refine WLg.mk ?_;first
      |refine aa rfl rfl rfl rfl ?_|refine aa rfl rfl (bN Hy) rfl ?_|refine ab rfl rfl (hO Hy) rfl ?_|refine ab rfl rfl rfl rfl ?_|refine aC rfl rfl RA rfl rfl rfl rfl rfl rfl rfl RA PB rfl rfl ?_)
      |(show WX _ _ _ _ _ _ _ _ _ _;first
      |refine aW rfl rfl rfl ?_|refine aU rfl rfl rfl ?_|refine aI rfl rfl rfl rfl ?_|refine aG rfl rfl rfl rfl ?_|refine aT rfl rfl rfl (c41) .none rfl ?_|(fail_if_success refine WX.gt rfl ?_);refine aV rfl rfl rfl (λht=>?_) (λht=>?_)|refine aJ (by repeat' (first|exact bF.nil|refine bF.any (λh=>rfl) ?_|refine bF.first rfl ?_|refine bF.first (hO Hy) ?_|refine bF.snd (hO Hy) ?_|refine bF.any (λh=>hO Hy) ?_|refine bF.first (et (i:=0) (fD Hy) rfl) ?_|refine bF.snd (et (i:=0) (fD Hy) rfl) ?_|refine bF.any (λh=>et (i:=0) (fD Hy) rfl) ?_|refine bF.each (.cons rfl .nil) ?_|refine bF.each (.cons rfl (.cons rfl .nil)) ?_|refine bF.each (.cons rfl (.cons rfl (.cons rfl .nil))) ?_)) ?_)|apply ac|refine ae rfl ?_|apply ai|apply ah|apply aj|apply al|refine aD rfl ?_|refine ak rfl (λht=>?_) (λht=>Nx (by with_reducible assumption) ht)|apply ap|refine aK ?_|apply bG.norm|apply bG.ret|apply OnC.ret|fail)
     all_goals exact⟨.inr rfl,_,rfl,.flat rfl,false,rfl,λh=>by cases h⟩
    |true=>
     have nx:NmF (m.funcs.take (i+1)):=λf hf=>by
      rw [List.take_add_one,show m.funcs[i]? =some (cI m.funcs i)from cO q]at hf;rcases List.mem_append.1 hf with hf|hf
      ·exact seen f hf
      ·have:f=cI m.funcs i:=by simpa using hf
       rw [this];exact nm rfl
     repeat' (first
      |(refine WLg.mk ?_;first
      |refine aa rfl rfl rfl rfl ?_|refine aa rfl rfl (bN Hy) rfl ?_|refine ab rfl rfl (hO Hy) rfl ?_|refine ab rfl rfl rfl rfl ?_|refine aC rfl rfl RA rfl rfl rfl rfl rfl rfl rfl RA PB rfl rfl ?_)
      |(show WX _ _ _ _ _ _ _ _ _ _;first
      |refine aW rfl rfl rfl ?_|refine aU rfl rfl rfl ?_|refine aI rfl rfl (bN (i:=0) (fD Hy)) rfl ?_|refine aI rfl rfl rfl rfl ?_|refine aG rfl rfl (et (i:=0) (fD Hy) rfl) rfl ?_|refine aG rfl rfl rfl rfl ?_|refine aT rfl rfl rfl (c41) .none rfl ?_|(fail_if_success refine WX.gt rfl ?_);refine aV rfl rfl rfl (λht=>?_) (λht=>?_)|refine aJ (by repeat' (first|exact bF.nil|refine bF.any (λh=>rfl) ?_|refine bF.first rfl ?_|refine bF.first (hO Hy) ?_|refine bF.snd (hO Hy) ?_|refine bF.any (λh=>hO Hy) ?_|refine bF.first (et (i:=0) (fD Hy) rfl) ?_|refine bF.snd (et (i:=0) (fD Hy) rfl) ?_|refine bF.any (λh=>et (i:=0) (fD Hy) rfl) ?_|refine bF.each (.cons rfl .nil) ?_|refine bF.each (.cons rfl (.cons rfl .nil)) ?_|refine bF.each (.cons rfl (.cons rfl (.cons rfl .nil))) ?_)) ?_)|apply ac|refine ae rfl ?_|apply ai|apply ah|apply aj|apply al|refine aD rfl ?_|refine ak rfl (λht=>?_) (λht=>Nx (by with_reducible assumption) ht)|refine ak rfl (λht=>?_) (λht=>?_)|apply ap|refine aK ?_|apply bG.norm|apply bG.ret|apply OnC.ret|fail)
     all_goals first
      |exact⟨.inr rfl,_,rfl,.flat rfl,false,rfl,λh=>by cases h⟩|exact .norm ⟨_,_,cA KI rfl,hlt,⟨rfl,nx⟩,rfl⟩
 exact⟨b,k,ok⟩
def mn(f:Fu):Nat:=((clK f.clauses).map cnt).sum
def fnn(f:Fu):Nat:=((clK f.clauses).map λy=>(dL y).length).sum
theorem GW(f:Fu):mn f<=bH (fuO f):=by
 have h1:=jM (f:=cnt) (l:=clK f.clauses) λy _=>ug y;have h2:=gE f.clauses;have h3:=j7 f;unfold mn;omega
theorem F8(f:Fu):fnn f<=bH (fuO f):=by
 have h1:=jM (f:=λy=>(dL y).length) (l:=clK f.clauses) λy _=>jk y;have h2:=gE f.clauses;have h3:=j7 f;unfold fnn;omega
theorem nq{g:Fu->Nat}(h:∀f,g f<=bH (fuO f)):∀l:List Fu,(l.map g).sum<=bH (fuL l)
 |[]=>by simp
 |f ::l=>by
  have h1:=h f;have h2:=nq h l;show(g f+(l.map g).sum)<=bH (fuO f++fuL l);rw [cj];omega
theorem Cm(l:List Fu)(i:Nat):bH (fuL (l.take i))<=bH (fuL l):=iQ (f:=fuO) rfl (λ_ _=>rfl) l i
theorem y7{l:List Fu}{i:Nat}(h:i<l.length):l.take (i+1)=l.take i++[cI l i]:=by
 have:=cO (d:=fu0) (ltb h);rw [List.take_add_one,this];rfl
def E4(l:List Fu):Prop:=∀f,f∈l->mn f<=4000/\∀y,y∈clK f.clauses->dep y<=60
noncomputable section
def fr11(m:Md)(a b:Nat)(i:Nat):AL:=[(1,.eptr (mdO m) 0),(3,.int .i64 (Int.ofNat a)),(4,.int .i64 (Int.ofNat b)),(5,.int .i64 (Int.ofNat i))]
def fr11k(m:Md)(a b:Nat)(i:Nat)(l:List Ex)(k:Nat):AL:=[(1,.eptr (mdO m) 0),(3,.int .i64 (Int.ofNat a)),(4,.int .i64 (Int.ofNat b)),(5,.int .i64 (Int.ofNat i)),(6,.lst l.length 11 (exL l)),(7,.int .i64 (Int.ofNat k))]
end
def yl(m:Md)(r:Int):Prop:=r=0->E4 m.funcs/\(m.funcs.map mn).sum<=20000/\(m.funcs.map fnn).sum<=1000/\NmF m.funcs/\m.funcs.length<=200
theorem iS{m:Md}{r:Int}(h:r≠0):yl m r:=λq=>absurd q h
set_option maxHeartbeats 8000000 in
theorem f11(m:Md)(hm:bH (mdO m)<=6000000):∃r,CP 11 [.agg (mdO m)] (.int .i64 r)/\yl m r:=by
 obtain⟨v,c,r,rfl,ok⟩:∃v,CP 11 [.agg (mdO m)] v/\∃r,v= .int .i64 r/\yl m r:=by
  refine dz Tryz.func11 (by decide) q11.2 rfl (bO (.agg (gS m)) px0) rfl ?_;have px:=gS m;have px2:bP (.eptr (mdO m) 0):= .eptr px;have hsz:=oV m;obtain⟨b22,c22,nm22⟩:=f22 m hm;have hn2:=nk m.funcs;cases b22 with
  |false=>
   repeat' (first
    |(refine WLg.mk ?_;first
    |refine aa rfl rfl rfl rfl ?_|refine ab rfl rfl rfl rfl ?_|refine aA rfl rfl rfl rfl px rfl ?_|refine aq rfl rfl rfl (c22) rfl ?_)|apply ac|refine ae rfl ?_|apply ai|apply ah|refine aD rfl ?_|apply ap|apply bG.norm|apply bG.ret|fail)
   all_goals exact⟨.inr rfl,_,rfl,.flat rfl,_,rfl,iS (by decide)⟩
  |true=>
  have nm22:=nm22 rfl
  repeat' (first
   |(refine WLg.mk ?_;first
   |refine aa rfl rfl rfl rfl ?_|refine ab rfl rfl rfl rfl ?_|refine aA rfl rfl rfl rfl px rfl ?_|refine aq rfl rfl rfl (c22) rfl ?_)|apply ac|refine ae rfl ?_|refine ay rfl rfl ?_|refine az rfl (λht=>?_) (λht=>?_)|apply ai|apply ah|apply aj|apply al|refine aD rfl ?_|refine aB rfl ?_|refine ak rfl (λht=>?_) (λht=>?_)|apply ap|apply bG.norm|apply bG.ret|fail)
  ·exact⟨.inr rfl,_,rfl,.flat rfl,_,rfl,iS (by decide)⟩
  ·exact⟨.inr rfl,_,rfl,.flat rfl,_,rfl,iS (by decide)⟩
  ·have h200:m.funcs.length<=200:=ce Hy
   refine aw (cA (l:=fr11 m 0 0 0) KT rfl) ?_;refine ax m.funcs.length (λi x h=>(x=fr11 m (((m.funcs.take i).map mn).sum) (((m.funcs.take i).map fnn).sum) i/\E4 (m.funcs.take i))/\h=H0) ?_ (i:=0) (Nat.zero_le _) ⟨⟨rfl,λf h=>by simp at h⟩,rfl⟩;rintro i _ _ hi ⟨⟨rfl,seen⟩,rfl⟩;have hi2:i<9223372036854775807:=by omega
   have fsz:i<m.funcs.length->bH (clL (cI m.funcs i).clauses)<=5999993:=λh=>by have:=sF (ltb h);have:=j7 (cI m.funcs i);omega
   have c23:i<m.funcs.length->CP 23 [.lst (cI m.funcs i).clauses.length 4 (clL (cI m.funcs i).clauses)] (.lst (clK (cI m.funcs i).clauses).length 11 (exL (clK (cI m.funcs i).clauses))):=λh=>f23 _ (by have:=fsz h;omega);have c24:i<m.funcs.length->db 24 [.lst (cI m.funcs i).clauses.length 4 (clL (cI m.funcs i).clauses)]:=λh=>f24 _ (by have:=fsz h;have:=eT (cI m.funcs i).clauses;omega);have c25:i<m.funcs.length->CP 25 [.lst (clK (cI m.funcs i).clauses).length 11 (exL (clK (cI m.funcs i).clauses))] (.int .i64 (Int.ofNat (mn (cI m.funcs i)))):=λh=>f25 _ (by have:=fsz h;have:=gE (cI m.funcs i).clauses;omega)
   repeat' (first
    |(refine WLg.mk ?_;first
    |refine aa rfl rfl rfl rfl ?_|refine aa rfl rfl (bN Hy) rfl ?_|refine ab rfl rfl (vt Hy rfl) rfl ?_|refine ab rfl rfl rfl rfl ?_|refine aq rfl rfl rfl (c23 (bL Hy)) rfl ?_|refine aq rfl rfl rfl (c24 (bL Hy)) rfl ?_|refine aq rfl rfl rfl (c25 (bL Hy)) rfl ?_)|apply ac|refine ae rfl ?_|refine ay rfl rfl ?_|refine az rfl (λht=>?_) (λht=>?_)|apply ai|apply ah|apply aj|apply al|refine aD rfl ?_|refine ak rfl (λht=>?_) (λht=>?_)|apply av|apply ap|apply bG.norm|apply bG.ret|apply bG.exit|apply OnC.ret|apply OnC.exit|fail)
   ·exact⟨.inr rfl,_,rfl,.flat rfl,_,rfl,iS (by decide)⟩
   ·exact⟨.inr rfl,_,rfl,.flat rfl,_,rfl,iS (by decide)⟩
   ·rename_i hA hB
    have hlt:=bL hA;have hmn:mn (cI m.funcs i)<=4000:=by rw [fC]at ht;simp at ht;omega
    have hsm:=nq GW (m.funcs.take i);have hsf:=nq F8 (m.funcs.take i);have htk:=Cm m.funcs i;have h1:((m.funcs.take i).map mn).sum+mn (cI m.funcs i)<9223372036854775808:=by omega
    have hfz:=fsz hlt;have hcz:=gE (cI m.funcs i).clauses;have hln:=fX (clK (cI m.funcs i).clauses) 6000000 (by omega);have hfl:=sF (ltb hlt);clear c23 c24 c25 fsz;refine aw (cA (l:=fr11k m (((m.funcs.take i).map mn).sum+mn (cI m.funcs i)) (((m.funcs.take i).map fnn).sum+0) i (clK (cI m.funcs i).clauses) 0) (.cons rfl px2 (.cons (xh h1) (.flat rfl) (.cons rfl (.flat rfl) (.cons rfl (.flat rfl) (.cons rfl (pxE _) (.cons rfl (.flat rfl) .nil)))))) rfl) ?_;generalize hL:clK (cI m.funcs i).clauses=L at hln hcz ⊢;refine ax L.length (λk x h=>(x=fr11k m (((m.funcs.take i).map mn).sum+mn (cI m.funcs i)) (((m.funcs.take i).map fnn).sum+((L.take k).map λy=>(dL y).length).sum) i L k/\∀y,y∈L.take k->dep y<=60)/\h=H0) ?_ (i:=0) (Nat.zero_le _) ⟨⟨rfl,λy h=>by simp at h⟩,rfl⟩;rintro k _ _ hk ⟨⟨rfl,deep⟩,rfl⟩;have hk2:k<9223372036854775807:=by omega
    have hmz:k<L.length->bH (exO (bW L k))<6000001:=λh=>by have:=gR (il h);omega
    have c26:k<L.length->CP 26 [.agg (exO (bW L k))] (.lst (dL (bW L k)).length 11 (exL (dL (bW L k)))):=λh=>f26 _ (Nat.le_refl _) _ (hmz h);have c27:k<L.length->CP 27 [.agg (exO (bW L k))] (.int .i64 (Int.ofNat (dep (bW L k)))):=λh=>f27 _ (Nat.le_refl _) _ (hmz h);have c28:k<L.length->db 28 [.agg (exO (bW L k))]:=λh=>f28 _ (Nat.le_refl _) _ (hmz h);have hbl:∀{n k:Nat},(ltI (Int.ofNat k) (Int.ofNat n)=true)->k<n:=λh=>bL h
    repeat' (first
     |(refine WLg.mk ?_;first
     |refine aa rfl rfl rfl rfl ?_|refine aa rfl rfl (bN Hy) rfl ?_|refine ab rfl rfl (dA Hy) rfl ?_|refine aq rfl rfl rfl (c26 (bL Hy)) rfl ?_|refine aq rfl rfl rfl (c27 (bL Hy)) rfl ?_|refine aq rfl rfl rfl (c28 (bL Hy)) rfl ?_)|apply ac|refine ae rfl ?_|refine ay rfl rfl ?_|refine az rfl (λht=>?_) (λht=>?_)|apply ai|apply ah|apply aj|apply al|refine aD rfl ?_|refine ak rfl (λht=>?_) (λht=>?_)|apply av|apply ap|apply bG.norm|apply bG.ret|apply bG.exit|apply OnC.ret|apply OnC.exit|fail)
    ·exact⟨.inr rfl,_,rfl,.flat rfl,_,rfl,iS (by decide)⟩
    ·exact⟨.inr rfl,_,rfl,.flat rfl,_,rfl,iS (by decide)⟩
    ·rename_i hC hD
     have hklt:=bL hC;have hdk:dep (bW L k)<=60:=by rw [fC]at hD;simp at hD;omega
     have e1:=jM (f:=λy=>(dL y).length) (l:=L.take k) λy _=>jk y;have e2:=jG L k;have e3:=jk (bW L k);have e4:=gR (il hklt);have h2:(((m.funcs.take i).map fnn).sum+((L.take k).map λy=>(dL y).length).sum)+(dL (bW L k)).length<9223372036854775808:=by omega
     refine .norm ⟨_,_,cA (l:=fr11k m (((m.funcs.take i).map mn).sum+mn (cI m.funcs i)) ((((m.funcs.take i).map fnn).sum+((L.take k).map λy=>(dL y).length).sum)+(dL (bW L k)).length) i L (k+1)) (.cons rfl px2 (.cons rfl (.flat rfl) (.cons (xh h2) (.flat rfl) (.cons rfl (.flat rfl) (.cons rfl (pxE _) (.cons (dI hk2) (.flat rfl) .nil)))))) rfl,hklt,⟨?_,λy hy=>?_⟩,rfl⟩
     ·rw [lE hklt,List.map_append,List.sum_append,<-Nat.add_assoc]
      rfl
     ·rw [lE hklt]at hy
      rcases List.mem_append.1 hy with hy|hy
      ·exact deep y hy
      ·rw [List.mem_singleton.1 hy];exact hdk
    ·have hke:k=L.length:=by have:=ce ht;omega
     rw [hke,List.take_length]at deep ⊢;have hfn:fnn (cI m.funcs i)=(L.map λy=>(dL y).length).sum:=by rw [fnn,hL]
     refine .norm ⟨_,_,cA (l:=fr11 m (((m.funcs.take i).map mn).sum+mn (cI m.funcs i)) (((m.funcs.take i).map fnn).sum+(L.map λy=>(dL y).length).sum) (i+1)) (.cons rfl px2 (.cons rfl (.flat rfl) (.cons rfl (.flat rfl) (.cons (dI hi2) (.flat rfl) .nil)))) rfl,hlt,⟨?_,λf hf=>?_⟩,rfl⟩
     ·rw [y7 hlt,List.map_append,List.map_append,List.sum_append,List.sum_append,<-hfn]
      rfl
     ·rw [y7 hlt]at hf
      rcases List.mem_append.1 hf with hf|hf
      ·exact seen f hf
      ·rw [List.mem_singleton.1 hf,hL]
       exact⟨hmn,deep⟩
   ·exact⟨.inr rfl,_,rfl,.flat rfl,_,rfl,iS (by decide)⟩
   ·exact⟨.inr rfl,_,rfl,.flat rfl,_,rfl,iS (by decide)⟩
   ·rename_i hA hB
    have hie:i=m.funcs.length:=by have:=ce hA;omega
    rw [hie,List.take_length]at hB seen;rw [hie,List.take_length]at ht;refine⟨.inr rfl,_,rfl,.flat rfl,_,rfl,λ_=>⟨seen,?_,?_,nm22,h200⟩⟩
    ·rw [fC]at hB;simp at hB;omega
    ·rw [fC]at ht;simp at ht;omega
 exact⟨r,c,ok⟩
end
section
noncomputable def lz:V->Bool
 |.lst n _ _=>eqI (Int.ofNat n) 0
 |_=>true
theorem Lv.lenz{v:V}(h:Lv v):∃k,POp.run (.leng .sl) [v]=some (.int .i64 (Int.ofNat k))/\lz v=eqI (Int.ofNat k) 0:=by
 cases h with
 |nils=>exact⟨0,rfl,rfl⟩
 |lst h=>exact⟨_,rfl,rfl⟩
theorem pxF(f:FuncId):bP (.func (.func f) [] []):= .func px0 px0
noncomputable section
def vL(f:FuncId)(a:V):AL:=[(0,a),(1,.nils),(2,.func (.func f) [] []),(15,a),(16,.int .i64 (Int.ofNat 0)),(17,.int .i64 (Int.ofNat 0))]
end
theorem f117z{a:V}(h:Lv a):CP 117 [a,.nils,.func (.func 62) [] []] (.bool (lz a)):=by
 refine cS Tryz.func117 (by decide) H8.2 rfl (bO h.px (bO (.flat rfl) (bO (pxF 62) px0))) rfl ?_;have pa:=h.px;have pf:=pxF 62;obtain⟨k,e,ez⟩:=h.lenz
 repeat' (first
  |(refine WLg.mk ?_;first
  |refine aa rfl rfl e rfl ?_|refine aa rfl rfl rfl rfl ?_)|apply ac|refine ae rfl ?_|apply ai|apply ah|apply aj|apply al|refine ak rfl (λht=>?_) (λht=>?_)|apply ap|apply bG.norm|apply bG.ret|fail)
 ·exact⟨.inr rfl,_,rfl,.flat rfl,by rw [ez,show eqI (Int.ofNat k) 0=false by simpa using ht];rfl⟩
 obtain rfl:k=0:=by
  have:=qG ht
  simpa using this
 refine aw (cA (l:=vL 62 a) KT rfl) ?_;refine ax 0 (λi x h=>x=vL 62 a/\h=H0) ?_ (i:=0) (Nat.zero_le _) ⟨rfl,rfl⟩;rintro i _ _ hi ⟨rfl,rfl⟩
 repeat' (first
  |(refine WLg.mk ?_;first
  |refine aa rfl rfl rfl rfl ?_)|apply ac|refine ae rfl ?_|apply ai|apply ah|refine aB rfl ?_|apply av|apply ap|apply bG.norm|apply bG.exit|apply OnC.exit|fail)
 exact⟨.inr rfl,_,rfl,.flat rfl,by rw [ez];rfl⟩
theorem f118z{a:V}(h:Lv a):CP 118 [a,.nils,.func (.func 85) [] []] (.bool (lz a)):=by
 refine cS Tryz.func118 (by decide) H7.2 rfl (bO h.px (bO (.flat rfl) (bO (pxF 85) px0))) rfl ?_;have pa:=h.px;have pf:=pxF 85;obtain⟨k,e,ez⟩:=h.lenz
 repeat' (first
  |(refine WLg.mk ?_;first
  |refine aa rfl rfl e rfl ?_|refine aa rfl rfl rfl rfl ?_)|apply ac|refine ae rfl ?_|apply ai|apply ah|apply aj|apply al|refine ak rfl (λht=>?_) (λht=>?_)|apply ap|apply bG.norm|apply bG.ret|fail)
 ·exact⟨.inr rfl,_,rfl,.flat rfl,by rw [ez,show eqI (Int.ofNat k) 0=false by simpa using ht];rfl⟩
 obtain rfl:k=0:=by
  have:=qG ht
  simpa using this
 refine aw (cA (l:=vL 85 a) KT rfl) ?_;refine ax 0 (λi x h=>x=vL 85 a/\h=H0) ?_ (i:=0) (Nat.zero_le _) ⟨rfl,rfl⟩;rintro i _ _ hi ⟨rfl,rfl⟩
 repeat' (first
  |(refine WLg.mk ?_;first
  |refine aa rfl rfl rfl rfl ?_)|apply ac|refine ae rfl ?_|apply ai|apply ah|refine aB rfl ?_|apply av|apply ap|apply bG.norm|apply bG.exit|apply OnC.exit|fail)
 exact⟨.inr rfl,_,rfl,.flat rfl,by rw [ez];rfl⟩
theorem f119z{a:V}(h:Lv a):CP 119 [a,.nils,.func (.func 87) [] []] (.bool (lz a)):=by
 refine cS Tryz.func119 (by decide) H6.2 rfl (bO h.px (bO (.flat rfl) (bO (pxF 87) px0))) rfl ?_;have pa:=h.px;have pf:=pxF 87;obtain⟨k,e,ez⟩:=h.lenz
 repeat' (first
  |(refine WLg.mk ?_;first
  |refine aa rfl rfl e rfl ?_|refine aa rfl rfl rfl rfl ?_)|apply ac|refine ae rfl ?_|apply ai|apply ah|apply aj|apply al|refine ak rfl (λht=>?_) (λht=>?_)|apply ap|apply bG.norm|apply bG.ret|fail)
 ·exact⟨.inr rfl,_,rfl,.flat rfl,by rw [ez,show eqI (Int.ofNat k) 0=false by simpa using ht];rfl⟩
 obtain rfl:k=0:=by
  have:=qG ht
  simpa using this
 refine aw (cA (l:=vL 87 a) KT rfl) ?_;refine ax 0 (λi x h=>x=vL 87 a/\h=H0) ?_ (i:=0) (Nat.zero_le _) ⟨rfl,rfl⟩;rintro i _ _ hi ⟨rfl,rfl⟩
 repeat' (first
  |(refine WLg.mk ?_;first
  |refine aa rfl rfl rfl rfl ?_)|apply ac|refine ae rfl ?_|apply ai|apply ah|refine aB rfl ?_|apply av|apply ap|apply bG.norm|apply bG.exit|apply OnC.exit|fail)
 exact⟨.inr rfl,_,rfl,.flat rfl,by rw [ez];rfl⟩
theorem f122z{a:V}(h:Lv a):CP 122 [a,.nils,.func (.func 89) [] []] (.bool (lz a)):=by
 refine cS Tryz.func122 (by decide) H5.2 rfl (bO h.px (bO (.flat rfl) (bO (pxF 89) px0))) rfl ?_;have pa:=h.px;have pf:=pxF 89;obtain⟨k,e,ez⟩:=h.lenz
 repeat' (first
  |(refine WLg.mk ?_;first
  |refine aa rfl rfl e rfl ?_|refine aa rfl rfl rfl rfl ?_)|apply ac|refine ae rfl ?_|apply ai|apply ah|apply aj|apply al|refine ak rfl (λht=>?_) (λht=>?_)|apply ap|apply bG.norm|apply bG.ret|fail)
 ·exact⟨.inr rfl,_,rfl,.flat rfl,by rw [ez,show eqI (Int.ofNat k) 0=false by simpa using ht];rfl⟩
 obtain rfl:k=0:=by
  have:=qG ht
  simpa using this
 refine aw (cA (l:=vL 89 a) KT rfl) ?_;refine ax 0 (λi x h=>x=vL 89 a/\h=H0) ?_ (i:=0) (Nat.zero_le _) ⟨rfl,rfl⟩;rintro i _ _ hi ⟨rfl,rfl⟩
 repeat' (first
  |(refine WLg.mk ?_;first
  |refine aa rfl rfl rfl rfl ?_)|apply ac|refine ae rfl ?_|apply ai|apply ah|refine aB rfl ?_|apply av|apply ap|apply bG.norm|apply bG.exit|apply OnC.exit|fail)
 exact⟨.inr rfl,_,rfl,.flat rfl,by rw [ez];rfl⟩
theorem f83z{a:V}(h:Lv a):CP 83 [a,.nils,.func (.func 62) [] []] (.bool (lz a)):=by
 refine cS Tryz.func83 (by decide) q83.2 rfl (bO h.px (bO (.flat rfl) (bO (pxF 62) px0))) rfl ?_
 repeat' (first
  |(refine WLg.mk ?_;first
  |refine aa rfl rfl rfl rfl ?_|refine aq rfl rfl rfl (f117z h) rfl ?_)|apply ac|refine ae rfl ?_|apply ai|apply ah|apply ap|apply bG.norm|fail)
 exact⟨.inr rfl,_,rfl,.flat rfl,rfl⟩
theorem f84z{a:V}(h:Lv a):CP 84 [a,.nils,.func (.func 85) [] []] (.bool (lz a)):=by
 refine cS Tryz.func84 (by decide) q84.2 rfl (bO h.px (bO (.flat rfl) (bO (pxF 85) px0))) rfl ?_
 repeat' (first
  |(refine WLg.mk ?_;first
  |refine aa rfl rfl rfl rfl ?_|refine aq rfl rfl rfl (f118z h) rfl ?_)|apply ac|refine ae rfl ?_|apply ai|apply ah|apply ap|apply bG.norm|fail)
 exact⟨.inr rfl,_,rfl,.flat rfl,rfl⟩
theorem f86z{a:V}(h:Lv a):CP 86 [a,.nils,.func (.func 87) [] []] (.bool (lz a)):=by
 refine cS Tryz.func86 (by decide) q86.2 rfl (bO h.px (bO (.flat rfl) (bO (pxF 87) px0))) rfl ?_
 repeat' (first
  |(refine WLg.mk ?_;first
  |refine aa rfl rfl rfl rfl ?_|refine aq rfl rfl rfl (f119z h) rfl ?_)|apply ac|refine ae rfl ?_|apply ai|apply ah|apply ap|apply bG.norm|fail)
 exact⟨.inr rfl,_,rfl,.flat rfl,rfl⟩
theorem f88z{a:V}(h:Lv a):CP 88 [a,.nils,.func (.func 89) [] []] (.bool (lz a)):=by
 refine cS Tryz.func88 (by decide) q88.2 rfl (bO h.px (bO (.flat rfl) (bO (pxF 89) px0))) rfl ?_
 repeat' (first
  |(refine WLg.mk ?_;first
  |refine aa rfl rfl rfl rfl ?_|refine aq rfl rfl rfl (f122z h) rfl ?_)|apply ac|refine ae rfl ?_|apply ai|apply ah|apply ap|apply bG.norm|fail)
 exact⟨.inr rfl,_,rfl,.flat rfl,rfl⟩
noncomputable section
def ym:List V:=[.int .i64 0,.int .i64 0,.str 0 0,.str 0 0,.nils,.nils,.nils,.nils,.nils,.nils,.bool false]
end
theorem uu:∀c,c∈ym->bP c:=bO (.flat rfl) (bO (.flat rfl) (bO (.flat rfl) (bO (.flat rfl) (bO (.flat rfl) (bO (.flat rfl) (bO (.flat rfl) (bO (.flat rfl) (bO (.flat rfl) (bO (.flat rfl) (bO (.flat rfl) px0))))))))))
noncomputable section
def zq:V->Bool
 |.agg [.int _ k,.int _ a,.str n1 c1,.str n2 c2,l1,l2,l3,l4,l5,l6,.bool w]=>eqI k 0&&(eqI a 0&&(cV n1 c1 0 0&&(cV n2 c2 0 0&&(rz w false&&(lz l1&&(lz l2&&(lz l3&&(lz l4&&(lz l5&&lz l6)))))))))
 |_=>false
def zvB:V->Bool:=Classical.choose (⟨zq,rfl⟩:∃f:V->Bool,f=zq)
end
theorem pZ:zvB=zq:=Classical.choose_spec (⟨zq,rfl⟩:∃f:V->Bool,f=zq)
set_option maxHeartbeats 8000000 in
theorem f62z{v:V}(hv:lZ v):CP 62 [v,.agg ym] (.bool (zvB v)):=by
 have hp:=hv.px;rw [pZ];cases hv with
 |mk h1 h2 h3 h4 h5 h6=>
  rename_i k a n1 c1 n2 c2 l1 l2 l3 l4 l5 l6 w
  refine cS Tryz.func62 (by decide) q62.2 rfl (bO hp (bO (.agg uu) px0)) rfl ?_;have ha:=jJ (k:=k) (a:=a) (n1:=n1) (c1:=c1) (n2:=n2) (c2:=c2) (w:=w) h1 h2 h3 h4 h5 h6;have p1:=h1.px;have p2:=h2.px;have p3:=h3.px;have p4:=h4.px;have p5:=h5.px;have p6:=h6.px;have pz:=uu
  repeat' (first
   |(refine WLg.mk ?_;first
   |refine aa rfl rfl rfl rfl ?_|refine ab rfl rfl rfl rfl ?_|refine aA rfl rfl rfl rfl pz rfl ?_|refine aA rfl rfl RA rfl PB rfl ?_|refine aq rfl rfl rfl (f83z h1) rfl ?_|refine aq rfl rfl rfl (f84z h2) rfl ?_|refine aq rfl rfl rfl (f86z h3) rfl ?_|refine aq rfl rfl rfl (f86z h4) rfl ?_|refine aq rfl rfl rfl (f88z h5) rfl ?_|refine aq rfl rfl rfl (f88z h6) rfl ?_)|apply ac|refine ae rfl ?_|refine ay rfl rfl ?_|refine az rfl (λht=>?_) (λht=>?_)|apply ai|apply ah|apply ap|apply bG.norm|fail)
  all_goals exact⟨.inr rfl,_,rfl,.flat rfl,by(try dsimp only at*)<;>simp only [zq,Bool.true_and,Bool.false_and,Bool.and_false, *]<;>rfl⟩
end
end Ev
end Go.Proofs.YtdfphfdnoobikaaGreatDoor
