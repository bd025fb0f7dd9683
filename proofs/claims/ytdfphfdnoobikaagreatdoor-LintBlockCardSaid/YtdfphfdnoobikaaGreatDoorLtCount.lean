/-
  The reference:counts,depths,the fun expressions,the lengths of lists.
-/
import Derived.Test.YtdfphfdnoobikaaGreatDoorLtMod
namespace Go.Proofs.YtdfphfdnoobikaaGreatDoor
namespace Ev
section
theorem mF{a b:Nat}(h:a+b<9223372036854775808):cZ .i64 (Int.add (Int.ofNat a) (Int.ofNat b))=Int.ofNat (a+b):=by
 show(Bool.rec (motive:=fun _=>Int) (jP .i64 (Nat.mod (a+b) (gE .i64))) (Int.ofNat (a+b)) (Nat.blt (a+b) (iB .i64)):Int)=Int.ofNat (a+b)
 rw [show Nat.blt (a+b) (iB .i64)=true by simp [Nat.blt,iB];omega]
theorem wg{a b:Nat}(h:a+b<9223372036854775808):some (V.int .i64 (cZ .i64 (Int.add (Int.ofNat a) (Int.ofNat b))))=some (V.int .i64 (Int.ofNat (a+b))):=by rw [mF h]
theorem lH{l:List Ex}{i:Nat}(h:i<l.length):l.take (i+1)=l.take i++[bW l i]:=by
 have:=cV (d:=ex0) (ltb h)
 rw [List.take_add_one,this]
 rfl
theorem jE(l:List Ex)(i:Nat):bF (exL (l.take i))≤bF (exL l):=ii (by rw [exL]) cN l i
theorem il{l:List Ex}{i:Nat}(h:i<l.length):bW l i∈l:=ol (d:=ex0) (ltb h)
noncomputable section
def fr25(l:List Ex)(a i:Nat):AL:=[(0,.lst l.length 11 (exL l)),(3,.int .i64 (Int.ofNat a)),(4,.int .i64 (Int.ofNat i))]
end
structure Rc(s:Nat):Prop where
 many:∀l,bF (exL l)<s→ck Tryz.prog TP 25 [.lst l.length 11 (exL l)] (.int .i64 (Int.ofNat (l.map cnt).sum))
 count:∀x,bF (exO x)<s→ck Tryz.prog TP 43 [.agg (exO x)] (.int .i64 (Int.ofNat (cnt x)))
theorem ux{s:Nat}(R:Rc s)(hs:s≤6000000)(x:Ex)(hx:bF (exO x)<s+1):ck Tryz.prog TP 43 [.agg (exO x)] (.int .i64 (Int.ofNat (cnt x))):=by
 obtain⟨v,c,rfl⟩:∃v,ck Tryz.prog TP 43 [.agg (exO x)] v∧v= .int .i64 (Int.ofNat (cnt x)):=by
  refine cH Tryz.func43 (by decide) cf43_ok rfl (bO (pxe x) px0) rfl ?_
  have hp:=iA x
  have c44:=f44 x (by omega)
  have c25:=R.many (bX x) (by omega)
  have hc:=xf x
  have hl:=tG x
  repeat' (first
   |(refine WLg.mk ?_;first
   |refine aa rfl rfl rfl rfl ?_|refine ab rfl rfl rfl rfl ?_
   |refine az rfl rfl RA rfl PB rfl ?_
   |refine aq rfl rfl rfl (c44) rfl ?_|refine aq rfl rfl rfl (c25) rfl ?_)
   |refine ah ?_|refine ac rfl ?_|refine ai ?_|refine ae ?_|refine ap ?_|refine bE.norm ?_|fail)
  refine⟨.inr rfl,_,rfl,.flat rfl,?_⟩
  have:=@mF ((bX x).map cnt).sum 1 (by omega)
  rw [hc,Nat.add_comm 1]
  exact congrArg (V.int .i64) this
 exact c
set_option maxHeartbeats 2000000 in
theorem CH{s:Nat}(hc:∀x,bF (exO x)<s+1→ck Tryz.prog TP 43 [.agg (exO x)] (.int .i64 (Int.ofNat (cnt x))))(hs:s≤6000000)(l:List Ex)(hl:bF (exL l)<s+1):ck Tryz.prog TP 25 [.lst l.length 11 (exL l)] (.int .i64 (Int.ofNat (l.map cnt).sum)):=by
 obtain⟨v,c,rfl⟩:∃v,ck Tryz.prog TP 25 [.lst l.length 11 (exL l)] v∧v= .int .i64 (Int.ofNat (l.map cnt).sum):=by
  refine cH Tryz.func25 (by decide) cf25_ok rfl (bO (pxE l) px0) rfl ?_
  have hn:=dt l
  repeat' (first
   |(refine WLg.mk ?_;first
   |refine aa rfl rfl rfl rfl ?_)
   |refine ah ?_|refine ac rfl ?_|refine ai ?_|refine ae ?_|refine aj ?_|refine bE.norm ?_|fail)
  refine av (cy (l:=fr25 l 0 0) KT rfl) ?_
  refine aw l.length (fun i x h=>x=fr25 l ((l.take i).map cnt).sum i∧h=H0) ?_ (i:=0) (Nat.zero_le _) ⟨rfl,rfl⟩
  rintro i _ _ hi ⟨rfl,rfl⟩
  have hi2:i<9223372036854775807:=by omega
  have c43:i<l.length→ck Tryz.prog TP 43 [.agg (exO (bW l i))] (.int .i64 (Int.ofNat (cnt (bW l i)))):=fun h=>hc _ (by have:=gR (il h);omega)
  repeat' (first
   |(refine WLg.mk ?_;first
   |refine aa rfl rfl rfl rfl ?_|refine aa rfl rfl (bM Hy) rfl ?_|refine ab rfl rfl (dv Hy) rfl ?_
   |refine aq rfl rfl rfl (c43 (bK Hy)) rfl ?_)
   |refine ah ?_|refine ac rfl ?_|refine ai ?_|refine ae ?_|refine aj ?_|refine al ?_
   |refine ak rfl (fun ht=>?_) (fun ht=>?_)|refine au ?_|refine ap ?_|refine bE.norm ?_|refine bE.exit ?_
   |refine OnC.exit ?_|fail)
  ·have hlt:=bK ht
   have h1:((l.take i).map cnt).sum+cnt (bW l i)<9223372036854775808:=by
    have:=jL (f:=cnt) (l:=l.take i) fun y _=>tG y
    have:=jE l i
    have:=tG (bW l i)
    have:=gR (il hlt)
    omega
   refine .norm ⟨_,_,cy (l:=fr25 l (((l.take i).map cnt).sum+cnt (bW l i)) (i+1)) (.cons rfl (pxE l) (.cons (wg h1) (.flat rfl) (.cons (dB hi2) (.flat rfl) .nil))) rfl,hlt,?_,rfl⟩
   rw [lH hlt,List.map_append,List.sum_append]
   simp [fr25]
  ·have hie:i=l.length:=by have:=ci ht;omega
   refine⟨.inr rfl,_,rfl,.flat rfl,?_⟩
   rw [hie,List.take_length]
   rfl
 exact c
theorem AS:∀s,s≤6000001→Rc s
 |0,_=>⟨fun _ h=>absurd h (by omega),fun _ h=>absurd h (by omega)⟩
 |s+1,hs=>⟨fun l hl=>CH (fun x hx=>ux (AS s (by omega)) (by omega) x hx) (by omega) l hl,fun x hx=>ux (AS s (by omega)) (by omega) x hx⟩
theorem f25(l:List Ex)(hl:bF (exL l)≤6000000):ck Tryz.prog TP 25 [.lst l.length 11 (exL l)] (.int .i64 (Int.ofNat (l.map cnt).sum)):=(AS 6000001 (Nat.le_refl _)).many l (by omega)
noncomputable section
def fr27(x:Ex)(a i:Nat):AL:=[(3,.int .i64 (Int.ofNat a)),(4,.lst (bX x).length 11 (exL (bX x))),(5,.int .i64 (Int.ofNat i))]
end
theorem A7(a b:Nat):POp.run .maxs [.int .i64 (Int.ofNat a),.int .i64 (Int.ofNat b)]=some (.int .i64 (Int.ofNat (max a b))):=by
 show ob (some (V.int .i64 (Bool.rec (motive:=fun _=>Int) (Int.ofNat a) (Int.ofNat b) (ltI (Int.ofNat a) (Int.ofNat b))))) some=_
 show some (V.int .i64 (Bool.rec (motive:=fun _=>Int) (Int.ofNat a) (Int.ofNat b) (Nat.blt a b)))=_
 by_cases h:a<b
 ·rw [ltb h,Nat.max_eq_right (Nat.le_of_lt h)]
 ·rw [He h,Nat.max_eq_left (by omega)]
set_option maxHeartbeats 2000000 in
theorem f27:∀s,s≤6000001→∀x,bF (exO x)<s→ck Tryz.prog TP 27 [.agg (exO x)] (.int .i64 (Int.ofNat (dep x)))
 |0,_,_,h=>absurd h (by omega)
 |s+1,hs,x,hx=>by
  have ih:=f27 s (by omega)
  obtain⟨v,c,rfl⟩:∃v,ck Tryz.prog TP 27 [.agg (exO x)] v∧v= .int .i64 (Int.ofNat (dep x)):=by
   refine cH Tryz.func27 (by decide) cf27_ok rfl (bO (pxe x) px0) rfl ?_
   have hp:=iA x
   have c44:=f44 x (by omega)
   have hn:=dt (bX x)
   repeat' (first
    |(refine WLg.mk ?_;first
    |refine aa rfl rfl rfl rfl ?_|refine ab rfl rfl rfl rfl ?_
    |refine az rfl rfl RA rfl PB rfl ?_
    |refine aq rfl rfl rfl (c44) rfl ?_)
    |refine ah ?_|refine ac rfl ?_|refine ai ?_|refine ae ?_|refine aj ?_|refine bE.norm ?_|fail)
   refine av (cy (l:=fr27 x 0 0) KT rfl) ?_
   refine aw (bX x).length (fun i y h=>y=fr27 x (((bX x).take i).map dep |>.foldl max 0) i∧h=H0) ?_ (i:=0) (Nat.zero_le _) ⟨rfl,rfl⟩
   rintro i _ _ hi ⟨rfl,rfl⟩
   have hi2:i<9223372036854775807:=by omega
   have c27:i<(bX x).length→ck Tryz.prog TP 27 [.agg (exO (bW (bX x) i))] (.int .i64 (Int.ofNat (dep (bW (bX x) i)))):=fun h=>ih _ (by have:=gR (il h);omega)
   repeat' (first
    |(refine WLg.mk ?_;first
    |refine aa rfl rfl (A7 _ _) rfl ?_|refine aa rfl rfl rfl rfl ?_|refine aa rfl rfl (bM Hy) rfl ?_
    |refine ab rfl rfl (dv Hy) rfl ?_|refine aq rfl rfl rfl (c27 (bK Hy)) rfl ?_)
    |refine ah ?_|refine ac rfl ?_|refine ai ?_|refine ae ?_|refine aj ?_|refine al ?_
    |refine ak rfl (fun ht=>?_) (fun ht=>?_)|refine au ?_|refine ap ?_|refine bE.norm ?_|refine bE.exit ?_
    |refine OnC.exit ?_|fail)
   ·have hlt:=bK ht
    refine .norm ⟨_,_,cy (l:=fr27 x (max (((bX x).take i).map dep |>.foldl max 0) (dep (bW (bX x) i))) (i+1)) (.cons rfl (.flat rfl) (.cons rfl (pxE _) (.cons (dB hi2) (.flat rfl) .nil))) rfl,hlt,?_,rfl⟩
    rw [lH hlt,List.map_append,List.foldl_append]
    rfl
   ·have hie:i=(bX x).length:=by have:=ci ht;omega
    refine⟨.inr rfl,_,rfl,.flat rfl,?_⟩
    rw [hie,List.take_length]
    have hd:=tw x
    have hl:=E6 x
    have:=@mF (((bX x).map dep).foldl max 0) 1 (by omega)
    rw [hd,Nat.add_comm 1]
    exact congrArg (V.int .i64) this
  exact c
def dK(x:Ex):List Ex:=(if x.kind=13 then [x]else [])++((bX x).attach.map fun y=>dK y.1).flatten
termination_by bF (exO x)
decreasing_by exact jX y.2
theorem mX(x:Ex):dK x=(if x.kind=13 then [x]else [])++((bX x).map dK).flatten:=by
 rw [dK,List.attach_map_val (l:=bX x) (f:=dK)]
theorem ni{f:Ex→List Ex}:∀{l:List Ex},(∀y,y∈l→(f y).length≤bF (exO y))→(l.map f).flatten.length≤bF (exL l)
 |[],_=>by simp
 |a ::l,h=>by
  have h1:=h a List.mem_cons_self
  have h2:=ni (l:=l) fun y hy=>h y (List.mem_cons_of_mem _ hy)
  rw [cN,bY,List.map_cons,List.flatten_cons,List.length_append]
  omega
theorem jh(x:Ex):(dK x).length≤bF (exO x):=by
 have key:∀n (x:Ex),bF (exO x)≤n→(dK x).length≤bF (exO x):=by
  intro n
  induction n with
  |zero=>intro x h;have:=hO x;omega
  |succ n ih=>
   intro x h
   rw [mX]
   have:=ni (f:=dK) (l:=bX x) fun y hy=>ih y (by have:=jX hy;omega)
   have:=iA x
   rw [List.length_append]
   split
   ·simp only [List.length_cons,List.length_nil];omega
   ·simp only [List.length_nil];omega
 exact key _ x (Nat.le_refl _)
noncomputable section
def fr26(x:Ex)(xs:List Ex)(i:Nat):AL:=[(3,mc xs),(4,.lst (bX x).length 11 (exL (bX x))),(5,.int .i64 (Int.ofNat i))]
def fr28(x:Ex)(i:Nat):AL:=[(4,.lst (bX x).length 11 (exL (bX x))),(5,.int .i64 (Int.ofNat i))]
end
set_option maxHeartbeats 4000000 in
theorem f26:∀s,s≤6000001→∀x,bF (exO x)<s→ck Tryz.prog TP 26 [.agg (exO x)] (.lst (dK x).length 11 (exL (dK x)))
 |0,_,_,h=>absurd h (by omega)
 |s+1,hs,x,hx=>by
  have ih:=f26 s (by omega)
  obtain⟨xs,rfl,c⟩:∃xs,xs=dK x∧ck Tryz.prog TP 26 [.agg (exO x)] (.lst xs.length 11 (exL xs)):=by
   refine nq Tryz.func26 (by decide) cf26_ok rfl (bO (pxe x) px0) rfl rfl ?_
   have hp:=iA x
   have c44:=f44 x (by omega)
   have hn:=dt (bX x)
   repeat' (first
    |(refine WLg.mk ?_;first
    |refine aa rfl rfl rfl rfl ?_|refine ab rfl rfl rfl rfl ?_|refine aQ (cs:=exO x++[]) rfl rfl rfl rfl rfl rfl (nk x) rfl ?_
    |refine az rfl rfl RA rfl PB rfl ?_
    |refine aq rfl rfl rfl (c44) rfl ?_
    |refine aX (xs:=[]) (y:=x) rfl rfl (by decide) KP KP rfl ?_)
    |refine ah ?_|refine ac rfl ?_|refine ai ?_|refine ae ?_|refine aj ?_|refine al ?_
    |refine ak rfl (fun ht=>?_) (fun ht=>?_)|refine bE.norm ?_|fail)
   ·have hk:(if x.kind=13 then [x]else [])=[]++[x]:=by rw [if_pos (oP ht)];rfl
    refine av (bR (l:=fr26 x ([]++[x]) 0) KH) ?_
    refine aw (bX x).length (fun i y h=>∃xs,xs=([]++[x])++(((bX x).take i).map dK).flatten∧y=fr26 x xs i∧h=HA xs) ?_ (i:=0) (Nat.zero_le _) ⟨_,by simp,rfl,rfl⟩
    rintro i _ _ hi ⟨xs,hxs,rfl,rfl⟩
    have hi2:i<9223372036854775807:=by omega
    have hxl:xs.length≤6000000:=by
     have h1:=ni (f:=dK) (l:=(bX x).take i) fun y _=>jh y
     have h2:=jE (bX x) i
     rw [hxs,List.length_append]
     simp only [List.length_append,List.length_cons,List.length_nil]
     omega
    have hxn:i<(bX x).length→xs.length+(dK (bW (bX x) i)).length≤50000000:=fun h=>by have:=gR (il h);have:=jh (bW (bX x) i);omega
    have c26:i<(bX x).length→ck Tryz.prog TP 26 [.agg (exO (bW (bX x) i))] (.lst (dK (bW (bX x) i)).length 11 (exL (dK (bW (bX x) i)))):=fun h=>ih _ (by have:=gR (il h);omega)
    repeat' (first
     |(refine WLg.mk ?_;first
     |refine aa rfl rfl rfl rfl ?_|refine aa rfl rfl (bM Hy) rfl ?_|refine ab rfl rfl (dv Hy) rfl ?_
     |refine aq rfl rfl rfl (c26 (bK Hy)) rfl ?_
     |refine aM (ys:=dK (bW (bX x) i)) rfl rfl (hxn (bK Hy)) KP KP rfl ?_)
     |refine ah ?_|refine ac rfl ?_|refine ai ?_|refine ae ?_|refine aj ?_|refine al ?_
     |refine ak rfl (fun ht=>?_) (fun ht=>?_)|refine au ?_|refine ap ?_|refine bE.norm ?_|refine bE.exit ?_
     |refine OnC.exit ?_|fail)
    ·have hlt:=bK (by assumption:ltI (Int.ofNat i) (Int.ofNat (bX x).length)=true)
     exact .norm ⟨_,_,bR KH,hlt,_,by rw [lH hlt,List.map_append,List.flatten_append,hxs];simp,rfl,rfl⟩
    ·have hie:i=(bX x).length:=by have:=ci (by assumption:ltI (Int.ofNat i) (Int.ofNat (bX x).length)=false);omega
     exact⟨.inr rfl,_,by rw [mX,hk,hxs,hie,List.take_length],rfl,rfl,by omega⟩
   ·have hk:(if x.kind=13 then [x]else [])=[]:=by rw [if_neg (sq ht)]
    refine av (bR (l:=fr26 x ([]) 0) KH) ?_
    refine aw (bX x).length (fun i y h=>∃xs,xs=([])++(((bX x).take i).map dK).flatten∧y=fr26 x xs i∧h=HA xs) ?_ (i:=0) (Nat.zero_le _) ⟨_,by simp,rfl,rfl⟩
    rintro i _ _ hi ⟨xs,hxs,rfl,rfl⟩
    have hi2:i<9223372036854775807:=by omega
    have hxl:xs.length≤6000000:=by
     have h1:=ni (f:=dK) (l:=(bX x).take i) fun y _=>jh y
     have h2:=jE (bX x) i
     rw [hxs,List.length_append]
     simp only [List.length_nil]
     omega
    have hxn:i<(bX x).length→xs.length+(dK (bW (bX x) i)).length≤50000000:=fun h=>by have:=gR (il h);have:=jh (bW (bX x) i);omega
    have c26:i<(bX x).length→ck Tryz.prog TP 26 [.agg (exO (bW (bX x) i))] (.lst (dK (bW (bX x) i)).length 11 (exL (dK (bW (bX x) i)))):=fun h=>ih _ (by have:=gR (il h);omega)
    repeat' (first
     |(refine WLg.mk ?_;first
     |refine aa rfl rfl rfl rfl ?_|refine aa rfl rfl (bM Hy) rfl ?_|refine ab rfl rfl (dv Hy) rfl ?_
     |refine aq rfl rfl rfl (c26 (bK Hy)) rfl ?_
     |refine aM (ys:=dK (bW (bX x) i)) rfl rfl (hxn (bK Hy)) KP KP rfl ?_)
     |refine ah ?_|refine ac rfl ?_|refine ai ?_|refine ae ?_|refine aj ?_|refine al ?_
     |refine ak rfl (fun ht=>?_) (fun ht=>?_)|refine au ?_|refine ap ?_|refine bE.norm ?_|refine bE.exit ?_
     |refine OnC.exit ?_|fail)
    ·have hlt:=bK (by assumption:ltI (Int.ofNat i) (Int.ofNat (bX x).length)=true)
     exact .norm ⟨_,_,bR KH,hlt,_,by rw [lH hlt,List.map_append,List.flatten_append,hxs];simp,rfl,rfl⟩
    ·have hie:i=(bX x).length:=by have:=ci (by assumption:ltI (Int.ofNat i) (Int.ofNat (bX x).length)=false);omega
     exact⟨.inr rfl,_,by rw [mX,hk,hxs,hie,List.take_length],rfl,rfl,by omega⟩
  exact c
set_option maxHeartbeats 4000000 in
theorem f28:∀s,s≤6000001→∀x,bF (exO x)<s→cS 28 [.agg (exO x)]
 |0,_,_,h=>absurd h (by omega)
 |s+1,hs,x,hx=>by
  have ih:=f28 s (by omega)
  refine cA Tryz.func28 (by decide) cf28_ok rfl (bO (pxe x) px0) rfl ?_
  have hp:=iA x
  have hsz:=dL x
  have c44:=f44 x (by omega)
  have hn:=dt (bX x)
  have g1:=f24 x.clauses (by have:=eS x.clauses;omega)
  have g2:=f24 x.catches (by have:=eS x.catches;omega)
  repeat' (first
   |(refine WLg.mk ?_;first
   |refine aa rfl rfl rfl rfl ?_|refine ab rfl rfl rfl rfl ?_
   |refine az rfl rfl RA rfl PB rfl ?_
   |refine aq rfl rfl rfl (c44) rfl ?_|refine aq rfl rfl rfl (g1) rfl ?_|refine aq rfl rfl rfl (g2) rfl ?_)
   |refine ah ?_|refine ac rfl ?_|refine ax rfl rfl ?_|refine ay rfl (fun ht=>?_) (fun ht=>?_)
   |refine aH (t:=46) (fun b=>rfl) ?_ (fun b=>?_)|refine ai ?_|refine ae ?_|refine aj ?_|refine al ?_
   |refine ak rfl (fun ht=>?_) (fun ht=>?_)|refine ap ?_|refine bE.norm ?_|refine bE.ret ?_|exact⟨⟨_,rfl⟩,rfl⟩
   |exact⟨.inr rfl,_,rfl,.flat rfl,_,rfl⟩|fail)
  all_goals (
   refine av (cy (l:=fr28 x 0) KT rfl) ?_
   refine aw (bX x).length (fun i y h=>y=fr28 x i∧h=H0) ?_ (i:=0) (Nat.zero_le _) ⟨rfl,rfl⟩
   rintro i _ _ hi ⟨rfl,rfl⟩
   have hi2:i<9223372036854775807:=by omega
   have c28:i<(bX x).length→cS 28 [.agg (exO (bW (bX x) i))]:=fun h=>ih _ (by have:=gR (il h);omega)
   repeat' (first
    |(refine WLg.mk ?_;first
    |refine aa rfl rfl rfl rfl ?_|refine aa rfl rfl (bM Hy) rfl ?_|refine ab rfl rfl (dv Hy) rfl ?_
    |refine aq rfl rfl rfl (c28 (bK Hy)) rfl ?_)
    |refine ah ?_|refine ac rfl ?_|refine ai ?_|refine ae ?_|refine aj ?_|refine al ?_
    |refine ak rfl (fun ht=>?_) (fun ht=>?_)|refine au ?_|refine ap ?_|refine bE.norm ?_|refine bE.ret ?_
    |refine bE.exit ?_|refine OnC.ret ?_|refine OnC.exit ?_|exact⟨.inr rfl,_,rfl,.flat rfl,_,rfl⟩|fail)
   all_goals exact .norm ⟨_,_,cy KI rfl,bK Hy,rfl,rfl⟩)
end
section
noncomputable section
def fr22(m:Md)(i:Nat):AL:=[(1,.eptr (mdO m) 0),(3,.int .i64 (Int.ofNat i))]
def fr22f(m:Md)(i:Nat):AL:=[(1,.eptr (mdO m) 0),(4,.int .i64 (Int.ofNat i))]
end
theorem gF{n:Nat}(h:eqI (Int.ofNat n) 0=false):Nat.blt 0 n=true:=by
 have:=sq h
 exact ltb (by
  have:Int.ofNat n≠0:=this
  simp at this
  omega)
set_option maxHeartbeats 4000000 in
theorem f22(m:Md)(hm:bF (mdO m)≤6000000):cS 22 [.agg (mdO m)]:=by
 refine cA Tryz.func22 (by decide) cf22_ok rfl (bO (.agg (fM m)) px0) rfl ?_
 have px:=fM m
 have px2:bN (.eptr (mdO m) 0):= .eptr px
 have hsz:=mU m
 have c40:=f40 m.name.size (bT m.name.data.toList) (by omega)
 have hn1:=sH m.exports
 have hn2:=mY m.funcs
 repeat' (first
  |(refine WLg.mk ?_;first
  |refine aa rfl rfl rfl rfl ?_|refine ab rfl rfl rfl rfl ?_|refine az rfl rfl rfl rfl px rfl ?_|refine aq rfl rfl rfl (c40) rfl ?_)
  |refine ah ?_|refine ac rfl ?_|refine ax rfl rfl ?_|refine ay rfl (fun ht=>?_) (fun ht=>?_)
  |refine aH (t:=19) (fun b=>rfl) ?_ (fun b=>?_)|refine ai ?_|refine ae ?_|refine aj ?_|refine al ?_
  |refine ak rfl (fun ht=>?_) (fun ht=>?_)|refine ap ?_|refine bE.norm ?_|refine bE.ret ?_|exact⟨⟨_,rfl⟩,rfl⟩
  |exact⟨.inr rfl,_,rfl,.flat rfl,_,rfl⟩|fail)
 refine av (cy (l:=fr22 m 0) KT rfl) ?_
 refine aw m.exports.length (fun i x h=>x=fr22 m i∧h=H0) ?_ (i:=0) (Nat.zero_le _) ⟨rfl,rfl⟩
 rintro i _ _ hi ⟨rfl,rfl⟩
 have hi2:i<9223372036854775807:=by omega
 have c40':i<m.exports.length→cS 40 [sV (dz m.exports i).name]:=fun h=>f40 _ _ (by have:=Fk (ltb h);have:=Ar (dz m.exports i);omega)
 repeat' (first
  |(refine WLg.mk ?_;first
  |refine aa rfl rfl rfl rfl ?_|refine aa rfl rfl (bM Hy) rfl ?_|refine ab rfl rfl (DP Hy rfl) rfl ?_
  |refine ab rfl rfl rfl rfl ?_|refine aq rfl rfl rfl (c40' (bK Hy)) rfl ?_)
  |refine ah ?_|refine ac rfl ?_|refine ax rfl rfl ?_|refine ay rfl (fun ht=>?_) (fun ht=>?_)
  |refine aH (t:=52) (fun b=>rfl) ?_ (fun b=>?_)|refine ai ?_|refine ae ?_|refine aj ?_|refine al ?_
  |refine ak rfl (fun ht=>?_) (fun ht=>?_)|refine au ?_|refine ap ?_|refine bE.norm ?_|refine bE.ret ?_
  |refine bE.exit ?_|refine OnC.ret ?_|refine OnC.exit ?_|exact⟨⟨_,rfl⟩,rfl⟩|exact⟨.inr rfl,_,rfl,.flat rfl,_,rfl⟩|fail)
 ·exact .norm ⟨_,_,cy KI rfl,bK Hy,rfl,rfl⟩
 ·refine av (cy (l:=fr22f m 0) KT rfl) ?_
  refine aw m.funcs.length (fun i x h=>x=fr22f m i∧h=H0) ?_ (i:=0) (Nat.zero_le _) ⟨rfl,rfl⟩
  clear hi hi2 c40' ht
  rintro i _ _ hi ⟨rfl,rfl⟩
  have hi2:i<9223372036854775807:=by omega
  have c41:i<m.funcs.length→cS 41 [.lst (cJ m.funcs i).clauses.length 4 (clL (cJ m.funcs i).clauses),.int .i64 (-1),.bool true]:=fun h=>(AO 6000001 (by omega)).cls _ _ _ (by have:=oK (ltb h);have:=iN (cJ m.funcs i);omega)
  have pf:=jj (cJ m.funcs i)
  repeat' (first
   |(refine WLg.mk ?_;first
   |refine aa rfl rfl rfl rfl ?_|refine aa rfl rfl (bM Hy) rfl ?_|refine ab rfl rfl (jd Hy) rfl ?_
   |refine ab rfl rfl rfl rfl ?_
   |refine aA rfl rfl RA rfl rfl rfl rfl rfl rfl rfl RA PB rfl rfl ?_)
   |(show WX _ _ _ _ _ _ _ _ _ _;first
   |refine aW rfl rfl rfl ?_|refine aU rfl rfl rfl ?_|refine aG rfl rfl (bM (i:=0) (gF Hy)) rfl ?_
   |refine aG rfl rfl rfl rfl ?_|refine aF rfl rfl (eP (i:=0) (gF Hy) rfl) rfl ?_|refine aF rfl rfl rfl rfl ?_
   |refine aO rfl rfl rfl (c41 (bK Hy)) .none rfl ?_
   |(fail_if_success refine WX.gt rfl ?_);refine aY rfl rfl rfl (fun ht=>?_) (fun ht=>?_)
   |refine aI (by repeat' (first|exact bD.nil|refine bD.any (fun h=>rfl) ?_|refine bD.first rfl ?_|refine bD.first (jd Hy) ?_|refine bD.snd (jd Hy) ?_|refine bD.any (fun h=>jd Hy) ?_|refine bD.first (eP (i:=0) (gF Hy) rfl) ?_|refine bD.snd (eP (i:=0) (gF Hy) rfl) ?_|refine bD.any (fun h=>eP (i:=0) (gF Hy) rfl) ?_|refine bD.each (.cons rfl .nil) ?_|refine bD.each (.cons rfl (.cons rfl .nil)) ?_|refine bD.each (.cons rfl (.cons rfl (.cons rfl .nil))) ?_)) ?_)
   |refine ah ?_|refine ac rfl ?_|refine ai ?_|refine ae ?_|refine aj ?_|refine al ?_|refine aC rfl ?_
   |refine ak rfl (fun ht=>?_) (fun ht=>?_)|refine au ?_|refine ap ?_|refine aJ ?_|refine bE.norm ?_
   |refine bE.ret ?_|refine bE.exit ?_|refine OnC.ret ?_|refine OnC.exit ?_|exact⟨.inr rfl,_,rfl,.flat rfl,_,rfl⟩|fail)
  ·rename_i hA _ _ _
   exact .norm ⟨_,_,cy KI rfl,bK hA,rfl,rfl⟩
def mn(f:Fu):Nat:=((clK f.clauses).map cnt).sum
def fnn(f:Fu):Nat:=((clK f.clauses).map fun y=>(dK y).length).sum
theorem GU(f:Fu):mn f≤bF (fuO f):=by
 have h1:=jL (f:=cnt) (l:=clK f.clauses) fun y _=>tG y
 have h2:=gH f.clauses
 have h3:=iN f
 unfold mn
 omega
theorem EV(f:Fu):fnn f≤bF (fuO f):=by
 have h1:=jL (f:=fun y=>(dK y).length) (l:=clK f.clauses) fun y _=>jh y
 have h2:=gH f.clauses
 have h3:=iN f
 unfold fnn
 omega
theorem mZ{g:Fu→Nat}(h:∀f,g f≤bF (fuO f)):∀l:List Fu,(l.map g).sum≤bF (fuL l)
 |[]=>by simp
 |f ::l=>by
  have h1:=h f
  have h2:=mZ h l
  show(g f+(l.map g).sum)≤bF (fuO f++fuL l)
  rw [bY]
  omega
theorem Bu(l:List Fu)(i:Nat):bF (fuL (l.take i))≤bF (fuL l):=ii (f:=fuO) rfl (fun _ _=>rfl) l i
theorem yq{l:List Fu}{i:Nat}(h:i<l.length):l.take (i+1)=l.take i++[cJ l i]:=by
 have:=cV (d:=fu0) (ltb h)
 rw [List.take_add_one,this]
 rfl
def DZ(l:List Fu):Prop:=∀f,f∈l→mn f≤4000∧∀y,y∈clK f.clauses→dep y≤60
noncomputable section
def fr11(m:Md)(a b:Nat)(i:Nat):AL:=[(1,.eptr (mdO m) 0),(3,.int .i64 (Int.ofNat a)),(4,.int .i64 (Int.ofNat b)),(5,.int .i64 (Int.ofNat i))]
def fr11k(m:Md)(a b:Nat)(i:Nat)(l:List Ex)(k:Nat):AL:=[(1,.eptr (mdO m) 0),(3,.int .i64 (Int.ofNat a)),(4,.int .i64 (Int.ofNat b)),(5,.int .i64 (Int.ofNat i)),(6,.lst l.length 11 (exL l)),(7,.int .i64 (Int.ofNat k))]
end
def xx(m:Md)(r:Int):Prop:=r=0→DZ m.funcs∧(m.funcs.map mn).sum≤20000∧(m.funcs.map fnn).sum≤1000
theorem jB{m:Md}{r:Int}(h:r≠0):xx m r:=fun q=>absurd q h
set_option maxHeartbeats 8000000 in
theorem f11(m:Md)(hm:bF (mdO m)≤6000000):∃r,ck Tryz.prog TP 11 [.agg (mdO m)] (.int .i64 r)∧xx m r:=by
 obtain⟨v,c,r,rfl,ok⟩:∃v,ck Tryz.prog TP 11 [.agg (mdO m)] v∧∃r,v= .int .i64 r∧xx m r:=by
  refine cH Tryz.func11 (by decide) cf11_ok rfl (bO (.agg (fM m)) px0) rfl ?_
  have px:=fM m
  have px2:bN (.eptr (mdO m) 0):= .eptr px
  have hsz:=mU m
  have c22:=f22 m hm
  have hn2:=mY m.funcs
  repeat' (first
   |(refine WLg.mk ?_;first
   |refine aa rfl rfl rfl rfl ?_|refine ab rfl rfl rfl rfl ?_|refine az rfl rfl rfl rfl px rfl ?_|refine aq rfl rfl rfl (c22) rfl ?_)
   |refine ah ?_|refine ac rfl ?_|refine ax rfl rfl ?_|refine ay rfl (fun ht=>?_) (fun ht=>?_)
   |refine aH (t:=20) (fun b=>rfl) ?_ (fun b=>?_)|refine ai ?_|refine ae ?_|refine aj ?_|refine al ?_
   |refine ak rfl (fun ht=>?_) (fun ht=>?_)|refine ap ?_|refine bE.norm ?_|refine bE.ret ?_|exact⟨⟨_,rfl⟩,rfl⟩|fail)
  ·exact⟨.inr rfl,_,rfl,.flat rfl,_,rfl,jB (by decide)⟩
  ·exact⟨.inr rfl,_,rfl,.flat rfl,_,rfl,jB (by decide)⟩
  ·refine av (cy (l:=fr11 m 0 0 0) KT rfl) ?_
   refine aw m.funcs.length (fun i x h=>(x=fr11 m (((m.funcs.take i).map mn).sum) (((m.funcs.take i).map fnn).sum) i∧DZ (m.funcs.take i))∧h=H0) ?_ (i:=0) (Nat.zero_le _) ⟨⟨rfl,fun f h=>by simp at h⟩,rfl⟩
   rintro i _ _ hi ⟨⟨rfl,seen⟩,rfl⟩
   have hi2:i<9223372036854775807:=by omega
   have fsz:i<m.funcs.length→bF (clL (cJ m.funcs i).clauses)≤5999993:=fun h=>by have:=oK (ltb h);have:=iN (cJ m.funcs i);omega
   have c23:i<m.funcs.length→ck Tryz.prog TP 23 [.lst (cJ m.funcs i).clauses.length 4 (clL (cJ m.funcs i).clauses)] (.lst (clK (cJ m.funcs i).clauses).length 11 (exL (clK (cJ m.funcs i).clauses))):=fun h=>f23 _ (by have:=fsz h;omega)
   have c24:i<m.funcs.length→cS 24 [.lst (cJ m.funcs i).clauses.length 4 (clL (cJ m.funcs i).clauses)]:=fun h=>f24 _ (by have:=fsz h;have:=eS (cJ m.funcs i).clauses;omega)
   have c25:i<m.funcs.length→ck Tryz.prog TP 25 [.lst (clK (cJ m.funcs i).clauses).length 11 (exL (clK (cJ m.funcs i).clauses))] (.int .i64 (Int.ofNat (mn (cJ m.funcs i)))):=fun h=>f25 _ (by have:=fsz h;have:=gH (cJ m.funcs i).clauses;omega)
   repeat' (first
    |(refine WLg.mk ?_;first
    |refine aa rfl rfl rfl rfl ?_|refine aa rfl rfl (bM Hy) rfl ?_|refine ab rfl rfl (DQ Hy rfl) rfl ?_
    |refine ab rfl rfl rfl rfl ?_|refine aq rfl rfl rfl (c23 (bK Hy)) rfl ?_
    |refine aq rfl rfl rfl (c24 (bK Hy)) rfl ?_|refine aq rfl rfl rfl (c25 (bK Hy)) rfl ?_)
    |refine ah ?_|refine ac rfl ?_|refine ax rfl rfl ?_|refine ay rfl (fun ht=>?_) (fun ht=>?_)|refine ai ?_
    |refine ae ?_|refine aj ?_|refine al ?_|refine aC rfl ?_|refine ak rfl (fun ht=>?_) (fun ht=>?_)
    |refine au ?_|refine ap ?_|refine bE.norm ?_|refine bE.ret ?_|refine bE.exit ?_|refine OnC.ret ?_|refine OnC.exit ?_
    |fail)
   ·exact⟨.inr rfl,_,rfl,.flat rfl,_,rfl,jB (by decide)⟩
   ·exact⟨.inr rfl,_,rfl,.flat rfl,_,rfl,jB (by decide)⟩
   ·rename_i hA hB
    have hlt:=bK hA
    have hmn:mn (cJ m.funcs i)≤4000:=by rw [fk]at ht;simp at ht;omega
    have hsm:=mZ GU (m.funcs.take i)
    have hsf:=mZ EV (m.funcs.take i)
    have htk:=Bu m.funcs i
    have h1:((m.funcs.take i).map mn).sum+mn (cJ m.funcs i)<9223372036854775808:=by omega
    have hfz:=fsz hlt
    have hcz:=gH (cJ m.funcs i).clauses
    have hln:=fX (clK (cJ m.funcs i).clauses) 6000000 (by omega)
    have hfl:=oK (ltb hlt)
    clear c23 c24 c25 fsz
    refine av (cy (l:=fr11k m (((m.funcs.take i).map mn).sum+mn (cJ m.funcs i)) (((m.funcs.take i).map fnn).sum+0) i (clK (cJ m.funcs i).clauses) 0) (.cons rfl px2 (.cons (wg h1) (.flat rfl) (.cons rfl (.flat rfl) (.cons rfl (.flat rfl) (.cons rfl (pxE _) (.cons rfl (.flat rfl) .nil)))))) rfl) ?_
    generalize hL:clK (cJ m.funcs i).clauses=L at hln hcz ⊢
    refine aw L.length (fun k x h=>(x=fr11k m (((m.funcs.take i).map mn).sum+mn (cJ m.funcs i)) (((m.funcs.take i).map fnn).sum+((L.take k).map fun y=>(dK y).length).sum) i L k∧∀y,y∈L.take k→dep y≤60)∧h=H0) ?_ (i:=0) (Nat.zero_le _) ⟨⟨rfl,fun y h=>by simp at h⟩,rfl⟩
    rintro k _ _ hk ⟨⟨rfl,deep⟩,rfl⟩
    have hk2:k<9223372036854775807:=by omega
    have hmz:k<L.length→bF (exO (bW L k))<6000001:=fun h=>by have:=gR (il h);omega
    have c26:k<L.length→ck Tryz.prog TP 26 [.agg (exO (bW L k))] (.lst (dK (bW L k)).length 11 (exL (dK (bW L k)))):=fun h=>f26 _ (Nat.le_refl _) _ (hmz h)
    have c27:k<L.length→ck Tryz.prog TP 27 [.agg (exO (bW L k))] (.int .i64 (Int.ofNat (dep (bW L k)))):=fun h=>f27 _ (Nat.le_refl _) _ (hmz h)
    have c28:k<L.length→cS 28 [.agg (exO (bW L k))]:=fun h=>f28 _ (Nat.le_refl _) _ (hmz h)
    have hbl:∀{n k:Nat},(ltI (Int.ofNat k) (Int.ofNat n)=true)→k<n:=fun h=>bK h
    repeat' (first
     |(refine WLg.mk ?_;first
     |refine aa rfl rfl rfl rfl ?_|refine aa rfl rfl (bM Hy) rfl ?_|refine ab rfl rfl (dv Hy) rfl ?_
     |refine aq rfl rfl rfl (c26 (bK Hy)) rfl ?_|refine aq rfl rfl rfl (c27 (bK Hy)) rfl ?_
     |refine aq rfl rfl rfl (c28 (bK Hy)) rfl ?_)
     |refine ah ?_|refine ac rfl ?_|refine ax rfl rfl ?_|refine ay rfl (fun ht=>?_) (fun ht=>?_)|refine ai ?_
     |refine ae ?_|refine aj ?_|refine al ?_|refine aC rfl ?_|refine ak rfl (fun ht=>?_) (fun ht=>?_)
     |refine au ?_|refine ap ?_|refine bE.norm ?_|refine bE.ret ?_|refine bE.exit ?_|refine OnC.ret ?_|refine OnC.exit ?_
     |fail)
    ·exact⟨.inr rfl,_,rfl,.flat rfl,_,rfl,jB (by decide)⟩
    ·exact⟨.inr rfl,_,rfl,.flat rfl,_,rfl,jB (by decide)⟩
    ·rename_i hC hD
     have hklt:=bK hC
     have hdk:dep (bW L k)≤60:=by rw [fk]at hD;simp at hD;omega
     have e1:=jL (f:=fun y=>(dK y).length) (l:=L.take k) fun y _=>jh y
     have e2:=jE L k
     have e3:=jh (bW L k)
     have e4:=gR (il hklt)
     have h2:(((m.funcs.take i).map fnn).sum+((L.take k).map fun y=>(dK y).length).sum)+(dK (bW L k)).length<9223372036854775808:=by omega
     refine .norm ⟨_,_,cy (l:=fr11k m (((m.funcs.take i).map mn).sum+mn (cJ m.funcs i)) ((((m.funcs.take i).map fnn).sum+((L.take k).map fun y=>(dK y).length).sum)+(dK (bW L k)).length) i L (k+1)) (.cons rfl px2 (.cons rfl (.flat rfl) (.cons (wg h2) (.flat rfl) (.cons rfl (.flat rfl) (.cons rfl (pxE _) (.cons (dB hk2) (.flat rfl) .nil)))))) rfl,hklt,⟨?_,fun y hy=>?_⟩,rfl⟩
     ·rw [lH hklt,List.map_append,List.sum_append,←Nat.add_assoc]
      rfl
     ·rw [lH hklt]at hy
      rcases List.mem_append.1 hy with hy|hy
      ·exact deep y hy
      ·rw [List.mem_singleton.1 hy];exact hdk
    ·have hke:k=L.length:=by have:=ci ht;omega
     rw [hke,List.take_length]at deep ⊢
     have hfn:fnn (cJ m.funcs i)=(L.map fun y=>(dK y).length).sum:=by rw [fnn,hL]
     refine .norm ⟨_,_,cy (l:=fr11 m (((m.funcs.take i).map mn).sum+mn (cJ m.funcs i)) (((m.funcs.take i).map fnn).sum+(L.map fun y=>(dK y).length).sum) (i+1)) (.cons rfl px2 (.cons rfl (.flat rfl) (.cons rfl (.flat rfl) (.cons (dB hi2) (.flat rfl) .nil)))) rfl,hlt,⟨?_,fun f hf=>?_⟩,rfl⟩
     ·rw [yq hlt,List.map_append,List.map_append,List.sum_append,List.sum_append,←hfn]
      rfl
     ·rw [yq hlt]at hf
      rcases List.mem_append.1 hf with hf|hf
      ·exact seen f hf
      ·rw [List.mem_singleton.1 hf,hL]
       exact⟨hmn,deep⟩
   ·exact⟨.inr rfl,_,rfl,.flat rfl,_,rfl,jB (by decide)⟩
   ·exact⟨.inr rfl,_,rfl,.flat rfl,_,rfl,jB (by decide)⟩
   ·rename_i hA hB
    have hie:i=m.funcs.length:=by have:=ci hA;omega
    rw [hie,List.take_length]at hB seen
    rw [hie,List.take_length]at ht
    refine⟨.inr rfl,_,rfl,.flat rfl,_,rfl,fun _=>⟨seen,?_,?_⟩⟩
    ·rw [fk]at hB;simp at hB;omega
    ·rw [fk]at ht;simp at ht;omega
 exact⟨r,c,ok⟩
end
section
noncomputable def lz:V→Bool
 |.lst n _ _=>eqI (Int.ofNat n) 0
 |_=>true
theorem Lv.lenz{v:V}(h:Lv v):∃k,POp.run (.leng .sl) [v]=some (.int .i64 (Int.ofNat k))∧lz v=eqI (Int.ofNat k) 0:=by
 cases h with
 |nils=>exact⟨0,rfl,rfl⟩
 |lst h=>exact⟨_,rfl,rfl⟩
theorem pxF(f:FuncId):bN (.func (.func f) [] []):= .func px0 px0
noncomputable section
def va(f:FuncId)(a:V):AL:=[(0,a),(1,.nils),(2,.func (.func f) [] []),(15,a),(16,.int .i64 (Int.ofNat 0)),(17,.int .i64 (Int.ofNat 0))]
end
theorem f117z{a:V}(h:Lv a):ck Tryz.prog TP 117 [a,.nils,.func (.func 62) [] []] (.bool (lz a)):=by
 obtain⟨v,c,rfl⟩:∃v,ck Tryz.prog TP 117 [a,.nils,.func (.func 62) [] []] v∧v= .bool (lz a):=by
  refine cH Tryz.func117 (by decide) cf117_ok rfl (bO h.px (bO (.flat rfl) (bO (pxF 62) px0))) rfl ?_
  have pa:=h.px
  have pf:=pxF 62
  obtain⟨k,e,ez⟩:=h.lenz
  repeat' (first
   |(refine WLg.mk ?_;first
   |refine aa rfl rfl e rfl ?_|refine aa rfl rfl rfl rfl ?_)
   |refine ah ?_|refine ac rfl ?_|refine ai ?_|refine ae ?_|refine aj ?_|refine al ?_
   |refine ak rfl (fun ht=>?_) (fun ht=>?_)|refine ap ?_|refine bE.norm ?_|refine bE.ret ?_|fail)
  ·exact⟨.inr rfl,_,rfl,.flat rfl,by rw [ez,show eqI (Int.ofNat k) 0=false by simpa using ht];rfl⟩
  obtain rfl:k=0:=by
   have:=qr ht
   simpa using this
  refine av (cy (l:=va 62 a) KT rfl) ?_
  refine aw 0 (fun i x h=>x=va 62 a∧h=H0) ?_ (i:=0) (Nat.zero_le _) ⟨rfl,rfl⟩
  rintro i _ _ hi ⟨rfl,rfl⟩
  repeat' (first
   |(refine WLg.mk ?_;first
   |refine aa rfl rfl rfl rfl ?_)
   |refine ah ?_|refine ac rfl ?_|refine ai ?_|refine ae ?_|refine aB rfl ?_|refine au ?_|refine ap ?_
   |refine bE.norm ?_|refine bE.exit ?_|refine OnC.exit ?_|fail)
  exact⟨.inr rfl,_,rfl,.flat rfl,by rw [ez];rfl⟩
 exact c
theorem f118z{a:V}(h:Lv a):ck Tryz.prog TP 118 [a,.nils,.func (.func 85) [] []] (.bool (lz a)):=by
 obtain⟨v,c,rfl⟩:∃v,ck Tryz.prog TP 118 [a,.nils,.func (.func 85) [] []] v∧v= .bool (lz a):=by
  refine cH Tryz.func118 (by decide) cf118_ok rfl (bO h.px (bO (.flat rfl) (bO (pxF 85) px0))) rfl ?_
  have pa:=h.px
  have pf:=pxF 85
  obtain⟨k,e,ez⟩:=h.lenz
  repeat' (first
   |(refine WLg.mk ?_;first
   |refine aa rfl rfl e rfl ?_|refine aa rfl rfl rfl rfl ?_)
   |refine ah ?_|refine ac rfl ?_|refine ai ?_|refine ae ?_|refine aj ?_|refine al ?_
   |refine ak rfl (fun ht=>?_) (fun ht=>?_)|refine ap ?_|refine bE.norm ?_|refine bE.ret ?_|fail)
  ·exact⟨.inr rfl,_,rfl,.flat rfl,by rw [ez,show eqI (Int.ofNat k) 0=false by simpa using ht];rfl⟩
  obtain rfl:k=0:=by
   have:=qr ht
   simpa using this
  refine av (cy (l:=va 85 a) KT rfl) ?_
  refine aw 0 (fun i x h=>x=va 85 a∧h=H0) ?_ (i:=0) (Nat.zero_le _) ⟨rfl,rfl⟩
  rintro i _ _ hi ⟨rfl,rfl⟩
  repeat' (first
   |(refine WLg.mk ?_;first
   |refine aa rfl rfl rfl rfl ?_)
   |refine ah ?_|refine ac rfl ?_|refine ai ?_|refine ae ?_|refine aB rfl ?_|refine au ?_|refine ap ?_
   |refine bE.norm ?_|refine bE.exit ?_|refine OnC.exit ?_|fail)
  exact⟨.inr rfl,_,rfl,.flat rfl,by rw [ez];rfl⟩
 exact c
theorem f119z{a:V}(h:Lv a):ck Tryz.prog TP 119 [a,.nils,.func (.func 87) [] []] (.bool (lz a)):=by
 obtain⟨v,c,rfl⟩:∃v,ck Tryz.prog TP 119 [a,.nils,.func (.func 87) [] []] v∧v= .bool (lz a):=by
  refine cH Tryz.func119 (by decide) cf119_ok rfl (bO h.px (bO (.flat rfl) (bO (pxF 87) px0))) rfl ?_
  have pa:=h.px
  have pf:=pxF 87
  obtain⟨k,e,ez⟩:=h.lenz
  repeat' (first
   |(refine WLg.mk ?_;first
   |refine aa rfl rfl e rfl ?_|refine aa rfl rfl rfl rfl ?_)
   |refine ah ?_|refine ac rfl ?_|refine ai ?_|refine ae ?_|refine aj ?_|refine al ?_
   |refine ak rfl (fun ht=>?_) (fun ht=>?_)|refine ap ?_|refine bE.norm ?_|refine bE.ret ?_|fail)
  ·exact⟨.inr rfl,_,rfl,.flat rfl,by rw [ez,show eqI (Int.ofNat k) 0=false by simpa using ht];rfl⟩
  obtain rfl:k=0:=by
   have:=qr ht
   simpa using this
  refine av (cy (l:=va 87 a) KT rfl) ?_
  refine aw 0 (fun i x h=>x=va 87 a∧h=H0) ?_ (i:=0) (Nat.zero_le _) ⟨rfl,rfl⟩
  rintro i _ _ hi ⟨rfl,rfl⟩
  repeat' (first
   |(refine WLg.mk ?_;first
   |refine aa rfl rfl rfl rfl ?_)
   |refine ah ?_|refine ac rfl ?_|refine ai ?_|refine ae ?_|refine aB rfl ?_|refine au ?_|refine ap ?_
   |refine bE.norm ?_|refine bE.exit ?_|refine OnC.exit ?_|fail)
  exact⟨.inr rfl,_,rfl,.flat rfl,by rw [ez];rfl⟩
 exact c
theorem f122z{a:V}(h:Lv a):ck Tryz.prog TP 122 [a,.nils,.func (.func 89) [] []] (.bool (lz a)):=by
 obtain⟨v,c,rfl⟩:∃v,ck Tryz.prog TP 122 [a,.nils,.func (.func 89) [] []] v∧v= .bool (lz a):=by
  refine cH Tryz.func122 (by decide) cf122_ok rfl (bO h.px (bO (.flat rfl) (bO (pxF 89) px0))) rfl ?_
  have pa:=h.px
  have pf:=pxF 89
  obtain⟨k,e,ez⟩:=h.lenz
  repeat' (first
   |(refine WLg.mk ?_;first
   |refine aa rfl rfl e rfl ?_|refine aa rfl rfl rfl rfl ?_)
   |refine ah ?_|refine ac rfl ?_|refine ai ?_|refine ae ?_|refine aj ?_|refine al ?_
   |refine ak rfl (fun ht=>?_) (fun ht=>?_)|refine ap ?_|refine bE.norm ?_|refine bE.ret ?_|fail)
  ·exact⟨.inr rfl,_,rfl,.flat rfl,by rw [ez,show eqI (Int.ofNat k) 0=false by simpa using ht];rfl⟩
  obtain rfl:k=0:=by
   have:=qr ht
   simpa using this
  refine av (cy (l:=va 89 a) KT rfl) ?_
  refine aw 0 (fun i x h=>x=va 89 a∧h=H0) ?_ (i:=0) (Nat.zero_le _) ⟨rfl,rfl⟩
  rintro i _ _ hi ⟨rfl,rfl⟩
  repeat' (first
   |(refine WLg.mk ?_;first
   |refine aa rfl rfl rfl rfl ?_)
   |refine ah ?_|refine ac rfl ?_|refine ai ?_|refine ae ?_|refine aB rfl ?_|refine au ?_|refine ap ?_
   |refine bE.norm ?_|refine bE.exit ?_|refine OnC.exit ?_|fail)
  exact⟨.inr rfl,_,rfl,.flat rfl,by rw [ez];rfl⟩
 exact c
theorem f83z{a:V}(h:Lv a):ck Tryz.prog TP 83 [a,.nils,.func (.func 62) [] []] (.bool (lz a)):=by
 obtain⟨v,c,rfl⟩:∃v,ck Tryz.prog TP 83 [a,.nils,.func (.func 62) [] []] v∧v= .bool (lz a):=by
  refine cH Tryz.func83 (by decide) cf83_ok rfl (bO h.px (bO (.flat rfl) (bO (pxF 62) px0))) rfl ?_
  repeat' (first
   |(refine WLg.mk ?_;first
   |refine aa rfl rfl rfl rfl ?_|refine aq rfl rfl rfl (f117z h) rfl ?_)
   |refine ah ?_|refine ac rfl ?_|refine ai ?_|refine ae ?_|refine ap ?_|refine bE.norm ?_|fail)
  exact⟨.inr rfl,_,rfl,.flat rfl,rfl⟩
 exact c
theorem f84z{a:V}(h:Lv a):ck Tryz.prog TP 84 [a,.nils,.func (.func 85) [] []] (.bool (lz a)):=by
 obtain⟨v,c,rfl⟩:∃v,ck Tryz.prog TP 84 [a,.nils,.func (.func 85) [] []] v∧v= .bool (lz a):=by
  refine cH Tryz.func84 (by decide) cf84_ok rfl (bO h.px (bO (.flat rfl) (bO (pxF 85) px0))) rfl ?_
  repeat' (first
   |(refine WLg.mk ?_;first
   |refine aa rfl rfl rfl rfl ?_|refine aq rfl rfl rfl (f118z h) rfl ?_)
   |refine ah ?_|refine ac rfl ?_|refine ai ?_|refine ae ?_|refine ap ?_|refine bE.norm ?_|fail)
  exact⟨.inr rfl,_,rfl,.flat rfl,rfl⟩
 exact c
theorem f86z{a:V}(h:Lv a):ck Tryz.prog TP 86 [a,.nils,.func (.func 87) [] []] (.bool (lz a)):=by
 obtain⟨v,c,rfl⟩:∃v,ck Tryz.prog TP 86 [a,.nils,.func (.func 87) [] []] v∧v= .bool (lz a):=by
  refine cH Tryz.func86 (by decide) cf86_ok rfl (bO h.px (bO (.flat rfl) (bO (pxF 87) px0))) rfl ?_
  repeat' (first
   |(refine WLg.mk ?_;first
   |refine aa rfl rfl rfl rfl ?_|refine aq rfl rfl rfl (f119z h) rfl ?_)
   |refine ah ?_|refine ac rfl ?_|refine ai ?_|refine ae ?_|refine ap ?_|refine bE.norm ?_|fail)
  exact⟨.inr rfl,_,rfl,.flat rfl,rfl⟩
 exact c
theorem f88z{a:V}(h:Lv a):ck Tryz.prog TP 88 [a,.nils,.func (.func 89) [] []] (.bool (lz a)):=by
 obtain⟨v,c,rfl⟩:∃v,ck Tryz.prog TP 88 [a,.nils,.func (.func 89) [] []] v∧v= .bool (lz a):=by
  refine cH Tryz.func88 (by decide) cf88_ok rfl (bO h.px (bO (.flat rfl) (bO (pxF 89) px0))) rfl ?_
  repeat' (first
   |(refine WLg.mk ?_;first
   |refine aa rfl rfl rfl rfl ?_|refine aq rfl rfl rfl (f122z h) rfl ?_)
   |refine ah ?_|refine ac rfl ?_|refine ai ?_|refine ae ?_|refine ap ?_|refine bE.norm ?_|fail)
  exact⟨.inr rfl,_,rfl,.flat rfl,rfl⟩
 exact c
noncomputable section
def tP:List V:=[.int .i64 0,.int .i64 0,.str 0 0,.str 0 0,.nils,.nils,.nils,.nils,.nils,.nils,.bool false]
end
theorem tO:∀c,c∈tP→bN c:=bO (.flat rfl) (bO (.flat rfl) (bO (.flat rfl) (bO (.flat rfl) (bO (.flat rfl) (bO (.flat rfl) (bO (.flat rfl) (bO (.flat rfl) (bO (.flat rfl) (bO (.flat rfl) (bO (.flat rfl) px0))))))))))
noncomputable section
def zq:V→Bool
 |.agg [.int _ k,.int _ a,.str n1 c1,.str n2 c2,l1,l2,l3,l4,l5,l6,.bool w]=>eqI k 0&&(eqI a 0&&(dJ n1 c1 0 0&&(dJ n2 c2 0 0&&(rf w false&&(lz l1&&(lz l2&&(lz l3&&(lz l4&&(lz l5&&lz l6)))))))))
 |_=>false
def zvB:V→Bool:=Classical.choose (⟨zq,rfl⟩:∃f:V→Bool,f=zq)
end
theorem sC:zvB=zq:=Classical.choose_spec (⟨zq,rfl⟩:∃f:V→Bool,f=zq)
set_option maxHeartbeats 8000000 in
theorem f62z{v:V}(hv:lZ v):ck Tryz.prog TP 62 [v,.agg tP] (.bool (zvB v)):=by
 have hp:=hv.px
 rw [sC]
 cases hv with
 |mk h1 h2 h3 h4 h5 h6=>
  rename_i k a n1 c1 n2 c2 l1 l2 l3 l4 l5 l6 w
  obtain⟨v,c,rfl⟩:∃v,ck Tryz.prog TP 62 [.agg [.int .i64 k,.int .i64 a,.str n1 c1,.str n2 c2,l1,l2,l3,l4,l5,l6,.bool w],.agg tP] v∧v= .bool (zq (.agg [.int .i64 k,.int .i64 a,.str n1 c1,.str n2 c2,l1,l2,l3,l4,l5,l6,.bool w])):=by
   refine cH Tryz.func62 (by decide) cf62_ok rfl (bO hp (bO (.agg tO) px0)) rfl ?_
   have ha:=jH (k:=k) (a:=a) (n1:=n1) (c1:=c1) (n2:=n2) (c2:=c2) (w:=w) h1 h2 h3 h4 h5 h6
   have p1:=h1.px
   have p2:=h2.px
   have p3:=h3.px
   have p4:=h4.px
   have p5:=h5.px
   have p6:=h6.px
   have pz:=tO
   repeat' (first
    |(refine WLg.mk ?_;first
    |refine aa rfl rfl rfl rfl ?_|refine ab rfl rfl rfl rfl ?_|refine az rfl rfl rfl rfl pz rfl ?_
    |refine az rfl rfl RA rfl PB rfl ?_
    |refine aq rfl rfl rfl (f83z h1) rfl ?_|refine aq rfl rfl rfl (f84z h2) rfl ?_|refine aq rfl rfl rfl (f86z h3) rfl ?_
    |refine aq rfl rfl rfl (f86z h4) rfl ?_|refine aq rfl rfl rfl (f88z h5) rfl ?_|refine aq rfl rfl rfl (f88z h6) rfl ?_)
    |refine ah ?_|refine ac rfl ?_|refine ax rfl rfl ?_|refine ay rfl (fun ht=>?_) (fun ht=>?_)|refine ai ?_
    |refine ae ?_|refine ap ?_|refine bE.norm ?_|fail)
   all_goals exact⟨.inr rfl,_,rfl,.flat rfl,by(try dsimp only at*)<;>simp only [zq,Bool.true_and,Bool.false_and,Bool.and_false, *]<;>rfl⟩
  exact c
end
section
theorem yc(x:Ex):lZ (.agg (exO x)):=qp x
noncomputable section
def fr110(f:FuncId)(l:List Sm)(i:Nat):AL:=[(0,.lst l.length 23 (smL l)),(1,.func (.func f) [] []),(7,.int .i64 (Int.ofNat l.length)),(8,.int .i64 (Int.ofNat i))]
def fr76(f:FuncId)(l:List (List Ex))(i:Nat):AL:=[(0,.lst l.length 1 (gdL l)),(1,.func (.func f) [] []),(7,.int .i64 (Int.ofNat l.length)),(8,.int .i64 (Int.ofNat i))]
def fr138(f:FuncId)(l:List Cl)(i:Nat):AL:=[(0,.lst l.length 4 (clL l)),(1,.func (.func f) [] []),(7,.int .i64 (Int.ofNat l.length)),(8,.int .i64 (Int.ofNat i))]
def fr80(l:List Sg)(i:Nat):AL:=[(6,.lst l.length 27 (sgL l)),(7,.int .i64 (Int.ofNat l.length)),(8,.int .i64 (Int.ofNat i))]
end
set_option maxHeartbeats 2000000 in
theorem f78(s:Sm):cS 78 [.agg (smO s)]:=by
 refine cA Tryz.func78 (by decide) cf78_ok rfl (bO (pxm s) px0) rfl ?_
 repeat' (first
  |(refine WLg.mk ?_;first
  |refine aa rfl rfl rfl rfl ?_
  |refine ab rfl rfl (show ROp.run (.load true 11) [.eptr (smO s) 1] _=some (.agg (exO s.pat))from rfl) rfl ?_
  |refine ab rfl rfl rfl rfl ?_
  |refine az rfl rfl RA rfl PB rfl ?_
  |refine aq rfl rfl rfl (f62z (yc s.pat)) rfl ?_)
  |refine ah ?_|refine ac rfl ?_|refine ax rfl rfl ?_|refine ay rfl (fun ht=>?_) (fun ht=>?_)|refine ai ?_
  |refine ae ?_|refine ap ?_|refine bE.norm ?_|exact⟨.inr rfl,_,rfl,.flat rfl,_,rfl⟩|fail)
theorem f110(l:List Sm)(hl:l.length<9223372036854775807):vI 110 [.lst l.length 23 (smL l),.func (.func 78) [] []]:=by
 refine vm (cH Tryz.func110 (by decide) cf110_ok rfl (bO (pxM l) (bO (pxF 78) px0)) rfl ?_)
 have pf:=pxF 78
 repeat' (first
  |(refine WLg.mk ?_;first
  |refine aa rfl rfl rfl rfl ?_)
  |refine ah ?_|refine ac rfl ?_|refine ai ?_|refine ae ?_|refine aj ?_|refine bE.norm ?_|fail)
 refine av (cy (l:=fr110 78 l 0) KT rfl) ?_
 refine aw l.length (fun i x h=>x=fr110 78 l i∧h=H0) ?_ (i:=0) (Nat.zero_le _) ⟨rfl,rfl⟩
 rintro i _ _ hi ⟨rfl,rfl⟩
 have hi2:i<9223372036854775807:=by omega
 repeat' (first
  |(refine WLg.mk ?_;first
  |refine aa rfl rfl rfl rfl ?_|refine aa rfl rfl (bM Hy) rfl ?_|refine ab rfl rfl (gU Hy) rfl ?_
  |refine aq rfl rfl rfl (f78 (cC l i)) rfl ?_)
  |refine ah ?_|refine ac rfl ?_|refine ai ?_|refine ae ?_|refine aj ?_|refine al ?_
  |refine ak rfl (fun ht=>?_) (fun ht=>?_)|refine au ?_|refine ap ?_|refine bE.norm ?_|refine bE.ret ?_
  |refine bE.exit ?_|refine OnC.ret ?_|refine OnC.exit ?_|exact⟨.inr rfl,_,rfl,.flat rfl,_,rfl⟩|fail)
 all_goals exact .norm ⟨_,_,cy KI rfl,bK Hy,rfl,rfl⟩
theorem f77(l:List Sm)(hl:l.length<9223372036854775807):cS 77 [.lst l.length 23 (smL l),.func (.func 78) [] []]:=by
 refine cA Tryz.func77 (by decide) cf77_ok rfl (bO (pxM l) (bO (pxF 78) px0)) rfl ?_
 repeat' (first
  |(refine WLg.mk ?_;first
  |refine aa rfl rfl rfl rfl ?_|refine aq rfl rfl rfl (f110 l hl) rfl ?_)
  |refine ah ?_|refine ac rfl ?_|refine ai ?_|refine ae ?_|refine ap ?_|refine bE.norm ?_
  |exact⟨.inr rfl,_,rfl,.flat rfl,_,rfl⟩|fail)
theorem f60(l:List Sm)(hl:l.length<9223372036854775807):cS 60 [.lst l.length 23 (smL l)]:=by
 refine cA Tryz.func60 (by decide) cf60_ok rfl (bO (pxM l) px0) rfl ?_
 repeat' (first
  |(refine WLg.mk ?_;first
  |refine aa rfl rfl rfl rfl ?_|refine aq rfl rfl rfl (f77 l hl) rfl ?_)
  |refine ah ?_|refine ac rfl ?_|refine ai ?_|refine ae ?_|refine ap ?_|refine bE.norm ?_
  |exact⟨.inr rfl,_,rfl,.flat rfl,_,rfl⟩|fail)
theorem f59(g:List Ex):cS 59 [.lst g.length 11 (exL g)]:=by
 refine cA Tryz.func59 (by decide) cf59_ok rfl (bO (pxE g) px0) rfl ?_
 repeat' (first
  |(refine WLg.mk ?_;first
  |refine aa rfl rfl rfl rfl ?_)
  |refine ah ?_|refine ac rfl ?_|refine ai ?_|refine ae ?_|refine ap ?_|refine bE.norm ?_
  |exact⟨.inr rfl,_,rfl,.flat rfl,_,rfl⟩|fail)
theorem f76(l:List (List Ex))(hl:l.length<9223372036854775807):vI 76 [.lst l.length 1 (gdL l),.func (.func 59) [] []]:=by
 refine vm (cH Tryz.func76 (by decide) cf76_ok rfl (bO (pxG l) (bO (pxF 59) px0)) rfl ?_)
 have pf:=pxF 59
 repeat' (first
  |(refine WLg.mk ?_;first
  |refine aa rfl rfl rfl rfl ?_)
  |refine ah ?_|refine ac rfl ?_|refine ai ?_|refine ae ?_|refine aj ?_|refine bE.norm ?_|fail)
 refine av (cy (l:=fr76 59 l 0) KT rfl) ?_
 refine aw l.length (fun i x h=>x=fr76 59 l i∧h=H0) ?_ (i:=0) (Nat.zero_le _) ⟨rfl,rfl⟩
 rintro i _ _ hi ⟨rfl,rfl⟩
 have hi2:i<9223372036854775807:=by omega
 repeat' (first
  |(refine WLg.mk ?_;first
  |refine aa rfl rfl rfl rfl ?_|refine aa rfl rfl (bM Hy) rfl ?_
  |refine ab rfl rfl (d5 (j:=0) (qF Hy) rfl _) rfl ?_|refine aq rfl rfl rfl (f59 (dm l i)) rfl ?_)
  |refine ah ?_|refine ac rfl ?_|refine ai ?_|refine ae ?_|refine aj ?_|refine al ?_
  |refine ak rfl (fun ht=>?_) (fun ht=>?_)|refine au ?_|refine ap ?_|refine bE.norm ?_|refine bE.ret ?_
  |refine bE.exit ?_|refine OnC.ret ?_|refine OnC.exit ?_|exact⟨.inr rfl,_,rfl,.flat rfl,_,rfl⟩|fail)
 all_goals exact .norm ⟨_,_,cy KI rfl,bK Hy,rfl,rfl⟩
theorem f58(l:List (List Ex))(hl:l.length<9223372036854775807):cS 58 [.lst l.length 1 (gdL l),.func (.func 59) [] []]:=by
 refine cA Tryz.func58 (by decide) cf58_ok rfl (bO (pxG l) (bO (pxF 59) px0)) rfl ?_
 repeat' (first
  |(refine WLg.mk ?_;first
  |refine aa rfl rfl rfl rfl ?_|refine aq rfl rfl rfl (f76 l hl) rfl ?_)
  |refine ah ?_|refine ac rfl ?_|refine ai ?_|refine ae ?_|refine ap ?_|refine bE.norm ?_
  |exact⟨.inr rfl,_,rfl,.flat rfl,_,rfl⟩|fail)
theorem f116(x:Ex):cS 116 [.agg (exO x)]:=by
 refine cA Tryz.func116 (by decide) cf116_ok rfl (bO (pxe x) px0) rfl ?_
 repeat' (first
  |(refine WLg.mk ?_;first
  |refine aa rfl rfl rfl rfl ?_|refine ab rfl rfl rfl rfl ?_
  |refine az rfl rfl RA rfl PB rfl ?_)
  |refine ah ?_|refine ac rfl ?_|refine ax rfl rfl ?_|refine ay rfl (fun ht=>?_) (fun ht=>?_)|refine ai ?_
  |refine ae ?_|refine aj ?_|refine al ?_|refine ak rfl (fun ht=>?_) (fun ht=>?_)|refine ap ?_|refine bE.norm ?_
  |refine bE.ret ?_|exact⟨.inr rfl,_,rfl,.flat rfl,_,rfl⟩|fail)
theorem f115(c:Cl)(h:0<c.pats.length):cS 115 [.agg (clO c)]:=by
 refine cA Tryz.func115 (by decide) cf115_ok rfl (bO (pxc c) px0) rfl ?_
 have hb:Nat.blt 0 c.pats.length=true:=ltb h
 repeat' (first
  |(refine WLg.mk ?_;first
  |refine aa rfl rfl (bM (i:=0) hb) rfl ?_|refine aa rfl rfl rfl rfl ?_|refine ab rfl rfl (dv (i:=0) hb) rfl ?_
  |refine ab rfl rfl rfl rfl ?_
  |refine az rfl rfl RA rfl PB rfl ?_
  |refine aq rfl rfl rfl (f116 (bW c.pats 0)) rfl ?_)
  |refine ah ?_|refine ac rfl ?_|refine ai ?_|refine ae ?_|refine ap ?_|refine bE.norm ?_
  |exact⟨.inr rfl,_,rfl,.flat rfl,_,rfl⟩|fail)
theorem f138(l:List Cl)(hl:l.length<9223372036854775807)(hp:∀c,c∈l→0<c.pats.length):vI 138 [.lst l.length 4 (clL l),.func (.func 115) [] []]:=by
 refine vm (cH Tryz.func138 (by decide) cf138_ok rfl (bO (pxC l) (bO (pxF 115) px0)) rfl ?_)
 have pf:=pxF 115
 repeat' (first
  |(refine WLg.mk ?_;first
  |refine aa rfl rfl rfl rfl ?_)
  |refine ah ?_|refine ac rfl ?_|refine ai ?_|refine ae ?_|refine aj ?_|refine bE.norm ?_|fail)
 refine av (cy (l:=fr138 115 l 0) KT rfl) ?_
 refine aw l.length (fun i x h=>x=fr138 115 l i∧h=H0) ?_ (i:=0) (Nat.zero_le _) ⟨rfl,rfl⟩
 rintro i _ _ hi ⟨rfl,rfl⟩
 have hi2:i<9223372036854775807:=by omega
 have c115:i<l.length→cS 115 [.agg (clO (bL l i))]:=fun h=>f115 _ (hp _ (ol (ltb h)))
 repeat' (first
  |(refine WLg.mk ?_;first
  |refine aa rfl rfl rfl rfl ?_|refine aa rfl rfl (bM Hy) rfl ?_|refine ab rfl rfl (gK Hy) rfl ?_
  |refine aq rfl rfl rfl (c115 (bK Hy)) rfl ?_)
  |refine ah ?_|refine ac rfl ?_|refine ai ?_|refine ae ?_|refine aj ?_|refine al ?_
  |refine ak rfl (fun ht=>?_) (fun ht=>?_)|refine au ?_|refine ap ?_|refine bE.norm ?_|refine bE.ret ?_
  |refine bE.exit ?_|refine OnC.ret ?_|refine OnC.exit ?_|exact⟨.inr rfl,_,rfl,.flat rfl,_,rfl⟩|fail)
 all_goals exact .norm ⟨_,_,cy KI rfl,bK Hy,rfl,rfl⟩
theorem f114(l:List Cl)(hl:l.length<9223372036854775807)(hp:∀c,c∈l→0<c.pats.length):cS 114 [.lst l.length 4 (clL l),.func (.func 115) [] []]:=by
 refine cA Tryz.func114 (by decide) cf114_ok rfl (bO (pxC l) (bO (pxF 115) px0)) rfl ?_
 repeat' (first
  |(refine WLg.mk ?_;first
  |refine aa rfl rfl rfl rfl ?_|refine aq rfl rfl rfl (f138 l hl hp) rfl ?_)
  |refine ah ?_|refine ac rfl ?_|refine ai ?_|refine ae ?_|refine ap ?_|refine bE.norm ?_
  |exact⟨.inr rfl,_,rfl,.flat rfl,_,rfl⟩|fail)
set_option maxHeartbeats 8000000 in
theorem f80(l:List Sg)(hl:l.length<9223372036854775807):cS 80 [.lst l.length 27 (sgL l)]:=by
 refine cA Tryz.func80 (by decide) cf80_ok rfl (bO (pxS l) px0) rfl ?_
 repeat' (first
  |(refine WLg.mk ?_;first
  |refine aa rfl rfl rfl rfl ?_)
  |refine ah ?_|refine ac rfl ?_|refine ai ?_|refine ae ?_|refine aj ?_|refine bE.norm ?_|fail)
 refine av (cy (l:=fr80 l 0) KT rfl) ?_
 refine aw l.length (fun i x h=>x=fr80 l i∧h=H0) ?_ (i:=0) (Nat.zero_le _) ⟨rfl,rfl⟩
 rintro i _ _ hi ⟨rfl,rfl⟩
 have hi2:i<9223372036854775807:=by omega
 repeat' (first
  |(refine WLg.mk ?_;first
  |refine aa rfl rfl rfl rfl ?_|refine aa rfl rfl (bM Hy) rfl ?_
  |refine ab rfl rfl (show ROp.run (.load true 11) [.eptr (sgO (ce l i)) 2] _=some (.agg (exO (ce l i).val))from rfl) rfl ?_
  |refine ab rfl rfl (show ROp.run (.load true 11) [.eptr (sgO (ce l i)) 13] _=some (.agg (exO (ce l i).size))from rfl) rfl ?_
  |refine ab rfl rfl rfl rfl ?_|refine ab rfl rfl (gq Hy) rfl ?_
  |refine aA rfl rfl RA rfl rfl rfl rfl rfl rfl rfl RA PB rfl rfl ?_
  |refine aq rfl rfl rfl (f62z (yc (ce l i).val)) rfl ?_|refine aq rfl rfl rfl (f62z (yc (ce l i).size)) rfl ?_
  |refine aq rfl rfl rfl (f111s _ _) rfl ?_)
  |refine ah ?_|refine ac rfl ?_|refine ax rfl rfl ?_|refine ay rfl (fun ht=>?_) (fun ht=>?_)
  |refine aH (t:=16) (fun b=>rfl) ?_ (fun b=>?_)|refine aH (t:=51) (fun b=>rfl) ?_ (fun b=>?_)
  |refine aH (t:=52) (fun b=>rfl) ?_ (fun b=>?_)|refine ai ?_|refine ae ?_|refine aj ?_|refine al ?_
  |refine ak rfl (fun ht=>?_) (fun ht=>?_)|refine au ?_|refine ap ?_|refine bE.norm ?_|refine bE.ret ?_
  |refine bE.exit ?_|refine OnC.ret ?_|refine OnC.exit ?_|exact⟨⟨_,rfl⟩,rfl⟩|exact⟨.inr rfl,_,rfl,.flat rfl,_,rfl⟩|fail)
 all_goals exact .norm ⟨_,_,cy KI rfl,bK Hy,rfl,rfl⟩
end
end Ev
end Go.Proofs.YtdfphfdnoobikaaGreatDoor
