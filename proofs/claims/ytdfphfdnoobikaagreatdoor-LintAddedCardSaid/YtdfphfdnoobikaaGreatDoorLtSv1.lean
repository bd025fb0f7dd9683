/-
  The program's survey:what is asked of a list alone.
-/
import Derived.Test.YtdfphfdnoobikaaGreatDoorLtParts2
namespace Go.Proofs.YtdfphfdnoobikaaGreatDoor
namespace Ev
section
theorem yV(x:Ex):lZ (.agg (exO x)):=qD x
noncomputable section
def fr110(f:FuncId)(l:List Sm)(i:Nat):AL:=[(0,.lst l.length 23 (smL l)),(1,.func (.func f) [] []),(7,.int .i64 (Int.ofNat l.length)),(8,.int .i64 (Int.ofNat i))]
def fr76(f:FuncId)(l:List (List Ex))(i:Nat):AL:=[(0,.lst l.length 1 (gdL l)),(1,.func (.func f) [] []),(7,.int .i64 (Int.ofNat l.length)),(8,.int .i64 (Int.ofNat i))]
def fr138(f:FuncId)(l:List Cl)(i:Nat):AL:=[(0,.lst l.length 4 (clL l)),(1,.func (.func f) [] []),(7,.int .i64 (Int.ofNat l.length)),(8,.int .i64 (Int.ofNat i))]
def fr80(l:List Sg)(i:Nat):AL:=[(6,.lst l.length 27 (sgL l)),(7,.int .i64 (Int.ofNat l.length)),(8,.int .i64 (Int.ofNat i))]
end
set_option maxHeartbeats 2000000 in
theorem f78(s:Sm):db 78 [.agg (smO s)]:=by
 refine cJ Tryz.func78 (by decide) q78.2 rfl (bO (pxm s) px0) rfl ?_
 repeat' (first
  |(refine WLg.mk ?_;first
  |refine aa rfl rfl rfl rfl ?_|refine ab rfl rfl (show ROp.run (.load true 11) [.eptr (smO s) 1] _=some (.agg (exO s.pat))from rfl) rfl ?_|refine ab rfl rfl rfl rfl ?_|refine aA rfl rfl RA rfl PB rfl ?_|refine aq rfl rfl rfl (f62z (yV s.pat)) rfl ?_)|apply ac|refine ae rfl ?_|refine ay rfl rfl ?_|refine az rfl (λht=>?_) (λht=>?_)|apply ai|apply ah|apply ap|apply bG.norm|exact⟨.inr rfl,_,rfl,.flat rfl,_,rfl⟩|fail)
theorem f110(l:List Sm)(hl:l.length<9223372036854775807):wx 110 [.lst l.length 23 (smL l),.func (.func 78) [] []]:=by
 refine vZ (dz Tryz.func110 (by decide) FF.2 rfl (bO (pxM l) (bO (pxF 78) px0)) rfl ?_);have pf:=pxF 78
 repeat' (first
  |(refine WLg.mk ?_;first
  |refine aa rfl rfl rfl rfl ?_)|apply ac|refine ae rfl ?_|apply ai|apply ah|apply aj|apply bG.norm|fail)
 refine aw (cA (l:=fr110 78 l 0) KT rfl) ?_;refine ax l.length (λi x h=>x=fr110 78 l i/\h=H0) ?_ (i:=0) (Nat.zero_le _) ⟨rfl,rfl⟩;rintro i _ _ hi ⟨rfl,rfl⟩;have hi2:i<9223372036854775807:=by omega
 repeat' (first
  |(refine WLg.mk ?_;first
  |refine aa rfl rfl rfl rfl ?_|refine aa rfl rfl (bN Hy) rfl ?_|refine ab rfl rfl (gV Hy) rfl ?_|refine aq rfl rfl rfl (f78 (cD l i)) rfl ?_)|apply ac|refine ae rfl ?_|apply ai|apply ah|apply aj|apply al|refine ak rfl (λht=>?_) (λht=>?_)|apply av|apply ap|apply bG.norm|apply bG.ret|apply bG.exit|apply OnC.ret|apply OnC.exit|exact⟨.inr rfl,_,rfl,.flat rfl,_,rfl⟩|fail)
 all_goals exact .norm ⟨_,_,cA KI rfl,bL Hy,rfl,rfl⟩
theorem f77(l:List Sm)(hl:l.length<9223372036854775807):db 77 [.lst l.length 23 (smL l),.func (.func 78) [] []]:=by
 refine cJ Tryz.func77 (by decide) q77.2 rfl (bO (pxM l) (bO (pxF 78) px0)) rfl ?_
 repeat' (first
  |(refine WLg.mk ?_;first
  |refine aa rfl rfl rfl rfl ?_|refine aq rfl rfl rfl (f110 l hl) rfl ?_)|apply ac|refine ae rfl ?_|apply ai|apply ah|apply ap|apply bG.norm|exact⟨.inr rfl,_,rfl,.flat rfl,_,rfl⟩|fail)
theorem f60(l:List Sm)(hl:l.length<9223372036854775807):db 60 [.lst l.length 23 (smL l)]:=by
 refine cJ Tryz.func60 (by decide) q60.2 rfl (bO (pxM l) px0) rfl ?_
 repeat' (first
  |(refine WLg.mk ?_;first
  |refine aa rfl rfl rfl rfl ?_|refine aq rfl rfl rfl (f77 l hl) rfl ?_)|apply ac|refine ae rfl ?_|apply ai|apply ah|apply ap|apply bG.norm|exact⟨.inr rfl,_,rfl,.flat rfl,_,rfl⟩|fail)
theorem f59(g:List Ex):db 59 [.lst g.length 11 (exL g)]:=by
 refine cJ Tryz.func59 (by decide) q59.2 rfl (bO (pxE g) px0) rfl ?_
 repeat' (first
  |(refine WLg.mk ?_;first
  |refine aa rfl rfl rfl rfl ?_)|apply ac|refine ae rfl ?_|apply ai|apply ah|apply ap|apply bG.norm|exact⟨.inr rfl,_,rfl,.flat rfl,_,rfl⟩|fail)
theorem f76(l:List (List Ex))(hl:l.length<9223372036854775807):wx 76 [.lst l.length 1 (gdL l),.func (.func 59) [] []]:=by
 refine vZ (dz Tryz.func76 (by decide) q76.2 rfl (bO (pxG l) (bO (pxF 59) px0)) rfl ?_);have pf:=pxF 59
 repeat' (first
  |(refine WLg.mk ?_;first
  |refine aa rfl rfl rfl rfl ?_)|apply ac|refine ae rfl ?_|apply ai|apply ah|apply aj|apply bG.norm|fail)
 refine aw (cA (l:=fr76 59 l 0) KT rfl) ?_;refine ax l.length (λi x h=>x=fr76 59 l i/\h=H0) ?_ (i:=0) (Nat.zero_le _) ⟨rfl,rfl⟩;rintro i _ _ hi ⟨rfl,rfl⟩;have hi2:i<9223372036854775807:=by omega
 repeat' (first
  |(refine WLg.mk ?_;first
  |refine aa rfl rfl rfl rfl ?_|refine aa rfl rfl (bN Hy) rfl ?_|refine ab rfl rfl (dO (j:=0) (oY Hy) rfl _) rfl ?_|refine aq rfl rfl rfl (f59 (di l i)) rfl ?_)|apply ac|refine ae rfl ?_|apply ai|apply ah|apply aj|apply al|refine ak rfl (λht=>?_) (λht=>?_)|apply av|apply ap|apply bG.norm|apply bG.ret|apply bG.exit|apply OnC.ret|apply OnC.exit|exact⟨.inr rfl,_,rfl,.flat rfl,_,rfl⟩|fail)
 all_goals exact .norm ⟨_,_,cA KI rfl,bL Hy,rfl,rfl⟩
noncomputable def rbf(f:FuncId)(vs:List V):Bool:=by
 classical exact if CP f vs (.bool false)then false else true
theorem G6{f:FuncId}{vs:List V}{b:Bool}(h:CP f vs (.bool b)):CP f vs (.bool (rbf f vs)):=by
 unfold rbf
 by_cases q:CP f vs (.bool false)
 ·rw [if_pos q]
  exact q
 ·rw [if_neg q]
  cases b with
  |false=>exact absurd h q
  |true=>exact h
theorem zP{f:FuncId}{vs:List V}(h:CP f vs (.bool false)):rbf f vs=false:=if_pos h
theorem f58b(l:List (List Ex))(hl:l.length<9223372036854775807):db 58 [.lst l.length 1 (gdL l),.func (.func 59) [] []]:=by
 refine cJ Tryz.func58 (by decide) q58.2 rfl (bO (pxG l) (bO (pxF 59) px0)) rfl ?_
 repeat' (first
  |(refine WLg.mk ?_;first
  |refine aa rfl rfl rfl rfl ?_|refine aq rfl rfl rfl (f76 l hl) rfl ?_)|apply ac|refine ae rfl ?_|apply ai|apply ah|apply ap|apply bG.norm|exact⟨.inr rfl,_,rfl,.flat rfl,_,rfl⟩|fail)
theorem f58(l:List (List Ex))(hl:l.length<9223372036854775807):CP 58 [.lst l.length 1 (gdL l),.func (.func 59) [] []] (.bool (rbf 58 [.lst l.length 1 (gdL l),.func (.func 59) [] []])):=G6 (f58b l hl)
theorem f116(x:Ex):db 116 [.agg (exO x)]:=by
 refine cJ Tryz.func116 (by decide) H9.2 rfl (bO (pxe x) px0) rfl ?_
 repeat' (first
  |(refine WLg.mk ?_;first
  |refine aa rfl rfl rfl rfl ?_|refine ab rfl rfl rfl rfl ?_|refine aA rfl rfl RA rfl PB rfl ?_)|apply ac|refine ae rfl ?_|refine ay rfl rfl ?_|refine az rfl (λht=>?_) (λht=>?_)|apply ai|apply ah|apply aj|apply al|refine ak rfl (λht=>?_) (λht=>?_)|apply ap|apply bG.norm|apply bG.ret|exact⟨.inr rfl,_,rfl,.flat rfl,_,rfl⟩|fail)
theorem f115(c:Cl)(h:0<c.pats.length):db 115 [.agg (clO c)]:=by
 refine cJ Tryz.func115 (by decide) Ia.2 rfl (bO (pxc c) px0) rfl ?_;have hb:Nat.blt 0 c.pats.length=true:=ltb h
 repeat' (first
  |(refine WLg.mk ?_;first
  |refine aa rfl rfl (bN (i:=0) hb) rfl ?_|refine aa rfl rfl rfl rfl ?_|refine ab rfl rfl (dA (i:=0) hb) rfl ?_|refine ab rfl rfl rfl rfl ?_|refine aA rfl rfl RA rfl PB rfl ?_|refine aq rfl rfl rfl (f116 (bW c.pats 0)) rfl ?_)|apply ac|refine ae rfl ?_|apply ai|apply ah|apply ap|apply bG.norm|exact⟨.inr rfl,_,rfl,.flat rfl,_,rfl⟩|fail)
theorem f138(l:List Cl)(hl:l.length<9223372036854775807)(hp:∀c,c∈l->0<c.pats.length):wx 138 [.lst l.length 4 (clL l),.func (.func 115) [] []]:=by
 refine vZ (dz Tryz.func138 (by decide) HU.2 rfl (bO (pxC l) (bO (pxF 115) px0)) rfl ?_);have pf:=pxF 115
 repeat' (first
  |(refine WLg.mk ?_;first
  |refine aa rfl rfl rfl rfl ?_)|apply ac|refine ae rfl ?_|apply ai|apply ah|apply aj|apply bG.norm|fail)
 refine aw (cA (l:=fr138 115 l 0) KT rfl) ?_;refine ax l.length (λi x h=>x=fr138 115 l i/\h=H0) ?_ (i:=0) (Nat.zero_le _) ⟨rfl,rfl⟩;rintro i _ _ hi ⟨rfl,rfl⟩;have hi2:i<9223372036854775807:=by omega
 have c115:i<l.length->db 115 [.agg (clO (bM l i))]:=λh=>f115 _ (hp _ (mE (ltb h)))
 repeat' (first
  |(refine WLg.mk ?_;first
  |refine aa rfl rfl rfl rfl ?_|refine aa rfl rfl (bN Hy) rfl ?_|refine ab rfl rfl (gj Hy) rfl ?_|refine aq rfl rfl rfl (c115 (bL Hy)) rfl ?_)|apply ac|refine ae rfl ?_|apply ai|apply ah|apply aj|apply al|refine ak rfl (λht=>?_) (λht=>?_)|apply av|apply ap|apply bG.norm|apply bG.ret|apply bG.exit|apply OnC.ret|apply OnC.exit|exact⟨.inr rfl,_,rfl,.flat rfl,_,rfl⟩|fail)
 all_goals exact .norm ⟨_,_,cA KI rfl,bL Hy,rfl,rfl⟩
theorem f114(l:List Cl)(hl:l.length<9223372036854775807)(hp:∀c,c∈l->0<c.pats.length):db 114 [.lst l.length 4 (clL l),.func (.func 115) [] []]:=by
 refine cJ Tryz.func114 (by decide) Ib.2 rfl (bO (pxC l) (bO (pxF 115) px0)) rfl ?_
 repeat' (first
  |(refine WLg.mk ?_;first
  |refine aa rfl rfl rfl rfl ?_|refine aq rfl rfl rfl (f138 l hl hp) rfl ?_)|apply ac|refine ae rfl ?_|apply ai|apply ah|apply ap|apply bG.norm|exact⟨.inr rfl,_,rfl,.flat rfl,_,rfl⟩|fail)
set_option maxHeartbeats 8000000 in
theorem f80(l:List Sg)(hl:l.length<9223372036854775807):db 80 [.lst l.length 27 (sgL l)]:=by
 refine cJ Tryz.func80 (by decide) q80.2 rfl (bO (pxS l) px0) rfl ?_
 repeat' (first
  |(refine WLg.mk ?_;first
  |refine aa rfl rfl rfl rfl ?_)|apply ac|refine ae rfl ?_|apply ai|apply ah|apply aj|apply bG.norm|fail)
 refine aw (cA (l:=fr80 l 0) KT rfl) ?_;refine ax l.length (λi x h=>x=fr80 l i/\h=H0) ?_ (i:=0) (Nat.zero_le _) ⟨rfl,rfl⟩;rintro i _ _ hi ⟨rfl,rfl⟩;have hi2:i<9223372036854775807:=by omega
 repeat' (first
  |(refine WLg.mk ?_;first
  |refine aa rfl rfl rfl rfl ?_|refine aa rfl rfl (bN Hy) rfl ?_|refine ab rfl rfl (show ROp.run (.load true 11) [.eptr (sgO (ck l i)) 2] _=some (.agg (exO (ck l i).val))from rfl) rfl ?_|refine ab rfl rfl (show ROp.run (.load true 11) [.eptr (sgO (ck l i)) 13] _=some (.agg (exO (ck l i).size))from rfl) rfl ?_|refine ab rfl rfl rfl rfl ?_|refine ab rfl rfl (gh Hy) rfl ?_|refine aC rfl rfl RA rfl rfl rfl rfl rfl rfl rfl RA PB rfl rfl ?_|refine aq rfl rfl rfl (f62z (yV (ck l i).val)) rfl ?_|refine aq rfl rfl rfl (f62z (yV (ck l i).size)) rfl ?_|refine aq rfl rfl rfl (f111s _ _) rfl ?_)|apply ac|refine ae rfl ?_|refine ay rfl rfl ?_|refine az rfl (λht=>?_) (λht=>?_)|refine aH (t:=16) (λb=>rfl) ?_ (λb=>?_)|refine aH (t:=51) (λb=>rfl) ?_ (λb=>?_)|refine aH (t:=52) (λb=>rfl) ?_ (λb=>?_)|apply ai|apply ah|apply aj|apply al|refine ak rfl (λht=>?_) (λht=>?_)|apply av|apply ap|apply bG.norm|apply bG.ret|apply bG.exit|apply OnC.ret|apply OnC.exit|exact⟨⟨_,rfl⟩,rfl⟩|exact⟨.inr rfl,_,rfl,.flat rfl,_,rfl⟩|fail)
 all_goals exact .norm ⟨_,_,cA KI rfl,bL Hy,rfl,rfl⟩
end
section
noncomputable section
def svC(n f:Nat)(l:Bool):List V:=[.int .i64 (Int.ofNat n),.int .i64 (Int.ofNat f),.bool l]
def svH(n f:Nat)(l:Bool):H:=HB (svC n f l)
def wdB(s:ByteArray):Bool:=rb 45 [sV s]
def gdB(l:List (List Ex)):Bool:=rbf 58 [.lst l.length 1 (gdL l),.func (.func 59) [] []]
def bdB(l:List Sm):Bool:=rb 60 [.lst l.length 23 (smL l)]
def okC(p:Int)(nm:Bool)(c:Cl):Bool:=
 !((!ltI p 0 && !eqI (Int.ofNat c.pats.length) p)||eqI (Int.ofNat c.body.length) 0||(nm && !wdB c.name)||(!nm && !cV c.name.size (bT c.name.data.toList) 0 0)) && !(gdB c.guards || !bdB c.body)
def clB(p:Int)(nm:Bool)(l:List Cl):Bool:=l.all (okC p nm)
def lgC(c:Cl):Bool:=ltI 16 (Int.ofNat c.pats.length)
def clG(l:List Cl):Bool:=ltI 60 (Int.ofNat l.length)||l.any lgC
def fr46(l:List Cl)(p:Int)(nm:Bool)(i:Nat):AL:=[(0,.ptr 1 0),(2,.int .i64 p),(3,.bool nm),(23,.lst l.length 4 (clL l)),(24,.int .i64 (Int.ofNat l.length)),(25,.int .i64 (Int.ofNat i))]
end
theorem dQ(n f:Nat)(l:Bool):∀v,v∈svC n f l->bP v:=bO (.flat rfl) (bO (.flat rfl) (bO (.flat rfl) px0))
theorem rr{l:List Cl}{i:Nat}(h:i<l.length):l.take (i+1)=l.take i++[bM l i]:=by
 have h1:l[i]? =some (bM l i):=cO (ltb h);rw [List.take_add_one,h1];rfl
theorem CV{l:List Cl}{i:Nat}(h:i<l.length):bM l i∈l:=mE (ltb h)
theorem pP{l:List Cl}{i:Nat}{l0 b lc:Bool}(h:i<l.length)(e:lc=(l0||(b||(l.take i).any lgC))):(l0||(b||(l.take (i+1)).any lgC))=(lc||lgC (bM l i)):=by
 rw [rr h,List.any_append,e];simp [Bool.or_assoc]
theorem EY{p:Int}{nm:Bool}{l:List Cl}{c:Cl}(h:c∈l)(k:okC p nm c=false):clB p nm l=false:=by
 cases q:clB p nm l with
 |false=>rfl
 |true=>
  have:=List.all_eq_true.1 q c h;rw [k]at this;cases this
set_option maxHeartbeats 8000000 in
theorem f46t(l:List Cl)(hl:bH (clL l)<=6000000)(p:Int)(n f:Nat)(l0:Bool):
  ∃l1,CN 46 [.ptr 1 0,.lst l.length 4 (clL l),.int .i64 p,.bool true] (svH n f l0) (.bool (clB p true l)) (svH n f l1)/\(clB p true l=true->l1=(l0||clG l)):=by
 obtain⟨v,h',c,l1,rfl,rfl,ok⟩:∃v h',CN 46 [.ptr 1 0,.lst l.length 4 (clL l),.int .i64 p,.bool true] (svH n f l0) v h'/\∃l1,v= .bool (clB p true l)/\h'=svH n f l1/\(clB p true l=true->l1=(l0||clG l)):=by
  refine pT Tryz.func46 (by decide) q46.2 rfl rfl ?_;have hn:=eT l
  repeat' (first
   |(refine WLg.mk ?_;first
   |refine aa rfl rfl rfl rfl ?_|refine ab rfl rfl rfl rfl ?_|refine aQ rfl rfl rfl rfl rfl rfl rfl rfl rfl ?_)|apply ac|refine ae rfl ?_|refine ay rfl rfl ?_|refine az rfl (λht=>?_) (λht=>?_)|apply ai|apply ah|apply aj|apply bG.norm|fail)
  all_goals (
   refine aw (rW AK (l:=fr46 l p true 0) (cs:=svC n f (l0||ltI 60 (Int.ofNat l.length))) KS rfl rfl rfl (gq rfl rfl (by rw [ht];rfl)) (dQ _ _ _)) ?_;clear ht;refine ax l.length (λi x h=>(∃lc,lc=(l0||(ltI 60 (Int.ofNat l.length)||(l.take i).any lgC))/\x=fr46 l p true i/\h=svH n f lc)/\∀c,c∈l.take i->okC p true c=true) ?_ (i:=0) (Nat.zero_le _) ⟨⟨_,by simp,rfl,rfl⟩,λc h=>by simp at h⟩;rintro i _ _ hi ⟨⟨lc,hlc,rfl,rfl⟩,seen⟩;have hi2:i<9223372036854775807:=by omega
   have g45:=f45 (bM l i).name.size (bT (bM l i).name.data.toList);have gsz:i<l.length->(bM l i).guards.length<9223372036854775807/\(bM l i).body.length<9223372036854775807:=λh=>by
    have:=kc (ltb h);have:=fJ (bM l i);have:=jF (bM l i).guards;have:=gM (bM l i).body;omega
   have g58:i<l.length->CP 58 [.lst (bM l i).guards.length 1 (gdL (bM l i).guards),.func (.func 59) [] []] (.bool (rbf 58 [.lst (bM l i).guards.length 1 (gdL (bM l i).guards),.func (.func 59) [] []])):=λh=>f58 _ (gsz h).1;have g60:i<l.length->db 60 [.lst (bM l i).body.length 23 (smL (bM l i).body)]:=λh=>f60 _ (gsz h).2
   repeat' (first
    |(refine WLg.mk ?_;first
    |refine aa rfl rfl rfl rfl ?_|refine aa rfl rfl (bN Hy) rfl ?_|refine ab rfl rfl rfl rfl ?_|refine ab rfl rfl (gj Hy) rfl ?_|refine aC rfl rfl RA rfl rfl rfl rfl rfl rfl rfl RA PB rfl rfl ?_|refine aQ rfl rfl rfl rfl rfl rfl rfl rfl rfl ?_|refine aq rfl rfl rfl (g45) rfl ?_|refine aq rfl rfl rfl (g58 (bL Hy)) rfl ?_|refine aq rfl rfl rfl (g60 (bL Hy)) rfl ?_)|apply ac|refine ae rfl ?_|refine ay rfl rfl ?_|refine az rfl (λht=>?_) (λht=>?_)|apply ai|apply ah|apply aj|apply al|refine aD rfl ?_|refine aB rfl ?_|refine ak rfl (λht=>?_) (λht=>?_)|apply av|apply ap|apply bG.norm|apply bG.ret|apply bG.exit|apply OnC.ret|apply OnC.exit|fail)
   all_goals first
    |(refine OnC.norm ⟨_,_,rW AK (l:=fr46 l p true (i+1)) (cs:=svC n f (l0||(ltI 60 (Int.ofNat l.length)||(l.take (i+1)).any lgC))) KSI rfl rfl rfl (gq rfl rfl ?_) (dQ _ _ _),bL Hy,⟨⟨_,rfl,rfl,rfl⟩,λc hc=>?_⟩⟩
      ·have hlt:i<l.length:=bL Hy
       first
        |(rw [pP hlt hlc,(by assumption:lc=true)];rfl)|(rw [pP hlt hlc,(by assumption:lc=false)];rfl)
      ·have hlt:i<l.length:=bL Hy
       rw [rr hlt]at hc;rcases List.mem_append.1 hc with hc|hc
       ·exact seen c hc
       ·rw [List.mem_singleton.1 hc]
        simp only [okC,wdB,gdB,bdB,sV,Bool.not_true,Bool.not_false,Bool.and_false,Bool.false_and,Bool.and_self,Bool.or_self, *])
    |(have hie:i=l.length:=by have:=ce (by assumption:ltI (Int.ofNat i) (Int.ofNat l.length)=false);omega
      rw [hie,List.take_length]at hlc seen;exact⟨.inr rfl,_,rfl,Nat.le_refl _,lc,by rw [clB,List.all_eq_true.2 seen];rfl,rfl,λ_=>hlc⟩)
    |(have hno:okC p true (bM l i)=false:=by simp only [okC,wdB,gdB,bdB,sV,Bool.not_true,Bool.not_false,Bool.true_and,Bool.and_false,Bool.false_and,Bool.or_true,Bool.true_or,Bool.or_false,Bool.and_self,Bool.or_self, *]
      have hcb:=EY (CV (bL Hy)) hno
      first
       |exact⟨.inr rfl,_,rfl,Nat.le_refl _,true,congrArg V.bool hcb.symm,rfl,λh=>by rw [hcb]at h;cases h⟩|exact⟨.inr rfl,_,rfl,Nat.le_refl _,ltI 16 (Int.ofNat (bM l i).pats.length),congrArg V.bool hcb.symm,rfl,λh=>by rw [hcb]at h;cases h⟩)|fail)
 exact⟨l1,c,ok⟩
set_option maxHeartbeats 8000000 in
theorem f46f(l:List Cl)(hl:bH (clL l)<=6000000)(p:Int)(n f:Nat)(l0:Bool):
  ∃l1,CN 46 [.ptr 1 0,.lst l.length 4 (clL l),.int .i64 p,.bool false] (svH n f l0) (.bool (clB p false l)) (svH n f l1)/\(clB p false l=true->l1=(l0||clG l)):=by
 obtain⟨v,h',c,l1,rfl,rfl,ok⟩:∃v h',CN 46 [.ptr 1 0,.lst l.length 4 (clL l),.int .i64 p,.bool false] (svH n f l0) v h'/\∃l1,v= .bool (clB p false l)/\h'=svH n f l1/\(clB p false l=true->l1=(l0||clG l)):=by
  refine pT Tryz.func46 (by decide) q46.2 rfl rfl ?_;have hn:=eT l
  repeat' (first
   |(refine WLg.mk ?_;first
   |refine aa rfl rfl rfl rfl ?_|refine ab rfl rfl rfl rfl ?_|refine aQ rfl rfl rfl rfl rfl rfl rfl rfl rfl ?_)|apply ac|refine ae rfl ?_|refine ay rfl rfl ?_|refine az rfl (λht=>?_) (λht=>?_)|apply ai|apply ah|apply aj|apply bG.norm|fail)
  all_goals (
   refine aw (rW AK (l:=fr46 l p false 0) (cs:=svC n f (l0||ltI 60 (Int.ofNat l.length))) KS rfl rfl rfl (gq rfl rfl (by rw [ht];rfl)) (dQ _ _ _)) ?_;clear ht;refine ax l.length (λi x h=>(∃lc,lc=(l0||(ltI 60 (Int.ofNat l.length)||(l.take i).any lgC))/\x=fr46 l p false i/\h=svH n f lc)/\∀c,c∈l.take i->okC p false c=true) ?_ (i:=0) (Nat.zero_le _) ⟨⟨_,by simp,rfl,rfl⟩,λc h=>by simp at h⟩;rintro i _ _ hi ⟨⟨lc,hlc,rfl,rfl⟩,seen⟩;have hi2:i<9223372036854775807:=by omega
   have g45:=f45 (bM l i).name.size (bT (bM l i).name.data.toList);have gsz:i<l.length->(bM l i).guards.length<9223372036854775807/\(bM l i).body.length<9223372036854775807:=λh=>by
    have:=kc (ltb h);have:=fJ (bM l i);have:=jF (bM l i).guards;have:=gM (bM l i).body;omega
   have g58:i<l.length->CP 58 [.lst (bM l i).guards.length 1 (gdL (bM l i).guards),.func (.func 59) [] []] (.bool (rbf 58 [.lst (bM l i).guards.length 1 (gdL (bM l i).guards),.func (.func 59) [] []])):=λh=>f58 _ (gsz h).1;have g60:i<l.length->db 60 [.lst (bM l i).body.length 23 (smL (bM l i).body)]:=λh=>f60 _ (gsz h).2
   repeat' (first
    |(refine WLg.mk ?_;first
    |refine aa rfl rfl rfl rfl ?_|refine aa rfl rfl (bN Hy) rfl ?_|refine ab rfl rfl rfl rfl ?_|refine ab rfl rfl (gj Hy) rfl ?_|refine aC rfl rfl RA rfl rfl rfl rfl rfl rfl rfl RA PB rfl rfl ?_|refine aQ rfl rfl rfl rfl rfl rfl rfl rfl rfl ?_|refine aq rfl rfl rfl (g58 (bL Hy)) rfl ?_|refine aq rfl rfl rfl (g60 (bL Hy)) rfl ?_)|apply ac|refine ae rfl ?_|refine ay rfl rfl ?_|refine az rfl (λht=>?_) (λht=>?_)|apply ai|apply ah|apply aj|apply al|refine aD rfl ?_|refine ak rfl (λht=>?_) (λht=>?_)|apply av|apply ap|apply bG.norm|apply bG.ret|apply bG.exit|apply OnC.ret|apply OnC.exit|fail)
   all_goals first
    |(refine OnC.norm ⟨_,_,rW AK (l:=fr46 l p false (i+1)) (cs:=svC n f (l0||(ltI 60 (Int.ofNat l.length)||(l.take (i+1)).any lgC))) KSI rfl rfl rfl (gq rfl rfl ?_) (dQ _ _ _),bL Hy,⟨⟨_,rfl,rfl,rfl⟩,λc hc=>?_⟩⟩
      ·have hlt:i<l.length:=bL Hy
       first
        |(rw [pP hlt hlc,(by assumption:lc=true)];rfl)|(rw [pP hlt hlc,(by assumption:lc=false)];rfl)
      ·have hlt:i<l.length:=bL Hy
       rw [rr hlt]at hc;rcases List.mem_append.1 hc with hc|hc
       ·exact seen c hc
       ·rw [List.mem_singleton.1 hc]
        simp only [okC,wdB,gdB,bdB,sV,Bool.not_false,Bool.and_false,Bool.false_and,Bool.and_self,Bool.or_self, *])
    |(have hie:i=l.length:=by have:=ce (by assumption:ltI (Int.ofNat i) (Int.ofNat l.length)=false);omega
      rw [hie,List.take_length]at hlc seen;exact⟨.inr rfl,_,rfl,Nat.le_refl _,lc,by rw [clB,List.all_eq_true.2 seen];rfl,rfl,λ_=>hlc⟩)
    |(have hno:okC p false (bM l i)=false:=by simp only [okC,wdB,gdB,bdB,sV,Bool.not_true,Bool.not_false,Bool.true_and,Bool.and_false,Bool.false_and,Bool.or_true,Bool.true_or,Bool.or_false,Bool.and_self,Bool.or_self, *]
      have hcb:=EY (CV (bL Hy)) hno
      first
       |exact⟨.inr rfl,_,rfl,Nat.le_refl _,true,congrArg V.bool hcb.symm,rfl,λh=>by rw [hcb]at h;cases h⟩|exact⟨.inr rfl,_,rfl,Nat.le_refl _,ltI 16 (Int.ofNat (bM l i).pats.length),congrArg V.bool hcb.symm,rfl,λh=>by rw [hcb]at h;cases h⟩)|fail)
 exact⟨l1,c,ok⟩
theorem f46(l:List Cl)(hl:bH (clL l)<=6000000)(p:Int)(nm:Bool)(n f:Nat)(l0:Bool):
  ∃l1,CN 46 [.ptr 1 0,.lst l.length 4 (clL l),.int .i64 p,.bool nm] (svH n f l0) (.bool (clB p nm l)) (svH n f l1)/\(clB p nm l=true->l1=(l0||clG l)):=by
 cases nm with
 |true=>exact f46t l hl p n f l0
 |false=>exact f46f l hl p n f l0
end
section
theorem jB{cs:List V}(i:Nat):cL (lpB cs) i↔i<2:=by
 constructor
 ·rintro⟨b,e⟩
  match i,e with
  |0,_=>decide
  |1,_=>decide
  |i+2,e=>cases e
 ·intro h
  match i,h with
  |0,_=>exact⟨_,rfl⟩
  |1,_=>exact⟨_,rfl⟩
theorem vwB{h:H}{cs:List V}{tr:Tr V}{ch:Bool}(hb:h.blk 0=some (.ro 256 dN))(hs:h.blk 1=some (.cells (bY cs) tr none ch))(hl:Nat.ble (bY cs) bR=true)(hc:∀j v,cs[j]? =some v->tr.get j=some v)(hp:∀c,c∈cs->bP c):Vw TP h (lpB cs) (λi=>i) (λ_=>none):=by
 have hk:2<=bR:=by unfold bR;omega
 have hl':cs.length<=bR:=by rw [<-@bV noE];exact Nat.le_of_ble_eq_true hl
 have u:∀i,cL (lpB cs) i->i=0\/i=1:=λi h=>by have:=(jB i).1 h;omega
 have noUp:∀i j d,cL (lpB cs) i->¬Up h i j d:=λi j d hi=>by
  rcases u i hi with rfl|rfl
  ·exact dH hb
  ·intro q
   cases q with
   |one e' k'=>rw [hs]at e';cases e';cases k'
   |step e' k' _=>rw [hs]at e';cases e';cases k'
 refine⟨hk,λi b' e=>?_,λi j _ _ e=>e,λi j d hi _=>noUp i j d hi,(λk cs e=>by cases e),(λk cs i e=>by cases e),λq hq=>⟨rfl,?_⟩⟩
 ·rcases u i ⟨_,e⟩with rfl|rfl
  ·obtain rfl:Blk.ro 256 dN=b':=by cases e;rfl
   exact⟨_,hb,.ro λj v e=>.flat (d3 eJ (by rw [fU];unfold bR;omega) e)⟩
  ·obtain rfl:Blk.cells (bY cs) (cq cs 0 .e) none false=b':=by cases e;rfl
   refine⟨_,hs,.cells λj v hj e=>?_⟩;rw [@bV noE]at hj;rw [@cU noE cs 0 .e j (by omega),if_pos (by omega),Nat.sub_zero]at e;exact⟨v,hc j v e,.pure (hp v (List.mem_of_getElem? e))⟩
 ·have e:=jV.all q hq
  have hq':q.1=0:=by rw [ii]at hq;rw [List.mem_singleton.1 hq]
  rw [hq']at e ⊢;exact e
theorem Con.drop{f:FuncId}{h h1:H}{vs:List V}{v:V}{cs:List V}(c:CN f vs h v h1)(hv:bP v)(hn:h.next<=2)(V:Vw TP h1 (lpB cs) (λi=>i) (λ_=>none)):CN f vs h v (HB cs):=by
 refine⟨λE g w us s hu=>?_⟩;obtain⟨fn,k1,k2,k3,k4⟩:=c.out E g w us s hu;refine⟨fn,k1,k2,k3,k4.mono ?_⟩;rintro e w' ⟨E',g',u,rfl,m1,m2⟩;obtain⟨E2,g2,_,_,hE,s2,q1,q2,_⟩:=V.sit m2.sit;obtain rfl:=hE λ_=>rfl;refine⟨E2,g2,u,rfl,hv.vr u m1,m2.envl,m2.envn,λid x hm e=>?_,hn,s2,m2.size,m2.keep,λid b o z e=>?_,m2.pin,m2.os,m2.tape,m2.output⟩
 ·rw [q1 id ((jB id).2 (by have:=@WR.dom E _ _ _ _ s.wr _ _ e;omega))]
  exact m2.le id x hm e
 ·by_cases q:cL (lpB cs) id
  ·rw [q1 id q]at e;exact m2.fresh id b o z e
  ·rw [q2 id q]at e;cases e
theorem Ah(b:Blk):zv noM b:=by
 have fv:∀v,dg noM v:=λv E g g' u hg h=>@VR.mono E g g' (λid x=>hg id x (λk=>k)) _ _ h;cases b with
 |cells=>exact λj v _=>fv v
 |ro=>exact λj v _=>fv v
 |map=>exact λe _=>⟨fv _,fv _⟩
 |siter=>trivial
 |dead=>trivial
 |loop=>exact λid q=>q
 |miter=>exact λid q=>q
theorem sd{E:En}{g:G}:∀{l:List V} {us:List Value},@VRs E g l us->V.ptr 1 0∈l->∃x,g 1=some x
 |[],_,_,h=>by cases h
 |v ::l,_,hr,h=>by
  cases hr with
  |cons a b=>
   rcases List.mem_cons.1 h with h|h
   ·subst h
    cases a with
    |ptr e=>exact⟨_,e⟩
   ·exact sd b h
theorem Con.frameB{f:FuncId}{vs:List V}{v:V}{cs cs':List V}(c:CN f vs (HB cs) v (HB cs'))(hvs:RnL (cL (lpB cs)) (λi=>i) (λ_=>none) vs vs)(hp:V.ptr 1 0∈vs)(hv:bP v)(h1:∀c,c∈cs->bP c)(h2:∀c,c∈cs'->bP c)(hl:Nat.ble (bY cs) bR=true)(hl2:Nat.ble (bY cs') bR=true)
  {h:H} {tr:Tr V} (hb:h.blk 0=some (.ro 256 dN)) (hs:h.blk 1=some (.cells (bY cs) tr none false)) (hc:∀j v,cs[j]? =some v->tr.get j=some v) (hn:2<=h.next):CN f vs h v ⟨h.t.put 1 (some (.cells (bY cs') (cq cs' 0 .e) none false)),h.next⟩:=by
 have hl':cs.length<=bR:=by rw [<-@bV noE];exact Nat.le_of_ble_eq_true hl
 have hl2':cs'.length<=bR:=by rw [<-@bV noE];exact Nat.le_of_ble_eq_true hl2
 have gb:∀j,(⟨h.t.put 1 (some (.cells (bY cs') (cq cs' 0 .e) none false)),h.next⟩:H).blk j=if j=1 then some (.cells (bY cs') (cq cs' 0 .e) none false)else h.blk j:=λj=>Tr.get_put h.t 1 j _ (by unfold bR;omega)
 have sm:pr Tryz.prog TP (λi=>cL (lpB cs) i/\¬noM i) f (g8 (lpB cs)) vs (g8 (lpB cs')) v:=by
  intro E g w us s hu;obtain⟨fn,k1,k2,k3,k4⟩:=c.out E g w us s hu;refine⟨fn,k1,k2,k3,k4.mono ?_⟩;rintro e w' ⟨E',g',u,rfl,m1,m2⟩;refine⟨E',g',u,rfl,m1,m2.sit,m2.envl,λb c e=>?_,λid x _ e=>m2.le id x (λq=>q) e,m2.size,m2.keep,m2.fresh,m2.pin,m2.os,m2.tape,m2.output⟩;rcases m2.envn b c e with k|k
  ·exact .inl k
  ·exact .inr (.inl k)
 refine sm.con (Lc.loc (T:=TP) (mv:=noM) (l:=lpB cs) (l':=lpB cs') (ρ:=λi=>i) ?_ hvs (.pure hv) (λE g w us s hu i hi _=>?_) ⟨1,⟨⟨_,rfl⟩,λq=>q⟩,λp hp=>by rw [ii]at hp;rw [List.mem_singleton.1 hp];decide⟩)
 ·refine⟨vwB hb hs hl hc h1,λi B hi e=>?_,λi hi=>?_,rfl,λi hi=>(jB i).2 ((jB i).1 hi),λi hi _=>(jB i).2 ((jB i).1 hi),λi hi=>hi.elim,λi b e hr=>?_,λi b B e1 e2=>?_,λi b B e1 e2=>?_,λi j _ _ e=>e,rfl,λid ho=>?_,λid b _ _=>Ah b,λi b' e=>?_⟩
  ·rcases (by have:=(jB i).1 hi;omega:i=0\/i=1)with rfl|rfl
   ·rw [hb]at e;cases e;exact .inl rfl
   ·rw [hs]at e;cases e;exact .inr rfl
  ·have:i<2:=hi
   show i<h.next
   omega
  ·rcases (by have:=(jB i).1 ⟨_,e⟩;omega:i=0\/i=1)with rfl|rfl
   ·exact⟨(0,0,256,dN),by rw [ii];exact List.mem_singleton.2 rfl,rfl⟩
   ·cases e;cases hr
  ·rcases (by have:=(jB i).1 ⟨_,e1⟩;omega:i=0\/i=1)with rfl|rfl
   ·cases e1;cases e2;rfl
   ·cases e1;cases e2;rfl
  ·rcases (by have:=(jB i).1 ⟨_,e1⟩;omega:i=0\/i=1)with rfl|rfl
   ·cases e1;rw [hb]at e2;cases e2;rfl
   ·cases e1;rw [hs]at e2;cases e2;rfl
  ·have h1:id≠1:=λq=>ho 1 ((jB 1).2 (by decide)) q.symm
   rw [gb,if_neg h1]
  ·rcases (by have:=(jB i).1 ⟨_,e⟩;omega:i=0\/i=1)with rfl|rfl
   ·obtain rfl:Blk.ro 256 dN=b':=by cases e;rfl
    exact⟨_,by rw [gb,if_neg (by decide)];exact hb,.ro λj v e=>.flat (d3 eJ (by rw [fU];unfold bR;omega) e)⟩
   ·obtain rfl:Blk.cells (bY cs') (cq cs' 0 .e) none false=b':=by cases e;rfl
    refine⟨_,by rw [gb,if_pos rfl],.cells λj v hj e=>⟨v,e,.pure ?_⟩⟩;rw [@bV noE]at hj;rw [@cU noE cs' 0 .e j (by omega),if_pos (by omega),Nat.sub_zero]at e;exact h2 v (List.mem_of_getElem? e)
 ·rcases (by have:=(jB i).1 hi;omega:i=0\/i=1)with rfl|rfl
  ·obtain⟨⟨z,q⟩,_⟩:=s.pin0
   exact⟨_,q⟩
  ·exact sd hu hp
theorem rn{f:FuncId} {fn:Func} {cf:CF} {cs:List V} (hfn:Tryz.prog.funcs[f]? =some fn) (hnm:fn.name≠ "runtime.NumGoroutine") (hcf:bQ TP fn=some cf) {vs:List V} (hlen:vs.length=cf.params) {R:V->List V->Prop} {loc:AL} (hn:kP vs 0=some loc)
  (k:WC Tryz.prog TP KB ft 1 cf.code loc (HB cs) (pv cf λv h'=>2<=h'.next/\bP v/\∃cs' tr ch,R v cs'/\h'.blk 0=some (.ro 256 dN)/\h'.blk 1=some (.cells (bY cs') tr none ch)/\(∀j v,cs'[j]? =some v->tr.get j=some v)/\(∀c,c∈cs'->bP c)/\Nat.ble (bY cs') bR=true)):∃v cs',CN f vs (HB cs) v (HB cs')/\R v cs':=by
 obtain⟨v,h',c,p,cs',tr,ch,q1,q2,q3,q4,q5,q6⟩:=pT hfn hnm hcf hlen hn k;exact⟨v,cs',c.drop p (Nat.le_refl _) (vwB q2 q3 q6 q4 q5),q1⟩
end
section
theorem yA(n f:Nat)(l0:Bool){vs:List V}(h:∀c,c∈vs->bP c):RnL (cL (lpB (svC n f l0))) (λi=>i) (λ_=>none) (.ptr 1 0 ::vs) (.ptr 1 0 ::vs):= .cons (@Rn.ptr _ (λi=>i) _ 1 0 ((jB 1).2 (by decide))) (RnL.pure h)
theorem f46F(l:List Cl)(hl:bH (clL l)<=6000000)(p:Int)(nm:Bool)(n f:Nat)(l0:Bool):
  ∃l1,(∀{h:H} {tr:Tr V},h.blk 0=some (.ro 256 dN)->h.blk 1=some (.cells 3 tr none false)->tr.get 0=some (.int .i64 (Int.ofNat n))->tr.get 1=some (.int .i64 (Int.ofNat f))->tr.get 2=some (.bool l0)->Nat.ble 2 h.next=true->
   CN 46 [.ptr 1 0,.lst l.length 4 (clL l),.int .i64 p,.bool nm] h (.bool (clB p nm l)) ⟨h.t.put 1 (some (.cells 3 (cq (svC n f l1) 0 .e) none false)),h.next⟩)/\(clB p nm l=true->l1=(l0||clG l)):=by
 obtain⟨l1,c,o⟩:=f46 l hl p nm n f l0;refine⟨l1,λ{h tr} h0 h1 t0 t1 t2 hn=>?_,o⟩;exact Con.frameB (cs:=svC n f l0) (cs':=svC n f l1) c (yA n f l0 (bO (pxC l) (bO (.flat rfl) (bO (.flat rfl) px0)))) List.mem_cons_self (.flat rfl) (dQ _ _ _) (dQ _ _ _) rfl rfl h0 h1 (gq t0 t1 t2) (Nat.le_of_ble_eq_true hn)
noncomputable section
def ctL(x:Ex):List V:=
 if eqI x.kind 13 then(exO x).set 6 .nils
 else if eqI x.kind 15 then(exO x).set 8 .nils
 else if eqI x.kind 16 then((exO x).set 4 .nils).set 6 .nils
 else if eqI x.kind 17 then((((exO x).set 4 .nils).set 6 .nils).set 9 .nils).set 10 (.bool false)
 else if eqI x.kind 18 then(((((exO x).set 8 .nils).set 6 .nils).set 7 .nils).set 9 .nils).set 10 (.bool false)
 else exO x
def xL(x:Ex):Bool:=rz x.wait (ltI 0 (Int.ofNat x.after.length))
def ctB(x:Ex):Bool:=
 if eqI x.kind 13 then ltI 0 (Int.ofNat x.clauses.length)&&clB (-1) false x.clauses
 else if eqI x.kind 15 then ltI 0 (Int.ofNat x.body.length)&&bdB x.body
 else if eqI x.kind 16 then eqI (Int.ofNat x.items.length) 1&&ltI 0 (Int.ofNat x.clauses.length)&&clB 1 false x.clauses
 else if eqI x.kind 17 then
  if x.wait then clB 1 false x.clauses&&bdB x.after&&eqI (Int.ofNat x.items.length) 1&&ltI 0 (Int.ofNat x.after.length)
  else clB 1 false x.clauses&&bdB x.after&&eqI (Int.ofNat x.items.length) 0&&eqI (Int.ofNat x.after.length) 0&&ltI 0 (Int.ofNat x.clauses.length)
 else if eqI x.kind 18 then ltI 0 (Int.ofNat x.body.length)&&bdB x.body&&clB 1 false x.clauses&&clB 2 false x.catches&&bdB x.after&&xL x&&(x.wait||ltI 0 (Int.ofNat x.catches.length)) && !rb 114 [.lst x.catches.length 4 (clL x.catches),.func (.func 115) [] []]
 else false
def ctG(x:Ex):Bool:=
 if eqI x.kind 13 then clG x.clauses else if eqI x.kind 15 then false else if eqI x.kind 16 then clG x.clauses else if eqI x.kind 17 then clG x.clauses else if eqI x.kind 18 then clG x.clauses||clG x.catches else false
def ctF(x:Ex):Nat:=if eqI x.kind 13 then 1 else 0
end
theorem DH{nm:Bool}{l:List Cl}(h:clB 2 nm l=true):∀c,c∈l->0<c.pats.length:=λc hc=>by
 have k:=List.all_eq_true.1 h c hc;unfold okC at k;simp only [Bool.and_eq_true,Bool.not_eq_true',Bool.or_eq_false_iff,Bool.and_eq_false_iff]at k;rcases k.1.1.1.1 with q|q
 ·cases q
 ·have:=qG (a:=Int.ofNat c.pats.length) (b:=2) (by simpa using q)
  simp at this;omega
set_option maxHeartbeats 16000000 in
theorem f82(x:Ex)(hx:bH (exO x)<=6000000)(n f:Nat)(l0:Bool)(hf:f<9223372036854775807):
  ∃l1,CN 82 [.ptr 1 0,.agg (exO x)] (svH n f l0) (.tup [.agg (ctL x),.bool (ctB x)]) (svH n (f+ctF x) l1)/\(ctB x=true->l1=(l0||ctG x)):=by
 obtain⟨v,cs',c,rfl,l1,rfl,ok⟩:∃v cs',CN 82 [.ptr 1 0,.agg (exO x)] (svH n f l0) v (HB cs')/\v= .tup [.agg (ctL x),.bool (ctB x)]/\∃l1,cs'=svC n (f+ctF x) l1/\(ctB x=true->l1=(l0||ctG x)):=by
  refine rn Tryz.func82 (by decide) q82.2 rfl rfl ?_;have hsz:=dM x;have hb:=gM x.body;have ha:=gM x.after;have hc:=eT x.catches;obtain⟨a13,c13,o13⟩:=f46F x.clauses (by omega) (-1) false n (f+1) l0;obtain⟨a1,c1,o1⟩:=f46F x.clauses (by omega) 1 false n f l0;obtain⟨a2,c2,o2⟩:=f46F x.catches (by omega) 2 false n f a1;have g60:=f60 x.body (by omega);have g61:=f60 x.after (by omega)
  repeat' (first
   |(refine WLg.mk ?_;first
   |refine aa rfl rfl rfl rfl ?_|refine ab rfl rfl rfl rfl ?_|refine aA rfl rfl RA rfl PB rfl ?_|refine aF rfl rfl rfl rfl rfl ?_|refine aQ rfl rfl rfl rfl rfl rfl rfl rfl rfl ?_|refine aL rfl rfl rfl rfl rfl rfl rfl rfl rfl ?_|refine aq rfl rfl rfl (g60) rfl ?_|refine aq rfl rfl rfl (g61) rfl ?_|refine aq rfl rfl rfl (f114 x.catches (by omega) (DH Hy)) rfl ?_|refine au rfl rfl rfl (c13 rfl rfl rfl (dI hf) rfl rfl) (λ_ _ q=>q) .none rfl ?_|refine au rfl rfl rfl (c1 rfl rfl rfl rfl rfl rfl) (λ_ _ q=>q) .none rfl ?_|refine au rfl rfl rfl (c2 rfl rfl rfl rfl rfl rfl) (λ_ _ q=>q) .none rfl ?_)|apply ac|refine ae rfl ?_|refine ay rfl rfl ?_|refine az rfl (λht=>?_) (λht=>?_)|apply ai|apply ah|apply aj|apply al|refine ak rfl (λht=>?_) (λht=>?_)|apply ap|apply bG.norm|fail)
  all_goals (
   clear g60 g61 c13 c1 c2
   first
    |exact⟨.inr rfl,_,rfl,Nat.le_succ 2,(bP.tup (bO (.agg (by repeat' (first|exact px0|refine bO ?_ ?_|exact .flat rfl|exact pxE _|exact pxS _|exact pxC _|exact pxM _))) (bO (.flat rfl) px0))),svC n (f+1) a13,_,_,⟨(by simp only [ctL,ctB,bdB,Bool.true_and,Bool.and_true,Bool.false_and,Bool.and_false,Bool.or_true,Bool.true_or,Bool.false_or,Bool.and_self,Bool.or_self,if_true,if_false,Bool.false_eq_true, *]<;>rfl),a13,(by simp only [ctF,if_true,if_false,Bool.false_eq_true, *]<;>rfl),(λh=>by
        simp only [ctB,bdB,Bool.true_and,Bool.and_true,Bool.false_and,Bool.and_false,Bool.or_true,Bool.true_or,Bool.false_or,Bool.and_self,Bool.or_self,if_true,if_false,Bool.false_eq_true, *]at h
        first|done|(exact absurd h (by decide))|(simp only [ctG,Bool.or_false,if_true,if_false,Bool.false_eq_true, *]<;>exact o13 (by first|assumption|exact h)))⟩,rfl,rfl,gq rfl (by first|rfl|exact dI hf) rfl,dQ _ _ _,rfl⟩
    |exact⟨.inr rfl,_,rfl,Nat.le_succ 2,(bP.tup (bO (.agg (by repeat' (first|exact px0|refine bO ?_ ?_|exact .flat rfl|exact pxE _|exact pxS _|exact pxC _|exact pxM _))) (bO (.flat rfl) px0))),svC n (f+1) l0,_,_,⟨(by simp only [ctL,ctB,bdB,Bool.true_and,Bool.and_true,Bool.false_and,Bool.and_false,Bool.or_true,Bool.true_or,Bool.false_or,Bool.and_self,Bool.or_self,if_true,if_false,Bool.false_eq_true, *]<;>rfl),l0,(by simp only [ctF,if_true,if_false,Bool.false_eq_true, *]<;>rfl),(λh=>by
        simp only [ctB,bdB,Bool.true_and,Bool.and_true,Bool.false_and,Bool.and_false,Bool.or_true,Bool.true_or,Bool.false_or,Bool.and_self,Bool.or_self,if_true,if_false,Bool.false_eq_true, *]at h
        first|done|(exact absurd h (by decide))|(simp only [ctG,Bool.or_false,if_true,if_false,Bool.false_eq_true, *]))⟩,rfl,rfl,gq rfl (by first|rfl|exact dI hf) rfl,dQ _ _ _,rfl⟩
    |exact⟨.inr rfl,_,rfl,Nat.le_succ 2,(bP.tup (bO (.agg (by repeat' (first|exact px0|refine bO ?_ ?_|exact .flat rfl|exact pxE _|exact pxS _|exact pxC _|exact pxM _))) (bO (.flat rfl) px0))),svC n f l0,_,_,⟨(by simp only [ctL,ctB,bdB,Bool.true_and,Bool.and_true,Bool.false_and,Bool.and_false,Bool.or_true,Bool.true_or,Bool.false_or,Bool.and_self,Bool.or_self,if_true,if_false,Bool.false_eq_true, *]<;>rfl),l0,(by simp only [ctF,if_false,Bool.false_eq_true, *]<;>rfl),(λh=>by
        simp only [ctB,bdB,Bool.true_and,Bool.and_true,Bool.false_and,Bool.and_false,Bool.or_true,Bool.true_or,Bool.false_or,Bool.and_self,Bool.or_self,if_true,if_false,Bool.false_eq_true, *]at h
        first|done|(exact absurd h (by decide))|(simp only [ctG,Bool.or_false,if_true,if_false,Bool.false_eq_true, *]))⟩,rfl,rfl,gq rfl (by first|rfl|exact dI hf) rfl,dQ _ _ _,rfl⟩
    |exact⟨.inr rfl,_,rfl,Nat.le_succ 2,(bP.tup (bO (.agg (by repeat' (first|exact px0|refine bO ?_ ?_|exact .flat rfl|exact pxE _|exact pxS _|exact pxC _|exact pxM _))) (bO (.flat rfl) px0))),svC n f a1,_,_,⟨(by simp only [ctL,ctB,bdB,Bool.true_and,Bool.and_true,Bool.false_and,Bool.and_false,Bool.or_true,Bool.true_or,Bool.false_or,Bool.and_self,Bool.or_self,if_true,if_false,Bool.false_eq_true, *]<;>rfl),a1,(by simp only [ctF,if_false,Bool.false_eq_true, *]<;>rfl),(λh=>by
        simp only [ctB,bdB,Bool.true_and,Bool.and_true,Bool.false_and,Bool.and_false,Bool.or_true,Bool.true_or,Bool.false_or,Bool.and_self,Bool.or_self,if_true,if_false,Bool.false_eq_true, *]at h
        first|done|(exact absurd h (by decide))|(simp only [ctG,if_true,if_false,Bool.false_eq_true, *]<;>exact o1 (by first|assumption|exact h)))⟩,rfl,rfl,gq rfl (by first|rfl|exact dI hf) rfl,dQ _ _ _,rfl⟩
    |(have hb:xL x=true:=by assumption
      exact⟨.inr rfl,_,rfl,Nat.le_succ 2,(bP.tup (bO (.agg (by repeat' (first|exact px0|refine bO ?_ ?_|exact .flat rfl|exact pxE _|exact pxS _|exact pxC _|exact pxM _))) (bO (.flat rfl) px0))),svC n f a2,_,_,⟨(by simp only [ctL,ctB,bdB,Bool.true_and,Bool.and_true,Bool.false_and,Bool.and_false,Bool.or_true,Bool.true_or,Bool.and_self,Bool.or_self,if_true,if_false,Bool.false_eq_true, *]<;>rfl),a2,(by simp only [ctF,if_false,Bool.false_eq_true, *]<;>rfl),(λh=>by
         simp only [ctB,bdB,Bool.true_and,Bool.and_true,Bool.false_and,Bool.and_false,Bool.or_true,Bool.true_or,Bool.and_self,Bool.or_self,if_true,if_false,Bool.false_eq_true, *]at h
         first|done|(exact absurd h (by decide))|(have e1:=o1 Hy;have e2:=o2 (by first|assumption|exact h);simp only [ctG,if_true,if_false,Bool.false_eq_true, *]<;>first|done|rw [Bool.or_assoc]|rw [e2,e1,Bool.or_assoc]))⟩,rfl,rfl,gq rfl (by first|rfl|exact dI hf) rfl,dQ _ _ _,rfl⟩)
    |(have hb:xL x=false:=by assumption
      exact⟨.inr rfl,_,rfl,Nat.le_succ 2,(bP.tup (bO (.agg (by repeat' (first|exact px0|refine bO ?_ ?_|exact .flat rfl|exact pxE _|exact pxS _|exact pxC _|exact pxM _))) (bO (.flat rfl) px0))),svC n f a2,_,_,⟨(by simp only [ctL,ctB,bdB,Bool.true_and,Bool.and_true,Bool.false_and,Bool.and_false,Bool.and_self,if_true,if_false,Bool.false_eq_true, *]<;>rfl),a2,(by simp only [ctF,if_false,Bool.false_eq_true, *]<;>rfl),(λh=>by
         simp only [ctB,bdB,Bool.true_and,Bool.and_true,Bool.false_and,Bool.and_false,Bool.and_self,if_true,if_false,Bool.false_eq_true, *]at h
         first|done|(exact absurd h (by decide))|(have e1:=o1 Hy;have e2:=o2 (by first|assumption|exact h);simp only [ctG,Bool.true_and,Bool.and_true,Bool.false_and,Bool.and_false,Bool.or_true,Bool.true_or,Bool.or_false,Bool.false_or,Bool.not_true,Bool.not_false,Bool.and_self,Bool.or_self,if_true,if_false,Bool.false_eq_true,reduceIte, *]<;>first|done|rw [Bool.or_assoc]|rw [e2,e1,Bool.or_assoc]))⟩,rfl,rfl,gq rfl (by first|rfl|exact dI hf) rfl,dQ _ _ _,rfl⟩)
    |exact⟨.inr rfl,_,rfl,Nat.le_succ 2,(bP.tup (bO (.agg (by repeat' (first|exact px0|refine bO ?_ ?_|exact .flat rfl|exact pxE _|exact pxS _|exact pxC _|exact pxM _))) (bO (.flat rfl) px0))),svC n f a2,_,_,⟨(by simp only [ctL,ctB,bdB,Bool.true_and,Bool.and_true,Bool.false_and,Bool.and_false,Bool.and_self,if_true,if_false,Bool.false_eq_true, *]<;>rfl),a2,(by simp only [ctF,if_false,Bool.false_eq_true, *]<;>rfl),(λh=>by
        simp only [ctB,bdB,Bool.true_and,Bool.and_true,Bool.false_and,Bool.and_false,Bool.and_self,if_true,if_false,Bool.false_eq_true, *]at h
        first|done|(exact absurd h (by decide))|(have e1:=o1 Hy;have e2:=o2 (by first|assumption|exact h);simp only [ctG,Bool.true_and,Bool.and_true,Bool.false_and,Bool.and_false,Bool.or_true,Bool.true_or,Bool.or_false,Bool.false_or,Bool.not_true,Bool.not_false,Bool.and_self,Bool.or_self,if_true,if_false,Bool.false_eq_true,reduceIte, *]<;>first|done|rw [Bool.or_assoc]|rw [e2,e1,Bool.or_assoc]))⟩,rfl,rfl,gq rfl (by first|rfl|exact dI hf) rfl,dQ _ _ _,rfl⟩
    |fail)
 exact⟨l1,c,ok⟩
end
section
inductive Sh:List V->Prop
 |mk {k a:Int} {n1 c1 n2 c2:Nat} {l1 l2 l3 l4 l5 l6:V} {w:Bool} (h1:Lv l1) (h2:Lv l2) (h3:Lv l3) (h4:Lv l4) (h5:Lv l5) (h6:Lv l6):Sh [.int .i64 k,.int .i64 a,.str n1 c1,.str n2 c2,l1,l2,l3,l4,l5,l6,.bool w]
theorem Sh.node{l:List V}(h:Sh l):lZ (.agg l):=by
 cases h with
 |mk h1 h2 h3 h4 h5 h6=>exact .mk h1 h2 h3 h4 h5 h6
theorem lvE(l:List Ex):Lv (.lst l.length 11 (exL l)):= .lst (pxE l)
theorem lvS(l:List Sg):Lv (.lst l.length 27 (sgL l)):= .lst (pxS l)
theorem lvC(l:List Cl):Lv (.lst l.length 4 (clL l)):= .lst (pxC l)
theorem lvM(l:List Sm):Lv (.lst l.length 23 (smL l)):= .lst (pxM l)
theorem xT(x:Ex):Sh (ctL x):=by
 unfold ctL
 repeat' split
 all_goals exact .mk (by first|exact .nils|exact lvE _) (by first|exact .nils|exact lvS _) (by first|exact .nils|exact lvC _) (by first|exact .nils|exact lvC _) (by first|exact .nils|exact lvM _) (by first|exact .nils|exact lvM _)
noncomputable section
def ndL(x:Ex):List V:=
 if eqI x.kind 1 then(exO x).set 1 (.int .i64 0)
 else if eqI x.kind 2 then(exO x).set 2 (.str 0 0)
 else if eqI x.kind 3 then(exO x).set 2 (.str 0 0)
 else if eqI x.kind 4 then exO x
 else if eqI x.kind 6 then exO x
 else if eqI x.kind 5 then(exO x).set 4 .nils
 else if eqI x.kind 7 then(exO x).set 4 .nils
 else if eqI x.kind 8 then(exO x).set 5 .nils
 else if eqI x.kind 9 then((exO x).set 2 (.str 0 0)).set 4 .nils
 else if eqI x.kind 10 then((exO x).set 2 (.str 0 0)).set 4 .nils
 else if eqI x.kind 11 then(exO x).set 4 .nils
 else if eqI x.kind 12 then(exO x).set 4 .nils
 else if eqI x.kind 14 then(((exO x).set 2 (.str 0 0)).set 3 (.str 0 0)).set 1 (.int .i64 0)
 else ctL x
def ndB(x:Ex):Bool:=
 if eqI x.kind 1 then true
 else if eqI x.kind 2 then wdB x.name
 else if eqI x.kind 3 then rb 79 [sV x.name]
 else if eqI x.kind 4 then true
 else if eqI x.kind 6 then true
 else if eqI x.kind 5 then true
 else if eqI x.kind 7 then !ltI (Int.ofNat x.items.length) 2
 else if eqI x.kind 8 then rb 80 [.lst x.segs.length 27 (sgL x.segs)]
 else if eqI x.kind 9 then rb 81 [sV x.name,.int .i64 (Int.ofNat x.items.length)]
 else if eqI x.kind 10 then wdB x.name
 else if eqI x.kind 11 then !ltI (Int.ofNat x.items.length) 2
 else if eqI x.kind 12 then !ltI (Int.ofNat x.items.length) 1
 else if eqI x.kind 14 then wdB x.name&&wdB x.text && !ltI x.int 0 && !ltI 16 x.int
 else ctB x
def ndG(x:Ex):Bool:=
 if eqI x.kind 1 then false
 else if eqI x.kind 2 then false
 else if eqI x.kind 3 then false
 else if eqI x.kind 4 then false
 else if eqI x.kind 6 then false
 else if eqI x.kind 5 then ltI 255 (Int.ofNat x.items.length)
 else if eqI x.kind 7 then false
 else if eqI x.kind 8 then ltI 60 (Int.ofNat x.segs.length)
 else if eqI x.kind 9 then false
 else if eqI x.kind 10 then ltI 16 (Int.ofNat x.items.length)
 else if eqI x.kind 11 then ltI 18 (Int.ofNat x.items.length)
 else if eqI x.kind 12 then ltI 17 (Int.ofNat x.items.length)
 else if eqI x.kind 14 then false
 else ctG x
def ndF(x:Ex):Nat:=
 if eqI x.kind 1 then 0
 else if eqI x.kind 2 then 0
 else if eqI x.kind 3 then 0
 else if eqI x.kind 4 then 0
 else if eqI x.kind 6 then 0
 else if eqI x.kind 5 then 0
 else if eqI x.kind 7 then 0
 else if eqI x.kind 8 then 0
 else if eqI x.kind 9 then 0
 else if eqI x.kind 10 then 0
 else if eqI x.kind 11 then 0
 else if eqI x.kind 12 then 0
 else if eqI x.kind 14 then 0
 else ctF x
end
theorem GG{c:Bool}{a b:List V}(h1:Sh a)(h2:Sh b):Sh (if c then a else b):=by cases c<;>assumption
theorem wY(x:Ex):Sh (ndL x):=by
 unfold ndL
 repeat' (refine GG ?_ ?_)
 all_goals first
  |exact xT x|exact .mk (by first|exact .nils|exact lvE _) (by first|exact .nils|exact lvS _) (by first|exact .nils|exact lvC _) (by first|exact .nils|exact lvC _) (by first|exact .nils|exact lvM _) (by first|exact .nils|exact lvM _)
theorem f82F(x:Ex)(hx:bH (exO x)<=6000000)(n f:Nat)(l0:Bool)(hf:f<9223372036854775807):
  ∃l1,(∀{h:H} {tr:Tr V},h.blk 0=some (.ro 256 dN)->h.blk 1=some (.cells 3 tr none false)->tr.get 0=some (.int .i64 (Int.ofNat n))->tr.get 1=some (.int .i64 (Int.ofNat f))->tr.get 2=some (.bool l0)->Nat.ble 2 h.next=true->
   CN 82 [.ptr 1 0,.agg (exO x)] h (.tup [.agg (ctL x),.bool (ctB x)]) ⟨h.t.put 1 (some (.cells 3 (cq (svC n (f+ctF x) l1) 0 .e) none false)),h.next⟩)/\(ctB x=true->l1=(l0||ctG x)):=by
 obtain⟨l1,c,o⟩:=f82 x hx n f l0 hf;refine⟨l1,λ{h tr} h0 h1 t0 t1 t2 hn=>?_,o⟩;have pl:bP (.agg (ctL x)):=(xT x).node.px;exact Con.frameB (cs:=svC n f l0) (cs':=svC n (f+ctF x) l1) c (yA n f l0 (bO (pxe x) px0)) List.mem_cons_self (.tup (bO pl (bO (.flat rfl) px0))) (dQ _ _ _) (dQ _ _ _) rfl rfl h0 h1 (gq t0 t1 t2) (Nat.le_of_ble_eq_true hn)
set_option maxHeartbeats 16000000 in
theorem f61(x:Ex)(hx:bH (exO x)<=6000000)(n f:Nat)(l0:Bool)(hf:f<9223372036854775807):
  ∃l1,CN 61 [.ptr 1 0,.agg (exO x)] (svH n f l0) (.tup [.agg (ndL x),.bool (ndB x)]) (svH n (f+ndF x) l1)/\(ndB x=true->l1=(l0||ndG x)):=by
 obtain⟨v,cs',c,rfl,l1,rfl,ok⟩:∃v cs',CN 61 [.ptr 1 0,.agg (exO x)] (svH n f l0) v (HB cs')/\v= .tup [.agg (ndL x),.bool (ndB x)]/\∃l1,cs'=svC n (f+ndF x) l1/\(ndB x=true->l1=(l0||ndG x)):=by
  refine rn Tryz.func61 (by decide) q61.2 rfl rfl ?_;have hsz:=dM x;have hi:=dy x.items;have hs:=iR x.segs;obtain⟨a2,c82,o82⟩:=f82F x hx n f l0 hf;have hsh:=xT x;generalize hL:ctL x=L at c82 hsh;cases hsh with
  |mk h1 h2 h3 h4 h5 h6=>
  rename_i k9 i9 n1 c1 n2 c2 l1 l2 l3 l4 l5 l6 w
  have hone:=jJ (k:=k9) (a:=i9) (n1:=n1) (c1:=c1) (n2:=n2) (c2:=c2) (w:=w) h1 h2 h3 h4 h5 h6;have p1:=h1.px;have p2:=h2.px;have p3:=h3.px;have p4:=h4.px;have p5:=h5.px;have p6:=h6.px;have g1:=f45 x.name.size (bT x.name.data.toList);have g2:=f45 x.text.size (bT x.text.data.toList);have g3:=f79s x.name (by omega);have g4:=f80 x.segs (by omega);have g5:=f81 x.name.size (bT x.name.data.toList) (Int.ofNat x.items.length)
  repeat' (first
   |(refine WLg.mk ?_;first
   |refine aa rfl rfl rfl rfl ?_|refine ab rfl rfl rfl rfl ?_|refine aA rfl rfl RA rfl PB rfl ?_|refine aF rfl rfl rfl rfl rfl ?_|refine aL rfl rfl rfl rfl hone rfl rfl rfl rfl ?_|refine aQ rfl rfl rfl rfl rfl rfl rfl rfl rfl ?_|refine aL rfl rfl rfl rfl rfl rfl rfl rfl rfl ?_|refine aq rfl rfl rfl (g1) rfl ?_|refine aq rfl rfl rfl (g2) rfl ?_|refine aq rfl rfl rfl (g3) rfl ?_|refine aq rfl rfl rfl (g4) rfl ?_|refine aq rfl rfl rfl (g5) rfl ?_|refine au rfl rfl rfl (c82 rfl rfl rfl rfl rfl rfl) (λ_ _ q=>q) .none rfl ?_)|apply ac|refine ae rfl ?_|refine ay rfl rfl ?_|refine az rfl (λht=>?_) (λht=>?_)|apply ai|apply ah|apply aj|apply al|refine ak rfl (λht=>?_) (λht=>?_)|apply ap|apply bG.norm|apply bG.ret|fail)
  all_goals (
   clear g1 g2 g3 g4 g5 c82
   first
    |(exact absurd ((show eqI x.kind 4=true by assumption).symm.trans (show eqI x.kind 4=false by assumption)) (by decide))
    |exact⟨.inr rfl,_,rfl,Nat.le_succ 2,(bP.tup (bO (.agg (by repeat' (first|exact px0|refine bO ?_ ?_|exact .flat rfl|exact pxE _|exact pxS _|exact pxC _|exact pxM _|assumption))) (bO (.flat rfl) px0))),svC n f l0,_,_,⟨(by simp only [ndL,ndB,wdB,sV,Bool.true_and,Bool.false_and,Bool.and_false,Bool.and_self,if_true,if_false,Bool.false_eq_true, *]<;>rfl),l0,(by simp only [ndF,if_true,if_false,Bool.false_eq_true, *]<;>rfl),(λh=>by
       first
        |(simp only [ndG,Bool.true_or,Bool.or_false,Bool.false_or,if_true,if_false,Bool.false_eq_true, *]<;>rfl)|(simp only [ndG,Bool.false_or,if_true,if_false,Bool.false_eq_true, *])|rfl)⟩,rfl,rfl,gq rfl rfl rfl,dQ _ _ _,rfl⟩
    |exact⟨.inr rfl,_,rfl,Nat.le_succ 2,(bP.tup (bO (.agg (by repeat' (first|exact px0|refine bO ?_ ?_|exact .flat rfl|exact pxE _|exact pxS _|exact pxC _|exact pxM _|assumption))) (bO (.flat rfl) px0))),svC n f true,_,_,⟨(by simp only [ndL,ndB,wdB,sV,if_true,if_false,Bool.false_eq_true, *]<;>rfl),true,(by simp only [ndF,if_true,if_false,Bool.false_eq_true, *]<;>rfl),(λh=>by
       first
        |(simp only [ndG,Bool.true_or,Bool.false_or,if_true,if_false,Bool.false_eq_true, *]<;>rfl)|(simp only [ndG,Bool.false_or,if_true,if_false,Bool.false_eq_true, *])|rfl)⟩,rfl,rfl,gq rfl rfl rfl,dQ _ _ _,rfl⟩
    |exact⟨.inr rfl,_,rfl,Nat.le_succ 2,(bP.tup (bO (.agg (by repeat' (first|exact px0|refine bO ?_ ?_|exact .flat rfl|exact pxE _|exact pxS _|exact pxC _|exact pxM _|assumption))) (bO (.flat rfl) px0))),svC n f (ltI 255 (Int.ofNat x.items.length)),_,_,⟨(by simp only [ndL,ndB,wdB,sV,if_true,if_false,Bool.false_eq_true, *]<;>rfl),(ltI 255 (Int.ofNat x.items.length)),(by simp only [ndF,if_true,if_false,Bool.false_eq_true, *]<;>rfl),(λh=>by
       first
        |(simp only [ndG,Bool.false_or,if_true,if_false,Bool.false_eq_true, *]<;>rfl)|(simp only [ndG,Bool.false_or,if_true,if_false,Bool.false_eq_true, *])|rfl)⟩,rfl,rfl,gq rfl rfl rfl,dQ _ _ _,rfl⟩
    |exact⟨.inr rfl,_,rfl,Nat.le_succ 2,(bP.tup (bO (.agg (by repeat' (first|exact px0|refine bO ?_ ?_|exact .flat rfl|exact pxE _|exact pxS _|exact pxC _|exact pxM _|assumption))) (bO (.flat rfl) px0))),svC n f (ltI 60 (Int.ofNat x.segs.length)),_,_,⟨(by simp only [ndL,ndB,wdB,sV,if_true,if_false,Bool.false_eq_true, *]<;>rfl),(ltI 60 (Int.ofNat x.segs.length)),(by simp only [ndF,if_true,if_false,Bool.false_eq_true, *]<;>rfl),(λh=>by
       first
        |(simp only [ndG,Bool.false_or,if_true,if_false,Bool.false_eq_true, *]<;>rfl)|(simp only [ndG,Bool.false_or,if_true,if_false,Bool.false_eq_true, *])|rfl)⟩,rfl,rfl,gq rfl rfl rfl,dQ _ _ _,rfl⟩
    |exact⟨.inr rfl,_,rfl,Nat.le_succ 2,(bP.tup (bO (.agg (by repeat' (first|exact px0|refine bO ?_ ?_|exact .flat rfl|exact pxE _|exact pxS _|exact pxC _|exact pxM _|assumption))) (bO (.flat rfl) px0))),svC n f (ltI 16 (Int.ofNat x.items.length)),_,_,⟨(by simp only [ndL,ndB,wdB,sV,if_true,if_false,Bool.false_eq_true, *]<;>rfl),(ltI 16 (Int.ofNat x.items.length)),(by simp only [ndF,if_true,if_false,Bool.false_eq_true, *]<;>rfl),(λh=>by
       first
        |(simp only [ndG,Bool.false_or,if_true,if_false,Bool.false_eq_true, *]<;>rfl)|(simp only [ndG,Bool.false_or,if_true,if_false,Bool.false_eq_true, *])|rfl)⟩,rfl,rfl,gq rfl rfl rfl,dQ _ _ _,rfl⟩
    |exact⟨.inr rfl,_,rfl,Nat.le_succ 2,(bP.tup (bO (.agg (by repeat' (first|exact px0|refine bO ?_ ?_|exact .flat rfl|exact pxE _|exact pxS _|exact pxC _|exact pxM _|assumption))) (bO (.flat rfl) px0))),svC n f (ltI 18 (Int.ofNat x.items.length)),_,_,⟨(by simp only [ndL,ndB,wdB,sV,if_true,if_false,Bool.false_eq_true, *]<;>rfl),(ltI 18 (Int.ofNat x.items.length)),(by simp only [ndF,if_true,if_false,Bool.false_eq_true, *]<;>rfl),(λh=>by
       first
        |(simp only [ndG,Bool.false_or,if_true,if_false,Bool.false_eq_true, *]<;>rfl)|(simp only [ndG,Bool.false_or,if_true,if_false,Bool.false_eq_true, *])|rfl)⟩,rfl,rfl,gq rfl rfl rfl,dQ _ _ _,rfl⟩
    |exact⟨.inr rfl,_,rfl,Nat.le_succ 2,(bP.tup (bO (.agg (by repeat' (first|exact px0|refine bO ?_ ?_|exact .flat rfl|exact pxE _|exact pxS _|exact pxC _|exact pxM _|assumption))) (bO (.flat rfl) px0))),svC n f (ltI 17 (Int.ofNat x.items.length)),_,_,⟨(by simp only [ndL,ndB,wdB,sV,if_true,if_false,Bool.false_eq_true, *]<;>rfl),(ltI 17 (Int.ofNat x.items.length)),(by simp only [ndF,if_true,if_false,Bool.false_eq_true, *]<;>rfl),(λh=>by
       first
        |(simp only [ndG,Bool.false_or,if_true,if_false,Bool.false_eq_true, *]<;>rfl)|(simp only [ndG,if_false,Bool.false_eq_true, *])|rfl)⟩,rfl,rfl,gq rfl rfl rfl,dQ _ _ _,rfl⟩
    |exact⟨.inr rfl,_,rfl,Nat.le_succ 2,(bP.tup (bO (.agg (by repeat' (first|exact px0|refine bO ?_ ?_|exact .flat rfl|exact pxE _|exact pxS _|exact pxC _|exact pxM _|assumption))) (bO (.flat rfl) px0))),svC n (f+ctF x) a2,_,_,⟨(by simp only [ndL,ndB,wdB,sV,if_false,Bool.false_eq_true, *]<;>rfl),a2,(by simp only [ndF,if_false,Bool.false_eq_true, *]<;>rfl),(λh=>by
       simp only [ndB,if_false,Bool.false_eq_true, *]at h;simp only [ndG,if_false,Bool.false_eq_true, *]<;>exact o82 (by first|assumption|exact h))⟩,rfl,rfl,gq rfl rfl rfl,dQ _ _ _,rfl⟩
    |fail)
 exact⟨l1,c,ok⟩
end
end Ev
end Go.Proofs.YtdfphfdnoobikaaGreatDoor
