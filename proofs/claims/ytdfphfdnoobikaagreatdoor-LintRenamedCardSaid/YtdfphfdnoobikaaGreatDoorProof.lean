/-
  LintRenamed answers true of every module:replacing all variables by other ones,different ones by different ones,changes only the names of variables that are not visible. Conditions:strings.asciiSpace and unicode.White_Space hold what the program's text lays (the card ties both to the pruned copy of the project that the seat's roots load).
-/
import Derived.Test.YtdfphfdnoobikaaGreatDoorLtRenamedM
namespace Go.Proofs.YtdfphfdnoobikaaGreatDoor
open Go.ChangeShapes Go.WideShapes Go.ChangeAt Go.WideMaps Go.WideElems Go.RowKit
open Ev Go.Proofs.YtdfphfdnoobikaaGreatDoor
set_option maxRecDepth 100000 in
set_option maxHeartbeats 1000000000 in
theorem lifted(os:Os)(a:os.Started)(H:Type)(enc:TypeId×Value->H):
  ReturnsInHanded {} Tryz.checked os 3 .any (λw args=>(Rows.lintRenamedSpec.pre enc Tryz.prog Tryz.f3 [] false w args/\laidMetH Tryz.prog Rows.lintRenamedRow.laid w)/\sizedMet enc Tryz.prog Tryz.f3 (OpenSpec.ofChange Rows.lintRenamedSpec) false w args)
   (Rows.lintRenamedSpec.post enc Tryz.prog Tryz.f3 false true false false):=by
 refine returnsInHanded_of_change_and (C:=Tryz.checked) (X:=λw _=>laidMetH Tryz.prog Rows.lintRenamedRow.laid w) (λ_ _ _ hh h=>h.of_heap hh) own a (by kernel_rfl) Tryz.func3
  (ChangeSpec.witness_shaped (enc:=enc) (C:=Tryz.checked) (os:=os) (X:=λw _=>laidMetH Tryz.prog Rows.lintRenamedRow.laid w) false (World.doorLaid Tryz.prog 33 os) #[.agg #[.string ⟨#[]⟩,.int .i64 0,.slice none 0 0,.slice none 0 0]] 8 rfl (World.shaped_of_RefB (by as_aux_lemma=>kernel_rfl) (by as_aux_lemma=>kernel_rfl)) (by as_aux_lemma=>kernel_rfl) (by as_aux_lemma=>kernel_rfl) (by as_aux_lemma=>kernel_rfl) (Fc os _)) ?_
 intro W base args u gs before b o _ _ A _;have c:∀(j:Nat) t v,Tryz.f3.params[j]? =some t->args[j]? =some v->Value.okWide Tryz.prog W .any base t v:=b;have g:=o;obtain⟨p,q,d,s,rfl,B,y⟩:=o;have n:DataW.TrodAll enc Tryz.prog W 0 (λ_=>true) true Tryz.f3.params.toList args.toList u p:=d;rw [Tryz.params3]at n c;obtain⟨v0,D,rfl,rfl,h0⟩:=trodAll_one n;obtain⟨rfl,rfl⟩:=trodVars_none s;have i:∀x∈p,x.block<W.heap.size:=by obtain⟨m,l⟩:=h0;exact DataW.trod_lt m _ _ _ l
 obtain⟨t,r⟩:=GF A;obtain⟨m,l⟩:=Kd (Jn r) (c 0 25 v0 rfl rfl) h0;clear d b;simp only [List.append_nil]at g;refine(callsIn_wide.1 (Hp f3 r l)).mono λe E ⟨z,k⟩=>?_;subst z;have f:=xp k;exact⟨_,rfl,_,_,_,[],_,[],g,trodAll_mk1 (shut_bool Tryz.underlying4 _),(trodAll_cons_mk (Below.trod GS (by kernel_rfl) (of_decide_eq_true (by kernel_rfl)) h0 f i) trodAll_mk0),rfl,f.frame _,λh=>by cases h⟩
end Go.Proofs.YtdfphfdnoobikaaGreatDoor
