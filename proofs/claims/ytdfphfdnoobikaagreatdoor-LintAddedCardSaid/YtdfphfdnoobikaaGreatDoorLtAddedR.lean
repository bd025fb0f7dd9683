/-
  The rows' common part:the listed variables and the argument as they lie in memory.
-/
import Derived.Test.YtdfphfdnoobikaaGreatDoorLtAd6
import Derived.Test.YtdfphfdnoobikaaGreatDoorTie
import Derived.Test.YtdfphfdnoobikaaGreatDoorCards
import Derived.ProofKit
import Derived.LaidMore
import Derived.OpenShut
import Derived.Stop.Joined
import Derived.SevenTiedAt
import Derived.Lib.LaidTab
import Derived.Carry
namespace Go.Proofs.YtdfphfdnoobikaaGreatDoor
open Go.ChangeShapes Go.WideShapes Go.ChangeAt Go.WideMaps Go.WideElems Go.RowKit
open Ev Go.Proofs.YtdfphfdnoobikaaGreatDoor
theorem own:ownKnob Tryz.prog.godebug=none:=by kernel_rfl
theorem tN:laidOutB Tryz.prog=true:=by kernel_rfl
theorem Ci:Tryz.prog.globalNamed "strings.asciiSpace"=some 0:=by kernel_rfl
theorem Ff:∃t e,(Tryz.prog.globals[0]?).map (·.type)=some t/\Tryz.prog.underlying t=some (.array 256 e)/\Tryz.prog.underlying e=some (.int .u8)/\Tryz.prog.cellsOf e=1/\Tryz.prog.cellsOf t=256:=⟨145,5,by kernel_rfl,by kernel_rfl,by kernel_rfl,by kernel_rfl,by kernel_rfl⟩
def zs:List Int:=tbl.map λv=>match v with
 |.int _ n=>n
 |_=>0
theorem Fb:tbl=zs.map λz=>V.int .u8 z:=by kernel_rfl
theorem DT:(Rows.laid_strings_asciiSpace:DataW Unit)=Lib.tabData .u8 zs:=by kernel_rfl
theorem rR:zs.length=256:=by kernel_rfl
theorem DL{W:World}(h:laidMetH Tryz.prog Rows.lintAddedRow.laid W):∃t,W.heap[0]? =some (.cells (zs.map λz=>Value.int .u8 z).toArray t (0,0)):=by
 rw [MakeChecks.laidMetH_plain _ _ _ (by kernel_rfl)]at h;obtain⟨ps,L,_,hc⟩:=h;obtain⟨_,_,_,_,p1,q1,_,_,_,_,L,e1⟩:=L;obtain⟨g,t,cs,fuel,p7,q7,hg,ht,hv,hd,_,e7⟩:=L;obtain rfl:=Option.some.inj (Ci.symm.trans hg);obtain⟨t',e,u0,u1,u2,u3,u4⟩:=Ff;obtain rfl:=Option.some.inj (u0.symm.trans ht);have hcs:cs.toList=zs.map λz=>Value.int .u8 z:=Lib.cells_of_tab (p:=p7) u1 u2 u3 u4 (by rw [<-DT];exact hd);have hcs':cs=(zs.map λz=>Value.int .u8 z).toArray:=by rw [<-hcs]
 have hsz:cs.size=256:=by rw [hcs'];simp [rR]
 have m7:MemPlace.cell 0 0∈q1:=by
  rw [e7,hsz];refine List.mem_append_left _ (List.mem_append_left _ ?_);exact List.mem_map.2 ⟨0,by simp,rfl⟩
 have m1:MemPlace.cell 0 0∈ps:=by rw [e1];exact List.mem_append_right _ m7
 obtain⟨⟨c,t,hh⟩,_⟩:=hc 0 0 m1;have:c=cs:=by
  unfold World.var? at hv;rw [Ci]at hv
  simpa [hh]using hv
 exact⟨t,by rw [hh,this,hcs']⟩
theorem uz{E:En}{g:G}:∀l:List Int,@VRs E g (l.map λz=>V.int .u8 z) (l.map λz=>Value.int .u8 z)
 |[]=>@VRs.nil E g
 |_ ::l=>@VRs.cons E g _ _ _ _ (@VR.int E g _ _) (uz l)
theorem Gq{W:World}{t:TypeId}(h:W.heap[0]? =some (.cells (zs.map λz=>Value.int .u8 z).toArray t (0,0))):mG W:=by
 refine⟨_,_,_,h,λj u hj=>?_⟩;rw [List.getElem?_toArray,List.getElem?_map]at hj;obtain⟨z,_,rfl⟩:=Option.map_eq_some_iff.1 hj;exact⟨z,rfl⟩
theorem Fq{W:World}{t:TypeId}(h:W.heap[0]? =some (.cells (zs.map λz=>Value.int .u8 z).toArray t (0,0))):Sit TP (dE W) g0 H0 W:=by
 have hv:@VRs noE nog tbl (zs.map λz=>Value.int .u8 z):=by rw [Fb];exact uz zs
 have hl:(zs.map λz=>Value.int .u8 z).length=256:=by rw [List.length_map,rR]
 obtain⟨r,_,_⟩:=@WR.overRo noE TP 0 0 256 nog ⟨.e,0⟩ W (@WR.empty noE TP W) (by first|exact sY.empty|exact @sY.empty noE) (by decide) _ _ _ _ h (by rw [List.size_toArray,hl]) hv (λj u hu=>by rw [Nat.zero_add,List.getElem?_toArray];exact hu) (by omega) (by rw [hl];decide) (λv hx=>by
  have:=List.all_eq_true.1 eJ v hx
  first|exact vN this|exact @vN noE _ this)
 have e:(⟨Tr.put Tr.e 0 (some (.ro (bY tbl) (cq tbl 0 .e))),Nat.succ 0⟩:H)=H0:=by
  rw [(by kernel_rfl:@bY V tbl=256)]
  kernel_rfl
 have r':@WR noE TP g0 H0 W:=e▸r;have hg:g0 0=some (0,0,256):=@cm noE nog 0 (0,0,256);have hg':∀id,id≠0->g0 id=none:=λid h=>@dn noE _ _ _ (0,0,256) h;refine Sit.mk' (WR.env (λ_ _ q=>by cases q) r') (λp hp=>?_) λb c q=>?_
 ·rw [ii]at hp
  obtain rfl:=List.mem_singleton.1 hp;exact⟨⟨256,hg⟩,by kernel_rfl⟩
 ·obtain⟨q1,q2⟩:=Av q
  refine⟨q2,λid o z k=>?_⟩
  by_cases hid:id=0
  ·subst hid
   rw [hg]at k;cases k;exact q1 rfl
  ·rw [hg' id hid]at k
   cases k
theorem uG{W W':World}(k:kL W W'):Below W.heap.size W W':=⟨k.os,k.tape,k.output,k.size,k.keep⟩
theorem Es{f:FuncId}(law:∀(m:Md) (b:ByteArray) (z:Int),CP f [.agg (mdO m),sV b,.int .i64 z] (.bool true)){W:World}{t:TypeId}(h:W.heap[0]? =some (.cells (zs.map λz=>Value.int .u8 z).toArray t (0,0))){m:Md}{v:Value}(hv:@VR (dE W) g0 (.agg (mdO m)) v)(b:ByteArray)(z:Int):
  CallsIn Fence.wide 0 Tryz.prog f #[v,.string b,.int .i64 z] W λe W'=>e= .returned (.bool true)/\kL W W':=by
 obtain⟨fn,_,_,_,k⟩:=(law m b z).out (dE W) g0 H0 W [v,.string b,.int .i64 z] (Fq h) (vs1 hv (vs1 (AY b) (vs1 (@VR.int (dE W) g0 _ _) vs0)));refine k.mono ?_;rintro e W' ⟨E',u,rfl,q1,_,_,_,q2⟩;cases q1;exact⟨rfl,q2⟩
end Go.Proofs.YtdfphfdnoobikaaGreatDoor
