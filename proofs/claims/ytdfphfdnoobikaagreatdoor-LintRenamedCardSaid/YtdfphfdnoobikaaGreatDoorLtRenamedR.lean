/-
  The rows' common part:the listed variables and the argument as they lie in memory.
-/
import Derived.Test.YtdfphfdnoobikaaGreatDoorLtRn8
import Derived.Test.YtdfphfdnoobikaaGreatDoorTie
import Derived.Test.YtdfphfdnoobikaaGreatDoorCards
import Derived.ProofKit
import Derived.LaidMore
import Derived.OpenShut
import Derived.Stop.Joined
import Derived.SevenTiedAt
import Derived.Lib.LaidTab
import Derived.Carry
namespace Go.Proofs.YtdfphfdnoobikaaGreatDoor
open Go.ChangeShapes Go.WideShapes Go.ChangeAt Go.WideMaps Go.WideElems Go.RowKit
open Ev Go.Proofs.YtdfphfdnoobikaaGreatDoor
theorem own:ownKnob Tryz.prog.godebug=none:=by kernel_rfl
theorem GS:laidOutB Tryz.prog=true:=by kernel_rfl
theorem ES:Tryz.prog.globalNamed "strings.asciiSpace"=some 0:=by kernel_rfl
theorem In:∃t e,(Tryz.prog.globals[0]?).map (·.type)=some t/\Tryz.prog.underlying t=some (.array 256 e)/\Tryz.prog.underlying e=some (.int .u8)/\Tryz.prog.cellsOf e=1/\Tryz.prog.cellsOf t=256:=⟨145,5,by kernel_rfl,by kernel_rfl,by kernel_rfl,by kernel_rfl,by kernel_rfl⟩
def zs:List Int:=tbl.map λv=>match v with
 |.int _ n=>n
 |_=>0
theorem Ij:tbl=zs.map λz=>V.int .u8 z:=by kernel_rfl
theorem GR:(Rows.laid_strings_asciiSpace:DataW Unit)=Lib.tabData .u8 zs:=by kernel_rfl
theorem uA:zs.length=256:=by kernel_rfl
theorem GF{W:World}(h:laidMetH Tryz.prog Rows.lintRenamedRow.laid W):∃t,W.heap[0]? =some (.cells (zs.map λz=>Value.int .u8 z).toArray t (0,0)):=by
 rw [MakeChecks.laidMetH_plain _ _ _ (by kernel_rfl)]at h;obtain⟨i,L,_,hc⟩:=h;obtain⟨_,_,_,_,x,v,_,_,_,_,L,m⟩:=L;obtain⟨g,t,cs,fuel,n,y,hg,o,d,hd,_,r⟩:=L;obtain rfl:=Option.some.inj (ES.symm.trans hg);obtain⟨A,e,k,q,l,w,u⟩:=In;obtain rfl:=Option.some.inj (k.symm.trans o);have f:cs.toList=zs.map λz=>Value.int .u8 z:=Lib.cells_of_tab (p:=n) q l w u (by rw [<-GR];exact hd);have a:cs=(zs.map λz=>Value.int .u8 z).toArray:=by rw [<-f]
 have b:cs.size=256:=by rw [a];simp [uA]
 have j:MemPlace.cell 0 0∈v:=by
  rw [r,b];refine List.mem_append_left _ (List.mem_append_left _ ?_);exact List.mem_map.2 ⟨0,by simp,rfl⟩
 have s:MemPlace.cell 0 0∈i:=by rw [m];exact List.mem_append_right _ j
 obtain⟨⟨c,t,hh⟩,_⟩:=hc 0 0 s;have:c=cs:=by
  unfold World.var? at d;rw [ES]at d
  simpa [hh]using d
 exact⟨t,by rw [hh,this,a]⟩
theorem xa{E:En}{g:G}:∀l:List Int,@VRs E g (l.map λz=>V.int .u8 z) (l.map λz=>Value.int .u8 z)
 |[]=>@VRs.nil E g
 |_ ::l=>@VRs.cons E g _ _ _ _ (@VR.int E g _ _) (xa l)
theorem Jn{W:World}{t:TypeId}(h:W.heap[0]? =some (.cells (zs.map λz=>Value.int .u8 z).toArray t (0,0))):oT W:=by
 refine⟨_,_,_,h,λj u a=>?_⟩;rw [List.getElem?_toArray,List.getElem?_map]at a;obtain⟨z,_,rfl⟩:=Option.map_eq_some_iff.1 a;exact⟨z,rfl⟩
theorem Ix{W:World}{t:TypeId}(h:W.heap[0]? =some (.cells (zs.map λz=>Value.int .u8 z).toArray t (0,0))):Sit TP (ef W) g0 H0 W:=by
 have n:@VRs noE nog tbl (zs.map λz=>Value.int .u8 z):=by rw [Ij];exact xa zs
 have f:(zs.map λz=>Value.int .u8 z).length=256:=by rw [List.length_map,uA]
 obtain⟨r,_,_⟩:=@WR.overRo noE TP 0 0 256 nog ⟨.e,0⟩ W (@WR.empty noE TP W) (by first|exact vD.empty|exact @vD.empty noE) (by decide) _ _ _ _ h (by rw [List.size_toArray,f]) n (λj u g=>by rw [Nat.zero_add,List.getElem?_toArray];exact g) (by omega) (by rw [f];decide) (λv i=>by
  have:=List.all_eq_true.1 fD v i
  first|exact yy this|exact @yy noE _ this)
 have e:(⟨Tr.put Tr.e 0 (some (.ro (cD tbl) (cM tbl 0 .e))),Nat.succ 0⟩:H)=H0:=by
  rw [(by kernel_rfl:@cD V tbl=256)]
  kernel_rfl
 have l:@WR noE TP g0 H0 W:=e▸r;have hg:g0 0=some (0,0,256):=@cH noE nog 0 (0,0,256);have a:∀id,id≠0->g0 id=none:=λid h=>@dK noE _ _ _ (0,0,256) h;refine Sit.mk' (WR.env (λ_ _ q=>by cases q) l) (λp d=>?_) λb c q=>?_
 ·rw [jv]at d
  obtain rfl:=List.mem_singleton.1 d;exact⟨⟨256,hg⟩,by kernel_rfl⟩
 ·obtain⟨s,m⟩:=Db q
  refine⟨m,λid o z k=>?_⟩
  by_cases hid:id=0
  ·subst hid
   rw [hg]at k;cases k;exact s rfl
  ·rw [a id hid]at k
   cases k
theorem xp{W W':World}(k:mV W W'):Below W.heap.size W W':=⟨k.os,k.tape,k.output,k.size,k.keep⟩
theorem Hp{f:FuncId}(a:∀m:Md,CP f [.agg (mdO m)] (.bool true)){W:World}{t:TypeId}(h:W.heap[0]? =some (.cells (zs.map λz=>Value.int .u8 z).toArray t (0,0))){m:Md}{v:Value}(c:@VR (ef W) g0 (.agg (mdO m)) v):
  CallsIn Fence.wide 0 Tryz.prog f #[v] W λe W'=>e= .returned (.bool true)/\mV W W':=by
 obtain⟨fn,_,_,_,k⟩:=(a m).out (ef W) g0 H0 W [v] (Ix h) (vs1 c vs0);refine k.mono ?_;rintro e W' ⟨E',u,rfl,d,_,_,_,b⟩;cases d;exact⟨rfl,b⟩
end Go.Proofs.YtdfphfdnoobikaaGreatDoor
