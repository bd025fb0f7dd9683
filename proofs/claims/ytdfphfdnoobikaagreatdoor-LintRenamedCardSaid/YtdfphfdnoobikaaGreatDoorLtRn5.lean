/-
  The size of a renamed module.
-/
import Derived.Test.YtdfphfdnoobikaaGreatDoorLtChk
namespace Go.Proofs.YtdfphfdnoobikaaGreatDoor
namespace Ev
theorem tw(g:List Ex)(l:List (List Ex)):bS (gdL (g ::l))=(1+bS (exL g))+bS (gdL l):=by
 rw [gdL];rfl
section
variable {n:Nat} (P:∀x:Ex,bS (exO x)<=n->11*bS (exO (ren x))<=12*bS (exO x))
include P
theorem rQ:∀l,bS (exL l)<=n->11*bS (exL (eH l))<=12*bS (exL l)
 |[],_=>by rw [eH,exL];exact Nat.le_refl 0
 |y ::l,h=>by
  rw [cV,cy]at h;have h1:=P y (by omega);have h2:=rQ l (by omega);rw [eH,cV,cV,cy,cy];omega
theorem AY:∀l,bS (gdL l)<=n->11*bS (gdL (iU l))<=12*bS (gdL l)
 |[],_=>by rw [iU,gdL];exact Nat.le_refl 0
 |y ::l,h=>by
  rw [tw]at h;have h1:=rQ P y (by omega);have h2:=AY l (by omega);rw [iU,tw,tw];omega
theorem rP:∀l,bS (smL l)<=n->11*bS (smL (fm l))<=12*bS (smL l)
 |[],_=>by rw [fm,smL];exact Nat.le_refl 0
 |y ::l,h=>by
  rw [fE,cy,nj]at h;have h1:=P y.pat (by omega)
  have h2:=P y.val (by omega);have h3:=rP l (by omega);rw [fm,fE,fE,cy,cy,nj,nj,qt,sL];omega
theorem AX:∀l,bS (sgL l)<=n->11*bS (sgL (gX l))<=12*bS (sgL l)
 |[],_=>by rw [gX,sgL];exact Nat.le_refl 0
 |y ::l,h=>by
  rw [fI,cy,lR]at h;have h1:=P y.val (by omega);have h2:=P y.size (by omega);have h3:=AX l (by omega);rw [gX,fI,fI,cy,cy,lR,lR,nr,mB,vN];omega
theorem DF(c:Cl)(h:bS (clO c)<=n):11*bS (clO (eU c))<=12*bS (clO c):=by
 rw [gM]at h;have h1:=rQ P c.pats (by omega);have h2:=AY P c.guards (by omega);have a:=rP P c.body (by omega);rw [gM,gM,pA,gT,j9,nS];omega
theorem rR:∀l,bS (clL l)<=n->11*bS (clL (dD l))<=12*bS (clL l)
 |[],_=>by rw [dD,clL];exact Nat.le_refl 0
 |y ::l,h=>by
  rw [fj,cy]at h;have h1:=DF P y (by omega);have h3:=rR l (by omega);rw [dD,fj,fj,cy,cy];omega
end
theorem AW:∀(n:Nat) (x:Ex),bS (exO x)<=n->11*bS (exO (ren x))<=12*bS (exO x)
 |0,x,h=>by have:=iM x;omega
 |n+1,x,h=>by
  have P:=AW n;rw [dZ]at h;have h1:=rQ P x.items (by omega);have h2:=AX P x.segs (by omega);have h3:=rR P x.clauses (by omega);have h4:=rR P x.catches (by omega);have h5:=rP P x.body (by omega);have h6:=rP P x.after (by omega);have hn:(ren x).name.size<=x.name.size+1:=by
   rw [iD]
   split
   ·rw [nT];exact Nat.le_refl _
   ·omega
  rw [dZ,dZ,lU,dO,fY,dP,eG,iE,gQ];omega
theorem F3(f:Fu):11*bS (fuO (eL f))<=12*bS (fuO f):=by
 have h:=rR (AW _) f.clauses (Nat.le_refl _);rw [jJ,jJ];show 11*((f.name.size+1)+(1+(1+bS (clL (dD f.clauses)))))<=_;omega
theorem xk:∀l:List Fu,11*bS (fuL (l.map eL))<=12*bS (fuL l)
 |[]=>Nat.le_refl 0
 |f ::l=>by
  have h1:=F3 f;have h2:=xk l;show 11*bS (fuO (eL f)++fuL (l.map eL))<=12*bS (fuO f++fuL l);rw [cy,cy];omega
theorem DE(m:Md):11*bS (mdO (eT m))<=12*bS (mdO m):=by
 have h1:=xk m.funcs;have h2:=pG m;have b:=pG (eT m);have d:(eT m).funcs=m.funcs.map eL:=rfl;have c:(eT m).exports=m.exports:=rfl;have a:(eT m).name=m.name:=rfl;rw [d,c,a]at b;omega
end Ev
end Go.Proofs.YtdfphfdnoobikaaGreatDoor
