/-
  The law: the three names by closed runs; any other name by three closed rounds and one that ends.
-/
import Derived.Test.YtchmfcjfdhokoaaGreatDoorEvModV
import Derived.Test.YtchmfcjfdhokoaaGreatDoorEvModS
import Derived.Test.YtchmfcjfdhokoaaGreatDoorEvModU
import Derived.Test.YtchmfcjfdhokoaaGreatDoorEvRun
namespace Go.Proofs.YtchmfcjfdhokoaaGreatDoor
namespace Ev
noncomputable section
/-- A call with this string hands back this tree. -/
def strP (n c : Nat) (d : D) (vs : List V) (h : H) : Option (V × H) :=
  oif (eqBs [.str n c] vs) (Prod.rec (motive := fun _ => Option (V × H)) (fun v h' => oif (Nat.ble h'.next keys) (some (v, h'))) (d.bld h))
def orP (p q : Prim) : Prim := fun vs h => Option.rec (motive := fun _ => Option (V × H)) (q vs h) some (p vs h)
def zi : D := .v (.int .i64 (.ofNat 0))
def lawP : List (Nat × Prim) :=
  (8, orP (strP 1381 txV (.tup [mdV, zi, zi])) (orP (strP 1430 txS (.tup [mdS, zi, zi])) (strP 3435 txU (.tup [mdU, zi, zi])))) ::
  (9, orP (argP [mdV] (.v (.bool true))) (orP (argP [mdS] (.v (.bool true))) (argP [mdU] (.v (.bool true))))) :: prims0
end
theorem orP_ok {f : FuncId} {p q : Prim} (h : PrimOf f p) (k : PrimOf f q) : PrimOf f (orP p q) := fun vs m v m' e => by
  have e : (Option.rec (motive := fun _ => Option (V × H)) (q vs m) some (p vs m) : Option (V × H)) = some (v, m') := e
  cases hp : p vs m with
  | none => rw [hp] at e; exact k vs m v m' e
  | some r => rw [hp] at e; exact h vs m v m' (hp.trans e)
theorem Hands0.fn {f : FuncId} {us : List Value} {w : World} {d : D} (k : Hands0 f us w d) {g : G} {h : H} (r : WR TP g h w) (hG : Glob TP g h) (hn : (d.bld h).2.next ≤ keys) : CallFn Tryz.prog TP f us g h w (d.bld h).1 (d.bld h).2 := by
  obtain ⟨fn, m1, m2, m3, m4⟩ := k
  refine ⟨fn, m1, m2, m3, m4.mono ?_⟩
  rintro x w' ⟨u, rfl, k1, k2⟩
  obtain ⟨⟨z, p1⟩, p2⟩ := hG _ (List.mem_singleton.2 rfl)
  have p1 : g 0 = some (0, 0, z) := p1
  have near : Near g w (fun b => w.heap.size ≤ b ∨ b = 0) := fun b hb => hb.imp id fun hb => ⟨0, 0, z, by rw [hb]; exact p1⟩
  obtain ⟨g2, x2, _, _, k3, _⟩ := bldF near k1 (Ext.ofStill r k2) (fun i b o z' k e1 e2 e3 e4 => by
    rcases e2 with e2 | e2
    · exact absurd (r.lt _ _ _ _ e1) (by omega)
    · subst e2
      by_cases hi : i = 0
      · subst hi
        rw [show h.blk 0 = _ from p2] at e3
        cases e3
        rfl
      · exact (lone_mates r hi e1 p1 e3 p2 e4 ⟨rfl, .inl rfl⟩).1) hn
  exact ⟨g2, u, rfl, k3, x2⟩
theorem strP_ok {call : CallT} (hk : CallOk Tryz.prog TP call) {f : FuncId} {n c : Nat} {d : D} (e0 : runB call f [.str n c] d = true) : PrimOf f (strP n c d) := fun vs h v h' e g w us r hG hv => by
  obtain ⟨e1, e2⟩ := oif_some.1 e
  have e2 : oif (Nat.ble (d.bld h).2.next keys) (some ((d.bld h).1, (d.bld h).2)) = some (v, h') := e2
  obtain ⟨e3, e4⟩ := oif_some.1 e2
  cases e4
  obtain rfl := eqBs_eq _ _ e1
  exact (runB_ok hk e0 r hG hv).fn r hG (by simpa using e3)
theorem lawP_ok : PrimsOk lawP :=
  .cons rfl (orP_ok (strP_ok (callS_ok qmV_ok 100) modV) (orP_ok (strP_ok (callS_ok qmS_ok 100) modS) (strP_ok (callS_ok qmU_ok 100) modU))) <|
  .cons rfl (orP_ok (argP_ok (callS_ok lpV_ok 200) clnV) (orP_ok (argP_ok (callS_ok lpS_ok 200) clnS) (argP_ok (callS_ok lpU_ok 200) clnU))) <| prims0_ok
end Ev
end Go.Proofs.YtchmfcjfdhokoaaGreatDoor
