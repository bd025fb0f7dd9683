/-
  What the program's text lays, by a walk of the function that lays the variables.
-/
import Derived.Test.YtihflniehaaakaaGreatDoorProg
import Derived.Great.CaseRows
import Derived.Great.LaidInts
import Derived.Great.ByCallsLater
import Derived.Lib.LaidU8
import Derived.Lib.LaidRTabT
import Derived.WalkKit
import Derived.ProofKit
namespace Go.Proofs.YtihflniehaaakaaGreatDoor
set_option linter.unusedVariables false
set_option linter.unusedSimpArgs false
open Go.RowKit
section
open Go.Great Go.Lib
set_option linter.unusedVariables false

def z5 : List Int := [0, 1, 28, 2, 29, 14, 24, 3, 30, 22, 20, 15, 25, 17, 4, 8, 31, 27, 13, 23, 21, 19, 16, 7, 26, 12, 18, 6, 11, 5, 10, 9]
def z1 : List Int := [0, 1, 56, 2, 57, 49, 28, 3, 61, 58, 42, 50, 38, 29, 17, 4, 62, 47, 59, 36, 45, 43, 51, 22, 53, 39, 33, 30, 24, 18, 12, 5, 63, 55, 48, 27, 60, 41, 37, 16, 46, 35, 44, 21, 52, 32, 23, 11, 54, 26, 40, 15, 34, 20, 31, 10, 25, 14, 19, 9, 13, 8, 7, 6]
def z2 : List Int := [1, 10, 100, 1000, 10000, 100000, 1000000, 10000000, 100000000, 1000000000, 10000000000, 100000000000, 1000000000000, 10000000000000, 100000000000000, 1000000000000000, 10000000000000000, 100000000000000000, 1000000000000000000, 10000000000000000000]
def z0 : List Int := [0, 0, 0, 0, 0, 0, 0, 0, 0, 1, 1, 1, 1, 1, 0, 0, 0, 0, 0, 0, 0, 0, 0, 0, 0, 0, 0, 0, 0, 0, 0, 0, 1, 0, 0, 0, 0, 0, 0, 0, 0, 0, 0, 0, 0, 0, 0, 0, 0, 0, 0, 0, 0, 0, 0, 0, 0, 0, 0, 0, 0, 0, 0, 0, 0, 0, 0, 0, 0, 0, 0, 0, 0, 0, 0, 0, 0, 0, 0, 0, 0, 0, 0, 0, 0, 0, 0, 0, 0, 0, 0, 0, 0, 0, 0, 0, 0, 0, 0, 0, 0, 0, 0, 0, 0, 0, 0, 0, 0, 0, 0, 0, 0, 0, 0, 0, 0, 0, 0, 0, 0, 0, 0, 0, 0, 0, 0, 0, 0, 0, 0, 0, 0, 0, 0, 0, 0, 0, 0, 0, 0, 0, 0, 0, 0, 0, 0, 0, 0, 0, 0, 0, 0, 0, 0, 0, 0, 0, 0, 0, 0, 0, 0, 0, 0, 0, 0, 0, 0, 0, 0, 0, 0, 0, 0, 0, 0, 0, 0, 0, 0, 0, 0, 0, 0, 0, 0, 0, 0, 0, 0, 0, 0, 0, 0, 0, 0, 0, 0, 0, 0, 0, 0, 0, 0, 0, 0, 0, 0, 0, 0, 0, 0, 0, 0, 0, 0, 0, 0, 0, 0, 0, 0, 0, 0, 0, 0, 0, 0, 0, 0, 0, 0, 0, 0, 0, 0, 0, 0, 0, 0, 0, 0, 0, 0, 0, 0, 0, 0, 0, 0, 0, 0, 0, 0, 0]
set_option maxHeartbeats 4000000 in
def T6 : RTab := { r16 := #[(9, 13, 1), (32, 133, 101), (160, 5760, 5600), (8192, 8202, 1), (8232, 8233, 1), (8239, 8287, 48), (12288, 12288, 1)], r32 := #[], off := 2 }


def accCells : Array Value := #[.int .u8 128, .int .u8 191, .int .u8 160, .int .u8 191, .int .u8 128, .int .u8 159, .int .u8 144, .int .u8 191, .int .u8 128, .int .u8 143, .int .u8 0, .int .u8 0, .int .u8 0, .int .u8 0, .int .u8 0, .int .u8 0, .int .u8 0, .int .u8 0, .int .u8 0, .int .u8 0, .int .u8 0, .int .u8 0, .int .u8 0, .int .u8 0, .int .u8 0, .int .u8 0, .int .u8 0, .int .u8 0, .int .u8 0, .int .u8 0, .int .u8 0, .int .u8 0]
def rowOf (w : World) (g : Nat) : Array Value := match w.heap[g]? with | some (.cells c _ _) => c | _ => #[]
def cellOf (w : World) (g : Nat) : Value := (rowOf w g).getD 0 undef
abbrev ints (k : IntKind) (zs : List Int) : DataW Unit := .slice (zs.map fun n => .lit (.int k n)) []
/-- A variable's name. -/
noncomputable def nm (i : Nat) : String := ((Tryz.prog.globals[i]?).map (·.name)).getD ""
noncomputable def laidAll : List (String × DataW Unit) := [(nm 5, Lib.tabData .u8 z5), (nm 1, Lib.tabData .u8 z1), (nm 2, Lib.tabData .u64 z2)] ++ ([("unicode.White_Space", rtabData T6)] ++ [("strings.asciiSpace", Lib.tabData .u8 z0)])
/-- No handle stands in the list. -/
theorem noHandle (w : World) (h : laidMet Tryz.prog laidAll w) : laidMetH Tryz.prog laidAll w := by
  have e : (laidAll.filter fun x => x.2.handleName?.isSome) = [] := by kernel_rfl
  unfold laidMetH
  rw [e]
  exact h
/-- Where a region's first operation stands in the source. -/
noncomputable def posIn : Code → Nat → String
  | .seq a _, 0 => posIn a 0
  | .seq _ b, n + 1 => posIn b n
  | .region _ ops _, _ => (ops[0]?).elim "" (·.pos)
  | _, _ => ""
noncomputable def posW : String := Tryz.f723.body.elim "" (posIn · 3)
theorem fits (k : IntKind) (zs : List Int) (h : (zs.all fun n => (Lit.int k n).wf) = true) : ∀ n ∈ zs, (Lit.int k n).wf = true := fun n hn => List.all_eq_true.1 h n hn

/-- The guide's nine facts on unicode's types ('RTypes') and eight on cells ('RExtra'), at this dump's numbers. -/
def rho : Shelf.Ren := ⟨id, fun | 3 => 3 | 49 => 631 | 51 => 574 | 141 => 593 | 193 => 627 | 194 => 628 | 196 => 630 | 198 => 633 | 201 => 636 | x => x, id⟩
theorem rty : RTypes Tryz.prog rho := ⟨by kernel_rfl, by kernel_rfl, by kernel_rfl, by kernel_rfl, by kernel_rfl, by kernel_rfl, by kernel_rfl, by kernel_rfl, by kernel_rfl⟩
theorem rex : RExtra Tryz.prog rho := ⟨by kernel_rfl, by kernel_rfl, by kernel_rfl, by kernel_rfl, by kernel_rfl, by kernel_rfl, by kernel_rfl, by kernel_rfl⟩

attribute [local irreducible] wpList Code.wp varsStart rowOf cellOf accCells z5 z1 z2 z0

set_option linter.unusedSimpArgs false in
set_option maxRecDepth 1000000 in
set_option maxHeartbeats 4000000 in
theorem tieW : Tryz.prog.laidByTextLater laidAll [.data, .data, .data, .listed, .data] true :=
  Program.laidByTextLater_by_calls (by as_aux_lemma => kernel_rfl) (by as_aux_lemma => kernel_rfl) (by as_aux_lemma => kernel_rfl) (by as_aux_lemma => kernel_rfl) (by as_aux_lemma => kernel_rfl) (by as_aux_lemma => kernel_rfl) (by as_aux_lemma => kernel_rfl) fun os tape => by
    have e : varsId Tryz.prog = 723 := by as_aux_lemma => kernel_rfl
    rw [e]
    refine calls_of_wp Tryz.func723 rfl ?_
    refine wp_anyFrame 15 (by as_aux_lemma => kernel_rfl) rfl fun a0 hs0 hd0 => ?_
    apply wp_seq_k; intro K0 hK0
    apply wp_region_lit
    refine wpList_buildFlatArrTo rfl 661 5 32 _ rfl .u8 z5 (some 0) rfl (by as_aux_lemma => kernel_rfl) (by as_aux_lemma => kernel_rfl) (by as_aux_lemma => kernel_rfl) (by as_aux_lemma => kernel_rfl) ?_
    refine wpList_store_rowTo rfl 661 _ _ rfl rfl 5 (z5.map (Value.int .u8)).toArray rfl (Act.eval_put_same _ 0 _ (by simp only [Act.size_put, hs0]; omega)) 661 (rowOf (varsStart Tryz.prog os tape) 5) (by as_aux_lemma => kernel_rfl) (by as_aux_lemma => kernel_rfl) (by as_aux_lemma => kernel_rfl) (by as_aux_lemma => kernel_rfl) ?_
    apply wpList_nil
    refine hK0 _ _ ?_
    refine wp_anyFrame 15 (by simp only [Act.size_put, hs0]) (by simp only [Act.defers_put', hd0]) fun a1 hs1 hd1 => ?_
    clear hK0 K0
    apply wp_seq_k; intro K1 hK1
    apply wp_region_lit
    refine wpList_buildFlatArrTo rfl 575 5 64 _ rfl .u8 z1 (some 1) rfl (by as_aux_lemma => kernel_rfl) (by as_aux_lemma => kernel_rfl) (by as_aux_lemma => kernel_rfl) (by as_aux_lemma => kernel_rfl) ?_
    refine wpList_store_rowTo rfl 575 _ _ rfl rfl 1 (z1.map (Value.int .u8)).toArray rfl (Act.eval_put_same _ 1 _ (by simp only [Act.size_put, hs1]; omega)) 575 (rowOf (varsStart Tryz.prog os tape) 1) (by as_aux_lemma => kernel_rfl) (by as_aux_lemma => kernel_rfl) (by as_aux_lemma => kernel_rfl) (by as_aux_lemma => kernel_rfl) ?_
    apply wpList_nil
    refine hK1 _ _ ?_
    refine wp_anyFrame 15 (by simp only [Act.size_put, hs1]) (by simp only [Act.defers_put', hd1]) fun a2 hs2 hd2 => ?_
    clear hK1 K1
    apply wp_seq_k; intro K2 hK2
    apply wp_region_lit
    refine wpList_buildFlatArrTo rfl 578 193 20 _ rfl .u64 z2 (some 2) rfl (by as_aux_lemma => kernel_rfl) (by as_aux_lemma => kernel_rfl) (by as_aux_lemma => kernel_rfl) (by as_aux_lemma => kernel_rfl) ?_
    refine wpList_store_rowTo rfl 578 _ _ rfl rfl 2 (z2.map (Value.int .u64)).toArray rfl (Act.eval_put_same _ 2 _ (by simp only [Act.size_put, hs2]; omega)) 578 (rowOf (varsStart Tryz.prog os tape) 2) (by as_aux_lemma => kernel_rfl) (by as_aux_lemma => kernel_rfl) (by as_aux_lemma => kernel_rfl) (by as_aux_lemma => kernel_rfl) ?_
    apply wpList_nil
    refine hK2 _ _ ?_
    refine wp_anyFrame 15 (by simp only [Act.size_put, hs2]) (by simp only [Act.defers_put', hd2]) fun a3 hs3 hd3 => ?_
    clear hK2 K2
    apply wp_seq_k; intro K3 hK3
    apply wp_region_lit
    refine wpList_splitAt 7 (rgOps 633 posW .u16 3 T6.r16.toList) (by as_aux_lemma => kernel_rfl) ?_
    refine wpList_rgs 633 posW .u16 (fun _ _ _ => by as_aux_lemma => kernel_rfl) T6.r16.toList 3 _ (by simp only [Act.size_put, hs3]; exact Nat.le_of_ble_eq_true (by as_aux_lemma => kernel_rfl)) fun b3 hb3 hbd3 hev3 _ => ?_
    refine wpList_buildRgs rfl 627 633 _ .u16 T6.r16 rfl 3 ((varsStart Tryz.prog os tape).heap.size + 0) (by as_aux_lemma => kernel_rfl) (some 10) rfl (by as_aux_lemma => kernel_rfl) (by as_aux_lemma => kernel_rfl) (by as_aux_lemma => kernel_rfl) (by decide) (by decide) (by as_aux_lemma => kernel_rfl) hev3 ?_
    refine wpList_buildTo rfl 630 _ rfl (some 11) rfl #[.slice (some ⟨(varsStart Tryz.prog os tape).heap.size + 0, 0, none⟩) T6.r16.size T6.r16.size, .slice none 0 0, .int .i64 T6.off] ?_ ?_
    · simp only [List.map_toArray, List.map_cons, List.map_nil]
      rw [Act.eval_put_same _ 10 _ (by simp only [Act.size_put, hb3, hs3]; omega)]
      as_aux_lemma => kernel_rfl
    refine wpList_boxTo rfl 630 _ rfl (some 12) rfl ((varsStart Tryz.prog os tape).heap.size + 1) (by as_aux_lemma => kernel_rfl) #[.slice (some ⟨(varsStart Tryz.prog os tape).heap.size + 0, 0, none⟩) T6.r16.size T6.r16.size, .slice none 0 0, .int .i64 T6.off] (by rw [Act.eval_put_same _ 11 _ (by simp only [Act.size_put, hb3, hs3]; omega)]; rfl) ?_
    refine wpList_store_oneTo rfl 593 _ _ rfl rfl 6 (.pointer (some ⟨(varsStart Tryz.prog os tape).heap.size + 1, 0, none⟩)) rfl (Act.eval_put_same _ 12 _ (by simp only [Act.size_put, hb3, hs3]; omega)) rfl 593 (cellOf (varsStart Tryz.prog os tape) 6) (by as_aux_lemma => kernel_rfl) (by as_aux_lemma => kernel_rfl) ?_
    apply wpList_nil
    refine hK3 _ _ ?_
    refine wp_anyFrame 15 (by simp only [Act.size_put, hb3, hs3]) (by simp only [Act.defers_put', hbd3, hd3]) fun a4 hs4 hd4 => ?_
    clear hK3 K3
    apply wp_seq_k; intro K4 hK4
    apply wp_region_lit
    refine wpList_readTo rfl (some 13) rfl (.pointer (some ⟨(varsStart Tryz.prog os tape).heap.size + 1, 0, none⟩)) (by as_aux_lemma => kernel_rfl) ?_
    refine wpList_store_oneTo rfl 593 _ _ rfl rfl 3 (.pointer (some ⟨(varsStart Tryz.prog os tape).heap.size + 1, 0, none⟩)) rfl (Act.eval_put_same _ 13 _ (by simp only [Act.size_put, hs4]; omega)) rfl 593 (cellOf (varsStart Tryz.prog os tape) 3) (by as_aux_lemma => kernel_rfl) (by as_aux_lemma => kernel_rfl) ?_
    apply wpList_nil
    refine hK4 _ _ ?_
    refine wp_anyFrame 15 (by simp only [Act.size_put, hs4]) (by simp only [Act.defers_put', hd4]) fun a5 hs5 hd5 => ?_
    clear hK4 K4
    apply wp_region_lit
    refine wpList_buildTo rfl 531 _ rfl (some 14) rfl (z0.map (Value.int .u8)).toArray (by as_aux_lemma => kernel_rfl) ?_
    refine wpList_store_rowTo rfl 531 _ _ rfl rfl 0 (z0.map (Value.int .u8)).toArray rfl (Act.eval_put_same _ 14 _ (by simp only [Act.size_put, hs5]; omega)) 531 (rowOf (varsStart Tryz.prog os tape) 0) (by as_aux_lemma => kernel_rfl) (by as_aux_lemma => kernel_rfl) (by as_aux_lemma => kernel_rfl) (by as_aux_lemma => kernel_rfl) ?_
    apply wpList_nil
    refine bodyPost_end0 rfl (by simp only [Act.defers_put', hd5]) ?_
    refine ⟨⟨_, rfl⟩, noHandle _ (laidMet_memory (LaidIn.met (B := [5, 1, 2] ++ ([3, (varsStart Tryz.prog os tape).heap.size + 1, (varsStart Tryz.prog os tape).heap.size + 0] ++ [0])) ?_))⟩
    unfold laidAll
    refine LaidIn.append (B := [5, 1, 2]) (LaidIn.of_run [5, 1, 2] 10 (by as_aux_lemma => kernel_rfl) (by as_aux_lemma => kernel_rfl) (by as_aux_lemma => kernel_rfl) (by as_aux_lemma => kernel_rfl)) (LaidIn.append (B := [3, (varsStart Tryz.prog os tape).heap.size + 1, (varsStart Tryz.prog os tape).heap.size + 0]) (B' := [0]) ?_ (LaidIn.of_run [0] 10 (by as_aux_lemma => kernel_rfl) (by as_aux_lemma => kernel_rfl) (by as_aux_lemma => kernel_rfl) (by as_aux_lemma => kernel_rfl)) (by as_aux_lemma => kernel_rfl)) (by as_aux_lemma => kernel_rfl)
    exact (laidIn_rtab16T (ρ := rho) rty rex (name := "unicode.White_Space") (g := 3) (by as_aux_lemma => kernel_rfl) (by as_aux_lemma => kernel_rfl) T6 ((varsStart Tryz.prog os tape).heap.size + 1) ((varsStart Tryz.prog os tape).heap.size + 0) 633 (by as_aux_lemma => kernel_rfl) (by as_aux_lemma => kernel_rfl) (by as_aux_lemma => kernel_rfl) (by as_aux_lemma => kernel_rfl) (by decide) (by decide) (of_decide_eq_true (by as_aux_lemma => kernel_rfl)))
end
end Go.Proofs.YtihflniehaaakaaGreatDoor
