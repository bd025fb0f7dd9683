/-
  The program's code and what is known beforehand, as tables; closed runs over them.
-/
import Derived.Test.YtchmfcjfdhokoaaGreatDoorEvTab1
import Derived.Test.YtchmfcjfdhokoaaGreatDoorEvTab2
import Derived.Test.YtchmfcjfdhokoaaGreatDoorEvTab3
import Derived.Test.YtchmfcjfdhokoaaGreatDoorEvFast
import Derived.Test.YtchmfcjfdhokoaaGreatDoorEvIs
import Derived.Test.YtchmfcjfdhokoaaGreatDoorEvRun
import Derived.Test.YtchmfcjfdhokoaaGreatDoorEvSorted
namespace Go.Proofs.YtchmfcjfdhokoaaGreatDoor
namespace Ev

noncomputable section
def trP {α : Type} (l : List (Nat × α)) : Tr α := List.rec (motive := fun _ => Tr α) .e (fun p _ ih => ih.put p.1 (some p.2)) l
end
theorem trP_get {α : Type} : ∀ {l : List (Nat × α)} {f : Nat} {p : α}, (∀ q ∈ l, q.1 < keys) → (trP l).get f = some p → (f, p) ∈ l
  | [], _, _, _, e => by cases e
  | q :: l, f, p, hk, e => by
    have e : ((trP l).put q.1 (some q.2)).get f = some p := e
    rw [Tr.get_put _ _ _ _ (hk q List.mem_cons_self)] at e
    by_cases h : f = q.1
    · rw [if_pos h] at e
      cases e
      rw [h]
      exact List.mem_cons_self
    · rw [if_neg h] at e
      exact List.mem_cons_of_mem _ (trP_get (fun q hq => hk q (List.mem_cons_of_mem _ hq)) e)
def Good (p : Nat × CF) : Prop := p.1 < keys ∧ ∃ fn, Tryz.prog.funcs[p.1]? = some fn ∧ (fn.name == "runtime.NumGoroutine") = false ∧ compF TP fn = some p.2
theorem good {f : Nat} {fn : Func} {c : CF} (h0 : Nat.blt f 1000 = true) (h1 : Tryz.prog.funcs[f]? = some fn) (h2 : (fn.name == "runtime.NumGoroutine") = false) (h3 : compF TP fn = some c) : Good (f, c) :=
  ⟨Nat.lt_of_lt_of_le (by simpa using h0) (by decide : (1000 : Nat) ≤ keys), fn, h1, h2, h3⟩
noncomputable section
def tabL : List (Nat × CF) := [(3, cf3), (4, cf4), (5, cf5), (6, cf6), (7, cf7), (8, cf8), (9, cf9), (11, cf11), (12, cf12), (13, cf13), (14, cf14), (16, cf16), (18, cf18), (19, cf19), (20, cf20), (21, cf21), (22, cf22), (23, cf23), (24, cf24), (25, cf25), (26, cf26), (27, cf27), (28, cf28), (29, cf29), (30, cf30), (31, cf31), (32, cf32), (33, cf33), (34, cf34), (35, cf35), (36, cf36), (37, cf37), (38, cf38), (39, cf39), (40, cf40), (41, cf41), (43, cf43), (44, cf44), (47, cf47), (48, cf48), (49, cf49), (50, cf50), (51, cf51), (52, cf52), (53, cf53), (54, cf54), (55, cf55), (56, cf56), (57, cf57), (58, cf58), (59, cf59), (60, cf60), (61, cf61), (62, cf62), (63, cf63), (64, cf64), (66, cf66), (67, cf67), (69, cf69), (70, cf70), (71, cf71), (72, cf72), (73, cf73), (74, cf74), (76, cf76), (77, cf77), (78, cf78), (81, cf81), (82, cf82), (83, cf83), (84, cf84), (85, cf85), (86, cf86), (87, cf87), (88, cf88), (89, cf89), (90, cf90), (92, cf92), (93, cf93), (94, cf94), (95, cf95), (97, cf97), (99, cf99), (101, cf101), (102, cf102), (103, cf103), (104, cf104), (105, cf105), (106, cf106), (108, cf108), (110, cf110), (111, cf111), (112, cf112), (115, cf115), (120, cf120), (121, cf121), (125, cf125), (126, cf126), (127, cf127), (128, cf128), (129, cf129), (130, cf130), (131, cf131), (132, cf132), (133, cf133), (134, cf134), (135, cf135), (136, cf136), (137, cf137), (138, cf138), (141, cf141), (142, cf142), (144, cf144), (147, cf147), (148, cf148), (149, cf149), (150, cf150), (152, cf152), (158, cf158), (161, cf161), (167, cf167), (168, cf168), (179, cf179), (186, cf186), (187, cf187), (189, cf189), (190, cf190), (191, cf191), (197, cf197), (199, cf199), (200, cf200), (202, cf202), (203, cf203), (204, cf204), (216, cf216), (226, cf226), (228, cf228), (229, cf229), (246, cf246), (109, cf109), (145, cf145)]
def tabC : Tr CF := trP tabL
def tabF (f : FuncId) : Option FF := ob (tabC.get f) fun c => some (fastF c)
end
theorem tabL_good : ∀ p ∈ tabL, Good p := by
  intro p hp
  simp only [tabL, List.mem_cons, List.not_mem_nil, or_false] at hp
  rcases hp with rfl | rfl | rfl | rfl | rfl | rfl | rfl | rfl | rfl | rfl | rfl | rfl | rfl | rfl | rfl | rfl | rfl | rfl | rfl | rfl | rfl | rfl | rfl | rfl | rfl | rfl | rfl | rfl | rfl | rfl | rfl | rfl | rfl | rfl | rfl | rfl | rfl | rfl | rfl | rfl | rfl | rfl | rfl | rfl | rfl | rfl | rfl | rfl | rfl | rfl | rfl | rfl | rfl | rfl | rfl | rfl | rfl | rfl | rfl | rfl | rfl | rfl | rfl | rfl | rfl | rfl | rfl | rfl | rfl | rfl | rfl | rfl | rfl | rfl | rfl | rfl | rfl | rfl | rfl | rfl | rfl | rfl | rfl | rfl | rfl | rfl | rfl | rfl | rfl | rfl | rfl | rfl | rfl | rfl | rfl | rfl | rfl | rfl | rfl | rfl | rfl | rfl | rfl | rfl | rfl | rfl | rfl | rfl | rfl | rfl | rfl | rfl | rfl | rfl | rfl | rfl | rfl | rfl | rfl | rfl | rfl | rfl | rfl | rfl | rfl | rfl | rfl | rfl | rfl | rfl | rfl | rfl | rfl | rfl | rfl | rfl | rfl | rfl | rfl | rfl | rfl
  · exact good rfl Tryz.func3 (by decide) cf3_ok
  · exact good rfl Tryz.func4 (by decide) cf4_ok
  · exact good rfl Tryz.func5 (by decide) cf5_ok
  · exact good rfl Tryz.func6 (by decide) cf6_ok
  · exact good rfl Tryz.func7 (by decide) cf7_ok
  · exact good rfl Tryz.func8 (by decide) cf8_ok
  · exact good rfl Tryz.func9 (by decide) cf9_ok
  · exact good rfl Tryz.func11 (by decide) cf11_ok
  · exact good rfl Tryz.func12 (by decide) cf12_ok
  · exact good rfl Tryz.func13 (by decide) cf13_ok
  · exact good rfl Tryz.func14 (by decide) cf14_ok
  · exact good rfl Tryz.func16 (by decide) cf16_ok
  · exact good rfl Tryz.func18 (by decide) cf18_ok
  · exact good rfl Tryz.func19 (by decide) cf19_ok
  · exact good rfl Tryz.func20 (by decide) cf20_ok
  · exact good rfl Tryz.func21 (by decide) cf21_ok
  · exact good rfl Tryz.func22 (by decide) cf22_ok
  · exact good rfl Tryz.func23 (by decide) cf23_ok
  · exact good rfl Tryz.func24 (by decide) cf24_ok
  · exact good rfl Tryz.func25 (by decide) cf25_ok
  · exact good rfl Tryz.func26 (by decide) cf26_ok
  · exact good rfl Tryz.func27 (by decide) cf27_ok
  · exact good rfl Tryz.func28 (by decide) cf28_ok
  · exact good rfl Tryz.func29 (by decide) cf29_ok
  · exact good rfl Tryz.func30 (by decide) cf30_ok
  · exact good rfl Tryz.func31 (by decide) cf31_ok
  · exact good rfl Tryz.func32 (by decide) cf32_ok
  · exact good rfl Tryz.func33 (by decide) cf33_ok
  · exact good rfl Tryz.func34 (by decide) cf34_ok
  · exact good rfl Tryz.func35 (by decide) cf35_ok
  · exact good rfl Tryz.func36 (by decide) cf36_ok
  · exact good rfl Tryz.func37 (by decide) cf37_ok
  · exact good rfl Tryz.func38 (by decide) cf38_ok
  · exact good rfl Tryz.func39 (by decide) cf39_ok
  · exact good rfl Tryz.func40 (by decide) cf40_ok
  · exact good rfl Tryz.func41 (by decide) cf41_ok
  · exact good rfl Tryz.func43 (by decide) cf43_ok
  · exact good rfl Tryz.func44 (by decide) cf44_ok
  · exact good rfl Tryz.func47 (by decide) cf47_ok
  · exact good rfl Tryz.func48 (by decide) cf48_ok
  · exact good rfl Tryz.func49 (by decide) cf49_ok
  · exact good rfl Tryz.func50 (by decide) cf50_ok
  · exact good rfl Tryz.func51 (by decide) cf51_ok
  · exact good rfl Tryz.func52 (by decide) cf52_ok
  · exact good rfl Tryz.func53 (by decide) cf53_ok
  · exact good rfl Tryz.func54 (by decide) cf54_ok
  · exact good rfl Tryz.func55 (by decide) cf55_ok
  · exact good rfl Tryz.func56 (by decide) cf56_ok
  · exact good rfl Tryz.func57 (by decide) cf57_ok
  · exact good rfl Tryz.func58 (by decide) cf58_ok
  · exact good rfl Tryz.func59 (by decide) cf59_ok
  · exact good rfl Tryz.func60 (by decide) cf60_ok
  · exact good rfl Tryz.func61 (by decide) cf61_ok
  · exact good rfl Tryz.func62 (by decide) cf62_ok
  · exact good rfl Tryz.func63 (by decide) cf63_ok
  · exact good rfl Tryz.func64 (by decide) cf64_ok
  · exact good rfl Tryz.func66 (by decide) cf66_ok
  · exact good rfl Tryz.func67 (by decide) cf67_ok
  · exact good rfl Tryz.func69 (by decide) cf69_ok
  · exact good rfl Tryz.func70 (by decide) cf70_ok
  · exact good rfl Tryz.func71 (by decide) cf71_ok
  · exact good rfl Tryz.func72 (by decide) cf72_ok
  · exact good rfl Tryz.func73 (by decide) cf73_ok
  · exact good rfl Tryz.func74 (by decide) cf74_ok
  · exact good rfl Tryz.func76 (by decide) cf76_ok
  · exact good rfl Tryz.func77 (by decide) cf77_ok
  · exact good rfl Tryz.func78 (by decide) cf78_ok
  · exact good rfl Tryz.func81 (by decide) cf81_ok
  · exact good rfl Tryz.func82 (by decide) cf82_ok
  · exact good rfl Tryz.func83 (by decide) cf83_ok
  · exact good rfl Tryz.func84 (by decide) cf84_ok
  · exact good rfl Tryz.func85 (by decide) cf85_ok
  · exact good rfl Tryz.func86 (by decide) cf86_ok
  · exact good rfl Tryz.func87 (by decide) cf87_ok
  · exact good rfl Tryz.func88 (by decide) cf88_ok
  · exact good rfl Tryz.func89 (by decide) cf89_ok
  · exact good rfl Tryz.func90 (by decide) cf90_ok
  · exact good rfl Tryz.func92 (by decide) cf92_ok
  · exact good rfl Tryz.func93 (by decide) cf93_ok
  · exact good rfl Tryz.func94 (by decide) cf94_ok
  · exact good rfl Tryz.func95 (by decide) cf95_ok
  · exact good rfl Tryz.func97 (by decide) cf97_ok
  · exact good rfl Tryz.func99 (by decide) cf99_ok
  · exact good rfl Tryz.func101 (by decide) cf101_ok
  · exact good rfl Tryz.func102 (by decide) cf102_ok
  · exact good rfl Tryz.func103 (by decide) cf103_ok
  · exact good rfl Tryz.func104 (by decide) cf104_ok
  · exact good rfl Tryz.func105 (by decide) cf105_ok
  · exact good rfl Tryz.func106 (by decide) cf106_ok
  · exact good rfl Tryz.func108 (by decide) cf108_ok
  · exact good rfl Tryz.func110 (by decide) cf110_ok
  · exact good rfl Tryz.func111 (by decide) cf111_ok
  · exact good rfl Tryz.func112 (by decide) cf112_ok
  · exact good rfl Tryz.func115 (by decide) cf115_ok
  · exact good rfl Tryz.func120 (by decide) cf120_ok
  · exact good rfl Tryz.func121 (by decide) cf121_ok
  · exact good rfl Tryz.func125 (by decide) cf125_ok
  · exact good rfl Tryz.func126 (by decide) cf126_ok
  · exact good rfl Tryz.func127 (by decide) cf127_ok
  · exact good rfl Tryz.func128 (by decide) cf128_ok
  · exact good rfl Tryz.func129 (by decide) cf129_ok
  · exact good rfl Tryz.func130 (by decide) cf130_ok
  · exact good rfl Tryz.func131 (by decide) cf131_ok
  · exact good rfl Tryz.func132 (by decide) cf132_ok
  · exact good rfl Tryz.func133 (by decide) cf133_ok
  · exact good rfl Tryz.func134 (by decide) cf134_ok
  · exact good rfl Tryz.func135 (by decide) cf135_ok
  · exact good rfl Tryz.func136 (by decide) cf136_ok
  · exact good rfl Tryz.func137 (by decide) cf137_ok
  · exact good rfl Tryz.func138 (by decide) cf138_ok
  · exact good rfl Tryz.func141 (by decide) cf141_ok
  · exact good rfl Tryz.func142 (by decide) cf142_ok
  · exact good rfl Tryz.func144 (by decide) cf144_ok
  · exact good rfl Tryz.func147 (by decide) cf147_ok
  · exact good rfl Tryz.func148 (by decide) cf148_ok
  · exact good rfl Tryz.func149 (by decide) cf149_ok
  · exact good rfl Tryz.func150 (by decide) cf150_ok
  · exact good rfl Tryz.func152 (by decide) cf152_ok
  · exact good rfl Tryz.func158 (by decide) cf158_ok
  · exact good rfl Tryz.func161 (by decide) cf161_ok
  · exact good rfl Tryz.func167 (by decide) cf167_ok
  · exact good rfl Tryz.func168 (by decide) cf168_ok
  · exact good rfl Tryz.func179 (by decide) cf179_ok
  · exact good rfl Tryz.func186 (by decide) cf186_ok
  · exact good rfl Tryz.func187 (by decide) cf187_ok
  · exact good rfl Tryz.func189 (by decide) cf189_ok
  · exact good rfl Tryz.func190 (by decide) cf190_ok
  · exact good rfl Tryz.func191 (by decide) cf191_ok
  · exact good rfl Tryz.func197 (by decide) cf197_ok
  · exact good rfl Tryz.func199 (by decide) cf199_ok
  · exact good rfl Tryz.func200 (by decide) cf200_ok
  · exact good rfl Tryz.func202 (by decide) cf202_ok
  · exact good rfl Tryz.func203 (by decide) cf203_ok
  · exact good rfl Tryz.func204 (by decide) cf204_ok
  · exact good rfl Tryz.func216 (by decide) cf216_ok
  · exact good rfl Tryz.func226 (by decide) cf226_ok
  · exact good rfl Tryz.func228 (by decide) cf228_ok
  · exact good rfl Tryz.func229 (by decide) cf229_ok
  · exact good rfl Tryz.func246 (by decide) cf246_ok
  · exact good rfl Tryz.func109 (by decide) cf109_ok
  · exact good rfl Tryz.func145 (by decide) cf145_ok
theorem tabC_ok : TabOk Tryz.prog TP (fun f => tabC.get f) := by
  intro f cf e
  obtain ⟨_, fn, h1, h2, h3⟩ := tabL_good _ (trP_get (fun q hq => (tabL_good q hq).1) e)
  exact ⟨fn, h1, beq_eq_false_iff_ne.1 h2, h3⟩
abbrev Prim := List V → H → Option (V × H)
def PrimsOk (l : List (Nat × Prim)) : Prop := ∀ p ∈ l, p.1 < keys ∧ PrimOf p.1 p.2
noncomputable def callS (l : List (Nat × Prim)) (n : Nat) : CallT := callK (fun f => (trP l).get f) tabF n
theorem callS_ok {l : List (Nat × Prim)} (h : PrimsOk l) (n : Nat) : CallOk Tryz.prog TP (callS l n) := by
  have : callS l n = callN (fun f => (trP l).get f) (fun f => tabC.get f) n := callK_eq _ _ n
  rw [this]
  exact callN_ok tyOk mixed (fun f p e => (h _ (trP_get (fun q hq => (h q hq).1) e)).2) tabC_ok n
theorem PrimsOk.nil : PrimsOk [] := fun _ h => by cases h
theorem PrimsOk.cons {f : Nat} {p : Prim} {l : List (Nat × Prim)} (h0 : Nat.blt f 1000 = true) (h : PrimOf f p) (k : PrimsOk l) : PrimsOk ((f, p) :: l) := fun q hq => by
  cases hq with
  | head => exact ⟨Nat.lt_of_lt_of_le (by simpa using h0) (by decide : (1000 : Nat) ≤ keys), h⟩
  | tail _ hq => exact k q hq
noncomputable def H0 : H := ⟨Tr.put .e 0 (some (.ro 256 (trOf tbl 0 .e))), 1⟩
theorem tbl_flat : tbl.all flat = true := by kernel_rfl
theorem tbl_len : 256 = tbl.length := by kernel_rfl
theorem base0 : ∀ g h w, WR TP g h w → Glob TP g h → Base TP H0 w := fun _ _ _ r hG => base_of rfl tbl_len tbl_flat r hG
theorem Rows.primOf {f : FuncId} {t : List (List V × D)} (k : Rows Tryz.prog TP f t) : PrimOf f (treeP t) := fun _ _ _ _ e _ _ _ r hG hv => k.prim e r hG hv
noncomputable section
def prims0 : List (Nat × Prim) := [(25, isF), (69, runP), (68, fieldsP), (107, containsP), (116, parseUintP), (151, cloneP), (198, sortedP), (115, byteP namedB), (73, byteP digitB), (71, byteP letterB)]
end
theorem prims0_ok : PrimsOk prims0 :=
  .cons rfl isF_ok <| .cons rfl run_ok <| .cons rfl fields_ok <| .cons rfl contains_ok <| .cons rfl parseUint_ok <| .cons rfl clone_ok <| .cons rfl sorted_ok <| .cons rfl named_ok <| .cons rfl digit_ok <| .cons rfl letter_ok <| .nil
end Ev
end Go.Proofs.YtchmfcjfdhokoaaGreatDoor
