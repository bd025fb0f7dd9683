/-
  The program's code, as a table; closed runs over it.
-/
import Derived.Test.YtogbcielgfidlaaGreatDoorMcTab1
import Derived.Test.YtogbcielgfidlaaGreatDoorMcTab3
import Derived.Test.YtogbcielgfidlaaGreatDoorEvFast2
namespace Go.Proofs.YtogbcielgfidlaaGreatDoor
set_option linter.unusedVariables false
set_option linter.unusedSimpArgs false
namespace Ev
variable [Opq]
set_option linter.unusedSectionVars false

theorem tyOk_of (P : Program) (pin : List (Nat × Nat × Nat × Tr V)) : TyOk P ⟨P.info?, P.underlying, fun t => !P.stoodInHeld t && !P.eqGuardType P.depth t, pin⟩ := ⟨fun _ _ h => h, fun _ _ h => h, fun t h => by
  have h : (!P.stoodInHeld t && !P.eqGuardType P.depth t) = true := h
  simpa using h⟩
theorem tyOk : TyOk Tryz.prog TP := tyOk_of Tryz.prog _
theorem mixed : Tryz.prog.follows .mixedOrders = true := by kernel_rfl
/-- What is known of one function. -/
def PrimOf (f : FuncId) (p : List V → H → Option (V × H)) : Prop :=
  ∀ vs h v h', p vs h = some (v, h') → ∀ g w us, WR TP g h w → Glob TP g h → VRs g vs us → CallFn Tryz.prog TP f us g h w v h'
noncomputable section
def trP {α : Type} (l : List (Nat × α)) : Tr α := List.rec (motive := fun _ => Tr α) .e (fun p _ ih => ih.put p.1 (some p.2)) l
end
theorem trP_get {α : Type} : ∀ {l : List (Nat × α)} {f : Nat} {p : α}, (∀ q ∈ l, q.1 < keys) → (trP l).get f = some p → (f, p) ∈ l
  | [], _, _, _, e => by cases e
  | q :: l, f, p, hk, e => by
    have e : ((trP l).put q.1 (some q.2)).get f = some p := e
    rw [Tr.get_put _ _ _ _ (hk q List.mem_cons_self)] at e
    by_cases h : f = q.1
    · rw [if_pos h] at e
      cases e
      rw [h]
      exact List.mem_cons_self
    · rw [if_neg h] at e
      exact List.mem_cons_of_mem _ (trP_get (fun q hq => hk q (List.mem_cons_of_mem _ hq)) e)
def Good (p : Nat × CF) : Prop := p.1 < keys ∧ ∃ fn, Tryz.prog.funcs[p.1]? = some fn ∧ (fn.name == "runtime.NumGoroutine") = false ∧ compF TP fn = some p.2
theorem good {f : Nat} {fn : Func} {c : CF} (h0 : Nat.blt f 1000 = true) (h1 : Tryz.prog.funcs[f]? = some fn) (h2 : (fn.name == "runtime.NumGoroutine") = false) (h3 : compF TP fn = some c) : Good (f, c) :=
  ⟨Nat.lt_of_lt_of_le (by simpa using h0) (by decide : (1000 : Nat) ≤ keys), fn, h1, h2, h3⟩
noncomputable section
def tabL : List (Nat × CF) := [(3, cf3), (4, cf4), (5, cf5), (6, cf6), (8, cf8), (9, cf9), (10, cf10), (11, cf11), (12, cf12), (13, cf13), (14, cf14), (15, cf15), (16, cf16), (17, cf17), (18, cf18), (19, cf19), (20, cf20), (21, cf21), (22, cf22), (23, cf23), (24, cf24), (25, cf25), (26, cf26), (27, cf27), (28, cf28), (29, cf29), (30, cf30), (31, cf31), (32, cf32), (33, cf33), (34, cf34), (35, cf35), (36, cf36), (37, cf37), (38, cf38), (39, cf39), (40, cf40), (41, cf41), (42, cf42), (43, cf43), (44, cf44), (48, cf48), (49, cf49), (50, cf50), (51, cf51), (52, cf52), (53, cf53), (54, cf54), (55, cf55), (56, cf56), (57, cf57), (58, cf58), (60, cf60), (61, cf61), (62, cf62), (63, cf63), (70, cf70), (71, cf71), (73, cf73), (77, cf77), (78, cf78), (79, cf79), (92, cf92), (93, cf93), (94, cf94), (95, cf95), (96, cf96), (97, cf97), (98, cf98), (99, cf99), (101, cf101), (102, cf102), (103, cf103), (104, cf104), (105, cf105), (106, cf106), (107, cf107), (108, cf108), (109, cf109), (110, cf110), (111, cf111), (112, cf112), (113, cf113), (114, cf114), (115, cf115), (117, cf117), (125, cf125), (126, cf126), (127, cf127), (128, cf128), (129, cf129), (130, cf130), (133, cf133), (138, cf138), (139, cf139), (141, cf141), (147, cf147), (148, cf148), (149, cf149), (150, cf150), (151, cf151), (152, cf152), (153, cf153), (155, cf155), (156, cf156), (157, cf157), (158, cf158), (159, cf159), (160, cf160), (162, cf162), (163, cf163), (164, cf164), (165, cf165), (166, cf166), (167, cf167), (168, cf168), (169, cf169), (170, cf170), (171, cf171), (172, cf172), (174, cf174), (175, cf175), (176, cf176), (179, cf179), (180, cf180), (181, cf181), (183, cf183), (184, cf184), (185, cf185), (188, cf188), (191, cf191), (195, cf195), (196, cf196), (197, cf197), (200, cf200), (202, cf202), (209, cf209), (210, cf210), (211, cf211), (217, cf217), (223, cf223), (224, cf224), (225, cf225), (226, cf226), (227, cf227), (228, cf228), (230, cf230), (231, cf231), (232, cf232), (233, cf233), (234, cf234), (235, cf235), (236, cf236), (237, cf237), (238, cf238), (239, cf239), (240, cf240), (241, cf241), (242, cf242), (243, cf243), (244, cf244), (245, cf245), (246, cf246), (247, cf247), (248, cf248), (249, cf249), (250, cf250), (251, cf251), (258, cf258), (259, cf259), (261, cf261), (268, cf268), (269, cf269), (270, cf270), (272, cf272), (273, cf273), (276, cf276), (278, cf278), (280, cf280), (287, cf287), (293, cf293), (294, cf294), (296, cf296), (297, cf297), (298, cf298), (299, cf299), (300, cf300), (301, cf301), (302, cf302), (303, cf303), (304, cf304), (306, cf306), (307, cf307), (308, cf308), (311, cf311), (312, cf312), (314, cf314), (326, cf326), (331, cf331), (369, cf369), (377, cf377), (383, cf383), (387, cf387), (390, cf390), (391, cf391), (392, cf392), (394, cf394)]
def tabC : Tr CF := trP tabL
def tabF (f : FuncId) : Option FF := ob (tabC.get f) fun c => some (fastF c)
end
theorem all_nil : ∀ p ∈ ([] : List (Nat × CF)), Good p := fun _ h => by cases h
theorem all_cons {p : Nat × CF} {l : List (Nat × CF)} (h : Good p) (k : ∀ q ∈ l, Good q) : ∀ q ∈ p :: l, Good q := fun q hq => by
  cases hq with
  | head => exact h
  | tail _ hq => exact k q hq
set_option maxRecDepth 100000 in
theorem tabL_good : ∀ p ∈ tabL, Good p := by
  unfold tabL
  exact all_cons (good rfl Tryz.func3 (by decide) cf3_ok) <|
    all_cons (good rfl Tryz.func4 (by decide) cf4_ok) <|
    all_cons (good rfl Tryz.func5 (by decide) cf5_ok) <|
    all_cons (good rfl Tryz.func6 (by decide) cf6_ok) <|
    all_cons (good rfl Tryz.func8 (by decide) cf8_ok) <|
    all_cons (good rfl Tryz.func9 (by decide) cf9_ok) <|
    all_cons (good rfl Tryz.func10 (by decide) cf10_ok) <|
    all_cons (good rfl Tryz.func11 (by decide) cf11_ok) <|
    all_cons (good rfl Tryz.func12 (by decide) cf12_ok) <|
    all_cons (good rfl Tryz.func13 (by decide) cf13_ok) <|
    all_cons (good rfl Tryz.func14 (by decide) cf14_ok) <|
    all_cons (good rfl Tryz.func15 (by decide) cf15_ok) <|
    all_cons (good rfl Tryz.func16 (by decide) cf16_ok) <|
    all_cons (good rfl Tryz.func17 (by decide) cf17_ok) <|
    all_cons (good rfl Tryz.func18 (by decide) cf18_ok) <|
    all_cons (good rfl Tryz.func19 (by decide) cf19_ok) <|
    all_cons (good rfl Tryz.func20 (by decide) cf20_ok) <|
    all_cons (good rfl Tryz.func21 (by decide) cf21_ok) <|
    all_cons (good rfl Tryz.func22 (by decide) cf22_ok) <|
    all_cons (good rfl Tryz.func23 (by decide) cf23_ok) <|
    all_cons (good rfl Tryz.func24 (by decide) cf24_ok) <|
    all_cons (good rfl Tryz.func25 (by decide) cf25_ok) <|
    all_cons (good rfl Tryz.func26 (by decide) cf26_ok) <|
    all_cons (good rfl Tryz.func27 (by decide) cf27_ok) <|
    all_cons (good rfl Tryz.func28 (by decide) cf28_ok) <|
    all_cons (good rfl Tryz.func29 (by decide) cf29_ok) <|
    all_cons (good rfl Tryz.func30 (by decide) cf30_ok) <|
    all_cons (good rfl Tryz.func31 (by decide) cf31_ok) <|
    all_cons (good rfl Tryz.func32 (by decide) cf32_ok) <|
    all_cons (good rfl Tryz.func33 (by decide) cf33_ok) <|
    all_cons (good rfl Tryz.func34 (by decide) cf34_ok) <|
    all_cons (good rfl Tryz.func35 (by decide) cf35_ok) <|
    all_cons (good rfl Tryz.func36 (by decide) cf36_ok) <|
    all_cons (good rfl Tryz.func37 (by decide) cf37_ok) <|
    all_cons (good rfl Tryz.func38 (by decide) cf38_ok) <|
    all_cons (good rfl Tryz.func39 (by decide) cf39_ok) <|
    all_cons (good rfl Tryz.func40 (by decide) cf40_ok) <|
    all_cons (good rfl Tryz.func41 (by decide) cf41_ok) <|
    all_cons (good rfl Tryz.func42 (by decide) cf42_ok) <|
    all_cons (good rfl Tryz.func43 (by decide) cf43_ok) <|
    all_cons (good rfl Tryz.func44 (by decide) cf44_ok) <|
    all_cons (good rfl Tryz.func48 (by decide) cf48_ok) <|
    all_cons (good rfl Tryz.func49 (by decide) cf49_ok) <|
    all_cons (good rfl Tryz.func50 (by decide) cf50_ok) <|
    all_cons (good rfl Tryz.func51 (by decide) cf51_ok) <|
    all_cons (good rfl Tryz.func52 (by decide) cf52_ok) <|
    all_cons (good rfl Tryz.func53 (by decide) cf53_ok) <|
    all_cons (good rfl Tryz.func54 (by decide) cf54_ok) <|
    all_cons (good rfl Tryz.func55 (by decide) cf55_ok) <|
    all_cons (good rfl Tryz.func56 (by decide) cf56_ok) <|
    all_cons (good rfl Tryz.func57 (by decide) cf57_ok) <|
    all_cons (good rfl Tryz.func58 (by decide) cf58_ok) <|
    all_cons (good rfl Tryz.func60 (by decide) cf60_ok) <|
    all_cons (good rfl Tryz.func61 (by decide) cf61_ok) <|
    all_cons (good rfl Tryz.func62 (by decide) cf62_ok) <|
    all_cons (good rfl Tryz.func63 (by decide) cf63_ok) <|
    all_cons (good rfl Tryz.func70 (by decide) cf70_ok) <|
    all_cons (good rfl Tryz.func71 (by decide) cf71_ok) <|
    all_cons (good rfl Tryz.func73 (by decide) cf73_ok) <|
    all_cons (good rfl Tryz.func77 (by decide) cf77_ok) <|
    all_cons (good rfl Tryz.func78 (by decide) cf78_ok) <|
    all_cons (good rfl Tryz.func79 (by decide) cf79_ok) <|
    all_cons (good rfl Tryz.func92 (by decide) cf92_ok) <|
    all_cons (good rfl Tryz.func93 (by decide) cf93_ok) <|
    all_cons (good rfl Tryz.func94 (by decide) cf94_ok) <|
    all_cons (good rfl Tryz.func95 (by decide) cf95_ok) <|
    all_cons (good rfl Tryz.func96 (by decide) cf96_ok) <|
    all_cons (good rfl Tryz.func97 (by decide) cf97_ok) <|
    all_cons (good rfl Tryz.func98 (by decide) cf98_ok) <|
    all_cons (good rfl Tryz.func99 (by decide) cf99_ok) <|
    all_cons (good rfl Tryz.func101 (by decide) cf101_ok) <|
    all_cons (good rfl Tryz.func102 (by decide) cf102_ok) <|
    all_cons (good rfl Tryz.func103 (by decide) cf103_ok) <|
    all_cons (good rfl Tryz.func104 (by decide) cf104_ok) <|
    all_cons (good rfl Tryz.func105 (by decide) cf105_ok) <|
    all_cons (good rfl Tryz.func106 (by decide) cf106_ok) <|
    all_cons (good rfl Tryz.func107 (by decide) cf107_ok) <|
    all_cons (good rfl Tryz.func108 (by decide) cf108_ok) <|
    all_cons (good rfl Tryz.func109 (by decide) cf109_ok) <|
    all_cons (good rfl Tryz.func110 (by decide) cf110_ok) <|
    all_cons (good rfl Tryz.func111 (by decide) cf111_ok) <|
    all_cons (good rfl Tryz.func112 (by decide) cf112_ok) <|
    all_cons (good rfl Tryz.func113 (by decide) cf113_ok) <|
    all_cons (good rfl Tryz.func114 (by decide) cf114_ok) <|
    all_cons (good rfl Tryz.func115 (by decide) cf115_ok) <|
    all_cons (good rfl Tryz.func117 (by decide) cf117_ok) <|
    all_cons (good rfl Tryz.func125 (by decide) cf125_ok) <|
    all_cons (good rfl Tryz.func126 (by decide) cf126_ok) <|
    all_cons (good rfl Tryz.func127 (by decide) cf127_ok) <|
    all_cons (good rfl Tryz.func128 (by decide) cf128_ok) <|
    all_cons (good rfl Tryz.func129 (by decide) cf129_ok) <|
    all_cons (good rfl Tryz.func130 (by decide) cf130_ok) <|
    all_cons (good rfl Tryz.func133 (by decide) cf133_ok) <|
    all_cons (good rfl Tryz.func138 (by decide) cf138_ok) <|
    all_cons (good rfl Tryz.func139 (by decide) cf139_ok) <|
    all_cons (good rfl Tryz.func141 (by decide) cf141_ok) <|
    all_cons (good rfl Tryz.func147 (by decide) cf147_ok) <|
    all_cons (good rfl Tryz.func148 (by decide) cf148_ok) <|
    all_cons (good rfl Tryz.func149 (by decide) cf149_ok) <|
    all_cons (good rfl Tryz.func150 (by decide) cf150_ok) <|
    all_cons (good rfl Tryz.func151 (by decide) cf151_ok) <|
    all_cons (good rfl Tryz.func152 (by decide) cf152_ok) <|
    all_cons (good rfl Tryz.func153 (by decide) cf153_ok) <|
    all_cons (good rfl Tryz.func155 (by decide) cf155_ok) <|
    all_cons (good rfl Tryz.func156 (by decide) cf156_ok) <|
    all_cons (good rfl Tryz.func157 (by decide) cf157_ok) <|
    all_cons (good rfl Tryz.func158 (by decide) cf158_ok) <|
    all_cons (good rfl Tryz.func159 (by decide) cf159_ok) <|
    all_cons (good rfl Tryz.func160 (by decide) cf160_ok) <|
    all_cons (good rfl Tryz.func162 (by decide) cf162_ok) <|
    all_cons (good rfl Tryz.func163 (by decide) cf163_ok) <|
    all_cons (good rfl Tryz.func164 (by decide) cf164_ok) <|
    all_cons (good rfl Tryz.func165 (by decide) cf165_ok) <|
    all_cons (good rfl Tryz.func166 (by decide) cf166_ok) <|
    all_cons (good rfl Tryz.func167 (by decide) cf167_ok) <|
    all_cons (good rfl Tryz.func168 (by decide) cf168_ok) <|
    all_cons (good rfl Tryz.func169 (by decide) cf169_ok) <|
    all_cons (good rfl Tryz.func170 (by decide) cf170_ok) <|
    all_cons (good rfl Tryz.func171 (by decide) cf171_ok) <|
    all_cons (good rfl Tryz.func172 (by decide) cf172_ok) <|
    all_cons (good rfl Tryz.func174 (by decide) cf174_ok) <|
    all_cons (good rfl Tryz.func175 (by decide) cf175_ok) <|
    all_cons (good rfl Tryz.func176 (by decide) cf176_ok) <|
    all_cons (good rfl Tryz.func179 (by decide) cf179_ok) <|
    all_cons (good rfl Tryz.func180 (by decide) cf180_ok) <|
    all_cons (good rfl Tryz.func181 (by decide) cf181_ok) <|
    all_cons (good rfl Tryz.func183 (by decide) cf183_ok) <|
    all_cons (good rfl Tryz.func184 (by decide) cf184_ok) <|
    all_cons (good rfl Tryz.func185 (by decide) cf185_ok) <|
    all_cons (good rfl Tryz.func188 (by decide) cf188_ok) <|
    all_cons (good rfl Tryz.func191 (by decide) cf191_ok) <|
    all_cons (good rfl Tryz.func195 (by decide) cf195_ok) <|
    all_cons (good rfl Tryz.func196 (by decide) cf196_ok) <|
    all_cons (good rfl Tryz.func197 (by decide) cf197_ok) <|
    all_cons (good rfl Tryz.func200 (by decide) cf200_ok) <|
    all_cons (good rfl Tryz.func202 (by decide) cf202_ok) <|
    all_cons (good rfl Tryz.func209 (by decide) cf209_ok) <|
    all_cons (good rfl Tryz.func210 (by decide) cf210_ok) <|
    all_cons (good rfl Tryz.func211 (by decide) cf211_ok) <|
    all_cons (good rfl Tryz.func217 (by decide) cf217_ok) <|
    all_cons (good rfl Tryz.func223 (by decide) cf223_ok) <|
    all_cons (good rfl Tryz.func224 (by decide) cf224_ok) <|
    all_cons (good rfl Tryz.func225 (by decide) cf225_ok) <|
    all_cons (good rfl Tryz.func226 (by decide) cf226_ok) <|
    all_cons (good rfl Tryz.func227 (by decide) cf227_ok) <|
    all_cons (good rfl Tryz.func228 (by decide) cf228_ok) <|
    all_cons (good rfl Tryz.func230 (by decide) cf230_ok) <|
    all_cons (good rfl Tryz.func231 (by decide) cf231_ok) <|
    all_cons (good rfl Tryz.func232 (by decide) cf232_ok) <|
    all_cons (good rfl Tryz.func233 (by decide) cf233_ok) <|
    all_cons (good rfl Tryz.func234 (by decide) cf234_ok) <|
    all_cons (good rfl Tryz.func235 (by decide) cf235_ok) <|
    all_cons (good rfl Tryz.func236 (by decide) cf236_ok) <|
    all_cons (good rfl Tryz.func237 (by decide) cf237_ok) <|
    all_cons (good rfl Tryz.func238 (by decide) cf238_ok) <|
    all_cons (good rfl Tryz.func239 (by decide) cf239_ok) <|
    all_cons (good rfl Tryz.func240 (by decide) cf240_ok) <|
    all_cons (good rfl Tryz.func241 (by decide) cf241_ok) <|
    all_cons (good rfl Tryz.func242 (by decide) cf242_ok) <|
    all_cons (good rfl Tryz.func243 (by decide) cf243_ok) <|
    all_cons (good rfl Tryz.func244 (by decide) cf244_ok) <|
    all_cons (good rfl Tryz.func245 (by decide) cf245_ok) <|
    all_cons (good rfl Tryz.func246 (by decide) cf246_ok) <|
    all_cons (good rfl Tryz.func247 (by decide) cf247_ok) <|
    all_cons (good rfl Tryz.func248 (by decide) cf248_ok) <|
    all_cons (good rfl Tryz.func249 (by decide) cf249_ok) <|
    all_cons (good rfl Tryz.func250 (by decide) cf250_ok) <|
    all_cons (good rfl Tryz.func251 (by decide) cf251_ok) <|
    all_cons (good rfl Tryz.func258 (by decide) cf258_ok) <|
    all_cons (good rfl Tryz.func259 (by decide) cf259_ok) <|
    all_cons (good rfl Tryz.func261 (by decide) cf261_ok) <|
    all_cons (good rfl Tryz.func268 (by decide) cf268_ok) <|
    all_cons (good rfl Tryz.func269 (by decide) cf269_ok) <|
    all_cons (good rfl Tryz.func270 (by decide) cf270_ok) <|
    all_cons (good rfl Tryz.func272 (by decide) cf272_ok) <|
    all_cons (good rfl Tryz.func273 (by decide) cf273_ok) <|
    all_cons (good rfl Tryz.func276 (by decide) cf276_ok) <|
    all_cons (good rfl Tryz.func278 (by decide) cf278_ok) <|
    all_cons (good rfl Tryz.func280 (by decide) cf280_ok) <|
    all_cons (good rfl Tryz.func287 (by decide) cf287_ok) <|
    all_cons (good rfl Tryz.func293 (by decide) cf293_ok) <|
    all_cons (good rfl Tryz.func294 (by decide) cf294_ok) <|
    all_cons (good rfl Tryz.func296 (by decide) cf296_ok) <|
    all_cons (good rfl Tryz.func297 (by decide) cf297_ok) <|
    all_cons (good rfl Tryz.func298 (by decide) cf298_ok) <|
    all_cons (good rfl Tryz.func299 (by decide) cf299_ok) <|
    all_cons (good rfl Tryz.func300 (by decide) cf300_ok) <|
    all_cons (good rfl Tryz.func301 (by decide) cf301_ok) <|
    all_cons (good rfl Tryz.func302 (by decide) cf302_ok) <|
    all_cons (good rfl Tryz.func303 (by decide) cf303_ok) <|
    all_cons (good rfl Tryz.func304 (by decide) cf304_ok) <|
    all_cons (good rfl Tryz.func306 (by decide) cf306_ok) <|
    all_cons (good rfl Tryz.func307 (by decide) cf307_ok) <|
    all_cons (good rfl Tryz.func308 (by decide) cf308_ok) <|
    all_cons (good rfl Tryz.func311 (by decide) cf311_ok) <|
    all_cons (good rfl Tryz.func312 (by decide) cf312_ok) <|
    all_cons (good rfl Tryz.func314 (by decide) cf314_ok) <|
    all_cons (good rfl Tryz.func326 (by decide) cf326_ok) <|
    all_cons (good rfl Tryz.func331 (by decide) cf331_ok) <|
    all_cons (good rfl Tryz.func369 (by decide) cf369_ok) <|
    all_cons (good rfl Tryz.func377 (by decide) cf377_ok) <|
    all_cons (good rfl Tryz.func383 (by decide) cf383_ok) <|
    all_cons (good rfl Tryz.func387 (by decide) cf387_ok) <|
    all_cons (good rfl Tryz.func390 (by decide) cf390_ok) <|
    all_cons (good rfl Tryz.func391 (by decide) cf391_ok) <|
    all_cons (good rfl Tryz.func392 (by decide) cf392_ok) <|
    all_cons (good rfl Tryz.func394 (by decide) cf394_ok) <| all_nil
theorem tabC_ok : TabOk Tryz.prog TP (fun f => tabC.get f) := by
  intro f cf e
  obtain ⟨_, fn, h1, h2, h3⟩ := tabL_good _ (trP_get (fun q hq => (tabL_good q hq).1) e)
  exact ⟨fn, h1, beq_eq_false_iff_ne.1 h2, h3⟩
abbrev Prim := List V → H → Option (V × H)
def PrimsOk (l : List (Nat × Prim)) : Prop := ∀ p ∈ l, p.1 < keys ∧ PrimOf p.1 p.2
noncomputable def callS (l : List (Nat × Prim)) (n : Nat) : CallT := callK (fun f => (trP l).get f) tabF n
theorem callS_ok {l : List (Nat × Prim)} (h : PrimsOk l) (n : Nat) : CallOk Tryz.prog TP (callS l n) := by
  have : callS l n = callN (fun f => (trP l).get f) (fun f => tabC.get f) n := callK_eq _ _ n
  rw [this]
  exact callN_ok tyOk mixed (fun f p e => (h _ (trP_get (fun q hq => (h q hq).1) e)).2) tabC_ok n
theorem PrimsOk.nil : PrimsOk [] := fun _ h => by cases h
theorem PrimsOk.cons {f : Nat} {p : Prim} {l : List (Nat × Prim)} (h0 : Nat.blt f 1000 = true) (h : PrimOf f p) (k : PrimsOk l) : PrimsOk ((f, p) :: l) := fun q hq => by
  cases hq with
  | head => exact ⟨Nat.lt_of_lt_of_le (by simpa using h0) (by decide : (1000 : Nat) ≤ keys), h⟩
  | tail _ hq => exact k q hq
noncomputable def H0 : H := ⟨Tr.put (Tr.put .e 0 (some (.ro (lenL tbl) (trOf tbl 0 .e)))) 1 (some (.ro (lenL tbS) (trOf tbS 0 .e))), 2⟩
theorem tbl_flat : tbl.all flat = true := by kernel_rfl
theorem tbS_flat : tbS.all flat = true := by kernel_rfl
theorem tbl_len : lenL tbl = 123 := by kernel_rfl
theorem tbS_len : lenL tbS = 256 := by kernel_rfl
end Ev
end Go.Proofs.YtogbcielgfidlaaGreatDoor
namespace Go.Proofs.YtogbcielgfidlaaGreatDoor
set_option linter.unusedVariables false
set_option linter.unusedSimpArgs false
namespace Ev
variable [Opq]
set_option linter.unusedSectionVars false
theorem primOf_run {f : FuncId} {p : Prim} {l : List (Nat × Prim)} {n : Nat} (hp : PrimsOk l) (e : ∀ vs h r, p vs h = some r → callS l n (.fn f) vs h = some r) : PrimOf f p := fun vs h v h' k => (callS_ok hp n).fn f vs h v h' (e vs h (v, h') k)
section
variable {call : CallT} {rd : Bool} {n : Nat} {a b : CCode} {f f1 : F} {h h1 : H} {r : Res} {ops l : List COper} {o : COper} {d : Dst} {op : COp} {args : List Opd} {gd : Option (Opd × Bool)} {lo hi : Nat} {vs : List V} {v : V}
theorem ex_seq (e1 : exec call rd n a f h = some (.norm, f1, h1)) (e2 : exec call rd n b f1 h1 = r) : exec call rd n (.seq a b) f h = r := by
  show thenN (exec call rd n a f h) (exec call rd n b) = r
  rw [e1]
  exact e2
theorem ex_seqR (e1 : exec call rd n a f h = some (.ret, f1, h1)) : exec call rd n (.seq a b) f h = some (.ret, f1, h1) := by
  show thenN (exec call rd n a f h) (exec call rd n b) = _
  rw [e1]
  rfl
theorem ex_reg (e : runOps call ops f h = some (f1, h1)) : exec call rd n (.reg ops) f h = some (.norm, clr f1, h1) := by
  show ob (runOps call ops f h) _ = _
  rw [e]
  rfl
theorem ex_condT {x : Opd} (e : x.ev f = some (.bool true)) (k : exec call rd n a f h = r) : exec call rd n (.cond x a b) f h = r := by
  show ob (x.ev f) _ = r
  rw [e]
  exact k
theorem ex_condF {x : Opd} (e : x.ev f = some (.bool false)) (k : exec call rd n b f h = r) : exec call rd n (.cond x a b) f h = r := by
  show ob (x.ev f) _ = r
  rw [e]
  exact k
theorem op_cons {r : Option (F × H)} (e : o.run call f h = some (f1, h1)) (k : runOps call l f1 h1 = r) : runOps call (o :: l) f h = r := by
  show ob (o.run call f h) _ = r
  rw [e]
  exact k
theorem op_run (g : guardOk f gd = some true) (a : evs f args = some vs) (e : op.run call vs h = some (v, h1)) : COper.run call ⟨d, op, args, gd, lo, hi⟩ f h = some (d.put f v, h1) := by
  show ob (guardOk f gd) _ = _
  rw [g]
  show ob (evs f args) _ = _
  rw [a]
  show ob (op.run call vs h) _ = _
  rw [e]
  rfl
theorem op_skip (g : guardOk f gd = some false) : COper.run call ⟨d, op, args, gd, lo, hi⟩ f h = some (d.put f undefV, h) := by
  show ob (guardOk f gd) _ = _
  rw [g]
  rfl
theorem ld_ok {id off : Nat} {x : V} (e : h.rd id off 1 = some [x]) : (COp.r (.load false 1)).run call [.ptr id off] h = some (x, h) := by
  show ob (ob (h.rd id off 1) fun l => nthL l 0) _ = _
  rw [e]
  rfl
theorem en_ret {cf : CF} (e0 : Nat.beq (lenL vs) cf.params = true) (e : exec call false n cf.code ⟨numbered vs 0, []⟩ h = some (.ret, f1, h1)) {w : List V} (k : resOf f1 h1 cf.results = some w) : enter call n cf vs h = some (oneOrTup w, h1) := by
  unfold enter
  rw [e0]
  show ob (exec call false n cf.code ⟨numbered vs 0, []⟩ h) _ = _
  rw [e]
  show ob (resOf f1 h1 cf.results) _ = _
  rw [k]
  rfl
end
theorem callS_tab {l : List (Nat × Prim)} {f : FuncId} {cf : CF} {n : Nat} {vs : List V} {h : H} {r : Option (V × H)} (e : (trP l).get f = none) (t : tabC.get f = some cf) (k : enter (callS l n) 1000000 cf vs h = r) : callS l (n + 1) (.fn f) vs h = r := by
  have q : ∀ n, callS l n = callN (fun f => (trP l).get f) (fun f => tabC.get f) n := fun n => callK_eq _ _ n
  rw [q] at k ⊢
  show (Option.rec (motive := fun _ => Option (V × H)) (ob (tabC.get f) fun cf => enter (callN (fun f => (trP l).get f) (fun f => tabC.get f) n) 1000000 cf vs h) _ ((trP l).get f) : Option (V × H)) = _
  rw [e]
  show ob (tabC.get f) _ = _
  rw [t]
  exact k
theorem callS_prim {l : List (Nat × Prim)} {f : FuncId} {p : Prim} {n : Nat} {vs : List V} {h : H} {r : V × H} (e : (trP l).get f = some p) (k : p vs h = some r) : callS l (n + 1) (.fn f) vs h = some r := by
  have q : ∀ n, callS l n = callN (fun f => (trP l).get f) (fun f => tabC.get f) n := fun n => callK_eq _ _ n
  rw [q]
  show (Option.rec (motive := fun _ => Option (V × H)) _ (fun g => Option.rec (motive := fun _ => Option (V × H)) (ob (tabC.get f) fun cf => enter (callN (fun f => (trP l).get f) (fun f => tabC.get f) n) 1000000 cf vs h) some (g vs h)) ((trP l).get f) : Option (V × H)) = _
  rw [e]
  show (Option.rec (motive := fun _ => Option (V × H)) _ some (p vs h) : Option (V × H)) = _
  rw [k]
/-- A block of the world that holds these values. -/
def PinAt (w : World) (b : Nat) (l : List V) : Prop := ∃ (c : Array Value) (t : TypeId) (xs : List Value), w.heap[b]? = some (.cells c t (0, 0)) ∧ VRs nog l xs ∧ (∀ (j : Nat) (u : Value), xs[j]? = some u → c[j]? = some u) ∧ xs.length ≤ c.size
theorem vrs_of {g : G} {c : Array Value} : ∀ {l : List V} {o : Nat}, l.all flat = true → (∀ j v, l[j]? = some v → ∃ u, c[o + j]? = some u ∧ VR g v u) → ∃ xs, VRs nog l xs ∧ xs.length = l.length ∧ ∀ j u, xs[j]? = some u → c[o + j]? = some u
  | [], o, _, _ => ⟨[], .nil, rfl, fun j u e => by simp at e⟩
  | v :: l, o, hf, h => by
    rw [List.all_cons, Bool.and_eq_true] at hf
    obtain ⟨u, h1, h2⟩ := h 0 v rfl
    obtain ⟨xs, k1, k2, k3⟩ := vrs_of (o := o + 1) (l := l) hf.2 fun j v e => by
      obtain ⟨u, q1, q2⟩ := h (j + 1) v (by simpa using e)
      exact ⟨u, by rw [show o + 1 + j = o + (j + 1) by omega]; exact q1, q2⟩
    refine ⟨u :: xs, .cons (flat_vr hf.1 h2) k1, by simp [k2], fun j x e => ?_⟩
    cases j with
    | zero => cases e; exact h1
    | succ j =>
      rw [show o + (j + 1) = o + 1 + j by omega]
      exact k3 j x (by simpa using e)
theorem pinAt_of {g : G} {h : H} {w : World} {id b n : Nat} {l : List V} (r : WR TP g h w) (hG : Glob TP g h) (hp : (id, b, n, trOf l 0 .e) ∈ TP.pin) (h8 : id < 8) (hn : l.length = n) (_hs : n ≤ 1000) (hf : l.all flat = true) : PinAt w b l := by
  obtain ⟨⟨z, hz⟩, hb⟩ := hG.at0 hp h8
  have hz : g id = some (b, 0, z) := hz
  have hb : h.blk id = some (.ro n (trOf l 0 .e)) := hb
  obtain ⟨b', o', z', c, t, k1, k2, k3, k4, k5, k6⟩ := r.blk id _ _ hz hb
  rw [hz] at k1
  cases k1
  have big : (1000 : Nat) ≤ keys := by decide
  obtain ⟨xs, q1, q2, q3⟩ := vrs_of (g := g) (c := c) (o := 0) hf fun j v e => by
    have hj : j < l.length := (List.getElem?_eq_some_iff.1 e).1
    obtain ⟨u, m1, m2, _⟩ := k6 j v (by omega) (by rw [trOf_get l 0 .e j (by omega), if_pos (by omega)]; simpa using e)
    exact ⟨u, m1, m2⟩
  exact ⟨c, t, xs, k2, q1, fun j u e => by have := q3 j u e; rwa [Nat.zero_add] at this, by omega⟩
theorem H0_eq : H0 = ⟨Tr.put (⟨Tr.put Tr.e 0 (some (.ro (lenL tbl) (trOf tbl 0 .e))), Nat.succ 0⟩ : H).t 1 (some (.ro (lenL tbS) (trOf tbS 0 .e))), Nat.succ 1⟩ := rfl
theorem two0 (x y : Option Blk) : (Tr.put (Tr.put Tr.e 0 x) 1 y).get 0 = x := by rw [Tr.get_put _ _ _ _ (by decide), if_neg (by decide), Tr.get_put _ _ _ _ (by decide), if_pos rfl]
theorem two1 (x y : Option Blk) : (Tr.put (Tr.put Tr.e 0 x) 1 y).get 1 = y := by rw [Tr.get_put _ _ _ _ (by decide), if_pos rfl]
theorem H0_0 : H0.blk 0 = some (.ro 123 (trOf tbl 0 .e)) := by
  have e := two0 (some (.ro (lenL tbl) (trOf tbl 0 .e))) (some (.ro (lenL tbS) (trOf tbS 0 .e)))
  rw [tbl_len] at e
  exact e
theorem H0_1 : H0.blk 1 = some (.ro 256 (trOf tbS 0 .e)) := by
  have e := two1 (some (.ro (lenL tbl) (trOf tbl 0 .e))) (some (.ro (lenL tbS) (trOf tbS 0 .e)))
  rw [tbS_len] at e
  exact e
theorem base_w {w : World} (a : PinAt w 0 tbl) (b : PinAt w 1 tbS) : Base TP H0 w := by
  obtain ⟨c, t, xs, a1, a2, a3, a4⟩ := a
  obtain ⟨c', t', ys, b1, b2, b3, b4⟩ := b
  have lx : xs.length = 123 := by rw [← a2.length, ← lenL_eq, tbl_len]
  have ly : ys.length = 256 := by rw [← b2.length, ← lenL_eq, tbS_len]
  have big : (1000 : Nat) ≤ keys := by decide
  obtain ⟨r, al, _⟩ := (WR.empty TP w).overRo AllRo.empty (by decide) (o := 0) (z := c.size) a1 (by omega) a2 (fun j u hu => by rw [Nat.zero_add]; exact a3 j u hu) a4 (by omega) (fun v hx => flat_one (List.all_eq_true.1 tbl_flat v hx))
  obtain ⟨r', al', le⟩ := r.overRo al (by decide) (o := 0) (z := c'.size) b1 (by omega) (b2.mono (fun _ _ e => by cases e)) (fun j u hu => by rw [Nat.zero_add]; exact b3 j u hu) b4 (by omega) (fun v hx => flat_one (List.all_eq_true.1 tbS_flat v hx))
  obtain ⟨tr, ts, e1, e2, hpin⟩ : ∃ tr ts, tr = trOf tbl 0 .e ∧ ts = trOf tbS 0 .e ∧ TP.pin = [(0, 0, 123, tr), (1, 1, 256, ts)] := ⟨_, _, rfl, rfl, rfl⟩
  have h0 := H0_0
  have h1 := H0_1
  rw [← e1] at h0
  rw [← e2] at h1
  refine ⟨_, H0_eq ▸ r', H0_eq ▸ al', fun p hp => ?_⟩
  rw [hpin] at hp
  cases hp with
  | head => exact ⟨⟨0, _, le _ _ (gput_same _ _ _), fun _ => rfl, fun h => absurd h (by decide : ¬ 8 ≤ 0)⟩, h0⟩
  | tail _ hp =>
    obtain rfl := List.mem_singleton.1 hp
    exact ⟨⟨0, _, gput_same _ _ _, fun _ => rfl, fun h => absurd h (by decide : ¬ 8 ≤ 1)⟩, h1⟩
theorem base0 : ∀ g h w, WR TP g h w → Glob TP g h → Base TP H0 w := fun _ _ _ r hG =>
  base_w (pinAt_of r hG (id := 0) (n := 123) List.mem_cons_self (by decide) (by rw [← lenL_eq, tbl_len]) (by decide) tbl_flat) (pinAt_of r hG (id := 1) (n := 256) (List.mem_cons_of_mem _ List.mem_cons_self) (by decide) (by rw [← lenL_eq, tbS_len]) (by decide) tbS_flat)
theorem Rows.primOf {f : FuncId} {t : List (List V × D)} (k : Rows Tryz.prog TP f t) : PrimOf f (treeP t) := fun _ _ _ _ e _ _ _ r hG hv => k.prim e r hG hv
end Ev
end Go.Proofs.YtogbcielgfidlaaGreatDoor
namespace Go.Proofs.YtogbcielgfidlaaGreatDoor
set_option linter.unusedVariables false
set_option linter.unusedSimpArgs false
namespace Ev
variable [Opq]
set_option linter.unusedSectionVars false
/-- The same block, or less of it. -/
def BlkLe (b' b : Blk) : Prop :=
  (∃ n cs' cs ch, b' = .cells n cs' none ch ∧ b = .cells n cs none ch ∧ ∀ j v, j < n → cs'.get j = some v → cs.get j = some v) ∨ (b' = b ∧ b.kin = none)
/-- A memory with fewer blocks. -/
structure Sub (hL h : H) : Prop where
  next : hL.next = h.next
  blk : ∀ id b', hL.blk id = some b' → ∃ b, h.blk id = some b ∧ BlkLe b' b
theorem BlkLe.up {b' b : Blk} (k : BlkLe b' b) : (∀ y ch, ¬ b.kin = some (some y, ch)) ∧ (∀ y ch, ¬ b'.kin = some (some y, ch)) ∧ b'.live = b.live ∧ b'.isRo = b.isRo := by
  rcases k with ⟨n, cs', cs, ch, rfl, rfl, _⟩ | ⟨rfl, k⟩
  · exact ⟨fun _ _ e => (by cases e), fun _ _ e => (by cases e), rfl, rfl⟩
  · exact ⟨fun _ _ e => (by rw [k] at e; cases e), fun _ _ e => (by rw [k] at e; cases e), rfl, rfl⟩
theorem Up.first0 {h : H} {i j d : Nat} (u : Up h i j d) : ∃ b y ch, h.blk i = some b ∧ b.kin = some (some y, ch) := by
  cases u with
  | one e k => exact ⟨_, _, _, e, k⟩
  | step e k _ => exact ⟨_, _, _, e, k⟩
theorem WR.drop {g : G} {h hL : H} {w : World} (r : WR TP g h w) (s : Sub hL h) : WR TP g hL w := by
  refine ⟨by rw [s.next]; exact r.bound, fun id b e => ?_, fun id x e => by rw [s.next]; exact r.dom id x e, r.lt, fun id x b' e1 e2 => ?_, fun i j b o z o' z' bi bj hij e1 e2 e3 e4 l1 l2 => ?_, fun i b j d ch e1 e2 => ?_, fun i b j d ch b' e1 e2 => ?_⟩
  · obtain ⟨k, e1, _⟩ := s.blk id b e
    rw [s.next]
    exact r.top id k e1
  · obtain ⟨b, k1, k2⟩ := s.blk id b' e2
    have := r.blk id x b e1 k1
    rcases k2 with ⟨n, cs', cs, ch, rfl, rfl, k⟩ | ⟨rfl, _⟩
    · obtain ⟨b, o, z, c, t, q1, q2, q3, q4, q5, q6⟩ := this
      exact ⟨b, o, z, c, t, q1, q2, q3, q4, q5, fun j v hj hv => q6 j v hj (k j v hj hv)⟩
    · exact this
  · obtain ⟨ki, a1, a2⟩ := s.blk i bi e3
    obtain ⟨kj, b1, b2⟩ := s.blk j bj e4
    obtain ⟨u1, _, u2, u3⟩ := a2.up
    obtain ⟨v1, _, v2, v3⟩ := b2.up
    rcases r.mates i j b o z o' z' ki kj hij e1 e2 a1 b1 (u2 ▸ l1) (v2 ▸ l2) with ⟨d, u, _⟩ | ⟨d, u, _⟩ | k
    · obtain ⟨q, y, ch, m1, m2⟩ := u.first0
      rw [a1] at m1
      cases m1
      exact absurd m2 (u1 _ _)
    · obtain ⟨q, y, ch, m1, m2⟩ := u.first0
      rw [b1] at m1
      cases m1
      exact absurd m2 (v1 _ _)
    · exact .inr (.inr ⟨u3.trans k.1, v3.trans k.2⟩)
  · obtain ⟨k, _, a2⟩ := s.blk i b e1
    exact absurd e2 (a2.up.2.1 _ _)
  · obtain ⟨k, _, a2⟩ := s.blk i b e1
    exact absurd e2 (a2.up.2.1 _ _)
/-- What holds all along: the world of the beginning stays. -/
structure Seg (w0 : World) (g : G) (h : H) (w : World) : Prop where
  wr : WR TP g h w
  glob : Glob TP g h
  still : Still w0 w
  own : ∀ id b o z, g id = some (b, o, z) → b < w0.heap.size → ∃ i o' z' n cs, (i = 0 ∨ i = 1) ∧ g i = some (b, o', z') ∧ h.blk i = some (.ro n cs)
theorem Seg.step {w0 : World} {g g' : G} {h h' : H} {w w' : World} (a : Seg w0 g h w) (x : Ext TP g h w g' h' w') : Seg w0 g' h' w' := by
  refine ⟨x.wr, a.glob.ext x, ⟨Nat.le_trans a.still.size x.size, fun b hb => ?_, x.os.trans a.still.os, x.tape.trans a.still.tape, x.output.trans a.still.output⟩, fun id b o z e hb => ?_⟩
  · refine Eq.trans ?_ (a.still.keep b hb)
    by_cases hc : ∃ id o z, g id = some (b, o, z)
    · obtain ⟨id, o, z, hg⟩ := hc
      obtain ⟨i, o', z', n, cs, _, k1, k2⟩ := a.own id b o z hg hb
      exact (x.ro i b o' z' n cs k1 k2).2
    · exact x.keep b (Nat.lt_of_lt_of_le hb a.still.size) fun id o z hg => hc ⟨id, o, z, hg⟩
  · have lift : (∃ i o z, g i = some (b, o, z)) → ∃ i o' z' n cs, (i = 0 ∨ i = 1) ∧ g' i = some (b, o', z') ∧ h'.blk i = some (.ro n cs) := by
      rintro ⟨i, o, z, hg⟩
      obtain ⟨i, o', z', n, cs, k0, k1, k2⟩ := a.own i b o z hg hb
      exact ⟨i, o', z', n, cs, k0, x.le _ _ k1, (x.ro i b o' z' n cs k1 k2).1⟩
    cases hg : g id with
    | some y =>
      rw [x.le _ _ hg] at e
      cases e
      exact lift ⟨id, o, z, hg⟩
    | none =>
      rcases x.fresh id b o z e hg with k | ⟨i, o', z', k⟩
      · exact absurd (Nat.lt_of_lt_of_le hb (Nat.le_trans a.still.size k)) (Nat.lt_irrefl _)
      · exact lift ⟨i, o', z', k⟩
theorem Seg.drop {w0 : World} {g : G} {h hL : H} {w : World} (a : Seg w0 g h w) (s : Sub hL h) (k0 : hL.blk 0 = H0.blk 0) (k1 : hL.blk 1 = H0.blk 1) : Seg w0 g hL w := by
  obtain ⟨tr, ts, e1, e2, hpin⟩ : ∃ tr ts, tr = trOf tbl 0 .e ∧ ts = trOf tbS 0 .e ∧ TP.pin = [(0, 0, 123, tr), (1, 1, 256, ts)] := ⟨_, _, rfl, rfl, rfl⟩
  have h0 := k0.trans H0_0
  have h1 := k1.trans H0_1
  rw [← e1] at h0
  rw [← e2] at h1
  refine ⟨a.wr.drop s, fun p hp => ?_, a.still, fun id b o z e hb => ?_⟩
  · refine ⟨(a.glob p hp).1, ?_⟩
    rw [hpin] at hp
    cases hp with
    | head => exact h0
    | tail _ hp =>
      obtain rfl := List.mem_singleton.1 hp
      exact h1
  · obtain ⟨i, o', z', n, cs, q0, q1, q2⟩ := a.own id b o z e hb
    rcases q0 with rfl | rfl
    · exact ⟨0, o', z', _, _, .inl rfl, q1, k0.trans H0_0⟩
    · exact ⟨1, o', z', _, _, .inr rfl, q1, k1.trans H0_1⟩
end Ev
end Go.Proofs.YtogbcielgfidlaaGreatDoor
namespace Go.Proofs.YtogbcielgfidlaaGreatDoor
set_option linter.unusedVariables false
set_option linter.unusedSimpArgs false
namespace Ev
variable [Opq]
set_option linter.unusedSectionVars false
noncomputable section
def lft (c : CCode) : CCode := match c with
  | .seq a _ => a
  | c => c
def rgt (c : CCode) : CCode := match c with
  | .seq _ b => b
  | c => c
def isSeq (c : CCode) : Bool := match c with
  | .seq _ _ => true
  | _ => false
def rest (k : Nat) (c : CCode) : CCode := Nat.rec (motive := fun _ => CCode) c (fun _ ih => rgt ih) k
/-- The first statements, so many. -/
def pre (call : CallT) (n k : Nat) : CCode → F → H → Option (F × H) :=
  Nat.rec (motive := fun _ => CCode → F → H → Option (F × H)) (fun _ f h => some (f, h))
    (fun _ ih c f h => oif (isSeq c) (ob (exec call false n (lft c) f h) fun r => X.rec (motive := fun _ => Option (F × H)) (ih (rgt c) r.2.1 r.2.2) (fun _ => none) none r.1)) k
end
theorem isSeq_eq {c : CCode} (h : isSeq c = true) : c = .seq (lft c) (rgt c) := by cases c <;> first | rfl | cases h
theorem rest_rgt (c : CCode) : ∀ k, rest k (rgt c) = rest (k + 1) c
  | 0 => rfl
  | k + 1 => congrArg rgt (rest_rgt c k)
theorem comp_seq_of {m N : Nat} {code : Code} {a b : CCode} (e : comp TP m N code = some (.seq a b)) : ∃ x y, code = .seq x y ∧ comp TP m N x = some a ∧ comp TP m N y = some b := by
  have bad : ∀ {o : Option CCode}, (∀ c, o = some c → isSeq c = false) → orBad o = some (.seq a b) → False := by
    intro o ho e
    cases o with
    | none => cases e
    | some c =>
      have e : some c = some (CCode.seq a b) := e
      cases e
      have := ho _ rfl
      cases this
  cases code with
  | seq x y =>
    rw [comp_seq] at e
    obtain ⟨p, h1, e⟩ := ob_some.1 e
    obtain ⟨q, h2, e⟩ := ob_some.1 e
    cases e
    exact ⟨x, y, rfl, h1, h2⟩
  | region id ops d =>
    cases d with
    | false =>
      rw [comp_reg] at e
      refine (bad (fun c h => ?_) e).elim
      obtain ⟨l, _, h⟩ := ob_some.1 h
      cases h
      rfl
    | true =>
      rw [comp_regD] at e
      refine (bad (fun c h => ?_) e).elim
      obtain ⟨l, _, h⟩ := ob_some.1 h
      obtain ⟨l, _, h⟩ := ob_some.1 h
      cases h
      rfl
  | cond o x y =>
    rw [comp_cond] at e
    obtain ⟨_, _, e⟩ := ob_some.1 e
    obtain ⟨_, _, e⟩ := ob_some.1 e
    obtain ⟨_, _, e⟩ := ob_some.1 e
    cases e
  | block id c =>
    rw [comp_block] at e
    obtain ⟨_, _, e⟩ := ob_some.1 e
    cases e
  | loop c =>
    rw [comp_loop] at e
    obtain ⟨_, _, e⟩ := ob_some.1 e
    cases e
  | rangeFunc f ps x y =>
    rw [comp_range] at e
    obtain ⟨_, _, e⟩ := ob_some.1 e
    obtain ⟨_, _, e⟩ := ob_some.1 e
    obtain ⟨_, _, e⟩ := ob_some.1 e
    obtain ⟨_, _, e⟩ := ob_some.1 e
    cases e
  | scope c =>
    rw [comp_scope] at e
    obtain ⟨_, _, e⟩ := ob_some.1 e
    cases e
  | _ => rw [comp] at e <;> cases e
section
variable {call : CallT} {m N n : Nat} {w0 : World} {Q : Exit → Act → World → Prop}
/-- Where a part stands. -/
structure At (m N : Nat) (w0 : World) (f : F) (h : H) (g : G) (act : Act) (w : World) : Prop where
  seg : Seg w0 g h w
  fr : FR g m N f act.tmps
  marks : Marks [] g w w0.heap.size act.defers
theorem pre_ok (hk : CallOk Tryz.prog TP call) : ∀ (k : Nat) {code : Code} {c : CCode} {f f' : F} {h h' : H} {g : G} {act : Act} {w : World}, comp TP m N code = some c → pre call n k c f h = some (f', h') → At m N w0 f h g act w →
    (∀ code' g' a' w', comp TP m N code' = some (rest k c) → At m N w0 f' h' g' a' w' → code'.wpIn (fen none) 0 Tryz.prog Q a' w') → code.wpIn (fen none) 0 Tryz.prog Q act w
  | 0, code, c, f, f', h, h', g, act, w, hc, e, a, k => by
    cases e
    exact k code g act w hc a
  | i + 1, code, c, f, f', h, h', g, act, w, hc, e, a, k => by
    obtain ⟨e1, e⟩ := oif_some.1 (show oif (isSeq c) _ = some (f', h') from e)
    obtain ⟨r, e2, e⟩ := ob_some.1 e
    obtain ⟨x, f1, h1⟩ := r
    cases x with
    | exit _ => cases e
    | ret => cases e
    | norm =>
      have e : pre call n i (rgt c) f1 h1 = some (f', h') := e
      have hc' := hc
      rw [isSeq_eq e1] at hc'
      obtain ⟨x, y, rfl, hx, hy⟩ := comp_seq_of hc'
      refine wpIn_seq (wpIn_mono (exec_ok (D := []) tyOk hk mixed n none x _ hx f h .norm f1 h1 e2 g act w w0.heap.size a.seg.wr a.seg.glob a.fr (fun _ => a.marks) a.seg.still.size) ?_)
      rintro ex a' w' ⟨g', y1, y2, y3, y4⟩
      obtain rfl := y4.norm_inv
      refine pre_ok hk i hy e ⟨a.seg.step y1, y2, y3 rfl⟩ fun code' g'' a'' w'' q1 q2 => k code' g'' a'' w'' ?_ q2
      rw [← rest_rgt]
      exact q1
end
end Ev
end Go.Proofs.YtogbcielgfidlaaGreatDoor
namespace Go.Proofs.YtogbcielgfidlaaGreatDoor
set_option linter.unusedVariables false
set_option linter.unusedSimpArgs false
namespace Ev
variable [Opq]
set_option linter.unusedSectionVars false
theorem Seg.put {w0 : World} {g : G} {h : H} {w : World} (a : Seg w0 g h w) {r : Nat} (o : Obj) (h1 : w0.heap.size ≤ r) (h2 : ∀ id o z, g id ≠ some (r, o, z)) : Seg w0 g h (w.putObj r o) := by
  have hne : ∀ {id b o z}, g id = some (b, o, z) → b ≠ r := fun hg e => h2 _ _ _ (e ▸ hg)
  refine ⟨⟨a.wr.bound, a.wr.top, a.wr.dom, fun id b o' z e => by rw [World.putObj_size]; exact a.wr.lt _ _ _ _ e, fun id y b e1 e2 => ?_, a.wr.mates, a.wr.kids, a.wr.ext⟩, a.glob, ⟨by rw [World.putObj_size]; exact a.still.size, fun b hb => ?_, a.still.os, a.still.tape, a.still.output⟩, a.own⟩
  · obtain ⟨b', o', z⟩ := y
    exact BR.move e1 (World.putObj_heap_other (hne e1)) (a.wr.blk _ _ _ e1 e2)
  · rw [World.putObj_heap_other (by omega)]
    exact a.still.keep b hb
section
variable {w0 : World} {g : G} {h : H} {fn : Func} {tmps : Array Value}
theorem leaves_seg (hres : ∀ w, WR TP g h w → ∃ u, VR g (.bool true) u ∧ (results fn tmps).run Tryz.prog w = .ok u w) : ∀ {rs : List Nat} {w : World}, rs.Nodup → (∀ r ∈ rs, w0.heap.size ≤ r ∧ r < w.heap.size ∧ (∀ id o z, g id ≠ some (r, o, z)) ∧ w.heap[r]? = some (.deferred (some []))) →
    Seg w0 g h w → LeavesInM Fence.wide 0 Tryz.prog fn tmps (fun e w' => e = .returned (.bool true) ∧ Still w0 w') (rs.map markOf) .returning w
  | [], w, _, _, x => by
    obtain ⟨u, h1, h2⟩ := hres w x.wr
    cases h1
    exact ⟨_, h2, rfl, x.still⟩
  | r :: rs, w, hn, hm, x => by
    rw [List.nodup_cons] at hn
    obtain ⟨k1, k2, k3, k4⟩ := hm r List.mem_cons_self
    refine ⟨(fun e => by cases e), .inl ⟨r, _, rfl, run_takeDeferred k4, leaves_seg hres hn.2 (fun s hs => ?_) (x.put _ k1 k3)⟩⟩
    obtain ⟨q1, q2, q3, q4⟩ := hm s (List.mem_cons_of_mem _ hs)
    have hne : s ≠ r := fun e => hn.1 (e ▸ hs)
    exact ⟨q1, by rw [World.putObj_size]; exact q2, q3, by rw [World.putObj_heap_other hne]; exact q4⟩
end
section
variable {call : CallT} {m N n : Nat} {w0 : World} {fn : Func} {rs : List CRes}
theorem last_ok (hk : CallOk Tryz.prog TP call) (hrs : mapO (resC TP m) fn.results.toList = some rs) {code : Code} {c : CCode} {f f' : F} {h h' : H} {g : G} {act : Act} {w : World} (hc : comp TP m N code = some c) (e : exec call false n c f h = some (.ret, f', h'))
    (er : resOf f' h' rs = some [.bool true]) (a : At m N w0 f h g act w) : code.wpIn Fence.wide 0 Tryz.prog (bodyPostM Fence.wide 0 Tryz.prog fn fun e w' => e = .returned (.bool true) ∧ Still w0 w') act w := by
  refine wpIn_mono (exec_ok (D := []) tyOk hk mixed n none code _ hc f h .ret f' h' e g act w w0.heap.size a.seg.wr a.seg.glob a.fr (fun _ => a.marks) a.seg.still.size) ?_
  rintro ex a' w' ⟨g', y1, y2, y3, y4⟩
  cases ex <;> first | (cases y4; done) | skip
  obtain ⟨ms, p1, p2, p3⟩ := y3 rfl
  show LeavesInM Fence.wide 0 Tryz.prog fn a'.tmps _ a'.defers .returning w'
  rw [p1, List.append_nil]
  exact leaves_seg (fun w2 hw2 => results_ok tyOk y2 hw2 hrs er) p2 p3 (a.seg.step y1)
end
noncomputable section
/-- Are these the same, of one cell and without memory of their own? -/
def eqV0 (x y : V) : Bool :=
  match x, y with
  | .bool a, .bool b => beqB a b
  | .int k a, .int j b => eqK k j && eqI a b
  | .str n a, .str m b => Nat.beq n m && Nat.beq a b
  | .nilp, .nilp => true
  | .ptr a b, .ptr c d => Nat.beq a c && Nat.beq b d
  | .nils, .nils => true
  | .sl a b c d e f, .sl a' b' c' d' e' f' => Nat.beq a a' && Nat.beq b b' && Nat.beq c c' && Nat.beq d d' && beqB e e' && Nat.beq f f'
  | .nilm, .nilm => true
  | .map a, .map b => Nat.beq a b
  | .nilf, .nilf => true
  | .nili, .nili => true
  | .func (.func a) [] [], .func (.func b) [] [] => Nat.beq a b
  | _, _ => false
def eqA (a : List V) : List V → Bool := List.rec (motive := fun _ => List V → Bool) (fun l => List.rec (motive := fun _ => Bool) true (fun _ _ _ => false) l) (fun x _ ih l => List.rec (motive := fun _ => Bool) false (fun y t _ => tt2 (eqV0 x y) (ih t)) l) a
def eqV (x y : V) : Bool :=
  match x, y with
  | .agg a, .agg b => eqA a b
  | x, y => eqV0 x y
/-- A block that is kept. -/
inductive LB where
  | c (cells : List V) (child : Bool)
  | m (es : List (V × V)) (ord : Bool)
def LB.blk : LB → Blk
  | .c l ch => trK l 0 .e fun t => .cells (lenQ l 0) t none ch
  | .m es o => .map es o
theorem LB.blk_c (l : List V) (ch : Bool) : LB.blk (.c l ch) = .cells (lenL l) (trOf l 0 .e) none ch := by
  show trK l 0 .e (fun t => Blk.cells (lenQ l 0) t none ch) = _
  rw [trK_eq, lenQ_eq, Nat.zero_add]
def litH (L : List (Nat × LB)) (n : Nat) : H := ⟨List.rec (motive := fun _ => Tr Blk) H0.t (fun p _ ih => ih.put p.1 (some p.2.blk)) L, n⟩
def eqCs (cs : Tr V) (l : List V) : Nat → Bool := List.rec (motive := fun _ => Nat → Bool) (fun _ => true) (fun x _ ih j => tt2 (Option.rec (motive := fun _ => Bool) false (fun y => eqV y x) (cs.get j)) (ih (Nat.succ j))) l
def eqEs (es : List (V × V)) : List (V × V) → Bool := List.rec (motive := fun _ => List (V × V) → Bool) (fun l => List.rec (motive := fun _ => Bool) true (fun _ _ _ => false) l) (fun x _ ih l => List.rec (motive := fun _ => Bool) false (fun y t _ => tt2 (tt2 (eqV x.1 y.1) (eqV x.2 y.2)) (ih t)) l) es
def LB.ok (b : LB) (o : Option Blk) : Bool :=
  match b, o with
  | .c l ch, some (.cells n cs none ch') => tt2 (Nat.beq n (lenL l)) (tt2 (Nat.ble n 1000000) (tt2 (beqB ch ch') (eqCs cs l 0)))
  | .m es o, some (.map es' o') => tt2 (beqB o o') (eqEs es' es)
  | _, _ => false
def subOk (L : List (Nat × LB)) (n : Nat) (h : H) : Bool := tt2 (Nat.beq n h.next) (List.rec (motive := fun _ => Bool) true (fun p _ ih => tt2 (tt2 (Nat.blt 1 p.1) (Nat.blt p.1 keys)) (tt2 (p.2.ok (h.blk p.1)) ih)) L)
def frOk (fl : AL) (f : F) : Bool := List.rec (motive := fun _ => Bool) true (fun p _ ih => tt2 (Option.rec (motive := fun _ => Bool) false (fun y => eqV y p.2) (lk f.loc p.1)) ih) fl
end
theorem bB_eq {a b : Bool} (h : beqB a b = true) : a = b := by cases a <;> cases b <;> first | rfl | cases h
theorem eK_eq {a b : IntKind} (h : eqK a b = true) : a = b := by cases a <;> cases b <;> first | rfl | cases h
theorem eI_eq {a b : Int} (h : eqI a b = true) : a = b := by
  cases a with
  | ofNat a => cases b with
    | ofNat b => exact congrArg Int.ofNat (Nat.eq_of_beq_eq_true h)
    | negSucc b => cases h
  | negSucc a => cases b with
    | ofNat b => cases h
    | negSucc b => exact congrArg Int.negSucc (Nat.eq_of_beq_eq_true h)
theorem eqV0_eq {x y : V} (h : eqV0 x y = true) : x = y := by
  unfold eqV0 at h
  split at h <;> try simp only [Bool.and_eq_true] at h
  · rw [bB_eq h]
  · rw [eK_eq h.1, eI_eq h.2]
  · rw [Nat.eq_of_beq_eq_true h.1, Nat.eq_of_beq_eq_true h.2]
  · rfl
  · rw [Nat.eq_of_beq_eq_true h.1, Nat.eq_of_beq_eq_true h.2]
  · rfl
  · obtain ⟨⟨⟨⟨⟨h1, h2⟩, h3⟩, h4⟩, h5⟩, h6⟩ := h
    rw [Nat.eq_of_beq_eq_true h1, Nat.eq_of_beq_eq_true h2, Nat.eq_of_beq_eq_true h3, Nat.eq_of_beq_eq_true h4, bB_eq h5, Nat.eq_of_beq_eq_true h6]
  · rfl
  · rw [Nat.eq_of_beq_eq_true h]
  · rfl
  · rfl
  · rw [Nat.eq_of_beq_eq_true h]
  · cases h
theorem eqA_eq : ∀ {a b : List V}, eqA a b = true → a = b
  | [], [], _ => rfl
  | [], _ :: _, h => by cases h
  | _ :: _, [], h => by cases h
  | x :: a, y :: b, h => by
    obtain ⟨h1, h2⟩ := tt2_and.1 (show tt2 (eqV0 x y) (eqA a b) = true from h)
    rw [eqV0_eq h1, eqA_eq h2]
theorem eqV_eq {x y : V} (h : eqV x y = true) : x = y := by
  unfold eqV at h
  split at h
  · rw [eqA_eq h]
  · exact eqV0_eq h
end Ev
end Go.Proofs.YtogbcielgfidlaaGreatDoor
