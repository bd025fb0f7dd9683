/-
  The program's code, as a table; closed runs over it.
-/
import Derived.Test.YtbfkbabolhhbaaaGreatDoorMnTab1
import Derived.Test.YtbfkbabolhhbaaaGreatDoorMnTab2
import Derived.Test.YtbfkbabolhhbaaaGreatDoorMnTab3
import Derived.Test.YtbfkbabolhhbaaaGreatDoorMnTab4
import Derived.Test.YtbfkbabolhhbaaaGreatDoorEvFast3
import Derived.Test.YtbfkbabolhhbaaaGreatDoorEvSame
namespace Go.Proofs.YtbfkbabolhhbaaaGreatDoor
namespace Ev
variable [Opq]
set_option linter.unusedSectionVars false

theorem tyOk_of (P : Program) (pin : List (Nat × Nat × Nat × Tr V)) : TyOk P ⟨P.info?, P.underlying, fun t => !P.stoodInHeld t && !P.eqGuardType P.depth t, pin⟩ := ⟨fun _ _ h => h, fun _ _ h => h, fun t h => by
  have h : (!P.stoodInHeld t && !P.eqGuardType P.depth t) = true := h
  simpa using h⟩
theorem tyOk : TyOk Tryz.prog TP := tyOk_of Tryz.prog _
theorem mixed : Tryz.prog.follows .mixedOrders = true := by kernel_rfl
/-- What is known of one function. -/
def PrimOf (f : FuncId) (p : List V → H → Option (V × H)) : Prop :=
  ∀ vs h v h', p vs h = some (v, h') → ∀ g w us, WR TP g h w → Glob TP g h → VRs g vs us → CallFn Tryz.prog TP f us g h w v h'
noncomputable section
def trP {α : Type} (l : List (Nat × α)) : Tr α := List.rec (motive := fun _ => Tr α) .e (fun p _ ih => ih.put p.1 (some p.2)) l
end
theorem trP_get {α : Type} : ∀ {l : List (Nat × α)} {f : Nat} {p : α}, (∀ q ∈ l, q.1 < keys) → (trP l).get f = some p → (f, p) ∈ l
  | [], _, _, _, e => by cases e
  | q :: l, f, p, hk, e => by
    have e : ((trP l).put q.1 (some q.2)).get f = some p := e
    rw [Tr.get_put _ _ _ _ (hk q List.mem_cons_self)] at e
    by_cases h : f = q.1
    · rw [if_pos h] at e
      cases e
      rw [h]
      exact List.mem_cons_self
    · rw [if_neg h] at e
      exact List.mem_cons_of_mem _ (trP_get (fun q hq => hk q (List.mem_cons_of_mem _ hq)) e)
def Good (p : Nat × CF) : Prop := p.1 < keys ∧ ∃ fn, Tryz.prog.funcs[p.1]? = some fn ∧ (fn.name == "runtime.NumGoroutine") = false ∧ compF TP fn = some p.2
theorem good {f : Nat} {fn : Func} {c : CF} (h0 : Nat.blt f 1000 = true) (h1 : Tryz.prog.funcs[f]? = some fn) (h2 : (fn.name == "runtime.NumGoroutine") = false) (h3 : compF TP fn = some c) : Good (f, c) :=
  ⟨Nat.lt_of_lt_of_le (by simpa using h0) (by decide : (1000 : Nat) ≤ keys), fn, h1, h2, h3⟩
noncomputable section
def tabL : List (Nat × CF) := [(3, cf3), (5, cf5), (6, cf6), (7, cf7), (8, cf8), (9, cf9), (10, cf10), (11, cf11), (12, cf12), (13, cf13), (14, cf14), (15, cf15), (16, cf16), (17, cf17), (18, cf18), (19, cf19), (20, cf20), (21, cf21), (22, cf22), (23, cf23), (24, cf24), (25, cf25), (26, cf26), (28, cf28), (29, cf29), (30, cf30), (31, cf31), (32, cf32), (33, cf33), (34, cf34), (35, cf35), (36, cf36), (37, cf37), (38, cf38), (39, cf39), (40, cf40), (41, cf41), (42, cf42), (43, cf43), (45, cf45), (46, cf46), (47, cf47), (48, cf48), (49, cf49), (50, cf50), (51, cf51), (53, cf53), (54, cf54), (55, cf55), (56, cf56), (57, cf57), (58, cf58), (63, cf63), (67, cf67), (68, cf68), (69, cf69), (70, cf70), (72, cf72), (73, cf73), (74, cf74), (75, cf75), (82, cf82), (83, cf83), (86, cf86), (91, cf91), (104, cf104), (105, cf105), (106, cf106), (107, cf107), (108, cf108), (109, cf109), (110, cf110), (111, cf111), (112, cf112), (113, cf113), (114, cf114), (115, cf115), (116, cf116), (117, cf117), (118, cf118), (119, cf119), (120, cf120), (123, cf123), (124, cf124), (126, cf126), (127, cf127), (129, cf129), (130, cf130), (131, cf131), (132, cf132), (136, cf136), (137, cf137), (138, cf138), (139, cf139), (141, cf141), (149, cf149), (150, cf150), (151, cf151), (152, cf152), (153, cf153), (158, cf158), (160, cf160), (166, cf166), (168, cf168), (169, cf169), (170, cf170), (171, cf171), (172, cf172), (173, cf173), (174, cf174), (175, cf175), (176, cf176), (177, cf177), (178, cf178), (179, cf179), (180, cf180), (181, cf181), (182, cf182), (183, cf183), (184, cf184), (186, cf186), (187, cf187), (188, cf188), (189, cf189), (190, cf190), (192, cf192), (193, cf193), (194, cf194), (195, cf195), (196, cf196), (197, cf197), (198, cf198), (199, cf199), (200, cf200), (202, cf202), (203, cf203), (208, cf208), (212, cf212), (213, cf213), (215, cf215), (216, cf216), (225, cf225), (227, cf227), (233, cf233), (234, cf234), (235, cf235), (236, cf236), (237, cf237), (238, cf238), (242, cf242), (243, cf243), (244, cf244), (245, cf245), (246, cf246), (247, cf247), (248, cf248), (249, cf249), (250, cf250), (252, cf252), (253, cf253), (254, cf254), (257, cf257), (258, cf258), (259, cf259), (260, cf260), (261, cf261), (262, cf262), (263, cf263), (264, cf264), (265, cf265), (266, cf266), (267, cf267), (268, cf268), (269, cf269), (270, cf270), (271, cf271), (272, cf272), (273, cf273), (280, cf280), (281, cf281), (289, cf289), (290, cf290), (292, cf292), (293, cf293), (296, cf296), (298, cf298), (301, cf301), (302, cf302), (312, cf312), (313, cf313), (314, cf314), (317, cf317), (318, cf318), (319, cf319), (320, cf320), (321, cf321), (322, cf322), (323, cf323), (325, cf325), (326, cf326), (327, cf327), (328, cf328), (329, cf329), (330, cf330), (331, cf331), (332, cf332), (333, cf333), (334, cf334), (337, cf337), (338, cf338), (340, cf340), (341, cf341), (342, cf342), (345, cf345), (347, cf347), (348, cf348), (350, cf350), (362, cf362), (367, cf367), (405, cf405), (406, cf406), (407, cf407), (408, cf408), (409, cf409), (410, cf410), (411, cf411), (412, cf412), (414, cf414), (422, cf422), (423, cf423), (424, cf424), (426, cf426), (448, cf448), (454, cf454), (458, cf458)]
def tabC : Tr CF := trP tabL
def tabF (f : FuncId) : Option FF := ob (tabC.get f) fun c => some (fastF c)
end
theorem all_nil : ∀ p ∈ ([] : List (Nat × CF)), Good p := fun _ h => by cases h
theorem all_cons {p : Nat × CF} {l : List (Nat × CF)} (h : Good p) (k : ∀ q ∈ l, Good q) : ∀ q ∈ p :: l, Good q := fun q hq => by
  cases hq with
  | head => exact h
  | tail _ hq => exact k q hq
set_option maxRecDepth 100000 in
theorem tabL_good : ∀ p ∈ tabL, Good p := by
  unfold tabL
  exact all_cons (good rfl Tryz.func3 (by decide) cf3_ok) <|
    all_cons (good rfl Tryz.func5 (by decide) cf5_ok) <|
    all_cons (good rfl Tryz.func6 (by decide) cf6_ok) <|
    all_cons (good rfl Tryz.func7 (by decide) cf7_ok) <|
    all_cons (good rfl Tryz.func8 (by decide) cf8_ok) <|
    all_cons (good rfl Tryz.func9 (by decide) cf9_ok) <|
    all_cons (good rfl Tryz.func10 (by decide) cf10_ok) <|
    all_cons (good rfl Tryz.func11 (by decide) cf11_ok) <|
    all_cons (good rfl Tryz.func12 (by decide) cf12_ok) <|
    all_cons (good rfl Tryz.func13 (by decide) cf13_ok) <|
    all_cons (good rfl Tryz.func14 (by decide) cf14_ok) <|
    all_cons (good rfl Tryz.func15 (by decide) cf15_ok) <|
    all_cons (good rfl Tryz.func16 (by decide) cf16_ok) <|
    all_cons (good rfl Tryz.func17 (by decide) cf17_ok) <|
    all_cons (good rfl Tryz.func18 (by decide) cf18_ok) <|
    all_cons (good rfl Tryz.func19 (by decide) cf19_ok) <|
    all_cons (good rfl Tryz.func20 (by decide) cf20_ok) <|
    all_cons (good rfl Tryz.func21 (by decide) cf21_ok) <|
    all_cons (good rfl Tryz.func22 (by decide) cf22_ok) <|
    all_cons (good rfl Tryz.func23 (by decide) cf23_ok) <|
    all_cons (good rfl Tryz.func24 (by decide) cf24_ok) <|
    all_cons (good rfl Tryz.func25 (by decide) cf25_ok) <|
    all_cons (good rfl Tryz.func26 (by decide) cf26_ok) <|
    all_cons (good rfl Tryz.func28 (by decide) cf28_ok) <|
    all_cons (good rfl Tryz.func29 (by decide) cf29_ok) <|
    all_cons (good rfl Tryz.func30 (by decide) cf30_ok) <|
    all_cons (good rfl Tryz.func31 (by decide) cf31_ok) <|
    all_cons (good rfl Tryz.func32 (by decide) cf32_ok) <|
    all_cons (good rfl Tryz.func33 (by decide) cf33_ok) <|
    all_cons (good rfl Tryz.func34 (by decide) cf34_ok) <|
    all_cons (good rfl Tryz.func35 (by decide) cf35_ok) <|
    all_cons (good rfl Tryz.func36 (by decide) cf36_ok) <|
    all_cons (good rfl Tryz.func37 (by decide) cf37_ok) <|
    all_cons (good rfl Tryz.func38 (by decide) cf38_ok) <|
    all_cons (good rfl Tryz.func39 (by decide) cf39_ok) <|
    all_cons (good rfl Tryz.func40 (by decide) cf40_ok) <|
    all_cons (good rfl Tryz.func41 (by decide) cf41_ok) <|
    all_cons (good rfl Tryz.func42 (by decide) cf42_ok) <|
    all_cons (good rfl Tryz.func43 (by decide) cf43_ok) <|
    all_cons (good rfl Tryz.func45 (by decide) cf45_ok) <|
    all_cons (good rfl Tryz.func46 (by decide) cf46_ok) <|
    all_cons (good rfl Tryz.func47 (by decide) cf47_ok) <|
    all_cons (good rfl Tryz.func48 (by decide) cf48_ok) <|
    all_cons (good rfl Tryz.func49 (by decide) cf49_ok) <|
    all_cons (good rfl Tryz.func50 (by decide) cf50_ok) <|
    all_cons (good rfl Tryz.func51 (by decide) cf51_ok) <|
    all_cons (good rfl Tryz.func53 (by decide) cf53_ok) <|
    all_cons (good rfl Tryz.func54 (by decide) cf54_ok) <|
    all_cons (good rfl Tryz.func55 (by decide) cf55_ok) <|
    all_cons (good rfl Tryz.func56 (by decide) cf56_ok) <|
    all_cons (good rfl Tryz.func57 (by decide) cf57_ok) <|
    all_cons (good rfl Tryz.func58 (by decide) cf58_ok) <|
    all_cons (good rfl Tryz.func63 (by decide) cf63_ok) <|
    all_cons (good rfl Tryz.func67 (by decide) cf67_ok) <|
    all_cons (good rfl Tryz.func68 (by decide) cf68_ok) <|
    all_cons (good rfl Tryz.func69 (by decide) cf69_ok) <|
    all_cons (good rfl Tryz.func70 (by decide) cf70_ok) <|
    all_cons (good rfl Tryz.func72 (by decide) cf72_ok) <|
    all_cons (good rfl Tryz.func73 (by decide) cf73_ok) <|
    all_cons (good rfl Tryz.func74 (by decide) cf74_ok) <|
    all_cons (good rfl Tryz.func75 (by decide) cf75_ok) <|
    all_cons (good rfl Tryz.func82 (by decide) cf82_ok) <|
    all_cons (good rfl Tryz.func83 (by decide) cf83_ok) <|
    all_cons (good rfl Tryz.func86 (by decide) cf86_ok) <|
    all_cons (good rfl Tryz.func91 (by decide) cf91_ok) <|
    all_cons (good rfl Tryz.func104 (by decide) cf104_ok) <|
    all_cons (good rfl Tryz.func105 (by decide) cf105_ok) <|
    all_cons (good rfl Tryz.func106 (by decide) cf106_ok) <|
    all_cons (good rfl Tryz.func107 (by decide) cf107_ok) <|
    all_cons (good rfl Tryz.func108 (by decide) cf108_ok) <|
    all_cons (good rfl Tryz.func109 (by decide) cf109_ok) <|
    all_cons (good rfl Tryz.func110 (by decide) cf110_ok) <|
    all_cons (good rfl Tryz.func111 (by decide) cf111_ok) <|
    all_cons (good rfl Tryz.func112 (by decide) cf112_ok) <|
    all_cons (good rfl Tryz.func113 (by decide) cf113_ok) <|
    all_cons (good rfl Tryz.func114 (by decide) cf114_ok) <|
    all_cons (good rfl Tryz.func115 (by decide) cf115_ok) <|
    all_cons (good rfl Tryz.func116 (by decide) cf116_ok) <|
    all_cons (good rfl Tryz.func117 (by decide) cf117_ok) <|
    all_cons (good rfl Tryz.func118 (by decide) cf118_ok) <|
    all_cons (good rfl Tryz.func119 (by decide) cf119_ok) <|
    all_cons (good rfl Tryz.func120 (by decide) cf120_ok) <|
    all_cons (good rfl Tryz.func123 (by decide) cf123_ok) <|
    all_cons (good rfl Tryz.func124 (by decide) cf124_ok) <|
    all_cons (good rfl Tryz.func126 (by decide) cf126_ok) <|
    all_cons (good rfl Tryz.func127 (by decide) cf127_ok) <|
    all_cons (good rfl Tryz.func129 (by decide) cf129_ok) <|
    all_cons (good rfl Tryz.func130 (by decide) cf130_ok) <|
    all_cons (good rfl Tryz.func131 (by decide) cf131_ok) <|
    all_cons (good rfl Tryz.func132 (by decide) cf132_ok) <|
    all_cons (good rfl Tryz.func136 (by decide) cf136_ok) <|
    all_cons (good rfl Tryz.func137 (by decide) cf137_ok) <|
    all_cons (good rfl Tryz.func138 (by decide) cf138_ok) <|
    all_cons (good rfl Tryz.func139 (by decide) cf139_ok) <|
    all_cons (good rfl Tryz.func141 (by decide) cf141_ok) <|
    all_cons (good rfl Tryz.func149 (by decide) cf149_ok) <|
    all_cons (good rfl Tryz.func150 (by decide) cf150_ok) <|
    all_cons (good rfl Tryz.func151 (by decide) cf151_ok) <|
    all_cons (good rfl Tryz.func152 (by decide) cf152_ok) <|
    all_cons (good rfl Tryz.func153 (by decide) cf153_ok) <|
    all_cons (good rfl Tryz.func158 (by decide) cf158_ok) <|
    all_cons (good rfl Tryz.func160 (by decide) cf160_ok) <|
    all_cons (good rfl Tryz.func166 (by decide) cf166_ok) <|
    all_cons (good rfl Tryz.func168 (by decide) cf168_ok) <|
    all_cons (good rfl Tryz.func169 (by decide) cf169_ok) <|
    all_cons (good rfl Tryz.func170 (by decide) cf170_ok) <|
    all_cons (good rfl Tryz.func171 (by decide) cf171_ok) <|
    all_cons (good rfl Tryz.func172 (by decide) cf172_ok) <|
    all_cons (good rfl Tryz.func173 (by decide) cf173_ok) <|
    all_cons (good rfl Tryz.func174 (by decide) cf174_ok) <|
    all_cons (good rfl Tryz.func175 (by decide) cf175_ok) <|
    all_cons (good rfl Tryz.func176 (by decide) cf176_ok) <|
    all_cons (good rfl Tryz.func177 (by decide) cf177_ok) <|
    all_cons (good rfl Tryz.func178 (by decide) cf178_ok) <|
    all_cons (good rfl Tryz.func179 (by decide) cf179_ok) <|
    all_cons (good rfl Tryz.func180 (by decide) cf180_ok) <|
    all_cons (good rfl Tryz.func181 (by decide) cf181_ok) <|
    all_cons (good rfl Tryz.func182 (by decide) cf182_ok) <|
    all_cons (good rfl Tryz.func183 (by decide) cf183_ok) <|
    all_cons (good rfl Tryz.func184 (by decide) cf184_ok) <|
    all_cons (good rfl Tryz.func186 (by decide) cf186_ok) <|
    all_cons (good rfl Tryz.func187 (by decide) cf187_ok) <|
    all_cons (good rfl Tryz.func188 (by decide) cf188_ok) <|
    all_cons (good rfl Tryz.func189 (by decide) cf189_ok) <|
    all_cons (good rfl Tryz.func190 (by decide) cf190_ok) <|
    all_cons (good rfl Tryz.func192 (by decide) cf192_ok) <|
    all_cons (good rfl Tryz.func193 (by decide) cf193_ok) <|
    all_cons (good rfl Tryz.func194 (by decide) cf194_ok) <|
    all_cons (good rfl Tryz.func195 (by decide) cf195_ok) <|
    all_cons (good rfl Tryz.func196 (by decide) cf196_ok) <|
    all_cons (good rfl Tryz.func197 (by decide) cf197_ok) <|
    all_cons (good rfl Tryz.func198 (by decide) cf198_ok) <|
    all_cons (good rfl Tryz.func199 (by decide) cf199_ok) <|
    all_cons (good rfl Tryz.func200 (by decide) cf200_ok) <|
    all_cons (good rfl Tryz.func202 (by decide) cf202_ok) <|
    all_cons (good rfl Tryz.func203 (by decide) cf203_ok) <|
    all_cons (good rfl Tryz.func208 (by decide) cf208_ok) <|
    all_cons (good rfl Tryz.func212 (by decide) cf212_ok) <|
    all_cons (good rfl Tryz.func213 (by decide) cf213_ok) <|
    all_cons (good rfl Tryz.func215 (by decide) cf215_ok) <|
    all_cons (good rfl Tryz.func216 (by decide) cf216_ok) <|
    all_cons (good rfl Tryz.func225 (by decide) cf225_ok) <|
    all_cons (good rfl Tryz.func227 (by decide) cf227_ok) <|
    all_cons (good rfl Tryz.func233 (by decide) cf233_ok) <|
    all_cons (good rfl Tryz.func234 (by decide) cf234_ok) <|
    all_cons (good rfl Tryz.func235 (by decide) cf235_ok) <|
    all_cons (good rfl Tryz.func236 (by decide) cf236_ok) <|
    all_cons (good rfl Tryz.func237 (by decide) cf237_ok) <|
    all_cons (good rfl Tryz.func238 (by decide) cf238_ok) <|
    all_cons (good rfl Tryz.func242 (by decide) cf242_ok) <|
    all_cons (good rfl Tryz.func243 (by decide) cf243_ok) <|
    all_cons (good rfl Tryz.func244 (by decide) cf244_ok) <|
    all_cons (good rfl Tryz.func245 (by decide) cf245_ok) <|
    all_cons (good rfl Tryz.func246 (by decide) cf246_ok) <|
    all_cons (good rfl Tryz.func247 (by decide) cf247_ok) <|
    all_cons (good rfl Tryz.func248 (by decide) cf248_ok) <|
    all_cons (good rfl Tryz.func249 (by decide) cf249_ok) <|
    all_cons (good rfl Tryz.func250 (by decide) cf250_ok) <|
    all_cons (good rfl Tryz.func252 (by decide) cf252_ok) <|
    all_cons (good rfl Tryz.func253 (by decide) cf253_ok) <|
    all_cons (good rfl Tryz.func254 (by decide) cf254_ok) <|
    all_cons (good rfl Tryz.func257 (by decide) cf257_ok) <|
    all_cons (good rfl Tryz.func258 (by decide) cf258_ok) <|
    all_cons (good rfl Tryz.func259 (by decide) cf259_ok) <|
    all_cons (good rfl Tryz.func260 (by decide) cf260_ok) <|
    all_cons (good rfl Tryz.func261 (by decide) cf261_ok) <|
    all_cons (good rfl Tryz.func262 (by decide) cf262_ok) <|
    all_cons (good rfl Tryz.func263 (by decide) cf263_ok) <|
    all_cons (good rfl Tryz.func264 (by decide) cf264_ok) <|
    all_cons (good rfl Tryz.func265 (by decide) cf265_ok) <|
    all_cons (good rfl Tryz.func266 (by decide) cf266_ok) <|
    all_cons (good rfl Tryz.func267 (by decide) cf267_ok) <|
    all_cons (good rfl Tryz.func268 (by decide) cf268_ok) <|
    all_cons (good rfl Tryz.func269 (by decide) cf269_ok) <|
    all_cons (good rfl Tryz.func270 (by decide) cf270_ok) <|
    all_cons (good rfl Tryz.func271 (by decide) cf271_ok) <|
    all_cons (good rfl Tryz.func272 (by decide) cf272_ok) <|
    all_cons (good rfl Tryz.func273 (by decide) cf273_ok) <|
    all_cons (good rfl Tryz.func280 (by decide) cf280_ok) <|
    all_cons (good rfl Tryz.func281 (by decide) cf281_ok) <|
    all_cons (good rfl Tryz.func289 (by decide) cf289_ok) <|
    all_cons (good rfl Tryz.func290 (by decide) cf290_ok) <|
    all_cons (good rfl Tryz.func292 (by decide) cf292_ok) <|
    all_cons (good rfl Tryz.func293 (by decide) cf293_ok) <|
    all_cons (good rfl Tryz.func296 (by decide) cf296_ok) <|
    all_cons (good rfl Tryz.func298 (by decide) cf298_ok) <|
    all_cons (good rfl Tryz.func301 (by decide) cf301_ok) <|
    all_cons (good rfl Tryz.func302 (by decide) cf302_ok) <|
    all_cons (good rfl Tryz.func312 (by decide) cf312_ok) <|
    all_cons (good rfl Tryz.func313 (by decide) cf313_ok) <|
    all_cons (good rfl Tryz.func314 (by decide) cf314_ok) <|
    all_cons (good rfl Tryz.func317 (by decide) cf317_ok) <|
    all_cons (good rfl Tryz.func318 (by decide) cf318_ok) <|
    all_cons (good rfl Tryz.func319 (by decide) cf319_ok) <|
    all_cons (good rfl Tryz.func320 (by decide) cf320_ok) <|
    all_cons (good rfl Tryz.func321 (by decide) cf321_ok) <|
    all_cons (good rfl Tryz.func322 (by decide) cf322_ok) <|
    all_cons (good rfl Tryz.func323 (by decide) cf323_ok) <|
    all_cons (good rfl Tryz.func325 (by decide) cf325_ok) <|
    all_cons (good rfl Tryz.func326 (by decide) cf326_ok) <|
    all_cons (good rfl Tryz.func327 (by decide) cf327_ok) <|
    all_cons (good rfl Tryz.func328 (by decide) cf328_ok) <|
    all_cons (good rfl Tryz.func329 (by decide) cf329_ok) <|
    all_cons (good rfl Tryz.func330 (by decide) cf330_ok) <|
    all_cons (good rfl Tryz.func331 (by decide) cf331_ok) <|
    all_cons (good rfl Tryz.func332 (by decide) cf332_ok) <|
    all_cons (good rfl Tryz.func333 (by decide) cf333_ok) <|
    all_cons (good rfl Tryz.func334 (by decide) cf334_ok) <|
    all_cons (good rfl Tryz.func337 (by decide) cf337_ok) <|
    all_cons (good rfl Tryz.func338 (by decide) cf338_ok) <|
    all_cons (good rfl Tryz.func340 (by decide) cf340_ok) <|
    all_cons (good rfl Tryz.func341 (by decide) cf341_ok) <|
    all_cons (good rfl Tryz.func342 (by decide) cf342_ok) <|
    all_cons (good rfl Tryz.func345 (by decide) cf345_ok) <|
    all_cons (good rfl Tryz.func347 (by decide) cf347_ok) <|
    all_cons (good rfl Tryz.func348 (by decide) cf348_ok) <|
    all_cons (good rfl Tryz.func350 (by decide) cf350_ok) <|
    all_cons (good rfl Tryz.func362 (by decide) cf362_ok) <|
    all_cons (good rfl Tryz.func367 (by decide) cf367_ok) <|
    all_cons (good rfl Tryz.func405 (by decide) cf405_ok) <|
    all_cons (good rfl Tryz.func406 (by decide) cf406_ok) <|
    all_cons (good rfl Tryz.func407 (by decide) cf407_ok) <|
    all_cons (good rfl Tryz.func408 (by decide) cf408_ok) <|
    all_cons (good rfl Tryz.func409 (by decide) cf409_ok) <|
    all_cons (good rfl Tryz.func410 (by decide) cf410_ok) <|
    all_cons (good rfl Tryz.func411 (by decide) cf411_ok) <|
    all_cons (good rfl Tryz.func412 (by decide) cf412_ok) <|
    all_cons (good rfl Tryz.func414 (by decide) cf414_ok) <|
    all_cons (good rfl Tryz.func422 (by decide) cf422_ok) <|
    all_cons (good rfl Tryz.func423 (by decide) cf423_ok) <|
    all_cons (good rfl Tryz.func424 (by decide) cf424_ok) <|
    all_cons (good rfl Tryz.func426 (by decide) cf426_ok) <|
    all_cons (good rfl Tryz.func448 (by decide) cf448_ok) <|
    all_cons (good rfl Tryz.func454 (by decide) cf454_ok) <|
    all_cons (good rfl Tryz.func458 (by decide) cf458_ok) <| all_nil
theorem tabC_ok : TabOk Tryz.prog TP (fun f => tabC.get f) := by
  intro f cf e
  obtain ⟨_, fn, h1, h2, h3⟩ := tabL_good _ (trP_get (fun q hq => (tabL_good q hq).1) e)
  exact ⟨fn, h1, beq_eq_false_iff_ne.1 h2, h3⟩
abbrev Prim := List V → H → Option (V × H)
def PrimsOk (l : List (Nat × Prim)) : Prop := ∀ p ∈ l, p.1 < keys ∧ PrimOf p.1 p.2
noncomputable def callS (l : List (Nat × Prim)) (n : Nat) : CallT := callK (fun f => (trP l).get f) tabF n
theorem callS_ok {l : List (Nat × Prim)} (h : PrimsOk l) (n : Nat) : CallOk Tryz.prog TP (callS l n) := by
  have : callS l n = callN (fun f => (trP l).get f) (fun f => tabC.get f) n := callK_eq _ _ n
  rw [this]
  exact callN_ok tyOk mixed (fun f p e => (h _ (trP_get (fun q hq => (h q hq).1) e)).2) tabC_ok n
theorem PrimsOk.nil : PrimsOk [] := fun _ h => by cases h
theorem PrimsOk.cons {f : Nat} {p : Prim} {l : List (Nat × Prim)} (h0 : Nat.blt f 1000 = true) (h : PrimOf f p) (k : PrimsOk l) : PrimsOk ((f, p) :: l) := fun q hq => by
  cases hq with
  | head => exact ⟨Nat.lt_of_lt_of_le (by simpa using h0) (by decide : (1000 : Nat) ≤ keys), h⟩
  | tail _ hq => exact k q hq
noncomputable def H0 : H := ⟨Tr.put (Tr.put .e 0 (some (.ro (lenL tbl) (trOf tbl 0 .e)))) 1 (some (.ro (lenL tbS) (trOf tbS 0 .e))), 2⟩
theorem tbl_flat : tbl.all flat = true := by kernel_rfl
theorem tbS_flat : tbS.all flat = true := by kernel_rfl
theorem tbl_len : lenL tbl = 123 := by kernel_rfl
theorem tbS_len : lenL tbS = 256 := by kernel_rfl
end Ev
end Go.Proofs.YtbfkbabolhhbaaaGreatDoor
