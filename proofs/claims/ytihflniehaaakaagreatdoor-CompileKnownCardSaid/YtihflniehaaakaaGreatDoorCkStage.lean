/-
  The program's code, as a table; closed runs over it.
-/
import Derived.Test.YtihflniehaaakaaGreatDoorCkTab1
import Derived.Test.YtihflniehaaakaaGreatDoorCkTab2
import Derived.Test.YtihflniehaaakaaGreatDoorCkTab3
import Derived.Test.YtihflniehaaakaaGreatDoorCkTab4
import Derived.Test.YtihflniehaaakaaGreatDoorCkTab5
import Derived.Test.YtihflniehaaakaaGreatDoorCkTab6
import Derived.Test.YtihflniehaaakaaGreatDoorCkTab7
import Derived.Test.YtihflniehaaakaaGreatDoorCkTab8
import Derived.Test.YtihflniehaaakaaGreatDoorEvFast
import Derived.Test.YtihflniehaaakaaGreatDoorEvTree
namespace Go.Proofs.YtihflniehaaakaaGreatDoor
set_option linter.unusedVariables false
set_option linter.unusedSimpArgs false
namespace Ev
variable [Opq]
set_option linter.unusedSectionVars false

theorem tyOk_of (P : Program) (pin : List (Nat × Nat × Nat × Tr V)) : TyOk P ⟨P.info?, P.underlying, fun t => !P.stoodInHeld t && !P.eqGuardType P.depth t, pin⟩ := ⟨fun _ _ h => h, fun _ _ h => h, fun t h => by
  have h : (!P.stoodInHeld t && !P.eqGuardType P.depth t) = true := h
  simpa using h⟩
theorem tyOk : TyOk Tryz.prog TP := tyOk_of Tryz.prog _
theorem mixed : Tryz.prog.follows .mixedOrders = true := by kernel_rfl
/-- What is known of one function. -/
def PrimOf (f : FuncId) (p : List V → H → Option (V × H)) : Prop :=
  ∀ vs h v h', p vs h = some (v, h') → ∀ g w us, WR TP g h w → Glob TP g h → VRs g vs us → CallFn Tryz.prog TP f us g h w v h'
noncomputable section
def trP {α : Type} (l : List (Nat × α)) : Tr α := List.rec (motive := fun _ => Tr α) .e (fun p _ ih => ih.put p.1 (some p.2)) l
end
theorem trP_get {α : Type} : ∀ {l : List (Nat × α)} {f : Nat} {p : α}, (∀ q ∈ l, q.1 < keys) → (trP l).get f = some p → (f, p) ∈ l
  | [], _, _, _, e => by cases e
  | q :: l, f, p, hk, e => by
    have e : ((trP l).put q.1 (some q.2)).get f = some p := e
    rw [Tr.get_put _ _ _ _ (hk q List.mem_cons_self)] at e
    by_cases h : f = q.1
    · rw [if_pos h] at e
      cases e
      rw [h]
      exact List.mem_cons_self
    · rw [if_neg h] at e
      exact List.mem_cons_of_mem _ (trP_get (fun q hq => hk q (List.mem_cons_of_mem _ hq)) e)
def Good (p : Nat × CF) : Prop := p.1 < keys ∧ ∃ fn, Tryz.prog.funcs[p.1]? = some fn ∧ (fn.name == "runtime.NumGoroutine") = false ∧ compF TP fn = some p.2
theorem good {f : Nat} {fn : Func} {c : CF} (h0 : Nat.blt f 1000 = true) (h1 : Tryz.prog.funcs[f]? = some fn) (h2 : (fn.name == "runtime.NumGoroutine") = false) (h3 : compF TP fn = some c) : Good (f, c) :=
  ⟨Nat.lt_of_lt_of_le (by simpa using h0) (by decide : (1000 : Nat) ≤ keys), fn, h1, h2, h3⟩
noncomputable section
def tabL : List (Nat × CF) := [(3, cf3), (4, cf4), (5, cf5), (6, cf6), (7, cf7), (8, cf8), (9, cf9), (10, cf10), (11, cf11), (12, cf12), (13, cf13), (14, cf14), (15, cf15), (16, cf16), (17, cf17), (18, cf18), (19, cf19), (20, cf20), (21, cf21), (22, cf22), (23, cf23), (24, cf24), (25, cf25), (26, cf26), (27, cf27), (28, cf28), (29, cf29), (30, cf30), (31, cf31), (32, cf32), (33, cf33), (34, cf34), (35, cf35), (36, cf36), (37, cf37), (38, cf38), (40, cf40), (41, cf41), (42, cf42), (43, cf43), (44, cf44), (45, cf45), (47, cf47), (48, cf48), (49, cf49), (50, cf50), (51, cf51), (52, cf52), (54, cf54), (55, cf55), (57, cf57), (58, cf58), (59, cf59), (60, cf60), (61, cf61), (62, cf62), (65, cf65), (67, cf67), (68, cf68), (69, cf69), (70, cf70), (71, cf71), (72, cf72), (73, cf73), (74, cf74), (76, cf76), (77, cf77), (78, cf78), (79, cf79), (80, cf80), (81, cf81), (82, cf82), (83, cf83), (86, cf86), (87, cf87), (88, cf88), (89, cf89), (90, cf90), (91, cf91), (92, cf92), (93, cf93), (94, cf94), (95, cf95), (96, cf96), (97, cf97), (98, cf98), (99, cf99), (100, cf100), (101, cf101), (102, cf102), (103, cf103), (104, cf104), (105, cf105), (106, cf106), (107, cf107), (108, cf108), (109, cf109), (110, cf110), (111, cf111), (112, cf112), (113, cf113), (114, cf114), (115, cf115), (116, cf116), (117, cf117), (119, cf119), (122, cf122), (128, cf128), (130, cf130), (131, cf131), (132, cf132), (136, cf136), (146, cf146), (147, cf147), (148, cf148), (150, cf150), (151, cf151), (152, cf152), (153, cf153), (154, cf154), (155, cf155), (156, cf156), (157, cf157), (158, cf158), (159, cf159), (160, cf160), (161, cf161), (162, cf162), (163, cf163), (164, cf164), (165, cf165), (166, cf166), (167, cf167), (168, cf168), (170, cf170), (172, cf172), (173, cf173), (174, cf174), (175, cf175), (176, cf176), (177, cf177), (178, cf178), (179, cf179), (180, cf180), (181, cf181), (182, cf182), (183, cf183), (184, cf184), (185, cf185), (186, cf186), (187, cf187), (189, cf189), (191, cf191), (192, cf192), (193, cf193), (194, cf194), (195, cf195), (196, cf196), (197, cf197), (198, cf198), (199, cf199), (200, cf200), (201, cf201), (202, cf202), (203, cf203), (204, cf204), (205, cf205), (206, cf206), (207, cf207), (209, cf209), (210, cf210), (212, cf212), (213, cf213), (214, cf214), (216, cf216), (217, cf217), (218, cf218), (221, cf221), (226, cf226), (229, cf229), (237, cf237), (238, cf238), (239, cf239), (240, cf240), (241, cf241), (243, cf243), (244, cf244), (245, cf245), (246, cf246), (248, cf248), (250, cf250), (252, cf252), (253, cf253), (254, cf254), (255, cf255), (257, cf257), (259, cf259), (260, cf260), (261, cf261), (263, cf263), (264, cf264), (265, cf265), (266, cf266), (267, cf267), (268, cf268), (269, cf269), (270, cf270), (271, cf271), (272, cf272), (273, cf273), (275, cf275), (276, cf276), (280, cf280), (281, cf281), (283, cf283), (284, cf284), (285, cf285), (286, cf286), (287, cf287), (293, cf293), (294, cf294), (295, cf295), (296, cf296), (297, cf297), (298, cf298), (299, cf299), (300, cf300), (301, cf301), (302, cf302), (303, cf303), (304, cf304), (305, cf305), (306, cf306), (307, cf307), (309, cf309), (310, cf310), (311, cf311), (312, cf312), (313, cf313), (314, cf314), (315, cf315), (316, cf316), (317, cf317), (318, cf318), (319, cf319), (320, cf320), (321, cf321), (322, cf322), (323, cf323), (324, cf324), (325, cf325), (326, cf326), (328, cf328), (329, cf329), (330, cf330), (331, cf331), (334, cf334), (335, cf335), (336, cf336), (343, cf343), (351, cf351), (355, cf355), (363, cf363), (364, cf364), (365, cf365), (367, cf367), (371, cf371), (372, cf372), (373, cf373), (376, cf376), (377, cf377), (379, cf379), (380, cf380), (382, cf382), (383, cf383), (384, cf384), (387, cf387), (388, cf388), (389, cf389), (390, cf390), (391, cf391), (392, cf392), (393, cf393), (394, cf394), (396, cf396), (397, cf397), (398, cf398), (399, cf399), (400, cf400), (401, cf401), (402, cf402), (412, cf412), (417, cf417), (420, cf420), (421, cf421), (422, cf422), (423, cf423), (424, cf424), (425, cf425), (426, cf426), (427, cf427), (428, cf428), (429, cf429), (430, cf430), (431, cf431), (432, cf432), (433, cf433), (437, cf437), (438, cf438), (439, cf439), (440, cf440), (441, cf441), (447, cf447), (460, cf460), (461, cf461), (465, cf465), (472, cf472), (473, cf473), (474, cf474), (475, cf475), (476, cf476), (478, cf478), (479, cf479), (480, cf480), (483, cf483), (490, cf490), (491, cf491), (494, cf494), (500, cf500), (504, cf504), (505, cf505), (506, cf506), (511, cf511), (512, cf512), (513, cf513), (515, cf515), (517, cf517), (525, cf525), (526, cf526), (534, cf534), (535, cf535), (544, cf544), (545, cf545), (554, cf554), (555, cf555), (556, cf556), (558, cf558), (561, cf561), (568, cf568), (577, cf577), (578, cf578), (591, cf591), (592, cf592), (594, cf594), (612, cf612), (613, cf613), (615, cf615), (616, cf616), (621, cf621), (622, cf622), (623, cf623), (624, cf624), (634, cf634), (637, cf637), (638, cf638), (639, cf639), (647, cf647), (648, cf648), (649, cf649), (672, cf672), (679, cf679), (681, cf681), (682, cf682), (683, cf683), (684, cf684), (688, cf688)]
def tabC : Tr CF := trP tabL
def tabF (f : FuncId) : Option FF := ob (tabC.get f) fun c => some (fastF c)
end
theorem all_nil : ∀ p ∈ ([] : List (Nat × CF)), Good p := fun _ h => by cases h
theorem all_cons {p : Nat × CF} {l : List (Nat × CF)} (h : Good p) (k : ∀ q ∈ l, Good q) : ∀ q ∈ p :: l, Good q := fun q hq => by
  cases hq with
  | head => exact h
  | tail _ hq => exact k q hq
set_option maxRecDepth 100000 in
theorem tabL_good : ∀ p ∈ tabL, Good p := by
  unfold tabL
  exact all_cons (good rfl Tryz.func3 (by decide) cf3_ok) <|
    all_cons (good rfl Tryz.func4 (by decide) cf4_ok) <|
    all_cons (good rfl Tryz.func5 (by decide) cf5_ok) <|
    all_cons (good rfl Tryz.func6 (by decide) cf6_ok) <|
    all_cons (good rfl Tryz.func7 (by decide) cf7_ok) <|
    all_cons (good rfl Tryz.func8 (by decide) cf8_ok) <|
    all_cons (good rfl Tryz.func9 (by decide) cf9_ok) <|
    all_cons (good rfl Tryz.func10 (by decide) cf10_ok) <|
    all_cons (good rfl Tryz.func11 (by decide) cf11_ok) <|
    all_cons (good rfl Tryz.func12 (by decide) cf12_ok) <|
    all_cons (good rfl Tryz.func13 (by decide) cf13_ok) <|
    all_cons (good rfl Tryz.func14 (by decide) cf14_ok) <|
    all_cons (good rfl Tryz.func15 (by decide) cf15_ok) <|
    all_cons (good rfl Tryz.func16 (by decide) cf16_ok) <|
    all_cons (good rfl Tryz.func17 (by decide) cf17_ok) <|
    all_cons (good rfl Tryz.func18 (by decide) cf18_ok) <|
    all_cons (good rfl Tryz.func19 (by decide) cf19_ok) <|
    all_cons (good rfl Tryz.func20 (by decide) cf20_ok) <|
    all_cons (good rfl Tryz.func21 (by decide) cf21_ok) <|
    all_cons (good rfl Tryz.func22 (by decide) cf22_ok) <|
    all_cons (good rfl Tryz.func23 (by decide) cf23_ok) <|
    all_cons (good rfl Tryz.func24 (by decide) cf24_ok) <|
    all_cons (good rfl Tryz.func25 (by decide) cf25_ok) <|
    all_cons (good rfl Tryz.func26 (by decide) cf26_ok) <|
    all_cons (good rfl Tryz.func27 (by decide) cf27_ok) <|
    all_cons (good rfl Tryz.func28 (by decide) cf28_ok) <|
    all_cons (good rfl Tryz.func29 (by decide) cf29_ok) <|
    all_cons (good rfl Tryz.func30 (by decide) cf30_ok) <|
    all_cons (good rfl Tryz.func31 (by decide) cf31_ok) <|
    all_cons (good rfl Tryz.func32 (by decide) cf32_ok) <|
    all_cons (good rfl Tryz.func33 (by decide) cf33_ok) <|
    all_cons (good rfl Tryz.func34 (by decide) cf34_ok) <|
    all_cons (good rfl Tryz.func35 (by decide) cf35_ok) <|
    all_cons (good rfl Tryz.func36 (by decide) cf36_ok) <|
    all_cons (good rfl Tryz.func37 (by decide) cf37_ok) <|
    all_cons (good rfl Tryz.func38 (by decide) cf38_ok) <|
    all_cons (good rfl Tryz.func40 (by decide) cf40_ok) <|
    all_cons (good rfl Tryz.func41 (by decide) cf41_ok) <|
    all_cons (good rfl Tryz.func42 (by decide) cf42_ok) <|
    all_cons (good rfl Tryz.func43 (by decide) cf43_ok) <|
    all_cons (good rfl Tryz.func44 (by decide) cf44_ok) <|
    all_cons (good rfl Tryz.func45 (by decide) cf45_ok) <|
    all_cons (good rfl Tryz.func47 (by decide) cf47_ok) <|
    all_cons (good rfl Tryz.func48 (by decide) cf48_ok) <|
    all_cons (good rfl Tryz.func49 (by decide) cf49_ok) <|
    all_cons (good rfl Tryz.func50 (by decide) cf50_ok) <|
    all_cons (good rfl Tryz.func51 (by decide) cf51_ok) <|
    all_cons (good rfl Tryz.func52 (by decide) cf52_ok) <|
    all_cons (good rfl Tryz.func54 (by decide) cf54_ok) <|
    all_cons (good rfl Tryz.func55 (by decide) cf55_ok) <|
    all_cons (good rfl Tryz.func57 (by decide) cf57_ok) <|
    all_cons (good rfl Tryz.func58 (by decide) cf58_ok) <|
    all_cons (good rfl Tryz.func59 (by decide) cf59_ok) <|
    all_cons (good rfl Tryz.func60 (by decide) cf60_ok) <|
    all_cons (good rfl Tryz.func61 (by decide) cf61_ok) <|
    all_cons (good rfl Tryz.func62 (by decide) cf62_ok) <|
    all_cons (good rfl Tryz.func65 (by decide) cf65_ok) <|
    all_cons (good rfl Tryz.func67 (by decide) cf67_ok) <|
    all_cons (good rfl Tryz.func68 (by decide) cf68_ok) <|
    all_cons (good rfl Tryz.func69 (by decide) cf69_ok) <|
    all_cons (good rfl Tryz.func70 (by decide) cf70_ok) <|
    all_cons (good rfl Tryz.func71 (by decide) cf71_ok) <|
    all_cons (good rfl Tryz.func72 (by decide) cf72_ok) <|
    all_cons (good rfl Tryz.func73 (by decide) cf73_ok) <|
    all_cons (good rfl Tryz.func74 (by decide) cf74_ok) <|
    all_cons (good rfl Tryz.func76 (by decide) cf76_ok) <|
    all_cons (good rfl Tryz.func77 (by decide) cf77_ok) <|
    all_cons (good rfl Tryz.func78 (by decide) cf78_ok) <|
    all_cons (good rfl Tryz.func79 (by decide) cf79_ok) <|
    all_cons (good rfl Tryz.func80 (by decide) cf80_ok) <|
    all_cons (good rfl Tryz.func81 (by decide) cf81_ok) <|
    all_cons (good rfl Tryz.func82 (by decide) cf82_ok) <|
    all_cons (good rfl Tryz.func83 (by decide) cf83_ok) <|
    all_cons (good rfl Tryz.func86 (by decide) cf86_ok) <|
    all_cons (good rfl Tryz.func87 (by decide) cf87_ok) <|
    all_cons (good rfl Tryz.func88 (by decide) cf88_ok) <|
    all_cons (good rfl Tryz.func89 (by decide) cf89_ok) <|
    all_cons (good rfl Tryz.func90 (by decide) cf90_ok) <|
    all_cons (good rfl Tryz.func91 (by decide) cf91_ok) <|
    all_cons (good rfl Tryz.func92 (by decide) cf92_ok) <|
    all_cons (good rfl Tryz.func93 (by decide) cf93_ok) <|
    all_cons (good rfl Tryz.func94 (by decide) cf94_ok) <|
    all_cons (good rfl Tryz.func95 (by decide) cf95_ok) <|
    all_cons (good rfl Tryz.func96 (by decide) cf96_ok) <|
    all_cons (good rfl Tryz.func97 (by decide) cf97_ok) <|
    all_cons (good rfl Tryz.func98 (by decide) cf98_ok) <|
    all_cons (good rfl Tryz.func99 (by decide) cf99_ok) <|
    all_cons (good rfl Tryz.func100 (by decide) cf100_ok) <|
    all_cons (good rfl Tryz.func101 (by decide) cf101_ok) <|
    all_cons (good rfl Tryz.func102 (by decide) cf102_ok) <|
    all_cons (good rfl Tryz.func103 (by decide) cf103_ok) <|
    all_cons (good rfl Tryz.func104 (by decide) cf104_ok) <|
    all_cons (good rfl Tryz.func105 (by decide) cf105_ok) <|
    all_cons (good rfl Tryz.func106 (by decide) cf106_ok) <|
    all_cons (good rfl Tryz.func107 (by decide) cf107_ok) <|
    all_cons (good rfl Tryz.func108 (by decide) cf108_ok) <|
    all_cons (good rfl Tryz.func109 (by decide) cf109_ok) <|
    all_cons (good rfl Tryz.func110 (by decide) cf110_ok) <|
    all_cons (good rfl Tryz.func111 (by decide) cf111_ok) <|
    all_cons (good rfl Tryz.func112 (by decide) cf112_ok) <|
    all_cons (good rfl Tryz.func113 (by decide) cf113_ok) <|
    all_cons (good rfl Tryz.func114 (by decide) cf114_ok) <|
    all_cons (good rfl Tryz.func115 (by decide) cf115_ok) <|
    all_cons (good rfl Tryz.func116 (by decide) cf116_ok) <|
    all_cons (good rfl Tryz.func117 (by decide) cf117_ok) <|
    all_cons (good rfl Tryz.func119 (by decide) cf119_ok) <|
    all_cons (good rfl Tryz.func122 (by decide) cf122_ok) <|
    all_cons (good rfl Tryz.func128 (by decide) cf128_ok) <|
    all_cons (good rfl Tryz.func130 (by decide) cf130_ok) <|
    all_cons (good rfl Tryz.func131 (by decide) cf131_ok) <|
    all_cons (good rfl Tryz.func132 (by decide) cf132_ok) <|
    all_cons (good rfl Tryz.func136 (by decide) cf136_ok) <|
    all_cons (good rfl Tryz.func146 (by decide) cf146_ok) <|
    all_cons (good rfl Tryz.func147 (by decide) cf147_ok) <|
    all_cons (good rfl Tryz.func148 (by decide) cf148_ok) <|
    all_cons (good rfl Tryz.func150 (by decide) cf150_ok) <|
    all_cons (good rfl Tryz.func151 (by decide) cf151_ok) <|
    all_cons (good rfl Tryz.func152 (by decide) cf152_ok) <|
    all_cons (good rfl Tryz.func153 (by decide) cf153_ok) <|
    all_cons (good rfl Tryz.func154 (by decide) cf154_ok) <|
    all_cons (good rfl Tryz.func155 (by decide) cf155_ok) <|
    all_cons (good rfl Tryz.func156 (by decide) cf156_ok) <|
    all_cons (good rfl Tryz.func157 (by decide) cf157_ok) <|
    all_cons (good rfl Tryz.func158 (by decide) cf158_ok) <|
    all_cons (good rfl Tryz.func159 (by decide) cf159_ok) <|
    all_cons (good rfl Tryz.func160 (by decide) cf160_ok) <|
    all_cons (good rfl Tryz.func161 (by decide) cf161_ok) <|
    all_cons (good rfl Tryz.func162 (by decide) cf162_ok) <|
    all_cons (good rfl Tryz.func163 (by decide) cf163_ok) <|
    all_cons (good rfl Tryz.func164 (by decide) cf164_ok) <|
    all_cons (good rfl Tryz.func165 (by decide) cf165_ok) <|
    all_cons (good rfl Tryz.func166 (by decide) cf166_ok) <|
    all_cons (good rfl Tryz.func167 (by decide) cf167_ok) <|
    all_cons (good rfl Tryz.func168 (by decide) cf168_ok) <|
    all_cons (good rfl Tryz.func170 (by decide) cf170_ok) <|
    all_cons (good rfl Tryz.func172 (by decide) cf172_ok) <|
    all_cons (good rfl Tryz.func173 (by decide) cf173_ok) <|
    all_cons (good rfl Tryz.func174 (by decide) cf174_ok) <|
    all_cons (good rfl Tryz.func175 (by decide) cf175_ok) <|
    all_cons (good rfl Tryz.func176 (by decide) cf176_ok) <|
    all_cons (good rfl Tryz.func177 (by decide) cf177_ok) <|
    all_cons (good rfl Tryz.func178 (by decide) cf178_ok) <|
    all_cons (good rfl Tryz.func179 (by decide) cf179_ok) <|
    all_cons (good rfl Tryz.func180 (by decide) cf180_ok) <|
    all_cons (good rfl Tryz.func181 (by decide) cf181_ok) <|
    all_cons (good rfl Tryz.func182 (by decide) cf182_ok) <|
    all_cons (good rfl Tryz.func183 (by decide) cf183_ok) <|
    all_cons (good rfl Tryz.func184 (by decide) cf184_ok) <|
    all_cons (good rfl Tryz.func185 (by decide) cf185_ok) <|
    all_cons (good rfl Tryz.func186 (by decide) cf186_ok) <|
    all_cons (good rfl Tryz.func187 (by decide) cf187_ok) <|
    all_cons (good rfl Tryz.func189 (by decide) cf189_ok) <|
    all_cons (good rfl Tryz.func191 (by decide) cf191_ok) <|
    all_cons (good rfl Tryz.func192 (by decide) cf192_ok) <|
    all_cons (good rfl Tryz.func193 (by decide) cf193_ok) <|
    all_cons (good rfl Tryz.func194 (by decide) cf194_ok) <|
    all_cons (good rfl Tryz.func195 (by decide) cf195_ok) <|
    all_cons (good rfl Tryz.func196 (by decide) cf196_ok) <|
    all_cons (good rfl Tryz.func197 (by decide) cf197_ok) <|
    all_cons (good rfl Tryz.func198 (by decide) cf198_ok) <|
    all_cons (good rfl Tryz.func199 (by decide) cf199_ok) <|
    all_cons (good rfl Tryz.func200 (by decide) cf200_ok) <|
    all_cons (good rfl Tryz.func201 (by decide) cf201_ok) <|
    all_cons (good rfl Tryz.func202 (by decide) cf202_ok) <|
    all_cons (good rfl Tryz.func203 (by decide) cf203_ok) <|
    all_cons (good rfl Tryz.func204 (by decide) cf204_ok) <|
    all_cons (good rfl Tryz.func205 (by decide) cf205_ok) <|
    all_cons (good rfl Tryz.func206 (by decide) cf206_ok) <|
    all_cons (good rfl Tryz.func207 (by decide) cf207_ok) <|
    all_cons (good rfl Tryz.func209 (by decide) cf209_ok) <|
    all_cons (good rfl Tryz.func210 (by decide) cf210_ok) <|
    all_cons (good rfl Tryz.func212 (by decide) cf212_ok) <|
    all_cons (good rfl Tryz.func213 (by decide) cf213_ok) <|
    all_cons (good rfl Tryz.func214 (by decide) cf214_ok) <|
    all_cons (good rfl Tryz.func216 (by decide) cf216_ok) <|
    all_cons (good rfl Tryz.func217 (by decide) cf217_ok) <|
    all_cons (good rfl Tryz.func218 (by decide) cf218_ok) <|
    all_cons (good rfl Tryz.func221 (by decide) cf221_ok) <|
    all_cons (good rfl Tryz.func226 (by decide) cf226_ok) <|
    all_cons (good rfl Tryz.func229 (by decide) cf229_ok) <|
    all_cons (good rfl Tryz.func237 (by decide) cf237_ok) <|
    all_cons (good rfl Tryz.func238 (by decide) cf238_ok) <|
    all_cons (good rfl Tryz.func239 (by decide) cf239_ok) <|
    all_cons (good rfl Tryz.func240 (by decide) cf240_ok) <|
    all_cons (good rfl Tryz.func241 (by decide) cf241_ok) <|
    all_cons (good rfl Tryz.func243 (by decide) cf243_ok) <|
    all_cons (good rfl Tryz.func244 (by decide) cf244_ok) <|
    all_cons (good rfl Tryz.func245 (by decide) cf245_ok) <|
    all_cons (good rfl Tryz.func246 (by decide) cf246_ok) <|
    all_cons (good rfl Tryz.func248 (by decide) cf248_ok) <|
    all_cons (good rfl Tryz.func250 (by decide) cf250_ok) <|
    all_cons (good rfl Tryz.func252 (by decide) cf252_ok) <|
    all_cons (good rfl Tryz.func253 (by decide) cf253_ok) <|
    all_cons (good rfl Tryz.func254 (by decide) cf254_ok) <|
    all_cons (good rfl Tryz.func255 (by decide) cf255_ok) <|
    all_cons (good rfl Tryz.func257 (by decide) cf257_ok) <|
    all_cons (good rfl Tryz.func259 (by decide) cf259_ok) <|
    all_cons (good rfl Tryz.func260 (by decide) cf260_ok) <|
    all_cons (good rfl Tryz.func261 (by decide) cf261_ok) <|
    all_cons (good rfl Tryz.func263 (by decide) cf263_ok) <|
    all_cons (good rfl Tryz.func264 (by decide) cf264_ok) <|
    all_cons (good rfl Tryz.func265 (by decide) cf265_ok) <|
    all_cons (good rfl Tryz.func266 (by decide) cf266_ok) <|
    all_cons (good rfl Tryz.func267 (by decide) cf267_ok) <|
    all_cons (good rfl Tryz.func268 (by decide) cf268_ok) <|
    all_cons (good rfl Tryz.func269 (by decide) cf269_ok) <|
    all_cons (good rfl Tryz.func270 (by decide) cf270_ok) <|
    all_cons (good rfl Tryz.func271 (by decide) cf271_ok) <|
    all_cons (good rfl Tryz.func272 (by decide) cf272_ok) <|
    all_cons (good rfl Tryz.func273 (by decide) cf273_ok) <|
    all_cons (good rfl Tryz.func275 (by decide) cf275_ok) <|
    all_cons (good rfl Tryz.func276 (by decide) cf276_ok) <|
    all_cons (good rfl Tryz.func280 (by decide) cf280_ok) <|
    all_cons (good rfl Tryz.func281 (by decide) cf281_ok) <|
    all_cons (good rfl Tryz.func283 (by decide) cf283_ok) <|
    all_cons (good rfl Tryz.func284 (by decide) cf284_ok) <|
    all_cons (good rfl Tryz.func285 (by decide) cf285_ok) <|
    all_cons (good rfl Tryz.func286 (by decide) cf286_ok) <|
    all_cons (good rfl Tryz.func287 (by decide) cf287_ok) <|
    all_cons (good rfl Tryz.func293 (by decide) cf293_ok) <|
    all_cons (good rfl Tryz.func294 (by decide) cf294_ok) <|
    all_cons (good rfl Tryz.func295 (by decide) cf295_ok) <|
    all_cons (good rfl Tryz.func296 (by decide) cf296_ok) <|
    all_cons (good rfl Tryz.func297 (by decide) cf297_ok) <|
    all_cons (good rfl Tryz.func298 (by decide) cf298_ok) <|
    all_cons (good rfl Tryz.func299 (by decide) cf299_ok) <|
    all_cons (good rfl Tryz.func300 (by decide) cf300_ok) <|
    all_cons (good rfl Tryz.func301 (by decide) cf301_ok) <|
    all_cons (good rfl Tryz.func302 (by decide) cf302_ok) <|
    all_cons (good rfl Tryz.func303 (by decide) cf303_ok) <|
    all_cons (good rfl Tryz.func304 (by decide) cf304_ok) <|
    all_cons (good rfl Tryz.func305 (by decide) cf305_ok) <|
    all_cons (good rfl Tryz.func306 (by decide) cf306_ok) <|
    all_cons (good rfl Tryz.func307 (by decide) cf307_ok) <|
    all_cons (good rfl Tryz.func309 (by decide) cf309_ok) <|
    all_cons (good rfl Tryz.func310 (by decide) cf310_ok) <|
    all_cons (good rfl Tryz.func311 (by decide) cf311_ok) <|
    all_cons (good rfl Tryz.func312 (by decide) cf312_ok) <|
    all_cons (good rfl Tryz.func313 (by decide) cf313_ok) <|
    all_cons (good rfl Tryz.func314 (by decide) cf314_ok) <|
    all_cons (good rfl Tryz.func315 (by decide) cf315_ok) <|
    all_cons (good rfl Tryz.func316 (by decide) cf316_ok) <|
    all_cons (good rfl Tryz.func317 (by decide) cf317_ok) <|
    all_cons (good rfl Tryz.func318 (by decide) cf318_ok) <|
    all_cons (good rfl Tryz.func319 (by decide) cf319_ok) <|
    all_cons (good rfl Tryz.func320 (by decide) cf320_ok) <|
    all_cons (good rfl Tryz.func321 (by decide) cf321_ok) <|
    all_cons (good rfl Tryz.func322 (by decide) cf322_ok) <|
    all_cons (good rfl Tryz.func323 (by decide) cf323_ok) <|
    all_cons (good rfl Tryz.func324 (by decide) cf324_ok) <|
    all_cons (good rfl Tryz.func325 (by decide) cf325_ok) <|
    all_cons (good rfl Tryz.func326 (by decide) cf326_ok) <|
    all_cons (good rfl Tryz.func328 (by decide) cf328_ok) <|
    all_cons (good rfl Tryz.func329 (by decide) cf329_ok) <|
    all_cons (good rfl Tryz.func330 (by decide) cf330_ok) <|
    all_cons (good rfl Tryz.func331 (by decide) cf331_ok) <|
    all_cons (good rfl Tryz.func334 (by decide) cf334_ok) <|
    all_cons (good rfl Tryz.func335 (by decide) cf335_ok) <|
    all_cons (good rfl Tryz.func336 (by decide) cf336_ok) <|
    all_cons (good rfl Tryz.func343 (by decide) cf343_ok) <|
    all_cons (good rfl Tryz.func351 (by decide) cf351_ok) <|
    all_cons (good rfl Tryz.func355 (by decide) cf355_ok) <|
    all_cons (good rfl Tryz.func363 (by decide) cf363_ok) <|
    all_cons (good rfl Tryz.func364 (by decide) cf364_ok) <|
    all_cons (good rfl Tryz.func365 (by decide) cf365_ok) <|
    all_cons (good rfl Tryz.func367 (by decide) cf367_ok) <|
    all_cons (good rfl Tryz.func371 (by decide) cf371_ok) <|
    all_cons (good rfl Tryz.func372 (by decide) cf372_ok) <|
    all_cons (good rfl Tryz.func373 (by decide) cf373_ok) <|
    all_cons (good rfl Tryz.func376 (by decide) cf376_ok) <|
    all_cons (good rfl Tryz.func377 (by decide) cf377_ok) <|
    all_cons (good rfl Tryz.func379 (by decide) cf379_ok) <|
    all_cons (good rfl Tryz.func380 (by decide) cf380_ok) <|
    all_cons (good rfl Tryz.func382 (by decide) cf382_ok) <|
    all_cons (good rfl Tryz.func383 (by decide) cf383_ok) <|
    all_cons (good rfl Tryz.func384 (by decide) cf384_ok) <|
    all_cons (good rfl Tryz.func387 (by decide) cf387_ok) <|
    all_cons (good rfl Tryz.func388 (by decide) cf388_ok) <|
    all_cons (good rfl Tryz.func389 (by decide) cf389_ok) <|
    all_cons (good rfl Tryz.func390 (by decide) cf390_ok) <|
    all_cons (good rfl Tryz.func391 (by decide) cf391_ok) <|
    all_cons (good rfl Tryz.func392 (by decide) cf392_ok) <|
    all_cons (good rfl Tryz.func393 (by decide) cf393_ok) <|
    all_cons (good rfl Tryz.func394 (by decide) cf394_ok) <|
    all_cons (good rfl Tryz.func396 (by decide) cf396_ok) <|
    all_cons (good rfl Tryz.func397 (by decide) cf397_ok) <|
    all_cons (good rfl Tryz.func398 (by decide) cf398_ok) <|
    all_cons (good rfl Tryz.func399 (by decide) cf399_ok) <|
    all_cons (good rfl Tryz.func400 (by decide) cf400_ok) <|
    all_cons (good rfl Tryz.func401 (by decide) cf401_ok) <|
    all_cons (good rfl Tryz.func402 (by decide) cf402_ok) <|
    all_cons (good rfl Tryz.func412 (by decide) cf412_ok) <|
    all_cons (good rfl Tryz.func417 (by decide) cf417_ok) <|
    all_cons (good rfl Tryz.func420 (by decide) cf420_ok) <|
    all_cons (good rfl Tryz.func421 (by decide) cf421_ok) <|
    all_cons (good rfl Tryz.func422 (by decide) cf422_ok) <|
    all_cons (good rfl Tryz.func423 (by decide) cf423_ok) <|
    all_cons (good rfl Tryz.func424 (by decide) cf424_ok) <|
    all_cons (good rfl Tryz.func425 (by decide) cf425_ok) <|
    all_cons (good rfl Tryz.func426 (by decide) cf426_ok) <|
    all_cons (good rfl Tryz.func427 (by decide) cf427_ok) <|
    all_cons (good rfl Tryz.func428 (by decide) cf428_ok) <|
    all_cons (good rfl Tryz.func429 (by decide) cf429_ok) <|
    all_cons (good rfl Tryz.func430 (by decide) cf430_ok) <|
    all_cons (good rfl Tryz.func431 (by decide) cf431_ok) <|
    all_cons (good rfl Tryz.func432 (by decide) cf432_ok) <|
    all_cons (good rfl Tryz.func433 (by decide) cf433_ok) <|
    all_cons (good rfl Tryz.func437 (by decide) cf437_ok) <|
    all_cons (good rfl Tryz.func438 (by decide) cf438_ok) <|
    all_cons (good rfl Tryz.func439 (by decide) cf439_ok) <|
    all_cons (good rfl Tryz.func440 (by decide) cf440_ok) <|
    all_cons (good rfl Tryz.func441 (by decide) cf441_ok) <|
    all_cons (good rfl Tryz.func447 (by decide) cf447_ok) <|
    all_cons (good rfl Tryz.func460 (by decide) cf460_ok) <|
    all_cons (good rfl Tryz.func461 (by decide) cf461_ok) <|
    all_cons (good rfl Tryz.func465 (by decide) cf465_ok) <|
    all_cons (good rfl Tryz.func472 (by decide) cf472_ok) <|
    all_cons (good rfl Tryz.func473 (by decide) cf473_ok) <|
    all_cons (good rfl Tryz.func474 (by decide) cf474_ok) <|
    all_cons (good rfl Tryz.func475 (by decide) cf475_ok) <|
    all_cons (good rfl Tryz.func476 (by decide) cf476_ok) <|
    all_cons (good rfl Tryz.func478 (by decide) cf478_ok) <|
    all_cons (good rfl Tryz.func479 (by decide) cf479_ok) <|
    all_cons (good rfl Tryz.func480 (by decide) cf480_ok) <|
    all_cons (good rfl Tryz.func483 (by decide) cf483_ok) <|
    all_cons (good rfl Tryz.func490 (by decide) cf490_ok) <|
    all_cons (good rfl Tryz.func491 (by decide) cf491_ok) <|
    all_cons (good rfl Tryz.func494 (by decide) cf494_ok) <|
    all_cons (good rfl Tryz.func500 (by decide) cf500_ok) <|
    all_cons (good rfl Tryz.func504 (by decide) cf504_ok) <|
    all_cons (good rfl Tryz.func505 (by decide) cf505_ok) <|
    all_cons (good rfl Tryz.func506 (by decide) cf506_ok) <|
    all_cons (good rfl Tryz.func511 (by decide) cf511_ok) <|
    all_cons (good rfl Tryz.func512 (by decide) cf512_ok) <|
    all_cons (good rfl Tryz.func513 (by decide) cf513_ok) <|
    all_cons (good rfl Tryz.func515 (by decide) cf515_ok) <|
    all_cons (good rfl Tryz.func517 (by decide) cf517_ok) <|
    all_cons (good rfl Tryz.func525 (by decide) cf525_ok) <|
    all_cons (good rfl Tryz.func526 (by decide) cf526_ok) <|
    all_cons (good rfl Tryz.func534 (by decide) cf534_ok) <|
    all_cons (good rfl Tryz.func535 (by decide) cf535_ok) <|
    all_cons (good rfl Tryz.func544 (by decide) cf544_ok) <|
    all_cons (good rfl Tryz.func545 (by decide) cf545_ok) <|
    all_cons (good rfl Tryz.func554 (by decide) cf554_ok) <|
    all_cons (good rfl Tryz.func555 (by decide) cf555_ok) <|
    all_cons (good rfl Tryz.func556 (by decide) cf556_ok) <|
    all_cons (good rfl Tryz.func558 (by decide) cf558_ok) <|
    all_cons (good rfl Tryz.func561 (by decide) cf561_ok) <|
    all_cons (good rfl Tryz.func568 (by decide) cf568_ok) <|
    all_cons (good rfl Tryz.func577 (by decide) cf577_ok) <|
    all_cons (good rfl Tryz.func578 (by decide) cf578_ok) <|
    all_cons (good rfl Tryz.func591 (by decide) cf591_ok) <|
    all_cons (good rfl Tryz.func592 (by decide) cf592_ok) <|
    all_cons (good rfl Tryz.func594 (by decide) cf594_ok) <|
    all_cons (good rfl Tryz.func612 (by decide) cf612_ok) <|
    all_cons (good rfl Tryz.func613 (by decide) cf613_ok) <|
    all_cons (good rfl Tryz.func615 (by decide) cf615_ok) <|
    all_cons (good rfl Tryz.func616 (by decide) cf616_ok) <|
    all_cons (good rfl Tryz.func621 (by decide) cf621_ok) <|
    all_cons (good rfl Tryz.func622 (by decide) cf622_ok) <|
    all_cons (good rfl Tryz.func623 (by decide) cf623_ok) <|
    all_cons (good rfl Tryz.func624 (by decide) cf624_ok) <|
    all_cons (good rfl Tryz.func634 (by decide) cf634_ok) <|
    all_cons (good rfl Tryz.func637 (by decide) cf637_ok) <|
    all_cons (good rfl Tryz.func638 (by decide) cf638_ok) <|
    all_cons (good rfl Tryz.func639 (by decide) cf639_ok) <|
    all_cons (good rfl Tryz.func647 (by decide) cf647_ok) <|
    all_cons (good rfl Tryz.func648 (by decide) cf648_ok) <|
    all_cons (good rfl Tryz.func649 (by decide) cf649_ok) <|
    all_cons (good rfl Tryz.func672 (by decide) cf672_ok) <|
    all_cons (good rfl Tryz.func679 (by decide) cf679_ok) <|
    all_cons (good rfl Tryz.func681 (by decide) cf681_ok) <|
    all_cons (good rfl Tryz.func682 (by decide) cf682_ok) <|
    all_cons (good rfl Tryz.func683 (by decide) cf683_ok) <|
    all_cons (good rfl Tryz.func684 (by decide) cf684_ok) <|
    all_cons (good rfl Tryz.func688 (by decide) cf688_ok) <| all_nil
theorem tabC_ok : TabOk Tryz.prog TP (fun f => tabC.get f) := by
  intro f cf e
  obtain ⟨_, fn, h1, h2, h3⟩ := tabL_good _ (trP_get (fun q hq => (tabL_good q hq).1) e)
  exact ⟨fn, h1, beq_eq_false_iff_ne.1 h2, h3⟩
abbrev Prim := List V → H → Option (V × H)
def PrimsOk (l : List (Nat × Prim)) : Prop := ∀ p ∈ l, p.1 < keys ∧ PrimOf p.1 p.2
noncomputable def callS (l : List (Nat × Prim)) (n : Nat) : CallT := callK (fun f => (trP l).get f) tabF n
theorem callS_ok {l : List (Nat × Prim)} (h : PrimsOk l) (n : Nat) : CallOk Tryz.prog TP (callS l n) := by
  have : callS l n = callN (fun f => (trP l).get f) (fun f => tabC.get f) n := callK_eq _ _ n
  rw [this]
  exact callN_ok tyOk mixed (fun f p e => (h _ (trP_get (fun q hq => (h q hq).1) e)).2) tabC_ok n
theorem PrimsOk.nil : PrimsOk [] := fun _ h => by cases h
theorem PrimsOk.cons {f : Nat} {p : Prim} {l : List (Nat × Prim)} (h0 : Nat.blt f 1000 = true) (h : PrimOf f p) (k : PrimsOk l) : PrimsOk ((f, p) :: l) := fun q hq => by
  cases hq with
  | head => exact ⟨Nat.lt_of_lt_of_le (by simpa using h0) (by decide : (1000 : Nat) ≤ keys), h⟩
  | tail _ hq => exact k q hq
noncomputable def H0 : H := ⟨Tr.put (Tr.put .e 0 (some (.ro (lenL tbl) (trOf tbl 0 .e)))) 1 (some (.ro (lenL tbS) (trOf tbS 0 .e))), 2⟩
theorem tbl_flat : tbl.all flat = true := by kernel_rfl
theorem tbS_flat : tbS.all flat = true := by kernel_rfl
theorem tbl_len : lenL tbl = 256 := by kernel_rfl
theorem tbS_len : lenL tbS = 64 := by kernel_rfl
end Ev
end Go.Proofs.YtihflniehaaakaaGreatDoor
