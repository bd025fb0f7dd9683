/-
  The program's code, as a table; closed runs over it.
-/
import Derived.Test.YtgeccgjpiaiifaaGreatDoorMkTab1
import Derived.Test.YtgeccgjpiaiifaaGreatDoorMkTab2
import Derived.Test.YtgeccgjpiaiifaaGreatDoorMkTab3
import Derived.Test.YtgeccgjpiaiifaaGreatDoorMkTab4
import Derived.Test.YtgeccgjpiaiifaaGreatDoorEvFast3
import Derived.Test.YtgeccgjpiaiifaaGreatDoorEvSame
namespace Go.Proofs.YtgeccgjpiaiifaaGreatDoor
namespace Ev

theorem tyOk_of (P : Program) (pin : List (Nat × Nat × Nat × Tr V)) : TyOk P ⟨P.info?, P.underlying, fun t => !P.stoodInHeld t && !P.eqGuardType P.depth t, pin⟩ := ⟨fun _ _ h => h, fun _ _ h => h, fun t h => by
  have h : (!P.stoodInHeld t && !P.eqGuardType P.depth t) = true := h
  simpa using h⟩
theorem tyOk : TyOk Tryz.prog TP := tyOk_of Tryz.prog _
theorem mixed : Tryz.prog.follows .mixedOrders = true := by kernel_rfl
/-- What is known of one function. -/
def PrimOf (f : FuncId) (p : List V → H → Option (V × H)) : Prop :=
  ∀ vs h v h', p vs h = some (v, h') → ∀ g w us, WR TP g h w → Glob TP g h → VRs g vs us → CallFn Tryz.prog TP f us g h w v h'
noncomputable section
def trP {α : Type} (l : List (Nat × α)) : Tr α := List.rec (motive := fun _ => Tr α) .e (fun p _ ih => ih.put p.1 (some p.2)) l
end
theorem trP_get {α : Type} : ∀ {l : List (Nat × α)} {f : Nat} {p : α}, (∀ q ∈ l, q.1 < keys) → (trP l).get f = some p → (f, p) ∈ l
  | [], _, _, _, e => by cases e
  | q :: l, f, p, hk, e => by
    have e : ((trP l).put q.1 (some q.2)).get f = some p := e
    rw [Tr.get_put _ _ _ _ (hk q List.mem_cons_self)] at e
    by_cases h : f = q.1
    · rw [if_pos h] at e
      cases e
      rw [h]
      exact List.mem_cons_self
    · rw [if_neg h] at e
      exact List.mem_cons_of_mem _ (trP_get (fun q hq => hk q (List.mem_cons_of_mem _ hq)) e)
def Good (p : Nat × CF) : Prop := p.1 < keys ∧ ∃ fn, Tryz.prog.funcs[p.1]? = some fn ∧ (fn.name == "runtime.NumGoroutine") = false ∧ compF TP fn = some p.2
theorem good {f : Nat} {fn : Func} {c : CF} (h0 : Nat.blt f 1000 = true) (h1 : Tryz.prog.funcs[f]? = some fn) (h2 : (fn.name == "runtime.NumGoroutine") = false) (h3 : compF TP fn = some c) : Good (f, c) :=
  ⟨Nat.lt_of_lt_of_le (by simpa using h0) (by decide : (1000 : Nat) ≤ keys), fn, h1, h2, h3⟩
noncomputable section
def tabL : List (Nat × CF) := [(3, cf3), (4, cf4), (5, cf5), (6, cf6), (7, cf7), (8, cf8), (9, cf9), (10, cf10), (11, cf11), (12, cf12), (13, cf13), (14, cf14), (15, cf15), (16, cf16), (17, cf17), (18, cf18), (19, cf19), (20, cf20), (21, cf21), (22, cf22), (23, cf23), (24, cf24), (25, cf25), (26, cf26), (27, cf27), (28, cf28), (29, cf29), (30, cf30), (31, cf31), (32, cf32), (33, cf33), (34, cf34), (35, cf35), (36, cf36), (37, cf37), (38, cf38), (39, cf39), (40, cf40), (41, cf41), (42, cf42), (43, cf43), (44, cf44), (45, cf45), (46, cf46), (47, cf47), (51, cf51), (52, cf52), (53, cf53), (54, cf54), (55, cf55), (56, cf56), (57, cf57), (58, cf58), (59, cf59), (60, cf60), (61, cf61), (62, cf62), (63, cf63), (64, cf64), (65, cf65), (67, cf67), (68, cf68), (69, cf69), (70, cf70), (77, cf77), (78, cf78), (81, cf81), (86, cf86), (99, cf99), (100, cf100), (101, cf101), (102, cf102), (104, cf104), (105, cf105), (107, cf107), (108, cf108), (109, cf109), (110, cf110), (112, cf112), (113, cf113), (114, cf114), (115, cf115), (116, cf116), (117, cf117), (118, cf118), (119, cf119), (120, cf120), (121, cf121), (122, cf122), (123, cf123), (124, cf124), (125, cf125), (126, cf126), (128, cf128), (136, cf136), (137, cf137), (138, cf138), (139, cf139), (140, cf140), (141, cf141), (147, cf147), (149, cf149), (155, cf155), (156, cf156), (157, cf157), (158, cf158), (159, cf159), (161, cf161), (162, cf162), (163, cf163), (164, cf164), (165, cf165), (166, cf166), (167, cf167), (168, cf168), (169, cf169), (170, cf170), (171, cf171), (172, cf172), (173, cf173), (177, cf177), (178, cf178), (179, cf179), (180, cf180), (181, cf181), (182, cf182), (183, cf183), (184, cf184), (185, cf185), (187, cf187), (188, cf188), (189, cf189), (192, cf192), (193, cf193), (194, cf194), (196, cf196), (197, cf197), (202, cf202), (206, cf206), (207, cf207), (208, cf208), (211, cf211), (212, cf212), (222, cf222), (224, cf224), (230, cf230), (231, cf231), (232, cf232), (233, cf233), (234, cf234), (235, cf235), (236, cf236), (237, cf237), (239, cf239), (240, cf240), (243, cf243), (244, cf244), (245, cf245), (246, cf246), (247, cf247), (248, cf248), (249, cf249), (251, cf251), (252, cf252), (253, cf253), (254, cf254), (255, cf255), (256, cf256), (257, cf257), (258, cf258), (259, cf259), (260, cf260), (267, cf267), (268, cf268), (270, cf270), (277, cf277), (278, cf278), (280, cf280), (281, cf281), (284, cf284), (286, cf286), (288, cf288), (298, cf298), (299, cf299), (300, cf300), (301, cf301), (302, cf302), (303, cf303), (304, cf304), (306, cf306), (307, cf307), (308, cf308), (309, cf309), (310, cf310), (311, cf311), (312, cf312), (313, cf313), (314, cf314), (316, cf316), (317, cf317), (318, cf318), (321, cf321), (322, cf322), (324, cf324), (336, cf336), (341, cf341), (379, cf379), (380, cf380), (381, cf381), (382, cf382), (383, cf383), (384, cf384), (388, cf388), (394, cf394), (398, cf398), (401, cf401), (402, cf402), (403, cf403), (405, cf405), (425, cf425), (426, cf426), (427, cf427), (428, cf428), (429, cf429), (448, cf448), (449, cf449), (450, cf450), (452, cf452), (455, cf455)]
def tabC : Tr CF := trP tabL
def tabF (f : FuncId) : Option FF := ob (tabC.get f) fun c => some (fastF c)
end
theorem all_nil : ∀ p ∈ ([] : List (Nat × CF)), Good p := fun _ h => by cases h
theorem all_cons {p : Nat × CF} {l : List (Nat × CF)} (h : Good p) (k : ∀ q ∈ l, Good q) : ∀ q ∈ p :: l, Good q := fun q hq => by
  cases hq with
  | head => exact h
  | tail _ hq => exact k q hq
set_option maxRecDepth 100000 in
theorem tabL_good : ∀ p ∈ tabL, Good p := by
  unfold tabL
  exact all_cons (good rfl Tryz.func3 (by decide) cf3_ok) <|
    all_cons (good rfl Tryz.func4 (by decide) cf4_ok) <|
    all_cons (good rfl Tryz.func5 (by decide) cf5_ok) <|
    all_cons (good rfl Tryz.func6 (by decide) cf6_ok) <|
    all_cons (good rfl Tryz.func7 (by decide) cf7_ok) <|
    all_cons (good rfl Tryz.func8 (by decide) cf8_ok) <|
    all_cons (good rfl Tryz.func9 (by decide) cf9_ok) <|
    all_cons (good rfl Tryz.func10 (by decide) cf10_ok) <|
    all_cons (good rfl Tryz.func11 (by decide) cf11_ok) <|
    all_cons (good rfl Tryz.func12 (by decide) cf12_ok) <|
    all_cons (good rfl Tryz.func13 (by decide) cf13_ok) <|
    all_cons (good rfl Tryz.func14 (by decide) cf14_ok) <|
    all_cons (good rfl Tryz.func15 (by decide) cf15_ok) <|
    all_cons (good rfl Tryz.func16 (by decide) cf16_ok) <|
    all_cons (good rfl Tryz.func17 (by decide) cf17_ok) <|
    all_cons (good rfl Tryz.func18 (by decide) cf18_ok) <|
    all_cons (good rfl Tryz.func19 (by decide) cf19_ok) <|
    all_cons (good rfl Tryz.func20 (by decide) cf20_ok) <|
    all_cons (good rfl Tryz.func21 (by decide) cf21_ok) <|
    all_cons (good rfl Tryz.func22 (by decide) cf22_ok) <|
    all_cons (good rfl Tryz.func23 (by decide) cf23_ok) <|
    all_cons (good rfl Tryz.func24 (by decide) cf24_ok) <|
    all_cons (good rfl Tryz.func25 (by decide) cf25_ok) <|
    all_cons (good rfl Tryz.func26 (by decide) cf26_ok) <|
    all_cons (good rfl Tryz.func27 (by decide) cf27_ok) <|
    all_cons (good rfl Tryz.func28 (by decide) cf28_ok) <|
    all_cons (good rfl Tryz.func29 (by decide) cf29_ok) <|
    all_cons (good rfl Tryz.func30 (by decide) cf30_ok) <|
    all_cons (good rfl Tryz.func31 (by decide) cf31_ok) <|
    all_cons (good rfl Tryz.func32 (by decide) cf32_ok) <|
    all_cons (good rfl Tryz.func33 (by decide) cf33_ok) <|
    all_cons (good rfl Tryz.func34 (by decide) cf34_ok) <|
    all_cons (good rfl Tryz.func35 (by decide) cf35_ok) <|
    all_cons (good rfl Tryz.func36 (by decide) cf36_ok) <|
    all_cons (good rfl Tryz.func37 (by decide) cf37_ok) <|
    all_cons (good rfl Tryz.func38 (by decide) cf38_ok) <|
    all_cons (good rfl Tryz.func39 (by decide) cf39_ok) <|
    all_cons (good rfl Tryz.func40 (by decide) cf40_ok) <|
    all_cons (good rfl Tryz.func41 (by decide) cf41_ok) <|
    all_cons (good rfl Tryz.func42 (by decide) cf42_ok) <|
    all_cons (good rfl Tryz.func43 (by decide) cf43_ok) <|
    all_cons (good rfl Tryz.func44 (by decide) cf44_ok) <|
    all_cons (good rfl Tryz.func45 (by decide) cf45_ok) <|
    all_cons (good rfl Tryz.func46 (by decide) cf46_ok) <|
    all_cons (good rfl Tryz.func47 (by decide) cf47_ok) <|
    all_cons (good rfl Tryz.func51 (by decide) cf51_ok) <|
    all_cons (good rfl Tryz.func52 (by decide) cf52_ok) <|
    all_cons (good rfl Tryz.func53 (by decide) cf53_ok) <|
    all_cons (good rfl Tryz.func54 (by decide) cf54_ok) <|
    all_cons (good rfl Tryz.func55 (by decide) cf55_ok) <|
    all_cons (good rfl Tryz.func56 (by decide) cf56_ok) <|
    all_cons (good rfl Tryz.func57 (by decide) cf57_ok) <|
    all_cons (good rfl Tryz.func58 (by decide) cf58_ok) <|
    all_cons (good rfl Tryz.func59 (by decide) cf59_ok) <|
    all_cons (good rfl Tryz.func60 (by decide) cf60_ok) <|
    all_cons (good rfl Tryz.func61 (by decide) cf61_ok) <|
    all_cons (good rfl Tryz.func62 (by decide) cf62_ok) <|
    all_cons (good rfl Tryz.func63 (by decide) cf63_ok) <|
    all_cons (good rfl Tryz.func64 (by decide) cf64_ok) <|
    all_cons (good rfl Tryz.func65 (by decide) cf65_ok) <|
    all_cons (good rfl Tryz.func67 (by decide) cf67_ok) <|
    all_cons (good rfl Tryz.func68 (by decide) cf68_ok) <|
    all_cons (good rfl Tryz.func69 (by decide) cf69_ok) <|
    all_cons (good rfl Tryz.func70 (by decide) cf70_ok) <|
    all_cons (good rfl Tryz.func77 (by decide) cf77_ok) <|
    all_cons (good rfl Tryz.func78 (by decide) cf78_ok) <|
    all_cons (good rfl Tryz.func81 (by decide) cf81_ok) <|
    all_cons (good rfl Tryz.func86 (by decide) cf86_ok) <|
    all_cons (good rfl Tryz.func99 (by decide) cf99_ok) <|
    all_cons (good rfl Tryz.func100 (by decide) cf100_ok) <|
    all_cons (good rfl Tryz.func101 (by decide) cf101_ok) <|
    all_cons (good rfl Tryz.func102 (by decide) cf102_ok) <|
    all_cons (good rfl Tryz.func104 (by decide) cf104_ok) <|
    all_cons (good rfl Tryz.func105 (by decide) cf105_ok) <|
    all_cons (good rfl Tryz.func107 (by decide) cf107_ok) <|
    all_cons (good rfl Tryz.func108 (by decide) cf108_ok) <|
    all_cons (good rfl Tryz.func109 (by decide) cf109_ok) <|
    all_cons (good rfl Tryz.func110 (by decide) cf110_ok) <|
    all_cons (good rfl Tryz.func112 (by decide) cf112_ok) <|
    all_cons (good rfl Tryz.func113 (by decide) cf113_ok) <|
    all_cons (good rfl Tryz.func114 (by decide) cf114_ok) <|
    all_cons (good rfl Tryz.func115 (by decide) cf115_ok) <|
    all_cons (good rfl Tryz.func116 (by decide) cf116_ok) <|
    all_cons (good rfl Tryz.func117 (by decide) cf117_ok) <|
    all_cons (good rfl Tryz.func118 (by decide) cf118_ok) <|
    all_cons (good rfl Tryz.func119 (by decide) cf119_ok) <|
    all_cons (good rfl Tryz.func120 (by decide) cf120_ok) <|
    all_cons (good rfl Tryz.func121 (by decide) cf121_ok) <|
    all_cons (good rfl Tryz.func122 (by decide) cf122_ok) <|
    all_cons (good rfl Tryz.func123 (by decide) cf123_ok) <|
    all_cons (good rfl Tryz.func124 (by decide) cf124_ok) <|
    all_cons (good rfl Tryz.func125 (by decide) cf125_ok) <|
    all_cons (good rfl Tryz.func126 (by decide) cf126_ok) <|
    all_cons (good rfl Tryz.func128 (by decide) cf128_ok) <|
    all_cons (good rfl Tryz.func136 (by decide) cf136_ok) <|
    all_cons (good rfl Tryz.func137 (by decide) cf137_ok) <|
    all_cons (good rfl Tryz.func138 (by decide) cf138_ok) <|
    all_cons (good rfl Tryz.func139 (by decide) cf139_ok) <|
    all_cons (good rfl Tryz.func140 (by decide) cf140_ok) <|
    all_cons (good rfl Tryz.func141 (by decide) cf141_ok) <|
    all_cons (good rfl Tryz.func147 (by decide) cf147_ok) <|
    all_cons (good rfl Tryz.func149 (by decide) cf149_ok) <|
    all_cons (good rfl Tryz.func155 (by decide) cf155_ok) <|
    all_cons (good rfl Tryz.func156 (by decide) cf156_ok) <|
    all_cons (good rfl Tryz.func157 (by decide) cf157_ok) <|
    all_cons (good rfl Tryz.func158 (by decide) cf158_ok) <|
    all_cons (good rfl Tryz.func159 (by decide) cf159_ok) <|
    all_cons (good rfl Tryz.func161 (by decide) cf161_ok) <|
    all_cons (good rfl Tryz.func162 (by decide) cf162_ok) <|
    all_cons (good rfl Tryz.func163 (by decide) cf163_ok) <|
    all_cons (good rfl Tryz.func164 (by decide) cf164_ok) <|
    all_cons (good rfl Tryz.func165 (by decide) cf165_ok) <|
    all_cons (good rfl Tryz.func166 (by decide) cf166_ok) <|
    all_cons (good rfl Tryz.func167 (by decide) cf167_ok) <|
    all_cons (good rfl Tryz.func168 (by decide) cf168_ok) <|
    all_cons (good rfl Tryz.func169 (by decide) cf169_ok) <|
    all_cons (good rfl Tryz.func170 (by decide) cf170_ok) <|
    all_cons (good rfl Tryz.func171 (by decide) cf171_ok) <|
    all_cons (good rfl Tryz.func172 (by decide) cf172_ok) <|
    all_cons (good rfl Tryz.func173 (by decide) cf173_ok) <|
    all_cons (good rfl Tryz.func177 (by decide) cf177_ok) <|
    all_cons (good rfl Tryz.func178 (by decide) cf178_ok) <|
    all_cons (good rfl Tryz.func179 (by decide) cf179_ok) <|
    all_cons (good rfl Tryz.func180 (by decide) cf180_ok) <|
    all_cons (good rfl Tryz.func181 (by decide) cf181_ok) <|
    all_cons (good rfl Tryz.func182 (by decide) cf182_ok) <|
    all_cons (good rfl Tryz.func183 (by decide) cf183_ok) <|
    all_cons (good rfl Tryz.func184 (by decide) cf184_ok) <|
    all_cons (good rfl Tryz.func185 (by decide) cf185_ok) <|
    all_cons (good rfl Tryz.func187 (by decide) cf187_ok) <|
    all_cons (good rfl Tryz.func188 (by decide) cf188_ok) <|
    all_cons (good rfl Tryz.func189 (by decide) cf189_ok) <|
    all_cons (good rfl Tryz.func192 (by decide) cf192_ok) <|
    all_cons (good rfl Tryz.func193 (by decide) cf193_ok) <|
    all_cons (good rfl Tryz.func194 (by decide) cf194_ok) <|
    all_cons (good rfl Tryz.func196 (by decide) cf196_ok) <|
    all_cons (good rfl Tryz.func197 (by decide) cf197_ok) <|
    all_cons (good rfl Tryz.func202 (by decide) cf202_ok) <|
    all_cons (good rfl Tryz.func206 (by decide) cf206_ok) <|
    all_cons (good rfl Tryz.func207 (by decide) cf207_ok) <|
    all_cons (good rfl Tryz.func208 (by decide) cf208_ok) <|
    all_cons (good rfl Tryz.func211 (by decide) cf211_ok) <|
    all_cons (good rfl Tryz.func212 (by decide) cf212_ok) <|
    all_cons (good rfl Tryz.func222 (by decide) cf222_ok) <|
    all_cons (good rfl Tryz.func224 (by decide) cf224_ok) <|
    all_cons (good rfl Tryz.func230 (by decide) cf230_ok) <|
    all_cons (good rfl Tryz.func231 (by decide) cf231_ok) <|
    all_cons (good rfl Tryz.func232 (by decide) cf232_ok) <|
    all_cons (good rfl Tryz.func233 (by decide) cf233_ok) <|
    all_cons (good rfl Tryz.func234 (by decide) cf234_ok) <|
    all_cons (good rfl Tryz.func235 (by decide) cf235_ok) <|
    all_cons (good rfl Tryz.func236 (by decide) cf236_ok) <|
    all_cons (good rfl Tryz.func237 (by decide) cf237_ok) <|
    all_cons (good rfl Tryz.func239 (by decide) cf239_ok) <|
    all_cons (good rfl Tryz.func240 (by decide) cf240_ok) <|
    all_cons (good rfl Tryz.func243 (by decide) cf243_ok) <|
    all_cons (good rfl Tryz.func244 (by decide) cf244_ok) <|
    all_cons (good rfl Tryz.func245 (by decide) cf245_ok) <|
    all_cons (good rfl Tryz.func246 (by decide) cf246_ok) <|
    all_cons (good rfl Tryz.func247 (by decide) cf247_ok) <|
    all_cons (good rfl Tryz.func248 (by decide) cf248_ok) <|
    all_cons (good rfl Tryz.func249 (by decide) cf249_ok) <|
    all_cons (good rfl Tryz.func251 (by decide) cf251_ok) <|
    all_cons (good rfl Tryz.func252 (by decide) cf252_ok) <|
    all_cons (good rfl Tryz.func253 (by decide) cf253_ok) <|
    all_cons (good rfl Tryz.func254 (by decide) cf254_ok) <|
    all_cons (good rfl Tryz.func255 (by decide) cf255_ok) <|
    all_cons (good rfl Tryz.func256 (by decide) cf256_ok) <|
    all_cons (good rfl Tryz.func257 (by decide) cf257_ok) <|
    all_cons (good rfl Tryz.func258 (by decide) cf258_ok) <|
    all_cons (good rfl Tryz.func259 (by decide) cf259_ok) <|
    all_cons (good rfl Tryz.func260 (by decide) cf260_ok) <|
    all_cons (good rfl Tryz.func267 (by decide) cf267_ok) <|
    all_cons (good rfl Tryz.func268 (by decide) cf268_ok) <|
    all_cons (good rfl Tryz.func270 (by decide) cf270_ok) <|
    all_cons (good rfl Tryz.func277 (by decide) cf277_ok) <|
    all_cons (good rfl Tryz.func278 (by decide) cf278_ok) <|
    all_cons (good rfl Tryz.func280 (by decide) cf280_ok) <|
    all_cons (good rfl Tryz.func281 (by decide) cf281_ok) <|
    all_cons (good rfl Tryz.func284 (by decide) cf284_ok) <|
    all_cons (good rfl Tryz.func286 (by decide) cf286_ok) <|
    all_cons (good rfl Tryz.func288 (by decide) cf288_ok) <|
    all_cons (good rfl Tryz.func298 (by decide) cf298_ok) <|
    all_cons (good rfl Tryz.func299 (by decide) cf299_ok) <|
    all_cons (good rfl Tryz.func300 (by decide) cf300_ok) <|
    all_cons (good rfl Tryz.func301 (by decide) cf301_ok) <|
    all_cons (good rfl Tryz.func302 (by decide) cf302_ok) <|
    all_cons (good rfl Tryz.func303 (by decide) cf303_ok) <|
    all_cons (good rfl Tryz.func304 (by decide) cf304_ok) <|
    all_cons (good rfl Tryz.func306 (by decide) cf306_ok) <|
    all_cons (good rfl Tryz.func307 (by decide) cf307_ok) <|
    all_cons (good rfl Tryz.func308 (by decide) cf308_ok) <|
    all_cons (good rfl Tryz.func309 (by decide) cf309_ok) <|
    all_cons (good rfl Tryz.func310 (by decide) cf310_ok) <|
    all_cons (good rfl Tryz.func311 (by decide) cf311_ok) <|
    all_cons (good rfl Tryz.func312 (by decide) cf312_ok) <|
    all_cons (good rfl Tryz.func313 (by decide) cf313_ok) <|
    all_cons (good rfl Tryz.func314 (by decide) cf314_ok) <|
    all_cons (good rfl Tryz.func316 (by decide) cf316_ok) <|
    all_cons (good rfl Tryz.func317 (by decide) cf317_ok) <|
    all_cons (good rfl Tryz.func318 (by decide) cf318_ok) <|
    all_cons (good rfl Tryz.func321 (by decide) cf321_ok) <|
    all_cons (good rfl Tryz.func322 (by decide) cf322_ok) <|
    all_cons (good rfl Tryz.func324 (by decide) cf324_ok) <|
    all_cons (good rfl Tryz.func336 (by decide) cf336_ok) <|
    all_cons (good rfl Tryz.func341 (by decide) cf341_ok) <|
    all_cons (good rfl Tryz.func379 (by decide) cf379_ok) <|
    all_cons (good rfl Tryz.func380 (by decide) cf380_ok) <|
    all_cons (good rfl Tryz.func381 (by decide) cf381_ok) <|
    all_cons (good rfl Tryz.func382 (by decide) cf382_ok) <|
    all_cons (good rfl Tryz.func383 (by decide) cf383_ok) <|
    all_cons (good rfl Tryz.func384 (by decide) cf384_ok) <|
    all_cons (good rfl Tryz.func388 (by decide) cf388_ok) <|
    all_cons (good rfl Tryz.func394 (by decide) cf394_ok) <|
    all_cons (good rfl Tryz.func398 (by decide) cf398_ok) <|
    all_cons (good rfl Tryz.func401 (by decide) cf401_ok) <|
    all_cons (good rfl Tryz.func402 (by decide) cf402_ok) <|
    all_cons (good rfl Tryz.func403 (by decide) cf403_ok) <|
    all_cons (good rfl Tryz.func405 (by decide) cf405_ok) <|
    all_cons (good rfl Tryz.func425 (by decide) cf425_ok) <|
    all_cons (good rfl Tryz.func426 (by decide) cf426_ok) <|
    all_cons (good rfl Tryz.func427 (by decide) cf427_ok) <|
    all_cons (good rfl Tryz.func428 (by decide) cf428_ok) <|
    all_cons (good rfl Tryz.func429 (by decide) cf429_ok) <|
    all_cons (good rfl Tryz.func448 (by decide) cf448_ok) <|
    all_cons (good rfl Tryz.func449 (by decide) cf449_ok) <|
    all_cons (good rfl Tryz.func450 (by decide) cf450_ok) <|
    all_cons (good rfl Tryz.func452 (by decide) cf452_ok) <|
    all_cons (good rfl Tryz.func455 (by decide) cf455_ok) <| all_nil
theorem tabC_ok : TabOk Tryz.prog TP (fun f => tabC.get f) := by
  intro f cf e
  obtain ⟨_, fn, h1, h2, h3⟩ := tabL_good _ (trP_get (fun q hq => (tabL_good q hq).1) e)
  exact ⟨fn, h1, beq_eq_false_iff_ne.1 h2, h3⟩
abbrev Prim := List V → H → Option (V × H)
def PrimsOk (l : List (Nat × Prim)) : Prop := ∀ p ∈ l, p.1 < keys ∧ PrimOf p.1 p.2
noncomputable def callS (l : List (Nat × Prim)) (n : Nat) : CallT := callK (fun f => (trP l).get f) tabF n
theorem callS_ok {l : List (Nat × Prim)} (h : PrimsOk l) (n : Nat) : CallOk Tryz.prog TP (callS l n) := by
  have : callS l n = callN (fun f => (trP l).get f) (fun f => tabC.get f) n := callK_eq _ _ n
  rw [this]
  exact callN_ok tyOk mixed (fun f p e => (h _ (trP_get (fun q hq => (h q hq).1) e)).2) tabC_ok n
theorem PrimsOk.nil : PrimsOk [] := fun _ h => by cases h
theorem PrimsOk.cons {f : Nat} {p : Prim} {l : List (Nat × Prim)} (h0 : Nat.blt f 1000 = true) (h : PrimOf f p) (k : PrimsOk l) : PrimsOk ((f, p) :: l) := fun q hq => by
  cases hq with
  | head => exact ⟨Nat.lt_of_lt_of_le (by simpa using h0) (by decide : (1000 : Nat) ≤ keys), h⟩
  | tail _ hq => exact k q hq
noncomputable def H0 : H := ⟨Tr.put (Tr.put .e 0 (some (.ro (lenL tbl) (trOf tbl 0 .e)))) 1 (some (.ro (lenL tbS) (trOf tbS 0 .e))), 2⟩
theorem tbl_flat : tbl.all flat = true := by kernel_rfl
theorem tbS_flat : tbS.all flat = true := by kernel_rfl
theorem tbl_len : lenL tbl = 123 := by kernel_rfl
theorem tbS_len : lenL tbS = 256 := by kernel_rfl
end Ev
end Go.Proofs.YtgeccgjpiaiifaaGreatDoor
