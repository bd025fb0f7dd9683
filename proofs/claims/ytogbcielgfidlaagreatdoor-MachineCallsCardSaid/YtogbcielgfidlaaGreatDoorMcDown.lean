/-
  All rounds, checked.
-/
import Derived.Test.YtogbcielgfidlaaGreatDoorMcE0
import Derived.Test.YtogbcielgfidlaaGreatDoorMcE1
import Derived.Test.YtogbcielgfidlaaGreatDoorMcE2
import Derived.Test.YtogbcielgfidlaaGreatDoorMcE3
import Derived.Test.YtogbcielgfidlaaGreatDoorMcE4
import Derived.Test.YtogbcielgfidlaaGreatDoorMcE5
import Derived.Test.YtogbcielgfidlaaGreatDoorMcE6
import Derived.Test.YtogbcielgfidlaaGreatDoorMcE7
import Derived.Test.YtogbcielgfidlaaGreatDoorMcE8
import Derived.Test.YtogbcielgfidlaaGreatDoorMcE9
import Derived.Test.YtogbcielgfidlaaGreatDoorMcE10
import Derived.Test.YtogbcielgfidlaaGreatDoorMcE11
import Derived.Test.YtogbcielgfidlaaGreatDoorMcE12
import Derived.Test.YtogbcielgfidlaaGreatDoorMcE13
import Derived.Test.YtogbcielgfidlaaGreatDoorMcE14
import Derived.Test.YtogbcielgfidlaaGreatDoorMcE15
import Derived.Test.YtogbcielgfidlaaGreatDoorMcE16
import Derived.Test.YtogbcielgfidlaaGreatDoorMcE17
import Derived.Test.YtogbcielgfidlaaGreatDoorMcE18
import Derived.Test.YtogbcielgfidlaaGreatDoorMcWk
import Derived.Test.YtogbcielgfidlaaGreatDoorMcS1
import Derived.Test.YtogbcielgfidlaaGreatDoorMcH1
namespace Go.Proofs.YtogbcielgfidlaaGreatDoor
set_option linter.unusedVariables false
set_option linter.unusedSimpArgs false
set_option linter.unusedSectionVars false
namespace Ev
theorem tt2_two {a b : Bool} (h : tt2 a b = true) : a = true ∧ b = true := by
  cases a with
  | false => cases h
  | true => exact ⟨rfl, h⟩
theorem allN_ok {p : Nat → Bool} : ∀ {k i : Nat}, allN p k i = true → ∀ d, i ≤ d → d < i + k → p d = true
  | 0, _, _, d, h1, h2 => by omega
  | k + 1, i, h, d, h1, h2 => by
    obtain ⟨h3, h4⟩ := tt2_two (show tt2 (p i) (allN p k (Nat.succ i)) = true from h)
    by_cases hd : d = i
    · rw [hd]; exact h3
    · exact allN_ok h4 d (by omega) (by omega)
theorem down_all (d : Nat) (h : d ≤ 399) : downB d = true := by
  by_cases h0 : d < 10
  · exact allN_ok down_0 d (by omega) (by omega)
  by_cases h10 : d < 20
  · exact allN_ok down_10 d (by omega) (by omega)
  by_cases h20 : d < 30
  · exact allN_ok down_20 d (by omega) (by omega)
  by_cases h30 : d < 40
  · exact allN_ok down_30 d (by omega) (by omega)
  by_cases h40 : d < 50
  · exact allN_ok down_40 d (by omega) (by omega)
  by_cases h50 : d < 60
  · exact allN_ok down_50 d (by omega) (by omega)
  by_cases h60 : d < 70
  · exact allN_ok down_60 d (by omega) (by omega)
  by_cases h70 : d < 80
  · exact allN_ok down_70 d (by omega) (by omega)
  by_cases h80 : d < 90
  · exact allN_ok down_80 d (by omega) (by omega)
  by_cases h90 : d < 100
  · exact allN_ok down_90 d (by omega) (by omega)
  by_cases h100 : d < 105
  · exact allN_ok down_100 d (by omega) (by omega)
  by_cases h105 : d < 110
  · exact allN_ok down_105 d (by omega) (by omega)
  by_cases h110 : d < 115
  · exact allN_ok down_110 d (by omega) (by omega)
  by_cases h115 : d < 120
  · exact allN_ok down_115 d (by omega) (by omega)
  by_cases h120 : d < 125
  · exact allN_ok down_120 d (by omega) (by omega)
  by_cases h125 : d < 130
  · exact allN_ok down_125 d (by omega) (by omega)
  by_cases h130 : d < 135
  · exact allN_ok down_130 d (by omega) (by omega)
  by_cases h135 : d < 140
  · exact allN_ok down_135 d (by omega) (by omega)
  by_cases h140 : d < 145
  · exact allN_ok down_140 d (by omega) (by omega)
  by_cases h145 : d < 150
  · exact allN_ok down_145 d (by omega) (by omega)
  by_cases h150 : d < 155
  · exact allN_ok down_150 d (by omega) (by omega)
  by_cases h155 : d < 160
  · exact allN_ok down_155 d (by omega) (by omega)
  by_cases h160 : d < 165
  · exact allN_ok down_160 d (by omega) (by omega)
  by_cases h165 : d < 170
  · exact allN_ok down_165 d (by omega) (by omega)
  by_cases h170 : d < 175
  · exact allN_ok down_170 d (by omega) (by omega)
  by_cases h175 : d < 180
  · exact allN_ok down_175 d (by omega) (by omega)
  by_cases h180 : d < 185
  · exact allN_ok down_180 d (by omega) (by omega)
  by_cases h185 : d < 190
  · exact allN_ok down_185 d (by omega) (by omega)
  by_cases h190 : d < 195
  · exact allN_ok down_190 d (by omega) (by omega)
  by_cases h195 : d < 200
  · exact allN_ok down_195 d (by omega) (by omega)
  by_cases h200 : d < 205
  · exact allN_ok down_200 d (by omega) (by omega)
  by_cases h205 : d < 210
  · exact allN_ok down_205 d (by omega) (by omega)
  by_cases h210 : d < 215
  · exact allN_ok down_210 d (by omega) (by omega)
  by_cases h215 : d < 220
  · exact allN_ok down_215 d (by omega) (by omega)
  by_cases h220 : d < 225
  · exact allN_ok down_220 d (by omega) (by omega)
  by_cases h225 : d < 230
  · exact allN_ok down_225 d (by omega) (by omega)
  by_cases h230 : d < 235
  · exact allN_ok down_230 d (by omega) (by omega)
  by_cases h235 : d < 240
  · exact allN_ok down_235 d (by omega) (by omega)
  by_cases h240 : d < 245
  · exact allN_ok down_240 d (by omega) (by omega)
  by_cases h245 : d < 250
  · exact allN_ok down_245 d (by omega) (by omega)
  by_cases h250 : d < 255
  · exact allN_ok down_250 d (by omega) (by omega)
  by_cases h255 : d < 260
  · exact allN_ok down_255 d (by omega) (by omega)
  by_cases h260 : d < 265
  · exact allN_ok down_260 d (by omega) (by omega)
  by_cases h265 : d < 270
  · exact allN_ok down_265 d (by omega) (by omega)
  by_cases h270 : d < 275
  · exact allN_ok down_270 d (by omega) (by omega)
  by_cases h275 : d < 280
  · exact allN_ok down_275 d (by omega) (by omega)
  by_cases h280 : d < 285
  · exact allN_ok down_280 d (by omega) (by omega)
  by_cases h285 : d < 290
  · exact allN_ok down_285 d (by omega) (by omega)
  by_cases h290 : d < 295
  · exact allN_ok down_290 d (by omega) (by omega)
  by_cases h295 : d < 300
  · exact allN_ok down_295 d (by omega) (by omega)
  by_cases h300 : d < 305
  · exact allN_ok down_300 d (by omega) (by omega)
  by_cases h305 : d < 310
  · exact allN_ok down_305 d (by omega) (by omega)
  by_cases h310 : d < 315
  · exact allN_ok down_310 d (by omega) (by omega)
  by_cases h315 : d < 320
  · exact allN_ok down_315 d (by omega) (by omega)
  by_cases h320 : d < 325
  · exact allN_ok down_320 d (by omega) (by omega)
  by_cases h325 : d < 330
  · exact allN_ok down_325 d (by omega) (by omega)
  by_cases h330 : d < 335
  · exact allN_ok down_330 d (by omega) (by omega)
  by_cases h335 : d < 340
  · exact allN_ok down_335 d (by omega) (by omega)
  by_cases h340 : d < 345
  · exact allN_ok down_340 d (by omega) (by omega)
  by_cases h345 : d < 350
  · exact allN_ok down_345 d (by omega) (by omega)
  by_cases h350 : d < 355
  · exact allN_ok down_350 d (by omega) (by omega)
  by_cases h355 : d < 360
  · exact allN_ok down_355 d (by omega) (by omega)
  by_cases h360 : d < 365
  · exact allN_ok down_360 d (by omega) (by omega)
  by_cases h365 : d < 370
  · exact allN_ok down_365 d (by omega) (by omega)
  by_cases h370 : d < 375
  · exact allN_ok down_370 d (by omega) (by omega)
  by_cases h375 : d < 380
  · exact allN_ok down_375 d (by omega) (by omega)
  by_cases h380 : d < 385
  · exact allN_ok down_380 d (by omega) (by omega)
  by_cases h385 : d < 390
  · exact allN_ok down_385 d (by omega) (by omega)
  by_cases h390 : d < 395
  · exact allN_ok down_390 d (by omega) (by omega)
  exact allN_ok down_395 d (by omega) (by omega)
theorem turn_all (d : Nat) (h0 : 1 ≤ d) (h : d ≤ 400) : turnB d = true := by
  by_cases h1 : d < 11
  · exact allN_ok turn_1 d (by omega) (by omega)
  by_cases h11 : d < 21
  · exact allN_ok turn_11 d (by omega) (by omega)
  by_cases h21 : d < 31
  · exact allN_ok turn_21 d (by omega) (by omega)
  by_cases h31 : d < 41
  · exact allN_ok turn_31 d (by omega) (by omega)
  by_cases h41 : d < 51
  · exact allN_ok turn_41 d (by omega) (by omega)
  by_cases h51 : d < 61
  · exact allN_ok turn_51 d (by omega) (by omega)
  by_cases h61 : d < 71
  · exact allN_ok turn_61 d (by omega) (by omega)
  by_cases h71 : d < 81
  · exact allN_ok turn_71 d (by omega) (by omega)
  by_cases h81 : d < 91
  · exact allN_ok turn_81 d (by omega) (by omega)
  by_cases h91 : d < 101
  · exact allN_ok turn_91 d (by omega) (by omega)
  by_cases h101 : d < 111
  · exact allN_ok turn_101 d (by omega) (by omega)
  by_cases h111 : d < 121
  · exact allN_ok turn_111 d (by omega) (by omega)
  by_cases h121 : d < 131
  · exact allN_ok turn_121 d (by omega) (by omega)
  by_cases h131 : d < 141
  · exact allN_ok turn_131 d (by omega) (by omega)
  by_cases h141 : d < 151
  · exact allN_ok turn_141 d (by omega) (by omega)
  by_cases h151 : d < 161
  · exact allN_ok turn_151 d (by omega) (by omega)
  by_cases h161 : d < 171
  · exact allN_ok turn_161 d (by omega) (by omega)
  by_cases h171 : d < 181
  · exact allN_ok turn_171 d (by omega) (by omega)
  by_cases h181 : d < 191
  · exact allN_ok turn_181 d (by omega) (by omega)
  by_cases h191 : d < 201
  · exact allN_ok turn_191 d (by omega) (by omega)
  by_cases h201 : d < 206
  · exact allN_ok turn_201 d (by omega) (by omega)
  by_cases h206 : d < 211
  · exact allN_ok turn_206 d (by omega) (by omega)
  by_cases h211 : d < 216
  · exact allN_ok turn_211 d (by omega) (by omega)
  by_cases h216 : d < 221
  · exact allN_ok turn_216 d (by omega) (by omega)
  by_cases h221 : d < 226
  · exact allN_ok turn_221 d (by omega) (by omega)
  by_cases h226 : d < 231
  · exact allN_ok turn_226 d (by omega) (by omega)
  by_cases h231 : d < 236
  · exact allN_ok turn_231 d (by omega) (by omega)
  by_cases h236 : d < 241
  · exact allN_ok turn_236 d (by omega) (by omega)
  by_cases h241 : d < 246
  · exact allN_ok turn_241 d (by omega) (by omega)
  by_cases h246 : d < 251
  · exact allN_ok turn_246 d (by omega) (by omega)
  by_cases h251 : d < 256
  · exact allN_ok turn_251 d (by omega) (by omega)
  by_cases h256 : d < 261
  · exact allN_ok turn_256 d (by omega) (by omega)
  by_cases h261 : d < 266
  · exact allN_ok turn_261 d (by omega) (by omega)
  by_cases h266 : d < 271
  · exact allN_ok turn_266 d (by omega) (by omega)
  by_cases h271 : d < 276
  · exact allN_ok turn_271 d (by omega) (by omega)
  by_cases h276 : d < 281
  · exact allN_ok turn_276 d (by omega) (by omega)
  by_cases h281 : d < 286
  · exact allN_ok turn_281 d (by omega) (by omega)
  by_cases h286 : d < 291
  · exact allN_ok turn_286 d (by omega) (by omega)
  by_cases h291 : d < 296
  · exact allN_ok turn_291 d (by omega) (by omega)
  by_cases h296 : d < 301
  · exact allN_ok turn_296 d (by omega) (by omega)
  by_cases h301 : d < 306
  · exact allN_ok turn_301 d (by omega) (by omega)
  by_cases h306 : d < 311
  · exact allN_ok turn_306 d (by omega) (by omega)
  by_cases h311 : d < 316
  · exact allN_ok turn_311 d (by omega) (by omega)
  by_cases h316 : d < 321
  · exact allN_ok turn_316 d (by omega) (by omega)
  by_cases h321 : d < 326
  · exact allN_ok turn_321 d (by omega) (by omega)
  by_cases h326 : d < 331
  · exact allN_ok turn_326 d (by omega) (by omega)
  by_cases h331 : d < 336
  · exact allN_ok turn_331 d (by omega) (by omega)
  by_cases h336 : d < 341
  · exact allN_ok turn_336 d (by omega) (by omega)
  by_cases h341 : d < 346
  · exact allN_ok turn_341 d (by omega) (by omega)
  by_cases h346 : d < 351
  · exact allN_ok turn_346 d (by omega) (by omega)
  by_cases h351 : d < 356
  · exact allN_ok turn_351 d (by omega) (by omega)
  by_cases h356 : d < 361
  · exact allN_ok turn_356 d (by omega) (by omega)
  by_cases h361 : d < 366
  · exact allN_ok turn_361 d (by omega) (by omega)
  by_cases h366 : d < 371
  · exact allN_ok turn_366 d (by omega) (by omega)
  by_cases h371 : d < 376
  · exact allN_ok turn_371 d (by omega) (by omega)
  by_cases h376 : d < 381
  · exact allN_ok turn_376 d (by omega) (by omega)
  by_cases h381 : d < 386
  · exact allN_ok turn_381 d (by omega) (by omega)
  by_cases h386 : d < 391
  · exact allN_ok turn_386 d (by omega) (by omega)
  by_cases h391 : d < 396
  · exact allN_ok turn_391 d (by omega) (by omega)
  exact allN_ok turn_396 d (by omega) (by omega)
theorem up_all (d : Nat) (h0 : 1 ≤ d) (h : d ≤ 399) : upB d = true := by
  by_cases h1 : d < 11
  · exact allN_ok up_1 d (by omega) (by omega)
  by_cases h11 : d < 21
  · exact allN_ok up_11 d (by omega) (by omega)
  by_cases h21 : d < 31
  · exact allN_ok up_21 d (by omega) (by omega)
  by_cases h31 : d < 41
  · exact allN_ok up_31 d (by omega) (by omega)
  by_cases h41 : d < 51
  · exact allN_ok up_41 d (by omega) (by omega)
  by_cases h51 : d < 61
  · exact allN_ok up_51 d (by omega) (by omega)
  by_cases h61 : d < 71
  · exact allN_ok up_61 d (by omega) (by omega)
  by_cases h71 : d < 81
  · exact allN_ok up_71 d (by omega) (by omega)
  by_cases h81 : d < 91
  · exact allN_ok up_81 d (by omega) (by omega)
  by_cases h91 : d < 101
  · exact allN_ok up_91 d (by omega) (by omega)
  by_cases h101 : d < 111
  · exact allN_ok up_101 d (by omega) (by omega)
  by_cases h111 : d < 121
  · exact allN_ok up_111 d (by omega) (by omega)
  by_cases h121 : d < 131
  · exact allN_ok up_121 d (by omega) (by omega)
  by_cases h131 : d < 141
  · exact allN_ok up_131 d (by omega) (by omega)
  by_cases h141 : d < 151
  · exact allN_ok up_141 d (by omega) (by omega)
  by_cases h151 : d < 161
  · exact allN_ok up_151 d (by omega) (by omega)
  by_cases h161 : d < 171
  · exact allN_ok up_161 d (by omega) (by omega)
  by_cases h171 : d < 181
  · exact allN_ok up_171 d (by omega) (by omega)
  by_cases h181 : d < 191
  · exact allN_ok up_181 d (by omega) (by omega)
  by_cases h191 : d < 201
  · exact allN_ok up_191 d (by omega) (by omega)
  by_cases h201 : d < 211
  · exact allN_ok up_201 d (by omega) (by omega)
  by_cases h211 : d < 221
  · exact allN_ok up_211 d (by omega) (by omega)
  by_cases h221 : d < 231
  · exact allN_ok up_221 d (by omega) (by omega)
  by_cases h231 : d < 241
  · exact allN_ok up_231 d (by omega) (by omega)
  by_cases h241 : d < 251
  · exact allN_ok up_241 d (by omega) (by omega)
  by_cases h251 : d < 261
  · exact allN_ok up_251 d (by omega) (by omega)
  by_cases h261 : d < 271
  · exact allN_ok up_261 d (by omega) (by omega)
  by_cases h271 : d < 281
  · exact allN_ok up_271 d (by omega) (by omega)
  by_cases h281 : d < 291
  · exact allN_ok up_281 d (by omega) (by omega)
  by_cases h291 : d < 301
  · exact allN_ok up_291 d (by omega) (by omega)
  by_cases h301 : d < 311
  · exact allN_ok up_301 d (by omega) (by omega)
  by_cases h311 : d < 321
  · exact allN_ok up_311 d (by omega) (by omega)
  by_cases h321 : d < 331
  · exact allN_ok up_321 d (by omega) (by omega)
  by_cases h331 : d < 341
  · exact allN_ok up_331 d (by omega) (by omega)
  by_cases h341 : d < 351
  · exact allN_ok up_341 d (by omega) (by omega)
  by_cases h351 : d < 361
  · exact allN_ok up_351 d (by omega) (by omega)
  by_cases h361 : d < 371
  · exact allN_ok up_361 d (by omega) (by omega)
  by_cases h371 : d < 381
  · exact allN_ok up_371 d (by omega) (by omega)
  by_cases h381 : d < 391
  · exact allN_ok up_381 d (by omega) (by omega)
  exact allN_ok up_391 d (by omega) (by omega)
end Ev
end Go.Proofs.YtogbcielgfidlaaGreatDoor
namespace Go.Proofs.YtogbcielgfidlaaGreatDoor
set_option linter.unusedVariables false
set_option linter.unusedSimpArgs false
set_option linter.unusedSectionVars false
namespace Ev
theorem spent_all (d : Nat) (h : d ≤ 400) : spentB d = true := by
  by_cases h1 : d < 100
  · exact allN_ok spent_0 d (by omega) (by omega)
  · by_cases h2 : d < 200
    · exact allN_ok spent_100 d (by omega) (by omega)
    · by_cases h3 : d < 300
      · exact allN_ok spent_200 d (by omega) (by omega)
      · exact allN_ok spent_300 d (by omega) (by omega)
theorem done_all (d : Nat) (h0 : 1 ≤ d) (h : d ≤ 400) : doneB d = true := by
  by_cases h1 : d < 101
  · exact allN_ok done_1 d (by omega) (by omega)
  · by_cases h2 : d < 201
    · exact allN_ok done_101 d (by omega) (by omega)
    · by_cases h3 : d < 301
      · exact allN_ok done_201 d (by omega) (by omega)
      · exact allN_ok done_301 d (by omega) (by omega)
section
variable [Opq]
set_option linter.unusedSectionVars false
theorem q0_ok : q0.Ok := ⟨fun p hp => (by cases hp), fun p hp => (by cases hp)⟩
/-- From a state on the loop comes to its end. -/
def Goes (m N : Nat) (w0 : World) (gB : G) (wB : World) (c : Code) (Q : Exit → Act → World → Prop) (L : List (Nat × LB)) : Prop :=
  ∃ M, ∀ g act w, AtW keepS m N w0 gB wB ⟨flR, []⟩ (litH L 28) g act w → Code.roundsIn (fen none) 0 Tryz.prog c Q M act w
def EndQ (m N : Nat) (w0 : World) (gB : G) (wB : World) (Q : Exit → Act → World → Prop) (v : V) (hE : H) : Prop :=
  ∀ x f' h', endK (x, f', h') = some (v, hE) → ∀ ex g' a' w', Same x ex → AtW keepS m N w0 gB wB f' h' g' a' w' → Q ex a' w'
/-- How it ends. -/
def EndIs (n k : Nat) (v : V) (hE : H) : Prop :=
  (k ≤ n ∧ k ≤ 400 ∧ endO (LS k) = some (v, hE)) ∨ (n + 1 ≤ k ∧ n = 0 ∧ endO (LT 0) = some (v, hE)) ∨ (n + 1 ≤ k ∧ 1 ≤ n ∧ n ≤ 400 ∧ endO (LU 0) = some (v, hE)) ∨ (401 ≤ n ∧ 401 ≤ k ∧ endO (LD 400 401 401) = some (v, hE))
section
variable {m N : Nat} {w0 : World} {gB : G} {wB : World} {c : Code} {Q : Exit → Act → World → Prop}
theorem loop_goes {L : List (Nat × LB)} {g : G} {act : Act} {w : World} (a : AtW keepS m N w0 gB wB ⟨flR, []⟩ (litH L 28) g act w) (G : Goes m N w0 gB wB c Q L) : (Code.loop c).wpIn (fen none) 0 Tryz.prog Q act w := by
  obtain ⟨M, h⟩ := G
  exact wpIn_loop_rounds M (h g act w a)
theorem goes_step (hk : CallOk Tryz.prog TP call0) (hc : comp TP m N c = some loopC) {prs : List (Nat × Nat)} {J : Nat} {L L' : List (Nat × LB)} (e : leftR keepS q0 prs L' 28 flR (rounds J L) = true) (G : Goes m N w0 gB wB c Q L') : Goes m N w0 gB wB c Q L := by
  obtain ⟨M, G⟩ := G
  have e : leftR keepS q0 prs L' 28 flR (iterX call0 1000000 loopC J ⟨flR, []⟩ (litH L 28)) = true := e
  exact ⟨M + J, fun g act w a => rounds_step hk hc q0_ok e a fun g' a' w' a2 => G g' a' w' a2⟩
theorem goes_weak {L L' : List (Nat × LB)} (hL : cellsL L) (h : LLI L L') (G : Goes m N w0 gB wB c Q L') : Goes m N w0 gB wB c Q L := by
  obtain ⟨M, G⟩ := G
  exact ⟨M, fun g act w a => G g act w (a.weak hL h)⟩
theorem goes_end (hk : CallOk Tryz.prog TP call0) (hc : comp TP m N c = some loopC) {L : List (Nat × LB)} {v : V} {hE : H} (e : endO L = some (v, hE)) (E : EndQ m N w0 gB wB Q v hE) : Goes m N w0 gB wB c Q L := by
  obtain ⟨⟨x, f', h'⟩, e1, e2⟩ := ob_some.1 (show ob (loopE L) endK = some (v, hE) from e)
  have e1 : loopN (exec call0 false 1000000 loopC) 12 ⟨flR, []⟩ (litH L 28) = some (x, f', h') := e1
  exact ⟨12, fun g act w a => rounds_end hk hc 12 e1 a fun ex g' a' w' s a2 => E x f' h' e2 ex g' a' w' s a2⟩
theorem goes_up (hk : CallOk Tryz.prog TP call0) (hc : comp TP m N c = some loopC) (G : Goes m N w0 gB wB c Q (LU 0)) : ∀ d, d ≤ 399 → Goes m N w0 gB wB c Q (LU d)
  | 0, _ => G
  | d + 1, h => goes_step hk hc (up_all (d + 1) (by omega) h) (goes_up hk hc G d (by omega))
theorem goes_all (hk : CallOk Tryz.prog TP call0) (hc : comp TP m N c = some loopC) {n k : Nat} (hn : Opq.val 0 = .int .i64 (n : Int)) (hb : Opq.val 1 = .int .i64 (k : Int)) {v : V} {hE : H} (H : EndIs n k v hE) (E : EndQ m N w0 gB wB Q v hE) :
    ∀ j d, d + j = 400 → d ≤ n → d ≤ k → Goes m N w0 gB wB c Q (LD0 d) := by
  intro j
  induction j with
  | zero =>
    intro d hd h1 h2
    have hd : d = 400 := by omega
    subst hd
    have cl : cellsL (LD0 400) := entL_cells (by omega) _ _
    by_cases hk0 : k = 400
    · subst hk0
      refine goes_weak cl (lli_S hb) ?_
      rcases H with ⟨_, _, H⟩ | ⟨q, _⟩ | ⟨q, _⟩ | ⟨_, q, _⟩
      · exact goes_end hk hc H E
      all_goals omega
    · by_cases hn0 : n = 400
      · subst hn0
        refine goes_weak cl (lli_T hn hb (by omega)) (goes_step hk hc (turn_all 400 (by omega) (by omega)) (goes_up hk hc ?_ 399 (by omega)))
        rcases H with ⟨q, _⟩ | ⟨_, q, _⟩ | ⟨_, _, _, H⟩ | ⟨q, _⟩
        · omega
        · omega
        · exact goes_end hk hc H E
        · omega
      · refine goes_weak cl (lli_D hn hb (by omega) (by omega)) ?_
        rcases H with ⟨_, q, _⟩ | ⟨_, q, _⟩ | ⟨_, _, q, _⟩ | ⟨_, _, H⟩
        · omega
        · omega
        · omega
        · exact goes_end hk hc H E
  | succ j ih =>
    intro d hd h1 h2
    have cl : cellsL (LD0 d) := entL_cells (by omega) _ _
    by_cases hk0 : k = d
    · subst hk0
      refine goes_weak cl (lli_S hb) ?_
      rcases H with ⟨_, _, H⟩ | ⟨q, _⟩ | ⟨q, _⟩ | ⟨_, q, _⟩
      · exact goes_end hk hc H E
      all_goals omega
    · by_cases hn0 : n = d
      · subst hn0
        refine goes_weak cl (lli_T hn hb (by omega)) ?_
        rcases H with ⟨q, _⟩ | ⟨_, q, H⟩ | ⟨_, q, _, H⟩ | ⟨q, _⟩
        · omega
        · subst q
          exact goes_end hk hc H E
        · obtain ⟨d, rfl⟩ : ∃ d, n = d + 1 := ⟨n - 1, by omega⟩
          exact goes_step hk hc (turn_all (d + 1) (by omega) (by omega)) (goes_up hk hc (goes_end hk hc H E) d (by omega))
        · omega
      · exact goes_weak cl (lli_D hn hb (by omega) (by omega)) (goes_step hk hc (down_all d (by omega)) (ih (d + 1) (by omega) (by omega) (by omega)))
end
end
end Ev
end Go.Proofs.YtogbcielgfidlaaGreatDoor
namespace Go.Proofs.YtogbcielgfidlaaGreatDoor
set_option linter.unusedVariables false
set_option linter.unusedSimpArgs false
set_option linter.unusedSectionVars false
namespace Ev
section
variable [Opq]
set_option linter.unusedSectionVars false
theorem prL_ok {d b F : Int} (n : NumOk d b F) : PrimsOk prL :=
  .cons rfl (pick_ok n) <| .cons rfl room_ok <| .cons rfl clear_ok <| .cons rfl lim_ok <| .cons rfl nil_ok <| .cons rfl (orRun_ok tag_ok) <| .cons rfl (orRun_ok low_ok) <| .cons rfl (orRun_ok valid_ok) <| .cons rfl (orRun_ok smallOf_ok) <| .cons rfl (orRun_ok atom_ok) <| .cons rfl (orRun_ok point_ok) <| .cons rfl (orRun_ok head_ok) <| .cons rfl (orRun_ok small_ok) <| .cons rfl (orRun_ok nan_ok) <| .cons rfl (orRun_ok nan2_ok) <| .cons rfl compare_ok <| .cons rfl contains_ok <| .cons rfl awake_ok <| .nil
theorem call0_ok {d b F : Int} (n : NumOk d b F) : CallOk Tryz.prog TP call0 := callS_ok (prL_ok n) 300
theorem args_fr {g : G} {m : Nat} {N : Nat} {vs : List V} {us : List Value} (hv : VRs g vs us) (hN : us.length ≤ N) : FR g m N ⟨numbered vs 0, []⟩ (us.toArray ++ Array.replicate (N - us.toArray.size) undef) := by
  have hlen := hv.length
  refine ⟨by simp; omega, fun t x e => ?_⟩
  unfold rdn at e
  split at e
  · have e : lk (numbered vs 0) t = some x := e
    rw [lk_numbered, if_pos (Nat.zero_le _)] at e
    obtain ⟨u, m1, m2⟩ := hv.get e
    refine ⟨u, ?_, m2⟩
    have ht : t < us.length := by
      rcases Nat.lt_or_ge t us.length with k | k
      · exact k
      · rw [List.getElem?_eq_none (by omega)] at m1; cases m1
    rw [Array.getElem?_append_left (by simpa using ht)]
    simpa using m1
  · cases e
theorem ret_ok {S : List Nat} {m N : Nat} {w0 : World} {gB : G} {wB : World} {fn : Func} {rs : List CRes} (hw : w0.heap.size ≤ wB.heap.size) (hrs : mapO (resC TP m) fn.results.toList = some rs) {f' : F} {h' : H} {l : List V} (er : resOf f' h' rs = some l) {g' : G} {a' : Act} {w' : World} (a2 : AtW S m N w0 gB wB f' h' g' a' w') :
    bodyPostM Fence.wide 0 Tryz.prog fn (CRet S (oneOrTup l) h' w0 gB wB) .ret a' w' := by
  obtain ⟨ms, p1, p2, p3⟩ := a2.marks
  show LeavesInM Fence.wide 0 Tryz.prog fn a'.tmps _ a'.defers .returning w'
  rw [p1, List.append_nil]
  exact leavesW hw (fun w2 hw2 => results_ok tyOk a2.fr hw2 hrs er) (fun p hp => (a2.fix p hp).2) p2 p3 a2.seg a2.wk
theorem run15 (hk : CallOk Tryz.prog TP call0) {n k : Nat} (hn : Opq.val 0 = .int .i64 (n : Int)) (hb : Opq.val 1 = .int .i64 (k : Int)) {v : V} {hE : H} (H : EndIs n k v hE)
    {w0 : World} {g1 : G} {w1 : World} {us : List Value} (hs : Seg w0 g1 (litH LA 28) w1) (hv : VRs g1 [.ptr 2 0] us) :
    CallsIn Fence.wide 0 Tryz.prog 15 us.toArray w1 (CRet keepS v hE w0 g1 w1) := by
  obtain ⟨c, e1, e2⟩ := ob_some.1 (show ob Tryz.f15.body _ = some cf15 from cf15_ok)
  obtain ⟨_, e4⟩ := oif_some.1 e2
  obtain ⟨cc, e5, e6⟩ := ob_some.1 e4
  obtain ⟨rs, e7, e8⟩ := ob_some.1 e6
  have b9 : cc = cf15.code ∧ rs = cf15.results := by
    have e8 : (some (CF.mk _ cc rs) : Option CF) = some cf15 := e8
    injection e8 with e8
    rw [← e8]
    exact ⟨rfl, rfl⟩
  obtain ⟨rfl, rfl⟩ := b9
  have e5' : ∃ m, comp TP m Tryz.f15.ntmps c = some cf15.code ∧ mapO (resC TP m) Tryz.f15.results.toList = some cf15.results := ⟨_, e5, e7⟩
  clear e5 e4 e2 e6 e8 e7
  obtain ⟨m, e5, e7⟩ := e5'
  refine callsIn_of_wp_marks Tryz.func15 e1 trivial ?_
  have hlen : us.length = 1 := by rw [← hv.length]; rfl
  have hN : us.length ≤ Tryz.f15.ntmps := by rw [hlen]; decide
  have a0 : AtW keepS m Tryz.f15.ntmps w0 g1 w1 ⟨numbered [.ptr 2 0] 0, []⟩ (litH LA 28) g1 ⟨us.toArray ++ Array.replicate (Tryz.f15.ntmps - us.toArray.size) undef, []⟩ w1 :=
    ⟨hs, args_fr hv hN, Marks.nil, .refl, fun p hp => ⟨by
      have hp : p = 2 := by simpa [keepS] using hp
      show p < 28
      omega, rfl⟩⟩
  have hst : leftR keepS q0 ps0 (LD0 0) 28 flR (pre call0 1000000 3 cf15.code ⟨numbered [.ptr 2 0] 0, []⟩ (litH LA 28)) = true := start_true
  refine piece_ok hk q0_ok hst e5 a0 fun code' g2 a2 w2 q1 q2 => ?_
  rw [shapeR] at q1
  obtain ⟨x, y, rfl, hx, hy⟩ := comp_seq_of q1
  obtain ⟨x', rfl, hx'⟩ := comp_block_of hx
  obtain ⟨c', rfl, hc'⟩ := comp_loop_of hx'
  refine wpIn_seq (wpIn_block (loop_goes q2 (goes_all hk hc' hn hb H ?_ 400 0 rfl (Nat.zero_le _) (Nat.zero_le _))))
  intro x f' h' e ex g3 a3 w3 s a4
  cases x with
  | norm => cases e
  | ret =>
    obtain ⟨l, k1, k2⟩ := ob_some.1 (show ob (resOf f' h' cf15.results) _ = some (v, hE) from e)
    cases k2
    cases ex <;> first | (cases s; done) | skip
    exact ret_ok hs.still.size e7 k1 a4
  | exit i =>
    obtain ⟨k1, k2⟩ := oif_some.1 (show oif (Nat.beq i 0) _ = some (v, hE) from e)
    obtain rfl := Nat.eq_of_beq_eq_true k1
    obtain ⟨⟨x2, f2, h2⟩, k3, k4⟩ := ob_some.1 k2
    cases x2 with
    | norm => cases k4
    | exit _ => cases k4
    | ret =>
      obtain ⟨l, k5, k6⟩ := ob_some.1 (show ob (resOf f2 h2 cf15.results) _ = some (v, hE) from k4)
      cases k6
      cases ex <;> first | (cases s; done) | skip
      have s : (0 : Nat) = _ := s
      subst s
      simp only [Exit.inBlock, if_true]
      exact last_okW hk hs.still.size e7 hy k3 k5 a4
end
end Ev
end Go.Proofs.YtogbcielgfidlaaGreatDoor
