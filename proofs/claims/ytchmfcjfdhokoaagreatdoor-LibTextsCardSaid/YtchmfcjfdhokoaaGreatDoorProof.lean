/-
  Of whatever name stagehandlaw39.LibTexts is asked, it answers true: the three texts of lib are parsed without a mistake, bear the right name, version and functions and have no flaws, and of any other name there is no text.
  Conditions: strings.asciiSpace holds what the program's text lays (the card ties it, and the other listed variables, to the pruned copy of the project that the seat's roots load).
-/
import Derived.Test.YtchmfcjfdhokoaaGreatDoorEvEnd
import Derived.Test.YtchmfcjfdhokoaaGreatDoorTie
import Derived.Test.YtchmfcjfdhokoaaGreatDoorCards
import Derived.ProofKit
import Derived.LaidMore
import Derived.OpenShut
import Derived.Stop.Joined
import Derived.SevenTiedAt
import Derived.Lib.LaidTab
namespace Go.Proofs.YtchmfcjfdhokoaaGreatDoor
open Go.ChangeShapes Go.WideShapes Go.ChangeAt Go.WideMaps Go.WideElems Go.RowKit
open Go.ChangeMaps (open_string shut_string)
open Ev

theorem own : ownKnob Tryz.prog.godebug = none := by kernel_rfl
theorem gSpace : Tryz.prog.globalNamed "strings.asciiSpace" = some 0 := by kernel_rfl
theorem tSpace : (Tryz.prog.globals[0]?).map (·.type) = some 155 := by kernel_rfl
def zs : List Int := tbl.map fun v => match v with
  | .int _ n => n
  | _ => 0
theorem tbl_zs : tbl = zs.map fun z => V.int .u8 z := by kernel_rfl
theorem laid_zs : (Rows.laid_strings_asciiSpace : DataW Unit) = Lib.tabData .u8 zs := by kernel_rfl
theorem elem155 : ∃ e, Tryz.prog.underlying 155 = some (.array 256 e) ∧ Tryz.prog.underlying e = some (.int .u8) ∧ Tryz.prog.cellsOf e = 1 := ⟨5, by kernel_rfl, by kernel_rfl, by kernel_rfl⟩
theorem cells155 : Tryz.prog.cellsOf 155 = 256 := by kernel_rfl
theorem zs_length : zs.length = 256 := by kernel_rfl

/-- What the condition gives: the table's block. -/
theorem of_laid {W : World} (h : laidMetH Tryz.prog Rows.libTextsRow.laid W) : ∃ t, W.heap[0]? = some (.cells (zs.map fun z => Value.int .u8 z).toArray t (0, 0)) := by
  rw [MakeChecks.laidMetH_plain _ _ _ (by kernel_rfl)] at h
  obtain ⟨ps, L, _, hc⟩ := h
  obtain ⟨_, _, _, _, p1, q1, _, _, _, _, L, e1⟩ := L
  obtain ⟨_, _, _, _, p2, q2, _, _, _, _, L, e2⟩ := L
  obtain ⟨_, _, _, _, p3, q3, _, _, _, _, L, e3⟩ := L
  obtain ⟨_, _, _, _, p4, q4, _, _, _, _, L, e4⟩ := L
  obtain ⟨_, _, _, _, p5, q5, _, _, _, _, L, e5⟩ := L
  obtain ⟨_, _, _, _, p6, q6, _, _, _, _, L, e6⟩ := L
  obtain ⟨g, t, cs, fuel, p7, q7, hg, ht, hv, hd, _, e7⟩ := L
  obtain rfl := Option.some.inj (gSpace.symm.trans hg)
  obtain rfl := Option.some.inj (tSpace.symm.trans ht)
  obtain ⟨e, u1, u2, u3⟩ := elem155
  have hcs : cs.toList = zs.map fun z => Value.int .u8 z := Lib.cells_of_tab (p := p7) u1 u2 u3 cells155 (by rw [← laid_zs]; exact hd)
  have hcs' : cs = (zs.map fun z => Value.int .u8 z).toArray := by rw [← hcs]
  have hsz : cs.size = 256 := by rw [hcs']; simp [zs_length]
  have m7 : MemPlace.cell 0 0 ∈ q6 := by
    rw [e7, hsz]
    refine List.mem_append_left _ (List.mem_append_left _ ?_)
    exact List.mem_map.2 ⟨0, by simp, rfl⟩
  have m6 : MemPlace.cell 0 0 ∈ q5 := by rw [e6]; exact List.mem_append_right _ m7
  have m5 : MemPlace.cell 0 0 ∈ q4 := by rw [e5]; exact List.mem_append_right _ m6
  have m4 : MemPlace.cell 0 0 ∈ q3 := by rw [e4]; exact List.mem_append_right _ m5
  have m3 : MemPlace.cell 0 0 ∈ q2 := by rw [e3]; exact List.mem_append_right _ m4
  have m2 : MemPlace.cell 0 0 ∈ q1 := by rw [e2]; exact List.mem_append_right _ m3
  have m1 : MemPlace.cell 0 0 ∈ ps := by rw [e1]; exact List.mem_append_right _ m2
  obtain ⟨⟨c, t, hh⟩, _⟩ := hc 0 0 m1
  have : c = cs := by
    unfold World.var? at hv
    rw [gSpace] at hv
    simpa [hh] using hv
  exact ⟨t, by rw [hh, this, hcs']⟩
theorem vrs_ints {g : G} : ∀ l : List Int, VRs g (l.map fun z => V.int .u8 z) (l.map fun z => Value.int .u8 z)
  | [] => .nil
  | _ :: l => .cons (.int _ _) (vrs_ints l)
theorem wr_of {W : World} {t : TypeId} (h : W.heap[0]? = some (.cells (zs.map fun z => Value.int .u8 z).toArray t (0, 0))) : ∃ g, WR TP g H0 W ∧ Glob TP g H0 := by
  have hv : VRs nog tbl (zs.map fun z => Value.int .u8 z) := by rw [tbl_zs]; exact vrs_ints zs
  have hl : (zs.map fun z => Value.int .u8 z).length = 256 := by rw [List.length_map, zs_length]
  obtain ⟨r, _, _⟩ := (WR.empty TP W).overRo AllRo.empty (by decide) (o := 0) (z := 256) h (by rw [List.size_toArray, hl]) hv (fun j u hu => by rw [Nat.zero_add, List.getElem?_toArray]; exact hu) (by omega) (by rw [hl]; decide) (fun v hx => by
    have := List.all_eq_true.1 tbl_flat v hx
    exact flat_one this)
  have e : (⟨Tr.put Tr.e 0 (some (.ro (lenL tbl) (trOf tbl 0 .e))), Nat.succ 0⟩ : H) = H0 := by
    unfold H0
    rw [(by kernel_rfl : lenL tbl = 256)]
  obtain ⟨tr, etr, hpin⟩ : ∃ tr, tr = trOf tbl 0 .e ∧ TP.pin = [(0, 0, 256, tr)] := ⟨_, rfl, rfl⟩
  refine ⟨gput nog 0 (0, 0, 256), e ▸ r, fun p hp => ?_⟩
  have h0 := H0_blk
  rw [← etr] at h0
  rw [hpin] at hp
  obtain rfl := List.mem_singleton.1 hp
  exact ⟨⟨256, gput_same _ _ _⟩, h0⟩

set_option maxHeartbeats 1000000000 in
/-- The door's own heap meets the condition. -/
theorem door_met (os : Os) (args : Array Value) : laidMetH Tryz.prog Rows.libTextsRow.laid ((World.doorLaid Tryz.prog 86 os).forCall (fun _ _ => 0) ⟨#[], args, []⟩).memory :=
  laidMetH_of_parts3 (fuel := 8) (laidMet_of_run' 8 (by as_aux_lemma => kernel_rfl) (by as_aux_lemma => kernel_rfl)) (by as_aux_lemma => kernel_rfl) (by as_aux_lemma => kernel_rfl)
theorem kept_of {W W' : World} (k : Still W W') : W.keptBut W' (fun _ => False) := by
  refine ⟨k.os, k.output, fun i hi => ?_⟩
  rw [k.keep i hi]
  cases h : W.heap[i]? with
  | none => rfl
  | some o => cases o <;> simp

set_option maxRecDepth 100000 in
set_option maxHeartbeats 1000000000 in
theorem lifted (os : Os) (started : os.Started) (H : Type) (enc : TypeId × Value → H) :
    ReturnsInHanded {} Tryz.checked os 3 .any (fun w args => (Rows.libTextsSpec.pre enc Tryz.prog Tryz.f3 [] false w args ∧ laidMetH Tryz.prog Rows.libTextsRow.laid w) ∧ sizedMet enc Tryz.prog Tryz.f3 (OpenSpec.ofChange Rows.libTextsSpec) false w args)
      (Rows.libTextsSpec.post enc Tryz.prog Tryz.f3 false true false false) := by
  refine returnsInHanded_of_change_and (C := Tryz.checked) (X := fun w _ => laidMetH Tryz.prog Rows.libTextsRow.laid w) (fun _ _ _ hh h => h.of_heap hh) own started (by kernel_rfl) Tryz.func3
    (ChangeSpec.witness_shaped (enc := enc) (C := Tryz.checked) (os := os) (X := fun w _ => laidMetH Tryz.prog Rows.libTextsRow.laid w) false (World.doorLaid Tryz.prog 86 os) #[.string ⟨#[]⟩] 8 rfl (World.shaped_of_RefB (by as_aux_lemma => kernel_rfl) (by as_aux_lemma => kernel_rfl)) (by as_aux_lemma => kernel_rfl) (by as_aux_lemma => kernel_rfl) (by as_aux_lemma => kernel_rfl) (door_met os _)) ?_
  intro W base args ds gs before hval0 hW _ _ hL _
  have hval : ∀ (j : Nat) t v, Tryz.f3.params[j]? = some t → args[j]? = some v → Value.okWide Tryz.prog W .any base t v := hval0
  have hW' := hW
  obtain ⟨p, q, hA0, hV, rfl, hfz, hnd⟩ := hW
  have hA : DataW.TrodAll enc Tryz.prog W 0 (fun _ => true) true Tryz.f3.params.toList args.toList ds p := hA0
  rw [Tryz.params3] at hA hval
  obtain ⟨v0, d0, rfl, rfl, h0⟩ := trodAll_one hA
  obtain ⟨rfl, rfl⟩ := trodVars_none hV
  obtain ⟨s, rfl, rfl, rfl, ws⟩ := open_string Tryz.underlying9 (hval 0 9 v0 rfl rfl) h0
  obtain ⟨t, ht⟩ := of_laid hL
  obtain ⟨g, r, hG⟩ := wr_of ht
  clear hA0 hval0
  simp only [List.append_nil] at hW'
  refine (callsIn_wide.1 (law_any s r hG)).mono fun e W' ⟨he, k⟩ => ?_
  subst he
  exact ⟨_, rfl, _, _, [], [], [], [], hW', trodAll_mk1 (shut_bool Tryz.underlying4 _), trodAll_mk1 (shut_string Tryz.underlying9 ws), rfl, World.keptBut_mono (fun _ f => f.elim) (kept_of k), fun h => by cases h⟩
theorem libTexts_row_holds : Rows.LibTextsSaid :=
  OpenClaim.holds_of_wide 3 Tryz.f3 rfl rfl rfl rfl rfl rfl rfl ⟨rfl, rfl, rfl, rfl, rfl⟩ rfl rfl rfl rfl rfl (by kernel_rfl) Tryz.func3 (by kernel_rfl)
    (of_decide_eq_true (by kernel_rfl)) (by unfold Func.isWrapper; first | (rw [if_pos (by decide +kernel)]; kernel_rfl) | (rw [if_neg (by decide +kernel)]; exact ⟨rfl, rfl⟩))
    (fun os started H enc _ => lifted os started H enc)
end Go.Proofs.YtchmfcjfdhokoaaGreatDoor
