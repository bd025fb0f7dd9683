/-
  The types' layout, in parts.
-/
import Derived.Test.YtihflniehaaakaaGreatDoorRows
import Derived.ProofKit
import Derived.Stop.Joined
namespace Go.Proofs.YtihflniehaaakaaGreatDoor
set_option linter.unusedVariables false
set_option linter.unusedSimpArgs false
open Go.RowKit
set_option maxRecDepth 100000
set_option maxHeartbeats 1000000000
theorem row0 : (List.range' 0 90).all (rowFine Tryz.prog) = true := by kernel_rfl
theorem row1 : (List.range' 90 90).all (rowFine Tryz.prog) = true := by kernel_rfl
theorem row2 : (List.range' 180 90).all (rowFine Tryz.prog) = true := by kernel_rfl
theorem row3 : (List.range' 270 90).all (rowFine Tryz.prog) = true := by kernel_rfl
theorem row4 : (List.range' 360 90).all (rowFine Tryz.prog) = true := by kernel_rfl
theorem row5 : (List.range' 450 90).all (rowFine Tryz.prog) = true := by kernel_rfl
theorem row6 : (List.range' 540 90).all (rowFine Tryz.prog) = true := by kernel_rfl
theorem row7 : (List.range' 630 81).all (rowFine Tryz.prog) = true := by kernel_rfl
theorem types_size : Tryz.prog.types.size = 711 := by kernel_rfl
theorem rows_fine : (List.range Tryz.prog.types.size).all (rowFine Tryz.prog) = true := by
  rw [types_size, List.all_eq_true]
  intro t ht
  have ht := List.mem_range.1 ht
  by_cases h0 : t < 90
  · exact List.all_eq_true.1 row0 t (List.mem_range'_1.2 ⟨by omega, by omega⟩)
  by_cases h1 : t < 180
  · exact List.all_eq_true.1 row1 t (List.mem_range'_1.2 ⟨by omega, by omega⟩)
  by_cases h2 : t < 270
  · exact List.all_eq_true.1 row2 t (List.mem_range'_1.2 ⟨by omega, by omega⟩)
  by_cases h3 : t < 360
  · exact List.all_eq_true.1 row3 t (List.mem_range'_1.2 ⟨by omega, by omega⟩)
  by_cases h4 : t < 450
  · exact List.all_eq_true.1 row4 t (List.mem_range'_1.2 ⟨by omega, by omega⟩)
  by_cases h5 : t < 540
  · exact List.all_eq_true.1 row5 t (List.mem_range'_1.2 ⟨by omega, by omega⟩)
  by_cases h6 : t < 630
  · exact List.all_eq_true.1 row6 t (List.mem_range'_1.2 ⟨by omega, by omega⟩)
  exact List.all_eq_true.1 row7 t (List.mem_range'_1.2 ⟨by omega, by omega⟩)
theorem laid_globals : Tryz.prog.globals.all (fun g => decide (g.type < Tryz.prog.types.size)) = true := by kernel_rfl
theorem laid_funcs : Tryz.prog.funcs.all (fun f => f.params.all fun t => decide (t < Tryz.prog.types.size)) = true := by
  rw [types_size]
  kernel_rfl
theorem laid_out : laidOutB Tryz.prog = true := by
  unfold laidOutB
  rw [rows_fine, laid_globals, laid_funcs]
  rfl
end Go.Proofs.YtihflniehaaakaaGreatDoor
