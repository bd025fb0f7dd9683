/-
  Words that are no pointers: they are terms of every heap.
-/
import Derived.Test.YtogbcielgfidlaaGreatDoorMcX
import Derived.Lib.Walk
import Derived.Lib.SliceRun
import Derived.Deep.LoopGhost
import Derived.Shelf.RegionOpenPlain
import Derived.Deep.QuietTactic
import Derived.BigQuiet
import Derived.OwnWalk
import Derived.Maps.AppendAt
namespace Go.Proofs.YtogbcielgfidlaaGreatDoor
set_option linter.unusedVariables false
set_option linter.unusedSimpArgs false
set_option linter.unusedSectionVars false
set_option linter.unusedSimpArgs false
set_option linter.unusedVariables false
open Go.RowKit
/-- The empty list, or a small number. -/
def ImmW (x : Int) : Prop := x = 11 ∨ ∃ n : Nat, n ≤ 10000 ∧ x = (n : Int) * 16 + 3
theorem nil3 : bits BinOp.and IntKind.u64 11 3 = 3 := by
  have := bits_and_u64_nat 11 3 (by decide) (by decide)
  simpa using this
theorem nil15 : bits BinOp.and IntKind.u64 11 15 = 11 := by
  have := bits_and_u64_nat 11 15 (by decide) (by decide)
  simpa using this
variable (x : Int) (h : ImmW x) (w : World)
include h
theorem tag_i : Calls Tryz.prog 155 #[.int .u64 x] w fun e w' => e = .returned (.int .i64 3) ∧ w' = w := by
  rcases h with rfl | ⟨n, hn, rfl⟩
  · have a := nil3
    go_enter Tryz.func155, Tryz.ntmps155
    go_wp2
    go_ret
    exact ⟨by simp [a], rfl⟩
  · exact tag_w n hn w
theorem low_n : Calls Tryz.prog 227 #[.int .u64 11] w fun e w' => e = .returned (.int .i64 11) ∧ w' = w := by
  have a := nil15
  go_enter Tryz.func227, Tryz.ntmps227
  go_wp2
  go_ret
  exact ⟨by simp [a], rfl⟩
theorem smallOf_n : Calls Tryz.prog 150 #[.int .u64 11] w fun e w' => e = .returned (.tuple #[.int .i64 0, .bool false]) ∧ w' = w := by
  have c := low_n x h w
  go_enter Tryz.func150, Tryz.ntmps150
  go_wp2_with (go_at_call 227; refine c.mono ?_; rintro e w' ⟨rfl, rfl⟩)
  go_ret2
  exact ⟨rfl, rfl⟩
theorem atomOf_i : Calls Tryz.prog 151 #[.int .u64 x] w fun e w' => e = .returned (.tuple #[.int .i64 0, .bool false]) ∧ w' = w := by
  have h0 := h
  rcases h with rfl | ⟨n, hn, rfl⟩
  · have c := low_n _ h0 w
    go_enter Tryz.func151, Tryz.ntmps151
    go_wp2_with (go_at_call 227; refine c.mono ?_; rintro e w' ⟨rfl, rfl⟩)
    go_ret2
    exact ⟨rfl, rfl⟩
  · exact atomOf_w n hn w
theorem pointer_i : Calls Tryz.prog 152 #[.int .u64 x] w fun e w' => e = .returned (.tuple #[.bool false, .int .i64 0, .bool false]) ∧ w' = w := by
  have h0 := h
  rcases h with rfl | ⟨n, hn, rfl⟩
  · have c := tag_i _ h0 w
    go_enter Tryz.func152, Tryz.ntmps152
    go_wp2_with (go_at_call 155; refine c.mono ?_; rintro e w' ⟨rfl, rfl⟩)
    go_ret3
    exact ⟨rfl, rfl⟩
  · exact pointer_w n hn w
theorem headerOf_i : Calls Tryz.prog 228 #[.int .u64 x] w fun e w' => e = .returned (.tuple #[.int .i64 0, .int .i64 0, .bool false]) ∧ w' = w := by
  have h0 := h
  rcases h with rfl | ⟨n, hn, rfl⟩
  · have c := tag_i _ h0 w
    go_enter Tryz.func228, Tryz.ntmps228
    go_wp2_with (go_at_call 155; refine c.mono ?_; rintro e w' ⟨rfl, rfl⟩)
    go_ret3
    exact ⟨rfl, rfl⟩
  · exact headerOf_w n hn w
theorem valid_i : Calls Tryz.prog 294 #[.int .u64 x] w fun e w' => e = .returned (.bool true) ∧ w' = w := by
  have h0 := h
  rcases h with rfl | ⟨n, hn, rfl⟩
  · have c0 := nil_w w
    have c1 := smallOf_n _ h0 w
    have c2 := atomOf_i _ h0 w
    have c3 := pointer_i _ h0 w
    have c4 := headerOf_i _ h0 w
    go_enter Tryz.func294, Tryz.ntmps294
    go_wp2_with (first
      | (go_at_call 30; refine c0.mono ?_; rintro e w' ⟨rfl, rfl⟩)
      | (go_at_call 150; refine c1.mono ?_; rintro e w' ⟨rfl, rfl⟩)
      | (go_at_call 151; refine c2.mono ?_; rintro e w' ⟨rfl, rfl⟩)
      | (go_at_call 152; refine c3.mono ?_; rintro e w' ⟨rfl, rfl⟩)
      | (go_at_call 228; refine c4.mono ?_; rintro e w' ⟨rfl, rfl⟩))
    go_ret
    exact ⟨rfl, rfl⟩
  · exact valid_w n hn w
theorem term_i (a : Value) : Calls Tryz.prog 225 #[a, .int .u64 x] w fun e w' => e = .returned (.bool true) ∧ w' = w := by
  have c0 := tag_i x h w
  have c1 := valid_i x h w
  go_enter Tryz.func225, Tryz.ntmps225
  go_wp2_with (first
    | (go_at_call 155; refine c0.mono ?_; rintro e w' ⟨rfl, rfl⟩)
    | (go_at_call 294; refine c1.mono ?_; rintro e w' ⟨rfl, rfl⟩))
  go_ret
  exact ⟨rfl, rfl⟩
/-- The heap has been made. -/
def MadeH (hb ho : Nat) (w : World) : Prop := ∃ tb, w.cell? ⟨hb, ho + 6, none⟩ = some (.pointer (some tb))
omit h in
theorem made_h (hb ho : Nat) (m : MadeH hb ho w) : Calls Tryz.prog 185 #[.pointer (some ⟨hb, ho, none⟩)] w fun e w' => e = .returned (.bool true) ∧ w' = w := by
  obtain ⟨tb, ht⟩ := m
  go_enter Tryz.func185, Tryz.ntmps185
  go_wp2
  go_ret
  exact ⟨rfl, rfl⟩
theorem is_i (hb ho : Nat) (m : MadeH hb ho w) : Calls Tryz.prog 149 #[.pointer (some ⟨hb, ho, none⟩), .int .u64 x] w fun e w' => e = .returned (.bool true) ∧ w' = w := by
  have c0 := made_h w hb ho m
  have c1 := fun a => term_i x h w a
  have c2 := atomOf_i x h w
  clear m
  go_enter Tryz.func149, Tryz.ntmps149
  go_wp2_with (first
    | (go_at_call 185; refine c0.mono ?_; rintro e w' ⟨rfl, rfl⟩)
    | (go_at_call 225; refine (c1 _).mono ?_; rintro e w' ⟨rfl, rfl⟩)
    | (go_at_call 151; refine c2.mono ?_; rintro e w' ⟨rfl, rfl⟩))
  all_goals
    go_ret
    exact ⟨rfl, rfl⟩
omit h in
theorem of_i (hb ho : Nat) : Calls Tryz.prog 153 #[.pointer (some ⟨hb, ho, none⟩), .bool false] w fun e w' => e = .returned (.pointer (some ⟨hb, ho, none⟩)) ∧ w' = w := by
  go_enter Tryz.func153, Tryz.ntmps153
  go_wp2
  go_ret
  exact ⟨rfl, rfl⟩
theorem object_i (hb ho : Nat) : Calls Tryz.prog 99 #[.pointer (some ⟨hb, ho, none⟩), .int .u64 x] w fun e w' => (∃ a b, e = .returned (.tuple #[a, b, .bool false])) ∧ w' = w := by
  have c := pointer_i x h w
  have c1 := of_i w hb ho
  go_enter Tryz.func99, Tryz.ntmps99
  go_wp2_with (first
    | (go_at_call 152; refine c.mono ?_; rintro e w' ⟨rfl, rfl⟩)
    | (go_at_call 153; refine c1.mono ?_; rintro e w' ⟨rfl, rfl⟩))
  all_goals
    go_ret3
    exact ⟨⟨_, _, rfl⟩, rfl⟩
theorem kind_i (hb ho : Nat) (m : MadeH hb ho w) : Calls Tryz.prog 98 #[.pointer (some ⟨hb, ho, none⟩), .int .u64 x] w fun e w' => (∃ k : Int, k ≠ 0 ∧ e = .returned (.int .i64 k)) ∧ w' = w := by
  have c0 := is_i x h w hb ho m
  have c2 := atomOf_i x h w
  have c3 := object_i x h w hb ho
  clear m
  rcases h with rfl | ⟨n, hn, rfl⟩
  · have c1 := smallOf_n _ (.inl rfl) w
    go_enter Tryz.func98, Tryz.ntmps98
    go_wp2_with (first
      | (go_at_call 149; refine c0.mono ?_; rintro e w' ⟨rfl, rfl⟩)
      | (go_at_call 150; refine c1.mono ?_; rintro e w' ⟨rfl, rfl⟩)
      | (go_at_call 151; refine c2.mono ?_; rintro e w' ⟨rfl, rfl⟩)
      | (go_at_call 99; refine c3.mono ?_; rintro e w' ⟨⟨a, b, rfl⟩, rfl⟩))
    all_goals
      go_ret
      exact ⟨⟨_, by decide, rfl⟩, rfl⟩
  · have c1 := smallOf_w n hn w
    go_enter Tryz.func98, Tryz.ntmps98
    go_wp2_with (first
      | (go_at_call 149; refine c0.mono ?_; rintro e w' ⟨rfl, rfl⟩)
      | (go_at_call 150; refine c1.mono ?_; rintro e w' ⟨rfl, rfl⟩)
      | (go_at_call 151; refine c2.mono ?_; rintro e w' ⟨rfl, rfl⟩)
      | (go_at_call 99; refine c3.mono ?_; rintro e w' ⟨⟨a, b, rfl⟩, rfl⟩))
    all_goals
      go_ret
      exact ⟨⟨_, by decide, rfl⟩, rfl⟩
end Go.Proofs.YtogbcielgfidlaaGreatDoor
namespace Go.Proofs.YtogbcielgfidlaaGreatDoor
set_option linter.unusedVariables false
set_option linter.unusedSimpArgs false
set_option linter.unusedSectionVars false
set_option linter.unusedSimpArgs false
set_option linter.unusedVariables false
open Go.RowKit
/-- A keeper and its heap. -/
structure KeepH (kb ko hb ho : Nat) (w : World) : Prop where
  h : w.cell? ⟨kb, ko, none⟩ = some (.pointer (some ⟨hb, ho, none⟩))
  made : MadeH hb ho w
theorem terms1_w (bx kb ko hb ho : Nat) (w : World) (hx : w.cell? ⟨bx, 0, none⟩ = some (.pointer (some ⟨kb, ko, none⟩))) (hk : KeepH kb ko hb ho w) (x : Int) (h : ImmW x) :
    Calls Tryz.prog 369 #[.int .u64 x, .pointer (some ⟨bx, 0, none⟩)] w fun e w' => e = .returned (.bool false) ∧ w' = w := by
  obtain ⟨h0, m⟩ := hk
  have c := kind_i x h w hb ho m
  clear m
  go_enter Tryz.func369, Tryz.ntmps369
  go_wp2_with (go_at_call 98; refine c.mono ?_; rintro e w' ⟨⟨k, hk, rfl⟩, rfl⟩)
  go_ret
  exact ⟨by simp [hk], rfl⟩
/-- A row of words that are no pointers. -/
def RowW (rb ro len : Nat) (ws : Nat → Int) (w : World) : Prop := ∀ j, j < len → w.cell? ⟨rb, ro + j, none⟩ = some (.int .u64 (ws j)) ∧ ImmW (ws j)
set_option maxHeartbeats 2000000 in
theorem index_w (bx kb ko hb ho rb ro len cap : Nat) (ws : Nat → Int) (w : World) (hx : w.cell? ⟨bx, 0, none⟩ = some (.pointer (some ⟨kb, ko, none⟩))) (hk : KeepH kb ko hb ho w) (hr : RowW rb ro len ws w) (hl : len ≤ 100000) :
    Calls Tryz.prog 304 #[.slice (some ⟨rb, ro, none⟩) len cap, .func (.func 369) #[] #[.pointer (some ⟨bx, 0, none⟩)]] w fun e w' => e = .returned (.int .i64 (-1)) ∧ w' = w := by
  have c : ∀ j, j < len → Calls Tryz.prog 369 #[.int .u64 (ws j), .pointer (some ⟨bx, 0, none⟩)] w fun e w' => e = .returned (.bool false) ∧ w' = w := fun j hj => terms1_w bx kb ko hb ho w hx hk (ws j) (hr j hj).2
  have cl : ∀ j, j < len → w.cell? ⟨rb, ro + j, none⟩ = some (.int .u64 (ws j)) := fun j hj => (hr j hj).1
  clear hx hk hr
  go_enter Tryz.func304, Tryz.ntmps304
  go_wp2
  go_loopw [8] (fun i wr => ∃ k : Nat, k ≤ len ∧ i = .int .i64 k ∧ wr = w) (fun i _ => len - (intOf i).toNat)
  case atStart => exact ⟨0, Nat.zero_le _, rfl, rfl⟩
  case round =>
    obtain ⟨k, hk, rfl, rfl⟩ := hrel
    by_cases hlt : k < len
    · have c1 := c k hlt
      have l1 := cl k hlt
      have klt : (k : Int) < len := by omega
      clear c cl
      go_wp2_with (go_at_call 369; refine c1.mono ?_; rintro e w' ⟨rfl, rfl⟩)
      exact ⟨⟨k + 1, by omega, by simp, trivial⟩, by simp [intOf]; omega⟩
    · have kge : ¬ (k : Int) < len := by omega
      clear c cl
      go_wp2
      go_ret
      exact ⟨rfl, rfl⟩
theorem contains_w (bx kb ko hb ho rb ro len cap : Nat) (ws : Nat → Int) (w : World) (hx : w.cell? ⟨bx, 0, none⟩ = some (.pointer (some ⟨kb, ko, none⟩))) (hk : KeepH kb ko hb ho w) (hr : RowW rb ro len ws w) (hl : len ≤ 100000) :
    Calls Tryz.prog 261 #[.slice (some ⟨rb, ro, none⟩) len cap, .func (.func 369) #[] #[.pointer (some ⟨bx, 0, none⟩)]] w fun e w' => e = .returned (.bool false) ∧ w' = w := by
  have c := index_w bx kb ko hb ho rb ro len cap ws w hx hk hr hl
  clear hx hk hr
  go_enter Tryz.func261, Tryz.ntmps261
  go_wp2_with (go_at_call 304; refine c.mono ?_; rintro e w' ⟨rfl, rfl⟩)
  go_ret
  exact ⟨rfl, rfl⟩
theorem cell_alloc {w : World} {o : Obj} {b i : Nat} {v : Value} (h : w.cell? ⟨b, i, none⟩ = some v) : (w.alloc o).cell? ⟨b, i, none⟩ = some v := by
  have hb := World.block_lt_of_cell? w _ h
  rw [← h]
  exact World.cell?_of_block (by
    show (w.heap.push o)[b]? = w.heap[b]?
    rw [Array.getElem?_push, if_neg (by have : b < w.heap.size := hb; omega)])
theorem cell_new (w : World) (v : Value) (t : TypeId) : (w.alloc (.cells #[v] t)).cell? ⟨w.heap.size, 0, none⟩ = some v := by
  have h : (w.alloc (.cells #[v] t)).heap[w.heap.size]? = some (.cells #[v] t) := by
    show (w.heap.push _)[w.heap.size]? = _
    simp
  simp only [World.cell?, h]
  rfl
theorem terms_w (kb ko hb ho rb ro len cap : Nat) (ws : Nat → Int) (w : World) (hk : KeepH kb ko hb ho w) (hr : RowW rb ro len ws w) (hl : len ≤ 100000) :
    Calls Tryz.prog 287 #[.pointer (some ⟨kb, ko, none⟩), .slice (some ⟨rb, ro, none⟩) len cap] w fun e w' => e = .returned (.bool true) ∧ ∃ t, w' = w.alloc (.cells #[.pointer (some ⟨kb, ko, none⟩)] t) := by
  have c : ∀ t, Calls Tryz.prog 261 #[.slice (some ⟨rb, ro, none⟩) len cap, .func (.func 369) #[] #[.pointer (some ⟨w.heap.size, 0, none⟩)]] (w.alloc (.cells #[.pointer (some ⟨kb, ko, none⟩)] t)) fun e w' => e = .returned (.bool false) ∧ w' = w.alloc (.cells #[.pointer (some ⟨kb, ko, none⟩)] t) := by
    intro t
    obtain ⟨h0, tb, m⟩ := hk
    refine contains_w w.heap.size kb ko hb ho rb ro len cap ws _ ?_ ⟨cell_alloc h0, tb, cell_alloc m⟩ (fun j hj => ⟨cell_alloc (hr j hj).1, (hr j hj).2⟩) hl
    exact cell_new w _ t
  clear hk hr
  go_enter Tryz.func287, Tryz.ntmps287
  go_wp2_with (go_at_call 261; refine (c _).mono ?_; rintro e w' ⟨rfl, rfl⟩)
  go_ret
  exact ⟨rfl, _, rfl⟩
end Go.Proofs.YtogbcielgfidlaaGreatDoor
namespace Go.Proofs.YtogbcielgfidlaaGreatDoor
set_option linter.unusedVariables false
set_option linter.unusedSimpArgs false
set_option linter.unusedSectionVars false
set_option linter.unusedSimpArgs false
set_option linter.unusedVariables false
open Go.Shelf Go.RowKit Go.Lib
theorem info94 : (Tryz.prog.info? 94).map (fun i => (i.zero, i.size, i.bytes)) = some (some (.int .u64 0), 1, 8) := by kernel_rfl
set_option maxHeartbeats 2000000 in
set_option maxRecDepth 100000 in
theorem clone_w (b off n c : Nat) (zs : List Int) (w : World) (hz : n ≤ zs.length) (hbig : n * 8 ≤ 140737488355328) (hc : ∀ j, j < zs.length → w.cell? ⟨b, off + j, none⟩ = some (.int .u64 (zs.getD j 0))) :
    Calls Tryz.prog 202 #[.slice (some ⟨b, off, none⟩) n c] w fun e w' => ∃ v', e = .returned v' ∧ w'.ownsRow w.heap.size 94 1 v' n ((zs.take n).map (Value.int .u64)) ∧ v' ≠ .slice none 0 0 ∧ Below w.heap.size w w' := by
  obtain ⟨i0, hi, hz0, hz1, hz2⟩ := info_parts info94
  have q22 : ∀ (w : World) (a : Option Addr) (n c n' c' : Nat), (binOp .eql 97 (.slice a n c) (.slice none n' c')).run Tryz.prog w = .ok (.bool a.isNone) w := fun w a n c n' c' => Lib.run_eql_slice_nil w _ _ a n c n' c' Tryz.underlying97
  have u22 : ∀ w, Sem.run Tryz.prog (underlying 97) w = .ok (TypeDesc.slice 94) w := run_underlying Tryz.underlying97
  have A : Aside (∀ j, j < zs.length → w.cell? ⟨b, off + j, none⟩ = some (.int .u64 (zs.getD j 0))) := hc
  clear hc
  go_enter Tryz.func202, Tryz.ntmps202
  go_wp2_with (at_builtin; refine wpList_append_own _ rfl _ _ 97 rfl w.heap.size 94 i0 (.int .u64 0) 1 8 Tryz.underlying97 hi hz0 hz1 hz2 rfl (by decide) _ _ _ rfl (World.ownsRow_made w #[] 0 (Nat.le_refl _) (Nat.zero_le _) rfl) ⟨b, off, none⟩ n c ((zs.take n).map (Value.int .u64)) rfl ?qc1 ?qc2 ?qc3 ?qc4 ?qc5 ?qc6 ?_)
  case qc1 => simp; omega
  case qc2 =>
    intro j u hj
    have hjn : j < n ∧ j < zs.length := by
      have := (List.getElem?_eq_some_iff.1 hj).1
      simp at this
      omega
    rw [Addr.add_lit]
    refine Lib.cell?_alloc_some _ ?_
    rw [A.out j hjn.2]
    have e : ((zs.take n).map (Value.int .u64))[j]? = some (Value.int .u64 (zs.getD j 0)) := by simp [List.getD, hjn.1, List.getElem?_eq_getElem hjn.2]
    rw [e] at hj
    exact hj
  case qc3 => intro u hu; obtain ⟨x, _, rfl⟩ := List.mem_map.1 hu; rfl
  case qc4 => unfold maxLen; omega
  case qc5 => omega
  case qc6 => simp
  intro v' w1 hown hgrow hnil
  go_wp2
  go_ret
  refine ⟨v', rfl, by simpa using hown, ?_, ?_⟩
  · exact hnil
  · exact ((Below.refl _ w).alloc (Nat.le_refl _) _).grown hgrow (by simp) (by intro k hk; simp [Value.ownBlock] at hk; omega)
end Go.Proofs.YtogbcielgfidlaaGreatDoor
namespace Go.Proofs.YtogbcielgfidlaaGreatDoor
set_option linter.unusedVariables false
set_option linter.unusedSimpArgs false
set_option linter.unusedSectionVars false
set_option linter.unusedSimpArgs false
set_option linter.unusedVariables false
open Go.Shelf Go.RowKit Go.Lib
/-- An empty heap. -/
structure EmptyH (hb ho : Nat) (cap : Int) (w : World) : Prop where
  yw : ∃ a c, w.cell? ⟨hb, ho, none⟩ = some (.slice a 0 c)
  cp : w.cell? ⟨hb, ho + 5, none⟩ = some (.int .i64 cap)
theorem hroom_w (hb ho : Nat) (cap : Int) (h0 : 0 ≤ cap) (h1 : cap ≤ 1000000) (w : World) (m : MadeH hb ho w) (em : EmptyH hb ho cap w) : Calls Tryz.prog 188 #[.pointer (some ⟨hb, ho, none⟩)] w fun e w' => e = .returned (.int .i64 cap) ∧ ∃ m, w' = w.drewN m := by
  have c0 := made_h w hb ho m
  obtain ⟨⟨a, c, e1⟩, e2⟩ := em
  clear m
  go_enter Tryz.func188, Tryz.ntmps188
  go_wp2_with (go_at_call 185; refine c0.mono ?_; rintro e w' ⟨rfl, rfl⟩)
  go_quiet (fail)
  go_wp2
  go_ret
  exact ⟨by simp, _, rfl⟩
theorem empty_alloc {hb ho : Nat} {cap : Int} {w : World} {o : Obj} (em : EmptyH hb ho cap w) : EmptyH hb ho cap (w.alloc o) := by
  obtain ⟨⟨a, c, e1⟩, e2⟩ := em
  exact ⟨⟨a, c, cell_alloc e1⟩, cell_alloc e2⟩
theorem below_drew {B : Nat} {a w : World} (h : Below B a w) (n : Nat) : Below B a (w.drewN n) := h.trans ⟨rfl, rfl, rfl, Nat.le_refl _, fun _ _ => rfl⟩
set_option maxHeartbeats 2000000 in
set_option maxRecDepth 100000 in
theorem room0_w (kb ko hb ho b off n c : Nat) (cap : Int) (zs : List Int) (w : World) (hk : KeepH kb ko hb ho w) (em : EmptyH hb ho cap w) (h0 : 0 ≤ cap) (h1 : cap ≤ 1000000) (he : w.cell? ⟨kb, ko + 3, none⟩ = some (.bool false)) (hl : zs.length ≤ 100000) (hn : n = zs.length)
    (hr : RowW b off n (fun j => zs.getD j 0) w) :
    Calls Tryz.prog 211 #[.pointer (some ⟨kb, ko, none⟩), .int .i64 0, .slice (some ⟨b, off, none⟩) n c] w fun e w' => ∃ v' B, e = .returned (.tuple #[v', .int .i64 0]) ∧ w'.ownsRow B 94 1 v' n (zs.map (Value.int .u64)) ∧ w.heap.size ≤ B ∧ Below w.heap.size w w' := by
  subst hn
  obtain ⟨k0, m⟩ := hk
  have c0 : Calls Tryz.prog 287 #[.pointer (some ⟨kb, ko, none⟩), .slice (some ⟨b, off, none⟩) zs.length c] w fun e w1 => e = .returned (.bool true) ∧ w1.cell? ⟨kb, ko + 3, none⟩ = some (.bool false) ∧ w1.cell? ⟨kb, ko, none⟩ = some (.pointer (some ⟨hb, ho, none⟩)) ∧
      Calls Tryz.prog 188 #[.pointer (some ⟨hb, ho, none⟩)] w1 (fun e w' => e = .returned (.int .i64 cap) ∧ ∃ m, w' = w1.drewN m) ∧
      ∀ m, Calls Tryz.prog 202 #[.slice (some ⟨b, off, none⟩) zs.length c] (w1.drewN m) (fun e w' => ∃ v' B, e = .returned v' ∧ w'.ownsRow B 94 1 v' zs.length (zs.map (Value.int .u64)) ∧ w.heap.size ≤ B ∧ Below w.heap.size w w') := by
    refine (terms_w kb ko hb ho b off zs.length c _ w ⟨k0, m⟩ hr hl).mono ?_
    rintro e w1 ⟨rfl, t, rfl⟩
    obtain ⟨tb, ht⟩ := m
    refine ⟨rfl, cell_alloc he, cell_alloc k0, hroom_w hb ho cap h0 h1 _ ⟨tb, cell_alloc ht⟩ (empty_alloc em), fun m => ?_⟩
    refine (clone_w b off zs.length c zs ((w.alloc (.cells #[.pointer (some ⟨kb, ko, none⟩)] t)).drewN m) (Nat.le_refl _) (by omega) fun j hj => ((rfl : ((w.alloc (.cells #[.pointer (some ⟨kb, ko, none⟩)] t)).drewN m).cell? ⟨b, off + j, none⟩ = _).trans (cell_alloc (hr j hj).1))).mono ?_
    rintro e w2 ⟨v', rfl, q1, q2, q3⟩
    rw [List.take_length] at q1
    have hs : w.heap.size ≤ (w.alloc (.cells #[.pointer (some ⟨kb, ko, none⟩)] t)).heap.size := by
      show _ ≤ (w.heap.push _).size
      rw [Array.size_push]; omega
    exact ⟨v', _, rfl, q1, hs, (below_drew ((Below.refl _ w).alloc (Nat.le_refl _) _) m).trans (q3.mono hs)⟩
  clear hr em m
  go_enter Tryz.func211, Tryz.ntmps211
  go_wp2_with (first
    | (go_at_call 287; refine c0.mono ?_; rintro e w1 ⟨rfl, he1, k1, c1, c2⟩)
    | (go_at_call 188; refine c1.mono ?_; rintro e w2 ⟨rfl, m, rfl⟩)
    | (go_at_call 202; refine (c2 _).mono ?_; rintro e w3 ⟨v', B, rfl, q1, q2, q3⟩))
  go_ret2
  exact ⟨_, _, rfl, q1, q2, q3⟩
end Go.Proofs.YtogbcielgfidlaaGreatDoor
namespace Go.Proofs.YtogbcielgfidlaaGreatDoor
set_option linter.unusedVariables false
set_option linter.unusedSimpArgs false
set_option linter.unusedSectionVars false
set_option linter.unusedSimpArgs false
set_option linter.unusedVariables false
open Go.Shelf Go.RowKit Go.Lib
theorem mk0 (w : World) : (Instr.makeSlice 153 (.int .i64 0) (.int .i64 0)).run Tryz.prog w = .ok (.slice (some ⟨w.heap.size, 0, none⟩) 0 0) (w.alloc (.cells #[] 4)) := by kernel_rfl
set_option maxHeartbeats 2000000 in
set_option maxRecDepth 100000 in
theorem begins_w (a : Option Addr) (c : Nat) (w : World) : Calls Tryz.prog 458 #[.slice a 0 c] w fun e w' => e = .returned (.slice (some ⟨w.heap.size, 0, none⟩) 0 0) ∧ Below w.heap.size w w' := by
  have k := mk0
  go_enter Tryz.func458, Tryz.ntmps458
  go_wp2
  go_loopw [4] (fun i wr => i = .int .i64 0 ∧ wr = w.alloc (.cells #[] 4)) (fun _ _ => 0)
  case atStart => exact ⟨rfl, rfl⟩
  case round =>
    obtain ⟨rfl, rfl⟩ := hrel
    go_wp2
    go_ret
    exact ⟨rfl, (Below.refl _ w).alloc (Nat.le_refl _) _⟩
end Go.Proofs.YtogbcielgfidlaaGreatDoor
namespace Go.Proofs.YtogbcielgfidlaaGreatDoor
set_option linter.unusedVariables false
set_option linter.unusedSimpArgs false
set_option linter.unusedSectionVars false
set_option linter.unusedSimpArgs false
set_option linter.unusedVariables false
open Go.Shelf Go.RowKit Go.Lib
theorem keep_i (x : Int) (h : ImmW x) (c : Value) (w : World) : Calls Tryz.prog 461 #[c, .int .u64 x] w fun e w' => e = .returned (.int .u64 x) ∧ w' = w := by
  have c0 := pointer_i x h w
  go_enter Tryz.func461, Tryz.ntmps461
  go_wp2_with (go_at_call 152; refine c0.mono ?_; rintro e w' ⟨rfl, rfl⟩)
  go_ret
  exact ⟨rfl, rfl⟩
set_option maxHeartbeats 2000000 in
set_option maxRecDepth 100000 in
theorem run_w (cb co b off n c : Nat) (zs : List Int) (w : World) (hl : zs.length ≤ 100000) (hn : n = zs.length) (hr : RowW b off n (fun j => zs.getD j 0) w) (hcp : w.cell? ⟨cb, co + 8, none⟩ = some (.slice none 0 0)) :
    Calls Tryz.prog 436 #[.pointer (some ⟨cb, co, none⟩), .slice (some ⟨b, off, none⟩) n c] w fun e w' => ∃ v', e = .returned v' ∧ w'.ownsRow w.heap.size 94 1 v' n (zs.map (Value.int .u64)) ∧ Below w.heap.size w w' := by
  subst hn
  obtain ⟨i0, hi, hz0, hz1, hz2⟩ := info_parts info94
  have A : Aside (RowW b off zs.length (fun j => zs.getD j 0) w) := hr
  have C : Aside (w.cell? ⟨cb, co + 8, none⟩ = some (.slice none 0 0)) := hcp
  clear hr hcp
  go_enter Tryz.func436, Tryz.ntmps436
  go_wp2
  obtain ⟨W1, hW1⟩ : ∃ W1, W1 = w.alloc (.cells #[.pointer (some ⟨cb, co, none⟩)] 455) := ⟨_, rfl⟩
  have hs1 : W1.heap.size = w.heap.size + 1 := by rw [hW1]; simp
  have hcx : W1.cell? ⟨w.heap.size, 0, none⟩ = some (.pointer (some ⟨cb, co, none⟩)) := by rw [hW1]; exact cell_new w _ _
  have hbw : Below w.heap.size w W1 := by rw [hW1]; exact (Below.refl _ w).alloc (Nat.le_refl _) _
  go_loopw [5, 18] (fun v i wl => ∃ k : Nat, k ≤ zs.length ∧ i = .int .i64 k ∧ wl.ownsRow (w.heap.size + 1) 94 1 v k ((zs.take k).map (Value.int .u64)) ∧ Below (w.heap.size + 1) W1 wl) (fun _ i _ => zs.length - (RowKit.intOf i).toNat)
  case atStart => exact ⟨0, Nat.zero_le _, rfl, by rw [List.take_zero]; exact Go.World.ownsRow_nil _ _ _ _, hW1 ▸ Below.refl _ _⟩
  case round =>
    obtain ⟨k, hk, rfl, hown, hbel⟩ := hrel
    have hcr : wr.cell? ⟨w.heap.size, 0, none⟩ = some (.pointer (some ⟨cb, co, none⟩)) := (hbel.cell (p := ⟨w.heap.size, 0, none⟩) (Nat.lt_succ_self _)).trans hcx
    by_cases hlt : k < zs.length
    · obtain ⟨hc1, hc2⟩ := A.out k hlt
      obtain ⟨x, hx⟩ : ∃ x, zs.getD k 0 = x := ⟨_, rfl⟩
      simp only [hx] at hc1 hc2
      have hb : b < w.heap.size := World.block_lt_of_cell? w _ hc1
      have hcw : wr.cell? ⟨b, off + k, none⟩ = some (.int .u64 x) := (hbel.cell (p := ⟨b, off + k, none⟩) (Nat.lt_succ_of_lt hb)).trans ((hbw.cell (p := ⟨b, off + k, none⟩) hb).trans hc1)
      have c1 := fun cv w => keep_i x hc2 cv w
      have klt : (k : Int) < zs.length := by omega
      have hd : zs.take (k + 1) = zs.take k ++ [x] := by
        rw [List.take_add_one]
        simp [List.getElem?_eq_getElem hlt, ← hx, List.getD]
      clear A hcx hW1
      go_wp2_with (first
        | (go_at_call 461; refine (c1 _ _).mono ?_; rintro e wr ⟨rfl, rfl⟩)
        | (at_builtin; refine wpList_append_own _ rfl _ _ 97 rfl (w.heap.size + 1) 94 i0 (.int .u64 0) 1 8 Tryz.underlying97 hi hz0 hz1 hz2 rfl (by decide) _ _ _ rfl (hown.alloc _) ⟨wr.heap.size, 0, none⟩ 1 1 [.int .u64 x] rfl rfl (cell_one_new _ _ _) (ints_oneCell .u64 [x]) (by unfold maxLen; omega) (by omega) (by have := hbel.size; simp; omega) ?_; intro v' w5 hown' hgrow hnil))
      refine ⟨⟨k + 1, hlt, by simp, by rw [hd, List.map_append]; exact hown', ?_⟩, by simp [RowKit.intOf]; omega⟩
      exact (hbel.alloc (by have := hbel.size; omega) _).grown hgrow (by have := hbel.size; simp; omega) fun q hq => by
        have hq : u5.ownBlock = some q := hq
        obtain ⟨_, hown | ⟨g0, cp0, cur, e0, e1, _⟩⟩ := hown
        · rw [hown.1] at hq; cases hq
        · rw [e0] at hq; cases hq; exact e1
    · clear A hcx hW1
      have kge : ¬ (k : Int) < zs.length := by omega
      have hke : k = zs.length := by omega
      subst hke
      have hcb : cb < w.heap.size := World.block_lt_of_cell? w _ C.out
      have hcc : wr.cell? ⟨cb, co + 8, none⟩ = some (.slice none 0 0) := (hbel.cell (p := ⟨cb, co + 8, none⟩) (Nat.lt_succ_of_lt hcb)).trans ((hbw.cell (p := ⟨cb, co + 8, none⟩) hcb).trans C.out)
      clear C
      go_wp2
      go_loopw [8] (fun i wl => i = .int .i64 0 ∧ wl = wr) (fun _ _ => 0)
      case atStart => exact ⟨rfl, rfl⟩
      case round =>
        obtain ⟨rfl, rfl⟩ := hrel
        go_wp2
        go_ret
        refine ⟨u5, rfl, ?_, hbw.trans (hbel.mono (Nat.le_succ _))⟩
        have h1 := hown
        rw [List.take_length] at h1
        obtain ⟨e0, h2⟩ := h1
        exact ⟨e0, h2.imp id fun ⟨g, cp, cur, q1, q2, q3⟩ => ⟨g, cp, cur, q1, Nat.le_of_succ_le q2, q3⟩⟩
/-- The words fit a memory that is empty. -/
theorem fits1_i (x : Int) (h : ImmW x) (a b c : Value) (w : World) : Calls Tryz.prog 459 #[.int .u64 x, a, b, c] w fun e w' => e = .returned (.bool false) ∧ w' = w := by
  have c0 := pointer_i x h w
  have c1 := tag_i x h w
  have c2 := valid_i x h w
  go_enter Tryz.func459, Tryz.ntmps459
  go_wp2_with (first
    | (go_at_call 152; refine c0.mono ?_; rintro e w' ⟨rfl, rfl⟩)
    | (go_at_call 155; refine c1.mono ?_; rintro e w' ⟨rfl, rfl⟩)
    | (go_at_call 294; refine c2.mono ?_; rintro e w' ⟨rfl, rfl⟩))
  go_ret
  exact ⟨rfl, rfl⟩
set_option maxHeartbeats 2000000 in
theorem indexF_w (rb ro len cap : Nat) (ws : Nat → Int) (f1 f2 f3 : Value) (w : World) (hr : RowW rb ro len ws w) (hl : len ≤ 100000) :
    Calls Tryz.prog 304 #[.slice (some ⟨rb, ro, none⟩) len cap, .func (.func 459) #[] #[f1, f2, f3]] w fun e w' => e = .returned (.int .i64 (-1)) ∧ w' = w := by
  have c : ∀ j, j < len → Calls Tryz.prog 459 #[.int .u64 (ws j), f1, f2, f3] w fun e w' => e = .returned (.bool false) ∧ w' = w := fun j hj => fits1_i (ws j) (hr j hj).2 f1 f2 f3 w
  have cl : ∀ j, j < len → w.cell? ⟨rb, ro + j, none⟩ = some (.int .u64 (ws j)) := fun j hj => (hr j hj).1
  clear hr
  go_enter Tryz.func304, Tryz.ntmps304
  go_wp2
  go_loopw [8] (fun i wr => ∃ k : Nat, k ≤ len ∧ i = .int .i64 k ∧ wr = w) (fun i _ => len - (RowKit.intOf i).toNat)
  case atStart => exact ⟨0, Nat.zero_le _, rfl, rfl⟩
  case round =>
    obtain ⟨k, hk, rfl, rfl⟩ := hrel
    by_cases hlt : k < len
    · have c1 := c k hlt
      have l1 := cl k hlt
      have klt : (k : Int) < len := by omega
      clear c cl
      go_wp2_with (go_at_call 459; refine c1.mono ?_; rintro e w' ⟨rfl, rfl⟩)
      exact ⟨⟨k + 1, by omega, by simp, trivial⟩, by simp [RowKit.intOf]; omega⟩
    · have kge : ¬ (k : Int) < len := by omega
      clear c cl
      go_wp2
      go_ret
      exact ⟨rfl, rfl⟩
theorem containsF_w (rb ro len cap : Nat) (ws : Nat → Int) (f1 f2 f3 : Value) (w : World) (hr : RowW rb ro len ws w) (hl : len ≤ 100000) :
    Calls Tryz.prog 261 #[.slice (some ⟨rb, ro, none⟩) len cap, .func (.func 459) #[] #[f1, f2, f3]] w fun e w' => e = .returned (.bool false) ∧ w' = w := by
  have c := indexF_w rb ro len cap ws f1 f2 f3 w hr hl
  clear hr
  go_enter Tryz.func261, Tryz.ntmps261
  go_wp2_with (go_at_call 304; refine c.mono ?_; rintro e w' ⟨rfl, rfl⟩)
  go_ret
  exact ⟨rfl, rfl⟩
end Go.Proofs.YtogbcielgfidlaaGreatDoor
namespace Go.Proofs.YtogbcielgfidlaaGreatDoor
set_option linter.unusedVariables false
set_option linter.unusedSimpArgs false
set_option linter.unusedSectionVars false
set_option linter.unusedSimpArgs false
set_option linter.unusedVariables false
open Go.Shelf Go.RowKit Go.Lib
set_option maxRecDepth 100000 in
/-- A copy of an empty row of words. -/
theorem clone0_w (a : Option Addr) (c : Nat) (w : World) : Calls Tryz.prog 202 #[.slice a 0 c] w fun e w' => (∃ a' c', e = .returned (.slice a' 0 c')) ∧ Below w.heap.size w w' := by
  cases a with
  | none =>
    have q22 : ∀ (w : World) (a : Option Addr) (n c n' c' : Nat), (binOp .eql 97 (.slice a n c) (.slice none n' c')).run Tryz.prog w = .ok (.bool a.isNone) w := fun w a n c n' c' => Lib.run_eql_slice_nil w _ _ a n c n' c' Tryz.underlying97
    go_enter Tryz.func202, Tryz.ntmps202
    go_wp2
    go_ret
    exact ⟨⟨_, _, rfl⟩, Below.refl _ _⟩
  | some ad =>
    obtain ⟨i0, hi, hz0, hz1, hz2⟩ := info_parts info94
    have q22 : ∀ (w : World) (a : Option Addr) (n c n' c' : Nat), (binOp .eql 97 (.slice a n c) (.slice none n' c')).run Tryz.prog w = .ok (.bool a.isNone) w := fun w a n c n' c' => Lib.run_eql_slice_nil w _ _ a n c n' c' Tryz.underlying97
    have u22 : ∀ w, Sem.run Tryz.prog (underlying 97) w = .ok (TypeDesc.slice 94) w := run_underlying Tryz.underlying97
    go_enter Tryz.func202, Tryz.ntmps202
    go_wp2_with (at_builtin; refine wpList_append_own _ rfl _ _ 97 rfl w.heap.size 94 i0 (.int .u64 0) 1 8 Tryz.underlying97 hi hz0 hz1 hz2 rfl (by decide) _ _ _ rfl (World.ownsRow_made w #[] 0 (Nat.le_refl _) (Nat.zero_le _) rfl) ad 0 c [] rfl rfl (fun j u h => by simp at h) (fun u h => by cases h) (by unfold maxLen; omega) (by omega) (by simp) ?_)
    intro v' w1 hown hgrow hnil
    go_wp2
    go_ret
    refine ⟨?_, ((Below.refl _ w).alloc (Nat.le_refl _) _).grown hgrow (by simp) (by intro k hk; simp [Value.ownBlock] at hk; omega)⟩
    obtain ⟨_, h | ⟨g, cp, cur, e, _⟩⟩ := hown
    · rw [h.1]; exact ⟨_, _, rfl⟩
    · rw [e]; exact ⟨_, _, rfl⟩
end Go.Proofs.YtogbcielgfidlaaGreatDoor
