/-
  All registers, or those from one on, are made the empty list.
-/
import Derived.Test.YtogbcielgfidlaaGreatDoorMcP2
namespace Go.Proofs.YtogbcielgfidlaaGreatDoor
set_option linter.unusedVariables false
set_option linter.unusedSimpArgs false
set_option linter.unusedSectionVars false
namespace Ev
noncomputable section
def clearB : CCode := (.seq (.reg [⟨.l 4, .p (.bin .lss), [.l 3, .c (.int .i64 256)], none, 0, 0⟩])
 (.seq (.cond (.l 4) .skip
 (.exit 0))
 (.seq (.block 1 (.seq (.reg [⟨.t 5, .p (.mv), [.l 3], none, 0, 0⟩, ⟨.l 2, .p (.mv), [.t 5], none, 0, 0⟩])
 (.regD [⟨.t 6, .p (.mv), [.l 0], none, 0, 1⟩, ⟨.t 7, .p (.mv), [.l 2], none, 0, 1⟩, ⟨.t 9, .p (.nilc), [.t 6], none, 0, 1⟩, ⟨.t 10, .p (.fa 54), [.t 9], none, 0, 1⟩, ⟨.t 8, .call 30, [], none, 0, 1⟩, ⟨.t 11, .p (.ixarrp 256 1), [.t 10, .t 7], none, 1, 1⟩, ⟨.no, .e (.store 1), [.t 11, .t 8], none, 1, 2⟩])))
 (.reg [⟨.t 12, .p (.bin .add), [.l 3, .c (.int .i64 1)], none, 0, 0⟩, ⟨.l 3, .p (.mv), [.t 12], none, 0, 0⟩]))))
def limB : CCode := (.seq (.seq (.reg [⟨.t 6, .p (.mv), [.l 4], none, 0, 0⟩, ⟨.l 7, .p (.bin .lss), [.t 6, .c (.int .i64 256)], none, 0, 0⟩])
 (.cond (.l 7) .skip
 (.exit 0)))
 (.seq (.block 1 (.regD [⟨.t 10, .p (.mv), [.l 0], none, 0, 1⟩, ⟨.t 11, .p (.mv), [.l 4], none, 0, 1⟩, ⟨.t 13, .p (.nilc), [.t 10], none, 0, 1⟩, ⟨.t 14, .p (.fa 54), [.t 13], none, 0, 1⟩, ⟨.t 12, .call 30, [], none, 0, 1⟩, ⟨.t 15, .p (.ixarrp 256 1), [.t 14, .t 11], none, 1, 1⟩, ⟨.no, .e (.store 1), [.t 15, .t 12], none, 1, 2⟩]))
 (.reg [⟨.t 8, .p (.mv), [.l 4], none, 0, 0⟩, ⟨.t 9, .p (.bin .add), [.t 8, .c (.int .i64 1)], none, 0, 0⟩, ⟨.l 4, .p (.mv), [.t 9], none, 0, 0⟩])))
def clearP (vs : List V) (h : H) : Option (V × H) := match vs with
  | [.ptr m 0] => ob (H.wr m (repL [w11] 256) 54 h) fun h' => some (.tup [], h')
  | _ => none
def limP (vs : List V) (h : H) : Option (V × H) := match vs with
  | [.ptr m 0, .int .i64 (.ofNat k)] => oif (Nat.ble k 256) (ob (H.wr m (repL [w11] (Nat.sub 256 k)) (Nat.add 54 k) h) fun h' => some (.tup [], h'))
  | _ => none
end
variable [Opq]
set_option linter.unusedSectionVars false
theorem shape31 : cf31.code = .seq (.reg [⟨.l 3, .p (.mv), [.c (.int .i64 0)], none, 0, 0⟩]) (.block 0 (.loop clearB)) := by kernel_rfl
theorem shape117 : cf117.code = .seq (.reg [⟨.t 5, .p (.mv), [.l 1], none, 0, 0⟩, ⟨.l 4, .p (.mv), [.t 5], none, 0, 0⟩]) (.block 0 (.loop limB)) := by kernel_rfl
section
variable {call : CallT} {rd : Bool} {n : Nat} {f f1 : F} {h h1 : H} {ops l : List COper} {o : COper} {d : Dst} {op : COp} {args : List Opd} {lo hi : Nat} {vs : List V} {v : V} {hs : List H} {cs : List Tc} {s : St}
theorem ex_regD (e : runOpsD call ops ⟨f, h, [], []⟩ = some s) (k : (Bool.rec (motive := fun _ => Bool) (checkAll s.cs (revL s.hs [s.h])) true (quiet ops) : Bool) = true) : exec call rd n (.regD ops) f h = some (.norm, clr s.f, s.h) := by
  show ob (runOpsD call ops ⟨f, h, [], []⟩) _ = _
  rw [e]
  show oif (Bool.rec (motive := fun _ => Bool) (checkAll s.cs (revL s.hs [s.h])) true (quiet ops)) _ = _
  rw [k]
  rfl
theorem ex_block {id : Nat} {c : CCode} {r : Res} (e : exec call rd n c f h = r) : exec call rd n (.block id c) f h = blockX id r := by
  show blockX id (exec call rd n c f h) = _
  rw [e]
theorem opD_cons {s' : St} {r : Option St} (e : o.runD call s = some s') (k : runOpsD call l s' = r) : runOpsD call (o :: l) s = r := by
  show ob (o.runD call s) _ = _
  rw [e]
  exact k
theorem opD_run (a : evs f args = some vs) (e : op.run call vs h = some (v, h1)) :
    COper.runD call ⟨d, op, args, none, lo, hi⟩ ⟨f, h, hs, cs⟩ = some ⟨d.put f v, h1, Bool.rec (motive := fun _ => List H) hs (h :: hs) (isE op), COp.rec (motive := fun _ => List Tc) (fun _ => cs) (fun q => ⟨q, vs, v, lo, hi⟩ :: cs) (fun _ => cs) (fun _ => cs) (fun _ => cs) cs op⟩ := by
  unfold COper.runD
  show ob (some true) _ = _
  show ob (evs f args) _ = _
  rw [a]
  show ob (op.run call vs h) _ = _
  rw [e]
  rfl
end
theorem ltI_of {i : Nat} (h : i < 256) : ltI (Int.ofNat i) 256 = true := by
  rw [ltI_eq]
  exact decide_eq_true (by show (i : Int) < 256; omega)
theorem ltI_256 : ltI (Int.ofNat 256) 256 = false := by decide
theorem wrap_succ {i : Nat} (h : i < 256) : wrapF .i64 (Int.add (Int.ofNat i) 1) = Int.ofNat (i + 1) := by
  show (Bool.rec (motive := fun _ => Int) (wrapN .i64 (Nat.mod (i + 1) (modK .i64))) (Int.ofNat (i + 1)) (Nat.blt (i + 1) (halfK .i64)) : Int) = _
  have : Nat.blt (i + 1) (halfK .i64) = true := by
    show Nat.blt (i + 1) 9223372036854775808 = true
    simp
    omega
  rw [this]
theorem idx_of {i : Nat} (h : i < 256) : idx (Int.ofNat i) 256 = some i := by
  show oif (Nat.blt i 256) (some i) = _
  rw [show Nat.blt i 256 = true by simpa using h]
  rfl
def stepR (h : H) (m i : Nat) (h1 : H) : Prop := h.wr1 m (54 + i) w11 = some h1
theorem store_of {call : CallT} {h h1 : H} {m i : Nat} (e : h.wr1 m (54 + i) w11 = some h1) : (COp.e (.store 1)).run call [.ptr m (54 + i), w11] h = some (undefV, h1) := by
  show oif true (ob (H.wr m [w11] (54 + i) h) fun h => some (undefV, h)) = _
  rw [wr_cons, e]
  rfl
theorem ix_of {call : CallT} {h : H} {m i : Nat} (hi : i < 256) : (COp.p (.ixarrp 256 1)).run call [.ptr m 54, .int .i64 (Int.ofNat i)] h = some (.ptr m (54 + i), h) := by
  show ob (ob (idx (Int.ofNat i) 256) fun k => some (V.ptr m (Nat.add 54 (Nat.mul k 1)))) _ = _
  rw [idx_of hi]
  show some (V.ptr m (54 + i * 1), h) = _
  rw [Nat.mul_one]
theorem add_of {call : CallT} {h : H} {i : Nat} (hi : i < 256) : (COp.p (.bin .add)).run call [.int .i64 (Int.ofNat i), .int .i64 1] h = some (.int .i64 (Int.ofNat (i + 1)), h) := by
  show some (V.int .i64 (wrapF .i64 (Int.add (Int.ofNat i) 1)), h) = _
  rw [wrap_succ hi]
theorem lss_of {call : CallT} {h : H} {i : Nat} (hi : i < 256) : (COp.p (.bin .lss)).run call [.int .i64 (Int.ofNat i), .int .i64 256] h = some (.bool true, h) := by
  show some (V.bool (ltI (Int.ofNat i) 256), h) = _
  rw [ltI_of hi]
theorem clear_step {call : CallT} (hc : ∀ h, call (.fn 30) [] h = some (w11, h)) {n m i : Nat} (hi : i < 256) {h h1 : H} (e : h.wr1 m (54 + i) w11 = some h1) (b j : V) :
    exec call false n clearB ⟨[(0, .ptr m 0), (3, .int .i64 (Int.ofNat i)), (4, b), (2, j)], []⟩ h = some (.norm, ⟨[(0, .ptr m 0), (3, .int .i64 (Int.ofNat (i + 1))), (4, .bool true), (2, .int .i64 (Int.ofNat i))], []⟩, h1) := by
  unfold clearB
  have hc' : (COp.call 30).run call [] h = some (w11, h) := hc h
  refine ex_seq (ex_reg (op_cons (op_run rfl rfl (lss_of hi)) rfl)) ?_
  refine ex_seq (ex_condT rfl rfl) ?_
  refine ex_seq (f1 := ⟨[(0, .ptr m 0), (3, .int .i64 (Int.ofNat i)), (4, .bool true), (2, .int .i64 (Int.ofNat i))], []⟩) (h1 := h1) ?_ ?_
  · refine ex_block (r := some (.norm, _, _)) ?_
    refine ex_seq (f1 := ⟨[(0, .ptr m 0), (3, .int .i64 (Int.ofNat i)), (4, .bool true), (2, .int .i64 (Int.ofNat i))], []⟩) (h1 := h) ?_ ?_
    · refine ex_reg (f1 := ⟨[(0, .ptr m 0), (3, .int .i64 (Int.ofNat i)), (4, .bool true), (2, .int .i64 (Int.ofNat i))], [(5, .int .i64 (Int.ofNat i))]⟩) ?_
      refine op_cons (op_run rfl rfl rfl) ?_
      refine op_cons (op_run rfl rfl rfl) ?_
      rfl
    · refine ex_regD (s := ⟨⟨[(0, .ptr m 0), (3, .int .i64 (Int.ofNat i)), (4, .bool true), (2, .int .i64 (Int.ofNat i))], [(11, .ptr m (54 + i)), (8, w11), (10, .ptr m 54), (9, .ptr m 0), (7, .int .i64 (Int.ofNat i)), (6, .ptr m 0)]⟩, h1, [h, h], []⟩) ?_ ?_
      · refine opD_cons (opD_run rfl rfl) ?_
        refine opD_cons (opD_run rfl rfl) ?_
        refine opD_cons (opD_run rfl rfl) ?_
        refine opD_cons (opD_run rfl rfl) ?_
        refine opD_cons (opD_run rfl hc') ?_
        refine opD_cons (opD_run rfl (ix_of hi)) ?_
        refine opD_cons (opD_run rfl (store_of e)) ?_
        rfl
      · rfl
  · refine ex_reg (f1 := ⟨[(0, .ptr m 0), (3, .int .i64 (Int.ofNat (i + 1))), (4, .bool true), (2, .int .i64 (Int.ofNat i))], [(12, .int .i64 (Int.ofNat (i + 1)))]⟩) ?_
    refine op_cons (op_run rfl rfl (add_of hi)) ?_
    refine op_cons (op_run rfl rfl rfl) ?_
    rfl
theorem clear_step0 {call : CallT} (hc : ∀ h, call (.fn 30) [] h = some (w11, h)) {n m i : Nat} (hi : i < 256) {h h1 : H} (e : h.wr1 m (54 + i) w11 = some h1) :
    exec call false n clearB ⟨[(0, .ptr m 0), (3, .int .i64 (Int.ofNat i))], []⟩ h = some (.norm, ⟨[(0, .ptr m 0), (3, .int .i64 (Int.ofNat (i + 1))), (4, .bool true), (2, .int .i64 (Int.ofNat i))], []⟩, h1) := by
  unfold clearB
  have hc' : (COp.call 30).run call [] h = some (w11, h) := hc h
  refine ex_seq (ex_reg (op_cons (op_run rfl rfl (lss_of hi)) rfl)) ?_
  refine ex_seq (ex_condT rfl rfl) ?_
  refine ex_seq (f1 := ⟨[(0, .ptr m 0), (3, .int .i64 (Int.ofNat i)), (4, .bool true), (2, .int .i64 (Int.ofNat i))], []⟩) (h1 := h1) ?_ ?_
  · refine ex_block (r := some (.norm, _, _)) ?_
    refine ex_seq (f1 := ⟨[(0, .ptr m 0), (3, .int .i64 (Int.ofNat i)), (4, .bool true), (2, .int .i64 (Int.ofNat i))], []⟩) (h1 := h) ?_ ?_
    · refine ex_reg (f1 := ⟨[(0, .ptr m 0), (3, .int .i64 (Int.ofNat i)), (4, .bool true), (2, .int .i64 (Int.ofNat i))], [(5, .int .i64 (Int.ofNat i))]⟩) ?_
      refine op_cons (op_run rfl rfl rfl) ?_
      refine op_cons (op_run rfl rfl rfl) ?_
      rfl
    · refine ex_regD (s := ⟨⟨[(0, .ptr m 0), (3, .int .i64 (Int.ofNat i)), (4, .bool true), (2, .int .i64 (Int.ofNat i))], [(11, .ptr m (54 + i)), (8, w11), (10, .ptr m 54), (9, .ptr m 0), (7, .int .i64 (Int.ofNat i)), (6, .ptr m 0)]⟩, h1, [h, h], []⟩) ?_ ?_
      · refine opD_cons (opD_run rfl rfl) ?_
        refine opD_cons (opD_run rfl rfl) ?_
        refine opD_cons (opD_run rfl rfl) ?_
        refine opD_cons (opD_run rfl rfl) ?_
        refine opD_cons (opD_run rfl hc') ?_
        refine opD_cons (opD_run rfl (ix_of hi)) ?_
        refine opD_cons (opD_run rfl (store_of e)) ?_
        rfl
      · rfl
  · refine ex_reg (f1 := ⟨[(0, .ptr m 0), (3, .int .i64 (Int.ofNat (i + 1))), (4, .bool true), (2, .int .i64 (Int.ofNat i))], [(12, .int .i64 (Int.ofNat (i + 1)))]⟩) ?_
    refine op_cons (op_run rfl rfl (add_of hi)) ?_
    refine op_cons (op_run rfl rfl rfl) ?_
    rfl
theorem lim_step {call : CallT} (hc : ∀ h, call (.fn 30) [] h = some (w11, h)) {n m i : Nat} (hi : i < 256) {h h1 : H} (e : h.wr1 m (54 + i) w11 = some h1) (c b : V) :
    exec call false n limB ⟨[(0, .ptr m 0), (1, c), (4, .int .i64 (Int.ofNat i)), (7, b)], []⟩ h = some (.norm, ⟨[(0, .ptr m 0), (1, c), (4, .int .i64 (Int.ofNat (i + 1))), (7, .bool true)], []⟩, h1) := by
  unfold limB
  have hc' : (COp.call 30).run call [] h = some (w11, h) := hc h
  refine ex_seq (f1 := ⟨[(0, .ptr m 0), (1, c), (4, .int .i64 (Int.ofNat i)), (7, .bool true)], []⟩) (h1 := h) ?_ ?_
  · refine ex_seq (f1 := ⟨[(0, .ptr m 0), (1, c), (4, .int .i64 (Int.ofNat i)), (7, .bool true)], []⟩) (h1 := h) ?_ ?_
    · refine ex_reg (f1 := ⟨[(0, .ptr m 0), (1, c), (4, .int .i64 (Int.ofNat i)), (7, .bool true)], [(6, .int .i64 (Int.ofNat i))]⟩) ?_
      refine op_cons (op_run rfl rfl rfl) ?_
      refine op_cons (op_run rfl rfl (lss_of hi)) ?_
      rfl
    · exact ex_condT rfl rfl
  refine ex_seq (f1 := ⟨[(0, .ptr m 0), (1, c), (4, .int .i64 (Int.ofNat i)), (7, .bool true)], []⟩) (h1 := h1) ?_ ?_
  · refine ex_block (r := some (.norm, _, _)) ?_
    refine ex_regD (s := ⟨⟨[(0, .ptr m 0), (1, c), (4, .int .i64 (Int.ofNat i)), (7, .bool true)], [(15, .ptr m (54 + i)), (12, w11), (14, .ptr m 54), (13, .ptr m 0), (11, .int .i64 (Int.ofNat i)), (10, .ptr m 0)]⟩, h1, [h, h], []⟩) ?_ ?_
    · refine opD_cons (opD_run rfl rfl) ?_
      refine opD_cons (opD_run rfl rfl) ?_
      refine opD_cons (opD_run rfl rfl) ?_
      refine opD_cons (opD_run rfl rfl) ?_
      refine opD_cons (opD_run rfl hc') ?_
      refine opD_cons (opD_run rfl (ix_of hi)) ?_
      refine opD_cons (opD_run rfl (store_of e)) ?_
      rfl
    · rfl
  · refine ex_reg (f1 := ⟨[(0, .ptr m 0), (1, c), (4, .int .i64 (Int.ofNat (i + 1))), (7, .bool true)], [(9, .int .i64 (Int.ofNat (i + 1))), (8, .int .i64 (Int.ofNat i))]⟩) ?_
    refine op_cons (op_run rfl rfl rfl) ?_
    refine op_cons (op_run rfl rfl (add_of hi)) ?_
    refine op_cons (op_run rfl rfl rfl) ?_
    rfl
theorem lim_step0 {call : CallT} (hc : ∀ h, call (.fn 30) [] h = some (w11, h)) {n m i : Nat} (hi : i < 256) {h h1 : H} (e : h.wr1 m (54 + i) w11 = some h1) (c : V) :
    exec call false n limB ⟨[(0, .ptr m 0), (1, c), (4, .int .i64 (Int.ofNat i))], []⟩ h = some (.norm, ⟨[(0, .ptr m 0), (1, c), (4, .int .i64 (Int.ofNat (i + 1))), (7, .bool true)], []⟩, h1) := by
  unfold limB
  have hc' : (COp.call 30).run call [] h = some (w11, h) := hc h
  refine ex_seq (f1 := ⟨[(0, .ptr m 0), (1, c), (4, .int .i64 (Int.ofNat i)), (7, .bool true)], []⟩) (h1 := h) ?_ ?_
  · refine ex_seq (f1 := ⟨[(0, .ptr m 0), (1, c), (4, .int .i64 (Int.ofNat i)), (7, .bool true)], []⟩) (h1 := h) ?_ ?_
    · refine ex_reg (f1 := ⟨[(0, .ptr m 0), (1, c), (4, .int .i64 (Int.ofNat i)), (7, .bool true)], [(6, .int .i64 (Int.ofNat i))]⟩) ?_
      refine op_cons (op_run rfl rfl rfl) ?_
      refine op_cons (op_run rfl rfl (lss_of hi)) ?_
      rfl
    · exact ex_condT rfl rfl
  refine ex_seq (f1 := ⟨[(0, .ptr m 0), (1, c), (4, .int .i64 (Int.ofNat i)), (7, .bool true)], []⟩) (h1 := h1) ?_ ?_
  · refine ex_block (r := some (.norm, _, _)) ?_
    refine ex_regD (s := ⟨⟨[(0, .ptr m 0), (1, c), (4, .int .i64 (Int.ofNat i)), (7, .bool true)], [(15, .ptr m (54 + i)), (12, w11), (14, .ptr m 54), (13, .ptr m 0), (11, .int .i64 (Int.ofNat i)), (10, .ptr m 0)]⟩, h1, [h, h], []⟩) ?_ ?_
    · refine opD_cons (opD_run rfl rfl) ?_
      refine opD_cons (opD_run rfl rfl) ?_
      refine opD_cons (opD_run rfl rfl) ?_
      refine opD_cons (opD_run rfl rfl) ?_
      refine opD_cons (opD_run rfl hc') ?_
      refine opD_cons (opD_run rfl (ix_of hi)) ?_
      refine opD_cons (opD_run rfl (store_of e)) ?_
      rfl
    · rfl
  · refine ex_reg (f1 := ⟨[(0, .ptr m 0), (1, c), (4, .int .i64 (Int.ofNat (i + 1))), (7, .bool true)], [(9, .int .i64 (Int.ofNat (i + 1))), (8, .int .i64 (Int.ofNat i))]⟩) ?_
    refine op_cons (op_run rfl rfl rfl) ?_
    refine op_cons (op_run rfl rfl (add_of hi)) ?_
    refine op_cons (op_run rfl rfl rfl) ?_
    rfl
theorem ex_seqE {call : CallT} {rd : Bool} {n k : Nat} {a b : CCode} {f f1 : F} {h h1 : H} (e1 : exec call rd n a f h = some (.exit k, f1, h1)) : exec call rd n (.seq a b) f h = some (.exit k, f1, h1) := by
  show thenN (exec call rd n a f h) (exec call rd n b) = _
  rw [e1]
  rfl
theorem ex_loop (call : CallT) (rd : Bool) (n : Nat) (c : CCode) (f : F) (h : H) : exec call rd n (.loop c) f h = loopN (exec call rd n c) n f h := rfl
theorem wr_nil (id i : Nat) (h : H) : H.wr id [] i h = some h := rfl
theorem clear_loop {call : CallT} (hc : ∀ h, call (.fn 30) [] h = some (w11, h)) {n m : Nat} : ∀ (j i : Nat), i + j = 256 → ∀ {h h' : H}, H.wr m (repL [w11] j) (54 + i) h = some h' → ∀ (b c : V) (N : Nat), j < N →
    ∃ f', loopN (exec call false n clearB) N ⟨[(0, .ptr m 0), (3, .int .i64 (Int.ofNat i)), (4, b), (2, c)], []⟩ h = some (.exit 0, f', h')
  | 0, i, hij, h, h', e, b, c, N, hN => by
    obtain rfl : i = 256 := by omega
    cases e
    obtain ⟨N, rfl⟩ : ∃ M, N = M + 1 := ⟨N - 1, by omega⟩
    refine ⟨⟨[(0, .ptr m 0), (3, .int .i64 (Int.ofNat 256)), (4, .bool false), (2, c)], []⟩, ?_⟩
    rw [loopN_succ]
    have : exec call false n clearB ⟨[(0, .ptr m 0), (3, .int .i64 (Int.ofNat 256)), (4, b), (2, c)], []⟩ h = some (.exit 0, ⟨[(0, .ptr m 0), (3, .int .i64 (Int.ofNat 256)), (4, .bool false), (2, c)], []⟩, h) := by
      unfold clearB
      refine ex_seq (f1 := ⟨[(0, .ptr m 0), (3, .int .i64 (Int.ofNat 256)), (4, .bool false), (2, c)], []⟩) (h1 := h) ?_ ?_
      · refine ex_reg (f1 := ⟨[(0, .ptr m 0), (3, .int .i64 (Int.ofNat 256)), (4, .bool false), (2, c)], []⟩) ?_
        refine op_cons (op_run rfl rfl rfl) ?_
        rfl
      · exact ex_seqE (ex_condF rfl rfl)
    rw [this]
    rfl
  | j + 1, i, hij, h, h', e, b, c, N, hN => by
    rw [repL_succ, List.singleton_append, wr_cons] at e
    obtain ⟨h1, e1, e2⟩ := ob_some.1 e
    obtain ⟨N, rfl⟩ : ∃ M, N = M + 1 := ⟨N - 1, by omega⟩
    rw [loopN_succ, clear_step hc (by omega) e1 b c]
    exact clear_loop hc j (i + 1) (by omega) e2 _ _ N (by omega)
theorem lim_loop {call : CallT} (hc : ∀ h, call (.fn 30) [] h = some (w11, h)) {n m : Nat} (c : V) : ∀ (j i : Nat), i + j = 256 → ∀ {h h' : H}, H.wr m (repL [w11] j) (54 + i) h = some h' → ∀ (b : V) (N : Nat), j < N →
    ∃ f', loopN (exec call false n limB) N ⟨[(0, .ptr m 0), (1, c), (4, .int .i64 (Int.ofNat i)), (7, b)], []⟩ h = some (.exit 0, f', h')
  | 0, i, hij, h, h', e, b, N, hN => by
    obtain rfl : i = 256 := by omega
    cases e
    obtain ⟨N, rfl⟩ : ∃ M, N = M + 1 := ⟨N - 1, by omega⟩
    refine ⟨⟨[(0, .ptr m 0), (1, c), (4, .int .i64 (Int.ofNat 256)), (7, .bool false)], []⟩, ?_⟩
    rw [loopN_succ]
    have : exec call false n limB ⟨[(0, .ptr m 0), (1, c), (4, .int .i64 (Int.ofNat 256)), (7, b)], []⟩ h = some (.exit 0, ⟨[(0, .ptr m 0), (1, c), (4, .int .i64 (Int.ofNat 256)), (7, .bool false)], []⟩, h) := by
      unfold limB
      show thenN (exec call false n (.seq (.reg _) (.cond (.l 7) .skip (.exit 0))) _ h) _ = _
      rw [ex_seq (f1 := ⟨[(0, .ptr m 0), (1, c), (4, .int .i64 (Int.ofNat 256)), (7, .bool false)], []⟩) (h1 := h) (r := some (.exit 0, ⟨[(0, .ptr m 0), (1, c), (4, .int .i64 (Int.ofNat 256)), (7, .bool false)], []⟩, h))]
      · rfl
      · refine ex_reg (f1 := ⟨[(0, .ptr m 0), (1, c), (4, .int .i64 (Int.ofNat 256)), (7, .bool false)], [(6, .int .i64 (Int.ofNat 256))]⟩) ?_
        refine op_cons (op_run rfl rfl rfl) ?_
        refine op_cons (op_run rfl rfl rfl) ?_
        rfl
      · exact ex_condF rfl rfl
    rw [this]
    rfl
  | j + 1, i, hij, h, h', e, b, N, hN => by
    rw [repL_succ, List.singleton_append, wr_cons] at e
    obtain ⟨h1, e1, e2⟩ := ob_some.1 e
    obtain ⟨N, rfl⟩ : ∃ M, N = M + 1 := ⟨N - 1, by omega⟩
    rw [loopN_succ, lim_step hc (by omega) e1 c b]
    exact lim_loop hc c j (i + 1) (by omega) e2 _ N (by omega)
/-- The first round of a loop's is another's: its frame has fewer cells. -/
theorem lim_loop0 {call : CallT} (hc : ∀ h, call (.fn 30) [] h = some (w11, h)) {n m : Nat} (c : V) {j i : Nat} (hij : i + j = 256) {h h' : H} (e : H.wr m (repL [w11] j) (54 + i) h = some h') {N : Nat} (hN : j < N) :
    ∃ f', loopN (exec call false n limB) N ⟨[(0, .ptr m 0), (1, c), (4, .int .i64 (Int.ofNat i))], []⟩ h = some (.exit 0, f', h') := by
  obtain ⟨N, rfl⟩ : ∃ M, N = M + 1 := ⟨N - 1, by omega⟩
  cases j with
  | zero =>
    obtain rfl : i = 256 := by omega
    cases e
    refine ⟨⟨[(0, .ptr m 0), (1, c), (4, .int .i64 (Int.ofNat 256)), (7, .bool false)], []⟩, ?_⟩
    rw [loopN_succ]
    have : exec call false n limB ⟨[(0, .ptr m 0), (1, c), (4, .int .i64 (Int.ofNat 256))], []⟩ h = some (.exit 0, ⟨[(0, .ptr m 0), (1, c), (4, .int .i64 (Int.ofNat 256)), (7, .bool false)], []⟩, h) := by
      unfold limB
      show thenN (exec call false n (.seq (.reg _) (.cond (.l 7) .skip (.exit 0))) _ h) _ = _
      rw [ex_seq (f1 := ⟨[(0, .ptr m 0), (1, c), (4, .int .i64 (Int.ofNat 256)), (7, .bool false)], []⟩) (h1 := h) (r := some (.exit 0, ⟨[(0, .ptr m 0), (1, c), (4, .int .i64 (Int.ofNat 256)), (7, .bool false)], []⟩, h))]
      · rfl
      · refine ex_reg (f1 := ⟨[(0, .ptr m 0), (1, c), (4, .int .i64 (Int.ofNat 256)), (7, .bool false)], [(6, .int .i64 (Int.ofNat 256))]⟩) ?_
        refine op_cons (op_run rfl rfl rfl) ?_
        refine op_cons (op_run rfl rfl rfl) ?_
        rfl
      · exact ex_condF rfl rfl
    rw [this]
    rfl
  | succ j =>
    rw [repL_succ, List.singleton_append, wr_cons] at e
    obtain ⟨h1, e1, e2⟩ := ob_some.1 e
    rw [loopN_succ, lim_step0 hc (by omega) e1 c]
    exact lim_loop hc c j (i + 1) (by omega) e2 _ N (by omega)
noncomputable def prNil : List (Nat × Prim) := [(30, nilP)]
theorem prNil_ok : PrimsOk prNil := .cons rfl nil_ok .nil
theorem nil_call (n : Nat) (h : H) : callS prNil (n + 1) (.fn 30) [] h = some (w11, h) := callS_prim rfl rfl
theorem clear_exec {call : CallT} (hc : ∀ h, call (.fn 30) [] h = some (w11, h)) {n m : Nat} (hn : 256 < n) {h h' : H} (e : H.wr m (repL [w11] 256) 54 h = some h') : ∃ f', exec call false n cf31.code ⟨[(0, .ptr m 0)], []⟩ h = some (.norm, f', h') := by
  have e' : H.wr m (repL [w11] (255 + 1)) 54 h = some h' := e
  rw [repL_succ, List.singleton_append, wr_cons] at e'
  obtain ⟨h1, e1, e2⟩ := ob_some.1 e'
  obtain ⟨N, hN⟩ : ∃ M, n = M + 1 := ⟨n - 1, by omega⟩
  obtain ⟨f', e3⟩ := clear_loop hc (n := n) (m := m) 255 1 rfl e2 (.bool true) (.int .i64 (Int.ofNat 0)) N (by omega)
  have s0 : exec call false n clearB ⟨[(0, .ptr m 0), (3, .int .i64 (Int.ofNat 0))], []⟩ h = some (.norm, ⟨[(0, .ptr m 0), (3, .int .i64 (Int.ofNat 1)), (4, .bool true), (2, .int .i64 (Int.ofNat 0))], []⟩, h1) := clear_step0 hc (i := 0) (by decide) e1
  have l0 : loopN (exec call false n clearB) n ⟨[(0, .ptr m 0), (3, .int .i64 (Int.ofNat 0))], []⟩ h = some (.exit 0, f', h') := by
    conv => lhs; arg 2; rw [hN]
    rw [loopN_succ, s0]
    exact e3
  refine ⟨f', ?_⟩
  rw [shape31]
  refine ex_seq (f1 := ⟨[(0, .ptr m 0), (3, .int .i64 (Int.ofNat 0))], []⟩) (h1 := h) (ex_reg (f1 := ⟨[(0, .ptr m 0), (3, .int .i64 (Int.ofNat 0))], []⟩) ?_) ?_
  · refine op_cons (op_run rfl rfl rfl) ?_
    rfl
  refine ex_block (r := some (.exit 0, f', h')) ?_
  rw [ex_loop]
  exact l0
theorem lim_exec {call : CallT} (hc : ∀ h, call (.fn 30) [] h = some (w11, h)) {n m k : Nat} (hn : 256 < n) (hk : k ≤ 256) {h h' : H} (e : H.wr m (repL [w11] (256 - k)) (54 + k) h = some h') : ∃ f', exec call false n cf117.code ⟨[(0, .ptr m 0), (1, .int .i64 (Int.ofNat k))], []⟩ h = some (.norm, f', h') := by
  obtain ⟨f', e3⟩ := lim_loop0 hc (n := n) (m := m) (.int .i64 (Int.ofNat k)) (j := 256 - k) (i := k) (by omega) e (N := n) (by omega)
  refine ⟨f', ?_⟩
  rw [shape117]
  refine ex_seq (f1 := ⟨[(0, .ptr m 0), (1, .int .i64 (Int.ofNat k)), (4, .int .i64 (Int.ofNat k))], []⟩) (h1 := h) (ex_reg (f1 := ⟨[(0, .ptr m 0), (1, .int .i64 (Int.ofNat k)), (4, .int .i64 (Int.ofNat k))], [(5, .int .i64 (Int.ofNat k))]⟩) ?_) ?_
  · refine op_cons (op_run rfl rfl rfl) ?_
    refine op_cons (op_run rfl rfl rfl) ?_
    rfl
  refine ex_block (r := some (.exit 0, f', h')) ?_
  rw [ex_loop]
  exact e3
theorem en_norm {call : CallT} {n : Nat} {cf : CF} {vs : List V} {h h1 : H} {f1 : F} (e0 : Nat.beq (lenL vs) cf.params = true) (e : exec call false n cf.code ⟨numbered vs 0, []⟩ h = some (.norm, f1, h1)) {w : List V} (k : resOf f1 h1 cf.results = some w) : enter call n cf vs h = some (oneOrTup w, h1) := by
  unfold enter
  rw [e0]
  show ob (exec call false n cf.code ⟨numbered vs 0, []⟩ h) _ = _
  rw [e]
  show ob (resOf f1 h1 cf.results) _ = _
  rw [k]
  rfl
theorem clear_ok : PrimOf 31 clearP := primOf_run (n := 3) prNil_ok fun vs h r e => by
  unfold clearP at e
  split at e
  · rename_i m
    obtain ⟨h', e1, e2⟩ := ob_some.1 e
    cases e2
    refine callS_tab rfl (show tabC.get 31 = some cf31 from by kernel_rfl) ?_
    obtain ⟨f', e3⟩ := clear_exec (nil_call 1) (n := 1000000) (by decide) e1
    exact en_norm (w := []) rfl e3 rfl
  · cases e
theorem lim_ok : PrimOf 117 limP := primOf_run (n := 3) prNil_ok fun vs h r e => by
  unfold limP at e
  split at e
  · rename_i m k
    obtain ⟨e0, e1⟩ := oif_some.1 e
    obtain ⟨h', e2, e3⟩ := ob_some.1 e1
    cases e3
    refine callS_tab rfl (show tabC.get 117 = some cf117 from by kernel_rfl) ?_
    obtain ⟨f', e4⟩ := lim_exec (nil_call 1) (n := 1000000) (by decide) (by simpa using e0) e2
    exact en_norm (w := []) rfl e4 rfl
  · cases e
end Ev
end Go.Proofs.YtogbcielgfidlaaGreatDoor
