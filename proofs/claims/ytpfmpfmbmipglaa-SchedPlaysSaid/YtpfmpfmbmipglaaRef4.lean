/-
  The reference's remove.
-/
import Derived.Test.YtpfmpfmbmipglaaRef3
namespace Go.Proofs.Ytpfmpfmbmipglaa
open Go.RowKit

/-- append onto a row of the call's own, as a step of a region that draws its order. -/
theorem step_append_own {P : Program} (w : World) {ops : Array Oper} {o : Oper} {a : Act} {K : Act → World → Prop} {Q : Exit → Act → World → Prop} {E : Prop} (hgd : o.guard = none) (s x : Operand) (t : TypeId)
    (ho : o.op = .call { callee := .builtin .append, args := #[s, x], argTypes := #[t, t] })
    (base : Nat) (e : TypeId) (i : TypeInfo) (z : Value) (size bytes : Nat) (ht : P.underlying t = some (.slice e)) (hi : P.info? e = some i) (hz : i.zero = some z)
    (hsize : i.size = size) (hby : i.bytes = bytes) (hzs : z.cells.size = size) (hsz : 0 < size)
    (v : Value) (n : Nat) (xs : List Value) (hs : a.eval s = v) (hown : w.ownsRow base e size v n xs)
    (ad : Addr) (m c : Nat) (news : List Value) (hx : a.eval x = .slice (some ad) m c) (hl : news.length = m * size) (hnews : ∀ j u, news[j]? = some u → w.cell? (ad.add j) = some u) (h1 : ∀ u ∈ news, u.oneCell' = true)
    (h63 : n + m ≤ maxLen) (hbytes : (n + m) * bytes ≤ 140737488355328) (hbase : base ≤ w.heap.size)
    (h : ∀ v' w', w'.ownsRow base e size v' (n + m) (xs ++ news) → w.grownBy w' v.ownBlock → K (a.put o.dst v') w') :
    if Region.wanted o (yielded ops a.tmps) = true then Oper.wp P o a w K Q else E := by
  have hw : Region.wanted o (yielded ops a.tmps) = true := by simp [Region.wanted, hgd]
  rw [if_pos hw]
  exact wp_append_own w s x t ho base e i z size bytes ht hi hz hsize hby hzs hsz v n xs hs hown ad m c news hx hl hnews h1 h63 hbytes hbase (fun v' w' a b _ => h v' w' a b)

/-- The slice up to an index. -/
theorem run_upto {g n cap i : Nat} (h : i ≤ cap) (w : World) : (Instr.sliceAt 32 (.slice (some ⟨g, 0, none⟩) n cap) none (some (.int .i64 (i : Int))) none).run Try.prog w = .ok (.slice (some ⟨g, 0, none⟩) i cap) w := by
  obtain ⟨i0, hi, hz0, hz1, hz2⟩ := info_parts Try.info2
  simp [Instr.sliceAt, run_underlying Try.underlying32, Instr.slice, Instr.sliceBounds, Instr.sliceBound, asIntOf, Result.andThen, sizeOf, typeInfo]
  rw [if_pos (by omega), hi]
  simp [Addr.add]

/-- The slice from an index on. -/
theorem run_from {g n cap i : Nat} (h : i ≤ n) (w : World) : (Instr.sliceAt 32 (.slice (some ⟨g, 0, none⟩) n cap) (some (.int .i64 (i : Int))) none none).run Try.prog w = .ok (.slice (if cap = i then some ⟨g, 0, none⟩ else some ⟨g, i, none⟩) (n - i) (cap - i)) w := by
  obtain ⟨i0, hi, hz0, hz1, hz2⟩ := info_parts Try.info2
  simp [Instr.sliceAt, run_underlying Try.underlying32, Instr.slice, Instr.sliceBounds, Instr.sliceBound, asIntOf, Result.andThen, sizeOf, typeInfo]
  rw [if_pos (by omega), hi]
  simp [hz1, Addr.add]
  split
  · rfl
  · split
    · rename_i e; rw [e]
    · rfl

theorem row_cap {w : World} {a : Option Addr} {n cap : Nat} {L : List Int} (h : Row w (.slice a n cap) L) : n ≤ cap := by
  rcases h.2 with ⟨e, h0⟩ | ⟨g, c, cur, hv, _, _, hn, _⟩
  · simp only [Value.slice.injEq] at e; omega
  · simp only [Value.slice.injEq] at hv; omega

theorem addr_add (g o j : Nat) : (Addr.mk g o none).add j = ⟨g, o + j, none⟩ := by
  unfold Addr.add; split
  · rename_i e; rw [e]; rfl
  · rfl

theorem erase_parts (L : List Int) (i : Nat) : L.take i ++ L.drop (i + 1) = L.eraseIdx i := (List.eraseIdx_eq_take_drop_succ L i).symm

theorem take_cells {w : World} {g i : Nat} {L : List Int} (h : ∀ j, j < L.length → w.cell? ⟨g, j, none⟩ = some (.int .i64 (L.getD j 0))) : ∀ j u, ((L.map (Value.int .i64)).take i)[j]? = some u → w.cell? ((Addr.mk g 0 none).add j) = some u := by
  intro j u hu
  rw [addr_add, Nat.zero_add]
  by_cases hj : j < i
  · rw [List.getElem?_take_of_lt hj, List.getElem?_map] at hu
    by_cases hl : j < L.length
    · rw [List.getElem?_eq_getElem hl] at hu
      rw [h j hl, List.getD_eq_getElem?_getD, List.getElem?_eq_getElem hl]
      simpa using hu
    · rw [List.getElem?_eq_none (by omega)] at hu; simp at hu
  · rw [List.getElem?_eq_none (by simp; omega)] at hu; simp at hu

/-- The slice behind an index: its value, and what it reads. -/
theorem from_slice {g cap i : Nat} {L : List Int} (hi : i + 1 ≤ L.length) (hcap : L.length ≤ cap) : ∃ fa fc, (∀ w', (Instr.sliceAt 32 (.slice (some ⟨g, 0, none⟩) L.length cap) (some (.int .i64 ((i : Int) + 1))) none none).run Try.prog w' = .ok (.slice (some fa) (L.length - (i + 1)) fc) w') ∧
    ∀ w : World, (∀ j, j < L.length → w.cell? ⟨g, j, none⟩ = some (.int .i64 (L.getD j 0))) → ∀ j u, ((L.map (Value.int .i64)).drop (i + 1))[j]? = some u → w.drew.cell? (fa.add j) = some u := by
  by_cases hc : cap = i + 1
  · refine ⟨⟨g, 0, none⟩, cap - (i + 1), fun w' => ?_, fun w h j u hu => ?_⟩
    · have := run_from (g := g) (n := L.length) (cap := cap) (i := i + 1) hi w'
      rw [if_pos hc] at this
      simpa using this
    · rw [List.drop_eq_nil_of_le (by simp; omega)] at hu
      simp at hu
  · refine ⟨⟨g, i + 1, none⟩, cap - (i + 1), fun w' => ?_, fun w h j u hu => ?_⟩
    · have := run_from (g := g) (n := L.length) (cap := cap) (i := i + 1) hi w'
      rw [if_neg hc] at this
      simpa using this
    · rw [addr_add]
      rw [List.getElem?_drop, List.getElem?_map] at hu
      by_cases hl : i + 1 + j < L.length
      · rw [List.getElem?_eq_getElem hl] at hu
        show w.cell? _ = _
        rw [h _ hl, List.getD_eq_getElem?_getD, List.getElem?_eq_getElem hl]
        simpa using hu
      · rw [List.getElem?_eq_none (by omega)] at hu; simp at hu

theorem undrew_grown {w1 w2 : World} {H : Nat} {v : Value} {n : Nat} {xs : List Value} (hg : w1.drew.grownBy w2 v.ownBlock) (ho : w1.ownsRow H 2 1 v n xs) (hH : H ≤ w1.heap.size) : Below H w1 w2 :=
  ⟨hg.os, hg.tape, hg.output, hg.size, fun k hk => hg.block k (Nat.lt_of_lt_of_le hk hH) (fun e => by have := own_base ho k e.symm; omega)⟩

theorem own_form {w : World} {base e size : Nat} {v : Value} {n : Nat} {xs : List Value} (h : w.ownsRow base e size v n xs) : ∃ a m c, v = .slice a m c := by
  rcases h.2 with ⟨rfl, _⟩ | ⟨g, cap, cur, rfl, _⟩
  · exact ⟨_, _, _, rfl⟩
  · exact ⟨_, _, _, rfl⟩

theorem own_back {w2 : World} {H : Nat} {v : Value} {i : Nat} {L : List Int} (h : w2.ownsRow H 2 1 v (i + (L.length - (i + 1))) ((L.map (Value.int .i64)).take i ++ (L.map (Value.int .i64)).drop (i + 1))) (hi : i < L.length) : w2.ownsRow H 2 1 v (L.eraseIdx i).length ((L.eraseIdx i).map (Value.int .i64)) := by
  have e : (L.map (Value.int .i64)).take i ++ (L.map (Value.int .i64)).drop (i + 1) = (L.eraseIdx i).map (Value.int .i64) := by
    rw [← List.map_take, ← List.map_drop, ← List.map_append, erase_parts]
  rw [e] at h
  have hl : i + (L.length - (i + 1)) = (L.eraseIdx i).length := by rw [List.length_eraseIdx, if_pos hi]; omega
  rw [hl] at h
  exact h

theorem rem_rs {w w2 : World} {B pb : Nat} {V : Nat → Value} {s : St} (r : RS w B pb V s) {p : Nat} (hp : p < 3) (hb : Below w.heap.size w w2) {v : Value} {l : List Int} (ho : w2.ownsRow w.heap.size 2 1 v l.length (l.map (Value.int .i64))) :
    RS (w2.setCell ⟨pb, p, none⟩ v) B pb (updV V p v) (s.set ((p : Int) + 1) l) := by
  have r2 := r.below hb
  have hB : B ≤ w.heap.size := Nat.le_trans r.b (Nat.le_of_lt (lt_of r.q))
  refine rs_set hp r2.q r.b (fun k hk _ => r2.row k hk) ⟨ho.1, ?_⟩ (fun j k hj hk hjk _ _ => r.apart j k hj hk hjk) (fun k hk hkp g' e e2 => ?_)
  · rcases ho.2 with x | ⟨g, cap, cur, hv, hg, rest⟩
    · exact .inl x
    · exact .inr ⟨g, cap, cur, hv, Nat.le_trans hB hg, rest⟩
  · obtain ⟨_, c, f, h2⟩ := own_row (r.row k hk) _ e
    have h3 := lt_of h2
    have := own_base ho _ e2
    omega

set_option maxHeartbeats 2000000 in
theorem rremove (w : World) (B pb : Nat) (V : Nat → Value) (s : St) (r : RS w B pb V s) (hs : s.size < 1000000) (_hB : B ≤ w.heap.size) (p i : Nat) (hp : p < 3) (hi : i < (s.at p).length) :
    Calls Try.prog 32 #[.pointer (some ⟨pb, 0, none⟩), .int .i64 (p : Int), .int .i64 (i : Int)] w fun e w' => e = .returned (.int .i64 ((s.at p).getD i 0)) ∧ (∃ V', RS w' B pb V' (s.set ((p : Int) + 1) ((s.at p).eraseIdx i))) ∧ KeptR B w w' := by
  obtain ⟨i0, hi0, hz0, hz1, hz2⟩ := info_parts Try.info2
  have HI := Lib.hid (And.intro hi0 (And.intro hz0 (And.intro hz1 hz2)))
  clear hi0 hz0 hz1 hz2
  have hlen := at_len s p
  have hcell := r.cell hp
  have hpb := lt_of r.q
  have HR := Lib.hid r
  have RW := Lib.hid (r.row' hp)
  obtain ⟨va, vc, hform⟩ := (r.row' hp).form
  rw [hform] at hcell RW
  have hcap := row_cap RW.out
  clear r hform
  have hne : s.at p ≠ [] := by intro e; rw [e] at hi; cases hi
  obtain ⟨_, g, rfl, hg, hce⟩ := RW.out.cells hne
  have ci := hce i hi
  have p0 : (0 : Int) ≤ p := by omega
  have p3 : (p : Int) < 3 := by omega
  have i0' : (0 : Int) ≤ i := by omega
  have ilt : (i : Int) < (s.at p).length := by omega
  have HCE := Lib.hid hce
  have HNE := Lib.hid hne
  clear hce hne
  have hup := fun w' => run_upto (g := g) (n := (s.at p).length) (cap := vc) (i := i) (by omega) w'
  generalize hL : s.at p = L at *
  have HL := Lib.hid hL
  clear hL
  have N1 := Lib.hid (take_cells (i := i) HCE.out)
  have L1 := Lib.hid (show ((L.map (Value.int .i64)).take i).length = i * 1 by simp; omega)
  have O1 := Lib.hid (show ∀ u ∈ (L.map (Value.int .i64)).take i, u.oneCell' = true by intro u hu; obtain ⟨x, _, rfl⟩ := List.mem_map.1 (List.mem_of_mem_take hu); rfl)
  have L2 := Lib.hid (show ((L.map (Value.int .i64)).drop (i + 1)).length = (L.length - (i + 1)) * 1 by simp)
  have O2 := Lib.hid (show ∀ u ∈ (L.map (Value.int .i64)).drop (i + 1), u.oneCell' = true by intro u hu; obtain ⟨x, _, rfl⟩ := List.mem_map.1 (List.mem_of_mem_drop hu); rfl)
  go_enter Try.func32, Try.ntmps32
  go_wp2_with (at_builtin; refine wpList_append_own _ rfl _ _ 32 rfl w.heap.size 2 i0 (.int .i64 0) 1 8 Try.underlying32 HI.out.1 HI.out.2.1 HI.out.2.2.1 HI.out.2.2.2 rfl (by decide) (.slice none 0 0) 0 [] rfl ⟨rfl, .inl ⟨rfl, rfl⟩⟩ ⟨g, 0, none⟩ i vc ((L.map (Value.int .i64)).take i) rfl L1.out N1.out O1.out ?c3 ?c4 (Nat.le_refl _) ?_)
  case c3 => unfold maxLen; omega
  case c4 => omega
  intro v1 w1 hown1 hgrow1 _
  have B1 := Lib.hid ((Below.refl w.heap.size w).grown hgrow1 (Nat.le_refl _) (fun k e => by simp [Value.ownBlock] at e))
  have OW := Lib.hid hown1
  have RS1 := Lib.hid (HR.out.below B1.out)
  have c1 : w1.cell? ⟨pb, p, none⟩ = some (.slice (some ⟨g, 0, none⟩) L.length vc) := (B1.out.cell (p := ⟨pb, p, none⟩) hpb).trans hcell
  have hB1 := B1.out.size
  clear hown1 hgrow1 hup hcell ci
  obtain ⟨fa, fc, hfrom, hfc⟩ := from_slice (g := g) (cap := vc) (L := L) (i := i) (by omega) hcap
  have N2 := Lib.hid (hfc w1 (fun j hj => (B1.out.cell (p := ⟨g, j, none⟩) hg).trans (HCE.out j hj)))
  have hw : IntKind.i64.wrap ((i : Int) + 1) = (i : Int) + 1 := IntWalk.i64_in _ (by omega)
  clear hfc
  go_wp2
  go_region_law (refine step_append_own _ rfl (.tmp 30) (.tmp 39) 32 rfl w.heap.size 2 i0 (.int .i64 0) 1 8 Try.underlying32 HI.out.1 HI.out.2.1 HI.out.2.2.1 HI.out.2.2.2 rfl (by decide) v1 i ((L.map (Value.int .i64)).take i) (by simp [Act.eval, Act.put]) (by exact OW.out) fa (L.length - (i + 1)) fc ((L.map (Value.int .i64)).drop (i + 1)) (by simp [Act.eval, Act.put]) L2.out (by exact N2.out) O2.out (by unfold maxLen; omega) (by omega) (by exact hB1) ?_; intro v2 w2 hown2 hgrow2; obtain ⟨oa, on, oc, rfl⟩ := own_form hown2; have O := Lib.hid hown2; have G := Lib.hid hgrow2; have B2 := Lib.hid (B1.out.trans (undrew_grown hgrow2 OW.out hB1)); have f1 : w2.cell? ⟨pb, p, none⟩ = some (.slice (some ⟨g, 0, none⟩) L.length vc) := ((undrew_grown hgrow2 OW.out hB1).cell (p := ⟨pb, p, none⟩) hpb).trans c1; have f2 : w2.frozen? ⟨pb, p, none⟩ = false := free_of ((B2.out.block pb hpb).trans HR.out.q) p; clear hown2 hgrow2)
  all_goals
    go_wp2
    go_ret
    refine ⟨?_, ⟨_, rem_rs HR.out hp B2.out (own_back O.out (by omega))⟩, set_keptR (KeptR.of_below B2.out) HR.out.b ((B2.out.block pb hpb).trans HR.out.q) _⟩
    rw [List.getD_eq_getElem?_getD, List.getElem?_eq_getElem hi]
    rfl
end Go.Proofs.Ytpfmpfmbmipglaa
