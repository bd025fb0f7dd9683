/-
  The reference's queue: three slices and a count; find.
-/
import Derived.Test.YtpfmpfmbmipglaaAt
import Derived.Test.YtpfmpfmbmipglaaDropsLaw
import Derived.Deep.RegionLaw
import Derived.Deep.AppendLies
import Derived.Laws.AppendOwnNone
namespace Go.Proofs.Ytpfmpfmbmipglaa
open Go.RowKit

/-- The p-th line (from 0 on). -/
def St.at (s : St) (p : Nat) : List Int := s.line ((p : Int) + 1)

/-- The reference's queue that holds s lies at pb; its blocks lie from B on, each line in a row of its own. -/
structure RS (w : World) (B pb : Nat) (V : Nat → Value) (s : St) : Prop where
  q : w.heap[pb]? = some (.cells #[V 0, V 1, V 2, .int .i64 s.c] 46 (0, 0))
  b : B ≤ pb
  row : ∀ p, p < 3 → w.ownsRow B 2 1 (V p) (s.at p).length ((s.at p).map (Value.int .i64))
  apart : ∀ p k, p < 3 → k < 3 → p ≠ k → ∀ g, (V p).ownBlock = some g → (V k).ownBlock ≠ some g

/-- A block of the reference's queue, by its kind. -/
def refObj : Obj → Bool
  | .cells _ t _ => t == 46 || t == 2
  | _ => false

theorem ref_sched {o : Obj} (h : schedObj o = true) : refObj o = false := by
  cases o <;> simp [schedObj, refObj] at h ⊢
  rcases h with rfl | rfl <;> decide

/-- Of what was there only blocks of the reference's queues, from B on, may have been written. -/
structure KeptR (B : Nat) (w w' : World) : Prop where
  os : w'.os = w.os
  tape : w'.tape = w.tape
  output : w'.output = w.output
  size : w.heap.size ≤ w'.heap.size
  block : ∀ k, k < w.heap.size → (k < B ∨ ∀ o, w.heap[k]? = some o → refObj o = false) → w'.heap[k]? = w.heap[k]?

theorem KeptR.refl (B : Nat) (w : World) : KeptR B w w := ⟨rfl, rfl, rfl, Nat.le_refl _, fun _ _ _ => rfl⟩
theorem KeptR.trans {B : Nat} {a b c : World} (h : KeptR B a b) (k : KeptR B b c) : KeptR B a c := by
  refine ⟨k.os.trans h.os, k.tape.trans h.tape, k.output.trans h.output, Nat.le_trans h.size k.size, fun i hi hf => ?_⟩
  have e := h.block i hi hf
  have hf' : i < B ∨ ∀ o, b.heap[i]? = some o → refObj o = false := by
    rcases hf with x | x
    · exact .inl x
    · exact .inr (by rw [e]; exact x)
  rw [k.block i (Nat.lt_of_lt_of_le hi h.size) hf', e]
theorem KeptR.of_below {B : Nat} {w w' : World} (h : Below w.heap.size w w') : KeptR B w w' := ⟨h.os, h.tape, h.output, h.size, fun k hk _ => h.block k hk⟩
theorem KeptR.qs {B B' qb : Nat} {w w' : World} {s : St} (h : KeptR B w w') (q : QS w B' qb s) : QS w' B' qb s :=
  q.keep fun k o hk ho => h.block k (lt_of hk) (.inr fun o' e => by rw [hk] at e; cases e; exact ref_sched ho)
theorem KeptR.below {w w' : World} (h : KeptR w.heap.size w w') : Below w.heap.size w w' := ⟨h.os, h.tape, h.output, h.size, fun k hk => h.block k hk (.inl hk)⟩
theorem KeptR.undrew {B : Nat} {w w' : World} (h : KeptR B w.drew w') : KeptR B w w' := ⟨h.os, h.tape, h.output, h.size, h.block⟩

theorem RS.kept {B B' pb : Nat} {V : Nat → Value} {w w' : World} {s : St} (r : RS w B pb V s) (k : Kept B' w w') : RS w' B pb V s :=
  ⟨(k.block pb (lt_of r.q) (.inr fun o e => by rw [r.q] at e; cases e; rfl)).trans r.q, r.b, fun p hp => k.own (r.row p hp), r.apart⟩
theorem RS.below {B pb : Nat} {V : Nat → Value} {w w' : World} {s : St} (r : RS w B pb V s) (k : Below w.heap.size w w') : RS w' B pb V s := r.kept (Kept.of_below (B := 0) k)

theorem RS.cell {B pb : Nat} {V : Nat → Value} {w : World} {s : St} (r : RS w B pb V s) {p : Nat} (hp : p < 3) : w.cell? ⟨pb, p, none⟩ = some (V p) := by
  rw [cell_of r.q]
  have : p = 0 ∨ p = 1 ∨ p = 2 := by omega
  rcases this with rfl | rfl | rfl <;> rfl
theorem RS.count {B pb : Nat} {V : Nat → Value} {w : World} {s : St} (r : RS w B pb V s) : w.cell? ⟨pb, 3, none⟩ = some (.int .i64 s.c) := by rw [cell_of r.q]; rfl
theorem RS.row' {B pb : Nat} {V : Nat → Value} {w : World} {s : St} (r : RS w B pb V s) {p : Nat} (hp : p < 3) : Row w (V p) (s.at p) := Row.of_own (r.row p hp)

/-- What find returns. -/
def Found (s : St) (id : Int) (e : Ending) : Prop :=
  (id ∉ s.ids ∧ e = .returned (.tuple #[.int .i64 0, .int .i64 0])) ∨ ∃ p i : Nat, p < 3 ∧ i < (s.at p).length ∧ (s.at p).getD i 0 = id ∧ s.prio id = (p : Int) + 1 ∧ e = .returned (.tuple #[.int .i64 ((p : Int) + 1), .int .i64 i])

def F1 (s : St) (id : Int) (p : Value) : Prop := ∃ k : Nat, k ≤ 3 ∧ p = .int .i64 k ∧ ∀ j, j < k → id ∉ s.at j
def F2 (L : List Int) (id : Int) (i : Value) : Prop := ∃ k : Nat, k ≤ L.length ∧ i = .int .i64 k ∧ id ∉ L.take k

theorem not_ids {s : St} {id : Int} (h : ∀ j, j < 3 → id ∉ s.at j) : id ∉ s.ids := by
  have h0 := h 0 (by omega)
  have h1 := h 1 (by omega)
  have h2 := h 2 (by omega)
  simp only [St.at, St.line] at h0 h1 h2
  simp at h0 h1 h2
  simp [St.ids, h0, h1, h2]

theorem prio_at {s : St} {id : Int} {p : Nat} (hp : p < 3) (h : ∀ j, j < p → id ∉ s.at j) (hm : id ∈ s.at p) : s.prio id = (p : Int) + 1 := by
  have : p = 0 ∨ p = 1 ∨ p = 2 := by omega
  unfold St.prio
  rcases this with rfl | rfl | rfl
  · have hm' : id ∈ s.h := hm
    rw [if_pos hm']; rfl
  · have h0 : id ∉ s.h := h 0 (by omega)
    have hm' : id ∈ s.n := hm
    rw [if_neg h0, if_pos hm']; rfl
  · have h0 : id ∉ s.h := h 0 (by omega)
    have h1 : id ∉ s.n := h 1 (by omega)
    have hm' : id ∈ s.l := hm
    rw [if_neg h0, if_neg h1, if_pos hm']; rfl

theorem at_len (s : St) (p : Nat) : (s.at p).length ≤ s.size := line_len s _

set_option maxHeartbeats 1000000 in
theorem find_any (w : World) (B pb : Nat) (V : Nat → Value) (s : St) (r : RS w B pb V s) (hs : s.size < 1000000) (id : Int) :
    Calls Try.prog 31 #[.pointer (some ⟨pb, 0, none⟩), .int .i64 id] w fun e w' => Found s id e ∧ w = w' := by
  have HR := Lib.hid r
  clear r
  go_enter Try.func31, Try.ntmps31
  go_wp2
  go_loop [6] (fun p => F1 s id p) (fun p => 3 - (intOf p).toNat)
  case atStart => exact ⟨0, by omega, rfl, fun j hj => by omega⟩
  case round =>
    obtain ⟨p, hp, rfl, hno⟩ := hrel
    have HN := Lib.hid hno
    clear hno
    by_cases hlt : p < 3
    · have hpi : (p : Int) < 3 := by omega
      obtain ⟨a, cap, hform⟩ := (HR.out.row' hlt).form
      have hc := HR.out.cell hlt
      rw [hform] at hc
      have RW := HR.out.row' hlt
      rw [hform] at RW
      have HRW := Lib.hid RW
      have hlen := at_len s p
      clear RW hform
      generalize hL : s.at p = L at *
      have HL := Lib.hid hL
      clear hL
      go_wp2
      go_loop [7] (fun i => F2 L id i) (fun i => L.length - (intOf i).toNat)
      case atStart => exact ⟨0, by omega, rfl, by simp⟩
      case round =>
        obtain ⟨k, hk, rfl, hno⟩ := hrel
        have HK := Lib.hid hno
        clear hno
        by_cases hkl : k < L.length
        · have kli : (k : Int) < L.length := by omega
          obtain ⟨_, g, rfl, hg, hcell⟩ := HRW.out.cells (by intro e; rw [e] at hkl; cases hkl)
          have ck := hcell k hkl
          have SN := Lib.hid (show L.take (k + 1) = L.take k ++ [L.getD k 0] by rw [List.take_succ_eq_append_getElem hkl, List.getD_eq_getElem?_getD, List.getElem?_eq_getElem hkl]; rfl)
          have MEM := Lib.hid (show L.getD k 0 ∈ L by rw [List.getD_eq_getElem?_getD, List.getElem?_eq_getElem hkl]; exact List.getElem_mem hkl)
          have GE := Lib.hid (rfl : L.getD k 0 = L.getD k 0)
          clear hcell
          generalize hx : L.getD k 0 = x at *
          have HX := Lib.hid hx
          clear hx
          by_cases hxi : x = id
          · have hxb : (x == id) = true := by simp [hxi]
            have HXI := Lib.hid hxi
            clear hxi
            go_wp2
            go_ret2
            refine ⟨.inr ⟨p, k, hlt, by rw [HL.out]; exact hkl, by rw [HL.out, HX.out, HXI.out], prio_at hlt HN.out (by rw [HL.out, ← HXI.out]; exact MEM.out), rfl⟩, rfl⟩
          · have hxb : (x == id) = false := beq_eq_false_iff_ne.2 hxi
            have HXI := Lib.hid hxi
            clear hxi
            go_wp2
            refine ⟨⟨k + 1, by omega, by go_num, ?_⟩, by simp [intOf]; omega⟩
            rw [SN.out]
            intro c
            rcases List.mem_append.1 c with c | c
            · exact HK.out c
            · simp at c; exact HXI.out c.symm
        · have kli : ¬ (k : Int) < L.length := by omega
          go_wp2
          refine ⟨⟨p + 1, by omega, by go_num, fun j hj => ?_⟩, by simp [intOf]; omega⟩
          by_cases e : j = p
          · rw [e, HL.out]
            have := HK.out
            rw [List.take_of_length_le (by omega)] at this
            exact this
          · exact HN.out j (by omega)
    · have hpi : ¬ (p : Int) < 3 := by omega
      go_wp2
      go_ret2
      exact ⟨.inl ⟨not_ids (fun j hj => HN.out j (by omega)), rfl⟩, rfl⟩
end Go.Proofs.Ytpfmpfmbmipglaa
