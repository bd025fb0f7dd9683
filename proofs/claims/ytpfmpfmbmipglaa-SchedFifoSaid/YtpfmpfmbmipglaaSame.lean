/-
  same: two slices of int64 are compared.
-/
import Derived.Test.YtpfmpfmbmipglaaList
namespace Go.Proofs.Ytpfmpfmbmipglaa
open Go.RowKit

/-- A slice value reads as these numbers. -/
def IsInts (w : World) (v : Value) (l : List Int) : Prop :=
  ∃ a cap, v = .slice a l.length cap ∧ (l ≠ [] → ∃ b o, a = some ⟨b, o, none⟩ ∧ ∀ i, i < l.length → w.cell? ⟨b, o + i, none⟩ = some (.int .i64 (l.getD i 0)))

theorem IsInts.of_own {w : World} {base : Nat} {v : Value} {l : List Int} (h : w.ownsRow base 2 1 v l.length (l.map (Value.int .i64))) : IsInts w v l := by
  rcases h.2 with ⟨rfl, h0⟩ | ⟨g, cap, cur, rfl, hg, hh, _, _, hs, ht⟩
  · exact ⟨none, 0, by rw [h0], fun hn => absurd (List.length_eq_zero_iff.1 h0) hn⟩
  · refine ⟨_, cap, rfl, fun _ => ⟨g, 0, rfl, fun i hi => ?_⟩⟩
    rw [cell_of hh]
    have e : (cur.toList.take (l.length * 1))[i]? = some (.int .i64 (l.getD i 0)) := by
      rw [ht, List.getElem?_map, List.getD_eq_getElem?_getD, List.getElem?_eq_getElem hi]; rfl
    rw [List.getElem?_take_of_lt (by omega)] at e
    simpa using e

theorem IsInts.keep {w w' : World} {v : Value} {l : List Int} (h : IsInts w v l) (hc : ∀ b o x, v.ownBlock = some b → w.cell? ⟨b, o, none⟩ = some x → w'.cell? ⟨b, o, none⟩ = some x) : IsInts w' v l := by
  obtain ⟨a, cap, rfl, h⟩ := h
  refine ⟨a, cap, rfl, fun hn => ?_⟩
  obtain ⟨b, o, rfl, hb⟩ := h hn
  exact ⟨b, o, rfl, fun i hi => hc b _ _ rfl (hb i hi)⟩

theorem cell_heap {w w' : World} (h : w'.heap = w.heap) (a : Addr) : w'.cell? a = w.cell? a := by simp [World.cell?, h]

def SameRel (w : World) (la lb : List Int) (i : Value) (wr : World) : Prop :=
  ∃ k : Nat, k ≤ la.length ∧ i = .int .i64 k ∧ la.take k = lb.take k ∧ To w wr w.heap

theorem take_succ_eq {la lb : List Int} {k : Nat} (hk : k < la.length) (hk' : k < lb.length) (h : la.take k = lb.take k) (e : la.getD k 0 = lb.getD k 0) : la.take (k + 1) = lb.take (k + 1) := by
  rw [List.take_succ_eq_append_getElem hk, List.take_succ_eq_append_getElem hk', h]
  rw [List.getD_eq_getElem?_getD, List.getD_eq_getElem?_getD, List.getElem?_eq_getElem hk, List.getElem?_eq_getElem hk'] at e
  simp only [Option.getD_some] at e
  rw [e]

set_option maxHeartbeats 1000000 in
theorem same_any (va vb : Value) (la lb : List Int) (w : World) (ha : IsInts w va la) (hb : IsInts w vb lb) (h1 : la.length < 1000000) (_h2 : lb.length < 1000000) :
    Calls Try.prog 17 #[va, vb] w fun e w' => e = .returned (.bool (decide (la = lb))) ∧ To w w' w.heap := by
  obtain ⟨aa, ca, rfl, ha⟩ := ha
  obtain ⟨ab, cb, rfl, hb⟩ := hb
  by_cases hlen : la.length = lb.length
  · have hd' : ((la.length : Int) != lb.length) = false := by simp [hlen]
    have HL := Lib.hid hlen
    clear hlen
    go_enter Try.func17, Try.ntmps17
    go_wp2
    go_loopw [5] (fun i wr => SameRel w la lb i wr) (fun i _ => la.length - (intOf i).toNat)
    case atStart => exact ⟨0, Nat.zero_le _, rfl, rfl, To.refl _⟩
    case round =>
      obtain ⟨k, hk, rfl, ht, hto⟩ := hrel
      by_cases hlt : k < la.length
      · obtain ⟨ba, oa, rfl, hca⟩ := ha (by intro e; rw [e] at hlt; cases hlt)
        obtain ⟨bb, ob, rfl, hcb⟩ := hb (by intro e; have := HL.out; rw [e] at this; simp at this; rw [this] at hlt; cases hlt)
        have hkb : k < lb.length := by have := HL.out; omega
        have xa : wr.cell? ⟨ba, oa + k, none⟩ = some (.int .i64 (la.getD k 0)) := (cell_heap hto.heap _).trans (hca k hlt)
        have xb : wr.cell? ⟨bb, ob + k, none⟩ = some (.int .i64 (lb.getD k 0)) := (cell_heap hto.heap _).trans (hcb k hkb)
        have HT := Lib.hid ht
        have HO := Lib.hid hto
        clear ht hto hca hcb ha hb
        generalize hga : la.getD k 0 = ga at *
        generalize hgb : lb.getD k 0 = gb at *
        have HGA := Lib.hid hga
        have HGB := Lib.hid hgb
        clear hga hgb
        have k0 : (0 : Int) ≤ k := by omega
        have klt : (k : Int) < la.length := by omega
        have klb : (k : Int) < lb.length := by omega
        by_cases hg : ga = gb
        · have hg' : (ga != gb) = false := by simp [hg]
          have HG := Lib.hid hg
          clear hg
          go_wp2
          go_quiet (fail)
          go_wp2
          refine ⟨⟨k + 1, by omega, by go_num, take_succ_eq hlt hkb HT.out (by rw [HGA.out, HGB.out, HG.out]), ?_⟩, by simp [intOf]; omega⟩
          exact ⟨HO.out.heap, HO.out.os, HO.out.tape, HO.out.output⟩
        · have hg' : (ga != gb) = true := by simp [hg]
          have HG := Lib.hid hg
          clear hg
          go_wp2
          go_quiet (fail)
          go_wp2
          go_ret
          refine ⟨?_, HO.out.heap, HO.out.os, HO.out.tape, HO.out.output⟩
          rw [decide_eq_false (show ¬ la = lb from fun e => HG.out (by rw [← HGA.out, ← HGB.out, e]))]
          rfl
      · have hle : ¬ (k : Int) < la.length := by omega
        have HT := Lib.hid ht
        have HO := Lib.hid hto
        clear ht hto ha hb
        go_wp2
        go_ret
        refine ⟨?_, HO.out⟩
        have h := HT.out
        rw [List.take_of_length_le (by omega), List.take_of_length_le (by have := HL.out; omega)] at h
        rw [decide_eq_true h]
        rfl
  · have hd' : ((la.length : Int) != lb.length) = true := by simp; omega
    have HL := Lib.hid hlen
    clear hlen ha hb
    go_enter Try.func17, Try.ntmps17
    go_wp2
    go_ret
    refine ⟨?_, To.refl _⟩
    rw [decide_eq_false (show ¬ la = lb from fun e => HL.out (by rw [e]))]
    rfl
end Go.Proofs.Ytpfmpfmbmipglaa
