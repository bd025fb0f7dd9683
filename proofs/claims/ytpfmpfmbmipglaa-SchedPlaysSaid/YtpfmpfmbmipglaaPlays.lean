/-
  SchedPlays: the walk.
-/
import Derived.Test.YtpfmpfmbmipglaaStep
namespace Go.Proofs.Ytpfmpfmbmipglaa.schedPlays
open Go.RowKit Go.Proofs.Ytpfmpfmbmipglaa

theorem step_act (w : World) (B qb pb : Nat) (s : St) (q : QS w B qb s) (r : RQ w B pb s) (hB : B ≤ w.heap.size) (hs : s.size < 1000000) (a : Act3) (hid : a.id ≤ 9223372036854775807) :
    Calls Try.prog 20 #[.pointer (some ⟨qb, 0, none⟩), .pointer (some ⟨pb, 0, none⟩), .agg #[.int .i64 a.kind, .int .i64 a.id, .int .i64 a.pri]] w fun e w' => e = .returned (.bool true) ∧ Both w B qb pb (s.act a) w' := by
  obtain ⟨k, id, p⟩ := a
  unfold St.act
  simp only
  by_cases e0 : k = 0
  · subst e0; rw [if_pos rfl]; exact step_put w B qb pb s q r hB hs id p hid
  · rw [if_neg e0]
    by_cases e1 : k = 1
    · subst e1; rw [if_pos rfl]; exact step_pick w B qb pb s q r hB hs id p
    · rw [if_neg e1]
      by_cases e2 : k = 2
      · subst e2; rw [if_pos rfl]; exact step_drop w B qb pb s q r hB hs id p
      · rw [if_neg e2]
        by_cases e3 : k = 3
        · subst e3; exact step_has w B qb pb s q r hB hs id p
        · exact step_look w B qb pb s q r hB hs k id p e0 e1 e2 e3

def Rel (w : World) (qb pb : Nat) (l : List Act3) (i : Value) (wr : World) : Prop := ∃ k : Nat, k ≤ l.length ∧ i = .int .i64 k ∧ Both w w.heap.size qb pb (run (l.take k)) wr

set_option maxHeartbeats 2000000 in
theorem walk (w : World) (v : Value) (l : List Act3) (hv : IsActs w v l) :
    Calls Try.prog 8 #[v] w fun e w' => e = .returned (.bool true) ∧ Below w.heap.size w w' := by
  obtain ⟨a0, cap0, rfl, hmax, hcell⟩ := hv
  unfold maxLen at hmax
  have HC := Lib.hid hcell
  clear hcell
  by_cases h4 : 400 < l.length
  · have h4i : (400 : Int) < l.length := by omega
    go_enter Try.func8, Try.ntmps8
    go_wp2_with (go_at_call 13; refine (awake_any _).mono ?_; rintro e w6 ⟨rfl, k2⟩; have K2 := Lib.hid k2; clear k2)
    go_ret
    exact ⟨rfl, K2.out⟩
  · have h4i : ¬ (400 : Int) < l.length := by omega
    go_enter Try.func8, Try.ntmps8
    go_wp2_with fail
    refine (new_qs w w.heap.size (Nat.le_refl _)).mono ?_
    rintro e w1 ⟨rfl, q, kb⟩
    have Q := Lib.hid q
    have K := Lib.hid kb
    have hsz := kb.size
    clear kb q
    generalize w.heap.size + 1 = qb at *
    go_wp2
    have BA := Lib.hid ((Below.refl w1.heap.size w1).alloc (Nat.le_refl _) (.cells #[.slice none 0 0, .slice none 0 0, .slice none 0 0, .int .i64 0] 46))
    have Q2 := Lib.hid (Q.out.below BA.out)
    have R2 := Lib.hid (show RQ (w1.alloc (.cells #[.slice none 0 0, .slice none 0 0, .slice none 0 0, .int .i64 0] 46)) w.heap.size w1.heap.size St.empty from ⟨fun _ => .slice none 0 0, by show (w1.heap.push _)[_]? = _; simp; rfl, hsz, fun p _ => ⟨by simp [St.at, St.line, St.empty], .inl ⟨rfl, by simp [St.at, St.line, St.empty]⟩⟩, fun p k _ _ _ g e => by simp [Value.ownBlock] at e⟩)
    have B2 := Lib.hid (K.out.trans (BA.out.mono hsz))
    have hz2 : w.heap.size ≤ (w1.alloc (.cells #[.slice none 0 0, .slice none 0 0, .slice none 0 0, .int .i64 0] 46)).heap.size := Nat.le_trans hsz BA.out.size
    generalize w1.heap.size = pb at *
    generalize w1.alloc (.cells #[.slice none 0 0, .slice none 0 0, .slice none 0 0, .int .i64 0] 46) = w2 at *
    clear Q K BA
    go_loopw [5] (fun i wr => Rel w qb pb l i wr) (fun i _ => l.length - (intOf i).toNat)
    case atStart => exact ⟨0, Nat.zero_le _, rfl, Q2.out, R2.out, B2.out, hz2⟩
    case round =>
      obtain ⟨k, hk, rfl, hq, hr, hb, hz⟩ := hrel
      have HQ := Lib.hid hq
      have HR := Lib.hid hr
      have HB := Lib.hid hb
      clear hq hr hb Q2 R2 B2 hz2
      have hrs := run_sz (l.take k)
      have hrm : (run (l.take k)).size < 1000000 := by have := List.length_take_le k l; omega
      by_cases hlt : k < l.length
      · have klt : (k : Int) < l.length := by omega
        obtain ⟨b, o, rfl, hbs, hx⟩ := HC.out (by intro e; rw [e] at hlt; cases hlt)
        obtain ⟨x, hxk⟩ : ∃ x, l[k]? = some x := ⟨_, List.getElem?_eq_getElem hlt⟩
        obtain ⟨c0, c1, c2, hid⟩ := hx k x hxk
        have bk := HB.out.block b hbs
        have c0' : wr.cell? ⟨b, o + k * 3, none⟩ = some (.int .i64 x.kind) := (World.cell?_of_block (w := w) bk).trans c0
        have c1' : wr.cell? ⟨b, o + k * 3 + 1, none⟩ = some (.int .i64 x.id) := (World.cell?_of_block (w := w) bk).trans c1
        have c2' : wr.cell? ⟨b, o + k * 3 + 2, none⟩ = some (.int .i64 x.pri) := (World.cell?_of_block (w := w) bk).trans c2
        have HX := Lib.hid hxk
        clear c0 c1 c2 bk hx hxk
        go_wp2_with (go_at_call 20; refine (step_act _ w.heap.size qb pb (run (l.take k)) HQ.out HR.out hz hrm x hid).mono ?_; rintro e w3 ⟨rfl, q3, r3, b3, z3⟩; have Q3 := Lib.hid q3; have R3 := Lib.hid r3; have B3 := Lib.hid (HB.out.trans b3); clear q3 r3 b3)
        exact ⟨⟨k + 1, by omega, by go_num, by rw [take_act HX.out]; exact Q3.out, by rw [take_act HX.out]; exact R3.out, B3.out, z3⟩, by simp [intOf]; omega⟩
      · have klt : ¬ (k : Int) < l.length := by omega
        go_wp2_with (first
          | (go_at_call 20; refine (step_look _ w.heap.size qb pb (run (l.take k)) HQ.out HR.out hz hrm 9 0 0 (by decide) (by decide) (by decide) (by decide)).mono ?_; rintro e w3 ⟨rfl, q3, r3, b3, z3⟩; have B3 := Lib.hid (HB.out.trans b3); clear q3 r3 b3)
          | (go_at_call 13; refine (awake_any _).mono ?_; rintro e w6 ⟨rfl, k2⟩; have K2 := Lib.hid k2; clear k2))
        go_ret
        exact ⟨rfl, B3.out.trans (K2.out.mono z3)⟩
end Go.Proofs.Ytpfmpfmbmipglaa.schedPlays
