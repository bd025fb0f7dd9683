/-
  parser.is: what it does, by a walk.
-/
import Derived.Test.YtchmfcjfdhokoaaGreatDoorEvPrims
import Derived.WalkKit
import Derived.Deep.QuietTactic
import Derived.BigQuiet
import Derived.Handy
import Derived.Deep.DeepFit
import Derived.Lib.Hide
namespace Go.Proofs.YtchmfcjfdhokoaaGreatDoor
namespace Ev
open Go.RowKit

theorem Still.alloc {w w' : World} (h : Still w w') (o : Obj) : Still w (w'.alloc o) := h.trans ⟨by rw [World.size_alloc]; omega, fun b hb => heap_alloc hb, rfl, rfl, rfl⟩
theorem Still.drew {w w' : World} (h : Still w w') : Still w w'.drew := h.trans ⟨Nat.le_refl _, fun _ _ => rfl, rfl, rfl, rfl⟩

set_option maxHeartbeats 1000000 in
theorem sign_walk (k : Int) (t : ByteArray) (n x : Value) (w : World) :
    Calls Tryz.prog 53 #[.agg #[.int .i64 k, .string t, n, x]] w fun e w' => e = .returned (.string (if k = 6 ∨ k = 5 then t else ByteArray.empty)) ∧ Still w w' := by
  by_cases h6 : k = 6
  · subst h6
    go_enter Tryz.func53, Tryz.ntmps53
    go_wp2
    go_ret
    exact ⟨rfl, (Still.refl w).alloc _⟩
  · by_cases h5 : k = 5
    · subst h5
      go_enter Tryz.func53, Tryz.ntmps53
      go_wp2
      go_ret
      exact ⟨rfl, (Still.refl w).alloc _⟩
    · have h : ¬(k = 6 ∨ k = 5) := by omega
      rw [if_neg h]
      have e6 : (k == 6) = false := by simpa using h6
      have e5 : (k == 5) = false := by simpa using h5
      go_enter Tryz.func53, Tryz.ntmps53
      go_wp2
      go_ret
      exact ⟨rfl, (Still.refl w).alloc _⟩

set_option maxHeartbeats 1000000 in
theorem peek_walk (pb po tb ts tn tc a : Nat) (k : Int) (t : ByteArray) (m q : Int) (w : World) (h0 : w.cell? ⟨pb, po, none⟩ = some (.slice (some ⟨tb, ts, none⟩) tn tc)) (h1 : w.cell? ⟨pb, po + 1, none⟩ = some (.int .i64 a))
    (ha : a < tn) (hn : tn < 1099511627776) (c0 : w.cell? ⟨tb, ts + a * 4, none⟩ = some (.int .i64 k)) (c1 : w.cell? ⟨tb, ts + a * 4 + 1, none⟩ = some (.string t)) (c2 : w.cell? ⟨tb, ts + a * 4 + 2, none⟩ = some (.int .u64 m)) (c3 : w.cell? ⟨tb, ts + a * 4 + 3, none⟩ = some (.int .i64 q)) :
    Calls Tryz.prog 51 #[.pointer (some ⟨pb, po, none⟩), .int .i64 0] w fun e w' => e = .returned (.agg #[.int .i64 k, .string t, .int .u64 m, .int .i64 q]) ∧ Still w w' := by
  have old : ∀ {p : Addr} {v : Value} (o : Obj), w.cell? p = some v → (w.alloc o).cell? p = some v := fun o h => by rw [World.cell?_alloc_old _ _ _ (Nat.ne_of_lt (World.block_lt_of_cell? _ _ h))]; exact h
  have g0 := fun o => old o h0
  have g1 := fun o => old o h1
  have d0 := fun o => old o c0
  have d1 := fun o => old o c1
  have d2 := fun o => old o c2
  have d3 := fun o => old o c3
  go_enter Tryz.func51, Tryz.ntmps51
  go_wp2
  go_region
  go_wp2
  go_region
  go_wp2
  go_returns
  exact ⟨rfl, ((Still.refl w).alloc _).drew.drew⟩

set_option maxHeartbeats 1000000 in
theorem peek_end (pb po tn tc a : Nat) (ta : Option Addr) (w : World) (h0 : w.cell? ⟨pb, po, none⟩ = some (.slice ta tn tc)) (h1 : w.cell? ⟨pb, po + 1, none⟩ = some (.int .i64 a))
    (ha : ¬ a < tn) (hn : a < 1099511627776) :
    Calls Tryz.prog 51 #[.pointer (some ⟨pb, po, none⟩), .int .i64 0] w fun e w' => e = .returned (.agg #[.int .i64 0, .string ByteArray.empty, .int .u64 0, .int .i64 0]) ∧ Still w w' := by
  have old : ∀ {p : Addr} {v : Value} (o : Obj), w.cell? p = some v → (w.alloc o).cell? p = some v := fun o h => by rw [World.cell?_alloc_old _ _ _ (Nat.ne_of_lt (World.block_lt_of_cell? _ _ h))]; exact h
  have g0 := fun o => old o h0
  have g1 := fun o => old o h1
  go_enter Tryz.func51, Tryz.ntmps51
  go_wp2
  go_region
  go_wp2
  go_returns
  exact ⟨rfl, ((Still.refl w).alloc _).drew⟩

theorem Still.cell {w w' : World} (s : Still w w') {p : Addr} {v : Value} (h : w.cell? p = some v) : w'.cell? p = some v := by
  unfold World.cell? at h ⊢
  rw [s.keep _ (World.block_lt_of_cell? _ _ h)]
  exact h


/- What is known of peek, sign and slices.Contains. -/
noncomputable section
def tok4 (l : List V) : Option V :=
  match l with
  | [.int .i64 k, .str n c, .int .u64 m, .int .i64 q] => some (.agg [.int .i64 k, .str n c, .int .u64 m, .int .i64 q])
  | _ => none
def zeroTok : V := .agg [.int .i64 0, .str 0 0, .int .u64 0, .int .i64 0]
def peekP (vs : List V) (h : H) : Option (V × H) :=
  match vs with
  | [.ptr id off, .int .i64 (.ofNat 0)] => ob (h.rd id off 2) fun l => match l with
    | [.sl tid toff tn _ _ es, .int .i64 (.ofNat a)] => oif (Nat.beq es 4 && Nat.blt tn 1099511627776 && Nat.blt a 1099511627776)
        (Bool.rec (motive := fun _ => Option (V × H)) (some (zeroTok, h)) (ob (h.rd tid (Nat.add toff (Nat.mul a 4)) 4) fun t => ob (tok4 t) fun v => some (v, h)) (Nat.blt a tn))
    | _ => none
  | _ => none
def signOf (k : Int) (n c : Nat) : V := Bool.rec (motive := fun _ => V) (.str 0 0) (.str n c) (eqI k 6 || eqI k 5)
def signP (vs : List V) (h : H) : Option (V × H) :=
  match vs with
  | [.agg [.int .i64 k, .str n c, .int .u64 _, .int .i64 _]] => some (signOf k n c, h)
  | _ => none
/-- Is a string among the cells? -/
def amongP (n c : Nat) (l : List V) : Option Bool :=
  List.rec (motive := fun _ => Option Bool) (some false) (fun x _ ih => asStr (fun m d => ob ih fun b => some (Bool.rec (motive := fun _ => Bool) b true (strEq m d n c))) x) l
def containsSP (vs : List V) (h : H) : Option (V × H) :=
  match vs with
  | [.sl id off ln _ _ es, .str n c] => oif (Nat.beq es 1 && Nat.blt ln 1099511627776) (ob (h.rd id off ln) fun l => ob (amongP n c l) fun b => some (.bool b, h))
  | _ => none
end
theorem eqI_beq (a b : Int) : eqI a b = (a == b) := by
  cases a <;> cases b
  · rename_i x y
    by_cases e : x = y
    · subst e; simp [eqI]
    · have : Nat.beq x y = false := by
        cases q : Nat.beq x y with
        | false => rfl
        | true => exact absurd (Nat.eq_of_beq_eq_true q) e
      show Nat.beq x y = _
      rw [this]
      simp
      omega
  · rfl
  · rfl
  · rename_i x y
    by_cases e : x = y
    · subst e; simp [eqI]
    · have : Nat.beq x y = false := by
        cases q : Nat.beq x y with
        | false => rfl
        | true => exact absurd (Nat.eq_of_beq_eq_true q) e
      show Nat.beq x y = _
      rw [this]
      simp [e]
theorem sign_ok : PrimOf 53 signP := by
  intro vs h v h' e g w us r hG hv
  unfold signP at e
  split at e
  · rename_i k n c m q
    cases e
    cases hv with
    | cons h1 t1 => cases t1 with
      | nil =>
        cases h1 with
        | agg h1 => cases h1 with
          | cons a1 b1 => cases b1 with
            | cons a2 b2 => cases b2 with
              | cons a3 b3 => cases b3 with
                | cons a4 b4 => cases b4 with
                  | nil =>
                    obtain ⟨s, rfl, k1, k2⟩ := VR.str_inv a2
                    rw [a1.int_inv, a3.int_inv, a4.int_inv]
                    refine prim_fn Tryz.func53 (by decide) rfl ((sign_walk k s _ _ w).mono ?_)
                    rintro e w' ⟨rfl, st⟩
                    refine ⟨g, _, rfl, ?_, .ofStill r st⟩
                    unfold signOf
                    rw [eqI_beq, eqI_beq, brec_eq]
                    by_cases hk : k = 6 ∨ k = 5
                    · rw [if_pos hk, if_pos (by simpa using hk)]
                      subst k1 k2
                      have := VR.str (g := g) s
                      rwa [ByteArray.size, ← Array.length_toList] at this
                    · rw [if_neg hk, if_neg (by simpa using hk)]
                      exact VR.str ByteArray.empty
  · cases e
theorem VR.sl_inv {g : G} {a b n c es : Nat} {ex : Bool} {u : Value} (h : VR g (.sl a b n c ex es) u) : ∃ ta tc, u = .slice ta n tc := by
  cases h <;> exact ⟨_, _, rfl⟩
theorem peek_ok : PrimOf 51 peekP := by
  intro vs h v h' e g w us r hG hv
  unfold peekP at e
  split at e
  · rename_i id off
    obtain ⟨l, e1, e2⟩ := ob_some.1 e
    split at e2
    · rename_i tid toff tn tcap tex es a
      obtain ⟨e3, e4⟩ := oif_some.1 e2
      simp only [Bool.and_eq_true, Nat.beq_eq, Nat.blt_eq] at e3
      obtain ⟨⟨e5, e6⟩, e7⟩ := e3
      subst e5
      cases hv with
      | cons h1 t1 => cases t1 with
        | cons h2 t2 => cases t2 with
          | nil =>
            rw [h2.int_inv]
            cases h1
            rename_i pb o z hg
            obtain ⟨xs, m1, m2, m3, _⟩ := rd_ok r hg e1
            cases m1 with
            | cons p1 p2 => cases p2 with
              | cons p3 p4 => cases p4 with
                | nil =>
                  have hc0 := m3 0 _ rfl
                  have hc1 := m3 1 _ rfl
                  rw [Nat.add_zero] at hc0
                  rw [p3.int_inv] at hc1
                  obtain ⟨ta, tc, hsl⟩ := p1.sl_inv
                  rw [brec_eq] at e4
                  split at e4
                  · rename_i ha
                    have ha : a < tn := by simpa using ha
                    obtain ⟨t, f1, f2⟩ := ob_some.1 e4
                    obtain ⟨v2, f3, f4⟩ := ob_some.1 f2
                    cases f4
                    unfold tok4 at f3
                    split at f3
                    · rename_i k n c m q
                      cases f3
                      have fin : ∀ {b o2 z2 cap : Nat}, g tid = some (b, o2, z2) → w.cell? ⟨pb, o + off, none⟩ = some (.slice (some ⟨b, o2 + toff, none⟩) tn cap) → CallFn Tryz.prog TP 51 [.pointer (some ⟨pb, o + off, none⟩), .int .i64 0] g h w (.agg [.int .i64 k, .str n c, .int .u64 m, .int .i64 q]) h := by
                        intro b o2 z2 cap hg2 hc
                        obtain ⟨ys, n1, n2, n3, _⟩ := rd_ok r hg2 f1
                        cases n1 with
                        | cons a1 b1 => cases b1 with
                          | cons a2 b2 => cases b2 with
                            | cons a3 b3 => cases b3 with
                              | cons a4 b4 => cases b4 with
                                | nil =>
                                  obtain ⟨s, rfl, k1, k2⟩ := VR.str_inv a2
                                  have d0 := n3 0 _ rfl
                                  have d1 := n3 1 _ rfl
                                  have d2 := n3 2 _ rfl
                                  have d3 := n3 3 _ rfl
                                  rw [a1.int_inv] at d0
                                  rw [a3.int_inv] at d2
                                  rw [a4.int_inv] at d3
                                  have ex : o2 + Nat.add toff (Nat.mul a 4) = o2 + toff + a * 4 := by show o2 + (toff + a * 4) = _; omega
                                  rw [ex] at d0 d1 d2 d3
                                  refine prim_fn Tryz.func51 (by decide) rfl ((peek_walk pb (o + off) b (o2 + toff) tn cap a k s m q w hc hc1 ha e6 d0 d1 d2 d3).mono ?_)
                                  rintro e w' ⟨rfl, st⟩
                                  refine ⟨g, _, rfl, .agg (.cons (.int _ _) (.cons ?_ (.cons (.int _ _) (.cons (.int _ _) .nil)))), .ofStill r st⟩
                                  subst k1 k2
                                  have := VR.str (g := g) s
                                  rwa [ByteArray.size, ← Array.length_toList] at this
                      cases p1 with
                      | slx hg2 => exact fin hg2 hc0
                      | sli hg2 _ _ => exact fin hg2 hc0
                      | sl0 => exact absurd ha (Nat.not_lt_zero _)
                      | slx0 => exact absurd ha (Nat.not_lt_zero _)
                    · cases f3
                  · rename_i ha
                    have ha : ¬ a < tn := by simpa using ha
                    cases e4
                    rw [hsl] at hc0
                    refine prim_fn Tryz.func51 (by decide) rfl ((peek_end pb (o + off) tn tc a ta w hc0 hc1 ha e7).mono ?_)
                    rintro e w' ⟨rfl, st⟩
                    exact ⟨g, _, rfl, .agg (.cons (.int _ _) (.cons (.str ByteArray.empty) (.cons (.int _ _) (.cons (.int _ _) .nil)))), .ofStill r st⟩
    · cases e2
  · cases e
theorem amongP_cons (n c : Nat) (x : V) (l : List V) : amongP n c (x :: l) = asStr (fun m d => ob (amongP n c l) fun b => some (Bool.rec (motive := fun _ => Bool) b true (strEq m d n c))) x := rfl
theorem strEq_iff {x y : ByteArray} : strEq x.data.toList.length (natOf x.data.toList) y.data.toList.length (natOf y.data.toList) = true ↔ x = y := by
  unfold strEq
  rw [brec_eq]
  constructor
  · intro h
    split at h
    · rename_i e
      have := natOf_inj (Nat.eq_of_beq_eq_true e) (Nat.eq_of_beq_eq_true h)
      cases x with
      | mk a => cases y with
        | mk b => exact congrArg ByteArray.mk (Array.toList_inj.1 this)
    · cases h
  · rintro rfl
    simp
theorem among_ok {g : G} (x : ByteArray) : ∀ {l : List V} {us : List Value} {b : Bool}, VRs g l us → amongP x.data.toList.length (natOf x.data.toList) l = some b → ∃ zs : List ByteArray, us = zs.map Value.string ∧ (b = true ↔ x ∈ zs)
  | [], _, b, .nil, e => by cases e; exact ⟨[], rfl, by simp⟩
  | v :: l, _, b, .cons h t, e => by
    rw [amongP_cons, asStr_eq] at e
    cases v <;> first | (cases e; done) | skip
    obtain ⟨q, e1, e2⟩ := ob_some.1 e
    cases e2
    obtain ⟨zs, rfl, k⟩ := among_ok x t e1
    obtain ⟨s, rfl, rfl, rfl⟩ := VR.str_inv h
    refine ⟨s :: zs, rfl, ?_⟩
    rw [brec_eq]
    by_cases hs : strEq s.data.toList.length (natOf s.data.toList) x.data.toList.length (natOf x.data.toList) = true
    · rw [if_pos hs]
      have := strEq_iff.1 hs
      simp [this]
    · rw [if_neg hs, k, List.mem_cons]
      exact ⟨.inr, fun k => k.elim (fun e => absurd (strEq_iff.2 e.symm) hs) id⟩
theorem containsS_ok : PrimOf 52 containsSP := by
  intro vs h v h' e g w us r hG hv
  unfold containsSP at e
  split at e
  · rename_i id off ln cap ex es n c
    obtain ⟨e1, e2⟩ := oif_some.1 e
    simp only [Bool.and_eq_true, Nat.beq_eq, Nat.blt_eq] at e1
    obtain ⟨e0, e1⟩ := e1
    subst e0
    obtain ⟨l, e3, e4⟩ := ob_some.1 e2
    obtain ⟨b, e5, e6⟩ := ob_some.1 e4
    cases e6
    cases hv with
    | cons h1 t1 => cases t1 with
      | cons h2 t2 => cases t2 with
        | nil =>
          obtain ⟨x, rfl, rfl, rfl⟩ := VR.str_inv h2
          refine prim_fn Tryz.func52 (by decide) rfl ?_
          have fin : ∀ {bk o z cap' : Nat}, g id = some (bk, o, z) → Calls Tryz.prog 52 #[.slice (some ⟨bk, o + off, none⟩) ln cap', .string x] w (Post TP g h w (.bool b) h) := by
            intro bk o z cap' hg
            obtain ⟨us, m1, m2, m3, _⟩ := rd_ok r hg e3
            obtain ⟨zs, rfl, k⟩ := among_ok x m1 e5
            have hl : zs.length = ln := by simpa using m2
            subst hl
            have c := Tryz.slices_Contains_string bk (o + off) zs.length cap' zs x w (Nat.le_refl _) (by omega) (fun j hj => by
              refine m3 j _ ?_
              rw [List.getElem?_map, List.getElem?_eq_getElem hj]
              simp [List.getD, List.getElem?_eq_getElem hj])
            rw [List.take_length] at c
            have hb : Lib.containsS zs x = b := by
              cases b with
              | true => exact (Lib.containsS_iff _ _).2 (k.1 rfl)
              | false =>
                cases q : Lib.containsS zs x with
                | false => rfl
                | true => exact absurd (k.2 ((Lib.containsS_iff _ _).1 q)) (by simp)
            rw [hb] at c
            exact Calls.post r (.bool b) c
          have emp : ∀ {a : Option Addr} {cap' : Nat}, ln = 0 → Calls Tryz.prog 52 #[.slice a 0 cap', .string x] w (Post TP g h w (.bool b) h) := by
            intro a cap' h0
            subst h0
            have hl : l = [] := by
              unfold H.rd at e3
              obtain ⟨p, _, k⟩ := ob_some.1 e3
              cases k
              rfl
            subst hl
            cases e5
            exact Calls.post r (.bool false) (Tryz.slices_Contains_string_empty a cap' x w)
          cases h1 with
          | slx hg => exact fin hg
          | sli hg _ _ => exact fin hg
          | sl0 => exact emp rfl
          | slx0 => exact emp rfl
  · cases e

/- parser.is, by its own code over what is known of what it calls. -/
noncomputable section
def isP (vs : List V) (h : H) : Option (V × H) :=
  match vs with
  | [.ptr id off, .sl lid lo ln cap ex es] => ob (peekP [.ptr id off, .int .i64 (.ofNat 0)] h) fun r => ob (signP [r.1] h) fun s => ob (containsSP [.sl lid lo ln cap ex es, s.1] h) fun b => asBool (fun b => ob (h.rd id off 2) fun l => match l with
      | [.sl tid toff tn tcap tex tes, .int .i64 (.ofNat a)] => oif (oneCell (.sl tid toff tn tcap tex tes)) (some (.bool (Bool.rec (motive := fun _ => Bool) false (Nat.blt a tn) b), h))
      | _ => none) b.1
  | _ => none
def primI (f : FuncId) : Option (List V → H → Option (V × H)) := if f = 51 then some peekP else if f = 53 then some signP else if f = 52 then some containsSP else none
def tabI (f : FuncId) : Option CF := if f = 25 then some cf25 else none
end
theorem runOpsD_nil (call : CallT) (s : St) : runOpsD call [] s = some s := rfl
theorem runOpsD_cons2 (call : CallT) (o : COper) (l : List COper) (s : St) : runOpsD call (o :: l) s = ob (o.runD call s) (runOpsD call l) := rfl
section
variable {call : CallT} {d : Dst} {args : List Opd} {g : Option (Opd × Bool)} {lo hi : Nat} {l : List COper} {s : St} {vs : List V} {v : V} {r : Option St}
theorem runOpsD_p {o : POp} (hg : guardOk s.f g = some true) (he : evs s.f args = some vs) (hr : o.run vs = some v)
    (k : runOpsD call l ⟨d.put s.f v, s.h, s.hs, s.cs⟩ = r) : runOpsD call (⟨d, .p o, args, g, lo, hi⟩ :: l) s = r := by
  rw [runOpsD_cons2]
  unfold COper.runD
  rw [show guardOk s.f (COper.mk d (.p o) args g lo hi).guard = some true from hg]
  show ob (ob (evs s.f args) fun vs => ob (ob (o.run vs) fun v => some (v, s.h)) fun r => some (St.mk (d.put s.f r.1) r.2 s.hs s.cs)) (runOpsD call l) = r
  rw [he]
  show ob (ob (ob (o.run vs) fun v => some (v, s.h)) fun r => some (St.mk (d.put s.f r.1) r.2 s.hs s.cs)) (runOpsD call l) = r
  rw [hr]
  exact k
theorem runOpsD_r {o : ROp} (hg : guardOk s.f g = some true) (he : evs s.f args = some vs) (hr : o.run vs s.h = some v)
    (k : runOpsD call l ⟨d.put s.f v, s.h, s.hs, ⟨o, vs, v, lo, hi⟩ :: s.cs⟩ = r) : runOpsD call (⟨d, .r o, args, g, lo, hi⟩ :: l) s = r := by
  rw [runOpsD_cons2]
  unfold COper.runD
  rw [show guardOk s.f (COper.mk d (.r o) args g lo hi).guard = some true from hg]
  show ob (ob (evs s.f args) fun vs => ob (ob (o.run vs s.h) fun v => some (v, s.h)) fun r => some (St.mk (d.put s.f r.1) r.2 s.hs (⟨o, vs, r.1, lo, hi⟩ :: s.cs))) (runOpsD call l) = r
  rw [he]
  show ob (ob (ob (o.run vs s.h) fun v => some (v, s.h)) fun r => some (St.mk (d.put s.f r.1) r.2 s.hs (⟨o, vs, r.1, lo, hi⟩ :: s.cs))) (runOpsD call l) = r
  rw [hr]
  exact k
theorem runOpsD_c {f : FuncId} {h' : H} (hg : guardOk s.f g = some true) (he : evs s.f args = some vs) (hr : call (.fn f) vs s.h = some (v, h'))
    (k : runOpsD call l ⟨d.put s.f v, h', s.h :: s.hs, s.cs⟩ = r) : runOpsD call (⟨d, .call f, args, g, lo, hi⟩ :: l) s = r := by
  rw [runOpsD_cons2]
  unfold COper.runD
  rw [show guardOk s.f (COper.mk d (.call f) args g lo hi).guard = some true from hg]
  show ob (ob (evs s.f args) fun vs => ob (call (.fn f) vs s.h) fun r => some (St.mk (d.put s.f r.1) r.2 (s.h :: s.hs) s.cs)) (runOpsD call l) = r
  rw [he]
  show ob (ob (call (.fn f) vs s.h) fun r => some (St.mk (d.put s.f r.1) r.2 (s.h :: s.hs) s.cs)) (runOpsD call l) = r
  rw [hr]
  exact k
theorem runOpsD_n {o : COp} (hg : guardOk s.f g = some false) (ho : isE o = false) (k : runOpsD call l ⟨d.put s.f undefV, s.h, s.hs, s.cs⟩ = r) : runOpsD call (⟨d, o, args, g, lo, hi⟩ :: l) s = r := by
  rw [runOpsD_cons2]
  unfold COper.runD
  rw [show guardOk s.f (COper.mk d o args g lo hi).guard = some false from hg]
  show ob (some (St.mk (d.put s.f undefV) s.h (Bool.rec (motive := fun _ => List H) s.hs (s.h :: s.hs) (isE o)) s.cs)) (runOpsD call l) = r
  rw [ho]
  exact k
end
theorem rd_two {h : H} {id off : Nat} {x y : V} (e : h.rd id off 2 = some [x, y]) : h.rd id off 1 = some [x] ∧ h.rd id (off + 1) 1 = some [y] := by
  unfold H.rd at e ⊢
  obtain ⟨b, e1, e2⟩ := ob_some.1 e
  rw [e1]
  obtain ⟨e3, e4⟩ := oif_some.1 (show oif (Nat.blt off b.1) (ob (b.2.get off) fun v => ob (rdFrom b.2 b.1 1 (Nat.succ off)) fun r => some (v :: r)) = some [x, y] from e2)
  obtain ⟨v, e5, e6⟩ := ob_some.1 e4
  obtain ⟨q, e7, e8⟩ := ob_some.1 e6
  cases e8
  refine ⟨?_, e7⟩
  show oif (Nat.blt off b.1) (ob (b.2.get off) fun v => ob (rdFrom b.2 b.1 0 (Nat.succ off)) fun r => some (v :: r)) = some [x]
  rw [e3, e5]
  rfl
theorem checkAll_nil (hs : List H) : checkAll [] hs = true := rfl
theorem sameV_sl {a b c d f : Nat} {e : Bool} (n : Nat) : sameV (n + 1) (.sl a b c d e f) (.sl a b c d e f) = true := by
  show (Nat.beq a a && Nat.beq b b && Nat.beq c c && Nat.beq d d && beqB e e && Nat.beq f f) = true
  cases e <;> simp [beqB]
theorem sameV_int {k : IntKind} {m : Int} (n : Nat) : sameV (n + 1) (.int k m) (.int k m) = true := by
  show (eqK k k && eqI m m) = true
  rw [eqI_beq]
  cases k <;> simp [eqK]
theorem readsAll_same {c : Tc} {h : H} (hr : c.op.run c.vs h = some c.v) (hv : sameV 20 c.v c.v = true) : ∀ (hs : List H) (i : Nat), (∀ k ∈ hs, k = h) → readsAll c i hs = true
  | [], _, _ => rfl
  | k :: hs, i, hk => by
    show (Bool.rec (motive := fun _ => Bool) (Bool.rec (motive := fun _ => Bool) false (readsAll c (Nat.succ i) hs) (readsAt c k)) (readsAll c (Nat.succ i) hs) (Nat.blt i c.lo || Nat.blt c.hi i) : Bool) = true
    rw [readsAll_same hr hv hs (Nat.succ i) fun q hq => hk q (List.mem_cons_of_mem _ hq)]
    have : readsAt c k = true := by
      unfold readsAt
      rw [hk k List.mem_cons_self, hr]
      exact hv
    rw [this]
    cases (Nat.blt i c.lo || Nat.blt c.hi i) <;> rfl
theorem checkAll_two {c1 c2 : Tc} {h : H} {hs : List H} (h1 : c1.op.run c1.vs h = some c1.v) (v1 : sameV 20 c1.v c1.v = true) (h2 : c2.op.run c2.vs h = some c2.v) (v2 : sameV 20 c2.v c2.v = true) (hk : ∀ k ∈ hs, k = h) : checkAll [c1, c2] hs = true := by
  show (Bool.rec (motive := fun _ => Bool) false (Bool.rec (motive := fun _ => Bool) false true (readsAll c2 0 hs)) (readsAll c1 0 hs) : Bool) = true
  rw [readsAll_same h1 v1 hs 0 hk, readsAll_same h2 v2 hs 0 hk]
/-- One region that draws, then return. -/
theorem enter_of {call : CallT} {n : Nat} {pre : List COper} {l : List COper} {ps : Nat} {rs : List CRes} {vs : List V} {h : H} {f1 : F} {s : St} {v : V} (hp : Nat.beq (lenL vs) ps = true)
    (h1 : runOps call pre ⟨numbered vs 0, []⟩ h = some (f1, h)) (h2 : runOpsD call l ⟨clr f1, h, [], []⟩ = some s) (h3 : checkAll s.cs (revL s.hs [s.h]) = true) (h4 : resOf (clr s.f) s.h rs = some [v]) {h' : H} (h5 : s.h = h') :
    enter call n ⟨ps, .seq (.reg pre) (.seq (.regD l) .ret), rs⟩ vs h = some (v, h') := by
  subst h5
  unfold enter
  show oif (Nat.beq (lenL vs) ps) (ob (exec call false n (.seq (.reg pre) (.seq (.regD l) .ret)) ⟨numbered vs 0, []⟩ h) _) = _
  rw [hp]
  have e : exec call false n (.seq (.reg pre) (.seq (.regD l) .ret)) ⟨numbered vs 0, []⟩ h = some (.ret, clr s.f, s.h) := by
    show thenN (ob (runOps call pre ⟨numbered vs 0, []⟩ h) fun r => some (X.norm, clr r.1, r.2)) _ = _
    rw [h1]
    show thenN (ob (runOpsD call l ⟨clr f1, h, [], []⟩) fun s => oif (Bool.rec (motive := fun _ => Bool) (checkAll s.cs (revL s.hs [s.h])) true (quiet l)) (some (X.norm, clr s.f, s.h))) _ = _
    rw [h2]
    show thenN (oif (Bool.rec (motive := fun _ => Bool) (checkAll s.cs (revL s.hs [s.h])) true (quiet l)) (some (X.norm, clr s.f, s.h))) _ = _
    rw [h3]
    cases quiet l <;> rfl
  rw [e]
  show ob (resOf (clr s.f) s.h rs) (fun l => some (oneOrTup l, s.h)) = _
  rw [h4]
  rfl
theorem is_true {call : CallT} {n : Nat} {h : H} {id off lid lo ln cap es tid toff tn tcap tes a : Nat} {ex tex : Bool} {tk sg : V} (h51 : call (.fn 51) [.ptr id off, .int .i64 (Int.ofNat 0)] h = some (tk, h)) (h53 : call (.fn 53) [tk] h = some (sg, h))
    (h52 : call (.fn 52) [.sl lid lo ln cap ex es, sg] h = some (.bool true, h)) (hr : h.rd id off 2 = some [.sl tid toff tn tcap tex tes, .int .i64 (Int.ofNat a)]) :
    enter call n cf25 [.ptr id off, .sl lid lo ln cap ex es] h = some (.bool (Nat.blt a tn), h) := by
  obtain ⟨r0, r1⟩ := rd_two hr
  have l1 : ROp.run (.load false 1) [.ptr id (Nat.add off 1)] h = some (.int .i64 (Int.ofNat a)) := by
    show ob (h.rd id (off + 1) 1) (fun l => nthL l 0) = _
    rw [r1]; rfl
  have l0 : ROp.run (.load false 1) [.ptr id (Nat.add off 0)] h = some (.sl tid toff tn tcap tex tes) := by
    show ob (h.rd id off 1) (fun l => nthL l 0) = _
    rw [r0]; rfl
  unfold cf25
  apply enter_of
  case hp => rfl
  case h1 => exact rfl
  case h2 => exact runOpsD_p rfl rfl rfl <| runOpsD_p rfl rfl rfl <| runOpsD_c rfl rfl h51 <| runOpsD_c rfl rfl h53 <| runOpsD_c rfl rfl h52 <| runOpsD_p rfl rfl rfl <|
      runOpsD_p rfl rfl rfl <| runOpsD_p rfl rfl rfl <| runOpsD_p rfl rfl rfl <| runOpsD_r rfl rfl l1 <| runOpsD_p rfl rfl rfl <| runOpsD_p rfl rfl rfl <| runOpsD_p rfl rfl rfl <| runOpsD_r rfl rfl l0 <|
      runOpsD_p rfl rfl rfl <| runOpsD_p rfl rfl rfl <| runOpsD_p rfl rfl rfl <| runOpsD_p rfl rfl rfl <| runOpsD_nil _ _
  case h3 => exact checkAll_two l0 (sameV_sl 19) l1 (sameV_int 19) (fun k hk => by
      have : k ∈ [h, h, h, h] := hk
      simpa using this)
  case h4 => rfl
  case h5 => rfl
theorem is_false {call : CallT} {n : Nat} {h : H} {id off lid lo ln cap es : Nat} {ex : Bool} {tk sg : V} (h51 : call (.fn 51) [.ptr id off, .int .i64 (Int.ofNat 0)] h = some (tk, h)) (h53 : call (.fn 53) [tk] h = some (sg, h))
    (h52 : call (.fn 52) [.sl lid lo ln cap ex es, sg] h = some (.bool false, h)) :
    enter call n cf25 [.ptr id off, .sl lid lo ln cap ex es] h = some (.bool false, h) := by
  unfold cf25
  apply enter_of
  case hp => rfl
  case h1 => exact rfl
  case h2 => exact runOpsD_p rfl rfl rfl <| runOpsD_p rfl rfl rfl <| runOpsD_c rfl rfl h51 <| runOpsD_c rfl rfl h53 <| runOpsD_c rfl rfl h52 <| runOpsD_p rfl rfl rfl <|
      runOpsD_n rfl rfl <| runOpsD_n rfl rfl <| runOpsD_n rfl rfl <| runOpsD_n rfl rfl <| runOpsD_n rfl rfl <| runOpsD_n rfl rfl <| runOpsD_n rfl rfl <| runOpsD_n rfl rfl <|
      runOpsD_n rfl rfl <| runOpsD_n rfl rfl <| runOpsD_p rfl rfl rfl <| runOpsD_p rfl rfl rfl <| runOpsD_nil _ _
  case h3 => rfl
  case h4 => rfl
  case h5 => rfl
theorem tyOk_of (P : Program) (pin : List (Nat × Nat × Nat × Tr V)) : TyOk P ⟨P.info?, P.underlying, fun t => !P.stoodInHeld t && !P.eqGuardType P.depth t, pin⟩ := ⟨fun _ _ h => h, fun _ _ h => h, fun t h => by
  have h : (!P.stoodInHeld t && !P.eqGuardType P.depth t) = true := h
  simpa using h⟩
theorem tyOk : TyOk Tryz.prog TP := tyOk_of Tryz.prog _
theorem mixed : Tryz.prog.follows .mixedOrders = true := by kernel_rfl
theorem callN_prim {prim : FuncId → Option (List V → H → Option (V × H))} {tab : FuncId → Option CF} {n : Nat} {f : FuncId} {p : List V → H → Option (V × H)} {vs : List V} {h : H} {r : V × H} (e : prim f = some p) (k : p vs h = some r) : callN prim tab (n + 1) (.fn f) vs h = some r := by
  show (Option.rec (motive := fun _ => Option (V × H)) _ (fun g => Option.rec (motive := fun _ => Option (V × H)) (ob (tab f) fun cf => enter (callN prim tab n) 1000000 cf vs h) some (g vs h)) (prim f) : Option (V × H)) = _
  rw [e]
  show (Option.rec (motive := fun _ => Option (V × H)) _ some (p vs h) : Option (V × H)) = _
  rw [k]
theorem callN_tab {prim : FuncId → Option (List V → H → Option (V × H))} {tab : FuncId → Option CF} {n : Nat} {f : FuncId} {cf : CF} {vs : List V} {h : H} {r : Option (V × H)} (e : prim f = none) (t : tab f = some cf) (k : enter (callN prim tab n) 1000000 cf vs h = r) : callN prim tab (n + 1) (.fn f) vs h = r := by
  show (Option.rec (motive := fun _ => Option (V × H)) (ob (tab f) fun cf => enter (callN prim tab n) 1000000 cf vs h) _ (prim f) : Option (V × H)) = _
  rw [e]
  show ob (tab f) _ = _
  rw [t]
  exact k
theorem primI_ok : PrimOk Tryz.prog TP primI := by
  intro f p e vs h v h' k g w us r hG hv
  unfold primI at e
  split at e
  · rename_i q; subst q; cases e; exact peek_ok vs h v h' k g w us r hG hv
  · split at e
    · rename_i q; subst q; cases e; exact sign_ok vs h v h' k g w us r hG hv
    · split at e
      · rename_i q; subst q; cases e; exact containsS_ok vs h v h' k g w us r hG hv
      · cases e
theorem tabI_ok : TabOk Tryz.prog TP tabI := by
  intro f cf e
  unfold tabI at e
  split at e
  · rename_i q; subst q; cases e; exact ⟨_, Tryz.func25, beq_eq_false_iff_ne.1 (by decide), cf25_ok⟩
  · cases e
theorem peek_h {vs : List V} {h : H} {r : V × H} (e : peekP vs h = some r) : r.2 = h := by
  unfold peekP at e
  split at e
  · obtain ⟨l, _, e2⟩ := ob_some.1 e
    split at e2
    · obtain ⟨_, e4⟩ := oif_some.1 e2
      rw [brec_eq] at e4
      split at e4
      · obtain ⟨_, _, f2⟩ := ob_some.1 e4
        obtain ⟨_, _, f4⟩ := ob_some.1 f2
        cases f4; rfl
      · cases e4; rfl
    · cases e2
  · cases e
theorem sign_h {vs : List V} {h : H} {r : V × H} (e : signP vs h = some r) : r.2 = h := by
  unfold signP at e
  split at e
  · cases e; rfl
  · cases e
theorem contains_h {vs : List V} {h : H} {r : V × H} (e : containsSP vs h = some r) : r.2 = h := by
  unfold containsSP at e
  split at e
  · obtain ⟨_, e2⟩ := oif_some.1 e
    obtain ⟨_, _, e4⟩ := ob_some.1 e2
    obtain ⟨_, _, e6⟩ := ob_some.1 e4
    cases e6; rfl
  · cases e
theorem is_ok : PrimOf 25 isP := by
  intro vs h v h' e g w us r hG hv
  have main : callN primI tabI 2 (.fn 25) vs h = some (v, h') := by
    unfold isP at e
    split at e
    · rename_i id off lid lo ln cap ex es
      obtain ⟨⟨tk, h1⟩, e1, e2⟩ := ob_some.1 e
      obtain ⟨⟨sg, h2⟩, e3, e4⟩ := ob_some.1 e2
      obtain ⟨⟨bv, h3⟩, e5, e6⟩ := ob_some.1 e4
      obtain rfl : h1 = h := peek_h e1
      obtain rfl : h2 = h1 := sign_h e3
      obtain rfl : h3 = h2 := contains_h e5
      rw [asBool_eq] at e6
      cases bv <;> first | (cases e6; done) | skip
      rename_i b
      obtain ⟨l, e7, e8⟩ := ob_some.1 e6
      split at e8
      · obtain ⟨_, e9⟩ := oif_some.1 e8
        cases e9
        refine callN_tab rfl rfl ?_
        cases b with
        | true => exact is_true (callN_prim (n := 0) (f := 51) rfl e1) (callN_prim (n := 0) (f := 53) rfl e3) (callN_prim (n := 0) (f := 52) rfl e5) e7
        | false => exact is_false (callN_prim (n := 0) (f := 51) rfl e1) (callN_prim (n := 0) (f := 53) rfl e3) (callN_prim (n := 0) (f := 52) rfl e5)
      · cases e8
    · cases e
  exact (callN_ok tyOk mixed primI_ok tabI_ok 2).fn 25 vs h v h' main g w us r hG hv
/- The same for the kernel: no great matches. -/
noncomputable section
def tokK (l : List V) (c : V → Nat → Nat → Int → Option (V × H)) : Option (V × H) :=
  caseL l none fun x l1 => caseL l1 none fun y l2 => caseL l2 none fun z l3 => caseL l3 none fun u l4 => caseL l4
    (asInt (fun k1 k => asStr (fun n d => asInt (fun k2 _ => asInt (fun k3 _ => oif (eqKQ k1 .i64) (oif (eqKQ k2 .u64) (oif (eqKQ k3 .i64) (c (.agg l) n d k)))) u) z) y) x) fun _ _ => none
def isEnd (lid lo ln n c : Nat) (b : Bool) (h : H) : Option (V × H) := ob (h.rd lid lo ln) fun l => ob (amongP n c l) fun r => some (.bool (Bool.rec (motive := fun _ => Bool) false b r), h)
def isF (vs : List V) (h : H) : Option (V × H) :=
  caseL vs none fun x t => caseL t none fun y t2 => caseL t2 (asPtr (fun id off => asSl none (fun lid lo ln _ _ es => oif (Nat.beq es 1) (oif (Nat.blt ln 1099511627776)
    (ob (h.rd id off 2) fun l => caseL l none fun p l1 => caseL l1 none fun q l2 => caseL l2 (asSl none (fun tid toff tn _ _ tes => asInt (fun k m => oif (eqKQ k .i64) (Int.rec (motive := fun _ => Option (V × H)) (fun a =>
      oif (Nat.beq tes 4) (oif (Nat.blt tn 1099511627776) (oif (Nat.blt a 1099511627776)
        (Bool.rec (motive := fun _ => Option (V × H)) (isEnd lid lo ln 0 0 false h)
          (ob (h.rd tid (Nat.add toff (Nat.mul a 4)) 4) fun t => tokK t fun _ n c k => Bool.rec (motive := fun _ => Option (V × H)) (isEnd lid lo ln 0 0 true h) (isEnd lid lo ln n c true h) (Bool.rec (motive := fun _ => Bool) (eqI k 5) true (eqI k 6))) (Nat.blt a tn))))) (fun _ => none) m)) q) p) fun _ _ => none))) y) x) fun _ _ => none
end
theorem eqKQ_of {k j : IntKind} (h : eqKQ k j = true) : k = j := by cases k <;> cases j <;> first | rfl | cases h
theorem isEnd_some {lid lo ln n c : Nat} {b : Bool} {h : H} {r : V × H} (e : isEnd lid lo ln n c b h = some r) : ∃ l q, h.rd lid lo ln = some l ∧ amongP n c l = some q ∧ r = (.bool (Bool.rec (motive := fun _ => Bool) false b q), h) := by
  obtain ⟨l, e1, e2⟩ := ob_some.1 e
  obtain ⟨q, e3, e4⟩ := ob_some.1 e2
  cases e4
  exact ⟨l, q, e1, e3, rfl⟩
theorem isF_of {vs : List V} {h : H} {r : V × H} (e : isF vs h = some r) : isP vs h = some r := by
  cases vs with
  | nil => cases e
  | cons x t => cases t with
    | nil => cases e
    | cons y t2 => cases t2 with
      | cons _ _ => cases e
      | nil =>
        cases x <;> first | (cases e; done) | skip
        rename_i id off
        cases y <;> first | (cases e; done) | skip
        rename_i lid lo ln cap ex es
        obtain ⟨e1, e2⟩ := oif_some.1 (show oif (Nat.beq es 1) _ = some r from e)
        obtain ⟨e3, e4⟩ := oif_some.1 e2
        obtain ⟨l, e5, e6⟩ := ob_some.1 e4
        cases l with
        | nil => cases e6
        | cons p l1 => cases l1 with
          | nil => cases e6
          | cons q l2 => cases l2 with
            | cons _ _ => cases e6
            | nil =>
              cases p <;> first | (cases e6; done) | skip
              rename_i tid toff tn tcap tex tes
              cases q <;> first | (cases e6; done) | skip
              rename_i kd m
              obtain ⟨e7, e8⟩ := oif_some.1 (show oif (eqKQ kd .i64) _ = some r from e6)
              have := eqKQ_of e7
              subst this
              cases m with
              | negSucc _ => cases e8
              | ofNat a =>
                obtain ⟨e9, e10⟩ := oif_some.1 (show oif (Nat.beq tes 4) _ = some r from e8)
                obtain ⟨e11, e12⟩ := oif_some.1 e10
                obtain ⟨e13, e14⟩ := oif_some.1 e12
                have h4 : tes = 4 := by simpa using e9
                have h1 : es = 1 := by simpa using e1
                subst h4 h1
                have hpk : ∀ z, (Bool.rec (motive := fun _ => Option (V × H)) (some (zeroTok, h)) (ob (h.rd tid (Nat.add toff (Nat.mul a 4)) 4) fun t => ob (tok4 t) fun v => some (v, h)) (Nat.blt a tn) : Option (V × H)) = some z → peekP [.ptr id off, .int .i64 (.ofNat 0)] h = some z := by
                  intro z hz
                  show ob (h.rd id off 2) _ = _
                  rw [e5]
                  show oif (Nat.beq 4 4 && Nat.blt tn 1099511627776 && Nat.blt a 1099511627776) _ = _
                  rw [e11, e13]
                  exact hz
                have hct : ∀ n c l q, h.rd lid lo ln = some l → amongP n c l = some q → containsSP [.sl lid lo ln cap ex 1, .str n c] h = some (.bool q, h) := by
                  intro n c l q k1 k2
                  show oif (Nat.beq 1 1 && Nat.blt ln 1099511627776) _ = _
                  rw [e3]
                  show ob (h.rd lid lo ln) _ = _
                  rw [k1]
                  show ob (amongP n c l) _ = _
                  rw [k2]
                  rfl
                have fin : ∀ {tk : V} {n c : Nat} {b : Bool} {z : Bool}, peekP [.ptr id off, .int .i64 (.ofNat 0)] h = some (tk, h) → signP [tk] h = some (.str n c, h) → containsSP [.sl lid lo ln cap ex 1, .str n c] h = some (.bool z, h) → isP [.ptr id off, .sl lid lo ln cap ex 1] h = some (.bool (Bool.rec (motive := fun _ => Bool) false (Nat.blt a tn) z), h) := by
                  intro tk n c b z k1 k2 k3
                  show ob (peekP [.ptr id off, .int .i64 (.ofNat 0)] h) _ = _
                  rw [k1]
                  show ob (signP [tk] h) _ = _
                  rw [k2]
                  show ob (containsSP [.sl lid lo ln cap ex 1, .str n c] h) _ = _
                  rw [k3]
                  show ob (h.rd id off 2) _ = _
                  rw [e5]
                  rfl
                rw [brec_eq] at e14
                split at e14
                · rename_i ha
                  rw [ha] at hpk fin
                  obtain ⟨t, f1, f2⟩ := ob_some.1 e14
                  cases t with
                  | nil => cases f2
                  | cons x t => cases t with
                    | nil => cases f2
                    | cons y t => cases t with
                      | nil => cases f2
                      | cons z t => cases t with
                        | nil => cases f2
                        | cons u t => cases t with
                          | cons _ _ => cases f2
                          | nil =>
                            cases x <;> first | (cases f2; done) | skip
                            rename_i k1 k
                            cases y <;> first | (cases f2; done) | skip
                            rename_i n d
                            cases z <;> first | (cases f2; done) | skip
                            rename_i k2 m
                            cases u <;> first | (cases f2; done) | skip
                            rename_i k3 w
                            obtain ⟨g1, g2⟩ := oif_some.1 (show oif (eqKQ k1 .i64) _ = some r from f2)
                            obtain ⟨g3, g4⟩ := oif_some.1 g2
                            obtain ⟨g5, g6⟩ := oif_some.1 g4
                            have := eqKQ_of g1
                            subst this
                            have := eqKQ_of g3
                            subst this
                            have := eqKQ_of g5
                            subst this
                            have pk := hpk (.agg [.int .i64 k, .str n d, .int .u64 m, .int .i64 w], h) (by
                              show ob (h.rd tid (Nat.add toff (Nat.mul a 4)) 4) _ = _
                              rw [f1]
                              rfl)
                            have sg : signP [.agg [.int .i64 k, .str n d, .int .u64 m, .int .i64 w]] h = some (signOf k n d, h) := rfl
                            have hor : (Bool.rec (motive := fun _ => Bool) (eqI k 5) true (eqI k 6) : Bool) = (eqI k 6 || eqI k 5) := by cases eqI k 6 <;> rfl
                            have g6 : (Bool.rec (motive := fun _ => Option (V × H)) (isEnd lid lo ln 0 0 true h) (isEnd lid lo ln n d true h) (Bool.rec (motive := fun _ => Bool) (eqI k 5) true (eqI k 6)) : Option (V × H)) = some r := g6
                            rw [hor, brec_eq] at g6
                            split at g6
                            · rename_i hs
                              obtain ⟨l, q, c1, c2, rfl⟩ := isEnd_some g6
                              exact fin (b := true) pk (by rw [sg]; unfold signOf; rw [hs]) (hct _ _ l q c1 c2)
                            · rename_i hs
                              obtain ⟨l, q, c1, c2, rfl⟩ := isEnd_some g6
                              have hs : (eqI k 6 || eqI k 5) = false := by simpa using hs
                              exact fin (b := true) pk (by rw [sg]; unfold signOf; rw [hs]) (hct _ _ l q c1 c2)
                · rename_i ha
                  have ha : Nat.blt a tn = false := by
                    cases q : Nat.blt a tn with
                    | false => rfl
                    | true => exact absurd q ha
                  rw [ha] at hpk fin
                  obtain ⟨l, q, c1, c2, rfl⟩ := isEnd_some e14
                  exact fin (b := true) (hpk (zeroTok, h) rfl) rfl (hct 0 0 l q c1 c2)
theorem isF_ok : PrimOf 25 isF := fun vs h v h' e => is_ok vs h v h' (isF_of e)
end Ev
end Go.Proofs.YtchmfcjfdhokoaaGreatDoor
