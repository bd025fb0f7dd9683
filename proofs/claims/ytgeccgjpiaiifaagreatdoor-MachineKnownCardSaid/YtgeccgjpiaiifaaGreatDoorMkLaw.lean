/-
  The law's contract.
-/
import Derived.Test.YtgeccgjpiaiifaaGreatDoorMkParts
namespace Go.Proofs.YtgeccgjpiaiifaaGreatDoor
namespace Ev
theorem segB_out {k : Nat} {c : CCode} {f : F} {h : H} {L : List (Nat × LB)} {n : Nat} {fl : AL} (e : segB k c f h L n fl = true) : ∃ f1 h1, pre (callS pr2 300) 1000000 k c f h = some (f1, h1) ∧ subOk L n h1 = true ∧ frOk fl f1 = true := by
  unfold segB at e
  cases hp : pre (callS pr2 300) 1000000 k c f h with
  | none => rw [hp] at e; cases e
  | some r =>
    rw [hp] at e
    obtain ⟨e1, e2⟩ := tt2_and.1 (show tt2 (subOk L n r.2) (frOk fl r.1) = true from e)
    exact ⟨r.1, r.2, rfl, e1, e2⟩
section
variable {m N : Nat} {w0 : World} {Q : Exit → Act → World → Prop}
theorem segK_ok {k : Nat} {c : CCode} {f : F} {h : H} {L : List (Nat × LB)} {n : Nat} {fl : AL} (e : segB k c f h L n fl = true) {code : Code} {g : G} {act : Act} {w : World} (hc : comp TP m N code = some c) (a : At m N w0 f h g act w)
    (K : ∀ code' g' a' w', comp TP m N code' = some (rest k c) → At m N w0 ⟨fl, []⟩ (litH L n) g' a' w' → code'.wpIn (fen none) 0 Tryz.prog Q a' w') : code.wpIn (fen none) 0 Tryz.prog Q act w := by
  obtain ⟨f1, h1, e1, e2, e3⟩ := segB_out e
  exact pre_ok (callS_ok pr2_ok 300) k hc e1 a fun code' g' a' w' q1 q2 => K code' g' a' w' q1 (q2.drop e2 e3)
end
theorem last_out : ∃ f' h', exec (callS pr2 300) false 1000000 (rest 6 cf3.code) ⟨fl6, []⟩ h6 = some (.ret, f', h') ∧ lk f'.loc 0 = some (.bool true) := by
  have e := last_true
  unfold lastB at e
  cases hp : exec (callS pr2 300) false 1000000 (rest 6 cf3.code) ⟨fl6, []⟩ h6 with
  | none => rw [hp] at e; cases e
  | some r =>
    rw [hp] at e
    obtain ⟨x, f', h'⟩ := r
    cases x with
    | norm => cases e
    | exit _ => cases e
    | ret =>
      have e : (Option.rec (motive := fun _ => Bool) false (fun v => eqV v (.bool true)) (lk f'.loc 0) : Bool) = true := e
      cases hl : lk f'.loc 0 with
      | none => rw [hl] at e; cases e
      | some v =>
        rw [hl] at e
        exact ⟨f', h', rfl, by rw [hl, eqV_eq e]⟩
theorem start {m N : Nat} {w : World} {g : G} (r : WR TP g H0 w) (a : AllRo g H0) (hG : Glob TP g H0) {tmps : Array Value} (ht : tmps.size = N) : At m N w ⟨[], []⟩ H0 g ⟨tmps, []⟩ w := by
  refine ⟨⟨r, hG, .refl w, fun id b o z e _ => ?_⟩, ⟨ht, fun t v e => ?_⟩, .nil⟩
  · obtain ⟨k, hk⟩ := a.2 _ _ e
    obtain ⟨q, _⟩ := H0_two hk
    rcases q with rfl | rfl
    · exact ⟨0, o, z, _, _, .inl rfl, e, H0_0⟩
    · exact ⟨1, o, z, _, _, .inr rfl, e, H0_1⟩
  · unfold rdn at e
    split at e <;> cases e
theorem known {w : World} (b : Base TP H0 w) : CallsIn Fence.wide 0 Tryz.prog 3 #[] w fun e w' => e = .returned (.bool true) ∧ Still w w' := by
  obtain ⟨g, r, a, hG⟩ := b
  obtain ⟨c, e1, e2⟩ := ob_some.1 (show ob Tryz.f3.body _ = some cf3 from cf3_ok)
  obtain ⟨_, e4⟩ := oif_some.1 e2
  obtain ⟨cc, e5, e6⟩ := ob_some.1 e4
  obtain ⟨rs, e7, e8⟩ := ob_some.1 e6
  have b9 : cc = cf3.code ∧ rs = cf3.results := by
    have e8 : (some (CF.mk _ cc rs) : Option CF) = some cf3 := e8
    injection e8 with e8
    rw [← e8]
    exact ⟨rfl, rfl⟩
  obtain ⟨rfl, rfl⟩ := b9
  have e5' : ∃ m, comp TP m Tryz.f3.ntmps c = some cf3.code ∧ mapO (resC TP m) Tryz.f3.results.toList = some cf3.results := ⟨_, e5, e7⟩
  clear e5 e4 e2 e6 e8 e7
  obtain ⟨m, e5, e7⟩ := e5'
  refine callsIn_of_wp_marks Tryz.func3 e1 trivial ?_
  refine segK_ok seg4 e5 (start r a hG (by simp)) fun c4 g4 a4 w4 q4 p4 => ?_
  refine segK_ok seg5 q4 p4 fun c5 g5 a5 w5 q5 p5 => ?_
  refine segK_ok seg6 q5 p5 fun c6 g6 a6 w6 q6 p6 => ?_
  obtain ⟨f', h', x1, x2⟩ := last_out
  refine last_ok (callS_ok pr2_ok 300) e7 q6 x1 ?_ p6
  show ob (lk f'.loc 0) _ = _
  rw [x2]
  rfl
end Ev
end Go.Proofs.YtgeccgjpiaiifaaGreatDoor
