/-
  The law's contract: CompileKnown() returns true.
-/
import Derived.Test.YtihflniehaaakaaGreatDoorCkLaw
import Derived.Test.YtihflniehaaakaaGreatDoorCkPart6
import Derived.Test.YtihflniehaaakaaGreatDoorCkPart7
import Derived.Test.YtihflniehaaakaaGreatDoorCkPart8
namespace Go.Proofs.YtihflniehaaakaaGreatDoor
set_option linter.unusedVariables false
set_option linter.unusedSimpArgs false
namespace Ev
theorem start0 {m N : Nat} {w : World} {g : G} (r : @WR (opN 0) TP g H0 w) (a : AllRo g H0) (hG : Glob TP g H0) {tmps : Array Value} (ht : tmps.size = N) : AtW [] (opN 0) m N w g w ⟨[], []⟩ H0 g ⟨tmps, []⟩ w := by
  refine ⟨@Seg.mk (opN 0) w g H0 w r hG (.refl w) (fun id b o z e _ => ?_), ⟨ht, fun t v e => ?_⟩, @Marks.nil (opN 0) _ _ _ _, .refl, fun p hp => by cases hp⟩
  · obtain ⟨k, hk⟩ := a.2 _ _ e
    obtain ⟨q, _⟩ := twoX hk
    rcases q with rfl | rfl
    · exact ⟨0, o, z, _, _, .inl rfl, e, h00X⟩
    · exact ⟨1, o, z, _, _, .inr rfl, e, h01X⟩
  · unfold rdn at e
    split at e <;> cases e
theorem last_out : ∃ f' h', exec (callS prC 300) false 1000000 (rest 19 cf3.code) ⟨fl19, []⟩ (litH lb19 9525) = some (.ret, f', h') ∧ lk f'.loc 0 = some (.bool true) := by
  have e := last_true
  unfold lastB at e
  cases hp : exec (callS prC 300) false 1000000 (rest 19 cf3.code) ⟨fl19, []⟩ (litH lb19 9525) with
  | none => rw [hp] at e; cases e
  | some r =>
    rw [hp] at e
    obtain ⟨x, f', h'⟩ := r
    cases x with
    | norm => cases e
    | exit _ => cases e
    | ret =>
      have e : (Option.rec (motive := fun _ => Bool) false (fun v => eqV v (.bool true)) (lk f'.loc 0) : Bool) = true := e
      cases hl : lk f'.loc 0 with
      | none => rw [hl] at e; cases e
      | some v =>
        rw [hl] at e
        exact ⟨f', h', rfl, by rw [hl, @eqV_eq (opN 0) _ _ e]⟩
set_option maxRecDepth 100000 in
theorem known {w : World} (b : @Base (opN 0) TP H0 w) : CallsIn Fence.wide 0 Tryz.prog 3 #[] w fun e w' => e = .returned (.bool true) ∧ Still w w' := by
  obtain ⟨g, r, a, hG⟩ := b
  obtain ⟨c, e1, e2⟩ := ob_some.1 (show ob Tryz.f3.body _ = some cf3 from cf3_ok)
  obtain ⟨_, e4⟩ := oif_some.1 e2
  obtain ⟨cc, e5, e6⟩ := ob_some.1 e4
  obtain ⟨rs, e7, e8⟩ := ob_some.1 e6
  have b9 : cc = cf3.code ∧ rs = cf3.results := by
    have e8 : (some (CF.mk _ cc rs) : Option CF) = some cf3 := e8
    injection e8 with e8
    rw [← e8]
    exact ⟨rfl, rfl⟩
  obtain ⟨rfl, rfl⟩ := b9
  have e5' : ∃ m, comp TP m Tryz.f3.ntmps c = some cf3.code ∧ mapO (resC TP m) Tryz.f3.results.toList = some cf3.results := ⟨_, e5, e7⟩
  clear e5 e4 e2 e6 e8 e7
  obtain ⟨m, e5, e7⟩ := e5'
  obtain ⟨f', h', f2, h2, l, fr2, hh2, k1, k2, k3, k4, k5⟩ := fin_out
  obtain ⟨fz, hz, x1, x2⟩ := last_out
  refine CallsIn.mono (callsIn_of_wp_marks (R := CRet [] (opN 0) (oneOrTup [.bool true]) hz w g w) Tryz.func3 e1 trivial ?_) fun e w' hr => ?_
  rotate_left
  · obtain ⟨u, g', rfl, hv, hs, _⟩ := hr
    cases hv
    exact ⟨rfl, @Seg.still (opN 0) _ _ _ _ hs⟩
  refine piece_ok (callC _) part2 e5 (start0 r a hG (by simp)) fun c2 g2 a2 w2 q2 p2 => ?_
  refine piece_ok (callC _) part9 q2 p2 fun c9 g9 a9 w9 q9 p9 => ?_
  refine piece_ok (callC _) part10 q9 p9 fun c10 g10 a10 w10 q10 p10 => ?_
  refine piece_ok (callC _) part11 q10 p10 fun c11 g11 a11 w11 q11 p11 => ?_
  refine piece_ok (callC _) part16 q11 p11 fun c16 g16 a16 w16 q16 p16 => ?_
  have q16 : comp TP m Tryz.f3.ntmps c16 = some (.seq (lft (rest 16 cf3.code)) (rest 17 cf3.code)) := q16.trans (congrArg some seq16)
  obtain ⟨x, y, rfl, hx, hy⟩ := @comp_seq_of (opN 0) _ _ _ _ _ q16
  rw [reg16] at hx
  refine wpIn_seq (reg_mid (S := keepS) (O := opN 0) (callC _) hx (vs := [.ptr 4718 0]) (fl := fl17) (prs := [(1857, 1857)]) (fr1 := ⟨fl16, [(84, .ptr 4718 0)]⟩) (h1 := litH lb16 4990) rfl rfl (by kernel_rfl) ?_ k4 p16 (fun g1 w1 us s1 v1 => ⟨Tryz.f12, Tryz.func12, by decide, rfl, run12 k1 k2 k3 s1 v1⟩) fun g17 a17 w17 p17 => ?_)
  · intro p q hpq
    have hm := lkN_mem hpq
    simp only [List.mem_singleton, Prod.mk.injEq] at hm
    obtain ⟨rfl, rfl⟩ := hm
    exact ⟨rfl, by simp [keepS]⟩
  obtain ⟨fq, hq, j1, j2, j3, j4⟩ := leftR_some k5
  cases j1
  have p17' := p17.dropR (.inl ⟨rfl, rfl⟩) j2 j3 j4
  refine piece_ok (callC _) part18 hy p17' fun c18 g18 a18 w18 q18 p18 => ?_
  refine piece_ok (callC _) part19 q18 p18 fun c19 g19 a19 w19 q19 p19 => ?_
  have er : resOf fz hz cf3.results = some [.bool true] := by
    show ob (lk fz.loc 0) _ = _
    rw [x2]
    rfl
  exact last_okW (callC _) (Nat.le_refl _) e7 q19 x1 er p19
end Ev
end Go.Proofs.YtihflniehaaakaaGreatDoor
