/-
  The law's contract at all arguments.
-/
import Derived.Test.YtogbcielgfidlaaGreatDoorMcDown
namespace Go.Proofs.YtogbcielgfidlaaGreatDoor
set_option linter.unusedVariables false
set_option linter.unusedSimpArgs false
set_option linter.unusedSectionVars false
set_option linter.unusedSimpArgs false
set_option linter.unusedVariables false
open Go.RowKit
/-- Is it a policy? -/
def okP (F M : Int) : Prop := 1 ≤ F ∧ F ≤ 1048576 ∧ 0 ≤ M
theorem still_al (w : World) (o : Obj) : Ev.Still w (w.alloc o) :=
  ⟨by show w.heap.size ≤ (w.heap.push o).size; simp, fun b hb => by show (w.heap.push o)[b]? = w.heap[b]?; rw [Array.getElem?_push, if_neg (by omega)], rfl, rfl, rfl⟩
theorem valid_no (F M : Int) (E : Bool) (h : ¬ okP F M) (w : World) : Calls Tryz.prog 4 #[.agg #[.int .i64 F, .int .i64 M, .bool E]] w fun e w' => e = .returned (.bool false) ∧ Ev.Still w w' := by
  unfold okP at h
  go_enter Tryz.func4, Tryz.ntmps4
  go_wp2
  all_goals
    go_ret
    refine ⟨?_, still_al _ _⟩
    first
    | rfl
    | (simp; omega)
    | (exfalso; omega)
namespace Ev
noncomputable section
def badP (vs : List V) (h : H) : Option (V × H) := match vs with
  | [.agg [.func (.yield 2) [] [], .func (.yield 3) [] [], .func (.yield _) [.nilm, .bool true] []]] => some (.bool false, h)
  | _ => none
def awk : Nat × Prim := (5, treeP [([], .v (.bool true))])
def callA : CallT := callS [(4, badP), awk] 300
def callO : CallT := callS [awk] 300
def argsA : List V := [.func (.yield 10) [] [], .func (.yield 11) [] [], .agg [.func (.yield 2) [] [], .func (.yield 3) [] [], ub]]
def argsO (o : Int) : List V := [.func (.yield 10) [] [], .func (.yield 11) [] [], .agg [sy 2 1 o, ul, ub]]
def lawE (call : CallT) (args : List V) : Option (V × H) := ob (exec call false 1000000 cf3.code ⟨numbered args 0, []⟩ H0) (retO cf3.results)
def trueO (o : Option (V × H)) : Bool := Option.rec (motive := fun _ => Bool) false (fun s => isT s.1) o
def badB : Bool := trueO (lawE callA argsA)
def offB (j : Nat) : Bool := trueO (lawE callO (argsO (Int.ofNat (Nat.mul 5000 j))))
def lastB : Bool := trueO (lawE callO (argsO 1043576))
end
set_option maxRecDepth 100000 in
theorem bad_true : badB = true := by kernel_rfl
set_option maxRecDepth 100000 in
theorem off_true : allN offB 208 1 = true := by kernel_rfl
set_option maxRecDepth 100000 in
theorem last_true : lastB = true := by kernel_rfl
theorem trueO_ok {o : Option (V × H)} (h : trueO o = true) : ∃ hE, o = some (.bool true, hE) := by
  cases o with
  | none => cases h
  | some s =>
    obtain ⟨v, hE⟩ := s
    have h : isT v = true := h
    unfold isT at h
    split at h
    · rw [h]; exact ⟨hE, rfl⟩
    · cases h
section
variable [Opq]
set_option linter.unusedSectionVars false
theorem start0 {m N : Nat} {w : World} {g : G} (r : WR TP g H0 w) (a : AllRo g H0) (hG : Glob TP g H0) {vs : List V} {us : List Value} (hv : VRs g vs us) (hN : us.length ≤ N) : AtW [] m N w g w ⟨numbered vs 0, []⟩ H0 g ⟨us.toArray ++ Array.replicate (N - us.toArray.size) undef, []⟩ w := by
  refine ⟨⟨r, hG, .refl w, fun id b o z e _ => ?_⟩, args_fr hv hN, Marks.nil, .refl, fun p hp => by cases hp⟩
  obtain ⟨k, hk⟩ := a.2 _ _ e
  obtain ⟨q, _⟩ := H0_two hk
  rcases q with rfl | rfl
  · exact ⟨0, o, z, _, _, .inl rfl, e, H0_0⟩
  · exact ⟨1, o, z, _, _, .inr rfl, e, H0_1⟩
def LawIs (w : World) (us : List Value) : Prop := CallsIn Fence.wide 0 Tryz.prog 3 us.toArray w fun e w' => e = .returned (.bool true) ∧ Still w w'
theorem law_enter {us : List Value} {w : World} (hl : us.length = 3) {hE : H} {g : G}
    (K : ∀ m code, comp TP m Tryz.f3.ntmps code = some cf3.code → mapO (resC TP m) Tryz.f3.results.toList = some cf3.results → code.wpIn (fen none) 0 Tryz.prog (bodyPostM Fence.wide 0 Tryz.prog Tryz.f3 (CRet [] (.bool true) hE w g w)) ⟨us.toArray ++ Array.replicate (Tryz.f3.ntmps - us.toArray.size) undef, []⟩ w) : LawIs w us := by
  obtain ⟨c, e1, e2⟩ := ob_some.1 (show ob Tryz.f3.body _ = some cf3 from cf3_ok)
  obtain ⟨_, e4⟩ := oif_some.1 e2
  obtain ⟨cc, e5, e6⟩ := ob_some.1 e4
  obtain ⟨rs, e7, e8⟩ := ob_some.1 e6
  have b9 : cc = cf3.code ∧ rs = cf3.results := by
    have e8 : (some (CF.mk _ cc rs) : Option CF) = some cf3 := e8
    injection e8 with e8
    rw [← e8]
    exact ⟨rfl, rfl⟩
  obtain ⟨rfl, rfl⟩ := b9
  have e5' : ∃ m, comp TP m Tryz.f3.ntmps c = some cf3.code ∧ mapO (resC TP m) Tryz.f3.results.toList = some cf3.results := ⟨_, e5, e7⟩
  clear e5 e4 e2 e6 e8 e7
  obtain ⟨m, e5, e7⟩ := e5'
  refine CallsIn.mono (callsIn_of_wp_marks (R := CRet [] (.bool true) hE w g w) Tryz.func3 e1 (by first | trivial | exact hl) (K m c e5 e7)) fun e w' hr => ?_
  obtain ⟨u, g', rfl, hv, hs, _⟩ := hr
  cases hv
  exact ⟨rfl, hs.still⟩
/-- The whole law in one run. -/
theorem law_whole {call : CallT} (hk : CallOk Tryz.prog TP call) {args : List V} (e : trueO (lawE call args) = true) {us : List Value} {w : World} (hb : Base TP H0 w) (hl : us.length = 3) (hv : ∀ g, VRs g args us) : LawIs w us := by
  obtain ⟨hE, e1⟩ := trueO_ok e
  obtain ⟨⟨x, f', h'⟩, e2, e3⟩ := ob_some.1 (show ob (exec call false 1000000 cf3.code ⟨numbered args 0, []⟩ H0) (retO cf3.results) = some (.bool true, hE) from e1)
  cases x with
  | norm => cases e3
  | exit _ => cases e3
  | ret =>
    obtain ⟨l, k1, k2⟩ := ob_some.1 (show ob (resOf f' h' cf3.results) (fun l => some (oneOrTup l, h')) = some (V.bool true, hE) from e3)
    have k2 := Option.some.inj k2
    have k3 : oneOrTup l = .bool true := congrArg Prod.fst k2
    have k4 : h' = hE := congrArg Prod.snd k2
    obtain ⟨g, r, a, hG⟩ := hb
    refine law_enter (hE := hE) (g := g) hl fun m code e5 e7 => ?_
    rw [← k3, ← k4]
    have hN : us.length ≤ Tryz.f3.ntmps := by rw [hl]; decide
    exact last_okW hk (Nat.le_refl _) e7 e5 e2 k1 (start0 r a hG (hv g) hN)
theorem awk_ok : PrimOf 5 (treeP [([], .v (.bool true))]) := awake_ok
theorem badP_ok {F M : Int} (v2 : Opq.val 2 = .int .i64 F) (v3 : Opq.val 3 = .int .i64 M) (h : ¬ okP F M) : PrimOf 4 badP := fun vs h' v h'' e g w us r hG hv => by
  unfold badP at e
  split at e
  · cases e
    obtain _ | ⟨k1, _ | _⟩ := hv
    cases k1 with
    | agg k1 =>
    obtain _ | ⟨k1, _ | ⟨k2, _ | ⟨k3, _ | _⟩⟩⟩ := k1
    cases k1 with
    | opq hu1 =>
    cases k2 with
    | opq hu2 =>
    cases k3 with
    | unb =>
    rw [← hu1, ← hu2, v2, v3]
    exact prim_fn Tryz.func4 (by decide) rfl ((valid_no F M _ h w).mono fun _ _ k => ⟨g, _, k.1, .bool _, Ext.ofStill r k.2⟩)
  · cases e
theorem law_bad {d b F M : Int} {E : Bool} (v10 : Opq.val 10 = .int .i64 d) (v11 : Opq.val 11 = .int .i64 b) (v2 : Opq.val 2 = .int .i64 F) (v3 : Opq.val 3 = .int .i64 M) (h : ¬ okP F M) {w : World} (hb : Base TP H0 w) : LawIs w [.int .i64 d, .int .i64 b, .agg #[.int .i64 F, .int .i64 M, .bool E]] :=
  law_whole (callS_ok (.cons rfl (badP_ok v2 v3 h) <| .cons rfl awk_ok .nil) 300) bad_true hb rfl fun g => .cons (.opq v10) (.cons (.opq v11) (.cons (.agg (.cons (.opq v2) (.cons (.opq v3) (.cons .unb .nil)))) .nil))
theorem law_off {d b F M o : Int} {E : Bool} (v10 : Opq.val 10 = .int .i64 d) (v11 : Opq.val 11 = .int .i64 b) (v2 : Opq.val 2 = .int .i64 (F - o)) (h1 : 1 ≤ F - o) (h2 : F - o ≤ 5000) (hM : 0 ≤ M) (e : trueO (lawE callO (argsO o)) = true) {w : World} (hb : Base TP H0 w) : LawIs w [.int .i64 d, .int .i64 b, .agg #[.int .i64 F, .int .i64 M, .bool E]] := by
  refine law_whole (callS_ok (.cons rfl awk_ok .nil) 300) e hb rfl fun g => .cons (.opq v10) (.cons (.opq v11) (.cons (.agg (.cons ?_ (.cons (.unl hM) (.cons .unb .nil)))) .nil))
  have := @VR.oqs _ g 2 1 o (F - o) v2 (by omega) h1 h2
  rwa [show F - o + o = F by omega] at this
end
end Ev
end Go.Proofs.YtogbcielgfidlaaGreatDoor
namespace Go.Proofs.YtogbcielgfidlaaGreatDoor
set_option linter.unusedVariables false
set_option linter.unusedSimpArgs false
set_option linter.unusedSectionVars false
namespace Ev
section
variable [Opq]
set_option linter.unusedSectionVars false
theorem kn1 {a c : Nat} {x y : Int} (h1 : ∀ B, Opq.val a = .int .i64 B → x ≤ B) (h2 : ∀ B, Opq.val c = .int .i64 B → y = B) : (⟨[(a, x)], [(c, y)]⟩ : Kn).Ok :=
  ⟨fun p hp B hB => by obtain rfl := List.mem_singleton.1 hp; exact h1 B hB, fun p hp B hB => by obtain rfl := List.mem_singleton.1 hp; exact h2 B hB⟩
theorem endB_ok {L : List (Nat × LB)} {q : Kn} {fl : AL} (h : endB L q fl = true) : ∃ v hE h3, frOkR q keepP fl fr1 = true ∧ endO L = some (v, hE) ∧ tailO v hE fl = some (.bool true, h3) := by
  obtain ⟨h1, h2⟩ := tt2_and.1 (show tt2 (frOkR q keepP fl fr1) (Option.rec (motive := fun _ => Bool) false (fun r => Option.rec (motive := fun _ => Bool) false (fun s => isT s.1) (tailO r.1 r.2 fl)) (endO L)) = true from h)
  cases he : endO L with
  | none => rw [he] at h2; cases h2
  | some r =>
    rw [he] at h2
    obtain ⟨h3, e3⟩ := trueO_ok (o := tailO r.1 r.2 fl) h2
    exact ⟨r.1, r.2, h3, h1, rfl, e3⟩
/-- The end that the two numbers lead to, and what the law makes of it. -/
theorem end_is {n k : Nat} (hn : Opq.val 0 = .int .i64 (n : Int)) (hb : Opq.val 1 = .int .i64 (k : Int)) : ∃ v hE q fl h3, EndIs n k v hE ∧ q.Ok ∧ frOkR q keepP fl fr1 = true ∧ tailO v hE fl = some (.bool true, h3) := by
  have ge0 : ∀ {a : Nat}, a ≤ n → ∀ B, Opq.val 0 = .int .i64 B → Int.ofNat a ≤ B := fun {a} ha B hB => by
    rw [hn] at hB; cases hB; exact Int.ofNat_le.2 ha
  have ge1 : ∀ {a : Nat}, a ≤ k → ∀ B, Opq.val 1 = .int .i64 B → Int.ofNat a ≤ B := fun {a} ha B hB => by
    rw [hb] at hB; cases hB; exact Int.ofNat_le.2 ha
  have eq0 : ∀ B, Opq.val 0 = .int .i64 B → Int.ofNat n = B := fun B hB => by rw [hn] at hB; cases hB; rfl
  have eq1 : ∀ B, Opq.val 1 = .int .i64 B → Int.ofNat k = B := fun B hB => by rw [hb] at hB; cases hB; rfl
  by_cases c1 : k ≤ n ∧ k ≤ 400
  · obtain ⟨v, hE, h3, k1, k2, k3⟩ := endB_ok (show endB (LS k) (qS k) (flS k) = true from spent_all k c1.2)
    exact ⟨v, hE, qS k, flS k, h3, .inl ⟨c1.1, c1.2, k2⟩, kn1 (ge0 c1.1) eq1, k1, k3⟩
  · by_cases c2 : n ≤ 400
    · have hk1 : n + 1 ≤ k := by omega
      by_cases c3 : n = 0
      · subst c3
        obtain ⟨v, hE, h3, k1, k2, k3⟩ := endB_ok (show endB (LT 0) (qT 0) (flT 0) = true from done0)
        exact ⟨v, hE, qT 0, flT 0, h3, .inr (.inl ⟨hk1, rfl, k2⟩), kn1 (ge1 hk1) eq0, k1, k3⟩
      · obtain ⟨v, hE, h3, k1, k2, k3⟩ := endB_ok (show endB (LU 0) (qT n) (flT n) = true from done_all n (by omega) c2)
        exact ⟨v, hE, qT n, flT n, h3, .inr (.inr (.inl ⟨hk1, by omega, c2, k2⟩)), kn1 (ge1 hk1) eq0, k1, k3⟩
    · have hk1 : 401 ≤ k := by omega
      obtain ⟨v, hE, h3, k1, k2, k3⟩ := endB_ok (show endB (LD 400 401 401) qL flL = true from lim_true)
      refine ⟨v, hE, qL, flL, h3, .inr (.inr (.inr ⟨by omega, hk1, k2⟩)), ⟨fun p hp B hB => ?_, fun p hp => by cases hp⟩, k1, k3⟩
      cases hp with
      | head => exact ge0 (a := 401) (by omega) B hB
      | tail _ hp =>
        obtain rfl := List.mem_singleton.1 hp
        exact ge1 (a := 401) hk1 B hB
theorem keepP_ok : ∀ p q, lkN keepP p = some q → p = q ∧ p ∈ keepS := fun p q h => by
  have := lkN_mem h
  simp only [keepP, List.mem_singleton, Prod.mk.injEq] at this
  obtain ⟨rfl, rfl⟩ := this
  exact ⟨rfl, by simp [keepS]⟩
theorem law_good {d b F M : Int} {E : Bool} (nn : NumOk d b F) (h1 : 1 ≤ F) (h2 : F ≤ 5000) (hM : 0 ≤ M) {w : World} (hB : Base TP H0 w) : LawIs w [.int .i64 d, .int .i64 b, .agg #[.int .i64 F, .int .i64 M, .bool E]] := by
  have hk := call0_ok nn
  obtain ⟨n, en⟩ : ∃ n : Nat, pick d 800 = (n : Int) := ⟨(pick d 800).toNat, (Int.toNat_of_nonneg (pick_le d 800 (by decide)).1).symm⟩
  obtain ⟨k, ek⟩ : ∃ k : Nat, pick b 1000 = (k : Int) := ⟨(pick b 1000).toNat, (Int.toNat_of_nonneg (pick_le b 1000 (by decide)).1).symm⟩
  have hn : Opq.val 0 = .int .i64 (n : Int) := by rw [← en]; exact nn.v0
  have hb : Opq.val 1 = .int .i64 (k : Int) := by rw [← ek]; exact nn.v1
  obtain ⟨v, hE, q, fl, h3, He, hq, k1, k3⟩ := end_is hn hb
  obtain ⟨⟨f2, h2'⟩, t1, t2⟩ := ob_some.1 (show ob (runOps call0 opR2 (Dst.put ⟨fl, []⟩ v (.t 92)) hE) (fun r => ob (exec call0 false 1000000 rest8 (clr r.1) r.2) (retO cf3.results)) = some (V.bool true, h3) from k3)
  obtain ⟨⟨x, f3, h3'⟩, t3, t4⟩ := ob_some.1 (show ob (exec call0 false 1000000 rest8 (clr f2) h2') (retO cf3.results) = some (V.bool true, h3) from t2)
  cases x with
  | norm => cases t4
  | exit _ => cases t4
  | ret =>
    obtain ⟨l, t5, t6⟩ := ob_some.1 (show ob (resOf f3 h3' cf3.results) (fun l => some (oneOrTup l, h3')) = some (V.bool true, h3) from t4)
    have t6 := Option.some.inj t6
    have t7 : oneOrTup l = .bool true := congrArg Prod.fst t6
    have t8 : h3' = h3 := congrArg Prod.snd t6
    obtain ⟨g, r, a, hG⟩ := hB
    refine law_enter (hE := h3) (g := g) rfl fun m code e5 e7 => ?_
    have hv : VRs g args0 [.int .i64 d, .int .i64 b, .agg #[.int .i64 F, .int .i64 M, .bool E]] := by
      refine .cons (.opq nn.v10) (.cons (.opq nn.v11) (.cons (.agg (.cons ?_ (.cons (.unl hM) (.cons .unb .nil)))) .nil))
      have := @VR.oqs _ g 2 1 0 F nn.v2 (by omega) h1 h2
      rwa [Int.add_zero] at this
    have hh : leftR [] q0 psA LA 28 flA (pre call0 1000000 7 cf3.code ⟨numbered args0 0, []⟩ H0) = true := head_true
    refine piece_ok hk q0_ok hh e5 (start0 r a hG hv (show 3 ≤ Tryz.f3.ntmps by decide)) fun c7 g7 a7 w7 q7 p7 => ?_
    have q7 : comp TP m Tryz.f3.ntmps c7 = some (.seq (lft (rest 7 cf3.code)) rest8) := q7.trans (congrArg some seqR)
    obtain ⟨x, y, rfl, hx, hy⟩ := comp_seq_of q7
    rw [regR] at hx
    refine wpIn_seq (reg_mid (S := keepS) hq hk hx (vs := [.ptr 2 0]) (fl := fl) (prs := keepP) (fr1 := fr1) (h1 := litH LA 28) rfl rfl k1 keepP_ok t1 p7 (fun g1 w1 us s1 v1 => ⟨Tryz.f15, Tryz.func15, by decide, rfl, run15 hk hn hb He s1 v1⟩) fun g8 a8 w8 p8 => ?_)
    rw [← t7, ← t8]
    exact last_okW hk (Nat.le_refl _) e7 hy t3 t5 p8
end
set_option warn.classDefReducibility false in
/-- The numbers behind what is only handed on. -/
def opqL (d b F M : Int) : Opq := ⟨fun k => .int .i64 (if k = 0 then pick d 800 else if k = 1 then pick b 1000 else if k = 2 then F else if k = 3 then M else if k = 10 then d else b), fun _ => .inl ⟨_, rfl⟩⟩
theorem law_all (d b F M : Int) (E : Bool) {w : World} (hB : ∀ O : Opq, @Base O TP H0 w) : LawIs w [.int .i64 d, .int .i64 b, .agg #[.int .i64 F, .int .i64 M, .bool E]] := by
  by_cases hp : okP F M
  · obtain ⟨h1, h2, h3⟩ := hp
    by_cases c1 : F ≤ 5000
    · exact @law_good (opqL d b F M) d b F M E (@NumOk.mk (opqL d b F M) d b F rfl rfl rfl rfl rfl) h1 c1 h3 w (hB _)
    · by_cases c2 : F ≤ 1045000
      · obtain ⟨j, hj⟩ : ∃ j : Nat, (j : Int) = (F - 1) / 5000 := ⟨((F - 1) / 5000).toNat, Int.toNat_of_nonneg (by omega)⟩
        refine @law_off (opqL d b (F - Int.ofNat (Nat.mul 5000 j)) M) d b F M (Int.ofNat (Nat.mul 5000 j)) E rfl rfl rfl ?_ ?_ h3 (allN_ok off_true j (by omega) (by omega)) w (hB _)
        · show 1 ≤ F - ((5000 * j : Nat) : Int)
          omega
        · show F - ((5000 * j : Nat) : Int) ≤ 5000
          omega
      · exact @law_off (opqL d b (F - 1043576) M) d b F M 1043576 E rfl rfl rfl (by omega) (by omega) h3 last_true w (hB _)
  · exact @law_bad (opqL d b F M) d b F M E rfl rfl rfl rfl hp w (hB _)
end Ev
end Go.Proofs.YtogbcielgfidlaaGreatDoor
