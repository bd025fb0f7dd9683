/-
  Operations that read memory.
-/
import Derived.Test.YtihflniehaaakaaGreatDoorEvPure
import Derived.Laws.Cells
import Derived.Laws.StructEq
import Derived.Laws.BytesArg
namespace Go.Proofs.YtihflniehaaakaaGreatDoor
set_option linter.unusedVariables false
set_option linter.unusedSimpArgs false
namespace Ev
variable [Opq]
set_option linter.unusedSectionVars false
section
variable {P : Program} {T : Ty} {g : G} {ρ : Operand → Value} {h : H} {w : World}

/-- The operation yields the value in this world, and memory stays as it is. -/
def GivesAt (P : Program) (ρ : Operand → Value) (w : World) (op : Op) (u : Value) : Prop := ∀ o : Oper, o.op = op → (execOp ρ o).run P w = .ok (.value u) w

theorem cells_ok' (r : WR T g h w) {id : Nat} {x : Nat × Nat × Nat} {p : Nat × Tr V} (hg : g id = some x) (hc : h.cells id = some p) : Cells g w id p.1 p.2 := by
  unfold H.cells at hc
  obtain ⟨b, h1, h2⟩ := ob_some.1 hc
  cases b with
  | cells n cs up ch => cases h2; exact r.blk id x _ hg h1
  | ro n cs => cases h2; exact r.blk id x _ hg h1
  | _ => cases h2
theorem rdFrom_succ (cs : Tr V) (n k off : Nat) : rdFrom cs n (k + 1) off = oif (Nat.blt off n) (ob (cs.get off) fun v => ob (rdFrom cs n k (off + 1)) fun r => some (v :: r)) := rfl
theorem rdFrom_ok {o n : Nat} {c : Array Value} {cs : Tr V} (hc : ∀ j v, j < n → cs.get j = some v → ∃ u, c[o + j]? = some u ∧ VR g v u ∧ oneCell v = true) :
    ∀ (k off : Nat) (l : List V), rdFrom cs n k off = some l → ∃ us, VRs g l us ∧ us.length = k ∧ (∀ j u, us[j]? = some u → c[o + off + j]? = some u) ∧ (∀ v, v ∈ l → oneCell v = true) ∧ (0 < k → off + k ≤ n) := by
  intro k
  induction k with
  | zero => intro off l e; cases e; exact ⟨[], .nil, rfl, by simp, by simp, by omega⟩
  | succ k ih =>
    intro off l e
    rw [rdFrom_succ] at e
    obtain ⟨h1, h2⟩ := oif_some.1 e
    obtain ⟨v, h3, h4⟩ := ob_some.1 h2
    obtain ⟨r, h5, h6⟩ := ob_some.1 h4
    cases h6
    have hlt : off < n := by simpa using h1
    obtain ⟨u, k1, k2, k3⟩ := hc off v hlt h3
    obtain ⟨us, m1, m2, m3, m4, m5⟩ := ih (off + 1) r h5
    refine ⟨u :: us, .cons k2 m1, by simp [m2], fun j x hx => ?_, fun x hx => ?_, fun _ => ?_⟩
    · cases j with
      | zero => simp at hx; subst hx; simpa using k1
      | succ j => rw [show o + off + (j + 1) = o + (off + 1) + j by omega]; exact m3 j x (by simpa using hx)
    · cases hx with
      | head => exact k3
      | tail _ hx => exact m4 x hx
    · by_cases hk : 0 < k
      · have := m5 hk; omega
      · omega
/-- What is read there. -/
theorem rd_ok (r : WR T g h w) {id off k b o z : Nat} {l : List V} (hg : g id = some (b, o, z)) (e : h.rd id off k = some l) :
    ∃ us, VRs g l us ∧ us.length = k ∧ (∀ j u, us[j]? = some u → w.cell? ⟨b, o + off + j, none⟩ = some u) ∧ (∀ v, v ∈ l → oneCell v = true) := by
  unfold H.rd at e
  obtain ⟨p, h1, h2⟩ := ob_some.1 e
  obtain ⟨b', o', z', c, t, k1, k2, k3, k4, k5, k6⟩ := cells_ok' r hg h1
  rw [hg] at k1
  cases k1
  obtain ⟨us, m1, m2, m3, m4, _⟩ := rdFrom_ok k6 k off l h2
  exact ⟨us, m1, m2, fun j u hj => by simp [World.cell?, k2, m3 j u hj], m4⟩
theorem gives_load (hT : TyOk P T) (r : WR T g h w) {t : TypeId} {a : Bool} {n : Nat} {x : Operand} {vs : List V} {v : V} (h1 : aggT T t = some a) (h2 : sizeT T t = some n) (hv : VRs g vs [ρ x]) (hr : ROp.run (.load a n) vs h = some v) :
    ∃ u, VR g v u ∧ (loadVar t (match ρ x with | .pointer (some p) => p | _ => default)).run P w = .ok u w ∧ GivesAt P ρ w (.load t x) u := by
  obtain ⟨y, rfl, hy⟩ := hv.one
  have main : ∀ {id off : Nat}, y = .ptr id off → ∃ b o z, g id = some (b, o, z) ∧ ρ x = .pointer (some ⟨b, o + off, none⟩) := by
    intro id off e
    subst e
    cases hx : ρ x <;> rw [hx] at hy <;> cases hy
    exact ⟨_, _, _, ‹_›, rfl⟩
  cases a with
  | false =>
    cases y with
    | ptr id off =>
      obtain ⟨b, o, z, hg, hx⟩ := main rfl
      obtain ⟨l, e1, e2⟩ := ob_some.1 (show ob (h.rd id off 1) (fun l => nthL l 0) = some v from hr)
      obtain ⟨us, m1, m2, m3, _⟩ := rd_ok r hg e1
      rw [nthL_eq] at e2
      obtain ⟨u, k1, k2⟩ := m1.get e2
      have hc := m3 0 u k1
      simp only [Nat.add_zero] at hc
      have run : (loadVar t ⟨b, o + off, none⟩).run P w = .ok u w := by simp [loadVar, run_isAgg' hT h1, hc]
      refine ⟨u, k2, by rw [hx]; exact run, fun o' e' => ?_⟩
      simp [execOp, e', hx, Instr.loadAt, Instr.sureAddr, run]
    | _ => cases hr
  | true =>
    cases y with
    | ptr id off =>
      obtain ⟨b, o, z, hg, hx⟩ := main rfl
      obtain ⟨l, e1, e2⟩ := ob_some.1 (show ob (h.rd id off n) (fun l => some (.agg l)) = some v from hr)
      cases e2
      obtain ⟨us, m1, m2, m3, _⟩ := rd_ok r hg e1
      have hc : ∀ j u, us[j]? = some u → w.cell? ((⟨b, o + off, none⟩ : Addr).add j) = some u := by
        intro j u hj
        rw [Addr.add_lit]
        exact m3 j u hj
      have run : (loadVar t ⟨b, o + off, none⟩).run P w = .ok (.agg us.toArray) w := by
        have := run_loadCells_list (P := P) (w := w) ⟨b, o + off, none⟩ us hc
        rw [m2] at this
        simp [loadVar, run_isAgg' hT h1, run_sizeOf' hT h2, this]
      refine ⟨_, .agg m1, by rw [hx]; exact run, fun o' e' => ?_⟩
      simp [execOp, e', hx, Instr.loadAt, Instr.sureAddr, run]
    | _ => cases hr
theorem alone_ok (r : WR T g h w) {id b o z : Nat} (hg : g id = some (b, o, z)) (ha : h.alone id = true) : ∃ k c t, h.blk id = some k ∧ k.live = true ∧ k.kin = some (none, false) ∧ w.heap[b]? = some (.cells c t (0, 0)) := by
  unfold H.alone at ha
  cases hb : h.blk id with
  | none => rw [hb] at ha; cases ha
  | some k =>
    rw [hb] at ha
    cases k with
    | cells n cs up ch =>
      cases up with
      | some _ => cases ha
      | none => cases ch with
        | true => cases ha
        | false =>
          obtain ⟨b', o', z', c, t, k1, k2, _⟩ := r.blk id _ _ hg hb
          rw [hg] at k1
          cases k1
          exact ⟨_, c, t, rfl, rfl, rfl, k2⟩
    | _ => cases ha
theorem sameAddr_same {a b : Addr} (hb : a.block = b.block) : (sameAddr a b).run P w = .ok (a == b) w := by
  simp [sameAddr, hb]
theorem sameAddr_diff {a b : Addr} {c c' : Array Value} {t t' : TypeId} (hb : a.block ≠ b.block) (h1 : w.heap[a.block]? = some (.cells c t (0, 0))) (h2 : w.heap[b.block]? = some (.cells c' t' (0, 0))) : (sameAddr a b).run P w = .ok false w := by
  have f1 : ∀ o, w.frozen? ⟨a.block, o, none⟩ = false := fun o => by simp [World.frozen?, h1]
  have f2 : ∀ o, w.frozen? ⟨b.block, o, none⟩ = false := fun o => by simp [World.frozen?, h2]
  have g1 : w.frozen? a = false := by simp [World.frozen?, h1]
  have g2 : w.frozen? b = false := by simp [World.frozen?, h2]
  have s1 : w.shape? a.block = some (t, c.size) := by simp [World.shape?, h1]
  have s2 : w.shape? b.block = some (t', c'.size) := by simp [World.shape?, h2]
  simp [sameAddr, hb, g1, noView, viewAt, s1, s2, mayBeOne, stringish, g2, f1, f2]
set_option maxHeartbeats 1000000 in
theorem eq1_ok (hT : TyOk P T) (r : WR T g h w) {t : TypeId} {k : Pk} {x y : V} {a b : Value} {e : Bool} (hk : plainT T t = some k) (ha : VR g x a) (hb : VR g y b) (hr : eq1 h k x y = some e) (d : Nat) : (Op.equalIn (d + 1) t a b).run P w = .ok e w := by
  obtain ⟨ds, h1, h2⟩ := ob_some.1 hk
  have hu := hT.under _ _ h1
  unfold eq1 at hr
  split at hr
  · obtain ⟨q1, q2⟩ := oif_some.1 hr
    cases q2
    obtain rfl := eqK_eq.1 q1
    rw [ha.int_inv, hb.int_inv, eqI_eq]
    cases ds <;> first | (cases h2; done) | exact run_equalIn_int w d t _ _ _ _ hu | (obtain ⟨_, _, h3⟩ := ob_some.1 h2; cases h3)
  · cases hr
    cases ha
    cases hb
    rw [size_eq, size_eq, strEq_eq]
    cases ds <;> first | (cases h2; done) | (rw [run_equalIn_string w d t _ _ hu, toList_eq, toList_eq]) | (obtain ⟨_, _, h3⟩ := ob_some.1 h2; cases h3)
  · cases hr
    rw [ha.bool_inv, hb.bool_inv, beqB_eq]
    cases ds <;> first | (cases h2; done) | exact run_equalIn_bool w d t _ _ hu | (obtain ⟨_, _, h3⟩ := ob_some.1 h2; cases h3)
  · cases hr
    cases ha
    cases hb
    cases ds <;> first | (cases h2; done) | (simp [Op.equalIn, run_underlying hu]; done)
  · cases hr
    cases ha
    cases hb
    cases ds <;> first | (cases h2; done) | (simp [Op.equalIn, run_underlying hu]; done)
  · cases hr
    cases ha
    cases hb
    cases ds <;> first | (cases h2; done) | (simp [Op.equalIn, run_underlying hu]; done)
  · rename_i i off j off'
    cases ds with
    | pointer el =>
      obtain ⟨n, h3, h4⟩ := ob_some.1 h2
      obtain ⟨hs, hp⟩ := posT_size h3
      have hn : ¬ n = 0 := by omega
      cases ha
      cases hb
      rename_i b o z hg b' o' z' hg'
      have main : ∀ q, (sameAddr ⟨b, o + off, none⟩ ⟨b', o' + off', none⟩).run P w = .ok q w → (Op.equalIn (d + 1) t (.pointer (some ⟨b, o + off, none⟩)) (.pointer (some ⟨b', o' + off', none⟩))).run P w = .ok q w := by
        intro q hq
        simp [Op.equalIn, run_underlying hu, run_sizeOf' hT hs, hn, hq]
      rw [brec_eq] at hr
      split at hr
      · rename_i hij
        obtain rfl : i = j := by simpa using hij
        cases hr
        rw [hg] at hg'
        cases hg'
        rw [main _ (sameAddr_same rfl)]
        congr 1
        apply Bool.eq_iff_iff.2
        simp
      · rename_i hij
        have hij : i ≠ j := by simpa using hij
        obtain ⟨q1, q2⟩ := oif_some.1 hr
        obtain ⟨q3, q4⟩ := oif_some.1 q2
        cases q4
        obtain ⟨k1, c1, t1, m1, m2, m3, m4⟩ := alone_ok r hg q1
        obtain ⟨k2, c2, t2, n1, n2, n3, n4⟩ := alone_ok r hg' q3
        refine main _ (sameAddr_diff ?_ m4 n4)
        intro hbb
        simp only at hbb
        subst hbb
        exact r.lone hij hg hg' m1 n1 m2 n2 (.inr m3) (.inl (by cases hx : Blk.isRo _ with | false => rfl | true => rw [Blk.isRo_kin hx] at m3; cases m3))
    | _ => cases h2
  · cases hr
theorem plainT_agg {t : TypeId} {k : Pk} (hk : plainT T t = some k) : aggT T t = some false := by
  obtain ⟨d, h1, h2⟩ := ob_some.1 hk
  unfold aggT
  rw [h1]
  cases d <;> first | rfl | cases h2
theorem flatFrom_cons {f : Field} {fs : List Field} {i : Nat} {ks : List Pk} (h : flatFrom T (f :: fs) i = some ks) : f.offset = i ∧ f.name ≠ "_" ∧ ∃ k ks', plainT T f.type = some k ∧ flatFrom T fs (i + 1) = some ks' ∧ ks = k :: ks' := by
  obtain ⟨h1, h2⟩ := oif_some.1 (show oif (Nat.beq f.offset i && !(f.name == "_")) (ob (plainT T f.type) fun k => ob (flatFrom T fs (i + 1)) fun ks => some (k :: ks)) = some ks from h)
  obtain ⟨k, h3, h4⟩ := ob_some.1 h2
  obtain ⟨ks', h5, h6⟩ := ob_some.1 h4
  cases h6
  simp at h1
  exact ⟨h1.1, h1.2, k, ks', h3, h5, rfl⟩
theorem eqL_ok (hT : TyOk P T) (r : WR T g h w) (d : Nat) (X Y : List Value) : ∀ (fs : List Field) (i : Nat) (ks : List Pk) (as bs : List V) (e : Bool), flatFrom T fs i = some ks → VRs g as (X.drop i) → VRs g bs (Y.drop i) → eqL h ks as bs = some e →
    (Op.eqFields (d + 1) X.toArray Y.toArray fs).run P w = .ok e w := by
  intro fs
  induction fs with
  | nil =>
    intro i ks as bs e h1 h2 h3 h4
    cases h1
    cases as with
    | nil => cases bs with
      | nil => cases h4; simp [Op.eqFields]
      | cons => cases h4
    | cons => cases h4
  | cons f fs ih =>
    intro i ks as bs e h1 h2 h3 h4
    obtain ⟨rfl, hn, k, ks', h5, h6, rfl⟩ := flatFrom_cons h1
    cases as with
    | nil => cases h4
    | cons a as => cases bs with
      | nil => cases h4
      | cons b bs =>
        obtain ⟨c, q1, q2⟩ := ob_some.1 (show ob (eq1 h k a b) (fun c => Bool.rec (motive := fun _ => Option Bool) (some false) (eqL h ks' as bs) c) = some e from h4)
        generalize hX : X.drop f.offset = X' at h2
        generalize hY : Y.drop f.offset = Y' at h3
        cases h2 with
        | cons ha ta => cases h3 with
          | cons hb tb =>
            rename_i u us v vs
            have x1 : X[f.offset]? = some u := by have := congrArg (fun l => l[0]?) hX; simpa using this
            have y1 : Y[f.offset]? = some v := by have := congrArg (fun l => l[0]?) hY; simpa using this
            have x2 : X.drop (f.offset + 1) = us := by have := congrArg List.tail hX; simpa using this
            have y2 : Y.drop (f.offset + 1) = vs := by have := congrArg List.tail hY; simpa using this
            have ag := plainT_agg h5
            have p1 : ∀ w, (Go.part f.type X.toArray f.offset).run P w = .ok u w := fun w => by simp [Go.part, run_isAgg' hT ag, x1]
            have p2 : ∀ w, (Go.part f.type Y.toArray f.offset).run P w = .ok v w := fun w => by simp [Go.part, run_isAgg' hT ag, y1]
            have q := eq1_ok hT r h5 ha hb q1 d
            simp only [Op.eqFields]
            rw [if_pos hn]
            simp only [Sem.run_bind, p1, p2, Result.andThen_ok, q]
            cases c with
            | false => cases q2; simp
            | true =>
              have := ih (f.offset + 1) ks' as bs e h6 (x2 ▸ ta) (y2 ▸ tb) q2
              simpa using this
/-- Two values are compared as their type says. -/
theorem eqKey_ok (hT : TyOk P T) (r : WR T g h w) {t : TypeId} {k : Kk} {x y : V} {a b : Value} {e : Bool} (hk : keyT T t = some k) (ha : VR g x a) (hb : VR g y b) (hr : eqKey h k x y = some e) : (Op.equal t a b).run P w = .ok e w := by
  obtain ⟨d, h1, h2⟩ := ob_some.1 hk
  have hu := hT.under _ _ h1
  have one : ∀ {k' : Pk}, plainT T t = some k' → k = .one k' → (Op.equal t a b).run P w = .ok e w := by
    intro k' h3 h4
    subst h4
    exact eq1_ok hT r h3 ha hb (by cases x <;> cases y <;> exact hr) 9999
  cases d with
  | struct fs =>
    obtain ⟨h3, h4⟩ := oif_some.1 h2
    obtain ⟨ks, h5, h6⟩ := ob_some.1 h4
    cases h6
    cases x with
    | agg xs => cases y with
      | agg ys =>
        cases ha
        cases hb
        rename_i us hus vs hvs
        have hf : P.fieldsOf t = fs := by simp [Program.fieldsOf, hu]
        show (Op.equalIn (9999 + 1) t _ _).run P w = _
        rw [run_equalIn_agg w 9999 t _ _ (by rw [hf]; exact hu) (hT.free t h3).1, hf]
        exact eqL_ok hT r 9998 us vs fs.toList 0 ks xs ys e h5 (by simpa using hus) (by simpa using hvs) hr
      | _ => cases hr
    | _ => cases hr
  | _ =>
    obtain ⟨k', h3, h4⟩ := ob_some.1 h2
    exact one h3 (Option.some.inj h4).symm
theorem keyT_kind {t : TypeId} {d : TypeDesc} {k : Kk} (h1 : T.under t = some d) (hk : keyT T t = some k) : (∃ fs ks, d = .struct fs ∧ k = .agg ks ∧ T.free t = true) ∨ ((∀ fs, d ≠ .struct fs) ∧ ∃ q, k = .one q ∧ plainT T t = some q) := by
  obtain ⟨d', h2, h3⟩ := ob_some.1 hk
  rw [h1] at h2
  cases h2
  cases d with
  | struct fs =>
    obtain ⟨hf, h4⟩ := oif_some.1 h3
    obtain ⟨ks, h5, h6⟩ := ob_some.1 h4
    cases h6
    exact .inl ⟨fs, ks, rfl, rfl, hf⟩
  | _ =>
    obtain ⟨k', h4, h5⟩ := ob_some.1 h3
    cases h5
    exact .inr ⟨(by intro fs e; cases e), k', rfl, h4⟩
theorem gives_eq (hT : TyOk P T) (r : WR T g h w) {neg : Bool} {t t' : TypeId} {d : TypeDesc} {k : Kk} {x y : Operand} {a b v : V} (h1 : T.under t = some d) (hd : (∃ e, d = .pointer e) ∨ ∃ fs, d = .struct fs) (hk : keyT T t = some k)
    (ha : VR g a (ρ x)) (hb : VR g b (ρ y)) (hr : ROp.run (.eq k neg) [a, b] h = some v) : ∃ u, VR g v u ∧ GivesAt P ρ w (.binOp (Bool.rec (motive := fun _ => BinOp) .eql .neq neg) t x y t') u := by
  obtain ⟨e, h2, h3⟩ := ob_some.1 (show ob (eqKey h k a b) (fun e => some (.bool (Bool.rec (motive := fun _ => Bool) e (!e) neg))) = some v from hr)
  cases h3
  have he := eqKey_ok hT r hk ha hb h2
  refine ⟨_, .bool _, fun o e' => ?_⟩
  have bin : ∀ {u q : Value}, ρ x = u → ρ y = q → ((∃ c, u = .pointer c) ∨ (∃ c c', u = .agg c ∧ q = .agg c')) → (binOp (Bool.rec (motive := fun _ => BinOp) .eql .neq neg) t (ρ x) (ρ y)).run P w = .ok (.bool (Bool.rec (motive := fun _ => Bool) e (!e) neg)) w := by
    intro u q hp hq hc
    rw [hp, hq] at he ⊢
    rcases hc with ⟨c, rfl⟩ | ⟨c, c', rfl, rfl⟩
    · cases neg <;> cases q <;> simp [binOp, he]
    · cases neg <;> simp [binOp, he]
  rcases keyT_kind h1 hk with ⟨fs, ks, rfl, rfl, hf⟩ | ⟨hn, pk, rfl, hp⟩
  · cases a with
    | agg as => cases b with
      | agg bs =>
        cases hx : ρ x <;> rw [hx] at ha <;> cases ha
        cases hy : ρ y <;> rw [hy] at hb <;> cases hb
        have := bin hx hy (.inr ⟨_, _, rfl, rfl⟩)
        rw [hx, hy] at this
        simp only [execOp, e', hx, hy, Sem.run_bind]
        rw [run_eqGuard_agg w _ t x y _ _ (hT.free t hf).2]
        simp [this]
      | _ => cases h2
    | _ => cases h2
  · have hpt : ∃ c, ρ x = .pointer c := by
      rcases hd with ⟨el, rfl⟩ | ⟨fs, rfl⟩
      · obtain ⟨d', q1, q2⟩ := ob_some.1 hp
        rw [h1] at q1
        cases q1
        obtain ⟨_, _, q3⟩ := ob_some.1 q2
        cases q3
        cases a <;> first
          | (cases hx : ρ x <;> rw [hx] at ha <;> cases ha <;> exact ⟨_, rfl⟩)
          | (cases b <;> cases h2)
      · exact absurd rfl (hn fs)
    obtain ⟨c, hx⟩ := hpt
    have := bin hx rfl (.inl ⟨c, rfl⟩)
    simp only [execOp, e', Sem.run_bind]
    rw [eqGuard_run (by rw [hx]; intro cs h; cases h) (by rw [hx]; intro h; cases h)]
    simp [this]
theorem entries_ok (r : WR T g h w) {id b o z : Nat} {es : List (V × V)} (hg : g id = some (b, o, z)) (he : h.entries id = some es) : ∃ m c, w.heap[b]? = some (.map m c) ∧ Ents g es m.toList ∧ ∃ od, h.blk id = some (.map es od) ∧ h.ord id = od ∧ (od = true → Born m.toList c) := by
  unfold H.entries at he
  obtain ⟨k, h1, h2⟩ := ob_some.1 he
  cases k with
  | map es' od =>
    cases h2
    obtain ⟨b', o', z', m, c, k1, k2, k3, k4⟩ := r.blk id _ _ hg h1
    rw [hg] at k1
    cases k1
    exact ⟨m, c, k2, k3, od, h1, by unfold H.ord; rw [h1], k4⟩
  | _ => cases h2
theorem run_getObj_map {b : Nat} {m : Array MapEntry} {c : Nat} (hb : w.heap[b]? = some (.map m c)) : (getObj b).run P w = .ok (.map m c) w := by
  simp [getObj, Sem.run, hb]
theorem gives_lenMap (hT : TyOk P T) (r : WR T g h w) {x : Operand} {t k e : TypeId} {at' : Array TypeId} {a v : V} (h0 : at'[0]? = some t) (h1 : T.under t = some (.map k e)) (ha : VR g a (ρ x)) (hr : ROp.run .lenMap [a] h = some v) :
    ∃ u, VR g v u ∧ ∀ ty : TypeId, (Builtin.len_ at' ty #[ρ x]).run P w = .ok u w := by
  cases a with
  | nilm =>
    cases hr
    cases hx : ρ x <;> rw [hx] at ha <;> cases ha
    exact ⟨_, .int .i64 _, fun ty => by simp [Builtin.len_, h0, run_underlying' hT h1, goInt]⟩
  | map id =>
    obtain ⟨es, h2, h3⟩ := ob_some.1 (show ob (h.entries id) (fun es => some (.int .i64 (Int.ofNat (lenL es)))) = some v from hr)
    cases h3
    cases hx : ρ x <;> rw [hx] at ha <;> cases ha
    rename_i b o z hg
    obtain ⟨m, c, k1, k2, _⟩ := entries_ok r hg h2
    refine ⟨_, .int .i64 _, fun ty => ?_⟩
    have hl := k2.1.length
    simp at hl
    simp [Builtin.len_, h0, run_underlying' hT h1, goInt, run_getObj_map k1, lenL_eq, hl]
  | _ => cases hr
theorem sameNow_eq (hT : TyOk P T) {t : TypeId} {d : TypeDesc} {k : Kk} {x y : V} {a b : Value} {e e' : Bool} (h1 : T.under t = some d) (hk : keyT T t = some k) (ha : VR g x a) (hb : VR g y b) (hr : eqKey h k x y = some e) (hs : Instr.sameNow d a b = some e') : e' = e := by
  have _ := hT
  rcases keyT_kind h1 hk with ⟨fs, ks, rfl, rfl, hf⟩ | ⟨hn, q, rfl, hp⟩
  · cases a <;> cases b <;> cases hs
  · obtain ⟨d', q1, q2⟩ := ob_some.1 hp
    rw [h1] at q1
    cases q1
    have hr' : eq1 h q x y = some e := by cases x <;> cases y <;> exact hr
    cases d with
    | int kd =>
      cases q2
      cases x <;> cases y <;> try (cases hr'; done)
      obtain ⟨m1, m2⟩ := oif_some.1 hr'
      cases m2
      obtain rfl := eqK_eq.1 m1
      rw [ha.int_inv, hb.int_inv] at hs
      simp [Instr.sameNow] at hs
      rw [eqI_eq, ← hs]
    | string =>
      cases q2
      cases x <;> cases y <;> try (cases hr'; done)
      cases hr'
      cases ha
      cases hb
      simp [Instr.sameNow] at hs
      rw [size_eq, size_eq, strEq_eq, ← hs, beq_toListBytes, toList_eq, toList_eq]
    | bool =>
      cases q2
      cases x <;> cases y <;> try (cases hr'; done)
      cases hr'
      rw [ha.bool_inv, hb.bool_inv] at hs
      simp [Instr.sameNow] at hs
      rw [beqB_eq, ← hs]
    | pointer el => cases a <;> cases b <;> cases hs
    | _ => cases q2
/-- Where a key is found. -/
inductive Found (g : G) : Option V → Nat → Option (Nat × Value) → Prop
  | none {i : Nat} : Found g none i none
  | some {v : V} {u : Value} {i j : Nat} (h : VR g v u) (hj : i ≤ j) : Found g (some v) i (some (j, u))
theorem findE_cons (kk : Kk) (k : V) (e : V × V) (es : List (V × V)) : findE h kk k (e :: es) = ob (eqKey h kk k e.1) fun b => Bool.rec (motive := fun _ => Option (Option V)) (findE h kk k es) (some (some e.2)) b := rfl
theorem find_ok (hT : TyOk P T) (r : WR T g h w) {t : TypeId} {d : TypeDesc} {kk : Kk} {x : V} {a : Value} (h1 : T.under t = some d) (hk : keyT T t = some kk) (ha : VR g x a) :
    ∀ (es : List (V × V)) (m : List MapEntry) (i : Nat) (res : Option V), Ents g es m → findE h kk x es = some res → ∃ q, Found g res i q ∧ (Instr.findAsking t a m i).run P w = .ok q w ∧ ∀ q', Instr.findNow d a m i = some q' → q' = q := by
  intro es
  induction es with
  | nil =>
    intro m i res hm hr
    cases hr
    cases m with
    | nil => exact ⟨_, .none, by simp [Instr.findAsking], fun q' e => by simp [Instr.findNow] at e; exact e.symm⟩
    | cons => have := hm.1.length; simp at this
  | cons e es ih =>
    intro m i res hm hr
    cases m with
    | nil => have := hm.1.length; simp at this
    | cons f m =>
      rw [findE_cons] at hr
      obtain ⟨b, h2, h3⟩ := ob_some.1 hr
      obtain ⟨hm1, hm2⟩ := hm
      cases hm1 with
      | cons hk1 ht1 => cases hm2 with
        | cons hv1 hv2 =>
          have heq := eqKey_ok hT r hk ha hk1 h2
          cases b with
          | true =>
            cases h3
            refine ⟨_, .some hv1 (Nat.le_refl i), by simp [Instr.findAsking, heq], fun q' e' => ?_⟩
            simp only [Instr.findNow] at e'
            cases hs : Instr.sameNow d a f.key with
            | none => rw [hs] at e'; cases e'
            | some s =>
              rw [sameNow_eq hT h1 hk ha hk1 h2 hs] at hs
              rw [hs] at e'
              exact (Option.some.inj e').symm
          | false =>
            obtain ⟨q, f1, f2, f3⟩ := ih m (i + 1) res ⟨ht1, hv2⟩ h3
            refine ⟨q, ?_, by simp [Instr.findAsking, heq, f2], fun q' e' => ?_⟩
            · cases f1 with
              | none => exact .none
              | some h hj => exact .some h (by omega)
            · simp only [Instr.findNow] at e'
              cases hs : Instr.sameNow d a f.key with
              | none => rw [hs] at e'; cases e'
              | some s =>
                rw [sameNow_eq hT h1 hk ha hk1 h2 hs] at hs
                rw [hs] at e'
                exact f3 q' e'
theorem findKey_ok (hT : TyOk P T) (r : WR T g h w) {t : TypeId} {d : TypeDesc} {kk : Kk} {x : V} {a : Value} {es : List (V × V)} {m : List MapEntry} {res : Option V} (h1 : T.under t = some d) (hk : keyT T t = some kk) (ha : VR g x a) (hm : Ents g es m)
    (hr : findE h kk x es = some res) : ∃ q, Found g res 0 q ∧ (Instr.findKey t a m).run P w = .ok q w := by
  obtain ⟨q, f1, f2, f3⟩ := find_ok hT r h1 hk ha es m 0 res hm hr
  refine ⟨q, f1, ?_⟩
  simp only [Instr.findKey, Sem.run_bind, run_underlying' hT h1, Result.andThen_ok]
  cases hn : Instr.findNow d a m 0 with
  | none => exact f2
  | some q' => rw [f3 q' hn]; rfl
theorem checkKey_plain (hT : TyOk P T) {t : TypeId} {k : Pk} (hk : plainT T t = some k) (e : Bool) (n : Nat) (v : Value) : (Instr.checkKey e (n + 1) t v).run P w = .ok () w := by
  obtain ⟨d, h1, h2⟩ := ob_some.1 hk
  cases d <;> first | (cases h2; done) | (cases v <;> simp [Instr.checkKey, run_underlying' hT h1])
theorem checkFields_ok (hT : TyOk P T) (e : Bool) (n : Nat) (X : List Value) : ∀ (fs : List Field) (i : Nat) (ks : List Pk), flatFrom T fs i = some ks → i + ks.length ≤ X.length →
    (forIn (m := Sem) fs PUnit.unit fun f (_ : PUnit) => if f.name ≠ "_" then do let __do_lift ← Go.part f.type X.toArray f.offset; Instr.checkKey e (n + 1) f.type __do_lift; pure (ForInStep.yield PUnit.unit) else pure (ForInStep.yield PUnit.unit)).run P w = .ok PUnit.unit w := by
  intro fs
  induction fs with
  | nil => intro i ks h _; simp
  | cons f fs ih =>
    intro i ks h hl
    obtain ⟨rfl, hn, k, ks', h5, h6, rfl⟩ := flatFrom_cons h
    simp only [List.length_cons] at hl
    have p1 : (Go.part f.type X.toArray f.offset).run P w = .ok X[f.offset] w := by
      have : X[f.offset]? = some X[f.offset] := List.getElem?_eq_getElem (by omega)
      simp [Go.part, run_isAgg' hT (plainT_agg h5), this]
    rw [List.forIn_cons]
    simp only [if_pos hn, Sem.run_bind, p1, Result.andThen_ok, checkKey_plain hT h5, Sem.run_pure]
    exact ih (f.offset + 1) ks' h6 (by omega)
theorem checkKey_struct (hT : TyOk P T) {t : TypeId} {fs : Array Field} {ks : List Pk} {us : List Value} (h1 : T.under t = some (.struct fs)) (hk : flatFrom T fs.toList 0 = some ks) (hl : ks.length ≤ us.length) (e : Bool) (n : Nat) : (Instr.checkKey e (n + 1 + 1) t (.agg us.toArray)).run P w = .ok () w := by
  have := checkFields_ok (w := w) hT e n us fs.toList 0 ks hk (by omega)
  rw [Array.forIn_toList] at this
  rw [Instr.checkKey]
  simp only [Sem.run_bind, run_underlying' hT h1, Result.andThen_ok]
  rw [this]
  rfl
theorem checkKey_ok (hT : TyOk P T) {t : TypeId} {kk : Kk} {x : V} {a : Value} (hk : keyT T t = some kk) (ha : VR g x a) (hr : keyShape kk x = true) (e : Bool) : (Instr.checkKey e 10000 t a).run P w = .ok () w := by
  obtain ⟨d, h1, _⟩ := ob_some.1 hk
  rcases keyT_kind h1 hk with ⟨fs, ks, rfl, rfl, hf⟩ | ⟨hn, pk, rfl, hp⟩
  · obtain ⟨d', m1, m2⟩ := ob_some.1 hk
    rw [h1] at m1
    cases m1
    obtain ⟨_, m3⟩ := oif_some.1 m2
    obtain ⟨ks', m4, m5⟩ := ob_some.1 m3
    cases m5
    cases x with
    | agg xs =>
      cases ha
      rename_i us hus
      have hl : ks.length = xs.length := by
        have : Nat.beq (lenL ks) (lenL xs) = true := hr
        simpa [lenL_eq] using this
      have hl2 := hus.length
      exact checkKey_struct hT h1 m4 (by omega) e 9998
    | _ => cases hr
  · exact checkKey_plain hT hp e 9999 a
theorem gives_lookup (hT : TyOk P T) (r : WR T g h w) {t kt e : TypeId} {kk : Kk} {ok : Bool} {z : V} {x y : Operand} {a b v : V} (h1 : T.under t = some (.map kt e)) (hk : keyT T kt = some kk) (hz : zeroT T e = some z)
    (ha : VR g a (ρ x)) (hb : VR g b (ρ y)) (hr : ROp.run (.lookup kk ok z) [a, b] h = some v) : ∃ u, VR g v u ∧ GivesAt P ρ w (.lookup t x y ok) u := by
  obtain ⟨zu, hzu, hzr⟩ := zeroT_ok (g := g) hT hz
  obtain ⟨d, hd, _⟩ := ob_some.1 hk
  cases a with
  | nilm =>
    obtain ⟨q1, q2⟩ := oif_some.1 (show oif (keyShape kk b) (some (lookRes ok z none)) = some v from hr)
    cases q2
    have hx : ρ x = .map none := by cases hx : ρ x <;> rw [hx] at ha <;> cases ha; rfl
    obtain ⟨q, f1, f2⟩ := findKey_ok hT r hd hk hb (es := []) (m := []) ⟨.nil, .nil⟩ rfl
    have hc := fun em => checkKey_ok (w := w) hT hk hb q1 em
    cases f1
    cases ok with
    | false => exact ⟨zu, hzu, fun o e' => by simp [execOp, e', hx, Instr.lookup, run_underlying' hT h1, hc, f2, hzr]⟩
    | true => exact ⟨_, .tup (.cons hzu (.cons (.bool false) .nil)), fun o e' => by simp [execOp, e', hx, Instr.lookup, run_underlying' hT h1, hc, f2, hzr]⟩
  | map id =>
    obtain ⟨q1, q2⟩ := oif_some.1 (show oif (keyShape kk b) (ob (h.entries id) fun es => ob (findE h kk b es) fun r => some (lookRes ok z r)) = some v from hr)
    obtain ⟨es, q3, q4⟩ := ob_some.1 q2
    obtain ⟨res, q5, q6⟩ := ob_some.1 q4
    cases q6
    obtain ⟨bl, o, zz, hg, hx⟩ : ∃ bl o zz, g id = some (bl, o, zz) ∧ ρ x = .map (some bl) := by
      cases hx : ρ x <;> rw [hx] at ha <;> cases ha
      exact ⟨_, _, _, ‹_›, rfl⟩
    obtain ⟨m, c, k1, k2, _⟩ := entries_ok r hg q3
    obtain ⟨q, f1, f2⟩ := findKey_ok hT r hd hk hb k2 q5
    have hc := fun em => checkKey_ok (w := w) hT hk hb q1 em
    cases f1 with
    | none =>
      cases ok with
      | false => exact ⟨zu, hzu, fun o e' => by simp [execOp, e', hx, Instr.lookup, run_underlying' hT h1, run_getObj_map k1, hc, f2, hzr]⟩
      | true => exact ⟨_, .tup (.cons hzu (.cons (.bool false) .nil)), fun o e' => by simp [execOp, e', hx, Instr.lookup, run_underlying' hT h1, run_getObj_map k1, hc, f2, hzr]⟩
    | some hvu _ =>
      cases ok with
      | false => exact ⟨_, hvu, fun o e' => by simp [execOp, e', hx, Instr.lookup, run_underlying' hT h1, run_getObj_map k1, hc, f2]⟩
      | true => exact ⟨_, .tup (.cons hvu (.cons (.bool true) .nil)), fun o e' => by simp [execOp, e', hx, Instr.lookup, run_underlying' hT h1, run_getObj_map k1, hc, f2]⟩
  | _ => cases hr
theorem bytesOf_cons (v : V) (l : List V) : bytesOf (v :: l) = match v with
    | .int .u8 n => Int.rec (motive := fun _ => Option Nat) (fun m => ob (bytesOf l) fun r => some (Nat.add (Nat.mod m 256) (Nat.mul 256 r))) (fun _ => none) n
    | _ => none := rfl
theorem bytesOf_ok : ∀ {l : List V} {us : List Value} {c : Nat}, VRs g l us → bytesOf l = some c → ∃ xs : List Int, us = xs.map (Value.int .u8) ∧ natOf (strOfNums xs).data.toList = c
  | [], _, _, .nil, e => by cases e; exact ⟨[], rfl, rfl⟩
  | v :: l, _, _, .cons h t, e => by
    rw [bytesOf_cons] at e
    cases v with
    | int k n =>
      cases k with
      | u8 =>
        cases n with
        | ofNat m =>
          obtain ⟨r, e1, e2⟩ := ob_some.1 (show ob (bytesOf l) (fun r => some (Nat.add (Nat.mod m 256) (Nat.mul 256 r))) = some _ from e)
          cases e2
          obtain ⟨xs, k1, k2⟩ := bytesOf_ok t e1
          have := h.int_inv
          subst this
          refine ⟨Int.ofNat m :: xs, by rw [k1]; rfl, ?_⟩
          rw [strOfNums_data] at k2 ⊢
          show (UInt8.ofNat (Int.ofNat m).toNat).toNat + 256 * natOf (xs.map fun n => UInt8.ofNat n.toNat) = _
          rw [k2]
          simp
          rfl
        | negSucc m => cases e
      | _ => cases e
    | _ => cases e
theorem gives_b2s (hT : TyOk P T) (r : WR T g h w) {s d e : TypeId} {x : Operand} {vs : List V} {v : V} (h1 : T.under s = some (.slice e)) (h2 : T.under e = some (.int .u8)) (h3 : T.under d = some .string) (hv : VRs g vs [ρ x]) (hr : ROp.run .b2s vs h = some v) :
    ∃ u, VR g v u ∧ GivesAt P ρ w (.convert s d x) u := by
  obtain ⟨y, rfl, hy⟩ := hv.one
  cases y with
  | nils =>
    cases hr
    cases hx : ρ x <;> rw [hx] at hy <;> cases hy
    refine ⟨.string ByteArray.empty, .str ByteArray.empty, fun o e' => ?_⟩
    simp [execOp, e', hx, run_convert_bytes_nil w s e (hT.under _ _ h1) (hT.under _ _ h2) 0 0 d (hT.under _ _ h3)]
  | sl id off len cap ex es =>
    obtain ⟨q1, q2⟩ := oif_some.1 (show oif (Nat.beq es 1) (ob (h.rd id off len) fun l => ob (bytesOf l) fun c => some (.str len c)) = some v from hr)
    obtain ⟨l, q3, q4⟩ := ob_some.1 q2
    obtain ⟨c, q5, q6⟩ := ob_some.1 q4
    cases q6
    have fin : ∀ {b o z len' : Nat}, g id = some (b, o, z) → ρ x = .slice (some ⟨b, o + off, none⟩) len len' → ∃ u, VR g (.str len c) u ∧ GivesAt P ρ w (.convert s d x) u := by
      intro b o z len' hg hx
      obtain ⟨us, m1, m2, m3, _⟩ := rd_ok r hg q3
      obtain ⟨xs, n1, n2⟩ := bytesOf_ok m1 q5
      have hl : xs.length = len := by rw [← m2, n1]; simp
      have hs : (strOfNums xs).size = len := by rw [strOfNums_size, hl]
      refine ⟨.string (strOfNums xs), ?_, fun o' e' => ?_⟩
      · have := VR.str (g := g) (strOfNums xs)
        rwa [hs, n2] at this
      · have := run_convert_bytes_arg (P := P) w s e (hT.under _ _ h1) (hT.under _ _ h2) b (o + off) len len' xs hl (fun i hi => by
          have hi' : i < xs.length := by omega
          refine m3 i _ ?_
          rw [n1]
          simp [List.getD, List.getElem?_eq_getElem hi']) d (hT.under _ _ h3)
        simp [execOp, e', hx, this]
    cases hx : ρ x <;> rw [hx] at hy <;> cases hy
    · exact fin ‹_› hx
    · exact fin ‹_› hx
    all_goals
      refine ⟨.string ByteArray.empty, ?_, fun o e' => ?_⟩
      · have hl : l = [] := by
          have : h.rd id off 0 = some l := q3
          unfold H.rd at this
          obtain ⟨p, _, k⟩ := ob_some.1 this
          cases k
          rfl
        subst hl
        cases q5
        exact .str ByteArray.empty
      · have key := fun b p : Nat => run_convert_bytes_arg (P := P) w s e (hT.under _ _ h1) (hT.under _ _ h2) b p 0 0 [] rfl (fun i hi => absurd hi (Nat.not_lt_zero _)) d (hT.under _ _ h3)
        simp [execOp, e', hx, key]
        rfl
  | _ => cases hr
end
end Ev
end Go.Proofs.YtihflniehaaakaaGreatDoor
namespace Go.Proofs.YtihflniehaaakaaGreatDoor
set_option linter.unusedVariables false
set_option linter.unusedSimpArgs false
namespace Ev
variable [Opq]
set_option linter.unusedSectionVars false
section
variable {P : Program} {T : Ty} {g : G} {ρ : Operand → Value} {h : H} {w : World}

theorem R_ok (hT : TyOk P T) (r : WR T g h w) {op : Op} {ro : ROp} {os : List Operand} (hc : compOp T op = some (.r ro, os)) {vs : List V} {v : V} (hv : VRs g vs (os.map ρ)) (hr : ro.run vs h = some v) : ∃ u, VR g v u ∧ GivesAt P ρ w op u := by
  cases op
  case load t x =>
    simp only [compOp] at hc
    obtain ⟨b, h1, h2⟩ := ob_some.1 hc
    obtain ⟨n, h3, h4⟩ := ob_some.1 h2
    cases h4
    obtain ⟨u, k1, _, k3⟩ := gives_load hT r h1 h3 hv hr
    exact ⟨u, k1, k3⟩
  case binOp op t x y t' =>
    have eq2 : ∀ {neg cst : Bool} {d : TypeDesc}, T.under t = some d → eqOp T t neg cst d = some (.r ro) → os = [x, y] → ∃ u, VR g v u ∧ GivesAt P ρ w (.binOp (Bool.rec (motive := fun _ => BinOp) .eql .neq neg) t x y t') u := by
      intro neg cst d h1 h2 h3
      subst h3
      obtain ⟨a, b, rfl, ha, hb⟩ := hv.two
      cases d with
      | interface e => obtain ⟨h4, h5⟩ := oif_some.1 h2; cases h5
      | pointer e => obtain ⟨k, h4, h5⟩ := ob_some.1 h2; cases h5; exact gives_eq hT r h1 (.inl ⟨_, rfl⟩) h4 ha hb hr
      | struct fs => obtain ⟨k, h4, h5⟩ := ob_some.1 h2; cases h5; exact gives_eq hT r h1 (.inr ⟨_, rfl⟩) h4 ha hb hr
      | _ => cases h2
    cases op
    case eql =>
      simp only [compOp] at hc
      obtain ⟨d, h1, h2⟩ := ob_some.1 hc
      obtain ⟨c, h3, h4⟩ := ob_some.1 h2
      cases h4
      exact eq2 (neg := false) h1 h3 rfl
    case neq =>
      simp only [compOp] at hc
      obtain ⟨d, h1, h2⟩ := ob_some.1 hc
      obtain ⟨c, h3, h4⟩ := ob_some.1 h2
      cases h4
      exact eq2 (neg := true) h1 h3 rfl
    all_goals cases hc
  case lookup t x k ok =>
    simp only [compOp] at hc
    obtain ⟨d, h1, h2⟩ := ob_some.1 hc
    cases d with
    | map kt e =>
      obtain ⟨kk, h3, h4⟩ := ob_some.1 h2
      obtain ⟨z, h5, h6⟩ := ob_some.1 h4
      cases h6
      obtain ⟨a, b, rfl, ha, hb⟩ := hv.two
      exact gives_lookup hT r h1 h3 h5 ha hb hr
    | _ => cases h2
  case call c =>
    obtain ⟨callee, args, argTypes⟩ := c
    simp only [compOp] at hc
    cases callee with
    | value x => cases x <;> cases hc
    | invoke r m => cases hc
    | builtin b =>
      obtain ⟨t, h1, h2⟩ := ob_some.1 hc
      obtain ⟨d, h3, h4⟩ := ob_some.1 h2
      have h1' : argTypes[0]? = some t := by rw [nthL_eq] at h1; simpa using h1
      cases b
      case len =>
        cases d with
        | map k e =>
          cases h4
          have hone : ∃ a, vs = [a] := by
            cases vs with
            | nil => cases hr
            | cons a vs => cases vs with
              | nil => exact ⟨a, rfl⟩
              | cons b vs => cases a <;> cases hr
          obtain ⟨a, rfl⟩ := hone
          obtain ⟨x, hx⟩ : ∃ x, args.toList = [x] := by
            have := hv.length
            simp at this
            cases ha : args.toList with
            | nil => rw [← Array.length_toList, ha] at this; cases this
            | cons x l => cases l with
              | nil => exact ⟨x, rfl⟩
              | cons y l => rw [← Array.length_toList, ha] at this; simp at this
          rw [hx] at hv
          obtain ⟨a', e', h⟩ := hv.one
          cases e'
          obtain ⟨u, k1, k2⟩ := gives_lenMap hT r h1' h3 h hr
          have ha : args.map ρ = #[ρ x] := by apply Array.ext'; simp [hx]
          exact ⟨u, k1, fun o e => by simp [execOp, e, resolve, invoke, builtin, ha, k2]⟩
        | _ => cases h4
      case append =>
        cases d with
        | slice e =>
          obtain ⟨n, _, a1⟩ := ob_some.1 h4
          obtain ⟨_, _, a2⟩ := ob_some.1 a1
          obtain ⟨_, _, a3⟩ := ob_some.1 a2
          obtain ⟨_, a4⟩ := oif_some.1 a3
          obtain ⟨_, _, a5⟩ := ob_some.1 a4
          obtain ⟨_, _, a6⟩ := ob_some.1 a5
          split at a6 <;> cases a6
        | _ => cases h4
      case copy =>
        cases d with
        | slice e =>
          obtain ⟨n, _, a1⟩ := ob_some.1 h4
          cases a1
        | _ => cases h4
      case clear =>
        cases d with
        | slice e =>
          obtain ⟨n, _, a1⟩ := ob_some.1 h4
          obtain ⟨_, _, a2⟩ := ob_some.1 a1
          cases a2
        | _ => cases h4
      case delete =>
        cases d with
        | map k e =>
          obtain ⟨_, _, a1⟩ := ob_some.1 h4
          cases a1
        | _ => cases h4
      all_goals (cases d <;> cases h4)
  case alloc t =>
    simp only [compOp] at hc
    obtain ⟨_, _, h⟩ := ob_some.1 hc
    cases h
  case build t ps =>
    simp only [compOp] at hc
    obtain ⟨z, h1, h2⟩ := ob_some.1 hc
    obtain ⟨d, h3, h4⟩ := ob_some.1 h2
    cases d with
    | struct fs =>
      obtain ⟨pl, h5, h6⟩ := ob_some.1 h4
      obtain ⟨l, h7, h8⟩ := ob_some.1 h6
      cases h8
    | array k e =>
      obtain ⟨n, h5, h6⟩ := ob_some.1 h4
      cases h6
    | _ => cases h4
  case buildSlice t n ps =>
    simp only [compOp] at hc
    obtain ⟨d, _, h⟩ := ob_some.1 hc
    cases d with
    | slice e =>
      obtain ⟨_, _, a1⟩ := ob_some.1 h
      obtain ⟨_, _, a2⟩ := ob_some.1 a1
      obtain ⟨_, a3⟩ := oif_some.1 a2
      cases a3
    | _ => cases h
  case insert t m k x =>
    simp only [compOp] at hc
    obtain ⟨d, _, h⟩ := ob_some.1 hc
    cases d with
    | map k e =>
      obtain ⟨_, _, a1⟩ := ob_some.1 h
      cases a1
    | _ => cases h
  case mapEntry t m k =>
    simp only [compOp] at hc
    obtain ⟨d, _, h⟩ := ob_some.1 hc
    cases d with
    | map k e =>
      obtain ⟨_, _, a1⟩ := ob_some.1 h
      obtain ⟨_, _, a2⟩ := ob_some.1 a1
      cases a2
    | _ => cases h
  case mapUpdate t m k x =>
    simp only [compOp] at hc
    obtain ⟨d, _, h⟩ := ob_some.1 hc
    cases d with
    | map k e =>
      obtain ⟨_, _, a1⟩ := ob_some.1 h
      cases a1
    | _ => cases h
  case store t a x =>
    simp only [compOp] at hc
    obtain ⟨_, _, a1⟩ := ob_some.1 hc
    cases a1
  case convert s d x =>
    simp only [compOp] at hc
    obtain ⟨a, h1, h2⟩ := ob_some.1 hc
    obtain ⟨b, h3, h4⟩ := ob_some.1 h2
    cases a with
    | slice e =>
      cases b with
      | string =>
        obtain ⟨e1, rfl, e2, e3⟩ := b2sOp_some h4
        cases e1
        exact gives_b2s hT r h1 e2 h3 hv hr
      | _ => cases h4
    | _ => cases b <;> cases h4
  case makeInterface t x =>
    simp only [compOp] at hc
    obtain ⟨d, h1, h2⟩ := ob_some.1 hc
    cases d <;> cases h2
  case makeFunc fn a b => cases fn <;> cases hc
  case makeMap t r =>
    simp only [compOp] at hc
    obtain ⟨d, _, h⟩ := ob_some.1 hc
    cases d <;> cases h
  case makeSlice t l c =>
    simp only [compOp] at hc
    obtain ⟨d, _, h⟩ := ob_some.1 hc
    cases d with
    | slice e =>
      obtain ⟨_, _, a1⟩ := ob_some.1 h
      obtain ⟨_, _, a2⟩ := ob_some.1 a1
      obtain ⟨_, _, a3⟩ := ob_some.1 a2
      obtain ⟨_, a4⟩ := oif_some.1 a3
      cases a4
    | _ => cases h
  case slice t x lo hi mx =>
    simp only [compOp] at hc
    obtain ⟨d, _, h⟩ := ob_some.1 hc
    cases d with
    | string => cases h
    | slice e => obtain ⟨_, _, a1⟩ := ob_some.1 h; cases a1
    | array k e => obtain ⟨_, _, a1⟩ := ob_some.1 h; cases a1
    | _ => cases h
  case fieldAddr t x i =>
    simp only [compOp] at hc
    obtain ⟨d, _, h⟩ := ob_some.1 hc
    cases d with
    | struct fs =>
      obtain ⟨_, _, a1⟩ := ob_some.1 h
      obtain ⟨_, _, a2⟩ := ob_some.1 a1
      cases a2
    | _ => cases h
  case field t x i =>
    simp only [compOp] at hc
    obtain ⟨d, _, h⟩ := ob_some.1 hc
    cases d with
    | struct fs =>
      obtain ⟨_, _, a1⟩ := ob_some.1 h
      obtain ⟨_, _, a2⟩ := ob_some.1 a1
      obtain ⟨_, _, a3⟩ := ob_some.1 a2
      cases a3
    | _ => cases h
  case indexAddr t x i =>
    simp only [compOp] at hc
    obtain ⟨d, _, h⟩ := ob_some.1 hc
    cases d with
    | slice e => obtain ⟨_, _, a1⟩ := ob_some.1 h; cases a1
    | array k e => obtain ⟨_, _, a1⟩ := ob_some.1 h; cases a1
    | _ => cases h
  case index t x i =>
    simp only [compOp] at hc
    obtain ⟨d, _, h⟩ := ob_some.1 hc
    cases d with
    | string => cases h
    | array k e =>
      obtain ⟨_, _, a1⟩ := ob_some.1 h
      obtain ⟨_, _, a2⟩ := ob_some.1 a1
      cases a2
    | _ => cases h
  case range t x =>
    simp only [compOp] at hc
    obtain ⟨d, _, h⟩ := ob_some.1 hc
    cases d <;> cases h
  case next x b => cases b <;> cases hc
  all_goals cases hc
end
end Ev
end Go.Proofs.YtihflniehaaakaaGreatDoor
