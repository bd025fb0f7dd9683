/-
  Operations that read memory.
-/
import Derived.Test.YtogbcielgfidlaaGreatDoorEvWrite
import Derived.Laws.Cells
import Derived.Laws.StructEq
import Derived.Laws.BytesArg
import Derived.Laws.RangeString
namespace Go.Proofs.YtogbcielgfidlaaGreatDoor
set_option linter.unusedVariables false
set_option linter.unusedSimpArgs false
namespace Ev
variable [Opq]
set_option linter.unusedSectionVars false
section
variable {P : Program} {T : Ty} {g : G} {ρ : Operand → Value} {h : H} {w : World}

/-- The operation yields the value in this world, and memory stays as it is. -/
def GivesAt (P : Program) (ρ : Operand → Value) (w : World) (op : Op) (u : Value) : Prop := ∀ o : Oper, o.op = op → (execOp ρ o).run P w = .ok (.value u) w

theorem cells_ok' (r : WR T g h w) {id : Nat} {x : Nat × Nat × Nat} {p : Nat × Tr V} (hg : g id = some x) (hc : h.cells id = some p) : Cells g w id p.1 p.2 := by
  unfold H.cells at hc
  obtain ⟨b, h1, h2⟩ := ob_some.1 hc
  cases b with
  | cells n cs up ch => cases h2; exact r.blk id x _ hg h1
  | ro n cs => cases h2; exact r.blk id x _ hg h1
  | _ => cases h2
theorem rdSlow_succ (cs : Tr V) (n k off : Nat) : rdSlow cs n (k + 1) off = oif (Nat.blt off n) (ob (cs.get off) fun v => ob (rdSlow cs n k (off + 1)) fun r => some (v :: r)) := rfl
theorem zip2_cons (x : V) (l : List V) (y : V) (m : List V) : zip2 (x :: l) (y :: m) = x :: y :: zip2 l m := rfl
theorem zip2_one (x : V) (l : List V) : zip2 (x :: l) [] = x :: zip2 l [] := rfl
theorem zip2_nil (m : List V) : zip2 [] m = m := rfl
theorem zip2_ok : ∀ (l m : List V), m.length ≤ l.length → l.length ≤ m.length + 1 → (zip2 l m).length = l.length + m.length ∧ ∀ i, (zip2 l m)[2 * i]? = l[i]? ∧ (zip2 l m)[2 * i + 1]? = m[i]?
  | [], m, h1, h2 => by
    have : m = [] := List.eq_nil_of_length_eq_zero (by simpa using h1)
    subst this
    exact ⟨rfl, fun i => by simp [zip2_nil]⟩
  | x :: l, [], h1, h2 => by
    have : l = [] := List.eq_nil_of_length_eq_zero (by simpa using h2)
    subst this
    refine ⟨rfl, fun i => ?_⟩
    cases i with
    | zero => exact ⟨rfl, rfl⟩
    | succ i => simp [zip2_one, zip2_nil]
  | x :: l, y :: m, h1, h2 => by
    obtain ⟨k1, k2⟩ := zip2_ok l m (by simpa using h1) (by simpa using h2)
    rw [zip2_cons]
    refine ⟨by simp only [List.length_cons, k1]; omega, fun i => ?_⟩
    cases i with
    | zero => exact ⟨rfl, rfl⟩
    | succ i =>
      obtain ⟨q1, q2⟩ := k2 i
      rw [show 2 * (i + 1) = 2 * i + 1 + 1 by omega]
      simp only [List.getElem?_cons_succ]
      exact ⟨q1, q2⟩
theorem beq_no {a b : Nat} (h : a ≠ b) : Nat.beq a b = false := by
  cases hb : Nat.beq a b with
  | true => exact absurd (Nat.eq_of_beq_eq_true hb) h
  | false => rfl
theorem rngT_n (l : Tr V) (v : Option V) (r : Tr V) (a k : Nat) : rngT (.n l v r) a k = if k = 0 then some [] else if a = 1 then (ob v fun x => ob (rngT l 1 (k / 2)) fun es => ob (rngT r 1 ((k - 1) / 2)) fun os => some (x :: zip2 es os)) else
    (ob (rngT l ((a + 1) / 2) ((a + k + 1) / 2 - (a + 1) / 2)) fun es => ob (rngT r (a / 2) ((a + k) / 2 - a / 2)) fun os => some (if a % 2 = 1 then zip2 os es else zip2 es os)) := by
  show Bool.rec (motive := fun _ => Option (List V)) (Bool.rec (motive := fun _ => Option (List V)) (ob (rngT l ((a + 1) / 2) ((a + k + 1) / 2 - (a + 1) / 2)) fun es => ob (rngT r (a / 2) ((a + k) / 2 - a / 2)) fun os => some (Bool.rec (motive := fun _ => List V) (zip2 es os) (zip2 os es) (Nat.beq (a % 2) 1)))
    (ob v fun x => ob (rngT l 1 (k / 2)) fun es => ob (rngT r 1 ((k - 1) / 2)) fun os => some (x :: zip2 es os)) (Nat.beq a 1)) (some []) (Nat.beq k 0) = _
  by_cases h0 : k = 0
  · subst h0; rfl
  · rw [beq_no h0, if_neg h0]
    by_cases h1 : a = 1
    · subst h1; rfl
    · rw [beq_no h1, if_neg h1]
      by_cases h2 : a % 2 = 1
      · rw [h2]
        rfl
      · rw [beq_no h2]
        simp only [if_neg h2]
theorem rngT_ok (t : Tr V) : ∀ (a k : Nat) (L : List V), 1 ≤ a → rngT t a k = some L → L.length = k ∧ ∀ j, j < k → t.getP (a + j) = L[j]? := by
  induction t with
  | e =>
    intro a k L _ e
    obtain ⟨h1, h2⟩ := oif_some.1 (show oif (Nat.beq k 0) (some []) = some L from e)
    have hk : k = 0 := by simpa using h1
    subst hk
    cases h2
    exact ⟨rfl, fun j hj => by omega⟩
  | n l v r il ir =>
    intro a k L ha e
    rw [rngT_n] at e
    by_cases h0 : k = 0
    · rw [if_pos h0] at e
      subst h0
      cases e
      exact ⟨rfl, fun j hj => by omega⟩
    · rw [if_neg h0] at e
      by_cases h1 : a = 1
      · rw [if_pos h1] at e
        subst h1
        obtain ⟨x, k1, e⟩ := ob_some.1 e
        obtain ⟨es, k2, e⟩ := ob_some.1 e
        obtain ⟨os, k3, e⟩ := ob_some.1 e
        cases e
        obtain ⟨m1, m2⟩ := il _ _ _ (by omega) k2
        obtain ⟨n1, n2⟩ := ir _ _ _ (by omega) k3
        obtain ⟨z1, z2⟩ := zip2_ok es os (by omega) (by omega)
        refine ⟨by simp only [List.length_cons]; omega, fun j hj => ?_⟩
        rw [Tr.getP_n]
        cases j with
        | zero => rw [if_pos rfl, k1]; rfl
        | succ j =>
          rw [if_neg (by omega), List.getElem?_cons_succ]
          by_cases ho : j % 2 = 1
          · rw [if_pos (by omega), show (1 + (j + 1)) / 2 = 1 + j / 2 by omega, n2 _ (by omega), ← (z2 (j / 2)).2, show 2 * (j / 2) + 1 = j by omega]
          · rw [if_neg (by omega), show (1 + (j + 1)) / 2 = 1 + j / 2 by omega, m2 _ (by omega), ← (z2 (j / 2)).1, show 2 * (j / 2) = j by omega]
      · rw [if_neg h1] at e
        obtain ⟨es, k2, e⟩ := ob_some.1 e
        obtain ⟨os, k3, e⟩ := ob_some.1 e
        obtain ⟨m1, m2⟩ := il _ _ _ (by omega) k2
        obtain ⟨n1, n2⟩ := ir _ _ _ (by omega) k3
        by_cases ho : a % 2 = 1
        · rw [if_pos ho] at e
          cases e
          obtain ⟨z1, z2⟩ := zip2_ok os es (by omega) (by omega)
          refine ⟨by omega, fun j hj => ?_⟩
          rw [Tr.getP_n, if_neg (by omega)]
          by_cases hj2 : j % 2 = 1
          · rw [if_neg (by omega), show (a + j) / 2 = (a + 1) / 2 + j / 2 by omega, m2 _ (by omega), ← (z2 (j / 2)).2, show 2 * (j / 2) + 1 = j by omega]
          · rw [if_pos (by omega), show (a + j) / 2 = a / 2 + j / 2 by omega, n2 _ (by omega), ← (z2 (j / 2)).1, show 2 * (j / 2) = j by omega]
        · rw [if_neg ho] at e
          cases e
          obtain ⟨z1, z2⟩ := zip2_ok es os (by omega) (by omega)
          refine ⟨by omega, fun j hj => ?_⟩
          rw [Tr.getP_n, if_neg (by omega)]
          by_cases hj2 : j % 2 = 1
          · rw [if_pos (by omega), show (a + j) / 2 = a / 2 + j / 2 by omega, n2 _ (by omega), ← (z2 (j / 2)).2, show 2 * (j / 2) + 1 = j by omega]
          · rw [if_neg (by omega), show (a + j) / 2 = (a + 1) / 2 + j / 2 by omega, m2 _ (by omega), ← (z2 (j / 2)).1, show 2 * (j / 2) = j by omega]
theorem rdSlow_all {cs : Tr V} {n : Nat} : ∀ (k off : Nat) (L : List V), L.length = k → off + k ≤ n → (∀ j, j < k → cs.get (off + j) = L[j]?) → rdSlow cs n k off = some L
  | 0, off, L, hl, _, _ => by
    rw [List.eq_nil_of_length_eq_zero hl]
    rfl
  | k + 1, off, L, hl, hn, h => by
    cases L with
    | nil => simp at hl
    | cons x L =>
      have h0 : cs.get off = some x := by simpa using h 0 (by omega)
      have hlt : Nat.blt off n = true := by simpa using (show off < n by omega)
      rw [rdSlow_succ, hlt, h0, rdSlow_all k (off + 1) L (by simpa using hl) (by omega) fun j hj => by
        have := h (j + 1) (by omega)
        rw [show off + 1 + j = off + (j + 1) by omega]
        simpa using this]
      rfl
theorem rdFrom_slow {cs : Tr V} {n k off : Nat} {L : List V} (e : rdFrom cs n k off = some L) : rdSlow cs n k off = some L := by
  unfold rdFrom at e
  cases hk : Nat.ble k 3 with
  | true => rw [hk] at e; exact e
  | false =>
    rw [hk] at e
    obtain ⟨h1, h2⟩ := oif_some.1 (show oif (Nat.ble (Nat.add off k) n) (rngT cs (Nat.succ off) k) = some L from e)
    obtain ⟨k1, k2⟩ := rngT_ok cs _ _ _ (Nat.succ_le_succ (Nat.zero_le _)) h2
    refine rdSlow_all k off L k1 (Nat.le_of_ble_eq_true h1) fun j hj => ?_
    rw [← k2 j hj, show Nat.succ off + j = Nat.succ (off + j) by omega]
    rfl
theorem rdFrom_ok {o n : Nat} {c : Array Value} {cs : Tr V} (hc : ∀ j v, j < n → cs.get j = some v → ∃ u, c[o + j]? = some u ∧ VR g v u ∧ oneCell v = true) :
    ∀ (k off : Nat) (l : List V), rdFrom cs n k off = some l → ∃ us, VRs g l us ∧ us.length = k ∧ (∀ j u, us[j]? = some u → c[o + off + j]? = some u) ∧ (∀ v, v ∈ l → oneCell v = true) ∧ (0 < k → off + k ≤ n) := by
  intro k off l e
  replace e := rdFrom_slow e
  revert off l
  induction k with
  | zero => intro off l e; cases e; exact ⟨[], .nil, rfl, by simp, by simp, by omega⟩
  | succ k ih =>
    intro off l e
    rw [rdSlow_succ] at e
    obtain ⟨h1, h2⟩ := oif_some.1 e
    obtain ⟨v, h3, h4⟩ := ob_some.1 h2
    obtain ⟨r, h5, h6⟩ := ob_some.1 h4
    cases h6
    have hlt : off < n := by simpa using h1
    obtain ⟨u, k1, k2, k3⟩ := hc off v hlt h3
    obtain ⟨us, m1, m2, m3, m4, m5⟩ := ih (off + 1) r h5
    refine ⟨u :: us, .cons k2 m1, by simp [m2], fun j x hx => ?_, fun x hx => ?_, fun _ => ?_⟩
    · cases j with
      | zero => simp at hx; subst hx; simpa using k1
      | succ j => rw [show o + off + (j + 1) = o + (off + 1) + j by omega]; exact m3 j x (by simpa using hx)
    · cases hx with
      | head => exact k3
      | tail _ hx => exact m4 x hx
    · by_cases hk : 0 < k
      · have := m5 hk; omega
      · omega
/-- What is read there. -/
theorem rd_ok (r : WR T g h w) {id off k b o z : Nat} {l : List V} (hg : g id = some (b, o, z)) (e : h.rd id off k = some l) :
    ∃ us, VRs g l us ∧ us.length = k ∧ (∀ j u, us[j]? = some u → w.cell? ⟨b, o + off + j, none⟩ = some u) ∧ (∀ v, v ∈ l → oneCell v = true) := by
  unfold H.rd at e
  obtain ⟨p, h1, h2⟩ := ob_some.1 e
  obtain ⟨b', o', z', c, t, k1, k2, k3, k4, k5, k6⟩ := cells_ok' r hg h1
  rw [hg] at k1
  cases k1
  obtain ⟨us, m1, m2, m3, m4, _⟩ := rdFrom_ok k6 k off l h2
  exact ⟨us, m1, m2, fun j u hj => by simp [World.cell?, k2, m3 j u hj], m4⟩
theorem gives_load (hT : TyOk P T) (r : WR T g h w) {t : TypeId} {a : Bool} {n : Nat} {x : Operand} {vs : List V} {v : V} (h1 : aggT T t = some a) (h2 : sizeT T t = some n) (hv : VRs g vs [ρ x]) (hr : ROp.run (.load a n) vs h = some v) :
    ∃ u, VR g v u ∧ (loadVar t (match ρ x with | .pointer (some p) => p | _ => default)).run P w = .ok u w ∧ GivesAt P ρ w (.load t x) u := by
  obtain ⟨y, rfl, hy⟩ := hv.one
  have main : ∀ {id off : Nat}, y = .ptr id off → ∃ b o z, g id = some (b, o, z) ∧ ρ x = .pointer (some ⟨b, o + off, none⟩) := by
    intro id off e
    subst e
    cases hx : ρ x <;> rw [hx] at hy <;> cases hy
    exact ⟨_, _, _, ‹_›, rfl⟩
  cases a with
  | false =>
    cases y with
    | ptr id off =>
      obtain ⟨b, o, z, hg, hx⟩ := main rfl
      obtain ⟨l, e1, e2⟩ := ob_some.1 (show ob (h.rd id off 1) (fun l => nthL l 0) = some v from hr)
      obtain ⟨us, m1, m2, m3, _⟩ := rd_ok r hg e1
      rw [nthL_eq] at e2
      obtain ⟨u, k1, k2⟩ := m1.get e2
      have hc := m3 0 u k1
      simp only [Nat.add_zero] at hc
      have run : (loadVar t ⟨b, o + off, none⟩).run P w = .ok u w := by simp [loadVar, run_isAgg' hT h1, hc]
      refine ⟨u, k2, by rw [hx]; exact run, fun o' e' => ?_⟩
      simp [execOp, e', hx, Instr.loadAt, Instr.sureAddr, run]
    | _ => cases hr
  | true =>
    cases y with
    | ptr id off =>
      obtain ⟨b, o, z, hg, hx⟩ := main rfl
      obtain ⟨l, e1, e2⟩ := ob_some.1 (show ob (h.rd id off n) (fun l => some (.agg l)) = some v from hr)
      cases e2
      obtain ⟨us, m1, m2, m3, _⟩ := rd_ok r hg e1
      have hc : ∀ j u, us[j]? = some u → w.cell? ((⟨b, o + off, none⟩ : Addr).add j) = some u := by
        intro j u hj
        rw [Addr.add_lit]
        exact m3 j u hj
      have run : (loadVar t ⟨b, o + off, none⟩).run P w = .ok (.agg us.toArray) w := by
        have := run_loadCells_list (P := P) (w := w) ⟨b, o + off, none⟩ us hc
        rw [m2] at this
        simp [loadVar, run_isAgg' hT h1, run_sizeOf' hT h2, this]
      refine ⟨_, .agg m1, by rw [hx]; exact run, fun o' e' => ?_⟩
      simp [execOp, e', hx, Instr.loadAt, Instr.sureAddr, run]
    | _ => cases hr
theorem alone_ok (r : WR T g h w) {id b o z : Nat} (hg : g id = some (b, o, z)) (ha : h.alone id = true) : ∃ k c t, h.blk id = some k ∧ k.live = true ∧ k.kin = some (none, false) ∧ w.heap[b]? = some (.cells c t (0, 0)) := by
  unfold H.alone at ha
  cases hb : h.blk id with
  | none => rw [hb] at ha; cases ha
  | some k =>
    rw [hb] at ha
    cases k with
    | cells n cs up ch =>
      cases up with
      | some _ => cases ha
      | none => cases ch with
        | true => cases ha
        | false =>
          obtain ⟨b', o', z', c, t, k1, k2, _⟩ := r.blk id _ _ hg hb
          rw [hg] at k1
          cases k1
          exact ⟨_, c, t, rfl, rfl, rfl, k2⟩
    | _ => cases ha
theorem sameAddr_same {a b : Addr} (hb : a.block = b.block) : (sameAddr a b).run P w = .ok (a == b) w := by
  simp [sameAddr, hb]
theorem sameAddr_diff {a b : Addr} {c c' : Array Value} {t t' : TypeId} (hb : a.block ≠ b.block) (h1 : w.heap[a.block]? = some (.cells c t (0, 0))) (h2 : w.heap[b.block]? = some (.cells c' t' (0, 0))) : (sameAddr a b).run P w = .ok false w := by
  have f1 : ∀ o, w.frozen? ⟨a.block, o, none⟩ = false := fun o => by simp [World.frozen?, h1]
  have f2 : ∀ o, w.frozen? ⟨b.block, o, none⟩ = false := fun o => by simp [World.frozen?, h2]
  have g1 : w.frozen? a = false := by simp [World.frozen?, h1]
  have g2 : w.frozen? b = false := by simp [World.frozen?, h2]
  have s1 : w.shape? a.block = some (t, c.size) := by simp [World.shape?, h1]
  have s2 : w.shape? b.block = some (t', c'.size) := by simp [World.shape?, h2]
  simp [sameAddr, hb, g1, noView, viewAt, s1, s2, mayBeOne, stringish, g2, f1, f2]
set_option maxHeartbeats 1000000 in
theorem eq1_ok (hT : TyOk P T) (r : WR T g h w) {t : TypeId} {k : Pk} {x y : V} {a b : Value} {e : Bool} (hk : plainT T t = some k) (ha : VR g x a) (hb : VR g y b) (hr : eq1 h k x y = some e) (d : Nat) : (Op.equalIn (d + 1) t a b).run P w = .ok e w := by
  obtain ⟨ds, h1, h2⟩ := ob_some.1 hk
  have hu := hT.under _ _ h1
  unfold eq1 at hr
  split at hr
  · obtain ⟨q1, q2⟩ := oif_some.1 hr
    cases q2
    obtain rfl := eqK_eq.1 q1
    rw [ha.int_inv, hb.int_inv, eqI_eq]
    cases ds <;> first | (cases h2; done) | exact run_equalIn_int w d t _ _ _ _ hu | (obtain ⟨_, _, h3⟩ := ob_some.1 h2; cases h3)
  · cases hr
    cases ha
    cases hb
    rw [size_eq, size_eq, strEq_eq]
    cases ds <;> first | (cases h2; done) | (rw [run_equalIn_string w d t _ _ hu, toList_eq, toList_eq]) | (obtain ⟨_, _, h3⟩ := ob_some.1 h2; cases h3)
  · cases hr
    rw [ha.bool_inv, hb.bool_inv, beqB_eq]
    cases ds <;> first | (cases h2; done) | exact run_equalIn_bool w d t _ _ hu | (obtain ⟨_, _, h3⟩ := ob_some.1 h2; cases h3)
  · cases hr
    cases ha
    cases hb
    cases ds <;> first | (cases h2; done) | (simp [Op.equalIn, run_underlying hu]; done)
  · cases hr
    cases ha
    cases hb
    cases ds <;> first | (cases h2; done) | (simp [Op.equalIn, run_underlying hu]; done)
  · cases hr
    cases ha
    cases hb
    cases ds <;> first | (cases h2; done) | (simp [Op.equalIn, run_underlying hu]; done)
  · rename_i i off j off'
    cases ds with
    | pointer el =>
      obtain ⟨n, h3, h4⟩ := ob_some.1 h2
      obtain ⟨hs, hp⟩ := posT_size h3
      have hn : ¬ n = 0 := by omega
      cases ha
      cases hb
      rename_i b o z hg b' o' z' hg'
      have main : ∀ q, (sameAddr ⟨b, o + off, none⟩ ⟨b', o' + off', none⟩).run P w = .ok q w → (Op.equalIn (d + 1) t (.pointer (some ⟨b, o + off, none⟩)) (.pointer (some ⟨b', o' + off', none⟩))).run P w = .ok q w := by
        intro q hq
        simp [Op.equalIn, run_underlying hu, run_sizeOf' hT hs, hn, hq]
      rw [brec_eq] at hr
      split at hr
      · rename_i hij
        obtain rfl : i = j := by simpa using hij
        cases hr
        rw [hg] at hg'
        cases hg'
        rw [main _ (sameAddr_same rfl)]
        congr 1
        apply Bool.eq_iff_iff.2
        simp
      · rename_i hij
        have hij : i ≠ j := by simpa using hij
        obtain ⟨q1, q2⟩ := oif_some.1 hr
        obtain ⟨q3, q4⟩ := oif_some.1 q2
        cases q4
        obtain ⟨k1, c1, t1, m1, m2, m3, m4⟩ := alone_ok r hg q1
        obtain ⟨k2, c2, t2, n1, n2, n3, n4⟩ := alone_ok r hg' q3
        refine main _ (sameAddr_diff ?_ m4 n4)
        intro hbb
        simp only at hbb
        subst hbb
        exact r.lone hij hg hg' m1 n1 m2 n2 (.inr m3) (.inl (by cases hx : Blk.isRo _ with | false => rfl | true => rw [Blk.isRo_kin hx] at m3; cases m3))
    | _ => cases h2
  · cases hr
theorem plainT_agg {t : TypeId} {k : Pk} (hk : plainT T t = some k) : aggT T t = some false := by
  obtain ⟨d, h1, h2⟩ := ob_some.1 hk
  unfold aggT
  rw [h1]
  cases d <;> first | rfl | cases h2
theorem flatFrom_cons {f : Field} {fs : List Field} {i : Nat} {ks : List Pk} (h : flatFrom T (f :: fs) i = some ks) : f.offset = i ∧ f.name ≠ "_" ∧ ∃ k ks', plainT T f.type = some k ∧ flatFrom T fs (i + 1) = some ks' ∧ ks = k :: ks' := by
  obtain ⟨h1, h2⟩ := oif_some.1 (show oif (Nat.beq f.offset i && !(f.name == "_")) (ob (plainT T f.type) fun k => ob (flatFrom T fs (i + 1)) fun ks => some (k :: ks)) = some ks from h)
  obtain ⟨k, h3, h4⟩ := ob_some.1 h2
  obtain ⟨ks', h5, h6⟩ := ob_some.1 h4
  cases h6
  simp at h1
  exact ⟨h1.1, h1.2, k, ks', h3, h5, rfl⟩
theorem eqL_ok (hT : TyOk P T) (r : WR T g h w) (d : Nat) (X Y : List Value) : ∀ (fs : List Field) (i : Nat) (ks : List Pk) (as bs : List V) (e : Bool), flatFrom T fs i = some ks → VRs g as (X.drop i) → VRs g bs (Y.drop i) → eqL h ks as bs = some e →
    (Op.eqFields (d + 1) X.toArray Y.toArray fs).run P w = .ok e w := by
  intro fs
  induction fs with
  | nil =>
    intro i ks as bs e h1 h2 h3 h4
    cases h1
    cases as with
    | nil => cases bs with
      | nil => cases h4; simp [Op.eqFields]
      | cons => cases h4
    | cons => cases h4
  | cons f fs ih =>
    intro i ks as bs e h1 h2 h3 h4
    obtain ⟨rfl, hn, k, ks', h5, h6, rfl⟩ := flatFrom_cons h1
    cases as with
    | nil => cases h4
    | cons a as => cases bs with
      | nil => cases h4
      | cons b bs =>
        obtain ⟨c, q1, q2⟩ := ob_some.1 (show ob (eq1 h k a b) (fun c => Bool.rec (motive := fun _ => Option Bool) (some false) (eqL h ks' as bs) c) = some e from h4)
        generalize hX : X.drop f.offset = X' at h2
        generalize hY : Y.drop f.offset = Y' at h3
        cases h2 with
        | cons ha ta => cases h3 with
          | cons hb tb =>
            rename_i u us v vs
            have x1 : X[f.offset]? = some u := by have := congrArg (fun l => l[0]?) hX; simpa using this
            have y1 : Y[f.offset]? = some v := by have := congrArg (fun l => l[0]?) hY; simpa using this
            have x2 : X.drop (f.offset + 1) = us := by have := congrArg List.tail hX; simpa using this
            have y2 : Y.drop (f.offset + 1) = vs := by have := congrArg List.tail hY; simpa using this
            have ag := plainT_agg h5
            have p1 : ∀ w, (Go.part f.type X.toArray f.offset).run P w = .ok u w := fun w => by simp [Go.part, run_isAgg' hT ag, x1]
            have p2 : ∀ w, (Go.part f.type Y.toArray f.offset).run P w = .ok v w := fun w => by simp [Go.part, run_isAgg' hT ag, y1]
            have q := eq1_ok hT r h5 ha hb q1 d
            simp only [Op.eqFields]
            rw [if_pos hn]
            simp only [Sem.run_bind, p1, p2, Result.andThen_ok, q]
            cases c with
            | false => cases q2; simp
            | true =>
              have := ih (f.offset + 1) ks' as bs e h6 (x2 ▸ ta) (y2 ▸ tb) q2
              simpa using this
/-- Two values are compared as their type says. -/
theorem eqKey_ok (hT : TyOk P T) (r : WR T g h w) {t : TypeId} {k : Kk} {x y : V} {a b : Value} {e : Bool} (hk : keyT T t = some k) (ha : VR g x a) (hb : VR g y b) (hr : eqKey h k x y = some e) : (Op.equal t a b).run P w = .ok e w := by
  obtain ⟨d, h1, h2⟩ := ob_some.1 hk
  have hu := hT.under _ _ h1
  have one : ∀ {k' : Pk}, plainT T t = some k' → k = .one k' → (Op.equal t a b).run P w = .ok e w := by
    intro k' h3 h4
    subst h4
    exact eq1_ok hT r h3 ha hb (by cases x <;> cases y <;> exact hr) 9999
  cases d with
  | struct fs =>
    obtain ⟨h3, h4⟩ := oif_some.1 h2
    obtain ⟨ks, h5, h6⟩ := ob_some.1 h4
    cases h6
    cases x with
    | agg xs => cases y with
      | agg ys =>
        cases ha
        cases hb
        rename_i us hus vs hvs
        have hf : P.fieldsOf t = fs := by simp [Program.fieldsOf, hu]
        show (Op.equalIn (9999 + 1) t _ _).run P w = _
        rw [run_equalIn_agg w 9999 t _ _ (by rw [hf]; exact hu) (hT.free t h3).1, hf]
        exact eqL_ok hT r 9998 us vs fs.toList 0 ks xs ys e h5 (by simpa using hus) (by simpa using hvs) hr
      | _ => cases hr
    | _ => cases hr
  | _ =>
    obtain ⟨k', h3, h4⟩ := ob_some.1 h2
    exact one h3 (Option.some.inj h4).symm
theorem keyT_kind {t : TypeId} {d : TypeDesc} {k : Kk} (h1 : T.under t = some d) (hk : keyT T t = some k) : (∃ fs ks, d = .struct fs ∧ k = .agg ks ∧ T.free t = true) ∨ ((∀ fs, d ≠ .struct fs) ∧ ∃ q, k = .one q ∧ plainT T t = some q) := by
  obtain ⟨d', h2, h3⟩ := ob_some.1 hk
  rw [h1] at h2
  cases h2
  cases d with
  | struct fs =>
    obtain ⟨hf, h4⟩ := oif_some.1 h3
    obtain ⟨ks, h5, h6⟩ := ob_some.1 h4
    cases h6
    exact .inl ⟨fs, ks, rfl, rfl, hf⟩
  | _ =>
    obtain ⟨k', h4, h5⟩ := ob_some.1 h3
    cases h5
    exact .inr ⟨(by intro fs e; cases e), k', rfl, h4⟩
theorem gives_eq (hT : TyOk P T) (r : WR T g h w) {neg : Bool} {t t' : TypeId} {d : TypeDesc} {k : Kk} {x y : Operand} {a b v : V} (h1 : T.under t = some d) (hd : (∃ e, d = .pointer e) ∨ ∃ fs, d = .struct fs) (hk : keyT T t = some k)
    (ha : VR g a (ρ x)) (hb : VR g b (ρ y)) (hr : ROp.run (.eq k neg) [a, b] h = some v) : ∃ u, VR g v u ∧ GivesAt P ρ w (.binOp (Bool.rec (motive := fun _ => BinOp) .eql .neq neg) t x y t') u := by
  obtain ⟨e, h2, h3⟩ := ob_some.1 (show ob (eqKey h k a b) (fun e => some (.bool (Bool.rec (motive := fun _ => Bool) e (!e) neg))) = some v from hr)
  cases h3
  have he := eqKey_ok hT r hk ha hb h2
  refine ⟨_, .bool _, fun o e' => ?_⟩
  have bin : ∀ {u q : Value}, ρ x = u → ρ y = q → ((∃ c, u = .pointer c) ∨ (∃ c c', u = .agg c ∧ q = .agg c')) → (binOp (Bool.rec (motive := fun _ => BinOp) .eql .neq neg) t (ρ x) (ρ y)).run P w = .ok (.bool (Bool.rec (motive := fun _ => Bool) e (!e) neg)) w := by
    intro u q hp hq hc
    rw [hp, hq] at he ⊢
    rcases hc with ⟨c, rfl⟩ | ⟨c, c', rfl, rfl⟩
    · cases neg <;> cases q <;> simp [binOp, he]
    · cases neg <;> simp [binOp, he]
  rcases keyT_kind h1 hk with ⟨fs, ks, rfl, rfl, hf⟩ | ⟨hn, pk, rfl, hp⟩
  · cases a with
    | agg as => cases b with
      | agg bs =>
        cases hx : ρ x <;> rw [hx] at ha <;> cases ha
        cases hy : ρ y <;> rw [hy] at hb <;> cases hb
        have := bin hx hy (.inr ⟨_, _, rfl, rfl⟩)
        rw [hx, hy] at this
        simp only [execOp, e', hx, hy, Sem.run_bind]
        rw [run_eqGuard_agg w _ t x y _ _ (hT.free t hf).2]
        simp [this]
      | _ => cases h2
    | _ => cases h2
  · have hpt : ∃ c, ρ x = .pointer c := by
      rcases hd with ⟨el, rfl⟩ | ⟨fs, rfl⟩
      · obtain ⟨d', q1, q2⟩ := ob_some.1 hp
        rw [h1] at q1
        cases q1
        obtain ⟨_, _, q3⟩ := ob_some.1 q2
        cases q3
        cases a <;> first
          | (cases hx : ρ x <;> rw [hx] at ha <;> cases ha <;> exact ⟨_, rfl⟩)
          | (cases b <;> cases h2)
      · exact absurd rfl (hn fs)
    obtain ⟨c, hx⟩ := hpt
    have := bin hx rfl (.inl ⟨c, rfl⟩)
    simp only [execOp, e', Sem.run_bind]
    rw [eqGuard_run (by rw [hx]; intro cs h; cases h) (by rw [hx]; intro h; cases h)]
    simp [this]
theorem entries_ok (r : WR T g h w) {id b o z : Nat} {es : List (V × V)} (hg : g id = some (b, o, z)) (he : h.entries id = some es) : ∃ m c, w.heap[b]? = some (.map m c) ∧ Ents g es m.toList ∧ ∃ od, h.blk id = some (.map es od) ∧ h.ord id = od ∧ (od = true → Born m.toList c) := by
  unfold H.entries at he
  obtain ⟨k, h1, h2⟩ := ob_some.1 he
  cases k with
  | map es' od =>
    cases h2
    obtain ⟨b', o', z', m, c, k1, k2, k3, k4⟩ := r.blk id _ _ hg h1
    rw [hg] at k1
    cases k1
    exact ⟨m, c, k2, k3, od, h1, by unfold H.ord; rw [h1], k4⟩
  | _ => cases h2
theorem run_getObj_map {b : Nat} {m : Array MapEntry} {c : Nat} (hb : w.heap[b]? = some (.map m c)) : (getObj b).run P w = .ok (.map m c) w := by
  simp [getObj, Sem.run, hb]
theorem gives_lenMap (hT : TyOk P T) (r : WR T g h w) {x : Operand} {t k e : TypeId} {at' : Array TypeId} {a v : V} (h0 : at'[0]? = some t) (h1 : T.under t = some (.map k e)) (ha : VR g a (ρ x)) (hr : ROp.run .lenMap [a] h = some v) :
    ∃ u, VR g v u ∧ ∀ ty : TypeId, (Builtin.len_ at' ty #[ρ x]).run P w = .ok u w := by
  cases a with
  | nilm =>
    cases hr
    cases hx : ρ x <;> rw [hx] at ha <;> cases ha
    exact ⟨_, .int .i64 _, fun ty => by simp [Builtin.len_, h0, run_underlying' hT h1, goInt]⟩
  | map id =>
    obtain ⟨es, h2, h3⟩ := ob_some.1 (show ob (h.entries id) (fun es => some (.int .i64 (Int.ofNat (lenL es)))) = some v from hr)
    cases h3
    cases hx : ρ x <;> rw [hx] at ha <;> cases ha
    rename_i b o z hg
    obtain ⟨m, c, k1, k2, _⟩ := entries_ok r hg h2
    refine ⟨_, .int .i64 _, fun ty => ?_⟩
    have hl := k2.1.length
    simp at hl
    simp [Builtin.len_, h0, run_underlying' hT h1, goInt, run_getObj_map k1, lenL_eq, hl]
  | _ => cases hr
theorem sameNow_eq (hT : TyOk P T) {t : TypeId} {d : TypeDesc} {k : Kk} {x y : V} {a b : Value} {e e' : Bool} (h1 : T.under t = some d) (hk : keyT T t = some k) (ha : VR g x a) (hb : VR g y b) (hr : eqKey h k x y = some e) (hs : Instr.sameNow d a b = some e') : e' = e := by
  have _ := hT
  rcases keyT_kind h1 hk with ⟨fs, ks, rfl, rfl, hf⟩ | ⟨hn, q, rfl, hp⟩
  · cases a <;> cases b <;> cases hs
  · obtain ⟨d', q1, q2⟩ := ob_some.1 hp
    rw [h1] at q1
    cases q1
    have hr' : eq1 h q x y = some e := by cases x <;> cases y <;> exact hr
    cases d with
    | int kd =>
      cases q2
      cases x <;> cases y <;> try (cases hr'; done)
      obtain ⟨m1, m2⟩ := oif_some.1 hr'
      cases m2
      obtain rfl := eqK_eq.1 m1
      rw [ha.int_inv, hb.int_inv] at hs
      simp [Instr.sameNow] at hs
      rw [eqI_eq, ← hs]
    | string =>
      cases q2
      cases x <;> cases y <;> try (cases hr'; done)
      cases hr'
      cases ha
      cases hb
      simp [Instr.sameNow] at hs
      rw [size_eq, size_eq, strEq_eq, ← hs, beq_toListBytes, toList_eq, toList_eq]
    | bool =>
      cases q2
      cases x <;> cases y <;> try (cases hr'; done)
      cases hr'
      rw [ha.bool_inv, hb.bool_inv] at hs
      simp [Instr.sameNow] at hs
      rw [beqB_eq, ← hs]
    | pointer el => cases a <;> cases b <;> cases hs
    | _ => cases q2
/-- Where a key is found. -/
inductive Found (g : G) : Option V → Nat → Option (Nat × Value) → Prop
  | none {i : Nat} : Found g none i none
  | some {v : V} {u : Value} {i j : Nat} (h : VR g v u) (hj : i ≤ j) : Found g (some v) i (some (j, u))
theorem findE_cons (kk : Kk) (k : V) (e : V × V) (es : List (V × V)) : findE h kk k (e :: es) = ob (eqKey h kk k e.1) fun b => Bool.rec (motive := fun _ => Option (Option V)) (findE h kk k es) (some (some e.2)) b := rfl
theorem find_ok (hT : TyOk P T) (r : WR T g h w) {t : TypeId} {d : TypeDesc} {kk : Kk} {x : V} {a : Value} (h1 : T.under t = some d) (hk : keyT T t = some kk) (ha : VR g x a) :
    ∀ (es : List (V × V)) (m : List MapEntry) (i : Nat) (res : Option V), Ents g es m → findE h kk x es = some res → ∃ q, Found g res i q ∧ (Instr.findAsking t a m i).run P w = .ok q w ∧ ∀ q', Instr.findNow d a m i = some q' → q' = q := by
  intro es
  induction es with
  | nil =>
    intro m i res hm hr
    cases hr
    cases m with
    | nil => exact ⟨_, .none, by simp [Instr.findAsking], fun q' e => by simp [Instr.findNow] at e; exact e.symm⟩
    | cons => have := hm.1.length; simp at this
  | cons e es ih =>
    intro m i res hm hr
    cases m with
    | nil => have := hm.1.length; simp at this
    | cons f m =>
      rw [findE_cons] at hr
      obtain ⟨b, h2, h3⟩ := ob_some.1 hr
      obtain ⟨hm1, hm2⟩ := hm
      cases hm1 with
      | cons hk1 ht1 => cases hm2 with
        | cons hv1 hv2 =>
          have heq := eqKey_ok hT r hk ha hk1 h2
          cases b with
          | true =>
            cases h3
            refine ⟨_, .some hv1 (Nat.le_refl i), by simp [Instr.findAsking, heq], fun q' e' => ?_⟩
            simp only [Instr.findNow] at e'
            cases hs : Instr.sameNow d a f.key with
            | none => rw [hs] at e'; cases e'
            | some s =>
              rw [sameNow_eq hT h1 hk ha hk1 h2 hs] at hs
              rw [hs] at e'
              exact (Option.some.inj e').symm
          | false =>
            obtain ⟨q, f1, f2, f3⟩ := ih m (i + 1) res ⟨ht1, hv2⟩ h3
            refine ⟨q, ?_, by simp [Instr.findAsking, heq, f2], fun q' e' => ?_⟩
            · cases f1 with
              | none => exact .none
              | some h hj => exact .some h (by omega)
            · simp only [Instr.findNow] at e'
              cases hs : Instr.sameNow d a f.key with
              | none => rw [hs] at e'; cases e'
              | some s =>
                rw [sameNow_eq hT h1 hk ha hk1 h2 hs] at hs
                rw [hs] at e'
                exact f3 q' e'
theorem findKey_ok (hT : TyOk P T) (r : WR T g h w) {t : TypeId} {d : TypeDesc} {kk : Kk} {x : V} {a : Value} {es : List (V × V)} {m : List MapEntry} {res : Option V} (h1 : T.under t = some d) (hk : keyT T t = some kk) (ha : VR g x a) (hm : Ents g es m)
    (hr : findE h kk x es = some res) : ∃ q, Found g res 0 q ∧ (Instr.findKey t a m).run P w = .ok q w := by
  obtain ⟨q, f1, f2, f3⟩ := find_ok hT r h1 hk ha es m 0 res hm hr
  refine ⟨q, f1, ?_⟩
  simp only [Instr.findKey, Sem.run_bind, run_underlying' hT h1, Result.andThen_ok]
  cases hn : Instr.findNow d a m 0 with
  | none => exact f2
  | some q' => rw [f3 q' hn]; rfl
theorem checkKey_plain (hT : TyOk P T) {t : TypeId} {k : Pk} (hk : plainT T t = some k) (e : Bool) (n : Nat) (v : Value) : (Instr.checkKey e (n + 1) t v).run P w = .ok () w := by
  obtain ⟨d, h1, h2⟩ := ob_some.1 hk
  cases d <;> first | (cases h2; done) | (cases v <;> simp [Instr.checkKey, run_underlying' hT h1])
theorem checkFields_ok (hT : TyOk P T) (e : Bool) (n : Nat) (X : List Value) : ∀ (fs : List Field) (i : Nat) (ks : List Pk), flatFrom T fs i = some ks → i + ks.length ≤ X.length →
    (forIn (m := Sem) fs PUnit.unit fun f (_ : PUnit) => if f.name ≠ "_" then do let __do_lift ← Go.part f.type X.toArray f.offset; Instr.checkKey e (n + 1) f.type __do_lift; pure (ForInStep.yield PUnit.unit) else pure (ForInStep.yield PUnit.unit)).run P w = .ok PUnit.unit w := by
  intro fs
  induction fs with
  | nil => intro i ks h _; simp
  | cons f fs ih =>
    intro i ks h hl
    obtain ⟨rfl, hn, k, ks', h5, h6, rfl⟩ := flatFrom_cons h
    simp only [List.length_cons] at hl
    have p1 : (Go.part f.type X.toArray f.offset).run P w = .ok X[f.offset] w := by
      have : X[f.offset]? = some X[f.offset] := List.getElem?_eq_getElem (by omega)
      simp [Go.part, run_isAgg' hT (plainT_agg h5), this]
    rw [List.forIn_cons]
    simp only [if_pos hn, Sem.run_bind, p1, Result.andThen_ok, checkKey_plain hT h5, Sem.run_pure]
    exact ih (f.offset + 1) ks' h6 (by omega)
theorem checkKey_struct (hT : TyOk P T) {t : TypeId} {fs : Array Field} {ks : List Pk} {us : List Value} (h1 : T.under t = some (.struct fs)) (hk : flatFrom T fs.toList 0 = some ks) (hl : ks.length ≤ us.length) (e : Bool) (n : Nat) : (Instr.checkKey e (n + 1 + 1) t (.agg us.toArray)).run P w = .ok () w := by
  have := checkFields_ok (w := w) hT e n us fs.toList 0 ks hk (by omega)
  rw [Array.forIn_toList] at this
  rw [Instr.checkKey]
  simp only [Sem.run_bind, run_underlying' hT h1, Result.andThen_ok]
  rw [this]
  rfl
theorem checkKey_ok (hT : TyOk P T) {t : TypeId} {kk : Kk} {x : V} {a : Value} (hk : keyT T t = some kk) (ha : VR g x a) (hr : keyShape kk x = true) (e : Bool) : (Instr.checkKey e 10000 t a).run P w = .ok () w := by
  obtain ⟨d, h1, _⟩ := ob_some.1 hk
  rcases keyT_kind h1 hk with ⟨fs, ks, rfl, rfl, hf⟩ | ⟨hn, pk, rfl, hp⟩
  · obtain ⟨d', m1, m2⟩ := ob_some.1 hk
    rw [h1] at m1
    cases m1
    obtain ⟨_, m3⟩ := oif_some.1 m2
    obtain ⟨ks', m4, m5⟩ := ob_some.1 m3
    cases m5
    cases x with
    | agg xs =>
      cases ha
      rename_i us hus
      have hl : ks.length = xs.length := by
        have : Nat.beq (lenL ks) (lenL xs) = true := hr
        simpa [lenL_eq] using this
      have hl2 := hus.length
      exact checkKey_struct hT h1 m4 (by omega) e 9998
    | _ => cases hr
  · exact checkKey_plain hT hp e 9999 a
theorem gives_lookup (hT : TyOk P T) (r : WR T g h w) {t kt e : TypeId} {kk : Kk} {ok : Bool} {z : V} {x y : Operand} {a b v : V} (h1 : T.under t = some (.map kt e)) (hk : keyT T kt = some kk) (hz : zeroT T e = some z)
    (ha : VR g a (ρ x)) (hb : VR g b (ρ y)) (hr : ROp.run (.lookup kk ok z) [a, b] h = some v) : ∃ u, VR g v u ∧ GivesAt P ρ w (.lookup t x y ok) u := by
  obtain ⟨zu, hzu, hzr⟩ := zeroT_ok (g := g) hT hz
  obtain ⟨d, hd, _⟩ := ob_some.1 hk
  cases a with
  | nilm =>
    obtain ⟨q1, q2⟩ := oif_some.1 (show oif (keyShape kk b) (some (lookRes ok z none)) = some v from hr)
    cases q2
    have hx : ρ x = .map none := by cases hx : ρ x <;> rw [hx] at ha <;> cases ha; rfl
    obtain ⟨q, f1, f2⟩ := findKey_ok hT r hd hk hb (es := []) (m := []) ⟨.nil, .nil⟩ rfl
    have hc := fun em => checkKey_ok (w := w) hT hk hb q1 em
    cases f1
    cases ok with
    | false => exact ⟨zu, hzu, fun o e' => by simp [execOp, e', hx, Instr.lookup, run_underlying' hT h1, hc, f2, hzr]⟩
    | true => exact ⟨_, .tup (.cons hzu (.cons (.bool false) .nil)), fun o e' => by simp [execOp, e', hx, Instr.lookup, run_underlying' hT h1, hc, f2, hzr]⟩
  | map id =>
    obtain ⟨q1, q2⟩ := oif_some.1 (show oif (keyShape kk b) (ob (h.entries id) fun es => ob (findE h kk b es) fun r => some (lookRes ok z r)) = some v from hr)
    obtain ⟨es, q3, q4⟩ := ob_some.1 q2
    obtain ⟨res, q5, q6⟩ := ob_some.1 q4
    cases q6
    obtain ⟨bl, o, zz, hg, hx⟩ : ∃ bl o zz, g id = some (bl, o, zz) ∧ ρ x = .map (some bl) := by
      cases hx : ρ x <;> rw [hx] at ha <;> cases ha
      exact ⟨_, _, _, ‹_›, rfl⟩
    obtain ⟨m, c, k1, k2, _⟩ := entries_ok r hg q3
    obtain ⟨q, f1, f2⟩ := findKey_ok hT r hd hk hb k2 q5
    have hc := fun em => checkKey_ok (w := w) hT hk hb q1 em
    cases f1 with
    | none =>
      cases ok with
      | false => exact ⟨zu, hzu, fun o e' => by simp [execOp, e', hx, Instr.lookup, run_underlying' hT h1, run_getObj_map k1, hc, f2, hzr]⟩
      | true => exact ⟨_, .tup (.cons hzu (.cons (.bool false) .nil)), fun o e' => by simp [execOp, e', hx, Instr.lookup, run_underlying' hT h1, run_getObj_map k1, hc, f2, hzr]⟩
    | some hvu _ =>
      cases ok with
      | false => exact ⟨_, hvu, fun o e' => by simp [execOp, e', hx, Instr.lookup, run_underlying' hT h1, run_getObj_map k1, hc, f2]⟩
      | true => exact ⟨_, .tup (.cons hvu (.cons (.bool true) .nil)), fun o e' => by simp [execOp, e', hx, Instr.lookup, run_underlying' hT h1, run_getObj_map k1, hc, f2]⟩
  | _ => cases hr
theorem bytesOf_cons (v : V) (l : List V) : bytesOf (v :: l) = match v with
    | .int .u8 n => Int.rec (motive := fun _ => Option Nat) (fun m => ob (bytesOf l) fun r => some (Nat.add (Nat.mod m 256) (Nat.mul 256 r))) (fun _ => none) n
    | _ => none := rfl
theorem bytesOf_ok : ∀ {l : List V} {us : List Value} {c : Nat}, VRs g l us → bytesOf l = some c → ∃ xs : List Int, us = xs.map (Value.int .u8) ∧ natOf (strOfNums xs).data.toList = c
  | [], _, _, .nil, e => by cases e; exact ⟨[], rfl, rfl⟩
  | v :: l, _, _, .cons h t, e => by
    rw [bytesOf_cons] at e
    cases v with
    | int k n =>
      cases k with
      | u8 =>
        cases n with
        | ofNat m =>
          obtain ⟨r, e1, e2⟩ := ob_some.1 (show ob (bytesOf l) (fun r => some (Nat.add (Nat.mod m 256) (Nat.mul 256 r))) = some _ from e)
          cases e2
          obtain ⟨xs, k1, k2⟩ := bytesOf_ok t e1
          have := h.int_inv
          subst this
          refine ⟨Int.ofNat m :: xs, by rw [k1]; rfl, ?_⟩
          rw [strOfNums_data] at k2 ⊢
          show (UInt8.ofNat (Int.ofNat m).toNat).toNat + 256 * natOf (xs.map fun n => UInt8.ofNat n.toNat) = _
          rw [k2]
          simp
          rfl
        | negSucc m => cases e
      | _ => cases e
    | _ => cases e
theorem gives_b2s (hT : TyOk P T) (r : WR T g h w) {s d e : TypeId} {x : Operand} {vs : List V} {v : V} (h1 : T.under s = some (.slice e)) (h2 : T.under e = some (.int .u8)) (h3 : T.under d = some .string) (hv : VRs g vs [ρ x]) (hr : ROp.run .b2s vs h = some v) :
    ∃ u, VR g v u ∧ GivesAt P ρ w (.convert s d x) u := by
  obtain ⟨y, rfl, hy⟩ := hv.one
  cases y with
  | nils =>
    cases hr
    cases hx : ρ x <;> rw [hx] at hy <;> cases hy
    refine ⟨.string ByteArray.empty, .str ByteArray.empty, fun o e' => ?_⟩
    simp [execOp, e', hx, run_convert_bytes_nil w s e (hT.under _ _ h1) (hT.under _ _ h2) 0 0 d (hT.under _ _ h3)]
  | sl id off len cap ex es =>
    obtain ⟨q1, q2⟩ := oif_some.1 (show oif (Nat.beq es 1) (ob (h.rd id off len) fun l => ob (bytesOf l) fun c => some (.str len c)) = some v from hr)
    obtain ⟨l, q3, q4⟩ := ob_some.1 q2
    obtain ⟨c, q5, q6⟩ := ob_some.1 q4
    cases q6
    have fin : ∀ {b o z len' : Nat}, g id = some (b, o, z) → ρ x = .slice (some ⟨b, o + off, none⟩) len len' → ∃ u, VR g (.str len c) u ∧ GivesAt P ρ w (.convert s d x) u := by
      intro b o z len' hg hx
      obtain ⟨us, m1, m2, m3, _⟩ := rd_ok r hg q3
      obtain ⟨xs, n1, n2⟩ := bytesOf_ok m1 q5
      have hl : xs.length = len := by rw [← m2, n1]; simp
      have hs : (strOfNums xs).size = len := by rw [strOfNums_size, hl]
      refine ⟨.string (strOfNums xs), ?_, fun o' e' => ?_⟩
      · have := VR.str (g := g) (strOfNums xs)
        rwa [hs, n2] at this
      · have := run_convert_bytes_arg (P := P) w s e (hT.under _ _ h1) (hT.under _ _ h2) b (o + off) len len' xs hl (fun i hi => by
          have hi' : i < xs.length := by omega
          refine m3 i _ ?_
          rw [n1]
          simp [List.getD, List.getElem?_eq_getElem hi']) d (hT.under _ _ h3)
        simp [execOp, e', hx, this]
    cases hx : ρ x <;> rw [hx] at hy <;> cases hy
    · exact fin ‹_› hx
    · exact fin ‹_› hx
    all_goals
      refine ⟨.string ByteArray.empty, ?_, fun o e' => ?_⟩
      · have hl : l = [] := by
          have : h.rd id off 0 = some l := q3
          unfold H.rd at this
          obtain ⟨p, _, k⟩ := ob_some.1 this
          cases k
          rfl
        subst hl
        cases q5
        exact .str ByteArray.empty
      · have key := fun b p : Nat => run_convert_bytes_arg (P := P) w s e (hT.under _ _ h1) (hT.under _ _ h2) b p 0 0 [] rfl (fun i hi => absurd hi (Nat.not_lt_zero _)) d (hT.under _ _ h3)
        simp [execOp, e', hx, key]
        rfl
  | _ => cases hr
end
end Ev
end Go.Proofs.YtogbcielgfidlaaGreatDoor
namespace Go.Proofs.YtogbcielgfidlaaGreatDoor
set_option linter.unusedVariables false
set_option linter.unusedSimpArgs false
namespace Ev
variable [Opq]
set_option linter.unusedSectionVars false
section
variable {P : Program} {T : Ty} {g : G} {ρ : Operand → Value} {h : H} {w : World}

theorem R_ok (hT : TyOk P T) (r : WR T g h w) {op : Op} {ro : ROp} {os : List Operand} (hc : compOp T op = some (.r ro, os)) {vs : List V} {v : V} (hv : VRs g vs (os.map ρ)) (hr : ro.run vs h = some v) : ∃ u, VR g v u ∧ GivesAt P ρ w op u := by
  cases op
  case load t x =>
    simp only [compOp] at hc
    obtain ⟨b, h1, h2⟩ := ob_some.1 hc
    obtain ⟨n, h3, h4⟩ := ob_some.1 h2
    cases h4
    obtain ⟨u, k1, _, k3⟩ := gives_load hT r h1 h3 hv hr
    exact ⟨u, k1, k3⟩
  case binOp op t x y t' =>
    have eq2 : ∀ {neg cst : Bool} {d : TypeDesc}, T.under t = some d → eqOp T t neg cst d = some (.r ro) → os = [x, y] → ∃ u, VR g v u ∧ GivesAt P ρ w (.binOp (Bool.rec (motive := fun _ => BinOp) .eql .neq neg) t x y t') u := by
      intro neg cst d h1 h2 h3
      subst h3
      obtain ⟨a, b, rfl, ha, hb⟩ := hv.two
      cases d with
      | interface e => obtain ⟨h4, h5⟩ := oif_some.1 h2; cases h5
      | pointer e => obtain ⟨k, h4, h5⟩ := ob_some.1 h2; cases h5; exact gives_eq hT r h1 (.inl ⟨_, rfl⟩) h4 ha hb hr
      | struct fs => obtain ⟨k, h4, h5⟩ := ob_some.1 h2; cases h5; exact gives_eq hT r h1 (.inr ⟨_, rfl⟩) h4 ha hb hr
      | _ => cases h2
    cases op
    case eql =>
      simp only [compOp] at hc
      obtain ⟨d, h1, h2⟩ := ob_some.1 hc
      obtain ⟨c, h3, h4⟩ := ob_some.1 h2
      cases h4
      exact eq2 (neg := false) h1 h3 rfl
    case neq =>
      simp only [compOp] at hc
      obtain ⟨d, h1, h2⟩ := ob_some.1 hc
      obtain ⟨c, h3, h4⟩ := ob_some.1 h2
      cases h4
      exact eq2 (neg := true) h1 h3 rfl
    all_goals cases hc
  case lookup t x k ok =>
    simp only [compOp] at hc
    obtain ⟨d, h1, h2⟩ := ob_some.1 hc
    cases d with
    | map kt e =>
      obtain ⟨kk, h3, h4⟩ := ob_some.1 h2
      obtain ⟨z, h5, h6⟩ := ob_some.1 h4
      cases h6
      obtain ⟨a, b, rfl, ha, hb⟩ := hv.two
      exact gives_lookup hT r h1 h3 h5 ha hb hr
    | _ => cases h2
  case call c =>
    obtain ⟨callee, args, argTypes⟩ := c
    simp only [compOp] at hc
    cases callee with
    | value x => cases x <;> cases hc
    | invoke r m => cases hc
    | builtin b =>
      obtain ⟨t, h1, h2⟩ := ob_some.1 hc
      obtain ⟨d, h3, h4⟩ := ob_some.1 h2
      have h1' : argTypes[0]? = some t := by rw [nthL_eq] at h1; simpa using h1
      cases b
      case len =>
        cases d with
        | map k e =>
          cases h4
          have hone : ∃ a, vs = [a] := by
            cases vs with
            | nil => cases hr
            | cons a vs => cases vs with
              | nil => exact ⟨a, rfl⟩
              | cons b vs => cases a <;> cases hr
          obtain ⟨a, rfl⟩ := hone
          obtain ⟨x, hx⟩ : ∃ x, args.toList = [x] := by
            have := hv.length
            simp at this
            cases ha : args.toList with
            | nil => rw [← Array.length_toList, ha] at this; cases this
            | cons x l => cases l with
              | nil => exact ⟨x, rfl⟩
              | cons y l => rw [← Array.length_toList, ha] at this; simp at this
          rw [hx] at hv
          obtain ⟨a', e', h⟩ := hv.one
          cases e'
          obtain ⟨u, k1, k2⟩ := gives_lenMap hT r h1' h3 h hr
          have ha : args.map ρ = #[ρ x] := by apply Array.ext'; simp [hx]
          exact ⟨u, k1, fun o e => by simp [execOp, e, resolve, invoke, builtin, ha, k2]⟩
        | _ => cases h4
      case append =>
        cases d with
        | slice e =>
          obtain ⟨n, _, a1⟩ := ob_some.1 h4
          obtain ⟨_, _, a2⟩ := ob_some.1 a1
          obtain ⟨_, _, a3⟩ := ob_some.1 a2
          obtain ⟨_, a4⟩ := oif_some.1 a3
          obtain ⟨_, _, a5⟩ := ob_some.1 a4
          obtain ⟨_, _, a6⟩ := ob_some.1 a5
          split at a6 <;> cases a6
        | _ => cases h4
      case copy =>
        cases d with
        | slice e =>
          obtain ⟨n, _, a1⟩ := ob_some.1 h4
          cases a1
        | _ => cases h4
      case clear =>
        cases d with
        | slice e =>
          obtain ⟨n, _, a1⟩ := ob_some.1 h4
          obtain ⟨_, _, a2⟩ := ob_some.1 a1
          cases a2
        | _ => cases h4
      case delete =>
        cases d with
        | map k e =>
          obtain ⟨_, _, a1⟩ := ob_some.1 h4
          cases a1
        | _ => cases h4
      all_goals (cases d <;> cases h4)
  case alloc t =>
    simp only [compOp] at hc
    obtain ⟨_, _, h⟩ := ob_some.1 hc
    cases h
  case build t ps =>
    simp only [compOp] at hc
    obtain ⟨z, h1, h2⟩ := ob_some.1 hc
    obtain ⟨d, h3, h4⟩ := ob_some.1 h2
    cases d with
    | struct fs =>
      obtain ⟨pl, h5, h6⟩ := ob_some.1 h4
      obtain ⟨l, h7, h8⟩ := ob_some.1 h6
      cases h8
    | array k e =>
      obtain ⟨n, h5, h6⟩ := ob_some.1 h4
      cases h6
    | _ => cases h4
  case buildSlice t n ps =>
    simp only [compOp] at hc
    obtain ⟨d, _, h⟩ := ob_some.1 hc
    cases d with
    | slice e =>
      obtain ⟨_, _, a1⟩ := ob_some.1 h
      obtain ⟨_, _, a2⟩ := ob_some.1 a1
      obtain ⟨_, a3⟩ := oif_some.1 a2
      cases a3
    | _ => cases h
  case insert t m k x =>
    simp only [compOp] at hc
    obtain ⟨d, _, h⟩ := ob_some.1 hc
    cases d with
    | map k e =>
      obtain ⟨_, _, a1⟩ := ob_some.1 h
      cases a1
    | _ => cases h
  case mapEntry t m k =>
    simp only [compOp] at hc
    obtain ⟨d, _, h⟩ := ob_some.1 hc
    cases d with
    | map k e =>
      obtain ⟨_, _, a1⟩ := ob_some.1 h
      obtain ⟨_, _, a2⟩ := ob_some.1 a1
      cases a2
    | _ => cases h
  case mapUpdate t m k x =>
    simp only [compOp] at hc
    obtain ⟨d, _, h⟩ := ob_some.1 hc
    cases d with
    | map k e =>
      obtain ⟨_, _, a1⟩ := ob_some.1 h
      cases a1
    | _ => cases h
  case store t a x =>
    simp only [compOp] at hc
    obtain ⟨_, _, a1⟩ := ob_some.1 hc
    cases a1
  case convert s d x =>
    simp only [compOp] at hc
    obtain ⟨a, h1, h2⟩ := ob_some.1 hc
    obtain ⟨b, h3, h4⟩ := ob_some.1 h2
    cases a with
    | slice e =>
      cases b with
      | string =>
        obtain ⟨e1, rfl, e2, e3⟩ := b2sOp_some h4
        cases e1
        exact gives_b2s hT r h1 e2 h3 hv hr
      | _ => cases h4
    | _ => cases b <;> cases h4
  case makeInterface t x =>
    simp only [compOp] at hc
    obtain ⟨d, h1, h2⟩ := ob_some.1 hc
    cases d <;> cases h2
  case makeFunc fn a b => cases fn <;> cases hc
  case makeMap t r =>
    simp only [compOp] at hc
    obtain ⟨d, _, h⟩ := ob_some.1 hc
    cases d <;> cases h
  case makeSlice t l c =>
    simp only [compOp] at hc
    obtain ⟨d, _, h⟩ := ob_some.1 hc
    cases d with
    | slice e =>
      obtain ⟨_, _, a1⟩ := ob_some.1 h
      obtain ⟨_, _, a2⟩ := ob_some.1 a1
      obtain ⟨_, _, a3⟩ := ob_some.1 a2
      obtain ⟨_, a4⟩ := oif_some.1 a3
      cases a4
    | _ => cases h
  case slice t x lo hi mx =>
    simp only [compOp] at hc
    obtain ⟨d, _, h⟩ := ob_some.1 hc
    cases d with
    | string => cases h
    | slice e => obtain ⟨_, _, a1⟩ := ob_some.1 h; cases a1
    | array k e => obtain ⟨_, _, a1⟩ := ob_some.1 h; cases a1
    | _ => cases h
  case fieldAddr t x i =>
    simp only [compOp] at hc
    obtain ⟨d, _, h⟩ := ob_some.1 hc
    cases d with
    | struct fs =>
      obtain ⟨_, _, a1⟩ := ob_some.1 h
      obtain ⟨_, _, a2⟩ := ob_some.1 a1
      cases a2
    | _ => cases h
  case field t x i =>
    simp only [compOp] at hc
    obtain ⟨d, _, h⟩ := ob_some.1 hc
    cases d with
    | struct fs =>
      obtain ⟨_, _, a1⟩ := ob_some.1 h
      obtain ⟨_, _, a2⟩ := ob_some.1 a1
      obtain ⟨_, _, a3⟩ := ob_some.1 a2
      cases a3
    | _ => cases h
  case indexAddr t x i =>
    simp only [compOp] at hc
    obtain ⟨d, _, h⟩ := ob_some.1 hc
    cases d with
    | slice e => obtain ⟨_, _, a1⟩ := ob_some.1 h; cases a1
    | array k e => obtain ⟨_, _, a1⟩ := ob_some.1 h; cases a1
    | _ => cases h
  case index t x i =>
    simp only [compOp] at hc
    obtain ⟨d, _, h⟩ := ob_some.1 hc
    cases d with
    | string => cases h
    | array k e =>
      obtain ⟨_, _, a1⟩ := ob_some.1 h
      obtain ⟨_, _, a2⟩ := ob_some.1 a1
      cases a2
    | _ => cases h
  case range t x =>
    simp only [compOp] at hc
    obtain ⟨d, _, h⟩ := ob_some.1 hc
    cases d <;> cases h
  case next x b => cases b <;> cases hc
  all_goals cases hc
end
end Ev
end Go.Proofs.YtogbcielgfidlaaGreatDoor
namespace Go.Proofs.YtogbcielgfidlaaGreatDoor
set_option linter.unusedVariables false
set_option linter.unusedSimpArgs false
namespace Ev
variable [Opq]
set_option linter.unusedSectionVars false
section
variable {P : Program} {T : Ty} {g : G} {ρ : Operand → Value}

theorem trOf_get : ∀ (l : List V) (i : Nat) (t : Tr V) (j : Nat), i + l.length ≤ keys → (trOf l i t).get j = if i ≤ j ∧ j < i + l.length then l[j - i]? else t.get j
  | [], i, t, j, _ => by
    rw [if_neg (by simp only [List.length_nil]; omega)]
    rfl
  | v :: l, i, t, j, h => by
    simp only [List.length_cons] at h
    show (trOf l (i + 1) (t.put i (some v))).get j = _
    rw [trOf_get l (i + 1) _ j (by omega), Tr.get_put t i j _ (by omega)]
    simp only [List.length_cons]
    by_cases h1 : j = i
    · subst h1
      rw [if_neg (by omega), if_pos rfl, if_pos (by omega)]
      simp
    · by_cases h2 : i + 1 ≤ j ∧ j < i + 1 + l.length
      · rw [if_pos h2, if_pos (by omega)]
        rw [show j - i = (j - (i + 1)) + 1 by omega, List.getElem?_cons_succ]
      · rw [if_neg h2, if_neg h1, if_neg (by omega)]
theorem allOne_mem : ∀ {l : List V}, allOne l = true → ∀ v, v ∈ l → oneCell v = true
  | [], _, v, h => by cases h
  | x :: l, ha, v, h => by
    have ha : Bool.rec (motive := fun _ => Bool) false (allOne l) (oneCell x) = true := ha
    rw [brec_eq] at ha
    split at ha
    · rename_i hx
      cases h with
      | head => exact hx
      | tail _ h => exact allOne_mem ha v h
    · cases ha
/-- What a new block is, on both sides: the model's object, its cells, and the value that names it. -/
structure Makes (P : Program) (T : Ty) (g : G) (ρ : Operand → Value) (op : Op) (blk : Blk) (mk : Nat → V) : Prop where
  kin : blk.kin = none ∨ blk.kin = some (none, false)
  live : blk.live = true
  ro : ∀ n cs, blk ≠ .ro n cs
  make : ∃ (obj : Obj) (z : Nat) (val : Nat → Value), (∀ (w : World) (o : Oper), o.op = op → (execOp ρ o).run P w = .ok (.value (val w.heap.size)) (w.alloc obj)) ∧
    (∀ (g' : G) (id b : Nat), g.le g' → g' id = some (b, 0, z) → VR g' (mk id) (val b)) ∧
    (∀ (g' : G) (w' : World) (id b : Nat), g.le g' → g' id = some (b, 0, z) → w'.heap[b]? = some obj → BR T g' w' id blk)
theorem cellsBlk_ok {l : List V} {blk : Blk} {us : List Value} (hl : VRs g l us) (hb : cellsBlk l = some blk) :
    (blk.kin = some (none, false) ∧ blk.live = true ∧ ∀ n cs, blk ≠ .ro n cs) ∧ ∀ (t : TypeId) (g' : G) (w' : World) (id b : Nat), g.le g' → g' id = some (b, 0, us.length) → w'.heap[b]? = some (.cells us.toArray t (0, 0)) → BR T g' w' id blk := by
  obtain ⟨h1, h2⟩ := oif_some.1 hb
  obtain ⟨h3, h4⟩ := oif_some.1 h2
  cases h4
  rw [lenL_eq] at h3
  have hk : l.length < keys := by simpa using h3
  refine ⟨⟨rfl, rfl, fun _ _ e => by cases e⟩, fun t g' w' id b hg hid hw => ?_⟩
  have hlen := hl.length
  refine ⟨b, 0, us.length, us.toArray, t, hid, hw, by simp, by rw [lenL_eq]; omega, by rw [lenL_eq]; omega, fun j v hj hv => ?_⟩
  rw [trOf_get l 0 _ j (by omega)] at hv
  rw [lenL_eq] at hj
  rw [if_pos (by omega)] at hv
  simp only [Nat.sub_zero] at hv
  obtain ⟨u, k1, k2⟩ := (hl.mono hg).get hv
  exact ⟨u, by simpa using k1, k2, allOne_mem h1 v (List.mem_of_getElem? hv)⟩
theorem makes_alloc (hT : TyOk P T) {t : TypeId} {z : V} {blk : Blk} (hz : zeroT T t = some z) (hb : cellsBlk (cellsOf z) = some blk) : Makes P T g ρ (.alloc t) blk (fun i => .ptr i 0) := by
  obtain ⟨zu, hzu, hzr⟩ := zeroT_ok (g := g) hT hz
  obtain ⟨⟨k1, k2, k3⟩, k4⟩ := cellsBlk_ok (T := T) (cells_ok hzu) hb
  refine ⟨.inr k1, k2, k3, .cells zu.cells t, zu.cells.toList.length, fun b => .pointer (some ⟨b, 0, none⟩), fun w o e => ?_, fun g' id b hg hid => ?_, fun g' w' id b hg hid hw => k4 t g' w' id b hg hid (by simpa using hw)⟩
  · simp [execOp, e, Instr.alloc, hzr, newVar, newRow]
  · exact .ptr (off := 0) hid
theorem makes_box {t : TypeId} {x : Operand} {v : V} {blk : Blk} (hv : VR g v (ρ x)) (hb : cellsBlk (cellsOf v) = some blk) : Makes P T g ρ (.box t x) blk (fun i => .ptr i 0) := by
  obtain ⟨⟨k1, k2, k3⟩, k4⟩ := cellsBlk_ok (T := T) (cells_ok hv) hb
  refine ⟨.inr k1, k2, k3, .cells (ρ x).cells t, (ρ x).cells.toList.length, fun b => .pointer (some ⟨b, 0, none⟩), fun w o e => ?_, fun g' id b hg hid => ?_, fun g' w' id b hg hid hw => k4 t g' w' id b hg hid (by simpa using hw)⟩
  · simp [execOp, e, Instr.box, newVar, newRow]
  · exact .ptr (off := 0) hid
theorem makes_mkm {t : TypeId} {blk : Blk} (hb : blk = .map [] true) : Makes P T g ρ (.makeMap t none) blk (fun i => .map i) := by
  subst hb
  refine ⟨.inl rfl, rfl, (fun _ _ e => by cases e), .map #[] 0, 0, fun b => .map (some b), fun w o e => ?_, fun g' id b hg hid => .map hid, fun g' w' id b hg hid hw => ⟨b, 0, 0, #[], 0, hid, hw, ⟨.nil, .nil⟩, fun _ => Born.nil⟩⟩
  simp [execOp, e, Instr.makeMap]
theorem makes_rangeS (hT : TyOk P T) {t : TypeId} {x : Operand} {n c : Nat} (h1 : T.under t = some .string) (hv : VR g (.str n c) (ρ x)) : Makes P T g ρ (.range t x) (.siter n c 0) (fun i => .ptr i 0) := by
  cases hx : ρ x <;> rw [hx] at hv <;> cases hv
  rename_i s
  refine ⟨.inl rfl, rfl, (fun _ _ e => by cases e), .stringIter s 0, 0, fun b => .pointer (some ⟨b, 0, none⟩), fun w o e => ?_, fun g' id b hg hid => .ptr (off := 0) hid, fun g' w' id b hg hid hw => ⟨b, 0, 0, s, hid, hw, rfl, rfl, rfl⟩⟩
  simp [execOp, e, hx, Instr.range, run_underlying' hT h1]
theorem repL_succ (z : List V) (n : Nat) : repL z (n + 1) = z ++ repL z n := rfl
theorem rep_ok {z : List V} {zs : Array Value} (hz : VRs g z zs.toList) (hp : 0 < zs.size) : ∀ n : Nat, VRs g (repL z n) ((List.range (n * zs.size)).map fun i => zs[i % zs.size]!)
  | 0 => by
    rw [Nat.zero_mul]
    exact VRs.nil
  | n + 1 => by
    have ih := rep_ok hz hp n
    rw [repL_succ, show (n + 1) * zs.size = zs.size + n * zs.size by rw [Nat.add_mul]; omega, List.range_add, List.map_append]
    refine VRs.append ?_ ?_
    · have : (List.range zs.size).map (fun i => zs[i % zs.size]!) = zs.toList := by
        apply List.ext_getElem
        · simp
        · intro i h1 h2
          simp at h1
          simp [Nat.mod_eq_of_lt h1, h1]
      rw [this]
      exact hz
    · rw [List.map_map]
      have : ((fun i => zs[i % zs.size]!) ∘ fun x => zs.size + x) = fun i => zs[i % zs.size]! := by
        funext x
        simp
      rw [this]
      exact ih
theorem makes_bslice (hT : TyOk P T) {t e : TypeId} {n len : Nat} {z : V} {ps : Array (Nat × Operand)} {vs cs : List V} {blk : Blk} (h1 : T.under t = some (.slice e)) (hn : posT T e = some n) (hz : zeroT T e = some z) (hl : len * n < 1048576)
    (hs : (cellsOf z).length = n) (hv : VRs g vs ((ps.toList.map (·.2)).map ρ)) (hr : fills (ps.toList.map fun p => (Nat.mul p.1 n, n)) vs (repL (cellsOf z) len) = some cs) (hb : cellsBlk cs = some blk) :
    Makes P T g ρ (.buildSlice t len ps) blk (fun i => .sl i 0 len len true n) := by
  obtain ⟨zu, hzu, hzr⟩ := zeroT_ok (g := g) hT hz
  obtain ⟨hsz, hp⟩ := posT_size hn
  have hc := cells_ok hzu
  have hzl := hc.length
  simp at hzl
  have hrep := rep_ok hc (by omega) len
  rw [List.map_map] at hv
  obtain ⟨zs', k1, k2⟩ := fills_ok (place := fun i => some (i * n, n)) (zs := (Array.range (len * n)).map fun i => zu.cells[i % zu.cells.size]!) (fun i p q e1 e2 => by
    rw [List.getElem?_map, e1] at e2
    simpa using e2) (by simp) hv (by rw [show zu.cells.size = n by omega] at hrep; simpa [show zu.cells.size = n by omega] using hrep) hr
  obtain ⟨⟨m1, m2, m3⟩, m4⟩ := cellsBlk_ok (T := T) k2 hb
  refine ⟨.inr m1, m2, m3, .cells zs' e, zs'.toList.length, fun b => .slice (some ⟨b, 0, none⟩) len len, fun w o e' => ?_, fun g' id b hg hid => .slx (off := 0) hid, fun g' w' id b hg hid hw => m4 e g' w' id b hg hid (by simpa using hw)⟩
  have hno : ¬ len * n > 2 ^ 24 := by omega
  simp only [execOp, e', Instr.buildSlice, Sem.run_bind, run_underlying' hT h1, Result.andThen_ok, run_sizeOf' hT hsz]
  by_cases h0 : len * n = 0
  · have hr0 : (Array.range (len * n)).map (fun i => zu.cells[i % zu.cells.size]!) = (Array.range (len * n)).map (fun _ => default) := by rw [h0]; simp
    rw [if_neg hno, if_pos h0]
    rw [hr0] at k1
    simp [k1, newRow]
  · rw [if_neg hno, if_neg h0]
    simp [hzr, k1, newRow]
theorem makes_mks (hT : TyOk P T) {t e : TypeId} {n l c : Nat} {z : V} {i : TypeInfo} {x y : Operand} {blk : Blk} (h1 : T.under t = some (.slice e)) (hn : posT T e = some n) (hz : zeroT T e = some z) (hi : T.info e = some i)
    (hs : (cellsOf z).length = n) (hx : VR g (.int .i64 (Int.ofNat l)) (ρ x)) (hy : VR g (.int .i64 (Int.ofNat c)) (ρ y)) (hlc : l ≤ c) (hcb : c * i.bytes < 1099511627776) (hc : c < 1099511627776) (hb : cellsBlk (repL (cellsOf z) c) = some blk) :
    Makes P T g ρ (.makeSlice t x y) blk (fun k => .sl k 0 l c true n) := by
  obtain ⟨zu, hzu, hzr⟩ := zeroT_ok (g := g) hT hz
  obtain ⟨hsz, hp⟩ := posT_size hn
  have hcz := cells_ok hzu
  have hzl := hcz.length
  simp at hzl
  have hzn : zu.cells.size = n := by omega
  have hrep := rep_ok hcz (by omega) c
  obtain ⟨⟨m1, m2, m3⟩, m4⟩ := cellsBlk_ok (T := T) hrep hb
  refine ⟨.inr m1, m2, m3, .cells ((Array.range (c * n)).map fun i => zu.cells[i % zu.cells.size]!) e, ((List.range (c * zu.cells.size)).map fun i => zu.cells[i % zu.cells.size]!).length, fun b => .slice (some ⟨b, 0, none⟩) l c, fun w o e' => ?_, fun g' id b hg hid => .slx (off := 0) hid, fun g' w' id b hg hid hw => m4 e g' w' id b hg hid ?_⟩
  · have wl : IntKind.i64.wrap (l : Int) = l := by unfold IntKind.wrap; simp [IntKind.bits, IntKind.signed]; omega
    have wc : IntKind.i64.wrap (c : Int) = c := by unfold IntKind.wrap; simp [IntKind.bits, IntKind.signed]; omega
    have hx' := hx.int_inv
    have hy' := hy.int_inv
    have hcb' : ¬ ((i.bytes : Int) * (c : Int) > 281474976710656) := by
      have : ((c * i.bytes : Nat) : Int) < 1099511627776 := Int.ofNat_lt.2 hcb
      rw [Int.natCast_mul, Int.mul_comm] at this
      omega
    have h48 : ((2 : Int) ^ 48) = 281474976710656 := by decide
    have hlc' : ¬ (l : Int) > (c : Int) := by omega
    have hl0 : ¬ (l : Int) < 0 := by omega
    have hc0 : ¬ (c : Int) < 0 := by omega
    simp only [execOp, e', hx', hy', Instr.makeSlice, Sem.run_bind, run_underlying' hT h1, Result.andThen_ok, asInt, asIntOf, Sem.run_pure, run_typeInfo' hT hi, Int.ofNat_eq_natCast, wl, wc, h48]
    rw [if_neg (by simp; omega)]
    by_cases h0 : c * n = 0
    · have hr0 : (Array.range (c * n)).map (fun i => zu.cells[i % zu.cells.size]!) = #[] := by rw [h0]; simp
      rw [hr0]
      simp [run_sizeOf' hT hsz, h0, newRow, Array.range_zero']
    · simp [run_sizeOf' hT hsz, h0, hzr, newRow]
  · rw [hw]
    congr 2
    apply Array.ext'
    simp [hzn]
theorem makes_mkm1 (hT : TyOk P T) {t k e : TypeId} {x : Operand} {kd : IntKind} {n : Int} (h1 : T.under t = some (.map k e)) (hx : VR g (.int kd n) (ρ x)) : Makes P T g ρ (.makeMap t (some x)) (.map [] true) (fun i => .map i) := by
  refine ⟨.inl rfl, rfl, (fun _ _ e => by cases e), .map #[] 0, 0, fun b => .map (some b), fun w o e => ?_, fun g' id b hg hid => .map hid, fun g' w' id b hg hid hw => ⟨b, 0, 0, #[], 0, hid, hw, ⟨.nil, .nil⟩, fun _ => Born.nil⟩⟩
  have hx' := hx.int_inv
  simp [execOp, e, Instr.makeMap, run_underlying' hT h1, hx', asInt, asIntOf]
theorem A_ok (hT : TyOk P T) {op : Op} {ao : AOp} {os : List Operand} (hc : compOp T op = some (.a ao, os)) {vs : List V} {blk : Blk} {mk : Nat → V} (hv : VRs g vs (os.map ρ)) (hr : ao.run vs = some (blk, mk)) : Makes P T g ρ op blk mk := by
  cases op
  case alloc t =>
    simp only [compOp] at hc
    obtain ⟨z, h1, h⟩ := ob_some.1 hc
    cases h
    cases hv
    obtain ⟨b, h2, h3⟩ := ob_some.1 (show ob (cellsBlk (cellsOf z)) (fun b => some (b, fun i => V.ptr i 0)) = some (blk, mk) from hr)
    cases h3
    exact makes_alloc hT h1 h2
  case box t x =>
    cases hc
    obtain ⟨a, rfl, h⟩ := hv.one
    obtain ⟨b, h2, h3⟩ := ob_some.1 (show ob (cellsBlk (cellsOf a)) (fun b => some (b, fun i => V.ptr i 0)) = some (blk, mk) from hr)
    cases h3
    exact makes_box h h2
  case buildSlice t n ps =>
    simp only [compOp] at hc
    obtain ⟨d, h0, h⟩ := ob_some.1 hc
    cases d with
    | slice e =>
      obtain ⟨es, h1, a1⟩ := ob_some.1 h
      obtain ⟨z, h2, a2⟩ := ob_some.1 a1
      obtain ⟨h3, a3⟩ := oif_some.1 a2
      cases a3
      obtain ⟨cs, h4, a4⟩ := ob_some.1 (show ob (fills (ps.toList.map fun p => (Nat.mul p.1 es, es)) vs (repL (cellsOf z) n)) (fun cs => ob (cellsBlk cs) fun b => some (b, fun i => V.sl i 0 n n true es)) = some (blk, mk) from hr)
      obtain ⟨b, h5, a5⟩ := ob_some.1 a4
      cases a5
      simp only [Bool.and_eq_true, Nat.blt_eq, Nat.beq_eq, lenL_eq, nmul] at h3
      exact makes_bslice hT h0 h1 h2 h3.1 h3.2 hv h4 h5
    | _ => cases h
  case makeMap t r =>
    simp only [compOp] at hc
    obtain ⟨d, h0, h⟩ := ob_some.1 hc
    cases d with
    | map k e =>
      cases h
      cases r with
      | none => cases hv; cases hr; exact makes_mkm rfl
      | some x =>
        obtain ⟨a, rfl, h⟩ := hv.one
        cases a <;> cases hr
        exact makes_mkm1 hT h0 h
    | _ => cases h
  case makeSlice t l c =>
    simp only [compOp] at hc
    obtain ⟨d, h0, h⟩ := ob_some.1 hc
    cases d with
    | slice e =>
      obtain ⟨n, h1, a1⟩ := ob_some.1 h
      obtain ⟨z, h2, a2⟩ := ob_some.1 a1
      obtain ⟨i, h3, a3⟩ := ob_some.1 a2
      obtain ⟨h4, a4⟩ := oif_some.1 a3
      cases a4
      obtain ⟨x, y, rfl, hx, hy⟩ := hv.two
      rw [lenL_eq] at h4
      have h4' : (cellsOf z).length = n := by simpa using h4
      cases x <;> try cases hr
      rename_i k1 n1
      cases k1 <;> try cases hr
      cases y <;> try cases hr
      rename_i k2 n2
      cases k2 <;> try cases hr
      cases n1 <;> try cases hr
      cases n2 <;> try cases hr
      rename_i l' c'
      obtain ⟨q1, q2⟩ := oif_some.1 (show oif (Nat.ble l' c') (oif (Nat.blt (Nat.mul c' i.bytes) 1099511627776) (oif (Nat.blt c' 1099511627776) (ob (cellsBlk (repL (cellsOf z) c')) fun b => some (b, fun i => V.sl i 0 l' c' true (lenL (cellsOf z)))))) = some (blk, mk) from hr)
      obtain ⟨q3, q4⟩ := oif_some.1 q2
      obtain ⟨q5, q6⟩ := oif_some.1 q4
      obtain ⟨b, q7, q8⟩ := ob_some.1 q6
      cases q8
      rw [lenL_eq, h4']
      exact makes_mks hT h0 h1 h2 h3 h4' hx hy (by simpa using q1) (by simpa [nmul] using q3) (by simpa using q5) q7
    | _ => cases h
  case range t x =>
    simp only [compOp] at hc
    obtain ⟨d, h0, h⟩ := ob_some.1 hc
    cases d with
    | string =>
      cases h
      obtain ⟨a, rfl, h⟩ := hv.one
      cases a <;> cases hr
      exact makes_rangeS hT h0 h
    | _ => cases h
  case load t x =>
    simp only [compOp] at hc
    obtain ⟨b, h1, h2⟩ := ob_some.1 hc
    obtain ⟨n, h3, h4⟩ := ob_some.1 h2
    cases h4
  case lookup t x k ok =>
    simp only [compOp] at hc
    obtain ⟨d, h1, h2⟩ := ob_some.1 hc
    cases d with
    | map kt e =>
      obtain ⟨kk, h3, h4⟩ := ob_some.1 h2
      obtain ⟨z, h5, h6⟩ := ob_some.1 h4
      cases h6
    | _ => cases h2
  case binOp op t x y t' =>
    have eq2 : ∀ {neg cst : Bool} {d : TypeDesc}, eqOp T t neg cst d = some (.a ao) → False := by
      intro neg cst d h2
      cases d with
      | interface e => obtain ⟨h4, h5⟩ := oif_some.1 h2; cases h5
      | pointer e => obtain ⟨k, h4, h5⟩ := ob_some.1 h2; cases h5
      | struct fs => obtain ⟨k, h4, h5⟩ := ob_some.1 h2; cases h5
      | _ => cases h2
    cases op
    case eql =>
      simp only [compOp] at hc
      obtain ⟨d, h1, h2⟩ := ob_some.1 hc
      obtain ⟨c, h3, h4⟩ := ob_some.1 h2
      cases h4
      exact (eq2 (neg := false) h3).elim
    case neq =>
      simp only [compOp] at hc
      obtain ⟨d, h1, h2⟩ := ob_some.1 hc
      obtain ⟨c, h3, h4⟩ := ob_some.1 h2
      cases h4
      exact (eq2 (neg := true) h3).elim
    all_goals cases hc
  case call c =>
    obtain ⟨callee, args, argTypes⟩ := c
    simp only [compOp] at hc
    cases callee with
    | value x => cases x <;> cases hc
    | invoke r m => cases hc
    | builtin b =>
      obtain ⟨t, h1, h2⟩ := ob_some.1 hc
      obtain ⟨d, h3, h4⟩ := ob_some.1 h2
      cases b
      case len =>
        cases d with
        | map k e => cases h4
        | _ => cases h4
      case append =>
        cases d with
        | slice e =>
          obtain ⟨n, _, a1⟩ := ob_some.1 h4
          obtain ⟨_, _, a2⟩ := ob_some.1 a1
          obtain ⟨_, _, a3⟩ := ob_some.1 a2
          obtain ⟨_, a4⟩ := oif_some.1 a3
          obtain ⟨_, _, a5⟩ := ob_some.1 a4
          obtain ⟨_, _, a6⟩ := ob_some.1 a5
          split at a6 <;> cases a6
        | _ => cases h4
      case copy =>
        cases d with
        | slice e =>
          obtain ⟨n, _, a1⟩ := ob_some.1 h4
          cases a1
        | _ => cases h4
      case clear =>
        cases d with
        | slice e =>
          obtain ⟨n, _, a1⟩ := ob_some.1 h4
          obtain ⟨_, _, a2⟩ := ob_some.1 a1
          cases a2
        | _ => cases h4
      case delete =>
        cases d with
        | map k e =>
          obtain ⟨_, _, a1⟩ := ob_some.1 h4
          cases a1
        | _ => cases h4
      all_goals (cases d <;> cases h4)
  case build t ps =>
    simp only [compOp] at hc
    obtain ⟨z, h1, h2⟩ := ob_some.1 hc
    obtain ⟨d, h3, h4⟩ := ob_some.1 h2
    cases d with
    | struct fs =>
      obtain ⟨pl, h5, h6⟩ := ob_some.1 h4
      obtain ⟨l, h7, h8⟩ := ob_some.1 h6
      cases h8
    | array k e =>
      obtain ⟨n, h5, h6⟩ := ob_some.1 h4
      cases h6
    | _ => cases h4
  case insert t m k x =>
    simp only [compOp] at hc
    obtain ⟨d, _, h⟩ := ob_some.1 hc
    cases d with
    | map k e =>
      obtain ⟨_, _, a1⟩ := ob_some.1 h
      cases a1
    | _ => cases h
  case mapEntry t m k =>
    simp only [compOp] at hc
    obtain ⟨d, _, h⟩ := ob_some.1 hc
    cases d with
    | map k e =>
      obtain ⟨_, _, a1⟩ := ob_some.1 h
      obtain ⟨_, _, a2⟩ := ob_some.1 a1
      cases a2
    | _ => cases h
  case mapUpdate t m k x =>
    simp only [compOp] at hc
    obtain ⟨d, _, h⟩ := ob_some.1 hc
    cases d with
    | map k e =>
      obtain ⟨_, _, a1⟩ := ob_some.1 h
      cases a1
    | _ => cases h
  case store t a x =>
    simp only [compOp] at hc
    obtain ⟨_, _, a1⟩ := ob_some.1 hc
    cases a1
  case convert s d x =>
    simp only [compOp] at hc
    obtain ⟨a, h1, h2⟩ := ob_some.1 hc
    obtain ⟨b, h3, h4⟩ := ob_some.1 h2
    cases a <;> cases b <;> first | (cases h4; done) | (cases (b2sOp_some h4).1)
  case makeInterface t x =>
    simp only [compOp] at hc
    obtain ⟨d, h1, h2⟩ := ob_some.1 hc
    cases d <;> cases h2
  case makeFunc fn a b => cases fn <;> cases hc
  case slice t x lo hi mx =>
    simp only [compOp] at hc
    obtain ⟨d, _, h⟩ := ob_some.1 hc
    cases d with
    | string => cases h
    | slice e => obtain ⟨_, _, a1⟩ := ob_some.1 h; cases a1
    | array k e => obtain ⟨_, _, a1⟩ := ob_some.1 h; cases a1
    | _ => cases h
  case fieldAddr t x i =>
    simp only [compOp] at hc
    obtain ⟨d, _, h⟩ := ob_some.1 hc
    cases d with
    | struct fs =>
      obtain ⟨_, _, a1⟩ := ob_some.1 h
      obtain ⟨_, _, a2⟩ := ob_some.1 a1
      cases a2
    | _ => cases h
  case field t x i =>
    simp only [compOp] at hc
    obtain ⟨d, _, h⟩ := ob_some.1 hc
    cases d with
    | struct fs =>
      obtain ⟨_, _, a1⟩ := ob_some.1 h
      obtain ⟨_, _, a2⟩ := ob_some.1 a1
      obtain ⟨_, _, a3⟩ := ob_some.1 a2
      cases a3
    | _ => cases h
  case indexAddr t x i =>
    simp only [compOp] at hc
    obtain ⟨d, _, h⟩ := ob_some.1 hc
    cases d with
    | slice e => obtain ⟨_, _, a1⟩ := ob_some.1 h; cases a1
    | array k e => obtain ⟨_, _, a1⟩ := ob_some.1 h; cases a1
    | _ => cases h
  case index t x i =>
    simp only [compOp] at hc
    obtain ⟨d, _, h⟩ := ob_some.1 hc
    cases d with
    | string => cases h
    | array k e =>
      obtain ⟨_, _, a1⟩ := ob_some.1 h
      obtain ⟨_, _, a2⟩ := ob_some.1 a1
      cases a2
    | _ => cases h
  case next x b => cases b <;> cases hc
  all_goals cases hc
end
end Ev
end Go.Proofs.YtogbcielgfidlaaGreatDoor
namespace Go.Proofs.YtogbcielgfidlaaGreatDoor
set_option linter.unusedVariables false
set_option linter.unusedSimpArgs false
namespace Ev
variable [Opq]
set_option linter.unusedSectionVars false
section
variable {P : Program} {T : Ty} {g : G} {ρ : Operand → Value} {h : H} {w : World}

/-- The operation ends in a world, with a value (or with none). -/
def Runs (P : Program) (ρ : Operand → Value) (w : World) (op : Op) (u : Value) (w' : World) : Prop :=
  ∀ o : Oper, o.op = op → (execOp ρ o).run P w = .ok (.value u) w' ∨ ((execOp ρ o).run P w = .ok .skip w' ∧ u = undef)
/-- What an operation does, on both sides. -/
def Eff (P : Program) (T : Ty) (g : G) (h : H) (w : World) (ρ : Operand → Value) (op : Op) (v : V) (h' : H) : Prop :=
  ∃ g' w' u, Ext T g h w g' h' w' ∧ VR g' v u ∧ Runs P ρ w op u w'
theorem undef_vr : VR g undefV undef := VR.tup .nil

theorem wr_cons (id : Nat) (v : V) (l : List V) (i : Nat) (h : H) : H.wr id (v :: l) i h = ob (h.wr1 id i v) fun h => H.wr id l (i + 1) h := rfl
theorem store_run {w : World} {a : Addr} {v x : Value} (h1 : v.oneCell' = true) (h2 : w.cell? a = some x) (h3 : w.frozen? a = false) : (store a v).run P w = .ok () (w.setCell a v) := by
  cases v <;> first | (simp [store, Sem.run, h2, h3]; done) | cases h1
theorem wr_ok : ∀ {l : List V} {us : List Value} {i k : Nat} {h h' : H} {w : World} {id b o z : Nat}, WR T g h w → g id = some (b, o, z) → VRs g l us → H.wr id l (i + k) h = some h' →
    ∃ w', Ext T g h w g h' w' ∧ (storeCells ⟨b, o + i, none⟩ us k).run P w = .ok () w'
  | [], _, i, k, h, h', w, id, b, o, z, r, hg, hl, e => by
    cases hl
    cases e
    exact ⟨w, .refl r, by simp [storeCells]⟩
  | v :: l, _, i, k, h, h', w, id, b, o, z, r, hg, hl, e => by
    cases hl with
    | cons hv ht =>
      rename_i u us
      rw [wr_cons] at e
      obtain ⟨h1, e1, e2⟩ := ob_some.1 e
      obtain ⟨x1, ⟨c, hc⟩, hf⟩ := Ext.wr1 r e1 hg hv
      have hone : oneCell v = true := by
        unfold H.wr1 at e1
        obtain ⟨b', _, e4⟩ := ob_some.1 e1
        cases b' with
        | cells n cs up ch =>
          obtain ⟨_, e5⟩ := oif_some.1 e4
          obtain ⟨_, e6⟩ := oif_some.1 e5
          exact (oif_some.1 e6).1
        | _ => cases e4
      obtain ⟨w', x2, h2⟩ := wr_ok (i := i) (k := k + 1) x1.wr hg ht e2
      refine ⟨w', x1.trans x2, ?_⟩
      have ha : (⟨b, o + (i + k), none⟩ : Addr) = (⟨b, o + i, none⟩ : Addr).add k := by simp [Addr.add, Nat.add_assoc]
      rw [ha] at hc hf h2
      simp only [storeCells, Sem.run_bind, store_run (oneCell_of hv hone) hc hf, Result.andThen_ok]
      rw [← ha] at h2 ⊢
      exact h2

theorem eff_store (hT : TyOk P T) (r : WR T g h w) {t : TypeId} {n : Nat} {x y : Operand} {a b v : V} {h' : H} (hn : sizeT T t = some n) (ha : VR g a (ρ x)) (hb : VR g b (ρ y)) (hr : EOp.run (.store n) [a, b] h = some (v, h')) :
    Eff P T g h w ρ (.store t x y) v h' := by
  cases a with
  | ptr id off =>
    obtain ⟨e1, e2⟩ := oif_some.1 (show oif (Nat.beq (lenL (cellsOf b)) n) (ob (H.wr id (cellsOf b) off h) fun h => some (undefV, h)) = some (v, h') from hr)
    obtain ⟨h1, e3, e4⟩ := ob_some.1 e2
    cases e4
    cases hx : ρ x <;> rw [hx] at ha <;> cases ha
    rename_i b' o z hg
    have hc := cells_ok hb
    obtain ⟨w', x1, k1⟩ := wr_ok (P := P) (i := off) (k := 0) r hg hc e3
    have hlen := hc.length
    rw [lenL_eq] at e1
    have e1' : (cellsOf b).length = n := by simpa using e1
    refine ⟨g, w', undef, x1, undef_vr, fun o' e' => .inr ⟨?_, rfl⟩⟩
    have hs : ¬ (ρ y).cells.size ≠ n := by simp only [ne_eq, Decidable.not_not]; simp at hlen; omega
    simp only [execOp, e', hx, Instr.storeAt, Instr.sureAddr, storeVar, Sem.run_bind, Sem.run_pure, Result.andThen_ok, run_sizeOf' hT hn]
    rw [if_neg hs]
    simp [k1]
  | _ => cases hr
theorem run_firstCells_sl {a : Addr} {len cap n es : Nat} {us : List Value} (hl : us.length = n * es) (hc : ∀ (j : Nat) (u : Value), us[j]? = some u → w.cell? (a.add j) = some u) :
    (Builtin.firstCells es n (.slice (some a) len cap)).run P w = .ok us.toArray w := by
  simp only [Builtin.firstCells]
  rw [← hl]
  exact run_loadCells_list w a us hc
theorem bytesL_ok (g : G) : ∀ l : List UInt8, VRs g (bytesL l.length (natOf l)) (l.map fun b => Value.int .u8 b.toNat)
  | [] => .nil
  | b :: l => by
    have hb := b.toNat_lt
    have e1 : (b.toNat + 256 * natOf l) % 256 = b.toNat := by omega
    have e2 : (b.toNat + 256 * natOf l) / 256 = natOf l := by omega
    show VRs g (.int .u8 (Int.ofNat (Nat.mod (b.toNat + 256 * natOf l) 256)) :: bytesL l.length (Nat.div (b.toNat + 256 * natOf l) 256)) _
    rw [show Nat.mod (b.toNat + 256 * natOf l) 256 = b.toNat from e1, show Nat.div (b.toNat + 256 * natOf l) 256 = natOf l from e2]
    exact .cons (.int _ _) (bytesL_ok g l)
/-- The cells of a slice that is read. -/
theorem src_ok (r : WR T g h w) {es : Nat} {a : V} {u : Value} {p : Nat × List V} (ha : VR g a u) (e : srcCells0 es a h = some p) :
    ∃ us : List Value, VRs g p.2 us ∧ us.length = p.1 * es ∧ (∀ w, (Builtin.lenOf u).run P w = .ok p.1 w) ∧
      ∀ w2 : World, w2.heap = w.heap → ∀ k, k ≤ p.1 → (Builtin.firstCells es k u).run P w2 = .ok (us.take (k * es)).toArray w2 := by
  cases a with
  | nils =>
    cases e
    cases ha
    refine ⟨[], .nil, by simp, fun w => by simp [Builtin.lenOf], fun w2 _ k _ => by simp [Builtin.firstCells]⟩
  | sl id off len cap ex es' =>
    obtain ⟨e1, e2⟩ := oif_some.1 (show oif (Nat.beq es es') (ob (h.rd id off (Nat.mul len es)) fun l => some (len, l)) = some p from e)
    obtain ⟨l, e3, e4⟩ := ob_some.1 e2
    cases e4
    have main : ∀ {b o z : Nat} {u : Value}, g id = some (b, o, z) → (∃ c, u = .slice (some ⟨b, o + off, none⟩) len c) → ∃ us : List Value, VRs g l us ∧ us.length = len * es ∧ (∀ w, (Builtin.lenOf u).run P w = .ok len w) ∧
      ∀ w2 : World, w2.heap = w.heap → ∀ k, k ≤ len → (Builtin.firstCells es k u).run P w2 = .ok (us.take (k * es)).toArray w2 := by
      intro b o z u hg hu
      obtain ⟨c, rfl⟩ := hu
      obtain ⟨us, k1, k2, k3, _⟩ := rd_ok r hg e3
      have hadd : ∀ j, (⟨b, o + off, none⟩ : Addr).add j = ⟨b, o + off + j, none⟩ := fun j => by simp [Addr.add]
      rw [nmul] at k2
      refine ⟨us, k1, k2, fun w => by simp [Builtin.lenOf], fun w2 hw k hk => run_firstCells_sl ?_ fun j u hj => ?_⟩
      · rw [List.length_take, k2, Nat.min_eq_left (Nat.mul_le_mul_right es hk)]
      · rw [hadd]
        have hcw : ∀ q, w2.cell? q = w.cell? q := fun q => by simp [World.cell?, hw]
        rw [hcw]
        refine k3 j u ?_
        rw [List.getElem?_take] at hj
        split at hj
        · exact hj
        · cases hj
    have empty : ∀ {b p : Nat}, len = 0 → ∃ us : List Value, VRs g l us ∧ us.length = 0 * es ∧ (∀ w, (Builtin.lenOf (.slice (some ⟨b, p, none⟩) 0 0)).run P w = .ok 0 w) ∧
      ∀ w2 : World, w2.heap = w.heap → ∀ k, k ≤ 0 → (Builtin.firstCells es k (.slice (some ⟨b, p, none⟩) 0 0)).run P w2 = .ok (us.take (k * es)).toArray w2 := by
      intro b p h0
      subst h0
      have hl : l = [] := by
        rw [nmul, Nat.zero_mul] at e3
        unfold H.rd at e3
        obtain ⟨q, _, m2⟩ := ob_some.1 e3
        cases m2
        rfl
      subst hl
      refine ⟨[], .nil, by simp, fun w => by simp [Builtin.lenOf], fun w2 hw k hk => run_firstCells_sl ?_ fun j u hj => ?_⟩
      · rw [show k = 0 by omega]; simp
      · simp at hj
    cases ha with
    | slx hg => exact main hg ⟨_, rfl⟩
    | sli hg hc hl => exact main hg ⟨_, rfl⟩
    | sl0 hg _ => exact empty rfl
    | slx0 hg => exact empty rfl
  | str n c =>
    obtain ⟨e1, e2⟩ := oif_some.1 (show oif (Nat.beq es 1) (some (n, bytesL n c)) = some p from e)
    have h1 : es = 1 := by simpa using e1
    subst h1
    cases e2
    cases ha
    rename_i s
    have hbs := bytesL_ok g s.data.toList
    refine ⟨s.data.toList.map (fun b : UInt8 => Value.int .u8 b.toNat), hbs, by simp, fun w => by simp [Builtin.lenOf], fun w2 _ k hk => ?_⟩
    have hk' : k ≤ s.data.toList.length := hk
    simp only [Builtin.firstCells, Sem.run_pure, Result.ok.injEq, and_true]
    apply Array.ext'
    simp
  | _ => cases e
theorem args_two {args : Array Operand} {vs : List V} {a b : V} (hv : VRs g vs (args.toList.map ρ)) (h : vs = [a, b]) : ∃ x y, args.map ρ = #[ρ x, ρ y] ∧ VR g a (ρ x) ∧ VR g b (ρ y) := by
  subst h
  have hl := hv.length
  simp at hl
  cases ha : args.toList with
  | nil => rw [← Array.length_toList, ha] at hl; cases hl
  | cons x l => cases l with
    | nil => rw [← Array.length_toList, ha] at hl; simp at hl
    | cons y l => cases l with
      | cons z l => rw [← Array.length_toList, ha] at hl; simp at hl
      | nil =>
        rw [ha] at hv
        obtain ⟨p, q, e, h1, h2⟩ := hv.two
        cases e
        exact ⟨x, y, by apply Array.ext'; simp [ha], h1, h2⟩
theorem args_one {args : Array Operand} {vs : List V} {a : V} (hv : VRs g vs (args.toList.map ρ)) (h : vs = [a]) : ∃ x, args.map ρ = #[ρ x] ∧ VR g a (ρ x) := by
  subst h
  have hl := hv.length
  simp at hl
  cases ha : args.toList with
  | nil => rw [← Array.length_toList, ha] at hl; cases hl
  | cons x l => cases l with
    | cons y l => rw [← Array.length_toList, ha] at hl; simp at hl
    | nil =>
      rw [ha] at hv
      obtain ⟨p, e, h1⟩ := hv.one
      cases e
      exact ⟨x, by apply Array.ext'; simp [ha], h1⟩
/-- A slice by its place. -/
theorem sl_cases {id off len cap es : Nat} {ex : Bool} {u : Value} (h : VR g (.sl id off len cap ex es) u) :
    (∃ b o z c, g id = some (b, o, z) ∧ u = .slice (some ⟨b, o + off, none⟩) len c) ∨ (len = 0 ∧ ∃ b o z p, g id = some (b, o, z) ∧ u = .slice (some ⟨b, p, none⟩) 0 0) := by
  cases h with
  | slx hg => exact .inl ⟨_, _, _, _, hg, rfl⟩
  | sli hg hc hl => exact .inl ⟨_, _, _, _, hg, rfl⟩
  | sl0 hg _ => exact .inr ⟨rfl, _, _, _, _, hg, rfl⟩
  | slx0 hg => exact .inr ⟨rfl, _, _, _, _, hg, rfl⟩
theorem eff_copy (hT : TyOk P T) (r : WR T g h w) {t e : TypeId} {n : Nat} {args : Array Operand} {at' : Array TypeId} {vs : List V} {v : V} {h' : H} (h0 : at'[0]? = some t) (h1 : T.under t = some (.slice e)) (hn : posT T e = some n)
    (hv : VRs g vs (args.toList.map ρ)) (hr : EOp.run (.copy n) vs h = some (v, h')) : Eff P T g h w ρ (.call ⟨.builtin .copy, args, at'⟩) v h' := by
  obtain ⟨d, x, rfl⟩ : ∃ d x, vs = [d, x] := by
    cases vs with
    | nil => cases hr
    | cons d vs => cases vs with
      | nil => cases hr
      | cons x vs => cases vs with
        | nil => exact ⟨d, x, rfl⟩
        | cons y vs => cases hr
  obtain ⟨xo, yo, ha, hd, hx⟩ := args_two hv rfl
  have hsz := (posT_size hn).1
  obtain ⟨p, e1, e2⟩ := ob_some.1 (show ob (srcCells0 n x h) (fun p => match d with
    | .nils => some (.int .i64 (Int.ofNat 0), h)
    | .sl id off len _ _ es' => oif (Nat.beq n es') (ob (takeL (Nat.mul (Nat.min p.1 len) n) p.2) fun l => ob (H.wr id l off h) fun h => some (.int .i64 (Int.ofNat (Nat.min p.1 len)), h))
    | _ => none) = some (v, h') from hr)
  obtain ⟨us, k1, k2, k3, k4⟩ := src_ok (P := P) r hx e1
  have zero : ∀ {u : Value}, u = ρ xo → (∃ q c, u = .slice q 0 c) → Runs P ρ w (.call ⟨.builtin .copy, args, at'⟩) (.int .i64 (Int.ofNat 0)) w := by
    intro u hu hq o e'
    obtain ⟨q, c, hq⟩ := hq
    have hf : (Builtin.firstCells n 0 (ρ yo)).run P w = .ok #[] w := by
      rw [k4 w rfl 0 (Nat.zero_le _)]
      simp
    left
    cases q with
    | none => simp [execOp, e', resolve, invoke, builtin, ha, Builtin.copy_, ← hu, hq, h0, run_underlying' hT h1, k3, run_sizeOf' hT hsz, hf, goInt]
    | some q => simp [execOp, e', resolve, invoke, builtin, ha, Builtin.copy_, ← hu, hq, h0, run_underlying' hT h1, k3, run_sizeOf' hT hsz, hf, goInt, storeCells]
  cases d with
  | nils =>
    cases e2
    have hd' : ρ xo = .slice none 0 0 := by cases hx' : ρ xo <;> rw [hx'] at hd <;> cases hd; rfl
    exact ⟨g, w, _, .refl r, .int .i64 _, zero rfl ⟨none, 0, hd'⟩⟩
  | sl id off len cap ex es' =>
    obtain ⟨_, e3⟩ := oif_some.1 e2
    obtain ⟨l, e4, e5⟩ := ob_some.1 e3
    obtain ⟨h2, e6, e7⟩ := ob_some.1 e5
    cases e7
    obtain ⟨rfl, hle⟩ := takeL_some e4
    rw [nmul, nmin] at *
    rcases sl_cases hd with ⟨b, o, z, c, hg, hu⟩ | ⟨rfl, b, o, z, q, hg, hu⟩
    · have hl := k1.take (min p.1 len * n)
      obtain ⟨w', x1, s1⟩ := wr_ok (P := P) (i := off) (k := 0) r hg hl e6
      refine ⟨g, w', _, x1, .int .i64 _, fun o' e' => .inl ?_⟩
      have hf := k4 w rfl (min p.1 len) (Nat.min_le_left _ _)
      simp [execOp, e', resolve, invoke, builtin, ha, Builtin.copy_, hu, h0, run_underlying' hT h1, k3, run_sizeOf' hT hsz, nmin, hf, s1, goInt]
    · simp only [Nat.min_zero, Nat.zero_mul, List.take_zero] at e6 ⊢
      cases e6
      exact ⟨g, w, _, .refl r, .int .i64 _, zero rfl ⟨_, 0, hu⟩⟩
  | _ => cases e2
theorem repL_nil (n : Nat) : repL [] n = [] := by
  induction n with
  | zero => rfl
  | succ n ih => rw [repL_succ, ih]; rfl
theorem rep_ok' {z : List V} {zs : Array Value} (hz : VRs g z zs.toList) (n : Nat) : VRs g (repL z n) ((List.range (n * zs.size)).map fun i => zs[i % zs.size]!) := by
  rcases Nat.eq_zero_or_pos zs.size with h0 | hp
  · have hl := hz.length
    have hl' : z.length = 0 := by simpa [h0] using hl
    rw [List.eq_nil_of_length_eq_zero hl', repL_nil, h0]
    simp only [Nat.mul_zero, List.range_zero, List.map_nil]
    exact .nil
  · exact rep_ok hz hp n
theorem eff_clear (hT : TyOk P T) (r : WR T g h w) {t e : TypeId} {z : V} {args : Array Operand} {at' : Array TypeId} {vs : List V} {v : V} {h' : H} (h0 : at'[0]? = some t) (h1 : T.under t = some (.slice e)) (hz : zeroT T e = some z)
    (hv : VRs g vs (args.toList.map ρ)) (hr : EOp.run (.clear (cellsOf z)) vs h = some (v, h')) : Eff P T g h w ρ (.call ⟨.builtin .clear, args, at'⟩) v h' := by
  obtain ⟨d, rfl⟩ : ∃ d, vs = [d] := by
    cases vs with
    | nil => cases hr
    | cons d vs => cases vs with
      | nil => exact ⟨d, rfl⟩
      | cons y vs => cases d <;> cases hr
  obtain ⟨xo, ha, hd⟩ := args_one hv rfl
  obtain ⟨zu, hzu, hzr⟩ := zeroT_ok (g := g) hT hz
  have nothing : ∀ {q : Option Addr} {c : Nat}, ρ xo = .slice q 0 c → Runs P ρ w (.call ⟨.builtin .clear, args, at'⟩) (.tuple #[]) w := by
    intro q c hu o e'
    left
    cases q <;> simp [execOp, e', resolve, invoke, builtin, ha, Builtin.clear_, hu, h0, run_underlying' hT h1]
  cases d with
  | nils =>
    cases hr
    have hd' : ρ xo = .slice none 0 0 := by cases hx' : ρ xo <;> rw [hx'] at hd <;> cases hd; rfl
    exact ⟨g, w, _, .refl r, VR.tup .nil, nothing hd'⟩
  | sl id off len cap ex es =>
    obtain ⟨e1, e2⟩ := oif_some.1 (show oif (Nat.beq (lenL (cellsOf z)) es) (ob (H.wr id (repL (cellsOf z) len) off h) fun h => some (.tup [], h)) = some (v, h') from hr)
    obtain ⟨h2, e3, e4⟩ := ob_some.1 e2
    cases e4
    rcases sl_cases hd with ⟨b, o, zz, c, hg, hu⟩ | ⟨rfl, b, o, zz, q, hg, hu⟩
    · cases len with
      | zero =>
        cases e3
        exact ⟨g, w, _, .refl r, VR.tup .nil, nothing hu⟩
      | succ len =>
        have hc := cells_ok hzu
        have hrep := rep_ok' hc (len + 1)
        obtain ⟨w', x1, s1⟩ := wr_ok (P := P) (i := off) (k := 0) r hg hrep e3
        refine ⟨g, w', _, x1, VR.tup .nil, fun o' e' => .inl ?_⟩
        simp [execOp, e', resolve, invoke, builtin, ha, Builtin.clear_, hu, h0, run_underlying' hT h1, hzr, Builtin.zeroCells, s1]
    · cases e3
      exact ⟨g, w, _, .refl r, VR.tup .nil, nothing hu⟩
  | _ => cases hr
theorem heap_setObj {w : World} {b : Nat} {o x : Obj} (h : w.heap[b]? = some x) : (w.heap.setIfInBounds b o)[b]? = some o := by
  have hb : b < w.heap.size := by
    rcases Nat.lt_or_ge b w.heap.size with k | k
    · exact k
    · rw [Array.getElem?_eq_none k] at h; cases h
  rw [Array.getElem?_setIfInBounds_self_of_lt hb]
theorem eff_nextS (r : WR T g h w) {x : Operand} {a v : V} {h' : H} (ha : VR g a (ρ x)) (hr : EOp.run .nextS [a] h = some (v, h')) : Eff P T g h w ρ (.next x true) v h' := by
  cases a with
  | ptr id off =>
    cases off with
    | succ off => cases hr
    | zero =>
      obtain ⟨k, e1, e2⟩ := ob_some.1 (show ob (h.blk id) (fun b => match b with
        | .siter n c pos => Bool.rec (motive := fun _ => Option (V × H)) (some (.tup [.bool false], h))
            (oif (Nat.blt (Nat.mod (Nat.shiftRight c (Nat.mul 8 pos)) 256) 128)
              (some (.tup [.bool true, .int .i64 (Int.ofNat pos), .int .i32 (Int.ofNat (Nat.mod (Nat.shiftRight c (Nat.mul 8 pos)) 256))], ⟨h.t.put id (some (.siter n c (Nat.succ pos))), h.next⟩))) (Nat.blt pos n)
        | _ => none) = some (v, h') from hr)
      cases k with
      | siter n c pos =>
        simp only [brec_eq] at e2
        cases hx : ρ x <;> rw [hx] at ha <;> cases ha
        rename_i b o z hg
        obtain ⟨b', o', z', s, k1, k2, k3, k4, k5⟩ := r.blk id _ _ hg e1
        rw [hg] at k1
        cases k1
        subst k5
        by_cases hp : pos < n
        · rw [if_pos (by simpa using hp)] at e2
          obtain ⟨e3, e4⟩ := oif_some.1 e2
          cases e4
          have hp' : pos < s.size := by omega
          have hb : natOf s.data.toList / 256 ^ pos % 256 = s[pos].toNat := natOf_get (by simp [ByteArray.getElem_eq_getElem_data, ← ByteArray.size_data] )
          rw [nmod, nshr, nmul, pow8, ← k4, hb] at e3 ⊢
          have hd := decode_ascii s pos hp' (by simpa using e3)
          refine ⟨g, { w with heap := w.heap.setIfInBounds b (.stringIter s (pos + 1)) }, _, ?_, .tup (.cons (.bool true) (.cons (.int _ _) (.cons (.int _ _) .nil))), fun o' e' => .inl ?_⟩
          · refine Ext.upd r hg e1 rfl rfl rfl (fun _ _ h => by cases h) (fun j hj => ?_) (by simp) rfl rfl rfl ⟨b, 0, z, s, hg, heap_setObj k2, k3, rfl, rfl⟩
            simp [Array.getElem?_setIfInBounds_ne (Ne.symm hj)]
          · simp [execOp, e', hx, Instr.next, getObj, setObj, Sem.run, k2, hp', hd, goInt]
        · rw [if_neg (by simpa using hp)] at e2
          cases e2
          refine ⟨g, w, _, .refl r, .tup (.cons (.bool false) .nil), fun o' e' => .inl ?_⟩
          have hp' : ¬ pos < s.size := by omega
          simp [execOp, e', hx, Instr.next, getObj, Sem.run, k2, hp']
      | _ => cases e2
  | _ => cases hr
/-- Where a key stands. -/
noncomputable def posE (h : H) (kk : Kk) (k : V) : List (V × V) → Option (Option Nat)
  | [] => some none
  | e :: tl => ob (eqKey h kk k e.1) fun b => if b = true then some (some 0) else ob (posE h kk k tl) fun r => some (r.map (· + 1))
theorem putE_cons (h : H) (kk : Kk) (k v : V) (e : V × V) (tl : List (V × V)) : putE h kk k v (e :: tl) = ob (eqKey h kk k e.1) fun b => if b = true then some ((k, v) :: tl) else ob (putE h kk k v tl) fun r => some (e :: r) := by
  show ob (eqKey h kk k e.1) (fun b => Bool.rec (motive := fun _ => Option (List (V × V))) (ob (putE h kk k v tl) fun r => some (e :: r)) (some ((k, v) :: tl)) b) = _
  simp only [brec_eq]
theorem delE_cons (h : H) (kk : Kk) (k : V) (e : V × V) (tl : List (V × V)) : delE h kk k (e :: tl) = ob (eqKey h kk k e.1) fun b => if b = true then some tl else ob (delE h kk k tl) fun r => some (e :: r) := by
  show ob (eqKey h kk k e.1) (fun b => Bool.rec (motive := fun _ => Option (List (V × V))) (ob (delE h kk k tl) fun r => some (e :: r)) (some tl) b) = _
  simp only [brec_eq]
theorem putE_pos {kk : Kk} {k v : V} : ∀ {es es' : List (V × V)}, putE h kk k v es = some es' → ∃ p, posE h kk k es = some p ∧ es' = (match p with | none => es ++ [(k, v)] | some j => es.set j (k, v))
  | [], es', e => by cases e; exact ⟨none, rfl, rfl⟩
  | x :: tl, es', e => by
    rw [putE_cons] at e
    obtain ⟨b, e1, e2⟩ := ob_some.1 e
    cases b with
    | true => cases e2; exact ⟨some 0, by simp [posE, e1, ob_of], rfl⟩
    | false =>
      obtain ⟨r, e3, e4⟩ := ob_some.1 e2
      cases e4
      obtain ⟨p, k1, k2⟩ := putE_pos e3
      refine ⟨p.map (· + 1), by simp [posE, e1, ob_of, k1], ?_⟩
      cases p <;> simp [k2]
theorem delE_pos {kk : Kk} {k : V} : ∀ {es es' : List (V × V)}, delE h kk k es = some es' → ∃ p, posE h kk k es = some p ∧ es' = (match p with | none => es | some j => es.eraseIdx j)
  | [], es', e => by cases e; exact ⟨none, rfl, rfl⟩
  | x :: tl, es', e => by
    rw [delE_cons] at e
    obtain ⟨b, e1, e2⟩ := ob_some.1 e
    cases b with
    | true => cases e2; exact ⟨some 0, by simp [posE, e1, ob_of], rfl⟩
    | false =>
      obtain ⟨r, e3, e4⟩ := ob_some.1 e2
      cases e4
      obtain ⟨p, k1, k2⟩ := delE_pos e3
      refine ⟨p.map (· + 1), by simp [posE, e1, ob_of, k1], ?_⟩
      cases p <;> simp [k2]
theorem pos_ok (hT : TyOk P T) (r : WR T g h w) {t : TypeId} {d : TypeDesc} {kk : Kk} {x : V} {a : Value} (h1 : T.under t = some d) (hk : keyT T t = some kk) (ha : VR g x a) :
    ∀ (es : List (V × V)) (m : List MapEntry) (i : Nat) (p : Option Nat), Ents g es m → posE h kk x es = some p → ∃ q, (Instr.findAsking t a m i).run P w = .ok q w ∧ (∀ q', Instr.findNow d a m i = some q' → q' = q) ∧
      (match p with | none => q = none | some j => ∃ e ke, m[j]? = some e ∧ q = some (i + j, e.val) ∧ es[j]? = some ke ∧ eqKey h kk x ke.1 = some true ∧ VR g ke.1 e.key) := by
  intro es
  induction es with
  | nil =>
    intro m i res hm hr
    cases hr
    cases m with
    | nil => exact ⟨none, by simp [Instr.findAsking], (fun q' e => by simp [Instr.findNow] at e; exact e.symm), rfl⟩
    | cons => have := hm.1.length; simp at this
  | cons e es ih =>
    intro m i res hm hr
    cases m with
    | nil => have := hm.1.length; simp at this
    | cons f m =>
      simp only [posE] at hr
      obtain ⟨b, h2, h3⟩ := ob_some.1 hr
      obtain ⟨hm1, hm2⟩ := hm
      cases hm1 with
      | cons hk1 ht1 => cases hm2 with
        | cons hv1 hv2 =>
          have heq := eqKey_ok hT r hk ha hk1 h2
          cases b with
          | true =>
            cases h3
            refine ⟨_, by simp [Instr.findAsking, heq], fun q' e' => ?_, f, e, rfl, rfl, rfl, h2, hk1⟩
            simp only [Instr.findNow] at e'
            cases hs : Instr.sameNow d a f.key with
            | none => rw [hs] at e'; cases e'
            | some s =>
              rw [sameNow_eq hT h1 hk ha hk1 h2 hs] at hs
              rw [hs] at e'
              exact (Option.some.inj e').symm
          | false =>
            obtain ⟨p, h4, h5⟩ := ob_some.1 (show ob (posE h kk x es) (fun r => some (r.map (· + 1))) = some res from h3)
            cases h5
            obtain ⟨q, f2, f3, f4⟩ := ih m (i + 1) p ⟨ht1, hv2⟩ h4
            refine ⟨q, by simp [Instr.findAsking, heq, f2], fun q' e' => ?_, ?_⟩
            · simp only [Instr.findNow] at e'
              cases hs : Instr.sameNow d a f.key with
              | none => rw [hs] at e'; cases e'
              | some s =>
                rw [sameNow_eq hT h1 hk ha hk1 h2 hs] at hs
                rw [hs] at e'
                exact f3 q' e'
            · cases p with
              | none => exact f4
              | some j =>
                obtain ⟨e', ke, m1, m2, m3, m4, m5⟩ := f4
                exact ⟨e', ke, by simpa using m1, by rw [m2]; simp; omega, by simpa using m3, m4, m5⟩
theorem posKey_ok (hT : TyOk P T) (r : WR T g h w) {t : TypeId} {d : TypeDesc} {kk : Kk} {x : V} {a : Value} {es : List (V × V)} {m : List MapEntry} {p : Option Nat} (h1 : T.under t = some d) (hk : keyT T t = some kk) (ha : VR g x a) (hm : Ents g es m)
    (hr : posE h kk x es = some p) : ∃ q, (Instr.findKey t a m).run P w = .ok q w ∧
      (match p with | none => q = none | some j => ∃ e ke, m[j]? = some e ∧ q = some (j, e.val) ∧ es[j]? = some ke ∧ eqKey h kk x ke.1 = some true ∧ VR g ke.1 e.key) := by
  obtain ⟨q, f1, f2, f3⟩ := pos_ok hT r h1 hk ha es m 0 p hm hr
  refine ⟨q, ?_, ?_⟩
  · simp only [Instr.findKey, Sem.run_bind, run_underlying' hT h1, Result.andThen_ok]
    cases hn : Instr.findNow d a m 0 with
    | none => exact f1
    | some q' => rw [f2 q' hn]; rfl
  · cases p with
    | none => exact f3
    | some j => simpa using f3
theorem same1 {k : Pk} {x y : V} {a b : Value} (ha : VR g x a) (hb : VR g y b) (he : eq1 h k x y = some true) (n : Nat) : Instr.sameBits n b a = true := by
  cases k <;> cases x <;> cases y <;> first | (cases he; done) | skip
  · obtain ⟨e1, e2⟩ := oif_some.1 he
    rw [ha.int_inv, hb.int_inv]
    rw [eqI_eq] at e2
    simp only [Option.some.injEq, beq_iff_eq] at e2
    rw [eqK_eq] at e1
    subst e1 e2
    cases n <;> simp [Instr.sameBits]
  · cases ha
    cases hb
    have he := Option.some.inj he
    rw [size_eq, size_eq, strEq_eq] at he
    rename_i s s' _
    have : s = s' := by
      obtain ⟨⟨p⟩⟩ := s
      obtain ⟨⟨q⟩⟩ := s'
      simp at he
      simp [he]
    subst this
    have hs : (s == s) = true := by
      obtain ⟨p⟩ := s
      show (p == p) = true
      simp
    cases n <;> simp [Instr.sameBits, hs]
  · rw [ha.bool_inv, hb.bool_inv]
    have he := Option.some.inj he
    rw [beqB_eq] at he
    simp at he
    subst he
    cases n <;> simp [Instr.sameBits]
  · cases ha
    cases hb
    cases n <;> simp [Instr.sameBits]
  · cases ha
    cases hb
    rename_i i1 o1 i2 o2 b1 z1 zz1 hg1 b2 z2 zz2 hg2
    have he' : (Bool.rec (motive := fun _ => Option Bool) (oif (h.alone i1) (oif (h.alone i2) (some false))) (some (Nat.beq o1 o2)) (Nat.beq i1 i2)) = some true := he
    clear he
    rw [brec_eq] at he'
    have he := he'
    clear he'
    split at he
    · rename_i hi
      have hi' : i1 = i2 := by simpa using hi
      subst hi'
      have ho : o1 = o2 := by simpa using he
      subst ho
      rw [hg1] at hg2
      cases hg2
      cases n <;> simp [Instr.sameBits]
    · obtain ⟨_, he⟩ := oif_some.1 he
      obtain ⟨_, he⟩ := oif_some.1 he
      cases he
theorem sameAll {ks : List Pk} : ∀ {xs ys : List V} {as bs : List Value}, VRs g xs as → VRs g ys bs → eqL h ks xs ys = some true → ∀ n, ((bs.zip as).all fun p => Instr.sameBits n p.1 p.2) = true ∧ bs.length = as.length := by
  induction ks with
  | nil =>
    intro xs ys as bs ha hb he n
    cases xs with
    | cons x xs => cases he
    | nil => cases ys with
      | cons y ys => cases he
      | nil => cases ha; cases hb; exact ⟨rfl, rfl⟩
  | cons k ks ih =>
    intro xs ys as bs ha hb he n
    cases xs with
    | nil => cases he
    | cons x xs => cases ys with
      | nil => cases he
      | cons y ys =>
        cases ha with
        | cons hx hxs => cases hb with
          | cons hy hys =>
            obtain ⟨c, e1, e2⟩ := ob_some.1 (show ob (eq1 h k x y) (fun c => Bool.rec (motive := fun _ => Option Bool) (some false) (eqL h ks xs ys) c) = some true from he)
            cases c with
            | false => cases e2
            | true =>
              obtain ⟨m1, m2⟩ := ih hxs hys e2 n
              exact ⟨by simp only [List.zip_cons_cons, List.all_cons, Bool.and_eq_true]; exact ⟨same1 hx hy e1 n, m1⟩, by simp [m2]⟩
theorem sameKey {k : Kk} {x y : V} {a b : Value} (ha : VR g x a) (hb : VR g y b) (he : eqKey h k x y = some true) (n : Nat) : Instr.sameBits (n + 1) b a = true := by
  cases k with
  | one k => exact same1 ha hb he _
  | agg ks =>
    cases x <;> first | (cases he; done) | skip
    cases y <;> first | (cases he; done) | skip
    cases ha with
    | agg ha => cases hb with
      | agg hb =>
        obtain ⟨m1, m2⟩ := sameAll ha hb he n
        simp only [Instr.sameBits, Bool.and_eq_true]
        refine ⟨by simp [m2], ?_⟩
        exact m1
theorem map_inv {id : Nat} {u : Value} (h : VR g (.map id) u) : ∃ b o z, g id = some (b, o, z) ∧ u = .map (some b) := by
  cases h with
  | map hg => exact ⟨_, _, _, hg, rfl⟩
theorem VRs.setL : ∀ {a : List V} {x : List Value} {v : V} {u : Value} (j : Nat), VRs g a x → VR g v u → VRs g (a.set j v) (x.set j u)
  | _, _, _, _, _, .nil, _ => .nil
  | _, _, _, _, 0, .cons _ t, k => .cons k t
  | _, _, _, _, j + 1, .cons h t, k => .cons h (VRs.setL j t k)
theorem VRs.eraseL : ∀ {a : List V} {x : List Value} (j : Nat), VRs g a x → VRs g (a.eraseIdx j) (x.eraseIdx j)
  | _, _, _, .nil => .nil
  | _, _, 0, .cons _ t => t
  | _, _, j + 1, .cons h t => .cons h (VRs.eraseL j t)
theorem map_erase {α β : Type} (f : α → β) : ∀ (l : List α) (j : Nat), (l.eraseIdx j).map f = (l.map f).eraseIdx j
  | [], _ => by simp
  | _ :: _, 0 => by simp
  | a :: l, j + 1 => by simp [map_erase f l j]
theorem run_setObj_map {w : World} {b : Nat} {m : Array MapEntry} {c : Nat} (o : Obj) (hb : w.heap[b]? = some (.map m c)) : (setObj b o).run P w = .ok () { w with heap := w.heap.setIfInBounds b o } := by
  simp [setObj, Sem.run, hb]
theorem ext_map (r : WR T g h w) {id b o z : Nat} {es es' : List (V × V)} {m m' : Array MapEntry} {c c' : Nat} (hg : g id = some (b, o, z)) {od od' : Bool} (he : h.blk id = some (.map es od)) (hb : w.heap[b]? = some (.map m c)) (hm : Ents g es' m'.toList) (hn : od' = true → Born m'.toList c') :
    Ext T g h w g ⟨h.t.put id (some (.map es' od')), h.next⟩ { w with heap := w.heap.setIfInBounds b (.map m' c') } := by
  refine Ext.upd r hg he rfl rfl rfl (fun _ _ h => by cases h) (fun j hj => ?_) (by simp) rfl rfl rfl ⟨b, o, z, m', c', hg, heap_setObj hb, hm, hn⟩
  simp [Array.getElem?_setIfInBounds_ne (Ne.symm hj)]
theorem eff_mapup (hT : TyOk P T) (r : WR T g h w) {t kt e : TypeId} {kk : Kk} {x y z : Operand} {a b c v : V} {h' : H} (h1 : T.under t = some (.map kt e)) (hk : keyT T kt = some kk) (ha : VR g a (ρ x)) (hb : VR g b (ρ y)) (hc : VR g c (ρ z))
    (hr : EOp.run (.mapup kk) [a, b, c] h = some (v, h')) : ∃ g' w', Ext T g h w g' h' w' ∧ VR g' v undef ∧ (Instr.mapUpdate t (ρ x) (ρ y) (ρ z)).run P w = .ok () w' := by
  cases a with
  | map id =>
    obtain ⟨e0, e1⟩ := oif_some.1 (show (oif (keyShape kk b) <| ob (h.entries id) fun es => ob (putE h kk b c es) fun es => some (undefV, (⟨h.t.put id (some (.map es (h.ord id))), h.next⟩ : H))) = some (v, h') from hr)
    obtain ⟨es, e2, e3⟩ := ob_some.1 e1
    obtain ⟨es', e4, e5⟩ := ob_some.1 e3
    cases e5
    obtain ⟨bb, o, zz, hg, hx⟩ := map_inv ha
    obtain ⟨m, cl, hm, hen, od, hblk, hord, hbn⟩ := entries_ok r hg e2
    obtain ⟨p, hp, rfl⟩ := putE_pos e4
    obtain ⟨d, hd, _⟩ : ∃ d, T.under kt = some d ∧ True := by
      unfold keyT at hk
      obtain ⟨d, h2, _⟩ := ob_some.1 hk
      exact ⟨d, h2, trivial⟩
    obtain ⟨q, hq, hq'⟩ := posKey_ok hT r hd hk hb hen hp
    have hck := checkKey_ok (w := w) hT hk hb e0 false
    cases p with
    | none =>
      subst hq'
      refine ⟨g, _, ext_map (m' := m.push { key := ρ y, val := ρ z, born := cl }) (c' := cl + 1) r hg hblk hm ?_ ?_, undef_vr, ?_⟩
      · simp only [Array.toList_push]
        exact ⟨by simpa using hen.1.append (.cons hb .nil), by simpa using hen.2.append (.cons hc .nil)⟩
      · intro ho
        rw [Array.toList_push]
        exact (hbn (hord ▸ ho)).push rfl
      · simp [hx, Instr.mapUpdate, run_underlying' hT h1, run_getObj_map hm, hck, hq, run_setObj_map _ hm]
    | some j =>
      obtain ⟨e', ke, m1, rfl, m3, m4, m5⟩ := hq'
      have hsame := sameKey hb m5 m4 9999
      have m1' : m[j]? = some e' := by simpa using m1
      have hl : (m.modify j fun e => { e with key := ρ y, val := ρ z }).toList = m.toList.set j { e' with key := ρ y, val := ρ z } := by
          apply List.ext_getElem?
          intro i
          rw [Array.getElem?_toList, Array.getElem?_modify, List.getElem?_set]
          by_cases hij : j = i
          · subst hij
            have : j < m.toList.length := by
              rcases Nat.lt_or_ge j m.toList.length with k | k
              · exact k
              · rw [List.getElem?_eq_none k] at m1; cases m1
            have hj : j < m.size := by simpa using this
            have he : m[j] = e' := by
              have := m1'
              rw [Array.getElem?_eq_getElem hj] at this
              exact Option.some.inj this
            simp [hj, he]
          · simp [hij]
      refine ⟨g, _, ext_map (m' := m.modify j fun e => { e with key := ρ y, val := ρ z }) (c' := cl) r hg hblk hm ?_ ?_, undef_vr, ?_⟩
      · rw [hl]
        refine ⟨?_, ?_⟩
        · rw [List.map_set, List.map_set]
          exact VRs.setL j hen.1 hb
        · rw [List.map_set, List.map_set]
          exact VRs.setL j hen.2 hc
      · intro ho
        rw [hl]
        exact (hbn (hord ▸ ho)).set m1 rfl
      · simp [hx, Instr.mapUpdate, run_underlying' hT h1, run_getObj_map hm, hck, hq, run_setObj_map _ hm, Instr.keyThatStays, hsame, m1']
  | _ => cases hr
theorem eff_delete (hT : TyOk P T) (r : WR T g h w) {t kt e : TypeId} {kk : Kk} {args : Array Operand} {at' : Array TypeId} {vs : List V} {v : V} {h' : H} (h0 : at'[0]? = some t) (h1 : T.under t = some (.map kt e)) (hk : keyT T kt = some kk)
    (hv : VRs g vs (args.toList.map ρ)) (hr : EOp.run (.delete kk) vs h = some (v, h')) : Eff P T g h w ρ (.call ⟨.builtin .delete, args, at'⟩) v h' := by
  obtain ⟨a, b, rfl⟩ : ∃ d x, vs = [d, x] := by
    cases vs with
    | nil => cases hr
    | cons d vs => cases vs with
      | nil => cases d <;> cases hr
      | cons x vs => cases vs with
        | nil => exact ⟨d, x, rfl⟩
        | cons y vs => cases d <;> cases hr
  obtain ⟨x, y, hargs, ha, hb⟩ := args_two hv rfl
  cases a with
  | map id =>
    obtain ⟨e0, e1⟩ := oif_some.1 (show (oif (keyShape kk b) <| ob (h.entries id) fun es => ob (delE h kk b es) fun es => some ((V.tup [], ⟨h.t.put id (some (.map es false)), h.next⟩) : V × H)) = some (v, h') from hr)
    obtain ⟨es, e2, e3⟩ := ob_some.1 e1
    obtain ⟨es', e4, e5⟩ := ob_some.1 e3
    cases e5
    obtain ⟨bb, o, zz, hg, hx⟩ := map_inv ha
    obtain ⟨m, cl, hm, hen, od, hblk, hord, hbn⟩ := entries_ok r hg e2
    obtain ⟨p, hp, rfl⟩ := delE_pos e4
    obtain ⟨d, hd, _⟩ : ∃ d, T.under kt = some d ∧ True := by
      unfold keyT at hk
      obtain ⟨d, h2, _⟩ := ob_some.1 hk
      exact ⟨d, h2, trivial⟩
    obtain ⟨q, hq, hq'⟩ := posKey_ok hT r hd hk hb hen hp
    have hck := checkKey_ok (w := w) hT hk hb e0 (m.isEmpty)
    cases p with
    | none =>
      subst hq'
      refine ⟨g, _, _, ext_map (m' := m) (c' := cl) r hg hblk hm hen (fun e => by cases e), .tup .nil, fun o' e' => .inl ?_⟩
      simp [execOp, e', resolve, invoke, builtin, hargs, h0, hx, Builtin.delete_, run_underlying' hT h1, run_getObj_map hm, hck, hq, run_setObj_map _ hm]
    | some j =>
      obtain ⟨e'', ke, m1, rfl, m3, m4, m5⟩ := hq'
      refine ⟨g, _, _, ext_map (m' := m.eraseIdxIfInBounds j) (c' := cl) r hg hblk hm ?_ (fun e => by cases e), .tup .nil, fun o' e' => .inl ?_⟩
      · have hl : (m.eraseIdxIfInBounds j).toList = m.toList.eraseIdx j := by simp
        rw [hl]
        refine ⟨?_, ?_⟩
        · rw [map_erase, map_erase]
          exact VRs.eraseL j hen.1
        · rw [map_erase, map_erase]
          exact VRs.eraseL j hen.2
      · simp [execOp, e', resolve, invoke, builtin, hargs, h0, hx, Builtin.delete_, run_underlying' hT h1, run_getObj_map hm, hck, hq, run_setObj_map _ hm]
  | _ => cases hr
theorem posK_eq (h : H) (kk : Kk) (k : V) : ∀ es, posK h kk k es = posE h kk k es
  | [] => rfl
  | e :: tl => by
    show ob (eqKey h kk k e.1) (fun b => Bool.rec (motive := fun _ => Option (Option Nat)) (ob (posK h kk k tl) fun r => some (r.map (· + 1))) (some (some 0)) b) = _
    rw [posK_eq h kk k tl]
    simp only [brec_eq, posE]
theorem modify_set {m : Array MapEntry} {j : Nat} {e : MapEntry} (f : MapEntry → MapEntry) (h : m.toList[j]? = some e) : (m.modify j f).toList = m.toList.set j (f e) := by
  have m1' : m[j]? = some e := by simpa using h
  apply List.ext_getElem?
  intro i
  rw [Array.getElem?_toList, Array.getElem?_modify, List.getElem?_set]
  by_cases hij : j = i
  · subst hij
    have hj : j < m.size := by
      rcases Nat.lt_or_ge j m.size with k | k
      · exact k
      · rw [Array.getElem?_eq_none k] at m1'; cases m1'
    have he : m[j] = e := by
      rw [Array.getElem?_eq_getElem hj] at m1'
      exact Option.some.inj m1'
    simp [hj, he]
  · simp [hij]
theorem eff_mapent (hT : TyOk P T) (r : WR T g h w) {t kt e : TypeId} {kk : Kk} {x y : Operand} {z a b v : V} {h' : H} (h1 : T.under t = some (.map kt e)) (hk : keyT T kt = some kk) (hz : zeroT T e = some z) (ha : VR g a (ρ x)) (hb : VR g b (ρ y))
    (hr : EOp.run (.mapent kk z) [a, b] h = some (v, h')) : ∃ g' w' u, Ext T g h w g' h' w' ∧ VR g' v u ∧ (Instr.mapEntry t (ρ x) (ρ y)).run P w = .ok u w' := by
  cases a with
  | map id =>
    obtain ⟨e0, e1⟩ := oif_some.1 (show (oif (keyShape kk b && h.ord id) <| ob (h.entries id) fun es => ob (posK h kk b es) fun p => Option.rec (motive := fun _ => Option (V × H))
      (some (.tup [z, .int .i64 (Int.ofNat (lenL es))], ⟨h.t.put id (some (.map (es ++ [(b, z)]) true)), h.next⟩))
      (fun j => ob (nthL es j) fun e => some (.tup [e.2, .int .i64 (Int.ofNat j)], ⟨h.t.put id (some (.map (es.set j (b, e.2)) true)), h.next⟩)) p) = some (v, h') from hr)
    obtain ⟨es, e2, e3⟩ := ob_some.1 e1
    obtain ⟨p, hp, e5⟩ := ob_some.1 e3
    rw [Bool.and_eq_true] at e0
    obtain ⟨e0, eo⟩ := e0
    obtain ⟨bb, o, zz, hg, hx⟩ := map_inv ha
    obtain ⟨m, cl, hm, hen, od, hblk, hord, hbn⟩ := entries_ok r hg e2
    have hbn := hbn (hord ▸ eo)
    rw [posK_eq] at hp
    obtain ⟨d, hd, _⟩ : ∃ d, T.under kt = some d ∧ True := by
      unfold keyT at hk
      obtain ⟨d, h2, _⟩ := ob_some.1 hk
      exact ⟨d, h2, trivial⟩
    obtain ⟨q, hq, hq'⟩ := posKey_ok hT r hd hk hb hen hp
    have hck := checkKey_ok (w := w) hT hk hb e0 false
    have hlen : es.length = m.size := by have := hen.1.length; simpa using this
    cases p with
    | none =>
      subst hq'
      cases e5
      obtain ⟨zu, hzr, hzu⟩ := zeroT_ok (g := g) hT hz
      refine ⟨g, _, .tuple #[zu, .int .i64 (Int.ofNat (lenL es))], ext_map (m' := m.push { key := ρ y, val := zu, born := cl }) (c' := cl + 1) r hg hblk hm ?_ ?_, .tup (.cons hzr (.cons (.int _ _) .nil)), ?_⟩
      · simp only [Array.toList_push]
        exact ⟨by simpa using hen.1.append (.cons hb .nil), by simpa using hen.2.append (.cons hzr .nil)⟩
      · intro _
        rw [Array.toList_push]
        exact hbn.push rfl
      · have hcl : (goInt cl : Value) = .int .i64 (Int.ofNat (lenL es)) := by
          rw [lenL_eq, hlen]
          have := hbn.1
          simp only [Array.length_toList] at this
          rw [this]
          rfl
        simp [hx, Instr.mapEntry, run_underlying' hT h1, run_getObj_map hm, hck, hq, run_setObj_map _ hm, hzu, hcl]
    | some j =>
      obtain ⟨e', ke, m1, rfl, m3, m4, m5⟩ := hq'
      obtain ⟨ke', n1, n2⟩ := ob_some.1 e5
      cases n2
      rw [nthL_eq, m3] at n1
      cases n1
      have hsame := sameKey hb m5 m4 9999
      have m1' : m[j]? = some e' := by simpa using m1
      have hl := modify_set (fun e => { e with key := ρ y }) m1
      obtain ⟨uv, s1, s2⟩ := hen.2.get (i := j) (v := ke.2) (by rw [List.getElem?_map, m3]; rfl)
      rw [List.getElem?_map, m1] at s1
      cases s1
      have hbj := hbn.2 j e' m1
      refine ⟨g, _, .tuple #[e'.val, .int .i64 (Int.ofNat j)], ext_map (m' := m.modify j fun e => { e with key := ρ y }) (c' := cl) r hg hblk hm ?_ ?_, .tup (.cons s2 (.cons (.int _ _) .nil)), ?_⟩
      · rw [hl]
        refine ⟨?_, ?_⟩
        · rw [List.map_set, List.map_set]
          exact VRs.setL j hen.1 hb
        · rw [List.map_set, List.map_set]
          exact VRs.setL j hen.2 s2
      · intro _
        rw [hl]
        exact hbn.set m1 rfl
      · simp [hx, Instr.mapEntry, run_underlying' hT h1, run_getObj_map hm, hck, hq, run_setObj_map _ hm, Instr.keyThatStays, hsame, m1', hbj, goInt]
  | _ => cases hr
theorem eff_entst (r : WR T g h w) {t : TypeId} {x y z : Operand} {a b c v : V} {h' : H} (ha : VR g a (ρ x)) (hb : VR g b (ρ y)) (hc : VR g c (ρ z))
    (hr : EOp.run .entst [a, b, c] h = some (v, h')) : ∃ g' w', Ext T g h w g' h' w' ∧ VR g' v undef ∧ (Instr.entryStore t (ρ x) (ρ y) (ρ z)).run P w = .ok () w' := by
  cases a with
  | map id =>
    cases b with
    | int k s =>
      obtain ⟨eo, e1⟩ := oif_some.1 (show (oif (h.ord id) <| ob (h.entries id) fun es => ob (idx s (lenL es)) fun j => ob (nthL es j) fun e => some (undefV, (⟨h.t.put id (some (.map (es.set j (e.1, c)) true)), h.next⟩ : H))) = some (v, h') from hr)
      obtain ⟨es, e2, e3⟩ := ob_some.1 e1
      obtain ⟨j, hj, e4⟩ := ob_some.1 e3
      obtain ⟨ke, n1, e5⟩ := ob_some.1 e4
      cases e5
      obtain ⟨bb, o, zz, hg, hx⟩ := map_inv ha
      obtain ⟨m, cl, hm, hen, od, hblk, hord, hbn⟩ := entries_ok r hg e2
      have hbn := hbn (hord ▸ eo)
      have hs := idx_some hj
      rw [lenL_eq] at hs
      have hlen : es.length = m.size := by have := hen.1.length; simpa using this
      obtain ⟨rfl, hlt⟩ := hs
      have hjm : j < m.size := by omega
      have m1 : m.toList[j]? = some m[j] := by simp [hjm]
      rw [nthL_eq] at n1
      have hl := modify_set (fun e => { e with val := ρ z }) m1
      obtain ⟨uk, s1, s2⟩ := hen.1.get (i := j) (v := ke.1) (by rw [List.getElem?_map, n1]; rfl)
      rw [List.getElem?_map, m1] at s1
      cases s1
      refine ⟨g, _, ext_map (m' := m.modify j fun e => { e with val := ρ z }) (c' := cl) r hg hblk hm ?_ ?_, undef_vr, ?_⟩
      · rw [hl]
        refine ⟨?_, ?_⟩
        · rw [List.map_set, List.map_set]
          exact VRs.setL j hen.1 s2
        · rw [List.map_set, List.map_set]
          exact VRs.setL j hen.2 hc
      · intro _
        rw [hl]
        exact hbn.set m1 rfl
      · have hb' := hb.int_inv
        have hf : m.findIdx? (fun e => (e.born : Int) == Int.ofNat j) = some j := by
          rw [Array.findIdx?_eq_some_iff_getElem]
          refine ⟨hjm, ?_, fun i hi => ?_⟩
          · have := hbn.2 j m[j] m1
            rw [this]
            exact beq_self_eq_true _
          · have hi' : i < m.size := by omega
            have := hbn.2 i m[i] (by simp [hi'])
            rw [this]
            simp
            omega
        simp [hx, hb', Instr.entryStore, run_getObj_map hm, asInt, asIntOf]
        rw [show m.findIdx? (fun e => (e.born : Int) == (j : Int)) = some j from hf]
        simp [run_setObj_map _ hm]
    | _ => cases hr
  | _ => cases hr
theorem one_map {id b o z c : Nat} {m : Array MapEntry} {e : V × V} (r : WR T g h w) (hg : g id = some (b, o, z)) (hm : w.heap[b]? = some (.map m c)) (hen : Ents g [e] m.toList) (hb : Born m.toList c) : ∃ x, m = #[x] ∧ x.born = 0 ∧ c = 1 ∧ VR g e.1 x.key ∧ VR g e.2 x.val := by
  obtain ⟨h1, h2⟩ := hen
  have hl : m.toList.length = 1 := by
    have := h1.length
    simpa using this.symm
  obtain ⟨x, hx⟩ : ∃ x, m.toList = [x] := by
    match hml : m.toList, hl with
    | [x], _ => exact ⟨x, rfl⟩
  have hmx : m = #[x] := by
    have := congrArg List.toArray hx
    simpa using this
  rw [hx] at h1 h2 hb
  refine ⟨x, hmx, hb.2 0 x rfl, hb.1, ?_, ?_⟩
  · cases h1 with
    | cons k _ => exact k
  · cases h2 with
    | cons k _ => exact k
theorem eff_rangeM (hT : TyOk P T) (r : WR T g h w) {t kt e : TypeId} {x : Operand} {a v : V} {h' : H} (h1 : T.under t = some (.map kt e)) (ha : VR g a (ρ x)) (hr : EOp.run .rangeM [a] h = some (v, h')) : Eff P T g h w ρ (.range t x) v h' := by
  cases a with
  | map id =>
    obtain ⟨es, e1, e2⟩ := ob_some.1 (show (ob (h.entries id) fun es => ob (h.new (.miter id (Bool.rec (motive := fun _ => Option Nat) none (some (lenL es)) (h.ord id)) false)) fun h' => some (V.ptr h.next 0, h')) = some (v, h') from hr)
    obtain ⟨h2, e3, e4⟩ := ob_some.1 e2
    cases e4
    obtain ⟨bb, o, zz, hg, hx⟩ := map_inv ha
    obtain ⟨m, cl, hm, hen, od, hblk, hod, hborn⟩ := entries_ok r hg e1
    have hlt := r.lt _ _ _ _ hg
    have hne : id ≠ h.next := by have := r.dom _ _ hg; omega
    refine ⟨_, w.alloc (.mapIter (some bb) cl #[] cl), .pointer (some ⟨w.heap.size, 0, none⟩), Ext.new (z := 0) r e3 (.inl rfl) ⟨w.heap.size, 0, bb, o, zz, cl, cl, gput_same _ _ _, by rw [gput_ne _ hne]; exact hg, by simpa using heap_alloc_new w _, fun n hn => ?_, fun e => by cases e⟩, VR.ptr (off := 0) (gput_same _ _ _), fun o' e' => .inl ?_⟩
    · rw [hod] at hn
      cases od with
      | false => cases hn
      | true =>
        have hn : some (lenL es) = some n := hn
        cases hn
        rw [(hborn rfl).1, lenL_eq]
        have := hen.1.length
        simpa using this.symm
    · simp [execOp, e', Instr.range, run_underlying' hT h1, hx, run_getObj_map hm]
  | _ => cases hr
theorem eff_nextM (r : WR T g h w) {x : Operand} {a v : V} {h' : H} (ha : VR g a (ρ x)) (hr : EOp.run .nextM [a] h = some (v, h')) : Eff P T g h w ρ (.next x false) v h' := by
  cases a with
  | ptr id off =>
    cases off with
    | succ off => cases hr
    | zero =>
      obtain ⟨k, e1, e2⟩ := ob_some.1 (show ob (h.blk id) (fun b => match b with
        | .miter m s seen => ob (h.entries m) fun es => caseL es (Bool.rec (motive := fun _ => Option (V × H)) (some (.tup [.bool false], h)) none seen) fun e t => caseL t
          (oif (h.ord m) (Bool.rec (motive := fun _ => Option (V × H)) (ob s fun n => oif (Nat.blt 0 n) (some (.tup [.bool true, e.1, e.2], ⟨h.t.put id (some (.miter m s true)), h.next⟩))) (some (.tup [.bool false], h)) seen)) fun _ _ => none
        | _ => none) = some (v, h') from hr)
      cases k with
      | miter m sc seen =>
        obtain ⟨es, e3, e4⟩ := ob_some.1 e2
        cases hx : ρ x <;> rw [hx] at ha <;> cases ha
        rename_i b o z hg
        obtain ⟨b', z', bm, om, zm, s, l, k1, k2, k3, k4, k5⟩ := r.blk id _ _ hg e1
        rw [hg] at k1
        cases k1
        obtain ⟨mm, cl, hm, hen, od, hblk, hod, hborn⟩ := entries_ok r k2 e3
        cases es with
        | nil =>
          cases seen with
          | true => cases e4
          | false =>
            cases e4
            have hnil : mm = #[] := by
              have := hen.1.length
              have h0 : mm.toList.length = 0 := by simpa using this.symm
              exact Array.eq_empty_of_size_eq_zero (by simpa using h0)
            subst hnil
            refine ⟨g, w, .tuple #[.bool false], .refl r, .tup (.cons (.bool _) .nil), fun o' e' => .inl ?_⟩
            have hob : (getObj b).run P w = .ok (.mapIter (some bm) s #[] l) w := by simp [getObj, Sem.run, k3]
            simp [execOp, e', Instr.next, hx, hob, run_getObj_map hm, Question.forced]
        | cons y t => cases t with
          | cons _ _ => cases e4
          | nil =>
            obtain ⟨o1, o2⟩ := oif_some.1 (show oif (h.ord m) _ = some (v, h') from e4)
            rw [hod] at o1
            obtain ⟨x1, rfl, hb0, rfl, y1, y2⟩ := one_map r k2 hm hen (hborn o1)
            cases seen with
            | true =>
              cases o2
              have hl := k5 rfl
              subst hl
              refine ⟨g, w, .tuple #[.bool false], .refl r, .tup (.cons (.bool _) .nil), fun o' e' => .inl ?_⟩
              have hob : (getObj b).run P w = .ok (.mapIter (some bm) s #[0] 1) w := by simp [getObj, Sem.run, k3]
              simp [execOp, e', Instr.next, hx, hob, run_getObj_map hm, Question.forced, hb0]
            | false =>
              obtain ⟨n, n1, n2⟩ := ob_some.1 (show ob sc (fun n => oif (Nat.blt 0 n) (some (V.tup [.bool true, y.1, y.2], (⟨h.t.put id (some (.miter m sc true)), h.next⟩ : H)))) = some (v, h') from o2)
              obtain ⟨n3, n4⟩ := oif_some.1 n2
              cases n4
              have hs : s = n := k4 n n1
              have hn : 0 < n := by simpa using n3
              have hob : (getObj b).run P w = .ok (.mapIter (some bm) s #[] l) w := by simp [getObj, Sem.run, k3]
              have k3' : w.heap[b]? = some (.mapIter (some bm) s #[] l) := by simpa using k3
              refine ⟨g, { w with heap := w.heap.setIfInBounds b (.mapIter (some bm) s #[0] 1) }, .tuple #[.bool true, x1.key, x1.val], ?_, .tup (.cons (.bool true) (.cons y1 (.cons y2 .nil))), fun o' e' => .inl ?_⟩
              · refine Ext.upd r hg e1 rfl rfl rfl (fun _ _ h => by cases h) (fun j hj => ?_) (by simp) rfl rfl rfl ⟨b, _, bm, om, zm, s, 1, hg, k2, by simpa using heap_setObj k3', k4, fun _ => rfl⟩
                simp [Array.getElem?_setIfInBounds_ne (Ne.symm hj)]
              · have h0s : 0 < s := by omega
                simp [execOp, e', Instr.next, hx, hob, run_getObj_map hm, Question.forced, hb0, h0s, Nat.not_le_of_lt h0s, setObj, Sem.run, k3']
      | _ => cases e2
  | _ => cases hr
theorem eff_entryM (r : WR T g h w) {x : Operand} {a v : V} {h' : H} (ha : VR g a (ρ x)) (hr : EOp.run .entryM [a] h = some (v, h')) : Eff P T g h w ρ (.entry x) v h' := by
  cases a with
  | ptr id off =>
    cases off with
    | succ off => cases hr
    | zero =>
      obtain ⟨k, e1, e2⟩ := ob_some.1 (show ob (h.blk id) (fun b => match b with
        | .miter m _ true => ob (h.entries m) fun es => caseL es none fun e t => caseL t (oif (h.ord m) (some (.tup [e.1, e.2], h))) fun _ _ => none
        | _ => none) = some (v, h') from hr)
      cases k with
      | miter m sc seen =>
        cases seen with
        | false => cases e2
        | true =>
          obtain ⟨es, e3, e4⟩ := ob_some.1 (show ob (h.entries m) (fun es => caseL es none fun e t => caseL t (oif (h.ord m) (some (V.tup [e.1, e.2], h))) fun _ _ => none) = some (v, h') from e2)
          cases hx : ρ x <;> rw [hx] at ha <;> cases ha
          rename_i b o z hg
          obtain ⟨b', z', bm, om, zm, s, l, k1, k2, k3, k4, k5⟩ := r.blk id _ _ hg e1
          rw [hg] at k1
          cases k1
          obtain ⟨mm, cl, hm, hen, od, hblk, hod, hborn⟩ := entries_ok r k2 e3
          cases es with
          | nil => cases e4
          | cons y t => cases t with
            | cons _ _ => cases e4
            | nil =>
              obtain ⟨o1, o2⟩ := oif_some.1 (show oif (h.ord m) _ = some (v, h') from e4)
              cases o2
              rw [hod] at o1
              obtain ⟨x1, rfl, hb0, rfl, y1, y2⟩ := one_map r k2 hm hen (hborn o1)
              have hl := k5 rfl
              subst hl
              refine ⟨g, w, .tuple #[x1.key, x1.val], .refl r, .tup (.cons y1 (.cons y2 .nil)), fun o' e' => .inl ?_⟩
              have hob : (getObj b).run P w = .ok (.mapIter (some bm) s #[0] 1) w := by simp [getObj, Sem.run, k3]
              simp [execOp, e', Instr.entry, hx, hob, run_getObj_map hm, hb0]
      | _ => cases e2
  | _ => cases hr
end
end Ev
end Go.Proofs.YtogbcielgfidlaaGreatDoor
