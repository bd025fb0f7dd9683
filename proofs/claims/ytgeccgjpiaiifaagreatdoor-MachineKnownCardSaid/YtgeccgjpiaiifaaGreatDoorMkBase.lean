/-
  The two package-level variables that are read: their blocks.
-/
import Derived.Test.YtgeccgjpiaiifaaGreatDoorMkKind
namespace Go.Proofs.YtgeccgjpiaiifaaGreatDoor
namespace Ev
/-- A block of the world that holds these values. -/
def PinAt (w : World) (b : Nat) (l : List V) : Prop := ∃ (c : Array Value) (t : TypeId) (xs : List Value), w.heap[b]? = some (.cells c t (0, 0)) ∧ VRs nog l xs ∧ (∀ (j : Nat) (u : Value), xs[j]? = some u → c[j]? = some u) ∧ xs.length ≤ c.size
theorem vrs_of {g : G} {c : Array Value} : ∀ {l : List V} {o : Nat}, l.all flat = true → (∀ j v, l[j]? = some v → ∃ u, c[o + j]? = some u ∧ VR g v u) → ∃ xs, VRs nog l xs ∧ xs.length = l.length ∧ ∀ j u, xs[j]? = some u → c[o + j]? = some u
  | [], o, _, _ => ⟨[], .nil, rfl, fun j u e => by simp at e⟩
  | v :: l, o, hf, h => by
    rw [List.all_cons, Bool.and_eq_true] at hf
    obtain ⟨u, h1, h2⟩ := h 0 v rfl
    obtain ⟨xs, k1, k2, k3⟩ := vrs_of (o := o + 1) (l := l) hf.2 fun j v e => by
      obtain ⟨u, q1, q2⟩ := h (j + 1) v (by simpa using e)
      exact ⟨u, by rw [show o + 1 + j = o + (j + 1) by omega]; exact q1, q2⟩
    refine ⟨u :: xs, .cons (flat_vr hf.1 h2) k1, by simp [k2], fun j x e => ?_⟩
    cases j with
    | zero => cases e; exact h1
    | succ j =>
      rw [show o + (j + 1) = o + 1 + j by omega]
      exact k3 j x (by simpa using e)
theorem pinAt_of {g : G} {h : H} {w : World} {id b n : Nat} {l : List V} (r : WR TP g h w) (hG : Glob TP g h) (hp : (id, b, n, trOf l 0 .e) ∈ TP.pin) (hn : l.length = n) (_hs : n ≤ 1000) (hf : l.all flat = true) : PinAt w b l := by
  obtain ⟨⟨z, hz⟩, hb⟩ := hG _ hp
  have hz : g id = some (b, 0, z) := hz
  have hb : h.blk id = some (.ro n (trOf l 0 .e)) := hb
  obtain ⟨b', o', z', c, t, k1, k2, k3, k4, k5, k6⟩ := r.blk id _ _ hz hb
  rw [hz] at k1
  cases k1
  have big : (1000 : Nat) ≤ keys := by decide
  obtain ⟨xs, q1, q2, q3⟩ := vrs_of (g := g) (c := c) (o := 0) hf fun j v e => by
    have hj : j < l.length := (List.getElem?_eq_some_iff.1 e).1
    obtain ⟨u, m1, m2, _⟩ := k6 j v (by omega) (by rw [trOf_get l 0 .e j (by omega), if_pos (by omega)]; simpa using e)
    exact ⟨u, m1, m2⟩
  exact ⟨c, t, xs, k2, q1, fun j u e => by have := q3 j u e; rwa [Nat.zero_add] at this, by omega⟩
theorem H0_eq : H0 = ⟨Tr.put (⟨Tr.put Tr.e 0 (some (.ro (lenL tbl) (trOf tbl 0 .e))), Nat.succ 0⟩ : H).t 1 (some (.ro (lenL tbS) (trOf tbS 0 .e))), Nat.succ 1⟩ := rfl
theorem two0 (x y : Option Blk) : (Tr.put (Tr.put Tr.e 0 x) 1 y).get 0 = x := by rw [Tr.get_put _ _ _ _ (by decide), if_neg (by decide), Tr.get_put _ _ _ _ (by decide), if_pos rfl]
theorem two1 (x y : Option Blk) : (Tr.put (Tr.put Tr.e 0 x) 1 y).get 1 = y := by rw [Tr.get_put _ _ _ _ (by decide), if_pos rfl]
theorem H0_0 : H0.blk 0 = some (.ro 123 (trOf tbl 0 .e)) := by
  have e := two0 (some (.ro (lenL tbl) (trOf tbl 0 .e))) (some (.ro (lenL tbS) (trOf tbS 0 .e)))
  rw [tbl_len] at e
  exact e
theorem H0_1 : H0.blk 1 = some (.ro 256 (trOf tbS 0 .e)) := by
  have e := two1 (some (.ro (lenL tbl) (trOf tbl 0 .e))) (some (.ro (lenL tbS) (trOf tbS 0 .e)))
  rw [tbS_len] at e
  exact e
theorem base_w {w : World} (a : PinAt w 0 tbl) (b : PinAt w 1 tbS) : Base TP H0 w := by
  obtain ⟨c, t, xs, a1, a2, a3, a4⟩ := a
  obtain ⟨c', t', ys, b1, b2, b3, b4⟩ := b
  have lx : xs.length = 123 := by rw [← a2.length, ← lenL_eq, tbl_len]
  have ly : ys.length = 256 := by rw [← b2.length, ← lenL_eq, tbS_len]
  have big : (1000 : Nat) ≤ keys := by decide
  obtain ⟨r, al, _⟩ := (WR.empty TP w).overRo AllRo.empty (by decide) (o := 0) (z := c.size) a1 (by omega) a2 (fun j u hu => by rw [Nat.zero_add]; exact a3 j u hu) a4 (by omega) (fun v hx => flat_one (List.all_eq_true.1 tbl_flat v hx))
  obtain ⟨r', al', le⟩ := r.overRo al (by decide) (o := 0) (z := c'.size) b1 (by omega) (b2.mono (fun _ _ e => by cases e)) (fun j u hu => by rw [Nat.zero_add]; exact b3 j u hu) b4 (by omega) (fun v hx => flat_one (List.all_eq_true.1 tbS_flat v hx))
  obtain ⟨tr, ts, e1, e2, hpin⟩ : ∃ tr ts, tr = trOf tbl 0 .e ∧ ts = trOf tbS 0 .e ∧ TP.pin = [(0, 0, 123, tr), (1, 1, 256, ts)] := ⟨_, _, rfl, rfl, rfl⟩
  have h0 := H0_0
  have h1 := H0_1
  rw [← e1] at h0
  rw [← e2] at h1
  refine ⟨_, H0_eq ▸ r', H0_eq ▸ al', fun p hp => ?_⟩
  rw [hpin] at hp
  cases hp with
  | head => exact ⟨⟨_, le _ _ (gput_same _ _ _)⟩, h0⟩
  | tail _ hp =>
    obtain rfl := List.mem_singleton.1 hp
    exact ⟨⟨_, gput_same _ _ _⟩, h1⟩
theorem base0 : ∀ g h w, WR TP g h w → Glob TP g h → Base TP H0 w := fun _ _ _ r hG =>
  base_w (pinAt_of r hG (id := 0) (n := 123) List.mem_cons_self (by rw [← lenL_eq, tbl_len]) (by decide) tbl_flat) (pinAt_of r hG (id := 1) (n := 256) (List.mem_cons_of_mem _ List.mem_cons_self) (by rw [← lenL_eq, tbS_len]) (by decide) tbS_flat)
theorem Rows.primOf {f : FuncId} {t : List (List V × D)} (k : Rows Tryz.prog TP f t) : PrimOf f (treeP t) := fun _ _ _ _ e _ _ _ r hG hv => k.prim e r hG hv
end Ev
end Go.Proofs.YtgeccgjpiaiifaaGreatDoor
