/-
  Plain laws: repeated picks take every process exactly once.
-/
import Derived.Test.YtpfmpfmbmipglaaDropsLaw
namespace Go.Proofs.Ytpfmpfmbmipglaa

theorem pick_perm {s : St} (hz : s.size ≠ 0) : s.ids.Perm (s.pickId :: s.pick.ids) := by
  rcases pick_ways hz with ⟨x, xs, eh⟩ | ⟨eh, en, x, xs, ex⟩ | ⟨eh, en, x, xs, ex⟩
  · obtain ⟨_, e1, e2⟩ := pick_high eh
    rw [e1, e2]; unfold St.ids; rw [eh]; simp
  · obtain ⟨_, e1, e2⟩ := pick_norm eh en ex
    rw [e1, e2]; unfold St.ids; rw [eh, ex]; simp
  · obtain ⟨_, e1, e2⟩ := pick_low eh en ex
    rw [e1, e2]; unfold St.ids; rw [eh, ex]; simp only [List.nil_append]
    exact List.perm_middle

theorem pick_size {s : St} (hz : s.size ≠ 0) : s.pick.size + 1 = s.size := by
  have := (pick_perm hz).length_eq
  rw [List.length_cons, St.size_ids, St.size_ids] at this
  omega

theorem pick_gone {s : St} (ok : s.Ok) (hz : s.size ≠ 0) : s.pickId ∉ s.pick.ids := (List.nodup_cons.1 ((pick_perm hz).nodup_iff.1 ok.nd)).1

/-- How often a process has been seen, when t waits still. -/
def seenOf (t : St) (x : Int) : Int := if x ∈ t.ids then 0 else 1
def seens (all : List Int) (t : St) : List Int := all.map (seenOf t)
/-- In the middle of a round: the first k are counted anew. -/
def mids (all : List Int) (t : St) (k : Nat) : List Int := (all.take k).map (seenOf t.pick) ++ (all.drop k).map (seenOf t)

theorem seen_pick {t : St} (ok : t.Ok) (hz : t.size ≠ 0) (x : Int) : seenOf t.pick x = if x = t.pickId then seenOf t x + 1 else seenOf t x := by
  have hp := (pick_perm hz).mem_iff (a := x)
  have hg := pick_gone ok hz
  unfold seenOf
  by_cases e : x = t.pickId
  · rw [if_pos e, if_neg (by rw [e]; exact hg), if_pos (by rw [hp, e]; simp)]; rfl
  · rw [if_neg e]
    have : x ∈ t.ids ↔ x ∈ t.pick.ids := by rw [hp]; simp [e]
    by_cases h : x ∈ t.ids
    · rw [if_pos h, if_pos (this.1 h)]
    · rw [if_neg h, if_neg (fun c => h (this.2 c))]

theorem mids_zero (all : List Int) (t : St) : mids all t 0 = seens all t := by simp [mids, seens]
theorem mids_all (all : List Int) (t : St) : mids all t all.length = seens all t.pick := by simp [mids, seens]
theorem mids_len (all : List Int) (t : St) (k : Nat) (h : k ≤ all.length) : (mids all t k).length = all.length := by simp [mids]; omega

theorem mids_at {all : List Int} {t : St} {k : Nat} (h : k < all.length) : (mids all t k).getD k 0 = seenOf t (all.getD k 0) := by
  unfold mids
  rw [List.getD_eq_getElem?_getD, List.getElem?_append_right (by simp; omega)]
  simp [Nat.min_eq_left (Nat.le_of_lt h), List.getD_eq_getElem?_getD, List.getElem?_eq_getElem h]

theorem mids_succ {all : List Int} {t : St} {k : Nat} (h : k < all.length) : mids all t (k + 1) = (mids all t k).set k (seenOf t.pick (all.getD k 0)) := by
  unfold mids
  rw [List.take_succ_eq_append_getElem h, List.map_append, List.drop_eq_getElem_cons h, List.map_cons, List.set_append_right _ _ (by simp; omega)]
  rw [List.append_assoc, List.length_map, List.length_take, Nat.min_eq_left (Nat.le_of_lt h), Nat.sub_self, List.map_cons (l := all.drop (k + 1)), List.set_cons_zero, List.getD_eq_getElem?_getD, List.getElem?_eq_getElem h]
  rfl

theorem ids_nil {t : St} (h : t.size = 0) : t.h = [] ∧ t.n = [] ∧ t.l = [] := by
  unfold St.size at h
  exact ⟨List.length_eq_zero_iff.1 (by omega), List.length_eq_zero_iff.1 (by omega), List.length_eq_zero_iff.1 (by omega)⟩

theorem seens_nil {all : List Int} {t : St} (h : t.size = 0) {k : Nat} (hk : k < all.length) : (seens all t).getD k 0 = 1 := by
  obtain ⟨a, b, c⟩ := ids_nil h
  simp [seens, seenOf, St.ids, a, b, c, List.getD_eq_getElem?_getD, List.getElem?_eq_getElem hk]

/-- The k-th of the processes is put again. -/
theorem once_put {all : List Int} (nd : all.Nodup) (pos : ∀ i ∈ all, 0 ≤ i ∧ i ≤ 9223372036854775807) {c : Int} {k : Nat} (h : k < all.length) :
    (St.mk [] [] (all.take k) c).putErr (all.getD k 0) 3 = 0 ∧ (St.mk [] [] (all.take k) c).put (all.getD k 0) 3 = ⟨[], [], all.take (k + 1), c⟩ ∧
    (St.mk [] [] (all.take (k + 1)) c).putErr (all.getD k 0) 1 = 8 ∧ (St.mk [] [] (all.take (k + 1)) c).put (all.getD k 0) 1 = ⟨[], [], all.take (k + 1), c⟩ := by
  have e : all.getD k 0 = all[k] := by rw [List.getD_eq_getElem?_getD, List.getElem?_eq_getElem h]; rfl
  rw [e]
  have hp := pos _ (List.getElem_mem h)
  have nb3 : ¬ bad all[k] 3 := by unfold bad; omega
  have nb1 : ¬ bad all[k] 1 := by unfold bad; omega
  have hts : all.take (k + 1) = all.take k ++ [all[k]] := List.take_succ_eq_append_getElem h
  have nt : (all.take (k + 1)).Nodup := List.Sublist.nodup (List.take_sublist _ _) nd
  have ni : ¬ all[k] ∈ (St.mk [] [] (all.take k) c).ids := by
    rw [hts] at nt
    simp only [St.ids, List.nil_append]
    intro m
    exact (List.nodup_append.1 nt).2.2 _ m _ (by simp) rfl
  have yi : all[k] ∈ (St.mk [] [] (all.take (k + 1)) c).ids := by show all[k] ∈ [] ++ [] ++ all.take (k + 1); rw [hts]; exact List.mem_append_right _ (List.mem_append_right _ (by simp))
  refine ⟨?_, ?_, ?_, ?_⟩
  · unfold St.putErr; rw [if_neg nb3, if_neg ni]
  · unfold St.put; rw [if_neg nb3, if_neg ni, hts]; simp [St.set, St.line]
  · unfold St.putErr; rw [if_neg nb1, if_pos yi]
  · unfold St.put; rw [if_neg nb1, if_pos yi]

/-- The lines before a priority, one behind the other. -/
def upto (s : St) (p : Nat) : List Int := if p = 1 then [] else if p = 2 then s.h else if p = 3 then s.h ++ s.n else s.ids
theorem upto_succ (s : St) {p : Nat} (h1 : 1 ≤ p) (h3 : p ≤ 3) : upto s (p + 1) = upto s p ++ s.line p := by
  have : p = 1 ∨ p = 2 ∨ p = 3 := by omega
  rcases this with rfl | rfl | rfl <;> simp [upto, St.line, St.ids]
theorem upto_len (s : St) (p : Nat) : (upto s p).length ≤ s.size := by
  unfold upto St.size
  split
  · simp
  · split
    · omega
    · split
      · simp
      · simp [St.ids]; omega
end Go.Proofs.Ytpfmpfmbmipglaa
