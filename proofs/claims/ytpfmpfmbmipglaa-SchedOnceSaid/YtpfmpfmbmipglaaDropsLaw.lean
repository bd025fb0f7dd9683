/-
  Plain laws of Drop.
-/
import Derived.Test.YtpfmpfmbmipglaaLaws
namespace Go.Proofs.Ytpfmpfmbmipglaa

/-- The others of a line. -/
def others (id : Int) (l : List Int) : List Int := l.filter fun x => x != id

theorem others_snoc (id : Int) (l : List Int) (k : Nat) (h : k < l.length) : others id (l.take (k + 1)) = if l.getD k 0 = id then others id (l.take k) else others id (l.take k) ++ [l.getD k 0] := by
  rw [List.take_succ_eq_append_getElem h, List.getD_eq_getElem?_getD, List.getElem?_eq_getElem h]
  unfold others
  rw [List.filter_append]
  by_cases e : l[k] = id
  · simp [e]
  · simp [e]

theorem erase_others {id : Int} {l : List Int} (h : l.Nodup) : l.erase id = others id l := by
  rw [h.erase_eq_filter]; rfl

theorem line_nd {s : St} (ok : s.Ok) (p : Int) : (s.line p).Nodup := by
  have := ok.nd
  unfold St.ids at this
  have a := List.nodup_append.1 this
  have b := List.nodup_append.1 a.1
  unfold St.line
  split
  · exact b.1
  · split
    · exact b.2.1
    · split
      · exact a.2.1
      · exact List.nodup_nil

theorem drop_line {s : St} (ok : s.Ok) (id p : Int) : (s.drop id).line p = others id (s.line p) := by
  rw [← erase_others (line_nd ok p)]
  unfold St.line St.drop
  split
  · rfl
  · split
    · rfl
    · split
      · rfl
      · rfl

theorem prio_of {s : St} (ok : s.Ok) {id p : Int} (h : id ∈ s.line p) : s.prio id = p := by
  have := ok.nd
  unfold St.ids at this
  have a := List.nodup_append.1 this
  have b := List.nodup_append.1 a.1
  unfold St.line at h
  unfold St.prio
  split at h
  · rename_i e; rw [if_pos h, e]
  · split at h
    · rename_i _ e
      rw [if_neg (fun c => b.2.2 _ c _ h rfl), if_pos h, e]
    · split at h
      · rename_i _ _ e
        rw [if_neg (fun c => a.2.2 _ (List.mem_append_left _ c) _ h rfl), if_neg (fun c => a.2.2 _ (List.mem_append_right _ c) _ h rfl), if_pos h, e]
      · cases h

theorem dropped {s : St} (ok : s.Ok) (id : Int) : id ∉ (s.drop id).ids := by
  have h1 := erase_others (id := id) (line_nd ok 1)
  have h2 := erase_others (id := id) (line_nd ok 2)
  have h3 := erase_others (id := id) (line_nd ok 3)
  simp only [St.line, if_true, show ¬ (2 : Int) = 1 by omega, show ¬ (3 : Int) = 1 by omega, show ¬ (3 : Int) = 2 by omega, if_false] at h1 h2 h3
  unfold St.ids St.drop
  simp only [h1, h2, h3, others]
  simp

theorem drop_twice {s : St} (ok : s.Ok) (id : Int) : (s.drop id).drop id = s.drop id := by
  have h := dropped ok id
  unfold St.ids at h
  simp only [List.mem_append, not_or] at h
  have e : ∀ t : St, id ∉ t.h → id ∉ t.n → id ∉ t.l → t.drop id = t := fun t a b c => by
    unfold St.drop; rw [List.erase_of_not_mem a, List.erase_of_not_mem b, List.erase_of_not_mem c]
  exact e _ h.1.1 h.1.2 h.2
theorem line_len (s : St) (p : Int) : (s.line p).length ≤ s.size := by
  unfold St.line St.size
  split
  · omega
  · split
    · omega
    · split
      · omega
      · simp
theorem others_len (id : Int) (l : List Int) : (others id l).length ≤ l.length := List.length_filter_le _ _
end Go.Proofs.Ytpfmpfmbmipglaa
