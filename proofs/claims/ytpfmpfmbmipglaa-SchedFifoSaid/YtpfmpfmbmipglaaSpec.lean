/-
  The run queue as the document tells it: three lists and a count; no program in sight.
-/
namespace Go.Proofs.Ytpfmpfmbmipglaa

structure St where
  h : List Int
  n : List Int
  l : List Int
  c : Int

def St.empty : St := ⟨[], [], [], 0⟩
def St.ids (s : St) : List Int := s.h ++ s.n ++ s.l
def St.size (s : St) : Nat := s.h.length + s.n.length + s.l.length
def St.line (s : St) (p : Int) : List Int := if p = 1 then s.h else if p = 2 then s.n else if p = 3 then s.l else []
def St.set (s : St) (p : Int) (x : List Int) : St := if p = 1 then { s with h := x } else if p = 2 then { s with n := x } else if p = 3 then { s with l := x } else s
def bad (id p : Int) : Prop := id < 0 ∨ p < 1 ∨ 3 < p
instance (id p : Int) : Decidable (bad id p) := by unfold bad; infer_instance
def St.putErr (s : St) (id p : Int) : Int := if bad id p then 2 else if id ∈ s.ids then 8 else 0
def St.put (s : St) (id p : Int) : St := if bad id p then s else if id ∈ s.ids then s else s.set p (s.line p ++ [id])
def St.next (s : St) : Int := if s.h ≠ [] then 1 else if s.n ≠ [] ∧ s.l ≠ [] ∧ s.c < 7 then 2 else if s.l ≠ [] then 3 else 2
def St.count (s : St) : Int := if s.h ≠ [] then s.c else if s.n ≠ [] ∧ s.l ≠ [] ∧ s.c < 7 then s.c + 1 else 0
def St.pickId (s : St) : Int := (s.line s.next).headD 0
def St.pick (s : St) : St := if s.size = 0 then s else { s.set s.next (s.line s.next).tail with c := s.count }
def St.prio (s : St) (id : Int) : Int := if id ∈ s.h then 1 else if id ∈ s.n then 2 else if id ∈ s.l then 3 else 0
def St.drop (s : St) (id : Int) : St := { s with h := s.h.erase id, n := s.n.erase id, l := s.l.erase id }

/-- What every queue keeps: each process at most once; numbers of processes; the count. -/
structure St.Ok (s : St) : Prop where
  nd : s.ids.Nodup
  pos : ∀ i ∈ s.ids, 0 ≤ i ∧ i ≤ 9223372036854775807
  cnt : 0 ≤ s.c ∧ s.c ≤ 7

theorem St.size_ids (s : St) : s.ids.length = s.size := by simp [St.ids, St.size]; omega

theorem St.line_next_ne {s : St} (h : s.size ≠ 0) : s.line s.next ≠ [] := by
  unfold St.next St.line
  by_cases a : s.h ≠ []
  · simp [a]
  · by_cases b : s.n ≠ [] ∧ s.l ≠ [] ∧ s.c < 7
    · simp only [if_neg a, if_pos b]; simpa using b.1
    · by_cases d : s.l ≠ []
      · simp only [if_neg a, if_neg b, if_pos d]; simpa using d
      · simp only [if_neg a, if_neg b, if_neg d]
        simp only [ne_eq, Decidable.not_not] at a d
        simp only [St.size, a, d, List.length_nil] at h
        intro e
        simp at e
        simp [e] at h
theorem St.next_cases (s : St) : s.next = 1 ∨ s.next = 2 ∨ s.next = 3 := by
  unfold St.next; split
  · simp
  · split
    · simp
    · split <;> simp

/-- An act: its kind, the process and the priority. -/
structure Act3 where
  kind : Int
  id : Int
  pri : Int

def St.act (s : St) (a : Act3) : St := if a.kind = 0 then s.put a.id a.pri else if a.kind = 1 then s.pick else if a.kind = 2 then s.drop a.id else s
def run (l : List Act3) : St := l.foldl St.act St.empty

theorem run_snoc (l : List Act3) (a : Act3) : run (l ++ [a]) = (run l).act a := by simp [run]

theorem set_size {s : St} {p : Int} {x : List Int} (h : x.length ≤ (s.line p).length + 1) : (s.set p x).size ≤ s.size + 1 := by
  unfold St.set St.size
  unfold St.line at h
  split
  · rename_i e; simp [e] at h ⊢; omega
  · split
    · rename_i e1 e; simp [e] at h ⊢; omega
    · split
      · rename_i e1 e2 e; simp [e] at h ⊢; omega
      · omega
theorem put_sz (s : St) (id p : Int) : (s.put id p).size ≤ s.size + 1 := by
  unfold St.put
  split
  · omega
  · split
    · omega
    · exact set_size (by simp)
theorem pick_sz (s : St) : s.pick.size ≤ s.size := by
  unfold St.pick
  split
  · omega
  · rename_i h
    have hne := St.line_next_ne h
    rcases s.next_cases with e | e | e <;> rw [e] at hne ⊢ <;> simp [St.set, St.line, St.size] at hne ⊢ <;> omega
theorem drop_sz (s : St) (id : Int) : (s.drop id).size ≤ s.size := by
  unfold St.drop St.size
  have a := List.length_erase_le (a := id) (l := s.h)
  have b := List.length_erase_le (a := id) (l := s.n)
  have c := List.length_erase_le (a := id) (l := s.l)
  simp only; omega
theorem act_sz (s : St) (a : Act3) : (s.act a).size ≤ s.size + 1 := by
  unfold St.act
  split
  · exact put_sz s _ _
  · split
    · have := pick_sz s; omega
    · split
      · have := drop_sz s a.id; omega
      · omega
theorem run_sz (l : List Act3) : (run l).size ≤ l.length := by
  have : ∀ (l : List Act3) (s : St), (l.foldl St.act s).size ≤ s.size + l.length := by
    intro l
    induction l with
    | nil => intro s; simp
    | cons a l ih => intro s; have := ih (s.act a); have := act_sz s a; simp; omega
  have := this l St.empty
  rw [show St.empty.size = 0 from rfl, Nat.zero_add] at this
  exact this
end Go.Proofs.Ytpfmpfmbmipglaa
