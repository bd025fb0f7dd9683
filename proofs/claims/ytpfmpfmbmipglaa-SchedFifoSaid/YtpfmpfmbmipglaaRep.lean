/-
  What a queue's blocks hold: three chains of links, the map from processes to their links, and the count; and how the steps of push, remove, update and delete keep that.
-/
import Derived.Test.YtpfmpfmbmipglaaLine
namespace Go.Proofs.Ytpfmpfmbmipglaa
open Go.RowKit

abbrev Chain := List (Nat × Int)
abbrev Lines := Nat → Chain

def upd (N : Lines) (p : Nat) (l : Chain) : Lines := fun i => if i = p then l else N i
theorem upd_same (N : Lines) (p : Nat) (l : Chain) : upd N p l p = l := if_pos rfl
theorem upd_other (N : Lines) {p i : Nat} (l : Chain) (h : i ≠ p) : upd N p l i = N i := if_neg h

def hd (l : Chain) (n : Option Nat) : Option Nat := match l with | [] => n | x :: _ => some x.1
def lst (l : Chain) (p : Option Nat) : Option Nat := match l with | [] => p | x :: r => lst r (some x.1)

theorem lst_append (xs ys : Chain) (p : Option Nat) : lst (xs ++ ys) p = lst ys (lst xs p) := by
  induction xs generalizing p with
  | nil => rfl
  | cons x xs ih => exact ih _
theorem hd_append (xs ys : Chain) (n : Option Nat) : hd (xs ++ ys) n = hd xs (hd ys n) := by cases xs <;> rfl

/-- The links of a chain lie in their blocks: each knows the one before it and the one behind it. -/
def Seg (h : Array Obj) : Option Nat → Chain → Option Nat → Prop
  | _, [], _ => True
  | p, x :: r, n => h[x.1]? = some (link x.2 p (hd r n)) ∧ Seg h (some x.1) r n

theorem seg_append (h : Array Obj) : ∀ (p : Option Nat) (xs ys : Chain) (n : Option Nat), Seg h p (xs ++ ys) n ↔ Seg h p xs (hd ys n) ∧ Seg h (lst xs p) ys n
  | _, [], _, _ => by simp [Seg, lst]
  | p, x :: xs, ys, n => by
    simp only [List.cons_append, Seg, seg_append h (some x.1) xs ys n, hd_append, lst, and_assoc]

theorem seg_frame {h h' : Array Obj} : ∀ {p : Option Nat} {l : Chain} {n : Option Nat}, Seg h p l n → (∀ x ∈ l, h'[x.1]? = h[x.1]?) → Seg h' p l n
  | _, [], _, _, _ => trivial
  | _, x :: r, _, s, k => ⟨(k x (by simp)).trans s.1, seg_frame s.2 (fun y hy => k y (by simp [hy]))⟩

theorem seg_mem {h : Array Obj} : ∀ {p : Option Nat} {l : Chain} {n : Option Nat}, Seg h p l n → ∀ x ∈ l, ∃ a b, h[x.1]? = some (link x.2 a b)
  | _, [], _, _, _, hx => by cases hx
  | _, y :: r, _, s, x, hx => by
    rcases List.mem_cons.1 hx with rfl | hx
    · exact ⟨_, _, s.1⟩
    · exact seg_mem s.2 x hx

theorem link_inj {a b : Int} {p q n m : Option Nat} (h : link a p n = link b q m) : a = b := by
  simp only [link, Obj.cells.injEq, Array.mk.injEq, List.cons.injEq, Value.int.injEq] at h
  exact h.1.1.2

/-- Two links of which the processes differ lie in different blocks. -/
theorem blocks_ne {h : Array Obj} {x y : Nat × Int} {a b c d : Option Nat} (hx : h[x.1]? = some (link x.2 a b)) (hy : h[y.1]? = some (link y.2 c d)) (hne : x.2 ≠ y.2) : x.1 ≠ y.1 := by
  intro e
  rw [e, hy] at hx
  exact hne (link_inj (Option.some.inj hx)).symm

theorem put_link2 {h : Array Obj} {b : Nat} {id : Int} {p n : Option Nat} (hb : h[b]? = some (link id p n)) (m : Option Nat) : (put h b 2 (pt m))[b]? = some (link id p m) := by
  rw [link] at hb; rw [put_same hb]; rfl
theorem put_link1 {h : Array Obj} {b : Nat} {id : Int} {p n : Option Nat} (hb : h[b]? = some (link id p n)) (m : Option Nat) : (put h b 1 (pt m))[b]? = some (link id m n) := by
  rw [link] at hb; rw [put_same hb]; rfl

/-- The last link gets another one behind it. -/
theorem seg_setnext {h : Array Obj} : ∀ {p : Option Nat} {l : Chain} {n : Option Nat} {z : Nat}, Seg h p l n → (l.map (·.2)).Nodup → lst l none = some z → ∀ m, Seg (put h z 2 (pt m)) p l m
  | _, [], _, _, _, _, hz, _ => by cases hz
  | p, [x], n, z, s, _, hz, m => by
    simp only [lst, Option.some.injEq] at hz
    subst hz
    exact ⟨put_link2 s.1 m, trivial⟩
  | p, x :: y :: r, n, z, s, nd, hz, m => by
    have hz' : lst (y :: r) none = some z := hz
    have ih := seg_setnext s.2 (List.nodup_cons.1 nd).2 hz' m
    refine ⟨?_, ih⟩
    have hne : z ≠ x.1 := by
      have : ∃ v ∈ (y :: r), v.1 = z := by
        clear ih s nd hz
        generalize (y :: r) = l at hz'
        induction l with
        | nil => cases hz'
        | cons v l ih =>
          cases l with
          | nil => simp only [lst, Option.some.injEq] at hz'; exact ⟨v, by simp, hz'⟩
          | cons u l => obtain ⟨t, ht, e⟩ := ih hz'; exact ⟨t, by simp [ht], e⟩
      obtain ⟨v, hv, e⟩ := this
      obtain ⟨a, b, hb⟩ := seg_mem s.2 v hv
      rw [← e]
      exact blocks_ne hb s.1 (fun c => (List.nodup_cons.1 nd).1 (List.mem_map.2 ⟨v, hv, c⟩))
    rw [put_other (Ne.symm hne)]
    exact s.1

/-- The first link gets another one before it. -/
theorem seg_setprev {h : Array Obj} {p : Option Nat} {x : Nat × Int} {l : Chain} {n : Option Nat} (s : Seg h p (x :: l) n) (nd : ((x :: l).map (·.2)).Nodup) (m : Option Nat) : Seg (put h x.1 1 (pt m)) m (x :: l) n := by
  refine ⟨put_link1 s.1 m, seg_frame s.2 (fun y hy => put_other ?_)⟩
  obtain ⟨a, b, hb⟩ := seg_mem s.2 y hy
  exact blocks_ne hb s.1 (fun c => (List.nodup_cons.1 nd).1 (List.mem_map.2 ⟨y, hy, c⟩))

/-- The queue's own block. -/
def qcells (N : Lines) (mb : Nat) (c : Int) : Array Value :=
  #[.pointer none, .pointer none, .int .i64 0,
    pt (hd (N 1) none), pt (lst (N 1) none), .int .i64 (N 1).length,
    pt (hd (N 2) none), pt (lst (N 2) none), .int .i64 (N 2).length,
    pt (hd (N 3) none), pt (lst (N 3) none), .int .i64 (N 3).length,
    .map (some mb), .int .i64 c]

/-- The map's entries are the processes of the lines. -/
structure Holds (E : List Ent) (N : Lines) : Prop where
  nd : (E.map Ent.id).Nodup
  has : ∀ e ∈ E, 1 ≤ e.p ∧ e.p ≤ 3 ∧ (e.b, e.id) ∈ N e.p
  all : ∀ p x, 1 ≤ p → p ≤ 3 → x ∈ N p → ∃ e ∈ E, e.id = x.2 ∧ e.p = p ∧ e.b = x.1
  len : E.length = (N 1).length + (N 2).length + (N 3).length

/-- All processes. -/
def idsOf (N : Lines) : List Int := (N 1 ++ N 2 ++ N 3).map (·.2)

structure Rep (h : Array Obj) (qb mb : Nat) (N : Lines) (c : Int) : Prop where
  q : h[qb]? = some (.cells (qcells N mb c) 56 (0, 0))
  m : ∃ E clock, h[mb]? = some (.map (ents E) clock) ∧ Holds E N
  s : ∀ p, 1 ≤ p → p ≤ 3 → Seg h none (N p) none
  ids : (idsOf N).Nodup
  pos : ∀ i ∈ idsOf N, 0 ≤ i ∧ i ≤ 9223372036854775807
  cnt : 0 ≤ c ∧ c ≤ 7

theorem mem_ids {N : Lines} {p : Nat} {x : Nat × Int} (h1 : 1 ≤ p) (h3 : p ≤ 3) (hx : x ∈ N p) : x.2 ∈ idsOf N := by
  have : p = 1 ∨ p = 2 ∨ p = 3 := by omega
  refine List.mem_map.2 ⟨x, ?_, rfl⟩
  rcases this with rfl | rfl | rfl <;> simp [hx]

theorem line_nodup {N : Lines} {p : Nat} (h1 : 1 ≤ p) (h3 : p ≤ 3) (h : (idsOf N).Nodup) : ((N p).map (·.2)).Nodup := by
  have : p = 1 ∨ p = 2 ∨ p = 3 := by omega
  simp only [idsOf, List.map_append] at h
  have h12 := (List.nodup_append.1 h).1
  rcases this with rfl | rfl | rfl
  · exact (List.nodup_append.1 h12).1
  · exact (List.nodup_append.1 h12).2.1
  · exact (List.nodup_append.1 h).2.1

/-- Processes of two lines differ. -/
theorem lines_ne {N : Lines} {p k : Nat} {x y : Nat × Int} (h : (idsOf N).Nodup) (h1 : 1 ≤ p) (h3 : p ≤ 3) (k1 : 1 ≤ k) (k3 : k ≤ 3) (hne : p ≠ k) (hx : x ∈ N p) (hy : y ∈ N k) : x.2 ≠ y.2 := by
  simp only [idsOf, List.map_append] at h
  have a := List.nodup_append.1 h
  have b := List.nodup_append.1 a.1
  have mx : x.2 ∈ (N p).map (·.2) := List.mem_map.2 ⟨x, hx, rfl⟩
  have my : y.2 ∈ (N k).map (·.2) := List.mem_map.2 ⟨y, hy, rfl⟩
  have : (p = 1 ∨ p = 2 ∨ p = 3) ∧ (k = 1 ∨ k = 2 ∨ k = 3) := by omega
  obtain ⟨hp, hk⟩ := this
  rcases hp with rfl | rfl | rfl <;> rcases hk with rfl | rfl | rfl <;> first | exact absurd rfl hne | skip
  · exact b.2.2 _ mx _ my
  · exact a.2.2 _ (List.mem_append_left _ mx) _ my
  · exact Ne.symm (b.2.2 _ my _ mx)
  · exact a.2.2 _ (List.mem_append_right _ mx) _ my
  · exact Ne.symm (a.2.2 _ (List.mem_append_left _ my) _ mx)
  · exact Ne.symm (a.2.2 _ (List.mem_append_right _ my) _ mx)
end Go.Proofs.Ytpfmpfmbmipglaa
