/-
  A map from int64 to a struct of an int and a pointer: what lookup, update, delete and len do to its block.
-/
import Derived.Test.YtpfmpfmbmipglaaRows
import Derived.WalkKit
import Derived.WalkSpells
import Derived.WalkLawsBesides
namespace Go.Proofs.Ytpfmpfmbmipglaa
open Go.RowKit

/-- An entry of the map 'where'. -/
structure Ent where
  id : Int
  p : Nat
  b : Nat
  born : Nat

def Ent.val (e : Ent) : Value := .agg #[.int .i64 e.p, .pointer (some ⟨e.b, 0, none⟩)]
def Ent.entry (e : Ent) : MapEntry := ⟨.int .i64 e.id, e.val, e.born⟩
def ents (E : List Ent) : Array MapEntry := (E.map Ent.entry).toArray

def findE (k : Int) : List Ent → Nat → Option (Nat × Value)
  | [], _ => none
  | e :: E, i => if k = e.id then some (i, e.val) else findE k E (i + 1)

theorem findNow_ents (k : Int) : ∀ (E : List Ent) (i : Nat), Instr.findNow (.int .i64) (.int .i64 k) (E.map Ent.entry) i = some (findE k E i)
  | [], _ => rfl
  | e :: E, i => by
    have ih := findNow_ents k E (i + 1)
    simp only [List.map_cons, Instr.findNow, Ent.entry, Instr.sameNow, findE, if_true] at ih ⊢
    by_cases h : k = e.id
    · simp [h]
    · simp only [h, beq_eq_false_iff_ne.2 h, if_false]; exact ih

theorem findE_none {k : Int} : ∀ {E : List Ent} {i : Nat}, (∀ e ∈ E, e.id ≠ k) → findE k E i = none
  | [], _, _ => rfl
  | e :: E, i, h => by
    simp only [findE]
    rw [if_neg (fun x => h e (by simp) x.symm)]
    exact findE_none (fun x hx => h x (by simp [hx]))

theorem findE_some {k : Int} : ∀ {E : List Ent} {i : Nat} {e : Ent}, (E.map Ent.id).Nodup → e ∈ E → e.id = k → ∃ j, E[j]? = some e ∧ findE k E i = some (i + j, e.val)
  | [], _, _, _, h, _ => by cases h
  | x :: E, i, e, nd, h, hk => by
    simp only [List.map_cons, List.nodup_cons] at nd
    rcases List.mem_cons.1 h with rfl | h
    · exact ⟨0, rfl, by simp [findE, hk]⟩
    · obtain ⟨j, hj, hf⟩ := findE_some (i := i + 1) nd.2 h hk
      refine ⟨j + 1, by simpa using hj, ?_⟩
      simp only [findE]
      rw [if_neg ?_, hf]
      · congr 2; omega
      · intro c
        exact nd.1 (List.mem_map.2 ⟨e, h, by rw [hk, c]⟩)

theorem map_erase (E : List Ent) (j : Nat) : (E.map Ent.entry).eraseIdx j = (E.eraseIdx j).map Ent.entry := by
  induction E generalizing j with
  | nil => rfl
  | cons e E ih => cases j <;> simp [ih]

section
variable {P : Program} (w : World)

theorem run_checkKey_int {t : TypeId} (h : P.underlying t = some (.int .i64)) (em : Bool) (k : Int) :
    (Instr.checkKey em 10000 t (.int .i64 k)).run P w = .ok () w := by
  rw [show (10000 : Nat) = 9999 + 1 from rfl, Instr.checkKey]
  simp [run_underlying h]

theorem run_findKey_int {t : TypeId} (h : P.underlying t = some (.int .i64)) (k : Int) (E : List Ent) :
    (Instr.findKey t (.int .i64 k) (E.map Ent.entry)).run P w = .ok (findE k E 0) w := by
  simp [Instr.findKey, run_underlying h, findNow_ents]

theorem run_getObj_m {r : Nat} {es : Array MapEntry} {c : Nat} (h : w.heap[r]? = some (.map es c)) : (getObj r).run P w = .ok (.map es c) w := by
  simp [getObj, Sem.run, h]

theorem run_setObj_m {r : Nat} {es : Array MapEntry} {c : Nat} (h : w.heap[r]? = some (.map es c)) (o : Obj) : (setObj r o).run P w = .ok () { w with heap := w.heap.setIfInBounds r o } := by
  simp [setObj, Sem.run, h]

variable {m k el : TypeId} (hm : P.underlying m = some (.map k el)) (hk : P.underlying k = some (.int .i64))
include hm hk

theorem run_lookup_ents {zero : Value} (hz : (zeroValue el).run P w = .ok zero w) {r : Nat} {E : List Ent} {c : Nat} (h : w.heap[r]? = some (.map (ents E) c)) (x : Int) :
    (Instr.lookup m (.map (some r)) (.int .i64 x) true).run P w = .ok (.tuple #[((findE x E 0).map (·.2)).getD zero, .bool (findE x E 0).isSome]) w := by
  cases hf : findE x E 0 with
  | none => simp [Instr.lookup, run_underlying hm, run_getObj_m w h, run_checkKey_int w hk, ents, run_findKey_int w hk, hf, hz, Result.andThen]
  | some y => simp [Instr.lookup, run_underlying hm, run_getObj_m w h, run_checkKey_int w hk, ents, run_findKey_int w hk, hf, Result.andThen]

theorem run_update_ents {r : Nat} {E : List Ent} {c : Nat} (h : w.heap[r]? = some (.map (ents E) c)) (e : Ent) (hn : findE e.id E 0 = none) (hb : e.born = c) :
    (Instr.mapUpdate m (.map (some r)) (.int .i64 e.id) e.val).run P w = .ok () { w with heap := w.heap.setIfInBounds r (.map (ents (E ++ [e])) (c + 1)) } := by
  subst hb
  simp [Instr.mapUpdate, run_underlying hm, run_getObj_m w h, run_checkKey_int w hk, ents, run_findKey_int w hk, hn, run_setObj_m w h, Result.andThen, Ent.entry]

theorem run_delete_ents {r : Nat} {E : List Ent} {c : Nat} (h : w.heap[r]? = some (.map (ents E) c)) (x : Int) (ty : TypeId) {j : Nat} {v : Value} (hf : findE x E 0 = some (j, v)) :
    (Builtin.delete_ #[m, k] ty #[.map (some r), .int .i64 x]).run P w = .ok (.tuple #[]) { w with heap := w.heap.setIfInBounds r (.map (ents (E.eraseIdx j)) c) } := by
  have he : (ents E).eraseIdxIfInBounds j = ents (E.eraseIdx j) := by
    apply Array.ext'
    simp [ents, map_erase]
  simp [Builtin.delete_, run_underlying hm, run_getObj_m w h, run_checkKey_int w hk, run_setObj_m w h, Result.andThen, he, show (ents E).toList = E.map Ent.entry from rfl, run_findKey_int w hk, hf]
end
end Go.Proofs.Ytpfmpfmbmipglaa
