/-
  slices.Sorted(maps.Keys(m)), the pointer to the map wherever it stands (the walk is the shelf's own, at another place).

  slices.Sorted(maps.Keys(m)): what is known of it.
-/
import Derived.Test.YtchmfcjfdhokoaaGreatDoorEvPrims
import Derived.Shelf.SlIter.Collect
import Derived.RangeFuncStops
namespace Go.Proofs.YtchmfcjfdhokoaaGreatDoor
namespace Ev
open Go.RowKit Go.Maps Go.Sort Go.Shelf Go.Lib
set_option maxRecDepth 100000 in
set_option maxHeartbeats 4000000 in
theorem keysAt_in {P : Program} {ρ : Ren} (L : SlLaysZ.n10 P ρ) {H : Type} (F : Fence) (n : Nat) (h10 : F.fn (ρ.f 10)) (hro : F.round = none) (hn : 1 ≤ n) (l Bm off b nn : Nat) (D0 : DataW H) {R : Value → Option (DataW H × List MemPlace)} (J Jx : List (List UInt8) → World → Prop)
    (hY : ∀ pre x W, J pre W → pre.length < Maps.size D0 → YieldAt F (n - 1) P l #[encStr x] W fun e W' =>
      (e = .returned (.bool true) ∧ J (pre ++ [x]) W' ∧ KeepsWalks W W') ∨ (e = .returned (.bool false) ∧ Jx (pre ++ [x]) W'))
    (W : World) (hJ : AbidesFrom W.heap.size J) (hm : W.cell? ⟨Bm, off, none⟩ = some (.map (some b))) (hown : W.ownsMap P (ρ.t 26) R b nn D0) (h0 : J [] W) :
    CallsIn F n P (ρ.f 10) #[.func (.yield l) #[] #[], .pointer (some ⟨Bm, off, none⟩)] W fun e W' => (∃ v, e = .returned v) ∧
      ((∃ ss : List (List UInt8), (ss.Perm (strKeys D0) ∧ ∀ x, x ∈ ss ↔ has D0 (.string x) = true) ∧ J ss W') ∨ (∃ pre : List (List UInt8), (pre.Nodup ∧ ∀ x ∈ pre, has D0 (.string x) = true) ∧ Jx pre W')) := by
  have mixed := L.mixed; have t0 := L.t0; have a0 := L.a0; have z0 := L.z0; have v0 := L.v0; have t4 := L.t4; have a4 := L.a4; have z4 := L.z4; have v4 := L.v4; have t23 := L.t23; have a23 := L.a23; have z23 := L.z23; have v23 := L.v23; have t26 := L.t26; have a26 := L.a26; have z26 := L.z26; have v26 := L.v26; have t33 := L.t33; have a33 := L.a33; have z33 := L.z33; have v33 := L.v33
  have u0 := run_underlying L.t0; have u4 := run_underlying L.t4; have u23 := run_underlying L.t23; have u26 := run_underlying L.t26; have u33 := run_underlying L.t33
  obtain ⟨_, _, FG⟩ := L.f10
  refine callsIn_of_wp FG rfl h10 ?_ hro
  simp only [SlBodyZ.n10_ntmps ρ, List.size_toArray, List.length_cons, List.length_nil, Nat.reduceAdd, Nat.reduceSub, Array.replicate_succ, Array.replicate_zero, List.push_toArray, List.append_toArray, List.nil_append, List.cons_append]
  gi_wp2_with (first
    | (gi_at_range; refine wpListIn_range_own _ rfl _ (ρ.t 23) rfl (ρ.t 26) (ρ.t 3) (string_keyed L.t26) L.t23 _ b nn _ rfl hown ?_; intro w0 hrg0 hg0 hs0)
    | gi_in)
  go_frame
  gi_loopw [3] (fun _ wr => ∃ (left : Lit → Bool) (cnt : Nat) (ss : List (List UInt8)), wr.ranges P (ρ.t 26) R b W.heap.size nn D0 left cnt ∧ ss.length + cnt ≤ Maps.size D0 ∧ Collected D0 left ss ∧ J ss wr)
    (fun _ wr => wr.rangeLeft b W.heap.size)
  case atStart =>
    exact ⟨_, _, [], hrg0, by simp, Collected.start D0, hJ [] W w0 none h0 hg0 (fun r e => by cases e)⟩
  case round =>
    obtain ⟨left, cnt, ss, hrg, hcs, hC, hJs⟩ := hrel
    gi_wp2_with (first
      | (gi_at_next; refine wpListIn_next_ranges _ rfl _ rfl (ρ.t 26) (string_keyed L.t26) R encStr id (fun key kl hk => by obtain ⟨x, hx, _⟩ := Maps.keyOf_str L.t26 hk; exact ⟨x, hx⟩) (fun v _ _ => ⟨v, rfl⟩) b W.heap.size nn _ _ _ rfl hrg ?_ ?_)
      | gi_in)
    · -- NOTHING IS LEFT
      intro hc0 hl0
      gi_wp2
      go_end0
      exact ⟨⟨_, rfl⟩, .inl ⟨ss, ⟨hC.perm hown (string_keyed L.t26) L.t26 hl0, fun x => by rw [hC.2 x, hl0]; simp⟩, hJs⟩⟩
    · -- AN ENTRY HAS COME: yield(k)
      intro x c kl yd yp w2 cnt2 hkey hlk hv hat hrg2 hlt hg2 hs2 hen
      obtain ⟨x', ex, rfl, _⟩ := Maps.keyOf_str L.t26 hkey
      obtain rfl : x = x' := encStr_inj ex
      have hJ2 : J ss w2 := hJ ss wr w2 (some W.heap.size) hJs hg2 (fun r e => by cases e; exact ⟨Nat.le_refl _, hrg.iter_walk⟩)
      obtain ⟨fn, tmps, assign, body, hy, hR⟩ := hY ss x w2 hJ2 (by omega)
      clear hs2
      gi_wp2
      refine hR.mono ?_
      have hC2 := hC.step hlk hat
      rintro e W3 (⟨rfl, hJ3, hk3⟩ | ⟨rfl, hJx3⟩)
      · gi_wp2
        have hrg3 := hrg2.of_walks hk3
        go_roundw
        case rel => exact ⟨_, cnt2, ss ++ [x], hrg3, by simp; omega, hC2, hJ3⟩
        case measure => rw [hrg3.left_eq, hrg.left_eq]; exact hlt
      · -- THE ROUND HAS SAID 'NO MORE': 'if !yield(k) { return }'
        gi_wp2
        refine bodyPost_ret (results_none rfl _ _ _) rfl ?_
        exact ⟨⟨_, rfl⟩, .inr ⟨ss ++ [x], ⟨hC2.1, fun y hy => ((hC2.2 y).1 hy).1⟩, hJx3⟩⟩
theorem keysAt_gives {P : Program} {ρ : Ren} (L : SlLaysZ.n10 P ρ) {H : Type} (F : Fence) (n : Nat) (h10 : F.fn (ρ.f 10)) (hro : F.round = none) (hn : 1 ≤ n) (Bm off b nn : Nat) (D0 : DataW H) {R : Value → Option (DataW H × List MemPlace)} (w : World) (hBm : Bm < w.heap.size)
    (hm : w.cell? ⟨Bm, off, none⟩ = some (.map (some b))) (hown : w.ownsMap P (ρ.t 26) R b nn D0) :
    SeqGives F n P (ρ.f 10) #[.pointer (some ⟨Bm, off, none⟩)] encStr (fun ss => ss.Perm (strKeys D0) ∧ ∀ x, x ∈ ss ↔ has D0 (.string x) = true) (Maps.size D0) w :=
  SeqStops.gives (Sp := fun pre => pre.Nodup ∧ ∀ x ∈ pre, has D0 (.string x) = true) fun l J Jx W hW hJ _ hY h0 => by
    have hown' : W.ownsMap P (ρ.t 26) R b nn D0 := by
      have hbl := hown.lt
      obtain ⟨es, clock, hb, Ft, hs, hD⟩ := hown
      exact ⟨es, clock, (hW.block b hbl).trans hb, Ft, hs, hD⟩
    exact keysAt_in { L with } F n h10 hro hn l Bm off b nn D0 J Jx hY W hJ ((hW.cell (p := ⟨Bm, off, none⟩) hBm).trans hm) hown' h0
end Ev
end Go.Proofs.YtchmfcjfdhokoaaGreatDoor
namespace Go.Proofs.YtchmfcjfdhokoaaGreatDoor
namespace Ev
open Go.RowKit Go.Maps Go.Sort Go.Shelf Go.Lib

/-- slices.Sort's two contracts at this program, at the fence that asks nothing. -/
theorem sorts198 (m : Nat) : AnyZ.SortsIn Tryz.prog Tryz.sorted198_ren Fence.wide m :=
  ⟨fun blk off cap ss W hH hblk hsz => callsIn_wide.2 (AnyM.slices_Sort_string Tryz.sort206 blk off cap ss W hH hblk hsz),
   fun p cap W => callsIn_wide.2 (AnyM.slices_Sort_string_none Tryz.sort206 p cap W)⟩
theorem sortedAt {H : Type} (Bm off b nn : Nat) (D0 : DataW H) (R : Value → Option (DataW H × List MemPlace)) (w : World) (hBm : Bm < w.heap.size) (hm : w.cell? ⟨Bm, off, none⟩ = some (.map (some b))) (hown : w.ownsMap Tryz.prog 9 R b nn D0) (hmax : Maps.size D0 ≤ maxLen) (hbytes : Maps.size D0 * 16 ≤ 140737488355328) :
    CallsIn Fence.wide 5 Tryz.prog 198 #[.func (.func 207) #[] #[.pointer (some ⟨Bm, off, none⟩)]] w fun e w' => ∃ (v : Value) (ss : List (List UInt8)), e = .returned v ∧ (ss.Perm (strKeys D0) ∧ ∀ x, x ∈ ss ↔ has D0 (.string x) = true) ∧
      w'.ownsRow w.heap.size 9 1 v ss.length ((ss.mergeSort (fun x y => decide (x ≤ y))).map encStr) ∧ (v = .slice none 0 0 ↔ ss = []) ∧ Below w.heap.size w w' := by
  have hseq := keysAt_gives (ρ := Tryz.keys199_ren) { Tryz.keys199 with } Fence.wide 2 trivial rfl (by omega) Bm off b nn D0 w hBm hm hown
  exact AnyZ.sorted_in Tryz.sorted198 Fence.wide 5 trivial trivial trivial trivial rfl (by omega) (sorts198 _) (enters_of Tryz.func206 (by kernel_rfl) rfl) 207 #[.pointer (some ⟨Bm, off, none⟩)] trivial (enters_of Tryz.func207 (by kernel_rfl) rfl) _ _ hmax hbytes _ hseq

theorem strs_inv {g : G} : ∀ {l : List (List UInt8)} {us : List Value}, VRs g (l.map strV) us → us = l.map encStr
  | [], _, .nil => rfl
  | a :: l, _, .cons h t => by
    obtain ⟨s, rfl, k1, k2⟩ := VR.str_inv h
    have hs := natOf_inj k1 k2
    rw [strs_inv t]
    show _ = encStr a :: _
    congr 1
    unfold encStr
    congr 1
    cases s with
    | mk d => cases hs; rfl
/-- The keys' rows: in the map's order, and sorted. -/
def SortRow (p : List V × D) : Prop := ∃ l0 so : List (List UInt8), p.1 = l0.map strV ∧ l0.Nodup ∧ l0.length ≤ 1000 ∧ (∀ l ∈ l0, l.length ≤ 1000) ∧ l0.Perm so ∧ so.Pairwise (fun a b => leB a b = true) ∧
  p.2 = (if l0 = [] then .v .nils else .sl l0.length 1 none (so.map fun l => .v (strV l)))
theorem keysRead {_g : G} {w : World} {m : Array MapEntry} {clock b : Nat} {l0 : List (List UInt8)} (hw : w.heap[b]? = some (.map m clock)) (hk : m.toList.map (·.key) = l0.map encStr) (hb : Born m.toList clock) (hn : l0.Nodup) (hl : l0.length ≤ 1000) (hl2 : ∀ l ∈ l0, l.length ≤ 1000) :
    ∃ D0 : DataW Unit, w.ownsMap Tryz.prog 9 (fun _ => some (.nil, [])) b m.size D0 ∧ (strKeys D0).Perm l0 ∧ Maps.size D0 = l0.length := by
  have hlen : m.toList.length = l0.length := by have := congrArg List.length hk; simpa using this
  have key : ∀ x ∈ m.toList, ∃ l ∈ l0, x.key = encStr l := fun x hx => by
    have : x.key ∈ m.toList.map (·.key) := List.mem_map.2 ⟨x, hx, rfl⟩
    rw [hk] at this
    obtain ⟨l, h1, h2⟩ := List.mem_map.1 this
    exact ⟨l, h1, h2.symm⟩
  have u9 : Tryz.prog.underlying 9 = some .string := by kernel_rfl
  have rdOf : ∀ x ∈ m.toList, ∀ l, l ∈ l0 → x.key = encStr l → WideElems.rd Tryz.prog 9 (fun _ => some ((.nil : DataW Unit), [])) x = some (.string l, .nil) := fun x _ l h1 h2 => by
    unfold WideElems.rd
    rw [h2]
    have : keyOf Tryz.prog 9 (encStr l) = some (.string l) := by
      unfold encStr
      rw [WideMaps.keyOf_string_mk u9 (by have := hl2 l h1; unfold maxLen; simp [ByteArray.size]; omega)]
    rw [this]
    rfl
  have bornAt := hb.2
  have hsz : m.size ≤ Go.maxLen := by
    have : m.size = l0.length := by rw [← Array.length_toList]; exact hlen
    unfold Go.maxLen
    omega
  refine ⟨_, ⟨m, clock, hw, ⟨hsz, ⟨fun x hx => ?_, ?_, ?_⟩, fun x hx => ?_⟩, Nat.le_refl _, rfl⟩, ?_, ?_⟩
  · obtain ⟨i, hi⟩ := List.mem_iff_getElem?.1 hx
    rw [bornAt i x hi, hb.1]
    exact (List.getElem?_eq_some_iff.1 hi).1
  · have : m.toList.map (·.born) = List.range m.toList.length := by
      refine List.ext_getElem? fun i => ?_
      rw [List.getElem?_map]
      cases hi : m.toList[i]? with
      | none =>
        have := List.getElem?_eq_none_iff.1 hi
        rw [List.getElem?_eq_none (by simpa using this)]
        rfl
      | some x =>
        have hlt := (List.getElem?_eq_some_iff.1 hi).1
        rw [List.getElem?_range hlt]
        simp [bornAt i x hi]
    rw [this]
    exact List.nodup_range
  · rw [hk]
    exact List.pairwise_map.2 (hn.imp fun hne e => hne (encStr_inj e))
  · obtain ⟨l, h1, h2⟩ := key x hx
    exact ⟨_, rdOf x hx l h1 h2⟩
  · show (List.map (fun p : Lit × DataW Unit => Go.strOf p.1) _).Perm l0
    refine ((WideShapes.sorted_perm _).map _).trans (List.Perm.of_eq ?_)
    rw [List.map_map]
    have : ∀ x ∈ m.toList, encStr (((fun p : Lit × DataW Unit => Go.strOf p.1) ∘ WideElems.rg Tryz.prog 9 (fun _ => some (.nil, []))) x) = x.key := fun x hx => by
      obtain ⟨l, h1, h2⟩ := key x hx
      have hg : WideElems.rg Tryz.prog 9 (fun _ => some ((.nil : DataW Unit), [])) x = (.string l, .nil) := by
        unfold WideElems.rg
        rw [rdOf x hx l h1 h2]
        rfl
      rw [Function.comp_apply, hg, h2]
      rfl
    have h2 : (m.toList.map ((fun p : Lit × DataW Unit => Go.strOf p.1) ∘ WideElems.rg Tryz.prog 9 (fun _ => some (.nil, [])))).map encStr = l0.map encStr := by
      rw [← hk, List.map_map]
      exact List.map_congr_left this
    exact (List.map_inj_right (fun _ _ e => encStr_inj e)).1 h2
  · show (List.foldr DataW.insert [] _).length = _
    rw [(WideShapes.sorted_perm _).length_eq, List.length_map, hlen]
noncomputable section
def soKey (h : H) (vs : List V) : Option (List V) :=
  match vs with
  | [.func (.func 207) [] [.ptr a off]] => ob (h.rd a off 1) fun l => match l with
    | [.map id] => oif (h.ord id) (ob (h.entries id) fun es => some (es.map (·.1)))
    | _ => none
  | _ => none
def soRows : List (List V × D) := [([.str 1 77, .str 1 65], .sl 2 1 none [.v (.str 1 65), .v (.str 1 77)]),
  ([.str 1 83, .str 3 7889229, .str 6 110429673252176, .str 1 76], .sl 4 1 none [.v (.str 1 76), .v (.str 3 7889229), .v (.str 6 110429673252176), .v (.str 1 83)]),
  ([.str 1 83, .str 3 7889229, .str 6 110429673252176, .str 1 76, .str 2 25933], .sl 5 1 none [.v (.str 1 76), .v (.str 3 7889229), .v (.str 2 25933), .v (.str 6 110429673252176), .v (.str 1 83)])]
def sortedP (vs : List V) (h : H) : Option (V × H) := ob (soKey h vs) fun ks => ob (findM soRows ks) fun d => Prod.rec (motive := fun _ => Option (V × H)) (fun v h' => oif (Nat.ble h'.next keys) (some (v, h'))) (d.bld h)
end
set_option maxRecDepth 100000 in
theorem soRows_ok : ∀ p ∈ soRows, SortRow p := by
  intro p hp
  simp only [soRows, List.mem_cons, List.not_mem_nil, or_false] at hp
  rcases hp with rfl | rfl | rfl
  · exact ⟨[[77], [65]], [[65], [77]], by kernel_rfl, by decide, by decide, by decide, by decide, by decide, by kernel_rfl⟩
  · exact ⟨[[83], [77, 97, 120], [80, 101, 114, 105, 111, 100], [76]], [[76], [77, 97, 120], [80, 101, 114, 105, 111, 100], [83]], by kernel_rfl, by decide, by decide, by decide, by decide, by decide, by kernel_rfl⟩
  · exact ⟨[[83], [77, 97, 120], [80, 101, 114, 105, 111, 100], [76], [77, 101]], [[76], [77, 97, 120], [77, 101], [80, 101, 114, 105, 111, 100], [83]], by kernel_rfl, by decide, by decide, by decide, by decide, by decide, by kernel_rfl⟩
theorem vs_rd {w : World} {n : Nat → Prop} : ∀ l : List (List UInt8), RdDs w n (l.map encStr) (l.map fun l => .v (strV l))
  | [] => .nil
  | a :: l => .cons (.v rfl (by have := VR.str (g := nog) ⟨a.toArray⟩; simpa [strV, encStr, ByteArray.size] using this)) (vs_rd l)
theorem sorted_ok : PrimOf 198 sortedP := by
  intro vs h v h' e g w us r hG hv
  obtain ⟨ks, e1, e2⟩ := ob_some.1 e
  obtain ⟨d, e3, e4⟩ := ob_some.1 e2
  obtain ⟨l0, so, rk, hn, hl, hl2, hso1, hso2, rd'⟩ := soRows_ok _ (findM_some e3)
  have rk : ks = l0.map strV := rk
  have hd' : d = if l0 = [] then .v .nils else .sl l0.length 1 none (so.map fun l => .v (strV l)) := rd'
  have e4 : oif (Nat.ble (d.bld h).2.next keys) (some ((d.bld h).1, (d.bld h).2)) = some (v, h') := e4
  obtain ⟨e5, e6⟩ := oif_some.1 e4
  cases e6
  unfold soKey at e1
  split at e1
  · rename_i a off
    obtain ⟨l, q1, q2⟩ := ob_some.1 e1
    split at q2
    · rename_i id
      obtain ⟨q3, q4⟩ := oif_some.1 q2
      obtain ⟨es, q5, q6⟩ := ob_some.1 q4
      cases q6
      cases hv with
      | cons h1 t1 => cases t1 with
        | nil =>
          cases h1 with
          | func ha hb => cases ha with
            | nil => cases hb with
              | cons h2 t2 => cases t2 with
                | nil =>
                  cases h2
                  rename_i b o z hg
                  obtain ⟨xs, m1, m2, m3, _⟩ := rd_ok r hg q1
                  cases m1 with
                  | cons p1 p2 =>
                    cases p1
                    rename_i mb o2 z2 hg2
                    have hcell := m3 0 _ rfl
                    rw [Nat.add_zero] at hcell
                    obtain ⟨oo, k1, k2⟩ := H.entries_some q5
                    rw [k2] at q3
                    subst q3
                    obtain ⟨b', o3, z3, m, c, j1, j2, j3, j4⟩ := r.blk id _ _ hg2 k1
                    rw [hg2] at j1
                    cases j1
                    have hk := j3.1
                    rw [rk] at hk
                    obtain ⟨D0, n1, n2, n3⟩ := keysRead (_g := g) j2 (strs_inv hk) (j4 rfl) hn hl hl2
                    have main := sortedAt b (o + off) mb m.size D0 _ w (r.lt _ _ _ _ hg) hcell n1 (by rw [n3]; unfold maxLen; omega) (by rw [n3]; omega)
                    refine Hands.fn ⟨_, Tryz.func198, beq_eq_false_iff_ne.1 (by decide), rfl, callsIn_wide.2 ((callsIn_wide.1 main).mono ?_)⟩ r (by simpa using e5)
                    rintro e w' ⟨v, ss, rfl, ⟨hp, _⟩, hrow, hnil, hB⟩
                    have hp := hp.trans n2
                    have hsl := hp.length_eq
                    have hms : ss.mergeSort leB = so := (mergeSort_of_perm (hp.trans hso1)).trans (List.mergeSort_of_pairwise hso2)
                    refine ⟨v, rfl, ?_, hB.size, fun b hb => hB.block b hb, hB.os, hB.tape, hB.output⟩
                    obtain ⟨r1, r2⟩ := hrow
                    rcases r2 with ⟨rfl, r3⟩ | ⟨gb, cap, cur, rfl, c1, c2, c3, c4, c5, c6⟩
                    · have hss : ss = [] := List.eq_nil_of_length_eq_zero r3
                      have : l0 = [] := List.eq_nil_of_length_eq_zero (by rw [← hsl, hss]; rfl)
                      rw [hd', if_pos this]
                      exact .v rfl .nils
                    · have hne : l0 ≠ [] := fun e0 => by
                        have : ss = [] := List.eq_nil_of_length_eq_zero (by rw [hsl, e0]; rfl)
                        have := hnil.2 this
                        cases this
                      rw [hd', if_neg hne]
                      have c6 : cur.toList.take (ss.length * 1) = so.map encStr := by rw [c6]; exact congrArg (List.map encStr) hms
                      rw [← hsl]
                      refine .sl (o := 0) (xs := so.map encStr) c1 c2 (fun j u hj => ?_) ?_ ?_ ?_ (.inr ⟨rfl, by omega, c3⟩) (fun d hd => ?_) (vs_rd _)
                      · rw [← c6, List.getElem?_take] at hj
                        split at hj
                        · rw [Nat.zero_add, ← Array.getElem?_toList]; exact hj
                        · cases hj
                      · rw [List.length_map, ← hso1.length_eq, hsl, Nat.mul_one]
                      · omega
                      · have : (1000 : Nat) ≤ keys := by decide
                        omega
                      · obtain ⟨l, _, rfl⟩ := List.mem_map.1 hd; rfl
    · cases q2
  · cases e1
end Ev
end Go.Proofs.YtchmfcjfdhokoaaGreatDoor
