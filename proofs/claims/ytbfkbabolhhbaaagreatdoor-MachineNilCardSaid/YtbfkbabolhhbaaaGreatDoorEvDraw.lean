/-
  What a region that draws its order has been checked for.
-/
import Derived.Test.YtbfkbabolhhbaaaGreatDoorEvReg
namespace Go.Proofs.YtbfkbabolhhbaaaGreatDoor
namespace Ev
variable [Opq]
set_option linter.unusedSectionVars false
section
variable {P : Program} {T : Ty} {m N : Nat}

theorem bit_eq (a t : Nat) : bit a t = a.testBit t := by
  rw [Nat.testBit_eq_decide_div_mod_eq]
  unfold bit
  rw [nmod, nshr, Bool.eq_iff_iff]
  simp
theorem bit_add (a i t : Nat) : bit (addBit a i) t = (bit a t || decide (t = i)) := by
  rw [bit_eq, bit_eq]
  show (a ||| (1 <<< i)).testBit t = _
  rw [Nat.testBit_or, Nat.one_shiftLeft, Nat.testBit_two_pow]
  congr 1
  exact decide_eq_decide.2 ⟨fun h => h.symm, fun h => h.symm⟩
theorem bit_lor (a b t : Nat) : bit (Nat.lor a b) t = (bit a t || bit b t) := by
  rw [bit_eq, bit_eq, bit_eq]
  exact Nat.testBit_or a b t
theorem bit_zero (t : Nat) : bit 0 t = false := by rw [bit_eq]; exact Nat.zero_testBit t
theorem bit_full (n t : Nat) : bit (Nat.sub (Nat.pow 2 n) 1) t = decide (t < n) := by
  rw [bit_eq]
  exact Nat.testBit_two_pow_sub_one n t
/-- One set of bits lies in another. -/
theorem land_sub {a b : Nat} (h : Nat.beq (Nat.land a b) a = true) {t : Nat} (ht : bit a t = true) : bit b t = true := by
  have h : a &&& b = a := by simpa using h
  rw [bit_eq] at ht ⊢
  rw [← h, Nat.testBit_and] at ht
  simp only [Bool.and_eq_true] at ht
  exact ht.2
theorem mem_beforeOf {bs : List Nat} {o : Oper} {j : Nat} (h : bit (beforeOf bs o) j = true) : ∃ e ∈ o.after.toList, bindsE e = true ∧ (j = e.on ∨ bit (bitsAt bs e.on) j = true) := by
  have gen : ∀ (l : List Edge) (s : Nat), bit (l.foldl (fun s e => Bool.rec (motive := fun _ => Nat) s (Nat.lor s (addBit (bitsAt bs e.on) e.on)) (bindsE e)) s) j = true →
      bit s j = true ∨ ∃ e ∈ l, bindsE e = true ∧ (j = e.on ∨ bit (bitsAt bs e.on) j = true) := by
    intro l
    induction l with
    | nil => intro s h; exact .inl h
    | cons e l ih =>
      intro s h
      rw [List.foldl_cons] at h
      rcases ih _ h with k | ⟨e', k1, k2⟩
      · cases hb : bindsE e with
        | false => rw [hb] at k; exact .inl k
        | true =>
          rw [hb] at k
          have k : bit (Nat.lor s (addBit (bitsAt bs e.on) e.on)) j = true := k
          rw [bit_lor, bit_add] at k
          simp only [Bool.or_eq_true, decide_eq_true_eq] at k
          rcases k with k | k | k
          · exact .inl k
          · exact .inr ⟨e, List.mem_cons_self, hb, .inr k⟩
          · exact .inr ⟨e, List.mem_cons_self, hb, .inl k⟩
      · exact .inr ⟨e', List.mem_cons_of_mem _ k1, k2⟩
  rcases gen o.after.toList 0 h with k | k
  · rw [bit_zero] at k; cases k
  · exact k
theorem binds_eq (e : Edge) : Region.binds .any e = bindsE e := by
  unfold Region.binds bindsE
  cases e.ground <;> rfl
/-- What has been checked of the edges and the names. -/
structure Static (T : Ty) (ops : Array Oper) (bs : List Nat) : Prop where
  back : ∀ (i : Nat) o, ops[i]? = some o → ∀ e ∈ o.after.toList, bindsE e = true → e.on < i
  before : ∀ (i : Nat) o, ops[i]? = some o → ∀ j, bit (bitsAt bs i) j = true → ∃ e ∈ o.after.toList, bindsE e = true ∧ (j = e.on ∨ bit (bitsAt bs e.on) j = true)
  names : ∀ (i j : Nat) o p d, i ≠ j → ops[i]? = some o → ops[j]? = some p → p.dst = some d → d ∈ namesOf T ops o → (bit (bitsAt bs i) j = true ∨ bit (bitsAt bs j) i = true) ∧ o.dst ≠ some d
theorem mem_zipIdx {ops : Array Oper} {i : Nat} {o : Oper} (h : ops[i]? = some o) : (o, i) ∈ ops.toList.zipIdx := by
  rw [List.mem_zipIdx_iff_getElem?]
  simpa using h
theorem static_ok {ops : Array Oper} {bs : List Nat} (h : regionOk T ops bs = true) : Static T ops bs := by
  unfold regionOk at h
  simp only [List.all_eq_true] at h
  have parts : ∀ (i : Nat) o, ops[i]? = some o → (bitsAt bs i = beforeOf bs o ∧ ∀ e ∈ o.after.toList, bindsE e = true → e.on < i) ∧
      ∀ (j : Nat) p d, i ≠ j → ops[j]? = some p → p.dst = some d → d ∈ namesOf T ops o → (bit (bitsAt bs i) j = true ∨ bit (bitsAt bs j) i = true) ∧ o.dst ≠ some d := by
    intro i o ho
    have k := h (o, i) (mem_zipIdx ho)
    simp only [Bool.and_eq_true, List.all_eq_true, Bool.or_eq_true] at k
    obtain ⟨⟨k1, k2⟩, k3⟩ := k
    refine ⟨⟨by simpa using k1, fun e he hb => ?_⟩, fun j p d hij hp hd hn => ?_⟩
    · rcases k2 e he with q | q
      · rw [hb] at q; cases q
      · simpa using q
    · have q := k3 (p, j) (mem_zipIdx hp)
      rcases q with q | q
      · exact absurd (by simpa using q) hij
      · simp only [hd] at q
        have ha : (namesOf T ops o).any (Nat.beq d) = true := by
          rw [List.any_eq_true]
          exact ⟨d, hn, by simp⟩
        rw [ha] at q
        simp only [Bool.not_true, Bool.false_or, Bool.and_eq_true, Bool.or_eq_true] at q
        refine ⟨q.1, fun e => ?_⟩
        have q2 := q.2
        rw [e] at q2
        simp at q2
  exact ⟨fun i o ho => (parts i o ho).1.2, fun i o ho j hj => by rw [(parts i o ho).1.1] at hj; exact mem_beforeOf hj, fun i j o p d hij ho hp hd hn => (parts i o ho).2 j p d hij hp hd hn⟩
theorem ordOk_cons (bs : List Nat) (isE : Nat → Bool) (full i : Nat) (l : List Nat) (done em : Nat) :
    ordOk bs isE full (i :: l) done em = (Nat.beq (Nat.land (bitsAt bs i) done) (bitsAt bs i) && !bit done i && Nat.beq (Nat.land em (bitsAt bs i)) em && ordOk bs isE full l (addBit done i) (Bool.rec (motive := fun _ => Nat) em (addBit em i) (isE i))) := rfl
theorem ordOk_split {bs : List Nat} {isE : Nat → Bool} {full : Nat} : ∀ {l : List Nat} {done em : Nat}, ordOk bs isE full l done em = true →
    (∀ pre i post, l = pre ++ i :: post → (∀ j, bit (bitsAt bs i) j = true → bit done j = true ∨ j ∈ pre) ∧ bit done i = false ∧ i ∉ pre ∧ (∀ j ∈ pre, isE j = true → bit (bitsAt bs i) j = true) ∧ (∀ j, bit em j = true → bit (bitsAt bs i) j = true)) ∧
    ∀ t, bit full t = true → bit done t = true ∨ t ∈ l
  | [], done, em, h => by
    refine ⟨fun pre i post e => by simp at e, fun t ht => .inl ?_⟩
    have h : done = full := by
      have h' : Nat.beq done full = true := h
      simpa using h'
    rw [h]
    exact ht
  | x :: l, done, em, h => by
    rw [ordOk_cons] at h
    simp only [Bool.and_eq_true] at h
    obtain ⟨⟨⟨h1, h2⟩, h3⟩, h4⟩ := h
    obtain ⟨k1, k2⟩ := ordOk_split h4
    refine ⟨fun pre i post e => ?_, fun t ht => ?_⟩
    · cases pre with
      | nil =>
        simp only [List.nil_append, List.cons.injEq] at e
        obtain ⟨rfl, rfl⟩ := e
        exact ⟨fun j hj => .inl (land_sub h1 hj), by simpa using h2, by simp, by simp, fun j hj => land_sub h3 hj⟩
      | cons y pre =>
        simp only [List.cons_append, List.cons.injEq] at e
        obtain ⟨rfl, rfl⟩ := e
        obtain ⟨m1, m2, m3, m4, m5⟩ := k1 pre i post rfl
        rw [bit_add] at m2
        simp only [Bool.or_eq_false_iff, decide_eq_false_iff_not] at m2
        refine ⟨fun j hj => ?_, m2.1, ?_, fun j hj hE => ?_, fun j hj => ?_⟩
        · rcases m1 j hj with q | q
          · rw [bit_add] at q
            simp only [Bool.or_eq_true, decide_eq_true_eq] at q
            rcases q with q | q
            · exact .inl q
            · exact .inr (q ▸ List.mem_cons_self)
          · exact .inr (List.mem_cons_of_mem _ q)
        · intro q
          cases q with
          | head => exact m2.2 rfl
          | tail _ q => exact m3 q
        · cases hj with
          | head =>
            refine m5 _ ?_
            rw [hE]
            show bit (addBit em x) x = true
            rw [bit_add]
            simp
          | tail _ hj => exact m4 j hj hE
        · refine m5 j ?_
          cases hE : isE x with
          | false => exact hj
          | true =>
            show bit (addBit em x) j = true
            rw [bit_add, hj]
            rfl
    · rcases k2 t ht with q | q
      · rw [bit_add] at q
        simp only [Bool.or_eq_true, decide_eq_true_eq] at q
        rcases q with q | q
        · exact .inl q
        · exact .inr (q ▸ List.mem_cons_self)
      · exact .inr (List.mem_cons_of_mem _ q)
/-- What has been checked of the order. -/
structure Order (ops : Array Oper) (cl : List COper) (bs : List Nat) (ord : List Nat) : Prop where
  pre : ∀ pre i post, ord = pre ++ i :: post → (∀ j, bit (bitsAt bs i) j = true → j ∈ pre) ∧ i ∉ pre ∧ ∀ j ∈ pre, isEAt cl j = true → bit (bitsAt bs i) j = true
  all : ∀ i, i < ops.size → i ∈ ord
theorem compD_ok {cl l : List COper} {ops : Array Oper} (h : compD T cl ops = some l) : ∃ bs ord, Static T ops bs ∧ Order ops cl bs ord ∧
    setLH cl (fun i => lenL (((List.range ops.size).filter (isEAt cl)).filter fun e => !bit (bitsAt bs e) i)) ord 0 = some l := by
  obtain ⟨h1, h2⟩ := oif_some.1 (show oif (regionOk T ops (befores ops.toList) && ordOk (befores ops.toList) (isEAt cl) (Nat.sub (Nat.pow 2 ops.size) 1) (levels (befores ops.toList) (isEAt cl) ((List.range ops.size).filter (isEAt cl)) (List.range ops.size) (lenL ((List.range ops.size).filter (isEAt cl)))) 0 0) _ = some l from h)
  simp only [Bool.and_eq_true] at h1
  obtain ⟨k1, k2⟩ := ordOk_split h1.2
  refine ⟨_, _, static_ok h1.1, ⟨fun pre i post e => ?_, fun i hi => ?_⟩, h2⟩
  · obtain ⟨m1, m2, m3, m4, m5⟩ := k1 pre i post e
    refine ⟨fun j hj => ?_, m3, m4⟩
    rcases m1 j hj with q | q
    · rw [bit_zero] at q; cases q
    · exact q
  · rcases k2 i (by rw [bit_full]; simpa using hi) with q | q
    · rw [bit_zero] at q; cases q
    · exact q
theorem Order.nodup {ops : Array Oper} {cl : List COper} {bs ord : List Nat} (h : Order ops cl bs ord) {A B C : List Nat} {i : Nat} (e : ord = A ++ i :: B ++ C) : i ∉ A ∧ i ∉ B ∧ i ∉ C := by
  have h1 : i ∉ A := (h.pre A i (B ++ C) (by rw [e]; simp)).2.1
  refine ⟨h1, fun hb => ?_, fun hc => ?_⟩
  · obtain ⟨s, t, rfl⟩ := List.append_of_mem hb
    exact (h.pre (A ++ i :: s) i (t ++ C) (by rw [e]; simp)).2.1 (by simp)
  · obtain ⟨s, t, rfl⟩ := List.append_of_mem hc
    exact (h.pre (A ++ i :: B ++ s) i t (by rw [e]; simp)).2.1 (by simp)
end
end Ev
end Go.Proofs.YtbfkbabolhhbaaaGreatDoor
