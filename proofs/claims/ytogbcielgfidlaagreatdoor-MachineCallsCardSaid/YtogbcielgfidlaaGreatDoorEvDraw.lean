/-
  What a region that draws its order has been checked for.
-/
import Derived.Test.YtogbcielgfidlaaGreatDoorEvStep
namespace Go.Proofs.YtogbcielgfidlaaGreatDoor
set_option linter.unusedVariables false
set_option linter.unusedSimpArgs false
namespace Ev
variable [Opq]
set_option linter.unusedSectionVars false
section
variable {P : Program} {T : Ty} {m N : Nat}

theorem bit_eq (a t : Nat) : bit a t = a.testBit t := by
  rw [Nat.testBit_eq_decide_div_mod_eq]
  unfold bit
  rw [nmod, nshr, Bool.eq_iff_iff]
  simp
theorem bit_add (a i t : Nat) : bit (addBit a i) t = (bit a t || decide (t = i)) := by
  rw [bit_eq, bit_eq]
  show (a ||| (1 <<< i)).testBit t = _
  rw [Nat.testBit_or, Nat.one_shiftLeft, Nat.testBit_two_pow]
  congr 1
  exact decide_eq_decide.2 ⟨fun h => h.symm, fun h => h.symm⟩
theorem bit_lor (a b t : Nat) : bit (Nat.lor a b) t = (bit a t || bit b t) := by
  rw [bit_eq, bit_eq, bit_eq]
  exact Nat.testBit_or a b t
theorem bit_zero (t : Nat) : bit 0 t = false := by rw [bit_eq]; exact Nat.zero_testBit t
theorem bit_full (n t : Nat) : bit (Nat.sub (Nat.pow 2 n) 1) t = decide (t < n) := by
  rw [bit_eq]
  exact Nat.testBit_two_pow_sub_one n t
/-- One set of bits lies in another. -/
theorem land_sub {a b : Nat} (h : Nat.beq (Nat.land a b) a = true) {t : Nat} (ht : bit a t = true) : bit b t = true := by
  have h : a &&& b = a := by simpa using h
  rw [bit_eq] at ht ⊢
  rw [← h, Nat.testBit_and] at ht
  simp only [Bool.and_eq_true] at ht
  exact ht.2
theorem mem_beforeOf {bs : List Nat} {o : Oper} {j : Nat} (h : bit (beforeOf bs o) j = true) : ∃ e ∈ o.after.toList, bindsE e = true ∧ (j = e.on ∨ bit (bitsAt bs e.on) j = true) := by
  have gen : ∀ (l : List Edge) (s : Nat), bit (l.foldl (fun s e => Bool.rec (motive := fun _ => Nat) s (Nat.lor s (addBit (bitsAt bs e.on) e.on)) (bindsE e)) s) j = true →
      bit s j = true ∨ ∃ e ∈ l, bindsE e = true ∧ (j = e.on ∨ bit (bitsAt bs e.on) j = true) := by
    intro l
    induction l with
    | nil => intro s h; exact .inl h
    | cons e l ih =>
      intro s h
      rw [List.foldl_cons] at h
      rcases ih _ h with k | ⟨e', k1, k2⟩
      · cases hb : bindsE e with
        | false => rw [hb] at k; exact .inl k
        | true =>
          rw [hb] at k
          have k : bit (Nat.lor s (addBit (bitsAt bs e.on) e.on)) j = true := k
          rw [bit_lor, bit_add] at k
          simp only [Bool.or_eq_true, decide_eq_true_eq] at k
          rcases k with k | k | k
          · exact .inl k
          · exact .inr ⟨e, List.mem_cons_self, hb, .inr k⟩
          · exact .inr ⟨e, List.mem_cons_self, hb, .inl k⟩
      · exact .inr ⟨e', List.mem_cons_of_mem _ k1, k2⟩
  rcases gen o.after.toList 0 h with k | k
  · rw [bit_zero] at k; cases k
  · exact k
theorem binds_eq (e : Edge) : Region.binds .any e = bindsE e := by
  unfold Region.binds bindsE
  cases e.ground <;> rfl
/-- What has been checked of the edges and the names. -/
structure Static (T : Ty) (ops : Array Oper) (bs : List Nat) : Prop where
  back : ∀ (i : Nat) o, ops[i]? = some o → ∀ e ∈ o.after.toList, bindsE e = true → e.on < i
  before : ∀ (i : Nat) o, ops[i]? = some o → ∀ j, bit (bitsAt bs i) j = true → ∃ e ∈ o.after.toList, bindsE e = true ∧ (j = e.on ∨ bit (bitsAt bs e.on) j = true)
  names : ∀ (i j : Nat) o p d, i ≠ j → ops[i]? = some o → ops[j]? = some p → p.dst = some d → d ∈ namesOf T ops o → (bit (bitsAt bs i) j = true ∨ bit (bitsAt bs j) i = true) ∧ o.dst ≠ some d
theorem mem_zipIdx {ops : Array Oper} {i : Nat} {o : Oper} (h : ops[i]? = some o) : (o, i) ∈ ops.toList.zipIdx := by
  rw [List.mem_zipIdx_iff_getElem?]
  simpa using h
theorem static_ok {ops : Array Oper} {bs : List Nat} (h : regionOk T ops bs = true) : Static T ops bs := by
  unfold regionOk at h
  simp only [List.all_eq_true] at h
  have parts : ∀ (i : Nat) o, ops[i]? = some o → (bitsAt bs i = beforeOf bs o ∧ ∀ e ∈ o.after.toList, bindsE e = true → e.on < i) ∧
      ∀ (j : Nat) p d, i ≠ j → ops[j]? = some p → p.dst = some d → d ∈ namesOf T ops o → (bit (bitsAt bs i) j = true ∨ bit (bitsAt bs j) i = true) ∧ o.dst ≠ some d := by
    intro i o ho
    have k := h (o, i) (mem_zipIdx ho)
    simp only [Bool.and_eq_true, List.all_eq_true, Bool.or_eq_true] at k
    obtain ⟨⟨k1, k2⟩, k3⟩ := k
    refine ⟨⟨by simpa using k1, fun e he hb => ?_⟩, fun j p d hij hp hd hn => ?_⟩
    · rcases k2 e he with q | q
      · rw [hb] at q; cases q
      · simpa using q
    · have q := k3 (p, j) (mem_zipIdx hp)
      rcases q with q | q
      · exact absurd (by simpa using q) hij
      · simp only [hd] at q
        have ha : (namesOf T ops o).any (Nat.beq d) = true := by
          rw [List.any_eq_true]
          exact ⟨d, hn, by simp⟩
        rw [ha] at q
        simp only [Bool.not_true, Bool.false_or, Bool.and_eq_true, Bool.or_eq_true] at q
        refine ⟨q.1, fun e => ?_⟩
        have q2 := q.2
        rw [e] at q2
        simp at q2
  exact ⟨fun i o ho => (parts i o ho).1.2, fun i o ho j hj => by rw [(parts i o ho).1.1] at hj; exact mem_beforeOf hj, fun i j o p d hij ho hp hd hn => (parts i o ho).2 j p d hij hp hd hn⟩
theorem ordOk_cons (bs : List Nat) (isE : Nat → Bool) (full i : Nat) (l : List Nat) (done em : Nat) :
    ordOk bs isE full (i :: l) done em = (Nat.beq (Nat.land (bitsAt bs i) done) (bitsAt bs i) && !bit done i && Nat.beq (Nat.land em (bitsAt bs i)) em && ordOk bs isE full l (addBit done i) (Bool.rec (motive := fun _ => Nat) em (addBit em i) (isE i))) := rfl
theorem ordOk_split {bs : List Nat} {isE : Nat → Bool} {full : Nat} : ∀ {l : List Nat} {done em : Nat}, ordOk bs isE full l done em = true →
    (∀ pre i post, l = pre ++ i :: post → (∀ j, bit (bitsAt bs i) j = true → bit done j = true ∨ j ∈ pre) ∧ bit done i = false ∧ i ∉ pre ∧ (∀ j ∈ pre, isE j = true → bit (bitsAt bs i) j = true) ∧ (∀ j, bit em j = true → bit (bitsAt bs i) j = true)) ∧
    ∀ t, bit full t = true → bit done t = true ∨ t ∈ l
  | [], done, em, h => by
    refine ⟨fun pre i post e => by simp at e, fun t ht => .inl ?_⟩
    have h : done = full := by
      have h' : Nat.beq done full = true := h
      simpa using h'
    rw [h]
    exact ht
  | x :: l, done, em, h => by
    rw [ordOk_cons] at h
    simp only [Bool.and_eq_true] at h
    obtain ⟨⟨⟨h1, h2⟩, h3⟩, h4⟩ := h
    obtain ⟨k1, k2⟩ := ordOk_split h4
    refine ⟨fun pre i post e => ?_, fun t ht => ?_⟩
    · cases pre with
      | nil =>
        simp only [List.nil_append, List.cons.injEq] at e
        obtain ⟨rfl, rfl⟩ := e
        exact ⟨fun j hj => .inl (land_sub h1 hj), by simpa using h2, by simp, by simp, fun j hj => land_sub h3 hj⟩
      | cons y pre =>
        simp only [List.cons_append, List.cons.injEq] at e
        obtain ⟨rfl, rfl⟩ := e
        obtain ⟨m1, m2, m3, m4, m5⟩ := k1 pre i post rfl
        rw [bit_add] at m2
        simp only [Bool.or_eq_false_iff, decide_eq_false_iff_not] at m2
        refine ⟨fun j hj => ?_, m2.1, ?_, fun j hj hE => ?_, fun j hj => ?_⟩
        · rcases m1 j hj with q | q
          · rw [bit_add] at q
            simp only [Bool.or_eq_true, decide_eq_true_eq] at q
            rcases q with q | q
            · exact .inl q
            · exact .inr (q ▸ List.mem_cons_self)
          · exact .inr (List.mem_cons_of_mem _ q)
        · intro q
          cases q with
          | head => exact m2.2 rfl
          | tail _ q => exact m3 q
        · cases hj with
          | head =>
            refine m5 _ ?_
            rw [hE]
            show bit (addBit em x) x = true
            rw [bit_add]
            simp
          | tail _ hj => exact m4 j hj hE
        · refine m5 j ?_
          cases hE : isE x with
          | false => exact hj
          | true =>
            show bit (addBit em x) j = true
            rw [bit_add, hj]
            rfl
    · rcases k2 t ht with q | q
      · rw [bit_add] at q
        simp only [Bool.or_eq_true, decide_eq_true_eq] at q
        rcases q with q | q
        · exact .inl q
        · exact .inr (q ▸ List.mem_cons_self)
      · exact .inr (List.mem_cons_of_mem _ q)
/-- What has been checked of the order. -/
structure Order (ops : Array Oper) (cl : List COper) (bs : List Nat) (ord : List Nat) : Prop where
  pre : ∀ pre i post, ord = pre ++ i :: post → (∀ j, bit (bitsAt bs i) j = true → j ∈ pre) ∧ i ∉ pre ∧ ∀ j ∈ pre, isEAt cl j = true → bit (bitsAt bs i) j = true
  all : ∀ i, i < ops.size → i ∈ ord
theorem compD_at {cl l : List COper} {ops : Array Oper} (h : compD T cl ops = some l) : ∃ ord, Static T ops (befores ops.toList) ∧ Order ops cl (befores ops.toList) ord ∧
    setLH cl (fun i => lenL (((List.range ops.size).filter (isEAt cl)).filter fun e => !bit (bitsAt (befores ops.toList) e) i)) ord 0 = some l := by
  obtain ⟨h1, h2⟩ := oif_some.1 (show oif (regionOk T ops (befores ops.toList) && ordOk (befores ops.toList) (isEAt cl) (Nat.sub (Nat.pow 2 ops.size) 1) (levels (befores ops.toList) (isEAt cl) ((List.range ops.size).filter (isEAt cl)) (List.range ops.size) (lenL ((List.range ops.size).filter (isEAt cl)))) 0 0) _ = some l from h)
  simp only [Bool.and_eq_true] at h1
  obtain ⟨k1, k2⟩ := ordOk_split h1.2
  refine ⟨_, static_ok h1.1, ⟨fun pre i post e => ?_, fun i hi => ?_⟩, h2⟩
  · obtain ⟨m1, m2, m3, m4, m5⟩ := k1 pre i post e
    refine ⟨fun j hj => ?_, m3, m4⟩
    rcases m1 j hj with q | q
    · rw [bit_zero] at q; cases q
    · exact q
  · rcases k2 i (by rw [bit_full]; simpa using hi) with q | q
    · rw [bit_zero] at q; cases q
    · exact q
theorem compD_ok {cl l : List COper} {ops : Array Oper} (h : compD T cl ops = some l) : ∃ bs ord, Static T ops bs ∧ Order ops cl bs ord ∧
    setLH cl (fun i => lenL (((List.range ops.size).filter (isEAt cl)).filter fun e => !bit (bitsAt bs e) i)) ord 0 = some l := by
  obtain ⟨ord, h1, h2, h3⟩ := compD_at h
  exact ⟨_, ord, h1, h2, h3⟩
theorem Order.nodup {ops : Array Oper} {cl : List COper} {bs ord : List Nat} (h : Order ops cl bs ord) {A B C : List Nat} {i : Nat} (e : ord = A ++ i :: B ++ C) : i ∉ A ∧ i ∉ B ∧ i ∉ C := by
  have h1 : i ∉ A := (h.pre A i (B ++ C) (by rw [e]; simp)).2.1
  refine ⟨h1, fun hb => ?_, fun hc => ?_⟩
  · obtain ⟨s, t, rfl⟩ := List.append_of_mem hb
    exact (h.pre (A ++ i :: s) i (t ++ C) (by rw [e]; simp)).2.1 (by simp)
  · obtain ⟨s, t, rfl⟩ := List.append_of_mem hc
    exact (h.pre (A ++ i :: B ++ s) i t (by rw [e]; simp)).2.1 (by simp)
end
end Ev
end Go.Proofs.YtogbcielgfidlaaGreatDoor
namespace Go.Proofs.YtogbcielgfidlaaGreatDoor
set_option linter.unusedVariables false
set_option linter.unusedSimpArgs false
namespace Ev
variable [Opq]
set_option linter.unusedSectionVars false
section
variable {P : Program} {T : Ty} {m N : Nat}

/-- One step: the operation's value, the state behind it. -/
structure Step (call : CallT) (co : COper) (s : St) (v : V) (s' : St) : Prop where
  f : s'.f = co.dst.put s.f v
  hs : s'.hs = if isE co.op = true then s.h :: s.hs else s.hs
  main : (guardOk s.f co.guard = some false ∧ v = undefV ∧ s'.h = s.h ∧ s'.cs = s.cs) ∨
    ∃ vs, guardOk s.f co.guard = some true ∧ evs s.f co.args = some vs ∧ co.op.run call vs s.h = some (v, s'.h) ∧ (∀ q, co.op = .r q → s'.cs = ⟨q, vs, v, co.lo, co.hi⟩ :: s.cs) ∧ ((∀ q, co.op ≠ .r q) → s'.cs = s.cs)
theorem step_of {call : CallT} {co : COper} {s s' : St} (h : co.runD call s = some s') : ∃ v, Step call co s v s' := by
  obtain ⟨b, h1, h2⟩ := ob_some.1 (show ob (guardOk s.f co.guard) _ = some s' from h)
  have hhs : ∀ (a b : List H), (Bool.rec (motive := fun _ => List H) a b (isE co.op)) = if isE co.op = true then b else a := fun a b => brec_eq _ _ _
  cases b with
  | false =>
    cases h2
    exact ⟨undefV, rfl, hhs _ _, .inl ⟨h1, rfl, rfl, rfl⟩⟩
  | true =>
    obtain ⟨vs, h3, h4⟩ := ob_some.1 h2
    obtain ⟨r, h5, h6⟩ := ob_some.1 h4
    cases h6
    refine ⟨r.1, rfl, hhs _ _, .inr ⟨vs, h1, h3, h5, fun q hq => ?_, fun hq => ?_⟩⟩
    · rw [hq]
    · cases hc : co.op with
      | r q => exact absurd hc (hq q)
      | _ => rfl
structure Ent where
  i : Nat
  k : Nat
  v : V
  s : St
inductive Trace (call : CallT) (cl : List COper) (hi : Nat → Nat) : Nat → St → List Ent → St → Prop
  | nil {k : Nat} {s : St} : Trace call cl hi k s [] s
  | cons {i k : Nat} {s s' sn : St} {c : COper} {v : V} {tr : List Ent} (hc : cl[i]? = some c) (st : Step call { c with lo := k, hi := hi i } s v s')
      (t : Trace call cl hi (if isE c.op = true then k + 1 else k) s' tr sn) : Trace call cl hi k s (⟨i, k, v, s⟩ :: tr) sn
theorem setLH_cons (cl : List COper) (hi : Nat → Nat) (i : Nat) (l : List Nat) (k : Nat) : setLH cl hi (i :: l) k = ob (nthL cl i) fun c => ob (setLH cl hi l (if isE c.op = true then k + 1 else k)) fun r => some ({ c with lo := k, hi := hi i } :: r) := by
  show ob (nthL cl i) (fun c => ob (setLH cl hi l (Bool.rec (motive := fun _ => Nat) k (Nat.succ k) (isE c.op))) fun r => some ({ c with lo := k, hi := hi i } :: r)) = _
  simp only [brec_eq, Nat.succ_eq_add_one]
theorem trace_of {call : CallT} {cl : List COper} {hi : Nat → Nat} : ∀ {ord : List Nat} {k : Nat} {l : List COper} {s sn : St}, setLH cl hi ord k = some l → runOpsD call l s = some sn → ∃ tr, Trace call cl hi k s tr sn ∧ tr.map (·.i) = ord
  | [], k, l, s, sn, h, hr => by
    cases h
    cases hr
    exact ⟨[], .nil, rfl⟩
  | i :: ord, k, l, s, sn, h, hr => by
    rw [setLH_cons] at h
    obtain ⟨c, h1, h2⟩ := ob_some.1 h
    obtain ⟨r, h3, h4⟩ := ob_some.1 h2
    cases h4
    rw [nthL_eq] at h1
    obtain ⟨s', h5, h6⟩ := ob_some.1 (show ob (COper.runD call { c with lo := k, hi := hi i } s) (runOpsD call r) = some sn from hr)
    obtain ⟨v, hst⟩ := step_of h5
    obtain ⟨tr, k1, k2⟩ := trace_of h3 h6
    exact ⟨_, .cons h1 hst k1, by simp [k2]⟩
/-- How many operations write memory. -/
noncomputable def nE (cl : List COper) (l : List Ent) : Nat := (l.filter fun e => isEAt cl e.i).length
theorem isEAt_eq {cl : List COper} {i : Nat} {c : COper} (h : cl[i]? = some c) : isEAt cl i = isE c.op := by
  unfold isEAt
  rw [nthL_eq, h]
theorem Trace.split {call : CallT} {cl : List COper} {hi : Nat → Nat} : ∀ {A B : List Ent} {k : Nat} {s sn : St}, Trace call cl hi k s (A ++ B) sn → ∃ s', Trace call cl hi k s A s' ∧ Trace call cl hi (k + nE cl A) s' B sn
  | [], B, k, s, sn, h => ⟨s, .nil, h⟩
  | e :: A, B, k, s, sn, h => by
    cases h with
    | cons hc st t =>
      rename_i i s1 c v
      obtain ⟨s', k1, k2⟩ := Trace.split (A := A) t
      refine ⟨s', .cons hc st k1, ?_⟩
      have : (if isE c.op = true then k + 1 else k) + nE cl A = k + nE cl (⟨i, k, v, s⟩ :: A) := by
        unfold nE
        rw [List.filter_cons, isEAt_eq hc]
        split <;> simp <;> omega
      rw [← this]
      exact k2
theorem Trace.append {call : CallT} {cl : List COper} {hi : Nat → Nat} : ∀ {A B : List Ent} {k : Nat} {s s' sn : St}, Trace call cl hi k s A s' → Trace call cl hi (k + nE cl A) s' B sn → Trace call cl hi k s (A ++ B) sn
  | [], B, k, s, s', sn, h, h' => by cases h; exact h'
  | e :: A, B, k, s, s', sn, h, h' => by
    cases h with
    | cons hc st t =>
      rename_i i s1 c v
      have : (if isE c.op = true then k + 1 else k) + nE cl A = k + nE cl (⟨i, k, v, s⟩ :: A) := by
        unfold nE
        rw [List.filter_cons, isEAt_eq hc]
        split <;> simp <;> omega
      rw [← this] at h'
      exact .cons hc st (Trace.append t h')
theorem Trace.head {call : CallT} {cl : List COper} {hi : Nat → Nat} {k : Nat} {s sn : St} {e : Ent} {B : List Ent} (h : Trace call cl hi k s (e :: B) sn) : e.s = s ∧ e.k = k ∧ ∃ c s', cl[e.i]? = some c ∧ Step call { c with lo := k, hi := hi e.i } s e.v s' ∧ Trace call cl hi (if isE c.op = true then k + 1 else k) s' B sn := by
  cases h with
  | cons hc st t => exact ⟨rfl, rfl, _, _, hc, st, t⟩
/-- What the names hold behind a run. -/
theorem Trace.names {call : CallT} {ops : Array Oper} {cl : List COper} {hi : Nat → Nat} (hcl : ∀ (i : Nat) c, cl[i]? = some c → ∃ o, ops[i]? = some o ∧ Parts T m N ops o c) : ∀ {tr : List Ent} {k : Nat} {s sn : St}, Trace call cl hi k s tr sn →
    (∀ t, (∀ e ∈ tr, (ops[e.i]?).bind (·.dst) ≠ some t) → rdn m sn.f t = rdn m s.f t) ∧
    ∀ A e B, tr = A ++ e :: B → ∀ t, (ops[e.i]?).bind (·.dst) = some t → (∀ e' ∈ B, (ops[e'.i]?).bind (·.dst) ≠ some t) → rdn m sn.f t = some e.v
  | [], k, s, sn, h => by
    cases h
    exact ⟨fun _ _ => rfl, fun A e B h => by simp at h⟩
  | x :: tr, k, s, sn, h => by
    cases h with
    | cons hc st t =>
      rename_i i s' c v
      obtain ⟨o, ho, hp⟩ := hcl i c hc
      obtain ⟨k1, k2⟩ := Trace.names hcl t
      have hput : ∀ t, rdn m s'.f t = if o.dst = some t then some v else rdn m s.f t := fun t => by
        rw [st.f]
        exact rdn_put hp.dst s.f v t
      refine ⟨fun t ht => ?_, fun A e B he t hd hB => ?_⟩
      · rw [k1 t fun e he => ht e (List.mem_cons_of_mem _ he), hput, if_neg]
        have := ht _ List.mem_cons_self
        simp only [ho, Option.bind_some] at this
        exact this
      · cases A with
        | nil =>
          simp only [List.nil_append, List.cons.injEq] at he
          obtain ⟨rfl, rfl⟩ := he
          rw [k1 t hB, hput, if_pos]
          simp only [ho, Option.bind_some] at hd
          exact hd
        | cons y A =>
          simp only [List.cons_append, List.cons.injEq] at he
          exact k2 A e B he.2 t hd hB
/-- The memories before what writes. -/
theorem Trace.hs {call : CallT} {cl : List COper} {hi : Nat → Nat} : ∀ {tr : List Ent} {k : Nat} {s sn : St}, Trace call cl hi k s tr sn → sn.hs = ((tr.filter fun e => isEAt cl e.i).map (·.s.h)).reverse ++ s.hs
  | [], k, s, sn, h => by cases h; rfl
  | x :: tr, k, s, sn, h => by
    cases h with
    | cons hc st t =>
      rename_i i s' c v
      rw [Trace.hs t, st.hs, List.filter_cons, isEAt_eq hc]
      show _ ++ (if isE c.op = true then s.h :: s.hs else s.hs) = _
      by_cases hE : isE c.op = true
      · simp [hE]
      · simp [hE]
theorem Trace.cs {call : CallT} {cl : List COper} {hi : Nat → Nat} : ∀ {tr : List Ent} {k : Nat} {s sn : St}, Trace call cl hi k s tr sn → ∀ c ∈ s.cs, c ∈ sn.cs
  | [], k, s, sn, h => by cases h; exact fun _ h => h
  | x :: tr, k, s, sn, h => by
    cases h with
    | cons hc st t =>
      rename_i i s' c v
      intro q hq
      refine Trace.cs t q ?_
      rcases st.main with ⟨_, _, _, h4⟩ | ⟨vs, _, _, _, h4, h5⟩
      · rw [h4]; exact hq
      · cases hop : c.op with
        | r ro => rw [h4 ro hop]; exact List.mem_cons_of_mem _ hq
        | _ => rw [h5 (fun q e => by have e : c.op = .r q := e; rw [hop] at e; cases e)]; exact hq
theorem sameAllV {r : V → V → Bool} (hr : ∀ x y, r x y = true → x = y) : ∀ {a b : List V}, (List.rec (motive := fun _ => List V → Bool) (fun l => caseL l true fun _ _ => false)
        (fun u _ q l => caseL l false fun v tl => Bool.rec (motive := fun _ => Bool) false (q tl) (r u v)) a : List V → Bool) b = true → a = b
  | [], [], _ => rfl
  | [], _ :: _, h => by cases h
  | _ :: _, [], h => by cases h
  | u :: a, v :: b, h => by
    have h : Bool.rec (motive := fun _ => Bool) false ((List.rec (motive := fun _ => List V → Bool) (fun l => caseL l true fun _ _ => false)
        (fun u _ q l => caseL l false fun v tl => Bool.rec (motive := fun _ => Bool) false (q tl) (r u v)) a : List V → Bool) b) (r u v) = true := h
    rw [brec_eq] at h
    split at h
    · rename_i h1
      rw [hr _ _ h1, sameAllV hr h]
    · cases h
theorem sameV_eq : ∀ (n : Nat) (x y : V), sameV n x y = true → x = y
  | 0, x, y, h => by cases h
  | n + 1, x, y, h => by
    have ih := sameV_eq n
    cases x with
    | bool b => cases y with
      | bool c =>
        have h : beqB b c = true := h
        rw [beqB_eq] at h
        simp at h
        rw [h]
      | _ => cases h
    | int k a => cases y with
      | int k' a' =>
        have h : (eqK k k' && eqI a a') = true := h
        rw [eqI_eq, Bool.and_eq_true, eqK_eq] at h
        obtain ⟨h1, h2⟩ := h
        rw [h1, eq_of_beq h2]
      | _ => cases h
    | str a b => cases y with
      | str a' b' =>
        have h : Bool.rec (motive := fun _ => Bool) false (Nat.beq b b') (Nat.beq a a') = true := h
        rw [brec_eq] at h
        split at h
        · rename_i h1
          rw [Nat.eq_of_beq_eq_true h1, Nat.eq_of_beq_eq_true h]
        · cases h
      | _ => cases h
    | nilp => cases y with
      | nilp => rfl
      | _ => cases h
    | ptr a b => cases y with
      | ptr a' b' =>
        have h : (Nat.beq a a' && Nat.beq b b') = true := h
        simp only [Bool.and_eq_true, Nat.beq_eq] at h
        rw [h.1, h.2]
      | _ => cases h
    | nils => cases y with
      | nils => rfl
      | _ => cases h
    | sl a b c d e f => cases y with
      | sl a' b' c' d' e' f' =>
        have h : (Nat.beq a a' && Nat.beq b b' && Nat.beq c c' && Nat.beq d d' && beqB e e' && Nat.beq f f') = true := h
        rw [beqB_eq] at h
        simp only [Bool.and_eq_true, Nat.beq_eq, beq_iff_eq] at h
        obtain ⟨⟨⟨⟨⟨h1, h2⟩, h3⟩, h4⟩, h5⟩, h6⟩ := h
        rw [h1, h2, h3, h4, h5, h6]
      | _ => cases h
    | nilm => cases y with
      | nilm => rfl
      | _ => cases h
    | map a => cases y with
      | map a' =>
        have h : Nat.beq a a' = true := h
        rw [Nat.beq_eq] at h
        rw [h]
      | _ => cases h
    | func fn a b => cases fn with
      | func f => cases y with
        | func fn' a' b' => cases fn' with
          | func f' =>
            have h : (Nat.beq f f' && _ && _) = true := h
            simp only [Bool.and_eq_true, Nat.beq_eq] at h
            obtain ⟨⟨h1, h2⟩, h3⟩ := h
            rw [h1, sameAllV ih h2, sameAllV ih h3]
          | _ => cases h
        | _ => cases h
      | yield f => cases y with
        | func fn' a' b' => cases fn' with
          | yield f' =>
            have h : (Nat.beq f f' && _ && _) = true := h
            simp only [Bool.and_eq_true, Nat.beq_eq] at h
            obtain ⟨⟨h1, h2⟩, h3⟩ := h
            rw [h1, sameAllV ih h2, sameAllV ih h3]
          | _ => cases h
        | _ => cases h
      | _ => cases y <;> cases h
    | yld a => cases y with
      | yld a' =>
        have h : Nat.beq a a' = true := h
        rw [Nat.beq_eq] at h
        rw [h]
      | _ => cases h
    | nilf => cases y with
      | nilf => rfl
      | _ => cases h
    | iface t a => cases y with
      | iface t' a' =>
        have h : (Nat.beq t t' && sameV n a a') = true := h
        simp only [Bool.and_eq_true, Nat.beq_eq] at h
        rw [h.1, ih _ _ h.2]
      | _ => cases h
    | nili => cases y with
      | nili => rfl
      | _ => cases h
    | agg a => cases y with
      | agg b => rw [sameAllV ih h]
      | _ => cases h
    | tup a => cases y with
      | tup b => rw [sameAllV ih h]
      | _ => cases h
theorem readsAt_ok {c : Tc} {h : H} (k : readsAt c h = true) : c.op.run c.vs h = some c.v := by
  unfold readsAt at k
  cases e : c.op.run c.vs h with
  | none => rw [e] at k; cases k
  | some v =>
    rw [e] at k
    rw [sameV_eq 20 v c.v k]
theorem readsAll_ok {c : Tc} : ∀ {hs : List H} {i : Nat}, readsAll c i hs = true → ∀ j h, hs[j]? = some h → c.lo ≤ i + j → i + j ≤ c.hi → readsAt c h = true
  | [], i, _, j, h, e, _, _ => by simp at e
  | x :: hs, i, k, j, h, e, h1, h2 => by
    have k : Bool.rec (motive := fun _ => Bool) (Bool.rec (motive := fun _ => Bool) false (readsAll c (i + 1) hs) (readsAt c x)) (readsAll c (i + 1) hs) (Nat.blt i c.lo || Nat.blt c.hi i) = true := k
    rw [brec_eq, brec_eq] at k
    cases j with
    | zero =>
      simp at e
      subst e
      rw [if_neg] at k
      · split at k
        · assumption
        · cases k
      · simp
        omega
    | succ j =>
      have hr : readsAll c (i + 1) hs = true := by
        split at k
        · exact k
        · split at k
          · exact k
          · cases k
      exact readsAll_ok hr j h (by simpa using e) (by omega) (by omega)
theorem checkAll_ok {hs : List H} : ∀ {cs : List Tc}, checkAll cs hs = true → ∀ c ∈ cs, readsAll c 0 hs = true
  | [], _, c, h => by cases h
  | x :: cs, k, c, h => by
    have k : Bool.rec (motive := fun _ => Bool) false (checkAll cs hs) (readsAll x 0 hs) = true := k
    rw [brec_eq] at k
    split at k
    · rename_i hx
      cases h with
      | head => exact hx
      | tail _ h => exact checkAll_ok k c h
    · cases k
/-- What was read, is read wherever it may stand. -/
def Checked (cs : List Tc) (hs : List H) : Prop := ∀ c ∈ cs, ∀ j h, hs[j]? = some h → c.lo ≤ j → j ≤ c.hi → c.op.run c.vs h = some c.v
theorem checked_of {cs : List Tc} {hs : List H} (k : checkAll cs hs = true) : Checked cs hs := fun c hc j h e h1 h2 =>
  readsAt_ok (readsAll_ok (checkAll_ok k c hc) j h e (by omega) (by omega))
theorem quiet_cons (o : COper) (l : List COper) : quiet (o :: l) = COp.rec (motive := fun _ => Bool) (fun _ => quiet l) (fun _ => quiet l) (fun _ => false) (fun _ => false) (fun _ => false) false o.op := rfl
theorem checked_quiet {call : CallT} {h : H} : ∀ {l : List COper} {s s' : St}, quiet l = true → runOpsD call l s = some s' → s.h = h → s.hs = [] → (∀ c ∈ s.cs, c.op.run c.vs h = some c.v) → s'.h = h ∧ s'.hs = [] ∧ ∀ c ∈ s'.cs, c.op.run c.vs h = some c.v
  | [], s, s', _, e, h1, h2, h3 => by cases e; exact ⟨h1, h2, h3⟩
  | o :: l, s, s', q, e, h1, h2, h3 => by
    have e : ob (o.runD call s) (runOpsD call l) = some s' := e
    obtain ⟨s1, e1, e2⟩ := ob_some.1 e
    rw [quiet_cons] at q
    unfold COper.runD at e1
    obtain ⟨b, _, e3⟩ := ob_some.1 e1
    have main : quiet l = true ∧ s1.h = h ∧ s1.hs = [] ∧ ∀ c ∈ s1.cs, c.op.run c.vs h = some c.v := by
      obtain ⟨d, op, args, gd, lo, hi⟩ := o
      cases op with
      | p po =>
        refine ⟨q, ?_⟩
        cases b with
        | false => cases e3; exact ⟨h1, h2, h3⟩
        | true =>
          obtain ⟨vs, _, e4⟩ := ob_some.1 e3
          obtain ⟨r, e5, e6⟩ := ob_some.1 e4
          obtain ⟨v, _, e7⟩ := ob_some.1 (show ob (po.run vs) (fun v => some (v, s.h)) = some r from e5)
          cases e7
          cases e6
          exact ⟨h1, h2, h3⟩
      | r ro =>
        refine ⟨q, ?_⟩
        cases b with
        | false => cases e3; exact ⟨h1, h2, h3⟩
        | true =>
          obtain ⟨vs, _, e4⟩ := ob_some.1 e3
          obtain ⟨r, e5, e6⟩ := ob_some.1 e4
          obtain ⟨v, e8, e7⟩ := ob_some.1 (show ob (ro.run vs s.h) (fun v => some (v, s.h)) = some r from e5)
          cases e7
          cases e6
          refine ⟨h1, h2, fun c hc => ?_⟩
          cases hc with
          | head => rw [← h1]; exact e8
          | tail _ hc => exact h3 c hc
      | _ => cases q
    exact checked_quiet main.1 e2 main.2.1 main.2.2.1 main.2.2.2
theorem checked_ok {call : CallT} {l : List COper} {f : F} {h : H} {s : St} (e : runOpsD call l ⟨f, h, [], []⟩ = some s) (k : (Bool.rec (motive := fun _ => Bool) (checkAll s.cs (revL s.hs [s.h])) true (quiet l) : Bool) = true) : Checked s.cs (revL s.hs [s.h]) := by
  cases q : quiet l with
  | false => rw [q] at k; exact checked_of k
  | true =>
    obtain ⟨h1, h2, h3⟩ := checked_quiet q e rfl rfl (fun c hc => by cases hc)
    intro c hc j x e _ _
    rw [h2, h1] at e
    have e : ([h] : List H)[j]? = some x := e
    have : x = h := by simpa using List.mem_of_getElem? e
    rw [this]
    exact h3 c hc
theorem revL_eq {α : Type} : ∀ (l r : List α), revL l r = l.reverse ++ r
  | [], r => rfl
  | x :: l, r => by
    show revL l (x :: r) = _
    rw [revL_eq l]
    simp
theorem sub_len : ∀ {l l' : List Nat}, l.Nodup → (∀ x ∈ l, x ∈ l') → l.length ≤ l'.length
  | [], _, _, _ => Nat.zero_le _
  | x :: l, l', hn, hs => by
    have hx := hs x List.mem_cons_self
    rw [List.nodup_cons] at hn
    have := sub_len (l := l) (l' := l'.erase x) hn.2 fun y hy => by
      have hne : y ≠ x := fun e => hn.1 (e ▸ hy)
      exact (List.mem_erase_of_ne hne).2 (hs y (List.mem_cons_of_mem _ hy))
    rw [List.length_erase_of_mem hx] at this
    have : 0 < l'.length := List.length_pos_of_mem hx
    simp only [List.length_cons]
    omega
end
end Ev
end Go.Proofs.YtogbcielgfidlaaGreatDoor
namespace Go.Proofs.YtogbcielgfidlaaGreatDoor
set_option linter.unusedVariables false
set_option linter.unusedSimpArgs false
namespace Ev
variable [Opq]
set_option linter.unusedSectionVars false
section
variable {P : Program} {T : Ty} {m N : Nat}

/-- The entry has made a block. -/
def Made (cl : List COper) (e : Ent) (blk : Blk) : Prop :=
  ∃ c ao vs mk, cl[e.i]? = some c ∧ c.op = .a ao ∧ guardOk e.s.f c.guard = some true ∧ evs e.s.f c.args = some vs ∧ ao.run vs = some (blk, mk) ∧ e.v = mk e.s.h.next
theorem cellsBlk_kin {l : List V} {blk : Blk} (h : cellsBlk l = some blk) : blk.kin = some (none, false) := by
  obtain ⟨_, h2⟩ := oif_some.1 h
  obtain ⟨_, h4⟩ := oif_some.1 h2
  cases h4
  rfl
theorem aop_kin {ao : AOp} {vs : List V} {blk : Blk} {mk : Nat → V} (h : ao.run vs = some (blk, mk)) : blk.kin = none ∨ blk.kin = some (none, false) := by
  cases ao with
  | alloc cs =>
    cases vs with
    | nil =>
      obtain ⟨b, k1, k2⟩ := ob_some.1 (show ob (cellsBlk cs) (fun b => some (b, fun i => V.ptr i 0)) = some (blk, mk) from h)
      cases k2
      exact .inr (cellsBlk_kin k1)
    | cons => cases h
  | box =>
    cases vs with
    | nil => cases h
    | cons x vs => cases vs with
      | nil =>
        obtain ⟨b, k1, k2⟩ := ob_some.1 (show ob (cellsBlk (cellsOf x)) (fun b => some (b, fun i => V.ptr i 0)) = some (blk, mk) from h)
        cases k2
        exact .inr (cellsBlk_kin k1)
      | cons => cases h
  | bslice z ln es ps =>
    obtain ⟨cs, k1, k2⟩ := ob_some.1 (show ob (fills ps vs (repL z ln)) (fun cs => ob (cellsBlk cs) fun b => some (b, fun i => V.sl i 0 ln ln true es)) = some (blk, mk) from h)
    obtain ⟨b, k3, k4⟩ := ob_some.1 k2
    cases k4
    exact .inr (cellsBlk_kin k3)
  | mkm r =>
    cases r with
    | false => cases vs with
      | nil => cases h; exact .inl rfl
      | cons => cases h
    | true => cases vs with
      | nil => cases h
      | cons x vs => cases vs with
        | nil => cases x <;> cases h; exact .inl rfl
        | cons => cases x <;> cases h
  | mks z bytes =>
    cases vs with
    | nil => cases h
    | cons x vs => cases vs with
      | nil => cases x <;> first | (cases h; done) | (rename_i k _; cases k <;> cases h)
      | cons y vs => cases vs with
        | cons => cases x <;> first | (cases h; done) | (rename_i k _; cases k <;> first | (cases h; done) | (cases y <;> first | (cases h; done) | (rename_i k _; cases k <;> cases h)))
        | nil =>
          cases x <;> try (cases h; done)
          rename_i k1 n1
          cases k1 <;> try (cases h; done)
          cases y <;> try (cases h; done)
          rename_i k2 n2
          cases k2 <;> try (cases h; done)
          cases n1 <;> try (cases h; done)
          cases n2 <;> try (cases h; done)
          rename_i l' c'
          obtain ⟨q1, q2⟩ := oif_some.1 (show oif (Nat.ble l' c') (oif (Nat.blt (Nat.mul c' bytes) 1099511627776) (oif (Nat.blt c' 1099511627776) (ob (cellsBlk (repL z c')) fun b => some (b, fun i => V.sl i 0 l' c' true (lenL z))))) = some (blk, mk) from h)
          obtain ⟨q3, q4⟩ := oif_some.1 q2
          obtain ⟨q5, q6⟩ := oif_some.1 q4
          obtain ⟨b, q7, q8⟩ := ob_some.1 q6
          cases q8
          exact .inr (cellsBlk_kin q7)
  | rangeS =>
    cases vs with
    | nil => cases h
    | cons x vs => cases vs with
      | nil => cases x <;> cases h; exact .inl rfl
      | cons => cases x <;> cases h
theorem Ext.mem {g0 g : G} {h0 h h' : H} {w0 w : World} (x : Ext T g0 h0 w0 g h w) (r : WR T g h' w) (hn : h.next ≤ h'.next) (hb : ∀ id, id < h.next → h'.blk id = h.blk id) : Ext T g0 h0 w0 g h' w := by
  refine ⟨x.le, Nat.le_trans x.next hn, r, fun id hi e => ?_, x.size, x.keep, x.fresh, fun id b o z n cs e1 e2 => ?_, x.os, x.tape, x.output⟩
  · obtain ⟨k1, k2⟩ := x.un id hi e
    exact ⟨k1, (hb id (Nat.lt_of_lt_of_le hi x.next)).trans k2⟩
  · obtain ⟨k1, k2⟩ := x.ro id b o z n cs e1 e2
    exact ⟨(hb id (x.wr.top _ _ k1)).trans k1, k2⟩
/-- The operations up to the next one that writes: new blocks, that nothing stands for yet. -/
theorem seg_ok {call : CallT} {cl : List COper} {hi : Nat → Nat} : ∀ {B : List Ent} {k : Nat} {s sn : St}, Trace call cl hi k s B sn → ∀ {g : G} {w : World}, WR T g s.h w → ∃ S B' s', B = S ++ B' ∧ Trace call cl hi k s S s' ∧ Trace call cl hi k s' B' sn ∧
    (∀ e B'', B' = e :: B'' → isEAt cl e.i = true) ∧ (∀ e ∈ S, isEAt cl e.i = false) ∧ WR T g s'.h w ∧ s.h.next ≤ s'.h.next ∧ (∀ id, id < s.h.next → s'.h.blk id = s.h.blk id) ∧
    (∀ e ∈ S, ∀ blk, Made cl e blk → s.h.next ≤ e.s.h.next ∧ e.s.h.next < s'.h.next ∧ s'.h.blk e.s.h.next = some blk) ∧
    (∀ e ∈ S, ∀ e' ∈ S, ∀ b b', Made cl e b → Made cl e' b' → e.s.h.next = e'.s.h.next → e = e')
  | [], k, s, sn, h, g, w, r => by
    cases h
    exact ⟨[], [], s, rfl, .nil, .nil, by simp, by simp, r, Nat.le_refl _, fun _ _ => rfl, by simp, by simp⟩
  | e :: B, k, s, sn, h, g, w, r => by
    obtain ⟨rfl, rfl, c, s1, hc, st, t⟩ := h.head
    have hEc := isEAt_eq hc
    by_cases hE : isE c.op = true
    · refine ⟨[], e :: B, e.s, rfl, .nil, h, fun e' B'' he => ?_, by simp, r, Nat.le_refl _, fun _ _ => rfl, by simp, by simp⟩
      cases he
      rw [hEc]
      exact hE
    · rw [if_neg hE] at t
      -- the memory behind this one
      have hmem : (s1.h = e.s.h ∧ ∀ blk, ¬ Made cl e blk) ∨ ∃ blk, e.s.h.new blk = some s1.h ∧ (blk.kin = none ∨ blk.kin = some (none, false)) ∧ ∀ blk', Made cl e blk' → blk' = blk := by
        rcases st.main with ⟨h1, h2, h3, h4⟩ | ⟨vs, h1, h2, h3, h4, h5⟩
        · refine .inl ⟨h3, fun blk hm => ?_⟩
          obtain ⟨c', ao, vs', mk, m1, m2, m3, _⟩ := hm
          rw [hc] at m1
          cases m1
          have h1 : guardOk e.s.f c.guard = some false := h1
          rw [h1] at m3
          cases m3
        · have hrun : c.op.run call vs e.s.h = some (e.v, s1.h) := h3
          have hev : evs e.s.f c.args = some vs := h2
          have other : (∀ ao, c.op ≠ .a ao) → ∀ blk, ¬ Made cl e blk := by
            intro hn blk hm
            obtain ⟨c', ao, vs', mk, m1, m2, _⟩ := hm
            rw [hc] at m1
            cases m1
            exact hn ao m2
          cases hop : c.op with
          | p o =>
            rw [hop] at hrun
            obtain ⟨u, k1, k2⟩ := ob_some.1 (show ob (o.run vs) (fun v => some (v, e.s.h)) = some (e.v, s1.h) from hrun)
            exact .inl ⟨(Prod.mk.inj (Option.some.inj k2)).2.symm, other fun ao he => by rw [hop] at he; cases he⟩
          | r o =>
            rw [hop] at hrun
            obtain ⟨u, k1, k2⟩ := ob_some.1 (show ob (o.run vs e.s.h) (fun v => some (v, e.s.h)) = some (e.v, s1.h) from hrun)
            exact .inl ⟨(Prod.mk.inj (Option.some.inj k2)).2.symm, other fun ao he => by rw [hop] at he; cases he⟩
          | a ao =>
            rw [hop] at hrun
            obtain ⟨p, k1, k2⟩ := ob_some.1 (show ob (ao.run vs) (fun r => ob (e.s.h.new r.1) fun h' => some (r.2 e.s.h.next, h')) = some (e.v, s1.h) from hrun)
            obtain ⟨h', k3, k4⟩ := ob_some.1 k2
            have k5 : h' = s1.h := (Prod.mk.inj (Option.some.inj k4)).2
            refine .inr ⟨p.1, k5 ▸ k3, aop_kin (blk := p.1) (mk := p.2) k1, fun blk' hm => ?_⟩
            obtain ⟨c', ao', vs', mk, m1, m2, m3, m4, m5, _⟩ := hm
            rw [hc] at m1
            cases m1
            rw [hop] at m2
            cases m2
            rw [hev] at m4
            cases m4
            rw [k1] at m5
            have := Option.some.inj m5
            rw [this]
          | e o => rw [hop] at hE; exact absurd rfl hE
          | call f => rw [hop] at hE; exact absurd rfl hE
          | callv => rw [hop] at hE; exact absurd rfl hE
      rcases hmem with ⟨hs, hnm⟩ | ⟨blk, hnew, hkin, hone⟩
      · obtain ⟨S, B', s', q1, q2, q3, q4, q5, q6, q7, q8, q9, q10⟩ := seg_ok t (g := g) (w := w) (by rw [hs]; exact r)
        rw [hs] at q7 q8 q9
        refine ⟨e :: S, B', s', by rw [q1]; rfl, Trace.cons hc st (by rw [if_neg hE]; exact q2), q3, q4, fun x hx => ?_, q6, q7, q8, fun x hx blk hm => ?_, fun x hx y hy b b' hm hm' he => ?_⟩
        · cases hx with
          | head => rw [hEc]; simpa using hE
          | tail _ hx => exact q5 x hx
        · cases hx with
          | head => exact absurd hm (hnm blk)
          | tail _ hx => exact q9 x hx blk hm
        · cases hx with
          | head => exact absurd hm (hnm b)
          | tail _ hx =>
            cases hy with
            | head => exact absurd hm' (hnm b')
            | tail _ hy => exact q10 x hx y hy b b' hm hm' he
      · obtain ⟨r1, n1, n2, n3⟩ := r.add hnew hkin
        obtain ⟨S, B', s', q1, q2, q3, q4, q5, q6, q7, q8, q9, q10⟩ := seg_ok t (g := g) (w := w) r1
        have hown : s'.h.blk e.s.h.next = some blk := by rw [q8 _ (by omega), n2, if_pos rfl]
        refine ⟨e :: S, B', s', by rw [q1]; rfl, Trace.cons hc st (by rw [if_neg hE]; exact q2), q3, q4, fun x hx => ?_, q6, by omega, fun id hid => ?_, fun x hx blk' hm => ?_, fun x hx y hy b b' hm hm' he => ?_⟩
        · cases hx with
          | head => rw [hEc]; simpa using hE
          | tail _ hx => exact q5 x hx
        · rw [q8 id (by omega), n2, if_neg (by omega)]
        · cases hx with
          | head =>
            rw [hone blk' hm]
            exact ⟨Nat.le_refl _, by omega, hown⟩
          | tail _ hx =>
            obtain ⟨z1, z2, z3⟩ := q9 x hx blk' hm
            exact ⟨by omega, z2, z3⟩
        · cases hx with
          | head =>
            cases hy with
            | head => rfl
            | tail _ hy =>
              obtain ⟨z1, _, _⟩ := q9 y hy b' hm'
              omega
          | tail _ hx =>
            cases hy with
            | head =>
              obtain ⟨z1, _, _⟩ := q9 x hx b hm
              omega
            | tail _ hy => exact q10 x hx y hy b b' hm hm' he
end
end Ev
end Go.Proofs.YtogbcielgfidlaaGreatDoor
namespace Go.Proofs.YtogbcielgfidlaaGreatDoor
set_option linter.unusedVariables false
set_option linter.unusedSimpArgs false
namespace Ev
variable [Opq]
set_option linter.unusedSectionVars false
section
variable {P : Program} {T : Ty} {m N : Nat}

/-- Where the run stands: so much of the chosen order's memory has come about; what has been carried out holds its value. -/
structure Inv (T : Ty) (m N : Nat) (call : CallT) (ops : Array Oper) (cl : List COper) (hi : Nat → Nat) (bs : List Nat) (s0 : St) (tr : List Ent) (sn : St) (g0 : G) (a0 : Act) (w0 : World)
    (listed : Array Bool) (a : Act) (w : World) (g : G) (A B : List Ent) (sA : St) : Prop where
  tr : tr = A ++ B
  tA : Trace call cl hi 0 s0 A sA
  tB : Trace call cl hi (nE cl A) sA B sn
  bnd : ∀ e B', B = e :: B' → isEAt cl e.i = true
  wr : WR T g sA.h w
  ext : Ext T g0 s0.h w0 g sA.h w
  size : listed.size = ops.size
  inA : ∀ i, listed.getD i false = true → ∃ e ∈ A, e.i = i
  es : ∀ e ∈ A, isEAt cl e.i = true → listed.getD e.i false = true
  closed : ∀ i, listed.getD i false = true → ∀ j, bit (bitsAt bs i) j = true → listed.getD j false = true
  tsize : a.tmps.size = N
  old : ∀ t, (∀ i, listed.getD i false = true → (ops[i]?).bind (·.dst) ≠ some t) → a.tmps[t]? = a0.tmps[t]?
  new : ∀ e ∈ A, listed.getD e.i false = true → ∀ t, (ops[e.i]?).bind (·.dst) = some t → ∃ u, a.tmps[t]? = some u ∧ VR g e.v u
  made : ∀ e ∈ A, ∀ blk, Made cl e blk → listed.getD e.i false = false → g e.s.h.next = none ∧ sA.h.blk e.s.h.next = some blk ∧ s0.h.next ≤ e.s.h.next
  ids : ∀ e ∈ A, ∀ blk, Made cl e blk → e.s.h.next < sA.h.next
  dist : ∀ e ∈ A, ∀ e' ∈ A, ∀ b b', Made cl e b → Made cl e' b' → e.s.h.next = e'.s.h.next → e = e'
  defers : a.defers = a0.defers

theorem getD_set (l : Array Bool) (i j : Nat) (h : i < l.size) : (l.setIfInBounds i true).getD j false = if j = i then true else l.getD j false := by
  rw [Array.getD_eq_getD_getElem?, Array.getD_eq_getD_getElem?, Array.getElem?_setIfInBounds]
  by_cases e : i = j
  · subst e
    simp [h]
  · rw [if_neg e, if_neg (fun h => e h.symm)]
/-- What is ready. -/
theorem ready_mem {ops : Array Oper} {listed : Array Bool} {i : Nat} (hs : listed.size = ops.size) (h : i ∈ Region.ready .any ops listed) : i < ops.size ∧ listed.getD i false = false ∧ ∃ o, ops[i]? = some o ∧ ∀ e ∈ o.after.toList, bindsE e = true → listed.getD e.on false = true := by
  unfold Region.ready at h
  rw [List.mem_filter, List.mem_range] at h
  obtain ⟨h1, h2⟩ := h
  rw [Bool.and_eq_true] at h2
  have ho : ops[i]? = some ops[i] := Array.getElem?_eq_getElem h1
  refine ⟨h1, ?_, ops[i], ho, fun e he hb => ?_⟩
  · have := h2.1
    rw [Array.getD_eq_getD_getElem?, Array.getElem?_eq_getElem (by omega)] at this ⊢
    simpa using this
  · have := h2.2
    rw [ho] at this
    simp only [Option.map_some, Option.getD_some, Array.all_eq_true_iff_forall_mem] at this
    have k := this e (by simpa using he)
    rw [binds_eq, hb] at k
    simpa using k
theorem ready_nil {ops : Array Oper} {bs : List Nat} {listed : Array Bool} (hst : Static T ops bs) (hs : listed.size = ops.size) (h : Region.ready .any ops listed = []) : ∀ i, i < ops.size → listed.getD i false = true := by
  intro i
  induction i using Nat.strongRecOn with
  | _ i ih =>
    intro hi
    cases hl : listed.getD i false with
    | true => rfl
    | false =>
      have ho : ops[i]? = some ops[i] := Array.getElem?_eq_getElem hi
      have : i ∈ Region.ready .any ops listed := by
        unfold Region.ready
        rw [List.mem_filter, List.mem_range]
        refine ⟨hi, ?_⟩
        rw [Bool.and_eq_true]
        refine ⟨?_, ?_⟩
        · rw [Array.getD_eq_getD_getElem?, Array.getElem?_eq_getElem (by omega)] at hl ⊢
          simpa using hl
        · rw [ho]
          simp only [Option.map_some, Option.getD_some, Array.all_eq_true_iff_forall_mem]
          intro e he
          rw [binds_eq]
          cases hb : bindsE e with
          | false => rfl
          | true =>
            have hlt := hst.back i _ ho e (by simpa using he) hb
            simpa using ih e.on hlt (by omega)
      rw [h] at this
      cases this
/-- How many are left. -/
def left (ops : Array Oper) (listed : Array Bool) : Nat := ((List.range ops.size).filter fun i => !listed.getD i false).length
theorem left_set {ops : Array Oper} {listed : Array Bool} {i : Nat} (hs : listed.size = ops.size) (hi : i < ops.size) (hl : listed.getD i false = false) : left ops (listed.setIfInBounds i true) + 1 ≤ left ops listed := by
  unfold left
  have h1 : (((List.range ops.size).filter fun j => !(listed.setIfInBounds i true).getD j false).length + 1) = (i :: ((List.range ops.size).filter fun j => !(listed.setIfInBounds i true).getD j false)).length := rfl
  rw [h1]
  refine sub_len ?_ fun x hx => ?_
  · rw [List.nodup_cons]
    refine ⟨fun h => ?_, List.nodup_range.filter _⟩
    rw [List.mem_filter, getD_set _ _ _ (by omega)] at h
    simp at h
  · rw [List.mem_filter, List.mem_range]
    cases hx with
    | head => exact ⟨hi, by simp [hl]⟩
    | tail _ hx =>
      have hx : x ∈ (List.range ops.size).filter fun j => !(listed.setIfInBounds i true).getD j false := hx
      rw [List.mem_filter, List.mem_range, getD_set _ _ _ (by omega)] at hx
      obtain ⟨h2, h3⟩ := hx
      refine ⟨h2, ?_⟩
      split at h3
      · cases h3
      · exact h3
theorem left_zero {ops : Array Oper} {listed : Array Bool} (h : left ops listed = 0) : ∀ i, i < ops.size → listed.getD i false = true := by
  intro i hi
  have h := List.eq_nil_of_length_eq_zero h
  cases hl : listed.getD i false with
  | true => rfl
  | false =>
    have : i ∈ (List.range ops.size).filter fun i => !listed.getD i false := by
      rw [List.mem_filter, List.mem_range]
      exact ⟨hi, by rw [hl]; rfl⟩
    rw [h] at this
    cases this
section
variable {call : CallT} {ops : Array Oper} {cl : List COper} {hi : Nat → Nat} {bs ord : List Nat} {s0 sn : St} {tr : List Ent} {g0 : G} {a0 : Act} {w0 : World} {listed : Array Bool} {a : Act} {w : World} {g : G} {A B : List Ent} {sA : St}

/-- The names behind an operation: each holds what it should. -/
theorem Inv.tmps (hst : Static T ops bs) (I : Inv T m N call ops cl hi bs s0 tr sn g0 a0 w0 listed a w g A B sA) {i : Nat} {o : Oper} (ho : ops[i]? = some o) {d : Dst} (hd : dst m N o.dst = some d) {u : Value} {g' : G} (hg : g.le g') :
    (∀ t, (∀ j, (listed.setIfInBounds i true).getD j false = true → (ops[j]?).bind (·.dst) ≠ some t) → (a.put o.dst u).tmps[t]? = a0.tmps[t]?) ∧
    (∀ e ∈ A, (listed.setIfInBounds i true).getD e.i false = true → e.i ≠ i → ∀ t, (ops[e.i]?).bind (·.dst) = some t → ∃ x, (a.put o.dst u).tmps[t]? = some x ∧ VR g' e.v x) ∧
    (∀ t, o.dst = some t → (a.put o.dst u).tmps[t]? = some u) := by
  have hi : i < listed.size := by
    rw [I.size]
    rcases Nat.lt_or_ge i ops.size with k | k
    · exact k
    · rw [Array.getElem?_eq_none k] at ho; cases ho
  refine ⟨fun t ht => ?_, fun e he hle hne t hdt => ?_, fun t hdt => ?_⟩
  · rw [put_tmps, if_neg]
    · refine I.old t fun j hj => ht j ?_
      rw [getD_set _ _ _ hi]
      split
      · rfl
      · exact hj
    · intro hx
      have := ht i (by rw [getD_set _ _ _ hi, if_pos rfl])
      rw [ho] at this
      exact this hx.1
  · rw [getD_set _ _ _ hi, if_neg hne] at hle
    obtain ⟨x, k1, k2⟩ := I.new e he hle t hdt
    refine ⟨x, ?_, k2.mono hg⟩
    rw [put_tmps, if_neg]
    · exact k1
    · intro hx
      obtain ⟨p, hp, hpd⟩ : ∃ p, ops[e.i]? = some p ∧ p.dst = some t := by
        cases hpp : ops[e.i]? with
        | none => rw [hpp] at hdt; cases hdt
        | some p => rw [hpp] at hdt; exact ⟨p, rfl, hdt⟩
      have hmem : t ∈ namesOf T ops o := by
        unfold namesOf
        rw [hx.1]
        simp
      exact (hst.names i e.i o p t (fun h => hne h.symm) ho hp hpd hmem).2 hx.1
  · rw [put_tmps, if_pos]
    refine ⟨hdt, ?_⟩
    rw [I.tsize]
    rw [hdt] at hd
    exact dst_lt hd
/-- One entry for each operation. -/
theorem ent_unique (hor : Order ops cl bs ord) (hmap : tr.map (·.i) = ord) {x y : Ent} (hx : x ∈ tr) (hy : y ∈ tr) (h : x.i = y.i) : x = y := by
  obtain ⟨s1, s2, e1⟩ := List.append_of_mem hx
  rw [e1] at hy
  have ho : ord = s1.map (·.i) ++ x.i :: s2.map (·.i) := by rw [← hmap, e1]; simp
  rcases List.mem_append.1 hy with k | k
  · have := (hor.pre _ _ _ ho).2.1
    rw [List.mem_map] at this
    exact (this ⟨y, k, h.symm⟩).elim
  · rcases List.mem_cons.1 k with k | k
    · exact k.symm
    · obtain ⟨z1, z2, rfl⟩ := List.append_of_mem k
      have := (hor.pre (s1.map (·.i) ++ x.i :: z1.map (·.i)) y.i (z2.map (·.i)) (by rw [ho]; simp)).2.1
      exact (this (by rw [h]; simp)).elim
/-- What an operation reads is the same in whatever order. -/
theorem Inv.reads (hst : Static T ops bs) (hor : Order ops cl bs ord) (hcl : ∀ (i : Nat) c, cl[i]? = some c → ∃ o, ops[i]? = some o ∧ Parts T m N ops o c) (hmap : tr.map (·.i) = ord) (F0 : FR g0 m N s0.f a0.tmps)
    (I : Inv T m N call ops cl hi bs s0 tr sn g0 a0 w0 listed a w g A B sA) {e : Ent} {A0 A1 : List Ent} (hA : tr = A0 ++ e :: A1) (t0 : Trace call cl hi 0 s0 A0 e.s) {o : Oper} (ho : ops[e.i]? = some o)
    (hl : listed.getD e.i false = false) (hbef : ∀ (j : Nat) (p : Oper) d, ops[j]? = some p → p.dst = some d → bit (bitsAt bs e.i) j = true → listed.getD j false = true) :
    ∀ t ∈ namesOf T ops o, ∀ v, rdn m e.s.f t = some v → ∃ u, a.tmps[t]? = some u ∧ VR g v u := by
  intro t ht v hv
  have hord : ord = (A0.map (·.i)) ++ e.i :: (A1.map (·.i)) := by rw [← hmap, hA]; simp
  obtain ⟨p1, p2, p3⟩ := hor.pre _ _ _ hord
  obtain ⟨n1, n2⟩ := t0.names hcl
  have dstOf : ∀ j : Nat, (ops[j]?).bind (fun x : Oper => x.dst) = some t → ∃ p : Oper, ops[j]? = some p ∧ p.dst = some t := by
    intro j hj
    cases hpp : ops[j]? with
    | none => rw [hpp] at hj; cases hj
    | some p => rw [hpp] at hj; exact ⟨p, rfl, hj⟩
  -- who stands behind the operation cannot stand before it
  have notBehind : ∀ x ∈ A0, bit (bitsAt bs x.i) e.i = true → False := by
    intro x hx hb
    obtain ⟨s, r, rfl⟩ := List.append_of_mem hx
    have := (hor.pre (s.map (·.i)) x.i (r.map (·.i) ++ e.i :: A1.map (·.i)) (by rw [hord]; simp)).1 e.i hb
    exact p2 (by rw [List.map_append, List.mem_append]; exact .inl this)
  by_cases hw : ∃ x ∈ A0, (ops[x.i]?).bind (·.dst) = some t
  · obtain ⟨x, hx, hxd⟩ := hw
    obtain ⟨p, hp, hpd⟩ := dstOf x.i hxd
    obtain ⟨s, r, rfl⟩ := List.append_of_mem hx
    have hne : e.i ≠ x.i := fun h => p2 (by rw [h, List.map_append, List.map_cons]; simp)
    have hrd : rdn m e.s.f t = some x.v := by
      refine n2 s x r rfl t hxd fun y hy hyd => ?_
      obtain ⟨q, hq, hqd⟩ := dstOf y.i hyd
      have hxy : x.i ≠ y.i := by
        intro h
        obtain ⟨r1, r2, rfl⟩ := List.append_of_mem hy
        have := (hor.pre (s.map (·.i) ++ x.i :: r1.map (·.i)) y.i (r2.map (·.i) ++ e.i :: A1.map (·.i)) (by rw [hord]; simp)).2.1
        exact this (by rw [← h]; simp)
      have hmem : t ∈ namesOf T ops p := by
        unfold namesOf
        rw [hpd]
        simp
      exact (hst.names x.i y.i p q t hxy hp hq hqd hmem).2 hpd
    rw [hrd] at hv
    cases hv
    have hb : bit (bitsAt bs e.i) x.i = true := by
      rcases (hst.names e.i x.i o p t hne ho hp hpd ht).1 with q | q
      · exact q
      · exact (notBehind x hx q).elim
    have hlx := hbef _ p t hp hpd hb
    obtain ⟨y, hy, hyx⟩ := I.inA _ hlx
    have hyx' : y = x := ent_unique hor hmap (by rw [I.tr]; exact List.mem_append_left _ hy) (by rw [hA]; exact List.mem_append_left _ (by simp)) hyx
    rw [hyx'] at hy
    exact I.new x hy hlx t hxd
  · have hrd : rdn m e.s.f t = rdn m s0.f t := n1 t fun x hx hd => hw ⟨x, hx, hd⟩
    rw [hrd] at hv
    obtain ⟨u, k1, k2⟩ := F0.2 t v hv
    refine ⟨u, ?_, k2.mono I.ext.le⟩
    rw [I.old t fun j hj hd => ?_]
    · exact k1
    · obtain ⟨p, hp, hpd⟩ := dstOf j hd
      have hne : e.i ≠ j := by
        intro h
        rw [← h, hl] at hj
        cases hj
      rcases (hst.names e.i j o p t hne ho hp hpd ht).1 with q | q
      · have := p1 j q
        rw [List.mem_map] at this
        obtain ⟨x, hx, rfl⟩ := this
        exact hw ⟨x, hx, hd⟩
      · have := I.closed j hj e.i q
        rw [hl] at this
        cases this
end
end
end Ev
end Go.Proofs.YtogbcielgfidlaaGreatDoor
namespace Go.Proofs.YtogbcielgfidlaaGreatDoor
set_option linter.unusedVariables false
set_option linter.unusedSimpArgs false
namespace Ev
variable [Opq]
set_option linter.unusedSectionVars false
section
variable {P : Program} {T : Ty} {m N : Nat}
variable {call : CallT} {ops : Array Oper} {cl : List COper} {hi : Nat → Nat} {bs ord : List Nat} {s0 sn : St} {tr : List Ent} {g0 : G} {a0 : Act} {w0 : World} {listed : Array Bool} {a : Act} {w : World} {g : G} {A B : List Ent} {sA : St}

theorem idx_lt {o : Oper} {i : Nat} (h : ops[i]? = some o) : i < ops.size := by
  rcases Nat.lt_or_ge i ops.size with k | k
  · exact k
  · rw [Array.getElem?_eq_none k] at h; cases h
/-- Closed under what comes before, with one more. -/
theorem closed_set {o : Oper} {i : Nat} (hs : listed.size = ops.size) (ho : ops[i]? = some o) (hc : ∀ i, listed.getD i false = true → ∀ j, bit (bitsAt bs i) j = true → listed.getD j false = true)
    (hbef : ∀ j, bit (bitsAt bs i) j = true → listed.getD j false = true) : ∀ k, (listed.setIfInBounds i true).getD k false = true → ∀ j, bit (bitsAt bs k) j = true → (listed.setIfInBounds i true).getD j false = true := by
  intro k hk j hj
  have hi := idx_lt ho
  rw [getD_set _ _ _ (by omega)] at hk ⊢
  split
  · rfl
  · split at hk
    · rename_i h
      subst h
      exact hbef j hj
    · exact hc k hk j hj
/-- An operation that writes no memory has been carried out. -/
theorem Inv.same (hst : Static T ops bs) (hor : Order ops cl bs ord) (hmap : tr.map (·.i) = ord) (I : Inv T m N call ops cl hi bs s0 tr sn g0 a0 w0 listed a w g A B sA) {e : Ent} (he : e ∈ A) {o : Oper} (ho : ops[e.i]? = some o) (hl : listed.getD e.i false = false)
    (hbef : ∀ j, bit (bitsAt bs e.i) j = true → listed.getD j false = true) {d : Dst} (hd : dst m N o.dst = some d) {u : Value} {g' : G} {w' : World} (x : Ext T g sA.h w g' sA.h w') (hv : VR g' e.v u) :
    Inv T m N call ops cl hi bs s0 tr sn g0 a0 w0 (listed.setIfInBounds e.i true) (a.put o.dst u) w' g' A B sA := by
  have hlt := idx_lt ho
  obtain ⟨t1, t2, t3⟩ := I.tmps (u := u) hst ho hd x.le
  refine ⟨I.tr, I.tA, I.tB, I.bnd, x.wr, I.ext.trans x, by simp [I.size], fun i hi => ?_, fun y hy hE => ?_, closed_set I.size ho I.closed hbef, by rw [put_size]; exact I.tsize, t1, fun y hy hly t hdt => ?_, fun y hy blk hm hly => ?_, I.ids, I.dist, (put_defers _ _ _).trans I.defers⟩
  · rw [getD_set _ _ _ (by rw [I.size]; exact hlt)] at hi
    split at hi
    · rename_i h; exact ⟨e, he, h.symm⟩
    · exact I.inA i hi
  · rw [getD_set _ _ _ (by rw [I.size]; exact hlt)]
    split
    · rfl
    · exact I.es y hy hE
  · by_cases hye : y.i = e.i
    · have hyx : y = e := ent_unique hor hmap (by rw [I.tr]; exact List.mem_append_left _ hy) (by rw [I.tr]; exact List.mem_append_left _ he) hye
      subst hyx
      rw [ho] at hdt
      exact ⟨u, t3 t hdt, hv⟩
    · exact t2 y hy hly hye t hdt
  · rw [getD_set _ _ _ (by rw [I.size]; exact hlt)] at hly
    split at hly
    · cases hly
    · obtain ⟨k1, k2, k3⟩ := I.made y hy blk hm hly
      obtain ⟨k4, k5⟩ := x.un _ (I.ids y hy blk hm) k1
      exact ⟨k4, k2, k3⟩
theorem Ext.place {h0 h : H} (x : Ext T g0 h0 w0 g h w) {id z : Nat} {o : Obj} (hid : h0.next ≤ id) (hn : g id = none) (r : WR T (gput g id (w.heap.size, 0, z)) h (w.alloc o)) : Ext T g0 h0 w0 (gput g id (w.heap.size, 0, z)) h (w.alloc o) := by
  refine ⟨G.le_trans x.le (gput_le _ hn), x.next, r, fun i hi e => ?_, ?_, fun b hb hu => ?_, fun i b o' z' e1 e2 => ?_, fun i b o' z' n cs e1 e2 => ?_, x.os, x.tape, x.output⟩
  · obtain ⟨k1, k2⟩ := x.un i hi e
    exact ⟨by rw [gput_ne _ (by omega)]; exact k1, k2⟩
  · rw [World.size_alloc]; have := x.size; omega
  · rw [heap_alloc (by have := x.size; omega)]
    exact x.keep b hb hu
  · by_cases hi : i = id
    · subst hi
      rw [gput_same] at e1
      cases e1
      exact .inl x.size
    · rw [gput_ne _ hi] at e1
      exact x.fresh i b o' z' e1 e2
  · obtain ⟨k1, k2⟩ := x.ro i b o' z' n cs e1 e2
    exact ⟨k1, by rw [heap_alloc (x.wr.lt _ _ _ _ (x.le _ _ e1))]; exact k2⟩
/-- A block has been made. -/
theorem Inv.make (hst : Static T ops bs) (hor : Order ops cl bs ord) (hmap : tr.map (·.i) = ord) (I : Inv T m N call ops cl hi bs s0 tr sn g0 a0 w0 listed a w g A B sA) {e : Ent} (he : e ∈ A) {o : Oper} (ho : ops[e.i]? = some o) (hl : listed.getD e.i false = false)
    (hbef : ∀ j, bit (bitsAt bs e.i) j = true → listed.getD j false = true) {d : Dst} (hd : dst m N o.dst = some d) {blk : Blk} (hm : Made cl e blk) {mk : Nat → V} {ρ : Operand → Value} {op : Op} (hmk : Makes P T g ρ op blk mk) (hv : e.v = mk e.s.h.next) :
    ∃ (obj : Obj) (val : Nat → Value) (g' : G), (∀ (w : World) (o : Oper), o.op = op → (execOp ρ o).run P w = .ok (.value (val w.heap.size)) (w.alloc obj)) ∧
      Inv T m N call ops cl hi bs s0 tr sn g0 a0 w0 (listed.setIfInBounds e.i true) (a.put o.dst (val w.heap.size)) (w.alloc obj) g' A B sA := by
  have hlt := idx_lt ho
  obtain ⟨obj, z, val, m1, m2, m3⟩ := hmk.make
  obtain ⟨k1, k2, k3⟩ := I.made e he blk hm hl
  have kid := I.ids e he blk hm
  have hle := gput_le (g := g) (w.heap.size, 0, z) k1
  have r' := I.wr.place (z := z) (o := obj) kid k1 k2 hmk.kin (m3 _ _ _ _ hle (gput_same _ _ _) (heap_alloc_new w obj))
  obtain ⟨t1, t2, t3⟩ := I.tmps (u := val w.heap.size) hst ho hd hle
  refine ⟨obj, val, _, m1, I.tr, I.tA, I.tB, I.bnd, r', I.ext.place k3 k1 r', by simp [I.size], fun i hi => ?_, fun y hy hE => ?_, closed_set I.size ho I.closed hbef, by rw [put_size]; exact I.tsize, t1, fun y hy hly t hdt => ?_, fun y hy blk' hm' hly => ?_, I.ids, I.dist, (put_defers _ _ _).trans I.defers⟩
  · rw [getD_set _ _ _ (by rw [I.size]; exact hlt)] at hi
    split at hi
    · rename_i h; exact ⟨e, he, h.symm⟩
    · exact I.inA i hi
  · rw [getD_set _ _ _ (by rw [I.size]; exact hlt)]
    split
    · rfl
    · exact I.es y hy hE
  · by_cases hye : y.i = e.i
    · have hyx : y = e := ent_unique hor hmap (by rw [I.tr]; exact List.mem_append_left _ hy) (by rw [I.tr]; exact List.mem_append_left _ he) hye
      subst hyx
      rw [ho] at hdt
      exact ⟨_, t3 t hdt, by rw [hv]; exact m2 _ _ _ hle (gput_same _ _ _)⟩
    · exact t2 y hy hly hye t hdt
  · rw [getD_set _ _ _ (by rw [I.size]; exact hlt)] at hly
    split at hly
    · cases hly
    · rename_i hne
      obtain ⟨q1, q2, q3⟩ := I.made y hy blk' hm' hly
      refine ⟨?_, q2, q3⟩
      rw [gput_ne]
      · exact q1
      · intro h
        exact hne (by rw [I.dist y hy e he blk' blk hm' hm h])
/-- An operation that writes memory has been carried out: the memory of the next stretch. -/
theorem Inv.write (hst : Static T ops bs) (hor : Order ops cl bs ord) (hmap : tr.map (·.i) = ord) {e : Ent} {B' : List Ent} (I : Inv T m N call ops cl hi bs s0 tr sn g0 a0 w0 listed a w g A (e :: B') sA) (hE : isEAt cl e.i = true) {o : Oper} (ho : ops[e.i]? = some o) (hl : listed.getD e.i false = false)
    (hbef : ∀ j, bit (bitsAt bs e.i) j = true → listed.getD j false = true) {d : Dst} (hd : dst m N o.dst = some d) {c : COper} {s1 : St} (hc : cl[e.i]? = some c) (hs : e.s = sA) (hst1 : Step call { c with lo := nE cl A, hi := hi e.i } sA e.v s1)
    (ht : Trace call cl hi (if isE c.op = true then nE cl A + 1 else nE cl A) s1 B' sn) (hek : e.k = nE cl A) {u : Value} {g' : G} {w' : World} (x : Ext T g sA.h w g' s1.h w') (hv : VR g' e.v u) (hnm : ∀ blk, ¬ Made cl e blk) :
    ∃ A' B'' sA', Inv T m N call ops cl hi bs s0 tr sn g0 a0 w0 (listed.setIfInBounds e.i true) (a.put o.dst u) w' g' A' B'' sA' := by
  have hlt := idx_lt ho
  obtain ⟨t1, t2, t3⟩ := I.tmps (u := u) hst ho hd x.le
  obtain ⟨S, B'', s', q1, q2, q3, q4, q5, q6, q7, q8, q9, q10⟩ := seg_ok ht x.wr
  have hEc : isE c.op = true := by rw [← isEAt_eq hc]; exact hE
  have hnE : nE cl (A ++ e :: S) = nE cl A + 1 := by
    unfold nE
    rw [List.filter_append, List.filter_cons, if_pos hE]
    have : S.filter (fun e => isEAt cl e.i) = [] := by
      rw [List.filter_eq_nil_iff]
      intro y hy
      rw [q5 y hy]
      decide
    rw [this]
    simp
  have he : e = ⟨e.i, nE cl A, e.v, sA⟩ := by
    obtain ⟨i, k, v, s⟩ := e
    simp only at hs hek
    rw [hs, hek]
  have htr : tr = (A ++ e :: S) ++ B'' := by rw [I.tr, q1]; simp
  have hA1 : Trace call cl hi 0 s0 (A ++ e :: S) s' := by
    refine Trace.append I.tA ?_
    rw [he]
    rw [Nat.zero_add]
    exact .cons hc hst1 q2
  have hnew : ∀ y ∈ A ++ e :: S, y ∈ A ∨ y = e ∨ y ∈ S := by
    intro y hy
    rcases List.mem_append.1 hy with h | h
    · exact .inl h
    · rcases List.mem_cons.1 h with h | h
      · exact .inr (.inl h)
      · exact .inr (.inr h)
  have hord : ord = A.map (·.i) ++ e.i :: (S ++ B'').map (·.i) := by rw [← hmap, I.tr, q1]; simp
  -- what is behind has not been carried out
  have behind : ∀ y ∈ S, (listed.setIfInBounds e.i true).getD y.i false = false := by
    intro y hy
    have hyT : y ∈ tr := by rw [htr]; simp [hy]
    have heT : e ∈ tr := by rw [htr]; simp
    rw [getD_set _ _ _ (by rw [I.size]; exact hlt), if_neg]
    · cases hly : listed.getD y.i false with
      | false => rfl
      | true =>
        obtain ⟨z, hz, hzy⟩ := I.inA _ hly
        have hzy' : z = y := ent_unique hor hmap (by rw [htr]; simp [hz]) hyT hzy
        subst hzy'
        obtain ⟨s1', s2', rfl⟩ := List.append_of_mem hy
        have := (hor.pre (A.map (·.i) ++ e.i :: s1'.map (·.i)) z.i (s2'.map (·.i) ++ B''.map (·.i)) (by rw [hord]; simp)).2.1
        exact (this (List.mem_append_left _ (List.mem_map.2 ⟨z, hz, rfl⟩))).elim
    · intro h
      have := ent_unique hor hmap hyT heT h
      subst this
      rw [q5 y hy] at hE
      cases hE
  have hmono : sA.h.next ≤ s'.h.next := Nat.le_trans x.next q7
  refine ⟨A ++ e :: S, B'', s', htr, hA1, by rw [hnE]; rw [if_pos hEc] at q3; exact q3, q4, q6, (I.ext.trans x).mem q6 q7 q8, by simp [I.size], fun i hi => ?_, fun y hy hEy => ?_, closed_set I.size ho I.closed hbef, by rw [put_size]; exact I.tsize, t1, fun y hy hly t hdt => ?_, fun y hy blk hm hly => ?_, fun y hy blk hm => ?_, fun y hy z hz b b' hm hm' hyz => ?_, (put_defers _ _ _).trans I.defers⟩
  · rw [getD_set _ _ _ (by rw [I.size]; exact hlt)] at hi
    split at hi
    · rename_i h; exact ⟨e, by simp, h.symm⟩
    · obtain ⟨y, hy, hyi⟩ := I.inA i hi
      exact ⟨y, by simp [hy], hyi⟩
  · rw [getD_set _ _ _ (by rw [I.size]; exact hlt)]
    split
    · rfl
    · rename_i hne
      rcases hnew y hy with h | h | h
      · exact I.es y h hEy
      · exact absurd (by rw [h]) hne
      · rw [q5 y h] at hEy; cases hEy
  · rcases hnew y hy with h | h | h
    · by_cases hye : y.i = e.i
      · have hyT : y ∈ tr := by rw [htr]; simp [h]
        have : y = e := ent_unique hor hmap hyT (by rw [htr]; simp) hye
        subst this
        rw [ho] at hdt
        exact ⟨u, t3 t hdt, hv⟩
      · exact t2 y h hly hye t hdt
    · subst h
      rw [ho] at hdt
      exact ⟨u, t3 t hdt, hv⟩
    · rw [behind y h] at hly; cases hly
  · rcases hnew y hy with h | h | h
    · rw [getD_set _ _ _ (by rw [I.size]; exact hlt)] at hly
      split at hly
      · cases hly
      · obtain ⟨k1, k2, k3⟩ := I.made y h blk hm hly
        have kid := I.ids y h blk hm
        obtain ⟨k4, k5⟩ := x.un _ kid k1
        exact ⟨k4, by rw [q8 _ (Nat.lt_of_lt_of_le kid x.next), k5]; exact k2, k3⟩
    · subst h
      exact absurd hm (hnm blk)
    · obtain ⟨z1, z2, z3⟩ := q9 y h blk hm
      refine ⟨?_, z3, Nat.le_trans I.ext.next (Nat.le_trans x.next z1)⟩
      cases hg : g' y.s.h.next with
      | none => rfl
      | some p => exact absurd (x.wr.dom _ _ hg) (by omega)
  · rcases hnew y hy with h | h | h
    · exact Nat.lt_of_lt_of_le (I.ids y h blk hm) hmono
    · subst h; exact absurd hm (hnm blk)
    · exact (q9 y h blk hm).2.1
  · rcases hnew y hy with h | h | h
    · rcases hnew z hz with h' | h' | h'
      · exact I.dist y h z h' b b' hm hm' hyz
      · subst h'; exact absurd hm' (hnm b')
      · have k1 := I.ids y h b hm
        have k2 := (q9 z h' b' hm').1
        have := x.next
        omega
    · subst h; exact absurd hm (hnm b)
    · rcases hnew z hz with h' | h' | h'
      · have k1 := I.ids z h' b' hm'
        have k2 := (q9 y h b hm).1
        have := x.next
        omega
      · subst h'; exact absurd hm' (hnm b')
      · exact q10 y h z h' b b' hm hm' hyz
end
end Ev
end Go.Proofs.YtogbcielgfidlaaGreatDoor
namespace Go.Proofs.YtogbcielgfidlaaGreatDoor
set_option linter.unusedVariables false
set_option linter.unusedSimpArgs false
namespace Ev
variable [Opq]
set_option linter.unusedSectionVars false
section
variable {P : Program} {T : Ty} {m N : Nat}
variable {call : CallT} {ops : Array Oper} {cl : List COper} {bs ord : List Nat} {s0 sn : St} {tr : List Ent} {g0 : G} {a0 : Act} {w0 : World}

/-- Up to which count a reading may stand. -/
noncomputable abbrev hiOf (ops : Array Oper) (cl : List COper) (bs : List Nat) : Nat → Nat := fun i => lenL (((List.range ops.size).filter (isEAt cl)).filter fun e => !bit (bitsAt bs e) i)
theorem nE_le (hor : Order ops cl bs ord) (hmap : tr.map (·.i) = ord) (hcl : ∀ (i : Nat) c, cl[i]? = some c → ∃ o, ops[i]? = some o ∧ Parts T m N ops o c) {listed : Array Bool} {a : Act} {w : World} {g : G} {A B : List Ent} {sA : St} (I : Inv T m N call ops cl (hiOf ops cl bs) bs s0 tr sn g0 a0 w0 listed a w g A B sA) {i : Nat} (hl : listed.getD i false = false) : nE cl A ≤ hiOf ops cl bs i := by
  unfold nE
  show _ ≤ lenL _
  rw [lenL_eq]
  have h1 : (A.filter fun e => isEAt cl e.i).length = ((A.filter fun e => isEAt cl e.i).map (·.i)).length := by simp
  rw [h1]
  refine sub_len ?_ fun x hx => ?_
  · have hnd : ∀ (pre l post : List Ent), tr = pre ++ l ++ post → (l.map (·.i)).Nodup := by
      intro pre l
      induction l generalizing pre with
      | nil => intro post _; exact List.nodup_nil
      | cons e l ih =>
        intro post he
        rw [List.map_cons, List.nodup_cons]
        refine ⟨fun hm => ?_, ih (pre ++ [e]) post (by rw [he]; simp)⟩
        rw [List.mem_map] at hm
        obtain ⟨y, hy, hye⟩ := hm
        obtain ⟨s1, s2, rfl⟩ := List.append_of_mem hy
        have := (hor.pre (pre.map (·.i) ++ e.i :: s1.map (·.i)) y.i (s2.map (·.i) ++ post.map (·.i)) (by rw [← hmap, he]; simp)).2.1
        exact this (by rw [hye]; simp)
    have := hnd [] A B (by rw [I.tr]; simp)
    exact List.Sublist.nodup (List.Sublist.map _ List.filter_sublist) this
  · rw [List.mem_map] at hx
    obtain ⟨y, hy, rfl⟩ := hx
    rw [List.mem_filter] at hy
    rw [List.mem_filter, List.mem_filter, List.mem_range]
    refine ⟨⟨?_, hy.2⟩, ?_⟩
    · have : ∃ c, cl[y.i]? = some c := by
        cases hc : cl[y.i]? with
        | some c => exact ⟨c, rfl⟩
        | none =>
          have := hy.2
          unfold isEAt at this
          rw [nthL_eq, hc] at this
          cases this
      obtain ⟨c, hc⟩ := this
      obtain ⟨o, ho, _⟩ := hcl _ _ hc
      exact idx_lt ho
    · have := I.es y hy.1 hy.2
      cases hb : bit (bitsAt bs y.i) i with
      | false => rfl
      | true =>
        have := I.closed _ this _ hb
        rw [hl] at this
        cases this
/-- All has been carried out. -/
theorem Inv.done (hor : Order ops cl bs ord) (hmap : tr.map (·.i) = ord) (hcl : ∀ (i : Nat) c, cl[i]? = some c → ∃ o, ops[i]? = some o ∧ Parts T m N ops o c) (hst : Static T ops bs) (F0 : FR g0 m N s0.f a0.tmps) {hi : Nat → Nat} {listed : Array Bool} {a : Act} {w : World} {g : G} {A B : List Ent} {sA : St}
    (I : Inv T m N call ops cl hi bs s0 tr sn g0 a0 w0 listed a w g A B sA) (hall : ∀ i, i < ops.size → listed.getD i false = true) : Ext T g0 s0.h w0 g sn.h w ∧ FR g m N sn.f a.tmps ∧ a.defers = a0.defers := by
  have hB : B = [] := by
    cases hB : B with
    | nil => rfl
    | cons e B' =>
      have htr := I.tr
      rw [hB] at htr
      have hE := I.bnd e B' hB
      have hc : ∃ c, cl[e.i]? = some c := by
        cases hc : cl[e.i]? with
        | some c => exact ⟨c, rfl⟩
        | none =>
          unfold isEAt at hE
          rw [nthL_eq, hc] at hE
          cases hE
      obtain ⟨c, hc⟩ := hc
      obtain ⟨o, ho, _⟩ := hcl _ _ hc
      obtain ⟨x, hx, hxe⟩ := I.inA e.i (hall _ (idx_lt ho))
      have := (hor.pre (A.map (·.i)) e.i (B'.map (·.i)) (by rw [← hmap, htr]; simp)).2.1
      exact (this (by rw [← hxe]; exact List.mem_map.2 ⟨x, hx, rfl⟩)).elim
  have hs : sA = sn := by
    have := I.tB
    rw [hB] at this
    cases this
    rfl
  subst hs
  refine ⟨I.ext, ⟨I.tsize, fun t v hv => ?_⟩, I.defers⟩
  obtain ⟨n1, n2⟩ := I.tA.names hcl
  have listedA : ∀ e ∈ A, listed.getD e.i false = true := by
    intro e he
    obtain ⟨s1, s2, e1⟩ := List.append_of_mem he
    obtain ⟨s', _, k2⟩ := Trace.split (A := s1) (B := e :: s2) (by rw [← e1]; exact I.tA)
    obtain ⟨_, _, c, _, hc, _, _⟩ := k2.head
    obtain ⟨o, ho, _⟩ := hcl _ _ hc
    exact hall _ (idx_lt ho)
  by_cases hw : ∃ x ∈ A, (ops[x.i]?).bind (fun o : Oper => o.dst) = some t
  · obtain ⟨x, hx, hxd⟩ := hw
    obtain ⟨s, r, e1⟩ := List.append_of_mem hx
    have hrd : rdn m sA.f t = some x.v := by
      refine n2 s x r e1 t hxd fun y hy hyd => ?_
      obtain ⟨p, hp, hpd⟩ : ∃ p : Oper, ops[x.i]? = some p ∧ p.dst = some t := by
        cases hpp : ops[x.i]? with
        | none => rw [hpp] at hxd; cases hxd
        | some p => rw [hpp] at hxd; exact ⟨p, rfl, hxd⟩
      obtain ⟨q, hq, hqd⟩ : ∃ p : Oper, ops[y.i]? = some p ∧ p.dst = some t := by
        cases hpp : ops[y.i]? with
        | none => rw [hpp] at hyd; cases hyd
        | some p => rw [hpp] at hyd; exact ⟨p, rfl, hyd⟩
      have hxy : x.i ≠ y.i := by
        intro h
        obtain ⟨r1, r2, rfl⟩ := List.append_of_mem hy
        have := (hor.pre (s.map (·.i) ++ x.i :: r1.map (·.i)) y.i (r2.map (·.i) ++ B.map (·.i)) (by rw [← hmap, I.tr, e1]; simp)).2.1
        exact this (by rw [← h]; simp)
      have hmem : t ∈ namesOf T ops p := by
        unfold namesOf
        rw [hpd]
        simp
      exact (hst.names x.i y.i p q t hxy hp hq hqd hmem).2 hpd
    rw [hrd] at hv
    cases hv
    exact I.new x hx (listedA x hx) t hxd
  · rw [n1 t fun x hx hd => hw ⟨x, hx, hd⟩] at hv
    obtain ⟨u, k1, k2⟩ := F0.2 t v hv
    refine ⟨u, ?_, k2.mono I.ext.le⟩
    rw [I.old t fun j hj hd => ?_]
    · exact k1
    · obtain ⟨x, hx, rfl⟩ := I.inA j hj
      exact hw ⟨x, hx, hd⟩
theorem pre_unique : ∀ {A0 A1 z1 z2 : List Ent} {e : Ent}, A0 ++ e :: A1 = z1 ++ e :: z2 → e ∉ z1 → e ∉ A0 → A0 = z1
  | [], A1, [], z2, e, _, _, _ => rfl
  | [], A1, y :: z1, z2, e, h, h1, _ => by
    simp only [List.nil_append, List.cons_append, List.cons.injEq] at h
    exact absurd (by rw [h.1]; exact List.mem_cons_self) h1
  | x :: A0, A1, [], z2, e, h, _, h2 => by
    simp only [List.nil_append, List.cons_append, List.cons.injEq] at h
    exact absurd (by rw [h.1]; exact List.mem_cons_self) h2
  | x :: A0, A1, y :: z1, z2, e, h, h1, h2 => by
    simp only [List.cons_append, List.cons.injEq] at h
    rw [h.1, pre_unique h.2 (fun k => h1 (List.mem_cons_of_mem _ k)) fun k => h2 (List.mem_cons_of_mem _ k)]
theorem draw_step (hT : TyOk P T) (hk : CallOk P T call) (hcl : ∀ (i : Nat) c, cl[i]? = some c → ∃ o, ops[i]? = some o ∧ Parts T m N ops o c) (hst : Static T ops bs) (hor : Order ops cl bs ord) (hmap : tr.map (·.i) = ord) (htr : Trace call cl (hiOf ops cl bs) 0 s0 tr sn)
    (hs0 : s0.hs = []) (hchk : Checked sn.cs (revL sn.hs [sn.h])) (hG : Glob T g0 s0.h) (F0 : FR g0 m N s0.f a0.tmps) {rd : Option Nat} {Q : Exit → Act → World → Prop}
    {listed : Array Bool} {a : Act} {w : World} {g : G} {A B : List Ent} {sA : St} (I : Inv T m N call ops cl (hiOf ops cl bs) bs s0 tr sn g0 a0 w0 listed a w g A B sA)
    {i : Nat} {o : Oper} (hlt : i < ops.size) (hl : listed.getD i false = false) (ho : ops[i]? = some o) (hbef : ∀ j, bit (bitsAt bs i) j = true → listed.getD j false = true) {K : Act → World → Prop}
    (ih : ∀ (a : Act) (w : World) (g : G) (A B : List Ent) (sA : St), Inv T m N call ops cl (hiOf ops cl bs) bs s0 tr sn g0 a0 w0 (listed.setIfInBounds i true) a w g A B sA → K a w) : wpOpIn (fen rd) 0 P ops Q i K a w := by
  obtain ⟨e, heT, rfl⟩ : ∃ e ∈ tr, e.i = i := by
    have := hor.all i hlt
    rw [← hmap, List.mem_map] at this
    exact this
  -- the entry's own step
  obtain ⟨A0, A1, hA⟩ := List.append_of_mem heT
  obtain ⟨s', t0, t1⟩ := Trace.split (A := A0) (B := e :: A1) (by rw [← hA]; exact htr)
  obtain ⟨hes, hek, c, s1, hc, st, t2⟩ := t1.head
  rw [← hes] at t0
  rw [Nat.zero_add] at hek st t2
  have hreads := I.reads hst hor hcl hmap F0 hA t0 ho hl (fun j _ _ _ _ h => hbef j h)
  obtain ⟨o', ho', hp⟩ := hcl _ _ hc
  rw [ho] at ho'
  cases ho'
  have hGg := hG.ext I.ext
  -- what an earlier writer of memory is, stands there
  have first : ∀ b ∈ A0, isEAt cl b.i = true → listed.getD b.i false = true := fun b hb hbE => hbef _ ((hor.pre (A0.map (·.i)) e.i (A1.map (·.i)) (by rw [← hmap, hA]; simp)).2.2 b.i (List.mem_map.2 ⟨b, hb, rfl⟩) hbE)
  have hguard : ∀ {b : Bool}, guardOk e.s.f c.guard = some b → Region.wanted o (yielded ops a.tmps) = b := fun hg => guard_ok hp hg fun t ht v hv => hreads t (by
    obtain ⟨gi, gw, h1, h2⟩ := ht
    unfold namesOf
    rw [h1]
    simp [h2]) v hv
  have hargs : ∀ {vs : List V} {os : List Operand}, compOp T o.op = some (c.op, os) → mapO (opd T m) os = some c.args → evs e.s.f c.args = some vs → VRs g vs (os.map a.eval) := fun h1 h2 h3 => evs_ok hGg h2 h3 fun t ht v hv => hreads t (by
    unfold namesOf
    rw [h1]
    refine List.mem_append_right _ (List.mem_append_left _ ?_)
    exact List.mem_filterMap.2 ⟨.tmp t, ht, rfl⟩) v hv
  unfold wpOpIn
  simp only [ho]
  by_cases hE : isEAt cl e.i = true
  · -- it writes memory: it is the next one
    have hEc : isE c.op = true := by rw [← isEAt_eq hc]; exact hE
    have hB : ∃ B', B = e :: B' := by
      have hnA : e ∉ A := fun h => by
        have := I.es e h hE
        rw [hl] at this
        cases this
      have heB : e ∈ B := by
        rw [I.tr] at heT
        exact (List.mem_append.1 heT).resolve_left hnA
      cases hBB : B with
      | nil => rw [hBB] at heB; cases heB
      | cons b B' =>
        rw [hBB] at heB
        rcases List.mem_cons.1 heB with h | h
        · exact ⟨B', by rw [h]⟩
        · have hb := I.bnd b B' hBB
          -- b stands before e
          obtain ⟨s1', s2', rfl⟩ := List.append_of_mem h
          have htr' : tr = (A ++ b :: s1') ++ e :: s2' := by rw [I.tr, hBB]; simp
          have hbl := hbef _ ((hor.pre ((A ++ b :: s1').map (·.i)) e.i (s2'.map (·.i)) (by rw [← hmap, htr']; simp)).2.2 b.i (List.mem_map.2 ⟨b, by simp, rfl⟩) hb)
          obtain ⟨y, hy, hyb⟩ := I.inA _ hbl
          have := (hor.pre (A.map (·.i)) b.i ((s1' ++ e :: s2').map (·.i)) (by rw [← hmap, I.tr, hBB]; simp)).2.1
          exact (this (by rw [← hyb]; exact List.mem_map.2 ⟨y, hy, rfl⟩)).elim
    obtain ⟨B', rfl⟩ := hB
    obtain ⟨hes2, hek2, c', s1', hc', st', t2'⟩ := I.tB.head
    rw [hc] at hc'
    cases hc'
    have hnm : ∀ blk, ¬ Made cl e blk := by
      intro blk hm
      obtain ⟨c', ao, vs, mk, m1, m2, _⟩ := hm
      rw [hc] at m1
      cases m1
      rw [m2] at hEc
      cases hEc
    rcases st'.main with ⟨h1, h2, h3, h4⟩ | ⟨vs, h1, h2, h3, h4, h5⟩
    · rw [hguard (by rw [hes2]; exact h1)]
      refine ⟨fun _ _ => trivial, ?_⟩
      obtain ⟨A', B'', sA', I'⟩ := I.write (u := undef) hst hor hmap hE ho hl hbef hp.dst hc hes2 st' t2' hek2 (by rw [h3]; exact .refl I.wr) (by rw [h2]; exact undef_vr) hnm
      exact ih _ _ _ _ _ _ I'
    · rw [hguard (by rw [hes2]; exact h1)]
      obtain ⟨os, k1, k2⟩ := hp.op
      refine step_op hT hk I.wr hGg k1 (hargs k1 k2 (by rw [hes2]; exact h2)) h3 fun g' w' u x1 x2 => ?_
      obtain ⟨A', B'', sA', I'⟩ := I.write hst hor hmap hE ho hl hbef hp.dst hc hes2 st' t2' hek2 x1 x2 hnm
      exact ih _ _ _ _ _ _ I'
  · -- it writes none: it stands in the stretch
    have heA : e ∈ A := by
      rw [I.tr] at heT
      rcases List.mem_append.1 heT with h | h
      · exact h
      · cases hBB : B with
        | nil => rw [hBB] at h; cases h
        | cons b B' =>
          rw [hBB] at h
          have hb := I.bnd b B' hBB
          rcases List.mem_cons.1 h with h | h
          · rw [h] at hE; exact absurd hb hE
          · obtain ⟨s1', s2', rfl⟩ := List.append_of_mem h
            have htr' : tr = (A ++ b :: s1') ++ e :: s2' := by rw [I.tr, hBB]; simp
            have hbl := hbef _ ((hor.pre ((A ++ b :: s1').map (·.i)) e.i (s2'.map (·.i)) (by rw [← hmap, htr']; simp)).2.2 b.i (List.mem_map.2 ⟨b, by simp, rfl⟩) hb)
            obtain ⟨y, hy, hyb⟩ := I.inA _ hbl
            have := (hor.pre (A.map (·.i)) b.i ((s1' ++ e :: s2').map (·.i)) (by rw [← hmap, I.tr, hBB]; simp)).2.1
            exact (this (by rw [← hyb]; exact List.mem_map.2 ⟨y, hy, rfl⟩)).elim
    rcases st.main with ⟨h1, h2, h3, h4⟩ | ⟨vs, h1, h2, h3, h4, h5⟩
    · rw [hguard (by rw [hes]; exact h1)]
      refine ⟨fun _ _ => trivial, ?_⟩
      exact ih _ _ _ _ _ _ (I.same hst hor hmap heA ho hl hbef hp.dst (.refl I.wr) (by rw [h2]; exact undef_vr))
    · rw [hguard (by rw [hes]; exact h1)]
      obtain ⟨os, k1, k2⟩ := hp.op
      have hv := hargs k1 k2 (by rw [hes]; exact h2)
      have quiet : c.op.run call vs sA.h = some (e.v, sA.h) → o.wpIn (fen rd) 0 P a w K Q := fun hrun =>
        step_op hT hk I.wr hGg k1 hv hrun fun g' w' u x1 x2 => ih _ _ _ _ _ _ (I.same hst hor hmap heA ho hl hbef hp.dst x1 x2)
      have h3' : c.op.run call vs s'.h = some (e.v, s1.h) := h3
      cases hop : c.op with
      | p po =>
        rw [hop] at h3'
        obtain ⟨x, k3, k4⟩ := ob_some.1 (show ob (po.run vs) (fun v => some (v, s'.h)) = some (e.v, s1.h) from h3')
        refine quiet ?_
        rw [hop]
        show ob (po.run vs) (fun v => some (v, sA.h)) = _
        rw [k3, (Prod.mk.inj (Option.some.inj k4)).1.symm]
        rfl
      | r ro =>
        rw [hop] at h3'
        obtain ⟨x, k3, k4⟩ := ob_some.1 (show ob (ro.run vs s'.h) (fun v => some (v, s'.h)) = some (e.v, s1.h) from h3')
        refine quiet ?_
        rw [hop]
        show ob (ro.run vs sA.h) (fun v => some (v, sA.h)) = _
        have hmem : (⟨ro, vs, e.v, nE cl A0, hiOf ops cl bs e.i⟩ : Tc) ∈ sn.cs := t2.cs _ (by rw [h4 ro hop]; exact List.mem_cons_self)
        have hrd := hchk _ hmem
        have hhs := htr.hs
        rw [hs0, List.append_nil, I.tr] at hhs
        have hat : (revL sn.hs [sn.h])[nE cl A]? = some sA.h := by
          rw [revL_eq, hhs, List.reverse_reverse, List.filter_append, List.map_append]
          have hlen : ((A.filter fun e => isEAt cl e.i).map fun e => e.s.h).length = nE cl A := by simp [nE]
          rw [List.append_assoc, List.getElem?_append_right (by rw [hlen]; exact Nat.le_refl _), hlen, Nat.sub_self]
          cases hBB : B with
          | nil =>
            have := I.tB
            rw [hBB] at this
            cases this
            rfl
          | cons b B' =>
            have hb := I.bnd b B' hBB
            have := I.tB
            rw [hBB] at this
            obtain ⟨q1, _⟩ := this.head
            rw [List.filter_cons, if_pos hb, List.map_cons, q1]
            rfl
        have hlo : nE cl A0 ≤ nE cl A := by
          obtain ⟨z1, z2, rfl⟩ := List.append_of_mem heA
          have hA0 : A0 = z1 := by
            refine pre_unique (A1 := A1) (z2 := z2 ++ B) (e := e) (by rw [← hA, I.tr]; simp) (fun h => ?_) fun h => ?_
            · have := (hor.pre (z1.map (·.i)) e.i ((z2 ++ B).map (·.i)) (by rw [← hmap, I.tr]; simp)).2.1
              exact this (List.mem_map.2 ⟨e, h, rfl⟩)
            · have := (hor.pre (A0.map (·.i)) e.i (A1.map (·.i)) (by rw [← hmap, hA]; simp)).2.1
              exact this (List.mem_map.2 ⟨e, h, rfl⟩)
          subst hA0
          simp [nE, List.filter_append]
        have := hrd (nE cl A) _ hat hlo (nE_le hor hmap hcl I hl)
        simp only at this
        rw [this]
        rfl
      | a ao =>
        rw [hop] at h3'
        obtain ⟨p, k3, k4⟩ := ob_some.1 (show ob (ao.run vs) (fun r => ob (s'.h.new r.1) fun h' => some (r.2 s'.h.next, h')) = some (e.v, s1.h) from h3')
        obtain ⟨h', k5, k6⟩ := ob_some.1 k4
        have hev : e.v = p.2 e.s.h.next := by rw [hes]; exact (Prod.mk.inj (Option.some.inj k6)).1.symm
        have hmade : Made cl e p.1 := ⟨c, ao, vs, p.2, hc, hop, by rw [hes]; exact h1, by rw [hes]; exact h2, k3, hev⟩
        rw [hop] at k1
        obtain ⟨obj, val, g', n1, I'⟩ := I.make (ρ := a.eval) (op := o.op) hst hor hmap heA ho hl hbef hp.dst hmade (A_ok hT k1 hv k3) hev
        refine ⟨fun _ _ => trivial, ?_⟩
        rw [Oper.semAt_eq _ _ _ (compOp_defer k1), n1 w o rfl, Oper.uponIn_value]
        exact ih _ _ _ _ _ _ I'
      | e eo => exact absurd (by rw [isEAt_eq hc, hop]; rfl) hE
      | call f => exact absurd (by rw [isEAt_eq hc, hop]; rfl) hE
      | callv => exact absurd (by rw [isEAt_eq hc, hop]; rfl) hE
theorem draw_steps (hT : TyOk P T) (hk : CallOk P T call) (hcl0 : mapO (compOper T m N ops) ops.toList = some cl) (hst : Static T ops bs) (hor : Order ops cl bs ord) (hmap : tr.map (·.i) = ord) (htr : Trace call cl (hiOf ops cl bs) 0 s0 tr sn)
    (hs0 : s0.hs = []) (hchk : Checked sn.cs (revL sn.hs [sn.h])) (hG : Glob T g0 s0.h) (F0 : FR g0 m N s0.f a0.tmps) {rd : Option Nat} {Q : Exit → Act → World → Prop}
    (hQ : ∀ g' a' w', Ext T g0 s0.h w0 g' sn.h w' → FR g' m N sn.f a'.tmps → a'.defers = a0.defers → Q .normal a' w') : ∀ (fuel : Nat) (listed : Array Bool) (a : Act) (w : World) (g : G) (A B : List Ent) (sA : St),
    Inv T m N call ops cl (hiOf ops cl bs) bs s0 tr sn g0 a0 w0 listed a w g A B sA → left ops listed ≤ fuel → wpAnyIn (fen rd) 0 P .any ops Q fuel listed a w := by
  have hcl : ∀ (i : Nat) c, cl[i]? = some c → ∃ o, ops[i]? = some o ∧ Parts T m N ops o c := by
    intro i c hc
    obtain ⟨hlen, hall⟩ := mapO_some hcl0
    have hi : i < ops.toList.length := by
      rw [← hlen]
      rcases Nat.lt_or_ge i cl.length with k | k
      · exact k
      · rw [List.getElem?_eq_none k] at hc; cases hc
    obtain ⟨b, h1, h2⟩ := hall i _ (List.getElem?_eq_getElem hi)
    rw [hc] at h1
    cases h1
    exact ⟨_, by rw [← Array.getElem?_toList]; exact List.getElem?_eq_getElem hi, compOper_parts h2⟩
  intro fuel
  induction fuel with
  | zero =>
    intro listed a w g A B sA I hf
    have hall := left_zero (Nat.le_zero.1 hf)
    refine ⟨?_, ?_⟩
    · unfold Region.ready
      rw [List.filter_eq_nil_iff]
      intro i hi
      rw [List.mem_range] at hi
      have := hall i hi
      rw [Array.getD_eq_getD_getElem?, Array.getElem?_eq_getElem (by rw [I.size]; exact hi)] at this
      rw [Array.getD_eq_getD_getElem?, Array.getElem?_eq_getElem (by rw [I.size]; exact hi)]
      simp only [Option.getD_some] at this ⊢
      rw [this]
      simp
    · obtain ⟨x1, x2, x3⟩ := I.done hor hmap hcl hst F0 hall
      exact hQ _ _ _ x1 x2 x3
  | succ fuel ih =>
    intro listed a w g A B sA I hf
    refine ⟨fun hn => ?_, fun i hi => ?_⟩
    · obtain ⟨x1, x2, x3⟩ := I.done hor hmap hcl hst F0 (ready_nil hst I.size hn)
      exact hQ _ _ _ x1 x2 x3
    · obtain ⟨hlt, hl, o, ho, hedge⟩ := ready_mem I.size hi
      have hbef : ∀ j, bit (bitsAt bs i) j = true → listed.getD j false = true := by
        intro j hj
        obtain ⟨e, he, hb, h⟩ := hst.before i o ho j hj
        rcases h with rfl | h
        · exact hedge e he hb
        · exact I.closed _ (hedge e he hb) _ h
      have hleft : left ops (listed.setIfInBounds i true) ≤ fuel := by
        have := left_set I.size hlt hl
        omega
      exact draw_step hT hk hcl hst hor hmap htr hs0 hchk hG F0 I hlt hl ho hbef fun a w g A B sA I' => ih _ _ _ _ _ _ _ I' hleft
/-- A region that draws its order. -/
theorem draw_ok (hT : TyOk P T) (hk : CallOk P T call) (hm : P.follows .mixedOrders = true) {id : Nat} {l : List COper} (hcl : mapO (compOper T m N ops) ops.toList = some cl) (hd : compD T cl ops = some l) {f0 : F} {h0 : H} {s : St} (hr : runOpsD call l ⟨f0, h0, [], []⟩ = some s) (hchk : (Bool.rec (motive := fun _ => Bool) (checkAll s.cs (revL s.hs [s.h])) true (quiet l) : Bool) = true)
    {g : G} {a : Act} {w : World} (r : WR T g h0 w) (hG : Glob T g h0) (F0 : FR g m N f0 a.tmps) {rd : Option Nat} {Q : Exit → Act → World → Prop}
    (hQ : ∀ g' a' w', Ext T g h0 w g' s.h w' → FR g' m N s.f a'.tmps → a'.defers = a.defers → Q .normal a' w') : (Code.region id ops true).wpIn (fen rd) 0 P Q a w := by
  obtain ⟨bs, ord, hst, hor, hlh⟩ := compD_ok hd
  obtain ⟨tr, htr, hmap⟩ := trace_of hlh hr
  refine wpIn_region_any hm ?_
  have r1 : WR T g h0 { w with drawn := w.drawn + 1 } := r.drew1
  obtain ⟨S, B', s', q1, q2, q3, q4, q5, q6, q7, q8, q9, q10⟩ := seg_ok htr (g := g) (w := { w with drawn := w.drawn + 1 }) r1
  have hx0 : Ext T g h0 w g h0 { w with drawn := w.drawn + 1 } := ⟨g.le_refl, Nat.le_refl _, r1, fun _ _ e => ⟨e, rfl⟩, Nat.le_refl _, fun _ _ _ => rfl, (fun id b o z h1 h2 => by rw [h2] at h1; cases h1), fun _ _ _ _ _ _ _ e => ⟨e, rfl⟩, rfl, rfl, rfl⟩
  have getD0 : ∀ i, (Array.replicate ops.size false).getD i false = false := by
    intro i
    rw [Array.getD_eq_getD_getElem?, Array.getElem?_replicate]
    split <;> rfl
  have hnE : nE cl S = 0 := by
    unfold nE
    rw [List.length_eq_zero_iff, List.filter_eq_nil_iff]
    intro y hy
    rw [q5 y hy]
    decide
  have I : Inv T m N call ops cl (hiOf ops cl bs) bs ⟨f0, h0, [], []⟩ tr s g a w (Array.replicate ops.size false) a { w with drawn := w.drawn + 1 } g S B' s' :=
    ⟨q1, q2, by rw [hnE]; exact q3, q4, q6, hx0.mem q6 q7 q8, by simp, (fun i hi => by rw [getD0] at hi; cases hi), (fun e he hE => by rw [q5 e he] at hE; cases hE), (fun i hi => by rw [getD0] at hi; cases hi), F0.1, fun _ _ => rfl, (fun e _ hl => by rw [getD0] at hl; cases hl),
      (fun e he blk hm _ => by
        obtain ⟨z1, z2, z3⟩ := q9 e he blk hm
        refine ⟨?_, z3, z1⟩
        cases hg : g e.s.h.next with
        | none => rfl
        | some p => exact absurd (r.dom _ _ hg) (by have z1 : h0.next ≤ e.s.h.next := z1; omega)), (fun e he blk hm => (q9 e he blk hm).2.1), q10, rfl⟩
  refine draw_steps hT hk hcl hst hor hmap htr rfl (checked_ok hr hchk) hG F0 hQ ops.size _ a _ g S B' s' I ?_
  unfold left
  refine Nat.le_trans (List.length_filter_le _ _) ?_
  simp
end
end Ev
end Go.Proofs.YtogbcielgfidlaaGreatDoor
